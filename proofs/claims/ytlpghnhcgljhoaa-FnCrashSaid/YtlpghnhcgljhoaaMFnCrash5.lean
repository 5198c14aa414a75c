/- Part 5 of 5 of the proof that the law FnCrash returns true at every input. No further condition. -/
import Derived.ChangeArms
import Derived.DataReads
import Derived.Laws.CopyOwn
import Derived.Test.YtlpghnhcgljhoaaRows
import Derived.WalkKit
import Derived.ProofKit
import Derived.OpenShut
import Derived.ShutString
import Derived.ChangeOld
import Derived.Below
import Derived.SizedLaws
import Derived.Test.YtlpghnhcgljhoaaMFnCrash4
section
namespace Go.Proofs.Ytlpghnhcgljhoaa.Q
open Go.RowKit Go.Proofs.YtlpghnhcgljhoaaW.PrintWords Go.Proofs.YtlpghnhcgljhoaaW.PrintLast Go.Proofs.Ytlpghnhcgljhoaa.LK Go.Proofs.YtlpghnhcgljhoaaW.PrintMore Go.Proofs.Ytlpghnhcgljhoaa.SP
set_option linter.unusedVariables false
mutual
def laws_FnCrash.l0 : Nat → Int → List Int → List (S43) → Int → Bool → List Int → List (S43) → Int → Bool → List Int → List (S43) → Int → Bool → Option (Bool)
  | 0, _, _, _, _, _, _, _, _, _, _, _, _, _ => none
  | k + 1, x7, x115000, x115001, x115002, x115003, x135000, x135001, x135002, x135003, x144000, x144001, x144002, x144003 => if (wrap64 (64 * x7)) < (x115000.length : Int) then ((impl_DevRead.f x135000 x135001 x135002 x135003 x7).bind fun t144 => ((spec_DevRead.f k x144000 x144001 x144002 x144003 x7).bind fun t147 => ((laws_lwBytes.f t144 t147).bind fun t150 => (if t150 = true then (laws_FnCrash.l0 k (wrap64 (x7 + 1)) x115000 x115001 x115002 x115003 x135000 x135001 x135002 x135003 x144000 x144001 x144002 x144003) else (some false))))) else ((impl_DevCrash.f x115000 x115001 x115002 x115003 ([] : List Bool) (-1) 0).bind fun bt151 => ((laws_lwBytes.f bt151.1 x115000).bind fun t159 => (if t159 = true then (laws_FnCrash.l1 k 0 x115000 x115001 x115002 x115003 ([] : List Bool) (-1) 0) else (some false))))
def laws_FnCrash.l1 : Nat → Int → List Int → List (S43) → Int → Bool → List Bool → Int → Int → Option (Bool)
  | 0, _, _, _, _, _, _, _, _ => none
  | k + 1, x9, x115000, x115001, x115002, x115003, x161000, x161001, x161002 => if x9 < (x115001.length : Int) then (if x161000.length < 140737488355328 then (laws_FnCrash.l1 k (wrap64 (x9 + 1)) x115000 x115001 x115002 x115003 (x161000 ++ [true]) x161001 x161002) else (none)) else (if x115003 = true then (some true) else (if x115002 = 0 then (some true) else ((impl_DevCrash.f x115000 x115001 x115002 x115003 x161000 x161001 x161002).bind fun bt164 => ((impl_DevSync.f x115000 x115001 x115002 x115003).bind fun bt172 => ((laws_lwBytes.f bt164.1 bt172.1).bind fun t180 => (some t180))))))
end
def laws_FnCrash.f (k : Nat) (l0 : List Int) : Option (Bool) := if (l0.length : Int) > 1048576 then (some true) else ((spec_DrawDevCrash.f k l0).bind fun bt101 => ((spec_ValidDev.f k bt101.1 bt101.2.1 bt101.2.2.1 bt101.2.2.2.1).bind fun t116 => (if t116 = true then ((impl_DevCrash.f bt101.1 bt101.2.1 bt101.2.2.1 bt101.2.2.2.1 bt101.2.2.2.2.1 bt101.2.2.2.2.2.1 bt101.2.2.2.2.2.2).bind fun bt126 => ((spec_DevCrash.f k bt101.1 bt101.2.1 bt101.2.2.1 bt101.2.2.2.1 bt101.2.2.2.2.1 bt101.2.2.2.2.2.1 bt101.2.2.2.2.2.2).bind fun bt135 => (laws_FnCrash.l0 k 0 bt101.1 bt101.2.1 bt101.2.2.1 bt101.2.2.2.1 bt126.1 bt126.2.1 bt126.2.2.1 bt126.2.2.2 bt135.1 bt135.2.1 bt135.2.2.1 bt135.2.2.2))) else ((impl_DevCrash.f bt101.1 bt101.2.1 bt101.2.2.1 bt101.2.2.2.1 bt101.2.2.2.2.1 bt101.2.2.2.2.2.1 bt101.2.2.2.2.2.2).bind fun bt117 => (if (bt117.1.length : Int) = 0 then ((impl_ValidDev.f k bt101.1 bt101.2.1 bt101.2.2.1 bt101.2.2.2.1).bind fun t125 => (some (!t125))) else (some false))))))
def laws_FnCrash.l0a {z1 : Nat} {z2 : Int} {z3 : List Int} {z4 : List (S43)} {z5 : Int} {z6 : Bool} {z7 : List Int} {z8 : List (S43)} {z9 : Int} {z10 : Bool} {z11 : List Int} {z12 : List (S43)} {z13 : Int} {z14 : Bool} {q_ : Option (Bool)} (_ : Aside0 (laws_FnCrash.l0 z1 z2 z3 z4 z5 z6 z7 z8 z9 z10 z11 z12 z13 z14 = q_)) : (List Int) × (List (S43)) × Int × Bool × (List Int) × (List (S43)) × Int × Bool × (List Int) × (List (S43)) × Int × Bool := (z3, z4, z5, z6, z7, z8, z9, z10, z11, z12, z13, z14)
theorem laws_FnCrash.loop0 {G : Prop} (h : G := by
    obtain ⟨L0, hL⟩ := lpSet H
    go_loopg [7] k (fun kq v7 w' => ∃ (x7_1 : Int), Aside0 (laws_FnCrash.l0 kq x7_1 (laws_FnCrash.l0a E).1 (laws_FnCrash.l0a E).2.1 (laws_FnCrash.l0a E).2.2.1 (laws_FnCrash.l0a E).2.2.2.1 (laws_FnCrash.l0a E).2.2.2.2.1 (laws_FnCrash.l0a E).2.2.2.2.2.1 (laws_FnCrash.l0a E).2.2.2.2.2.2.1 (laws_FnCrash.l0a E).2.2.2.2.2.2.2.1 (laws_FnCrash.l0a E).2.2.2.2.2.2.2.2.1 (laws_FnCrash.l0a E).2.2.2.2.2.2.2.2.2.1 (laws_FnCrash.l0a E).2.2.2.2.2.2.2.2.2.2.1 (laws_FnCrash.l0a E).2.2.2.2.2.2.2.2.2.2.2 = some true) ∧ Aside0 (kq ≤ k) ∧ v7 = .int .i64 x7_1 ∧ Aside0 (Sep w L0 w'))
    case atStart => cases hL.out; exact relM
    case round =>
      clear H
      cases hL.out
      obtain ⟨x7_1, E, ⟨K⟩, rfl, H⟩ := hrel
      cases gk with
      | zero => simp only [laws_FnCrash.l0] at E; exact esN E
      | succ k => simp only [laws_FnCrash.l0] at E; dsimp only [laws_FnCrash.l0a] at E; exact walkM) : G := h
def laws_FnCrash.l1a {z1 : Nat} {z2 : Int} {z3 : List Int} {z4 : List (S43)} {z5 : Int} {z6 : Bool} {z7 : List Bool} {z8 : Int} {z9 : Int} {q_ : Option (Bool)} (_ : Aside0 (laws_FnCrash.l1 z1 z2 z3 z4 z5 z6 z7 z8 z9 = q_)) : (List Int) × (List (S43)) × Int × Bool := (z3, z4, z5, z6)
theorem laws_FnCrash.loop1 {G : Prop} (h : G := by
    obtain ⟨G1_, X10_, X11_, X12_, L1_, hG1, hX10_, hX11_, hX12_, hL1⟩ := lpB3 28 H
    obtain ⟨Mu161000_, hMu161000_⟩ := lpRn Kd.bool 4 hX10_ hL1
    go_loopg [9] k (fun kq v9 w' => ∃ (x9_2 : Int) (x161000_2 : List Bool) (A_u161000 : Option Addr) (n_u161000 : Nat) (c_u161000 : Nat), Aside0 (laws_FnCrash.l1 kq x9_2 (laws_FnCrash.l1a E).1 (laws_FnCrash.l1a E).2.1 (laws_FnCrash.l1a E).2.2.1 (laws_FnCrash.l1a E).2.2.2 x161000_2 (-1) 0 = some true) ∧ Aside0 (kq ≤ k) ∧ v9 = .int .i64 x9_2 ∧ Aside0 (Sep w (box G1_ #[.slice A_u161000 n_u161000 c_u161000, X11_, X12_] 28 :: row Kd.bool 4 (.slice A_u161000 n_u161000 c_u161000) x161000_2 :: Mu161000_) w'))
    case atStart => cases hG1.out; cases hX10_.out; cases hX11_.out; cases hX12_.out; cases hL1.out; cases hMu161000_.out; exact relM
    case round =>
      clear H
      cases hG1.out
      cases hX10_.out
      cases hX11_.out
      cases hX12_.out
      cases hL1.out
      cases hMu161000_.out
      obtain ⟨x9_2, x161000_2, A_u161000, n_u161000, c_u161000, E, ⟨K⟩, rfl, H⟩ := hrel
      cases gk with
      | zero => simp only [laws_FnCrash.l1] at E; exact esN E
      | succ k => simp only [laws_FnCrash.l1] at E; dsimp only [laws_FnCrash.l1a] at E; exact walkM) : G := h
set_option maxHeartbeats 8000000 in
set_option maxRecDepth 100000 in
instance laws_FnCrash.con {k : Nat} {A0 : Option Addr} {c0 : Nat} {l0 : List Int} {n0 : Nat} : Con Try.prog 3 (laws_FnCrash.f k l0) true #[.slice A0 n0 c0] (fun w => Kd.C (Kd.int .u8) w A0 n0 l0 ∧ l0.length ≤ c0) (fun _ => .bool true) (fun _ => []) := ⟨fun w ⟨p0, p1⟩ E => by
  obtain rfl := p0.1
  replace p0 := Aside0.mk p0
  replace p1 := Aside0.mk p1
  have H := Aside0.mk (Sep.refl w)
  replace E := Aside0.mk E
  unfold laws_FnCrash.f at E
  go_in
  exact walkM⟩
end Go.Proofs.Ytlpghnhcgljhoaa.Q
end
section
namespace Go.Proofs.Ytlpghnhcgljhoaa.Q
open Go.RowKit Go.Proofs.YtlpghnhcgljhoaaW.PrintWords Go.Proofs.YtlpghnhcgljhoaaW.PrintLast Go.Proofs.Ytlpghnhcgljhoaa.LK Go.Proofs.YtlpghnhcgljhoaaW.PrintMore Go.Proofs.Ytlpghnhcgljhoaa.SP
set_option linter.unusedVariables false
theorem laws_FnCrash.calls (k : Nat) (A0 : Option Addr) (c0 : Nat) (l0 : List Int) (w : World) (hr0 : Kd.C (Kd.int .u8) w A0 l0.length l0) (hc0 : l0.length ≤ c0) (h : laws_FnCrash.f k l0 = some true) :
    Calls Try.prog 3 #[.slice A0 l0.length c0] w fun e w' => e = .returned (.bool true) ∧ Below w.heap.size w w' := by
  refine Calls.mono (Con.c w ?_ h) ?_
  · (repeat' (first | exact trivial | assumption | apply And.intro))
  rintro e w' ⟨q, he, H⟩
  exact ⟨he, H.below⟩
end Go.Proofs.Ytlpghnhcgljhoaa.Q
end
section
namespace Go.Proofs.Ytlpghnhcgljhoaa.O
open Go.RowKit Go.Proofs.YtlpghnhcgljhoaaW.PrintWords
def Opens {α : Type} (P : Program) (t : TypeId) (d : Kd α) (ok : α → Prop) : Prop :=
  ∀ (H : Type) (enc : TypeId × Value → H) (w : World) (fuel : Nat) (cs : List Value) (y : DataW H × List MemPlace),
    DataW.trod enc P w 0 (fun _ => true) true fuel t cs = some y → ∃ x, d.K w x cs ∧ ok x
section
variable {α β : Type} {P : Program} {t e : TypeId} {d : Kd α} {ok : α → Prop}
theorem opens_int {k : IntKind} (ht : P.underlying t = some (.int k)) : Opens P t (Kd.int k) (fun n => (Lit.int k n).wf = true) := by
  intro H enc w fuel cs y h
  obtain ⟨n, rfl, _, hw⟩ := DataW.trod_int ht h
  exact ⟨n, rfl, hw⟩
theorem list_of {p : Nat → α → Prop} : ∀ n, (∀ i, i < n → ∃ x, p i x) → ∃ xs : List α, xs.length = n ∧ ∀ i x, xs[i]? = some x → p i x
  | 0, _ => ⟨[], rfl, by simp⟩
  | n + 1, h => by
    obtain ⟨xs, hl, hp⟩ := list_of n (fun i hi => h i (by omega))
    obtain ⟨x, hx⟩ := h n (by omega)
    refine ⟨xs ++ [x], by simp [hl], fun i z hz => ?_⟩
    by_cases hi : i < n
    · rw [List.getElem?_append_left (by omega)] at hz
      exact hp i z hz
    · have : i < n + 1 := by
        have := (List.getElem?_eq_some_iff.1 hz).1
        simp [hl] at this
        exact this
      obtain rfl : i = n := by omega
      rw [List.getElem?_append_right (by omega)] at hz
      simp [hl] at hz
      exact hz ▸ hx
theorem opens_slice (ht : P.underlying t = some (.slice e)) (hc : P.cellsOf e = d.sz) (he : Opens P e d ok) :
    Opens P t (Kd.slice e d) (fun xs => xs.length ≤ 9223372036854775807 ∧ ∀ x ∈ xs, ok x) := by
  intro H enc w fuel cs y h
  rcases DataW.trod_slice ht h with ⟨rfl, _⟩ | ⟨a, len, cap, elems, rest, n, _, rfl, _, _, hl, hm, hlen, hel, _, _⟩
  · exact ⟨[], ⟨none, 0, rfl, Nat.le_refl _, Kd.C_nil d w⟩, by simp, by simp⟩
  · have each : ∀ i, i < len → ∃ x, ∃ c, w.cells? 0 (a.add (i * d.sz)) d.sz = some c ∧ d.K w x c ∧ ok x := by
      intro i hi
      have h1 := hel i hi
      rw [hc, List.getElem?_eq_getElem (by omega)] at h1
      obtain ⟨c, h2, h3⟩ := Option.bind_eq_some_iff.1 h1
      obtain ⟨x, hx, hok⟩ := he H enc w n c _ h3
      exact ⟨x, c, h2, hx, hok⟩
    obtain ⟨xs, hxl, hxs⟩ := list_of len each
    refine ⟨xs, ⟨some a, cap, by rw [hxl], by omega, ?_⟩, by unfold maxLen at hm; omega, fun x hx => ?_⟩
    · refine ⟨rfl, by unfold maxLen at hm; omega, fun _ => ⟨a, rfl, fun j p hp => ?_⟩⟩
      obtain ⟨c, h2, h3, _⟩ := hxs j p hp
      refine ⟨c, d.K_len h3, h3, fun i u hu => ?_⟩
      have hi : i < c.length := (List.getElem?_eq_some_iff.1 hu).1
      have h4 := World.cells?_some h2
      rw [d.K_len h3] at hi
      rw [← Addr.add_add, (h4.2.2 i hi), hu]
    · obtain ⟨i, hi⟩ := List.getElem?_of_mem hx
      obtain ⟨_, _, _, hok⟩ := hxs i x hi
      exact hok
end
end Go.Proofs.Ytlpghnhcgljhoaa.O
end
section
namespace Go.Proofs.Ytlpghnhcgljhoaa.Q
open Go.RowKit Go.Proofs.YtlpghnhcgljhoaaW.PrintWords Go.Proofs.YtlpghnhcgljhoaaW.PrintLast Go.Proofs.Ytlpghnhcgljhoaa.O
def laws_FnCrash.Pure : Prop := ∀ (l0 : List Int) , (l0.length ≤ 9223372036854775807 ∧ ∀ z_ ∈ l0, (Lit.int .u8 z_).wf = true) → ∃ k, laws_FnCrash.f k l0 = some true
end Go.Proofs.Ytlpghnhcgljhoaa.Q
end
section
namespace Go.Proofs.Ytlpghnhcgljhoaa.P
open Go.RowKit Go.Proofs.YtlpghnhcgljhoaaW.PrintWords Go.Proofs.Ytlpghnhcgljhoaa.Q
set_option linter.unusedVariables false
set_option linter.unusedSimpArgs false
theorem copy_ev (l0 : List Int) (l1 : List S43) (a2 : Int) (a3 : Bool) (h0 : l0.length ≤ 2097152) (h : l1.length ≤ 2097152) (hp : ∀ p ∈ l1, p.f1.length ≤ 2097152) : Ev (fun k => spec_l1Copy.f k l0 l1 a2 a3) (l0, l1, a2, a3) := by
  have h1 := Ev.loop0 (fun k (s : Int × List S43) => spec_l1Copy.l0 k s.1 l0 l1 a2 a3 l0 s.2 a2 a3) (fun i => ((i : Int), l1.take i)) l1.length (l0, l1, a2, a3) ?_ ?_
  · simp only [spec_l1Copy.f, Option.bind_some, List.length_nil, List.nil_append]
    exact Ev.pos (by omega) h1
  · intro i hi
    obtain ⟨p, hat⟩ := some_at hi
    have hpl := hp p (List.mem_of_getElem? hat)
    have ht : (l1.take i).length = i := by rw [List.length_take]; omega
    refine ⟨0, fun k _ => ?_⟩
    simp only [spec_l1Copy.l0, Option.bind_some, List.length_nil, List.nil_append]
    rw [if_pos (by omega), if_pos (by omega), rdP_at hat, if_pos (by omega), if_pos (by omega), w64s hi (by omega), List.take_add_one, hat]
    rfl
  · refine Ev.last ⟨0, fun k _ => ?_⟩
    simp only [spec_l1Copy.l0]
    rw [if_neg (by omega), List.take_length]
theorem step_ev (l0 : List Int) (l1 : List S43) (a2 : Int) (a3 : Bool) (h0 : l0.length ≤ 2097152) (h : l1.length ≤ 2097152) (hp : ∀ p ∈ l1, p.f1.length ≤ 2097152) (hf : -1 ≤ a2 ∧ a2 ≤ 1000000) : Ev (fun k => spec_l1Step.f k l0 l1 a2 a3) (l0, l1, fuelOf a2, deadOf a2 a3) := by
  simp only [spec_l1Step.f]
  refine Ev.bind (copy_ev l0 l1 a2 a3 h0 h hp) (Ev.const ?_)
  unfold fuelOf deadOf
  dsimp only
  by_cases c0 : a2 = 0
  · rw [if_pos c0, if_neg (by omega), if_pos c0]
  · rw [if_neg c0, if_neg c0]
    by_cases c1 : a2 > 0
    · rw [if_pos c1, if_pos c1, w64 (n := a2 - 1) (by omega) (by omega)]
    · rw [if_neg c1, if_neg c1]
end Go.Proofs.Ytlpghnhcgljhoaa.P
end
section
namespace Go.Proofs.Ytlpghnhcgljhoaa.P
open Go.RowKit Go.Proofs.YtlpghnhcgljhoaaW.PrintWords Go.Proofs.Ytlpghnhcgljhoaa.Q
set_option linter.unusedVariables false
set_option linter.unusedSimpArgs false
theorem over_is (l : List Int) (s : Int) (data : List Int) (h0 : 0 ≤ s) (h1 : s * 64 + data.length ≤ l.length) (hl : l.length ≤ 2097152) : spec_l1Over.f l s data = some (splice l (s * 64).toNat data) := by
  have e1 : wrap64 (s * 64) = s * 64 := w64 (n := s * 64) (by omega) (by omega)
  have e2 : wrap64 (s * 64 + (data.length : Int)) = s * 64 + data.length := w64 (n := s * 64 + data.length) (by omega) (by omega)
  simp only [spec_l1Over.f, e1, e2, Option.bind_some, List.length_nil, List.nil_append]
  clear e1 e2
  rw [if_pos (by omega), if_pos (by omega), if_pos (by rw [List.length_take]; omega), if_pos (by rw [List.length_take]; omega), if_pos (by omega), if_pos (by omega), if_pos (by rw [List.length_append, List.length_take, List.length_drop]; omega)]
  unfold splice
  rw [show (s * 64 + (data.length : Int)).toNat = (s * 64).toNat + data.length from by omega, List.append_assoc]
end Go.Proofs.Ytlpghnhcgljhoaa.P
end
section
namespace Go.Proofs.Ytlpghnhcgljhoaa.P
open Go.RowKit Go.Proofs.YtlpghnhcgljhoaaW.PrintWords Go.Proofs.YtlpghnhcgljhoaaW.PrintMore Go.Proofs.Ytlpghnhcgljhoaa.Q
set_option linter.unusedVariables false
set_option linter.unusedSimpArgs false
theorem and_byte (x : Int) : 0 ≤ Go.bits .and .i64 x 255 ∧ Go.bits .and .i64 x 255 ≤ 255 := by
  have h : (BitVec.ofInt 64 x).toNat &&& 255 < 2 ^ 8 := Nat.and_lt_two_pow _ (by decide)
  unfold Go.bits
  rw [IntKind.wrap_i64]
  have e : ((BitVec.ofInt IntKind.i64.bits x) &&& (BitVec.ofInt IntKind.i64.bits 255)).toNat = (BitVec.ofInt 64 x).toNat &&& 255 := by
    rw [BitVec.toNat_and]
    rfl
  simp only [e]
  omega
def Cur (l : List Int) (i : Int) : Prop := 0 ≤ i ∧ i ≤ l.length
theorem byte_is {l : List Int} {i h : Int} (hl : l.length ≤ 1048576) (hc : Cur l i) : ∃ x i' h', spec_l1Byte.f l i h = some (x, i', h') ∧ 0 ≤ x ∧ x ≤ 255 ∧ Cur l i' := by
  unfold Cur at *
  simp only [spec_l1Byte.f]
  by_cases c : i < (l.length : Int)
  · rw [if_pos c, if_pos hc.1]
    refine ⟨_, _, _, rfl, (and_byte _).1, (and_byte _).2, ?_⟩
    rw [w64 (n := i + 1) (by omega) (by omega)]
    omega
  · rw [if_neg c]
    exact ⟨_, _, _, rfl, (and_byte _).1, (and_byte _).2, hc⟩
theorem tmod_range {x n : Int} (h0 : 0 ≤ x) (hn : 0 < n) : 0 ≤ Int.tmod x n ∧ Int.tmod x n < n := by
  rw [Int.tmod_eq_emod_of_nonneg h0]
  exact ⟨Int.emod_nonneg _ (by omega), Int.emod_lt_of_pos _ hn⟩
theorem below_is {l : List Int} {i h n : Int} (hl : l.length ≤ 1048576) (hc : Cur l i) (hn : 0 < n) : ∃ x i' h', spec_l1Below.f l i h n = some (x, i', h') ∧ 0 ≤ x ∧ x < n ∧ Cur l i' := by
  simp only [spec_l1Below.f]
  by_cases c : n ≤ 256
  · rw [if_pos c]
    obtain ⟨x, i', h', e, h0, h1, hc'⟩ := byte_is (h := h) hl hc
    rw [e, Option.bind_some, if_neg (by omega)]
    exact ⟨_, _, _, rfl, (tmod_range h0 hn).1, (tmod_range h0 hn).2, hc'⟩
  · rw [if_neg c]
    obtain ⟨x, i', h', e, h0, h1, hc'⟩ := byte_is (h := h) hl hc
    rw [e, Option.bind_some]
    obtain ⟨y, i2, h2, e2, y0, y1, hc2⟩ := byte_is (h := h') hl hc'
    rw [e2, Option.bind_some]
    obtain ⟨z, i3, h3, e3, z0, z1, hc3⟩ := byte_is (h := h2) hl hc2
    rw [e3, Option.bind_some, if_neg (by omega)]
    have ew : wrap64 (wrap64 (wrap64 (x * 65536) + wrap64 (y * 256)) + z) = x * 65536 + y * 256 + z := by
      rw [w64 (n := x * 65536) (by omega) (by omega), w64 (n := y * 256) (by omega) (by omega), w64 (n := x * 65536 + y * 256) (by omega) (by omega), w64 (n := x * 65536 + y * 256 + z) (by omega) (by omega)]
    rw [ew]
    exact ⟨_, _, _, rfl, (tmod_range (by omega) hn).1, (tmod_range (by omega) hn).2, hc3⟩
theorem once_is {l : List Int} {i h n : Int} (hl : l.length ≤ 1048576) (hc : Cur l i) (hn : 0 < n) : ∃ b i' h', spec_l1Once.f l i h n = some (b, i', h') ∧ Cur l i' := by
  obtain ⟨x, i', h', e, -, -, hc'⟩ := below_is (h := h) hl hc hn
  simp only [spec_l1Once.f, e, Option.bind_some]
  exact ⟨_, _, _, rfl, hc'⟩
theorem zeros_ev (n : Nat) (h : n ≤ 1048576) : Ev (fun k => spec_l1Zeros.f k (n : Int)) (List.replicate n 0) := by
  refine Ev.congr (fun k => ?_) (Ev.loop0 (fun k (s : List Int × Int) => spec_l1Zeros.l0 k (n : Int) s.1 s.2) (fun i => (List.replicate i 0, (i : Int))) n (List.replicate n 0) ?_ ?_)
  · rfl
  · intro i hi
    refine ⟨0, fun k _ => ?_⟩
    simp only [spec_l1Zeros.l0]
    rw [if_pos (by omega), if_pos (by rw [List.length_replicate]; omega), w64s hi (by omega), List.replicate_succ']
  · refine Ev.last ⟨0, fun k _ => ?_⟩
    simp only [spec_l1Zeros.l0]
    rw [if_neg (by omega)]
theorem crash_step {l : List Int} {ps : List S43} {keep : List Bool} {tear at_ : Int} {i : Nat} {p : S43} (h : ps[i]? = some p) : crashTo l ps keep tear at_ (i + 1) = splice (crashTo l ps keep tear at_ i) (p.f0 * 64).toNat (p.f1.take (crashN keep tear at_ i)) := by rw [crashTo, h]
theorem splice_none {l : List Int} {o : Nat} : splice l o ([] : List Int) = l := by unfold splice; simp
theorem crash_loop_ev (l0 : List Int) (l1 : List S43) (a2 : Int) (a3 : Bool) (keep : List Bool) (tear at_ : Int) (hl : l0.length ≤ 1048576) (h : l1.length ≤ 1048576) (hd : ∀ p ∈ l1, 0 ≤ p.f0 ∧ p.f0 < ((l0.length / 64 : Nat) : Int) ∧ p.f1.length = 64) (hk : keep.length ≤ 1048576) (x : Int) (hx : x = min (max at_ 0) 64) :
    Ev (fun k => spec_DevCrash.l0 k x l0 0 l0 l1 a2 a3 keep tear at_) (crashTo l0 l1 keep tear at_ l1.length, [], -1, false) := by
  refine Ev.loop0 (fun k (s : List Int × Int) => spec_DevCrash.l0 k x s.1 s.2 l0 l1 a2 a3 keep tear at_) (fun i => (crashTo l0 l1 keep tear at_ i, (i : Int))) l1.length (crashTo l0 l1 keep tear at_ l1.length, [], -1, false) ?_ ?_
  · intro i hi
    obtain ⟨p, hat⟩ := some_at hi
    have hq := hd p (List.mem_of_getElem? hat)
    have hlen := crashTo_length l0 l1 keep tear at_ (fun q hq => by have := hd q hq; omega) i
    refine ⟨0, fun k _ => ?_⟩
    simp only [spec_DevCrash.l0]
    rw [crash_step hat, if_pos (by omega), rdP_at hat, w64s hi (by omega)]
    by_cases ht : (i : Int) = tear
    · rw [if_pos ht, if_pos (by omega), if_pos (by omega), if_pos (by omega), over_is _ _ _ hq.1 (by rw [List.length_take]; omega) (by omega)]
      rw [show crashN keep tear at_ i = x.toNat from by unfold crashN; rw [if_pos ht, hx]]
      rfl
    · rw [if_neg ht]
      by_cases hkl : (i : Int) < (keep.length : Int)
      · rw [if_pos hkl, if_pos (by omega)]
        obtain ⟨b, hb⟩ := some_at (show i < keep.length by omega)
        rw [rdOf_at hb]
        have hg : keep.getD i false = b := by rw [List.getD_eq_getElem?_getD, hb]; rfl
        cases b with
        | true =>
          rw [if_pos rfl, over_is _ _ _ hq.1 (by omega) (by omega)]
          rw [show crashN keep tear at_ i = 64 from by unfold crashN; rw [if_neg ht, hg]; rfl, List.take_of_length_le (by omega)]
          rfl
        | false =>
          rw [if_neg (by simp)]
          rw [show crashN keep tear at_ i = 0 from by unfold crashN; rw [if_neg ht, hg]; rfl, List.take_zero, splice_none]
      · rw [if_neg hkl]
        rw [show crashN keep tear at_ i = 0 from by unfold crashN; rw [if_neg ht, List.getD_eq_getElem?_getD, List.getElem?_eq_none (by omega)]; rfl, List.take_zero, splice_none]
  · refine Ev.last ⟨0, fun k _ => ?_⟩
    simp only [spec_DevCrash.l0]
    rw [if_neg (by omega)]
theorem spec_crash_ev (l0 : List Int) (l1 : List S43) (a2 : Int) (a3 : Bool) (keep : List Bool) (tear at_ : Int) (hl : l0.length ≤ 1048576) (h : l1.length ≤ 1048576) (hp : ∀ p ∈ l1, p.f1.length ≤ 1048576) (hk : keep.length ≤ 1048576) :
    Ev (fun k => spec_DevCrash.f k l0 l1 a2 a3 keep tear at_) (devCrashed l0 l1 a2 keep tear at_) := by
  have ev := spec_ValidDev_ev l0 l1 a2 a3 (by omega) (by omega) (fun p hq => by have := hp p hq; omega)
  simp only [spec_DevCrash.f]
  unfold devCrashed
  refine Ev.bind ev ?_
  by_cases hv : validDev l0 l1 a2 = true
  case neg =>
    rw [if_neg hv]
    exact Ev.neg hv (Ev.const rfl)
  rw [if_pos hv]
  refine Ev.pos hv ?_
  have hd := (validDev_is.1 hv).2
  have j1 : ∀ x, x = min (max at_ 0) 64 → Ev (fun k => spec_DevCrash.j1 k x l0 l1 a2 a3 keep tear at_) (crashTo l0 l1 keep tear at_ l1.length, [], -1, false) := fun x hx => by
    refine Ev.step (g := fun k => spec_DevCrash.l0 k x l0 0 l0 l1 a2 a3 keep tear at_) ⟨0, fun k _ => ?_⟩ (crash_loop_ev l0 l1 a2 a3 keep tear at_ hl h hd hk x hx)
    simp only [spec_DevCrash.j1, Option.bind_some, List.length_nil, List.nil_append]
    rw [if_pos (by omega)]
  have j0 : ∀ x, x = max at_ 0 → Ev (fun k => spec_DevCrash.j0 k x l0 l1 a2 a3 keep tear at_) (crashTo l0 l1 keep tear at_ l1.length, [], -1, false) := fun x hx => by
    by_cases h64 : x > 64
    · refine Ev.step (g := fun k => spec_DevCrash.j1 k 64 l0 l1 a2 a3 keep tear at_) ⟨0, fun k _ => ?_⟩ (j1 64 (by omega))
      simp only [spec_DevCrash.j0]
      rw [if_pos h64]
    · refine Ev.step (g := fun k => spec_DevCrash.j1 k x l0 l1 a2 a3 keep tear at_) ⟨0, fun k _ => ?_⟩ (j1 x (by omega))
      simp only [spec_DevCrash.j0]
      rw [if_neg h64]
  by_cases hn : at_ < 0
  · exact Ev.pos hn (j0 0 (by omega))
  · exact Ev.neg hn (j0 at_ (by omega))
theorem spec_read_loop (l0 : List Int) (l1 : List S43) (a2 : Int) (a3 : Bool) (s : Int) (hs : 0 ≤ s) (hs1 : s ≤ 1048576) (hs2 : (s + 1) * 64 ≤ l0.length) (hl : l0.length ≤ 1048576) (h : l1.length ≤ 1048576) (hp : ∀ p ∈ l1, p.f1.length ≤ 1048576) :
    ∀ n : Nat, n ≤ l1.length → Ev (fun k => spec_DevRead.l0 k s ((n : Int) - 1) l0 l1 a2 a3) (secAt l0 (l1.take n) s)
  | 0, _ => by
    refine Ev.last ⟨0, fun k _ => ?_⟩
    have h1 : ((l0.take ((s + 1) * 64).toNat).drop (s * 64).toNat).length ≤ 1048576 := by rw [List.length_drop, List.length_take]; omega
    simp only [spec_DevRead.l0]
    rw [w64 (n := s + 1) (by omega) (by omega), w64 (n := (s + 1) * 64) (by omega) (by omega), w64 (n := s * 64) (by omega) (by omega), if_neg (by omega)]
    simp only [Option.bind_some, List.length_nil, List.nil_append]
    rw [if_pos (by omega), if_pos (by omega), if_pos (by omega), if_pos (by omega)]
    rfl
  | n + 1, hn => by
    obtain ⟨p, hat⟩ := some_at (show n < l1.length by omega)
    have hpl := hp p (List.mem_of_getElem? hat)
    have e : secAt l0 (l1.take (n + 1)) s = if p.f0 = s then p.f1 else secAt l0 (l1.take n) s := by
      unfold secAt
      rw [List.take_add_one, hat]
      simp only [Option.toList_some, List.foldl_append, List.foldl_cons, List.foldl_nil]
    have i1 : ((n + 1 : Nat) : Int) - 1 = (n : Int) := by omega
    rw [e, i1]
    by_cases hc : p.f0 = s
    · rw [if_pos hc]
      refine Ev.last ⟨0, fun k _ => ?_⟩
      simp only [spec_DevRead.l0]
      rw [if_pos (by omega), if_pos (by omega), if_pos (by omega), rdP_at hat, if_pos hc]
      simp only [Option.bind_some, List.length_nil, List.nil_append]
      rw [if_pos (by omega)]
    · rw [if_neg hc]
      refine Ev.step ⟨0, fun k _ => ?_⟩ (spec_read_loop l0 l1 a2 a3 s hs hs1 hs2 hl h hp n (by omega))
      simp only [spec_DevRead.l0]
      rw [if_pos (by omega), if_pos (by omega), if_pos (by omega), rdP_at hat, if_neg hc, w64 (n := (n : Int) - 1) (by omega) (by omega)]
theorem spec_read_ev (l0 : List Int) (l1 : List S43) (a2 : Int) (a3 : Bool) (s : Int) (hl : l0.length ≤ 1048576) (h : l1.length ≤ 1048576) (hp : ∀ p ∈ l1, p.f1.length ≤ 1048576) :
    Ev (fun k => spec_DevRead.f k l0 l1 a2 a3 s) (if validDev l0 l1 a2 = true ∧ 0 ≤ s ∧ s < ((l0.length / 64 : Nat) : Int) then secAt l0 l1 s else []) := by
  have no : Ev (fun k => spec_DevRead.j0 k s true l0 l1 a2 a3) [] := Ev.last ⟨0, fun k _ => by simp only [spec_DevRead.j0]; rw [if_pos trivial]⟩
  have ev := spec_ValidDev_ev l0 l1 a2 a3 (by omega) (by omega) (fun p hq => by have := hp p hq; omega)
  have e : wrap64 ((l0.length : Int) / 64) = ((l0.length / 64 : Nat) : Int) := by rw [w64 (by omega) (by omega)]; omega
  simp only [spec_DevRead.f, spec_l1Sectors.f, Option.bind_some, e]
  clear e
  refine Ev.bind ev ?_
  by_cases hv : validDev l0 l1 a2 = true
  · refine Ev.pos hv ?_
    by_cases h1 : s < 0
    · rw [if_neg (by omega)]
      exact Ev.pos h1 no
    · refine Ev.neg h1 ?_
      by_cases h2 : s ≥ ((l0.length / 64 : Nat) : Int)
      · rw [if_neg (by omega), decide_eq_true h2]
        exact no
      · rw [if_pos ⟨hv, by omega, by omega⟩, decide_eq_false h2]
        have h3 := spec_read_loop l0 l1 a2 a3 s (by omega) (by omega) (by omega) hl h hp l1.length (Nat.le_refl _)
        rw [List.take_length] at h3
        refine Ev.step ⟨0, fun k _ => ?_⟩ h3
        simp only [spec_DevRead.j0]
        rw [if_neg (by simp), w64 (by omega) (by omega)]
  · rw [if_neg (fun h => hv h.1)]
    exact Ev.neg hv no
theorem spec_sync_ev (l0 : List Int) (l1 : List S43) (a2 : Int) (a3 : Bool) (hl : l0.length ≤ 1048576) (h : l1.length ≤ 1048576) (hp : ∀ p ∈ l1, p.f1.length ≤ 1048576) :
    Ev (fun k => spec_DevSync.f k l0 l1 a2 a3) (if canSync l0 l1 a2 a3 then devSynced l0 l1 a2 a3 else (l0, l1, a2, a3)) := by
  have ec := copy_ev l0 l1 a2 a3 (by omega) (by omega) (fun p hq => by have := hp p hq; omega)
  have no : Ev (fun k => spec_DevSync.j0 k true l0 l1 a2 a3) (l0, l1, a2, a3) := by
    refine Ev.step (g := fun k => (spec_l1Copy.f k l0 l1 a2 a3).bind fun t => some (t.1, t.2.1, t.2.2.1, t.2.2.2)) ⟨0, fun k _ => ?_⟩ (Ev.bind ec (Ev.const rfl))
    simp only [spec_DevSync.j0]
    rw [if_pos trivial]
  have ev := spec_ValidDev_ev l0 l1 a2 a3 (by omega) (by omega) (fun p hq => by have := hp p hq; omega)
  simp only [spec_DevSync.f]
  refine Ev.bind ev ?_
  by_cases hv : validDev l0 l1 a2 = true
  case neg =>
    rw [if_neg (fun h => hv h.1)]
    exact Ev.neg hv no
  refine Ev.pos hv ?_
  by_cases h3 : a3 = true
  case pos =>
    rw [if_neg (fun h => by rw [h3] at h; cases h.2)]
    rw [h3] at no ⊢
    exact no
  have hd3 : a3 = false := by simpa using h3
  subst hd3
  rw [if_pos ⟨hv, rfl⟩]
  have hd := validDev_is.1 hv
  have hf : -1 ≤ a2 ∧ a2 ≤ 1000000 := by have := hd.1; unfold headDev at this; omega
  have hh : l0.length ≤ 16448 ∧ l0.length % 64 = 0 := by have := hd.1; unfold headDev at this; omega
  have es := step_ev l0 l1 a2 false (by omega) (by omega) (fun p hq => by have := hp p hq; omega) hf
  refine Ev.step (g := fun k => (spec_l1Step.f k l0 l1 a2 false).bind fun t => if t.2.2.2 = true then some (t.1, t.2.1, t.2.2.1, t.2.2.2) else spec_DevSync.l0 k 0 l0 l1 a2 false t.1 t.2.1 t.2.2.1 t.2.2.2) ⟨0, fun k _ => ?_⟩ (Ev.bind es ?_)
  · simp only [spec_DevSync.j0]
    rw [if_neg (by simp)]
  · unfold devSynced
    dsimp only
    by_cases hz : a2 = 0
    · rw [if_pos hz, if_pos hz]
      exact Ev.pos (show deadOf a2 false = true from if_pos hz) (Ev.const rfl)
    · rw [if_neg hz, if_neg hz]
      refine Ev.neg (by rw [show deadOf a2 false = false from if_neg hz]; simp) ?_
      refine Ev.loop0 (fun k (s : Int × List Int) => spec_DevSync.l0 k s.1 l0 l1 a2 false s.2 l1 (fuelOf a2) (deadOf a2 false)) (fun i => ((i : Int), syncL l0 (l1.take i))) l1.length (syncL l0 l1, [], fuelOf a2, deadOf a2 false) ?_ ?_
      · intro i hi
        obtain ⟨p, hat⟩ := some_at hi
        have hq := hd.2 p (List.mem_of_getElem? hat)
        have hlen : (syncL l0 (l1.take i)).length = l0.length := syncL_length _ _ (fun q hq => by have := hd.2 q (List.mem_of_mem_take hq); omega)
        refine ⟨0, fun k _ => ?_⟩
        simp only [spec_DevSync.l0]
        rw [if_pos (by omega), if_pos (by omega), rdP_at hat, over_is _ _ _ hq.1 (by omega) (by omega), w64s hi (by omega)]
        rw [show syncL l0 (l1.take (i + 1)) = splice (syncL l0 (l1.take i)) (p.f0 * 64).toNat p.f1 from by unfold syncL; rw [List.take_add_one, hat]; simp only [Option.toList_some, List.foldl_append, List.foldl_cons, List.foldl_nil]]
        rfl
      · refine Ev.last ⟨0, fun k _ => ?_⟩
        simp only [spec_DevSync.l0]
        rw [if_neg (by omega), List.take_length]
def canWrite (l0 : List Int) (l1 : List S43) (a2 : Int) (a3 : Bool) (s : Int) (data : List Int) : Prop := validDev l0 l1 a2 = true ∧ a3 = false ∧ (0 ≤ s ∧ s < ((l0.length / 64 : Nat) : Int)) ∧ data.length = 64 ∧ l1.length ≠ 1000
instance (l0 : List Int) (l1 : List S43) (a2 : Int) (a3 : Bool) (s : Int) (data : List Int) : Decidable (canWrite l0 l1 a2 a3 s data) := by unfold canWrite; infer_instance
def devWritten (l0 : List Int) (l1 : List S43) (a2 : Int) (a3 : Bool) (s : Int) (data : List Int) : List Int × List S43 × Int × Bool := (l0, (if a2 = 0 then l1 else l1 ++ [⟨s, data⟩]), fuelOf a2, deadOf a2 a3)
theorem spec_write_ev (l0 : List Int) (l1 : List S43) (a2 : Int) (a3 : Bool) (s : Int) (data : List Int) (hl : l0.length ≤ 1048576) (h : l1.length ≤ 1048576) (hp : ∀ p ∈ l1, p.f1.length ≤ 1048576) (hd : data.length ≤ 1048576) :
    Ev (fun k => spec_DevWrite.f k l0 l1 a2 a3 s data) (if canWrite l0 l1 a2 a3 s data then devWritten l0 l1 a2 a3 s data else (l0, l1, a2, a3)) := by
  have ec := copy_ev l0 l1 a2 a3 (by omega) (by omega) (fun p hq => by have := hp p hq; omega)
  have no : Ev (fun k => spec_DevWrite.j0 k s data true l0 l1 a2 a3) (l0, l1, a2, a3) := by
    refine Ev.step (g := fun k => (spec_l1Copy.f k l0 l1 a2 a3).bind fun t => some (t.1, t.2.1, t.2.2.1, t.2.2.2)) ⟨0, fun k _ => ?_⟩ (Ev.bind ec (Ev.const rfl))
    simp only [spec_DevWrite.j0]
    rw [if_pos trivial]
  have ev := spec_ValidDev_ev l0 l1 a2 a3 (by omega) (by omega) (fun p hq => by have := hp p hq; omega)
  have e : wrap64 ((l0.length : Int) / 64) = ((l0.length / 64 : Nat) : Int) := by rw [w64 (by omega) (by omega)]; omega
  simp only [spec_DevWrite.f, spec_l1Sectors.f, Option.bind_some, e]
  clear e
  refine Ev.bind ev ?_
  by_cases hv : validDev l0 l1 a2 = true
  case neg =>
    rw [if_neg (fun h => hv h.1)]
    exact Ev.neg hv no
  refine Ev.pos hv ?_
  by_cases h3 : a3 = true
  case pos =>
    rw [if_neg (fun h => by rw [h3] at h; cases h.2.1)]
    exact Ev.pos h3 no
  refine Ev.neg h3 ?_
  by_cases h1 : s < 0
  case pos =>
    rw [if_neg (fun h => by have := h.2.2.1.1; omega)]
    exact Ev.pos h1 no
  refine Ev.neg h1 ?_
  by_cases h2 : s ≥ ((l0.length / 64 : Nat) : Int)
  case pos =>
    rw [if_neg (fun h => by have := h.2.2.1.2; omega)]
    exact Ev.pos h2 no
  refine Ev.neg h2 ?_
  by_cases h64 : (data.length : Int) = 64
  case neg =>
    rw [if_neg (fun h => by have := h.2.2.2.1; omega)]
    exact Ev.neg h64 no
  refine Ev.pos h64 ?_
  by_cases hfull : (l1.length : Int) = 1000
  case pos =>
    rw [if_neg (fun h => by have := h.2.2.2.2; omega), beq_iff_eq.mpr hfull]
    exact no
  have hcan : canWrite l0 l1 a2 a3 s data := ⟨hv, by simpa using h3, ⟨by omega, by omega⟩, by omega, by omega⟩
  rw [if_pos hcan, beq_eq_false_iff_ne.mpr hfull]
  have hf : -1 ≤ a2 ∧ a2 ≤ 1000000 := by have := (validDev_is.1 hv).1; unfold headDev at this; omega
  have es := step_ev l0 l1 a2 a3 (by omega) (by omega) (fun p hq => by have := hp p hq; omega) hf
  refine Ev.step (g := fun k => (spec_l1Step.f k l0 l1 a2 a3).bind fun t => if t.2.2.2 = true then some (t.1, t.2.1, t.2.2.1, t.2.2.2) else (some (([] : List Int) : List Int)).bind fun y => if y.length + data.length < 140737488355328 then (if t.2.1.length < 4398046511104 then some (t.1, t.2.1 ++ [(⟨s, y ++ data⟩ : S43)], t.2.2.1, t.2.2.2) else none) else none) ⟨0, fun k _ => ?_⟩ (Ev.bind es (Ev.const ?_))
  · simp only [spec_DevWrite.j0]
    rw [if_neg (by simp)]
  · unfold devWritten
    have hd3 : a3 = false := by simpa using h3
    by_cases hz : a2 = 0
    · rw [if_pos (show deadOf a2 a3 = true from if_pos hz), if_pos hz]
    · rw [if_neg (by rw [show deadOf a2 a3 = a3 from if_neg hz, hd3]; simp), if_neg hz]
      simp only [Option.bind_some, List.length_nil, List.nil_append]
      rw [if_pos (by omega), if_pos (by omega)]
end Go.Proofs.Ytlpghnhcgljhoaa.P
end
section
namespace Go.Proofs.Ytlpghnhcgljhoaa.P
open Go.RowKit Go.Proofs.YtlpghnhcgljhoaaW.PrintWords Go.Proofs.YtlpghnhcgljhoaaW.PrintMore Go.Proofs.Ytlpghnhcgljhoaa.Q
set_option linter.unusedVariables false
set_option linter.unusedSimpArgs false
theorem cnew_ev {l : List Int} (hl : l.length ≤ 1048576) : ∃ h, Ev (fun k => spec_l1New.f k l) h := by
  simp only [spec_l1New.f]
  have key : ∀ m i x, i + m = l.length → ∃ h, Ev (fun k => spec_l1New.l0 k l x (i : Int)) h := by
    intro m
    induction m with
    | zero =>
      intro i x hi
      refine ⟨x, Ev.last ⟨0, fun k _ => ?_⟩⟩
      simp only [spec_l1New.l0]
      rw [if_neg (by omega)]
    | succ m ih =>
      intro i x hi
      obtain ⟨h, e⟩ := ih (i + 1) (Go.bits .and .i64 (wrap64 ((wrap64 ((wrap64 (x * 131)) + (wrap64 (rd l i)))) + 7)) 1073741823) (by omega)
      refine ⟨h, Ev.step ⟨0, fun k _ => ?_⟩ e⟩
      simp only [spec_l1New.l0]
      rw [if_pos (by omega), if_pos (by omega), w64s (n := l.length) (by omega) (by omega)]
  exact key l.length 0 _ (by omega)
structure Dr (m n : Nat) (d : List Int) (ps : List S43) : Prop where
  m0 : 8 ≤ m ∧ m ≤ 11
  len : d.length = 64 * m
  cap : ps.length ≤ n
  ps : ∀ p ∈ ps, 0 ≤ p.f0 ∧ p.f0 < m ∧ p.f1.length = 64
theorem Dr.valid {m n : Nat} {d : List Int} {ps : List S43} (h : Dr m n d ps) (hn : n ≤ 8) {f : Int} (hf : -1 ≤ f ∧ f ≤ 1000000) : validDev d ps f = true := by
  have := h.m0; have := h.len; have := h.cap
  exact validDev_is.2 ⟨by unfold headDev; omega, fun p hp => by have := h.ps p hp; omega⟩
theorem sectors_is {d : List Int} {ps : List S43} {f : Int} {b : Bool} {m : Nat} (h : d.length = 64 * m) (hm : m ≤ 11) : spec_l1Sectors.f d ps f b = some (m : Int) := by
  simp only [spec_l1Sectors.f]
  rw [w64 (by omega) (by omega)]
  congr 1
  omega
theorem dev_last {l : List Int} {i h n : Int} {m c : Nat} {d : List Int} {ps : List S43} (hl : l.length ≤ 1048576) (hc : Cur l i) (hd : Dr m c d ps) :
    ∃ f b i' h', Ev (fun k => spec_l1Dev.l0 k n n l i h d ps (-1) false) (d, ps, f, b, i', h') ∧ (-1 ≤ f ∧ f ≤ 2) ∧ Cur l i' := by
  obtain ⟨x, i1, h1, e1, x0, x1, c1⟩ := below_is (h := h) hl hc (n := 8) (by decide)
  by_cases h3 : x < 3
  · refine ⟨x, false, i1, h1, Ev.last ⟨0, fun k _ => ?_⟩, by omega, c1⟩
    simp only [spec_l1Dev.l0]
    rw [if_neg (by omega), e1]
    simp only [Option.bind_some]
    rw [if_pos h3, if_neg (by omega)]
  · by_cases h4 : x = 3
    · refine ⟨-1, true, i1, h1, Ev.last ⟨0, fun k _ => ?_⟩, by omega, c1⟩
      simp only [spec_l1Dev.l0]
      rw [if_neg (by omega), e1]
      simp only [Option.bind_some]
      rw [if_neg h3, if_pos h4]
    · refine ⟨-1, false, i1, h1, Ev.last ⟨0, fun k _ => ?_⟩, by omega, c1⟩
      simp only [spec_l1Dev.l0]
      rw [if_neg (by omega), e1]
      simp only [Option.bind_some]
      rw [if_neg h3, if_neg h4]
theorem write_is {m n : Nat} {d : List Int} {ps : List S43} (hd : Dr m n d ps) (hn : n ≤ 7) {s : Int} (hs : 0 ≤ s ∧ s < m) {data : List Int} (hx : data.length = 64) :
    Ev (fun k => spec_DevWrite.f k d ps (-1) false s data) (d, ps ++ [⟨s, data⟩], -1, false) ∧ Dr m (n + 1) d (ps ++ [⟨s, data⟩]) := by
  have hm := hd.m0; have hlen := hd.len; have hcap := hd.cap
  have hv := hd.valid (by omega) (f := -1) (by decide)
  have ev := spec_write_ev d ps (-1) false s data (by omega) (by omega) (fun p hp => by have := hd.ps p hp; omega) (by omega)
  rw [if_pos (show canWrite d ps (-1) false s data from ⟨hv, rfl, ⟨hs.1, by omega⟩, hx, by omega⟩)] at ev
  refine ⟨ev, hm, hlen, by rw [List.length_append, List.length_singleton]; omega, fun p hp => ?_⟩
  rcases List.mem_append.1 hp with hp | hp
  · exact hd.ps p hp
  · rw [List.mem_singleton] at hp
    subst hp
    exact ⟨hs.1, hs.2, hx⟩
theorem sync_is {m n : Nat} {d : List Int} {ps : List S43} (hd : Dr m n d ps) (hn : n ≤ 8) :
    ∃ d', Ev (fun k => spec_DevSync.f k d ps (-1) false) (d', [], -1, false) ∧ Dr m n d' [] := by
  have hm := hd.m0; have hlen := hd.len; have hcap := hd.cap
  have hv := hd.valid (by omega) (f := -1) (by decide)
  have ev := spec_sync_ev d ps (-1) false (by omega) (by omega) (fun p hp => by have := hd.ps p hp; omega)
  rw [if_pos (show canSync d ps (-1) false from ⟨hv, rfl⟩)] at ev
  exact ⟨syncL d ps, ev, hm, by rw [syncL_length _ _ (fun p hp => by have := hd.ps p hp; omega)]; exact hlen, by simp, fun p hp => by cases hp⟩
theorem dev_loop {l : List Int} (hl : l.length ≤ 1048576) {n m : Nat} (hn : n ≤ 7) : ∀ (j c : Nat), c + j = n → ∀ {i h : Int} {d : List Int} {ps : List S43}, Cur l i → Dr m c d ps →
    ∃ d' ps' f b i' h', Ev (fun k => spec_l1Dev.l0 k (n : Int) (c : Int) l i h d ps (-1) false) (d', ps', f, b, i', h') ∧ Dr m n d' ps' ∧ (-1 ≤ f ∧ f ≤ 2) ∧ Cur l i' := by
  intro j
  induction j with
  | zero =>
    intro c hcn i h d ps hc hd
    obtain rfl : c = n := by omega
    obtain ⟨f, b, i', h', e, hf, hc'⟩ := dev_last (h := h) (n := (c : Int)) hl hc hd
    exact ⟨d, ps, f, b, i', h', e, hd, hf, hc'⟩
  | succ j ih =>
    intro c hcn i h d ps hc hd
    have hm := hd.m0
    obtain ⟨s, i1, h1, e1, s0, s1, c1⟩ := below_is (h := h) hl hc (n := (m : Int)) (by omega)
    have ez := zeros_ev 64 (by decide)
    obtain ⟨x, i2, h2, e2, x0, x1, c2⟩ := below_is (h := h1) hl c1 (n := 64) (by decide)
    obtain ⟨y, i3, h3, e3, y0, y1, c3⟩ := byte_is (h := h2) hl c2
    have hx : (((List.replicate 64 (0 : Int)).set (x : Int).toNat (y % 256)).set (63 : Int).toNat ((c : Int) % 256)).length = 64 := by simp
    obtain ⟨ew, hw⟩ := write_is hd (by omega) (s := s) ⟨s0, by omega⟩ hx
    obtain ⟨o, i4, h4, e4, c4⟩ := once_is (h := h3) hl c3 (n := 4) (by decide)
    have hrl : ((List.replicate 64 (0 : Int)).length : Int) = 64 := by simp
    by_cases ho : o = true
    · obtain ⟨d2, ey, hd2⟩ := sync_is hw (by omega)
      obtain ⟨d', ps', f, b, i', h', e, hd', hf, hc'⟩ := ih (c + 1) (by omega) (h := h4) c4 hd2
      refine ⟨d', ps', f, b, i', h', ?_, hd', hf, hc'⟩
      refine Ev.step (g := ?g) ⟨0, fun k _ => ?e⟩ ?n
      case e =>
        simp only [spec_l1Dev.l0]
        rewrite [if_pos (by omega), sectors_is hd.len hm.2]
        simp only [Option.bind_some, e1, e2, e3, e4]
        rewrite [w64s (n := n) (by omega) (by omega)]
        rfl
      case n => exact Ev.bind ez (Ev.pos x0 (Ev.pos (by rw [hrl]; exact x1) (Ev.pos (by rw [hrl]; decide) (Ev.bind ew (Ev.pos ho (Ev.bind ey e))))))
    · obtain ⟨d', ps', f, b, i', h', e, hd', hf, hc'⟩ := ih (c + 1) (by omega) (h := h4) c4 hw
      refine ⟨d', ps', f, b, i', h', ?_, hd', hf, hc'⟩
      refine Ev.step (g := ?g) ⟨0, fun k _ => ?e⟩ ?n
      case e =>
        simp only [spec_l1Dev.l0]
        rewrite [if_pos (by omega), sectors_is hd.len hm.2]
        simp only [Option.bind_some, e1, e2, e3, e4]
        rewrite [w64s (n := n) (by omega) (by omega)]
        rfl
      case n => exact Ev.bind ez (Ev.pos x0 (Ev.pos (by rw [hrl]; exact x1) (Ev.pos (by rw [hrl]; decide) (Ev.bind ew (Ev.neg ho e)))))
theorem new_is {m : Nat} (h : 8 ≤ m ∧ m ≤ 11) : ∃ d, Ev (fun k => spec_DevNew.f k (m : Int)) (d, [], -1, false) ∧ Dr m 0 d [] := by
  have ez := zeros_ev (64 * m) (by omega)
  refine ⟨List.replicate (64 * m) 0, ?_, h, by simp, by simp, fun p hp => by cases hp⟩
  simp only [spec_DevNew.f]
  refine Ev.neg (by omega) (Ev.neg (by omega) (Ev.bind (a := List.replicate (64 * m) 0) ?_ (Ev.const rfl)))
  rw [w64 (by omega) (by omega), show ((m : Int) * 64) = ((64 * m : Nat) : Int) from by omega]
  exact ez
theorem l1Dev_ev {l : List Int} (hl : l.length ≤ 1048576) {i h : Int} (hc : Cur l i) :
    ∃ m n d ps f b i' h', Ev (fun k => spec_l1Dev.f k l i h) (d, ps, f, b, i', h') ∧ Dr m n d ps ∧ n ≤ 7 ∧ (-1 ≤ f ∧ f ≤ 2) ∧ Cur l i' := by
  obtain ⟨x, i1, h1, e1, x0, x1, c1⟩ := below_is (h := h) hl hc (n := 4) (by decide)
  obtain ⟨m, hm⟩ : ∃ m : Nat, 8 + x = (m : Int) := ⟨(8 + x).toNat, by omega⟩
  obtain ⟨d, en, hd⟩ := new_is (m := m) (by omega)
  obtain ⟨y, i2, h2, e2, y0, y1, c2⟩ := below_is (h := h1) hl c1 (n := 7) (by decide)
  obtain ⟨n, hn⟩ : ∃ n : Nat, y = (n : Int) := ⟨y.toNat, by omega⟩
  obtain ⟨d', ps', f, b, i', h', e, hd', hf, hc'⟩ := dev_loop hl (n := n) (by omega) n 0 (by omega) (h := h2) c2 hd
  refine ⟨m, n, d', ps', f, b, i', h', ?_, hd', by omega, hf, hc'⟩
  simp only [spec_l1Dev.f, e1, Option.bind_some]
  rw [show wrap64 (8 + x) = (m : Int) from by rw [hm, w64 (by omega) (by omega)]]
  refine Ev.bind en ?_
  simp only [e2, Option.bind_some]
  rw [hn]
  exact e
structure Sm (d : List Int) (ps : List S43) : Prop where
  d : d.length ≤ 1048576
  c : ps.length ≤ 1000
  p : ∀ p ∈ ps, p.f1.length ≤ 1048576
theorem Dr.sm {m n : Nat} {d : List Int} {ps : List S43} (h : Dr m n d ps) (hn : n ≤ 8) : Sm d ps := by
  have := h.m0; have := h.len; have := h.cap
  exact ⟨by omega, by omega, fun p hp => by have := h.ps p hp; omega⟩
theorem Sm.snoc {d : List Int} {ps : List S43} (h : Sm d ps) (hn : ps.length ≤ 8) {s : Int} {z : List Int} (hz : z.length ≤ 64) : Sm d (ps ++ [⟨s, z⟩]) := by
  refine ⟨h.d, by rw [List.length_append, List.length_singleton]; omega, fun p hp => ?_⟩
  rcases List.mem_append.1 hp with hp | hp
  · exact h.p p hp
  · rw [List.mem_singleton] at hp
    subst hp
    show z.length ≤ _
    omega
theorem spoil_ev {l : List Int} (hl : l.length ≤ 1048576) {i h : Int} (hc : Cur l i) {m n : Nat} {d : List Int} {ps : List S43} {f : Int} {b : Bool} (hd : Dr m n d ps) (hn : n ≤ 7) :
    ∃ d' ps' f' b' i' h', Ev (fun k => spec_l1SpoilDev.f k l i h d ps f b) (d', ps', f', b', i', h') ∧ Sm d' ps' ∧ Cur l i' := by
  have hm := hd.m0; have hlen := hd.len; have hcap := hd.cap
  have hs := hd.sm (by omega)
  obtain ⟨x, i1, h1, e1, x0, x1, c1⟩ := below_is (h := h) hl hc (n := 6) (by decide)
  obtain ⟨t, i2, h2, e2, t0, t1, c2⟩ := below_is (h := h1) hl c1 (n := 2) (by decide)
  simp only [spec_l1SpoilDev.f, e1, Option.bind_some]
  by_cases k0 : x = 0
  · refine ⟨d.drop (1 : Int).toNat, ps, f, b, i1, h1, Ev.pos k0 (Ev.pos (by omega) (Ev.neg (by omega) (Ev.neg (by omega) (Ev.neg (by omega) (Ev.neg (by omega) (Ev.neg (by omega) (Ev.const rfl))))))), ⟨by rw [List.length_drop]; omega, hs.c, hs.p⟩, c1⟩
  · by_cases k1 : x = 1
    · exact ⟨d, ps, -2, b, i1, h1, Ev.neg k0 (Ev.pos k1 (Ev.neg (by omega) (Ev.neg (by omega) (Ev.neg (by omega) (Ev.neg (by omega) (Ev.const rfl)))))), hs, c1⟩
    · by_cases k2 : x = 2
      · refine ⟨d, ps, wrap64 (1000000 + t), b, i2, h2, Ev.neg k0 (Ev.neg k1 (Ev.pos k2 ?_)), hs, c2⟩
        simp only [e2, Option.bind_some]
        exact Ev.neg (by omega) (Ev.neg (by omega) (Ev.neg (by omega) (Ev.const rfl)))
      · by_cases k3 : x = 3
        · have ez := zeros_ev 64 (by decide)
          refine ⟨d, ps ++ [⟨wrap64 ((m : Int) - t), List.replicate 64 0⟩], f, b, i2, h2, Ev.neg k0 (Ev.neg k1 (Ev.neg k2 (Ev.pos k3 ?_))), hs.snoc (by omega) (by simp), c2⟩
          simp only [sectors_is (ps := ps) (f := f) (b := b) hlen hm.2, e2, Option.bind_some]
          exact Ev.bind ez (Ev.pos (by omega) (Ev.neg (by omega) (Ev.neg (by omega) (Ev.const rfl))))
        · by_cases k4 : x = 4
          · have ez := zeros_ev 63 (by decide)
            refine ⟨d, ps ++ [⟨1, List.replicate 63 0⟩], f, b, i1, h1, Ev.neg k0 (Ev.neg k1 (Ev.neg k2 (Ev.neg k3 (Ev.pos k4 ?_)))), hs.snoc (by omega) (by simp), c1⟩
            exact Ev.bind ez (Ev.pos (by omega) (Ev.neg (by omega) (Ev.const rfl)))
          · by_cases k5 : x = 5
            · have ew : wrap64 (64 * wrap64 (8 - t)) = 64 * (8 - t) := by rw [w64 (n := 8 - t) (by omega) (by omega), w64 (by omega) (by omega)]
              refine ⟨d.take (64 * (8 - t)).toNat, ps, f, b, i2, h2, Ev.neg k0 (Ev.neg k1 (Ev.neg k2 (Ev.neg k3 (Ev.neg k4 (Ev.pos k5 ?_))))), ⟨by rw [List.length_take]; omega, hs.c, hs.p⟩, c2⟩
              simp only [e2, Option.bind_some, ew]
              exact Ev.pos (by omega) (Ev.pos (by omega) (Ev.const rfl))
            · exact ⟨d, ps, f, b, i1, h1, Ev.neg k0 (Ev.neg k1 (Ev.neg k2 (Ev.neg k3 (Ev.neg k4 (Ev.neg k5 (Ev.const rfl)))))), hs, c1⟩
theorem anyDev_ev {l : List Int} (hl : l.length ≤ 1048576) {i h : Int} (hc : Cur l i) :
    ∃ d ps f b i' h', Ev (fun k => spec_l1AnyDev.f k l i h) (d, ps, f, b, i', h') ∧ Sm d ps ∧ Cur l i' := by
  obtain ⟨m, n, d, ps, f, b, i1, h1, e1, hd, hn, hf, c1⟩ := l1Dev_ev (h := h) hl hc
  obtain ⟨o, i2, h2, e2, c2⟩ := once_is (h := h1) hl c1 (n := 12) (by decide)
  simp only [spec_l1AnyDev.f]
  by_cases ho : o = true
  · obtain ⟨d', ps', f', b', i', h', e, hs, hc'⟩ := spoil_ev (h := h2) hl c2 (f := f) (b := b) hd hn
    refine ⟨d', ps', f', b', i', h', Ev.bind e1 ?_, hs, hc'⟩
    simp only [e2, Option.bind_some]
    exact Ev.pos ho (Ev.bind e (Ev.const rfl))
  · refine ⟨d, ps, f, b, i2, h2, Ev.bind e1 ?_, hd.sm (by omega), c2⟩
    simp only [e2, Option.bind_some]
    exact Ev.neg ho (Ev.const rfl)
theorem crash_last {l : List Int} {i h n a : Int} {keep : List Bool} (hl : l.length ≤ 1048576) (hc : Cur l i) (ha : 0 ≤ a ∧ a ≤ 1048576) :
    ∃ t p i' h', Ev (fun k => spec_l1Crash.l0 k a n n l i h keep 0 0) (keep, t, p, i', h') := by
  have ew : wrap64 (a + 2) = a + 2 := w64 (n := a + 2) (by omega) (by omega)
  obtain ⟨x, i1, h1, e1, -, -, c1⟩ := below_is (h := h) hl hc (n := a + 2) (by omega)
  obtain ⟨y, i2, h2, e2, -, -, c2⟩ := below_is (h := h1) hl c1 (n := 65) (by decide)
  obtain ⟨z, i3, h3, e3, -, -, c3⟩ := below_is (h := h2) hl c2 (n := 8) (by decide)
  obtain ⟨u, i4, h4, e4, -, -, c4⟩ := below_is (h := h3) hl c3 (n := 9) (by decide)
  obtain ⟨v, i5, h5, e5, -, -, c5⟩ := below_is (h := h3) hl c3 (n := 140) (by decide)
  by_cases k1 : z < 3
  · refine ⟨wrap64 (x - 1), wrap64 (56 + u), i4, h4, Ev.last ⟨0, fun k _ => ?_⟩⟩
    simp only [spec_l1Crash.l0]
    rw [if_neg (by omega), ew]
    simp only [e1, e2, e3, Option.bind_some]
    rw [if_pos k1]
    simp only [e4, Option.bind_some]
    rw [if_neg (by omega)]
  · by_cases k2 : z = 3
    · refine ⟨wrap64 (x - 1), wrap64 (v - 40), i5, h5, Ev.last ⟨0, fun k _ => ?_⟩⟩
      simp only [spec_l1Crash.l0]
      rw [if_neg (by omega), ew]
      simp only [e1, e2, e3, Option.bind_some]
      rw [if_neg k1, if_pos k2]
      simp only [e5, Option.bind_some]
    · refine ⟨wrap64 (x - 1), y, i3, h3, Ev.last ⟨0, fun k _ => ?_⟩⟩
      simp only [spec_l1Crash.l0]
      rw [if_neg (by omega), ew]
      simp only [e1, e2, e3, Option.bind_some]
      rw [if_neg k1, if_neg k2]
theorem crash_draw_loop {l : List Int} (hl : l.length ≤ 1048576) {n : Nat} {a : Int} (ha : 0 ≤ a ∧ a ≤ 1048576) (hn : n ≤ 1048577) : ∀ (j c : Nat), c + j = n → ∀ {i h : Int} {keep : List Bool}, Cur l i → keep.length = c →
    ∃ kp t p i' h', Ev (fun k => spec_l1Crash.l0 k a (n : Int) (c : Int) l i h keep 0 0) (kp, t, p, i', h') ∧ kp.length = n := by
  intro j
  induction j with
  | zero =>
    intro c hcn i h keep hc hk
    obtain rfl : c = n := by omega
    obtain ⟨t, p, i', h', e⟩ := crash_last (h := h) (n := (c : Int)) (keep := keep) hl hc ha
    exact ⟨keep, t, p, i', h', e, hk⟩
  | succ j ih =>
    intro c hcn i h keep hc hk
    obtain ⟨o, i1, h1, e1, c1⟩ := once_is (h := h) hl hc (n := 2) (by decide)
    obtain ⟨kp, t, p, i', h', e, hkp⟩ := ih (c + 1) (by omega) (h := h1) (keep := keep ++ [o]) c1 (by simp; omega)
    refine ⟨kp, t, p, i', h', Ev.step ⟨0, fun k _ => ?_⟩ e, hkp⟩
    simp only [spec_l1Crash.l0]
    rw [if_pos (by omega), e1]
    simp only [Option.bind_some]
    rw [if_pos (by omega), w64s (n := n) (by omega) (by omega)]
theorem l1Crash_ev {l : List Int} (hl : l.length ≤ 1048576) {i h : Int} (hc : Cur l i) {a : Int} (ha : 0 ≤ a ∧ a ≤ 1048000) :
    ∃ kp t p i' h', Ev (fun k => spec_l1Crash.f k l i h a) (kp, t, p, i', h') ∧ kp.length ≤ 1048576 := by
  have ew : wrap64 (a + 2) = a + 2 := w64 (n := a + 2) (by omega) (by omega)
  obtain ⟨x, i1, h1, e1, x0, x1, c1⟩ := below_is (h := h) hl hc (n := a + 2) (by omega)
  obtain ⟨n, hn⟩ : ∃ n : Nat, x = (n : Int) := ⟨x.toNat, by omega⟩
  obtain ⟨kp, t, p, i', h', e, hk⟩ := crash_draw_loop hl (n := n) (a := a) (by omega) (by omega) n 0 (by omega) (h := h1) (keep := []) c1 rfl
  refine ⟨kp, t, p, i', h', ?_, by omega⟩
  simp only [spec_l1Crash.f, ew, e1, Option.bind_some]
  rw [hn]
  exact e
theorem draw_ev {l : List Int} (hl : l.length ≤ 1048576) : ∃ d ps f b kp t p, Ev (fun k => spec_DrawDevCrash.f k l) (d, ps, f, b, kp, t, p) ∧ Sm d ps ∧ kp.length ≤ 1048576 := by
  obtain ⟨h, en⟩ := cnew_ev hl
  obtain ⟨d, ps, f, b, i1, h1, ed, hs, c1⟩ := anyDev_ev (h := h) hl (i := 0) ⟨by decide, by omega⟩
  obtain ⟨kp, t, p, i2, h2, ec, hk⟩ := l1Crash_ev (h := h1) hl c1 (a := (ps.length : Int)) (by have := hs.c; omega)
  refine ⟨d, ps, f, b, kp, t, p, ?_, hs, hk⟩
  simp only [spec_DrawDevCrash.f]
  exact Ev.bind en (Ev.bind ed (Ev.bind ec (Ev.const rfl)))
end Go.Proofs.Ytlpghnhcgljhoaa.P
end
section
namespace Go.Proofs.Ytlpghnhcgljhoaa.Q
open Go.RowKit Go.Proofs.YtlpghnhcgljhoaaW.PrintWords
theorem splice_nil {l : List Int} {o : Nat} : splice l o ([] : List Int) = l := by unfold splice; simp
theorem crash_none (l : List Int) (ps : List S43) (at_ : Int) : ∀ n, crashTo l ps [] (-1) at_ n = l
  | 0 => rfl
  | n + 1 => by
    have hn : crashN [] (-1) at_ n = 0 := by unfold crashN; rw [if_neg (by omega)]; simp
    unfold crashTo
    cases h : ps[n]? with
    | none => exact crash_none l ps at_ n
    | some p => simp only [hn, List.take_zero, splice_nil]; exact crash_none l ps at_ n
theorem crash_all (l : List Int) (ps : List S43) (at_ : Int) (hp : ∀ p ∈ ps, p.f1.length = 64) : ∀ n, n ≤ ps.length → crashTo l ps (List.replicate ps.length true) (-1) at_ n = syncL l (ps.take n)
  | 0, _ => rfl
  | n + 1, hn => by
    have hlt : n < ps.length := by omega
    have hk : crashN (List.replicate ps.length true) (-1) at_ n = 64 := by
      unfold crashN
      rw [if_neg (by omega), if_pos (by simp [List.getD_eq_getElem?_getD, hlt])]
    have hat : ps[n]? = some ps[n] := List.getElem?_eq_getElem hlt
    unfold crashTo
    rw [hat]
    simp only [hk]
    have e1 : (ps[n].f1).take 64 = ps[n].f1 := List.take_of_length_le (by rw [hp _ (List.getElem_mem hlt)]; exact Nat.le_refl _)
    have e2 : ps.take (n + 1) = ps.take n ++ [ps[n]] := by rw [List.take_add_one, hat]; rfl
    rw [crash_all l ps at_ hp n (by omega), e1, e2]
    unfold syncL
    simp only [List.foldl_append, List.foldl_cons, List.foldl_nil]
end Go.Proofs.Ytlpghnhcgljhoaa.Q
end
section
namespace Go.Proofs.Ytlpghnhcgljhoaa.Pure
open Go.RowKit Go.Proofs.Ytlpghnhcgljhoaa.Q Go.Proofs.Ytlpghnhcgljhoaa.P
set_option linter.unusedVariables false
set_option linter.unusedSimpArgs false
theorem lw_same (l : List Int) : laws_lwBytes.f l l = some true := by simp [laws_lwBytes.f]
section
variable {d : List Int} {ps : List S43} {f : Int} {b : Bool}
theorem sizes_of (h : Sm d ps) {kp : List Bool} (hk : kp.length ≤ 1048576) : sizesC d ps kp := by
  have := h.d; have := h.c
  exact ⟨by omega, by omega, fun p hp => by have := h.p p hp; omega, by omega⟩
theorem crash_is (h : Sm d ps) {kp : List Bool} (hk : kp.length ≤ 1048576) (t a : Int) : impl_DevCrash.f d ps f b kp t a = some (devCrashed d ps f kp t a) := if_pos (sizes_of h hk)
theorem all_loop_ev (h : Sm d ps) (hv : validDev d ps f = true) : ∀ (j c : Nat), c + j = ps.length → Ev (fun k => laws_FnCrash.l1 k (c : Int) d ps f b (List.replicate c true) (-1) 0) true := by
  intro j
  have hc := h.c
  induction j with
  | zero =>
    intro c hcn
    obtain rfl : c = ps.length := by omega
    by_cases hb : b = true
    · refine Ev.last ⟨0, fun k _ => ?_⟩
      simp only [laws_FnCrash.l1]
      rw [if_neg (by omega), if_pos hb]
    · have hb : b = false := by simpa using hb
      subst hb
      by_cases hf : f = 0
      · refine Ev.last ⟨0, fun k _ => ?_⟩
        simp only [laws_FnCrash.l1]
        rw [if_neg (by omega), if_neg (by simp), if_pos hf]
      · have e1 : impl_DevCrash.f d ps f false (List.replicate ps.length true) (-1) 0 = some (syncL d ps, [], -1, false) := by
          rw [crash_is h (by rw [List.length_replicate]; omega)]
          unfold devCrashed
          rw [if_pos hv, crash_all d ps 0 (fun p hp => ((validDev_is.1 hv).2 p hp).2.2) ps.length (Nat.le_refl _), List.take_length]
        have e2 : ∃ r, impl_DevSync.f d ps f false = some (syncL d ps, r) := by
          refine ⟨([], fuelOf f, deadOf f false), ?_⟩
          unfold impl_DevSync.f
          rw [if_pos (show sizesD d ps from ⟨by have := h.d; omega, by omega, fun p hp => by have := h.p p hp; omega⟩), if_pos (show canSync d ps f false from ⟨hv, rfl⟩)]
          unfold devSynced
          rw [if_neg hf, if_neg hf]
        obtain ⟨r, e2⟩ := e2
        refine Ev.last ⟨0, fun k _ => ?_⟩
        simp only [laws_FnCrash.l1]
        rw [if_neg (by omega), if_neg (by simp), if_neg hf, e1]
        simp only [Option.bind_some]
        rw [e2]
        simp only [Option.bind_some, lw_same]
  | succ j ih =>
    intro c hcn
    refine Ev.step ⟨0, fun k _ => ?_⟩ (ih (c + 1) (by omega))
    simp only [laws_FnCrash.l1]
    rw [if_pos (by omega), if_pos (by rw [List.length_replicate]; omega), w64s (n := ps.length) (by omega) (by omega), List.replicate_succ']
theorem read_loop_ev (h : Sm d ps) (hv : validDev d ps f = true) {D : List Int} (hD : D.length = d.length) : ∀ (j c : Nat), c + j = d.length / 64 → Ev (fun k => laws_FnCrash.l0 k (c : Int) d ps f b D [] (-1) false D [] (-1) false) true := by
  intro j
  have hd := h.d
  have hh := (validDev_is.1 hv).1
  unfold headDev at hh
  induction j with
  | zero =>
    intro c hcn
    have e1 : impl_DevCrash.f d ps f b [] (-1) 0 = some (d, [], -1, false) := by
      rw [crash_is h (by simp)]
      unfold devCrashed
      rw [if_pos hv, crash_none]
    refine Ev.step (g := fun k => laws_FnCrash.l1 k ((0 : Nat) : Int) d ps f b (List.replicate 0 true) (-1) 0) ⟨0, fun k _ => ?_⟩ (all_loop_ev h hv ps.length 0 (by omega))
    simp only [laws_FnCrash.l0]
    rw [w64 (n := 64 * (c : Int)) (by omega) (by omega), if_neg (by omega), e1]
    simp only [Option.bind_some, lw_same]
    rfl
  | succ j ih =>
    intro c hcn
    have hs := spec_read_ev D [] (-1) false (c : Int) (by omega) (by simp) (fun p hp => by cases hp)
    have hi : impl_DevRead.f D [] (-1) false (c : Int) = some (if validDev D [] (-1) = true ∧ 0 ≤ (c : Int) ∧ (c : Int) < ((D.length / 64 : Nat) : Int) then secAt D [] (c : Int) else []) := by
      unfold impl_DevRead.f
      rw [if_pos ⟨by omega, by simp, fun p hp => by cases hp⟩]
      split <;> rfl
    refine Ev.step (g := ?g7) ⟨0, fun k _ => ?e7⟩ ?n7
    case e7 =>
      simp only [laws_FnCrash.l0]
      rewrite [w64 (n := 64 * (c : Int)) (by omega) (by omega), if_pos (by omega), hi]
      simp only [Option.bind_some]
      rewrite [w64s (n := d.length) (by omega) (by omega)]
      rfl
    case n7 => exact Ev.bind hs (Ev.bind (Ev.const (lw_same _)) (Ev.pos rfl (ih (c + 1) (by omega))))
end
theorem FnCrash : laws_FnCrash.Pure := by
  intro l ⟨hl, hb⟩
  refine Ev.ex (f := fun k => laws_FnCrash.f k l) ?_
  simp only [laws_FnCrash.f]
  by_cases hbig : (l.length : Int) > 1048576
  · exact Ev.pos hbig (Ev.const rfl)
  refine Ev.neg hbig ?_
  obtain ⟨d, ps, f, b, kp, t, a, ed, hs, hk⟩ := draw_ev (l := l) (by omega)
  have hd := hs.d; have hc := hs.c
  have ev := spec_ValidDev_ev d ps f b (by omega) (by omega) (fun p hp => by have := hs.p p hp; omega)
  have ei := impl_ValidDev_ev d ps f b (by omega) (by omega) (fun p hp => by have := hs.p p hp; omega)
  have ec := crash_is (f := f) (b := b) hs hk t a
  have es := spec_crash_ev d ps f b kp t a (by omega) (by omega) (fun p hp => hs.p p hp) hk
  refine Ev.bind ed (Ev.bind ev ?_)
  by_cases hv : validDev d ps f = true
  · refine Ev.pos hv ?_
    have hdc : devCrashed d ps f kp t a = (crashTo d ps kp t a ps.length, [], -1, false) := if_pos hv
    rw [hdc] at ec es
    have hD := crashTo_length d ps kp t a (fun q hq => by have := (validDev_is.1 hv).2 q hq; omega) ps.length
    simp only [ec, Option.bind_some]
    exact Ev.bind es (read_loop_ev (b := b) hs hv hD (d.length / 64) 0 (by omega))
  · refine Ev.neg hv ?_
    have hdc : devCrashed d ps f kp t a = ([], [], 0, false) := if_neg hv
    have hv0 : validDev d ps f = false := by simpa using hv
    rw [hdc] at ec
    rw [hv0] at ei
    simp only [ec, Option.bind_some]
    exact Ev.pos rfl (Ev.bind ei (Ev.const rfl))
end Go.Proofs.Ytlpghnhcgljhoaa.Pure
end
namespace Go.Proofs.Ytlpghnhcgljhoaa.fnCrash
open Go.ChangeShapes Go.WideShapes Go.ChangeAt Go.RowKit Go.Proofs.Ytlpghnhcgljhoaa.Q Go.Proofs.YtlpghnhcgljhoaaW.PrintWords Go.Proofs.Ytlpghnhcgljhoaa.O
open Go.ChangeMaps (open_string shut_string)
set_option linter.unusedVariables false
theorem own : ownKnob Try.prog.godebug = none := by kernel_rfl
theorem laidOut : laidOutB Try.prog = true := by kernel_rfl
set_option maxRecDepth 100000 in
theorem lifted (os : Os) (started : os.Started) (H : Type) (enc : TypeId × Value → H) :
    ReturnsInHanded {} Try.checked os 3 .any (Rows.fnCrashSpec.pre6 enc Try.prog Try.f3 Rows.fnCrashRow.domain false) (Rows.fnCrashSpec.post enc Try.prog Try.f3 false true false false) := by
  refine returnsInHanded_of_change_sized (C := Try.checked) own started (by kernel_rfl) Try.func3
    (ChangeSpec.witness6 (enc := enc) (C := Try.checked) false ⟨#[], #[.slice none 0 0], []⟩ 8 (by kernel_rfl) (by kernel_rfl) (by kernel_rfl) (by kernel_rfl)) ?_
  intro W base args ds gs before hval0 hW hcnd hsz0 _
  have hval : ∀ (j : Nat) t v, Try.f3.params[j]? = some t → args[j]? = some v → Value.okWide Try.prog W .any base t v := hval0
  have hW' := hW
  obtain ⟨p, q, hA0, hV, rfl, hfz, hnd⟩ := hW
  have hA : DataW.TrodAll enc Try.prog W 0 (fun _ => true) true Try.f3.params.toList args.toList ds p := hA0
  rw [Try.params3] at hA hval
  obtain ⟨v0, vs0, d0, ds0, p0, q0, hargs, rfl, rfl, h0, r0⟩ := trodAll_cons hA
  obtain ⟨rfl, rfl, rfl⟩ := trodAll_nil r0
  obtain rfl : args = #[v0] := by cases args; simp_all
  obtain ⟨rfl, rfl⟩ := trodVars_none hV
  have k0 := h0
  have lt0 : ∀ x ∈ p0, x.block < W.heap.size := by obtain ⟨m, hm⟩ := k0; exact DataW.trod_lt m _ _ _ hm
  obtain ⟨a0, len0, cap0, rfl⟩ := okWide_slice Try.underlying22 (hval 0 22 v0 rfl rfl)
  obtain ⟨l0, ⟨A0, c0, he0, m0, g0⟩, w0⟩ : ∃ x, ((Kd.slice 5 (Kd.int .u8))).K W x [.slice a0 len0 cap0] ∧ (x.length ≤ 9223372036854775807 ∧ ∀ z_ ∈ x, (Lit.int .u8 z_).wf = true) := by
    obtain ⟨fuel, hf⟩ := h0
    exact (opens_slice Try.underlying22 (by kernel_rfl) (opens_int Try.underlying5)) H enc W fuel _ _ hf
  obtain ⟨rfl, rfl, rfl⟩ : a0 = A0 ∧ len0 = l0.length ∧ cap0 = c0 := by simpa using he0
  clear hA0 hval0 hsz0
  obtain ⟨k, hp⟩ := Pure.FnCrash l0 w0
  refine (laws_FnCrash.calls k _ _ l0 W g0 m0 hp).mono fun e W' ⟨he, bel⟩ => ?_
  subst he
  exact ⟨_, rfl, _, _, _, [], _, [], hW', trodAll_mk1 (shut_bool Try.underlying4 _), (trodAll_cons_mk (Below.trod laidOut (by kernel_rfl) (of_decide_eq_true (by kernel_rfl)) k0 bel lt0) trodAll_mk0), rfl, bel.frame _, fun h => by cases h⟩
theorem over : Rows.fnCrashRow.holds Try.pinned (OpenSpec.ofChange Rows.fnCrashSpec) :=
  OpenClaim.holds_of_wide 3 Try.f3 rfl rfl rfl rfl rfl rfl rfl ⟨rfl, rfl, rfl, rfl, rfl⟩ rfl rfl rfl rfl rfl (by kernel_rfl) Try.func3 (by kernel_rfl)
    (of_decide_eq_true (by kernel_rfl)) (by unfold Func.isWrapper; first | (rw [if_pos (by decide +kernel)]; kernel_rfl) | (rw [if_neg (by decide +kernel)]; exact ⟨rfl, rfl⟩))
    (fun os started H enc _ => lifted os started H enc)
theorem proved : Rows.FnCrashSaid := over
#print axioms proved
end Go.Proofs.Ytlpghnhcgljhoaa.fnCrash
namespace Go.Proofs.Ytlpghnhcgljhoaa
theorem fnCrash_holds : Rows.FnCrashSaid := fnCrash.proved
end Go.Proofs.Ytlpghnhcgljhoaa
