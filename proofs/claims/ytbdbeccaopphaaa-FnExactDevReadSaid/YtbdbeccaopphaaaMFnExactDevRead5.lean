/- Part 5 of 5 of the proof that the law FnExactDevRead returns true at every input. No further condition. -/
import Derived.Test.YtbdbeccaopphaaaWWords
import Derived.ChangeArms
import Derived.DataReads
import Derived.Test.YtbdbeccaopphaaaRows
import Derived.WalkKit
import Derived.ProofKit
import Derived.OpenShut
import Derived.ShutString
import Derived.ChangeOld
import Derived.Below
import Derived.SizedLaws
import Derived.Test.YtbdbeccaopphaaaMFnExactDevRead4
namespace Go.Proofs.Ytbdbeccaopphaaa.Q
open Go.RowKit Go.Proofs.YtbdbeccaopphaaaW.PrintWords Go.Proofs.YtbdbeccaopphaaaW.PrintLast Go.Proofs.YtbdbeccaopphaaaW.PrintMore Go.Proofs.Ytbdbeccaopphaaa.LK
set_option linter.unusedVariables false
set_option linter.unusedSimpArgs false

def bytesV (l : List Int) : List Value := l.map (Value.int .u8)
theorem bytesV_length (l : List Int) : (bytesV l).length = l.length := by unfold bytesV; exact List.length_map ..
theorem bytesV_one (l : List Int) : ∀ v ∈ bytesV l, v.oneCell' = true := by
  intro v hv
  unfold bytesV at hv
  obtain ⟨x, _, rfl⟩ := List.mem_map.1 hv
  rfl
/-- The bytes that a slice leads to, cell by cell. -/
theorem bytes_at {w : World} {A : Option Addr} {l : List Int} (h : Kd.C (Kd.int .u8) w A l.length l) : 0 < l.length → ∃ ad, A = some ad ∧ ∀ j v, (bytesV l)[j]? = some v → w.cell? (ad.add j) = some v := by
  intro hp
  obtain ⟨_, _, h3⟩ := Kd.reads_of_C (enc := Value.int .u8) (d := (0 : Int)) (h1 := fun _ => rfl) h
  obtain ⟨ad, e, hc⟩ := h3 hp
  refine ⟨ad, e, fun j v hv => ?_⟩
  unfold bytesV at hv
  rw [List.getElem?_map] at hv
  obtain ⟨x, hx, rfl⟩ := Option.map_eq_some_iff.1 hv
  have hj := (List.getElem?_eq_some_iff.1 hx).1
  rw [hc j hj, List.getD_eq_getElem?_getD, hx]
  rfl
def impl_sectorOf.f (l : List Int) : Option (List Int) := if l.length = 64 then some l else none
set_option maxHeartbeats 8000000 in
set_option maxRecDepth 100000 in
theorem impl_sectorOf.calls {A : Option Addr} {c : Nat} {l r : List Int} {w : World} (hr : Kd.C (Kd.int .u8) w A l.length l) (h : impl_sectorOf.f l = some r) :
    Calls Try.prog 101 #[.slice A l.length c] w fun e w' => e = .returned (.agg (bytesV r).toArray) ∧ Below w.heap.size w w' := by
  have hl : l.length = 64 := by
    unfold impl_sectorOf.f at h
    by_cases h1 : l.length = 64
    · exact h1
    · rw [if_neg h1] at h; cases h
  unfold impl_sectorOf.f at h
  rw [if_pos hl] at h
  cases h
  have HL := Aside0.mk hl
  have HR := Aside0.mk hr
  clear hl hr
  go_enter Try.func101, Try.ntmps101
  go_wp2_with (first | ((with_reducible refine gate_dst (N := 2) rfl ?_); refine Aside0.out ?_))
  refine Aside0.mk ?_
  refine mk ?hw (N := 2) ?hd (cs := (List.replicate 64 (Value.int .u8 0)).toArray) (t := 105) ?hr ?_
  case hd => rfl
  case hw => rfl
  case hr => first | (go_simp; done) | (go_simp; rfl)
  intro g2 hg2 w1 hb2 hB2
  have H1 := Aside0.mk hB2
  have B2 := Aside0.mk hb2
  have G2 := Aside0.mk hg2
  clear hg2 hb2 hB2
  go_wp2_with (first | ((with_reducible refine gate_dst (N := 3) rfl ?_); refine Aside0.out ?_))
  refine Aside0.mk ?_
  refine mk ?hw3 (N := 3) ?hd3 (cs := (List.replicate 64 (Value.int .u8 0)).toArray) (t := 105) ?hr3 ?_
  case hd3 => rfl
  case hw3 => rfl
  case hr3 => first | (go_simp; done) | (go_simp; rfl)
  intro g3 hg3 w2 hb3 hB3
  have H2 := Aside0.mk (below_step H1.out hB3)
  have B2' := Aside0.mk ((hB3.block g2 (blk_lt B2.out)).trans B2.out)
  have B3 := Aside0.mk hb3
  have G3 := Aside0.mk (show g2 < g3 from hg3 ▸ blk_lt B2.out)
  clear hg3 hb3 hB3 B2 H1
  go_wp2_with (first | ((with_reducible refine gate_builtin (b := .copy) (xs := #[.tmp 4, .tmp 5]) rfl ?_); refine Aside0.out ?_))
  refine Aside0.mk ?_
  refine wpList_copy_splice rfl (.tmp 4) (.tmp 5) 23 23 rfl 5 Try.underlying23 (by kernel_rfl) _ _ 64 64 l.length c rfl rfl g3 0 (List.replicate 64 (Value.int .u8 0)) 105 B3.out (bytesV l) ?hn ?hpos ?hfit (bytesV_one l) g3 w2 (Below.refl _ _) (Nat.le_refl _) ?_
  case hn => rw [bytesV_length]; show _ = min _ _; rw [HL.out]; rfl
  case hpos =>
    intro hp
    rw [bytesV_length] at hp
    obtain ⟨ad, e, hc⟩ := bytes_at HR.out hp
    exact ⟨rfl, ad, e, fun j v hv => pw_cell_below H2.out (hc j v hv)⟩
  case hfit => rw [bytesV_length, HL.out]; simp
  intro w3 hb3 hB3
  have e : splice (List.replicate 64 (Value.int .u8 0)) 0 (bytesV l) = bytesV l := by
    unfold splice
    rw [List.drop_of_length_le (by rw [bytesV_length, HL.out]; simp)]
    simp
  have HB3 := Aside0.mk (show w3.heap[g3]? = some (.cells (bytesV l).toArray 105 (0, 0)) from e ▸ hb3)
  have H3 := Aside0.mk (show Below w.heap.size w w3 from ⟨hB3.os.trans H2.out.os, hB3.tape.trans H2.out.tape, hB3.output.trans H2.out.output, Nat.le_trans H2.out.size hB3.size, fun i hi => (hB3.block i (by have := G2.out; have := G3.out; omega)).trans (H2.out.block i hi)⟩)
  have B4 := Aside0.mk ((hB3.block g2 G3.out).trans B2'.out)
  clear hb3 hB3 e
  go_wp2_with (first | ((with_reducible refine gate_dst (N := 7) rfl ?_); refine Aside0.out ?_))
  refine Aside0.mk ?_
  refine ld ?hw7 rfl ?hx7 HB3.out Try.underlying105 rfl ?hi7 ?_
  case hi7 => rw [List.size_toArray, bytesV_length, HL.out]; kernel_rfl
  case hw7 => rfl
  case hx7 => rfl
  go_wp2_with (first | ((with_reducible refine gate_store (t := 105) (p := 2) rfl ?_); refine Aside0.out ?_))
  refine Aside0.mk ?_
  refine st_all ?hw8 ?hN8 rfl ?hp8 (cs := (bytesV l).toArray) ?hx8 B4.out ?ht8 ?hs8 ?h18 ?_
  case hw8 => rfl
  case hN8 => rfl
  case hp8 => rfl
  case hx8 => rfl
  case ht8 => rw [List.size_toArray, bytesV_length, HL.out]; kernel_rfl
  case hs8 => rw [List.size_toArray, bytesV_length, HL.out]; rfl
  case h18 => exact bytesV_one l
  intro w4 hb4 hS4
  have B5 := Aside0.mk hb4
  have H5 := Aside0.mk (show Below w.heap.size w w4 from ⟨hS4.os.trans H3.out.os, hS4.tape.trans H3.out.tape, hS4.output.trans H3.out.output, Nat.le_trans H3.out.size hS4.size, fun i hi => (hS4.block i (Nat.lt_of_lt_of_le hi H3.out.size) (by have := G2.out; omega)).trans (H3.out.block i hi)⟩)
  clear hb4 hS4
  go_wp2
  refine bodyPost_ret (results_cell_row rfl _ _ g2 105 (bytesV l).toArray (0, 0) _ rfl B5.out Try.underlying105 rfl ?hi9) rfl ?_
  case hi9 => rw [List.size_toArray, bytesV_length, HL.out]; kernel_rfl
  exact ⟨rfl, H5.out⟩
/-- The bytes of sector s: the newest pend's, else the disk's. -/
def secAt (l0 : List Int) (l1 : List S101) (s : Int) : List Int := l1.foldl (fun out p => if p.f0 = s then p.f1 else out) ((l0.take ((s + 1) * 64).toNat).drop (s * 64).toNat)
theorem foldl_length {s : Int} : ∀ (l1 : List S101) (y : List Int), y.length = 64 → (∀ p ∈ l1, p.f1.length = 64) → (l1.foldl (fun out p => if p.f0 = s then p.f1 else out) y).length = 64
  | [], _, h, _ => h
  | p :: ps, y, h, hp => by
    refine foldl_length ps _ ?_ (fun q hq => hp q (List.mem_cons_of_mem _ hq))
    show (if p.f0 = s then p.f1 else y).length = 64
    split
    · exact hp p (List.mem_cons_self ..)
    · exact h
theorem cut_length {l0 : List Int} {s : Int} (hs : 0 ≤ s) (hs2 : (s + 1) * 64 ≤ l0.length) : ((l0.take ((s + 1) * 64).toNat).drop (s * 64).toNat).length = 64 := by
  rw [List.length_drop, List.length_take]
  omega
theorem secAt_length {l0 : List Int} {l1 : List S101} {s : Int} (hs : 0 ≤ s) (hs2 : (s + 1) * 64 ≤ l0.length) (hp : ∀ p ∈ l1, p.f1.length = 64) : (secAt l0 l1 s).length = 64 := foldl_length l1 _ (cut_length hs hs2) hp
set_option maxHeartbeats 8000000 in
set_option maxRecDepth 100000 in
theorem read_calls {A0 A1 : Option Addr} {c0 c1 : Nat} {l0 : List Int} {l1 : List S101} {a2 s : Int} {a3 : Bool} {w : World} (hr0 : Kd.C (Kd.int .u8) w A0 l0.length l0) (hc0 : l0.length ≤ c0) (hr1 : Kd.C k101 w A1 l1.length l1) (hc1 : l1.length ≤ c1)
    (hs : 0 ≤ s) (hs1 : s ≤ 1048576) (hs2 : (s + 1) * 64 ≤ l0.length) (hn : l1.length ≤ 1048576) (hp : ∀ p ∈ l1, p.f1.length = 64) :
    Calls Try.prog 69 #[.agg #[.slice A0 l0.length c0, .slice A1 l1.length c1, .int .i64 a2, .bool a3], .int .i64 s] w fun e w' => e = .returned (.agg (bytesV (secAt l0 l1 s)).toArray) ∧ Below w.heap.size w w' := by
  have j1 : IntKind.i64.wrap (s * 64) = s * 64 := by rw [IntKind.wrap_i64]; omega
  have j2 : IntKind.i64.wrap (s + 1) = s + 1 := by rw [IntKind.wrap_i64]; omega
  have j3 : IntKind.i64.wrap ((s + 1) * 64) = (s + 1) * 64 := by rw [IntKind.wrap_i64]; omega
  obtain ⟨i5, hi5, _, hsz5, _⟩ := info_parts info5
  obtain ⟨Ac, hcut, hA, hC⟩ := print_mid_of (P := Try.prog) (Value.int .u8) 0 23 5 .i64 .i64 Try.underlying23 hi5 hsz5 A0 c0 l0 (s * 64) ((s + 1) * 64) (by omega) (by omega) hs2 hc0
  have HY := Aside0.mk (Kd.C_of_reads (h1 := fun _ => rfl) (hA _ (Kd.reads_of_C hr0)))
  have HL := Aside0.mk (cut_length hs hs2)
  obtain ⟨y, hy⟩ : ∃ y, y = (l0.take ((s + 1) * 64).toNat).drop (s * 64).toNat := ⟨_, rfl⟩
  have hsec : secAt l0 l1 s = l1.foldl (fun out p => if p.f0 = s then p.f1 else out) y := by rw [hy]; rfl
  rw [hsec]
  rw [← hy] at hcut HY HL
  clear hy hsec
  have HR1 := Aside0.mk hr1
  have HP := Aside0.mk hp
  have HN := Aside0.mk hn
  have H0 := Aside0.mk (Bx.refl w)
  clear hA hC hi5 hsz5 hr0 hr1 hp hn hs2 hs1 hs hc0
  go_enter Try.func69, Try.ntmps69
  go_wp2_with (first | ((with_reducible refine gate_dst (N := 2) rfl ?_); refine Aside0.out ?_))
  refine Aside0.mk ?_
  refine mk ?hw2 (N := 2) ?hd2 (cs := #[.slice A0 l0.length c0, .slice A1 l1.length c1, .int .i64 a2, .bool a3]) (t := 35) ?hr2 ?_
  case hd2 => rfl
  case hw2 => rfl
  case hr2 => first | (go_simp; done) | (go_simp; rfl)
  intro g2 hg2 w2 hb2 hB2
  have H1 := Aside0.mk (H0.out.new hg2 hb2 hB2)
  clear hg2 hb2 hB2 H0
  go_wp2_with (first | ((with_reducible refine gate_dst (N := 4) rfl ?_); refine Aside0.out ?_))
  refine Aside0.mk ?_
  refine mk ?hw4 (N := 4) ?hd4 (cs := (List.replicate 64 (Value.int .u8 0)).toArray) (t := 105) ?hr4 ?_
  case hd4 => rfl
  case hw4 => rfl
  case hr4 => first | (go_simp; done) | (go_simp; rfl)
  intro g4 hg4 w4 hb4 hB4
  have H2 := Aside0.mk (H1.out.new hg4 hb4 hB4)
  clear hg4 hb4 hB4 H1
  have hd0 : w4.cell? ⟨g2, 0, none⟩ = some (.slice A0 l0.length c0) := (blk_cell H2.out.gt1 0).trans rfl
  go_wp2_with (first | ((with_reducible refine gate_callee (f := 101) rfl ?_); refine Aside0.out ?_))
  refine Aside0.mk ?_
  refine goesW (some 16) rfl ?hw16 Try.func101 (by kernel_rfl) rfl #[.slice Ac y.length (c0 - (s * 64).toNat)] rfl (by (try simp only [List.map_toArray, List.map_cons, List.map_nil]); first | done | rfl | (simp only [List.length_drop, List.length_take]; rfl)) ?_
  case hw16 => rfl
  refine (impl_sectorOf.calls (Kd.C_below HY.out H2.out.below) (if_pos HL.out)).mono ?_
  rintro e w5 ⟨rfl, hb5⟩
  refine ⟨_, rfl, ?_⟩
  have H3 := Aside0.mk (H2.out.step hb5)
  clear hb5 H2 hd0
  go_wp2_with (first | ((with_reducible refine gate_dst (N := 5) rfl ?_); refine Aside0.out ?_))
  refine Aside0.mk ?_
  refine mk ?hw5 (N := 5) ?hd5 (cs := (List.replicate 64 (Value.int .u8 0)).toArray) (t := 105) ?hr5 ?_
  case hd5 => rfl
  case hw5 => rfl
  case hr5 => first | (go_simp; done) | (go_simp; rfl)
  intro g5 hg5 w6 hb6 hB6
  have H4 := Aside0.mk (H3.out.new hg5 hb6 hB6)
  clear hg5 hb6 hB6 H3
  go_wp2_with (first | ((with_reducible refine gate_store (t := 105) (p := 5) rfl ?_); refine Aside0.out ?_))
  refine Aside0.mk ?_
  refine st_all ?hw8 ?hN8 rfl ?hp8 (cs := (bytesV y).toArray) ?hx8 H4.out.gt0 ?ht8 ?hs8 ?h18 ?_
  case hw8 => rfl
  case hN8 => rfl
  case hp8 => rfl
  case hx8 => rfl
  case ht8 => rw [List.size_toArray, bytesV_length, HL.out]; kernel_rfl
  case hs8 => rw [List.size_toArray, bytesV_length, HL.out]; rfl
  case h18 => exact bytesV_one _
  intro w7 hb7 hS7
  have H5 := Aside0.mk (H4.out.wr0 hb7 hS7)
  clear hb7 hS7 H4
  have hd1 : w7.cell? ⟨g2, 1, none⟩ = some (.slice A1 l1.length c1) := (blk_cell H5.out.gt2 1).trans rfl
  go_wp2
  go_loopg [20] (l1.length + 1) (fun kq v20 w' => ∃ (i : Nat) (x : Int), v20 = .int .i64 x ∧ Aside0 (x = (i : Int)) ∧ Aside0 (kq + i = l1.length + 1) ∧ Aside0 (i ≤ l1.length) ∧ Aside0 (Bx w [(g5, (bytesV ((l1.take i).foldl (fun out p => if p.f0 = s then p.f1 else out) y)).toArray, 105), (g4, (List.replicate 64 (Value.int .u8 0)).toArray, 105), (g2, #[.slice A0 l0.length c0, .slice A1 l1.length c1, .int .i64 a2, .bool a3], 35)] w'))
  case atStart => exact ⟨0, 0, rfl, ⟨rfl⟩, ⟨by omega⟩, ⟨Nat.zero_le _⟩, H5⟩
  case round =>
    clear H5 hd1
    obtain ⟨i, x, rfl, HE, HK, HI, HX⟩ := hrel
    have he := HE.out
    cases gk with
    | zero => exact absurd HK.out (by have := HI.out; omega)
    | succ k1 =>
      by_cases c3 : i < l1.length
      · have C3 := Aside0.mk c3
        have c3b : decide (x < (l1.length : Int)) = true := decide_eq_true (by omega)
        have p5 : (0 ≤ x) = True := eq_true (by omega)
        have q5 : (x < (l1.length : Int)) = True := eq_true (by omega)
        have jn : IntKind.i64.wrap (x + 1) = x + 1 := by have := HN.out; rw [IntKind.wrap_i64]; omega
        obtain ⟨ad, Ap, cp, eA, hcf0, hcf1, hcp, hCp⟩ := at_T101 HR1.out x (by omega) (by omega)
        subst eA
        replace hcf0 := pw_cell_below HX.out.below hcf0
        replace hcf1 := pw_cell_below HX.out.below hcf1
        have hat : l1[i]? = some (rd_T101 l1 x) := by rw [he, P.rdP_at (List.getElem?_eq_getElem c3)]; exact List.getElem?_eq_getElem c3
        have HAt := Aside0.mk hat
        have HCp := Aside0.mk hCp
        clear c3 hcp hCp hat he
        go_wp2_with (first | ((with_reducible refine gate_dst (N := 7) rfl ?_); refine Aside0.out ?_))
        refine Aside0.mk ?_
        refine mk ?hw7 (N := 7) ?hd7 (cs := #[.int .i64 0, .slice none 0 0]) (t := 101) ?hr7 ?_
        case hd7 => rfl
        case hw7 => rfl
        case hr7 => first | (go_simp; done) | (go_simp; rfl)
        intro g7 hg7 w8 hb8 hB8
        have H6 := Aside0.mk (HX.out.new hg7 hb8 hB8)
        clear hg7 hb8 hB8 HX hcf0 hcf1
        go_wp2_with (first | ((with_reducible refine gate_store (t := 101) (p := 7) rfl ?_); refine Aside0.out ?_))
        refine Aside0.mk ?_
        refine st_all ?hw9 ?hN9 rfl ?hp9 (cs := #[.int .i64 (rd_T101 l1 x).f0, .slice Ap (rd_T101 l1 x).f1.length cp]) ?hx9 H6.out.gt0 (by kernel_rfl) rfl (by simp [Value.oneCell']) ?_
        case hw9 => rfl
        case hN9 => rfl
        case hp9 => rfl
        case hx9 => rfl
        intro w9 hb9 hS9
        have H7 := Aside0.mk (H6.out.wr0 hb9 hS9)
        clear hb9 hS9 H6
        have he0 : w9.cell? ⟨g7, 0, none⟩ = some (.int .i64 (rd_T101 l1 x).f0) := (blk_cell H7.out.gt0 0).trans rfl
        have he1 : w9.cell? ⟨g7, 1, none⟩ = some (.slice Ap (rd_T101 l1 x).f1.length cp) := (blk_cell H7.out.gt0 1).trans rfl
        have HF := Aside0.mk (show ∀ y : List Int, (l1.take (i + 1)).foldl (fun out p => if p.f0 = s then p.f1 else out) y = (if (rd_T101 l1 x).f0 = s then (rd_T101 l1 x).f1 else (l1.take i).foldl (fun out p => if p.f0 = s then p.f1 else out) y) by
          intro y
          rw [List.take_add_one, HAt.out]
          simp only [Option.toList_some, List.foldl_append, List.foldl_cons, List.foldl_nil])
        by_cases c5 : (rd_T101 l1 x).f0 = s
        · have c5b : ((rd_T101 l1 x).f0 == s) = true := beq_iff_eq.mpr c5
          go_wp2_with (first | ((with_reducible refine gate_callee (f := 101) rfl ?_); refine Aside0.out ?_))
          refine Aside0.mk ?_
          refine goesW (some 30) rfl ?hw30 Try.func101 (by kernel_rfl) rfl #[.slice Ap (rd_T101 l1 x).f1.length cp] rfl (by (try simp only [List.map_toArray, List.map_cons, List.map_nil]); first | done | rfl) ?_
          case hw30 => rfl
          refine (impl_sectorOf.calls (Kd.C_below HCp.out H7.out.below) (if_pos (HP.out _ (List.mem_of_getElem? HAt.out)))).mono ?_
          rintro e w10 ⟨rfl, hb10⟩
          refine ⟨_, rfl, ?_⟩
          have H8 := Aside0.mk (H7.out.step hb10)
          clear hb10 H7 he0 he1
          go_wp2_with (first | ((with_reducible refine gate_store (t := 105) (p := 5) rfl ?_); refine Aside0.out ?_))
          refine Aside0.mk ?_
          refine st_all ?hw11 ?hN11 rfl ?hp11 (cs := (bytesV (rd_T101 l1 x).f1).toArray) ?hx11 H8.out.gt1 ?ht11 ?hs11 ?h111 ?_
          case hw11 => rfl
          case hN11 => rfl
          case hp11 => rfl
          case hx11 => rfl
          case ht11 => rw [List.size_toArray, bytesV_length, HP.out _ (List.mem_of_getElem? HAt.out)]; kernel_rfl
          case hs11 => rw [List.size_toArray, List.size_toArray, bytesV_length, bytesV_length, HP.out _ (List.mem_of_getElem? HAt.out), foldl_length _ _ HL.out (fun q hq => HP.out q (List.mem_of_mem_take hq))]
          case h111 => exact bytesV_one _
          intro w11 hb11 hS11
          have H9 := Aside0.mk (H8.out.wr1 hb11 hS11).tail
          rw [← if_pos (c := (rd_T101 l1 x).f0 = s) (t := (rd_T101 l1 x).f1) (e := (l1.take i).foldl (fun out p => if p.f0 = s then p.f1 else out) y) c5, ← HF.out] at H9
          clear hb11 hS11 H8
          go_wp2
          go_roundg k1
          case measure => omega
          case rel => exact ⟨i + 1, x + 1, rfl, ⟨by rw [HE.out]; rfl⟩, ⟨by have := HK.out; omega⟩, ⟨by have := C3.out; omega⟩, H9⟩
        · have c5b : ((rd_T101 l1 x).f0 == s) = false := beq_eq_false_iff_ne.mpr c5
          have H9 := Aside0.mk H7.out.tail
          rw [← if_neg (c := (rd_T101 l1 x).f0 = s) (t := (rd_T101 l1 x).f1) (e := (l1.take i).foldl (fun out p => if p.f0 = s then p.f1 else out) y) c5, ← HF.out] at H9
          go_wp2
          go_roundg k1
          case measure => omega
          case rel => exact ⟨i + 1, x + 1, rfl, ⟨by rw [HE.out]; rfl⟩, ⟨by have := HK.out; omega⟩, ⟨by have := C3.out; omega⟩, H9⟩
      · have c3b : decide (x < (l1.length : Int)) = false := decide_eq_false (by omega)
        have ei : l1.take i = l1 := List.take_of_length_le (by omega)
        rw [ei] at HX
        go_wp2_with (first | ((with_reducible refine gate_dst (N := 32) rfl ?_); refine Aside0.out ?_))
        refine Aside0.mk ?_
        refine ld ?hw12 rfl ?hx12 HX.out.gt0 Try.underlying105 rfl ?hi12 ?_
        case hw12 => rfl
        case hx12 => rfl
        case hi12 => rw [List.size_toArray, bytesV_length, foldl_length _ _ HL.out HP.out]; kernel_rfl
        go_wp2_with (first | ((with_reducible refine gate_store (t := 105) (p := 4) rfl ?_); refine Aside0.out ?_))
        refine Aside0.mk ?_
        refine st_all ?hw13 ?hN13 rfl ?hp13 (cs := (bytesV (l1.foldl (fun out p => if p.f0 = s then p.f1 else out) y)).toArray) ?hx13 HX.out.gt1 ?ht13 ?hs13 ?h113 ?_
        case hw13 => rfl
        case hN13 => rfl
        case hp13 => rfl
        case hx13 => rfl
        case ht13 => rw [List.size_toArray, bytesV_length, show (l1.foldl (fun out p => if p.f0 = s then p.f1 else out) y).length = 64 from foldl_length _ _ HL.out HP.out]; kernel_rfl
        case hs13 => rw [List.size_toArray, bytesV_length, show (l1.foldl (fun out p => if p.f0 = s then p.f1 else out) y).length = 64 from foldl_length _ _ HL.out HP.out]; rfl
        case h113 => exact bytesV_one _
        intro w13 hb13 hS13
        have H9 := Aside0.mk (HX.out.wr1 hb13 hS13)
        clear hb13 hS13 HX
        go_wp2
        refine bodyPost_ret (results_cell_row rfl _ _ g4 105 (bytesV (l1.foldl (fun out p => if p.f0 = s then p.f1 else out) y)).toArray (0, 0) _ rfl H9.out.gt1 Try.underlying105 rfl ?hi14) rfl ?_
        case hi14 => rw [List.size_toArray, bytesV_length, show (l1.foldl (fun out p => if p.f0 = s then p.f1 else out) y).length = 64 from foldl_length _ _ HL.out HP.out]; kernel_rfl
        exact ⟨rfl, H9.out.below⟩
/-- What DevRead answers: sizes that no device has aside. -/
def impl_DevRead.f (l0_0 : List Int) (l0_1 : List S101) (a0_2 : Int) (_a0_3 : Bool) (a1 : Int) : Option (List Int) :=
  if l0_0.length ≤ 4611686018427387904 ∧ l0_1.length ≤ 4611686018427387904 ∧ ∀ p ∈ l0_1, p.f1.length ≤ 4611686018427387904 then (if P.validDev l0_0 l0_1 a0_2 = true ∧ 0 ≤ a1 ∧ a1 < ((l0_0.length / 64 : Nat) : Int) then some (secAt l0_0 l0_1 a1) else some []) else none
/-- A whole array is a row. -/
theorem R_arr {w : World} {base g t : Nat} {l : List Int} (hb : w.heap[g]? = some (.cells (bytesV l).toArray t (0, 0))) (hg : base ≤ g) (hl : l.length ≤ 9223372036854775807) : Kd.R (Kd.int .u8) t w base (fun _ => True) (.slice (some ⟨g, 0, none⟩) l.length l.length) l := by
  refine ⟨fun _ _ => trivial, bytesV l, ⟨?_, .inr ⟨g, l.length, (bytesV l).toArray, rfl, hg, hb, Nat.le_refl _, by unfold maxLen; exact hl, ?_, ?_⟩⟩, ?_⟩
  · rw [bytesV_length]; exact (Nat.mul_one _).symm
  · rw [List.size_toArray, bytesV_length]; exact (Nat.mul_one _).symm
  · show (bytesV l).take (l.length * 1) = bytesV l
    rw [Nat.mul_one, List.take_of_length_le (by rw [bytesV_length]; exact Nat.le_refl _)]
  · refine ⟨by rw [bytesV_length]; exact (Nat.mul_one _).symm, fun j p hj => ?_⟩
    show ((bytesV l).drop (j * 1)).take 1 = [.int .u8 p]
    obtain ⟨hj1, rfl⟩ := List.getElem?_eq_some_iff.1 hj
    unfold bytesV
    rw [Nat.mul_one, ← List.map_drop, ← List.map_take, List.drop_eq_getElem_cons hj1]
    rfl
set_option maxHeartbeats 8000000 in
set_option maxRecDepth 100000 in
theorem impl_DevRead.calls (A0_0 : Option Addr) (c0_0 : Nat) (l0_0 : List Int) (A0_1 : Option Addr) (c0_1 : Nat) (l0_1 : List S101) (a0_2 : Int) (a0_3 : Bool) (a1 : Int) (r : List Int) (w : World) (hr0_0 : Kd.C (Kd.int .u8) w A0_0 l0_0.length l0_0) (hc0_0 : l0_0.length ≤ c0_0)
    (hr0_1 : Kd.C k101 w A0_1 l0_1.length l0_1) (hc0_1 : l0_1.length ≤ c0_1) (h : impl_DevRead.f l0_0 l0_1 a0_2 a0_3 a1 = some r) :
    Calls Try.prog 32 #[.agg #[.slice A0_0 l0_0.length c0_0, .slice A0_1 l0_1.length c0_1, .int .i64 a0_2, .bool a0_3], .int .i64 a1] w fun e w' => ∃ v0_ : Value, e = .returned (v0_) ∧ Kd.R (Kd.int .u8) 105 w' w.heap.size (fun _ => True) v0_ r ∧ Below w.heap.size w w' := by
  unfold impl_DevRead.f at h
  by_cases hsz : l0_0.length ≤ 4611686018427387904 ∧ l0_1.length ≤ 4611686018427387904 ∧ ∀ p ∈ l0_1, p.f1.length ≤ 4611686018427387904
  case neg => rw [if_neg hsz] at h; cases h
  rw [if_pos hsz] at h
  obtain ⟨k, hv⟩ := (P.impl_ValidDev_ev l0_0 l0_1 a0_2 a0_3 hsz.1 hsz.2.1 (fun p hp => Nat.le_trans (hsz.2.2 p hp) (by decide))).ex
  have hh := P.impl_has l0_0 l0_1 a0_2 a0_3 a1 hsz.1
  have HV := Aside0.mk hv
  have HH := Aside0.mk hh
  have HR0 := Aside0.mk hr0_0
  have HR1 := Aside0.mk hr0_1
  have HC0 := Aside0.mk hc0_0
  have HC1 := Aside0.mk hc0_1
  have H := Aside0.mk h
  have H0 := Aside0.mk (Bx.refl w)
  clear hr0_0 hr0_1 hc0_0 hc0_1 hv hh h hsz
  go_enter Try.func32, Try.ntmps32
  go_wp2_with (first | ((with_reducible refine gate_dst (N := 2) rfl ?_); refine Aside0.out ?_))
  refine Aside0.mk ?_
  refine mk ?hw2 (N := 2) ?hd2 (cs := #[.slice A0_0 l0_0.length c0_0, .slice A0_1 l0_1.length c0_1, .int .i64 a0_2, .bool a0_3]) (t := 35) ?hr2 ?_
  case hd2 => rfl
  case hw2 => rfl
  case hr2 => first | (go_simp; done) | (go_simp; rfl)
  intro g2 hg2 w2 hb2 hB2
  have H1 := Aside0.mk (H0.out.new hg2 hb2 hB2)
  clear hg2 hb2 hB2 H0
  go_wp2_with (first | ((with_reducible refine gate_dst (N := 6) rfl ?_); refine Aside0.out ?_))
  refine Aside0.mk ?_
  refine ld ?hw6 rfl ?hx6 H1.out.gt0 Try.underlying35 rfl (by kernel_rfl) ?_
  case hw6 => rfl
  case hx6 => rfl
  go_wp2_with (first | ((with_reducible refine gate_callee (f := 30) rfl ?_); refine Aside0.out ?_))
  refine Aside0.mk ?_
  refine goesW (some 7) rfl ?hw7 Try.func30 (by kernel_rfl) rfl #[.agg #[.slice A0_0 l0_0.length c0_0, .slice A0_1 l0_1.length c0_1, .int .i64 a0_2, .bool a0_3]] rfl (by (try simp only [List.map_toArray, List.map_cons, List.map_nil]); first | done | rfl) ?_
  case hw7 => rfl
  refine (impl_ValidDev.calls k _ _ l0_0 _ _ l0_1 a0_2 a0_3 _ _ (Kd.C_below HR0.out H1.out.below) HC0.out (Kd.C_below HR1.out H1.out.below) HC1.out HV.out).mono ?_
  rintro e w3 ⟨rfl, hb3⟩
  refine ⟨_, rfl, ?_⟩
  have H2 := Aside0.mk (H1.out.step hb3)
  clear hb3 H1
  by_cases hval : P.validDev l0_0 l0_1 a0_2 = true
  · rw [hval]
    go_wp2_with (first | ((with_reducible refine gate_dst (N := 10) rfl ?_); refine Aside0.out ?_))
    refine Aside0.mk ?_
    refine ld ?hw8 rfl ?hx8 H2.out.gt0 Try.underlying35 rfl (by kernel_rfl) ?_
    case hw8 => rfl
    case hx8 => rfl
    go_wp2_with (first | ((with_reducible refine gate_callee (f := 68) rfl ?_); refine Aside0.out ?_))
    refine Aside0.mk ?_
    refine goesW (some 12) rfl ?hw9 Try.func68 (by kernel_rfl) rfl #[.agg #[.slice A0_0 l0_0.length c0_0, .slice A0_1 l0_1.length c0_1, .int .i64 a0_2, .bool a0_3], .int .i64 a1] rfl (by (try simp only [List.map_toArray, List.map_cons, List.map_nil]); first | done | rfl) ?_
    case hw9 => rfl
    refine (impl_Dev_has.calls _ _ l0_0 _ _ l0_1 a0_2 a0_3 a1 _ _ (Kd.C_below HR0.out H2.out.below) HC0.out (Kd.C_below HR1.out H2.out.below) HC1.out HH.out).mono ?_
    rintro e w4 ⟨rfl, hb4⟩
    refine ⟨_, rfl, ?_⟩
    have H3 := Aside0.mk (H2.out.step hb4)
    clear hb4 H2
    by_cases hin : 0 ≤ a1 ∧ a1 < ((l0_0.length / 64 : Nat) : Int)
    · rw [decide_eq_true hin]
      have h := H.out
      rw [if_pos ⟨hval, hin⟩] at h
      cases h
      have HD := Aside0.mk (P.validDev_is.1 hval)
      have HIN := Aside0.mk hin
      go_wp2_with (first | ((with_reducible refine gate_dst (N := 15) rfl ?_); refine Aside0.out ?_))
      refine Aside0.mk ?_
      refine ld ?hw15 rfl ?hx15 H3.out.gt0 Try.underlying35 rfl (by kernel_rfl) ?_
      case hw15 => rfl
      case hx15 => rfl
      go_wp2_with (first | ((with_reducible refine gate_callee (f := 69) rfl ?_); refine Aside0.out ?_))
      refine Aside0.mk ?_
      refine goesW (some 17) rfl ?hw17 Try.func69 (by kernel_rfl) rfl #[.agg #[.slice A0_0 l0_0.length c0_0, .slice A0_1 l0_1.length c0_1, .int .i64 a0_2, .bool a0_3], .int .i64 a1] rfl (by (try simp only [List.map_toArray, List.map_cons, List.map_nil]); first | done | rfl) ?_
      case hw17 => rfl
      have hd := HD.out
      unfold P.headDev at hd
      have hsz : (a1 + 1) * 64 ≤ (l0_0.length : Int) := by have := HIN.out; omega
      have HS := Aside0.mk (secAt_length HIN.out.1 hsz (fun p hp => (hd.2 p hp).2.2))
      refine (read_calls (Kd.C_below HR0.out H3.out.below) HC0.out (Kd.C_below HR1.out H3.out.below) HC1.out HIN.out.1 (by have := HIN.out; omega) hsz (by omega) (fun p hp => (hd.2 p hp).2.2)).mono ?_
      clear hd hsz hin
      rintro e w5 ⟨rfl, hb5⟩
      refine ⟨_, rfl, ?_⟩
      have H4 := Aside0.mk (H3.out.step hb5)
      clear hb5 H3
      go_wp2_with (first | ((with_reducible refine gate_dst (N := 5) rfl ?_); refine Aside0.out ?_))
      refine Aside0.mk ?_
      refine mk ?hw5 (N := 5) ?hd5 (cs := (List.replicate 64 (Value.int .u8 0)).toArray) (t := 105) ?hr5 ?_
      case hd5 => rfl
      case hw5 => rfl
      case hr5 => first | (go_simp; done) | (go_simp; rfl)
      intro g5 hg5 w6 hb6 hB6
      have H5 := Aside0.mk (H4.out.new hg5 hb6 hB6)
      clear hg5 hb6 hB6 H4
      go_wp2_with (first | ((with_reducible refine gate_store (t := 105) (p := 5) rfl ?_); refine Aside0.out ?_))
      refine Aside0.mk ?_
      refine st_all ?hw13 ?hN13 rfl ?hp13 (cs := (bytesV (secAt l0_0 l0_1 a1)).toArray) ?hx13 H5.out.gt0 ?ht13 ?hs13 ?h113 ?_
      case hw13 => rfl
      case hN13 => rfl
      case hp13 => rfl
      case hx13 => rfl
      case ht13 => rw [List.size_toArray, bytesV_length, HS.out]; kernel_rfl
      case hs13 => rw [List.size_toArray, bytesV_length, HS.out]; rfl
      case h113 => exact bytesV_one _
      intro w13 hb13 hS13
      have H6 := Aside0.mk (H5.out.wr0 hb13 hS13)
      clear hb13 hS13 H5
      go_wp2
      go_ret
      have hR := R_arr H6.out.gt0 (H6.out.at_ _ (List.mem_cons_self ..)).1 (by rw [HS.out]; decide)
      rw [HS.out] at hR
      exact ⟨_, rfl, hR, H6.out.below⟩
    · rw [decide_eq_false hin]
      have h := H.out
      rw [if_neg (fun h => hin h.2)] at h
      cases h
      go_wp2
      go_ret
      exact ⟨_, rfl, Kd.R_nil _ _ _ _ _, H3.out.below⟩
  · rw [Bool.eq_false_iff.mpr hval]
    have h := H.out
    rw [if_neg (fun h => hval h.1)] at h
    cases h
    go_wp2
    go_ret
    exact ⟨_, rfl, Kd.R_nil _ _ _ _ _, H2.out.below⟩
end Go.Proofs.Ytbdbeccaopphaaa.Q
namespace Go.Proofs.Ytbdbeccaopphaaa.Q
open Go.RowKit Go.Proofs.YtbdbeccaopphaaaW.PrintWords Go.Proofs.YtbdbeccaopphaaaW.PrintLast Go.Proofs.Ytbdbeccaopphaaa.LK Go.Proofs.YtbdbeccaopphaaaW.PrintMore
attribute [local go_sem] max2_int min2_int max_two min_two max_three min_three max_four min_four   -- for this text's walks alone
set_option linter.unusedVariables false
set_option linter.unusedSimpArgs false

/-! ### laws_FnExactDevRead: function 8 -/
def laws_FnExactDevRead.f (k : Nat) (l0_0 : List Int) (l0_1 : List (S139)) (a0_2 : Int) (a0_3 : Bool) (a1 : Int) : Option (Bool) := (laws_szDev.f k l0_0 l0_1 a0_2 a0_3 1048576).bind fun t102 => (if t102 < 0 then (some true) else ((laws_toDev.f k l0_0 l0_1 a0_2 a0_3).bind fun bt103 => ((spec_DevRead.f k bt103.1 bt103.2.1 bt103.2.2.1 bt103.2.2.2 a1).bind fun t111 => ((laws_toDev.f k l0_0 l0_1 a0_2 a0_3).bind fun bt114 => ((impl_DevRead.f bt114.1 bt114.2.1 bt114.2.2.1 bt114.2.2.2 a1).bind fun t123 => ((laws_eqByteS.f k t123 t111).bind fun t126 => (if t126 = true then ((laws_toDev.f k l0_0 l0_1 a0_2 a0_3).bind fun bt127 => ((laws_eqDev.f k bt114.1 bt114.2.1 bt114.2.2.1 bt114.2.2.2 bt127.1 bt127.2.1 bt127.2.2.1 bt127.2.2.2).bind fun t135 => (if t135 = true then ((laws_markDev.f k bt114.1 bt114.2.1 bt114.2.2.1 bt114.2.2.2 1).bind fun bt136 => (if bt136.1 < 0 then (some false) else ((laws_eqByteS.f k t123 t111).bind fun t139 => (if t139 = true then ((laws_markByteS.f k t123 1).bind fun bt140 => ((laws_heldByteS.f k bt140.2 1).bind fun t142 => (if t142 < 0 then (some false) else (if t142 = bt140.1 then ((laws_toDev.f k l0_0 l0_1 a0_2 a0_3).bind fun bt143 => ((impl_DevRead.f bt143.1 bt143.2.1 bt143.2.2.1 bt143.2.2.2 a1).bind fun t151 => ((laws_eqByteS.f k t151 t111).bind fun t154 => (if t154 = true then (some true) else (some false))))) else (some false))))) else (some false))))) else (some false)))) else (some false))))))))
theorem laws_FnExactDevRead.mono : ∀ a0 a1 a2 a3 a4 k, LeO (laws_FnExactDevRead.f k a0 a1 a2 a3 a4) (laws_FnExactDevRead.f (k + 1) a0 a1 a2 a3 a4) := by
  intro a0 a1 a2 a3 a4 k
  unfold laws_FnExactDevRead.f
  repeat' first
      | (with_reducible exact laws_eqByteS.mono _ _ _)
      | (with_reducible exact laws_eqDev.mono _ _ _ _ _ _ _ _ _)
      | (with_reducible exact laws_heldByteS.mono _ _ _)
      | (with_reducible exact laws_markByteS.mono _ _ _)
      | (with_reducible exact laws_markDev.mono _ _ _ _ _ _)
      | (with_reducible exact laws_szDev.mono _ _ _ _ _ _)
      | (with_reducible exact laws_toDev.mono _ _ _ _ _)
      | (with_reducible exact spec_DevRead.mono _ _ _ _ _ _)
      | (with_reducible exact LeO.refl _)
      | (with_reducible exact LeO.none _)
      | (with_reducible refine LeO.ite ?_ ?_)
      | (with_reducible refine LeO.bind ?_ (fun _ => ?_))
      | exact laws_eqByteS.mono _ _ _
      | exact laws_eqDev.mono _ _ _ _ _ _ _ _ _
      | exact laws_heldByteS.mono _ _ _
      | exact laws_markByteS.mono _ _ _
      | exact laws_markDev.mono _ _ _ _ _ _
      | exact laws_szDev.mono _ _ _ _ _ _
      | exact laws_toDev.mono _ _ _ _ _
      | exact spec_DevRead.mono _ _ _ _ _ _
      | exact LeO.none _
      | refine LeO.ite ?_ ?_
      | refine LeO.bind ?_ (fun _ => ?_)
set_option maxHeartbeats 8000000 in
set_option maxRecDepth 100000 in
theorem laws_FnExactDevRead.calls (k : Nat) (A0_0 : Option Addr) (c0_0 : Nat) (l0_0 : List Int) (A0_1 : Option Addr) (c0_1 : Nat) (l0_1 : List (S139)) (a0_2 : Int) (a0_3 : Bool) (a1 : Int) (w : World) (hr0_0 : Kd.C (Kd.int .u8) w A0_0 l0_0.length l0_0) (hc0_0 : l0_0.length ≤ c0_0) (hr0_1 : Kd.C k139 w A0_1 l0_1.length l0_1) (hc0_1 : l0_1.length ≤ c0_1) (h : laws_FnExactDevRead.f k l0_0 l0_1 a0_2 a0_3 a1 = some true) :
    Calls Try.prog 8 #[.agg #[.slice A0_0 l0_0.length c0_0, .slice A0_1 l0_1.length c0_1, .int .i64 a0_2, .bool a0_3], .int .i64 a1] w fun e w' => e = .returned (.bool true) ∧ Below w.heap.size w w' := by
  have hu42 := Try.underlying42
  have hu35 := Try.underlying35
  have HR0_0 := Aside0.mk hr0_0
  have HC0_0 := Aside0.mk hc0_0
  clear hr0_0 hc0_0
  have HR0_1 := Aside0.mk hr0_1
  have HC0_1 := Aside0.mk hc0_1
  clear hr0_1 hc0_1
  have HB := Aside0.mk (Below.refl w.heap.size w)
  have H : ((laws_szDev.f k l0_0 l0_1 a0_2 a0_3 1048576).bind fun t102 => (if t102 < 0 then (some true) else ((laws_toDev.f k l0_0 l0_1 a0_2 a0_3).bind fun bt103 => ((spec_DevRead.f k bt103.1 bt103.2.1 bt103.2.2.1 bt103.2.2.2 a1).bind fun t111 => ((laws_toDev.f k l0_0 l0_1 a0_2 a0_3).bind fun bt114 => ((impl_DevRead.f bt114.1 bt114.2.1 bt114.2.2.1 bt114.2.2.2 a1).bind fun t123 => ((laws_eqByteS.f k t123 t111).bind fun t126 => (if t126 = true then ((laws_toDev.f k l0_0 l0_1 a0_2 a0_3).bind fun bt127 => ((laws_eqDev.f k bt114.1 bt114.2.1 bt114.2.2.1 bt114.2.2.2 bt127.1 bt127.2.1 bt127.2.2.1 bt127.2.2.2).bind fun t135 => (if t135 = true then ((laws_markDev.f k bt114.1 bt114.2.1 bt114.2.2.1 bt114.2.2.2 1).bind fun bt136 => (if bt136.1 < 0 then (some false) else ((laws_eqByteS.f k t123 t111).bind fun t139 => (if t139 = true then ((laws_markByteS.f k t123 1).bind fun bt140 => ((laws_heldByteS.f k bt140.2 1).bind fun t142 => (if t142 < 0 then (some false) else (if t142 = bt140.1 then ((laws_toDev.f k l0_0 l0_1 a0_2 a0_3).bind fun bt143 => ((impl_DevRead.f bt143.1 bt143.2.1 bt143.2.2.1 bt143.2.2.2 a1).bind fun t151 => ((laws_eqByteS.f k t151 t111).bind fun t154 => (if t154 = true then (some true) else (some false))))) else (some false))))) else (some false))))) else (some false)))) else (some false))))))))) = some true := h
  clear h
  replace H := Option.bind_eq_some_iff.mp H
  obtain ⟨t102, A1_, H⟩ := H
  have A1 := Aside0.mk A1_
  clear A1_
  (try dsimp only at H)
  by_cases c2 : t102 < 0
  · rw [if_pos c2] at H
    have c2b0 : decide (t102 < 0) = true := decide_eq_true c2
    clear c2
    clear H
    (try clear HB)
    have H0 := Aside0.mk (Hist.refl w)
    go_enter Try.func8, Try.ntmps8
    go_wp2_with (first | ((with_reducible refine gate_dst (N := 2) rfl ?_); refine mk ?hw (N := 2) ?hd (cs := #[.slice A0_0 l0_0.length c0_0, .slice A0_1 l0_1.length c0_1, .int .i64 a0_2, .bool a0_3]) (t := 42) ?hr ?_; (case hd => rfl); (case hw => rfl); (case hr => first | (go_simp; done) | (go_simp; rfl)); intro g3 hg7 w4 hbox6 hb5; have H8 := Aside0.mk (Hist.step H0.out hb5); clear H0; have B9 := Aside0.mk hbox6; have G10 := Aside0.mk (Nat.le_of_eq hg7.symm); have L11 := Aside0.mk (blk_lt hbox6); clear hb5 hbox6 hg7) | ((with_reducible refine gate_dst (N := 13) rfl ?_); refine ld ?hw rfl ?hx (blk_fix2 B9.out ⟨G10.out, L11.out⟩ H8.out.fixes.hd) Try.underlying42 rfl (by kernel_rfl) ?_; (case hw => rfl); (case hx => rfl)) | (((with_reducible refine gate_callee (f := 27) rfl ?_)); refine goesW (some 15) rfl ?hw Try.func27 (by kernel_rfl) rfl #[.agg #[.slice A0_0 l0_0.length c0_0, .slice A0_1 l0_1.length c0_1, .int .i64 a0_2, .bool a0_3], .int .i64 1048576] rfl (by (try simp only [List.map_toArray, List.map_cons, List.map_nil]); first | done | rfl | (simp only [List.length_drop, List.length_take]; rfl)) ?_; (case hw => rfl); with_reducible refine (laws_szDev.calls k _ _ l0_0 _ _ l0_1 a0_2 a0_3 1048576 t102 _ ?side1 ?side2 ?side3 ?side4 A1.out).mono ?_; (case side1 => exact Kd.C_below HR0_0.out H8.out.below); (case side2 => exact HC0_0.out); (case side3 => exact Kd.C_below HR0_1.out H8.out.below); (case side4 => exact HC0_1.out); rintro e w12 ⟨rfl, hb13⟩; refine ⟨_, rfl, ?_⟩; have H14 := Aside0.mk (Hist.pass H8.out hb13); clear H8; clear hb13))
    go_ret
    exact ⟨rfl, by first | exact H14.out.below | exact Drawn0.refl _⟩
  · rw [if_neg c2] at H
    have c2b0 : decide (t102 < 0) = false := decide_eq_false c2
    clear c2
    replace H := Option.bind_eq_some_iff.mp H
    obtain ⟨⟨t103, t106, t109, t110⟩, A15_, H⟩ := H
    have A15 := Aside0.mk A15_
    clear A15_
    (try dsimp only at H)
    replace H := Option.bind_eq_some_iff.mp H
    obtain ⟨t111, A16_, H⟩ := H
    have A16 := Aside0.mk A16_
    clear A16_
    (try dsimp only at H)
    replace H := Option.bind_eq_some_iff.mp H
    obtain ⟨⟨t114, t117, t120, t121⟩, A17_, H⟩ := H
    have A17 := Aside0.mk A17_
    clear A17_
    (try dsimp only at H)
    replace H := Option.bind_eq_some_iff.mp H
    obtain ⟨t123, A18_, H⟩ := H
    have A18 := Aside0.mk A18_
    clear A18_
    (try dsimp only at H)
    replace H := Option.bind_eq_some_iff.mp H
    obtain ⟨t126, A19_, H⟩ := H
    have A19 := Aside0.mk A19_
    clear A19_
    (try dsimp only at H)
    by_cases c20 : t126 = true
    · rw [if_pos c20] at H
      subst c20
      replace H := Option.bind_eq_some_iff.mp H
      obtain ⟨⟨t127, t130, t133, t134⟩, A21_, H⟩ := H
      have A21 := Aside0.mk A21_
      clear A21_
      (try dsimp only at H)
      replace H := Option.bind_eq_some_iff.mp H
      obtain ⟨t135, A22_, H⟩ := H
      have A22 := Aside0.mk A22_
      clear A22_
      (try dsimp only at H)
      by_cases c23 : t135 = true
      · rw [if_pos c23] at H
        subst c23
        replace H := Option.bind_eq_some_iff.mp H
        obtain ⟨⟨t136, t137, t138⟩, A24_, H⟩ := H
        have A24 := Aside0.mk A24_
        clear A24_
        (try dsimp only at H)
        by_cases c25 : t136 < 0
        · rw [if_pos c25] at H
          exact absurd H (by simp)
        · rw [if_neg c25] at H
          have c25b0 : decide (t136 < 0) = false := decide_eq_false c25
          clear c25
          replace H := Option.bind_eq_some_iff.mp H
          obtain ⟨t139, A26_, H⟩ := H
          have A26 := Aside0.mk A26_
          clear A26_
          (try dsimp only at H)
          by_cases c27 : t139 = true
          · rw [if_pos c27] at H
            subst c27
            replace H := Option.bind_eq_some_iff.mp H
            obtain ⟨⟨t140, t141⟩, A28_, H⟩ := H
            have A28 := Aside0.mk A28_
            clear A28_
            (try dsimp only at H)
            replace H := Option.bind_eq_some_iff.mp H
            obtain ⟨t142, A29_, H⟩ := H
            have A29 := Aside0.mk A29_
            clear A29_
            (try dsimp only at H)
            by_cases c30 : t142 < 0
            · rw [if_pos c30] at H
              exact absurd H (by simp)
            · rw [if_neg c30] at H
              have c30b0 : decide (t142 < 0) = false := decide_eq_false c30
              clear c30
              by_cases c31 : t142 = t140
              · rw [if_pos c31] at H
                have c31b0 : (t142 == t140) = true := beq_iff_eq.mpr c31
                have c31b1 : (t142 != t140) = false := bne_eq_false_iff_eq.mpr c31
                clear c31
                replace H := Option.bind_eq_some_iff.mp H
                obtain ⟨⟨t143, t146, t149, t150⟩, A32_, H⟩ := H
                have A32 := Aside0.mk A32_
                clear A32_
                (try dsimp only at H)
                replace H := Option.bind_eq_some_iff.mp H
                obtain ⟨t151, A33_, H⟩ := H
                have A33 := Aside0.mk A33_
                clear A33_
                (try dsimp only at H)
                replace H := Option.bind_eq_some_iff.mp H
                obtain ⟨t154, A34_, H⟩ := H
                have A34 := Aside0.mk A34_
                clear A34_
                (try dsimp only at H)
                by_cases c35 : t154 = true
                · rw [if_pos c35] at H
                  subst c35
                  clear H
                  (try clear HB)
                  have H0 := Aside0.mk (Hist.refl w)
                  go_enter Try.func8, Try.ntmps8
                  go_wp2_with (first | ((with_reducible refine gate_dst (N := 2) rfl ?_); refine mk ?hw (N := 2) ?hd (cs := #[.slice A0_0 l0_0.length c0_0, .slice A0_1 l0_1.length c0_1, .int .i64 a0_2, .bool a0_3]) (t := 42) ?hr ?_; (case hd => rfl); (case hw => rfl); (case hr => first | (go_simp; done) | (go_simp; rfl)); intro g36 hg40 w37 hbox39 hb38; have H41 := Aside0.mk (Hist.step H0.out hb38); clear H0; have B42 := Aside0.mk hbox39; have G43 := Aside0.mk (Nat.le_of_eq hg40.symm); have L44 := Aside0.mk (blk_lt hbox39); clear hb38 hbox39 hg40) | ((with_reducible refine gate_dst (N := 13) rfl ?_); refine ld ?hw rfl ?hx (blk_fix2 B42.out ⟨G43.out, L44.out⟩ H41.out.fixes.hd) Try.underlying42 rfl (by kernel_rfl) ?_; (case hw => rfl); (case hx => rfl)) | (((with_reducible refine gate_callee (f := 27) rfl ?_)); refine goesW (some 15) rfl ?hw Try.func27 (by kernel_rfl) rfl #[.agg #[.slice A0_0 l0_0.length c0_0, .slice A0_1 l0_1.length c0_1, .int .i64 a0_2, .bool a0_3], .int .i64 1048576] rfl (by (try simp only [List.map_toArray, List.map_cons, List.map_nil]); first | done | rfl | (simp only [List.length_drop, List.length_take]; rfl)) ?_; (case hw => rfl); with_reducible refine (laws_szDev.calls k _ _ l0_0 _ _ l0_1 a0_2 a0_3 1048576 t102 _ ?side1 ?side2 ?side3 ?side4 A1.out).mono ?_; (case side1 => exact Kd.C_below HR0_0.out H41.out.below); (case side2 => exact HC0_0.out); (case side3 => exact Kd.C_below HR0_1.out H41.out.below); (case side4 => exact HC0_1.out); rintro e w45 ⟨rfl, hb46⟩; refine ⟨_, rfl, ?_⟩; have H47 := Aside0.mk (Hist.pass H41.out hb46); clear H41; clear hb46) | ((with_reducible refine gate_dst (N := 18) rfl ?_); refine ld ?hw rfl ?hx (blk_fix2 B42.out ⟨G43.out, L44.out⟩ H47.out.fixes.hd) Try.underlying42 rfl (by kernel_rfl) ?_; (case hw => rfl); (case hx => rfl)) | (((with_reducible refine gate_callee (f := 29) rfl ?_)); refine goesW (some 19) rfl ?hw Try.func29 (by kernel_rfl) rfl #[.agg #[.slice A0_0 l0_0.length c0_0, .slice A0_1 l0_1.length c0_1, .int .i64 a0_2, .bool a0_3]] rfl (by (try simp only [List.map_toArray, List.map_cons, List.map_nil]); first | done | rfl | (simp only [List.length_drop, List.length_take]; rfl)) ?_; (case hw => rfl); with_reducible refine (laws_toDev.calls k _ _ l0_0 _ _ l0_1 a0_2 a0_3 t103 t106 t109 t110 _ ?side1 ?side2 ?side3 ?side4 A15.out).mono ?_; (case side1 => exact Kd.C_below HR0_0.out H47.out.below); (case side2 => exact HC0_0.out); (case side3 => exact Kd.C_below HR0_1.out H47.out.below); (case side4 => exact HC0_1.out); rintro e w48 ⟨v49, v50, rfl, ho51, ho52, hb53⟩; refine ⟨_, rfl, ?_⟩; have H54 := Aside0.mk (Hist.step H47.out hb53); clear H47; clear hb53; have F57 := Aside0.mk ho51; clear ho51; have F61 := Aside0.mk ho52; clear ho52; obtain ⟨Ao55, co56, eo63⟩ := Kd.R_slice F57.out; (first | subst eo63 | (injection eo63 with f1_ f2_ f3_; have f4_ := f1_.symm; have f5_ := f3_.symm; clear f1_ f2_ f3_; subst f4_; subst f5_)); obtain ⟨Ao59, co60, eo64⟩ := Kd.S_slice F61.out; (first | subst eo64 | (injection eo64 with f1_ f2_ f3_; have f4_ := f1_.symm; have f5_ := f3_.symm; clear f1_ f2_ f3_; subst f4_; subst f5_))) | (((with_reducible refine gate_callee (f := 31) rfl ?_)); refine goesW (some 21) rfl ?hw Try.func31 (by kernel_rfl) rfl #[.agg #[.slice Ao55 t103.length co56, .slice Ao59 t106.length co60, .int .i64 t109, .bool t110], .int .i64 a1] rfl (by (try simp only [List.map_toArray, List.map_cons, List.map_nil]); first | done | rfl | (simp only [List.length_drop, List.length_take]; rfl)) ?_; (case hw => rfl); with_reducible refine (spec_DevRead.calls k _ _ t103 _ _ t106 t109 t110 a1 t111 _ ?side1 ?side2 ?side3 ?side4 A16.out).mono ?_; (case side1 => exact (Kd.R_reads' (R_fix F57.out H54.out.fixes.hd)).2.2); (case side2 => exact R_capn (R_fix F57.out H54.out.fixes.hd)); (case side3 => exact (Kd.S_reads' (S_fix F61.out H54.out.fixes.hd)).2.2); (case side4 => exact S_capn (S_fix F61.out H54.out.fixes.hd)); rintro e w65 ⟨v66, rfl, ho67, hb68⟩; refine ⟨_, rfl, ?_⟩; have H69 := Aside0.mk (Hist.step H54.out hb68); clear H54; clear hb68; have F72 := Aside0.mk ho67; clear ho67; obtain ⟨Ao70, co71, eo74⟩ := Kd.R_slice F72.out; (first | subst eo74 | (injection eo74 with f1_ f2_ f3_; have f4_ := f1_.symm; have f5_ := f3_.symm; clear f1_ f2_ f3_; subst f4_; subst f5_))) | ((with_reducible refine gate_dst (N := 22) rfl ?_); refine ld ?hw rfl ?hx (blk_fix2 B42.out ⟨G43.out, L44.out⟩ H69.out.fixes.tl.tl.hd) Try.underlying42 rfl (by kernel_rfl) ?_; (case hw => rfl); (case hx => rfl)) | (((with_reducible refine gate_callee (f := 29) rfl ?_)); refine goesW (some 23) rfl ?hw Try.func29 (by kernel_rfl) rfl #[.agg #[.slice A0_0 l0_0.length c0_0, .slice A0_1 l0_1.length c0_1, .int .i64 a0_2, .bool a0_3]] rfl (by (try simp only [List.map_toArray, List.map_cons, List.map_nil]); first | done | rfl | (simp only [List.length_drop, List.length_take]; rfl)) ?_; (case hw => rfl); with_reducible refine (laws_toDev.calls k _ _ l0_0 _ _ l0_1 a0_2 a0_3 t114 t117 t120 t121 _ ?side1 ?side2 ?side3 ?side4 A17.out).mono ?_; (case side1 => exact Kd.C_below HR0_0.out H69.out.below); (case side2 => exact HC0_0.out); (case side3 => exact Kd.C_below HR0_1.out H69.out.below); (case side4 => exact HC0_1.out); rintro e w75 ⟨v76, v77, rfl, ho78, ho79, hb80⟩; refine ⟨_, rfl, ?_⟩; have H81 := Aside0.mk (Hist.step H69.out hb80); clear H69; clear hb80; have F84 := Aside0.mk ho78; clear ho78; have F88 := Aside0.mk ho79; clear ho79; obtain ⟨Ao82, co83, eo90⟩ := Kd.R_slice F84.out; (first | subst eo90 | (injection eo90 with f1_ f2_ f3_; have f4_ := f1_.symm; have f5_ := f3_.symm; clear f1_ f2_ f3_; subst f4_; subst f5_)); obtain ⟨Ao86, co87, eo91⟩ := Kd.S_slice F88.out; (first | subst eo91 | (injection eo91 with f1_ f2_ f3_; have f4_ := f1_.symm; have f5_ := f3_.symm; clear f1_ f2_ f3_; subst f4_; subst f5_))) | ((with_reducible refine gate_dst (N := 7) rfl ?_); refine mk ?hw (N := 7) ?hd (cs := #[.slice none 0 0, .slice none 0 0, .int .i64 0, .bool false]) (t := 35) ?hr ?_; (case hd => rfl); (case hw => rfl); (case hr => first | (go_simp; done) | (go_simp; rfl)); intro g92 hg96 w93 hbox95 hb94; have H97 := Aside0.mk (Hist.step H81.out hb94); clear H81; have B98 := Aside0.mk hbox95; have G99 := Aside0.mk (Nat.le_of_eq hg96.symm); have L100 := Aside0.mk (blk_lt hbox95); clear hb94 hbox95 hg96) | ((with_reducible refine gate_store (t := 35) (p := 7) rfl ?_); refine st_all ?hw ?hN rfl ?hp (cs := #[.slice Ao82 t114.length co83, .slice Ao86 t117.length co87, .int .i64 t120, .bool t121]) ?hx (blk_fix2 B98.out ⟨G99.out, L100.out⟩ H97.out.fixes.hd) (by kernel_rfl) rfl (by simp [Value.oneCell']) ?_; (case hw => rfl); (case hN => rfl); (case hp => rfl); (case hx => rfl); intro w101 hbox102 hs103; have H104 : Aside0 (Hist w [(w101, w75.heap.size, w93.heap.size), (w75, w65.heap.size, w75.heap.size), (w65, w48.heap.size, w65.heap.size), (w48, w45.heap.size, w48.heap.size), (w37, w.heap.size, w37.heap.size)] w101) := ⟨Hist.mark' (w := w93) (b := w75.heap.size) (t := w93.heap.size) (l1 := []) (l2 := [(w75, w65.heap.size, w75.heap.size), (w65, w48.heap.size, w65.heap.size), (w48, w45.heap.size, w48.heap.size), (w37, w.heap.size, w37.heap.size)]) (by simp only [List.cons_append, List.nil_append]) (by simp only [List.cons_append, List.nil_append]) H97.out hs103 (fun k_ hk_ => by rw [hk_]; exact ⟨G99.out, L100.out⟩)⟩; have B98n := Aside0.mk hbox102; clear hs103 hbox102 H97 B98; have B98 := B98n; clear B98n) | ((with_reducible refine gate_dst (N := 24) rfl ?_); refine ld ?hw rfl ?hx (blk_fix2 B98.out ⟨G99.out, L100.out⟩ H104.out.fixes.hd) Try.underlying35 rfl (by kernel_rfl) ?_; (case hw => rfl); (case hx => rfl)) | (((with_reducible refine gate_callee (f := 32) rfl ?_)); refine goesW (some 26) rfl ?hw Try.func32 (by kernel_rfl) rfl #[.agg #[.slice Ao82 t114.length co83, .slice Ao86 t117.length co87, .int .i64 t120, .bool t121], .int .i64 a1] rfl (by (try simp only [List.map_toArray, List.map_cons, List.map_nil]); first | done | rfl | (simp only [List.length_drop, List.length_take]; rfl)) ?_; (case hw => rfl); with_reducible refine (impl_DevRead.calls _ _ t114 _ _ t117 t120 t121 a1 t123 _ ?side1 ?side2 ?side3 ?side4 A18.out).mono ?_; (case side1 => exact (Kd.R_reads' (R_fix F84.out H104.out.fixes.tl.hd)).2.2); (case side2 => exact R_capn (R_fix F84.out H104.out.fixes.tl.hd)); (case side3 => exact (Kd.S_reads' (S_fix F88.out H104.out.fixes.tl.hd)).2.2); (case side4 => exact S_capn (S_fix F88.out H104.out.fixes.tl.hd)); rintro e w105 ⟨v106, rfl, ho107, hb108⟩; refine ⟨_, rfl, ?_⟩; have H109 := Aside0.mk (Hist.step H104.out hb108); clear H104; clear hb108; have F112 := Aside0.mk ho107; clear ho107; obtain ⟨Ao110, co111, eo114⟩ := Kd.R_slice F112.out; (first | subst eo114 | (injection eo114 with f1_ f2_ f3_; have f4_ := f1_.symm; have f5_ := f3_.symm; clear f1_ f2_ f3_; subst f4_; subst f5_))) | (((with_reducible refine gate_callee (f := 18) rfl ?_)); refine goesW (some 29) rfl ?hw Try.func18 (by kernel_rfl) rfl #[.slice Ao110 t123.length co111, .slice Ao70 t111.length co71] rfl (by (try simp only [List.map_toArray, List.map_cons, List.map_nil]); first | done | rfl | (simp only [List.length_drop, List.length_take]; rfl)) ?_; (case hw => rfl); with_reducible refine (laws_eqByteS.calls k _ _ t123 _ _ t111 true _ ?side1 ?side2 ?side3 ?side4 A19.out).mono ?_; (case side1 => exact (Kd.R_reads' (R_fix F112.out H109.out.fixes.hd)).2.2); (case side2 => exact R_capn (R_fix F112.out H109.out.fixes.hd)); (case side3 => exact (Kd.R_reads' (R_fix F72.out H109.out.fixes.tl.tl.tl.hd)).2.2); (case side4 => exact R_capn (R_fix F72.out H109.out.fixes.tl.tl.tl.hd)); rintro e w115 ⟨rfl, hd_⟩; have hb116 := hd_.below; clear hd_; refine ⟨_, rfl, ?_⟩; have H117 := Aside0.mk (Hist.pass H109.out hb116); clear H109; clear hb116))
                  have H118 := Aside0.mk (Hist.drew H117.out)
                  clear H117
                  refine start_ (n := 5) (S := fun w' => w'.heap[g92]? = some (.cells #[.slice Ao82 t114.length co83, .slice Ao86 t117.length co87, .int .i64 t120, .bool t121] 35 (0, 0)) ∧ w'.heap[g36]? = some (.cells #[.slice A0_0 l0_0.length c0_0, .slice A0_1 l0_1.length c0_1, .int .i64 a0_2, .bool a0_3] 42 (0, 0))) (ds := []) #[false, false, false, false, false] (by kernel_rfl) rfl rfl ⟨(blk_fix2 B98.out ⟨G99.out, L100.out⟩ H118.out.fixes.tl.hd), (blk_fix2 B42.out ⟨G43.out, L44.out⟩ H118.out.fixes.tl.tl.tl.tl.tl.hd)⟩ (fun hHeld => ?_)
                  generalize w115.drew = w119 at H118 hHeld ⊢
                  refine take_ (i := 0) (N := some 31) (v := .agg #[.slice Ao82 t114.length co83, .slice Ao86 t117.length co87, .int .i64 t120, .bool t121]) (a' := ?aaq120) #[true, false, false, false, false] rfl rfl (by kernel_rfl) (fun _ _ _ h => h) (Or.inl ⟨by rfl, ?ylq120⟩) hHeld ?haq120 ?hhq120
                  case ylq120 =>
                    rintro w' ⟨s0, s1⟩
                    exact ld_run (x := .tmp 7) (by rfl) (by rfl) s0 Try.underlying35 rfl (by kernel_rfl)
                  case haq120 =>
                    simp only [Act.put, List.setIfInBounds_toArray, List.set_cons_zero, List.set_cons_succ, i64_w, i32_w]
                    rfl
                  refine take_ (i := 1) (N := some 32) (v := .agg #[.slice A0_0 l0_0.length c0_0, .slice A0_1 l0_1.length c0_1, .int .i64 a0_2, .bool a0_3]) (a' := ?aaq121) #[true, true, false, false, false] rfl rfl (by kernel_rfl) (fun _ _ _ h => h) (Or.inl ⟨by rfl, ?ylq121⟩) hHeld ?haq121 ?hhq121
                  case ylq121 =>
                    rintro w' ⟨s0, s1⟩
                    exact ld_run (x := .tmp 2) (by rfl) (by rfl) s1 Try.underlying42 rfl (by kernel_rfl)
                  case haq121 =>
                    simp only [Act.put, List.setIfInBounds_toArray, List.set_cons_zero, List.set_cons_succ, i64_w, i32_w]
                    rfl
                  refine one_ (i := 2) (N := some 33) #[true, true, true, false, false] rfl rfl (by kernel_rfl) (by decide) (fun K hK => ?_)
                  refine goes_ Try.func29 (by kernel_rfl) rfl #[.agg #[.slice A0_0 l0_0.length c0_0, .slice A0_1 l0_1.length c0_1, .int .i64 a0_2, .bool a0_3]] (by rfl) rfl rfl (by (try simp only [List.map_toArray, List.map_cons, List.map_nil]); first | done | rfl | (simp only [List.length_drop, List.length_take]; rfl)) ?_
                  with_reducible refine (laws_toDev.calls k _ _ l0_0 _ _ l0_1 a0_2 a0_3 t127 t130 t133 t134 _ ?side1 ?side2 ?side3 ?side4 A21.out).mono ?_
                  (case side1 => exact Kd.C_below HR0_0.out H118.out.below)
                  (case side2 => exact HC0_0.out)
                  (case side3 => exact Kd.C_below HR0_1.out H118.out.below)
                  (case side4 => exact HC0_1.out)
                  rintro e w122 ⟨v123, v124, rfl, ho125, ho126, hb127⟩
                  refine ⟨_, rfl, ?_⟩
                  have H128 := Aside0.mk (Hist.step H118.out hb127)
                  clear H118
                  clear hb127
                  have F131 := Aside0.mk ho125
                  clear ho125
                  have F135 := Aside0.mk ho126
                  clear ho126
                  obtain ⟨Ao129, co130, eo137⟩ := Kd.R_slice F131.out
                  (first | subst eo137 | (injection eo137 with f1_ f2_ f3_; have f4_ := f1_.symm; have f5_ := f3_.symm; clear f1_ f2_ f3_; subst f4_; subst f5_))
                  obtain ⟨Ao133, co134, eo138⟩ := Kd.S_slice F135.out
                  (first | subst eo138 | (injection eo138 with f1_ f2_ f3_; have f4_ := f1_.symm; have f5_ := f3_.symm; clear f1_ f2_ f3_; subst f4_; subst f5_))
                  refine hK.out _ _ ⟨(blk_fix2 B98.out ⟨G99.out, L100.out⟩ H128.out.fixes.tl.tl.hd), (blk_fix2 B42.out ⟨G43.out, L44.out⟩ H128.out.fixes.tl.tl.tl.tl.tl.tl.hd)⟩ (fun hHeld => ?_)
                  clear hK K
                  refine norm_ (a' := ?_) ?_ ?_
                  rotate_left
                  · show Act.put _ (some 33) _ = _
                    simp only [Act.put, List.setIfInBounds_toArray, List.set_cons_zero, List.set_cons_succ, i64_w, i32_w]
                    rfl
                  refine one_ (i := 3) (N := some 34) #[true, true, true, true, false] rfl rfl (by kernel_rfl) (by decide) (fun K hK => ?_)
                  refine goes_ Try.func24 (by kernel_rfl) rfl #[.agg #[.slice Ao82 t114.length co83, .slice Ao86 t117.length co87, .int .i64 t120, .bool t121], .agg #[.slice Ao129 t127.length co130, .slice Ao133 t130.length co134, .int .i64 t133, .bool t134]] (by rfl) rfl rfl (by (try simp only [List.map_toArray, List.map_cons, List.map_nil]); first | done | rfl | (simp only [List.length_drop, List.length_take]; rfl)) ?_
                  with_reducible refine (laws_eqDev.calls k _ _ t114 _ _ t117 t120 t121 _ _ t127 _ _ t130 t133 t134 true _ ?side1 ?side2 ?side3 ?side4 ?side5 ?side6 ?side7 ?side8 A22.out).mono ?_
                  (case side1 => exact (Kd.R_reads' (R_fix F84.out H128.out.fixes.tl.tl.tl.hd)).2.2)
                  (case side2 => exact R_capn (R_fix F84.out H128.out.fixes.tl.tl.tl.hd))
                  (case side3 => exact (Kd.S_reads' (S_fix F88.out H128.out.fixes.tl.tl.tl.hd)).2.2)
                  (case side4 => exact S_capn (S_fix F88.out H128.out.fixes.tl.tl.tl.hd))
                  (case side5 => exact (Kd.R_reads' (R_fix F131.out H128.out.fixes.hd)).2.2)
                  (case side6 => exact R_capn (R_fix F131.out H128.out.fixes.hd))
                  (case side7 => exact (Kd.S_reads' (S_fix F135.out H128.out.fixes.hd)).2.2)
                  (case side8 => exact S_capn (S_fix F135.out H128.out.fixes.hd))
                  rintro e w139 ⟨rfl, hb140⟩
                  refine ⟨_, rfl, ?_⟩
                  have H141 := Aside0.mk (Hist.pass H128.out hb140)
                  clear H128
                  clear hb140
                  refine hK.out _ _ ⟨(blk_fix2 B98.out ⟨G99.out, L100.out⟩ H141.out.fixes.tl.tl.hd), (blk_fix2 B42.out ⟨G43.out, L44.out⟩ H141.out.fixes.tl.tl.tl.tl.tl.tl.hd)⟩ (fun hHeld => ?_)
                  clear hK K
                  refine norm_ (a' := ?_) ?_ ?_
                  rotate_left
                  · show Act.put _ (some 34) _ = _
                    simp only [Act.put, List.setIfInBounds_toArray, List.set_cons_zero, List.set_cons_succ, i64_w, i32_w]
                    rfl
                  refine pure_ (i := 4) (N := some 35) (v := ?_) (a' := ?_) #[true, true, true, true, true] rfl rfl (by kernel_rfl) (fun _ _ _ h => h) (Or.inl ⟨by rfl, ?_⟩) ?_ ?_
                  rotate_left
                  · intro w'
                    go_simp
                    with_reducible rfl
                  rotate_left
                  · simp only [Act.put, List.setIfInBounds_toArray, List.set_cons_zero, List.set_cons_succ, i64_w, i32_w]
                    rfl
                  refine done_ (by kernel_rfl) ?_
                  go_wp2_with (first | ((with_reducible refine gate_dst (N := 36) rfl ?_); refine ld ?hw rfl ?hx (blk_fix2 B98.out ⟨G99.out, L100.out⟩ H141.out.fixes.tl.tl.hd) Try.underlying35 rfl (by kernel_rfl) ?_; (case hw => rfl); (case hx => rfl)) | (((with_reducible refine gate_callee (f := 25) rfl ?_)); refine goesW (some 38) rfl ?hw Try.func25 (by kernel_rfl) rfl #[.agg #[.slice Ao82 t114.length co83, .slice Ao86 t117.length co87, .int .i64 t120, .bool t121], .int .i64 1] rfl (by (try simp only [List.map_toArray, List.map_cons, List.map_nil]); first | done | rfl | (simp only [List.length_drop, List.length_take]; rfl)) ?_; (case hw => rfl); with_reducible refine (mk_laws_markDev (Fixes.at (w := w75) (b := w65.heap.size) (t := w75.heap.size) (l1 := [(w122, w119.heap.size, w122.heap.size), (w105, w101.heap.size, w105.heap.size), (w101, w75.heap.size, w93.heap.size)]) (l2 := [(w65, w48.heap.size, w65.heap.size), (w48, w45.heap.size, w48.heap.size), (w37, w.heap.size, w37.heap.size)]) (by simp only [List.cons_append, List.nil_append]) H141.out.fixes) (R_fix F84.out H141.out.fixes.tl.tl.tl.hd) (S_fix F88.out H141.out.fixes.tl.tl.tl.hd) (fun _ h_ => h_.1) A24.out).mono ?_; rintro e w142 ⟨rfl, hr144, hr145, hs143⟩; refine ⟨_, rfl, ?_⟩; have H146 : Aside0 (Hist w [(w122, w119.heap.size, w122.heap.size), (w105, w101.heap.size, w105.heap.size), (w101, w75.heap.size, w93.heap.size), (w142, w65.heap.size, w75.heap.size), (w65, w48.heap.size, w65.heap.size), (w48, w45.heap.size, w48.heap.size), (w37, w.heap.size, w37.heap.size)] w142) := ⟨Hist.mark' (w := w75) (b := w65.heap.size) (t := w75.heap.size) (l1 := [(w122, w119.heap.size, w122.heap.size), (w105, w101.heap.size, w105.heap.size), (w101, w75.heap.size, w93.heap.size)]) (l2 := [(w65, w48.heap.size, w65.heap.size), (w48, w45.heap.size, w48.heap.size), (w37, w.heap.size, w37.heap.size)]) (by simp only [List.cons_append, List.nil_append]) (by simp only [List.cons_append, List.nil_append]) H141.out hs143 (fun k_ hk_ => by first | exact hk_.2 | (rcases hk_ with hk_ | hk_ <;> exact hk_.2))⟩; clear H141 hs143; have F147 := Aside0.mk hr144; have E148 := Aside0.mk (Kd.R_reads' hr144).1; clear hr144; have F149 := Aside0.mk hr145; have E150 := Aside0.mk (Kd.S_reads' hr145).1; clear hr145) | (((with_reducible refine gate_callee (f := 18) rfl ?_)); refine goesW (some 44) rfl ?hw Try.func18 (by kernel_rfl) rfl #[.slice Ao110 t123.length co111, .slice Ao70 t111.length co71] rfl (by (try simp only [List.map_toArray, List.map_cons, List.map_nil]); first | done | rfl | (simp only [List.length_drop, List.length_take]; rfl)) ?_; (case hw => rfl); with_reducible refine (laws_eqByteS.calls k _ _ t123 _ _ t111 true _ ?side1 ?side2 ?side3 ?side4 A26.out).mono ?_; (case side1 => exact (Kd.R_reads' (R_fix F112.out H146.out.fixes.tl.hd)).2.2); (case side2 => exact R_capn (R_fix F112.out H146.out.fixes.tl.hd)); (case side3 => exact (Kd.R_reads' (R_fix F72.out H146.out.fixes.tl.tl.tl.tl.hd)).2.2); (case side4 => exact R_capn (R_fix F72.out H146.out.fixes.tl.tl.tl.tl.hd)); rintro e w151 ⟨rfl, hd_⟩; have hb152 := hd_.below; clear hd_; refine ⟨_, rfl, ?_⟩; have H153 := Aside0.mk (Hist.pass H146.out hb152); clear H146; clear hb152) | (((with_reducible refine gate_callee (f := 33) rfl ?_)); refine goesW (some 49) rfl ?hw Try.func33 (by kernel_rfl) rfl #[.slice Ao110 t123.length co111, .int .i64 1] rfl (by (try simp only [List.map_toArray, List.map_cons, List.map_nil]); first | done | rfl | (simp only [List.length_drop, List.length_take]; rfl)) ?_; (case hw => rfl); with_reducible refine (markB (Fixes.at (w := w105) (b := w101.heap.size) (t := w105.heap.size) (l1 := [(w122, w119.heap.size, w122.heap.size)]) (l2 := [(w101, w75.heap.size, w93.heap.size), (w142, w65.heap.size, w75.heap.size), (w65, w48.heap.size, w65.heap.size), (w48, w45.heap.size, w48.heap.size), (w37, w.heap.size, w37.heap.size)]) (by simp only [List.cons_append, List.nil_append]) H153.out.fixes) (R_fix F112.out H153.out.fixes.tl.hd) A28.out).mono ?_; rintro e w154 ⟨rfl, hr156, hs155⟩; refine ⟨_, rfl, ?_⟩; have H157 : Aside0 (Hist w [(w122, w119.heap.size, w122.heap.size), (w154, w101.heap.size, w105.heap.size), (w101, w75.heap.size, w93.heap.size), (w142, w65.heap.size, w75.heap.size), (w65, w48.heap.size, w65.heap.size), (w48, w45.heap.size, w48.heap.size), (w37, w.heap.size, w37.heap.size)] w154) := ⟨Hist.mark' (w := w105) (b := w101.heap.size) (t := w105.heap.size) (l1 := [(w122, w119.heap.size, w122.heap.size)]) (l2 := [(w101, w75.heap.size, w93.heap.size), (w142, w65.heap.size, w75.heap.size), (w65, w48.heap.size, w65.heap.size), (w48, w45.heap.size, w48.heap.size), (w37, w.heap.size, w37.heap.size)]) (by simp only [List.cons_append, List.nil_append]) (by simp only [List.cons_append, List.nil_append]) H153.out hs155 (fun k_ hk_ => by first | exact hk_.2 | (rcases hk_ with hk_ <;> exact hk_.2))⟩; clear H153 hs155; have F158 := Aside0.mk hr156; have E159 := Aside0.mk (Kd.R_reads' hr156).1; clear hr156) | (((with_reducible refine gate_callee (f := 34) rfl ?_)); refine goesW (some 52) rfl ?hw Try.func34 (by kernel_rfl) rfl #[.slice Ao110 t141.length co111, .int .i64 1] rfl (by (try simp only [List.map_toArray, List.map_cons, List.map_nil]); first | done | rfl | (rw [← E159.out]; first | done | rfl) | (simp only [List.length_drop, List.length_take]; rfl)) ?_; (case hw => rfl); with_reducible refine (laws_heldByteS.calls k _ _ t141 1 t142 _ ?side1 ?side2 A29.out).mono ?_; (case side1 => exact (Kd.R_reads' (R_fix2 F158.out H157.out.fixes.tl.hd)).2.2); (case side2 => exact R_capn (R_fix2 F158.out H157.out.fixes.tl.hd)); rintro e w160 ⟨rfl, hd_⟩; have hb161 := hd_.below; clear hd_; refine ⟨_, rfl, ?_⟩; have H162 := Aside0.mk (Hist.pass H157.out hb161); clear H157; clear hb161) | ((with_reducible refine gate_dst (N := 58) rfl ?_); refine ld ?hw rfl ?hx (blk_fix2 B42.out ⟨G43.out, L44.out⟩ H162.out.fixes.tl.tl.tl.tl.tl.tl.hd) Try.underlying42 rfl (by kernel_rfl) ?_; (case hw => rfl); (case hx => rfl)) | (((with_reducible refine gate_callee (f := 29) rfl ?_)); refine goesW (some 59) rfl ?hw Try.func29 (by kernel_rfl) rfl #[.agg #[.slice A0_0 l0_0.length c0_0, .slice A0_1 l0_1.length c0_1, .int .i64 a0_2, .bool a0_3]] rfl (by (try simp only [List.map_toArray, List.map_cons, List.map_nil]); first | done | rfl | (simp only [List.length_drop, List.length_take]; rfl)) ?_; (case hw => rfl); with_reducible refine (laws_toDev.calls k _ _ l0_0 _ _ l0_1 a0_2 a0_3 t143 t146 t149 t150 _ ?side1 ?side2 ?side3 ?side4 A32.out).mono ?_; (case side1 => exact Kd.C_below HR0_0.out H162.out.below); (case side2 => exact HC0_0.out); (case side3 => exact Kd.C_below HR0_1.out H162.out.below); (case side4 => exact HC0_1.out); rintro e w163 ⟨v164, v165, rfl, ho166, ho167, hb168⟩; refine ⟨_, rfl, ?_⟩; have H169 := Aside0.mk (Hist.step H162.out hb168); clear H162; clear hb168; have F172 := Aside0.mk ho166; clear ho166; have F176 := Aside0.mk ho167; clear ho167; obtain ⟨Ao170, co171, eo178⟩ := Kd.R_slice F172.out; (first | subst eo178 | (injection eo178 with f1_ f2_ f3_; have f4_ := f1_.symm; have f5_ := f3_.symm; clear f1_ f2_ f3_; subst f4_; subst f5_)); obtain ⟨Ao174, co175, eo179⟩ := Kd.S_slice F176.out; (first | subst eo179 | (injection eo179 with f1_ f2_ f3_; have f4_ := f1_.symm; have f5_ := f3_.symm; clear f1_ f2_ f3_; subst f4_; subst f5_))) | (((with_reducible refine gate_callee (f := 32) rfl ?_)); refine goesW (some 61) rfl ?hw Try.func32 (by kernel_rfl) rfl #[.agg #[.slice Ao170 t143.length co171, .slice Ao174 t146.length co175, .int .i64 t149, .bool t150], .int .i64 a1] rfl (by (try simp only [List.map_toArray, List.map_cons, List.map_nil]); first | done | rfl | (simp only [List.length_drop, List.length_take]; rfl)) ?_; (case hw => rfl); with_reducible refine (impl_DevRead.calls _ _ t143 _ _ t146 t149 t150 a1 t151 _ ?side1 ?side2 ?side3 ?side4 A33.out).mono ?_; (case side1 => exact (Kd.R_reads' (R_fix F172.out H169.out.fixes.hd)).2.2); (case side2 => exact R_capn (R_fix F172.out H169.out.fixes.hd)); (case side3 => exact (Kd.S_reads' (S_fix F176.out H169.out.fixes.hd)).2.2); (case side4 => exact S_capn (S_fix F176.out H169.out.fixes.hd)); rintro e w180 ⟨v181, rfl, ho182, hb183⟩; refine ⟨_, rfl, ?_⟩; have H184 := Aside0.mk (Hist.step H169.out hb183); clear H169; clear hb183; have F187 := Aside0.mk ho182; clear ho182; obtain ⟨Ao185, co186, eo189⟩ := Kd.R_slice F187.out; (first | subst eo189 | (injection eo189 with f1_ f2_ f3_; have f4_ := f1_.symm; have f5_ := f3_.symm; clear f1_ f2_ f3_; subst f4_; subst f5_))) | (((with_reducible refine gate_callee (f := 18) rfl ?_)); refine goesW (some 64) rfl ?hw Try.func18 (by kernel_rfl) rfl #[.slice Ao185 t151.length co186, .slice Ao70 t111.length co71] rfl (by (try simp only [List.map_toArray, List.map_cons, List.map_nil]); first | done | rfl | (simp only [List.length_drop, List.length_take]; rfl)) ?_; (case hw => rfl); with_reducible refine (laws_eqByteS.calls k _ _ t151 _ _ t111 true _ ?side1 ?side2 ?side3 ?side4 A34.out).mono ?_; (case side1 => exact (Kd.R_reads' (R_fix F187.out H184.out.fixes.hd)).2.2); (case side2 => exact R_capn (R_fix F187.out H184.out.fixes.hd)); (case side3 => exact (Kd.R_reads' (R_fix F72.out H184.out.fixes.tl.tl.tl.tl.tl.tl.hd)).2.2); (case side4 => exact R_capn (R_fix F72.out H184.out.fixes.tl.tl.tl.tl.tl.tl.hd)); rintro e w190 ⟨rfl, hd_⟩; have hb191 := hd_.below; clear hd_; refine ⟨_, rfl, ?_⟩; have H192 := Aside0.mk (Hist.pass H184.out hb191); clear H184; clear hb191))
                  go_ret
                  exact ⟨rfl, by first | exact H192.out.below | exact Drawn0.refl _⟩
                · rw [if_neg c35] at H
                  exact absurd H (by simp)
              · rw [if_neg c31] at H
                exact absurd H (by simp)
          · rw [if_neg c27] at H
            exact absurd H (by simp)
      · rw [if_neg c23] at H
        exact absurd H (by simp)
    · rw [if_neg c20] at H
      exact absurd H (by simp)

end Go.Proofs.Ytbdbeccaopphaaa.Q
namespace Go.Proofs.Ytbdbeccaopphaaa.O
open Go.RowKit Go.Proofs.YtbdbeccaopphaaaW.PrintWords

/-- Cells that read as data of type t are cells of the kind d, of a value that meets ok. -/
def Opens {α : Type} (P : Program) (t : TypeId) (d : Kd α) (ok : α → Prop) : Prop :=
  ∀ (H : Type) (enc : TypeId × Value → H) (w : World) (fuel : Nat) (cs : List Value) (y : DataW H × List MemPlace),
    DataW.trod enc P w 0 (fun _ => true) true fuel t cs = some y → ∃ x, d.K w x cs ∧ ok x

section
variable {α β : Type} {P : Program} {t e : TypeId} {d : Kd α} {ok : α → Prop}

theorem opens_int {k : IntKind} (ht : P.underlying t = some (.int k)) : Opens P t (Kd.int k) (fun n => (Lit.int k n).wf = true) := by
  intro H enc w fuel cs y h
  obtain ⟨n, rfl, _, hw⟩ := DataW.trod_int ht h
  exact ⟨n, rfl, hw⟩
theorem opens_bool (ht : P.underlying t = some .bool) : Opens P t Kd.bool (fun _ => True) := by
  intro H enc w fuel cs y h
  obtain ⟨n, rfl, _⟩ := DataW.trod_bool ht h
  exact ⟨n, rfl, trivial⟩
theorem list_of {p : Nat → α → Prop} : ∀ n, (∀ i, i < n → ∃ x, p i x) → ∃ xs : List α, xs.length = n ∧ ∀ i x, xs[i]? = some x → p i x
  | 0, _ => ⟨[], rfl, by simp⟩
  | n + 1, h => by
    obtain ⟨xs, hl, hp⟩ := list_of n (fun i hi => h i (by omega))
    obtain ⟨x, hx⟩ := h n (by omega)
    refine ⟨xs ++ [x], by simp [hl], fun i z hz => ?_⟩
    by_cases hi : i < n
    · rw [List.getElem?_append_left (by omega)] at hz
      exact hp i z hz
    · have : i < n + 1 := by
        have := (List.getElem?_eq_some_iff.1 hz).1
        simp [hl] at this
        exact this
      obtain rfl : i = n := by omega
      rw [List.getElem?_append_right (by omega)] at hz
      simp [hl] at hz
      exact hz ▸ hx
theorem opens_slice (ht : P.underlying t = some (.slice e)) (hc : P.cellsOf e = d.sz) (he : Opens P e d ok) :
    Opens P t (Kd.slice e d) (fun xs => xs.length ≤ 9223372036854775807 ∧ ∀ x ∈ xs, ok x) := by
  intro H enc w fuel cs y h
  rcases DataW.trod_slice ht h with ⟨rfl, _⟩ | ⟨a, len, cap, elems, rest, n, _, rfl, _, _, hl, hm, hlen, hel, _, _⟩
  · exact ⟨[], ⟨none, 0, rfl, Nat.le_refl _, Kd.C_nil d w⟩, by simp, by simp⟩
  · have each : ∀ i, i < len → ∃ x, ∃ c, w.cells? 0 (a.add (i * d.sz)) d.sz = some c ∧ d.K w x c ∧ ok x := by
      intro i hi
      have h1 := hel i hi
      rw [hc, List.getElem?_eq_getElem (by omega)] at h1
      obtain ⟨c, h2, h3⟩ := Option.bind_eq_some_iff.1 h1
      obtain ⟨x, hx, hok⟩ := he H enc w n c _ h3
      exact ⟨x, c, h2, hx, hok⟩
    obtain ⟨xs, hxl, hxs⟩ := list_of len each
    refine ⟨xs, ⟨some a, cap, by rw [hxl], by omega, ?_⟩, by unfold maxLen at hm; omega, fun x hx => ?_⟩
    · refine ⟨rfl, by unfold maxLen at hm; omega, fun _ => ⟨a, rfl, fun j p hp => ?_⟩⟩
      obtain ⟨c, h2, h3, _⟩ := hxs j p hp
      refine ⟨c, d.K_len h3, h3, fun i u hu => ?_⟩
      have hi : i < c.length := (List.getElem?_eq_some_iff.1 hu).1
      have h4 := World.cells?_some h2
      rw [d.K_len h3] at hi
      rw [← Addr.add_add, (h4.2.2 i hi), hu]
    · obtain ⟨i, hi⟩ := List.getElem?_of_mem hx
      obtain ⟨_, _, _, hok⟩ := hxs i x hi
      exact hok
/-- A struct's fields from some field on. -/
def OpensFs {α : Type} (P : Program) (fs : List Field) (off : Nat) (d : Kd α) (ok : α → Prop) : Prop :=
  ∀ (H : Type) (enc : TypeId × Value → H) (w : World) (n : Nat) (cs : List Value) (xs : List (DataW H × List MemPlace)),
    cs.length = off + d.sz → (∀ (i : Nat) (f : Field), fs[i]? = some f → DataW.trod enc P w 0 (fun _ => true) true n f.type ((cs.drop f.offset).take (P.cellsOf f.type)) = xs[i]?) →
    fs.length ≤ xs.length → ∃ x, d.K w x (cs.drop off) ∧ ok x
theorem opensFs_one {f : Field} {off : Nat} (ho : f.offset = off) (hc : P.cellsOf f.type = d.sz) (h : Opens P f.type d ok) : OpensFs P [f] off d ok := by
  intro H enc w n cs xs hl hf hx
  have h1 := hf 0 f rfl
  simp only [List.length_cons, List.length_nil] at hx
  rw [List.getElem?_eq_getElem (by omega)] at h1
  rw [ho, hc, List.take_of_length_le (by simp; omega)] at h1
  exact h H enc w n _ _ h1
theorem opensFs_cons {f : Field} {fs : List Field} {off : Nat} {d2 : Kd β} {ok2 : β → Prop} (ho : f.offset = off) (hc : P.cellsOf f.type = d.sz) (h : Opens P f.type d ok)
    (h2 : OpensFs P fs (off + d.sz) d2 ok2) : OpensFs P (f :: fs) off (Kd.pair d d2) (fun x => ok x.1 ∧ ok2 x.2) := by
  intro H enc w n cs xs hl hf hx
  have hl' : cs.length = off + (d.sz + d2.sz) := hl
  simp only [List.length_cons] at hx
  have h1 := hf 0 f rfl
  rw [List.getElem?_eq_getElem (by omega)] at h1
  rw [ho, hc] at h1
  obtain ⟨x, hxk, hxo⟩ := h H enc w n _ _ h1
  obtain ⟨y, hyk, hyo⟩ := h2 H enc w n cs (xs.drop 1) (by omega) (fun i g hg => by
    have := hf (i + 1) g (by simpa using hg)
    rw [this, List.getElem?_drop]
    congr 1
    omega) (by simp; omega)
  refine ⟨(x, y), ⟨_, _, ?_, hxk, hyk⟩, hxo, hyo⟩
  rw [← List.drop_drop]
  exact (List.take_append_drop _ _).symm
theorem opens_struct {fs : List Field} (ht : P.underlying t = some (.struct fs.toArray)) (hc : P.cellsOf t = d.sz) (h : OpensFs P fs 0 d ok) (f : β → α) (g : α → β) (hfg : ∀ a, f (g a) = a) :
    Opens P t (Kd.iso d f) (fun x => ok (f x)) := by
  intro H enc w fuel cs y h0
  obtain ⟨xs, n, _, _, hlen, hxl, hf⟩ := DataW.trod_struct ht h0
  obtain ⟨a, hk, ho⟩ := h H enc w n cs xs (by omega) (fun i f hi => hf i f (by simpa using hi)) (by simp at hxl; omega)
  refine ⟨g a, ?_, ?_⟩
  · show d.K w (f (g a)) cs
    rw [hfg]
    simpa using hk
  · show ok (f (g a))
    rw [hfg]
    exact ho
end
end Go.Proofs.Ytbdbeccaopphaaa.O
namespace Go.Proofs.Ytbdbeccaopphaaa.Q
open Go.RowKit Go.Proofs.YtbdbeccaopphaaaW.PrintWords Go.Proofs.Ytbdbeccaopphaaa.O
def W139 (x : S139) : Prop := (Lit.int .i64 x.f0).wf = true ∧ (x.f1.length ≤ 9223372036854775807 ∧ ∀ z_ ∈ x.f1, (Lit.int .u8 z_).wf = true)
theorem opens_T139 : Opens Try.prog 139 k139 W139 := opens_struct Try.underlying139 (by kernel_rfl) (opensFs_cons rfl (by kernel_rfl) (opens_int Try.underlying2) (opensFs_one rfl (by kernel_rfl) (opens_slice Try.underlying23 (by kernel_rfl) (opens_int Try.underlying5)))) (fun x : S139 => (x.f0, x.f1)) (fun a => (⟨a.1, a.2⟩ : S139)) (fun _ => rfl)
def W42 (x : S42) : Prop := (x.f0.length ≤ 9223372036854775807 ∧ ∀ z_ ∈ x.f0, (Lit.int .u8 z_).wf = true) ∧ (x.f1.length ≤ 9223372036854775807 ∧ ∀ z_ ∈ x.f1, W139 z_) ∧ (Lit.int .i64 x.f2).wf = true ∧ True
theorem opens_T42 : Opens Try.prog 42 k42 W42 := opens_struct Try.underlying42 (by kernel_rfl) (opensFs_cons rfl (by kernel_rfl) (opens_slice Try.underlying23 (by kernel_rfl) (opens_int Try.underlying5)) (opensFs_cons rfl (by kernel_rfl) (opens_slice Try.underlying40 (by kernel_rfl) opens_T139) (opensFs_cons rfl (by kernel_rfl) (opens_int Try.underlying2) (opensFs_one rfl (by kernel_rfl) (opens_bool Try.underlying4))))) (fun x : S42 => (x.f0, x.f1, x.f2, x.f3)) (fun a => (⟨a.1, a.2.1, a.2.2.1, a.2.2.2⟩ : S42)) (fun _ => rfl)
def W152 (x : S152) : Prop := (Lit.int .i64 x.f0).wf = true ∧ (Lit.int .i64 x.f1).wf = true
theorem opens_T152 : Opens Try.prog 152 k152 W152 := opens_struct Try.underlying152 (by kernel_rfl) (opensFs_cons rfl (by kernel_rfl) (opens_int Try.underlying2) (opensFs_one rfl (by kernel_rfl) (opens_int Try.underlying2))) (fun x : S152 => (x.f0, x.f1)) (fun a => (⟨a.1, a.2⟩ : S152)) (fun _ => rfl)
def W71 (x : S71) : Prop := (x.f0.length ≤ 9223372036854775807 ∧ ∀ z_ ∈ x.f0, (Lit.int .i64 z_).wf = true) ∧ (x.f1.length ≤ 9223372036854775807 ∧ ∀ z_ ∈ x.f1, (Lit.int .i64 z_).wf = true) ∧ (Lit.int .i64 x.f2).wf = true ∧ (x.f3.length ≤ 9223372036854775807 ∧ ∀ z_ ∈ x.f3, W152 z_)
theorem opens_T71 : Opens Try.prog 71 k71 W71 := opens_struct Try.underlying71 (by kernel_rfl) (opensFs_cons rfl (by kernel_rfl) (opens_slice Try.underlying65 (by kernel_rfl) (opens_int Try.underlying2)) (opensFs_cons rfl (by kernel_rfl) (opens_slice Try.underlying65 (by kernel_rfl) (opens_int Try.underlying2)) (opensFs_cons rfl (by kernel_rfl) (opens_int Try.underlying2) (opensFs_one rfl (by kernel_rfl) (opens_slice Try.underlying69 (by kernel_rfl) opens_T152))))) (fun x : S71 => (x.f0, x.f1, x.f2, x.f3)) (fun a => (⟨a.1, a.2.1, a.2.2.1, a.2.2.2⟩ : S71)) (fun _ => rfl)
def W67 (x : S67) : Prop := (Lit.int .u32 x.f0).wf = true ∧ (Lit.int .u32 x.f1).wf = true ∧ (x.f2.length ≤ 9223372036854775807 ∧ ∀ z_ ∈ x.f2, (Lit.int .i64 z_).wf = true) ∧ (x.f3.length ≤ 9223372036854775807 ∧ ∀ z_ ∈ x.f3, (Lit.int .i64 z_).wf = true)
theorem opens_T67 : Opens Try.prog 67 k67 W67 := opens_struct Try.underlying67 (by kernel_rfl) (opensFs_cons rfl (by kernel_rfl) (opens_int Try.underlying24) (opensFs_cons rfl (by kernel_rfl) (opens_int Try.underlying24) (opensFs_cons rfl (by kernel_rfl) (opens_slice Try.underlying65 (by kernel_rfl) (opens_int Try.underlying2)) (opensFs_one rfl (by kernel_rfl) (opens_slice Try.underlying65 (by kernel_rfl) (opens_int Try.underlying2)))))) (fun x : S67 => (x.f0, x.f1, x.f2, x.f3)) (fun a => (⟨a.1, a.2.1, a.2.2.1, a.2.2.2⟩ : S67)) (fun _ => rfl)
def W149 (x : S149) : Prop := (Lit.int .u32 x.f0).wf = true ∧ (Lit.int .i64 x.f1).wf = true ∧ (Lit.int .u32 x.f2).wf = true ∧ (Lit.int .u32 x.f3).wf = true
theorem opens_T149 : Opens Try.prog 149 k149 W149 := opens_struct Try.underlying149 (by kernel_rfl) (opensFs_cons rfl (by kernel_rfl) (opens_int Try.underlying24) (opensFs_cons rfl (by kernel_rfl) (opens_int Try.underlying2) (opensFs_cons rfl (by kernel_rfl) (opens_int Try.underlying24) (opensFs_one rfl (by kernel_rfl) (opens_int Try.underlying24))))) (fun x : S149 => (x.f0, x.f1, x.f2, x.f3)) (fun a => (⟨a.1, a.2.1, a.2.2.1, a.2.2.2⟩ : S149)) (fun _ => rfl)
def W73 (x : S73) : Prop := True ∧ W67 x.f1 ∧ (x.f2.length ≤ 9223372036854775807 ∧ ∀ z_ ∈ x.f2, W149 z_) ∧ W71 x.f3 ∧ (Lit.int .u32 x.f4).wf = true
theorem opens_T73 : Opens Try.prog 73 k73 W73 := opens_struct Try.underlying73 (by kernel_rfl) (opensFs_cons rfl (by kernel_rfl) (opens_bool Try.underlying4) (opensFs_cons rfl (by kernel_rfl) opens_T67 (opensFs_cons rfl (by kernel_rfl) (opens_slice Try.underlying68 (by kernel_rfl) opens_T149) (opensFs_cons rfl (by kernel_rfl) opens_T71 (opensFs_one rfl (by kernel_rfl) (opens_int Try.underlying24)))))) (fun x : S73 => (x.f0, x.f1, x.f2, x.f3, x.f4)) (fun a => (⟨a.1, a.2.1, a.2.2.1, a.2.2.2.1, a.2.2.2.2⟩ : S73)) (fun _ => rfl)
end Go.Proofs.Ytbdbeccaopphaaa.Q
namespace Go.Proofs.Ytbdbeccaopphaaa.Q
open Go.RowKit Go.Proofs.YtbdbeccaopphaaaW.PrintWords Go.Proofs.YtbdbeccaopphaaaW.PrintLast Go.Proofs.Ytbdbeccaopphaaa.O
def laws_FnExactDevRead.Pure : Prop := ∀ (x0 : S42) (a1 : Int) , W42 x0 → (Lit.int .i64 a1).wf = true → ∃ k, laws_FnExactDevRead.f k x0.f0 x0.f1 x0.f2 x0.f3 a1 = some true
end Go.Proofs.Ytbdbeccaopphaaa.Q
namespace Go.Proofs.Ytbdbeccaopphaaa.P
open Go.RowKit Go.Proofs.YtbdbeccaopphaaaW.PrintWords Go.Proofs.Ytbdbeccaopphaaa.Q
set_option linter.unusedVariables false
set_option linter.unusedSimpArgs false
theorem costP_le {B : Nat} : ∀ (l : List S101), (∀ p ∈ l, p.f1.length ≤ B) → costP l ≤ l.length * (B + 1)
  | [], _ => by simp [costP]
  | p :: ps, h => by
    have h1 := costP_le ps (fun q hq => h q (List.mem_cons_of_mem _ hq))
    have h2 := h p (List.mem_cons_self ..)
    simp only [costP, List.length_cons, Nat.add_mul, Nat.one_mul]
    omega
theorem cost_small {l : List S101} (hl : l.length ≤ 2097152) (h : ∀ p ∈ l, p.f1.length ≤ 2097152) : costP l ≤ 4398048608256 := by
  have h1 := costP_le l h
  have h2 : l.length * (2097152 + 1) ≤ 2097152 * (2097152 + 1) := Nat.mul_le_mul_right _ hl
  omega
/-- A device whose parts are not long. -/
structure Small (l0 : List Int) (l1 : List S101) : Prop where
  disk : l0.length ≤ 2097152
  cache : l1.length ≤ 2097152
  data : ∀ p ∈ l1, p.f1.length ≤ 2097152
theorem Small.eq {l0 : List Int} {l1 : List S101} (h : Small l0 l1) (a2 : Int) (a3 : Bool) : Ev (fun k => laws_eqDev.f k l0 l1 a2 a3 l0 l1 a2 a3) true :=
  eqDev_ev l0 l1 a2 a3 (Nat.le_trans h.disk (by decide)) (Nat.le_trans h.cache (by decide)) (fun p hp => Nat.le_trans (h.data p hp) (by decide))
/-- A small device is marked, and the marks are held. -/
theorem Small.mark {l0 : List Int} {l1 : List S101} (h : Small l0 l1) (a2 : Int) (a3 : Bool) (m : Int) (h0 : 0 ≤ m) (h1 : m ≤ 4611681000000000000) :
    ∃ r, Ev (fun k => laws_markDev.f k l0 l1 a2 a3 m) r ∧ m ≤ r.1 ∧ r.1 ≤ m + 4398050705408 ∧ Ev (fun k => laws_heldDev.f k r.2.1 r.2.2 a2 a3 m) r.1 := by
  have hc := cost_small h.cache h.data
  have hd := h.disk
  have hk := h.cache
  exact ⟨_, markDev_ev l0 l1 a2 a3 m h0 (by omega) (by omega), by show m ≤ m + _ + _; omega, by show m + _ + _ ≤ _; omega, heldDev_ev l0 l1 a2 a3 m h0 (by omega) (by omega)⟩
theorem devArg (x : S42) (hx : W42 x) :
    ∃ t, Ev (fun k => laws_szDev.f k x.f0 x.f1 x.f2 x.f3 1048576) t ∧ (t < 0 ∨ (0 ≤ t ∧ t ≤ 1048576 ∧ x.f0.length ≤ 1048576 ∧ x.f1.length ≤ 1048576 ∧ (∀ p ∈ x.f1.map cvPend, p.f1.length ≤ 1048576) ∧ Small x.f0 (x.f1.map cvPend) ∧ Ev (fun k => laws_toDev.f k x.f0 x.f1 x.f2 x.f3) (x.f0, x.f1.map cvPend, x.f2, x.f3))) := by
  obtain ⟨⟨hl0, -⟩, ⟨hl1, hp1⟩, hf2, -⟩ := hx
  have hp : ∀ p ∈ x.f1, p.f1.length ≤ 9223372036854775807 := fun p hp => (hp1 p hp).2.1
  obtain ⟨t, ht, hc⟩ := szDev_ev x.f0 x.f1 x.f2 x.f3 1048576 (by decide) (by decide) hl0 hl1 hp
  refine ⟨t, ht, ?_⟩
  rcases hc with hc | ⟨hc, hc1, h0, h1, h2⟩
  · exact .inl hc
  · have hm : ∀ p ∈ x.f1.map cvPend, p.f1.length ≤ 1048576 := by
      intro p hp
      obtain ⟨q, hq, rfl⟩ := List.mem_map.1 hp
      have := h2 q hq
      show q.f1.length ≤ _
      omega
    refine .inr ⟨hc, hc1, by omega, by omega, hm, ⟨by omega, by rw [List.length_map]; omega, fun p hp => by have := hm p hp; omega⟩, toDev_ev x.f0 x.f1 x.f2 x.f3 (by omega) (by omega) (fun p hp => by have := h2 p hp; omega)⟩
end Go.Proofs.Ytbdbeccaopphaaa.P
namespace Go.Proofs.Ytbdbeccaopphaaa.Pure
open Go.RowKit Go.Proofs.Ytbdbeccaopphaaa.Q Go.Proofs.Ytbdbeccaopphaaa.P
set_option linter.unusedVariables false
theorem spec_read_loop (l0 : List Int) (l1 : List S101) (a2 : Int) (a3 : Bool) (s : Int) (hs : 0 ≤ s) (hs1 : s ≤ 1048576) (hs2 : (s + 1) * 64 ≤ l0.length) (hl : l0.length ≤ 1048576) (h : l1.length ≤ 1048576) (hp : ∀ p ∈ l1, p.f1.length ≤ 1048576) :
    ∀ n : Nat, n ≤ l1.length → Ev (fun k => spec_DevRead.l0 k s ((n : Int) - 1) l0 l1 a2 a3) (secAt l0 (l1.take n) s)
  | 0, _ => by
    refine Ev.last ⟨0, fun k _ => ?_⟩
    have h1 : ((l0.take ((s + 1) * 64).toNat).drop (s * 64).toNat).length ≤ 1048576 := by rw [List.length_drop, List.length_take]; omega
    simp only [spec_DevRead.l0]
    rw [w64 (n := s + 1) (by omega) (by omega), w64 (n := (s + 1) * 64) (by omega) (by omega), w64 (n := s * 64) (by omega) (by omega), if_neg (by omega)]
    simp only [Option.bind_some, List.length_nil, List.nil_append]
    rw [if_pos (by omega), if_pos (by omega), if_pos (by omega), if_pos (by omega)]
    rfl
  | n + 1, hn => by
    obtain ⟨p, hat⟩ := some_at (show n < l1.length by omega)
    have hpl := hp p (List.mem_of_getElem? hat)
    have e : secAt l0 (l1.take (n + 1)) s = if p.f0 = s then p.f1 else secAt l0 (l1.take n) s := by
      unfold secAt
      rw [List.take_add_one, hat]
      simp only [Option.toList_some, List.foldl_append, List.foldl_cons, List.foldl_nil]
    have i1 : ((n + 1 : Nat) : Int) - 1 = (n : Int) := by omega
    rw [e, i1]
    by_cases hc : p.f0 = s
    · rw [if_pos hc]
      refine Ev.last ⟨0, fun k _ => ?_⟩
      simp only [spec_DevRead.l0]
      rw [if_pos (by omega), if_pos (by omega), if_pos (by omega), rdP_at hat, if_pos hc]
      simp only [Option.bind_some, List.length_nil, List.nil_append]
      rw [if_pos (by omega)]
    · rw [if_neg hc]
      refine Ev.step ⟨0, fun k _ => ?_⟩ (spec_read_loop l0 l1 a2 a3 s hs hs1 hs2 hl h hp n (by omega))
      simp only [spec_DevRead.l0]
      rw [if_pos (by omega), if_pos (by omega), if_pos (by omega), rdP_at hat, if_neg hc, w64 (n := (n : Int) - 1) (by omega) (by omega)]
theorem spec_read_ev (l0 : List Int) (l1 : List S101) (a2 : Int) (a3 : Bool) (s : Int) (hl : l0.length ≤ 1048576) (h : l1.length ≤ 1048576) (hp : ∀ p ∈ l1, p.f1.length ≤ 1048576) :
    Ev (fun k => spec_DevRead.f k l0 l1 a2 a3 s) (if validDev l0 l1 a2 = true ∧ 0 ≤ s ∧ s < ((l0.length / 64 : Nat) : Int) then secAt l0 l1 s else []) := by
  have no : Ev (fun k => spec_DevRead.j0 k s true l0 l1 a2 a3) [] := Ev.last ⟨0, fun k _ => by simp only [spec_DevRead.j0]; rw [if_pos trivial]⟩
  have ev := spec_ValidDev_ev l0 l1 a2 a3 (by omega) (by omega) (fun p hq => by have := hp p hq; omega)
  have e : wrap64 ((l0.length : Int) / 64) = ((l0.length / 64 : Nat) : Int) := by rw [w64 (by omega) (by omega)]; omega
  simp only [spec_DevRead.f, spec_l1Sectors.f, Option.bind_some, e]
  clear e
  refine Ev.bind ev ?_
  by_cases hv : validDev l0 l1 a2 = true
  · refine Ev.pos hv ?_
    by_cases h1 : s < 0
    · rw [if_neg (by omega)]
      exact Ev.pos h1 no
    · refine Ev.neg h1 ?_
      by_cases h2 : s ≥ ((l0.length / 64 : Nat) : Int)
      · rw [if_neg (by omega), decide_eq_true h2]
        exact no
      · rw [if_pos ⟨hv, by omega, by omega⟩, decide_eq_false h2]
        have h3 := spec_read_loop l0 l1 a2 a3 s (by omega) (by omega) (by omega) hl h hp l1.length (Nat.le_refl _)
        rw [List.take_length] at h3
        refine Ev.step ⟨0, fun k _ => ?_⟩ h3
        simp only [spec_DevRead.j0]
        rw [if_neg (by simp), w64 (by omega) (by omega)]
  · rw [if_neg (fun h => hv h.1)]
    exact Ev.neg hv no
theorem read_length (l0 : List Int) (l1 : List S101) (a2 s : Int) : (if validDev l0 l1 a2 = true ∧ 0 ≤ s ∧ s < ((l0.length / 64 : Nat) : Int) then secAt l0 l1 s else []).length ≤ 64 := by
  by_cases h : validDev l0 l1 a2 = true ∧ 0 ≤ s ∧ s < ((l0.length / 64 : Nat) : Int)
  · rw [if_pos h, secAt_length h.2.1 (by omega) (fun p hp => ((validDev_is.1 h.1).2 p hp).2.2)]
    exact Nat.le_refl _
  · rw [if_neg h]
    exact Nat.zero_le _
theorem FnExactDevRead : laws_FnExactDevRead.Pure := by
  intro x s hx hs
  refine Ev.ex (f := fun k => laws_FnExactDevRead.f k x.f0 x.f1 x.f2 x.f3 s) ?_
  obtain ⟨t, ht, hc⟩ := devArg x hx
  simp only [laws_FnExactDevRead.f]
  refine Ev.bind ht ?_
  rcases hc with hc | ⟨hc, -, h0, h1, hm, hS, ev⟩
  · exact Ev.pos hc (Ev.const rfl)
  · have hlen : (x.f1.map cvPend).length ≤ 1048576 := by rw [List.length_map]; omega
    have es := spec_read_ev x.f0 (x.f1.map cvPend) x.f2 x.f3 s h0 hlen hm
    have ei : impl_DevRead.f x.f0 (x.f1.map cvPend) x.f2 x.f3 s = some (if validDev x.f0 (x.f1.map cvPend) x.f2 = true ∧ 0 ≤ s ∧ s < ((x.f0.length / 64 : Nat) : Int) then secAt x.f0 (x.f1.map cvPend) s else []) := by
      unfold impl_DevRead.f
      rw [if_pos ⟨by omega, by omega, fun p hp => by have := hm p hp; omega⟩]
      split <;> rfl
    have hr := read_length x.f0 (x.f1.map cvPend) x.f2 s
    generalize (if validDev x.f0 (x.f1.map cvPend) x.f2 = true ∧ 0 ≤ s ∧ s < ((x.f0.length / 64 : Nat) : Int) then secAt x.f0 (x.f1.map cvPend) s else []) = r at es ei hr
    have er := eqByteS_ev r (by omega)
    have em := markByteS_ev r 1 (by decide) (by omega)
    have eh := heldByteS_ev r.length 1 (by decide) (by omega)
    obtain ⟨m, emd, hm1, -, -⟩ := hS.mark x.f2 x.f3 1 (by decide) (by decide)
    exact Ev.neg (by omega) (Ev.bind ev (Ev.bind es (Ev.bind ev (Ev.bind (Ev.const ei) (Ev.bind er (Ev.pos rfl (Ev.bind ev (Ev.bind (hS.eq x.f2 x.f3) (Ev.pos rfl (Ev.bind emd (Ev.neg (by omega) (Ev.bind er (Ev.pos rfl (Ev.bind em (Ev.bind eh (Ev.neg (by omega) (Ev.pos rfl (Ev.bind ev (Ev.bind (Ev.const ei) (Ev.bind er (Ev.pos rfl (Ev.const rfl))))))))))))))))))))))
end Go.Proofs.Ytbdbeccaopphaaa.Pure
namespace Go.Proofs.Ytbdbeccaopphaaa.fnExactDevRead
open Go.ChangeShapes Go.WideShapes Go.ChangeAt Go.RowKit Go.Proofs.Ytbdbeccaopphaaa.Q Go.Proofs.YtbdbeccaopphaaaW.PrintWords Go.Proofs.Ytbdbeccaopphaaa.O
open Go.ChangeMaps (open_string shut_string)
set_option linter.unusedVariables false
theorem own : ownKnob Try.prog.godebug = none := by kernel_rfl
theorem laidOut : laidOutB Try.prog = true := by kernel_rfl
set_option maxRecDepth 100000 in
theorem lifted (os : Os) (started : os.Started) (H : Type) (enc : TypeId × Value → H) :
    ReturnsInHanded {} Try.checked os 8 .any (Rows.fnExactDevReadSpec.pre6 enc Try.prog Try.f8 Rows.fnExactDevReadRow.domain false) (Rows.fnExactDevReadSpec.post enc Try.prog Try.f8 false true false false) := by
  refine returnsInHanded_of_change_sized (C := Try.checked) own started (by kernel_rfl) Try.func8
    (ChangeSpec.witness6 (enc := enc) (C := Try.checked) false ⟨#[], #[.agg #[.slice none 0 0, .slice none 0 0, .int .i64 0, .bool false], .int .i64 0], []⟩ 8 (by kernel_rfl) (by kernel_rfl) (by kernel_rfl) (by kernel_rfl)) ?_
  intro W base args ds gs before hval0 hW hcnd hsz0 _
  have hval : ∀ (j : Nat) t v, Try.f8.params[j]? = some t → args[j]? = some v → Value.okWide Try.prog W .any base t v := hval0
  have hW' := hW
  obtain ⟨p, q, hA0, hV, rfl, hfz, hnd⟩ := hW
  have hA : DataW.TrodAll enc Try.prog W 0 (fun _ => true) true Try.f8.params.toList args.toList ds p := hA0
  rw [Try.params8] at hA hval
  obtain ⟨v0, vs0, d0, ds0, p0, q0, hargs, rfl, rfl, h0, r0⟩ := trodAll_cons hA
  obtain ⟨v1, vs1, d1, ds1, p1, q1, rfl, rfl, rfl, h1, r1⟩ := trodAll_cons r0
  obtain ⟨rfl, rfl, rfl⟩ := trodAll_nil r1
  obtain rfl : args = #[v0, v1] := by cases args; simp_all
  obtain ⟨rfl, rfl⟩ := trodVars_none hV
  have k0 := h0
  have lt0 : ∀ x ∈ p0, x.block < W.heap.size := by obtain ⟨m, hm⟩ := k0; exact DataW.trod_lt m _ _ _ hm
  obtain ⟨cs0, rfl, _⟩ := okWide_struct Try.underlying42 (hval 0 42 v0 rfl rfl)
  obtain ⟨x0, hk0, w0⟩ : ∃ x, (k42).K W x cs0.toList ∧ W42 x := by
    obtain ⟨fuel, hf⟩ := h0
    exact opens_T42 H enc W fuel _ _ hf
  obtain ⟨cs0⟩ := cs0
  obtain ⟨A0_0, c0_0, A0_1, c0_1, h_0, m0_0, g0_0, m0_1, g0_1⟩ := k42_open hk0
  obtain rfl := (show cs0 = _ from h_0)
  obtain ⟨a1, rfl, rfl, rfl, w1⟩ := open_int Try.underlying2 (hval 1 2 v1 rfl rfl) h1
  clear hA0 hval0 hsz0
  obtain ⟨k, hp⟩ := Pure.FnExactDevRead x0 a1 w0 w1
  refine (laws_FnExactDevRead.calls k _ _ x0.f0 _ _ x0.f1 x0.f2 x0.f3 a1 W g0_0 m0_0 g0_1 m0_1 hp).mono fun e W' ⟨he, bel⟩ => ?_
  subst he
  exact ⟨_, rfl, _, _, _, [], _, [], hW', trodAll_mk1 (shut_bool Try.underlying4 _), (trodAll_cons_mk (Below.trod laidOut (by kernel_rfl) (of_decide_eq_true (by kernel_rfl)) k0 bel lt0) (trodAll_cons_mk (shut_int Try.underlying2 w1) trodAll_mk0)), rfl, bel.frame _, fun h => by cases h⟩
theorem over : Rows.fnExactDevReadRow.holds Try.pinned (OpenSpec.ofChange Rows.fnExactDevReadSpec) :=
  OpenClaim.holds_of_wide 8 Try.f8 rfl rfl rfl rfl rfl rfl rfl ⟨rfl, rfl, rfl, rfl, rfl⟩ rfl rfl rfl rfl rfl (by kernel_rfl) Try.func8 (by kernel_rfl)
    (of_decide_eq_true (by kernel_rfl)) (by unfold Func.isWrapper; first | (rw [if_pos (by decide +kernel)]; kernel_rfl) | (rw [if_neg (by decide +kernel)]; exact ⟨rfl, rfl⟩))
    (fun os started H enc _ => lifted os started H enc)
theorem proved : Rows.FnExactDevReadSaid := over
#print axioms proved
end Go.Proofs.Ytbdbeccaopphaaa.fnExactDevRead
namespace Go.Proofs.Ytbdbeccaopphaaa
/-- The row, under a short name, for the claim. -/
theorem fnExactDevRead_holds : Rows.FnExactDevReadSaid := fnExactDevRead.proved
end Go.Proofs.Ytbdbeccaopphaaa
