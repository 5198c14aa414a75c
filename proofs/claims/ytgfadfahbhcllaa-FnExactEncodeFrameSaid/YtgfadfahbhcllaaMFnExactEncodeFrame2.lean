/- Part 2 of 4 of the proof that the law FnExactEncodeFrame returns true at every input. No further condition. -/
import Derived.Lib.LazyBuf
import Derived.Laws.BitsLemmas
import Derived.Test.YtgfadfahbhcllaaWInv
import Derived.Test.YtgfadfahbhcllaaWNEv
import Derived.Test.YtgfadfahbhcllaaWMore
import Derived.Test.YtgfadfahbhcllaaMFnExactEncodeFrame1
namespace Go.Proofs.Ytgfadfahbhcllaa.P
open Go.RowKit Go.Proofs.YtgfadfahbhcllaaW.PrintWords Go.Proofs.Ytgfadfahbhcllaa.Q
set_option linter.unusedVariables false
set_option linter.unusedSimpArgs false
/-- The n lowest bytes of x, lowest first. -/
def leB (n : Nat) (x : Int) : List Int := (List.range n).map fun i => x / 2 ^ (8 * i) % 256
theorem leB_length (n : Nat) (x : Int) : (leB n x).length = n := by unfold leB; rw [List.length_map, List.length_range]
theorem leB_succ (n : Nat) (x : Int) : leB (n + 1) x = leB n x ++ [x / 2 ^ (8 * n) % 256] := by unfold leB; rw [List.range_succ, List.map_append]; rfl
theorem splice_set {l m : List Int} {o : Nat} (v : Int) (h : o + m.length < l.length) : (splice l o m).set (o + m.length) v = splice l o (m ++ [v]) := by
  unfold splice
  have ht : (l.take o).length = o := by rw [List.length_take]; omega
  rw [List.set_append_right _ _ (by rw [ht]; omega), ht, Nat.add_sub_cancel_left, List.set_append_right _ _ (Nat.le_refl _), Nat.sub_self, List.drop_eq_getElem_cons h, List.set_cons_zero, List.length_append, List.length_singleton, Nat.add_assoc, List.append_assoc]
  rfl
theorem splice_nil {l : List Int} {o : Nat} : splice l o [] = l := by unfold splice; simp
theorem shr_byte {x : Int} (h0 : 0 ≤ x) (i : Nat) (hi : i < 8) : (shr .u64 x (wrap64 (8 * (i : Int)))) % 256 = x / 2 ^ (8 * i) % 256 := by
  have e : wrap64 (8 * (i : Int)) = ((8 * i : Nat) : Int) := by rw [w64 (n := 8 * (i : Int)) (by omega) (by omega)]; omega
  rw [e]
  have hh := shr_small (k := .u64) (x := x) (y := ((8 * i : Nat) : Int)) (j := shr .u64 x ((8 * i : Nat) : Int)) rfl (by show ((8 * i : Nat) : Int) ≤ 64; omega)
  rw [← hh, Int.toNat_natCast]
theorem put_ev (l : List Int) (a n : Nat) (x : Int) (h0 : 0 ≤ x) (hn : n ≤ 8) (ha : a + n ≤ l.length) (hl : l.length ≤ 4611686018427387904) : Ev (fun k => impl_put.f k l a n x) (splice l a (leB n x)) := by
  simp only [impl_put.f]
  have h := Ev.loop0 (fun k (s : List Int × Int) => impl_put.l0 k s.1 a x n s.2) (fun i => (splice l a (leB i x), (i : Int))) n (splice l a (leB n x)) ?_ ?_
  · have e : splice l a (leB 0 x) = l := splice_nil
    simp only [e] at h
    exact h
  · intro i hi
    refine ⟨0, fun k _ => ?_⟩
    have e1 : wrap64 (8 * (i : Int)) = 8 * (i : Int) := w64 (n := 8 * (i : Int)) (by omega) (by omega)
    have e2 : wrap64 ((a : Int) + (i : Int)) = ((a + i : Nat) : Int) := by rw [w64 (n := (a : Int) + (i : Int)) (by omega) (by omega)]; omega
    have hs : (splice l a (leB i x)).length = l.length := length_splice _ _ _ (by rw [leB_length]; omega)
    have e3 := shr_byte h0 i (by omega)
    simp only [impl_put.l0]
    rw [e2, e3]
    rw [if_pos (by omega), if_pos (by rw [e1]; omega), if_pos (by omega), if_pos (by rw [hs]; omega), Int.toNat_natCast, w64s hi (by omega)]
    have := splice_set (l := l) (m := leB i x) (o := a) (x / 2 ^ (8 * i) % 256) (by rw [leB_length]; omega)
    rw [leB_length] at this
    rw [this, leB_succ]
  · refine Ev.last ⟨0, fun k _ => ?_⟩
    simp only [impl_put.l0]
    rw [if_neg (by omega)]
end Go.Proofs.Ytgfadfahbhcllaa.P
namespace Go.Proofs.Ytgfadfahbhcllaa.Q
open Go.RowKit Go.Proofs.YtgfadfahbhcllaaW.PrintWords Go.Proofs.YtgfadfahbhcllaaW.PrintLast Go.Proofs.YtgfadfahbhcllaaW.PrintMore Go.Proofs.Ytgfadfahbhcllaa.LK
set_option linter.unusedVariables false
theorem bytesV_inj {l m : List Int} (h : bytesV l = bytesV m) : l = m := by
  unfold bytesV at h
  exact (List.map_inj_right (fun x y hxy => by injection hxy)).1 h
/-- put into an array's slice. -/
theorem put_box {g T : Nat} {l : List Int} (a n : Nat) {x : Int} {w0 w : World} (hB : Below w0.heap.size w0 w) (hg : w0.heap.size ≤ g) (hb : w.heap[g]? = some (.cells (bytesV l).toArray T (0, 0))) (h0 : 0 ≤ x) (hn : n ≤ 8) (ha : a + n ≤ l.length) (hl : l.length ≤ 4611686018427387904) (hp : 0 < l.length) :
    Calls Try.prog 88 #[.slice (some ⟨g, 0, none⟩) l.length l.length, .int .i64 a, .int .i64 n, .int .u64 x] w fun e w' => e = .returned (.tuple #[]) ∧ w'.heap[g]? = some (.cells (bytesV (splice l a (P.leB n x))).toArray T (0, 0)) ∧ Stp (fun k => k = g) w w' := by
  obtain ⟨k, hk⟩ := (P.put_ev l a n x h0 hn ha hl).ex
  have hs : (splice l a (P.leB n x)).length = l.length := length_splice _ _ _ (by rw [P.leB_length]; omega)
  have hR := R_of_block (base := w0.heap.size) (tl := []) (by rw [List.append_nil]; exact hb) hg (by rw [List.length_nil]; omega)
  rw [List.length_nil, Nat.add_zero] at hR
  refine (impl_put.callsE k _ _ l a n x _ w0 w hB hR hk).mono ?_
  rintro e w' ⟨rfl, hR', hB', hK⟩
  obtain ⟨B, tl, e1, e2, e3, e4, e5, e6, e7, e8⟩ := R_block hR' (by rw [hs]; exact hp)
  injection e1 with e1
  injection e1 with e1
  subst e1
  have : tl = [] := List.eq_nil_of_length_eq_zero (by omega)
  subst this
  rw [List.append_nil] at e7
  exact ⟨rfl, e7, hB'.os.trans hB.os.symm, hB'.tape.trans hB.tape.symm, hB'.output.trans hB.output.symm, hK.1, fun i hi hne => hK.2 i hi (fun he => hne he)⟩
/-- copy of a string into a block, in a plain region. -/
theorem copy_str {P : Program} {ops : Array Oper} {o : Oper} {rest : List Oper} {a : Act} {W : World} {Q : Exit → Act → World → Prop} (hgd : o.guard = none) (d x : Operand) (dT sT : TypeId)
    (ho : o.op = .call { callee := .builtin .copy, args := #[d, x], argTypes := #[dT, sT] }) (elem : TypeId) (hu : P.underlying dT = some (.slice elem)) (hz : ∀ w, (Go.sizeOf elem).run P w = .ok 1 w)
    (g off dLen dCap : Nat) (hd : a.eval d = .slice (some ⟨g, off, none⟩) dLen dCap) (s : ByteArray) (hx : a.eval x = .string s) (hle : s.size ≤ dLen)
    (cur : List Value) (t : TypeId) (hg : W.heap[g]? = some (.cells cur.toArray t (0, 0))) (m : List Int) (hm : (s.data.toList.map fun x => Value.int .u8 (x.toNat : Int)) = bytesV m) (hs : s.size = m.length) (hfit : off + m.length ≤ cur.length)
    (h : ∀ w', w'.heap[g]? = some (.cells (splice cur off (bytesV m)).toArray t (0, 0)) → Stp (fun k => k = g) W w' → wpList P ops Q rest (a.put o.dst (goInt s.size)) w') :
    wpList P ops Q (o :: rest) a W := by
  refine wpList_plain hgd fun K hK => ?_
  have hrun := run_copy_string (P := P) W dT sT o.type elem g off dLen dCap s hu hz hle (fun j hj => by rw [blk_cell hg (off + j)]; simp; omega) (fun j hj => blk_frozen hg (off + j))
  rw [hm] at hrun
  obtain ⟨cur', h3, _, h5⟩ := setCells_row (bytesV m) off W cur.toArray hg (by rw [bytesV_length]; simpa using hfit)
  obtain ⟨s1, s2, s3, s4⟩ := setCells_same g (bytesV m) off W
  unfold Oper.wp
  simp [execOp, ho, resolve, invoke, builtin, hd, hx, hrun, Result.andThen]
  refine hK _ _ (h _ ?_ ⟨s1, s2, s3, Nat.le_of_eq s4.symm, fun i _ hi => setCells_far (bytesV m) off i hi⟩)
  have e : cur'.toList = splice cur off (bytesV m) := by
    unfold splice
    rw [← List.append_assoc]
    first | exact h5 | simpa using h5
  rw [← e]
  exact h3
end Go.Proofs.Ytgfadfahbhcllaa.Q
namespace Go.Proofs.Ytgfadfahbhcllaa.Q
open Go.RowKit Go.Proofs.YtgfadfahbhcllaaW.PrintWords Go.Proofs.YtgfadfahbhcllaaW.PrintLast Go.Proofs.Ytgfadfahbhcllaa.LK Go.Proofs.YtgfadfahbhcllaaW.PrintMore
attribute [local go_sem] max2_int min2_int max_two min_two max_three min_three max_four min_four   -- for this text's walks alone
set_option linter.unusedVariables false
set_option linter.unusedSimpArgs false

/-! ### spec_Crc32: function 50 -/
mutual
def spec_Crc32.l0 : Nat → List Int → Int → Int → Option (Int)
  | 0, _, _, _ => none
  | k + 1, x0, x3, x4 => if x4 < (x0.length : Int) then (if 0 ≤ x4 then (spec_Crc32.l1 k x0 (Go.bits .xor .u32 x3 ((rd x0 x4) % 4294967296)) x4 0) else (none)) else (some (Go.bits .xor .u32 x3 4294967295))
def spec_Crc32.l1 : Nat → List Int → Int → Int → Int → Option (Int)
  | 0, _, _, _, _ => none
  | k + 1, x0, x3, x4, x5 => if x5 < 8 then (if (Int.tmod x3 2) = 1 then (spec_Crc32.l1 k x0 (Go.bits .xor .u32 ((Int.tdiv x3 2) % 4294967296) 3988292384) x4 (wrap64 (x5 + 1))) else (spec_Crc32.l1 k x0 ((Int.tdiv x3 2) % 4294967296) x4 (wrap64 (x5 + 1)))) else (spec_Crc32.l0 k x0 x3 (wrap64 (x4 + 1)))
end
def spec_Crc32.f (k : Nat) (l0 : List Int) : Option (Int) := spec_Crc32.l0 k l0 4294967295 0
theorem spec_Crc32.mono_l : ∀ k, (∀ y0 y1 y2, LeO (spec_Crc32.l0 k y0 y1 y2) (spec_Crc32.l0 (k + 1) y0 y1 y2)) ∧ (∀ y0 y1 y2 y3, LeO (spec_Crc32.l1 k y0 y1 y2 y3) (spec_Crc32.l1 (k + 1) y0 y1 y2 y3))
  | 0 => ⟨fun _ _ _ r h => by simp [spec_Crc32.l0] at h, fun _ _ _ _ r h => by simp [spec_Crc32.l1] at h⟩
  | k + 1 => by
    obtain ⟨ih0, ih1⟩ := spec_Crc32.mono_l k
    refine ⟨?_, ?_⟩
    · intro y0 y1 y2
      unfold spec_Crc32.l0
      repeat' first
      | (with_reducible exact ih0 _ _ _)
      | (with_reducible exact ih1 _ _ _ _)
      | (with_reducible exact LeO.refl _)
      | (with_reducible exact LeO.none _)
      | (with_reducible refine LeO.ite ?_ ?_)
      | (with_reducible refine LeO.bind ?_ (fun _ => ?_))
      | exact ih0 _ _ _
      | exact ih1 _ _ _ _
      | exact LeO.none _
      | refine LeO.ite ?_ ?_
      | refine LeO.bind ?_ (fun _ => ?_)
    · intro y0 y1 y2 y3
      unfold spec_Crc32.l1
      repeat' first
      | (with_reducible exact ih0 _ _ _)
      | (with_reducible exact ih1 _ _ _ _)
      | (with_reducible exact LeO.refl _)
      | (with_reducible exact LeO.none _)
      | (with_reducible refine LeO.ite ?_ ?_)
      | (with_reducible refine LeO.bind ?_ (fun _ => ?_))
      | exact ih0 _ _ _
      | exact ih1 _ _ _ _
      | exact LeO.none _
      | refine LeO.ite ?_ ?_
      | refine LeO.bind ?_ (fun _ => ?_)
theorem spec_Crc32.mono : ∀ a0 k, LeO (spec_Crc32.f k a0) (spec_Crc32.f (k + 1) a0) := by
  intro a0 k
  obtain ⟨ih0, ih1⟩ := spec_Crc32.mono_l k
  unfold spec_Crc32.f
  repeat' first
      | (with_reducible exact ih0 _ _ _)
      | (with_reducible exact ih1 _ _ _ _)
      | (with_reducible exact LeO.refl _)
      | (with_reducible exact LeO.none _)
      | (with_reducible refine LeO.ite ?_ ?_)
      | (with_reducible refine LeO.bind ?_ (fun _ => ?_))
      | exact ih0 _ _ _
      | exact ih1 _ _ _ _
      | exact LeO.none _
      | refine LeO.ite ?_ ?_
      | refine LeO.bind ?_ (fun _ => ?_)
set_option maxHeartbeats 8000000 in
set_option maxRecDepth 100000 in
theorem spec_Crc32.calls (k : Nat) (A0 : Option Addr) (c0 : Nat) (l0 : List Int) (r : Int) (w : World) (hr0 : Kd.C (Kd.int .u8) w A0 l0.length l0) (hc0 : l0.length ≤ c0) (h : spec_Crc32.f k l0 = some r) :
    Calls Try.prog 50 #[.slice A0 l0.length c0] w fun e w' => e = .returned (.int .u32 r) ∧ Drawn0 w w' := by
  have HR0 := Aside0.mk hr0
  have HC0 := Aside0.mk hc0
  clear hr0 hc0
  have H : (spec_Crc32.l0 k l0 4294967295 0) = some r := h
  clear h
  have H' := Aside0.mk H
  clear H
  go_enter Try.func50, Try.ntmps50
  go_wp2
  go_loopg [3, 4] k (fun kq v3 v4 w' => ∃ (x3_1 : Int) (x4_1 : Int), v3 = .int .u32 x3_1 ∧ v4 = .int .i64 x4_1 ∧ Aside0 (spec_Crc32.l0 kq l0 x3_1 x4_1 = some r) ∧ Aside0 (kq ≤ k) ∧ Drawn0 w w')
  case atStart => exact ⟨(4294967295), (0), (by first | rfl | (simp; done) | (simp [*]; done)), (by first | rfl | (simp; done) | (simp [*]; done)), H', ⟨Nat.le_refl _⟩, by repeat (first | exact Drawn0.refl _ | apply Drawn0.step)⟩
  case round =>
    clear H'
    obtain ⟨x3_1, x4_1, rfl, rfl, HA, HK1, ⟨m1, rfl⟩⟩ := hrel
    cases gk with
    | zero => exact absurd HA.out (by simp [spec_Crc32.l0])
    | succ k1 =>
      have H := HA.out
      clear HA
      simp only [spec_Crc32.l0] at H
      by_cases c2 : x4_1 < (l0.length : Int)
      · rw [if_pos c2] at H
        have c2b0 : decide (x4_1 < (l0.length : Int)) = true := decide_eq_true c2
        clear c2
        by_cases c3 : 0 ≤ x4_1
        · rw [if_pos c3] at H
          have c3b0 : decide (0 ≤ x4_1) = true := decide_eq_true c3
          clear c3
          have H' := Aside0.mk H
          clear H
          have p101 : 0 ≤ (x4_1 : Int) := of_decide_eq_true (by first | (with_reducible assumption) | assumption)
          have q101 : x4_1 < (l0.length : Int) := of_decide_eq_true (by first | (with_reducible assumption) | assumption)
          obtain ⟨ad101, e101, hx101_0⟩ := Kd.at_int HR0.out x4_1 p101 q101
          cases e101
          replace p101 := eq_true p101
          replace q101 := eq_true q101
          go_wp2
          go_loopg [3, 5] k1 (fun kq v3 v5 w' => ∃ (x3_2 : Int) (x5_2 : Int), v3 = .int .u32 x3_2 ∧ v5 = .int .i64 x5_2 ∧ Aside0 (spec_Crc32.l1 kq l0 x3_2 x4_1 x5_2 = some r) ∧ Aside0 (kq ≤ k1) ∧ Drawn0 w w')
          case atStart => exact ⟨(Go.bits .xor .u32 x3_1 ((rd l0 x4_1) % 4294967296)), (0), (by first | rfl | (simp; done) | (simp [*]; done)), (by first | rfl | (simp; done) | (simp [*]; done)), H', ⟨Nat.le_refl _⟩, by repeat (first | exact Drawn0.refl _ | apply Drawn0.step)⟩
          case round =>
            clear H'
            try clear p1
            try clear q1
            try clear hx1
            try clear c2
            try clear c2b0
            try clear p2
            try clear c3
            try clear c3b0
            try clear hx101_0
            try clear p101
            try clear q101
            obtain ⟨x3_2, x5_2, rfl, rfl, HA, HK2, ⟨m2, rfl⟩⟩ := hrel
            cases gk with
            | zero => exact absurd HA.out (by simp [spec_Crc32.l1])
            | succ k2 =>
              have H := HA.out
              clear HA
              simp only [spec_Crc32.l1] at H
              by_cases c4 : x5_2 < 8
              · rw [if_pos c4] at H
                have c4b0 : decide (x5_2 < 8) = true := decide_eq_true c4
                clear c4
                by_cases c5 : (Int.tmod x3_2 2) = 1
                · rw [if_pos c5] at H
                  have c5b0 : ((Int.tmod x3_2 2) == 1) = true := beq_iff_eq.mpr c5
                  have c5b1 : ((Int.tmod x3_2 2) != 1) = false := bne_eq_false_iff_eq.mpr c5
                  clear c5
                  have H' := Aside0.mk H
                  clear H
                  go_wp2
                  go_roundg k2
                  case measure => have := HK1.out; have := HK2.out; omega
                  case rel => exact ⟨(Go.bits .xor .u32 ((Int.tdiv x3_2 2) % 4294967296) 3988292384), (wrap64 (x5_2 + 1)), (by first | rfl | (simp; done) | (simp [*]; done)), (by first | rfl | (simp; done) | (simp [*]; done)), H', ⟨by have := HK1.out; have := HK2.out; omega⟩, by repeat (first | exact Drawn0.refl _ | apply Drawn0.step)⟩
                · rw [if_neg c5] at H
                  have c5b0 : ((Int.tmod x3_2 2) == 1) = false := beq_eq_false_iff_ne.mpr c5
                  have c5b1 : ((Int.tmod x3_2 2) != 1) = true := bne_iff_ne.mpr c5
                  have H' := Aside0.mk H
                  clear H
                  go_wp2
                  go_roundg k2
                  case measure => have := HK1.out; have := HK2.out; omega
                  case rel => exact ⟨((Int.tdiv x3_2 2) % 4294967296), (wrap64 (x5_2 + 1)), (by first | rfl | (simp; done) | (simp [*]; done)), (by first | rfl | (simp; done) | (simp [*]; done)), H', ⟨by have := HK1.out; have := HK2.out; omega⟩, by repeat (first | exact Drawn0.refl _ | apply Drawn0.step)⟩
              · rw [if_neg c4] at H
                have c4b0 : decide (x5_2 < 8) = false := decide_eq_false c4
                clear c4
                have H' := Aside0.mk H
                clear H
                go_wp2
                go_roundg k2
                case measure => have := HK1.out; have := HK2.out; omega
                case rel => exact ⟨(x3_2), (wrap64 (x4_1 + 1)), (by first | rfl | (simp; done) | (simp [*]; done)), (by first | rfl | (simp; done) | (simp [*]; done)), H', ⟨by have := HK1.out; have := HK2.out; omega⟩, by repeat (first | exact Drawn0.refl _ | apply Drawn0.step)⟩
        · rw [if_neg c3] at H
          exact absurd H (by simp)
      · rw [if_neg c2] at H
        have c2b0 : decide (x4_1 < (l0.length : Int)) = false := decide_eq_false c2
        clear c2
        obtain rfl := Option.some.inj H
        go_wp2
        go_ret
        exact ⟨by first | rfl | (simp; done) | (simp [*]; done), by repeat (first | exact Drawn0.refl _ | apply Drawn0.step)⟩

end Go.Proofs.Ytgfadfahbhcllaa.Q
namespace Go.Proofs.Ytgfadfahbhcllaa.Q
open Go.RowKit Go.Proofs.YtgfadfahbhcllaaW.PrintWords Go.Proofs.YtgfadfahbhcllaaW.PrintLast Go.Proofs.Ytgfadfahbhcllaa.LK Go.Proofs.YtgfadfahbhcllaaW.PrintMore
attribute [local go_sem] max2_int min2_int max_two min_two max_three min_three max_four min_four   -- for this text's walks alone
set_option linter.unusedVariables false
set_option linter.unusedSimpArgs false

/-! ### impl_Crc32: function 89 -/
mutual
def impl_Crc32.l0 : Nat → Int → List Int → Int → Int → Option (Int)
  | 0, _, _, _, _ => none
  | k + 1, x3, x6, x7, x8 => if x8 < x7 then (if 0 ≤ x8 then (if x8 < (x6.length : Int) then (impl_Crc32.l1 k (Go.bits .xor .u32 x3 ((rd x6 x8) % 4294967296)) x6 x7 x8 0) else (none)) else (none)) else (some (Go.bits .xor .u32 (4294967295) x3))
def impl_Crc32.l1 : Nat → Int → List Int → Int → Int → Int → Option (Int)
  | 0, _, _, _, _, _ => none
  | k + 1, x3, x6, x7, x8, x16 => if x16 < 8 then (impl_Crc32.l1 k (Go.bits .xor .u32 (x3 / 2) (Go.bits .and .u32 3988292384 ((-(Go.bits .and .u32 x3 1)) % 4294967296))) x6 x7 x8 (wrap64 (x16 + 1))) else (impl_Crc32.l0 k x3 x6 x7 (wrap64 (x8 + 1)))
end
def impl_Crc32.f (k : Nat) (l0 : List Int) : Option (Int) := impl_Crc32.l0 k 4294967295 l0 (l0.length : Int) 0
theorem impl_Crc32.mono_l : ∀ k, (∀ y0 y1 y2 y3, LeO (impl_Crc32.l0 k y0 y1 y2 y3) (impl_Crc32.l0 (k + 1) y0 y1 y2 y3)) ∧ (∀ y0 y1 y2 y3 y4, LeO (impl_Crc32.l1 k y0 y1 y2 y3 y4) (impl_Crc32.l1 (k + 1) y0 y1 y2 y3 y4))
  | 0 => ⟨fun _ _ _ _ r h => by simp [impl_Crc32.l0] at h, fun _ _ _ _ _ r h => by simp [impl_Crc32.l1] at h⟩
  | k + 1 => by
    obtain ⟨ih0, ih1⟩ := impl_Crc32.mono_l k
    refine ⟨?_, ?_⟩
    · intro y0 y1 y2 y3
      unfold impl_Crc32.l0
      repeat' first
      | (with_reducible exact ih0 _ _ _ _)
      | (with_reducible exact ih1 _ _ _ _ _)
      | (with_reducible exact LeO.refl _)
      | (with_reducible exact LeO.none _)
      | (with_reducible refine LeO.ite ?_ ?_)
      | (with_reducible refine LeO.bind ?_ (fun _ => ?_))
      | exact ih0 _ _ _ _
      | exact ih1 _ _ _ _ _
      | exact LeO.none _
      | refine LeO.ite ?_ ?_
      | refine LeO.bind ?_ (fun _ => ?_)
    · intro y0 y1 y2 y3 y4
      unfold impl_Crc32.l1
      repeat' first
      | (with_reducible exact ih0 _ _ _ _)
      | (with_reducible exact ih1 _ _ _ _ _)
      | (with_reducible exact LeO.refl _)
      | (with_reducible exact LeO.none _)
      | (with_reducible refine LeO.ite ?_ ?_)
      | (with_reducible refine LeO.bind ?_ (fun _ => ?_))
      | exact ih0 _ _ _ _
      | exact ih1 _ _ _ _ _
      | exact LeO.none _
      | refine LeO.ite ?_ ?_
      | refine LeO.bind ?_ (fun _ => ?_)
theorem impl_Crc32.mono : ∀ a0 k, LeO (impl_Crc32.f k a0) (impl_Crc32.f (k + 1) a0) := by
  intro a0 k
  obtain ⟨ih0, ih1⟩ := impl_Crc32.mono_l k
  unfold impl_Crc32.f
  repeat' first
      | (with_reducible exact ih0 _ _ _ _)
      | (with_reducible exact ih1 _ _ _ _ _)
      | (with_reducible exact LeO.refl _)
      | (with_reducible exact LeO.none _)
      | (with_reducible refine LeO.ite ?_ ?_)
      | (with_reducible refine LeO.bind ?_ (fun _ => ?_))
      | exact ih0 _ _ _ _
      | exact ih1 _ _ _ _ _
      | exact LeO.none _
      | refine LeO.ite ?_ ?_
      | refine LeO.bind ?_ (fun _ => ?_)
set_option maxHeartbeats 8000000 in
set_option maxRecDepth 100000 in
theorem impl_Crc32.calls (k : Nat) (A0 : Option Addr) (c0 : Nat) (l0 : List Int) (r : Int) (w : World) (hr0 : Kd.C (Kd.int .u8) w A0 l0.length l0) (hc0 : l0.length ≤ c0) (h : impl_Crc32.f k l0 = some r) :
    Calls Try.prog 89 #[.slice A0 l0.length c0] w fun e w' => e = .returned (.int .u32 r) ∧ Drawn0 w w' := by
  have HR0 := Aside0.mk hr0
  have HC0 := Aside0.mk hc0
  clear hr0 hc0
  have H : (impl_Crc32.l0 k 4294967295 l0 (l0.length : Int) 0) = some r := h
  clear h
  have H' := Aside0.mk H
  clear H
  go_enter Try.func89, Try.ntmps89
  go_wp2
  go_loopg [3, 8] k (fun kq v3 v8 w' => ∃ (x3_1 : Int) (x8_1 : Int), v3 = .int .u32 x3_1 ∧ v8 = .int .i64 x8_1 ∧ Aside0 (impl_Crc32.l0 kq x3_1 l0 (l0.length : Int) x8_1 = some r) ∧ Aside0 (kq ≤ k) ∧ Drawn0 w w')
  case atStart => exact ⟨(4294967295), (0), (by first | rfl | (simp; done) | (simp [*]; done)), (by first | rfl | (simp; done) | (simp [*]; done)), H', ⟨Nat.le_refl _⟩, by repeat (first | exact Drawn0.refl _ | apply Drawn0.step)⟩
  case round =>
    clear H'
    obtain ⟨x3_1, x8_1, rfl, rfl, HA, HK1, ⟨m1, rfl⟩⟩ := hrel
    cases gk with
    | zero => exact absurd HA.out (by simp [impl_Crc32.l0])
    | succ k1 =>
      have H := HA.out
      clear HA
      simp only [impl_Crc32.l0] at H
      by_cases c2 : x8_1 < (l0.length : Int)
      · rw [if_pos c2] at H
        have c2b0 : decide (x8_1 < (l0.length : Int)) = true := decide_eq_true c2
        clear c2
        by_cases c3 : 0 ≤ x8_1
        · rw [if_pos c3] at H
          have c3b0 : decide (0 ≤ x8_1) = true := decide_eq_true c3
          clear c3
          by_cases c4 : x8_1 < (l0.length : Int)
          · rw [if_pos c4] at H
            have c4b0 : decide (x8_1 < (l0.length : Int)) = true := decide_eq_true c4
            clear c4
            have H' := Aside0.mk H
            clear H
            have p101 : 0 ≤ (x8_1 : Int) := of_decide_eq_true (by first | (with_reducible assumption) | assumption)
            have q101 : x8_1 < (l0.length : Int) := of_decide_eq_true (by first | (with_reducible assumption) | assumption)
            obtain ⟨ad101, e101, hx101_0⟩ := Kd.at_int HR0.out x8_1 p101 q101
            cases e101
            replace p101 := eq_true p101
            replace q101 := eq_true q101
            go_wp2
            go_loopg [3, 16] k1 (fun kq v3 v16 w' => ∃ (x3_2 : Int) (x16_2 : Int), v3 = .int .u32 x3_2 ∧ v16 = .int .i64 x16_2 ∧ Aside0 (impl_Crc32.l1 kq x3_2 l0 (l0.length : Int) x8_1 x16_2 = some r) ∧ Aside0 (kq ≤ k1) ∧ Drawn0 w w')
            case atStart => exact ⟨(Go.bits .xor .u32 x3_1 ((rd l0 x8_1) % 4294967296)), (0), (by first | rfl | (simp; done) | (simp [*]; done)), (by first | rfl | (simp; done) | (simp [*]; done)), H', ⟨Nat.le_refl _⟩, by repeat (first | exact Drawn0.refl _ | apply Drawn0.step)⟩
            case round =>
              clear H'
              try clear p1
              try clear q1
              try clear hx1
              try clear c2
              try clear c2b0
              try clear p2
              try clear c3
              try clear c3b0
              try clear c4
              try clear c4b0
              try clear hx101_0
              try clear p101
              try clear q101
              obtain ⟨x3_2, x16_2, rfl, rfl, HA, HK2, ⟨m2, rfl⟩⟩ := hrel
              cases gk with
              | zero => exact absurd HA.out (by simp [impl_Crc32.l1])
              | succ k2 =>
                have H := HA.out
                clear HA
                simp only [impl_Crc32.l1] at H
                by_cases c5 : x16_2 < 8
                · rw [if_pos c5] at H
                  have c5b0 : decide (x16_2 < 8) = true := decide_eq_true c5
                  clear c5
                  have H' := Aside0.mk H
                  clear H
                  go_wp2
                  go_roundg k2
                  case measure => have := HK1.out; have := HK2.out; omega
                  case rel => exact ⟨(Go.bits .xor .u32 (x3_2 / 2) (Go.bits .and .u32 3988292384 ((-(Go.bits .and .u32 x3_2 1)) % 4294967296))), (wrap64 (x16_2 + 1)), (by first | rfl | (simp; done) | (simp [*]; done)), (by first | rfl | (simp; done) | (simp [*]; done)), H', ⟨by have := HK1.out; have := HK2.out; omega⟩, by repeat (first | exact Drawn0.refl _ | apply Drawn0.step)⟩
                · rw [if_neg c5] at H
                  have c5b0 : decide (x16_2 < 8) = false := decide_eq_false c5
                  clear c5
                  have H' := Aside0.mk H
                  clear H
                  go_wp2
                  go_roundg k2
                  case measure => have := HK1.out; have := HK2.out; omega
                  case rel => exact ⟨(x3_2), (wrap64 (x8_1 + 1)), (by first | rfl | (simp; done) | (simp [*]; done)), (by first | rfl | (simp; done) | (simp [*]; done)), H', ⟨by have := HK1.out; have := HK2.out; omega⟩, by repeat (first | exact Drawn0.refl _ | apply Drawn0.step)⟩
          · rw [if_neg c4] at H
            exact absurd H (by simp)
        · rw [if_neg c3] at H
          exact absurd H (by simp)
      · rw [if_neg c2] at H
        have c2b0 : decide (x8_1 < (l0.length : Int)) = false := decide_eq_false c2
        clear c2
        obtain rfl := Option.some.inj H
        go_wp2
        go_ret
        exact ⟨by first | rfl | (simp; done) | (simp [*]; done), by repeat (first | exact Drawn0.refl _ | apply Drawn0.step)⟩

end Go.Proofs.Ytgfadfahbhcllaa.Q
namespace Go.Proofs.Ytgfadfahbhcllaa.P
open Go.RowKit Go.Proofs.YtgfadfahbhcllaaW.PrintWords Go.Proofs.Ytgfadfahbhcllaa.Q
set_option linter.unusedVariables false
set_option linter.unusedSimpArgs false

def U32 (x : Int) : Prop := 0 ≤ x ∧ x ≤ 4294967295
theorem u32_wrap (n : Int) (h : U32 n) : IntKind.u32.wrap n = n := by rw [IntKind.wrap_u32]; unfold U32 at h; omega
theorem bits_u32 (op : BinOp) (x y : Int) : U32 (Go.bits op .u32 x y) := by
  unfold Go.bits U32
  rw [IntKind.wrap_u32]
  omega
theorem xor32 (a b : Nat) (ha : a < 4294967296) (hb : b < 4294967296) : Go.bits .xor .u32 (a : Int) (b : Int) = ((a ^^^ b : Nat) : Int) := by
  have h : a ^^^ b < 2 ^ 32 := Nat.xor_lt_two_pow (by simpa using ha) (by simpa using hb)
  unfold Go.bits
  simp only [BitVec.ofInt_natCast, BitVec.toNat_xor, BitVec.toNat_ofNat]
  rw [show IntKind.u32.bits = 32 from rfl, Nat.mod_eq_of_lt (by simpa using ha), Nat.mod_eq_of_lt (by simpa using hb)]
  exact u32_wrap _ ⟨by omega, by omega⟩
theorem and32 (a b : Nat) (ha : a < 4294967296) (hb : b < 4294967296) : Go.bits .and .u32 (a : Int) (b : Int) = ((a &&& b : Nat) : Int) := by
  have h : a &&& b < 2 ^ 32 := Nat.and_lt_two_pow _ (by simpa using hb)
  unfold Go.bits
  simp only [BitVec.ofInt_natCast, BitVec.toNat_and, BitVec.toNat_ofNat]
  rw [show IntKind.u32.bits = 32 from rfl, Nat.mod_eq_of_lt (by simpa using ha), Nat.mod_eq_of_lt (by simpa using hb)]
  exact u32_wrap _ ⟨by omega, by omega⟩
theorem xor32_comm (x y : Int) (hx : U32 x) (hy : U32 y) : Go.bits .xor .u32 x y = Go.bits .xor .u32 y x := by
  obtain ⟨a, rfl⟩ := Int.eq_ofNat_of_zero_le hx.1
  obtain ⟨b, rfl⟩ := Int.eq_ofNat_of_zero_le hy.1
  have h1 := hx.2
  have h2 := hy.2
  rw [xor32 a b (by omega) (by omega), xor32 b a (by omega) (by omega), Nat.xor_comm]
/-- One bit of the checksum. -/
def bit (x : Int) : Int := if x % 2 = 1 then Go.bits .xor .u32 (x / 2) 3988292384 else x / 2
theorem bit_range {x : Int} (h : U32 x) : U32 (bit x) := by
  unfold bit
  split
  · exact bits_u32 _ _ _
  · unfold U32 at *
    omega
theorem bit_spec {x : Int} (h : U32 x) : (if Int.tmod x 2 = 1 then Go.bits .xor .u32 ((Int.tdiv x 2) % 4294967296) 3988292384 else (Int.tdiv x 2) % 4294967296) = bit x := by
  unfold U32 at h
  have e1 : Int.tmod x 2 = x % 2 := Int.tmod_eq_emod_of_nonneg h.1
  have e2 : Int.tdiv x 2 = x / 2 := Int.tdiv_eq_ediv_of_nonneg h.1
  have e3 : (x / 2) % 4294967296 = x / 2 := by omega
  rw [e1, e2, e3]
  rfl
theorem bit_impl {x : Int} (h : U32 x) : Go.bits .xor .u32 (x / 2) (Go.bits .and .u32 3988292384 ((-(Go.bits .and .u32 x 1)) % 4294967296)) = bit x := by
  obtain ⟨n, rfl⟩ := Int.eq_ofNat_of_zero_le h.1
  have h1 := h.2
  have e : Go.bits .and .u32 (n : Int) 1 = ((n % 2 : Nat) : Int) := by
    have := and32 n 1 (by omega) (by omega)
    rw [Nat.and_one_is_mod] at this
    exact this
  unfold bit
  rw [e]
  rcases Nat.mod_two_eq_zero_or_one n with h2 | h2
  · rw [h2, if_neg (by omega)]
    rw [show (-((0 : Nat) : Int)) % 4294967296 = 0 from by decide, show Go.bits .and .u32 3988292384 0 = 0 from by decide]
    have := xor32 (n / 2) 0 (by omega) (by omega)
    rw [Nat.xor_zero] at this
    exact this
  · rw [h2, if_pos (by omega)]
    rw [show (-((1 : Nat) : Int)) % 4294967296 = 4294967295 from by decide, show Go.bits .and .u32 3988292384 4294967295 = 3988292384 from by decide]
def bitN : Nat → Int → Int
  | 0, x => x
  | n + 1, x => bitN n (bit x)
theorem bitN_range : ∀ n {x : Int}, U32 x → U32 (bitN n x)
  | 0, _, h => h
  | n + 1, _, h => bitN_range n (bit_range h)
def crcByte (c b : Int) : Int := bitN 8 (Go.bits .xor .u32 c (b % 4294967296))
def crcOf (l : List Int) (c : Int) : Int := l.foldl crcByte c
theorem crcOf_range : ∀ (l : List Int) {c : Int}, U32 c → U32 (crcOf l c)
  | [], _, h => h
  | b :: l, _, _ => crcOf_range l (bitN_range 8 (bits_u32 _ _ _))
def crc32 (l : List Int) : Int := Go.bits .xor .u32 (crcOf l 4294967295) 4294967295
theorem crc32_range (l : List Int) : U32 (crc32 l) := bits_u32 _ _ _
theorem spec_inner (l : List Int) (i4 : Int) {r : Int} : ∀ (j i : Nat) (x : Int), i + j = 8 → U32 x → Ev (fun k => spec_Crc32.l0 k l (bitN j x) (wrap64 (i4 + 1))) r → Ev (fun k => spec_Crc32.l1 k l x i4 (i : Int)) r
  | 0, i, x, h, _, e => by
    refine Ev.step ⟨0, fun k _ => ?_⟩ e
    simp only [spec_Crc32.l1]
    rw [if_neg (by omega)]
    rfl
  | j + 1, i, x, h, hx, e => by
    refine Ev.step ⟨0, fun k _ => ?_⟩ (spec_inner l i4 j (i + 1) (bit x) (by omega) (bit_range hx) e)
    simp only [spec_Crc32.l1]
    rw [if_pos (by omega), w64s (i := i) (n := 8) (by omega) (by omega), ← bit_spec hx]
    split <;> rfl
theorem spec_Crc32_ev (l : List Int) (h : l.length ≤ 4611686018427387904) : Ev (fun k => spec_Crc32.f k l) (crc32 l) := by
  have key : ∀ (rest done : List Int) (c : Int), done ++ rest = l → U32 c → Ev (fun k => spec_Crc32.l0 k l c (done.length : Int)) (Go.bits .xor .u32 (crcOf rest c) 4294967295) := by
    intro rest
    induction rest with
    | nil =>
      intro done c hl hc
      refine Ev.last ⟨0, fun k _ => ?_⟩
      have : l.length = done.length := by rw [← hl, List.append_nil]
      simp only [spec_Crc32.l0]
      rw [if_neg (by omega)]
      rfl
    | cons b rest ih =>
      intro done c hl hc
      have hlen : done.length + (rest.length + 1) = l.length := by rw [← hl, List.length_append, List.length_cons]
      have hat : l[done.length]? = some b := by rw [← hl]; simp
      have h1 := ih (done ++ [b]) (crcByte c b) (by rw [← hl]; simp) (bitN_range 8 (bits_u32 _ _ _))
      rw [List.length_append, List.length_singleton] at h1
      refine Ev.step ⟨0, fun k _ => ?_⟩ (spec_inner l (done.length : Int) 8 0 (Go.bits .xor .u32 c (b % 4294967296)) rfl (bits_u32 _ _ _) ?_)
      · simp only [spec_Crc32.l0]
        rw [if_pos (by omega), if_pos (by omega), rd_at hat]
        rfl
      · rw [w64s (i := done.length) (n := l.length) (by omega) (by omega)]
        exact h1
  exact key l [] 4294967295 rfl ⟨by decide, by decide⟩
theorem impl_inner (l : List Int) (n i4 : Int) {r : Int} : ∀ (j i : Nat) (x : Int), i + j = 8 → U32 x → Ev (fun k => impl_Crc32.l0 k (bitN j x) l n (wrap64 (i4 + 1))) r → Ev (fun k => impl_Crc32.l1 k x l n i4 (i : Int)) r
  | 0, i, x, h, _, e => by
    refine Ev.step ⟨0, fun k _ => ?_⟩ e
    simp only [impl_Crc32.l1]
    rw [if_neg (by omega)]
    rfl
  | j + 1, i, x, h, hx, e => by
    refine Ev.step ⟨0, fun k _ => ?_⟩ (impl_inner l n i4 j (i + 1) (bit x) (by omega) (bit_range hx) e)
    simp only [impl_Crc32.l1]
    rw [if_pos (by omega), w64s (i := i) (n := 8) (by omega) (by omega), bit_impl hx]
theorem impl_Crc32_ev (l : List Int) (h : l.length ≤ 4611686018427387904) : Ev (fun k => impl_Crc32.f k l) (crc32 l) := by
  have key : ∀ (rest done : List Int) (c : Int), done ++ rest = l → U32 c → Ev (fun k => impl_Crc32.l0 k c l (l.length : Int) (done.length : Int)) (Go.bits .xor .u32 4294967295 (crcOf rest c)) := by
    intro rest
    induction rest with
    | nil =>
      intro done c hl hc
      refine Ev.last ⟨0, fun k _ => ?_⟩
      have : l.length = done.length := by rw [← hl, List.append_nil]
      simp only [impl_Crc32.l0]
      rw [if_neg (by omega)]
      rfl
    | cons b rest ih =>
      intro done c hl hc
      have hlen : done.length + (rest.length + 1) = l.length := by rw [← hl, List.length_append, List.length_cons]
      have hat : l[done.length]? = some b := by rw [← hl]; simp
      have h1 := ih (done ++ [b]) (crcByte c b) (by rw [← hl]; simp) (bitN_range 8 (bits_u32 _ _ _))
      rw [List.length_append, List.length_singleton] at h1
      refine Ev.step ⟨0, fun k _ => ?_⟩ (impl_inner l (l.length : Int) (done.length : Int) 8 0 (Go.bits .xor .u32 c (b % 4294967296)) rfl (bits_u32 _ _ _) ?_)
      · simp only [impl_Crc32.l0]
        rw [if_pos (by omega), if_pos (by omega), if_pos (by omega), rd_at hat]
        rfl
      · rw [w64s (i := done.length) (n := l.length) (by omega) (by omega)]
        exact h1
  have h1 := key l [] 4294967295 rfl ⟨by decide, by decide⟩
  rw [xor32_comm _ _ ⟨by decide, by decide⟩ (crcOf_range l ⟨by decide, by decide⟩)] at h1
  exact h1
end Go.Proofs.Ytgfadfahbhcllaa.P
namespace Go.Proofs.Ytgfadfahbhcllaa.Q
open Go.RowKit Go.Proofs.YtgfadfahbhcllaaW.PrintWords Go.Proofs.YtgfadfahbhcllaaW.PrintLast Go.Proofs.Ytgfadfahbhcllaa.LK Go.Proofs.YtgfadfahbhcllaaW.PrintMore
attribute [local go_sem] max2_int min2_int max_two min_two max_three min_three max_four min_four   -- for this text's walks alone
set_option linter.unusedVariables false
set_option linter.unusedSimpArgs false

/-! ### impl_Frame_good: function 51 -/
def impl_Frame_good.f (a0_0 : Int) (a0_1 : Int) (a0_2 : Int) (a0_3 : Int) : Option (Bool) := if a0_1 ≥ 1 then (some (decide (a0_1 ≤ 3))) else (some false)
set_option maxHeartbeats 8000000 in
set_option maxRecDepth 100000 in
theorem impl_Frame_good.calls (a0_0 : Int) (a0_1 : Int) (a0_2 : Int) (a0_3 : Int) (r : Bool) (w : World) (h : impl_Frame_good.f a0_0 a0_1 a0_2 a0_3 = some r) :
    Calls Try.prog 51 #[.agg #[.int .u32 a0_0, .int .i64 a0_1, .int .u32 a0_2, .int .u32 a0_3]] w fun e w' => e = .returned (.bool r) ∧ Below w.heap.size w w' := by
  have hu27 := Try.underlying27
  have HB := Aside0.mk (Below.refl w.heap.size w)
  have H : (if a0_1 ≥ 1 then (some (decide (a0_1 ≤ 3))) else (some false)) = some r := h
  clear h
  by_cases c2 : a0_1 ≥ 1
  · rw [if_pos c2] at H
    have c2b0 : decide (1 ≤ a0_1) = true := decide_eq_true c2
    clear c2
    obtain rfl := Option.some.inj H
    go_enter Try.func51, Try.ntmps51
    go_wp2_with (first | ((with_reducible refine gate_dst (N := 1) rfl ?_); refine box_event ?hg (N := 1) ?hd (cs := #[.int .u32 a0_0, .int .i64 a0_1, .int .u32 a0_2, .int .u32 a0_3]) (t := 27) ?hr ?_; (case hd => rfl); (case hg => rfl); (case hr => first | (go_simp; done) | (go_simp; rfl)); intro gb101 hg w3 hbox hb; have n0_ := Aside0.mk (below_step (by repeat (first | (with_reducible first | exact HB.out | apply below_alloc | apply pw_below_drewN | apply below_drew1) | exact HB.out)) hb); have n1_ := Aside0.mk (hbox); have n2_ := Aside0.mk ((by rw [hg]; exact (below_size (by repeat (first | (with_reducible first | exact HB.out | apply below_alloc | apply pw_below_drewN | apply below_drew1) | exact HB.out))) : w.heap.size ≤ gb101)); have n3_ := Aside0.mk ((by rw [hg]; exact (below_size (by repeat (first | (with_reducible first | exact HB.out | apply below_alloc | apply pw_below_drewN | apply below_drew1) | exact HB.out))) : w.heap.size ≤ gb101)); clear HB; have HB := n0_; have BK101 := n1_; have GW101 := n2_; have GE101 := n3_; clear n0_ n1_ n2_ n3_; clear hb hbox hg; have hcz4_0 : w3.cell? ⟨gb101, 0, none⟩ = some (.int .u32 a0_0) := (blk_cell BK101.out 0).trans rfl; have hcz4_1 : w3.cell? ⟨gb101, 1, none⟩ = some (.int .i64 a0_1) := (blk_cell BK101.out 1).trans rfl; have hcz4_2 : w3.cell? ⟨gb101, 2, none⟩ = some (.int .u32 a0_2) := (blk_cell BK101.out 2).trans rfl; have hcz4_3 : w3.cell? ⟨gb101, 3, none⟩ = some (.int .u32 a0_3) := (blk_cell BK101.out 3).trans rfl; have hfz4_0 := blk_frozen BK101.out 0; have hfz4_1 := blk_frozen BK101.out 1; have hfz4_2 := blk_frozen BK101.out 2; have hfz4_3 := blk_frozen BK101.out 3))
    go_ret
    exact ⟨by first | rfl | (simp [errW_none, errW_some] <;> rfl) | (simp [*, errW_none, errW_some] <;> rfl), by repeat (first | (with_reducible first | exact HB.out | apply below_alloc | apply pw_below_drewN | apply below_drew1 | refine below_set ?_ GE101.out) | exact HB.out)⟩
  · rw [if_neg c2] at H
    have c2b0 : decide (1 ≤ a0_1) = false := decide_eq_false c2
    clear c2
    obtain rfl := Option.some.inj H
    go_enter Try.func51, Try.ntmps51
    go_wp2_with (first | ((with_reducible refine gate_dst (N := 1) rfl ?_); refine box_event ?hg (N := 1) ?hd (cs := #[.int .u32 a0_0, .int .i64 a0_1, .int .u32 a0_2, .int .u32 a0_3]) (t := 27) ?hr ?_; (case hd => rfl); (case hg => rfl); (case hr => first | (go_simp; done) | (go_simp; rfl)); intro gb101 hg w5 hbox hb; have n0_ := Aside0.mk (below_step (by repeat (first | (with_reducible first | exact HB.out | apply below_alloc | apply pw_below_drewN | apply below_drew1) | exact HB.out)) hb); have n1_ := Aside0.mk (hbox); have n2_ := Aside0.mk ((by rw [hg]; exact (below_size (by repeat (first | (with_reducible first | exact HB.out | apply below_alloc | apply pw_below_drewN | apply below_drew1) | exact HB.out))) : w.heap.size ≤ gb101)); have n3_ := Aside0.mk ((by rw [hg]; exact (below_size (by repeat (first | (with_reducible first | exact HB.out | apply below_alloc | apply pw_below_drewN | apply below_drew1) | exact HB.out))) : w.heap.size ≤ gb101)); clear HB; have HB := n0_; have BK101 := n1_; have GW101 := n2_; have GE101 := n3_; clear n0_ n1_ n2_ n3_; clear hb hbox hg; have hcz6_0 : w5.cell? ⟨gb101, 0, none⟩ = some (.int .u32 a0_0) := (blk_cell BK101.out 0).trans rfl; have hcz6_1 : w5.cell? ⟨gb101, 1, none⟩ = some (.int .i64 a0_1) := (blk_cell BK101.out 1).trans rfl; have hcz6_2 : w5.cell? ⟨gb101, 2, none⟩ = some (.int .u32 a0_2) := (blk_cell BK101.out 2).trans rfl; have hcz6_3 : w5.cell? ⟨gb101, 3, none⟩ = some (.int .u32 a0_3) := (blk_cell BK101.out 3).trans rfl; have hfz6_0 := blk_frozen BK101.out 0; have hfz6_1 := blk_frozen BK101.out 1; have hfz6_2 := blk_frozen BK101.out 2; have hfz6_3 := blk_frozen BK101.out 3))
    go_ret
    exact ⟨by first | rfl | (simp [errW_none, errW_some] <;> rfl) | (simp [*, errW_none, errW_some] <;> rfl), by repeat (first | (with_reducible first | exact HB.out | apply below_alloc | apply pw_below_drewN | apply below_drew1 | refine below_set ?_ GE101.out) | exact HB.out)⟩

end Go.Proofs.Ytgfadfahbhcllaa.Q
namespace Go.Proofs.Ytgfadfahbhcllaa.Q
open Go.RowKit Go.Proofs.YtgfadfahbhcllaaW.PrintWords Go.Proofs.YtgfadfahbhcllaaW.PrintLast Go.Proofs.YtgfadfahbhcllaaW.PrintMore Go.Proofs.Ytgfadfahbhcllaa.LK
set_option linter.unusedVariables false
set_option linter.unusedSimpArgs false
/-- The first 56 bytes of a frame's sector, and the rest. -/
def frameHead (q kd a b : Int) : List Int := P.leB 4 q ++ ([74, 49, kd % 256, 0] ++ (P.leB 4 a ++ (P.leB 4 b ++ List.replicate 40 0)))
def frameCode (q kd a b : Int) : List Int := frameHead q kd a b ++ (P.leB 4 (P.crc32 (frameHead q kd a b)) ++ P.leB 4 q)
theorem frameHead_length (q kd a b : Int) : (frameHead q kd a b).length = 56 := rfl
theorem frameCode_length (q kd a b : Int) : (frameCode q kd a b).length = 64 := rfl
def fc0 : List Int := List.replicate 64 0
def fc1 (q : Int) : List Int := splice fc0 0 (P.leB 4 q)
def fc2 (q : Int) : List Int := splice (fc1 q) 4 [74, 49]
def fc3 (q kd : Int) : List Int := (fc2 q).set 6 (kd % 256)
def fc4 (q kd a : Int) : List Int := splice (fc3 q kd) 8 (P.leB 4 a)
def fc5 (q kd a b : Int) : List Int := splice (fc4 q kd a) 12 (P.leB 4 b)
def fc6 (q kd a b c : Int) : List Int := splice (fc5 q kd a b) 56 (P.leB 4 c)
def fc7 (q kd a b c : Int) : List Int := splice (fc6 q kd a b c) 60 (P.leB 4 q)
theorem fc5_head (q kd a b : Int) : (fc5 q kd a b).take 56 = frameHead q kd a b := rfl
theorem fc7_code (q kd a b : Int) : fc7 q kd a b (P.crc32 (frameHead q kd a b)) = frameCode q kd a b := rfl
theorem fc0_v : bytesV fc0 = List.replicate 64 (Value.int .u8 0) := rfl
theorem bytesV_set (l : List Int) (i : Nat) (x : Int) : (bytesV l).set i (.int .u8 x) = bytesV (l.set i x) := by unfold bytesV; exact List.map_set.symm
theorem set_seg {l : List Int} {i : Nat} {x : Int} (h : i < l.length) : (bytesV l).take i ++ [.int .u8 x] ++ (bytesV l).drop (i + 1) = bytesV (l.set i x) := by
  rw [← bytesV_set, List.set_eq_take_append_cons_drop, if_pos (by rw [bytesV_length]; exact h), List.append_assoc]
  rfl
set_option maxHeartbeats 8000000 in
set_option maxRecDepth 100000 in
theorem code_calls {q kd a b : Int} {w : World} (hq : 0 ≤ q ∧ q ≤ 4294967295) (ha : 0 ≤ a ∧ a ≤ 4294967295) (hb : 0 ≤ b ∧ b ≤ 4294967295) :
    Calls Try.prog 52 #[.agg #[.int .u32 q, .int .i64 kd, .int .u32 a, .int .u32 b]] w fun e w' => e = .returned (.agg (bytesV (frameCode q kd a b)).toArray) ∧ Below w.heap.size w w' := by
  have jq : IntKind.u64.wrap q = q := by rw [IntKind.wrap_u64]; omega
  have ja : IntKind.u64.wrap a = a := by rw [IntKind.wrap_u64]; omega
  have jb : IntKind.u64.wrap b = b := by rw [IntKind.wrap_u64]; omega
  have jk : IntKind.u8.wrap kd = kd % 256 := by rw [IntKind.wrap_u8]
  have hcr := P.crc32_range (frameHead q kd a b)
  obtain ⟨c, hc⟩ : ∃ c, c = P.crc32 (frameHead q kd a b) := ⟨_, rfl⟩
  rw [← hc] at hcr
  unfold P.U32 at hcr
  have jc : IntKind.u64.wrap c = c := by rw [IntKind.wrap_u64]; omega
  obtain ⟨kc, hkc⟩ := (P.impl_Crc32_ev (frameHead q kd a b) (by rw [frameHead_length]; decide)).ex
  rw [← hc] at hkc
  have HKC := Aside0.mk hkc
  have HC := Aside0.mk hc
  have HCr := Aside0.mk hcr
  have HQ := Aside0.mk hq
  have HA := Aside0.mk ha
  have HBb := Aside0.mk hb
  have H0 := Aside0.mk (Bx.refl w)
  clear hq ha hb hkc hc hcr
  go_enter Try.func52, Try.ntmps52
  go_wp2_with (first | ((with_reducible refine gate_dst (N := 1) rfl ?_); refine Aside0.out ?_))
  refine Aside0.mk ?_
  refine mk ?hw1 (N := 1) ?hd1 (cs := #[.int .u32 q, .int .i64 kd, .int .u32 a, .int .u32 b]) (t := 27) ?hr1 ?_
  case hd1 => rfl
  case hw1 => rfl
  case hr1 => first | (go_simp; done) | (go_simp; rfl)
  intro g1 hg1_ w101 hb1 hB1
  have H102 := Aside0.mk (H0.out.new hg1_ hb1 hB1)
  clear hg1_ hb1 hB1 H0
  go_wp2_with (first | ((with_reducible refine gate_dst (N := 2) rfl ?_); refine Aside0.out ?_))
  refine Aside0.mk ?_
  refine mk ?hw3 (N := 2) ?hd3 (cs := (bytesV fc0).toArray) (t := 79) ?hr3 ?_
  case hd3 => rfl
  case hw3 => rfl
  case hr3 => first | (go_simp; done) | (go_simp; rfl)
  intro g2 hg2_ w103 hb3 hB3
  have H104 := Aside0.mk (H102.out.new hg2_ hb3 hB3)
  clear hg2_ hb3 hB3 H102
  go_wp2_with (first | ((with_reducible refine gate_dst (N := 3) rfl ?_); refine Aside0.out ?_))
  refine Aside0.mk ?_
  refine mk ?hw5 (N := 3) ?hd5 (cs := (bytesV fc0).toArray) (t := 79) ?hr5 ?_
  case hd5 => rfl
  case hw5 => rfl
  case hr5 => first | (go_simp; done) | (go_simp; rfl)
  intro g3 hg3_ w105 hb5 hB5
  have H106 := Aside0.mk (H104.out.new hg3_ hb5 hB5)
  clear hg3_ hb5 hB5 H104
  try go_wp2
  have H108 := Aside0.mk H106.out.drew
  refine start_ (n := 5) (S := fun w' => w'.cell? ⟨g1, 0, none⟩ = some (.int .u32 q)) (ds := [4]) #[false, false, false, false, false] (by kernel_rfl) rfl rfl ((blk_cell H108.out.gt2 0).trans rfl) (fun hHeld => ?_)
  clear H106
  generalize w105.drew = w107 at H108 hHeld ⊢
  refine pure_ (i := 0) (N := some 4) (v := ?_) (a' := ?_) #[true, false, false, false, false] rfl rfl (by kernel_rfl) (fun _ _ _ h => h) (Or.inl ⟨by rfl, ?_⟩) ?_ ?_
  rotate_left
  · intro w'
    go_simp
    with_reducible rfl
  rotate_left
  · simp only [Act.put, List.setIfInBounds_toArray, List.set_cons_zero, List.set_cons_succ, i64_w, i32_w]
    rfl
  refine pure_ (i := 1) (N := some 5) (v := ?_) (a' := ?_) #[true, true, false, false, false] rfl rfl (by kernel_rfl) (fun _ _ _ h => h) (Or.inl ⟨by rfl, ?_⟩) ?_ ?_
  rotate_left
  · intro w'
    go_simp
    with_reducible rfl
  rotate_left
  · simp only [Act.put, List.setIfInBounds_toArray, List.set_cons_zero, List.set_cons_succ, i64_w, i32_w]
    rfl
  refine take_ (i := 2) (N := some 6) (v := ?_) (a' := ?_) #[true, true, true, false, false] rfl rfl (by kernel_rfl) (fun _ _ _ h => h) (Or.inl ⟨by rfl, ?_⟩) hHeld ?_ ?_
  rotate_left
  · rintro w' s0
    go_simp
    with_reducible rfl
  rotate_left
  · simp only [Act.put, List.setIfInBounds_toArray, List.set_cons_zero, List.set_cons_succ, i64_w, i32_w]
    rfl
  refine pure_ (i := 3) (N := some 7) (v := ?_) (a' := ?_) #[true, true, true, true, false] rfl rfl (by kernel_rfl) (fun _ _ _ h => h) (Or.inl ⟨by rfl, ?_⟩) ?_ ?_
  rotate_left
  · intro w'
    go_simp
    with_reducible rfl
  rotate_left
  · simp only [Act.put, List.setIfInBounds_toArray, List.set_cons_zero, List.set_cons_succ, i64_w, i32_w]
    rfl
  refine last_ (i := 4) (N := some 8) #[true, true, true, true, true] rfl rfl (by kernel_rfl) (by decide) (fun K hK => ?_)
  refine goes_ Try.func88 (by kernel_rfl) rfl #[.slice (some ⟨g3, 0, none⟩) 64 64, .int .i64 0, .int .i64 4, .int .u64 q] (by rfl) rfl rfl (by (try simp only [List.map_toArray, List.map_cons, List.map_nil]); first | done | rfl) ?_
  refine (put_box (l := fc0) 0 4 H108.out.below (H108.out.at_ _ (List.mem_cons_self ..)).1 H108.out.gt0 (by have := HQ.out; omega) (by decide) (by show 0 + 4 ≤ 64; decide) (by show 64 ≤ 4611686018427387904; decide) (by show 0 < 64; decide)).mono ?_
  rintro e w109 ⟨rfl, hb9, hS9⟩
  refine ⟨_, rfl, ?_⟩
  have H110 := Aside0.mk (H108.out.wr0 (cs' := (bytesV (fc1 q)).toArray) hb9 hS9)
  clear hb9 hS9 H108
  refine hK.out _ _ ?_
  clear hK K
  refine done_ (by kernel_rfl) ?_
  try dsimp only
  go_wp2_with (first | ((with_reducible refine gate_builtin (b := .copy) (xs := #[.tmp 9, .const (.string ⟨#[74, 49]⟩)]) rfl ?_); refine Aside0.out ?_))
  refine Aside0.mk ?_
  obtain ⟨i5, hi5, _, hsz5, _⟩ := info_parts info5
  refine copy_str rfl (.tmp 9) _ 25 _ rfl 5 Try.underlying25 (fun w_ => by simp [sizeOf, typeInfo, hi5, hsz5, Result.andThen]) g3 4 60 60 rfl _ rfl (by decide) (bytesV (fc1 q)) 79 H110.out.gt0 [74, 49] rfl rfl (by rw [bytesV_length]; show 6 ≤ 64; decide) ?_
  intro w111 hb11 hS11
  rw [show splice (bytesV (fc1 q)) 4 (bytesV [74, 49]) = bytesV (fc2 q) from rfl] at hb11
  clear hi5 hsz5
  have H112 := Aside0.mk (H110.out.wr0 (cs' := (bytesV (fc2 q)).toArray) hb11 hS11)
  clear hb11 hS11 H110
  have hk1 : w111.cell? ⟨g1, 1, none⟩ = some (.int .i64 kd) := (blk_cell H112.out.gt2 1).trans rfl
  go_wp2_with (first | ((with_reducible refine gate_store (t := 5) (p := 14) rfl ?_); refine Aside0.out ?_))
  refine Aside0.mk ?_
  refine st (o' := 6) (u := .int .u8 (kd % 256)) (seg := [.int .u8 (kd % 256)]) ?hw13 ?hN13 rfl ?hp13 ?hx13 rfl H112.out.gt0 (by kernel_rfl) (by rw [List.size_toArray, bytesV_length]; show 7 ≤ 64; decide) (by simp [Value.oneCell']) ?_
  case hw13 => rfl
  case hN13 => rfl
  case hp13 => rfl
  case hx13 => rfl
  intro w113 hb13 hS13
  replace hb13 := hb13.trans (congrArg (fun z : List Value => some (Obj.cells z.toArray 79 (0, 0))) (set_seg (l := fc2 q) (i := 6) (x := kd % 256) (by show 6 < 64; decide)))
  clear hk1
  have H114 := Aside0.mk (H112.out.wr0 (cs' := (bytesV (fc3 q kd)).toArray) hb13 hS13)
  clear hb13 hS13 H112
  try go_wp2
  have H116 := Aside0.mk H114.out.drew
  refine start_ (n := 5) (S := fun w' => w'.cell? ⟨g1, 2, none⟩ = some (.int .u32 a)) (ds := [4]) #[false, false, false, false, false] (by kernel_rfl) rfl rfl ((blk_cell H116.out.gt2 2).trans rfl) (fun hHeld => ?_)
  clear H114
  generalize w113.drew = w115 at H116 hHeld ⊢
  refine pure_ (i := 0) (N := some 15) (v := ?_) (a' := ?_) #[true, false, false, false, false] rfl rfl (by kernel_rfl) (fun _ _ _ h => h) (Or.inl ⟨by rfl, ?_⟩) ?_ ?_
  rotate_left
  · intro w'
    go_simp
    with_reducible rfl
  rotate_left
  · simp only [Act.put, List.setIfInBounds_toArray, List.set_cons_zero, List.set_cons_succ, i64_w, i32_w]
    rfl
  refine pure_ (i := 1) (N := some 16) (v := ?_) (a' := ?_) #[true, true, false, false, false] rfl rfl (by kernel_rfl) (fun _ _ _ h => h) (Or.inl ⟨by rfl, ?_⟩) ?_ ?_
  rotate_left
  · intro w'
    go_simp
    with_reducible rfl
  rotate_left
  · simp only [Act.put, List.setIfInBounds_toArray, List.set_cons_zero, List.set_cons_succ, i64_w, i32_w]
    rfl
  refine take_ (i := 2) (N := some 17) (v := ?_) (a' := ?_) #[true, true, true, false, false] rfl rfl (by kernel_rfl) (fun _ _ _ h => h) (Or.inl ⟨by rfl, ?_⟩) hHeld ?_ ?_
  rotate_left
  · rintro w' s0
    go_simp
    with_reducible rfl
  rotate_left
  · simp only [Act.put, List.setIfInBounds_toArray, List.set_cons_zero, List.set_cons_succ, i64_w, i32_w]
    rfl
  refine pure_ (i := 3) (N := some 18) (v := ?_) (a' := ?_) #[true, true, true, true, false] rfl rfl (by kernel_rfl) (fun _ _ _ h => h) (Or.inl ⟨by rfl, ?_⟩) ?_ ?_
  rotate_left
  · intro w'
    go_simp
    with_reducible rfl
  rotate_left
  · simp only [Act.put, List.setIfInBounds_toArray, List.set_cons_zero, List.set_cons_succ, i64_w, i32_w]
    rfl
  refine last_ (i := 4) (N := some 19) #[true, true, true, true, true] rfl rfl (by kernel_rfl) (by decide) (fun K hK => ?_)
  refine goes_ Try.func88 (by kernel_rfl) rfl #[.slice (some ⟨g3, 0, none⟩) 64 64, .int .i64 8, .int .i64 4, .int .u64 a] (by rfl) rfl rfl (by (try simp only [List.map_toArray, List.map_cons, List.map_nil]); first | done | rfl) ?_
  refine (put_box (l := fc3 q kd) 8 4 H116.out.below (H116.out.at_ _ (List.mem_cons_self ..)).1 H116.out.gt0 (by have := HA.out; omega) (by decide) (by show 8 + 4 ≤ 64; decide) (by show 64 ≤ 4611686018427387904; decide) (by show 0 < 64; decide)).mono ?_
  rintro e w117 ⟨rfl, hb17, hS17⟩
  refine ⟨_, rfl, ?_⟩
  have H118 := Aside0.mk (H116.out.wr0 (cs' := (bytesV (fc4 q kd a)).toArray) hb17 hS17)
  clear hb17 hS17 H116
  refine hK.out _ _ ?_
  clear hK K
  refine done_ (by kernel_rfl) ?_
  try dsimp only
  try go_wp2
  have H120 := Aside0.mk H118.out.drew
  refine start_ (n := 5) (S := fun w' => w'.cell? ⟨g1, 3, none⟩ = some (.int .u32 b)) (ds := [4]) #[false, false, false, false, false] (by kernel_rfl) rfl rfl ((blk_cell H120.out.gt2 3).trans rfl) (fun hHeld => ?_)
  clear H118
  generalize w117.drew = w119 at H120 hHeld ⊢
  refine pure_ (i := 0) (N := some 20) (v := ?_) (a' := ?_) #[true, false, false, false, false] rfl rfl (by kernel_rfl) (fun _ _ _ h => h) (Or.inl ⟨by rfl, ?_⟩) ?_ ?_
  rotate_left
  · intro w'
    go_simp
    with_reducible rfl
  rotate_left
  · simp only [Act.put, List.setIfInBounds_toArray, List.set_cons_zero, List.set_cons_succ, i64_w, i32_w]
    rfl
  refine pure_ (i := 1) (N := some 21) (v := ?_) (a' := ?_) #[true, true, false, false, false] rfl rfl (by kernel_rfl) (fun _ _ _ h => h) (Or.inl ⟨by rfl, ?_⟩) ?_ ?_
  rotate_left
  · intro w'
    go_simp
    with_reducible rfl
  rotate_left
  · simp only [Act.put, List.setIfInBounds_toArray, List.set_cons_zero, List.set_cons_succ, i64_w, i32_w]
    rfl
  refine take_ (i := 2) (N := some 22) (v := ?_) (a' := ?_) #[true, true, true, false, false] rfl rfl (by kernel_rfl) (fun _ _ _ h => h) (Or.inl ⟨by rfl, ?_⟩) hHeld ?_ ?_
  rotate_left
  · rintro w' s0
    go_simp
    with_reducible rfl
  rotate_left
  · simp only [Act.put, List.setIfInBounds_toArray, List.set_cons_zero, List.set_cons_succ, i64_w, i32_w]
    rfl
  refine pure_ (i := 3) (N := some 23) (v := ?_) (a' := ?_) #[true, true, true, true, false] rfl rfl (by kernel_rfl) (fun _ _ _ h => h) (Or.inl ⟨by rfl, ?_⟩) ?_ ?_
  rotate_left
  · intro w'
    go_simp
    with_reducible rfl
  rotate_left
  · simp only [Act.put, List.setIfInBounds_toArray, List.set_cons_zero, List.set_cons_succ, i64_w, i32_w]
    rfl
  refine last_ (i := 4) (N := some 24) #[true, true, true, true, true] rfl rfl (by kernel_rfl) (by decide) (fun K hK => ?_)
  refine goes_ Try.func88 (by kernel_rfl) rfl #[.slice (some ⟨g3, 0, none⟩) 64 64, .int .i64 12, .int .i64 4, .int .u64 b] (by rfl) rfl rfl (by (try simp only [List.map_toArray, List.map_cons, List.map_nil]); first | done | rfl) ?_
  refine (put_box (l := fc4 q kd a) 12 4 H120.out.below (H120.out.at_ _ (List.mem_cons_self ..)).1 H120.out.gt0 (by have := HBb.out; omega) (by decide) (by show 12 + 4 ≤ 64; decide) (by show 64 ≤ 4611686018427387904; decide) (by show 0 < 64; decide)).mono ?_
  rintro e w121 ⟨rfl, hb21, hS21⟩
  refine ⟨_, rfl, ?_⟩
  have H122 := Aside0.mk (H120.out.wr0 (cs' := (bytesV (fc5 q kd a b)).toArray) hb21 hS21)
  clear hb21 hS21 H120
  refine hK.out _ _ ?_
  clear hK K
  refine done_ (by kernel_rfl) ?_
  try dsimp only
  try go_wp2
  have H124 := Aside0.mk H122.out.drew
  refine start_ (n := 5) (S := fun w' => True) (ds := [4]) #[false, false, false, false, false] (by kernel_rfl) rfl rfl trivial (fun hHeld => ?_)
  clear H122
  generalize w121.drew = w123 at H124 hHeld ⊢
  refine pure_ (i := 0) (N := some 25) (v := ?_) (a' := ?_) #[true, false, false, false, false] rfl rfl (by kernel_rfl) (fun _ _ _ h => h) (Or.inl ⟨by rfl, ?_⟩) ?_ ?_
  rotate_left
  · intro w'
    go_simp
    with_reducible rfl
  rotate_left
  · simp only [Act.put, List.setIfInBounds_toArray, List.set_cons_zero, List.set_cons_succ, i64_w, i32_w]
    rfl
  refine pure_ (i := 1) (N := some 26) (v := ?_) (a' := ?_) #[true, true, false, false, false] rfl rfl (by kernel_rfl) (fun _ _ _ h => h) (Or.inl ⟨by rfl, ?_⟩) ?_ ?_
  rotate_left
  · intro w'
    go_simp
    with_reducible rfl
  rotate_left
  · simp only [Act.put, List.setIfInBounds_toArray, List.set_cons_zero, List.set_cons_succ, i64_w, i32_w]
    rfl
  refine one_ (i := 2) (N := some 27) #[true, true, true, false, false] rfl rfl (by kernel_rfl) (by decide) (fun K hK => ?_)
  refine goes_ Try.func89 (by kernel_rfl) rfl #[.slice (some ⟨g3, 0, none⟩) 56 64] (by rfl) rfl rfl (by (try simp only [List.map_toArray, List.map_cons, List.map_nil]); first | done | rfl) ?_
  have hCh : Kd.C (Kd.int .u8) w123 (some ⟨g3, 0, none⟩) (frameHead q kd a b).length (frameHead q kd a b) := by
    have h1 := Kd.reads_of_C (enc := Value.int .u8) (d := (0 : Int)) (h1 := fun _ => rfl) (Kd.R_reads' (R_arr (base := 0) (l := fc5 q kd a b) H124.out.gt0 (Nat.zero_le _) (by show 64 ≤ 9223372036854775807; decide))).2.2
    have h2 := h1.take_ 56 (by show 56 ≤ 64; decide)
    rw [fc5_head] at h2
    exact Kd.C_of_reads (h1 := fun _ => rfl) h2
  refine (impl_Crc32.calls kc _ 64 (frameHead q kd a b) c _ hCh (by show 56 ≤ 64; decide) HKC.out).mono ?_
  rintro e w125 ⟨rfl, hd_⟩
  refine ⟨_, rfl, ?_⟩
  have hb_ := hd_.below
  clear hd_ hCh
  have H126 := Aside0.mk (H124.out.step hb_)
  clear hb_ H124
  refine hK.out _ _ trivial (fun hHeld => ?_)
  clear hK K
  refine norm_ (a' := ?_) ?_ ?_
  rotate_left
  · show Act.put _ (some 27) _ = _
    simp only [Act.put, List.setIfInBounds_toArray, List.set_cons_zero, List.set_cons_succ, i64_w, i32_w]
    rfl
  refine pure_ (i := 3) (N := some 28) (v := ?_) (a' := ?_) #[true, true, true, true, false] rfl rfl (by kernel_rfl) (fun _ _ _ h => h) (Or.inl ⟨by rfl, ?_⟩) ?_ ?_
  rotate_left
  · intro w'
    go_simp
    with_reducible rfl
  rotate_left
  · simp only [Act.put, List.setIfInBounds_toArray, List.set_cons_zero, List.set_cons_succ, i64_w, i32_w]
    rfl
  refine last_ (i := 4) (N := some 29) #[true, true, true, true, true] rfl rfl (by kernel_rfl) (by decide) (fun K hK => ?_)
  refine goes_ Try.func88 (by kernel_rfl) rfl #[.slice (some ⟨g3, 0, none⟩) 64 64, .int .i64 56, .int .i64 4, .int .u64 c] (by rfl) rfl rfl (by (try simp only [List.map_toArray, List.map_cons, List.map_nil]); first | done | rfl) ?_
  refine (put_box (l := fc5 q kd a b) 56 4 H126.out.below (H126.out.at_ _ (List.mem_cons_self ..)).1 H126.out.gt0 (by have := HCr.out; omega) (by decide) (by show 56 + 4 ≤ 64; decide) (by show 64 ≤ 4611686018427387904; decide) (by show 0 < 64; decide)).mono ?_
  rintro e w127 ⟨rfl, hb27, hS27⟩
  refine ⟨_, rfl, ?_⟩
  have H128 := Aside0.mk (H126.out.wr0 (cs' := (bytesV (fc6 q kd a b c)).toArray) hb27 hS27)
  clear hb27 hS27 H126
  refine hK.out _ _ ?_
  clear hK K
  refine done_ (by kernel_rfl) ?_
  try dsimp only
  try go_wp2
  have H130 := Aside0.mk H128.out.drew
  refine start_ (n := 5) (S := fun w' => w'.cell? ⟨g1, 0, none⟩ = some (.int .u32 q)) (ds := [4]) #[false, false, false, false, false] (by kernel_rfl) rfl rfl ((blk_cell H130.out.gt2 0).trans rfl) (fun hHeld => ?_)
  clear H128
  generalize w127.drew = w129 at H130 hHeld ⊢
  refine pure_ (i := 0) (N := some 30) (v := ?_) (a' := ?_) #[true, false, false, false, false] rfl rfl (by kernel_rfl) (fun _ _ _ h => h) (Or.inl ⟨by rfl, ?_⟩) ?_ ?_
  rotate_left
  · intro w'
    go_simp
    with_reducible rfl
  rotate_left
  · simp only [Act.put, List.setIfInBounds_toArray, List.set_cons_zero, List.set_cons_succ, i64_w, i32_w]
    rfl
  refine pure_ (i := 1) (N := some 31) (v := ?_) (a' := ?_) #[true, true, false, false, false] rfl rfl (by kernel_rfl) (fun _ _ _ h => h) (Or.inl ⟨by rfl, ?_⟩) ?_ ?_
  rotate_left
  · intro w'
    go_simp
    with_reducible rfl
  rotate_left
  · simp only [Act.put, List.setIfInBounds_toArray, List.set_cons_zero, List.set_cons_succ, i64_w, i32_w]
    rfl
  refine take_ (i := 2) (N := some 32) (v := ?_) (a' := ?_) #[true, true, true, false, false] rfl rfl (by kernel_rfl) (fun _ _ _ h => h) (Or.inl ⟨by rfl, ?_⟩) hHeld ?_ ?_
  rotate_left
  · rintro w' s0
    go_simp
    with_reducible rfl
  rotate_left
  · simp only [Act.put, List.setIfInBounds_toArray, List.set_cons_zero, List.set_cons_succ, i64_w, i32_w]
    rfl
  refine pure_ (i := 3) (N := some 33) (v := ?_) (a' := ?_) #[true, true, true, true, false] rfl rfl (by kernel_rfl) (fun _ _ _ h => h) (Or.inl ⟨by rfl, ?_⟩) ?_ ?_
  rotate_left
  · intro w'
    go_simp
    with_reducible rfl
  rotate_left
  · simp only [Act.put, List.setIfInBounds_toArray, List.set_cons_zero, List.set_cons_succ, i64_w, i32_w]
    rfl
  refine last_ (i := 4) (N := some 34) #[true, true, true, true, true] rfl rfl (by kernel_rfl) (by decide) (fun K hK => ?_)
  refine goes_ Try.func88 (by kernel_rfl) rfl #[.slice (some ⟨g3, 0, none⟩) 64 64, .int .i64 60, .int .i64 4, .int .u64 q] (by rfl) rfl rfl (by (try simp only [List.map_toArray, List.map_cons, List.map_nil]); first | done | rfl) ?_
  refine (put_box (l := fc6 q kd a b c) 60 4 H130.out.below (H130.out.at_ _ (List.mem_cons_self ..)).1 H130.out.gt0 (by have := HQ.out; omega) (by decide) (by show 60 + 4 ≤ 64; decide) (by show 64 ≤ 4611686018427387904; decide) (by show 0 < 64; decide)).mono ?_
  rintro e w131 ⟨rfl, hb31, hS31⟩
  refine ⟨_, rfl, ?_⟩
  have H132 := Aside0.mk (H130.out.wr0 (cs' := (bytesV (fc7 q kd a b c)).toArray) hb31 hS31)
  clear hb31 hS31 H130
  refine hK.out _ _ ?_
  clear hK K
  refine done_ (by kernel_rfl) ?_
  try dsimp only
  go_wp2_with (first | ((with_reducible refine gate_dst (N := 35) rfl ?_); refine Aside0.out ?_))
  refine Aside0.mk ?_
  refine ld ?hw33 rfl ?hx33 H132.out.gt0 Try.underlying79 rfl (by rw [List.size_toArray, bytesV_length, show (fc7 q kd a b c).length = 64 from rfl]; kernel_rfl) ?_
  case hw33 => rfl
  case hx33 => rfl
  go_wp2_with (first | ((with_reducible refine gate_store (t := 79) (p := 2) rfl ?_); refine Aside0.out ?_))
  refine Aside0.mk ?_
  refine st_all ?hw34 ?hN34 rfl ?hp34 (cs := (bytesV (fc7 q kd a b c)).toArray) ?hx34 H132.out.gt1 (by rw [List.size_toArray, bytesV_length, show (fc7 q kd a b c).length = 64 from rfl]; kernel_rfl) (by rw [List.size_toArray, List.size_toArray, bytesV_length, bytesV_length]; rfl) (bytesV_one _) ?_
  case hw34 => rfl
  case hN34 => rfl
  case hp34 => rfl
  case hx34 => rfl
  intro w134 hb34 hS34
  have H135 := Aside0.mk (H132.out.wr1 (cs' := (bytesV (fc7 q kd a b c)).toArray) hb34 hS34)
  clear hb34 hS34 H132
  go_wp2
  refine bodyPost_ret (results_cell_row rfl _ _ g2 79 (bytesV (fc7 q kd a b c)).toArray (0, 0) _ rfl H135.out.gt1 Try.underlying79 rfl (by rw [List.size_toArray, bytesV_length, show (fc7 q kd a b c).length = 64 from rfl]; kernel_rfl)) rfl ?_
  exact ⟨by rw [HC.out, fc7_code], H135.out.below⟩
/-- What EncodeFrame answers. -/
def impl_EncodeFrame.f (a0_0 : Int) (a0_1 : Int) (a0_2 : Int) (a0_3 : Int) : Option (List Int) :=
  if (0 ≤ a0_0 ∧ a0_0 ≤ 4294967295) ∧ (0 ≤ a0_2 ∧ a0_2 ≤ 4294967295) ∧ (0 ≤ a0_3 ∧ a0_3 ≤ 4294967295) then some (if 1 ≤ a0_1 ∧ a0_1 ≤ 3 then frameCode a0_0 a0_1 a0_2 a0_3 else []) else none
set_option maxHeartbeats 8000000 in
set_option maxRecDepth 100000 in
theorem impl_EncodeFrame.calls (a0_0 : Int) (a0_1 : Int) (a0_2 : Int) (a0_3 : Int) (r : List Int) (w : World) (h : impl_EncodeFrame.f a0_0 a0_1 a0_2 a0_3 = some r) :
    Calls Try.prog 13 #[.agg #[.int .u32 a0_0, .int .i64 a0_1, .int .u32 a0_2, .int .u32 a0_3]] w fun e w' => ∃ v0_ : Value, e = .returned (v0_) ∧ Kd.R (Kd.int .u8) 79 w' w.heap.size (fun _ => True) v0_ r ∧ Below w.heap.size w w' := by
  unfold impl_EncodeFrame.f at h
  by_cases hsz : (0 ≤ a0_0 ∧ a0_0 ≤ 4294967295) ∧ (0 ≤ a0_2 ∧ a0_2 ≤ 4294967295) ∧ (0 ≤ a0_3 ∧ a0_3 ≤ 4294967295)
  case neg => rw [if_neg hsz] at h; cases h
  rw [if_pos hsz] at h
  have h := Option.some.inj h
  have HSz := Aside0.mk hsz
  have H := Aside0.mk h
  have H0 := Aside0.mk (Bx.refl w)
  have hgd : impl_Frame_good.f a0_0 a0_1 a0_2 a0_3 = some (decide (1 ≤ a0_1 ∧ a0_1 ≤ 3)) := by
    unfold impl_Frame_good.f
    by_cases c1 : a0_1 ≥ 1
    · rw [if_pos c1]; congr 1; apply decide_eq_decide.2; omega
    · rw [if_neg c1, decide_eq_false (by omega)]
  have HGd := Aside0.mk hgd
  clear hsz h hgd
  go_enter Try.func13, Try.ntmps13
  go_wp2_with (first | ((with_reducible refine gate_dst (N := 1) rfl ?_); refine Aside0.out ?_))
  refine Aside0.mk ?_
  refine mk ?hw1 (N := 1) ?hd1 (cs := #[.int .u32 a0_0, .int .i64 a0_1, .int .u32 a0_2, .int .u32 a0_3]) (t := 27) ?hr1 ?_
  case hd1 => rfl
  case hw1 => rfl
  case hr1 => first | (go_simp; done) | (go_simp; rfl)
  intro g1 hg1_ w101 hb1 hB1
  have H102 := Aside0.mk (H0.out.new hg1_ hb1 hB1)
  clear hg1_ hb1 hB1 H0
  go_wp2_with (first | ((with_reducible refine gate_dst (N := 4) rfl ?_); refine Aside0.out ?_))
  refine Aside0.mk ?_
  refine ld ?hw3 rfl ?hx3 H102.out.gt0 Try.underlying27 rfl (by kernel_rfl) ?_
  case hw3 => rfl
  case hx3 => rfl
  go_wp2_with (first | ((with_reducible refine gate_callee (f := 51) rfl ?_); refine Aside0.out ?_))
  refine Aside0.mk ?_
  refine goesW (some 5) rfl ?hw4 Try.func51 (by kernel_rfl) rfl #[.agg #[.int .u32 a0_0, .int .i64 a0_1, .int .u32 a0_2, .int .u32 a0_3]] rfl (by (try simp only [List.map_toArray, List.map_cons, List.map_nil]); first | done | rfl) ?_
  case hw4 => rfl
  refine (impl_Frame_good.calls a0_0 a0_1 a0_2 a0_3 _ _ HGd.out).mono ?_
  rintro e w104 ⟨rfl, hb_⟩
  refine ⟨_, rfl, ?_⟩
  have H105 := Aside0.mk (H102.out.step hb_)
  clear hb_ H102
  by_cases hk : 1 ≤ a0_1 ∧ a0_1 ≤ 3
  · rw [decide_eq_true hk]
    have h := H.out
    rw [if_pos hk] at h
    subst h
    clear hk H
    go_wp2_with (first | ((with_reducible refine gate_dst (N := 7) rfl ?_); refine Aside0.out ?_))
    refine Aside0.mk ?_
    refine ld ?hw6 rfl ?hx6 H105.out.gt0 Try.underlying27 rfl (by kernel_rfl) ?_
    case hw6 => rfl
    case hx6 => rfl
    go_wp2_with (first | ((with_reducible refine gate_callee (f := 52) rfl ?_); refine Aside0.out ?_))
    refine Aside0.mk ?_
    refine goesW (some 8) rfl ?hw7 Try.func52 (by kernel_rfl) rfl #[.agg #[.int .u32 a0_0, .int .i64 a0_1, .int .u32 a0_2, .int .u32 a0_3]] rfl (by (try simp only [List.map_toArray, List.map_cons, List.map_nil]); first | done | rfl) ?_
    case hw7 => rfl
    refine (code_calls HSz.out.1 HSz.out.2.1 HSz.out.2.2).mono ?_
    rintro e w107 ⟨rfl, hb_⟩
    refine ⟨_, rfl, ?_⟩
    have H108 := Aside0.mk (H105.out.step hb_)
    clear hb_ H105
    go_wp2_with (first | ((with_reducible refine gate_dst (N := 3) rfl ?_); refine Aside0.out ?_))
    refine Aside0.mk ?_
    refine mk ?hw9 (N := 3) ?hd9 (cs := (bytesV fc0).toArray) (t := 79) ?hr9 ?_
    case hd9 => rfl
    case hw9 => rfl
    case hr9 => first | (go_simp; done) | (go_simp; rfl)
    intro g3 hg3_ w109 hb9 hB9
    have H110 := Aside0.mk (H108.out.new hg3_ hb9 hB9)
    clear hg3_ hb9 hB9 H108
    go_wp2_with (first | ((with_reducible refine gate_store (t := 79) (p := 3) rfl ?_); refine Aside0.out ?_))
    refine Aside0.mk ?_
    refine st_all ?hw11 ?hN11 rfl ?hp11 (cs := (bytesV (frameCode a0_0 a0_1 a0_2 a0_3)).toArray) ?hx11 H110.out.gt0 (by rw [List.size_toArray, bytesV_length, frameCode_length]; kernel_rfl) (by rw [List.size_toArray, List.size_toArray, bytesV_length, bytesV_length]; rfl) (bytesV_one _) ?_
    case hw11 => rfl
    case hN11 => rfl
    case hp11 => rfl
    case hx11 => rfl
    intro w111 hb11 hS11
    have H112 := Aside0.mk (H110.out.wr0 (cs' := (bytesV (frameCode a0_0 a0_1 a0_2 a0_3)).toArray) hb11 hS11)
    clear hb11 hS11 H110
    go_wp2
    go_ret
    exact ⟨_, rfl, R_arr (l := frameCode a0_0 a0_1 a0_2 a0_3) H112.out.gt0 (H112.out.at_ _ (List.mem_cons_self ..)).1 (by rw [frameCode_length]; decide), H112.out.below⟩
  · rw [decide_eq_false hk]
    have h := H.out
    rw [if_neg hk] at h
    subst h
    go_wp2
    go_ret
    exact ⟨_, rfl, Kd.R_nil _ _ _ _ _, H105.out.below⟩
end Go.Proofs.Ytgfadfahbhcllaa.Q
namespace Go.Proofs.Ytgfadfahbhcllaa.Q
open Go.RowKit Go.Proofs.YtgfadfahbhcllaaW.PrintWords Go.Proofs.YtgfadfahbhcllaaW.PrintLast Go.Proofs.Ytgfadfahbhcllaa.LK Go.Proofs.YtgfadfahbhcllaaW.PrintMore
attribute [local go_sem] max2_int min2_int max_two min_two max_three min_three max_four min_four   -- for this text's walks alone
set_option linter.unusedVariables false
set_option linter.unusedSimpArgs false

/-! ### spec_l2Four: function 48 -/
def spec_l2Four.f (a0 : Int) : Option (List Int) := some (([(Int.tmod a0 256) % 256, ((Int.tdiv a0 256) % 4294967296) % 256, ((Int.tdiv a0 65536) % 4294967296) % 256, ((Int.tdiv a0 16777216) % 4294967296) % 256] : List Int))
set_option maxHeartbeats 8000000 in
set_option maxRecDepth 100000 in
theorem spec_l2Four.calls (a0 : Int) (r : List Int) (w : World) (h : spec_l2Four.f a0 = some r) :
    Calls Try.prog 48 #[.int .u32 a0] w fun e w' => ∃ v0_ : Value, e = .returned (v0_) ∧ Kd.R (Kd.int .u8) 5 w' w.heap.size (fun _ => True) v0_ r ∧ Below w.heap.size w w' := by
  have HB := Aside0.mk (Below.refl w.heap.size w)
  have H : (some (([(Int.tmod a0 256) % 256, ((Int.tdiv a0 256) % 4294967296) % 256, ((Int.tdiv a0 65536) % 4294967296) % 256, ((Int.tdiv a0 16777216) % 4294967296) % 256] : List Int))) = some r := h
  clear h
  obtain ⟨y101, hy101⟩ : ∃ y_ : List Int, y_ = (([(Int.tmod a0 256) % 256, ((Int.tdiv a0 256) % 4294967296) % 256, ((Int.tdiv a0 65536) % 4294967296) % 256, ((Int.tdiv a0 16777216) % 4294967296) % 256] : List Int)) := ⟨_, rfl⟩
  replace H : (some y101) = some r := by first | (rw [hy101]; with_reducible exact H) | (have H2_ := (Option.bind_some _ _).symm.trans H; rw [hy101]; with_reducible exact H2_) | (have H2_ := (Option.bind_some _ _).symm.trans H; with_reducible exact H2_) | with_reducible exact H | (rw [hy101]; exact H) | exact H
  have Ny101 := Aside0.mk hy101
  clear hy101
  obtain rfl := Option.some.inj H
  go_enter Try.func48, Try.ntmps48
  go_wp2_with (first | ((with_reducible refine gate_dst (N := 17) rfl ?_); refine Kd.R_lit (Kd.int .u8) _ 5 ?hg (N := 17) ?hd (xs := ([(Int.tmod a0 256) % 256, ((Int.tdiv a0 256) % 4294967296) % 256, ((Int.tdiv a0 65536) % 4294967296) % 256, ((Int.tdiv a0 16777216) % 4294967296) % 256] : List Int)) (inner := [.int .u8 ((Int.tmod a0 256) % 256), .int .u8 (((Int.tdiv a0 256) % 4294967296) % 256), .int .u8 (((Int.tdiv a0 65536) % 4294967296) % 256), .int .u8 (((Int.tdiv a0 16777216) % 4294967296) % 256)]) (ok := fun _ => True) (okp := fun _ => True) ?hr ?hp (fun _ hk => hk) trivial (Below.refl _ _) (Nat.le_refl _) (by simp) ?_; (case hd => rfl); (case hg => rfl); (case hr => first | (go_simp; done) | (go_simp; rfl)); (case hp => exact (Reps.one (show Kd.M (Kd.int .u8) _ _ _ ((Int.tmod a0 256) % 256) [.int .u8 ((Int.tmod a0 256) % 256)] from rfl) (Reps.one (show Kd.M (Kd.int .u8) _ _ _ (((Int.tdiv a0 256) % 4294967296) % 256) [.int .u8 (((Int.tdiv a0 256) % 4294967296) % 256)] from rfl) (Reps.one (show Kd.M (Kd.int .u8) _ _ _ (((Int.tdiv a0 65536) % 4294967296) % 256) [.int .u8 (((Int.tdiv a0 65536) % 4294967296) % 256)] from rfl) (Reps.one (show Kd.M (Kd.int .u8) _ _ _ (((Int.tdiv a0 16777216) % 4294967296) % 256) [.int .u8 (((Int.tdiv a0 16777216) % 4294967296) % 256)] from rfl) (Reps.none _ _)))))); intro v102 w2 ho3 hb hg_ hnew_; clear hg_ hnew_; (first | rw [← Ny101.out] at ho3 | (simp only [Int.reduceToNat] at ho3; rw [← Ny101.out] at ho3)); have n0_ := Aside0.mk (Kd.R_lower ho3 (below_size (by repeat (first | (with_reducible first | exact HB.out | apply below_alloc | apply pw_below_drewN | apply below_drew1) | exact HB.out)))); have n1_ := Aside0.mk (below_step (by repeat (first | (with_reducible first | exact HB.out | apply below_alloc | apply pw_below_drewN | apply below_drew1) | exact HB.out)) hb); clear HB; have HO103 := n0_; have HB := n1_; clear n0_ n1_; clear hb ho3))
  go_ret
  exact ⟨_, by first | rfl | (simp [errW_none, errW_some] <;> rfl) | (simp [*, errW_none, errW_some] <;> rfl), by (with_reducible repeat (first | apply Kd.R_alloc | apply Kd.R_drewN | apply Kd.R_drew)); exact HO103.out, by repeat (first | (with_reducible first | exact HB.out | apply below_alloc | apply pw_below_drewN | apply below_drew1) | exact HB.out)⟩

end Go.Proofs.Ytgfadfahbhcllaa.Q
namespace Go.Proofs.Ytgfadfahbhcllaa.Q
open Go.RowKit Go.Proofs.YtgfadfahbhcllaaW.PrintWords Go.Proofs.YtgfadfahbhcllaaW.PrintLast Go.Proofs.Ytgfadfahbhcllaa.LK Go.Proofs.YtgfadfahbhcllaaW.PrintMore
attribute [local go_sem] max2_int min2_int max_two min_two max_three min_three max_four min_four   -- for this text's walks alone
set_option linter.unusedVariables false
set_option linter.unusedSimpArgs false

/-! ### spec_l2Cat: function 47 -/
def spec_l2Cat.l0 : Nat → List (List Int) → List Int → Int → Option (List Int)
  | 0, _, _, _ => none
  | k + 1, x0, x3, x4 => if x4 < (x0.length : Int) then (if 0 ≤ x4 then (if x3.length + (rd_L1 x0 x4).length < 140737488355328 then (spec_l2Cat.l0 k x0 (x3 ++ (rd_L1 x0 x4)) (wrap64 (x4 + 1))) else (none)) else (none)) else (some x3)
def spec_l2Cat.f (k : Nat) (l0 : List (List Int)) : Option (List Int) := spec_l2Cat.l0 k l0 (([] : List Int)) 0
theorem spec_l2Cat.mono_l : ∀ k, (∀ y0 y1 y2, LeO (spec_l2Cat.l0 k y0 y1 y2) (spec_l2Cat.l0 (k + 1) y0 y1 y2))
  | 0 => fun _ _ _ r h => by simp [spec_l2Cat.l0] at h
  | k + 1 => by
    have ih0 := spec_l2Cat.mono_l k
    · intro y0 y1 y2
      unfold spec_l2Cat.l0
      repeat' first
      | (with_reducible exact ih0 _ _ _)
      | (with_reducible exact LeO.refl _)
      | (with_reducible exact LeO.none _)
      | (with_reducible refine LeO.ite ?_ ?_)
      | (with_reducible refine LeO.bind ?_ (fun _ => ?_))
      | exact ih0 _ _ _
      | exact LeO.none _
      | refine LeO.ite ?_ ?_
      | refine LeO.bind ?_ (fun _ => ?_)
theorem spec_l2Cat.mono : ∀ a0 k, LeO (spec_l2Cat.f k a0) (spec_l2Cat.f (k + 1) a0) := by
  intro a0 k
  have ih0 := spec_l2Cat.mono_l k
  unfold spec_l2Cat.f
  repeat' first
      | (with_reducible exact ih0 _ _ _)
      | (with_reducible exact LeO.refl _)
      | (with_reducible exact LeO.none _)
      | (with_reducible refine LeO.ite ?_ ?_)
      | (with_reducible refine LeO.bind ?_ (fun _ => ?_))
      | exact ih0 _ _ _
      | exact LeO.none _
      | refine LeO.ite ?_ ?_
      | refine LeO.bind ?_ (fun _ => ?_)
set_option maxHeartbeats 8000000 in
set_option maxRecDepth 100000 in
theorem spec_l2Cat.calls (k : Nat) (A0 : Option Addr) (c0 : Nat) (l0 : List (List Int)) (r : List Int) (w : World) (hr0 : Kd.C (Kd.slice 5 (Kd.int .u8)) w A0 l0.length l0) (hc0 : l0.length ≤ c0) (h : spec_l2Cat.f k l0 = some r) :
    Calls Try.prog 47 #[.slice A0 l0.length c0] w fun e w' => ∃ v0_ : Value, e = .returned (v0_) ∧ Kd.R (Kd.int .u8) 5 w' w.heap.size (fun _ => True) v0_ r ∧ Below w.heap.size w w' := by
  have HR0 := Aside0.mk hr0
  have HC0 := Aside0.mk hc0
  clear hr0 hc0
  have HB := Aside0.mk (Below.refl w.heap.size w)
  have H : (spec_l2Cat.l0 k l0 (([] : List Int)) 0) = some r := h
  clear h
  obtain ⟨y101, hy101⟩ : ∃ y_ : List Int, y_ = (([] : List Int)) := ⟨_, rfl⟩
  replace H : (spec_l2Cat.l0 k l0 y101 0) = some r := by first | (rw [hy101]; with_reducible exact H) | (have H2_ := (Option.bind_some _ _).symm.trans H; rw [hy101]; with_reducible exact H2_) | (have H2_ := (Option.bind_some _ _).symm.trans H; with_reducible exact H2_) | with_reducible exact H | (rw [hy101]; exact H) | exact H
  have Ny101 := Aside0.mk hy101
  clear hy101
  have H' := Aside0.mk H
  clear H
  go_enter Try.func47, Try.ntmps47
  go_wp2_with (first | ((with_reducible refine gate_dst (N := 5) rfl ?_); refine Kd.R_lit (Kd.int .u8) _ 5 ?hg (N := 5) ?hd (xs := ([] : List Int)) (inner := []) (ok := fun _ => True) (okp := fun _ => True) ?hr ?hp (fun _ hk => hk) trivial (Below.refl _ _) (Nat.le_refl _) (by simp) ?_; (case hd => rfl); (case hg => rfl); (case hr => first | (go_simp; done) | (go_simp; rfl)); (case hp => exact (Reps.none _ _)); intro v102 w2 ho3 hb hg_ hnew_; clear hg_ hnew_; (first | rw [← Ny101.out] at ho3 | (simp only [Int.reduceToNat] at ho3; rw [← Ny101.out] at ho3)); have n0_ := Aside0.mk (Kd.R_lower ho3 (below_size (by repeat (first | (with_reducible first | exact HB.out | apply below_alloc | apply pw_below_drewN | apply below_drew1) | exact HB.out)))); have n1_ := Aside0.mk (below_step (by repeat (first | (with_reducible first | exact HB.out | apply below_alloc | apply pw_below_drewN | apply below_drew1) | exact HB.out)) hb); clear HB; have HO103 := n0_; have HB := n1_; clear n0_ n1_; clear hb ho3))
  go_loopg [3, 4] k (fun kq v3 v4 w' => ∃ (x3_1 : List Int) (x4_1 : Int), v4 = .int .i64 x4_1 ∧ Aside0 (spec_l2Cat.l0 kq l0 x3_1 x4_1 = some r) ∧ Aside0 (kq ≤ k) ∧ Aside0 (Kd.R (Kd.int .u8) 5 w' w.heap.size (fun _ => True) v3 x3_1) ∧ Aside0 (Below w.heap.size w w'))
  case atStart => exact ⟨(y101), (0), (by first | rfl | (simp; done) | (simp [*]; done)), H', ⟨Nat.le_refl _⟩, ⟨by (with_reducible repeat (first | apply Kd.R_alloc | apply Kd.R_drewN | apply Kd.R_drew)); exact HO103.out⟩, ⟨by repeat (first | (with_reducible first | exact HB.out | apply below_alloc | apply pw_below_drewN | apply below_drew1) | exact HB.out)⟩⟩
  case round =>
    clear H'
    try clear p2
    obtain ⟨x3_1, x4_1, rfl, HA, HK1, HO_3, HB⟩ := hrel
    cases gk with
    | zero => exact absurd HA.out (by simp [spec_l2Cat.l0])
    | succ k1 =>
      have H := HA.out
      clear HA
      simp only [spec_l2Cat.l0] at H
      by_cases c4 : x4_1 < (l0.length : Int)
      · rw [if_pos c4] at H
        have c4b0 : decide (x4_1 < (l0.length : Int)) = true := decide_eq_true c4
        clear c4
        by_cases c5 : 0 ≤ x4_1
        · rw [if_pos c5] at H
          have c5b0 : decide (0 ≤ x4_1) = true := decide_eq_true c5
          clear c5
          by_cases c6 : x3_1.length + (rd_L1 l0 x4_1).length < 140737488355328
          · rw [if_pos c6] at H
            have LMc6 := Aside0.mk c6
            clear c6
            obtain ⟨y105, hy105⟩ : ∃ y_ : List Int, y_ = (x3_1 ++ (rd_L1 l0 x4_1)) := ⟨_, rfl⟩
            replace H : (spec_l2Cat.l0 k1 l0 y105 (wrap64 (x4_1 + 1))) = some r := by first | (rw [hy105]; with_reducible exact H) | (have H2_ := (Option.bind_some _ _).symm.trans H; rw [hy105]; with_reducible exact H2_) | (have H2_ := (Option.bind_some _ _).symm.trans H; with_reducible exact H2_) | with_reducible exact H | (rw [hy105]; exact H) | exact H
            have Ny105 := Aside0.mk hy105
            clear hy105
            have H' := Aside0.mk H
            clear H
            have p104 : 0 ≤ (x4_1 : Int) := of_decide_eq_true (by first | (with_reducible assumption) | assumption)
            have q104 : x4_1 < (l0.length : Int) := of_decide_eq_true (by first | (with_reducible assumption) | assumption)
            obtain ⟨ad104, A104_0, c104_0, e104, hx104_0, hl104_0, hi104_0⟩ := at_L1 HR0.out x4_1 p104 q104
            cases e104
            replace hx104_0 := (HB.out.cell (World.block_lt_of_cell? w _ hx104_0)).trans hx104_0
            have HR104_0 := Aside0.mk hi104_0
            have HC104_0 := Aside0.mk hl104_0
            clear hi104_0 hl104_0
            replace p104 := eq_true p104
            replace q104 := eq_true q104
            go_wp2_with (first | ((with_reducible refine gate_builtin (b := .append) (xs := #[.tmp 12, .tmp 16]) rfl ?_); at_builtin; refine Kd.R_append_rows (Kd.int .u8) (w0 := w) w.heap.size rfl (.tmp 12) (.tmp 16) 25 5 (.int .u8 0) 1 rfl Try.underlying25 info5 rfl (by decide) (by omega) u3 x3_1 (rd_L1 l0 x4_1) _ _ _ (fun _ => True) (fun _ => False) rfl rfl ?aO ?aR (fun _ _ h => h) (fun _ h => h.elim) ?aF ?aB ?aS ?aL ?_; (case aR => repeat (first | exact (Kd.C_below HR104_0.out HB.out) | (with_reducible refine Kd.C_alloc ?_ _) | (with_reducible refine Kd.C_drewN ?_ _) | (with_reducible refine Kd.C_drew ?_))); (case aB => exact (by repeat (first | (with_reducible first | exact HB.out | apply below_alloc | apply pw_below_drewN | apply below_drew1) | exact HB.out))); (case aF => exact (fun _ _ => trivial)); (case aO => exact (by (with_reducible repeat (first | apply Kd.R_alloc | apply Kd.R_drewN | apply Kd.R_drew)); exact HO_3.out)); (case aS => exact (below_size (by repeat (first | (with_reducible first | exact HB.out | apply below_alloc | apply pw_below_drewN | apply below_drew1) | exact HB.out)))); (case aL => have := LMc6.out; omega); intro v106 w7 ho hb hg hat; rw [← Ny105.out] at ho; have n0_ := Aside0.mk (hb); have n1_ := Aside0.mk (ho); clear HB; clear HO_3; have HB := n0_; have HO107 := n1_; clear n0_ n1_; clear ho hb hg hat))
            go_roundg k1
            case measure => have := HK1.out; omega
            case rel => exact ⟨(y105), (wrap64 (x4_1 + 1)), (by first | rfl | (simp; done) | (simp [*]; done)), H', ⟨by have := HK1.out; omega⟩, ⟨by (with_reducible repeat (first | apply Kd.R_alloc | apply Kd.R_drewN | apply Kd.R_drew)); exact HO107.out⟩, ⟨by repeat (first | (with_reducible first | exact HB.out | apply below_alloc | apply pw_below_drewN | apply below_drew1) | exact HB.out)⟩⟩
          · rw [if_neg c6] at H
            exact absurd H (by simp)
        · rw [if_neg c5] at H
          exact absurd H (by simp)
      · rw [if_neg c4] at H
        have c4b0 : decide (x4_1 < (l0.length : Int)) = false := decide_eq_false c4
        clear c4
        obtain rfl := Option.some.inj H
        go_wp2
        go_ret
        exact ⟨_, by first | rfl | (simp [errW_none, errW_some] <;> rfl) | (simp [*, errW_none, errW_some] <;> rfl), by (with_reducible repeat (first | apply Kd.R_alloc | apply Kd.R_drewN | apply Kd.R_drew)); exact HO_3.out, by repeat (first | (with_reducible first | exact HB.out | apply below_alloc | apply pw_below_drewN | apply below_drew1) | exact HB.out)⟩

end Go.Proofs.Ytgfadfahbhcllaa.Q
namespace Go.Proofs.Ytgfadfahbhcllaa.Q
open Go.RowKit Go.Proofs.YtgfadfahbhcllaaW.PrintWords Go.Proofs.YtgfadfahbhcllaaW.PrintLast Go.Proofs.Ytgfadfahbhcllaa.LK Go.Proofs.YtgfadfahbhcllaaW.PrintMore
attribute [local go_sem] max2_int min2_int max_two min_two max_three min_three max_four min_four   -- for this text's walks alone
set_option linter.unusedVariables false
set_option linter.unusedSimpArgs false

/-! ### spec_l1Zeros: function 49 -/
def spec_l1Zeros.l0 : Nat → Int → List Int → Int → Option (List Int)
  | 0, _, _, _ => none
  | k + 1, x0, x3, x4 => if x4 < x0 then (if x3.length < 140737488355328 then (spec_l1Zeros.l0 k x0 (x3 ++ [0]) (wrap64 (x4 + 1))) else (none)) else (some x3)
def spec_l1Zeros.f (k : Nat) (a0 : Int) : Option (List Int) := spec_l1Zeros.l0 k a0 (([] : List Int)) 0
theorem spec_l1Zeros.mono_l : ∀ k, (∀ y0 y1 y2, LeO (spec_l1Zeros.l0 k y0 y1 y2) (spec_l1Zeros.l0 (k + 1) y0 y1 y2))
  | 0 => fun _ _ _ r h => by simp [spec_l1Zeros.l0] at h
  | k + 1 => by
    have ih0 := spec_l1Zeros.mono_l k
    · intro y0 y1 y2
      unfold spec_l1Zeros.l0
      repeat' first
      | (with_reducible exact ih0 _ _ _)
      | (with_reducible exact LeO.refl _)
      | (with_reducible exact LeO.none _)
      | (with_reducible refine LeO.ite ?_ ?_)
      | (with_reducible refine LeO.bind ?_ (fun _ => ?_))
      | exact ih0 _ _ _
      | exact LeO.none _
      | refine LeO.ite ?_ ?_
      | refine LeO.bind ?_ (fun _ => ?_)
theorem spec_l1Zeros.mono : ∀ a0 k, LeO (spec_l1Zeros.f k a0) (spec_l1Zeros.f (k + 1) a0) := by
  intro a0 k
  have ih0 := spec_l1Zeros.mono_l k
  unfold spec_l1Zeros.f
  repeat' first
      | (with_reducible exact ih0 _ _ _)
      | (with_reducible exact LeO.refl _)
      | (with_reducible exact LeO.none _)
      | (with_reducible refine LeO.ite ?_ ?_)
      | (with_reducible refine LeO.bind ?_ (fun _ => ?_))
      | exact ih0 _ _ _
      | exact LeO.none _
      | refine LeO.ite ?_ ?_
      | refine LeO.bind ?_ (fun _ => ?_)
set_option maxHeartbeats 8000000 in
set_option maxRecDepth 100000 in
theorem spec_l1Zeros.calls (k : Nat) (a0 : Int) (r : List Int) (w : World) (h : spec_l1Zeros.f k a0 = some r) :
    Calls Try.prog 49 #[.int .i64 a0] w fun e w' => ∃ v0_ : Value, e = .returned (v0_) ∧ Kd.R (Kd.int .u8) 5 w' w.heap.size (fun _ => True) v0_ r ∧ Below w.heap.size w w' := by
  have HB := Aside0.mk (Below.refl w.heap.size w)
  have H : (spec_l1Zeros.l0 k a0 (([] : List Int)) 0) = some r := h
  clear h
  obtain ⟨y101, hy101⟩ : ∃ y_ : List Int, y_ = (([] : List Int)) := ⟨_, rfl⟩
  replace H : (spec_l1Zeros.l0 k a0 y101 0) = some r := by first | (rw [hy101]; with_reducible exact H) | (have H2_ := (Option.bind_some _ _).symm.trans H; rw [hy101]; with_reducible exact H2_) | (have H2_ := (Option.bind_some _ _).symm.trans H; with_reducible exact H2_) | with_reducible exact H | (rw [hy101]; exact H) | exact H
  have Ny101 := Aside0.mk hy101
  clear hy101
  have H' := Aside0.mk H
  clear H
  go_enter Try.func49, Try.ntmps49
  go_wp2_with (first | ((with_reducible refine gate_dst (N := 5) rfl ?_); refine Kd.R_lit (Kd.int .u8) _ 5 ?hg (N := 5) ?hd (xs := ([] : List Int)) (inner := []) (ok := fun _ => True) (okp := fun _ => True) ?hr ?hp (fun _ hk => hk) trivial (Below.refl _ _) (Nat.le_refl _) (by simp) ?_; (case hd => rfl); (case hg => rfl); (case hr => first | (go_simp; done) | (go_simp; rfl)); (case hp => exact (Reps.none _ _)); intro v102 w2 ho3 hb hg_ hnew_; clear hg_ hnew_; (first | rw [← Ny101.out] at ho3 | (simp only [Int.reduceToNat] at ho3; rw [← Ny101.out] at ho3)); have n0_ := Aside0.mk (Kd.R_lower ho3 (below_size (by repeat (first | (with_reducible first | exact HB.out | apply below_alloc | apply pw_below_drewN | apply below_drew1) | exact HB.out)))); have n1_ := Aside0.mk (below_step (by repeat (first | (with_reducible first | exact HB.out | apply below_alloc | apply pw_below_drewN | apply below_drew1) | exact HB.out)) hb); clear HB; have HO103 := n0_; have HB := n1_; clear n0_ n1_; clear hb ho3))
  go_loopg [3, 4] k (fun kq v3 v4 w' => ∃ (x3_1 : List Int) (x4_1 : Int), v4 = .int .i64 x4_1 ∧ Aside0 (spec_l1Zeros.l0 kq a0 x3_1 x4_1 = some r) ∧ Aside0 (kq ≤ k) ∧ Aside0 (Kd.R (Kd.int .u8) 5 w' w.heap.size (fun _ => True) v3 x3_1) ∧ Aside0 (Below w.heap.size w w'))
  case atStart => exact ⟨(y101), (0), (by first | rfl | (simp; done) | (simp [*]; done)), H', ⟨Nat.le_refl _⟩, ⟨by (with_reducible repeat (first | apply Kd.R_alloc | apply Kd.R_drewN | apply Kd.R_drew)); exact HO103.out⟩, ⟨by repeat (first | (with_reducible first | exact HB.out | apply below_alloc | apply pw_below_drewN | apply below_drew1) | exact HB.out)⟩⟩
  case round =>
    clear H'
    try clear p2
    obtain ⟨x3_1, x4_1, rfl, HA, HK1, HO_3, HB⟩ := hrel
    cases gk with
    | zero => exact absurd HA.out (by simp [spec_l1Zeros.l0])
    | succ k1 =>
      have H := HA.out
      clear HA
      simp only [spec_l1Zeros.l0] at H
      by_cases c4 : x4_1 < a0
      · rw [if_pos c4] at H
        have c4b0 : decide (x4_1 < a0) = true := decide_eq_true c4
        clear c4
        by_cases c5 : x3_1.length < 140737488355328
        · rw [if_pos c5] at H
          have LMc5 := Aside0.mk c5
          clear c5
          obtain ⟨y104, hy104⟩ : ∃ y_ : List Int, y_ = (x3_1 ++ [0]) := ⟨_, rfl⟩
          replace H : (spec_l1Zeros.l0 k1 a0 y104 (wrap64 (x4_1 + 1))) = some r := by first | (rw [hy104]; with_reducible exact H) | (have H2_ := (Option.bind_some _ _).symm.trans H; rw [hy104]; with_reducible exact H2_) | (have H2_ := (Option.bind_some _ _).symm.trans H; with_reducible exact H2_) | with_reducible exact H | (rw [hy104]; exact H) | exact H
          have Ny104 := Aside0.mk hy104
          clear hy104
          have H' := Aside0.mk H
          clear H
          go_wp2_with (first | ((with_reducible refine gate_builtin (b := .append) (xs := #[.tmp 11, .tmp 12]) rfl ?_); at_builtin; refine Kd.R_append (Kd.int .u8) (w0 := w) w.heap.size rfl (.tmp 11) (.tmp 12) 25 5 (.int .u8 0) 1 rfl Try.underlying25 info5 rfl (by decide) (by omega) u3 x3_1 0 [.int .u8 0] (fun _ => True) (fun _ => False) rfl rfl ?aP (fun _ hk => hk.elim) ?aF ?aO ?aB ?aS ?aL ?_; (case aP => exact rfl); (case aB => exact (by repeat (first | (with_reducible first | exact HB.out | apply below_alloc | apply pw_below_drewN | apply below_drew1) | exact HB.out))); (case aF => exact (fun _ _ => trivial)); (case aO => exact (by (with_reducible repeat (first | apply Kd.R_alloc | apply Kd.R_drewN | apply Kd.R_drew)); exact HO_3.out)); (case aS => exact (below_size (by repeat (first | (with_reducible first | exact HB.out | apply below_alloc | apply pw_below_drewN | apply below_drew1) | exact HB.out)))); (case aL => have := LMc5.out; omega); intro v105 w6 ho hb hg hat; rw [← Ny104.out] at ho; have n0_ := Aside0.mk (hb); have n1_ := Aside0.mk (ho); clear HB; clear HO_3; have HB := n0_; have HO106 := n1_; clear n0_ n1_; clear ho hb hg hat))
          go_roundg k1
          case measure => have := HK1.out; omega
          case rel => exact ⟨(y104), (wrap64 (x4_1 + 1)), (by first | rfl | (simp; done) | (simp [*]; done)), H', ⟨by have := HK1.out; omega⟩, ⟨by (with_reducible repeat (first | apply Kd.R_alloc | apply Kd.R_drewN | apply Kd.R_drew)); exact HO106.out⟩, ⟨by repeat (first | (with_reducible first | exact HB.out | apply below_alloc | apply pw_below_drewN | apply below_drew1) | exact HB.out)⟩⟩
        · rw [if_neg c5] at H
          exact absurd H (by simp)
      · rw [if_neg c4] at H
        have c4b0 : decide (x4_1 < a0) = false := decide_eq_false c4
        clear c4
        obtain rfl := Option.some.inj H
        go_wp2
        go_ret
        exact ⟨_, by first | rfl | (simp [errW_none, errW_some] <;> rfl) | (simp [*, errW_none, errW_some] <;> rfl), by (with_reducible repeat (first | apply Kd.R_alloc | apply Kd.R_drewN | apply Kd.R_drew)); exact HO_3.out, by repeat (first | (with_reducible first | exact HB.out | apply below_alloc | apply pw_below_drewN | apply below_drew1) | exact HB.out)⟩

end Go.Proofs.Ytgfadfahbhcllaa.Q
namespace Go.Proofs.Ytgfadfahbhcllaa.P
open Go.RowKit Go.Proofs.YtgfadfahbhcllaaW.PrintWords Go.Proofs.YtgfadfahbhcllaaW.PrintMore Go.Proofs.Ytgfadfahbhcllaa.Q
set_option linter.unusedVariables false
set_option linter.unusedSimpArgs false
theorem four_is (x : Int) (h : 0 ≤ x ∧ x ≤ 4294967295) : spec_l2Four.f x = some (leB 4 x) := by
  unfold spec_l2Four.f
  show some _ = some [x / 2 ^ (8 * 0) % 256, x / 2 ^ (8 * 1) % 256, x / 2 ^ (8 * 2) % 256, x / 2 ^ (8 * 3) % 256]
  rw [Int.tmod_eq_emod_of_nonneg h.1, Int.tdiv_eq_ediv_of_nonneg h.1, Int.tdiv_eq_ediv_of_nonneg h.1, Int.tdiv_eq_ediv_of_nonneg h.1]
  congr 1
  simp only [List.cons.injEq, and_true]
  refine ⟨?_, ?_, ?_, ?_⟩
  · show x % 256 % 256 = x / 1 % 256; omega
  · show x / 256 % 4294967296 % 256 = x / 256 % 256; omega
  · show x / 65536 % 4294967296 % 256 = x / 65536 % 256; omega
  · show x / 16777216 % 4294967296 % 256 = x / 16777216 % 256; omega
theorem zeros_ev (n : Nat) (h : n ≤ 1048576) : Ev (fun k => spec_l1Zeros.f k n) (List.replicate n 0) := by
  simp only [spec_l1Zeros.f]
  have h1 := Ev.loop0 (fun k (s : List Int × Int) => spec_l1Zeros.l0 k n s.1 s.2) (fun i => (List.replicate i 0, (i : Int))) n (List.replicate n 0) ?_ ?_
  · exact h1
  · intro i hi
    refine ⟨0, fun k _ => ?_⟩
    simp only [spec_l1Zeros.l0]
    rw [if_pos (by omega), if_pos (by rw [List.length_replicate]; omega), w64s hi (by omega), List.replicate_succ']
  · refine Ev.last ⟨0, fun k _ => ?_⟩
    simp only [spec_l1Zeros.l0]
    rw [if_neg (by omega)]
theorem cat_ev (ls : List (List Int)) (hl : ls.length ≤ 1048576) (h : ls.flatten.length ≤ 1048576) : Ev (fun k => spec_l2Cat.f k ls) ls.flatten := by
  simp only [spec_l2Cat.f]
  have h1 := Ev.loop0 (fun k (s : List Int × Int) => spec_l2Cat.l0 k ls s.1 s.2) (fun i => ((ls.take i).flatten, (i : Int))) ls.length ls.flatten ?_ ?_
  · exact h1
  · intro i hi
    refine ⟨0, fun k _ => ?_⟩
    obtain ⟨p, hp⟩ := some_at hi
    have e : ls.getD (i : Int).toNat [] = p := by
      rw [Int.toNat_natCast, List.getD_eq_getElem?_getD, hp]
      rfl
    have e2 : (ls.take (i + 1)).flatten = (ls.take i).flatten ++ p := by
      rw [List.take_add_one, hp]
      simp
    have e3 : (ls.take (i + 1)).flatten.length ≤ ls.flatten.length := by
      conv => rhs; rw [← List.take_append_drop (i + 1) ls]
      rw [List.flatten_append, List.length_append]
      omega
    rw [e2, List.length_append] at e3
    simp only [spec_l2Cat.l0]
    first | unfold rd_L1 | unfold rd_L2 | unfold rd_L3 | unfold rd_L4 | unfold rd_L5 | unfold rd_L8 | unfold rd_L14
    rw [e, if_pos (by omega), if_pos (by omega), if_pos (by omega), w64s hi (by omega), e2]
  · refine Ev.last ⟨0, fun k _ => ?_⟩
    simp only [spec_l2Cat.l0]
    rw [if_neg (by omega), List.take_length]
end Go.Proofs.Ytgfadfahbhcllaa.P
namespace Go.Proofs.Ytgfadfahbhcllaa.Q
open Go.RowKit Go.Proofs.YtgfadfahbhcllaaW.PrintWords Go.Proofs.YtgfadfahbhcllaaW.PrintLast Go.Proofs.YtgfadfahbhcllaaW.PrintMore Go.Proofs.Ytgfadfahbhcllaa.LK
set_option linter.unusedVariables false
theorem C_cells {k : IntKind} {w w' : World} {A : Option Addr} {n : Nat} {xs : List Int} (h : Kd.C (Kd.int k) w A n xs) (hc : ∀ a v, w.cell? a = some v → w'.cell? a = some v) : Kd.C (Kd.int k) w' A n xs := by
  obtain ⟨h1, h2, h3⟩ := Kd.reads_of_C (enc := Value.int k) (d := (0 : Int)) (h1 := fun _ => rfl) h
  refine Kd.C_of_reads (h1 := fun _ => rfl) (d := (0 : Int)) ⟨h1, h2, fun hp => ?_⟩
  obtain ⟨ad, e, hj⟩ := h3 hp
  exact ⟨ad, e, fun j hjn => hc _ _ (hj j hjn)⟩
theorem cells_of_blocks {w w' : World} (hb : ∀ k, k < w.heap.size → w'.heap[k]? = w.heap[k]?) : ∀ a v, w.cell? a = some v → w'.cell? a = some v := fun a v h => by
  have hlt := World.block_lt_of_cell? w a h
  rw [World.cell?_of_block (hb _ hlt)]
  exact h
theorem cells_of_mark {w w' : World} {g : Nat} {cs : Array Value} {e : Nat} {fr fr' : Nat × Nat} (hS : Stp (fun k => k = g) w w') (h1 : w.heap[g]? = some (.cells cs e fr)) (h2 : w'.heap[g]? = some (.cells cs e fr')) : ∀ a v, w.cell? a = some v → w'.cell? a = some v := fun a v h => by
  have hlt := World.block_lt_of_cell? w a h
  by_cases hg : a.block = g
  · rw [← h]
    unfold World.cell?
    rw [hg, h1, h2]
  · rw [World.cell?_of_block (hS.block _ hlt hg)]
    exact h
/-- A row of bytes that is read. -/
def RdP (w : World) (v : Value) (xs : List Int) : Prop := ∃ A c, v = .slice A xs.length c ∧ xs.length ≤ c ∧ Kd.C (Kd.int .u8) w A xs.length xs
theorem RdP.cells {w w' : World} {v : Value} {xs : List Int} (h : RdP w v xs) (hc : ∀ a v, w.cell? a = some v → w'.cell? a = some v) : RdP w' v xs := by
  obtain ⟨A, c, e, hl, hC⟩ := h
  exact ⟨A, c, e, hl, C_cells hC hc⟩
theorem RdP.below {w w' : World} {v : Value} {xs : List Int} (h : RdP w v xs) (hb : Below w.heap.size w w') : RdP w' v xs := h.cells (cells_of_blocks (fun k hk => hb.block k hk))
theorem RdP.of_R {e base : Nat} {ok : Nat → Prop} {w : World} {v : Value} {xs : List Int} (h : Kd.R (Kd.int .u8) e w base ok v xs) : RdP w v xs := by
  obtain ⟨A, c, rfl⟩ := Kd.R_slice h
  have h2 := Kd.R_reads' h
  exact ⟨A, c, rfl, h2.2.1, h2.2.2⟩
theorem RdP.FK {w : World} {A : Option Addr} {c : Nat} {xs : List Int} (hl : xs.length ≤ c) (h : Kd.C (Kd.int .u8) w A xs.length xs) : Kd.FK (Kd.slice 5 (Kd.int .u8)) w (fun _ => True) xs [.slice A xs.length c] :=
  Kd.FK_slice_mk hl (fun W' hW => C_cells h (cells_of_blocks (fun k hk => hW k trivial hk)))
/-- A literal's row of bytes, marked or not. -/
def LitP (base : Nat) (w : World) (v : Value) (xs : List Int) : Prop := ∃ g c tl fr, v = .slice (some ⟨g, 0, none⟩) xs.length c ∧ xs.length ≤ c ∧ c ≤ 9223372036854775807 ∧ base ≤ g ∧ w.heap[g]? = some (.cells (bytesV xs ++ tl).toArray 5 fr)
theorem LitP.below {base : Nat} {w w' : World} {v : Value} {xs : List Int} (h : LitP base w v xs) (hb : Below w.heap.size w w') : LitP base w' v xs := by
  obtain ⟨g, c, tl, fr, e, hl, hm, hg, hh⟩ := h
  exact ⟨g, c, tl, fr, e, hl, hm, hg, (hb.block g (blk_lt hh)).trans hh⟩
theorem LitP.of_R {base base' : Nat} {ok : Nat → Prop} {w : World} {v : Value} {xs : List Int} (h : Kd.R (Kd.int .u8) 5 w base ok v xs) (hp : 0 < xs.length) (hb : base' ≤ base) : LitP base' w v xs := by
  obtain ⟨A, c, rfl⟩ := Kd.R_slice h
  obtain ⟨B, tl, rfl, _, e, h1, _, _, h2, h3⟩ := R_block h hp
  exact ⟨B, c, tl, _, rfl, by omega, h3, by omega, h2⟩
theorem LitP.rd {base : Nat} {w : World} {v : Value} {xs : List Int} (h : LitP base w v xs) : RdP w v xs := by
  obtain ⟨g, c, tl, fr, rfl, hl, hm, hg, hh⟩ := h
  refine ⟨_, c, rfl, hl, Kd.C_of_reads (h1 := fun _ => rfl) (d := (0 : Int)) ⟨rfl, by omega, fun _ => ⟨_, rfl, fun j hj => ?_⟩⟩⟩
  have hj' : j < xs.length := hj
  have e1 : (Addr.mk g 0 none).add j = ⟨g, j, none⟩ := by
    unfold Addr.add
    by_cases h0 : j = 0
    · rw [if_pos h0, h0]
    · rw [if_neg h0, Nat.zero_add]
  rw [e1, cell_of_row w g j _ _ _ hh]
  unfold bytesV
  simp [List.getD_eq_getElem?_getD, List.getElem?_append_left, hj']
theorem LitP.mark {base : Nat} {w w' : World} {v : Value} {xs : List Int} (h : LitP base w v xs) {g : Nat} {cs : Array Value} {e : Nat} {fr fr' : Nat × Nat} (hS : Stp (fun k => k = g) w w') (h1 : w.heap[g]? = some (.cells cs e fr)) (h2 : w'.heap[g]? = some (.cells cs e fr')) : LitP base w' v xs := by
  obtain ⟨g', c, tl, fr2, ev, hl, hm, hg, hh⟩ := h
  by_cases hgg : g' = g
  · subst hgg
    rw [h1] at hh
    injection hh with hh
    injection hh with e1 e2 e3
    subst e1 e2
    exact ⟨g', c, tl, fr', ev, hl, hm, hg, h2⟩
  · exact ⟨g', c, tl, fr2, ev, hl, hm, hg, (hS.block g' (blk_lt hh) hgg).trans hh⟩
/-- A conversion of a slice of bytes to its own type marks its row. -/
theorem conv_mark {P : Program} {t e : TypeId} (ht : P.underlying t = some (.slice e)) (he : P.underlying e = some (.int .u8)) {w : World} {g n c : Nat} {cs : Array Value} {q : Nat} {fr : Nat × Nat} (hg : w.heap[g]? = some (.cells cs q fr)) :
    ∃ w', (convert t t (.slice (some ⟨g, 0, none⟩) n c)).run P w = .ok (.slice (some ⟨g, 0, none⟩) n c) w' ∧ Stp (fun k => k = g) w w' ∧ ∃ fr', w'.heap[g]? = some (.cells cs q fr') := by
  have hsh : w.shape? g = some (q, cs.size) := by unfold World.shape?; rw [hg]
  refine ⟨w.freeze ⟨g, cs.size, none⟩ 1, ?_, ?_, ?_⟩
  · simp [convert, run_underlying ht, run_underlying he, markStringish, hsh]
  · unfold World.freeze
    rw [if_neg (by decide)]
    exact ⟨rfl, rfl, rfl, by simp, fun i _ hn => by show (w.heap.modify g _)[i]? = _; rw [Array.getElem?_modify, if_neg (fun h => hn h.symm)]⟩
  · unfold World.freeze
    rw [if_neg (by decide)]
    obtain ⟨lo, hi⟩ := fr
    refine ⟨if lo == hi then (cs.size, cs.size + 1) else (min lo cs.size, max hi (cs.size + 1)), ?_⟩
    show (w.heap.modify g _)[g]? = _
    rw [Array.getElem?_modify, if_pos rfl, hg]
    rfl
theorem Bx_mark {w0 W W' : World} {l : List (Nat × Array Value × Nat)} {g : Nat} {cs : Array Value} {e : Nat} {fr : Nat × Nat} (h : Bx w0 l W) (hS : Stp (fun k => k = g) W W') (hg : w0.heap.size ≤ g) (h1 : W.heap[g]? = some (.cells cs e fr)) (ht : ∀ b ∈ l, b.2.2 ≠ e) : Bx w0 l W' :=
  h.stp hS (fun k hk => by rw [hk]; exact hg) (fun b hb he => by
    have h2 := (h.at_ b hb).2
    have h3 : b.1 = g := he
    rw [h3, h1] at h2
    injection h2 with h2
    injection h2 with _ h2 _
    exact ht b hb h2.symm)
/-- A row of rows of bytes that is read. -/
def RowsP (w : World) (v : Value) (xss : List (List Int)) : Prop := ∃ A c, v = .slice A xss.length c ∧ xss.length ≤ c ∧ Kd.C (Kd.slice 5 (Kd.int .u8)) w A xss.length xss
theorem RowsP.below {w w' : World} {v : Value} {xss : List (List Int)} (h : RowsP w v xss) (hb : Below w.heap.size w w') : RowsP w' v xss := by
  obtain ⟨A, c, e, hl, hC⟩ := h
  exact ⟨A, c, e, hl, Kd.C_below hC hb⟩
theorem RowsP.of_N {e base : Nat} {ok : Nat → Prop} {w : World} {v : Value} {xss : List (List Int)} (h : Kd.N (Kd.slice 5 (Kd.int .u8)) e w base ok v xss) : RowsP w v xss := by
  obtain ⟨A, c, rfl⟩ := Kd.N_slice h
  have h2 := Kd.N_reads' h
  exact ⟨A, c, rfl, h2.2.1, h2.2.2⟩
end Go.Proofs.Ytgfadfahbhcllaa.Q
namespace Go.Proofs.Ytgfadfahbhcllaa.Q
open Go.RowKit Go.Proofs.YtgfadfahbhcllaaW.PrintWords Go.Proofs.YtgfadfahbhcllaaW.PrintLast Go.Proofs.YtgfadfahbhcllaaW.PrintMore Go.Proofs.Ytgfadfahbhcllaa.LK
set_option linter.unusedVariables false
set_option linter.unusedSimpArgs false
def specF_T3 : Bool × List (List Nat × List Nat) := (true, [([], []), ([0], [0]), ([1], [1]), ([], []), ([3], [3]), ([], []), ([5], [5]), ([6], [6]), ([7], [7]), ([], []), ([9], [9]), ([10, 2], [10]), ([], []), ([12], [12]), ([13, 11], [13]), ([14], []), ([2, 4, 8, 11, 14, 15], [2, 4, 8, 11, 14, 15]), ([16, 15], [16]), ([17, 17, 0, 1, 2, 3, 4, 5, 6, 7, 8, 9, 10, 11, 12, 13, 14, 15, 16, 17], [17])])
def specF_B3 : List Nat := [0, 1, 3, 0, 8, 0, 32, 96, 224, 0, 512, 1543, 0, 4096, 15879, 32263, 65535, 131071, 262143]
theorem specF_tab3 : rtab .any (opsOf Try.f11 3) = specF_T3 := by kernel_rfl
theorem specF_bits3 : waitsOk specF_T3.2 specF_B3 = true := by kernel_rfl
def specF_T4 : Bool × List (List Nat × List Nat) := (true, [([], []), ([], []), ([1], [1]), ([2, 2], [2]), ([], []), ([4], [4]), ([5, 3], [5]), ([0, 3, 6], [0, 3, 6]), ([7, 6], [7]), ([8, 8, 0, 1, 2, 3, 4, 5, 6, 7, 8], [8])])
def specF_B4 : List Nat := [0, 0, 2, 6, 0, 16, 62, 127, 255, 511]
theorem specF_tab4 : rtab .any (opsOf Try.f11 4) = specF_T4 := by kernel_rfl
theorem specF_bits4 : waitsOk specF_T4.2 specF_B4 = true := by kernel_rfl
def spec_EncodeFrame.f (a0_0 : Int) (a0_1 : Int) (a0_2 : Int) (a0_3 : Int) : Option (List Int) :=
  if (0 ≤ a0_0 ∧ a0_0 ≤ 4294967295) ∧ (0 ≤ a0_2 ∧ a0_2 ≤ 4294967295) ∧ (0 ≤ a0_3 ∧ a0_3 ≤ 4294967295) then some (if 1 ≤ a0_1 ∧ a0_1 ≤ 3 then frameCode a0_0 a0_1 a0_2 a0_3 else []) else none
set_option maxHeartbeats 8000000 in
set_option maxRecDepth 100000 in
theorem specFrame_raw {q kd a b : Int} {kz k1 k2 kc : Nat} {w : World} (hq : 0 ≤ q ∧ q ≤ 4294967295) (ha : 0 ≤ a ∧ a ≤ 4294967295) (hb : 0 ≤ b ∧ b ≤ 4294967295) (hk : 1 ≤ kd ∧ kd ≤ 3)
    (hz : spec_l1Zeros.f kz 40 = some (List.replicate 40 0)) (hc1 : spec_l2Cat.f k1 [P.leB 4 q, [74, 49], [kd % 256, 0], P.leB 4 a, P.leB 4 b, List.replicate 40 0] = some (frameHead q kd a b))
    {c : Int} (hcr : spec_Crc32.f kc (frameHead q kd a b) = some c) (hc : 0 ≤ c ∧ c ≤ 4294967295) {r : List Int} (hc2 : spec_l2Cat.f k2 [frameHead q kd a b, P.leB 4 c, P.leB 4 q] = some r) :
    Calls Try.prog 11 #[.agg #[.int .u32 q, .int .i64 kd, .int .u32 a, .int .u32 b]] w fun e w' => ∃ v0_ : Value, e = .returned (v0_) ∧ Kd.R (Kd.int .u8) 5 w' w.heap.size (fun _ => True) v0_ r ∧ Below w.heap.size w w' := by
  have jk : IntKind.u8.wrap kd = kd % 256 := by rw [IntKind.wrap_u8]
  have k1b : decide (kd < 1) = false := decide_eq_false (by omega)
  have k3b : decide (3 < kd) = false := decide_eq_false (by omega)
  have HQ := Aside0.mk hq
  have HA := Aside0.mk ha
  have HBb := Aside0.mk hb
  have HC := Aside0.mk hc
  have HZ := Aside0.mk hz
  have HC1 := Aside0.mk hc1
  have HC2 := Aside0.mk hc2
  have HCR := Aside0.mk hcr
  obtain ⟨fh, hfh⟩ : ∃ fh, fh = frameHead q kd a b := ⟨_, rfl⟩
  rw [← hfh] at HC1 HC2 HCR
  have HFL := Aside0.mk (show fh.length ≤ 56 from by rw [hfh]; exact Nat.le_refl _)
  have H0 := Aside0.mk (Bx.refl w)
  clear hq ha hb hc hz hc1 hc2 hcr hk hfh
  go_enter Try.func11, Try.ntmps11
  go_wp2_with (first | ((with_reducible refine gate_dst (N := 1) rfl ?_); refine Aside0.out ?_))
  refine Aside0.mk ?_
  refine mk ?hw1 (N := 1) ?hd1 (cs := #[.int .u32 q, .int .i64 kd, .int .u32 a, .int .u32 b]) (t := 27) ?hr1 ?_
  case hd1 => rfl
  case hw1 => rfl
  case hr1 => first | (go_simp; done) | (go_simp; rfl)
  intro g1 hg1_ w101 hb1 hB1
  have H102 := Aside0.mk (H0.out.new hg1_ hb1 hB1)
  clear hg1_ hb1 hB1 H0
  have hk1 : w101.cell? ⟨g1, 1, none⟩ = some (.int .i64 kd) := (blk_cell H102.out.gt0 1).trans rfl
  go_wp2
  clear hk1
  have H104 := Aside0.mk H102.out.drew
  refine start_ (n := 19) (S := fun w' => True) (ds := []) #[false, false, false, false, false, false, false, false, false, false, false, false, false, false, false, false, false, false, false] (by kernel_rfl) rfl rfl trivial (fun hHeld => ?_)
  clear H102
  generalize w101.drew = w103 at H104 hHeld ⊢
  refine with_tabW specF_tab3 specF_bits3 (fun HT_ HW_ => ?_)
  refine pure_ (i := 0) (N := some 13) (v := ?_) (a' := ?_) #[true, false, false, false, false, false, false, false, false, false, false, false, false, false, false, false, false, false, false] rfl rfl (any_of HT_.out (by kernel_rfl)) (fun _ _ _ h => h) (Or.inl ⟨by rfl, ?_⟩) ?_ ?_
  rotate_left
  · intro w'
    go_simp
    with_reducible rfl
  rotate_left
  · simp only [Act.put, List.setIfInBounds_toArray, List.set_cons_zero, List.set_cons_succ, i64_w, i32_w]
    rfl
  refine pure_ (i := 5) (N := some 18) (v := ?_) (a' := ?_) #[true, false, false, false, false, true, false, false, false, false, false, false, false, false, false, false, false, false, false] rfl rfl (any_of HT_.out (by kernel_rfl)) (fun _ _ _ h => h) (Or.inl ⟨by rfl, ?_⟩) ?_ ?_
  rotate_left
  · intro w'
    go_simp
    with_reducible rfl
  rotate_left
  · simp only [Act.put, List.setIfInBounds_toArray, List.set_cons_zero, List.set_cons_succ, i64_w, i32_w]
    rfl
  refine pure_ (i := 9) (N := some 22) (v := ?_) (a' := ?_) #[true, false, false, false, false, true, false, false, false, true, false, false, false, false, false, false, false, false, false] rfl rfl (any_of HT_.out (by kernel_rfl)) (fun _ _ _ h => h) (Or.inl ⟨by rfl, ?_⟩) ?_ ?_
  rotate_left
  · intro w'
    go_simp
    with_reducible rfl
  rotate_left
  · simp only [Act.put, List.setIfInBounds_toArray, List.set_cons_zero, List.set_cons_succ, i64_w, i32_w]
    rfl
  refine pure_ (i := 12) (N := some 25) (v := ?_) (a' := ?_) #[true, false, false, false, false, true, false, false, false, true, false, false, true, false, false, false, false, false, false] rfl rfl (any_of HT_.out (by kernel_rfl)) (fun _ _ _ h => h) (Or.inl ⟨by rfl, ?_⟩) ?_ ?_
  rotate_left
  · intro w'
    go_simp
    with_reducible rfl
  rotate_left
  · simp only [Act.put, List.setIfInBounds_toArray, List.set_cons_zero, List.set_cons_succ, i64_w, i32_w]
    rfl
  refine inv_at [1, 2, 3, 4, 6, 7, 8, 10, 11, 13, 14, 15, 16, 17, 18] (fun a0_ b_ a_ w' => ∃ (v2 : Value) (v3 : Value) (m4 : Value) (v8 : Value) (v11 : Value) (v14 : Value) (v15 : Value) (v16 : Value) (v17 : Value) (m18 : Value), a_ = putSel a0_ b_ [(1, 14, .int .u32 q), (2, 15, v2), (3, 16, v3), (4, 17, m4), (6, 19, .int .i64 kd), (7, 20, .int .u8 (kd % 256)), (8, 21, v8), (10, 23, .int .u32 a), (11, 24, v11), (13, 26, .int .u32 b), (14, 27, v14), (15, 28, v15), (16, 29, v16), (17, 30, v17), (18, 3, m18)] ∧ Bx w [(g1, #[.int .u32 q, .int .i64 kd, .int .u32 a, .int .u32 b], 27)] w' ∧ (b_ 2 = true → RdP w' v2 (P.leB 4 q)) ∧ (b_ 3 = true → LitP w.heap.size w' v3 [74, 49]) ∧ (b_ 4 = true → m4 = v3 ∧ RdP w' m4 [74, 49]) ∧ (b_ 8 = true → RdP w' v8 [kd % 256, 0]) ∧ (b_ 11 = true → RdP w' v11 (P.leB 4 a)) ∧ (b_ 14 = true → RdP w' v14 (P.leB 4 b)) ∧ (b_ 15 = true → RdP w' v15 (List.replicate 40 0)) ∧ (b_ 16 = true → RowsP w' v16 [P.leB 4 q, [74, 49], [kd % 256, 0], P.leB 4 a, P.leB 4 b, List.replicate 40 0]) ∧ (b_ 17 = true → RdP w' v17 fh) ∧ (b_ 18 = true → m18 = v17)) HT_.out HW_.out (by kernel_rfl) (by kernel_rfl) ?_ ?_ ?_
  · exact ⟨.bool false, .bool false, .bool false, .bool false, .bool false, .bool false, .bool false, .bool false, .bool false, .bool false, by simp only [putSel, Bool.false_eq_true, if_false], H104.out, fun h_ => absurd h_ (by decide), fun h_ => absurd h_ (by decide), fun h_ => absurd h_ (by decide), fun h_ => absurd h_ (by decide), fun h_ => absurd h_ (by decide), fun h_ => absurd h_ (by decide), fun h_ => absurd h_ (by decide), fun h_ => absurd h_ (by decide), fun h_ => absurd h_ (by decide), fun h_ => absurd h_ (by decide)⟩
  · skip
    clear H104
    refine steps_cons ?_ ?_
    · rintro b_ a_ w' ⟨v2, v3, m4, v8, v11, v14, v15, v16, v17, m18, ha, QX, Q2, Q3, Q4, Q8, Q11, Q14, Q15, Q16, Q17, Q18⟩ hbo_ hon hoff
      refine ⟨_, rfl, fun K hK => ?_⟩
      have e13 : a_.tmps[13]? = some (.pointer (some ⟨g1, 0, none⟩)) := by rw [ha]; exact (putSel_off rfl).trans rfl
      replace ha := Aside0.mk ha
      have HX := Aside0.mk QX
      clear QX
      have hc_ : w'.cell? ⟨g1, 0, none⟩ = some (.int .u32 q) := (blk_cell HX.out.gt0 0).trans rfl
      refine value_ (w1 := w') (v := .int .u32 q) (by rfl) rfl ?_ ?_
      · go_simp
        (try simp only [i64_w])
        try rfl
      refine hK.out _ _ ⟨v2, v3, m4, v8, v11, v14, v15, v16, v17, m18, (by rw [ha.out]; exact putSel_upk 0 hbo_ rfl rfl rfl), HX.out, fun h0_ => absurd ((hoff 2 (by kernel_rfl)).symm.trans h0_) (by decide), Q3, Q4, Q8, fun h0_ => absurd ((hoff 11 (by kernel_rfl)).symm.trans h0_) (by decide), fun h0_ => absurd ((hoff 14 (by kernel_rfl)).symm.trans h0_) (by decide), fun h0_ => absurd ((hoff 15 (by kernel_rfl)).symm.trans h0_) (by decide), fun h0_ => absurd ((hoff 16 (by kernel_rfl)).symm.trans h0_) (by decide), fun h0_ => absurd ((hoff 17 (by kernel_rfl)).symm.trans h0_) (by decide), fun h0_ => absurd ((hoff 18 (by kernel_rfl)).symm.trans h0_) (by decide)⟩
    refine steps_cons ?_ ?_
    · rintro b_ a_ w' ⟨v2, v3, m4, v8, v11, v14, v15, v16, v17, m18, ha, QX, Q2, Q3, Q4, Q8, Q11, Q14, Q15, Q16, Q17, Q18⟩ hbo_ hon hoff
      refine ⟨_, rfl, fun K hK => ?_⟩
      have e14 : a_.tmps[14]? = some (.int .u32 q) := by rw [ha]; exact putSel_on (e := (1, 14, .int .u32 q)) 0 rfl rfl (hon 1 (by kernel_rfl)) rfl
      replace ha := Aside0.mk ha
      have HX := Aside0.mk QX
      clear QX
      refine goes_ Try.func48 (by kernel_rfl) rfl #[.int .u32 q] (by rfl) rfl rfl (by first | (simp only [List.map_toArray, List.map_cons, List.map_nil, Act.eval, Array.getD_eq_getD_getElem?, Option.getD_some, e14]; done) | (simp only [List.map_toArray, List.map_cons, List.map_nil, Act.eval, Array.getD_eq_getD_getElem?, Option.getD_some, e14]; rfl)) ?_
      refine (spec_l2Four.calls q (P.leB 4 q) _ (P.four_is q HQ.out)).mono ?_
      rintro e w2_ ⟨vn_, rfl, ho, hb_⟩
      refine ⟨_, rfl, ?_⟩
      replace HX := Aside0.mk (HX.out.step hb_)
      refine hK.out _ _ ⟨vn_, v3, m4, v8, v11, v14, v15, v16, v17, m18, (by rw [ha.out]; exact putSel_upk 1 hbo_ rfl rfl rfl), HX.out, fun _ => RdP.of_R ho, fun h0_ => (Q3 h0_).below hb_, fun h0_ => ⟨(Q4 h0_).1, (Q4 h0_).2.below hb_⟩, fun h0_ => (Q8 h0_).below hb_, fun h0_ => absurd ((hoff 11 (by kernel_rfl)).symm.trans h0_) (by decide), fun h0_ => absurd ((hoff 14 (by kernel_rfl)).symm.trans h0_) (by decide), fun h0_ => absurd ((hoff 15 (by kernel_rfl)).symm.trans h0_) (by decide), fun h0_ => absurd ((hoff 16 (by kernel_rfl)).symm.trans h0_) (by decide), fun h0_ => absurd ((hoff 17 (by kernel_rfl)).symm.trans h0_) (by decide), fun h0_ => absurd ((hoff 18 (by kernel_rfl)).symm.trans h0_) (by decide)⟩
    refine steps_cons ?_ ?_
    · rintro b_ a_ w' ⟨v2, v3, m4, v8, v11, v14, v15, v16, v17, m18, ha, QX, Q2, Q3, Q4, Q8, Q11, Q14, Q15, Q16, Q17, Q18⟩ hbo_ hon hoff
      refine ⟨_, rfl, fun K hK => ?_⟩
      replace ha := Aside0.mk ha
      have HX := Aside0.mk QX
      clear QX
      refine Kd.R_lit_step (Kd.int .u8) _ 5 ?hg (N := 16) ?hd (xs := ([74, 49] : List Int)) (inner := [.int .u8 74, .int .u8 49]) (ok := fun _ => True) (okp := fun _ => True) ?hr ?hp (fun _ hk => hk) trivial (Below.refl _ _) (Nat.le_refl _) (by simp) ?_; (case hd => rfl); (case hg => rfl); (case hr => first | (go_simp; done) | (go_simp; rfl)); (case hp => exact (Reps.one (show Kd.M (Kd.int .u8) _ _ _ _ [_] from rfl) (Reps.one (show Kd.M (Kd.int .u8) _ _ _ _ [_] from rfl) (Reps.none _ _))))
      intro vn_ w2_ ho hb_ hg_ hnew_
      clear hg_ hnew_
      have HBW := Aside0.mk HX.out.below.size
      replace HX := Aside0.mk (HX.out.step hb_)
      refine hK.out _ _ ⟨v2, vn_, m4, v8, v11, v14, v15, v16, v17, m18, (by rw [ha.out]; exact putSel_upk 2 hbo_ rfl rfl rfl), HX.out, fun h0_ => (Q2 h0_).below hb_, fun _ => LitP.of_R ho (by decide) HBW.out, fun h0_ => absurd ((hoff 4 (by kernel_rfl)).symm.trans h0_) (by decide), fun h0_ => (Q8 h0_).below hb_, fun h0_ => (Q11 h0_).below hb_, fun h0_ => (Q14 h0_).below hb_, fun h0_ => (Q15 h0_).below hb_, fun h0_ => absurd ((hoff 16 (by kernel_rfl)).symm.trans h0_) (by decide), fun h0_ => absurd ((hoff 17 (by kernel_rfl)).symm.trans h0_) (by decide), fun h0_ => absurd ((hoff 18 (by kernel_rfl)).symm.trans h0_) (by decide)⟩
    refine steps_cons ?_ ?_
    · rintro b_ a_ w' ⟨v2, v3, m4, v8, v11, v14, v15, v16, v17, m18, ha, QX, Q2, Q3, Q4, Q8, Q11, Q14, Q15, Q16, Q17, Q18⟩ hbo_ hon hoff
      refine ⟨_, rfl, fun K hK => ?_⟩
      have e16 : a_.tmps[16]? = some (v3) := by rw [ha]; exact putSel_on (e := (3, 16, v3)) 2 rfl rfl (hon 3 (by kernel_rfl)) rfl
      replace ha := Aside0.mk ha
      have HX := Aside0.mk QX
      clear QX
      obtain ⟨g_, c_, tl_, fr_, ev_, hl_, hm_, hg_, hh_⟩ := Q3 (hon 3 (by kernel_rfl))
      obtain ⟨w2_, hrun_, hS_, fr2_, hh2_⟩ := conv_mark (P := Try.prog) (t := 25) (n := 2) (c := c_) Try.underlying25 Try.underlying5 hh_
      rw [ev_] at e16
      refine value_ (w1 := w2_) (v := v3) (by rfl) rfl ?_ ?_
      · rw [ev_]
        go_simp
        try (first | exact hrun_ | (rw [hrun_]; rfl) | rfl)
      replace HX := Aside0.mk (Bx_mark HX.out hS_ hg_ hh_ (by intro b hb; simp only [List.mem_cons, List.not_mem_nil, or_false] at hb; rcases hb with rfl; exact (show 27 ≠ 5 from by decide)))
      refine hK.out _ _ ⟨v2, v3, v3, v8, v11, v14, v15, v16, v17, m18, (by rw [ha.out]; exact putSel_upk 3 hbo_ rfl rfl rfl), HX.out, fun h0_ => (Q2 h0_).cells (cells_of_mark hS_ hh_ hh2_), fun h0_ => LitP.mark (Q3 h0_) hS_ hh_ hh2_, fun _ => ⟨rfl, (LitP.mark (Q3 (hon 3 (by kernel_rfl))) hS_ hh_ hh2_).rd⟩, fun h0_ => (Q8 h0_).cells (cells_of_mark hS_ hh_ hh2_), fun h0_ => (Q11 h0_).cells (cells_of_mark hS_ hh_ hh2_), fun h0_ => (Q14 h0_).cells (cells_of_mark hS_ hh_ hh2_), fun h0_ => (Q15 h0_).cells (cells_of_mark hS_ hh_ hh2_), fun h0_ => absurd ((hoff 16 (by kernel_rfl)).symm.trans h0_) (by decide), fun h0_ => absurd ((hoff 17 (by kernel_rfl)).symm.trans h0_) (by decide), fun h0_ => absurd ((hoff 18 (by kernel_rfl)).symm.trans h0_) (by decide)⟩
    refine steps_cons ?_ ?_
    · rintro b_ a_ w' ⟨v2, v3, m4, v8, v11, v14, v15, v16, v17, m18, ha, QX, Q2, Q3, Q4, Q8, Q11, Q14, Q15, Q16, Q17, Q18⟩ hbo_ hon hoff
      refine ⟨_, rfl, fun K hK => ?_⟩
      have e18 : a_.tmps[18]? = some (.pointer (some ⟨g1, 1, none⟩)) := by rw [ha]; exact (putSel_off rfl).trans rfl
      replace ha := Aside0.mk ha
      have HX := Aside0.mk QX
      clear QX
      have hc_ : w'.cell? ⟨g1, 1, none⟩ = some (.int .i64 kd) := (blk_cell HX.out.gt0 1).trans rfl
      refine value_ (w1 := w') (v := .int .i64 kd) (by rfl) rfl ?_ ?_
      · go_simp
        (try simp only [i64_w])
        try rfl
      refine hK.out _ _ ⟨v2, v3, m4, v8, v11, v14, v15, v16, v17, m18, (by rw [ha.out]; exact putSel_upk 4 hbo_ rfl rfl rfl), HX.out, Q2, Q3, Q4, fun h0_ => absurd ((hoff 8 (by kernel_rfl)).symm.trans h0_) (by decide), Q11, Q14, Q15, fun h0_ => absurd ((hoff 16 (by kernel_rfl)).symm.trans h0_) (by decide), fun h0_ => absurd ((hoff 17 (by kernel_rfl)).symm.trans h0_) (by decide), fun h0_ => absurd ((hoff 18 (by kernel_rfl)).symm.trans h0_) (by decide)⟩
    refine steps_cons ?_ ?_
    · rintro b_ a_ w' ⟨v2, v3, m4, v8, v11, v14, v15, v16, v17, m18, ha, QX, Q2, Q3, Q4, Q8, Q11, Q14, Q15, Q16, Q17, Q18⟩ hbo_ hon hoff
      refine ⟨_, rfl, fun K hK => ?_⟩
      have e19 : a_.tmps[19]? = some (.int .i64 kd) := by rw [ha]; exact putSel_on (e := (6, 19, .int .i64 kd)) 4 rfl rfl (hon 6 (by kernel_rfl)) rfl
      replace ha := Aside0.mk ha
      have HX := Aside0.mk QX
      clear QX
      refine value_ (w1 := w') (v := .int .u8 (kd % 256)) (by rfl) rfl ?_ ?_
      · go_simp
        (try simp only [i64_w])
        try rfl
      refine hK.out _ _ ⟨v2, v3, m4, v8, v11, v14, v15, v16, v17, m18, (by rw [ha.out]; exact putSel_upk 5 hbo_ rfl rfl rfl), HX.out, Q2, Q3, Q4, fun h0_ => absurd ((hoff 8 (by kernel_rfl)).symm.trans h0_) (by decide), Q11, Q14, Q15, fun h0_ => absurd ((hoff 16 (by kernel_rfl)).symm.trans h0_) (by decide), fun h0_ => absurd ((hoff 17 (by kernel_rfl)).symm.trans h0_) (by decide), fun h0_ => absurd ((hoff 18 (by kernel_rfl)).symm.trans h0_) (by decide)⟩
    refine steps_cons ?_ ?_
    · rintro b_ a_ w' ⟨v2, v3, m4, v8, v11, v14, v15, v16, v17, m18, ha, QX, Q2, Q3, Q4, Q8, Q11, Q14, Q15, Q16, Q17, Q18⟩ hbo_ hon hoff
      refine ⟨_, rfl, fun K hK => ?_⟩
      have e20 : a_.tmps[20]? = some (.int .u8 (kd % 256)) := by rw [ha]; exact putSel_on (e := (7, 20, .int .u8 (kd % 256))) 5 rfl rfl (hon 7 (by kernel_rfl)) rfl
      replace ha := Aside0.mk ha
      have HX := Aside0.mk QX
      clear QX
      refine Kd.R_lit_step (Kd.int .u8) _ 5 ?hg (N := 21) ?hd (xs := ([kd % 256, 0] : List Int)) (inner := [.int .u8 (kd % 256), .int .u8 0]) (ok := fun _ => True) (okp := fun _ => True) ?hr ?hp (fun _ hk => hk) trivial (Below.refl _ _) (Nat.le_refl _) (by simp) ?_; (case hd => rfl); (case hg => rfl); (case hr => first | (go_simp; done) | (go_simp; rfl)); (case hp => exact (Reps.one (show Kd.M (Kd.int .u8) _ _ _ _ [_] from rfl) (Reps.one (show Kd.M (Kd.int .u8) _ _ _ _ [_] from rfl) (Reps.none _ _))))
      intro vn_ w2_ ho hb_ hg_ hnew_
      clear hg_ hnew_
      have HBW := Aside0.mk HX.out.below.size
      replace HX := Aside0.mk (HX.out.step hb_)
      refine hK.out _ _ ⟨v2, v3, m4, vn_, v11, v14, v15, v16, v17, m18, (by rw [ha.out]; exact putSel_upk 6 hbo_ rfl rfl rfl), HX.out, fun h0_ => (Q2 h0_).below hb_, fun h0_ => (Q3 h0_).below hb_, fun h0_ => ⟨(Q4 h0_).1, (Q4 h0_).2.below hb_⟩, fun _ => RdP.of_R ho, fun h0_ => (Q11 h0_).below hb_, fun h0_ => (Q14 h0_).below hb_, fun h0_ => (Q15 h0_).below hb_, fun h0_ => absurd ((hoff 16 (by kernel_rfl)).symm.trans h0_) (by decide), fun h0_ => absurd ((hoff 17 (by kernel_rfl)).symm.trans h0_) (by decide), fun h0_ => absurd ((hoff 18 (by kernel_rfl)).symm.trans h0_) (by decide)⟩
    refine steps_cons ?_ ?_
    · rintro b_ a_ w' ⟨v2, v3, m4, v8, v11, v14, v15, v16, v17, m18, ha, QX, Q2, Q3, Q4, Q8, Q11, Q14, Q15, Q16, Q17, Q18⟩ hbo_ hon hoff
      refine ⟨_, rfl, fun K hK => ?_⟩
      have e22 : a_.tmps[22]? = some (.pointer (some ⟨g1, 2, none⟩)) := by rw [ha]; exact (putSel_off rfl).trans rfl
      replace ha := Aside0.mk ha
      have HX := Aside0.mk QX
      clear QX
      have hc_ : w'.cell? ⟨g1, 2, none⟩ = some (.int .u32 a) := (blk_cell HX.out.gt0 2).trans rfl
      refine value_ (w1 := w') (v := .int .u32 a) (by rfl) rfl ?_ ?_
      · go_simp
        (try simp only [i64_w])
        try rfl
      refine hK.out _ _ ⟨v2, v3, m4, v8, v11, v14, v15, v16, v17, m18, (by rw [ha.out]; exact putSel_upk 7 hbo_ rfl rfl rfl), HX.out, Q2, Q3, Q4, Q8, fun h0_ => absurd ((hoff 11 (by kernel_rfl)).symm.trans h0_) (by decide), fun h0_ => absurd ((hoff 14 (by kernel_rfl)).symm.trans h0_) (by decide), fun h0_ => absurd ((hoff 15 (by kernel_rfl)).symm.trans h0_) (by decide), fun h0_ => absurd ((hoff 16 (by kernel_rfl)).symm.trans h0_) (by decide), fun h0_ => absurd ((hoff 17 (by kernel_rfl)).symm.trans h0_) (by decide), fun h0_ => absurd ((hoff 18 (by kernel_rfl)).symm.trans h0_) (by decide)⟩
    refine steps_cons ?_ ?_
    · rintro b_ a_ w' ⟨v2, v3, m4, v8, v11, v14, v15, v16, v17, m18, ha, QX, Q2, Q3, Q4, Q8, Q11, Q14, Q15, Q16, Q17, Q18⟩ hbo_ hon hoff
      refine ⟨_, rfl, fun K hK => ?_⟩
      have e23 : a_.tmps[23]? = some (.int .u32 a) := by rw [ha]; exact putSel_on (e := (10, 23, .int .u32 a)) 7 rfl rfl (hon 10 (by kernel_rfl)) rfl
      replace ha := Aside0.mk ha
      have HX := Aside0.mk QX
      clear QX
      refine goes_ Try.func48 (by kernel_rfl) rfl #[.int .u32 a] (by rfl) rfl rfl (by first | (simp only [List.map_toArray, List.map_cons, List.map_nil, Act.eval, Array.getD_eq_getD_getElem?, Option.getD_some, e23]; done) | (simp only [List.map_toArray, List.map_cons, List.map_nil, Act.eval, Array.getD_eq_getD_getElem?, Option.getD_some, e23]; rfl)) ?_
      refine (spec_l2Four.calls a (P.leB 4 a) _ (P.four_is a HA.out)).mono ?_
      rintro e w2_ ⟨vn_, rfl, ho, hb_⟩
      refine ⟨_, rfl, ?_⟩
      replace HX := Aside0.mk (HX.out.step hb_)
      refine hK.out _ _ ⟨v2, v3, m4, v8, vn_, v14, v15, v16, v17, m18, (by rw [ha.out]; exact putSel_upk 8 hbo_ rfl rfl rfl), HX.out, fun h0_ => (Q2 h0_).below hb_, fun h0_ => (Q3 h0_).below hb_, fun h0_ => ⟨(Q4 h0_).1, (Q4 h0_).2.below hb_⟩, fun h0_ => (Q8 h0_).below hb_, fun _ => RdP.of_R ho, fun h0_ => absurd ((hoff 14 (by kernel_rfl)).symm.trans h0_) (by decide), fun h0_ => absurd ((hoff 15 (by kernel_rfl)).symm.trans h0_) (by decide), fun h0_ => absurd ((hoff 16 (by kernel_rfl)).symm.trans h0_) (by decide), fun h0_ => absurd ((hoff 17 (by kernel_rfl)).symm.trans h0_) (by decide), fun h0_ => absurd ((hoff 18 (by kernel_rfl)).symm.trans h0_) (by decide)⟩
    refine steps_cons ?_ ?_
    · rintro b_ a_ w' ⟨v2, v3, m4, v8, v11, v14, v15, v16, v17, m18, ha, QX, Q2, Q3, Q4, Q8, Q11, Q14, Q15, Q16, Q17, Q18⟩ hbo_ hon hoff
      refine ⟨_, rfl, fun K hK => ?_⟩
      have e25 : a_.tmps[25]? = some (.pointer (some ⟨g1, 3, none⟩)) := by rw [ha]; exact (putSel_off rfl).trans rfl
      replace ha := Aside0.mk ha
      have HX := Aside0.mk QX
      clear QX
      have hc_ : w'.cell? ⟨g1, 3, none⟩ = some (.int .u32 b) := (blk_cell HX.out.gt0 3).trans rfl
      refine value_ (w1 := w') (v := .int .u32 b) (by rfl) rfl ?_ ?_
      · go_simp
        (try simp only [i64_w])
        try rfl
      refine hK.out _ _ ⟨v2, v3, m4, v8, v11, v14, v15, v16, v17, m18, (by rw [ha.out]; exact putSel_upk 9 hbo_ rfl rfl rfl), HX.out, Q2, Q3, Q4, Q8, Q11, fun h0_ => absurd ((hoff 14 (by kernel_rfl)).symm.trans h0_) (by decide), fun h0_ => absurd ((hoff 15 (by kernel_rfl)).symm.trans h0_) (by decide), fun h0_ => absurd ((hoff 16 (by kernel_rfl)).symm.trans h0_) (by decide), fun h0_ => absurd ((hoff 17 (by kernel_rfl)).symm.trans h0_) (by decide), fun h0_ => absurd ((hoff 18 (by kernel_rfl)).symm.trans h0_) (by decide)⟩
    refine steps_cons ?_ ?_
    · rintro b_ a_ w' ⟨v2, v3, m4, v8, v11, v14, v15, v16, v17, m18, ha, QX, Q2, Q3, Q4, Q8, Q11, Q14, Q15, Q16, Q17, Q18⟩ hbo_ hon hoff
      refine ⟨_, rfl, fun K hK => ?_⟩
      have e26 : a_.tmps[26]? = some (.int .u32 b) := by rw [ha]; exact putSel_on (e := (13, 26, .int .u32 b)) 9 rfl rfl (hon 13 (by kernel_rfl)) rfl
      replace ha := Aside0.mk ha
      have HX := Aside0.mk QX
      clear QX
      refine goes_ Try.func48 (by kernel_rfl) rfl #[.int .u32 b] (by rfl) rfl rfl (by first | (simp only [List.map_toArray, List.map_cons, List.map_nil, Act.eval, Array.getD_eq_getD_getElem?, Option.getD_some, e26]; done) | (simp only [List.map_toArray, List.map_cons, List.map_nil, Act.eval, Array.getD_eq_getD_getElem?, Option.getD_some, e26]; rfl)) ?_
      refine (spec_l2Four.calls b (P.leB 4 b) _ (P.four_is b HBb.out)).mono ?_
      rintro e w2_ ⟨vn_, rfl, ho, hb_⟩
      refine ⟨_, rfl, ?_⟩
      replace HX := Aside0.mk (HX.out.step hb_)
      refine hK.out _ _ ⟨v2, v3, m4, v8, v11, vn_, v15, v16, v17, m18, (by rw [ha.out]; exact putSel_upk 10 hbo_ rfl rfl rfl), HX.out, fun h0_ => (Q2 h0_).below hb_, fun h0_ => (Q3 h0_).below hb_, fun h0_ => ⟨(Q4 h0_).1, (Q4 h0_).2.below hb_⟩, fun h0_ => (Q8 h0_).below hb_, fun h0_ => (Q11 h0_).below hb_, fun _ => RdP.of_R ho, fun h0_ => absurd ((hoff 15 (by kernel_rfl)).symm.trans h0_) (by decide), fun h0_ => absurd ((hoff 16 (by kernel_rfl)).symm.trans h0_) (by decide), fun h0_ => absurd ((hoff 17 (by kernel_rfl)).symm.trans h0_) (by decide), fun h0_ => absurd ((hoff 18 (by kernel_rfl)).symm.trans h0_) (by decide)⟩
    refine steps_cons ?_ ?_
    · rintro b_ a_ w' ⟨v2, v3, m4, v8, v11, v14, v15, v16, v17, m18, ha, QX, Q2, Q3, Q4, Q8, Q11, Q14, Q15, Q16, Q17, Q18⟩ hbo_ hon hoff
      refine ⟨_, rfl, fun K hK => ?_⟩
      replace ha := Aside0.mk ha
      have HX := Aside0.mk QX
      clear QX
      refine goes_ Try.func49 (by kernel_rfl) rfl #[.int .i64 40] (by rfl) rfl rfl (by first | (simp only [List.map_toArray, List.map_cons, List.map_nil, Act.eval, Array.getD_eq_getD_getElem?, Option.getD_some, List.map_nil]; done) | (simp only [List.map_toArray, List.map_cons, List.map_nil, Act.eval, Array.getD_eq_getD_getElem?, Option.getD_some, List.map_nil]; rfl)) ?_
      refine (spec_l1Zeros.calls kz 40 (List.replicate 40 0) _ HZ.out).mono ?_
      rintro e w2_ ⟨vn_, rfl, ho, hb_⟩
      refine ⟨_, rfl, ?_⟩
      replace HX := Aside0.mk (HX.out.step hb_)
      refine hK.out _ _ ⟨v2, v3, m4, v8, v11, v14, vn_, v16, v17, m18, (by rw [ha.out]; exact putSel_upk 11 hbo_ rfl rfl rfl), HX.out, fun h0_ => (Q2 h0_).below hb_, fun h0_ => (Q3 h0_).below hb_, fun h0_ => ⟨(Q4 h0_).1, (Q4 h0_).2.below hb_⟩, fun h0_ => (Q8 h0_).below hb_, fun h0_ => (Q11 h0_).below hb_, fun h0_ => (Q14 h0_).below hb_, fun _ => RdP.of_R ho, fun h0_ => absurd ((hoff 16 (by kernel_rfl)).symm.trans h0_) (by decide), fun h0_ => absurd ((hoff 17 (by kernel_rfl)).symm.trans h0_) (by decide), fun h0_ => absurd ((hoff 18 (by kernel_rfl)).symm.trans h0_) (by decide)⟩
    refine steps_cons ?_ ?_
    · rintro b_ a_ w' ⟨v2, v3, m4, v8, v11, v14, v15, v16, v17, m18, ha, QX, Q2, Q3, Q4, Q8, Q11, Q14, Q15, Q16, Q17, Q18⟩ hbo_ hon hoff
      refine ⟨_, rfl, fun K hK => ?_⟩
      have e15 : a_.tmps[15]? = some (v2) := by rw [ha]; exact putSel_on (e := (2, 15, v2)) 1 rfl rfl (hon 2 (by kernel_rfl)) rfl
      have e17 : a_.tmps[17]? = some (m4) := by rw [ha]; exact putSel_on (e := (4, 17, m4)) 3 rfl rfl (hon 4 (by kernel_rfl)) rfl
      have e21 : a_.tmps[21]? = some (v8) := by rw [ha]; exact putSel_on (e := (8, 21, v8)) 6 rfl rfl (hon 8 (by kernel_rfl)) rfl
      have e24 : a_.tmps[24]? = some (v11) := by rw [ha]; exact putSel_on (e := (11, 24, v11)) 8 rfl rfl (hon 11 (by kernel_rfl)) rfl
      have e27 : a_.tmps[27]? = some (v14) := by rw [ha]; exact putSel_on (e := (14, 27, v14)) 10 rfl rfl (hon 14 (by kernel_rfl)) rfl
      have e28 : a_.tmps[28]? = some (v15) := by rw [ha]; exact putSel_on (e := (15, 28, v15)) 11 rfl rfl (hon 15 (by kernel_rfl)) rfl
      replace ha := Aside0.mk ha
      have HX := Aside0.mk QX
      clear QX
      obtain ⟨A0_, c0_, ev0_, hl0_, hC0_⟩ := Q2 (hon 2 (by kernel_rfl))
      rw [ev0_] at e15
      obtain ⟨A1_, c1_, ev1_, hl1_, hC1_⟩ := (Q4 (hon 4 (by kernel_rfl))).2
      rw [ev1_] at e17
      obtain ⟨A2_, c2_, ev2_, hl2_, hC2_⟩ := Q8 (hon 8 (by kernel_rfl))
      rw [ev2_] at e21
      obtain ⟨A3_, c3_, ev3_, hl3_, hC3_⟩ := Q11 (hon 11 (by kernel_rfl))
      rw [ev3_] at e24
      obtain ⟨A4_, c4_, ev4_, hl4_, hC4_⟩ := Q14 (hon 14 (by kernel_rfl))
      rw [ev4_] at e27
      obtain ⟨A5_, c5_, ev5_, hl5_, hC5_⟩ := Q15 (hon 15 (by kernel_rfl))
      rw [ev5_] at e28
      refine Kd.N_lit_step (Kd.slice 5 (Kd.int .u8)) _ 25 ?hg (N' := 29) ?hd (xs := ([P.leB 4 q, [74, 49], [kd % 256, 0], P.leB 4 a, P.leB 4 b, List.replicate 40 0] : List (List Int))) (inner := [.slice A0_ (P.leB 4 q).length c0_, .slice A1_ ([74, 49]).length c1_, .slice A2_ ([kd % 256, 0]).length c2_, .slice A3_ (P.leB 4 a).length c3_, .slice A4_ (P.leB 4 b).length c4_, .slice A5_ (List.replicate 40 0).length c5_]) (ok := fun _ => True) (okp := fun _ => True) ?hr ?hp (fun _ hk => hk) trivial (Below.refl _ _) (Nat.le_refl _) (by simp) ?_; (case hd => rfl); (case hg => rfl); (case hr => first | (go_simp; done) | (go_simp; rfl)); (case hp => exact (Reps.one (RdP.FK hl0_ hC0_) (Reps.one (RdP.FK hl1_ hC1_) (Reps.one (RdP.FK hl2_ hC2_) (Reps.one (RdP.FK hl3_ hC3_) (Reps.one (RdP.FK hl4_ hC4_) (Reps.one (RdP.FK hl5_ hC5_) (Reps.none _ _))))))))
      intro vn_ w2_ ho hb_ hg_ hnew_
      clear hg_ hnew_
      replace HX := Aside0.mk (HX.out.step hb_)
      refine hK.out _ _ ⟨v2, v3, m4, v8, v11, v14, v15, vn_, v17, m18, (by rw [ha.out]; exact putSel_upk 12 hbo_ rfl rfl rfl), HX.out, fun h0_ => (Q2 h0_).below hb_, fun h0_ => (Q3 h0_).below hb_, fun h0_ => ⟨(Q4 h0_).1, (Q4 h0_).2.below hb_⟩, fun h0_ => (Q8 h0_).below hb_, fun h0_ => (Q11 h0_).below hb_, fun h0_ => (Q14 h0_).below hb_, fun h0_ => (Q15 h0_).below hb_, fun _ => RowsP.of_N ho, fun h0_ => absurd ((hoff 17 (by kernel_rfl)).symm.trans h0_) (by decide), fun h0_ => absurd ((hoff 18 (by kernel_rfl)).symm.trans h0_) (by decide)⟩
    refine steps_cons ?_ ?_
    · rintro b_ a_ w' ⟨v2, v3, m4, v8, v11, v14, v15, v16, v17, m18, ha, QX, Q2, Q3, Q4, Q8, Q11, Q14, Q15, Q16, Q17, Q18⟩ hbo_ hon hoff
      refine ⟨_, rfl, fun K hK => ?_⟩
      have e29 : a_.tmps[29]? = some (v16) := by rw [ha]; exact putSel_on (e := (16, 29, v16)) 12 rfl rfl (hon 16 (by kernel_rfl)) rfl
      replace ha := Aside0.mk ha
      have HX := Aside0.mk QX
      clear QX
      obtain ⟨A_, c_, ev_, hl_, hC_⟩ := Q16 (hon 16 (by kernel_rfl))
      rw [ev_] at e29
      refine goes_ Try.func47 (by kernel_rfl) rfl #[.slice A_ ([P.leB 4 q, [74, 49], [kd % 256, 0], P.leB 4 a, P.leB 4 b, List.replicate 40 0]).length c_] (by rfl) rfl rfl (by first | (simp only [List.map_toArray, List.map_cons, List.map_nil, Act.eval, Array.getD_eq_getD_getElem?, Option.getD_some, e29]; done) | (simp only [List.map_toArray, List.map_cons, List.map_nil, Act.eval, Array.getD_eq_getD_getElem?, Option.getD_some, e29]; rfl)) ?_
      refine (spec_l2Cat.calls k1 _ c_ [P.leB 4 q, [74, 49], [kd % 256, 0], P.leB 4 a, P.leB 4 b, List.replicate 40 0] fh _ hC_ hl_ HC1.out).mono ?_
      rintro e w2_ ⟨vn_, rfl, ho, hb_⟩
      refine ⟨_, rfl, ?_⟩
      replace HX := Aside0.mk (HX.out.step hb_)
      refine hK.out _ _ ⟨v2, v3, m4, v8, v11, v14, v15, v16, vn_, m18, (by rw [ha.out]; exact putSel_upk 13 hbo_ rfl rfl rfl), HX.out, fun h0_ => (Q2 h0_).below hb_, fun h0_ => (Q3 h0_).below hb_, fun h0_ => ⟨(Q4 h0_).1, (Q4 h0_).2.below hb_⟩, fun h0_ => (Q8 h0_).below hb_, fun h0_ => (Q11 h0_).below hb_, fun h0_ => (Q14 h0_).below hb_, fun h0_ => (Q15 h0_).below hb_, fun h0_ => (Q16 h0_).below hb_, fun _ => RdP.of_R ho, fun h0_ => absurd ((hoff 18 (by kernel_rfl)).symm.trans h0_) (by decide)⟩
    refine steps_cons ?_ ?_
    · rintro b_ a_ w' ⟨v2, v3, m4, v8, v11, v14, v15, v16, v17, m18, ha, QX, Q2, Q3, Q4, Q8, Q11, Q14, Q15, Q16, Q17, Q18⟩ hbo_ hon hoff
      refine ⟨_, rfl, fun K hK => ?_⟩
      have e30 : a_.tmps[30]? = some (v17) := by rw [ha]; exact putSel_on (e := (17, 30, v17)) 13 rfl rfl (hon 17 (by kernel_rfl)) rfl
      replace ha := Aside0.mk ha
      have HX := Aside0.mk QX
      clear QX
      refine value_ (w1 := w') (v := v17) (by rfl) rfl ?_ ?_
      · go_simp
        try rfl
      refine hK.out _ _ ⟨v2, v3, m4, v8, v11, v14, v15, v16, v17, v17, (by rw [ha.out]; exact putSel_upk 14 hbo_ rfl rfl rfl), HX.out, Q2, Q3, Q4, Q8, Q11, Q14, Q15, Q16, Q17, fun _ => rfl⟩
    exact steps_nil
  rintro b_ a_ w105 hall ⟨v2, v3, m4, v8, v11, v14, v15, v16, v17, m18, ha, QX, Q2, Q3, Q4, Q8, Q11, Q14, Q15, Q16, Q17, Q18⟩
  have hb1_ := hall 1 (by kernel_rfl)
  have hb2_ := hall 2 (by kernel_rfl)
  have hb3_ := hall 3 (by kernel_rfl)
  have hb4_ := hall 4 (by kernel_rfl)
  have hb6_ := hall 6 (by kernel_rfl)
  have hb7_ := hall 7 (by kernel_rfl)
  have hb8_ := hall 8 (by kernel_rfl)
  have hb10_ := hall 10 (by kernel_rfl)
  have hb11_ := hall 11 (by kernel_rfl)
  have hb13_ := hall 13 (by kernel_rfl)
  have hb14_ := hall 14 (by kernel_rfl)
  have hb15_ := hall 15 (by kernel_rfl)
  have hb16_ := hall 16 (by kernel_rfl)
  have hb17_ := hall 17 (by kernel_rfl)
  have hb18_ := hall 18 (by kernel_rfl)
  subst ha
  simp only [putSel, hb1_, hb2_, hb3_, hb4_, hb6_, hb7_, hb8_, hb10_, hb11_, hb13_, hb14_, hb15_, hb16_, hb17_, hb18_, if_true, Act.put, List.setIfInBounds_toArray, List.set_cons_zero, List.set_cons_succ]
  have H106 := Aside0.mk QX
  clear QX
  have F2 := Aside0.mk (Q2 hb2_)
  clear Q2
  have F3 := Aside0.mk (Q3 hb3_)
  clear Q3
  have F4 := Aside0.mk (Q4 hb4_)
  clear Q4
  have F8 := Aside0.mk (Q8 hb8_)
  clear Q8
  have F11 := Aside0.mk (Q11 hb11_)
  clear Q11
  have F14 := Aside0.mk (Q14 hb14_)
  clear Q14
  have F15 := Aside0.mk (Q15 hb15_)
  clear Q15
  have F16 := Aside0.mk (Q16 hb16_)
  clear Q16
  have F17 := Aside0.mk (Q17 hb17_)
  clear Q17
  have F18 := Aside0.mk (Q18 hb18_)
  clear Q18
  clear hall hb1_ hb2_ hb3_ hb4_ hb6_ hb7_ hb8_ hb10_ hb11_ hb13_ hb14_ hb15_ hb16_ hb17_ hb18_
  have hm18 := F18.out
  subst hm18
  obtain ⟨A17, c17, e17, hl17, hC17⟩ := F17.out
  subst e17
  have HL17 := Aside0.mk hl17
  have FC := Aside0.mk hC17
  clear F2 F3 F4 F8 F11 F14 F15 F16 F18 F17 hl17 hC17
  try go_wp2
  have H108 := Aside0.mk H106.out.drew
  have n9_ := Aside0.mk (Kd.C_below FC.out (below_drew1 (Below.refl w105.heap.size w105)))
  clear FC
  have FC := n9_
  clear n9_
  refine start_ (n := 10) (S := fun w' => w'.cell? ⟨g1, 0, none⟩ = some (.int .u32 q)) (ds := []) #[false, false, false, false, false, false, false, false, false, false] (by kernel_rfl) rfl rfl ((blk_cell H108.out.gt0 0).trans rfl) (fun hHeld => ?_)
  clear H106
  generalize w105.drew = w107 at H108 FC hHeld ⊢
  refine pure_ (i := 0) (N := some 31) (v := ?_) (a' := ?_) #[true, false, false, false, false, false, false, false, false, false] rfl rfl (by kernel_rfl) (fun _ _ _ h => h) (Or.inl ⟨by rfl, ?_⟩) ?_ ?_
  rotate_left
  · intro w'
    go_simp
    with_reducible rfl
  rotate_left
  · simp only [Act.put, List.setIfInBounds_toArray, List.set_cons_zero, List.set_cons_succ, i64_w, i32_w]
    rfl
  refine pure_ (i := 1) (N := some 32) (v := ?_) (a' := ?_) #[true, true, false, false, false, false, false, false, false, false] rfl rfl (by kernel_rfl) (fun _ _ _ h => h) (Or.inl ⟨by rfl, ?_⟩) ?_ ?_
  rotate_left
  · intro w'
    go_simp
    with_reducible rfl
  rotate_left
  · simp only [Act.put, List.setIfInBounds_toArray, List.set_cons_zero, List.set_cons_succ, i64_w, i32_w]
    rfl
  refine pure_ (i := 4) (N := some 35) (v := ?_) (a' := ?_) #[true, true, false, false, true, false, false, false, false, false] rfl rfl (by kernel_rfl) (fun _ _ _ h => h) (Or.inl ⟨by rfl, ?_⟩) ?_ ?_
  rotate_left
  · intro w'
    go_simp
    with_reducible rfl
  rotate_left
  · simp only [Act.put, List.setIfInBounds_toArray, List.set_cons_zero, List.set_cons_succ, i64_w, i32_w]
    rfl
  refine take_ (i := 5) (N := some 36) (v := ?_) (a' := ?_) #[true, true, false, false, true, true, false, false, false, false] rfl rfl (by kernel_rfl) (fun _ _ _ h => h) (Or.inl ⟨by rfl, ?_⟩) hHeld ?_ ?_
  rotate_left
  · rintro w' s0
    go_simp
    with_reducible rfl
  rotate_left
  · simp only [Act.put, List.setIfInBounds_toArray, List.set_cons_zero, List.set_cons_succ, i64_w, i32_w]
    rfl
  refine one_ (i := 2) (N := some 33) #[true, true, true, false, true, true, false, false, false, false] rfl rfl (by kernel_rfl) (by decide) (fun K hK => ?_)
  refine goes_ Try.func50 (by kernel_rfl) rfl #[.slice A17 fh.length c17] (by rfl) rfl rfl (by (try simp only [List.map_toArray, List.map_cons, List.map_nil]); first | done | rfl) ?_
  refine (spec_Crc32.calls kc _ c17 fh c _ FC.out HL17.out HCR.out).mono ?_
  rintro e w110 ⟨rfl, hd_⟩
  refine ⟨_, rfl, ?_⟩
  have hb_ := hd_.below
  clear hd_
  have HBW2 := Aside0.mk H108.out.below.size
  have H111 := Aside0.mk (H108.out.step hb_)
  have n12_ := Aside0.mk (Kd.C_below FC.out hb_)
  clear FC
  have FC := n12_
  clear n12_
  clear hb_ H108
  refine hK.out _ _ ((blk_cell H111.out.gt0 0).trans rfl) (fun hHeld => ?_)
  clear hK K
  refine norm_ (a' := ?_) ?_ ?_
  rotate_left
  · show Act.put _ (some 33) _ = _
    simp only [Act.put, List.setIfInBounds_toArray, List.set_cons_zero, List.set_cons_succ, i64_w, i32_w]
    rfl
  refine one_ (i := 3) (N := some 34) #[true, true, true, true, true, true, false, false, false, false] rfl rfl (by kernel_rfl) (by decide) (fun K hK => ?_)
  refine goes_ Try.func48 (by kernel_rfl) rfl #[.int .u32 c] (by rfl) rfl rfl (by (try simp only [List.map_toArray, List.map_cons, List.map_nil]); first | done | rfl) ?_
  refine (spec_l2Four.calls c (P.leB 4 c) _ (P.four_is c HC.out)).mono ?_
  rintro e w113 ⟨v3_, rfl, ho, hb_⟩
  refine ⟨_, rfl, ?_⟩
  have HBW3 := Aside0.mk H111.out.below.size
  have H114 := Aside0.mk (H111.out.step hb_)
  have n15_ := Aside0.mk (Kd.C_below FC.out hb_)
  clear FC
  have FC := n15_
  clear n15_
  clear hb_ H111
  obtain ⟨A3, c3, e3, hl3, hC3⟩ := RdP.of_R ho
  subst e3
  have HL3 := Aside0.mk hl3
  have FC3 := Aside0.mk hC3
  clear hl3 hC3 ho
  refine hK.out _ _ ((blk_cell H114.out.gt0 0).trans rfl) (fun hHeld => ?_)
  clear hK K
  refine norm_ (a' := ?_) ?_ ?_
  rotate_left
  · show Act.put _ (some 34) _ = _
    simp only [Act.put, List.setIfInBounds_toArray, List.set_cons_zero, List.set_cons_succ, i64_w, i32_w]
    rfl
  refine one_ (i := 6) (N := some 37) #[true, true, true, true, true, true, true, false, false, false] rfl rfl (by kernel_rfl) (by decide) (fun K hK => ?_)
  refine goes_ Try.func48 (by kernel_rfl) rfl #[.int .u32 q] (by rfl) rfl rfl (by (try simp only [List.map_toArray, List.map_cons, List.map_nil]); first | done | rfl) ?_
  refine (spec_l2Four.calls q (P.leB 4 q) _ (P.four_is q HQ.out)).mono ?_
  rintro e w116 ⟨v6_, rfl, ho, hb_⟩
  refine ⟨_, rfl, ?_⟩
  have HBW6 := Aside0.mk H114.out.below.size
  have H117 := Aside0.mk (H114.out.step hb_)
  have n18_ := Aside0.mk (Kd.C_below FC.out hb_)
  clear FC
  have FC := n18_
  clear n18_
  have n19_ := Aside0.mk (Kd.C_below FC3.out hb_)
  clear FC3
  have FC3 := n19_
  clear n19_
  clear hb_ H114
  obtain ⟨A6, c6, e6, hl6, hC6⟩ := RdP.of_R ho
  subst e6
  have HL6 := Aside0.mk hl6
  have FC6 := Aside0.mk hC6
  clear hl6 hC6 ho
  refine hK.out _ _ ((blk_cell H117.out.gt0 0).trans rfl) (fun hHeld => ?_)
  clear hK K
  refine norm_ (a' := ?_) ?_ ?_
  rotate_left
  · show Act.put _ (some 37) _ = _
    simp only [Act.put, List.setIfInBounds_toArray, List.set_cons_zero, List.set_cons_succ, i64_w, i32_w]
    rfl
  refine one_ (i := 7) (N := some 38) #[true, true, true, true, true, true, true, true, false, false] rfl rfl (by kernel_rfl) (by decide) (fun K hK => ?_)
  refine Kd.N_lit_step (Kd.slice 5 (Kd.int .u8)) _ 25 ?hg (N' := 38) ?hd (xs := ([fh, P.leB 4 c, P.leB 4 q] : List (List Int))) (inner := [.slice A17 fh.length c17, .slice A3 (P.leB 4 c).length c3, .slice A6 (P.leB 4 q).length c6]) (ok := fun _ => True) (okp := fun _ => True) ?hr ?hp (fun _ hk => hk) trivial (Below.refl _ _) (Nat.le_refl _) (by simp) ?_; (case hd => rfl); (case hg => rfl); (case hr => first | (go_simp; done) | (go_simp; rfl)); (case hp => exact (Reps.one (RdP.FK HL17.out FC.out) (Reps.one (RdP.FK HL3.out FC3.out) (Reps.one (RdP.FK HL6.out FC6.out) (Reps.none _ _)))))
  intro v7_ w120 ho hb_ hg_ hnew_
  clear hg_ hnew_
  obtain ⟨A7, c7, e7, hl7, hC7⟩ := RowsP.of_N ho
  subst e7
  have HL7 := Aside0.mk hl7
  have FC7 := Aside0.mk hC7
  clear hl7 hC7 ho
  have H121 := Aside0.mk (H117.out.step hb_)
  have n22_ := Aside0.mk (Kd.C_below FC.out hb_)
  clear FC
  have FC := n22_
  clear n22_
  have n23_ := Aside0.mk (Kd.C_below FC3.out hb_)
  clear FC3
  have FC3 := n23_
  clear n23_
  have n24_ := Aside0.mk (Kd.C_below FC6.out hb_)
  clear FC6
  have FC6 := n24_
  clear n24_
  clear hb_ H117
  refine hK.out _ _ ((blk_cell H121.out.gt0 0).trans rfl) (fun hHeld => ?_)
  clear hK K
  refine norm_ (a' := ?_) ?_ ?_
  rotate_left
  · show Act.put _ (some 38) _ = _
    simp only [Act.put, List.setIfInBounds_toArray, List.set_cons_zero, List.set_cons_succ, i64_w, i32_w]
    rfl
  refine one_ (i := 8) (N := some 39) #[true, true, true, true, true, true, true, true, true, false] rfl rfl (by kernel_rfl) (by decide) (fun K hK => ?_)
  refine goes_ Try.func47 (by kernel_rfl) rfl #[.slice A7 ([fh, P.leB 4 c, P.leB 4 q]).length c7] (by rfl) rfl rfl (by (try simp only [List.map_toArray, List.map_cons, List.map_nil]); first | done | rfl) ?_
  refine (spec_l2Cat.calls k2 _ c7 [fh, P.leB 4 c, P.leB 4 q] r _ FC7.out HL7.out HC2.out).mono ?_
  rintro e w125 ⟨v8_, rfl, ho, hb_⟩
  refine ⟨_, rfl, ?_⟩
  have HBW8 := Aside0.mk H121.out.below.size
  have H126 := Aside0.mk (H121.out.step hb_)
  clear hb_ H121
  refine hK.out _ _ ((blk_cell H126.out.gt0 0).trans rfl) (fun hHeld => ?_)
  clear hK K
  refine norm_ (a' := ?_) ?_ ?_
  rotate_left
  · show Act.put _ (some 39) _ = _
    simp only [Act.put, List.setIfInBounds_toArray, List.set_cons_zero, List.set_cons_succ, i64_w, i32_w]
    rfl
  have HRr := Aside0.mk (Kd.R_lower ho HBW8.out)
  clear ho
  refine pure_ (i := 9) (N := some 2) (v := ?_) (a' := ?_) #[true, true, true, true, true, true, true, true, true, true] rfl rfl (by kernel_rfl) (fun _ _ _ h => h) (Or.inl ⟨by rfl, ?_⟩) ?_ ?_
  rotate_left
  · intro w'
    go_simp
    with_reducible rfl
  rotate_left
  · simp only [Act.put, List.setIfInBounds_toArray, List.set_cons_zero, List.set_cons_succ, i64_w, i32_w]
    rfl
  refine done_ (by kernel_rfl) ?_
  clear hHeld
  go_wp2
  go_ret
  exact ⟨_, rfl, HRr.out, H126.out.below⟩
set_option maxHeartbeats 8000000 in
set_option maxRecDepth 100000 in
theorem specFrame_none {q kd a b : Int} {w : World} (hk : ¬ (1 ≤ kd ∧ kd ≤ 3)) :
    Calls Try.prog 11 #[.agg #[.int .u32 q, .int .i64 kd, .int .u32 a, .int .u32 b]] w fun e w' => ∃ v0_ : Value, e = .returned (v0_) ∧ Kd.R (Kd.int .u8) 5 w' w.heap.size (fun _ => True) v0_ [] ∧ Below w.heap.size w w' := by
  have H0 := Aside0.mk (Bx.refl w)
  have HK := Aside0.mk hk
  clear hk
  go_enter Try.func11, Try.ntmps11
  go_wp2_with (first | ((with_reducible refine gate_dst (N := 1) rfl ?_); refine Aside0.out ?_))
  refine Aside0.mk ?_
  refine mk ?hw1 (N := 1) ?hd1 (cs := #[.int .u32 q, .int .i64 kd, .int .u32 a, .int .u32 b]) (t := 27) ?hr1 ?_
  case hd1 => rfl
  case hw1 => rfl
  case hr1 => first | (go_simp; done) | (go_simp; rfl)
  intro g1 hg1_ w101 hb1 hB1
  have H102 := Aside0.mk (H0.out.new hg1_ hb1 hB1)
  clear hg1_ hb1 hB1 H0
  have hk1 : w101.cell? ⟨g1, 1, none⟩ = some (.int .i64 kd) := (blk_cell H102.out.gt0 1).trans rfl
  by_cases c1 : kd < 1
  all_goals
    first | have k1b : decide (kd < 1) = true := decide_eq_true (by assumption) | have k1b : decide (kd < 1) = false := decide_eq_false (by assumption)
    try have k3b : decide (3 < kd) = true := decide_eq_true (by have := HK.out; omega)
    clear c1
    go_wp2_with (first | ((with_reducible refine gate_dst (N := 12) rfl ?_); refine Aside0.out ?_))
    refine Aside0.mk ?_
    refine Kd.R_lit (Kd.int .u8) _ 5 ?hg (N := 12) ?hd (xs := ([] : List Int)) (inner := []) (ok := fun _ => True) (okp := fun _ => True) ?hr ?hp (fun _ hk => hk) trivial (Below.refl _ _) (Nat.le_refl _) (by simp) ?_
    case hd => rfl
    case hg => rfl
    case hr => first | (go_simp; done) | (go_simp; rfl)
    case hp => exact (Reps.none _ _)
    intro v12_ w2_ ho hb_ hg_ hnew_
    clear hg_ hnew_
    have HRr := Aside0.mk (Kd.R_lower ho H102.out.below.size)
    have HX := Aside0.mk (H102.out.step hb_)
    clear ho hb_ hk1
    go_wp2
    go_ret
    exact ⟨_, rfl, HRr.out, HX.out.below⟩
theorem spec_EncodeFrame.calls (a0_0 : Int) (a0_1 : Int) (a0_2 : Int) (a0_3 : Int) (r : List Int) (w : World) (h : spec_EncodeFrame.f a0_0 a0_1 a0_2 a0_3 = some r) :
    Calls Try.prog 11 #[.agg #[.int .u32 a0_0, .int .i64 a0_1, .int .u32 a0_2, .int .u32 a0_3]] w fun e w' => ∃ v0_ : Value, e = .returned (v0_) ∧ Kd.R (Kd.int .u8) 5 w' w.heap.size (fun _ => True) v0_ r ∧ Below w.heap.size w w' := by
  unfold spec_EncodeFrame.f at h
  by_cases hsz : (0 ≤ a0_0 ∧ a0_0 ≤ 4294967295) ∧ (0 ≤ a0_2 ∧ a0_2 ≤ 4294967295) ∧ (0 ≤ a0_3 ∧ a0_3 ≤ 4294967295)
  case neg => rw [if_neg hsz] at h; cases h
  rw [if_pos hsz] at h
  have h := Option.some.inj h
  by_cases hk : 1 ≤ a0_1 ∧ a0_1 ≤ 3
  · rw [if_pos hk] at h
    subst h
    have hc := P.crc32_range (frameHead a0_0 a0_1 a0_2 a0_3)
    unfold P.U32 at hc
    obtain ⟨kz, hz⟩ := (P.zeros_ev 40 (by decide)).ex
    obtain ⟨k1, hc1⟩ := (P.cat_ev [P.leB 4 a0_0, [74, 49], [a0_1 % 256, 0], P.leB 4 a0_2, P.leB 4 a0_3, List.replicate 40 0] (by show 6 ≤ 1048576; decide) (by show 56 ≤ 1048576; decide)).ex
    obtain ⟨kc, hcr⟩ := (P.spec_Crc32_ev (frameHead a0_0 a0_1 a0_2 a0_3) (by show 56 ≤ 4611686018427387904; decide)).ex
    obtain ⟨k2, hc2⟩ := (P.cat_ev [frameHead a0_0 a0_1 a0_2 a0_3, P.leB 4 (P.crc32 (frameHead a0_0 a0_1 a0_2 a0_3)), P.leB 4 a0_0] (by show 3 ≤ 1048576; decide) (by show 64 ≤ 1048576; decide)).ex
    exact specFrame_raw hsz.1 hsz.2.1 hsz.2.2 hk hz hc1 hcr (by omega) hc2
  · rw [if_neg hk] at h
    subst h
    exact specFrame_none hk
end Go.Proofs.Ytgfadfahbhcllaa.Q
namespace Go.Proofs.Ytgfadfahbhcllaa.Q
open Go.RowKit Go.Proofs.YtgfadfahbhcllaaW.PrintWords Go.Proofs.YtgfadfahbhcllaaW.PrintLast Go.Proofs.Ytgfadfahbhcllaa.LK Go.Proofs.YtgfadfahbhcllaaW.PrintMore
attribute [local go_sem] max2_int min2_int max_two min_two max_three min_three max_four min_four   -- for this text's walks alone
set_option linter.unusedVariables false
set_option linter.unusedSimpArgs false

set_option maxHeartbeats 8000000 in
set_option maxRecDepth 100000 in
theorem laws_markByteS.callsE {e_ : Nat} (k : Nat) (P0_ : Nat → Prop) (u9000_ : Value) (l0 : List Int) (a1 : Int) (r1 : Int) (r2 : List Int) (w0 w : World) (hB : Below w0.heap.size w0 w) (ho0 : Kd.R (Kd.int .u8) e_ w w0.heap.size P0_ u9000_ l0) (h : laws_markByteS.f k l0 a1 = some (r1, r2)) :
    Calls Try.prog 15 #[u9000_, .int .i64 a1] w fun e w' => e = .returned (.int .i64 r1) ∧ Kd.R (Kd.int .u8) e_ w' w0.heap.size (fun k_ => (P0_ k_ ∨ w.heap.size ≤ k_)) u9000_ r2 ∧ Below w0.heap.size w0 w' ∧ Kept w w' (fun k_ => P0_ k_) := by
  have HO0 := Aside0.mk (show Kd.R (Kd.int .u8) e_ w w0.heap.size (fun k_ => (P0_ k_ ∨ w.heap.size ≤ k_)) u9000_ l0 from Kd.R_mono ho0 (fun k_ hk => (.inl hk)))
  have HK := Aside0.mk (Kept.refl w (fun k_ => P0_ k_))
  have HW0 := Aside0.mk hB.size
  have HB := Aside0.mk hB
  clear hB
  have H : (laws_markByteS.l0 k l0 a1 0) = some (r1, r2) := h
  clear h
  have H' := Aside0.mk H
  clear H
  go_enter Try.func15, Try.ntmps15
  go_wp2
  go_loopg [1, 5] k (fun kq v1 v5 w' => ∃ (x0_1 : List Int) (x1_1 : Int) (x5_1 : Int), v1 = .int .i64 x1_1 ∧ v5 = .int .i64 x5_1 ∧ Aside0 (laws_markByteS.l0 kq x0_1 x1_1 x5_1 = some (r1, r2)) ∧ Aside0 (kq ≤ k) ∧ Aside0 (Kd.R (Kd.int .u8) e_ w' w0.heap.size (fun k_ => (P0_ k_ ∨ w.heap.size ≤ k_)) u9000_ x0_1) ∧ Aside0 (Kept w w' (fun k_ => P0_ k_)) ∧ Aside0 (Below w0.heap.size w0 w'))
  case atStart => exact ⟨(l0), (a1), (0), (by first | rfl | (simp; done) | (simp [*]; done)), (by first | rfl | (simp; done) | (simp [*]; done)), H', ⟨Nat.le_refl _⟩, ⟨by (with_reducible repeat (first | apply Kd.R_alloc | apply Kd.R_drewN | apply Kd.R_drew)); exact HO0.out⟩, ⟨by repeat (first | (with_reducible first | exact HK.out | apply Kept.alloc | apply Kept.drewN | apply Kept.drew) | exact HK.out)⟩, ⟨by repeat (first | (with_reducible first | exact HB.out | apply below_alloc | apply pw_below_drewN | apply below_drew1) | exact HB.out)⟩⟩
  case round =>
    clear H'
    try clear c1
    try clear p2
    obtain ⟨x0_1, x1_1, x5_1, rfl, rfl, HA, HK1, HO_0, HK, HB⟩ := hrel
    cases gk with
    | zero => exact absurd HA.out (by simp [laws_markByteS.l0])
    | succ k1 =>
      have H := HA.out
      clear HA
      simp only [laws_markByteS.l0] at H
      by_cases c3 : x5_1 < (x0_1.length : Int)
      · rw [if_pos c3] at H
        have c3b0 : decide (x5_1 < (x0_1.length : Int)) = true := decide_eq_true c3
        clear c3
        by_cases c4 : 0 ≤ x5_1
        · rw [if_pos c4] at H
          have c4b0 : decide (0 ≤ x5_1) = true := decide_eq_true c4
          clear c4
          obtain ⟨y101, hy101⟩ : ∃ y_ : List Int, y_ = (x0_1.set (x5_1 : Int).toNat ((x1_1) % 256)) := ⟨_, rfl⟩
          replace H : (laws_markByteS.l0 k1 y101 (wrap64 (x1_1 + 1)) (wrap64 (x5_1 + 1))) = some (r1, r2) := by first | (rw [hy101]; with_reducible exact H) | (have H2_ := (Option.bind_some _ _).symm.trans H; rw [hy101]; with_reducible exact H2_) | (have H2_ := (Option.bind_some _ _).symm.trans H; with_reducible exact H2_) | with_reducible exact H | (rw [hy101]; exact H) | exact H
          have Ny101 := Aside0.mk hy101
          clear hy101
          have H' := Aside0.mk H
          clear H
          obtain ⟨Ao6, co6, eo6⟩ := Kd.R_slice HO_0.out
          subst eo6
          have p5 : 0 ≤ (x5_1 : Int) := of_decide_eq_true (by first | (with_reducible assumption) | assumption)
          have q5 : (x5_1 : Int) < ((x0_1.length : Int) : Int) := of_decide_eq_true (by first | (with_reducible assumption) | assumption)
          obtain ⟨go5, co5, eo5, gb5, gl5, cl5, HG5⟩ := Kd.R_form HO_0.out (by omega)
          (first | cases eo5 | (injection eo5 with ea_ en_ ec_; (first | subst ea_ | (injection ea_ with ea_; subst ea_)); subst ec_; clear en_))
          have GB5 := Aside0.mk gb5
          have GG5 := Aside0.mk HG5
          clear gb5 gl5 HG5
          have HMgo5 := Aside0.mk (show (P0_ go5 ∨ w.heap.size ≤ go5) from (HO_0.out.1 _ rfl))
          obtain ⟨hx5_0, hf5_0⟩ := Kd.R_celln 0 HO_0.out (x5_1 : Int) p5 q5
          replace p5 := eq_true p5
          replace q5 := eq_true q5
          have HP7 := Kd.R_putg HO_0.out (x5_1 : Int) ((x1_1) % 256)
          go_wp2_with (first | ((with_reducible refine gate_store (t := 5) (p := 16) rfl ?_); refine store_event (t := 5) (p := 16) (v := ?vo_w8) (w1 := (wr.setCell ⟨go5, (x5_1 : Int).toNat, none⟩ (.int .u8 ((x1_1) % 256)))) ?hg ?ho ?hn ?hr ?_; (case ho => rfl); (case hg => rfl); (case hn => rfl); (case hr => first | (go_simp; done) | (go_simp; rfl)); intro w8 hw; have hg : wr.grownBy w8 (some go5) := (by rw [hw]; exact HP7.2); have hp_ : Kd.R (Kd.int .u8) e_ w8 w0.heap.size (fun k_ => (P0_ k_ ∨ w.heap.size ≤ k_)) (.slice (some ⟨go5, 0, none⟩) x0_1.length co6) y101 := (by rw [hw, Ny101.out]; exact HP7.1); clear HP7; have n0_ := Aside0.mk (hp_); have n1_ := Aside0.mk ((by rw [hw]; exact below_set (HB.out) GB5.out : Below w0.heap.size w0 w8)); have n2_ := Aside0.mk (Kept.of_grown (S := (fun k_ => P0_ k_)) hg (by repeat (first | (with_reducible first | exact HK.out | apply Kept.alloc | apply Kept.drewN | apply Kept.drew) | exact HK.out)) (fun k_ e_ => (HO_0.out.1 k_ e_))); clear HO_0; clear HB; clear HK; have HO_0 := n0_; have HB := n1_; have HK := n2_; clear n0_ n1_ n2_; clear hg hw hp_))
          go_roundg k1
          case measure => have := HK1.out; omega
          case rel => exact ⟨(y101), (wrap64 (x1_1 + 1)), (wrap64 (x5_1 + 1)), (by first | rfl | (simp; done) | (simp [*]; done)), (by first | rfl | (simp; done) | (simp [*]; done)), H', ⟨by have := HK1.out; omega⟩, ⟨by (with_reducible repeat (first | apply Kd.R_alloc | apply Kd.R_drewN | apply Kd.R_drew)); exact HO_0.out⟩, ⟨by repeat (first | (with_reducible first | exact HK.out | apply Kept.alloc | apply Kept.drewN | apply Kept.drew) | exact HK.out)⟩, ⟨by repeat (first | (with_reducible first | exact HB.out | apply below_alloc | apply pw_below_drewN | apply below_drew1) | exact HB.out)⟩⟩
        · rw [if_neg c4] at H
          exact absurd H (by simp)
      · rw [if_neg c3] at H
        have c3b0 : decide (x5_1 < (x0_1.length : Int)) = false := decide_eq_false c3
        clear c3
        simp only [Option.some.injEq, Prod.mk.injEq] at H
        obtain ⟨rfl, rfl⟩ := H
        obtain ⟨Ao9, co9, eo9⟩ := Kd.R_slice HO_0.out
        subst eo9
        go_wp2
        go_ret
        exact ⟨by first | rfl | (simp [errW_none, errW_some] <;> rfl) | (simp [*, errW_none, errW_some] <;> rfl), by (with_reducible repeat (first | apply Kd.R_alloc | apply Kd.R_drewN | apply Kd.R_drew)); exact HO_0.out, by repeat (first | (with_reducible first | exact HB.out | apply below_alloc | apply pw_below_drewN | apply below_drew1) | exact HB.out), by repeat (first | (with_reducible first | exact HK.out | apply Kept.alloc | apply Kept.drewN | apply Kept.drew) | exact HK.out)⟩

end Go.Proofs.Ytgfadfahbhcllaa.Q
