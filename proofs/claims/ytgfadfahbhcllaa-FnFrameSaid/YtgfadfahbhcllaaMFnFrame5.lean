/- Part 5 of 7 of the proof that the law FnFrame returns true at every input. No further condition. -/
import Derived.Laws.BitsLemmas
import Derived.Test.YtgfadfahbhcllaaMFnFrame4
namespace Go.Proofs.Ytgfadfahbhcllaa.P
open Go.RowKit Go.Proofs.YtgfadfahbhcllaaW.PrintWords Go.Proofs.Ytgfadfahbhcllaa.Q
set_option linter.unusedVariables false
set_option linter.unusedSimpArgs false

/-- The number that bytes tell, the lowest first. -/
def le : List Int → Int
  | [] => 0
  | b :: bs => b + 256 * le bs
def U8s (l : List Int) : Prop := ∀ z ∈ l, 0 ≤ z ∧ z ≤ 255
theorem u8_of {l : List Int} (h : ∀ z ∈ l, (Lit.int .u8 z).wf = true) : U8s l := by
  intro z hz
  have := h z hz
  simp [Lit.wf, IntKind.min, IntKind.max, IntKind.signed, IntKind.bits] at this
  omega
theorem U8s.drop {l : List Int} (h : U8s l) (n : Nat) : U8s (l.drop n) := fun z hz => h z (List.mem_of_mem_drop hz)
theorem U8s.take {l : List Int} (h : U8s l) (n : Nat) : U8s (l.take n) := fun z hz => h z (List.mem_of_mem_take hz)
theorem U8s.at_ {l : List Int} (h : U8s l) {i : Nat} {b : Int} (hb : l[i]? = some b) : 0 ≤ b ∧ b ≤ 255 := h b (List.mem_of_getElem? hb)
theorem le_range : ∀ {l : List Int}, U8s l → 0 ≤ le l ∧ le l < 256 ^ l.length
  | [], _ => ⟨by decide, by decide⟩
  | b :: bs, h => by
    have h1 := le_range (l := bs) (fun z hz => h z (List.mem_cons_of_mem _ hz))
    have h2 := h b (List.mem_cons_self ..)
    have e : (256 : Int) ^ (b :: bs).length = 256 * 256 ^ bs.length := by rw [List.length_cons, Int.pow_succ, Int.mul_comm]
    rw [e]
    unfold le
    omega
theorem le_snoc : ∀ (l : List Int) (b : Int), le (l ++ [b]) = le l + 256 ^ l.length * b
  | [], b => by simp [le]
  | a :: l, b => by
    simp only [List.cons_append, le, le_snoc l b, List.length_cons, Int.pow_succ]
    rw [Int.mul_add, ← Int.add_assoc, Int.mul_comm (256 ^ l.length) 256, Int.mul_assoc]
theorem u64_wrap {n : Int} (h0 : 0 ≤ n) (h : n < 18446744073709551616) : IntKind.u64.wrap n = n := by
  simp [IntKind.wrap, IntKind.bits, IntKind.signed]
  omega
theorem or_byte (x b : Int) (hx : 0 ≤ x) (hx1 : x < 72057594037927936) (hb : 0 ≤ b ∧ b ≤ 255) : Go.bits .or .u64 (IntKind.u64.wrap (x * 256)) (IntKind.u64.wrap b) = b + 256 * x := by
  rw [u64_wrap (by omega) (by omega), u64_wrap (by omega) (by omega)]
  rw [bits_join .u64 64 (Nat.le_refl _) (fun n h h2 => u64_wrap h h2) 8 (x * 256) b (by omega) (by omega) (by omega) hb.1 (by omega) (by omega)]
  omega
/-- The program's own reading of n bytes at a. -/
theorem get_loop (l : List Int) (a : Int) (hb : U8s l) (h0 : 0 ≤ a) (hl : l.length ≤ 4611686018427387904) : ∀ (i : Nat) (m : List Int), i + m.length ≤ 8 → a.toNat + i + m.length ≤ l.length → (l.drop (a.toNat + i)).take m.length = m →
    Ev (fun k => impl_get.l0 k l a (le m) ((i : Int) - 1)) (le ((l.drop a.toNat).take (i + m.length)))
  | 0, m, h8, hal, hm => by
    refine Ev.last ⟨0, fun k _ => ?_⟩
    simp only [impl_get.l0]
    rw [if_neg (by omega)]
    rw [Nat.zero_add]
    rw [Nat.add_zero] at hm
    rw [hm]
  | i + 1, m, h8, hal, hm => by
    obtain ⟨b, hbt⟩ := some_at (show a.toNat + i < l.length by omega)
    have hmb : U8s m := hm ▸ (hb.drop _).take _
    have hr := le_range hmb
    have hp : (256 : Int) ^ m.length ≤ 256 ^ 7 := by
      have : (256 : Nat) ^ m.length ≤ 256 ^ 7 := Nat.pow_le_pow_right (by decide) (by omega)
      have h := Int.ofNat_le.mpr this
      rw [Int.natCast_pow, Int.natCast_pow] at h
      exact h
    have hlt : le m < 72057594037927936 := by
      have : (256 : Int) ^ 7 = 72057594037927936 := by rfl
      omega
    have hc : (l.drop (a.toNat + i)).take (b :: m).length = b :: m := by
      rw [List.length_cons, List.drop_eq_getElem_cons (by omega), List.take_succ_cons]
      congr 1
      exact (List.getElem?_eq_some_iff.1 hbt).2
    have h1 := get_loop l a hb h0 hl i (b :: m) (by rw [List.length_cons]; omega) (by rw [List.length_cons]; omega) hc
    rw [List.length_cons, show i + (m.length + 1) = i + 1 + m.length from by omega] at h1
    refine Ev.step ⟨0, fun k _ => ?_⟩ h1
    have e1 : wrap64 (a + (((i + 1 : Nat) : Int) - 1)) = ((a.toNat + i : Nat) : Int) := by rw [w64 (by omega) (by omega)]; omega
    have e2 : wrap64 (((i + 1 : Nat) : Int) - 1 - 1) = (i : Int) - 1 := by rw [w64 (by omega) (by omega)]; omega
    simp only [impl_get.l0]
    rw [e1, e2, rd_at hbt, or_byte (le m) b hr.1 hlt (hb.at_ hbt), if_pos (by clear e1 e2; omega), if_pos (by clear e1 e2; omega), if_pos (by clear e1 e2; omega)]
    rfl
theorem impl_get_ev (l : List Int) (a n : Int) (hb : U8s l) (h0 : 0 ≤ a) (hn : 0 ≤ n) (h8 : n ≤ 8) (h : a + n ≤ l.length) (hl : l.length ≤ 4611686018427387904) : Ev (fun k => impl_get.f k l a n) (le ((l.drop a.toNat).take n.toNat)) := by
  have h1 := get_loop l a hb h0 hl n.toNat [] (by simp; omega) (by simp; omega) rfl
  rw [List.length_nil, Nat.add_zero, show ((n.toNat : Nat) : Int) = n from by omega] at h1
  simp only [impl_get.f]
  rw [w64 (by omega) (by omega)]
  exact h1
theorem take4 {l : List Int} {i : Nat} {b0 b1 b2 b3 : Int} (h0 : l[i]? = some b0) (h1 : l[i + 1]? = some b1) (h2 : l[i + 2]? = some b2) (h3 : l[i + 3]? = some b3) : (l.drop i).take 4 = [b0, b1, b2, b3] := by
  apply List.ext_getElem?
  intro j
  match j with
  | 0 => simpa using h0
  | 1 => simpa using h1
  | 2 => simpa using h2
  | 3 => simpa using h3
  | j + 4 =>
    simp
    omega
theorem spec_get (l : List Int) (a : Int) (hb : U8s l) (h0 : 0 ≤ a) (h : a + 4 ≤ l.length) (hl : l.length ≤ 4611686018427387904) : spec_l2Get.f l a = some (le ((l.drop a.toNat).take 4)) := by
  obtain ⟨b0, e0⟩ := some_at (show a.toNat < l.length by omega)
  obtain ⟨b1, e1⟩ := some_at (show a.toNat + 1 < l.length by omega)
  obtain ⟨b2, e2⟩ := some_at (show a.toNat + 2 < l.length by omega)
  obtain ⟨b3, e3⟩ := some_at (show a.toNat + 3 < l.length by omega)
  rw [take4 e0 e1 e2 e3]
  have r0 := hb.at_ e0
  have r1 := hb.at_ e1
  have r2 := hb.at_ e2
  have r3 := hb.at_ e3
  have f0 : rd l a = b0 := by have := rd_at e0; rwa [show ((a.toNat : Nat) : Int) = a from by omega] at this
  have f1 : rd l (a + 1) = b1 := by have := rd_at e1; rwa [show ((a.toNat + 1 : Nat) : Int) = a + 1 from by omega] at this
  have f2 : rd l (a + 2) = b2 := by have := rd_at e2; rwa [show ((a.toNat + 2 : Nat) : Int) = a + 2 from by omega] at this
  have f3 : rd l (a + 3) = b3 := by have := rd_at e3; rwa [show ((a.toNat + 3 : Nat) : Int) = a + 3 from by omega] at this
  simp only [spec_l2Get.f]
  rw [w64 (n := a + 1) (by omega) (by omega), w64 (n := a + 2) (by omega) (by omega), w64 (n := a + 3) (by omega) (by omega), f0, f1, f2, f3]
  rw [if_pos (by omega), if_pos (by omega), if_pos (by omega), if_pos (by omega), if_pos (by omega), if_pos (by omega), if_pos (by omega), if_pos (by omega)]
  congr 1
  simp only [le]
  omega
end Go.Proofs.Ytgfadfahbhcllaa.P
namespace Go.Proofs.Ytgfadfahbhcllaa.Q
open Go.RowKit Go.Proofs.YtgfadfahbhcllaaW.PrintWords Go.Proofs.YtgfadfahbhcllaaW.PrintLast Go.Proofs.YtgfadfahbhcllaaW.PrintMore Go.Proofs.Ytgfadfahbhcllaa.LK
set_option linter.unusedVariables false
set_option linter.unusedSimpArgs false
def impl_sectorOf.f (l : List Int) : Option (List Int) := if l.length = 64 then some l else none
set_option maxHeartbeats 8000000 in
set_option maxRecDepth 100000 in
theorem impl_sectorOf.calls {A : Option Addr} {c : Nat} {l r : List Int} {w : World} (hr : Kd.C (Kd.int .u8) w A l.length l) (h : impl_sectorOf.f l = some r) :
    Calls Try.prog 54 #[.slice A l.length c] w fun e w' => e = .returned (.agg (bytesV r).toArray) ∧ Below w.heap.size w w' := by
  have hl : l.length = 64 := by
    unfold impl_sectorOf.f at h
    by_cases h1 : l.length = 64
    · exact h1
    · rw [if_neg h1] at h; cases h
  unfold impl_sectorOf.f at h
  rw [if_pos hl] at h
  cases h
  have HL := Aside0.mk hl
  have HR := Aside0.mk hr
  clear hl hr
  go_enter Try.func54, Try.ntmps54
  go_wp2_with (first | ((with_reducible refine gate_dst (N := 2) rfl ?_); refine Aside0.out ?_))
  refine Aside0.mk ?_
  refine mk ?hw (N := 2) ?hd (cs := (List.replicate 64 (Value.int .u8 0)).toArray) (t := 79) ?hr ?_
  case hd => rfl
  case hw => rfl
  case hr => first | (go_simp; done) | (go_simp; rfl)
  intro g2 hg2 w1 hb2 hB2
  have H1 := Aside0.mk hB2
  have B2 := Aside0.mk hb2
  have G2 := Aside0.mk hg2
  clear hg2 hb2 hB2
  go_wp2_with (first | ((with_reducible refine gate_dst (N := 3) rfl ?_); refine Aside0.out ?_))
  refine Aside0.mk ?_
  refine mk ?hw3 (N := 3) ?hd3 (cs := (List.replicate 64 (Value.int .u8 0)).toArray) (t := 79) ?hr3 ?_
  case hd3 => rfl
  case hw3 => rfl
  case hr3 => first | (go_simp; done) | (go_simp; rfl)
  intro g3 hg3 w2 hb3 hB3
  have H2 := Aside0.mk (below_step H1.out hB3)
  have B2' := Aside0.mk ((hB3.block g2 (blk_lt B2.out)).trans B2.out)
  have B3 := Aside0.mk hb3
  have G3 := Aside0.mk (show g2 < g3 from hg3 ▸ blk_lt B2.out)
  clear hg3 hb3 hB3 B2 H1
  go_wp2_with (first | ((with_reducible refine gate_builtin (b := .copy) (xs := #[.tmp 4, .tmp 5]) rfl ?_); refine Aside0.out ?_))
  refine Aside0.mk ?_
  refine wpList_copy_splice rfl (.tmp 4) (.tmp 5) 25 25 rfl 5 Try.underlying25 (by kernel_rfl) _ _ 64 64 l.length c rfl rfl g3 0 (List.replicate 64 (Value.int .u8 0)) 79 B3.out (bytesV l) ?hn ?hpos ?hfit (bytesV_one l) g3 w2 (Below.refl _ _) (Nat.le_refl _) ?_
  case hn => rw [bytesV_length]; show _ = min _ _; rw [HL.out]; rfl
  case hpos =>
    intro hp
    rw [bytesV_length] at hp
    obtain ⟨ad, e, hc⟩ := bytes_at HR.out hp
    exact ⟨rfl, ad, e, fun j v hv => pw_cell_below H2.out (hc j v hv)⟩
  case hfit => rw [bytesV_length, HL.out]; simp
  intro w3 hb3 hB3
  have e : splice (List.replicate 64 (Value.int .u8 0)) 0 (bytesV l) = bytesV l := by
    unfold splice
    rw [List.drop_of_length_le (by rw [bytesV_length, HL.out]; simp)]
    simp
  have HB3 := Aside0.mk (show w3.heap[g3]? = some (.cells (bytesV l).toArray 79 (0, 0)) from e ▸ hb3)
  have H3 := Aside0.mk (show Below w.heap.size w w3 from ⟨hB3.os.trans H2.out.os, hB3.tape.trans H2.out.tape, hB3.output.trans H2.out.output, Nat.le_trans H2.out.size hB3.size, fun i hi => (hB3.block i (by have := G2.out; have := G3.out; omega)).trans (H2.out.block i hi)⟩)
  have B4 := Aside0.mk ((hB3.block g2 G3.out).trans B2'.out)
  clear hb3 hB3 e
  go_wp2_with (first | ((with_reducible refine gate_dst (N := 7) rfl ?_); refine Aside0.out ?_))
  refine Aside0.mk ?_
  refine ld ?hw7 rfl ?hx7 HB3.out Try.underlying79 rfl ?hi7 ?_
  case hi7 => rw [List.size_toArray, bytesV_length, HL.out]; kernel_rfl
  case hw7 => rfl
  case hx7 => rfl
  go_wp2_with (first | ((with_reducible refine gate_store (t := 79) (p := 2) rfl ?_); refine Aside0.out ?_))
  refine Aside0.mk ?_
  refine st_all ?hw8 ?hN8 rfl ?hp8 (cs := (bytesV l).toArray) ?hx8 B4.out ?ht8 ?hs8 ?h18 ?_
  case hw8 => rfl
  case hN8 => rfl
  case hp8 => rfl
  case hx8 => rfl
  case ht8 => rw [List.size_toArray, bytesV_length, HL.out]; kernel_rfl
  case hs8 => rw [List.size_toArray, bytesV_length, HL.out]; rfl
  case h18 => exact bytesV_one l
  intro w4 hb4 hS4
  have B5 := Aside0.mk hb4
  have H5 := Aside0.mk (show Below w.heap.size w w4 from ⟨hS4.os.trans H3.out.os, hS4.tape.trans H3.out.tape, hS4.output.trans H3.out.output, Nat.le_trans H3.out.size hS4.size, fun i hi => (hS4.block i (Nat.lt_of_lt_of_le hi H3.out.size) (by have := G2.out; omega)).trans (H3.out.block i hi)⟩)
  clear hb4 hS4
  go_wp2
  refine bodyPost_ret (results_cell_row rfl _ _ g2 79 (bytesV l).toArray (0, 0) _ rfl B5.out Try.underlying79 rfl ?hi9) rfl ?_
  case hi9 => rw [List.size_toArray, bytesV_length, HL.out]; kernel_rfl
  exact ⟨rfl, H5.out⟩
/-- The numbers of a sector. -/
def fSeq (l : List Int) : Int := P.le ((l.drop 0).take 4)
def fA (l : List Int) : Int := P.le ((l.drop 8).take 4)
def fB (l : List Int) : Int := P.le ((l.drop 12).take 4)
def fKind (l : List Int) : Int := l.getD 6 0
/-- Whether a sector holds a frame. -/
def isFrame (l : List Int) : Prop := (1 ≤ fKind l ∧ fKind l ≤ 3) ∧ frameCode (fSeq l) (fKind l) (fA l) (fB l) = l
instance (l : List Int) : Decidable (isFrame l) := by unfold isFrame; infer_instance
theorem num4 {l : List Int} (h : P.U8s l) (i : Nat) (hi : i + 4 ≤ l.length) : 0 ≤ P.le ((l.drop i).take 4) ∧ P.le ((l.drop i).take 4) ≤ 4294967295 := by
  have h1 := P.le_range ((h.drop i).take 4)
  rw [show ((l.drop i).take 4).length = 4 from by rw [List.length_take, List.length_drop]; omega] at h1
  omega
def frameOut (c : Bool) (q kd a b : Int) : Value := .tuple #[(if c then .agg #[.int .u32 q, .int .i64 kd, .int .u32 a, .int .u32 b] else .agg #[.int .u32 0, .int .i64 0, .int .u32 0, .int .u32 0]), .bool c]
set_option maxHeartbeats 8000000 in
set_option maxRecDepth 100000 in
theorem frame_raw {l : List Int} {q kd a b : Int} {r : Bool} {kq ka kb : Nat} {w : World} (hr : r = decide ((1 ≤ kd ∧ kd ≤ 3) ∧ frameCode q kd a b = l)) (hl : l.length = 64) (h6 : l[6]? = some kd) (hq : impl_get.f kq l 0 4 = some q) (ha : impl_get.f ka l 8 4 = some a) (hb : impl_get.f kb l 12 4 = some b)
    (rq : 0 ≤ q ∧ q ≤ 4294967295) (ra : 0 ≤ a ∧ a ≤ 4294967295) (rb : 0 ≤ b ∧ b ≤ 4294967295) (rk : 0 ≤ kd ∧ kd ≤ 255) :
    Calls Try.prog 55 #[.agg (bytesV l).toArray] w fun e w' => e = .returned (frameOut r q kd a b) ∧ Below w.heap.size w w' := by
  have jq : IntKind.u32.wrap q = q := by rw [IntKind.wrap_u32]; omega
  have ja : IntKind.u32.wrap a = a := by rw [IntKind.wrap_u32]; omega
  have jb : IntKind.u32.wrap b = b := by rw [IntKind.wrap_u32]; omega
  have jk : IntKind.i64.wrap kd = kd := by rw [IntKind.wrap_i64]; omega
  have hgd : impl_Frame_good.f q kd a b = some (decide (1 ≤ kd ∧ kd ≤ 3)) := by
    unfold impl_Frame_good.f
    by_cases c1 : kd ≥ 1
    · rw [if_pos c1]; congr 1; apply decide_eq_decide.2; omega
    · rw [if_neg c1, decide_eq_false (by omega)]
  have HGd := Aside0.mk hgd
  have HR := Aside0.mk hr
  have HL := Aside0.mk hl
  have H6 := Aside0.mk h6
  have HQ := Aside0.mk hq
  have HA := Aside0.mk ha
  have HBb := Aside0.mk hb
  have RQ := Aside0.mk rq
  have RA := Aside0.mk ra
  have RB := Aside0.mk rb
  have H0 := Aside0.mk (Bx.refl w)
  clear hr hgd hl h6 hq ha hb rq ra rb rk
  go_enter Try.func55, Try.ntmps55
  go_wp2_with (first | ((with_reducible refine gate_dst (N := 1) rfl ?_); refine Aside0.out ?_))
  refine Aside0.mk ?_
  refine mk ?hw1 (N := 1) ?hd1 (cs := (bytesV l).toArray) (t := 79) ?hr1 ?_
  case hd1 => rfl
  case hw1 => rfl
  case hr1 => first | (go_simp; done) | (go_simp; rfl)
  intro g1 hg1_ w101 hb1 hB1
  have H102 := Aside0.mk (H0.out.new hg1_ hb1 hB1)
  clear hg1_ hb1 hB1 H0
  go_wp2_with (first | ((with_reducible refine gate_dst (N := 2) rfl ?_); refine Aside0.out ?_))
  refine Aside0.mk ?_
  refine mk ?hw3 (N := 2) ?hd3 (cs := #[.int .u32 0, .int .i64 0, .int .u32 0, .int .u32 0]) (t := 27) ?hr3 ?_
  case hd3 => rfl
  case hw3 => rfl
  case hr3 => first | (go_simp; done) | (go_simp; rfl)
  intro g2 hg2_ w103 hb3 hB3
  have H104 := Aside0.mk (H102.out.new hg2_ hb3 hB3)
  clear hg2_ hb3 hB3 H102
  try go_wp2
  have H106 := Aside0.mk H104.out.drew
  refine start_ (n := 15) (S := fun w' => w'.cell? ⟨g1, 6, none⟩ = some (.int .u8 kd)) (ds := [14]) #[false, false, false, false, false, false, false, false, false, false, false, false, false, false, false] (by kernel_rfl) rfl rfl ((blk_cell (by first | exact H106.out.gt0 | exact H106.out.gt1 | exact H106.out.gt2) 6).trans (by unfold bytesV; rw [List.getElem?_toArray, List.getElem?_map, H6.out]; rfl)) (fun hHeld => ?_)
  clear H104
  generalize w103.drew = w105 at H106 hHeld ⊢
  refine pure_ (i := 0) (N := some 5) (v := ?_) (a' := ?_) #[true, false, false, false, false, false, false, false, false, false, false, false, false, false, false] rfl rfl (by kernel_rfl) (fun _ _ _ h => h) (Or.inl ⟨by rfl, ?_⟩) ?_ ?_
  rotate_left
  · intro w'
    go_simp
    with_reducible rfl
  rotate_left
  · simp only [Act.put, List.setIfInBounds_toArray, List.set_cons_zero, List.set_cons_succ, i64_w, i32_w]
    rfl
  refine pure_ (i := 3) (N := some 8) (v := ?_) (a' := ?_) #[true, false, false, true, false, false, false, false, false, false, false, false, false, false, false] rfl rfl (by kernel_rfl) (fun _ _ _ h => h) (Or.inl ⟨by rfl, ?_⟩) ?_ ?_
  rotate_left
  · intro w'
    go_simp
    with_reducible rfl
  rotate_left
  · simp only [Act.put, List.setIfInBounds_toArray, List.set_cons_zero, List.set_cons_succ, i64_w, i32_w]
    rfl
  refine pure_ (i := 6) (N := some 11) (v := ?_) (a' := ?_) #[true, false, false, true, false, false, true, false, false, false, false, false, false, false, false] rfl rfl (by kernel_rfl) (fun _ _ _ h => h) (Or.inl ⟨by rfl, ?_⟩) ?_ ?_
  rotate_left
  · intro w'
    go_simp
    with_reducible rfl
  rotate_left
  · simp only [Act.put, List.setIfInBounds_toArray, List.set_cons_zero, List.set_cons_succ, i64_w, i32_w]
    rfl
  refine pure_ (i := 9) (N := some 14) (v := ?_) (a' := ?_) #[true, false, false, true, false, false, true, false, false, true, false, false, false, false, false] rfl rfl (by kernel_rfl) (fun _ _ _ h => h) (Or.inl ⟨by rfl, ?_⟩) ?_ ?_
  rotate_left
  · intro w'
    go_simp
    with_reducible rfl
  rotate_left
  · simp only [Act.put, List.setIfInBounds_toArray, List.set_cons_zero, List.set_cons_succ, i64_w, i32_w]
    rfl
  refine take_ (i := 4) (N := some 9) (v := ?_) (a' := ?_) #[true, false, false, true, true, false, true, false, false, true, false, false, false, false, false] rfl rfl (by kernel_rfl) (fun _ _ _ h => h) (Or.inl ⟨by rfl, ?_⟩) hHeld ?_ ?_
  rotate_left
  · rintro w' s0
    go_simp
    with_reducible rfl
  rotate_left
  · simp only [Act.put, List.setIfInBounds_toArray, List.set_cons_zero, List.set_cons_succ, i64_w, i32_w]
    rfl
  refine pure_ (i := 5) (N := some 10) (v := ?_) (a' := ?_) #[true, false, false, true, true, true, true, false, false, true, false, false, false, false, false] rfl rfl (by kernel_rfl) (fun _ _ _ h => h) (Or.inl ⟨by rfl, ?_⟩) ?_ ?_
  rotate_left
  · intro w'
    go_simp
    with_reducible rfl
  rotate_left
  · simp only [Act.put, List.setIfInBounds_toArray, List.set_cons_zero, List.set_cons_succ, i64_w, i32_w]
    rfl
  refine join_ (σ := Nat) 1 #[true, true, true, true, true, true, true, true, true, true, true, true, true, true, false] (fun s_ => [(6, .int .u64 q), (7, .int .u32 q), (12, .int .u64 a), (13, .int .u32 a), (15, .int .u64 b), (16, .int .u32 b), (17, .agg #[.int .u32 q, .int .i64 kd, .int .u32 a, .int .u32 b]), (4, .pointer (some ⟨s_, 0, none⟩))]) (fun s_ w' => (w'.cell? ⟨g1, 6, none⟩ = some (.int .u8 kd)) ∧ Bx w [(s_, #[.int .u32 0, .int .i64 0, .int .u32 0, .int .u32 0], 27), (g2, #[.int .u32 0, .int .i64 0, .int .u32 0, .int .u32 0], 27), (g1, (bytesV l).toArray, 79)] w') ?_ ?_
  rotate_left
  · intro hCont
    refine two_ (i := 1) (j := 13) (Ni := some 6) (Nj := some 4) #[true, true, false, true, true, true, true, false, false, true, false, false, false, false, false] #[true, false, false, true, true, true, true, false, false, true, false, false, false, true, false] rfl rfl rfl rfl (by kernel_rfl) (by decide) (by decide) (fun K hK => ?_) (fun K hK => ?_)
    · skip
      refine goes_ Try.func90 (by kernel_rfl) rfl #[.slice (some ⟨g1, 0, none⟩) 64 64, .int .i64 0, .int .i64 4] (by rfl) rfl rfl (by (try simp only [List.map_toArray, List.map_cons, List.map_nil]); first | done | rfl) ?_
      have hC7 : Kd.C (Kd.int .u8) w105 (some ⟨g1, 0, none⟩) l.length l := (Kd.R_reads' (R_arr (base := 0) (l := l) H106.out.gt1 (Nat.zero_le _) (by rw [HL.out]; decide))).2.2
      have hc7 := impl_get.calls kq _ 64 l 0 4 q _ hC7 (by rw [HL.out]; decide) HQ.out
      rw [HL.out] at hc7
      refine hc7.mono ?_
      rintro e w107 ⟨rfl, hd_⟩
      refine ⟨_, rfl, ?_⟩
      have hb_ := hd_.below
      clear hd_ hC7 hc7
      have H108 := Aside0.mk (H106.out.step hb_)
      clear hb_ H106
      refine hK.out _ _ ((blk_cell (by first | exact H108.out.gt0 | exact H108.out.gt1 | exact H108.out.gt2) 6).trans (by unfold bytesV; rw [List.getElem?_toArray, List.getElem?_map, H6.out]; rfl)) (fun hHeld => ?_)
      clear hK K
      refine norm_ (a' := ?_) ?_ ?_
      rotate_left
      · show Act.put _ (some 6) _ = _
        simp only [Act.put, List.setIfInBounds_toArray, List.set_cons_zero, List.set_cons_succ, i64_w, i32_w]
        rfl
      refine pure_ (i := 2) (N := some 7) (v := ?_) (a' := ?_) #[true, true, true, true, true, true, true, false, false, true, false, false, false, false, false] rfl rfl (by kernel_rfl) (fun _ _ _ h => h) (Or.inl ⟨by rfl, ?_⟩) ?_ ?_
      rotate_left
      · intro w'
        go_simp
        with_reducible rfl
      rotate_left
      · simp only [Act.put, List.setIfInBounds_toArray, List.set_cons_zero, List.set_cons_succ, i64_w, i32_w]
        rfl
      refine two_ (i := 7) (j := 13) (Ni := some 12) (Nj := some 4) #[true, true, true, true, true, true, true, true, false, true, false, false, false, false, false] #[true, true, true, true, true, true, true, false, false, true, false, false, false, true, false] rfl rfl rfl rfl (by kernel_rfl) (by decide) (by decide) (fun K hK => ?_) (fun K hK => ?_)
      · skip
        refine goes_ Try.func90 (by kernel_rfl) rfl #[.slice (some ⟨g1, 0, none⟩) 64 64, .int .i64 8, .int .i64 4] (by rfl) rfl rfl (by (try simp only [List.map_toArray, List.map_cons, List.map_nil]); first | done | rfl) ?_
        have hC9 : Kd.C (Kd.int .u8) w107 (some ⟨g1, 0, none⟩) l.length l := (Kd.R_reads' (R_arr (base := 0) (l := l) H108.out.gt1 (Nat.zero_le _) (by rw [HL.out]; decide))).2.2
        have hc9 := impl_get.calls ka _ 64 l 8 4 a _ hC9 (by rw [HL.out]; decide) HA.out
        rw [HL.out] at hc9
        refine hc9.mono ?_
        rintro e w109 ⟨rfl, hd_⟩
        refine ⟨_, rfl, ?_⟩
        have hb_ := hd_.below
        clear hd_ hC9 hc9
        have H110 := Aside0.mk (H108.out.step hb_)
        clear hb_ H108
        refine hK.out _ _ ((blk_cell (by first | exact H110.out.gt0 | exact H110.out.gt1 | exact H110.out.gt2) 6).trans (by unfold bytesV; rw [List.getElem?_toArray, List.getElem?_map, H6.out]; rfl)) (fun hHeld => ?_)
        clear hK K
        refine norm_ (a' := ?_) ?_ ?_
        rotate_left
        · show Act.put _ (some 12) _ = _
          simp only [Act.put, List.setIfInBounds_toArray, List.set_cons_zero, List.set_cons_succ, i64_w, i32_w]
          rfl
        refine pure_ (i := 8) (N := some 13) (v := ?_) (a' := ?_) #[true, true, true, true, true, true, true, true, true, true, false, false, false, false, false] rfl rfl (by kernel_rfl) (fun _ _ _ h => h) (Or.inl ⟨by rfl, ?_⟩) ?_ ?_
        rotate_left
        · intro w'
          go_simp
          with_reducible rfl
        rotate_left
        · simp only [Act.put, List.setIfInBounds_toArray, List.set_cons_zero, List.set_cons_succ, i64_w, i32_w]
          rfl
        refine two_ (i := 10) (j := 13) (Ni := some 15) (Nj := some 4) #[true, true, true, true, true, true, true, true, true, true, true, false, false, false, false] #[true, true, true, true, true, true, true, true, true, true, false, false, false, true, false] rfl rfl rfl rfl (by kernel_rfl) (by decide) (by decide) (fun K hK => ?_) (fun K hK => ?_)
        · skip
          refine goes_ Try.func90 (by kernel_rfl) rfl #[.slice (some ⟨g1, 0, none⟩) 64 64, .int .i64 12, .int .i64 4] (by rfl) rfl rfl (by (try simp only [List.map_toArray, List.map_cons, List.map_nil]); first | done | rfl) ?_
          have hC11 : Kd.C (Kd.int .u8) w109 (some ⟨g1, 0, none⟩) l.length l := (Kd.R_reads' (R_arr (base := 0) (l := l) H110.out.gt1 (Nat.zero_le _) (by rw [HL.out]; decide))).2.2
          have hc11 := impl_get.calls kb _ 64 l 12 4 b _ hC11 (by rw [HL.out]; decide) HBb.out
          rw [HL.out] at hc11
          refine hc11.mono ?_
          rintro e w111 ⟨rfl, hd_⟩
          refine ⟨_, rfl, ?_⟩
          have hb_ := hd_.below
          clear hd_ hC11 hc11
          have H112 := Aside0.mk (H110.out.step hb_)
          clear hb_ H110
          refine hK.out _ _ ((blk_cell (by first | exact H112.out.gt0 | exact H112.out.gt1 | exact H112.out.gt2) 6).trans (by unfold bytesV; rw [List.getElem?_toArray, List.getElem?_map, H6.out]; rfl)) (fun hHeld => ?_)
          clear hK K
          refine norm_ (a' := ?_) ?_ ?_
          rotate_left
          · show Act.put _ (some 15) _ = _
            simp only [Act.put, List.setIfInBounds_toArray, List.set_cons_zero, List.set_cons_succ, i64_w, i32_w]
            rfl
          refine pure_ (i := 11) (N := some 16) (v := ?_) (a' := ?_) #[true, true, true, true, true, true, true, true, true, true, true, true, false, false, false] rfl rfl (by kernel_rfl) (fun _ _ _ h => h) (Or.inl ⟨by rfl, ?_⟩) ?_ ?_
          rotate_left
          · intro w'
            go_simp
            with_reducible rfl
          rotate_left
          · simp only [Act.put, List.setIfInBounds_toArray, List.set_cons_zero, List.set_cons_succ, i64_w, i32_w]
            rfl
          refine pure_ (i := 12) (N := some 17) (v := ?_) (a' := ?_) #[true, true, true, true, true, true, true, true, true, true, true, true, true, false, false] rfl rfl (by kernel_rfl) (fun _ _ _ h => h) (Or.inl ⟨by rfl, ?_⟩) ?_ ?_
          rotate_left
          · intro w'
            go_simp
            with_reducible rfl
          rotate_left
          · simp only [Act.put, List.setIfInBounds_toArray, List.set_cons_zero, List.set_cons_succ, i64_w, i32_w]
            rfl
          refine one_ (i := 13) (N := some 4) #[true, true, true, true, true, true, true, true, true, true, true, true, true, true, false] rfl rfl (by kernel_rfl) (by decide) (fun K hK => ?_)
          refine box_step ?hg13 (N := 4) ?hd13 (cs := #[.int .u32 0, .int .i64 0, .int .u32 0, .int .u32 0]) (t := 27) ?hr13 ?_
          case hd13 => rfl
          case hg13 => rfl
          case hr13 => first | (go_simp; done) | (go_simp; rfl)
          intro g4 hg4_ w113 hb13 hB13
          have H114 := Aside0.mk (H112.out.new hg4_ hb13 hB13)
          clear hg4_ hb13 hB13 H112
          refine hK.out _ _ ((blk_cell (by first | exact H114.out.gt0 | exact H114.out.gt1 | exact H114.out.gt2) 6).trans (by unfold bytesV; rw [List.getElem?_toArray, List.getElem?_map, H6.out]; rfl)) (fun hHeld => ?_)
          clear hK K
          refine norm_ (a' := ?_) ?_ ?_
          rotate_left
          · show Act.put _ (some 4) _ = _
            simp only [Act.put, List.setIfInBounds_toArray, List.set_cons_zero, List.set_cons_succ, i64_w, i32_w]
            rfl
          exact norm_ (by simp only [putAll, Act.put, List.setIfInBounds_toArray, List.set_cons_zero, List.set_cons_succ]) (hCont g4 _ ⟨hHeld, H114.out⟩)
        · skip
          refine box_step ?hg15 (N := 4) ?hd15 (cs := #[.int .u32 0, .int .i64 0, .int .u32 0, .int .u32 0]) (t := 27) ?hr15 ?_
          case hd15 => rfl
          case hg15 => rfl
          case hr15 => first | (go_simp; done) | (go_simp; rfl)
          intro g4 hg4_ w115 hb15 hB15
          have H116 := Aside0.mk (H110.out.new hg4_ hb15 hB15)
          clear hg4_ hb15 hB15 H110
          refine hK.out _ _ ((blk_cell (by first | exact H116.out.gt0 | exact H116.out.gt1 | exact H116.out.gt2) 6).trans (by unfold bytesV; rw [List.getElem?_toArray, List.getElem?_map, H6.out]; rfl)) (fun hHeld => ?_)
          clear hK K
          refine norm_ (a' := ?_) ?_ ?_
          rotate_left
          · show Act.put _ (some 4) _ = _
            simp only [Act.put, List.setIfInBounds_toArray, List.set_cons_zero, List.set_cons_succ, i64_w, i32_w]
            rfl
          refine one_ (i := 10) (N := some 15) #[true, true, true, true, true, true, true, true, true, true, true, false, false, true, false] rfl rfl (by kernel_rfl) (by decide) (fun K hK => ?_)
          refine goes_ Try.func90 (by kernel_rfl) rfl #[.slice (some ⟨g1, 0, none⟩) 64 64, .int .i64 12, .int .i64 4] (by rfl) rfl rfl (by (try simp only [List.map_toArray, List.map_cons, List.map_nil]); first | done | rfl) ?_
          have hC17 : Kd.C (Kd.int .u8) w115 (some ⟨g1, 0, none⟩) l.length l := (Kd.R_reads' (R_arr (base := 0) (l := l) H116.out.gt2 (Nat.zero_le _) (by rw [HL.out]; decide))).2.2
          have hc17 := impl_get.calls kb _ 64 l 12 4 b _ hC17 (by rw [HL.out]; decide) HBb.out
          rw [HL.out] at hc17
          refine hc17.mono ?_
          rintro e w117 ⟨rfl, hd_⟩
          refine ⟨_, rfl, ?_⟩
          have hb_ := hd_.below
          clear hd_ hC17 hc17
          have H118 := Aside0.mk (H116.out.step hb_)
          clear hb_ H116
          refine hK.out _ _ ((blk_cell (by first | exact H118.out.gt0 | exact H118.out.gt1 | exact H118.out.gt2) 6).trans (by unfold bytesV; rw [List.getElem?_toArray, List.getElem?_map, H6.out]; rfl)) (fun hHeld => ?_)
          clear hK K
          refine norm_ (a' := ?_) ?_ ?_
          rotate_left
          · show Act.put _ (some 15) _ = _
            simp only [Act.put, List.setIfInBounds_toArray, List.set_cons_zero, List.set_cons_succ, i64_w, i32_w]
            rfl
          refine pure_ (i := 11) (N := some 16) (v := ?_) (a' := ?_) #[true, true, true, true, true, true, true, true, true, true, true, true, false, true, false] rfl rfl (by kernel_rfl) (fun _ _ _ h => h) (Or.inl ⟨by rfl, ?_⟩) ?_ ?_
          rotate_left
          · intro w'
            go_simp
            with_reducible rfl
          rotate_left
          · simp only [Act.put, List.setIfInBounds_toArray, List.set_cons_zero, List.set_cons_succ, i64_w, i32_w]
            rfl
          refine pure_ (i := 12) (N := some 17) (v := ?_) (a' := ?_) #[true, true, true, true, true, true, true, true, true, true, true, true, true, true, false] rfl rfl (by kernel_rfl) (fun _ _ _ h => h) (Or.inl ⟨by rfl, ?_⟩) ?_ ?_
          rotate_left
          · intro w'
            go_simp
            with_reducible rfl
          rotate_left
          · simp only [Act.put, List.setIfInBounds_toArray, List.set_cons_zero, List.set_cons_succ, i64_w, i32_w]
            rfl
          exact norm_ (by simp only [putAll, Act.put, List.setIfInBounds_toArray, List.set_cons_zero, List.set_cons_succ]) (hCont g4 _ ⟨hHeld, H118.out⟩)
      · skip
        refine box_step ?hg19 (N := 4) ?hd19 (cs := #[.int .u32 0, .int .i64 0, .int .u32 0, .int .u32 0]) (t := 27) ?hr19 ?_
        case hd19 => rfl
        case hg19 => rfl
        case hr19 => first | (go_simp; done) | (go_simp; rfl)
        intro g4 hg4_ w119 hb19 hB19
        have H120 := Aside0.mk (H108.out.new hg4_ hb19 hB19)
        clear hg4_ hb19 hB19 H108
        refine hK.out _ _ ((blk_cell (by first | exact H120.out.gt0 | exact H120.out.gt1 | exact H120.out.gt2) 6).trans (by unfold bytesV; rw [List.getElem?_toArray, List.getElem?_map, H6.out]; rfl)) (fun hHeld => ?_)
        clear hK K
        refine norm_ (a' := ?_) ?_ ?_
        rotate_left
        · show Act.put _ (some 4) _ = _
          simp only [Act.put, List.setIfInBounds_toArray, List.set_cons_zero, List.set_cons_succ, i64_w, i32_w]
          rfl
        refine one_ (i := 7) (N := some 12) #[true, true, true, true, true, true, true, true, false, true, false, false, false, true, false] rfl rfl (by kernel_rfl) (by decide) (fun K hK => ?_)
        refine goes_ Try.func90 (by kernel_rfl) rfl #[.slice (some ⟨g1, 0, none⟩) 64 64, .int .i64 8, .int .i64 4] (by rfl) rfl rfl (by (try simp only [List.map_toArray, List.map_cons, List.map_nil]); first | done | rfl) ?_
        have hC21 : Kd.C (Kd.int .u8) w119 (some ⟨g1, 0, none⟩) l.length l := (Kd.R_reads' (R_arr (base := 0) (l := l) H120.out.gt2 (Nat.zero_le _) (by rw [HL.out]; decide))).2.2
        have hc21 := impl_get.calls ka _ 64 l 8 4 a _ hC21 (by rw [HL.out]; decide) HA.out
        rw [HL.out] at hc21
        refine hc21.mono ?_
        rintro e w121 ⟨rfl, hd_⟩
        refine ⟨_, rfl, ?_⟩
        have hb_ := hd_.below
        clear hd_ hC21 hc21
        have H122 := Aside0.mk (H120.out.step hb_)
        clear hb_ H120
        refine hK.out _ _ ((blk_cell (by first | exact H122.out.gt0 | exact H122.out.gt1 | exact H122.out.gt2) 6).trans (by unfold bytesV; rw [List.getElem?_toArray, List.getElem?_map, H6.out]; rfl)) (fun hHeld => ?_)
        clear hK K
        refine norm_ (a' := ?_) ?_ ?_
        rotate_left
        · show Act.put _ (some 12) _ = _
          simp only [Act.put, List.setIfInBounds_toArray, List.set_cons_zero, List.set_cons_succ, i64_w, i32_w]
          rfl
        refine pure_ (i := 8) (N := some 13) (v := ?_) (a' := ?_) #[true, true, true, true, true, true, true, true, true, true, false, false, false, true, false] rfl rfl (by kernel_rfl) (fun _ _ _ h => h) (Or.inl ⟨by rfl, ?_⟩) ?_ ?_
        rotate_left
        · intro w'
          go_simp
          with_reducible rfl
        rotate_left
        · simp only [Act.put, List.setIfInBounds_toArray, List.set_cons_zero, List.set_cons_succ, i64_w, i32_w]
          rfl
        refine one_ (i := 10) (N := some 15) #[true, true, true, true, true, true, true, true, true, true, true, false, false, true, false] rfl rfl (by kernel_rfl) (by decide) (fun K hK => ?_)
        refine goes_ Try.func90 (by kernel_rfl) rfl #[.slice (some ⟨g1, 0, none⟩) 64 64, .int .i64 12, .int .i64 4] (by rfl) rfl rfl (by (try simp only [List.map_toArray, List.map_cons, List.map_nil]); first | done | rfl) ?_
        have hC23 : Kd.C (Kd.int .u8) w121 (some ⟨g1, 0, none⟩) l.length l := (Kd.R_reads' (R_arr (base := 0) (l := l) H122.out.gt2 (Nat.zero_le _) (by rw [HL.out]; decide))).2.2
        have hc23 := impl_get.calls kb _ 64 l 12 4 b _ hC23 (by rw [HL.out]; decide) HBb.out
        rw [HL.out] at hc23
        refine hc23.mono ?_
        rintro e w123 ⟨rfl, hd_⟩
        refine ⟨_, rfl, ?_⟩
        have hb_ := hd_.below
        clear hd_ hC23 hc23
        have H124 := Aside0.mk (H122.out.step hb_)
        clear hb_ H122
        refine hK.out _ _ ((blk_cell (by first | exact H124.out.gt0 | exact H124.out.gt1 | exact H124.out.gt2) 6).trans (by unfold bytesV; rw [List.getElem?_toArray, List.getElem?_map, H6.out]; rfl)) (fun hHeld => ?_)
        clear hK K
        refine norm_ (a' := ?_) ?_ ?_
        rotate_left
        · show Act.put _ (some 15) _ = _
          simp only [Act.put, List.setIfInBounds_toArray, List.set_cons_zero, List.set_cons_succ, i64_w, i32_w]
          rfl
        refine pure_ (i := 11) (N := some 16) (v := ?_) (a' := ?_) #[true, true, true, true, true, true, true, true, true, true, true, true, false, true, false] rfl rfl (by kernel_rfl) (fun _ _ _ h => h) (Or.inl ⟨by rfl, ?_⟩) ?_ ?_
        rotate_left
        · intro w'
          go_simp
          with_reducible rfl
        rotate_left
        · simp only [Act.put, List.setIfInBounds_toArray, List.set_cons_zero, List.set_cons_succ, i64_w, i32_w]
          rfl
        refine pure_ (i := 12) (N := some 17) (v := ?_) (a' := ?_) #[true, true, true, true, true, true, true, true, true, true, true, true, true, true, false] rfl rfl (by kernel_rfl) (fun _ _ _ h => h) (Or.inl ⟨by rfl, ?_⟩) ?_ ?_
        rotate_left
        · intro w'
          go_simp
          with_reducible rfl
        rotate_left
        · simp only [Act.put, List.setIfInBounds_toArray, List.set_cons_zero, List.set_cons_succ, i64_w, i32_w]
          rfl
        exact norm_ (by simp only [putAll, Act.put, List.setIfInBounds_toArray, List.set_cons_zero, List.set_cons_succ]) (hCont g4 _ ⟨hHeld, H124.out⟩)
    · skip
      refine box_step ?hg25 (N := 4) ?hd25 (cs := #[.int .u32 0, .int .i64 0, .int .u32 0, .int .u32 0]) (t := 27) ?hr25 ?_
      case hd25 => rfl
      case hg25 => rfl
      case hr25 => first | (go_simp; done) | (go_simp; rfl)
      intro g4 hg4_ w125 hb25 hB25
      have H126 := Aside0.mk (H106.out.new hg4_ hb25 hB25)
      clear hg4_ hb25 hB25 H106
      refine hK.out _ _ ((blk_cell (by first | exact H126.out.gt0 | exact H126.out.gt1 | exact H126.out.gt2) 6).trans (by unfold bytesV; rw [List.getElem?_toArray, List.getElem?_map, H6.out]; rfl)) (fun hHeld => ?_)
      clear hK K
      refine norm_ (a' := ?_) ?_ ?_
      rotate_left
      · show Act.put _ (some 4) _ = _
        simp only [Act.put, List.setIfInBounds_toArray, List.set_cons_zero, List.set_cons_succ, i64_w, i32_w]
        rfl
      refine one_ (i := 1) (N := some 6) #[true, true, false, true, true, true, true, false, false, true, false, false, false, true, false] rfl rfl (by kernel_rfl) (by decide) (fun K hK => ?_)
      refine goes_ Try.func90 (by kernel_rfl) rfl #[.slice (some ⟨g1, 0, none⟩) 64 64, .int .i64 0, .int .i64 4] (by rfl) rfl rfl (by (try simp only [List.map_toArray, List.map_cons, List.map_nil]); first | done | rfl) ?_
      have hC27 : Kd.C (Kd.int .u8) w125 (some ⟨g1, 0, none⟩) l.length l := (Kd.R_reads' (R_arr (base := 0) (l := l) H126.out.gt2 (Nat.zero_le _) (by rw [HL.out]; decide))).2.2
      have hc27 := impl_get.calls kq _ 64 l 0 4 q _ hC27 (by rw [HL.out]; decide) HQ.out
      rw [HL.out] at hc27
      refine hc27.mono ?_
      rintro e w127 ⟨rfl, hd_⟩
      refine ⟨_, rfl, ?_⟩
      have hb_ := hd_.below
      clear hd_ hC27 hc27
      have H128 := Aside0.mk (H126.out.step hb_)
      clear hb_ H126
      refine hK.out _ _ ((blk_cell (by first | exact H128.out.gt0 | exact H128.out.gt1 | exact H128.out.gt2) 6).trans (by unfold bytesV; rw [List.getElem?_toArray, List.getElem?_map, H6.out]; rfl)) (fun hHeld => ?_)
      clear hK K
      refine norm_ (a' := ?_) ?_ ?_
      rotate_left
      · show Act.put _ (some 6) _ = _
        simp only [Act.put, List.setIfInBounds_toArray, List.set_cons_zero, List.set_cons_succ, i64_w, i32_w]
        rfl
      refine pure_ (i := 2) (N := some 7) (v := ?_) (a' := ?_) #[true, true, true, true, true, true, true, false, false, true, false, false, false, true, false] rfl rfl (by kernel_rfl) (fun _ _ _ h => h) (Or.inl ⟨by rfl, ?_⟩) ?_ ?_
      rotate_left
      · intro w'
        go_simp
        with_reducible rfl
      rotate_left
      · simp only [Act.put, List.setIfInBounds_toArray, List.set_cons_zero, List.set_cons_succ, i64_w, i32_w]
        rfl
      refine one_ (i := 7) (N := some 12) #[true, true, true, true, true, true, true, true, false, true, false, false, false, true, false] rfl rfl (by kernel_rfl) (by decide) (fun K hK => ?_)
      refine goes_ Try.func90 (by kernel_rfl) rfl #[.slice (some ⟨g1, 0, none⟩) 64 64, .int .i64 8, .int .i64 4] (by rfl) rfl rfl (by (try simp only [List.map_toArray, List.map_cons, List.map_nil]); first | done | rfl) ?_
      have hC29 : Kd.C (Kd.int .u8) w127 (some ⟨g1, 0, none⟩) l.length l := (Kd.R_reads' (R_arr (base := 0) (l := l) H128.out.gt2 (Nat.zero_le _) (by rw [HL.out]; decide))).2.2
      have hc29 := impl_get.calls ka _ 64 l 8 4 a _ hC29 (by rw [HL.out]; decide) HA.out
      rw [HL.out] at hc29
      refine hc29.mono ?_
      rintro e w129 ⟨rfl, hd_⟩
      refine ⟨_, rfl, ?_⟩
      have hb_ := hd_.below
      clear hd_ hC29 hc29
      have H130 := Aside0.mk (H128.out.step hb_)
      clear hb_ H128
      refine hK.out _ _ ((blk_cell (by first | exact H130.out.gt0 | exact H130.out.gt1 | exact H130.out.gt2) 6).trans (by unfold bytesV; rw [List.getElem?_toArray, List.getElem?_map, H6.out]; rfl)) (fun hHeld => ?_)
      clear hK K
      refine norm_ (a' := ?_) ?_ ?_
      rotate_left
      · show Act.put _ (some 12) _ = _
        simp only [Act.put, List.setIfInBounds_toArray, List.set_cons_zero, List.set_cons_succ, i64_w, i32_w]
        rfl
      refine pure_ (i := 8) (N := some 13) (v := ?_) (a' := ?_) #[true, true, true, true, true, true, true, true, true, true, false, false, false, true, false] rfl rfl (by kernel_rfl) (fun _ _ _ h => h) (Or.inl ⟨by rfl, ?_⟩) ?_ ?_
      rotate_left
      · intro w'
        go_simp
        with_reducible rfl
      rotate_left
      · simp only [Act.put, List.setIfInBounds_toArray, List.set_cons_zero, List.set_cons_succ, i64_w, i32_w]
        rfl
      refine one_ (i := 10) (N := some 15) #[true, true, true, true, true, true, true, true, true, true, true, false, false, true, false] rfl rfl (by kernel_rfl) (by decide) (fun K hK => ?_)
      refine goes_ Try.func90 (by kernel_rfl) rfl #[.slice (some ⟨g1, 0, none⟩) 64 64, .int .i64 12, .int .i64 4] (by rfl) rfl rfl (by (try simp only [List.map_toArray, List.map_cons, List.map_nil]); first | done | rfl) ?_
      have hC31 : Kd.C (Kd.int .u8) w129 (some ⟨g1, 0, none⟩) l.length l := (Kd.R_reads' (R_arr (base := 0) (l := l) H130.out.gt2 (Nat.zero_le _) (by rw [HL.out]; decide))).2.2
      have hc31 := impl_get.calls kb _ 64 l 12 4 b _ hC31 (by rw [HL.out]; decide) HBb.out
      rw [HL.out] at hc31
      refine hc31.mono ?_
      rintro e w131 ⟨rfl, hd_⟩
      refine ⟨_, rfl, ?_⟩
      have hb_ := hd_.below
      clear hd_ hC31 hc31
      have H132 := Aside0.mk (H130.out.step hb_)
      clear hb_ H130
      refine hK.out _ _ ((blk_cell (by first | exact H132.out.gt0 | exact H132.out.gt1 | exact H132.out.gt2) 6).trans (by unfold bytesV; rw [List.getElem?_toArray, List.getElem?_map, H6.out]; rfl)) (fun hHeld => ?_)
      clear hK K
      refine norm_ (a' := ?_) ?_ ?_
      rotate_left
      · show Act.put _ (some 15) _ = _
        simp only [Act.put, List.setIfInBounds_toArray, List.set_cons_zero, List.set_cons_succ, i64_w, i32_w]
        rfl
      refine pure_ (i := 11) (N := some 16) (v := ?_) (a' := ?_) #[true, true, true, true, true, true, true, true, true, true, true, true, false, true, false] rfl rfl (by kernel_rfl) (fun _ _ _ h => h) (Or.inl ⟨by rfl, ?_⟩) ?_ ?_
      rotate_left
      · intro w'
        go_simp
        with_reducible rfl
      rotate_left
      · simp only [Act.put, List.setIfInBounds_toArray, List.set_cons_zero, List.set_cons_succ, i64_w, i32_w]
        rfl
      refine pure_ (i := 12) (N := some 17) (v := ?_) (a' := ?_) #[true, true, true, true, true, true, true, true, true, true, true, true, true, true, false] rfl rfl (by kernel_rfl) (fun _ _ _ h => h) (Or.inl ⟨by rfl, ?_⟩) ?_ ?_
      rotate_left
      · intro w'
        go_simp
        with_reducible rfl
      rotate_left
      · simp only [Act.put, List.setIfInBounds_toArray, List.set_cons_zero, List.set_cons_succ, i64_w, i32_w]
        rfl
      exact norm_ (by simp only [putAll, Act.put, List.setIfInBounds_toArray, List.set_cons_zero, List.set_cons_succ]) (hCont g4 _ ⟨hHeld, H132.out⟩)
  rintro g4 w133 ⟨hHeld, hX_⟩
  have H134 := Aside0.mk hX_
  clear hX_ H106
  refine norm_ (a' := ?_) ?_ ?_
  rotate_left
  · simp only [putAll, Act.put, List.setIfInBounds_toArray, List.set_cons_zero, List.set_cons_succ]
    rfl
  refine last_ (i := 14) (N := none) #[true, true, true, true, true, true, true, true, true, true, true, true, true, true, true] rfl rfl (by kernel_rfl) (by decide) (fun K hK => ?_)
  refine st_step (by rfl) rfl rfl ?hp35 (cs := #[.int .u32 q, .int .i64 kd, .int .u32 a, .int .u32 b]) ?hx35 H134.out.gt0 (by kernel_rfl) (rfl) (by simp [Value.oneCell']) ?_
  case hp35 => rfl
  case hx35 => rfl
  intro w135 hb35 hS35
  have H136 := Aside0.mk (H134.out.wr0 (cs' := #[.int .u32 q, .int .i64 kd, .int .u32 a, .int .u32 b]) hb35 hS35)
  clear hb35 hS35 H134
  refine hK.out _ _ ?_
  clear hK K
  refine done_ (by kernel_rfl) ?_
  try go_wp2
  have H138 := Aside0.mk H136.out.drew
  refine start_ (n := 9) (S := fun w' => w'.heap[g4]? = some (.cells #[.int .u32 q, .int .i64 kd, .int .u32 a, .int .u32 b] 27 (0, 0)) ∧ w'.heap[g1]? = some (.cells (bytesV l).toArray 79 (0, 0))) (ds := []) #[false, false, false, false, false, false, false, false, false] (by kernel_rfl) rfl rfl ⟨H138.out.gt0, H138.out.gt2⟩ (fun hHeld => ?_)
  clear H136
  generalize w135.drew = w137 at H138 hHeld ⊢
  refine take_ (i := 0) (N := some 18) (v := .agg #[.int .u32 q, .int .i64 kd, .int .u32 a, .int .u32 b]) (a' := ?_) #[true, false, false, false, false, false, false, false, false] rfl rfl (by kernel_rfl) (fun _ _ _ h => h) (Or.inl ⟨by rfl, ?yl39⟩) hHeld ?ha39 ?hh39
  case yl39 =>
    rintro w' ⟨s0, s1⟩
    exact ld_run (x := .tmp 4) (by rfl) (by rfl) s0 Try.underlying27 rfl (by kernel_rfl)
  case ha39 =>
    simp only [Act.put, List.setIfInBounds_toArray, List.set_cons_zero, List.set_cons_succ, i64_w, i32_w]
    rfl
  refine one_ (i := 1) (N := some 19) #[true, true, false, false, false, false, false, false, false] rfl rfl (by kernel_rfl) (by decide) (fun K hK => ?_)
  refine goes_ Try.func51 (by kernel_rfl) rfl #[.agg #[.int .u32 q, .int .i64 kd, .int .u32 a, .int .u32 b]] (by rfl) rfl rfl (by (try simp only [List.map_toArray, List.map_cons, List.map_nil]); first | done | rfl) ?_
  refine (impl_Frame_good.calls q kd a b _ _ HGd.out).mono ?_
  rintro e w140 ⟨rfl, hb_⟩
  refine ⟨_, rfl, ?_⟩
  have H141 := Aside0.mk (H138.out.step hb_)
  clear hb_ H138
  refine hK.out _ _ ⟨H141.out.gt0, H141.out.gt2⟩ (fun hHeld => ?_)
  clear hK K
  refine norm_ (a' := ?_) ?_ ?_
  rotate_left
  · show Act.put _ (some 19) _ = _
    simp only [Act.put, List.setIfInBounds_toArray, List.set_cons_zero, List.set_cons_succ, i64_w, i32_w]
    rfl
  by_cases hk : 1 ≤ kd ∧ kd ≤ 3
  · rw [decide_eq_true hk]
    have HK := Aside0.mk hk
    clear hk
    refine pure_ (i := 2) (N := some 20) (v := ?_) (a' := ?_) #[true, true, true, false, false, false, false, false, false] rfl rfl (by kernel_rfl) (fun _ _ _ h => h) (Or.inl ⟨by rfl, ?_⟩) ?_ ?_
    rotate_left
    · intro w'
      go_simp
      with_reducible rfl
    rotate_left
    · simp only [Act.put, List.setIfInBounds_toArray, List.set_cons_zero, List.set_cons_succ, i64_w, i32_w]
      rfl
    refine pure_ (i := 3) (N := some 21) (v := ?_) (a' := ?_) #[true, true, true, true, false, false, false, false, false] rfl rfl (by kernel_rfl) (fun _ _ _ h => h) (Or.inl ⟨by rfl, ?_⟩) ?_ ?_
    rotate_left
    · intro w'
      go_simp
      with_reducible rfl
    rotate_left
    · simp only [Act.put, List.setIfInBounds_toArray, List.set_cons_zero, List.set_cons_succ, i64_w, i32_w]
      rfl
    refine take_ (i := 4) (N := some 22) (v := .agg #[.int .u32 q, .int .i64 kd, .int .u32 a, .int .u32 b]) (a' := ?_) #[true, true, true, true, true, false, false, false, false] rfl rfl (by kernel_rfl) (fun _ _ _ h => h) (Or.inl ⟨by rfl, ?yl42⟩) hHeld ?ha42 ?hh42
    case yl42 =>
      rintro w' ⟨s0, s1⟩
      exact ld_run (x := .tmp 4) (by rfl) (by rfl) s0 Try.underlying27 rfl (by kernel_rfl)
    case ha42 =>
      simp only [Act.put, List.setIfInBounds_toArray, List.set_cons_zero, List.set_cons_succ, i64_w, i32_w]
      rfl
    refine take_ (i := 6) (N := some 24) (v := .agg (bytesV l).toArray) (a' := ?_) #[true, true, true, true, true, false, true, false, false] rfl rfl (by kernel_rfl) (fun _ _ _ h => h) (Or.inl ⟨by rfl, ?yl43⟩) hHeld ?ha43 ?hh43
    case yl43 =>
      rintro w' ⟨s0, s1⟩
      exact ld_run (x := .tmp 1) (by rfl) (by rfl) s1 Try.underlying79 rfl (by rw [List.size_toArray, bytesV_length, HL.out]; kernel_rfl)
    case ha43 =>
      simp only [Act.put, List.setIfInBounds_toArray, List.set_cons_zero, List.set_cons_succ, i64_w, i32_w]
      rfl
    refine one_ (i := 5) (N := some 23) #[true, true, true, true, true, true, true, false, false] rfl rfl (by kernel_rfl) (by decide) (fun K hK => ?_)
    refine goes_ Try.func52 (by kernel_rfl) rfl #[.agg #[.int .u32 q, .int .i64 kd, .int .u32 a, .int .u32 b]] (by rfl) rfl rfl (by (try simp only [List.map_toArray, List.map_cons, List.map_nil]); first | done | rfl) ?_
    refine (code_calls RQ.out RA.out RB.out).mono ?_
    rintro e w144 ⟨rfl, hb_⟩
    refine ⟨_, rfl, ?_⟩
    have H145 := Aside0.mk (H141.out.step hb_)
    clear hb_ H141
    refine hK.out _ _ ⟨H145.out.gt0, H145.out.gt2⟩ (fun hHeld => ?_)
    clear hK K
    refine norm_ (a' := ?_) ?_ ?_
    rotate_left
    · show Act.put _ (some 23) _ = _
      simp only [Act.put, List.setIfInBounds_toArray, List.set_cons_zero, List.set_cons_succ, i64_w, i32_w]
      rfl
    obtain ⟨i5, hi5, _, hsz5, _⟩ := info_parts info5
    have hne := fun W => neq_arr (P := Try.prog) (w := W) Try.underlying79 Try.underlying5 hi5 (by kernel_rfl) (frameCode_length q kd a b) HL.out
    refine pure_ (i := 7) (N := some 25) (v := ?_) (a' := ?_) #[true, true, true, true, true, true, true, true, false] rfl rfl (by kernel_rfl) (fun _ _ _ h => h) (Or.inl ⟨by rfl, ?_⟩) ?_ ?_
    rotate_left
    · intro w'
      go_simp
      first | with_reducible rfl | rfl
    rotate_left
    · simp only [Act.put, List.setIfInBounds_toArray, List.set_cons_zero, List.set_cons_succ, i64_w, i32_w]
      rfl
    refine pure_ (i := 8) (N := some 26) (v := ?_) (a' := ?_) #[true, true, true, true, true, true, true, true, true] rfl rfl (by kernel_rfl) (fun _ _ _ h => h) (Or.inl ⟨by rfl, ?_⟩) ?_ ?_
    rotate_left
    · intro w'
      go_simp
      with_reducible rfl
    rotate_left
    · simp only [Act.put, List.setIfInBounds_toArray, List.set_cons_zero, List.set_cons_succ, i64_w, i32_w]
      rfl
    refine done_ (by kernel_rfl) ?_
    clear hne
    clear hi5 hsz5 hHeld
    by_cases hc : frameCode q kd a b = l
    · rw [decide_eq_true hc]
      have HC := Aside0.mk hc
      clear hc
      go_wp2_with (first | ((with_reducible refine gate_dst (N := 28) rfl ?_); refine Aside0.out ?_))
      refine Aside0.mk ?_
      refine ld ?hw46 rfl ?hx46 H145.out.gt0 Try.underlying27 rfl (by kernel_rfl) ?_
      case hw46 => rfl
      case hx46 => rfl
      go_wp2_with (first | ((with_reducible refine gate_store (t := 27) (p := 2) rfl ?_); refine Aside0.out ?_))
      refine Aside0.mk ?_
      refine st_all ?hw47 ?hN47 rfl ?hp47 (cs := #[.int .u32 q, .int .i64 kd, .int .u32 a, .int .u32 b]) ?hx47 H145.out.gt1 (by kernel_rfl) rfl (by simp [Value.oneCell']) ?_
      case hw47 => rfl
      case hN47 => rfl
      case hp47 => rfl
      case hx47 => first | rfl | (go_simp; rfl)
      intro w147 hb47 hS47
      have H148 := Aside0.mk (H145.out.wr1 (cs' := #[.int .u32 q, .int .i64 kd, .int .u32 a, .int .u32 b]) hb47 hS47)
      clear hb47 hS47 H145
      go_wp2
      refine bodyPost_ret (results_ct rfl _ _ g2 27 #[.int .u32 q, .int .i64 kd, .int .u32 a, .int .u32 b] (0, 0) _ rfl H148.out.gt1 Try.underlying27 rfl (by kernel_rfl)) rfl ?_
      exact ⟨by rw [HR.out, decide_eq_true ⟨HK.out, HC.out⟩]; rfl, H148.out.below⟩
    · rw [decide_eq_false hc]
      have HC := Aside0.mk hc
      clear hc
      go_wp2_with (first | ((with_reducible refine gate_store (t := 27) (p := 2) rfl ?_); refine Aside0.out ?_))
      refine Aside0.mk ?_
      refine st_all ?hw46 ?hN46 rfl ?hp46 (cs := #[.int .u32 0, .int .i64 0, .int .u32 0, .int .u32 0]) ?hx46 H145.out.gt1 (by kernel_rfl) rfl (by simp [Value.oneCell']) ?_
      case hw46 => rfl
      case hN46 => rfl
      case hp46 => rfl
      case hx46 => first | rfl | (go_simp; rfl)
      intro w146 hb46 hS46
      have H147 := Aside0.mk (H145.out.wr1 (cs' := #[.int .u32 0, .int .i64 0, .int .u32 0, .int .u32 0]) hb46 hS46)
      clear hb46 hS46 H145
      go_wp2
      refine bodyPost_ret (results_ct rfl _ _ g2 27 #[.int .u32 0, .int .i64 0, .int .u32 0, .int .u32 0] (0, 0) _ rfl H147.out.gt1 Try.underlying27 rfl (by kernel_rfl)) rfl ?_
      exact ⟨by rw [HR.out, decide_eq_false (fun h => HC.out h.2)]; rfl, H147.out.below⟩
  · rw [decide_eq_false hk]
    have HK := Aside0.mk hk
    clear hk
    refine pure_ (i := 2) (N := some 20) (v := ?_) (a' := ?_) #[true, true, true, false, false, false, false, false, false] rfl rfl (by kernel_rfl) (fun _ _ _ h => h) (Or.inl ⟨by rfl, ?_⟩) ?_ ?_
    rotate_left
    · intro w'
      go_simp
      with_reducible rfl
    rotate_left
    · simp only [Act.put, List.setIfInBounds_toArray, List.set_cons_zero, List.set_cons_succ, i64_w, i32_w]
      rfl
    refine pure_ (i := 3) (N := some 21) (v := ?_) (a' := ?_) #[true, true, true, true, false, false, false, false, false] rfl rfl (by kernel_rfl) (fun _ _ _ h => h) (Or.inl ⟨by rfl, ?_⟩) ?_ ?_
    rotate_left
    · intro w'
      go_simp
      with_reducible rfl
    rotate_left
    · simp only [Act.put, List.setIfInBounds_toArray, List.set_cons_zero, List.set_cons_succ, i64_w, i32_w]
      rfl
    refine pure_ (i := 4) (N := some 22) (v := undef) (a' := ?_) #[true, true, true, true, true, false, false, false, false] rfl rfl (by kernel_rfl) (fun _ _ _ h => h) (Or.inr ⟨by rfl, rfl⟩) ?_ ?_
    rotate_left
    · simp only [Act.put, List.setIfInBounds_toArray, List.set_cons_zero, List.set_cons_succ, i64_w, i32_w]
      rfl
    refine pure_ (i := 6) (N := some 24) (v := undef) (a' := ?_) #[true, true, true, true, true, false, true, false, false] rfl rfl (by kernel_rfl) (fun _ _ _ h => h) (Or.inr ⟨by rfl, rfl⟩) ?_ ?_
    rotate_left
    · simp only [Act.put, List.setIfInBounds_toArray, List.set_cons_zero, List.set_cons_succ, i64_w, i32_w]
      rfl
    refine pure_ (i := 5) (N := some 23) (v := undef) (a' := ?_) #[true, true, true, true, true, true, true, false, false] rfl rfl (by kernel_rfl) (fun _ _ _ h => h) (Or.inr ⟨by rfl, rfl⟩) ?_ ?_
    rotate_left
    · simp only [Act.put, List.setIfInBounds_toArray, List.set_cons_zero, List.set_cons_succ, i64_w, i32_w]
      rfl
    refine pure_ (i := 7) (N := some 25) (v := undef) (a' := ?_) #[true, true, true, true, true, true, true, true, false] rfl rfl (by kernel_rfl) (fun _ _ _ h => h) (Or.inr ⟨by rfl, rfl⟩) ?_ ?_
    rotate_left
    · simp only [Act.put, List.setIfInBounds_toArray, List.set_cons_zero, List.set_cons_succ, i64_w, i32_w]
      rfl
    refine pure_ (i := 8) (N := some 26) (v := ?_) (a' := ?_) #[true, true, true, true, true, true, true, true, true] rfl rfl (by kernel_rfl) (fun _ _ _ h => h) (Or.inl ⟨by rfl, ?_⟩) ?_ ?_
    rotate_left
    · intro w'
      go_simp
      with_reducible rfl
    rotate_left
    · simp only [Act.put, List.setIfInBounds_toArray, List.set_cons_zero, List.set_cons_succ, i64_w, i32_w]
      rfl
    refine done_ (by kernel_rfl) ?_
    clear hHeld
    go_wp2_with (first | ((with_reducible refine gate_store (t := 27) (p := 2) rfl ?_); refine Aside0.out ?_))
    refine Aside0.mk ?_
    refine st_all ?hw42 ?hN42 rfl ?hp42 (cs := #[.int .u32 0, .int .i64 0, .int .u32 0, .int .u32 0]) ?hx42 H141.out.gt1 (by kernel_rfl) rfl (by simp [Value.oneCell']) ?_
    case hw42 => rfl
    case hN42 => rfl
    case hp42 => rfl
    case hx42 => first | rfl | (go_simp; rfl)
    intro w142 hb42 hS42
    have H143 := Aside0.mk (H141.out.wr1 (cs' := #[.int .u32 0, .int .i64 0, .int .u32 0, .int .u32 0]) hb42 hS42)
    clear hb42 hS42 H141
    go_wp2
    refine bodyPost_ret (results_ct rfl _ _ g2 27 #[.int .u32 0, .int .i64 0, .int .u32 0, .int .u32 0] (0, 0) _ rfl H143.out.gt1 Try.underlying27 rfl (by kernel_rfl)) rfl ?_
    exact ⟨by rw [HR.out, decide_eq_false (fun h => HK.out h.1)]; rfl, H143.out.below⟩
theorem frame_calls {l : List Int} {w : World} (hl : l.length = 64) (hu : P.U8s l) :
    Calls Try.prog 55 #[.agg (bytesV l).toArray] w fun e w' => e = .returned (frameOut (decide (isFrame l)) (fSeq l) (fKind l) (fA l) (fB l)) ∧ Below w.heap.size w w' := by
  obtain ⟨kq, hkq⟩ := (P.impl_get_ev l 0 4 hu (by decide) (by decide) (by decide) (by omega) (by omega)).ex
  obtain ⟨ka, hka⟩ := (P.impl_get_ev l 8 4 hu (by decide) (by decide) (by decide) (by omega) (by omega)).ex
  obtain ⟨kb, hkb⟩ := (P.impl_get_ev l 12 4 hu (by decide) (by decide) (by decide) (by omega) (by omega)).ex
  have h6 : l[6]? = some (fKind l) := by unfold fKind; rw [List.getD_eq_getElem?_getD, List.getElem?_eq_getElem (by omega)]; rfl
  exact frame_raw rfl hl h6 hkq hka hkb (num4 hu 0 (by omega)) (num4 hu 8 (by omega)) (num4 hu 12 (by omega)) (hu.at_ h6)

instance (l : List Int) : Decidable (P.U8s l) := by unfold P.U8s; infer_instance
/-- What DecodeFrame answers. -/
def impl_DecodeFrame.f (l0 : List Int) : Option (Bool × Int × Int × Int × Int) :=
  if P.U8s l0 then some (if l0.length = 64 ∧ isFrame l0 then (true, fSeq l0, fKind l0, fA l0, fB l0) else (false, 0, 0, 0, 0)) else none
set_option maxHeartbeats 8000000 in
set_option maxRecDepth 100000 in
theorem impl_DecodeFrame.calls (A0 : Option Addr) (c0 : Nat) (l0 : List Int) (r1 : Bool) (r2 : Int) (r3 : Int) (r4 : Int) (r5 : Int) (w : World) (hr0 : Kd.C (Kd.int .u8) w A0 l0.length l0) (hc0 : l0.length ≤ c0) (h : impl_DecodeFrame.f l0 = some (r1, r2, r3, r4, r5)) :
    Calls Try.prog 19 #[.slice A0 l0.length c0] w fun e w' => e = .returned (.agg #[.bool r1, .int .u32 r2, .int .i64 r3, .int .u32 r4, .int .u32 r5]) ∧ Below w.heap.size w w' := by
  unfold impl_DecodeFrame.f at h
  by_cases hu : P.U8s l0
  case neg => rw [if_neg hu] at h; cases h
  rw [if_pos hu] at h
  have h := Option.some.inj h
  have HU := Aside0.mk hu
  have HR0 := Aside0.mk hr0
  have H := Aside0.mk h
  have H0 := Aside0.mk (Bx.refl w)
  clear hu hr0 h
  go_enter Try.func19, Try.ntmps19
  go_wp2_with (first | ((with_reducible refine gate_dst (N := 2) rfl ?_); refine Aside0.out ?_))
  refine Aside0.mk ?_
  refine mk ?hw1 (N := 2) ?hd1 (cs := #[.bool false, .int .u32 0, .int .i64 0, .int .u32 0, .int .u32 0]) (t := 33) ?hr1 ?_
  case hd1 => rfl
  case hw1 => rfl
  case hr1 => first | (go_simp; done) | (go_simp; rfl)
  intro g2 hg2_ w101 hb1 hB1
  have H102 := Aside0.mk (H0.out.new hg2_ hb1 hB1)
  clear hg2_ hb1 hB1 H0
  by_cases h64 : l0.length = 64
  · have h64b : ((l0.length : Int) != 64) = false := bne_eq_false_iff_eq.mpr (by omega)
    have H64 := Aside0.mk h64
    clear h64
    go_wp2_with (first | ((with_reducible refine gate_callee (f := 54) rfl ?_); refine Aside0.out ?_))
    refine Aside0.mk ?_
    refine goesW (some 11) rfl ?hw3 Try.func54 (by kernel_rfl) rfl #[.slice A0 l0.length c0] rfl (by (try simp only [List.map_toArray, List.map_cons, List.map_nil]); first | done | rfl) ?_
    case hw3 => rfl
    refine (impl_sectorOf.calls (Kd.C_below HR0.out H102.out.below) (if_pos H64.out)).mono ?_
    rintro e w103 ⟨rfl, hb_⟩
    refine ⟨_, rfl, ?_⟩
    have H104 := Aside0.mk (H102.out.step hb_)
    clear hb_ H102
    go_wp2_with (first | ((with_reducible refine gate_callee (f := 55) rfl ?_); refine Aside0.out ?_))
    refine Aside0.mk ?_
    refine goesW (some 12) rfl ?hw5 Try.func55 (by kernel_rfl) rfl #[.agg (bytesV l0).toArray] rfl (by (try simp only [List.map_toArray, List.map_cons, List.map_nil]); first | done | rfl) ?_
    case hw5 => rfl
    refine (frame_calls H64.out HU.out).mono ?_
    rintro e w105 ⟨rfl, hb_⟩
    refine ⟨_, rfl, ?_⟩
    have H106 := Aside0.mk (H104.out.step hb_)
    clear hb_ H104
    by_cases hf : isFrame l0
    · rw [decide_eq_true hf, show frameOut true (fSeq l0) (fKind l0) (fA l0) (fB l0) = .tuple #[.agg #[.int .u32 (fSeq l0), .int .i64 (fKind l0), .int .u32 (fA l0), .int .u32 (fB l0)], .bool true] from rfl]
      have HF := Aside0.mk hf
      clear hf
      go_wp2_with (first | ((with_reducible refine gate_dst (N := 3) rfl ?_); refine Aside0.out ?_))
      refine Aside0.mk ?_
      refine mk ?hw7 (N := 3) ?hd7 (cs := #[.int .u32 0, .int .i64 0, .int .u32 0, .int .u32 0]) (t := 27) ?hr7 ?_
      case hd7 => rfl
      case hw7 => rfl
      case hr7 => first | (go_simp; done) | (go_simp; rfl)
      intro g3 hg3_ w107 hb7 hB7
      have H108 := Aside0.mk (H106.out.new hg3_ hb7 hB7)
      clear hg3_ hb7 hB7 H106
      go_wp2_with (first | ((with_reducible refine gate_store (t := 27) (p := 3) rfl ?_); refine Aside0.out ?_))
      refine Aside0.mk ?_
      refine st_all ?hw9 ?hN9 rfl ?hp9 (cs := #[.int .u32 (fSeq l0), .int .i64 (fKind l0), .int .u32 (fA l0), .int .u32 (fB l0)]) ?hx9 H108.out.gt0 (by kernel_rfl) rfl (by simp [Value.oneCell']) ?_
      case hw9 => rfl
      case hN9 => rfl
      case hp9 => rfl
      case hx9 => first | rfl | (go_simp; rfl)
      intro w109 hb9 hS9
      have H110 := Aside0.mk (H108.out.wr0 (cs' := #[.int .u32 (fSeq l0), .int .i64 (fKind l0), .int .u32 (fA l0), .int .u32 (fB l0)]) hb9 hS9)
      clear hb9 hS9 H108
      go_wp2_with (first | ((with_reducible refine gate_dst (N := 16) rfl ?_); refine Aside0.out ?_))
      refine Aside0.mk ?_
      refine ld ?hw11 rfl ?hx11 H110.out.gt0 Try.underlying27 rfl (by kernel_rfl) ?_
      case hw11 => rfl
      case hx11 => rfl
      go_wp2_with (first | ((with_reducible refine gate_store (t := 33) (p := 2) rfl ?_); refine Aside0.out ?_))
      refine Aside0.mk ?_
      refine st_all ?hw12 ?hN12 rfl ?hp12 (cs := #[.bool true, .int .u32 (fSeq l0), .int .i64 (fKind l0), .int .u32 (fA l0), .int .u32 (fB l0)]) ?hx12 H110.out.gt1 (by kernel_rfl) rfl (by simp [Value.oneCell']) ?_
      case hw12 => rfl
      case hN12 => rfl
      case hp12 => rfl
      case hx12 => first | rfl | (go_simp; rfl)
      intro w112 hb12 hS12
      have H113 := Aside0.mk (H110.out.wr1 (cs' := #[.bool true, .int .u32 (fSeq l0), .int .i64 (fKind l0), .int .u32 (fA l0), .int .u32 (fB l0)]) hb12 hS12)
      clear hb12 hS12 H110
      go_wp2
      refine bodyPost_ret (results_cell_row rfl _ _ g2 33 #[.bool true, .int .u32 (fSeq l0), .int .i64 (fKind l0), .int .u32 (fA l0), .int .u32 (fB l0)] (0, 0) _ rfl H113.out.gt1 Try.underlying33 rfl (by kernel_rfl)) rfl ?_
      have h := H.out
      rw [if_pos ⟨H64.out, HF.out⟩] at h
      cases h
      exact ⟨rfl, H113.out.below⟩
    · rw [decide_eq_false hf, show frameOut false (fSeq l0) (fKind l0) (fA l0) (fB l0) = .tuple #[.agg #[.int .u32 0, .int .i64 0, .int .u32 0, .int .u32 0], .bool false] from rfl]
      have HF := Aside0.mk hf
      clear hf
      go_wp2_with (first | ((with_reducible refine gate_dst (N := 3) rfl ?_); refine Aside0.out ?_))
      refine Aside0.mk ?_
      refine mk ?hw7 (N := 3) ?hd7 (cs := #[.int .u32 0, .int .i64 0, .int .u32 0, .int .u32 0]) (t := 27) ?hr7 ?_
      case hd7 => rfl
      case hw7 => rfl
      case hr7 => first | (go_simp; done) | (go_simp; rfl)
      intro g3 hg3_ w107 hb7 hB7
      have H108 := Aside0.mk (H106.out.new hg3_ hb7 hB7)
      clear hg3_ hb7 hB7 H106
      go_wp2_with (first | ((with_reducible refine gate_store (t := 27) (p := 3) rfl ?_); refine Aside0.out ?_))
      refine Aside0.mk ?_
      refine st_all ?hw9 ?hN9 rfl ?hp9 (cs := #[.int .u32 0, .int .i64 0, .int .u32 0, .int .u32 0]) ?hx9 H108.out.gt0 (by kernel_rfl) rfl (by simp [Value.oneCell']) ?_
      case hw9 => rfl
      case hN9 => rfl
      case hp9 => rfl
      case hx9 => first | rfl | (go_simp; rfl)
      intro w109 hb9 hS9
      have H110 := Aside0.mk (H108.out.wr0 (cs' := #[.int .u32 0, .int .i64 0, .int .u32 0, .int .u32 0]) hb9 hS9)
      clear hb9 hS9 H108
      go_wp2_with (first | ((with_reducible refine gate_dst (N := 16) rfl ?_); refine Aside0.out ?_))
      refine Aside0.mk ?_
      refine ld ?hw11 rfl ?hx11 H110.out.gt0 Try.underlying27 rfl (by kernel_rfl) ?_
      case hw11 => rfl
      case hx11 => rfl
      go_wp2_with (first | ((with_reducible refine gate_store (t := 33) (p := 2) rfl ?_); refine Aside0.out ?_))
      refine Aside0.mk ?_
      refine st_all ?hw12 ?hN12 rfl ?hp12 (cs := #[.bool false, .int .u32 0, .int .i64 0, .int .u32 0, .int .u32 0]) ?hx12 H110.out.gt1 (by kernel_rfl) rfl (by simp [Value.oneCell']) ?_
      case hw12 => rfl
      case hN12 => rfl
      case hp12 => rfl
      case hx12 => first | rfl | (go_simp; rfl)
      intro w112 hb12 hS12
      have H113 := Aside0.mk (H110.out.wr1 (cs' := #[.bool false, .int .u32 0, .int .i64 0, .int .u32 0, .int .u32 0]) hb12 hS12)
      clear hb12 hS12 H110
      go_wp2
      refine bodyPost_ret (results_cell_row rfl _ _ g2 33 #[.bool false, .int .u32 0, .int .i64 0, .int .u32 0, .int .u32 0] (0, 0) _ rfl H113.out.gt1 Try.underlying33 rfl (by kernel_rfl)) rfl ?_
      have h := H.out
      rw [if_neg (fun h => HF.out h.2)] at h
      cases h
      exact ⟨rfl, H113.out.below⟩
  · have h64b : ((l0.length : Int) != 64) = true := bne_iff_ne.mpr (by omega)
    have H64 := Aside0.mk h64
    clear h64
    go_wp2_with (first | ((with_reducible refine gate_store (t := 33) (p := 2) rfl ?_); refine Aside0.out ?_))
    refine Aside0.mk ?_
    refine st_all ?hw3 ?hN3 rfl ?hp3 (cs := #[.bool false, .int .u32 0, .int .i64 0, .int .u32 0, .int .u32 0]) ?hx3 H102.out.gt0 (by kernel_rfl) rfl (by simp [Value.oneCell']) ?_
    case hw3 => rfl
    case hN3 => rfl
    case hp3 => rfl
    case hx3 => first | rfl | (go_simp; rfl)
    intro w103 hb3 hS3
    have H104 := Aside0.mk (H102.out.wr0 (cs' := #[.bool false, .int .u32 0, .int .i64 0, .int .u32 0, .int .u32 0]) hb3 hS3)
    clear hb3 hS3 H102
    go_wp2
    refine bodyPost_ret (results_cell_row rfl _ _ g2 33 #[.bool false, .int .u32 0, .int .i64 0, .int .u32 0, .int .u32 0] (0, 0) _ rfl H104.out.gt0 Try.underlying33 rfl (by kernel_rfl)) rfl ?_
    have h := H.out
    rw [if_neg (fun h => H64.out h.1)] at h
    cases h
    exact ⟨rfl, H104.out.below⟩
end Go.Proofs.Ytgfadfahbhcllaa.Q
namespace Go.Proofs.Ytgfadfahbhcllaa.P
open Go.RowKit Go.Proofs.YtgfadfahbhcllaaW.PrintWords Go.Proofs.YtgfadfahbhcllaaW.PrintMore Go.Proofs.Ytgfadfahbhcllaa.Q
set_option linter.unusedVariables false
set_option linter.unusedSimpArgs false
/-- The bytes that EncodeFrame answers. -/
def encF (q kd a b : Int) : List Int := if 1 ≤ kd ∧ kd ≤ 3 then frameCode q kd a b else []
theorem encF_length (q kd a b : Int) : (encF q kd a b).length ≤ 64 := by
  unfold encF
  split
  · exact Nat.le_of_eq rfl
  · simp
/-- Bytes as text: the same text, the same bytes. -/
theorem str_inj {l m : List Int} (hl : U8s l) (hm : U8s m) (h : (strOfNums l).toList = (strOfNums m).toList) : l = m := by
  have e : ∀ x : List Int, (strOfNums x).toList = x.map fun n => UInt8.ofNat n.toNat := fun x => by rw [ByteArray.toList_eq]; rfl
  rw [e, e] at h
  have hlen : l.length = m.length := by have := congrArg List.length h; simpa using this
  refine List.ext_getElem hlen (fun i h1 h2 => ?_)
  have h3 := congrArg (·[i]?) h
  simp only [List.getElem?_map, List.getElem?_eq_getElem h1, List.getElem?_eq_getElem h2, Option.map_some, Option.some.injEq] at h3
  have r1 := hl _ (List.getElem_mem h1)
  have r2 := hm _ (List.getElem_mem h2)
  have h4 := congrArg UInt8.toNat h3
  simp [UInt8.toNat_ofNat'] at h4
  omega
theorem leB_u8 (n : Nat) (x : Int) : U8s (leB n x) := by
  intro z hz
  unfold leB at hz
  obtain ⟨i, _, rfl⟩ := List.mem_map.1 hz
  omega
theorem frameHead_u8 (q kd a b : Int) : U8s (frameHead q kd a b) := by
  intro z hz
  unfold frameHead at hz
  simp only [List.mem_append, List.mem_cons, List.not_mem_nil, or_false] at hz
  rcases hz with hz | (hz | hz | hz | hz) | hz | hz | hz
  · exact leB_u8 _ _ z hz
  · omega
  · omega
  · omega
  · omega
  · exact leB_u8 _ _ z hz
  · exact leB_u8 _ _ z hz
  · have := List.eq_of_mem_replicate hz; omega
theorem frameCode_u8 (q kd a b : Int) : U8s (frameCode q kd a b) := by
  intro z hz
  unfold frameCode at hz
  simp only [List.mem_append] at hz
  rcases hz with hz | hz | hz
  · exact frameHead_u8 _ _ _ _ z hz
  · exact leB_u8 _ _ z hz
  · exact leB_u8 _ _ z hz
theorem encF_u8 (q kd a b : Int) : U8s (encF q kd a b) := by
  unfold encF
  split
  · exact frameCode_u8 _ _ _ _
  · exact fun z hz => by cases hz
end Go.Proofs.Ytgfadfahbhcllaa.P
namespace Go.Proofs.Ytgfadfahbhcllaa.Q
open Go.RowKit Go.Proofs.YtgfadfahbhcllaaW.PrintWords Go.Proofs.YtgfadfahbhcllaaW.PrintLast Go.Proofs.YtgfadfahbhcllaaW.PrintMore Go.Proofs.Ytgfadfahbhcllaa.LK
theorem str_frame {l : List Int} {q kd a b : Int} (hu : P.U8s l) (h64 : l.length = 64) (hI : isFrame l = ((1 ≤ kd ∧ kd ≤ 3) ∧ frameCode q kd a b = l)) : ((strOfNums (P.encF q kd a b)).toList == (strOfNums l).toList) = decide (isFrame l) := by
  by_cases hf : isFrame l
  · have h := hf
    rw [hI] at h
    rw [decide_eq_true hf, beq_iff_eq]
    unfold P.encF
    rw [if_pos h.1, h.2]
  · rw [decide_eq_false hf, beq_eq_false_iff_ne]
    intro he
    have e := P.str_inj (P.encF_u8 q kd a b) hu he
    apply hf
    rw [hI]
    unfold P.encF at e
    by_cases hk : 1 ≤ kd ∧ kd ≤ 3
    · rw [if_pos hk] at e
      exact ⟨hk, e⟩
    · rw [if_neg hk] at e
      rw [← e] at h64
      cases h64
/-- A slice of bytes as a text. -/
theorem conv_str {P : Program} {t e u : TypeId} {w : World} {A : Option Addr} {c : Nat} {xs : List Int} (ht : P.underlying t = some (.slice e)) (he : P.underlying e = some (.int .u8)) (hu : P.underlying u = some .string) (h : Kd.C (Kd.int .u8) w A xs.length xs) :
    (convert t u (.slice A xs.length c)).run P w = .ok (.string (strOfNums xs)) w := by
  obtain ⟨h1, h2, h3⟩ := Kd.reads_of_C (enc := Value.int .u8) (d := (0 : Int)) (h1 := fun _ => rfl) h
  cases A with
  | none =>
    have h0 : xs.length = 0 := by
      rcases Nat.eq_zero_or_pos xs.length with h0 | h0
      · exact h0
      · obtain ⟨ad, e, _⟩ := h3 h0
        cases e
    obtain rfl := List.eq_nil_of_length_eq_zero h0
    exact run_convert_bytes_nil w t e ht he 0 c u hu
  | some ad =>
    have hl : (loadCells ad xs.length).run P w = .ok (xs.map (Value.int .u8)).toArray w := by
      have := run_loadCells_list (P := P) w ad (xs.map (Value.int .u8)) (fun j v hj => by
        have hjl : j < xs.length := by
          rcases Nat.lt_or_ge j xs.length with h | h
          · exact h
          · simp [List.getElem?_eq_none (show (xs.map (Value.int .u8)).length ≤ j by simpa using h)] at hj
        obtain ⟨ad', e', hc⟩ := h3 (by omega)
        injection e' with e'
        subst e'
        rw [hc j hjl]
        simp [List.getElem?_eq_getElem hjl] at hj
        subst hj
        simp [List.getD, List.getElem?_eq_getElem hjl])
      simpa using this
    rw [run_convert_bytes_string w t u e _ xs.length c ht he hu, run_bytesToString w _ xs.length c xs hl, foldl_push_bytes]
    simp [strOfNums, ByteArray.empty, ByteArray.emptyWithCapacity]
    rfl
end Go.Proofs.Ytgfadfahbhcllaa.Q
namespace Go.Proofs.Ytgfadfahbhcllaa.Q
open Go.RowKit Go.Proofs.YtgfadfahbhcllaaW.PrintWords Go.Proofs.YtgfadfahbhcllaaW.PrintLast Go.Proofs.YtgfadfahbhcllaaW.PrintMore Go.Proofs.Ytgfadfahbhcllaa.LK
set_option linter.unusedVariables false
set_option linter.unusedSimpArgs false
def spec_DecodeFrame.f (l0 : List Int) : Option (Bool × Int × Int × Int × Int) :=
  if P.U8s l0 then some (if l0.length = 64 ∧ isFrame l0 then (true, fSeq l0, fKind l0, fA l0, fB l0) else (false, 0, 0, 0, 0)) else none
set_option maxHeartbeats 8000000 in
set_option maxRecDepth 100000 in
theorem spec_DecodeFrame.calls (A0 : Option Addr) (c0 : Nat) (l0 : List Int) (r1 : Bool) (r2 : Int) (r3 : Int) (r4 : Int) (r5 : Int) (w : World) (hr0 : Kd.C (Kd.int .u8) w A0 l0.length l0) (hc0 : l0.length ≤ c0) (h : spec_DecodeFrame.f l0 = some (r1, r2, r3, r4, r5)) :
    Calls Try.prog 17 #[.slice A0 l0.length c0] w fun e w' => e = .returned (.agg #[.bool r1, .int .u32 r2, .int .i64 r3, .int .u32 r4, .int .u32 r5]) ∧ Below w.heap.size w w' := by
  unfold spec_DecodeFrame.f at h
  by_cases hu : P.U8s l0
  case neg => rw [if_neg hu] at h; cases h
  rw [if_pos hu] at h
  have h := Option.some.inj h
  have HU := Aside0.mk hu
  have HR0 := Aside0.mk hr0
  have HC0 := Aside0.mk hc0
  have H := Aside0.mk h
  have H0 := Aside0.mk (Bx.refl w)
  clear hu hr0 hc0 h
  go_enter Try.func17, Try.ntmps17
  go_wp2_with (first | ((with_reducible refine gate_dst (N := 2) rfl ?_); refine Aside0.out ?_))
  refine Aside0.mk ?_
  refine mk ?hw1 (N := 2) ?hd1 (cs := #[.bool false, .int .u32 0, .int .i64 0, .int .u32 0, .int .u32 0]) (t := 33) ?hr1 ?_
  case hd1 => rfl
  case hw1 => rfl
  case hr1 => first | (go_simp; done) | (go_simp; rfl)
  intro g2 hg2_ w101 hb1 hB1
  have H102 := Aside0.mk (H0.out.new hg2_ hb1 hB1)
  clear hg2_ hb1 hB1 H0
  by_cases h64 : l0.length = 64
  · have h64b : ((l0.length : Int) != 64) = false := bne_eq_false_iff_eq.mpr (by omega)
    have H64 := Aside0.mk h64
    have g0 := P.spec_get l0 0 HU.out (by decide) (by omega) (by omega)
    have g8 := P.spec_get l0 8 HU.out (by decide) (by omega) (by omega)
    have g12 := P.spec_get l0 12 HU.out (by decide) (by omega) (by omega)
    have h6 : l0[6]? = some (fKind l0) := by unfold fKind; rw [List.getD_eq_getElem?_getD, List.getElem?_eq_getElem (by omega)]; rfl
    have r6 := HU.out.at_ h6
    have r0 := num4 HU.out 0 (by omega)
    have r8 := num4 HU.out 8 (by omega)
    have r12 := num4 HU.out 12 (by omega)
    obtain ⟨q, eq⟩ : ∃ q, q = fSeq l0 := ⟨_, rfl⟩
    obtain ⟨a, ea⟩ : ∃ a, a = fA l0 := ⟨_, rfl⟩
    obtain ⟨b, eb⟩ : ∃ b, b = fB l0 := ⟨_, rfl⟩
    obtain ⟨kd, ek⟩ : ∃ kd, kd = fKind l0 := ⟨_, rfl⟩
    have G0 := Aside0.mk (show spec_l2Get.f l0 0 = some q from by rw [eq]; exact g0)
    have G8 := Aside0.mk (show spec_l2Get.f l0 8 = some a from by rw [ea]; exact g8)
    have G12 := Aside0.mk (show spec_l2Get.f l0 12 = some b from by rw [eb]; exact g12)
    have R0 := Aside0.mk (show 0 ≤ q ∧ q ≤ 4294967295 from by rw [eq]; exact r0)
    have R8 := Aside0.mk (show 0 ≤ a ∧ a ≤ 4294967295 from by rw [ea]; exact r8)
    have R12 := Aside0.mk (show 0 ≤ b ∧ b ≤ 4294967295 from by rw [eb]; exact r12)
    rw [← ek] at h6 r6
    have jk : IntKind.i64.wrap kd = kd := by rw [IntKind.wrap_i64]; omega
    have HI := Aside0.mk (show isFrame l0 = ((1 ≤ kd ∧ kd ≤ 3) ∧ frameCode q kd a b = l0) from by rw [eq, ea, eb, ek]; rfl)
    have h := H.out
    rw [← eq, ← ea, ← eb, ← ek] at h
    replace H := Aside0.mk h
    have hrd := Kd.reads_of_C (enc := Value.int .u8) (d := (0 : Int)) (h1 := fun _ => rfl) HR0.out
    have HRd := Aside0.mk hrd
    obtain ⟨ad, eA, hcell⟩ := hrd.2.2 (by omega)
    subst eA
    have hc6 := hcell 6 (by omega)
    rw [show l0.getD 6 0 = kd from by rw [List.getD_eq_getElem?_getD, h6]; rfl] at hc6
    have HC6 := Aside0.mk (show w.cell? ⟨ad.block, ad.off + 6, none⟩ = some (.int .u8 kd) from hc6)
    have q6 : ((6 : Int) < (l0.length : Int)) = True := eq_true (by omega)
    clear g0 g8 g12 h6 r6 r0 r8 r12 eq ea eb ek h hrd hcell hc6 h64
    try go_wp2
    have H104 := Aside0.mk H102.out.drew
    refine start_ (n := 13) (S := fun w' => w'.cell? ⟨ad.block, ad.off + 6, none⟩ = some (.int .u8 kd)) (ds := [12]) #[false, false, false, false, false, false, false, false, false, false, false, false, false] (by kernel_rfl) rfl rfl (pw_cell_below H104.out.below HC6.out) (fun hHeld => ?_)
    clear H102
    generalize w101.drew = w103 at H104 hHeld ⊢
    refine pure_ (i := 0) (N := some 8) (v := ?_) (a' := ?_) #[true, false, false, false, false, false, false, false, false, false, false, false, false] rfl rfl (by kernel_rfl) (fun _ _ _ h => h) (Or.inl ⟨by rfl, ?_⟩) ?_ ?_
    rotate_left
    · intro w'
      go_simp
      with_reducible rfl
    rotate_left
    · simp only [Act.put, List.setIfInBounds_toArray, List.set_cons_zero, List.set_cons_succ, i64_w, i32_w]
      rfl
    refine pure_ (i := 2) (N := some 10) (v := ?_) (a' := ?_) #[true, false, true, false, false, false, false, false, false, false, false, false, false] rfl rfl (by kernel_rfl) (fun _ _ _ h => h) (Or.inl ⟨by rfl, ?_⟩) ?_ ?_
    rotate_left
    · intro w'
      go_simp
      with_reducible rfl
    rotate_left
    · simp only [Act.put, List.setIfInBounds_toArray, List.set_cons_zero, List.set_cons_succ, i64_w, i32_w]
      rfl
    refine pure_ (i := 3) (N := some 11) (v := ?_) (a' := ?_) #[true, false, true, true, false, false, false, false, false, false, false, false, false] rfl rfl (by kernel_rfl) (fun _ _ _ h => h) (Or.inl ⟨by rfl, ?_⟩) ?_ ?_
    rotate_left
    · intro w'
      go_simp
      with_reducible rfl
    rotate_left
    · simp only [Act.put, List.setIfInBounds_toArray, List.set_cons_zero, List.set_cons_succ, i64_w, i32_w]
      rfl
    refine pure_ (i := 6) (N := some 14) (v := ?_) (a' := ?_) #[true, false, true, true, false, false, true, false, false, false, false, false, false] rfl rfl (by kernel_rfl) (fun _ _ _ h => h) (Or.inl ⟨by rfl, ?_⟩) ?_ ?_
    rotate_left
    · intro w'
      go_simp
      with_reducible rfl
    rotate_left
    · simp only [Act.put, List.setIfInBounds_toArray, List.set_cons_zero, List.set_cons_succ, i64_w, i32_w]
      rfl
    refine pure_ (i := 8) (N := some 16) (v := ?_) (a' := ?_) #[true, false, true, true, false, false, true, false, true, false, false, false, false] rfl rfl (by kernel_rfl) (fun _ _ _ h => h) (Or.inl ⟨by rfl, ?_⟩) ?_ ?_
    rotate_left
    · intro w'
      go_simp
      with_reducible rfl
    rotate_left
    · simp only [Act.put, List.setIfInBounds_toArray, List.set_cons_zero, List.set_cons_succ, i64_w, i32_w]
      rfl
    refine take_ (i := 4) (N := some 12) (v := ?_) (a' := ?_) #[true, false, true, true, true, false, true, false, true, false, false, false, false] rfl rfl (by kernel_rfl) (fun _ _ _ h => h) (Or.inl ⟨by rfl, ?_⟩) hHeld ?_ ?_
    rotate_left
    · rintro w' s0
      go_simp
      with_reducible rfl
    rotate_left
    · simp only [Act.put, List.setIfInBounds_toArray, List.set_cons_zero, List.set_cons_succ, i64_w, i32_w]
      rfl
    refine pure_ (i := 5) (N := some 13) (v := ?_) (a' := ?_) #[true, false, true, true, true, true, true, false, true, false, false, false, false] rfl rfl (by kernel_rfl) (fun _ _ _ h => h) (Or.inl ⟨by rfl, ?_⟩) ?_ ?_
    rotate_left
    · intro w'
      go_simp
      with_reducible rfl
    rotate_left
    · simp only [Act.put, List.setIfInBounds_toArray, List.set_cons_zero, List.set_cons_succ, i64_w, i32_w]
      rfl
    refine join_ (σ := Nat) 1 #[true, true, true, true, true, true, true, true, true, true, true, true, false] (fun s_ => [(9, .int .u32 q), (15, .int .u32 a), (17, .int .u32 b), (18, .agg #[.int .u32 q, .int .i64 kd, .int .u32 a, .int .u32 b]), (3, .pointer (some ⟨s_, 0, none⟩))]) (fun s_ w' => (w'.cell? ⟨ad.block, ad.off + 6, none⟩ = some (.int .u8 kd)) ∧ Bx w [(s_, #[.int .u32 0, .int .i64 0, .int .u32 0, .int .u32 0], 27), (g2, #[.bool false, .int .u32 0, .int .i64 0, .int .u32 0, .int .u32 0], 33)] w') ?_ ?_
    rotate_left
    · intro hCont
      refine two_ (i := 1) (j := 11) (Ni := some 9) (Nj := some 3) #[true, true, true, true, true, true, true, false, true, false, false, false, false] #[true, false, true, true, true, true, true, false, true, false, false, true, false] rfl rfl rfl rfl (by kernel_rfl) (by decide) (by decide) (fun K hK => ?_) (fun K hK => ?_)
      · skip
        refine goes_ Try.func53 (by kernel_rfl) rfl #[.slice (some ad) l0.length c0, .int .i64 0] (by rfl) rfl rfl (by (try simp only [List.map_toArray, List.map_cons, List.map_nil]); first | done | rfl) ?_
        refine (spec_l2Get.calls _ c0 l0 0 q _ (Kd.C_below HR0.out H104.out.below) HC0.out G0.out).mono ?_
        rintro e w105 ⟨rfl, hd_⟩
        refine ⟨_, rfl, ?_⟩
        have hb_ := hd_.below
        clear hd_
        have H106 := Aside0.mk (H104.out.step hb_)
        clear hb_ H104
        refine hK.out _ _ (pw_cell_below H106.out.below HC6.out) (fun hHeld => ?_)
        clear hK K
        refine norm_ (a' := ?_) ?_ ?_
        rotate_left
        · show Act.put _ (some 9) _ = _
          simp only [Act.put, List.setIfInBounds_toArray, List.set_cons_zero, List.set_cons_succ, i64_w, i32_w]
          rfl
        refine two_ (i := 7) (j := 11) (Ni := some 15) (Nj := some 3) #[true, true, true, true, true, true, true, true, true, false, false, false, false] #[true, true, true, true, true, true, true, false, true, false, false, true, false] rfl rfl rfl rfl (by kernel_rfl) (by decide) (by decide) (fun K hK => ?_) (fun K hK => ?_)
        · skip
          refine goes_ Try.func53 (by kernel_rfl) rfl #[.slice (some ad) l0.length c0, .int .i64 8] (by rfl) rfl rfl (by (try simp only [List.map_toArray, List.map_cons, List.map_nil]); first | done | rfl) ?_
          refine (spec_l2Get.calls _ c0 l0 8 a _ (Kd.C_below HR0.out H106.out.below) HC0.out G8.out).mono ?_
          rintro e w107 ⟨rfl, hd_⟩
          refine ⟨_, rfl, ?_⟩
          have hb_ := hd_.below
          clear hd_
          have H108 := Aside0.mk (H106.out.step hb_)
          clear hb_ H106
          refine hK.out _ _ (pw_cell_below H108.out.below HC6.out) (fun hHeld => ?_)
          clear hK K
          refine norm_ (a' := ?_) ?_ ?_
          rotate_left
          · show Act.put _ (some 15) _ = _
            simp only [Act.put, List.setIfInBounds_toArray, List.set_cons_zero, List.set_cons_succ, i64_w, i32_w]
            rfl
          refine two_ (i := 9) (j := 11) (Ni := some 17) (Nj := some 3) #[true, true, true, true, true, true, true, true, true, true, false, false, false] #[true, true, true, true, true, true, true, true, true, false, false, true, false] rfl rfl rfl rfl (by kernel_rfl) (by decide) (by decide) (fun K hK => ?_) (fun K hK => ?_)
          · skip
            refine goes_ Try.func53 (by kernel_rfl) rfl #[.slice (some ad) l0.length c0, .int .i64 12] (by rfl) rfl rfl (by (try simp only [List.map_toArray, List.map_cons, List.map_nil]); first | done | rfl) ?_
            refine (spec_l2Get.calls _ c0 l0 12 b _ (Kd.C_below HR0.out H108.out.below) HC0.out G12.out).mono ?_
            rintro e w109 ⟨rfl, hd_⟩
            refine ⟨_, rfl, ?_⟩
            have hb_ := hd_.below
            clear hd_
            have H110 := Aside0.mk (H108.out.step hb_)
            clear hb_ H108
            refine hK.out _ _ (pw_cell_below H110.out.below HC6.out) (fun hHeld => ?_)
            clear hK K
            refine norm_ (a' := ?_) ?_ ?_
            rotate_left
            · show Act.put _ (some 17) _ = _
              simp only [Act.put, List.setIfInBounds_toArray, List.set_cons_zero, List.set_cons_succ, i64_w, i32_w]
              rfl
            refine pure_ (i := 10) (N := some 18) (v := ?_) (a' := ?_) #[true, true, true, true, true, true, true, true, true, true, true, false, false] rfl rfl (by kernel_rfl) (fun _ _ _ h => h) (Or.inl ⟨by rfl, ?_⟩) ?_ ?_
            rotate_left
            · intro w'
              go_simp
              with_reducible rfl
            rotate_left
            · simp only [Act.put, List.setIfInBounds_toArray, List.set_cons_zero, List.set_cons_succ, i64_w, i32_w]
              rfl
            refine one_ (i := 11) (N := some 3) #[true, true, true, true, true, true, true, true, true, true, true, true, false] rfl rfl (by kernel_rfl) (by decide) (fun K hK => ?_)
            refine box_step ?hg11 (N := 3) ?hd11 (cs := #[.int .u32 0, .int .i64 0, .int .u32 0, .int .u32 0]) (t := 27) ?hr11 ?_
            case hd11 => rfl
            case hg11 => rfl
            case hr11 => first | (go_simp; done) | (go_simp; rfl)
            intro g3 hg3_ w111 hb11 hB11
            have H112 := Aside0.mk (H110.out.new hg3_ hb11 hB11)
            clear hg3_ hb11 hB11 H110
            refine hK.out _ _ (pw_cell_below H112.out.below HC6.out) (fun hHeld => ?_)
            clear hK K
            refine norm_ (a' := ?_) ?_ ?_
            rotate_left
            · show Act.put _ (some 3) _ = _
              simp only [Act.put, List.setIfInBounds_toArray, List.set_cons_zero, List.set_cons_succ, i64_w, i32_w]
              rfl
            exact norm_ (by simp only [putAll, Act.put, List.setIfInBounds_toArray, List.set_cons_zero, List.set_cons_succ]) (hCont g3 _ ⟨hHeld, H112.out⟩)
          · skip
            refine box_step ?hg13 (N := 3) ?hd13 (cs := #[.int .u32 0, .int .i64 0, .int .u32 0, .int .u32 0]) (t := 27) ?hr13 ?_
            case hd13 => rfl
            case hg13 => rfl
            case hr13 => first | (go_simp; done) | (go_simp; rfl)
            intro g3 hg3_ w113 hb13 hB13
            have H114 := Aside0.mk (H108.out.new hg3_ hb13 hB13)
            clear hg3_ hb13 hB13 H108
            refine hK.out _ _ (pw_cell_below H114.out.below HC6.out) (fun hHeld => ?_)
            clear hK K
            refine norm_ (a' := ?_) ?_ ?_
            rotate_left
            · show Act.put _ (some 3) _ = _
              simp only [Act.put, List.setIfInBounds_toArray, List.set_cons_zero, List.set_cons_succ, i64_w, i32_w]
              rfl
            refine one_ (i := 9) (N := some 17) #[true, true, true, true, true, true, true, true, true, true, false, true, false] rfl rfl (by kernel_rfl) (by decide) (fun K hK => ?_)
            refine goes_ Try.func53 (by kernel_rfl) rfl #[.slice (some ad) l0.length c0, .int .i64 12] (by rfl) rfl rfl (by (try simp only [List.map_toArray, List.map_cons, List.map_nil]); first | done | rfl) ?_
            refine (spec_l2Get.calls _ c0 l0 12 b _ (Kd.C_below HR0.out H114.out.below) HC0.out G12.out).mono ?_
            rintro e w115 ⟨rfl, hd_⟩
            refine ⟨_, rfl, ?_⟩
            have hb_ := hd_.below
            clear hd_
            have H116 := Aside0.mk (H114.out.step hb_)
            clear hb_ H114
            refine hK.out _ _ (pw_cell_below H116.out.below HC6.out) (fun hHeld => ?_)
            clear hK K
            refine norm_ (a' := ?_) ?_ ?_
            rotate_left
            · show Act.put _ (some 17) _ = _
              simp only [Act.put, List.setIfInBounds_toArray, List.set_cons_zero, List.set_cons_succ, i64_w, i32_w]
              rfl
            refine pure_ (i := 10) (N := some 18) (v := ?_) (a' := ?_) #[true, true, true, true, true, true, true, true, true, true, true, true, false] rfl rfl (by kernel_rfl) (fun _ _ _ h => h) (Or.inl ⟨by rfl, ?_⟩) ?_ ?_
            rotate_left
            · intro w'
              go_simp
              with_reducible rfl
            rotate_left
            · simp only [Act.put, List.setIfInBounds_toArray, List.set_cons_zero, List.set_cons_succ, i64_w, i32_w]
              rfl
            exact norm_ (by simp only [putAll, Act.put, List.setIfInBounds_toArray, List.set_cons_zero, List.set_cons_succ]) (hCont g3 _ ⟨hHeld, H116.out⟩)
        · skip
          refine box_step ?hg17 (N := 3) ?hd17 (cs := #[.int .u32 0, .int .i64 0, .int .u32 0, .int .u32 0]) (t := 27) ?hr17 ?_
          case hd17 => rfl
          case hg17 => rfl
          case hr17 => first | (go_simp; done) | (go_simp; rfl)
          intro g3 hg3_ w117 hb17 hB17
          have H118 := Aside0.mk (H106.out.new hg3_ hb17 hB17)
          clear hg3_ hb17 hB17 H106
          refine hK.out _ _ (pw_cell_below H118.out.below HC6.out) (fun hHeld => ?_)
          clear hK K
          refine norm_ (a' := ?_) ?_ ?_
          rotate_left
          · show Act.put _ (some 3) _ = _
            simp only [Act.put, List.setIfInBounds_toArray, List.set_cons_zero, List.set_cons_succ, i64_w, i32_w]
            rfl
          refine one_ (i := 7) (N := some 15) #[true, true, true, true, true, true, true, true, true, false, false, true, false] rfl rfl (by kernel_rfl) (by decide) (fun K hK => ?_)
          refine goes_ Try.func53 (by kernel_rfl) rfl #[.slice (some ad) l0.length c0, .int .i64 8] (by rfl) rfl rfl (by (try simp only [List.map_toArray, List.map_cons, List.map_nil]); first | done | rfl) ?_
          refine (spec_l2Get.calls _ c0 l0 8 a _ (Kd.C_below HR0.out H118.out.below) HC0.out G8.out).mono ?_
          rintro e w119 ⟨rfl, hd_⟩
          refine ⟨_, rfl, ?_⟩
          have hb_ := hd_.below
          clear hd_
          have H120 := Aside0.mk (H118.out.step hb_)
          clear hb_ H118
          refine hK.out _ _ (pw_cell_below H120.out.below HC6.out) (fun hHeld => ?_)
          clear hK K
          refine norm_ (a' := ?_) ?_ ?_
          rotate_left
          · show Act.put _ (some 15) _ = _
            simp only [Act.put, List.setIfInBounds_toArray, List.set_cons_zero, List.set_cons_succ, i64_w, i32_w]
            rfl
          refine one_ (i := 9) (N := some 17) #[true, true, true, true, true, true, true, true, true, true, false, true, false] rfl rfl (by kernel_rfl) (by decide) (fun K hK => ?_)
          refine goes_ Try.func53 (by kernel_rfl) rfl #[.slice (some ad) l0.length c0, .int .i64 12] (by rfl) rfl rfl (by (try simp only [List.map_toArray, List.map_cons, List.map_nil]); first | done | rfl) ?_
          refine (spec_l2Get.calls _ c0 l0 12 b _ (Kd.C_below HR0.out H120.out.below) HC0.out G12.out).mono ?_
          rintro e w121 ⟨rfl, hd_⟩
          refine ⟨_, rfl, ?_⟩
          have hb_ := hd_.below
          clear hd_
          have H122 := Aside0.mk (H120.out.step hb_)
          clear hb_ H120
          refine hK.out _ _ (pw_cell_below H122.out.below HC6.out) (fun hHeld => ?_)
          clear hK K
          refine norm_ (a' := ?_) ?_ ?_
          rotate_left
          · show Act.put _ (some 17) _ = _
            simp only [Act.put, List.setIfInBounds_toArray, List.set_cons_zero, List.set_cons_succ, i64_w, i32_w]
            rfl
          refine pure_ (i := 10) (N := some 18) (v := ?_) (a' := ?_) #[true, true, true, true, true, true, true, true, true, true, true, true, false] rfl rfl (by kernel_rfl) (fun _ _ _ h => h) (Or.inl ⟨by rfl, ?_⟩) ?_ ?_
          rotate_left
          · intro w'
            go_simp
            with_reducible rfl
          rotate_left
          · simp only [Act.put, List.setIfInBounds_toArray, List.set_cons_zero, List.set_cons_succ, i64_w, i32_w]
            rfl
          exact norm_ (by simp only [putAll, Act.put, List.setIfInBounds_toArray, List.set_cons_zero, List.set_cons_succ]) (hCont g3 _ ⟨hHeld, H122.out⟩)
      · skip
        refine box_step ?hg23 (N := 3) ?hd23 (cs := #[.int .u32 0, .int .i64 0, .int .u32 0, .int .u32 0]) (t := 27) ?hr23 ?_
        case hd23 => rfl
        case hg23 => rfl
        case hr23 => first | (go_simp; done) | (go_simp; rfl)
        intro g3 hg3_ w123 hb23 hB23
        have H124 := Aside0.mk (H104.out.new hg3_ hb23 hB23)
        clear hg3_ hb23 hB23 H104
        refine hK.out _ _ (pw_cell_below H124.out.below HC6.out) (fun hHeld => ?_)
        clear hK K
        refine norm_ (a' := ?_) ?_ ?_
        rotate_left
        · show Act.put _ (some 3) _ = _
          simp only [Act.put, List.setIfInBounds_toArray, List.set_cons_zero, List.set_cons_succ, i64_w, i32_w]
          rfl
        refine one_ (i := 1) (N := some 9) #[true, true, true, true, true, true, true, false, true, false, false, true, false] rfl rfl (by kernel_rfl) (by decide) (fun K hK => ?_)
        refine goes_ Try.func53 (by kernel_rfl) rfl #[.slice (some ad) l0.length c0, .int .i64 0] (by rfl) rfl rfl (by (try simp only [List.map_toArray, List.map_cons, List.map_nil]); first | done | rfl) ?_
        refine (spec_l2Get.calls _ c0 l0 0 q _ (Kd.C_below HR0.out H124.out.below) HC0.out G0.out).mono ?_
        rintro e w125 ⟨rfl, hd_⟩
        refine ⟨_, rfl, ?_⟩
        have hb_ := hd_.below
        clear hd_
        have H126 := Aside0.mk (H124.out.step hb_)
        clear hb_ H124
        refine hK.out _ _ (pw_cell_below H126.out.below HC6.out) (fun hHeld => ?_)
        clear hK K
        refine norm_ (a' := ?_) ?_ ?_
        rotate_left
        · show Act.put _ (some 9) _ = _
          simp only [Act.put, List.setIfInBounds_toArray, List.set_cons_zero, List.set_cons_succ, i64_w, i32_w]
          rfl
        refine one_ (i := 7) (N := some 15) #[true, true, true, true, true, true, true, true, true, false, false, true, false] rfl rfl (by kernel_rfl) (by decide) (fun K hK => ?_)
        refine goes_ Try.func53 (by kernel_rfl) rfl #[.slice (some ad) l0.length c0, .int .i64 8] (by rfl) rfl rfl (by (try simp only [List.map_toArray, List.map_cons, List.map_nil]); first | done | rfl) ?_
        refine (spec_l2Get.calls _ c0 l0 8 a _ (Kd.C_below HR0.out H126.out.below) HC0.out G8.out).mono ?_
        rintro e w127 ⟨rfl, hd_⟩
        refine ⟨_, rfl, ?_⟩
        have hb_ := hd_.below
        clear hd_
        have H128 := Aside0.mk (H126.out.step hb_)
        clear hb_ H126
        refine hK.out _ _ (pw_cell_below H128.out.below HC6.out) (fun hHeld => ?_)
        clear hK K
        refine norm_ (a' := ?_) ?_ ?_
        rotate_left
        · show Act.put _ (some 15) _ = _
          simp only [Act.put, List.setIfInBounds_toArray, List.set_cons_zero, List.set_cons_succ, i64_w, i32_w]
          rfl
        refine one_ (i := 9) (N := some 17) #[true, true, true, true, true, true, true, true, true, true, false, true, false] rfl rfl (by kernel_rfl) (by decide) (fun K hK => ?_)
        refine goes_ Try.func53 (by kernel_rfl) rfl #[.slice (some ad) l0.length c0, .int .i64 12] (by rfl) rfl rfl (by (try simp only [List.map_toArray, List.map_cons, List.map_nil]); first | done | rfl) ?_
        refine (spec_l2Get.calls _ c0 l0 12 b _ (Kd.C_below HR0.out H128.out.below) HC0.out G12.out).mono ?_
        rintro e w129 ⟨rfl, hd_⟩
        refine ⟨_, rfl, ?_⟩
        have hb_ := hd_.below
        clear hd_
        have H130 := Aside0.mk (H128.out.step hb_)
        clear hb_ H128
        refine hK.out _ _ (pw_cell_below H130.out.below HC6.out) (fun hHeld => ?_)
        clear hK K
        refine norm_ (a' := ?_) ?_ ?_
        rotate_left
        · show Act.put _ (some 17) _ = _
          simp only [Act.put, List.setIfInBounds_toArray, List.set_cons_zero, List.set_cons_succ, i64_w, i32_w]
          rfl
        refine pure_ (i := 10) (N := some 18) (v := ?_) (a' := ?_) #[true, true, true, true, true, true, true, true, true, true, true, true, false] rfl rfl (by kernel_rfl) (fun _ _ _ h => h) (Or.inl ⟨by rfl, ?_⟩) ?_ ?_
        rotate_left
        · intro w'
          go_simp
          with_reducible rfl
        rotate_left
        · simp only [Act.put, List.setIfInBounds_toArray, List.set_cons_zero, List.set_cons_succ, i64_w, i32_w]
          rfl
        exact norm_ (by simp only [putAll, Act.put, List.setIfInBounds_toArray, List.set_cons_zero, List.set_cons_succ]) (hCont g3 _ ⟨hHeld, H130.out⟩)
    rintro g3 w131 ⟨hHeld, hX_⟩
    have H132 := Aside0.mk hX_
    clear hX_ H104
    refine norm_ (a' := ?_) ?_ ?_
    rotate_left
    · simp only [putAll, Act.put, List.setIfInBounds_toArray, List.set_cons_zero, List.set_cons_succ]
      rfl
    refine last_ (i := 12) (N := none) #[true, true, true, true, true, true, true, true, true, true, true, true, true] rfl rfl (by kernel_rfl) (by decide) (fun K hK => ?_)
    refine st_step (by rfl) rfl rfl ?hp33 (cs := #[.int .u32 q, .int .i64 kd, .int .u32 a, .int .u32 b]) ?hx33 H132.out.gt0 (by kernel_rfl) (rfl) (by simp [Value.oneCell']) ?_
    case hp33 => rfl
    case hx33 => rfl
    intro w133 hb33 hS33
    have H134 := Aside0.mk (H132.out.wr0 (cs' := #[.int .u32 q, .int .i64 kd, .int .u32 a, .int .u32 b]) hb33 hS33)
    clear hb33 hS33 H132
    refine hK.out _ _ ?_
    clear hK K
    refine done_ (by kernel_rfl) ?_
    try go_wp2
    have H136 := Aside0.mk H134.out.drew
    refine start_ (n := 6) (S := fun w' => w'.heap[g3]? = some (.cells #[.int .u32 q, .int .i64 kd, .int .u32 a, .int .u32 b] 27 (0, 0)) ∧ Kd.C (Kd.int .u8) w' (some ad) l0.length l0) (ds := []) #[false, false, false, false, false, false] (by kernel_rfl) rfl rfl ⟨H136.out.gt0, Kd.C_below HR0.out H136.out.below⟩ (fun hHeld => ?_)
    clear H134
    generalize w133.drew = w135 at H136 hHeld ⊢
    refine pure_ (i := 3) (N := some 22) (v := ?_) (a' := ?_) #[false, false, false, true, false, false] rfl rfl (by kernel_rfl) (fun _ _ _ h => h) (Or.inl ⟨by rfl, ?_⟩) ?_ ?_
    rotate_left
    · intro w'
      go_simp
      with_reducible rfl
    rotate_left
    · simp only [Act.put, List.setIfInBounds_toArray, List.set_cons_zero, List.set_cons_succ, i64_w, i32_w]
      rfl
    refine take_ (i := 0) (N := some 19) (v := .agg #[.int .u32 q, .int .i64 kd, .int .u32 a, .int .u32 b]) (a' := ?_) #[true, false, false, true, false, false] rfl rfl (by kernel_rfl) (fun _ _ _ h => h) (Or.inl ⟨by rfl, ?yl37⟩) hHeld ?ha37 ?hh37
    case yl37 =>
      rintro w' ⟨s0, s1⟩
      exact ld_run (x := .tmp 3) (by rfl) (by rfl) s0 Try.underlying27 rfl (by kernel_rfl)
    case ha37 =>
      simp only [Act.put, List.setIfInBounds_toArray, List.set_cons_zero, List.set_cons_succ, i64_w, i32_w]
      rfl
    refine take_ (i := 4) (N := some 23) (v := .string (strOfNums l0)) (a' := ?_) #[true, false, false, true, true, false] rfl rfl (by kernel_rfl) (fun _ _ _ h => h) (Or.inl ⟨by rfl, ?yl38⟩) hHeld ?ha38 ?hh38
    case yl38 =>
      rintro w' ⟨s0, s1⟩
      go_simp
      rw [conv_str (P := Try.prog) (t := 25) (e := 5) (u := 9) Try.underlying25 Try.underlying5 Try.underlying9 s1]
      first | rfl | (simp [Result.andThen]; done)
    case ha38 =>
      simp only [Act.put, List.setIfInBounds_toArray, List.set_cons_zero, List.set_cons_succ, i64_w, i32_w]
      rfl
    refine one_ (i := 1) (N := some 20) #[true, true, false, true, true, false] rfl rfl (by kernel_rfl) (by decide) (fun K hK => ?_)
    have he_ : spec_EncodeFrame.f q kd a b = some (P.encF q kd a b) := by unfold spec_EncodeFrame.f P.encF; rw [if_pos ⟨R0.out, R8.out, R12.out⟩]
    refine goes_ Try.func11 (by kernel_rfl) rfl #[.agg #[.int .u32 q, .int .i64 kd, .int .u32 a, .int .u32 b]] (by rfl) rfl rfl (by (try simp only [List.map_toArray, List.map_cons, List.map_nil]); first | done | rfl) ?_
    refine (spec_EncodeFrame.calls q kd a b _ _ he_).mono ?_
    rintro e w139 ⟨v_, rfl, ho, hb_⟩
    refine ⟨_, rfl, ?_⟩
    obtain ⟨Ao, co, eo⟩ := Kd.R_slice ho
    subst eo
    have HCo := Aside0.mk (Kd.R_reads' ho).2.2
    clear ho he_
    have H140 := Aside0.mk (H136.out.step hb_)
    clear hb_ H136
    refine hK.out _ _ ⟨H140.out.gt0, Kd.C_below HR0.out H140.out.below⟩ (fun hHeld => ?_)
    clear hK K
    refine norm_ (a' := ?_) ?_ ?_
    rotate_left
    · show Act.put _ (some 20) _ = _
      simp only [Act.put, List.setIfInBounds_toArray, List.set_cons_zero, List.set_cons_succ, i64_w, i32_w]
      rfl
    refine one_ (i := 2) (N := some 21) #[true, true, true, true, true, false] rfl rfl (by kernel_rfl) (by decide) (fun K hK => ?_)
    refine value_ (w1 := w139) (v := .string (strOfNums (P.encF q kd a b))) (by rfl) rfl ?_ ?_
    · go_simp
      rw [conv_str (P := Try.prog) (t := 25) (e := 5) (u := 9) Try.underlying25 Try.underlying5 Try.underlying9 HCo.out]
      first | rfl | (simp [Result.andThen]; done)
    refine hK.out _ _ ⟨H140.out.gt0, Kd.C_below HR0.out H140.out.below⟩ (fun hHeld => ?_)
    clear hK K
    refine norm_ (a' := ?_) ?_ ?_
    rotate_left
    · show Act.put _ (some 21) _ = _
      simp only [Act.put, List.setIfInBounds_toArray, List.set_cons_zero, List.set_cons_succ, i64_w, i32_w]
      rfl
    refine pure_ (i := 5) (N := some 24) (v := ?_) (a' := ?_) #[true, true, true, true, true, true] rfl rfl (by kernel_rfl) (fun _ _ _ h => h) (Or.inl ⟨by rfl, ?_⟩) ?_ ?_
    rotate_left
    · intro w'
      go_simp
      first | with_reducible rfl | rfl
    rotate_left
    · simp only [Act.put, List.setIfInBounds_toArray, List.set_cons_zero, List.set_cons_succ, i64_w, i32_w]
      rfl
    refine done_ (by kernel_rfl) ?_
    clear hHeld
    have hstr : ((strOfNums (P.encF q kd a b)).toList == (strOfNums l0).toList) = decide (isFrame l0) := str_frame HU.out H64.out HI.out
    by_cases hf : isFrame l0
    · rw [decide_eq_true hf] at hstr
      rw [hstr]
      have HF := Aside0.mk hf
      clear hf hstr
      go_wp2_with (first | ((with_reducible refine gate_dst (N := 26) rfl ?_); refine Aside0.out ?_))
      refine Aside0.mk ?_
      refine ld ?hw41 rfl ?hx41 H140.out.gt0 Try.underlying27 rfl (by kernel_rfl) ?_
      case hw41 => rfl
      case hx41 => rfl
      go_wp2_with (first | ((with_reducible refine gate_store (t := 33) (p := 2) rfl ?_); refine Aside0.out ?_))
      refine Aside0.mk ?_
      refine st_all ?hw42 ?hN42 rfl ?hp42 (cs := #[.bool true, .int .u32 q, .int .i64 kd, .int .u32 a, .int .u32 b]) ?hx42 H140.out.gt1 (by kernel_rfl) rfl (by simp [Value.oneCell']) ?_
      case hw42 => rfl
      case hN42 => rfl
      case hp42 => rfl
      case hx42 => first | rfl | (go_simp; rfl)
      intro w142 hb42 hS42
      have H143 := Aside0.mk (H140.out.wr1 (cs' := #[.bool true, .int .u32 q, .int .i64 kd, .int .u32 a, .int .u32 b]) hb42 hS42)
      clear hb42 hS42 H140
      go_wp2
      refine bodyPost_ret (results_cell_row rfl _ _ g2 33 #[.bool true, .int .u32 q, .int .i64 kd, .int .u32 a, .int .u32 b] (0, 0) _ rfl H143.out.gt1 Try.underlying33 rfl (by kernel_rfl)) rfl ?_
      have h := H.out
      rw [if_pos ⟨H64.out, HF.out⟩] at h
      cases h
      exact ⟨rfl, H143.out.below⟩
    · rw [decide_eq_false hf] at hstr
      rw [hstr]
      have HF := Aside0.mk hf
      clear hf hstr
      go_wp2_with (first | ((with_reducible refine gate_store (t := 33) (p := 2) rfl ?_); refine Aside0.out ?_))
      refine Aside0.mk ?_
      refine st_all ?hw41 ?hN41 rfl ?hp41 (cs := #[.bool false, .int .u32 0, .int .i64 0, .int .u32 0, .int .u32 0]) ?hx41 H140.out.gt1 (by kernel_rfl) rfl (by simp [Value.oneCell']) ?_
      case hw41 => rfl
      case hN41 => rfl
      case hp41 => rfl
      case hx41 => first | rfl | (go_simp; rfl)
      intro w141 hb41 hS41
      have H142 := Aside0.mk (H140.out.wr1 (cs' := #[.bool false, .int .u32 0, .int .i64 0, .int .u32 0, .int .u32 0]) hb41 hS41)
      clear hb41 hS41 H140
      go_wp2
      refine bodyPost_ret (results_cell_row rfl _ _ g2 33 #[.bool false, .int .u32 0, .int .i64 0, .int .u32 0, .int .u32 0] (0, 0) _ rfl H142.out.gt1 Try.underlying33 rfl (by kernel_rfl)) rfl ?_
      have h := H.out
      rw [if_neg (fun h => HF.out h.2)] at h
      cases h
      exact ⟨rfl, H142.out.below⟩
  · have h64b : ((l0.length : Int) != 64) = true := bne_iff_ne.mpr (by omega)
    have H64 := Aside0.mk h64
    clear h64
    go_wp2_with (first | ((with_reducible refine gate_store (t := 33) (p := 2) rfl ?_); refine Aside0.out ?_))
    refine Aside0.mk ?_
    refine st_all ?hw3 ?hN3 rfl ?hp3 (cs := #[.bool false, .int .u32 0, .int .i64 0, .int .u32 0, .int .u32 0]) ?hx3 H102.out.gt0 (by kernel_rfl) rfl (by simp [Value.oneCell']) ?_
    case hw3 => rfl
    case hN3 => rfl
    case hp3 => rfl
    case hx3 => first | rfl | (go_simp; rfl)
    intro w103 hb3 hS3
    have H104 := Aside0.mk (H102.out.wr0 (cs' := #[.bool false, .int .u32 0, .int .i64 0, .int .u32 0, .int .u32 0]) hb3 hS3)
    clear hb3 hS3 H102
    go_wp2
    refine bodyPost_ret (results_cell_row rfl _ _ g2 33 #[.bool false, .int .u32 0, .int .i64 0, .int .u32 0, .int .u32 0] (0, 0) _ rfl H104.out.gt0 Try.underlying33 rfl (by kernel_rfl)) rfl ?_
    have h := H.out
    rw [if_neg (fun h => H64.out h.1)] at h
    cases h
    exact ⟨rfl, H104.out.below⟩
end Go.Proofs.Ytgfadfahbhcllaa.Q
