/- Part 2 of 6 of the proof that the law FnTear returns true at every input. No further condition. -/
import Derived.ChangeKeysEq
import Derived.Laws.StructEq
import Derived.Laws.BitsLemmas
import Derived.Test.YtgfadfahbhcllaaWInv
import Derived.Test.YtgfadfahbhcllaaWNEv
import Derived.Test.YtgfadfahbhcllaaWMore
import Derived.Test.YtgfadfahbhcllaaMFnTear1
namespace Go.Proofs.Ytgfadfahbhcllaa.Q
open Go.RowKit Go.Proofs.YtgfadfahbhcllaaW.PrintWords Go.Proofs.YtgfadfahbhcllaaW.PrintLast Go.Proofs.YtgfadfahbhcllaaW.PrintMore Go.Proofs.Ytgfadfahbhcllaa.LK
set_option linter.unusedVariables false
set_option linter.unusedSimpArgs false
/-- The first 56 bytes of a frame's sector, and the rest. -/
def frameHead (q kd a b : Int) : List Int := P.leB 4 q ++ ([74, 49, kd % 256, 0] ++ (P.leB 4 a ++ (P.leB 4 b ++ List.replicate 40 0)))
def frameCode (q kd a b : Int) : List Int := frameHead q kd a b ++ (P.leB 4 (P.crc32 (frameHead q kd a b)) ++ P.leB 4 q)
theorem frameHead_length (q kd a b : Int) : (frameHead q kd a b).length = 56 := rfl
theorem frameCode_length (q kd a b : Int) : (frameCode q kd a b).length = 64 := rfl
def fc0 : List Int := List.replicate 64 0
def fc1 (q : Int) : List Int := splice fc0 0 (P.leB 4 q)
def fc2 (q : Int) : List Int := splice (fc1 q) 4 [74, 49]
def fc3 (q kd : Int) : List Int := (fc2 q).set 6 (kd % 256)
def fc4 (q kd a : Int) : List Int := splice (fc3 q kd) 8 (P.leB 4 a)
def fc5 (q kd a b : Int) : List Int := splice (fc4 q kd a) 12 (P.leB 4 b)
def fc6 (q kd a b c : Int) : List Int := splice (fc5 q kd a b) 56 (P.leB 4 c)
def fc7 (q kd a b c : Int) : List Int := splice (fc6 q kd a b c) 60 (P.leB 4 q)
theorem fc5_head (q kd a b : Int) : (fc5 q kd a b).take 56 = frameHead q kd a b := rfl
theorem fc7_code (q kd a b : Int) : fc7 q kd a b (P.crc32 (frameHead q kd a b)) = frameCode q kd a b := rfl
theorem fc0_v : bytesV fc0 = List.replicate 64 (Value.int .u8 0) := rfl
theorem bytesV_set (l : List Int) (i : Nat) (x : Int) : (bytesV l).set i (.int .u8 x) = bytesV (l.set i x) := by unfold bytesV; exact List.map_set.symm
theorem set_seg {l : List Int} {i : Nat} {x : Int} (h : i < l.length) : (bytesV l).take i ++ [.int .u8 x] ++ (bytesV l).drop (i + 1) = bytesV (l.set i x) := by
  rw [← bytesV_set, List.set_eq_take_append_cons_drop, if_pos (by rw [bytesV_length]; exact h), List.append_assoc]
  rfl
set_option maxHeartbeats 8000000 in
set_option maxRecDepth 100000 in
theorem code_calls {q kd a b : Int} {w : World} (hq : 0 ≤ q ∧ q ≤ 4294967295) (ha : 0 ≤ a ∧ a ≤ 4294967295) (hb : 0 ≤ b ∧ b ≤ 4294967295) :
    Calls Try.prog 52 #[.agg #[.int .u32 q, .int .i64 kd, .int .u32 a, .int .u32 b]] w fun e w' => e = .returned (.agg (bytesV (frameCode q kd a b)).toArray) ∧ Below w.heap.size w w' := by
  have jq : IntKind.u64.wrap q = q := by rw [IntKind.wrap_u64]; omega
  have ja : IntKind.u64.wrap a = a := by rw [IntKind.wrap_u64]; omega
  have jb : IntKind.u64.wrap b = b := by rw [IntKind.wrap_u64]; omega
  have jk : IntKind.u8.wrap kd = kd % 256 := by rw [IntKind.wrap_u8]
  have hcr := P.crc32_range (frameHead q kd a b)
  obtain ⟨c, hc⟩ : ∃ c, c = P.crc32 (frameHead q kd a b) := ⟨_, rfl⟩
  rw [← hc] at hcr
  unfold P.U32 at hcr
  have jc : IntKind.u64.wrap c = c := by rw [IntKind.wrap_u64]; omega
  obtain ⟨kc, hkc⟩ := (P.impl_Crc32_ev (frameHead q kd a b) (by rw [frameHead_length]; decide)).ex
  rw [← hc] at hkc
  have HKC := Aside0.mk hkc
  have HC := Aside0.mk hc
  have HCr := Aside0.mk hcr
  have HQ := Aside0.mk hq
  have HA := Aside0.mk ha
  have HBb := Aside0.mk hb
  have H0 := Aside0.mk (Bx.refl w)
  clear hq ha hb hkc hc hcr
  go_enter Try.func52, Try.ntmps52
  go_wp2_with (first | ((with_reducible refine gate_dst (N := 1) rfl ?_); refine Aside0.out ?_))
  refine Aside0.mk ?_
  refine mk ?hw1 (N := 1) ?hd1 (cs := #[.int .u32 q, .int .i64 kd, .int .u32 a, .int .u32 b]) (t := 27) ?hr1 ?_
  case hd1 => rfl
  case hw1 => rfl
  case hr1 => first | (go_simp; done) | (go_simp; rfl)
  intro g1 hg1_ w101 hb1 hB1
  have H102 := Aside0.mk (H0.out.new hg1_ hb1 hB1)
  clear hg1_ hb1 hB1 H0
  go_wp2_with (first | ((with_reducible refine gate_dst (N := 2) rfl ?_); refine Aside0.out ?_))
  refine Aside0.mk ?_
  refine mk ?hw3 (N := 2) ?hd3 (cs := (bytesV fc0).toArray) (t := 79) ?hr3 ?_
  case hd3 => rfl
  case hw3 => rfl
  case hr3 => first | (go_simp; done) | (go_simp; rfl)
  intro g2 hg2_ w103 hb3 hB3
  have H104 := Aside0.mk (H102.out.new hg2_ hb3 hB3)
  clear hg2_ hb3 hB3 H102
  go_wp2_with (first | ((with_reducible refine gate_dst (N := 3) rfl ?_); refine Aside0.out ?_))
  refine Aside0.mk ?_
  refine mk ?hw5 (N := 3) ?hd5 (cs := (bytesV fc0).toArray) (t := 79) ?hr5 ?_
  case hd5 => rfl
  case hw5 => rfl
  case hr5 => first | (go_simp; done) | (go_simp; rfl)
  intro g3 hg3_ w105 hb5 hB5
  have H106 := Aside0.mk (H104.out.new hg3_ hb5 hB5)
  clear hg3_ hb5 hB5 H104
  try go_wp2
  have H108 := Aside0.mk H106.out.drew
  refine start_ (n := 5) (S := fun w' => w'.cell? ⟨g1, 0, none⟩ = some (.int .u32 q)) (ds := [4]) #[false, false, false, false, false] (by kernel_rfl) rfl rfl ((blk_cell H108.out.gt2 0).trans rfl) (fun hHeld => ?_)
  clear H106
  generalize w105.drew = w107 at H108 hHeld ⊢
  refine pure_ (i := 0) (N := some 4) (v := ?_) (a' := ?_) #[true, false, false, false, false] rfl rfl (by kernel_rfl) (fun _ _ _ h => h) (Or.inl ⟨by rfl, ?_⟩) ?_ ?_
  rotate_left
  · intro w'
    go_simp
    with_reducible rfl
  rotate_left
  · simp only [Act.put, List.setIfInBounds_toArray, List.set_cons_zero, List.set_cons_succ, i64_w, i32_w]
    rfl
  refine pure_ (i := 1) (N := some 5) (v := ?_) (a' := ?_) #[true, true, false, false, false] rfl rfl (by kernel_rfl) (fun _ _ _ h => h) (Or.inl ⟨by rfl, ?_⟩) ?_ ?_
  rotate_left
  · intro w'
    go_simp
    with_reducible rfl
  rotate_left
  · simp only [Act.put, List.setIfInBounds_toArray, List.set_cons_zero, List.set_cons_succ, i64_w, i32_w]
    rfl
  refine take_ (i := 2) (N := some 6) (v := ?_) (a' := ?_) #[true, true, true, false, false] rfl rfl (by kernel_rfl) (fun _ _ _ h => h) (Or.inl ⟨by rfl, ?_⟩) hHeld ?_ ?_
  rotate_left
  · rintro w' s0
    go_simp
    with_reducible rfl
  rotate_left
  · simp only [Act.put, List.setIfInBounds_toArray, List.set_cons_zero, List.set_cons_succ, i64_w, i32_w]
    rfl
  refine pure_ (i := 3) (N := some 7) (v := ?_) (a' := ?_) #[true, true, true, true, false] rfl rfl (by kernel_rfl) (fun _ _ _ h => h) (Or.inl ⟨by rfl, ?_⟩) ?_ ?_
  rotate_left
  · intro w'
    go_simp
    with_reducible rfl
  rotate_left
  · simp only [Act.put, List.setIfInBounds_toArray, List.set_cons_zero, List.set_cons_succ, i64_w, i32_w]
    rfl
  refine last_ (i := 4) (N := some 8) #[true, true, true, true, true] rfl rfl (by kernel_rfl) (by decide) (fun K hK => ?_)
  refine goes_ Try.func88 (by kernel_rfl) rfl #[.slice (some ⟨g3, 0, none⟩) 64 64, .int .i64 0, .int .i64 4, .int .u64 q] (by rfl) rfl rfl (by (try simp only [List.map_toArray, List.map_cons, List.map_nil]); first | done | rfl) ?_
  refine (put_box (l := fc0) 0 4 H108.out.below (H108.out.at_ _ (List.mem_cons_self ..)).1 H108.out.gt0 (by have := HQ.out; omega) (by decide) (by show 0 + 4 ≤ 64; decide) (by show 64 ≤ 4611686018427387904; decide) (by show 0 < 64; decide)).mono ?_
  rintro e w109 ⟨rfl, hb9, hS9⟩
  refine ⟨_, rfl, ?_⟩
  have H110 := Aside0.mk (H108.out.wr0 (cs' := (bytesV (fc1 q)).toArray) hb9 hS9)
  clear hb9 hS9 H108
  refine hK.out _ _ ?_
  clear hK K
  refine done_ (by kernel_rfl) ?_
  try dsimp only
  go_wp2_with (first | ((with_reducible refine gate_builtin (b := .copy) (xs := #[.tmp 9, .const (.string ⟨#[74, 49]⟩)]) rfl ?_); refine Aside0.out ?_))
  refine Aside0.mk ?_
  obtain ⟨i5, hi5, _, hsz5, _⟩ := info_parts info5
  refine copy_str rfl (.tmp 9) _ 25 _ rfl 5 Try.underlying25 (fun w_ => by simp [sizeOf, typeInfo, hi5, hsz5, Result.andThen]) g3 4 60 60 rfl _ rfl (by decide) (bytesV (fc1 q)) 79 H110.out.gt0 [74, 49] rfl rfl (by rw [bytesV_length]; show 6 ≤ 64; decide) ?_
  intro w111 hb11 hS11
  rw [show splice (bytesV (fc1 q)) 4 (bytesV [74, 49]) = bytesV (fc2 q) from rfl] at hb11
  clear hi5 hsz5
  have H112 := Aside0.mk (H110.out.wr0 (cs' := (bytesV (fc2 q)).toArray) hb11 hS11)
  clear hb11 hS11 H110
  have hk1 : w111.cell? ⟨g1, 1, none⟩ = some (.int .i64 kd) := (blk_cell H112.out.gt2 1).trans rfl
  go_wp2_with (first | ((with_reducible refine gate_store (t := 5) (p := 14) rfl ?_); refine Aside0.out ?_))
  refine Aside0.mk ?_
  refine st (o' := 6) (u := .int .u8 (kd % 256)) (seg := [.int .u8 (kd % 256)]) ?hw13 ?hN13 rfl ?hp13 ?hx13 rfl H112.out.gt0 (by kernel_rfl) (by rw [List.size_toArray, bytesV_length]; show 7 ≤ 64; decide) (by simp [Value.oneCell']) ?_
  case hw13 => rfl
  case hN13 => rfl
  case hp13 => rfl
  case hx13 => rfl
  intro w113 hb13 hS13
  replace hb13 := hb13.trans (congrArg (fun z : List Value => some (Obj.cells z.toArray 79 (0, 0))) (set_seg (l := fc2 q) (i := 6) (x := kd % 256) (by show 6 < 64; decide)))
  clear hk1
  have H114 := Aside0.mk (H112.out.wr0 (cs' := (bytesV (fc3 q kd)).toArray) hb13 hS13)
  clear hb13 hS13 H112
  try go_wp2
  have H116 := Aside0.mk H114.out.drew
  refine start_ (n := 5) (S := fun w' => w'.cell? ⟨g1, 2, none⟩ = some (.int .u32 a)) (ds := [4]) #[false, false, false, false, false] (by kernel_rfl) rfl rfl ((blk_cell H116.out.gt2 2).trans rfl) (fun hHeld => ?_)
  clear H114
  generalize w113.drew = w115 at H116 hHeld ⊢
  refine pure_ (i := 0) (N := some 15) (v := ?_) (a' := ?_) #[true, false, false, false, false] rfl rfl (by kernel_rfl) (fun _ _ _ h => h) (Or.inl ⟨by rfl, ?_⟩) ?_ ?_
  rotate_left
  · intro w'
    go_simp
    with_reducible rfl
  rotate_left
  · simp only [Act.put, List.setIfInBounds_toArray, List.set_cons_zero, List.set_cons_succ, i64_w, i32_w]
    rfl
  refine pure_ (i := 1) (N := some 16) (v := ?_) (a' := ?_) #[true, true, false, false, false] rfl rfl (by kernel_rfl) (fun _ _ _ h => h) (Or.inl ⟨by rfl, ?_⟩) ?_ ?_
  rotate_left
  · intro w'
    go_simp
    with_reducible rfl
  rotate_left
  · simp only [Act.put, List.setIfInBounds_toArray, List.set_cons_zero, List.set_cons_succ, i64_w, i32_w]
    rfl
  refine take_ (i := 2) (N := some 17) (v := ?_) (a' := ?_) #[true, true, true, false, false] rfl rfl (by kernel_rfl) (fun _ _ _ h => h) (Or.inl ⟨by rfl, ?_⟩) hHeld ?_ ?_
  rotate_left
  · rintro w' s0
    go_simp
    with_reducible rfl
  rotate_left
  · simp only [Act.put, List.setIfInBounds_toArray, List.set_cons_zero, List.set_cons_succ, i64_w, i32_w]
    rfl
  refine pure_ (i := 3) (N := some 18) (v := ?_) (a' := ?_) #[true, true, true, true, false] rfl rfl (by kernel_rfl) (fun _ _ _ h => h) (Or.inl ⟨by rfl, ?_⟩) ?_ ?_
  rotate_left
  · intro w'
    go_simp
    with_reducible rfl
  rotate_left
  · simp only [Act.put, List.setIfInBounds_toArray, List.set_cons_zero, List.set_cons_succ, i64_w, i32_w]
    rfl
  refine last_ (i := 4) (N := some 19) #[true, true, true, true, true] rfl rfl (by kernel_rfl) (by decide) (fun K hK => ?_)
  refine goes_ Try.func88 (by kernel_rfl) rfl #[.slice (some ⟨g3, 0, none⟩) 64 64, .int .i64 8, .int .i64 4, .int .u64 a] (by rfl) rfl rfl (by (try simp only [List.map_toArray, List.map_cons, List.map_nil]); first | done | rfl) ?_
  refine (put_box (l := fc3 q kd) 8 4 H116.out.below (H116.out.at_ _ (List.mem_cons_self ..)).1 H116.out.gt0 (by have := HA.out; omega) (by decide) (by show 8 + 4 ≤ 64; decide) (by show 64 ≤ 4611686018427387904; decide) (by show 0 < 64; decide)).mono ?_
  rintro e w117 ⟨rfl, hb17, hS17⟩
  refine ⟨_, rfl, ?_⟩
  have H118 := Aside0.mk (H116.out.wr0 (cs' := (bytesV (fc4 q kd a)).toArray) hb17 hS17)
  clear hb17 hS17 H116
  refine hK.out _ _ ?_
  clear hK K
  refine done_ (by kernel_rfl) ?_
  try dsimp only
  try go_wp2
  have H120 := Aside0.mk H118.out.drew
  refine start_ (n := 5) (S := fun w' => w'.cell? ⟨g1, 3, none⟩ = some (.int .u32 b)) (ds := [4]) #[false, false, false, false, false] (by kernel_rfl) rfl rfl ((blk_cell H120.out.gt2 3).trans rfl) (fun hHeld => ?_)
  clear H118
  generalize w117.drew = w119 at H120 hHeld ⊢
  refine pure_ (i := 0) (N := some 20) (v := ?_) (a' := ?_) #[true, false, false, false, false] rfl rfl (by kernel_rfl) (fun _ _ _ h => h) (Or.inl ⟨by rfl, ?_⟩) ?_ ?_
  rotate_left
  · intro w'
    go_simp
    with_reducible rfl
  rotate_left
  · simp only [Act.put, List.setIfInBounds_toArray, List.set_cons_zero, List.set_cons_succ, i64_w, i32_w]
    rfl
  refine pure_ (i := 1) (N := some 21) (v := ?_) (a' := ?_) #[true, true, false, false, false] rfl rfl (by kernel_rfl) (fun _ _ _ h => h) (Or.inl ⟨by rfl, ?_⟩) ?_ ?_
  rotate_left
  · intro w'
    go_simp
    with_reducible rfl
  rotate_left
  · simp only [Act.put, List.setIfInBounds_toArray, List.set_cons_zero, List.set_cons_succ, i64_w, i32_w]
    rfl
  refine take_ (i := 2) (N := some 22) (v := ?_) (a' := ?_) #[true, true, true, false, false] rfl rfl (by kernel_rfl) (fun _ _ _ h => h) (Or.inl ⟨by rfl, ?_⟩) hHeld ?_ ?_
  rotate_left
  · rintro w' s0
    go_simp
    with_reducible rfl
  rotate_left
  · simp only [Act.put, List.setIfInBounds_toArray, List.set_cons_zero, List.set_cons_succ, i64_w, i32_w]
    rfl
  refine pure_ (i := 3) (N := some 23) (v := ?_) (a' := ?_) #[true, true, true, true, false] rfl rfl (by kernel_rfl) (fun _ _ _ h => h) (Or.inl ⟨by rfl, ?_⟩) ?_ ?_
  rotate_left
  · intro w'
    go_simp
    with_reducible rfl
  rotate_left
  · simp only [Act.put, List.setIfInBounds_toArray, List.set_cons_zero, List.set_cons_succ, i64_w, i32_w]
    rfl
  refine last_ (i := 4) (N := some 24) #[true, true, true, true, true] rfl rfl (by kernel_rfl) (by decide) (fun K hK => ?_)
  refine goes_ Try.func88 (by kernel_rfl) rfl #[.slice (some ⟨g3, 0, none⟩) 64 64, .int .i64 12, .int .i64 4, .int .u64 b] (by rfl) rfl rfl (by (try simp only [List.map_toArray, List.map_cons, List.map_nil]); first | done | rfl) ?_
  refine (put_box (l := fc4 q kd a) 12 4 H120.out.below (H120.out.at_ _ (List.mem_cons_self ..)).1 H120.out.gt0 (by have := HBb.out; omega) (by decide) (by show 12 + 4 ≤ 64; decide) (by show 64 ≤ 4611686018427387904; decide) (by show 0 < 64; decide)).mono ?_
  rintro e w121 ⟨rfl, hb21, hS21⟩
  refine ⟨_, rfl, ?_⟩
  have H122 := Aside0.mk (H120.out.wr0 (cs' := (bytesV (fc5 q kd a b)).toArray) hb21 hS21)
  clear hb21 hS21 H120
  refine hK.out _ _ ?_
  clear hK K
  refine done_ (by kernel_rfl) ?_
  try dsimp only
  try go_wp2
  have H124 := Aside0.mk H122.out.drew
  refine start_ (n := 5) (S := fun w' => True) (ds := [4]) #[false, false, false, false, false] (by kernel_rfl) rfl rfl trivial (fun hHeld => ?_)
  clear H122
  generalize w121.drew = w123 at H124 hHeld ⊢
  refine pure_ (i := 0) (N := some 25) (v := ?_) (a' := ?_) #[true, false, false, false, false] rfl rfl (by kernel_rfl) (fun _ _ _ h => h) (Or.inl ⟨by rfl, ?_⟩) ?_ ?_
  rotate_left
  · intro w'
    go_simp
    with_reducible rfl
  rotate_left
  · simp only [Act.put, List.setIfInBounds_toArray, List.set_cons_zero, List.set_cons_succ, i64_w, i32_w]
    rfl
  refine pure_ (i := 1) (N := some 26) (v := ?_) (a' := ?_) #[true, true, false, false, false] rfl rfl (by kernel_rfl) (fun _ _ _ h => h) (Or.inl ⟨by rfl, ?_⟩) ?_ ?_
  rotate_left
  · intro w'
    go_simp
    with_reducible rfl
  rotate_left
  · simp only [Act.put, List.setIfInBounds_toArray, List.set_cons_zero, List.set_cons_succ, i64_w, i32_w]
    rfl
  refine one_ (i := 2) (N := some 27) #[true, true, true, false, false] rfl rfl (by kernel_rfl) (by decide) (fun K hK => ?_)
  refine goes_ Try.func89 (by kernel_rfl) rfl #[.slice (some ⟨g3, 0, none⟩) 56 64] (by rfl) rfl rfl (by (try simp only [List.map_toArray, List.map_cons, List.map_nil]); first | done | rfl) ?_
  have hCh : Kd.C (Kd.int .u8) w123 (some ⟨g3, 0, none⟩) (frameHead q kd a b).length (frameHead q kd a b) := by
    have h1 := Kd.reads_of_C (enc := Value.int .u8) (d := (0 : Int)) (h1 := fun _ => rfl) (Kd.R_reads' (R_arr (base := 0) (l := fc5 q kd a b) H124.out.gt0 (Nat.zero_le _) (by show 64 ≤ 9223372036854775807; decide))).2.2
    have h2 := h1.take_ 56 (by show 56 ≤ 64; decide)
    rw [fc5_head] at h2
    exact Kd.C_of_reads (h1 := fun _ => rfl) h2
  refine (impl_Crc32.calls kc _ 64 (frameHead q kd a b) c _ hCh (by show 56 ≤ 64; decide) HKC.out).mono ?_
  rintro e w125 ⟨rfl, hd_⟩
  refine ⟨_, rfl, ?_⟩
  have hb_ := hd_.below
  clear hd_ hCh
  have H126 := Aside0.mk (H124.out.step hb_)
  clear hb_ H124
  refine hK.out _ _ trivial (fun hHeld => ?_)
  clear hK K
  refine norm_ (a' := ?_) ?_ ?_
  rotate_left
  · show Act.put _ (some 27) _ = _
    simp only [Act.put, List.setIfInBounds_toArray, List.set_cons_zero, List.set_cons_succ, i64_w, i32_w]
    rfl
  refine pure_ (i := 3) (N := some 28) (v := ?_) (a' := ?_) #[true, true, true, true, false] rfl rfl (by kernel_rfl) (fun _ _ _ h => h) (Or.inl ⟨by rfl, ?_⟩) ?_ ?_
  rotate_left
  · intro w'
    go_simp
    with_reducible rfl
  rotate_left
  · simp only [Act.put, List.setIfInBounds_toArray, List.set_cons_zero, List.set_cons_succ, i64_w, i32_w]
    rfl
  refine last_ (i := 4) (N := some 29) #[true, true, true, true, true] rfl rfl (by kernel_rfl) (by decide) (fun K hK => ?_)
  refine goes_ Try.func88 (by kernel_rfl) rfl #[.slice (some ⟨g3, 0, none⟩) 64 64, .int .i64 56, .int .i64 4, .int .u64 c] (by rfl) rfl rfl (by (try simp only [List.map_toArray, List.map_cons, List.map_nil]); first | done | rfl) ?_
  refine (put_box (l := fc5 q kd a b) 56 4 H126.out.below (H126.out.at_ _ (List.mem_cons_self ..)).1 H126.out.gt0 (by have := HCr.out; omega) (by decide) (by show 56 + 4 ≤ 64; decide) (by show 64 ≤ 4611686018427387904; decide) (by show 0 < 64; decide)).mono ?_
  rintro e w127 ⟨rfl, hb27, hS27⟩
  refine ⟨_, rfl, ?_⟩
  have H128 := Aside0.mk (H126.out.wr0 (cs' := (bytesV (fc6 q kd a b c)).toArray) hb27 hS27)
  clear hb27 hS27 H126
  refine hK.out _ _ ?_
  clear hK K
  refine done_ (by kernel_rfl) ?_
  try dsimp only
  try go_wp2
  have H130 := Aside0.mk H128.out.drew
  refine start_ (n := 5) (S := fun w' => w'.cell? ⟨g1, 0, none⟩ = some (.int .u32 q)) (ds := [4]) #[false, false, false, false, false] (by kernel_rfl) rfl rfl ((blk_cell H130.out.gt2 0).trans rfl) (fun hHeld => ?_)
  clear H128
  generalize w127.drew = w129 at H130 hHeld ⊢
  refine pure_ (i := 0) (N := some 30) (v := ?_) (a' := ?_) #[true, false, false, false, false] rfl rfl (by kernel_rfl) (fun _ _ _ h => h) (Or.inl ⟨by rfl, ?_⟩) ?_ ?_
  rotate_left
  · intro w'
    go_simp
    with_reducible rfl
  rotate_left
  · simp only [Act.put, List.setIfInBounds_toArray, List.set_cons_zero, List.set_cons_succ, i64_w, i32_w]
    rfl
  refine pure_ (i := 1) (N := some 31) (v := ?_) (a' := ?_) #[true, true, false, false, false] rfl rfl (by kernel_rfl) (fun _ _ _ h => h) (Or.inl ⟨by rfl, ?_⟩) ?_ ?_
  rotate_left
  · intro w'
    go_simp
    with_reducible rfl
  rotate_left
  · simp only [Act.put, List.setIfInBounds_toArray, List.set_cons_zero, List.set_cons_succ, i64_w, i32_w]
    rfl
  refine take_ (i := 2) (N := some 32) (v := ?_) (a' := ?_) #[true, true, true, false, false] rfl rfl (by kernel_rfl) (fun _ _ _ h => h) (Or.inl ⟨by rfl, ?_⟩) hHeld ?_ ?_
  rotate_left
  · rintro w' s0
    go_simp
    with_reducible rfl
  rotate_left
  · simp only [Act.put, List.setIfInBounds_toArray, List.set_cons_zero, List.set_cons_succ, i64_w, i32_w]
    rfl
  refine pure_ (i := 3) (N := some 33) (v := ?_) (a' := ?_) #[true, true, true, true, false] rfl rfl (by kernel_rfl) (fun _ _ _ h => h) (Or.inl ⟨by rfl, ?_⟩) ?_ ?_
  rotate_left
  · intro w'
    go_simp
    with_reducible rfl
  rotate_left
  · simp only [Act.put, List.setIfInBounds_toArray, List.set_cons_zero, List.set_cons_succ, i64_w, i32_w]
    rfl
  refine last_ (i := 4) (N := some 34) #[true, true, true, true, true] rfl rfl (by kernel_rfl) (by decide) (fun K hK => ?_)
  refine goes_ Try.func88 (by kernel_rfl) rfl #[.slice (some ⟨g3, 0, none⟩) 64 64, .int .i64 60, .int .i64 4, .int .u64 q] (by rfl) rfl rfl (by (try simp only [List.map_toArray, List.map_cons, List.map_nil]); first | done | rfl) ?_
  refine (put_box (l := fc6 q kd a b c) 60 4 H130.out.below (H130.out.at_ _ (List.mem_cons_self ..)).1 H130.out.gt0 (by have := HQ.out; omega) (by decide) (by show 60 + 4 ≤ 64; decide) (by show 64 ≤ 4611686018427387904; decide) (by show 0 < 64; decide)).mono ?_
  rintro e w131 ⟨rfl, hb31, hS31⟩
  refine ⟨_, rfl, ?_⟩
  have H132 := Aside0.mk (H130.out.wr0 (cs' := (bytesV (fc7 q kd a b c)).toArray) hb31 hS31)
  clear hb31 hS31 H130
  refine hK.out _ _ ?_
  clear hK K
  refine done_ (by kernel_rfl) ?_
  try dsimp only
  go_wp2_with (first | ((with_reducible refine gate_dst (N := 35) rfl ?_); refine Aside0.out ?_))
  refine Aside0.mk ?_
  refine ld ?hw33 rfl ?hx33 H132.out.gt0 Try.underlying79 rfl (by rw [List.size_toArray, bytesV_length, show (fc7 q kd a b c).length = 64 from rfl]; kernel_rfl) ?_
  case hw33 => rfl
  case hx33 => rfl
  go_wp2_with (first | ((with_reducible refine gate_store (t := 79) (p := 2) rfl ?_); refine Aside0.out ?_))
  refine Aside0.mk ?_
  refine st_all ?hw34 ?hN34 rfl ?hp34 (cs := (bytesV (fc7 q kd a b c)).toArray) ?hx34 H132.out.gt1 (by rw [List.size_toArray, bytesV_length, show (fc7 q kd a b c).length = 64 from rfl]; kernel_rfl) (by rw [List.size_toArray, List.size_toArray, bytesV_length, bytesV_length]; rfl) (bytesV_one _) ?_
  case hw34 => rfl
  case hN34 => rfl
  case hp34 => rfl
  case hx34 => rfl
  intro w134 hb34 hS34
  have H135 := Aside0.mk (H132.out.wr1 (cs' := (bytesV (fc7 q kd a b c)).toArray) hb34 hS34)
  clear hb34 hS34 H132
  go_wp2
  refine bodyPost_ret (results_cell_row rfl _ _ g2 79 (bytesV (fc7 q kd a b c)).toArray (0, 0) _ rfl H135.out.gt1 Try.underlying79 rfl (by rw [List.size_toArray, bytesV_length, show (fc7 q kd a b c).length = 64 from rfl]; kernel_rfl)) rfl ?_
  exact ⟨by rw [HC.out, fc7_code], H135.out.below⟩
/-- What EncodeFrame answers. -/
def impl_EncodeFrame.f (a0_0 : Int) (a0_1 : Int) (a0_2 : Int) (a0_3 : Int) : Option (List Int) :=
  if (0 ≤ a0_0 ∧ a0_0 ≤ 4294967295) ∧ (0 ≤ a0_2 ∧ a0_2 ≤ 4294967295) ∧ (0 ≤ a0_3 ∧ a0_3 ≤ 4294967295) then some (if 1 ≤ a0_1 ∧ a0_1 ≤ 3 then frameCode a0_0 a0_1 a0_2 a0_3 else []) else none
set_option maxHeartbeats 8000000 in
set_option maxRecDepth 100000 in
theorem impl_EncodeFrame.calls (a0_0 : Int) (a0_1 : Int) (a0_2 : Int) (a0_3 : Int) (r : List Int) (w : World) (h : impl_EncodeFrame.f a0_0 a0_1 a0_2 a0_3 = some r) :
    Calls Try.prog 13 #[.agg #[.int .u32 a0_0, .int .i64 a0_1, .int .u32 a0_2, .int .u32 a0_3]] w fun e w' => ∃ v0_ : Value, e = .returned (v0_) ∧ Kd.R (Kd.int .u8) 79 w' w.heap.size (fun _ => True) v0_ r ∧ Below w.heap.size w w' := by
  unfold impl_EncodeFrame.f at h
  by_cases hsz : (0 ≤ a0_0 ∧ a0_0 ≤ 4294967295) ∧ (0 ≤ a0_2 ∧ a0_2 ≤ 4294967295) ∧ (0 ≤ a0_3 ∧ a0_3 ≤ 4294967295)
  case neg => rw [if_neg hsz] at h; cases h
  rw [if_pos hsz] at h
  have h := Option.some.inj h
  have HSz := Aside0.mk hsz
  have H := Aside0.mk h
  have H0 := Aside0.mk (Bx.refl w)
  have hgd : impl_Frame_good.f a0_0 a0_1 a0_2 a0_3 = some (decide (1 ≤ a0_1 ∧ a0_1 ≤ 3)) := by
    unfold impl_Frame_good.f
    by_cases c1 : a0_1 ≥ 1
    · rw [if_pos c1]; congr 1; apply decide_eq_decide.2; omega
    · rw [if_neg c1, decide_eq_false (by omega)]
  have HGd := Aside0.mk hgd
  clear hsz h hgd
  go_enter Try.func13, Try.ntmps13
  go_wp2_with (first | ((with_reducible refine gate_dst (N := 1) rfl ?_); refine Aside0.out ?_))
  refine Aside0.mk ?_
  refine mk ?hw1 (N := 1) ?hd1 (cs := #[.int .u32 a0_0, .int .i64 a0_1, .int .u32 a0_2, .int .u32 a0_3]) (t := 27) ?hr1 ?_
  case hd1 => rfl
  case hw1 => rfl
  case hr1 => first | (go_simp; done) | (go_simp; rfl)
  intro g1 hg1_ w101 hb1 hB1
  have H102 := Aside0.mk (H0.out.new hg1_ hb1 hB1)
  clear hg1_ hb1 hB1 H0
  go_wp2_with (first | ((with_reducible refine gate_dst (N := 4) rfl ?_); refine Aside0.out ?_))
  refine Aside0.mk ?_
  refine ld ?hw3 rfl ?hx3 H102.out.gt0 Try.underlying27 rfl (by kernel_rfl) ?_
  case hw3 => rfl
  case hx3 => rfl
  go_wp2_with (first | ((with_reducible refine gate_callee (f := 51) rfl ?_); refine Aside0.out ?_))
  refine Aside0.mk ?_
  refine goesW (some 5) rfl ?hw4 Try.func51 (by kernel_rfl) rfl #[.agg #[.int .u32 a0_0, .int .i64 a0_1, .int .u32 a0_2, .int .u32 a0_3]] rfl (by (try simp only [List.map_toArray, List.map_cons, List.map_nil]); first | done | rfl) ?_
  case hw4 => rfl
  refine (impl_Frame_good.calls a0_0 a0_1 a0_2 a0_3 _ _ HGd.out).mono ?_
  rintro e w104 ⟨rfl, hb_⟩
  refine ⟨_, rfl, ?_⟩
  have H105 := Aside0.mk (H102.out.step hb_)
  clear hb_ H102
  by_cases hk : 1 ≤ a0_1 ∧ a0_1 ≤ 3
  · rw [decide_eq_true hk]
    have h := H.out
    rw [if_pos hk] at h
    subst h
    clear hk H
    go_wp2_with (first | ((with_reducible refine gate_dst (N := 7) rfl ?_); refine Aside0.out ?_))
    refine Aside0.mk ?_
    refine ld ?hw6 rfl ?hx6 H105.out.gt0 Try.underlying27 rfl (by kernel_rfl) ?_
    case hw6 => rfl
    case hx6 => rfl
    go_wp2_with (first | ((with_reducible refine gate_callee (f := 52) rfl ?_); refine Aside0.out ?_))
    refine Aside0.mk ?_
    refine goesW (some 8) rfl ?hw7 Try.func52 (by kernel_rfl) rfl #[.agg #[.int .u32 a0_0, .int .i64 a0_1, .int .u32 a0_2, .int .u32 a0_3]] rfl (by (try simp only [List.map_toArray, List.map_cons, List.map_nil]); first | done | rfl) ?_
    case hw7 => rfl
    refine (code_calls HSz.out.1 HSz.out.2.1 HSz.out.2.2).mono ?_
    rintro e w107 ⟨rfl, hb_⟩
    refine ⟨_, rfl, ?_⟩
    have H108 := Aside0.mk (H105.out.step hb_)
    clear hb_ H105
    go_wp2_with (first | ((with_reducible refine gate_dst (N := 3) rfl ?_); refine Aside0.out ?_))
    refine Aside0.mk ?_
    refine mk ?hw9 (N := 3) ?hd9 (cs := (bytesV fc0).toArray) (t := 79) ?hr9 ?_
    case hd9 => rfl
    case hw9 => rfl
    case hr9 => first | (go_simp; done) | (go_simp; rfl)
    intro g3 hg3_ w109 hb9 hB9
    have H110 := Aside0.mk (H108.out.new hg3_ hb9 hB9)
    clear hg3_ hb9 hB9 H108
    go_wp2_with (first | ((with_reducible refine gate_store (t := 79) (p := 3) rfl ?_); refine Aside0.out ?_))
    refine Aside0.mk ?_
    refine st_all ?hw11 ?hN11 rfl ?hp11 (cs := (bytesV (frameCode a0_0 a0_1 a0_2 a0_3)).toArray) ?hx11 H110.out.gt0 (by rw [List.size_toArray, bytesV_length, frameCode_length]; kernel_rfl) (by rw [List.size_toArray, List.size_toArray, bytesV_length, bytesV_length]; rfl) (bytesV_one _) ?_
    case hw11 => rfl
    case hN11 => rfl
    case hp11 => rfl
    case hx11 => rfl
    intro w111 hb11 hS11
    have H112 := Aside0.mk (H110.out.wr0 (cs' := (bytesV (frameCode a0_0 a0_1 a0_2 a0_3)).toArray) hb11 hS11)
    clear hb11 hS11 H110
    go_wp2
    go_ret
    exact ⟨_, rfl, R_arr (l := frameCode a0_0 a0_1 a0_2 a0_3) H112.out.gt0 (H112.out.at_ _ (List.mem_cons_self ..)).1 (by rw [frameCode_length]; decide), H112.out.below⟩
  · rw [decide_eq_false hk]
    have h := H.out
    rw [if_neg hk] at h
    subst h
    go_wp2
    go_ret
    exact ⟨_, rfl, Kd.R_nil _ _ _ _ _, H105.out.below⟩
end Go.Proofs.Ytgfadfahbhcllaa.Q
namespace Go.Proofs.Ytgfadfahbhcllaa.Q
open Go.RowKit Go.Proofs.YtgfadfahbhcllaaW.PrintWords Go.Proofs.YtgfadfahbhcllaaW.PrintLast Go.Proofs.YtgfadfahbhcllaaW.PrintMore Go.Proofs.Ytgfadfahbhcllaa.LK
set_option linter.unusedVariables false
section
variable {P : Program} {w : World}
theorem items_bytes {d : Nat} {e : TypeId} (he : P.underlying e = some (.int .u8)) (xs ys : List Int) : ∀ (is : List Nat), (∀ i ∈ is, i < xs.length ∧ i < ys.length) →
    ∃ r : Bool, (Op.eqItems (d + 1) e 1 (bytesV xs).toArray (bytesV ys).toArray is).run P w = .ok r w ∧ (r = true ↔ ∀ i ∈ is, xs[i]? = ys[i]?)
  | [], _ => ⟨true, by simp [Op.eqItems], by simp⟩
  | i :: is, h => by
    obtain ⟨h1, h2⟩ := h i (List.mem_cons_self ..)
    obtain ⟨r, hr, hi⟩ := items_bytes (d := d) he xs ys is (fun j hj => h j (List.mem_cons_of_mem _ hj))
    have hk : P.plainKey e = true := by unfold Program.plainKey; rw [he]
    have g1 : (bytesV xs).toArray[i * 1]? = some (.int .u8 xs[i]) := by rw [Nat.mul_one]; unfold bytesV; simp [List.getElem?_eq_getElem h1]
    have g2 : (bytesV ys).toArray[i * 1]? = some (.int .u8 ys[i]) := by rw [Nat.mul_one]; unfold bytesV; simp [List.getElem?_eq_getElem h2]
    have p1 := run_part_plain w hk g1
    have p2 := run_part_plain w hk g2
    have p3 := run_equalIn_int (P := P) w d e .u8 .u8 xs[i] ys[i] he
    simp only [Op.eqItems, Sem.run_bind, p1, p2, p3, Result.andThen_ok]
    by_cases hxy : xs[i] = ys[i]
    · rw [if_neg (by simp [hxy])]
      refine ⟨r, hr, ?_⟩
      rw [hi]
      constructor
      · intro hall j hj
        rcases List.mem_cons.1 hj with rfl | hj
        · rw [List.getElem?_eq_getElem h1, List.getElem?_eq_getElem h2, hxy]
        · exact hall j hj
      · exact fun hall j hj => hall j (List.mem_cons_of_mem _ hj)
    · rw [if_pos (by simp [hxy])]
      refine ⟨false, rfl, ?_⟩
      constructor
      · intro hf; cases hf
      · intro hall
        have := hall i (List.mem_cons_self ..)
        rw [List.getElem?_eq_getElem h1, List.getElem?_eq_getElem h2] at this
        exact absurd (Option.some.inj this) hxy
/-- Two arrays of bytes. -/
theorem neq_arr {t e : TypeId} {n : Nat} {i : TypeInfo} (hu : P.underlying t = some (.array n e)) (he : P.underlying e = some (.int .u8)) (hi : P.info? e = some i) (hc : P.cellsOf e = 1) {xs ys : List Int} (hx : xs.length = n) (hy : ys.length = n) :
    (binOp .neq t (.agg (bytesV xs).toArray) (.agg (bytesV ys).toArray)).run P w = .ok (.bool (decide (xs ≠ ys))) w := by
  obtain ⟨r, hr, hiff⟩ := items_bytes (P := P) (w := w) (d := 9998) he xs ys (List.range n) (fun j hj => by have := List.mem_range.1 hj; omega)
  rw [run_neq_struct]
  have h1 := run_equalIn_array (P := P) w 9999 (bytesV xs).toArray (bytesV ys).toArray hu hi
  rw [hc] at h1
  rw [h1, hr, Result.andThen_ok]
  have hd : (!r) = decide (xs ≠ ys) := by
    have e : r = decide (xs = ys) := by
      rw [Bool.eq_iff_iff, hiff, decide_eq_true_iff]
      constructor
      · intro hall
        refine List.ext_getElem? (fun j => ?_)
        by_cases hj : j < n
        · exact hall j (List.mem_range.2 hj)
        · rw [List.getElem?_eq_none (by omega), List.getElem?_eq_none (by omega)]
      · rintro rfl _ _
        rfl
    rw [e]
    by_cases hxy : xs = ys <;> simp [hxy]
  rw [hd]
end
end Go.Proofs.Ytgfadfahbhcllaa.Q
namespace Go.Proofs.Ytgfadfahbhcllaa.Q
open Go.RowKit Go.Proofs.YtgfadfahbhcllaaW.PrintWords Go.Proofs.YtgfadfahbhcllaaW.PrintLast Go.Proofs.Ytgfadfahbhcllaa.LK Go.Proofs.YtgfadfahbhcllaaW.PrintMore
attribute [local go_sem] max2_int min2_int max_two min_two max_three min_three max_four min_four   -- for this text's walks alone
set_option linter.unusedVariables false
set_option linter.unusedSimpArgs false

/-! ### impl_get: function 90 -/
def impl_get.l0 : Nat → List Int → Int → Int → Int → Option (Int)
  | 0, _, _, _, _ => none
  | k + 1, x0, x1, x7, x8 => if x8 ≥ 0 then (if 0 ≤ (wrap64 (x1 + x8)) then (if (wrap64 (x1 + x8)) < (x0.length : Int) then (impl_get.l0 k x0 x1 (Go.bits .or .u64 (IntKind.u64.wrap (x7 * 256)) (IntKind.u64.wrap (rd x0 (wrap64 (x1 + x8))))) (wrap64 (x8 - 1))) else (none)) else (none)) else (some x7)
def impl_get.f (k : Nat) (l0 : List Int) (a1 : Int) (a2 : Int) : Option (Int) := impl_get.l0 k l0 a1 0 (wrap64 (a2 - 1))
theorem impl_get.mono_l : ∀ k, (∀ y0 y1 y2 y3, LeO (impl_get.l0 k y0 y1 y2 y3) (impl_get.l0 (k + 1) y0 y1 y2 y3))
  | 0 => fun _ _ _ _ r h => by simp [impl_get.l0] at h
  | k + 1 => by
    have ih0 := impl_get.mono_l k
    · intro y0 y1 y2 y3
      unfold impl_get.l0
      repeat' first
      | (with_reducible exact ih0 _ _ _ _)
      | (with_reducible exact LeO.refl _)
      | (with_reducible exact LeO.none _)
      | (with_reducible refine LeO.ite ?_ ?_)
      | (with_reducible refine LeO.bind ?_ (fun _ => ?_))
      | exact ih0 _ _ _ _
      | exact LeO.none _
      | refine LeO.ite ?_ ?_
      | refine LeO.bind ?_ (fun _ => ?_)
theorem impl_get.mono : ∀ a0 a1 a2 k, LeO (impl_get.f k a0 a1 a2) (impl_get.f (k + 1) a0 a1 a2) := by
  intro a0 a1 a2 k
  have ih0 := impl_get.mono_l k
  unfold impl_get.f
  repeat' first
      | (with_reducible exact ih0 _ _ _ _)
      | (with_reducible exact LeO.refl _)
      | (with_reducible exact LeO.none _)
      | (with_reducible refine LeO.ite ?_ ?_)
      | (with_reducible refine LeO.bind ?_ (fun _ => ?_))
      | exact ih0 _ _ _ _
      | exact LeO.none _
      | refine LeO.ite ?_ ?_
      | refine LeO.bind ?_ (fun _ => ?_)
set_option maxHeartbeats 8000000 in
set_option maxRecDepth 100000 in
theorem impl_get.calls (k : Nat) (A0 : Option Addr) (c0 : Nat) (l0 : List Int) (a1 : Int) (a2 : Int) (r : Int) (w : World) (hr0 : Kd.C (Kd.int .u8) w A0 l0.length l0) (hc0 : l0.length ≤ c0) (h : impl_get.f k l0 a1 a2 = some r) :
    Calls Try.prog 90 #[.slice A0 l0.length c0, .int .i64 a1, .int .i64 a2] w fun e w' => e = .returned (.int .u64 r) ∧ Drawn0 w w' := by
  have HR0 := Aside0.mk hr0
  have HC0 := Aside0.mk hc0
  clear hr0 hc0
  have H : (impl_get.l0 k l0 a1 0 (wrap64 (a2 - 1))) = some r := h
  clear h
  have H' := Aside0.mk H
  clear H
  go_enter Try.func90, Try.ntmps90
  go_wp2
  go_loopg [7, 8] k (fun kq v7 v8 w' => ∃ (x7_1 : Int) (x8_1 : Int), v7 = .int .u64 x7_1 ∧ v8 = .int .i64 x8_1 ∧ Aside0 (impl_get.l0 kq l0 a1 x7_1 x8_1 = some r) ∧ Aside0 (kq ≤ k) ∧ Drawn0 w w')
  case atStart => exact ⟨(0), (wrap64 (a2 - 1)), (by first | rfl | (simp; done) | (simp [*]; done)), (by first | rfl | (simp; done) | (simp [*]; done)), H', ⟨Nat.le_refl _⟩, by repeat (first | exact Drawn0.refl _ | apply Drawn0.step)⟩
  case round =>
    clear H'
    try clear p2
    obtain ⟨x7_1, x8_1, rfl, rfl, HA, HK1, ⟨m1, rfl⟩⟩ := hrel
    cases gk with
    | zero => exact absurd HA.out (by simp [impl_get.l0])
    | succ k1 =>
      have H := HA.out
      clear HA
      simp only [impl_get.l0] at H
      by_cases c4 : x8_1 ≥ 0
      · rw [if_pos c4] at H
        have c4b0 : decide (0 ≤ x8_1) = true := decide_eq_true c4
        clear c4
        obtain ⟨ji5, hji5⟩ : ∃ j_ : Int, (wrap64 (a1 + x8_1)) = j_ := ⟨_, rfl⟩
        replace H : (if 0 ≤ (ji5) then (if (ji5) < (l0.length : Int) then (impl_get.l0 k1 l0 a1 (Go.bits .or .u64 (IntKind.u64.wrap (x7_1 * 256)) (IntKind.u64.wrap (rd l0 (ji5)))) (wrap64 (x8_1 - 1))) else (none)) else (none)) = some r := by first | (rw [hji5] at H; exact H) | (simp only [hji5] at H ⊢; exact H)
        have hji5w : (IntKind.i64.wrap (a1 + x8_1)) = ji5 := (i64_w _).trans hji5
        by_cases c6 : 0 ≤ (ji5)
        · rw [if_pos c6] at H
          have c6b0 : decide (0 ≤ (ji5)) = true := decide_eq_true c6
          clear c6
          by_cases c7 : (ji5) < (l0.length : Int)
          · rw [if_pos c7] at H
            have c7b0 : decide ((ji5) < (l0.length : Int)) = true := decide_eq_true c7
            clear c7
            have H' := Aside0.mk H
            clear H
            have p101 : 0 ≤ ((ji5) : Int) := of_decide_eq_true (by first | (with_reducible assumption) | assumption)
            have q101 : (ji5) < (l0.length : Int) := of_decide_eq_true (by first | (with_reducible assumption) | assumption)
            obtain ⟨ad101, e101, hx101_0⟩ := Kd.at_int HR0.out (ji5) p101 q101
            cases e101
            replace p101 := eq_true p101
            replace q101 := eq_true q101
            go_wp2
            go_roundg k1
            case measure => have := HK1.out; omega
            case rel => exact ⟨(Go.bits .or .u64 (IntKind.u64.wrap (x7_1 * 256)) (IntKind.u64.wrap (rd l0 (ji5)))), (wrap64 (x8_1 - 1)), (by first | rfl | (simp; done) | (simp only [← hji5] <;> (first | rfl | simp)) | (simp [*]; done)), (by first | rfl | (simp; done) | (simp [*]; done)), H', ⟨by have := HK1.out; omega⟩, by repeat (first | exact Drawn0.refl _ | apply Drawn0.step)⟩
          · rw [if_neg c7] at H
            exact absurd H (by simp)
        · rw [if_neg c6] at H
          exact absurd H (by simp)
      · rw [if_neg c4] at H
        have c4b0 : decide (0 ≤ x8_1) = false := decide_eq_false c4
        clear c4
        obtain rfl := Option.some.inj H
        go_wp2
        go_ret
        exact ⟨by first | rfl | (simp; done) | (simp [*]; done), by repeat (first | exact Drawn0.refl _ | apply Drawn0.step)⟩

end Go.Proofs.Ytgfadfahbhcllaa.Q
namespace Go.Proofs.Ytgfadfahbhcllaa.Q
open Go.RowKit Go.Proofs.YtgfadfahbhcllaaW.PrintWords Go.Proofs.YtgfadfahbhcllaaW.PrintLast Go.Proofs.Ytgfadfahbhcllaa.LK Go.Proofs.YtgfadfahbhcllaaW.PrintMore
attribute [local go_sem] max2_int min2_int max_two min_two max_three min_three max_four min_four   -- for this text's walks alone
set_option linter.unusedVariables false
set_option linter.unusedSimpArgs false

/-! ### spec_l2Get: function 53 -/
def spec_l2Get.f (l0 : List Int) (a1 : Int) : Option (Int) := if 0 ≤ a1 then (if a1 < (l0.length : Int) then (if 0 ≤ (wrap64 (a1 + 1)) then (if (wrap64 (a1 + 1)) < (l0.length : Int) then (if 0 ≤ (wrap64 (a1 + 2)) then (if (wrap64 (a1 + 2)) < (l0.length : Int) then (if 0 ≤ (wrap64 (a1 + 3)) then (if (wrap64 (a1 + 3)) < (l0.length : Int) then (some ((((((((rd l0 a1) % 4294967296) + ((256 * ((rd l0 (wrap64 (a1 + 1))) % 4294967296)) % 4294967296)) % 4294967296) + ((65536 * ((rd l0 (wrap64 (a1 + 2))) % 4294967296)) % 4294967296)) % 4294967296) + ((16777216 * ((rd l0 (wrap64 (a1 + 3))) % 4294967296)) % 4294967296)) % 4294967296)) else (none)) else (none)) else (none)) else (none)) else (none)) else (none)) else (none)) else (none)
set_option maxHeartbeats 8000000 in
set_option maxRecDepth 100000 in
theorem spec_l2Get.calls (A0 : Option Addr) (c0 : Nat) (l0 : List Int) (a1 : Int) (r : Int) (w : World) (hr0 : Kd.C (Kd.int .u8) w A0 l0.length l0) (hc0 : l0.length ≤ c0) (h : spec_l2Get.f l0 a1 = some r) :
    Calls Try.prog 53 #[.slice A0 l0.length c0, .int .i64 a1] w fun e w' => e = .returned (.int .u32 r) ∧ Drawn0 w w' := by
  have HR0 := Aside0.mk hr0
  have HC0 := Aside0.mk hc0
  clear hr0 hc0
  have H : (if 0 ≤ a1 then (if a1 < (l0.length : Int) then (if 0 ≤ (wrap64 (a1 + 1)) then (if (wrap64 (a1 + 1)) < (l0.length : Int) then (if 0 ≤ (wrap64 (a1 + 2)) then (if (wrap64 (a1 + 2)) < (l0.length : Int) then (if 0 ≤ (wrap64 (a1 + 3)) then (if (wrap64 (a1 + 3)) < (l0.length : Int) then (some ((((((((rd l0 a1) % 4294967296) + ((256 * ((rd l0 (wrap64 (a1 + 1))) % 4294967296)) % 4294967296)) % 4294967296) + ((65536 * ((rd l0 (wrap64 (a1 + 2))) % 4294967296)) % 4294967296)) % 4294967296) + ((16777216 * ((rd l0 (wrap64 (a1 + 3))) % 4294967296)) % 4294967296)) % 4294967296)) else (none)) else (none)) else (none)) else (none)) else (none)) else (none)) else (none)) else (none)) = some r := h
  clear h
  by_cases c3 : 0 ≤ a1
  · rw [if_pos c3] at H
    have c3b0 : decide (0 ≤ a1) = true := decide_eq_true c3
    clear c3
    by_cases c4 : a1 < (l0.length : Int)
    · rw [if_pos c4] at H
      have c4b0 : decide (a1 < (l0.length : Int)) = true := decide_eq_true c4
      clear c4
      obtain ⟨ji5, hji5⟩ : ∃ j_ : Int, (wrap64 (a1 + 1)) = j_ := ⟨_, rfl⟩
      replace H : (if 0 ≤ (ji5) then (if (ji5) < (l0.length : Int) then (if 0 ≤ (wrap64 (a1 + 2)) then (if (wrap64 (a1 + 2)) < (l0.length : Int) then (if 0 ≤ (wrap64 (a1 + 3)) then (if (wrap64 (a1 + 3)) < (l0.length : Int) then (some ((((((((rd l0 a1) % 4294967296) + ((256 * ((rd l0 (ji5)) % 4294967296)) % 4294967296)) % 4294967296) + ((65536 * ((rd l0 (wrap64 (a1 + 2))) % 4294967296)) % 4294967296)) % 4294967296) + ((16777216 * ((rd l0 (wrap64 (a1 + 3))) % 4294967296)) % 4294967296)) % 4294967296)) else (none)) else (none)) else (none)) else (none)) else (none)) else (none)) = some r := by first | (rw [hji5] at H; exact H) | (simp only [hji5] at H ⊢; exact H)
      have hji5w : (IntKind.i64.wrap (a1 + 1)) = ji5 := (i64_w _).trans hji5
      by_cases c6 : 0 ≤ (ji5)
      · rw [if_pos c6] at H
        have c6b0 : decide (0 ≤ (ji5)) = true := decide_eq_true c6
        clear c6
        by_cases c7 : (ji5) < (l0.length : Int)
        · rw [if_pos c7] at H
          have c7b0 : decide ((ji5) < (l0.length : Int)) = true := decide_eq_true c7
          clear c7
          obtain ⟨ji8, hji8⟩ : ∃ j_ : Int, (wrap64 (a1 + 2)) = j_ := ⟨_, rfl⟩
          replace H : (if 0 ≤ (ji8) then (if (ji8) < (l0.length : Int) then (if 0 ≤ (wrap64 (a1 + 3)) then (if (wrap64 (a1 + 3)) < (l0.length : Int) then (some ((((((((rd l0 a1) % 4294967296) + ((256 * ((rd l0 (ji5)) % 4294967296)) % 4294967296)) % 4294967296) + ((65536 * ((rd l0 (ji8)) % 4294967296)) % 4294967296)) % 4294967296) + ((16777216 * ((rd l0 (wrap64 (a1 + 3))) % 4294967296)) % 4294967296)) % 4294967296)) else (none)) else (none)) else (none)) else (none)) = some r := by first | (rw [hji8] at H; exact H) | (simp only [hji8] at H ⊢; exact H)
          have hji8w : (IntKind.i64.wrap (a1 + 2)) = ji8 := (i64_w _).trans hji8
          by_cases c9 : 0 ≤ (ji8)
          · rw [if_pos c9] at H
            have c9b0 : decide (0 ≤ (ji8)) = true := decide_eq_true c9
            clear c9
            by_cases c10 : (ji8) < (l0.length : Int)
            · rw [if_pos c10] at H
              have c10b0 : decide ((ji8) < (l0.length : Int)) = true := decide_eq_true c10
              clear c10
              obtain ⟨ji11, hji11⟩ : ∃ j_ : Int, (wrap64 (a1 + 3)) = j_ := ⟨_, rfl⟩
              replace H : (if 0 ≤ (ji11) then (if (ji11) < (l0.length : Int) then (some ((((((((rd l0 a1) % 4294967296) + ((256 * ((rd l0 (ji5)) % 4294967296)) % 4294967296)) % 4294967296) + ((65536 * ((rd l0 (ji8)) % 4294967296)) % 4294967296)) % 4294967296) + ((16777216 * ((rd l0 (ji11)) % 4294967296)) % 4294967296)) % 4294967296)) else (none)) else (none)) = some r := by first | (rw [hji11] at H; exact H) | (simp only [hji11] at H ⊢; exact H)
              have hji11w : (IntKind.i64.wrap (a1 + 3)) = ji11 := (i64_w _).trans hji11
              by_cases c12 : 0 ≤ (ji11)
              · rw [if_pos c12] at H
                have c12b0 : decide (0 ≤ (ji11)) = true := decide_eq_true c12
                clear c12
                by_cases c13 : (ji11) < (l0.length : Int)
                · rw [if_pos c13] at H
                  have c13b0 : decide ((ji11) < (l0.length : Int)) = true := decide_eq_true c13
                  clear c13
                  obtain rfl := Option.some.inj H
                  have p101 : 0 ≤ (a1 : Int) := of_decide_eq_true (by first | (with_reducible assumption) | assumption)
                  have q101 : a1 < (l0.length : Int) := of_decide_eq_true (by first | (with_reducible assumption) | assumption)
                  obtain ⟨ad101, e101, hx101_0⟩ := Kd.at_int HR0.out a1 p101 q101
                  cases e101
                  replace p101 := eq_true p101
                  replace q101 := eq_true q101
                  have p102 : 0 ≤ ((ji5) : Int) := of_decide_eq_true (by first | (with_reducible assumption) | assumption)
                  have q102 : (ji5) < (l0.length : Int) := of_decide_eq_true (by first | (with_reducible assumption) | assumption)
                  obtain ⟨ad102, e102, hx102_0⟩ := Kd.at_int HR0.out (ji5) p102 q102
                  obtain rfl : ad101 = ad102 := (by injection e102)
                  replace p102 := eq_true p102
                  replace q102 := eq_true q102
                  have p103 : 0 ≤ ((ji8) : Int) := of_decide_eq_true (by first | (with_reducible assumption) | assumption)
                  have q103 : (ji8) < (l0.length : Int) := of_decide_eq_true (by first | (with_reducible assumption) | assumption)
                  obtain ⟨ad103, e103, hx103_0⟩ := Kd.at_int HR0.out (ji8) p103 q103
                  obtain rfl : ad101 = ad103 := (by injection e103)
                  replace p103 := eq_true p103
                  replace q103 := eq_true q103
                  have p104 : 0 ≤ ((ji11) : Int) := of_decide_eq_true (by first | (with_reducible assumption) | assumption)
                  have q104 : (ji11) < (l0.length : Int) := of_decide_eq_true (by first | (with_reducible assumption) | assumption)
                  obtain ⟨ad104, e104, hx104_0⟩ := Kd.at_int HR0.out (ji11) p104 q104
                  obtain rfl : ad101 = ad104 := (by injection e104)
                  replace p104 := eq_true p104
                  replace q104 := eq_true q104
                  go_enter Try.func53, Try.ntmps53
                  go_wp2
                  repeat (go_quiet (fail); try go_wp2)
                  go_ret
                  exact ⟨by first | rfl | (simp; done) | (simp only [← hji5, ← hji8, ← hji11] <;> (first | rfl | simp)) | (simp [*]; done), by repeat (first | exact Drawn0.refl _ | apply Drawn0.step)⟩
                · rw [if_neg c13] at H
                  exact absurd H (by simp)
              · rw [if_neg c12] at H
                exact absurd H (by simp)
            · rw [if_neg c10] at H
              exact absurd H (by simp)
          · rw [if_neg c9] at H
            exact absurd H (by simp)
        · rw [if_neg c7] at H
          exact absurd H (by simp)
      · rw [if_neg c6] at H
        exact absurd H (by simp)
    · rw [if_neg c4] at H
      exact absurd H (by simp)
  · rw [if_neg c3] at H
    exact absurd H (by simp)

end Go.Proofs.Ytgfadfahbhcllaa.Q
namespace Go.Proofs.Ytgfadfahbhcllaa.P
open Go.RowKit Go.Proofs.YtgfadfahbhcllaaW.PrintWords Go.Proofs.Ytgfadfahbhcllaa.Q
set_option linter.unusedVariables false
set_option linter.unusedSimpArgs false

/-- The number that bytes tell, the lowest first. -/
def le : List Int → Int
  | [] => 0
  | b :: bs => b + 256 * le bs
def U8s (l : List Int) : Prop := ∀ z ∈ l, 0 ≤ z ∧ z ≤ 255
theorem u8_of {l : List Int} (h : ∀ z ∈ l, (Lit.int .u8 z).wf = true) : U8s l := by
  intro z hz
  have := h z hz
  simp [Lit.wf, IntKind.min, IntKind.max, IntKind.signed, IntKind.bits] at this
  omega
theorem U8s.drop {l : List Int} (h : U8s l) (n : Nat) : U8s (l.drop n) := fun z hz => h z (List.mem_of_mem_drop hz)
theorem U8s.take {l : List Int} (h : U8s l) (n : Nat) : U8s (l.take n) := fun z hz => h z (List.mem_of_mem_take hz)
theorem U8s.at_ {l : List Int} (h : U8s l) {i : Nat} {b : Int} (hb : l[i]? = some b) : 0 ≤ b ∧ b ≤ 255 := h b (List.mem_of_getElem? hb)
theorem le_range : ∀ {l : List Int}, U8s l → 0 ≤ le l ∧ le l < 256 ^ l.length
  | [], _ => ⟨by decide, by decide⟩
  | b :: bs, h => by
    have h1 := le_range (l := bs) (fun z hz => h z (List.mem_cons_of_mem _ hz))
    have h2 := h b (List.mem_cons_self ..)
    have e : (256 : Int) ^ (b :: bs).length = 256 * 256 ^ bs.length := by rw [List.length_cons, Int.pow_succ, Int.mul_comm]
    rw [e]
    unfold le
    omega
theorem le_snoc : ∀ (l : List Int) (b : Int), le (l ++ [b]) = le l + 256 ^ l.length * b
  | [], b => by simp [le]
  | a :: l, b => by
    simp only [List.cons_append, le, le_snoc l b, List.length_cons, Int.pow_succ]
    rw [Int.mul_add, ← Int.add_assoc, Int.mul_comm (256 ^ l.length) 256, Int.mul_assoc]
theorem u64_wrap {n : Int} (h0 : 0 ≤ n) (h : n < 18446744073709551616) : IntKind.u64.wrap n = n := by
  simp [IntKind.wrap, IntKind.bits, IntKind.signed]
  omega
theorem or_byte (x b : Int) (hx : 0 ≤ x) (hx1 : x < 72057594037927936) (hb : 0 ≤ b ∧ b ≤ 255) : Go.bits .or .u64 (IntKind.u64.wrap (x * 256)) (IntKind.u64.wrap b) = b + 256 * x := by
  rw [u64_wrap (by omega) (by omega), u64_wrap (by omega) (by omega)]
  rw [bits_join .u64 64 (Nat.le_refl _) (fun n h h2 => u64_wrap h h2) 8 (x * 256) b (by omega) (by omega) (by omega) hb.1 (by omega) (by omega)]
  omega
/-- The program's own reading of n bytes at a. -/
theorem get_loop (l : List Int) (a : Int) (hb : U8s l) (h0 : 0 ≤ a) (hl : l.length ≤ 4611686018427387904) : ∀ (i : Nat) (m : List Int), i + m.length ≤ 8 → a.toNat + i + m.length ≤ l.length → (l.drop (a.toNat + i)).take m.length = m →
    Ev (fun k => impl_get.l0 k l a (le m) ((i : Int) - 1)) (le ((l.drop a.toNat).take (i + m.length)))
  | 0, m, h8, hal, hm => by
    refine Ev.last ⟨0, fun k _ => ?_⟩
    simp only [impl_get.l0]
    rw [if_neg (by omega)]
    rw [Nat.zero_add]
    rw [Nat.add_zero] at hm
    rw [hm]
  | i + 1, m, h8, hal, hm => by
    obtain ⟨b, hbt⟩ := some_at (show a.toNat + i < l.length by omega)
    have hmb : U8s m := hm ▸ (hb.drop _).take _
    have hr := le_range hmb
    have hp : (256 : Int) ^ m.length ≤ 256 ^ 7 := by
      have : (256 : Nat) ^ m.length ≤ 256 ^ 7 := Nat.pow_le_pow_right (by decide) (by omega)
      have h := Int.ofNat_le.mpr this
      rw [Int.natCast_pow, Int.natCast_pow] at h
      exact h
    have hlt : le m < 72057594037927936 := by
      have : (256 : Int) ^ 7 = 72057594037927936 := by rfl
      omega
    have hc : (l.drop (a.toNat + i)).take (b :: m).length = b :: m := by
      rw [List.length_cons, List.drop_eq_getElem_cons (by omega), List.take_succ_cons]
      congr 1
      exact (List.getElem?_eq_some_iff.1 hbt).2
    have h1 := get_loop l a hb h0 hl i (b :: m) (by rw [List.length_cons]; omega) (by rw [List.length_cons]; omega) hc
    rw [List.length_cons, show i + (m.length + 1) = i + 1 + m.length from by omega] at h1
    refine Ev.step ⟨0, fun k _ => ?_⟩ h1
    have e1 : wrap64 (a + (((i + 1 : Nat) : Int) - 1)) = ((a.toNat + i : Nat) : Int) := by rw [w64 (by omega) (by omega)]; omega
    have e2 : wrap64 (((i + 1 : Nat) : Int) - 1 - 1) = (i : Int) - 1 := by rw [w64 (by omega) (by omega)]; omega
    simp only [impl_get.l0]
    rw [e1, e2, rd_at hbt, or_byte (le m) b hr.1 hlt (hb.at_ hbt), if_pos (by clear e1 e2; omega), if_pos (by clear e1 e2; omega), if_pos (by clear e1 e2; omega)]
    rfl
theorem impl_get_ev (l : List Int) (a n : Int) (hb : U8s l) (h0 : 0 ≤ a) (hn : 0 ≤ n) (h8 : n ≤ 8) (h : a + n ≤ l.length) (hl : l.length ≤ 4611686018427387904) : Ev (fun k => impl_get.f k l a n) (le ((l.drop a.toNat).take n.toNat)) := by
  have h1 := get_loop l a hb h0 hl n.toNat [] (by simp; omega) (by simp; omega) rfl
  rw [List.length_nil, Nat.add_zero, show ((n.toNat : Nat) : Int) = n from by omega] at h1
  simp only [impl_get.f]
  rw [w64 (by omega) (by omega)]
  exact h1
theorem take4 {l : List Int} {i : Nat} {b0 b1 b2 b3 : Int} (h0 : l[i]? = some b0) (h1 : l[i + 1]? = some b1) (h2 : l[i + 2]? = some b2) (h3 : l[i + 3]? = some b3) : (l.drop i).take 4 = [b0, b1, b2, b3] := by
  apply List.ext_getElem?
  intro j
  match j with
  | 0 => simpa using h0
  | 1 => simpa using h1
  | 2 => simpa using h2
  | 3 => simpa using h3
  | j + 4 =>
    simp
    omega
theorem spec_get (l : List Int) (a : Int) (hb : U8s l) (h0 : 0 ≤ a) (h : a + 4 ≤ l.length) (hl : l.length ≤ 4611686018427387904) : spec_l2Get.f l a = some (le ((l.drop a.toNat).take 4)) := by
  obtain ⟨b0, e0⟩ := some_at (show a.toNat < l.length by omega)
  obtain ⟨b1, e1⟩ := some_at (show a.toNat + 1 < l.length by omega)
  obtain ⟨b2, e2⟩ := some_at (show a.toNat + 2 < l.length by omega)
  obtain ⟨b3, e3⟩ := some_at (show a.toNat + 3 < l.length by omega)
  rw [take4 e0 e1 e2 e3]
  have r0 := hb.at_ e0
  have r1 := hb.at_ e1
  have r2 := hb.at_ e2
  have r3 := hb.at_ e3
  have f0 : rd l a = b0 := by have := rd_at e0; rwa [show ((a.toNat : Nat) : Int) = a from by omega] at this
  have f1 : rd l (a + 1) = b1 := by have := rd_at e1; rwa [show ((a.toNat + 1 : Nat) : Int) = a + 1 from by omega] at this
  have f2 : rd l (a + 2) = b2 := by have := rd_at e2; rwa [show ((a.toNat + 2 : Nat) : Int) = a + 2 from by omega] at this
  have f3 : rd l (a + 3) = b3 := by have := rd_at e3; rwa [show ((a.toNat + 3 : Nat) : Int) = a + 3 from by omega] at this
  simp only [spec_l2Get.f]
  rw [w64 (n := a + 1) (by omega) (by omega), w64 (n := a + 2) (by omega) (by omega), w64 (n := a + 3) (by omega) (by omega), f0, f1, f2, f3]
  rw [if_pos (by omega), if_pos (by omega), if_pos (by omega), if_pos (by omega), if_pos (by omega), if_pos (by omega), if_pos (by omega), if_pos (by omega)]
  congr 1
  simp only [le]
  omega
end Go.Proofs.Ytgfadfahbhcllaa.P
namespace Go.Proofs.Ytgfadfahbhcllaa.Q
open Go.RowKit Go.Proofs.YtgfadfahbhcllaaW.PrintWords Go.Proofs.YtgfadfahbhcllaaW.PrintLast Go.Proofs.YtgfadfahbhcllaaW.PrintMore Go.Proofs.Ytgfadfahbhcllaa.LK
set_option linter.unusedVariables false
set_option linter.unusedSimpArgs false
def impl_sectorOf.f (l : List Int) : Option (List Int) := if l.length = 64 then some l else none
set_option maxHeartbeats 8000000 in
set_option maxRecDepth 100000 in
theorem impl_sectorOf.calls {A : Option Addr} {c : Nat} {l r : List Int} {w : World} (hr : Kd.C (Kd.int .u8) w A l.length l) (h : impl_sectorOf.f l = some r) :
    Calls Try.prog 54 #[.slice A l.length c] w fun e w' => e = .returned (.agg (bytesV r).toArray) ∧ Below w.heap.size w w' := by
  have hl : l.length = 64 := by
    unfold impl_sectorOf.f at h
    by_cases h1 : l.length = 64
    · exact h1
    · rw [if_neg h1] at h; cases h
  unfold impl_sectorOf.f at h
  rw [if_pos hl] at h
  cases h
  have HL := Aside0.mk hl
  have HR := Aside0.mk hr
  clear hl hr
  go_enter Try.func54, Try.ntmps54
  go_wp2_with (first | ((with_reducible refine gate_dst (N := 2) rfl ?_); refine Aside0.out ?_))
  refine Aside0.mk ?_
  refine mk ?hw (N := 2) ?hd (cs := (List.replicate 64 (Value.int .u8 0)).toArray) (t := 79) ?hr ?_
  case hd => rfl
  case hw => rfl
  case hr => first | (go_simp; done) | (go_simp; rfl)
  intro g2 hg2 w1 hb2 hB2
  have H1 := Aside0.mk hB2
  have B2 := Aside0.mk hb2
  have G2 := Aside0.mk hg2
  clear hg2 hb2 hB2
  go_wp2_with (first | ((with_reducible refine gate_dst (N := 3) rfl ?_); refine Aside0.out ?_))
  refine Aside0.mk ?_
  refine mk ?hw3 (N := 3) ?hd3 (cs := (List.replicate 64 (Value.int .u8 0)).toArray) (t := 79) ?hr3 ?_
  case hd3 => rfl
  case hw3 => rfl
  case hr3 => first | (go_simp; done) | (go_simp; rfl)
  intro g3 hg3 w2 hb3 hB3
  have H2 := Aside0.mk (below_step H1.out hB3)
  have B2' := Aside0.mk ((hB3.block g2 (blk_lt B2.out)).trans B2.out)
  have B3 := Aside0.mk hb3
  have G3 := Aside0.mk (show g2 < g3 from hg3 ▸ blk_lt B2.out)
  clear hg3 hb3 hB3 B2 H1
  go_wp2_with (first | ((with_reducible refine gate_builtin (b := .copy) (xs := #[.tmp 4, .tmp 5]) rfl ?_); refine Aside0.out ?_))
  refine Aside0.mk ?_
  refine wpList_copy_splice rfl (.tmp 4) (.tmp 5) 25 25 rfl 5 Try.underlying25 (by kernel_rfl) _ _ 64 64 l.length c rfl rfl g3 0 (List.replicate 64 (Value.int .u8 0)) 79 B3.out (bytesV l) ?hn ?hpos ?hfit (bytesV_one l) g3 w2 (Below.refl _ _) (Nat.le_refl _) ?_
  case hn => rw [bytesV_length]; show _ = min _ _; rw [HL.out]; rfl
  case hpos =>
    intro hp
    rw [bytesV_length] at hp
    obtain ⟨ad, e, hc⟩ := bytes_at HR.out hp
    exact ⟨rfl, ad, e, fun j v hv => pw_cell_below H2.out (hc j v hv)⟩
  case hfit => rw [bytesV_length, HL.out]; simp
  intro w3 hb3 hB3
  have e : splice (List.replicate 64 (Value.int .u8 0)) 0 (bytesV l) = bytesV l := by
    unfold splice
    rw [List.drop_of_length_le (by rw [bytesV_length, HL.out]; simp)]
    simp
  have HB3 := Aside0.mk (show w3.heap[g3]? = some (.cells (bytesV l).toArray 79 (0, 0)) from e ▸ hb3)
  have H3 := Aside0.mk (show Below w.heap.size w w3 from ⟨hB3.os.trans H2.out.os, hB3.tape.trans H2.out.tape, hB3.output.trans H2.out.output, Nat.le_trans H2.out.size hB3.size, fun i hi => (hB3.block i (by have := G2.out; have := G3.out; omega)).trans (H2.out.block i hi)⟩)
  have B4 := Aside0.mk ((hB3.block g2 G3.out).trans B2'.out)
  clear hb3 hB3 e
  go_wp2_with (first | ((with_reducible refine gate_dst (N := 7) rfl ?_); refine Aside0.out ?_))
  refine Aside0.mk ?_
  refine ld ?hw7 rfl ?hx7 HB3.out Try.underlying79 rfl ?hi7 ?_
  case hi7 => rw [List.size_toArray, bytesV_length, HL.out]; kernel_rfl
  case hw7 => rfl
  case hx7 => rfl
  go_wp2_with (first | ((with_reducible refine gate_store (t := 79) (p := 2) rfl ?_); refine Aside0.out ?_))
  refine Aside0.mk ?_
  refine st_all ?hw8 ?hN8 rfl ?hp8 (cs := (bytesV l).toArray) ?hx8 B4.out ?ht8 ?hs8 ?h18 ?_
  case hw8 => rfl
  case hN8 => rfl
  case hp8 => rfl
  case hx8 => rfl
  case ht8 => rw [List.size_toArray, bytesV_length, HL.out]; kernel_rfl
  case hs8 => rw [List.size_toArray, bytesV_length, HL.out]; rfl
  case h18 => exact bytesV_one l
  intro w4 hb4 hS4
  have B5 := Aside0.mk hb4
  have H5 := Aside0.mk (show Below w.heap.size w w4 from ⟨hS4.os.trans H3.out.os, hS4.tape.trans H3.out.tape, hS4.output.trans H3.out.output, Nat.le_trans H3.out.size hS4.size, fun i hi => (hS4.block i (Nat.lt_of_lt_of_le hi H3.out.size) (by have := G2.out; omega)).trans (H3.out.block i hi)⟩)
  clear hb4 hS4
  go_wp2
  refine bodyPost_ret (results_cell_row rfl _ _ g2 79 (bytesV l).toArray (0, 0) _ rfl B5.out Try.underlying79 rfl ?hi9) rfl ?_
  case hi9 => rw [List.size_toArray, bytesV_length, HL.out]; kernel_rfl
  exact ⟨rfl, H5.out⟩
/-- The numbers of a sector. -/
def fSeq (l : List Int) : Int := P.le ((l.drop 0).take 4)
def fA (l : List Int) : Int := P.le ((l.drop 8).take 4)
def fB (l : List Int) : Int := P.le ((l.drop 12).take 4)
def fKind (l : List Int) : Int := l.getD 6 0
/-- Whether a sector holds a frame. -/
def isFrame (l : List Int) : Prop := (1 ≤ fKind l ∧ fKind l ≤ 3) ∧ frameCode (fSeq l) (fKind l) (fA l) (fB l) = l
instance (l : List Int) : Decidable (isFrame l) := by unfold isFrame; infer_instance
theorem num4 {l : List Int} (h : P.U8s l) (i : Nat) (hi : i + 4 ≤ l.length) : 0 ≤ P.le ((l.drop i).take 4) ∧ P.le ((l.drop i).take 4) ≤ 4294967295 := by
  have h1 := P.le_range ((h.drop i).take 4)
  rw [show ((l.drop i).take 4).length = 4 from by rw [List.length_take, List.length_drop]; omega] at h1
  omega
def frameOut (c : Bool) (q kd a b : Int) : Value := .tuple #[(if c then .agg #[.int .u32 q, .int .i64 kd, .int .u32 a, .int .u32 b] else .agg #[.int .u32 0, .int .i64 0, .int .u32 0, .int .u32 0]), .bool c]
set_option maxHeartbeats 8000000 in
set_option maxRecDepth 100000 in
theorem frame_raw {l : List Int} {q kd a b : Int} {r : Bool} {kq ka kb : Nat} {w : World} (hr : r = decide ((1 ≤ kd ∧ kd ≤ 3) ∧ frameCode q kd a b = l)) (hl : l.length = 64) (h6 : l[6]? = some kd) (hq : impl_get.f kq l 0 4 = some q) (ha : impl_get.f ka l 8 4 = some a) (hb : impl_get.f kb l 12 4 = some b)
    (rq : 0 ≤ q ∧ q ≤ 4294967295) (ra : 0 ≤ a ∧ a ≤ 4294967295) (rb : 0 ≤ b ∧ b ≤ 4294967295) (rk : 0 ≤ kd ∧ kd ≤ 255) :
    Calls Try.prog 55 #[.agg (bytesV l).toArray] w fun e w' => e = .returned (frameOut r q kd a b) ∧ Below w.heap.size w w' := by
  have jq : IntKind.u32.wrap q = q := by rw [IntKind.wrap_u32]; omega
  have ja : IntKind.u32.wrap a = a := by rw [IntKind.wrap_u32]; omega
  have jb : IntKind.u32.wrap b = b := by rw [IntKind.wrap_u32]; omega
  have jk : IntKind.i64.wrap kd = kd := by rw [IntKind.wrap_i64]; omega
  have hgd : impl_Frame_good.f q kd a b = some (decide (1 ≤ kd ∧ kd ≤ 3)) := by
    unfold impl_Frame_good.f
    by_cases c1 : kd ≥ 1
    · rw [if_pos c1]; congr 1; apply decide_eq_decide.2; omega
    · rw [if_neg c1, decide_eq_false (by omega)]
  have HGd := Aside0.mk hgd
  have HR := Aside0.mk hr
  have HL := Aside0.mk hl
  have H6 := Aside0.mk h6
  have HQ := Aside0.mk hq
  have HA := Aside0.mk ha
  have HBb := Aside0.mk hb
  have RQ := Aside0.mk rq
  have RA := Aside0.mk ra
  have RB := Aside0.mk rb
  have H0 := Aside0.mk (Bx.refl w)
  clear hr hgd hl h6 hq ha hb rq ra rb rk
  go_enter Try.func55, Try.ntmps55
  go_wp2_with (first | ((with_reducible refine gate_dst (N := 1) rfl ?_); refine Aside0.out ?_))
  refine Aside0.mk ?_
  refine mk ?hw1 (N := 1) ?hd1 (cs := (bytesV l).toArray) (t := 79) ?hr1 ?_
  case hd1 => rfl
  case hw1 => rfl
  case hr1 => first | (go_simp; done) | (go_simp; rfl)
  intro g1 hg1_ w101 hb1 hB1
  have H102 := Aside0.mk (H0.out.new hg1_ hb1 hB1)
  clear hg1_ hb1 hB1 H0
  go_wp2_with (first | ((with_reducible refine gate_dst (N := 2) rfl ?_); refine Aside0.out ?_))
  refine Aside0.mk ?_
  refine mk ?hw3 (N := 2) ?hd3 (cs := #[.int .u32 0, .int .i64 0, .int .u32 0, .int .u32 0]) (t := 27) ?hr3 ?_
  case hd3 => rfl
  case hw3 => rfl
  case hr3 => first | (go_simp; done) | (go_simp; rfl)
  intro g2 hg2_ w103 hb3 hB3
  have H104 := Aside0.mk (H102.out.new hg2_ hb3 hB3)
  clear hg2_ hb3 hB3 H102
  try go_wp2
  have H106 := Aside0.mk H104.out.drew
  refine start_ (n := 15) (S := fun w' => w'.cell? ⟨g1, 6, none⟩ = some (.int .u8 kd)) (ds := [14]) #[false, false, false, false, false, false, false, false, false, false, false, false, false, false, false] (by kernel_rfl) rfl rfl ((blk_cell (by first | exact H106.out.gt0 | exact H106.out.gt1 | exact H106.out.gt2) 6).trans (by unfold bytesV; rw [List.getElem?_toArray, List.getElem?_map, H6.out]; rfl)) (fun hHeld => ?_)
  clear H104
  generalize w103.drew = w105 at H106 hHeld ⊢
  refine pure_ (i := 0) (N := some 5) (v := ?_) (a' := ?_) #[true, false, false, false, false, false, false, false, false, false, false, false, false, false, false] rfl rfl (by kernel_rfl) (fun _ _ _ h => h) (Or.inl ⟨by rfl, ?_⟩) ?_ ?_
  rotate_left
  · intro w'
    go_simp
    with_reducible rfl
  rotate_left
  · simp only [Act.put, List.setIfInBounds_toArray, List.set_cons_zero, List.set_cons_succ, i64_w, i32_w]
    rfl
  refine pure_ (i := 3) (N := some 8) (v := ?_) (a' := ?_) #[true, false, false, true, false, false, false, false, false, false, false, false, false, false, false] rfl rfl (by kernel_rfl) (fun _ _ _ h => h) (Or.inl ⟨by rfl, ?_⟩) ?_ ?_
  rotate_left
  · intro w'
    go_simp
    with_reducible rfl
  rotate_left
  · simp only [Act.put, List.setIfInBounds_toArray, List.set_cons_zero, List.set_cons_succ, i64_w, i32_w]
    rfl
  refine pure_ (i := 6) (N := some 11) (v := ?_) (a' := ?_) #[true, false, false, true, false, false, true, false, false, false, false, false, false, false, false] rfl rfl (by kernel_rfl) (fun _ _ _ h => h) (Or.inl ⟨by rfl, ?_⟩) ?_ ?_
  rotate_left
  · intro w'
    go_simp
    with_reducible rfl
  rotate_left
  · simp only [Act.put, List.setIfInBounds_toArray, List.set_cons_zero, List.set_cons_succ, i64_w, i32_w]
    rfl
  refine pure_ (i := 9) (N := some 14) (v := ?_) (a' := ?_) #[true, false, false, true, false, false, true, false, false, true, false, false, false, false, false] rfl rfl (by kernel_rfl) (fun _ _ _ h => h) (Or.inl ⟨by rfl, ?_⟩) ?_ ?_
  rotate_left
  · intro w'
    go_simp
    with_reducible rfl
  rotate_left
  · simp only [Act.put, List.setIfInBounds_toArray, List.set_cons_zero, List.set_cons_succ, i64_w, i32_w]
    rfl
  refine take_ (i := 4) (N := some 9) (v := ?_) (a' := ?_) #[true, false, false, true, true, false, true, false, false, true, false, false, false, false, false] rfl rfl (by kernel_rfl) (fun _ _ _ h => h) (Or.inl ⟨by rfl, ?_⟩) hHeld ?_ ?_
  rotate_left
  · rintro w' s0
    go_simp
    with_reducible rfl
  rotate_left
  · simp only [Act.put, List.setIfInBounds_toArray, List.set_cons_zero, List.set_cons_succ, i64_w, i32_w]
    rfl
  refine pure_ (i := 5) (N := some 10) (v := ?_) (a' := ?_) #[true, false, false, true, true, true, true, false, false, true, false, false, false, false, false] rfl rfl (by kernel_rfl) (fun _ _ _ h => h) (Or.inl ⟨by rfl, ?_⟩) ?_ ?_
  rotate_left
  · intro w'
    go_simp
    with_reducible rfl
  rotate_left
  · simp only [Act.put, List.setIfInBounds_toArray, List.set_cons_zero, List.set_cons_succ, i64_w, i32_w]
    rfl
  refine join_ (σ := Nat) 1 #[true, true, true, true, true, true, true, true, true, true, true, true, true, true, false] (fun s_ => [(6, .int .u64 q), (7, .int .u32 q), (12, .int .u64 a), (13, .int .u32 a), (15, .int .u64 b), (16, .int .u32 b), (17, .agg #[.int .u32 q, .int .i64 kd, .int .u32 a, .int .u32 b]), (4, .pointer (some ⟨s_, 0, none⟩))]) (fun s_ w' => (w'.cell? ⟨g1, 6, none⟩ = some (.int .u8 kd)) ∧ Bx w [(s_, #[.int .u32 0, .int .i64 0, .int .u32 0, .int .u32 0], 27), (g2, #[.int .u32 0, .int .i64 0, .int .u32 0, .int .u32 0], 27), (g1, (bytesV l).toArray, 79)] w') ?_ ?_
  rotate_left
  · intro hCont
    refine two_ (i := 1) (j := 13) (Ni := some 6) (Nj := some 4) #[true, true, false, true, true, true, true, false, false, true, false, false, false, false, false] #[true, false, false, true, true, true, true, false, false, true, false, false, false, true, false] rfl rfl rfl rfl (by kernel_rfl) (by decide) (by decide) (fun K hK => ?_) (fun K hK => ?_)
    · skip
      refine goes_ Try.func90 (by kernel_rfl) rfl #[.slice (some ⟨g1, 0, none⟩) 64 64, .int .i64 0, .int .i64 4] (by rfl) rfl rfl (by (try simp only [List.map_toArray, List.map_cons, List.map_nil]); first | done | rfl) ?_
      have hC7 : Kd.C (Kd.int .u8) w105 (some ⟨g1, 0, none⟩) l.length l := (Kd.R_reads' (R_arr (base := 0) (l := l) H106.out.gt1 (Nat.zero_le _) (by rw [HL.out]; decide))).2.2
      have hc7 := impl_get.calls kq _ 64 l 0 4 q _ hC7 (by rw [HL.out]; decide) HQ.out
      rw [HL.out] at hc7
      refine hc7.mono ?_
      rintro e w107 ⟨rfl, hd_⟩
      refine ⟨_, rfl, ?_⟩
      have hb_ := hd_.below
      clear hd_ hC7 hc7
      have H108 := Aside0.mk (H106.out.step hb_)
      clear hb_ H106
      refine hK.out _ _ ((blk_cell (by first | exact H108.out.gt0 | exact H108.out.gt1 | exact H108.out.gt2) 6).trans (by unfold bytesV; rw [List.getElem?_toArray, List.getElem?_map, H6.out]; rfl)) (fun hHeld => ?_)
      clear hK K
      refine norm_ (a' := ?_) ?_ ?_
      rotate_left
      · show Act.put _ (some 6) _ = _
        simp only [Act.put, List.setIfInBounds_toArray, List.set_cons_zero, List.set_cons_succ, i64_w, i32_w]
        rfl
      refine pure_ (i := 2) (N := some 7) (v := ?_) (a' := ?_) #[true, true, true, true, true, true, true, false, false, true, false, false, false, false, false] rfl rfl (by kernel_rfl) (fun _ _ _ h => h) (Or.inl ⟨by rfl, ?_⟩) ?_ ?_
      rotate_left
      · intro w'
        go_simp
        with_reducible rfl
      rotate_left
      · simp only [Act.put, List.setIfInBounds_toArray, List.set_cons_zero, List.set_cons_succ, i64_w, i32_w]
        rfl
      refine two_ (i := 7) (j := 13) (Ni := some 12) (Nj := some 4) #[true, true, true, true, true, true, true, true, false, true, false, false, false, false, false] #[true, true, true, true, true, true, true, false, false, true, false, false, false, true, false] rfl rfl rfl rfl (by kernel_rfl) (by decide) (by decide) (fun K hK => ?_) (fun K hK => ?_)
      · skip
        refine goes_ Try.func90 (by kernel_rfl) rfl #[.slice (some ⟨g1, 0, none⟩) 64 64, .int .i64 8, .int .i64 4] (by rfl) rfl rfl (by (try simp only [List.map_toArray, List.map_cons, List.map_nil]); first | done | rfl) ?_
        have hC9 : Kd.C (Kd.int .u8) w107 (some ⟨g1, 0, none⟩) l.length l := (Kd.R_reads' (R_arr (base := 0) (l := l) H108.out.gt1 (Nat.zero_le _) (by rw [HL.out]; decide))).2.2
        have hc9 := impl_get.calls ka _ 64 l 8 4 a _ hC9 (by rw [HL.out]; decide) HA.out
        rw [HL.out] at hc9
        refine hc9.mono ?_
        rintro e w109 ⟨rfl, hd_⟩
        refine ⟨_, rfl, ?_⟩
        have hb_ := hd_.below
        clear hd_ hC9 hc9
        have H110 := Aside0.mk (H108.out.step hb_)
        clear hb_ H108
        refine hK.out _ _ ((blk_cell (by first | exact H110.out.gt0 | exact H110.out.gt1 | exact H110.out.gt2) 6).trans (by unfold bytesV; rw [List.getElem?_toArray, List.getElem?_map, H6.out]; rfl)) (fun hHeld => ?_)
        clear hK K
        refine norm_ (a' := ?_) ?_ ?_
        rotate_left
        · show Act.put _ (some 12) _ = _
          simp only [Act.put, List.setIfInBounds_toArray, List.set_cons_zero, List.set_cons_succ, i64_w, i32_w]
          rfl
        refine pure_ (i := 8) (N := some 13) (v := ?_) (a' := ?_) #[true, true, true, true, true, true, true, true, true, true, false, false, false, false, false] rfl rfl (by kernel_rfl) (fun _ _ _ h => h) (Or.inl ⟨by rfl, ?_⟩) ?_ ?_
        rotate_left
        · intro w'
          go_simp
          with_reducible rfl
        rotate_left
        · simp only [Act.put, List.setIfInBounds_toArray, List.set_cons_zero, List.set_cons_succ, i64_w, i32_w]
          rfl
        refine two_ (i := 10) (j := 13) (Ni := some 15) (Nj := some 4) #[true, true, true, true, true, true, true, true, true, true, true, false, false, false, false] #[true, true, true, true, true, true, true, true, true, true, false, false, false, true, false] rfl rfl rfl rfl (by kernel_rfl) (by decide) (by decide) (fun K hK => ?_) (fun K hK => ?_)
        · skip
          refine goes_ Try.func90 (by kernel_rfl) rfl #[.slice (some ⟨g1, 0, none⟩) 64 64, .int .i64 12, .int .i64 4] (by rfl) rfl rfl (by (try simp only [List.map_toArray, List.map_cons, List.map_nil]); first | done | rfl) ?_
          have hC11 : Kd.C (Kd.int .u8) w109 (some ⟨g1, 0, none⟩) l.length l := (Kd.R_reads' (R_arr (base := 0) (l := l) H110.out.gt1 (Nat.zero_le _) (by rw [HL.out]; decide))).2.2
          have hc11 := impl_get.calls kb _ 64 l 12 4 b _ hC11 (by rw [HL.out]; decide) HBb.out
          rw [HL.out] at hc11
          refine hc11.mono ?_
          rintro e w111 ⟨rfl, hd_⟩
          refine ⟨_, rfl, ?_⟩
          have hb_ := hd_.below
          clear hd_ hC11 hc11
          have H112 := Aside0.mk (H110.out.step hb_)
          clear hb_ H110
          refine hK.out _ _ ((blk_cell (by first | exact H112.out.gt0 | exact H112.out.gt1 | exact H112.out.gt2) 6).trans (by unfold bytesV; rw [List.getElem?_toArray, List.getElem?_map, H6.out]; rfl)) (fun hHeld => ?_)
          clear hK K
          refine norm_ (a' := ?_) ?_ ?_
          rotate_left
          · show Act.put _ (some 15) _ = _
            simp only [Act.put, List.setIfInBounds_toArray, List.set_cons_zero, List.set_cons_succ, i64_w, i32_w]
            rfl
          refine pure_ (i := 11) (N := some 16) (v := ?_) (a' := ?_) #[true, true, true, true, true, true, true, true, true, true, true, true, false, false, false] rfl rfl (by kernel_rfl) (fun _ _ _ h => h) (Or.inl ⟨by rfl, ?_⟩) ?_ ?_
          rotate_left
          · intro w'
            go_simp
            with_reducible rfl
          rotate_left
          · simp only [Act.put, List.setIfInBounds_toArray, List.set_cons_zero, List.set_cons_succ, i64_w, i32_w]
            rfl
          refine pure_ (i := 12) (N := some 17) (v := ?_) (a' := ?_) #[true, true, true, true, true, true, true, true, true, true, true, true, true, false, false] rfl rfl (by kernel_rfl) (fun _ _ _ h => h) (Or.inl ⟨by rfl, ?_⟩) ?_ ?_
          rotate_left
          · intro w'
            go_simp
            with_reducible rfl
          rotate_left
          · simp only [Act.put, List.setIfInBounds_toArray, List.set_cons_zero, List.set_cons_succ, i64_w, i32_w]
            rfl
          refine one_ (i := 13) (N := some 4) #[true, true, true, true, true, true, true, true, true, true, true, true, true, true, false] rfl rfl (by kernel_rfl) (by decide) (fun K hK => ?_)
          refine box_step ?hg13 (N := 4) ?hd13 (cs := #[.int .u32 0, .int .i64 0, .int .u32 0, .int .u32 0]) (t := 27) ?hr13 ?_
          case hd13 => rfl
          case hg13 => rfl
          case hr13 => first | (go_simp; done) | (go_simp; rfl)
          intro g4 hg4_ w113 hb13 hB13
          have H114 := Aside0.mk (H112.out.new hg4_ hb13 hB13)
          clear hg4_ hb13 hB13 H112
          refine hK.out _ _ ((blk_cell (by first | exact H114.out.gt0 | exact H114.out.gt1 | exact H114.out.gt2) 6).trans (by unfold bytesV; rw [List.getElem?_toArray, List.getElem?_map, H6.out]; rfl)) (fun hHeld => ?_)
          clear hK K
          refine norm_ (a' := ?_) ?_ ?_
          rotate_left
          · show Act.put _ (some 4) _ = _
            simp only [Act.put, List.setIfInBounds_toArray, List.set_cons_zero, List.set_cons_succ, i64_w, i32_w]
            rfl
          exact norm_ (by simp only [putAll, Act.put, List.setIfInBounds_toArray, List.set_cons_zero, List.set_cons_succ]) (hCont g4 _ ⟨hHeld, H114.out⟩)
        · skip
          refine box_step ?hg15 (N := 4) ?hd15 (cs := #[.int .u32 0, .int .i64 0, .int .u32 0, .int .u32 0]) (t := 27) ?hr15 ?_
          case hd15 => rfl
          case hg15 => rfl
          case hr15 => first | (go_simp; done) | (go_simp; rfl)
          intro g4 hg4_ w115 hb15 hB15
          have H116 := Aside0.mk (H110.out.new hg4_ hb15 hB15)
          clear hg4_ hb15 hB15 H110
          refine hK.out _ _ ((blk_cell (by first | exact H116.out.gt0 | exact H116.out.gt1 | exact H116.out.gt2) 6).trans (by unfold bytesV; rw [List.getElem?_toArray, List.getElem?_map, H6.out]; rfl)) (fun hHeld => ?_)
          clear hK K
          refine norm_ (a' := ?_) ?_ ?_
          rotate_left
          · show Act.put _ (some 4) _ = _
            simp only [Act.put, List.setIfInBounds_toArray, List.set_cons_zero, List.set_cons_succ, i64_w, i32_w]
            rfl
          refine one_ (i := 10) (N := some 15) #[true, true, true, true, true, true, true, true, true, true, true, false, false, true, false] rfl rfl (by kernel_rfl) (by decide) (fun K hK => ?_)
          refine goes_ Try.func90 (by kernel_rfl) rfl #[.slice (some ⟨g1, 0, none⟩) 64 64, .int .i64 12, .int .i64 4] (by rfl) rfl rfl (by (try simp only [List.map_toArray, List.map_cons, List.map_nil]); first | done | rfl) ?_
          have hC17 : Kd.C (Kd.int .u8) w115 (some ⟨g1, 0, none⟩) l.length l := (Kd.R_reads' (R_arr (base := 0) (l := l) H116.out.gt2 (Nat.zero_le _) (by rw [HL.out]; decide))).2.2
          have hc17 := impl_get.calls kb _ 64 l 12 4 b _ hC17 (by rw [HL.out]; decide) HBb.out
          rw [HL.out] at hc17
          refine hc17.mono ?_
          rintro e w117 ⟨rfl, hd_⟩
          refine ⟨_, rfl, ?_⟩
          have hb_ := hd_.below
          clear hd_ hC17 hc17
          have H118 := Aside0.mk (H116.out.step hb_)
          clear hb_ H116
          refine hK.out _ _ ((blk_cell (by first | exact H118.out.gt0 | exact H118.out.gt1 | exact H118.out.gt2) 6).trans (by unfold bytesV; rw [List.getElem?_toArray, List.getElem?_map, H6.out]; rfl)) (fun hHeld => ?_)
          clear hK K
          refine norm_ (a' := ?_) ?_ ?_
          rotate_left
          · show Act.put _ (some 15) _ = _
            simp only [Act.put, List.setIfInBounds_toArray, List.set_cons_zero, List.set_cons_succ, i64_w, i32_w]
            rfl
          refine pure_ (i := 11) (N := some 16) (v := ?_) (a' := ?_) #[true, true, true, true, true, true, true, true, true, true, true, true, false, true, false] rfl rfl (by kernel_rfl) (fun _ _ _ h => h) (Or.inl ⟨by rfl, ?_⟩) ?_ ?_
          rotate_left
          · intro w'
            go_simp
            with_reducible rfl
          rotate_left
          · simp only [Act.put, List.setIfInBounds_toArray, List.set_cons_zero, List.set_cons_succ, i64_w, i32_w]
            rfl
          refine pure_ (i := 12) (N := some 17) (v := ?_) (a' := ?_) #[true, true, true, true, true, true, true, true, true, true, true, true, true, true, false] rfl rfl (by kernel_rfl) (fun _ _ _ h => h) (Or.inl ⟨by rfl, ?_⟩) ?_ ?_
          rotate_left
          · intro w'
            go_simp
            with_reducible rfl
          rotate_left
          · simp only [Act.put, List.setIfInBounds_toArray, List.set_cons_zero, List.set_cons_succ, i64_w, i32_w]
            rfl
          exact norm_ (by simp only [putAll, Act.put, List.setIfInBounds_toArray, List.set_cons_zero, List.set_cons_succ]) (hCont g4 _ ⟨hHeld, H118.out⟩)
      · skip
        refine box_step ?hg19 (N := 4) ?hd19 (cs := #[.int .u32 0, .int .i64 0, .int .u32 0, .int .u32 0]) (t := 27) ?hr19 ?_
        case hd19 => rfl
        case hg19 => rfl
        case hr19 => first | (go_simp; done) | (go_simp; rfl)
        intro g4 hg4_ w119 hb19 hB19
        have H120 := Aside0.mk (H108.out.new hg4_ hb19 hB19)
        clear hg4_ hb19 hB19 H108
        refine hK.out _ _ ((blk_cell (by first | exact H120.out.gt0 | exact H120.out.gt1 | exact H120.out.gt2) 6).trans (by unfold bytesV; rw [List.getElem?_toArray, List.getElem?_map, H6.out]; rfl)) (fun hHeld => ?_)
        clear hK K
        refine norm_ (a' := ?_) ?_ ?_
        rotate_left
        · show Act.put _ (some 4) _ = _
          simp only [Act.put, List.setIfInBounds_toArray, List.set_cons_zero, List.set_cons_succ, i64_w, i32_w]
          rfl
        refine one_ (i := 7) (N := some 12) #[true, true, true, true, true, true, true, true, false, true, false, false, false, true, false] rfl rfl (by kernel_rfl) (by decide) (fun K hK => ?_)
        refine goes_ Try.func90 (by kernel_rfl) rfl #[.slice (some ⟨g1, 0, none⟩) 64 64, .int .i64 8, .int .i64 4] (by rfl) rfl rfl (by (try simp only [List.map_toArray, List.map_cons, List.map_nil]); first | done | rfl) ?_
        have hC21 : Kd.C (Kd.int .u8) w119 (some ⟨g1, 0, none⟩) l.length l := (Kd.R_reads' (R_arr (base := 0) (l := l) H120.out.gt2 (Nat.zero_le _) (by rw [HL.out]; decide))).2.2
        have hc21 := impl_get.calls ka _ 64 l 8 4 a _ hC21 (by rw [HL.out]; decide) HA.out
        rw [HL.out] at hc21
        refine hc21.mono ?_
        rintro e w121 ⟨rfl, hd_⟩
        refine ⟨_, rfl, ?_⟩
        have hb_ := hd_.below
        clear hd_ hC21 hc21
        have H122 := Aside0.mk (H120.out.step hb_)
        clear hb_ H120
        refine hK.out _ _ ((blk_cell (by first | exact H122.out.gt0 | exact H122.out.gt1 | exact H122.out.gt2) 6).trans (by unfold bytesV; rw [List.getElem?_toArray, List.getElem?_map, H6.out]; rfl)) (fun hHeld => ?_)
        clear hK K
        refine norm_ (a' := ?_) ?_ ?_
        rotate_left
        · show Act.put _ (some 12) _ = _
          simp only [Act.put, List.setIfInBounds_toArray, List.set_cons_zero, List.set_cons_succ, i64_w, i32_w]
          rfl
        refine pure_ (i := 8) (N := some 13) (v := ?_) (a' := ?_) #[true, true, true, true, true, true, true, true, true, true, false, false, false, true, false] rfl rfl (by kernel_rfl) (fun _ _ _ h => h) (Or.inl ⟨by rfl, ?_⟩) ?_ ?_
        rotate_left
        · intro w'
          go_simp
          with_reducible rfl
        rotate_left
        · simp only [Act.put, List.setIfInBounds_toArray, List.set_cons_zero, List.set_cons_succ, i64_w, i32_w]
          rfl
        refine one_ (i := 10) (N := some 15) #[true, true, true, true, true, true, true, true, true, true, true, false, false, true, false] rfl rfl (by kernel_rfl) (by decide) (fun K hK => ?_)
        refine goes_ Try.func90 (by kernel_rfl) rfl #[.slice (some ⟨g1, 0, none⟩) 64 64, .int .i64 12, .int .i64 4] (by rfl) rfl rfl (by (try simp only [List.map_toArray, List.map_cons, List.map_nil]); first | done | rfl) ?_
        have hC23 : Kd.C (Kd.int .u8) w121 (some ⟨g1, 0, none⟩) l.length l := (Kd.R_reads' (R_arr (base := 0) (l := l) H122.out.gt2 (Nat.zero_le _) (by rw [HL.out]; decide))).2.2
        have hc23 := impl_get.calls kb _ 64 l 12 4 b _ hC23 (by rw [HL.out]; decide) HBb.out
        rw [HL.out] at hc23
        refine hc23.mono ?_
        rintro e w123 ⟨rfl, hd_⟩
        refine ⟨_, rfl, ?_⟩
        have hb_ := hd_.below
        clear hd_ hC23 hc23
        have H124 := Aside0.mk (H122.out.step hb_)
        clear hb_ H122
        refine hK.out _ _ ((blk_cell (by first | exact H124.out.gt0 | exact H124.out.gt1 | exact H124.out.gt2) 6).trans (by unfold bytesV; rw [List.getElem?_toArray, List.getElem?_map, H6.out]; rfl)) (fun hHeld => ?_)
        clear hK K
        refine norm_ (a' := ?_) ?_ ?_
        rotate_left
        · show Act.put _ (some 15) _ = _
          simp only [Act.put, List.setIfInBounds_toArray, List.set_cons_zero, List.set_cons_succ, i64_w, i32_w]
          rfl
        refine pure_ (i := 11) (N := some 16) (v := ?_) (a' := ?_) #[true, true, true, true, true, true, true, true, true, true, true, true, false, true, false] rfl rfl (by kernel_rfl) (fun _ _ _ h => h) (Or.inl ⟨by rfl, ?_⟩) ?_ ?_
        rotate_left
        · intro w'
          go_simp
          with_reducible rfl
        rotate_left
        · simp only [Act.put, List.setIfInBounds_toArray, List.set_cons_zero, List.set_cons_succ, i64_w, i32_w]
          rfl
        refine pure_ (i := 12) (N := some 17) (v := ?_) (a' := ?_) #[true, true, true, true, true, true, true, true, true, true, true, true, true, true, false] rfl rfl (by kernel_rfl) (fun _ _ _ h => h) (Or.inl ⟨by rfl, ?_⟩) ?_ ?_
        rotate_left
        · intro w'
          go_simp
          with_reducible rfl
        rotate_left
        · simp only [Act.put, List.setIfInBounds_toArray, List.set_cons_zero, List.set_cons_succ, i64_w, i32_w]
          rfl
        exact norm_ (by simp only [putAll, Act.put, List.setIfInBounds_toArray, List.set_cons_zero, List.set_cons_succ]) (hCont g4 _ ⟨hHeld, H124.out⟩)
    · skip
      refine box_step ?hg25 (N := 4) ?hd25 (cs := #[.int .u32 0, .int .i64 0, .int .u32 0, .int .u32 0]) (t := 27) ?hr25 ?_
      case hd25 => rfl
      case hg25 => rfl
      case hr25 => first | (go_simp; done) | (go_simp; rfl)
      intro g4 hg4_ w125 hb25 hB25
      have H126 := Aside0.mk (H106.out.new hg4_ hb25 hB25)
      clear hg4_ hb25 hB25 H106
      refine hK.out _ _ ((blk_cell (by first | exact H126.out.gt0 | exact H126.out.gt1 | exact H126.out.gt2) 6).trans (by unfold bytesV; rw [List.getElem?_toArray, List.getElem?_map, H6.out]; rfl)) (fun hHeld => ?_)
      clear hK K
      refine norm_ (a' := ?_) ?_ ?_
      rotate_left
      · show Act.put _ (some 4) _ = _
        simp only [Act.put, List.setIfInBounds_toArray, List.set_cons_zero, List.set_cons_succ, i64_w, i32_w]
        rfl
      refine one_ (i := 1) (N := some 6) #[true, true, false, true, true, true, true, false, false, true, false, false, false, true, false] rfl rfl (by kernel_rfl) (by decide) (fun K hK => ?_)
      refine goes_ Try.func90 (by kernel_rfl) rfl #[.slice (some ⟨g1, 0, none⟩) 64 64, .int .i64 0, .int .i64 4] (by rfl) rfl rfl (by (try simp only [List.map_toArray, List.map_cons, List.map_nil]); first | done | rfl) ?_
      have hC27 : Kd.C (Kd.int .u8) w125 (some ⟨g1, 0, none⟩) l.length l := (Kd.R_reads' (R_arr (base := 0) (l := l) H126.out.gt2 (Nat.zero_le _) (by rw [HL.out]; decide))).2.2
      have hc27 := impl_get.calls kq _ 64 l 0 4 q _ hC27 (by rw [HL.out]; decide) HQ.out
      rw [HL.out] at hc27
      refine hc27.mono ?_
      rintro e w127 ⟨rfl, hd_⟩
      refine ⟨_, rfl, ?_⟩
      have hb_ := hd_.below
      clear hd_ hC27 hc27
      have H128 := Aside0.mk (H126.out.step hb_)
      clear hb_ H126
      refine hK.out _ _ ((blk_cell (by first | exact H128.out.gt0 | exact H128.out.gt1 | exact H128.out.gt2) 6).trans (by unfold bytesV; rw [List.getElem?_toArray, List.getElem?_map, H6.out]; rfl)) (fun hHeld => ?_)
      clear hK K
      refine norm_ (a' := ?_) ?_ ?_
      rotate_left
      · show Act.put _ (some 6) _ = _
        simp only [Act.put, List.setIfInBounds_toArray, List.set_cons_zero, List.set_cons_succ, i64_w, i32_w]
        rfl
      refine pure_ (i := 2) (N := some 7) (v := ?_) (a' := ?_) #[true, true, true, true, true, true, true, false, false, true, false, false, false, true, false] rfl rfl (by kernel_rfl) (fun _ _ _ h => h) (Or.inl ⟨by rfl, ?_⟩) ?_ ?_
      rotate_left
      · intro w'
        go_simp
        with_reducible rfl
      rotate_left
      · simp only [Act.put, List.setIfInBounds_toArray, List.set_cons_zero, List.set_cons_succ, i64_w, i32_w]
        rfl
      refine one_ (i := 7) (N := some 12) #[true, true, true, true, true, true, true, true, false, true, false, false, false, true, false] rfl rfl (by kernel_rfl) (by decide) (fun K hK => ?_)
      refine goes_ Try.func90 (by kernel_rfl) rfl #[.slice (some ⟨g1, 0, none⟩) 64 64, .int .i64 8, .int .i64 4] (by rfl) rfl rfl (by (try simp only [List.map_toArray, List.map_cons, List.map_nil]); first | done | rfl) ?_
      have hC29 : Kd.C (Kd.int .u8) w127 (some ⟨g1, 0, none⟩) l.length l := (Kd.R_reads' (R_arr (base := 0) (l := l) H128.out.gt2 (Nat.zero_le _) (by rw [HL.out]; decide))).2.2
      have hc29 := impl_get.calls ka _ 64 l 8 4 a _ hC29 (by rw [HL.out]; decide) HA.out
      rw [HL.out] at hc29
      refine hc29.mono ?_
      rintro e w129 ⟨rfl, hd_⟩
      refine ⟨_, rfl, ?_⟩
      have hb_ := hd_.below
      clear hd_ hC29 hc29
      have H130 := Aside0.mk (H128.out.step hb_)
      clear hb_ H128
      refine hK.out _ _ ((blk_cell (by first | exact H130.out.gt0 | exact H130.out.gt1 | exact H130.out.gt2) 6).trans (by unfold bytesV; rw [List.getElem?_toArray, List.getElem?_map, H6.out]; rfl)) (fun hHeld => ?_)
      clear hK K
      refine norm_ (a' := ?_) ?_ ?_
      rotate_left
      · show Act.put _ (some 12) _ = _
        simp only [Act.put, List.setIfInBounds_toArray, List.set_cons_zero, List.set_cons_succ, i64_w, i32_w]
        rfl
      refine pure_ (i := 8) (N := some 13) (v := ?_) (a' := ?_) #[true, true, true, true, true, true, true, true, true, true, false, false, false, true, false] rfl rfl (by kernel_rfl) (fun _ _ _ h => h) (Or.inl ⟨by rfl, ?_⟩) ?_ ?_
      rotate_left
      · intro w'
        go_simp
        with_reducible rfl
      rotate_left
      · simp only [Act.put, List.setIfInBounds_toArray, List.set_cons_zero, List.set_cons_succ, i64_w, i32_w]
        rfl
      refine one_ (i := 10) (N := some 15) #[true, true, true, true, true, true, true, true, true, true, true, false, false, true, false] rfl rfl (by kernel_rfl) (by decide) (fun K hK => ?_)
      refine goes_ Try.func90 (by kernel_rfl) rfl #[.slice (some ⟨g1, 0, none⟩) 64 64, .int .i64 12, .int .i64 4] (by rfl) rfl rfl (by (try simp only [List.map_toArray, List.map_cons, List.map_nil]); first | done | rfl) ?_
      have hC31 : Kd.C (Kd.int .u8) w129 (some ⟨g1, 0, none⟩) l.length l := (Kd.R_reads' (R_arr (base := 0) (l := l) H130.out.gt2 (Nat.zero_le _) (by rw [HL.out]; decide))).2.2
      have hc31 := impl_get.calls kb _ 64 l 12 4 b _ hC31 (by rw [HL.out]; decide) HBb.out
      rw [HL.out] at hc31
      refine hc31.mono ?_
      rintro e w131 ⟨rfl, hd_⟩
      refine ⟨_, rfl, ?_⟩
      have hb_ := hd_.below
      clear hd_ hC31 hc31
      have H132 := Aside0.mk (H130.out.step hb_)
      clear hb_ H130
      refine hK.out _ _ ((blk_cell (by first | exact H132.out.gt0 | exact H132.out.gt1 | exact H132.out.gt2) 6).trans (by unfold bytesV; rw [List.getElem?_toArray, List.getElem?_map, H6.out]; rfl)) (fun hHeld => ?_)
      clear hK K
      refine norm_ (a' := ?_) ?_ ?_
      rotate_left
      · show Act.put _ (some 15) _ = _
        simp only [Act.put, List.setIfInBounds_toArray, List.set_cons_zero, List.set_cons_succ, i64_w, i32_w]
        rfl
      refine pure_ (i := 11) (N := some 16) (v := ?_) (a' := ?_) #[true, true, true, true, true, true, true, true, true, true, true, true, false, true, false] rfl rfl (by kernel_rfl) (fun _ _ _ h => h) (Or.inl ⟨by rfl, ?_⟩) ?_ ?_
      rotate_left
      · intro w'
        go_simp
        with_reducible rfl
      rotate_left
      · simp only [Act.put, List.setIfInBounds_toArray, List.set_cons_zero, List.set_cons_succ, i64_w, i32_w]
        rfl
      refine pure_ (i := 12) (N := some 17) (v := ?_) (a' := ?_) #[true, true, true, true, true, true, true, true, true, true, true, true, true, true, false] rfl rfl (by kernel_rfl) (fun _ _ _ h => h) (Or.inl ⟨by rfl, ?_⟩) ?_ ?_
      rotate_left
      · intro w'
        go_simp
        with_reducible rfl
      rotate_left
      · simp only [Act.put, List.setIfInBounds_toArray, List.set_cons_zero, List.set_cons_succ, i64_w, i32_w]
        rfl
      exact norm_ (by simp only [putAll, Act.put, List.setIfInBounds_toArray, List.set_cons_zero, List.set_cons_succ]) (hCont g4 _ ⟨hHeld, H132.out⟩)
  rintro g4 w133 ⟨hHeld, hX_⟩
  have H134 := Aside0.mk hX_
  clear hX_ H106
  refine norm_ (a' := ?_) ?_ ?_
  rotate_left
  · simp only [putAll, Act.put, List.setIfInBounds_toArray, List.set_cons_zero, List.set_cons_succ]
    rfl
  refine last_ (i := 14) (N := none) #[true, true, true, true, true, true, true, true, true, true, true, true, true, true, true] rfl rfl (by kernel_rfl) (by decide) (fun K hK => ?_)
  refine st_step (by rfl) rfl rfl ?hp35 (cs := #[.int .u32 q, .int .i64 kd, .int .u32 a, .int .u32 b]) ?hx35 H134.out.gt0 (by kernel_rfl) (rfl) (by simp [Value.oneCell']) ?_
  case hp35 => rfl
  case hx35 => rfl
  intro w135 hb35 hS35
  have H136 := Aside0.mk (H134.out.wr0 (cs' := #[.int .u32 q, .int .i64 kd, .int .u32 a, .int .u32 b]) hb35 hS35)
  clear hb35 hS35 H134
  refine hK.out _ _ ?_
  clear hK K
  refine done_ (by kernel_rfl) ?_
  try go_wp2
  have H138 := Aside0.mk H136.out.drew
  refine start_ (n := 9) (S := fun w' => w'.heap[g4]? = some (.cells #[.int .u32 q, .int .i64 kd, .int .u32 a, .int .u32 b] 27 (0, 0)) ∧ w'.heap[g1]? = some (.cells (bytesV l).toArray 79 (0, 0))) (ds := []) #[false, false, false, false, false, false, false, false, false] (by kernel_rfl) rfl rfl ⟨H138.out.gt0, H138.out.gt2⟩ (fun hHeld => ?_)
  clear H136
  generalize w135.drew = w137 at H138 hHeld ⊢
  refine take_ (i := 0) (N := some 18) (v := .agg #[.int .u32 q, .int .i64 kd, .int .u32 a, .int .u32 b]) (a' := ?_) #[true, false, false, false, false, false, false, false, false] rfl rfl (by kernel_rfl) (fun _ _ _ h => h) (Or.inl ⟨by rfl, ?yl39⟩) hHeld ?ha39 ?hh39
  case yl39 =>
    rintro w' ⟨s0, s1⟩
    exact ld_run (x := .tmp 4) (by rfl) (by rfl) s0 Try.underlying27 rfl (by kernel_rfl)
  case ha39 =>
    simp only [Act.put, List.setIfInBounds_toArray, List.set_cons_zero, List.set_cons_succ, i64_w, i32_w]
    rfl
  refine one_ (i := 1) (N := some 19) #[true, true, false, false, false, false, false, false, false] rfl rfl (by kernel_rfl) (by decide) (fun K hK => ?_)
  refine goes_ Try.func51 (by kernel_rfl) rfl #[.agg #[.int .u32 q, .int .i64 kd, .int .u32 a, .int .u32 b]] (by rfl) rfl rfl (by (try simp only [List.map_toArray, List.map_cons, List.map_nil]); first | done | rfl) ?_
  refine (impl_Frame_good.calls q kd a b _ _ HGd.out).mono ?_
  rintro e w140 ⟨rfl, hb_⟩
  refine ⟨_, rfl, ?_⟩
  have H141 := Aside0.mk (H138.out.step hb_)
  clear hb_ H138
  refine hK.out _ _ ⟨H141.out.gt0, H141.out.gt2⟩ (fun hHeld => ?_)
  clear hK K
  refine norm_ (a' := ?_) ?_ ?_
  rotate_left
  · show Act.put _ (some 19) _ = _
    simp only [Act.put, List.setIfInBounds_toArray, List.set_cons_zero, List.set_cons_succ, i64_w, i32_w]
    rfl
  by_cases hk : 1 ≤ kd ∧ kd ≤ 3
  · rw [decide_eq_true hk]
    have HK := Aside0.mk hk
    clear hk
    refine pure_ (i := 2) (N := some 20) (v := ?_) (a' := ?_) #[true, true, true, false, false, false, false, false, false] rfl rfl (by kernel_rfl) (fun _ _ _ h => h) (Or.inl ⟨by rfl, ?_⟩) ?_ ?_
    rotate_left
    · intro w'
      go_simp
      with_reducible rfl
    rotate_left
    · simp only [Act.put, List.setIfInBounds_toArray, List.set_cons_zero, List.set_cons_succ, i64_w, i32_w]
      rfl
    refine pure_ (i := 3) (N := some 21) (v := ?_) (a' := ?_) #[true, true, true, true, false, false, false, false, false] rfl rfl (by kernel_rfl) (fun _ _ _ h => h) (Or.inl ⟨by rfl, ?_⟩) ?_ ?_
    rotate_left
    · intro w'
      go_simp
      with_reducible rfl
    rotate_left
    · simp only [Act.put, List.setIfInBounds_toArray, List.set_cons_zero, List.set_cons_succ, i64_w, i32_w]
      rfl
    refine take_ (i := 4) (N := some 22) (v := .agg #[.int .u32 q, .int .i64 kd, .int .u32 a, .int .u32 b]) (a' := ?_) #[true, true, true, true, true, false, false, false, false] rfl rfl (by kernel_rfl) (fun _ _ _ h => h) (Or.inl ⟨by rfl, ?yl42⟩) hHeld ?ha42 ?hh42
    case yl42 =>
      rintro w' ⟨s0, s1⟩
      exact ld_run (x := .tmp 4) (by rfl) (by rfl) s0 Try.underlying27 rfl (by kernel_rfl)
    case ha42 =>
      simp only [Act.put, List.setIfInBounds_toArray, List.set_cons_zero, List.set_cons_succ, i64_w, i32_w]
      rfl
    refine take_ (i := 6) (N := some 24) (v := .agg (bytesV l).toArray) (a' := ?_) #[true, true, true, true, true, false, true, false, false] rfl rfl (by kernel_rfl) (fun _ _ _ h => h) (Or.inl ⟨by rfl, ?yl43⟩) hHeld ?ha43 ?hh43
    case yl43 =>
      rintro w' ⟨s0, s1⟩
      exact ld_run (x := .tmp 1) (by rfl) (by rfl) s1 Try.underlying79 rfl (by rw [List.size_toArray, bytesV_length, HL.out]; kernel_rfl)
    case ha43 =>
      simp only [Act.put, List.setIfInBounds_toArray, List.set_cons_zero, List.set_cons_succ, i64_w, i32_w]
      rfl
    refine one_ (i := 5) (N := some 23) #[true, true, true, true, true, true, true, false, false] rfl rfl (by kernel_rfl) (by decide) (fun K hK => ?_)
    refine goes_ Try.func52 (by kernel_rfl) rfl #[.agg #[.int .u32 q, .int .i64 kd, .int .u32 a, .int .u32 b]] (by rfl) rfl rfl (by (try simp only [List.map_toArray, List.map_cons, List.map_nil]); first | done | rfl) ?_
    refine (code_calls RQ.out RA.out RB.out).mono ?_
    rintro e w144 ⟨rfl, hb_⟩
    refine ⟨_, rfl, ?_⟩
    have H145 := Aside0.mk (H141.out.step hb_)
    clear hb_ H141
    refine hK.out _ _ ⟨H145.out.gt0, H145.out.gt2⟩ (fun hHeld => ?_)
    clear hK K
    refine norm_ (a' := ?_) ?_ ?_
    rotate_left
    · show Act.put _ (some 23) _ = _
      simp only [Act.put, List.setIfInBounds_toArray, List.set_cons_zero, List.set_cons_succ, i64_w, i32_w]
      rfl
    obtain ⟨i5, hi5, _, hsz5, _⟩ := info_parts info5
    have hne := fun W => neq_arr (P := Try.prog) (w := W) Try.underlying79 Try.underlying5 hi5 (by kernel_rfl) (frameCode_length q kd a b) HL.out
    refine pure_ (i := 7) (N := some 25) (v := ?_) (a' := ?_) #[true, true, true, true, true, true, true, true, false] rfl rfl (by kernel_rfl) (fun _ _ _ h => h) (Or.inl ⟨by rfl, ?_⟩) ?_ ?_
    rotate_left
    · intro w'
      go_simp
      first | with_reducible rfl | rfl
    rotate_left
    · simp only [Act.put, List.setIfInBounds_toArray, List.set_cons_zero, List.set_cons_succ, i64_w, i32_w]
      rfl
    refine pure_ (i := 8) (N := some 26) (v := ?_) (a' := ?_) #[true, true, true, true, true, true, true, true, true] rfl rfl (by kernel_rfl) (fun _ _ _ h => h) (Or.inl ⟨by rfl, ?_⟩) ?_ ?_
    rotate_left
    · intro w'
      go_simp
      with_reducible rfl
    rotate_left
    · simp only [Act.put, List.setIfInBounds_toArray, List.set_cons_zero, List.set_cons_succ, i64_w, i32_w]
      rfl
    refine done_ (by kernel_rfl) ?_
    clear hne
    clear hi5 hsz5 hHeld
    by_cases hc : frameCode q kd a b = l
    · rw [decide_eq_true hc]
      have HC := Aside0.mk hc
      clear hc
      go_wp2_with (first | ((with_reducible refine gate_dst (N := 28) rfl ?_); refine Aside0.out ?_))
      refine Aside0.mk ?_
      refine ld ?hw46 rfl ?hx46 H145.out.gt0 Try.underlying27 rfl (by kernel_rfl) ?_
      case hw46 => rfl
      case hx46 => rfl
      go_wp2_with (first | ((with_reducible refine gate_store (t := 27) (p := 2) rfl ?_); refine Aside0.out ?_))
      refine Aside0.mk ?_
      refine st_all ?hw47 ?hN47 rfl ?hp47 (cs := #[.int .u32 q, .int .i64 kd, .int .u32 a, .int .u32 b]) ?hx47 H145.out.gt1 (by kernel_rfl) rfl (by simp [Value.oneCell']) ?_
      case hw47 => rfl
      case hN47 => rfl
      case hp47 => rfl
      case hx47 => first | rfl | (go_simp; rfl)
      intro w147 hb47 hS47
      have H148 := Aside0.mk (H145.out.wr1 (cs' := #[.int .u32 q, .int .i64 kd, .int .u32 a, .int .u32 b]) hb47 hS47)
      clear hb47 hS47 H145
      go_wp2
      refine bodyPost_ret (results_ct rfl _ _ g2 27 #[.int .u32 q, .int .i64 kd, .int .u32 a, .int .u32 b] (0, 0) _ rfl H148.out.gt1 Try.underlying27 rfl (by kernel_rfl)) rfl ?_
      exact ⟨by rw [HR.out, decide_eq_true ⟨HK.out, HC.out⟩]; rfl, H148.out.below⟩
    · rw [decide_eq_false hc]
      have HC := Aside0.mk hc
      clear hc
      go_wp2_with (first | ((with_reducible refine gate_store (t := 27) (p := 2) rfl ?_); refine Aside0.out ?_))
      refine Aside0.mk ?_
      refine st_all ?hw46 ?hN46 rfl ?hp46 (cs := #[.int .u32 0, .int .i64 0, .int .u32 0, .int .u32 0]) ?hx46 H145.out.gt1 (by kernel_rfl) rfl (by simp [Value.oneCell']) ?_
      case hw46 => rfl
      case hN46 => rfl
      case hp46 => rfl
      case hx46 => first | rfl | (go_simp; rfl)
      intro w146 hb46 hS46
      have H147 := Aside0.mk (H145.out.wr1 (cs' := #[.int .u32 0, .int .i64 0, .int .u32 0, .int .u32 0]) hb46 hS46)
      clear hb46 hS46 H145
      go_wp2
      refine bodyPost_ret (results_ct rfl _ _ g2 27 #[.int .u32 0, .int .i64 0, .int .u32 0, .int .u32 0] (0, 0) _ rfl H147.out.gt1 Try.underlying27 rfl (by kernel_rfl)) rfl ?_
      exact ⟨by rw [HR.out, decide_eq_false (fun h => HC.out h.2)]; rfl, H147.out.below⟩
  · rw [decide_eq_false hk]
    have HK := Aside0.mk hk
    clear hk
    refine pure_ (i := 2) (N := some 20) (v := ?_) (a' := ?_) #[true, true, true, false, false, false, false, false, false] rfl rfl (by kernel_rfl) (fun _ _ _ h => h) (Or.inl ⟨by rfl, ?_⟩) ?_ ?_
    rotate_left
    · intro w'
      go_simp
      with_reducible rfl
    rotate_left
    · simp only [Act.put, List.setIfInBounds_toArray, List.set_cons_zero, List.set_cons_succ, i64_w, i32_w]
      rfl
    refine pure_ (i := 3) (N := some 21) (v := ?_) (a' := ?_) #[true, true, true, true, false, false, false, false, false] rfl rfl (by kernel_rfl) (fun _ _ _ h => h) (Or.inl ⟨by rfl, ?_⟩) ?_ ?_
    rotate_left
    · intro w'
      go_simp
      with_reducible rfl
    rotate_left
    · simp only [Act.put, List.setIfInBounds_toArray, List.set_cons_zero, List.set_cons_succ, i64_w, i32_w]
      rfl
    refine pure_ (i := 4) (N := some 22) (v := undef) (a' := ?_) #[true, true, true, true, true, false, false, false, false] rfl rfl (by kernel_rfl) (fun _ _ _ h => h) (Or.inr ⟨by rfl, rfl⟩) ?_ ?_
    rotate_left
    · simp only [Act.put, List.setIfInBounds_toArray, List.set_cons_zero, List.set_cons_succ, i64_w, i32_w]
      rfl
    refine pure_ (i := 6) (N := some 24) (v := undef) (a' := ?_) #[true, true, true, true, true, false, true, false, false] rfl rfl (by kernel_rfl) (fun _ _ _ h => h) (Or.inr ⟨by rfl, rfl⟩) ?_ ?_
    rotate_left
    · simp only [Act.put, List.setIfInBounds_toArray, List.set_cons_zero, List.set_cons_succ, i64_w, i32_w]
      rfl
    refine pure_ (i := 5) (N := some 23) (v := undef) (a' := ?_) #[true, true, true, true, true, true, true, false, false] rfl rfl (by kernel_rfl) (fun _ _ _ h => h) (Or.inr ⟨by rfl, rfl⟩) ?_ ?_
    rotate_left
    · simp only [Act.put, List.setIfInBounds_toArray, List.set_cons_zero, List.set_cons_succ, i64_w, i32_w]
      rfl
    refine pure_ (i := 7) (N := some 25) (v := undef) (a' := ?_) #[true, true, true, true, true, true, true, true, false] rfl rfl (by kernel_rfl) (fun _ _ _ h => h) (Or.inr ⟨by rfl, rfl⟩) ?_ ?_
    rotate_left
    · simp only [Act.put, List.setIfInBounds_toArray, List.set_cons_zero, List.set_cons_succ, i64_w, i32_w]
      rfl
    refine pure_ (i := 8) (N := some 26) (v := ?_) (a' := ?_) #[true, true, true, true, true, true, true, true, true] rfl rfl (by kernel_rfl) (fun _ _ _ h => h) (Or.inl ⟨by rfl, ?_⟩) ?_ ?_
    rotate_left
    · intro w'
      go_simp
      with_reducible rfl
    rotate_left
    · simp only [Act.put, List.setIfInBounds_toArray, List.set_cons_zero, List.set_cons_succ, i64_w, i32_w]
      rfl
    refine done_ (by kernel_rfl) ?_
    clear hHeld
    go_wp2_with (first | ((with_reducible refine gate_store (t := 27) (p := 2) rfl ?_); refine Aside0.out ?_))
    refine Aside0.mk ?_
    refine st_all ?hw42 ?hN42 rfl ?hp42 (cs := #[.int .u32 0, .int .i64 0, .int .u32 0, .int .u32 0]) ?hx42 H141.out.gt1 (by kernel_rfl) rfl (by simp [Value.oneCell']) ?_
    case hw42 => rfl
    case hN42 => rfl
    case hp42 => rfl
    case hx42 => first | rfl | (go_simp; rfl)
    intro w142 hb42 hS42
    have H143 := Aside0.mk (H141.out.wr1 (cs' := #[.int .u32 0, .int .i64 0, .int .u32 0, .int .u32 0]) hb42 hS42)
    clear hb42 hS42 H141
    go_wp2
    refine bodyPost_ret (results_ct rfl _ _ g2 27 #[.int .u32 0, .int .i64 0, .int .u32 0, .int .u32 0] (0, 0) _ rfl H143.out.gt1 Try.underlying27 rfl (by kernel_rfl)) rfl ?_
    exact ⟨by rw [HR.out, decide_eq_false (fun h => HK.out h.1)]; rfl, H143.out.below⟩
theorem frame_calls {l : List Int} {w : World} (hl : l.length = 64) (hu : P.U8s l) :
    Calls Try.prog 55 #[.agg (bytesV l).toArray] w fun e w' => e = .returned (frameOut (decide (isFrame l)) (fSeq l) (fKind l) (fA l) (fB l)) ∧ Below w.heap.size w w' := by
  obtain ⟨kq, hkq⟩ := (P.impl_get_ev l 0 4 hu (by decide) (by decide) (by decide) (by omega) (by omega)).ex
  obtain ⟨ka, hka⟩ := (P.impl_get_ev l 8 4 hu (by decide) (by decide) (by decide) (by omega) (by omega)).ex
  obtain ⟨kb, hkb⟩ := (P.impl_get_ev l 12 4 hu (by decide) (by decide) (by decide) (by omega) (by omega)).ex
  have h6 : l[6]? = some (fKind l) := by unfold fKind; rw [List.getD_eq_getElem?_getD, List.getElem?_eq_getElem (by omega)]; rfl
  exact frame_raw rfl hl h6 hkq hka hkb (num4 hu 0 (by omega)) (num4 hu 8 (by omega)) (num4 hu 12 (by omega)) (hu.at_ h6)

instance (l : List Int) : Decidable (P.U8s l) := by unfold P.U8s; infer_instance
/-- What DecodeFrame answers. -/
def impl_DecodeFrame.f (l0 : List Int) : Option (Bool × Int × Int × Int × Int) :=
  if P.U8s l0 then some (if l0.length = 64 ∧ isFrame l0 then (true, fSeq l0, fKind l0, fA l0, fB l0) else (false, 0, 0, 0, 0)) else none
set_option maxHeartbeats 8000000 in
set_option maxRecDepth 100000 in
theorem impl_DecodeFrame.calls (A0 : Option Addr) (c0 : Nat) (l0 : List Int) (r1 : Bool) (r2 : Int) (r3 : Int) (r4 : Int) (r5 : Int) (w : World) (hr0 : Kd.C (Kd.int .u8) w A0 l0.length l0) (hc0 : l0.length ≤ c0) (h : impl_DecodeFrame.f l0 = some (r1, r2, r3, r4, r5)) :
    Calls Try.prog 19 #[.slice A0 l0.length c0] w fun e w' => e = .returned (.agg #[.bool r1, .int .u32 r2, .int .i64 r3, .int .u32 r4, .int .u32 r5]) ∧ Below w.heap.size w w' := by
  unfold impl_DecodeFrame.f at h
  by_cases hu : P.U8s l0
  case neg => rw [if_neg hu] at h; cases h
  rw [if_pos hu] at h
  have h := Option.some.inj h
  have HU := Aside0.mk hu
  have HR0 := Aside0.mk hr0
  have H := Aside0.mk h
  have H0 := Aside0.mk (Bx.refl w)
  clear hu hr0 h
  go_enter Try.func19, Try.ntmps19
  go_wp2_with (first | ((with_reducible refine gate_dst (N := 2) rfl ?_); refine Aside0.out ?_))
  refine Aside0.mk ?_
  refine mk ?hw1 (N := 2) ?hd1 (cs := #[.bool false, .int .u32 0, .int .i64 0, .int .u32 0, .int .u32 0]) (t := 33) ?hr1 ?_
  case hd1 => rfl
  case hw1 => rfl
  case hr1 => first | (go_simp; done) | (go_simp; rfl)
  intro g2 hg2_ w101 hb1 hB1
  have H102 := Aside0.mk (H0.out.new hg2_ hb1 hB1)
  clear hg2_ hb1 hB1 H0
  by_cases h64 : l0.length = 64
  · have h64b : ((l0.length : Int) != 64) = false := bne_eq_false_iff_eq.mpr (by omega)
    have H64 := Aside0.mk h64
    clear h64
    go_wp2_with (first | ((with_reducible refine gate_callee (f := 54) rfl ?_); refine Aside0.out ?_))
    refine Aside0.mk ?_
    refine goesW (some 11) rfl ?hw3 Try.func54 (by kernel_rfl) rfl #[.slice A0 l0.length c0] rfl (by (try simp only [List.map_toArray, List.map_cons, List.map_nil]); first | done | rfl) ?_
    case hw3 => rfl
    refine (impl_sectorOf.calls (Kd.C_below HR0.out H102.out.below) (if_pos H64.out)).mono ?_
    rintro e w103 ⟨rfl, hb_⟩
    refine ⟨_, rfl, ?_⟩
    have H104 := Aside0.mk (H102.out.step hb_)
    clear hb_ H102
    go_wp2_with (first | ((with_reducible refine gate_callee (f := 55) rfl ?_); refine Aside0.out ?_))
    refine Aside0.mk ?_
    refine goesW (some 12) rfl ?hw5 Try.func55 (by kernel_rfl) rfl #[.agg (bytesV l0).toArray] rfl (by (try simp only [List.map_toArray, List.map_cons, List.map_nil]); first | done | rfl) ?_
    case hw5 => rfl
    refine (frame_calls H64.out HU.out).mono ?_
    rintro e w105 ⟨rfl, hb_⟩
    refine ⟨_, rfl, ?_⟩
    have H106 := Aside0.mk (H104.out.step hb_)
    clear hb_ H104
    by_cases hf : isFrame l0
    · rw [decide_eq_true hf, show frameOut true (fSeq l0) (fKind l0) (fA l0) (fB l0) = .tuple #[.agg #[.int .u32 (fSeq l0), .int .i64 (fKind l0), .int .u32 (fA l0), .int .u32 (fB l0)], .bool true] from rfl]
      have HF := Aside0.mk hf
      clear hf
      go_wp2_with (first | ((with_reducible refine gate_dst (N := 3) rfl ?_); refine Aside0.out ?_))
      refine Aside0.mk ?_
      refine mk ?hw7 (N := 3) ?hd7 (cs := #[.int .u32 0, .int .i64 0, .int .u32 0, .int .u32 0]) (t := 27) ?hr7 ?_
      case hd7 => rfl
      case hw7 => rfl
      case hr7 => first | (go_simp; done) | (go_simp; rfl)
      intro g3 hg3_ w107 hb7 hB7
      have H108 := Aside0.mk (H106.out.new hg3_ hb7 hB7)
      clear hg3_ hb7 hB7 H106
      go_wp2_with (first | ((with_reducible refine gate_store (t := 27) (p := 3) rfl ?_); refine Aside0.out ?_))
      refine Aside0.mk ?_
      refine st_all ?hw9 ?hN9 rfl ?hp9 (cs := #[.int .u32 (fSeq l0), .int .i64 (fKind l0), .int .u32 (fA l0), .int .u32 (fB l0)]) ?hx9 H108.out.gt0 (by kernel_rfl) rfl (by simp [Value.oneCell']) ?_
      case hw9 => rfl
      case hN9 => rfl
      case hp9 => rfl
      case hx9 => first | rfl | (go_simp; rfl)
      intro w109 hb9 hS9
      have H110 := Aside0.mk (H108.out.wr0 (cs' := #[.int .u32 (fSeq l0), .int .i64 (fKind l0), .int .u32 (fA l0), .int .u32 (fB l0)]) hb9 hS9)
      clear hb9 hS9 H108
      go_wp2_with (first | ((with_reducible refine gate_dst (N := 16) rfl ?_); refine Aside0.out ?_))
      refine Aside0.mk ?_
      refine ld ?hw11 rfl ?hx11 H110.out.gt0 Try.underlying27 rfl (by kernel_rfl) ?_
      case hw11 => rfl
      case hx11 => rfl
      go_wp2_with (first | ((with_reducible refine gate_store (t := 33) (p := 2) rfl ?_); refine Aside0.out ?_))
      refine Aside0.mk ?_
      refine st_all ?hw12 ?hN12 rfl ?hp12 (cs := #[.bool true, .int .u32 (fSeq l0), .int .i64 (fKind l0), .int .u32 (fA l0), .int .u32 (fB l0)]) ?hx12 H110.out.gt1 (by kernel_rfl) rfl (by simp [Value.oneCell']) ?_
      case hw12 => rfl
      case hN12 => rfl
      case hp12 => rfl
      case hx12 => first | rfl | (go_simp; rfl)
      intro w112 hb12 hS12
      have H113 := Aside0.mk (H110.out.wr1 (cs' := #[.bool true, .int .u32 (fSeq l0), .int .i64 (fKind l0), .int .u32 (fA l0), .int .u32 (fB l0)]) hb12 hS12)
      clear hb12 hS12 H110
      go_wp2
      refine bodyPost_ret (results_cell_row rfl _ _ g2 33 #[.bool true, .int .u32 (fSeq l0), .int .i64 (fKind l0), .int .u32 (fA l0), .int .u32 (fB l0)] (0, 0) _ rfl H113.out.gt1 Try.underlying33 rfl (by kernel_rfl)) rfl ?_
      have h := H.out
      rw [if_pos ⟨H64.out, HF.out⟩] at h
      cases h
      exact ⟨rfl, H113.out.below⟩
    · rw [decide_eq_false hf, show frameOut false (fSeq l0) (fKind l0) (fA l0) (fB l0) = .tuple #[.agg #[.int .u32 0, .int .i64 0, .int .u32 0, .int .u32 0], .bool false] from rfl]
      have HF := Aside0.mk hf
      clear hf
      go_wp2_with (first | ((with_reducible refine gate_dst (N := 3) rfl ?_); refine Aside0.out ?_))
      refine Aside0.mk ?_
      refine mk ?hw7 (N := 3) ?hd7 (cs := #[.int .u32 0, .int .i64 0, .int .u32 0, .int .u32 0]) (t := 27) ?hr7 ?_
      case hd7 => rfl
      case hw7 => rfl
      case hr7 => first | (go_simp; done) | (go_simp; rfl)
      intro g3 hg3_ w107 hb7 hB7
      have H108 := Aside0.mk (H106.out.new hg3_ hb7 hB7)
      clear hg3_ hb7 hB7 H106
      go_wp2_with (first | ((with_reducible refine gate_store (t := 27) (p := 3) rfl ?_); refine Aside0.out ?_))
      refine Aside0.mk ?_
      refine st_all ?hw9 ?hN9 rfl ?hp9 (cs := #[.int .u32 0, .int .i64 0, .int .u32 0, .int .u32 0]) ?hx9 H108.out.gt0 (by kernel_rfl) rfl (by simp [Value.oneCell']) ?_
      case hw9 => rfl
      case hN9 => rfl
      case hp9 => rfl
      case hx9 => first | rfl | (go_simp; rfl)
      intro w109 hb9 hS9
      have H110 := Aside0.mk (H108.out.wr0 (cs' := #[.int .u32 0, .int .i64 0, .int .u32 0, .int .u32 0]) hb9 hS9)
      clear hb9 hS9 H108
      go_wp2_with (first | ((with_reducible refine gate_dst (N := 16) rfl ?_); refine Aside0.out ?_))
      refine Aside0.mk ?_
      refine ld ?hw11 rfl ?hx11 H110.out.gt0 Try.underlying27 rfl (by kernel_rfl) ?_
      case hw11 => rfl
      case hx11 => rfl
      go_wp2_with (first | ((with_reducible refine gate_store (t := 33) (p := 2) rfl ?_); refine Aside0.out ?_))
      refine Aside0.mk ?_
      refine st_all ?hw12 ?hN12 rfl ?hp12 (cs := #[.bool false, .int .u32 0, .int .i64 0, .int .u32 0, .int .u32 0]) ?hx12 H110.out.gt1 (by kernel_rfl) rfl (by simp [Value.oneCell']) ?_
      case hw12 => rfl
      case hN12 => rfl
      case hp12 => rfl
      case hx12 => first | rfl | (go_simp; rfl)
      intro w112 hb12 hS12
      have H113 := Aside0.mk (H110.out.wr1 (cs' := #[.bool false, .int .u32 0, .int .i64 0, .int .u32 0, .int .u32 0]) hb12 hS12)
      clear hb12 hS12 H110
      go_wp2
      refine bodyPost_ret (results_cell_row rfl _ _ g2 33 #[.bool false, .int .u32 0, .int .i64 0, .int .u32 0, .int .u32 0] (0, 0) _ rfl H113.out.gt1 Try.underlying33 rfl (by kernel_rfl)) rfl ?_
      have h := H.out
      rw [if_neg (fun h => HF.out h.2)] at h
      cases h
      exact ⟨rfl, H113.out.below⟩
  · have h64b : ((l0.length : Int) != 64) = true := bne_iff_ne.mpr (by omega)
    have H64 := Aside0.mk h64
    clear h64
    go_wp2_with (first | ((with_reducible refine gate_store (t := 33) (p := 2) rfl ?_); refine Aside0.out ?_))
    refine Aside0.mk ?_
    refine st_all ?hw3 ?hN3 rfl ?hp3 (cs := #[.bool false, .int .u32 0, .int .i64 0, .int .u32 0, .int .u32 0]) ?hx3 H102.out.gt0 (by kernel_rfl) rfl (by simp [Value.oneCell']) ?_
    case hw3 => rfl
    case hN3 => rfl
    case hp3 => rfl
    case hx3 => first | rfl | (go_simp; rfl)
    intro w103 hb3 hS3
    have H104 := Aside0.mk (H102.out.wr0 (cs' := #[.bool false, .int .u32 0, .int .i64 0, .int .u32 0, .int .u32 0]) hb3 hS3)
    clear hb3 hS3 H102
    go_wp2
    refine bodyPost_ret (results_cell_row rfl _ _ g2 33 #[.bool false, .int .u32 0, .int .i64 0, .int .u32 0, .int .u32 0] (0, 0) _ rfl H104.out.gt0 Try.underlying33 rfl (by kernel_rfl)) rfl ?_
    have h := H.out
    rw [if_neg (fun h => H64.out h.1)] at h
    cases h
    exact ⟨rfl, H104.out.below⟩
end Go.Proofs.Ytgfadfahbhcllaa.Q
namespace Go.Proofs.Ytgfadfahbhcllaa.Q
open Go.RowKit Go.Proofs.YtgfadfahbhcllaaW.PrintWords Go.Proofs.YtgfadfahbhcllaaW.PrintLast Go.Proofs.Ytgfadfahbhcllaa.LK Go.Proofs.YtgfadfahbhcllaaW.PrintMore
attribute [local go_sem] max2_int min2_int max_two min_two max_three min_three max_four min_four   -- for this text's walks alone
set_option linter.unusedVariables false
set_option linter.unusedSimpArgs false

/-! ### spec_l2Four: function 48 -/
def spec_l2Four.f (a0 : Int) : Option (List Int) := some (([(Int.tmod a0 256) % 256, ((Int.tdiv a0 256) % 4294967296) % 256, ((Int.tdiv a0 65536) % 4294967296) % 256, ((Int.tdiv a0 16777216) % 4294967296) % 256] : List Int))
set_option maxHeartbeats 8000000 in
set_option maxRecDepth 100000 in
theorem spec_l2Four.calls (a0 : Int) (r : List Int) (w : World) (h : spec_l2Four.f a0 = some r) :
    Calls Try.prog 48 #[.int .u32 a0] w fun e w' => ∃ v0_ : Value, e = .returned (v0_) ∧ Kd.R (Kd.int .u8) 5 w' w.heap.size (fun _ => True) v0_ r ∧ Below w.heap.size w w' := by
  have HB := Aside0.mk (Below.refl w.heap.size w)
  have H : (some (([(Int.tmod a0 256) % 256, ((Int.tdiv a0 256) % 4294967296) % 256, ((Int.tdiv a0 65536) % 4294967296) % 256, ((Int.tdiv a0 16777216) % 4294967296) % 256] : List Int))) = some r := h
  clear h
  obtain ⟨y101, hy101⟩ : ∃ y_ : List Int, y_ = (([(Int.tmod a0 256) % 256, ((Int.tdiv a0 256) % 4294967296) % 256, ((Int.tdiv a0 65536) % 4294967296) % 256, ((Int.tdiv a0 16777216) % 4294967296) % 256] : List Int)) := ⟨_, rfl⟩
  replace H : (some y101) = some r := by first | (rw [hy101]; with_reducible exact H) | (have H2_ := (Option.bind_some _ _).symm.trans H; rw [hy101]; with_reducible exact H2_) | (have H2_ := (Option.bind_some _ _).symm.trans H; with_reducible exact H2_) | with_reducible exact H | (rw [hy101]; exact H) | exact H
  have Ny101 := Aside0.mk hy101
  clear hy101
  obtain rfl := Option.some.inj H
  go_enter Try.func48, Try.ntmps48
  go_wp2_with (first | ((with_reducible refine gate_dst (N := 17) rfl ?_); refine Kd.R_lit (Kd.int .u8) _ 5 ?hg (N := 17) ?hd (xs := ([(Int.tmod a0 256) % 256, ((Int.tdiv a0 256) % 4294967296) % 256, ((Int.tdiv a0 65536) % 4294967296) % 256, ((Int.tdiv a0 16777216) % 4294967296) % 256] : List Int)) (inner := [.int .u8 ((Int.tmod a0 256) % 256), .int .u8 (((Int.tdiv a0 256) % 4294967296) % 256), .int .u8 (((Int.tdiv a0 65536) % 4294967296) % 256), .int .u8 (((Int.tdiv a0 16777216) % 4294967296) % 256)]) (ok := fun _ => True) (okp := fun _ => True) ?hr ?hp (fun _ hk => hk) trivial (Below.refl _ _) (Nat.le_refl _) (by simp) ?_; (case hd => rfl); (case hg => rfl); (case hr => first | (go_simp; done) | (go_simp; rfl)); (case hp => exact (Reps.one (show Kd.M (Kd.int .u8) _ _ _ ((Int.tmod a0 256) % 256) [.int .u8 ((Int.tmod a0 256) % 256)] from rfl) (Reps.one (show Kd.M (Kd.int .u8) _ _ _ (((Int.tdiv a0 256) % 4294967296) % 256) [.int .u8 (((Int.tdiv a0 256) % 4294967296) % 256)] from rfl) (Reps.one (show Kd.M (Kd.int .u8) _ _ _ (((Int.tdiv a0 65536) % 4294967296) % 256) [.int .u8 (((Int.tdiv a0 65536) % 4294967296) % 256)] from rfl) (Reps.one (show Kd.M (Kd.int .u8) _ _ _ (((Int.tdiv a0 16777216) % 4294967296) % 256) [.int .u8 (((Int.tdiv a0 16777216) % 4294967296) % 256)] from rfl) (Reps.none _ _)))))); intro v102 w2 ho3 hb hg_ hnew_; clear hg_ hnew_; (first | rw [← Ny101.out] at ho3 | (simp only [Int.reduceToNat] at ho3; rw [← Ny101.out] at ho3)); have n0_ := Aside0.mk (Kd.R_lower ho3 (below_size (by repeat (first | (with_reducible first | exact HB.out | apply below_alloc | apply pw_below_drewN | apply below_drew1) | exact HB.out)))); have n1_ := Aside0.mk (below_step (by repeat (first | (with_reducible first | exact HB.out | apply below_alloc | apply pw_below_drewN | apply below_drew1) | exact HB.out)) hb); clear HB; have HO103 := n0_; have HB := n1_; clear n0_ n1_; clear hb ho3))
  go_ret
  exact ⟨_, by first | rfl | (simp [errW_none, errW_some] <;> rfl) | (simp [*, errW_none, errW_some] <;> rfl), by (with_reducible repeat (first | apply Kd.R_alloc | apply Kd.R_drewN | apply Kd.R_drew)); exact HO103.out, by repeat (first | (with_reducible first | exact HB.out | apply below_alloc | apply pw_below_drewN | apply below_drew1) | exact HB.out)⟩

end Go.Proofs.Ytgfadfahbhcllaa.Q
namespace Go.Proofs.Ytgfadfahbhcllaa.Q
open Go.RowKit Go.Proofs.YtgfadfahbhcllaaW.PrintWords Go.Proofs.YtgfadfahbhcllaaW.PrintLast Go.Proofs.Ytgfadfahbhcllaa.LK Go.Proofs.YtgfadfahbhcllaaW.PrintMore
attribute [local go_sem] max2_int min2_int max_two min_two max_three min_three max_four min_four   -- for this text's walks alone
set_option linter.unusedVariables false
set_option linter.unusedSimpArgs false

/-! ### spec_l2Cat: function 47 -/
def spec_l2Cat.l0 : Nat → List (List Int) → List Int → Int → Option (List Int)
  | 0, _, _, _ => none
  | k + 1, x0, x3, x4 => if x4 < (x0.length : Int) then (if 0 ≤ x4 then (if x3.length + (rd_L1 x0 x4).length < 140737488355328 then (spec_l2Cat.l0 k x0 (x3 ++ (rd_L1 x0 x4)) (wrap64 (x4 + 1))) else (none)) else (none)) else (some x3)
def spec_l2Cat.f (k : Nat) (l0 : List (List Int)) : Option (List Int) := spec_l2Cat.l0 k l0 (([] : List Int)) 0
theorem spec_l2Cat.mono_l : ∀ k, (∀ y0 y1 y2, LeO (spec_l2Cat.l0 k y0 y1 y2) (spec_l2Cat.l0 (k + 1) y0 y1 y2))
  | 0 => fun _ _ _ r h => by simp [spec_l2Cat.l0] at h
  | k + 1 => by
    have ih0 := spec_l2Cat.mono_l k
    · intro y0 y1 y2
      unfold spec_l2Cat.l0
      repeat' first
      | (with_reducible exact ih0 _ _ _)
      | (with_reducible exact LeO.refl _)
      | (with_reducible exact LeO.none _)
      | (with_reducible refine LeO.ite ?_ ?_)
      | (with_reducible refine LeO.bind ?_ (fun _ => ?_))
      | exact ih0 _ _ _
      | exact LeO.none _
      | refine LeO.ite ?_ ?_
      | refine LeO.bind ?_ (fun _ => ?_)
theorem spec_l2Cat.mono : ∀ a0 k, LeO (spec_l2Cat.f k a0) (spec_l2Cat.f (k + 1) a0) := by
  intro a0 k
  have ih0 := spec_l2Cat.mono_l k
  unfold spec_l2Cat.f
  repeat' first
      | (with_reducible exact ih0 _ _ _)
      | (with_reducible exact LeO.refl _)
      | (with_reducible exact LeO.none _)
      | (with_reducible refine LeO.ite ?_ ?_)
      | (with_reducible refine LeO.bind ?_ (fun _ => ?_))
      | exact ih0 _ _ _
      | exact LeO.none _
      | refine LeO.ite ?_ ?_
      | refine LeO.bind ?_ (fun _ => ?_)
set_option maxHeartbeats 8000000 in
set_option maxRecDepth 100000 in
theorem spec_l2Cat.calls (k : Nat) (A0 : Option Addr) (c0 : Nat) (l0 : List (List Int)) (r : List Int) (w : World) (hr0 : Kd.C (Kd.slice 5 (Kd.int .u8)) w A0 l0.length l0) (hc0 : l0.length ≤ c0) (h : spec_l2Cat.f k l0 = some r) :
    Calls Try.prog 47 #[.slice A0 l0.length c0] w fun e w' => ∃ v0_ : Value, e = .returned (v0_) ∧ Kd.R (Kd.int .u8) 5 w' w.heap.size (fun _ => True) v0_ r ∧ Below w.heap.size w w' := by
  have HR0 := Aside0.mk hr0
  have HC0 := Aside0.mk hc0
  clear hr0 hc0
  have HB := Aside0.mk (Below.refl w.heap.size w)
  have H : (spec_l2Cat.l0 k l0 (([] : List Int)) 0) = some r := h
  clear h
  obtain ⟨y101, hy101⟩ : ∃ y_ : List Int, y_ = (([] : List Int)) := ⟨_, rfl⟩
  replace H : (spec_l2Cat.l0 k l0 y101 0) = some r := by first | (rw [hy101]; with_reducible exact H) | (have H2_ := (Option.bind_some _ _).symm.trans H; rw [hy101]; with_reducible exact H2_) | (have H2_ := (Option.bind_some _ _).symm.trans H; with_reducible exact H2_) | with_reducible exact H | (rw [hy101]; exact H) | exact H
  have Ny101 := Aside0.mk hy101
  clear hy101
  have H' := Aside0.mk H
  clear H
  go_enter Try.func47, Try.ntmps47
  go_wp2_with (first | ((with_reducible refine gate_dst (N := 5) rfl ?_); refine Kd.R_lit (Kd.int .u8) _ 5 ?hg (N := 5) ?hd (xs := ([] : List Int)) (inner := []) (ok := fun _ => True) (okp := fun _ => True) ?hr ?hp (fun _ hk => hk) trivial (Below.refl _ _) (Nat.le_refl _) (by simp) ?_; (case hd => rfl); (case hg => rfl); (case hr => first | (go_simp; done) | (go_simp; rfl)); (case hp => exact (Reps.none _ _)); intro v102 w2 ho3 hb hg_ hnew_; clear hg_ hnew_; (first | rw [← Ny101.out] at ho3 | (simp only [Int.reduceToNat] at ho3; rw [← Ny101.out] at ho3)); have n0_ := Aside0.mk (Kd.R_lower ho3 (below_size (by repeat (first | (with_reducible first | exact HB.out | apply below_alloc | apply pw_below_drewN | apply below_drew1) | exact HB.out)))); have n1_ := Aside0.mk (below_step (by repeat (first | (with_reducible first | exact HB.out | apply below_alloc | apply pw_below_drewN | apply below_drew1) | exact HB.out)) hb); clear HB; have HO103 := n0_; have HB := n1_; clear n0_ n1_; clear hb ho3))
  go_loopg [3, 4] k (fun kq v3 v4 w' => ∃ (x3_1 : List Int) (x4_1 : Int), v4 = .int .i64 x4_1 ∧ Aside0 (spec_l2Cat.l0 kq l0 x3_1 x4_1 = some r) ∧ Aside0 (kq ≤ k) ∧ Aside0 (Kd.R (Kd.int .u8) 5 w' w.heap.size (fun _ => True) v3 x3_1) ∧ Aside0 (Below w.heap.size w w'))
  case atStart => exact ⟨(y101), (0), (by first | rfl | (simp; done) | (simp [*]; done)), H', ⟨Nat.le_refl _⟩, ⟨by (with_reducible repeat (first | apply Kd.R_alloc | apply Kd.R_drewN | apply Kd.R_drew)); exact HO103.out⟩, ⟨by repeat (first | (with_reducible first | exact HB.out | apply below_alloc | apply pw_below_drewN | apply below_drew1) | exact HB.out)⟩⟩
  case round =>
    clear H'
    try clear p2
    obtain ⟨x3_1, x4_1, rfl, HA, HK1, HO_3, HB⟩ := hrel
    cases gk with
    | zero => exact absurd HA.out (by simp [spec_l2Cat.l0])
    | succ k1 =>
      have H := HA.out
      clear HA
      simp only [spec_l2Cat.l0] at H
      by_cases c4 : x4_1 < (l0.length : Int)
      · rw [if_pos c4] at H
        have c4b0 : decide (x4_1 < (l0.length : Int)) = true := decide_eq_true c4
        clear c4
        by_cases c5 : 0 ≤ x4_1
        · rw [if_pos c5] at H
          have c5b0 : decide (0 ≤ x4_1) = true := decide_eq_true c5
          clear c5
          by_cases c6 : x3_1.length + (rd_L1 l0 x4_1).length < 140737488355328
          · rw [if_pos c6] at H
            have LMc6 := Aside0.mk c6
            clear c6
            obtain ⟨y105, hy105⟩ : ∃ y_ : List Int, y_ = (x3_1 ++ (rd_L1 l0 x4_1)) := ⟨_, rfl⟩
            replace H : (spec_l2Cat.l0 k1 l0 y105 (wrap64 (x4_1 + 1))) = some r := by first | (rw [hy105]; with_reducible exact H) | (have H2_ := (Option.bind_some _ _).symm.trans H; rw [hy105]; with_reducible exact H2_) | (have H2_ := (Option.bind_some _ _).symm.trans H; with_reducible exact H2_) | with_reducible exact H | (rw [hy105]; exact H) | exact H
            have Ny105 := Aside0.mk hy105
            clear hy105
            have H' := Aside0.mk H
            clear H
            have p104 : 0 ≤ (x4_1 : Int) := of_decide_eq_true (by first | (with_reducible assumption) | assumption)
            have q104 : x4_1 < (l0.length : Int) := of_decide_eq_true (by first | (with_reducible assumption) | assumption)
            obtain ⟨ad104, A104_0, c104_0, e104, hx104_0, hl104_0, hi104_0⟩ := at_L1 HR0.out x4_1 p104 q104
            cases e104
            replace hx104_0 := (HB.out.cell (World.block_lt_of_cell? w _ hx104_0)).trans hx104_0
            have HR104_0 := Aside0.mk hi104_0
            have HC104_0 := Aside0.mk hl104_0
            clear hi104_0 hl104_0
            replace p104 := eq_true p104
            replace q104 := eq_true q104
            go_wp2_with (first | ((with_reducible refine gate_builtin (b := .append) (xs := #[.tmp 12, .tmp 16]) rfl ?_); at_builtin; refine Kd.R_append_rows (Kd.int .u8) (w0 := w) w.heap.size rfl (.tmp 12) (.tmp 16) 25 5 (.int .u8 0) 1 rfl Try.underlying25 info5 rfl (by decide) (by omega) u3 x3_1 (rd_L1 l0 x4_1) _ _ _ (fun _ => True) (fun _ => False) rfl rfl ?aO ?aR (fun _ _ h => h) (fun _ h => h.elim) ?aF ?aB ?aS ?aL ?_; (case aR => repeat (first | exact (Kd.C_below HR104_0.out HB.out) | (with_reducible refine Kd.C_alloc ?_ _) | (with_reducible refine Kd.C_drewN ?_ _) | (with_reducible refine Kd.C_drew ?_))); (case aB => exact (by repeat (first | (with_reducible first | exact HB.out | apply below_alloc | apply pw_below_drewN | apply below_drew1) | exact HB.out))); (case aF => exact (fun _ _ => trivial)); (case aO => exact (by (with_reducible repeat (first | apply Kd.R_alloc | apply Kd.R_drewN | apply Kd.R_drew)); exact HO_3.out)); (case aS => exact (below_size (by repeat (first | (with_reducible first | exact HB.out | apply below_alloc | apply pw_below_drewN | apply below_drew1) | exact HB.out)))); (case aL => have := LMc6.out; omega); intro v106 w7 ho hb hg hat; rw [← Ny105.out] at ho; have n0_ := Aside0.mk (hb); have n1_ := Aside0.mk (ho); clear HB; clear HO_3; have HB := n0_; have HO107 := n1_; clear n0_ n1_; clear ho hb hg hat))
            go_roundg k1
            case measure => have := HK1.out; omega
            case rel => exact ⟨(y105), (wrap64 (x4_1 + 1)), (by first | rfl | (simp; done) | (simp [*]; done)), H', ⟨by have := HK1.out; omega⟩, ⟨by (with_reducible repeat (first | apply Kd.R_alloc | apply Kd.R_drewN | apply Kd.R_drew)); exact HO107.out⟩, ⟨by repeat (first | (with_reducible first | exact HB.out | apply below_alloc | apply pw_below_drewN | apply below_drew1) | exact HB.out)⟩⟩
          · rw [if_neg c6] at H
            exact absurd H (by simp)
        · rw [if_neg c5] at H
          exact absurd H (by simp)
      · rw [if_neg c4] at H
        have c4b0 : decide (x4_1 < (l0.length : Int)) = false := decide_eq_false c4
        clear c4
        obtain rfl := Option.some.inj H
        go_wp2
        go_ret
        exact ⟨_, by first | rfl | (simp [errW_none, errW_some] <;> rfl) | (simp [*, errW_none, errW_some] <;> rfl), by (with_reducible repeat (first | apply Kd.R_alloc | apply Kd.R_drewN | apply Kd.R_drew)); exact HO_3.out, by repeat (first | (with_reducible first | exact HB.out | apply below_alloc | apply pw_below_drewN | apply below_drew1) | exact HB.out)⟩

end Go.Proofs.Ytgfadfahbhcllaa.Q
namespace Go.Proofs.Ytgfadfahbhcllaa.Q
open Go.RowKit Go.Proofs.YtgfadfahbhcllaaW.PrintWords Go.Proofs.YtgfadfahbhcllaaW.PrintLast Go.Proofs.Ytgfadfahbhcllaa.LK Go.Proofs.YtgfadfahbhcllaaW.PrintMore
attribute [local go_sem] max2_int min2_int max_two min_two max_three min_three max_four min_four   -- for this text's walks alone
set_option linter.unusedVariables false
set_option linter.unusedSimpArgs false

/-! ### spec_l1Zeros: function 49 -/
def spec_l1Zeros.l0 : Nat → Int → List Int → Int → Option (List Int)
  | 0, _, _, _ => none
  | k + 1, x0, x3, x4 => if x4 < x0 then (if x3.length < 140737488355328 then (spec_l1Zeros.l0 k x0 (x3 ++ [0]) (wrap64 (x4 + 1))) else (none)) else (some x3)
def spec_l1Zeros.f (k : Nat) (a0 : Int) : Option (List Int) := spec_l1Zeros.l0 k a0 (([] : List Int)) 0
theorem spec_l1Zeros.mono_l : ∀ k, (∀ y0 y1 y2, LeO (spec_l1Zeros.l0 k y0 y1 y2) (spec_l1Zeros.l0 (k + 1) y0 y1 y2))
  | 0 => fun _ _ _ r h => by simp [spec_l1Zeros.l0] at h
  | k + 1 => by
    have ih0 := spec_l1Zeros.mono_l k
    · intro y0 y1 y2
      unfold spec_l1Zeros.l0
      repeat' first
      | (with_reducible exact ih0 _ _ _)
      | (with_reducible exact LeO.refl _)
      | (with_reducible exact LeO.none _)
      | (with_reducible refine LeO.ite ?_ ?_)
      | (with_reducible refine LeO.bind ?_ (fun _ => ?_))
      | exact ih0 _ _ _
      | exact LeO.none _
      | refine LeO.ite ?_ ?_
      | refine LeO.bind ?_ (fun _ => ?_)
theorem spec_l1Zeros.mono : ∀ a0 k, LeO (spec_l1Zeros.f k a0) (spec_l1Zeros.f (k + 1) a0) := by
  intro a0 k
  have ih0 := spec_l1Zeros.mono_l k
  unfold spec_l1Zeros.f
  repeat' first
      | (with_reducible exact ih0 _ _ _)
      | (with_reducible exact LeO.refl _)
      | (with_reducible exact LeO.none _)
      | (with_reducible refine LeO.ite ?_ ?_)
      | (with_reducible refine LeO.bind ?_ (fun _ => ?_))
      | exact ih0 _ _ _
      | exact LeO.none _
      | refine LeO.ite ?_ ?_
      | refine LeO.bind ?_ (fun _ => ?_)
set_option maxHeartbeats 8000000 in
set_option maxRecDepth 100000 in
theorem spec_l1Zeros.calls (k : Nat) (a0 : Int) (r : List Int) (w : World) (h : spec_l1Zeros.f k a0 = some r) :
    Calls Try.prog 49 #[.int .i64 a0] w fun e w' => ∃ v0_ : Value, e = .returned (v0_) ∧ Kd.R (Kd.int .u8) 5 w' w.heap.size (fun _ => True) v0_ r ∧ Below w.heap.size w w' := by
  have HB := Aside0.mk (Below.refl w.heap.size w)
  have H : (spec_l1Zeros.l0 k a0 (([] : List Int)) 0) = some r := h
  clear h
  obtain ⟨y101, hy101⟩ : ∃ y_ : List Int, y_ = (([] : List Int)) := ⟨_, rfl⟩
  replace H : (spec_l1Zeros.l0 k a0 y101 0) = some r := by first | (rw [hy101]; with_reducible exact H) | (have H2_ := (Option.bind_some _ _).symm.trans H; rw [hy101]; with_reducible exact H2_) | (have H2_ := (Option.bind_some _ _).symm.trans H; with_reducible exact H2_) | with_reducible exact H | (rw [hy101]; exact H) | exact H
  have Ny101 := Aside0.mk hy101
  clear hy101
  have H' := Aside0.mk H
  clear H
  go_enter Try.func49, Try.ntmps49
  go_wp2_with (first | ((with_reducible refine gate_dst (N := 5) rfl ?_); refine Kd.R_lit (Kd.int .u8) _ 5 ?hg (N := 5) ?hd (xs := ([] : List Int)) (inner := []) (ok := fun _ => True) (okp := fun _ => True) ?hr ?hp (fun _ hk => hk) trivial (Below.refl _ _) (Nat.le_refl _) (by simp) ?_; (case hd => rfl); (case hg => rfl); (case hr => first | (go_simp; done) | (go_simp; rfl)); (case hp => exact (Reps.none _ _)); intro v102 w2 ho3 hb hg_ hnew_; clear hg_ hnew_; (first | rw [← Ny101.out] at ho3 | (simp only [Int.reduceToNat] at ho3; rw [← Ny101.out] at ho3)); have n0_ := Aside0.mk (Kd.R_lower ho3 (below_size (by repeat (first | (with_reducible first | exact HB.out | apply below_alloc | apply pw_below_drewN | apply below_drew1) | exact HB.out)))); have n1_ := Aside0.mk (below_step (by repeat (first | (with_reducible first | exact HB.out | apply below_alloc | apply pw_below_drewN | apply below_drew1) | exact HB.out)) hb); clear HB; have HO103 := n0_; have HB := n1_; clear n0_ n1_; clear hb ho3))
  go_loopg [3, 4] k (fun kq v3 v4 w' => ∃ (x3_1 : List Int) (x4_1 : Int), v4 = .int .i64 x4_1 ∧ Aside0 (spec_l1Zeros.l0 kq a0 x3_1 x4_1 = some r) ∧ Aside0 (kq ≤ k) ∧ Aside0 (Kd.R (Kd.int .u8) 5 w' w.heap.size (fun _ => True) v3 x3_1) ∧ Aside0 (Below w.heap.size w w'))
  case atStart => exact ⟨(y101), (0), (by first | rfl | (simp; done) | (simp [*]; done)), H', ⟨Nat.le_refl _⟩, ⟨by (with_reducible repeat (first | apply Kd.R_alloc | apply Kd.R_drewN | apply Kd.R_drew)); exact HO103.out⟩, ⟨by repeat (first | (with_reducible first | exact HB.out | apply below_alloc | apply pw_below_drewN | apply below_drew1) | exact HB.out)⟩⟩
  case round =>
    clear H'
    try clear p2
    obtain ⟨x3_1, x4_1, rfl, HA, HK1, HO_3, HB⟩ := hrel
    cases gk with
    | zero => exact absurd HA.out (by simp [spec_l1Zeros.l0])
    | succ k1 =>
      have H := HA.out
      clear HA
      simp only [spec_l1Zeros.l0] at H
      by_cases c4 : x4_1 < a0
      · rw [if_pos c4] at H
        have c4b0 : decide (x4_1 < a0) = true := decide_eq_true c4
        clear c4
        by_cases c5 : x3_1.length < 140737488355328
        · rw [if_pos c5] at H
          have LMc5 := Aside0.mk c5
          clear c5
          obtain ⟨y104, hy104⟩ : ∃ y_ : List Int, y_ = (x3_1 ++ [0]) := ⟨_, rfl⟩
          replace H : (spec_l1Zeros.l0 k1 a0 y104 (wrap64 (x4_1 + 1))) = some r := by first | (rw [hy104]; with_reducible exact H) | (have H2_ := (Option.bind_some _ _).symm.trans H; rw [hy104]; with_reducible exact H2_) | (have H2_ := (Option.bind_some _ _).symm.trans H; with_reducible exact H2_) | with_reducible exact H | (rw [hy104]; exact H) | exact H
          have Ny104 := Aside0.mk hy104
          clear hy104
          have H' := Aside0.mk H
          clear H
          go_wp2_with (first | ((with_reducible refine gate_builtin (b := .append) (xs := #[.tmp 11, .tmp 12]) rfl ?_); at_builtin; refine Kd.R_append (Kd.int .u8) (w0 := w) w.heap.size rfl (.tmp 11) (.tmp 12) 25 5 (.int .u8 0) 1 rfl Try.underlying25 info5 rfl (by decide) (by omega) u3 x3_1 0 [.int .u8 0] (fun _ => True) (fun _ => False) rfl rfl ?aP (fun _ hk => hk.elim) ?aF ?aO ?aB ?aS ?aL ?_; (case aP => exact rfl); (case aB => exact (by repeat (first | (with_reducible first | exact HB.out | apply below_alloc | apply pw_below_drewN | apply below_drew1) | exact HB.out))); (case aF => exact (fun _ _ => trivial)); (case aO => exact (by (with_reducible repeat (first | apply Kd.R_alloc | apply Kd.R_drewN | apply Kd.R_drew)); exact HO_3.out)); (case aS => exact (below_size (by repeat (first | (with_reducible first | exact HB.out | apply below_alloc | apply pw_below_drewN | apply below_drew1) | exact HB.out)))); (case aL => have := LMc5.out; omega); intro v105 w6 ho hb hg hat; rw [← Ny104.out] at ho; have n0_ := Aside0.mk (hb); have n1_ := Aside0.mk (ho); clear HB; clear HO_3; have HB := n0_; have HO106 := n1_; clear n0_ n1_; clear ho hb hg hat))
          go_roundg k1
          case measure => have := HK1.out; omega
          case rel => exact ⟨(y104), (wrap64 (x4_1 + 1)), (by first | rfl | (simp; done) | (simp [*]; done)), H', ⟨by have := HK1.out; omega⟩, ⟨by (with_reducible repeat (first | apply Kd.R_alloc | apply Kd.R_drewN | apply Kd.R_drew)); exact HO106.out⟩, ⟨by repeat (first | (with_reducible first | exact HB.out | apply below_alloc | apply pw_below_drewN | apply below_drew1) | exact HB.out)⟩⟩
        · rw [if_neg c5] at H
          exact absurd H (by simp)
      · rw [if_neg c4] at H
        have c4b0 : decide (x4_1 < a0) = false := decide_eq_false c4
        clear c4
        obtain rfl := Option.some.inj H
        go_wp2
        go_ret
        exact ⟨_, by first | rfl | (simp [errW_none, errW_some] <;> rfl) | (simp [*, errW_none, errW_some] <;> rfl), by (with_reducible repeat (first | apply Kd.R_alloc | apply Kd.R_drewN | apply Kd.R_drew)); exact HO_3.out, by repeat (first | (with_reducible first | exact HB.out | apply below_alloc | apply pw_below_drewN | apply below_drew1) | exact HB.out)⟩

end Go.Proofs.Ytgfadfahbhcllaa.Q
namespace Go.Proofs.Ytgfadfahbhcllaa.P
open Go.RowKit Go.Proofs.YtgfadfahbhcllaaW.PrintWords Go.Proofs.YtgfadfahbhcllaaW.PrintMore Go.Proofs.Ytgfadfahbhcllaa.Q
set_option linter.unusedVariables false
set_option linter.unusedSimpArgs false
theorem four_is (x : Int) (h : 0 ≤ x ∧ x ≤ 4294967295) : spec_l2Four.f x = some (leB 4 x) := by
  unfold spec_l2Four.f
  show some _ = some [x / 2 ^ (8 * 0) % 256, x / 2 ^ (8 * 1) % 256, x / 2 ^ (8 * 2) % 256, x / 2 ^ (8 * 3) % 256]
  rw [Int.tmod_eq_emod_of_nonneg h.1, Int.tdiv_eq_ediv_of_nonneg h.1, Int.tdiv_eq_ediv_of_nonneg h.1, Int.tdiv_eq_ediv_of_nonneg h.1]
  congr 1
  simp only [List.cons.injEq, and_true]
  refine ⟨?_, ?_, ?_, ?_⟩
  · show x % 256 % 256 = x / 1 % 256; omega
  · show x / 256 % 4294967296 % 256 = x / 256 % 256; omega
  · show x / 65536 % 4294967296 % 256 = x / 65536 % 256; omega
  · show x / 16777216 % 4294967296 % 256 = x / 16777216 % 256; omega
theorem zeros_ev (n : Nat) (h : n ≤ 1048576) : Ev (fun k => spec_l1Zeros.f k n) (List.replicate n 0) := by
  simp only [spec_l1Zeros.f]
  have h1 := Ev.loop0 (fun k (s : List Int × Int) => spec_l1Zeros.l0 k n s.1 s.2) (fun i => (List.replicate i 0, (i : Int))) n (List.replicate n 0) ?_ ?_
  · exact h1
  · intro i hi
    refine ⟨0, fun k _ => ?_⟩
    simp only [spec_l1Zeros.l0]
    rw [if_pos (by omega), if_pos (by rw [List.length_replicate]; omega), w64s hi (by omega), List.replicate_succ']
  · refine Ev.last ⟨0, fun k _ => ?_⟩
    simp only [spec_l1Zeros.l0]
    rw [if_neg (by omega)]
theorem cat_ev (ls : List (List Int)) (hl : ls.length ≤ 1048576) (h : ls.flatten.length ≤ 1048576) : Ev (fun k => spec_l2Cat.f k ls) ls.flatten := by
  simp only [spec_l2Cat.f]
  have h1 := Ev.loop0 (fun k (s : List Int × Int) => spec_l2Cat.l0 k ls s.1 s.2) (fun i => ((ls.take i).flatten, (i : Int))) ls.length ls.flatten ?_ ?_
  · exact h1
  · intro i hi
    refine ⟨0, fun k _ => ?_⟩
    obtain ⟨p, hp⟩ := some_at hi
    have e : ls.getD (i : Int).toNat [] = p := by
      rw [Int.toNat_natCast, List.getD_eq_getElem?_getD, hp]
      rfl
    have e2 : (ls.take (i + 1)).flatten = (ls.take i).flatten ++ p := by
      rw [List.take_add_one, hp]
      simp
    have e3 : (ls.take (i + 1)).flatten.length ≤ ls.flatten.length := by
      conv => rhs; rw [← List.take_append_drop (i + 1) ls]
      rw [List.flatten_append, List.length_append]
      omega
    rw [e2, List.length_append] at e3
    simp only [spec_l2Cat.l0]
    first | unfold rd_L1 | unfold rd_L2 | unfold rd_L3 | unfold rd_L4 | unfold rd_L5 | unfold rd_L8 | unfold rd_L14
    rw [e, if_pos (by omega), if_pos (by omega), if_pos (by omega), w64s hi (by omega), e2]
  · refine Ev.last ⟨0, fun k _ => ?_⟩
    simp only [spec_l2Cat.l0]
    rw [if_neg (by omega), List.take_length]
end Go.Proofs.Ytgfadfahbhcllaa.P
namespace Go.Proofs.Ytgfadfahbhcllaa.Q
open Go.RowKit Go.Proofs.YtgfadfahbhcllaaW.PrintWords Go.Proofs.YtgfadfahbhcllaaW.PrintLast Go.Proofs.YtgfadfahbhcllaaW.PrintMore Go.Proofs.Ytgfadfahbhcllaa.LK
set_option linter.unusedVariables false
theorem C_cells {k : IntKind} {w w' : World} {A : Option Addr} {n : Nat} {xs : List Int} (h : Kd.C (Kd.int k) w A n xs) (hc : ∀ a v, w.cell? a = some v → w'.cell? a = some v) : Kd.C (Kd.int k) w' A n xs := by
  obtain ⟨h1, h2, h3⟩ := Kd.reads_of_C (enc := Value.int k) (d := (0 : Int)) (h1 := fun _ => rfl) h
  refine Kd.C_of_reads (h1 := fun _ => rfl) (d := (0 : Int)) ⟨h1, h2, fun hp => ?_⟩
  obtain ⟨ad, e, hj⟩ := h3 hp
  exact ⟨ad, e, fun j hjn => hc _ _ (hj j hjn)⟩
theorem cells_of_blocks {w w' : World} (hb : ∀ k, k < w.heap.size → w'.heap[k]? = w.heap[k]?) : ∀ a v, w.cell? a = some v → w'.cell? a = some v := fun a v h => by
  have hlt := World.block_lt_of_cell? w a h
  rw [World.cell?_of_block (hb _ hlt)]
  exact h
theorem cells_of_mark {w w' : World} {g : Nat} {cs : Array Value} {e : Nat} {fr fr' : Nat × Nat} (hS : Stp (fun k => k = g) w w') (h1 : w.heap[g]? = some (.cells cs e fr)) (h2 : w'.heap[g]? = some (.cells cs e fr')) : ∀ a v, w.cell? a = some v → w'.cell? a = some v := fun a v h => by
  have hlt := World.block_lt_of_cell? w a h
  by_cases hg : a.block = g
  · rw [← h]
    unfold World.cell?
    rw [hg, h1, h2]
  · rw [World.cell?_of_block (hS.block _ hlt hg)]
    exact h
/-- A row of bytes that is read. -/
def RdP (w : World) (v : Value) (xs : List Int) : Prop := ∃ A c, v = .slice A xs.length c ∧ xs.length ≤ c ∧ Kd.C (Kd.int .u8) w A xs.length xs
theorem RdP.cells {w w' : World} {v : Value} {xs : List Int} (h : RdP w v xs) (hc : ∀ a v, w.cell? a = some v → w'.cell? a = some v) : RdP w' v xs := by
  obtain ⟨A, c, e, hl, hC⟩ := h
  exact ⟨A, c, e, hl, C_cells hC hc⟩
theorem RdP.below {w w' : World} {v : Value} {xs : List Int} (h : RdP w v xs) (hb : Below w.heap.size w w') : RdP w' v xs := h.cells (cells_of_blocks (fun k hk => hb.block k hk))
theorem RdP.of_R {e base : Nat} {ok : Nat → Prop} {w : World} {v : Value} {xs : List Int} (h : Kd.R (Kd.int .u8) e w base ok v xs) : RdP w v xs := by
  obtain ⟨A, c, rfl⟩ := Kd.R_slice h
  have h2 := Kd.R_reads' h
  exact ⟨A, c, rfl, h2.2.1, h2.2.2⟩
theorem RdP.FK {w : World} {A : Option Addr} {c : Nat} {xs : List Int} (hl : xs.length ≤ c) (h : Kd.C (Kd.int .u8) w A xs.length xs) : Kd.FK (Kd.slice 5 (Kd.int .u8)) w (fun _ => True) xs [.slice A xs.length c] :=
  Kd.FK_slice_mk hl (fun W' hW => C_cells h (cells_of_blocks (fun k hk => hW k trivial hk)))
/-- A literal's row of bytes, marked or not. -/
def LitP (base : Nat) (w : World) (v : Value) (xs : List Int) : Prop := ∃ g c tl fr, v = .slice (some ⟨g, 0, none⟩) xs.length c ∧ xs.length ≤ c ∧ c ≤ 9223372036854775807 ∧ base ≤ g ∧ w.heap[g]? = some (.cells (bytesV xs ++ tl).toArray 5 fr)
theorem LitP.below {base : Nat} {w w' : World} {v : Value} {xs : List Int} (h : LitP base w v xs) (hb : Below w.heap.size w w') : LitP base w' v xs := by
  obtain ⟨g, c, tl, fr, e, hl, hm, hg, hh⟩ := h
  exact ⟨g, c, tl, fr, e, hl, hm, hg, (hb.block g (blk_lt hh)).trans hh⟩
theorem LitP.of_R {base base' : Nat} {ok : Nat → Prop} {w : World} {v : Value} {xs : List Int} (h : Kd.R (Kd.int .u8) 5 w base ok v xs) (hp : 0 < xs.length) (hb : base' ≤ base) : LitP base' w v xs := by
  obtain ⟨A, c, rfl⟩ := Kd.R_slice h
  obtain ⟨B, tl, rfl, _, e, h1, _, _, h2, h3⟩ := R_block h hp
  exact ⟨B, c, tl, _, rfl, by omega, h3, by omega, h2⟩
theorem LitP.rd {base : Nat} {w : World} {v : Value} {xs : List Int} (h : LitP base w v xs) : RdP w v xs := by
  obtain ⟨g, c, tl, fr, rfl, hl, hm, hg, hh⟩ := h
  refine ⟨_, c, rfl, hl, Kd.C_of_reads (h1 := fun _ => rfl) (d := (0 : Int)) ⟨rfl, by omega, fun _ => ⟨_, rfl, fun j hj => ?_⟩⟩⟩
  have hj' : j < xs.length := hj
  have e1 : (Addr.mk g 0 none).add j = ⟨g, j, none⟩ := by
    unfold Addr.add
    by_cases h0 : j = 0
    · rw [if_pos h0, h0]
    · rw [if_neg h0, Nat.zero_add]
  rw [e1, cell_of_row w g j _ _ _ hh]
  unfold bytesV
  simp [List.getD_eq_getElem?_getD, List.getElem?_append_left, hj']
theorem LitP.mark {base : Nat} {w w' : World} {v : Value} {xs : List Int} (h : LitP base w v xs) {g : Nat} {cs : Array Value} {e : Nat} {fr fr' : Nat × Nat} (hS : Stp (fun k => k = g) w w') (h1 : w.heap[g]? = some (.cells cs e fr)) (h2 : w'.heap[g]? = some (.cells cs e fr')) : LitP base w' v xs := by
  obtain ⟨g', c, tl, fr2, ev, hl, hm, hg, hh⟩ := h
  by_cases hgg : g' = g
  · subst hgg
    rw [h1] at hh
    injection hh with hh
    injection hh with e1 e2 e3
    subst e1 e2
    exact ⟨g', c, tl, fr', ev, hl, hm, hg, h2⟩
  · exact ⟨g', c, tl, fr2, ev, hl, hm, hg, (hS.block g' (blk_lt hh) hgg).trans hh⟩
/-- A conversion of a slice of bytes to its own type marks its row. -/
theorem conv_mark {P : Program} {t e : TypeId} (ht : P.underlying t = some (.slice e)) (he : P.underlying e = some (.int .u8)) {w : World} {g n c : Nat} {cs : Array Value} {q : Nat} {fr : Nat × Nat} (hg : w.heap[g]? = some (.cells cs q fr)) :
    ∃ w', (convert t t (.slice (some ⟨g, 0, none⟩) n c)).run P w = .ok (.slice (some ⟨g, 0, none⟩) n c) w' ∧ Stp (fun k => k = g) w w' ∧ ∃ fr', w'.heap[g]? = some (.cells cs q fr') := by
  have hsh : w.shape? g = some (q, cs.size) := by unfold World.shape?; rw [hg]
  refine ⟨w.freeze ⟨g, cs.size, none⟩ 1, ?_, ?_, ?_⟩
  · simp [convert, run_underlying ht, run_underlying he, markStringish, hsh]
  · unfold World.freeze
    rw [if_neg (by decide)]
    exact ⟨rfl, rfl, rfl, by simp, fun i _ hn => by show (w.heap.modify g _)[i]? = _; rw [Array.getElem?_modify, if_neg (fun h => hn h.symm)]⟩
  · unfold World.freeze
    rw [if_neg (by decide)]
    obtain ⟨lo, hi⟩ := fr
    refine ⟨if lo == hi then (cs.size, cs.size + 1) else (min lo cs.size, max hi (cs.size + 1)), ?_⟩
    show (w.heap.modify g _)[g]? = _
    rw [Array.getElem?_modify, if_pos rfl, hg]
    rfl
theorem Bx_mark {w0 W W' : World} {l : List (Nat × Array Value × Nat)} {g : Nat} {cs : Array Value} {e : Nat} {fr : Nat × Nat} (h : Bx w0 l W) (hS : Stp (fun k => k = g) W W') (hg : w0.heap.size ≤ g) (h1 : W.heap[g]? = some (.cells cs e fr)) (ht : ∀ b ∈ l, b.2.2 ≠ e) : Bx w0 l W' :=
  h.stp hS (fun k hk => by rw [hk]; exact hg) (fun b hb he => by
    have h2 := (h.at_ b hb).2
    have h3 : b.1 = g := he
    rw [h3, h1] at h2
    injection h2 with h2
    injection h2 with _ h2 _
    exact ht b hb h2.symm)
/-- A row of rows of bytes that is read. -/
def RowsP (w : World) (v : Value) (xss : List (List Int)) : Prop := ∃ A c, v = .slice A xss.length c ∧ xss.length ≤ c ∧ Kd.C (Kd.slice 5 (Kd.int .u8)) w A xss.length xss
theorem RowsP.below {w w' : World} {v : Value} {xss : List (List Int)} (h : RowsP w v xss) (hb : Below w.heap.size w w') : RowsP w' v xss := by
  obtain ⟨A, c, e, hl, hC⟩ := h
  exact ⟨A, c, e, hl, Kd.C_below hC hb⟩
theorem RowsP.of_N {e base : Nat} {ok : Nat → Prop} {w : World} {v : Value} {xss : List (List Int)} (h : Kd.N (Kd.slice 5 (Kd.int .u8)) e w base ok v xss) : RowsP w v xss := by
  obtain ⟨A, c, rfl⟩ := Kd.N_slice h
  have h2 := Kd.N_reads' h
  exact ⟨A, c, rfl, h2.2.1, h2.2.2⟩
end Go.Proofs.Ytgfadfahbhcllaa.Q
