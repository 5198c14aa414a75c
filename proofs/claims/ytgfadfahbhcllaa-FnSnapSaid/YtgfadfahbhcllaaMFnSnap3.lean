/- Part 3 of 9 of the proof that the law FnSnap returns true at every input. No further condition. -/
import Derived.Test.YtgfadfahbhcllaaMFnSnap2
section
namespace Go.Proofs.Ytgfadfahbhcllaa.Q
open Go.RowKit Go.Proofs.YtgfadfahbhcllaaW.PrintWords Go.Proofs.YtgfadfahbhcllaaW.PrintLast Go.Proofs.YtgfadfahbhcllaaW.PrintMore Go.Proofs.Ytgfadfahbhcllaa.LK
set_option linter.unusedVariables false
set_option linter.unusedSimpArgs false
section
variable {P : Program} {ops : Array Oper} {rest : List Oper} {o : Oper} {a : Act} {Q : Exit → Act → World → Prop} {K : Act → World → Prop} {W : World}
theorem mkS {N : Tmp} {cs : Array Value} {t : Nat} (hw : Region.wanted o (yielded ops a.tmps) = true) (_hd : o.dst = some N)
  (hrun : (execOp a.eval o).run P W = .ok (.value (.slice (some ⟨W.heap.size, 0, none⟩) cs.size cs.size)) (W.alloc (.cells cs t (0, 0))))
  (h : ∀ g, g = W.heap.size → ∀ w1, w1.heap[g]? = some (.cells cs t (0, 0)) → Below W.heap.size W w1 → wpList P ops Q rest (a.put o.dst (.slice (some ⟨g, 0, none⟩) cs.size cs.size)) w1) : wpList P ops Q (o :: rest) a W := by
 refine wants hw fun K hK => ?_
 unfold Oper.wp
 rw [hrun]
 exact hK _ _ (h _ rfl _ (blk_new W _) (below_alloc (Below.refl _ _) _))
theorem st_part_step {T g o' t : Nat} {p x : Operand} {cur : Array Value} {u : Value} {seg : List Value} (hw : Region.wanted o (yielded ops a.tmps) = true) (hN : o.dst = none) (ho : o.op = .store T p x)
  (hp : a.eval p = .pointer (some ⟨g, o', none⟩)) (hx : a.eval x = u) (hu : u.cells.toList = seg) (hh : W.heap[g]? = some (.cells cur t (0, 0))) (ht : (P.info? T).map (·.size) = some seg.length)
  (hfit : o' + seg.length ≤ cur.size) (h1 : ∀ q ∈ seg, q.oneCell' = true)
  (h : ∀ w1, w1.heap[g]? = some (.cells (cur.toList.take o' ++ seg ++ cur.toList.drop (o' + seg.length)).toArray t (0, 0)) → Stp (fun k => k = g) W w1 → K a w1) : if Region.wanted o (yielded ops a.tmps) = true then Oper.wp P o a W K Q else K (a.put none undef) W := by
 rw [if_pos hw]
 obtain ⟨cur', h3, _, h5⟩ := setCells_row seg o' W cur hh hfit
 obtain ⟨s1, s2, s3, s4⟩ := setCells_same g seg o' W
 unfold Oper.wp execOp
 simp only [ho, hp, hx, Sem.run_bind, Sem.run_pure, Result.andThen_ok, run_store_run T u seg hh hu ht hfit h1]
 show K (a.put o.dst undef) _
 rw [hN]
 refine h _ ?_ ⟨s1, s2, s3, Nat.le_of_eq s4.symm, fun i _ hi => setCells_far seg o' i hi⟩
 rw [← h5]
 exact h3
end
theorem lit_at {g : Nat} {W : World} {e : Nat} (h : W.heap[g]? = some (.cells #[.int .i64 0, .int .i64 60, .int .i64 64, .int .i64 124] e (0, 0))) {i : Nat} (hi : i < 4) : W.cell? ⟨g, i, none⟩ = some (.int .i64 (P.ats i : Nat)) := by
 refine (blk_cell h i).trans ?_
 rcases (show i = 0 ∨ i = 1 ∨ i = 2 ∨ i = 3 from by omega) with rfl | rfl | rfl | rfl <;> rfl
theorem sA_length (g : Int) (i : Nat) : (P.sA g i).length = 128 := by
 have h : ∀ j, (P.gi g i j).length = 4 := fun j => by unfold P.gi; split; exact P.leB_length _ _; rfl
 unfold P.sA P.snapP
 simp only [List.length_append, h, List.length_cons, List.length_nil, List.length_replicate, P.Z32, P.Z16]
theorem ats_fit {i : Nat} (hi : i < 4) : P.ats i + 4 ≤ 128 := by
 rcases (show i = 0 ∨ i = 1 ∨ i = 2 ∨ i = 3 from by omega) with rfl | rfl | rfl | rfl <;> decide
structure SnapOk (g t : Int) (xs u : List Int) : Prop where
 g : 0 ≤ g ∧ g ≤ 4294967295
 t : 0 ≤ t ∧ t ≤ 4294967295
 xs : P.goodS xs = true ∧ xs.length ≤ 16
 u : P.goodS u = true ∧ u.length ≤ 256
theorem take_new {u : List Int} (h : P.goodS u = true) {i : Nat} (hi : i < u.length) : rd u i ∉ u.take i := by
 intro hm
 obtain ⟨j, hj, e⟩ := P.mem_rd hm
 rw [List.length_take] at hj
 have e2 : rd (u.take i) (j : Int) = rd u (j : Int) := by
  obtain ⟨b, hb⟩ := P.some_at (xs := u) (i := j) (by omega)
  rw [P.rd_at hb, P.rd_at (a := b) (by rw [List.getElem?_take, if_pos (by omega), hb])]
 have := P.goodS_lt h i j (by omega) hi
 rw [e2] at e
 omega
theorem take_snoc {u : List Int} {i : Nat} (hi : i < u.length) : u.take (i + 1) = u.take i ++ [rd u i] := by
 obtain ⟨b, hb⟩ := P.some_at hi
 rw [List.take_add_one, hb, P.rd_at hb]
 rfl
set_option maxHeartbeats 8000000 in
set_option maxRecDepth 100000 in
theorem snap_code_calls {A0 : Option Addr} {c0 : Nat} {xs : List Int} {A1 : Option Addr} {c1 : Nat} {u : List Int} {g t : Int} {w : World} (hr0 : Kd.C (Kd.int .i64) w A0 xs.length xs) (hc0 : xs.length ≤ c0) (hr1 : Kd.C (Kd.int .i64) w A1 u.length u) (hc1 : u.length ≤ c1) (hok : SnapOk g t xs u) :
  Calls Try.prog 68 #[.agg #[.int .u32 g, .int .u32 t, .slice A0 xs.length c0, .slice A1 u.length c1]] w fun e w' => e = .returned (.agg (bytesV (P.snapCode g t xs u)).toArray) ∧ Below w.heap.size w w' := by
 have jg : IntKind.u64.wrap g = g := by have := hok.g; rw [IntKind.wrap_u64]; omega
 have jt : IntKind.u64.wrap t = t := by have := hok.t; rw [IntKind.wrap_u64]; omega
 have jn : IntKind.u8.wrap (xs.length : Int) = (xs.length : Int) % 256 := by rw [IntKind.wrap_u8]
 obtain ⟨n, hn⟩ : ∃ n, n = (xs.length : Int) % 256 := ⟨_, rfl⟩
 rw [← hn] at jn
 have hcr := P.crc32_range (P.snapHead g n t u xs)
 obtain ⟨c, hc⟩ : ∃ c, c = P.crc32 (P.snapHead g n t u xs) := ⟨_, rfl⟩
 rw [← hc] at hcr
 unfold P.U32 at hcr
 have jc : IntKind.u64.wrap c = c := by rw [IntKind.wrap_u64]; omega
 obtain ⟨kc, hkc⟩ := (P.impl_Crc32_ev (P.snapHead g n t u xs) (by rw [P.snapHead_length]; decide)).ex
 rw [← hc] at hkc
 have HKC := Aside0.mk hkc
 have HC := Aside0.mk hc
 have HN := Aside0.mk hn
 have HCr := Aside0.mk hcr
 have HR0 := Aside0.mk hr0
 have HR1 := Aside0.mk hr1
 have HOk := Aside0.mk hok
 have H0 := Aside0.mk (Bx.refl w)
 clear hr0 hc0 hr1 hc1 hok hn hc hcr hkc
 go_enter Try.func68, Try.ntmps68
 go_wp2_with (first | ((with_reducible refine gate_dst (N := 1) rfl ?_); refine Aside0.out ?_))
 refine Aside0.mk ?_
 refine mk ?hw1 (N := 1) ?hd1 (cs := #[.int .u32 g, .int .u32 t, .slice A0 xs.length c0, .slice A1 u.length c1]) (t := 44) ?hr1 ?_
 case hd1 => rfl
 case hw1 => rfl
 case hr1 => first | (go_simp; done) | (go_simp; rfl)
 intro g1 hg1_ w101 hb1 hB1
 have H102 := Aside0.mk (H0.out.new hg1_ hb1 hB1)
 clear hg1_ hb1 hB1 H0
 go_wp2_with (first | ((with_reducible refine gate_dst (N := 2) rfl ?_); refine Aside0.out ?_))
 refine Aside0.mk ?_
 refine mk ?hw3 (N := 2) ?hd3 (cs := (bytesV (List.replicate 128 0)).toArray) (t := 98) ?hr3 ?_
 case hd3 => rfl
 case hw3 => rfl
 case hr3 => first | (go_simp; done) | (go_simp; rfl)
 intro g2 hg2_ w103 hb3 hB3
 have H104 := Aside0.mk (H102.out.new hg2_ hb3 hB3)
 clear hg2_ hb3 hB3 H102
 go_wp2_with (first | ((with_reducible refine gate_dst (N := 3) rfl ?_); refine Aside0.out ?_))
 refine Aside0.mk ?_
 refine mk ?hw5 (N := 3) ?hd5 (cs := (bytesV (P.sA g 0)).toArray) (t := 98) ?hr5 ?_
 case hd5 => rfl
 case hw5 => rfl
 case hr5 => first | (go_simp; done) | (go_simp; rfl)
 intro g3 hg3_ w105 hb5 hB5
 have H106 := Aside0.mk (H104.out.new hg3_ hb5 hB5)
 clear hg3_ hb5 hB5 H104
 go_wp2_with (first | ((with_reducible refine gate_dst (N := 10) rfl ?_); refine Aside0.out ?_))
 refine Aside0.mk ?_
 refine mkS ?hw7 (N := 10) ?hd7 (cs := #[.int .i64 0, .int .i64 60, .int .i64 64, .int .i64 124]) (t := 3) ?hr7 ?_
 case hd7 => rfl
 case hw7 => rfl
 case hr7 => first | (go_simp; done) | (go_simp; rfl)
 intro gl hgl_ w107 hb7 hB7
 have H108 := Aside0.mk (H106.out.new hgl_ hb7 hB7)
 clear hgl_ hb7 hB7 H106
 go_wp2
 go_loopg [12] (4 + 1) (fun kq v_ w' => ∃ (i : Nat) (x : Int) (wl : World), v_ = .int .i64 x ∧ Aside0 (wl = w') ∧ Aside0 (x = (i : Int)) ∧ Aside0 (kq + i = 4 + 1) ∧ Aside0 (i ≤ 4) ∧ Aside0 (Bx w [(gl, #[.int .i64 0, .int .i64 60, .int .i64 64, .int .i64 124], 3), (g3, (bytesV (P.sA g i)).toArray, 98), (g2, (bytesV (List.replicate 128 0)).toArray, 98), (g1, #[.int .u32 g, .int .u32 t, .slice A0 xs.length c0, .slice A1 u.length c1], 44)] w'))
 case atStart => exact ⟨0, 0, _, rfl, ⟨rfl⟩, ⟨rfl⟩, ⟨by omega⟩, ⟨Nat.zero_le _⟩, H108⟩
 case round =>
  clear H108
  obtain ⟨i, x, wl, rfl, hwl, HE, HK, HI, HX⟩ := hrel
  obtain ⟨hwl⟩ := hwl
  subst hwl
  have he := HE.out
  cases gk with
  | zero => exact absurd HK.out (by have := HI.out; omega)
  | succ k1_ =>
   by_cases c3 : i < 4
   ·have C3 := Aside0.mk c3
    have c3b : decide (x < (4 : Int)) = true := decide_eq_true (by omega)
    have p5 : (0 ≤ x) = True := eq_true (by omega)
    have q5 : (x < (4 : Int)) = True := eq_true (by omega)
    have jx : IntKind.i64.wrap (x + 1) = x + 1 := by rw [IntKind.wrap_i64]; have := HOk.out.u.2; have := HOk.out.xs.2; omega
    have HAt := Aside0.mk (ats_fit c3)
    have he0 : wl.cell? ⟨gl, x.toNat, none⟩ = some (.int .i64 (P.ats i : Nat)) := by rw [show x.toNat = i from by omega]; exact lit_at HX.out.gt0 c3
    obtain ⟨at_, hat⟩ : ∃ at_ : Int, at_ = ((P.ats i : Nat) : Int) := ⟨_, rfl⟩
    rw [← hat] at he0
    have HAT := Aside0.mk hat
    clear c3 he hat
    go_wp2
    clear he0
    have H110 := Aside0.mk HX.out.drew
    refine start_ (n := 6) (S := fun w' => w'.cell? ⟨g1, 0, none⟩ = some (.int .u32 g)) (ds := [5]) #[false, false, false, false, false, false] (by kernel_rfl) rfl rfl ((blk_cell H110.out.gt3 0).trans rfl) (fun hHeld => ?_)
    clear HX
    generalize wl.drew = w109 at H110 hHeld ⊢
    refine pure_ (i := 0) (N := some 16) (v := ?_) (a' := ?_) #[true, false, false, false, false, false] rfl rfl (by kernel_rfl) (fun _ _ _ h => h) (Or.inl ⟨by rfl, ?_⟩) ?_ ?_
    rotate_left
    ·intro w'
     go_simp
     with_reducible rfl
    rotate_left
    ·simp only [Act.put, List.setIfInBounds_toArray, List.set_cons_zero, List.set_cons_succ, i64_w, i32_w]
     rfl
    refine pure_ (i := 1) (N := some 17) (v := ?_) (a' := ?_) #[true, true, false, false, false, false] rfl rfl (by kernel_rfl) (fun _ _ _ h => h) (Or.inl ⟨by rfl, ?_⟩) ?_ ?_
    rotate_left
    ·intro w'
     go_simp
     with_reducible rfl
    rotate_left
    ·simp only [Act.put, List.setIfInBounds_toArray, List.set_cons_zero, List.set_cons_succ, i64_w, i32_w]
     rfl
    refine pure_ (i := 2) (N := some 18) (v := ?_) (a' := ?_) #[true, true, true, false, false, false] rfl rfl (by kernel_rfl) (fun _ _ _ h => h) (Or.inl ⟨by rfl, ?_⟩) ?_ ?_
    rotate_left
    ·intro w'
     go_simp
     with_reducible rfl
    rotate_left
    ·simp only [Act.put, List.setIfInBounds_toArray, List.set_cons_zero, List.set_cons_succ, i64_w, i32_w]
     rfl
    refine take_ (i := 3) (N := some 19) (v := ?_) (a' := ?_) #[true, true, true, true, false, false] rfl rfl (by kernel_rfl) (fun _ _ _ h => h) (Or.inl ⟨by rfl, ?_⟩) hHeld ?_ ?_
    rotate_left
    ·rintro w' s0
     go_simp
     with_reducible rfl
    rotate_left
    ·simp only [Act.put, List.setIfInBounds_toArray, List.set_cons_zero, List.set_cons_succ, i64_w, i32_w]
     rfl
    refine pure_ (i := 4) (N := some 20) (v := ?_) (a' := ?_) #[true, true, true, true, true, false] rfl rfl (by kernel_rfl) (fun _ _ _ h => h) (Or.inl ⟨by rfl, ?_⟩) ?_ ?_
    rotate_left
    ·intro w'
     go_simp
     with_reducible rfl
    rotate_left
    ·simp only [Act.put, List.setIfInBounds_toArray, List.set_cons_zero, List.set_cons_succ, i64_w, i32_w]
     rfl
    refine last_ (i := 5) (N := some 21) #[true, true, true, true, true, true] rfl rfl (by kernel_rfl) (by decide) (fun K hK => ?_)
    have hat := HAT.out
    subst hat
    refine goes_ Try.func88 (by kernel_rfl) rfl #[.slice (some ⟨g3, 0, none⟩) 128 128, .int .i64 (P.ats i : Nat), .int .i64 4, .int .u64 g] (by rfl) rfl rfl (by (try simp only [List.map_toArray, List.map_cons, List.map_nil]); first | done | rfl) ?_
    have hp_ := put_box (l := P.sA g i) (x := g) (P.ats i) 4 H110.out.below (H110.out.at_ _ (List.mem_cons_of_mem _ (List.mem_cons_self ..))).1 H110.out.gt1 (by have := HOk.out.g; omega) (by decide) (by rw [sA_length]; exact HAt.out) (by rw [sA_length]; decide) (by rw [sA_length]; decide)
    rw [sA_length] at hp_
    refine hp_.mono ?_
    rintro e w111 ⟨rfl, hb11, hS11⟩
    refine ⟨_, rfl, ?_⟩
    clear hp_
    rw [P.sA_step g i C3.out] at hb11
    have H112 := Aside0.mk (H110.out.wr1 (cs' := (bytesV (P.sA g (i + 1))).toArray) hb11 hS11)
    clear hb11 hS11 H110
    refine hK.out _ _ ?_
    clear hK K
    refine done_ (by kernel_rfl) ?_
    try dsimp only
    have HZ := Aside0.mk H112.out
    clear H112
    go_wp2
    go_roundg k1_
    case measure => omega
    case rel => exact ⟨i + 1, x + 1, _, rfl, ⟨rfl⟩, ⟨by rw [HE.out]; rfl⟩, ⟨by have := HK.out; omega⟩, ⟨by have := C3.out; omega⟩, HZ⟩
   ·have c3b : decide (x < (4 : Int)) = false := decide_eq_false (by omega)
    obtain rfl : i = 4 := by have := HI.out; omega
    clear he
    try clear C3
    have HX2 := Aside0.mk (show Bx w [(gl, #[.int .i64 0, .int .i64 60, .int .i64 64, .int .i64 124], 3), (g3, (bytesV (P.sB g [0, 0] [0, 0] 0 [0, 0, 0, 0])).toArray, 98), (g2, (bytesV (List.replicate 128 0)).toArray, 98), (g1, #[.int .u32 g, .int .u32 t, .slice A0 xs.length c0, .slice A1 u.length c1], 44)] wl from P.sA_4 g ▸ HX.out)
    clear HX
    go_wp2_with (first | ((with_reducible refine gate_builtin (b := .copy) (xs := #[.tmp 23, .const (.string ⟨#[83, 49]⟩)]) rfl ?_); refine Aside0.out ?_))
    refine Aside0.mk ?_
    obtain ⟨i5, hi5, _, hsz5, _⟩ := info_parts info5
    refine copy_str rfl (.tmp 23) _ 25 _ rfl 5 Try.underlying25 (fun w_ => by simp [sizeOf, typeInfo, hi5, hsz5, Result.andThen]) g3 4 124 124 rfl _ rfl (by decide) (bytesV (P.sB g [0, 0] [0, 0] 0 [0, 0, 0, 0])) 98 HX2.out.gt1 [83, 49] rfl rfl (by rw [bytesV_length]; show 6 ≤ 128; decide) ?_
    intro w113 hb13 hS13
    rw [show splice (bytesV (P.sB g [0, 0] [0, 0] 0 [0, 0, 0, 0])) 4 (bytesV [83, 49]) = bytesV (P.sB g [83, 49] [0, 0] 0 [0, 0, 0, 0]) from rfl] at hb13
    clear hi5 hsz5
    have H114 := Aside0.mk (HX2.out.wr1 (cs' := (bytesV (P.sB g [83, 49] [0, 0] 0 [0, 0, 0, 0])).toArray) hb13 hS13)
    clear hb13 hS13 HX2
    go_wp2_with (first | ((with_reducible refine gate_builtin (b := .copy) (xs := #[.tmp 25, .const (.string ⟨#[83, 50]⟩)]) rfl ?_); refine Aside0.out ?_))
    refine Aside0.mk ?_
    obtain ⟨i5, hi5, _, hsz5, _⟩ := info_parts info5
    refine copy_str rfl (.tmp 25) _ 25 _ rfl 5 Try.underlying25 (fun w_ => by simp [sizeOf, typeInfo, hi5, hsz5, Result.andThen]) g3 68 60 60 rfl _ rfl (by decide) (bytesV (P.sB g [83, 49] [0, 0] 0 [0, 0, 0, 0])) 98 H114.out.gt1 [83, 50] rfl rfl (by rw [bytesV_length]; show 70 ≤ 128; decide) ?_
    intro w115 hb15 hS15
    rw [show splice (bytesV (P.sB g [83, 49] [0, 0] 0 [0, 0, 0, 0])) 68 (bytesV [83, 50]) = bytesV (P.sB g [83, 49] [83, 50] 0 [0, 0, 0, 0]) from rfl] at hb15
    clear hi5 hsz5
    have H116 := Aside0.mk (H114.out.wr1 (cs' := (bytesV (P.sB g [83, 49] [83, 50] 0 [0, 0, 0, 0])).toArray) hb15 hS15)
    clear hb15 hS15 H114
    have hk2 : w115.cell? ⟨g1, 2, none⟩ = some (.slice A0 xs.length c0) := (blk_cell H116.out.gt3 2).trans rfl
    go_wp2_with (first | ((with_reducible refine gate_store (t := 5) (p := 31) rfl ?_); refine Aside0.out ?_))
    refine Aside0.mk ?_
    refine st (o' := 6) (u := .int .u8 n) (seg := [.int .u8 n]) ?hw17 ?hN17 rfl ?hp17 ?hx17 rfl H116.out.gt1 (by kernel_rfl) (by rw [List.size_toArray, bytesV_length]; show 7 ≤ 128; decide) (by simp [Value.oneCell']) ?_
    case hw17 => rfl
    case hN17 => rfl
    case hp17 => rfl
    case hx17 => rfl
    intro w117 hb17 hS17
    replace hb17 := hb17.trans (congrArg (fun z : List Value => some (Obj.cells z.toArray 98 (0, 0))) (set_seg (l := P.sB g [83, 49] [83, 50] 0 [0, 0, 0, 0]) (i := 6) (x := n) (by show 6 < 128; decide)))
    rw [P.sB_3] at hb17
    clear hk2
    have H118 := Aside0.mk (H116.out.wr1 (cs' := (bytesV (P.sB g [83, 49] [83, 50] n [0, 0, 0, 0])).toArray) hb17 hS17)
    clear hb17 hS17 H116
    try go_wp2
    have H120 := Aside0.mk H118.out.drew
    refine start_ (n := 5) (S := fun w' => w'.cell? ⟨g1, 1, none⟩ = some (.int .u32 t)) (ds := [4]) #[false, false, false, false, false] (by kernel_rfl) rfl rfl ((blk_cell H120.out.gt3 1).trans rfl) (fun hHeld => ?_)
    clear H118
    generalize w117.drew = w119 at H120 hHeld ⊢
    refine pure_ (i := 0) (N := some 32) (v := ?_) (a' := ?_) #[true, false, false, false, false] rfl rfl (by kernel_rfl) (fun _ _ _ h => h) (Or.inl ⟨by rfl, ?_⟩) ?_ ?_
    rotate_left
    ·intro w'
     go_simp
     with_reducible rfl
    rotate_left
    ·simp only [Act.put, List.setIfInBounds_toArray, List.set_cons_zero, List.set_cons_succ, i64_w, i32_w]
     rfl
    refine pure_ (i := 1) (N := some 33) (v := ?_) (a' := ?_) #[true, true, false, false, false] rfl rfl (by kernel_rfl) (fun _ _ _ h => h) (Or.inl ⟨by rfl, ?_⟩) ?_ ?_
    rotate_left
    ·intro w'
     go_simp
     with_reducible rfl
    rotate_left
    ·simp only [Act.put, List.setIfInBounds_toArray, List.set_cons_zero, List.set_cons_succ, i64_w, i32_w]
     rfl
    refine take_ (i := 2) (N := some 34) (v := ?_) (a' := ?_) #[true, true, true, false, false] rfl rfl (by kernel_rfl) (fun _ _ _ h => h) (Or.inl ⟨by rfl, ?_⟩) hHeld ?_ ?_
    rotate_left
    ·rintro w' s0
     go_simp
     with_reducible rfl
    rotate_left
    ·simp only [Act.put, List.setIfInBounds_toArray, List.set_cons_zero, List.set_cons_succ, i64_w, i32_w]
     rfl
    refine pure_ (i := 3) (N := some 35) (v := ?_) (a' := ?_) #[true, true, true, true, false] rfl rfl (by kernel_rfl) (fun _ _ _ h => h) (Or.inl ⟨by rfl, ?_⟩) ?_ ?_
    rotate_left
    ·intro w'
     go_simp
     with_reducible rfl
    rotate_left
    ·simp only [Act.put, List.setIfInBounds_toArray, List.set_cons_zero, List.set_cons_succ, i64_w, i32_w]
     rfl
    refine last_ (i := 4) (N := some 36) #[true, true, true, true, true] rfl rfl (by kernel_rfl) (by decide) (fun K hK => ?_)
    have sBl : ∀ s1 s2 n_ tl_, s1.length = 2 → s2.length = 2 → tl_.length = 4 → (P.sB g s1 s2 n_ tl_).length = 128 := fun s1 s2 n_ tl_ h1 h2 h3 => by unfold P.sB P.snapP; simp only [List.length_append, P.leB_length, h1, h2, h3, List.length_cons, List.length_nil, List.length_replicate, P.Z32, P.Z16]
    refine goes_ Try.func88 (by kernel_rfl) rfl #[.slice (some ⟨g3, 0, none⟩) 128 128, .int .i64 8, .int .i64 4, .int .u64 t] (by rfl) rfl rfl (by (try simp only [List.map_toArray, List.map_cons, List.map_nil]); first | done | rfl) ?_
    have hp_ := put_box (l := P.sB g [83, 49] [83, 50] n [0, 0, 0, 0]) (x := t) (8) 4 H120.out.below (H120.out.at_ _ (List.mem_cons_of_mem _ (List.mem_cons_self ..))).1 H120.out.gt1 (by have := HOk.out.t; omega) (by decide) (by rw [sBl _ _ _ _ rfl rfl rfl]; decide) (by rw [sBl _ _ _ _ rfl rfl rfl]; decide) (by rw [sBl _ _ _ _ rfl rfl rfl]; decide)
    rw [sBl _ _ _ _ rfl rfl rfl] at hp_
    refine hp_.mono ?_
    rintro e w121 ⟨rfl, hb21, hS21⟩
    refine ⟨_, rfl, ?_⟩
    clear hp_
    rw [P.sB_4] at hb21
    have H122 := Aside0.mk (H120.out.wr1 (cs' := (bytesV (P.sB g [83, 49] [83, 50] n (P.leB 4 t))).toArray) hb21 hS21)
    clear hb21 hS21 H120
    refine hK.out _ _ ?_
    clear hK K
    refine done_ (by kernel_rfl) ?_
    try dsimp only
    clear sBl
    have HY := H122.out
    rw [P.sE_0 g n t xs] at HY
    have HX2 := Aside0.mk HY
    clear HY H122
    have hk3 : w121.cell? ⟨g1, 3, none⟩ = some (.slice A1 u.length c1) := (blk_cell HX2.out.gt3 3).trans rfl
    go_wp2
    go_loopg [40] (u.length + 1) (fun kq v_ w' => ∃ (i : Nat) (x : Int) (wl : World), v_ = .int .i64 x ∧ Aside0 (wl = w') ∧ Aside0 (x = (i : Int)) ∧ Aside0 (kq + i = u.length + 1) ∧ Aside0 (i ≤ u.length) ∧ Aside0 (Bx w [(gl, #[.int .i64 0, .int .i64 60, .int .i64 64, .int .i64 124], 3), (g3, (bytesV (P.sE g n t (u.take i) xs 0 [0, 0, 0, 0])).toArray, 98), (g2, (bytesV (List.replicate 128 0)).toArray, 98), (g1, #[.int .u32 g, .int .u32 t, .slice A0 xs.length c0, .slice A1 u.length c1], 44)] w'))
    case atStart => exact ⟨0, 0, _, rfl, ⟨rfl⟩, ⟨rfl⟩, ⟨by omega⟩, ⟨Nat.zero_le _⟩, HX2⟩
    case round =>
     clear HX2
     obtain ⟨i, x, wl, rfl, hwl, HE, HK, HI, HX⟩ := hrel
     obtain ⟨hwl⟩ := hwl
     subst hwl
     have he := HE.out
     cases gk with
     | zero => exact absurd HK.out (by have := HI.out; omega)
     | succ k1_ =>
      by_cases c3 : i < u.length
      ·have C3 := Aside0.mk c3
       have c3b : decide (x < (u.length : Int)) = true := decide_eq_true (by omega)
       have p5 : (0 ≤ x) = True := eq_true (by omega)
       have q5 : (x < (u.length : Int)) = True := eq_true (by omega)
       have jx : IntKind.i64.wrap (x + 1) = x + 1 := by rw [IntKind.wrap_i64]; have := HOk.out.u.2; have := HOk.out.xs.2; omega
       obtain ⟨ad, eA, hcf0⟩ := Kd.at_int HR1.out x (by omega) (by omega)
       subst eA
       replace hcf0 := pw_cell_below HX.out.below hcf0
       obtain ⟨v, hv⟩ : ∃ v, v = rd u x := ⟨_, rfl⟩
       rw [← hv] at hcf0
       rw [he] at hv
       have HV := Aside0.mk hv
       have hvr := P.goodS_mem HOk.out.u.1 (hv ▸ P.rd_mem c3)
       have HVr := Aside0.mk hvr
       have HVn := Aside0.mk (show v ∉ u.take i from hv ▸ take_new HOk.out.u.1 c3)
       obtain ⟨q, hq⟩ : ∃ q, q = v / 8 := ⟨_, rfl⟩
       obtain ⟨r, hr⟩ : ∃ r, r = v % 8 := ⟨_, rfl⟩
       have HQ := Aside0.mk hq
       have HRm := Aside0.mk hr
       have jq : wrap64 q = q := P.w64 (by omega) (by omega)
       have jr : wrap64 r = r := P.w64 (by omega) (by omega)
       have jq2 : Int.tdiv v 8 = q := by rw [Int.tdiv_eq_ediv_of_nonneg hvr.1]; omega
       have jr2 : Int.tmod v 8 = r := by rw [Int.tmod_eq_emod_of_nonneg hvr.1]; omega
       have ja : wrap64 (12 + q) = 12 + q := P.w64 (by omega) (by omega)
       have js : IntKind.u8.wrap ((2 : Int) ^ min r.toNat 8) = 2 ^ r.toNat := by
        rcases (show r = 0 ∨ r = 1 ∨ r = 2 ∨ r = 3 ∨ r = 4 ∨ r = 5 ∨ r = 6 ∨ r = 7 from by omega) with h | h | h | h | h | h | h | h <;> subst h <;> rfl
       have pa : (0 ≤ 12 + q) = True := eq_true (by omega)
       have pb : (12 + q < 128) = True := eq_true (by omega)
       have pr : (0 ≤ r) = True := eq_true (by omega)
       clear c3 he hv hvr hq hr
       go_wp2
       clear hcf0 p5 q5
       have H124 := Aside0.mk HX.out.drew
       refine start_ (n := 11) (S := fun w' => w'.cell? ⟨g3, (12 + q).toNat, none⟩ = some (.int .u8 (P.bitB (u.take i) q))) (ds := [10]) #[false, false, false, false, false, false, false, false, false, false, false] (by kernel_rfl) rfl rfl ((blk_cell H124.out.gt1 _).trans (by rw [List.getElem?_toArray]; unfold bytesV; rw [List.getElem?_map, HQ.out, P.sE_at g n t (u.take i) xs 0 [0, 0, 0, 0] HVr.out.1 HVr.out.2]; rfl)) (fun hHeld => ?_)
       clear HX
       generalize wl.drew = w123 at H124 hHeld ⊢
       refine pure_ (i := 0) (N := some 44) (v := ?_) (a' := ?_) #[true, false, false, false, false, false, false, false, false, false, false] rfl rfl (by kernel_rfl) (fun _ _ _ h => h) (Or.inl ⟨by rfl, ?_⟩) ?_ ?_
       rotate_left
       ·intro w'
        go_simp
        with_reducible rfl
       rotate_left
       ·simp only [Act.put, List.setIfInBounds_toArray, List.set_cons_zero, List.set_cons_succ, i64_w, i32_w]
        rfl
       refine pure_ (i := 1) (N := some 45) (v := ?_) (a' := ?_) #[true, true, false, false, false, false, false, false, false, false, false] rfl rfl (by kernel_rfl) (fun _ _ _ h => h) (Or.inl ⟨by rfl, ?_⟩) ?_ ?_
       rotate_left
       ·intro w'
        go_simp
        with_reducible rfl
       rotate_left
       ·simp only [Act.put, List.setIfInBounds_toArray, List.set_cons_zero, List.set_cons_succ, i64_w, i32_w]
        rfl
       refine pure_ (i := 2) (N := some 46) (v := ?_) (a' := ?_) #[true, true, true, false, false, false, false, false, false, false, false] rfl rfl (by kernel_rfl) (fun _ _ _ h => h) (Or.inl ⟨by rfl, ?_⟩) ?_ ?_
       rotate_left
       ·intro w'
        go_simp
        with_reducible rfl
       rotate_left
       ·simp only [Act.put, List.setIfInBounds_toArray, List.set_cons_zero, List.set_cons_succ, i64_w, i32_w]
        rfl
       refine pure_ (i := 3) (N := some 47) (v := ?_) (a' := ?_) #[true, true, true, true, false, false, false, false, false, false, false] rfl rfl (by kernel_rfl) (fun _ _ _ h => h) (Or.inl ⟨by rfl, ?_⟩) ?_ ?_
       rotate_left
       ·intro w'
        go_simp
        with_reducible rfl
       rotate_left
       ·simp only [Act.put, List.setIfInBounds_toArray, List.set_cons_zero, List.set_cons_succ, i64_w, i32_w]
        rfl
       refine take_ (i := 4) (N := some 48) (v := ?_) (a' := ?_) #[true, true, true, true, true, false, false, false, false, false, false] rfl rfl (by kernel_rfl) (fun _ _ _ h => h) (Or.inl ⟨by rfl, ?_⟩) hHeld ?_ ?_
       rotate_left
       ·rintro w' s0
        go_simp
        with_reducible rfl
       rotate_left
       ·simp only [Act.put, List.setIfInBounds_toArray, List.set_cons_zero, List.set_cons_succ, i64_w, i32_w]
        rfl
       refine pure_ (i := 5) (N := some 49) (v := ?_) (a' := ?_) #[true, true, true, true, true, true, false, false, false, false, false] rfl rfl (by kernel_rfl) (fun _ _ _ h => h) (Or.inl ⟨by rfl, ?_⟩) ?_ ?_
       rotate_left
       ·intro w'
        go_simp
        with_reducible rfl
       rotate_left
       ·simp only [Act.put, List.setIfInBounds_toArray, List.set_cons_zero, List.set_cons_succ, i64_w, i32_w]
        rfl
       refine pure_ (i := 6) (N := some 50) (v := ?_) (a' := ?_) #[true, true, true, true, true, true, true, false, false, false, false] rfl rfl (by kernel_rfl) (fun _ _ _ h => h) (Or.inl ⟨by rfl, ?_⟩) ?_ ?_
       rotate_left
       ·intro w'
        go_simp
        with_reducible rfl
       rotate_left
       ·simp only [Act.put, List.setIfInBounds_toArray, List.set_cons_zero, List.set_cons_succ, i64_w, i32_w]
        rfl
       refine pure_ (i := 7) (N := some 51) (v := ?_) (a' := ?_) #[true, true, true, true, true, true, true, true, false, false, false] rfl rfl (by kernel_rfl) (fun _ _ _ h => h) (Or.inl ⟨by rfl, ?_⟩) ?_ ?_
       rotate_left
       ·intro w'
        go_simp
        with_reducible rfl
       rotate_left
       ·simp only [Act.put, List.setIfInBounds_toArray, List.set_cons_zero, List.set_cons_succ, i64_w, i32_w]
        rfl
       refine pure_ (i := 8) (N := some 52) (v := ?_) (a' := ?_) #[true, true, true, true, true, true, true, true, true, false, false] rfl rfl (by kernel_rfl) (fun _ _ _ h => h) (Or.inl ⟨by rfl, ?_⟩) ?_ ?_
       rotate_left
       ·intro w'
        go_simp
        with_reducible rfl
       rotate_left
       ·simp only [Act.put, List.setIfInBounds_toArray, List.set_cons_zero, List.set_cons_succ, i64_w, i32_w]
        rfl
       refine pure_ (i := 9) (N := some 53) (v := ?_) (a' := ?_) #[true, true, true, true, true, true, true, true, true, true, false] rfl rfl (by kernel_rfl) (fun _ _ _ h => h) (Or.inl ⟨by rfl, ?_⟩) ?_ ?_
       rotate_left
       ·intro w'
        go_simp
        with_reducible rfl
       rotate_left
       ·simp only [Act.put, List.setIfInBounds_toArray, List.set_cons_zero, List.set_cons_succ, i64_w, i32_w]
        rfl
       refine last_ (i := 10) (N := none) #[true, true, true, true, true, true, true, true, true, true, true] rfl rfl (by kernel_rfl) (by decide) (fun K hK => ?_)
       refine st_part_step (o' := (12 + q).toNat) (u := .int .u8 (Go.bits .or .u8 (P.bitB (u.take i) q) (2 ^ r.toNat))) (seg := [.int .u8 (Go.bits .or .u8 (P.bitB (u.take i) q) (2 ^ r.toNat))]) (by rfl) rfl rfl ?hp25 ?hx25 rfl H124.out.gt1 (by kernel_rfl) (by rw [List.size_toArray, bytesV_length, P.sE_length _ _ _ _ _ _ _ rfl]; have := HQ.out; have := HVr.out; show (12 + q).toNat + 1 ≤ 128; omega) (by simp [Value.oneCell']) ?_
       case hp25 => rfl
       case hx25 => rfl
       intro w125 hb25 hS25
       replace hb25 := hb25.trans (congrArg (fun z : List Value => some (Obj.cells z.toArray 98 (0, 0))) (set_seg (l := P.sE g n t (u.take i) xs 0 [0, 0, 0, 0]) (i := (12 + q).toNat) (x := Go.bits .or .u8 (P.bitB (u.take i) q) (2 ^ r.toNat)) (by rw [P.sE_length _ _ _ _ _ _ _ rfl]; have := HQ.out; have := HVr.out; omega)))
       rw [show (P.sE g n t (u.take i) xs 0 [0, 0, 0, 0]).set (12 + q).toNat (Go.bits .or .u8 (P.bitB (u.take i) q) (2 ^ r.toNat)) = P.sE g n t (u.take (i + 1)) xs 0 [0, 0, 0, 0] from by rw [HQ.out, HRm.out, P.sE_bit g n t (u.take i) xs 0 [0, 0, 0, 0] HVr.out.1 HVr.out.2 HVn.out, take_snoc C3.out, ← HV.out]] at hb25
       have H126 := Aside0.mk (H124.out.wr1 (cs' := (bytesV (P.sE g n t (u.take (i + 1)) xs 0 [0, 0, 0, 0])).toArray) hb25 hS25)
       clear hb25 hS25 H124
       refine hK.out _ _ ?_
       clear hK K
       refine done_ (by kernel_rfl) ?_
       try dsimp only
       clear jq jr jq2 jr2 ja pa pb pr js
       have HZ := Aside0.mk H126.out
       clear H126
       go_wp2
       go_roundg k1_
       case measure => omega
       case rel => exact ⟨i + 1, x + 1, _, rfl, ⟨rfl⟩, ⟨by rw [HE.out]; rfl⟩, ⟨by have := HK.out; omega⟩, ⟨by have := C3.out; omega⟩, HZ⟩
      ·have c3b : decide (x < (u.length : Int)) = false := decide_eq_false (by omega)
       obtain rfl : i = u.length := by have := HI.out; omega
       clear he
       have HY := HX.out
       rw [List.take_length] at HY
       have HX2 := Aside0.mk HY
       clear HY HX
       have hk4 : wl.cell? ⟨g1, 2, none⟩ = some (.slice A0 xs.length c0) := (blk_cell HX2.out.gt3 2).trans rfl
       go_wp2
       go_loopg [58] (xs.length + 1) (fun kq v_ w' => ∃ (i : Nat) (x : Int) (wl : World), v_ = .int .i64 x ∧ Aside0 (wl = w') ∧ Aside0 (x = (i : Int)) ∧ Aside0 (kq + i = xs.length + 1) ∧ Aside0 (i ≤ xs.length) ∧ Aside0 (Bx w [(gl, #[.int .i64 0, .int .i64 60, .int .i64 64, .int .i64 124], 3), (g3, (bytesV (P.sE g n t (u) xs i [0, 0, 0, 0])).toArray, 98), (g2, (bytesV (List.replicate 128 0)).toArray, 98), (g1, #[.int .u32 g, .int .u32 t, .slice A0 xs.length c0, .slice A1 u.length c1], 44)] w'))
       case atStart => exact ⟨0, 0, _, rfl, ⟨rfl⟩, ⟨rfl⟩, ⟨by omega⟩, ⟨Nat.zero_le _⟩, HX2⟩
       case round =>
        clear HX2
        obtain ⟨i, x, wl, rfl, hwl, HE, HK, HI, HX⟩ := hrel
        obtain ⟨hwl⟩ := hwl
        subst hwl
        have he := HE.out
        cases gk with
        | zero => exact absurd HK.out (by have := HI.out; omega)
        | succ k1_ =>
         by_cases c3 : i < xs.length
         ·have C3 := Aside0.mk c3
          have c3b : decide (x < (xs.length : Int)) = true := decide_eq_true (by omega)
          have p5 : (0 ≤ x) = True := eq_true (by omega)
          have q5 : (x < (xs.length : Int)) = True := eq_true (by omega)
          have jx : IntKind.i64.wrap (x + 1) = x + 1 := by rw [IntKind.wrap_i64]; have := HOk.out.u.2; have := HOk.out.xs.2; omega
          obtain ⟨ad, eA, hcf0⟩ := Kd.at_int HR0.out x (by omega) (by omega)
          subst eA
          replace hcf0 := pw_cell_below HX.out.below hcf0
          obtain ⟨v, hv⟩ : ∃ v, v = rd xs x := ⟨_, rfl⟩
          rw [← hv] at hcf0
          rw [he] at hv
          have HV := Aside0.mk hv
          have hvr := P.goodS_mem HOk.out.xs.1 (hv ▸ P.rd_mem c3)
          have HVr := Aside0.mk hvr
          have jv : IntKind.u64.wrap v = v := by rw [IntKind.wrap_u64]; omega
          have H16 := Aside0.mk (show i < 16 from Nat.lt_of_lt_of_le c3 HOk.out.xs.2)
          have HDA := Aside0.mk (show impl_denyAt.f x = some ((P.denAt i : Nat) : Int) from by rw [he]; exact P.denyAt_is (Nat.lt_of_lt_of_le c3 HOk.out.xs.2))
          obtain ⟨at_, hat⟩ : ∃ at_ : Int, at_ = ((P.denAt i : Nat) : Int) := ⟨_, rfl⟩
          have HAT := Aside0.mk hat
          clear c3 he hv hvr hat
          go_wp2
          clear hcf0 p5 q5
          have H128 := Aside0.mk HX.out.drew
          refine start_ (n := 6) (S := fun w' => True) (ds := [5]) #[false, false, false, false, false, false] (by kernel_rfl) rfl rfl trivial (fun hHeld => ?_)
          clear HX
          generalize wl.drew = w127 at H128 hHeld ⊢
          refine pure_ (i := 0) (N := some 63) (v := ?_) (a' := ?_) #[true, false, false, false, false, false] rfl rfl (by kernel_rfl) (fun _ _ _ h => h) (Or.inl ⟨by rfl, ?_⟩) ?_ ?_
          rotate_left
          ·intro w'
           go_simp
           with_reducible rfl
          rotate_left
          ·simp only [Act.put, List.setIfInBounds_toArray, List.set_cons_zero, List.set_cons_succ, i64_w, i32_w]
           rfl
          refine pure_ (i := 1) (N := some 64) (v := ?_) (a' := ?_) #[true, true, false, false, false, false] rfl rfl (by kernel_rfl) (fun _ _ _ h => h) (Or.inl ⟨by rfl, ?_⟩) ?_ ?_
          rotate_left
          ·intro w'
           go_simp
           with_reducible rfl
          rotate_left
          ·simp only [Act.put, List.setIfInBounds_toArray, List.set_cons_zero, List.set_cons_succ, i64_w, i32_w]
           rfl
          refine pure_ (i := 3) (N := some 66) (v := ?_) (a' := ?_) #[true, true, false, true, false, false] rfl rfl (by kernel_rfl) (fun _ _ _ h => h) (Or.inl ⟨by rfl, ?_⟩) ?_ ?_
          rotate_left
          ·intro w'
           go_simp
           with_reducible rfl
          rotate_left
          ·simp only [Act.put, List.setIfInBounds_toArray, List.set_cons_zero, List.set_cons_succ, i64_w, i32_w]
           rfl
          refine pure_ (i := 4) (N := some 67) (v := ?_) (a' := ?_) #[true, true, false, true, true, false] rfl rfl (by kernel_rfl) (fun _ _ _ h => h) (Or.inl ⟨by rfl, ?_⟩) ?_ ?_
          rotate_left
          ·intro w'
           go_simp
           with_reducible rfl
          rotate_left
          ·simp only [Act.put, List.setIfInBounds_toArray, List.set_cons_zero, List.set_cons_succ, i64_w, i32_w]
           rfl
          refine one_ (i := 2) (N := some 65) #[true, true, true, true, true, false] rfl rfl (by kernel_rfl) (by decide) (fun K hK => ?_)
          refine goes_ Try.func95 (by kernel_rfl) rfl #[.int .i64 x] (by rfl) rfl rfl (by (try simp only [List.map_toArray, List.map_cons, List.map_nil]); first | done | rfl) ?_
          refine (impl_denyAt.calls x _ _ HDA.out).mono ?_
          rintro e w129 ⟨rfl, hd_⟩
          refine ⟨_, rfl, ?_⟩
          have hb_ := hd_.below
          clear hd_
          have H130 := Aside0.mk (H128.out.step hb_)
          clear hb_ H128
          refine hK.out _ _ trivial (fun hHeld => ?_)
          clear hK K
          refine norm_ (a' := ?_) ?_ ?_
          rotate_left
          ·show Act.put _ (some 65) _ = _
           simp only [Act.put, List.setIfInBounds_toArray, List.set_cons_zero, List.set_cons_succ, i64_w, i32_w]
           rfl
          refine last_ (i := 5) (N := some 68) #[true, true, true, true, true, true] rfl rfl (by kernel_rfl) (by decide) (fun K hK => ?_)
          refine goes_ Try.func88 (by kernel_rfl) rfl #[.slice (some ⟨g3, 0, none⟩) 128 128, .int .i64 (P.denAt i : Nat), .int .i64 2, .int .u64 v] (by rfl) rfl rfl (by (try simp only [List.map_toArray, List.map_cons, List.map_nil]); first | done | rfl) ?_
          have hp_ := put_box (l := P.sE g n t (u) xs i [0, 0, 0, 0]) (x := v) (P.denAt i) 2 H130.out.below (H130.out.at_ _ (List.mem_cons_of_mem _ (List.mem_cons_self ..))).1 H130.out.gt1 (by have := HVr.out; omega) (by decide) (by rw [P.sE_length _ _ _ _ _ _ _ rfl]; exact P.denAt_fit H16.out) (by rw [P.sE_length _ _ _ _ _ _ _ rfl]; decide) (by rw [P.sE_length _ _ _ _ _ _ _ rfl]; decide)
          rw [P.sE_length _ _ _ _ _ _ _ rfl] at hp_
          refine hp_.mono ?_
          rintro e w131 ⟨rfl, hb31, hS31⟩
          refine ⟨_, rfl, ?_⟩
          clear hp_
          rw [HV.out, P.sE_deny g n t u xs i H16.out] at hb31
          have H132 := Aside0.mk (H130.out.wr1 (cs' := (bytesV (P.sE g n t (u) xs (i + 1) [0, 0, 0, 0])).toArray) hb31 hS31)
          clear hb31 hS31 H130
          refine hK.out _ _ ?_
          clear hK K
          refine done_ (by kernel_rfl) ?_
          try dsimp only
          clear jv
          have HZ := Aside0.mk H132.out
          clear H132
          go_wp2
          go_roundg k1_
          case measure => omega
          case rel => exact ⟨i + 1, x + 1, _, rfl, ⟨rfl⟩, ⟨by rw [HE.out]; rfl⟩, ⟨by have := HK.out; omega⟩, ⟨by have := C3.out; omega⟩, HZ⟩
         ·have c3b : decide (x < (xs.length : Int)) = false := decide_eq_false (by omega)
          obtain rfl : i = xs.length := by have := HI.out; omega
          clear he
          try go_wp2
          have H134 := Aside0.mk HX.out.drew
          refine start_ (n := 5) (S := fun w' => True) (ds := [4]) #[false, false, false, false, false] (by kernel_rfl) rfl rfl trivial (fun hHeld => ?_)
          clear HX
          generalize wl.drew = w133 at H134 hHeld ⊢
          refine pure_ (i := 0) (N := some 70) (v := ?_) (a' := ?_) #[true, false, false, false, false] rfl rfl (by kernel_rfl) (fun _ _ _ h => h) (Or.inl ⟨by rfl, ?_⟩) ?_ ?_
          rotate_left
          ·intro w'
           go_simp
           with_reducible rfl
          rotate_left
          ·simp only [Act.put, List.setIfInBounds_toArray, List.set_cons_zero, List.set_cons_succ, i64_w, i32_w]
           rfl
          refine pure_ (i := 1) (N := some 71) (v := ?_) (a' := ?_) #[true, true, false, false, false] rfl rfl (by kernel_rfl) (fun _ _ _ h => h) (Or.inl ⟨by rfl, ?_⟩) ?_ ?_
          rotate_left
          ·intro w'
           go_simp
           with_reducible rfl
          rotate_left
          ·simp only [Act.put, List.setIfInBounds_toArray, List.set_cons_zero, List.set_cons_succ, i64_w, i32_w]
           rfl
          refine one_ (i := 2) (N := some 72) #[true, true, true, false, false] rfl rfl (by kernel_rfl) (by decide) (fun K hK => ?_)
          refine goes_ Try.func89 (by kernel_rfl) rfl #[.slice (some ⟨g3, 0, none⟩) 120 128] (by rfl) rfl rfl (by (try simp only [List.map_toArray, List.map_cons, List.map_nil]); first | done | rfl) ?_
          have hsl := P.sE_length g n t u xs xs.length [0, 0, 0, 0] rfl
          have hCh : Kd.C (Kd.int .u8) w133 (some ⟨g3, 0, none⟩) (P.snapHead g n t u xs).length (P.snapHead g n t u xs) := by
           have h1 := Kd.reads_of_C (enc := Value.int .u8) (d := (0 : Int)) (h1 := fun _ => rfl) (Kd.R_reads' (R_arr (base := 0) (l := P.sE g n t (u) xs xs.length [0, 0, 0, 0]) H134.out.gt1 (Nat.zero_le _) (by rw [hsl]; decide))).2.2
           have h2 := h1.take_ 120 (by rw [hsl]; decide)
           rw [P.sE_take] at h2
           rw [P.snapHead_length]
           exact Kd.C_of_reads (h1 := fun _ => rfl) h2
          have hcc := impl_Crc32.calls kc _ 128 (P.snapHead g n t u xs) c _ hCh (by rw [P.snapHead_length]; decide) HKC.out
          rw [P.snapHead_length] at hcc
          refine hcc.mono ?_
          rintro e w135 ⟨rfl, hd_⟩
          refine ⟨_, rfl, ?_⟩
          have hb_ := hd_.below
          clear hd_ hCh hcc hsl
          have H136 := Aside0.mk (H134.out.step hb_)
          clear hb_ H134
          refine hK.out _ _ trivial (fun hHeld => ?_)
          clear hK K
          refine norm_ (a' := ?_) ?_ ?_
          rotate_left
          ·show Act.put _ (some 72) _ = _
           simp only [Act.put, List.setIfInBounds_toArray, List.set_cons_zero, List.set_cons_succ, i64_w, i32_w]
           rfl
          refine pure_ (i := 3) (N := some 73) (v := ?_) (a' := ?_) #[true, true, true, true, false] rfl rfl (by kernel_rfl) (fun _ _ _ h => h) (Or.inl ⟨by rfl, ?_⟩) ?_ ?_
          rotate_left
          ·intro w'
           go_simp
           with_reducible rfl
          rotate_left
          ·simp only [Act.put, List.setIfInBounds_toArray, List.set_cons_zero, List.set_cons_succ, i64_w, i32_w]
           rfl
          refine last_ (i := 4) (N := some 74) #[true, true, true, true, true] rfl rfl (by kernel_rfl) (by decide) (fun K hK => ?_)
          refine goes_ Try.func88 (by kernel_rfl) rfl #[.slice (some ⟨g3, 0, none⟩) 128 128, .int .i64 120, .int .i64 4, .int .u64 c] (by rfl) rfl rfl (by (try simp only [List.map_toArray, List.map_cons, List.map_nil]); first | done | rfl) ?_
          have hp_ := put_box (l := P.sE g n t (u) xs xs.length [0, 0, 0, 0]) (x := c) (120) 4 H136.out.below (H136.out.at_ _ (List.mem_cons_of_mem _ (List.mem_cons_self ..))).1 H136.out.gt1 (by have := HCr.out; omega) (by decide) (by rw [P.sE_length _ _ _ _ _ _ _ rfl]; decide) (by rw [P.sE_length _ _ _ _ _ _ _ rfl]; decide) (by rw [P.sE_length _ _ _ _ _ _ _ rfl]; decide)
          rw [P.sE_length _ _ _ _ _ _ _ rfl] at hp_
          refine hp_.mono ?_
          rintro e w137 ⟨rfl, hb37, hS37⟩
          refine ⟨_, rfl, ?_⟩
          clear hp_
          rw [P.sE_crc] at hb37
          have H138 := Aside0.mk (H136.out.wr1 (cs' := (bytesV (P.snapHead g n t u xs ++ (P.leB 4 c ++ P.leB 4 g))).toArray) hb37 hS37)
          clear hb37 hS37 H136
          refine hK.out _ _ ?_
          clear hK K
          refine done_ (by kernel_rfl) ?_
          try dsimp only
          have HFL := Aside0.mk (show (P.snapHead g n t u xs ++ (P.leB 4 c ++ P.leB 4 g)).length = 128 from by simp only [List.length_append, P.snapHead_length, P.leB_length])
          go_wp2_with (first | ((with_reducible refine gate_dst (N := 75) rfl ?_); refine Aside0.out ?_))
          refine Aside0.mk ?_
          refine ld ?hw39 rfl ?hx39 H138.out.gt1 Try.underlying98 rfl (by rw [List.size_toArray, bytesV_length, HFL.out]; kernel_rfl) ?_
          case hw39 => rfl
          case hx39 => rfl
          go_wp2_with (first | ((with_reducible refine gate_store (t := 98) (p := 2) rfl ?_); refine Aside0.out ?_))
          refine Aside0.mk ?_
          refine st_all ?hw40 ?hN40 rfl ?hp40 (cs := (bytesV (P.snapHead g n t u xs ++ (P.leB 4 c ++ P.leB 4 g))).toArray) ?hx40 H138.out.gt2 (by rw [List.size_toArray, bytesV_length, HFL.out]; kernel_rfl) (by rw [List.size_toArray, List.size_toArray, bytesV_length, bytesV_length, HFL.out]; rfl) (bytesV_one _) ?_
          case hw40 => rfl
          case hN40 => rfl
          case hp40 => rfl
          case hx40 => rfl
          intro w140 hb40 hS40
          have H141 := Aside0.mk (H138.out.wr2 (cs' := (bytesV (P.snapHead g n t u xs ++ (P.leB 4 c ++ P.leB 4 g))).toArray) hb40 hS40)
          clear hb40 hS40 H138
          go_wp2
          refine bodyPost_ret (results_cell_row rfl _ _ g2 98 (bytesV (P.snapHead g n t u xs ++ (P.leB 4 c ++ P.leB 4 g))).toArray (0, 0) _ rfl H141.out.gt2 Try.underlying98 rfl (by rw [List.size_toArray, bytesV_length, HFL.out]; kernel_rfl)) rfl ?_
          exact ⟨by unfold P.snapCode; rw [← HN.out, ← HC.out], H141.out.below⟩
def encS (g t : Int) (xs u : List Int) : List Int := if P.goodSnap g t xs u = true then P.snapCode g t xs u else []
theorem snapOk_of {g t : Int} {xs u : List Int} (h : P.snapSz g t xs u) (hg : P.goodSnap g t xs u = true) : SnapOk g t xs u := by
 obtain ⟨h1, h2, h3, h4, h5, h6⟩ := P.goodSnap_iff.1 hg
 exact ⟨h.1, h.2.1, ⟨h4, h5⟩, ⟨h6, P.goodS_length h6⟩⟩
def impl_EncodeSnap.f (a0_0 : Int) (a0_1 : Int) (l0_2 : List Int) (l0_3 : List Int) : Option (List Int) := if P.snapSz a0_0 a0_1 l0_2 l0_3 then some (encS a0_0 a0_1 l0_2 l0_3) else none
set_option maxHeartbeats 8000000 in
set_option maxRecDepth 100000 in
theorem impl_EncodeSnap.calls (a0_0 : Int) (a0_1 : Int) (A0_2 : Option Addr) (c0_2 : Nat) (l0_2 : List Int) (A0_3 : Option Addr) (c0_3 : Nat) (l0_3 : List Int) (r : List Int) (w : World) (hr0_2 : Kd.C (Kd.int .i64) w A0_2 l0_2.length l0_2) (hc0_2 : l0_2.length ≤ c0_2) (hr0_3 : Kd.C (Kd.int .i64) w A0_3 l0_3.length l0_3) (hc0_3 : l0_3.length ≤ c0_3) (h : impl_EncodeSnap.f a0_0 a0_1 l0_2 l0_3 = some r) :
  Calls Try.prog 27 #[.agg #[.int .u32 a0_0, .int .u32 a0_1, .slice A0_2 l0_2.length c0_2, .slice A0_3 l0_3.length c0_3]] w fun e w' => ∃ v0_ : Value, e = .returned (v0_) ∧ Kd.R (Kd.int .u8) 98 w' w.heap.size (fun _ => True) v0_ r ∧ Below w.heap.size w w' := by
 unfold impl_EncodeSnap.f at h
 by_cases hsz : P.snapSz a0_0 a0_1 l0_2 l0_3
 case neg => rw [if_neg hsz] at h; cases h
 rw [if_pos hsz] at h
 have h := Option.some.inj h
 obtain ⟨kg, hkg⟩ := (P.impl_snap_good a0_0 a0_1 l0_2 l0_3 (Nat.le_trans hsz.2.2.1 (by decide)) (Nat.le_trans hsz.2.2.2 (by decide))).ex
 have HKG := Aside0.mk hkg
 have HSz := Aside0.mk hsz
 have H := Aside0.mk h
 have HR2 := Aside0.mk hr0_2
 have HC2 := Aside0.mk hc0_2
 have HR3 := Aside0.mk hr0_3
 have HC3 := Aside0.mk hc0_3
 have H0 := Aside0.mk (Bx.refl w)
 clear hsz h hkg hr0_2 hc0_2 hr0_3 hc0_3
 go_enter Try.func27, Try.ntmps27
 go_wp2_with (first | ((with_reducible refine gate_dst (N := 1) rfl ?_); refine Aside0.out ?_))
 refine Aside0.mk ?_
 refine mk ?hw42 (N := 1) ?hd42 (cs := #[.int .u32 a0_0, .int .u32 a0_1, .slice A0_2 l0_2.length c0_2, .slice A0_3 l0_3.length c0_3]) (t := 44) ?hr42 ?_
 case hd42 => rfl
 case hw42 => rfl
 case hr42 => first | (go_simp; done) | (go_simp; rfl)
 intro g1 hg1_ w142 hb42 hB42
 have H143 := Aside0.mk (H0.out.new hg1_ hb42 hB42)
 clear hg1_ hb42 hB42 H0
 go_wp2_with (first | ((with_reducible refine gate_dst (N := 4) rfl ?_); refine Aside0.out ?_))
 refine Aside0.mk ?_
 refine ld ?hw44 rfl ?hx44 H143.out.gt0 Try.underlying44 rfl (by kernel_rfl) ?_
 case hw44 => rfl
 case hx44 => rfl
 go_wp2_with (first | ((with_reducible refine gate_callee (f := 67) rfl ?_); refine Aside0.out ?_))
 refine Aside0.mk ?_
 refine goesW (some 5) rfl ?hw45 Try.func67 (by kernel_rfl) rfl #[.agg #[.int .u32 a0_0, .int .u32 a0_1, .slice A0_2 l0_2.length c0_2, .slice A0_3 l0_3.length c0_3]] rfl (by (try simp only [List.map_toArray, List.map_cons, List.map_nil]); first | done | rfl) ?_
 case hw45 => rfl
 refine (impl_Snap_good.calls kg a0_0 a0_1 _ _ l0_2 _ _ l0_3 _ _ (Kd.C_below HR2.out H143.out.below) HC2.out (Kd.C_below HR3.out H143.out.below) HC3.out HKG.out).mono ?_
 rintro e w145 ⟨rfl, hb_⟩
 refine ⟨_, rfl, ?_⟩
 have H146 := Aside0.mk (H143.out.step hb_)
 clear hb_ H143
 cases hk : P.goodSnap a0_0 a0_1 l0_2 l0_3 with
 | false =>
  have h := H.out
  unfold encS at h
  rw [if_neg (by rw [hk]; decide)] at h
  subst h
  clear hk
  go_wp2
  go_ret
  exact ⟨_, rfl, Kd.R_nil _ _ _ _ _, H146.out.below⟩
 | true =>
  have h := H.out
  unfold encS at h
  rw [if_pos hk] at h
  subst h
  have HOk := Aside0.mk (snapOk_of HSz.out hk)
  clear hk H
  go_wp2_with (first | ((with_reducible refine gate_dst (N := 7) rfl ?_); refine Aside0.out ?_))
  refine Aside0.mk ?_
  refine ld ?hw47 rfl ?hx47 H146.out.gt0 Try.underlying44 rfl (by kernel_rfl) ?_
  case hw47 => rfl
  case hx47 => rfl
  go_wp2_with (first | ((with_reducible refine gate_callee (f := 68) rfl ?_); refine Aside0.out ?_))
  refine Aside0.mk ?_
  refine goesW (some 8) rfl ?hw48 Try.func68 (by kernel_rfl) rfl #[.agg #[.int .u32 a0_0, .int .u32 a0_1, .slice A0_2 l0_2.length c0_2, .slice A0_3 l0_3.length c0_3]] rfl (by (try simp only [List.map_toArray, List.map_cons, List.map_nil]); first | done | rfl) ?_
  case hw48 => rfl
  refine (snap_code_calls (Kd.C_below HR2.out H146.out.below) HC2.out (Kd.C_below HR3.out H146.out.below) HC3.out HOk.out).mono ?_
  rintro e w148 ⟨rfl, hb_⟩
  refine ⟨_, rfl, ?_⟩
  have H149 := Aside0.mk (H146.out.step hb_)
  clear hb_ H146
  go_wp2_with (first | ((with_reducible refine gate_dst (N := 3) rfl ?_); refine Aside0.out ?_))
  refine Aside0.mk ?_
  refine mk ?hw50 (N := 3) ?hd50 (cs := (bytesV (List.replicate 128 0)).toArray) (t := 98) ?hr50 ?_
  case hd50 => rfl
  case hw50 => rfl
  case hr50 => first | (go_simp; done) | (go_simp; rfl)
  intro g3 hg3_ w150 hb50 hB50
  have H151 := Aside0.mk (H149.out.new hg3_ hb50 hB50)
  clear hg3_ hb50 hB50 H149
  go_wp2_with (first | ((with_reducible refine gate_store (t := 98) (p := 3) rfl ?_); refine Aside0.out ?_))
  refine Aside0.mk ?_
  refine st_all ?hw52 ?hN52 rfl ?hp52 (cs := (bytesV (P.snapCode a0_0 a0_1 l0_2 l0_3)).toArray) ?hx52 H151.out.gt0 (by rw [List.size_toArray, bytesV_length, P.snapCode_length]; kernel_rfl) (by rw [List.size_toArray, List.size_toArray, bytesV_length, bytesV_length, P.snapCode_length]; rfl) (bytesV_one _) ?_
  case hw52 => rfl
  case hN52 => rfl
  case hp52 => rfl
  case hx52 => rfl
  intro w152 hb52 hS52
  have H153 := Aside0.mk (H151.out.wr0 (cs' := (bytesV (P.snapCode a0_0 a0_1 l0_2 l0_3)).toArray) hb52 hS52)
  clear hb52 hS52 H151
  have HL := Aside0.mk (P.snapCode_length a0_0 a0_1 l0_2 l0_3)
  go_wp2
  go_ret
  have hR_ := R_arr (l := P.snapCode a0_0 a0_1 l0_2 l0_3) H153.out.gt0 (H153.out.at_ _ (List.mem_cons_self ..)).1 (by rw [HL.out]; decide)
  rw [HL.out] at hR_
  exact ⟨_, rfl, hR_, H153.out.below⟩
end Go.Proofs.Ytgfadfahbhcllaa.Q
end
section
namespace Go.Proofs.Ytgfadfahbhcllaa.Q
open Go.RowKit Go.Proofs.YtgfadfahbhcllaaW.PrintWords Go.Proofs.YtgfadfahbhcllaaW.PrintLast Go.Proofs.Ytgfadfahbhcllaa.LK Go.Proofs.YtgfadfahbhcllaaW.PrintMore
attribute [local go_sem] max2_int min2_int max_two min_two max_three min_three max_four min_four
set_option linter.unusedVariables false
set_option linter.unusedSimpArgs false
mutual
def spec_l6Bits.l0 : Nat → List Int → List Int → Int → Option (List Int)
 | 0, _, _, _ => none
 | k + 1, x0, x3, x4 => if x4 < 32 then (spec_l6Bits.l1 k x0 x3 x4 0 7) else (some x3)
def spec_l6Bits.l1 : Nat → List Int → List Int → Int → Int → Int → Option (List Int)
 | 0, _, _, _, _, _ => none
 | k + 1, x0, x3, x4, x5, x6 => if x6 ≥ 0 then ((spec_l5Holds.f k x0 (wrap64 ((wrap64 (8 * x4)) + x6))).bind fun t104 => (if t104 = true then (spec_l6Bits.l1 k x0 x3 x4 (wrap64 ((wrap64 (2 * x5)) + 1)) (wrap64 (x6 - 1))) else (spec_l6Bits.l1 k x0 x3 x4 (wrap64 (2 * x5)) (wrap64 (x6 - 1))))) else (if x3.length < 140737488355328 then (spec_l6Bits.l0 k x0 (x3 ++ [(x5) % 256]) (wrap64 (x4 + 1))) else (none))
end
def spec_l6Bits.f (k : Nat) (l0 : List Int) : Option (List Int) := spec_l6Bits.l0 k l0 (([] : List Int)) 0
set_option maxHeartbeats 8000000 in
set_option maxRecDepth 100000 in
theorem spec_l6Bits.calls (k : Nat) (A0 : Option Addr) (c0 : Nat) (l0 : List Int) (r : List Int) (w : World) (hr0 : Kd.C (Kd.int .i64) w A0 l0.length l0) (hc0 : l0.length ≤ c0) (h : spec_l6Bits.f k l0 = some r) :
  Calls Try.prog 64 #[.slice A0 l0.length c0] w fun e w' => ∃ v0_ : Value, e = .returned (v0_) ∧ Kd.R (Kd.int .u8) 5 w' w.heap.size (fun _ => True) v0_ r ∧ Below w.heap.size w w' := by
 have HR0 := Aside0.mk hr0
 have HC0 := Aside0.mk hc0
 clear hr0 hc0
 have HB := Aside0.mk (Below.refl w.heap.size w)
 have H : (spec_l6Bits.l0 k l0 (([] : List Int)) 0) = some r := h
 clear h
 obtain ⟨y101, hy101⟩ : ∃ y_ : List Int, y_ = (([] : List Int)) := ⟨_, rfl⟩
 replace H : (spec_l6Bits.l0 k l0 y101 0) = some r := by first | (rw [hy101]; with_reducible exact H) | (have H2_ := (Option.bind_some _ _).symm.trans H; rw [hy101]; with_reducible exact H2_) | (have H2_ := (Option.bind_some _ _).symm.trans H; with_reducible exact H2_) | with_reducible exact H | (rw [hy101]; exact H) | exact H
 have Ny101 := Aside0.mk hy101
 clear hy101
 have H' := Aside0.mk H
 clear H
 go_enter Try.func64, Try.ntmps64
 go_wp2_with (first | ((with_reducible refine gate_dst (N := 7) rfl ?_); refine Kd.R_lit (Kd.int .u8) _ 5 ?hg (N := 7) ?hd (xs := ([] : List Int)) (inner := []) (ok := fun _ => True) (okp := fun _ => True) ?hr ?hp (fun _ hk => hk) trivial (Below.refl _ _) (Nat.le_refl _) (by simp) ?_; (case hd => rfl); (case hg => rfl); (case hr => first | (go_simp; done) | (go_simp; rfl)); (case hp => exact (Reps.none _ _)); intro v102 w2 ho3 hb hg_ hnew_; clear hg_ hnew_; (first | rw [← Ny101.out] at ho3 | (simp only [Int.reduceToNat] at ho3; rw [← Ny101.out] at ho3)); have n0_ := Aside0.mk (Kd.R_lower ho3 (below_size (by repeat (first | (with_reducible first | exact HB.out | apply below_alloc | apply pw_below_drewN | apply below_drew1) | exact HB.out)))); have n1_ := Aside0.mk (below_step (by repeat (first | (with_reducible first | exact HB.out | apply below_alloc | apply pw_below_drewN | apply below_drew1) | exact HB.out)) hb); clear HB; have HO103 := n0_; have HB := n1_; clear n0_ n1_; clear hb ho3))
 go_loopg [3, 4] k (fun kq v3 v4 w' => ∃ (x3_1 : List Int) (x4_1 : Int), v4 = .int .i64 x4_1 ∧ Aside0 (spec_l6Bits.l0 kq l0 x3_1 x4_1 = some r) ∧ Aside0 (kq ≤ k) ∧ Aside0 (Kd.R (Kd.int .u8) 5 w' w.heap.size (fun _ => True) v3 x3_1) ∧ Aside0 (Below w.heap.size w w'))
 case atStart => exact ⟨(y101), (0), (by first | rfl | (simp; done) | (simp [*]; done)), H', ⟨Nat.le_refl _⟩, ⟨by (with_reducible repeat (first | apply Kd.R_alloc | apply Kd.R_drewN | apply Kd.R_drew)); exact HO103.out⟩, ⟨by repeat (first | (with_reducible first | exact HB.out | apply below_alloc | apply pw_below_drewN | apply below_drew1) | exact HB.out)⟩⟩
 case round =>
  clear H'
  try clear p2
  obtain ⟨x3_1, x4_1, rfl, HA, HK1, HO_3, HB⟩ := hrel
  cases gk with
  | zero => exact absurd HA.out (by simp [spec_l6Bits.l0])
  | succ k1 =>
   have H := HA.out
   clear HA
   simp only [spec_l6Bits.l0] at H
   by_cases c4 : x4_1 < 32
   ·rw [if_pos c4] at H
    have c4b0 : decide (x4_1 < 32) = true := decide_eq_true c4
    clear c4
    have H' := Aside0.mk H
    clear H
    go_wp2
    go_loopg [5, 6] k1 (fun kq v5 v6 w' => ∃ (x5_2 : Int) (x6_2 : Int), v5 = .int .i64 x5_2 ∧ v6 = .int .i64 x6_2 ∧ Aside0 (spec_l6Bits.l1 kq l0 x3_1 x4_1 x5_2 x6_2 = some r) ∧ Aside0 (kq ≤ k1) ∧ Aside0 (Kd.R (Kd.int .u8) 5 w' w.heap.size (fun _ => True) u3 x3_1) ∧ Aside0 (Below w.heap.size w w'))
    case atStart => exact ⟨(0), (7), (by first | rfl | (simp; done) | (simp [*]; done)), (by first | rfl | (simp; done) | (simp [*]; done)), H', ⟨Nat.le_refl _⟩, ⟨by (with_reducible repeat (first | apply Kd.R_alloc | apply Kd.R_drewN | apply Kd.R_drew)); exact HO_3.out⟩, ⟨by repeat (first | (with_reducible first | exact HB.out | apply below_alloc | apply pw_below_drewN | apply below_drew1) | exact HB.out)⟩⟩
    case round =>
     clear H'
     try clear p2
     try clear c4
     try clear c4b0
     try clear p2
     obtain ⟨x5_2, x6_2, rfl, rfl, HA, HK2, HO_3, HB⟩ := hrel
     cases gk with
     | zero => exact absurd HA.out (by simp [spec_l6Bits.l1])
     | succ k2 =>
      have H := HA.out
      clear HA
      simp only [spec_l6Bits.l1] at H
      by_cases c5 : x6_2 ≥ 0
      ·rw [if_pos c5] at H
       have c5b0 : decide (0 ≤ x6_2) = true := decide_eq_true c5
       clear c5
       replace H := Option.bind_eq_some_iff.mp H
       obtain ⟨t104, A60, H⟩ := H
       replace H : (if t104 = true then (spec_l6Bits.l1 k2 l0 x3_1 x4_1 (wrap64 ((wrap64 (2 * x5_2)) + 1)) (wrap64 (x6_2 - 1))) else (spec_l6Bits.l1 k2 l0 x3_1 x4_1 (wrap64 (2 * x5_2)) (wrap64 (x6_2 - 1)))) = some r := H
       have A6 := Aside0.mk A60
       clear A60
       by_cases c7 : t104 = true
       ·subst c7
        have H1 : (spec_l6Bits.l1 k2 l0 x3_1 x4_1 (wrap64 ((wrap64 (2 * x5_2)) + 1)) (wrap64 (x6_2 - 1))) = some r := by rw [if_pos rfl] at H; exact H
        clear H
        have H := H1
        clear H1
        have H' := Aside0.mk H
        clear H
        go_wp2_with (first | ((with_reducible refine gate_callee (f := 78) rfl ?_); refine goesL_ (some 23) rfl rfl Try.func78 (by kernel_rfl) rfl #[.slice A0 l0.length c0, .int .i64 (wrap64 ((wrap64 (8 * x4_1)) + x6_2))] rfl (by (try simp only [List.map_toArray, List.map_cons, List.map_nil]); first | done | rfl | (simp only [List.length_drop, List.length_take]; rfl)) ?_; (with_reducible refine (spec_l5Holds.calls k2 _ _ l0 (wrap64 ((wrap64 (8 * x4_1)) + x6_2)) true _ ?side1 ?side2 A6.out).mono ?_); (case side1 => repeat (first | exact (Kd.C_below HR0.out HB.out) | (with_reducible refine Kd.C_alloc ?_ _) | (with_reducible refine Kd.C_drewN ?_ _) | (with_reducible refine Kd.C_drew ?_))); (case side2 => exact HC0.out); rintro e w' ⟨rfl, ⟨nd, rfl⟩⟩; refine ⟨_, rfl, ?_⟩))
        go_roundg k2
        case measure => have := HK1.out; have := HK2.out; omega
        case rel => exact ⟨(wrap64 ((wrap64 (2 * x5_2)) + 1)), (wrap64 (x6_2 - 1)), (by first | rfl | (simp; done) | (simp [*]; done)), (by first | rfl | (simp; done) | (simp [*]; done)), H', ⟨by have := HK1.out; have := HK2.out; omega⟩, ⟨by (with_reducible repeat (first | apply Kd.R_alloc | apply Kd.R_drewN | apply Kd.R_drew)); exact HO_3.out⟩, ⟨by repeat (first | (with_reducible first | exact HB.out | apply below_alloc | apply pw_below_drewN | apply below_drew1) | exact HB.out)⟩⟩
       ·replace c7 := Bool.eq_false_iff.mpr c7
        subst c7
        have H1 : (spec_l6Bits.l1 k2 l0 x3_1 x4_1 (wrap64 (2 * x5_2)) (wrap64 (x6_2 - 1))) = some r := by rw [if_neg (show ¬ (false = true) by decide)] at H; exact H
        clear H
        have H := H1
        clear H1
        have H' := Aside0.mk H
        clear H
        go_wp2_with (first | ((with_reducible refine gate_callee (f := 78) rfl ?_); refine goesL_ (some 23) rfl rfl Try.func78 (by kernel_rfl) rfl #[.slice A0 l0.length c0, .int .i64 (wrap64 ((wrap64 (8 * x4_1)) + x6_2))] rfl (by (try simp only [List.map_toArray, List.map_cons, List.map_nil]); first | done | rfl | (simp only [List.length_drop, List.length_take]; rfl)) ?_; (with_reducible refine (spec_l5Holds.calls k2 _ _ l0 (wrap64 ((wrap64 (8 * x4_1)) + x6_2)) false _ ?side1 ?side2 A6.out).mono ?_); (case side1 => repeat (first | exact (Kd.C_below HR0.out HB.out) | (with_reducible refine Kd.C_alloc ?_ _) | (with_reducible refine Kd.C_drewN ?_ _) | (with_reducible refine Kd.C_drew ?_))); (case side2 => exact HC0.out); rintro e w' ⟨rfl, ⟨nd, rfl⟩⟩; refine ⟨_, rfl, ?_⟩))
        go_roundg k2
        case measure => have := HK1.out; have := HK2.out; omega
        case rel => exact ⟨(wrap64 (2 * x5_2)), (wrap64 (x6_2 - 1)), (by first | rfl | (simp; done) | (simp [*]; done)), (by first | rfl | (simp; done) | (simp [*]; done)), H', ⟨by have := HK1.out; have := HK2.out; omega⟩, ⟨by (with_reducible repeat (first | apply Kd.R_alloc | apply Kd.R_drewN | apply Kd.R_drew)); exact HO_3.out⟩, ⟨by repeat (first | (with_reducible first | exact HB.out | apply below_alloc | apply pw_below_drewN | apply below_drew1) | exact HB.out)⟩⟩
      ·rw [if_neg c5] at H
       have c5b0 : decide (0 ≤ x6_2) = false := decide_eq_false c5
       clear c5
       by_cases c8 : x3_1.length < 140737488355328
       ·rw [if_pos c8] at H
        have LMc8 := Aside0.mk c8
        clear c8
        obtain ⟨y105, hy105⟩ : ∃ y_ : List Int, y_ = (x3_1 ++ [(x5_2) % 256]) := ⟨_, rfl⟩
        replace H : (spec_l6Bits.l0 k2 l0 y105 (wrap64 (x4_1 + 1))) = some r := by first | (rw [hy105]; with_reducible exact H) | (have H2_ := (Option.bind_some _ _).symm.trans H; rw [hy105]; with_reducible exact H2_) | (have H2_ := (Option.bind_some _ _).symm.trans H; with_reducible exact H2_) | with_reducible exact H | (rw [hy105]; exact H) | exact H
        have Ny105 := Aside0.mk hy105
        clear hy105
        have H' := Aside0.mk H
        clear H
        go_wp2_with (first | ((with_reducible refine gate_builtin (b := .append) (xs := #[.tmp 26, .tmp 29]) rfl ?_); at_builtin; refine Kd.R_append (Kd.int .u8) (w0 := w) w.heap.size rfl (.tmp 26) (.tmp 29) 25 5 (.int .u8 0) 1 rfl Try.underlying25 info5 rfl (by decide) (by omega) u3 x3_1 ((x5_2) % 256) [.int .u8 ((x5_2) % 256)] (fun _ => True) (fun _ => False) rfl rfl ?aP (fun _ hk => hk.elim) ?aF ?aO ?aB ?aS ?aL ?_; (case aP => exact rfl); (case aB => exact (by repeat (first | (with_reducible first | exact HB.out | apply below_alloc | apply pw_below_drewN | apply below_drew1) | exact HB.out))); (case aF => exact (fun _ _ => trivial)); (case aO => exact (by (with_reducible repeat (first | apply Kd.R_alloc | apply Kd.R_drewN | apply Kd.R_drew)); exact HO_3.out)); (case aS => exact (below_size (by repeat (first | (with_reducible first | exact HB.out | apply below_alloc | apply pw_below_drewN | apply below_drew1) | exact HB.out)))); (case aL => have := LMc8.out; omega); intro v106 w9 ho hb hg hat; rw [← Ny105.out] at ho; have n0_ := Aside0.mk (hb); have n1_ := Aside0.mk (ho); clear HB; clear HO_3; have HB := n0_; have HO107 := n1_; clear n0_ n1_; clear ho hb hg hat))
        go_roundg k2
        case measure => have := HK1.out; have := HK2.out; omega
        case rel => exact ⟨(y105), (wrap64 (x4_1 + 1)), (by first | rfl | (simp; done) | (simp [*]; done)), H', ⟨by have := HK1.out; have := HK2.out; omega⟩, ⟨by (with_reducible repeat (first | apply Kd.R_alloc | apply Kd.R_drewN | apply Kd.R_drew)); exact HO107.out⟩, ⟨by repeat (first | (with_reducible first | exact HB.out | apply below_alloc | apply pw_below_drewN | apply below_drew1) | exact HB.out)⟩⟩
       ·rw [if_neg c8] at H
        exact absurd H (by simp)
   ·rw [if_neg c4] at H
    have c4b0 : decide (x4_1 < 32) = false := decide_eq_false c4
    clear c4
    obtain rfl := Option.some.inj H
    go_wp2
    go_ret
    exact ⟨_, by first | rfl | (simp [errW_none, errW_some] <;> rfl) | (simp [*, errW_none, errW_some] <;> rfl), by (with_reducible repeat (first | apply Kd.R_alloc | apply Kd.R_drewN | apply Kd.R_drew)); exact HO_3.out, by repeat (first | (with_reducible first | exact HB.out | apply below_alloc | apply pw_below_drewN | apply below_drew1) | exact HB.out)⟩
end Go.Proofs.Ytgfadfahbhcllaa.Q
end
section
namespace Go.Proofs.Ytgfadfahbhcllaa.Q
open Go.RowKit Go.Proofs.YtgfadfahbhcllaaW.PrintWords Go.Proofs.YtgfadfahbhcllaaW.PrintLast Go.Proofs.Ytgfadfahbhcllaa.LK Go.Proofs.YtgfadfahbhcllaaW.PrintMore
attribute [local go_sem] max2_int min2_int max_two min_two max_three min_three max_four min_four
set_option linter.unusedVariables false
set_option linter.unusedSimpArgs false
def spec_l6Two.f (a0 : Int) : Option (List Int) := some (([(Int.tmod a0 256) % 256, (wrap64 (Int.tdiv a0 256)) % 256] : List Int))
set_option maxHeartbeats 8000000 in
set_option maxRecDepth 100000 in
theorem spec_l6Two.calls (a0 : Int) (r : List Int) (w : World) (h : spec_l6Two.f a0 = some r) :
  Calls Try.prog 93 #[.int .i64 a0] w fun e w' => ∃ v0_ : Value, e = .returned (v0_) ∧ Kd.R (Kd.int .u8) 5 w' w.heap.size (fun _ => True) v0_ r ∧ Below w.heap.size w w' := by
 have HB := Aside0.mk (Below.refl w.heap.size w)
 have H : (some (([(Int.tmod a0 256) % 256, (wrap64 (Int.tdiv a0 256)) % 256] : List Int))) = some r := h
 clear h
 obtain ⟨y101, hy101⟩ : ∃ y_ : List Int, y_ = (([(Int.tmod a0 256) % 256, (wrap64 (Int.tdiv a0 256)) % 256] : List Int)) := ⟨_, rfl⟩
 replace H : (some y101) = some r := by first | (rw [hy101]; with_reducible exact H) | (have H2_ := (Option.bind_some _ _).symm.trans H; rw [hy101]; with_reducible exact H2_) | (have H2_ := (Option.bind_some _ _).symm.trans H; with_reducible exact H2_) | with_reducible exact H | (rw [hy101]; exact H) | exact H
 have Ny101 := Aside0.mk hy101
 clear hy101
 obtain rfl := Option.some.inj H
 go_enter Try.func93, Try.ntmps93
 go_wp2_with (first | ((with_reducible refine gate_dst (N := 9) rfl ?_); refine Kd.R_lit (Kd.int .u8) _ 5 ?hg (N := 9) ?hd (xs := ([(Int.tmod a0 256) % 256, (wrap64 (Int.tdiv a0 256)) % 256] : List Int)) (inner := [.int .u8 ((Int.tmod a0 256) % 256), .int .u8 ((wrap64 (Int.tdiv a0 256)) % 256)]) (ok := fun _ => True) (okp := fun _ => True) ?hr ?hp (fun _ hk => hk) trivial (Below.refl _ _) (Nat.le_refl _) (by simp) ?_; (case hd => rfl); (case hg => rfl); (case hr => first | (go_simp; done) | (go_simp; rfl)); (case hp => exact (Reps.one (show Kd.M (Kd.int .u8) _ _ _ ((Int.tmod a0 256) % 256) [.int .u8 ((Int.tmod a0 256) % 256)] from rfl) (Reps.one (show Kd.M (Kd.int .u8) _ _ _ ((wrap64 (Int.tdiv a0 256)) % 256) [.int .u8 ((wrap64 (Int.tdiv a0 256)) % 256)] from rfl) (Reps.none _ _)))); intro v102 w2 ho3 hb hg_ hnew_; clear hg_ hnew_; (first | rw [← Ny101.out] at ho3 | (simp only [Int.reduceToNat] at ho3; rw [← Ny101.out] at ho3)); have n0_ := Aside0.mk (Kd.R_lower ho3 (below_size (by repeat (first | (with_reducible first | exact HB.out | apply below_alloc | apply pw_below_drewN | apply below_drew1) | exact HB.out)))); have n1_ := Aside0.mk (below_step (by repeat (first | (with_reducible first | exact HB.out | apply below_alloc | apply pw_below_drewN | apply below_drew1) | exact HB.out)) hb); clear HB; have HO103 := n0_; have HB := n1_; clear n0_ n1_; clear hb ho3))
 go_ret
 exact ⟨_, by first | rfl | (simp [errW_none, errW_some] <;> rfl) | (simp [*, errW_none, errW_some] <;> rfl), by (with_reducible repeat (first | apply Kd.R_alloc | apply Kd.R_drewN | apply Kd.R_drew)); exact HO103.out, by repeat (first | (with_reducible first | exact HB.out | apply below_alloc | apply pw_below_drewN | apply below_drew1) | exact HB.out)⟩
end Go.Proofs.Ytgfadfahbhcllaa.Q
end
section
namespace Go.Proofs.Ytgfadfahbhcllaa.Q
open Go.RowKit Go.Proofs.YtgfadfahbhcllaaW.PrintWords Go.Proofs.YtgfadfahbhcllaaW.PrintLast Go.Proofs.Ytgfadfahbhcllaa.LK Go.Proofs.YtgfadfahbhcllaaW.PrintMore
attribute [local go_sem] max2_int min2_int max_two min_two max_three min_three max_four min_four
set_option linter.unusedVariables false
set_option linter.unusedSimpArgs false
def spec_l6Denied.l0 : Nat → List Int → Int → List Int → Int → Option (List Int)
 | 0, _, _, _, _ => none
 | k + 1, x0, x2, x7, x8 => if x8 < x2 then (if x8 < (x0.length : Int) then (if 0 ≤ x8 then ((spec_l6Two.f (rd x0 x8)).bind fun t105 => (if x7.length + t105.length < 140737488355328 then (spec_l6Denied.l0 k x0 x2 (x7 ++ t105) (wrap64 (x8 + 1))) else (none))) else (none)) else ((some (([0, 0] : List Int) : List Int)).bind fun y111 => (if x7.length + y111.length < 140737488355328 then (spec_l6Denied.l0 k x0 x2 (x7 ++ y111) (wrap64 (x8 + 1))) else (none)))) else (some x7)
def spec_l6Denied.f (k : Nat) (l0 : List Int) (a1 : Int) (a2 : Int) : Option (List Int) := spec_l6Denied.l0 k l0 a2 (([] : List Int)) a1
set_option maxHeartbeats 8000000 in
set_option maxRecDepth 100000 in
theorem spec_l6Denied.calls (k : Nat) (A0 : Option Addr) (c0 : Nat) (l0 : List Int) (a1 : Int) (a2 : Int) (r : List Int) (w : World) (hr0 : Kd.C (Kd.int .i64) w A0 l0.length l0) (hc0 : l0.length ≤ c0) (h : spec_l6Denied.f k l0 a1 a2 = some r) :
  Calls Try.prog 65 #[.slice A0 l0.length c0, .int .i64 a1, .int .i64 a2] w fun e w' => ∃ v0_ : Value, e = .returned (v0_) ∧ Kd.R (Kd.int .u8) 5 w' w.heap.size (fun _ => True) v0_ r ∧ Below w.heap.size w w' := by
 have HR0 := Aside0.mk hr0
 have HC0 := Aside0.mk hc0
 clear hr0 hc0
 have HB := Aside0.mk (Below.refl w.heap.size w)
 have H : (spec_l6Denied.l0 k l0 a2 (([] : List Int)) a1) = some r := h
 clear h
 obtain ⟨y101, hy101⟩ : ∃ y_ : List Int, y_ = (([] : List Int)) := ⟨_, rfl⟩
 replace H : (spec_l6Denied.l0 k l0 a2 y101 a1) = some r := by first | (rw [hy101]; with_reducible exact H) | (have H2_ := (Option.bind_some _ _).symm.trans H; rw [hy101]; with_reducible exact H2_) | (have H2_ := (Option.bind_some _ _).symm.trans H; with_reducible exact H2_) | with_reducible exact H | (rw [hy101]; exact H) | exact H
 have Ny101 := Aside0.mk hy101
 clear hy101
 have H' := Aside0.mk H
 clear H
 go_enter Try.func65, Try.ntmps65
 go_wp2_with (first | ((with_reducible refine gate_dst (N := 9) rfl ?_); refine Kd.R_lit (Kd.int .u8) _ 5 ?hg (N := 9) ?hd (xs := ([] : List Int)) (inner := []) (ok := fun _ => True) (okp := fun _ => True) ?hr ?hp (fun _ hk => hk) trivial (Below.refl _ _) (Nat.le_refl _) (by simp) ?_; (case hd => rfl); (case hg => rfl); (case hr => first | (go_simp; done) | (go_simp; rfl)); (case hp => exact (Reps.none _ _)); intro v102 w4 ho5 hb hg_ hnew_; clear hg_ hnew_; (first | rw [← Ny101.out] at ho5 | (simp only [Int.reduceToNat] at ho5; rw [← Ny101.out] at ho5)); have n0_ := Aside0.mk (Kd.R_lower ho5 (below_size (by repeat (first | (with_reducible first | exact HB.out | apply below_alloc | apply pw_below_drewN | apply below_drew1) | exact HB.out)))); have n1_ := Aside0.mk (below_step (by repeat (first | (with_reducible first | exact HB.out | apply below_alloc | apply pw_below_drewN | apply below_drew1) | exact HB.out)) hb); clear HB; have HO103 := n0_; have HB := n1_; clear n0_ n1_; clear hb ho5))
 go_loopg [7, 8] k (fun kq v7 v8 w' => ∃ (x7_1 : List Int) (x8_1 : Int), v8 = .int .i64 x8_1 ∧ Aside0 (spec_l6Denied.l0 kq l0 a2 x7_1 x8_1 = some r) ∧ Aside0 (kq ≤ k) ∧ Aside0 (Kd.R (Kd.int .u8) 5 w' w.heap.size (fun _ => True) v7 x7_1) ∧ Aside0 (Below w.heap.size w w'))
 case atStart => exact ⟨(y101), (a1), (by first | rfl | (simp; done) | (simp [*]; done)), H', ⟨Nat.le_refl _⟩, ⟨by (with_reducible repeat (first | apply Kd.R_alloc | apply Kd.R_drewN | apply Kd.R_drew)); exact HO103.out⟩, ⟨by repeat (first | (with_reducible first | exact HB.out | apply below_alloc | apply pw_below_drewN | apply below_drew1) | exact HB.out)⟩⟩
 case round =>
  clear H'
  try clear p2
  obtain ⟨x7_1, x8_1, rfl, HA, HK1, HO_7, HB⟩ := hrel
  cases gk with
  | zero => exact absurd HA.out (by simp [spec_l6Denied.l0])
  | succ k1 =>
   have H := HA.out
   clear HA
   simp only [spec_l6Denied.l0] at H
   by_cases c6 : x8_1 < a2
   ·rw [if_pos c6] at H
    have c6b0 : decide (x8_1 < a2) = true := decide_eq_true c6
    clear c6
    by_cases c7 : x8_1 < (l0.length : Int)
    ·rw [if_pos c7] at H
     have c7b0 : decide (x8_1 < (l0.length : Int)) = true := decide_eq_true c7
     clear c7
     by_cases c8 : 0 ≤ x8_1
     ·rw [if_pos c8] at H
      have c8b0 : decide (0 ≤ x8_1) = true := decide_eq_true c8
      clear c8
      replace H := Option.bind_eq_some_iff.mp H
      obtain ⟨t105, A90, H⟩ := H
      replace H : (if x7_1.length + t105.length < 140737488355328 then (spec_l6Denied.l0 k1 l0 a2 (x7_1 ++ t105) (wrap64 (x8_1 + 1))) else (none)) = some r := H
      have A9 := Aside0.mk A90
      clear A90
      by_cases c10 : x7_1.length + t105.length < 140737488355328
      ·rw [if_pos c10] at H
       have LMc10 := Aside0.mk c10
       clear c10
       obtain ⟨y108, hy108⟩ : ∃ y_ : List Int, y_ = (x7_1 ++ t105) := ⟨_, rfl⟩
       replace H : (spec_l6Denied.l0 k1 l0 a2 y108 (wrap64 (x8_1 + 1))) = some r := by first | (rw [hy108]; with_reducible exact H) | (have H2_ := (Option.bind_some _ _).symm.trans H; rw [hy108]; with_reducible exact H2_) | (have H2_ := (Option.bind_some _ _).symm.trans H; with_reducible exact H2_) | with_reducible exact H | (rw [hy108]; exact H) | exact H
       have Ny108 := Aside0.mk hy108
       clear hy108
       have H' := Aside0.mk H
       clear H
       have p104 : 0 ≤ (x8_1 : Int) := of_decide_eq_true (by first | (with_reducible assumption) | assumption)
       have q104 : x8_1 < (l0.length : Int) := of_decide_eq_true (by first | (with_reducible assumption) | assumption)
       obtain ⟨ad104, e104, hx104_0⟩ := Kd.at_int HR0.out x8_1 p104 q104
       cases e104
       replace hx104_0 := (HB.out.cell (World.block_lt_of_cell? w _ hx104_0)).trans hx104_0
       replace p104 := eq_true p104
       replace q104 := eq_true q104
       go_wp2_with (first | ((with_reducible refine gate_callee (f := 93) rfl ?_); refine goesL_ (some 25) rfl rfl Try.func93 (by kernel_rfl) rfl #[.int .i64 (rd l0 x8_1)] rfl (by (try simp only [List.map_toArray, List.map_cons, List.map_nil]); first | done | rfl | (simp only [List.length_drop, List.length_take]; rfl)) ?_; (with_reducible refine (spec_l6Two.calls (rd l0 x8_1) t105 _ A9.out).mono ?_); rintro e w11 ⟨v106, rfl, ho0, hb⟩; refine ⟨_, rfl, ?_⟩; have n0_ := Aside0.mk (Kd.R_elder' (by (with_reducible repeat (first | apply Kd.R_alloc | apply Kd.R_drewN | apply Kd.R_drew)); exact HO_7.out) (Kd.R_base ho0) hb); have n1_ := Aside0.mk (Kd.R_lower (Kd.R_new' ho0 (Kd.R_lt (by (with_reducible repeat (first | apply Kd.R_alloc | apply Kd.R_drewN | apply Kd.R_drew)); exact HO_7.out))) (below_size (by repeat (first | (with_reducible first | exact HB.out | apply below_alloc | apply pw_below_drewN | apply below_drew1) | exact HB.out)))); have n2_ := Aside0.mk (below_step (by repeat (first | (with_reducible first | exact HB.out | apply below_alloc | apply pw_below_drewN | apply below_drew1) | exact HB.out)) hb); clear HO_7; clear HB; have HO_7 := n0_; have HO107 := n1_; have HB := n2_; clear n0_ n1_ n2_; (try clear hb); (try clear hb2); (try clear hk); (try clear hi); (try clear ho0); obtain ⟨Ao13, co13, eo13⟩ := Kd.R_slice HO107.out; subst eo13) | ((with_reducible refine gate_builtin (b := .append) (xs := #[.tmp 20, .tmp 25]) rfl ?_); at_builtin; refine Kd.R_append_rows (Kd.int .u8) (w0 := w) w.heap.size rfl (.tmp 20) (.tmp 25) 25 5 (.int .u8 0) 1 rfl Try.underlying25 info5 rfl (by decide) (by omega) u7 x7_1 t105 _ _ _ (fun k_ => some k_ ≠ (.slice Ao13 t105.length co13 : Value).ownBlock) (fun _ => False) rfl rfl ?aO ?aR (fun _ _ h => h) (fun _ h => h.elim) ?aF ?aB ?aS ?aL ?_; (case aR => repeat (first | exact (Kd.R_reads' HO107.out).2.2 | (with_reducible refine Kd.C_alloc ?_ _) | (with_reducible refine Kd.C_drewN ?_ _) | (with_reducible refine Kd.C_drew ?_))); (case aB => exact (by repeat (first | (with_reducible first | exact HB.out | apply below_alloc | apply pw_below_drewN | apply below_drew1) | exact HB.out))); (case aF => exact (fun k_ hk => Kd.fresh' (Kd.R_lt (by (with_reducible repeat (first | apply Kd.R_alloc | apply Kd.R_drewN | apply Kd.R_drew)); exact HO107.out)) k_ hk)); (case aO => exact (by (with_reducible repeat (first | apply Kd.R_alloc | apply Kd.R_drewN | apply Kd.R_drew)); exact Kd.R_mono HO_7.out (fun _ hk => hk.2))); (case aS => exact (below_size (by repeat (first | (with_reducible first | exact HB.out | apply below_alloc | apply pw_below_drewN | apply below_drew1) | exact HB.out)))); (case aL => have := LMc10.out; omega); intro v109 w12 ho hb hg hat; rw [← Ny108.out] at ho; have n0_ := Aside0.mk (Kd.R_after (ok := (fun _ => True)) (by (with_reducible repeat (first | apply Kd.R_alloc | apply Kd.R_drewN | apply Kd.R_drew)); exact HO107.out) hg hat); have n1_ := Aside0.mk (hb); have n2_ := Aside0.mk (ho); clear HO107; clear HB; clear HO_7; have HO107 := n0_; have HB := n1_; have HO110 := n2_; clear n0_ n1_ n2_; clear ho hb hg hat))
       go_roundg k1
       case measure => have := HK1.out; omega
       case rel => exact ⟨(y108), (wrap64 (x8_1 + 1)), (by first | rfl | (simp; done) | (simp [*]; done)), H', ⟨by have := HK1.out; omega⟩, ⟨by (with_reducible repeat (first | apply Kd.R_alloc | apply Kd.R_drewN | apply Kd.R_drew)); exact Kd.R_mono HO110.out (fun _ hk => trivial)⟩, ⟨by repeat (first | (with_reducible first | exact HB.out | apply below_alloc | apply pw_below_drewN | apply below_drew1) | exact HB.out)⟩⟩
      ·rw [if_neg c10] at H
       exact absurd H (by simp)
     ·rw [if_neg c8] at H
      exact absurd H (by simp)
    ·rw [if_neg c7] at H
     have c7b0 : decide (x8_1 < (l0.length : Int)) = false := decide_eq_false c7
     clear c7
     obtain ⟨y111, hy111⟩ : ∃ y_ : List Int, y_ = (([0, 0] : List Int)) := ⟨_, rfl⟩
     replace H : (if x7_1.length + y111.length < 140737488355328 then (spec_l6Denied.l0 k1 l0 a2 (x7_1 ++ y111) (wrap64 (x8_1 + 1))) else (none)) = some r := by first | (rw [hy111]; with_reducible exact H) | (have H2_ := (Option.bind_some _ _).symm.trans H; rw [hy111]; with_reducible exact H2_) | (have H2_ := (Option.bind_some _ _).symm.trans H; with_reducible exact H2_) | with_reducible exact H | (rw [hy111]; exact H) | exact H
     have Ny111 := Aside0.mk hy111
     clear hy111
     by_cases c14 : x7_1.length + y111.length < 140737488355328
     ·rw [if_pos c14] at H
      have LMc14 := Aside0.mk c14
      clear c14
      obtain ⟨y114, hy114⟩ : ∃ y_ : List Int, y_ = (x7_1 ++ y111) := ⟨_, rfl⟩
      replace H : (spec_l6Denied.l0 k1 l0 a2 y114 (wrap64 (x8_1 + 1))) = some r := by first | (rw [hy114]; with_reducible exact H) | (have H2_ := (Option.bind_some _ _).symm.trans H; rw [hy114]; with_reducible exact H2_) | (have H2_ := (Option.bind_some _ _).symm.trans H; with_reducible exact H2_) | with_reducible exact H | (rw [hy114]; exact H) | exact H
      have Ny114 := Aside0.mk hy114
      clear hy114
      have H' := Aside0.mk H
      clear H
      go_wp2_with (first | ((with_reducible refine gate_dst (N := 28) rfl ?_); refine Kd.R_lit (Kd.int .u8) _ 5 ?hg (N := 28) ?hd (xs := ([0, 0] : List Int)) (inner := [.int .u8 0, .int .u8 0]) (ok := fun _ => True) (okp := fun _ => True) ?hr ?hp (fun _ hk => hk) trivial (Below.refl _ _) (Nat.le_refl _) (by simp) ?_; (case hd => rfl); (case hg => rfl); (case hr => first | (go_simp; done) | (go_simp; rfl)); (case hp => exact (Reps.one (show Kd.M (Kd.int .u8) _ _ _ 0 [.int .u8 0] from rfl) (Reps.one (show Kd.M (Kd.int .u8) _ _ _ 0 [.int .u8 0] from rfl) (Reps.none _ _)))); intro v112 w15 ho16 hb hg_ hnew_; clear hg_ hnew_; (first | rw [← Ny111.out] at ho16 | (simp only [Int.reduceToNat] at ho16; rw [← Ny111.out] at ho16)); have n0_ := Aside0.mk (Kd.R_elder' (by (with_reducible repeat (first | apply Kd.R_alloc | apply Kd.R_drewN | apply Kd.R_drew)); exact HO_7.out) (Kd.R_base ho16) hb); have n1_ := Aside0.mk (Kd.R_lower (Kd.R_new' ho16 (Kd.R_lt (by (with_reducible repeat (first | apply Kd.R_alloc | apply Kd.R_drewN | apply Kd.R_drew)); exact HO_7.out))) (below_size (by repeat (first | (with_reducible first | exact HB.out | apply below_alloc | apply pw_below_drewN | apply below_drew1) | exact HB.out)))); have n2_ := Aside0.mk (below_step (by repeat (first | (with_reducible first | exact HB.out | apply below_alloc | apply pw_below_drewN | apply below_drew1) | exact HB.out)) hb); clear HO_7; clear HB; have HO_7 := n0_; have HO113 := n1_; have HB := n2_; clear n0_ n1_ n2_; clear hb ho16; obtain ⟨Ao18, co18, eo18⟩ := Kd.R_slice HO113.out; subst eo18) | ((with_reducible refine gate_builtin (b := .append) (xs := #[.tmp 27, .tmp 28]) rfl ?_); at_builtin; refine Kd.R_append_rows (Kd.int .u8) (w0 := w) w.heap.size rfl (.tmp 27) (.tmp 28) 25 5 (.int .u8 0) 1 rfl Try.underlying25 info5 rfl (by decide) (by omega) u7 x7_1 y111 _ _ _ (fun k_ => some k_ ≠ (.slice Ao18 y111.length co18 : Value).ownBlock) (fun _ => False) rfl rfl ?aO ?aR (fun _ _ h => h) (fun _ h => h.elim) ?aF ?aB ?aS ?aL ?_; (case aR => repeat (first | exact (Kd.R_reads' HO113.out).2.2 | (with_reducible refine Kd.C_alloc ?_ _) | (with_reducible refine Kd.C_drewN ?_ _) | (with_reducible refine Kd.C_drew ?_))); (case aB => exact (by repeat (first | (with_reducible first | exact HB.out | apply below_alloc | apply pw_below_drewN | apply below_drew1) | exact HB.out))); (case aF => exact (fun k_ hk => Kd.fresh' (Kd.R_lt (by (with_reducible repeat (first | apply Kd.R_alloc | apply Kd.R_drewN | apply Kd.R_drew)); exact HO113.out)) k_ hk)); (case aO => exact (by (with_reducible repeat (first | apply Kd.R_alloc | apply Kd.R_drewN | apply Kd.R_drew)); exact Kd.R_mono HO_7.out (fun _ hk => hk.2))); (case aS => exact (below_size (by repeat (first | (with_reducible first | exact HB.out | apply below_alloc | apply pw_below_drewN | apply below_drew1) | exact HB.out)))); (case aL => have := LMc14.out; omega); intro v115 w17 ho hb hg hat; rw [← Ny114.out] at ho; have n0_ := Aside0.mk (Kd.R_after (ok := (fun _ => True)) (by (with_reducible repeat (first | apply Kd.R_alloc | apply Kd.R_drewN | apply Kd.R_drew)); exact HO113.out) hg hat); have n1_ := Aside0.mk (hb); have n2_ := Aside0.mk (ho); clear HO113; clear HB; clear HO_7; have HO113 := n0_; have HB := n1_; have HO116 := n2_; clear n0_ n1_ n2_; clear ho hb hg hat))
      go_roundg k1
      case measure => have := HK1.out; omega
      case rel => exact ⟨(y114), (wrap64 (x8_1 + 1)), (by first | rfl | (simp; done) | (simp [*]; done)), H', ⟨by have := HK1.out; omega⟩, ⟨by (with_reducible repeat (first | apply Kd.R_alloc | apply Kd.R_drewN | apply Kd.R_drew)); exact Kd.R_mono HO116.out (fun _ hk => trivial)⟩, ⟨by repeat (first | (with_reducible first | exact HB.out | apply below_alloc | apply pw_below_drewN | apply below_drew1) | exact HB.out)⟩⟩
     ·rw [if_neg c14] at H
      exact absurd H (by simp)
   ·rw [if_neg c6] at H
    have c6b0 : decide (x8_1 < a2) = false := decide_eq_false c6
    clear c6
    obtain rfl := Option.some.inj H
    go_wp2
    go_ret
    exact ⟨_, by first | rfl | (simp [errW_none, errW_some] <;> rfl) | (simp [*, errW_none, errW_some] <;> rfl), by (with_reducible repeat (first | apply Kd.R_alloc | apply Kd.R_drewN | apply Kd.R_drew)); exact HO_7.out, by repeat (first | (with_reducible first | exact HB.out | apply below_alloc | apply pw_below_drewN | apply below_drew1) | exact HB.out)⟩
end Go.Proofs.Ytgfadfahbhcllaa.Q
end
section
namespace Go.Proofs.Ytgfadfahbhcllaa.P
open Go.RowKit Go.Proofs.YtgfadfahbhcllaaW.PrintWords Go.Proofs.YtgfadfahbhcllaaW.PrintMore Go.Proofs.Ytgfadfahbhcllaa.Q
set_option linter.unusedVariables false
set_option linter.unusedSimpArgs false
theorem bits_ev (u : List Int) (h : u.length ≤ 4611686018427387904) : Ev (fun k => spec_l6Bits.f k u) (bitsL u) := by
 simp only [spec_l6Bits.f]
 have inner : ∀ (x3 : List Int) (n : Nat), n < 32 → x3.length < 140737488355328 → ∀ r, Ev (fun k => spec_l6Bits.l0 k u (x3 ++ [bitB u n]) (wrap64 ((n : Int) + 1))) r → Ev (fun k => spec_l6Bits.l1 k u x3 n 0 7) r := by
  intro x3 n hn hx r hr
  have one : ∀ (b j : Int) (c : Int), 0 ≤ b → b ≤ 255 → 0 ≤ j → j ≤ 7 → Ev (fun k => spec_l6Bits.l1 k u x3 n (2 * b + mB u (8 * (n : Int) + j)) (j - 1)) r → Ev (fun k => spec_l6Bits.l1 k u x3 n b j) r := by
   intro b j c h0 h1 h2 h3 e
   have w1 : wrap64 (wrap64 (8 * (n : Int)) + j) = 8 * (n : Int) + j := by rw [w64 (n := 8 * (n : Int)) (by omega) (by omega), w64 (n := 8 * (n : Int) + j) (by omega) (by omega)]
   have w2 : wrap64 (j - 1) = j - 1 := w64 (n := j - 1) (by omega) (by omega)
   have w3 : wrap64 (2 * b) = 2 * b := w64 (n := 2 * b) (by omega) (by omega)
   have w4 : wrap64 (2 * b + 1) = 2 * b + 1 := w64 (n := 2 * b + 1) (by omega) (by omega)
   have hh := holds_ev u (8 * (n : Int) + j) h
   refine Ev.step (g := fun k => (spec_l5Holds.f k u (8 * (n : Int) + j)).bind fun t104 => if t104 = true then spec_l6Bits.l1 k u x3 n (2 * b + 1) (j - 1) else spec_l6Bits.l1 k u x3 n (2 * b) (j - 1)) ⟨0, fun k _ => ?_⟩ (Ev.bind hh ?_)
   ·simp only [spec_l6Bits.l1]
    rw [if_pos (show j ≥ 0 from h2), w1, w2, w3, w4]
   ·by_cases hm : 8 * (n : Int) + j ∈ u
    ·have em : mB u (8 * (n : Int) + j) = 1 := by unfold mB; rw [if_pos hm]
     rw [em] at e
     exact Ev.pos (decide_eq_true hm) e
    ·have em : mB u (8 * (n : Int) + j) = 0 := by unfold mB; rw [if_neg hm]
     rw [em, Int.add_zero] at e
     exact Ev.neg (by rw [decide_eq_false hm]; decide) e
  have b0 := mB_01 u (8 * (n : Int) + 0)
  have b1 := mB_01 u (8 * (n : Int) + 1)
  have b2 := mB_01 u (8 * (n : Int) + 2)
  have b3 := mB_01 u (8 * (n : Int) + 3)
  have b4 := mB_01 u (8 * (n : Int) + 4)
  have b5 := mB_01 u (8 * (n : Int) + 5)
  have b6 := mB_01 u (8 * (n : Int) + 6)
  have b7 := mB_01 u (8 * (n : Int) + 7)
  refine one 0 7 0 (by omega) (by omega) (by omega) (by omega) ?_
  refine one _ (7 - 1) 0 (by omega) (by omega) (by omega) (by omega) ?_
  rw [show (7 : Int) - 1 = 6 from rfl]
  refine one _ (6 - 1) 0 (by omega) (by omega) (by omega) (by omega) ?_
  rw [show (6 : Int) - 1 = 5 from rfl]
  refine one _ (5 - 1) 0 (by omega) (by omega) (by omega) (by omega) ?_
  rw [show (5 : Int) - 1 = 4 from rfl]
  refine one _ (4 - 1) 0 (by omega) (by omega) (by omega) (by omega) ?_
  rw [show (4 : Int) - 1 = 3 from rfl]
  refine one _ (3 - 1) 0 (by omega) (by omega) (by omega) (by omega) ?_
  rw [show (3 : Int) - 1 = 2 from rfl]
  refine one _ (2 - 1) 0 (by omega) (by omega) (by omega) (by omega) ?_
  rw [show (2 : Int) - 1 = 1 from rfl]
  refine one _ (1 - 1) 0 (by omega) (by omega) (by omega) (by omega) ?_
  rw [show (1 : Int) - 1 = 0 from rfl, show (0 : Int) - 1 = -1 from rfl]
  refine Ev.step (g := fun k => spec_l6Bits.l0 k u (x3 ++ [bitB u n]) (wrap64 ((n : Int) + 1))) ⟨0, fun k _ => ?_⟩ hr
  simp only [spec_l6Bits.l1]
  rw [if_neg (by decide), if_pos hx]
  congr 3
  unfold bitB
  rw [Int.add_zero] at *
  omega
 have key : ∀ m n, n + m = 32 → Ev (fun k => spec_l6Bits.l0 k u ((List.range n).map fun k => bitB u (k : Nat)) (n : Int)) (bitsL u) := by
  intro m
  induction m with
  | zero =>
   intro n hn
   obtain rfl : n = 32 := by omega
   refine Ev.last ⟨0, fun k _ => ?_⟩
   simp only [spec_l6Bits.l0]
   rw [if_neg (by decide)]
   rfl
  | succ m ih =>
   intro n hn
   have h1 := ih (n + 1) (by omega)
   rw [List.range_succ, List.map_append] at h1
   refine Ev.step (g := fun k => spec_l6Bits.l1 k u ((List.range n).map fun k => bitB u (k : Nat)) n 0 7) ⟨0, fun k _ => ?_⟩ (inner _ n (by omega) (by rw [List.length_map, List.length_range]; omega) _ ?_)
   ·simp only [spec_l6Bits.l0]
    rw [if_pos (by omega)]
   ·rw [w64 (n := (n : Int) + 1) (by omega) (by omega)]
    exact h1
 exact key 32 0 rfl
theorem two_is (x : Int) (h0 : 0 ≤ x) (h1 : x < 65536) : spec_l6Two.f x = some (leB 2 x) := by
 unfold spec_l6Two.f
 rw [Int.tmod_eq_emod_of_nonneg h0, Int.tdiv_eq_ediv_of_nonneg h0, w64 (n := x / 256) (by omega) (by omega), Int.emod_emod_of_dvd _ (by decide)]
 congr 1
 show _ = [x / 2 ^ (8 * 0) % 256, x / 2 ^ (8 * 1) % 256]
 rw [show (2 : Int) ^ (8 * 0) = 1 from rfl, show (2 : Int) ^ (8 * 1) = 256 from rfl, Int.ediv_one]
theorem den_ev (xs : List Int) (a : Nat) (ha : a ≤ 8) (hg : goodS xs = true) (h : xs.length ≤ 4611686018427387904) : Ev (fun k => spec_l6Denied.f k xs a ((a + 8 : Nat) : Int)) (denL xs xs.length a) := by
 simp only [spec_l6Denied.f]
 have one : ∀ (x7 : List Int) (j : Nat), j < a + 8 → x7.length ≤ 1000 → ∀ r, Ev (fun k => spec_l6Denied.l0 k xs ((a + 8 : Nat) : Int) (x7 ++ denB xs xs.length j) ((j + 1 : Nat) : Int)) r → Ev (fun k => spec_l6Denied.l0 k xs ((a + 8 : Nat) : Int) x7 (j : Int)) r := by
  intro x7 j hj hx r hr
  have hw : wrap64 ((j : Int) + 1) = ((j + 1 : Nat) : Int) := by rw [w64 (by omega) (by omega)]; rfl
  refine Ev.step (g := fun k => spec_l6Denied.l0 k xs ((a + 8 : Nat) : Int) (x7 ++ denB xs xs.length j) ((j + 1 : Nat) : Int)) ⟨0, fun k _ => ?_⟩ hr
  by_cases c : j < xs.length
  ·have hm := goodS_mem hg (rd_mem c)
   have e : denB xs xs.length j = leB 2 (rd xs j) := by unfold denB; rw [if_pos c]
   simp only [spec_l6Denied.l0]
   rw [if_pos (by omega), if_pos (by omega), if_pos (by omega), two_is _ hm.1 (by omega), Option.bind_some, if_pos (by rw [leB_length]; omega), hw, e]
  ·have e : denB xs xs.length j = [0, 0] := by unfold denB; rw [if_neg c]
   simp only [spec_l6Denied.l0]
   rw [if_pos (by omega), if_neg (by omega), Option.bind_some, if_pos (by simp only [List.length_cons, List.length_nil]; omega), hw, e]
 have l2 : ∀ j, (denB xs xs.length j).length = 2 := fun j => denB_length _ _ _
 have fin : ∀ x7, Ev (fun k => spec_l6Denied.l0 k xs ((a + 8 : Nat) : Int) x7 ((a + 7 + 1 : Nat) : Int)) x7 := by
  intro x7
  refine Ev.last ⟨0, fun k _ => ?_⟩
  simp only [spec_l6Denied.l0]
  rw [if_neg (by omega)]
 have e : denL xs xs.length a = ((((((([] ++ denB xs xs.length a) ++ denB xs xs.length (a + 1)) ++ denB xs xs.length (a + 2)) ++ denB xs xs.length (a + 3)) ++ denB xs xs.length (a + 4)) ++ denB xs xs.length (a + 5)) ++ denB xs xs.length (a + 6)) ++ denB xs xs.length (a + 7) := by
  unfold denL
  simp only [List.append_assoc, List.nil_append]
 rw [e]
 refine one _ a (by omega) (by simp) _ ?_
 refine one _ (a + 1) (by omega) (by simp only [List.length_append, List.length_nil, l2]; omega) _ ?_
 refine one _ (a + 2) (by omega) (by simp only [List.length_append, List.length_nil, l2]; omega) _ ?_
 refine one _ (a + 3) (by omega) (by simp only [List.length_append, List.length_nil, l2]; omega) _ ?_
 refine one _ (a + 4) (by omega) (by simp only [List.length_append, List.length_nil, l2]; omega) _ ?_
 refine one _ (a + 5) (by omega) (by simp only [List.length_append, List.length_nil, l2]; omega) _ ?_
 refine one _ (a + 6) (by omega) (by simp only [List.length_append, List.length_nil, l2]; omega) _ ?_
 exact one _ (a + 7) (by omega) (by simp only [List.length_append, List.length_nil, l2]; omega) _ (fin _)
end Go.Proofs.Ytgfadfahbhcllaa.P
end
section
namespace Go.Proofs.Ytgfadfahbhcllaa.Q
open Go.RowKit Go.Proofs.YtgfadfahbhcllaaW.PrintWords Go.Proofs.YtgfadfahbhcllaaW.PrintLast Go.Proofs.Ytgfadfahbhcllaa.LK Go.Proofs.YtgfadfahbhcllaaW.PrintMore
attribute [local go_sem] max2_int min2_int max_two min_two max_three min_three max_four min_four
set_option linter.unusedVariables false
set_option linter.unusedSimpArgs false
def spec_l2Four.f (a0 : Int) : Option (List Int) := some (([(Int.tmod a0 256) % 256, ((Int.tdiv a0 256) % 4294967296) % 256, ((Int.tdiv a0 65536) % 4294967296) % 256, ((Int.tdiv a0 16777216) % 4294967296) % 256] : List Int))
set_option maxHeartbeats 8000000 in
set_option maxRecDepth 100000 in
theorem spec_l2Four.calls (a0 : Int) (r : List Int) (w : World) (h : spec_l2Four.f a0 = some r) :
  Calls Try.prog 48 #[.int .u32 a0] w fun e w' => ∃ v0_ : Value, e = .returned (v0_) ∧ Kd.R (Kd.int .u8) 5 w' w.heap.size (fun _ => True) v0_ r ∧ Below w.heap.size w w' := by
 have HB := Aside0.mk (Below.refl w.heap.size w)
 have H : (some (([(Int.tmod a0 256) % 256, ((Int.tdiv a0 256) % 4294967296) % 256, ((Int.tdiv a0 65536) % 4294967296) % 256, ((Int.tdiv a0 16777216) % 4294967296) % 256] : List Int))) = some r := h
 clear h
 obtain ⟨y101, hy101⟩ : ∃ y_ : List Int, y_ = (([(Int.tmod a0 256) % 256, ((Int.tdiv a0 256) % 4294967296) % 256, ((Int.tdiv a0 65536) % 4294967296) % 256, ((Int.tdiv a0 16777216) % 4294967296) % 256] : List Int)) := ⟨_, rfl⟩
 replace H : (some y101) = some r := by first | (rw [hy101]; with_reducible exact H) | (have H2_ := (Option.bind_some _ _).symm.trans H; rw [hy101]; with_reducible exact H2_) | (have H2_ := (Option.bind_some _ _).symm.trans H; with_reducible exact H2_) | with_reducible exact H | (rw [hy101]; exact H) | exact H
 have Ny101 := Aside0.mk hy101
 clear hy101
 obtain rfl := Option.some.inj H
 go_enter Try.func48, Try.ntmps48
 go_wp2_with (first | ((with_reducible refine gate_dst (N := 17) rfl ?_); refine Kd.R_lit (Kd.int .u8) _ 5 ?hg (N := 17) ?hd (xs := ([(Int.tmod a0 256) % 256, ((Int.tdiv a0 256) % 4294967296) % 256, ((Int.tdiv a0 65536) % 4294967296) % 256, ((Int.tdiv a0 16777216) % 4294967296) % 256] : List Int)) (inner := [.int .u8 ((Int.tmod a0 256) % 256), .int .u8 (((Int.tdiv a0 256) % 4294967296) % 256), .int .u8 (((Int.tdiv a0 65536) % 4294967296) % 256), .int .u8 (((Int.tdiv a0 16777216) % 4294967296) % 256)]) (ok := fun _ => True) (okp := fun _ => True) ?hr ?hp (fun _ hk => hk) trivial (Below.refl _ _) (Nat.le_refl _) (by simp) ?_; (case hd => rfl); (case hg => rfl); (case hr => first | (go_simp; done) | (go_simp; rfl)); (case hp => exact (Reps.one (show Kd.M (Kd.int .u8) _ _ _ ((Int.tmod a0 256) % 256) [.int .u8 ((Int.tmod a0 256) % 256)] from rfl) (Reps.one (show Kd.M (Kd.int .u8) _ _ _ (((Int.tdiv a0 256) % 4294967296) % 256) [.int .u8 (((Int.tdiv a0 256) % 4294967296) % 256)] from rfl) (Reps.one (show Kd.M (Kd.int .u8) _ _ _ (((Int.tdiv a0 65536) % 4294967296) % 256) [.int .u8 (((Int.tdiv a0 65536) % 4294967296) % 256)] from rfl) (Reps.one (show Kd.M (Kd.int .u8) _ _ _ (((Int.tdiv a0 16777216) % 4294967296) % 256) [.int .u8 (((Int.tdiv a0 16777216) % 4294967296) % 256)] from rfl) (Reps.none _ _)))))); intro v102 w2 ho3 hb hg_ hnew_; clear hg_ hnew_; (first | rw [← Ny101.out] at ho3 | (simp only [Int.reduceToNat] at ho3; rw [← Ny101.out] at ho3)); have n0_ := Aside0.mk (Kd.R_lower ho3 (below_size (by repeat (first | (with_reducible first | exact HB.out | apply below_alloc | apply pw_below_drewN | apply below_drew1) | exact HB.out)))); have n1_ := Aside0.mk (below_step (by repeat (first | (with_reducible first | exact HB.out | apply below_alloc | apply pw_below_drewN | apply below_drew1) | exact HB.out)) hb); clear HB; have HO103 := n0_; have HB := n1_; clear n0_ n1_; clear hb ho3))
 go_ret
 exact ⟨_, by first | rfl | (simp [errW_none, errW_some] <;> rfl) | (simp [*, errW_none, errW_some] <;> rfl), by (with_reducible repeat (first | apply Kd.R_alloc | apply Kd.R_drewN | apply Kd.R_drew)); exact HO103.out, by repeat (first | (with_reducible first | exact HB.out | apply below_alloc | apply pw_below_drewN | apply below_drew1) | exact HB.out)⟩
end Go.Proofs.Ytgfadfahbhcllaa.Q
end
section
namespace Go.Proofs.Ytgfadfahbhcllaa.Q
open Go.RowKit Go.Proofs.YtgfadfahbhcllaaW.PrintWords Go.Proofs.YtgfadfahbhcllaaW.PrintLast Go.Proofs.Ytgfadfahbhcllaa.LK Go.Proofs.YtgfadfahbhcllaaW.PrintMore
attribute [local go_sem] max2_int min2_int max_two min_two max_three min_three max_four min_four
set_option linter.unusedVariables false
set_option linter.unusedSimpArgs false
def spec_l2Cat.l0 : Nat → List (List Int) → List Int → Int → Option (List Int)
 | 0, _, _, _ => none
 | k + 1, x0, x3, x4 => if x4 < (x0.length : Int) then (if 0 ≤ x4 then (if x3.length + (rd_L1 x0 x4).length < 140737488355328 then (spec_l2Cat.l0 k x0 (x3 ++ (rd_L1 x0 x4)) (wrap64 (x4 + 1))) else (none)) else (none)) else (some x3)
def spec_l2Cat.f (k : Nat) (l0 : List (List Int)) : Option (List Int) := spec_l2Cat.l0 k l0 (([] : List Int)) 0
set_option maxHeartbeats 8000000 in
set_option maxRecDepth 100000 in
theorem spec_l2Cat.calls (k : Nat) (A0 : Option Addr) (c0 : Nat) (l0 : List (List Int)) (r : List Int) (w : World) (hr0 : Kd.C (Kd.slice 5 (Kd.int .u8)) w A0 l0.length l0) (hc0 : l0.length ≤ c0) (h : spec_l2Cat.f k l0 = some r) :
  Calls Try.prog 47 #[.slice A0 l0.length c0] w fun e w' => ∃ v0_ : Value, e = .returned (v0_) ∧ Kd.R (Kd.int .u8) 5 w' w.heap.size (fun _ => True) v0_ r ∧ Below w.heap.size w w' := by
 have HR0 := Aside0.mk hr0
 have HC0 := Aside0.mk hc0
 clear hr0 hc0
 have HB := Aside0.mk (Below.refl w.heap.size w)
 have H : (spec_l2Cat.l0 k l0 (([] : List Int)) 0) = some r := h
 clear h
 obtain ⟨y101, hy101⟩ : ∃ y_ : List Int, y_ = (([] : List Int)) := ⟨_, rfl⟩
 replace H : (spec_l2Cat.l0 k l0 y101 0) = some r := by first | (rw [hy101]; with_reducible exact H) | (have H2_ := (Option.bind_some _ _).symm.trans H; rw [hy101]; with_reducible exact H2_) | (have H2_ := (Option.bind_some _ _).symm.trans H; with_reducible exact H2_) | with_reducible exact H | (rw [hy101]; exact H) | exact H
 have Ny101 := Aside0.mk hy101
 clear hy101
 have H' := Aside0.mk H
 clear H
 go_enter Try.func47, Try.ntmps47
 go_wp2_with (first | ((with_reducible refine gate_dst (N := 5) rfl ?_); refine Kd.R_lit (Kd.int .u8) _ 5 ?hg (N := 5) ?hd (xs := ([] : List Int)) (inner := []) (ok := fun _ => True) (okp := fun _ => True) ?hr ?hp (fun _ hk => hk) trivial (Below.refl _ _) (Nat.le_refl _) (by simp) ?_; (case hd => rfl); (case hg => rfl); (case hr => first | (go_simp; done) | (go_simp; rfl)); (case hp => exact (Reps.none _ _)); intro v102 w2 ho3 hb hg_ hnew_; clear hg_ hnew_; (first | rw [← Ny101.out] at ho3 | (simp only [Int.reduceToNat] at ho3; rw [← Ny101.out] at ho3)); have n0_ := Aside0.mk (Kd.R_lower ho3 (below_size (by repeat (first | (with_reducible first | exact HB.out | apply below_alloc | apply pw_below_drewN | apply below_drew1) | exact HB.out)))); have n1_ := Aside0.mk (below_step (by repeat (first | (with_reducible first | exact HB.out | apply below_alloc | apply pw_below_drewN | apply below_drew1) | exact HB.out)) hb); clear HB; have HO103 := n0_; have HB := n1_; clear n0_ n1_; clear hb ho3))
 go_loopg [3, 4] k (fun kq v3 v4 w' => ∃ (x3_1 : List Int) (x4_1 : Int), v4 = .int .i64 x4_1 ∧ Aside0 (spec_l2Cat.l0 kq l0 x3_1 x4_1 = some r) ∧ Aside0 (kq ≤ k) ∧ Aside0 (Kd.R (Kd.int .u8) 5 w' w.heap.size (fun _ => True) v3 x3_1) ∧ Aside0 (Below w.heap.size w w'))
 case atStart => exact ⟨(y101), (0), (by first | rfl | (simp; done) | (simp [*]; done)), H', ⟨Nat.le_refl _⟩, ⟨by (with_reducible repeat (first | apply Kd.R_alloc | apply Kd.R_drewN | apply Kd.R_drew)); exact HO103.out⟩, ⟨by repeat (first | (with_reducible first | exact HB.out | apply below_alloc | apply pw_below_drewN | apply below_drew1) | exact HB.out)⟩⟩
 case round =>
  clear H'
  try clear p2
  obtain ⟨x3_1, x4_1, rfl, HA, HK1, HO_3, HB⟩ := hrel
  cases gk with
  | zero => exact absurd HA.out (by simp [spec_l2Cat.l0])
  | succ k1 =>
   have H := HA.out
   clear HA
   simp only [spec_l2Cat.l0] at H
   by_cases c4 : x4_1 < (l0.length : Int)
   ·rw [if_pos c4] at H
    have c4b0 : decide (x4_1 < (l0.length : Int)) = true := decide_eq_true c4
    clear c4
    by_cases c5 : 0 ≤ x4_1
    ·rw [if_pos c5] at H
     have c5b0 : decide (0 ≤ x4_1) = true := decide_eq_true c5
     clear c5
     by_cases c6 : x3_1.length + (rd_L1 l0 x4_1).length < 140737488355328
     ·rw [if_pos c6] at H
      have LMc6 := Aside0.mk c6
      clear c6
      obtain ⟨y105, hy105⟩ : ∃ y_ : List Int, y_ = (x3_1 ++ (rd_L1 l0 x4_1)) := ⟨_, rfl⟩
      replace H : (spec_l2Cat.l0 k1 l0 y105 (wrap64 (x4_1 + 1))) = some r := by first | (rw [hy105]; with_reducible exact H) | (have H2_ := (Option.bind_some _ _).symm.trans H; rw [hy105]; with_reducible exact H2_) | (have H2_ := (Option.bind_some _ _).symm.trans H; with_reducible exact H2_) | with_reducible exact H | (rw [hy105]; exact H) | exact H
      have Ny105 := Aside0.mk hy105
      clear hy105
      have H' := Aside0.mk H
      clear H
      have p104 : 0 ≤ (x4_1 : Int) := of_decide_eq_true (by first | (with_reducible assumption) | assumption)
      have q104 : x4_1 < (l0.length : Int) := of_decide_eq_true (by first | (with_reducible assumption) | assumption)
      obtain ⟨ad104, A104_0, c104_0, e104, hx104_0, hl104_0, hi104_0⟩ := at_L1 HR0.out x4_1 p104 q104
      cases e104
      replace hx104_0 := (HB.out.cell (World.block_lt_of_cell? w _ hx104_0)).trans hx104_0
      have HR104_0 := Aside0.mk hi104_0
      have HC104_0 := Aside0.mk hl104_0
      clear hi104_0 hl104_0
      replace p104 := eq_true p104
      replace q104 := eq_true q104
      go_wp2_with (first | ((with_reducible refine gate_builtin (b := .append) (xs := #[.tmp 12, .tmp 16]) rfl ?_); at_builtin; refine Kd.R_append_rows (Kd.int .u8) (w0 := w) w.heap.size rfl (.tmp 12) (.tmp 16) 25 5 (.int .u8 0) 1 rfl Try.underlying25 info5 rfl (by decide) (by omega) u3 x3_1 (rd_L1 l0 x4_1) _ _ _ (fun _ => True) (fun _ => False) rfl rfl ?aO ?aR (fun _ _ h => h) (fun _ h => h.elim) ?aF ?aB ?aS ?aL ?_; (case aR => repeat (first | exact (Kd.C_below HR104_0.out HB.out) | (with_reducible refine Kd.C_alloc ?_ _) | (with_reducible refine Kd.C_drewN ?_ _) | (with_reducible refine Kd.C_drew ?_))); (case aB => exact (by repeat (first | (with_reducible first | exact HB.out | apply below_alloc | apply pw_below_drewN | apply below_drew1) | exact HB.out))); (case aF => exact (fun _ _ => trivial)); (case aO => exact (by (with_reducible repeat (first | apply Kd.R_alloc | apply Kd.R_drewN | apply Kd.R_drew)); exact HO_3.out)); (case aS => exact (below_size (by repeat (first | (with_reducible first | exact HB.out | apply below_alloc | apply pw_below_drewN | apply below_drew1) | exact HB.out)))); (case aL => have := LMc6.out; omega); intro v106 w7 ho hb hg hat; rw [← Ny105.out] at ho; have n0_ := Aside0.mk (hb); have n1_ := Aside0.mk (ho); clear HB; clear HO_3; have HB := n0_; have HO107 := n1_; clear n0_ n1_; clear ho hb hg hat))
      go_roundg k1
      case measure => have := HK1.out; omega
      case rel => exact ⟨(y105), (wrap64 (x4_1 + 1)), (by first | rfl | (simp; done) | (simp [*]; done)), H', ⟨by have := HK1.out; omega⟩, ⟨by (with_reducible repeat (first | apply Kd.R_alloc | apply Kd.R_drewN | apply Kd.R_drew)); exact HO107.out⟩, ⟨by repeat (first | (with_reducible first | exact HB.out | apply below_alloc | apply pw_below_drewN | apply below_drew1) | exact HB.out)⟩⟩
     ·rw [if_neg c6] at H
      exact absurd H (by simp)
    ·rw [if_neg c5] at H
     exact absurd H (by simp)
   ·rw [if_neg c4] at H
    have c4b0 : decide (x4_1 < (l0.length : Int)) = false := decide_eq_false c4
    clear c4
    obtain rfl := Option.some.inj H
    go_wp2
    go_ret
    exact ⟨_, by first | rfl | (simp [errW_none, errW_some] <;> rfl) | (simp [*, errW_none, errW_some] <;> rfl), by (with_reducible repeat (first | apply Kd.R_alloc | apply Kd.R_drewN | apply Kd.R_drew)); exact HO_3.out, by repeat (first | (with_reducible first | exact HB.out | apply below_alloc | apply pw_below_drewN | apply below_drew1) | exact HB.out)⟩
end Go.Proofs.Ytgfadfahbhcllaa.Q
end
section
namespace Go.Proofs.Ytgfadfahbhcllaa.Q
open Go.RowKit Go.Proofs.YtgfadfahbhcllaaW.PrintWords Go.Proofs.YtgfadfahbhcllaaW.PrintLast Go.Proofs.Ytgfadfahbhcllaa.LK Go.Proofs.YtgfadfahbhcllaaW.PrintMore
attribute [local go_sem] max2_int min2_int max_two min_two max_three min_three max_four min_four
set_option linter.unusedVariables false
set_option linter.unusedSimpArgs false
def spec_l1Zeros.l0 : Nat → Int → List Int → Int → Option (List Int)
 | 0, _, _, _ => none
 | k + 1, x0, x3, x4 => if x4 < x0 then (if x3.length < 140737488355328 then (spec_l1Zeros.l0 k x0 (x3 ++ [0]) (wrap64 (x4 + 1))) else (none)) else (some x3)
def spec_l1Zeros.f (k : Nat) (a0 : Int) : Option (List Int) := spec_l1Zeros.l0 k a0 (([] : List Int)) 0
set_option maxHeartbeats 8000000 in
set_option maxRecDepth 100000 in
theorem spec_l1Zeros.calls (k : Nat) (a0 : Int) (r : List Int) (w : World) (h : spec_l1Zeros.f k a0 = some r) :
  Calls Try.prog 49 #[.int .i64 a0] w fun e w' => ∃ v0_ : Value, e = .returned (v0_) ∧ Kd.R (Kd.int .u8) 5 w' w.heap.size (fun _ => True) v0_ r ∧ Below w.heap.size w w' := by
 have HB := Aside0.mk (Below.refl w.heap.size w)
 have H : (spec_l1Zeros.l0 k a0 (([] : List Int)) 0) = some r := h
 clear h
 obtain ⟨y101, hy101⟩ : ∃ y_ : List Int, y_ = (([] : List Int)) := ⟨_, rfl⟩
 replace H : (spec_l1Zeros.l0 k a0 y101 0) = some r := by first | (rw [hy101]; with_reducible exact H) | (have H2_ := (Option.bind_some _ _).symm.trans H; rw [hy101]; with_reducible exact H2_) | (have H2_ := (Option.bind_some _ _).symm.trans H; with_reducible exact H2_) | with_reducible exact H | (rw [hy101]; exact H) | exact H
 have Ny101 := Aside0.mk hy101
 clear hy101
 have H' := Aside0.mk H
 clear H
 go_enter Try.func49, Try.ntmps49
 go_wp2_with (first | ((with_reducible refine gate_dst (N := 5) rfl ?_); refine Kd.R_lit (Kd.int .u8) _ 5 ?hg (N := 5) ?hd (xs := ([] : List Int)) (inner := []) (ok := fun _ => True) (okp := fun _ => True) ?hr ?hp (fun _ hk => hk) trivial (Below.refl _ _) (Nat.le_refl _) (by simp) ?_; (case hd => rfl); (case hg => rfl); (case hr => first | (go_simp; done) | (go_simp; rfl)); (case hp => exact (Reps.none _ _)); intro v102 w2 ho3 hb hg_ hnew_; clear hg_ hnew_; (first | rw [← Ny101.out] at ho3 | (simp only [Int.reduceToNat] at ho3; rw [← Ny101.out] at ho3)); have n0_ := Aside0.mk (Kd.R_lower ho3 (below_size (by repeat (first | (with_reducible first | exact HB.out | apply below_alloc | apply pw_below_drewN | apply below_drew1) | exact HB.out)))); have n1_ := Aside0.mk (below_step (by repeat (first | (with_reducible first | exact HB.out | apply below_alloc | apply pw_below_drewN | apply below_drew1) | exact HB.out)) hb); clear HB; have HO103 := n0_; have HB := n1_; clear n0_ n1_; clear hb ho3))
 go_loopg [3, 4] k (fun kq v3 v4 w' => ∃ (x3_1 : List Int) (x4_1 : Int), v4 = .int .i64 x4_1 ∧ Aside0 (spec_l1Zeros.l0 kq a0 x3_1 x4_1 = some r) ∧ Aside0 (kq ≤ k) ∧ Aside0 (Kd.R (Kd.int .u8) 5 w' w.heap.size (fun _ => True) v3 x3_1) ∧ Aside0 (Below w.heap.size w w'))
 case atStart => exact ⟨(y101), (0), (by first | rfl | (simp; done) | (simp [*]; done)), H', ⟨Nat.le_refl _⟩, ⟨by (with_reducible repeat (first | apply Kd.R_alloc | apply Kd.R_drewN | apply Kd.R_drew)); exact HO103.out⟩, ⟨by repeat (first | (with_reducible first | exact HB.out | apply below_alloc | apply pw_below_drewN | apply below_drew1) | exact HB.out)⟩⟩
 case round =>
  clear H'
  try clear p2
  obtain ⟨x3_1, x4_1, rfl, HA, HK1, HO_3, HB⟩ := hrel
  cases gk with
  | zero => exact absurd HA.out (by simp [spec_l1Zeros.l0])
  | succ k1 =>
   have H := HA.out
   clear HA
   simp only [spec_l1Zeros.l0] at H
   by_cases c4 : x4_1 < a0
   ·rw [if_pos c4] at H
    have c4b0 : decide (x4_1 < a0) = true := decide_eq_true c4
    clear c4
    by_cases c5 : x3_1.length < 140737488355328
    ·rw [if_pos c5] at H
     have LMc5 := Aside0.mk c5
     clear c5
     obtain ⟨y104, hy104⟩ : ∃ y_ : List Int, y_ = (x3_1 ++ [0]) := ⟨_, rfl⟩
     replace H : (spec_l1Zeros.l0 k1 a0 y104 (wrap64 (x4_1 + 1))) = some r := by first | (rw [hy104]; with_reducible exact H) | (have H2_ := (Option.bind_some _ _).symm.trans H; rw [hy104]; with_reducible exact H2_) | (have H2_ := (Option.bind_some _ _).symm.trans H; with_reducible exact H2_) | with_reducible exact H | (rw [hy104]; exact H) | exact H
     have Ny104 := Aside0.mk hy104
     clear hy104
     have H' := Aside0.mk H
     clear H
     go_wp2_with (first | ((with_reducible refine gate_builtin (b := .append) (xs := #[.tmp 11, .tmp 12]) rfl ?_); at_builtin; refine Kd.R_append (Kd.int .u8) (w0 := w) w.heap.size rfl (.tmp 11) (.tmp 12) 25 5 (.int .u8 0) 1 rfl Try.underlying25 info5 rfl (by decide) (by omega) u3 x3_1 0 [.int .u8 0] (fun _ => True) (fun _ => False) rfl rfl ?aP (fun _ hk => hk.elim) ?aF ?aO ?aB ?aS ?aL ?_; (case aP => exact rfl); (case aB => exact (by repeat (first | (with_reducible first | exact HB.out | apply below_alloc | apply pw_below_drewN | apply below_drew1) | exact HB.out))); (case aF => exact (fun _ _ => trivial)); (case aO => exact (by (with_reducible repeat (first | apply Kd.R_alloc | apply Kd.R_drewN | apply Kd.R_drew)); exact HO_3.out)); (case aS => exact (below_size (by repeat (first | (with_reducible first | exact HB.out | apply below_alloc | apply pw_below_drewN | apply below_drew1) | exact HB.out)))); (case aL => have := LMc5.out; omega); intro v105 w6 ho hb hg hat; rw [← Ny104.out] at ho; have n0_ := Aside0.mk (hb); have n1_ := Aside0.mk (ho); clear HB; clear HO_3; have HB := n0_; have HO106 := n1_; clear n0_ n1_; clear ho hb hg hat))
     go_roundg k1
     case measure => have := HK1.out; omega
     case rel => exact ⟨(y104), (wrap64 (x4_1 + 1)), (by first | rfl | (simp; done) | (simp [*]; done)), H', ⟨by have := HK1.out; omega⟩, ⟨by (with_reducible repeat (first | apply Kd.R_alloc | apply Kd.R_drewN | apply Kd.R_drew)); exact HO106.out⟩, ⟨by repeat (first | (with_reducible first | exact HB.out | apply below_alloc | apply pw_below_drewN | apply below_drew1) | exact HB.out)⟩⟩
    ·rw [if_neg c5] at H
     exact absurd H (by simp)
   ·rw [if_neg c4] at H
    have c4b0 : decide (x4_1 < a0) = false := decide_eq_false c4
    clear c4
    obtain rfl := Option.some.inj H
    go_wp2
    go_ret
    exact ⟨_, by first | rfl | (simp [errW_none, errW_some] <;> rfl) | (simp [*, errW_none, errW_some] <;> rfl), by (with_reducible repeat (first | apply Kd.R_alloc | apply Kd.R_drewN | apply Kd.R_drew)); exact HO_3.out, by repeat (first | (with_reducible first | exact HB.out | apply below_alloc | apply pw_below_drewN | apply below_drew1) | exact HB.out)⟩
end Go.Proofs.Ytgfadfahbhcllaa.Q
end
section
namespace Go.Proofs.Ytgfadfahbhcllaa.P
open Go.RowKit Go.Proofs.YtgfadfahbhcllaaW.PrintWords Go.Proofs.YtgfadfahbhcllaaW.PrintMore Go.Proofs.Ytgfadfahbhcllaa.Q
set_option linter.unusedVariables false
set_option linter.unusedSimpArgs false
theorem four_is (x : Int) (h : 0 ≤ x ∧ x ≤ 4294967295) : spec_l2Four.f x = some (leB 4 x) := by
 unfold spec_l2Four.f
 show some _ = some [x / 2 ^ (8 * 0) % 256, x / 2 ^ (8 * 1) % 256, x / 2 ^ (8 * 2) % 256, x / 2 ^ (8 * 3) % 256]
 rw [Int.tmod_eq_emod_of_nonneg h.1, Int.tdiv_eq_ediv_of_nonneg h.1, Int.tdiv_eq_ediv_of_nonneg h.1, Int.tdiv_eq_ediv_of_nonneg h.1]
 congr 1
 simp only [List.cons.injEq, and_true]
 refine ⟨?_, ?_, ?_, ?_⟩
 ·show x % 256 % 256 = x / 1 % 256; omega
 ·show x / 256 % 4294967296 % 256 = x / 256 % 256; omega
 ·show x / 65536 % 4294967296 % 256 = x / 65536 % 256; omega
 ·show x / 16777216 % 4294967296 % 256 = x / 16777216 % 256; omega
theorem zeros_ev (n : Nat) (h : n ≤ 1048576) : Ev (fun k => spec_l1Zeros.f k n) (List.replicate n 0) := by
 simp only [spec_l1Zeros.f]
 have h1 := Ev.loop0 (fun k (s : List Int × Int) => spec_l1Zeros.l0 k n s.1 s.2) (fun i => (List.replicate i 0, (i : Int))) n (List.replicate n 0) ?_ ?_
 ·exact h1
 ·intro i hi
  refine ⟨0, fun k _ => ?_⟩
  simp only [spec_l1Zeros.l0]
  rw [if_pos (by omega), if_pos (by rw [List.length_replicate]; omega), w64s hi (by omega), List.replicate_succ']
 ·refine Ev.last ⟨0, fun k _ => ?_⟩
  simp only [spec_l1Zeros.l0]
  rw [if_neg (by omega)]
theorem cat_ev (ls : List (List Int)) (hl : ls.length ≤ 1048576) (h : ls.flatten.length ≤ 1048576) : Ev (fun k => spec_l2Cat.f k ls) ls.flatten := by
 simp only [spec_l2Cat.f]
 have h1 := Ev.loop0 (fun k (s : List Int × Int) => spec_l2Cat.l0 k ls s.1 s.2) (fun i => ((ls.take i).flatten, (i : Int))) ls.length ls.flatten ?_ ?_
 ·exact h1
 ·intro i hi
  refine ⟨0, fun k _ => ?_⟩
  obtain ⟨p, hp⟩ := some_at hi
  have e : ls.getD (i : Int).toNat [] = p := by
   rw [Int.toNat_natCast, List.getD_eq_getElem?_getD, hp]
   rfl
  have e2 : (ls.take (i + 1)).flatten = (ls.take i).flatten ++ p := by
   rw [List.take_add_one, hp]
   simp
  have e3 : (ls.take (i + 1)).flatten.length ≤ ls.flatten.length := by
   conv => rhs; rw [← List.take_append_drop (i + 1) ls]
   rw [List.flatten_append, List.length_append]
   omega
  rw [e2, List.length_append] at e3
  simp only [spec_l2Cat.l0]
  first | unfold rd_L1 | unfold rd_L2 | unfold rd_L3 | unfold rd_L4 | unfold rd_L5 | unfold rd_L8 | unfold rd_L14
  rw [e, if_pos (by omega), if_pos (by omega), if_pos (by omega), w64s hi (by omega), e2]
 ·refine Ev.last ⟨0, fun k _ => ?_⟩
  simp only [spec_l2Cat.l0]
  rw [if_neg (by omega), List.take_length]
end Go.Proofs.Ytgfadfahbhcllaa.P
end
section
namespace Go.Proofs.Ytgfadfahbhcllaa.Q
open Go.RowKit Go.Proofs.YtgfadfahbhcllaaW.PrintWords Go.Proofs.YtgfadfahbhcllaaW.PrintLast Go.Proofs.YtgfadfahbhcllaaW.PrintMore Go.Proofs.Ytgfadfahbhcllaa.LK
set_option linter.unusedVariables false
theorem C_cells {k : IntKind} {w w' : World} {A : Option Addr} {n : Nat} {xs : List Int} (h : Kd.C (Kd.int k) w A n xs) (hc : ∀ a v, w.cell? a = some v → w'.cell? a = some v) : Kd.C (Kd.int k) w' A n xs := by
 obtain ⟨h1, h2, h3⟩ := Kd.reads_of_C (enc := Value.int k) (d := (0 : Int)) (h1 := fun _ => rfl) h
 refine Kd.C_of_reads (h1 := fun _ => rfl) (d := (0 : Int)) ⟨h1, h2, fun hp => ?_⟩
 obtain ⟨ad, e, hj⟩ := h3 hp
 exact ⟨ad, e, fun j hjn => hc _ _ (hj j hjn)⟩
theorem cells_of_blocks {w w' : World} (hb : ∀ k, k < w.heap.size → w'.heap[k]? = w.heap[k]?) : ∀ a v, w.cell? a = some v → w'.cell? a = some v := fun a v h => by
 have hlt := World.block_lt_of_cell? w a h
 rw [World.cell?_of_block (hb _ hlt)]
 exact h
theorem cells_of_mark {w w' : World} {g : Nat} {cs : Array Value} {e : Nat} {fr fr' : Nat × Nat} (hS : Stp (fun k => k = g) w w') (h1 : w.heap[g]? = some (.cells cs e fr)) (h2 : w'.heap[g]? = some (.cells cs e fr')) : ∀ a v, w.cell? a = some v → w'.cell? a = some v := fun a v h => by
 have hlt := World.block_lt_of_cell? w a h
 by_cases hg : a.block = g
 ·rw [← h]
  unfold World.cell?
  rw [hg, h1, h2]
 ·rw [World.cell?_of_block (hS.block _ hlt hg)]
  exact h
def RdP (w : World) (v : Value) (xs : List Int) : Prop := ∃ A c, v = .slice A xs.length c ∧ xs.length ≤ c ∧ Kd.C (Kd.int .u8) w A xs.length xs
theorem RdP.cells {w w' : World} {v : Value} {xs : List Int} (h : RdP w v xs) (hc : ∀ a v, w.cell? a = some v → w'.cell? a = some v) : RdP w' v xs := by
 obtain ⟨A, c, e, hl, hC⟩ := h
 exact ⟨A, c, e, hl, C_cells hC hc⟩
theorem RdP.below {w w' : World} {v : Value} {xs : List Int} (h : RdP w v xs) (hb : Below w.heap.size w w') : RdP w' v xs := h.cells (cells_of_blocks (fun k hk => hb.block k hk))
theorem RdP.of_R {e base : Nat} {ok : Nat → Prop} {w : World} {v : Value} {xs : List Int} (h : Kd.R (Kd.int .u8) e w base ok v xs) : RdP w v xs := by
 obtain ⟨A, c, rfl⟩ := Kd.R_slice h
 have h2 := Kd.R_reads' h
 exact ⟨A, c, rfl, h2.2.1, h2.2.2⟩
theorem RdP.FK {w : World} {A : Option Addr} {c : Nat} {xs : List Int} (hl : xs.length ≤ c) (h : Kd.C (Kd.int .u8) w A xs.length xs) : Kd.FK (Kd.slice 5 (Kd.int .u8)) w (fun _ => True) xs [.slice A xs.length c] :=
 Kd.FK_slice_mk hl (fun W' hW => C_cells h (cells_of_blocks (fun k hk => hW k trivial hk)))
def LitP (base : Nat) (w : World) (v : Value) (xs : List Int) : Prop := ∃ g c tl fr, v = .slice (some ⟨g, 0, none⟩) xs.length c ∧ xs.length ≤ c ∧ c ≤ 9223372036854775807 ∧ base ≤ g ∧ w.heap[g]? = some (.cells (bytesV xs ++ tl).toArray 5 fr)
theorem LitP.below {base : Nat} {w w' : World} {v : Value} {xs : List Int} (h : LitP base w v xs) (hb : Below w.heap.size w w') : LitP base w' v xs := by
 obtain ⟨g, c, tl, fr, e, hl, hm, hg, hh⟩ := h
 exact ⟨g, c, tl, fr, e, hl, hm, hg, (hb.block g (blk_lt hh)).trans hh⟩
theorem LitP.of_R {base base' : Nat} {ok : Nat → Prop} {w : World} {v : Value} {xs : List Int} (h : Kd.R (Kd.int .u8) 5 w base ok v xs) (hp : 0 < xs.length) (hb : base' ≤ base) : LitP base' w v xs := by
 obtain ⟨A, c, rfl⟩ := Kd.R_slice h
 obtain ⟨B, tl, rfl, _, e, h1, _, _, h2, h3⟩ := R_block h hp
 exact ⟨B, c, tl, _, rfl, by omega, h3, by omega, h2⟩
theorem LitP.rd {base : Nat} {w : World} {v : Value} {xs : List Int} (h : LitP base w v xs) : RdP w v xs := by
 obtain ⟨g, c, tl, fr, rfl, hl, hm, hg, hh⟩ := h
 refine ⟨_, c, rfl, hl, Kd.C_of_reads (h1 := fun _ => rfl) (d := (0 : Int)) ⟨rfl, by omega, fun _ => ⟨_, rfl, fun j hj => ?_⟩⟩⟩
 have hj' : j < xs.length := hj
 have e1 : (Addr.mk g 0 none).add j = ⟨g, j, none⟩ := by
  unfold Addr.add
  by_cases h0 : j = 0
  ·rw [if_pos h0, h0]
  ·rw [if_neg h0, Nat.zero_add]
 rw [e1, cell_of_row w g j _ _ _ hh]
 unfold bytesV
 simp [List.getD_eq_getElem?_getD, List.getElem?_append_left, hj']
theorem LitP.mark {base : Nat} {w w' : World} {v : Value} {xs : List Int} (h : LitP base w v xs) {g : Nat} {cs : Array Value} {e : Nat} {fr fr' : Nat × Nat} (hS : Stp (fun k => k = g) w w') (h1 : w.heap[g]? = some (.cells cs e fr)) (h2 : w'.heap[g]? = some (.cells cs e fr')) : LitP base w' v xs := by
 obtain ⟨g', c, tl, fr2, ev, hl, hm, hg, hh⟩ := h
 by_cases hgg : g' = g
 ·subst hgg
  rw [h1] at hh
  injection hh with hh
  injection hh with e1 e2 e3
  subst e1 e2
  exact ⟨g', c, tl, fr', ev, hl, hm, hg, h2⟩
 ·exact ⟨g', c, tl, fr2, ev, hl, hm, hg, (hS.block g' (blk_lt hh) hgg).trans hh⟩
theorem conv_mark {P : Program} {t e : TypeId} (ht : P.underlying t = some (.slice e)) (he : P.underlying e = some (.int .u8)) {w : World} {g n c : Nat} {cs : Array Value} {q : Nat} {fr : Nat × Nat} (hg : w.heap[g]? = some (.cells cs q fr)) :
  ∃ w', (convert t t (.slice (some ⟨g, 0, none⟩) n c)).run P w = .ok (.slice (some ⟨g, 0, none⟩) n c) w' ∧ Stp (fun k => k = g) w w' ∧ ∃ fr', w'.heap[g]? = some (.cells cs q fr') := by
 have hsh : w.shape? g = some (q, cs.size) := by unfold World.shape?; rw [hg]
 refine ⟨w.freeze ⟨g, cs.size, none⟩ 1, ?_, ?_, ?_⟩
 ·simp [convert, run_underlying ht, run_underlying he, markStringish, hsh]
 ·unfold World.freeze
  rw [if_neg (by decide)]
  exact ⟨rfl, rfl, rfl, by simp, fun i _ hn => by show (w.heap.modify g _)[i]? = _; rw [Array.getElem?_modify, if_neg (fun h => hn h.symm)]⟩
 ·unfold World.freeze
  rw [if_neg (by decide)]
  obtain ⟨lo, hi⟩ := fr
  refine ⟨if lo == hi then (cs.size, cs.size + 1) else (min lo cs.size, max hi (cs.size + 1)), ?_⟩
  show (w.heap.modify g _)[g]? = _
  rw [Array.getElem?_modify, if_pos rfl, hg]
  rfl
theorem Bx_mark {w0 W W' : World} {l : List (Nat × Array Value × Nat)} {g : Nat} {cs : Array Value} {e : Nat} {fr : Nat × Nat} (h : Bx w0 l W) (hS : Stp (fun k => k = g) W W') (hg : w0.heap.size ≤ g) (h1 : W.heap[g]? = some (.cells cs e fr)) (ht : ∀ b ∈ l, b.2.2 ≠ e) : Bx w0 l W' :=
 h.stp hS (fun k hk => by rw [hk]; exact hg) (fun b hb he => by
  have h2 := (h.at_ b hb).2
  have h3 : b.1 = g := he
  rw [h3, h1] at h2
  injection h2 with h2
  injection h2 with _ h2 _
  exact ht b hb h2.symm)
def RowsP (w : World) (v : Value) (xss : List (List Int)) : Prop := ∃ A c, v = .slice A xss.length c ∧ xss.length ≤ c ∧ Kd.C (Kd.slice 5 (Kd.int .u8)) w A xss.length xss
theorem RowsP.below {w w' : World} {v : Value} {xss : List (List Int)} (h : RowsP w v xss) (hb : Below w.heap.size w w') : RowsP w' v xss := by
 obtain ⟨A, c, e, hl, hC⟩ := h
 exact ⟨A, c, e, hl, Kd.C_below hC hb⟩
theorem RowsP.of_N {e base : Nat} {ok : Nat → Prop} {w : World} {v : Value} {xss : List (List Int)} (h : Kd.N (Kd.slice 5 (Kd.int .u8)) e w base ok v xss) : RowsP w v xss := by
 obtain ⟨A, c, rfl⟩ := Kd.N_slice h
 have h2 := Kd.N_reads' h
 exact ⟨A, c, rfl, h2.2.1, h2.2.2⟩
end Go.Proofs.Ytgfadfahbhcllaa.Q
end
section
namespace Go.Proofs.Ytgfadfahbhcllaa.Q
open Go.RowKit Go.Proofs.YtgfadfahbhcllaaW.PrintWords Go.Proofs.YtgfadfahbhcllaaW.PrintLast Go.Proofs.YtgfadfahbhcllaaW.PrintMore Go.Proofs.Ytgfadfahbhcllaa.LK
set_option linter.unusedVariables false
set_option linter.unusedSimpArgs false
def specS_T4 : Bool × List (List Nat × List Nat) := (true, [([], []), ([], []), ([1], [1]), ([], []), ([3], [3]), ([4], [4]), ([5], [5]), ([6], [6]), ([], []), ([8], [8]), ([9], [9]), ([], []), ([11], [11]), ([12, 10], [12]), ([], []), ([14], [14]), ([15, 13], [15]), ([], []), ([0, 2, 7, 10, 13, 16, 17], [0, 2, 7, 10, 13, 16, 17]), ([18, 16], [18]), ([19, 19, 0, 1, 2, 3, 4, 5, 6, 7, 8, 9, 10, 11, 12, 13, 14, 15, 16, 17, 18, 19], [19])])
def specS_B4 : List Nat := [0, 0, 2, 0, 8, 24, 56, 120, 0, 256, 768, 0, 2048, 7936, 0, 16384, 65280, 0, 262143, 524287, 1048575]
theorem specS_tab4 : rtab .any (opsOf Try.f25 4) = specS_T4 := by kernel_rfl
theorem specS_bits4 : waitsOk specS_T4.2 specS_B4 = true := by kernel_rfl
section
variable {P : Program} {ops : Array Oper} {rest : List Oper} {o : Oper} {a : Act} {Q : Exit → Act → World → Prop} {W W' : World}
theorem valW (hw : Region.wanted o (yielded ops a.tmps) = true) {v : Value} (hrun : (execOp a.eval o).run P W = .ok (.value v) W') (h : wpList P ops Q rest (a.put o.dst v) W') : wpList P ops Q (o :: rest) a W := by
 refine wants hw fun K hK => ?_
 unfold Oper.wp
 rw [hrun]
 exact hK _ _ h
end
def spec_EncodeSnap.f (k : Nat) (a0_0 : Int) (a0_1 : Int) (l0_2 : List Int) (l0_3 : List Int) : Option (List Int) := if P.snapSz a0_0 a0_1 l0_2 l0_3 then some (encS a0_0 a0_1 l0_2 l0_3) else none
set_option maxHeartbeats 8000000 in
set_option maxRecDepth 100000 in
theorem specSnap_raw {A0 : Option Addr} {c0 : Nat} {xs : List Int} {A1 : Option Addr} {c1 : Nat} {u : List Int} {g t n c : Int} {kg kb kd0 kd8 kz k1 k2 k3 k4 kc : Nat} {one two body r : List Int} {w : World} (hr0 : Kd.C (Kd.int .i64) w A0 xs.length xs) (hc0 : xs.length ≤ c0) (hr1 : Kd.C (Kd.int .i64) w A1 u.length u) (hc1 : u.length ≤ c1)
  (hg : 0 ≤ g ∧ g ≤ 4294967295) (ht : 0 ≤ t ∧ t ≤ 4294967295) (hn : n = (xs.length : Int) % 256) (hgd : spec_l6GoodSnap.f kg g t xs u = some true) (hkb : spec_l6Bits.f kb u = some (P.bitsL u)) (hd0 : spec_l6Denied.f kd0 xs 0 8 = some (P.denL xs xs.length 0)) (hd8 : spec_l6Denied.f kd8 xs 8 16 = some (P.denL xs xs.length 8))
  (hz : spec_l1Zeros.f kz 32 = some (List.replicate 32 0)) (h1 : spec_l2Cat.f k1 [P.leB 4 g, [83, 49], [n, 0], P.leB 4 t, P.bitsL u, P.denL xs xs.length 0, P.leB 4 g] = some one) (h2 : spec_l2Cat.f k2 [P.leB 4 g, [83, 50], [0, 0], P.denL xs xs.length 8, List.replicate 32 0] = some two)
  (h3 : spec_l2Cat.f k3 [one, two] = some body) (hcr : spec_Crc32.f kc body = some c) (hcc : 0 ≤ c ∧ c ≤ 4294967295) (h4 : spec_l2Cat.f k4 [body, P.leB 4 c, P.leB 4 g] = some r) :
  Calls Try.prog 25 #[.agg #[.int .u32 g, .int .u32 t, .slice A0 xs.length c0, .slice A1 u.length c1]] w fun e w' => ∃ v0_ : Value, e = .returned (v0_) ∧ Kd.R (Kd.int .u8) 5 w' w.heap.size (fun _ => True) v0_ r ∧ Below w.heap.size w w' := by
 have jn : IntKind.u8.wrap (xs.length : Int) = n := by rw [hn, IntKind.wrap_u8]
 have HR0 := Aside0.mk hr0
 have HC0 := Aside0.mk hc0
 have HR1 := Aside0.mk hr1
 have HC1 := Aside0.mk hc1
 have HG := Aside0.mk hg
 have HT := Aside0.mk ht
 have HGd := Aside0.mk hgd
 have HKB := Aside0.mk hkb
 have HD0 := Aside0.mk hd0
 have HD8 := Aside0.mk hd8
 have HZ := Aside0.mk hz
 have E1 := Aside0.mk h1
 have E2 := Aside0.mk h2
 have E3 := Aside0.mk h3
 have E4 := Aside0.mk h4
 have HCR := Aside0.mk hcr
 have HCC := Aside0.mk hcc
 have H0 := Aside0.mk (Bx.refl w)
 clear hr0 hc0 hr1 hc1 hg ht hn hgd hkb hd0 hd8 hz h1 h2 h3 h4 hcr hcc
 go_enter Try.func25, Try.ntmps25
 go_wp2_with (first | ((with_reducible refine gate_dst (N := 1) rfl ?_); refine Aside0.out ?_))
 refine Aside0.mk ?_
 refine mk ?hw1 (N := 1) ?hd1 (cs := #[.int .u32 g, .int .u32 t, .slice A0 xs.length c0, .slice A1 u.length c1]) (t := 44) ?hr1 ?_
 case hd1 => rfl
 case hw1 => rfl
 case hr1 => first | (go_simp; done) | (go_simp; rfl)
 intro g1 hg1_ w101 hb1 hB1
 have H102 := Aside0.mk (H0.out.new hg1_ hb1 hB1)
 clear hg1_ hb1 hB1 H0
 go_wp2_with (first | ((with_reducible refine gate_dst (N := 7) rfl ?_); refine Aside0.out ?_))
 refine Aside0.mk ?_
 refine ld ?hw3 rfl ?hx3 H102.out.gt0 Try.underlying44 rfl (by kernel_rfl) ?_
 case hw3 => rfl
 case hx3 => rfl
 go_wp2_with (first | ((with_reducible refine gate_callee (f := 63) rfl ?_); refine Aside0.out ?_))
 refine Aside0.mk ?_
 refine goesW (some 8) rfl ?hw4 Try.func63 (by kernel_rfl) rfl #[.agg #[.int .u32 g, .int .u32 t, .slice A0 xs.length c0, .slice A1 u.length c1]] rfl (by (try simp only [List.map_toArray, List.map_cons, List.map_nil]); first | done | rfl) ?_
 case hw4 => rfl
 refine (spec_l6GoodSnap.calls kg g t _ _ xs _ _ u _ _ (Kd.C_below HR0.out H102.out.below) HC0.out (Kd.C_below HR1.out H102.out.below) HC1.out HGd.out).mono ?_
 rintro e w104 ⟨rfl, hb_⟩
 refine ⟨_, rfl, ?_⟩
 have H105 := Aside0.mk (H102.out.step hb_)
 clear hb_ H102
 have hk0 : w104.cell? ⟨g1, 0, none⟩ = some (.int .u32 g) := (blk_cell H105.out.gt0 0).trans rfl
 go_wp2_with (first | ((with_reducible refine gate_callee (f := 48) rfl ?_); refine Aside0.out ?_))
 refine Aside0.mk ?_
 refine goesW (some 13) rfl ?hw6 Try.func48 (by kernel_rfl) rfl #[.int .u32 g] rfl (by (try simp only [List.map_toArray, List.map_cons, List.map_nil]); first | done | rfl) ?_
 case hw6 => rfl
 refine (spec_l2Four.calls g (P.leB 4 g) _ (P.four_is g HG.out)).mono ?_
 rintro e w106 ⟨v_, rfl, ho, hb_⟩
 refine ⟨_, rfl, ?_⟩
 have H107 := Aside0.mk (H105.out.step hb_)
 clear hb_ H105
 obtain ⟨A13, c13, e13, hl13, hC13⟩ := RdP.of_R ho
 subst e13
 have HL13 := Aside0.mk hl13
 have FC13 := Aside0.mk hC13
 clear hl13 hC13 ho
 clear hk0
 try go_wp2
 have Wa := Aside0.mk H107.out.below
 have Ba := Aside0.mk H107.out.gt0
 have Na := Aside0.mk (Bx.refl w106)
 clear H107
 have H109 := Aside0.mk Na.out.drew
 refine start_ (n := 21) (S := fun w' => True) (ds := []) #[false, false, false, false, false, false, false, false, false, false, false, false, false, false, false, false, false, false, false, false, false] (by kernel_rfl) rfl rfl trivial (fun hHeld => ?_)
 clear Na
 generalize w106.drew = w108 at H109 hHeld ⊢
 refine with_tabW specS_tab4 specS_bits4 (fun HT_ HW_ => ?_)
 refine pure_ (i := 0) (N := some 14) (v := ?_) (a' := ?_) #[true, false, false, false, false, false, false, false, false, false, false, false, false, false, false, false, false, false, false, false, false] rfl rfl (any_of HT_.out (by kernel_rfl)) (fun _ _ _ h => h) (Or.inl ⟨by rfl, ?_⟩) ?_ ?_
 rotate_left
 ·intro w'
  go_simp
  with_reducible rfl
 rotate_left
 ·simp only [Act.put, List.setIfInBounds_toArray, List.set_cons_zero, List.set_cons_succ, i64_w, i32_w]
  rfl
 refine pure_ (i := 3) (N := some 17) (v := ?_) (a' := ?_) #[true, false, false, true, false, false, false, false, false, false, false, false, false, false, false, false, false, false, false, false, false] rfl rfl (any_of HT_.out (by kernel_rfl)) (fun _ _ _ h => h) (Or.inl ⟨by rfl, ?_⟩) ?_ ?_
 rotate_left
 ·intro w'
  go_simp
  with_reducible rfl
 rotate_left
 ·simp only [Act.put, List.setIfInBounds_toArray, List.set_cons_zero, List.set_cons_succ, i64_w, i32_w]
  rfl
 refine pure_ (i := 8) (N := some 22) (v := ?_) (a' := ?_) #[true, false, false, true, false, false, false, false, true, false, false, false, false, false, false, false, false, false, false, false, false] rfl rfl (any_of HT_.out (by kernel_rfl)) (fun _ _ _ h => h) (Or.inl ⟨by rfl, ?_⟩) ?_ ?_
 rotate_left
 ·intro w'
  go_simp
  with_reducible rfl
 rotate_left
 ·simp only [Act.put, List.setIfInBounds_toArray, List.set_cons_zero, List.set_cons_succ, i64_w, i32_w]
  rfl
 refine pure_ (i := 11) (N := some 25) (v := ?_) (a' := ?_) #[true, false, false, true, false, false, false, false, true, false, false, true, false, false, false, false, false, false, false, false, false] rfl rfl (any_of HT_.out (by kernel_rfl)) (fun _ _ _ h => h) (Or.inl ⟨by rfl, ?_⟩) ?_ ?_
 rotate_left
 ·intro w'
  go_simp
  with_reducible rfl
 rotate_left
 ·simp only [Act.put, List.setIfInBounds_toArray, List.set_cons_zero, List.set_cons_succ, i64_w, i32_w]
  rfl
 refine pure_ (i := 14) (N := some 28) (v := ?_) (a' := ?_) #[true, false, false, true, false, false, false, false, true, false, false, true, false, false, true, false, false, false, false, false, false] rfl rfl (any_of HT_.out (by kernel_rfl)) (fun _ _ _ h => h) (Or.inl ⟨by rfl, ?_⟩) ?_ ?_
 rotate_left
 ·intro w'
  go_simp
  with_reducible rfl
 rotate_left
 ·simp only [Act.put, List.setIfInBounds_toArray, List.set_cons_zero, List.set_cons_succ, i64_w, i32_w]
  rfl
 refine pure_ (i := 17) (N := some 31) (v := ?_) (a' := ?_) #[true, false, false, true, false, false, false, false, true, false, false, true, false, false, true, false, false, true, false, false, false] rfl rfl (any_of HT_.out (by kernel_rfl)) (fun _ _ _ h => h) (Or.inl ⟨by rfl, ?_⟩) ?_ ?_
 rotate_left
 ·intro w'
  go_simp
  with_reducible rfl
 rotate_left
 ·simp only [Act.put, List.setIfInBounds_toArray, List.set_cons_zero, List.set_cons_succ, i64_w, i32_w]
  rfl
 refine inv_at [1, 2, 4, 5, 6, 7, 9, 10, 12, 13, 15, 16, 18, 19, 20] (fun a0_ b_ a_ w' => ∃ (v1 : Value) (m2 : Value) (v7 : Value) (v10 : Value) (v13 : Value) (v16 : Value) (v18 : Value) (v19 : Value) (m20 : Value), a_ = putSel a0_ b_ [(1, 15, v1), (2, 16, m2), (4, 18, .slice A0 xs.length c0), (5, 19, .int .i64 (xs.length : Int)), (6, 20, .int .u8 n), (7, 21, v7), (9, 23, .int .u32 t), (10, 24, v10), (12, 26, .slice A1 u.length c1), (13, 27, v13), (15, 29, .slice A0 xs.length c0), (16, 30, v16), (18, 32, v18), (19, 33, v19), (20, 4, m20)] ∧ Bx w106 [] w' ∧ (b_ 1 = true → LitP w106.heap.size w' v1 [83, 49]) ∧ (b_ 2 = true → m2 = v1 ∧ RdP w' m2 [83, 49]) ∧ (b_ 7 = true → RdP w' v7 [n, 0]) ∧ (b_ 10 = true → RdP w' v10 (P.leB 4 t)) ∧ (b_ 13 = true → RdP w' v13 (P.bitsL u)) ∧ (b_ 16 = true → RdP w' v16 (P.denL xs xs.length 0)) ∧ (b_ 18 = true → RowsP w' v18 [(P.leB 4 g), [83, 49], [n, 0], P.leB 4 t, P.bitsL u, P.denL xs xs.length 0, (P.leB 4 g)]) ∧ (b_ 19 = true → RdP w' v19 one) ∧ (b_ 20 = true → m20 = v19)) HT_.out HW_.out (by kernel_rfl) (by kernel_rfl) ?_ ?_ ?_
 ·exact ⟨.bool false, .bool false, .bool false, .bool false, .bool false, .bool false, .bool false, .bool false, .bool false, by simp only [putSel, Bool.false_eq_true, if_false], H109.out, fun h_ => absurd h_ (by decide), fun h_ => absurd h_ (by decide), fun h_ => absurd h_ (by decide), fun h_ => absurd h_ (by decide), fun h_ => absurd h_ (by decide), fun h_ => absurd h_ (by decide), fun h_ => absurd h_ (by decide), fun h_ => absurd h_ (by decide), fun h_ => absurd h_ (by decide)⟩
 ·skip
  clear H109
  refine steps_cons ?_ ?_
  ·rintro b_ a_ w' ⟨v1, m2, v7, v10, v13, v16, v18, v19, m20, ha, QX, Q1, Q2, Q7, Q10, Q13, Q16, Q18, Q19, Q20⟩ hbo_ hon hoff
   refine ⟨_, rfl, fun K hK => ?_⟩
   replace ha := Aside0.mk ha
   have HX := Aside0.mk QX
   clear QX
   refine Kd.R_lit_step (Kd.int .u8) _ 5 ?hg (N := 15) ?hd (xs := ([83, 49] : List Int)) (inner := [.int .u8 83, .int .u8 49]) (ok := fun _ => True) (okp := fun _ => True) ?hr ?hp (fun _ hk => hk) trivial (Below.refl _ _) (Nat.le_refl _) (by simp) ?_; (case hd => rfl); (case hg => rfl); (case hr => first | (go_simp; done) | (go_simp; rfl)); (case hp => exact (Reps.one (show Kd.M (Kd.int .u8) _ _ _ _ [_] from rfl) (Reps.one (show Kd.M (Kd.int .u8) _ _ _ _ [_] from rfl) (Reps.none _ _))))
   intro vn_ w2_ ho hb_ hg_ hnew_
   clear hg_ hnew_
   have HBW := Aside0.mk HX.out.below.size
   replace HX := Aside0.mk (HX.out.step hb_)
   refine hK.out _ _ ⟨vn_, m2, v7, v10, v13, v16, v18, v19, m20, (by rw [ha.out]; exact putSel_upk 0 hbo_ rfl rfl rfl), HX.out, fun _ => LitP.of_R ho (by decide) HBW.out, fun h0_ => absurd ((hoff 2 (by kernel_rfl)).symm.trans h0_) (by decide), fun h0_ => (Q7 h0_).below hb_, fun h0_ => (Q10 h0_).below hb_, fun h0_ => (Q13 h0_).below hb_, fun h0_ => (Q16 h0_).below hb_, fun h0_ => absurd ((hoff 18 (by kernel_rfl)).symm.trans h0_) (by decide), fun h0_ => absurd ((hoff 19 (by kernel_rfl)).symm.trans h0_) (by decide), fun h0_ => absurd ((hoff 20 (by kernel_rfl)).symm.trans h0_) (by decide)⟩
  refine steps_cons ?_ ?_
  ·rintro b_ a_ w' ⟨v1, m2, v7, v10, v13, v16, v18, v19, m20, ha, QX, Q1, Q2, Q7, Q10, Q13, Q16, Q18, Q19, Q20⟩ hbo_ hon hoff
   refine ⟨_, rfl, fun K hK => ?_⟩
   have e15 : a_.tmps[15]? = some (v1) := by rw [ha]; exact putSel_on (e := (1, 15, v1)) 0 rfl rfl (hon 1 (by kernel_rfl)) rfl
   replace ha := Aside0.mk ha
   have HX := Aside0.mk QX
   clear QX
   obtain ⟨g_, c_, tl_, fr_, ev_, hl_, hm_, hg_, hh_⟩ := Q1 (hon 1 (by kernel_rfl))
   obtain ⟨w2_, hrun_, hS_, fr2_, hh2_⟩ := conv_mark (P := Try.prog) (t := 25) (n := 2) (c := c_) Try.underlying25 Try.underlying5 hh_
   rw [ev_] at e15
   refine value_ (w1 := w2_) (v := v1) (by rfl) rfl ?_ ?_
   ·rw [ev_]
    go_simp
    try (first | exact hrun_ | (rw [hrun_]; rfl) | rfl)
   replace HX := Aside0.mk (Bx_mark HX.out hS_ hg_ hh_ (by intro b hb; simp only [List.mem_cons, List.not_mem_nil, or_false] at hb))
   refine hK.out _ _ ⟨v1, v1, v7, v10, v13, v16, v18, v19, m20, (by rw [ha.out]; exact putSel_upk 1 hbo_ rfl rfl rfl), HX.out, fun h0_ => LitP.mark (Q1 h0_) hS_ hh_ hh2_, fun _ => ⟨rfl, (LitP.mark (Q1 (hon 1 (by kernel_rfl))) hS_ hh_ hh2_).rd⟩, fun h0_ => (Q7 h0_).cells (cells_of_mark hS_ hh_ hh2_), fun h0_ => (Q10 h0_).cells (cells_of_mark hS_ hh_ hh2_), fun h0_ => (Q13 h0_).cells (cells_of_mark hS_ hh_ hh2_), fun h0_ => (Q16 h0_).cells (cells_of_mark hS_ hh_ hh2_), fun h0_ => absurd ((hoff 18 (by kernel_rfl)).symm.trans h0_) (by decide), fun h0_ => absurd ((hoff 19 (by kernel_rfl)).symm.trans h0_) (by decide), fun h0_ => absurd ((hoff 20 (by kernel_rfl)).symm.trans h0_) (by decide)⟩
  refine steps_cons ?_ ?_
  ·rintro b_ a_ w' ⟨v1, m2, v7, v10, v13, v16, v18, v19, m20, ha, QX, Q1, Q2, Q7, Q10, Q13, Q16, Q18, Q19, Q20⟩ hbo_ hon hoff
   refine ⟨_, rfl, fun K hK => ?_⟩
   have e17 : a_.tmps[17]? = some (.pointer (some ⟨g1, 2, none⟩)) := by rw [ha]; exact (putSel_off rfl).trans rfl
   replace ha := Aside0.mk ha
   have HX := Aside0.mk QX
   clear QX
   have hc_ : w'.cell? ⟨g1, 2, none⟩ = some (.slice A0 xs.length c0) := pw_cell_below HX.out.below ((blk_cell Ba.out 2).trans rfl)
   refine value_ (w1 := w') (v := .slice A0 xs.length c0) (by rfl) rfl ?_ ?_
   ·go_simp
    (try simp only [i64_w])
    try rfl
   refine hK.out _ _ ⟨v1, m2, v7, v10, v13, v16, v18, v19, m20, (by rw [ha.out]; exact putSel_upk 2 hbo_ rfl rfl rfl), HX.out, Q1, Q2, fun h0_ => absurd ((hoff 7 (by kernel_rfl)).symm.trans h0_) (by decide), Q10, Q13, Q16, fun h0_ => absurd ((hoff 18 (by kernel_rfl)).symm.trans h0_) (by decide), fun h0_ => absurd ((hoff 19 (by kernel_rfl)).symm.trans h0_) (by decide), fun h0_ => absurd ((hoff 20 (by kernel_rfl)).symm.trans h0_) (by decide)⟩
  refine steps_cons ?_ ?_
  ·rintro b_ a_ w' ⟨v1, m2, v7, v10, v13, v16, v18, v19, m20, ha, QX, Q1, Q2, Q7, Q10, Q13, Q16, Q18, Q19, Q20⟩ hbo_ hon hoff
   refine ⟨_, rfl, fun K hK => ?_⟩
   have e18 : a_.tmps[18]? = some (.slice A0 xs.length c0) := by rw [ha]; exact putSel_on (e := (4, 18, .slice A0 xs.length c0)) 2 rfl rfl (hon 4 (by kernel_rfl)) rfl
   replace ha := Aside0.mk ha
   have HX := Aside0.mk QX
   clear QX
   refine value_ (w1 := w') (v := .int .i64 (xs.length : Int)) (by rfl) rfl ?_ ?_
   ·go_simp
    (try simp only [i64_w])
    try rfl
   refine hK.out _ _ ⟨v1, m2, v7, v10, v13, v16, v18, v19, m20, (by rw [ha.out]; exact putSel_upk 3 hbo_ rfl rfl rfl), HX.out, Q1, Q2, fun h0_ => absurd ((hoff 7 (by kernel_rfl)).symm.trans h0_) (by decide), Q10, Q13, Q16, fun h0_ => absurd ((hoff 18 (by kernel_rfl)).symm.trans h0_) (by decide), fun h0_ => absurd ((hoff 19 (by kernel_rfl)).symm.trans h0_) (by decide), fun h0_ => absurd ((hoff 20 (by kernel_rfl)).symm.trans h0_) (by decide)⟩
  refine steps_cons ?_ ?_
  ·rintro b_ a_ w' ⟨v1, m2, v7, v10, v13, v16, v18, v19, m20, ha, QX, Q1, Q2, Q7, Q10, Q13, Q16, Q18, Q19, Q20⟩ hbo_ hon hoff
   refine ⟨_, rfl, fun K hK => ?_⟩
   have e19 : a_.tmps[19]? = some (.int .i64 (xs.length : Int)) := by rw [ha]; exact putSel_on (e := (5, 19, .int .i64 (xs.length : Int))) 3 rfl rfl (hon 5 (by kernel_rfl)) rfl
   replace ha := Aside0.mk ha
   have HX := Aside0.mk QX
   clear QX
   refine value_ (w1 := w') (v := .int .u8 n) (by rfl) rfl ?_ ?_
   ·go_simp
    (try simp only [i64_w])
    try rfl
   refine hK.out _ _ ⟨v1, m2, v7, v10, v13, v16, v18, v19, m20, (by rw [ha.out]; exact putSel_upk 4 hbo_ rfl rfl rfl), HX.out, Q1, Q2, fun h0_ => absurd ((hoff 7 (by kernel_rfl)).symm.trans h0_) (by decide), Q10, Q13, Q16, fun h0_ => absurd ((hoff 18 (by kernel_rfl)).symm.trans h0_) (by decide), fun h0_ => absurd ((hoff 19 (by kernel_rfl)).symm.trans h0_) (by decide), fun h0_ => absurd ((hoff 20 (by kernel_rfl)).symm.trans h0_) (by decide)⟩
  refine steps_cons ?_ ?_
  ·rintro b_ a_ w' ⟨v1, m2, v7, v10, v13, v16, v18, v19, m20, ha, QX, Q1, Q2, Q7, Q10, Q13, Q16, Q18, Q19, Q20⟩ hbo_ hon hoff
   refine ⟨_, rfl, fun K hK => ?_⟩
   have e20 : a_.tmps[20]? = some (.int .u8 n) := by rw [ha]; exact putSel_on (e := (6, 20, .int .u8 n)) 4 rfl rfl (hon 6 (by kernel_rfl)) rfl
   replace ha := Aside0.mk ha
   have HX := Aside0.mk QX
   clear QX
   refine Kd.R_lit_step (Kd.int .u8) _ 5 ?hg (N := 21) ?hd (xs := ([n, 0] : List Int)) (inner := [.int .u8 n, .int .u8 0]) (ok := fun _ => True) (okp := fun _ => True) ?hr ?hp (fun _ hk => hk) trivial (Below.refl _ _) (Nat.le_refl _) (by simp) ?_; (case hd => rfl); (case hg => rfl); (case hr => first | (go_simp; done) | (go_simp; rfl)); (case hp => exact (Reps.one (show Kd.M (Kd.int .u8) _ _ _ _ [_] from rfl) (Reps.one (show Kd.M (Kd.int .u8) _ _ _ _ [_] from rfl) (Reps.none _ _))))
   intro vn_ w2_ ho hb_ hg_ hnew_
   clear hg_ hnew_
   have HBW := Aside0.mk HX.out.below.size
   replace HX := Aside0.mk (HX.out.step hb_)
   refine hK.out _ _ ⟨v1, m2, vn_, v10, v13, v16, v18, v19, m20, (by rw [ha.out]; exact putSel_upk 5 hbo_ rfl rfl rfl), HX.out, fun h0_ => (Q1 h0_).below hb_, fun h0_ => ⟨(Q2 h0_).1, (Q2 h0_).2.below hb_⟩, fun _ => RdP.of_R ho, fun h0_ => (Q10 h0_).below hb_, fun h0_ => (Q13 h0_).below hb_, fun h0_ => (Q16 h0_).below hb_, fun h0_ => absurd ((hoff 18 (by kernel_rfl)).symm.trans h0_) (by decide), fun h0_ => absurd ((hoff 19 (by kernel_rfl)).symm.trans h0_) (by decide), fun h0_ => absurd ((hoff 20 (by kernel_rfl)).symm.trans h0_) (by decide)⟩
  refine steps_cons ?_ ?_
  ·rintro b_ a_ w' ⟨v1, m2, v7, v10, v13, v16, v18, v19, m20, ha, QX, Q1, Q2, Q7, Q10, Q13, Q16, Q18, Q19, Q20⟩ hbo_ hon hoff
   refine ⟨_, rfl, fun K hK => ?_⟩
   have e22 : a_.tmps[22]? = some (.pointer (some ⟨g1, 1, none⟩)) := by rw [ha]; exact (putSel_off rfl).trans rfl
   replace ha := Aside0.mk ha
   have HX := Aside0.mk QX
   clear QX
   have hc_ : w'.cell? ⟨g1, 1, none⟩ = some (.int .u32 t) := pw_cell_below HX.out.below ((blk_cell Ba.out 1).trans rfl)
   refine value_ (w1 := w') (v := .int .u32 t) (by rfl) rfl ?_ ?_
   ·go_simp
    (try simp only [i64_w])
    try rfl
   refine hK.out _ _ ⟨v1, m2, v7, v10, v13, v16, v18, v19, m20, (by rw [ha.out]; exact putSel_upk 6 hbo_ rfl rfl rfl), HX.out, Q1, Q2, Q7, fun h0_ => absurd ((hoff 10 (by kernel_rfl)).symm.trans h0_) (by decide), fun h0_ => absurd ((hoff 13 (by kernel_rfl)).symm.trans h0_) (by decide), fun h0_ => absurd ((hoff 16 (by kernel_rfl)).symm.trans h0_) (by decide), fun h0_ => absurd ((hoff 18 (by kernel_rfl)).symm.trans h0_) (by decide), fun h0_ => absurd ((hoff 19 (by kernel_rfl)).symm.trans h0_) (by decide), fun h0_ => absurd ((hoff 20 (by kernel_rfl)).symm.trans h0_) (by decide)⟩
  refine steps_cons ?_ ?_
  ·rintro b_ a_ w' ⟨v1, m2, v7, v10, v13, v16, v18, v19, m20, ha, QX, Q1, Q2, Q7, Q10, Q13, Q16, Q18, Q19, Q20⟩ hbo_ hon hoff
   refine ⟨_, rfl, fun K hK => ?_⟩
   have e23 : a_.tmps[23]? = some (.int .u32 t) := by rw [ha]; exact putSel_on (e := (9, 23, .int .u32 t)) 6 rfl rfl (hon 9 (by kernel_rfl)) rfl
   replace ha := Aside0.mk ha
   have HX := Aside0.mk QX
   clear QX
   refine goes_ Try.func48 (by kernel_rfl) rfl #[.int .u32 t] (by rfl) rfl rfl (by first | (simp only [List.map_toArray, List.map_cons, List.map_nil, Act.eval, Array.getD_eq_getD_getElem?, Option.getD_some, e23]; done) | (simp only [List.map_toArray, List.map_cons, List.map_nil, Act.eval, Array.getD_eq_getD_getElem?, Option.getD_some, e23]; rfl)) ?_
   refine (spec_l2Four.calls t (P.leB 4 t) _ (P.four_is t HT.out)).mono ?_
   rintro e w2_ ⟨vn_, rfl, ho, hb_⟩
   refine ⟨_, rfl, ?_⟩
   replace HX := Aside0.mk (HX.out.step hb_)
   refine hK.out _ _ ⟨v1, m2, v7, vn_, v13, v16, v18, v19, m20, (by rw [ha.out]; exact putSel_upk 7 hbo_ rfl rfl rfl), HX.out, fun h0_ => (Q1 h0_).below hb_, fun h0_ => ⟨(Q2 h0_).1, (Q2 h0_).2.below hb_⟩, fun h0_ => (Q7 h0_).below hb_, fun _ => RdP.of_R ho, fun h0_ => absurd ((hoff 13 (by kernel_rfl)).symm.trans h0_) (by decide), fun h0_ => absurd ((hoff 16 (by kernel_rfl)).symm.trans h0_) (by decide), fun h0_ => absurd ((hoff 18 (by kernel_rfl)).symm.trans h0_) (by decide), fun h0_ => absurd ((hoff 19 (by kernel_rfl)).symm.trans h0_) (by decide), fun h0_ => absurd ((hoff 20 (by kernel_rfl)).symm.trans h0_) (by decide)⟩
  refine steps_cons ?_ ?_
  ·rintro b_ a_ w' ⟨v1, m2, v7, v10, v13, v16, v18, v19, m20, ha, QX, Q1, Q2, Q7, Q10, Q13, Q16, Q18, Q19, Q20⟩ hbo_ hon hoff
   refine ⟨_, rfl, fun K hK => ?_⟩
   have e25 : a_.tmps[25]? = some (.pointer (some ⟨g1, 3, none⟩)) := by rw [ha]; exact (putSel_off rfl).trans rfl
   replace ha := Aside0.mk ha
   have HX := Aside0.mk QX
   clear QX
   have hc_ : w'.cell? ⟨g1, 3, none⟩ = some (.slice A1 u.length c1) := pw_cell_below HX.out.below ((blk_cell Ba.out 3).trans rfl)
   refine value_ (w1 := w') (v := .slice A1 u.length c1) (by rfl) rfl ?_ ?_
   ·go_simp
    (try simp only [i64_w])
    try rfl
   refine hK.out _ _ ⟨v1, m2, v7, v10, v13, v16, v18, v19, m20, (by rw [ha.out]; exact putSel_upk 8 hbo_ rfl rfl rfl), HX.out, Q1, Q2, Q7, Q10, fun h0_ => absurd ((hoff 13 (by kernel_rfl)).symm.trans h0_) (by decide), fun h0_ => absurd ((hoff 16 (by kernel_rfl)).symm.trans h0_) (by decide), fun h0_ => absurd ((hoff 18 (by kernel_rfl)).symm.trans h0_) (by decide), fun h0_ => absurd ((hoff 19 (by kernel_rfl)).symm.trans h0_) (by decide), fun h0_ => absurd ((hoff 20 (by kernel_rfl)).symm.trans h0_) (by decide)⟩
  refine steps_cons ?_ ?_
  ·rintro b_ a_ w' ⟨v1, m2, v7, v10, v13, v16, v18, v19, m20, ha, QX, Q1, Q2, Q7, Q10, Q13, Q16, Q18, Q19, Q20⟩ hbo_ hon hoff
   refine ⟨_, rfl, fun K hK => ?_⟩
   have e26 : a_.tmps[26]? = some (.slice A1 u.length c1) := by rw [ha]; exact putSel_on (e := (12, 26, .slice A1 u.length c1)) 8 rfl rfl (hon 12 (by kernel_rfl)) rfl
   replace ha := Aside0.mk ha
   have HX := Aside0.mk QX
   clear QX
   refine goes_ Try.func64 (by kernel_rfl) rfl #[.slice A1 u.length c1] (by rfl) rfl rfl (by first | (simp only [List.map_toArray, List.map_cons, List.map_nil, Act.eval, Array.getD_eq_getD_getElem?, Option.getD_some, e26]; done) | (simp only [List.map_toArray, List.map_cons, List.map_nil, Act.eval, Array.getD_eq_getD_getElem?, Option.getD_some, e26]; rfl)) ?_
   refine (spec_l6Bits.calls kb _ c1 u (P.bitsL u) _ (Kd.C_below HR1.out (below_step Wa.out HX.out.below)) HC1.out HKB.out).mono ?_
   rintro e w2_ ⟨vn_, rfl, ho, hb_⟩
   refine ⟨_, rfl, ?_⟩
   replace HX := Aside0.mk (HX.out.step hb_)
   refine hK.out _ _ ⟨v1, m2, v7, v10, vn_, v16, v18, v19, m20, (by rw [ha.out]; exact putSel_upk 9 hbo_ rfl rfl rfl), HX.out, fun h0_ => (Q1 h0_).below hb_, fun h0_ => ⟨(Q2 h0_).1, (Q2 h0_).2.below hb_⟩, fun h0_ => (Q7 h0_).below hb_, fun h0_ => (Q10 h0_).below hb_, fun _ => RdP.of_R ho, fun h0_ => absurd ((hoff 16 (by kernel_rfl)).symm.trans h0_) (by decide), fun h0_ => absurd ((hoff 18 (by kernel_rfl)).symm.trans h0_) (by decide), fun h0_ => absurd ((hoff 19 (by kernel_rfl)).symm.trans h0_) (by decide), fun h0_ => absurd ((hoff 20 (by kernel_rfl)).symm.trans h0_) (by decide)⟩
  refine steps_cons ?_ ?_
  ·rintro b_ a_ w' ⟨v1, m2, v7, v10, v13, v16, v18, v19, m20, ha, QX, Q1, Q2, Q7, Q10, Q13, Q16, Q18, Q19, Q20⟩ hbo_ hon hoff
   refine ⟨_, rfl, fun K hK => ?_⟩
   have e28 : a_.tmps[28]? = some (.pointer (some ⟨g1, 2, none⟩)) := by rw [ha]; exact (putSel_off rfl).trans rfl
   replace ha := Aside0.mk ha
   have HX := Aside0.mk QX
   clear QX
   have hc_ : w'.cell? ⟨g1, 2, none⟩ = some (.slice A0 xs.length c0) := pw_cell_below HX.out.below ((blk_cell Ba.out 2).trans rfl)
   refine value_ (w1 := w') (v := .slice A0 xs.length c0) (by rfl) rfl ?_ ?_
   ·go_simp
    (try simp only [i64_w])
    try rfl
   refine hK.out _ _ ⟨v1, m2, v7, v10, v13, v16, v18, v19, m20, (by rw [ha.out]; exact putSel_upk 10 hbo_ rfl rfl rfl), HX.out, Q1, Q2, Q7, Q10, Q13, fun h0_ => absurd ((hoff 16 (by kernel_rfl)).symm.trans h0_) (by decide), fun h0_ => absurd ((hoff 18 (by kernel_rfl)).symm.trans h0_) (by decide), fun h0_ => absurd ((hoff 19 (by kernel_rfl)).symm.trans h0_) (by decide), fun h0_ => absurd ((hoff 20 (by kernel_rfl)).symm.trans h0_) (by decide)⟩
  refine steps_cons ?_ ?_
  ·rintro b_ a_ w' ⟨v1, m2, v7, v10, v13, v16, v18, v19, m20, ha, QX, Q1, Q2, Q7, Q10, Q13, Q16, Q18, Q19, Q20⟩ hbo_ hon hoff
   refine ⟨_, rfl, fun K hK => ?_⟩
   have e29 : a_.tmps[29]? = some (.slice A0 xs.length c0) := by rw [ha]; exact putSel_on (e := (15, 29, .slice A0 xs.length c0)) 10 rfl rfl (hon 15 (by kernel_rfl)) rfl
   replace ha := Aside0.mk ha
   have HX := Aside0.mk QX
   clear QX
   refine goes_ Try.func65 (by kernel_rfl) rfl #[.slice A0 xs.length c0, .int .i64 0, .int .i64 8] (by rfl) rfl rfl (by first | (simp only [List.map_toArray, List.map_cons, List.map_nil, Act.eval, Array.getD_eq_getD_getElem?, Option.getD_some, e29]; done) | (simp only [List.map_toArray, List.map_cons, List.map_nil, Act.eval, Array.getD_eq_getD_getElem?, Option.getD_some, e29]; rfl)) ?_
   refine (spec_l6Denied.calls kd0 _ c0 xs 0 8 (P.denL xs xs.length 0) _ (Kd.C_below HR0.out (below_step Wa.out HX.out.below)) HC0.out HD0.out).mono ?_
   rintro e w2_ ⟨vn_, rfl, ho, hb_⟩
   refine ⟨_, rfl, ?_⟩
   replace HX := Aside0.mk (HX.out.step hb_)
   refine hK.out _ _ ⟨v1, m2, v7, v10, v13, vn_, v18, v19, m20, (by rw [ha.out]; exact putSel_upk 11 hbo_ rfl rfl rfl), HX.out, fun h0_ => (Q1 h0_).below hb_, fun h0_ => ⟨(Q2 h0_).1, (Q2 h0_).2.below hb_⟩, fun h0_ => (Q7 h0_).below hb_, fun h0_ => (Q10 h0_).below hb_, fun h0_ => (Q13 h0_).below hb_, fun _ => RdP.of_R ho, fun h0_ => absurd ((hoff 18 (by kernel_rfl)).symm.trans h0_) (by decide), fun h0_ => absurd ((hoff 19 (by kernel_rfl)).symm.trans h0_) (by decide), fun h0_ => absurd ((hoff 20 (by kernel_rfl)).symm.trans h0_) (by decide)⟩
  refine steps_cons ?_ ?_
  ·rintro b_ a_ w' ⟨v1, m2, v7, v10, v13, v16, v18, v19, m20, ha, QX, Q1, Q2, Q7, Q10, Q13, Q16, Q18, Q19, Q20⟩ hbo_ hon hoff
   refine ⟨_, rfl, fun K hK => ?_⟩
   have e16 : a_.tmps[16]? = some (m2) := by rw [ha]; exact putSel_on (e := (2, 16, m2)) 1 rfl rfl (hon 2 (by kernel_rfl)) rfl
   have e21 : a_.tmps[21]? = some (v7) := by rw [ha]; exact putSel_on (e := (7, 21, v7)) 5 rfl rfl (hon 7 (by kernel_rfl)) rfl
   have e24 : a_.tmps[24]? = some (v10) := by rw [ha]; exact putSel_on (e := (10, 24, v10)) 7 rfl rfl (hon 10 (by kernel_rfl)) rfl
   have e27 : a_.tmps[27]? = some (v13) := by rw [ha]; exact putSel_on (e := (13, 27, v13)) 9 rfl rfl (hon 13 (by kernel_rfl)) rfl
   have e30 : a_.tmps[30]? = some (v16) := by rw [ha]; exact putSel_on (e := (16, 30, v16)) 11 rfl rfl (hon 16 (by kernel_rfl)) rfl
   have e14 : a_.tmps[14]? = some (.slice A13 (P.leB 4 g).length c13) := by rw [ha]; exact (putSel_off rfl).trans rfl
   have e31 : a_.tmps[31]? = some (.slice A13 (P.leB 4 g).length c13) := by rw [ha]; exact (putSel_off rfl).trans rfl
   replace ha := Aside0.mk ha
   have HX := Aside0.mk QX
   clear QX
   obtain ⟨A1_, c1_, ev1_, hl1_, hC1_⟩ := (Q2 (hon 2 (by kernel_rfl))).2
   rw [ev1_] at e16
   obtain ⟨A2_, c2_, ev2_, hl2_, hC2_⟩ := Q7 (hon 7 (by kernel_rfl))
   rw [ev2_] at e21
   obtain ⟨A3_, c3_, ev3_, hl3_, hC3_⟩ := Q10 (hon 10 (by kernel_rfl))
   rw [ev3_] at e24
   obtain ⟨A4_, c4_, ev4_, hl4_, hC4_⟩ := Q13 (hon 13 (by kernel_rfl))
   rw [ev4_] at e27
   obtain ⟨A5_, c5_, ev5_, hl5_, hC5_⟩ := Q16 (hon 16 (by kernel_rfl))
   rw [ev5_] at e30
   refine Kd.N_lit_step (Kd.slice 5 (Kd.int .u8)) _ 25 ?hg (N' := 32) ?hd (xs := ([(P.leB 4 g), [83, 49], [n, 0], P.leB 4 t, P.bitsL u, P.denL xs xs.length 0, (P.leB 4 g)] : List (List Int))) (inner := [.slice A13 ((P.leB 4 g)).length c13, .slice A1_ ([83, 49]).length c1_, .slice A2_ ([n, 0]).length c2_, .slice A3_ (P.leB 4 t).length c3_, .slice A4_ (P.bitsL u).length c4_, .slice A5_ (P.denL xs xs.length 0).length c5_, .slice A13 ((P.leB 4 g)).length c13]) (ok := fun _ => True) (okp := fun _ => True) ?hr ?hp (fun _ hk => hk) trivial (Below.refl _ _) (Nat.le_refl _) (by simp) ?_; (case hd => rfl); (case hg => rfl); (case hr => first | (go_simp; done) | (go_simp; rfl)); (case hp => exact (Reps.one (RdP.FK HL13.out (Kd.C_below FC13.out HX.out.below)) (Reps.one (RdP.FK hl1_ hC1_) (Reps.one (RdP.FK hl2_ hC2_) (Reps.one (RdP.FK hl3_ hC3_) (Reps.one (RdP.FK hl4_ hC4_) (Reps.one (RdP.FK hl5_ hC5_) (Reps.one (RdP.FK HL13.out (Kd.C_below FC13.out HX.out.below)) (Reps.none _ _)))))))))
   intro vn_ w2_ ho hb_ hg_ hnew_
   clear hg_ hnew_
   replace HX := Aside0.mk (HX.out.step hb_)
   refine hK.out _ _ ⟨v1, m2, v7, v10, v13, v16, vn_, v19, m20, (by rw [ha.out]; exact putSel_upk 12 hbo_ rfl rfl rfl), HX.out, fun h0_ => (Q1 h0_).below hb_, fun h0_ => ⟨(Q2 h0_).1, (Q2 h0_).2.below hb_⟩, fun h0_ => (Q7 h0_).below hb_, fun h0_ => (Q10 h0_).below hb_, fun h0_ => (Q13 h0_).below hb_, fun h0_ => (Q16 h0_).below hb_, fun _ => RowsP.of_N ho, fun h0_ => absurd ((hoff 19 (by kernel_rfl)).symm.trans h0_) (by decide), fun h0_ => absurd ((hoff 20 (by kernel_rfl)).symm.trans h0_) (by decide)⟩
  refine steps_cons ?_ ?_
  ·rintro b_ a_ w' ⟨v1, m2, v7, v10, v13, v16, v18, v19, m20, ha, QX, Q1, Q2, Q7, Q10, Q13, Q16, Q18, Q19, Q20⟩ hbo_ hon hoff
   refine ⟨_, rfl, fun K hK => ?_⟩
   have e32 : a_.tmps[32]? = some (v18) := by rw [ha]; exact putSel_on (e := (18, 32, v18)) 12 rfl rfl (hon 18 (by kernel_rfl)) rfl
   replace ha := Aside0.mk ha
   have HX := Aside0.mk QX
   clear QX
   obtain ⟨A_, c_, ev_, hl_, hC_⟩ := Q18 (hon 18 (by kernel_rfl))
   rw [ev_] at e32
   refine goes_ Try.func47 (by kernel_rfl) rfl #[.slice A_ ([(P.leB 4 g), [83, 49], [n, 0], P.leB 4 t, P.bitsL u, P.denL xs xs.length 0, (P.leB 4 g)]).length c_] (by rfl) rfl rfl (by first | (simp only [List.map_toArray, List.map_cons, List.map_nil, Act.eval, Array.getD_eq_getD_getElem?, Option.getD_some, e32]; done) | (simp only [List.map_toArray, List.map_cons, List.map_nil, Act.eval, Array.getD_eq_getD_getElem?, Option.getD_some, e32]; rfl)) ?_
   refine (spec_l2Cat.calls k1 _ c_ [(P.leB 4 g), [83, 49], [n, 0], P.leB 4 t, P.bitsL u, P.denL xs xs.length 0, (P.leB 4 g)] one _ hC_ hl_ E1.out).mono ?_
   rintro e w2_ ⟨vn_, rfl, ho, hb_⟩
   refine ⟨_, rfl, ?_⟩
   replace HX := Aside0.mk (HX.out.step hb_)
   refine hK.out _ _ ⟨v1, m2, v7, v10, v13, v16, v18, vn_, m20, (by rw [ha.out]; exact putSel_upk 13 hbo_ rfl rfl rfl), HX.out, fun h0_ => (Q1 h0_).below hb_, fun h0_ => ⟨(Q2 h0_).1, (Q2 h0_).2.below hb_⟩, fun h0_ => (Q7 h0_).below hb_, fun h0_ => (Q10 h0_).below hb_, fun h0_ => (Q13 h0_).below hb_, fun h0_ => (Q16 h0_).below hb_, fun h0_ => (Q18 h0_).below hb_, fun _ => RdP.of_R ho, fun h0_ => absurd ((hoff 20 (by kernel_rfl)).symm.trans h0_) (by decide)⟩
  refine steps_cons ?_ ?_
  ·rintro b_ a_ w' ⟨v1, m2, v7, v10, v13, v16, v18, v19, m20, ha, QX, Q1, Q2, Q7, Q10, Q13, Q16, Q18, Q19, Q20⟩ hbo_ hon hoff
   refine ⟨_, rfl, fun K hK => ?_⟩
   have e33 : a_.tmps[33]? = some (v19) := by rw [ha]; exact putSel_on (e := (19, 33, v19)) 13 rfl rfl (hon 19 (by kernel_rfl)) rfl
   replace ha := Aside0.mk ha
   have HX := Aside0.mk QX
   clear QX
   refine value_ (w1 := w') (v := v19) (by rfl) rfl ?_ ?_
   ·go_simp
    try rfl
   refine hK.out _ _ ⟨v1, m2, v7, v10, v13, v16, v18, v19, v19, (by rw [ha.out]; exact putSel_upk 14 hbo_ rfl rfl rfl), HX.out, Q1, Q2, Q7, Q10, Q13, Q16, Q18, Q19, fun _ => rfl⟩
  exact steps_nil
 rintro b_ a_ w110 hall ⟨v1, m2, v7, v10, v13, v16, v18, v19, m20, ha, QX, Q1, Q2, Q7, Q10, Q13, Q16, Q18, Q19, Q20⟩
 have hb1_ := hall 1 (by kernel_rfl)
 have hb2_ := hall 2 (by kernel_rfl)
 have hb4_ := hall 4 (by kernel_rfl)
 have hb5_ := hall 5 (by kernel_rfl)
 have hb6_ := hall 6 (by kernel_rfl)
 have hb7_ := hall 7 (by kernel_rfl)
 have hb9_ := hall 9 (by kernel_rfl)
 have hb10_ := hall 10 (by kernel_rfl)
 have hb12_ := hall 12 (by kernel_rfl)
 have hb13_ := hall 13 (by kernel_rfl)
 have hb15_ := hall 15 (by kernel_rfl)
 have hb16_ := hall 16 (by kernel_rfl)
 have hb18_ := hall 18 (by kernel_rfl)
 have hb19_ := hall 19 (by kernel_rfl)
 have hb20_ := hall 20 (by kernel_rfl)
 subst ha
 simp only [putSel, hb1_, hb2_, hb4_, hb5_, hb6_, hb7_, hb9_, hb10_, hb12_, hb13_, hb15_, hb16_, hb18_, hb19_, hb20_, if_true, Act.put, List.setIfInBounds_toArray, List.set_cons_zero, List.set_cons_succ]
 have H111 := Aside0.mk QX
 clear QX
 have F1 := Aside0.mk (Q1 hb1_)
 clear Q1
 have F2 := Aside0.mk (Q2 hb2_)
 clear Q2
 have F7 := Aside0.mk (Q7 hb7_)
 clear Q7
 have F10 := Aside0.mk (Q10 hb10_)
 clear Q10
 have F13 := Aside0.mk (Q13 hb13_)
 clear Q13
 have F16 := Aside0.mk (Q16 hb16_)
 clear Q16
 have F18 := Aside0.mk (Q18 hb18_)
 clear Q18
 have F19 := Aside0.mk (Q19 hb19_)
 clear Q19
 have F20 := Aside0.mk (Q20 hb20_)
 clear Q20
 clear hall hb1_ hb2_ hb4_ hb5_ hb6_ hb7_ hb9_ hb10_ hb12_ hb13_ hb15_ hb16_ hb18_ hb19_ hb20_
 have hm20 := F20.out
 subst hm20
 obtain ⟨A33, c33, e33, hl33, hC33⟩ := F19.out
 subst e33
 have HL33 := Aside0.mk hl33
 have FC33 := Aside0.mk hC33
 clear F1 F2 F7 F10 F13 F16 F18 F20 F19 hl33 hC33
 have FG_ := Aside0.mk (Kd.C_below FC13.out H111.out.below)
 clear FC13
 have FC13 := FG_
 clear FG_
 have Wb := Aside0.mk (below_step Wa.out H111.out.below)
 have Bb := Aside0.mk (blk_below Ba.out H111.out.below)
 have Nb := Aside0.mk (Bx.refl w110)
 clear H111
 go_wp2_with (first | ((with_reducible refine gate_dst (N := 35) rfl ?_); refine Aside0.out ?_))
 refine Aside0.mk ?_
 refine wpList_step fun K hK => ?_
 refine Kd.R_lit_step (Kd.int .u8) _ 5 ?hg (N := 35) ?hd (xs := ([83, 50] : List Int)) (inner := [.int .u8 83, .int .u8 50]) (ok := fun _ => True) (okp := fun _ => True) ?hr ?hp (fun _ hk => hk) trivial (Below.refl _ _) (Nat.le_refl _) (by simp) ?_; (case hd => rfl); (case hg => rfl); (case hr => first | (go_simp; done) | (go_simp; rfl)); (case hp => exact (Reps.one (show Kd.M (Kd.int .u8) _ _ _ _ [_] from rfl) (Reps.one (show Kd.M (Kd.int .u8) _ _ _ _ [_] from rfl) (Reps.none _ _))))
 intro v_ w112 ho hb_ hg_ hnew_
 clear hg_ hnew_
 have HQ_ := Aside0.mk (LitP.of_R ho (by decide) Nb.out.below.size)
 clear ho
 have H113 := Aside0.mk (Nb.out.step hb_)
 clear hb_ Nb
 refine hK _ _ ?_
 clear hK K
 obtain ⟨g_, c_, tl_, fr_, ev_, hl_, hm_, hg_, hh_⟩ := HQ_.out
 subst ev_
 obtain ⟨w2_, hrun_, hS_, fr2_, hh2_⟩ := conv_mark (P := Try.prog) (t := 25) (n := 2) (c := c_) Try.underlying25 Try.underlying5 hh_
 go_wp2_with (first | ((with_reducible refine gate_dst (N := 36) rfl ?_); refine Aside0.out ?_))
 refine Aside0.mk ?_
 refine valW ?hw36 (v := .slice (some ⟨g_, 0, none⟩) ([83, 50] : List Int).length c_) (W' := w2_) ?hr36 ?_
 case hw36 => rfl
 case hr36 =>
  go_simp
  try (first | exact hrun_ | (rw [hrun_]; rfl) | rfl)
 have H114 := Aside0.mk (Bx_mark H113.out hS_ hg_ hh_ (by intro b hb; simp only [List.mem_cons, List.not_mem_nil, or_false] at hb))
 have HR36 := (LitP.mark HQ_.out hS_ hh_ hh2_).rd
 obtain ⟨A36, c36, e36, hl36, hC36⟩ := HR36
 injection e36 with ea36 eb36 ec36
 subst ea36
 subst ec36
 clear eb36
 have HL36 := Aside0.mk hl36
 have FC36 := Aside0.mk hC36
 clear HQ_ hl_ hm_ hg_ hh_ hrun_ hS_ hh2_ hl36 hC36 H113
 go_wp2_with (first | ((with_reducible refine gate_dst (N := 37) rfl ?_); refine Aside0.out ?_))
 refine Aside0.mk ?_
 refine wpList_step fun K hK => ?_
 refine Kd.R_lit_step (Kd.int .u8) _ 5 ?hg (N := 37) ?hd (xs := ([0, 0] : List Int)) (inner := [.int .u8 0, .int .u8 0]) (ok := fun _ => True) (okp := fun _ => True) ?hr ?hp (fun _ hk => hk) trivial (Below.refl _ _) (Nat.le_refl _) (by simp) ?_; (case hd => rfl); (case hg => rfl); (case hr => first | (go_simp; done) | (go_simp; rfl)); (case hp => exact (Reps.one (show Kd.M (Kd.int .u8) _ _ _ _ [_] from rfl) (Reps.one (show Kd.M (Kd.int .u8) _ _ _ _ [_] from rfl) (Reps.none _ _))))
 intro v_ w115 ho hb_ hg_ hnew_
 clear hg_ hnew_
 have H116 := Aside0.mk (H114.out.step hb_)
 have n17_ := Aside0.mk (Kd.C_below FC36.out hb_)
 clear FC36
 have FC36 := n17_
 clear n17_
 clear hb_ H114
 obtain ⟨A37, c37, e37, hl37, hC37⟩ := RdP.of_R ho
 subst e37
 have HL37 := Aside0.mk hl37
 have FC37 := Aside0.mk hC37
 clear hl37 hC37 ho
 refine hK _ _ ?_
 clear hK K
 have hk2 : w115.cell? ⟨g1, 2, none⟩ = some (.slice A0 xs.length c0) := pw_cell_below H116.out.below ((blk_cell Bb.out 2).trans rfl)
 go_wp2_with (first | ((with_reducible refine gate_callee (f := 65) rfl ?_); refine Aside0.out ?_))
 refine Aside0.mk ?_
 refine goesW (some 40) rfl ?hw18 Try.func65 (by kernel_rfl) rfl #[.slice A0 xs.length c0, .int .i64 8, .int .i64 16] rfl (by (try simp only [List.map_toArray, List.map_cons, List.map_nil]); first | done | rfl) ?_
 case hw18 => rfl
 refine (spec_l6Denied.calls kd8 _ c0 xs 8 16 (P.denL xs xs.length 8) _ (Kd.C_below HR0.out (below_step Wb.out H116.out.below)) HC0.out HD8.out).mono ?_
 rintro e w118 ⟨v_, rfl, ho, hb_⟩
 refine ⟨_, rfl, ?_⟩
 have H119 := Aside0.mk (H116.out.step hb_)
 have n20_ := Aside0.mk (Kd.C_below FC36.out hb_)
 clear FC36
 have FC36 := n20_
 clear n20_
 have n21_ := Aside0.mk (Kd.C_below FC37.out hb_)
 clear FC37
 have FC37 := n21_
 clear n21_
 clear hb_ H116
 obtain ⟨A40, c40, e40, hl40, hC40⟩ := RdP.of_R ho
 subst e40
 have HL40 := Aside0.mk hl40
 have FC40 := Aside0.mk hC40
 clear hl40 hC40 ho
 clear hk2
 go_wp2_with (first | ((with_reducible refine gate_callee (f := 49) rfl ?_); refine Aside0.out ?_))
 refine Aside0.mk ?_
 refine goesW (some 41) rfl ?hw22 Try.func49 (by kernel_rfl) rfl #[.int .i64 32] rfl (by (try simp only [List.map_toArray, List.map_cons, List.map_nil]); first | done | rfl) ?_
 case hw22 => rfl
 refine (spec_l1Zeros.calls kz 32 (List.replicate 32 0) _ HZ.out).mono ?_
 rintro e w122 ⟨v_, rfl, ho, hb_⟩
 refine ⟨_, rfl, ?_⟩
 have H123 := Aside0.mk (H119.out.step hb_)
 have n24_ := Aside0.mk (Kd.C_below FC36.out hb_)
 clear FC36
 have FC36 := n24_
 clear n24_
 have n25_ := Aside0.mk (Kd.C_below FC37.out hb_)
 clear FC37
 have FC37 := n25_
 clear n25_
 have n26_ := Aside0.mk (Kd.C_below FC40.out hb_)
 clear FC40
 have FC40 := n26_
 clear n26_
 clear hb_ H119
 obtain ⟨A41, c41, e41, hl41, hC41⟩ := RdP.of_R ho
 subst e41
 have HL41 := Aside0.mk hl41
 have FC41 := Aside0.mk hC41
 clear hl41 hC41 ho
 go_wp2_with (first | ((with_reducible refine gate_dst (N := 42) rfl ?_); refine Aside0.out ?_))
 refine Aside0.mk ?_
 refine wpList_step fun K hK => ?_
 refine Kd.N_lit_step (Kd.slice 5 (Kd.int .u8)) _ 25 ?hg (N' := 42) ?hd (xs := ([(P.leB 4 g), [83, 50], [0, 0], P.denL xs xs.length 8, List.replicate 32 0] : List (List Int))) (inner := [.slice A13 ((P.leB 4 g)).length c13, .slice (some ⟨g_, 0, none⟩) ([83, 50]).length c_, .slice A37 ([0, 0]).length c37, .slice A40 (P.denL xs xs.length 8).length c40, .slice A41 (List.replicate 32 0).length c41]) (ok := fun _ => True) (okp := fun _ => True) ?hr ?hp (fun _ hk => hk) trivial (Below.refl _ _) (Nat.le_refl _) (by simp) ?_; (case hd => rfl); (case hg => rfl); (case hr => first | (go_simp; done) | (go_simp; rfl)); (case hp => exact (Reps.one (RdP.FK HL13.out (Kd.C_below FC13.out H123.out.below)) (Reps.one (RdP.FK HL36.out FC36.out) (Reps.one (RdP.FK HL37.out FC37.out) (Reps.one (RdP.FK HL40.out FC40.out) (Reps.one (RdP.FK HL41.out FC41.out) (Reps.none _ _)))))))
 intro v_ w127 ho hb_ hg_ hnew_
 clear hg_ hnew_
 have H128 := Aside0.mk (H123.out.step hb_)
 have n29_ := Aside0.mk (Kd.C_below FC36.out hb_)
 clear FC36
 have FC36 := n29_
 clear n29_
 have n30_ := Aside0.mk (Kd.C_below FC37.out hb_)
 clear FC37
 have FC37 := n30_
 clear n30_
 have n31_ := Aside0.mk (Kd.C_below FC40.out hb_)
 clear FC40
 have FC40 := n31_
 clear n31_
 have n32_ := Aside0.mk (Kd.C_below FC41.out hb_)
 clear FC41
 have FC41 := n32_
 clear n32_
 clear hb_ H123
 obtain ⟨A42, c42, e42, hl42, hC42⟩ := RowsP.of_N ho
 subst e42
 have HL42 := Aside0.mk hl42
 have FC42 := Aside0.mk hC42
 clear hl42 hC42 ho
 refine hK _ _ ?_
 clear hK K
 go_wp2_with (first | ((with_reducible refine gate_callee (f := 47) rfl ?_); refine Aside0.out ?_))
 refine Aside0.mk ?_
 refine goesW (some 43) rfl ?hw33 Try.func47 (by kernel_rfl) rfl #[.slice A42 ([(P.leB 4 g), [83, 50], [0, 0], P.denL xs xs.length 8, List.replicate 32 0] : List (List Int)).length c42] rfl (by (try simp only [List.map_toArray, List.map_cons, List.map_nil]); first | done | rfl) ?_
 case hw33 => rfl
 refine (spec_l2Cat.calls k2 _ c42 [(P.leB 4 g), [83, 50], [0, 0], P.denL xs xs.length 8, List.replicate 32 0] two _ FC42.out HL42.out E2.out).mono ?_
 rintro e w133 ⟨v_, rfl, ho, hb_⟩
 refine ⟨_, rfl, ?_⟩
 have H134 := Aside0.mk (H128.out.step hb_)
 have n35_ := Aside0.mk (Kd.C_below FC36.out hb_)
 clear FC36
 have FC36 := n35_
 clear n35_
 have n36_ := Aside0.mk (Kd.C_below FC37.out hb_)
 clear FC37
 have FC37 := n36_
 clear n36_
 have n37_ := Aside0.mk (Kd.C_below FC40.out hb_)
 clear FC40
 have FC40 := n37_
 clear n37_
 have n38_ := Aside0.mk (Kd.C_below FC41.out hb_)
 clear FC41
 have FC41 := n38_
 clear n38_
 have n39_ := Aside0.mk (Kd.C_below FC42.out hb_)
 clear FC42
 have FC42 := n39_
 clear n39_
 clear hb_ H128
 obtain ⟨A43, c43, e43, hl43, hC43⟩ := RdP.of_R ho
 subst e43
 have HL43 := Aside0.mk hl43
 have FC43 := Aside0.mk hC43
 clear hl43 hC43 ho
 go_wp2_with (first | ((with_reducible refine gate_dst (N := 46) rfl ?_); refine Aside0.out ?_))
 refine Aside0.mk ?_
 refine wpList_step fun K hK => ?_
 refine Kd.N_lit_step (Kd.slice 5 (Kd.int .u8)) _ 25 ?hg (N' := 46) ?hd (xs := ([one, two] : List (List Int))) (inner := [.slice A33 (one).length c33, .slice A43 (two).length c43]) (ok := fun _ => True) (okp := fun _ => True) ?hr ?hp (fun _ hk => hk) trivial (Below.refl _ _) (Nat.le_refl _) (by simp) ?_; (case hd => rfl); (case hg => rfl); (case hr => first | (go_simp; done) | (go_simp; rfl)); (case hp => exact (Reps.one (RdP.FK HL33.out (Kd.C_below FC33.out H134.out.below)) (Reps.one (RdP.FK HL43.out FC43.out) (Reps.none _ _))))
 intro v_ w140 ho hb_ hg_ hnew_
 clear hg_ hnew_
 have H141 := Aside0.mk (H134.out.step hb_)
 have n42_ := Aside0.mk (Kd.C_below FC36.out hb_)
 clear FC36
 have FC36 := n42_
 clear n42_
 have n43_ := Aside0.mk (Kd.C_below FC37.out hb_)
 clear FC37
 have FC37 := n43_
 clear n43_
 have n44_ := Aside0.mk (Kd.C_below FC40.out hb_)
 clear FC40
 have FC40 := n44_
 clear n44_
 have n45_ := Aside0.mk (Kd.C_below FC41.out hb_)
 clear FC41
 have FC41 := n45_
 clear n45_
 have n46_ := Aside0.mk (Kd.C_below FC42.out hb_)
 clear FC42
 have FC42 := n46_
 clear n46_
 have n47_ := Aside0.mk (Kd.C_below FC43.out hb_)
 clear FC43
 have FC43 := n47_
 clear n47_
 clear hb_ H134
 obtain ⟨A46, c46, e46, hl46, hC46⟩ := RowsP.of_N ho
 subst e46
 have HL46 := Aside0.mk hl46
 have FC46 := Aside0.mk hC46
 clear hl46 hC46 ho
 refine hK _ _ ?_
 clear hK K
 go_wp2_with (first | ((with_reducible refine gate_callee (f := 47) rfl ?_); refine Aside0.out ?_))
 refine Aside0.mk ?_
 refine goesW (some 47) rfl ?hw48 Try.func47 (by kernel_rfl) rfl #[.slice A46 ([one, two] : List (List Int)).length c46] rfl (by (try simp only [List.map_toArray, List.map_cons, List.map_nil]); first | done | rfl) ?_
 case hw48 => rfl
 refine (spec_l2Cat.calls k3 _ c46 [one, two] body _ FC46.out HL46.out E3.out).mono ?_
 rintro e w148 ⟨v_, rfl, ho, hb_⟩
 refine ⟨_, rfl, ?_⟩
 have H149 := Aside0.mk (H141.out.step hb_)
 have n50_ := Aside0.mk (Kd.C_below FC36.out hb_)
 clear FC36
 have FC36 := n50_
 clear n50_
 have n51_ := Aside0.mk (Kd.C_below FC37.out hb_)
 clear FC37
 have FC37 := n51_
 clear n51_
 have n52_ := Aside0.mk (Kd.C_below FC40.out hb_)
 clear FC40
 have FC40 := n52_
 clear n52_
 have n53_ := Aside0.mk (Kd.C_below FC41.out hb_)
 clear FC41
 have FC41 := n53_
 clear n53_
 have n54_ := Aside0.mk (Kd.C_below FC42.out hb_)
 clear FC42
 have FC42 := n54_
 clear n54_
 have n55_ := Aside0.mk (Kd.C_below FC43.out hb_)
 clear FC43
 have FC43 := n55_
 clear n55_
 have n56_ := Aside0.mk (Kd.C_below FC46.out hb_)
 clear FC46
 have FC46 := n56_
 clear n56_
 clear hb_ H141
 obtain ⟨A47, c47, e47, hl47, hC47⟩ := RdP.of_R ho
 subst e47
 have HL47 := Aside0.mk hl47
 have FC47 := Aside0.mk hC47
 clear hl47 hC47 ho
 go_wp2_with (first | ((with_reducible refine gate_callee (f := 50) rfl ?_); refine Aside0.out ?_))
 refine Aside0.mk ?_
 refine goesW (some 50) rfl ?hw57 Try.func50 (by kernel_rfl) rfl #[.slice A47 body.length c47] rfl (by (try simp only [List.map_toArray, List.map_cons, List.map_nil]); first | done | rfl) ?_
 case hw57 => rfl
 refine (spec_Crc32.calls kc _ c47 body c _ FC47.out HL47.out HCR.out).mono ?_
 rintro e w157 ⟨rfl, hd_⟩
 refine ⟨_, rfl, ?_⟩
 have hb_ := hd_.below
 clear hd_
 have H158 := Aside0.mk (H149.out.step hb_)
 have n59_ := Aside0.mk (Kd.C_below FC36.out hb_)
 clear FC36
 have FC36 := n59_
 clear n59_
 have n60_ := Aside0.mk (Kd.C_below FC37.out hb_)
 clear FC37
 have FC37 := n60_
 clear n60_
 have n61_ := Aside0.mk (Kd.C_below FC40.out hb_)
 clear FC40
 have FC40 := n61_
 clear n61_
 have n62_ := Aside0.mk (Kd.C_below FC41.out hb_)
 clear FC41
 have FC41 := n62_
 clear n62_
 have n63_ := Aside0.mk (Kd.C_below FC42.out hb_)
 clear FC42
 have FC42 := n63_
 clear n63_
 have n64_ := Aside0.mk (Kd.C_below FC43.out hb_)
 clear FC43
 have FC43 := n64_
 clear n64_
 have n65_ := Aside0.mk (Kd.C_below FC46.out hb_)
 clear FC46
 have FC46 := n65_
 clear n65_
 have n66_ := Aside0.mk (Kd.C_below FC47.out hb_)
 clear FC47
 have FC47 := n66_
 clear n66_
 clear hb_ H149
 go_wp2_with (first | ((with_reducible refine gate_callee (f := 48) rfl ?_); refine Aside0.out ?_))
 refine Aside0.mk ?_
 refine goesW (some 51) rfl ?hw67 Try.func48 (by kernel_rfl) rfl #[.int .u32 c] rfl (by (try simp only [List.map_toArray, List.map_cons, List.map_nil]); first | done | rfl) ?_
 case hw67 => rfl
 refine (spec_l2Four.calls c (P.leB 4 c) _ (P.four_is c HCC.out)).mono ?_
 rintro e w167 ⟨v_, rfl, ho, hb_⟩
 refine ⟨_, rfl, ?_⟩
 have H168 := Aside0.mk (H158.out.step hb_)
 have n69_ := Aside0.mk (Kd.C_below FC36.out hb_)
 clear FC36
 have FC36 := n69_
 clear n69_
 have n70_ := Aside0.mk (Kd.C_below FC37.out hb_)
 clear FC37
 have FC37 := n70_
 clear n70_
 have n71_ := Aside0.mk (Kd.C_below FC40.out hb_)
 clear FC40
 have FC40 := n71_
 clear n71_
 have n72_ := Aside0.mk (Kd.C_below FC41.out hb_)
 clear FC41
 have FC41 := n72_
 clear n72_
 have n73_ := Aside0.mk (Kd.C_below FC42.out hb_)
 clear FC42
 have FC42 := n73_
 clear n73_
 have n74_ := Aside0.mk (Kd.C_below FC43.out hb_)
 clear FC43
 have FC43 := n74_
 clear n74_
 have n75_ := Aside0.mk (Kd.C_below FC46.out hb_)
 clear FC46
 have FC46 := n75_
 clear n75_
 have n76_ := Aside0.mk (Kd.C_below FC47.out hb_)
 clear FC47
 have FC47 := n76_
 clear n76_
 clear hb_ H158
 obtain ⟨A51, c51, e51, hl51, hC51⟩ := RdP.of_R ho
 subst e51
 have HL51 := Aside0.mk hl51
 have FC51 := Aside0.mk hC51
 clear hl51 hC51 ho
 go_wp2_with (first | ((with_reducible refine gate_dst (N := 53) rfl ?_); refine Aside0.out ?_))
 refine Aside0.mk ?_
 refine wpList_step fun K hK => ?_
 refine Kd.N_lit_step (Kd.slice 5 (Kd.int .u8)) _ 25 ?hg (N' := 53) ?hd (xs := ([body, P.leB 4 c, (P.leB 4 g)] : List (List Int))) (inner := [.slice A47 (body).length c47, .slice A51 (P.leB 4 c).length c51, .slice A13 ((P.leB 4 g)).length c13]) (ok := fun _ => True) (okp := fun _ => True) ?hr ?hp (fun _ hk => hk) trivial (Below.refl _ _) (Nat.le_refl _) (by simp) ?_; (case hd => rfl); (case hg => rfl); (case hr => first | (go_simp; done) | (go_simp; rfl)); (case hp => exact (Reps.one (RdP.FK HL47.out FC47.out) (Reps.one (RdP.FK HL51.out FC51.out) (Reps.one (RdP.FK HL13.out (Kd.C_below FC13.out H168.out.below)) (Reps.none _ _)))))
 intro v_ w177 ho hb_ hg_ hnew_
 clear hg_ hnew_
 have H178 := Aside0.mk (H168.out.step hb_)
 have n79_ := Aside0.mk (Kd.C_below FC36.out hb_)
 clear FC36
 have FC36 := n79_
 clear n79_
 have n80_ := Aside0.mk (Kd.C_below FC37.out hb_)
 clear FC37
 have FC37 := n80_
 clear n80_
 have n81_ := Aside0.mk (Kd.C_below FC40.out hb_)
 clear FC40
 have FC40 := n81_
 clear n81_
 have n82_ := Aside0.mk (Kd.C_below FC41.out hb_)
 clear FC41
 have FC41 := n82_
 clear n82_
 have n83_ := Aside0.mk (Kd.C_below FC42.out hb_)
 clear FC42
 have FC42 := n83_
 clear n83_
 have n84_ := Aside0.mk (Kd.C_below FC43.out hb_)
 clear FC43
 have FC43 := n84_
 clear n84_
 have n85_ := Aside0.mk (Kd.C_below FC46.out hb_)
 clear FC46
 have FC46 := n85_
 clear n85_
 have n86_ := Aside0.mk (Kd.C_below FC47.out hb_)
 clear FC47
 have FC47 := n86_
 clear n86_
 have n87_ := Aside0.mk (Kd.C_below FC51.out hb_)
 clear FC51
 have FC51 := n87_
 clear n87_
 clear hb_ H168
 obtain ⟨A53, c53, e53, hl53, hC53⟩ := RowsP.of_N ho
 subst e53
 have HL53 := Aside0.mk hl53
 have FC53 := Aside0.mk hC53
 clear hl53 hC53 ho
 refine hK _ _ ?_
 clear hK K
 have HBW := Aside0.mk (Nat.le_trans Wb.out.size H178.out.below.size)
 go_wp2_with (first | ((with_reducible refine gate_callee (f := 47) rfl ?_); refine Aside0.out ?_))
 refine Aside0.mk ?_
 refine goesW (some 54) rfl ?hw88 Try.func47 (by kernel_rfl) rfl #[.slice A53 ([body, P.leB 4 c, (P.leB 4 g)] : List (List Int)).length c53] rfl (by (try simp only [List.map_toArray, List.map_cons, List.map_nil]); first | done | rfl) ?_
 case hw88 => rfl
 refine (spec_l2Cat.calls k4 _ c53 [body, P.leB 4 c, (P.leB 4 g)] r _ FC53.out HL53.out E4.out).mono ?_
 rintro e w188 ⟨v_, rfl, ho, hb_⟩
 refine ⟨_, rfl, ?_⟩
 have HRr := Aside0.mk (Kd.R_lower ho HBW.out)
 clear ho
 have H189 := Aside0.mk (H178.out.step hb_)
 clear hb_ H178
 go_wp2
 go_ret
 exact ⟨_, rfl, HRr.out, below_step Wb.out H189.out.below⟩
set_option maxHeartbeats 8000000 in
set_option maxRecDepth 100000 in
theorem specSnap_none {A0 : Option Addr} {c0 : Nat} {xs : List Int} {A1 : Option Addr} {c1 : Nat} {u : List Int} {g t : Int} {kg : Nat} {w : World} (hr0 : Kd.C (Kd.int .i64) w A0 xs.length xs) (hc0 : xs.length ≤ c0) (hr1 : Kd.C (Kd.int .i64) w A1 u.length u) (hc1 : u.length ≤ c1) (hgd : spec_l6GoodSnap.f kg g t xs u = some false) :
  Calls Try.prog 25 #[.agg #[.int .u32 g, .int .u32 t, .slice A0 xs.length c0, .slice A1 u.length c1]] w fun e w' => ∃ v0_ : Value, e = .returned (v0_) ∧ Kd.R (Kd.int .u8) 5 w' w.heap.size (fun _ => True) v0_ [] ∧ Below w.heap.size w w' := by
 have HR0 := Aside0.mk hr0
 have HC0 := Aside0.mk hc0
 have HR1 := Aside0.mk hr1
 have HC1 := Aside0.mk hc1
 have HGd := Aside0.mk hgd
 have H0 := Aside0.mk (Bx.refl w)
 clear hr0 hc0 hr1 hc1 hgd
 go_enter Try.func25, Try.ntmps25
 go_wp2_with (first | ((with_reducible refine gate_dst (N := 1) rfl ?_); refine Aside0.out ?_))
 refine Aside0.mk ?_
 refine mk ?hw90 (N := 1) ?hd90 (cs := #[.int .u32 g, .int .u32 t, .slice A0 xs.length c0, .slice A1 u.length c1]) (t := 44) ?hr90 ?_
 case hd90 => rfl
 case hw90 => rfl
 case hr90 => first | (go_simp; done) | (go_simp; rfl)
 intro g1 hg1_ w190 hb90 hB90
 have H191 := Aside0.mk (H0.out.new hg1_ hb90 hB90)
 clear hg1_ hb90 hB90 H0
 go_wp2_with (first | ((with_reducible refine gate_dst (N := 7) rfl ?_); refine Aside0.out ?_))
 refine Aside0.mk ?_
 refine ld ?hw92 rfl ?hx92 H191.out.gt0 Try.underlying44 rfl (by kernel_rfl) ?_
 case hw92 => rfl
 case hx92 => rfl
 go_wp2_with (first | ((with_reducible refine gate_callee (f := 63) rfl ?_); refine Aside0.out ?_))
 refine Aside0.mk ?_
 refine goesW (some 8) rfl ?hw93 Try.func63 (by kernel_rfl) rfl #[.agg #[.int .u32 g, .int .u32 t, .slice A0 xs.length c0, .slice A1 u.length c1]] rfl (by (try simp only [List.map_toArray, List.map_cons, List.map_nil]); first | done | rfl) ?_
 case hw93 => rfl
 refine (spec_l6GoodSnap.calls kg g t _ _ xs _ _ u _ _ (Kd.C_below HR0.out H191.out.below) HC0.out (Kd.C_below HR1.out H191.out.below) HC1.out HGd.out).mono ?_
 rintro e w193 ⟨rfl, hb_⟩
 refine ⟨_, rfl, ?_⟩
 have H194 := Aside0.mk (H191.out.step hb_)
 clear hb_ H191
 go_wp2_with (first | ((with_reducible refine gate_dst (N := 10) rfl ?_); refine Aside0.out ?_))
 refine Aside0.mk ?_
 refine Kd.R_lit (Kd.int .u8) _ 5 ?hg (N := 10) ?hd (xs := ([] : List Int)) (inner := []) (ok := fun _ => True) (okp := fun _ => True) ?hr ?hp (fun _ hk => hk) trivial (Below.refl _ _) (Nat.le_refl _) (by simp) ?_
 case hd => rfl
 case hg => rfl
 case hr => first | (go_simp; done) | (go_simp; rfl)
 case hp => exact (Reps.none _ _)
 intro v12_ w2_ ho hb_ hg_ hnew_
 clear hg_ hnew_
 have HRr := Aside0.mk (Kd.R_lower ho H194.out.below.size)
 have HX := Aside0.mk (H194.out.step hb_)
 clear ho hb_
 go_wp2
 go_ret
 exact ⟨_, rfl, HRr.out, HX.out.below⟩
theorem spec_EncodeSnap.calls (k : Nat) (a0_0 : Int) (a0_1 : Int) (A0_2 : Option Addr) (c0_2 : Nat) (l0_2 : List Int) (A0_3 : Option Addr) (c0_3 : Nat) (l0_3 : List Int) (r : List Int) (w : World) (hr0_2 : Kd.C (Kd.int .i64) w A0_2 l0_2.length l0_2) (hc0_2 : l0_2.length ≤ c0_2) (hr0_3 : Kd.C (Kd.int .i64) w A0_3 l0_3.length l0_3) (hc0_3 : l0_3.length ≤ c0_3) (h : spec_EncodeSnap.f k a0_0 a0_1 l0_2 l0_3 = some r) :
  Calls Try.prog 25 #[.agg #[.int .u32 a0_0, .int .u32 a0_1, .slice A0_2 l0_2.length c0_2, .slice A0_3 l0_3.length c0_3]] w fun e w' => ∃ v0_ : Value, e = .returned (v0_) ∧ Kd.R (Kd.int .u8) 5 w' w.heap.size (fun _ => True) v0_ r ∧ Below w.heap.size w w' := by
 unfold spec_EncodeSnap.f at h
 by_cases hsz : P.snapSz a0_0 a0_1 l0_2 l0_3
 case neg => rw [if_neg hsz] at h; cases h
 rw [if_pos hsz] at h
 have h := Option.some.inj h
 obtain ⟨kg, hkg⟩ := (P.spec_snap_good a0_0 a0_1 l0_2 l0_3 (Nat.le_trans hsz.2.2.1 (by decide)) (Nat.le_trans hsz.2.2.2 (by decide))).ex
 unfold encS at h
 cases hk : P.goodSnap a0_0 a0_1 l0_2 l0_3 with
 | false =>
  rw [hk] at h hkg
  rw [if_neg (by decide)] at h
  subst h
  exact specSnap_none hr0_2 hc0_2 hr0_3 hc0_3 hkg
 | true =>
  rw [hk] at h hkg
  rw [if_pos rfl] at h
  subst h
  have ok := snapOk_of hsz hk
  obtain ⟨kb, hkb⟩ := (P.bits_ev l0_3 (Nat.le_trans hsz.2.2.2 (by decide))).ex
  obtain ⟨kd0, hd0⟩ := (P.den_ev l0_2 0 (by decide) ok.xs.1 (Nat.le_trans hsz.2.2.1 (by decide))).ex
  obtain ⟨kd8, hd8⟩ := (P.den_ev l0_2 8 (by decide) ok.xs.1 (Nat.le_trans hsz.2.2.1 (by decide))).ex
  obtain ⟨kz, hz⟩ := (P.zeros_ev 32 (by decide)).ex
  obtain ⟨k1, h1⟩ := (P.cat_ev [P.leB 4 a0_0, [83, 49], [(l0_2.length : Int) % 256, 0], P.leB 4 a0_1, P.bitsL l0_3, P.denL l0_2 l0_2.length 0, P.leB 4 a0_0] (by show 7 ≤ 1048576; decide) (by simp only [List.flatten_cons, List.flatten_nil, List.length_append, P.leB_length, P.bitsL_length, P.denL_length, List.length_cons, List.length_nil]; decide)).ex
  obtain ⟨k2, h2⟩ := (P.cat_ev [P.leB 4 a0_0, [83, 50], [0, 0], P.denL l0_2 l0_2.length 8, List.replicate 32 0] (by show 5 ≤ 1048576; decide) (by simp only [List.flatten_cons, List.flatten_nil, List.length_append, P.leB_length, P.bitsL_length, P.denL_length, List.length_cons, List.length_nil, List.length_replicate]; decide)).ex
  have eb : [[P.leB 4 a0_0, [83, 49], [(l0_2.length : Int) % 256, 0], P.leB 4 a0_1, P.bitsL l0_3, P.denL l0_2 l0_2.length 0, P.leB 4 a0_0].flatten, [P.leB 4 a0_0, [83, 50], [0, 0], P.denL l0_2 l0_2.length 8, List.replicate 32 0].flatten].flatten = P.snapHead a0_0 ((l0_2.length : Int) % 256) a0_1 l0_3 l0_2 := by
   unfold P.snapHead
   simp only [List.flatten_cons, List.flatten_nil, List.append_nil, List.append_assoc]
  obtain ⟨k3, h3⟩ := (P.cat_ev [[P.leB 4 a0_0, [83, 49], [(l0_2.length : Int) % 256, 0], P.leB 4 a0_1, P.bitsL l0_3, P.denL l0_2 l0_2.length 0, P.leB 4 a0_0].flatten, [P.leB 4 a0_0, [83, 50], [0, 0], P.denL l0_2 l0_2.length 8, List.replicate 32 0].flatten] (by show 2 ≤ 1048576; decide) (by rw [eb, P.snapHead_length]; decide)).ex
  rw [eb] at h3
  have hc := P.crc32_range (P.snapHead a0_0 ((l0_2.length : Int) % 256) a0_1 l0_3 l0_2)
  unfold P.U32 at hc
  obtain ⟨kc, hcr⟩ := (P.spec_Crc32_ev (P.snapHead a0_0 ((l0_2.length : Int) % 256) a0_1 l0_3 l0_2) (by rw [P.snapHead_length]; decide)).ex
  have ef : [P.snapHead a0_0 ((l0_2.length : Int) % 256) a0_1 l0_3 l0_2, P.leB 4 (P.crc32 (P.snapHead a0_0 ((l0_2.length : Int) % 256) a0_1 l0_3 l0_2)), P.leB 4 a0_0].flatten = P.snapCode a0_0 a0_1 l0_2 l0_3 := by
   unfold P.snapCode
   simp only [List.flatten_cons, List.flatten_nil, List.append_nil, List.append_assoc]
  obtain ⟨k4, h4⟩ := (P.cat_ev [P.snapHead a0_0 ((l0_2.length : Int) % 256) a0_1 l0_3 l0_2, P.leB 4 (P.crc32 (P.snapHead a0_0 ((l0_2.length : Int) % 256) a0_1 l0_3 l0_2)), P.leB 4 a0_0] (by show 3 ≤ 1048576; decide) (by rw [ef, P.snapCode_length]; decide)).ex
  rw [ef] at h4
  exact specSnap_raw hr0_2 hc0_2 hr0_3 hc0_3 hsz.1 hsz.2.1 rfl hkg hkb hd0 hd8 hz h1 h2 h3 hcr hc h4
end Go.Proofs.Ytgfadfahbhcllaa.Q
end
