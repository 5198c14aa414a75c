/- Part 5 of 6 of the proof that the law FnTear returns true at every input. No further condition. -/
import Derived.Test.YtgfadfahbhcllaaMFnTear4
namespace Go.Proofs.Ytgfadfahbhcllaa.Q
open Go.RowKit Go.Proofs.YtgfadfahbhcllaaW.PrintWords Go.Proofs.YtgfadfahbhcllaaW.PrintLast Go.Proofs.Ytgfadfahbhcllaa.LK Go.Proofs.YtgfadfahbhcllaaW.PrintMore
attribute [local go_sem] max2_int min2_int max_two min_two max_three min_three max_four min_four   -- for this text's walks alone
set_option linter.unusedVariables false
set_option linter.unusedSimpArgs false

/-! ### spec_DrawDecodeFrame: function 23 -/
def spec_DrawDecodeFrame.j0 : Nat → List Int → Int → Int → Int → List Int → Int → Int → Option (List Int)
  | 0, _, _, _, _, _, _, _ => none
  | k + 1, x5, x6, x7, x8, x105000, x105001, x105002 => if x6 = 1 then (if 0 ≤ x7 then (if x7 ≤ (x5.length : Int) then (some (x5.take (x7 : Int).toNat)) else (none)) else (none)) else (if x6 = 2 then ((spec_l2DrawFrame.f k x105000 x105001 x105002).bind fun bt129 => ((spec_EncodeFrame.f bt129.1 bt129.2.1 bt129.2.2.1 bt129.2.2.2.1).bind fun t135 => ((spec_l2Torn.f x5 t135 x7).bind fun t138 => (some t138)))) else (if x6 = 3 then (if 0 ≤ (Int.tmod x7 56) then (if (Int.tmod x7 56) < (x5.length : Int) then ((some (x5.set ((Int.tmod x7 56) : Int).toNat (Go.bits .xor .u8 (rd x5 (Int.tmod x7 56)) ((x8) % 256)) : List Int)).bind fun y142 => (if 56 ≤ (x5.length : Int) then ((spec_Crc32.f k (y142.take 56)).bind fun t153 => ((spec_l2Four.f t153).bind fun t154 => (if 60 ≤ (x5.length : Int) then ((spec_l2Cat.f k (([(y142.take 56), t154, (y142.drop 60)] : List (List Int)))).bind fun t165 => (some t165)) else (none)))) else (none))) else (none)) else (none)) else (if x6 = 4 then (if x5.length < 140737488355328 then (some (x5 ++ [0])) else (none)) else (some x5))))
def spec_DrawDecodeFrame.f (k : Nat) (l0 : List Int) : Option (List Int) := (spec_l1New.f k l0).bind fun bt101 => ((spec_l2DrawFrame.f k bt101.1 bt101.2.1 bt101.2.2).bind fun bt105 => ((spec_EncodeFrame.f bt105.1 bt105.2.1 bt105.2.2.1 bt105.2.2.2.1).bind fun t112 => ((spec_l1Below.f bt101.1 bt105.2.2.2.2.1 bt105.2.2.2.2.2 8).bind fun bt115 => ((spec_l1Below.f bt101.1 bt115.2.1 bt115.2.2 64).bind fun bt118 => ((spec_l1Below.f bt101.1 bt118.2.1 bt118.2.2 255).bind fun bt121 => (if bt115.1 = 0 then (if 0 ≤ bt118.1 then (if bt118.1 < (t112.length : Int) then (spec_DrawDecodeFrame.j0 k (t112.set (bt118.1 : Int).toNat (Go.bits .xor .u8 (rd t112 bt118.1) ((wrap64 (1 + bt121.1)) % 256))) bt115.1 bt118.1 (wrap64 (1 + bt121.1)) bt101.1 bt121.2.1 bt121.2.2) else (none)) else (none)) else (spec_DrawDecodeFrame.j0 k t112 bt115.1 bt118.1 (wrap64 (1 + bt121.1)) bt101.1 bt121.2.1 bt121.2.2)))))))
theorem spec_DrawDecodeFrame.mono_l : ∀ k, (∀ y0 y1 y2 y3 y4 y5 y6, LeO (spec_DrawDecodeFrame.j0 k y0 y1 y2 y3 y4 y5 y6) (spec_DrawDecodeFrame.j0 (k + 1) y0 y1 y2 y3 y4 y5 y6))
  | 0 => fun _ _ _ _ _ _ _ r h => by simp [spec_DrawDecodeFrame.j0] at h
  | k + 1 => by
    have ih0 := spec_DrawDecodeFrame.mono_l k
    · intro y0 y1 y2 y3 y4 y5 y6
      unfold spec_DrawDecodeFrame.j0
      repeat' first
      | (with_reducible exact ih0 _ _ _ _ _ _ _)
      | (with_reducible exact spec_Crc32.mono _ _)
      | (with_reducible exact spec_l1New.mono _ _)
      | (with_reducible exact spec_l2Cat.mono _ _)
      | (with_reducible exact spec_l2DrawFrame.mono _ _ _ _)
      | (with_reducible exact LeO.refl _)
      | (with_reducible exact LeO.none _)
      | (with_reducible refine LeO.ite ?_ ?_)
      | (with_reducible refine LeO.bind ?_ (fun _ => ?_))
      | exact ih0 _ _ _ _ _ _ _
      | exact spec_Crc32.mono _ _
      | exact spec_l1New.mono _ _
      | exact spec_l2Cat.mono _ _
      | exact spec_l2DrawFrame.mono _ _ _ _
      | exact LeO.none _
      | refine LeO.ite ?_ ?_
      | refine LeO.bind ?_ (fun _ => ?_)
theorem spec_DrawDecodeFrame.mono : ∀ a0 k, LeO (spec_DrawDecodeFrame.f k a0) (spec_DrawDecodeFrame.f (k + 1) a0) := by
  intro a0 k
  have ih0 := spec_DrawDecodeFrame.mono_l k
  unfold spec_DrawDecodeFrame.f
  repeat' first
      | (with_reducible exact ih0 _ _ _ _ _ _ _)
      | (with_reducible exact spec_Crc32.mono _ _)
      | (with_reducible exact spec_l1New.mono _ _)
      | (with_reducible exact spec_l2Cat.mono _ _)
      | (with_reducible exact spec_l2DrawFrame.mono _ _ _ _)
      | (with_reducible exact LeO.refl _)
      | (with_reducible exact LeO.none _)
      | (with_reducible refine LeO.ite ?_ ?_)
      | (with_reducible refine LeO.bind ?_ (fun _ => ?_))
      | exact ih0 _ _ _ _ _ _ _
      | exact spec_Crc32.mono _ _
      | exact spec_l1New.mono _ _
      | exact spec_l2Cat.mono _ _
      | exact spec_l2DrawFrame.mono _ _ _ _
      | exact LeO.none _
      | refine LeO.ite ?_ ?_
      | refine LeO.bind ?_ (fun _ => ?_)
def spec_DrawDecodeFrame.T15 : Bool × List (List Nat × List Nat) := (true, [([], []), ([0], [0]), ([], []), ([2], [2]), ([3], [3]), ([4, 4], [4]), ([], []), ([6], [6]), ([1, 5, 7], [1, 5, 7]), ([8, 5], [8]), ([9, 9, 0, 1, 2, 3, 4, 5, 6, 7, 8, 9], [9])])
def spec_DrawDecodeFrame.B15 : List Nat := [0, 1, 0, 4, 12, 28, 0, 64, 255, 511, 1023]
theorem spec_DrawDecodeFrame.tab15 : rtab .any (opsOf Try.f23 15) = spec_DrawDecodeFrame.T15 := by kernel_rfl
theorem spec_DrawDecodeFrame.bits15 : waitsOk spec_DrawDecodeFrame.T15.2 spec_DrawDecodeFrame.B15 = true := by kernel_rfl
set_option maxHeartbeats 8000000 in
set_option maxRecDepth 100000 in
theorem spec_DrawDecodeFrame.calls (k : Nat) (A0 : Option Addr) (c0 : Nat) (l0 : List Int) (r : List Int) (w : World) (hr0 : Kd.C (Kd.int .u8) w A0 l0.length l0) (hc0 : l0.length ≤ c0) (h : spec_DrawDecodeFrame.f k l0 = some r) :
    Calls Try.prog 23 #[.slice A0 l0.length c0] w fun e w' => ∃ v0_ : Value, e = .returned (v0_) ∧ Kd.R (Kd.int .u8) 5 w' w.heap.size (fun _ => True) v0_ r ∧ Below w.heap.size w w' := by
  have hu27 := Try.underlying27
  have HR0 := Aside0.mk hr0
  have HC0 := Aside0.mk hc0
  clear hr0 hc0
  have HB := Aside0.mk (Below.refl w.heap.size w)
  have H : ((spec_l1New.f k l0).bind fun bt101 => ((spec_l2DrawFrame.f k bt101.1 bt101.2.1 bt101.2.2).bind fun bt105 => ((spec_EncodeFrame.f bt105.1 bt105.2.1 bt105.2.2.1 bt105.2.2.2.1).bind fun t112 => ((spec_l1Below.f bt101.1 bt105.2.2.2.2.1 bt105.2.2.2.2.2 8).bind fun bt115 => ((spec_l1Below.f bt101.1 bt115.2.1 bt115.2.2 64).bind fun bt118 => ((spec_l1Below.f bt101.1 bt118.2.1 bt118.2.2 255).bind fun bt121 => (if bt115.1 = 0 then (if 0 ≤ bt118.1 then (if bt118.1 < (t112.length : Int) then (spec_DrawDecodeFrame.j0 k (t112.set (bt118.1 : Int).toNat (Go.bits .xor .u8 (rd t112 bt118.1) ((wrap64 (1 + bt121.1)) % 256))) bt115.1 bt118.1 (wrap64 (1 + bt121.1)) bt101.1 bt121.2.1 bt121.2.2) else (none)) else (none)) else (spec_DrawDecodeFrame.j0 k t112 bt115.1 bt118.1 (wrap64 (1 + bt121.1)) bt101.1 bt121.2.1 bt121.2.2)))))))) = some r := h
  clear h
  replace H := Option.bind_eq_some_iff.mp H
  obtain ⟨⟨t101, t102, t103⟩, A20, H⟩ := H
  replace H : ((spec_l2DrawFrame.f k t101 t102 t103).bind fun bt105 => ((spec_EncodeFrame.f bt105.1 bt105.2.1 bt105.2.2.1 bt105.2.2.2.1).bind fun t112 => ((spec_l1Below.f t101 bt105.2.2.2.2.1 bt105.2.2.2.2.2 8).bind fun bt115 => ((spec_l1Below.f t101 bt115.2.1 bt115.2.2 64).bind fun bt118 => ((spec_l1Below.f t101 bt118.2.1 bt118.2.2 255).bind fun bt121 => (if bt115.1 = 0 then (if 0 ≤ bt118.1 then (if bt118.1 < (t112.length : Int) then (spec_DrawDecodeFrame.j0 k (t112.set (bt118.1 : Int).toNat (Go.bits .xor .u8 (rd t112 bt118.1) ((wrap64 (1 + bt121.1)) % 256))) bt115.1 bt118.1 (wrap64 (1 + bt121.1)) t101 bt121.2.1 bt121.2.2) else (none)) else (none)) else (spec_DrawDecodeFrame.j0 k t112 bt115.1 bt118.1 (wrap64 (1 + bt121.1)) t101 bt121.2.1 bt121.2.2))))))) = some r := H
  have A2 := Aside0.mk A20
  clear A20
  replace H := Option.bind_eq_some_iff.mp H
  obtain ⟨⟨t105, t106, t107, t108, t109, t110⟩, A30, H⟩ := H
  replace H : ((spec_EncodeFrame.f t105 t106 t107 t108).bind fun t112 => ((spec_l1Below.f t101 t109 t110 8).bind fun bt115 => ((spec_l1Below.f t101 bt115.2.1 bt115.2.2 64).bind fun bt118 => ((spec_l1Below.f t101 bt118.2.1 bt118.2.2 255).bind fun bt121 => (if bt115.1 = 0 then (if 0 ≤ bt118.1 then (if bt118.1 < (t112.length : Int) then (spec_DrawDecodeFrame.j0 k (t112.set (bt118.1 : Int).toNat (Go.bits .xor .u8 (rd t112 bt118.1) ((wrap64 (1 + bt121.1)) % 256))) bt115.1 bt118.1 (wrap64 (1 + bt121.1)) t101 bt121.2.1 bt121.2.2) else (none)) else (none)) else (spec_DrawDecodeFrame.j0 k t112 bt115.1 bt118.1 (wrap64 (1 + bt121.1)) t101 bt121.2.1 bt121.2.2)))))) = some r := H
  have A3 := Aside0.mk A30
  clear A30
  replace H := Option.bind_eq_some_iff.mp H
  obtain ⟨t112, A40, H⟩ := H
  replace H : ((spec_l1Below.f t101 t109 t110 8).bind fun bt115 => ((spec_l1Below.f t101 bt115.2.1 bt115.2.2 64).bind fun bt118 => ((spec_l1Below.f t101 bt118.2.1 bt118.2.2 255).bind fun bt121 => (if bt115.1 = 0 then (if 0 ≤ bt118.1 then (if bt118.1 < (t112.length : Int) then (spec_DrawDecodeFrame.j0 k (t112.set (bt118.1 : Int).toNat (Go.bits .xor .u8 (rd t112 bt118.1) ((wrap64 (1 + bt121.1)) % 256))) bt115.1 bt118.1 (wrap64 (1 + bt121.1)) t101 bt121.2.1 bt121.2.2) else (none)) else (none)) else (spec_DrawDecodeFrame.j0 k t112 bt115.1 bt118.1 (wrap64 (1 + bt121.1)) t101 bt121.2.1 bt121.2.2))))) = some r := H
  have A4 := Aside0.mk A40
  clear A40
  replace H := Option.bind_eq_some_iff.mp H
  obtain ⟨⟨t115, t116, t117⟩, A50, H⟩ := H
  replace H : ((spec_l1Below.f t101 t116 t117 64).bind fun bt118 => ((spec_l1Below.f t101 bt118.2.1 bt118.2.2 255).bind fun bt121 => (if t115 = 0 then (if 0 ≤ bt118.1 then (if bt118.1 < (t112.length : Int) then (spec_DrawDecodeFrame.j0 k (t112.set (bt118.1 : Int).toNat (Go.bits .xor .u8 (rd t112 bt118.1) ((wrap64 (1 + bt121.1)) % 256))) t115 bt118.1 (wrap64 (1 + bt121.1)) t101 bt121.2.1 bt121.2.2) else (none)) else (none)) else (spec_DrawDecodeFrame.j0 k t112 t115 bt118.1 (wrap64 (1 + bt121.1)) t101 bt121.2.1 bt121.2.2)))) = some r := H
  have A5 := Aside0.mk A50
  clear A50
  replace H := Option.bind_eq_some_iff.mp H
  obtain ⟨⟨t118, t119, t120⟩, A60, H⟩ := H
  replace H : ((spec_l1Below.f t101 t119 t120 255).bind fun bt121 => (if t115 = 0 then (if 0 ≤ t118 then (if t118 < (t112.length : Int) then (spec_DrawDecodeFrame.j0 k (t112.set (t118 : Int).toNat (Go.bits .xor .u8 (rd t112 t118) ((wrap64 (1 + bt121.1)) % 256))) t115 t118 (wrap64 (1 + bt121.1)) t101 bt121.2.1 bt121.2.2) else (none)) else (none)) else (spec_DrawDecodeFrame.j0 k t112 t115 t118 (wrap64 (1 + bt121.1)) t101 bt121.2.1 bt121.2.2))) = some r := H
  have A6 := Aside0.mk A60
  clear A60
  replace H := Option.bind_eq_some_iff.mp H
  obtain ⟨⟨t121, t122, t123⟩, A70, H⟩ := H
  replace H : (if t115 = 0 then (if 0 ≤ t118 then (if t118 < (t112.length : Int) then (spec_DrawDecodeFrame.j0 k (t112.set (t118 : Int).toNat (Go.bits .xor .u8 (rd t112 t118) ((wrap64 (1 + t121)) % 256))) t115 t118 (wrap64 (1 + t121)) t101 t122 t123) else (none)) else (none)) else (spec_DrawDecodeFrame.j0 k t112 t115 t118 (wrap64 (1 + t121)) t101 t122 t123)) = some r := H
  have A7 := Aside0.mk A70
  clear A70
  have HC8 := Aside0.mk H
  clear H
  go_enter Try.func23, Try.ntmps23
  go_upto_if 23 with (first | ((with_reducible refine gate_callee (f := 57) rfl ?_); refine goesL_ (some 10) rfl rfl Try.func57 (by kernel_rfl) rfl #[.slice A0 l0.length c0] rfl (by (try simp only [List.map_toArray, List.map_cons, List.map_nil]); first | done | rfl | (simp only [List.length_drop, List.length_take]; rfl)) ?_; (with_reducible refine (spec_l1New.calls k _ _ l0 t101 t102 t103 w _ ?side1 ?side2 ?side3 A2.out).mono ?_); (case side1 => repeat (first | (with_reducible first | exact HB.out | apply below_alloc | apply pw_below_drewN | apply below_drew1) | exact HB.out)); (case side2 => exact HR0.out); (case side3 => exact HC0.out); rintro e w9 ⟨g104, rfl, hi, hb, hb2⟩; refine ⟨_, rfl, ?_⟩; have n0_ := Aside0.mk (hb); have n1_ := Aside0.mk (hi); clear HB; have HB := n0_; have HI104 := n1_; clear n0_ n1_; (try clear hb); (try clear hb2); (try clear hk); (try clear hi)) | ((with_reducible refine gate_callee (f := 58) rfl ?_); refine goesL_ (some 12) rfl rfl Try.func58 (by kernel_rfl) rfl #[.pointer (some ⟨g104, 0, none⟩)] rfl (by (try simp only [List.map_toArray, List.map_cons, List.map_nil]); first | done | rfl | (simp only [List.length_drop, List.length_take]; rfl)) ?_; (with_reducible refine (spec_l2DrawFrame.calls k g104 t101 t102 t103 t105 t106 t107 t108 t109 t110 w _ ?side1 ?side2 A3.out).mono ?_); (case side1 => repeat (first | (with_reducible first | exact HI104.out | apply IsS121.alloc | apply IsS121.drewN | apply IsS121.drew | apply IsS121.set_1 | apply IsS121.set_2) | exact HI104.out)); (case side2 => repeat (first | (with_reducible first | exact HB.out | apply below_alloc | apply pw_below_drewN | apply below_drew1 | refine below_set ?_ (IsS121.ge HI104.out)) | exact HB.out)); rintro e w10 ⟨rfl, hi, hb, hk⟩; refine ⟨_, rfl, ?_⟩; have n0_ := Aside0.mk (hb); have n1_ := Aside0.mk (hi); clear HB; clear HI104; have HB := n0_; have HI104 := n1_; clear n0_ n1_; (try clear hb); (try clear hb2); (try clear hk); (try clear hi)) | ((with_reducible refine gate_dst (N := 4) rfl ?_); refine box_event ?hg (N := 4) ?hd (cs := #[.int .u32 0, .int .i64 0, .int .u32 0, .int .u32 0]) (t := 27) ?hr ?_; (case hd => rfl); (case hg => rfl); (case hr => first | (go_simp; done) | (go_simp; rfl)); intro gb111 hg w11 hbox hb; have n0_ := Aside0.mk (IsS121.below (by repeat (first | (with_reducible first | exact HI104.out | apply IsS121.alloc | apply IsS121.drewN | apply IsS121.drew | apply IsS121.set_1 | apply IsS121.set_2) | exact HI104.out)) hb); have n1_ := Aside0.mk (below_step (by repeat (first | (with_reducible first | exact HB.out | apply below_alloc | apply pw_below_drewN | apply below_drew1 | refine below_set ?_ (IsS121.ge HI104.out)) | exact HB.out)) hb); have n2_ := Aside0.mk (hbox); have n3_ := Aside0.mk ((by rw [hg]; exact (below_size (by repeat (first | (with_reducible first | exact HB.out | apply below_alloc | apply pw_below_drewN | apply below_drew1 | refine below_set ?_ (IsS121.ge HI104.out)) | exact HB.out))) : w.heap.size ≤ gb111)); have n4_ := Aside0.mk ((by rw [hg]; exact (below_size (by repeat (first | (with_reducible first | exact HB.out | apply below_alloc | apply pw_below_drewN | apply below_drew1 | refine below_set ?_ (IsS121.ge HI104.out)) | exact HB.out))) : w.heap.size ≤ gb111)); have n5_ := Aside0.mk ((by rw [hg]; exact Nat.ne_of_lt (IsS121.lt (show IsS121 w _ g104 t101 t109 t110 from by repeat (first | (with_reducible first | exact HI104.out | apply IsS121.alloc | apply IsS121.drewN | apply IsS121.drew | apply IsS121.set_1 | apply IsS121.set_2) | exact HI104.out))) : g104 ≠ gb111)); have n6_ := Aside0.mk ((by rw [hg]; exact Nat.ne_of_gt (IsS121.lt (show IsS121 w _ g104 t101 t109 t110 from by repeat (first | (with_reducible first | exact HI104.out | apply IsS121.alloc | apply IsS121.drewN | apply IsS121.drew | apply IsS121.set_1 | apply IsS121.set_2) | exact HI104.out))) : gb111 ≠ g104)); clear HI104; clear HB; have HI104 := n0_; have HB := n1_; have BK111 := n2_; have GW111 := n3_; have GE111 := n4_; have NB104_111 := n5_; have NB111_104 := n6_; clear n0_ n1_ n2_ n3_ n4_ n5_ n6_; clear hb hbox hg; have hnb12 := NB111_104.out; have hnc12 := NB104_111.out; have hcz13_0 : w11.cell? ⟨gb111, 0, none⟩ = some (.int .u32 0) := (blk_cell BK111.out 0).trans rfl; have hcz13_1 : w11.cell? ⟨gb111, 1, none⟩ = some (.int .i64 0) := (blk_cell BK111.out 1).trans rfl; have hcz13_2 : w11.cell? ⟨gb111, 2, none⟩ = some (.int .u32 0) := (blk_cell BK111.out 2).trans rfl; have hcz13_3 : w11.cell? ⟨gb111, 3, none⟩ = some (.int .u32 0) := (blk_cell BK111.out 3).trans rfl; have hfz13_0 := blk_frozen BK111.out 0; have hfz13_1 := blk_frozen BK111.out 1; have hfz13_2 := blk_frozen BK111.out 2; have hfz13_3 := blk_frozen BK111.out 3) | ((with_reducible refine gate_callee (f := 11) rfl ?_); refine goesL_ (some 14) rfl rfl Try.func11 (by kernel_rfl) rfl #[.agg #[.int .u32 t105, .int .i64 t106, .int .u32 t107, .int .u32 t108]] rfl (by (try simp only [List.map_toArray, List.map_cons, List.map_nil]); first | done | rfl | (simp only [List.length_drop, List.length_take]; rfl)) ?_; (with_reducible refine (spec_EncodeFrame.calls t105 t106 t107 t108 t112 _ A4.out).mono ?_); rintro e w14 ⟨v113, rfl, ho0, hb⟩; refine ⟨_, rfl, ?_⟩; have n0_ := Aside0.mk (Kd.R_lower ho0 (below_size (by repeat (first | (with_reducible first | exact HB.out | apply below_alloc | apply pw_below_drewN | apply below_drew1 | refine below_set ?_ (IsS121.ge HI104.out) | refine below_set ?_ GE111.out) | exact HB.out)))); have n1_ := Aside0.mk (IsS121.below (show IsS121 w ((((w11.setCell ⟨gb111, 0, none⟩ (.int .u32 t105)).setCell ⟨gb111, 1, none⟩ (.int .i64 t106)).setCell ⟨gb111, 2, none⟩ (.int .u32 t107)).setCell ⟨gb111, 3, none⟩ (.int .u32 t108)) g104 t101 t109 t110 from by repeat (first | (with_reducible first | exact HI104.out | apply IsS121.alloc | apply IsS121.drewN | apply IsS121.drew | apply IsS121.set_1 | apply IsS121.set_2 | refine IsS121.far ?_ NB104_111.out _) | exact HI104.out)) hb); have n2_ := Aside0.mk (blk_below (g := gb111) (o := .cells #[.int .u32 t105, .int .i64 t106, .int .u32 t107, .int .u32 t108] 27 (0, 0)) (by (with_reducible repeat (first | refine blk_drewN ?_ _ | refine blk_drew ?_ | refine blk_alloc ?_ _)); refine blk_put (cs := #[.int .u32 t105, .int .i64 t106, .int .u32 t107, .int .u32 0]) ?_ 3 _ rfl; (with_reducible repeat (first | refine blk_drewN ?_ _ | refine blk_drew ?_ | refine blk_alloc ?_ _)); refine blk_put (cs := #[.int .u32 t105, .int .i64 t106, .int .u32 0, .int .u32 0]) ?_ 2 _ rfl; (with_reducible repeat (first | refine blk_drewN ?_ _ | refine blk_drew ?_ | refine blk_alloc ?_ _)); refine blk_put (cs := #[.int .u32 t105, .int .i64 0, .int .u32 0, .int .u32 0]) ?_ 1 _ rfl; (with_reducible repeat (first | refine blk_drewN ?_ _ | refine blk_drew ?_ | refine blk_alloc ?_ _)); refine blk_put (cs := #[.int .u32 0, .int .i64 0, .int .u32 0, .int .u32 0]) ?_ 0 _ rfl; (with_reducible repeat (first | refine blk_drewN ?_ _ | refine blk_drew ?_ | refine blk_alloc ?_ _)); exact BK111.out) hb); have n3_ := Aside0.mk (below_step (by repeat (first | (with_reducible first | exact HB.out | apply below_alloc | apply pw_below_drewN | apply below_drew1 | refine below_set ?_ (IsS121.ge HI104.out) | refine below_set ?_ GE111.out) | exact HB.out)) hb); clear HI104; clear BK111; clear HB; have HO114 := n0_; have HI104 := n1_; have BK111 := n2_; have HB := n3_; clear n0_ n1_ n2_ n3_; (try clear hb); (try clear hb2); (try clear hk); (try clear hi); (try clear ho0)) | ((with_reducible refine gate_callee (f := 60) rfl ?_); refine goesL_ (some 16) rfl rfl Try.func60 (by kernel_rfl) rfl #[.pointer (some ⟨g104, 0, none⟩), .int .i64 8] rfl (by (try simp only [List.map_toArray, List.map_cons, List.map_nil]); first | done | rfl | (simp only [List.length_drop, List.length_take]; rfl)) ?_; (with_reducible refine (spec_l1Below.calls g104 t101 t109 t110 8 t115 t116 t117 w _ ?side1 ?side2 A5.out).mono ?_); (case side1 => repeat (first | (with_reducible first | exact HI104.out | apply IsS121.alloc | apply IsS121.drewN | apply IsS121.drew | apply IsS121.set_1 | apply IsS121.set_2 | refine IsS121.far ?_ NB104_111.out _) | exact HI104.out)); (case side2 => repeat (first | (with_reducible first | exact HB.out | apply below_alloc | apply pw_below_drewN | apply below_drew1 | refine below_set ?_ (IsS121.ge HI104.out) | refine below_set ?_ GE111.out) | exact HB.out)); rintro e w15 ⟨rfl, hi, hb, hk⟩; refine ⟨_, rfl, ?_⟩; have n0_ := Aside0.mk (KeepBut.blk hk (g' := gb111) (o := .cells #[.int .u32 t105, .int .i64 t106, .int .u32 t107, .int .u32 t108] 27 (0, 0)) (by (with_reducible repeat (first | refine blk_drewN ?_ _ | refine blk_drew ?_ | refine blk_alloc ?_ _)); exact BK111.out) NB111_104.out (by simp)); have n1_ := Aside0.mk (Kd.R_mono (Kd.R_keep (IsS121.apart (show IsS121 w _ g104 t101 t109 t110 from by repeat (first | (with_reducible first | exact HI104.out | apply IsS121.alloc | apply IsS121.drewN | apply IsS121.drew | apply IsS121.set_1 | apply IsS121.set_2 | refine IsS121.far ?_ NB104_111.out _) | exact HI104.out)) (by (with_reducible repeat (first | apply Kd.R_alloc | apply Kd.R_drewN | apply Kd.R_drew)); exact HO114.out) (by decide)) hk (fun _ h => h.2)) (fun _ h => h.1)); have n2_ := Aside0.mk (hb); have n3_ := Aside0.mk (hi); clear BK111; clear HO114; clear HB; clear HI104; have BK111 := n0_; have HO114 := n1_; have HB := n2_; have HI104 := n3_; clear n0_ n1_ n2_ n3_; (try clear hb); (try clear hb2); (try clear hk); (try clear hi)) | ((with_reducible refine gate_callee (f := 60) rfl ?_); refine goesL_ (some 18) rfl rfl Try.func60 (by kernel_rfl) rfl #[.pointer (some ⟨g104, 0, none⟩), .int .i64 64] rfl (by (try simp only [List.map_toArray, List.map_cons, List.map_nil]); first | done | rfl | (simp only [List.length_drop, List.length_take]; rfl)) ?_; (with_reducible refine (spec_l1Below.calls g104 t101 t116 t117 64 t118 t119 t120 w _ ?side1 ?side2 A6.out).mono ?_); (case side1 => repeat (first | (with_reducible first | exact HI104.out | apply IsS121.alloc | apply IsS121.drewN | apply IsS121.drew | apply IsS121.set_1 | apply IsS121.set_2 | refine IsS121.far ?_ NB104_111.out _) | exact HI104.out)); (case side2 => repeat (first | (with_reducible first | exact HB.out | apply below_alloc | apply pw_below_drewN | apply below_drew1 | refine below_set ?_ (IsS121.ge HI104.out) | refine below_set ?_ GE111.out) | exact HB.out)); rintro e w16 ⟨rfl, hi, hb, hk⟩; refine ⟨_, rfl, ?_⟩; have n0_ := Aside0.mk (KeepBut.blk hk (g' := gb111) (o := .cells #[.int .u32 t105, .int .i64 t106, .int .u32 t107, .int .u32 t108] 27 (0, 0)) (by (with_reducible repeat (first | refine blk_drewN ?_ _ | refine blk_drew ?_ | refine blk_alloc ?_ _)); exact BK111.out) NB111_104.out (by simp)); have n1_ := Aside0.mk (Kd.R_mono (Kd.R_keep (IsS121.apart (show IsS121 w _ g104 t101 t116 t117 from by repeat (first | (with_reducible first | exact HI104.out | apply IsS121.alloc | apply IsS121.drewN | apply IsS121.drew | apply IsS121.set_1 | apply IsS121.set_2 | refine IsS121.far ?_ NB104_111.out _) | exact HI104.out)) (by (with_reducible repeat (first | apply Kd.R_alloc | apply Kd.R_drewN | apply Kd.R_drew)); exact HO114.out) (by decide)) hk (fun _ h => h.2)) (fun _ h => h.1)); have n2_ := Aside0.mk (hb); have n3_ := Aside0.mk (hi); clear BK111; clear HO114; clear HB; clear HI104; have BK111 := n0_; have HO114 := n1_; have HB := n2_; have HI104 := n3_; clear n0_ n1_ n2_ n3_; (try clear hb); (try clear hb2); (try clear hk); (try clear hi)) | ((with_reducible refine gate_callee (f := 60) rfl ?_); refine goesL_ (some 20) rfl rfl Try.func60 (by kernel_rfl) rfl #[.pointer (some ⟨g104, 0, none⟩), .int .i64 255] rfl (by (try simp only [List.map_toArray, List.map_cons, List.map_nil]); first | done | rfl | (simp only [List.length_drop, List.length_take]; rfl)) ?_; (with_reducible refine (spec_l1Below.calls g104 t101 t119 t120 255 t121 t122 t123 w _ ?side1 ?side2 A7.out).mono ?_); (case side1 => repeat (first | (with_reducible first | exact HI104.out | apply IsS121.alloc | apply IsS121.drewN | apply IsS121.drew | apply IsS121.set_1 | apply IsS121.set_2 | refine IsS121.far ?_ NB104_111.out _) | exact HI104.out)); (case side2 => repeat (first | (with_reducible first | exact HB.out | apply below_alloc | apply pw_below_drewN | apply below_drew1 | refine below_set ?_ (IsS121.ge HI104.out) | refine below_set ?_ GE111.out) | exact HB.out)); rintro e w17 ⟨rfl, hi, hb, hk⟩; refine ⟨_, rfl, ?_⟩; have n0_ := Aside0.mk (KeepBut.blk hk (g' := gb111) (o := .cells #[.int .u32 t105, .int .i64 t106, .int .u32 t107, .int .u32 t108] 27 (0, 0)) (by (with_reducible repeat (first | refine blk_drewN ?_ _ | refine blk_drew ?_ | refine blk_alloc ?_ _)); exact BK111.out) NB111_104.out (by simp)); have n1_ := Aside0.mk (Kd.R_mono (Kd.R_keep (IsS121.apart (show IsS121 w _ g104 t101 t119 t120 from by repeat (first | (with_reducible first | exact HI104.out | apply IsS121.alloc | apply IsS121.drewN | apply IsS121.drew | apply IsS121.set_1 | apply IsS121.set_2 | refine IsS121.far ?_ NB104_111.out _) | exact HI104.out)) (by (with_reducible repeat (first | apply Kd.R_alloc | apply Kd.R_drewN | apply Kd.R_drew)); exact HO114.out) (by decide)) hk (fun _ h => h.2)) (fun _ h => h.1)); have n2_ := Aside0.mk (hb); have n3_ := Aside0.mk (hi); clear BK111; clear HO114; clear HB; clear HI104; have BK111 := n0_; have HO114 := n1_; have HB := n2_; have HI104 := n3_; clear n0_ n1_ n2_ n3_; (try clear hb); (try clear hb2); (try clear hk); (try clear hi)))
  (try simp only [Act.put, List.setIfInBounds_toArray, List.set_cons_zero, List.set_cons_succ])
  go_cut [] (fun wc => ∃ (kq : Nat) (x5_7 : List Int), Aside0 (spec_DrawDecodeFrame.j0 kq x5_7 t115 t118 (wrap64 (1 + t121)) t101 t122 t123 = some r) ∧ Aside0 (kq ≤ k) ∧ Aside0 (Kd.R (Kd.int .u8) 5 wc w.heap.size (fun _ => True) v113 x5_7) ∧ Aside0 (wc.heap[gb111]? = some (.cells #[.int .u32 t105, .int .i64 t106, .int .u32 t107, .int .u32 t108] 27 (0, 0))) ∧ Aside0 (IsS121 w wc g104 t101 t122 t123) ∧ Aside0 (Below w.heap.size w wc))
  case first =>
    have H := HC8.out
    clear HC8
    by_cases c18 : t115 = 0
    · rw [if_pos c18] at H
      have c18b0 : (t115 == 0) = true := beq_iff_eq.mpr c18
      have c18b1 : (t115 != 0) = false := bne_eq_false_iff_eq.mpr c18
      clear c18
      (first | rw [c18b0] | (simp only [i64_w, i32_w]; rw [c18b0]) | skip)
      by_cases c19 : 0 ≤ t118
      · rw [if_pos c19] at H
        have c19b0 : decide (0 ≤ t118) = true := decide_eq_true c19
        clear c19
        by_cases c20 : t118 < (t112.length : Int)
        · rw [if_pos c20] at H
          have c20b0 : decide (t118 < (t112.length : Int)) = true := decide_eq_true c20
          clear c20
          obtain ⟨y125, hy125⟩ : ∃ y_ : List Int, y_ = (t112.set (t118 : Int).toNat (Go.bits .xor .u8 (rd t112 t118) ((wrap64 (1 + t121)) % 256))) := ⟨_, rfl⟩
          replace H : (spec_DrawDecodeFrame.j0 k y125 t115 t118 (wrap64 (1 + t121)) t101 t122 t123) = some r := by first | (rw [hy125]; with_reducible exact H) | (have H2_ := (Option.bind_some _ _).symm.trans H; rw [hy125]; with_reducible exact H2_) | (have H2_ := (Option.bind_some _ _).symm.trans H; with_reducible exact H2_) | with_reducible exact H | (rw [hy125]; exact H) | exact H
          have Ny125 := Aside0.mk hy125
          clear hy125
          have H' := Aside0.mk H
          clear H
          obtain ⟨Ao22, co22, eo22⟩ := Kd.R_slice HO114.out
          subst eo22
          have p124 : 0 ≤ (t118 : Int) := of_decide_eq_true (by first | (with_reducible assumption) | assumption)
          have q124 : t118 < (t112.length : Int) := of_decide_eq_true (by first | (with_reducible assumption) | assumption)
          obtain ⟨ad124, e124, hx124_0⟩ := Kd.at_int (Kd.R_reads' HO114.out).2.2 t118 p124 q124
          cases e124
          replace p124 := eq_true p124
          replace q124 := eq_true q124
          have p21 : 0 ≤ (t118 : Int) := of_decide_eq_true (by first | (with_reducible assumption) | assumption)
          have q21 : (t118 : Int) < ((t112.length : Int) : Int) := of_decide_eq_true (by first | (with_reducible assumption) | assumption)
          obtain ⟨go21, co21, eo21, gb21, gl21, cl21, HG21⟩ := Kd.R_form HO114.out (by omega)
          (first | cases eo21 | (injection eo21 with ea_ en_ ec_; (first | subst ea_ | (injection ea_ with ea_; subst ea_)); subst ec_; clear en_))
          have GB21 := Aside0.mk gb21
          have GG21 := Aside0.mk HG21
          clear gb21 gl21 HG21
          (first | simp only [add_plain] at hx124_0 | skip)
          obtain ⟨hx21_0, hf21_0⟩ := Kd.R_celln 0 HO114.out (t118 : Int) p21 q21
          replace p21 := eq_true p21
          replace q21 := eq_true q21
          have HP23 := Kd.R_putg HO114.out (t118 : Int) (Go.bits .xor .u8 (rd t112 t118) ((wrap64 (1 + t121)) % 256))
          go_wp2_with (first | ((with_reducible refine gate_store (t := 5) (p := 33) rfl ?_); refine store_event (t := 5) (p := 33) (v := ?vo_w24) (w1 := (w17.setCell ⟨go21, (t118 : Int).toNat, none⟩ (.int .u8 (Go.bits .xor .u8 (rd t112 t118) ((wrap64 (1 + t121)) % 256))))) ?hg ?ho ?hn ?hr ?_; (case ho => rfl); (case hg => rfl); (case hn => rfl); (case hr => first | (go_simp; done) | (go_simp; rfl)); intro w24 hw; have hg : w17.grownBy w24 (some go21) := (by rw [hw]; exact HP23.2); have hp_ : Kd.R (Kd.int .u8) 5 w24 w.heap.size (fun _ => True) (.slice (some ⟨go21, 0, none⟩) t112.length co22) y125 := (by rw [hw, Ny125.out]; exact HP23.1); clear HP23; have n0_ := Aside0.mk (IsS121.grown (by repeat (first | (with_reducible first | exact HI104.out | apply IsS121.alloc | apply IsS121.drewN | apply IsS121.drew | apply IsS121.set_1 | apply IsS121.set_2 | refine IsS121.far ?_ NB104_111.out _) | exact HI104.out)) hg (IsS121.own_ne HI104.out HO114.out (by decide))); have n1_ := Aside0.mk (blk_grown (g := gb111) (o := .cells #[.int .u32 t105, .int .i64 t106, .int .u32 t107, .int .u32 t108] 27 (0, 0)) (by (with_reducible repeat (first | refine blk_drewN ?_ _ | refine blk_drew ?_ | refine blk_alloc ?_ _)); exact BK111.out) hg (Kd.R_ne HO114.out BK111.out (by decide))); have n2_ := Aside0.mk (hp_); have n3_ := Aside0.mk ((by rw [hw]; exact below_set (HB.out) GB21.out : Below w.heap.size w w24)); clear HI104; clear BK111; clear HO114; clear HB; have HI104 := n0_; have BK111 := n1_; have HO114 := n2_; have HB := n3_; clear n0_ n1_ n2_ n3_; clear hg hw hp_))
          go_meet
          case rel => exact ⟨_, (y125), H', ⟨by first | omega | exact Nat.le_refl _⟩, ⟨by (with_reducible repeat (first | apply Kd.R_alloc | apply Kd.R_drewN | apply Kd.R_drew)); exact HO114.out⟩, ⟨by (with_reducible repeat (first | refine blk_drewN ?_ _ | refine blk_drew ?_ | refine blk_alloc ?_ _)); exact BK111.out⟩, ⟨by repeat (first | (with_reducible first | exact HI104.out | apply IsS121.alloc | apply IsS121.drewN | apply IsS121.drew | apply IsS121.set_1 | apply IsS121.set_2 | refine IsS121.far ?_ NB104_111.out _) | exact HI104.out)⟩, ⟨by repeat (first | (with_reducible first | exact HB.out | apply below_alloc | apply pw_below_drewN | apply below_drew1 | refine below_set ?_ (IsS121.ge HI104.out) | refine below_set ?_ GE111.out) | exact HB.out)⟩⟩
        · rw [if_neg c20] at H
          exact absurd H (by simp)
      · rw [if_neg c19] at H
        exact absurd H (by simp)
    · rw [if_neg c18] at H
      have c18b0 : (t115 == 0) = false := beq_eq_false_iff_ne.mpr c18
      have c18b1 : (t115 != 0) = true := bne_iff_ne.mpr c18
      (first | rw [c18b0] | (simp only [i64_w, i32_w]; rw [c18b0]) | skip)
      have H' := Aside0.mk H
      clear H
      go_wp2
      go_meet
      case rel => exact ⟨_, (t112), H', ⟨by first | omega | exact Nat.le_refl _⟩, ⟨by (with_reducible repeat (first | apply Kd.R_alloc | apply Kd.R_drewN | apply Kd.R_drew)); exact HO114.out⟩, ⟨by (with_reducible repeat (first | refine blk_drewN ?_ _ | refine blk_drew ?_ | refine blk_alloc ?_ _)); exact BK111.out⟩, ⟨by repeat (first | (with_reducible first | exact HI104.out | apply IsS121.alloc | apply IsS121.drewN | apply IsS121.drew | apply IsS121.set_1 | apply IsS121.set_2 | refine IsS121.far ?_ NB104_111.out _) | exact HI104.out)⟩, ⟨by repeat (first | (with_reducible first | exact HB.out | apply below_alloc | apply pw_below_drewN | apply below_drew1 | refine below_set ?_ (IsS121.ge HI104.out) | refine below_set ?_ GE111.out) | exact HB.out)⟩⟩
  case rest =>
    clear HC8
    try clear c1
    try clear p1
    try clear q1
    try clear hx1
    try clear c2
    try clear p2
    try clear q2
    try clear hx2
    try clear hf2
    try clear c5
    try clear c6
    try clear p6
    try clear c11
    try clear c12
    try clear p12
    try clear q12
    try clear hx12
    try clear c18
    try clear c18b0
    try clear c18b1
    try clear c19
    try clear c19b0
    try clear c20
    try clear c20b0
    try clear p21
    try clear q21
    try clear hx21
    try clear hf21
    try clear c23
    try clear hcz13_0
    try clear hcz13_1
    try clear hcz13_2
    try clear hcz13_3
    try clear hfz13_0
    try clear hfz13_1
    try clear hfz13_2
    try clear hfz13_3
    try clear hx124_0
    try clear hx21_0
    try clear p124
    try clear p21
    try clear q124
    try clear q21
    obtain ⟨kq, x5_7, HA, HJ7, HO_5, BK111, HI104, HB⟩ := hcut
    cases kq with
    | zero => exact absurd HA.out (by simp [spec_DrawDecodeFrame.j0])
    | succ kj7 =>
      have H := HA.out
      clear HA
      simp only [spec_DrawDecodeFrame.j0] at H
      by_cases c25 : t115 = 1
      · rw [if_pos c25] at H
        have c25b0 : (t115 == 1) = true := beq_iff_eq.mpr c25
        have c25b1 : (t115 != 1) = false := bne_eq_false_iff_eq.mpr c25
        clear c25
        by_cases c26 : 0 ≤ t118
        · rw [if_pos c26] at H
          have c26b0 := eq_true c26
          have c26b1 : decide (0 ≤ t118) = true := decide_eq_true c26
          clear c26
          by_cases c27 : t118 ≤ (x5_7.length : Int)
          · rw [if_pos c27] at H
            have c27b0 := eq_true c27
            have c27b1 : decide (t118 ≤ (x5_7.length : Int)) = true := decide_eq_true c27
            clear c27
            obtain ⟨y126, hy126⟩ : ∃ y_ : List Int, y_ = (x5_7.take (t118 : Int).toNat) := ⟨_, rfl⟩
            replace H : (some y126) = some r := by first | (rw [hy126]; with_reducible exact H) | (have H2_ := (Option.bind_some _ _).symm.trans H; rw [hy126]; with_reducible exact H2_) | (have H2_ := (Option.bind_some _ _).symm.trans H; with_reducible exact H2_) | with_reducible exact H | (rw [hy126]; exact H) | exact H
            have Ny126 := Aside0.mk hy126
            clear hy126
            obtain rfl := Option.some.inj H
            obtain ⟨Ao28, co28, eo28⟩ := Kd.R_slice HO_5.out
            subst eo28
            have q29 : (t118 : Int) ≤ ((x5_7.length : Int) : Int) := of_decide_eq_true (by first | (with_reducible assumption) | assumption)
            obtain ⟨i029, hi029, _, hsz29, _⟩ := info_parts info5
            have hcut29 := cut_to (P := Try.prog) 25 5 .i64 Try.underlying25 hi029 Ao28 x5_7.length co28 t118 (of_decide_eq_true (by first | (with_reducible assumption) | assumption)) q29 (Kd.R_reads' HO_5.out).2.1
            have hr29 := Kd.R_take (m := (t118 : Int).toNat) HO_5.out (by omega)
            have hy29 : y126.length = (t118 : Int).toNat := (by rw [Ny126.out, List.length_take]; omega)
            rw [← Ny126.out] at hr29
            rw [← hy29] at hr29 hcut29
            clear hy29 hi029 hsz29 HO_5
            have HO128 := Aside0.mk hr29
            clear hr29
            replace q29 := eq_true q29
            go_wp2
            go_ret
            exact ⟨_, by first | rfl | (simp [errW_none, errW_some] <;> rfl) | (simp [*, errW_none, errW_some] <;> rfl), by (with_reducible repeat (first | apply Kd.R_alloc | apply Kd.R_drewN | apply Kd.R_drew)); exact HO128.out, by repeat (first | (with_reducible first | exact HB.out | apply below_alloc | apply pw_below_drewN | apply below_drew1 | refine below_set ?_ (IsS121.ge HI104.out) | refine below_set ?_ GE111.out) | exact HB.out)⟩
          · rw [if_neg c27] at H
            exact absurd H (by simp)
        · rw [if_neg c26] at H
          exact absurd H (by simp)
      · rw [if_neg c25] at H
        have c25b0 : (t115 == 1) = false := beq_eq_false_iff_ne.mpr c25
        have c25b1 : (t115 != 1) = true := bne_iff_ne.mpr c25
        by_cases c30 : t115 = 2
        · rw [if_pos c30] at H
          have c30b0 : (t115 == 2) = true := beq_iff_eq.mpr c30
          have c30b1 : (t115 != 2) = false := bne_eq_false_iff_eq.mpr c30
          clear c30
          replace H := Option.bind_eq_some_iff.mp H
          obtain ⟨⟨t129, t130, t131, t132, t133, t134⟩, A310, H⟩ := H
          replace H : ((spec_EncodeFrame.f t129 t130 t131 t132).bind fun t135 => ((spec_l2Torn.f x5_7 t135 t118).bind fun t138 => (some t138))) = some r := H
          have A31 := Aside0.mk A310
          clear A310
          replace H := Option.bind_eq_some_iff.mp H
          obtain ⟨t135, A320, H⟩ := H
          replace H : ((spec_l2Torn.f x5_7 t135 t118).bind fun t138 => (some t138)) = some r := H
          have A32 := Aside0.mk A320
          clear A320
          replace H := Option.bind_eq_some_iff.mp H
          obtain ⟨t138, A330, H⟩ := H
          replace H : (some t138) = some r := H
          have A33 := Aside0.mk A330
          clear A330
          obtain rfl := Option.some.inj H
          go_wp2_with (first | ((with_reducible refine gate_callee (f := 58) rfl ?_); refine goesL_ (some 43) rfl rfl Try.func58 (by kernel_rfl) rfl #[.pointer (some ⟨g104, 0, none⟩)] rfl (by (try simp only [List.map_toArray, List.map_cons, List.map_nil]); first | done | rfl | (simp only [List.length_drop, List.length_take]; rfl)) ?_; (with_reducible refine (spec_l2DrawFrame.calls kj7 g104 t101 t122 t123 t129 t130 t131 t132 t133 t134 w _ ?side1 ?side2 A31.out).mono ?_); (case side1 => repeat (first | (with_reducible first | exact HI104.out | apply IsS121.alloc | apply IsS121.drewN | apply IsS121.drew | apply IsS121.set_1 | apply IsS121.set_2 | refine IsS121.far ?_ NB104_111.out _) | exact HI104.out)); (case side2 => repeat (first | (with_reducible first | exact HB.out | apply below_alloc | apply pw_below_drewN | apply below_drew1 | refine below_set ?_ (IsS121.ge HI104.out) | refine below_set ?_ GE111.out) | exact HB.out)); rintro e w34 ⟨rfl, hi, hb, hk⟩; refine ⟨_, rfl, ?_⟩; have n0_ := Aside0.mk (Kd.R_mono (Kd.R_keep (IsS121.apart (show IsS121 w _ g104 t101 t122 t123 from by repeat (first | (with_reducible first | exact HI104.out | apply IsS121.alloc | apply IsS121.drewN | apply IsS121.drew | apply IsS121.set_1 | apply IsS121.set_2 | refine IsS121.far ?_ NB104_111.out _) | exact HI104.out)) (by (with_reducible repeat (first | apply Kd.R_alloc | apply Kd.R_drewN | apply Kd.R_drew)); exact HO_5.out) (by decide)) hk (fun _ h => h.2)) (fun _ h => h.1)); have n1_ := Aside0.mk (KeepBut.blk hk (g' := gb111) (o := .cells #[.int .u32 t105, .int .i64 t106, .int .u32 t107, .int .u32 t108] 27 (0, 0)) (by (with_reducible repeat (first | refine blk_drewN ?_ _ | refine blk_drew ?_ | refine blk_alloc ?_ _)); exact BK111.out) NB111_104.out (by simp)); have n2_ := Aside0.mk (hb); have n3_ := Aside0.mk (hi); clear HO_5; clear BK111; clear HB; clear HI104; have HO_5 := n0_; have BK111 := n1_; have HB := n2_; have HI104 := n3_; clear n0_ n1_ n2_ n3_; (try clear hb); (try clear hb2); (try clear hk); (try clear hi)) | ((with_reducible refine gate_callee (f := 11) rfl ?_); refine goesL_ (some 44) rfl rfl Try.func11 (by kernel_rfl) rfl #[.agg #[.int .u32 t129, .int .i64 t130, .int .u32 t131, .int .u32 t132]] rfl (by (try simp only [List.map_toArray, List.map_cons, List.map_nil]); first | done | rfl | (simp only [List.length_drop, List.length_take]; rfl)) ?_; (with_reducible refine (spec_EncodeFrame.calls t129 t130 t131 t132 t135 _ A32.out).mono ?_); rintro e w35 ⟨v136, rfl, ho0, hb⟩; refine ⟨_, rfl, ?_⟩; have n0_ := Aside0.mk (Kd.R_elder' (by (with_reducible repeat (first | apply Kd.R_alloc | apply Kd.R_drewN | apply Kd.R_drew)); exact HO_5.out) (Kd.R_base ho0) hb); have n1_ := Aside0.mk (Kd.R_lower (Kd.R_new' ho0 (Kd.R_lt (by (with_reducible repeat (first | apply Kd.R_alloc | apply Kd.R_drewN | apply Kd.R_drew)); exact HO_5.out))) (below_size (by repeat (first | (with_reducible first | exact HB.out | apply below_alloc | apply pw_below_drewN | apply below_drew1 | refine below_set ?_ (IsS121.ge HI104.out) | refine below_set ?_ GE111.out) | exact HB.out)))); have n2_ := Aside0.mk (blk_below (g := gb111) (o := .cells #[.int .u32 t105, .int .i64 t106, .int .u32 t107, .int .u32 t108] 27 (0, 0)) (by (with_reducible repeat (first | refine blk_drewN ?_ _ | refine blk_drew ?_ | refine blk_alloc ?_ _)); exact BK111.out) hb); have n3_ := Aside0.mk (IsS121.below (by repeat (first | (with_reducible first | exact HI104.out | apply IsS121.alloc | apply IsS121.drewN | apply IsS121.drew | apply IsS121.set_1 | apply IsS121.set_2 | refine IsS121.far ?_ NB104_111.out _) | exact HI104.out)) hb); have n4_ := Aside0.mk (below_step (by repeat (first | (with_reducible first | exact HB.out | apply below_alloc | apply pw_below_drewN | apply below_drew1 | refine below_set ?_ (IsS121.ge HI104.out) | refine below_set ?_ GE111.out) | exact HB.out)) hb); clear HO_5; clear BK111; clear HI104; clear HB; have HO_5 := n0_; have HO137 := n1_; have BK111 := n2_; have HI104 := n3_; have HB := n4_; clear n0_ n1_ n2_ n3_ n4_; (try clear hb); (try clear hb2); (try clear hk); (try clear hi); (try clear ho0); obtain ⟨Ao36, co36, eo36⟩ := Kd.R_slice HO_5.out; subst eo36; obtain ⟨Ao37, co37, eo37⟩ := Kd.R_slice HO137.out; subst eo37) | ((with_reducible refine gate_callee (f := 61) rfl ?_); refine goesL_ (some 46) rfl rfl Try.func61 (by kernel_rfl) rfl #[.slice Ao36 x5_7.length co36, .slice Ao37 t135.length co37, .int .i64 t118] rfl (by (try simp only [List.map_toArray, List.map_cons, List.map_nil]); first | done | rfl | (simp only [List.length_drop, List.length_take]; rfl)) ?_; (with_reducible refine (spec_l2Torn.calls _ _ x5_7 _ _ t135 t118 t138 _ ?side1 ?side2 ?side3 ?side4 A33.out).mono ?_); (case side1 => repeat (first | exact (Kd.R_reads' HO_5.out).2.2 | (with_reducible refine Kd.C_alloc ?_ _) | (with_reducible refine Kd.C_drewN ?_ _) | (with_reducible refine Kd.C_drew ?_))); (case side2 => exact (Kd.R_reads' HO_5.out).2.1); (case side3 => repeat (first | exact (Kd.R_reads' HO137.out).2.2 | (with_reducible refine Kd.C_alloc ?_ _) | (with_reducible refine Kd.C_drewN ?_ _) | (with_reducible refine Kd.C_drew ?_))); (case side4 => exact (Kd.R_reads' HO137.out).2.1); rintro e w38 ⟨v139, rfl, ho0, hb⟩; refine ⟨_, rfl, ?_⟩; have n0_ := Aside0.mk (Kd.R_elder' (by (with_reducible repeat (first | apply Kd.R_alloc | apply Kd.R_drewN | apply Kd.R_drew)); exact HO_5.out) (Kd.R_base ho0) hb); have n1_ := Aside0.mk (Kd.R_elder' (by (with_reducible repeat (first | apply Kd.R_alloc | apply Kd.R_drewN | apply Kd.R_drew)); exact HO137.out) (Kd.R_base ho0) hb); have n2_ := Aside0.mk (Kd.R_lower (Kd.R_new' (Kd.R_new' ho0 (Kd.R_lt (by (with_reducible repeat (first | apply Kd.R_alloc | apply Kd.R_drewN | apply Kd.R_drew)); exact HO_5.out))) (Kd.R_lt (by (with_reducible repeat (first | apply Kd.R_alloc | apply Kd.R_drewN | apply Kd.R_drew)); exact HO137.out))) (below_size (by repeat (first | (with_reducible first | exact HB.out | apply below_alloc | apply pw_below_drewN | apply below_drew1 | refine below_set ?_ (IsS121.ge HI104.out) | refine below_set ?_ GE111.out) | exact HB.out)))); have n3_ := Aside0.mk (blk_below (g := gb111) (o := .cells #[.int .u32 t105, .int .i64 t106, .int .u32 t107, .int .u32 t108] 27 (0, 0)) (by (with_reducible repeat (first | refine blk_drewN ?_ _ | refine blk_drew ?_ | refine blk_alloc ?_ _)); exact BK111.out) hb); have n4_ := Aside0.mk (IsS121.below (by repeat (first | (with_reducible first | exact HI104.out | apply IsS121.alloc | apply IsS121.drewN | apply IsS121.drew | apply IsS121.set_1 | apply IsS121.set_2 | refine IsS121.far ?_ NB104_111.out _) | exact HI104.out)) hb); have n5_ := Aside0.mk (below_step (by repeat (first | (with_reducible first | exact HB.out | apply below_alloc | apply pw_below_drewN | apply below_drew1 | refine below_set ?_ (IsS121.ge HI104.out) | refine below_set ?_ GE111.out) | exact HB.out)) hb); clear HO_5; clear HO137; clear BK111; clear HI104; clear HB; have HO_5 := n0_; have HO137 := n1_; have HO140 := n2_; have BK111 := n3_; have HI104 := n4_; have HB := n5_; clear n0_ n1_ n2_ n3_ n4_ n5_; (try clear hb); (try clear hb2); (try clear hk); (try clear hi); (try clear ho0)))
          go_ret
          exact ⟨_, by first | rfl | (simp [errW_none, errW_some] <;> rfl) | (simp [*, errW_none, errW_some] <;> rfl), by (with_reducible repeat (first | apply Kd.R_alloc | apply Kd.R_drewN | apply Kd.R_drew)); exact Kd.R_mono HO140.out (fun _ hk => trivial), by repeat (first | (with_reducible first | exact HB.out | apply below_alloc | apply pw_below_drewN | apply below_drew1 | refine below_set ?_ (IsS121.ge HI104.out) | refine below_set ?_ GE111.out) | exact HB.out)⟩
        · rw [if_neg c30] at H
          have c30b0 : (t115 == 2) = false := beq_eq_false_iff_ne.mpr c30
          have c30b1 : (t115 != 2) = true := bne_iff_ne.mpr c30
          by_cases c39 : t115 = 3
          · rw [if_pos c39] at H
            have c39b0 : (t115 == 3) = true := beq_iff_eq.mpr c39
            have c39b1 : (t115 != 3) = false := bne_eq_false_iff_eq.mpr c39
            clear c39
            obtain ⟨ji40, hji40⟩ : ∃ j_ : Int, (Int.tmod t118 56) = j_ := ⟨_, rfl⟩
            replace H : (if 0 ≤ (ji40) then (if (ji40) < (x5_7.length : Int) then ((some (x5_7.set ((ji40) : Int).toNat (Go.bits .xor .u8 (rd x5_7 (ji40)) (((wrap64 (1 + t121))) % 256)) : List Int)).bind fun y142 => (if 56 ≤ (x5_7.length : Int) then ((spec_Crc32.f kj7 (y142.take 56)).bind fun t153 => ((spec_l2Four.f t153).bind fun t154 => (if 60 ≤ (x5_7.length : Int) then ((spec_l2Cat.f kj7 (([(y142.take 56), t154, (y142.drop 60)] : List (List Int)))).bind fun t165 => (some t165)) else (none)))) else (none))) else (none)) else (none)) = some r := by first | (rw [hji40] at H; exact H) | (simp only [hji40] at H ⊢; exact H)
            by_cases c41 : 0 ≤ (ji40)
            · rw [if_pos c41] at H
              have c41b0 : decide (0 ≤ (ji40)) = true := decide_eq_true c41
              clear c41
              by_cases c42 : (ji40) < (x5_7.length : Int)
              · rw [if_pos c42] at H
                have c42b0 : decide ((ji40) < (x5_7.length : Int)) = true := decide_eq_true c42
                clear c42
                obtain ⟨y142, hy142⟩ : ∃ y_ : List Int, y_ = (x5_7.set ((ji40) : Int).toNat (Go.bits .xor .u8 (rd x5_7 (ji40)) (((wrap64 (1 + t121))) % 256))) := ⟨_, rfl⟩
                replace H : (if 56 ≤ (x5_7.length : Int) then ((spec_Crc32.f kj7 (y142.take 56)).bind fun t153 => ((spec_l2Four.f t153).bind fun t154 => (if 60 ≤ (x5_7.length : Int) then ((spec_l2Cat.f kj7 (([(y142.take 56), t154, (y142.drop 60)] : List (List Int)))).bind fun t165 => (some t165)) else (none)))) else (none)) = some r := by first | (rw [hy142]; with_reducible exact H) | (have H2_ := (Option.bind_some _ _).symm.trans H; rw [hy142]; with_reducible exact H2_) | (have H2_ := (Option.bind_some _ _).symm.trans H; with_reducible exact H2_) | with_reducible exact H | (rw [hy142]; exact H) | exact H
                have Ny142 := Aside0.mk hy142
                clear hy142
                by_cases c44 : 56 ≤ (x5_7.length : Int)
                · rw [if_pos c44] at H
                  have c44b0 := eq_true c44
                  have c44b1 : decide (56 ≤ (x5_7.length : Int)) = true := decide_eq_true c44
                  clear c44
                  obtain ⟨y143, hy143⟩ : ∃ y_ : List Int, y_ = (y142.take 56) := ⟨_, rfl⟩
                  replace H : ((spec_Crc32.f kj7 (y142.take 56)).bind fun t153 => ((spec_l2Four.f t153).bind fun t154 => (if 60 ≤ (x5_7.length : Int) then ((spec_l2Cat.f kj7 (([y143, t154, (y142.drop 60)] : List (List Int)))).bind fun t165 => (some t165)) else (none)))) = some r := by first | (rw [hy143]; with_reducible exact H) | (have H2_ := (Option.bind_some _ _).symm.trans H; rw [hy143]; with_reducible exact H2_) | (have H2_ := (Option.bind_some _ _).symm.trans H; with_reducible exact H2_) | with_reducible exact H | (rw [hy143]; exact H) | exact H
                  have Ny143 := Aside0.mk hy143
                  clear hy143
                  have c45b0 := eq_true (of_decide_eq_true (by first | (with_reducible assumption) | assumption) : 56 ≤ (x5_7.length : Int))
                  obtain ⟨y148, hy148⟩ : ∃ y_ : List Int, y_ = (y142.take 56) := ⟨_, rfl⟩
                  replace H : ((spec_Crc32.f kj7 y148).bind fun t153 => ((spec_l2Four.f t153).bind fun t154 => (if 60 ≤ (x5_7.length : Int) then ((spec_l2Cat.f kj7 (([y143, t154, (y142.drop 60)] : List (List Int)))).bind fun t165 => (some t165)) else (none)))) = some r := by first | (rw [hy148]; with_reducible exact H) | (have H2_ := (Option.bind_some _ _).symm.trans H; rw [hy148]; with_reducible exact H2_) | (have H2_ := (Option.bind_some _ _).symm.trans H; with_reducible exact H2_) | with_reducible exact H | (rw [hy148]; exact H) | exact H
                  have Ny148 := Aside0.mk hy148
                  clear hy148
                  replace H := Option.bind_eq_some_iff.mp H
                  obtain ⟨t153, A460, H⟩ := H
                  replace H : ((spec_l2Four.f t153).bind fun t154 => (if 60 ≤ (x5_7.length : Int) then ((spec_l2Cat.f kj7 (([y143, t154, (y142.drop 60)] : List (List Int)))).bind fun t165 => (some t165)) else (none))) = some r := H
                  have A46 := Aside0.mk A460
                  clear A460
                  replace H := Option.bind_eq_some_iff.mp H
                  obtain ⟨t154, A470, H⟩ := H
                  replace H : (if 60 ≤ (x5_7.length : Int) then ((spec_l2Cat.f kj7 (([y143, t154, (y142.drop 60)] : List (List Int)))).bind fun t165 => (some t165)) else (none)) = some r := H
                  have A47 := Aside0.mk A470
                  clear A470
                  by_cases c48 : 60 ≤ (x5_7.length : Int)
                  · rw [if_pos c48] at H
                    have c48b0 := eq_true c48
                    have c48b1 : decide (60 ≤ (x5_7.length : Int)) = true := decide_eq_true c48
                    clear c48
                    obtain ⟨y157, hy157⟩ : ∃ y_ : List Int, y_ = (y142.drop 60) := ⟨_, rfl⟩
                    replace H : ((spec_l2Cat.f kj7 (([y143, t154, y157] : List (List Int)))).bind fun t165 => (some t165)) = some r := by first | (rw [hy157]; with_reducible exact H) | (have H2_ := (Option.bind_some _ _).symm.trans H; rw [hy157]; with_reducible exact H2_) | (have H2_ := (Option.bind_some _ _).symm.trans H; with_reducible exact H2_) | with_reducible exact H | (rw [hy157]; exact H) | exact H
                    have Ny157 := Aside0.mk hy157
                    clear hy157
                    obtain ⟨y162, hy162⟩ : ∃ y_ : List (List Int), y_ = (([y143, t154, y157] : List (List Int))) := ⟨_, rfl⟩
                    replace H : ((spec_l2Cat.f kj7 y162).bind fun t165 => (some t165)) = some r := by first | (rw [hy162]; with_reducible exact H) | (have H2_ := (Option.bind_some _ _).symm.trans H; rw [hy162]; with_reducible exact H2_) | (have H2_ := (Option.bind_some _ _).symm.trans H; with_reducible exact H2_) | with_reducible exact H | (rw [hy162]; exact H) | exact H
                    have Ny162 := Aside0.mk hy162
                    clear hy162
                    replace H := Option.bind_eq_some_iff.mp H
                    obtain ⟨t165, A490, H⟩ := H
                    replace H : (some t165) = some r := H
                    have A49 := Aside0.mk A490
                    clear A490
                    obtain rfl := Option.some.inj H
                    obtain ⟨Ao50, co50, eo50⟩ := Kd.R_slice HO_5.out
                    subst eo50
                    have p141 : 0 ≤ ((ji40) : Int) := of_decide_eq_true (by first | (with_reducible assumption) | assumption)
                    have q141 : (ji40) < (x5_7.length : Int) := of_decide_eq_true (by first | (with_reducible assumption) | assumption)
                    obtain ⟨ad141, e141, hx141_0⟩ := Kd.at_int (Kd.R_reads' HO_5.out).2.2 (ji40) p141 q141
                    cases e141
                    replace p141 := eq_true p141
                    replace q141 := eq_true q141
                    have p43 : 0 ≤ ((ji40) : Int) := of_decide_eq_true (by first | (with_reducible assumption) | assumption)
                    have q43 : ((ji40) : Int) < ((x5_7.length : Int) : Int) := of_decide_eq_true (by first | (with_reducible assumption) | assumption)
                    obtain ⟨go43, co43, eo43, gb43, gl43, cl43, HG43⟩ := Kd.R_form HO_5.out (by omega)
                    (first | cases eo43 | (injection eo43 with ea_ en_ ec_; (first | subst ea_ | (injection ea_ with ea_; subst ea_)); subst ec_; clear en_))
                    have GB43 := Aside0.mk gb43
                    have GG43 := Aside0.mk HG43
                    clear gb43 gl43 HG43
                    (first | simp only [add_plain] at hx141_0 | skip)
                    obtain ⟨hx43_0, hf43_0⟩ := Kd.R_celln 0 HO_5.out ((ji40) : Int) p43 q43
                    replace p43 := eq_true p43
                    replace q43 := eq_true q43
                    have HP51 := Kd.R_putg HO_5.out ((ji40) : Int) (Go.bits .xor .u8 (rd x5_7 (ji40)) (((wrap64 (1 + t121))) % 256))
                    try go_wp2_with (first | ((with_reducible refine gate_store (t := 5) (p := 60) rfl ?_); refine store_event (t := 5) (p := 60) (v := ?vo_w52) (w1 := (wc.setCell ⟨go43, ((ji40) : Int).toNat, none⟩ (.int .u8 (Go.bits .xor .u8 (rd x5_7 (ji40)) (((wrap64 (1 + t121))) % 256))))) ?hg ?ho ?hn ?hr ?_; (case ho => rfl); (case hg => rfl); (case hn => rfl); (case hr => first | (go_simp; done) | (go_simp; rfl)); intro w52 hw; have hg : wc.grownBy w52 (some go43) := (by rw [hw]; exact HP51.2); have hp_ : Kd.R (Kd.int .u8) 5 w52 w.heap.size (fun _ => True) (.slice (some ⟨go43, 0, none⟩) x5_7.length co50) y142 := (by rw [hw, Ny142.out]; exact HP51.1); clear HP51; have n0_ := Aside0.mk (hp_); have n1_ := Aside0.mk (blk_grown (g := gb111) (o := .cells #[.int .u32 t105, .int .i64 t106, .int .u32 t107, .int .u32 t108] 27 (0, 0)) (by (with_reducible repeat (first | refine blk_drewN ?_ _ | refine blk_drew ?_ | refine blk_alloc ?_ _)); exact BK111.out) hg (Kd.R_ne HO_5.out BK111.out (by decide))); have n2_ := Aside0.mk (IsS121.grown (by repeat (first | (with_reducible first | exact HI104.out | apply IsS121.alloc | apply IsS121.drewN | apply IsS121.drew | apply IsS121.set_1 | apply IsS121.set_2 | refine IsS121.far ?_ NB104_111.out _) | exact HI104.out)) hg (IsS121.own_ne HI104.out HO_5.out (by decide))); have n3_ := Aside0.mk ((by rw [hw]; exact below_set (HB.out) GB43.out : Below w.heap.size w w52)); clear HO_5; clear BK111; clear HI104; clear HB; have HO_5 := n0_; have BK111 := n1_; have HI104 := n2_; have HB := n3_; clear n0_ n1_ n2_ n3_; clear hg hw hp_))
                    have n0_ := Aside0.mk (Kd.R_drew HO_5.out)
                    have n1_ := Aside0.mk (blk_drew BK111.out)
                    have n2_ := Aside0.mk (IsS121.drew HI104.out)
                    have n3_ := Aside0.mk (below_drew1 HB.out)
                    clear HO_5
                    clear BK111
                    clear HI104
                    clear HB
                    have HO_5 := n0_
                    have BK111 := n1_
                    have HI104 := n2_
                    have HB := n3_
                    clear n0_ n1_ n2_ n3_
                    have hlx54 := (Kd.R_reads' HO_5.out).1
                    have q54 : (56 : Int) ≤ ((x5_7.length : Int) : Int) := of_decide_eq_true (by first | (with_reducible assumption) | assumption)
                    obtain ⟨i054, hi054, _, hsz54, _⟩ := info_parts info5
                    have hroom54 : x5_7.length ≤ co50 := (Kd.R_reads' HO_5.out).2.1
                    have hroomc54 : y142.length ≤ co50 := (by rw [← hlx54]; exact hroom54)
                    have hC54 : Kd.F (Kd.int .u8) _ _ (some ⟨go43, 0, none⟩) y142.length y142 := (Kd.V_at (base := w.heap.size) (Kd.R_V (IsS121.apart HI104.out (Kd.R_types (HO_5.out) BK111.out (by decide)) (by decide)))).2.2
                    have hcut54 := cut_to (P := Try.prog) 25 5 .i64 Try.underlying25 hi054 (some ⟨go43, 0, none⟩) x5_7.length co50 56 (by omega) q54 hroom54
                    have hr54 := Kd.F_take (m := 56) hC54 (by omega)
                    have hy54 : y143.length = (56 : Int).toNat := (by rw [Ny143.out, List.length_take]; omega)
                    rw [← Ny143.out] at hr54
                    rw [← hy54] at hcut54
                    have HO147 := Aside0.mk (show Kd.V (Kd.int .u8) 5 _ w.heap.size _ (.slice (some ⟨go43, 0, none⟩) y143.length co50) y143 from Kd.V_mk (by omega) hr54)
                    have HC147 := Aside0.mk (show y143.length ≤ co50 from by omega)
                    clear hr54 hC54 hroom54 hi054 hsz54 hroomc54
                    have KY54 := Aside0.mk hy54
                    clear hy54
                    clear hlx54
                    replace q54 := eq_true q54
                    have hlx55 := (Kd.R_reads' HO_5.out).1
                    have q55 : (56 : Int) ≤ ((x5_7.length : Int) : Int) := of_decide_eq_true (by first | (with_reducible assumption) | assumption)
                    obtain ⟨i055, hi055, _, hsz55, _⟩ := info_parts info5
                    have hroom55 : x5_7.length ≤ co50 := (Kd.R_reads' HO_5.out).2.1
                    have hroomc55 : y142.length ≤ co50 := (by rw [← hlx55]; exact hroom55)
                    have hC55 : Kd.F (Kd.int .u8) _ _ (some ⟨go43, 0, none⟩) y142.length y142 := (Kd.V_at (base := w.heap.size) (Kd.R_V (IsS121.apart HI104.out (Kd.R_types (HO_5.out) BK111.out (by decide)) (by decide)))).2.2
                    have hcut55 := cut_to (P := Try.prog) 25 5 .i64 Try.underlying25 hi055 (some ⟨go43, 0, none⟩) x5_7.length co50 56 (by omega) q55 hroom55
                    have hr55 := Kd.F_take (m := 56) hC55 (by omega)
                    have hy55 : y148.length = (56 : Int).toNat := (by rw [Ny148.out, List.length_take]; omega)
                    rw [← Ny148.out] at hr55
                    rw [← hy55] at hcut55
                    have HO152 := Aside0.mk (show Kd.V (Kd.int .u8) 5 _ w.heap.size _ (.slice (some ⟨go43, 0, none⟩) y148.length co50) y148 from Kd.V_mk (by omega) hr55)
                    have HC152 := Aside0.mk (show y148.length ≤ co50 from by omega)
                    clear hr55 hC55 hroom55 hi055 hsz55 hroomc55
                    have KY55 := Aside0.mk hy55
                    clear hy55
                    clear hlx55
                    replace q55 := eq_true q55
                    have hlx56 := (Kd.R_reads' HO_5.out).1
                    have q56 : (60 : Int) ≤ ((x5_7.length : Int) : Int) := of_decide_eq_true (by first | (with_reducible assumption) | assumption)
                    obtain ⟨i056, hi056, _, hsz56, _⟩ := info_parts info5
                    have hroom56 : x5_7.length ≤ co50 := (Kd.R_reads' HO_5.out).2.1
                    have hroomc56 : y142.length ≤ co50 := (by rw [← hlx56]; exact hroom56)
                    have hC56 : Kd.F (Kd.int .u8) _ _ (some ⟨go43, 0, none⟩) y142.length y142 := (Kd.V_at (base := w.heap.size) (Kd.R_V (IsS121.apart HI104.out (Kd.R_types (HO_5.out) BK111.out (by decide)) (by decide)))).2.2
                    have hcut56 := cut_from (P := Try.prog) 25 5 .i64 Try.underlying25 hi056 1 hsz56 (some ⟨go43, 0, none⟩) x5_7.length co50 60 (by omega) q56
                    have hr56 := Kd.F_cut (m := (60 : Int).toNat) (c := co50) hC56 (by omega) hroomc56
                    obtain ⟨A56, hA56⟩ : ∃ A1, A1 = (if co50 = (60 : Int).toNat then (some ⟨go43, 0, none⟩) else ((some ⟨go43, 0, none⟩) : Option Addr).map (·.add ((60 : Int).toNat * 1))) := ⟨_, rfl⟩
                    obtain ⟨c56, hc56⟩ : ∃ c1, c1 = co50 - (60 : Int).toNat := ⟨_, rfl⟩
                    have hy56 : y157.length = x5_7.length - (60 : Int).toNat := (by rw [Ny157.out, List.length_drop] <;> omega)
                    rw [show (y142).drop (60 : Int).toNat = y157 from Ny157.out.symm] at hr56
                    replace hr56 : Kd.F (Kd.int .u8) _ _ A56 y157.length y157 := (by rw [hA56]; exact hr56)
                    rw [← hy56, ← hA56, ← hc56] at hcut56
                    have HO161 := Aside0.mk (show Kd.V (Kd.int .u8) 5 _ w.heap.size _ (.slice A56 y157.length c56) y157 from Kd.V_mk (by rw [hy56, hc56]; exact Nat.sub_le_sub_right hroom56 _) hr56)
                    have HC161 := Aside0.mk (show y157.length ≤ c56 from by rw [hy56, hc56]; exact Nat.sub_le_sub_right hroom56 _)
                    clear hr56 hC56 hroom56 hi056 hsz56 hc56 hroomc56
                    have KY56 := Aside0.mk hy56
                    have KA56 := Aside0.mk hA56
                    clear hy56 hA56
                    clear hlx56
                    replace q56 := eq_true q56
                    refine start_ (n := 11) (S := fun w' => True) (ds := []) #[false, false, false, false, false, false, false, false, false, false, false] (by kernel_rfl) rfl rfl trivial (fun hHeld => ?_); refine with_tabW spec_DrawDecodeFrame.tab15 spec_DrawDecodeFrame.bits15 (fun HT_ HW_ => ?_)
                    generalize w52.drew = w53 at HO_5 BK111 HI104 HB HO147 HO152 HO161 hHeld ⊢
                    refine pure_ (i := 0) (N := some 61) (v := ?_) (a' := ?_) #[true, false, false, false, false, false, false, false, false, false, false] rfl rfl (any_of HT_.out (by kernel_rfl)) (fun _ _ _ h => h) (Or.inl ⟨by rfl, ?_⟩) ?_ ?_
                    rotate_left
                    · intro w'
                      go_simp
                      with_reducible rfl
                    rotate_left
                    · simp only [Act.put, List.setIfInBounds_toArray, List.set_cons_zero, List.set_cons_succ, i64_w, i32_w]
                      rfl
                    refine pure_ (i := 1) (N := some 62) (v := ?_) (a' := ?_) #[true, true, false, false, false, false, false, false, false, false, false] rfl rfl (any_of HT_.out (by kernel_rfl)) (fun _ _ _ h => h) (Or.inl ⟨by rfl, ?_⟩) ?_ ?_
                    rotate_left
                    · intro w'
                      go_simp
                      with_reducible rfl
                    rotate_left
                    · simp only [Act.put, List.setIfInBounds_toArray, List.set_cons_zero, List.set_cons_succ, i64_w, i32_w]
                      rfl
                    refine pure_ (i := 2) (N := some 63) (v := ?_) (a' := ?_) #[true, true, true, false, false, false, false, false, false, false, false] rfl rfl (any_of HT_.out (by kernel_rfl)) (fun _ _ _ h => h) (Or.inl ⟨by rfl, ?_⟩) ?_ ?_
                    rotate_left
                    · intro w'
                      go_simp
                      with_reducible rfl
                    rotate_left
                    · simp only [Act.put, List.setIfInBounds_toArray, List.set_cons_zero, List.set_cons_succ, i64_w, i32_w]
                      rfl
                    refine pure_ (i := 3) (N := some 64) (v := ?_) (a' := ?_) #[true, true, true, true, false, false, false, false, false, false, false] rfl rfl (any_of HT_.out (by kernel_rfl)) (fun _ _ _ h => h) (Or.inl ⟨by rfl, ?_⟩) ?_ ?_
                    rotate_left
                    · intro w'
                      go_simp
                      with_reducible rfl
                    rotate_left
                    · simp only [Act.put, List.setIfInBounds_toArray, List.set_cons_zero, List.set_cons_succ, i64_w, i32_w]
                      rfl
                    refine pure_ (i := 6) (N := some 67) (v := ?_) (a' := ?_) #[true, true, true, true, false, false, true, false, false, false, false] rfl rfl (any_of HT_.out (by kernel_rfl)) (fun _ _ _ h => h) (Or.inl ⟨by rfl, ?_⟩) ?_ ?_
                    rotate_left
                    · intro w'
                      go_simp
                      with_reducible rfl
                    rotate_left
                    · simp only [Act.put, List.setIfInBounds_toArray, List.set_cons_zero, List.set_cons_succ, i64_w, i32_w]
                      rfl
                    refine pure_ (i := 7) (N := some 68) (v := ?_) (a' := ?_) #[true, true, true, true, false, false, true, true, false, false, false] rfl rfl (any_of HT_.out (by kernel_rfl)) (fun _ _ _ h => h) (Or.inl ⟨by rfl, ?_⟩) ?_ ?_
                    rotate_left
                    · intro w'
                      go_simp
                      with_reducible rfl
                    rotate_left
                    · simp only [Act.put, List.setIfInBounds_toArray, List.set_cons_zero, List.set_cons_succ, i64_w, i32_w]
                      rfl
                    refine one_ (i := 4) (N := some 65) #[true, true, true, true, true, false, true, true, false, false, false] rfl rfl (one_of HT_.out (by kernel_rfl)) (by decide) (fun K hK => ?_)
                    refine goes_ Try.func50 (by kernel_rfl) rfl #[.slice (some ⟨go43, 0, none⟩) y148.length co50] (by rfl) rfl rfl (by (try simp only [List.map_toArray, List.map_cons, List.map_nil]); first | done | rfl | (simp only [List.length_drop, List.length_take]; rfl) | (rw [show y148.length = y143.length from KY55.out.trans KY54.out.symm]; rfl)) ?_
                    with_reducible refine (spec_Crc32.calls kj7 _ _ y148 t153 _ ?side1 ?side2 A46.out).mono ?_
                    (case side1 => repeat (first | exact (Kd.V_reads' HO152.out).2.2 | (with_reducible refine Kd.C_alloc ?_ _) | (with_reducible refine Kd.C_drewN ?_ _) | (with_reducible refine Kd.C_drew ?_)))
                    (case side2 => exact (Kd.V_reads' HO152.out).2.1)
                    rintro e w' ⟨rfl, ⟨nd, rfl⟩⟩
                    refine ⟨_, rfl, ?_⟩
                    refine hK.out _ _ trivial (fun hHeld => ?_)
                    clear hK K
                    refine norm_ (a' := ?_) ?_ ?_
                    rotate_left
                    · show Act.put _ (some 65) _ = _
                      simp only [Act.put, List.setIfInBounds_toArray, List.set_cons_zero, List.set_cons_succ, i64_w, i32_w]
                      rfl
                    refine one_ (i := 5) (N := some 66) #[true, true, true, true, true, true, true, true, false, false, false] rfl rfl (one_of HT_.out (by kernel_rfl)) (by decide) (fun K hK => ?_)
                    refine goes_ Try.func48 (by kernel_rfl) rfl #[.int .u32 t153] (by rfl) rfl rfl (by (try simp only [List.map_toArray, List.map_cons, List.map_nil]); first | done | rfl | (simp only [List.length_drop, List.length_take]; rfl)) ?_
                    with_reducible refine (spec_l2Four.calls t153 t154 _ A47.out).mono ?_
                    rintro e w57 ⟨v155, rfl, ho0, hb⟩
                    refine ⟨_, rfl, ?_⟩
                    have n0_ := Aside0.mk (Kd.R_elder' (by (with_reducible repeat (first | apply Kd.R_alloc | apply Kd.R_drewN | apply Kd.R_drew)); exact HO_5.out) (Kd.R_base ho0) hb)
                    have n1_ := Aside0.mk (Kd.V_elder' (by (with_reducible repeat (first | apply Kd.V_alloc | apply Kd.V_drewN | apply Kd.V_drew)); exact HO147.out) (Kd.R_base ho0) hb)
                    have n2_ := Aside0.mk (Kd.V_elder' (by (with_reducible repeat (first | apply Kd.V_alloc | apply Kd.V_drewN | apply Kd.V_drew)); exact HO152.out) (Kd.R_base ho0) hb)
                    have n3_ := Aside0.mk (Kd.V_elder' (by (with_reducible repeat (first | apply Kd.V_alloc | apply Kd.V_drewN | apply Kd.V_drew)); exact HO161.out) (Kd.R_base ho0) hb)
                    have n4_ := Aside0.mk (Kd.R_lower (Kd.R_new' ho0 (Kd.R_lt (by (with_reducible repeat (first | apply Kd.R_alloc | apply Kd.R_drewN | apply Kd.R_drew)); exact HO_5.out))) (below_size (by repeat (first | (with_reducible first | exact HB.out | apply below_alloc | apply pw_below_drewN | apply below_drew1 | refine below_set ?_ (IsS121.ge HI104.out) | refine below_set ?_ GE111.out) | exact HB.out))))
                    have n5_ := Aside0.mk (blk_below (g := gb111) (o := .cells #[.int .u32 t105, .int .i64 t106, .int .u32 t107, .int .u32 t108] 27 (0, 0)) (by (with_reducible repeat (first | refine blk_drewN ?_ _ | refine blk_drew ?_ | refine blk_alloc ?_ _)); exact BK111.out) hb)
                    have n6_ := Aside0.mk (IsS121.below (by repeat (first | (with_reducible first | exact HI104.out | apply IsS121.alloc | apply IsS121.drewN | apply IsS121.drew | apply IsS121.set_1 | apply IsS121.set_2 | refine IsS121.far ?_ NB104_111.out _) | exact HI104.out)) hb)
                    have n7_ := Aside0.mk (below_step (by repeat (first | (with_reducible first | exact HB.out | apply below_alloc | apply pw_below_drewN | apply below_drew1 | refine below_set ?_ (IsS121.ge HI104.out) | refine below_set ?_ GE111.out) | exact HB.out)) hb)
                    clear HO_5
                    clear HO147
                    clear HO152
                    clear HO161
                    clear BK111
                    clear HI104
                    clear HB
                    have HO_5 := n0_
                    have HO147 := n1_
                    have HO152 := n2_
                    have HO161 := n3_
                    have HO156 := n4_
                    have BK111 := n5_
                    have HI104 := n6_
                    have HB := n7_
                    clear n0_ n1_ n2_ n3_ n4_ n5_ n6_ n7_
                    (try clear hb)
                    (try clear hb2)
                    (try clear hk)
                    (try clear hi)
                    (try clear ho0)
                    obtain ⟨Ao58, co58, eo58⟩ := Kd.R_slice HO156.out
                    (first | subst eo58 | (injection eo58 with f1_ f2_ f3_; have f4_ := f1_.symm; have f5_ := f3_.symm; clear f1_ f2_ f3_; subst f4_; subst f5_))
                    refine hK.out _ _ trivial (fun hHeld => ?_)
                    clear hK K
                    refine norm_ (a' := ?_) ?_ ?_
                    rotate_left
                    · show Act.put _ (some 66) _ = _
                      simp only [Act.put, List.setIfInBounds_toArray, List.set_cons_zero, List.set_cons_succ, i64_w, i32_w]
                      rfl
                    refine one_ (i := 8) (N := some 69) #[true, true, true, true, true, true, true, true, true, false, false] rfl rfl (one_of HT_.out (by kernel_rfl)) (by decide) (fun K hK => ?_)
                    refine Kd.N_lit_step (Kd.slice 5 (Kd.int .u8)) _ 25 ?hg (N' := 69) ?hd (xs := ([y143, t154, y157] : List (List Int))) (inner := [.slice (some ⟨go43, 0, none⟩) y143.length co50, .slice Ao58 t154.length co58, .slice A56 y157.length c56]) (ok := (fun k_ => k_ ≠ gb111 ∧ k_ ≠ g104)) (okp := (fun k_ => k_ ≠ gb111 ∧ k_ ≠ g104)) ?hr ?hp (fun _ hk => hk) ((show ∀ k_, w57.heap.size ≤ k_ → (fun k_ => k_ ≠ gb111 ∧ k_ ≠ g104) k_ from fun k_ hk => ⟨Kd.freshB (g := gb111) (o := .cells #[.int .u32 t105, .int .i64 t106, .int .u32 t107, .int .u32 t108] 27 (0, 0)) (by (with_reducible repeat (first | refine blk_drewN ?_ _ | refine blk_drew ?_ | refine blk_alloc ?_ _)); exact BK111.out) k_ hk, IsS121.fresh (by repeat (first | (with_reducible first | exact HI104.out | apply IsS121.alloc | apply IsS121.drewN | apply IsS121.drew | apply IsS121.set_1 | apply IsS121.set_2 | refine IsS121.far ?_ NB104_111.out _) | exact HI104.out)) k_ hk⟩) _ (Nat.le_refl _)) (Below.refl _ _) (Nat.le_refl _) (by simp) ?_; (case hd => rfl); (case hg => rfl); (case hr => first | (go_simp; done) | (go_simp; rfl)); (case hp => exact (Reps.one (show Kd.FK (Kd.slice 5 (Kd.int .u8)) _ _ y143 [.slice (some ⟨go43, 0, none⟩) y143.length co50] from (Kd.FK_slice_mk (Kd.V_reads' (Kd.V_mono (ok' := (fun k_ => k_ ≠ gb111 ∧ k_ ≠ g104)) (HO147.out) (fun k_ hk => ⟨hk.1.1.2, hk.1.2⟩))).2.1 (Kd.V_F (Kd.V_mono (ok' := (fun k_ => k_ ≠ gb111 ∧ k_ ≠ g104)) (HO147.out) (fun k_ hk => ⟨hk.1.1.2, hk.1.2⟩))))) (Reps.one (show Kd.FK (Kd.slice 5 (Kd.int .u8)) _ _ t154 [.slice Ao58 t154.length co58] from (Kd.FK_slice_mk (Kd.R_reads' (Kd.R_mono (ok' := (fun k_ => k_ ≠ gb111 ∧ k_ ≠ g104)) (IsS121.apart HI104.out (Kd.R_types (HO156.out) BK111.out (by decide)) (by decide)) (fun k_ hk => ⟨hk.1.2, hk.2⟩))).2.1 (Kd.R_F (Kd.R_mono (ok' := (fun k_ => k_ ≠ gb111 ∧ k_ ≠ g104)) (IsS121.apart HI104.out (Kd.R_types (HO156.out) BK111.out (by decide)) (by decide)) (fun k_ hk => ⟨hk.1.2, hk.2⟩))))) (Reps.one (show Kd.FK (Kd.slice 5 (Kd.int .u8)) _ _ y157 [.slice A56 y157.length c56] from (Kd.FK_slice_mk (Kd.V_reads' (Kd.V_mono (ok' := (fun k_ => k_ ≠ gb111 ∧ k_ ≠ g104)) (HO161.out) (fun k_ hk => ⟨hk.1.1.2, hk.1.2⟩))).2.1 (Kd.V_F (Kd.V_mono (ok' := (fun k_ => k_ ≠ gb111 ∧ k_ ≠ g104)) (HO161.out) (fun k_ hk => ⟨hk.1.1.2, hk.1.2⟩))))) (Reps.none _ _)))))
                    intro v163 w59 ho60 hb hg_ hnew_
                    clear hg_ hnew_
                    (first | rw [← Ny162.out] at ho60 | (simp only [Int.reduceToNat] at ho60; rw [← Ny162.out] at ho60))
                    have n0_ := Aside0.mk (Kd.R_below (by (with_reducible repeat (first | apply Kd.R_alloc | apply Kd.R_drewN | apply Kd.R_drew)); exact HO_5.out) hb)
                    have n1_ := Aside0.mk (Kd.V_elder' (by (with_reducible repeat (first | apply Kd.V_alloc | apply Kd.V_drewN | apply Kd.V_drew)); exact HO147.out) (Kd.N_base ho60) hb)
                    have n2_ := Aside0.mk (Kd.V_elder' (by (with_reducible repeat (first | apply Kd.V_alloc | apply Kd.V_drewN | apply Kd.V_drew)); exact HO152.out) (Kd.N_base ho60) hb)
                    have n3_ := Aside0.mk (Kd.V_elder' (by (with_reducible repeat (first | apply Kd.V_alloc | apply Kd.V_drewN | apply Kd.V_drew)); exact HO161.out) (Kd.N_base ho60) hb)
                    have n4_ := Aside0.mk (Kd.N_lower ho60 (below_size (by repeat (first | (with_reducible first | exact HB.out | apply below_alloc | apply pw_below_drewN | apply below_drew1 | refine below_set ?_ (IsS121.ge HI104.out) | refine below_set ?_ GE111.out) | exact HB.out))))
                    have n5_ := Aside0.mk (blk_below (g := gb111) (o := .cells #[.int .u32 t105, .int .i64 t106, .int .u32 t107, .int .u32 t108] 27 (0, 0)) (by (with_reducible repeat (first | refine blk_drewN ?_ _ | refine blk_drew ?_ | refine blk_alloc ?_ _)); exact BK111.out) hb)
                    have n6_ := Aside0.mk (IsS121.below (by repeat (first | (with_reducible first | exact HI104.out | apply IsS121.alloc | apply IsS121.drewN | apply IsS121.drew | apply IsS121.set_1 | apply IsS121.set_2 | refine IsS121.far ?_ NB104_111.out _) | exact HI104.out)) hb)
                    have n7_ := Aside0.mk (below_step (by repeat (first | (with_reducible first | exact HB.out | apply below_alloc | apply pw_below_drewN | apply below_drew1 | refine below_set ?_ (IsS121.ge HI104.out) | refine below_set ?_ GE111.out) | exact HB.out)) hb)
                    clear HO_5
                    clear HO147
                    clear HO152
                    clear HO161
                    clear BK111
                    clear HI104
                    clear HB
                    clear HO156
                    have HO_5 := n0_
                    have HO147 := n1_
                    have HO152 := n2_
                    have HO161 := n3_
                    have HO164 := n4_
                    have BK111 := n5_
                    have HI104 := n6_
                    have HB := n7_
                    clear n0_ n1_ n2_ n3_ n4_ n5_ n6_ n7_
                    clear hb ho60
                    obtain ⟨Ao61, co61, eo61⟩ := Kd.N_slice HO164.out
                    (first | subst eo61 | (injection eo61 with f1_ f2_ f3_; have f4_ := f1_.symm; have f5_ := f3_.symm; clear f1_ f2_ f3_; subst f4_; subst f5_))
                    refine hK.out _ _ trivial (fun hHeld => ?_)
                    clear hK K
                    refine norm_ (a' := ?_) ?_ ?_
                    rotate_left
                    · show Act.put _ (some 69) _ = _
                      simp only [Act.put, List.setIfInBounds_toArray, List.set_cons_zero, List.set_cons_succ, i64_w, i32_w]
                      rfl
                    refine one_ (i := 9) (N := some 70) #[true, true, true, true, true, true, true, true, true, true, false] rfl rfl (one_of HT_.out (by kernel_rfl)) (by decide) (fun K hK => ?_)
                    refine goes_ Try.func47 (by kernel_rfl) rfl #[.slice Ao61 y162.length co61] (by rfl) rfl rfl (by (try simp only [List.map_toArray, List.map_cons, List.map_nil]); first | done | rfl | (simp only [List.length_drop, List.length_take]; rfl)) ?_
                    with_reducible refine (spec_l2Cat.calls kj7 _ _ y162 t165 _ ?side1 ?side2 A49.out).mono ?_
                    (case side1 => repeat (first | exact (Kd.N_reads' HO164.out).2.2 | (with_reducible refine Kd.C_alloc ?_ _) | (with_reducible refine Kd.C_drewN ?_ _) | (with_reducible refine Kd.C_drew ?_)))
                    (case side2 => exact (Kd.N_reads' HO164.out).2.1)
                    rintro e w62 ⟨v166, rfl, ho0, hb⟩
                    refine ⟨_, rfl, ?_⟩
                    have n0_ := Aside0.mk (Kd.R_elder' (by (with_reducible repeat (first | apply Kd.R_alloc | apply Kd.R_drewN | apply Kd.R_drew)); exact HO_5.out) (Kd.R_base ho0) hb)
                    have n1_ := Aside0.mk (Kd.V_elder' (by (with_reducible repeat (first | apply Kd.V_alloc | apply Kd.V_drewN | apply Kd.V_drew)); exact HO147.out) (Kd.R_base ho0) hb)
                    have n2_ := Aside0.mk (Kd.V_elder' (by (with_reducible repeat (first | apply Kd.V_alloc | apply Kd.V_drewN | apply Kd.V_drew)); exact HO152.out) (Kd.R_base ho0) hb)
                    have n3_ := Aside0.mk (Kd.V_elder' (by (with_reducible repeat (first | apply Kd.V_alloc | apply Kd.V_drewN | apply Kd.V_drew)); exact HO161.out) (Kd.R_base ho0) hb)
                    have n4_ := Aside0.mk (Kd.N_elder' (by (with_reducible repeat (first | apply Kd.N_alloc | apply Kd.N_drewN | apply Kd.N_drew)); exact HO164.out) (Kd.R_base ho0) hb)
                    have n5_ := Aside0.mk (Kd.R_lower (Kd.R_new' ho0 (Kd.R_lt (by (with_reducible repeat (first | apply Kd.R_alloc | apply Kd.R_drewN | apply Kd.R_drew)); exact HO_5.out))) (below_size (by repeat (first | (with_reducible first | exact HB.out | apply below_alloc | apply pw_below_drewN | apply below_drew1 | refine below_set ?_ (IsS121.ge HI104.out) | refine below_set ?_ GE111.out) | exact HB.out))))
                    have n6_ := Aside0.mk (blk_below (g := gb111) (o := .cells #[.int .u32 t105, .int .i64 t106, .int .u32 t107, .int .u32 t108] 27 (0, 0)) (by (with_reducible repeat (first | refine blk_drewN ?_ _ | refine blk_drew ?_ | refine blk_alloc ?_ _)); exact BK111.out) hb)
                    have n7_ := Aside0.mk (IsS121.below (by repeat (first | (with_reducible first | exact HI104.out | apply IsS121.alloc | apply IsS121.drewN | apply IsS121.drew | apply IsS121.set_1 | apply IsS121.set_2 | refine IsS121.far ?_ NB104_111.out _) | exact HI104.out)) hb)
                    have n8_ := Aside0.mk (below_step (by repeat (first | (with_reducible first | exact HB.out | apply below_alloc | apply pw_below_drewN | apply below_drew1 | refine below_set ?_ (IsS121.ge HI104.out) | refine below_set ?_ GE111.out) | exact HB.out)) hb)
                    clear HO_5
                    clear HO147
                    clear HO152
                    clear HO161
                    clear HO164
                    clear BK111
                    clear HI104
                    clear HB
                    have HO_5 := n0_
                    have HO147 := n1_
                    have HO152 := n2_
                    have HO161 := n3_
                    have HO164 := n4_
                    have HO167 := n5_
                    have BK111 := n6_
                    have HI104 := n7_
                    have HB := n8_
                    clear n0_ n1_ n2_ n3_ n4_ n5_ n6_ n7_ n8_
                    (try clear hb)
                    (try clear hb2)
                    (try clear hk)
                    (try clear hi)
                    (try clear ho0)
                    refine hK.out _ _ trivial (fun hHeld => ?_)
                    clear hK K
                    refine norm_ (a' := ?_) ?_ ?_
                    rotate_left
                    · show Act.put _ (some 70) _ = _
                      simp only [Act.put, List.setIfInBounds_toArray, List.set_cons_zero, List.set_cons_succ, i64_w, i32_w]
                      rfl
                    refine pure_ (i := 10) (N := some 2) (v := ?_) (a' := ?_) #[true, true, true, true, true, true, true, true, true, true, true] rfl rfl (any_of HT_.out (by kernel_rfl)) (fun _ _ _ h => h) (Or.inl ⟨by rfl, ?_⟩) ?_ ?_
                    rotate_left
                    · intro w'
                      go_simp
                      with_reducible rfl
                    rotate_left
                    · simp only [Act.put, List.setIfInBounds_toArray, List.set_cons_zero, List.set_cons_succ, i64_w, i32_w]
                      rfl
                    refine done_ (done_of HT_.out (by kernel_rfl)) ?_
                    try go_wp2
                    go_ret
                    exact ⟨_, by first | rfl | (simp [errW_none, errW_some] <;> rfl) | (simp only [← hji40]; first | rfl | (simp [errW_none, errW_some] <;> rfl)) | (simp [*, errW_none, errW_some] <;> rfl), by (with_reducible repeat (first | apply Kd.R_alloc | apply Kd.R_drewN | apply Kd.R_drew)); exact Kd.R_mono HO167.out (fun _ hk => trivial), by repeat (first | (with_reducible first | exact HB.out | apply below_alloc | apply pw_below_drewN | apply below_drew1 | refine below_set ?_ (IsS121.ge HI104.out) | refine below_set ?_ GE111.out) | exact HB.out)⟩
                  · rw [if_neg c48] at H
                    exact absurd H (by simp)
                · rw [if_neg c44] at H
                  exact absurd H (by simp)
              · rw [if_neg c42] at H
                exact absurd H (by simp)
            · rw [if_neg c41] at H
              exact absurd H (by simp)
          · rw [if_neg c39] at H
            have c39b0 : (t115 == 3) = false := beq_eq_false_iff_ne.mpr c39
            have c39b1 : (t115 != 3) = true := bne_iff_ne.mpr c39
            by_cases c63 : t115 = 4
            · rw [if_pos c63] at H
              have c63b0 : (t115 == 4) = true := beq_iff_eq.mpr c63
              have c63b1 : (t115 != 4) = false := bne_eq_false_iff_eq.mpr c63
              clear c63
              by_cases c64 : x5_7.length < 140737488355328
              · rw [if_pos c64] at H
                have LMc64 := Aside0.mk c64
                clear c64
                obtain ⟨y168, hy168⟩ : ∃ y_ : List Int, y_ = (x5_7 ++ [0]) := ⟨_, rfl⟩
                replace H : (some y168) = some r := by first | (rw [hy168]; with_reducible exact H) | (have H2_ := (Option.bind_some _ _).symm.trans H; rw [hy168]; with_reducible exact H2_) | (have H2_ := (Option.bind_some _ _).symm.trans H; with_reducible exact H2_) | with_reducible exact H | (rw [hy168]; exact H) | exact H
                have Ny168 := Aside0.mk hy168
                clear hy168
                obtain rfl := Option.some.inj H
                go_wp2_with (first | ((with_reducible refine gate_builtin (b := .append) (xs := #[.tmp 73, .tmp 74]) rfl ?_); at_builtin; refine Kd.R_append (Kd.int .u8) (w0 := w) w.heap.size rfl (.tmp 73) (.tmp 74) 25 5 (.int .u8 0) 1 rfl Try.underlying25 info5 rfl (by decide) (by omega) v113 x5_7 0 [.int .u8 0] (fun _ => True) (fun _ => False) rfl rfl ?aP (fun _ hk => hk.elim) ?aF ?aO ?aB ?aS ?aL ?_; (case aP => exact rfl); (case aB => exact (by repeat (first | (with_reducible first | exact HB.out | apply below_alloc | apply pw_below_drewN | apply below_drew1 | refine below_set ?_ (IsS121.ge HI104.out) | refine below_set ?_ GE111.out) | exact HB.out))); (case aF => exact (fun _ _ => trivial)); (case aO => exact (by (with_reducible repeat (first | apply Kd.R_alloc | apply Kd.R_drewN | apply Kd.R_drew)); exact HO_5.out)); (case aS => exact (below_size (by repeat (first | (with_reducible first | exact HB.out | apply below_alloc | apply pw_below_drewN | apply below_drew1 | refine below_set ?_ (IsS121.ge HI104.out) | refine below_set ?_ GE111.out) | exact HB.out)))); (case aL => have := LMc64.out; omega); intro v169 w65 ho hb hg hat; rw [← Ny168.out] at ho; have n0_ := Aside0.mk (blk_grown (g := gb111) (o := .cells #[.int .u32 t105, .int .i64 t106, .int .u32 t107, .int .u32 t108] 27 (0, 0)) (by (with_reducible repeat (first | refine blk_drewN ?_ _ | refine blk_drew ?_ | refine blk_alloc ?_ _)); exact BK111.out) hg (Kd.R_ne HO_5.out BK111.out (by decide))); have n1_ := Aside0.mk (IsS121.grown (by repeat (first | (with_reducible first | exact HI104.out | apply IsS121.alloc | apply IsS121.drewN | apply IsS121.drew | apply IsS121.set_1 | apply IsS121.set_2 | refine IsS121.far ?_ NB104_111.out _) | exact HI104.out)) hg (IsS121.own_ne HI104.out HO_5.out (by decide))); have n2_ := Aside0.mk (hb); have n3_ := Aside0.mk (ho); clear BK111; clear HI104; clear HB; clear HO_5; have BK111 := n0_; have HI104 := n1_; have HB := n2_; have HO170 := n3_; clear n0_ n1_ n2_ n3_; clear ho hb hg hat))
                go_ret
                exact ⟨_, by first | rfl | (simp [errW_none, errW_some] <;> rfl) | (simp [*, errW_none, errW_some] <;> rfl), by (with_reducible repeat (first | apply Kd.R_alloc | apply Kd.R_drewN | apply Kd.R_drew)); exact HO170.out, by repeat (first | (with_reducible first | exact HB.out | apply below_alloc | apply pw_below_drewN | apply below_drew1 | refine below_set ?_ (IsS121.ge HI104.out) | refine below_set ?_ GE111.out) | exact HB.out)⟩
              · rw [if_neg c64] at H
                exact absurd H (by simp)
            · rw [if_neg c63] at H
              have c63b0 : (t115 == 4) = false := beq_eq_false_iff_ne.mpr c63
              have c63b1 : (t115 != 4) = true := bne_iff_ne.mpr c63
              obtain rfl := Option.some.inj H
              go_wp2
              go_ret
              exact ⟨_, by first | rfl | (simp [errW_none, errW_some] <;> rfl) | (simp [*, errW_none, errW_some] <;> rfl), by (with_reducible repeat (first | apply Kd.R_alloc | apply Kd.R_drewN | apply Kd.R_drew)); exact HO_5.out, by repeat (first | (with_reducible first | exact HB.out | apply below_alloc | apply pw_below_drewN | apply below_drew1 | refine below_set ?_ (IsS121.ge HI104.out) | refine below_set ?_ GE111.out) | exact HB.out)⟩

end Go.Proofs.Ytgfadfahbhcllaa.Q
namespace Go.Proofs.Ytgfadfahbhcllaa.P
open Go.RowKit Go.Proofs.YtgfadfahbhcllaaW.PrintWords Go.Proofs.YtgfadfahbhcllaaW.PrintMore Go.Proofs.Ytgfadfahbhcllaa.Q
set_option linter.unusedVariables false
set_option linter.unusedSimpArgs false
theorem and_byte (x : Int) : 0 ≤ Go.bits .and .i64 x 255 ∧ Go.bits .and .i64 x 255 ≤ 255 := by
  have h : (BitVec.ofInt 64 x).toNat &&& 255 < 2 ^ 8 := Nat.and_lt_two_pow _ (by decide)
  unfold Go.bits
  rw [IntKind.wrap_i64]
  have e : ((BitVec.ofInt IntKind.i64.bits x) &&& (BitVec.ofInt IntKind.i64.bits 255)).toNat = (BitVec.ofInt 64 x).toNat &&& 255 := by
    rw [BitVec.toNat_and]
    rfl
  simp only [e]
  omega
theorem bits_u8 (op : BinOp) (x y : Int) : 0 ≤ Go.bits op .u8 x y ∧ Go.bits op .u8 x y ≤ 255 := by
  unfold Go.bits
  rw [IntKind.wrap_u8]
  omega
/-- A cursor inside its bytes. -/
def Cur (l : List Int) (i : Int) : Prop := 0 ≤ i ∧ i ≤ l.length
theorem byte_is {l : List Int} {i h : Int} (hl : l.length ≤ 1048576) (hc : Cur l i) : ∃ x i' h', spec_l1Byte.f l i h = some (x, i', h') ∧ 0 ≤ x ∧ x ≤ 255 ∧ Cur l i' := by
  unfold Cur at *
  simp only [spec_l1Byte.f]
  by_cases c : i < (l.length : Int)
  · rw [if_pos c, if_pos hc.1]
    refine ⟨_, _, _, rfl, (and_byte _).1, (and_byte _).2, ?_⟩
    rw [w64 (n := i + 1) (by omega) (by omega)]
    omega
  · rw [if_neg c]
    exact ⟨_, _, _, rfl, (and_byte _).1, (and_byte _).2, hc⟩
theorem tmod_range {x n : Int} (h0 : 0 ≤ x) (hn : 0 < n) : 0 ≤ Int.tmod x n ∧ Int.tmod x n < n := by
  rw [Int.tmod_eq_emod_of_nonneg h0]
  exact ⟨Int.emod_nonneg _ (by omega), Int.emod_lt_of_pos _ hn⟩
theorem below_is {l : List Int} {i h n : Int} (hl : l.length ≤ 1048576) (hc : Cur l i) (hn : 0 < n) : ∃ x i' h', spec_l1Below.f l i h n = some (x, i', h') ∧ 0 ≤ x ∧ x < n ∧ Cur l i' := by
  simp only [spec_l1Below.f]
  by_cases c : n ≤ 256
  · rw [if_pos c]
    obtain ⟨x, i', h', e, h0, h1, hc'⟩ := byte_is (h := h) hl hc
    rw [e, Option.bind_some, if_neg (by omega)]
    exact ⟨_, _, _, rfl, (tmod_range h0 hn).1, (tmod_range h0 hn).2, hc'⟩
  · rw [if_neg c]
    obtain ⟨x, i', h', e, h0, h1, hc'⟩ := byte_is (h := h) hl hc
    rw [e, Option.bind_some]
    obtain ⟨y, i2, h2, e2, y0, y1, hc2⟩ := byte_is (h := h') hl hc'
    rw [e2, Option.bind_some]
    obtain ⟨z, i3, h3, e3, z0, z1, hc3⟩ := byte_is (h := h2) hl hc2
    rw [e3, Option.bind_some, if_neg (by omega)]
    have ew : wrap64 (wrap64 (wrap64 (x * 65536) + wrap64 (y * 256)) + z) = x * 65536 + y * 256 + z := by
      rw [w64 (n := x * 65536) (by omega) (by omega), w64 (n := y * 256) (by omega) (by omega), w64 (n := x * 65536 + y * 256) (by omega) (by omega), w64 (n := x * 65536 + y * 256 + z) (by omega) (by omega)]
    rw [ew]
    exact ⟨_, _, _, rfl, (tmod_range (by omega) hn).1, (tmod_range (by omega) hn).2, hc3⟩
theorem once_is {l : List Int} {i h n : Int} (hl : l.length ≤ 1048576) (hc : Cur l i) (hn : 0 < n) : ∃ b i' h', spec_l1Once.f l i h n = some (b, i', h') ∧ Cur l i' := by
  obtain ⟨x, i', h', e, -, -, hc'⟩ := below_is (h := h) hl hc hn
  simp only [spec_l1Once.f, e, Option.bind_some]
  exact ⟨_, _, _, rfl, hc'⟩
theorem new_ev {l : List Int} (hl : l.length ≤ 1048576) : ∃ h, Ev (fun k => spec_l1New.f k l) (l, 0, h) := by
  simp only [spec_l1New.f]
  have key : ∀ m i x, i + m = l.length → ∃ h, Ev (fun k => spec_l1New.l0 k l x (i : Int)) (l, 0, h) := by
    intro m
    induction m with
    | zero =>
      intro i x hi
      refine ⟨x, Ev.last ⟨0, fun k _ => ?_⟩⟩
      simp only [spec_l1New.l0]
      rw [if_neg (by omega)]
    | succ m ih =>
      intro i x hi
      obtain ⟨h, e⟩ := ih (i + 1) (Go.bits .and .i64 (wrap64 ((wrap64 ((wrap64 (x * 131)) + (wrap64 (rd l i)))) + 7)) 1073741823) (by omega)
      refine ⟨h, Ev.step ⟨0, fun k _ => ?_⟩ e⟩
      simp only [spec_l1New.l0]
      rw [if_pos (by omega), if_pos (by omega), w64s (n := l.length) (by omega) (by omega)]
  exact key l.length 0 _ (by omega)
/-- A drawn frame. -/
structure Fr (q kd a b : Int) : Prop where
  q : 0 ≤ q ∧ q ≤ 4294967295
  kd : -2 ≤ kd ∧ kd ≤ 6
  a : 0 ≤ a ∧ a ≤ 4294967295
  b : 0 ≤ b ∧ b ≤ 4294967295
theorem frame_j1 {l : List Int} {i h q kd a b : Int} (hl : l.length ≤ 1048576) (hc : Cur l i) (hq : 0 ≤ q ∧ q ≤ 4294967295) (hk : 1 ≤ kd ∧ kd ≤ 3) : ∃ a' b' i' h', Ev (fun k => spec_l2DrawFrame.j1 k l i h q kd a b) (q, kd, a', b', i', h') ∧ Fr q kd a' b' ∧ (1 ≤ kd ∧ kd ≤ 3) ∧ Cur l i' := by
  obtain ⟨x, i1, h1, e1, x0, x1, c1⟩ := below_is (h := h) hl hc (n := 300) (by decide)
  obtain ⟨y, i2, h2, e2, y0, y1, c2⟩ := below_is (h := h1) hl c1 (n := 3) (by decide)
  obtain ⟨o, i3, h3, e3, c3⟩ := once_is (h := h2) hl c2 (n := 4) (by decide)
  by_cases ho : o = true
  · refine ⟨x % 4294967296, 4294967295 - x % 4294967296, i3, h3, Ev.last ⟨0, fun k _ => ?_⟩, ⟨hq, by omega, by omega, by omega⟩, hk, c3⟩
    simp only [spec_l2DrawFrame.j1, e1, e2, e3, Option.bind_some]
    rw [if_pos ho]
  · refine ⟨x % 4294967296, y % 4294967296, i3, h3, Ev.last ⟨0, fun k _ => ?_⟩, ⟨hq, by omega, by omega, by omega⟩, hk, c3⟩
    simp only [spec_l2DrawFrame.j1, e1, e2, e3, Option.bind_some]
    rw [if_neg ho]
theorem frame_j0 {l : List Int} {i h q kd a b x y : Int} (hl : l.length ≤ 1048576) (hc : Cur l i) (hq : 0 ≤ q ∧ q ≤ 4294967295) (hk : 1 ≤ kd ∧ kd ≤ 3) : ∃ q' a' b' i' h', Ev (fun k => spec_l2DrawFrame.j0 k x y l i h q kd a b) (q', kd, a', b', i', h') ∧ Fr q' kd a' b' ∧ (1 ≤ kd ∧ kd ≤ 3) ∧ Cur l i' := by
  by_cases hx : x = 1
  · obtain ⟨a', b', i', h', e, hf, hk', hc'⟩ := frame_j1 (h := h) (a := a) (b := b) hl hc (q := (wrap64 (y * 16777215)) % 4294967296) (by omega) hk
    refine ⟨_, a', b', i', h', Ev.step ⟨0, fun k _ => ?_⟩ e, hf, hk', hc'⟩
    simp only [spec_l2DrawFrame.j0]
    rw [if_pos hx]
  · obtain ⟨a', b', i', h', e, hf, hk', hc'⟩ := frame_j1 (h := h) (a := a) (b := b) hl hc hq hk
    refine ⟨_, a', b', i', h', Ev.step ⟨0, fun k _ => ?_⟩ e, hf, hk', hc'⟩
    simp only [spec_l2DrawFrame.j0]
    rw [if_neg hx]
theorem drawFrame_ev {l : List Int} {i h : Int} (hl : l.length ≤ 1048576) (hc : Cur l i) : ∃ q kd a b i' h', Ev (fun k => spec_l2DrawFrame.f k l i h) (q, kd, a, b, i', h') ∧ Fr q kd a b ∧ (1 ≤ kd ∧ kd ≤ 3) ∧ Cur l i' := by
  obtain ⟨x, i1, h1, e1, x0, x1, c1⟩ := below_is (h := h) hl hc (n := 3) (by decide)
  obtain ⟨y, i2, h2, e2, y0, y1, c2⟩ := below_is (h := h1) hl c1 (n := 6) (by decide)
  obtain ⟨z, i3, h3, e3, z0, z1, c3⟩ := below_is (h := h2) hl c2 (n := 20) (by decide)
  have hk : wrap64 (1 + x) = 1 + x := w64 (n := 1 + x) (by omega) (by omega)
  simp only [spec_l2DrawFrame.f, e1, e2, e3, Option.bind_some]
  by_cases hy : y = 0
  · obtain ⟨q', a', b', i', h', e, hf, hk', hc'⟩ := frame_j0 (h := h3) (a := 0) (b := 0) (x := y) (y := z) hl c3 (q := 4294967295 - z % 4294967296) (by omega) (kd := wrap64 (1 + x)) (by rw [hk]; omega)
    exact ⟨_, _, _, _, _, _, Ev.pos hy e, hf, hk', hc'⟩
  · obtain ⟨q', a', b', i', h', e, hf, hk', hc'⟩ := frame_j0 (h := h3) (a := 0) (b := 0) (x := y) (y := z) hl c3 (q := wrap64 (1 + z) % 4294967296) (by omega) (kd := wrap64 (1 + x)) (by rw [hk]; omega)
    exact ⟨_, _, _, _, _, _, Ev.neg hy e, hf, hk', hc'⟩
theorem drawE_ev {l : List Int} (hl : l.length ≤ 1048576) : ∃ q kd a b, Ev (fun k => spec_DrawEncodeFrame.f k l) (q, kd, a, b) ∧ Fr q kd a b := by
  obtain ⟨h, en⟩ := new_ev hl
  obtain ⟨q, kd, a, b, i', h', ef, hf, hk, hc⟩ := drawFrame_ev (h := h) hl (i := 0) ⟨by decide, by omega⟩
  obtain ⟨o, i2, h2, eo, c2⟩ := once_is (h := h') hl hc (n := 8) (by decide)
  simp only [spec_DrawEncodeFrame.f]
  by_cases ho : o = true
  · obtain ⟨x, i3, h3, ex, x0, x1, c3⟩ := below_is (h := h2) hl c2 (n := 8) (by decide)
    refine ⟨q, x - 2, a, b, Ev.bind en (Ev.bind ef (Ev.bind (Ev.const eo) (Ev.pos ho (Ev.bind (Ev.const ex) (Ev.const ?_))))), hf.q, by omega, hf.a, hf.b⟩
    rw [w64 (n := x - 2) (by omega) (by omega)]
  · exact ⟨q, kd, a, b, Ev.bind en (Ev.bind ef (Ev.bind (Ev.const eo) (Ev.neg ho (Ev.const rfl)))), hf⟩
theorem set_u8 {l : List Int} (h : U8s l) (i : Nat) {x : Int} (hx : 0 ≤ x ∧ x ≤ 255) : U8s (l.set i x) := by
  intro z hz
  rcases List.mem_or_eq_of_mem_set hz with h1 | h1
  · exact h z h1
  · rw [h1]; exact hx
theorem app_u8 {l m : List Int} (h : U8s l) (h2 : U8s m) : U8s (l ++ m) := fun z hz => (List.mem_append.1 hz).elim (h z) (h2 z)
theorem good_enc {q kd a b : Int} (hk : 1 ≤ kd ∧ kd ≤ 3) : (encF q kd a b).length = 64 := by unfold encF; rw [if_pos hk]; rfl
theorem spec_encE {q kd a b : Int} (h : Fr q kd a b) : spec_EncodeFrame.f q kd a b = some (encF q kd a b) := spec_enc q kd a b h.q h.a h.b
theorem drawD_j0 {l x : List Int} {i h k7 at_ v : Int} (hl : l.length ≤ 1048576) (hc : Cur l i) (h64 : x.length = 64) (hu : U8s x) (ha : 0 ≤ at_ ∧ at_ < 64) : ∃ r, Ev (fun k => spec_DrawDecodeFrame.j0 k x k7 at_ v l i h) r ∧ U8s r ∧ r.length ≤ 65 := by
  by_cases h1 : k7 = 1
  · refine ⟨x.take at_.toNat, Ev.last ⟨0, fun k _ => ?_⟩, hu.take _, by rw [List.length_take]; omega⟩
    simp only [spec_DrawDecodeFrame.j0]
    rw [if_pos h1, if_pos ha.1, if_pos (by omega)]
  by_cases h2 : k7 = 2
  · obtain ⟨q, kd, a, b, i', h', ef, hf, hk, hc'⟩ := drawFrame_ev (h := h) hl hc
    have et : spec_l2Torn.f x (encF q kd a b) at_ = some (x.take at_.toNat ++ (encF q kd a b).drop at_.toNat) := by
      simp only [spec_l2Torn.f, Option.bind_some]
      rw [if_pos ha.1, if_pos (by omega), if_pos (by rw [List.length_take]; simp; omega), if_pos (by rw [good_enc hk]; omega), if_pos (by rw [List.length_append, List.length_take, List.length_drop, good_enc hk]; simp only [List.length_nil]; omega), List.nil_append]
    refine ⟨_, Ev.step (g := fun k => (spec_l2DrawFrame.f k l i h).bind fun bt129 => ((spec_EncodeFrame.f bt129.1 bt129.2.1 bt129.2.2.1 bt129.2.2.2.1).bind fun t135 => ((spec_l2Torn.f x t135 at_).bind fun t138 => (some t138)))) ⟨0, fun k _ => ?_⟩ (Ev.bind ef (Ev.bind (Ev.const (spec_encE hf)) (Ev.bind (Ev.const et) (Ev.const rfl)))), app_u8 (hu.take _) ((encF_u8 _ _ _ _).drop _), ?_⟩
    · simp only [spec_DrawDecodeFrame.j0]
      rw [if_neg h1, if_pos h2]
    · rw [List.length_append, List.length_take, List.length_drop, good_enc hk]; omega
  by_cases h3 : k7 = 3
  · have hm := tmod_range (x := at_) (n := 56) ha.1 (by decide)
    have hx8 := bits_u8 .xor (rd x (Int.tmod at_ 56)) (v % 256)
    have hy := set_u8 hu (Int.tmod at_ 56).toNat hx8
    have hyl : (x.set (Int.tmod at_ 56).toNat (Go.bits .xor .u8 (rd x (Int.tmod at_ 56)) (v % 256))).length = 64 := by rw [List.length_set, h64]
    refine ⟨_, Ev.step (g := fun k => (some (x.set (Int.tmod at_ 56).toNat (Go.bits .xor .u8 (rd x (Int.tmod at_ 56)) (v % 256)))).bind fun y142 => ((spec_Crc32.f k (y142.take 56)).bind fun t153 => ((spec_l2Four.f t153).bind fun t154 => ((spec_l2Cat.f k (([(y142.take 56), t154, (y142.drop 60)] : List (List Int)))).bind fun t165 => (some t165))))) ⟨0, fun k _ => ?_⟩
      (Ev.bind (Ev.const rfl) (Ev.bind (spec_Crc32_ev _ (by rw [List.length_take]; omega)) (Ev.bind (Ev.const (four_is _ (crc32_range _))) (Ev.bind (cat_ev _ (by simp) (by simp only [List.flatten_cons, List.flatten_nil, List.append_nil, List.length_append, List.length_take, List.length_drop, hyl, leB_length]; omega)) (Ev.const rfl))))), ?_, ?_⟩
    · simp only [spec_DrawDecodeFrame.j0]
      rw [if_neg h1, if_neg h2, if_pos h3, if_pos hm.1, if_pos (by omega)]
      have c56 : (56 : Int) ≤ (x.length : Int) := by omega
      have c60 : (60 : Int) ≤ (x.length : Int) := by omega
      simp only [Option.bind_some, if_pos c56, if_pos c60]
    · simp only [List.flatten_cons, List.flatten_nil, List.append_nil]
      exact app_u8 (hy.take _) (app_u8 (leB_u8 _ _) (hy.drop _))
    · simp only [List.flatten_cons, List.flatten_nil, List.append_nil, List.length_append, List.length_take, List.length_drop, hyl, leB_length]
      omega
  by_cases h4 : k7 = 4
  · refine ⟨x ++ [0], Ev.last ⟨0, fun k _ => ?_⟩, app_u8 hu (fun z hz => by rw [List.mem_singleton] at hz; omega), by rw [List.length_append, h64]; decide⟩
    simp only [spec_DrawDecodeFrame.j0]
    rw [if_neg h1, if_neg h2, if_neg h3, if_pos h4, if_pos (by omega)]
  · refine ⟨x, Ev.last ⟨0, fun k _ => ?_⟩, hu, by omega⟩
    simp only [spec_DrawDecodeFrame.j0]
    rw [if_neg h1, if_neg h2, if_neg h3, if_neg h4]
theorem drawD_ev {l : List Int} (hl : l.length ≤ 1048576) : ∃ r, Ev (fun k => spec_DrawDecodeFrame.f k l) r ∧ U8s r ∧ r.length ≤ 65 := by
  obtain ⟨h, en⟩ := new_ev hl
  obtain ⟨q, kd, a, b, i', h', ef, hf, hk, hc⟩ := drawFrame_ev (h := h) hl (i := 0) ⟨by decide, by omega⟩
  obtain ⟨x, i1, h1, e1, x0, x1, c1⟩ := below_is (h := h') hl hc (n := 8) (by decide)
  obtain ⟨y, i2, h2, e2, y0, y1, c2⟩ := below_is (h := h1) hl c1 (n := 64) (by decide)
  obtain ⟨z, i3, h3, e3, z0, z1, c3⟩ := below_is (h := h2) hl c2 (n := 255) (by decide)
  have hz : wrap64 (1 + z) = 1 + z := w64 (by omega) (by omega)
  simp only [spec_DrawDecodeFrame.f]
  have hu := encF_u8 q kd a b
  have h64 := good_enc (q := q) (a := a) (b := b) hk
  by_cases hx : x = 0
  · obtain ⟨r, er, hr, hrl⟩ := drawD_j0 (x := (encF q kd a b).set y.toNat (Go.bits .xor .u8 (rd (encF q kd a b) y) ((wrap64 (1 + z)) % 256))) (h := h3) (k7 := x) (v := wrap64 (1 + z)) hl c3 (by rw [List.length_set, h64]) (set_u8 hu _ (bits_u8 _ _ _)) ⟨y0, y1⟩
    exact ⟨r, Ev.bind en (Ev.bind ef (Ev.bind (Ev.const (spec_encE hf)) (Ev.bind (Ev.const e1) (Ev.bind (Ev.const e2) (Ev.bind (Ev.const e3) (Ev.pos hx (Ev.pos y0 (Ev.pos (by rw [h64]; omega) er)))))))), hr, hrl⟩
  · obtain ⟨r, er, hr, hrl⟩ := drawD_j0 (x := encF q kd a b) (h := h3) (k7 := x) (v := wrap64 (1 + z)) hl c3 h64 hu ⟨y0, y1⟩
    exact ⟨r, Ev.bind en (Ev.bind ef (Ev.bind (Ev.const (spec_encE hf)) (Ev.bind (Ev.const e1) (Ev.bind (Ev.const e2) (Ev.bind (Ev.const e3) (Ev.neg hx er)))))), hr, hrl⟩
/-! A frame comes back from its code. -/
theorem le_leB4 {x : Int} (h : 0 ≤ x ∧ x ≤ 4294967295) : le (leB 4 x) = x := by
  have e : leB 4 x = [x / 2 ^ (8 * 0) % 256, x / 2 ^ (8 * 1) % 256, x / 2 ^ (8 * 2) % 256, x / 2 ^ (8 * 3) % 256] := rfl
  rw [e]
  simp only [le]
  have e0 : (2 : Int) ^ (8 * 0) = 1 := rfl
  have e1 : (2 : Int) ^ (8 * 1) = 256 := rfl
  have e2 : (2 : Int) ^ (8 * 2) = 65536 := rfl
  have e3 : (2 : Int) ^ (8 * 3) = 16777216 := rfl
  rw [e0, e1, e2, e3]
  omega
theorem dec_enc {q kd a b : Int} (h : Fr q kd a b) : decF (encF q kd a b) = if 1 ≤ kd ∧ kd ≤ 3 then (true, q, kd, a, b) else (false, 0, 0, 0, 0) := by
  by_cases hk : 1 ≤ kd ∧ kd ≤ 3
  · have e1 : fSeq (encF q kd a b) = q := by unfold encF; rw [if_pos hk]; exact le_leB4 h.q
    have e2 : fKind (encF q kd a b) = kd := by unfold encF; rw [if_pos hk]; show kd % 256 = kd; omega
    have e3 : fA (encF q kd a b) = a := by unfold encF; rw [if_pos hk]; exact le_leB4 h.a
    have e4 : fB (encF q kd a b) = b := by unfold encF; rw [if_pos hk]; exact le_leB4 h.b
    have hI : isFrame (encF q kd a b) := by
      unfold isFrame
      rw [e1, e2, e3, e4]
      exact ⟨hk, by unfold encF; rw [if_pos hk]⟩
    unfold decF
    rw [if_pos ⟨good_enc hk, hI⟩, e1, e2, e3, e4, if_pos hk]
  · have e : encF q kd a b = [] := by unfold encF; rw [if_neg hk]
    rw [e, if_neg hk]
    unfold decF
    rw [if_neg (by rintro ⟨h, _⟩; cases h)]
theorem enc_dec {l : List Int} (h : (decF l).1 = true) : encF (decF l).2.1 (decF l).2.2.1 (decF l).2.2.2.1 (decF l).2.2.2.2 = l := by
  unfold decF at *
  by_cases c : l.length = 64 ∧ isFrame l
  · rw [if_pos c] at *
    obtain ⟨-, hk, e⟩ := c
    unfold encF
    rw [if_pos hk, e]
  · rw [if_neg c] at h
    cases h
theorem dec_range {l : List Int} (hu : U8s l) : (0 ≤ (decF l).2.1 ∧ (decF l).2.1 ≤ 4294967295) ∧ (0 ≤ (decF l).2.2.2.1 ∧ (decF l).2.2.2.1 ≤ 4294967295) ∧ (0 ≤ (decF l).2.2.2.2 ∧ (decF l).2.2.2.2 ≤ 4294967295) := by
  unfold decF
  by_cases c : l.length = 64 ∧ isFrame l
  · rw [if_pos c]
    exact ⟨num4 hu 0 (by omega), num4 hu 8 (by omega), num4 hu 12 (by omega)⟩
  · rw [if_neg c]
    exact ⟨by decide, by decide, by decide⟩
end Go.Proofs.Ytgfadfahbhcllaa.P
namespace Go.Proofs.Ytgfadfahbhcllaa.Q
open Go.RowKit Go.Proofs.YtgfadfahbhcllaaW.PrintWords Go.Proofs.YtgfadfahbhcllaaW.PrintLast Go.Proofs.Ytgfadfahbhcllaa.LK Go.Proofs.YtgfadfahbhcllaaW.PrintMore
attribute [local go_sem] max2_int min2_int max_two min_two max_three min_three max_four min_four   -- for this text's walks alone
set_option linter.unusedVariables false
set_option linter.unusedSimpArgs false

/-! ### laws_lwBytes: function 22 -/
def laws_lwBytes.f (l0 : List Int) (l1 : List Int) : Option (Bool) := some ((strOfNums l0).toList == (strOfNums l1).toList)
set_option maxHeartbeats 8000000 in
set_option maxRecDepth 100000 in
theorem laws_lwBytes.calls (A0 : Option Addr) (c0 : Nat) (l0 : List Int) (A1 : Option Addr) (c1 : Nat) (l1 : List Int) (r : Bool) (w : World) (hr0 : Kd.C (Kd.int .u8) w A0 l0.length l0) (hc0 : l0.length ≤ c0) (hr1 : Kd.C (Kd.int .u8) w A1 l1.length l1) (hc1 : l1.length ≤ c1) (h : laws_lwBytes.f l0 l1 = some r) :
    Calls Try.prog 22 #[.slice A0 l0.length c0, .slice A1 l1.length c1] w fun e w' => e = .returned (.bool r) ∧ Drawn0 w w' := by
  have HR0 := Aside0.mk hr0
  have HC0 := Aside0.mk hc0
  clear hr0 hc0
  have HR1 := Aside0.mk hr1
  have HC1 := Aside0.mk hc1
  clear hr1 hc1
  have H : (some ((strOfNums l0).toList == (strOfNums l1).toList)) = some r := h
  clear h
  obtain rfl := Option.some.inj H
  have hcv3 := Kd.C_string (P := Try.prog) (A := A0) (c := c0) Try.underlying25 Try.underlying5 Try.underlying9 HR0.out
  have hcv4 := Kd.C_string (P := Try.prog) (A := A1) (c := c1) Try.underlying25 Try.underlying5 Try.underlying9 HR1.out
  go_enter Try.func22, Try.ntmps22
  go_wp2
  go_ret
  exact ⟨by first | rfl | (simp; done) | (simp [*]; done), by repeat (first | exact Drawn0.refl _ | apply Drawn0.step)⟩

end Go.Proofs.Ytgfadfahbhcllaa.Q
namespace Go.Proofs.Ytgfadfahbhcllaa.Q
open Go.RowKit Go.Proofs.YtgfadfahbhcllaaW.PrintWords Go.Proofs.YtgfadfahbhcllaaW.PrintLast Go.Proofs.Ytgfadfahbhcllaa.LK Go.Proofs.YtgfadfahbhcllaaW.PrintMore
attribute [local go_sem] max2_int min2_int max_two min_two max_three min_three max_four min_four   -- for this text's walks alone
set_option linter.unusedVariables false
set_option linter.unusedSimpArgs false

theorem eqA27 (d : Nat) (w : World) (x0 y0 : Int) (x1 y1 : Int) (x2 y2 : Int) (x3 y3 : Int) :
    (Op.equalIn (d + 2) 27 (.agg #[.int .u32 x0, .int .i64 x1, .int .u32 x2, .int .u32 x3]) (.agg #[.int .u32 y0, .int .i64 y1, .int .u32 y2, .int .u32 y3])).run Try.prog w = .ok (x0 == y0 && (x1 == y1 && (x2 == y2 && (x3 == y3)))) w := by
  refine eqA_of Try.underlying27 (by kernel_rfl) ?_
  refine eqf_cons (by rfl) (by go_simp; rfl) (by go_simp; rfl) (by go_simp) ?_
  refine eqf_cons (by rfl) (by go_simp; rfl) (by go_simp; rfl) (by go_simp) ?_
  refine eqf_cons (by rfl) (by go_simp; rfl) (by go_simp; rfl) (by go_simp) ?_
  exact eqf_last (by rfl) (by go_simp; rfl) (by go_simp; rfl) (by go_simp)
end Go.Proofs.Ytgfadfahbhcllaa.Q
namespace Go.Proofs.Ytgfadfahbhcllaa.Q
open Go.RowKit Go.Proofs.YtgfadfahbhcllaaW.PrintWords Go.Proofs.YtgfadfahbhcllaaW.PrintLast Go.Proofs.Ytgfadfahbhcllaa.LK Go.Proofs.YtgfadfahbhcllaaW.PrintMore
attribute [local go_sem] max2_int min2_int max_two min_two max_three min_three max_four min_four   -- for this text's walks alone
set_option linter.unusedVariables false
set_option linter.unusedSimpArgs false

theorem eqA33 (d : Nat) (w : World) (x0 y0 : Bool) (x1 y1 : Int) (x2 y2 : Int) (x3 y3 : Int) (x4 y4 : Int) :
    (Op.equalIn (d + 3) 33 (.agg #[.bool x0, .int .u32 x1, .int .i64 x2, .int .u32 x3, .int .u32 x4]) (.agg #[.bool y0, .int .u32 y1, .int .i64 y2, .int .u32 y3, .int .u32 y4])).run Try.prog w = .ok (x0 == y0 && ((x1 == y1 && (x2 == y2 && (x3 == y3 && (x4 == y4)))))) w := by
  refine eqA_of Try.underlying33 (by kernel_rfl) ?_
  refine eqf_cons (by rfl) (by go_simp; rfl) (by go_simp; rfl) (by go_simp) ?_
  exact eqf_last (by rfl) (by go_simp) (by go_simp) (eqA27 (d + 0) w _ _ _ _ _ _ _ _)
end Go.Proofs.Ytgfadfahbhcllaa.Q
