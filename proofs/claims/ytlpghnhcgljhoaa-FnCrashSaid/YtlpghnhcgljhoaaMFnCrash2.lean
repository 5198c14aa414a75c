/- Part 2 of 5 of the proof that the law FnCrash returns true at every input. No further condition. -/
import Derived.Deep.MidRow
import Derived.Test.YtlpghnhcgljhoaaMFnCrash1
section
namespace Go.Proofs.Ytlpghnhcgljhoaa.SP
open Go.RowKit Go.Proofs.YtlpghnhcgljhoaaW.PrintWords Go.Proofs.YtlpghnhcgljhoaaW.PrintLast Go.Proofs.Ytlpghnhcgljhoaa.LK Go.Proofs.YtlpghnhcgljhoaaW.PrintMore
set_option linter.unusedVariables false
def Rng (W : World) (p : Addr) (cs : List Value) : Prop := ∀ j v, cs[j]? = some v → W.cell? (p.add j) = some v
class Ty (P : Program) (T : Nat) (n : outParam Nat) (f : outParam (List Value → Value)) : Prop where
  ld : ∀ (W : World) (p : Addr) (cs : List Value), Rng W p cs → cs.length = n → (Instr.loadAt T (.pointer (some p))).run P W = .ok (f cs) W
  sz : (P.info? T).map (·.size) = some n
class Sl (P : Program) (T : Nat) (e n bytes : outParam Nat) (z : outParam Value) : Prop where
  u : P.underlying T = some (.slice e)
  i : (P.info? e).map (fun i => (i.zero, i.size, i.bytes)) = some (some z, n, bytes)
  n0 : 0 < n
  b0 : 0 < bytes
  zn : z.cells.size = n
class Opn {α : Type} (d : Kd α) (rdf : outParam (List α → Int → α)) (cells : outParam (α → (Nat → Option Addr × Nat) → List Value)) (fact : outParam (α → (Nat → Option Addr × Nat) → World → Prop)) : Prop where
  rd : ∀ xs (i : Int), 0 ≤ i → i < xs.length → xs[i.toNat]? = some (rdf xs i)
  k : ∀ {w x c}, d.K w x c → ∃ q, c = cells x q ∧ fact x q w
def okFn (P : Program) (f : Nat) : Bool := match P.funcs[f]? with
  | some fn => !(fn.name == "runtime.NumGoroutine") && fn.body.isSome
  | none => false
theorem okFn_is {P : Program} {f : Nat} (h : okFn P f = true) : ∃ fn, P.funcs[f]? = some fn ∧ (fn.name == "runtime.NumGoroutine") = false ∧ fn.body.isSome = true := by
  unfold okFn at h
  cases e : P.funcs[f]? with
  | none => rw [e] at h; cases h
  | some fn => rw [e] at h; simp only [Bool.and_eq_true, Bool.not_eq_true'] at h; exact ⟨fn, rfl, h⟩
def agg (cs : List Value) : Value := .agg cs.toArray
def one (cs : List Value) : Value := cs.headD undef
theorem Ty.row {P : Program} {T n : Nat} {d : TypeDesc} (hu : P.underlying T = some d) (hd : d.isRow = true) (hi : (P.info? T).map (·.size) = some n) : Ty P T n agg :=
  ⟨fun W p cs h hl => by
    have hl2 : (loadCells p cs.length).run P W = .ok cs.toArray W := run_loadCells_list (P := P) W p cs h
    have hagg : (isAgg T).run P W = .ok true W := by
      unfold isAgg
      rw [Sem.run_bind, run_underlying hu W]
      cases d <;> simp_all
    cases hq : P.info? T with
    | none => simp [hq] at hi
    | some i =>
      have hs : i.size = cs.length := by rw [hq] at hi; simpa [hl] using hi
      simp [Instr.loadAt, Instr.sureAddr, loadVar, Sem.run_bind, hagg, sizeOf, typeInfo, hq, hs, hl2, agg], hi⟩
theorem Ty.cell {P : Program} {T : Nat} (h : ∀ (W : World) (p : Addr) (v : Value), W.cell? p = some v → (Instr.loadAt T (.pointer (some p))).run P W = .ok v W) (hi : (P.info? T).map (·.size) = some 1) : Ty P T 1 one :=
  ⟨fun W p cs hc hl => by
    match cs, hl with
    | [v], _ => exact h W p v (hc 0 v rfl), hi⟩
theorem rmM {P : Prop} (h : P := by (with_reducible repeat (first | apply Rm.hd | apply Rm.tl)); fail_if_success (refine ?_)) : P := h
theorem putM {P : Prop} (h : P := by first | (simp only [Act.put, List.setIfInBounds_toArray, List.set_cons_zero, List.set_cons_succ]; first | (fail_if_success (refine ?_)) | rfl) | rfl) : P := h
theorem catM {P : Prop} (h : P := by first | (simp only [List.take_succ_cons, List.take_zero, List.drop_succ_cons, List.drop_zero, List.cons_append, List.nil_append, Nat.zero_add, Nat.reduceAdd, List.drop_nil, List.append_nil]; first | (fail_if_success (refine ?_)) | rfl) | rfl) : P := h
theorem cutM {P : Prop} (h : P := by first | (simp only [List.drop_succ_cons, List.drop_zero, List.take_succ_cons, List.take_zero, List.take_nil]; first | (fail_if_success (refine ?_)) | rfl) | rfl) : P := h
theorem valM {P : Prop} (h : P := by first | (simp only [agg, one, List.headD_cons]; first | (fail_if_success (refine ?_)) | rfl) | rfl) : P := h
theorem argM {P : Prop} (h : P := by (try simp only [List.map_toArray, List.map_cons, List.map_nil]); first | done | (go_simp; first | (fail_if_success (refine ?_)) | rfl) | rfl) : P := h
theorem evM {P : Prop} (h : P := by first | (go_simp; first | (fail_if_success (refine ?_)) | rfl) | rfl) : P := h
theorem celM {P : Prop} (h : P := by first | (simp only [Value.cells, List.toList_toArray]; first | (fail_if_success (refine ?_)) | rfl) | rfl) : P := h
theorem preM {P : Prop} (h : P := by (repeat' (first | exact True.intro | exact Aside0.out (by assumption) | exact (C_of H (by assumption)).out | exact (C_own H).out | exact (C_rdb H).out | exact (C_rdv H).out | exact C_lit H | exact (cap_own H).out | exact (cap_rdv H).out | exact C_none | exact Nat.le_of_ble_eq_true rfl | apply And.intro)); fail_if_success (refine ?_)) : P := h
theorem exM {P : Prop} (h : P := by (with_reducible repeat (first | apply Ex.nil | refine Ex.cons rmM ?_)); fail_if_success (refine ?_)) : P := h
theorem pkM {P : Prop} (h : P := by (with_reducible repeat (first | apply Pk.refl | apply Pk.nil | apply Pk.none | refine Pk.cons rmM ?_ | refine Pk.len rmM ?_ | refine Pk.rd rmM ?_ | refine Pk.rdl rmM ?_ | refine Pk.rdv rmM ?_ | apply Pk.skip)); fail_if_success (refine ?_)) : P := h
theorem C_none {α : Type} {d : Kd α} {W : World} : d.C W none 0 [] := ⟨rfl, Nat.zero_le _, fun h => absurd h (by decide)⟩
theorem C_of {α : Type} {d : Kd α} {w W : World} {L : List As} {A : Option Addr} {m : Nat} {xs : List α} (H : Aside0 (Sep w L W)) (h : Aside0 (d.C w A m xs)) : Aside0 (d.C W A m xs) := ⟨Kd.C_below h.out H.out.below⟩
theorem C_own {α : Type} {d : Kd α} {e m c : Nat} {w W : World} {L L' : List As} {A : Option Addr} {xs : List α} (H : Aside0 (Sep w L W)) (r : Rm (row d e (.slice A m c) xs) L L' := by exact rmM) : Aside0 (d.C W A m xs) := by
  have h := Kd.R_reads' (H.out.row r)
  exact ⟨h.1 ▸ h.2.2⟩
theorem C_rdv {α : Type} {d : Kd α} {m c : Nat} {w W : World} {L L' : List As} {A : Option Addr} {xs : List α} (H : Aside0 (Sep w L W)) (r : Rm (rdv d (.slice A m c) xs) L L' := by exact rmM) : Aside0 (d.C W A m xs) := by
  obtain ⟨S, _, h⟩ := (H.out.rm r).hd
  obtain ⟨A', n', c', he, hc, _⟩ := h W fun _ _ => rfl
  cases he
  exact ⟨hc⟩
theorem cap_rdv {α : Type} {d : Kd α} {m c : Nat} {w W : World} {L L' : List As} {A : Option Addr} {xs : List α} (H : Aside0 (Sep w L W)) (r : Rm (rdv d (.slice A m c) xs) L L' := by exact rmM) : Aside0 (xs.length ≤ c) := by
  obtain ⟨S, _, h⟩ := (H.out.rm r).hd
  obtain ⟨A', n', c', he, hc, hl⟩ := h W fun _ _ => rfl
  cases he
  exact ⟨hc.1 ▸ hl⟩
theorem cap_own {α : Type} {d : Kd α} {e m c : Nat} {w W : World} {L L' : List As} {A : Option Addr} {xs : List α} (H : Aside0 (Sep w L W)) (r : Rm (row d e (.slice A m c) xs) L L' := by exact rmM) : Aside0 (xs.length ≤ c) := by
  have h := Kd.R_reads' (H.out.row r)
  exact ⟨h.1 ▸ h.2.1⟩
inductive Ap (F : List As) : List As → List As → Prop
  | nil : Ap F [] F
  | cons {A : As} {l L : List As} : Ap F l L → Ap F (A :: l) (A :: L)
  | app {l : List As} : Ap F l (l ++ F)
theorem Ap.is {F l L : List As} (h : Ap F l L) : l ++ F = L := by
  induction h with
  | nil => rfl
  | cons _ ih => rw [List.cons_append, ih]
  | app => rfl
theorem apM {P : Prop} (h : P := by (with_reducible repeat (first | apply Ap.nil | apply Ap.cons | apply Ap.app)); fail_if_success (refine ?_)) : P := h
def Po (w : World) (val : (Nat → Option Addr × Nat) → Value) (L : (Nat → Option Addr × Nat) → List As) : Ending → World → Prop := fun e W => ∃ q, e = .returned (val q) ∧ Sep w (L q) W
class Con (P : Program) (fn : FuncId) {α : Type} (x : Option α) (r : α) (args : Array Value) (pre : outParam (World → Prop)) (val : outParam ((Nat → Option Addr × Nat) → Value)) (Lr : outParam ((Nat → Option Addr × Nat) → List As)) : Prop where
  c : ∀ w, pre w → x = some r → Calls P fn args w (Po w val Lr)
class ConW (P : Program) (fn : FuncId) {α : Type} (x : Option α) (r : α) (args : Array Value) (pre : outParam (World → World → Prop)) (Li : outParam (List As)) (val : outParam ((Nat → Option Addr × Nat) → Value)) (Lo : outParam ((Nat → Option Addr × Nat) → List As)) : Prop where
  c : ∀ (w0 : World) (L : List As) (w : World), Sep w0 (Li ++ L) w → pre w0 w → x = some r → Calls P fn args w (Po w0 val (fun q => Lo q ++ L))
def St (P : Program) (ops : Array Oper) (Q : Exit → Act → World → Prop) (o : Oper) (C : Act → World → Prop) (a : Act) (W : World) : Prop := ∀ K : Act → World → Prop, (∀ a w, C a w → K a w) → if Region.wanted o (yielded ops a.tmps) = true then Oper.wp P o a W K Q else K (a.put o.dst undef) W
section
variable {P : Program} {ops : Array Oper} {rest : List Oper} {a a' : Act} {Q : Exit → Act → World → Prop} {C : Act → World → Prop} {w W : World} {L L1 L2 : List As} {N : Option Tmp} {ty : TypeId} {pos : String} {af : Array Edge} {gd : Option (Nat × Bool)} {T g o n t : Nat} {f : List Value → Value} {cs cs' seg : List Value} {x i p : Operand} {u v : Value} {pt : Addr} {ob : Oper}
theorem st_list (h : St P ops Q ob (wpList P ops Q rest) a W) : wpList P ops Q (ob :: rest) a W := wpList_step h
theorem li_ld (h : St P ops Q ⟨N, .load T x, ty, pos, af, gd⟩ (wpList P ops Q rest) a W) : wpList P ops Q (⟨N, .load T x, ty, pos, af, gd⟩ :: rest) a W := st_list h
theorem li_st (h : St P ops Q ⟨N, .store T p x, ty, pos, af, gd⟩ (wpList P ops Q rest) a W) : wpList P ops Q (⟨N, .store T p x, ty, pos, af, gd⟩ :: rest) a W := st_list h
theorem li_box (h : St P ops Q ⟨N, .box T x, ty, pos, af, gd⟩ (wpList P ops Q rest) a W) : wpList P ops Q (⟨N, .box T x, ty, pos, af, gd⟩ :: rest) a W := st_list h
theorem li_al (h : St P ops Q ⟨N, .alloc T, ty, pos, af, gd⟩ (wpList P ops Q rest) a W) : wpList P ops Q (⟨N, .alloc T, ty, pos, af, gd⟩ :: rest) a W := st_list h
theorem li_ix (h : St P ops Q ⟨N, .indexAddr T x i, ty, pos, af, gd⟩ (wpList P ops Q rest) a W) : wpList P ops Q (⟨N, .indexAddr T x i, ty, pos, af, gd⟩ :: rest) a W := st_list h
theorem li_ca {fn : FuncId} {xs : Array Operand} {ts : Array TypeId} (h : St P ops Q ⟨N, .call { callee := .value (.func fn), args := xs, argTypes := ts }, ty, pos, af, gd⟩ (wpList P ops Q rest) a W) : wpList P ops Q (⟨N, .call { callee := .value (.func fn), args := xs, argTypes := ts }, ty, pos, af, gd⟩ :: rest) a W := st_list h
theorem li_ap {xs : Array Operand} {ts : Array TypeId} (h : St P ops Q ⟨N, .call { callee := .builtin .append, args := xs, argTypes := ts }, ty, pos, af, gd⟩ (wpList P ops Q rest) a W) : wpList P ops Q (⟨N, .call { callee := .builtin .append, args := xs, argTypes := ts }, ty, pos, af, gd⟩ :: rest) a W := st_list h
theorem li_bs {m : Nat} {xs : Array (Nat × Operand)} (h : St P ops Q ⟨N, .buildSlice T m xs, ty, pos, af, gd⟩ (wpList P ops Q rest) a W) : wpList P ops Q (⟨N, .buildSlice T m xs, ty, pos, af, gd⟩ :: rest) a W := st_list h
theorem li_mk (h : St P ops Q ⟨N, .makeSlice T x i, ty, pos, af, gd⟩ (wpList P ops Q rest) a W) : wpList P ops Q (⟨N, .makeSlice T x i, ty, pos, af, gd⟩ :: rest) a W := st_list h
theorem st_val {W1 : World} (hw : Region.wanted ob (yielded ops a.tmps) = true) (hr : (execOp a.eval ob).run P W = .ok (.value v) W1) (k : C (a.put ob.dst v) W1) : St P ops Q ob C a W := by
  intro K hK
  rw [if_pos hw]
  unfold Oper.wp
  rw [hr]
  exact hK _ _ k
theorem st_off (k : C a' W) (hw : Region.wanted ob (yielded ops a.tmps) = false := by rfl) (ha : a.put ob.dst undef = a' := by exact putM) : St P ops Q ob C a W := by
  intro K hK
  subst ha
  rw [if_neg (by rw [hw]; simp)]
  exact hK _ _ k
theorem range_of {W : World} {g t o n : Nat} {cs : List Value} (h : W.heap[g]? = some (.cells cs.toArray t (0, 0))) : Rng W ⟨g, o, none⟩ ((cs.drop o).take n) := by
  intro j v hj
  rw [Addr.add_mid, cell_of_row W g _ _ t (0, 0) h]
  obtain ⟨hl, he⟩ := List.getElem?_eq_some_iff.1 hj
  rw [List.length_take, List.length_drop] at hl
  rw [List.getElem_take, List.getElem_drop] at he
  simp only [List.getElem?_toArray]
  rw [List.getElem?_eq_getElem (by omega), he]
theorem ld_run [Ty P T n f] (hR : Rng W pt seg) (hx : a.eval x = .pointer (some pt)) (hl : seg.length = n) : (execOp a.eval ⟨N, .load T x, ty, pos, af, gd⟩).run P W = .ok (.value (f seg)) W := by
  unfold execOp
  simp only [hx, Sem.run_bind, Sem.run_pure, Result.andThen_ok, Ty.ld W pt _ hR hl]
theorem ld_ [Ty P T n f] (H : Aside0 (Sep w L W)) (k : C a' W)
    (hx : a.eval x = .pointer (some ⟨g, o, none⟩) := by rfl) (r : Rm (box g cs.toArray t) L L1 := by exact rmM) (hs : (cs.drop o).take n = seg := by exact cutM)
    (hl : seg.length = n := by rfl) (hv : f seg = v := by exact valM) (ha : a.put N v = a' := by exact putM)
    (hw : Region.wanted ⟨N, .load T x, ty, pos, af, gd⟩ (yielded ops a.tmps) = true := by rfl) : St P ops Q ⟨N, .load T x, ty, pos, af, gd⟩ C a W := by
  subst ha hv
  exact st_val hw (ld_run (hs ▸ range_of (H.out.box r)) hx hl) k
theorem rng_of {p : Addr} (H : Aside0 (Sep w L W)) (h : Rng w p cs) (m o : Nat) : Rng W (p.add o) ((cs.drop o).take m) := by
  intro j v hj
  obtain ⟨hl, he⟩ := List.getElem?_eq_some_iff.1 hj
  rw [List.length_take, List.length_drop] at hl
  rw [List.getElem_take, List.getElem_drop] at he
  have h1 : w.cell? (p.add (o + j)) = some v := h (o + j) v (by rw [List.getElem?_eq_getElem (by omega), he])
  have e : (p.add o).add j = p.add (o + j) := by unfold Addr.add; split <;> split <;> split <;> simp_all <;> omega
  rw [e]
  exact pw_cell_below H.out.below h1
theorem ldo_ [Ty P T n f] (H : Aside0 (Sep w L W)) (k : C a' W) (hx : a.eval x = .pointer (some pt) := by rfl) (hR : Aside0 (Rng w pt cs) := by with_reducible assumption) (hs : (cs.drop 0).take n = seg := by exact cutM)
    (hl : seg.length = n := by rfl) (hv : f seg = v := by exact valM) (ha : a.put N v = a' := by exact putM)
    (hw : Region.wanted ⟨N, .load T x, ty, pos, af, gd⟩ (yielded ops a.tmps) = true := by rfl) : St P ops Q ⟨N, .load T x, ty, pos, af, gd⟩ C a W := by
  subst ha hv
  exact st_val hw (ld_run (hs ▸ rng_of H hR.out n 0) hx hl) k
theorem ldp_ [Ty P T n f] (H : Aside0 (Sep w L W)) (k : C a' W) (hx : a.eval x = .pointer (some ⟨pt.block, pt.off + (o + 1), none⟩) := by rfl) (hR : Aside0 (Rng w pt cs) := by with_reducible assumption) (hs : (cs.drop (o + 1)).take n = seg := by exact cutM)
    (hl : seg.length = n := by rfl) (hv : f seg = v := by exact valM) (ha : a.put N v = a' := by exact putM)
    (hw : Region.wanted ⟨N, .load T x, ty, pos, af, gd⟩ (yielded ops a.tmps) = true := by rfl) : St P ops Q ⟨N, .load T x, ty, pos, af, gd⟩ C a W := by
  subst ha hv
  exact st_val hw (ld_run (hs ▸ rng_of H hR.out n (o + 1)) hx hl) k
theorem st_ [Ty P T n f] (H : Aside0 (Sep w L W)) (k : ∀ W', Aside0 (Sep w (box g cs'.toArray t :: L1) W') → C a W')
    (hp : a.eval p = .pointer (some ⟨g, o, none⟩) := by rfl) (r : Rm (box g cs.toArray t) L L1 := by exact rmM) (hx : a.eval x = u := by exact evM) (hu : u.cells.toList = seg := by exact celM) (hl : seg.length = n := by rfl)
    (hc : cs.take o ++ seg ++ cs.drop (o + n) = cs' := by exact catM) (hf : o + n ≤ cs.length := by exact Nat.le_of_ble_eq_true rfl) (h1 : ∀ q ∈ seg, q.oneCell' = true := by simp [Value.oneCell'])
    (hw : Region.wanted ⟨none, .store T p x, ty, pos, af, gd⟩ (yielded ops a.tmps) = true := by rfl) : St P ops Q ⟨none, .store T p x, ty, pos, af, gd⟩ C a W := by
  subst hl hc
  intro K hK
  rw [if_pos hw]
  have hg := H.out.box r
  obtain ⟨cur', h3, _, h5⟩ := setCells_row seg o W cs.toArray hg (by simpa using hf)
  obtain ⟨s1, s2, s3, s4⟩ := setCells_same g seg o W
  unfold Oper.wp execOp
  simp only [hp, hx, Sem.run_bind, Sem.run_pure, Result.andThen_ok, run_store_run T u seg hg hu (Ty.sz (f := f)) (by simpa using hf) h1]
  refine hK _ _ (k _ ⟨(H.out.rm r).upd (.box ?_ ⟨s1, s2, s3, Nat.le_of_eq s4.symm, fun i _ hi => setCells_far seg o i hi⟩)⟩)
  rw [h3, ← Array.toArray_toList (xs := cur'), h5]
theorem bx_ {a2 : Nat → Act} (H : Aside0 (Sep w L W)) (k : ∀ g W', Aside0 (Sep w (box g cs.toArray t :: L) W') → C (a2 g) W')
    (hrun : (execOp a.eval ob).run P W = .ok (.value (.pointer (some ⟨W.heap.size, 0, none⟩))) (W.alloc (.cells cs.toArray t (0, 0)))) (ha : ∀ g, a.put ob.dst (.pointer (some ⟨g, 0, none⟩)) = a2 g)
    (hw : Region.wanted ob (yielded ops a.tmps) = true) : St P ops Q ob C a W :=
  st_val hw hrun (by rw [ha]; exact k _ _ ⟨H.out.new rfl (blk_new W _) (below_alloc (Below.refl _ _) _)⟩)
theorem bxb_ {a2 : Nat → Act} (H : Aside0 (Sep w L W)) (k : ∀ g W', Aside0 (Sep w (box g cs.toArray t :: L) W') → C (a2 g) W')
    (hrun : (execOp a.eval ⟨N, .box T x, ty, pos, af, gd⟩).run P W = .ok (.value (.pointer (some ⟨W.heap.size, 0, none⟩))) (W.alloc (.cells cs.toArray t (0, 0))) := by go_simp; first | (fail_if_success (refine ?_)) | rfl)
    (ha : ∀ g, a.put N (.pointer (some ⟨g, 0, none⟩)) = a2 g := by intro g; exact putM) (hw : Region.wanted ⟨N, .box T x, ty, pos, af, gd⟩ (yielded ops a.tmps) = true := by rfl) : St P ops Q ⟨N, .box T x, ty, pos, af, gd⟩ C a W := bx_ H k hrun ha hw
theorem bxa_ {a2 : Nat → Act} (H : Aside0 (Sep w L W)) (k : ∀ g W', Aside0 (Sep w (box g cs.toArray t :: L) W') → C (a2 g) W')
    (hrun : (execOp a.eval ⟨N, .alloc T, ty, pos, af, gd⟩).run P W = .ok (.value (.pointer (some ⟨W.heap.size, 0, none⟩))) (W.alloc (.cells cs.toArray t (0, 0))) := by go_simp; first | (fail_if_success (refine ?_)) | rfl)
    (ha : ∀ g, a.put N (.pointer (some ⟨g, 0, none⟩)) = a2 g := by intro g; exact putM) (hw : Region.wanted ⟨N, .alloc T, ty, pos, af, gd⟩ (yielded ops a.tmps) = true := by rfl) : St P ops Q ⟨N, .alloc T, ty, pos, af, gd⟩ C a W := bx_ H k hrun ha hw
theorem ca_ {fn : FuncId} {xs : Array Operand} {ts : Array TypeId} {args : Array Value} {val : (Nat → Option Addr × Nat) → Value} {Lr L2 : (Nat → Option Addr × Nat) → List As} {a2 : (Nat → Option Addr × Nat) → Act}
    (H : Aside0 (Sep w L W)) (c : Calls P fn args W (Po W val Lr)) (k : ∀ q W', Aside0 (Sep w (L2 q) W') → C (a2 q) W') (hargs : xs.map a.eval = args) (hL : ∀ q, Lr q ++ L = L2 q) (ha : ∀ q, a.put N (val q) = a2 q) (hok : okFn P fn = true)
    (hw : Region.wanted ⟨N, .call { callee := .value (.func fn), args := xs, argTypes := ts }, ty, pos, af, gd⟩ (yielded ops a.tmps) = true) : St P ops Q ⟨N, .call { callee := .value (.func fn), args := xs, argTypes := ts }, ty, pos, af, gd⟩ C a W := by
  obtain ⟨f', h1, h2, h3⟩ := okFn_is hok
  intro K hK
  rw [if_pos hw]
  have he := enters_ h1 h2 h3 args W
  have hrun : (execOp a.eval ⟨N, .call { callee := .value (.func fn), args := xs, argTypes := ts }, ty, pos, af, gd⟩).run P W = .ok (.enter fn args) W := by
    unfold execOp
    simp [resolve, Deferred.ofValue, invoke, Act.eval, hargs, he]
  unfold Oper.wp
  rw [hrun, Oper.upon_enter]
  refine c.mono ?_
  rintro e W' ⟨q, rfl, hs⟩
  refine hK _ _ ?_
  show C (a.put N (val q)) W'
  rw [ha]
  exact k q W' ⟨hL q ▸ H.out.app hs⟩
theorem cc_ {fn : FuncId} {xs : Array Operand} {ts : Array TypeId} {α β : Type} {X : Option α} {F : α → Option β} {R : β} {args : Array Value} {pre : α → World → Prop} {val : α → (Nat → Option Addr × Nat) → Value} {Lr L2 : α → (Nat → Option Addr × Nat) → List As} {a2 : α → (Nat → Option Addr × Nat) → Act}
    (H : Aside0 (Sep w L W)) (E : Aside0 (X.bind F = some R)) (k : ∀ r q W', Aside0 (Sep w (L2 r q) W') → Aside0 (F r = some R) → C (a2 r q) W')
    (hargs : xs.map a.eval = args := by exact argM) (I : ∀ r, Con P fn X r args (pre r) (val r) (Lr r) := by intro r; infer_instance) (hp : ∀ r, pre r W := by intro _; exact preM)
    (hL : ∀ r q, Ap L (Lr r q) (L2 r q) := by intro r q; exact apM) (ha : ∀ r q, a.put N (val r q) = a2 r q := by intro r q; exact putM) (hok : okFn P fn = true := by kernel_rfl)
    (hw : Region.wanted ⟨N, .call { callee := .value (.func fn), args := xs, argTypes := ts }, ty, pos, af, gd⟩ (yielded ops a.tmps) = true := by rfl) : St P ops Q ⟨N, .call { callee := .value (.func fn), args := xs, argTypes := ts }, ty, pos, af, gd⟩ C a W := by
  obtain ⟨r, h1, h2⟩ := Option.bind_eq_some_iff.1 E.out
  exact ca_ H ((I r).c W (hp r) h1) (fun q W' H => k r q W' H ⟨h2⟩) hargs (fun q => (hL r q).is) (ha r) hok hw
theorem cw_ {fn : FuncId} {xs : Array Operand} {ts : Array TypeId} {α β : Type} {X : Option α} {F : α → Option β} {R : β} {args : Array Value} {pre : α → World → World → Prop} {Li : α → List As} {val : α → (Nat → Option Addr × Nat) → Value} {Lo L2 : α → (Nat → Option Addr × Nat) → List As} {Lr : α → List As} {a2 : α → (Nat → Option Addr × Nat) → Act}
    (H : Aside0 (Sep w L W)) (E : Aside0 (X.bind F = some R)) (k : ∀ r q W', Aside0 (Sep w (L2 r q) W') → Aside0 (F r = some R) → C (a2 r q) W')
    (hargs : xs.map a.eval = args := by exact argM) (I : ∀ r, ConW P fn X r args (pre r) (Li r) (val r) (Lo r) := by intro r; infer_instance) (hp : ∀ r, pre r w W := by intro _; exact preM) (hx : ∀ r, Ex (Li r) L (Lr r) := by intro r; exact exM)
    (hL : ∀ r q, Ap (Lr r) (Lo r q) (L2 r q) := by intro r q; exact apM) (ha : ∀ r q, a.put N (val r q) = a2 r q := by intro r q; exact putM) (hok : okFn P fn = true := by kernel_rfl)
    (hw : Region.wanted ⟨N, .call { callee := .value (.func fn), args := xs, argTypes := ts }, ty, pos, af, gd⟩ (yielded ops a.tmps) = true := by rfl) : St P ops Q ⟨N, .call { callee := .value (.func fn), args := xs, argTypes := ts }, ty, pos, af, gd⟩ C a W := by
  obtain ⟨r, h1, h2⟩ := Option.bind_eq_some_iff.1 E.out
  obtain ⟨f', g1, g2, g3⟩ := okFn_is hok
  intro K hK
  rw [if_pos hw]
  have he := enters_ g1 g2 g3 args W
  have hrun : (execOp a.eval ⟨N, .call { callee := .value (.func fn), args := xs, argTypes := ts }, ty, pos, af, gd⟩).run P W = .ok (.enter fn args) W := by
    unfold execOp
    simp [resolve, Deferred.ofValue, invoke, Act.eval, hargs, he]
  unfold Oper.wp
  rw [hrun, Oper.upon_enter]
  refine ((I r).c w (Lr r) W (H.out.ex (hx r)) (hp r) h1).mono ?_
  rintro e W' ⟨q, rfl, hs⟩
  refine hK _ _ ?_
  show C (a.put N (val r q)) W'
  rw [ha]
  exact k r q W' ⟨(hL r q).is ▸ hs⟩ ⟨h2⟩
theorem below_ {fn : FuncId} {args : Array Value} (c : Calls P fn args W fun e w' => e = .returned v ∧ Below W.heap.size W w') : Calls P fn args W (Po W (fun _ => v) (fun _ => [])) :=
  c.mono fun _ _ h => ⟨fun _ => (none, 0), h.1, (Sep.of h.2)⟩
theorem ix_run2 {m c e z b : Nat} {zv : Value} {A : Option Addr} {k : IntKind} {j : Int} {α : Type} {d : Kd α} {xs : List α} {rdf : List α → Int → α} {cells : α → (Nat → Option Addr × Nat) → List Value} {fact : α → (Nat → Option Addr × Nat) → World → Prop} [Sl P T e z b zv] [O : Opn d rdf cells fact]
    (hx : a.eval x = .slice A m c) (hi : a.eval i = .int k j) (hC : d.C w A m xs) (hz : d.sz = z) (h0 : 0 ≤ j) (h1 : j < (xs.length : Int)) : ∃ p q, Rng w p (cells (rdf xs j) q) ∧ fact (rdf xs j) q w ∧ ∀ W, (execOp a.eval ⟨N, .indexAddr T x i, ty, pos, af, gd⟩).run P W = .ok (.value (.pointer (some p))) W := by
  have hm := hC.1
  obtain ⟨ad, he, hc⟩ := hC.2.2 (by omega)
  have h2 := O.rd xs j h0 h1
  obtain ⟨cl, hcl, hK, hcell⟩ := hc _ _ h2
  obtain ⟨q, rfl, hf⟩ := O.k hK
  refine ⟨ad.add (j.toNat * d.sz), q, fun i2 u hu => ?_, hf, ?_⟩
  · have e2 : (ad.add (j.toNat * d.sz)).add i2 = ad.add (j.toNat * d.sz + i2) := by unfold Addr.add; split <;> split <;> split <;> simp_all <;> omega
    rw [e2]
    exact hcell i2 u hu
  · subst he
    have hu : P.underlying T = some (.slice (P.elem T)) := by have := Sl.u (P := P) (T := T); simp [Program.elem, this]
    have hel : P.elem T = e := by have := Sl.u (P := P) (T := T); simp [Program.elem, this]
    obtain ⟨i0, hi0, hzz⟩ := Option.map_eq_some_iff.1 (Sl.i (P := P) (T := T))
    simp only [Prod.mk.injEq] at hzz
    intro W
    unfold execOp
    have hlt : 0 ≤ j ∧ j < (m : Int) := ⟨h0, by omega⟩
    simp [hx, hi, run_indexAt_slice (h := hu), hel, sizeOf, typeInfo, hi0, hzz.2.1, hz, hlt]
end
end Go.Proofs.Ytlpghnhcgljhoaa.SP
end
section
namespace Go.Proofs.Ytlpghnhcgljhoaa.SP
open Go.RowKit Go.Proofs.YtlpghnhcgljhoaaW.PrintWords Go.Proofs.YtlpghnhcgljhoaaW.PrintLast Go.Proofs.Ytlpghnhcgljhoaa.LK Go.Proofs.YtlpghnhcgljhoaaW.PrintMore
set_option linter.unusedVariables false
theorem idxM {P : Prop} (h : P := by first | (with_reducible assumption) | assumption | exact decide_eq_true (by omega)) : P := h
section
variable {P : Program} {ops : Array Oper} {rest : List Oper} {a a' : Act} {Q : Exit → Act → World → Prop} {C : Act → World → Prop} {w W : World} {L L1 L2 : List As} {N : Option Tmp} {ty : TypeId} {pos : String} {af : Array Edge} {gd : Option (Nat × Bool)} {T g o n t e z b m c : Nat} {zv : Value} {f : List Value → Value} {cs cs' seg : List Value} {x i p : Operand} {u v : Value} {pt : Addr} {ob : Oper} {A : Option Addr} {kk : IntKind} {j : Int}
variable {α : Type} {d : Kd α} {xs ys : List α}
theorem ix_ {a2 : Addr → Act} {rdf : List α → Int → α} {cells : α → (Nat → Option Addr × Nat) → List Value} {fact : α → (Nat → Option Addr × Nat) → World → Prop} {cl : (Nat → Option Addr × Nat) → List Value} {fa : (Nat → Option Addr × Nat) → Prop} [Sl P T e z b zv] (H : Aside0 (Sep w L W)) (k : ∀ p q, Aside0 (Rng w p (cl q)) → Aside0 (fa q) → C (a2 p) W)
    (hx : a.eval x = .slice A m c := by rfl) (hi : a.eval i = .int kk j := by rfl) (hC : Aside0 (d.C w A m xs) := by with_reducible assumption) (O : Opn d rdf cells fact := by infer_instance) (h0 : decide (0 ≤ j) = true := by exact idxM) (h1 : decide (j < (xs.length : Int)) = true := by exact idxM)
    (hz : d.sz = z := by rfl) (hcl : ∀ q, cells (rdf xs j) q = cl q := by intro q; rfl) (hfa : ∀ q, fact (rdf xs j) q w = fa q := by intro q; rfl) (ha : ∀ p : Addr, a.put N (.pointer (some p)) = a2 p := by intro p; exact putM)
    (hw : Region.wanted ⟨N, .indexAddr T x i, ty, pos, af, gd⟩ (yielded ops a.tmps) = true := by rfl) : St P ops Q ⟨N, .indexAddr T x i, ty, pos, af, gd⟩ C a W := by
  obtain ⟨p, q, h2, h3, h4⟩ := ix_run2 (P := P) (T := T) (N := N) (ty := ty) (pos := pos) (af := af) (gd := gd) (O := O) hx hi hC.out hz (of_decide_eq_true h0) (of_decide_eq_true h1)
  refine st_val hw (h4 W) ?_
  rw [ha]
  exact k p q ⟨hcl q ▸ h2⟩ ⟨hfa q ▸ h3⟩
instance {k : IntKind} : Opn (Kd.int k) rd (fun x _ => [.int k x]) (fun _ _ _ => True) :=
  ⟨fun xs i h0 h1 => by unfold rd; rw [List.getD_eq_getElem?_getD, List.getElem?_eq_getElem (by omega)]; rfl, fun {w x c} h => ⟨fun _ => (none, 0), h, trivial⟩⟩
theorem noFT {G : Prop} (h : false = true) : G := by cases h
theorem noTF {G : Prop} (h : true = false) : G := by cases h
theorem noO2 {G : Prop} {a b : Bool} (h : a = true ∨ b = true) (k : a = false ∧ b = false) : G := by rcases h with h | h <;> simp_all
theorem noO3 {G : Prop} {a b c : Bool} (h : a = true ∨ b = true ∨ c = true) (k : a = false ∧ b = false ∧ c = false) : G := by rcases h with h | h | h <;> simp_all
theorem noO4 {G : Prop} {a b c d : Bool} (h : a = true ∨ b = true ∨ c = true ∨ d = true) (k : a = false ∧ b = false ∧ c = false ∧ d = false) : G := by rcases h with h | h | h | h <;> simp_all
theorem noFc {G : Prop} {b : Bool} (c : b = false) (h : b = true) : G := by rw [c] at h; cases h
theorem noTc {G : Prop} {b : Bool} (c : b = true) (h : b = false) : G := by rw [c] at h; cases h
theorem noNT {G : Prop} (h : ¬ true = true) : G := absurd rfl h
theorem esN {G : Prop} {α : Type} {r : α} (E : Aside0 ((none : Option α) = some r)) : G := by cases E.out
theorem esT {G : Prop} {α : Type} {r : α} {x y : Option α} (E : Aside0 ((if true = true then x else y) = some r)) (k : Aside0 (x = some r) → G) : G := k ⟨(if_pos rfl).symm.trans E.out⟩
theorem esF {G : Prop} {α : Type} {r : α} {x y : Option α} (E : Aside0 ((if false = true then x else y) = some r)) (k : Aside0 (y = some r) → G) : G := k ⟨(if_neg (by simp)).symm.trans E.out⟩
theorem esB {G : Prop} {α : Type} {r : α} {b : Bool} {x y : Option α} (E : Aside0 ((if b = true then x else y) = some r)) (h1 : b = true → Aside0 (x = some r) → G) (h2 : b = false → Aside0 (y = some r) → G) : G := by
  cases b
  · exact h2 rfl ⟨(if_neg (by simp)).symm.trans E.out⟩
  · exact h1 rfl ⟨(if_pos rfl).symm.trans E.out⟩
theorem esBN {G : Prop} {α : Type} {r : α} {b c : Bool} {x y : Option α} (E : Aside0 ((if (b != c) = true then x else y) = some r)) (h1 : (b != c) = true → ((!b) == c) = true → (b == c) = false → Aside0 (x = some r) → G) (h2 : (b != c) = false → ((!b) == c) = false → (b == c) = true → Aside0 (y = some r) → G) : G := by
  revert E h1 h2
  cases b <;> cases c <;> intro E h1 h2
  · exact h2 rfl rfl rfl ⟨E.out⟩
  · exact h1 rfl rfl rfl ⟨E.out⟩
  · exact h1 rfl rfl rfl ⟨E.out⟩
  · exact h2 rfl rfl rfl ⟨E.out⟩
theorem esZ {G : Prop} {α : Type} {r : α} {n : Int} {x : Option α} (E : Aside0 ((if 0 ≤ n then x else none) = some r)) (h1 : decide (0 ≤ n) = true → 0 ≤ n → Aside0 (x = some r) → G) : G := by
  by_cases c : 0 ≤ n
  · exact h1 (decide_eq_true c) c ⟨(if_pos c).symm.trans E.out⟩
  · have := (if_neg c).symm.trans E.out
    cases this
theorem esI {G : Prop} {α : Type} {r : α} {m n : Int} {x y : Option α} (E : Aside0 ((if m = n then x else y) = some r)) (h1 : (m == n) = true → (m != n) = false → Aside0 (x = some r) → G) (h2 : (m == n) = false → ((m != n) = true ∧ ¬ m = n) → Aside0 (y = some r) → G) : G := by
  by_cases c : m = n
  · exact h1 (by simpa using c) (by simpa using c) ⟨(if_pos c).symm.trans E.out⟩
  · exact h2 (by simpa using c) ⟨by simpa using c, c⟩ ⟨(if_neg c).symm.trans E.out⟩
theorem esL {G : Prop} {α : Type} {r : α} {m n : Int} {x y : Option α} (E : Aside0 ((if m < n then x else y) = some r)) (h1 : decide (m < n) = true → Aside0 (x = some r) → G) (h2 : decide (m < n) = false → Aside0 (y = some r) → G) : G := by
  by_cases c : m < n
  · exact h1 (decide_eq_true c) ⟨(if_pos c).symm.trans E.out⟩
  · exact h2 (decide_eq_false c) ⟨(if_neg c).symm.trans E.out⟩
theorem esE {G : Prop} {α : Type} {r : α} {m n : Int} {x y : Option α} (E : Aside0 ((if m ≤ n then x else y) = some r)) (h1 : decide (m ≤ n) = true → Aside0 (x = some r) → G) (h2 : decide (m ≤ n) = false → Aside0 (y = some r) → G) : G := by
  by_cases c : m ≤ n
  · exact h1 (decide_eq_true c) ⟨(if_pos c).symm.trans E.out⟩
  · exact h2 (decide_eq_false c) ⟨(if_neg c).symm.trans E.out⟩
theorem esM {G : Prop} {α : Type} {r : α} {m n : Nat} {x y : Option α} (E : Aside0 ((if m < n then x else y) = some r)) (h1 : Aside0 (m < n) → Aside0 (x = some r) → G) (h2 : Aside0 (¬ m < n) → Aside0 (y = some r) → G) : G := by
  by_cases c : m < n
  · exact h1 ⟨c⟩ ⟨(if_pos c).symm.trans E.out⟩
  · exact h2 ⟨c⟩ ⟨(if_neg c).symm.trans E.out⟩
theorem esDL {G : Prop} {α : Type} {r : α} {m n : Int} {x y : Option α} (E : Aside0 ((if decide (m < n) = true then x else y) = some r)) (h1 : decide (m < n) = true → Aside0 (x = some r) → G) (h2 : decide (m < n) = false → Aside0 (y = some r) → G) : G := esB E h1 h2
theorem esDE {G : Prop} {α : Type} {r : α} {m n : Int} {x y : Option α} (E : Aside0 ((if decide (m ≤ n) = true then x else y) = some r)) (h1 : decide (m ≤ n) = true → Aside0 (x = some r) → G) (h2 : decide (m ≤ n) = false → Aside0 (y = some r) → G) : G := esB E h1 h2
theorem esDI {G : Prop} {α : Type} {r : α} {m n : Int} {x y : Option α} (E : Aside0 ((if decide (m = n) = true then x else y) = some r)) (h1 : (m == n) = true → (m != n) = false → Aside0 (x = some r) → G) (h2 : (m == n) = false → ((m != n) = true ∧ ¬ m = n) → Aside0 (y = some r) → G) : G := by
  by_cases c : m = n
  · exact h1 (by simpa using c) (by simpa using c) ⟨(if_pos (decide_eq_true c)).symm.trans E.out⟩
  · exact h2 (by simpa using c) ⟨by simpa using c, c⟩ ⟨(if_neg (by simpa using c)).symm.trans E.out⟩
theorem fs_ {p q : Prop} (F : Aside0 (p ∧ q)) : Aside0 p ∧ Aside0 q := ⟨⟨F.out.1⟩, ⟨F.out.2⟩⟩
theorem esP {G : Prop} {α : Type} {r : α} {c : Prop} [Decidable c] {x y : Option α} (E : Aside0 ((if c then x else y) = some r)) (h1 : decide c = true → Aside0 (x = some r) → G) (h2 : decide c = false → Aside0 (y = some r) → G) : G := by
  by_cases h : c
  · exact h1 (decide_eq_true h) ⟨(if_pos h).symm.trans E.out⟩
  · exact h2 (decide_eq_false h) ⟨(if_neg h).symm.trans E.out⟩
theorem esQ {G : Prop} {α : Type} {r : α} {a b : List UInt8} {x y : Option α} (E : Aside0 ((if a = b then x else y) = some r)) (h1 : (a == b) = true → (!(a == b)) = false → Aside0 (x = some r) → G) (h2 : (a == b) = false → (!(a == b)) = true → Aside0 (y = some r) → G) : G := by
  by_cases c : a = b
  · exact h1 (by simpa using c) (by simpa using c) ⟨(if_pos c).symm.trans E.out⟩
  · exact h2 (by simpa using c) (by simpa using c) ⟨(if_neg c).symm.trans E.out⟩
theorem esV {G : Prop} {α β : Type} {r : β} {v : α} {F : α → Option β} (E : Aside0 ((some v).bind F = some r)) (k : Aside0 (F v = some r) → G) : G := k ⟨E.out⟩
theorem gBd {G : Prop} {α β : Type} {r : β} {X : Option α} {F : α → Option β} (E : Aside0 (X.bind F = some r)) (h : G) : G := h
theorem gSm {G : Prop} {β : Type} {r v : β} (E : Aside0 (some v = some r)) (h : G) : G := h
def sel (l : List (Option Addr × Nat)) (i : Nat) : Option Addr × Nat := l.getD i (none, 0)
theorem selM {P : Prop} (h : P := by first | (simp only [sel, List.getD_cons_zero, List.getD_cons_succ, List.getD_nil, List.length_nil, List.length_cons, Nat.zero_add, Nat.reduceAdd]; first | (fail_if_success (refine ?_)) | rfl) | rfl) : P := h
theorem vvM {P : Prop} (h : P := by (repeat' (first | apply Vv.same | exact Vv.row (by exact rmM) | exact Vv.rdv (by exact rmM) | (refine Vv.agg ?_ (by rfl)) | (refine Vv.tup ?_ (by rfl)) | apply Vl.nil | apply Vl.cons)); fail_if_success (refine ?_)) : P := h
theorem po_ {val : (Nat → Option Addr × Nat) → Value} {Lv : (Nat → Option Addr × Nat) → List As} {en : Ending} {Lw : List As} {v v' : Value} (q : Nat → Option Addr × Nat) (H : Aside0 (Sep w L W)) (he : en = .returned v := by rfl) (hq : val q = v' := by exact selM) (hv : Vv L v v' := by exact vvM) (hL : Lv q = Lw := by exact selM) (hp : Pk L Lw := by exact pkM) : Po w val Lv en W := by
  refine ⟨q, ?_, hL ▸ H.out.pk hp⟩
  rw [he, hq, hv.eq H.out]
theorem pos_ {val : (Nat → Option Addr × Nat) → Value} {Lv : (Nat → Option Addr × Nat) → List As} {e : Ending} {Lw : List As} (H : Aside0 (Sep w L W)) (he : e = .returned (val fun _ => (none, 0)) := by first | rfl | (simp; fail_if_success (refine ?_)) | (simp [*]; fail_if_success (refine ?_))) (hL : Lv (fun _ => (none, 0)) = Lw := by exact selM) (hp : Pk L Lw := by exact pkM) : Po w val Lv e W := ⟨_, he, hL ▸ H.out.pk hp⟩
theorem poM {G : Prop} (h : G := by first | exact po_ (sel []) H | exact po_ (sel [(_, _)]) H | exact po_ (sel [(_, _), (_, _)]) H | exact po_ (sel [(_, _), (_, _), (_, _)]) H | exact po_ (sel [(_, _), (_, _), (_, _), (_, _)]) H | exact po_ (sel [(_, _), (_, _), (_, _), (_, _), (_, _)]) H | exact po_ (sel [(_, _), (_, _), (_, _), (_, _), (_, _), (_, _)]) H | exact pos_ H | exact po_ (sel [(none, _)]) H) : G := h
theorem res_run [Ty P T n f] {fn : Func} {tmps : Array Value} {q : Tmp} (h : fn.results = #[.cell q T]) (H : Aside0 (Sep w L W)) (hp : tmps.getD q undef = .pointer (some ⟨g, 0, none⟩)) (r : Rm (box g cs.toArray t) L L1) (hl : cs.length = n) (hv : f cs = v) : (results fn tmps).run P W = .ok v W := by
  have hp' : tmps[q]?.getD undef = .pointer (some ⟨g, 0, none⟩) := by simpa using hp
  have h1 := Ty.ld (P := P) (T := T) (f := f) W ⟨g, 0, none⟩ cs (by have := range_of (o := 0) (n := cs.length) (H.out.box r); simpa using this) hl
  simp only [Instr.loadAt, Instr.sureAddr, Sem.run_bind, Sem.run_pure, Result.andThen_ok] at h1
  simp [results, h, hp', asAddr, h1, hv]
theorem resM {fn : Func} {R : Ending → World → Prop} (H : Aside0 (Sep w L W)) {q : Tmp} (hk : R (.returned v) W) (hd : a.defers = [] := by rfl) (h : fn.results = #[.cell q T] := by rfl) (I : Ty P T n f := by infer_instance) (hp : a.tmps.getD q undef = .pointer (some ⟨g, 0, none⟩) := by rfl) (r : Rm (box g cs.toArray t) L L1 := by exact rmM) (hl : cs.length = n := by rfl) (hv : f cs = v := by exact valM) : bodyPost P fn R .ret a W :=
  bodyPost_ret (res_run (f := f) (n := n) h H hp r hl hv) hd hk
theorem relM {G : Prop} (h : G := by (repeat' (first | exact E | exact H | exact rfl | exact Aside0.mk (Nat.le_refl _) | exact Aside0.mk (by omega) | exact Aside0.mk (Sep.pk pkM H.out) | apply And.intro | apply Exists.intro)); fail_if_success (refine ?_)) : G := h
end
end Go.Proofs.Ytlpghnhcgljhoaa.SP
end
section
namespace Go.Proofs.Ytlpghnhcgljhoaa.SP
open Go.RowKit Go.Proofs.YtlpghnhcgljhoaaW.PrintWords Go.Proofs.YtlpghnhcgljhoaaW.PrintLast Go.Proofs.Ytlpghnhcgljhoaa.LK Go.Proofs.YtlpghnhcgljhoaaW.PrintMore
set_option linter.unusedVariables false
def bits (n m : Nat) : Array Bool := ((List.range n).map m.testBit).toArray
inductive Bo : List As → List As → Prop
  | nil {L : List As} : Bo L []
  | box {g t : Nat} {cs : Array Value} {L L' : List As} : Bo L L' → Bo (SP.box g cs t :: L) (SP.box g cs t :: L')
  | skip {A : As} {L L' : List As} : Bo L L' → Bo (A :: L) L'
theorem boM {P : Prop} (h : P := by (with_reducible repeat (first | apply Bo.box | apply Bo.skip | apply Bo.nil)); fail_if_success (refine ?_)) : P := h
theorem litM {P : Prop} (h : P := by first | (simp only [Nat.reducePow, Nat.reduceAdd]; fail_if_success (refine ?_)) | (simp only [Nat.reducePow, Nat.reduceAdd]; rfl)) : P := h
def nthO : List Oper → Nat → Option Oper
  | [], _ => none
  | o :: _, 0 => some o
  | _ :: l, n + 1 => nthO l n
theorem nthO_eq : ∀ (l : List Oper) (n : Nat), nthO l n = l[n]?
  | [], _ => by simp [nthO]
  | _ :: _, 0 => rfl
  | _ :: l, n + 1 => by simp [nthO, nthO_eq l n]
theorem nthO_is {ops : Array Oper} {n : Nat} {o : Oper} (h : nthO ops.toList n = some o) : ops[n]? = some o := by rw [nthO_eq] at h; simpa using h
def Tk (P : Program) (ops : Array Oper) (S : World → Prop) (o : Oper) (a : Act) (Kn : Act → Prop) : Prop := ∃ v, YieldsIf P ops S o v a ∧ Kn (a.put o.dst v)
section
variable {P : Program} {ops : Array Oper} {rest : List Oper} {a a' : Act} {Q : Exit → Act → World → Prop} {S : World → Prop} {ds : List Nat} {w W : World} {L L0 L1 : List As} {N : Option Tmp} {ty : TypeId} {pos : String} {af : Array Edge} {gd : Option (Nat × Bool)} {T g o n t e z b m m' fuel j c : Nat} {zv : Value} {f : List Value → Value} {cs cs' seg : List Value} {x i p : Operand} {u v : Value} {pt : Addr} {ob : Oper}
variable {Kn : Act → Prop}
theorem tk_off (k : Kn a') (hw : Region.wanted ob (yielded ops a.tmps) = false := by rfl) (ha : a.put ob.dst undef = a' := by exact putM) : Tk P ops S ob a Kn := ⟨_, .inr ⟨hw, rfl⟩, ha ▸ k⟩
theorem wrE (x : Int) : IntKind.i64.wrap x = wrap64 x := by rw [IntKind.wrap_i64]; unfold wrap64; rfl
theorem wrM {u v : Value} (h : u = v := by first | (simp only [wrE, IntKind.wrap_u32, IntKind.wrap_u8, IntKind.wrap_u64]; with_reducible rfl) | (with_reducible rfl)) : u = v := h
theorem ifN1 {x y : Int} {w : World} : (if x = y then Result.ok (Next.value (Value.bool false)) w else Result.ok (Next.value (Value.bool true)) w) = Result.ok (Next.value (Value.bool (!(x == y)))) w := by by_cases h : x = y <;> simp [h]
theorem ifN2 {x y : Int} {b : Bool} {w : World} : (if x = y then Result.ok (Next.value (Value.bool b)) w else Result.ok (Next.value (Value.bool true)) w) = Result.ok (Next.value (Value.bool (!(x == y) || b))) w := by by_cases h : x = y <;> simp [h]
theorem ifE1 {x y : Int} {w : World} : (if x = y then Result.ok (Next.value (Value.bool true)) w else Result.ok (Next.value (Value.bool false)) w) = Result.ok (Next.value (Value.bool (x == y))) w := by by_cases h : x = y <;> simp [h]
theorem ifE2 {x y : Int} {b : Bool} {w : World} : (if x = y then Result.ok (Next.value (Value.bool b)) w else Result.ok (Next.value (Value.bool false)) w) = Result.ok (Next.value (Value.bool (x == y && b))) w := by by_cases h : x = y <;> simp [h]
theorem tk_pu {v' : Value} (k : Kn a') (hr : ∀ w, (execOp a.eval ob).run P w = .ok (.value v') w := by intro w; go_simp; first | (fail_if_success (refine ?_)) | (with_reducible rfl) | (simp only [ifN1, ifE1]; (try simp only [ifN2, ifE2]); first | (fail_if_success (refine ?_)) | rfl) | rfl) (hv : v' = v := by exact wrM) (ha : a.put ob.dst v = a' := by exact putM) (hw : Region.wanted ob (yielded ops a.tmps) = true := by rfl) : Tk P ops S ob a Kn := ⟨_, .inl ⟨hw, fun w _ => hv ▸ hr w⟩, ha ▸ k⟩
theorem tk_ld [Ty P T n f] (k : Kn a') (hx : a.eval x = .pointer (some ⟨g, o, none⟩) := by rfl) (r : Rm (box g cs.toArray t) L0 L1 := by exact rmM) (hs : (cs.drop o).take n = seg := by exact cutM)
    (hl : seg.length = n := by rfl) (hv : f seg = v := by exact valM) (ha : a.put N v = a' := by exact putM) (hw : Region.wanted ⟨N, .load T x, ty, pos, af, gd⟩ (yielded ops a.tmps) = true := by rfl) : Tk P ops (Sep w L0) ⟨N, .load T x, ty, pos, af, gd⟩ a Kn := by
  subst hv
  exact ⟨_, .inl ⟨hw, fun W' h => ld_run (hs ▸ range_of (h.box r)) hx hl⟩, ha ▸ k⟩
theorem tk_ldo [Ty P T n f] (k : Kn a') (hx : a.eval x = .pointer (some pt) := by rfl) (hR : Aside0 (Rng w pt cs) := by with_reducible assumption) (hs : (cs.drop 0).take n = seg := by exact cutM)
    (hl : seg.length = n := by rfl) (hv : f seg = v := by exact valM) (ha : a.put N v = a' := by exact putM) (hw : Region.wanted ⟨N, .load T x, ty, pos, af, gd⟩ (yielded ops a.tmps) = true := by rfl) : Tk P ops (Sep w L0) ⟨N, .load T x, ty, pos, af, gd⟩ a Kn := by
  subst hv
  exact ⟨_, .inl ⟨hw, fun W' h => ld_run (hs ▸ rng_of ⟨h⟩ hR.out n 0) hx hl⟩, ha ▸ k⟩
theorem tk_ldp [Ty P T n f] (k : Kn a') (hx : a.eval x = .pointer (some ⟨pt.block, pt.off + (o + 1), none⟩) := by rfl) (hR : Aside0 (Rng w pt cs) := by with_reducible assumption) (hs : (cs.drop (o + 1)).take n = seg := by exact cutM)
    (hl : seg.length = n := by rfl) (hv : f seg = v := by exact valM) (ha : a.put N v = a' := by exact putM) (hw : Region.wanted ⟨N, .load T x, ty, pos, af, gd⟩ (yielded ops a.tmps) = true := by rfl) : Tk P ops (Sep w L0) ⟨N, .load T x, ty, pos, af, gd⟩ a Kn := by
  subst hv
  exact ⟨_, .inl ⟨hw, fun W' h => ld_run (hs ▸ rng_of ⟨h⟩ hR.out n (o + 1)) hx hl⟩, ha ▸ k⟩
theorem tk_ix {A : Option Addr} {kk : IntKind} {jj : Int} {α : Type} {d : Kd α} {xs : List α} {a2 : Addr → Act} {rdf : List α → Int → α} {cells : α → (Nat → Option Addr × Nat) → List Value} {fact : α → (Nat → Option Addr × Nat) → World → Prop} {cl : (Nat → Option Addr × Nat) → List Value} {fa : (Nat → Option Addr × Nat) → Prop} [Sl P T e z b zv] (k : ∀ p q, Aside0 (Rng w p (cl q)) → Aside0 (fa q) → Kn (a2 p))
    (hx : a.eval x = .slice A n c := by rfl) (hi : a.eval i = .int kk jj := by rfl) (hC : Aside0 (d.C w A n xs) := by with_reducible assumption) (O : Opn d rdf cells fact := by infer_instance) (h0 : decide (0 ≤ jj) = true := by exact idxM) (h1 : decide (jj < (xs.length : Int)) = true := by exact idxM)
    (hz : d.sz = z := by rfl) (hcl : ∀ q, cells (rdf xs jj) q = cl q := by intro q; rfl) (hfa : ∀ q, fact (rdf xs jj) q w = fa q := by intro q; rfl) (ha : ∀ p : Addr, a.put N (.pointer (some p)) = a2 p := by intro p; exact putM)
    (hw : Region.wanted ⟨N, .indexAddr T x i, ty, pos, af, gd⟩ (yielded ops a.tmps) = true := by rfl) : Tk P ops (Sep w L0) ⟨N, .indexAddr T x i, ty, pos, af, gd⟩ a Kn := by
  obtain ⟨p, q, h2, h3, h4⟩ := ix_run2 (P := P) (T := T) (N := N) (ty := ty) (pos := pos) (af := af) (gd := gd) (O := O) hx hi hC.out hz (of_decide_eq_true h0) (of_decide_eq_true h1)
  exact ⟨_, .inl ⟨hw, fun W' _ => h4 W'⟩, (ha p) ▸ k p q ⟨hcl q ▸ h2⟩ ⟨hfa q ▸ h3⟩⟩
theorem lpSet {w W : World} {L : List As} (H : Aside0 (Sep w L W)) : ∃ L0, Aside0 (L0 = L) := ⟨L, ⟨rfl⟩⟩
theorem gRs {id : Nat} (h : (Code.region id ops true).wp P Q a W) : (Code.region id ops true).wp P Q a W := h
theorem gSt {C : Act → World → Prop} (h : St P ops Q ob C a W) : St P ops Q ob C a W := h
theorem gTk (h : Tk P ops S ob a Kn) : Tk P ops S ob a Kn := h
theorem gLi (h : wpList P ops Q (ob :: rest) a W) : wpList P ops Q (ob :: rest) a W := h
theorem esR {G : Prop} {α : Type} {r v : α} (E : Aside0 (some v = some r)) (k : v = r → G) : G := k (Option.some.inj E.out)
end
end Go.Proofs.Ytlpghnhcgljhoaa.SP
end
section
namespace Go.Proofs.Ytlpghnhcgljhoaa.SP
open Go.RowKit Go.Proofs.YtlpghnhcgljhoaaW.PrintWords Go.Proofs.YtlpghnhcgljhoaaW.PrintLast Go.Proofs.Ytlpghnhcgljhoaa.LK Go.Proofs.YtlpghnhcgljhoaaW.PrintMore
set_option linter.unusedVariables false
abbrev Qy := Nat → Option Addr × Nat
structure Fo where
  i : Nat
  o : Oper
  val : Qy → Value
  lo : Qy → As
def putF : List (Fo × Qy) → Act → Act
  | [], a => a
  | (f, q) :: d, a => (putF d a).put f.o.dst (f.val q)
def markF : List (Fo × Qy) → Array Bool → Array Bool
  | [], l => l
  | (f, _) :: d, l => (markF d l).setIfInBounds f.i true
def partF (d : List (Fo × Qy)) : List As := d.map fun p => p.1.lo p.2
def markI : List Nat → Array Bool → Array Bool
  | [], l => l
  | i :: d, l => (markI d l).setIfInBounds i true
structure FOk (P : Program) (ops : Array Oper) (w : World) (a : Act) (f : Fo) : Prop where
  op : ops[f.i]? = some f.o
  want : Region.wanted f.o (yielded ops a.tmps) = true
  run : ∀ W, Below w.heap.size w W → ∃ q W', (execOp a.eval f.o).run P W = .ok (.value (f.val q)) W' ∧ Below W.heap.size W W' ∧ (f.lo q).p W.heap.size W' (fun k => W.heap.size ≤ k ∧ k < W'.heap.size)
theorem Sp.perm {b : Nat} {W : World} {L L' : List As} (h : L.Perm L') : ∀ {U : Nat → Prop}, Sp b W U L → Sp b W U L' := by
  induction h with
  | nil => exact fun h => h
  | cons A _ ih => exact fun ⟨S, h1, h2, h3⟩ => ⟨S, h1, h2, ih h3⟩
  | swap A B L =>
    rintro U ⟨S, h1, h2, T, g1, g2, g3⟩
    exact ⟨T, fun k hk => (g1 k hk).1, g2, S, fun k hk => ⟨h1 k hk, fun ht => (g1 k ht).2 hk⟩, h2, g3.mono (Nat.le_refl _) fun k hk => ⟨⟨hk.1.1, hk.2⟩, hk.1.2⟩⟩
  | trans _ _ ih1 ih2 => exact fun h => ih2 (ih1 h)
theorem Sep.perm {w W : World} {L L' : List As} (h : Sep w L W) (p : L.Perm L') : Sep w L' W := ⟨h.below, h.own.perm p⟩
theorem markI_size (d : List Nat) (l : Array Bool) : (markI d l).size = l.size := by
  induction d with
  | nil => rfl
  | cons i d ih => simp [markI, ih]
theorem markF_markI (d : List (Fo × Qy)) (l : Array Bool) : markF d l = markI (d.map (·.1.i)) l := by
  induction d with
  | nil => rfl
  | cons p d ih => obtain ⟨f, q⟩ := p; simp [markF, markI, ih]
theorem getD_set_at {l : Array Bool} {i : Nat} {b : Bool} (h : i < l.size) : (l.setIfInBounds i true).getD i b = true := by simp [h]
theorem markI_un {d : List Nat} {l : Array Bool} {j : Nat} : (markI d l).getD j true = false ↔ l.getD j true = false ∧ j ∉ d := by
  induction d with
  | nil => simp [markI]
  | cons i d ih =>
    unfold markI
    by_cases h : i = j
    · subst h
      constructor
      · intro h1
        by_cases h2 : i < (markI d l).size
        · rw [getD_set_at h2] at h1; cases h1
        · simp [h2] at h1
      · intro h1; simp at h1
    · rw [getD_set_ne true h, ih]
      simp [Ne.symm h]
theorem markI_in {d : List Nat} {l : Array Bool} {j : Nat} (h : (markI d l).getD j false = true) : l.getD j false = true ∨ (j ∈ d ∧ j < l.size) := by
  induction d with
  | nil => exact .inl h
  | cons i d ih =>
    unfold markI at h
    by_cases e : i = j
    · subst e
      by_cases h2 : i < (markI d l).size
      · exact .inr ⟨by simp, by rw [← markI_size d l]; exact h2⟩
      · simp [h2] at h
    · rw [getD_set_ne false e] at h
      rcases ih h with h | h
      · exact .inl h
      · exact .inr ⟨by simp [h.1], h.2⟩
theorem in_markI {d : List Nat} {l : Array Bool} {j : Nat} (h : l.getD j false = true) : (markI d l).getD j false = true := by
  induction d with
  | nil => exact h
  | cons i d ih => exact getD_set_true ih
theorem at_markI {d : List Nat} {l : Array Bool} {j : Nat} (h : j ∈ d) (hl : j < l.size) : (markI d l).getD j false = true := by
  induction d with
  | nil => cases h
  | cons i d ih =>
    unfold markI
    by_cases e : i = j
    · subst e; exact getD_set_at (by rw [markI_size]; exact hl)
    · rcases List.mem_cons.1 h with h | h
      · exact absurd h.symm e
      · exact getD_set_true (ih h)
theorem set_comm' (l : Array Bool) (i j : Nat) : (l.setIfInBounds i true).setIfInBounds j true = (l.setIfInBounds j true).setIfInBounds i true := by
  by_cases h : i = j
  · subst h; rfl
  · exact Array.setIfInBounds_comm _ _ h
theorem markI_set (d : List Nat) (l : Array Bool) (i : Nat) : markI d (l.setIfInBounds i true) = (markI d l).setIfInBounds i true := by
  induction d with
  | nil => rfl
  | cons j d ih => simp only [markI, ih]; exact set_comm' _ _ _
structure Sk where
  d : List Nat
  l : List Nat
  t : Option Nat
  k : Nat
def kindN (st : List Nat) : Op → Nat
  | .convert a b _ => if Nat.beq a b || st.any (Nat.beq b) then 0 else 1
  | .nilCheck .. | .move .. | .assign .. | .binOp .. | .unOp .. | .fieldAddr .. | .field .. | .load .. | .indexAddr .. | .index .. | .pick .. | .extract .. | .build .. | .slice .. | .sliceToArrayPointer .. => 1
  | .call c => match c.callee with
    | .builtin .len => 1
    | _ => 0
  | .buildSlice .. | .makeSlice .. | .box .. | .alloc .. => 2
  | .store .. => 3
  | .select .. => 9
  | _ => 0
def skel (st : List Nat) (ops : Array Oper) (o : Oper) : Sk := ⟨(o.after.toList.filter (Region.binds .any)).map (·.on), o.looksAt ops, o.dst, kindN st o.op⟩
def skels (st : List Nat) (ops : Array Oper) : List Sk := ops.toList.map (skel st ops)
class StrT (P : Program) (st : outParam (List Nat)) : Prop where
  t : True
def skAt : List Sk → Nat → Sk
  | [], _ => ⟨[], [], none, 0⟩
  | x :: _, 0 => x
  | _ :: l, n + 1 => skAt l n
def hasN : List Nat → Nat → Bool
  | [], _ => false
  | x :: l, n => Nat.beq x n || hasN l n
theorem beqN {a b : Nat} : Nat.beq a b = true ↔ a = b := ⟨Nat.eq_of_beq_eq_true, fun h => h ▸ Nat.beq_refl a⟩
theorem hasN_iff {n : Nat} : ∀ {l : List Nat}, hasN l n = true ↔ n ∈ l
  | [] => by simp [hasN]
  | x :: l => by
    show (Nat.beq x n || hasN l n) = true ↔ _
    rw [Bool.or_eq_true, beqN, hasN_iff (l := l), List.mem_cons, eq_comm]
def upTo : Nat → List Nat
  | 0 => []
  | n + 1 => n :: upTo n
theorem mem_upTo {i : Nat} : ∀ {n : Nat}, i ∈ upTo n ↔ i < n
  | 0 => by simp [upTo]
  | n + 1 => by simp [upTo, mem_upTo (n := n)]; omega
def lsT (m : Nat) (fi : List Nat) (j : Nat) : Bool := m.testBit j || hasN fi j
def rdyT (T : List Sk) (m : Nat) (fi : List Nat) (i : Nat) : Bool := !lsT m fi i && Nat.blt i T.length && (skAt T i).d.all fun j => lsT m fi j && Nat.blt j T.length
def apT (x y : Sk) : Bool :=
  (match x.t with
   | some d => !hasN y.l d && (match y.t with
     | some e => !Nat.beq e d
     | none => true)
   | none => true) &&
  (match y.t with
   | some d => !hasN x.l d
   | none => true)
def frT (T : List Sk) (m i : Nat) : Bool := (upTo T.length).all fun j => Nat.beq j i || m.testBit j || hasN (skAt T j).d i || apT (skAt T i) (skAt T j)
def nselT (T : List Sk) : Bool := T.all fun x => !Nat.beq x.k 9
def reachT (T : List Sk) (i : Nat) : Nat → Nat → Bool
  | 0, _ => false
  | fuel + 1, d => Nat.blt d T.length && (hasN (skAt T d).d i || (skAt T d).d.any fun e => reachT T i fuel e)
def nodupT : List Nat → Bool
  | [] => true
  | x :: l => !hasN l x && nodupT l
theorem skAt_eq : ∀ (T : List Sk) (i : Nat), i < T.length → T[i]? = some (skAt T i)
  | [], i, h => absurd h (Nat.not_lt_zero _)
  | x :: l, 0, _ => rfl
  | x :: l, i + 1, h => by simpa [skAt] using skAt_eq l i (by simpa using h)
section
variable {st : List Nat} {ops : Array Oper} {T : List Sk}
theorem sk_len (hT : skels st ops = T) : T.length = ops.size := by rw [← hT]; simp [skels]
theorem sk_at (hT : skels st ops = T) {i : Nat} {o : Oper} (h : ops[i]? = some o) : skAt T i = skel st ops o := by
  have h1 := (Array.getElem?_eq_some_iff.1 h).1
  have h2 := skAt_eq T i (by rw [sk_len hT]; exact h1)
  rw [← hT] at h2
  unfold skels at h2
  rw [List.getElem?_map] at h2
  have h3 : ops.toList[i]? = some o := by simpa using h
  rw [h3] at h2
  rw [← hT]
  exact (Option.some.inj h2).symm
theorem bits_un {n m j : Nat} : (bits n m).getD j true = false ↔ j < n ∧ m.testBit j = false := by
  by_cases h : j < n <;> simp [bits, h]
theorem bits_in {n m j : Nat} : (bits n m).getD j false = true ↔ j < n ∧ m.testBit j = true := by
  by_cases h : j < n <;> simp [bits, h]
theorem bits_set {n m c : Nat} : (bits n m).setIfInBounds c true = bits n (m ||| 2 ^ c) := by
  apply Array.ext
  · simp [bits]
  · intro i h1 h2
    have hn : i < n := by simpa [bits] using h2
    by_cases he : c = i
    · subst he
      simp [bits, Nat.testBit_or, Nat.testBit_two_pow_self]
    · rw [Array.getElem_setIfInBounds_ne (by simpa [bits] using hn) he]
      simp [bits, Nat.testBit_or, Nat.testBit_two_pow_of_ne he]
theorem rdyT_iff (hT : skels st ops = T) {m : Nat} {fi : List Nat} {i : Nat} : rdyT T m fi i = true ↔ i ∈ Region.ready .any ops (markI fi (bits ops.size m)) := by
  have hl := sk_len hT
  rw [mem_ready, markI_un, bits_un]
  unfold rdyT lsT
  simp only [Bool.and_eq_true, Bool.not_eq_true', Bool.or_eq_false_iff, List.all_eq_true, Bool.or_eq_true, Nat.blt_eq]
  rw [hl]
  have e : ∀ j, hasN fi j = false ↔ j ∉ fi := fun j => by rw [← Bool.not_eq_true, hasN_iff]
  constructor
  · rintro ⟨⟨⟨h1, h2⟩, h3⟩, h4⟩
    refine ⟨⟨⟨h3, h1⟩, (e i).1 h2⟩, ops[i], by simp [h3], fun e' he hb => ?_⟩
    have h5 : e'.on ∈ (skAt T i).d := by
      rw [sk_at hT (show ops[i]? = some ops[i] by simp [h3])]
      exact List.mem_map.2 ⟨e', List.mem_filter.2 ⟨by simpa using he, hb⟩, rfl⟩
    obtain ⟨h6, h7⟩ := h4 _ h5
    rcases h6 with h6 | h6
    · exact in_markI (bits_in.2 ⟨h7, h6⟩)
    · exact at_markI (hasN_iff.1 h6) (by simpa [bits] using h7)
  · rintro ⟨⟨⟨h3, h1⟩, h2⟩, o, ho, h4⟩
    refine ⟨⟨⟨h1, (e i).2 h2⟩, h3⟩, fun j hj => ?_⟩
    rw [sk_at hT ho] at hj
    obtain ⟨e', he, rfl⟩ := List.mem_map.1 hj
    obtain ⟨he, hb⟩ := List.mem_filter.1 he
    rcases markI_in (h4 e' (by simpa using he) hb) with h5 | ⟨h5, h6⟩
    · exact ⟨.inl (bits_in.1 h5).2, (bits_in.1 h5).1⟩
    · exact ⟨.inr (hasN_iff.2 h5), by simpa [bits] using h6⟩
theorem apT_eq (x y : Oper) : apT (skel st ops x) (skel st ops y) = x.apart ops y := by
  have e : ∀ (l : List Nat) (d : Nat), hasN l d = l.contains d := fun l d => by
    rw [Bool.eq_iff_iff, hasN_iff]; simp
  unfold apT Oper.apart skel
  simp only [e]
  congr 1
  cases x.dst with
  | none => rfl
  | some d =>
    simp only
    congr 1
    cases y.dst with
    | none => rfl
    | some e' =>
      show (!Nat.beq e' d) = (some e' != some d)
      by_cases h : e' = d
      · subst h; simp
      · have h1 : Nat.beq e' d = false := by rw [← Bool.not_eq_true, beqN]; exact h
        simp [h1, h]
theorem frT_spec (hT : skels st ops = T) {m i : Nat} {oi : Oper} (hi : ops[i]? = some oi) (h : frT T m i = true) : ∀ j oj, ops[j]? = some oj → j ≠ i → (bits ops.size m).getD j true = false → (∀ e ∈ oj.after, Region.binds .any e = true → e.on ≠ i) → oi.apart ops oj = true := by
  intro j oj hj hji hun hno
  unfold frT at h
  have h1 := List.all_eq_true.1 h j (mem_upTo.2 (by rw [sk_len hT]; exact (Array.getElem?_eq_some_iff.1 hj).1))
  simp only [Bool.or_eq_true, beqN] at h1
  rcases h1 with ((h1 | h1) | h1) | h1
  · exact absurd h1 hji
  · rw [(bits_un.1 hun).2] at h1; cases h1
  · rw [hasN_iff, sk_at hT hj] at h1
    obtain ⟨e, he, h2⟩ := List.mem_map.1 h1
    obtain ⟨he, hb⟩ := List.mem_filter.1 he
    exact absurd h2 (hno e (by simpa using he) hb)
  · rw [sk_at hT hi, sk_at hT hj, apT_eq] at h1
    exact h1
theorem nselT_spec (hT : skels st ops = T) (h : nselT T = true) : Region.noSelect ops = true := by
  unfold Region.noSelect
  rw [Array.all_eq_true_iff_forall_mem]
  intro o ho
  obtain ⟨i, hi, rfl⟩ := Array.mem_iff_getElem.1 ho
  have h1 : (skel st ops ops[i]) ∈ T := by rw [← hT]; exact List.mem_map.2 ⟨ops[i], by simp, rfl⟩
  have h2 := List.all_eq_true.1 h _ h1
  simp only [Bool.not_eq_true', skel] at h2
  generalize ops[i].op = q at h2 ⊢
  cases q <;> first | rfl | (simp [kindN] at h2)
theorem reachT_eq (hT : skels st ops = T) (i : Nat) : ∀ (fuel d : Nat), reachT T i fuel d = true → Region.reachB .any ops i fuel d = true
  | 0, _, h => by simp [reachT] at h
  | fuel + 1, d, h => by
    unfold reachT at h
    unfold Region.reachB
    simp only [Bool.and_eq_true, Nat.blt_eq, Bool.or_eq_true, List.any_eq_true] at h
    obtain ⟨h1, h2⟩ := h
    rw [sk_len hT] at h1
    have ho : ops[d]? = some ops[d] := by simp [h1]
    rw [ho]
    simp only
    rw [Array.any_eq_true']
    rw [sk_at hT ho] at h2
    rcases h2 with h2 | ⟨e, he, h2⟩
    · obtain ⟨e, he, rfl⟩ := List.mem_map.1 (hasN_iff.1 h2)
      obtain ⟨he, hb⟩ := List.mem_filter.1 he
      exact ⟨e, by simpa using he, by simp [hb]⟩
    · obtain ⟨e', he', rfl⟩ := List.mem_map.1 he
      obtain ⟨he', hb⟩ := List.mem_filter.1 he'
      exact ⟨e', by simpa using he', by simp [hb, reachT_eq hT i fuel _ h2]⟩
theorem nodupT_spec : ∀ {l : List Nat}, nodupT l = true → l.Nodup
  | [], _ => List.nodup_nil
  | x :: l, h => by
    simp only [nodupT, Bool.and_eq_true, Bool.not_eq_true'] at h
    refine List.nodup_cons.2 ⟨fun hm => ?_, nodupT_spec h.2⟩
    rw [hasN_iff.2 hm] at h
    cases h.1
end
def Put1 (o : Oper) (a a' : Act) : Prop := ∃ (v : Value) (a0 : Act), a' = a0.put o.dst v ∧ a0.tmps = a.tmps
theorem nsel {ops : Array Oper} (h : Region.noSelect ops = true) {i : Nat} {o : Oper} (ho : ops[i]? = some o) : ∀ cs b, o.op ≠ .select cs b := fun cs b => Region.noSelect_spec h _ _ cs b ho
section
variable {P : Program} {ops : Array Oper} {Q : Exit → Act → World → Prop} {C : Act → World → Prop} {o : Oper} {a : Act} {W : World}
theorem St.into {dst : Option Tmp} {v : Value} (h : St P ops Q o C a W) (hs : ∀ cs b, o.op ≠ .select cs b) (h1 : ∀ d, dst = some d → d ∉ o.looksAt ops) (h2 : ∀ d, dst = some d → o.dst ≠ some d)
    (hQ : ∀ c a W, Q (.panic c) a W → Q (.panic c) (a.put dst v) W) : St P ops Q o (fun a' W' => ∃ a1, a' = a1.put dst v ∧ C a1 W') (a.put dst v) W := by
  intro K hK
  have h3 := h C (fun _ _ h => h)
  rw [wanted_put o a dst v h1]
  split
  · rename_i hw
    rw [if_pos hw] at h3
    unfold Oper.wp at *
    rw [execOp_put o hs a dst v h1]
    generalize (execOp a.eval o).run P W = r at *
    cases r with
    | ok n w' =>
      cases n <;> simp only [Oper.upon] at h3 ⊢
      case value u => exact hK _ _ ⟨_, Act.put_comm a v u h2, h3⟩
      case skip => exact hK _ _ ⟨_, Act.put_comm a v undef h2, h3⟩
      case defer d =>
        refine hK _ _ ⟨_, ?_, h3⟩
        rw [Act.put_defers, Act.put_comm _ v undef h2]
      case enter f args =>
        refine Calls.mono h3 fun e w'' he => ?_
        cases e with
        | returned u => exact hK _ _ ⟨_, Act.put_comm a v u h2, he⟩
        | panicked c => exact hQ _ _ _ he
        | outgrown => exact he
      case row row args => exact Rows.mono h3 fun u w'' he => hK _ _ ⟨_, Act.put_comm a v u h2, he⟩
    | halt x w' =>
      cases x <;> simp only [Oper.upon] at h3 ⊢
      case panic v => exact hQ _ _ _ h3
  · rename_i hw
    rw [if_neg hw] at h3
    exact hK _ _ ⟨_, Act.put_comm a v undef h2, h3⟩
theorem St.put1 (h : St P ops Q o C a W) : St P ops Q o (fun a' W' => Put1 o a a' ∧ C a' W') a W := by
  intro K hK
  have h3 := h C (fun _ _ h => h)
  split
  · rename_i hw
    rw [if_pos hw] at h3
    unfold Oper.wp at *
    generalize (execOp a.eval o).run P W = r at *
    cases r with
    | ok n w' =>
      cases n <;> simp only [Oper.upon] at h3 ⊢
      case value u => exact hK _ _ ⟨⟨_, _, rfl, rfl⟩, h3⟩
      case skip => exact hK _ _ ⟨⟨_, _, rfl, rfl⟩, h3⟩
      case defer d => exact hK _ _ ⟨⟨_, _, rfl, rfl⟩, h3⟩
      case enter f args =>
        refine Calls.mono h3 fun e w'' he => ?_
        cases e with
        | returned u => exact hK _ _ ⟨⟨_, _, rfl, rfl⟩, he⟩
        | panicked c => exact he
        | outgrown => exact he
      case row row args => exact Rows.mono h3 fun u w'' he => hK _ _ ⟨⟨_, _, rfl, rfl⟩, he⟩
    | halt x w' =>
      cases x <;> simp only [Oper.upon] at h3 ⊢
      case panic v => exact h3
  · rename_i hw
    rw [if_neg hw] at h3
    exact hK _ _ ⟨⟨_, _, rfl, rfl⟩, h3⟩
theorem St.intoF (hs : ∀ cs b, o.op ≠ .select cs b) (hQ : ∀ c a dst v W, Q (.panic c) a W → Q (.panic c) (Act.put a dst v) W) : ∀ (d : List (Fo × Qy)), (∀ p ∈ d, p.1.o.apart ops o = true) → ∀ {C : Act → World → Prop}, St P ops Q o C a W → St P ops Q o (fun a' W' => ∃ a1, a' = putF d a1 ∧ C a1 W') (putF d a) W
  | [], _, C, h => fun K hK => h K fun a W h => hK _ _ ⟨_, rfl, h⟩
  | (f, q) :: d, hd, C, h => by
    obtain ⟨h1, h2, h3⟩ := Oper.apart_spec (hd _ (List.mem_cons_self))
    have h4 := St.into (St.intoF hs hQ d (fun p hp => hd p (List.mem_cons_of_mem _ hp)) h) hs h1 h2 (v := f.val q) (fun c a W h => hQ c a _ _ W h)
    intro K hK
    refine h4 K ?_
    rintro a' W' ⟨a2, rfl, a1, rfl, h5⟩
    exact hK _ _ ⟨a1, rfl, h5⟩
theorem St.op {i : Nat} {K : Act → World → Prop} (hi : ops[i]? = some o) (h : St P ops Q o C a W) (hk : ∀ a W, C a W → K a W) : wpOp P ops Q i K a W :=
  wpOp_step hi fun K' hK => h K' fun a w hc => hK a w (hk a w hc)
theorem FOk.put {w : World} {f : Fo} {dst : Option Tmp} {v : Value} (h : FOk P ops w a f) (hs : ∀ cs b, f.o.op ≠ .select cs b) (hd : ∀ d, dst = some d → d ∉ f.o.looksAt ops) : FOk P ops w (a.put dst v) f :=
  ⟨h.op, by rw [wanted_put f.o a dst v hd]; exact h.want, fun W hW => by rw [execOp_put f.o hs a dst v hd]; exact h.run W hW⟩
theorem FOk.same {w : World} {f : Fo} {a' : Act} (h : FOk P ops w a f) (e : a'.tmps = a.tmps) : FOk P ops w a' f := by
  have he : a'.eval = a.eval := by funext x; cases x <;> simp [Act.eval, e]
  exact ⟨h.op, by rw [e]; exact h.want, fun W hW => by rw [he]; exact h.run W hW⟩
theorem FOk.putF {w : World} {f : Fo} (hs : ∀ cs b, f.o.op ≠ .select cs b) (h : FOk P ops w a f) : ∀ d : List (Fo × Qy), (∀ p ∈ d, p.1.o.apart ops f.o = true) → FOk P ops w (SP.putF d a) f
  | [], _ => h
  | (g, q) :: d, hd => (FOk.putF hs h d fun p hp => hd p (List.mem_cons_of_mem _ hp)).put hs (Oper.apart_spec (hd _ List.mem_cons_self)).1
theorem put_putF {dst : Option Tmp} {v : Value} : ∀ (d : List (Fo × Qy)), (∀ p ∈ d, ∀ t, dst = some t → p.1.o.dst ≠ some t) → ∀ a : Act, putF d (a.put dst v) = (putF d a).put dst v
  | [], _, _ => rfl
  | (f, q) :: d, hd, a => by
    show (putF d (a.put dst v)).put f.o.dst (f.val q) = _
    rw [put_putF d (fun p hp => hd p (List.mem_cons_of_mem _ hp)) a, Act.put_comm _ _ _ (hd _ List.mem_cons_self)]
    rfl
end
section
variable {P : Program} {ops : Array Oper} {T : List Sk} {Q : Exit → Act → World → Prop} {ds : List Nat} {w : World} {L0 : List As}
def PB (Q : Exit → Act → World → Prop) : Prop := ∀ c a dst v W, Q (.panic c) (Act.put a dst v) W ↔ Q (.panic c) a W
def Ch (P : Program) (ops : Array Oper) (T : List Sk) (Q : Exit → Act → World → Prop) (ds : List Nat) (w : World) (L0 : List As) (fs : List Fo) (fuel m : Nat) (a : Act) (L : List As) : Prop :=
  (∃ st, skels st ops = T) → PB Q → (∀ f ∈ fs, FOk P ops w a f) → ListedClosed .any ops (bits ops.size m) → ∀ (d : List (Fo × Qy)) (rest : List Fo), (d.map (·.1) ++ rest).Perm fs → ∀ W, Sep w (L ++ partF d) W → wpAnyLast P .any ops Q (Sep w L0) ds (fuel + rest.length) (markF d (bits ops.size m)) (putF d a) W
structure FrOk (ops : Array Oper) (ds : List Nat) (l : Array Bool) (f : Fo) : Prop where
  ready : f.i ∈ Region.ready .any ops l
  nds : f.i ∉ ds
  apart : ∀ j oj, ops[j]? = some oj → j ≠ f.i → l.getD j true = false → (∀ e ∈ oj.after, Region.binds .any e = true → e.on ≠ f.i) → f.o.apart ops oj = true
def frB (T : List Sk) (ds fi : List Nat) (m : Nat) : Bool :=
  nselT T && nodupT fi && fi.all fun i => rdyT T m [] i && !hasN ds i && frT T m i
def abB (T : List Sk) (ds fi fi' : List Nat) (m m' i : Nat) : Bool :=
  frB T ds fi m && ((upTo T.length).all fun j => Nat.beq j i || !rdyT T m fi' j) && Nat.beq (m ||| 2 ^ i) m'
def tkB (T : List Sk) (ds fi : List Nat) (m m' i : Nat) : Bool :=
  frB T ds fi m && !hasN fi i && frT T m i && rdyT T m [] i && (ds.all fun d => m.testBit d || reachT T i T.length d) && Nat.beq (m ||| 2 ^ i) m'
theorem not_has {l : List Nat} {n : Nat} (h : hasN l n = false) : n ∉ l := fun hm => by rw [hasN_iff.2 hm] at h; cases h
theorem frB_spec {st : List Nat} (hT : skels st ops = T) {fs : List Fo} {fi : List Nat} {m : Nat} {a : Act} (hF : ∀ f ∈ fs, FOk P ops w a f) (hfi : fs.map (·.i) = fi) (h : frB T ds fi m = true) : Region.noSelect ops = true ∧ fi.Nodup ∧ ∀ f ∈ fs, FrOk ops ds (bits ops.size m) f := by
  unfold frB at h
  simp only [Bool.and_eq_true, List.all_eq_true, Bool.not_eq_true'] at h
  refine ⟨nselT_spec hT h.1.1, nodupT_spec h.1.2, fun f hf => ?_⟩
  obtain ⟨⟨h1, h2⟩, h3⟩ := h.2 f.i (hfi ▸ List.mem_map.2 ⟨f, hf, rfl⟩)
  exact ⟨(rdyT_iff hT).1 h1, not_has h2, frT_spec hT (hF f hf).op h3⟩
theorem only_ {st : List Nat} (hT : skels st ops = T) {m c : Nat} {fi : List Nat} (h : ∀ j ∈ upTo T.length, (Nat.beq j c = true ∨ rdyT T m fi j = false)) : ∀ j ∈ Region.ready .any ops (markI fi (bits ops.size m)), j = c := fun j hj => by
  have hlt : j < T.length := by
    obtain ⟨_, o, ho, _⟩ := mem_ready.1 hj
    rw [sk_len hT]
    exact (Array.getElem?_eq_some_iff.1 ho).1
  rcases h j (mem_upTo.2 hlt) with h1 | h1
  · exact Nat.eq_of_beq_eq_true h1
  · rw [(rdyT_iff hT).2 hj] at h1; cases h1
theorem mem_of_perm {fs rest : List Fo} {d : List (Fo × Qy)} (hp : (d.map (·.1) ++ rest).Perm fs) : (∀ p ∈ d, p.1 ∈ fs) ∧ ∀ f ∈ rest, f ∈ fs :=
  ⟨fun p hd => hp.subset (List.mem_append_left _ (List.mem_map.2 ⟨p, hd, rfl⟩)), fun f hf => hp.subset (List.mem_append_right _ hf)⟩
theorem idx_nodup {fs rest : List Fo} {d : List (Fo × Qy)} {fi : List Nat} (hp : (d.map (·.1) ++ rest).Perm fs) (hfi : fs.map (·.i) = fi) (hn : fi.Nodup) : (d.map (·.1.i) ++ rest.map (·.i)).Nodup := by
  have h1 := hp.map (·.i)
  rw [hfi, List.map_append, List.map_map] at h1
  exact (h1.nodup_iff).2 hn
theorem closed_markI {l : Array Bool} (hc : ListedClosed .any ops l) : ∀ d : List Nat, (∀ i ∈ d, i ∈ Region.ready .any ops l) → ListedClosed .any ops (markI d l) := by
  intro d hd j oj hj hl e he hb
  rcases markI_in hl with h1 | ⟨h1, _⟩
  · exact in_markI (hc j oj hj h1 e he hb)
  · obtain ⟨_, o, ho, h2⟩ := mem_ready.1 (hd j h1)
    rw [hj] at ho
    cases ho
    exact in_markI (h2 e he hb)
theorem ready_sub {d fi : List Nat} {l : Array Bool} {j : Nat} (hd : ∀ i ∈ d, i ∈ fi) (hj : j ∈ Region.ready .any ops (markI d l)) (hn : j ∉ fi) : j ∈ Region.ready .any ops (markI fi l) := by
  rw [mem_ready] at *
  obtain ⟨h1, o, ho, h2⟩ := hj
  refine ⟨markI_un.2 ⟨(markI_un.1 h1).1, hn⟩, o, ho, fun e he hb => ?_⟩
  rcases markI_in (h2 e he hb) with h3 | ⟨h3, h4⟩
  · exact in_markI h3
  · exact at_markI (hd _ h3) h4
theorem ready_keep {d : List Nat} {l : Array Bool} {j : Nat} (hj : j ∈ Region.ready .any ops l) (hn : j ∉ d) : j ∈ Region.ready .any ops (markI d l) := by
  rw [mem_ready] at *
  obtain ⟨h1, o, ho, h2⟩ := hj
  exact ⟨markI_un.2 ⟨h1, hn⟩, o, ho, fun e he hb => in_markI (h2 e he hb)⟩
theorem noedge {l : Array Bool} {i j : Nat} {oj : Oper} (hj : j ∈ Region.ready .any ops l) (hoj : ops[j]? = some oj) (hi : l.getD i true = false) : ∀ e ∈ oj.after, Region.binds .any e = true → e.on ≠ i := fun e he hb heq => by
  obtain ⟨_, o, ho, h2⟩ := mem_ready.1 hj
  rw [hoj] at ho
  cases ho
  have h1 := h2 e he hb
  rw [heq] at h1
  rcases Nat.lt_or_ge i l.size with h' | h'
  · simp [h'] at hi h1; rw [hi] at h1; cases h1
  · simp [Array.getElem?_eq_none h'] at h1
theorem free_op {f : Fo} {a : Act} {W : World} {X : List As} {K : Act → World → Prop} (h : FOk P ops w a f) (H : Sep w X W) (hk : ∀ q W', Below W.heap.size W W' → Sep w (f.lo q :: X) W' → K (a.put f.o.dst (f.val q)) W') : wpOp P ops Q f.i K a W := by
  refine wpOp_step h.op fun K' hK => ?_
  rw [if_pos h.want]
  obtain ⟨q, W', h1, h2, h3⟩ := h.run W H.below
  unfold Oper.wp
  rw [h1]
  exact hK _ _ (hk q W' h2 (H.put h2 h3))
theorem perm_step {fs r1 r2 : List Fo} {d : List (Fo × Qy)} {f : Fo} (q : Qy) (hp : (d.map (·.1) ++ (r1 ++ f :: r2)).Perm fs) : (((f, q) :: d).map (·.1) ++ (r1 ++ r2)).Perm fs := by
  refine List.Perm.trans ?_ hp
  show (f :: (d.map (·.1) ++ (r1 ++ r2))).Perm _
  have h1 : (d.map (·.1) ++ (r1 ++ f :: r2)).Perm (f :: (d.map (·.1) ++ (r1 ++ r2))) := by
    rw [← List.append_assoc, ← List.append_assoc]
    exact List.perm_middle
  exact h1.symm
section
variable {fs : List Fo} {fi : List Nat} {fuel m m' c : Nat} {a : Act} {L : List As} {o : Oper} {bd : Bool}
theorem ch_run {n0 : Nat} (hF : ∀ f ∈ fs, FOk P ops w a f) (hs : Region.noSelect ops = true) (hnd : fi.Nodup) (hfi : fs.map (·.i) = fi) (hO : ∀ f ∈ fs, FrOk ops ds (bits ops.size m) f)
    (step : ∀ (d : List (Fo × Qy)) (rest : List Fo), (d.map (·.1) ++ rest).Perm fs → ∀ W, Sep w (L ++ partF d) W →
      (Region.ready .any ops (markF d (bits ops.size m)) ≠ []) ∧ ∀ j ∈ Region.ready .any ops (markF d (bits ops.size m)), (∀ f ∈ rest, j ≠ f.i) → wpOp P ops Q j (fun a' w' => (j ∉ ds → Sep w L0 W → Sep w L0 w') ∧ wpAnyLast P .any ops Q (Sep w L0) ds (n0 + rest.length) ((markF d (bits ops.size m)).setIfInBounds j true) a' w') (putF d a) W) :
    ∀ (n : Nat) (d : List (Fo × Qy)) (rest : List Fo), rest.length = n → (d.map (·.1) ++ rest).Perm fs → ∀ W, Sep w (L ++ partF d) W → wpAnyLast P .any ops Q (Sep w L0) ds (n0 + 1 + n) (markF d (bits ops.size m)) (putF d a) W := by
  intro n
  induction n with
  | zero =>
    intro d rest hr hp W H
    obtain ⟨s1, s2⟩ := step d rest hp W H
    have hr0 : rest = [] := List.length_eq_zero_iff.1 hr
    subst hr0
    exact ⟨fun h0 => absurd h0 s1, fun j hj => s2 j hj (by simp)⟩
  | succ n ih =>
    intro d rest hr hp W H
    obtain ⟨s1, s2⟩ := step d rest hp W H
    obtain ⟨hm1, hm2⟩ := mem_of_perm hp
    refine ⟨fun h0 => absurd h0 s1, fun j hj => ?_⟩
    by_cases hin : ∃ f ∈ rest, j = f.i
    · obtain ⟨f, hf, rfl⟩ := hin
      obtain ⟨r1, r2, rfl⟩ := List.append_of_mem hf
      have hff := hm2 f hf
      have hap : ∀ p ∈ d, p.1.o.apart ops f.o = true := fun p hp' => by
        have hpf := hO _ (hm1 p hp')
        refine hpf.apart f.i f.o (hF f hff).op ?_ (mem_ready.1 (hO f hff).ready).1 (noedge (hO f hff).ready (hF f hff).op (mem_ready.1 hpf.ready).1)
        intro he
        have := idx_nodup hp hfi hnd
        rw [List.nodup_append] at this
        exact this.2.2 p.1.i (List.mem_map.2 ⟨p, hp', rfl⟩) f.i (by simp) he.symm
      refine free_op (FOk.putF (nsel hs (hF f hff).op) (hF f hff) d hap) H fun q W' hb H' => ⟨fun _ h0 => h0.step hb, ?_⟩
      have h1 := ih ((f, q) :: d) (r1 ++ r2) (by simp at hr ⊢; omega) (perm_step q hp) W' (H'.perm (by show (f.lo q :: (L ++ partF d)).Perm (L ++ f.lo q :: partF d); exact List.perm_middle.symm))
      exact h1
    · have h1 := s2 j hj (fun f hf he => hin ⟨f, hf, he⟩)
      rw [hr, show n0 + (n + 1) = n0 + 1 + n by omega] at h1
      exact h1
def Os (P : Program) (ops : Array Oper) (T : List Sk) (Q : Exit → Act → World → Prop) (ds : List Nat) (w : World) (L0 : List As) (fs : List Fo) (fuel m : Nat) (a : Act) (L : List As) (j : Nat) : Prop :=
  ∃ (o : Oper) (m' : Nat) (bd : Bool), ops[j]? = some o ∧ hasN ds j = bd ∧ m ||| 2 ^ j = m' ∧ ∀ F W, Sep w (L ++ F) W → St P ops Q o (fun a' W' => ∃ L2, Sep w (L2 ++ F) W' ∧ (bd = false → Sep w L0 W') ∧ Ch P ops T Q ds w L0 fs fuel m' a' L2) a W
def opsB (T : List Sk) (ds fi : List Nat) (m : Nat) (rs : List Nat) : Bool :=
  frB T ds fi m && !rs.isEmpty && (rs.all fun c => rdyT T m [] c && !hasN fi c) && ((upTo T.length).all fun j => hasN rs j || !rdyT T m fi j)
theorem ch_ops {rs : List Nat} (k : ∀ j ∈ rs, Os P ops T Q ds w L0 fs fuel m a L j) (hfi : fs.map (·.i) = fi) (hb : opsB T ds fi m rs = true) : Ch P ops T Q ds w L0 fs (fuel + 1) m a L := by
  rintro ⟨st, hT⟩ hPB hF hc d rest hp W H
  simp only [opsB, Bool.and_eq_true, List.all_eq_true, Bool.or_eq_true, Bool.not_eq_true'] at hb
  obtain ⟨⟨⟨h1, hne⟩, h23⟩, h4⟩ := hb
  have hrd : ∀ c ∈ rs, c ∈ Region.ready .any ops (bits ops.size m) ∧ c ∉ fi := fun c hc => ⟨(rdyT_iff hT).1 (h23 c hc).1, not_has (h23 c hc).2⟩
  have h4 : ∀ j ∈ Region.ready .any ops (markI fi (bits ops.size m)), j ∈ rs := fun j hj => by
    have hlt : j < T.length := by
      obtain ⟨_, o, ho, _⟩ := mem_ready.1 hj
      rw [sk_len hT]
      exact (Array.getElem?_eq_some_iff.1 ho).1
    rcases h4 j (mem_upTo.2 hlt) with h1 | h1
    · exact hasN_iff.1 h1
    · rw [(rdyT_iff hT).2 hj] at h1; cases h1
  obtain ⟨hs, hnd, hO⟩ := frB_spec hT hF hfi h1
  refine ch_run hF hs hnd hfi hO (fun d rest hp W H => ?_) rest.length d rest rfl hp W H
  obtain ⟨hm1, hm2⟩ := mem_of_perm hp
  have hdi : ∀ i ∈ d.map (·.1.i), i ∈ fi := fun i hi => by
    obtain ⟨p, hp', rfl⟩ := List.mem_map.1 hi
    exact hfi ▸ List.mem_map.2 ⟨p.1, hm1 p hp', rfl⟩
  rw [markF_markI]
  refine ⟨fun h0 => ?_, fun j hj hnot => ?_⟩
  · cases rs with
    | nil => cases hne
    | cons c rs =>
      have := ready_keep (d := d.map (·.1.i)) (hrd c List.mem_cons_self).1 (fun h => (hrd c List.mem_cons_self).2 (hdi c h))
      rw [h0] at this
      cases this
  · have hjr : j ∈ rs := by
      refine h4 j (ready_sub hdi hj fun hjf => ?_)
      rw [← hfi] at hjf
      obtain ⟨f, hf, rfl⟩ := List.mem_map.1 hjf
      have : f ∈ d.map (·.1) ++ rest := hp.symm.subset hf
      rcases List.mem_append.1 this with h | h
      · obtain ⟨p, hp', rfl⟩ := List.mem_map.1 h
        exact (markI_un.1 (mem_ready.1 hj).1).2 (List.mem_map.2 ⟨p, hp', rfl⟩)
      · exact hnot f h rfl
    obtain ⟨o, m', bd, ho', hd, h5, hk⟩ := k j hjr
    obtain ⟨h2, h3⟩ := hrd j hjr
    have hcd : j ∉ d.map (·.1.i) := fun h => h3 (hdi j h)
    have hsel := nsel hs ho'
    have h5 : (bits ops.size m).setIfInBounds j true = bits ops.size m' := by rw [bits_set, h5]
    have hap : ∀ p ∈ d, p.1.o.apart ops o = true := fun p hp' => by
      have hpf := hO _ (hm1 p hp')
      exact hpf.apart j o ho' (fun he => hcd (List.mem_map.2 ⟨p, hp', he.symm⟩)) (mem_ready.1 h2).1 (noedge h2 ho' (mem_ready.1 hpf.ready).1)
    refine St.op ho' (St.intoF hsel (fun c a dst v W h => (hPB c a dst v W).2 h) d hap (St.put1 (hk (partF d) W H))) ?_
    rintro a' W' ⟨a1, rfl, ⟨v, a0, rfl, hv⟩, L2, H2, hS, hch⟩
    refine ⟨fun hn _ => hS (by subst hd; rw [← Bool.not_eq_true, hasN_iff]; exact hn), ?_⟩
    have hF' : ∀ f ∈ fs, FOk P ops w (a0.put o.dst v) f := fun f hf => by
      refine ((hF f hf).same hv).put (nsel hs (hF f hf).op) fun t ht => ?_
      have hpf := hO f hf
      have := hpf.apart j o ho' (fun he => h3 (hfi ▸ List.mem_map.2 ⟨f, hf, he.symm⟩)) (mem_ready.1 h2).1 (noedge h2 ho' (mem_ready.1 hpf.ready).1)
      exact (Oper.apart_spec this).2.2 t ht
    have hc' : ListedClosed .any ops (bits ops.size m') := h5 ▸ hc.set h2
    have := hch ⟨st, hT⟩ hPB hF' hc' d rest hp W' H2
    rw [markF_markI, ← h5, markI_set] at this
    exact this
theorem ch_ab {f : Fo} {fs1 fs2 : List Fo} {i : Nat} (k : ∀ q, Ch P ops T Q ds w L0 (fs1 ++ fs2) fuel m' (a.put f.o.dst (f.val q)) (f.lo q :: L)) (hfs : fs = fs1 ++ f :: fs2) {fi' : List Nat} (hfi : fs.map (·.i) = fi) (hfi' : (fs1 ++ fs2).map (·.i) = fi') (hi : f.i = i) (hb : abB T ds fi fi' m m' i = true) : Ch P ops T Q ds w L0 fs fuel m a L := by
  subst hi
  rintro ⟨st, hT⟩ hPB hF hc d rest hp W H
  simp only [abB, Bool.and_eq_true, List.all_eq_true, Bool.or_eq_true, Bool.not_eq_true'] at hb
  obtain ⟨⟨h1, h4⟩, h5⟩ := hb
  have h4 := only_ hT h4
  have h5 : (bits ops.size m).setIfInBounds f.i true = bits ops.size m' := by rw [bits_set, Nat.eq_of_beq_eq_true h5]
  obtain ⟨hs, hnd, hO⟩ := frB_spec hT hF hfi h1
  have hff : f ∈ fs := by rw [hfs]; simp
  have hsub : ∀ g ∈ fs1 ++ fs2, g ∈ fs := fun g hg => by rw [hfs]; rcases List.mem_append.1 hg with h | h <;> simp [h]
  have hne : ∀ g ∈ fs1 ++ fs2, g.i ≠ f.i := fun g hg he => by
    have : (fs1.map (·.i) ++ f.i :: fs2.map (·.i)).Nodup := by rw [← hfi, hfs] at hnd; simpa using hnd
    rw [List.nodup_append] at this
    rcases List.mem_append.1 hg with h | h
    · exact this.2.2 g.i (List.mem_map.2 ⟨g, h, rfl⟩) f.i (by simp) he
    · exact (List.nodup_cons.1 this.2.1).1 (he ▸ List.mem_map.2 ⟨g, h, rfl⟩)
  have hap : ∀ g ∈ fs, g.i ≠ f.i → g.o.apart ops f.o = true := fun g hg hn =>
    (hO g hg).apart f.i f.o (hF f hff).op (Ne.symm hn) (mem_ready.1 (hO f hff).ready).1 (noedge (hO f hff).ready (hF f hff).op (mem_ready.1 (hO g hg).ready).1)
  have hap2 : ∀ g ∈ fs, g.i ≠ f.i → f.o.apart ops g.o = true := fun g hg hn =>
    (hO f hff).apart g.i g.o (hF g hg).op hn (mem_ready.1 (hO g hg).ready).1 (noedge (hO g hg).ready (hF g hg).op (mem_ready.1 (hO f hff).ready).1)
  have hF' : ∀ q, ∀ g ∈ fs1 ++ fs2, FOk P ops w (a.put f.o.dst (f.val q)) g := fun q g hg =>
    (hF g (hsub g hg)).put (nsel hs (hF g (hsub g hg)).op) fun t ht => (Oper.apart_spec (hap2 g (hsub g hg) (hne g hg))).1 t ht
  have hc' : ListedClosed .any ops (bits ops.size m') := h5 ▸ hc.set (hO f hff).ready
  have behind : ∀ (d1 d2 : List (Fo × Qy)) (q : Qy) (rest : List Fo), (((d1 ++ (f, q) :: d2).map (·.1)) ++ rest).Perm fs → ∀ W, Sep w (L ++ partF (d1 ++ (f, q) :: d2)) W → wpAnyLast P .any ops Q (Sep w L0) ds (fuel + rest.length) (markF (d1 ++ (f, q) :: d2) (bits ops.size m)) (putF (d1 ++ (f, q) :: d2) a) W := by
    intro d1 d2 q rest hp W H
    have hp' : ((d1 ++ d2).map (·.1) ++ rest).Perm (fs1 ++ fs2) := by
      have e1 : (((d1 ++ (f, q) :: d2).map (·.1)) ++ rest).Perm (f :: ((d1 ++ d2).map (·.1) ++ rest)) := by
        simp only [List.map_append, List.map_cons, List.append_assoc, List.cons_append]
        exact List.perm_middle
      have e2 : fs.Perm (f :: (fs1 ++ fs2)) := by rw [hfs]; exact List.perm_middle
      exact List.Perm.cons_inv (e1.symm.trans (hp.trans e2))
    have hdne : ∀ p ∈ d1 ++ d2, p.1.i ≠ f.i := fun p hpm => hne _ ((mem_of_perm hp').1 p hpm)
    have h6 := k q ⟨st, hT⟩ hPB (hF' q) hc' (d1 ++ d2) rest hp' W (H.perm (by
      show (L ++ partF (d1 ++ (f, q) :: d2)).Perm (f.lo q :: (L ++ partF (d1 ++ d2)))
      unfold partF
      simp only [List.map_append, List.map_cons]
      rw [← List.append_assoc, ← List.append_assoc]
      exact List.perm_middle))
    have e3 : markF (d1 ++ d2) (bits ops.size m') = markF (d1 ++ (f, q) :: d2) (bits ops.size m) := by
      rw [← h5, markF_markI, markF_markI, markI_set]
      clear h6 hp' hdne H hp
      induction d1 with
      | nil => rfl
      | cons p d1 ih => simp only [List.cons_append, List.map_cons, markI]; rw [← ih]; exact set_comm' _ _ _
    have e4 : ∀ (d1 : List (Fo × Qy)), (∀ p ∈ d1 ++ d2, p.1.i ≠ f.i) → (∀ p ∈ d1 ++ d2, p.1 ∈ fs) → putF (d1 ++ d2) (a.put f.o.dst (f.val q)) = putF (d1 ++ (f, q) :: d2) a := by
      intro d1
      induction d1 with
      | nil =>
        intro h7 h8
        exact put_putF d2 (fun p hp t ht => (Oper.apart_spec (hap2 p.1 (h8 p hp) (h7 p hp))).2.1 t ht) a
      | cons p d1 ih =>
        intro h7 h8
        obtain ⟨g, q'⟩ := p
        show (putF (d1 ++ d2) _).put g.o.dst _ = (putF (d1 ++ (f, q) :: d2) a).put g.o.dst _
        rw [ih (fun p hp => h7 p (List.mem_cons_of_mem _ hp)) (fun p hp => h8 p (List.mem_cons_of_mem _ hp))]
    rw [e3, e4 d1 hdne (fun p hpm => hsub _ ((mem_of_perm hp').1 p hpm))] at h6
    exact h6
  have main : ∀ (n : Nat) (d : List (Fo × Qy)) (rest : List Fo), rest.length = n → (d.map (·.1) ++ rest).Perm fs → ∀ W, Sep w (L ++ partF d) W → wpAnyLast P .any ops Q (Sep w L0) ds (fuel + n) (markF d (bits ops.size m)) (putF d a) W := by
    intro n
    induction n with
    | zero =>
      intro d rest hr hp W H
      have hr0 : rest = [] := List.length_eq_zero_iff.1 hr
      subst hr0
      have : f ∈ d.map (·.1) ++ [] := hp.symm.subset hff
      rw [List.append_nil] at this
      obtain ⟨⟨f', q⟩, hpm, rfl⟩ := List.mem_map.1 this
      obtain ⟨d1, d2, rfl⟩ := List.append_of_mem hpm
      exact behind d1 d2 q [] hp W H
    | succ n ih =>
      intro d rest hr hp W H
      obtain ⟨hm1, hm2⟩ := mem_of_perm hp
      by_cases hin : f ∈ d.map (·.1)
      · obtain ⟨⟨f', q⟩, hpm, rfl⟩ := List.mem_map.1 hin
        obtain ⟨d1, d2, rfl⟩ := List.append_of_mem hpm
        have := behind d1 d2 q rest hp W H
        rw [hr] at this
        exact this
      · have hfr : f ∈ rest := by
          have : f ∈ d.map (·.1) ++ rest := hp.symm.subset hff
          rcases List.mem_append.1 this with h | h
          · exact absurd h hin
          · exact h
        have hnd' := idx_nodup hp hfi hnd
        rw [List.nodup_append] at hnd'
        rw [markF_markI]
        have hready : ∀ g ∈ rest, g.i ∈ Region.ready .any ops (markI (d.map (·.1.i)) (bits ops.size m)) := fun g hg =>
          ready_keep (hO g (hm2 g hg)).ready fun h => hnd'.2.2 g.i h g.i (List.mem_map.2 ⟨g, hg, rfl⟩) rfl
        refine ⟨fun h0 => ?_, fun j hj => ?_⟩
        · have := hready f hfr
          rw [h0] at this
          cases this
        · have hjr : ∃ g ∈ rest, j = g.i := by
            by_cases hjf : j ∈ fi
            · rw [← hfi] at hjf
              obtain ⟨g, hg, rfl⟩ := List.mem_map.1 hjf
              have : g ∈ d.map (·.1) ++ rest := hp.symm.subset hg
              rcases List.mem_append.1 this with h | h
              · obtain ⟨p, hp', rfl⟩ := List.mem_map.1 h
                exact absurd (List.mem_map.2 ⟨p, hp', rfl⟩) (markI_un.1 (mem_ready.1 hj).1).2
              · exact ⟨g, h, rfl⟩
            · have hdi : ∀ i ∈ d.map (·.1.i), i ∈ fi' := fun i hi => by
                obtain ⟨p, hp', rfl⟩ := List.mem_map.1 hi
                have hpf := hm1 p hp'
                have hpn : p.1 ≠ f := fun he => hin (he ▸ List.mem_map.2 ⟨p, hp', rfl⟩)
                rw [hfs] at hpf
                rw [← hfi']
                refine List.mem_map.2 ⟨p.1, ?_, rfl⟩
                rcases List.mem_append.1 hpf with h | h
                · exact List.mem_append_left _ h
                · rcases List.mem_cons.1 h with h | h
                  · exact absurd h hpn
                  · exact List.mem_append_right _ h
              have hjf' : j ∉ fi' := fun h => hjf (by
                rw [← hfi'] at h
                obtain ⟨g, hg, rfl⟩ := List.mem_map.1 h
                exact hfi ▸ List.mem_map.2 ⟨g, hsub g hg, rfl⟩)
              exact ⟨f, hfr, h4 j (ready_sub hdi hj hjf')⟩
          obtain ⟨g, hg, rfl⟩ := hjr
          have hgf := hm2 g hg
          obtain ⟨r1, r2, rfl⟩ := List.append_of_mem hg
          have hapd : ∀ p ∈ d, p.1.o.apart ops g.o = true := fun p hp' => by
            have hpf := hO _ (hm1 p hp')
            refine hpf.apart g.i g.o (hF g hgf).op ?_ (mem_ready.1 (hO g hgf).ready).1 (noedge (hO g hgf).ready (hF g hgf).op (mem_ready.1 hpf.ready).1)
            intro he
            exact hnd'.2.2 p.1.i (List.mem_map.2 ⟨p, hp', rfl⟩) g.i (by simp) he.symm
          refine free_op (FOk.putF (nsel hs (hF g hgf).op) (hF g hgf) d hapd) H fun q W' hb H' => ⟨fun _ h0 => h0.step hb, ?_⟩
          have h1 := ih ((g, q) :: d) (r1 ++ r2) (by simp at hr ⊢; omega) (perm_step q hp) W' (H'.perm (by show (g.lo q :: (L ++ partF d)).Perm (L ++ g.lo q :: partF d); exact List.perm_middle.symm))
          rw [markF_markI] at h1
          exact h1
  exact main rest.length d rest rfl hp W H
theorem ch_tk {i : Nat} (k : ∃ v, YieldsIf P ops (Sep w L0) o v a ∧ Ch P ops T Q ds w L0 fs fuel m' (a.put o.dst v) L) (hfi : fs.map (·.i) = fi) (hb : tkB T ds fi m m' i = true) (ho : nthO ops.toList i = some o) (hS : ∀ F W, Sep w (L ++ F) W → Sep w L0 W) : Ch P ops T Q ds w L0 fs (fuel + 1) m a L := by
  obtain ⟨v, hy, k⟩ := k
  rintro ⟨st, hT⟩ hPB hF hc d rest hp W H
  simp only [tkB, Bool.and_eq_true, Bool.not_eq_true'] at hb
  obtain ⟨⟨⟨⟨⟨h1, h2⟩, h3⟩, h4⟩, h5⟩, h6⟩ := hb
  have h2 : i ∉ fi := not_has h2
  have h4 : i ∈ Region.ready .any ops (bits ops.size m) := (rdyT_iff hT).1 h4
  have h6 : (bits ops.size m).setIfInBounds i true = bits ops.size m' := by rw [bits_set, Nat.eq_of_beq_eq_true h6]
  obtain ⟨hs, hnd, hO⟩ := frB_spec hT hF hfi h1
  have ho' := nthO_is ho
  have hsel := nsel hs ho'
  obtain ⟨hm1, hm2⟩ := mem_of_perm hp
  have hdi : ∀ i ∈ d.map (·.1.i), i ∈ fi := fun i hi => by
    obtain ⟨p, hp', rfl⟩ := List.mem_map.1 hi
    exact hfi ▸ List.mem_map.2 ⟨p.1, hm1 p hp', rfl⟩
  have hcd : i ∉ d.map (·.1.i) := fun h => h2 (hdi i h)
  have hap : ∀ f ∈ fs, f.o.apart ops o = true := fun f hf => by
    have hpf := hO _ hf
    exact hpf.apart i o ho' (fun he => h2 (hfi ▸ List.mem_map.2 ⟨f, hf, he.symm⟩)) (mem_ready.1 h4).1 (noedge h4 ho' (mem_ready.1 hpf.ready).1)
  have hF' : ∀ f ∈ fs, FOk P ops w (a.put o.dst v) f := fun f hf =>
    (hF f hf).put (nsel hs (hF f hf).op) fun t ht => (Oper.apart_spec (hap f hf)).2.2 t ht
  have hy' : ∀ d : List (Fo × Qy), (∀ p ∈ d, p.1 ∈ fs) → YieldsIf P ops (Sep w L0) o v (putF d a) := by
    intro d
    induction d with
    | nil => exact fun _ => hy
    | cons p d ih =>
      intro hd
      obtain ⟨f, q⟩ := p
      have hfa := (Oper.apart_spec (hap f (hd _ List.mem_cons_self))).1
      exact (ih fun p hp => hd p (List.mem_cons_of_mem _ hp)).of_same (execOp_put o hsel _ f.o.dst _ hfa) (wanted_put o _ f.o.dst _ hfa)
  have h7 := k ⟨st, hT⟩ hPB hF' (h6 ▸ hc.set h4) d rest hp W H
  rw [markF_markI, ← h6, markI_set, put_putF d (fun p hp' t ht => fun he => (Oper.apart_spec (hap p.1 (hm1 p hp'))).2.1 t he ht)] at h7
  rw [markF_markI]
  have hfr := frT_spec hT ho' h3
  have e : fuel + 1 + rest.length = (fuel + rest.length) + 1 := by omega
  rw [e]
  refine wpAnyLast_first ho' (Region.noSelect_spec hs) (fun c a w h => (hPB c a _ v w).1 h) ops.size _ _ _ W (fun j oj hj hji hun hno => hfr j oj hj hji (markI_un.1 hun).1 hno) (closed_markI hc _ fun i hi => ?_) (fun x hx hun => ?_) (ready_keep h4 hcd) (hy' d hm1) (hS _ _ H) h7
  · obtain ⟨p, hp', rfl⟩ := List.mem_map.1 hi
    exact (hO _ (hm1 p hp')).ready
  · have := List.all_eq_true.1 h5 x hx
    rw [(bits_un.1 (markI_un.1 hun).1).2, Bool.false_or] at this
    rw [← sk_len hT]
    exact reachT_eq hT i _ _ this
theorem ch_add {f : Fo} (h : FOk P ops w a f) (k : Ch P ops T Q ds w L0 (f :: fs) fuel m a L) : Ch P ops T Q ds w L0 fs (fuel + 1) m a L := by
  rintro ⟨st, hT⟩ hPB hF hc d rest hp W H
  have := k ⟨st, hT⟩ hPB (fun g hg => by rcases List.mem_cons.1 hg with rfl | hg; exact h; exact hF g hg) hc d (f :: rest) ((List.perm_middle (l₁ := d.map (·.1)) (l₂ := rest) (a := f)).trans (hp.cons f)) W H
  rw [show fuel + 1 + rest.length = fuel + (f :: rest).length by simp; omega]
  exact this
theorem ch_dn (k : ∀ W, Aside0 (Sep w L W) → Q .normal a W) (h : ∀ j ∈ upTo T.length, rdyT T m [] j = false) : Ch P ops T Q ds w L0 [] fuel m a L := by
  rintro ⟨st, hT⟩ _ _ _ d rest hp W H
  obtain ⟨h1, h2⟩ := List.append_eq_nil_iff.1 hp.eq_nil
  have h1 : d = [] := by simpa using h1
  subst h1
  subst h2
  refine wpAnyLast_done ?_ (k W ⟨by simpa [partF] using H⟩) _
  refine List.eq_nil_iff_forall_not_mem.2 fun j hj => ?_
  have hlt : j < T.length := by
    obtain ⟨_, o, ho, _⟩ := mem_ready.1 hj
    rw [sk_len hT]
    exact (Array.getElem?_eq_some_iff.1 ho).1
  have := h j (mem_upTo.2 hlt)
  rw [(rdyT_iff hT (fi := [])).2 hj] at this
  cases this
def Ea (P : Program) (ops : Array Oper) (T : List Sk) (Q : Exit → Act → World → Prop) (ds : List Nat) (w : World) (L0 : List As) (fs : List Fo) (fuel m : Nat) (a : Act) (L : List As) (rs : List Nat) : Prop := ∀ j ∈ rs, Os P ops T Q ds w L0 fs fuel m a L j
theorem ea_nil : Ea P ops T Q ds w L0 fs fuel m a L [] := fun j hj => by cases hj
end
end
def findT : List Nat → (Nat → Bool) → Option Nat
  | [], _ => none
  | x :: l, p => match p x with
    | true => some x
    | false => findT l p
theorem findT_some {p : Nat → Bool} {j : Nat} : ∀ {l : List Nat}, findT l p = some j → p j = true
  | [], h => by cases h
  | x :: l, h => by
    unfold findT at h
    split at h
    · rename_i hx; injection h with h; subst h; exact hx
    · exact findT_some h
def getT (n : Nat) : Option Nat → Nat
  | some j => j
  | none => n
def rangeT (T : List Sk) : List Nat := (upTo T.length).reverse
def nextC (T : List Sk) (ds fi : List Nat) (m : Nat) : Nat := getT T.length (findT (rangeT T) fun ix => rdyT T m [] ix && Nat.beq (skAt T ix).k 1 && tkB T ds fi m (m + 2 ^ ix) ix)
def isFr (T : List Sk) (ix : Nat) : Bool := Nat.beq (skAt T ix).k 2
def freeN (T : List Sk) (ds fi : List Nat) (m : Nat) : Nat :=
  let cand := (rangeT T).filter fun ix => rdyT T m [] ix && isFr T ix
  let rs := (rangeT T).filter fun j => rdyT T m cand j && !(Nat.beq (skAt T j).k 1)
  let many := match rs with
    | _ :: _ :: _ => true
    | _ => false
  getT T.length (findT cand fun ix => !hasN fi ix && !(many && rs.any fun x => hasN (skAt T x).d ix) && frB T ds (ix :: fi) m)
def opsN (T : List Sk) (fi : List Nat) (m : Nat) : List Nat := (rangeT T).filter fun ix => rdyT T m [] ix && !hasN fi ix
def abN (T : List Sk) (ds fi : List Nat) (m : Nat) : Nat := getT fi.length (findT (upTo fi.length).reverse fun k => match fi[k]? with
  | some i => abB T ds fi (fi.eraseIdx k) m (m + 2 ^ i) i
  | none => false)
def stoT (T : List Sk) : List Nat := (rangeT T).filter fun i => Nat.beq (skAt T i).k 3
theorem fiM {P : Prop} (h : P := by simp only [List.map_cons, List.map_nil]; first | (fail_if_success (refine ?_)) | rfl) : P := h
inductive RF : List Fo → Nat → Nat → Oper → (Qy → Value) → (Qy → As) → List Fo → Prop
  | hd {i : Nat} {o : Oper} {val : Qy → Value} {lo : Qy → As} {fs : List Fo} : RF (⟨i, o, val, lo⟩ :: fs) 0 i o val lo fs
  | tl {k i : Nat} {o : Oper} {val : Qy → Value} {lo : Qy → As} {f : Fo} {fs fs' : List Fo} : RF fs k i o val lo fs' → RF (f :: fs) (k + 1) i o val lo (f :: fs')
theorem RF.is {fs fs' : List Fo} {k i : Nat} {o : Oper} {val : Qy → Value} {lo : Qy → As} (h : RF fs k i o val lo fs') : ∃ fs1 fs2, fs = fs1 ++ ⟨i, o, val, lo⟩ :: fs2 ∧ fs' = fs1 ++ fs2 ∧ fs1.length = k := by
  induction h with
  | hd => exact ⟨[], _, rfl, rfl, rfl⟩
  | tl _ ih =>
    obtain ⟨fs1, fs2, h1, h2, h3⟩ := ih
    exact ⟨_ :: fs1, fs2, by rw [h1]; rfl, by rw [h2]; rfl, by rw [List.length_cons, h3]⟩
theorem Sp.left {b : Nat} {W : World} {F : List As} : ∀ {L : List As} {U : Nat → Prop}, Sp b W U (L ++ F) → Sp b W U L
  | [], _, _ => trivial
  | _ :: _, _, ⟨S, h1, h2, h3⟩ => ⟨S, h1, h2, Sp.left h3⟩
theorem Sep.left {w W : World} {L F : List As} (h : Sep w (L ++ F) W) : Sep w L W := ⟨h.below, h.own.left⟩
section
variable {P : Program} {ops : Array Oper} {T : List Sk} {Q : Exit → Act → World → Prop} {ds : List Nat} {w W : World} {L0 : List As} {fs fs' : List Fo} {fi : List Nat} {fuel m m' c k : Nat} {a a' : Act} {L L1 : List As} {o : Oper} {bd : Bool}
theorem find_at {r : List Nat} {p : Nat → Bool} {n ix : Nat} (h : getT n (findT r p) = ix) (hlt : ix < n) : p ix = true := by
  cases hf : findT r p with
  | none => rw [hf] at h; simp only [getT] at h; omega
  | some j =>
    rw [hf] at h
    simp only [getT] at h
    subst h
    exact findT_some hf
def Cz (P : Program) (ops : Array Oper) (T : List Sk) (Q : Exit → Act → World → Prop) (ds : List Nat) (w : World) (L0 : List As) (fs : List Fo) (fuel m : Nat) (bd : Bool) (F : List As) (a : Act) (W : World) : Prop := ∃ L2, Sep w (L2 ++ F) W ∧ (bd = false → Sep w L0 W) ∧ Ch P ops T Q ds w L0 fs fuel m a L2
theorem cz_ {F L2 : List As} (H : Aside0 (Sep w L W)) (k : Ch P ops T Q ds w L0 fs fuel m a L2) (p : Ap F L2 L := by exact apM) (h : bd = false → Sep w L0 W := by first | (intro h; cases h; fail_if_success (refine ?_)) | exact fun _ => Sep.pk pkM H.out) : Cz P ops T Q ds w L0 fs fuel m bd F a W :=
  ⟨L2, p.is ▸ H.out, h, k⟩
theorem gCh (h : Ch P ops T Q ds w L0 fs fuel m a L) : Ch P ops T Q ds w L0 fs fuel m a L := h
theorem gCz {F : List As} (h : Cz P ops T Q ds w L0 fs fuel m bd F a W) : Cz P ops T Q ds w L0 fs fuel m bd F a W := h
theorem gEa {rs : List Nat} (h : Ea P ops T Q ds w L0 fs fuel m a L rs) : Ea P ops T Q ds w L0 fs fuel m a L rs := h
theorem ct_ {ix : Nat} (k : Tk P ops (Sep w L0) o a fun a => Ch P ops T Q ds w L0 fs fuel m' a L) (hfi : fs.map (·.i) = fi := by exact fiM) (hc : nextC T ds fi m = ix := by conv => lhs; reduce) (ho : nthO ops.toList ix = some o := by rfl) (hm : m + 2 ^ ix = m' := by exact litM)
    (hlt : Nat.blt ix T.length = true := by decide +kernel) (hS : Pk L L0 := by exact pkM) : Ch P ops T Q ds w L0 fs (fuel + 1) m a L := by
  have h := find_at hc (by simpa using hlt)
  simp only [Bool.and_eq_true] at h
  exact ch_tk k hfi (hm ▸ h.2) ho (fun F W H => Sep.pk hS H.left)
theorem ce_ {rs : List Nat} (k : Ea P ops T Q ds w L0 fs fuel m a L rs) (hfi : fs.map (·.i) = fi := by exact fiM) (hr : opsN T fi m = rs := by conv => lhs; reduce) (h : opsB T ds fi m rs = true := by decide +kernel) : Ch P ops T Q ds w L0 fs (fuel + 1) m a L := ch_ops k hfi h
theorem cc2_ {rs : List Nat} {i : Nat} {LF : List As → List As} (k1 : ∀ F W, Aside0 (Sep w (LF F) W) → St P ops Q o (Cz P ops T Q ds w L0 fs fuel m' bd F) a W) (k2 : Ea P ops T Q ds w L0 fs fuel m a L rs) (ho : nthO ops.toList i = some o := by rfl) (hd : hasN ds i = bd := by rfl) (hm : m + 2 ^ i = m' := by exact litM) (hm2 : Nat.beq (m ||| 2 ^ i) m' = true := by decide +kernel)
    (hL : ∀ F, Ap F L (LF F) := by intro F; exact apM) : Ea P ops T Q ds w L0 fs fuel m a L (i :: rs) := fun j hj => by
  by_cases he : j = i
  · subst he
    exact ⟨o, m', bd, nthO_is ho, hd, Nat.eq_of_beq_eq_true hm2, fun F W H => k1 F W ⟨(hL F).is ▸ H⟩⟩
  · exact k2 j ((List.mem_cons.1 hj).resolve_left he)
theorem ca2_ {j i : Nat} {N : Option Tmp} {val : Qy → Value} {lo : Qy → As} {a2 : Qy → Act} (k : ∀ q, Ch P ops T Q ds w L0 fs' fuel m' (a2 q) (lo q :: L)) (hfi : fs.map (·.i) = fi := by exact fiM)
    (hc : abN T ds fi m = j := by conv => lhs; reduce) (hr : RF fs j i o val lo fs' := by (with_reducible repeat (first | apply RF.hd | apply RF.tl)); fail_if_success (refine ?_)) (hm : m + 2 ^ i = m' := by exact litM) (hN : o.dst = N := by rfl) (ha : ∀ q, a.put N (val q) = a2 q := by intro q; exact putM) : Ch P ops T Q ds w L0 fs fuel m a L := by
  obtain ⟨fs1, fs2, h1, h2, h3⟩ := hr.is
  have hl : fi.length = fs.length := by rw [← hfi, List.length_map]
  have hj : j < fi.length := by rw [hl, h1, ← h3]; simp
  have h := find_at hc hj
  have hget : fi[j]? = some i := by rw [← hfi, h1, List.map_append, List.getElem?_append_right (by simp [h3])]; simp [h3]
  simp only [hget] at h
  have he : (fs1 ++ fs2).map (·.i) = fi.eraseIdx j := by
    rw [← hfi, h1, List.map_append, List.map_append, List.eraseIdx_append_of_length_le (by simp [h3])]
    simp [h3]
  subst h2
  refine ch_ab (fun q => ?_) h1 hfi he rfl (hm ▸ h)
  have := k q
  rw [← ha q, ← hN] at this
  exact this
theorem cd_ (k : ∀ W, Aside0 (Sep w L W) → Q .normal a W) (h : ((upTo T.length).all fun j => !rdyT T m [] j) = true := by decide +kernel) : Ch P ops T Q ds w L0 [] fuel m a L :=
  ch_dn k fun j hj => by simpa using List.all_eq_true.1 h j hj
theorem rs_ {id n : Nat} {st : List Nat} (H : Aside0 (Sep w L W)) (k : Ch P ops T Q ds w L0 [] n 0 a L) (I : StrT P st := by infer_instance) (hT : skels st ops = T := by conv => lhs; reduce) (hb : Bo L L0 := by exact boM) (hd : stoT T = ds := by conv => lhs; reduce) (hn : ops.size = n := by rfl) (hm : P.follows .mixedOrders = true := by kernel_rfl) (hPB : PB Q := by intro c a dst v W; cases dst <;> exact Iff.rfl) : (Code.region id ops true).wp P Q a W := by
  refine wp_region_last hm (S := Sep w L0) (ds := ds) ?_
  have hc : ListedClosed .any ops (bits ops.size 0) := fun j oj _ hl => by have := (bits_in.1 hl).2; simp at this
  have h1 := k ⟨st, hT⟩ hPB (by simp) hc [] [] (List.Perm.refl _) W.drew (by simpa [partF] using H.out.drew)
  have h0 : Array.replicate ops.size false = bits ops.size 0 := by
    apply Array.ext
    · simp [bits]
    · intro i h1 h2
      simp [bits]
  rw [h0]
  subst hn
  simpa [markF, putF] using h1
end
end Go.Proofs.Ytlpghnhcgljhoaa.SP
end
section
namespace Go.Proofs.Ytlpghnhcgljhoaa.SP
open Go.RowKit Go.Proofs.YtlpghnhcgljhoaaW.PrintWords Go.Proofs.YtlpghnhcgljhoaaW.PrintLast Go.Proofs.Ytlpghnhcgljhoaa.LK Go.Proofs.YtlpghnhcgljhoaaW.PrintMore
set_option linter.unusedVariables false
class Sc {α : Type} (d : Kd α) (cells : outParam (α → List Value)) (of : outParam (List Value → α)) : Prop where
  m : ∀ (w : World) (b : Nat) (ok : Nat → Prop) (x : α), d.M w b ok x (cells x)
  k : ∀ {w x c}, d.K w x c → c = cells x
class Zk {α : outParam Type} (P : Program) (T : Nat) (d : outParam (Kd α)) (z0 : outParam α) : Prop where
  z : ∀ (w : World) (b : Nat) (ok : Nat → Prop) {e n bytes : Nat} {zv : Value}, Sl P T e n bytes zv → d.M w b ok z0 zv.cells.toList
  s : ∀ {e n bytes : Nat} {zv : Value}, Sl P T e n bytes zv → d.sz = n
theorem Zk.of {α : Type} {P : Program} {T : Nat} {d : Kd α} {z0 : α} (e n bytes : Nat) (zv : Value) (I : Sl P T e n bytes zv) (h : ∀ (w : World) (b : Nat) (ok : Nat → Prop), d.M w b ok z0 zv.cells.toList) (hs : d.sz = n) : Zk P T d z0 :=
  ⟨fun w b ok {e' n' bytes' zv'} J => by
    have h1 := I.u; have h2 := J.u
    rw [h1] at h2
    injection h2 with h2
    injection h2 with h2
    subst h2
    have h3 := I.i.symm.trans J.i
    injection h3 with h3
    injection h3 with h3 _
    injection h3 with h3
    subst h3
    exact h w b ok, fun {e' n' bytes' zv'} J => by
    have h1 := I.u; have h2 := J.u
    rw [h1] at h2
    injection h2 with h2
    injection h2 with h2
    subst h2
    have h3 := I.i.symm.trans J.i
    injection h3 with h3
    injection h3 with _ h3
    injection h3 with h3 _
    exact hs.trans h3⟩
instance {k : IntKind} : Sc (Kd.int k) (fun x => [.int k x]) (fun l => match l with | [.int _ n] => n | _ => 0) := ⟨fun _ _ _ _ => rfl, fun h => h⟩
instance : Sc Kd.bool (fun x => [.bool x]) (fun l => match l with | [.bool n] => n | _ => false) := ⟨fun _ _ _ _ => rfl, fun h => h⟩
inductive LitC {α : Type} (d : Kd α) : List Value → List α → Prop
  | nil : LitC d [] []
  | cell {cells : α → List Value} {of : List Value → α} {v : Value} {cs : List Value} {x : α} {xs : List α} (I : Sc d cells of) (hx : of [v] = x) (hc : cells x = [v]) : LitC d cs xs → LitC d (v :: cs) (x :: xs)
  | whole {cells : α → List Value} {of : List Value → α} {cs : List Value} {x : α} (I : Sc d cells of) (hx : of cs = x) (hc : cells x = cs) : LitC d cs [x]
theorem reps_cons {α : Type} {R : α → List Value → Prop} {sz : Nat} {c cs : List Value} {x : α} {xs : List α} (hm : R x c) (hl : c.length = sz) (h1 : Reps R sz xs cs) : Reps R sz (x :: xs) (c ++ cs) := by
  refine ⟨by rw [List.length_append, hl, h1.1, List.length_cons, Nat.add_mul, Nat.one_mul, Nat.add_comm], fun j p hj => ?_⟩
  cases j with
  | zero =>
    have : x = p := by simpa using hj
    subst this
    rw [Nat.zero_mul, List.drop_zero, ← hl, List.take_left]
    exact hm
  | succ j =>
    have h2 := h1.2 j p (by simpa using hj)
    have e : (c ++ cs).drop ((j + 1) * sz) = cs.drop (j * sz) := by
      rw [List.drop_append, List.drop_of_length_le (by rw [hl, Nat.add_mul]; omega), List.nil_append, hl]
      congr 1
      rw [Nat.add_mul]
      omega
    rw [e]
    exact h2
theorem LitC.reps {α : Type} {d : Kd α} (w : World) (b : Nat) (ok : Nat → Prop) : ∀ {cs : List Value} {xs : List α}, LitC d cs xs → Reps (d.M w b ok) d.sz xs cs
  | _, _, .nil => Reps.none _ _
  | _, _, .cell (v := v) (x := x) I _ hc h => by
    have hm : d.M w b ok x [v] := hc ▸ I.m w b ok x
    exact reps_cons hm (d.K_len (d.K_of_M hm)) (LitC.reps w b ok h)
  | _, _, .whole (cs := cs) (x := x) I _ hc => by
    have hm : d.M w b ok x cs := hc ▸ I.m w b ok x
    have := reps_cons hm (d.K_len (d.K_of_M hm)) (Reps.none _ _)
    rwa [List.append_nil] at this
theorem litlM {P : Prop} (h : P := by (repeat' (first | apply LitC.nil | (exact LitC.whole (by infer_instance) (by exact ofM) (by rfl)) | (refine' LitC.cell (by infer_instance) (by exact ofM) (by rfl) ?_))); fail_if_success (refine ?_)) : P := h
theorem limM {P : Prop} (h : P := by first | (with_reducible assumption) | assumption) : P := h
theorem len1 {α : Type} {xs : List α} {x : α} {n : Nat} (h : Aside0 (xs.length < n)) : xs.length + [x].length ≤ n := h.out
theorem lenM {P : Prop} (h : P := by first | exact Nat.le_of_lt (Aside0.out (by assumption)) | exact len1 (by assumption)) : P := h
theorem ofM {P : Prop} (h : P := by first | (dsimp only; fail_if_success (refine ?_)) | (dsimp only; rfl) | rfl) : P := h
section
variable {P : Program} {ops : Array Oper} {a a' : Act} {Q : Exit → Act → World → Prop} {C : Act → World → Prop} {w W : World} {L L1 L2 : List As} {N : Option Tmp} {ty : TypeId} {pos : String} {af : Array Edge} {gd : Option (Nat × Bool)} {T g o n t e z b m c lim : Nat} {zv : Value} {f : List Value → Value} {cs cs' seg : List Value} {x i p s y : Operand} {u v : Value} {pt : Addr} {ob : Oper} {A : Option Addr} {kk : IntKind} {j jj : Int}
variable {α : Type} {d : Kd α} {xs ys : List α} {x' : α} {cells : α → List Value} {of : List Value → α}
theorem Upd.put_row {W' : World} {L : List As} (H : Sep w L W) (hb : Below W.heap.size W W') (h : d.R e W' W.heap.size (fun _ => True) v xs) : Sep w (row d e v xs :: L) W' :=
  H.put hb (Kd.R_mono (Kd.R_bound h) fun k hk => ⟨hk.2.1, hk.2.2.1⟩)
theorem mk_ {z0 : α} {a2 : Option Addr → Nat → Nat → Act} [I : Sl P T e z b zv] (H : Aside0 (Sep w L W)) (k : ∀ A n c W', Aside0 (Sep w (row d e (.slice A n c) (List.replicate j.toNat z0) :: L) W') → C (a2 A n c) W')
    (hx : a.eval x = .int .i64 j := by rfl) (hy : a.eval y = .int .i64 j := by rfl) (Z : Zk P T d z0 := by infer_instance) (h0 : decide (0 ≤ j) = true := by exact idxM) (hl : decide (j.toNat ≤ lim) = true := by exact limM) (hlim : Nat.ble (lim * b) 281474976710656 = true := by exact rfl)
    (ha : ∀ A n c, a.put N (.slice A n c) = a2 A n c := by intro A n c; exact putM) (hN : N.isSome = true := by rfl) (hw : Region.wanted ⟨N, .makeSlice T x y, ty, pos, af, gd⟩ (yielded ops a.tmps) = true := by rfl) : St P ops Q ⟨N, .makeSlice T x y, ty, pos, af, gd⟩ C a W := by
  intro K hK
  obtain ⟨N', rfl⟩ := Option.isSome_iff_exists.1 hN
  have hs := Z.s I
  have h1 : j.toNat ≤ lim := of_decide_eq_true hl
  have h2 : lim * b ≤ 281474976710656 := Nat.le_of_ble_eq_true hlim
  have h3 : j.toNat * b ≤ 281474976710656 := Nat.le_trans (Nat.mul_le_mul_right _ h1) h2
  refine Kd.R_make_step d (w0 := W) W.heap.size e hw rfl T x y rfl j hx hy I.u zv b (by rw [hs]; exact I.i) (by rw [hs]; exact I.zn) (by rw [hs]; exact I.n0) I.b0 z0 (ok := fun _ => True) (okp := fun _ => True) (Z.z W _ _ I) (fun _ _ => trivial) trivial (of_decide_eq_true h0) h3 (Below.refl _ _) (Nat.le_refl _) ?_
  intro v1 w1 h4 hb _ _
  obtain ⟨A, c, rfl⟩ := Kd.R_slice h4
  refine hK _ _ ?_
  show C (a.put (some N') _) w1
  rw [ha]
  exact k A _ c w1 ⟨Upd.put_row H.out hb h4⟩
theorem bs_ {m2 : Nat} {es : Array (Nat × Operand)} {a2 : Option Addr → Nat → Act} {inner : List Value} [I : Sl P T e z b zv] (H : Aside0 (Sep w L W)) (k : ∀ A c W', Aside0 (Sep w (row d e (.slice A m c) xs :: L) W') → C (a2 A c) W')
    (hrun : (execOp a.eval ⟨N, .buildSlice T m2 es, ty, pos, af, gd⟩).run P W = .ok (.value (.slice (some ⟨W.heap.size, 0, none⟩) m m)) (W.alloc (.cells inner.toArray e)) := by go_simp; first | (fail_if_success (refine ?_)) | rfl | exact ⟨rfl, rfl⟩)
    {z0 : α} (Z : Zk P T d z0 := by infer_instance) (hr : LitC d inner xs := by exact litlM) (hm : xs.length = m := by rfl) (hm2 : Nat.ble m 9223372036854775807 = true := by rfl)
    (ha : ∀ A c, a.put N (.slice A m c) = a2 A c := by intro A c; exact putM) (hN : N.isSome = true := by rfl) (hw : Region.wanted ⟨N, .buildSlice T m2 es, ty, pos, af, gd⟩ (yielded ops a.tmps) = true := by rfl) : St P ops Q ⟨N, .buildSlice T m2 es, ty, pos, af, gd⟩ C a W := by
  intro K hK
  obtain ⟨N', rfl⟩ := Option.isSome_iff_exists.1 hN
  subst hm
  refine Kd.R_lit_step d (w0 := W) W.heap.size e hw rfl (xs := xs) (inner := inner) (ok := fun _ => True) (okp := fun _ => True) hrun (hr.reps W _ _) (fun _ _ => trivial) trivial (Below.refl _ _) (Nat.le_refl _) (Nat.le_of_ble_eq_true hm2) ?_
  intro v1 w1 h4 hb _ _
  obtain ⟨A, c, rfl⟩ := Kd.R_slice h4
  refine hK _ _ ?_
  show C (a.put (some N') _) w1
  rw [ha]
  exact k A c w1 ⟨Upd.put_row H.out hb h4⟩
theorem Sep.re {W' : World} {A1 A2 : As} {S : Nat → Prop} (hb : Below w.heap.size w W) (h1 : ∀ k, S k → w.heap.size ≤ k ∧ k < W.heap.size) (h3 : Sp w.heap.size W (fun k => (w.heap.size ≤ k ∧ k < W.heap.size) ∧ ¬ S k) L) {row : Option Nat} (hg : W.grownBy W' row) (hr : ∀ k, row = some k → S k) (h2 : A2.p w.heap.size W' (fun k => S k ∨ W.heap.size ≤ k ∧ k < W'.heap.size)) : Sep w (A2 :: L) W' := by
  have hz := hb.size
  have u1 : ∀ k, k < W.heap.size → ¬ S k → W'.heap[k]? = W.heap[k]? := fun k hk hn => hg.block k hk (fun he => hn (hr k he.symm))
  refine ⟨⟨hg.os.trans hb.os, hg.tape.trans hb.tape, hg.output.trans hb.output, Nat.le_trans hz hg.size, fun i hi => (u1 i (by omega) (fun hs => by have := (h1 i hs).1; omega)).trans (hb.block i hi)⟩, _, fun k hk => ?_, h2, ?_⟩
  · rcases hk with hk | hk
    · exact ⟨(h1 k hk).1, Nat.lt_of_lt_of_le (h1 k hk).2 hg.size⟩
    · exact ⟨Nat.le_trans hz hk.1, hk.2⟩
  · exact (h3.move fun k hk => u1 k hk.1.2 hk.2).mono (Nat.le_refl _) fun k hk => ⟨⟨hk.1.1, Nat.lt_of_lt_of_le hk.1.2 hg.size⟩, fun hn => hn.elim hk.2 (fun hn => by have := hk.1.2; omega)⟩
theorem ap_ {m2 c2 : Nat} {A2 : Option Addr} {a2 : Option Addr → Nat → Nat → Act} [I : Sl P T e z b zv] (H : Aside0 (Sep w L W)) (k : ∀ A n c W', Aside0 (Sep w (row d e (.slice A n c) (xs ++ ys) :: L1) W') → C (a2 A n c) W')
    (hs : a.eval s = .slice A m c := by rfl) (hx : a.eval x = .slice A2 m2 c2 := by rfl) (r : Rm (row d e (.slice A m c) xs) L L1 := by exact rmM) (D : Sc d cells of := by infer_instance) {z0 : α} (Z : Zk P T d z0 := by infer_instance) (hC : d.C W A2 m2 ys := by exact preM)
    (hl : xs.length + ys.length ≤ lim := by exact lenM) (hlim : Nat.ble (lim * b) 140737488355328 = true := by exact rfl)
    (ha : ∀ A n c, a.put N (.slice A n c) = a2 A n c := by intro A n c; exact putM) (hw : Region.wanted ⟨N, .call { callee := .builtin .append, args := #[s, x], argTypes := #[T, T] }, ty, pos, af, gd⟩ (yielded ops a.tmps) = true := by rfl) : St P ops Q ⟨N, .call { callee := .builtin .append, args := #[s, x], argTypes := #[T, T] }, ty, pos, af, gd⟩ C a W := by
  intro K hK
  have H1 := H.out.rm r
  obtain ⟨S, hS, hp, hL⟩ := H1.own
  have hz := H.out.below.size
  have hs' := Z.s I
  have hl2 : (xs.length + m2) * b ≤ 140737488355328 := by
    have h1 := hC.1
    have h2 := Nat.le_of_ble_eq_true hlim
    exact Nat.le_trans (Nat.mul_le_mul_right _ (by omega)) h2
  refine Kd.R_append_rows_step d (Rr := d.K W) (w0 := W) w.heap.size hw s x T e zv b rfl I.u (by rw [hs']; exact I.i) (by rw [hs']; exact I.zn) (by rw [hs']; exact I.n0) I.b0 (.slice A m c) xs ys A2 m2 c2 (fun k => S k ∨ W.heap.size ≤ k) (fun _ => False) hs hx (Kd.R_mono hp fun _ hk => .inl hk) hC (fun y cs hy => D.k hy ▸ D.m W _ _ y) (fun k hk => hk.elim) (fun k hk => .inr hk) (Below.refl _ _) hz hl2 ?_
  intro v1 w1 h4 _ hg _
  obtain ⟨A', c', rfl⟩ := Kd.R_slice h4
  refine hK _ _ ?_
  show C (a.put N _) w1
  rw [ha]
  refine k A' _ c' w1 ⟨Sep.re (A1 := row d e (.slice A m c) xs) H.out.below hS hL hg (fun k hk => hp.1 k hk) (Kd.R_mono (Kd.R_bound h4) fun k hk => ?_)⟩
  rcases hk.1 with h5 | h5
  · exact .inl h5
  · exact .inr ⟨h5, hk.2.2.1⟩
theorem apn_ {m2 c2 : Nat} {A2 : Option Addr} {a2 : Option Addr → Nat → Nat → Act} [I : Sl P T e z b zv] (H : Aside0 (Sep w L W)) (k : ∀ A n c W', Aside0 (Sep w (row d e (.slice A n c) (([] : List α) ++ ys) :: L) W') → C (a2 A n c) W')
    (hs : a.eval s = .slice none 0 0 := by rfl) (hx : a.eval x = .slice A2 m2 c2 := by rfl) {z0 : α} (Z : Zk P T d z0 := by infer_instance) (D : Sc d cells of := by infer_instance) (hC : d.C W A2 m2 ys := by exact preM)
    (hl : ([] : List α).length + ys.length ≤ lim := by exact lenM) (hlim : Nat.ble (lim * b) 140737488355328 = true := by exact rfl)
    (ha : ∀ A n c, a.put N (.slice A n c) = a2 A n c := by intro A n c; exact putM) (hw : Region.wanted ⟨N, .call { callee := .builtin .append, args := #[s, x], argTypes := #[T, T] }, ty, pos, af, gd⟩ (yielded ops a.tmps) = true := by rfl) : St P ops Q ⟨N, .call { callee := .builtin .append, args := #[s, x], argTypes := #[T, T] }, ty, pos, af, gd⟩ C a W :=
  ap_ (xs := []) (L := row d e (.slice none 0 0) [] :: L) ⟨H.out.pk (.none (pk_refl L))⟩ k hs hx .hd D Z hC hl hlim ha hw
theorem ixw_ {a2 : Nat → Act} [I : Sl P T e z b zv] (H : Aside0 (Sep w L W)) (k : ∀ g, Aside0 (A = some ⟨g, 0, none⟩) → C (a2 g) W) (hx : a.eval x = .slice A m c := by rfl) (hi : a.eval i = .int kk j := by rfl) (r : Rm (row d e (.slice A m c) xs) L L1 := by exact rmM)
    (h0 : decide (0 ≤ j) = true := by exact idxM) (h1 : decide (j < (m : Int)) = true := by exact idxM) (ha : ∀ g, a.put N (.pointer (some ⟨g, j.toNat * z, none⟩)) = a2 g := by intro g; exact putM)
    (hw : Region.wanted ⟨N, .indexAddr T x i, ty, pos, af, gd⟩ (yielded ops a.tmps) = true := by rfl) : St P ops Q ⟨N, .indexAddr T x i, ty, pos, af, gd⟩ C a W := by
  have h0 := of_decide_eq_true h0
  have h1 := of_decide_eq_true h1
  have hR := H.out.row r
  obtain ⟨hm, _, _⟩ := Kd.R_reads' hR
  obtain ⟨g, cap, he, _⟩ := Kd.R_form hR (by omega)
  injection he with he1 he2 he3
  subst he1
  refine st_val hw (v := .pointer (some ⟨g, j.toNat * z, none⟩)) (W1 := W) ?_ (by rw [ha]; exact k g ⟨rfl⟩)
  have hu : P.underlying T = some (.slice (P.elem T)) := by have := I.u; simp [Program.elem, this]
  have hel : P.elem T = e := by have := I.u; simp [Program.elem, this]
  obtain ⟨i0, hi0, hzz⟩ := Option.map_eq_some_iff.1 I.i
  simp only [Prod.mk.injEq] at hzz
  unfold execOp
  have hlt : 0 ≤ j ∧ j < (m : Int) := ⟨h0, by omega⟩
  simp [hx, hi, run_indexAt_slice (h := hu), hel, sizeOf, typeInfo, hi0, hzz.2.1, hlt, add_plain]
theorem stw_ (H : Aside0 (Sep w L W)) (k : ∀ W', Aside0 (Sep w (row d e (.slice A m c) (xs.set jj.toNat x') :: L1) W') → C a W') (hp : a.eval p = .pointer (some ⟨g, jj.toNat * z, none⟩) := by rfl) (hA : Aside0 (A = some ⟨g, 0, none⟩) := by with_reducible assumption) (r : Rm (row d e (.slice A m c) xs) L L1 := by exact rmM)
    (D : Sc d cells of := by infer_instance) (hz : d.sz = z := by rfl) (h0 : decide (0 ≤ jj) = true := by exact idxM) (h1 : decide (jj < (m : Int)) = true := by exact idxM)
    (hx : a.eval x = u := by exact evM) (hu : u.cells.toList = seg := by exact celM) (hxx : of seg = x' := by exact ofM) (hcx : cells x' = seg := by rfl) (ht : (P.info? T).map (·.size) = some seg.length := by kernel_rfl)
    (hw : Region.wanted ⟨none, .store T p x, ty, pos, af, gd⟩ (yielded ops a.tmps) = true := by rfl) : St P ops Q ⟨none, .store T p x, ty, pos, af, gd⟩ C a W := by
  intro K hK
  have h0 := of_decide_eq_true h0
  have h1 := of_decide_eq_true h1
  have hmx := (Kd.R_reads' (H.out.row r)).1
  have H1 := H.out.rm r
  obtain ⟨S, hS, hp2, hL⟩ := H1.own
  have hA := hA.out
  subst hA
  have hM := D.m W w.heap.size (fun _ => False) x'
  rw [hcx] at hM
  have hsl : seg.length = d.sz := d.K_len (d.K_of_M hM)
  have hrd := Kd.R_reads' hp2
  obtain ⟨ad, he, hall⟩ := hrd.2.2.2.2 (by omega)
  injection he with he
  subst he
  obtain ⟨cl, hcl, _, hcell⟩ := hall jj.toNat _ (List.getElem?_eq_getElem (show jj.toNat < xs.length by omega))
  have hcell' : ∀ j u, cl[j]? = some u → W.cell? ⟨g, jj.toNat * d.sz + j, none⟩ = some u := fun j u hu => by rw [← add_plain]; exact hcell j u hu
  have hfull : cl.take 0 ++ seg ++ cl.drop (0 + seg.length) = seg := by rw [List.take_zero, List.nil_append, List.drop_of_length_le (by omega), List.append_nil]
  obtain ⟨hrow, hg⟩ := Kd.R_seg hp2 jj h0 (by omega) (seg := seg) (j := 0) hcl hcell' (by omega) (x' := x') (okp := fun _ => False) (by rw [hfull]; exact hM) (fun _ hk => hk.elim)
  have hrun : (Instr.storeAt T (.pointer (some ⟨g, jj.toNat * d.sz + 0, none⟩)) u).run P W = .ok () (W.setCells g (jj.toNat * d.sz + 0) seg) := by
    obtain ⟨_, inner, hown, hr⟩ := hp2
    rcases hown.2 with ⟨hv, _⟩ | ⟨g', cap', cur, hv, hb, hh, hnc, hcm, hcs, _⟩
    · cases hv
    injection hv with ha _ hc
    injection ha with ha
    injection ha with hg'
    subst hg'; subst hc
    refine run_store_run T u seg hh hu ht ?_ (by rw [← hcx, hcx]; exact d.K_one (d.K_of_M hM))
    have h2 : jj.toNat * d.sz + d.sz ≤ xs.length * d.sz := by rw [← Nat.succ_mul]; exact Nat.mul_le_mul_right _ (by omega)
    have h3 : xs.length * d.sz ≤ c * d.sz := Nat.mul_le_mul_right _ (by omega)
    omega
  rw [if_pos hw]
  unfold Oper.wp execOp
  subst hz
  simp only [hp, hx, Sem.run_bind, Sem.run_pure, Result.andThen_ok]
  rw [Nat.add_zero] at hrun hrow hg
  rw [hrun]
  refine hK _ _ (k _ ⟨Sep.re (A1 := row d e (.slice (some ⟨g, 0, none⟩) m c) xs) H.out.below hS hL hg (fun k hk => by injection hk with hk; exact hp2.1 k (by rw [← hk]; rfl)) (Kd.R_mono hrow fun _ hk => .inl hk)⟩)
theorem stf_ {off o : Nat} {rdf : List α → Int → α} {cells2 : α → (Nat → Option Addr × Nat) → List Value} {fact : α → (Nat → Option Addr × Nat) → World → Prop} {old : List Value} (H : Aside0 (Sep w L W)) (k : ∀ W', Aside0 (Sep w (row d e (.slice A m c) (xs.set jj.toNat x') :: L1) W') → C a W') (hp : a.eval p = .pointer (some ⟨g, o, none⟩)) (ho : o = jj.toNat * z + off) (hA : Aside0 (A = some ⟨g, 0, none⟩) := by with_reducible assumption) (r : Rm (row d e (.slice A m c) xs) L L1 := by exact rmM)
    (D : Sc d cells of := by infer_instance) (O : Opn d rdf cells2 fact := by infer_instance) (hz : d.sz = z := by rfl) (h0 : decide (0 ≤ jj) = true := by exact idxM) (h1 : decide (jj < (m : Int)) = true := by exact idxM) (hold : cells (rdf xs jj) = old := by exact ofM)
    (hx : a.eval x = u := by exact evM) (hu : u.cells.toList = seg := by exact celM) (hxx : of (old.take off ++ seg ++ old.drop (off + seg.length)) = x' := by exact ofM) (hcx : cells x' = old.take off ++ seg ++ old.drop (off + seg.length) := by rfl) (ht : (P.info? T).map (·.size) = some seg.length := by kernel_rfl) (hfit : Nat.ble (off + seg.length) z = true := by rfl) (h1s : ∀ q ∈ seg, q.oneCell' = true := by simp [Value.oneCell'])
    (hw : Region.wanted ⟨none, .store T p x, ty, pos, af, gd⟩ (yielded ops a.tmps) = true := by rfl) : St P ops Q ⟨none, .store T p x, ty, pos, af, gd⟩ C a W := by
  intro K hK
  have h0 := of_decide_eq_true h0
  have h1 := of_decide_eq_true h1
  have hfit := Nat.le_of_ble_eq_true hfit
  have hmx := (Kd.R_reads' (H.out.row r)).1
  have H1 := H.out.rm r
  obtain ⟨S, hS, hp2, hL⟩ := H1.own
  have hA := hA.out
  subst hA
  have hM := D.m W w.heap.size (fun _ => False) x'
  rw [hcx] at hM
  have hrd := Kd.R_reads' hp2
  obtain ⟨ad, he, hall⟩ := hrd.2.2.2.2 (by omega)
  injection he with he
  subst he
  have hget := O.rd xs jj h0 (by omega)
  obtain ⟨cl, hcl, hK2, hcell⟩ := hall jj.toNat _ hget
  have hcl2 : cl = old := (D.k hK2).trans hold
  subst hcl2
  have hcell' : ∀ j u, cl[j]? = some u → W.cell? ⟨g, jj.toNat * d.sz + j, none⟩ = some u := fun j u hu => by rw [← add_plain]; exact hcell j u hu
  obtain ⟨hrow, hg⟩ := Kd.R_seg hp2 jj h0 (by omega) (seg := seg) (j := off) hcl hcell' (by omega) (x' := x') (okp := fun _ => False) hM (fun _ hk => hk.elim)
  have hrun : (Instr.storeAt T (.pointer (some ⟨g, jj.toNat * d.sz + off, none⟩)) u).run P W = .ok () (W.setCells g (jj.toNat * d.sz + off) seg) := by
    obtain ⟨_, inner, hown, hr⟩ := hp2
    rcases hown.2 with ⟨hv, _⟩ | ⟨g', cap', cur, hv, hb, hh, hnc, hcm, hcs, _⟩
    · cases hv
    injection hv with ha _ hc
    injection ha with ha
    injection ha with hg'
    subst hg'; subst hc
    refine run_store_run T u seg hh hu ht ?_ h1s
    have h2 : jj.toNat * d.sz + d.sz ≤ xs.length * d.sz := by rw [← Nat.succ_mul]; exact Nat.mul_le_mul_right _ (by omega)
    have h3 : xs.length * d.sz ≤ c * d.sz := Nat.mul_le_mul_right _ (by omega)
    omega
  rw [if_pos hw]
  unfold Oper.wp execOp
  subst hz
  subst ho
  simp only [hp, hx, Sem.run_bind, Sem.run_pure, Result.andThen_ok]
  rw [hrun]
  refine hK _ _ (k _ ⟨Sep.re (A1 := row d e (.slice (some ⟨g, 0, none⟩) m c) xs) H.out.below hS hL hg (fun k hk => by injection hk with hk; exact hp2.1 k (by rw [← hk]; rfl)) (Kd.R_mono hrow fun _ hk => .inl hk)⟩)
theorem cut_C {l h : Nat} (hC : d.C w A m xs) (hc : m ≤ c) (hl : l ≤ h) (hh : h ≤ m) : d.C w (if c = l then A else A.map (·.add (l * d.sz))) (h - l) ((xs.take h).drop l) := by
  have hm := hC.1
  have e : ((xs.take h).drop l).length = h - l := by rw [List.length_drop, List.length_take]; omega
  refine ⟨e, by have := hC.2.1; omega, fun hp => ?_⟩
  obtain ⟨ad, rfl, hcell⟩ := hC.2.2 (by omega)
  rw [if_neg (by omega)]
  refine ⟨ad.add (l * d.sz), rfl, fun j p hj => ?_⟩
  have hj2 : xs[l + j]? = some p := by
    rw [List.getElem?_drop] at hj
    have := (List.getElem?_eq_some_iff.1 hj).1
    rw [List.length_take] at this
    rwa [List.getElem?_take_of_lt (by omega)] at hj
  obtain ⟨cl, h1, h2, h3⟩ := hcell _ _ hj2
  refine ⟨cl, h1, h2, fun i u hu => ?_⟩
  rw [add_add]
  have := h3 i u hu
  rwa [Nat.add_mul, Nat.add_assoc] at this
theorem sl_core {o' : Oper} {l h : Nat} [I : Sl P T e z b zv] {z0 : α} (Z : Zk P T d z0) (hw : Region.wanted o' (yielded ops a.tmps) = true) (hC : d.C w A m xs) (hc : xs.length ≤ c) (hl : l ≤ h) (hh : h ≤ m)
    (hr : ∀ W', (execOp a.eval o').run P W' = ((sizeOf (P.elem T)).run P W').andThen fun s w => .ok (.value (sliced A l h c s)) w) (k : ∀ A n c, Aside0 (d.C w A n ((xs.take h).drop l)) → Aside0 (((xs.take h).drop l).length ≤ c) → C (a.put o'.dst (.slice A n c)) W) : St P ops Q o' C a W := by
  have hm := hC.1
  have hel : P.elem T = e := by have := I.u; simp [Program.elem, this]
  obtain ⟨i0, hi0, hzz⟩ := Option.map_eq_some_iff.1 I.i
  simp only [Prod.mk.injEq] at hzz
  have hs := Z.s I
  refine st_val hw (v := .slice (if c = l then A else A.map (·.add (l * d.sz))) (h - l) (c - l)) (W1 := W) ?_ (k _ _ _ ⟨cut_C hC (by omega) hl hh⟩ ⟨by rw [List.length_drop, List.length_take]; omega⟩)
  rw [hr W, hel]
  simp [sizeOf, typeInfo, hi0, hzz.2.1, hs, sliced, Result.andThen]
theorem slh_ {a2 : Option Addr → Nat → Nat → Act} {hi : Operand} [I : Sl P T e z b zv] (H : Aside0 (Sep w L W)) (k : ∀ A n c, Aside0 (d.C w A n (xs.take j.toNat)) → Aside0 ((xs.take j.toNat).length ≤ c) → C (a2 A n c) W) (hx : a.eval x = .slice A m c := by rfl) (hj : a.eval hi = .int kk j := by rfl)
    (hC : Aside0 (d.C w A m xs) := by with_reducible assumption) (hc : Aside0 (xs.length ≤ c) := by with_reducible assumption) {z0 : α} (Z : Zk P T d z0 := by infer_instance) (h0 : decide (0 ≤ j) = true := by exact idxM) (h1 : decide (j ≤ (xs.length : Int)) = true := by exact idxM)
    (ha : ∀ A n c, a.put N (.slice A n c) = a2 A n c := by intro A n c; exact putM) (hw : Region.wanted ⟨N, .slice T x none (some hi) none, ty, pos, af, gd⟩ (yielded ops a.tmps) = true := by rfl) : St P ops Q ⟨N, .slice T x none (some hi) none, ty, pos, af, gd⟩ C a W := by
  have h0 := of_decide_eq_true h0
  have h1 := of_decide_eq_true h1
  have hm := hC.out.1
  have hu : P.underlying T = some (.slice (P.elem T)) := by have := I.u; simp [Program.elem, this]
  refine sl_core (I := I) (l := 0) (h := j.toNat) Z hw hC.out hc.out (Nat.zero_le _) (by omega) (fun W' => ?_) (fun A n c h2 h3 => by rw [ha]; exact k A n c h2 h3)
  unfold execOp
  simp [hx, hj, run_sliceAt_slice (h := hu), run_slice_h W' T A m c hu kk j h0 (by have := hc.out; omega)]
  cases (sizeOf (P.elem T)).run P W' <;> rfl
theorem sll_ {a2 : Option Addr → Nat → Nat → Act} {lo : Operand} [I : Sl P T e z b zv] (H : Aside0 (Sep w L W)) (k : ∀ A n c, Aside0 (d.C w A n (xs.drop j.toNat)) → Aside0 ((xs.drop j.toNat).length ≤ c) → C (a2 A n c) W) (hx : a.eval x = .slice A m c := by rfl) (hj : a.eval lo = .int kk j := by rfl)
    (hC : Aside0 (d.C w A m xs) := by with_reducible assumption) (hc : Aside0 (xs.length ≤ c) := by with_reducible assumption) {z0 : α} (Z : Zk P T d z0 := by infer_instance) (h0 : decide (0 ≤ j) = true := by exact idxM) (h1 : decide (j ≤ (xs.length : Int)) = true := by exact idxM)
    (ha : ∀ A n c, a.put N (.slice A n c) = a2 A n c := by intro A n c; exact putM) (hw : Region.wanted ⟨N, .slice T x (some lo) none none, ty, pos, af, gd⟩ (yielded ops a.tmps) = true := by rfl) : St P ops Q ⟨N, .slice T x (some lo) none none, ty, pos, af, gd⟩ C a W := by
  have h0 := of_decide_eq_true h0
  have h1 := of_decide_eq_true h1
  have hm := hC.out.1
  have hu : P.underlying T = some (.slice (P.elem T)) := by have := I.u; simp [Program.elem, this]
  have e1 : xs.take m = xs := by rw [← hm]; exact List.take_length
  refine sl_core (I := I) (l := j.toNat) (h := m) Z hw hC.out hc.out (by omega) (Nat.le_refl _) (fun W' => ?_) (fun A n c h2 h3 => by rw [ha]; rw [e1] at h2 h3; exact k A n c h2 h3)
  unfold execOp
  simp [hx, hj, run_sliceAt_slice (h := hu), run_slice_l W' T A m c hu kk j h0 (by omega)]
  cases (sizeOf (P.elem T)).run P W' <;> rfl
theorem sllh_ {a2 : Option Addr → Nat → Nat → Act} {lo hi : Operand} {k2 : IntKind} {j2 : Int} [I : Sl P T e z b zv] (H : Aside0 (Sep w L W)) (k : ∀ A n c, Aside0 (d.C w A n ((xs.take j2.toNat).drop j.toNat)) → Aside0 (((xs.take j2.toNat).drop j.toNat).length ≤ c) → C (a2 A n c) W) (hx : a.eval x = .slice A m c := by rfl) (hj : a.eval lo = .int kk j := by rfl) (hj2 : a.eval hi = .int k2 j2 := by rfl)
    (hC : Aside0 (d.C w A m xs) := by with_reducible assumption) (hc : Aside0 (xs.length ≤ c) := by with_reducible assumption) {z0 : α} (Z : Zk P T d z0 := by infer_instance) (h0 : decide (0 ≤ j) = true := by exact idxM) (h1 : decide (j ≤ j2) = true := by exact idxM) (h2 : decide (j2 ≤ (xs.length : Int)) = true := by exact idxM)
    (ha : ∀ A n c, a.put N (.slice A n c) = a2 A n c := by intro A n c; exact putM) (hw : Region.wanted ⟨N, .slice T x (some lo) (some hi) none, ty, pos, af, gd⟩ (yielded ops a.tmps) = true := by rfl) : St P ops Q ⟨N, .slice T x (some lo) (some hi) none, ty, pos, af, gd⟩ C a W := by
  have h0 := of_decide_eq_true h0
  have h1 := of_decide_eq_true h1
  have h2 := of_decide_eq_true h2
  have hm := hC.out.1
  have hu : P.underlying T = some (.slice (P.elem T)) := by have := I.u; simp [Program.elem, this]
  refine sl_core (I := I) (l := j.toNat) (h := j2.toNat) Z hw hC.out hc.out (by omega) (by omega) (fun W' => ?_) (fun A n c h2 h3 => by rw [ha]; exact k A n c h2 h3)
  unfold execOp
  simp [hx, hj, hj2, run_sliceAt_slice (h := hu), run_slice_lh W' T A m c hu kk k2 j j2 h0 h1 (by have := hc.out; omega)]
  cases (sizeOf (P.elem T)).run P W' <;> rfl
theorem li_sl {lo hi mx : Option Operand} {rest : List Oper} (h : St P ops Q ⟨N, .slice T x lo hi mx, ty, pos, af, gd⟩ (wpList P ops Q rest) a W) : wpList P ops Q (⟨N, .slice T x lo hi mx, ty, pos, af, gd⟩ :: rest) a W := st_list h
theorem po1_ {en : Ending} (H : Aside0 (Sep w L W)) (he : en = .returned (.slice A m c) := by rfl) (r : Rm (row d e (.slice A m c) xs) L L1 := by exact rmM) : Po w (fun q => .slice (q 0).1 xs.length (q 0).2) (fun q => [row d e (.slice (q 0).1 xs.length (q 0).2) xs]) en W := by
  have h := (Kd.R_reads' (H.out.row r)).1
  subst h
  exact ⟨fun _ => (A, c), he, H.out.pk (.cons r .nil)⟩
theorem rowLenAt (n : Nat) (H : Aside0 (Sep w L W)) (h : (L.drop n).head? = some (row d e (.slice A m c) xs) := by rfl) (r : Rm (row d e (.slice A m c) xs) L L1 := by exact rmM) : m = xs.length := (Kd.R_reads' (H.out.row r)).1
theorem lpRow (d : Kd α) (e : Nat) (H : Aside0 (Sep w L W)) (r : Rm (row d e v xs) L L1 := by exact rmM) : ∃ V L0, Aside0 (V = v) ∧ Aside0 (L0 = L1) ∧ Aside0 (Sep w (row d e v xs :: L1) W) := ⟨v, L1, ⟨rfl⟩, ⟨rfl⟩, ⟨H.out.rm r⟩⟩
variable {ix : Nat}
theorem fok_bs {m2 : Nat} {es : Array (Nat × Operand)} {inner : List Value} [I : Sl P T e z b zv] {z0 : α}
    (hrun : ∀ W : World, (execOp a.eval ⟨N, .buildSlice T m2 es, ty, pos, af, gd⟩).run P W = .ok (.value (.slice (some ⟨W.heap.size, 0, none⟩) m m)) (W.alloc (.cells inner.toArray e)) := by intro W; go_simp; first | (fail_if_success (refine ?_)) | rfl | exact ⟨rfl, rfl⟩)
    (Z : Zk P T d z0 := by infer_instance) (hr : LitC d inner xs := by exact litlM) (hm : xs.length = m := by rfl) (hm2 : Nat.ble m 9223372036854775807 = true := by rfl)
    (hi : nthO ops.toList ix = some ⟨N, .buildSlice T m2 es, ty, pos, af, gd⟩ := by rfl) (hw : Region.wanted ⟨N, .buildSlice T m2 es, ty, pos, af, gd⟩ (yielded ops a.tmps) = true := by rfl) :
    FOk P ops w a ⟨ix, ⟨N, .buildSlice T m2 es, ty, pos, af, gd⟩, fun q => .slice (q 0).1 m m, fun q => row d e (.slice (q 0).1 m m) xs⟩ := by
  subst hm
  refine ⟨nthO_is hi, hw, fun W hW => ⟨fun _ => (some ⟨W.heap.size, 0, none⟩, xs.length), W.alloc (.cells inner.toArray e), hrun W, below_alloc (Below.refl _ _) _, ?_⟩⟩
  have hrep := hr.reps (d := d) W W.heap.size (fun _ => True)
  refine Kd.R_mono (Kd.R_bound (ok := fun _ => True) (w := W.alloc (.cells inner.toArray e)) (base := W.heap.size) (e := e) (v := .slice (some ⟨W.heap.size, 0, none⟩) xs.length xs.length) (xs := xs) (d := d) ⟨fun k hk => trivial, inner, ?_, ?_⟩) fun k hk => ⟨hk.2.1, hk.2.2.1⟩
  · have h2 := World.ownsRow_lit (base := W.heap.size) (e := e) (size := d.sz) W inner.toArray xs.length (Nat.le_refl _) (by simpa [maxLen] using Nat.le_of_ble_eq_true hm2) (by simpa using hrep.1)
    simpa using h2
  · refine hrep.imp_ (fun p c hp => d.M_mono (fun k hk => ⟨trivial, fun he => ?_⟩) (Kd.M_below (d.M_bound hp) (below_alloc (Below.refl _ _) _)))
    have h3 : k = W.heap.size := by simpa [Value.ownBlock] using he
    have := hk.2.2.1
    omega
theorem fok_box {ob : Oper} {cs : List Value} (hrun : ∀ W : World, (execOp a.eval ob).run P W = .ok (.value (.pointer (some ⟨W.heap.size, 0, none⟩))) (W.alloc (.cells cs.toArray t (0, 0))))
    (hi : nthO ops.toList ix = some ob) (hw : Region.wanted ob (yielded ops a.tmps) = true) : FOk P ops w a ⟨ix, ob, fun q => .pointer (some ⟨(q 0).2, 0, none⟩), fun q => SP.box (q 0).2 cs.toArray t⟩ :=
  ⟨nthO_is hi, hw, fun W hW => ⟨fun _ => (none, W.heap.size), _, hrun W, below_alloc (Below.refl _ _) _, ⟨Nat.le_refl _, blk_lt (blk_new W _)⟩, blk_new W _⟩⟩
theorem fok_bx {T : TypeId} {cs : List Value} (hrun : ∀ W : World, (execOp a.eval ⟨N, .box T x, ty, pos, af, gd⟩).run P W = .ok (.value (.pointer (some ⟨W.heap.size, 0, none⟩))) (W.alloc (.cells cs.toArray t (0, 0))) := by intro W; go_simp; first | (fail_if_success (refine ?_)) | rfl)
    (hi : nthO ops.toList ix = some ⟨N, .box T x, ty, pos, af, gd⟩ := by rfl) (hw : Region.wanted ⟨N, .box T x, ty, pos, af, gd⟩ (yielded ops a.tmps) = true := by rfl) : FOk P ops w a ⟨ix, ⟨N, .box T x, ty, pos, af, gd⟩, fun q => .pointer (some ⟨(q 0).2, 0, none⟩), fun q => SP.box (q 0).2 cs.toArray t⟩ := fok_box hrun hi hw
theorem fok_al {T : TypeId} {cs : List Value} (hrun : ∀ W : World, (execOp a.eval ⟨N, .alloc T, ty, pos, af, gd⟩).run P W = .ok (.value (.pointer (some ⟨W.heap.size, 0, none⟩))) (W.alloc (.cells cs.toArray t (0, 0))) := by intro W; go_simp; first | (fail_if_success (refine ?_)) | rfl)
    (hi : nthO ops.toList ix = some ⟨N, .alloc T, ty, pos, af, gd⟩ := by rfl) (hw : Region.wanted ⟨N, .alloc T, ty, pos, af, gd⟩ (yielded ops a.tmps) = true := by rfl) : FOk P ops w a ⟨ix, ⟨N, .alloc T, ty, pos, af, gd⟩, fun q => .pointer (some ⟨(q 0).2, 0, none⟩), fun q => SP.box (q 0).2 cs.toArray t⟩ := fok_box hrun hi hw
theorem gLd {f : Nat} {C : Act → World → Prop} (h : St P ops Q ⟨N, .load f x, ty, pos, af, gd⟩ C a W) : St P ops Q ⟨N, .load f x, ty, pos, af, gd⟩ C a W := h
theorem gSr {f : Nat} {C : Act → World → Prop} (h : St P ops Q ⟨N, .store f p x, ty, pos, af, gd⟩ C a W) : St P ops Q ⟨N, .store f p x, ty, pos, af, gd⟩ C a W := h
theorem gIx {f : Nat} {C : Act → World → Prop} (h : St P ops Q ⟨N, .indexAddr f p x, ty, pos, af, gd⟩ C a W) : St P ops Q ⟨N, .indexAddr f p x, ty, pos, af, gd⟩ C a W := h
theorem gSl {f : Nat} {lo hi mx : Option Operand} {C : Act → World → Prop} (h : St P ops Q ⟨N, .slice f p lo hi mx, ty, pos, af, gd⟩ C a W) : St P ops Q ⟨N, .slice f p lo hi mx, ty, pos, af, gd⟩ C a W := h
theorem gCa {fn : FuncId} {xs : Array Operand} {ts : Array TypeId} {C : Act → World → Prop} (h : St P ops Q ⟨N, .call { callee := .value (.func fn), args := xs, argTypes := ts }, ty, pos, af, gd⟩ C a W) : St P ops Q ⟨N, .call { callee := .value (.func fn), args := xs, argTypes := ts }, ty, pos, af, gd⟩ C a W := h
theorem gAp {xs : Array Operand} {ts : Array TypeId} {C : Act → World → Prop} (h : St P ops Q ⟨N, .call { callee := .builtin .append, args := xs, argTypes := ts }, ty, pos, af, gd⟩ C a W) : St P ops Q ⟨N, .call { callee := .builtin .append, args := xs, argTypes := ts }, ty, pos, af, gd⟩ C a W := h
theorem shrE8 (x y : Int) : shr .u8 x y = x / 2 ^ min y.toNat 8 := rfl
theorem em8 (x : Int) : x % 4294967296 % 256 = x % 256 := by omega
end
end Go.Proofs.Ytlpghnhcgljhoaa.SP
end
section
namespace Go.Proofs.Ytlpghnhcgljhoaa.SP
open Go.RowKit Go.Proofs.YtlpghnhcgljhoaaW.PrintWords Go.Proofs.YtlpghnhcgljhoaaW.PrintLast Go.Proofs.Ytlpghnhcgljhoaa.LK Go.Proofs.YtlpghnhcgljhoaaW.PrintMore
set_option linter.unusedVariables false
theorem gdM {P : Prop} (h : P := by first | (simp only [List.getD_cons_zero, List.getD_cons_succ]; first | (fail_if_success (refine ?_)) | rfl) | rfl) : P := h
class Mr {α : Type} {β : outParam Type} (d : Kd α) (d1 : outParam (Kd β)) (e1 at_ : outParam Nat) (of : outParam (List Value → List β → α)) (cells : outParam (α → Value → List Value)) (rw_ : outParam (α → List β)) : Prop where
  m : ∀ {w : World} {b : Nat} {ok : Nat → Prop} {x : α} {v : Value}, d1.R e1 w b ok v (rw_ x) → d.M w b ok x (cells x v)
instance {β : Type} {e1 : Nat} {d1 : Kd β} : Mr (Kd.slice e1 d1) d1 e1 0 (fun _ l => l) (fun _ v => [v]) (fun x => x) := ⟨fun {w b ok x v} h => ⟨v, rfl, h⟩⟩
section
variable {P : Program} {ops : Array Oper} {a a' : Act} {Q : Exit → Act → World → Prop} {C : Act → World → Prop} {w W : World} {L L1 L2 : List As} {N : Option Tmp} {ty : TypeId} {pos : String} {af : Array Edge} {gd : Option (Nat × Bool)} {T g o n t e z b m c lim : Nat} {zv : Value} {cs cs' seg : List Value} {x i p s y : Operand} {u v : Value} {pt : Addr} {ob : Oper} {A : Option Addr} {kk : IntKind} {j jj : Int}
variable {α β : Type} {d : Kd α} {d1 : Kd β} {e1 at_ : Nat} {of : List Value → List β → α} {cells : α → Value → List Value} {rw_ : α → List β} {xs ys : List α} {x' : α} {l : List β}
theorem bsr_ {m2 : Nat} {es : Array (Nat × Operand)} {a2 : Option Addr → Nat → Act} {inner : List Value} {v1 : Value} [I : Sl P T e z b zv] (H : Aside0 (Sep w L W)) (k : ∀ A c W', Aside0 (Sep w (row d e (.slice A 1 c) [x'] :: L1) W') → C (a2 A c) W')
    (hrun : (execOp a.eval ⟨N, .buildSlice T m2 es, ty, pos, af, gd⟩).run P W = .ok (.value (.slice (some ⟨W.heap.size, 0, none⟩) 1 1)) (W.alloc (.cells inner.toArray e)) := by go_simp; first | (fail_if_success (refine ?_)) | rfl | exact ⟨rfl, rfl⟩)
    {z0 : α} (Z : Zk P T d z0 := by infer_instance) (D : Mr d d1 e1 at_ of cells rw_ := by infer_instance) (hv : inner.getD at_ undef = v1 := by exact gdM) (r : Rm (row d1 e1 v1 l) L L1 := by exact rmM) (hx : of inner l = x' := by exact ofM) (hcx : cells x' v1 = inner := by rfl) (hl : rw_ x' = l := by rfl)
    (ha : ∀ A c, a.put N (.slice A 1 c) = a2 A c := by intro A c; exact putM) (hN : N.isSome = true := by rfl) (hw : Region.wanted ⟨N, .buildSlice T m2 es, ty, pos, af, gd⟩ (yielded ops a.tmps) = true := by rfl) : St P ops Q ⟨N, .buildSlice T m2 es, ty, pos, af, gd⟩ C a W := by
  intro K hK
  obtain ⟨N', rfl⟩ := Option.isSome_iff_exists.1 hN
  have H1 := H.out.rm r
  obtain ⟨S, hS, hp, hL⟩ := H1.own
  have hz := H.out.below.size
  subst hl
  have hM : d.M W w.heap.size S x' inner := by rw [← hcx]; exact D.m hp
  have hlen : inner.length = d.sz := d.K_len (d.K_of_M hM)
  have hrep : Reps (d.M W w.heap.size S) d.sz [x'] inner := by have := reps_cons hM hlen (Reps.none _ _); rwa [List.append_nil] at this
  refine Kd.R_lit_step d (w0 := w) w.heap.size e hw rfl (xs := [x']) (inner := inner) (ok := fun k => S k ∨ W.heap.size ≤ k) (okp := S) hrun hrep (fun k hk => .inl hk) (.inr (Nat.le_refl _)) H.out.below hz (by simp) ?_
  intro v2 w1 h4 hb hg _
  obtain ⟨A', c', rfl⟩ := Kd.R_slice h4
  refine hK _ _ ?_
  show C (a.put (some N') _) w1
  rw [show ([x'] : List α).length = 1 from rfl, ha]
  refine k A' c' w1 ⟨Sep.re (A1 := row d1 e1 v1 (rw_ x')) H.out.below hS hL hg (fun k hk => by cases hk) (Kd.R_mono (Kd.R_bound h4) fun k hk => ?_)⟩
  rcases hk.1 with h5 | h5
  · exact .inl h5
  · exact .inr ⟨h5, hk.2.2.1⟩
theorem apo_ {m2 c2 : Nat} {A2 : Option Addr} {a2 : Option Addr → Nat → Nat → Act} {e2 : Nat} [I : Sl P T e z b zv] (H : Aside0 (Sep w L W)) (k : ∀ A n c W', Aside0 (Sep w (row d e (.slice A n c) (xs ++ ys) :: L2) W') → C (a2 A n c) W')
    (hs : a.eval s = .slice A m c := by rfl) (hx : a.eval x = .slice A2 m2 c2 := by rfl) (r : Rm (row d e (.slice A m c) xs) L L1 := by exact rmM) (r2 : Rm (row d e2 (.slice A2 m2 c2) ys) L1 L2 := by exact rmM) {z0 : α} (Z : Zk P T d z0 := by infer_instance)
    (hl : xs.length + ys.length ≤ lim := by exact lenM) (hlim : Nat.ble (lim * b) 140737488355328 = true := by exact rfl)
    (ha : ∀ A n c, a.put N (.slice A n c) = a2 A n c := by intro A n c; exact putM) (hw : Region.wanted ⟨N, .call { callee := .builtin .append, args := #[s, x], argTypes := #[T, T] }, ty, pos, af, gd⟩ (yielded ops a.tmps) = true := by rfl) : St P ops Q ⟨N, .call { callee := .builtin .append, args := #[s, x], argTypes := #[T, T] }, ty, pos, af, gd⟩ C a W := by
  intro K hK
  have H1 := H.out.rm r
  obtain ⟨S, hS, hp, hL⟩ := H1.own
  obtain ⟨S2, hS2, hp2, hL2⟩ := Sp.rm r2 hL
  have hz := H.out.below.size
  have hs' := Z.s I
  have hm2 := (Kd.R_reads' hp2).1
  have hl2 : (xs.length + m2) * b ≤ 140737488355328 := Nat.le_trans (Nat.mul_le_mul_right _ (by omega)) (Nat.le_of_ble_eq_true hlim)
  obtain ⟨A2', c2', he, _, hrd⟩ := OwnRow.reads hp2.2
  injection he with he1 he2 he3
  subst he1; subst he3
  rw [← he2] at hrd
  refine Kd.R_append_rows_step d (w0 := w) (Rr := d.M W w.heap.size (fun k => S2 k ∧ some k ≠ (Value.slice A2 m2 c2).ownBlock)) w.heap.size hw s x T e zv b rfl I.u (by rw [hs']; exact I.i) (by rw [hs']; exact I.zn) (by rw [hs']; exact I.n0) I.b0 (.slice A m c) xs ys A2 m2 c2 (fun k => (S k ∨ S2 k) ∨ W.heap.size ≤ k) (fun k => S2 k) hs hx (Kd.R_mono hp fun _ hk => .inl (.inl hk)) hrd (fun y cs hy => d.M_mono (fun k hk => hk.1) hy) (fun k hk => ⟨.inl (.inr hk), fun he => (hS2 k hk).2 (hp.1 k he.symm)⟩) (fun k hk => .inr hk) H.out.below hz hl2 ?_
  intro v1 w1 h4 _ hg _
  obtain ⟨A', c', rfl⟩ := Kd.R_slice h4
  refine hK _ _ ?_
  show C (a.put N _) w1
  rw [ha]
  refine k A' _ c' w1 ⟨Sep.re (A1 := row d e (.slice A m c) xs) (S := fun k => S k ∨ S2 k) H.out.below (fun k hk => hk.elim (hS k) fun h => (hS2 k h).1) (hL2.mono (Nat.le_refl _) fun k hk => ⟨hk.1.1, fun h => h.elim hk.1.2 hk.2⟩) hg (fun k hk => .inl (hp.1 k hk)) (Kd.R_mono (Kd.R_bound h4) fun k hk => ?_)⟩
  rcases hk.1 with h5 | h5
  · exact .inl h5
  · exact .inr ⟨h5, hk.2.2.1⟩
theorem apon_ {m2 c2 : Nat} {A2 : Option Addr} {a2 : Option Addr → Nat → Nat → Act} {e2 : Nat} [I : Sl P T e z b zv] (H : Aside0 (Sep w L W)) (k : ∀ A n c W', Aside0 (Sep w (row d e (.slice A n c) (([] : List α) ++ ys) :: L2) W') → C (a2 A n c) W')
    (hs : a.eval s = .slice none 0 0 := by rfl) (hx : a.eval x = .slice A2 m2 c2 := by rfl) (r2 : Rm (row d e2 (.slice A2 m2 c2) ys) L L2 := by exact rmM) {z0 : α} (Z : Zk P T d z0 := by infer_instance)
    (hl : ([] : List α).length + ys.length ≤ lim := by exact lenM) (hlim : Nat.ble (lim * b) 140737488355328 = true := by exact rfl)
    (ha : ∀ A n c, a.put N (.slice A n c) = a2 A n c := by intro A n c; exact putM) (hw : Region.wanted ⟨N, .call { callee := .builtin .append, args := #[s, x], argTypes := #[T, T] }, ty, pos, af, gd⟩ (yielded ops a.tmps) = true := by rfl) : St P ops Q ⟨N, .call { callee := .builtin .append, args := #[s, x], argTypes := #[T, T] }, ty, pos, af, gd⟩ C a W :=
  apo_ (xs := []) (L := row d e (.slice none 0 0) [] :: L) ⟨H.out.pk (.none (pk_refl L))⟩ k hs hx .hd r2 Z hl hlim ha hw
theorem stwr_ {v1 : Value} (H : Aside0 (Sep w L W)) (k : ∀ W', Aside0 (Sep w (row d e (.slice A m c) (xs.set jj.toNat x') :: L2) W') → C a W') (hp : a.eval p = .pointer (some ⟨g, jj.toNat * z, none⟩) := by rfl) (hA : Aside0 (A = some ⟨g, 0, none⟩) := by with_reducible assumption) (r : Rm (row d e (.slice A m c) xs) L L1 := by exact rmM)
    (D : Mr d d1 e1 at_ of cells rw_ := by infer_instance) (hz : d.sz = z := by rfl) (h0 : decide (0 ≤ jj) = true := by exact idxM) (h1 : decide (jj < (m : Int)) = true := by exact idxM)
    (hx : a.eval x = u := by exact evM) (hu : u.cells.toList = seg := by exact celM) (hv : seg.getD at_ undef = v1 := by exact gdM) (r2 : Rm (row d1 e1 v1 l) L1 L2 := by exact rmM) (hxx : of seg l = x' := by exact ofM) (hcx : cells x' v1 = seg := by rfl) (hl : rw_ x' = l := by rfl) (ht : (P.info? T).map (·.size) = some seg.length := by kernel_rfl)
    (hw : Region.wanted ⟨none, .store T p x, ty, pos, af, gd⟩ (yielded ops a.tmps) = true := by rfl) : St P ops Q ⟨none, .store T p x, ty, pos, af, gd⟩ C a W := by
  intro K hK
  have h0 := of_decide_eq_true h0
  have h1 := of_decide_eq_true h1
  have hmx := (Kd.R_reads' (H.out.row r)).1
  have H1 := H.out.rm r
  obtain ⟨S, hS, hp2, hL⟩ := H1.own
  obtain ⟨S2, hS2, hp3, hL2⟩ := Sp.rm r2 hL
  have hA := hA.out
  subst hA
  subst hl
  have hM : d.M W w.heap.size S2 x' seg := by rw [← hcx]; exact D.m hp3
  have hsl : seg.length = d.sz := d.K_len (d.K_of_M hM)
  have hrd := Kd.R_reads' hp2
  obtain ⟨ad, he, hall⟩ := hrd.2.2.2.2 (by omega)
  injection he with he
  subst he
  obtain ⟨cl, hcl, _, hcell⟩ := hall jj.toNat _ (List.getElem?_eq_getElem (show jj.toNat < xs.length by omega))
  have hcell' : ∀ j u, cl[j]? = some u → W.cell? ⟨g, jj.toNat * d.sz + j, none⟩ = some u := fun j u hu => by rw [← add_plain]; exact hcell j u hu
  have hfull : cl.take 0 ++ seg ++ cl.drop (0 + seg.length) = seg := by rw [List.take_zero, List.nil_append, List.drop_of_length_le (by omega), List.append_nil]
  obtain ⟨hrow, hg⟩ := Kd.R_seg (ok := fun k => S k ∨ S2 k) (Kd.R_mono hp2 fun _ h => .inl h) jj h0 (by omega) (seg := seg) (j := 0) hcl hcell' (by omega) (x' := x') (okp := S2) (by rw [hfull]; exact hM) (fun k hk => ⟨.inr hk, fun he => (hS2 k hk).2 (hp2.1 k (by rw [he]; rfl))⟩)
  have hrun : (Instr.storeAt T (.pointer (some ⟨g, jj.toNat * d.sz + 0, none⟩)) u).run P W = .ok () (W.setCells g (jj.toNat * d.sz + 0) seg) := by
    obtain ⟨_, inner, hown, hr⟩ := hp2
    rcases hown.2 with ⟨hv, _⟩ | ⟨g', cap', cur, hv, hb, hh, hnc, hcm, hcs, _⟩
    · cases hv
    injection hv with ha _ hc
    injection ha with ha
    injection ha with hg'
    subst hg'; subst hc
    refine run_store_run T u seg hh hu ht ?_ (d.K_one (d.K_of_M hM))
    have h2 : jj.toNat * d.sz + d.sz ≤ xs.length * d.sz := by rw [← Nat.succ_mul]; exact Nat.mul_le_mul_right _ (by omega)
    have h3 : xs.length * d.sz ≤ c * d.sz := Nat.mul_le_mul_right _ (by omega)
    omega
  rw [if_pos hw]
  unfold Oper.wp execOp
  subst hz
  simp only [hp, hx, Sem.run_bind, Sem.run_pure, Result.andThen_ok]
  rw [Nat.add_zero] at hrun hrow hg
  rw [hrun]
  refine hK _ _ (k _ ⟨Sep.re (A1 := row d e (.slice (some ⟨g, 0, none⟩) m c) xs) (S := fun k => S k ∨ S2 k) H.out.below (fun k hk => hk.elim (hS k) fun h => (hS2 k h).1) (hL2.mono (Nat.le_refl _) fun k hk => ⟨hk.1.1, fun h => h.elim hk.1.2 hk.2⟩) hg (fun k hk => by injection hk with hk; exact .inl (hp2.1 k (by rw [← hk]; rfl))) (Kd.R_mono hrow fun _ hk => .inl hk)⟩)
def rdb {α : Type} (d : Kd α) (A : Option Addr) (m : Nat) (xs : List α) : As := ⟨fun _ W S => ∀ W' : World, (∀ k, S k → W'.heap[k]? = W.heap[k]?) → d.C W' A m xs, fun {b W W' S} h g W2 h2 => h W2 fun k hk => (h2 k hk).trans (g k hk), fun {b W S S'} h g W2 h2 => h W2 fun k hk => h2 k (g k hk), fun h _ => h⟩
theorem C_rdb {m : Nat} (H : Aside0 (Sep w L W)) (r : Rm (rdb d A m xs) L L1 := by exact rmM) : Aside0 (d.C W A m xs) := by
  obtain ⟨S, _, h⟩ := (H.out.rm r).hd
  exact ⟨h W fun _ _ => rfl⟩
theorem bsx_ {m2 : Nat} {es : Array (Nat × Operand)} {a2 : Nat → Act} {inner : List Value} {z0 : List β} [I : Sl P T e z b zv] (H : Aside0 (Sep w L W)) (k : ∀ g W', Aside0 (Sep w (box g inner.toArray e :: L) W') → C (a2 g) W') (Z : Zk P T (Kd.slice e1 d1) z0 := by infer_instance)
    (hrun : (execOp a.eval ⟨N, .buildSlice T m2 es, ty, pos, af, gd⟩).run P W = .ok (.value (.slice (some ⟨W.heap.size, 0, none⟩) m m)) (W.alloc (.cells inner.toArray e)) := by go_simp; first | (fail_if_success (refine ?_)) | rfl | exact ⟨rfl, rfl⟩)
    (ha : ∀ g, a.put N (.slice (some ⟨g, 0, none⟩) m m) = a2 g := by intro g; exact putM) (hw : Region.wanted ⟨N, .buildSlice T m2 es, ty, pos, af, gd⟩ (yielded ops a.tmps) = true := by rfl) : St P ops Q ⟨N, .buildSlice T m2 es, ty, pos, af, gd⟩ C a W :=
  st_val hw hrun (by rw [ha]; exact k _ _ ⟨H.out.new rfl (blk_new W _) (below_alloc (Below.refl _ _) _)⟩)
inductive EK (W : World) (d1 : Kd β) : List Value → List (List β) → Prop
  | nil : EK W d1 [] []
  | cons {A : Option Addr} {n c : Nat} {x : List β} {cs : List Value} {xs : List (List β)} (h : d1.C W A n x) (hc : x.length ≤ c) : EK W d1 cs xs → EK W d1 (.slice A n c :: cs) (x :: xs)
theorem EK.at {W : World} {cs : List Value} {xs : List (List β)} (h : EK W d1 cs xs) : cs.length = xs.length ∧ ∀ (j : Nat) (p : List β), xs[j]? = some p → ∃ v, cs[j]? = some v ∧ (Kd.slice e1 d1).K W p [v] := by
  induction h with
  | nil => exact ⟨rfl, fun j p h => by simp at h⟩
  | cons h hc _ ih =>
    refine ⟨by simp [ih.1], fun j p hj => ?_⟩
    cases j with
    | zero =>
      have hj := Option.some.inj hj
      subst hj
      exact ⟨_, rfl, _, _, by rw [h.1], hc, by rw [h.1]; exact h⟩
    | succ j => exact ih.2 j p hj
theorem ekM {P : Prop} (h : P := by (repeat' (first | apply EK.nil | refine EK.cons (C_own H).out (cap_own H).out ?_ | refine EK.cons (C_rdb H).out (by exact Nat.le_of_ble_eq_true rfl) ?_ | refine EK.cons (C_of H (by assumption)).out (Aside0.out (by assumption)) ?_)); fail_if_success (refine ?_)) : P := h
theorem C_lit {g t m : Nat} {cs : List Value} {xs : List (List β)} (H : Aside0 (Sep w L W)) (r : Rm (box g cs.toArray t) L L1 := by exact rmM) (h : EK W d1 cs xs := by exact ekM) (hm : cs.length = m := by rfl) (hm2 : Nat.ble m 9223372036854775807 = true := by rfl) : (Kd.slice e1 d1).C W (some ⟨g, 0, none⟩) m xs := by
  have hb := H.out.box r
  obtain ⟨h1, h2⟩ := h.at (e1 := e1)
  subst hm
  refine ⟨h1.symm, Nat.le_of_ble_eq_true hm2, fun _ => ⟨_, rfl, fun j p hj => ?_⟩⟩
  obtain ⟨v, h3, h4⟩ := h2 j p hj
  refine ⟨[v], rfl, h4, fun i u hu => ?_⟩
  cases i with
  | zero =>
    have hu := Option.some.inj hu
    subst hu
    show W.cell? (Addr.add ⟨g, 0, none⟩ (j * 1 + 0)) = some v
    rw [Nat.mul_one, Nat.add_zero, Addr.add_mid, cell_of_row W g _ _ t (0, 0) hb]
    simpa using h3
  | succ i => simp at hu
theorem li_cv {rest : List Oper} {T2 : Nat} (h : St P ops Q ⟨N, .convert T T2 x, ty, pos, af, gd⟩ (wpList P ops Q rest) a W) : wpList P ops Q (⟨N, .convert T T2 x, ty, pos, af, gd⟩ :: rest) a W := st_list h
theorem conv_mark {t e : TypeId} (ht : P.underlying t = some (.slice e)) (he : P.underlying e = some (.int .u8)) {w : World} {g n c : Nat} {cs : Array Value} {q : Nat} {fr : Nat × Nat} (hg : w.heap[g]? = some (.cells cs q fr)) :
    ∃ w', (convert t t (.slice (some ⟨g, 0, none⟩) n c)).run P w = .ok (.slice (some ⟨g, 0, none⟩) n c) w' ∧ Stp (fun k => k = g) w w' ∧ ∃ fr', w'.heap[g]? = some (.cells cs q fr') := by
  have hsh : w.shape? g = some (q, cs.size) := by unfold World.shape?; rw [hg]
  refine ⟨w.freeze ⟨g, cs.size, none⟩ 1, ?_, ?_, ?_⟩
  · simp [convert, run_underlying ht, run_underlying he, markStringish, hsh]
  · unfold World.freeze
    rw [if_neg (by decide)]
    exact ⟨rfl, rfl, rfl, by simp, fun i _ hn => by show (w.heap.modify g _)[i]? = _; rw [Array.getElem?_modify, if_neg (fun h => hn h.symm)]⟩
  · unfold World.freeze
    rw [if_neg (by decide)]
    obtain ⟨lo, hi⟩ := fr
    refine ⟨if lo == hi then (cs.size, cs.size + 1) else (min lo cs.size, max hi (cs.size + 1)), ?_⟩
    show (w.heap.modify g _)[g]? = _
    rw [Array.getElem?_modify, if_pos rfl, hg]
    rfl
theorem C_move {xs : List Int} {k : IntKind} {g m : Nat} {W' : World} {cs : Array Value} {q : Nat} {fr fr' : Nat × Nat} (h : (Kd.int k).C W (some ⟨g, 0, none⟩) m xs) (h1 : W.heap[g]? = some (.cells cs q fr)) (h2 : W'.heap[g]? = some (.cells cs q fr')) : (Kd.int k).C W' (some ⟨g, 0, none⟩) m xs := by
  refine ⟨h.1, h.2.1, fun hp => ?_⟩
  obtain ⟨ad, he, hc⟩ := h.2.2 hp
  injection he with he
  subst he
  refine ⟨_, rfl, fun j p hj => ?_⟩
  obtain ⟨cl, h3, h4, h5⟩ := hc j p hj
  refine ⟨cl, h3, h4, fun i u hu => ?_⟩
  have h6 := h5 i u hu
  rw [Addr.add_mid] at h6 ⊢
  unfold World.cell? at h6 ⊢
  rw [h1] at h6
  rw [h2]
  exact h6
theorem cvm_ {xs : List Int} (H : Aside0 (Sep w L W)) (k : ∀ W', Aside0 (Sep w (rdb (Kd.int .u8) A m xs :: L1) W') → C a' W') [I : Sl P T e z b zv] (hx : a.eval x = .slice A m c := by rfl) (r : Rm (row (Kd.int .u8) e (.slice A m c) xs) L L1 := by exact rmM) (hp : Nat.blt 0 xs.length = true := by rfl)
    (he : P.underlying e = some (.int .u8) := by kernel_rfl) (ha : a.put N (.slice A m c) = a' := by exact putM) (hw : Region.wanted ⟨N, .convert T T x, ty, pos, af, gd⟩ (yielded ops a.tmps) = true := by rfl) : St P ops Q ⟨N, .convert T T x, ty, pos, af, gd⟩ C a W := by
  intro K hK
  have H1 := H.out.rm r
  obtain ⟨S, hS, hp2, hL⟩ := H1.own
  have hp : 0 < xs.length := by simpa using hp
  obtain ⟨hm, _, hC⟩ := Kd.R_reads' hp2
  obtain ⟨g, cap, hv, _⟩ := Kd.R_form hp2 (by omega)
  injection hv with hA
  subst hA
  have hgS : S g := hp2.1 g (by rfl)
  obtain ⟨inner, ho⟩ := Kd.R_own hp2
  obtain ⟨cells, hcell⟩ := own_typed ho g (by rfl)
  obtain ⟨W', hrun, hst, fr', hc'⟩ := conv_mark (P := P) (n := m) (c := c) I.u he hcell
  rw [if_pos hw]
  unfold Oper.wp execOp
  simp only [hx, Sem.run_bind, Sem.run_pure, Result.andThen_ok, hrun]
  refine hK _ _ ?_
  show C (a.put N _) W'
  rw [ha]
  refine k W' ⟨H1.upd ⟨hst.os, hst.tape, hst.output, hst.size, fun b2 S2 hS2 hl hb2 => ⟨fun k2 hk2 hn2 => hst.block k2 hk2 fun he2 => hn2 (he2 ▸ hS2.1 g (by rfl)), fun W2 hW2 => ?_⟩⟩⟩
  obtain ⟨hm2, _, hC2⟩ := Kd.R_reads' hS2
  have h3 := hW2 g (.inl (hS2.1 g (by rfl)))
  rw [hm]
  exact C_move hC hcell (h3.trans hc')
theorem cvs_ {xs : List Int} {st : Nat} (H : Aside0 (Sep w L W)) (k : C a' W) [I : Sl P T e z b zv] (hx : a.eval x = .slice A m c := by rfl) (hC : (Kd.int .u8).C W A m xs := by exact preM) (he : P.underlying e = some (.int .u8) := by kernel_rfl) (hd : P.underlying st = some .string := by kernel_rfl)
    (ha : a.put N (.string (strOfNums xs)) = a' := by exact putM) (hw : Region.wanted ⟨N, .convert T st x, ty, pos, af, gd⟩ (yielded ops a.tmps) = true := by rfl) : St P ops Q ⟨N, .convert T st x, ty, pos, af, gd⟩ C a W := by
  refine st_val hw (v := .string (strOfNums xs)) (W1 := W) ?_ (by rw [ha]; exact k)
  unfold execOp
  simp only [hx, Sem.run_bind, Sem.run_pure, Result.andThen_ok, Kd.C_string I.u he hd hC]
end
theorem ofR1 {α : Type} {P : Program} {fn : FuncId} {args : Array Value} {d : Kd α} {e0 : Nat} {r : List α} {w : World} (h : Calls P fn args w fun e w' => ∃ v0_ : Value, e = .returned v0_ ∧ d.R e0 w' w.heap.size (fun _ => True) v0_ r ∧ Below w.heap.size w w') : Calls P fn args w (Po w (fun q => .slice (q 0).1 r.length (q 0).2) fun q => [row d e0 (.slice (q 0).1 r.length (q 0).2) r]) := by
  refine h.mono ?_
  rintro e w' ⟨v, rfl, hR, hb⟩
  obtain ⟨A, c, rfl⟩ := Kd.R_slice hR
  exact ⟨fun _ => (A, c), rfl, ⟨hb, _, fun _ hk => hk, Kd.R_mono (Kd.R_bound hR) fun k hk => ⟨hk.2.1, hk.2.2.1⟩, trivial⟩⟩
inductive Rmn {α : Type} (d : Kd α) (e : Nat) : Value → List As → List As → Prop
  | row {v : Value} {xs : List α} {L L' : List As} : Rm (row d e v xs) L L' → Rmn d e v L L'
  | nil {L : List As} : Rmn d e (.slice none 0 0) L L
theorem lpRn {α : Type} (d : Kd α) (e : Nat) {X v : Value} {La Lb Lc : List As} (hv : Aside0 (X = v)) (h : Aside0 (La = Lb)) (r : Rmn d e v Lb Lc := by first | exact Rmn.row rmM | exact Rmn.nil) : ∃ L0, Aside0 (L0 = Lc) := ⟨Lc, ⟨rfl⟩⟩
theorem lpB3 {w W : World} {L L1 : List As} {g : Nat} {v0 v1 v2 : Value} (t : Nat) (H : Aside0 (Sep w L W)) (r : Rm (box g [v0, v1, v2].toArray t) L L1 := by exact rmM) : ∃ (G : Nat) (X0 X1 X2 : Value) (L0 : List As), Aside0 (G = g) ∧ Aside0 (X0 = v0) ∧ Aside0 (X1 = v1) ∧ Aside0 (X2 = v2) ∧ Aside0 (L0 = L1) := ⟨g, v0, v1, v2, L1, ⟨rfl⟩, ⟨rfl⟩, ⟨rfl⟩, ⟨rfl⟩, ⟨rfl⟩⟩
theorem lpB4 {w W : World} {L L1 : List As} {g : Nat} {v0 v1 v2 v3 : Value} (t : Nat) (H : Aside0 (Sep w L W)) (r : Rm (box g [v0, v1, v2, v3].toArray t) L L1 := by exact rmM) : ∃ (G : Nat) (X0 X1 X2 X3 : Value) (L0 : List As), Aside0 (G = g) ∧ Aside0 (X0 = v0) ∧ Aside0 (X1 = v1) ∧ Aside0 (X2 = v2) ∧ Aside0 (X3 = v3) ∧ Aside0 (L0 = L1) := ⟨g, v0, v1, v2, v3, L1, ⟨rfl⟩, ⟨rfl⟩, ⟨rfl⟩, ⟨rfl⟩, ⟨rfl⟩, ⟨rfl⟩⟩
end Go.Proofs.Ytlpghnhcgljhoaa.SP
end
section
namespace Go.Proofs.Ytlpghnhcgljhoaa.SP
open Go.RowKit Go.Proofs.YtlpghnhcgljhoaaW.PrintWords Go.Proofs.YtlpghnhcgljhoaaW.PrintLast Go.Proofs.Ytlpghnhcgljhoaa.LK Go.Proofs.YtlpghnhcgljhoaaW.PrintMore
set_option linter.unusedVariables false
theorem lpD3 {La Lb Lc : List As} {g : Nat} {v0 v1 v2 : Value} (t : Nat) (h : Aside0 (La = Lb)) (r : Rm (box g [v0, v1, v2].toArray t) Lb Lc := by exact rmM) : ∃ (G : Nat) (X0 X1 X2 : Value) (L0 : List As), Aside0 (G = g) ∧ Aside0 (X0 = v0) ∧ Aside0 (X1 = v1) ∧ Aside0 (X2 = v2) ∧ Aside0 (L0 = Lc) := ⟨g, v0, v1, v2, Lc, ⟨rfl⟩, ⟨rfl⟩, ⟨rfl⟩, ⟨rfl⟩, ⟨rfl⟩⟩
class CurT (t : Nat) : Prop where
  t : True
inductive HasCur : List As → Prop
  | hd {g t : Nat} {cs : Array Value} {L : List As} (I : CurT t) : HasCur (box g cs t :: L)
  | tl {A : As} {L : List As} : HasCur L → HasCur (A :: L)
theorem curM {P : Prop} (h : P := by (with_reducible repeat (first | exact HasCur.hd (by infer_instance) | apply HasCur.tl)); fail_if_success (refine ?_)) : P := h
theorem bo_cur {g t : Nat} {cs : Array Value} {L L' : List As} [I : CurT t] (h : Bo L L') : Bo (SP.box g cs t :: L) L' := .skip h
theorem boC {P : Prop} (h : P := by (with_reducible repeat (first | apply bo_cur | apply Bo.box | apply Bo.skip | apply Bo.nil)); fail_if_success (refine ?_)) : P := h
class ConQ (P : Program) (fn : FuncId) {α : Type} (x : Option α) (r : α) (args : Array Value) (z : Option Addr × Nat × Nat) (pre : outParam (World → World → Prop)) (Li : outParam (List As)) (val : outParam ((Nat → Option Addr × Nat) → Value)) (Lo : outParam ((Nat → Option Addr × Nat) → List As)) : Prop where
  c : ∀ (w0 : World) (L : List As) (w : World), Sep w0 (Li ++ L) w → pre w0 w → x = some r → Calls P fn args w (Po w0 val (fun q => Lo q ++ L))
inductive FC : List As → Option Addr → Nat → Nat → Prop
  | hd {g t : Nat} {A : Option Addr} {n c : Nat} {l : List Value} {L : List As} (I : CurT t) : FC (box g (.slice A n c :: l).toArray t :: L) A n c
  | tl {B : As} {L : List As} {A : Option Addr} {n c : Nat} : FC L A n c → FC (B :: L) A n c
theorem fcM {P : Prop} (h : P := by (with_reducible repeat (first | exact FC.hd (by infer_instance) | apply FC.tl)); fail_if_success (refine ?_)) : P := h
theorem cq_ {P : Program} {ops : Array Oper} {a : Act} {Q : Exit → Act → World → Prop} {C : Act → World → Prop} {w W : World} {L : List As} {N : Option Tmp} {ty : TypeId} {pos : String} {af : Array Edge} {gd : Option (Nat × Bool)} {fn : FuncId} {xs : Array Operand} {ts : Array TypeId} {α β : Type} {X : Option α} {F : α → Option β} {R : β} {args : Array Value} {pre : α → World → World → Prop} {Li : α → List As} {val : α → (Nat → Option Addr × Nat) → Value} {Lo L2 : α → (Nat → Option Addr × Nat) → List As} {Lr : α → List As} {a2 : α → (Nat → Option Addr × Nat) → Act} {A : Option Addr} {n c : Nat}
    (H : Aside0 (Sep w L W)) (E : Aside0 (X.bind F = some R)) (k : ∀ r q W', Aside0 (Sep w (L2 r q) W') → Aside0 (F r = some R) → C (a2 r q) W')
    (hargs : xs.map a.eval = args := by exact argM) (hc : FC L A n c := by exact fcM) (I : ∀ r, ConQ P fn X r args (A, n, c) (pre r) (Li r) (val r) (Lo r) := by intro r; infer_instance) (hp : ∀ r, pre r w W := by intro _; exact preM) (hx : ∀ r, Ex (Li r) L (Lr r) := by intro r; exact exM)
    (hL : ∀ r q, Ap (Lr r) (Lo r q) (L2 r q) := by intro r q; exact apM) (ha : ∀ r q, a.put N (val r q) = a2 r q := by intro r q; exact putM) (hok : okFn P fn = true := by kernel_rfl)
    (hw : Region.wanted ⟨N, .call { callee := .value (.func fn), args := xs, argTypes := ts }, ty, pos, af, gd⟩ (yielded ops a.tmps) = true := by rfl) : St P ops Q ⟨N, .call { callee := .value (.func fn), args := xs, argTypes := ts }, ty, pos, af, gd⟩ C a W :=
  cw_ H E k hargs (fun r => ⟨(I r).c⟩) hp hx hL ha hok hw
section
variable {P : Program} {ops : Array Oper} {T : List Sk} {Q : Exit → Act → World → Prop} {ds : List Nat} {w W : World} {L0 : List As} {a : Act} {L : List As}
theorem rsc_ {id n : Nat} {st : List Nat} (H : Aside0 (Sep w L W)) (k : Ch P ops T Q ds w L0 [] n 0 a L) (hcur : HasCur L := by exact curM) (I : StrT P st := by infer_instance) (hT : skels st ops = T := by conv => lhs; reduce) (hcall : (T.any fun x => Nat.beq x.k 0) = true := by rfl) (hb : Bo L L0 := by exact boC) (hd : stoT T = ds := by conv => lhs; reduce) (hn : ops.size = n := by rfl) (hm : P.follows .mixedOrders = true := by kernel_rfl) (hPB : PB Q := by intro c a dst v W; cases dst <;> exact Iff.rfl) : (Code.region id ops true).wp P Q a W := rs_ H k I hT hb hd hn hm hPB
end
def stP (T : List Sk) (a : Act) : List Value := (T.filter fun x => Nat.beq x.k 3).map fun x => a.eval (.tmp (x.l.headD 0))
inductive MeP (g : Nat) : List Value → Prop
  | hd {o : Nat} {l : List Value} : MeP g (.pointer (some ⟨g, o, none⟩) :: l)
  | tl {v : Value} {l : List Value} : MeP g l → MeP g (v :: l)
theorem meM {P : Prop} (h : P := by (with_reducible repeat (first | apply MeP.hd | apply MeP.tl)); fail_if_success (refine ?_)) : P := h
inductive BoS (ps : List Value) : List As → List As → Prop
  | nil {L : List As} : BoS ps L []
  | st {g t : Nat} {cs : Array Value} {L L' : List As} : MeP g ps → BoS ps L L' → BoS ps (SP.box g cs t :: L) L'
  | box {g t : Nat} {cs : Array Value} {L L' : List As} : BoS ps L L' → BoS ps (SP.box g cs t :: L) (SP.box g cs t :: L')
  | skip {A : As} {L L' : List As} : BoS ps L L' → BoS ps (A :: L) L'
theorem boS {P : Prop} (h : P := by (with_reducible repeat (first | (apply BoS.st; exact meM) | apply BoS.box | apply BoS.skip | apply BoS.nil)); fail_if_success (refine ?_)) : P := h
section
variable {P : Program} {ops : Array Oper} {T : List Sk} {Q : Exit → Act → World → Prop} {w W : World} {L0 : List As} {a : Act} {L : List As}
theorem rsd_ {id n : Nat} {st : List Nat} {ps : List Value} (H : Aside0 (Sep w L W)) (k : Ch P ops T Q [] w L0 [] n 0 a L) (I : StrT P st := by infer_instance) (hT : skels st ops = T := by conv => lhs; reduce) (h2 : Nat.ble 2 (stoT T).length = true := by rfl) (hps : stP T a = ps := by conv => lhs; reduce) (hb : BoS ps L L0 := by exact boS) (hn : ops.size = n := by rfl) (hm : P.follows .mixedOrders = true := by kernel_rfl) (hPB : PB Q := by intro c a dst v W; cases dst <;> exact Iff.rfl) : (Code.region id ops true).wp P Q a W := by
  refine wp_region_last hm (S := Sep w L0) (ds := []) ?_
  have hc : ListedClosed .any ops (bits ops.size 0) := fun j oj _ hl => by have := (bits_in.1 hl).2; simp at this
  have h1 := k ⟨st, hT⟩ hPB (by simp) hc [] [] (List.Perm.refl _) W.drew (by simpa [partF] using H.out.drew)
  have h0 : Array.replicate ops.size false = bits ops.size 0 := by
    apply Array.ext
    · simp [bits]
    · intro i h1 h2
      simp [bits]
  rw [h0]
  subst hn
  simpa [markF, putF] using h1
end
theorem res_run2 {P : Program} {T1 T2 n1 n2 g1 g2 t1 t2 : Nat} {f1 f2 : List Value → Value} {cs1 cs2 : List Value} {v1 v2 : Value} {w W : World} {L L1 L2 : List As} [Ty P T1 n1 f1] [Ty P T2 n2 f2] {fn : Func} {tmps : Array Value} {q1 q2 : Tmp} (h : fn.results = #[.cell q1 T1, .cell q2 T2]) (H : Aside0 (Sep w L W)) (hp1 : tmps.getD q1 undef = .pointer (some ⟨g1, 0, none⟩)) (hp2 : tmps.getD q2 undef = .pointer (some ⟨g2, 0, none⟩)) (r1 : Rm (box g1 cs1.toArray t1) L L1) (r2 : Rm (box g2 cs2.toArray t2) L L2) (hl1 : cs1.length = n1) (hl2 : cs2.length = n2) (hv1 : f1 cs1 = v1) (hv2 : f2 cs2 = v2) : (results fn tmps).run P W = .ok (.tuple #[v1, v2]) W := by
  have hp1' : tmps[q1]?.getD undef = .pointer (some ⟨g1, 0, none⟩) := by simpa using hp1
  have hp2' : tmps[q2]?.getD undef = .pointer (some ⟨g2, 0, none⟩) := by simpa using hp2
  have e1 := Ty.ld (P := P) (T := T1) (f := f1) W ⟨g1, 0, none⟩ cs1 (by have := range_of (o := 0) (n := cs1.length) (H.out.box r1); simpa using this) hl1
  have e2 := Ty.ld (P := P) (T := T2) (f := f2) W ⟨g2, 0, none⟩ cs2 (by have := range_of (o := 0) (n := cs2.length) (H.out.box r2); simpa using this) hl2
  simp only [Instr.loadAt, Instr.sureAddr, Sem.run_bind, Sem.run_pure, Result.andThen_ok] at e1 e2
  simp [results, h, hp1', hp2', asAddr, e1, e2, hv1, hv2]
theorem resM2 {P : Program} {T1 T2 n1 n2 g1 g2 t1 t2 : Nat} {f1 f2 : List Value → Value} {cs1 cs2 : List Value} {v1 v2 : Value} {w W : World} {a : Act} {L L1 L2 : List As} {fn : Func} {R : Ending → World → Prop} (H : Aside0 (Sep w L W)) {q1 q2 : Tmp} (hk : R (.returned (.tuple #[v1, v2])) W) (hd : a.defers = [] := by rfl) (h : fn.results = #[.cell q1 T1, .cell q2 T2] := by rfl) (I1 : Ty P T1 n1 f1 := by infer_instance) (I2 : Ty P T2 n2 f2 := by infer_instance) (hp1 : a.tmps.getD q1 undef = .pointer (some ⟨g1, 0, none⟩) := by rfl) (hp2 : a.tmps.getD q2 undef = .pointer (some ⟨g2, 0, none⟩) := by rfl) (r1 : Rm (box g1 cs1.toArray t1) L L1 := by exact rmM) (r2 : Rm (box g2 cs2.toArray t2) L L2 := by exact rmM) (hl1 : cs1.length = n1 := by rfl) (hl2 : cs2.length = n2 := by rfl) (hv1 : f1 cs1 = v1 := by exact valM) (hv2 : f2 cs2 = v2 := by exact valM) : bodyPost P fn R .ret a W :=
  bodyPost_ret (res_run2 (f1 := f1) (f2 := f2) (n1 := n1) (n2 := n2) h H hp1 hp2 r1 r2 hl1 hl2 hv1 hv2) hd hk
section
variable {P : Program} {ops : Array Oper} {a a' : Act} {Q : Exit → Act → World → Prop} {C : Act → World → Prop} {w W : World} {L L1 L2 : List As} {N : Option Tmp} {ty : TypeId} {pos : String} {af : Array Edge} {gd : Option (Nat × Bool)} {T e z b m c : Nat} {zv : Value} {x : Operand} {A : Option Addr} {kk : IntKind} {j : Int} {α : Type} {d : Kd α} {xs : List α}
theorem slo_core {o' : Oper} {l h : Nat} [I : Sl P T e z b zv] {z0 : α} (Z : Zk P T d z0) (hw : Region.wanted o' (yielded ops a.tmps) = true) (H : Sep w (row d e (.slice A m c) xs :: L1) W) (hl : l ≤ h) (hh : h ≤ m)
    (hr : ∀ W', (execOp a.eval o').run P W' = ((sizeOf (P.elem T)).run P W').andThen fun s w => .ok (.value (sliced A l h c s)) w) (k : ∀ A n c, Aside0 (Sep w (rdv d (.slice A n c) ((xs.take h).drop l) :: L1) W) → C (a.put o'.dst (.slice A n c)) W) : St P ops Q o' C a W := by
  have hel : P.elem T = e := by have := I.u; simp [Program.elem, this]
  obtain ⟨i0, hi0, hzz⟩ := Option.map_eq_some_iff.1 I.i
  simp only [Prod.mk.injEq] at hzz
  have hs := Z.s I
  refine st_val hw (v := .slice (if c = l then A else A.map (·.add (l * d.sz))) (h - l) (c - l)) (W1 := W) ?_ (k _ _ _ ⟨H.imp fun S hS _ W' hm => ?_⟩)
  · rw [hr W, hel]
    simp [sizeOf, typeInfo, hi0, hzz.2.1, hs, sliced, Result.andThen]
  · obtain ⟨h1, h2, h3⟩ := Kd.R_reads' (Kd.R_move hS hm)
    exact ⟨_, _, _, rfl, cut_C (m := xs.length) h3 (by omega) hl (by omega), by omega⟩
theorem slho_ {a2 : Option Addr → Nat → Nat → Act} {hi : Operand} [I : Sl P T e z b zv] (H : Aside0 (Sep w L W)) (k : ∀ A n c, Aside0 (Sep w (rdv d (.slice A n c) (xs.take j.toNat) :: L1) W) → C (a2 A n c) W) (hx : a.eval x = .slice A m c := by rfl) (hj : a.eval hi = .int kk j := by rfl)
    (r : Rm (row d e (.slice A m c) xs) L L1 := by exact rmM) {z0 : α} (Z : Zk P T d z0 := by infer_instance) (h0 : decide (0 ≤ j) = true := by exact idxM) (h1 : decide (j ≤ (xs.length : Int)) = true := by exact idxM)
    (ha : ∀ A n c, a.put N (.slice A n c) = a2 A n c := by intro A n c; exact putM) (hw : Region.wanted ⟨N, .slice T x none (some hi) none, ty, pos, af, gd⟩ (yielded ops a.tmps) = true := by rfl) : St P ops Q ⟨N, .slice T x none (some hi) none, ty, pos, af, gd⟩ C a W := by
  have h0 := of_decide_eq_true h0
  have h1 := of_decide_eq_true h1
  obtain ⟨hm, hc, -⟩ := Kd.R_reads' (H.out.row r)
  have hu : P.underlying T = some (.slice (P.elem T)) := by have := I.u; simp [Program.elem, this]
  refine slo_core (I := I) (l := 0) (h := j.toNat) Z hw (H.out.rm r) (Nat.zero_le _) (by omega) (fun W' => ?_) (fun A n c h2 => by rw [ha]; exact k A n c h2)
  unfold execOp
  simp [hx, hj, run_sliceAt_slice (h := hu), run_slice_h W' T A m c hu kk j h0 (by omega)]
  cases (sizeOf (P.elem T)).run P W' <;> rfl
theorem sllo_ {a2 : Option Addr → Nat → Nat → Act} {lo : Operand} [I : Sl P T e z b zv] (H : Aside0 (Sep w L W)) (k : ∀ A n c, Aside0 (Sep w (rdv d (.slice A n c) (xs.drop j.toNat) :: L1) W) → C (a2 A n c) W) (hx : a.eval x = .slice A m c := by rfl) (hj : a.eval lo = .int kk j := by rfl)
    (r : Rm (row d e (.slice A m c) xs) L L1 := by exact rmM) {z0 : α} (Z : Zk P T d z0 := by infer_instance) (h0 : decide (0 ≤ j) = true := by exact idxM) (h1 : decide (j ≤ (xs.length : Int)) = true := by exact idxM)
    (ha : ∀ A n c, a.put N (.slice A n c) = a2 A n c := by intro A n c; exact putM) (hw : Region.wanted ⟨N, .slice T x (some lo) none none, ty, pos, af, gd⟩ (yielded ops a.tmps) = true := by rfl) : St P ops Q ⟨N, .slice T x (some lo) none none, ty, pos, af, gd⟩ C a W := by
  have h0 := of_decide_eq_true h0
  have h1 := of_decide_eq_true h1
  obtain ⟨hm, hc, -⟩ := Kd.R_reads' (H.out.row r)
  have hu : P.underlying T = some (.slice (P.elem T)) := by have := I.u; simp [Program.elem, this]
  have e1 : xs.take m = xs := by rw [hm]; exact List.take_length
  refine slo_core (I := I) (l := j.toNat) (h := m) Z hw (H.out.rm r) (by omega) (Nat.le_refl _) (fun W' => ?_) (fun A n c h2 => by rw [ha]; rw [e1] at h2; exact k A n c h2)
  unfold execOp
  simp [hx, hj, run_sliceAt_slice (h := hu), run_slice_l W' T A m c hu kk j h0 (by omega)]
  cases (sizeOf (P.elem T)).run P W' <;> rfl
end
theorem R_foot {α : Type} {d : Kd α} {cells : α → List Value} {of : List Value → α} [I : Sc d cells of] {e b : Nat} {w : World} {ok : Nat → Prop} {v : Value} {xs : List α} (h : d.R e w b ok v xs) : d.R e w b (fun k => ok k ∧ some k = v.ownBlock) v xs := by
  obtain ⟨h0, inner, ho, hr⟩ := h
  exact ⟨fun k hk => ⟨h0 k hk, hk.symm⟩, inner, ho, hr.imp_ fun x c hm => by rw [I.k (d.K_of_M hm)]; exact I.m _ _ _ _⟩
theorem ofR2 {α β : Type} {P : Program} {fn : FuncId} {args : Array Value} {d : Kd α} {d1 : Kd β} {e0 e1 : Nat} {r : List α} {r1 : List β} {w : World} {F : Value → Value → Value} {cells : α → List Value} {of : List Value → α} [I : Sc d cells of] (h : Calls P fn args w fun e w' => ∃ v0_ v1_ : Value, e = .returned (F v0_ v1_) ∧ d.R e0 w' w.heap.size (fun _ => True) v0_ r ∧ Kd.S d1 e1 w' w.heap.size (fun k_ => some k_ ≠ (v0_ : Value).ownBlock) v1_ r1 ∧ Below w.heap.size w w') : Calls P fn args w (Po w (fun q => F (.slice (q 0).1 r.length (q 0).2) (.slice (q 1).1 r1.length (q 1).2)) fun q => [row d e0 (.slice (q 0).1 r.length (q 0).2) r, row d1 e1 (.slice (q 1).1 r1.length (q 1).2) r1]) := by
  refine h.mono ?_
  rintro e w' ⟨v0, v1, rfl, h1, h2, hb⟩
  obtain ⟨A, c, rfl⟩ := Kd.R_slice h1
  obtain ⟨A1, c1, rfl⟩ := Kd.R_slice (Kd.S_R h2)
  exact ⟨sel [(A, c), (A1, c1)], rfl, ⟨hb, _, fun k hk => hk.1, R_foot (Kd.R_mono (Kd.R_bound h1) fun k hk => ⟨hk.2.1, hk.2.2.1⟩), _, fun k hk => hk, Kd.R_mono (Kd.R_bound (Kd.S_R h2)) fun k hk => ⟨⟨hk.2.1, hk.2.2.1⟩, fun hn => hk.1 hn.2⟩, trivial⟩⟩
end Go.Proofs.Ytlpghnhcgljhoaa.SP
end
section
namespace Go.Proofs.Ytlpghnhcgljhoaa.SP
open Go.RowKit Go.Proofs.YtlpghnhcgljhoaaW.PrintWords Go.Proofs.YtlpghnhcgljhoaaW.PrintLast Go.Proofs.Ytlpghnhcgljhoaa.LK Go.Proofs.YtlpghnhcgljhoaaW.PrintMore
set_option linter.unusedVariables false
theorem fokM {G : Prop} (h : G := by first | exact fok_bs | exact fok_bx | exact fok_al) : G := h
theorem cf_ {P : Program} {ops : Array Oper} {T : List Sk} {Q : Exit → Act → World → Prop} {ds : List Nat} {w : World} {L0 : List As} {fs : List Fo} {fi : List Nat} {fuel m : Nat} {a : Act} {L : List As} {o : Oper} {ix : Nat} {val : Qy → Value} {lo : Qy → As} (k : Ch P ops T Q ds w L0 (⟨ix, o, val, lo⟩ :: fs) fuel m a L) (hfi : fs.map (·.i) = fi := by exact fiM) (hc : freeN T ds fi m = ix := by conv => lhs; reduce) (ho : nthO ops.toList ix = some o := by rfl) (h : FOk P ops w a ⟨ix, o, val, lo⟩ := by exact fokM) : Ch P ops T Q ds w L0 fs (fuel + 1) m a L := ch_add h k
set_option maxRecDepth 100000 in
theorem walkM {G : Prop} (h : G := by
    (try simp only [em8, shrE8] at E)
    go_wp2_with (first
      | ((with_reducible refine esV E ?_); clear E; intro E)
      | ((fail_if_success (with_reducible refine gBd E ?_)); (fail_if_success (with_reducible refine gSm E ?_)); first
      | (with_reducible exact esN E)
      | ((with_reducible refine esT E ?_); clear E; intro E)
      | ((with_reducible refine esF E ?_); clear E; intro E)
      | ((with_reducible refine esDL E ?_ ?_) <;> (clear E; intro c E))
      | ((with_reducible refine esDE E ?_ ?_) <;> (clear E; intro c E))
      | ((with_reducible refine esDI E ?_ ?_) <;> (clear E; intro c c' E; (try obtain ⟨c', c2⟩ := c')))
      | ((with_reducible refine esBN E ?_ ?_) <;> (clear E; intro c c' c2 E))
      | ((with_reducible refine esZ E ?_); clear E; intro c c2 E)
      | ((with_reducible refine esB E ?_ ?_) <;> (clear E; intro c E; first | (with_reducible exact noFc c (by assumption)) | (with_reducible exact noTc c (by assumption)) | ((first | subst c | ((try simp only [c] at E); (try simp only [c] at H); (try simp only [c]))); (try (have c2 := c; simp only [Bool.or_eq_true, Bool.or_eq_false_iff] at c2)))))
      | ((with_reducible refine esI E ?_ ?_) <;> (clear E; intro c c' E; (try obtain ⟨c', c2⟩ := c')))
      | ((with_reducible refine esL E ?_ ?_) <;> (clear E; intro c E))
      | ((with_reducible refine esE E ?_ ?_) <;> (clear E; intro c E))
      | ((with_reducible refine esM E ?_ ?_) <;> (clear E; intro c E))
      | ((with_reducible refine esQ E ?_ ?_) <;> (clear E; intro c c' E))
      | ((with_reducible refine esP E ?_ ?_) <;> (clear E; intro c E))
      | (unfold j0 at E; rcases k with _ | k <;> dsimp only at E; exact esN E)
      | (unfold j1 at E; rcases k with _ | k <;> dsimp only at E; exact esN E)
      | (unfold j2 at E; rcases k with _ | k <;> dsimp only at E; exact esN E)
      | (unfold j3 at E; rcases k with _ | k <;> dsimp only at E; exact esN E)
      | (unfold j4 at E; rcases k with _ | k <;> dsimp only at E; exact esN E)
      | (unfold j5 at E; rcases k with _ | k <;> dsimp only at E; exact esN E))
      | ((with_reducible refine gLi ?_); with_reducible first | exact noFT (by assumption) | exact noNT (by assumption) | exact noTF (by assumption) | refine li_ld ?_ | refine li_st ?_ | refine li_box ?_ | refine li_al ?_ | refine li_ix ?_ | refine li_ca ?_ | refine li_ap ?_ | refine li_bs ?_ | refine li_mk ?_ | refine li_sl ?_)
      | ((with_reducible refine gSt ?_); first
        | refine st_off ?_
        | ((with_reducible refine gLd ?_); first | (refine ld_ H ?_) | (refine ldo_ H ?_) | (refine ldp_ H ?_))
        | ((with_reducible refine gCa ?_); first | (refine cc_ H E ?_; clear H E; intro r q W' H E) | (refine cw_ H E ?_; clear H E; intro r q W' H E) | (refine cq_ H E ?_; clear H E; intro r q W' H E))
        | ((with_reducible refine gSr ?_); first
          | (refine st_ H ?_; clear H; intro W' H)
          | (refine stw_ H ?_; clear H; intro W' H)
          | (refine stf_ (off := 0) H ?_ (by rfl) (by exact (Nat.add_zero _).symm); clear H; intro W' H)
          | (refine stf_ (off := 1) H ?_ (by rfl) (by rfl); clear H; intro W' H)
          | (refine stf_ (off := 2) H ?_ (by rfl) (by rfl); clear H; intro W' H)
          | (refine stf_ (off := 3) H ?_ (by rfl) (by rfl); clear H; intro W' H) | (refine stwr_ H ?_; clear H; intro W' H))
        | ((with_reducible refine gIx ?_); first
          | (refine ix_ H ?_; intro p q R F; (try (with_reducible obtain ⟨f1, F⟩ := fs_ F)); (try (with_reducible obtain ⟨f1, F⟩ := fs_ F)); (try (with_reducible obtain ⟨f1, F⟩ := fs_ F)); (try (with_reducible obtain ⟨f1, F⟩ := fs_ F)); (try (with_reducible obtain ⟨f1, F⟩ := fs_ F)))
          | (refine ixw_ H ?_; intro g B))
        | ((with_reducible refine gAp ?_); first
          | (refine ap_ H ?_; clear H; intro A n c W' H)
          | (refine apn_ H ?_; clear H; intro A n c W' H) | (refine apo_ H ?_; clear H; intro A n c W' H) | (refine apon_ H ?_; clear H; intro A n c W' H))
        | ((with_reducible refine gSl ?_); first | (refine slh_ H ?_; intro A n c B B') | (refine sll_ H ?_; intro A n c B B') | (refine sllh_ H ?_; intro A n c B B') | (refine slho_ H ?_; clear H; intro A n c H) | (refine sllo_ H ?_; clear H; intro A n c H))
        | (refine bxb_ H ?_; clear H; intro g W' H)
        | (refine bxa_ H ?_; clear H; intro g W' H)
        | (refine mk_ H ?_; clear H; intro A n c W' H)
        | (refine bs_ H ?_; clear H; intro A c W' H) | (refine bsx_ H ?_; clear H; intro g W' H) | (refine bsr_ H ?_; clear H; intro A c W' H) | (refine cvm_ H ?_; clear H; intro W' H) | (refine cvs_ H ?_))
      | ((with_reducible refine li_cv ?_); first | (refine cvm_ H ?_; clear H; intro W' H) | (refine cvs_ H ?_))
      | ((with_reducible refine gRs ?_); first | (refine rsc_ H ?_) | (refine rsd_ H ?_) | (refine rs_ H ?_))
      | ((with_reducible refine gTk ?_); first | (refine tk_off ?_) | (refine tk_ld ?_) | (refine tk_ldo ?_) | (refine tk_ldp ?_) | (refine tk_ix ?_; intro p q R F; (try (with_reducible obtain ⟨f1, F⟩ := fs_ F)); (try (with_reducible obtain ⟨f1, F⟩ := fs_ F)); (try (with_reducible obtain ⟨f1, F⟩ := fs_ F)); (try (with_reducible obtain ⟨f1, F⟩ := fs_ F)); (try (with_reducible obtain ⟨f1, F⟩ := fs_ F))) | (refine tk_pu ?_))
      | ((with_reducible refine gCh ?_); first | (refine ct_ ?_; (with_reducible refine gTk ?_); first | (refine tk_off ?_) | (refine tk_ld ?_) | (refine tk_ldo ?_) | (refine tk_ldp ?_) | (refine tk_ix ?_; intro p q R F; (try (with_reducible obtain ⟨f1, F⟩ := fs_ F)); (try (with_reducible obtain ⟨f1, F⟩ := fs_ F)); (try (with_reducible obtain ⟨f1, F⟩ := fs_ F)); (try (with_reducible obtain ⟨f1, F⟩ := fs_ F)); (try (with_reducible obtain ⟨f1, F⟩ := fs_ F))) | (refine tk_pu ?_)) | (refine cf_ ?_) | (refine ce_ ?_) | (refine ca2_ ?_; intro q) | (refine cd_ ?_; (try clear H); intro W' H))
      | ((with_reducible refine gEa ?_); first | exact ea_nil | (refine cc2_ ?_ ?_; (try clear H); intro F W' H))
      | ((with_reducible refine gCz ?_); refine cz_ H ?_)
      | exact loop0 | exact loop1 | exact loop2 | exact loop3)
    all_goals repeat' (first
      | (with_reducible exact esN E)
      | ((with_reducible refine esT E ?_); clear E; intro E)
      | ((with_reducible refine esF E ?_); clear E; intro E)
      | ((with_reducible refine esDL E ?_ ?_) <;> (clear E; intro c E))
      | ((with_reducible refine esDE E ?_ ?_) <;> (clear E; intro c E))
      | ((with_reducible refine esDI E ?_ ?_) <;> (clear E; intro c c' E; (try obtain ⟨c', c2⟩ := c')))
      | ((with_reducible refine esBN E ?_ ?_) <;> (clear E; intro c c' c2 E))
      | ((with_reducible refine esZ E ?_); clear E; intro c c2 E)
      | ((with_reducible refine esB E ?_ ?_) <;> (clear E; intro c E; first | (with_reducible exact noFc c (by assumption)) | (with_reducible exact noTc c (by assumption)) | ((first | subst c | ((try simp only [c] at E); (try simp only [c] at H); (try simp only [c]))); (try (have c2 := c; simp only [Bool.or_eq_true, Bool.or_eq_false_iff] at c2)))))
      | ((with_reducible refine esI E ?_ ?_) <;> (clear E; intro c c' E; (try obtain ⟨c', c2⟩ := c')))
      | ((with_reducible refine esL E ?_ ?_) <;> (clear E; intro c E))
      | ((with_reducible refine esE E ?_ ?_) <;> (clear E; intro c E))
      | ((with_reducible refine esM E ?_ ?_) <;> (clear E; intro c E))
      | ((with_reducible refine esQ E ?_ ?_) <;> (clear E; intro c c' E))
      | ((with_reducible refine esP E ?_ ?_) <;> (clear E; intro c E))
      | ((with_reducible refine esV E ?_); clear E; intro E)
      | ((with_reducible refine esR E ?_); clear E; intro e; first | cases e | skip)
      | (unfold j0 at E; rcases k with _ | k <;> dsimp only at E; exact esN E)
      | (unfold j1 at E; rcases k with _ | k <;> dsimp only at E; exact esN E)
      | (unfold j2 at E; rcases k with _ | k <;> dsimp only at E; exact esN E)
      | (unfold j3 at E; rcases k with _ | k <;> dsimp only at E; exact esN E)
      | (unfold j4 at E; rcases k with _ | k <;> dsimp only at E; exact esN E)
      | (unfold j5 at E; rcases k with _ | k <;> dsimp only at E; exact esN E))
    all_goals (first | (with_reducible first | exact noFT (by assumption) | exact noNT (by assumption) | exact noTF (by assumption)) | (go_roundg k; (case measure => first | exact Nat.lt_succ_self _ | omega); (case rel => exact relM)) | (go_ret; exact poM) | (go_ret; exact po1_ H) | (go_ret2; exact poM) | (go_end0; exact poM) | ((try simp only [Exit.inBlock, Exit.then]); refine resM H ?_; exact poM) | ((try simp only [Exit.inBlock, Exit.then]); refine resM2 H ?_; exact poM) | (with_reducible first | exact noO2 (by assumption) (by assumption) | exact noO3 (by assumption) (by assumption) | exact noO4 (by assumption) (by assumption)))) : G := h
end Go.Proofs.Ytlpghnhcgljhoaa.SP
end
section
namespace Go.Proofs.Ytlpghnhcgljhoaa.SP
open Go.RowKit Go.Proofs.YtlpghnhcgljhoaaW.PrintWords Go.Proofs.Ytlpghnhcgljhoaa.Q
set_option linter.unusedVariables false
instance : StrT Try.prog [9] := ⟨trivial⟩
instance : Ty Try.prog 2 1 one := Ty.cell (fun W p v h => by go_simp) (by kernel_rfl)
instance : Ty Try.prog 3 1 one := Ty.cell (fun W p v h => by go_simp) (by kernel_rfl)
instance : Ty Try.prog 4 1 one := Ty.cell (fun W p v h => by go_simp) (by kernel_rfl)
instance : Ty Try.prog 5 1 one := Ty.cell (fun W p v h => by go_simp) (by kernel_rfl)
instance : Ty Try.prog 9 1 one := Ty.cell (fun W p v h => by go_simp) (by kernel_rfl)
instance : Ty Try.prog 12 1 one := Ty.cell (fun W p v h => by go_simp) (by kernel_rfl)
instance : Ty Try.prog 14 2 agg := Ty.row Try.underlying14 rfl (by kernel_rfl)
instance : Ty Try.prog 19 1 agg := Ty.row Try.underlying19 rfl (by kernel_rfl)
instance : Ty Try.prog 21 1 one := Ty.cell (fun W p v h => by go_simp) (by kernel_rfl)
instance : Ty Try.prog 22 1 one := Ty.cell (fun W p v h => by go_simp) (by kernel_rfl)
instance : Sl Try.prog 22 5 1 1 (.int .u8 0) := ⟨Try.underlying22, by kernel_rfl, by decide, by decide, rfl⟩
instance : Ty Try.prog 23 1 one := Ty.cell (fun W p v h => by go_simp) (by kernel_rfl)
instance : Sl Try.prog 23 43 2 32 (.agg #[(.int .i64 0), (.slice none 0 0)]) := ⟨Try.underlying23, by kernel_rfl, by decide, by decide, rfl⟩
instance : Ty Try.prog 25 4 agg := Ty.row Try.underlying25 rfl (by kernel_rfl)
instance : Ty Try.prog 26 1 one := Ty.cell (fun W p v h => by go_simp) (by kernel_rfl)
instance : Sl Try.prog 26 4 1 1 (.bool false) := ⟨Try.underlying26, by kernel_rfl, by decide, by decide, rfl⟩
instance : Ty Try.prog 28 3 agg := Ty.row Try.underlying28 rfl (by kernel_rfl)
instance : Ty Try.prog 43 2 agg := Ty.row Try.underlying43 rfl (by kernel_rfl)
instance : Ty Try.prog 47 64 agg := Ty.row Try.underlying47 rfl (by kernel_rfl)
instance : Ty Try.prog 48 64 agg := Ty.row Try.underlying48 rfl (by kernel_rfl)
instance : CurT 53 := ⟨trivial⟩
instance : Ty Try.prog 53 3 agg := Ty.row Try.underlying53 rfl (by kernel_rfl)
instance : Ty Try.prog 63 1 one := Ty.cell (fun W p v h => by go_simp) (by kernel_rfl)
instance : Ty Try.prog 66 4 agg := Ty.row Try.underlying66 rfl (by kernel_rfl)
instance : Ty Try.prog 71 1 one := Ty.cell (fun W p v h => by go_simp) (by kernel_rfl)
instance : Ty Try.prog 83 4 agg := Ty.row Try.underlying83 rfl (by kernel_rfl)
instance : Opn k43 rd_T43 (fun x q => [.int .i64 x.f0, .slice (q 0).1 x.f1.length (q 0).2]) (fun x q w => x.f1.length ≤ (q 0).2 ∧ (Kd.int .u8).C w (q 0).1 x.f1.length x.f1) := ⟨fun xs i h0 h1 => by unfold rd_T43; rw [List.getD_eq_getElem?_getD, List.getElem?_eq_getElem (by omega)]; rfl, fun h => by obtain ⟨A1, c1, e, f⟩ := k43_open h; exact ⟨sel [(A1, c1)], e, f⟩⟩
instance : Opn k25 rd_T25 (fun x q => [.slice (q 0).1 x.f0.length (q 0).2, .slice (q 1).1 x.f1.length (q 1).2, .int .i64 x.f2, .bool x.f3]) (fun x q w => x.f0.length ≤ (q 0).2 ∧ (Kd.int .u8).C w (q 0).1 x.f0.length x.f0 ∧ x.f1.length ≤ (q 1).2 ∧ k43.C w (q 1).1 x.f1.length x.f1) := ⟨fun xs i h0 h1 => by unfold rd_T25; rw [List.getD_eq_getElem?_getD, List.getElem?_eq_getElem (by omega)]; rfl, fun h => by obtain ⟨A0, c0, A1, c1, e, f⟩ := k25_open h; exact ⟨sel [(A0, c0), (A1, c1)], e, f⟩⟩
instance : Opn k28 rd_T28 (fun x q => [.slice (q 0).1 x.f0.length (q 0).2, .int .i64 x.f1, .int .i64 x.f2]) (fun x q w => x.f0.length ≤ (q 0).2 ∧ Kd.bool.C w (q 0).1 x.f0.length x.f0) := ⟨fun xs i h0 h1 => by unfold rd_T28; rw [List.getD_eq_getElem?_getD, List.getElem?_eq_getElem (by omega)]; rfl, fun h => by obtain ⟨A0, c0, e, f⟩ := k28_open h; exact ⟨sel [(A0, c0)], e, f⟩⟩
instance : Opn (Kd.slice 5 (Kd.int .u8)) rd_L2 (fun x q => [.slice (q 0).1 x.length (q 0).2]) (fun x q w => Kd.C (Kd.int .u8) w (q 0).1 x.length x ∧ x.length ≤ (q 0).2) := ⟨fun xs i h0 h1 => by unfold rd_L2; rw [List.getD_eq_getElem?_getD, List.getElem?_eq_getElem (by omega)]; rfl, fun h => by obtain ⟨A, c, e, f1, f2⟩ := h; exact ⟨fun _ => (A, c), e, f2, f1⟩⟩
instance : Opn (Kd.slice 43 k43) rd_L4 (fun x q => [.slice (q 0).1 x.length (q 0).2]) (fun x q w => Kd.C k43 w (q 0).1 x.length x ∧ x.length ≤ (q 0).2) := ⟨fun xs i h0 h1 => by unfold rd_L4; rw [List.getD_eq_getElem?_getD, List.getElem?_eq_getElem (by omega)]; rfl, fun h => by obtain ⟨A, c, e, f1, f2⟩ := h; exact ⟨fun _ => (A, c), e, f2, f1⟩⟩
instance : Opn (Kd.slice 4 Kd.bool) rd_L7 (fun x q => [.slice (q 0).1 x.length (q 0).2]) (fun x q w => Kd.C Kd.bool w (q 0).1 x.length x ∧ x.length ≤ (q 0).2) := ⟨fun xs i h0 h1 => by unfold rd_L7; rw [List.getD_eq_getElem?_getD, List.getElem?_eq_getElem (by omega)]; rfl, fun h => by obtain ⟨A, c, e, f1, f2⟩ := h; exact ⟨fun _ => (A, c), e, f2, f1⟩⟩
instance : Zk Try.prog 22 (Kd.int .u8) (0 : Int) := Zk.of 5 1 1 (.int .u8 0) ⟨Try.underlying22, by kernel_rfl, by decide, by decide, rfl⟩ (fun _ _ _ => rfl) rfl
instance : Zk Try.prog 23 (k43) z43 := Zk.of 43 2 32 (.agg #[(.int .i64 0), (.slice none 0 0)]) ⟨Try.underlying23, by kernel_rfl, by decide, by decide, rfl⟩ (fun _ _ _ => k43_mkM _ _ _ z43 (Kd.R_nil _ _ _ _ _)) rfl
instance : Zk Try.prog 26 (Kd.bool) false := Zk.of 4 1 1 (.bool false) ⟨Try.underlying26, by kernel_rfl, by decide, by decide, rfl⟩ (fun _ _ _ => rfl) rfl
instance : Mr k43 (Kd.int .u8) 5 1 (fun cs l => match cs with | [.int _ a0, _] => ⟨a0, l⟩ | _ => z43) (fun x v1 => [.int .i64 x.f0, v1]) (fun x => x.f1) := ⟨fun h => k43_mkM _ _ _ _ h⟩
theorem fld25_0 (A0 : Option Addr) (n0 c0 : Nat) (A1 : Option Addr) (n1 c1 : Nat) (x2 : Int) (b3 : Bool) (w : World) : (Instr.field 25 (.agg #[.slice A0 n0 c0, .slice A1 n1 c1, .int .i64 x2, .bool b3]) 0).run Try.prog w = .ok (.slice A0 n0 c0) w := by kernel_rfl
attribute [go_sem] fld25_0
end Go.Proofs.Ytlpghnhcgljhoaa.SP
end
section
namespace Go.Proofs.Ytlpghnhcgljhoaa.Q
open Go.RowKit Go.Proofs.YtlpghnhcgljhoaaW.PrintWords Go.Proofs.YtlpghnhcgljhoaaW.PrintLast Go.Proofs.Ytlpghnhcgljhoaa.LK Go.Proofs.YtlpghnhcgljhoaaW.PrintMore Go.Proofs.Ytlpghnhcgljhoaa.SP
set_option linter.unusedVariables false
def impl_Dev_sectors.f (l0_0 : List Int) (l0_1 : List (S43)) (a0_2 : Int) (a0_3 : Bool) : Option (Int) := some (wrap64 ((l0_0.length : Int) / 64))
set_option maxHeartbeats 8000000 in
set_option maxRecDepth 100000 in
instance impl_Dev_sectors.con {A0_0 : Option Addr} {c0_0 : Nat} {l0_0 : List Int} {A0_1 : Option Addr} {c0_1 : Nat} {l0_1 : List (S43)} {a0_2 : Int} {a0_3 : Bool} {n0_0 : Nat} {n0_1 : Nat} {rr : Int} : Con Try.prog 17 (impl_Dev_sectors.f l0_0 l0_1 a0_2 a0_3) rr #[.agg #[.slice A0_0 n0_0 c0_0, .slice A0_1 n0_1 c0_1, .int .i64 a0_2, .bool a0_3]] (fun w => Kd.C (Kd.int .u8) w A0_0 n0_0 l0_0 ∧ l0_0.length ≤ c0_0 ∧ Kd.C k43 w A0_1 n0_1 l0_1 ∧ l0_1.length ≤ c0_1) (fun _ => .int .i64 rr) (fun _ => []) := ⟨fun w ⟨p0, p1, p2, p3⟩ E => by
  obtain rfl := p0.1
  obtain rfl := p2.1
  replace p0 := Aside0.mk p0
  replace p1 := Aside0.mk p1
  replace p2 := Aside0.mk p2
  replace p3 := Aside0.mk p3
  have H := Aside0.mk (Sep.refl w)
  replace E := Aside0.mk E
  unfold impl_Dev_sectors.f at E
  go_in
  exact walkM⟩
end Go.Proofs.Ytlpghnhcgljhoaa.Q
end
section
namespace Go.Proofs.Ytlpghnhcgljhoaa.Q
open Go.RowKit Go.Proofs.YtlpghnhcgljhoaaW.PrintWords Go.Proofs.YtlpghnhcgljhoaaW.PrintLast Go.Proofs.Ytlpghnhcgljhoaa.LK Go.Proofs.YtlpghnhcgljhoaaW.PrintMore Go.Proofs.Ytlpghnhcgljhoaa.SP
set_option linter.unusedVariables false
def impl_Dev_has.f (l0_0 : List Int) (l0_1 : List (S43)) (a0_2 : Int) (a0_3 : Bool) (a1 : Int) : Option (Bool) := if a1 ≥ 0 then ((impl_Dev_sectors.f l0_0 l0_1 a0_2 a0_3).bind fun t102 => (some (decide (a1 < t102)))) else (some false)
set_option maxHeartbeats 8000000 in
set_option maxRecDepth 100000 in
instance impl_Dev_has.con {A0_0 : Option Addr} {c0_0 : Nat} {l0_0 : List Int} {A0_1 : Option Addr} {c0_1 : Nat} {l0_1 : List (S43)} {a0_2 : Int} {a0_3 : Bool} {a1 : Int} {n0_0 : Nat} {n0_1 : Nat} {rr : Bool} : Con Try.prog 18 (impl_Dev_has.f l0_0 l0_1 a0_2 a0_3 a1) rr #[.agg #[.slice A0_0 n0_0 c0_0, .slice A0_1 n0_1 c0_1, .int .i64 a0_2, .bool a0_3], .int .i64 a1] (fun w => Kd.C (Kd.int .u8) w A0_0 n0_0 l0_0 ∧ l0_0.length ≤ c0_0 ∧ Kd.C k43 w A0_1 n0_1 l0_1 ∧ l0_1.length ≤ c0_1) (fun _ => .bool rr) (fun _ => []) := ⟨fun w ⟨p0, p1, p2, p3⟩ E => by
  obtain rfl := p0.1
  obtain rfl := p2.1
  replace p0 := Aside0.mk p0
  replace p1 := Aside0.mk p1
  replace p2 := Aside0.mk p2
  replace p3 := Aside0.mk p3
  have H := Aside0.mk (Sep.refl w)
  replace E := Aside0.mk E
  unfold impl_Dev_has.f at E
  go_in
  exact walkM⟩
end Go.Proofs.Ytlpghnhcgljhoaa.Q
end
section
namespace Go.Proofs.Ytlpghnhcgljhoaa.Q
open Go.RowKit Go.Proofs.YtlpghnhcgljhoaaW.PrintWords Go.Proofs.YtlpghnhcgljhoaaW.PrintLast Go.Proofs.Ytlpghnhcgljhoaa.LK Go.Proofs.YtlpghnhcgljhoaaW.PrintMore Go.Proofs.Ytlpghnhcgljhoaa.SP
set_option linter.unusedVariables false
mutual
def impl_ValidDev.j0 : Nat → Bool → List Int → List (S43) → Int → Bool → Option (Bool)
  | 0, _, _, _, _, _ => none
  | k + 1, x19, x102000, x102001, x102002, x102003 => if x19 = true then (some false) else (if (x102001.length : Int) > 1000 then (impl_ValidDev.j1 k true x102000 x102001 x102002 x102003) else (if x102002 < (-1) then (impl_ValidDev.j1 k true x102000 x102001 x102002 x102003) else (impl_ValidDev.j1 k (decide (x102002 > 1000000)) x102000 x102001 x102002 x102003)))
def impl_ValidDev.j1 : Nat → Bool → List Int → List (S43) → Int → Bool → Option (Bool)
  | 0, _, _, _, _, _ => none
  | k + 1, x33, x102000, x102001, x102002, x102003 => if x33 = true then (some false) else (impl_ValidDev.l0 k x102001 (x102001.length : Int) 0 x102000 x102001 x102002 x102003)
def impl_ValidDev.l0 : Nat → List (S43) → Int → Int → List Int → List (S43) → Int → Bool → Option (Bool)
  | 0, _, _, _, _, _, _, _ => none
  | k + 1, x35, x36, x37, x102000, x102001, x102002, x102003 => if x37 < x36 then (if 0 ≤ x37 then (if x37 < (x35.length : Int) then ((impl_Dev_has.f x102000 x102001 x102002 x102003 ((rd_T43 x35 x37).f0)).bind fun t106 => (if t106 = true then (if (((rd_T43 x35 x37).f1).length : Int) = 64 then (impl_ValidDev.l0 k x35 x36 (wrap64 (x37 + 1)) x102000 x102001 x102002 x102003) else (some false)) else (some false))) else (none)) else (none)) else (some true)
end
def impl_ValidDev.f (k : Nat) (l0_0 : List Int) (l0_1 : List (S43)) (a0_2 : Int) (a0_3 : Bool) : Option (Bool) := if ((l0_0.length : Int) % 64) = 0 then ((impl_Dev_sectors.f l0_0 l0_1 a0_2 a0_3).bind fun t102 => (if t102 < 8 then (impl_ValidDev.j0 k true l0_0 l0_1 a0_2 a0_3) else ((impl_Dev_sectors.f l0_0 l0_1 a0_2 a0_3).bind fun t103 => (impl_ValidDev.j0 k (decide (t103 > 256)) l0_0 l0_1 a0_2 a0_3)))) else (impl_ValidDev.j0 k true l0_0 l0_1 a0_2 a0_3)
theorem impl_ValidDev.loop0 {G : Prop} (h : G := by
    obtain ⟨L0, hL⟩ := lpSet H
    go_loopg [37] k (fun kq v37 w' => ∃ (x37_3 : Int), Aside0 (impl_ValidDev.l0 kq l0_1 (l0_1.length : Int) x37_3 l0_0 l0_1 a0_2 a0_3 = some rr) ∧ Aside0 (kq ≤ k) ∧ v37 = .int .i64 x37_3 ∧ Aside0 (Sep w L0 w'))
    case atStart => cases hL.out; exact relM
    case round =>
      clear E H
      cases hL.out
      obtain ⟨x37_3, E, ⟨K⟩, rfl, H⟩ := hrel
      cases gk with
      | zero => simp only [impl_ValidDev.l0] at E; exact esN E
      | succ k => simp only [impl_ValidDev.l0] at E; exact walkM) : G := h
set_option maxHeartbeats 8000000 in
set_option maxRecDepth 100000 in
instance impl_ValidDev.con {k : Nat} {A0_0 : Option Addr} {c0_0 : Nat} {l0_0 : List Int} {A0_1 : Option Addr} {c0_1 : Nat} {l0_1 : List (S43)} {a0_2 : Int} {a0_3 : Bool} {n0_0 : Nat} {n0_1 : Nat} {rr : Bool} : Con Try.prog 7 (impl_ValidDev.f k l0_0 l0_1 a0_2 a0_3) rr #[.agg #[.slice A0_0 n0_0 c0_0, .slice A0_1 n0_1 c0_1, .int .i64 a0_2, .bool a0_3]] (fun w => Kd.C (Kd.int .u8) w A0_0 n0_0 l0_0 ∧ l0_0.length ≤ c0_0 ∧ Kd.C k43 w A0_1 n0_1 l0_1 ∧ l0_1.length ≤ c0_1) (fun _ => .bool rr) (fun _ => []) := ⟨fun w ⟨p0, p1, p2, p3⟩ E => by
  obtain rfl := p0.1
  obtain rfl := p2.1
  replace p0 := Aside0.mk p0
  replace p1 := Aside0.mk p1
  replace p2 := Aside0.mk p2
  replace p3 := Aside0.mk p3
  have H := Aside0.mk (Sep.refl w)
  replace E := Aside0.mk E
  unfold impl_ValidDev.f at E
  go_in
  exact walkM⟩
end Go.Proofs.Ytlpghnhcgljhoaa.Q
end
section
namespace Go.Proofs.Ytlpghnhcgljhoaa.Q
open Go.RowKit Go.Proofs.YtlpghnhcgljhoaaW.PrintWords Go.Proofs.YtlpghnhcgljhoaaW.PrintLast Go.Proofs.Ytlpghnhcgljhoaa.LK Go.Proofs.YtlpghnhcgljhoaaW.PrintMore Go.Proofs.Ytlpghnhcgljhoaa.SP
set_option linter.unusedVariables false
def spec_l1Sectors.f (l0_0 : List Int) (l0_1 : List (S43)) (a0_2 : Int) (a0_3 : Bool) : Option (Int) := some (wrap64 ((l0_0.length : Int) / 64))
set_option maxHeartbeats 8000000 in
set_option maxRecDepth 100000 in
instance spec_l1Sectors.con {A0_0 : Option Addr} {c0_0 : Nat} {l0_0 : List Int} {A0_1 : Option Addr} {c0_1 : Nat} {l0_1 : List (S43)} {a0_2 : Int} {a0_3 : Bool} {n0_0 : Nat} {n0_1 : Nat} {rr : Int} : Con Try.prog 16 (spec_l1Sectors.f l0_0 l0_1 a0_2 a0_3) rr #[.agg #[.slice A0_0 n0_0 c0_0, .slice A0_1 n0_1 c0_1, .int .i64 a0_2, .bool a0_3]] (fun w => Kd.C (Kd.int .u8) w A0_0 n0_0 l0_0 ∧ l0_0.length ≤ c0_0 ∧ Kd.C k43 w A0_1 n0_1 l0_1 ∧ l0_1.length ≤ c0_1) (fun _ => .int .i64 rr) (fun _ => []) := ⟨fun w ⟨p0, p1, p2, p3⟩ E => by
  obtain rfl := p0.1
  obtain rfl := p2.1
  replace p0 := Aside0.mk p0
  replace p1 := Aside0.mk p1
  replace p2 := Aside0.mk p2
  replace p3 := Aside0.mk p3
  have H := Aside0.mk (Sep.refl w)
  replace E := Aside0.mk E
  unfold spec_l1Sectors.f at E
  go_in
  exact walkM⟩
end Go.Proofs.Ytlpghnhcgljhoaa.Q
end
section
namespace Go.Proofs.Ytlpghnhcgljhoaa.Q
open Go.RowKit Go.Proofs.YtlpghnhcgljhoaaW.PrintWords Go.Proofs.YtlpghnhcgljhoaaW.PrintLast Go.Proofs.Ytlpghnhcgljhoaa.LK Go.Proofs.YtlpghnhcgljhoaaW.PrintMore Go.Proofs.Ytlpghnhcgljhoaa.SP
set_option linter.unusedVariables false
theorem spec_l1Sectors.calls (A0_0 : Option Addr) (c0_0 : Nat) (l0_0 : List Int) (A0_1 : Option Addr) (c0_1 : Nat) (l0_1 : List (S43)) (a0_2 : Int) (a0_3 : Bool) (r : Int) (w : World) (hr0_0 : Kd.C (Kd.int .u8) w A0_0 l0_0.length l0_0) (hc0_0 : l0_0.length ≤ c0_0) (hr0_1 : Kd.C k43 w A0_1 l0_1.length l0_1) (hc0_1 : l0_1.length ≤ c0_1) (h : spec_l1Sectors.f l0_0 l0_1 a0_2 a0_3 = some r) :
    Calls Try.prog 16 #[.agg #[.slice A0_0 l0_0.length c0_0, .slice A0_1 l0_1.length c0_1, .int .i64 a0_2, .bool a0_3]] w fun e w' => e = .returned (.int .i64 r) ∧ Below w.heap.size w w' := by
  refine Calls.mono (Con.c w ?_ h) ?_
  · (repeat' (first | exact trivial | assumption | apply And.intro))
  rintro e w' ⟨q, he, H⟩
  exact ⟨he, H.below⟩
end Go.Proofs.Ytlpghnhcgljhoaa.Q
end
