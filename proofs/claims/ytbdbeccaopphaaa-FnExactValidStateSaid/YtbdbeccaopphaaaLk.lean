/- Small laws on worlds that grow step by step: what was made in a range of blocks stays as it was. No condition. -/
import Derived.Test.YtbdbeccaopphaaaWWords
import Derived.Test.YtbdbeccaopphaaaWLast
import Derived.Test.YtbdbeccaopphaaaWApart
import Derived.Test.YtbdbeccaopphaaaWKept
namespace Go.Proofs.Ytbdbeccaopphaaa.LK
open Go.RowKit Go.Proofs.YtbdbeccaopphaaaW.PrintWords Go.Proofs.YtbdbeccaopphaaaW.PrintLast
set_option linter.unusedVariables false

/-- The blocks from b to t are as they were. -/
def Fix (b t : Nat) (w W : World) : Prop := ∀ k, b ≤ k → k < t → W.heap[k]? = w.heap[k]?
/-- Ranges of blocks, the newest first, each with the world in which it was last written. -/
def Fixes (bot : Nat) (W : World) : List (World × Nat × Nat) → Nat → Prop
  | [], top => bot ≤ top
  | (w, b, t) :: l, top => Fix b t w W ∧ b ≤ t ∧ t ≤ top ∧ Fixes bot W l b
/-- From w to w' nothing that was there has changed but the blocks of S. -/
structure Stp (S : Nat → Prop) (w w' : World) : Prop where
  os : w'.os = w.os
  tape : w'.tape = w.tape
  output : w'.output = w.output
  size : w.heap.size ≤ w'.heap.size
  block : ∀ i, i < w.heap.size → ¬ S i → w'.heap[i]? = w.heap[i]?
structure Hist (w0 : World) (l : List (World × Nat × Nat)) (W : World) : Prop where
  below : Below w0.heap.size w0 W
  fixes : Fixes w0.heap.size W l W.heap.size

theorem Fixes.hd {bot b t top : Nat} {w W : World} {l : List (World × Nat × Nat)} (h : Fixes bot W ((w, b, t) :: l) top) : Fix b t w W := h.1
theorem Fixes.tl {bot b t top : Nat} {w W : World} {l : List (World × Nat × Nat)} (h : Fixes bot W ((w, b, t) :: l) top) : Fixes bot W l b := h.2.2.2
theorem Fixes.bot_le {bot : Nat} {W : World} : ∀ {l : List (World × Nat × Nat)} {top : Nat}, Fixes bot W l top → bot ≤ top
  | [], _, h => h
  | (_, _, _) :: _, _, h => Nat.le_trans (Nat.le_trans (Fixes.bot_le h.2.2.2) h.2.1) h.2.2.1
theorem Fixes.mem_le {bot b t : Nat} {w W : World} {l2 : List (World × Nat × Nat)} : ∀ {l1 : List (World × Nat × Nat)} {top : Nat}, Fixes bot W (l1 ++ (w, b, t) :: l2) top → b ≤ t ∧ t ≤ top ∧ bot ≤ b
  | [], _, h => ⟨h.2.1, h.2.2.1, Fixes.bot_le h.2.2.2⟩
  | (_, _, _) :: _, _, h => by
    obtain ⟨h1, h2, h3⟩ := Fixes.mem_le h.2.2.2
    exact ⟨h1, Nat.le_trans h2 (Nat.le_trans h.2.1 h.2.2.1), h3⟩
theorem Fix.trans {b t : Nat} {w1 w2 w3 : World} (h : Fix b t w1 w2) (k : Fix b t w2 w3) : Fix b t w1 w3 := fun i hb ht => (k i hb ht).trans (h i hb ht)
theorem Fixes.step {bot : Nat} {W W' : World} : ∀ {l : List (World × Nat × Nat)} {top : Nat}, Fixes bot W l top → top ≤ W.heap.size → Below W.heap.size W W' → Fixes bot W' l top
  | [], _, h, _, _ => h
  | (_, _, _) :: _, _, h, ht, hb => ⟨h.1.trans (fun i _ hi => hb.block i (Nat.lt_of_lt_of_le hi (Nat.le_trans h.2.2.1 ht))), h.2.1, h.2.2.1, Fixes.step h.2.2.2 (Nat.le_trans h.2.1 (Nat.le_trans h.2.2.1 ht)) hb⟩
theorem Fixes.above {bot lo : Nat} {S : Nat → Prop} {W W' : World} (s : Stp S W W') (hS : ∀ k, S k → lo ≤ k) : ∀ {l : List (World × Nat × Nat)} {top : Nat}, Fixes bot W l top → top ≤ lo → top ≤ W.heap.size → Fixes bot W' l top
  | [], _, h, _, _ => h
  | (_, _, _) :: _, _, h, ht, hs => ⟨h.1.trans (fun i _ hi => s.block i (by have := h.2.2.1; omega) (fun hk => by have := hS i hk; have := h.2.2.1; omega)), h.2.1, h.2.2.1, Fixes.above s hS h.2.2.2 (by have := h.2.1; have := h.2.2.1; omega) (by have := h.2.1; have := h.2.2.1; omega)⟩
theorem Fixes.mark {bot b t : Nat} {S : Nat → Prop} {w W W' : World} {l2 : List (World × Nat × Nat)} (s : Stp S W W') (hS : ∀ k, S k → b ≤ k ∧ k < t) : ∀ {l1 : List (World × Nat × Nat)} {top : Nat}, Fixes bot W (l1 ++ (w, b, t) :: l2) top → top ≤ W.heap.size → Fixes bot W' (l1 ++ (W', b, t) :: l2) top
  | [], _, h, ht => ⟨fun _ _ _ => rfl, h.2.1, h.2.2.1, Fixes.above s (fun k hk => (hS k hk).1) h.2.2.2 (Nat.le_refl _) (by have := h.2.1; have := h.2.2.1; omega)⟩
  | (w1, b1, t1) :: l1, _, h, ht => by
    have hm := Fixes.mem_le (l1 := l1) h.2.2.2
    refine ⟨h.1.trans (fun i hi hi2 => s.block i ?_ (fun hk => ?_)), h.2.1, h.2.2.1, Fixes.mark s hS (l1 := l1) h.2.2.2 ?_⟩
    · have := h.2.2.1; omega
    · have := hS i hk; omega
    · have := h.2.1; have := h.2.2.1; omega

theorem Hist.refl (w : World) : Hist w [] w := ⟨Below.refl _ _, Nat.le_refl _⟩
theorem Hist.step {w0 W W' : World} {l : List (World × Nat × Nat)} (h : Hist w0 l W) (hb : Below W.heap.size W W') : Hist w0 ((W', W.heap.size, W'.heap.size) :: l) W' :=
  ⟨below_step h.below hb, fun _ _ _ => rfl, hb.size, Nat.le_refl _, Fixes.step h.fixes (Nat.le_refl _) hb⟩
/-- A step behind which nothing is kept. -/
theorem Hist.pass {w0 W W' : World} {l : List (World × Nat × Nat)} (h : Hist w0 l W) (hb : Below W.heap.size W W') : Hist w0 l W' := by
  refine ⟨below_step h.below hb, ?_⟩
  have h1 := Fixes.step h.fixes (Nat.le_refl _) hb
  cases l with
  | nil => exact Nat.le_trans h1 hb.size
  | cons x l => obtain ⟨w, b, t⟩ := x; exact ⟨h1.1, h1.2.1, Nat.le_trans h1.2.2.1 hb.size, h1.2.2.2⟩
theorem Hist.drew {w0 W : World} {l : List (World × Nat × Nat)} (h : Hist w0 l W) : Hist w0 l W.drew := ⟨below_drew1 h.below, h.pass (below_drew1 (Below.refl _ _)) |>.fixes⟩
theorem Fixes.top_up {bot : Nat} {W : World} {l : List (World × Nat × Nat)} {top top' : Nat} (h : Fixes bot W l top) (ht : top ≤ top') : Fixes bot W l top' := by
  cases l with
  | nil => exact Nat.le_trans h ht
  | cons x l => obtain ⟨w, b, t⟩ := x; exact ⟨h.1, h.2.1, Nat.le_trans h.2.2.1 ht, h.2.2.2⟩
theorem Hist.mark {w0 w W W' : World} {b t : Nat} {S : Nat → Prop} (l1 : List (World × Nat × Nat)) {l2 : List (World × Nat × Nat)} (h : Hist w0 (l1 ++ (w, b, t) :: l2) W) (s : Stp S W W') (hS : ∀ k, S k → b ≤ k ∧ k < t) : Hist w0 (l1 ++ (W', b, t) :: l2) W' := by
  have hm := Fixes.mem_le h.fixes
  refine ⟨h.below.trans ⟨s.os, s.tape, s.output, s.size, fun i hi => ?_⟩, Fixes.top_up (Fixes.mark s hS h.fixes (Nat.le_refl _)) s.size⟩
  by_cases hlt : i < W.heap.size
  · exact s.block i hlt (fun hk => by have := hS i hk; omega)
  · have := h.below.size
    omega
theorem Fixes.at {bot top b t : Nat} {w W : World} {l1 l2 L : List (World × Nat × Nat)} (e : l1 ++ (w, b, t) :: l2 = L) (h : Fixes bot W L top) : b ≤ top := by
  subst e
  exact Nat.le_trans (Fixes.mem_le h).1 (Fixes.mem_le h).2.1
theorem Hist.mark' {w0 w W W' : World} {b t : Nat} {S : Nat → Prop} {l1 l2 L L' : List (World × Nat × Nat)} (e : l1 ++ (w, b, t) :: l2 = L) (e' : l1 ++ (W', b, t) :: l2 = L') (h : Hist w0 L W) (s : Stp S W W') (hS : ∀ k, S k → b ≤ k ∧ k < t) : Hist w0 L' W' := by
  subst e e'
  exact Hist.mark l1 h s hS
theorem Stp.of_below {w w' : World} (h : Below w.heap.size w w') (S : Nat → Prop) : Stp S w w' := ⟨h.os, h.tape, h.output, h.size, fun i hi _ => h.block i hi⟩
theorem Stp.trans {S : Nat → Prop} {w1 w2 w3 : World} (h : Stp S w1 w2) (k : Stp S w2 w3) : Stp S w1 w3 :=
  ⟨k.os.trans h.os, k.tape.trans h.tape, k.output.trans h.output, Nat.le_trans h.size k.size, fun i hi hn => (k.block i (Nat.lt_of_lt_of_le hi h.size) hn).trans (h.block i hi hn)⟩
theorem Stp.mono {S S' : Nat → Prop} {w1 w2 : World} (h : Stp S w1 w2) (hs : ∀ k, k < w1.heap.size → S k → S' k) : Stp S' w1 w2 :=
  ⟨h.os, h.tape, h.output, h.size, fun i hi hn => h.block i hi (fun hk => hn (hs i hi hk))⟩
theorem Stp.refl (S : Nat → Prop) (w : World) : Stp S w w := ⟨rfl, rfl, rfl, Nat.le_refl _, fun _ _ _ => rfl⟩
theorem Stp.grown {S : Nat → Prop} {w w' : World} {row : Option Nat} (h : w.grownBy w' row) (hr : ∀ k, row = some k → S k) : Stp S w w' := ⟨h.os, h.tape, h.output, h.size, fun i hi hn => h.block i hi (fun he => hn (hr i he.symm))⟩
theorem Stp.set {S : Nat → Prop} (w : World) {p : Addr} (hp : S p.block) (u : Value) : Stp S w (w.setCell p u) :=
  ⟨rfl, rfl, rfl, by simp [World.setCell], fun i _ hn => Below.heap_setCell w p u i (fun he => hn (by rw [he]; exact hp))⟩

section
variable {α : Type} {d : Kd α} {e b : Nat} {ok : Nat → Prop} {w W : World} {v : Value} {xs : List α}
/-- The length of a reading, spelled otherwise. -/
theorem C_len {A : Option Addr} {n m : Nat} (h : n = m) (k : d.C w A n xs) : d.C w A m xs := h ▸ k
theorem R_capn {A : Option Addr} {n c : Nat} (h : d.R e w b ok (.slice A n c) xs) : xs.length ≤ c := (Kd.R_reads' h).1 ▸ (Kd.R_reads' h).2.1
theorem S_capn {A : Option Addr} {n c : Nat} (h : d.S e w b ok (.slice A n c) xs) : xs.length ≤ c := (Kd.S_reads' h).1 ▸ (Kd.S_reads' h).2.1
theorem R_fix (h : d.R e w b ok v xs) (f : Fix b w.heap.size w W) : d.R e W b (fun k => ok k ∧ b ≤ k ∧ k < w.heap.size) v xs :=
  Kd.R_mono (Kd.R_move (Kd.R_bound h) (fun k hk => f k hk.2.1 hk.2.2.1)) (fun _ hk => ⟨hk.1, hk.2.1, hk.2.2.1⟩)
theorem S_fix (h : d.S e w b ok v xs) (f : Fix b w.heap.size w W) : d.S e W b (fun k => ok k ∧ b ≤ k ∧ k < w.heap.size) v xs :=
  Kd.S_mono (Kd.S_move (Kd.S_bound h) (fun k hk => f k hk.2.1 hk.2.2.1)) (fun _ hk => ⟨hk.1, hk.2.1, hk.2.2.1⟩)
/-- The same for a row that was written behind its making: its blocks are told by ok. -/
theorem R_fix2 {t : Nat} (h : d.R e w b (fun k => ok k ∧ b ≤ k ∧ k < t) v xs) (f : Fix b t w W) : d.R e W b (fun k => ok k ∧ b ≤ k ∧ k < t) v xs := Kd.R_move h (fun k hk => f k hk.2.1 hk.2.2)
theorem S_fix2 {t : Nat} (h : d.S e w b (fun k => ok k ∧ b ≤ k ∧ k < t) v xs) (f : Fix b t w W) : d.S e W b (fun k => ok k ∧ b ≤ k ∧ k < t) v xs := Kd.S_move h (fun k hk => f k hk.2.1 hk.2.2)
theorem blk_fix2 {g t : Nat} {o : Obj} (h : w.heap[g]? = some o) (hb : b ≤ g ∧ g < t) (f : Fix b t w W) : W.heap[g]? = some o := (f g hb.1 hb.2).trans h
theorem blk_fix {g : Nat} {o : Obj} (h : w.heap[g]? = some o) (hb : b ≤ g) (f : Fix b w.heap.size w W) : W.heap[g]? = some o := (f g hb (blk_lt h)).trans h
end

section
variable {P : Program} {ops : Array Oper} {rest : List Oper} {o : Oper} {a : Act} {Q : Exit → Act → World → Prop} {W : World}
theorem wants (hw : Region.wanted o (yielded ops a.tmps) = true) (h : ∀ K : Act → World → Prop, (∀ a w, wpList P ops Q rest a w → K a w) → o.wp P a W K Q) : wpList P ops Q (o :: rest) a W :=
  wpList_step fun K hK => by rw [if_pos hw]; exact h K hK
/-- The act written out. -/
theorem normL {a' : Act} (h : a = a') (k : wpList P ops Q rest a' W) : wpList P ops Q rest a W := by subst h; exact k
/-- A whole variable in memory is loaded. -/
theorem ld_run {T g t : Nat} {x : Operand} {cs : Array Value} {fr : Nat × Nat} {d : TypeDesc} (ho : o.op = .load T x) (hx : a.eval x = .pointer (some ⟨g, 0, none⟩)) (hg : W.heap[g]? = some (.cells cs t fr))
    (hu : P.underlying T = some d) (hd : (match d with | .struct _ | .array _ _ => true | _ => false) = true) (hi : (P.info? T).map (·.size) = some cs.size) :
    (execOp a.eval o).run P W = .ok (.value (.agg cs)) W := by
  unfold execOp
  simp only [ho, hx, Instr.loadAt, Instr.sureAddr, Sem.run_bind, Sem.run_pure, Result.andThen_ok, run_loadVar_row W g t T cs fr d hg hu hd hi]
theorem ld {T g t : Nat} {x : Operand} {cs : Array Value} {fr : Nat × Nat} {d : TypeDesc} (hw : Region.wanted o (yielded ops a.tmps) = true) (ho : o.op = .load T x) (hx : a.eval x = .pointer (some ⟨g, 0, none⟩)) (hg : W.heap[g]? = some (.cells cs t fr))
    (hu : P.underlying T = some d) (hd : (match d with | .struct _ | .array _ _ => true | _ => false) = true) (hi : (P.info? T).map (·.size) = some cs.size)
    (h : wpList P ops Q rest (a.put o.dst (.agg cs)) W) : wpList P ops Q (o :: rest) a W :=
  wants hw fun _ hK => wp_load_row T x ho g hx t cs fr d hg hu hd hi (hK _ _ h)
/-- Some cells of a block are written, one behind the other. -/
theorem st {T g o' t : Nat} {p x : Operand} {cur : Array Value} {u : Value} {seg : List Value} (hw : Region.wanted o (yielded ops a.tmps) = true) (hN : o.dst = none) (ho : o.op = .store T p x)
    (hp : a.eval p = .pointer (some ⟨g, o', none⟩)) (hx : a.eval x = u) (hu : u.cells.toList = seg) (hh : W.heap[g]? = some (.cells cur t (0, 0))) (ht : (P.info? T).map (·.size) = some seg.length)
    (hfit : o' + seg.length ≤ cur.size) (h1 : ∀ q ∈ seg, q.oneCell' = true)
    (h : ∀ w1, w1.heap[g]? = some (.cells (cur.toList.take o' ++ seg ++ cur.toList.drop (o' + seg.length)).toArray t (0, 0)) → Stp (fun k => k = g) W w1 → wpList P ops Q rest a w1) : wpList P ops Q (o :: rest) a W := by
  refine wants hw fun K hK => ?_
  obtain ⟨cur', h3, _, h5⟩ := setCells_row seg o' W cur hh hfit
  obtain ⟨s1, s2, s3, s4⟩ := setCells_same g seg o' W
  unfold Oper.wp execOp
  simp only [ho, hp, hx, Sem.run_bind, Sem.run_pure, Result.andThen_ok, run_store_run T u seg hh hu ht hfit h1]
  show K (a.put o.dst undef) _
  rw [hN]
  refine hK a _ (h _ ?_ ⟨s1, s2, s3, Nat.le_of_eq s4.symm, fun i _ hi => setCells_far seg o' i hi⟩)
  rw [← h5]
  exact h3
/-- A whole variable in memory is written. -/
theorem st_all {T g t : Nat} {p x : Operand} {cur : Array Value} {cs : Array Value} (hw : Region.wanted o (yielded ops a.tmps) = true) (hN : o.dst = none) (ho : o.op = .store T p x)
    (hp : a.eval p = .pointer (some ⟨g, 0, none⟩)) (hx : a.eval x = .agg cs) (hh : W.heap[g]? = some (.cells cur t (0, 0))) (ht : (P.info? T).map (·.size) = some cs.size) (hsz : cs.size = cur.size) (h1 : ∀ q ∈ cs.toList, q.oneCell' = true)
    (h : ∀ w1, w1.heap[g]? = some (.cells cs t (0, 0)) → Stp (fun k => k = g) W w1 → wpList P ops Q rest a w1) : wpList P ops Q (o :: rest) a W := by
  refine st (seg := cs.toList) hw hN ho hp hx rfl hh (by simpa using ht) (by simp; omega) h1 (fun w1 hb hs => h w1 ?_ hs)
  have e : (cur.toList.take 0 ++ cs.toList ++ cur.toList.drop (0 + cs.toList.length)).toArray = cs := by
    rw [List.drop_of_length_le (by simp; omega)]
    simp
  rw [e] at hb
  exact hb
/-- A variable in memory is made. -/
theorem mk {N : Tmp} {cs : Array Value} {t : Nat} (hw : Region.wanted o (yielded ops a.tmps) = true) (_hd : o.dst = some N)
    (hrun : (execOp a.eval o).run P W = .ok (.value (.pointer (some ⟨W.heap.size, 0, none⟩))) (W.alloc (.cells cs t (0, 0))))
    (h : ∀ g, g = W.heap.size → ∀ w1, w1.heap[g]? = some (.cells cs t (0, 0)) → Below W.heap.size W w1 → wpList P ops Q rest (a.put o.dst (.pointer (some ⟨g, 0, none⟩))) w1) : wpList P ops Q (o :: rest) a W := by
  refine wants hw fun K hK => ?_
  unfold Oper.wp
  rw [hrun]
  exact hK _ _ (h _ rfl _ (blk_new W _) (below_alloc (Below.refl _ _) _))
/-- A call, guarded or not. -/
theorem goesW (N : Option Tmp) (hd : o.dst = N) (hw : Region.wanted o (yielded ops a.tmps) = true) {f : FuncId} {fn : Func} {as : Array Operand} {ts : Array TypeId} (hf : P.funcs[f]? = some fn) (hname : (fn.name == "runtime.NumGoroutine") = false) (hb : fn.body.isSome = true) (args : Array Value)
    (hop : o.op = .call { callee := .value (.func f), args := as, argTypes := ts }) (hargs : as.map a.eval = args)
    (h : Calls P f args W fun e w' => ∃ v, e = .returned v ∧ wpList P ops Q rest (a.put N v) w') : wpList P ops Q (o :: rest) a W := by
  refine wants hw fun K hK => ?_
  have he := enters_ hf hname hb args W
  have hrun : (execOp a.eval o).run P W = .ok (.enter f args) W := by
    unfold execOp
    simp [hop, resolve, Deferred.ofValue, invoke, Act.eval, hargs, he]
  unfold Oper.wp
  rw [hrun, Oper.upon_enter]
  refine h.mono fun e w'' hh => ?_
  obtain ⟨v, rfl, hk⟩ := hh
  subst hd
  exact hK _ _ hk
end
end Go.Proofs.Ytbdbeccaopphaaa.LK
