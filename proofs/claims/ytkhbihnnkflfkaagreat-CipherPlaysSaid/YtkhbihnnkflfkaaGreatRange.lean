/-
 A RANGE OVER A FUNCTION: the caller's rule, yield's, the ends behind such loops, what passes through.
-/
import Derived.Test.YtkhbihnnkflfkaaGreatCell
namespace Go.Proofs.YtkhbihnnkflfkaaGreat
open Go.RowKit
set_option linter.unusedVariables false
set_option linter.unusedSimpArgs false
set_option maxRecDepth 100000

variable {ks xs : List Nat} {A C W' : World} {B D base c g m n : Nat} {ad : Option Addr} {args cur : Array Value} {T : TypeId} {row : Option Nat} {fn : Func} {l r : List (Tmp × Value)} {d t u : Tmp} {v x : Value}
def KeepB (ks : List Nat) (W W' : World) : Prop := ∀ k ∈ ks, ∀ cur T, Blk W k cur T → T ≠ 5 → Blk W' k cur T
theorem KeepB.refl (ks : List Nat) (W : World) : KeepB ks W W := fun _ _ _ _ h _ => h
theorem KeepB.trans {B : World} (h : KeepB ks A B) (h2 : KeepB ks B C) : KeepB ks A C := fun k hk c T hb hT => h2 k hk c T (h k hk c T hb hT) hT
theorem KeepB.grow {W B : World} (h : KeepB ks W A) (hb : Below A.heap.size A B) : KeepB ks W B := fun k hk c T hB hT => (h k hk c T hB hT).old hb
theorem KeepB.store {W B : World} (h : KeepB ks W A) (hb : BelowX (fun k => k = g) A B) (hg : ¬ g ∈ ks) : KeepB ks W B := fun k hk c T hB hT => hb.blk (h k hk c T hB hT) (fun e => hg (e ▸ hk))
theorem KeepB.app {W B : World} (h : KeepB ks W A) (ho : Own A base ad c xs) (hg : A.grownBy B (Value.slice ad n c).ownBlock) : KeepB ks W B := fun k hk cu T hB hT => (h k hk cu T hB hT).grown ho hg hT
theorem keepB_t {B : World} (h : KeepB ks A B) (h2 : KeepB ks B C) : KeepB ks A C := h.trans h2
theorem keepB_b (W : World) (l : Nat) (o o' : Obj) (_ : B ≤ l) (hl : W.heap[l]? = some o) (hc : o.isCells = false) (_ : o.isWalk = false) : KeepB ks W (W.putObj l o') := fun k _ c T hB _ => by
 have hne : l ≠ k := fun e => by
  subst e
  unfold Blk at hB
  rw [hl] at hB
  cases hB
  cases hc
 unfold Blk at *
 simp [World.putObj, Array.getElem?_setIfInBounds, hne, hB]

theorem kf_grow {W : World} (h : KeepsFrom B W A) (hb : Below A.heap.size A C) : KeepsFrom B W C :=
 ⟨Nat.le_trans h.size hb.size, fun k o hk ho hc => (hb.block k (Array.getElem?_eq_some_iff.1 (h.same k o hk ho hc)).1).trans (h.same k o hk ho hc)⟩
theorem kf_store {W : World} (h : KeepsFrom B W A) (hB : Blk A g cur T) (hb : BelowX (fun k => k = g) A C) : KeepsFrom B W C :=
 ⟨Nat.le_trans h.size hb.size, fun k o hk ho hc => by
  have h1 := h.same k o hk ho hc
  refine (hb.block k (Array.getElem?_eq_some_iff.1 h1).1 (fun e => ?_)).trans h1
  subst e
  unfold Blk at hB
  rw [h1] at hB
  cases hB
  cases hc⟩
theorem kf_app {W : World} (h : KeepsFrom B W A) (ho : Own A base ad c xs) (hg : A.grownBy C (Value.slice ad n c).ownBlock) : KeepsFrom B W C :=
 ⟨Nat.le_trans h.size hg.size, fun k o hk ho' hc => by
  have h1 := h.same k o hk ho' hc
  refine (hg.block k (Array.getElem?_eq_some_iff.1 h1).1 (fun e => ?_)).trans h1
  rcases ho.row.2 with ⟨hv, _⟩ | ⟨q, cap, cur', hv, _, hh, _⟩
  ·simp only [Value.slice.injEq] at hv
   obtain ⟨rfl, _⟩ := hv
   cases e
  ·simp only [Value.slice.injEq] at hv
   obtain ⟨rfl, _⟩ := hv
   cases e
   rw [h1] at hh
   cases hh
   cases hc⟩

def RowNC (B : Nat) (W : World) (row : Option Nat) : Prop := ∀ r, row = some r → B ≤ r ∧ ∃ o : Obj, W.heap[r]? = some o ∧ o.isCells = false
theorem Blk.nc {W : World} (h : Blk W g cur T) (hg : W.grownBy W' row) (hr : RowNC B W row) : Blk W' g cur T := by
 refine (hg.block g h.lt (fun e => ?_)).trans h
 obtain ⟨_, o, ho, hc⟩ := hr g e.symm
 unfold Blk at h
 rw [ho] at h
 cases h
 cases hc
theorem Own.nc {W : World} {A : Option Addr} (h : Own W base A c xs) (hg : W.grownBy W' row) (hr : RowNC B W row) : Own W' base A c xs := by
 refine ⟨⟨h.row.1, ?_⟩, h.b8⟩
 rcases h.row.2 with h0 | ⟨g, cap, cur, hv, hb, hh, r⟩
 ·exact .inl h0
 ·exact .inr ⟨g, cap, cur, hv, hb, Blk.nc (T := 5) hh hg hr, r⟩
theorem Bs.nc {W : World} {A : Option Addr} (h : Bs W A c xs) (hg : W.grownBy W' row) (hr : RowNC B W row) : Bs W' A c xs := by
 refine ⟨h.le, h.max, h.b8, ?_⟩
 rcases h.cells with h0 | ⟨b, off, hA, hc⟩
 ·exact .inl h0
 ·refine .inr ⟨b, off, hA, fun i hi => hg.cell (hc i hi) (fun e => ?_)⟩
  obtain ⟨_, o, ho, hcc⟩ := hr b e.symm
  have := hc i hi
  unfold World.cell? at this
  dsimp only at this
  rw [ho] at this
  cases o <;> first | (cases hcc; done) | (simp at this; done) | skip
theorem below_nc {w W : World} (h : Below n w W) (hg : W.grownBy W' row) (hr : RowNC B W row) (hn : n ≤ B) (hw : n ≤ W.heap.size) : Below n w W' :=
 ⟨hg.os.trans h.os, hg.tape.trans h.tape, hg.output.trans h.output, Nat.le_trans h.size hg.size, fun k hk => (hg.block k (by omega) (fun e => by have := (hr k e.symm).1; omega)).trans (h.block k hk)⟩

section
variable {P : Program} {Q : Exit → Act → World → Prop} {a : Act} {w : World}

theorem x_enterM {f : FuncId} {c : Code} {R : Ending → World → Prop} (N : Nat) (hf : P.funcs[f]? = some fn) (hb : fn.body = some c) (hN : args.size + (fn.ntmps - args.size) = N)
  (h : ∀ a : Act, a.tmps.size = N → a.defers = [] → (∀ i v, args[i]? = some v → a.eval (.tmp i) = v) → WP2 false P c (bodyPostM Fence.wide 9 P fn R) (putsR a []) w) : Calls P f args w R := by
 refine (callsIn_wide (n := 9)).1 (callsIn_of_wp_marks hf hb trivial (wpIn_wide.2 (And.left (h _ (by simpa using hN) rfl (fun i v hi => ?_)))))
 have hlt := (Array.getElem?_eq_some_iff.1 hi).1
 simp [Act.eval, Array.getElem?_append_left hlt, hi]

theorem x_range {α : Type} {g : Operand} {ps : Array Tmp} {assign body : Code} {gf : Nat} {lb : Array Value} (hg : (putsR a r).eval g = .func (.func gf) #[] lb)
  (hf : P.funcs[gf]? = some fn) (hname : (fn.name == "runtime.NumGoroutine") = false) (hbody' : fn.body.isSome = true)
  {encs : α → Array Value} {Kp : World → World → Prop} {S Sp : List α → Prop} {N : Nat} (hseq : SeqStopsK Fence.wide 8 P gf lb encs Kp S Sp N w)
  (hKt : ∀ {A B C : World}, Kp A B → Kp B C → Kp A C) (hKb : ∀ (W : World) (l : Nat) (o o' : Obj), w.heap.size ≤ l → W.heap[l]? = some o → o.isCells = false → o.isWalk = false → Kp W (W.putObj l o')) (hps : ∀ x, (encs x).size = ps.size)
  (I : List α → World → Prop) (Ix : Code → List α → World → Prop) (hI : OwnFrom w.heap.size I) (hIx : ∀ c, OwnFrom w.heap.size (Ix c)) (h0 : I [] w) (Ax : α → Act → World → Prop) (hAx : ∀ x a', OwnFrom w.heap.size (fun (_ : Unit) W => Ax x a' W))
  (hassign : ∀ (pre : List α) (x : α) (W : World) (K : Act → World → Prop), I pre W → (∀ a' W', KeepsFrom w.heap.size W W' → Kp W W' → I pre W' → Ax x a' W' → K a' W') →
   WP2 true P assign (Exit.then K (fun _ _ _ => False)) { tmps := (ps.zip (encs x)).foldl (fun t (p, v) => t.setIfInBounds p v) (putsR a r).tmps, defers := [] } W)
  (hbody : ∀ (pre : List α) (x : α) (a' : Act) (W : World), I pre W → Ax x a' W → pre.length < N → WP2 true P body (ownPostG w.heap.size Kp I Ix (pre ++ [x]) W) a' W)
  (hdone : ∀ (D : Nat) (xs : List α) (W : World), w.heap.size ≤ D → S xs → I xs W → W.heap[D]? = some (.deferred (some [])) → Q .normal { putsR a r with defers := { target := .collected D, args := #[] } :: (putsR a r).defers } W)
  (hstop : ∀ (D : Nat) (c : Code) (pre : List α) (W : World), w.heap.size ≤ D → Sp pre → Ix c pre W → W.heap[D]? = some (.deferred (some [])) → WP2 false P c Q { putsR a r with defers := { target := .collected D, args := #[] } :: (putsR a r).defers } W) :
  WP2 false P (.rangeFunc g ps assign body) Q (putsR a r) w := by
 refine ⟨(wpIn_wide (n := 9)).1 ?_, fun h => by cases h⟩
 have h1 : fn.name ≠ "runtime.NumGoroutine" := by simpa using hname
 obtain ⟨c0, hc0⟩ := Option.isSome_iff_exists.1 hbody'
 refine wpIn_rangeFunc_ownH (w0 := w) rfl (by omega) hg trivial (fun args w => by simp [callFunc, hf, h1, hc0]) hseq hKt hKb (Below.refl _ _) hps I Ix hI hIx h0 Ax hAx ?_ ?_ hdone (fun D c pre W h1 h2 h3 h4 => wpIn_wide.2 (hstop D c pre W h1 h2 h3 h4).1)
 ·intro l pre x W K hi hK
  exact (hassign pre x W K hi hK).2 rfl (fun ⟨_, _, h⟩ => h) l _
 ·intro l pre x a' W _ _ hi hax hlt
  exact (hbody pre x a' W hi hax hlt).2 rfl (fun ⟨_, _, h⟩ => h) l _

theorem retM2 {R : Ending → World → Prop} (hf : fn.results = #[.tmp t, .tmp u]) (hd : a.defers = [{ target := .collected D, args := #[] }]) (hD : w.heap[D]? = some (.deferred (some []))) (hv : (putsR a l).eval (.tmp t) = v) (hx : (putsR a l).eval (.tmp u) = x)
  (hR : R (.returned (.tuple #[v, x])) (w.putObj D (.deferred none))) : bodyPostM Fence.wide 9 P fn R .ret (putsR a l) w := by
 subst hv; subst hx
 show LeavesInM _ _ _ _ _ _ (putsR a l).defers _ _
 rw [putsR_defers, hd]
 refine ⟨by simp, .inl ⟨_, _, rfl, run_takeDeferred hD, ?_⟩⟩
 exact ⟨_, results_tmp2 hf _ _ _, hR⟩
theorem yield_any {l : Nat} {W : World} {R : Ending → World → Prop} (h : YieldAt Fence.wide n P l args W R) : YieldAt Fence.wide m P l args W R := by
 obtain ⟨fn, tmps, assign, body, h1, h2, h3⟩ := h
 exact ⟨fn, tmps, assign, body, h1, h2, fun c cs _ => h3 c cs (room_wide _)⟩
variable {ops : Array Oper} {o : Oper} {rest : List Oper} {l : List (Tmp × Value)}
theorem x_regionI {id : Nat} {l : List Oper} (h : wpListIn Fence.wide 9 P l.toArray Q l (putsR a r) w) : WP2 false P (.region id l.toArray false) Q (putsR a r) w :=
 ⟨(wpIn_wide (n := 9)).1 (wpIn_region_lit h), fun h => by cases h⟩
theorem x_nilI (h : Q .normal a w) : wpListIn Fence.wide 9 P ops Q [] a w := h
theorem op_valI {w' : World} (hd : o.dst = some d) (hg : o.guard = none) (hr : (execOp (putsR a l).eval o).run P w = .ok (.value v) w') (h : wpListIn Fence.wide 9 P ops Q rest (putsR a ((d, v) :: l)) w') : wpListIn Fence.wide 9 P ops Q (o :: rest) (putsR a l) w := by
 refine wpListIn_plain hg (fun K hK => ⟨fun _ _ => trivial, ?_⟩)
 have e : (o.semAt Fence.wide.round (putsR a l).eval) = execOp (putsR a l).eval o := rfl
 rw [e, hr]
 show K ((putsR a l).put o.dst v) w'
 rw [hd]
 exact hK _ _ h
theorem op_yield {x y : Operand} {tys : Array TypeId} {k : Nat} {R : Ending → World → Prop} (hd : o.dst = some d) (hg : o.guard = none) (ho : o.op = .call { callee := .value x, args := #[y], argTypes := tys }) (hx : (putsR a l).eval x = .func (.yield k) #[] #[]) (hy : (putsR a l).eval y = v)
  (hY : YieldAt Fence.wide m P k #[v] w R) (h : ∀ e w', R e w' → ∃ u, e = .returned u ∧ wpListIn Fence.wide 9 P ops Q rest (putsR a ((d, u) :: l)) w') : wpListIn Fence.wide 9 P ops Q (o :: rest) (putsR a l) w := by
 refine wpListIn_plain hg (fun K hK => ⟨fun _ _ => trivial, ?_⟩)
 have e : (o.semAt Fence.wide.round (putsR a l).eval) = execOp (putsR a l).eval o := rfl
 obtain ⟨fn, tmps, assign, body, h1, h2⟩ := yield_any (m := 8) hY
 have hrun : (execOp (putsR a l).eval o).run P w = .ok (.round k fn tmps assign body) w := by
  generalize (putsR a l).eval = ev at *
  simp [execOp, ho, resolve, hx, hy, go_sem, h1]
 rw [e, hrun]
 refine ⟨(fun hh => (by cases hh)), h2.mono (fun e w' hR => ?_)⟩
 obtain ⟨u, rfl, h3⟩ := h e w' hR
 show K ((putsR a l).put o.dst u) w'
 rw [hd]
 exact hK _ _ h3
end
end Go.Proofs.YtkhbihnnkflfkaaGreat
