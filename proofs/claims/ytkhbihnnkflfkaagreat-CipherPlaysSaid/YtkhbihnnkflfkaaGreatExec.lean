/-
 RULES FOR WALKS THAT A PROGRAM PRINTS: frames by name (what each live slot holds), one rule for each form of code and for each operation.
-/
import Derived.Test.YtkhbihnnkflfkaaGreatBytes1
import Derived.Test.YtkhbihnnkflfkaaGreatAnyM
import Derived.Test.YtkhbihnnkflfkaaGreatRegM
import Derived.Test.YtkhbihnnkflfkaaGreatW
import Derived.Deep.LoopGhost
namespace Go.Proofs.YtkhbihnnkflfkaaGreat
open Go.RowKit
set_option maxRecDepth 100000
set_option linter.unusedVariables false
set_option linter.unusedSimpArgs false

variable {d e t : Tmp} {f : FuncId} {fn : Func} {c : Code} {args vs : Array Value} {l r : List (Tmp × Value)} {N g i id n : Nat} {dl : List Deferred} {x y z : Operand} {u v : Value} {w' : World} {b : Bool} {xs : List Nat} {S : List (World → Value → Prop)} {ds : List Tmp} {o : Oper} {ev : Operand → Value}
theorem nbeq {d k : Nat} (e : ¬ d = k) : Nat.beq d k = false := by
 cases h : Nat.beq d k with
 | false => rfl
 | true => exact absurd (Nat.eq_of_beq_eq_true h) e

def findR : List (Tmp × Value) → Tmp → Option Value
 | [], _ => none
 | (d, v) :: l, k => bif Nat.beq d k then some v else findR l k
def putsR (a : Act) : List (Tmp × Value) → Act
 | [] => a
 | (d, v) :: l => (putsR a l).put (some d) v
theorem putsR_size (a : Act) : ∀ l, (putsR a l).tmps.size = a.tmps.size
 | [] => rfl
 | (d, v) :: l => by
  have := putsR_size a l
  simpa [putsR, Act.put] using this
theorem putsR_defers (a : Act) : ∀ l, (putsR a l).defers = a.defers
 | [] => rfl
 | (d, v) :: l => putsR_defers a l
theorem pe {a : Act} {N : Nat} (hs : a.tmps.size = N) : ∀ {l : List (Tmp × Value)} {k : Tmp} {v : Value}, findR l k = some v → Nat.blt k N = true → (putsR a l).eval (.tmp k) = v
 | [], k, v, h, _ => by cases h
 | (d, u) :: l, k, v, h, hk => by
  by_cases e : d = k
  ·subst e
   have : u = v := by simpa [findR] using h
   subst this
   exact eval_put_same (by rw [putsR_size, hs]; simpa using hk)
  ·have hb : Nat.beq d k = false := nbeq e
   rw [putsR, eval_put_other e]
   exact pe hs (by simpa [findR, hb] using h) hk
theorem pm {a : Act} : ∀ {l : List (Tmp × Value)} {k : Tmp}, findR l k = none → (putsR a l).eval (.tmp k) = a.eval (.tmp k)
 | [], k, _ => rfl
 | (d, u) :: l, k, h => by
  by_cases e : d = k
  ·subst e; simp [findR] at h
  ·have hb : Nat.beq d k = false := nbeq e
   rw [putsR, eval_put_other e]
   exact pm (by simpa [findR, hb] using h)

section
variable {b : Bool} {P : Program} {Q : Exit → Act → World → Prop} {a : Act} {w : World}

theorem x_enter {R : Ending → World → Prop} (N : Nat) (hf : P.funcs[f]? = some fn) (hb : fn.body = some c) (hN : args.size + (fn.ntmps - args.size) = N)
  (h : ∀ a : Act, a.tmps.size = N → a.defers = [] → (∀ i v, args[i]? = some v → a.eval (.tmp i) = v) → WP2 true P c (bodyPost P fn R) (putsR a []) w) : Calls P f args w R := by
 refine calls_of_wp hf hb (And.left (h _ (by simpa using hN) rfl (fun i v hi => ?_)))
 have hlt := (Array.getElem?_eq_some_iff.1 hi).1
 simp [Act.eval, Array.getElem?_append_left hlt, hi]
theorem x_enterI {R : Ending → World → Prop} (N : Nat) (hf : P.funcs[f]? = some fn) (hb : fn.body = some c) (hN : args.size + (fn.ntmps - args.size) = N)
  (h : ∀ a : Act, a.tmps.size = N → a.defers = [] → (∀ i v, args[i]? = some v → a.eval (.tmp i) = v) → WP2 false P c (bodyPost P fn R) (putsR a []) w) : Calls P f args w R := by
 refine calls_of_wp hf hb (And.left (h _ (by simpa using hN) rfl (fun i v hi => ?_)))
 have hlt := (Array.getElem?_eq_some_iff.1 hi).1
 simp [Act.eval, Array.getElem?_append_left hlt, hi]
theorem x_loop (I : Nat → Act → World → Prop) (n0 : Nat) (h0 : I n0 a w)
  (round : ∀ n a w, I n a w → ∀ K : Act → World → Prop, (∀ a' w' n', I n' a' w' → n' < n → K a' w') → WP2 b P c (Exit.then K Q) (putsR a []) w) : WP2 b P (.loop c) Q a w := w2_loop I n0 h0 round
theorem x_region {l : List Oper} (hnd : noDef l.toArray = true) (h : wpList P l.toArray Q l (putsR a r) w) : WP2 b P (.region id l.toArray false) Q (putsR a r) w := w2_region hnd h
theorem x_nil {ops : Array Oper} (h : Q .normal a w) : wpList P ops Q [] a w := h

theorem ret0 {R : Ending → World → Prop} (hf : fn.results = #[]) (hd : a.defers = []) (hR : R (.returned (.tuple #[])) w) : bodyPost P fn R .ret (putsR a l) w :=
 ⟨by rw [putsR_defers, hd], _, results_none hf _ _ _, hR⟩
theorem end0 {R : Ending → World → Prop} (hf : fn.results = #[]) (hd : a.defers = []) (hR : R (.returned (.tuple #[])) w) : bodyPost P fn R .normal (putsR a l) w :=
 ⟨by rw [putsR_defers, hd], _, results_none hf _ _ _, hR⟩
theorem ret1 {R : Ending → World → Prop} (hf : fn.results = #[.tmp t]) (hd : a.defers = []) (hv : (putsR a l).eval (.tmp t) = v) (hR : R (.returned v) w) : bodyPost P fn R .ret (putsR a l) w := by
 subst hv
 exact ⟨by rw [putsR_defers, hd], _, results_tmp hf _ _ _, hR⟩
theorem ret2 {R : Ending → World → Prop} {u : Tmp} {x : Value} (hf : fn.results = #[.tmp t, .tmp u]) (hd : a.defers = []) (hv : (putsR a l).eval (.tmp t) = v) (hx : (putsR a l).eval (.tmp u) = x) (hR : R (.returned (.tuple #[v, x])) w) : bodyPost P fn R .ret (putsR a l) w := by
 subst hv; subst hx
 exact ⟨by rw [putsR_defers, hd], _, results_tmp2 hf _ _ _, hR⟩
variable {ops : Array Oper} {o : Oper} {rest : List Oper} {l : List (Tmp × Value)}
theorem op_val (hd : o.dst = some d) (hg : o.guard = none) (hr : (execOp (putsR a l).eval o).run P w = .ok (.value v) w') (h : wpList P ops Q rest (putsR a ((d, v) :: l)) w') : wpList P ops Q (o :: rest) (putsR a l) w := by
 refine wpList_plain hg (fun K hK => ?_)
 unfold Oper.wp
 rw [hr]
 show K ((putsR a l).put o.dst v) w'
 rw [hd]
 exact hK _ _ h
theorem q_v (d : Tmp) (v : Value) (hr : (execOp (putsR a l).eval o).run P w = .ok (.value v) w') (h : wpList P ops Q rest (putsR a ((d, v) :: l)) w') (hd : o.dst = some d := by rfl) (hg : o.guard = none := by rfl) : wpList P ops Q (o :: rest) (putsR a l) w := op_val hd hg hr h
theorem op_ex {R : Value → World → Prop} (hd : o.dst = some d) (hg : o.guard = none) (hr : ∃ v w', (execOp (putsR a l).eval o).run P w = .ok (.value v) w' ∧ R v w') (h : ∀ v w', R v w' → wpList P ops Q rest (putsR a ((d, v) :: l)) w') : wpList P ops Q (o :: rest) (putsR a l) w := by
 obtain ⟨v, w', hr, hR⟩ := hr
 exact op_val hd hg hr (h v w' hR)
theorem op_skip (hd : o.dst = none) (hg : o.guard = none) (hr : (execOp (putsR a l).eval o).run P w = .ok .skip w') (h : wpList P ops Q rest (putsR a l) w') : wpList P ops Q (o :: rest) (putsR a l) w := by
 refine wpList_plain hg (fun K hK => ?_)
 unfold Oper.wp
 rw [hr]
 show K ((putsR a l).put o.dst undef) w'
 rw [hd]
 exact hK _ _ h
theorem op_call {R : Ending → World → Prop} (hd : o.dst = some d) (hg : o.guard = none) (hr : (execOp (putsR a l).eval o).run P w = .ok (.enter f vs) w) (hc : Calls P f vs w R)
  (h : ∀ e w', R e w' → ∃ v, e = .returned v ∧ wpList P ops Q rest (putsR a ((d, v) :: l)) w') : wpList P ops Q (o :: rest) (putsR a l) w := by
 refine wpList_plain hg (fun K hK => ?_)
 unfold Oper.wp
 rw [hr]
 show Calls P f vs w _
 refine hc.mono (fun e w' hR => ?_)
 obtain ⟨v, rfl, h2⟩ := h e w' hR
 show K ((putsR a l).put o.dst v) w'
 rw [hd]
 exact hK _ _ h2
theorem wanted_of {c : Bool} (hg : o.guard = some (g, b)) (hd : ((ops[g]?).bind (·.dst)) = some d) (hv : a.eval (.tmp d) = .bool c) : Region.wanted o (yielded ops a.tmps) = (c == b) := by
 have hv' : a.tmps[d]? = some (.bool c) := by
  simp only [Act.eval] at hv
  cases hx : a.tmps[d]? with
  | none => simp [hx, undef] at hv
  | some u => simp [hx] at hv; rw [hv]
 have hy : yielded ops a.tmps g = some c := by
  unfold yielded
  rw [hd]
  simp [hv']
 simp [Region.wanted, hg, hy]
theorem op_valG (hd : o.dst = some d) (hg : o.guard = some (g, b)) (he : ((ops[g]?).bind (·.dst)) = some e) (hb : (putsR a l).eval (.tmp e) = .bool b) (hr : (execOp (putsR a l).eval o).run P w = .ok (.value v) w') (h : wpList P ops Q rest (putsR a ((d, v) :: l)) w') : wpList P ops Q (o :: rest) (putsR a l) w := by
 refine wpList_step (fun K hK => ?_)
 rw [if_pos (by rw [wanted_of hg he hb]; simp)]
 unfold Oper.wp
 rw [hr]
 show K ((putsR a l).put o.dst v) w'
 rw [hd]
 exact hK _ _ h
theorem op_left {c : Bool} (hd : o.dst = some d) (hg : o.guard = some (g, b)) (he : ((ops[g]?).bind (·.dst)) = some e) (hb : (putsR a l).eval (.tmp e) = .bool c) (hne : (c == b) = false) (h : wpList P ops Q rest (putsR a ((d, undef) :: l)) w) : wpList P ops Q (o :: rest) (putsR a l) w := by
 refine wpList_step (fun K hK => ?_)
 rw [if_neg (by rw [wanted_of hg he hb, hne]; simp), hd]
 exact hK _ _ h
end

def nthS : List (World → Value → Prop) → Nat → World → Value → Prop
 | [], _ => fun _ _ => True
 | p :: _, 0 => p
 | _ :: l, n + 1 => nthS l n
def StP (p : World → Value → Prop) : Prop := ∀ w w' v, p w v → Below w.heap.size w w' → p w' v
def AllSt : List (World → Value → Prop) → Prop
 | [] => True
 | p :: l => StP p ∧ AllSt l
theorem stLit {f : Value → Prop} : StP (fun _ v => f v) := fun _ _ _ h _ => h
def OwnN (B n : Nat) (xs : List Nat) (w : World) (v : Value) : Prop := ∃ A c, v = .slice A n c ∧ Own w B A c xs
theorem stOwn {B : Nat} : StP (fun w v => OwnN B n xs w v) := fun _ _ _ ⟨A, c, hv, h⟩ hb => ⟨A, c, hv, h.below hb⟩
theorem stBs : StP (fun w v => BsV xs w v) := fun _ _ _ h hb => h.old hb
theorem AllSt.nth : ∀ {l : List (World → Value → Prop)}, AllSt l → ∀ i w w' v, nthS l i w v → Below w.heap.size w w' → nthS l i w' v
 | [], _, _, _, _, _, _, _ => trivial
 | p :: l, h, 0, w, w', v, hp, hb => h.1 w w' v hp hb
 | p :: l, h, i + 1, w, w', v, hp, hb => AllSt.nth (l := l) h.2 i w w' v hp hb
section
variable {b : Bool} {P : Program} {Q : Exit → Act → World → Prop} {a : Act} {w : World}
def FreeD (ds : List Tmp) (a' a0 : Act) : Prop := ∀ t, ds.contains t = false → a'.eval (.tmp t) = a0.eval (.tmp t)
def DepS (l : List Oper) (S : List (World → Value → Prop)) (o : Oper) (a' : Act) (w' : World) : Prop :=
 ∀ j d, (o.after.any fun e => Region.binds .any e && e.on == j) = true → dstOf l j = some d → nthS S j w' (a'.eval (.tmp d))
def StepX (P : Program) (l : List Oper) (S : List (World → Value → Prop)) (ds : List Tmp) (a0 : Act) (w0 : World) (i : Nat) (o : Oper) : Prop :=
 (o.guard = none ∧ ∀ (a' : Act) (w' : World), Below w0.heap.size w0 w' → FreeD ds a' a0 → DepS l S o a' w' → Outcome P (nthS S) a' w' i o) ∨
 (∃ g b e c, o.guard = some (g, b) ∧ dstOf l g = some e ∧ (o.after.any fun x => Region.binds .any x && x.on == g) = true ∧ (∀ w v, nthS S g w v → v = .bool c) ∧
  if c = b then ∀ (a' : Act) (w' : World), Below w0.heap.size w0 w' → FreeD ds a' a0 → DepS l S o a' w' → Outcome P (nthS S) a' w' i o else ∀ w, nthS S i w undef)
def StepsX (P : Program) (l : List Oper) (S : List (World → Value → Prop)) (ds : List Tmp) (a0 : Act) (w0 : World) : Nat → List Oper → Prop
 | _, [] => True
 | i, o :: r => StepX P l S ds a0 w0 i o ∧ StepsX P l S ds a0 w0 (i + 1) r
theorem stepsX_get {l : List Oper} {S : List (World → Value → Prop)} {ds : List Tmp} : ∀ (r : List Oper) (k : Nat), StepsX P l S ds a w k r → ∀ i o, r[i]? = some o → StepX P l S ds a w (k + i) o
 | [], _, _, i, o, h => by simp at h
 | x :: r, k, h, 0, o, ho => by
  simp at ho; subst ho; exact h.1
 | x :: r, k, h, i + 1, o, ho => by
  have := stepsX_get r (k + 1) h.2 i o (by simpa using ho)
  rwa [Nat.add_assoc, Nat.add_comm 1 i] at this
theorem step_ok {l : List Oper} (hg : o.guard = none) (h : ∀ (a' : Act) (w' : World), Below w.heap.size w w' → FreeD ds a' a → DepS l S o a' w' → Outcome P (nthS S) a' w' i o) : StepX P l S ds a w i o := .inl ⟨hg, h⟩
theorem step_yes {l : List Oper} (g : Nat) (b : Bool) (e : Tmp) (hg : o.guard = some (g, b)) (hd : dstOf l g = some e) (he : (o.after.any fun x => Region.binds .any x && x.on == g) = true) (hS : ∀ w v, nthS S g w v → v = .bool b)
  (h : ∀ (a' : Act) (w' : World), Below w.heap.size w w' → FreeD ds a' a → DepS l S o a' w' → Outcome P (nthS S) a' w' i o) : StepX P l S ds a w i o := .inr ⟨g, b, e, b, hg, hd, he, hS, by rw [if_pos rfl]; exact h⟩
theorem contains_of {l : List Oper} (hds : dstsOf (l.take n) = ds) (h : ds.contains t = false) : ∀ j, j < n → dstOf l j ≠ some t := by
 intro j hj e
 have hm : t ∈ ds := by
  rw [← hds]
  unfold dstOf at e
  cases ho : l[j]? with
  | none => rw [ho] at e; cases e
  | some o =>
   rw [ho] at e
   exact List.mem_filterMap.2 ⟨o, List.mem_of_getElem? (i := j) (by rw [List.getElem?_take, if_pos hj]; exact ho), e⟩
 rw [List.contains_iff_mem.2 hm] at h
 cases h
theorem x_drawn {l : List Oper} (n : Nat) (S : List (World → Value → Prop)) (ds : List Tmp) (hs : a.tmps.size = N) (hdf : a.defers = dl) (hm : P.follows .mixedOrders = true) (hnd : noDef l.toArray = true) (hd : dstsB l n N = true) (ht : tailB l n = true) (hds : dstsOf (l.take n) = ds)
  (hS : AllSt S) (hstep : StepsX P l S ds (putsR a r) w 0 (l.take n))
  (hend : ∀ (a' : Act) (w' : World), a'.tmps.size = N → a'.defers = dl → Below w.heap.size w w' → FreeD ds a' (putsR a r) → (∀ i d, Nat.blt i n = true → dstOf l i = some d → nthS S i w' (a'.eval (.tmp d))) → wpList P l.toArray Q (l.drop n) (putsR a' []) w') :
  WP2 b P (.region id l.toArray true) Q (putsR a r) w := by
 refine w2_any hm hnd (region_anyA n (nthS S) hm (by rw [putsR_size, hs]; exact hd) ht (fun i w w' v h hb => hS.nth i w w' v h hb) (fun i o hi ho => ?_) (fun a' w' hb hsz hdf' hO hV => ?_))
 ·have h := stepsX_get _ _ hstep i o (by rw [List.getElem?_take, if_pos hi]; exact ho)
  rw [Nat.zero_add] at h
  have hD : ∀ (a' : Act) (w' : World), (∀ e ∈ o.after, Region.binds .any e = true → ∀ d, dstOf l e.on = some d → nthS S e.on w' (a'.eval (.tmp d))) → DepS l S o a' w' := by
   intro a' w' hD j d hj hd'
   obtain ⟨e, he, hb⟩ := Array.any_eq_true'.1 hj
   simp only [Bool.and_eq_true, beq_iff_eq] at hb
   have := hD e he hb.1 d (by rw [hb.2]; exact hd')
   rw [hb.2] at this
   exact this
  rcases h with ⟨hg, h⟩ | ⟨g, b, e, c, hg, hde, he, hSg, h⟩
  ·exact step_plain hg (fun a' w' hb hO hD' => h a' w' hb (fun t htn => hO t (contains_of hds htn)) (hD a' w' hD'))
  ·intro a' w' hb hO hD' j hj K hK
   have hw := guard_val b c e hg hde he hSg hD'
   rw [hj] at hw
   by_cases hcb : c = b
   ·rw [if_pos hcb] at h
    rw [if_pos (by rw [hw, hcb]; simp)]
    exact (h a' w' hb (fun t htn => hO t (contains_of hds htn)) (hD a' w' hD')).wp hK
   ·rw [if_neg hcb] at h
    rw [if_neg (by rw [hw]; simpa using hcb)]
    exact hK undef w' (h w') (Below.refl _ _)
 ·exact hend a' w' (by rw [hsz, putsR_size, hs]) (by rw [hdf', putsR_defers, hdf]) hb (fun t htn => hO t (contains_of hds htn)) (fun i d hi hd' => hV i (by simpa using hi) d hd')
end
theorem out_new {P : Program} {S : Nat → World → Value → Prop} {a' : Act} {w : World} {R : Value → World → Prop} (h : ∃ v w', (execOp a'.eval o).run P w = .ok (.value v) w' ∧ R v w') (k : ∀ v w', R v w' → S i w' v ∧ Below w.heap.size w w') : Outcome P S a' w i o := by
 obtain ⟨v, w', hr, hR⟩ := h
 exact .inl ⟨v, w', hr, (k v w' hR).1, (k v w' hR).2⟩
theorem args0 : (#[] : Array Operand).map ev = #[] := by simp
theorem args1 (h : ev x = u) : #[x].map ev = #[u] := by simp [h]
theorem args2 (h : ev x = u) (h2 : ev y = v) : #[x, y].map ev = #[u, v] := by simp [h, h2]
theorem args3 {t : Value} (h : ev x = u) (h2 : ev y = v) (h3 : ev z = t) : #[x, y, z].map ev = #[u, v, t] := by simp [h, h2, h3]
theorem args4 {p : Operand} {t s : Value} (h : ev x = u) (h2 : ev y = v) (h3 : ev z = t) (h4 : ev p = s) : #[x, y, z, p].map ev = #[u, v, t, s] := by simp [h, h2, h3, h4]
section
variable {P : Program} {Q : Exit → Act → World → Prop} {a : Act} {w : World} {ops : Array Oper} {rest : List Oper} {l : List (Tmp × Value)} {d : Tmp} {ty : TypeId} {ps : String} {af : Array Edge}
theorem q_ca {args : Array Operand} {tys : Array TypeId} {R : Ending → World → Prop} (hf : P.funcs[f]? = some fn) (ha : args.map (putsR a l).eval = vs) (hc : Calls P f vs w R)
  (h : ∀ e w', R e w' → ∃ v, e = .returned v ∧ wpList P ops Q rest (putsR a ((d, v) :: l)) w') (h1 : (fn.name == "runtime.NumGoroutine") = false := by kernel_rfl) (h2 : fn.body.isSome = true := by kernel_rfl) :
  wpList P ops Q (⟨some d, .call { callee := .value (.func f), args := args, argTypes := tys }, ty, ps, af, none⟩ :: rest) (putsR a l) w := op_call rfl rfl (exec_call hf h1 h2 _ rfl _ _ ha) hc h
end
end Go.Proofs.YtkhbihnnkflfkaaGreat
