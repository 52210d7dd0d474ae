/-
 AnyOrder · AnyOrder2, IN ONE TEXT.
-/
import Derived.Test.YtkhbihnnkflfkaaGreatBase
/-
 A REGION THAT DRAWS ITS ORDER AND WHOSE OPERATIONS MAKE MEMORY: each operation by itself, in whatever order they come; what each yields is told by a predicate that later growth of memory leaves true.
-/
namespace Go.Proofs.YtkhbihnnkflfkaaGreat
open Go.RowKit
set_option maxRecDepth 100000
set_option linter.unusedVariables false

variable {listed : Array Bool} {i : Nat} {a : Act} {d : Tmp} {v : Value} {o : Oper}
def dstOf (l : List Oper) (i : Nat) : Option Tmp := (l[i]?).bind (·.dst)

def dstsB (l : List Oper) (n m : Nat) : Bool :=
 (List.range n).all fun i => match dstOf l i with
  | some d => decide (d < m) && (List.range n).all fun j => i == j || dstOf l j != some d
  | none => false

def tailB (l : List Oper) (n : Nat) : Bool :=
 decide (n ≤ l.length) && (decide (n = l.length) || (Region.sinkB .any l.toArray n && Region.chainB .any l.toArray n)) &&
  Region.seqB .any l.toArray (l.length - n) n ((List.range l.length).map (fun i => decide (i < n))).toArray && (List.range n).all fun i => match l[i]? with | some o => o.after.all (fun e => decide (e.on < i)) | none => false

def StepAny (P : Program) (l : List Oper) (S : Nat → World → Value → Prop) (Q : Exit → Act → World → Prop) (n : Nat) (a : Act) (w : World) (i : Nat) (o : Oper) : Prop :=
 ∀ (a' : Act) (w' : World), Below w.heap.size w w' → (∀ t, (∀ j, j < n → dstOf l j ≠ some t) → a'.eval (.tmp t) = a.eval (.tmp t)) →
  (∀ e ∈ o.after, Region.binds .any e = true → ∀ d, dstOf l e.on = some d → S e.on w' (a'.eval (.tmp d))) →
  (∀ j, Region.wanted o (yielded l.toArray a'.tmps) = j → ∀ K : Act → World → Prop, (∀ v w'', S i w'' v → Below w'.heap.size w' w'' → K (a'.put o.dst v) w'') →
   if j = true then Oper.wp P o a' w' K Q else K (a'.put o.dst undef) w')

structure InvAny (l : List Oper) (S : Nat → World → Value → Prop) (n : Nat) (a0 : Act) (w0 : World) (listed : Array Bool) (a : Act) (w : World) : Prop where
 head : HeadInv .any l.toArray n listed
 tmps : a.tmps.size = a0.tmps.size
 defers : a.defers = a0.defers
 grow : Below w0.heap.size w0 w
 others : ∀ t, (∀ j, j < n → dstOf l j ≠ some t) → a.eval (.tmp t) = a0.eval (.tmp t)
 vals : ∀ i, i < n → listed.getD i false = true → ∀ d, dstOf l i = some d → S i w (a.eval (.tmp d))

theorem getD_set_true' (h : i < listed.size) : (listed.setIfInBounds i true).getD i true = true := by simp [h]
theorem eval_put_same (h : d < a.tmps.size) : (a.put (some d) v).eval (.tmp d) = v := by
 simp [Act.put, Act.eval, h]
theorem eval_put_other {t : Tmp} (h : d ≠ t) : (a.put (some d) v).eval (.tmp t) = a.eval (.tmp t) :=
 Act.eval_put (fun _ hd ht => h (by cases hd; cases ht; rfl))

section
variable {P : Program} {l : List Oper} {S : Nat → World → Value → Prop} {Q : Exit → Act → World → Prop} {n : Nat} {a0 : Act} {w0 : World}


theorem all_listed (hacyc : ∀ i, i < n → ∀ o, l[i]? = some o → ∀ e ∈ o.after, e.on < i) (hn : n ≤ l.length) (inv : HeadInv .any l.toArray n listed)
  (hr : ∀ i ∈ Region.ready .any l.toArray listed, n ≤ i) : ∀ i, i < n → listed.getD i false = true := by
 intro i
 induction i using Nat.strongRecOn with
 | _ i ih =>
  intro hi
  cases hl : listed.getD i false with
  | true => rfl
  | false =>
   exfalso
   have hil : i < l.length := by omega
   have hs : i < listed.size := by rw [inv.size]; simpa using hil
   have hmem : i ∈ Region.ready .any l.toArray listed := mem_ready.2 ⟨getD_in hs hl, l[i], by simp [hil], fun e he _ =>
    ih e.on (hacyc i hi l[i] (by simp [hil]) e he) (by have := hacyc i hi l[i] (by simp [hil]) e he; omega)⟩
   have := hr i hmem
   omega

theorem region_anyA (n : Nat) (S : Nat → World → Value → Prop) (hm : P.follows .mixedOrders = true) (hd : dstsB l n a0.tmps.size = true) (ht : tailB l n = true)
  (hS : ∀ i w w' v, S i w v → Below w.heap.size w w' → S i w' v)
  (hstep : ∀ i o, i < n → l[i]? = some o → StepAny P l S Q n a0 w0 i o)
  (hend : ∀ (a' : Act) (w' : World), Below w0.heap.size w0 w' → a'.tmps.size = a0.tmps.size → a'.defers = a0.defers → (∀ t, (∀ j, j < n → dstOf l j ≠ some t) → a'.eval (.tmp t) = a0.eval (.tmp t)) →
   (∀ i, i < n → ∀ d, dstOf l i = some d → S i w' (a'.eval (.tmp d))) → wpList P l.toArray Q (l.drop n) a' w') : wpAny P .any l.toArray Q l.toArray.size (Array.replicate l.toArray.size false) a0 w0.drew := by
 simp only [tailB, Bool.and_eq_true, decide_eq_true_eq, Bool.or_eq_true] at ht
 obtain ⟨⟨⟨hn, hsc⟩, hseq⟩, hac⟩ := ht
 have hacyc : ∀ i, i < n → ∀ o, l[i]? = some o → ∀ e ∈ o.after, e.on < i := by
  intro i hi o ho e he
  have h1 := List.all_eq_true.1 hac i (List.mem_range.2 hi)
  simp only [ho] at h1
  have := Array.all_eq_true'.1 h1 e he
  simpa using this
 have hdst : ∀ i, i < n → ∃ d, dstOf l i = some d ∧ d < a0.tmps.size ∧ ∀ j, j < n → i ≠ j → dstOf l j ≠ some d := by
  intro i hi
  have h1 := List.all_eq_true.1 hd i (List.mem_range.2 hi)
  cases hdi : dstOf l i with
  | none => rw [hdi] at h1; cases h1
  | some d =>
   rw [hdi] at h1
   simp only [Bool.and_eq_true, decide_eq_true_eq] at h1
   refine ⟨d, rfl, h1.1, fun j hj hij => ?_⟩
   have h2 := List.all_eq_true.1 h1.2 j (List.mem_range.2 hj)
   simp only [Bool.or_eq_true, beq_iff_eq, bne_iff_ne] at h2
   exact h2.resolve_left hij
 have wait : ∀ listed, HeadInv .any l.toArray n listed → ∀ i, i < n → listed.getD i true = false → ∀ t, n ≤ t → t ∉ Region.ready .any l.toArray listed := by
  intro listed inv i hi hun t htn
  rcases hsc with he | ⟨hs, hc⟩
  ·intro hr
   obtain ⟨_, o, ho, _⟩ := mem_ready.1 hr
   have := (Array.getElem?_eq_some_iff.1 ho).1
   simp at this
   omega
  ·by_cases hlt : n < l.length
   ·exact tail_waits hs hc (by simpa using hlt) inv _ i rfl hi hun t htn
   ·intro hr
    obtain ⟨_, o, ho, _⟩ := mem_ready.1 hr
    have := (Array.getElem?_eq_some_iff.1 ho).1
    simp at this
    omega
 have fin : ∀ (listed : Array Bool) (a : Act) (w : World), InvAny l S n a0 w0 listed a w → (∀ i, i < n → listed.getD i false = true) → wpAny P .any l.toArray Q (l.length - n) listed a w := by
  intro listed a w inv hall
  have hlist : listed = ((List.range l.length).map (fun i => decide (i < n))).toArray := by
   apply Array.ext
   ·rw [inv.head.size]; simp
   ·intro i h1 h2
    have hil : i < l.length := by simpa using h2
    simp only [List.getElem_toArray, List.getElem_map, List.getElem_range]
    by_cases hi : i < n
    ·have := hall i hi
     simp [h1] at this
     simp [this, hi]
    ·have := inv.head.tail i (by omega) (by simpa using hil)
     simp [h1] at this
     simp [this, hi]
  have H := hend a w inv.grow inv.tmps inv.defers inv.others (fun i hi d hd' => inv.vals i hi (hall i hi) d hd')
  have := wpAny_of_seq (md := .any) (Q' := Q) (l.drop n) n listed a w (fun j => by simp [List.getElem?_drop]) (by rw [hlist]; simpa using hseq) H
  simpa using this
 -- the number of unlisted ones below n is the measure
 have main : ∀ (f : Nat) (listed : Array Bool) (a : Act) (w : World), InvAny l S n a0 w0 listed a w → ((List.range n).filter (fun i => !listed.getD i true)).length = f → wpAny P .any l.toArray Q (f + (l.length - n)) listed a w := by
  intro f
  induction f with
  | zero =>
   intro listed a w inv hf
   rw [Nat.zero_add]
   refine fin listed a w inv (fun i hi => ?_)
   have h0 := List.eq_nil_of_length_eq_zero hf
   cases hl : listed.getD i false with
   | true => rfl
   | false =>
    exfalso
    have hs : i < listed.size := by rw [inv.head.size]; simp; omega
    have : i ∈ (List.range n).filter (fun i => !listed.getD i true) := List.mem_filter.2 ⟨List.mem_range.2 hi, by rw [getD_in hs hl]; rfl⟩
    rw [h0] at this
    cases this
  | succ f ih =>
   intro listed a w inv hf
   have hex : ∃ i, i < n ∧ listed.getD i true = false := by
    cases hc : (List.range n).filter (fun i => !listed.getD i true) with
    | nil => rw [hc] at hf; cases hf
    | cons x xs =>
     have hx : x ∈ (List.range n).filter (fun i => !listed.getD i true) := by rw [hc]; simp
     obtain ⟨h1, h2⟩ := List.mem_filter.1 hx
     exact ⟨x, List.mem_range.1 h1, by simpa using h2⟩
   obtain ⟨i0, hi0, hun0⟩ := hex
   have hlow : ∀ i ∈ Region.ready .any l.toArray listed, i < n := fun i hi => by
    rcases Nat.lt_or_ge i n with h | h
    ·exact h
    ·exact absurd hi (wait listed inv.head i0 hi0 hun0 i h)
   rw [show f + 1 + (l.length - n) = (f + (l.length - n)) + 1 by omega]
   refine ⟨fun hr => ?_, fun i hi => ?_⟩
   ·exfalso
    have := all_listed hacyc hn inv.head (fun i hi => by rw [hr] at hi; cases hi) i0 hi0
    have hs : i0 < listed.size := by rw [inv.head.size]; simp; omega
    simp [hs] at this hun0
    rw [this] at hun0
    cases hun0
   ·have hin := hlow i hi
    obtain ⟨hun, o, ho, hall⟩ := mem_ready.1 hi
    have hol : l[i]? = some o := by simpa using ho
    obtain ⟨d, hdi, hdl, hdne⟩ := hdst i hin
    have hod : o.dst = some d := by simpa [dstOf, hol] using hdi
    have key : ∀ v w'', S i w'' v → Below w.heap.size w w'' → wpAny P .any l.toArray Q (f + (l.length - n)) (listed.setIfInBounds i true) (a.put o.dst v) w'' := by
     intro v w'' hSv hb
     have hs : i < listed.size := by rw [inv.head.size]; simp; omega
     refine ih _ _ _ ⟨inv.head.set hi hin, by rw [hod]; simpa [Act.put] using inv.tmps, by rw [hod]; exact inv.defers, below_from inv.grow hb, fun t htn => ?_, fun j hj hlj d' hd' => ?_⟩ ?_
     ·rw [hod, eval_put_other (fun e => htn i hin (by rw [hdi, e]))]
      exact inv.others t htn
     ·by_cases hij : i = j
      ·subst hij
       rw [hdi] at hd'
       cases hd'
       rw [hod, eval_put_same (by rw [inv.tmps]; exact hdl)]
       exact hSv
      ·have hne : d ≠ d' := fun e => hdne j hj hij (by rw [hd', e])
       rw [hod, eval_put_other hne]
       rw [getD_set_ne false hij] at hlj
       exact hS j w w'' _ (inv.vals j hj hlj d' hd') hb
     ·have hcount : ((List.range n).filter (fun k => !listed.getD k true)).length = ((List.range n).filter (fun k => !(listed.setIfInBounds i true).getD k true)).length + 1 := by
       have hp : ∀ m : List Nat, m.Nodup → i ∈ m → (m.filter (fun k => !listed.getD k true)).length = (m.filter (fun k => !(listed.setIfInBounds i true).getD k true)).length + 1 := by
        intro m
        induction m with
        | nil => intro _ hm'; cases hm'
        | cons x xs ihx =>
         intro hnd hm'
         obtain ⟨hx, hxs⟩ := List.nodup_cons.1 hnd
         by_cases hxi : x = i
         ·subst hxi
          have hrest : xs.filter (fun k => !listed.getD k true) = xs.filter (fun k => !(listed.setIfInBounds x true).getD k true) := by
           refine List.filter_congr (fun k hk => ?_)
           have hne : x ≠ k := fun e => hx (e ▸ hk)
           rw [getD_set_ne true hne]
          rw [List.filter_cons_of_pos (by rw [hun]; rfl), List.filter_cons_of_neg (by rw [getD_set_true' hs]; simp), hrest]
          rfl
         ·have hm2 : i ∈ xs := (List.mem_cons.1 hm').resolve_left (fun e => hxi e.symm)
          have hih := ihx hxs hm2
          have hne : i ≠ x := fun e => hxi e.symm
          by_cases hv : listed.getD x true = true
          ·rw [List.filter_cons_of_neg (by rw [hv]; simp), List.filter_cons_of_neg (by rw [getD_set_ne true hne, hv]; simp)]
           exact hih
          ·have hv' : listed.getD x true = false := by simpa using hv
           rw [List.filter_cons_of_pos (by rw [hv']; rfl), List.filter_cons_of_pos (by rw [getD_set_ne true hne, hv']; rfl), List.length_cons, List.length_cons, hih]
       exact hp (List.range n) List.nodup_range (List.mem_range.2 hin)
      omega
    have H := hstep i o hin hol a w inv.grow inv.others (fun e he hb d' hd' => inv.vals e.on (by have := hacyc i hin o hol e he; omega) (hall e he hb) d' hd') _ rfl _ key
    unfold wpOp
    simp only [ho]
    split
    ·rename_i hw
     rw [if_pos hw] at H
     exact .inl H
    ·rename_i hw
     rw [if_neg hw] at H
     exact H
 have inv0 : InvAny l S n a0 w0 (Array.replicate l.toArray.size false) a0 w0.drew :=
  ⟨⟨by simp, fun j oj _ hl => (by rw [getD_replicate_false] at hl; cases hl), fun t _ ht' => getD_in (by simpa using ht') (getD_replicate_false _ _)⟩, rfl, rfl, (Below.refl _ _).drew, fun _ _ => rfl, fun i _ hl => (by rw [getD_replicate_false] at hl; cases hl)⟩
 have h := main n _ a0 w0.drew inv0 (by
  have hfull : (List.range n).filter (fun i => !(Array.replicate l.toArray.size false).getD i true) = List.range n := List.filter_eq_self.2 (fun i hi => by
   have : i < l.length := by have := List.mem_range.1 hi; omega
   simp [this])
  rw [hfull]; simp)
 have hsize : n + (l.length - n) = l.toArray.size := by simp; omega
 rw [hsize] at h
 exact h

def Outcome (P : Program) (S : Nat → World → Value → Prop) (a' : Act) (w' : World) (i : Nat) (o : Oper) : Prop :=
 (∃ v w'', (execOp a'.eval o).run P w' = .ok (.value v) w'' ∧ S i w'' v ∧ Below w'.heap.size w' w'') ∨
 (∃ f vs, (execOp a'.eval o).run P w' = .ok (.enter f vs) w' ∧ Calls P f vs w' fun e w'' => ∃ v, e = .returned v ∧ S i w'' v ∧ Below w'.heap.size w' w'')

theorem Outcome.wp {a' : Act} {w' : World} (h : Outcome P S a' w' i o) {K : Act → World → Prop} (hK : ∀ v w'', S i w'' v → Below w'.heap.size w' w'' → K (a'.put o.dst v) w'') : Oper.wp P o a' w' K Q := by
 unfold Oper.wp
 rcases h with ⟨v, w'', hr, hS, hb⟩ | ⟨f, vs, hr, hc⟩
 ·rw [hr]; exact hK v w'' hS hb
 ·rw [hr]
  refine Calls.mono hc ?_
  rintro e w'' ⟨v, rfl, hS, hb⟩
  exact hK v w'' hS hb

theorem step_plain (hg : o.guard = none)
  (h : ∀ (a' : Act) (w' : World), Below w0.heap.size w0 w' → (∀ t, (∀ j, j < n → dstOf l j ≠ some t) → a'.eval (.tmp t) = a0.eval (.tmp t)) →
   (∀ e ∈ o.after, Region.binds .any e = true → ∀ d, dstOf l e.on = some d → S e.on w' (a'.eval (.tmp d))) → Outcome P S a' w' i o) : StepAny P l S Q n a0 w0 i o := by
 intro a' w' hb hO hD j hj K hK
 have hw : j = true := by rw [← hj]; simp [Region.wanted, hg]
 rw [if_pos hw]
 exact (h a' w' hb hO hD).wp hK

theorem exec_call {f : FuncId} {fn : Func} (hf : P.funcs[f]? = some fn) (hname : (fn.name == "runtime.NumGoroutine") = false) (hb : fn.body.isSome = true) (o : Oper) {args : Array Operand} {tys : Array TypeId}
  (ho : o.op = .call { callee := .value (.func f), args := args, argTypes := tys }) (a : Act) (w : World) {vs : Array Value} (hvs : args.map a.eval = vs) : (execOp a.eval o).run P w = .ok (.enter f vs) w := by
 subst hvs
 have h1 : fn.name ≠ "runtime.NumGoroutine" := by simpa using hname
 obtain ⟨c, hb⟩ := Option.isSome_iff_exists.1 hb
 have hff : a.eval (.func f) = .func (.func f) #[] #[] := rfl
 simp [execOp, ho, resolve, hff, invoke, Deferred.ofValue, callFunc, hf, h1, hb, Sem.run_bind, Sem.run_pure]

end
end Go.Proofs.YtkhbihnnkflfkaaGreat
/-
 Further steps of a region that draws its order: guards that are false, operations that are left out.
-/
namespace Go.Proofs.YtkhbihnnkflfkaaGreat
open Go.RowKit
set_option maxRecDepth 100000
set_option linter.unusedVariables false
set_option linter.unusedSimpArgs false

variable {g i : Nat} {o : Oper}
section
variable {P : Program} {l : List Oper} {S : Nat → World → Value → Prop} {Q : Exit → Act → World → Prop} {n : Nat} {a0 : Act} {w0 : World}

theorem guard_val (b c : Bool) (d : Tmp) (hg : o.guard = some (g, b)) (hd : dstOf l g = some d) (he : o.after.any (fun e => Region.binds .any e && e.on == g) = true) (hS : ∀ w v, S g w v → v = .bool c)
  {a' : Act} {w' : World} (hD : ∀ e ∈ o.after, Region.binds .any e = true → ∀ d, dstOf l e.on = some d → S e.on w' (a'.eval (.tmp d))) : Region.wanted o (yielded l.toArray a'.tmps) = (c == b) := by
 obtain ⟨e, hem, heb⟩ := Array.any_eq_true'.1 he
 simp only [Bool.and_eq_true, beq_iff_eq] at heb
 have hv : a'.eval (.tmp d) = .bool c := hS _ _ (by have := hD e hem heb.1 d (by rw [heb.2]; exact hd); rw [heb.2] at this; exact this)
 have hy : yielded l.toArray a'.tmps g = some c := by
  have hv' : a'.tmps[d]? = some (.bool c) := by
   simp only [Act.eval] at hv
   cases hx : a'.tmps[d]? with
   | none => simp [hx, undef] at hv
   | some u => simp [hx] at hv; rw [hv]
  unfold yielded
  have : ((l.toArray[g]?).bind (·.dst)) = some d := by simpa [dstOf] using hd
  rw [this]
  simp [hv']
 simp [Region.wanted, hg, hy]

end

end Go.Proofs.YtkhbihnnkflfkaaGreat
