/-
 A REGION THAT DRAWS ITS ORDER, with new variables and a store into each of them among the first operations.
-/
import Derived.Test.YtkhbihnnkflfkaaGreatMem9
namespace Go.Proofs.YtkhbihnnkflfkaaGreat
open Go.RowKit
set_option linter.unusedVariables false
set_option linter.unusedSimpArgs false
set_option maxRecDepth 100000

variable {l : List Oper} {m : Nat} {ev : Operand → Value}
structure NewV where
 i : Nat
 s : Nat
 z : Array Value
 c : Array Value
 T : TypeId

section
variable {b : Bool} {P : Program} {Q : Exit → Act → World → Prop} {a : Act} {w : World}
structure InvNew (l : List Oper) (S : List (World → Value → Prop)) (fr : List NewV) (n : Nat) (a0 : Act) (w0 : World) (L : Nat → Bool) (a : Act) (w : World) : Prop where
 tmps : a.tmps.size = a0.tmps.size
 defers : a.defers = a0.defers
 grow : Below w0.heap.size w0 w
 others : ∀ t, (∀ j, j < n → dstOf l j ≠ some t) → a.eval (.tmp t) = a0.eval (.tmp t)
 vals : ∀ i, i < n → L i = true → ∀ d, dstOf l i = some d → nthS S i w (a.eval (.tmp d))
 news : ∃ g : Nat → Nat, (∀ e ∈ fr, L e.i = true → ∀ d, dstOf l e.i = some d → a.eval (.tmp d) = .pointer (some ⟨g e.i, 0, none⟩) ∧ w0.heap.size ≤ g e.i ∧ Blk w (g e.i) (if L e.s = true then e.c else e.z) e.T) ∧ ∀ e ∈ fr, ∀ e' ∈ fr, e.i ≠ e'.i → L e.i = true → L e'.i = true → g e.i ≠ g e'.i
def StepN (P : Program) (l : List Oper) (S : List (World → Value → Prop)) (fr : List NewV) (ds : List Tmp) (a0 : Act) (w0 : World) (i : Nat) (o : Oper) : Prop :=
 o.guard = none ∧ ((∀ (a' : Act) (w' : World), Below w0.heap.size w0 w' → FreeD ds a' a0 → DepS l S o a' w' → Outcome P (nthS S) a' w' i o) ∧ (∀ e ∈ fr, e.i ≠ i ∧ e.s ≠ i) ∧ (dstOf l i).isSome = true ∨
  (∃ e ∈ fr, e.i = i ∧ (dstOf l i).isSome = true ∧ (∀ w v, nthS S i w v) ∧ (∀ e' ∈ fr, e'.s ≠ i ∧ (e'.i = i → e' = e)) ∧ ∀ (a' : Act) (w' : World), Below w0.heap.size w0 w' → ∃ v w'', (execOp a'.eval o).run P w' = .ok (.value v) w'' ∧ ∃ g, v = .pointer (some ⟨g, 0, none⟩) ∧ w'.heap.size ≤ g ∧ Blk w'' g e.z e.T ∧ Below w'.heap.size w' w'') ∨
  (∃ e ∈ fr, e.s = i ∧ dstOf l i = none ∧ o.dst = none ∧ (o.after.any fun x => Region.binds .any x && x.on == e.i) = true ∧ (∃ d, dstOf l e.i = some d) ∧ (∀ e' ∈ fr, e'.i ≠ i ∧ (e'.s = i → e' = e)) ∧ ∀ (a' : Act) (w' : World) (g : Nat), Below w0.heap.size w0 w' → FreeD ds a' a0 → DepS l S o a' w' → (∀ d, dstOf l e.i = some d → a'.eval (.tmp d) = .pointer (some ⟨g, 0, none⟩)) → Blk w' g e.z e.T → ∃ w'', (execOp a'.eval o).run P w' = .ok .skip w'' ∧ Blk w'' g e.c e.T ∧ BelowX (fun k => k = g) w' w''))
def StepsN (P : Program) (l : List Oper) (S : List (World → Value → Prop)) (fr : List NewV) (ds : List Tmp) (a0 : Act) (w0 : World) : Nat → List Oper → Prop
 | _, [] => True
 | i, o :: r => StepN P l S fr ds a0 w0 i o ∧ StepsN P l S fr ds a0 w0 (i + 1) r
theorem stepsN_get {l : List Oper} {S : List (World → Value → Prop)} {fr : List NewV} {ds : List Tmp} : ∀ (r : List Oper) (k : Nat), StepsN P l S fr ds a w k r → ∀ i o, r[i]? = some o → StepN P l S fr ds a w (k + i) o
 | [], _, _, i, o, h => by simp at h
 | x :: r, k, h, 0, o, ho => by
  simp at ho; subst ho; exact h.1
 | x :: r, k, h, i + 1, o, ho => by
  have := stepsN_get r (k + 1) h.2 i o (by simpa using ho)
  rwa [Nat.add_assoc, Nat.add_comm 1 i] at this
def dstsN (l : List Oper) (n m : Nat) : Bool :=
 (List.range n).all fun i => match dstOf l i with
  | none => true
  | some d => decide (d < m) && (List.range n).all fun j => i == j || dstOf l j != some d
theorem dstsN_val {n i d : Nat} (hd : dstsN l n m = true) (hi : i < n) (h : dstOf l i = some d) : d < m ∧ ∀ j, j < n → i ≠ j → dstOf l j ≠ some d := by
 have h1 := List.all_eq_true.1 hd i (List.mem_range.2 hi)
 rw [h] at h1
 simp only [Bool.and_eq_true, decide_eq_true_eq] at h1
 refine ⟨h1.1, fun j hj hij => ?_⟩
 have h3 := List.all_eq_true.1 h1.2 j (List.mem_range.2 hj)
 simp only [Bool.or_eq_true, beq_iff_eq, bne_iff_ne] at h3
 exact h3.resolve_left hij
theorem x_drawnA {id : Nat} {r : List (Tmp × Value)} {N : Nat} {dl : List Deferred} (n : Nat) (S : List (World → Value → Prop)) (fr : List NewV) (ds : List Tmp) (hs : a.tmps.size = N) (hdf : a.defers = dl) (hm : P.follows .mixedOrders = true) (hnd : noDef l.toArray = true) (hd : dstsN l n N = true) (ht : tailB2 l n = true) (hds : dstsOf (l.take n) = ds)
  (hfr : ∀ e ∈ fr, e.i < n ∧ (e.s < n ∨ e.c = e.z)) (hS : ∀ i w w' v, nthS S i w v → nthS S i w' v) (hstep : StepsN P l S fr ds (putsR a r) w 0 (l.take n))
  (hend : ∀ (a' : Act) (w' : World) (g : Nat → Nat), a'.tmps.size = N → a'.defers = dl → Below w.heap.size w w' → FreeD ds a' (putsR a r) → (∀ i d, Nat.blt i n = true → dstOf l i = some d → nthS S i w' (a'.eval (.tmp d))) →
   (∀ (k : Nat) (e : NewV), fr[k]? = some e → ∀ d, dstOf l e.i = some d → a'.eval (.tmp d) = .pointer (some ⟨g e.i, 0, none⟩) ∧ w.heap.size ≤ g e.i ∧ Blk w' (g e.i) e.c e.T) → (∀ (k k' : Nat) (e e' : NewV), fr[k]? = some e → fr[k']? = some e' → e.i ≠ e'.i → g e.i ≠ g e'.i) → wpList P l.toArray Q (l.drop n) (putsR a' []) w') :
  WP2 b P (.region id l.toArray true) Q (putsR a r) w := by
 refine w2_any hm hnd (region_headA n (InvNew l S fr n (putsR a r) w) hm ht ⟨rfl, rfl, (Below.refl _ _).drew, fun _ _ => rfl, fun _ _ hL => (by cases hL), fun _ => 0, fun _ _ hL => (by cases hL), fun _ _ _ _ _ hL => (by cases hL)⟩ ?_ ?_)
 ·intro i o hi ho L a' w' inv hun hcl hdep hlow j hj K hK
  obtain ⟨hg, hst⟩ := stepsN_get _ _ hstep i o (by rw [List.getElem?_take, if_pos hi]; exact ho)
  rw [Nat.zero_add] at hst
  have hw : j = true := by rw [← hj]; simp [Region.wanted, hg]
  rw [if_pos hw]
  have hO : FreeD ds a' (putsR a r) := fun t htn => inv.others t (contains_of hds htn)
  have hD : DepS l S o a' w' := by
   intro j d hj' hd'
   obtain ⟨e, he, hbb⟩ := Array.any_eq_true'.1 hj'
   simp only [Bool.and_eq_true, beq_iff_eq] at hbb
   have hLe := hdep e he hbb.1
   rw [hbb.2] at hLe
   exact inv.vals j (hlow j hLe) hLe d hd'
  obtain ⟨gf, hg1, hg2⟩ := inv.news
  -- the frame behind a value
  have fr1 : ∀ (d : Tmp) (v : Value), dstOf l i = some d → (a'.put o.dst v).eval (.tmp d) = v ∧ (∀ i' d', i' < n → i' ≠ i → dstOf l i' = some d' → (a'.put o.dst v).eval (.tmp d') = a'.eval (.tmp d')) ∧ (∀ t, (∀ j, j < n → dstOf l j ≠ some t) → (a'.put o.dst v).eval (.tmp t) = (putsR a r).eval (.tmp t)) ∧ (a'.put o.dst v).tmps.size = (putsR a r).tmps.size ∧ (a'.put o.dst v).defers = (putsR a r).defers := by
   intro d v hdi
   obtain ⟨hdl, hdne⟩ := dstsN_val hd hi hdi
   have hod : o.dst = some d := by simpa [dstOf, ho] using hdi
   rw [hod]
   have hdl2 : d < a'.tmps.size := by rw [inv.tmps, putsR_size, hs]; exact hdl
   refine ⟨eval_put_same hdl2, fun i' d' hi' hne hd' => eval_put_other (fun e => hdne i' hi' (fun h => hne h.symm) (by rw [hd', e])), fun t htn => ?_, by simpa [Act.put] using inv.tmps, inv.defers⟩
   rw [eval_put_other (fun e => htn i hi (by rw [hdi, e]))]
   exact inv.others t htn
  rcases hst with ⟨hout, hne, hsome⟩ | ⟨e, hef, hei, hsome, hSi, huniq, hex⟩ | ⟨e, hef, hes, hdn, hon, haft, ⟨de, hde⟩, huniq, hex⟩
  ·obtain ⟨d, hdi⟩ := Option.isSome_iff_exists.1 hsome
   refine (hout a' w' inv.grow hO hD).wp (fun v w'' hSv hb => hK _ _ ?_)
   obtain ⟨f1, f2, f3, f4, f5⟩ := fr1 d v hdi
   refine ⟨f4, f5, inv.grow.trans (hb.mono inv.grow.size), f3, fun i' hi' hL d' hd' => ?_, gf, fun e he hL d' hd' => ?_, fun e he e' he' hne' hL hL' => ?_⟩
   ·by_cases hii : i' = i
    ·subst hii; rw [hdi] at hd'; cases hd'; rw [f1]; exact hSv
    ·rw [f2 i' d' hi' hii hd']; exact hS _ _ _ _ (inv.vals i' hi' (by simpa [hii] using hL) d' hd')
   ·have hne1 := hne e he
    rw [f2 e.i d' (hfr e he).1 hne1.1 hd']
    obtain ⟨q1, q2, q3⟩ := hg1 e he (by simpa [hne1.1] using hL) d' hd'
    have e3 : (L e.s || e.s == i) = L e.s := by have : (e.s == i) = false := by simpa using hne1.2
                                                rw [this, Bool.or_false]
    rw [e3]
    exact ⟨q1, q2, q3.nx hb⟩
   ·exact hg2 e he e' he' hne' (by simpa [(hne e he).1] using hL) (by simpa [(hne e' he').1] using hL')
  ·subst hei
   obtain ⟨d, hdi⟩ := Option.isSome_iff_exists.1 hsome
   obtain ⟨v, w'', hr, g, rfl, hle, hB, hb⟩ := hex a' w' inv.grow
   unfold Oper.wp
   rw [hr]
   obtain ⟨f1, f2, f3, f4, f5⟩ := fr1 d (.pointer (some ⟨g, 0, none⟩)) hdi
   refine hK _ _ ⟨f4, f5, inv.grow.trans (hb.mono inv.grow.size), f3, fun i' hi' hL d' hd' => ?_, fun k => if k = e.i then g else gf k, fun e' he' hL d' hd' => ?_, fun e1 he1 e2 he2 hne' hL hL' => ?_⟩
   ·by_cases hii : i' = e.i
    ·subst hii; exact hSi _ _
    ·rw [f2 i' d' hi' hii hd']; exact hS _ _ _ _ (inv.vals i' hi' (by simpa [hii] using hL) d' hd')
   ·by_cases hii : e'.i = e.i
    ·obtain rfl := (huniq e' he').2 hii
     rw [hdi] at hd'; cases hd'
     have hLs : (L e'.s || e'.s == e'.i) = false := by
      have h1 : (e'.s == e'.i) = false := by simpa using (huniq e' he').1
      rw [h1, Bool.or_false]
      -- the store waits for the variable
      cases hc : L e'.s with
      | false => rfl
      | true =>
       exfalso
       obtain ⟨os, hos⟩ : ∃ os, l[e'.s]? = some os := by
        cases h9 : l[e'.s]? with
        | some os => exact ⟨os, rfl⟩
        | none =>
         have hlen := List.getElem?_eq_none_iff.1 h9
         have hlow' := hlow _ hc
         have hn : n ≤ l.length := by
          simp only [tailB2, Bool.and_eq_true, decide_eq_true_eq] at ht
          exact ht.1.1.1
         omega
       obtain ⟨hg', hst'⟩ := stepsN_get _ _ hstep e'.s os (by rw [List.getElem?_take, if_pos (hlow _ hc)]; exact hos)
       rw [Nat.zero_add] at hst'
       rcases hst' with ⟨_, h2, _⟩ | ⟨e3, he3, h2, _, _, h3, _⟩ | ⟨e3, he3, h2, _, _, h4, _, h3, _⟩
       ·exact (h2 e' he').2 rfl
       ·exact (h3 e' he').1 rfl
       ·obtain rfl := (h3 e' he').2 rfl
        obtain ⟨x, hx, hbx⟩ := Array.any_eq_true'.1 h4
        simp only [Bool.and_eq_true, beq_iff_eq] at hbx
        have h5 := hcl e'.s os hos hc x hx hbx.1
        rw [hbx.2, hun] at h5
        cases h5
     rw [hLs]
     refine ⟨by rw [f1]; dsimp only; rw [if_pos rfl], by dsimp only; rw [if_pos rfl]; exact Nat.le_trans inv.grow.size hle, by dsimp only; rw [if_pos rfl, if_neg (by simp)]; exact hB⟩
    ·dsimp only
     rw [f2 e'.i d' (hfr e' he').1 hii hd', if_neg hii]
     obtain ⟨q1, q2, q3⟩ := hg1 e' he' (by simpa [hii] using hL) d' hd'
     have e3 : (L e'.s || e'.s == e.i) = L e'.s := by have : (e'.s == e.i) = false := by simpa using (huniq e' he').1
                                                      rw [this, Bool.or_false]
     rw [e3]
     exact ⟨q1, q2, q3.nx hb⟩
   ·have old : ∀ e4 ∈ fr, e4.i ≠ e.i → L e4.i = true → gf e4.i < w'.heap.size := by
     intro e4 he4 _ hL4
     obtain ⟨os, hos, _⟩ : ∃ d4, dstOf l e4.i = some d4 ∧ True := by
      cases h9 : dstOf l e4.i with
      | some d4 => exact ⟨d4, rfl, trivial⟩
      | none =>
       exfalso
       cases h8 : l[e4.i]? with
       | none =>
        have hlen := List.getElem?_eq_none_iff.1 h8
        have hn : n ≤ l.length := by
         simp only [tailB2, Bool.and_eq_true, decide_eq_true_eq] at ht
         exact ht.1.1.1
        have := (hfr e4 he4).1
        omega
       | some o4 =>
        obtain ⟨_, hst'⟩ := stepsN_get _ _ hstep e4.i o4 (by rw [List.getElem?_take, if_pos (hfr e4 he4).1]; exact h8)
        rw [Nat.zero_add, h9] at hst'
        rcases hst' with ⟨_, _, h2⟩ | ⟨_, _, _, h2, _⟩ | ⟨e3, he3, h2, _, _, _, _, h3, _⟩
        ·cases h2
        ·cases h2
        ·exact (h3 e4 he4).1 rfl
     exact (hg1 e4 he4 hL4 _ hos).2.2.lt
    dsimp only
    by_cases h1 : e1.i = e.i
    ·by_cases h2 : e2.i = e.i
     ·exact absurd (h1.trans h2.symm) hne'
     ·rw [if_pos h1, if_neg h2]
      have := old e2 he2 h2 (by simpa [h2] using hL')
      omega
    ·by_cases h2 : e2.i = e.i
     ·rw [if_neg h1, if_pos h2]
      have := old e1 he1 h1 (by simpa [h1] using hL)
      omega
     ·rw [if_neg h1, if_neg h2]
      exact hg2 e1 he1 e2 he2 hne' (by simpa [h1] using hL) (by simpa [h2] using hL')
  ·subst hes
   have hLi : L e.i = true := by
    obtain ⟨x, hx, hbx⟩ := Array.any_eq_true'.1 haft
    simp only [Bool.and_eq_true, beq_iff_eq] at hbx
    have := hdep x hx hbx.1
    rwa [hbx.2] at this
   obtain ⟨q1, q2, q3⟩ := hg1 e hef hLi de hde
   rw [hun, if_neg (by simp)] at q3
   obtain ⟨w'', hr, hB, hX⟩ := hex a' w' (gf e.i) inv.grow hO hD (fun d hd' => by rw [hde] at hd'; cases hd'; exact q1) q3
   unfold Oper.wp
   rw [hr]
   have ea : a'.put o.dst undef = a' := by rw [hon]; rfl
   show K (a'.put o.dst undef) w''
   rw [ea]
   refine hK _ _ ⟨inv.tmps, inv.defers, hX.below inv.grow inv.grow.size (fun k hk => hk ▸ q2), inv.others, fun i' hi' hL d' hd' => ?_, gf, fun e' he' hL d' hd' => ?_, fun e1 he1 e2 he2 hne' hL hL' => ?_⟩
   ·have hii : i' ≠ e.s := fun h => by rw [h, hdn] at hd'; cases hd'
    exact hS _ _ _ _ (inv.vals i' hi' (by simpa [hii] using hL) d' hd')
   ·have hii : e'.i ≠ e.s := (huniq e' he').1
    have hL' : L e'.i = true := by simpa [hii] using hL
    obtain ⟨r1, r2, r3⟩ := hg1 e' he' hL' d' hd'
    refine ⟨r1, r2, ?_⟩
    by_cases hss : e'.s = e.s
    ·obtain rfl := (huniq e' he').2 hss
     rw [if_pos (by simp)]
     exact hB
    ·have e3 : (L e'.s || e'.s == e.s) = L e'.s := by have : (e'.s == e.s) = false := by simpa using hss
                                                      rw [this, Bool.or_false]
     rw [e3]
     refine hX.blk r3 (fun h => ?_)
     by_cases hi2 : e'.i = e.i
     ·-- one variable, two stores: none such
      exfalso
      cases h8 : l[e.i]? with
      | none => unfold dstOf at hde; rw [h8] at hde; cases hde
      | some o4 =>
       obtain ⟨_, hst'⟩ := stepsN_get _ _ hstep e.i o4 (by rw [List.getElem?_take, if_pos (hfr e hef).1]; exact h8)
       rw [Nat.zero_add] at hst'
       rcases hst' with ⟨_, h2, _⟩ | ⟨e3, he3, h2, _, _, h3, _⟩ | ⟨e3, he3, h2, h2', _⟩
       ·exact (h2 e hef).1 rfl
       ·have h5 := (h3 e hef).2 rfl
        have h6 := (h3 e' he').2 hi2
        exact hss (by rw [h5, h6])
       ·rw [h2'] at hde; cases hde
     ·exact hg2 e' he' e hef hi2 hL' hLi h
   ·have h1 : e1.i ≠ e.s := (huniq e1 he1).1
    have h2 : e2.i ≠ e.s := (huniq e2 he2).1
    exact hg2 e1 he1 e2 he2 hne' (by simpa [h1] using hL) (by simpa [h2] using hL')
 ·intro L a' w' inv hall
  obtain ⟨gf, hg1, hg2⟩ := inv.news
  refine hend a' w' gf (by rw [inv.tmps, putsR_size, hs]) (by rw [inv.defers, putsR_defers, hdf]) inv.grow (fun t htn => inv.others t (contains_of hds htn)) (fun i d hi hd' => inv.vals i (by simpa using hi) (hall i (by simpa using hi)) d hd') (fun k e hk d hd' => ?_) (fun k k' e e' hk hk' hne => ?_)
  ·have he := List.mem_of_getElem? hk
   obtain ⟨q1, q2, q3⟩ := hg1 e he (hall _ (hfr e he).1) d hd'
   have hc : (if L e.s = true then e.c else e.z) = e.c := by
    rcases (hfr e he).2 with h | h
    ·rw [if_pos (hall _ h)]
    ·split
     ·rfl
     ·exact h.symm
   rw [hc] at q3
   exact ⟨q1, q2, q3⟩
  ·have he := List.mem_of_getElem? hk
   have he' := List.mem_of_getElem? hk'
   exact hg2 e he e' he' hne (hall _ (hfr e he).1) (hall _ (hfr e' he').1)
end
section
variable {o : Oper} {ev : Operand → Value} {w : World} {x y z : Operand} {T U t : TypeId} {g k : Nat}
theorem o_neg (ho : o.op = .unOp .neg T x) (hx : ev x = .int .i64 (m : Int)) (hm : m < 9223372036854775808) : (execOp ev o).run Tryz.prog w = .ok (.value (.int .i64 (-(m : Int)))) w := by
 have h : IntKind.i64.wrap (-(m : Int)) = -(m : Int) := IntWalk.i64_in _ (by omega)
 simp [execOp, ho, hx, go_sem, h]
theorem o_not32 (ho : o.op = .unOp .xor T x) (hx : ev x = .int .u32 (m : Int)) (hm : m < 4294967296) : (execOp ev o).run Tryz.prog w = .ok (.value (.int .u32 ((4294967295 ^^^ m : Nat) : Int))) w := by
 have h := u32_xor_nat 4294967295 m (by omega) hm
 simp only [execOp, ho, hx, go_sem]
 exact congrArg (fun q => Result.ok (Next.value (Value.int .u32 q)) w) h
theorem bldc (hc : ∀ v, ev (.const v) = v) (l : List (Nat × Operand)) (r : List (Nat × Value)) (h : l = r.map (fun p => (p.1, Operand.const p.2))) : l.toArray.map (fun (i, x) => (i, ev x)) = r.toArray := by
 subst h
 simp [Function.comp_def, hc]
theorem bld8 {i1 i2 i3 i4 i5 i6 i7 i8 : Nat} {x1 x2 x3 x4 x5 x6 x7 x8 : Operand} {u1 u2 u3 u4 u5 u6 u7 u8 : Value} (h1 : ev x1 = u1) (h2 : ev x2 = u2) (h3 : ev x3 = u3) (h4 : ev x4 = u4) (h5 : ev x5 = u5) (h6 : ev x6 = u6) (h7 : ev x7 = u7) (h8 : ev x8 = u8) :
  #[(i1, x1), (i2, x2), (i3, x3), (i4, x4), (i5, x5), (i6, x6), (i7, x7), (i8, x8)].map (fun (i, x) => (i, ev x)) = #[(i1, u1), (i2, u2), (i3, u3), (i4, u4), (i5, u5), (i6, u6), (i7, u7), (i8, u8)] := by simp [h1, h2, h3, h4, h5, h6, h7, h8]
end
end Go.Proofs.YtkhbihnnkflfkaaGreat
