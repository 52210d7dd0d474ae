/-
 A REGION THAT DRAWS ITS ORDER, one of whose calls changes the blocks X.
-/
import Derived.Test.YtkhbihnnkflfkaaGreatCiph
namespace Go.Proofs.YtkhbihnnkflfkaaGreat
open Go.RowKit
set_option linter.unusedVariables false
set_option linter.unusedSimpArgs false
set_option maxRecDepth 100000

variable {l : List Oper} {S : List (World → Value → Prop)} {H0 H1 : World → Prop} {X : Nat → Prop} {ds : List Tmp} {B h n : Nat} {o : Oper} {xs : List Nat}
section
variable {b : Bool} {P : Program} {Q : Exit → Act → World → Prop} {a : Act} {w : World}
structure InvMut (l : List Oper) (S : List (World → Value → Prop)) (H0 H1 : World → Prop) (X : Nat → Prop) (n h : Nat) (a0 : Act) (w0 : World) (L : Nat → Bool) (a : Act) (w : World) : Prop where
 tmps : a.tmps.size = a0.tmps.size
 defers : a.defers = a0.defers
 grow : BelowX X w0 w
 others : ∀ t, (∀ j, j < n → dstOf l j ≠ some t) → a.eval (.tmp t) = a0.eval (.tmp t)
 vals : ∀ i, i < n → L i = true → ∀ d, dstOf l i = some d → nthS S i w (a.eval (.tmp d))
 hot : if L h = true then H1 w else H0 w
def OutM (P : Program) (S : List (World → Value → Prop)) (X : Nat → Prop) (H1 : World → Prop) (a' : Act) (w' : World) (i : Nat) (o : Oper) : Prop :=
 ∃ f vs, (execOp a'.eval o).run P w' = .ok (.enter f vs) w' ∧ Calls P f vs w' fun e w'' => ∃ v, e = .returned v ∧ nthS S i w'' v ∧ BelowX X w' w'' ∧ H1 w''
def StepM (P : Program) (l : List Oper) (S : List (World → Value → Prop)) (H0 H1 : World → Prop) (X : Nat → Prop) (ds : List Tmp) (a0 : Act) (w0 : World) (h i : Nat) (o : Oper) : Prop :=
 o.guard = none ∧ ∀ (a' : Act) (w' : World), BelowX X w0 w' → FreeD ds a' a0 → DepS l S o a' w' → if i = h then (H0 w' → OutM P S X H1 a' w' i o) else Outcome P (nthS S) a' w' i o
def StepsM (P : Program) (l : List Oper) (S : List (World → Value → Prop)) (H0 H1 : World → Prop) (X : Nat → Prop) (ds : List Tmp) (a0 : Act) (w0 : World) (h : Nat) : Nat → List Oper → Prop
 | _, [] => True
 | i, o :: r => StepM P l S H0 H1 X ds a0 w0 h i o ∧ StepsM P l S H0 H1 X ds a0 w0 h (i + 1) r
theorem stepsM_get {l : List Oper} {S : List (World → Value → Prop)} {H0 H1 : World → Prop} {X : Nat → Prop} {ds : List Tmp} {h : Nat} : ∀ (r : List Oper) (k : Nat), StepsM P l S H0 H1 X ds a w h k r → ∀ i o, r[i]? = some o → StepM P l S H0 H1 X ds a w h (k + i) o
 | [], _, _, i, o, h => by simp at h
 | x :: r, k, h, 0, o, ho => by
  simp at ho; subst ho; exact h.1
 | x :: r, k, h, i + 1, o, ho => by
  have := stepsM_get r (k + 1) h.2 i o (by simpa using ho)
  rwa [Nat.add_assoc, Nat.add_comm 1 i] at this
theorem stepM_val {i : Nat} (hg : o.guard = none) (hi : Nat.beq i h = false)
  (hh : ∀ (a' : Act) (w' : World), BelowX X w w' → FreeD ds a' a → DepS l S o a' w' → Outcome P (nthS S) a' w' i o) : StepM P l S H0 H1 X ds a w h i o :=
 ⟨hg, fun a' w' h1 h2 h3 => by rw [if_neg (fun e => by rw [e] at hi; simp at hi)]; exact hh a' w' h1 h2 h3⟩
theorem stepM_hot (hg : o.guard = none)
  (hh : ∀ (a' : Act) (w' : World), BelowX X w w' → FreeD ds a' a → DepS l S o a' w' → H0 w' → OutM P S X H1 a' w' h o) : StepM P l S H0 H1 X ds a w h h o :=
 ⟨hg, fun a' w' h1 h2 h3 => by rw [if_pos rfl]; exact hh a' w' h1 h2 h3⟩
def AllStX (X : Nat → Prop) : List (World → Value → Prop) → Prop
 | [] => True
 | p :: l => (∀ w w' v, p w v → BelowX X w w' → p w' v) ∧ AllStX X l
theorem stLitX {f : Value → Prop} : ∀ w w' v, (fun (_ : World) v => f v) w v → BelowX X w w' → (fun (_ : World) v => f v) w' v := fun _ _ _ h _ => h
theorem stOwnX (hX : ∀ j, X j → j < B) : ∀ w w' v, OwnN B n xs w v → BelowX X w w' → OwnN B n xs w' v := fun _ _ _ ⟨A, c, hv, h⟩ hb => ⟨A, c, hv, h.keepM hb (fun j hj hx => absurd (hX j hx) (Nat.not_lt.2 (h.ge' j hj)))⟩
theorem stTupX {r : Nat} (hX : ∀ j, X j → j < B) : ∀ w w' v, TupN B n xs r w v → BelowX X w w' → TupN B n xs r w' v := fun _ _ _ ⟨A, c, hv, h⟩ hb => ⟨A, c, hv, h.keepM hb (fun j hj hx => absurd (hX j hx) (Nat.not_lt.2 (h.ge' j hj)))⟩
theorem AllStX.nth {X : Nat → Prop} : ∀ {l : List (World → Value → Prop)}, AllStX X l → ∀ i w w' v, nthS l i w v → BelowX X w w' → nthS l i w' v
 | [], _, _, _, _, _, _, _ => trivial
 | p :: l, h, 0, w, w', v, hp, hb => h.1 w w' v hp hb
 | p :: l, h, i + 1, w, w', v, hp, hb => AllStX.nth (l := l) h.2 i w w' v hp hb
theorem x_drawnM {id : Nat} {r : List (Tmp × Value)} {N : Nat} {dl : List Deferred} (n h : Nat) (X : Nat → Prop) (H0 H1 : World → Prop) (S : List (World → Value → Prop)) (ds : List Tmp) (hs : a.tmps.size = N) (hdf : a.defers = dl) (hm : P.follows .mixedOrders = true) (hnd : noDef l.toArray = true) (hd : dstsB2 l (fun _ => .val) n N = true) (ht : tailB2 l n = true) (hds : dstsOf (l.take n) = ds)
  (hh : Nat.blt h n = true) (hS : AllStX X S) (hH0 : ∀ w' w'', H0 w' → Below w'.heap.size w' w'' → H0 w'') (hH1 : ∀ w' w'', H1 w' → Below w'.heap.size w' w'' → H1 w'') (h0 : H0 w) (hstep : StepsM P l S H0 H1 X ds (putsR a r) w h 0 (l.take n))
  (hend : ∀ (a' : Act) (w' : World), a'.tmps.size = N → a'.defers = dl → BelowX X w w' → H1 w' → FreeD ds a' (putsR a r) → (∀ i d, Nat.blt i n = true → dstOf l i = some d → nthS S i w' (a'.eval (.tmp d))) → wpList P l.toArray Q (l.drop n) (putsR a' []) w') :
  WP2 b P (.region id l.toArray true) Q (putsR a r) w := by
 refine w2_any hm hnd (region_headA n (InvMut l S H0 H1 X n h (putsR a r) w) hm ht ⟨rfl, rfl, ⟨rfl, rfl, rfl, Nat.le_refl _, fun _ _ _ => rfl⟩, fun _ _ => rfl, fun _ _ hL => (by cases hL), by simpa using hH0 _ _ h0 ((Below.refl _ _).drew)⟩ ?_ ?_)
 ·intro i o hi ho L a' w' inv hun hcl hdep hlow j hj K hK
  obtain ⟨hg, hst⟩ := stepsM_get _ _ hstep i o (by rw [List.getElem?_take, if_pos hi]; exact ho)
  rw [Nat.zero_add] at hst
  have hw : j = true := by rw [← hj]; simp [Region.wanted, hg]
  rw [if_pos hw]
  have hO : FreeD ds a' (putsR a r) := fun t htn => inv.others t (contains_of hds htn)
  have hD : DepS l S o a' w' := by
   intro j d hj' hd'
   obtain ⟨e, he, hbb⟩ := Array.any_eq_true'.1 hj'
   simp only [Bool.and_eq_true, beq_iff_eq] at hbb
   have hLe := hdep e he hbb.1
   rw [hbb.2] at hLe
   exact inv.vals j (hlow j hLe) hLe d hd'
  have h1 := hst a' w' inv.grow hO hD
  obtain ⟨d, hdi, hdl, hdne⟩ := dstsB2_val hd hi (by decide)
  have hod : o.dst = some d := by simpa [dstOf, ho] using hdi
  have hdl2 : d < a'.tmps.size := by rw [inv.tmps, putsR_size, hs]; exact hdl
  -- whatever it comes to: the frame behind it
  have next : ∀ (v : Value) (w'' : World), nthS S i w'' v → BelowX X w' w'' → (if (L h || h == i) = true then H1 w'' else H0 w'') → InvMut l S H0 H1 X n h (putsR a r) w (fun k => L k || k == i) (a'.put o.dst v) w'' := by
   intro v w'' hSv hb hH
   rw [hod]
   have hsame : (a'.put (some d) v).eval (.tmp d) = v := eval_put_same hdl2
   have hoth : ∀ i' d', i' < n → i' ≠ i → dstOf l i' = some d' → (a'.put (some d) v).eval (.tmp d') = a'.eval (.tmp d') := fun i' d' hi' hne hd' => eval_put_other (fun e => hdne i' hi' (fun h => hne h.symm) (by rw [hd', e]))
   refine ⟨by simpa [Act.put] using inv.tmps, inv.defers, inv.grow.trans hb, fun t htn => ?_, fun i' hi' hL d' hd' => ?_, hH⟩
   ·rw [eval_put_other (fun e => htn i hi (by rw [hdi, e]))]
    exact inv.others t htn
   ·by_cases hii : i' = i
    ·subst hii
     rw [hdi] at hd'
     cases hd'
     rw [hsame]; exact hSv
    ·rw [hoth i' d' hi' hii hd']
     exact hS.nth _ _ _ _ (inv.vals i' hi' (by simpa [hii] using hL) d' hd') hb
  by_cases e : i = h
  ·rw [if_pos e] at h1
   have hH := inv.hot
   rw [← e, hun] at hH
   obtain ⟨f, vs, hr, hc⟩ := h1 (by simpa using hH)
   unfold Oper.wp
   rw [hr]
   refine Calls.mono hc ?_
   rintro e' w'' ⟨v, rfl, hSv, hb, hH1'⟩
   exact hK _ _ (next v w'' hSv hb (by rw [if_pos (by simp [e])]; exact hH1'))
  ·rw [if_neg e] at h1
   refine h1.wp (fun v w'' hSv hb => hK _ _ (next v w'' hSv (BelowX.of hb) ?_))
   have hH := inv.hot
   have e2 : (h == i) = false := by simpa using fun e' => e e'.symm
   rw [e2, Bool.or_false]
   split
   ·rename_i hL; rw [if_pos hL] at hH; exact hH1 _ _ hH hb
   ·rename_i hL; rw [if_neg hL] at hH; exact hH0 _ _ hH hb
 ·intro L a' w' inv hall
  have hH := inv.hot
  rw [if_pos (hall h (by simpa using hh))] at hH
  exact hend a' w' (by rw [inv.tmps, putsR_size, hs]) (by rw [inv.defers, putsR_defers, hdf]) inv.grow hH (fun t htn => inv.others t (contains_of hds htn)) (fun i d hi hd' => inv.vals i (by simpa using hi) (hall i (by simpa using hi)) d hd')
end
end Go.Proofs.YtkhbihnnkflfkaaGreat
