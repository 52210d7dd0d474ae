/-
  A REGION THAT DRAWS ITS ORDER: operations that yield values (calls that make memory among them), new variables, and stores into blocks that were there ('hot'); behind them stores in the order of the text.
-/
import Derived.Test.YtoiamaljkodlnaaRegionHead
namespace Go.Proofs.Ytoiamaljkodlnaa
open Go.RowKit
set_option maxRecDepth 100000
set_option linter.unusedVariables false
set_option linter.unusedSimpArgs false

/-- What was there is as it was, but for the blocks X. -/
structure BelowX (X : Nat → Prop) (w w' : World) : Prop where
  os : w'.os = w.os
  tape : w'.tape = w.tape
  output : w'.output = w.output
  size : w.heap.size ≤ w'.heap.size
  block : ∀ k, k < w.heap.size → ¬ X k → w'.heap[k]? = w.heap[k]?

theorem BelowX.refl (X : Nat → Prop) (w : World) : BelowX X w w := ⟨rfl, rfl, rfl, Nat.le_refl _, fun _ _ _ => rfl⟩
theorem BelowX.trans {X : Nat → Prop} {w w1 w2 : World} (h : BelowX X w w1) (h2 : BelowX X w1 w2) : BelowX X w w2 :=
  ⟨h2.os.trans h.os, h2.tape.trans h.tape, h2.output.trans h.output, Nat.le_trans h.size h2.size, fun k hk hx => (h2.block k (Nat.lt_of_lt_of_le hk h.size) hx).trans (h.block k hk hx)⟩
theorem BelowX.of {X : Nat → Prop} {w w' : World} (h : Below w.heap.size w w') : BelowX X w w' := ⟨h.os, h.tape, h.output, h.size, fun k hk _ => h.block k hk⟩
theorem BelowX.none {w w' : World} (h : BelowX (fun _ => False) w w') : Below w.heap.size w w' := ⟨h.os, h.tape, h.output, h.size, fun k hk => h.block k hk (fun h => h)⟩
theorem BelowX.blk {X : Nat → Prop} {w w' : World} {g : Nat} {cur : Array Value} {T : TypeId} (hb : BelowX X w w') (h : Blk w g cur T) (hx : ¬ X g) : Blk w' g cur T := (hb.block g h.lt hx).trans h
/-- A change of the blocks X alone that are from B on: what is below B is as it was. -/
theorem BelowX.below {X : Nat → Prop} {B : Nat} {w0 w w' : World} (hb : BelowX X w w') (h : Below B w0 w) (hB : B ≤ w.heap.size) (hX : ∀ k, X k → B ≤ k) : Below B w0 w' :=
  ⟨hb.os.trans h.os, hb.tape.trans h.tape, hb.output.trans h.output, Nat.le_trans h.size hb.size, fun k hk => (hb.block k (by omega) (fun hx => by have := hX k hx; omega)).trans (h.block k hk)⟩

inductive HK where
  | val
  | fresh
  | hot
  deriving DecidableEq

def dstsB2 (l : List Oper) (kd : Nat → HK) (n m : Nat) : Bool :=
  (List.range n).all fun i => match kd i, dstOf l i with
    | .hot, d => d == none && (match l[i]? with | some o => o.guard == none | none => false)
    | _, some d => decide (d < m) && (List.range n).all fun j => i == j || dstOf l j != some d
    | _, none => false

structure InvHot (l : List Oper) (kd : Nat → HK) (S : Nat → World → Value → Prop) (H : (Nat → Bool) → World → Prop) (X : Nat → Prop) (n : Nat) (a0 : Act) (w0 : World) (L : Nat → Bool) (a : Act) (w : World) : Prop where
  tmps : a.tmps.size = a0.tmps.size
  defers : a.defers = a0.defers
  grow : BelowX X w0 w
  others : ∀ t, (∀ j, j < n → dstOf l j ≠ some t) → a.eval (.tmp t) = a0.eval (.tmp t)
  vals : ∀ i, i < n → kd i ≠ .hot → L i = true → ∀ d, dstOf l i = some d → S i w (a.eval (.tmp d))
  hot : H L w
  apart : ∀ i j d d', i < n → j < n → kd i = .fresh → kd j = .fresh → i ≠ j → L i = true → L j = true → dstOf l i = some d → dstOf l j = some d' → a.eval (.tmp d) ≠ a.eval (.tmp d')

/-- What is known when operation i is carried out. -/
structure AtHot (l : List Oper) (kd : Nat → HK) (S : Nat → World → Value → Prop) (H : (Nat → Bool) → World → Prop) (X : Nat → Prop) (n : Nat) (a0 : Act) (w0 : World) (i : Nat) (o : Oper) (L : Nat → Bool) (a : Act) (w : World) : Prop where
  grow : BelowX X w0 w
  others : ∀ t, (∀ j, j < n → dstOf l j ≠ some t) → a.eval (.tmp t) = a0.eval (.tmp t)
  deps : ∀ e ∈ o.after, Region.binds .any e = true → ∀ d, kd e.on ≠ .hot → dstOf l e.on = some d → S e.on w (a.eval (.tmp d))
  hot : H L w
  /-- operations that wait for this one are still to come -/
  later : ∀ s os, l[s]? = some os → os.after.any (fun e => Region.binds .any e && e.on == i) = true → L s = false
  /-- operations that this one waits for are through -/
  before : ∀ s, o.after.any (fun e => Region.binds .any e && e.on == s) = true → L s = true

def StepHot (P : Program) (l : List Oper) (kd : Nat → HK) (S : Nat → World → Value → Prop) (H : (Nat → Bool) → World → Prop) (X : Nat → Prop) (Q : Exit → Act → World → Prop) (n : Nat) (a0 : Act) (w0 : World) (i : Nat) (o : Oper) : Prop :=
  ∀ (L : Nat → Bool) (a : Act) (w : World), AtHot l kd S H X n a0 w0 i o L a w →
    (kd i ≠ .hot → ∀ j, Region.wanted o (yielded l.toArray a.tmps) = j → ∀ K : Act → World → Prop,
      (∀ v w'', S i w'' v → Below w.heap.size w w'' → (kd i = .fresh → ∀ g, v = .pointer (some ⟨g, 0, none⟩) → w.heap.size ≤ g) → K (a.put o.dst v) w'') → if j = true then Oper.wp P o a w K Q else K (a.put o.dst undef) w) ∧
    (kd i = .hot → ∃ w'', (execOp a.eval o).run P w = .ok .skip w'' ∧ BelowX X w w'' ∧ H (fun k => L k || k == i) w'')

section
variable {P : Program} {l : List Oper} {kd : Nat → HK} {S : Nat → World → Value → Prop} {H : (Nat → Bool) → World → Prop} {X : Nat → Prop} {Q : Exit → Act → World → Prop} {n : Nat} {a0 : Act} {w0 : World}

theorem dstsB2_val {i m : Nat} (hd : dstsB2 l kd n m = true) (hi : i < n) (hk : kd i ≠ .hot) : ∃ d, dstOf l i = some d ∧ d < m ∧ ∀ j, j < n → i ≠ j → dstOf l j ≠ some d := by
  have h1 := List.all_eq_true.1 hd i (List.mem_range.2 hi)
  cases hdi : dstOf l i with
  | none => exfalso; cases hki : kd i <;> simp [hki, hdi] at h1 hk
  | some d =>
    have h2 : (decide (d < m) && (List.range n).all fun j => i == j || dstOf l j != some d) = true := by
      cases hki : kd i <;> simp [hki, hdi] at h1 hk ⊢ <;> exact h1
    simp only [Bool.and_eq_true, decide_eq_true_eq] at h2
    refine ⟨d, rfl, h2.1, fun j hj hij => ?_⟩
    have h3 := List.all_eq_true.1 h2.2 j (List.mem_range.2 hj)
    simp only [Bool.or_eq_true, beq_iff_eq, bne_iff_ne] at h3
    exact h3.resolve_left hij
theorem dstsB2_hot {i m : Nat} (hd : dstsB2 l kd n m = true) (hi : i < n) (hk : kd i = .hot) {o : Oper} (ho : l[i]? = some o) : o.dst = none ∧ o.guard = none := by
  have h1 := List.all_eq_true.1 hd i (List.mem_range.2 hi)
  simp only [hk, ho, dstOf, Bool.and_eq_true, beq_iff_eq] at h1
  exact ⟨by simpa using h1.1, h1.2⟩

theorem region_hotA (n : Nat) (kd : Nat → HK) (S : Nat → World → Value → Prop) (H : (Nat → Bool) → World → Prop) (X : Nat → Prop) (hm : P.follows .mixedOrders = true) (hd : dstsB2 l kd n a0.tmps.size = true) (ht : tailB2 l n = true)
    (hS : ∀ i w w' v, S i w v → BelowX X w w' → S i w' v)
    (hHb : ∀ L w w', H L w → Below w.heap.size w w' → H L w')
    (hHv : ∀ L i w, kd i ≠ .hot → H L w → H (fun k => L k || k == i) w)
    (hfr : ∀ i w v, kd i = .fresh → S i w v → ∃ g, v = .pointer (some ⟨g, 0, none⟩) ∧ g < w.heap.size)
    (h0 : H (fun _ => false) w0)
    (hstep : ∀ i o, i < n → l[i]? = some o → StepHot P l kd S H X Q n a0 w0 i o)
    (hend : ∀ (L : Nat → Bool) (a' : Act) (w' : World), BelowX X w0 w' → a'.tmps.size = a0.tmps.size → a'.defers = a0.defers → (∀ t, (∀ j, j < n → dstOf l j ≠ some t) → a'.eval (.tmp t) = a0.eval (.tmp t)) →
      (∀ i, i < n → kd i ≠ .hot → ∀ d, dstOf l i = some d → S i w' (a'.eval (.tmp d))) → (∀ i, i < n → L i = true) → H L w' →
      (∀ i j d d', i < n → j < n → kd i = .fresh → kd j = .fresh → i ≠ j → dstOf l i = some d → dstOf l j = some d' → a'.eval (.tmp d) ≠ a'.eval (.tmp d')) → wpList P l.toArray Q (l.drop n) a' w') : wpAny P .any l.toArray Q l.toArray.size (Array.replicate l.toArray.size false) a0 w0.drew := by
  refine region_headA n (InvHot l kd S H X n a0 w0) hm ht ⟨rfl, rfl, ⟨rfl, rfl, rfl, Nat.le_refl _, fun _ _ _ => rfl⟩, fun _ _ => rfl, fun _ _ _ h => (by cases h), hHb _ _ _ h0 ((Below.refl _ _).drew), fun _ _ _ _ _ _ _ _ _ h => (by cases h)⟩ ?_ ?_
  · intro i o hi ho L a w inv hun hcl hdep hlow j hj K hK
    have hlat : ∀ s os, l[s]? = some os → os.after.any (fun e => Region.binds .any e && e.on == i) = true → L s = false := by
      intro s os hs hany
      cases hLs : L s with
      | false => rfl
      | true =>
        obtain ⟨e, he, hb⟩ := Array.any_eq_true'.1 hany
        simp only [Bool.and_eq_true, beq_iff_eq] at hb
        have := hcl s os hs hLs e he hb.1
        rw [hb.2, hun] at this
        cases this
    have hbef : ∀ s, o.after.any (fun e => Region.binds .any e && e.on == s) = true → L s = true := by
      intro s hany
      obtain ⟨e, he, hb⟩ := Array.any_eq_true'.1 hany
      simp only [Bool.and_eq_true, beq_iff_eq] at hb
      have := hdep e he hb.1
      rwa [hb.2] at this
    have hat : AtHot l kd S H X n a0 w0 i o L a w := ⟨inv.grow, inv.others, fun e he hb d hk hd' => inv.vals e.on (hlow _ (hdep e he hb)) hk (hdep e he hb) d hd', inv.hot, hlat, hbef⟩
    obtain ⟨hv, hh⟩ := hstep i o hi ho L a w hat
    by_cases hk : kd i = .hot
    · obtain ⟨hod, hog⟩ := dstsB2_hot hd hi hk ho
      have hjt : j = true := by rw [← hj]; simp [Region.wanted, hog]
      rw [if_pos hjt]
      obtain ⟨w'', hr, hbx, hH⟩ := hh hk
      unfold Oper.wp
      rw [hr]
      have e : a.put o.dst undef = a := by rw [hod]; rfl
      show K (a.put o.dst undef) w''
      rw [e]
      have hne : ∀ i', i' < n → kd i' ≠ .hot → i' ≠ i := fun i' _ h e => h (e ▸ hk)
      refine hK _ _ ⟨inv.tmps, inv.defers, inv.grow.trans hbx, inv.others, fun i' hi' hk' hL d hd' => ?_, hH, fun i1 i2 d d' h1 h2 k1 k2 hne' hL1 hL2 e1 e2 => ?_⟩
      · exact hS _ _ _ _ (inv.vals i' hi' hk' (by simpa [hne i' hi' hk'] using hL) d hd') hbx
      · have n1 := hne i1 h1 (by rw [k1]; decide)
        have n2 := hne i2 h2 (by rw [k2]; decide)
        exact inv.apart i1 i2 d d' h1 h2 k1 k2 hne' (by simpa [n1] using hL1) (by simpa [n2] using hL2) e1 e2
    · obtain ⟨d, hdi, hdl, hdne⟩ := dstsB2_val hd hi hk
      have hod : o.dst = some d := by simpa [dstOf, ho] using hdi
      refine hv hk j hj K (fun v w'' hSv hb hfresh => hK _ _ ?_)
      rw [hod]
      have hsame : (a.put (some d) v).eval (.tmp d) = v := eval_put_same (by rw [inv.tmps]; exact hdl)
      have hoth : ∀ i' d', i' < n → i' ≠ i → dstOf l i' = some d' → (a.put (some d) v).eval (.tmp d') = a.eval (.tmp d') := fun i' d' hi' hne hd' => eval_put_other (fun e => hdne i' hi' (fun h => hne h.symm) (by rw [hd', e]))
      refine ⟨by simpa [Act.put] using inv.tmps, inv.defers, inv.grow.trans (BelowX.of hb), fun t htn => ?_, fun i' hi' hk' hL d' hd' => ?_, hHv _ i _ hk (hHb _ _ _ inv.hot hb), fun i1 i2 d1 d2 h1 h2 k1 k2 hne' hL1 hL2 e1 e2 => ?_⟩
      · rw [eval_put_other (fun e => htn i hi (by rw [hdi, e]))]
        exact inv.others t htn
      · by_cases hii : i' = i
        · subst hii
          rw [hdi] at hd'
          cases hd'
          rw [hsame]; exact hSv
        · rw [hoth i' d' hi' hii hd']
          exact hS _ _ _ _ (inv.vals i' hi' hk' (by simpa [hii] using hL) d' hd') (BelowX.of hb)
      · by_cases n1 : i1 = i
        · by_cases n2 : i2 = i
          · exact absurd (n1.trans n2.symm) hne'
          · subst n1
            rw [hdi] at e1
            cases e1
            rw [hsame, hoth i2 d2 h2 n2 e2]
            have hL2' : L i2 = true := by simpa [n2] using hL2
            obtain ⟨g, hg, hgl⟩ := hfr i2 w _ k2 (inv.vals i2 h2 (by rw [k2]; decide) hL2' d2 e2)
            intro e
            rw [hg] at e
            have := hfresh k1 g e
            omega
        · by_cases n2 : i2 = i
          · subst n2
            rw [hdi] at e2
            cases e2
            rw [hsame, hoth i1 d1 h1 n1 e1]
            have hL1' : L i1 = true := by simpa [n1] using hL1
            obtain ⟨g, hg, hgl⟩ := hfr i1 w _ k1 (inv.vals i1 h1 (by rw [k1]; decide) hL1' d1 e1)
            intro e
            rw [hg] at e
            have := hfresh k2 g e.symm
            omega
          · rw [hoth i1 d1 h1 n1 e1, hoth i2 d2 h2 n2 e2]
            exact inv.apart i1 i2 d1 d2 h1 h2 k1 k2 hne' (by simpa [n1] using hL1) (by simpa [n2] using hL2) e1 e2
  · intro L a w inv hall
    exact hend L a w inv.grow inv.tmps inv.defers inv.others (fun i hi hk d hd' => inv.vals i hi hk (hall i hi) d hd') hall inv.hot (fun i j d d' hi hj k1 k2 hne e1 e2 => inv.apart i j d d' hi hj k1 k2 hne (hall i hi) (hall j hj) e1 e2)
theorem region_hot {id : Nat} (n : Nat) (kd : Nat → HK) (S : Nat → World → Value → Prop) (H : (Nat → Bool) → World → Prop) (X : Nat → Prop) (hm : P.follows .mixedOrders = true) (hd : dstsB2 l kd n a0.tmps.size = true) (ht : tailB2 l n = true)
    (hS : ∀ i w w' v, S i w v → BelowX X w w' → S i w' v)
    (hHb : ∀ L w w', H L w → Below w.heap.size w w' → H L w')
    (hHv : ∀ L i w, kd i ≠ .hot → H L w → H (fun k => L k || k == i) w)
    (hfr : ∀ i w v, kd i = .fresh → S i w v → ∃ g, v = .pointer (some ⟨g, 0, none⟩) ∧ g < w.heap.size)
    (h0 : H (fun _ => false) w0)
    (hstep : ∀ i o, i < n → l[i]? = some o → StepHot P l kd S H X Q n a0 w0 i o)
    (hend : ∀ (L : Nat → Bool) (a' : Act) (w' : World), BelowX X w0 w' → a'.tmps.size = a0.tmps.size → a'.defers = a0.defers → (∀ t, (∀ j, j < n → dstOf l j ≠ some t) → a'.eval (.tmp t) = a0.eval (.tmp t)) →
      (∀ i, i < n → kd i ≠ .hot → ∀ d, dstOf l i = some d → S i w' (a'.eval (.tmp d))) → (∀ i, i < n → L i = true) → H L w' →
      (∀ i j d d', i < n → j < n → kd i = .fresh → kd j = .fresh → i ≠ j → dstOf l i = some d → dstOf l j = some d' → a'.eval (.tmp d) ≠ a'.eval (.tmp d')) → wpList P l.toArray Q (l.drop n) a' w') : (Code.region id l.toArray true).wp P Q a0 w0 := wp_region_any hm (region_hotA n kd S H X hm hd ht hS hHb hHv hfr h0 hstep hend)


/-! Steps, one by one. -/
def HotFrom (P : Program) (l : List Oper) (kd : Nat → HK) (S : Nat → World → Value → Prop) (H : (Nat → Bool) → World → Prop) (X : Nat → Prop) (Q : Exit → Act → World → Prop) (n : Nat) (a : Act) (w : World) : Nat → List Oper → Prop
  | _, [] => True
  | k, o :: r => StepHot P l kd S H X Q n a w k o ∧ HotFrom P l kd S H X Q n a w (k + 1) r

theorem hots_get : ∀ (r : List Oper) (k : Nat), HotFrom P l kd S H X Q n a0 w0 k r → ∀ i o, r[i]? = some o → StepHot P l kd S H X Q n a0 w0 (k + i) o
  | [], _, _, i, o, h => by simp at h
  | x :: r, k, h, 0, o, ho => by
    simp at ho; subst ho; exact h.1
  | x :: r, k, h, i + 1, o, ho => by
    have := hots_get r (k + 1) h.2 i o (by simpa using ho)
    rwa [Nat.add_assoc, Nat.add_comm 1 i] at this

theorem hots_all (h : HotFrom P l kd S H X Q n a0 w0 0 (l.take n)) : ∀ i o, i < n → l[i]? = some o → StepHot P l kd S H X Q n a0 w0 i o := by
  intro i o hi ho
  have := hots_get _ _ h i o (by rw [List.getElem?_take]; simp [hi, ho])
  simpa using this

theorem hot_val {i : Nat} {o : Oper} (hk : kd i = .val) (hg : o.guard = none)
    (h : ∀ (L : Nat → Bool) (a : Act) (w : World), AtHot l kd S H X n a0 w0 i o L a w → Outcome P S a w i o) : StepHot P l kd S H X Q n a0 w0 i o := by
  intro L a w hat
  refine ⟨fun _ j hj K hK => ?_, fun h => by rw [hk] at h; cases h⟩
  have hw : j = true := by rw [← hj]; simp [Region.wanted, hg]
  rw [if_pos hw]
  exact (h L a w hat).wp (fun v w'' hS hb => hK v w'' hS hb (fun h => by rw [hk] at h; cases h))

theorem hot_fresh {i : Nat} {o : Oper} (hk : kd i = .fresh) (hg : o.guard = none)
    (h : ∀ (L : Nat → Bool) (a : Act) (w : World), AtHot l kd S H X n a0 w0 i o L a w → ∃ ob, (execOp a.eval o).run P w = .ok (.value (.pointer (some ⟨w.heap.size, 0, none⟩))) (w.alloc ob) ∧ S i (w.alloc ob) (.pointer (some ⟨w.heap.size, 0, none⟩))) : StepHot P l kd S H X Q n a0 w0 i o := by
  intro L a w hat
  refine ⟨fun _ j hj K hK => ?_, fun h => by rw [hk] at h; cases h⟩
  have hw : j = true := by rw [← hj]; simp [Region.wanted, hg]
  rw [if_pos hw]
  obtain ⟨ob, hr, hS⟩ := h L a w hat
  unfold Oper.wp
  rw [hr]
  refine hK _ _ hS ((Below.refl _ _).alloc (Nat.le_refl _) _) (fun _ g e => ?_)
  simp at e
  omega

theorem hot_store {i : Nat} {o : Oper} (hk : kd i = .hot)
    (h : ∀ (L : Nat → Bool) (a : Act) (w : World), AtHot l kd S H X n a0 w0 i o L a w → ∃ w'', (execOp a.eval o).run P w = .ok .skip w'' ∧ BelowX X w w'' ∧ H (fun k => L k || k == i) w'') : StepHot P l kd S H X Q n a0 w0 i o := by
  intro L a w hat
  exact ⟨fun h => absurd hk h, fun _ => h L a w hat⟩

/-- A store behind all that draws its order. -/
theorem tail_skip {ops : Array Oper} {o : Oper} {rest : List Oper} {a : Act} {w w' : World} (hg : o.guard = none) (hd : o.dst = none) (hr : (execOp a.eval o).run P w = .ok .skip w') (h : wpList P ops Q rest a w') : wpList P ops Q (o :: rest) a w := by
  refine wpList_plain hg (fun K hK => ?_)
  unfold Oper.wp
  rw [hr]
  show K (a.put o.dst undef) w'
  rw [hd]
  exact hK _ _ h
end
end Go.Proofs.Ytoiamaljkodlnaa
