/-
 RegionHead · RegionHot · HotV0, IN ONE TEXT.
-/
import Derived.Test.YtkhbihnnkflfkaaGreatPuts
import Derived.Test.YtkhbihnnkflfkaaGreatAnyM
/-
 A REGION THAT DRAWS ITS ORDER, BY AN INVARIANT OVER ITS FIRST n OPERATIONS (in whatever order); the others behind all of these, in the order of the text.
-/
namespace Go.Proofs.YtkhbihnnkflfkaaGreat
open Go.RowKit
set_option maxRecDepth 100000
set_option linter.unusedVariables false
set_option linter.unusedSimpArgs false

def tailB2 (l : List Oper) (n : Nat) : Bool :=
 decide (n ≤ l.length) && (decide (n = l.length) || (Region.sinkB .any l.toArray n && Region.chainB .any l.toArray n)) &&
  Region.seqB .any l.toArray (l.length - n) n ((List.range l.length).map (fun i => decide (i < n))).toArray && (List.range n).all fun i => match l[i]? with | some o => o.after.all (fun e => !Region.binds .any e || decide (e.on < i)) | none => false

section
variable {P : Program} {l : List Oper} {Q : Exit → Act → World → Prop} {n : Nat} {a0 : Act} {w0 : World}

theorem all_listed2 {listed : Array Bool} (hacyc : ∀ i, i < n → ∀ o, l[i]? = some o → ∀ e ∈ o.after, Region.binds .any e = true → e.on < i) (hn : n ≤ l.length) (inv : HeadInv .any l.toArray n listed)
  (hr : ∀ i ∈ Region.ready .any l.toArray listed, n ≤ i) : ∀ i, i < n → listed.getD i false = true := by
 intro i
 induction i using Nat.strongRecOn with
 | _ i ih =>
  intro hi
  cases hl : listed.getD i false with
  | true => rfl
  | false =>
   exfalso
   have hil : i < l.length := by omega
   have hs : i < listed.size := by rw [inv.size]; simpa using hil
   have hmem : i ∈ Region.ready .any l.toArray listed := mem_ready.2 ⟨getD_in hs hl, l[i], by simp [hil], fun e he hb =>
    ih e.on (hacyc i hi l[i] (by simp [hil]) e he hb) (by have := hacyc i hi l[i] (by simp [hil]) e he hb; omega)⟩
   have := hr i hmem
   omega

theorem region_headA (n : Nat) (I : (Nat → Bool) → Act → World → Prop) (hm : P.follows .mixedOrders = true) (ht : tailB2 l n = true)
  (h0 : I (fun _ => false) a0 w0.drew)
  (hstep : ∀ i o, i < n → l[i]? = some o → ∀ (L : Nat → Bool) (a : Act) (w : World), I L a w → L i = false → (∀ j oj, l[j]? = some oj → L j = true → ∀ e ∈ oj.after, Region.binds .any e = true → L e.on = true) →
   (∀ e ∈ o.after, Region.binds .any e = true → L e.on = true) → (∀ k, L k = true → k < n) →
   ∀ j, Region.wanted o (yielded l.toArray a.tmps) = j → ∀ K : Act → World → Prop, (∀ a' w', I (fun k => L k || k == i) a' w' → K a' w') → if j = true then Oper.wp P o a w K Q else K (a.put o.dst undef) w)
  (hend : ∀ (L : Nat → Bool) (a : Act) (w : World), I L a w → (∀ i, i < n → L i = true) → wpList P l.toArray Q (l.drop n) a w) : wpAny P .any l.toArray Q l.toArray.size (Array.replicate l.toArray.size false) a0 w0.drew := by
 simp only [tailB2, Bool.and_eq_true, decide_eq_true_eq, Bool.or_eq_true] at ht
 obtain ⟨⟨⟨hn, hsc⟩, hseq⟩, hac⟩ := ht
 have hacyc : ∀ i, i < n → ∀ o, l[i]? = some o → ∀ e ∈ o.after, Region.binds .any e = true → e.on < i := by
  intro i hi o ho e he hb
  have h1 := List.all_eq_true.1 hac i (List.mem_range.2 hi)
  simp only [ho] at h1
  have := Array.all_eq_true'.1 h1 e he
  simpa [hb] using this
 have wait : ∀ listed, HeadInv .any l.toArray n listed → ∀ i, i < n → listed.getD i true = false → ∀ t, n ≤ t → t ∉ Region.ready .any l.toArray listed := by
  intro listed inv i hi hun t htn
  rcases hsc with he | ⟨hs, hc⟩
  ·intro hr
   obtain ⟨_, o, ho, _⟩ := mem_ready.1 hr
   have := (Array.getElem?_eq_some_iff.1 ho).1
   simp at this
   omega
  ·by_cases hlt : n < l.length
   ·exact tail_waits hs hc (by simpa using hlt) inv _ i rfl hi hun t htn
   ·intro hr
    obtain ⟨_, o, ho, _⟩ := mem_ready.1 hr
    have := (Array.getElem?_eq_some_iff.1 ho).1
    simp at this
    omega
 have low : ∀ listed, HeadInv .any l.toArray n listed → ∀ k, listed.getD k false = true → k < n := by
  intro listed inv k hk
  rcases Nat.lt_or_ge k n with h | h
  ·exact h
  ·exfalso
   by_cases hkl : k < l.length
   ·have := inv.tail k h (by simpa using hkl)
    have hs : k < listed.size := by rw [inv.size]; simpa using hkl
    simp [hs] at this hk
    rw [this] at hk; cases hk
   ·have hs : listed.size ≤ k := by rw [inv.size]; simpa using Nat.le_of_not_lt hkl
    simp [Array.getElem?_eq_none hs] at hk
 have fin : ∀ (listed : Array Bool) (a : Act) (w : World), HeadInv .any l.toArray n listed → I (fun i => listed.getD i false) a w → (∀ i, i < n → listed.getD i false = true) → wpAny P .any l.toArray Q (l.length - n) listed a w := by
  intro listed a w inv hI hall
  have hlist : listed = ((List.range l.length).map (fun i => decide (i < n))).toArray := by
   apply Array.ext
   ·rw [inv.size]; simp
   ·intro i h1 h2
    have hil : i < l.length := by simpa using h2
    simp only [List.getElem_toArray, List.getElem_map, List.getElem_range]
    by_cases hi : i < n
    ·have := hall i hi
     simp [h1] at this
     simp [this, hi]
    ·have := inv.tail i (by omega) (by simpa using hil)
     simp [h1] at this
     simp [this, hi]
  have H := hend _ a w hI (fun i hi => hall i hi)
  have := wpAny_of_seq (md := .any) (Q' := Q) (l.drop n) n listed a w (fun j => by simp [List.getElem?_drop]) (by rw [hlist]; simpa using hseq) H
  simpa using this
 have main : ∀ (f : Nat) (listed : Array Bool) (a : Act) (w : World), HeadInv .any l.toArray n listed → I (fun i => listed.getD i false) a w → ((List.range n).filter (fun i => !listed.getD i true)).length = f → wpAny P .any l.toArray Q (f + (l.length - n)) listed a w := by
  intro f
  induction f with
  | zero =>
   intro listed a w inv hI hf
   rw [Nat.zero_add]
   refine fin listed a w inv hI (fun i hi => ?_)
   have h0 := List.eq_nil_of_length_eq_zero hf
   cases hl : listed.getD i false with
   | true => rfl
   | false =>
    exfalso
    have hs : i < listed.size := by rw [inv.size]; simp; omega
    have : i ∈ (List.range n).filter (fun i => !listed.getD i true) := List.mem_filter.2 ⟨List.mem_range.2 hi, by rw [getD_in hs hl]; rfl⟩
    rw [h0] at this
    cases this
  | succ f ih =>
   intro listed a w inv hI hf
   have hex : ∃ i, i < n ∧ listed.getD i true = false := by
    cases hc : (List.range n).filter (fun i => !listed.getD i true) with
    | nil => rw [hc] at hf; cases hf
    | cons x xs =>
     have hx : x ∈ (List.range n).filter (fun i => !listed.getD i true) := by rw [hc]; simp
     obtain ⟨h1, h2⟩ := List.mem_filter.1 hx
     exact ⟨x, List.mem_range.1 h1, by simpa using h2⟩
   obtain ⟨i0, hi0, hun0⟩ := hex
   have hlow : ∀ i ∈ Region.ready .any l.toArray listed, i < n := fun i hi => by
    rcases Nat.lt_or_ge i n with h | h
    ·exact h
    ·exact absurd hi (wait listed inv i0 hi0 hun0 i h)
   rw [show f + 1 + (l.length - n) = (f + (l.length - n)) + 1 by omega]
   refine ⟨fun hr => ?_, fun i hi => ?_⟩
   ·exfalso
    have := all_listed2 hacyc hn inv (fun i hi => by rw [hr] at hi; cases hi) i0 hi0
    have hs : i0 < listed.size := by rw [inv.size]; simp; omega
    simp [hs] at this hun0
    rw [this] at hun0
    cases hun0
   ·have hin := hlow i hi
    obtain ⟨hun, o, ho, hall⟩ := mem_ready.1 hi
    have hol : l[i]? = some o := by simpa using ho
    have hs : i < listed.size := by rw [inv.size]; simp; omega
    have hunf : listed.getD i false = false := by simpa [hs] using hun
    have key : ∀ a' w', I (fun k => listed.getD k false || k == i) a' w' → wpAny P .any l.toArray Q (f + (l.length - n)) (listed.setIfInBounds i true) a' w' := by
     intro a' w' hI'
     have e : (fun k => (listed.setIfInBounds i true).getD k false) = (fun k => listed.getD k false || k == i) := by
      funext k
      by_cases hk : i = k
      ·subst hk; simp [hs]
      ·have hk' : ¬ k = i := fun e => hk e.symm
       rw [getD_set_ne false hk]; simp [hk']
     refine ih _ _ _ (inv.set hi hin) (by rw [e]; exact hI') ?_
     have hcount : ((List.range n).filter (fun k => !listed.getD k true)).length = ((List.range n).filter (fun k => !(listed.setIfInBounds i true).getD k true)).length + 1 := by
      have hp : ∀ m : List Nat, m.Nodup → i ∈ m → (m.filter (fun k => !listed.getD k true)).length = (m.filter (fun k => !(listed.setIfInBounds i true).getD k true)).length + 1 := by
       intro m
       induction m with
       | nil => intro _ hm'; cases hm'
       | cons x xs ihx =>
        intro hnd hm'
        obtain ⟨hx, hxs⟩ := List.nodup_cons.1 hnd
        by_cases hxi : x = i
        ·subst hxi
         have hrest : xs.filter (fun k => !listed.getD k true) = xs.filter (fun k => !(listed.setIfInBounds x true).getD k true) := by
          refine List.filter_congr (fun k hk => ?_)
          have hne : x ≠ k := fun e => hx (e ▸ hk)
          rw [getD_set_ne true hne]
         rw [List.filter_cons_of_pos (by rw [hun]; rfl), List.filter_cons_of_neg (by rw [getD_set_true' hs]; simp), hrest]
         rfl
        ·have hm2 : i ∈ xs := (List.mem_cons.1 hm').resolve_left (fun e => hxi e.symm)
         have hih := ihx hxs hm2
         have hne : i ≠ x := fun e => hxi e.symm
         by_cases hv : listed.getD x true = true
         ·rw [List.filter_cons_of_neg (by rw [hv]; simp), List.filter_cons_of_neg (by rw [getD_set_ne true hne, hv]; simp)]
          exact hih
         ·have hv' : listed.getD x true = false := by simpa using hv
          rw [List.filter_cons_of_pos (by rw [hv']; rfl), List.filter_cons_of_pos (by rw [getD_set_ne true hne, hv']; rfl), List.length_cons, List.length_cons, hih]
      exact hp (List.range n) List.nodup_range (List.mem_range.2 hin)
     omega
    have H := hstep i o hin hol _ a w hI hunf (fun j oj hj hl e he hb => inv.closed j oj (by simpa using hj) hl e he hb) (fun e he hb => hall e he hb) (fun k hk => low listed inv k hk) _ rfl _ key
    unfold wpOp
    simp only [ho]
    split
    ·rename_i hw
     rw [if_pos hw] at H
     exact .inl H
    ·rename_i hw
     rw [if_neg hw] at H
     exact H
 have e0 : (fun i => (Array.replicate l.toArray.size false).getD i false) = (fun _ => false) := by funext i; exact getD_replicate_false _ _
 have h := main n (Array.replicate l.toArray.size false) a0 w0.drew
  ⟨by simp, fun j oj _ hl => (by rw [getD_replicate_false] at hl; cases hl), fun t _ ht' => getD_in (by simpa using ht') (getD_replicate_false _ _)⟩ (by rw [e0]; exact h0) (by
   have hfull : (List.range n).filter (fun i => !(Array.replicate l.toArray.size false).getD i true) = List.range n := List.filter_eq_self.2 (fun i hi => by
    have : i < l.length := by have := List.mem_range.1 hi; omega
    simp [this])
   rw [hfull]; simp)
 have hsize : n + (l.length - n) = l.toArray.size := by simp; omega
 rw [hsize] at h
 exact h

end
end Go.Proofs.YtkhbihnnkflfkaaGreat
/-
 A REGION THAT DRAWS ITS ORDER: operations that yield values (calls that make memory among them), new variables, and stores into blocks that were there ('hot'); behind them stores in the order of the text.
-/
namespace Go.Proofs.YtkhbihnnkflfkaaGreat
open Go.RowKit
set_option maxRecDepth 100000
set_option linter.unusedVariables false
set_option linter.unusedSimpArgs false

variable {X : Nat → Prop} {w w' : World} {i m : Nat} {o : Oper}
structure BelowX (X : Nat → Prop) (w w' : World) : Prop where
 os : w'.os = w.os
 tape : w'.tape = w.tape
 output : w'.output = w.output
 size : w.heap.size ≤ w'.heap.size
 block : ∀ k, k < w.heap.size → ¬ X k → w'.heap[k]? = w.heap[k]?

theorem BelowX.refl (X : Nat → Prop) (w : World) : BelowX X w w := ⟨rfl, rfl, rfl, Nat.le_refl _, fun _ _ _ => rfl⟩
theorem BelowX.trans {w1 w2 : World} (h : BelowX X w w1) (h2 : BelowX X w1 w2) : BelowX X w w2 :=
 ⟨h2.os.trans h.os, h2.tape.trans h.tape, h2.output.trans h.output, Nat.le_trans h.size h2.size, fun k hk hx => (h2.block k (Nat.lt_of_lt_of_le hk h.size) hx).trans (h.block k hk hx)⟩
theorem BelowX.of (h : Below w.heap.size w w') : BelowX X w w' := ⟨h.os, h.tape, h.output, h.size, fun k hk _ => h.block k hk⟩
theorem BelowX.none (h : BelowX (fun _ => False) w w') : Below w.heap.size w w' := ⟨h.os, h.tape, h.output, h.size, fun k hk => h.block k hk (fun h => h)⟩
theorem BelowX.blk {g : Nat} {cur : Array Value} {T : TypeId} (hb : BelowX X w w') (h : Blk w g cur T) (hx : ¬ X g) : Blk w' g cur T := (hb.block g h.lt hx).trans h
theorem BelowX.below {B : Nat} {w0 : World} (hb : BelowX X w w') (h : Below B w0 w) (hB : B ≤ w.heap.size) (hX : ∀ k, X k → B ≤ k) : Below B w0 w' :=
 ⟨hb.os.trans h.os, hb.tape.trans h.tape, hb.output.trans h.output, Nat.le_trans h.size hb.size, fun k hk => (hb.block k (by omega) (fun hx => by have := hX k hx; omega)).trans (h.block k hk)⟩

inductive HK where
 | val
 | fresh
 | hot
 deriving DecidableEq

def dstsB2 (l : List Oper) (kd : Nat → HK) (n m : Nat) : Bool :=
 (List.range n).all fun i => match kd i, dstOf l i with
  | .hot, d => d == none && (match l[i]? with | some o => o.guard == none | none => false)
  | _, some d => decide (d < m) && (List.range n).all fun j => i == j || dstOf l j != some d
  | _, none => false

structure InvHot (l : List Oper) (kd : Nat → HK) (S : Nat → World → Value → Prop) (H : (Nat → Bool) → World → Prop) (X : Nat → Prop) (n : Nat) (a0 : Act) (w0 : World) (L : Nat → Bool) (a : Act) (w : World) : Prop where
 tmps : a.tmps.size = a0.tmps.size
 defers : a.defers = a0.defers
 grow : BelowX X w0 w
 others : ∀ t, (∀ j, j < n → dstOf l j ≠ some t) → a.eval (.tmp t) = a0.eval (.tmp t)
 vals : ∀ i, i < n → kd i ≠ .hot → L i = true → ∀ d, dstOf l i = some d → S i w (a.eval (.tmp d))
 hot : H L w
 apart : ∀ i j d d', i < n → j < n → kd i = .fresh → kd j = .fresh → i ≠ j → L i = true → L j = true → dstOf l i = some d → dstOf l j = some d' → a.eval (.tmp d) ≠ a.eval (.tmp d')

structure AtHot (l : List Oper) (kd : Nat → HK) (S : Nat → World → Value → Prop) (H : (Nat → Bool) → World → Prop) (X : Nat → Prop) (n : Nat) (a0 : Act) (w0 : World) (i : Nat) (o : Oper) (L : Nat → Bool) (a : Act) (w : World) : Prop where
 grow : BelowX X w0 w
 others : ∀ t, (∀ j, j < n → dstOf l j ≠ some t) → a.eval (.tmp t) = a0.eval (.tmp t)
 deps : ∀ e ∈ o.after, Region.binds .any e = true → ∀ d, kd e.on ≠ .hot → dstOf l e.on = some d → S e.on w (a.eval (.tmp d))
 hot : H L w
 later : ∀ s os, l[s]? = some os → os.after.any (fun e => Region.binds .any e && e.on == i) = true → L s = false
 before : ∀ s, o.after.any (fun e => Region.binds .any e && e.on == s) = true → L s = true

def StepHot (P : Program) (l : List Oper) (kd : Nat → HK) (S : Nat → World → Value → Prop) (H : (Nat → Bool) → World → Prop) (X : Nat → Prop) (Q : Exit → Act → World → Prop) (n : Nat) (a0 : Act) (w0 : World) (i : Nat) (o : Oper) : Prop :=
 ∀ (L : Nat → Bool) (a : Act) (w : World), AtHot l kd S H X n a0 w0 i o L a w →
  (kd i ≠ .hot → ∀ j, Region.wanted o (yielded l.toArray a.tmps) = j → ∀ K : Act → World → Prop,
   (∀ v w'', S i w'' v → Below w.heap.size w w'' → (kd i = .fresh → ∀ g, v = .pointer (some ⟨g, 0, none⟩) → w.heap.size ≤ g) → K (a.put o.dst v) w'') → if j = true then Oper.wp P o a w K Q else K (a.put o.dst undef) w) ∧
  (kd i = .hot → ∃ w'', (execOp a.eval o).run P w = .ok .skip w'' ∧ BelowX X w w'' ∧ H (fun k => L k || k == i) w'')

section
variable {P : Program} {l : List Oper} {kd : Nat → HK} {S : Nat → World → Value → Prop} {H : (Nat → Bool) → World → Prop} {X : Nat → Prop} {Q : Exit → Act → World → Prop} {n : Nat} {a0 : Act} {w0 : World}

theorem dstsB2_val (hd : dstsB2 l kd n m = true) (hi : i < n) (hk : kd i ≠ .hot) : ∃ d, dstOf l i = some d ∧ d < m ∧ ∀ j, j < n → i ≠ j → dstOf l j ≠ some d := by
 have h1 := List.all_eq_true.1 hd i (List.mem_range.2 hi)
 cases hdi : dstOf l i with
 | none => exfalso; cases hki : kd i <;> simp [hki, hdi] at h1 hk
 | some d =>
  have h2 : (decide (d < m) && (List.range n).all fun j => i == j || dstOf l j != some d) = true := by
   cases hki : kd i <;> simp [hki, hdi] at h1 hk ⊢ <;> exact h1
  simp only [Bool.and_eq_true, decide_eq_true_eq] at h2
  refine ⟨d, rfl, h2.1, fun j hj hij => ?_⟩
  have h3 := List.all_eq_true.1 h2.2 j (List.mem_range.2 hj)
  simp only [Bool.or_eq_true, beq_iff_eq, bne_iff_ne] at h3
  exact h3.resolve_left hij
theorem dstsB2_hot (hd : dstsB2 l kd n m = true) (hi : i < n) (hk : kd i = .hot) (ho : l[i]? = some o) : o.dst = none ∧ o.guard = none := by
 have h1 := List.all_eq_true.1 hd i (List.mem_range.2 hi)
 simp only [hk, ho, dstOf, Bool.and_eq_true, beq_iff_eq] at h1
 exact ⟨by simpa using h1.1, h1.2⟩

theorem region_hotA (n : Nat) (kd : Nat → HK) (S : Nat → World → Value → Prop) (H : (Nat → Bool) → World → Prop) (X : Nat → Prop) (hm : P.follows .mixedOrders = true) (hd : dstsB2 l kd n a0.tmps.size = true) (ht : tailB2 l n = true)
  (hS : ∀ i w w' v, S i w v → BelowX X w w' → S i w' v)
  (hHb : ∀ L w w', H L w → Below w.heap.size w w' → H L w')
  (hHv : ∀ L i w, kd i ≠ .hot → H L w → H (fun k => L k || k == i) w)
  (hfr : ∀ i w v, kd i = .fresh → S i w v → ∃ g, v = .pointer (some ⟨g, 0, none⟩) ∧ g < w.heap.size)
  (h0 : H (fun _ => false) w0)
  (hstep : ∀ i o, i < n → l[i]? = some o → StepHot P l kd S H X Q n a0 w0 i o)
  (hend : ∀ (L : Nat → Bool) (a' : Act) (w' : World), BelowX X w0 w' → a'.tmps.size = a0.tmps.size → a'.defers = a0.defers → (∀ t, (∀ j, j < n → dstOf l j ≠ some t) → a'.eval (.tmp t) = a0.eval (.tmp t)) →
   (∀ i, i < n → kd i ≠ .hot → ∀ d, dstOf l i = some d → S i w' (a'.eval (.tmp d))) → (∀ i, i < n → L i = true) → H L w' →
   (∀ i j d d', i < n → j < n → kd i = .fresh → kd j = .fresh → i ≠ j → dstOf l i = some d → dstOf l j = some d' → a'.eval (.tmp d) ≠ a'.eval (.tmp d')) → wpList P l.toArray Q (l.drop n) a' w') : wpAny P .any l.toArray Q l.toArray.size (Array.replicate l.toArray.size false) a0 w0.drew := by
 refine region_headA n (InvHot l kd S H X n a0 w0) hm ht ⟨rfl, rfl, ⟨rfl, rfl, rfl, Nat.le_refl _, fun _ _ _ => rfl⟩, fun _ _ => rfl, fun _ _ _ h => (by cases h), hHb _ _ _ h0 ((Below.refl _ _).drew), fun _ _ _ _ _ _ _ _ _ h => (by cases h)⟩ ?_ ?_
 ·intro i o hi ho L a w inv hun hcl hdep hlow j hj K hK
  have hlat : ∀ s os, l[s]? = some os → os.after.any (fun e => Region.binds .any e && e.on == i) = true → L s = false := by
   intro s os hs hany
   cases hLs : L s with
   | false => rfl
   | true =>
    obtain ⟨e, he, hb⟩ := Array.any_eq_true'.1 hany
    simp only [Bool.and_eq_true, beq_iff_eq] at hb
    have := hcl s os hs hLs e he hb.1
    rw [hb.2, hun] at this
    cases this
  have hbef : ∀ s, o.after.any (fun e => Region.binds .any e && e.on == s) = true → L s = true := by
   intro s hany
   obtain ⟨e, he, hb⟩ := Array.any_eq_true'.1 hany
   simp only [Bool.and_eq_true, beq_iff_eq] at hb
   have := hdep e he hb.1
   rwa [hb.2] at this
  have hat : AtHot l kd S H X n a0 w0 i o L a w := ⟨inv.grow, inv.others, fun e he hb d hk hd' => inv.vals e.on (hlow _ (hdep e he hb)) hk (hdep e he hb) d hd', inv.hot, hlat, hbef⟩
  obtain ⟨hv, hh⟩ := hstep i o hi ho L a w hat
  by_cases hk : kd i = .hot
  ·obtain ⟨hod, hog⟩ := dstsB2_hot hd hi hk ho
   have hjt : j = true := by rw [← hj]; simp [Region.wanted, hog]
   rw [if_pos hjt]
   obtain ⟨w'', hr, hbx, hH⟩ := hh hk
   unfold Oper.wp
   rw [hr]
   have e : a.put o.dst undef = a := by rw [hod]; rfl
   show K (a.put o.dst undef) w''
   rw [e]
   have hne : ∀ i', i' < n → kd i' ≠ .hot → i' ≠ i := fun i' _ h e => h (e ▸ hk)
   refine hK _ _ ⟨inv.tmps, inv.defers, inv.grow.trans hbx, inv.others, fun i' hi' hk' hL d hd' => ?_, hH, fun i1 i2 d d' h1 h2 k1 k2 hne' hL1 hL2 e1 e2 => ?_⟩
   ·exact hS _ _ _ _ (inv.vals i' hi' hk' (by simpa [hne i' hi' hk'] using hL) d hd') hbx
   ·have n1 := hne i1 h1 (by rw [k1]; decide)
    have n2 := hne i2 h2 (by rw [k2]; decide)
    exact inv.apart i1 i2 d d' h1 h2 k1 k2 hne' (by simpa [n1] using hL1) (by simpa [n2] using hL2) e1 e2
  ·obtain ⟨d, hdi, hdl, hdne⟩ := dstsB2_val hd hi hk
   have hod : o.dst = some d := by simpa [dstOf, ho] using hdi
   refine hv hk j hj K (fun v w'' hSv hb hfresh => hK _ _ ?_)
   rw [hod]
   have hsame : (a.put (some d) v).eval (.tmp d) = v := eval_put_same (by rw [inv.tmps]; exact hdl)
   have hoth : ∀ i' d', i' < n → i' ≠ i → dstOf l i' = some d' → (a.put (some d) v).eval (.tmp d') = a.eval (.tmp d') := fun i' d' hi' hne hd' => eval_put_other (fun e => hdne i' hi' (fun h => hne h.symm) (by rw [hd', e]))
   refine ⟨by simpa [Act.put] using inv.tmps, inv.defers, inv.grow.trans (BelowX.of hb), fun t htn => ?_, fun i' hi' hk' hL d' hd' => ?_, hHv _ i _ hk (hHb _ _ _ inv.hot hb), fun i1 i2 d1 d2 h1 h2 k1 k2 hne' hL1 hL2 e1 e2 => ?_⟩
   ·rw [eval_put_other (fun e => htn i hi (by rw [hdi, e]))]
    exact inv.others t htn
   ·by_cases hii : i' = i
    ·subst hii
     rw [hdi] at hd'
     cases hd'
     rw [hsame]; exact hSv
    ·rw [hoth i' d' hi' hii hd']
     exact hS _ _ _ _ (inv.vals i' hi' hk' (by simpa [hii] using hL) d' hd') (BelowX.of hb)
   ·by_cases n1 : i1 = i
    ·by_cases n2 : i2 = i
     ·exact absurd (n1.trans n2.symm) hne'
     ·subst n1
      rw [hdi] at e1
      cases e1
      rw [hsame, hoth i2 d2 h2 n2 e2]
      have hL2' : L i2 = true := by simpa [n2] using hL2
      obtain ⟨g, hg, hgl⟩ := hfr i2 w _ k2 (inv.vals i2 h2 (by rw [k2]; decide) hL2' d2 e2)
      intro e
      rw [hg] at e
      have := hfresh k1 g e
      omega
    ·by_cases n2 : i2 = i
     ·subst n2
      rw [hdi] at e2
      cases e2
      rw [hsame, hoth i1 d1 h1 n1 e1]
      have hL1' : L i1 = true := by simpa [n1] using hL1
      obtain ⟨g, hg, hgl⟩ := hfr i1 w _ k1 (inv.vals i1 h1 (by rw [k1]; decide) hL1' d1 e1)
      intro e
      rw [hg] at e
      have := hfresh k2 g e.symm
      omega
     ·rw [hoth i1 d1 h1 n1 e1, hoth i2 d2 h2 n2 e2]
      exact inv.apart i1 i2 d1 d2 h1 h2 k1 k2 hne' (by simpa [n1] using hL1) (by simpa [n2] using hL2) e1 e2
 ·intro L a w inv hall
  exact hend L a w inv.grow inv.tmps inv.defers inv.others (fun i hi hk d hd' => inv.vals i hi hk (hall i hi) d hd') hall inv.hot (fun i j d d' hi hj k1 k2 hne e1 e2 => inv.apart i j d d' hi hj k1 k2 hne (hall i hi) (hall j hj) e1 e2)
theorem region_hot {id : Nat} (n : Nat) (kd : Nat → HK) (S : Nat → World → Value → Prop) (H : (Nat → Bool) → World → Prop) (X : Nat → Prop) (hm : P.follows .mixedOrders = true) (hd : dstsB2 l kd n a0.tmps.size = true) (ht : tailB2 l n = true)
  (hS : ∀ i w w' v, S i w v → BelowX X w w' → S i w' v)
  (hHb : ∀ L w w', H L w → Below w.heap.size w w' → H L w')
  (hHv : ∀ L i w, kd i ≠ .hot → H L w → H (fun k => L k || k == i) w)
  (hfr : ∀ i w v, kd i = .fresh → S i w v → ∃ g, v = .pointer (some ⟨g, 0, none⟩) ∧ g < w.heap.size)
  (h0 : H (fun _ => false) w0)
  (hstep : ∀ i o, i < n → l[i]? = some o → StepHot P l kd S H X Q n a0 w0 i o)
  (hend : ∀ (L : Nat → Bool) (a' : Act) (w' : World), BelowX X w0 w' → a'.tmps.size = a0.tmps.size → a'.defers = a0.defers → (∀ t, (∀ j, j < n → dstOf l j ≠ some t) → a'.eval (.tmp t) = a0.eval (.tmp t)) →
   (∀ i, i < n → kd i ≠ .hot → ∀ d, dstOf l i = some d → S i w' (a'.eval (.tmp d))) → (∀ i, i < n → L i = true) → H L w' →
   (∀ i j d d', i < n → j < n → kd i = .fresh → kd j = .fresh → i ≠ j → dstOf l i = some d → dstOf l j = some d' → a'.eval (.tmp d) ≠ a'.eval (.tmp d')) → wpList P l.toArray Q (l.drop n) a' w') : (Code.region id l.toArray true).wp P Q a0 w0 := wp_region_any hm (region_hotA n kd S H X hm hd ht hS hHb hHv hfr h0 hstep hend)


def HotFrom (P : Program) (l : List Oper) (kd : Nat → HK) (S : Nat → World → Value → Prop) (H : (Nat → Bool) → World → Prop) (X : Nat → Prop) (Q : Exit → Act → World → Prop) (n : Nat) (a : Act) (w : World) : Nat → List Oper → Prop
 | _, [] => True
 | k, o :: r => StepHot P l kd S H X Q n a w k o ∧ HotFrom P l kd S H X Q n a w (k + 1) r

theorem hots_get : ∀ (r : List Oper) (k : Nat), HotFrom P l kd S H X Q n a0 w0 k r → ∀ i o, r[i]? = some o → StepHot P l kd S H X Q n a0 w0 (k + i) o
 | [], _, _, i, o, h => by simp at h
 | x :: r, k, h, 0, o, ho => by
  simp at ho; subst ho; exact h.1
 | x :: r, k, h, i + 1, o, ho => by
  have := hots_get r (k + 1) h.2 i o (by simpa using ho)
  rwa [Nat.add_assoc, Nat.add_comm 1 i] at this

theorem hots_all (h : HotFrom P l kd S H X Q n a0 w0 0 (l.take n)) : ∀ i o, i < n → l[i]? = some o → StepHot P l kd S H X Q n a0 w0 i o := by
 intro i o hi ho
 have := hots_get _ _ h i o (by rw [List.getElem?_take]; simp [hi, ho])
 simpa using this

theorem hot_val (hk : kd i = .val) (hg : o.guard = none)
  (h : ∀ (L : Nat → Bool) (a : Act) (w : World), AtHot l kd S H X n a0 w0 i o L a w → Outcome P S a w i o) : StepHot P l kd S H X Q n a0 w0 i o := by
 intro L a w hat
 refine ⟨fun _ j hj K hK => ?_, fun h => by rw [hk] at h; cases h⟩
 have hw : j = true := by rw [← hj]; simp [Region.wanted, hg]
 rw [if_pos hw]
 exact (h L a w hat).wp (fun v w'' hS hb => hK v w'' hS hb (fun h => by rw [hk] at h; cases h))

theorem hot_fresh (hk : kd i = .fresh) (hg : o.guard = none)
  (h : ∀ (L : Nat → Bool) (a : Act) (w : World), AtHot l kd S H X n a0 w0 i o L a w → ∃ ob, (execOp a.eval o).run P w = .ok (.value (.pointer (some ⟨w.heap.size, 0, none⟩))) (w.alloc ob) ∧ S i (w.alloc ob) (.pointer (some ⟨w.heap.size, 0, none⟩))) : StepHot P l kd S H X Q n a0 w0 i o := by
 intro L a w hat
 refine ⟨fun _ j hj K hK => ?_, fun h => by rw [hk] at h; cases h⟩
 have hw : j = true := by rw [← hj]; simp [Region.wanted, hg]
 rw [if_pos hw]
 obtain ⟨ob, hr, hS⟩ := h L a w hat
 unfold Oper.wp
 rw [hr]
 refine hK _ _ hS ((Below.refl _ _).alloc (Nat.le_refl _) _) (fun _ g e => ?_)
 simp at e
 omega

theorem hot_store (hk : kd i = .hot)
  (h : ∀ (L : Nat → Bool) (a : Act) (w : World), AtHot l kd S H X n a0 w0 i o L a w → ∃ w'', (execOp a.eval o).run P w = .ok .skip w'' ∧ BelowX X w w'' ∧ H (fun k => L k || k == i) w'') : StepHot P l kd S H X Q n a0 w0 i o := by
 intro L a w hat
 exact ⟨fun h => absurd hk h, fun _ => h L a w hat⟩

theorem tail_skip {ops : Array Oper} {rest : List Oper} {a : Act} (hg : o.guard = none) (hd : o.dst = none) (hr : (execOp a.eval o).run P w = .ok .skip w') (h : wpList P ops Q rest a w') : wpList P ops Q (o :: rest) a w := by
 refine wpList_plain hg (fun K hK => ?_)
 unfold Oper.wp
 rw [hr]
 show K (a.put o.dst undef) w'
 rw [hd]
 exact hK _ _ h
end
end Go.Proofs.YtkhbihnnkflfkaaGreat
/-
 region_hot, with the frame behind it by puts.
-/
namespace Go.Proofs.YtkhbihnnkflfkaaGreat
open Go.RowKit
set_option maxRecDepth 100000
set_option linter.unusedVariables false
set_option linter.unusedSimpArgs false

variable {Q : Exit → Act → World → Prop} {S : Nat → World → Value → Prop} {a : Act} {w : World} {i : Nat} {o : Oper} {v : Value}
theorem region_hotV {P : Program} {l : List Oper} {a0 : Act} {w0 : World} {id : Nat} (n : Nat) (kd : Nat → HK) (S : Nat → World → Value → Prop) (H : (Nat → Bool) → World → Prop) (X : Nat → Prop) (ds : List Tmp)
  (hds : dstsOf (l.take n) = ds) (hm : P.follows .mixedOrders = true) (hd : dstsB2 l kd n a0.tmps.size = true) (ht : tailB2 l n = true) (hlt : (ds.all fun d => decide (d < a0.tmps.size)) = true)
  (hS : ∀ i w w' v, S i w v → BelowX X w w' → S i w' v)
  (hHb : ∀ L w w', H L w → Below w.heap.size w w' → H L w')
  (hHv : ∀ L i w, kd i ≠ .hot → H L w → H (fun k => L k || k == i) w)
  (hfr : ∀ i w v, kd i = .fresh → S i w v → ∃ g, v = .pointer (some ⟨g, 0, none⟩) ∧ g < w.heap.size)
  (h0 : H (fun _ => false) w0)
  (hstep : ∀ i o, i < n → l[i]? = some o → StepHot P l kd S H X Q n a0 w0 i o)
  (hend : ∀ (L : Nat → Bool) (g : Tmp → Value) (w' : World), BelowX X w0 w' → (∀ i, i < n → kd i ≠ .hot → ∀ d, dstOf l i = some d → S i w' (g d)) → (∀ i, i < n → L i = true) → H L w' →
   (∀ i j d d', i < n → j < n → kd i = .fresh → kd j = .fresh → i ≠ j → dstOf l i = some d → dstOf l j = some d' → g d ≠ g d') → wpList P l.toArray Q (l.drop n) (puts a0 (ds.map fun d => (d, g d))) w') :
  (Code.region id l.toArray true).wp P Q a0 w0 := by
 refine region_hot n kd S H X hm hd ht hS hHb hHv hfr h0 hstep (fun L a w hb hsz hdf hO hV hall hH hap => ?_)
 have hfree : ∀ t, t ∉ ds → ∀ j, j < n → dstOf l j ≠ some t := by
  intro t htn j hj e
  refine htn ?_
  rw [← hds]
  unfold dstOf at e
  cases ho : l[j]? with
  | none => rw [ho] at e; cases e
  | some o =>
   rw [ho] at e
   exact List.mem_filterMap.2 ⟨o, List.mem_of_getElem? (i := j) (by rw [List.getElem?_take, if_pos hj]; exact ho), e⟩
 have hfr := frame_puts ds hsz hdf (fun t htn => hO t (hfree t htn)) (fun d hd => by simpa using List.all_eq_true.1 hlt d hd)
 rw [hfr]
 exact hend L (fun d => a.eval (.tmp d)) w hb hV hall hH hap

theorem out_of {P : Program} (h : (execOp a.eval o).run P w = .ok (.value v) w) (hS : S i w v) : Outcome P S a w i o :=
 .inl ⟨v, w, h, hS, Below.refl _ _⟩

theorem out_ex {P : Program} {R : Value → Prop} (h : ∃ v, (execOp a.eval o).run P w = .ok (.value v) w ∧ R v) (k : ∀ v, R v → S i w v) : Outcome P S a w i o := by
 obtain ⟨v, hr, hR⟩ := h
 exact .inl ⟨v, w, hr, k v hR, Below.refl _ _⟩

theorem fresh_ex {P : Program} {R : Obj → Prop} (h : ∃ ob, (execOp a.eval o).run P w = .ok (.value (.pointer (some ⟨w.heap.size, 0, none⟩))) (w.alloc ob) ∧ R ob) (k : ∀ ob, R ob → S i (w.alloc ob) (.pointer (some ⟨w.heap.size, 0, none⟩))) :
  ∃ ob, (execOp a.eval o).run P w = .ok (.value (.pointer (some ⟨w.heap.size, 0, none⟩))) (w.alloc ob) ∧ S i (w.alloc ob) (.pointer (some ⟨w.heap.size, 0, none⟩)) := by
 obtain ⟨ob, hr, hR⟩ := h
 exact ⟨ob, hr, k ob hR⟩

theorem hot_ex {P : Program} {X : Nat → Prop} {R H : World → Prop} (h : ∃ w', (execOp a.eval o).run P w = .ok .skip w' ∧ R w' ∧ BelowX X w w') (k : ∀ w', R w' → H w') : ∃ w', (execOp a.eval o).run P w = .ok .skip w' ∧ BelowX X w w' ∧ H w' := by
 obtain ⟨w', hr, hR, hb⟩ := h
 exact ⟨w', hr, hb, k w' hR⟩

theorem ptr_ne {g g' : Nat} (h : Value.pointer (some ⟨g, 0, none⟩) ≠ Value.pointer (some ⟨g', 0, none⟩)) : g ≠ g' := fun e => h (by rw [e])

theorem tail_val {ops : Array Oper} {rest : List Oper} (hg : o.guard = none) (hr : (execOp a.eval o).run Tryz.prog w = .ok (.value v) w) (h : wpList Tryz.prog ops Q rest (a.put o.dst v) w) : wpList Tryz.prog ops Q (o :: rest) a w := by
 refine wpList_plain hg (fun K hK => ?_)
 unfold Oper.wp
 rw [hr]
 exact hK _ _ h

end Go.Proofs.YtkhbihnnkflfkaaGreat
