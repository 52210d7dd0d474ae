/-
  RegionInv · RegionMem · RegionMem2 · RegionMem3 · AnyOrder3, IN ONE TEXT.
-/
import Derived.Test.YtikjcikedbcfmaaAnyM
import Derived.Test.YtikjcikedbcfmaaFldM
import Derived.Test.YtikjcikedbcfmaaPuts
import Derived.Test.YtikjcikedbcfmaaInvV
/-
  A REGION THAT DRAWS ITS ORDER, BY AN INVARIANT: 'I L a w': the operations that L names have been carried out.
-/
namespace Go.Proofs.Ytikjcikedbcfmaa
open Go.RowKit
set_option maxRecDepth 100000

def acycB (l : List Oper) : Bool := (List.range l.length).all fun i => match l[i]? with | some o => o.after.all (fun e => decide (e.on < i)) | none => false

theorem region_inv {P : Program} {l : List Oper} {Q : Exit → Act → World → Prop} {a0 : Act} {w0 : World} {id : Nat} (I : (Nat → Bool) → Act → World → Prop) (hm : P.follows .mixedOrders = true) (hac : acycB l = true)
    (h0 : I (fun _ => false) a0 w0.drew)
    (hstep : ∀ i o, l[i]? = some o → ∀ (L : Nat → Bool) (a : Act) (w : World), I L a w → L i = false → (∀ e ∈ o.after, Region.binds .any e = true → L e.on = true) →
      ∀ j, Region.wanted o (yielded l.toArray a.tmps) = j → ∀ K : Act → World → Prop, (∀ a' w', I (fun k => L k || k == i) a' w' → K a' w') → if j = true then Oper.wp P o a w K Q else K (a.put o.dst undef) w)
    (hend : ∀ (L : Nat → Bool) (a : Act) (w : World), I L a w → (∀ i, i < l.length → L i = true) → Q .normal a w) : (Code.region id l.toArray true).wp P Q a0 w0 := by
  refine wp_region_any hm ?_
  have hacyc : ∀ (i : Nat) (o : Oper), l[i]? = some o → ∀ e ∈ o.after, e.on < i := by
    intro i o ho e he
    have hi : i < l.length := (List.getElem?_eq_some_iff.1 ho).1
    have h1 := List.all_eq_true.1 hac i (List.mem_range.2 hi)
    simp only [ho] at h1
    have := Array.all_eq_true'.1 h1 e he
    simpa using this
  have main : ∀ (f : Nat) (listed : Array Bool) (a : Act) (w : World), listed.size = l.length → I (fun i => listed.getD i false) a w → wpAny P .any l.toArray Q f listed a w ∨ f < ((List.range l.length).filter (fun i => !listed.getD i true)).length := by
    intro f
    induction f with
    | zero =>
      intro listed a w hsz hI
      by_cases hf : ((List.range l.length).filter (fun i => !listed.getD i true)).length = 0
      · left
        have hall : ∀ i, i < l.length → listed.getD i true = true := by
          intro i hi
          have h0 := List.eq_nil_of_length_eq_zero hf
          cases hl : listed.getD i true with
          | true => rfl
          | false =>
            exfalso
            have : i ∈ (List.range l.length).filter (fun i => !listed.getD i true) := List.mem_filter.2 ⟨List.mem_range.2 hi, by rw [hl]; rfl⟩
            rw [h0] at this
            cases this
        have hall' : ∀ i, i < l.length → listed.getD i false = true := by
          intro i hi
          have := hall i hi
          have hs : i < listed.size := by omega
          simpa [hs] using this
        refine ⟨?_, hend _ a w hI hall'⟩
        cases hr : Region.ready .any l.toArray listed with
        | nil => rfl
        | cons x xs =>
          exfalso
          obtain ⟨hun, o, ho, _⟩ := mem_ready.1 (show x ∈ Region.ready .any l.toArray listed by rw [hr]; simp)
          have hx : x < l.length := by
            have := (Array.getElem?_eq_some_iff.1 ho).1
            simpa using this
          rw [hall x hx] at hun
          cases hun
      · right; omega
    | succ f ih =>
      intro listed a w hsz hI
      by_cases hf : ((List.range l.length).filter (fun i => !listed.getD i true)).length ≤ f + 1
      · left
        refine ⟨fun hr => ?_, fun i hi => ?_⟩
        · refine hend _ a w hI ?_
          intro i
          induction i using Nat.strongRecOn with
          | _ i ihi =>
            intro hil
            cases hl : listed.getD i false with
            | true => rfl
            | false =>
              exfalso
              have hs : i < listed.size := by omega
              have hmem : i ∈ Region.ready .any l.toArray listed := mem_ready.2 ⟨getD_in hs hl, l[i], by simp [hil], fun e he _ => by
                have hlt := hacyc i l[i] (by simp [hil]) e he
                exact ihi e.on hlt (by omega)⟩
              rw [hr] at hmem
              cases hmem
        · obtain ⟨hun, o, ho, hall⟩ := mem_ready.1 hi
          have hol : l[i]? = some o := by simpa using ho
          have hil : i < l.length := (List.getElem?_eq_some_iff.1 hol).1
          have hs : i < listed.size := by omega
          have hun' : listed.getD i false = false := by simpa [hs] using hun
          have hcount : ((List.range l.length).filter (fun k => !listed.getD k true)).length = ((List.range l.length).filter (fun k => !(listed.setIfInBounds i true).getD k true)).length + 1 := by
            have hp : ∀ m : List Nat, m.Nodup → i ∈ m → (m.filter (fun k => !listed.getD k true)).length = (m.filter (fun k => !(listed.setIfInBounds i true).getD k true)).length + 1 := by
              intro m
              induction m with
              | nil => intro _ hm'; cases hm'
              | cons x xs ihx =>
                intro hnd hm'
                obtain ⟨hx, hxs⟩ := List.nodup_cons.1 hnd
                by_cases hxi : x = i
                · subst hxi
                  have hrest : xs.filter (fun k => !listed.getD k true) = xs.filter (fun k => !(listed.setIfInBounds x true).getD k true) := by
                    refine List.filter_congr (fun k hk => ?_)
                    have hne : x ≠ k := fun e => hx (e ▸ hk)
                    rw [getD_set_ne true hne]
                  rw [List.filter_cons_of_pos (by rw [hun]; rfl), List.filter_cons_of_neg (by rw [getD_set_true' hs]; simp), hrest]
                  rfl
                · have hm2 : i ∈ xs := (List.mem_cons.1 hm').resolve_left (fun e => hxi e.symm)
                  have hih := ihx hxs hm2
                  have hne : i ≠ x := fun e => hxi e.symm
                  by_cases hv : listed.getD x true = true
                  · rw [List.filter_cons_of_neg (by rw [hv]; simp), List.filter_cons_of_neg (by rw [getD_set_ne true hne, hv]; simp)]
                    exact hih
                  · have hv' : listed.getD x true = false := by simpa using hv
                    rw [List.filter_cons_of_pos (by rw [hv']; rfl), List.filter_cons_of_pos (by rw [getD_set_ne true hne, hv']; rfl), List.length_cons, List.length_cons, hih]
            exact hp (List.range l.length) List.nodup_range (List.mem_range.2 hil)
          have key : ∀ a' w', I (fun k => listed.getD k false || k == i) a' w' → wpAny P .any l.toArray Q f (listed.setIfInBounds i true) a' w' := by
            intro a' w' hI'
            have hI2 : I (fun k => (listed.setIfInBounds i true).getD k false) a' w' := by
              have e : (fun k => (listed.setIfInBounds i true).getD k false) = (fun k => listed.getD k false || k == i) := by
                funext k
                by_cases hk : i = k
                · subst hk; simp [hs]
                · have hk' : ¬ k = i := fun e => hk e.symm
                  rw [getD_set_ne false hk]; simp [hk']
              rw [e]; exact hI'
            rcases ih _ a' w' (by simpa using hsz) hI2 with h | h
            · exact h
            · omega
          have H := hstep i o hol _ a w hI hun' (fun e he hb => hall e he hb) _ rfl _ key
          unfold wpOp
          simp only [ho]
          split
          · rename_i hw
            rw [if_pos hw] at H
            exact .inl H
          · rename_i hw
            rw [if_neg hw] at H
            exact H
      · right; omega
  rcases main l.toArray.size (Array.replicate l.toArray.size false) a0 w0.drew (by simp) (by
    have e : (fun i => (Array.replicate l.toArray.size false).getD i false) = (fun _ => false) := by funext i; exact getD_replicate_false _ _
    rw [e]; exact h0) with h | h
  · exact h
  · exfalso
    have := List.length_filter_le (fun i => !(Array.replicate l.toArray.size false).getD i true) (List.range l.length)
    simp only [List.length_range] at this
    simp only [List.size_toArray] at h this
    omega

/-- A frame, written out slot by slot. -/
theorem frame_eta (a : Act) (n : Nat) (h : a.tmps.size = n) (hd : a.defers = []) : a = ⟨((List.range n).map fun i => a.eval (.tmp i)).toArray, []⟩ := by
  obtain ⟨tm, df⟩ := a
  simp only at h hd
  subst hd
  congr 1
  apply Array.ext
  · simp [h]
  · intro i h1 h2
    simp [Act.eval, h1]

end Go.Proofs.Ytikjcikedbcfmaa
/-
  A REGION THAT DRAWS ITS ORDER: loads and calls that yield values, new variables of field elements, and what is stored into them.
-/
namespace Go.Proofs.Ytikjcikedbcfmaa
open Go.RowKit
set_option linter.unusedVariables false

/-- Cells that are an element's. -/
def ElC (x : F) (cur : Array Value) : Prop := ∃ a0 a1 a2 a3 a4 : Int, cur = #[.int .u64 a0, .int .u64 a1, .int .u64 a2, .int .u64 a3, .int .u64 a4] ∧ El x a0 a1 a2 a3 a4

theorem exec_alloc_elem {o : Oper} (ho : o.op = .alloc 27) (a : Act) (w : World) :
    (execOp a.eval o).run Try.prog w = .ok (.value (.pointer (some ⟨w.heap.size, 0, none⟩))) (w.alloc (.cells #[.int .u64 0, .int .u64 0, .int .u64 0, .int .u64 0, .int .u64 0] 27)) := by
  generalize a.eval = ev
  simp [execOp, ho, go_sem]

set_option maxHeartbeats 2000000 in
theorem exec_store_elem {o : Oper} {a : Act} {w : World} {x y : Operand} {g : Nat} {a0 a1 a2 a3 a4 : Int} {c0 c1 c2 c3 c4 : Value} (ho : o.op = .store 27 x y) (hx : a.eval x = .pointer (some ⟨g, 0, none⟩))
    (hy : a.eval y = .agg #[.int .u64 a0, .int .u64 a1, .int .u64 a2, .int .u64 a3, .int .u64 a4]) (hB : Blk w g #[c0, c1, c2, c3, c4] 27) :
    ∃ w', (execOp a.eval o).run Try.prog w = .ok .skip w' ∧ Blk w' g #[.int .u64 a0, .int .u64 a1, .int .u64 a2, .int .u64 a3, .int .u64 a4] 27 ∧
      w'.os = w.os ∧ w'.tape = w.tape ∧ w'.output = w.output ∧ w'.heap.size = w.heap.size ∧ ∀ k, k ≠ g → w'.heap[k]? = w.heap[k]? := by
  have hc := hB.cell
  have hf := hB.free
  generalize a.eval = ev at hx hy ⊢
  refine ⟨(((((w.setCell ⟨g, 0, none⟩ (.int .u64 a0)).setCell ⟨g, 1, none⟩ (.int .u64 a1)).setCell ⟨g, 2, none⟩ (.int .u64 a2)).setCell ⟨g, 3, none⟩ (.int .u64 a3)).setCell ⟨g, 4, none⟩ (.int .u64 a4)), ?_, ?_, rfl, rfl, rfl, by simp [World.setCell], fun k hk => ?_⟩
  · simp [execOp, ho, hx, hy, go_sem, hc, hf]
  · have h := ((((hB.set 0 (.int .u64 a0)).set 1 (.int .u64 a1)).set 2 (.int .u64 a2)).set 3 (.int .u64 a3)).set 4 (.int .u64 a4)
    simpa using h
  · rw [Below.heap_setCell _ _ _ _ hk, Below.heap_setCell _ _ _ _ hk, Below.heap_setCell _ _ _ _ hk, Below.heap_setCell _ _ _ _ hk, Below.heap_setCell _ _ _ _ hk]

end Go.Proofs.Ytikjcikedbcfmaa
/-
  A REGION THAT DRAWS ITS ORDER: its law (see RegionMem).
-/
namespace Go.Proofs.Ytikjcikedbcfmaa
open Go.RowKit
set_option linter.unusedVariables false

/-- What an operation of such a region is: it yields a value; it makes a variable; it stores into the variable that operation k makes what operation m yields, an element that is x. -/
inductive RK where
  | val
  | fresh
  | into (k m : Nat) (x : F)

def isFresh (o : Oper) : Bool := match o.op with | .alloc t => t == 27 | _ => false
def isInto (o : Oper) (dk dm : Tmp) : Bool := match o.op with | .store t (.tmp a) (.tmp b) => t == 27 && a == dk && b == dm | _ => false
theorem isFresh_op {o : Oper} (h : isFresh o = true) : o.op = .alloc 27 := by
  unfold isFresh at h
  split at h
  · rename_i t ht; rw [ht]; simp at h; rw [h]
  · cases h
theorem isInto_op {o : Oper} {dk dm : Tmp} (h : isInto o dk dm = true) : o.op = .store 27 (.tmp dk) (.tmp dm) := by
  unfold isInto at h
  split at h
  · rename_i t a b ht; rw [ht]; simp at h; rw [h.1.1, h.1.2, h.2]
  · cases h

/-- Is it so? The kinds fit the operations, each writes to a place of its own below 'size', and each variable is stored into once. -/
def kindsB (l : List Oper) (kd : Nat → RK) (size : Nat) : Bool :=
  acycB l && (List.range l.length).all fun i => match l[i]? with
    | none => false
    | some o => match kd i with
      | .val => match o.dst with | some d => decide (d < size) && (List.range l.length).all fun j => i == j || dstOf l j != some d | none => false
      | .fresh => isFresh o && o.guard == none && match o.dst with | some d => decide (d < size) && (List.range l.length).all fun j => i == j || dstOf l j != some d | none => false
      | .into k m _ => o.dst == none && o.guard == none && (match dstOf l k, dstOf l m with | some dk, some dm => isInto o dk dm | _, _ => false) &&
          (match kd k with | .fresh => true | _ => false) && (match kd m with | .val => true | _ => false) &&
          o.after.any (fun e => Region.binds .any e && e.on == k) && o.after.any (fun e => Region.binds .any e && e.on == m) &&
          (List.range l.length).all fun j => match kd j with | .into k' _ _ => k' != k || i == j | _ => true

structure InvMem (l : List Oper) (kd : Nat → RK) (S : Nat → Value → Prop) (a0 : Act) (w0 : World) (L : Nat → Bool) (a : Act) (w : World) : Prop where
  tmps : a.tmps.size = a0.tmps.size
  defers : a.defers = a0.defers
  grow : Below w0.heap.size w0 w
  others : ∀ t, (∀ j, dstOf l j ≠ some t) → a.eval (.tmp t) = a0.eval (.tmp t)
  vals : ∀ i d, kd i = .val → L i = true → dstOf l i = some d → S i (a.eval (.tmp d))
  vars : ∀ k d, kd k = .fresh → L k = true → dstOf l k = some d → ∃ g c0 c1 c2 c3 c4, a.eval (.tmp d) = .pointer (some ⟨g, 0, none⟩) ∧ w0.heap.size ≤ g ∧ Blk w g #[c0, c1, c2, c3, c4] 27 ∧
    ∀ t m x, kd t = .into k m x → L t = true → ElC x #[c0, c1, c2, c3, c4]
  apart : ∀ k k' d d' g, kd k = .fresh → kd k' = .fresh → L k = true → L k' = true → k ≠ k' → dstOf l k = some d → dstOf l k' = some d' → a.eval (.tmp d) = .pointer (some ⟨g, 0, none⟩) → a.eval (.tmp d') ≠ .pointer (some ⟨g, 0, none⟩)

theorem below_put {w0 w w' : World} {g : Nat} (hB : Below w0.heap.size w0 w) (hg : w0.heap.size ≤ g) (h1 : w'.os = w.os) (h2 : w'.tape = w.tape) (h3 : w'.output = w.output) (h4 : w'.heap.size = w.heap.size) (h5 : ∀ k, k ≠ g → w'.heap[k]? = w.heap[k]?) : Below w0.heap.size w0 w' :=
  ⟨h1.trans hB.os, h2.trans hB.tape, h3.trans hB.output, by rw [h4]; exact hB.size, fun k hk => (h5 k (by omega)).trans (hB.block k hk)⟩

section
variable {l : List Oper} {kd : Nat → RK} {S : Nat → Value → Prop} {Q : Exit → Act → World → Prop} {a0 : Act} {w0 : World}

theorem kinds_val (hk : kindsB l kd a0.tmps.size = true) {i : Nat} {o : Oper} (ho : l[i]? = some o) (hi : kd i = .val) : ∃ d, o.dst = some d ∧ d < a0.tmps.size ∧ ∀ j, j ≠ i → dstOf l j ≠ some d := by
  simp only [kindsB, Bool.and_eq_true] at hk
  have h1 := List.all_eq_true.1 hk.2 i (List.mem_range.2 (List.getElem?_eq_some_iff.1 ho).1)
  simp only [ho, hi] at h1
  cases hd : o.dst with
  | none => rw [hd] at h1; cases h1
  | some d =>
    rw [hd] at h1
    simp only [Bool.and_eq_true, decide_eq_true_eq] at h1
    refine ⟨d, rfl, h1.1, fun j hj hjd => ?_⟩
    by_cases hjl : j < l.length
    · have := List.all_eq_true.1 h1.2 j (List.mem_range.2 hjl)
      simp [hjd] at this
      exact hj this.symm
    · rw [dstOf, List.getElem?_eq_none (by omega)] at hjd; cases hjd

theorem kinds_fresh (hk : kindsB l kd a0.tmps.size = true) {i : Nat} {o : Oper} (ho : l[i]? = some o) (hi : kd i = .fresh) : isFresh o = true ∧ o.guard = none ∧ ∃ d, o.dst = some d ∧ d < a0.tmps.size ∧ ∀ j, j ≠ i → dstOf l j ≠ some d := by
  simp only [kindsB, Bool.and_eq_true] at hk
  have h1 := List.all_eq_true.1 hk.2 i (List.mem_range.2 (List.getElem?_eq_some_iff.1 ho).1)
  simp only [ho, hi, Bool.and_eq_true] at h1
  obtain ⟨⟨hf, hg⟩, h1⟩ := h1
  refine ⟨hf, by simpa using hg, ?_⟩
  cases hd : o.dst with
  | none => rw [hd] at h1; cases h1
  | some d =>
    rw [hd] at h1
    simp only [Bool.and_eq_true, decide_eq_true_eq] at h1
    refine ⟨d, rfl, h1.1, fun j hj hjd => ?_⟩
    by_cases hjl : j < l.length
    · have := List.all_eq_true.1 h1.2 j (List.mem_range.2 hjl)
      simp [hjd] at this
      exact hj this.symm
    · rw [dstOf, List.getElem?_eq_none (by omega)] at hjd; cases hjd

theorem kinds_into (hk : kindsB l kd a0.tmps.size = true) {i k m : Nat} {x : F} {o : Oper} (ho : l[i]? = some o) (hi : kd i = .into k m x) :
    o.dst = none ∧ o.guard = none ∧ (∃ dk dm, dstOf l k = some dk ∧ dstOf l m = some dm ∧ o.op = .store 27 (.tmp dk) (.tmp dm)) ∧ kd k = .fresh ∧ kd m = .val ∧
      (∃ e ∈ o.after, Region.binds .any e = true ∧ e.on = k) ∧ (∃ e ∈ o.after, Region.binds .any e = true ∧ e.on = m) ∧ ∀ j k' m' x', j < l.length → kd j = .into k' m' x' → k' = k → j = i := by
  simp only [kindsB, Bool.and_eq_true] at hk
  have h1 := List.all_eq_true.1 hk.2 i (List.mem_range.2 (List.getElem?_eq_some_iff.1 ho).1)
  simp only [ho, hi, Bool.and_eq_true] at h1
  obtain ⟨⟨⟨⟨⟨⟨⟨hd, hg⟩, hs⟩, hfr⟩, hv⟩, ek⟩, em⟩, hu⟩ := h1
  refine ⟨by simpa using hd, by simpa using hg, ?_, ?_, ?_, ?_, ?_, ?_⟩
  · cases h1 : dstOf l k with
    | none => rw [h1] at hs; cases hs
    | some dk =>
      cases h2 : dstOf l m with
      | none => rw [h1, h2] at hs; cases hs
      | some dm => rw [h1, h2] at hs; exact ⟨dk, dm, rfl, rfl, isInto_op hs⟩
  · revert hfr; cases kd k <;> simp
  · revert hv; cases kd m <;> simp
  · obtain ⟨e, he, h⟩ := Array.any_eq_true'.1 ek
    simp only [Bool.and_eq_true, beq_iff_eq] at h
    exact ⟨e, he, h.1, h.2⟩
  · obtain ⟨e, he, h⟩ := Array.any_eq_true'.1 em
    simp only [Bool.and_eq_true, beq_iff_eq] at h
    exact ⟨e, he, h.1, h.2⟩
  · intro j k' m' x' hj hkj hkk
    have := List.all_eq_true.1 hu j (List.mem_range.2 hj)
    simp only [hkj, Bool.or_eq_true, bne_iff_ne, beq_iff_eq] at this
    rcases this with h | h
    · exact absurd hkk h
    · exact h.symm

theorem InvMem.put_val {L : Nat → Bool} {a : Act} {w w'' : World} {i d : Nat} {v : Value} (inv : InvMem l kd S a0 w0 L a w) (hi : kd i = .val) (hdi : dstOf l i = some d) (hds : d < a0.tmps.size) (hdne : ∀ j, j ≠ i → dstOf l j ≠ some d)
    (hS : S i v) (hb : Below w.heap.size w w'') : InvMem l kd S a0 w0 (fun k => L k || k == i) (a.put (some d) v) w'' := by
  have ne : ∀ k d', kd k = .fresh → dstOf l k = some d' → k ≠ i ∧ d ≠ d' := fun k d' hk hd' => by
    have h1 : k ≠ i := fun e => by rw [e, hi] at hk; cases hk
    exact ⟨h1, fun e => hdne k h1 (by rw [hd', e])⟩
  refine ⟨by simpa [Act.put] using inv.tmps, inv.defers, below_from inv.grow hb, fun t ht => ?_, fun j d' hj hL hd' => ?_, fun k d' hk hL hd' => ?_, fun k k' d1 d2 g hk hk' hL hL' hne h1 h2 he => ?_⟩
  · rw [eval_put_other (fun e => ht i (by rw [hdi, e]))]; exact inv.others t ht
  · by_cases hij : j = i
    · subst hij
      rw [hdi] at hd'; cases hd'
      rw [eval_put_same (by rw [inv.tmps]; exact hds)]; exact hS
    · rw [eval_put_other (fun e => hdne j hij (by rw [hd', e]))]
      exact inv.vals j d' hj (by simpa [hij] using hL) hd'
  · obtain ⟨hki, hne⟩ := ne k d' hk hd'
    obtain ⟨g, c0, c1, c2, c3, c4, he, hg, hB, hC⟩ := inv.vars k d' hk (by simpa [hki] using hL) hd'
    refine ⟨g, c0, c1, c2, c3, c4, by rw [eval_put_other hne]; exact he, hg, hB.old hb, fun t m x ht hLt => hC t m x ht ?_⟩
    have : t ≠ i := fun e => by rw [e, hi] at ht; cases ht
    simpa [this] using hLt
  · obtain ⟨hki, hn1⟩ := ne k d1 hk h1
    obtain ⟨hki', hn2⟩ := ne k' d2 hk' h2
    rw [eval_put_other hn1] at he
    rw [eval_put_other hn2]
    exact inv.apart k k' d1 d2 g hk hk' (by simpa [hki] using hL) (by simpa [hki'] using hL') hne h1 h2 he

theorem InvMem.put_fresh {L : Nat → Bool} {a : Act} {w : World} {i d : Nat} (inv : InvMem l kd S a0 w0 L a w) (hun : L i = false) (hi : kd i = .fresh) (hdi : dstOf l i = some d) (hds : d < a0.tmps.size) (hdne : ∀ j, j ≠ i → dstOf l j ≠ some d)
    (hst : ∀ t m x, kd t = .into i m x → L t = false ∧ t ≠ i) :
    InvMem l kd S a0 w0 (fun k => L k || k == i) (a.put (some d) (.pointer (some ⟨w.heap.size, 0, none⟩))) (w.alloc (.cells #[.int .u64 0, .int .u64 0, .int .u64 0, .int .u64 0, .int .u64 0] 27)) := by
  have hv : (a.put (some d) (.pointer (some ⟨w.heap.size, 0, none⟩))).eval (.tmp d) = .pointer (some ⟨w.heap.size, 0, none⟩) := eval_put_same (by rw [inv.tmps]; exact hds)
  have old : ∀ k d', k ≠ i → dstOf l k = some d' → (a.put (some d) (.pointer (some ⟨w.heap.size, 0, none⟩))).eval (.tmp d') = a.eval (.tmp d') := fun k d' hk hd' => eval_put_other (fun e => hdne k hk (by rw [hd', e]))
  refine ⟨by simpa [Act.put] using inv.tmps, inv.defers, inv.grow.alloc inv.grow.size _, fun t ht => ?_, fun j d' hj hL hd' => ?_, fun k d' hk hL hd' => ?_, fun k k' d1 d2 g hk hk' hL hL' hne h1 h2 he => ?_⟩
  · rw [eval_put_other (fun e => ht i (by rw [hdi, e]))]; exact inv.others t ht
  · have hij : j ≠ i := fun e => by rw [e, hi] at hj; cases hj
    rw [old j d' hij hd']
    exact inv.vals j d' hj (by simpa [hij] using hL) hd'
  · by_cases hki : k = i
    · subst hki
      rw [hdi] at hd'; cases hd'
      refine ⟨w.heap.size, _, _, _, _, _, hv, inv.grow.size, Blk.new _ _ _, fun t m x ht hLt => ?_⟩
      obtain ⟨h1, h2⟩ := hst t m x ht
      simp [h1, h2] at hLt
    · obtain ⟨g, c0, c1, c2, c3, c4, he, hg, hB, hC⟩ := inv.vars k d' hk (by simpa [hki] using hL) hd'
      refine ⟨g, c0, c1, c2, c3, c4, by rw [old k d' hki hd']; exact he, hg, hB.alloc _, fun t m x ht hLt => hC t m x ht ?_⟩
      have : t ≠ i := fun e => by rw [e, hi] at ht; cases ht
      simpa [this] using hLt
  · by_cases hki : k = i
    · subst hki
      rw [hdi] at h1; cases h1
      rw [hv] at he
      have hk2 : k' ≠ k := fun e => hne e.symm
      rw [old k' d2 hk2 h2]
      obtain ⟨g', c0, c1, c2, c3, c4, he', hg', hB', _⟩ := inv.vars k' d2 hk' (by simpa [hk2] using hL') h2
      have hlt := hB'.lt
      intro e
      rw [he'] at e
      simp at he e
      omega
    · by_cases hki' : k' = i
      · subst hki'
        rw [hdi] at h2; cases h2
        rw [hv]
        rw [old k d1 hki h1] at he
        obtain ⟨g', c0, c1, c2, c3, c4, he', hg', hB', _⟩ := inv.vars k d1 hk (by simpa [hki] using hL) h1
        have hlt := hB'.lt
        intro e
        rw [he] at he'
        simp at he' e
        omega
      · rw [old k d1 hki h1] at he
        rw [old k' d2 hki' h2]
        exact inv.apart k k' d1 d2 g hk hk' (by simpa [hki] using hL) (by simpa [hki'] using hL') hne h1 h2 he

theorem InvMem.put_into {L : Nat → Bool} {a : Act} {w w' : World} {i k m dk g : Nat} {x : F} {b0 b1 b2 b3 b4 : Int} (inv : InvMem l kd S a0 w0 L a w) (hi : kd i = .into k m x) (hLk : L k = true) (hkf : kd k = .fresh) (hdk : dstOf l k = some dk)
    (hp : a.eval (.tmp dk) = .pointer (some ⟨g, 0, none⟩)) (hg : w0.heap.size ≤ g) (hB : Blk w' g #[.int .u64 b0, .int .u64 b1, .int .u64 b2, .int .u64 b3, .int .u64 b4] 27) (hE : El x b0 b1 b2 b3 b4)
    (hu : ∀ j k' m' x', kd j = .into k' m' x' → L j = true → k' = k → j = i)
    (h1 : w'.os = w.os) (h2 : w'.tape = w.tape) (h3 : w'.output = w.output) (h4 : w'.heap.size = w.heap.size) (h5 : ∀ k, k ≠ g → w'.heap[k]? = w.heap[k]?) :
    InvMem l kd S a0 w0 (fun k => L k || k == i) a w' := by
  refine ⟨inv.tmps, inv.defers, below_put inv.grow hg h1 h2 h3 h4 h5, inv.others, fun j d' hj hL hd' => ?_, fun k2 d' hk2 hL hd' => ?_, fun k1 k2 d1 d2 g' hk1 hk2 hL hL' hne e1 e2 he => ?_⟩
  · have hij : j ≠ i := fun e => by rw [e, hi] at hj; cases hj
    exact inv.vals j d' hj (by simpa [hij] using hL) hd'
  · have hki : k2 ≠ i := fun e => by rw [e, hi] at hk2; cases hk2
    have hL2 : L k2 = true := by simpa [hki] using hL
    by_cases hkk : k2 = k
    · subst hkk
      rw [hdk] at hd'; cases hd'
      refine ⟨g, _, _, _, _, _, hp, hg, hB, fun t m2 x2 ht hLt => ?_⟩
      have hti : t = i := by
        by_cases h : t = i
        · exact h
        · exact hu t k2 m2 x2 ht (by simpa [h] using hLt) rfl
      subst hti
      rw [hi] at ht
      cases ht
      exact ⟨_, _, _, _, _, rfl, hE⟩
    · obtain ⟨g2, c0, c1, c2, c3, c4, he, hg2, hB2, hC⟩ := inv.vars k2 d' hk2 hL2 hd'
      have hgg : g2 ≠ g := fun e => inv.apart k k2 dk d' g hkf hk2 hLk hL2 (fun e => hkk e.symm) hdk hd' hp (by rw [he, e])
      refine ⟨g2, c0, c1, c2, c3, c4, he, hg2, (h5 g2 hgg).trans hB2, fun t m2 x2 ht hLt => hC t m2 x2 ht ?_⟩
      have : t ≠ i := fun e => by rw [e, hi] at ht; cases ht; exact hkk rfl
      simpa [this] using hLt
  · have hki : k1 ≠ i := fun e => by rw [e, hi] at hk1; cases hk1
    have hki' : k2 ≠ i := fun e => by rw [e, hi] at hk2; cases hk2
    exact inv.apart k1 k2 d1 d2 g' hk1 hk2 (by simpa [hki] using hL) (by simpa [hki'] using hL') hne e1 e2 he

/-- THE LAW. -/
theorem region_mem {id : Nat} (kd : Nat → RK) (S : Nat → Value → Prop) (hm : Try.prog.follows .mixedOrders = true) (hk : kindsB l kd a0.tmps.size = true)
    (hval : ∀ i o, l[i]? = some o → kd i = .val → ∀ (a : Act) (w : World), Below w0.heap.size w0 w → (∀ t, (∀ j, dstOf l j ≠ some t) → a.eval (.tmp t) = a0.eval (.tmp t)) →
      (∀ e ∈ o.after, Region.binds .any e = true → ∀ d, dstOf l e.on = some d → kd e.on = .val → S e.on (a.eval (.tmp d))) →
      ∀ j, Region.wanted o (yielded l.toArray a.tmps) = j → ∀ K : Act → World → Prop, (∀ v w'', S i v → Below w.heap.size w w'' → K (a.put o.dst v) w'') → if j = true then Oper.wp Try.prog o a w K Q else K (a.put o.dst undef) w)
    (hS : ∀ t k m x, kd t = .into k m x → ∀ v, S m v → ElV x v)
    (hend : ∀ (a : Act) (w : World), Below w0.heap.size w0 w → a.tmps.size = a0.tmps.size → a.defers = a0.defers → (∀ t, (∀ j, dstOf l j ≠ some t) → a.eval (.tmp t) = a0.eval (.tmp t)) →
      (∀ i d, kd i = .val → i < l.length → dstOf l i = some d → S i (a.eval (.tmp d))) →
      (∀ t k m x d, kd t = .into k m x → t < l.length → dstOf l k = some d → ∃ g cur, a.eval (.tmp d) = .pointer (some ⟨g, 0, none⟩) ∧ w0.heap.size ≤ g ∧ Blk w g cur 27 ∧ ElC x cur) → Q .normal a w) :
    (Code.region id l.toArray true).wp Try.prog Q a0 w0 := by
  have hac : acycB l = true := by simp only [kindsB, Bool.and_eq_true] at hk; exact hk.1
  have hlen : ∀ j d, dstOf l j = some d → j < l.length := fun j d h => by
    rcases Nat.lt_or_ge j l.length with h' | h'
    · exact h'
    · rw [dstOf, List.getElem?_eq_none h'] at h; cases h
  refine region_inv (fun L a w => InvMem l kd S a0 w0 L a w ∧ (∀ i, L i = true → i < l.length) ∧ ∀ t k m x, kd t = .into k m x → L t = true → L k = true) hm hac ⟨⟨rfl, rfl, (Below.refl _ _).drew, fun _ _ => rfl, fun _ _ _ h => (by cases h), fun _ _ _ h => (by cases h), fun _ _ _ _ _ _ _ h => (by cases h)⟩, fun _ h => (by cases h), fun _ _ _ _ _ h => (by cases h)⟩ ?_ ?_
  · intro i o ho L a w ⟨inv, hLl, hD⟩ hun hdep j hj K hK
    have hil : i < l.length := (List.getElem?_eq_some_iff.1 ho).1
    have hLl' : ∀ i', (L i' || i' == i) = true → i' < l.length := fun i' h => by
      by_cases e : i' = i
      · rw [e]; exact hil
      · exact hLl i' (by simpa [e] using h)
    have hD' : (∀ k m x, kd i = .into k m x → L k = true) → ∀ t k m x, kd t = .into k m x → (L t || t == i) = true → (L k || k == i) = true := fun hh t k m x ht h => by
      by_cases e : t = i
      · have := hh k m x (by rw [← e]; exact ht); simp [this]
      · have := hD t k m x ht (by simpa [e] using h); simp [this]
    cases hi : kd i with
    | val =>
      obtain ⟨d, hod, hds, hdne⟩ := kinds_val hk ho hi
      have hdi : dstOf l i = some d := by simp [dstOf, ho, hod]
      refine hval i o ho hi a w inv.grow inv.others (fun e he hb d' hd' hv => inv.vals e.on d' hv (hdep e he hb) hd') j hj K (fun v w'' hSv hb => hK _ _ ⟨?_, hLl', hD' (fun k m x h => by rw [hi] at h; cases h)⟩)
      rw [hod]
      exact inv.put_val hi hdi hds hdne hSv hb
    | fresh =>
      obtain ⟨hf, hg, d, hod, hds, hdne⟩ := kinds_fresh hk ho hi
      have hdi : dstOf l i = some d := by simp [dstOf, ho, hod]
      have hjt : j = true := by rw [← hj]; simp [Region.wanted, hg]
      rw [if_pos hjt]
      unfold Oper.wp
      rw [exec_alloc_elem (isFresh_op hf) a w]
      refine hK _ _ ⟨?_, hLl', hD' (fun k m x h => by rw [hi] at h; cases h)⟩
      rw [hod]
      refine inv.put_fresh hun hi hdi hds hdne (fun t m x ht => ?_)
      refine ⟨?_, fun e => by rw [e, hi] at ht; cases ht⟩
      cases hLt : L t with
      | false => rfl
      | true =>
        exfalso
        have := hD t i m x ht hLt
        rw [hun] at this
        cases this
    | into k m x =>
      obtain ⟨hod, hg, ⟨dk, dm, hdk, hdm, hop⟩, hkf, hkv, ⟨ek, hek, hbk, hok⟩, ⟨em, hem, hbm, hom⟩, hu⟩ := kinds_into hk ho hi
      have hjt : j = true := by rw [← hj]; simp [Region.wanted, hg]
      rw [if_pos hjt]
      have hLk : L k = true := by have := hdep ek hek hbk; rwa [hok] at this
      have hLm : L m = true := by have := hdep em hem hbm; rwa [hom] at this
      obtain ⟨g, c0, c1, c2, c3, c4, hp, hgs, hB, _⟩ := inv.vars k dk hkf hLk hdk
      obtain ⟨b0, b1, b2, b3, b4, hv, hE⟩ := hS i k m x hi _ (inv.vals m dm hkv hLm hdm)
      obtain ⟨w', hr, hB', h1, h2, h3, h4, h5⟩ := exec_store_elem hop hp hv hB
      unfold Oper.wp
      rw [hr]
      have e : a.put o.dst undef = a := by rw [hod]; rfl
      show K (a.put o.dst undef) w'
      rw [e]
      exact hK _ _ ⟨inv.put_into hi hLk hkf hdk hp hgs hB' hE (fun j k' m' x' hj hLj hkk => hu j k' m' x' (hLl j hLj) hj hkk) h1 h2 h3 h4 h5, hLl', hD' (fun k' m' x' h => by rw [hi] at h; cases h; exact hLk)⟩
  · intro L a w ⟨inv, _, _⟩ hall
    refine hend a w inv.grow inv.tmps inv.defers inv.others (fun i d hi hil hd => inv.vals i d hi (hall i hil) hd) (fun t k m x d ht htl hd => ?_)
    obtain ⟨_, _, _, hkf, _⟩ := kinds_into hk (o := l[t]) (by simp [htl]) ht
    obtain ⟨g, c0, c1, c2, c3, c4, he, hg, hB, hC⟩ := inv.vars k d hkf (hall k (hlen k d hd)) hd
    exact ⟨g, _, he, hg, hB, hC t m x ht (hall t htl)⟩

end
end Go.Proofs.Ytikjcikedbcfmaa
/-
  region_mem, with its steps one by one; and the frame behind a region, by what was put.
-/
namespace Go.Proofs.Ytikjcikedbcfmaa
open Go.RowKit
set_option linter.unusedVariables false
set_option linter.unusedSimpArgs false

def StepMem (l : List Oper) (kd : Nat → RK) (S : Nat → Value → Prop) (a0 : Act) (w0 : World) (i : Nat) (o : Oper) : Prop :=
  o.guard = none ∧ ∀ (a : Act) (w : World), Below w0.heap.size w0 w → (∀ t, (∀ j, dstOf l j ≠ some t) → a.eval (.tmp t) = a0.eval (.tmp t)) →
    (∀ e ∈ o.after, Region.binds .any e = true → ∀ d, dstOf l e.on = some d → kd e.on = .val → S e.on (a.eval (.tmp d))) → Outcome Try.prog (fun i _ v => S i v) a w i o

def MemSteps (l : List Oper) (kd : Nat → RK) (S : Nat → Value → Prop) (a0 : Act) (w0 : World) : Nat → List Oper → Prop
  | _, [] => True
  | k, o :: r => (kd k = .val → StepMem l kd S a0 w0 k o) ∧ MemSteps l kd S a0 w0 (k + 1) r

theorem memsteps_get {l : List Oper} {kd : Nat → RK} {S : Nat → Value → Prop} {a0 : Act} {w0 : World} : ∀ (r : List Oper) (k : Nat), MemSteps l kd S a0 w0 k r → ∀ i o, r[i]? = some o → kd (k + i) = .val → StepMem l kd S a0 w0 (k + i) o
  | [], _, _, i, o, h => by simp at h
  | x :: r, k, h, 0, o, ho => by simp at ho; subst ho; exact h.1
  | x :: r, k, h, i + 1, o, ho => by
    have := memsteps_get r (k + 1) h.2 i o (by simpa using ho)
    rwa [Nat.add_assoc, Nat.add_comm 1 i] at this

theorem region_mem3 {l : List Oper} {Q : Exit → Act → World → Prop} {a0 : Act} {w0 : World} {id : Nat} (kd : Nat → RK) (S : Nat → Value → Prop) (ds : List Tmp) (hds : dstsOf l = ds) (hm : Try.prog.follows .mixedOrders = true) (hk : kindsB l kd a0.tmps.size = true)
    (hlt : (ds.all fun d => decide (d < a0.tmps.size)) = true)
    (hstep : MemSteps l kd S a0 w0 0 l)
    (hS : ∀ t k m x, kd t = .into k m x → ∀ v, S m v → ElV x v)
    (hend : ∀ (g : Tmp → Value) (w : World), Below w0.heap.size w0 w → (∀ i d, kd i = .val → i < l.length → dstOf l i = some d → S i (g d)) →
      (∀ t k m x d, kd t = .into k m x → t < l.length → dstOf l k = some d → ∃ b cur, g d = .pointer (some ⟨b, 0, none⟩) ∧ w0.heap.size ≤ b ∧ Blk w b cur 27 ∧ ElC x cur) → Q .normal (puts a0 (ds.map fun d => (d, g d))) w) :
    (Code.region id l.toArray true).wp Try.prog Q a0 w0 := by
  refine region_mem kd S hm hk (fun i o ho hi a w hb hO hD j hj K hK => ?_) hS (fun a w hb hsz hdf hO hV hM => ?_)
  · have hst := memsteps_get l 0 hstep i o ho (by simpa using hi)
    rw [Nat.zero_add] at hst
    have hw : j = true := by rw [← hj]; simp [Region.wanted, hst.1]
    rw [if_pos hw]
    exact (hst.2 a w hb hO hD).wp hK
  · have hfr := frame_puts ds hsz hdf (fun t ht => hO t (not_dsts (by rw [hds]; exact ht))) (fun d hd => by simpa using List.all_eq_true.1 hlt d hd)
    rw [hfr]
    exact hend (fun d => a.eval (.tmp d)) w hb hV hM

end Go.Proofs.Ytikjcikedbcfmaa
/-
  region_any for a region all of whose operations are of that kind, with the frame behind it written by puts.
-/
namespace Go.Proofs.Ytikjcikedbcfmaa
open Go.RowKit
set_option linter.unusedVariables false
set_option linter.unusedSimpArgs false

theorem Same_F {x y : F} {u v : Value} (hu : ElV x u) (hv : ElV y v) (w : World) (h : x ≠ y) : Calls Try.prog 20 #[u, v] w fun e w' => ∃ r, e = .returned r ∧ r = .bool false ∧ Below w.heap.size w w' := by
  have H := Same_V hu hv w
  rwa [decide_eq_false h] at H

theorem zero_case : (0 : F) * fi 0 ≠ toF 1 := by
  rw [fi_zero, toF_one]
  intro h
  exact one_ne_zero (by rw [← h]; grind)
end Go.Proofs.Ytikjcikedbcfmaa
