/-
  A REGION THAT DRAWS ITS ORDER, BY AN INVARIANT OVER ITS FIRST n OPERATIONS (in whatever order); the others behind all of these, in the order of the text.
-/
import Derived.Test.YtoiamaljkodlnaaPuts
import Derived.Test.YtoiamaljkodlnaaAnyOrder2
namespace Go.Proofs.Ytoiamaljkodlnaa
open Go.RowKit
set_option maxRecDepth 100000
set_option linter.unusedVariables false
set_option linter.unusedSimpArgs false

def tailB2 (l : List Oper) (n : Nat) : Bool :=
  decide (n ≤ l.length) && (decide (n = l.length) || (Region.sinkB .any l.toArray n && Region.chainB .any l.toArray n)) &&
    Region.seqB .any l.toArray (l.length - n) n ((List.range l.length).map (fun i => decide (i < n))).toArray && (List.range n).all fun i => match l[i]? with | some o => o.after.all (fun e => !Region.binds .any e || decide (e.on < i)) | none => false

section
variable {P : Program} {l : List Oper} {Q : Exit → Act → World → Prop} {n : Nat} {a0 : Act} {w0 : World}

theorem all_listed2 {listed : Array Bool} (hacyc : ∀ i, i < n → ∀ o, l[i]? = some o → ∀ e ∈ o.after, Region.binds .any e = true → e.on < i) (hn : n ≤ l.length) (inv : HeadInv .any l.toArray n listed)
    (hr : ∀ i ∈ Region.ready .any l.toArray listed, n ≤ i) : ∀ i, i < n → listed.getD i false = true := by
  intro i
  induction i using Nat.strongRecOn with
  | _ i ih =>
    intro hi
    cases hl : listed.getD i false with
    | true => rfl
    | false =>
      exfalso
      have hil : i < l.length := by omega
      have hs : i < listed.size := by rw [inv.size]; simpa using hil
      have hmem : i ∈ Region.ready .any l.toArray listed := mem_ready.2 ⟨getD_in hs hl, l[i], by simp [hil], fun e he hb =>
        ih e.on (hacyc i hi l[i] (by simp [hil]) e he hb) (by have := hacyc i hi l[i] (by simp [hil]) e he hb; omega)⟩
      have := hr i hmem
      omega

theorem region_headA (n : Nat) (I : (Nat → Bool) → Act → World → Prop) (hm : P.follows .mixedOrders = true) (ht : tailB2 l n = true)
    (h0 : I (fun _ => false) a0 w0.drew)
    (hstep : ∀ i o, i < n → l[i]? = some o → ∀ (L : Nat → Bool) (a : Act) (w : World), I L a w → L i = false → (∀ j oj, l[j]? = some oj → L j = true → ∀ e ∈ oj.after, Region.binds .any e = true → L e.on = true) →
      (∀ e ∈ o.after, Region.binds .any e = true → L e.on = true) → (∀ k, L k = true → k < n) →
      ∀ j, Region.wanted o (yielded l.toArray a.tmps) = j → ∀ K : Act → World → Prop, (∀ a' w', I (fun k => L k || k == i) a' w' → K a' w') → if j = true then Oper.wp P o a w K Q else K (a.put o.dst undef) w)
    (hend : ∀ (L : Nat → Bool) (a : Act) (w : World), I L a w → (∀ i, i < n → L i = true) → wpList P l.toArray Q (l.drop n) a w) : wpAny P .any l.toArray Q l.toArray.size (Array.replicate l.toArray.size false) a0 w0.drew := by
  simp only [tailB2, Bool.and_eq_true, decide_eq_true_eq, Bool.or_eq_true] at ht
  obtain ⟨⟨⟨hn, hsc⟩, hseq⟩, hac⟩ := ht
  have hacyc : ∀ i, i < n → ∀ o, l[i]? = some o → ∀ e ∈ o.after, Region.binds .any e = true → e.on < i := by
    intro i hi o ho e he hb
    have h1 := List.all_eq_true.1 hac i (List.mem_range.2 hi)
    simp only [ho] at h1
    have := Array.all_eq_true'.1 h1 e he
    simpa [hb] using this
  have wait : ∀ listed, HeadInv .any l.toArray n listed → ∀ i, i < n → listed.getD i true = false → ∀ t, n ≤ t → t ∉ Region.ready .any l.toArray listed := by
    intro listed inv i hi hun t htn
    rcases hsc with he | ⟨hs, hc⟩
    · intro hr
      obtain ⟨_, o, ho, _⟩ := mem_ready.1 hr
      have := (Array.getElem?_eq_some_iff.1 ho).1
      simp at this
      omega
    · by_cases hlt : n < l.length
      · exact tail_waits hs hc (by simpa using hlt) inv _ i rfl hi hun t htn
      · intro hr
        obtain ⟨_, o, ho, _⟩ := mem_ready.1 hr
        have := (Array.getElem?_eq_some_iff.1 ho).1
        simp at this
        omega
  have low : ∀ listed, HeadInv .any l.toArray n listed → ∀ k, listed.getD k false = true → k < n := by
    intro listed inv k hk
    rcases Nat.lt_or_ge k n with h | h
    · exact h
    · exfalso
      by_cases hkl : k < l.length
      · have := inv.tail k h (by simpa using hkl)
        have hs : k < listed.size := by rw [inv.size]; simpa using hkl
        simp [hs] at this hk
        rw [this] at hk; cases hk
      · have hs : listed.size ≤ k := by rw [inv.size]; simpa using Nat.le_of_not_lt hkl
        simp [Array.getElem?_eq_none hs] at hk
  have fin : ∀ (listed : Array Bool) (a : Act) (w : World), HeadInv .any l.toArray n listed → I (fun i => listed.getD i false) a w → (∀ i, i < n → listed.getD i false = true) → wpAny P .any l.toArray Q (l.length - n) listed a w := by
    intro listed a w inv hI hall
    have hlist : listed = ((List.range l.length).map (fun i => decide (i < n))).toArray := by
      apply Array.ext
      · rw [inv.size]; simp
      · intro i h1 h2
        have hil : i < l.length := by simpa using h2
        simp only [List.getElem_toArray, List.getElem_map, List.getElem_range]
        by_cases hi : i < n
        · have := hall i hi
          simp [h1] at this
          simp [this, hi]
        · have := inv.tail i (by omega) (by simpa using hil)
          simp [h1] at this
          simp [this, hi]
    have H := hend _ a w hI (fun i hi => hall i hi)
    have := wpAny_of_seq (md := .any) (Q' := Q) (l.drop n) n listed a w (fun j => by simp [List.getElem?_drop]) (by rw [hlist]; simpa using hseq) H
    simpa using this
  have main : ∀ (f : Nat) (listed : Array Bool) (a : Act) (w : World), HeadInv .any l.toArray n listed → I (fun i => listed.getD i false) a w → ((List.range n).filter (fun i => !listed.getD i true)).length = f → wpAny P .any l.toArray Q (f + (l.length - n)) listed a w := by
    intro f
    induction f with
    | zero =>
      intro listed a w inv hI hf
      rw [Nat.zero_add]
      refine fin listed a w inv hI (fun i hi => ?_)
      have h0 := List.eq_nil_of_length_eq_zero hf
      cases hl : listed.getD i false with
      | true => rfl
      | false =>
        exfalso
        have hs : i < listed.size := by rw [inv.size]; simp; omega
        have : i ∈ (List.range n).filter (fun i => !listed.getD i true) := List.mem_filter.2 ⟨List.mem_range.2 hi, by rw [getD_in hs hl]; rfl⟩
        rw [h0] at this
        cases this
    | succ f ih =>
      intro listed a w inv hI hf
      have hex : ∃ i, i < n ∧ listed.getD i true = false := by
        cases hc : (List.range n).filter (fun i => !listed.getD i true) with
        | nil => rw [hc] at hf; cases hf
        | cons x xs =>
          have hx : x ∈ (List.range n).filter (fun i => !listed.getD i true) := by rw [hc]; simp
          obtain ⟨h1, h2⟩ := List.mem_filter.1 hx
          exact ⟨x, List.mem_range.1 h1, by simpa using h2⟩
      obtain ⟨i0, hi0, hun0⟩ := hex
      have hlow : ∀ i ∈ Region.ready .any l.toArray listed, i < n := fun i hi => by
        rcases Nat.lt_or_ge i n with h | h
        · exact h
        · exact absurd hi (wait listed inv i0 hi0 hun0 i h)
      rw [show f + 1 + (l.length - n) = (f + (l.length - n)) + 1 by omega]
      refine ⟨fun hr => ?_, fun i hi => ?_⟩
      · exfalso
        have := all_listed2 hacyc hn inv (fun i hi => by rw [hr] at hi; cases hi) i0 hi0
        have hs : i0 < listed.size := by rw [inv.size]; simp; omega
        simp [hs] at this hun0
        rw [this] at hun0
        cases hun0
      · have hin := hlow i hi
        obtain ⟨hun, o, ho, hall⟩ := mem_ready.1 hi
        have hol : l[i]? = some o := by simpa using ho
        have hs : i < listed.size := by rw [inv.size]; simp; omega
        have hunf : listed.getD i false = false := by simpa [hs] using hun
        have key : ∀ a' w', I (fun k => listed.getD k false || k == i) a' w' → wpAny P .any l.toArray Q (f + (l.length - n)) (listed.setIfInBounds i true) a' w' := by
          intro a' w' hI'
          have e : (fun k => (listed.setIfInBounds i true).getD k false) = (fun k => listed.getD k false || k == i) := by
            funext k
            by_cases hk : i = k
            · subst hk; simp [hs]
            · have hk' : ¬ k = i := fun e => hk e.symm
              rw [getD_set_ne false hk]; simp [hk']
          refine ih _ _ _ (inv.set hi hin) (by rw [e]; exact hI') ?_
          have hcount : ((List.range n).filter (fun k => !listed.getD k true)).length = ((List.range n).filter (fun k => !(listed.setIfInBounds i true).getD k true)).length + 1 := by
            have hp : ∀ m : List Nat, m.Nodup → i ∈ m → (m.filter (fun k => !listed.getD k true)).length = (m.filter (fun k => !(listed.setIfInBounds i true).getD k true)).length + 1 := by
              intro m
              induction m with
              | nil => intro _ hm'; cases hm'
              | cons x xs ihx =>
                intro hnd hm'
                obtain ⟨hx, hxs⟩ := List.nodup_cons.1 hnd
                by_cases hxi : x = i
                · subst hxi
                  have hrest : xs.filter (fun k => !listed.getD k true) = xs.filter (fun k => !(listed.setIfInBounds x true).getD k true) := by
                    refine List.filter_congr (fun k hk => ?_)
                    have hne : x ≠ k := fun e => hx (e ▸ hk)
                    rw [getD_set_ne true hne]
                  rw [List.filter_cons_of_pos (by rw [hun]; rfl), List.filter_cons_of_neg (by rw [getD_set_true' hs]; simp), hrest]
                  rfl
                · have hm2 : i ∈ xs := (List.mem_cons.1 hm').resolve_left (fun e => hxi e.symm)
                  have hih := ihx hxs hm2
                  have hne : i ≠ x := fun e => hxi e.symm
                  by_cases hv : listed.getD x true = true
                  · rw [List.filter_cons_of_neg (by rw [hv]; simp), List.filter_cons_of_neg (by rw [getD_set_ne true hne, hv]; simp)]
                    exact hih
                  · have hv' : listed.getD x true = false := by simpa using hv
                    rw [List.filter_cons_of_pos (by rw [hv']; rfl), List.filter_cons_of_pos (by rw [getD_set_ne true hne, hv']; rfl), List.length_cons, List.length_cons, hih]
            exact hp (List.range n) List.nodup_range (List.mem_range.2 hin)
          omega
        have H := hstep i o hin hol _ a w hI hunf (fun j oj hj hl e he hb => inv.closed j oj (by simpa using hj) hl e he hb) (fun e he hb => hall e he hb) (fun k hk => low listed inv k hk) _ rfl _ key
        unfold wpOp
        simp only [ho]
        split
        · rename_i hw
          rw [if_pos hw] at H
          exact .inl H
        · rename_i hw
          rw [if_neg hw] at H
          exact H
  have e0 : (fun i => (Array.replicate l.toArray.size false).getD i false) = (fun _ => false) := by funext i; exact getD_replicate_false _ _
  have h := main n (Array.replicate l.toArray.size false) a0 w0.drew
    ⟨by simp, fun j oj _ hl => (by rw [getD_replicate_false] at hl; cases hl), fun t _ ht' => getD_in (by simpa using ht') (getD_replicate_false _ _)⟩ (by rw [e0]; exact h0) (by
      have hfull : (List.range n).filter (fun i => !(Array.replicate l.toArray.size false).getD i true) = List.range n := List.filter_eq_self.2 (fun i hi => by
        have : i < l.length := by have := List.mem_range.1 hi; omega
        simp [this])
      rw [hfull]; simp)
  have hsize : n + (l.length - n) = l.toArray.size := by simp; omega
  rw [hsize] at h
  exact h

theorem region_head {id : Nat} (n : Nat) (I : (Nat → Bool) → Act → World → Prop) (hm : P.follows .mixedOrders = true) (ht : tailB2 l n = true)
    (h0 : I (fun _ => false) a0 w0.drew)
    (hstep : ∀ i o, i < n → l[i]? = some o → ∀ (L : Nat → Bool) (a : Act) (w : World), I L a w → L i = false → (∀ j oj, l[j]? = some oj → L j = true → ∀ e ∈ oj.after, Region.binds .any e = true → L e.on = true) →
      (∀ e ∈ o.after, Region.binds .any e = true → L e.on = true) → (∀ k, L k = true → k < n) →
      ∀ j, Region.wanted o (yielded l.toArray a.tmps) = j → ∀ K : Act → World → Prop, (∀ a' w', I (fun k => L k || k == i) a' w' → K a' w') → if j = true then Oper.wp P o a w K Q else K (a.put o.dst undef) w)
    (hend : ∀ (L : Nat → Bool) (a : Act) (w : World), I L a w → (∀ i, i < n → L i = true) → wpList P l.toArray Q (l.drop n) a w) : (Code.region id l.toArray true).wp P Q a0 w0 := wp_region_any hm (region_headA n I hm ht h0 hstep hend)
end
end Go.Proofs.Ytoiamaljkodlnaa
