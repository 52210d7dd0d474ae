/-
  A REGION THAT DRAWS ITS ORDER, BY AN INVARIANT: 'I L a w': the operations that L names have been carried out.
-/
import Derived.Test.YtdjdfmnjoilmkaaAnyOrder
namespace Go.Proofs.Ytdjdfmnjoilmkaa
open Go.RowKit

def acycB (l : List Oper) : Bool := (List.range l.length).all fun i => match l[i]? with | some o => o.after.all (fun e => decide (e.on < i)) | none => false

theorem region_inv {P : Program} {l : List Oper} {Q : Exit → Act → World → Prop} {a0 : Act} {w0 : World} {id : Nat} (I : (Nat → Bool) → Act → World → Prop) (hm : P.follows .mixedOrders = true) (hac : acycB l = true)
    (h0 : I (fun _ => false) a0 w0.drew)
    (hstep : ∀ i o, l[i]? = some o → ∀ (L : Nat → Bool) (a : Act) (w : World), I L a w → L i = false → (∀ e ∈ o.after, Region.binds .any e = true → L e.on = true) →
      ∀ j, Region.wanted o (yielded l.toArray a.tmps) = j → ∀ K : Act → World → Prop, (∀ a' w', I (fun k => L k || k == i) a' w' → K a' w') → if j = true then Oper.wp P o a w K Q else K (a.put o.dst undef) w)
    (hend : ∀ (L : Nat → Bool) (a : Act) (w : World), I L a w → (∀ i, i < l.length → L i = true) → Q .normal a w) : (Code.region id l.toArray true).wp P Q a0 w0 := by
  refine wp_region_any hm ?_
  have hacyc : ∀ (i : Nat) (o : Oper), l[i]? = some o → ∀ e ∈ o.after, e.on < i := by
    intro i o ho e he
    have hi : i < l.length := (List.getElem?_eq_some_iff.1 ho).1
    have h1 := List.all_eq_true.1 hac i (List.mem_range.2 hi)
    simp only [ho] at h1
    have := Array.all_eq_true'.1 h1 e he
    simpa using this
  have main : ∀ (f : Nat) (listed : Array Bool) (a : Act) (w : World), listed.size = l.length → I (fun i => listed.getD i false) a w → wpAny P .any l.toArray Q f listed a w ∨ f < ((List.range l.length).filter (fun i => !listed.getD i true)).length := by
    intro f
    induction f with
    | zero =>
      intro listed a w hsz hI
      by_cases hf : ((List.range l.length).filter (fun i => !listed.getD i true)).length = 0
      · left
        have hall : ∀ i, i < l.length → listed.getD i true = true := by
          intro i hi
          have h0 := List.eq_nil_of_length_eq_zero hf
          cases hl : listed.getD i true with
          | true => rfl
          | false =>
            exfalso
            have : i ∈ (List.range l.length).filter (fun i => !listed.getD i true) := List.mem_filter.2 ⟨List.mem_range.2 hi, by rw [hl]; rfl⟩
            rw [h0] at this
            cases this
        have hall' : ∀ i, i < l.length → listed.getD i false = true := by
          intro i hi
          have := hall i hi
          have hs : i < listed.size := by omega
          simpa [hs] using this
        refine ⟨?_, hend _ a w hI hall'⟩
        cases hr : Region.ready .any l.toArray listed with
        | nil => rfl
        | cons x xs =>
          exfalso
          obtain ⟨hun, o, ho, _⟩ := mem_ready.1 (show x ∈ Region.ready .any l.toArray listed by rw [hr]; simp)
          have hx : x < l.length := by
            have := (Array.getElem?_eq_some_iff.1 ho).1
            simpa using this
          rw [hall x hx] at hun
          cases hun
      · right; omega
    | succ f ih =>
      intro listed a w hsz hI
      by_cases hf : ((List.range l.length).filter (fun i => !listed.getD i true)).length ≤ f + 1
      · left
        refine ⟨fun hr => ?_, fun i hi => ?_⟩
        · refine hend _ a w hI ?_
          intro i
          induction i using Nat.strongRecOn with
          | _ i ihi =>
            intro hil
            cases hl : listed.getD i false with
            | true => rfl
            | false =>
              exfalso
              have hs : i < listed.size := by omega
              have hmem : i ∈ Region.ready .any l.toArray listed := mem_ready.2 ⟨getD_in hs hl, l[i], by simp [hil], fun e he _ => by
                have hlt := hacyc i l[i] (by simp [hil]) e he
                exact ihi e.on hlt (by omega)⟩
              rw [hr] at hmem
              cases hmem
        · obtain ⟨hun, o, ho, hall⟩ := mem_ready.1 hi
          have hol : l[i]? = some o := by simpa using ho
          have hil : i < l.length := (List.getElem?_eq_some_iff.1 hol).1
          have hs : i < listed.size := by omega
          have hun' : listed.getD i false = false := by simpa [hs] using hun
          have hcount : ((List.range l.length).filter (fun k => !listed.getD k true)).length = ((List.range l.length).filter (fun k => !(listed.setIfInBounds i true).getD k true)).length + 1 := by
            have hp : ∀ m : List Nat, m.Nodup → i ∈ m → (m.filter (fun k => !listed.getD k true)).length = (m.filter (fun k => !(listed.setIfInBounds i true).getD k true)).length + 1 := by
              intro m
              induction m with
              | nil => intro _ hm'; cases hm'
              | cons x xs ihx =>
                intro hnd hm'
                obtain ⟨hx, hxs⟩ := List.nodup_cons.1 hnd
                by_cases hxi : x = i
                · subst hxi
                  have hrest : xs.filter (fun k => !listed.getD k true) = xs.filter (fun k => !(listed.setIfInBounds x true).getD k true) := by
                    refine List.filter_congr (fun k hk => ?_)
                    have hne : x ≠ k := fun e => hx (e ▸ hk)
                    rw [getD_set_ne true hne]
                  rw [List.filter_cons_of_pos (by rw [hun]; rfl), List.filter_cons_of_neg (by rw [getD_set_true' hs]; simp), hrest]
                  rfl
                · have hm2 : i ∈ xs := (List.mem_cons.1 hm').resolve_left (fun e => hxi e.symm)
                  have hih := ihx hxs hm2
                  have hne : i ≠ x := fun e => hxi e.symm
                  by_cases hv : listed.getD x true = true
                  · rw [List.filter_cons_of_neg (by rw [hv]; simp), List.filter_cons_of_neg (by rw [getD_set_ne true hne, hv]; simp)]
                    exact hih
                  · have hv' : listed.getD x true = false := by simpa using hv
                    rw [List.filter_cons_of_pos (by rw [hv']; rfl), List.filter_cons_of_pos (by rw [getD_set_ne true hne, hv']; rfl), List.length_cons, List.length_cons, hih]
            exact hp (List.range l.length) List.nodup_range (List.mem_range.2 hil)
          have key : ∀ a' w', I (fun k => listed.getD k false || k == i) a' w' → wpAny P .any l.toArray Q f (listed.setIfInBounds i true) a' w' := by
            intro a' w' hI'
            have hI2 : I (fun k => (listed.setIfInBounds i true).getD k false) a' w' := by
              have e : (fun k => (listed.setIfInBounds i true).getD k false) = (fun k => listed.getD k false || k == i) := by
                funext k
                by_cases hk : i = k
                · subst hk; simp [hs]
                · have hk' : ¬ k = i := fun e => hk e.symm
                  rw [getD_set_ne false hk]; simp [hk']
              rw [e]; exact hI'
            rcases ih _ a' w' (by simpa using hsz) hI2 with h | h
            · exact h
            · omega
          have H := hstep i o hol _ a w hI hun' (fun e he hb => hall e he hb) _ rfl _ key
          unfold wpOp
          simp only [ho]
          split
          · rename_i hw
            rw [if_pos hw] at H
            exact .inl H
          · rename_i hw
            rw [if_neg hw] at H
            exact H
      · right; omega
  rcases main l.toArray.size (Array.replicate l.toArray.size false) a0 w0.drew (by simp) (by
    have e : (fun i => (Array.replicate l.toArray.size false).getD i false) = (fun _ => false) := by funext i; exact getD_replicate_false _ _
    rw [e]; exact h0) with h | h
  · exact h
  · exfalso
    have := List.length_filter_le (fun i => !(Array.replicate l.toArray.size false).getD i true) (List.range l.length)
    simp only [List.length_range] at this
    simp only [List.size_toArray] at h this
    omega

/-- A frame, written out slot by slot. -/
theorem frame_eta (a : Act) (n : Nat) (h : a.tmps.size = n) (hd : a.defers = []) : a = ⟨((List.range n).map fun i => a.eval (.tmp i)).toArray, []⟩ := by
  obtain ⟨tm, df⟩ := a
  simp only at h hd
  subst hd
  congr 1
  apply Array.ext
  · simp [h]
  · intro i h1 h2
    simp [Act.eval, h1]

end Go.Proofs.Ytdjdfmnjoilmkaa
