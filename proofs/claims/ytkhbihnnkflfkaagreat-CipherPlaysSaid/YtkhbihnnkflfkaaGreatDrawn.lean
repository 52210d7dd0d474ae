/-
 REGIONS THAT DRAW THEIR ORDER, with late edges; with one store into a row of whole numbers among the first operations.
-/
import Derived.Test.YtkhbihnnkflfkaaGreatOps3
namespace Go.Proofs.YtkhbihnnkflfkaaGreat
open Go.RowKit
set_option linter.unusedVariables false
set_option linter.unusedSimpArgs false
set_option maxRecDepth 100000

variable {D N g h id : Nat} {l : List Oper} {r : List (Tmp × Value)} {dl : List Deferred} {S : List (World → Value → Prop)} {ds : List Tmp} {cur cur' : Array Value} {T : TypeId} {o : Oper} {w w' : World}
section
variable {b : Bool} {P : Program} {Q : Exit → Act → World → Prop} {a : Act} {w : World}

theorem x_drawn2 (n : Nat) (S : List (World → Value → Prop)) (ds : List Tmp) (hs : a.tmps.size = N) (hdf : a.defers = dl) (hm : P.follows .mixedOrders = true) (hnd : noDef l.toArray = true) (hd : dstsB2 l (fun _ => .val) n N = true) (ht : tailB2 l n = true) (hds : dstsOf (l.take n) = ds)
  (hS : AllSt S) (hstep : StepsX P l S ds (putsR a r) w 0 (l.take n))
  (hend : ∀ (a' : Act) (w' : World), a'.tmps.size = N → a'.defers = dl → Below w.heap.size w w' → FreeD ds a' (putsR a r) → (∀ i d, Nat.blt i n = true → dstOf l i = some d → nthS S i w' (a'.eval (.tmp d))) → wpList P l.toArray Q (l.drop n) (putsR a' []) w') :
  WP2 b P (.region id l.toArray true) Q (putsR a r) w := by
 refine w2_any hm hnd (region_hotA n (fun _ => .val) (nthS S) (fun _ _ => True) (fun _ => False) hm (by rw [putsR_size, hs]; exact hd) ht (fun i w w' v h hb => hS.nth i w w' v h hb.none) (fun _ _ _ _ _ => trivial) (fun _ _ _ _ _ => trivial) (fun _ _ _ h => by cases h) trivial (fun i o hi ho => ?_) (fun L a' w' hb hsz hdf' hO hV hall hH hap => ?_))
 ·have h := stepsX_get _ _ hstep i o (by rw [List.getElem?_take, if_pos hi]; exact ho)
  rw [Nat.zero_add] at h
  intro L a' w' hat
  have hb := hat.grow.none
  have hO : FreeD ds a' (putsR a r) := fun t htn => hat.others t (contains_of hds htn)
  have hD' : ∀ e ∈ o.after, Region.binds .any e = true → ∀ d, dstOf l e.on = some d → nthS S e.on w' (a'.eval (.tmp d)) := fun e he hbi d hd' => hat.deps e he hbi d (by decide) hd'
  have hD : DepS l S o a' w' := by
   intro j d hj hd'
   obtain ⟨e, he, hbb⟩ := Array.any_eq_true'.1 hj
   simp only [Bool.and_eq_true, beq_iff_eq] at hbb
   have := hD' e he hbb.1 d (by rw [hbb.2]; exact hd')
   rw [hbb.2] at this
   exact this
  refine ⟨fun _ j hj K hK => ?_, fun h => by cases h⟩
  have hK' : ∀ v w'', nthS S i w'' v → Below w'.heap.size w' w'' → K (a'.put o.dst v) w'' := fun v w'' h1 h2 => hK v w'' h1 h2 (fun h => by cases h)
  rcases h with ⟨hg, h⟩ | ⟨g, b, e, c, hg, hde, he, hSg, h⟩
  ·have hw : j = true := by rw [← hj]; simp [Region.wanted, hg]
   rw [if_pos hw]
   exact (h a' w' hb hO hD).wp hK'
  ·have hw := guard_val b c e hg hde he hSg hD'
   rw [hj] at hw
   by_cases hcb : c = b
   ·rw [if_pos hcb] at h
    rw [if_pos (by rw [hw, hcb]; simp)]
    exact (h a' w' hb hO hD).wp hK'
   ·rw [if_neg hcb] at h
    rw [if_neg (by rw [hw]; simpa using hcb)]
    exact hK' undef w' (h w') (Below.refl _ _)
 ·exact hend a' w' (by rw [hsz, putsR_size, hs]) (by rw [hdf', putsR_defers, hdf]) hb.none (fun t htn => hO t (contains_of hds htn)) (fun i d hi hd' => hV i (by simpa using hi) (by decide) d hd')

theorem y_drawn2 (n : Nat) (S : List (World → Value → Prop)) (ds : List Tmp) (hs : a.tmps.size = N) (hdf : a.defers = dl) (hstep : StepsX P l S ds (putsR a r) w 0 (l.take n))
  (hend : ∀ (a' : Act) (w' : World), a'.tmps.size = N → a'.defers = dl → Below w.heap.size w w' → FreeD ds a' (putsR a r) → (∀ i d, Nat.blt i n = true → dstOf l i = some d → nthS S i w' (a'.eval (.tmp d))) → wpList P l.toArray Q (l.drop n) (putsR a' []) w')
  (hm : P.follows .mixedOrders = true := by kernel_rfl) (hnd : noDef l.toArray = true := by kernel_rfl) (hd : dstsB2 l (fun _ => .val) n N = true := by kernel_rfl) (ht : tailB2 l n = true := by kernel_rfl) (hds : dstsOf (l.take n) = ds := by kernel_rfl) (hS : AllSt S := by exact sta) :
  WP2 b P (.region id l.toArray true) Q (putsR a r) w := x_drawn2 n S ds hs hdf hm hnd hd ht hds hS hstep hend
def kdH (h : Nat) (i : Nat) : HK := if i = h then .hot else .val
def AllLit : List (World → Value → Prop) → Prop
 | [] => True
 | p :: l => (∀ w w' v, p w v → p w' v) ∧ AllLit l
theorem litL {f : Value → Prop} : ∀ w w' v, (fun (_ : World) v => f v) w v → (fun (_ : World) v => f v) w' v := fun _ _ _ h => h
theorem AllLit.nth : ∀ {l : List (World → Value → Prop)}, AllLit l → ∀ i w w' v, nthS l i w v → nthS l i w' v
 | [], _, _, _, _, _, _ => trivial
 | p :: l, h, 0, w, w', v, hp => h.1 w w' v hp
 | p :: l, h, i + 1, w, w', v, hp => AllLit.nth (l := l) h.2 i w w' v hp
def StepH (P : Program) (l : List Oper) (S : List (World → Value → Prop)) (ds : List Tmp) (a0 : Act) (w0 : World) (h g : Nat) (cur cur' : Array Value) (T : TypeId) (i : Nat) (o : Oper) : Prop :=
 o.guard = none ∧ ∀ (a' : Act) (w' : World), BelowX (fun k => k = g) w0 w' → FreeD ds a' a0 → DepS l S o a' w' →
  if i = h then (∀ c, (c = cur ∨ c = cur') → Blk w' g c T → ∃ w'', (execOp a'.eval o).run P w' = .ok .skip w'' ∧ Blk w'' g cur' T ∧ BelowX (fun k => k = g) w' w'')
  else ((∀ os, l[h]? = some os → (os.after.any fun e => Region.binds .any e && e.on == i) = true → Blk w' g cur T) → Outcome P (nthS S) a' w' i o)
def StepsH (P : Program) (l : List Oper) (S : List (World → Value → Prop)) (ds : List Tmp) (a0 : Act) (w0 : World) (h g : Nat) (cur cur' : Array Value) (T : TypeId) : Nat → List Oper → Prop
 | _, [] => True
 | i, o :: r => StepH P l S ds a0 w0 h g cur cur' T i o ∧ StepsH P l S ds a0 w0 h g cur cur' T (i + 1) r
theorem stepsH_get {l : List Oper} {S : List (World → Value → Prop)} {ds : List Tmp} {h g : Nat} {cur cur' : Array Value} {T : TypeId} : ∀ (r : List Oper) (k : Nat), StepsH P l S ds a w h g cur cur' T k r → ∀ i o, r[i]? = some o → StepH P l S ds a w h g cur cur' T (k + i) o
 | [], _, _, i, o, h => by simp at h
 | x :: r, k, h, 0, o, ho => by
  simp at ho; subst ho; exact h.1
 | x :: r, k, h, i + 1, o, ho => by
  have := stepsH_get r (k + 1) h.2 i o (by simpa using ho)
  rwa [Nat.add_assoc, Nat.add_comm 1 i] at this
theorem stepH_val {i : Nat} (hg : o.guard = none) (hi : Nat.beq i h = false)
  (hh : ∀ (a' : Act) (w' : World), BelowX (fun k => k = g) w w' → FreeD ds a' a → DepS l S o a' w' → (∀ os, l[h]? = some os → (os.after.any fun e => Region.binds .any e && e.on == i) = true → Blk w' g cur T) → Outcome P (nthS S) a' w' i o) : StepH P l S ds a w h g cur cur' T i o :=
 ⟨hg, fun a' w' h1 h2 h3 => by rw [if_neg (fun e => by rw [e] at hi; simp at hi)]; exact hh a' w' h1 h2 h3⟩
theorem stepH_hot (hg : o.guard = none)
  (hh : ∀ (a' : Act) (w' : World), BelowX (fun k => k = g) w w' → FreeD ds a' a → DepS l S o a' w' → ∀ c, (c = cur ∨ c = cur') → Blk w' g c T → ∃ w'', (execOp a'.eval o).run P w' = .ok .skip w'' ∧ Blk w'' g cur' T ∧ BelowX (fun k => k = g) w' w'') : StepH P l S ds a w h g cur cur' T h o :=
 ⟨hg, fun a' w' h1 h2 h3 => by rw [if_pos rfl]; exact hh a' w' h1 h2 h3⟩
theorem x_drawnH (n h g : Nat) (cur cur' : Array Value) (T : TypeId) (S : List (World → Value → Prop)) (ds : List Tmp) (hs : a.tmps.size = N) (hdf : a.defers = dl) (hm : P.follows .mixedOrders = true) (hnd : noDef l.toArray = true) (hd : dstsB2 l (kdH h) n N = true) (ht : tailB2 l n = true) (hds : dstsOf (l.take n) = ds)
  (hh : Nat.blt h n = true) (hnone : dstOf l h = none) (hS : AllLit S) (hB : Blk w g cur T) (hstep : StepsH P l S ds (putsR a r) w h g cur cur' T 0 (l.take n))
  (hend : ∀ (a' : Act) (w' : World), a'.tmps.size = N → a'.defers = dl → BelowX (fun k => k = g) w w' → Blk w' g cur' T → FreeD ds a' (putsR a r) → (∀ i d, Nat.blt i n = true → dstOf l i = some d → nthS S i w' (a'.eval (.tmp d))) → wpList P l.toArray Q (l.drop n) (putsR a' []) w') :
  WP2 b P (.region id l.toArray true) Q (putsR a r) w := by
 refine w2_any hm hnd (region_hotA n (kdH h) (nthS S) (fun L w => Blk w g (bif L h then cur' else cur) T) (fun k => k = g) hm (by rw [putsR_size, hs]; exact hd) ht (fun i w w' v hv _ => hS.nth i w w' v hv) (fun L w w' hL hb => hL.old hb) (fun L i w hk hL => ?_) (fun i _ _ hk => by unfold kdH at hk; split at hk <;> cases hk) hB (fun i o hi ho => ?_) (fun L a' w' hb hsz hdf' hO hV hall hH hap => ?_))
 ·have hne : (h == i) = false := by
   cases e : (h == i) with
   | false => rfl
   | true => exact absurd (by unfold kdH; rw [if_pos (beq_iff_eq.1 e).symm]) hk
  simp only [hne, Bool.or_false]
  exact hL
 ·obtain ⟨hg, hst⟩ := stepsH_get _ _ hstep i o (by rw [List.getElem?_take, if_pos hi]; exact ho)
  intro L a' w' hat
  have hO : FreeD ds a' (putsR a r) := fun t htn => hat.others t (contains_of hds htn)
  have hD : DepS l S o a' w' := by
   intro j d hj hd'
   obtain ⟨e, he, hbb⟩ := Array.any_eq_true'.1 hj
   simp only [Bool.and_eq_true, beq_iff_eq] at hbb
   have hk : kdH h e.on ≠ .hot := fun hk => by
    unfold kdH at hk
    split at hk
    ·rename_i hoh
     rw [hbb.2] at hoh
     rw [hoh, hnone] at hd'
     cases hd'
    ·cases hk
   have := hat.deps e he hbb.1 d hk (by rw [hbb.2]; exact hd')
   rw [hbb.2] at this
   exact this
  have h0 := hst a' w' hat.grow hO hD
  rw [Nat.zero_add] at h0
  by_cases e : i = h
  ·rw [if_pos e] at h0
   refine ⟨fun hk => absurd (by unfold kdH; rw [if_pos e]) hk, fun _ => ?_⟩
   have hH := hat.hot
   have hc : ∃ c, (c = cur ∨ c = cur') ∧ Blk w' g c T := by
    cases hL : L h with
    | true => rw [hL] at hH; exact ⟨cur', .inr rfl, hH⟩
    | false => rw [hL] at hH; exact ⟨cur, .inl rfl, hH⟩
   obtain ⟨c, hcc, hcb⟩ := hc
   obtain ⟨w'', h1, h2, h3⟩ := h0 c hcc hcb
   exact ⟨w'', h1, h3, by simp only [e, beq_self_eq_true, Bool.or_true, cond_true]; exact h2⟩
  ·rw [if_neg e] at h0
   have hk : kdH h i ≠ .hot := by unfold kdH; rw [if_neg e]; decide
   refine ⟨fun _ j hj K hK => ?_, fun hk' => absurd hk' hk⟩
   have hw : j = true := by rw [← hj]; simp [Region.wanted, hg]
   rw [if_pos hw]
   refine (h0 (fun os ho' hany => ?_)).wp (fun v w'' h1 h2 => hK v w'' h1 h2 (fun hk' => by unfold kdH at hk'; rw [if_neg e] at hk'; cases hk'))
   have := hat.later h os ho' hany
   have hH := hat.hot
   rw [this] at hH
   exact hH
 ·have hH' : Blk w' g cur' T := by rw [hall h (by simpa using hh)] at hH; exact hH
  exact hend a' w' (by rw [hsz, putsR_size, hs]) (by rw [hdf', putsR_defers, hdf]) hb hH' (fun t htn => hO t (contains_of hds htn)) (fun i d hi hd' => hV i (by simpa using hi) (fun hk => by
   unfold kdH at hk
   split at hk
   ·rename_i e; rw [e, hnone] at hd'; cases hd'
   ·cases hk) d hd')
end
theorem MarkD.keepX (h : MarkD w D) (hB : Blk w g cur T) (hb : BelowX (fun k => k = g) w w') : MarkD w' D := by
 refine (hb.block D (Array.getElem?_eq_some_iff.1 h).1 (fun e => ?_)).trans h
 subst e
 unfold MarkD at h
 unfold Blk at hB
 rw [h] at hB
 cases hB
theorem MarkD.grown {base c n : Nat} {A : Option Addr} {xs : List Nat} (h : MarkD w D) (ho : Own w base A c xs) (hg : w.grownBy w' (Value.slice A n c).ownBlock) : MarkD w' D := by
 refine (hg.block D (Array.getElem?_eq_some_iff.1 h).1 (fun e => ?_)).trans h
 unfold MarkD at h
 rcases ho.row.2 with ⟨hv, _⟩ | ⟨q, cap, cur', hv, _, hh, _⟩
 ·simp only [Value.slice.injEq] at hv
  obtain ⟨rfl, _⟩ := hv
  cases e
 ·simp only [Value.slice.injEq] at hv
  obtain ⟨rfl, _⟩ := hv
  cases e
  rw [h] at hh
  cases hh
end Go.Proofs.YtkhbihnnkflfkaaGreat
