/-
 DrawnMM · REnd · ROne · RFeed, IN ONE TEXT.
-/
import Derived.Test.YtggalcdkfielkaaFeedM
import Derived.Test.YtggalcdkfielkaaRCwM
/-
 A REGION THAT DRAWS ITS ORDER, two of whose calls, one behind the other, change the blocks X.
-/
namespace Go.Proofs.Ytggalcdkfielkaa
open Go.RowKit
set_option linter.unusedVariables false
set_option linter.unusedSimpArgs false
set_option maxRecDepth 100000

section
variable {b : Bool} {P : Program} {Q : Exit → Act → World → Prop} {a : Act} {w : World}
/-- What holds of the first n operations, those that are through (L). -/
structure InvMM (l : List Oper) (S : List (World → Value → Prop)) (H0 H1 H2 : World → Prop) (X : Nat → Prop) (n h1 h2 : Nat) (a0 : Act) (w0 : World) (L : Nat → Bool) (a : Act) (w : World) : Prop where
 tmps : a.tmps.size = a0.tmps.size
 defers : a.defers = a0.defers
 grow : BelowX X w0 w
 others : ∀ t, (∀ j, j < n → dstOf l j ≠ some t) → a.eval (.tmp t) = a0.eval (.tmp t)
 vals : ∀ i, i < n → L i = true → ∀ d, dstOf l i = some d → nthS S i w (a.eval (.tmp d))
 hot : if L h2 = true then H2 w else if L h1 = true then H1 w else H0 w
 ord : L h2 = true → L h1 = true
def StepMM (P : Program) (l : List Oper) (S : List (World → Value → Prop)) (H0 H1 H2 Kp : World → Prop) (X : Nat → Prop) (ds : List Tmp) (a0 : Act) (w0 : World) (h1 h2 i : Nat) (o : Oper) : Prop :=
 o.guard = none ∧ ∀ (a' : Act) (w' : World), BelowX X w0 w' → FreeD ds a' a0 → DepS l S o a' w' → if i = h1 then (H0 w' → OutM P S X H1 a' w' i o) else if i = h2 then (H1 w' → OutM P S X H2 a' w' i o) else (Kp w' → Outcome P (nthS S) a' w' i o)
def StepsMM (P : Program) (l : List Oper) (S : List (World → Value → Prop)) (H0 H1 H2 Kp : World → Prop) (X : Nat → Prop) (ds : List Tmp) (a0 : Act) (w0 : World) (h1 h2 : Nat) : Nat → List Oper → Prop
 | _, [] => True
 | i, o :: r => StepMM P l S H0 H1 H2 Kp X ds a0 w0 h1 h2 i o ∧ StepsMM P l S H0 H1 H2 Kp X ds a0 w0 h1 h2 (i + 1) r
theorem stepsMM_get {l : List Oper} {S : List (World → Value → Prop)} {H0 H1 H2 Kp : World → Prop} {X : Nat → Prop} {ds : List Tmp} {h1 h2 : Nat} : ∀ (r : List Oper) (k : Nat), StepsMM P l S H0 H1 H2 Kp X ds a w h1 h2 k r → ∀ i o, r[i]? = some o → StepMM P l S H0 H1 H2 Kp X ds a w h1 h2 (k + i) o
 | [], _, _, i, o, h => by simp at h
 | x :: r, k, h, 0, o, ho => by
  simp at ho; subst ho; exact h.1
 | x :: r, k, h, i + 1, o, ho => by
  have := stepsMM_get r (k + 1) h.2 i o (by simpa using ho)
  rwa [Nat.add_assoc, Nat.add_comm 1 i] at this
theorem stepMM_val {l : List Oper} {S : List (World → Value → Prop)} {H0 H1 H2 Kp : World → Prop} {X : Nat → Prop} {ds : List Tmp} {h1 h2 i : Nat} {o : Oper} (hg : o.guard = none) (hi : (Nat.beq i h1 || Nat.beq i h2) = false)
  (hh : ∀ (a' : Act) (w' : World), BelowX X w w' → FreeD ds a' a → DepS l S o a' w' → Kp w' → Outcome P (nthS S) a' w' i o) : StepMM P l S H0 H1 H2 Kp X ds a w h1 h2 i o :=
 ⟨hg, fun a' w' q1 q2 q3 => by
  rw [if_neg (fun e => by rw [e] at hi; simp at hi), if_neg (fun e => by rw [e] at hi; simp at hi)]; exact hh a' w' q1 q2 q3⟩
theorem stepMM_one {l : List Oper} {S : List (World → Value → Prop)} {H0 H1 H2 Kp : World → Prop} {X : Nat → Prop} {ds : List Tmp} {h1 h2 : Nat} {o : Oper} (hg : o.guard = none)
  (hh : ∀ (a' : Act) (w' : World), BelowX X w w' → FreeD ds a' a → DepS l S o a' w' → H0 w' → OutM P S X H1 a' w' h1 o) : StepMM P l S H0 H1 H2 Kp X ds a w h1 h2 h1 o :=
 ⟨hg, fun a' w' q1 q2 q3 => by rw [if_pos rfl]; exact hh a' w' q1 q2 q3⟩
theorem stepMM_two {l : List Oper} {S : List (World → Value → Prop)} {H0 H1 H2 Kp : World → Prop} {X : Nat → Prop} {ds : List Tmp} {h1 h2 : Nat} {o : Oper} (hg : o.guard = none) (hne : Nat.beq h2 h1 = false)
  (hh : ∀ (a' : Act) (w' : World), BelowX X w w' → FreeD ds a' a → DepS l S o a' w' → H1 w' → OutM P S X H2 a' w' h2 o) : StepMM P l S H0 H1 H2 Kp X ds a w h1 h2 h2 o :=
 ⟨hg, fun a' w' q1 q2 q3 => by rw [if_neg (fun e => by rw [e] at hne; simp at hne), if_pos rfl]; exact hh a' w' q1 q2 q3⟩
theorem x_drawnMM {id : Nat} {l : List Oper} {r : List (Tmp × Value)} {N : Nat} {dl : List Deferred} (n h1 h2 : Nat) (X : Nat → Prop) (H0 H1 H2 Kp : World → Prop) (S : List (World → Value → Prop)) (ds : List Tmp) (hs : a.tmps.size = N) (hdf : a.defers = dl) (hm : P.follows .mixedOrders = true) (hnd : noDef l.toArray = true) (hd : dstsB2 l (fun _ => .val) n N = true) (ht : tailB2 l n = true) (hds : dstsOf (l.take n) = ds)
  (hh2 : Nat.blt h2 n = true) (hed : ((l.map Oper.after).getD h2 #[]).any (fun e => Region.binds .any e && e.on == h1) = true) (hk0 : ∀ w, H0 w → Kp w) (hk1 : ∀ w, H1 w → Kp w) (hk2 : ∀ w, H2 w → Kp w) (hS : AllStX X S) (hH0 : ∀ w' w'', H0 w' → Below w'.heap.size w' w'' → H0 w'') (hH1 : ∀ w' w'', H1 w' → Below w'.heap.size w' w'' → H1 w'') (hH2 : ∀ w' w'', H2 w' → Below w'.heap.size w' w'' → H2 w'') (h0 : H0 w) (hstep : StepsMM P l S H0 H1 H2 Kp X ds (putsR a r) w h1 h2 0 (l.take n))
  (hend : ∀ (a' : Act) (w' : World), a'.tmps.size = N → a'.defers = dl → BelowX X w w' → H2 w' → FreeD ds a' (putsR a r) → (∀ i d, Nat.blt i n = true → dstOf l i = some d → nthS S i w' (a'.eval (.tmp d))) → wpList P l.toArray Q (l.drop n) (putsR a' []) w') :
  WP2 b P (.region id l.toArray true) Q (putsR a r) w := by
 refine w2_any hm hnd (region_headA n (InvMM l S H0 H1 H2 X n h1 h2 (putsR a r) w) hm ht ⟨rfl, rfl, ⟨rfl, rfl, rfl, Nat.le_refl _, fun _ _ _ => rfl⟩, fun _ _ => rfl, fun _ _ hL => (by cases hL), by simpa using hH0 _ _ h0 ((Below.refl _ _).drew), fun hL => (by cases hL)⟩ ?_ ?_)
 ·intro i o hi ho L a' w' inv hun hcl hdep hlow j hj K hK
  obtain ⟨hg, hst⟩ := stepsMM_get _ _ hstep i o (by rw [List.getElem?_take, if_pos hi]; exact ho)
  rw [Nat.zero_add] at hst
  have hw : j = true := by rw [← hj]; simp [Region.wanted, hg]
  rw [if_pos hw]
  have hO : FreeD ds a' (putsR a r) := fun t htn => inv.others t (contains_of hds htn)
  have hD : DepS l S o a' w' := by
   intro j d hj' hd'
   obtain ⟨e, he, hbb⟩ := Array.any_eq_true'.1 hj'
   simp only [Bool.and_eq_true, beq_iff_eq] at hbb
   have hLe := hdep e he hbb.1
   rw [hbb.2] at hLe
   exact inv.vals j (hlow j hLe) hLe d hd'
  have hq := hst a' w' inv.grow hO hD
  obtain ⟨d, hdi, hdl, hdne⟩ := dstsB2_val hd hi (by decide)
  have hod : o.dst = some d := by simpa [dstOf, ho] using hdi
  have hdl2 : d < a'.tmps.size := by rw [inv.tmps, putsR_size, hs]; exact hdl
  have hdep1 : i = h2 → L h1 = true := by
   rintro rfl
   have e1 : (l.map Oper.after).getD i #[] = o.after := by rw [List.getD_eq_getElem?_getD, List.getElem?_map, ho]; rfl
   rw [e1] at hed
   obtain ⟨e, he, hbb⟩ := Array.any_eq_true'.1 hed
   simp only [Bool.and_eq_true, beq_iff_eq] at hbb
   have hLe := hdep e he hbb.1
   rwa [hbb.2] at hLe
  -- whatever it comes to: the frame behind it
  have next : ∀ (v : Value) (w'' : World), nthS S i w'' v → BelowX X w' w'' → (if (L h2 || h2 == i) = true then H2 w'' else if (L h1 || h1 == i) = true then H1 w'' else H0 w'') → InvMM l S H0 H1 H2 X n h1 h2 (putsR a r) w (fun k => L k || k == i) (a'.put o.dst v) w'' := by
   intro v w'' hSv hb hH
   rw [hod]
   have hsame : (a'.put (some d) v).eval (.tmp d) = v := eval_put_same hdl2
   have hoth : ∀ i' d', i' < n → i' ≠ i → dstOf l i' = some d' → (a'.put (some d) v).eval (.tmp d') = a'.eval (.tmp d') := fun i' d' hi' hne hd' => eval_put_other (fun e => hdne i' hi' (fun h => hne h.symm) (by rw [hd', e]))
   refine ⟨by simpa [Act.put] using inv.tmps, inv.defers, inv.grow.trans hb, fun t htn => ?_, fun i' hi' hL d' hd' => ?_, hH, fun hL => ?_⟩
   ·rw [eval_put_other (fun e => htn i hi (by rw [hdi, e]))]
    exact inv.others t htn
   ·by_cases hii : i' = i
    ·subst hii
     rw [hdi] at hd'
     cases hd'
     rw [hsame]; exact hSv
    ·rw [hoth i' d' hi' hii hd']
     exact hS.nth _ _ _ _ (inv.vals i' hi' (by simpa [hii] using hL) d' hd') hb
   ·simp only [Bool.or_eq_true, beq_iff_eq] at hL ⊢
    rcases hL with hL | hL
    ·exact .inl (inv.ord hL)
    ·exact .inl (hdep1 hL.symm)
  have hH := inv.hot
  by_cases e : i = h1
  ·rw [if_pos e] at hq
   have hL2 : L h2 = false := by
    cases h : L h2
    ·rfl
    ·have := inv.ord h; rw [← e, hun] at this; cases this
   rw [hL2, if_neg (by simp), if_neg (by rw [← e, hun]; simp)] at hH
   obtain ⟨f, vs, hr, hc⟩ := hq hH
   unfold Oper.wp
   rw [hr]
   refine Calls.mono hc ?_
   rintro e' w'' ⟨v, rfl, hSv, hb, hH1'⟩
   refine hK _ _ (next v w'' hSv hb ?_)
   have e3 : (h2 == i) = false := by
    cases h : h2 == i
    ·rfl
    ·have h9 := hdep1 (by simpa using (beq_iff_eq.1 h).symm); rw [← e, hun] at h9; cases h9
   rw [hL2, e3, if_neg (by simp), if_pos (by simp [e])]; exact hH1'
  ·rw [if_neg e] at hq
   have e2 : (h1 == i) = false := by simpa using fun e' => e e'.symm
   by_cases e4 : i = h2
   ·rw [if_pos e4] at hq
    have hL1 := hdep1 e4
    rw [← e4, hun, if_neg (by simp), if_pos hL1] at hH
    obtain ⟨f, vs, hr, hc⟩ := hq hH
    unfold Oper.wp
    rw [hr]
    refine Calls.mono hc ?_
    rintro e' w'' ⟨v, rfl, hSv, hb, hH1'⟩
    exact hK _ _ (next v w'' hSv hb (by rw [if_pos (by simp [e4])]; exact hH1'))
   ·rw [if_neg e4] at hq
    have e3 : (h2 == i) = false := by simpa using fun e' => e4 e'.symm
    have hKw : Kp w' := by
     split at hH
     ·exact hk2 _ hH
     ·split at hH
      ·exact hk1 _ hH
      ·exact hk0 _ hH
    refine (hq hKw).wp (fun v w'' hSv hb => hK _ _ (next v w'' hSv (BelowX.of hb) ?_))
    rw [e3, e2, Bool.or_false, Bool.or_false]
    split
    ·rename_i hL; rw [if_pos hL] at hH; exact hH2 _ _ hH hb
    ·rename_i hL
     rw [if_neg hL] at hH
     split
     ·rename_i hL3; rw [if_pos hL3] at hH; exact hH1 _ _ hH hb
     ·rename_i hL3; rw [if_neg hL3] at hH; exact hH0 _ _ hH hb
 ·intro L a' w' inv hall
  have hH := inv.hot
  rw [if_pos (hall h2 (by simpa using hh2))] at hH
  exact hend a' w' (by rw [inv.tmps, putsR_size, hs]) (by rw [inv.defers, putsR_defers, hdf]) inv.grow hH (fun t htn => inv.others t (contains_of hds htn)) (fun i d hi hd' => inv.vals i (by simpa using hi) (hall i (by simpa using hi)) d hd')
end
end Go.Proofs.Ytggalcdkfielkaa
/-
 WALKS: the reference's end of records: NewEnd, went, Put, take, one.
-/
namespace Go.Proofs.Ytggalcdkfielkaa
open Go.RowKit
set_option linter.unusedVariables false
set_option linter.unusedSimpArgs false
set_option maxRecDepth 100000
attribute [local irreducible] wpList wpListIn putsR

theorem everyMM (z : Int) : (max 1 (min z 4294967296)) = ((everyN z : Nat) : Int) := by unfold everyN; rw [Int.toNat_of_nonneg (by omega)]
/-- An end lies at ge, its cipher at gc (N: its blocks), what waits at A; z: how long the body is that is awaited. -/
structure EndP (w : World) (N : Nat → Prop) (ge gc : Nat) (A : Option Addr) (c : Nat) (r : Rd) (z : Nat) : Prop where
 cip : CipherRt w N gc r.co.k r.co.n
 blk : Blk w ge #[.pointer (some ⟨gc, 0, none⟩), .int .i64 ((r.co.every : Nat) : Int), .int .i64 ((r.co.cnt : Nat) : Int), .slice A (r.wait.length) c, .int .i64 ((z : Nat) : Int), .bool r.dead] 51
 wt : Wt w A c r.wait
 apart : ¬ N ge
def Zr (r : Rd) (z : Nat) : Prop := z = r.body - 16 ∧ (r.body = 0 ∨ 80 ≤ r.body) ∧ r.body ≤ 65535
theorem EndP.nx {w w' : World} {N : Nat → Prop} {ge gc c z : Nat} {A : Option Addr} {r : Rd} (h : EndP w N ge gc A c r z) (hb : Below w.heap.size w w') : EndP w' N ge gc A c r z :=
 ⟨h.cip.nx hb, h.blk.nx hb, h.wt.nx hb, h.apart⟩
/-- An end lies at ge, its cipher at gc; M: all their blocks. -/
structure EndAt (w : World) (M : Nat → Prop) (ge gc : Nat) (r : Rd) : Prop where
 lt : Lt w M
 every : 1 ≤ r.co.every
 row : ∃ N A c z, EndP w N ge gc A c r z ∧ (r.dead = false → Zr r z) ∧ M ge ∧ (∀ j, N j → M j) ∧ ∀ j, blkA A j → M j
theorem EndAt.keep {w w' : World} {M : Nat → Prop} {ge gc : Nat} {r : Rd} (h : EndAt w M ge gc r) (hb : KeptM M w w') (hs : w.heap.size ≤ w'.heap.size) : EndAt w' M ge gc r := by
 obtain ⟨N, A, c, z, hP, hz, hg, hN, hA⟩ := h.row
 exact ⟨h.lt.up hs, h.every, N, A, c, z, ⟨hP.cip.keep (fun j hj => hb j (hN j hj)) hs, (hb ge hg).trans hP.blk, hP.wt.keep (fun j hj => hb j (hA j hj)), hP.apart⟩, hz, hg, hN, hA⟩
theorem EndAt.nx {w w' : World} {M : Nat → Prop} {ge gc : Nat} {r : Rd} (h : EndAt w M ge gc r) (hb : Below w.heap.size w w') : EndAt w' M ge gc r := h.keep (kept_of hb h.lt) hb.size
theorem EndAt.keepM {w w' : World} {M X : Nat → Prop} {ge gc : Nat} {r : Rd} (h : EndAt w M ge gc r) (hb : BelowX X w w') (hs : Sep M X) : EndAt w' M ge gc r := h.keep (hb.kept h.lt hs) hb.size
theorem CipherRt.keepXX {w w' : World} {M : Nat → Prop} {g g' n : Nat} {k : List Nat} (h : CipherRt w M g k n) (hb : BelowX (fun j => j = g') w w') (hs : ¬ M g') : CipherRt w' M g k n := h.keepM hb (fun j hj e => hs (e ▸ hj))
theorem CipherRt.keepX {w w' : World} {M : Nat → Prop} {g g' n : Nat} {k : List Nat} (h : CipherRt w M g k n) (hb : BelowX (fun j => j = g') w w') (hs : ¬ M g') : CipherRt w' M g k n := h.keepXX hb hs
theorem Wt.keepR {w w' : World} {c ge gc n : Nat} {A : Option Addr} {xs : List Nat} {cur : Array Value} {T : TypeId} {N : Nat → Prop} {k : List Nat} (h : Wt w A c xs) (hB : Blk w ge cur T) (hT : T ≠ 5) (hC : CipherRt w N gc k n) (hb : BelowX (fun j => j = ge ∨ j = gc) w w') : Wt w' A c xs := by
 obtain ⟨cu, hc⟩ := hC.blk
 exact h.keep (hb.kept h.lt (fun j hj e => e.elim (fun e => h.sepB hB hT (e ▸ hj)) (fun e => h.sepB hc (by decide) (e ▸ hj))))
theorem Own.keepR {w w' : World} {B c ge gc n : Nat} {A : Option Addr} {xs : List Nat} {cur : Array Value} {T : TypeId} {N : Nat → Prop} {k : List Nat} (h : Own w B A c xs) (hB : Blk w ge cur T) (hT : T ≠ 5) (hC : CipherRt w N gc k n) (hb : BelowX (fun j => j = ge ∨ j = gc) w w') : Own w' B A c xs := by
 obtain ⟨cu, hc⟩ := hC.blk
 exact h.keepM hb (fun j hj e => e.elim (fun e => h.sepB hB hT (e ▸ hj)) (fun e => h.sepB hc (by decide) (e ▸ hj)))
theorem NewEnd_any {M : Nat → Prop} {gc num : Nat} {ks : List Nat} (z : Int) (w : World) (hC : CipherRt w M gc ks num) :
  Calls Try.prog 19 #[.pointer (some ⟨gc, 0, none⟩), .int .i64 (z)] w fun e w' => ∃ (M' : Nat → Prop) (ge : Nat), e = .returned (.pointer (some ⟨ge, 0, none⟩)) ∧ EndAt w' M' ge gc ⟨⟨ks, num, everyN z, 0⟩, [], 0, false⟩ ∧ NextM w M M' ∧ Below w.heap.size w w' := by
 refine x_enter 11 Try.func19 rfl rfl (fun a hs hd ha0 => ?_)
 have t0 : a.eval (.tmp 0) = .pointer (some ⟨gc, 0, none⟩) := ha0 0 _ rfl
 have t1 : a.eval (.tmp 1) = .int .i64 (z) := ha0 1 _ rfl
 clear ha0
 refine w2_sr (fun K_1 hK_1 => ?_)
 refine q_as (.pointer none) rfl ?_
 refine x_nil (hK_1 _ _ ?_)
 refine w2_sr (fun K_2 hK_2 => ?_)
 refine q_mv ((pm rfl).trans t0) ?_
 refine q_mv ((pm rfl).trans t1) ?_
 refine q_v 7 (.int .i64 (min z 4294967296)) (o_minZ rfl (pe hs rfl rfl) rfl) ?_
 refine q_v 8 (.int .i64 ((everyN z : Nat) : Int)) (o_eq (o_max rfl rfl (pe hs rfl rfl)) (congrArg (Value.int .i64) (everyMM z))) ?_
 refine q_v 9 (.agg #[.pointer (some ⟨gc, 0, none⟩), .int .i64 ((everyN z : Nat) : Int), .int .i64 ((0 : Nat) : Int), .slice none (0) (0), .int .i64 ((0 : Nat) : Int), .bool (false)]) (o_bld (vs := #[(0, .pointer (some ⟨gc, 0, none⟩)), (1, .int .i64 ((everyN z : Nat) : Int))]) (v := .agg #[.pointer (some ⟨gc, 0, none⟩), .int .i64 ((everyN z : Nat) : Int), .int .i64 ((0 : Nat) : Int), .slice none (0) (0), .int .i64 ((0 : Nat) : Int), .bool (false)]) rfl (bld2 (pe hs rfl rfl) (pe hs rfl rfl)) (fun _ => by kernel_rfl)) ?_
 refine op_ex (d := 10) rfl rfl (o_boxL (cs := #[.pointer (some ⟨gc, 0, none⟩), .int .i64 ((everyN z : Nat) : Int), .int .i64 ((0 : Nat) : Int), .slice none (0) (0), .int .i64 ((0 : Nat) : Int), .bool (false)]) rfl (pe hs rfl rfl)) (fun v_1 w_1 hR_1 => ?_)
 obtain ⟨g_1, rfl, hle_1, hB_1, hb_1⟩ := hR_1
 have ge_1 : w.heap.size ≤ g_1 := hle_1
 refine q_at (pe hs rfl rfl) ?_
 refine x_nil (hK_2 _ _ ?_)
 refine w2_ret ?_
 refine ret1 rfl hd (pe hs rfl rfl) ?_
 exact ⟨MX w M w_1, g_1, rfl, ⟨hC.lt.mx hb_1.size, everyN_pos z, M, none, 0, 0, ⟨hC.nx hb_1, hB_1, Wt.nil _, fun h => absurd (hC.lt _ h) (by have := ge_1; omega)⟩, fun _ => ⟨rfl, .inl rfl, Nat.zero_le _⟩, .inr ⟨ge_1, hB_1.lt⟩, fun j hj => .inl hj, fun j hj => absurd hj blkA_none⟩, fun j hj => hj.imp id (fun h => h.1), hb_1⟩
theorem went_any {N : Nat → Prop} {ge gc ev cnt num z wl c : Nat} {A : Option Addr} {ks : List Nat} {dead : Bool} (w : World) (hB : Blk w ge #[.pointer (some ⟨gc, 0, none⟩), .int .i64 ((ev : Nat) : Int), .int .i64 ((cnt : Nat) : Int), .slice A (wl) (c), .int .i64 ((z : Nat) : Int), .bool (dead)] 51) (hC : CipherRt w N gc ks num) (hn : ¬ N ge) (he : 1 ≤ ev) (hc : cnt < 4611686018427387904) :
  Calls Try.prog 46 #[.pointer (some ⟨ge, 0, none⟩)] w fun e w' => e = .returned (.tuple #[]) ∧ (∃ N', CipherRt w' N' gc (if (cnt + 1) % ev = 0 then rekeyL ks else ks) num ∧ NextM w N N') ∧ Blk w' ge #[.pointer (some ⟨gc, 0, none⟩), .int .i64 ((ev : Nat) : Int), .int .i64 ((cnt + 1 : Nat) : Int), .slice A (wl) (c), .int .i64 ((z : Nat) : Int), .bool (dead)] 51 ∧ BelowX (fun j => j = ge ∨ j = gc) w w' := by
 have hmod := Nat.mod_le (cnt + 1) ev
 refine x_enter 24 Try.func46 rfl rfl (fun a hs hd ha0 => ?_)
 have t0 : a.eval (.tmp 0) = .pointer (some ⟨ge, 0, none⟩) := ha0 0 _ rfl
 clear ha0
 have HB0 : BelowX (fun j => j = ge ∨ j = gc) w w := BelowX.refl _ _
 refine w2_sr (fun K_1 hK_1 => ?_)
 refine q_mv ((pm rfl).trans t0) ?_
 refine q_nc (pe hs rfl rfl) ?_
 refine q_fa 2 (pe hs rfl rfl) ?_
 refine q_ld (v := .int .i64 ((cnt : Nat) : Int)) (pe hs rfl rfl) hB rfl ?_
 refine q_v 6 (.int .i64 ((cnt + 1 : Nat) : Int)) (o_add64 (m := cnt) (n := 1) rfl (pe hs rfl rfl) rfl (by omega)) ?_
 refine q_nc (pe hs rfl rfl) ?_
 refine q_fa 2 (pe hs rfl rfl) ?_
 refine op_do rfl rfl (o_store1 rfl (pe hs rfl rfl) (pe hs rfl rfl) rfl rfl hB (by simp only [List.length_cons, List.length_nil]; omega) ⟨by kernel_rfl, by kernel_rfl⟩) (fun w_1 hR_1 => ?_)
 obtain ⟨hB_1, hX_1⟩ := hR_1
 replace hC := hC.keepX hX_1 hn
 have HB_1 := HB0.step hX_1 (fun k hk (hY : k = ge) => .inl hY)
 clear hB
 simp only [List.set_cons_zero, List.set_cons_succ] at hB_1
 refine x_nil (hK_1 _ _ ?_)
 refine w2_seq (fun K_2 hK_2 => ?_)
 refine x_drawn 8 [fun _ v => v = .pointer (some ⟨ge, 0, none⟩), fun _ v => v = .pointer (some ⟨ge, 0, none⟩), fun _ v => v = .pointer (some ⟨ge, 2, none⟩), fun _ v => v = .int .i64 ((cnt + 1 : Nat) : Int), fun _ v => v = .pointer (some ⟨ge, 0, none⟩), fun _ v => v = .pointer (some ⟨ge, 0, none⟩), fun _ v => v = .pointer (some ⟨ge, 1, none⟩), fun _ v => v = .int .i64 ((ev : Nat) : Int)] [9, 10, 11, 12, 13, 14, 15, 16] hs hd (by kernel_rfl) (by kernel_rfl) (by kernel_rfl) (by kernel_rfl) (by kernel_rfl) ⟨stLit, stLit, stLit, stLit, stLit, stLit, stLit, stLit, trivial⟩ ⟨(step_ok rfl (fun a' w' hb' hO hD => by
   have d_1 := (hO 0 (by decide)).trans ((pm rfl).trans t0)
   exact .inl ⟨_, _, (o_move rfl d_1), rfl, Below.refl _ _⟩)),
(step_ok rfl (fun a' w' hb' hO hD => by
   have d_2 : a'.eval (.tmp 9) = .pointer (some ⟨ge, 0, none⟩) := hD 0 9 (by kernel_rfl) rfl
   exact .inl ⟨_, _, (o_nilCheck rfl d_2), rfl, Below.refl _ _⟩)),
(step_ok rfl (fun a' w' hb' hO hD => by
   have d_3 : a'.eval (.tmp 10) = .pointer (some ⟨ge, 0, none⟩) := hD 1 10 (by kernel_rfl) rfl
   exact .inl ⟨_, _, (o_field (k' := 2) rfl d_3 (fun _ => by kernel_rfl)), rfl, Below.refl _ _⟩)),
(step_ok rfl (fun a' w' hb' hO hD => by
   have d_4 : a'.eval (.tmp 11) = .pointer (some ⟨ge, 2, none⟩) := hD 2 11 (by kernel_rfl) rfl
   exact .inl ⟨_, _, (o_load1 rfl d_4 (hB_1.nx hb') rfl ⟨by kernel_rfl, by kernel_rfl⟩), rfl, Below.refl _ _⟩)),
(step_ok rfl (fun a' w' hb' hO hD => by
   have d_5 := (hO 0 (by decide)).trans ((pm rfl).trans t0)
   exact .inl ⟨_, _, (o_move rfl d_5), rfl, Below.refl _ _⟩)),
(step_ok rfl (fun a' w' hb' hO hD => by
   have d_6 : a'.eval (.tmp 13) = .pointer (some ⟨ge, 0, none⟩) := hD 4 13 (by kernel_rfl) rfl
   exact .inl ⟨_, _, (o_nilCheck rfl d_6), rfl, Below.refl _ _⟩)),
(step_ok rfl (fun a' w' hb' hO hD => by
   have d_7 : a'.eval (.tmp 14) = .pointer (some ⟨ge, 0, none⟩) := hD 5 14 (by kernel_rfl) rfl
   exact .inl ⟨_, _, (o_field (k' := 1) rfl d_7 (fun _ => by kernel_rfl)), rfl, Below.refl _ _⟩)),
(step_ok rfl (fun a' w' hb' hO hD => by
   have d_8 : a'.eval (.tmp 15) = .pointer (some ⟨ge, 1, none⟩) := hD 6 15 (by kernel_rfl) rfl
   exact .inl ⟨_, _, (o_load1 rfl d_8 (hB_1.nx hb') rfl ⟨by kernel_rfl, by kernel_rfl⟩), rfl, Below.refl _ _⟩)), trivial⟩ (fun a_1 w_2 hs_1 hd_1 hb_1 hO_1 hV_1 => ?_)
 have ta_1_0 := (hO_1 0 (by decide)).trans ((pm rfl).trans t0)
 clear t0 hd
 replace hC := hC.nx hb_1
 replace hB_1 := hB_1.nx hb_1
 have HB_2 := HB_1.then hb_1
 have ta_1_12 : a_1.eval (.tmp 12) = .int .i64 ((cnt + 1 : Nat) : Int) := hV_1 3 12 rfl rfl
 have ta_1_16 : a_1.eval (.tmp 16) = .int .i64 ((ev : Nat) : Int) := hV_1 7 16 rfl rfl
 clear hV_1 hO_1
 simp only [List.drop_succ_cons, List.drop_zero]
 refine q_v 17 (.int .i64 (((cnt + 1) % ev : Nat) : Int)) (o_rem (m := (cnt + 1)) (n := ev) rfl ((pm rfl).trans ta_1_12) ((pm rfl).trans ta_1_16) (by omega) (IntWalk.i64_in _ (by omega))) ?_
 refine q_v 18 (.bool (decide (((cnt + 1) % ev) = 0))) (o_eql (m := ((cnt + 1) % ev)) (n := 0) rfl (pe hs_1 rfl rfl) rfl) ?_
 refine x_nil (hK_2 _ _ ?_)
 refine w2_split (pe hs_1 rfl rfl) (fun h_1 => ?_) (fun h_1 => ?_)
 ·simp only [DD9] at h_1
  have hz := h_1
  refine x_region (by kernel_rfl) ?_
  refine q_mv ((pm rfl).trans ta_1_0) ?_
  refine q_nc (pe hs_1 rfl rfl) ?_
  refine q_fa 0 (pe hs_1 rfl rfl) ?_
  refine q_ld (v := .pointer (some ⟨gc, 0, none⟩)) (pe hs_1 rfl rfl) hB_1 rfl ?_
  refine q_ca (vs := #[.pointer (some ⟨gc, 0, none⟩)]) Try.func69 (args1 (pe hs_1 rfl rfl)) (CRekeyW_any _ hC) (fun e_1 w_3 hR_2 => ?_)
  obtain ⟨rfl, ⟨N_1, hC_1, hNx_1⟩, hX_2⟩ := hR_2
  replace hB_1 := hX_2.blk hB_1 (fun e => hn (by rw [e]; exact hC.mem))
  have nx_1 := (NextM.refl w N).trans hNx_1 HB_2.size
  have HB_3 := HB_2.step hX_2 (fun k hk (hY : k = gc) => .inr hY)
  refine ⟨_, rfl, ?_⟩
  refine x_nil ?_
  refine end0 rfl hd_1 ?_
  exact ⟨rfl, ⟨N_1, by rw [if_pos hz]; exact hC_1, nx_1⟩, hB_1, HB_3⟩
 ·simp only [DD9] at h_1
  have hz := h_1
  refine w2_skip ?_
  refine end0 rfl hd_1 ?_
  exact ⟨rfl, ⟨N, by rw [if_neg hz]; exact hC, (NextM.refl w N)⟩, hB_1, HB_2⟩
set_option maxHeartbeats 1000000 in
theorem EPut_any {M : Nat → Prop} {ge gc : Nat} {co : Co} {A0 : Option Addr} {c0 q : Nat} {bs : List Nat} (w : World) (hE : EndAt w M ge gc (Rd.at0 co [])) (h0 : Bs w A0 c0 bs) (hq : bs.length = q) (hl : q ≤ 4096) (hnum : co.n < 9223372036854775807) (hc : co.cnt < 4611686018427387904) :
  Calls Try.prog 21 #[.pointer (some ⟨ge, 0, none⟩), .slice A0 (q) (c0)] w fun e w' => ∃ A c, e = .returned (.tuple #[.slice A (sizeN q + 34) c, .int .i64 0]) ∧ Own w' w.heap.size A c (recL co bs) ∧ (∃ M', EndAt w' M' ge gc (Rd.at0 co.put []) ∧ NextM w M M' ∧ Sep (blkA A) M') ∧ BelowX M w w' := by
 obtain ⟨hlt, hev, N, A, c, z, ⟨hC, hB, hWt, hn⟩, hz, hMg, hMN, hMA⟩ := hE
 dsimp only [Rd.at0] at hC hB hWt hev
 have hWt0 := hWt
 have hC0 := hC.mem
 have hs2 := sizeN_top q
 have hgne : ¬ ge = gc := fun e => hn (by rw [e]; exact hC.mem)
 refine x_enter 55 Try.func21 rfl rfl (fun a hs hd ha0 => ?_)
 have t0 : a.eval (.tmp 0) = .pointer (some ⟨ge, 0, none⟩) := ha0 0 _ rfl
 have t1 : a.eval (.tmp 1) = .slice A0 (q) (c0) := ha0 1 _ rfl
 clear ha0
 have HB0 : BelowX (fun j => j = ge ∨ j = gc) w w := BelowX.refl _ _
 refine w2_sr (fun K_1 hK_1 => ?_)
 refine q_as (.slice none (0) (0)) rfl ?_
 refine q_as (.int .i64 ((0 : Nat) : Int)) rfl ?_
 refine x_nil (hK_1 _ _ ?_)
 refine w2_sr (fun K_2 hK_2 => ?_)
 refine q_mv ((pm rfl).trans t1) ?_
 refine q_ca (vs := #[.slice A0 (q) (c0)]) Try.func43 (args1 (pe hs rfl rfl)) (WrapW_any _ h0 hq hl) (fun e_1 w_1 hR_1 => ?_)
 obtain ⟨A_1, c_1, rfl, ho_1, hb_1⟩ := hR_1
 replace ho_1 := ho_1.mono HB0.size
 replace hB := hB.nx hb_1
 replace hC := hC.nx hb_1
 replace hWt := hWt.nx hb_1
 replace h0 := h0.nx hb_1
 have HB_1 := HB0.then hb_1
 refine ⟨_, rfl, ?_⟩
 refine q_mv (pe hs rfl rfl) ?_
 refine q_ex (v := .slice A_1 (sizeN q) (c_1)) (pe hs rfl rfl) rfl ?_
 refine q_ex (v := .int .i64 ((0 : Nat) : Int)) (pe hs rfl rfl) rfl ?_
 refine q_at (pe hs rfl rfl) ?_
 refine q_at (v := .int .i64 ((0 : Nat) : Int)) (pe hs rfl rfl) ?_
 refine x_nil (hK_2 _ _ ?_)
 refine w2_seq (fun K_3 hK_3 => ?_)
 refine w2_sr (fun K_4 hK_4 => ?_)
 refine q_mv (v := .int .i64 ((0 : Nat) : Int)) (pe hs rfl rfl) ?_
 refine q_v 18 (.bool (false)) (o_eq (o_neq (m := 0) (n := 0) rfl (pe hs rfl rfl) rfl) rfl) ?_
 refine x_nil (hK_4 _ _ ?_)
 refine w2_condF (pe hs rfl rfl) ?_
 refine w2_skip ?_
 refine hK_3 _ _ ?_
 refine w2_seq (fun K_5 hK_5 => ?_)
 refine w2_seq (fun K_6 hK_6 => ?_)
 obtain ⟨Ac, cc, hBc, _⟩ := hC.row
 refine x_region (by kernel_rfl) ?_
 refine q_mv ((pm rfl).trans t0) ?_
 refine q_nc (pe hs rfl rfl) ?_
 refine q_fa 0 (pe hs rfl rfl) ?_
 refine q_ld (v := .pointer (some ⟨gc, 0, none⟩)) (pe hs rfl rfl) hB rfl ?_
 refine q_nc (pe hs rfl rfl) ?_
 refine q_fa 1 (pe hs rfl rfl) ?_
 refine q_ld (v := .int .u64 ((co.n : Nat) : Int)) (pe hs rfl rfl) hBc rfl ?_
 refine q_v 27 (.bool (false)) (o_eq (o_geq (m := co.n) (n := 18446744073709551614) rfl (pe hs rfl rfl) rfl) (by rw [decide_eq_false (by omega)])) ?_
 refine x_nil (hK_6 _ _ ?_)
 refine w2_condF (pe hs rfl rfl) ?_
 refine w2_skip ?_
 refine hK_5 _ _ ?_
 refine w2_seq (fun K_7 hK_7 => ?_)
 refine x_drawnM 13 8 (fun j => j = gc) (fun w' => CipherRt w' N gc co.k co.n) (fun w' => ∃ N', CipherRt w' N' gc co.k (co.n + 1) ∧ NextM w_1 N N') [fun _ v => v = .pointer (some ⟨ge, 0, none⟩), fun _ v => v = .pointer (some ⟨ge, 0, none⟩), fun _ v => v = .pointer (some ⟨ge, 0, none⟩), fun _ v => v = .pointer (some ⟨gc, 0, none⟩), fun _ v => v = .slice A_1 (sizeN q) (c_1), fun _ v => v = .int .i64 ((sizeN q : Nat) : Int), fun _ v => v = .int .u64 ((sizeN q : Nat) : Int), fun ww vv => OwnN w_1.heap.size (2) (lenL (sizeN q)) ww vv, fun ww vv => TupN w_1.heap.size (2 + 16) (sealL co.k (nonceL co.n) [] (lenL (sizeN q))) (0) ww vv, fun ww vv => TupN w_1.heap.size (2 + 16) (sealL co.k (nonceL co.n) [] (lenL (sizeN q))) (0) ww vv, fun ww vv => OwnN w_1.heap.size (2 + 16) (sealL co.k (nonceL co.n) [] (lenL (sizeN q))) ww vv, fun _ v => v = .int .i64 ((0 : Nat) : Int), fun ww vv => OwnN w_1.heap.size (2 + 16) (sealL co.k (nonceL co.n) [] (lenL (sizeN q))) ww vv] [29, 30, 31, 32, 33, 34, 35, 36, 37, 28, 38, 39, 8] hs hd (by kernel_rfl) (by kernel_rfl) (by kernel_rfl) (by kernel_rfl) (by kernel_rfl) rfl ⟨stLitX, stLitX, stLitX, stLitX, stLitX, stLitX, stLitX, (stOwnX (fun j hj => hj ▸ hC.lt _ hC.mem)), (stTupX (fun j hj => hj ▸ hC.lt _ hC.mem)), (stTupX (fun j hj => hj ▸ hC.lt _ hC.mem)), (stOwnX (fun j hj => hj ▸ hC.lt _ hC.mem)), stLitX, (stOwnX (fun j hj => hj ▸ hC.lt _ hC.mem)), trivial⟩ (fun _ _ h hb => h.nx hb) (fun _ _ ⟨N', h, h2⟩ hb => ⟨N', h.nx hb, h2⟩) hC ⟨(stepM_val rfl rfl (fun a' w' hb' hO hD => by
   have d_1 := (hO 0 (by decide)).trans ((pm rfl).trans t0)
   exact .inl ⟨_, _, (o_move rfl d_1), rfl, Below.refl _ _⟩)),
(stepM_val rfl rfl (fun a' w' hb' hO hD => by
   have d_2 : a'.eval (.tmp 29) = .pointer (some ⟨ge, 0, none⟩) := hD 0 29 (by kernel_rfl) rfl
   exact .inl ⟨_, _, (o_nilCheck rfl d_2), rfl, Below.refl _ _⟩)),
(stepM_val rfl rfl (fun a' w' hb' hO hD => by
   have d_3 : a'.eval (.tmp 30) = .pointer (some ⟨ge, 0, none⟩) := hD 1 30 (by kernel_rfl) rfl
   exact .inl ⟨_, _, (o_field (k' := 0) rfl d_3 (fun _ => by kernel_rfl)), rfl, Below.refl _ _⟩)),
(stepM_val rfl rfl (fun a' w' hb' hO hD => by
   have d_4 : a'.eval (.tmp 31) = .pointer (some ⟨ge, 0, none⟩) := hD 2 31 (by kernel_rfl) rfl
   exact .inl ⟨_, _, (o_load1 rfl d_4 (hb'.blk hB hgne) rfl ⟨by kernel_rfl, by kernel_rfl⟩), rfl, Below.refl _ _⟩)),
(stepM_val rfl rfl (fun a' w' hb' hO hD => by
   have d_5 : a'.eval (.tmp 6) = .slice A_1 (sizeN q) (c_1) := (hO 6 (by decide)).trans (pe hs rfl rfl)
   exact .inl ⟨_, _, (o_move rfl d_5), rfl, Below.refl _ _⟩)),
(stepM_val rfl rfl (fun a' w' hb' hO hD => by
   have d_6 : a'.eval (.tmp 33) = .slice A_1 (sizeN q) (c_1) := hD 4 33 (by kernel_rfl) rfl
   exact .inl ⟨_, _, (o_len rfl d_6), rfl, Below.refl _ _⟩)),
(stepM_val rfl rfl (fun a' w' hb' hO hD => by
   have d_7 : a'.eval (.tmp 34) = .int .i64 ((sizeN q : Nat) : Int) := hD 5 34 (by kernel_rfl) rfl
   exact .inl ⟨_, _, (o_conv (m := (sizeN q)) (r := sizeN q) rfl d_7 ⟨.int .i64, fun _ => by kernel_rfl⟩ (fun _ => by kernel_rfl) (by rw [IntKind.wrap_u64]; omega)), rfl, Below.refl _ _⟩)),
(stepM_val rfl rfl (fun a' w' hb' hO hD => by
   have d_8 : a'.eval (.tmp 35) = .int .u64 ((sizeN q : Nat) : Int) := hD 6 35 (by kernel_rfl) rfl
   exact .inr ⟨_, #[.int .u64 ((sizeN q : Nat) : Int), .int .i64 ((2 : Nat) : Int)], (exec_call Try.func45 (by kernel_rfl) (by kernel_rfl) _ rfl _ _ (args2 d_8 rfl)), Calls.mono (PutHighW_two (sizeN q) _ (by omega)) (fun e w'' hR => by obtain ⟨A_2, c_2, rfl, ho_2, hb_2⟩ := hR; exact ⟨_, rfl, ⟨_, _, rfl, ho_2.mono hb'.size⟩, hb_2⟩)⟩)),
(stepM_hot rfl (fun a' w' hb' hO hD hH0 => by
   have d_9 : a'.eval (.tmp 32) = .pointer (some ⟨gc, 0, none⟩) := hD 3 32 (by kernel_rfl) rfl
   have d_10 := hD 7 36 (by kernel_rfl) rfl
   obtain ⟨A_3, c_3, hv_1, hO_1⟩ := d_10
   exact ⟨_, #[.pointer (some ⟨gc, 0, none⟩), .slice none (0) (0), .slice A_3 (2) (c_3)], (exec_call Try.func44 (by kernel_rfl) (by kernel_rfl) _ rfl _ _ (args3 d_9 rfl hv_1)), Calls.mono (CSealW_any _ hH0 (Bs.nil _) (hO_1).bs rfl rfl (by omega) (by omega) (by omega)) (fun e w'' hR => by obtain ⟨A_4, c_4, rfl, ho_3, hH_1, hX_1⟩ := hR; exact ⟨_, rfl, ⟨_, _, rfl, ho_3.mono hb'.size⟩, hX_1, (by obtain ⟨N', h1, h2⟩ := hH_1; exact ⟨N', h1, fun j hj => (h2 j hj).imp id (Nat.le_trans hb'.size)⟩)⟩)⟩)),
(stepM_val rfl rfl (fun a' w' hb' hO hD => by
   have d_11 := hD 8 37 (by kernel_rfl) rfl
   obtain ⟨A_5, c_5, hv_2, hO_2⟩ := d_11
   exact .inl ⟨_, _, (o_move rfl hv_2), ⟨_, _, rfl, hO_2⟩, Below.refl _ _⟩)),
(stepM_val rfl rfl (fun a' w' hb' hO hD => by
   have d_12 := hD 9 28 (by kernel_rfl) rfl
   obtain ⟨A_6, c_6, hv_3, hO_3⟩ := d_12
   exact .inl ⟨_, _, (o_extract rfl hv_3 rfl), ⟨_, _, rfl, hO_3⟩, Below.refl _ _⟩)),
(stepM_val rfl rfl (fun a' w' hb' hO hD => by
   have d_13 := hD 9 28 (by kernel_rfl) rfl
   obtain ⟨A_7, c_7, hv_4, hO_4⟩ := d_13
   exact .inl ⟨_, _, (o_extract rfl hv_4 rfl), rfl, Below.refl _ _⟩)),
(stepM_val rfl rfl (fun a' w' hb' hO hD => by
   have d_14 := hD 10 38 (by kernel_rfl) rfl
   obtain ⟨A_8, c_8, hv_5, hO_5⟩ := d_14
   exact .inl ⟨_, _, (o_assign rfl hv_5), ⟨_, _, rfl, hO_5⟩, Below.refl _ _⟩)), trivial⟩ (fun a_1 w_2 hs_1 hd_1 hX_2 hH_2 hO_6 hV_1 => ?_)
 have ta_1_0 := (hO_6 0 (by decide)).trans ((pm rfl).trans t0)
 have ta_1_6 : a_1.eval (.tmp 6) = .slice A_1 (sizeN q) (c_1) := (hO_6 6 (by decide)).trans (pe hs rfl rfl)
 clear t0 t1 hd
 obtain ⟨N_1, hC_1, hNx_1⟩ := hH_2
 have hn_1 := hNx_1.not hn hB.lt
 replace hB := hX_2.blk hB (fun e => hn (by rw [e]; exact hC.mem))
 replace hWt := hC.wt hX_2 hWt
 replace ho_1 := hC.own hX_2 ho_1
 have nx_1 := (NextM.refl w N).trans hNx_1 HB_1.size
 have HB_2 := HB_1.step hX_2 (fun k hk (hY : k = gc) => .inr hY)
 have x_1 := hV_1 7 36 rfl rfl
 obtain ⟨A_9, c_9, hv_6, hO_7⟩ := x_1
 replace hO_7 := hO_7.mono HB_1.size
 have x_2 := hV_1 8 37 rfl rfl
 obtain ⟨A_10, c_10, hv_7, hO_8⟩ := x_2
 replace hO_8 := hO_8.mono HB_1.size
 have x_3 := hV_1 9 28 rfl rfl
 obtain ⟨A_11, c_11, hv_8, hO_9⟩ := x_3
 replace hO_9 := hO_9.mono HB_1.size
 have x_4 := hV_1 10 38 rfl rfl
 obtain ⟨A_12, c_12, hv_9, hO_10⟩ := x_4
 replace hO_10 := hO_10.mono HB_1.size
 have ta_1_39 : a_1.eval (.tmp 39) = .int .i64 ((0 : Nat) : Int) := hV_1 11 39 rfl rfl
 have x_5 := hV_1 12 8 rfl rfl
 obtain ⟨A_13, c_13, hv_10, hO_11⟩ := x_5
 replace hO_11 := hO_11.mono HB_1.size
 clear hV_1 hO_6
 simp only [List.drop_succ_cons, List.drop_zero]
 refine q_at (v := .int .i64 ((0 : Nat) : Int)) ((pm rfl).trans ta_1_39) ?_
 refine x_nil (hK_7 _ _ ?_)
 refine w2_sr (fun K_8 hK_8 => ?_)
 refine q_mv ((pm rfl).trans ta_1_0) ?_
 refine q_nc (pe hs_1 rfl rfl) ?_
 refine q_fa 0 (pe hs_1 rfl rfl) ?_
 refine q_ld (v := .pointer (some ⟨gc, 0, none⟩)) (pe hs_1 rfl rfl) hB rfl ?_
 refine q_mv ((pm rfl).trans ta_1_6) ?_
 refine q_ca (vs := #[.pointer (some ⟨gc, 0, none⟩), .slice none (0) (0), .slice A_1 (sizeN q) (c_1)]) Try.func44 (args3 (pe hs_1 rfl rfl) rfl (pe hs_1 rfl rfl)) (CSealW_any _ hC_1 (Bs.nil _) (ho_1).bs (by simp only [List.length_nil]) (by rw [wrapL_length (by rw [hq]; exact hl), hq]) (by omega) (by omega) (by omega)) (fun e_2 w_3 hR_2 => ?_)
 obtain ⟨A_14, c_14, rfl, ho_4, ⟨N_2, hC_2, hNx_2⟩, hX_3⟩ := hR_2
 have hn_2 := hNx_2.not hn_1 hB.lt
 replace hB := hX_3.blk hB (fun e => hn_1 (by rw [e]; exact hC_1.mem))
 replace hWt := hC_1.wt hX_3 hWt
 replace hO_7 := hC_1.own hX_3 hO_7
 replace hO_8 := hC_1.own hX_3 hO_8
 replace hO_9 := hC_1.own hX_3 hO_9
 replace hO_10 := hC_1.own hX_3 hO_10
 replace hO_11 := hC_1.own hX_3 hO_11
 have nx_2 := nx_1.trans hNx_2 HB_2.size
 have HB_3 := HB_2.step hX_3 (fun k hk (hY : k = gc) => .inr hY)
 replace ho_4 := ho_4.mono HB_2.size
 refine ⟨_, rfl, ?_⟩
 refine q_mv (pe hs_1 rfl rfl) ?_
 refine q_ex (v := .slice A_14 ((sizeN q) + 16) (c_14)) (pe hs_1 rfl rfl) rfl ?_
 refine q_ex (v := .int .i64 ((0 : Nat) : Int)) (pe hs_1 rfl rfl) rfl ?_
 refine q_at (pe hs_1 rfl rfl) ?_
 refine q_at (v := .int .i64 ((0 : Nat) : Int)) (pe hs_1 rfl rfl) ?_
 refine x_nil (hK_8 _ _ ?_)
 refine w2_sr (fun K_9 hK_9 => ?_)
 refine q_mv ((pm rfl).trans ta_1_0) ?_
 refine q_ca (vs := #[.pointer (some ⟨ge, 0, none⟩)]) Try.func46 (args1 (pe hs_1 rfl rfl)) (went_any _ hB hC_2 hn_2 (by omega) (by omega)) (fun e_3 w_4 hR_3 => ?_)
 obtain ⟨rfl, ⟨N_3, hC_3, hNx_3⟩, hB_1, hX_4⟩ := hR_3
 have hn_3 := hNx_3.not hn_2 hB.lt
 replace hWt := hWt.keepR hB (by decide) hC_2 hX_4
 replace hO_7 := hO_7.keepR hB (by decide) hC_2 hX_4
 replace hO_8 := hO_8.keepR hB (by decide) hC_2 hX_4
 replace hO_9 := hO_9.keepR hB (by decide) hC_2 hX_4
 replace hO_10 := hO_10.keepR hB (by decide) hC_2 hX_4
 replace hO_11 := hO_11.keepR hB (by decide) hC_2 hX_4
 replace ho_4 := ho_4.keepR hB (by decide) hC_2 hX_4
 have nx_3 := nx_2.trans hNx_3 HB_3.size
 have HB_4 := HB_3.step hX_4 (fun k hk hY => hY)
 refine ⟨_, rfl, ?_⟩
 refine x_nil (hK_9 _ _ ?_)
 refine w2_sr (fun K_10 hK_10 => ?_)
 refine q_mv ((pm rfl).trans hv_10) ?_
 refine q_mv (pe hs_1 rfl rfl) ?_
 refine op_ex (d := 53) rfl rfl (o_bldS (vs := #[(0, .slice A_13 (2 + 16) (c_13)), (1, .slice A_14 ((sizeN q) + 16) (c_14))]) (cs := #[.slice A_13 (2 + 16) (c_13), .slice A_14 ((sizeN q) + 16) (c_14)]) (e := 22) rfl (bld2 (pe hs_1 rfl rfl) (pe hs_1 rfl rfl)) (fun _ => by kernel_rfl)) (fun v_1 w_5 hR_4 => ?_)
 obtain ⟨g_1, rfl, hle_1, hB_2, hb_3⟩ := hR_4
 replace hWt := hWt.nx hb_3
 replace hO_7 := hO_7.nx hb_3
 replace hO_8 := hO_8.nx hb_3
 replace hO_9 := hO_9.nx hb_3
 replace hO_10 := hO_10.nx hb_3
 replace hO_11 := hO_11.nx hb_3
 replace ho_4 := ho_4.nx hb_3
 replace hB_1 := hB_1.nx hb_3
 replace hC_3 := hC_3.nx hb_3
 have HB_5 := HB_4.then hb_3
 refine q_ca (vs := #[.slice ((some ⟨g_1, 0, none⟩)) (2) (2)]) Try.func47 (args1 (pe hs_1 rfl rfl)) (JoinW2 _ hB_2 (hO_11).bs (by rw [sealL_length]; rfl) (ho_4).bs (by rw [sealL_length]; have h9 : (wrapL bs).length = sizeN q := (by rw [wrapL_length (by rw [hq]; exact hl), hq]); omega) (by omega)) (fun e_4 w_6 hR_5 => ?_)
 obtain ⟨A_15, c_15, rfl, ho_5, hb_4⟩ := hR_5
 have gz_2 := ho_5.ge'
 have sp_3 : Sep (blkA A_15) N_3 := (Sep.new hC_3.lt gz_2).symm
 replace ho_5 := ho_5.mono HB_5.size
 replace hWt := hWt.nx hb_4
 replace hO_7 := hO_7.nx hb_4
 replace hO_8 := hO_8.nx hb_4
 replace hO_9 := hO_9.nx hb_4
 replace hO_10 := hO_10.nx hb_4
 replace hO_11 := hO_11.nx hb_4
 replace hB_1 := hB_1.nx hb_4
 replace hC_3 := hC_3.nx hb_4
 have HB_6 := HB_5.then hb_4
 refine ⟨_, rfl, ?_⟩
 refine q_at (pe hs_1 rfl rfl) ?_
 refine q_as (.int .i64 ((0 : Nat) : Int)) rfl ?_
 refine x_nil (hK_10 _ _ ?_)
 refine w2_ret ?_
 refine ret2 rfl hd_1 (pe hs_1 rfl rfl) (pe hs_1 rfl rfl) ?_
 subst hq
 exact ⟨A_15, c_15, by rw [show (2 + 16) + ((sizeN bs.length) + 16) = sizeN bs.length + 34 by omega]; rfl, ho_5, ⟨fun j => N_3 j ∨ j = ge ∨ blkA A j, ⟨fun j hj => hj.elim (hC_3.lt j) (fun h => h.elim (fun h => h ▸ hB_1.lt) (hWt.lt j)), hev, N_3, A, c, z, ⟨hC_3, hB_1, hWt, hn_3⟩, hz, .inr (.inl rfl), fun j hj => .inl hj, fun j hj => .inr (.inr hj)⟩, fun j hj => hj.elim (fun h => (nx_3 j h).imp (hMN j) id) (fun h => h.elim (fun h => .inl (h ▸ hMg)) (fun h => .inl (hMA j h))), fun j hj hm => hm.elim (sp_3 j hj) (fun h => h.elim (fun h => ho_5.sepB hB_1 (by decide) (h ▸ hj)) (fun h => absurd (hWt0.lt j h) (Nat.not_lt.2 (ho_5.ge' j hj))))⟩, HB_6.mono (fun k _ hk => hk.elim (fun e => e ▸ hMg) (fun e => e ▸ hMN _ hC0))⟩
theorem EPut_gt {ge : Nat} {A0 : Option Addr} {c0 q : Nat} {bs : List Nat} (w : World) (h0 : Bs w A0 c0 bs) (hq : bs.length = q) (hl : 4096 < q) :
  Calls Try.prog 21 #[.pointer (some ⟨ge, 0, none⟩), .slice A0 (q) (c0)] w fun e w' => e = .returned (.tuple #[.slice none 0 0, .int .i64 7]) ∧ w = w' := by
 refine x_enter 55 Try.func21 rfl rfl (fun a hs hd ha0 => ?_)
 have t1 : a.eval (.tmp 1) = .slice A0 (q) (c0) := ha0 1 _ rfl
 clear ha0
 refine w2_sr (fun K_1 hK_1 => ?_)
 refine q_as (.slice none (0) (0)) rfl ?_
 refine q_as (.int .i64 ((0 : Nat) : Int)) rfl ?_
 refine x_nil (hK_1 _ _ ?_)
 refine w2_sr (fun K_2 hK_2 => ?_)
 refine q_mv ((pm rfl).trans t1) ?_
 refine q_ca (vs := #[.slice A0 (q) (c0)]) Try.func43 (args1 (pe hs rfl rfl)) (WrapW_gt _ h0 hq hl) (fun e_1 w_1 hR_1 => ?_)
 obtain ⟨rfl, rfl⟩ := hR_1
 refine ⟨_, rfl, ?_⟩
 refine q_mv (pe hs rfl rfl) ?_
 refine q_ex (v := .slice none (0) (0)) (pe hs rfl rfl) rfl ?_
 refine q_ex (v := .int .i64 ((7 : Nat) : Int)) (pe hs rfl rfl) rfl ?_
 refine q_at (pe hs rfl rfl) ?_
 refine q_at (v := .int .i64 ((7 : Nat) : Int)) (pe hs rfl rfl) ?_
 refine x_nil (hK_2 _ _ ?_)
 refine w2_seq (fun K_3 hK_3 => ?_)
 refine w2_sr (fun K_4 hK_4 => ?_)
 refine q_mv (v := .int .i64 ((7 : Nat) : Int)) (pe hs rfl rfl) ?_
 refine q_v 18 (.bool (true)) (o_eq (o_neq (m := 7) (n := 0) rfl (pe hs rfl rfl) rfl) rfl) ?_
 refine x_nil (hK_4 _ _ ?_)
 refine w2_condT (pe hs rfl rfl) ?_
 refine w2_sr (fun K_5 hK_5 => ?_)
 refine q_mv (v := .int .i64 ((7 : Nat) : Int)) (pe hs rfl rfl) ?_
 refine q_as (.slice none (0) (0)) rfl ?_
 refine q_at (v := .int .i64 ((7 : Nat) : Int)) (pe hs rfl rfl) ?_
 refine x_nil (hK_5 _ _ ?_)
 refine w2_ret ?_
 refine thn_ret ?_
 refine ret2 rfl hd (pe hs rfl rfl) (pe hs rfl rfl) ?_
 exact ⟨rfl, rfl⟩
theorem take_any {gc ev cnt z wl c : Nat} {ge n : Nat} {A : Option Addr} {ws : List Nat} {dead : Bool} (w : World) (hB : Blk w ge #[.pointer (some ⟨gc, 0, none⟩), .int .i64 ((ev : Nat) : Int), .int .i64 ((cnt : Nat) : Int), .slice A (wl) (c), .int .i64 ((z : Nat) : Int), .bool (dead)] 51) (hWt : Wt w A c ws) (hwl : ws.length = wl) (hnw : n ≤ ws.length) (hw9 : wl ≤ 70368744177664) :
  Calls Try.prog 73 #[.pointer (some ⟨ge, 0, none⟩), .int .i64 ((n : Nat) : Int)] w fun e w' => e = .returned (.slice (subA A 0 c) n c) ∧ ∃ A1 c1, Blk w' ge #[.pointer (some ⟨gc, 0, none⟩), .int .i64 ((ev : Nat) : Int), .int .i64 ((cnt : Nat) : Int), .slice A1 ((ws.drop n).length) (c1), .int .i64 ((z : Nat) : Int), .bool (dead)] 51 ∧ Own w' w.heap.size A1 c1 (ws.drop n) ∧ BelowX (fun j => j = ge) w w' := by
 have hwc := hWt.le
 have hwm := hWt.max
 unfold maxLen at hwm
 have hWd := hWt.drop hnw
 have hdl : (ws.drop n).length = wl - n := by rw [List.length_drop, hwl]
 have hsx : Sep (blkA A) (fun j => j = ge) := fun j hj e => hWt.sepB hB (by decide) (e ▸ hj)
 have hsxd : Sep (blkA (subA A n c)) (fun j => j = ge) := fun j hj e => hsx j (blkA_sub hj) e
 refine x_enter 23 Try.func73 rfl rfl (fun a hs hd ha0 => ?_)
 have t0 : a.eval (.tmp 0) = .pointer (some ⟨ge, 0, none⟩) := ha0 0 _ rfl
 have t1 : a.eval (.tmp 1) = .int .i64 ((n : Nat) : Int) := ha0 1 _ rfl
 clear ha0
 have HB0 : BelowX (fun j => j = ge) w w := BelowX.refl _ _
 refine w2_sr (fun K_1 hK_1 => ?_)
 refine q_as (.slice none (0) (0)) rfl ?_
 refine x_nil (hK_1 _ _ ?_)
 refine w2_sr (fun K_2 hK_2 => ?_)
 refine q_mv ((pm rfl).trans t0) ?_
 refine q_nc (pe hs rfl rfl) ?_
 refine q_fa 3 (pe hs rfl rfl) ?_
 refine q_ld (v := .slice A (wl) (c)) (pe hs rfl rfl) hB rfl ?_
 refine q_mv ((pm rfl).trans t1) ?_
 refine q_v 11 (.slice ((subA A 0 c)) (n) (c)) (o_sliceH (h := n) rfl (pe hs rfl rfl) (pe hs rfl rfl) (by omega)) ?_
 refine q_at (pe hs rfl rfl) ?_
 refine x_nil (hK_2 _ _ ?_)
 refine w2_sr (fun K_3 hK_3 => ?_)
 refine q_mv ((pm rfl).trans t0) ?_
 refine q_mv ((pm rfl).trans t0) ?_
 refine q_nc (pe hs rfl rfl) ?_
 refine q_fa 3 (pe hs rfl rfl) ?_
 refine q_ld (v := .slice A (wl) (c)) (pe hs rfl rfl) hB rfl ?_
 refine q_mv ((pm rfl).trans t1) ?_
 refine q_v 18 (.slice ((subA A n c)) (wl - n) (c - n)) (o_sliceL (l := n) rfl (pe hs rfl rfl) (pe hs rfl rfl) (by omega)) ?_
 refine op_ex (d := 19) rfl rfl (o_append rfl rfl (pe hs rfl rfl) (Own.nil w w.heap.size) ((hWd.keepM HB0 hsxd)).bs rfl hdl (by omega) HB0.size) (fun v_1 w_1 hR_1 => ?_)
 obtain ⟨A_1, c_1, rfl, ho_1, hb_1, hg_1, hat_1⟩ := hR_1
 replace hB := hB.grown (Own.nil w w.heap.size) hg_1 (by decide)
 have HB_1 := HB0.thenB hb_1
 clear hg_1 hat_1 
 refine q_nc (pe hs rfl rfl) ?_
 refine q_fa 3 (pe hs rfl rfl) ?_
 refine op_do rfl rfl (o_store1 rfl (pe hs rfl rfl) (pe hs rfl rfl) rfl rfl hB (by simp only [List.length_cons, List.length_nil]; omega) ⟨by kernel_rfl, by kernel_rfl⟩) (fun w_2 hR_2 => ?_)
 obtain ⟨hB_1, hX_1⟩ := hR_2
 replace ho_1 := ho_1.keepX hB (by decide) hX_1
 have HB_2 := HB_1.step hX_1 (fun k hk (hY : k = ge) => hY)
 clear hB
 simp only [List.set_cons_zero, List.set_cons_succ] at hB_1
 refine x_nil (hK_3 _ _ ?_)
 refine w2_sr (fun K_4 hK_4 => ?_)
 refine q_mv (pe hs rfl rfl) ?_
 refine q_at (pe hs rfl rfl) ?_
 refine x_nil (hK_4 _ _ ?_)
 refine w2_ret ?_
 refine ret1 rfl hd (pe hs rfl rfl) ?_
 exact ⟨rfl, A_1, c_1, by (have h9 := hB_1; rw [Nat.zero_add, ← hdl] at h9; exact h9), by (have h9 := ho_1; rw [List.nil_append] at h9; exact h9), HB_2⟩
end Go.Proofs.Ytggalcdkfielkaa
/-
 WALKS: the reference's End: one.
-/
namespace Go.Proofs.Ytggalcdkfielkaa
open Go.RowKit
set_option linter.unusedVariables false
set_option linter.unusedSimpArgs false
set_option maxRecDepth 100000
attribute [local irreducible] wpList wpListIn putsR

theorem len_good (n : Nat) (h : n < 8193) (h2 : 64 ≤ n) (h3 : n &&& (n - 1) = 0) : n = sizeN (n / 2 - 1) := by
 obtain ⟨k, rfl⟩ := (Nat.and_sub_one_eq_zero_iff_isPowerOfTwo (by omega)).1 h3
 have hk : k < 14 := by
  rcases Nat.lt_or_ge k 14 with h9 | h9
  ·exact h9
  ·have := Nat.pow_le_pow_right (n := 2) (by decide) h9
   omega
 have hk6 : 6 ≤ k := by
  rcases Nat.lt_or_ge k 6 with h9 | h9
  ·have := Nat.pow_le_pow_right (n := 2) (by decide) (show k ≤ 5 by omega)
   omega
  ·exact h9
 have hK : k = 6 ∨ k = 7 ∨ k = 8 ∨ k = 9 ∨ k = 10 ∨ k = 11 ∨ k = 12 ∨ k = 13 := by omega
 rcases hK with rfl | rfl | rfl | rfl | rfl | rfl | rfl | rfl <;> decide
theorem len_back {n : Nat} (h : n = sizeN (n / 2 - 1)) : 64 ≤ n ∧ n ≤ 8192 ∧ n &&& (n - 1) = 0 := by
 by_cases hm : 4096 < n / 2 - 1
 ·unfold sizeN at h
  rw [if_pos hm] at h
  omega
 ·rw [sizeN_le (by omega)] at h
  have h7 := padK_le (n / 2 - 1)
  generalize padK (n / 2 - 1) = K at h h7
  have hK : K = 0 ∨ K = 1 ∨ K = 2 ∨ K = 3 ∨ K = 4 ∨ K = 5 ∨ K = 6 ∨ K = 7 := by omega
  rcases hK with rfl | rfl | rfl | rfl | rfl | rfl | rfl | rfl <;> subst h <;> decide
theorem len_cases (n : Nat) : (n < 64 ∧ ¬ n = sizeN (n / 2 - 1)) ∨ (64 ≤ n ∧ 8192 < n ∧ ¬ n = sizeN (n / 2 - 1)) ∨ (64 ≤ n ∧ n ≤ 8192 ∧ ¬ n &&& (n - 1) = 0 ∧ ¬ n = sizeN (n / 2 - 1)) ∨ (64 ≤ n ∧ n ≤ 8192 ∧ n &&& (n - 1) = 0 ∧ n = sizeN (n / 2 - 1)) := by
 by_cases h1 : n < 64
 ·exact .inl ⟨h1, fun h => by have := (len_back h).1; omega⟩
 ·by_cases h2 : 8192 < n
  ·exact .inr (.inl ⟨by omega, h2, fun h => by have := (len_back h).2.1; omega⟩)
  ·by_cases h3 : n &&& (n - 1) = 0
   ·exact .inr (.inr (.inr ⟨by omega, by omega, h3, len_good n (by omega) (by omega) h3⟩))
   ·exact .inr (.inr (.inl ⟨by omega, by omega, h3, fun h => h3 (len_back h).2.2⟩))
theorem i64_and_nat (a b : Nat) (ha : a < 65536) (hb : b < 65536) : bits .and .i64 (a : Int) (b : Int) = ((a &&& b : Nat) : Int) := by
 have hx : a &&& b < 2 ^ 16 := Nat.and_lt_two_pow _ (by omega)
 show IntKind.i64.wrap ((BitVec.ofInt 64 (a : Int) &&& BitVec.ofInt 64 (b : Int)).toNat : Int) = _
 rw [BitVec.toNat_and, BitVec.ofInt_natCast, BitVec.ofInt_natCast, BitVec.toNat_ofNat, BitVec.toNat_ofNat, Nat.mod_eq_of_lt (by omega), Nat.mod_eq_of_lt (by omega)]
 exact IntWalk.i64_in _ (by omega)
theorem openL_err {ks ns ad bs xs : List Nat} {r : Nat} (h : openL ks ns ad bs = (xs, r)) (hr : ¬ r = 0) (hl : 16 ≤ bs.length) : r = 4 := by
 unfold openL at h
 rw [if_neg (by omega)] at h
 split at h
 ·cases h; exact absurd rfl hr
 ·cases h; rfl
def firstR (r : Rd) : Option (Rd × Nat × List (List Nat)) := if r.body = 0 then stepR r else some (r, 0, [])
/-- The next record, if it is whole. -/
def oneR (r : Rd) : Rd × Nat × Option (List Nat) :=
 match firstR r with
 | none => (r, 0, none)
 | some x => if x.2.1 ≠ 0 then (x.1, x.2.1, none) else match stepR x.1 with
  | none => (x.1, 0, none)
  | some y => if y.2.1 ≠ 0 then (y.1, y.2.1, none) else (y.1, 0, some (y.2.2.headD []))
theorem one_none {r : Rd} (h : firstR r = none) : oneR r = (r, 0, none) := by unfold oneR; rw [h]
theorem one_bad {r : Rd} {x : Rd × Nat × List (List Nat)} (h : firstR r = some x) (hx : ¬ x.2.1 = 0) : oneR r = (x.1, x.2.1, none) := by unfold oneR; rw [h]; dsimp only; rw [if_pos hx]
theorem one_wait {r r1 : Rd} (h : firstR r = some (r1, 0, [])) (h2 : stepR r1 = none) : oneR r = (r1, 0, none) := by unfold oneR; rw [h]; dsimp only; rw [if_neg (by simp), h2]
theorem one_bad2 {r r1 : Rd} {y : Rd × Nat × List (List Nat)} (h : firstR r = some (r1, 0, [])) (h2 : stepR r1 = some y) (hy : ¬ y.2.1 = 0) : oneR r = (y.1, y.2.1, none) := by unfold oneR; rw [h]; dsimp only; rw [if_neg (by simp), h2]; dsimp only; rw [if_pos hy]
theorem one_good {r r1 r2 : Rd} {b : List Nat} (h : firstR r = some (r1, 0, [])) (h2 : stepR r1 = some (r2, 0, [b])) : oneR r = (r2, 0, some b) := by unfold oneR; rw [h]; dsimp only; rw [if_neg (by simp), h2]; rfl
theorem first_at {co : Co} {ws : List Nat} {body : Nat} {d : Bool} (h : body = 0) : firstR ⟨co, ws, body, d⟩ = stepR ⟨co, ws, 0, d⟩ := by subst h; exact if_pos rfl
theorem first_on {co : Co} {ws : List Nat} {body : Nat} {d : Bool} (h : ¬ body = 0) : firstR ⟨co, ws, body, d⟩ = some (⟨co, ws, body, d⟩, 0, []) := if_neg h
theorem step_short {co : Co} {ws : List Nat} {d : Bool} (h : ws.length < 18) : stepR ⟨co, ws, 0, d⟩ = none := by unfold stepR; rw [if_pos rfl, if_pos h]
theorem step_wait {co : Co} {ws : List Nat} {b : Nat} {d : Bool} (h : ws.length < b + 16) : stepR ⟨co, ws, b + 16, d⟩ = none := by unfold stepR; rw [if_neg (by show ¬ b + 16 = 0; omega), if_pos h]
set_option maxHeartbeats 2000000 in
theorem one_any {N : Nat → Prop} {ge gc ev cnt num body z c : Nat} {A : Option Addr} {ks ws : List Nat} (w : World) (hP : EndP w N ge gc A c ⟨⟨ks, num, ev, cnt⟩, ws, body, false⟩ z) (hz : Zr ⟨⟨ks, num, ev, cnt⟩, ws, body, false⟩ z) (hnum : num < 4611686018427387904) (he1 : 1 ≤ ev) (hc1 : cnt < 4611686018427387904) (hw9 : ws.length ≤ 1000000000) :
  Calls Try.prog 50 #[.pointer (some ⟨ge, 0, none⟩)] w fun e w' => ∃ r' z' N' A' c', ((oneR ⟨⟨ks, num, ev, cnt⟩, ws, body, false⟩ = (r', 0, none) ∧ e = .returned (.tuple #[.slice none 0 0, .bool false, .int .i64 ((0 : Nat) : Int)]) ∧ Zr r' z') ∨ (∃ err, ¬ err = 0 ∧ oneR ⟨⟨ks, num, ev, cnt⟩, ws, body, false⟩ = (r', err, none) ∧ e = .returned (.tuple #[.slice none 0 0, .bool false, .int .i64 ((err : Nat) : Int)])) ∨ (∃ b A1 c1, oneR ⟨⟨ks, num, ev, cnt⟩, ws, body, false⟩ = (r', 0, some b) ∧ e = .returned (.tuple #[.slice A1 b.length c1, .bool true, .int .i64 ((0 : Nat) : Int)]) ∧ Own w' w.heap.size A1 c1 b ∧ Sep (blkA A1) N' ∧ Sep (blkA A1) (blkA A') ∧ Zr r' z')) ∧ EndP w' N' ge gc A' c' r' z' ∧ NextM w N N' ∧ (∀ j, blkA A' j → blkA A j ∨ w.heap.size ≤ j) ∧ BelowX (fun j => j = ge ∨ j = gc) w w' := by
 obtain ⟨hC, hB, hWt, hn⟩ := hP
 obtain ⟨hz1, hz2, hz3⟩ := id hz
 dsimp only at hC hB hWt hz1 hz2 hz3
 refine x_enter 96 Try.func50 rfl rfl (fun a hs hd ha0 => ?_)
 have t0 : a.eval (.tmp 0) = .pointer (some ⟨ge, 0, none⟩) := ha0 0 _ rfl
 clear ha0
 have HB0 : BelowX (fun j => j = ge ∨ j = gc) w w := BelowX.refl _ _
 refine w2_sr (fun K_1 hK_1 => ?_)
 refine q_as (.slice none (0) (0)) rfl ?_
 refine q_as (.bool (false)) rfl ?_
 refine q_as (.int .i64 ((0 : Nat) : Int)) rfl ?_
 refine x_nil (hK_1 _ _ ?_)
 refine x_cut (fun aa ww => ∃ (N1 : Nat → Prop) (A1 : Option Addr) (c1 num1 : Nat) (ws1 : List Nat) (b1 : Nat), aa.tmps.size = 96 ∧ aa.defers = [] ∧ aa.eval (.tmp 0) = .pointer (some ⟨ge, 0, none⟩) ∧ EndP ww N1 ge gc A1 c1 ⟨⟨ks, num1, ev, cnt⟩, ws1, b1 + 16, false⟩ b1 ∧ NextM w N N1 ∧ (∀ j, blkA A1 j → blkA A j ∨ w.heap.size ≤ j) ∧ (64 ≤ b1 ∧ b1 ≤ 65519) ∧ num1 ≤ num + 1 ∧ ws1.length ≤ ws.length ∧ firstR ⟨⟨ks, num, ev, cnt⟩, ws, body, false⟩ = some (⟨⟨ks, num1, ev, cnt⟩, ws1, b1 + 16, false⟩, 0, []) ∧ BelowX (fun j => j = ge ∨ j = gc) w ww) (fun K_2 hK_2 => ?_) ?_
 ·skip
  refine w2_sr (fun K_3 hK_3 => ?_)
  refine q_mv ((pm rfl).trans t0) ?_
  refine q_nc (pe hs rfl rfl) ?_
  refine q_fa 4 (pe hs rfl rfl) ?_
  refine q_ld (v := .int .i64 ((z : Nat) : Int)) (pe hs rfl rfl) hB rfl ?_
  refine q_v 15 (.bool (decide (body = 0))) (o_eq (o_eql (m := z) (n := 0) rfl (pe hs rfl rfl) rfl) (congrArg Value.bool (decide_eq_decide.2 ⟨fun h => by omega, fun h => by omega⟩))) ?_
  refine x_nil (hK_3 _ _ ?_)
  refine w2_split (pe hs rfl rfl) (fun h_1 => ?_) (fun h_1 => ?_)
  ·simp only [DD9] at h_1
   have hb0 : body = 0 := h_1
   refine w2_seq (fun K_4 hK_4 => ?_)
   refine w2_sr (fun K_5 hK_5 => ?_)
   refine q_mv ((pm rfl).trans t0) ?_
   refine q_nc (pe hs rfl rfl) ?_
   refine q_fa 3 (pe hs rfl rfl) ?_
   refine q_ld (v := .slice A (ws.length) (c)) (pe hs rfl rfl) hB rfl ?_
   refine q_v 20 (.int .i64 ((ws.length : Nat) : Int)) (o_len rfl (pe hs rfl rfl)) ?_
   refine q_v 21 (.bool (decide (ws.length < 18))) (o_lss (m := ws.length) (n := 18) rfl (pe hs rfl rfl) rfl) ?_
   refine x_nil (hK_5 _ _ ?_)
   refine w2_split (pe hs rfl rfl) (fun h_2 => ?_) (fun h_2 => ?_)
   ·simp only [DD9] at h_2
    have hsh : ws.length < 18 := h_2
    refine w2_sr (fun K_6 hK_6 => ?_)
    refine q_as (.slice none (0) (0)) rfl ?_
    refine q_as (.bool (false)) rfl ?_
    refine q_as (.int .i64 ((0 : Nat) : Int)) rfl ?_
    refine x_nil (hK_6 _ _ ?_)
    refine w2_ret ?_
    refine thn_ret ?_
    refine thn_ret ?_
    refine ret3 rfl hd (pe hs rfl rfl) (pe hs rfl rfl) (pe hs rfl rfl) ?_
    exact ⟨_, _, _, _, _, .inl ⟨one_none (by rw [first_at hb0, step_short hsh]), rfl, hz⟩, ⟨hC, hB, hWt, hn⟩, (NextM.refl w N), fun j hj => .inl hj, HB0⟩
   ·simp only [DD9] at h_2
    have hsh : 18 ≤ ws.length := h_2
    refine w2_skip ?_
    refine hK_4 _ _ ?_
    refine w2_seq (fun K_7 hK_7 => ?_)
    have hsep9 : Sep (blkA A) (fun j => j = ge ∨ j = gc) := fun j hj e => e.elim (fun e => hWt.sepB hB (by decide) (e ▸ hj)) (fun e => by obtain ⟨cu, hc⟩ := hC.blk; exact hWt.sepB hc (by decide) (e ▸ hj))
    have hgne9 : ¬ ge = gc := fun e => hn (by rw [e]; exact hC.mem)
    have hfl9 : (ws.take 18).length = 18 := List.length_take_of_le (by omega)
    have hdl9 : (ws.drop 18).length = ws.length - 18 := List.length_drop
    obtain ⟨xs, r, hs0⟩ : ∃ xs r, openL ks (nonceL num) [] (ws.take 18) = (xs, r) := ⟨_, _, rfl⟩
    have hxl := fun (h : r = 0) => openL_length hs0 h
    have hre := fun (h : ¬ r = 0) => openL_err hs0 h (by rw [hfl9]; omega)
    rw [hfl9] at hxl
    refine x_drawnMM 11 5 6 (fun j => j = ge ∨ j = gc) (fun w' => CipherRt w' N gc ks (num) ∧ Blk w' ge #[.pointer (some ⟨gc, 0, none⟩), .int .i64 ((ev : Nat) : Int), .int .i64 ((cnt : Nat) : Int), .slice A (ws.length) (c), .int .i64 ((z : Nat) : Int), .bool (false)] 51) (fun w' => CipherRt w' N gc ks (num) ∧ ∃ A9 c9, Blk w' ge #[.pointer (some ⟨gc, 0, none⟩), .int .i64 ((ev : Nat) : Int), .int .i64 ((cnt : Nat) : Int), .slice A9 ((ws.drop 18).length) (c9), .int .i64 ((z : Nat) : Int), .bool (false)] 51 ∧ Own w' w.heap.size A9 c9 (ws.drop 18)) (fun w' => (∃ A9 c9, Blk w' ge #[.pointer (some ⟨gc, 0, none⟩), .int .i64 ((ev : Nat) : Int), .int .i64 ((cnt : Nat) : Int), .slice A9 ((ws.drop 18).length) (c9), .int .i64 ((z : Nat) : Int), .bool (false)] 51 ∧ Own w' w.heap.size A9 c9 (ws.drop 18)) ∧ ∃ N', CipherRt w' N' gc ks (if r = 0 then num + 1 else num) ∧ NextM w N N') (fun w' => ∃ A9 n9 c9, Blk w' ge #[.pointer (some ⟨gc, 0, none⟩), .int .i64 ((ev : Nat) : Int), .int .i64 ((cnt : Nat) : Int), .slice A9 (n9) (c9), .int .i64 ((z : Nat) : Int), .bool (false)] 51) [fun _ v => v = .pointer (some ⟨ge, 0, none⟩), fun _ v => v = .pointer (some ⟨ge, 0, none⟩), fun _ v => v = .pointer (some ⟨ge, 0, none⟩), fun _ v => v = .pointer (some ⟨gc, 0, none⟩), fun _ v => v = .pointer (some ⟨ge, 0, none⟩), fun _ v => v = .slice ((subA A 0 c)) (18) (c), fun ww vv => TupN w.heap.size (xs.length) (xs) (r) ww vv, fun ww vv => TupN w.heap.size (xs.length) (xs) (r) ww vv, fun ww vv => OwnN w.heap.size (xs.length) (xs) ww vv, fun _ v => v = .int .i64 ((r : Nat) : Int), fun ww vv => OwnN w.heap.size (xs.length) (xs) ww vv] [23, 24, 25, 26, 27, 28, 29, 22, 30, 31, 5] hs hd (by kernel_rfl) (by kernel_rfl) (by kernel_rfl) (by kernel_rfl) (by kernel_rfl) rfl (by kernel_rfl) (fun _ h => ⟨_, _, _, h.2⟩) (fun _ ⟨_, _, _, h, _⟩ => ⟨_, _, _, h⟩) (fun _ ⟨⟨_, _, h, _⟩, _⟩ => ⟨_, _, _, h⟩) ⟨stLitX, stLitX, stLitX, stLitX, stLitX, stLitX, (stTupX (fun j hj => hj.elim (fun h => h ▸ hB.lt) (fun h => h ▸ hC.lt _ hC.mem))), (stTupX (fun j hj => hj.elim (fun h => h ▸ hB.lt) (fun h => h ▸ hC.lt _ hC.mem))), (stOwnX (fun j hj => hj.elim (fun h => h ▸ hB.lt) (fun h => h ▸ hC.lt _ hC.mem))), stLitX, (stOwnX (fun j hj => hj.elim (fun h => h ▸ hB.lt) (fun h => h ▸ hC.lt _ hC.mem))), trivial⟩ (fun _ _ h hb => ⟨h.1.nx hb, h.2.nx hb⟩) (fun _ _ ⟨h1, A9, c9, h2, h3⟩ hb => ⟨h1.nx hb, A9, c9, h2.nx hb, h3.nx hb⟩) (fun _ _ ⟨⟨A9, c9, h2, h3⟩, N', h4, h5⟩ hb => ⟨⟨A9, c9, h2.nx hb, h3.nx hb⟩, N', h4.nx hb, h5⟩) ⟨hC, hB⟩ ⟨(stepMM_val rfl rfl (fun a' w' hb' hO hD hKw => by
      obtain ⟨A9, n9, c9, hK9⟩ := hKw
      have d_1 := (hO 0 (by decide)).trans ((pm rfl).trans t0)
      exact .inl ⟨_, _, (o_move rfl d_1), rfl, Below.refl _ _⟩)),
(stepMM_val rfl rfl (fun a' w' hb' hO hD hKw => by
      obtain ⟨A9, n9, c9, hK9⟩ := hKw
      have d_2 : a'.eval (.tmp 23) = .pointer (some ⟨ge, 0, none⟩) := hD 0 23 (by kernel_rfl) rfl
      exact .inl ⟨_, _, (o_nilCheck rfl d_2), rfl, Below.refl _ _⟩)),
(stepMM_val rfl rfl (fun a' w' hb' hO hD hKw => by
      obtain ⟨A9, n9, c9, hK9⟩ := hKw
      have d_3 : a'.eval (.tmp 24) = .pointer (some ⟨ge, 0, none⟩) := hD 1 24 (by kernel_rfl) rfl
      exact .inl ⟨_, _, (o_field (k' := 0) rfl d_3 (fun _ => by kernel_rfl)), rfl, Below.refl _ _⟩)),
(stepMM_val rfl rfl (fun a' w' hb' hO hD hKw => by
      obtain ⟨A9, n9, c9, hK9⟩ := hKw
      have d_4 : a'.eval (.tmp 25) = .pointer (some ⟨ge, 0, none⟩) := hD 2 25 (by kernel_rfl) rfl
      exact .inl ⟨_, _, (o_load1 rfl d_4 hK9 rfl ⟨by kernel_rfl, by kernel_rfl⟩), rfl, Below.refl _ _⟩)),
(stepMM_val rfl rfl (fun a' w' hb' hO hD hKw => by
      obtain ⟨A9, n9, c9, hK9⟩ := hKw
      have d_5 := (hO 0 (by decide)).trans ((pm rfl).trans t0)
      exact .inl ⟨_, _, (o_move rfl d_5), rfl, Below.refl _ _⟩)),
(stepMM_one rfl (fun a' w' hb' hO hD hH => by
      have d_6 : a'.eval (.tmp 27) = .pointer (some ⟨ge, 0, none⟩) := hD 4 27 (by kernel_rfl) rfl
      exact ⟨_, #[.pointer (some ⟨ge, 0, none⟩), .int .i64 ((18 : Nat) : Int)], (exec_call Try.func73 (by kernel_rfl) (by kernel_rfl) _ rfl _ _ (args2 d_6 rfl)), Calls.mono (take_any _ hH.2 (hWt.keepM hb' hsep9) rfl (by omega) (by omega)) (fun e w'' hR => by obtain ⟨rfl, A9, c9, hB9, hO9, hX9⟩ := hR; exact ⟨_, rfl, rfl, hX9.mono (fun k _ h => .inl h), hH.1.keepX hX9 hn, A9, c9, hB9, hO9.mono hb'.size⟩)⟩)),
(stepMM_two rfl rfl (fun a' w' hb' hO hD hH => by
      have d_7 : a'.eval (.tmp 26) = .pointer (some ⟨gc, 0, none⟩) := hD 3 26 (by kernel_rfl) rfl
      have d_8 : a'.eval (.tmp 28) = .slice ((subA A 0 c)) (18) (c) := hD 5 28 (by kernel_rfl) rfl
      exact ⟨_, #[.pointer (some ⟨gc, 0, none⟩), .slice none (0) (0), .slice ((subA A 0 c)) (18) (c)], (exec_call Try.func72 (by kernel_rfl) (by kernel_rfl) _ rfl _ _ (args3 d_7 rfl d_8)), Calls.mono (COpenW_any _ hH.1 (Bs.nil _) ((hWt.keepM hb' hsep9).first (by omega)) rfl hfl9 (by omega) (by omega) (by omega) hs0) (fun e w'' hR => by obtain ⟨A_1, c_1, rfl, ho_1, ⟨N9, hC9, hN9⟩, hX9⟩ := hR; exact ⟨_, rfl, ⟨_, _, rfl, ho_1.mono hb'.size⟩, hX9.mono (fun k _ h => .inr h), ⟨by obtain ⟨hC1, A9, c9, hB9, hO9⟩ := hH; exact ⟨A9, c9, hX9.blk hB9 hgne9, hC1.own hX9 hO9⟩, N9, hC9, fun j hj => (hN9 j hj).imp id (Nat.le_trans hb'.size)⟩⟩)⟩)),
(stepMM_val rfl rfl (fun a' w' hb' hO hD hKw => by
      obtain ⟨A9, n9, c9, hK9⟩ := hKw
      have d_9 := hD 6 29 (by kernel_rfl) rfl
      obtain ⟨A_2, c_2, hv_1, hO_1⟩ := d_9
      exact .inl ⟨_, _, (o_move rfl hv_1), ⟨_, _, rfl, hO_1⟩, Below.refl _ _⟩)),
(stepMM_val rfl rfl (fun a' w' hb' hO hD hKw => by
      obtain ⟨A9, n9, c9, hK9⟩ := hKw
      have d_10 := hD 7 22 (by kernel_rfl) rfl
      obtain ⟨A_3, c_3, hv_2, hO_2⟩ := d_10
      exact .inl ⟨_, _, (o_extract rfl hv_2 rfl), ⟨_, _, rfl, hO_2⟩, Below.refl _ _⟩)),
(stepMM_val rfl rfl (fun a' w' hb' hO hD hKw => by
      obtain ⟨A9, n9, c9, hK9⟩ := hKw
      have d_11 := hD 7 22 (by kernel_rfl) rfl
      obtain ⟨A_4, c_4, hv_3, hO_3⟩ := d_11
      exact .inl ⟨_, _, (o_extract rfl hv_3 rfl), rfl, Below.refl _ _⟩)),
(stepMM_val rfl rfl (fun a' w' hb' hO hD hKw => by
      obtain ⟨A9, n9, c9, hK9⟩ := hKw
      have d_12 := hD 8 30 (by kernel_rfl) rfl
      obtain ⟨A_5, c_5, hv_4, hO_4⟩ := d_12
      exact .inl ⟨_, _, (o_assign rfl hv_4), ⟨_, _, rfl, hO_4⟩, Below.refl _ _⟩)), trivial⟩ (fun a_1 w_1 hs_1 hd_1 hX_1 hH_1 hO_5 hV_1 => ?_)
    have ta_1_0 := (hO_5 0 (by decide)).trans ((pm rfl).trans t0)
    clear t0 hd
    obtain ⟨⟨A_6, c_6, hB_1, hO_6⟩, N_1, hC_1, hN_1⟩ := hH_1
    have hn_1 := hN_1.not hn hB.lt
    have nx_1 := (NextM.refl w N).trans hN_1 HB0.size
    have hge9 := fun j hj => Nat.le_trans HB0.size (hO_6.ge' j hj)
    have HB_1 := HB0.step hX_1 (fun k hk hY => hY)
    have hW_1 := hO_6.wt
    have x_1 := hV_1 6 29 rfl rfl
    obtain ⟨A_7, c_7, hv_5, hO_7⟩ := x_1
    replace hO_7 := hO_7.mono HB0.size
    have x_2 := hV_1 7 22 rfl rfl
    obtain ⟨A_8, c_8, hv_6, hO_8⟩ := x_2
    replace hO_8 := hO_8.mono HB0.size
    have x_3 := hV_1 8 30 rfl rfl
    obtain ⟨A_9, c_9, hv_7, hO_9⟩ := x_3
    replace hO_9 := hO_9.mono HB0.size
    have ta_1_31 : a_1.eval (.tmp 31) = .int .i64 ((r : Nat) : Int) := hV_1 9 31 rfl rfl
    have x_4 := hV_1 10 5 rfl rfl
    obtain ⟨A_10, c_10, hv_8, hO_10⟩ := x_4
    replace hO_10 := hO_10.mono HB0.size
    clear hV_1 hO_5
    simp only [List.drop_succ_cons, List.drop_zero]
    refine q_at ((pm rfl).trans ta_1_31) ?_
    refine x_nil (hK_7 _ _ ?_)
    refine w2_seq (fun K_8 hK_8 => ?_)
    refine w2_sr (fun K_9 hK_9 => ?_)
    refine q_mv (pe hs_1 rfl rfl) ?_
    refine q_v 33 (.bool (!decide (r = 0))) (o_neq (m := r) (n := 0) rfl (pe hs_1 rfl rfl) rfl) ?_
    refine x_nil (hK_9 _ _ ?_)
    refine w2_split (pe hs_1 rfl rfl) (fun h_3 => ?_) (fun h_3 => ?_)
    ·simp only [DD9] at h_3
     have hr0 : ¬ r = 0 := h_3
     refine w2_sr (fun K_10 hK_10 => ?_)
     refine q_as (.slice none (0) (0)) rfl ?_
     refine q_as (.bool (false)) rfl ?_
     refine q_as (.int .i64 ((4 : Nat) : Int)) rfl ?_
     refine x_nil (hK_10 _ _ ?_)
     refine w2_ret ?_
     refine thn_ret ?_
     refine thn_ret ?_
     refine ret3 rfl hd_1 (pe hs_1 rfl rfl) (pe hs_1 rfl rfl) (pe hs_1 rfl rfl) ?_
     obtain rfl := hre hr0
     exact ⟨_, _, _, _, _, .inr (.inl ⟨4, by decide, one_bad (by rw [first_at hb0]; exact stepA1 (co := ⟨ks, num, ev, cnt⟩) (dead := false) hsh hs0 hr0) (by show ¬ (4 : Nat) = 0; decide), rfl⟩), ⟨(by have h9 := hC_1; rw [if_neg hr0] at h9; exact h9), hB_1, hW_1, hn_1⟩, nx_1, fun j hj => .inr (hge9 j hj), HB_1⟩
    ·simp only [DD9] at h_3
     have hr0 : r = 0 := by have h9 := h_3; omega
     have hx2l : xs.length = 2 := by have := hxl hr0; omega
     have y0 := getD_lt hO_10.bs.b8 0
     have y1 := getD_lt hO_10.bs.b8 1
     have hlo : lenOf xs < 65536 := by unfold lenOf; omega
     refine w2_skip ?_
     refine hK_8 _ _ ?_
     refine w2_sr (fun K_11 hK_11 => ?_)
     refine q_mv ((pm rfl).trans hv_8) ?_
     refine q_ca (vs := #[.slice A_10 (xs.length) (c_10), .int .i64 ((0 : Nat) : Int), .int .i64 ((2 : Nat) : Int)]) Try.func74 (args3 (pe hs_1 rfl rfl) rfl rfl) (HighW_two _ (hO_10).bs rfl) (fun e_1 w_2 hR_1 => ?_)
     obtain ⟨rfl, rfl⟩ := hR_1
     refine ⟨_, rfl, ?_⟩
     refine q_v 36 (.int .i64 ((lenOf xs : Nat) : Int)) (o_conv (m := (lenOf xs)) (r := lenOf xs) rfl (pe hs_1 rfl rfl) ⟨.int .u64, fun _ => by kernel_rfl⟩ (fun _ => by kernel_rfl) (IntWalk.i64_in _ (by omega))) ?_
     refine q_at (pe hs_1 rfl rfl) ?_
     refine x_nil (hK_11 _ _ ?_)
     refine w2_seq (fun K_12 hK_12 => ?_)
     refine w2_seq (fun K_13 hK_13 => ?_)
     rcases len_cases (lenOf xs) with ⟨q1, q9⟩ | ⟨q1, q2, q9⟩ | ⟨q1, q2, q3, q9⟩ | ⟨q1, q2, q3, q9⟩
     ·skip
      refine x_region (by kernel_rfl) ?_
      refine q_mv (pe hs_1 rfl rfl) ?_
      refine q_v 38 (.bool (true)) (o_eq (o_lss (m := (lenOf xs)) (n := 64) rfl (pe hs_1 rfl rfl) rfl) (by rw [decide_eq_true q1])) ?_
      refine q_mv (pe hs_1 rfl rfl) ?_
      refine op_left (e := 39) rfl rfl (by kernel_rfl) (pe hs_1 rfl rfl) rfl ?_
      refine op_left (e := 39) rfl rfl (by kernel_rfl) (pe hs_1 rfl rfl) rfl ?_
      refine q_v 42 (.bool (true)) (o_pickT rfl (pe hs_1 rfl rfl) rfl) ?_
      refine q_mv (pe hs_1 rfl rfl) ?_
      refine op_left (e := 43) rfl rfl (by kernel_rfl) (pe hs_1 rfl rfl) rfl ?_
      refine op_left (e := 43) rfl rfl (by kernel_rfl) (pe hs_1 rfl rfl) rfl ?_
      refine op_left (e := 43) rfl rfl (by kernel_rfl) (pe hs_1 rfl rfl) rfl ?_
      refine op_left (e := 43) rfl rfl (by kernel_rfl) (pe hs_1 rfl rfl) rfl ?_
      refine op_left (e := 43) rfl rfl (by kernel_rfl) (pe hs_1 rfl rfl) rfl ?_
      refine q_v 49 (.bool (true)) (o_pickT rfl (pe hs_1 rfl rfl) rfl) ?_
      refine x_nil (hK_13 _ _ ?_)
      refine w2_condT (pe hs_1 rfl rfl) ?_
      refine w2_sr (fun K_14 hK_14 => ?_)
      refine q_as (.slice none (0) (0)) rfl ?_
      refine q_as (.bool (false)) rfl ?_
      refine q_as (.int .i64 ((3 : Nat) : Int)) rfl ?_
      refine x_nil (hK_14 _ _ ?_)
      refine w2_ret ?_
      refine thn_ret ?_
      refine thn_ret ?_
      refine ret3 rfl hd_1 (pe hs_1 rfl rfl) (pe hs_1 rfl rfl) (pe hs_1 rfl rfl) ?_
      exact ⟨_, _, _, _, _, .inr (.inl ⟨3, by decide, one_bad (by rw [first_at hb0]; exact stepA2 (co := ⟨ks, num, ev, cnt⟩) (dead := false) hsh hs0 hr0 q9) (by show ¬ (3 : Nat) = 0; decide), rfl⟩), ⟨(by have h9 := hC_1; rw [if_pos hr0] at h9; exact h9), hB_1, hW_1, hn_1⟩, nx_1, fun j hj => .inr (hge9 j hj), HB_1⟩
     ·skip
      refine x_region (by kernel_rfl) ?_
      refine q_mv (pe hs_1 rfl rfl) ?_
      refine q_v 38 (.bool (false)) (o_eq (o_lss (m := (lenOf xs)) (n := 64) rfl (pe hs_1 rfl rfl) rfl) (by rw [decide_eq_false (by omega)])) ?_
      refine q_mv (pe hs_1 rfl rfl) ?_
      refine op_valG (e := 39) (d := 40) (v := .int .i64 ((lenOf xs : Nat) : Int)) rfl rfl (by kernel_rfl) (pe hs_1 rfl rfl) (o_move rfl (pe hs_1 rfl rfl)) ?_
      refine op_valG (e := 39) (d := 41) (v := .bool (true)) rfl rfl (by kernel_rfl) (pe hs_1 rfl rfl) (o_eq (o_gtr (m := (lenOf xs)) (n := 8192) rfl (pe hs_1 rfl rfl) rfl) (by rw [decide_eq_true q2])) ?_
      refine q_v 42 (.bool (true)) (o_pickF rfl (pe hs_1 rfl rfl) (pe hs_1 rfl rfl)) ?_
      refine q_mv (pe hs_1 rfl rfl) ?_
      refine op_left (e := 43) rfl rfl (by kernel_rfl) (pe hs_1 rfl rfl) rfl ?_
      refine op_left (e := 43) rfl rfl (by kernel_rfl) (pe hs_1 rfl rfl) rfl ?_
      refine op_left (e := 43) rfl rfl (by kernel_rfl) (pe hs_1 rfl rfl) rfl ?_
      refine op_left (e := 43) rfl rfl (by kernel_rfl) (pe hs_1 rfl rfl) rfl ?_
      refine op_left (e := 43) rfl rfl (by kernel_rfl) (pe hs_1 rfl rfl) rfl ?_
      refine q_v 49 (.bool (true)) (o_pickT rfl (pe hs_1 rfl rfl) rfl) ?_
      refine x_nil (hK_13 _ _ ?_)
      refine w2_condT (pe hs_1 rfl rfl) ?_
      refine w2_sr (fun K_15 hK_15 => ?_)
      refine q_as (.slice none (0) (0)) rfl ?_
      refine q_as (.bool (false)) rfl ?_
      refine q_as (.int .i64 ((3 : Nat) : Int)) rfl ?_
      refine x_nil (hK_15 _ _ ?_)
      refine w2_ret ?_
      refine thn_ret ?_
      refine thn_ret ?_
      refine ret3 rfl hd_1 (pe hs_1 rfl rfl) (pe hs_1 rfl rfl) (pe hs_1 rfl rfl) ?_
      exact ⟨_, _, _, _, _, .inr (.inl ⟨3, by decide, one_bad (by rw [first_at hb0]; exact stepA2 (co := ⟨ks, num, ev, cnt⟩) (dead := false) hsh hs0 hr0 q9) (by show ¬ (3 : Nat) = 0; decide), rfl⟩), ⟨(by have h9 := hC_1; rw [if_pos hr0] at h9; exact h9), hB_1, hW_1, hn_1⟩, nx_1, fun j hj => .inr (hge9 j hj), HB_1⟩
     ·skip
      refine x_region (by kernel_rfl) ?_
      refine q_mv (pe hs_1 rfl rfl) ?_
      refine q_v 38 (.bool (false)) (o_eq (o_lss (m := (lenOf xs)) (n := 64) rfl (pe hs_1 rfl rfl) rfl) (by rw [decide_eq_false (by omega)])) ?_
      refine q_mv (pe hs_1 rfl rfl) ?_
      refine op_valG (e := 39) (d := 40) (v := .int .i64 ((lenOf xs : Nat) : Int)) rfl rfl (by kernel_rfl) (pe hs_1 rfl rfl) (o_move rfl (pe hs_1 rfl rfl)) ?_
      refine op_valG (e := 39) (d := 41) (v := .bool (false)) rfl rfl (by kernel_rfl) (pe hs_1 rfl rfl) (o_eq (o_gtr (m := (lenOf xs)) (n := 8192) rfl (pe hs_1 rfl rfl) rfl) (by rw [decide_eq_false (by omega)])) ?_
      refine q_v 42 (.bool (false)) (o_pickF rfl (pe hs_1 rfl rfl) (pe hs_1 rfl rfl)) ?_
      refine q_mv (pe hs_1 rfl rfl) ?_
      refine op_valG (e := 43) (d := 44) (v := .int .i64 ((lenOf xs : Nat) : Int)) rfl rfl (by kernel_rfl) (pe hs_1 rfl rfl) (o_move rfl (pe hs_1 rfl rfl)) ?_
      refine op_valG (e := 43) (d := 45) (v := .int .i64 ((lenOf xs : Nat) : Int)) rfl rfl (by kernel_rfl) (pe hs_1 rfl rfl) (o_move rfl (pe hs_1 rfl rfl)) ?_
      refine op_valG (e := 43) (d := 46) (v := .int .i64 (((lenOf xs) - 1 : Nat) : Int)) rfl rfl (by kernel_rfl) (pe hs_1 rfl rfl) (o_sub64 (m := (lenOf xs)) (n := 1) rfl (pe hs_1 rfl rfl) rfl (by omega) (by omega)) ?_
      refine op_valG (e := 43) (d := 47) (v := .int .i64 ((lenOf xs &&& (lenOf xs - 1) : Nat) : Int)) rfl rfl (by kernel_rfl) (pe hs_1 rfl rfl) (o_bits (m := lenOf xs) (n := lenOf xs - 1) (lenOf xs &&& (lenOf xs - 1)) rfl (pe hs_1 rfl rfl) (pe hs_1 rfl rfl) (by decide) (i64_and_nat _ _ (by omega) (by omega))) ?_
      refine op_valG (e := 43) (d := 48) (v := .bool (true)) rfl rfl (by kernel_rfl) (pe hs_1 rfl rfl) (o_eq (o_neq (m := (lenOf xs &&& (lenOf xs - 1))) (n := 0) rfl (pe hs_1 rfl rfl) rfl) (by rw [decide_eq_false q3]; rfl)) ?_
      refine q_v 49 (.bool (true)) (o_pickF rfl (pe hs_1 rfl rfl) (pe hs_1 rfl rfl)) ?_
      refine x_nil (hK_13 _ _ ?_)
      refine w2_condT (pe hs_1 rfl rfl) ?_
      refine w2_sr (fun K_16 hK_16 => ?_)
      refine q_as (.slice none (0) (0)) rfl ?_
      refine q_as (.bool (false)) rfl ?_
      refine q_as (.int .i64 ((3 : Nat) : Int)) rfl ?_
      refine x_nil (hK_16 _ _ ?_)
      refine w2_ret ?_
      refine thn_ret ?_
      refine thn_ret ?_
      refine ret3 rfl hd_1 (pe hs_1 rfl rfl) (pe hs_1 rfl rfl) (pe hs_1 rfl rfl) ?_
      exact ⟨_, _, _, _, _, .inr (.inl ⟨3, by decide, one_bad (by rw [first_at hb0]; exact stepA2 (co := ⟨ks, num, ev, cnt⟩) (dead := false) hsh hs0 hr0 q9) (by show ¬ (3 : Nat) = 0; decide), rfl⟩), ⟨(by have h9 := hC_1; rw [if_pos hr0] at h9; exact h9), hB_1, hW_1, hn_1⟩, nx_1, fun j hj => .inr (hge9 j hj), HB_1⟩
     ·skip
      refine x_region (by kernel_rfl) ?_
      refine q_mv (pe hs_1 rfl rfl) ?_
      refine q_v 38 (.bool (false)) (o_eq (o_lss (m := (lenOf xs)) (n := 64) rfl (pe hs_1 rfl rfl) rfl) (by rw [decide_eq_false (by omega)])) ?_
      refine q_mv (pe hs_1 rfl rfl) ?_
      refine op_valG (e := 39) (d := 40) (v := .int .i64 ((lenOf xs : Nat) : Int)) rfl rfl (by kernel_rfl) (pe hs_1 rfl rfl) (o_move rfl (pe hs_1 rfl rfl)) ?_
      refine op_valG (e := 39) (d := 41) (v := .bool (false)) rfl rfl (by kernel_rfl) (pe hs_1 rfl rfl) (o_eq (o_gtr (m := (lenOf xs)) (n := 8192) rfl (pe hs_1 rfl rfl) rfl) (by rw [decide_eq_false (by omega)])) ?_
      refine q_v 42 (.bool (false)) (o_pickF rfl (pe hs_1 rfl rfl) (pe hs_1 rfl rfl)) ?_
      refine q_mv (pe hs_1 rfl rfl) ?_
      refine op_valG (e := 43) (d := 44) (v := .int .i64 ((lenOf xs : Nat) : Int)) rfl rfl (by kernel_rfl) (pe hs_1 rfl rfl) (o_move rfl (pe hs_1 rfl rfl)) ?_
      refine op_valG (e := 43) (d := 45) (v := .int .i64 ((lenOf xs : Nat) : Int)) rfl rfl (by kernel_rfl) (pe hs_1 rfl rfl) (o_move rfl (pe hs_1 rfl rfl)) ?_
      refine op_valG (e := 43) (d := 46) (v := .int .i64 (((lenOf xs) - 1 : Nat) : Int)) rfl rfl (by kernel_rfl) (pe hs_1 rfl rfl) (o_sub64 (m := (lenOf xs)) (n := 1) rfl (pe hs_1 rfl rfl) rfl (by omega) (by omega)) ?_
      refine op_valG (e := 43) (d := 47) (v := .int .i64 ((lenOf xs &&& (lenOf xs - 1) : Nat) : Int)) rfl rfl (by kernel_rfl) (pe hs_1 rfl rfl) (o_bits (m := lenOf xs) (n := lenOf xs - 1) (lenOf xs &&& (lenOf xs - 1)) rfl (pe hs_1 rfl rfl) (pe hs_1 rfl rfl) (by decide) (i64_and_nat _ _ (by omega) (by omega))) ?_
      refine op_valG (e := 43) (d := 48) (v := .bool (false)) rfl rfl (by kernel_rfl) (pe hs_1 rfl rfl) (o_eq (o_neq (m := (lenOf xs &&& (lenOf xs - 1))) (n := 0) rfl (pe hs_1 rfl rfl) rfl) (by rw [decide_eq_true q3]; rfl)) ?_
      refine q_v 49 (.bool (false)) (o_pickF rfl (pe hs_1 rfl rfl) (pe hs_1 rfl rfl)) ?_
      refine x_nil (hK_13 _ _ ?_)
      refine w2_condF (pe hs_1 rfl rfl) ?_
      refine w2_skip ?_
      refine hK_12 _ _ ?_
      refine x_region (by kernel_rfl) ?_
      refine q_mv ((pm rfl).trans ta_1_0) ?_
      refine q_mv (pe hs_1 rfl rfl) ?_
      refine q_nc (pe hs_1 rfl rfl) ?_
      refine q_fa 4 (pe hs_1 rfl rfl) ?_
      refine op_do rfl rfl (o_store1 rfl (pe hs_1 rfl rfl) (pe hs_1 rfl rfl) rfl rfl hB_1 (by simp only [List.length_cons, List.length_nil]; omega) ⟨by kernel_rfl, by kernel_rfl⟩) (fun w_3 hR_2 => ?_)
      obtain ⟨hB_2, hX_2⟩ := hR_2
      replace hC_1 := hC_1.keepX hX_2 hn_1
      replace hW_1 := hW_1.keepX hB_1 (by decide) hX_2
      replace hO_7 := hO_7.keepX hB_1 (by decide) hX_2
      replace hO_8 := hO_8.keepX hB_1 (by decide) hX_2
      replace hO_9 := hO_9.keepX hB_1 (by decide) hX_2
      replace hO_10 := hO_10.keepX hB_1 (by decide) hX_2
      have HB_2 := HB_1.step hX_2 (fun k hk (hY : k = ge) => .inl hY)
      clear hB_1
      simp only [List.set_cons_zero, List.set_cons_succ] at hB_2
      refine x_nil ?_
      obtain ⟨z1, hz1⟩ : ∃ q, q = lenOf xs := ⟨_, rfl⟩
      exact hK_2 _ _ ⟨N_1, A_6, c_6, num + 1, ws.drop 18, lenOf xs, (by rw [putsR_size]; exact hs_1), (by rw [putsR_defers]; exact hd_1), ((pm rfl).trans ta_1_0), ⟨(by have h9 := hC_1; rw [if_pos hr0] at h9; exact h9), hB_2, hW_1, hn_1⟩, nx_1, (fun j hj => .inr (hge9 j hj)), ⟨q1, by omega⟩, (Nat.le_refl _), (by omega), (by rw [first_at hb0, stepA3 (co := ⟨ks, num, ev, cnt⟩) (dead := false) hsh hs0 hr0 q9]; rfl), HB_2⟩
  ·simp only [DD9] at h_1
   have hb0 : ¬ body = 0 := h_1
   refine w2_skip ?_
   exact hK_2 _ _ ⟨N, A, c, num, ws, z, (by rw [putsR_size]; exact hs), (by rw [putsR_defers]; exact hd), ((pm rfl).trans t0), ⟨hC, hB, hWt, hn⟩, (NextM.refl w N), (fun j hj => .inl hj), (by omega), (Nat.le_succ _), (Nat.le_refl _), (by rw [first_on hb0]; congr 4; omega), HB0⟩
 ·skip
  clear t0 hd hB hC hWt HB0
  rintro a_2 w_4 ⟨N1, A1, c1, num1, ws1, b1, hs_2, hd_2, ta_2_0, hP1, hx1, hA1, hb1, hn1l, hw1l, hf1, HBC⟩
  have hB1 := hP1.blk
  have hC1 := hP1.cip
  have hW1 := hP1.wt
  have hn1 := hP1.apart
  dsimp only at hB1 hC1 hW1
  refine w2_seq (fun K_17 hK_17 => ?_)
  refine w2_seq (fun K_18 hK_18 => ?_)
  refine x_drawn 10 [fun _ v => v = .pointer (some ⟨ge, 0, none⟩), fun _ v => v = .pointer (some ⟨ge, 0, none⟩), fun _ v => v = .pointer (some ⟨ge, 3, none⟩), fun _ v => v = .slice A1 (ws1.length) (c1), fun _ v => v = .int .i64 ((ws1.length : Nat) : Int), fun _ v => v = .pointer (some ⟨ge, 0, none⟩), fun _ v => v = .pointer (some ⟨ge, 0, none⟩), fun _ v => v = .pointer (some ⟨ge, 4, none⟩), fun _ v => v = .int .i64 ((b1 : Nat) : Int), fun _ v => v = .int .i64 ((b1 + 16 : Nat) : Int)] [54, 55, 56, 57, 58, 59, 60, 61, 62, 63] hs_2 hd_2 (by kernel_rfl) (by kernel_rfl) (by kernel_rfl) (by kernel_rfl) (by kernel_rfl) ⟨stLit, stLit, stLit, stLit, stLit, stLit, stLit, stLit, stLit, stLit, trivial⟩ ⟨(step_ok rfl (fun a' w' hb' hO hD => by
    have d_13 := (hO 0 (by decide)).trans ((pm rfl).trans ta_2_0)
    exact .inl ⟨_, _, (o_move rfl d_13), rfl, Below.refl _ _⟩)),
(step_ok rfl (fun a' w' hb' hO hD => by
    have d_14 : a'.eval (.tmp 54) = .pointer (some ⟨ge, 0, none⟩) := hD 0 54 (by kernel_rfl) rfl
    exact .inl ⟨_, _, (o_nilCheck rfl d_14), rfl, Below.refl _ _⟩)),
(step_ok rfl (fun a' w' hb' hO hD => by
    have d_15 : a'.eval (.tmp 55) = .pointer (some ⟨ge, 0, none⟩) := hD 1 55 (by kernel_rfl) rfl
    exact .inl ⟨_, _, (o_field (k' := 3) rfl d_15 (fun _ => by kernel_rfl)), rfl, Below.refl _ _⟩)),
(step_ok rfl (fun a' w' hb' hO hD => by
    have d_16 : a'.eval (.tmp 56) = .pointer (some ⟨ge, 3, none⟩) := hD 2 56 (by kernel_rfl) rfl
    exact .inl ⟨_, _, (o_load1 rfl d_16 (hB1.nx hb') rfl ⟨by kernel_rfl, by kernel_rfl⟩), rfl, Below.refl _ _⟩)),
(step_ok rfl (fun a' w' hb' hO hD => by
    have d_17 : a'.eval (.tmp 57) = .slice A1 (ws1.length) (c1) := hD 3 57 (by kernel_rfl) rfl
    exact .inl ⟨_, _, (o_len rfl d_17), rfl, Below.refl _ _⟩)),
(step_ok rfl (fun a' w' hb' hO hD => by
    have d_18 := (hO 0 (by decide)).trans ((pm rfl).trans ta_2_0)
    exact .inl ⟨_, _, (o_move rfl d_18), rfl, Below.refl _ _⟩)),
(step_ok rfl (fun a' w' hb' hO hD => by
    have d_19 : a'.eval (.tmp 59) = .pointer (some ⟨ge, 0, none⟩) := hD 5 59 (by kernel_rfl) rfl
    exact .inl ⟨_, _, (o_nilCheck rfl d_19), rfl, Below.refl _ _⟩)),
(step_ok rfl (fun a' w' hb' hO hD => by
    have d_20 : a'.eval (.tmp 60) = .pointer (some ⟨ge, 0, none⟩) := hD 6 60 (by kernel_rfl) rfl
    exact .inl ⟨_, _, (o_field (k' := 4) rfl d_20 (fun _ => by kernel_rfl)), rfl, Below.refl _ _⟩)),
(step_ok rfl (fun a' w' hb' hO hD => by
    have d_21 : a'.eval (.tmp 61) = .pointer (some ⟨ge, 4, none⟩) := hD 7 61 (by kernel_rfl) rfl
    exact .inl ⟨_, _, (o_load1 rfl d_21 (hB1.nx hb') rfl ⟨by kernel_rfl, by kernel_rfl⟩), rfl, Below.refl _ _⟩)),
(step_ok rfl (fun a' w' hb' hO hD => by
    have d_22 : a'.eval (.tmp 62) = .int .i64 ((b1 : Nat) : Int) := hD 8 62 (by kernel_rfl) rfl
    exact .inl ⟨_, _, (o_add64 (m := b1) (n := 16) rfl d_22 rfl (by omega)), rfl, Below.refl _ _⟩)), trivial⟩ (fun a_3 w_5 hs_3 hd_3 hb_2 hO_11 hV_2 => ?_)
  have ta_3_0 := (hO_11 0 (by decide)).trans ((pm rfl).trans ta_2_0)
  clear ta_2_0 hd_2
  replace hB1 := hB1.nx hb_2
  replace hC1 := hC1.nx hb_2
  replace hW1 := hW1.nx hb_2
  have HB_3 := HBC.then hb_2
  have ta_3_54 : a_3.eval (.tmp 54) = .pointer (some ⟨ge, 0, none⟩) := hV_2 0 54 rfl rfl
  have ta_3_55 : a_3.eval (.tmp 55) = .pointer (some ⟨ge, 0, none⟩) := hV_2 1 55 rfl rfl
  have ta_3_56 : a_3.eval (.tmp 56) = .pointer (some ⟨ge, 3, none⟩) := hV_2 2 56 rfl rfl
  have ta_3_57 : a_3.eval (.tmp 57) = .slice A1 (ws1.length) (c1) := hV_2 3 57 rfl rfl
  have ta_3_58 : a_3.eval (.tmp 58) = .int .i64 ((ws1.length : Nat) : Int) := hV_2 4 58 rfl rfl
  have ta_3_59 : a_3.eval (.tmp 59) = .pointer (some ⟨ge, 0, none⟩) := hV_2 5 59 rfl rfl
  have ta_3_60 : a_3.eval (.tmp 60) = .pointer (some ⟨ge, 0, none⟩) := hV_2 6 60 rfl rfl
  have ta_3_61 : a_3.eval (.tmp 61) = .pointer (some ⟨ge, 4, none⟩) := hV_2 7 61 rfl rfl
  have ta_3_62 : a_3.eval (.tmp 62) = .int .i64 ((b1 : Nat) : Int) := hV_2 8 62 rfl rfl
  have ta_3_63 : a_3.eval (.tmp 63) = .int .i64 ((b1 + 16 : Nat) : Int) := hV_2 9 63 rfl rfl
  clear hV_2 hO_11
  simp only [List.drop_succ_cons, List.drop_zero]
  refine q_v 64 (.bool (decide (ws1.length < (b1 + 16)))) (o_lss (m := ws1.length) (n := (b1 + 16)) rfl ((pm rfl).trans ta_3_58) ((pm rfl).trans ta_3_63)) ?_
  refine x_nil (hK_18 _ _ ?_)
  refine w2_split (pe hs_3 rfl rfl) (fun h_4 => ?_) (fun h_4 => ?_)
  ·simp only [DD9] at h_4
   have hsh1 : ws1.length < b1 + 16 := h_4
   refine w2_sr (fun K_19 hK_19 => ?_)
   refine q_as (.slice none (0) (0)) rfl ?_
   refine q_as (.bool (false)) rfl ?_
   refine q_as (.int .i64 ((0 : Nat) : Int)) rfl ?_
   refine x_nil (hK_19 _ _ ?_)
   refine w2_ret ?_
   refine thn_ret ?_
   refine ret3 rfl hd_3 (pe hs_3 rfl rfl) (pe hs_3 rfl rfl) (pe hs_3 rfl rfl) ?_
   exact ⟨_, _, _, _, _, .inl ⟨one_wait hf1 (step_wait hsh1), rfl, ⟨rfl, .inr (by show 80 ≤ b1 + 16; omega), by show b1 + 16 ≤ _; omega⟩⟩, ⟨hC1, hB1, hW1, hn1⟩, hx1, hA1, HB_3⟩
  ·simp only [DD9] at h_4
   have hsh1 : b1 + 16 ≤ ws1.length := h_4
   refine w2_skip ?_
   refine hK_17 _ _ ?_
   refine w2_seq (fun K_20 hK_20 => ?_)
   have hsep9 : Sep (blkA A1) (fun j => j = ge ∨ j = gc) := fun j hj e => e.elim (fun e => hW1.sepB hB1 (by decide) (e ▸ hj)) (fun e => by obtain ⟨cu, hc⟩ := hC1.blk; exact hW1.sepB hc (by decide) (e ▸ hj))
   have hgne9 : ¬ ge = gc := fun e => hn1 (by rw [e]; exact hC1.mem)
   have hfl9 : (ws1.take (b1 + 16)).length = b1 + 16 := List.length_take_of_le (by omega)
   have hdl9 : (ws1.drop (b1 + 16)).length = ws1.length - (b1 + 16) := List.length_drop
   obtain ⟨xs, r, hs0⟩ : ∃ xs r, openL ks (nonceL num1) [] (ws1.take (b1 + 16)) = (xs, r) := ⟨_, _, rfl⟩
   have hxl := fun (h : r = 0) => openL_length hs0 h
   have hre := fun (h : ¬ r = 0) => openL_err hs0 h (by rw [hfl9]; omega)
   rw [hfl9] at hxl
   refine x_drawnMM 16 10 11 (fun j => j = ge ∨ j = gc) (fun w' => CipherRt w' N1 gc ks (num1) ∧ Blk w' ge #[.pointer (some ⟨gc, 0, none⟩), .int .i64 ((ev : Nat) : Int), .int .i64 ((cnt : Nat) : Int), .slice A1 (ws1.length) (c1), .int .i64 ((b1 : Nat) : Int), .bool (false)] 51) (fun w' => CipherRt w' N1 gc ks (num1) ∧ ∃ A9 c9, Blk w' ge #[.pointer (some ⟨gc, 0, none⟩), .int .i64 ((ev : Nat) : Int), .int .i64 ((cnt : Nat) : Int), .slice A9 ((ws1.drop (b1 + 16)).length) (c9), .int .i64 ((b1 : Nat) : Int), .bool (false)] 51 ∧ Own w' w_5.heap.size A9 c9 (ws1.drop (b1 + 16))) (fun w' => (∃ A9 c9, Blk w' ge #[.pointer (some ⟨gc, 0, none⟩), .int .i64 ((ev : Nat) : Int), .int .i64 ((cnt : Nat) : Int), .slice A9 ((ws1.drop (b1 + 16)).length) (c9), .int .i64 ((b1 : Nat) : Int), .bool (false)] 51 ∧ Own w' w_5.heap.size A9 c9 (ws1.drop (b1 + 16))) ∧ ∃ N', CipherRt w' N' gc ks (if r = 0 then num1 + 1 else num1) ∧ NextM w_5 N1 N') (fun w' => ∃ A9 n9 c9, Blk w' ge #[.pointer (some ⟨gc, 0, none⟩), .int .i64 ((ev : Nat) : Int), .int .i64 ((cnt : Nat) : Int), .slice A9 (n9) (c9), .int .i64 ((b1 : Nat) : Int), .bool (false)] 51) [fun _ v => v = .pointer (some ⟨ge, 0, none⟩), fun _ v => v = .pointer (some ⟨ge, 0, none⟩), fun _ v => v = .pointer (some ⟨ge, 0, none⟩), fun _ v => v = .pointer (some ⟨gc, 0, none⟩), fun _ v => v = .pointer (some ⟨ge, 0, none⟩), fun _ v => v = .pointer (some ⟨ge, 0, none⟩), fun _ v => v = .pointer (some ⟨ge, 0, none⟩), fun _ v => v = .pointer (some ⟨ge, 4, none⟩), fun _ v => v = .int .i64 ((b1 : Nat) : Int), fun _ v => v = .int .i64 ((b1 + 16 : Nat) : Int), fun _ v => v = .slice ((subA A1 0 c1)) (b1 + 16) (c1), fun ww vv => TupN w_5.heap.size (xs.length) (xs) (r) ww vv, fun ww vv => TupN w_5.heap.size (xs.length) (xs) (r) ww vv, fun ww vv => OwnN w_5.heap.size (xs.length) (xs) ww vv, fun _ v => v = .int .i64 ((r : Nat) : Int), fun ww vv => OwnN w_5.heap.size (xs.length) (xs) ww vv] [66, 67, 68, 69, 70, 71, 72, 73, 74, 75, 76, 77, 65, 78, 79, 8] hs_3 hd_3 (by kernel_rfl) (by kernel_rfl) (by kernel_rfl) (by kernel_rfl) (by kernel_rfl) rfl (by kernel_rfl) (fun _ h => ⟨_, _, _, h.2⟩) (fun _ ⟨_, _, _, h, _⟩ => ⟨_, _, _, h⟩) (fun _ ⟨⟨_, _, h, _⟩, _⟩ => ⟨_, _, _, h⟩) ⟨stLitX, stLitX, stLitX, stLitX, stLitX, stLitX, stLitX, stLitX, stLitX, stLitX, stLitX, (stTupX (fun j hj => hj.elim (fun h => h ▸ hB1.lt) (fun h => h ▸ hC1.lt _ hC1.mem))), (stTupX (fun j hj => hj.elim (fun h => h ▸ hB1.lt) (fun h => h ▸ hC1.lt _ hC1.mem))), (stOwnX (fun j hj => hj.elim (fun h => h ▸ hB1.lt) (fun h => h ▸ hC1.lt _ hC1.mem))), stLitX, (stOwnX (fun j hj => hj.elim (fun h => h ▸ hB1.lt) (fun h => h ▸ hC1.lt _ hC1.mem))), trivial⟩ (fun _ _ h hb => ⟨h.1.nx hb, h.2.nx hb⟩) (fun _ _ ⟨h1, A9, c9, h2, h3⟩ hb => ⟨h1.nx hb, A9, c9, h2.nx hb, h3.nx hb⟩) (fun _ _ ⟨⟨A9, c9, h2, h3⟩, N', h4, h5⟩ hb => ⟨⟨A9, c9, h2.nx hb, h3.nx hb⟩, N', h4.nx hb, h5⟩) ⟨hC1, hB1⟩ ⟨(stepMM_val rfl rfl (fun a' w' hb' hO hD hKw => by
     obtain ⟨A9, n9, c9, hK9⟩ := hKw
     have d_23 := (hO 0 (by decide)).trans ((pm rfl).trans ta_3_0)
     exact .inl ⟨_, _, (o_move rfl d_23), rfl, Below.refl _ _⟩)),
(stepMM_val rfl rfl (fun a' w' hb' hO hD hKw => by
     obtain ⟨A9, n9, c9, hK9⟩ := hKw
     have d_24 : a'.eval (.tmp 66) = .pointer (some ⟨ge, 0, none⟩) := hD 0 66 (by kernel_rfl) rfl
     exact .inl ⟨_, _, (o_nilCheck rfl d_24), rfl, Below.refl _ _⟩)),
(stepMM_val rfl rfl (fun a' w' hb' hO hD hKw => by
     obtain ⟨A9, n9, c9, hK9⟩ := hKw
     have d_25 : a'.eval (.tmp 67) = .pointer (some ⟨ge, 0, none⟩) := hD 1 67 (by kernel_rfl) rfl
     exact .inl ⟨_, _, (o_field (k' := 0) rfl d_25 (fun _ => by kernel_rfl)), rfl, Below.refl _ _⟩)),
(stepMM_val rfl rfl (fun a' w' hb' hO hD hKw => by
     obtain ⟨A9, n9, c9, hK9⟩ := hKw
     have d_26 : a'.eval (.tmp 68) = .pointer (some ⟨ge, 0, none⟩) := hD 2 68 (by kernel_rfl) rfl
     exact .inl ⟨_, _, (o_load1 rfl d_26 hK9 rfl ⟨by kernel_rfl, by kernel_rfl⟩), rfl, Below.refl _ _⟩)),
(stepMM_val rfl rfl (fun a' w' hb' hO hD hKw => by
     obtain ⟨A9, n9, c9, hK9⟩ := hKw
     have d_27 := (hO 0 (by decide)).trans ((pm rfl).trans ta_3_0)
     exact .inl ⟨_, _, (o_move rfl d_27), rfl, Below.refl _ _⟩)),
(stepMM_val rfl rfl (fun a' w' hb' hO hD hKw => by
     obtain ⟨A9, n9, c9, hK9⟩ := hKw
     have d_28 := (hO 0 (by decide)).trans ((pm rfl).trans ta_3_0)
     exact .inl ⟨_, _, (o_move rfl d_28), rfl, Below.refl _ _⟩)),
(stepMM_val rfl rfl (fun a' w' hb' hO hD hKw => by
     obtain ⟨A9, n9, c9, hK9⟩ := hKw
     have d_29 : a'.eval (.tmp 71) = .pointer (some ⟨ge, 0, none⟩) := hD 5 71 (by kernel_rfl) rfl
     exact .inl ⟨_, _, (o_nilCheck rfl d_29), rfl, Below.refl _ _⟩)),
(stepMM_val rfl rfl (fun a' w' hb' hO hD hKw => by
     obtain ⟨A9, n9, c9, hK9⟩ := hKw
     have d_30 : a'.eval (.tmp 72) = .pointer (some ⟨ge, 0, none⟩) := hD 6 72 (by kernel_rfl) rfl
     exact .inl ⟨_, _, (o_field (k' := 4) rfl d_30 (fun _ => by kernel_rfl)), rfl, Below.refl _ _⟩)),
(stepMM_val rfl rfl (fun a' w' hb' hO hD hKw => by
     obtain ⟨A9, n9, c9, hK9⟩ := hKw
     have d_31 : a'.eval (.tmp 73) = .pointer (some ⟨ge, 4, none⟩) := hD 7 73 (by kernel_rfl) rfl
     exact .inl ⟨_, _, (o_load1 rfl d_31 hK9 rfl ⟨by kernel_rfl, by kernel_rfl⟩), rfl, Below.refl _ _⟩)),
(stepMM_val rfl rfl (fun a' w' hb' hO hD hKw => by
     obtain ⟨A9, n9, c9, hK9⟩ := hKw
     have d_32 : a'.eval (.tmp 74) = .int .i64 ((b1 : Nat) : Int) := hD 8 74 (by kernel_rfl) rfl
     exact .inl ⟨_, _, (o_add64 (m := b1) (n := 16) rfl d_32 rfl (by omega)), rfl, Below.refl _ _⟩)),
(stepMM_one rfl (fun a' w' hb' hO hD hH => by
     have d_33 : a'.eval (.tmp 70) = .pointer (some ⟨ge, 0, none⟩) := hD 4 70 (by kernel_rfl) rfl
     have d_34 : a'.eval (.tmp 75) = .int .i64 ((b1 + 16 : Nat) : Int) := hD 9 75 (by kernel_rfl) rfl
     exact ⟨_, #[.pointer (some ⟨ge, 0, none⟩), .int .i64 ((b1 + 16 : Nat) : Int)], (exec_call Try.func73 (by kernel_rfl) (by kernel_rfl) _ rfl _ _ (args2 d_33 d_34)), Calls.mono (take_any _ hH.2 (hW1.keepM hb' hsep9) rfl (by omega) (by omega)) (fun e w'' hR => by obtain ⟨rfl, A9, c9, hB9, hO9, hX9⟩ := hR; exact ⟨_, rfl, rfl, hX9.mono (fun k _ h => .inl h), hH.1.keepX hX9 hn1, A9, c9, hB9, hO9.mono hb'.size⟩)⟩)),
(stepMM_two rfl rfl (fun a' w' hb' hO hD hH => by
     have d_35 : a'.eval (.tmp 69) = .pointer (some ⟨gc, 0, none⟩) := hD 3 69 (by kernel_rfl) rfl
     have d_36 : a'.eval (.tmp 76) = .slice ((subA A1 0 c1)) (b1 + 16) (c1) := hD 10 76 (by kernel_rfl) rfl
     exact ⟨_, #[.pointer (some ⟨gc, 0, none⟩), .slice none (0) (0), .slice ((subA A1 0 c1)) (b1 + 16) (c1)], (exec_call Try.func72 (by kernel_rfl) (by kernel_rfl) _ rfl _ _ (args3 d_35 rfl d_36)), Calls.mono (COpenW_any _ hH.1 (Bs.nil _) ((hW1.keepM hb' hsep9).first (by omega)) rfl hfl9 (by omega) (by omega) (by omega) hs0) (fun e w'' hR => by obtain ⟨A_11, c_11, rfl, ho_2, ⟨N9, hC9, hN9⟩, hX9⟩ := hR; exact ⟨_, rfl, ⟨_, _, rfl, ho_2.mono hb'.size⟩, hX9.mono (fun k _ h => .inr h), ⟨by obtain ⟨hC1, A9, c9, hB9, hO9⟩ := hH; exact ⟨A9, c9, hX9.blk hB9 hgne9, hC1.own hX9 hO9⟩, N9, hC9, fun j hj => (hN9 j hj).imp id (Nat.le_trans hb'.size)⟩⟩)⟩)),
(stepMM_val rfl rfl (fun a' w' hb' hO hD hKw => by
     obtain ⟨A9, n9, c9, hK9⟩ := hKw
     have d_37 := hD 11 77 (by kernel_rfl) rfl
     obtain ⟨A_12, c_12, hv_9, hO_12⟩ := d_37
     exact .inl ⟨_, _, (o_move rfl hv_9), ⟨_, _, rfl, hO_12⟩, Below.refl _ _⟩)),
(stepMM_val rfl rfl (fun a' w' hb' hO hD hKw => by
     obtain ⟨A9, n9, c9, hK9⟩ := hKw
     have d_38 := hD 12 65 (by kernel_rfl) rfl
     obtain ⟨A_13, c_13, hv_10, hO_13⟩ := d_38
     exact .inl ⟨_, _, (o_extract rfl hv_10 rfl), ⟨_, _, rfl, hO_13⟩, Below.refl _ _⟩)),
(stepMM_val rfl rfl (fun a' w' hb' hO hD hKw => by
     obtain ⟨A9, n9, c9, hK9⟩ := hKw
     have d_39 := hD 12 65 (by kernel_rfl) rfl
     obtain ⟨A_14, c_14, hv_11, hO_14⟩ := d_39
     exact .inl ⟨_, _, (o_extract rfl hv_11 rfl), rfl, Below.refl _ _⟩)),
(stepMM_val rfl rfl (fun a' w' hb' hO hD hKw => by
     obtain ⟨A9, n9, c9, hK9⟩ := hKw
     have d_40 := hD 13 78 (by kernel_rfl) rfl
     obtain ⟨A_15, c_15, hv_12, hO_15⟩ := d_40
     exact .inl ⟨_, _, (o_assign rfl hv_12), ⟨_, _, rfl, hO_15⟩, Below.refl _ _⟩)), trivial⟩ (fun a_4 w_6 hs_4 hd_4 hX_3 hH_2 hO_16 hV_3 => ?_)
   have ta_4_0 := (hO_16 0 (by decide)).trans ((pm rfl).trans ta_3_0)
   clear ta_3_0 ta_3_54 ta_3_55 ta_3_56 ta_3_57 ta_3_58 ta_3_59 ta_3_60 ta_3_61 ta_3_62 ta_3_63 hd_3
   obtain ⟨⟨A_16, c_16, hB_3, hO_17⟩, N_2, hC_2, hN_2⟩ := hH_2
   have hn_2 := hN_2.not hn1 hB1.lt
   have nx_2 := hx1.trans hN_2 HB_3.size
   have hge9 := fun j hj => Nat.le_trans HB_3.size (hO_17.ge' j hj)
   have HB_4 := HB_3.step hX_3 (fun k hk hY => hY)
   have hW_2 := hO_17.wt
   have x_5 := hV_3 11 77 rfl rfl
   obtain ⟨A_17, c_17, hv_13, hO_18⟩ := x_5
   replace hO_18 := hO_18.mono HB_3.size
   have x_6 := hV_3 12 65 rfl rfl
   obtain ⟨A_18, c_18, hv_14, hO_19⟩ := x_6
   replace hO_19 := hO_19.mono HB_3.size
   have x_7 := hV_3 13 78 rfl rfl
   obtain ⟨A_19, c_19, hv_15, hO_20⟩ := x_7
   replace hO_20 := hO_20.mono HB_3.size
   have ta_4_79 : a_4.eval (.tmp 79) = .int .i64 ((r : Nat) : Int) := hV_3 14 79 rfl rfl
   have x_8 := hV_3 15 8 rfl rfl
   obtain ⟨A_20, c_20, hv_16, hO_21⟩ := x_8
   replace hO_21 := hO_21.mono HB_3.size
   clear hV_3 hO_16
   simp only [List.drop_succ_cons, List.drop_zero]
   refine q_at ((pm rfl).trans ta_4_79) ?_
   refine x_nil (hK_20 _ _ ?_)
   refine w2_sr (fun K_21 hK_21 => ?_)
   refine q_mv ((pm rfl).trans ta_4_0) ?_
   refine q_nc (pe hs_4 rfl rfl) ?_
   refine q_fa 4 (pe hs_4 rfl rfl) ?_
   refine op_do rfl rfl (o_store1 rfl (pe hs_4 rfl rfl) rfl rfl rfl hB_3 (by simp only [List.length_cons, List.length_nil]; omega) ⟨by kernel_rfl, by kernel_rfl⟩) (fun w_7 hR_3 => ?_)
   obtain ⟨hB_4, hX_4⟩ := hR_3
   replace hC_2 := hC_2.keepX hX_4 hn_2
   replace hW_2 := hW_2.keepX hB_3 (by decide) hX_4
   replace hO_18 := hO_18.keepX hB_3 (by decide) hX_4
   replace hO_19 := hO_19.keepX hB_3 (by decide) hX_4
   replace hO_20 := hO_20.keepX hB_3 (by decide) hX_4
   replace hO_21 := hO_21.keepX hB_3 (by decide) hX_4
   have HB_5 := HB_4.step hX_4 (fun k hk (hY : k = ge) => .inl hY)
   clear hB_3
   simp only [List.set_cons_zero, List.set_cons_succ] at hB_4
   refine x_nil (hK_21 _ _ ?_)
   refine w2_seq (fun K_22 hK_22 => ?_)
   refine w2_sr (fun K_23 hK_23 => ?_)
   refine q_mv (pe hs_4 rfl rfl) ?_
   refine q_v 84 (.bool (!decide (r = 0))) (o_neq (m := r) (n := 0) rfl (pe hs_4 rfl rfl) rfl) ?_
   refine x_nil (hK_23 _ _ ?_)
   refine w2_split (pe hs_4 rfl rfl) (fun h_5 => ?_) (fun h_5 => ?_)
   ·simp only [DD9] at h_5
    have hr0 : ¬ r = 0 := h_5
    refine w2_sr (fun K_24 hK_24 => ?_)
    refine q_as (.slice none (0) (0)) rfl ?_
    refine q_as (.bool (false)) rfl ?_
    refine q_as (.int .i64 ((4 : Nat) : Int)) rfl ?_
    refine x_nil (hK_24 _ _ ?_)
    refine w2_ret ?_
    refine thn_ret ?_
    refine ret3 rfl hd_4 (pe hs_4 rfl rfl) (pe hs_4 rfl rfl) (pe hs_4 rfl rfl) ?_
    obtain rfl := hre hr0
    exact ⟨_, _, _, _, _, .inr (.inl ⟨4, by decide, one_bad2 hf1 (stepB1 (co := ⟨ks, num1, ev, cnt⟩) (dead := false) (by omega) hsh1 hs0 hr0) (by show ¬ (4 : Nat) = 0; decide), rfl⟩), ⟨(by have h9 := hC_2; rw [if_neg hr0] at h9; exact h9), hB_4, hW_2, hn_2⟩, nx_2, fun j hj => .inr (hge9 j hj), HB_5⟩
   ·simp only [DD9] at h_5
    have hr0 : r = 0 := by have h9 := h_5; omega
    have hxl2 := hxl hr0
    refine w2_skip ?_
    refine hK_22 _ _ ?_
    refine w2_seq (fun K_25 hK_25 => ?_)
    rcases hu : unwrapL xs with _ | b
    ·skip
     refine x_region (by kernel_rfl) ?_
     refine q_mv ((pm rfl).trans hv_16) ?_
     refine q_ca (vs := #[.slice A_20 (xs.length) (c_20)]) Try.func75 (args1 (pe hs_4 rfl rfl)) (UnwrapW_none _ (hO_21).bs rfl (by omega) (by omega) hu) (fun e_2 w_8 hR_4 => ?_)
     obtain ⟨rfl, hb_4⟩ := hR_4
     replace hC_2 := hC_2.nx hb_4
     replace hW_2 := hW_2.nx hb_4
     replace hO_18 := hO_18.nx hb_4
     replace hO_19 := hO_19.nx hb_4
     replace hO_20 := hO_20.nx hb_4
     replace hO_21 := hO_21.nx hb_4
     replace hB_4 := hB_4.nx hb_4
     have HB_6 := HB_5.then hb_4
     refine ⟨_, rfl, ?_⟩
     refine q_mv (pe hs_4 rfl rfl) ?_
     refine q_ex (v := .slice none (0) (0)) (pe hs_4 rfl rfl) rfl ?_
     refine q_ex (v := .int .i64 ((3 : Nat) : Int)) (pe hs_4 rfl rfl) rfl ?_
     refine q_at (pe hs_4 rfl rfl) ?_
     refine q_at (v := .int .i64 ((3 : Nat) : Int)) (pe hs_4 rfl rfl) ?_
     refine x_nil (hK_25 _ _ ?_)
     refine w2_seq (fun K_26 hK_26 => ?_)
     refine w2_sr (fun K_27 hK_27 => ?_)
     refine q_mv (v := .int .i64 ((3 : Nat) : Int)) (pe hs_4 rfl rfl) ?_
     refine q_v 91 (.bool (true)) (o_eq (o_neq (m := 3) (n := 0) rfl (pe hs_4 rfl rfl) rfl) rfl) ?_
     refine x_nil (hK_27 _ _ ?_)
     refine w2_condT (pe hs_4 rfl rfl) ?_
     refine w2_sr (fun K_28 hK_28 => ?_)
     refine q_mv (v := .int .i64 ((3 : Nat) : Int)) (pe hs_4 rfl rfl) ?_
     refine q_as (.slice none (0) (0)) rfl ?_
     refine q_as (.bool (false)) rfl ?_
     refine q_at (v := .int .i64 ((3 : Nat) : Int)) (pe hs_4 rfl rfl) ?_
     refine x_nil (hK_28 _ _ ?_)
     refine w2_ret ?_
     refine thn_ret ?_
     refine ret3 rfl hd_4 (pe hs_4 rfl rfl) (pe hs_4 rfl rfl) (pe hs_4 rfl rfl) ?_
     exact ⟨_, _, _, _, _, .inr (.inl ⟨3, by decide, one_bad2 hf1 (stepB2 (co := ⟨ks, num1, ev, cnt⟩) (dead := false) (by omega) hsh1 hs0 hr0 hu) (by show ¬ (3 : Nat) = 0; decide), rfl⟩), ⟨(by have h9 := hC_2; rw [if_pos hr0] at h9; exact h9), hB_4, hW_2, hn_2⟩, nx_2, fun j hj => .inr (hge9 j hj), HB_6⟩
    ·skip
     have hlt9 := hW_2.lt
     refine x_region (by kernel_rfl) ?_
     refine q_mv ((pm rfl).trans hv_16) ?_
     refine q_ca (vs := #[.slice A_20 (xs.length) (c_20)]) Try.func75 (args1 (pe hs_4 rfl rfl)) (UnwrapW_some _ (hO_21).bs rfl (by omega) (by omega) hu) (fun e_3 w_9 hR_5 => ?_)
     obtain ⟨A_21, c_21, rfl, ho_3, hb_5⟩ := hR_5
     have gz_1 := ho_3.ge'
     have sp_1 : Sep (blkA A_21) N_2 := (Sep.new hC_2.lt gz_1).symm
     replace ho_3 := ho_3.mono HB_5.size
     replace hC_2 := hC_2.nx hb_5
     replace hW_2 := hW_2.nx hb_5
     replace hO_18 := hO_18.nx hb_5
     replace hO_19 := hO_19.nx hb_5
     replace hO_20 := hO_20.nx hb_5
     replace hO_21 := hO_21.nx hb_5
     replace hB_4 := hB_4.nx hb_5
     have HB_7 := HB_5.then hb_5
     refine ⟨_, rfl, ?_⟩
     refine q_mv (pe hs_4 rfl rfl) ?_
     refine q_ex (v := .slice A_21 (b.length) (c_21)) (pe hs_4 rfl rfl) rfl ?_
     refine q_ex (v := .int .i64 ((0 : Nat) : Int)) (pe hs_4 rfl rfl) rfl ?_
     refine q_at (pe hs_4 rfl rfl) ?_
     refine q_at (v := .int .i64 ((0 : Nat) : Int)) (pe hs_4 rfl rfl) ?_
     refine x_nil (hK_25 _ _ ?_)
     refine w2_seq (fun K_29 hK_29 => ?_)
     refine w2_sr (fun K_30 hK_30 => ?_)
     refine q_mv (v := .int .i64 ((0 : Nat) : Int)) (pe hs_4 rfl rfl) ?_
     refine q_v 91 (.bool (false)) (o_eq (o_neq (m := 0) (n := 0) rfl (pe hs_4 rfl rfl) rfl) rfl) ?_
     refine x_nil (hK_30 _ _ ?_)
     refine w2_condF (pe hs_4 rfl rfl) ?_
     refine w2_skip ?_
     refine hK_29 _ _ ?_
     refine w2_sr (fun K_31 hK_31 => ?_)
     refine q_mv ((pm rfl).trans ta_4_0) ?_
     refine q_ca (vs := #[.pointer (some ⟨ge, 0, none⟩)]) Try.func46 (args1 (pe hs_4 rfl rfl)) (went_any _ hB_4 hC_2 hn_2 (by omega) (by omega)) (fun e_4 w_10 hR_6 => ?_)
     obtain ⟨rfl, ⟨N_3, hC_3, hNx_1⟩, hB_5, hX_5⟩ := hR_6
     have hn_3 := hNx_1.not hn_2 hB_4.lt
     replace hW_2 := hW_2.keepR hB_4 (by decide) hC_2 hX_5
     replace hO_18 := hO_18.keepR hB_4 (by decide) hC_2 hX_5
     replace hO_19 := hO_19.keepR hB_4 (by decide) hC_2 hX_5
     replace hO_20 := hO_20.keepR hB_4 (by decide) hC_2 hX_5
     replace hO_21 := hO_21.keepR hB_4 (by decide) hC_2 hX_5
     have sp_2 := hNx_1.sep sp_1 ho_3.lt
     replace ho_3 := ho_3.keepR hB_4 (by decide) hC_2 hX_5
     have nx_3 := nx_2.trans hNx_1 HB_7.size
     have HB_8 := HB_7.step hX_5 (fun k hk hY => hY)
     refine ⟨_, rfl, ?_⟩
     refine x_nil (hK_31 _ _ ?_)
     refine w2_sr (fun K_32 hK_32 => ?_)
     refine q_mv (pe hs_4 rfl rfl) ?_
     refine q_at (pe hs_4 rfl rfl) ?_
     refine q_as (.bool (true)) rfl ?_
     refine q_as (.int .i64 ((0 : Nat) : Int)) rfl ?_
     refine x_nil (hK_32 _ _ ?_)
     refine w2_ret ?_
     refine ret3 rfl hd_4 (pe hs_4 rfl rfl) (pe hs_4 rfl rfl) (pe hs_4 rfl rfl) ?_
     have hsa9 : Sep (blkA A_21) (blkA A_16) := fun j hj hm => absurd (hlt9 j hm) (Nat.not_lt.2 (gz_1 j hj))
     exact ⟨_, _, _, _, _, .inr (.inr ⟨b, _, _, one_good hf1 (stepB3 (co := ⟨ks, num1, ev, cnt⟩) (dead := false) (by omega) hsh1 hs0 hr0 hu), rfl, ho_3, sp_2, hsa9, ⟨rfl, .inl rfl, Nat.zero_le _⟩⟩), ⟨(by have h9 := hC_3; rw [if_pos hr0] at h9; exact h9), hB_5, hW_2, hn_3⟩, nx_3, fun j hj => .inr (hge9 j hj), HB_8⟩
end Go.Proofs.Ytggalcdkfielkaa
/-
 WALKS: the reference's End: Feed.
-/
namespace Go.Proofs.Ytggalcdkfielkaa
open Go.RowKit
set_option linter.unusedVariables false
set_option linter.unusedSimpArgs false
set_option maxRecDepth 100000
attribute [local irreducible] wpList wpListIn putsR

theorem inv_step {r : Rd} {x : Rd × Nat × List (List Nat)} (h : stepR r = some x) : x.1.co.n + x.1.wait.length ≤ r.co.n + r.wait.length ∧ x.1.co.every = r.co.every ∧ x.1.co.cnt + x.1.wait.length ≤ r.co.cnt + r.wait.length ∧ x.1.dead = r.dead := by
 obtain ⟨i1, i2, i3, i4, _, _⟩ := stepR_inv h
 have i7 := stepR_lt h
 exact ⟨by omega, i2, by omega, i4⟩
/-- What one more record does to a run. -/
theorem one_run {r r1 : Rd} {e : Nat} {o : Option (List Nat)} (h : oneR r = (r1, e, o)) (f : Nat) (out : List (List Nat)) (hf : r.wait.length < f) :
  (r1.co.n + r1.wait.length ≤ r.co.n + r.wait.length ∧ r1.co.every = r.co.every ∧ r1.co.cnt + r1.wait.length ≤ r.co.cnt + r.wait.length ∧ r1.dead = r.dead) ∧
  ((¬ e = 0 ∧ runR f r out = (r1.die, e, out)) ∨ (e = 0 ∧ o = none ∧ runR f r out = (r1, 0, out)) ∨ (e = 0 ∧ ∃ b f', o = some b ∧ r1.wait.length < f' ∧ runR f r out = runR f' r1 (out ++ [b]) ∧ r1.wait.length < r.wait.length ∧ f' < f)) := by
 have two : ∀ (q : Rd) (g : Nat), q.wait.length < g → ¬ q.body = 0 → ∀ (r1 : Rd) (e : Nat) (o : Option (List Nat)), (match stepR q with | none => ((q, 0, none) : Rd × Nat × Option (List Nat)) | some y => if y.2.1 ≠ 0 then (y.1, y.2.1, none) else (y.1, 0, some (y.2.2.headD []))) = (r1, e, o) →
   (r1.co.n + r1.wait.length ≤ q.co.n + q.wait.length ∧ r1.co.every = q.co.every ∧ r1.co.cnt + r1.wait.length ≤ q.co.cnt + q.wait.length ∧ r1.dead = q.dead) ∧
   ((¬ e = 0 ∧ runR g q out = (r1.die, e, out)) ∨ (e = 0 ∧ o = none ∧ runR g q out = (r1, 0, out)) ∨ (e = 0 ∧ ∃ b f', o = some b ∧ r1.wait.length < f' ∧ runR g q out = runR f' r1 (out ++ [b]) ∧ r1.wait.length < q.wait.length ∧ f' < g)) := by
  intro q g hg hb r1 e o h
  obtain ⟨g, rfl⟩ : ∃ k, g = k + 1 := ⟨g - 1, by omega⟩
  cases hs : stepR q with
  | none =>
   rw [hs] at h
   cases h
   exact ⟨⟨Nat.le_refl _, rfl, Nat.le_refl _, rfl⟩, .inr (.inl ⟨rfl, rfl, run_none hs _ _⟩)⟩
  | some y =>
   rw [hs] at h
   dsimp only at h
   have hlt := stepR_lt hs
   by_cases hy : y.2.1 = 0
   ·rw [if_neg (by omega)] at h
    cases h
    refine ⟨inv_step hs, .inr (.inr ⟨rfl, _, g, rfl, by omega, ?_, hlt, Nat.lt_succ_self _⟩)⟩
    rw [run_good hs hy]
    have : y.2.2 = [y.2.2.headD []] := by
     unfold stepR at hs
     rw [if_neg hb] at hs
     split at hs
     ·cases hs
     ·dsimp only at hs
      split at hs
      ·cases hs; exact absurd hy (by assumption)
      ·split at hs
       ·cases hs; exact absurd hy (show ¬ (3 : Nat) = 0 by decide)
       ·cases hs; rfl
    rw [← this]
   ·rw [if_pos hy] at h
    cases h
    exact ⟨inv_step hs, .inl ⟨hy, run_bad hs hy _ _⟩⟩
 unfold oneR firstR at h
 by_cases hb : r.body = 0
 ·rw [if_pos hb] at h
  obtain ⟨f, rfl⟩ : ∃ k, f = k + 1 := ⟨f - 1, by omega⟩
  cases hs : stepR r with
  | none =>
   rw [hs] at h
   cases h
   exact ⟨⟨Nat.le_refl _, rfl, Nat.le_refl _, rfl⟩, .inr (.inl ⟨rfl, rfl, run_none hs _ _⟩)⟩
  | some x =>
   rw [hs] at h
   dsimp only at h
   have hlt := stepR_lt hs
   have hi := inv_step hs
   by_cases hx : x.2.1 = 0
   ·rw [if_neg (by omega)] at h
    have hb2 : ¬ x.1.body = 0 := by
     unfold stepR at hs
     rw [if_pos hb] at hs
     split at hs
     ·cases hs
     ·dsimp only at hs
      split at hs
      ·cases hs; exact absurd hx (by assumption)
      ·split at hs
       ·cases hs; exact absurd hx (show ¬ (3 : Nat) = 0 by decide)
       ·cases hs; show ¬ _ + 16 = 0; omega
    have h9 := (stepR_inv hs).2.2.2.2.2 hb
    obtain ⟨⟨j1, j2, j3, j4⟩, hr⟩ := two x.1 f (by omega) hb2 r1 e o h
    refine ⟨⟨by omega, j2.trans hi.2.1, by omega, j4.trans hi.2.2.2⟩, ?_⟩
    rw [run_good hs hx, h9, List.append_nil]
    rcases hr with hr | hr | ⟨he, b, f', ho, hf', hr, hl, hl2⟩
    ·exact .inl hr
    ·exact .inr (.inl hr)
    ·exact .inr (.inr ⟨he, b, f', ho, hf', hr, by omega, by omega⟩)
   ·rw [if_pos hx] at h
    cases h
    exact ⟨hi, .inl ⟨hx, run_bad hs hx _ _⟩⟩
 ·rw [if_neg hb] at h
  dsimp only at h
  rw [if_neg (by simp)] at h
  exact two r f hf hb r1 e o h
theorem one_wait_any {N : Nat → Prop} {ge gc z c : Nat} {A : Option Addr} {r r1 : Rd} (w : World) (hP : EndP w N ge gc A c r z) (hz : Zr r z) (hd : r.dead = false) (hnum : r.co.n < 4611686018427387904) (he1 : 1 ≤ r.co.every) (hc1 : r.co.cnt < 4611686018427387904) (hw9 : r.wait.length ≤ 1000000000) (ho : oneR r = (r1, 0, none)) :
  Calls Try.prog 50 #[.pointer (some ⟨ge, 0, none⟩)] w fun e w' => (e = .returned (.tuple #[.slice none 0 0, .bool false, .int .i64 ((0 : Nat) : Int)]) ∧ (∃ z' N' A' c', Zr r1 z' ∧ EndP w' N' ge gc A' c' r1 z' ∧ NextM w N N' ∧ (∀ j, blkA A' j → blkA A j ∨ w.heap.size ≤ j))) ∧ BelowX (fun j => j = ge ∨ j = gc) w w' := by
 obtain ⟨⟨ks, num, ev, cnt⟩, ws, body, dead⟩ := r
 dsimp only at hd hnum he1 hc1 hw9
 subst hd
 refine Calls.mono (one_any w hP hz hnum he1 hc1 hw9) ?_
 rintro e w' ⟨r', z', N', A', c', hcs, h1, h2, h3, h4⟩
 rcases hcs with ⟨q, he, hz'⟩ | ⟨err', hne, q, he⟩ | ⟨b', A1, c1, q, he, hO, hs1, hs2, hz'⟩ <;> rw [ho] at q <;> cases q
 ·exact ⟨⟨he, z', N', A', c', hz', h1, h2, h3⟩, h4⟩
 ·exact absurd rfl hne
theorem one_err_any {N : Nat → Prop} {ge gc z c : Nat} {A : Option Addr} {r r1 : Rd} {err : Nat} (hne : ¬ err = 0) (w : World) (hP : EndP w N ge gc A c r z) (hz : Zr r z) (hd : r.dead = false) (hnum : r.co.n < 4611686018427387904) (he1 : 1 ≤ r.co.every) (hc1 : r.co.cnt < 4611686018427387904) (hw9 : r.wait.length ≤ 1000000000) (ho : oneR r = (r1, err, none)) :
  Calls Try.prog 50 #[.pointer (some ⟨ge, 0, none⟩)] w fun e w' => (e = .returned (.tuple #[.slice none 0 0, .bool false, .int .i64 ((err : Nat) : Int)]) ∧ (∃ z' N' A' c', EndP w' N' ge gc A' c' r1 z' ∧ NextM w N N' ∧ (∀ j, blkA A' j → blkA A j ∨ w.heap.size ≤ j))) ∧ BelowX (fun j => j = ge ∨ j = gc) w w' := by
 obtain ⟨⟨ks, num, ev, cnt⟩, ws, body, dead⟩ := r
 dsimp only at hd hnum he1 hc1 hw9
 subst hd
 refine Calls.mono (one_any w hP hz hnum he1 hc1 hw9) ?_
 rintro e w' ⟨r', z', N', A', c', hcs, h1, h2, h3, h4⟩
 rcases hcs with ⟨q, he, hz'⟩ | ⟨err', hne', q, he⟩ | ⟨b', A1, c1, q, he, hO, hs1, hs2, hz'⟩ <;> rw [ho] at q <;> cases q
 ·exact ⟨⟨he, z', N', A', c', h1, h2, h3⟩, h4⟩
 ·exact ⟨⟨he, z', N', A', c', h1, h2, h3⟩, h4⟩
theorem one_ok_any {N : Nat → Prop} {ge gc z c : Nat} {A : Option Addr} {r r1 : Rd} {b : List Nat} (w : World) (hP : EndP w N ge gc A c r z) (hz : Zr r z) (hd : r.dead = false) (hnum : r.co.n < 4611686018427387904) (he1 : 1 ≤ r.co.every) (hc1 : r.co.cnt < 4611686018427387904) (hw9 : r.wait.length ≤ 1000000000) (ho : oneR r = (r1, 0, some b)) :
  Calls Try.prog 50 #[.pointer (some ⟨ge, 0, none⟩)] w fun e w' => (∃ A1 c1, e = .returned (.tuple #[.slice A1 b.length c1, .bool true, .int .i64 ((0 : Nat) : Int)]) ∧ Own w' w.heap.size A1 c1 b ∧ (∃ z' N' A' c', Zr r1 z' ∧ EndP w' N' ge gc A' c' r1 z' ∧ NextM w N N' ∧ (∀ j, blkA A' j → blkA A j ∨ w.heap.size ≤ j) ∧ Sep (blkA A1) N' ∧ Sep (blkA A1) (blkA A'))) ∧ BelowX (fun j => j = ge ∨ j = gc) w w' := by
 obtain ⟨⟨ks, num, ev, cnt⟩, ws, body, dead⟩ := r
 dsimp only at hd hnum he1 hc1 hw9
 subst hd
 refine Calls.mono (one_any w hP hz hnum he1 hc1 hw9) ?_
 rintro e w' ⟨r', z', N', A', c', hcs, h1, h2, h3, h4⟩
 rcases hcs with ⟨q, he, hz'⟩ | ⟨err', hne, q, he⟩ | ⟨b', A1, c1, q, he, hO, hs1, hs2, hz'⟩ <;> rw [ho] at q <;> cases q
 exact ⟨⟨A1, c1, he, hO, z', N', A', c', hz', h1, h2, h3, hs1, hs2⟩, h4⟩
theorem CipherRt.keptT {T : TypeId} {w w' : World} {M : Nat → Prop} {g n : Nat} {k : List Nat} (h : CipherRt w M g k n) (hk : KeptT T w w') (h1 : 64 ≠ T) (h2 : 5 ≠ T) : CipherRt w' M g k n := by
 obtain ⟨A, c, hB, hO, hg, hA⟩ := h.row
 exact ⟨h.key, h.num, h.lt.up hk.size, A, c, hk.blk hB h1, hO.keptT hk h2, hg, hA⟩
theorem EndP.keptT {T : TypeId} {w w' : World} {N : Nat → Prop} {ge gc c z : Nat} {A : Option Addr} {r : Rd} (h : EndP w N ge gc A c r z) (hk : KeptT T w w') (h1 : 64 ≠ T) (h2 : 5 ≠ T) (h3 : 51 ≠ T) : EndP w' N ge gc A c r z :=
 ⟨h.cip.keptT hk h1 h2, hk.blk h.blk h3, h.wt.keptT hk h2, h.apart⟩
theorem RowS.keepR {w w' : World} {B c ge gc n : Nat} {A : Option Addr} {ps : List Part} {cur : Array Value} {T : TypeId} {N : Nat → Prop} {k : List Nat} (h : RowS w B A c ps) (hB : Blk w ge cur T) (hT : T ≠ 22) (hC : CipherRt w N gc k n) (hb : BelowX (fun j => j = ge ∨ j = gc) w w') : RowS w' B A c ps := by
 obtain ⟨cu, hc⟩ := hC.blk
 exact h.keep (hb.kept h.lt (fun j hj e => e.elim (fun e => h.sepB hB hT (e ▸ hj)) (fun e => h.sepB hc (by decide) (e ▸ hj))))
theorem AllOwn.keepR {w w' : World} {B ge gc n : Nat} {ps : List Part} {cur : Array Value} {T : TypeId} {N : Nat → Prop} {k : List Nat} (h : AllOwn w B ps) (hB : Blk w ge cur T) (hT : T ≠ 5) (hC : CipherRt w N gc k n) (hb : BelowX (fun j => j = ge ∨ j = gc) w w') : AllOwn w' B ps := fun p hp => (h p hp).keepR hB hT hC hb
theorem one_o {r r1 : Rd} {e : Nat} {o : Option (List Nat)} (h : oneR r = (r1, e, o)) (he : ¬ e = 0) : o = none := by
 unfold oneR at h
 split at h
 ·cases h; rfl
 ·split at h
  ·cases h; rfl
  ·split at h
   ·cases h; rfl
   ·split at h
    ·cases h; rfl
    ·cases h; exact absurd rfl he
set_option maxHeartbeats 1000000 in
theorem EFeed_any {M : Nat → Prop} {ge gc : Nat} {rd r' : Rd} {err : Nat} {outs : List (List Nat)} {B0 : Option Addr} {d0 q : Nat} {bs : List Nat} (w : World) (hR : EndAt w M ge gc rd) (hd : rd.dead = false) (h0 : Bs w B0 d0 bs) (hq : bs.length = q) (hf : feedR rd bs = (r', err, outs)) (b1 : rd.co.n + (rd.wait.length + q) < 4611686018427387904) (b2 : rd.co.cnt + (rd.wait.length + q) < 4611686018427387904) (b3 : rd.wait.length + q ≤ 1000000000) :
  Calls Try.prog 24 #[.pointer (some ⟨ge, 0, none⟩), .slice B0 (q) (d0)] w fun e w' => ∃ ps A c, e = .returned (.tuple #[.slice A (ps.length) c, .int .i64 ((err : Nat) : Int)]) ∧ ps.map Part.xs = outs ∧ RowS w' w.heap.size A c ps ∧ AllOwn w' w.heap.size ps ∧ (∃ M', EndAt w' M' ge gc r' ∧ NextM w M M' ∧ Sep (blkP ps) M' ∧ Sep (blkA A) M') ∧ BelowX M w w' := by
 obtain ⟨hlt, hev1, N0, Aw, cw, z0, hP, hz0, hMg, hMN, hMA⟩ := hR
 obtain ⟨⟨ks0, num0, ev, cnt0⟩, ws0, body0, dead0⟩ := rd
 dsimp only at hd hev1 b1 b2 b3
 subst hd
 replace hz0 := hz0 rfl
 obtain ⟨hC, hB, hWt, hn⟩ := hP
 dsimp only at hC hB hWt
 have hC0 := hC.mem
 refine x_enter 47 Try.func24 rfl rfl (fun a hs hd ha0 => ?_)
 have t0 : a.eval (.tmp 0) = .pointer (some ⟨ge, 0, none⟩) := ha0 0 _ rfl
 have t1 : a.eval (.tmp 1) = .slice B0 (q) (d0) := ha0 1 _ rfl
 clear ha0
 have HB0 : BelowX (fun j => j = ge ∨ j = gc) w w := BelowX.refl _ _
 refine w2_sr (fun K_1 hK_1 => ?_)
 refine q_as (.slice none (0) (0)) rfl ?_
 refine q_as (.int .i64 ((0 : Nat) : Int)) rfl ?_
 refine x_nil (hK_1 _ _ ?_)
 refine w2_seq (fun K_2 hK_2 => ?_)
 refine w2_sr (fun K_3 hK_3 => ?_)
 refine q_mv ((pm rfl).trans t0) ?_
 refine q_nc (pe hs rfl rfl) ?_
 refine q_fa 5 (pe hs rfl rfl) ?_
 refine q_ld (v := .bool (false)) (pe hs rfl rfl) hB rfl ?_
 refine x_nil (hK_3 _ _ ?_)
 refine w2_condF (pe hs rfl rfl) ?_
 refine w2_skip ?_
 refine hK_2 _ _ ?_
 refine w2_sr (fun K_4 hK_4 => ?_)
 refine q_mv ((pm rfl).trans t0) ?_
 refine q_mv ((pm rfl).trans t0) ?_
 refine q_nc (pe hs rfl rfl) ?_
 refine q_fa 3 (pe hs rfl rfl) ?_
 refine q_ld (v := .slice Aw (ws0.length) (cw)) (pe hs rfl rfl) hB rfl ?_
 refine q_mv ((pm rfl).trans t1) ?_
 refine op_ex (d := 20) rfl rfl (o_bldS (vs := #[(0, .slice Aw (ws0.length) (cw)), (1, .slice B0 (q) (d0))]) (cs := #[.slice Aw (ws0.length) (cw), .slice B0 (q) (d0)]) (e := 22) rfl (bld2 (pe hs rfl rfl) (pe hs rfl rfl)) (fun _ => by kernel_rfl)) (fun v_1 w_1 hR_1 => ?_)
 obtain ⟨g_1, rfl, hle_1, hB_1, hb_1⟩ := hR_1
 have ne_1 : ge ≠ g_1 := Nat.ne_of_lt (Nat.lt_of_lt_of_le hB.lt hle_1)
 replace hB := hB.nx hb_1
 replace hC := hC.nx hb_1
 replace hWt := hWt.nx hb_1
 replace h0 := h0.nx hb_1
 have HB_1 := HB0.then hb_1
 refine q_ca (vs := #[.slice ((some ⟨g_1, 0, none⟩)) (2) (2)]) Try.func47 (args1 (pe hs rfl rfl)) (JoinW2 _ hB_1 (hWt).bs rfl h0 hq (by omega)) (fun e_1 w_2 hR_2 => ?_)
 obtain ⟨A_1, c_1, rfl, ho_1, hb_2⟩ := hR_2
 replace ho_1 := ho_1.mono HB_1.size
 replace hB := hB.nx hb_2
 replace hC := hC.nx hb_2
 replace hWt := hWt.nx hb_2
 replace h0 := h0.nx hb_2
 replace hB_1 := hB_1.nx hb_2
 have HB_2 := HB_1.then hb_2
 refine ⟨_, rfl, ?_⟩
 refine q_nc (pe hs rfl rfl) ?_
 refine q_fa 3 (pe hs rfl rfl) ?_
 refine op_do rfl rfl (o_store1 rfl (pe hs rfl rfl) (pe hs rfl rfl) rfl rfl hB (by simp only [List.length_cons, List.length_nil]; omega) ⟨by kernel_rfl, by kernel_rfl⟩) (fun w_3 hR_3 => ?_)
 obtain ⟨hB_2, hX_1⟩ := hR_3
 replace hC := hC.keepX hX_1 hn
 replace hWt := hWt.keepX hB (by decide) hX_1
 replace hB_1 := hX_1.blk hB_1 (Ne.symm ne_1)
 replace ho_1 := ho_1.keepX hB (by decide) hX_1
 have HB_3 := HB_2.step hX_1 (fun k hk (hY : k = ge) => .inl hY)
 clear hB
 simp only [List.set_cons_zero, List.set_cons_succ] at hB_2
 refine x_nil (hK_4 _ _ ?_)
 refine w2_sr (fun K_5 hK_5 => ?_)
 refine q_as (.slice none (0) (0)) rfl ?_
 refine x_nil (hK_5 _ _ ?_)
 refine w2_block (fun K_6 hK_6 => ?_)
 refine x_loop (fun nn aa ww => ∃ (N : Nat → Prop) (A : Option Addr) (c z : Nat) (rd : Rd) (ps : List Part) (A5 : Option Addr) (c5 : Nat) (f : Nat), nn = f ∧ aa.tmps.size = 47 ∧ aa.defers = [] ∧ aa.eval (.tmp 0) = .pointer (some ⟨ge, 0, none⟩) ∧ aa.eval (.tmp 1) = .slice B0 (q) (d0) ∧ aa.eval (.tmp 6) = .slice A5 (ps.length) (c5) ∧ aa.eval (.tmp 10) = .pointer (some ⟨ge, 0, none⟩) ∧ aa.eval (.tmp 11) = .pointer (some ⟨ge, 0, none⟩) ∧ aa.eval (.tmp 12) = .pointer (some ⟨ge, 5, none⟩) ∧ aa.eval (.tmp 13) = .bool (false) ∧ aa.eval (.tmp 14) = .pointer (some ⟨ge, 0, none⟩) ∧ aa.eval (.tmp 15) = .pointer (some ⟨ge, 0, none⟩) ∧ aa.eval (.tmp 16) = .pointer (some ⟨ge, 0, none⟩) ∧ aa.eval (.tmp 17) = .pointer (some ⟨ge, 3, none⟩) ∧ aa.eval (.tmp 18) = .slice Aw (ws0.length) (cw) ∧ aa.eval (.tmp 19) = .slice B0 (q) (d0) ∧ aa.eval (.tmp 20) = .slice ((some ⟨g_1, 0, none⟩)) (2) (2) ∧ aa.eval (.tmp 21) = .slice A_1 (ws0.length + q) (c_1) ∧ aa.eval (.tmp 22) = .pointer (some ⟨ge, 0, none⟩) ∧ aa.eval (.tmp 23) = .pointer (some ⟨ge, 3, none⟩) ∧ EndP ww N ge gc A c rd z ∧ Zr rd z ∧ RowS ww w.heap.size A5 c5 ps ∧ AllOwn ww w.heap.size ps ∧ NextM w N0 N ∧ (∀ j, blkA A j → w.heap.size ≤ j) ∧ BelowX (fun j => j = ge ∨ j = gc) w ww ∧ runR f rd (ps.map Part.xs) = (r', err, outs) ∧ rd.wait.length < f ∧ rd.co.n + rd.wait.length < 4611686018427387904 ∧ rd.co.cnt + rd.wait.length < 4611686018427387904 ∧ rd.co.every = ev ∧ ps.length + rd.wait.length ≤ 1000000000 ∧ rd.dead = false ∧ Sep (blkP ps) N ∧ Sep (blkA A5) N ∧ Sep (blkP ps) (blkA A)) ((ws0 ++ bs).length + 1) ?_ ?_
 ·exact ⟨N0, A_1, c_1, z0, ⟨⟨ks0, num0, ev, cnt0⟩, ws0 ++ bs, body0, false⟩, [], none, 0, (ws0 ++ bs).length + 1, rfl, (by rw [putsR_size]; exact hs), (by rw [putsR_defers]; exact hd), ((pm rfl).trans t0), ((pm rfl).trans t1), (pe hs rfl rfl), (pe hs rfl rfl), (pe hs rfl rfl), (pe hs rfl rfl), (pe hs rfl rfl), (pe hs rfl rfl), (pe hs rfl rfl), (pe hs rfl rfl), (pe hs rfl rfl), (pe hs rfl rfl), (pe hs rfl rfl), (pe hs rfl rfl), (pe hs rfl rfl), (pe hs rfl rfl), (pe hs rfl rfl), ⟨hC, by show Blk _ _ #[_, _, _, .slice _ ((ws0 ++ bs).length) _, _, _] _; rw [List.length_append, hq]; exact hB_2, ho_1.wt, hn⟩, hz0, RowS.nil _ _, (fun _ h => absurd h (by simp)), NextM.refl _ _, ho_1.ge', HB_3, hf, Nat.lt_succ_self _, (by show num0 + (ws0 ++ bs).length < _; rw [List.length_append, hq]; exact b1), (by show cnt0 + (ws0 ++ bs).length < _; rw [List.length_append, hq]; exact b2), rfl, (by show 0 + (ws0 ++ bs).length ≤ _; rw [List.length_append, hq]; omega), rfl, (fun j hj => absurd hj blkP_nil), (fun j hj => absurd hj blkA_none), (fun j hj => absurd hj blkP_nil)⟩
 ·skip
  clear t0 t1 hd hC hWt hB_1 ho_1 hB_2 HB_3
  rintro nna_1 a_1 w_4 ⟨N, A, c, z, rd, ps, A5, c5, f, hm_1, hs_1, hd_1, ta_1_0, ta_1_1, ta_1_6, ta_1_10, ta_1_11, ta_1_12, ta_1_13, ta_1_14, ta_1_15, ta_1_16, ta_1_17, ta_1_18, ta_1_19, ta_1_20, ta_1_21, ta_1_22, ta_1_23, hP, hzr, hRw, hAO, b4, b5, HBL, b7, b8, b9, b10, b11, b13, b15, s1, s2, s3⟩ K_7 hK_7
  subst hm_1
  have hPB := hP.blk
  have hev2 : 1 ≤ rd.co.every := by rw [b11]; exact hev1
  refine w2_block (fun K_8 hK_8 => ?_)
  refine w2_seq (fun K_9 hK_9 => ?_)
  rcases ho : oneR rd with ⟨r1, e1, o1⟩
  obtain ⟨⟨i1, i2, i3, i4⟩, hcs⟩ := one_run ho nna_1 (ps.map Part.xs) b8
  rcases hcs with ⟨hc1, hc3⟩ | ⟨hc1, hc2, hc3⟩ | ⟨hc1, b, f1, hc2, hc3, hc4, hc5, hc6⟩
  ·skip
   obtain rfl : o1 = none := one_o ho hc1
   refine x_region (by kernel_rfl) ?_
   refine q_mv ((pm rfl).trans ta_1_0) ?_
   refine q_ca (vs := #[.pointer (some ⟨ge, 0, none⟩)]) Try.func50 (args1 (pe hs_1 rfl rfl)) (one_err_any hc1 _ hP hzr b15 (by omega) hev2 (by omega) (by omega) ho) (fun e_2 w_5 hR_4 => ?_)
   obtain ⟨⟨rfl, z_1, N_1, A_2, c_2, hP_1, hN_1, hA_1⟩, hX_2⟩ := hR_4
   have hRw2 := hRw.keepR hPB (by decide) hP.cip hX_2
   have hAO2 := hAO.keepR hPB (by decide) hP.cip hX_2
   have HB_4 := HBL.step hX_2 (fun k hk hY => hY)
   have s1b := hN_1.sep s1 hAO.lt
   have s2b := hN_1.sep s2 hRw.lt
   have s3b : Sep (blkP ps) (blkA A_2) := fun j hj hm => (hA_1 j hm).elim (s3 j hj) (fun h => absurd (hAO.lt j hj) (Nat.not_lt.2 h))
   have hN9 := b4.trans hN_1 HBL.size
   have hA9 := fun j hj => (hA_1 j hj).elim (b5 j) (fun h => Nat.le_trans HBL.size h)
   have hPB2 := hP_1.blk
   have hC2 := hP_1.cip
   have hn2 := hP_1.apart
   refine ⟨_, rfl, ?_⟩
   refine q_mv (pe hs_1 rfl rfl) ?_
   refine q_ex (v := .slice none (0) (0)) (pe hs_1 rfl rfl) rfl ?_
   refine q_ex (v := .bool (false)) (pe hs_1 rfl rfl) rfl ?_
   refine q_ex (v := .int .i64 ((e1 : Nat) : Int)) (pe hs_1 rfl rfl) rfl ?_
   refine q_at (pe hs_1 rfl rfl) ?_
   refine q_at (pe hs_1 rfl rfl) ?_
   refine q_at (pe hs_1 rfl rfl) ?_
   refine x_nil (hK_9 _ _ ?_)
   refine w2_seq (fun K_10 hK_10 => ?_)
   refine w2_sr (fun K_11 hK_11 => ?_)
   refine q_mv (pe hs_1 rfl rfl) ?_
   refine q_v 31 (.bool (true)) (o_eq (o_neq (m := e1) (n := 0) rfl (pe hs_1 rfl rfl) rfl) (by simp [hc1])) ?_
   refine x_nil (hK_11 _ _ ?_)
   refine w2_condT (pe hs_1 rfl rfl) ?_
   refine w2_sr (fun K_12 hK_12 => ?_)
   refine q_mv ((pm rfl).trans ta_1_0) ?_
   refine q_mv ((pm rfl).trans ta_1_0) ?_
   refine q_nc (pe hs_1 rfl rfl) ?_
   refine q_fa 5 (pe hs_1 rfl rfl) ?_
   refine op_do rfl rfl (o_store1 rfl (pe hs_1 rfl rfl) rfl rfl rfl hPB2 (by simp only [List.length_cons, List.length_nil]; omega) ⟨by kernel_rfl, by kernel_rfl⟩) (fun w_6 hR_5 => ?_)
   obtain ⟨hB_3, hX_3⟩ := hR_5
   replace hC2 := hC2.keepX hX_3 hn2
   replace hRw2 := hRw2.keepX hPB2 (by decide) hX_3
   replace hAO2 := hAO2.keepX hPB2 (by decide) hX_3
   have HB_5 := HB_4.step hX_3 (fun k hk (hY : k = ge) => .inl hY)
   clear hPB2
   simp only [List.set_cons_zero, List.set_cons_succ] at hB_3
   refine q_nc (pe hs_1 rfl rfl) ?_
   refine q_fa 3 (pe hs_1 rfl rfl) ?_
   refine op_do rfl rfl (o_store1 rfl (pe hs_1 rfl rfl) rfl rfl rfl hB_3 (by simp only [List.length_cons, List.length_nil]; omega) ⟨by kernel_rfl, by kernel_rfl⟩) (fun w_7 hR_6 => ?_)
   obtain ⟨hB_4, hX_4⟩ := hR_6
   replace hC2 := hC2.keepX hX_4 hn2
   replace hRw2 := hRw2.keepX hB_3 (by decide) hX_4
   replace hAO2 := hAO2.keepX hB_3 (by decide) hX_4
   have HB_6 := HB_5.step hX_4 (fun k hk (hY : k = ge) => .inl hY)
   clear hB_3
   simp only [List.set_cons_zero, List.set_cons_succ] at hB_4
   refine x_nil (hK_12 _ _ ?_)
   refine w2_sr (fun K_13 hK_13 => ?_)
   refine q_mv ((pm rfl).trans ta_1_6) ?_
   refine q_mv (pe hs_1 rfl rfl) ?_
   refine q_at (pe hs_1 rfl rfl) ?_
   refine q_at (pe hs_1 rfl rfl) ?_
   refine x_nil (hK_13 _ _ ?_)
   refine w2_ret ?_
   refine thn_ret ?_
   refine exb_ret ?_
   refine thn_ret ?_
   refine exb_ret ?_
   refine ret2 rfl hd_1 (pe hs_1 rfl rfl) (pe hs_1 rfl rfl) ?_
   have h9 := b7
   rw [hc3] at h9
   cases h9
   exact ⟨ps, A5, c5, rfl, rfl, hRw2, hAO2, ⟨fun j => N_1 j ∨ j = ge, ⟨fun j hj => hj.elim (hC2.lt j) (fun h => h ▸ hB_4.lt), by show 1 ≤ r1.co.every; rw [i2]; exact hev2, N_1, none, 0, z_1, ⟨hC2, hB_4, Wt.nil _, hn2⟩, fun h => absurd h (by simp [Rd.die]), .inr rfl, fun j hj => .inl hj, fun j hj => absurd hj blkA_none⟩, fun j hj => hj.elim (fun h => (hN9 j h).imp (hMN j) id) (fun h => .inl (h ▸ hMg)), fun j hj hm => hm.elim (s1b j hj) (fun h => by subst h; obtain ⟨p, hp, hk⟩ := hj; exact (hAO2 p hp).sepB hB_4 (by decide) hk), fun j hj hm => hm.elim (s2b j hj) (fun h => by subst h; exact hRw2.sepB hB_4 (by decide) hj)⟩, HB_6.mono (fun k _ hk => hk.elim (fun e => e ▸ hMg) (fun e => e ▸ hMN _ hC0))⟩
  ·skip
   obtain ⟨rfl, rfl, hrun⟩ : e1 = 0 ∧ o1 = none ∧ runR nna_1 rd (ps.map Part.xs) = (r1, 0, ps.map Part.xs) := ⟨hc1, hc2, hc3⟩
   refine x_region (by kernel_rfl) ?_
   refine q_mv ((pm rfl).trans ta_1_0) ?_
   refine q_ca (vs := #[.pointer (some ⟨ge, 0, none⟩)]) Try.func50 (args1 (pe hs_1 rfl rfl)) (one_wait_any _ hP hzr b15 (by omega) hev2 (by omega) (by omega) ho) (fun e_3 w_8 hR_7 => ?_)
   obtain ⟨⟨rfl, z_2, N_2, A_3, c_3, hz_2, hP_2, hN_2, hA_2⟩, hX_5⟩ := hR_7
   have hRw2 := hRw.keepR hPB (by decide) hP.cip hX_5
   have hAO2 := hAO.keepR hPB (by decide) hP.cip hX_5
   have HB_7 := HBL.step hX_5 (fun k hk hY => hY)
   have s1b := hN_2.sep s1 hAO.lt
   have s2b := hN_2.sep s2 hRw.lt
   have s3b : Sep (blkP ps) (blkA A_3) := fun j hj hm => (hA_2 j hm).elim (s3 j hj) (fun h => absurd (hAO.lt j hj) (Nat.not_lt.2 h))
   have hN9 := b4.trans hN_2 HBL.size
   have hA9 := fun j hj => (hA_2 j hj).elim (b5 j) (fun h => Nat.le_trans HBL.size h)
   refine ⟨_, rfl, ?_⟩
   refine q_mv (pe hs_1 rfl rfl) ?_
   refine q_ex (v := .slice none (0) (0)) (pe hs_1 rfl rfl) rfl ?_
   refine q_ex (v := .bool (false)) (pe hs_1 rfl rfl) rfl ?_
   refine q_ex (v := .int .i64 ((0 : Nat) : Int)) (pe hs_1 rfl rfl) rfl ?_
   refine q_at (pe hs_1 rfl rfl) ?_
   refine q_at (pe hs_1 rfl rfl) ?_
   refine q_at (v := .int .i64 ((0 : Nat) : Int)) (pe hs_1 rfl rfl) ?_
   refine x_nil (hK_9 _ _ ?_)
   refine w2_seq (fun K_14 hK_14 => ?_)
   refine w2_sr (fun K_15 hK_15 => ?_)
   refine q_mv (v := .int .i64 ((0 : Nat) : Int)) (pe hs_1 rfl rfl) ?_
   refine q_v 31 (.bool (false)) (o_eq (o_neq (m := 0) (n := 0) rfl (pe hs_1 rfl rfl) rfl) rfl) ?_
   refine x_nil (hK_15 _ _ ?_)
   refine w2_condF (pe hs_1 rfl rfl) ?_
   refine w2_skip ?_
   refine hK_14 _ _ ?_
   refine w2_seq (fun K_16 hK_16 => ?_)
   refine w2_sr (fun K_17 hK_17 => ?_)
   refine q_mv (pe hs_1 rfl rfl) ?_
   refine q_v 41 (.bool (true)) (o_not (b := false) rfl (pe hs_1 rfl rfl)) ?_
   refine x_nil (hK_17 _ _ ?_)
   refine w2_condT (pe hs_1 rfl rfl) ?_
   refine w2_sr (fun K_18 hK_18 => ?_)
   refine q_mv ((pm rfl).trans ta_1_6) ?_
   refine q_at (pe hs_1 rfl rfl) ?_
   refine q_as (.int .i64 ((0 : Nat) : Int)) rfl ?_
   refine x_nil (hK_18 _ _ ?_)
   refine w2_ret ?_
   refine thn_ret ?_
   refine exb_ret ?_
   refine thn_ret ?_
   refine exb_ret ?_
   refine ret2 rfl hd_1 (pe hs_1 rfl rfl) (pe hs_1 rfl rfl) ?_
   have h9 := b7
   rw [hrun] at h9
   cases h9
   exact ⟨ps, A5, c5, rfl, rfl, hRw2, hAO2, ⟨fun j => N_2 j ∨ j = ge ∨ blkA A_3 j, ⟨fun j hj => hj.elim (hP_2.cip.lt j) (fun h => h.elim (fun h => h ▸ hP_2.blk.lt) (hP_2.wt.lt j)), by rw [i2]; exact hev2, N_2, A_3, c_3, z_2, hP_2, fun _ => hz_2, .inr (.inl rfl), fun j hj => .inl hj, fun j hj => .inr (.inr hj)⟩, fun j hj => hj.elim (fun h => (hN9 j h).imp (hMN j) id) (fun h => h.elim (fun h => .inl (h ▸ hMg)) (fun h => .inr (hA9 j h))), fun j hj hm => hm.elim (s1b j hj) (fun h => h.elim (fun h => by subst h; obtain ⟨p, hp, hk⟩ := hj; exact (hAO2 p hp).sepB hP_2.blk (by decide) hk) (s3b j hj)), fun j hj hm => hm.elim (s2b j hj) (fun h => h.elim (fun h => by subst h; exact hRw2.sepB hP_2.blk (by decide) hj) (hRw2.sepW hP_2.wt j hj))⟩, HB_7.mono (fun k _ hk => hk.elim (fun e => e ▸ hMg) (fun e => e ▸ hMN _ hC0))⟩
  ·skip
   subst hc1 hc2
   refine x_region (by kernel_rfl) ?_
   refine q_mv ((pm rfl).trans ta_1_0) ?_
   refine q_ca (vs := #[.pointer (some ⟨ge, 0, none⟩)]) Try.func50 (args1 (pe hs_1 rfl rfl)) (one_ok_any _ hP hzr b15 (by omega) hev2 (by omega) (by omega) ho) (fun e_4 w_9 hR_8 => ?_)
   obtain ⟨⟨A1_1, c1_1, rfl, ho_2, z_3, N_3, A_4, c_4, hz_3, hP_3, hN_3, hA_3, sb_1, sw_1⟩, hX_6⟩ := hR_8
   replace ho_2 := ho_2.mono HBL.size
   have hRw2 := hRw.keepR hPB (by decide) hP.cip hX_6
   have hAO2 := hAO.keepR hPB (by decide) hP.cip hX_6
   have HB_8 := HBL.step hX_6 (fun k hk hY => hY)
   have s1b := hN_3.sep s1 hAO.lt
   have s2b := hN_3.sep s2 hRw.lt
   have s3b : Sep (blkP ps) (blkA A_4) := fun j hj hm => (hA_3 j hm).elim (s3 j hj) (fun h => absurd (hAO.lt j hj) (Nat.not_lt.2 h))
   have hN9 := b4.trans hN_3 HBL.size
   have hA9 := fun j hj => (hA_3 j hj).elim (b5 j) (fun h => Nat.le_trans HBL.size h)
   refine ⟨_, rfl, ?_⟩
   refine q_mv (pe hs_1 rfl rfl) ?_
   refine q_ex (v := .slice A1_1 (b.length) (c1_1)) (pe hs_1 rfl rfl) rfl ?_
   refine q_ex (v := .bool (true)) (pe hs_1 rfl rfl) rfl ?_
   refine q_ex (v := .int .i64 ((0 : Nat) : Int)) (pe hs_1 rfl rfl) rfl ?_
   refine q_at (pe hs_1 rfl rfl) ?_
   refine q_at (pe hs_1 rfl rfl) ?_
   refine q_at (v := .int .i64 ((0 : Nat) : Int)) (pe hs_1 rfl rfl) ?_
   refine x_nil (hK_9 _ _ ?_)
   refine w2_seq (fun K_19 hK_19 => ?_)
   refine w2_sr (fun K_20 hK_20 => ?_)
   refine q_mv (v := .int .i64 ((0 : Nat) : Int)) (pe hs_1 rfl rfl) ?_
   refine q_v 31 (.bool (false)) (o_eq (o_neq (m := 0) (n := 0) rfl (pe hs_1 rfl rfl) rfl) rfl) ?_
   refine x_nil (hK_20 _ _ ?_)
   refine w2_condF (pe hs_1 rfl rfl) ?_
   refine w2_skip ?_
   refine hK_19 _ _ ?_
   refine w2_seq (fun K_21 hK_21 => ?_)
   refine w2_sr (fun K_22 hK_22 => ?_)
   refine q_mv (pe hs_1 rfl rfl) ?_
   refine q_v 41 (.bool (false)) (o_not (b := true) rfl (pe hs_1 rfl rfl)) ?_
   refine x_nil (hK_22 _ _ ?_)
   refine w2_condF (pe hs_1 rfl rfl) ?_
   refine w2_skip ?_
   refine hK_21 _ _ ?_
   refine x_region (by kernel_rfl) ?_
   refine q_mv ((pm rfl).trans ta_1_6) ?_
   refine q_mv (pe hs_1 rfl rfl) ?_
   refine op_ex (d := 45) rfl rfl (o_bldS (vs := #[(0, .slice A1_1 (b.length) (c1_1))]) (cs := #[.slice A1_1 (b.length) (c1_1)]) (e := 22) rfl (bld1 (pe hs_1 rfl rfl)) (fun _ => by kernel_rfl)) (fun v_2 w_10 hR_9 => ?_)
   obtain ⟨g_2, rfl, hle_2, hB_5, hb_3⟩ := hR_9
   replace hP_3 := hP_3.nx hb_3
   replace hRw2 := hRw2.nx hb_3
   replace hAO2 := hAO2.nx hb_3
   replace ho_2 := ho_2.nx hb_3
   have HB_9 := HB_8.then hb_3
   refine op_ex (d := 46) rfl rfl (o_appS1 (xs := b) rfl (pe hs_1 rfl rfl) (pe hs_1 rfl rfl) hRw2 hB_5 rfl rfl (by omega) HB_9.size) (fun v_3 w_11 hR_10 => ?_)
   obtain ⟨A_5, c_5, rfl, hRw_1, hb_4, hk_1, ha_1⟩ := hR_10
   have HB_10 := HB_9.thenB hb_4
   have s1c : Sep (blkP (ps ++ [⟨A1_1, c1_1, b⟩])) N_3 := fun j hj => (blkP_app hj).elim (s1b j) (fun h => sb_1 j (blkP_one h))
   have s2c : Sep (blkA A_5) N_3 := fun j hj => (ha_1 j hj).elim (s2b j) (fun h hm => absurd (hP_3.cip.lt j hm) (Nat.not_lt.2 h))
   have s3c : Sep (blkP (ps ++ [⟨A1_1, c1_1, b⟩])) (blkA A_4) := fun j hj => (blkP_app hj).elim (s3b j) (fun h => sw_1 j (blkP_one h))
   have hP9 := hP_3.keptT hk_1 (by decide) (by decide) (by decide)
   have hAO9 : AllOwn w_11 w.heap.size (ps ++ [⟨A1_1, c1_1, b⟩]) := (hAO2.keptT hk_1 (by decide)).app (fun p hp => by rw [List.mem_singleton.1 hp]; exact ho_2.keptT hk_1 (by decide))
   refine q_at (pe hs_1 rfl rfl) ?_
   refine x_nil (hK_8 _ _ ?_)
   refine hK_7 _ _ _ ⟨N_3, A_4, c_4, z_3, r1, ps ++ [⟨A1_1, c1_1, b⟩], A_5, c_5, f1, rfl, (by rw [putsR_size]; exact hs_1), (by rw [putsR_defers]; exact hd_1), ((pm rfl).trans ta_1_0), ((pm rfl).trans ta_1_1), (pe hs_1 rfl rfl), ((pm rfl).trans ta_1_10), ((pm rfl).trans ta_1_11), ((pm rfl).trans ta_1_12), ((pm rfl).trans ta_1_13), ((pm rfl).trans ta_1_14), ((pm rfl).trans ta_1_15), ((pm rfl).trans ta_1_16), ((pm rfl).trans ta_1_17), ((pm rfl).trans ta_1_18), ((pm rfl).trans ta_1_19), ((pm rfl).trans ta_1_20), ((pm rfl).trans ta_1_21), ((pm rfl).trans ta_1_22), ((pm rfl).trans ta_1_23), hP9, hz_3, hRw_1, hAO9, hN9, hA9, HB_10, (by rw [← b7, hc4, List.map_append]; rfl), hc3, (by omega), (by omega), (i2.trans b11), (by rw [List.length_append]; show ps.length + 1 + _ ≤ _; omega), (i4.trans b15), s1c, s2c, s3c⟩ ?_
   omega
theorem EFeed_dead {ge gc ev cnt wl z c : Nat} {A : Option Addr} (w : World) (hB : Blk w ge #[.pointer (some ⟨gc, 0, none⟩), .int .i64 ((ev : Nat) : Int), .int .i64 ((cnt : Nat) : Int), .slice A (wl) (c), .int .i64 ((z : Nat) : Int), .bool (true)] 51) {A0 : Option Addr} {c0 q : Nat} :
  Calls Try.prog 24 #[.pointer (some ⟨ge, 0, none⟩), .slice A0 (q) (c0)] w fun e w' => e = .returned (.tuple #[.slice none 0 0, .int .i64 10]) ∧ w = w' := by
 refine x_enter 47 Try.func24 rfl rfl (fun a hs hd ha0 => ?_)
 have t0 : a.eval (.tmp 0) = .pointer (some ⟨ge, 0, none⟩) := ha0 0 _ rfl
 clear ha0
 refine w2_sr (fun K_1 hK_1 => ?_)
 refine q_as (.slice none (0) (0)) rfl ?_
 refine q_as (.int .i64 ((0 : Nat) : Int)) rfl ?_
 refine x_nil (hK_1 _ _ ?_)
 refine w2_seq (fun K_2 hK_2 => ?_)
 refine w2_sr (fun K_3 hK_3 => ?_)
 refine q_mv ((pm rfl).trans t0) ?_
 refine q_nc (pe hs rfl rfl) ?_
 refine q_fa 5 (pe hs rfl rfl) ?_
 refine q_ld (v := .bool (true)) (pe hs rfl rfl) hB rfl ?_
 refine x_nil (hK_3 _ _ ?_)
 refine w2_condT (pe hs rfl rfl) ?_
 refine w2_sr (fun K_4 hK_4 => ?_)
 refine q_as (.slice none (0) (0)) rfl ?_
 refine q_as (.int .i64 ((10 : Nat) : Int)) rfl ?_
 refine x_nil (hK_4 _ _ ?_)
 refine w2_ret ?_
 refine thn_ret ?_
 refine ret2 rfl hd (pe hs rfl rfl) (pe hs rfl rfl) ?_
 exact ⟨rfl, rfl⟩
end Go.Proofs.Ytggalcdkfielkaa
