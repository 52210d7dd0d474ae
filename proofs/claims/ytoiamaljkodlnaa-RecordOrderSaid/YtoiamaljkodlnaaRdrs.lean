/-
  DrawnM · Rdr, IN ONE TEXT.
-/
import Derived.Test.YtoiamaljkodlnaaCiph
import Derived.Test.YtoiamaljkodlnaaWr
/-
  A REGION THAT DRAWS ITS ORDER, one of whose calls changes the blocks X.
-/
namespace Go.Proofs.Ytoiamaljkodlnaa
open Go.RowKit
set_option linter.unusedVariables false
set_option linter.unusedSimpArgs false
set_option maxRecDepth 100000

section
variable {b : Bool} {P : Program} {Q : Exit → Act → World → Prop} {a : Act} {w : World}
/-- What holds of the first n operations, those that are through (L). -/
structure InvMut (l : List Oper) (S : List (World → Value → Prop)) (H0 H1 : World → Prop) (X : Nat → Prop) (n h : Nat) (a0 : Act) (w0 : World) (L : Nat → Bool) (a : Act) (w : World) : Prop where
  tmps : a.tmps.size = a0.tmps.size
  defers : a.defers = a0.defers
  grow : BelowX X w0 w
  others : ∀ t, (∀ j, j < n → dstOf l j ≠ some t) → a.eval (.tmp t) = a0.eval (.tmp t)
  vals : ∀ i, i < n → L i = true → ∀ d, dstOf l i = some d → nthS S i w (a.eval (.tmp d))
  hot : if L h = true then H1 w else H0 w
def OutM (P : Program) (S : List (World → Value → Prop)) (X : Nat → Prop) (H1 : World → Prop) (a' : Act) (w' : World) (i : Nat) (o : Oper) : Prop :=
  ∃ f vs, (execOp a'.eval o).run P w' = .ok (.enter f vs) w' ∧ Calls P f vs w' fun e w'' => ∃ v, e = .returned v ∧ nthS S i w'' v ∧ BelowX X w' w'' ∧ H1 w''
def StepM (P : Program) (l : List Oper) (S : List (World → Value → Prop)) (H0 H1 : World → Prop) (X : Nat → Prop) (ds : List Tmp) (a0 : Act) (w0 : World) (h i : Nat) (o : Oper) : Prop :=
  o.guard = none ∧ ∀ (a' : Act) (w' : World), BelowX X w0 w' → FreeD ds a' a0 → DepS l S o a' w' → if i = h then (H0 w' → OutM P S X H1 a' w' i o) else Outcome P (nthS S) a' w' i o
def StepsM (P : Program) (l : List Oper) (S : List (World → Value → Prop)) (H0 H1 : World → Prop) (X : Nat → Prop) (ds : List Tmp) (a0 : Act) (w0 : World) (h : Nat) : Nat → List Oper → Prop
  | _, [] => True
  | i, o :: r => StepM P l S H0 H1 X ds a0 w0 h i o ∧ StepsM P l S H0 H1 X ds a0 w0 h (i + 1) r
theorem stepsM_get {l : List Oper} {S : List (World → Value → Prop)} {H0 H1 : World → Prop} {X : Nat → Prop} {ds : List Tmp} {h : Nat} : ∀ (r : List Oper) (k : Nat), StepsM P l S H0 H1 X ds a w h k r → ∀ i o, r[i]? = some o → StepM P l S H0 H1 X ds a w h (k + i) o
  | [], _, _, i, o, h => by simp at h
  | x :: r, k, h, 0, o, ho => by
    simp at ho; subst ho; exact h.1
  | x :: r, k, h, i + 1, o, ho => by
    have := stepsM_get r (k + 1) h.2 i o (by simpa using ho)
    rwa [Nat.add_assoc, Nat.add_comm 1 i] at this
theorem stepM_val {l : List Oper} {S : List (World → Value → Prop)} {H0 H1 : World → Prop} {X : Nat → Prop} {ds : List Tmp} {h i : Nat} {o : Oper} (hg : o.guard = none) (hi : Nat.beq i h = false)
    (hh : ∀ (a' : Act) (w' : World), BelowX X w w' → FreeD ds a' a → DepS l S o a' w' → Outcome P (nthS S) a' w' i o) : StepM P l S H0 H1 X ds a w h i o :=
  ⟨hg, fun a' w' h1 h2 h3 => by rw [if_neg (fun e => by rw [e] at hi; simp at hi)]; exact hh a' w' h1 h2 h3⟩
theorem stepM_hot {l : List Oper} {S : List (World → Value → Prop)} {H0 H1 : World → Prop} {X : Nat → Prop} {ds : List Tmp} {h : Nat} {o : Oper} (hg : o.guard = none)
    (hh : ∀ (a' : Act) (w' : World), BelowX X w w' → FreeD ds a' a → DepS l S o a' w' → H0 w' → OutM P S X H1 a' w' h o) : StepM P l S H0 H1 X ds a w h h o :=
  ⟨hg, fun a' w' h1 h2 h3 => by rw [if_pos rfl]; exact hh a' w' h1 h2 h3⟩
/-- Each predicate lasts when the blocks X change. -/
def AllStX (X : Nat → Prop) : List (World → Value → Prop) → Prop
  | [] => True
  | p :: l => (∀ w w' v, p w v → BelowX X w w' → p w' v) ∧ AllStX X l
theorem stLitX {X : Nat → Prop} {f : Value → Prop} : ∀ w w' v, (fun (_ : World) v => f v) w v → BelowX X w w' → (fun (_ : World) v => f v) w' v := fun _ _ _ h _ => h
theorem stOwnX {X : Nat → Prop} {B n : Nat} {xs : List Nat} (hX : ∀ j, X j → j < B) : ∀ w w' v, OwnN B n xs w v → BelowX X w w' → OwnN B n xs w' v := fun _ _ _ ⟨A, c, hv, h⟩ hb => ⟨A, c, hv, h.keepM hb (fun j hj hx => absurd (hX j hx) (Nat.not_lt.2 (h.ge' j hj)))⟩
theorem stTupX {X : Nat → Prop} {B n r : Nat} {xs : List Nat} (hX : ∀ j, X j → j < B) : ∀ w w' v, TupN B n xs r w v → BelowX X w w' → TupN B n xs r w' v := fun _ _ _ ⟨A, c, hv, h⟩ hb => ⟨A, c, hv, h.keepM hb (fun j hj hx => absurd (hX j hx) (Nat.not_lt.2 (h.ge' j hj)))⟩
theorem AllStX.nth {X : Nat → Prop} : ∀ {l : List (World → Value → Prop)}, AllStX X l → ∀ i w w' v, nthS l i w v → BelowX X w w' → nthS l i w' v
  | [], _, _, _, _, _, _, _ => trivial
  | p :: l, h, 0, w, w', v, hp, hb => h.1 w w' v hp hb
  | p :: l, h, i + 1, w, w', v, hp, hb => AllStX.nth (l := l) h.2 i w w' v hp hb
theorem x_drawnM {id : Nat} {l : List Oper} {r : List (Tmp × Value)} {N : Nat} {dl : List Deferred} (n h : Nat) (X : Nat → Prop) (H0 H1 : World → Prop) (S : List (World → Value → Prop)) (ds : List Tmp) (hs : a.tmps.size = N) (hdf : a.defers = dl) (hm : P.follows .mixedOrders = true) (hnd : noDef l.toArray = true) (hd : dstsB2 l (fun _ => .val) n N = true) (ht : tailB2 l n = true) (hds : dstsOf (l.take n) = ds)
    (hh : Nat.blt h n = true) (hS : AllStX X S) (hH0 : ∀ w' w'', H0 w' → Below w'.heap.size w' w'' → H0 w'') (hH1 : ∀ w' w'', H1 w' → Below w'.heap.size w' w'' → H1 w'') (h0 : H0 w) (hstep : StepsM P l S H0 H1 X ds (putsR a r) w h 0 (l.take n))
    (hend : ∀ (a' : Act) (w' : World), a'.tmps.size = N → a'.defers = dl → BelowX X w w' → H1 w' → FreeD ds a' (putsR a r) → (∀ i d, Nat.blt i n = true → dstOf l i = some d → nthS S i w' (a'.eval (.tmp d))) → wpList P l.toArray Q (l.drop n) (putsR a' []) w') :
    WP2 b P (.region id l.toArray true) Q (putsR a r) w := by
  refine w2_any hm hnd (region_headA n (InvMut l S H0 H1 X n h (putsR a r) w) hm ht ⟨rfl, rfl, ⟨rfl, rfl, rfl, Nat.le_refl _, fun _ _ _ => rfl⟩, fun _ _ => rfl, fun _ _ hL => (by cases hL), by simpa using hH0 _ _ h0 ((Below.refl _ _).drew)⟩ ?_ ?_)
  · intro i o hi ho L a' w' inv hun hcl hdep hlow j hj K hK
    obtain ⟨hg, hst⟩ := stepsM_get _ _ hstep i o (by rw [List.getElem?_take, if_pos hi]; exact ho)
    rw [Nat.zero_add] at hst
    have hw : j = true := by rw [← hj]; simp [Region.wanted, hg]
    rw [if_pos hw]
    have hO : FreeD ds a' (putsR a r) := fun t htn => inv.others t (contains_of hds htn)
    have hD : DepS l S o a' w' := by
      intro j d hj' hd'
      obtain ⟨e, he, hbb⟩ := Array.any_eq_true'.1 hj'
      simp only [Bool.and_eq_true, beq_iff_eq] at hbb
      have hLe := hdep e he hbb.1
      rw [hbb.2] at hLe
      exact inv.vals j (hlow j hLe) hLe d hd'
    have h1 := hst a' w' inv.grow hO hD
    obtain ⟨d, hdi, hdl, hdne⟩ := dstsB2_val hd hi (by decide)
    have hod : o.dst = some d := by simpa [dstOf, ho] using hdi
    have hdl2 : d < a'.tmps.size := by rw [inv.tmps, putsR_size, hs]; exact hdl
    -- whatever it comes to: the frame behind it
    have next : ∀ (v : Value) (w'' : World), nthS S i w'' v → BelowX X w' w'' → (if (L h || h == i) = true then H1 w'' else H0 w'') → InvMut l S H0 H1 X n h (putsR a r) w (fun k => L k || k == i) (a'.put o.dst v) w'' := by
      intro v w'' hSv hb hH
      rw [hod]
      have hsame : (a'.put (some d) v).eval (.tmp d) = v := eval_put_same hdl2
      have hoth : ∀ i' d', i' < n → i' ≠ i → dstOf l i' = some d' → (a'.put (some d) v).eval (.tmp d') = a'.eval (.tmp d') := fun i' d' hi' hne hd' => eval_put_other (fun e => hdne i' hi' (fun h => hne h.symm) (by rw [hd', e]))
      refine ⟨by simpa [Act.put] using inv.tmps, inv.defers, inv.grow.trans hb, fun t htn => ?_, fun i' hi' hL d' hd' => ?_, hH⟩
      · rw [eval_put_other (fun e => htn i hi (by rw [hdi, e]))]
        exact inv.others t htn
      · by_cases hii : i' = i
        · subst hii
          rw [hdi] at hd'
          cases hd'
          rw [hsame]; exact hSv
        · rw [hoth i' d' hi' hii hd']
          exact hS.nth _ _ _ _ (inv.vals i' hi' (by simpa [hii] using hL) d' hd') hb
    by_cases e : i = h
    · rw [if_pos e] at h1
      have hH := inv.hot
      rw [← e, hun] at hH
      obtain ⟨f, vs, hr, hc⟩ := h1 (by simpa using hH)
      unfold Oper.wp
      rw [hr]
      refine Calls.mono hc ?_
      rintro e' w'' ⟨v, rfl, hSv, hb, hH1'⟩
      exact hK _ _ (next v w'' hSv hb (by rw [if_pos (by simp [e])]; exact hH1'))
    · rw [if_neg e] at h1
      refine h1.wp (fun v w'' hSv hb => hK _ _ (next v w'' hSv (BelowX.of hb) ?_))
      have hH := inv.hot
      have e2 : (h == i) = false := by simpa using fun e' => e e'.symm
      rw [e2, Bool.or_false]
      split
      · rename_i hL; rw [if_pos hL] at hH; exact hH1 _ _ hH hb
      · rename_i hL; rw [if_neg hL] at hH; exact hH0 _ _ hH hb
  · intro L a' w' inv hall
    have hH := inv.hot
    rw [if_pos (hall h (by simpa using hh))] at hH
    exact hend a' w' (by rw [inv.tmps, putsR_size, hs]) (by rw [inv.defers, putsR_defers, hdf]) inv.grow hH (fun t htn => inv.others t (contains_of hds htn)) (fun i d hi hd' => inv.vals i (by simpa using hi) (hall i (by simpa using hi)) d hd')
end
end Go.Proofs.Ytoiamaljkodlnaa
/-
  WALKS: record: a reader.
-/
namespace Go.Proofs.Ytoiamaljkodlnaa
open Go.RowKit
set_option linter.unusedVariables false
set_option linter.unusedSimpArgs false
set_option maxRecDepth 100000
attribute [local irreducible] wpList wpListIn putsR

theorem openL_length {ks ns ad bs xs : List Nat} {r : Nat} (h : openL ks ns ad bs = (xs, r)) (hr : r = 0) : xs.length + 16 = bs.length := by
  unfold openL at h
  split at h
  · cases h; omega
  · split at h
    · cases h
      rw [xorS_length, List.length_take]
      omega
    · cases h; omega
theorem Wt.first {w : World} {A : Option Addr} {c n : Nat} {xs : List Nat} (h : Wt w A c xs) (hn : n ≤ xs.length) : Bs w (subA A 0 c) c (xs.take n) := by
  have h1 := Bs.sub h.bs (l := 0) (q := n) (m := c) (by omega) (by have := h.le; omega) (Nat.le_refl _)
  rwa [List.drop_zero, Nat.sub_zero, Nat.sub_zero] at h1
theorem Unwrap_none {A0 : Option Addr} {c0 q : Nat} {bs : List Nat} (w : World) (h0 : Bs w A0 c0 bs) (hq : bs.length = q) (hl : q ≤ 100000) (hu : unwrapL bs = none) :
    Calls Try.prog 118 #[.slice A0 q c0] w fun e w' => ∃ r : Nat, r ≠ 0 ∧ e = .returned (.tuple #[.slice none 0 0, .int .i64 (r : Int)]) ∧ Below w.heap.size w w' := by
  refine Calls.mono (Unwrap_any w h0 hq hl) ?_
  rintro e w' (⟨r, hr, _, he, hb⟩ | ⟨b, A, c, h, _⟩)
  · exact ⟨r, hr, he, hb⟩
  · rw [hu] at h; cases h
theorem Unwrap_some {A0 : Option Addr} {c0 q : Nat} {bs b : List Nat} (w : World) (h0 : Bs w A0 c0 bs) (hq : bs.length = q) (hl : q ≤ 100000) (hu : unwrapL bs = some b) :
    Calls Try.prog 118 #[.slice A0 q c0] w fun e w' => ∃ A c, e = .returned (.tuple #[.slice A b.length c, .int .i64 0]) ∧ Own w' w.heap.size A c b ∧ Below w.heap.size w w' := by
  refine Calls.mono (Unwrap_any w h0 hq hl) ?_
  rintro e w' (⟨r, hr, h, _⟩ | ⟨b', A, c, h, he, hO, hb⟩)
  · rw [hu] at h; cases h
  · rw [hu] at h; cases h
    exact ⟨A, c, he, hO, hb⟩
/-- A reader lies at gr, its cipher at gc (N: its blocks), what waits at A. -/
structure ReaderP (w : World) (N : Nat → Prop) (gr gc : Nat) (A : Option Addr) (c : Nat) (r : Rd) : Prop where
  cip : CipherAt w N gc r.co.k r.co.n
  blk : Blk w gr #[.pointer (some ⟨gc, 0, none⟩), .int .i64 ((r.co.every : Nat) : Int), .int .i64 ((r.co.cnt : Nat) : Int), .slice A (r.wait.length) c, .int .i64 ((r.body : Nat) : Int), .bool r.dead] 112
  wt : Wt w A c r.wait
  apart : ¬ N gr
  sep : Sep (blkA A) N
/-! The steps. -/
theorem stepA1 {co : Co} {ws xs : List Nat} {r : Nat} {dead : Bool} (h18 : 18 ≤ ws.length) (ho : openL co.k (nonceL co.n) [] (ws.take 18) = (xs, r)) (hr : ¬ r = 0) : stepR ⟨co, ws, 0, dead⟩ = some (⟨co, ws.drop 18, 0, dead⟩, r, []) := by
  unfold stepR
  dsimp only
  rw [if_pos rfl, if_neg (by omega), ho]
  dsimp only
  rw [if_pos hr]
theorem stepA2 {co : Co} {ws xs : List Nat} {r : Nat} {dead : Bool} (h18 : 18 ≤ ws.length) (ho : openL co.k (nonceL co.n) [] (ws.take 18) = (xs, r)) (hr : r = 0) (hn : ¬ lenOf xs = sizeN (lenOf xs / 2 - 1)) : stepR ⟨co, ws, 0, dead⟩ = some (⟨co.up 1, ws.drop 18, 0, dead⟩, 3, []) := by
  unfold stepR
  dsimp only
  rw [if_pos rfl, if_neg (by omega), ho]
  dsimp only
  rw [if_neg (by omega), if_pos hn]
theorem stepA3 {co : Co} {ws xs : List Nat} {r : Nat} {dead : Bool} (h18 : 18 ≤ ws.length) (ho : openL co.k (nonceL co.n) [] (ws.take 18) = (xs, r)) (hr : r = 0) (hn : lenOf xs = sizeN (lenOf xs / 2 - 1)) : stepR ⟨co, ws, 0, dead⟩ = some (⟨co.up 1, ws.drop 18, lenOf xs + 16, dead⟩, 0, []) := by
  unfold stepR
  dsimp only
  rw [if_pos rfl, if_neg (by omega), ho]
  dsimp only
  rw [if_neg (by omega), if_neg (by omega)]
theorem stepB1 {co : Co} {ws xs : List Nat} {r body : Nat} {dead : Bool} (hb : 0 < body) (h18 : body ≤ ws.length) (ho : openL co.k (nonceL co.n) [] (ws.take body) = (xs, r)) (hr : ¬ r = 0) : stepR ⟨co, ws, body, dead⟩ = some (⟨co, ws.drop body, body, dead⟩, r, []) := by
  unfold stepR
  dsimp only
  rw [if_neg (by omega), if_neg (by omega), ho]
  dsimp only
  rw [if_pos hr]
theorem stepB2 {co : Co} {ws xs : List Nat} {r body : Nat} {dead : Bool} (hb : 0 < body) (h18 : body ≤ ws.length) (ho : openL co.k (nonceL co.n) [] (ws.take body) = (xs, r)) (hr : r = 0) (hu : unwrapL xs = none) : stepR ⟨co, ws, body, dead⟩ = some (⟨co.up 1, ws.drop body, body, dead⟩, 3, []) := by
  unfold stepR
  dsimp only
  rw [if_neg (by omega), if_neg (by omega), ho]
  dsimp only
  rw [if_neg (by omega), hu]
theorem stepB3 {co : Co} {ws xs b : List Nat} {r body : Nat} {dead : Bool} (hb : 0 < body) (h18 : body ≤ ws.length) (ho : openL co.k (nonceL co.n) [] (ws.take body) = (xs, r)) (hr : r = 0) (hu : unwrapL xs = some b) : stepR ⟨co, ws, body, dead⟩ = some (⟨(co.up 1).count, ws.drop body, 0, dead⟩, 0, [b]) := by
  unfold stepR
  dsimp only
  rw [if_neg (by omega), if_neg (by omega), ho]
  dsimp only
  rw [if_neg (by omega), hu]
theorem Wt.keepMC {w w' : World} {N : Nat → Prop} {gc n c : Nat} {A : Option Addr} {k xs : List Nat} (h : Wt w A c xs) (hC : CipherAt w N gc k n) : Sep (blkA A) (fun j => j = gc) := by
  obtain ⟨cu, hc⟩ := hC.blk
  exact fun j hj e => h.sepB hc (by decide) (e ▸ hj)
theorem Wt.keepM {w w' : World} {c : Nat} {A : Option Addr} {xs : List Nat} {X : Nat → Prop} (h : Wt w A c xs) (hb : BelowX X w w') (hs : Sep (blkA A) X) : Wt w' A c xs := h.keep (hb.kept h.lt hs)
theorem takes_any {N : Nat → Prop} {gr gc ev cnt num body wl c : Nat} {A : Option Addr} {ks ws : List Nat} {dead : Bool} {n r : Nat} {xs : List Nat} (w : World) (hB : Blk w gr #[.pointer (some ⟨gc, 0, none⟩), .int .i64 ((ev : Nat) : Int), .int .i64 ((cnt : Nat) : Int), .slice A (wl) (c), .int .i64 ((body : Nat) : Int), .bool (dead)] 112) (hC : CipherAt w N gc ks num) (hWt : Wt w A c ws) (hn : ¬ N gr) (hwl : ws.length = wl) (hnw : n ≤ ws.length) (hn6 : n ≤ 65535) (hnum : num < 18446744073709551615) (hs0 : openL ks (nonceL num) [] (ws.take n) = (xs, r)) :
    Calls Try.prog 117 #[.pointer (some ⟨gr, 0, none⟩), .int .i64 ((n : Nat) : Int)] w fun e w' => ∃ A1 c1, e = .returned (.tuple #[.slice A1 xs.length c1, .int .i64 ((r : Nat) : Int)]) ∧ Own w' w.heap.size A1 c1 xs ∧ (∃ N', CipherAt w' N' gc ks (if r = 0 then num + 1 else num) ∧ NextM w N N') ∧ Blk w' gr #[.pointer (some ⟨gc, 0, none⟩), .int .i64 ((ev : Nat) : Int), .int .i64 ((cnt : Nat) : Int), .slice ((subA A n c)) (wl - n) (c - n), .int .i64 ((body : Nat) : Int), .bool (dead)] 112 ∧ Wt w' (subA A n c) (c - n) (ws.drop n) ∧ BelowX (fun j => j = gr ∨ j = gc) w w' := by
  have hsepC := hWt.keepMC (w' := w) hC
  have hfl : (ws.take n).length = n := List.length_take_of_le hnw
  have hgne : ¬ gr = gc := fun e => hn (by rw [e]; exact hC.mem)
  have hwc := hWt.le
  refine x_enter 34 Try.func117 rfl rfl (fun a hs hd ha0 => ?_)
  have t0 : a.eval (.tmp 0) = .pointer (some ⟨gr, 0, none⟩) := ha0 0 _ rfl
  have t1 : a.eval (.tmp 1) = .int .i64 ((n : Nat) : Int) := ha0 1 _ rfl
  clear ha0
  have HB0 : BelowX (fun j => j = gr ∨ j = gc) w w := BelowX.refl _ _
  refine w2_seq (fun K_1 hK_1 => ?_)
  refine x_region (by kernel_rfl) ?_
  refine op_val (d := 4) (v := .slice none (0) (0)) rfl rfl (o_assign rfl rfl) ?_
  refine op_val (d := 5) (v := .int .i64 ((0 : Nat) : Int)) rfl rfl (o_assign rfl rfl) ?_
  refine x_nil ?_
  refine hK_1 _ _ ?_
  refine w2_seq (fun K_2 hK_2 => ?_)
  refine x_drawnM 16 11 (fun j => j = gc) (fun w' => CipherAt w' N gc ks num) (fun w' => ∃ N', CipherAt w' N' gc ks (if r = 0 then num + 1 else num) ∧ NextM w N N') [fun _ v => v = .pointer (some ⟨gr, 0, none⟩), fun _ v => v = .pointer (some ⟨gr, 0, none⟩), fun _ v => v = .pointer (some ⟨gr, 0, none⟩), fun _ v => v = .pointer (some ⟨gr, 0, none⟩), fun _ v => v = .pointer (some ⟨gc, 0, none⟩), fun _ v => v = .pointer (some ⟨gr, 0, none⟩), fun _ v => v = .pointer (some ⟨gr, 0, none⟩), fun _ v => v = .pointer (some ⟨gr, 3, none⟩), fun _ v => v = .slice A (wl) (c), fun _ v => v = .int .i64 ((n : Nat) : Int), fun _ v => v = .slice ((subA A 0 c)) (n) (c), fun ww vv => TupN w.heap.size (xs.length) (xs) (r) ww vv, fun ww vv => TupN w.heap.size (xs.length) (xs) (r) ww vv, fun ww vv => OwnN w.heap.size (xs.length) (xs) ww vv, fun _ v => v = .int .i64 ((r : Nat) : Int), fun ww vv => OwnN w.heap.size (xs.length) (xs) ww vv] [9, 10, 11, 12, 13, 14, 15, 16, 17, 18, 19, 20, 8, 21, 22, 6] hs hd (by kernel_rfl) (by kernel_rfl) (by kernel_rfl) (by kernel_rfl) (by kernel_rfl) rfl ⟨stLitX, stLitX, stLitX, stLitX, stLitX, stLitX, stLitX, stLitX, stLitX, stLitX, stLitX, (stTupX (fun j hj => hj ▸ hC.lt _ hC.mem)), (stTupX (fun j hj => hj ▸ hC.lt _ hC.mem)), (stOwnX (fun j hj => hj ▸ hC.lt _ hC.mem)), stLitX, (stOwnX (fun j hj => hj ▸ hC.lt _ hC.mem)), trivial⟩ (fun _ _ h hb => h.nx hb) (fun _ _ ⟨N', h, h2⟩ hb => ⟨N', h.nx hb, h2⟩) hC ⟨(stepM_val rfl rfl (fun a' w' hb' hO hD => by
      have d_1 : a'.eval (.tmp 0) = .pointer (some ⟨gr, 0, none⟩) := (hO 0 (by decide)).trans ((pm rfl).trans t0)
      exact .inl ⟨_, _, (o_move rfl d_1), rfl, Below.refl _ _⟩)),
(stepM_val rfl rfl (fun a' w' hb' hO hD => by
      have d_2 : a'.eval (.tmp 9) = .pointer (some ⟨gr, 0, none⟩) := hD 0 9 (by kernel_rfl) rfl
      exact .inl ⟨_, _, (o_nilCheck rfl d_2), rfl, Below.refl _ _⟩)),
(stepM_val rfl rfl (fun a' w' hb' hO hD => by
      have d_3 : a'.eval (.tmp 10) = .pointer (some ⟨gr, 0, none⟩) := hD 1 10 (by kernel_rfl) rfl
      exact .inl ⟨_, _, (o_field (k' := 0) rfl d_3 (fun _ => by kernel_rfl)), rfl, Below.refl _ _⟩)),
(stepM_val rfl rfl (fun a' w' hb' hO hD => by
      have d_4 : a'.eval (.tmp 11) = .pointer (some ⟨gr, 0, none⟩) := hD 2 11 (by kernel_rfl) rfl
      exact .inl ⟨_, _, (o_field (k' := 0) rfl d_4 (fun _ => by kernel_rfl)), rfl, Below.refl _ _⟩)),
(stepM_val rfl rfl (fun a' w' hb' hO hD => by
      have d_5 : a'.eval (.tmp 12) = .pointer (some ⟨gr, 0, none⟩) := hD 3 12 (by kernel_rfl) rfl
      exact .inl ⟨_, _, (o_load1 rfl d_5 (hb'.blk hB hgne) rfl ⟨by kernel_rfl, by kernel_rfl⟩), rfl, Below.refl _ _⟩)),
(stepM_val rfl rfl (fun a' w' hb' hO hD => by
      have d_6 : a'.eval (.tmp 0) = .pointer (some ⟨gr, 0, none⟩) := (hO 0 (by decide)).trans ((pm rfl).trans t0)
      exact .inl ⟨_, _, (o_move rfl d_6), rfl, Below.refl _ _⟩)),
(stepM_val rfl rfl (fun a' w' hb' hO hD => by
      have d_7 : a'.eval (.tmp 14) = .pointer (some ⟨gr, 0, none⟩) := hD 5 14 (by kernel_rfl) rfl
      exact .inl ⟨_, _, (o_nilCheck rfl d_7), rfl, Below.refl _ _⟩)),
(stepM_val rfl rfl (fun a' w' hb' hO hD => by
      have d_8 : a'.eval (.tmp 15) = .pointer (some ⟨gr, 0, none⟩) := hD 6 15 (by kernel_rfl) rfl
      exact .inl ⟨_, _, (o_field (k' := 3) rfl d_8 (fun _ => by kernel_rfl)), rfl, Below.refl _ _⟩)),
(stepM_val rfl rfl (fun a' w' hb' hO hD => by
      have d_9 : a'.eval (.tmp 16) = .pointer (some ⟨gr, 3, none⟩) := hD 7 16 (by kernel_rfl) rfl
      exact .inl ⟨_, _, (o_load1 rfl d_9 (hb'.blk hB hgne) rfl ⟨by kernel_rfl, by kernel_rfl⟩), rfl, Below.refl _ _⟩)),
(stepM_val rfl rfl (fun a' w' hb' hO hD => by
      have d_10 : a'.eval (.tmp 1) = .int .i64 ((n : Nat) : Int) := (hO 1 (by decide)).trans ((pm rfl).trans t1)
      exact .inl ⟨_, _, (o_move rfl d_10), rfl, Below.refl _ _⟩)),
(stepM_val rfl rfl (fun a' w' hb' hO hD => by
      have d_11 : a'.eval (.tmp 17) = .slice A (wl) (c) := hD 8 17 (by kernel_rfl) rfl
      have d_12 : a'.eval (.tmp 18) = .int .i64 ((n : Nat) : Int) := hD 9 18 (by kernel_rfl) rfl
      exact .inl ⟨_, _, (o_sliceH rfl d_11 d_12 (by omega)), rfl, Below.refl _ _⟩)),
(stepM_hot rfl (fun a' w' hb' hO hD hH0 => by
      have d_13 : a'.eval (.tmp 13) = .pointer (some ⟨gc, 0, none⟩) := hD 4 13 (by kernel_rfl) rfl
      have d_14 : a'.eval (.tmp 19) = .slice ((subA A 0 c)) (n) (c) := hD 10 19 (by kernel_rfl) rfl
      exact ⟨_, #[.pointer (some ⟨gc, 0, none⟩), .slice none (0) (0), .slice ((subA A 0 c)) (n) (c)], (exec_call Try.func61 (by kernel_rfl) (by kernel_rfl) _ rfl _ _ (args3 d_13 rfl d_14)), Calls.mono (COpen_any _ hH0 (Bs.nil _) ((hWt.keepM hb' hsepC).first hnw) rfl hfl (by omega) (by omega) hnum hs0) (fun e w'' hR => by obtain ⟨A_1, c_1, rfl, ho_1, hH_1, hX_1⟩ := hR; exact ⟨_, rfl, ⟨_, _, rfl, ho_1.mono hb'.size⟩, hX_1, (by obtain ⟨N', h1, h2⟩ := hH_1; exact ⟨N', h1, fun j hj => (h2 j hj).imp id (Nat.le_trans hb'.size)⟩)⟩)⟩)),
(stepM_val rfl rfl (fun a' w' hb' hO hD => by
      have d_15 := hD 11 20 (by kernel_rfl) rfl
      obtain ⟨A_2, c_2, hv_1, hO_1⟩ := d_15
      exact .inl ⟨_, _, (o_move rfl hv_1), ⟨_, _, rfl, hO_1⟩, Below.refl _ _⟩)),
(stepM_val rfl rfl (fun a' w' hb' hO hD => by
      have d_16 := hD 12 8 (by kernel_rfl) rfl
      obtain ⟨A_3, c_3, hv_2, hO_2⟩ := d_16
      exact .inl ⟨_, _, (o_extract rfl hv_2 rfl), ⟨_, _, rfl, hO_2⟩, Below.refl _ _⟩)),
(stepM_val rfl rfl (fun a' w' hb' hO hD => by
      have d_17 := hD 12 8 (by kernel_rfl) rfl
      obtain ⟨A_4, c_4, hv_3, hO_3⟩ := d_17
      exact .inl ⟨_, _, (o_extract rfl hv_3 rfl), rfl, Below.refl _ _⟩)),
(stepM_val rfl rfl (fun a' w' hb' hO hD => by
      have d_18 := hD 13 21 (by kernel_rfl) rfl
      obtain ⟨A_5, c_5, hv_4, hO_4⟩ := d_18
      exact .inl ⟨_, _, (o_assign rfl hv_4), ⟨_, _, rfl, hO_4⟩, Below.refl _ _⟩)), trivial⟩ (fun a_1 w_1 hs_1 hd_1 hX_2 hH_2 hO_5 hV_1 => ?_)
  have ta_1_0 : a_1.eval (.tmp 0) = .pointer (some ⟨gr, 0, none⟩) := (hO_5 0 (by decide)).trans ((pm rfl).trans t0)
  have ta_1_1 : a_1.eval (.tmp 1) = .int .i64 ((n : Nat) : Int) := (hO_5 1 (by decide)).trans ((pm rfl).trans t1)
  have ta_1_4 : a_1.eval (.tmp 4) = .slice none (0) (0) := (hO_5 4 (by decide)).trans (pe hs rfl rfl)
  have ta_1_5 : a_1.eval (.tmp 5) = .int .i64 ((0 : Nat) : Int) := (hO_5 5 (by decide)).trans (pe hs rfl rfl)
  clear t0 t1 hd
  obtain ⟨N_1, hC_1, hNx_1⟩ := hH_2
  have hn_1 := hNx_1.not hn hB.lt
  replace hB := hX_2.blk hB (fun e => hn (by rw [e]; exact hC.mem))
  replace hWt := hC.wt hX_2 hWt
  have nx_1 := (NextM.refl w N).trans hNx_1 HB0.size
  have HB_1 := HB0.step hX_2 (fun k hk (hY : k = gc) => .inr hY)
  have ta_1_9 : a_1.eval (.tmp 9) = .pointer (some ⟨gr, 0, none⟩) := hV_1 0 9 rfl rfl
  have ta_1_10 : a_1.eval (.tmp 10) = .pointer (some ⟨gr, 0, none⟩) := hV_1 1 10 rfl rfl
  have ta_1_11 : a_1.eval (.tmp 11) = .pointer (some ⟨gr, 0, none⟩) := hV_1 2 11 rfl rfl
  have ta_1_12 : a_1.eval (.tmp 12) = .pointer (some ⟨gr, 0, none⟩) := hV_1 3 12 rfl rfl
  have ta_1_13 : a_1.eval (.tmp 13) = .pointer (some ⟨gc, 0, none⟩) := hV_1 4 13 rfl rfl
  have ta_1_14 : a_1.eval (.tmp 14) = .pointer (some ⟨gr, 0, none⟩) := hV_1 5 14 rfl rfl
  have ta_1_15 : a_1.eval (.tmp 15) = .pointer (some ⟨gr, 0, none⟩) := hV_1 6 15 rfl rfl
  have ta_1_16 : a_1.eval (.tmp 16) = .pointer (some ⟨gr, 3, none⟩) := hV_1 7 16 rfl rfl
  have ta_1_17 : a_1.eval (.tmp 17) = .slice A (wl) (c) := hV_1 8 17 rfl rfl
  have ta_1_18 : a_1.eval (.tmp 18) = .int .i64 ((n : Nat) : Int) := hV_1 9 18 rfl rfl
  have ta_1_19 : a_1.eval (.tmp 19) = .slice ((subA A 0 c)) (n) (c) := hV_1 10 19 rfl rfl
  have x_1 := hV_1 11 20 rfl rfl
  obtain ⟨A_6, c_6, hv_5, hO_6⟩ := x_1
  replace hO_6 := hO_6.mono HB0.size
  have x_2 := hV_1 12 8 rfl rfl
  obtain ⟨A_7, c_7, hv_6, hO_7⟩ := x_2
  replace hO_7 := hO_7.mono HB0.size
  have x_3 := hV_1 13 21 rfl rfl
  obtain ⟨A_8, c_8, hv_7, hO_8⟩ := x_3
  replace hO_8 := hO_8.mono HB0.size
  have ta_1_22 : a_1.eval (.tmp 22) = .int .i64 ((r : Nat) : Int) := hV_1 14 22 rfl rfl
  have x_4 := hV_1 15 6 rfl rfl
  obtain ⟨A_9, c_9, hv_8, hO_9⟩ := x_4
  replace hO_9 := hO_9.mono HB0.size
  clear hV_1 hO_5
  simp only [List.drop_succ_cons, List.drop_zero]
  refine op_val (d := 7) (v := .int .i64 ((r : Nat) : Int)) rfl rfl (o_assign rfl ((pm rfl).trans ta_1_22)) ?_
  refine x_nil ?_
  refine hK_2 _ _ ?_
  refine w2_seq (fun K_3 hK_3 => ?_)
  refine x_region (by kernel_rfl) ?_
  refine op_val (d := 23) (v := .pointer (some ⟨gr, 0, none⟩)) rfl rfl (o_move rfl ((pm rfl).trans ta_1_0)) ?_
  refine op_val (d := 24) (v := .pointer (some ⟨gr, 0, none⟩)) rfl rfl (o_move rfl ((pm rfl).trans ta_1_0)) ?_
  refine op_val (d := 25) (v := .pointer (some ⟨gr, 0, none⟩)) rfl rfl (o_nilCheck rfl (pe hs_1 rfl rfl)) ?_
  refine op_val (d := 26) (v := .pointer (some ⟨gr, 3, none⟩)) rfl rfl (o_field (k' := 3) rfl (pe hs_1 rfl rfl) (fun _ => by kernel_rfl)) ?_
  refine op_val (d := 27) (v := .slice A (wl) (c)) rfl rfl (o_load1 rfl (pe hs_1 rfl rfl) hB rfl ⟨by kernel_rfl, by kernel_rfl⟩) ?_
  refine op_val (d := 28) (v := .int .i64 ((n : Nat) : Int)) rfl rfl (o_move rfl ((pm rfl).trans ta_1_1)) ?_
  refine op_val (d := 29) (v := .slice ((subA A n c)) (wl - n) (c - n)) rfl rfl (o_sliceL rfl (pe hs_1 rfl rfl) (pe hs_1 rfl rfl) (by omega)) ?_
  refine op_val (d := 30) (v := .pointer (some ⟨gr, 0, none⟩)) rfl rfl (o_nilCheck rfl (pe hs_1 rfl rfl)) ?_
  refine op_val (d := 31) (v := .pointer (some ⟨gr, 3, none⟩)) rfl rfl (o_field (k' := 3) rfl (pe hs_1 rfl rfl) (fun _ => by kernel_rfl)) ?_
  refine op_do rfl rfl (o_store1 rfl (pe hs_1 rfl rfl) (pe hs_1 rfl rfl) rfl rfl hB (by simp only [List.length_cons, List.length_nil]; omega) ⟨by kernel_rfl, by kernel_rfl⟩) (fun w_2 hR_1 => ?_)
  obtain ⟨hB_1, hX_3⟩ := hR_1
  replace hWt := hWt.keepX hB (by decide) hX_3
  replace hC_1 := hC_1.keepX hX_3 hn_1
  replace hO_6 := hO_6.keepX hB (by decide) hX_3
  replace hO_7 := hO_7.keepX hB (by decide) hX_3
  replace hO_8 := hO_8.keepX hB (by decide) hX_3
  replace hO_9 := hO_9.keepX hB (by decide) hX_3
  have HB_2 := HB_1.step hX_3 (fun k hk (hY : k = gr) => .inl hY)
  clear hB
  simp only [List.set_cons_zero, List.set_cons_succ] at hB_1
  refine x_nil ?_
  refine hK_3 _ _ ?_
  refine w2_seq (fun K_4 hK_4 => ?_)
  refine x_region (by kernel_rfl) ?_
  refine op_val (d := 32) (v := .slice A_9 (xs.length) (c_9)) rfl rfl (o_move rfl ((pm rfl).trans hv_8)) ?_
  refine op_val (d := 33) (v := .int .i64 ((r : Nat) : Int)) rfl rfl (o_move rfl (pe hs_1 rfl rfl)) ?_
  refine op_val (d := 4) (v := .slice A_9 (xs.length) (c_9)) rfl rfl (o_assign rfl (pe hs_1 rfl rfl)) ?_
  refine op_val (d := 5) (v := .int .i64 ((r : Nat) : Int)) rfl rfl (o_assign rfl (pe hs_1 rfl rfl)) ?_
  refine x_nil ?_
  refine hK_4 _ _ ?_
  refine w2_ret ?_
  refine ret2 rfl hd_1 (pe hs_1 rfl rfl) (pe hs_1 rfl rfl) ?_
  exact ⟨_, _, rfl, hO_9, ⟨N_1, hC_1, nx_1⟩, hB_1, hWt.drop hnw, HB_2⟩
theorem length_any {N : Nat → Prop} {gr gc ev cnt num c : Nat} {A : Option Addr} {ks ws : List Nat} {dead : Bool} {x : Rd × Nat × List (List Nat)} (w : World) (hP : ReaderP w N gr gc A c ⟨⟨ks, num, ev, cnt⟩, ws, 0, dead⟩) (hnum : num < 9223372036854775807) (hx : stepR ⟨⟨ks, num, ev, cnt⟩, ws, 0, dead⟩ = some x) (hnw : 18 ≤ ws.length) :
    Calls Try.prog 84 #[.pointer (some ⟨gr, 0, none⟩)] w fun e w' => e = .returned (.int .i64 ((x.2.1 : Nat) : Int)) ∧ (∃ N' A' c', ReaderP w' N' gr gc A' c' x.1 ∧ NextM w N N' ∧ ∀ j, blkA A' j → blkA A j) ∧ BelowX (fun j => j = gr ∨ j = gc) w w' := by
  obtain ⟨hC, hB, hWt, hn, hsep⟩ := hP
  have hWt0 := hWt
  obtain ⟨wl, hwl⟩ : ∃ q, ws.length = q := ⟨_, rfl⟩
  dsimp only at hC hB hWt
  rw [hwl] at hB
  obtain ⟨xs, r, hs0⟩ : ∃ xs r, openL ks (nonceL num) [] (ws.take 18) = (xs, r) := ⟨_, _, rfl⟩
  have hxl := fun (h : r = 0) => openL_length hs0 h
  rw [List.length_take_of_le hnw] at hxl
  refine x_enter 36 Try.func84 rfl rfl (fun a hs hd ha0 => ?_)
  have t0 : a.eval (.tmp 0) = .pointer (some ⟨gr, 0, none⟩) := ha0 0 _ rfl
  clear ha0
  have HB0 : BelowX (fun j => j = gr ∨ j = gc) w w := BelowX.refl _ _
  refine w2_seq (fun K_1 hK_1 => ?_)
  refine x_region (by kernel_rfl) ?_
  refine op_val (d := 2) (v := .int .i64 ((0 : Nat) : Int)) rfl rfl (o_assign rfl rfl) ?_
  refine x_nil ?_
  refine hK_1 _ _ ?_
  refine w2_seq (fun K_2 hK_2 => ?_)
  refine x_region (by kernel_rfl) ?_
  refine op_val (d := 7) (v := .pointer (some ⟨gr, 0, none⟩)) rfl rfl (o_move rfl ((pm rfl).trans t0)) ?_
  refine op_call (vs := #[.pointer (some ⟨gr, 0, none⟩), .int .i64 ((18 : Nat) : Int)]) rfl rfl (exec_call Try.func117 (by kernel_rfl) (by kernel_rfl) _ rfl _ _ (args2 (pe hs rfl rfl) rfl)) (takes_any _ hB hC hWt hn hwl hnw (by omega) (by omega) hs0) (fun e_1 w_1 hR_1 => ?_)
  obtain ⟨A_1, c_1, rfl, ho_1, ⟨N_1, hC_1, hNx_1⟩, hB_1, hWt_1, hX_1⟩ := hR_1
  have hn_1 := hNx_1.not hn hB.lt
  have nx_1 := (NextM.refl w N).trans hNx_1 HB0.size
  replace ho_1 := ho_1.mono HB0.size
  have HB_1 := HB0.step hX_1 (fun k hk hY => hY)
  have hl_1 : (ws.drop 18).length = wl - 18 := by rw [List.length_drop, hwl]
  refine ⟨_, rfl, ?_⟩
  refine op_val (d := 6) (v := .tuple #[.slice A_1 (xs.length) (c_1), .int .i64 ((r : Nat) : Int)]) rfl rfl (o_move rfl (pe hs rfl rfl)) ?_
  refine op_val (d := 9) (v := .slice A_1 (xs.length) (c_1)) rfl rfl (o_extract rfl (pe hs rfl rfl) rfl) ?_
  refine op_val (d := 10) (v := .int .i64 ((r : Nat) : Int)) rfl rfl (o_extract rfl (pe hs rfl rfl) rfl) ?_
  refine op_val (d := 3) (v := .slice A_1 (xs.length) (c_1)) rfl rfl (o_assign rfl (pe hs rfl rfl)) ?_
  refine op_val (d := 4) (v := .int .i64 ((r : Nat) : Int)) rfl rfl (o_assign rfl (pe hs rfl rfl)) ?_
  refine x_nil ?_
  refine hK_2 _ _ ?_
  refine w2_seq (fun K_3 hK_3 => ?_)
  refine w2_seq (fun K_4 hK_4 => ?_)
  refine x_region (by kernel_rfl) ?_
  refine op_val (d := 11) (v := .int .i64 ((r : Nat) : Int)) rfl rfl (o_move rfl (pe hs rfl rfl)) ?_
  refine op_val (d := 12) (v := .bool (!decide (r = 0))) rfl rfl (o_neq (m := r) (n := 0) rfl (pe hs rfl rfl) rfl) ?_
  refine x_nil ?_
  refine hK_4 _ _ ?_
  refine w2_split (pe hs rfl rfl) (fun h_1 => ?_) (fun h_1 => ?_)
  · simp only [decide_eq_true_eq, decide_eq_false_iff_not, Bool.not_eq_true', Bool.not_eq_false', Bool.not_true, Bool.not_false, Nat.not_lt, Nat.not_le] at h_1
    have hr0 : ¬ r = 0 := h_1
    refine w2_seq (fun K_5 hK_5 => ?_)
    refine x_region (by kernel_rfl) ?_
    refine op_val (d := 13) (v := .int .i64 ((r : Nat) : Int)) rfl rfl (o_move rfl (pe hs rfl rfl)) ?_
    refine op_val (d := 2) (v := .int .i64 ((r : Nat) : Int)) rfl rfl (o_assign rfl (pe hs rfl rfl)) ?_
    refine x_nil ?_
    refine hK_5 _ _ ?_
    refine w2_ret ?_
    refine thn_ret ?_
    refine ret1 rfl hd (pe hs rfl rfl) ?_
    have hx2 := stepA1 (co := ⟨ks, num, ev, cnt⟩) (dead := dead) hnw hs0 hr0
    rw [hx] at hx2
    obtain rfl := Option.some.inj hx2
    have hs9 : Sep (blkA ((subA A 18 c))) N_1 := fun j hj hm => (nx_1.sep hsep hWt0.lt) j (blkA_sub hj) hm
    refine ⟨rfl, ⟨N_1, (subA A 18 c), c - 18, ⟨?_, ?_, hWt_1, hn_1, hs9⟩, nx_1, fun j hj => blkA_sub hj⟩, HB_1⟩
    · have h9 := hC_1; rw [if_neg hr0] at h9; exact h9
    · have h9 := hB_1; rw [← List.length_drop.trans (congrArg (· - 18) hwl)] at h9; exact h9
  · simp only [decide_eq_true_eq, decide_eq_false_iff_not, Bool.not_eq_true', Bool.not_eq_false', Bool.not_true, Bool.not_false, Nat.not_lt, Nat.not_le] at h_1
    have hr0 : r = 0 := by have h9 := h_1; omega
    have hx2l : xs.length = 2 := by have := hxl hr0; omega
    have b0 := getD_lt ho_1.bs.b8 0
    have b1 := getD_lt ho_1.bs.b8 1
    have hlo : lenOf xs < 65536 := by unfold lenOf; omega
    refine w2_skip ?_
    refine hK_3 _ _ ?_
    refine w2_seq (fun K_6 hK_6 => ?_)
    refine x_drawn 9 [fun _ v => v = .slice A_1 (xs.length) (c_1), fun _ v => v = .pointer (atA A_1 (0)), fun _ v => v = .int .u8 ((xs.getD (0) 0 : Nat) : Int), fun _ v => v = .int .i64 ((xs.getD (0) 0 : Nat) : Int), fun _ v => v = .int .i64 (((xs.getD (0) 0) * 256 : Nat) : Int), fun _ v => v = .slice A_1 (xs.length) (c_1), fun _ v => v = .pointer (atA A_1 (1)), fun _ v => v = .int .u8 ((xs.getD (1) 0 : Nat) : Int), fun _ v => v = .int .i64 ((xs.getD (1) 0 : Nat) : Int)] [14, 15, 16, 17, 18, 19, 20, 21, 22] hs hd (by kernel_rfl) (by kernel_rfl) (by kernel_rfl) (by kernel_rfl) (by kernel_rfl) ⟨stLit, stLit, stLit, stLit, stLit, stLit, stLit, stLit, stLit, trivial⟩ ⟨(step_ok rfl (fun a' w' hb' hO hD => by
        have d_1 : a'.eval (.tmp 3) = .slice A_1 (xs.length) (c_1) := (hO 3 (by decide)).trans (pe hs rfl rfl)
        exact .inl ⟨_, _, (o_move rfl d_1), rfl, Below.refl _ _⟩)),
(step_ok rfl (fun a' w' hb' hO hD => by
        have d_2 : a'.eval (.tmp 14) = .slice A_1 (xs.length) (c_1) := hD 0 14 (by kernel_rfl) rfl
        exact .inl ⟨_, _, (o_ix (k := 0) rfl d_2 rfl (by omega) (((ho_1.nx hb')).bs.some (by rw [hx2l]; omega))), rfl, Below.refl _ _⟩)),
(step_ok rfl (fun a' w' hb' hO hD => by
        have d_3 : a'.eval (.tmp 15) = .pointer (atA A_1 (0)) := hD 1 15 (by kernel_rfl) rfl
        exact .inl ⟨_, _, (o_ld8 rfl d_3 ((ho_1.nx hb')).bs (by rw [hx2l]; omega) rfl), rfl, Below.refl _ _⟩)),
(step_ok rfl (fun a' w' hb' hO hD => by
        have d_4 : a'.eval (.tmp 16) = .int .u8 ((xs.getD (0) 0 : Nat) : Int) := hD 2 16 (by kernel_rfl) rfl
        exact .inl ⟨_, _, (o_conv (m := (xs.getD (0) 0)) (r := xs.getD (0) 0) rfl d_4 ⟨.int .u8, fun _ => by kernel_rfl⟩ (fun _ => by kernel_rfl) (IntWalk.i64_in _ (by omega))), rfl, Below.refl _ _⟩)),
(step_ok rfl (fun a' w' hb' hO hD => by
        have d_5 : a'.eval (.tmp 17) = .int .i64 ((xs.getD (0) 0 : Nat) : Int) := hD 3 17 (by kernel_rfl) rfl
        exact .inl ⟨_, _, (o_shl8 (m := (xs.getD (0) 0)) rfl d_5 rfl (by omega)), rfl, Below.refl _ _⟩)),
(step_ok rfl (fun a' w' hb' hO hD => by
        have d_6 : a'.eval (.tmp 3) = .slice A_1 (xs.length) (c_1) := (hO 3 (by decide)).trans (pe hs rfl rfl)
        exact .inl ⟨_, _, (o_move rfl d_6), rfl, Below.refl _ _⟩)),
(step_ok rfl (fun a' w' hb' hO hD => by
        have d_7 : a'.eval (.tmp 19) = .slice A_1 (xs.length) (c_1) := hD 5 19 (by kernel_rfl) rfl
        exact .inl ⟨_, _, (o_ix (k := 1) rfl d_7 rfl (by omega) (((ho_1.nx hb')).bs.some (by rw [hx2l]; omega))), rfl, Below.refl _ _⟩)),
(step_ok rfl (fun a' w' hb' hO hD => by
        have d_8 : a'.eval (.tmp 20) = .pointer (atA A_1 (1)) := hD 6 20 (by kernel_rfl) rfl
        exact .inl ⟨_, _, (o_ld8 rfl d_8 ((ho_1.nx hb')).bs (by rw [hx2l]; omega) rfl), rfl, Below.refl _ _⟩)),
(step_ok rfl (fun a' w' hb' hO hD => by
        have d_9 : a'.eval (.tmp 21) = .int .u8 ((xs.getD (1) 0 : Nat) : Int) := hD 7 21 (by kernel_rfl) rfl
        exact .inl ⟨_, _, (o_conv (m := (xs.getD (1) 0)) (r := xs.getD (1) 0) rfl d_9 ⟨.int .u8, fun _ => by kernel_rfl⟩ (fun _ => by kernel_rfl) (IntWalk.i64_in _ (by omega))), rfl, Below.refl _ _⟩)), trivial⟩ (fun a_1 w_2 hs_1 hd_1 hb_1 hO_1 hV_1 => ?_)
    have ta_1_0 : a_1.eval (.tmp 0) = .pointer (some ⟨gr, 0, none⟩) := (hO_1 0 (by decide)).trans ((pm rfl).trans t0)
    have ta_1_2 : a_1.eval (.tmp 2) = .int .i64 ((0 : Nat) : Int) := (hO_1 2 (by decide)).trans (pe hs rfl rfl)
    have ta_1_7 : a_1.eval (.tmp 7) = .pointer (some ⟨gr, 0, none⟩) := (hO_1 7 (by decide)).trans (pe hs rfl rfl)
    have ta_1_8 : a_1.eval (.tmp 8) = .tuple #[.slice A_1 (xs.length) (c_1), .int .i64 ((r : Nat) : Int)] := (hO_1 8 (by decide)).trans (pe hs rfl rfl)
    have ta_1_6 : a_1.eval (.tmp 6) = .tuple #[.slice A_1 (xs.length) (c_1), .int .i64 ((r : Nat) : Int)] := (hO_1 6 (by decide)).trans (pe hs rfl rfl)
    have ta_1_9 : a_1.eval (.tmp 9) = .slice A_1 (xs.length) (c_1) := (hO_1 9 (by decide)).trans (pe hs rfl rfl)
    have ta_1_10 : a_1.eval (.tmp 10) = .int .i64 ((r : Nat) : Int) := (hO_1 10 (by decide)).trans (pe hs rfl rfl)
    have ta_1_3 : a_1.eval (.tmp 3) = .slice A_1 (xs.length) (c_1) := (hO_1 3 (by decide)).trans (pe hs rfl rfl)
    have ta_1_4 : a_1.eval (.tmp 4) = .int .i64 ((r : Nat) : Int) := (hO_1 4 (by decide)).trans (pe hs rfl rfl)
    have ta_1_11 : a_1.eval (.tmp 11) = .int .i64 ((r : Nat) : Int) := (hO_1 11 (by decide)).trans (pe hs rfl rfl)
    have ta_1_12 : a_1.eval (.tmp 12) = .bool (!decide (r = 0)) := (hO_1 12 (by decide)).trans (pe hs rfl rfl)
    clear t0 hd
    replace hB_1 := hB_1.nx hb_1
    replace hC_1 := hC_1.nx hb_1
    replace hWt_1 := hWt_1.nx hb_1
    replace ho_1 := ho_1.nx hb_1
    have HB_2 := HB_1.then hb_1
    have ta_1_14 : a_1.eval (.tmp 14) = .slice A_1 (xs.length) (c_1) := hV_1 0 14 rfl rfl
    have ta_1_15 : a_1.eval (.tmp 15) = .pointer (atA A_1 (0)) := hV_1 1 15 rfl rfl
    have ta_1_16 : a_1.eval (.tmp 16) = .int .u8 ((xs.getD (0) 0 : Nat) : Int) := hV_1 2 16 rfl rfl
    have ta_1_17 : a_1.eval (.tmp 17) = .int .i64 ((xs.getD (0) 0 : Nat) : Int) := hV_1 3 17 rfl rfl
    have ta_1_18 : a_1.eval (.tmp 18) = .int .i64 (((xs.getD (0) 0) * 256 : Nat) : Int) := hV_1 4 18 rfl rfl
    have ta_1_19 : a_1.eval (.tmp 19) = .slice A_1 (xs.length) (c_1) := hV_1 5 19 rfl rfl
    have ta_1_20 : a_1.eval (.tmp 20) = .pointer (atA A_1 (1)) := hV_1 6 20 rfl rfl
    have ta_1_21 : a_1.eval (.tmp 21) = .int .u8 ((xs.getD (1) 0 : Nat) : Int) := hV_1 7 21 rfl rfl
    have ta_1_22 : a_1.eval (.tmp 22) = .int .i64 ((xs.getD (1) 0 : Nat) : Int) := hV_1 8 22 rfl rfl
    clear hV_1 hO_1
    simp only [List.drop_succ_cons, List.drop_zero]
    refine op_val (d := 23) (v := .int .i64 (((xs.getD (0) 0) * 256 + (xs.getD (1) 0) : Nat) : Int)) rfl rfl (o_or8 (m := (xs.getD (0) 0)) (n := (xs.getD (1) 0)) rfl ((pm rfl).trans ta_1_18) ((pm rfl).trans ta_1_22) (by omega) (by omega)) ?_
    refine op_val (d := 5) (v := .int .i64 ((lenOf xs : Nat) : Int)) rfl rfl (o_eq (o_assign rfl (pe hs_1 rfl rfl)) rfl) ?_
    refine x_nil ?_
    refine hK_6 _ _ ?_
    refine w2_seq (fun K_7 hK_7 => ?_)
    refine w2_seq (fun K_8 hK_8 => ?_)
    refine x_region (by kernel_rfl) ?_
    refine op_val (d := 24) (v := .int .i64 ((lenOf xs : Nat) : Int)) rfl rfl (o_move rfl (pe hs_1 rfl rfl)) ?_
    refine op_val (d := 25) (v := .int .i64 ((lenOf xs : Nat) : Int)) rfl rfl (o_move rfl (pe hs_1 rfl rfl)) ?_
    refine op_val (d := 26) (v := .int .i64 (((lenOf xs) / 2 : Nat) : Int)) rfl rfl (o_quo (m := (lenOf xs)) (n := 2) rfl (pe hs_1 rfl rfl) rfl (by omega) (IntWalk.i64_in _ (by omega))) ?_
    refine op_val (d := 27) (v := .int .i64 (((((lenOf xs) / 2) : Nat) : Int) - ((1 : Nat) : Int))) rfl rfl (o_subZ (m := ((lenOf xs) / 2)) (n := 1) rfl (pe hs_1 rfl rfl) rfl (by omega) (by omega)) ?_
    refine op_val (d := 28) (v := .int .i64 ((((lenOf xs) / 2) - 1 : Nat) : Int)) rfl rfl (o_max0 (m := ((lenOf xs) / 2)) (n := 1) rfl rfl (pe hs_1 rfl rfl)) ?_
    refine op_call (vs := #[.int .i64 ((((lenOf xs) / 2) - 1 : Nat) : Int)]) rfl rfl (exec_call Try.func44 (by kernel_rfl) (by kernel_rfl) _ rfl _ _ (args1 (pe hs_1 rfl rfl))) (Size_any _ _) (fun e_2 w_3 hR_2 => ?_)
    obtain ⟨rfl, rfl⟩ := hR_2
    refine ⟨_, rfl, ?_⟩
    refine op_val (d := 30) (v := .bool (!decide ((lenOf xs) = (sizeN (((lenOf xs) / 2) - 1))))) rfl rfl (o_neq (m := (lenOf xs)) (n := (sizeN (((lenOf xs) / 2) - 1))) rfl (pe hs_1 rfl rfl) (pe hs_1 rfl rfl)) ?_
    refine x_nil ?_
    refine hK_8 _ _ ?_
    refine w2_split (pe hs_1 rfl rfl) (fun h_2 => ?_) (fun h_2 => ?_)
    · simp only [decide_eq_true_eq, decide_eq_false_iff_not, Bool.not_eq_true', Bool.not_eq_false', Bool.not_true, Bool.not_false, Nat.not_lt, Nat.not_le] at h_2
      have hsz := h_2
      refine w2_seq (fun K_9 hK_9 => ?_)
      refine x_region (by kernel_rfl) ?_
      refine op_val (d := 2) (v := .int .i64 ((3 : Nat) : Int)) rfl rfl (o_assign rfl rfl) ?_
      refine x_nil ?_
      refine hK_9 _ _ ?_
      refine w2_ret ?_
      refine thn_ret ?_
      refine ret1 rfl hd_1 (pe hs_1 rfl rfl) ?_
      have hx2 := stepA2 (co := ⟨ks, num, ev, cnt⟩) (dead := dead) hnw hs0 hr0 hsz
      rw [hx] at hx2
      obtain rfl := Option.some.inj hx2
      have hs9 : Sep (blkA ((subA A 18 c))) N_1 := fun j hj hm => (nx_1.sep hsep hWt0.lt) j (blkA_sub hj) hm
      refine ⟨rfl, ⟨N_1, (subA A 18 c), c - 18, ⟨?_, ?_, hWt_1, hn_1, hs9⟩, nx_1, fun j hj => blkA_sub hj⟩, HB_2⟩
      · have h9 := hC_1; rw [if_pos hr0] at h9; exact h9
      · have h9 := hB_1; rw [← List.length_drop.trans (congrArg (· - 18) hwl)] at h9; exact h9
    · simp only [decide_eq_true_eq, decide_eq_false_iff_not, Bool.not_eq_true', Bool.not_eq_false', Bool.not_true, Bool.not_false, Nat.not_lt, Nat.not_le] at h_2
      have hsz : lenOf xs = sizeN (lenOf xs / 2 - 1) := by have h9 := h_2; omega
      refine w2_skip ?_
      refine hK_7 _ _ ?_
      refine w2_seq (fun K_10 hK_10 => ?_)
      refine x_region (by kernel_rfl) ?_
      refine op_val (d := 31) (v := .pointer (some ⟨gr, 0, none⟩)) rfl rfl (o_move rfl ((pm rfl).trans ta_1_0)) ?_
      refine op_val (d := 32) (v := .int .i64 ((lenOf xs : Nat) : Int)) rfl rfl (o_move rfl (pe hs_1 rfl rfl)) ?_
      refine op_val (d := 33) (v := .int .i64 (((lenOf xs) + 16 : Nat) : Int)) rfl rfl (o_add64 (m := (lenOf xs)) (n := 16) rfl (pe hs_1 rfl rfl) rfl (by omega)) ?_
      refine op_val (d := 34) (v := .pointer (some ⟨gr, 0, none⟩)) rfl rfl (o_nilCheck rfl (pe hs_1 rfl rfl)) ?_
      refine op_val (d := 35) (v := .pointer (some ⟨gr, 4, none⟩)) rfl rfl (o_field (k' := 4) rfl (pe hs_1 rfl rfl) (fun _ => by kernel_rfl)) ?_
      refine op_do rfl rfl (o_store1 rfl (pe hs_1 rfl rfl) (pe hs_1 rfl rfl) rfl rfl hB_1 (by simp only [List.length_cons, List.length_nil]; omega) ⟨by kernel_rfl, by kernel_rfl⟩) (fun w_4 hR_3 => ?_)
      obtain ⟨hB_2, hX_2⟩ := hR_3
      replace hC_1 := hC_1.keepX hX_2 hn_1
      replace hWt_1 := hWt_1.keepX hB_1 (by decide) hX_2
      replace ho_1 := ho_1.keepX hB_1 (by decide) hX_2
      have HB_3 := HB_2.step hX_2 (fun k hk (hY : k = gr) => .inl hY)
      clear hB_1
      simp only [List.set_cons_zero, List.set_cons_succ] at hB_2
      refine x_nil ?_
      refine hK_10 _ _ ?_
      refine w2_seq (fun K_11 hK_11 => ?_)
      refine x_region (by kernel_rfl) ?_
      refine op_val (d := 2) (v := .int .i64 ((0 : Nat) : Int)) rfl rfl (o_assign rfl rfl) ?_
      refine x_nil ?_
      refine hK_11 _ _ ?_
      refine w2_ret ?_
      refine ret1 rfl hd_1 (pe hs_1 rfl rfl) ?_
      have hx2 := stepA3 (co := ⟨ks, num, ev, cnt⟩) (dead := dead) hnw hs0 hr0 hsz
      rw [hx] at hx2
      obtain rfl := Option.some.inj hx2
      have hs9 : Sep (blkA ((subA A 18 c))) N_1 := fun j hj hm => (nx_1.sep hsep hWt0.lt) j (blkA_sub hj) hm
      refine ⟨rfl, ⟨N_1, (subA A 18 c), c - 18, ⟨?_, ?_, hWt_1, hn_1, hs9⟩, nx_1, fun j hj => blkA_sub hj⟩, HB_3⟩
      · have h9 := hC_1; rw [if_pos hr0] at h9; exact h9
      · have h9 := hB_2; rw [← List.length_drop.trans (congrArg (· - 18) hwl)] at h9; exact h9
theorem whole_any {N : Nat → Prop} {gr gc ev cnt num body c : Nat} {A : Option Addr} {ks ws : List Nat} {dead : Bool} {x : Rd × Nat × List (List Nat)} (w : World) (hP : ReaderP w N gr gc A c ⟨⟨ks, num, ev, cnt⟩, ws, body, dead⟩) (hnum : num < 9223372036854775807) (hx : stepR ⟨⟨ks, num, ev, cnt⟩, ws, body, dead⟩ = some x) (hb0 : 0 < body) (hnw : body ≤ ws.length) (hb6 : body ≤ 65535) (he1 : 1 ≤ ev) (hc1 : cnt < 4611686018427387904) :
    Calls Try.prog 85 #[.pointer (some ⟨gr, 0, none⟩)] w fun e w' => ((¬ x.2.1 = 0 ∧ x.2.2 = [] ∧ e = .returned (.tuple #[.slice none 0 0, .int .i64 ((x.2.1 : Nat) : Int)]) ∧ (∃ N' A' c', ReaderP w' N' gr gc A' c' x.1 ∧ NextM w N N' ∧ ∀ j, blkA A' j → blkA A j)) ∨ (x.2.1 = 0 ∧ ∃ (b : List Nat) (A1 : Option Addr) (c1 : Nat), x.2.2 = [b] ∧ e = .returned (.tuple #[.slice A1 b.length c1, .int .i64 0]) ∧ Own w' w.heap.size A1 c1 b ∧ (∃ N' A' c', ReaderP w' N' gr gc A' c' x.1 ∧ NextM w N N' ∧ (∀ j, blkA A' j → blkA A j) ∧ Sep (blkA A1) N'))) ∧ BelowX (fun j => j = gr ∨ j = gc) w w' := by
  obtain ⟨hC, hB, hWt, hn, hsep⟩ := hP
  have hWt0 := hWt
  obtain ⟨wl, hwl⟩ : ∃ q, ws.length = q := ⟨_, rfl⟩
  dsimp only at hC hB hWt
  rw [hwl] at hB
  obtain ⟨xs, r, hs0⟩ : ∃ xs r, openL ks (nonceL num) [] (ws.take body) = (xs, r) := ⟨_, _, rfl⟩
  have hxl := fun (h : r = 0) => openL_length hs0 h
  rw [List.length_take_of_le hnw] at hxl
  refine x_enter 34 Try.func85 rfl rfl (fun a hs hd ha0 => ?_)
  have t0 : a.eval (.tmp 0) = .pointer (some ⟨gr, 0, none⟩) := ha0 0 _ rfl
  clear ha0
  have HB0 : BelowX (fun j => j = gr ∨ j = gc) w w := BelowX.refl _ _
  refine w2_seq (fun K_1 hK_1 => ?_)
  refine x_region (by kernel_rfl) ?_
  refine op_val (d := 2) (v := .slice none (0) (0)) rfl rfl (o_assign rfl rfl) ?_
  refine op_val (d := 3) (v := .int .i64 ((0 : Nat) : Int)) rfl rfl (o_assign rfl rfl) ?_
  refine x_nil ?_
  refine hK_1 _ _ ?_
  refine w2_seq (fun K_2 hK_2 => ?_)
  refine x_region (by kernel_rfl) ?_
  refine op_val (d := 8) (v := .pointer (some ⟨gr, 0, none⟩)) rfl rfl (o_move rfl ((pm rfl).trans t0)) ?_
  refine op_val (d := 9) (v := .pointer (some ⟨gr, 0, none⟩)) rfl rfl (o_move rfl ((pm rfl).trans t0)) ?_
  refine op_val (d := 10) (v := .pointer (some ⟨gr, 0, none⟩)) rfl rfl (o_nilCheck rfl (pe hs rfl rfl)) ?_
  refine op_val (d := 11) (v := .pointer (some ⟨gr, 4, none⟩)) rfl rfl (o_field (k' := 4) rfl (pe hs rfl rfl) (fun _ => by kernel_rfl)) ?_
  refine op_val (d := 12) (v := .int .i64 ((body : Nat) : Int)) rfl rfl (o_load1 rfl (pe hs rfl rfl) hB rfl ⟨by kernel_rfl, by kernel_rfl⟩) ?_
  refine op_call (vs := #[.pointer (some ⟨gr, 0, none⟩), .int .i64 ((body : Nat) : Int)]) rfl rfl (exec_call Try.func117 (by kernel_rfl) (by kernel_rfl) _ rfl _ _ (args2 (pe hs rfl rfl) (pe hs rfl rfl))) (takes_any _ hB hC hWt hn hwl hnw (by omega) (by omega) hs0) (fun e_1 w_1 hR_1 => ?_)
  obtain ⟨A_1, c_1, rfl, ho_1, ⟨N_1, hC_1, hNx_1⟩, hB_1, hWt_1, hX_1⟩ := hR_1
  have hn_1 := hNx_1.not hn hB.lt
  have nx_1 := (NextM.refl w N).trans hNx_1 HB0.size
  replace ho_1 := ho_1.mono HB0.size
  have HB_1 := HB0.step hX_1 (fun k hk hY => hY)
  have hl_1 : (ws.drop body).length = wl - body := by rw [List.length_drop, hwl]
  refine ⟨_, rfl, ?_⟩
  refine op_val (d := 7) (v := .tuple #[.slice A_1 (xs.length) (c_1), .int .i64 ((r : Nat) : Int)]) rfl rfl (o_move rfl (pe hs rfl rfl)) ?_
  refine op_val (d := 14) (v := .slice A_1 (xs.length) (c_1)) rfl rfl (o_extract rfl (pe hs rfl rfl) rfl) ?_
  refine op_val (d := 15) (v := .int .i64 ((r : Nat) : Int)) rfl rfl (o_extract rfl (pe hs rfl rfl) rfl) ?_
  refine op_val (d := 4) (v := .slice A_1 (xs.length) (c_1)) rfl rfl (o_assign rfl (pe hs rfl rfl)) ?_
  refine op_val (d := 5) (v := .int .i64 ((r : Nat) : Int)) rfl rfl (o_assign rfl (pe hs rfl rfl)) ?_
  refine x_nil ?_
  refine hK_2 _ _ ?_
  refine w2_seq (fun K_3 hK_3 => ?_)
  refine w2_seq (fun K_4 hK_4 => ?_)
  refine x_region (by kernel_rfl) ?_
  refine op_val (d := 16) (v := .int .i64 ((r : Nat) : Int)) rfl rfl (o_move rfl (pe hs rfl rfl)) ?_
  refine op_val (d := 17) (v := .bool (!decide (r = 0))) rfl rfl (o_neq (m := r) (n := 0) rfl (pe hs rfl rfl) rfl) ?_
  refine x_nil ?_
  refine hK_4 _ _ ?_
  refine w2_split (pe hs rfl rfl) (fun h_1 => ?_) (fun h_1 => ?_)
  · simp only [decide_eq_true_eq, decide_eq_false_iff_not, Bool.not_eq_true', Bool.not_eq_false', Bool.not_true, Bool.not_false, Nat.not_lt, Nat.not_le] at h_1
    have hr0 : ¬ r = 0 := h_1
    refine w2_seq (fun K_5 hK_5 => ?_)
    refine x_region (by kernel_rfl) ?_
    refine op_val (d := 18) (v := .int .i64 ((r : Nat) : Int)) rfl rfl (o_move rfl (pe hs rfl rfl)) ?_
    refine op_val (d := 2) (v := .slice none (0) (0)) rfl rfl (o_assign rfl rfl) ?_
    refine op_val (d := 3) (v := .int .i64 ((r : Nat) : Int)) rfl rfl (o_assign rfl (pe hs rfl rfl)) ?_
    refine x_nil ?_
    refine hK_5 _ _ ?_
    refine w2_ret ?_
    refine thn_ret ?_
    refine ret2 rfl hd (pe hs rfl rfl) (pe hs rfl rfl) ?_
    have hx2 := stepB1 (co := ⟨ks, num, ev, cnt⟩) (dead := dead) hb0 hnw hs0 hr0
    rw [hx] at hx2
    obtain rfl := Option.some.inj hx2
    have hs9 : Sep (blkA ((subA A body c))) N_1 := fun j hj hm => (nx_1.sep hsep hWt0.lt) j (blkA_sub hj) hm
    refine ⟨.inl ⟨hr0, rfl, rfl, ⟨N_1, (subA A body c), c - body, ⟨?_, ?_, hWt_1, hn_1, hs9⟩, nx_1, fun j hj => blkA_sub hj⟩⟩, HB_1⟩
    · have h9 := hC_1; rw [if_neg hr0] at h9; exact h9
    · have h9 := hB_1; rw [← List.length_drop.trans (congrArg (· - body) hwl)] at h9; exact h9
  · simp only [decide_eq_true_eq, decide_eq_false_iff_not, Bool.not_eq_true', Bool.not_eq_false', Bool.not_true, Bool.not_false, Nat.not_lt, Nat.not_le] at h_1
    have hr0 : r = 0 := by have h9 := h_1; omega
    have hxl2 := hxl hr0
    refine w2_skip ?_
    refine hK_3 _ _ ?_
    refine w2_seq (fun K_6 hK_6 => ?_)
    rcases hu : unwrapL xs with _ | b
    · skip
      refine x_region (by kernel_rfl) ?_
      refine op_val (d := 20) (v := .slice A_1 (xs.length) (c_1)) rfl rfl (o_move rfl (pe hs rfl rfl)) ?_
      refine op_call (vs := #[.slice A_1 (xs.length) (c_1)]) rfl rfl (exec_call Try.func118 (by kernel_rfl) (by kernel_rfl) _ rfl _ _ (args1 (pe hs rfl rfl))) (Unwrap_none _ (ho_1).bs rfl (by omega) hu) (fun e_2 w_2 hR_2 => ?_)
      obtain ⟨q_1, hq_1, rfl, hb_1⟩ := hR_2
      replace hB_1 := hB_1.nx hb_1
      replace hC_1 := hC_1.nx hb_1
      replace hWt_1 := hWt_1.nx hb_1
      replace ho_1 := ho_1.nx hb_1
      have HB_2 := HB_1.then hb_1
      refine ⟨_, rfl, ?_⟩
      refine op_val (d := 19) (v := .tuple #[.slice none (0) (0), .int .i64 ((q_1 : Nat) : Int)]) rfl rfl (o_move rfl (pe hs rfl rfl)) ?_
      refine op_val (d := 22) (v := .slice none (0) (0)) rfl rfl (o_extract rfl (pe hs rfl rfl) rfl) ?_
      refine op_val (d := 23) (v := .int .i64 ((q_1 : Nat) : Int)) rfl rfl (o_extract rfl (pe hs rfl rfl) rfl) ?_
      refine op_val (d := 6) (v := .slice none (0) (0)) rfl rfl (o_assign rfl (pe hs rfl rfl)) ?_
      refine op_val (d := 5) (v := .int .i64 ((q_1 : Nat) : Int)) rfl rfl (o_assign rfl (pe hs rfl rfl)) ?_
      refine x_nil ?_
      refine hK_6 _ _ ?_
      refine w2_seq (fun K_7 hK_7 => ?_)
      refine w2_seq (fun K_8 hK_8 => ?_)
      refine x_region (by kernel_rfl) ?_
      refine op_val (d := 24) (v := .int .i64 ((q_1 : Nat) : Int)) rfl rfl (o_move rfl (pe hs rfl rfl)) ?_
      refine op_val (d := 25) (v := .bool (true)) rfl rfl (o_eq (o_neq (m := q_1) (n := 0) rfl (pe hs rfl rfl) rfl) (by simp [hq_1])) ?_
      refine x_nil ?_
      refine hK_8 _ _ ?_
      refine w2_condT (pe hs rfl rfl) ?_
      refine w2_seq (fun K_9 hK_9 => ?_)
      refine x_region (by kernel_rfl) ?_
      refine op_val (d := 2) (v := .slice none (0) (0)) rfl rfl (o_assign rfl rfl) ?_
      refine op_val (d := 3) (v := .int .i64 ((3 : Nat) : Int)) rfl rfl (o_assign rfl rfl) ?_
      refine x_nil ?_
      refine hK_9 _ _ ?_
      refine w2_ret ?_
      refine thn_ret ?_
      refine ret2 rfl hd (pe hs rfl rfl) (pe hs rfl rfl) ?_
      have hx2 := stepB2 (co := ⟨ks, num, ev, cnt⟩) (dead := dead) hb0 hnw hs0 hr0 hu
      rw [hx] at hx2
      obtain rfl := Option.some.inj hx2
      have hs9 : Sep (blkA ((subA A body c))) N_1 := fun j hj hm => (nx_1.sep hsep hWt0.lt) j (blkA_sub hj) hm
      refine ⟨.inl ⟨show ¬ (3 : Nat) = 0 by decide, rfl, rfl, ⟨N_1, (subA A body c), c - body, ⟨?_, ?_, hWt_1, hn_1, hs9⟩, nx_1, fun j hj => blkA_sub hj⟩⟩, HB_2⟩
      · have h9 := hC_1; rw [if_pos hr0] at h9; exact h9
      · have h9 := hB_1; rw [← List.length_drop.trans (congrArg (· - body) hwl)] at h9; exact h9
    · skip
      refine x_region (by kernel_rfl) ?_
      refine op_val (d := 20) (v := .slice A_1 (xs.length) (c_1)) rfl rfl (o_move rfl (pe hs rfl rfl)) ?_
      refine op_call (vs := #[.slice A_1 (xs.length) (c_1)]) rfl rfl (exec_call Try.func118 (by kernel_rfl) (by kernel_rfl) _ rfl _ _ (args1 (pe hs rfl rfl))) (Unwrap_some _ (ho_1).bs rfl (by omega) hu) (fun e_3 w_3 hR_3 => ?_)
      obtain ⟨A_2, c_2, rfl, ho_2, hb_2⟩ := hR_3
      have gz_1 := ho_2.ge'
      have sp_1 : Sep (blkA A_2) N_1 := (Sep.new hC_1.lt gz_1).symm
      replace ho_2 := ho_2.mono HB_1.size
      replace hB_1 := hB_1.nx hb_2
      replace hC_1 := hC_1.nx hb_2
      replace hWt_1 := hWt_1.nx hb_2
      replace ho_1 := ho_1.nx hb_2
      have HB_3 := HB_1.then hb_2
      refine ⟨_, rfl, ?_⟩
      refine op_val (d := 19) (v := .tuple #[.slice A_2 (b.length) (c_2), .int .i64 ((0 : Nat) : Int)]) rfl rfl (o_move rfl (pe hs rfl rfl)) ?_
      refine op_val (d := 22) (v := .slice A_2 (b.length) (c_2)) rfl rfl (o_extract rfl (pe hs rfl rfl) rfl) ?_
      refine op_val (d := 23) (v := .int .i64 ((0 : Nat) : Int)) rfl rfl (o_extract rfl (pe hs rfl rfl) rfl) ?_
      refine op_val (d := 6) (v := .slice A_2 (b.length) (c_2)) rfl rfl (o_assign rfl (pe hs rfl rfl)) ?_
      refine op_val (d := 5) (v := .int .i64 ((0 : Nat) : Int)) rfl rfl (o_assign rfl (pe hs rfl rfl)) ?_
      refine x_nil ?_
      refine hK_6 _ _ ?_
      refine w2_seq (fun K_10 hK_10 => ?_)
      refine w2_seq (fun K_11 hK_11 => ?_)
      refine x_region (by kernel_rfl) ?_
      refine op_val (d := 24) (v := .int .i64 ((0 : Nat) : Int)) rfl rfl (o_move rfl (pe hs rfl rfl)) ?_
      refine op_val (d := 25) (v := .bool (false)) rfl rfl (o_eq (o_eq (o_neq (m := 0) (n := 0) rfl (pe hs rfl rfl) rfl) rfl) rfl) ?_
      refine x_nil ?_
      refine hK_11 _ _ ?_
      refine w2_condF (pe hs rfl rfl) ?_
      refine w2_skip ?_
      refine hK_10 _ _ ?_
      refine w2_seq (fun K_12 hK_12 => ?_)
      refine x_region (by kernel_rfl) ?_
      refine op_val (d := 26) (v := .pointer (some ⟨gr, 0, none⟩)) rfl rfl (o_move rfl ((pm rfl).trans t0)) ?_
      refine op_val (d := 27) (v := .pointer (some ⟨gr, 0, none⟩)) rfl rfl (o_nilCheck rfl (pe hs rfl rfl)) ?_
      refine op_val (d := 28) (v := .pointer (some ⟨gr, 4, none⟩)) rfl rfl (o_field (k' := 4) rfl (pe hs rfl rfl) (fun _ => by kernel_rfl)) ?_
      refine op_do rfl rfl (o_store1 rfl (pe hs rfl rfl) rfl rfl rfl hB_1 (by simp only [List.length_cons, List.length_nil]; omega) ⟨by kernel_rfl, by kernel_rfl⟩) (fun w_4 hR_4 => ?_)
      obtain ⟨hB_2, hX_2⟩ := hR_4
      replace hC_1 := hC_1.keepX hX_2 hn_1
      replace hWt_1 := hWt_1.keepX hB_1 (by decide) hX_2
      replace ho_1 := ho_1.keepX hB_1 (by decide) hX_2
      replace ho_2 := ho_2.keepX hB_1 (by decide) hX_2
      have HB_4 := HB_3.step hX_2 (fun k hk (hY : k = gr) => .inl hY)
      clear hB_1
      simp only [List.set_cons_zero, List.set_cons_succ] at hB_2
      refine x_nil ?_
      refine hK_12 _ _ ?_
      refine w2_seq (fun K_13 hK_13 => ?_)
      refine x_region (by kernel_rfl) ?_
      refine op_val (d := 29) (v := .pointer (some ⟨gr, 0, none⟩)) rfl rfl (o_move rfl ((pm rfl).trans t0)) ?_
      refine op_val (d := 30) (v := .pointer (some ⟨gr, 0, none⟩)) rfl rfl (o_nilCheck rfl (pe hs rfl rfl)) ?_
      refine op_val (d := 31) (v := .pointer (some ⟨gr, 0, none⟩)) rfl rfl (o_field (k' := 0) rfl (pe hs rfl rfl) (fun _ => by kernel_rfl)) ?_
      refine op_call (vs := #[.pointer (some ⟨gr, 0, none⟩)]) rfl rfl (exec_call Try.func82 (by kernel_rfl) (by kernel_rfl) _ rfl _ _ (args1 (pe hs rfl rfl))) (count_r _ hB_2 hC_1 hn_1 (by omega) (by omega)) (fun e_4 w_5 hR_5 => ?_)
      obtain ⟨rfl, ⟨N_2, hC_2, hNx_2⟩, hB_3, hX_3⟩ := hR_5
      have hn_2 := hNx_2.not hn_1 hB_2.lt
      replace hWt_1 := hWt_1.keep2 hB_2 (by decide) hC_1 hX_3
      replace ho_1 := ho_1.keep2 hB_2 (by decide) hC_1 hX_3
      have sp_2 := hNx_2.sep sp_1 ho_2.lt
      replace ho_2 := ho_2.keep2 hB_2 (by decide) hC_1 hX_3
      have nx_2 := nx_1.trans hNx_2 HB_4.size
      have HB_5 := HB_4.step hX_3 (fun k hk hY => hY)
      refine ⟨_, rfl, ?_⟩
      refine x_nil ?_
      refine hK_13 _ _ ?_
      refine w2_seq (fun K_14 hK_14 => ?_)
      refine x_region (by kernel_rfl) ?_
      refine op_val (d := 33) (v := .slice A_2 (b.length) (c_2)) rfl rfl (o_move rfl (pe hs rfl rfl)) ?_
      refine op_val (d := 2) (v := .slice A_2 (b.length) (c_2)) rfl rfl (o_assign rfl (pe hs rfl rfl)) ?_
      refine op_val (d := 3) (v := .int .i64 ((0 : Nat) : Int)) rfl rfl (o_assign rfl rfl) ?_
      refine x_nil ?_
      refine hK_14 _ _ ?_
      refine w2_ret ?_
      refine ret2 rfl hd (pe hs rfl rfl) (pe hs rfl rfl) ?_
      have hx2 := stepB3 (co := ⟨ks, num, ev, cnt⟩) (dead := dead) hb0 hnw hs0 hr0 hu
      rw [hx] at hx2
      obtain rfl := Option.some.inj hx2
      have hs9 : Sep (blkA ((subA A body c))) N_2 := fun j hj hm => (nx_2.sep hsep hWt0.lt) j (blkA_sub hj) hm
      refine ⟨.inr ⟨rfl, b, _, _, rfl, rfl, ho_2, ⟨N_2, (subA A body c), c - body, ⟨?_, ?_, hWt_1, hn_2, hs9⟩, nx_2, fun j hj => blkA_sub hj, sp_2⟩⟩, HB_5⟩
      · have h9 := hC_2; rw [if_pos hr0] at h9; exact h9
      · have h9 := hB_3; rw [← List.length_drop.trans (congrArg (· - body) hwl)] at h9; exact h9
end Go.Proofs.Ytoiamaljkodlnaa
