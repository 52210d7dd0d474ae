/-
  RECORDS, PLAINLY: what a writer writes, what a reader reads of it; no program in sight.
-/
import Derived.Test.YtoiamaljkodlnaaAeadMath
import Derived.Test.YtoiamaljkodlnaaPad
namespace Go.Proofs.Ytoiamaljkodlnaa
open Go.RowKit
set_option linter.unusedVariables false
set_option linter.unusedSimpArgs false
set_option maxRecDepth 100000

/-! Padding. -/
def lenL (n : Nat) : List Nat := [n / 256 % 256, n % 256]
def wrapL (b : List Nat) : List Nat := lenL b.length ++ b ++ List.replicate (sizeN b.length - 2 - b.length) 0
/-- The number that the first two bytes are. -/
def lenOf (x : List Nat) : Nat := x.getD 0 0 * 256 + x.getD 1 0
def unwrapL (x : List Nat) : Option (List Nat) :=
  if x.length < 2 then none else if x.length ≠ sizeN (lenOf x) then none else if (x.drop (2 + lenOf x)).all (fun v => v == 0) = true then some ((x.drop 2).take (lenOf x)) else none
theorem lenL_length (n : Nat) : (lenL n).length = 2 := rfl
theorem lenOf_lenL (n : Nat) (h : n < 65536) (ys : List Nat) : lenOf (lenL n ++ ys) = n := by
  unfold lenOf lenL
  simp
  omega
theorem sizeN_le {n : Nat} (h : n ≤ 4096) : sizeN n = 64 * 2 ^ padK n := by unfold sizeN; rw [if_neg (by omega)]
theorem sizeN_fit {n : Nat} (h : n ≤ 4096) : n + 2 ≤ sizeN n := by rw [sizeN_le h]; exact padK_fit n h
theorem sizeN_top (n : Nat) : sizeN n ≤ 8192 := by
  unfold sizeN
  split
  · omega
  · have h := padK_le n
    have h2 : 2 ^ padK n ≤ 2 ^ 7 := Nat.pow_le_pow_right (by omega) h
    omega
theorem sizeN_pos {n : Nat} (h : n ≤ 4096) : 64 ≤ sizeN n := by
  rw [sizeN_le h]
  have : 0 < 2 ^ padK n := Nat.two_pow_pos _
  omega
theorem sizeN_fix {n : Nat} (h : n ≤ 4096) : sizeN (sizeN n / 2 - 1) = sizeN n := by
  rw [sizeN_le h]
  have h7 := padK_le n
  generalize padK n = K at h7
  have hK : K = 0 ∨ K = 1 ∨ K = 2 ∨ K = 3 ∨ K = 4 ∨ K = 5 ∨ K = 6 ∨ K = 7 := by omega
  rcases hK with rfl | rfl | rfl | rfl | rfl | rfl | rfl | rfl <;> rfl
theorem wrapL_length {b : List Nat} (h : b.length ≤ 4096) : (wrapL b).length = sizeN b.length := by
  have := sizeN_fit h
  unfold wrapL
  simp only [List.length_append, List.length_replicate, lenL_length]
  omega
theorem unwrapL_wrapL {b : List Nat} (h : b.length ≤ 4096) : unwrapL (wrapL b) = some b := by
  have h1 := sizeN_fit h
  have h2 : lenOf (wrapL b) = b.length := by unfold wrapL; rw [List.append_assoc]; exact lenOf_lenL _ (by omega) _
  unfold unwrapL
  rw [if_neg (by rw [wrapL_length h]; omega), h2, if_neg (by rw [wrapL_length h]; simp), if_pos]
  · unfold wrapL
    rw [List.append_assoc, List.drop_left' (lenL_length _), List.take_left]
  · unfold wrapL
    rw [List.drop_left' (by simp [lenL_length])]
    simp

/-! A cipher that counts. -/
structure Co where
  k : List Nat
  n : Nat
  every : Nat
  cnt : Nat
def rekeyL (k : List Nat) : List Nat := (sealL k (nonceL 18446744073709551615) [] (List.replicate 32 0)).take 32
theorem rekeyL_length (k : List Nat) : (rekeyL k).length = 32 := by unfold rekeyL; rw [List.length_take, sealL_length, List.length_replicate]; rfl
def Co.up (c : Co) (j : Nat) : Co := { c with n := c.n + j }
def Co.count (c : Co) : Co := { c with k := if (c.cnt + 1) % c.every = 0 then rekeyL c.k else c.k, cnt := c.cnt + 1 }
def Co.put (c : Co) : Co := (c.up 2).count
def headL (c : Co) (b : List Nat) : List Nat := sealL c.k (nonceL c.n) [] (lenL (sizeN b.length))
def bodyL (c : Co) (b : List Nat) : List Nat := sealL c.k (nonceL (c.n + 1)) [] (wrapL b)
def recL (c : Co) (b : List Nat) : List Nat := headL c b ++ bodyL c b
theorem headL_length (c : Co) (b : List Nat) : (headL c b).length = 18 := by unfold headL; rw [sealL_length]; rfl
theorem bodyL_length (c : Co) {b : List Nat} (h : b.length ≤ 4096) : (bodyL c b).length = sizeN b.length + 16 := by unfold bodyL; rw [sealL_length, wrapL_length h]
theorem recL_length (c : Co) {b : List Nat} (h : b.length ≤ 4096) : (recL c b).length = sizeN b.length + 34 := by unfold recL; rw [List.length_append, headL_length, bodyL_length c h]; omega
theorem put_n (c : Co) : c.put.n = c.n + 2 := rfl
theorem put_cnt (c : Co) : c.put.cnt = c.cnt + 1 := rfl
theorem put_every (c : Co) : c.put.every = c.every := rfl
theorem put_key {c : Co} (h : c.k.length = 32) : c.put.k.length = 32 := by
  show (if _ then _ else _ : List Nat).length = 32
  split
  · exact rekeyL_length _
  · exact h
theorem recL_inj (c : Co) {a b : List Nat} (hl : a.length = b.length) (h : a.length ≤ 4096) : recL c a = recL c b ↔ a = b := by
  constructor
  · intro he
    unfold recL at he
    have h1 : bodyL c a = bodyL c b := (List.append_inj he (by rw [headL_length, headL_length])).2
    unfold bodyL at h1
    have h2 := openL_sealL c.k (nonceL (c.n + 1)) [] (wrapL a)
    rw [h1, openL_sealL] at h2
    have h3 : wrapL b = wrapL a := congrArg Prod.fst h2
    have h4 := unwrapL_wrapL h
    rw [← h3, unwrapL_wrapL (by omega)] at h4
    exact (Option.some.inj h4).symm
  · rintro rfl; rfl

/-! A reader. -/
structure Rd where
  co : Co
  wait : List Nat
  body : Nat
  dead : Bool
/-- One step of a reader: what it is then, what went wrong, what it tells. -/
def stepR (r : Rd) : Option (Rd × Nat × List (List Nat)) :=
  if r.body = 0 then
    if r.wait.length < 18 then none
    else
      let o := openL r.co.k (nonceL r.co.n) [] (r.wait.take 18)
      if o.2 ≠ 0 then some ({ r with wait := r.wait.drop 18 }, o.2, [])
      else if lenOf o.1 ≠ sizeN (lenOf o.1 / 2 - 1) then some ({ r with wait := r.wait.drop 18, co := r.co.up 1 }, 3, [])
      else some ({ r with wait := r.wait.drop 18, co := r.co.up 1, body := lenOf o.1 + 16 }, 0, [])
  else
    if r.wait.length < r.body then none
    else
      let o := openL r.co.k (nonceL r.co.n) [] (r.wait.take r.body)
      if o.2 ≠ 0 then some ({ r with wait := r.wait.drop r.body }, o.2, [])
      else match unwrapL o.1 with
        | none => some ({ r with wait := r.wait.drop r.body, co := r.co.up 1 }, 3, [])
        | some b => some ({ r with wait := r.wait.drop r.body, co := (r.co.up 1).count, body := 0 }, 0, [b])
def Rd.die (r : Rd) : Rd := { r with dead := true, wait := [] }
def runR : Nat → Rd → List (List Nat) → Rd × Nat × List (List Nat)
  | 0, r, out => (r, 0, out)
  | f + 1, r, out => match stepR r with
    | none => (r, 0, out)
    | some x => if x.2.1 ≠ 0 then (x.1.die, x.2.1, out) else runR f x.1 (out ++ x.2.2)
def Rd.more (r : Rd) (b : List Nat) : Rd := { r with wait := r.wait ++ b }
def feedR (r : Rd) (b : List Nat) : Rd × Nat × List (List Nat) := runR ((r.more b).wait.length + 1) (r.more b) []

theorem stepR_lt {r : Rd} {x : Rd × Nat × List (List Nat)} (h : stepR r = some x) : x.1.wait.length < r.wait.length := by
  unfold stepR at h
  split at h
  · split at h
    · cases h
    · rename_i h18
      dsimp only at h
      split at h
      · cases h; simp only [List.length_drop]; omega
      · split at h <;> (cases h; simp only [List.length_drop]; omega)
  · rename_i hb
    split at h
    · cases h
    · dsimp only at h
      split at h
      · cases h; simp only [List.length_drop]; omega
      · split at h <;> (cases h; simp only [List.length_drop]; omega)
theorem stepR_more {r : Rd} {x : Rd × Nat × List (List Nat)} (b : List Nat) (h : stepR r = some x) : stepR (r.more b) = some (x.1.more b, x.2) := by
  obtain ⟨co, wait, body, dead⟩ := r
  show stepR ⟨co, wait ++ b, body, dead⟩ = _
  unfold stepR at h ⊢
  dsimp only at h ⊢
  by_cases hb : body = 0
  · rw [if_pos hb] at h ⊢
    by_cases h18 : wait.length < 18
    · rw [if_pos h18] at h; cases h
    · have e1 : (wait ++ b).take 18 = wait.take 18 := List.take_append_of_le_length (by omega)
      have e2 : (wait ++ b).drop 18 = wait.drop 18 ++ b := List.drop_append_of_le_length (by omega)
      rw [if_neg h18] at h
      rw [if_neg (by rw [List.length_append]; omega), e1, e2]
      generalize openL co.k (nonceL co.n) [] (wait.take 18) = q at h ⊢
      by_cases h0 : q.2 ≠ 0
      · rw [if_pos h0] at h ⊢
        cases h; rfl
      · rw [if_neg h0] at h ⊢
        by_cases h1 : lenOf q.1 ≠ sizeN (lenOf q.1 / 2 - 1)
        · rw [if_pos h1] at h ⊢
          cases h; rfl
        · rw [if_neg h1] at h ⊢
          cases h; rfl
  · rw [if_neg hb] at h ⊢
    by_cases h18 : wait.length < body
    · rw [if_pos h18] at h; cases h
    · have e1 : (wait ++ b).take body = wait.take body := List.take_append_of_le_length (by omega)
      have e2 : (wait ++ b).drop body = wait.drop body ++ b := List.drop_append_of_le_length (by omega)
      rw [if_neg h18] at h
      rw [if_neg (by rw [List.length_append]; omega), e1, e2]
      generalize openL co.k (nonceL co.n) [] (wait.take body) = q at h ⊢
      by_cases h0 : q.2 ≠ 0
      · rw [if_pos h0] at h ⊢
        cases h; rfl
      · rw [if_neg h0] at h ⊢
        generalize unwrapL q.1 = u at h ⊢
        cases u with
        | none => cases h; rfl
        | some y => cases h; rfl
theorem runR_fuel : ∀ (f g : Nat) (r : Rd) (out : List (List Nat)), r.wait.length < f → r.wait.length < g → runR f r out = runR g r out
  | 0, _, _, _, h, _ => absurd h (by omega)
  | _ + 1, 0, _, _, _, h => absurd h (by omega)
  | f + 1, g + 1, r, out, h, h2 => by
    unfold runR
    cases hs : stepR r with
    | none => rfl
    | some x =>
      have := stepR_lt hs
      dsimp only
      split
      · rfl
      · exact runR_fuel f g _ _ (by omega) (by omega)
theorem runR_out : ∀ (f : Nat) (r : Rd) (out : List (List Nat)), runR f r out = ((runR f r []).1, (runR f r []).2.1, out ++ (runR f r []).2.2)
  | 0, r, out => by simp [runR]
  | f + 1, r, out => by
    unfold runR
    cases hs : stepR r with
    | none => simp
    | some x =>
      dsimp only
      split
      · simp
      · rw [runR_out f x.1 (out ++ x.2.2), runR_out f x.1 ([] ++ x.2.2)]
        simp [List.append_assoc]
theorem runR_more : ∀ (f : Nat) (r : Rd) (b : List Nat), r.wait.length < f → (runR f r []).2.1 = 0 →
    runR (f + b.length) (r.more b) [] = ((feedR (runR f r []).1 b).1, (feedR (runR f r []).1 b).2.1, (runR f r []).2.2 ++ (feedR (runR f r []).1 b).2.2)
  | 0, _, _, h, _ => absurd h (by omega)
  | f + 1, r, b, h, h0 => by
    have hl : (r.more b).wait.length = r.wait.length + b.length := List.length_append
    cases hs : stepR r with
    | none =>
      have e : runR (f + 1) r [] = (r, 0, []) := by unfold runR; rw [hs]
      rw [e]
      dsimp only
      unfold feedR
      rw [List.nil_append, runR_fuel (f + 1 + b.length) ((r.more b).wait.length + 1) _ _ (by omega) (by omega)]
    | some x =>
      have hlt := stepR_lt hs
      have e : runR (f + 1) r [] = if x.2.1 ≠ 0 then (x.1.die, x.2.1, []) else runR f x.1 ([] ++ x.2.2) := by
        conv => lhs; unfold runR
        rw [hs]
      rw [e] at h0
      by_cases hx : x.2.1 ≠ 0
      · rw [if_pos hx] at h0; exact absurd h0 hx
      · rw [if_neg hx] at h0
        have e2 : runR (f + 1) r [] = runR f x.1 ([] ++ x.2.2) := by rw [e, if_neg hx]
        have e3 : runR (f + 1 + b.length) (r.more b) [] = runR (f + b.length) (x.1.more b) ([] ++ x.2.2) := by
          rw [show f + 1 + b.length = (f + b.length) + 1 by omega]
          conv => lhs; unfold runR
          rw [stepR_more b hs]
          dsimp only
          rw [if_neg hx]
        rw [runR_out f x.1 ([] ++ x.2.2)] at e2 h0
        rw [runR_out (f + b.length) (x.1.more b) ([] ++ x.2.2), runR_more f x.1 b (by omega) h0] at e3
        rw [e3, e2]
        simp [List.append_assoc]
theorem runR_bad : ∀ (f : Nat) (r : Rd) (b : List Nat), r.wait.length < f → (runR f r []).2.1 ≠ 0 → (runR (f + b.length) (r.more b) []).2.1 ≠ 0
  | 0, _, _, h, _ => absurd h (by omega)
  | f + 1, r, b, h, h0 => by
    cases hs : stepR r with
    | none =>
      have e : runR (f + 1) r [] = (r, 0, []) := by unfold runR; rw [hs]
      rw [e] at h0
      exact absurd rfl h0
    | some x =>
      have hlt := stepR_lt hs
      have e : runR (f + 1) r [] = if x.2.1 ≠ 0 then (x.1.die, x.2.1, []) else runR f x.1 ([] ++ x.2.2) := by
        conv => lhs; unfold runR
        rw [hs]
      have e3 : runR (f + 1 + b.length) (r.more b) [] = if x.2.1 ≠ 0 then ((x.1.more b).die, x.2.1, []) else runR (f + b.length) (x.1.more b) ([] ++ x.2.2) := by
        rw [show f + 1 + b.length = (f + b.length) + 1 by omega]
        conv => lhs; unfold runR
        rw [stepR_more b hs]
      rw [e3]
      by_cases hx : x.2.1 ≠ 0
      · rw [if_pos hx]; exact hx
      · rw [if_neg hx]
        rw [e, if_neg hx, runR_out] at h0
        rw [runR_out]
        exact runR_bad f x.1 b (by omega) h0
/-- What a reader that has read nothing comes to by so many bytes. -/
def allR (r : Rd) (s : List Nat) : Rd × Nat × List (List Nat) := feedR r s
theorem more_more (r : Rd) (a b : List Nat) : (r.more a).more b = r.more (a ++ b) := by unfold Rd.more; simp [List.append_assoc]
/-- In pieces as at once. -/
theorem feedR_split (r : Rd) (a b : List Nat) (h : (feedR r a).2.1 = 0) : feedR r (a ++ b) = ((feedR (feedR r a).1 b).1, (feedR (feedR r a).1 b).2.1, (feedR r a).2.2 ++ (feedR (feedR r a).1 b).2.2) := by
  have h1 := runR_more _ (r.more a) b (Nat.lt_succ_self _) h
  have e : runR ((r.more a).wait.length + 1 + b.length) ((r.more a).more b) [] = feedR r (a ++ b) := by
    rw [more_more]
    have : (r.more (a ++ b)).wait.length = (r.more a).wait.length + b.length := by unfold Rd.more; simp only [List.length_append]; omega
    unfold feedR
    exact runR_fuel _ _ _ _ (by omega) (by omega)
  exact e.symm.trans h1
theorem feedR_good (r : Rd) (a b : List Nat) (h : (feedR r (a ++ b)).2.1 = 0) : (feedR r a).2.1 = 0 := by
  refine Decidable.byContradiction fun hne => ?_
  have h1 := runR_bad _ (r.more a) b (Nat.lt_succ_self _) hne
  have e : runR ((r.more a).wait.length + 1 + b.length) ((r.more a).more b) [] = feedR r (a ++ b) := by
    rw [more_more]
    have : (r.more (a ++ b)).wait.length = (r.more a).wait.length + b.length := by unfold Rd.more; simp only [List.length_append]; omega
    unfold feedR
    exact runR_fuel _ _ _ _ (by omega) (by omega)
  rw [e] at h1
  exact h1 h

/-! What a writer writes is read. -/
def Rd.at0 (c : Co) (s : List Nat) : Rd := ⟨c, s, 0, false⟩
theorem step_head (c : Co) {b : List Nat} (hb : b.length ≤ 4096) (s : List Nat) : stepR (Rd.at0 c (headL c b ++ s)) = some (⟨c.up 1, s, sizeN b.length + 16, false⟩, 0, []) := by
  have h18 := headL_length c b
  unfold stepR Rd.at0
  rw [if_pos rfl, if_neg (by show ¬ (headL c b ++ s).length < 18; rw [List.length_append]; omega)]
  have e1 : (headL c b ++ s).take 18 = headL c b := List.take_left' h18
  have e2 : (headL c b ++ s).drop 18 = s := List.drop_left' h18
  have e3 : openL c.k (nonceL c.n) [] (headL c b) = (lenL (sizeN b.length), 0) := openL_sealL _ _ _ _
  have e4 : lenOf (lenL (sizeN b.length)) = sizeN b.length := by
    have h := lenOf_lenL (sizeN b.length) (Nat.lt_of_le_of_lt (sizeN_top _) (by omega)) []
    rwa [List.append_nil] at h
  dsimp only
  rw [e1, e2, e3]
  dsimp only
  rw [if_neg (by simp), e4, if_neg (by rw [sizeN_fix hb]; simp)]
theorem step_body (c : Co) {b : List Nat} (hb : b.length ≤ 4096) (s : List Nat) : stepR ⟨c.up 1, bodyL c b ++ s, sizeN b.length + 16, false⟩ = some (Rd.at0 c.put s, 0, [b]) := by
  have h18 := bodyL_length c hb
  unfold stepR
  dsimp only
  rw [if_neg (by omega), if_neg (by rw [List.length_append]; omega)]
  have e1 : (bodyL c b ++ s).take (sizeN b.length + 16) = bodyL c b := List.take_left' h18
  have e2 : (bodyL c b ++ s).drop (sizeN b.length + 16) = s := List.drop_left' h18
  have e3 : openL (c.up 1).k (nonceL (c.up 1).n) [] (bodyL c b) = (wrapL b, 0) := openL_sealL _ _ _ _
  rw [e1, e2, e3]
  dsimp only
  rw [if_neg (by simp), unwrapL_wrapL hb]
  rfl
theorem run_rec (c : Co) {b : List Nat} (hb : b.length ≤ 4096) (s : List Nat) (f : Nat) (out : List (List Nat)) : runR (f + 2) (Rd.at0 c (recL c b ++ s)) out = runR f (Rd.at0 c.put s) (out ++ [b]) := by
  unfold recL
  rw [List.append_assoc, runR, step_head c hb]
  dsimp only
  rw [if_neg (by simp), runR, step_body c hb]
  dsimp only
  rw [if_neg (by simp), List.append_nil]
theorem feed_rec (c : Co) {b : List Nat} (hb : b.length ≤ 4096) (s : List Nat) : feedR (Rd.at0 c []) (recL c b ++ s) = ((feedR (Rd.at0 c.put []) s).1, (feedR (Rd.at0 c.put []) s).2.1, [b] ++ (feedR (Rd.at0 c.put []) s).2.2) := by
  have h1 := run_rec c hb s ((Rd.at0 c (recL c b ++ s)).wait.length) []
  have hl : (Rd.at0 c (recL c b ++ s)).wait.length = sizeN b.length + 34 + s.length := by show (recL c b ++ s).length = _; rw [List.length_append, recL_length c hb]
  have e1 : feedR (Rd.at0 c []) (recL c b ++ s) = runR ((Rd.at0 c (recL c b ++ s)).wait.length + 2) (Rd.at0 c (recL c b ++ s)) [] := by
    unfold feedR Rd.more
    show runR (([] ++ (recL c b ++ s)).length + 1) ⟨c, [] ++ (recL c b ++ s), 0, false⟩ [] = _
    rw [List.nil_append]
    exact runR_fuel _ _ _ _ (Nat.lt_succ_self _) (by show (recL c b ++ s).length < (recL c b ++ s).length + 2; omega)
  rw [e1, h1, runR_out]
  have e2 : runR (Rd.at0 c (recL c b ++ s)).wait.length (Rd.at0 c.put s) [] = feedR (Rd.at0 c.put []) s := by
    unfold feedR Rd.more
    show _ = runR (([] ++ s).length + 1) ⟨c.put, [] ++ s, 0, false⟩ []
    rw [List.nil_append]
    exact runR_fuel _ _ _ _ (by rw [hl]; show s.length < _; omega) (Nat.lt_succ_self _)
  rw [e2]
  rfl
theorem feed_none (c : Co) : feedR (Rd.at0 c []) [] = (Rd.at0 c [], 0, []) := by
  unfold feedR
  show runR 1 (Rd.at0 c []) [] = _
  have h : stepR (Rd.at0 c []) = none := by
    unfold stepR Rd.at0
    rw [if_pos rfl, if_pos (by simp)]
  rw [runR, h]
theorem feed_one (c : Co) {b : List Nat} (hb : b.length ≤ 4096) : feedR (Rd.at0 c []) (recL c b) = (Rd.at0 c.put [], 0, [b]) := by
  have h := feed_rec c hb []
  rw [List.append_nil] at h
  rw [h, feed_none]
  rfl
/-- The counter behind so many records; the records. -/
def putsL : Co → List (List Nat) → Co
  | c, [] => c
  | c, b :: l => putsL c.put l
def recsL : Co → List (List Nat) → List Nat
  | _, [] => []
  | c, b :: l => recL c b ++ recsL c.put l
theorem feed_recs : ∀ (l : List (List Nat)) (c : Co), (∀ b ∈ l, b.length ≤ 4096) → feedR (Rd.at0 c []) (recsL c l) = (Rd.at0 (putsL c l) [], 0, l)
  | [], c, _ => feed_none c
  | b :: l, c, h => by
    rw [recsL, feed_rec c (h b (by simp)), feed_recs l c.put (fun x hx => h x (by simp [hx]))]
    rfl
theorem recsL_snoc : ∀ (l : List (List Nat)) (c : Co) (b : List Nat), recsL c (l ++ [b]) = recsL c l ++ recL (putsL c l) b
  | [], c, b => by simp [recsL, putsL]
  | x :: l, c, b => by rw [List.cons_append, recsL, recsL_snoc l, recsL, putsL, List.append_assoc]
theorem putsL_snoc : ∀ (l : List (List Nat)) (c : Co) (b : List Nat), putsL c (l ++ [b]) = (putsL c l).put
  | [], c, b => rfl
  | x :: l, c, b => by rw [List.cons_append, putsL, putsL_snoc l, putsL]
theorem putsL_n : ∀ (l : List (List Nat)) (c : Co), (putsL c l).n = c.n + 2 * l.length
  | [], c => rfl
  | x :: l, c => by rw [putsL, putsL_n l, put_n, List.length_cons]; omega
theorem putsL_cnt : ∀ (l : List (List Nat)) (c : Co), (putsL c l).cnt = c.cnt + l.length
  | [], c => rfl
  | x :: l, c => by rw [putsL, putsL_cnt l, put_cnt, List.length_cons]; omega
theorem putsL_key : ∀ (l : List (List Nat)) (c : Co), c.k.length = 32 → (putsL c l).k.length = 32
  | [], c, h => h
  | x :: l, c, h => by rw [putsL]; exact putsL_key l _ (put_key h)
theorem putsL_every : ∀ (l : List (List Nat)) (c : Co), (putsL c l).every = c.every
  | [], c => rfl
  | x :: l, c => by rw [putsL, putsL_every l, put_every]
/-- A piece of a record tells nothing. -/
theorem feed_piece (c : Co) {b : List Nat} (hb : b.length ≤ 4096) (k : Nat) (hk : k < (recL c b).length) : (feedR (Rd.at0 c []) ((recL c b).take k)).2 = (0, []) := by
  rw [recL_length c hb] at hk
  have h18 := headL_length c b
  have hbl := bodyL_length c hb
  by_cases h : k < 18
  · have hs : stepR ((Rd.at0 c []).more ((recL c b).take k)) = none := by
      show stepR ⟨c, [] ++ (recL c b).take k, 0, false⟩ = none
      unfold stepR
      dsimp only
      rw [if_pos rfl, if_pos]
      rw [List.nil_append, List.length_take]; omega
    unfold feedR
    rw [runR, hs]
  · have e : (recL c b).take k = headL c b ++ (bodyL c b).take (k - 18) := by
      unfold recL
      rw [List.take_append, h18, List.take_of_length_le (by omega)]
    have e2 : (Rd.at0 c []).more ((recL c b).take k) = Rd.at0 c (headL c b ++ (bodyL c b).take (k - 18)) := by rw [e]; rfl
    have hs : stepR ⟨c.up 1, (bodyL c b).take (k - 18), sizeN b.length + 16, false⟩ = none := by
      unfold stepR
      dsimp only
      rw [if_neg (by omega), if_pos]
      rw [List.length_take]; omega
    unfold feedR
    rw [e2, runR_fuel _ ((Rd.at0 c (headL c b ++ (bodyL c b).take (k - 18))).wait.length + 1 + 1) _ _ (by omega) (by omega), runR, step_head c hb]
    dsimp only
    rw [if_neg (by simp), runR, hs]
    rfl
end Go.Proofs.Ytoiamaljkodlnaa
