/-
 Prime · FieldA · FieldB: WHAT Mult_pl, Base_any NEED OF THEM (printed by sub.py).
-/
import Derived.Test.YtkhbihnnkflfkaaGreatHaM
import Derived.Test.YtkhbihnnkflfkaaGreatBase
namespace Go.Proofs.YtkhbihnnkflfkaaGreat
open Go.RowKit
set_option linter.unusedVariables false
set_option linter.unusedSimpArgs false
set_option maxRecDepth 100000
set_option linter.constructorNameAsVariable false

variable {a b n p q : Nat} {l : List Nat} {x y : F} {a0 a1 a2 a3 a4 b0 b1 b2 b3 b4 : Int}
def IsP (p : Nat) : Prop := 2 ≤ p ∧ ∀ m, m ∣ p → m = 1 ∨ m = p
theorem IsP.cop (h : IsP p) (ha : ¬ p ∣ a) : Nat.gcd p a = 1 := by
 rcases h.2 _ (Nat.gcd_dvd_left p a) with h1 | h1
 ·exact h1
 ·exact absurd (h1 ▸ Nat.gcd_dvd_right p a) ha
theorem IsP.dvd_mul (h : IsP p) (hd : p ∣ a * b) : p ∣ a ∨ p ∣ b := by
 by_cases ha : p ∣ a
 ·exact .inl ha
 ·exact .inr (Nat.Coprime.dvd_of_dvd_mul_left (h.cop ha) hd)
theorem prime_under : ∀ n, 2 ≤ n → ∃ p, IsP p ∧ p ∣ n := by
 intro n
 induction n using Nat.strongRecOn with
 | _ n ih =>
  intro hn
  by_cases hp : ∀ m, m ∣ n → m = 1 ∨ m = n
  ·exact ⟨n, ⟨hn, hp⟩, Nat.dvd_refl n⟩
  ·obtain ⟨m, hm⟩ := Classical.not_forall.1 hp
   obtain ⟨hmd, hm2⟩ := Classical.not_imp.1 hm
   have h1 : m ≠ 1 := fun e => hm2 (.inl e)
   have h2 : m ≠ n := fun e => hm2 (.inr e)
   have h3 := Nat.le_of_dvd (by omega) hmd
   have h0 : m ≠ 0 := by rintro rfl; have := Nat.eq_zero_of_zero_dvd hmd; omega
   obtain ⟨p, hp, hd⟩ := ih m (by omega) (by omega)
   exact ⟨p, hp, Nat.dvd_trans hd hmd⟩
theorem prime_of {F : Nat} (hn : 2 ≤ n) (hF : n < (F + 1) * (F + 1)) (h : ∀ p, IsP p → p ∣ n → F < p) : IsP n := by
 refine ⟨hn, fun m hm => ?_⟩
 by_cases h1 : m = 1
 ·exact .inl h1
 ·refine .inr ?_
  obtain ⟨k, rfl⟩ := hm
  have hm0 : m ≠ 0 := by rintro rfl; simp at hn
  by_cases hk : k = 1
  ·rw [hk, Nat.mul_one]
  ·exfalso
   have hk0 : k ≠ 0 := by rintro rfl; simp at hn
   obtain ⟨p, hp, hpd⟩ := prime_under m (by omega)
   obtain ⟨q, hq, hqd⟩ := prime_under k (by omega)
   have a1 := h p hp (Nat.dvd_mul_right_of_dvd hpd k)
   have a2 := h q hq (Nat.dvd_mul_left_of_dvd hqd m)
   have b1 := Nat.le_of_dvd (by omega) hpd
   have b2 := Nat.le_of_dvd (by omega) hqd
   have := Nat.mul_le_mul (show F + 1 ≤ m by omega) (show F + 1 ≤ k by omega)
   omega
def noneTo (n : Nat) : Nat → Bool
 | 0 => true
 | k + 1 => (Nat.blt (k + 1) 2 || !(Nat.beq (n % (k + 1)) 0)) && noneTo n k
theorem noneTo_spec (n : Nat) : ∀ k, noneTo n k = true → ∀ d, 2 ≤ d → d ≤ k → ¬ d ∣ n := by
 intro k
 induction k with
 | zero => intro _ d h1 h2; omega
 | succ k ih =>
  intro h d h1 h2 hd
  simp only [noneTo, Bool.and_eq_true, Bool.or_eq_true, Nat.blt_eq, Bool.not_eq_true'] at h
  by_cases e : d = k + 1
  ·subst e
   rcases h.1 with h3 | h3
   ·omega
   ·rw [Nat.mod_eq_zero_of_dvd hd] at h3; cases h3
  ·exact ih h.2 d h1 (by omega) hd
theorem small_prime {F : Nat} (hn : 2 ≤ n) (hF : n < (F + 1) * (F + 1)) (h : noneTo n F = true) : IsP n :=
 prime_of hn hF fun p hp hd => by
  rcases Nat.lt_or_ge F p with hlt | hge
  ·exact hlt
  ·exact absurd hd (noneTo_spec n F h p hp.1 hge)
def pmF (n : Nat) : Nat → Nat → Nat → Nat
 | 0, _, _ => 1 % n
 | f + 1, b, e => bif Nat.beq e 0 then 1 % n else bif Nat.beq (e % 2) 1 then b * pmF n f (b * b % n) (e / 2) % n else pmF n f (b * b % n) (e / 2)
theorem pm_spec (n : Nat) : ∀ f b e, e < 2 ^ f → pmF n f b e = b ^ e % n := by
 intro f
 induction f with
 | zero => intro b e he; have : e = 0 := by simpa using he
           subst this; simp [pmF]
 | succ f ih =>
  intro b e he
  rw [Nat.pow_succ] at he
  have hr := ih (b * b % n) (e / 2) (by omega)
  have hsq : (b * b % n) ^ (e / 2) % n = b ^ (2 * (e / 2)) % n := by
   rw [← Nat.pow_mod, Nat.pow_mul, Nat.pow_two]
  rw [hsq] at hr
  simp only [pmF, hr, cond_eq_ite, Nat.beq_eq]
  by_cases h0 : e = 0
  ·subst h0; simp
  ·rw [if_neg h0]
   by_cases h1 : e % 2 = 1
   ·rw [if_pos h1, Nat.mul_mod, Nat.mod_mod, ← Nat.mul_mod]
    congr 1
    rw [← Nat.pow_succ']
    congr 1
    omega
   ·rw [if_neg h1]
    congr 2
    omega
def prodL : List Nat → Nat
 | [] => 1
 | x :: l => x * prodL l
theorem prodL_perm {m : List Nat} (h : l.Perm m) : prodL l = prodL m := by
 induction h with
 | nil => rfl
 | cons x _ ih => simp only [prodL, ih]
 | swap x y l => simp only [prodL]; rw [← Nat.mul_assoc, ← Nat.mul_assoc, Nat.mul_comm y x]
 | trans _ _ h1 h2 => exact h1.trans h2
theorem perm_of : ∀ {m : List Nat}, l.Nodup → (∀ x ∈ l, x ∈ m) → m.length ≤ l.length → l.Perm m := by
 induction l with
 | nil => intro m _ _ h; have : m = [] := List.eq_nil_of_length_eq_zero (by simpa using h); subst this; exact .nil
 | cons x l ih =>
  intro m hn hs hl
  have hx : x ∈ m := hs x (by simp)
  obtain ⟨hxl, hnl⟩ := List.nodup_cons.1 hn
  have := ih (m := m.erase x) hnl (fun y hy => (List.mem_erase_of_ne (by rintro rfl; exact hxl hy)).2 (hs y (by simp [hy]))) (by rw [List.length_erase_of_mem hx]; simp at hl; omega)
  exact (this.cons x).trans (List.perm_cons_erase hx).symm
theorem prodL_map (p a : Nat) : ∀ l : List Nat, prodL (l.map fun x => a * x % p) % p = a ^ l.length * prodL l % p := by
 intro l
 induction l with
 | nil => simp [prodL]
 | cons x l ih =>
  simp only [List.map_cons, prodL, List.length_cons, Nat.pow_succ]
  rw [Nat.mul_mod, ih, Nat.mod_mod, ← Nat.mul_mod]
  congr 1
  rw [Nat.mul_assoc, Nat.mul_assoc, Nat.mul_left_comm x, Nat.mul_left_comm a]
theorem IsP.not_prodL (h : IsP p) : ∀ l : List Nat, (∀ x ∈ l, ¬ p ∣ x) → ¬ p ∣ prodL l := by
 intro l
 induction l with
 | nil => intro _ hd; have := Nat.le_of_dvd (by simp [prodL]) hd; have := h.1; simp [prodL] at *; omega
 | cons x l ih =>
  intro hx hd
  rcases h.dvd_mul hd with h1 | h1
  ·exact hx x (by simp) h1
  ·exact ih (fun y hy => hx y (by simp [hy])) h1
theorem sub_dvd_of_mod (h : a % p = b % p) : p ∣ a - b := Nat.dvd_of_mod_eq_zero (Nat.sub_mod_eq_zero_of_mod_eq h)
theorem mod_of_dvd_sub (h : p ∣ a - 1) (hle : 1 ≤ a) : a % p = 1 % p := by
 obtain ⟨k, hk⟩ := h
 rw [show a = 1 + p * k by omega, Nat.add_mul_mod_self_left]
theorem fermat (hp : IsP p) (ha : ¬ p ∣ a) : a ^ (p - 1) % p = 1 := by
 have h2 := hp.1
 have hin : ∀ x ∈ List.range' 1 (p - 1), 1 ≤ x ∧ x < p := by
  intro x hx
  rw [List.mem_range'_1] at hx
  omega
 have hnd : ∀ x ∈ List.range' 1 (p - 1), ¬ p ∣ x := fun x hx hd => by
  have := hin x hx
  have := Nat.le_of_dvd (by omega) hd
  omega
 have hperm : ((List.range' 1 (p - 1)).map fun x => a * x % p).Perm (List.range' 1 (p - 1)) := by
  refine perm_of ?_ ?_ (by simp)
  ·refine List.Pairwise.map _ (R := fun x y => (1 ≤ x ∧ x < p) ∧ (1 ≤ y ∧ y < p) ∧ x < y) ?_ ?_
   ·rintro x y ⟨hx, hy, hlt⟩ he
    have hd : p ∣ a * y - a * x := sub_dvd_of_mod he.symm
    rw [← Nat.mul_sub] at hd
    rcases hp.dvd_mul hd with h1 | h1
    ·exact ha h1
    ·have := Nat.le_of_dvd (by omega) h1; omega
   ·have hl := List.pairwise_lt_range' (s := 1) (n := p - 1) 1
    exact (List.Pairwise.and_mem.1 hl).imp fun ⟨h1, h2, h3⟩ => ⟨hin _ h1, hin _ h2, h3⟩
  ·intro y hy
   obtain ⟨x, hx, rfl⟩ := List.mem_map.1 hy
   rw [List.mem_range'_1]
   have h1 : a * x % p ≠ 0 := fun h0 => by
    rcases hp.dvd_mul (Nat.dvd_of_mod_eq_zero h0) with h3 | h3
    ·exact ha h3
    ·exact hnd x hx h3
   have := Nat.mod_lt (a * x) (show 0 < p by omega)
   omega
 have h1 := prodL_map p a (List.range' 1 (p - 1))
 rw [prodL_perm hperm, List.length_range'] at h1
 have hnp := hp.not_prodL _ hnd
 generalize prodL (List.range' 1 (p - 1)) = R at *
 have hpos : 0 < a ^ (p - 1) := Nat.pow_pos (Nat.pos_of_ne_zero (by rintro rfl; exact ha (Nat.dvd_zero p)))
 have hd : p ∣ a ^ (p - 1) * R - R := sub_dvd_of_mod h1.symm
 rw [show a ^ (p - 1) * R - R = (a ^ (p - 1) - 1) * R by rw [Nat.sub_mul, Nat.one_mul]] at hd
 rcases hp.dvd_mul hd with h3 | h3
 ·rw [mod_of_dvd_sub h3 hpos]
  exact Nat.mod_eq_of_lt (by omega)
 ·exact absurd h3 hnp
theorem pow_gcd : ∀ m k : Nat, b ^ m % p = 1 % p → b ^ k % p = 1 % p → b ^ Nat.gcd m k % p = 1 % p := by
 intro m k
 induction m, k using Nat.gcd.induction with
 | H0 k => intro _ h; simpa using h
 | H1 m k hm ih =>
  intro h1 h2
  rw [Nat.gcd_rec]
  refine ih ?_ h1
  have e : b ^ k = (b ^ m) ^ (k / m) * b ^ (k % m) := by rw [← Nat.pow_mul, ← Nat.pow_add, Nat.div_add_mod]
  rw [e, Nat.mul_mod, Nat.pow_mod, h1, ← Nat.pow_mod, Nat.one_pow, ← Nat.mul_mod, Nat.one_mul] at h2
  exact h2
theorem pock {r : Nat} (hq : IsP q) (hr : n - 1 = r * q) (h1 : pmF n 256 a (n - 1) = 1) (hb : n - 1 < 2 ^ 256)
  (h2 : Nat.gcd (pmF n 256 a r - 1) n = 1) (p : Nat) (hp : IsP p) (hd : p ∣ n) : q ∣ p - 1 := by
 have hq2 := hq.1
 have hrl : r < 2 ^ 256 := by
  have : r * 2 ≤ r * q := Nat.mul_le_mul_left r hq2
  omega
 rw [pm_spec n 256 a _ hb] at h1
 rw [pm_spec n 256 a r hrl] at h2
 have hb1 : a ^ r % n % p = a ^ r % p := Nat.mod_mod_of_dvd _ hd
 have hp2 := hp.1
 -- b := a^r mod n; b^q = 1 mod p
 have hbq : (a ^ r % n) ^ q % p = 1 % p := by
  rw [Nat.pow_mod, hb1, ← Nat.pow_mod, ← Nat.pow_mul, ← hr]
  rw [← Nat.mod_mod_of_dvd _ hd, h1]
 generalize hB : a ^ r % n = b at *
 have hne : ¬ p ∣ b - 1 := fun h => by
  have := Nat.dvd_gcd h hd
  rw [h2] at this
  have := Nat.le_of_dvd (by omega) this
  omega
 have hbp : ¬ p ∣ b := fun h => by
  have h0 : b % p = 0 := Nat.mod_eq_zero_of_dvd h
  rw [Nat.pow_mod, h0, Nat.zero_pow (by omega), Nat.zero_mod, Nat.mod_eq_of_lt (show 1 < p by omega)] at hbq
  omega
 have hf := fermat hp hbp
 by_cases hqd : q ∣ p - 1
 ·exact hqd
 ·exfalso
  have hg := pow_gcd q (p - 1) hbq (by rw [hf, Nat.mod_eq_of_lt (by omega)])
  rw [hq.cop hqd, Nat.pow_one] at hg
  exact hne (sub_dvd_of_mod hg)
theorem gt_of_dvd (hp : IsP p) (h : q ∣ p - 1) : q < p := by
 have := Nat.le_of_dvd (by have := hp.1; omega) h
 have := hp.1
 omega
theorem dvd_two {m : Nat} (ha : a ∣ m) (hb : b ∣ m) (h : Nat.gcd a b = 1) : a * b ∣ m := Nat.Coprime.mul_dvd_of_dvd_of_dvd h ha hb
theorem prime_8574133 : IsP 8574133 := small_prime (F := 2928) (by decide) (by decide) (by decide +kernel)
theorem prime_127 : IsP 127 := small_prime (F := 11) (by decide) (by decide) (by decide +kernel)
theorem prime_1919519569386763 : IsP 1919519569386763 := prime_of (F := 8574133 * 127) (by decide +kernel) (by decide +kernel) fun p hp hd =>
 gt_of_dvd hp (dvd_two (pock (n := 1919519569386763) (q := 8574133) (a := 2) (r := 223873314) prime_8574133 (by decide +kernel) (by decide +kernel) (by decide +kernel) (by decide +kernel) p hp hd)
  (pock (n := 1919519569386763) (q := 127) (a := 2) (r := 15114327318006) prime_127 (by decide +kernel) (by decide +kernel) (by decide +kernel) (by decide +kernel) p hp hd) (by decide +kernel))
theorem prime_569003 : IsP 569003 := small_prime (F := 754) (by decide) (by decide) (by decide +kernel)
theorem prime_2773320623 : IsP 2773320623 := prime_of (F := 569003) (by decide +kernel) (by decide +kernel) fun p hp hd =>
 gt_of_dvd hp (pock (n := 2773320623) (q := 569003) (a := 2) (r := 4874) prime_569003 (by decide +kernel) (by decide +kernel) (by decide +kernel) (by decide +kernel) p hp hd)
theorem prime_72106336199 : IsP 72106336199 := prime_of (F := 2773320623) (by decide +kernel) (by decide +kernel) fun p hp hd =>
 gt_of_dvd hp (pock (n := 72106336199) (q := 2773320623) (a := 2) (r := 26) prime_2773320623 (by decide +kernel) (by decide +kernel) (by decide +kernel) (by decide +kernel) p hp hd)
theorem prime_75445702479781427272750846543864801 : IsP 75445702479781427272750846543864801 := prime_of (F := 1919519569386763 * 72106336199) (by decide +kernel) (by decide +kernel) fun p hp hd =>
 gt_of_dvd hp (dvd_two (pock (n := 75445702479781427272750846543864801) (q := 1919519569386763) (a := 2) (r := 39304471641247389600) prime_1919519569386763 (by decide +kernel) (by decide +kernel) (by decide +kernel) (by decide +kernel) p hp hd)
  (pock (n := 75445702479781427272750846543864801) (q := 72106336199) (a := 2) (r := 1046311689884858398375200) prime_72106336199 (by decide +kernel) (by decide +kernel) (by decide +kernel) (by decide +kernel) p hp hd) (by decide +kernel))
theorem prime_430751 : IsP 430751 := small_prime (F := 656) (by decide) (by decide) (by decide +kernel)
theorem prime_4153 : IsP 4153 := small_prime (F := 64) (by decide) (by decide) (by decide +kernel)
theorem prime_31757755568855353 : IsP 31757755568855353 := prime_of (F := 430751 * 4153) (by decide +kernel) (by decide +kernel) fun p hp hd =>
 gt_of_dvd hp (dvd_two (pock (n := 31757755568855353) (q := 430751) (a := 2) (r := 73726481352) prime_430751 (by decide +kernel) (by decide +kernel) (by decide +kernel) (by decide +kernel) p hp hd)
  (pock (n := 31757755568855353) (q := 4153) (a := 2) (r := 7646943310584) prime_4153 (by decide +kernel) (by decide +kernel) (by decide +kernel) (by decide +kernel) p hp hd) (by decide +kernel))
theorem prime_74058212732561358302231226437062788676166966415465897661863160754340907 : IsP 74058212732561358302231226437062788676166966415465897661863160754340907 := prime_of (F := 75445702479781427272750846543864801 * 31757755568855353) (by decide +kernel) (by decide +kernel) fun p hp hd =>
 gt_of_dvd hp (dvd_two (pock (n := 74058212732561358302231226437062788676166966415465897661863160754340907) (q := 75445702479781427272750846543864801) (a := 2) (r := 981609426360740691344999861639072106) prime_75445702479781427272750846543864801 (by decide +kernel) (by decide +kernel) (by decide +kernel) (by decide +kernel) p hp hd)
  (pock (n := 74058212732561358302231226437062788676166966415465897661863160754340907) (q := 31757755568855353) (a := 2) (r := 2331972502653487852620185443007392165117953542933313402) prime_31757755568855353 (by decide +kernel) (by decide +kernel) (by decide +kernel) (by decide +kernel) p hp hd) (by decide +kernel))
theorem prime_57896044618658097711785492504343953926634992332820282019728792003956564819949 : IsP 57896044618658097711785492504343953926634992332820282019728792003956564819949 := prime_of (F := 74058212732561358302231226437062788676166966415465897661863160754340907) (by decide +kernel) (by decide +kernel) fun p hp hd =>
 gt_of_dvd hp (pock (n := 57896044618658097711785492504343953926634992332820282019728792003956564819949) (q := 74058212732561358302231226437062788676166966415465897661863160754340907) (a := 2) (r := 781764) prime_74058212732561358302231226437062788676166966415465897661863160754340907 (by decide +kernel) (by decide +kernel) (by decide +kernel) (by decide +kernel) p hp hd)
theorem P_prime : IsP P := prime_57896044618658097711785492504343953926634992332820282019728792003956564819949
def fpow (x : F) : Nat → F
 | 0 => 1
 | k + 1 => fpow x k * x
theorem fpow_val (x : F) (k : Nat) : (fpow x k).val = x.val ^ k % P := by
 induction k with
 | zero => simp only [fpow, Nat.pow_zero]; rw [show (1 : F).val = 1 by decide +kernel]; exact (Nat.mod_eq_of_lt (by decide +kernel)).symm
 | succ k ih =>
  simp only [fpow]
  rw [Fin.val_mul, ih, Nat.pow_succ, Nat.mul_mod, Nat.mod_mod, ← Nat.mul_mod]
theorem fpow_add (x : F) (m k : Nat) : fpow x (m + k) = fpow x m * fpow x k := by
 induction k with
 | zero => simp only [Nat.add_zero, fpow]; grind
 | succ k ih =>
  have e : fpow x (m + (k + 1)) = fpow x (m + k) * x := rfl
  rw [e, ih]; simp only [fpow]; grind
theorem fpow_mul (x y : F) (k : Nat) : fpow (x * y) k = fpow x k * fpow y k := by
 induction k with
 | zero => simp only [fpow]; grind
 | succ k ih => simp only [fpow, ih]; grind
def fi (x : F) : F := fpow x (P - 2)
theorem fi_last {k : Nat} (hk : k + 1 = P - 1) (hx : ¬ P ∣ x.val) : fpow x k * x = 1 := by
 have hf := fermat P_prime hx
 have e : fpow x k * x = fpow x (k + 1) := rfl
 apply Fin.ext
 rw [e, fpow_val, hk, hf]
 decide +kernel
theorem fi_mul_self (h : x ≠ 0) : x * fi x = 1 := by
 have hx : ¬ P ∣ x.val := fun hd => by
  have h1 := x.isLt
  rcases Nat.eq_zero_or_pos x.val with h0 | h0
  ·exact h (Fin.ext h0)
  ·have := Nat.le_of_dvd h0 hd
   omega
 have e2 : x * fi x = fi x * x := by grind
 rw [e2]
 exact fi_last (by decide +kernel) hx
theorem fi_mul (x y : F) : fi (x * y) = fi x * fi y := fpow_mul x y _
theorem no_zero (h : x * y = 0) : x = 0 ∨ y = 0 := by
 by_cases hx : x = 0
 ·exact .inl hx
 ·refine .inr ?_
  have h1 := fi_mul_self hx
  have : fi x * (x * y) = y := by
   rw [show fi x * (x * y) = (x * fi x) * y by grind, h1]; grind
  rw [← this, h]; grind
theorem one_ne_zero : (1 : F) ≠ 0 := by decide +kernel
theorem fi_ne (h : x ≠ 0) : fi x ≠ 0 := fun h0 => by
 have := fi_mul_self h
 rw [h0] at this
 exact one_ne_zero (by rw [← this]; grind)
set_option maxHeartbeats 1000000 in
theorem carried_raw (a0 a1 a2 a3 a4 : Int) (w : World) :
  Calls Tryz.prog 120 #[.agg #[.int .u64 a0, .int .u64 a1, .int .u64 a2, .int .u64 a3, .int .u64 a4]] w fun e w' =>
   e = .returned (.agg #[.int .u64 (c0 a0 a4), .int .u64 (c1 a1 a0), .int .u64 (c1 a2 a1), .int .u64 (c1 a3 a2), .int .u64 (c1 a4 a3)]) ∧ Below w.heap.size w w' := by
 go_enter Tryz.func120, Tryz.ntmps120
 go_wp2
 go_rounds 6
 go_rounds 6
 refine bodyPost_ret (v := .agg #[.int .u64 (c0 a0 a4), .int .u64 (c1 a1 a0), .int .u64 (c1 a2 a1), .int .u64 (c1 a3 a2), .int .u64 (c1 a4 a3)]) ?_ rfl ⟨rfl, ?_⟩
 ·simp [results, Tryz.results120, go_sem]
  exact ⟨rfl, rfl, rfl, rfl, rfl⟩
 ·exact (((Below.refl _ _).alloc (Nat.le_refl _) _).alloc (by simp) _).alloc (by simp; omega) _
def ElV (x : F) (v : Value) : Prop := ∃ a0 a1 a2 a3 a4 : Int, v = .agg #[.int .u64 a0, .int .u64 a1, .int .u64 a2, .int .u64 a3, .int .u64 a4] ∧ El x a0 a1 a2 a3 a4
theorem carried_any (a0 a1 a2 a3 a4 : Int) (w : World) (l0 : 0 ≤ a0) (h0 : a0 < 18446744073709551616) (l1 : 0 ≤ a1) (h1 : a1 < 18446744073709551616)
  (l2 : 0 ≤ a2) (h2 : a2 < 18446744073709551616) (l3 : 0 ≤ a3) (h3 : a3 < 18446744073709551616) (l4 : 0 ≤ a4) (h4 : a4 < 18446744073709551616) :
  Calls Tryz.prog 120 #[.agg #[.int .u64 a0, .int .u64 a1, .int .u64 a2, .int .u64 a3, .int .u64 a4]] w fun e w' =>
   ∃ r0 r1 r2 r3 r4 : Int, e = .returned (.agg #[.int .u64 r0, .int .u64 r1, .int .u64 r2, .int .u64 r3, .int .u64 r4]) ∧ El (toF (S5 a0 a1 a2 a3 a4)) r0 r1 r2 r3 r4 ∧ Below w.heap.size w w' :=
 (carried_raw a0 a1 a2 a3 a4 w).mono fun _ _ ⟨he, hb⟩ => ⟨_, _, _, _, _, he, carried_El a0 a1 a2 a3 a4 l0 h0 l1 h1 l2 h2 l3 h3 l4 h4, hb⟩
set_option maxHeartbeats 1000000 in
theorem Of_raw (n : Int) (w : World) :
  Calls Tryz.prog 91 #[.int .u64 n] w fun e w' =>
   e = .returned (.agg #[.int .u64 (c0 n 0), .int .u64 (c1 0 n), .int .u64 (c1 0 0), .int .u64 (c1 0 0), .int .u64 (c1 0 0)]) ∧ Below w.heap.size w w' := by
 go_enter Tryz.func91, Tryz.ntmps91
 go_wp2_with (go_at_call 120; refine (carried_raw _ _ _ _ _ _).mono ?_; rintro e w' ⟨rfl, hb⟩; obtain ⟨hc, hf⟩ := bcell hb)
 refine bodyPost_ret (v := .agg #[.int .u64 (c0 n 0), .int .u64 (c1 0 n), .int .u64 (c1 0 0), .int .u64 (c1 0 0), .int .u64 (c1 0 0)]) ?_ rfl ⟨rfl, ?_⟩
 ·simp [results, Tryz.results91, go_sem, hc]
 ·repeat' first | (with_reducible exact Below.refl _ _) | (with_reducible refine Below.setCell ?_ (by first | (simp; done) | (simp; omega) | omega) _) | (with_reducible refine Below.alloc ?_ (by first | (simp; done) | (simp; omega) | omega) _) | (with_reducible refine Below.drew ?_) | (with_reducible refine Below.trans ?_ (Below.mono (by assumption) (by first | (simp; done) | (simp; omega) | omega)))
set_option maxHeartbeats 2000000 in
theorem Add_raw (a0 a1 a2 a3 a4 b0 b1 b2 b3 b4 : Int) (w : World) :
  Calls Tryz.prog 121 #[.agg #[.int .u64 a0, .int .u64 a1, .int .u64 a2, .int .u64 a3, .int .u64 a4], .agg #[.int .u64 b0, .int .u64 b1, .int .u64 b2, .int .u64 b3, .int .u64 b4]] w fun e w' =>
   e = .returned (.agg #[.int .u64 (c0 (IntKind.u64.wrap (a0 + b0)) (IntKind.u64.wrap (a4 + b4))), .int .u64 (c1 (IntKind.u64.wrap (a1 + b1)) (IntKind.u64.wrap (a0 + b0))), .int .u64 (c1 (IntKind.u64.wrap (a2 + b2)) (IntKind.u64.wrap (a1 + b1))),
    .int .u64 (c1 (IntKind.u64.wrap (a3 + b3)) (IntKind.u64.wrap (a2 + b2))), .int .u64 (c1 (IntKind.u64.wrap (a4 + b4)) (IntKind.u64.wrap (a3 + b3)))]) ∧ Below w.heap.size w w' := by
 go_enter Tryz.func121, Tryz.ntmps121
 go_wp2
 refine wp_loop_rounds 6 ?_
 iterate 5 (rw [rounds_succ]; go_wp2; (refine tail_any 11 (by kernel_rfl) ?_; rintro W rfl; simp only [List.take_succ_cons, List.take_zero, List.drop_succ_cons, List.drop_zero]; (repeat still_step); refine wpStill_nil ?_); go_wp2)
 rw [rounds_succ]
 go_wp2_with (go_at_call 120; refine (carried_raw _ _ _ _ _ _).mono ?_; rintro e w' ⟨rfl, hb⟩; obtain ⟨hc, hf⟩ := bcell hb)
 refine bodyPost_ret (v := .agg #[.int .u64 (c0 (IntKind.u64.wrap (a0 + b0)) (IntKind.u64.wrap (a4 + b4))), .int .u64 (c1 (IntKind.u64.wrap (a1 + b1)) (IntKind.u64.wrap (a0 + b0))), .int .u64 (c1 (IntKind.u64.wrap (a2 + b2)) (IntKind.u64.wrap (a1 + b1))),
       .int .u64 (c1 (IntKind.u64.wrap (a3 + b3)) (IntKind.u64.wrap (a2 + b2))), .int .u64 (c1 (IntKind.u64.wrap (a4 + b4)) (IntKind.u64.wrap (a3 + b3)))]) ?_ rfl ⟨rfl, ?_⟩
 ·simp [results, Tryz.results121, go_sem, hc]
 ·repeat' first | (with_reducible exact Below.refl _ _) | (with_reducible refine Below.setCell ?_ (by first | (simp; done) | (simp; omega) | omega) _) | (with_reducible refine Below.alloc ?_ (by first | (simp; done) | (simp; omega) | omega) _) | (with_reducible refine Below.drew ?_) | (with_reducible refine Below.trans ?_ (Below.mono (by assumption) (by first | (simp; done) | (simp; omega) | omega)))
set_option maxHeartbeats 2000000 in
theorem Sub_raw (a0 a1 a2 a3 a4 b0 b1 b2 b3 b4 : Int) (w : World) :
  Calls Tryz.prog 122 #[.agg #[.int .u64 a0, .int .u64 a1, .int .u64 a2, .int .u64 a3, .int .u64 a4], .agg #[.int .u64 b0, .int .u64 b1, .int .u64 b2, .int .u64 b3, .int .u64 b4]] w fun e w' =>
   e = .returned (.agg #[.int .u64 (c0 (IntKind.u64.wrap (a0 + IntKind.u64.wrap (9007199254740916 - b0))) (IntKind.u64.wrap (a4 + IntKind.u64.wrap (9007199254740988 - b4)))), .int .u64 (c1 (IntKind.u64.wrap (a1 + IntKind.u64.wrap (9007199254740988 - b1))) (IntKind.u64.wrap (a0 + IntKind.u64.wrap (9007199254740916 - b0)))), .int .u64 (c1 (IntKind.u64.wrap (a2 + IntKind.u64.wrap (9007199254740988 - b2))) (IntKind.u64.wrap (a1 + IntKind.u64.wrap (9007199254740988 - b1)))), .int .u64 (c1 (IntKind.u64.wrap (a3 + IntKind.u64.wrap (9007199254740988 - b3))) (IntKind.u64.wrap (a2 + IntKind.u64.wrap (9007199254740988 - b2)))), .int .u64 (c1 (IntKind.u64.wrap (a4 + IntKind.u64.wrap (9007199254740988 - b4))) (IntKind.u64.wrap (a3 + IntKind.u64.wrap (9007199254740988 - b3))))]) ∧ Below w.heap.size w w' := by
 go_enter Tryz.func122, Tryz.ntmps122
 go_wp2
 refine wp_loop_rounds 6 ?_
 iterate 5 (rw [rounds_succ]; go_wp2; (refine tail_any 13 (by kernel_rfl) ?_; rintro W rfl; simp only [List.take_succ_cons, List.take_zero, List.drop_succ_cons, List.drop_zero]; (repeat still_step); refine wpStill_nil ?_); go_wp2)
 rw [rounds_succ]
 go_wp2_with (go_at_call 120; refine (carried_raw _ _ _ _ _ _).mono ?_; rintro e w' ⟨rfl, hb⟩; obtain ⟨hc, hf⟩ := bcell hb)
 refine bodyPost_ret (v := .agg #[.int .u64 (c0 (IntKind.u64.wrap (a0 + IntKind.u64.wrap (9007199254740916 - b0))) (IntKind.u64.wrap (a4 + IntKind.u64.wrap (9007199254740988 - b4)))), .int .u64 (c1 (IntKind.u64.wrap (a1 + IntKind.u64.wrap (9007199254740988 - b1))) (IntKind.u64.wrap (a0 + IntKind.u64.wrap (9007199254740916 - b0)))), .int .u64 (c1 (IntKind.u64.wrap (a2 + IntKind.u64.wrap (9007199254740988 - b2))) (IntKind.u64.wrap (a1 + IntKind.u64.wrap (9007199254740988 - b1)))), .int .u64 (c1 (IntKind.u64.wrap (a3 + IntKind.u64.wrap (9007199254740988 - b3))) (IntKind.u64.wrap (a2 + IntKind.u64.wrap (9007199254740988 - b2)))), .int .u64 (c1 (IntKind.u64.wrap (a4 + IntKind.u64.wrap (9007199254740988 - b4))) (IntKind.u64.wrap (a3 + IntKind.u64.wrap (9007199254740988 - b3))))]) ?_ rfl ⟨rfl, ?_⟩
 ·simp [results, Tryz.results122, go_sem, hc]
 ·repeat' first | (with_reducible exact Below.refl _ _) | (with_reducible refine Below.setCell ?_ (by first | (simp; done) | (simp; omega) | omega) _) | (with_reducible refine Below.alloc ?_ (by first | (simp; done) | (simp; omega) | omega) _) | (with_reducible refine Below.drew ?_) | (with_reducible refine Below.trans ?_ (Below.mono (by assumption) (by first | (simp; done) | (simp; omega) | omega)))
theorem Of_any (n : Int) (w : World) (h0 : 0 ≤ n) (h1 : n < 18446744073709551616) :
  Calls Tryz.prog 91 #[.int .u64 n] w fun e w' =>
   ∃ r0 r1 r2 r3 r4 : Int, e = .returned (.agg #[.int .u64 r0, .int .u64 r1, .int .u64 r2, .int .u64 r3, .int .u64 r4]) ∧ El (toF n) r0 r1 r2 r3 r4 ∧ Below w.heap.size w w' :=
 (Of_raw n w).mono fun _ _ ⟨he, hb⟩ => ⟨_, _, _, _, _, he, by
  have h := carried_El n 0 0 0 0 h0 h1 (by omega) (by omega) (by omega) (by omega) (by omega) (by omega) (by omega) (by omega)
  simpa [S5] using h, hb⟩
theorem Add_any (ha : El x a0 a1 a2 a3 a4) (hb : El y b0 b1 b2 b3 b4) (w : World) :
  Calls Tryz.prog 121 #[.agg #[.int .u64 a0, .int .u64 a1, .int .u64 a2, .int .u64 a3, .int .u64 a4], .agg #[.int .u64 b0, .int .u64 b1, .int .u64 b2, .int .u64 b3, .int .u64 b4]] w fun e w' =>
   ∃ r0 r1 r2 r3 r4 : Int, e = .returned (.agg #[.int .u64 r0, .int .u64 r1, .int .u64 r2, .int .u64 r3, .int .u64 r4]) ∧ El (x + y) r0 r1 r2 r3 r4 ∧ Below w.heap.size w w' :=
 (Add_raw a0 a1 a2 a3 a4 b0 b1 b2 b3 b4 w).mono fun _ _ ⟨he, hw⟩ => ⟨_, _, _, _, _, he, by
  have e : ∀ u v : Int, 0 ≤ u → u < 4503599627370496 → 0 ≤ v → v < 4503599627370496 → IntKind.u64.wrap (u + v) = u + v := by intro u v _ _ _ _; rw [wrap64u]; omega
  obtain ⟨la0, ha0, la1, ha1, la2, ha2, la3, ha3, la4, ha4, rfl⟩ := ha
  obtain ⟨lb0, hb0, lb1, hb1, lb2, hb2, lb3, hb3, lb4, hb4, rfl⟩ := hb
  rw [e a0 b0 la0 ha0 lb0 hb0, e a1 b1 la1 ha1 lb1 hb1, e a2 b2 la2 ha2 lb2 hb2, e a3 b3 la3 ha3 lb3 hb3, e a4 b4 la4 ha4 lb4 hb4]
  have h := carried_El (a0 + b0) (a1 + b1) (a2 + b2) (a3 + b3) (a4 + b4) (by omega) (by omega) (by omega) (by omega) (by omega) (by omega) (by omega) (by omega) (by omega) (by omega)
  have e2 : toF (S5 (a0 + b0) (a1 + b1) (a2 + b2) (a3 + b3) (a4 + b4)) = toF (S5 a0 a1 a2 a3 a4) + toF (S5 b0 b1 b2 b3 b4) := by
   rw [← toF_add]; congr 1; unfold S5; omega
  rw [e2] at h
  exact h, hw⟩
theorem Sub_any (ha : El x a0 a1 a2 a3 a4) (hb : El y b0 b1 b2 b3 b4) (w : World) :
  Calls Tryz.prog 122 #[.agg #[.int .u64 a0, .int .u64 a1, .int .u64 a2, .int .u64 a3, .int .u64 a4], .agg #[.int .u64 b0, .int .u64 b1, .int .u64 b2, .int .u64 b3, .int .u64 b4]] w fun e w' =>
   ∃ r0 r1 r2 r3 r4 : Int, e = .returned (.agg #[.int .u64 r0, .int .u64 r1, .int .u64 r2, .int .u64 r3, .int .u64 r4]) ∧ El (x - y) r0 r1 r2 r3 r4 ∧ Below w.heap.size w w' :=
 (Sub_raw a0 a1 a2 a3 a4 b0 b1 b2 b3 b4 w).mono fun _ _ ⟨he, hw⟩ => ⟨_, _, _, _, _, he, by
  have e : ∀ u v c : Int, 0 ≤ u → u < 4503599627370496 → 0 ≤ v → v < 4503599627370496 → 9007199254740000 ≤ c → c < 9007199254740990 → IntKind.u64.wrap (u + IntKind.u64.wrap (c - v)) = u + (c - v) := by intro u v c _ _ _ _ _ _; rw [wrap64u, wrap64u]; omega
  obtain ⟨la0, ha0, la1, ha1, la2, ha2, la3, ha3, la4, ha4, rfl⟩ := ha
  obtain ⟨lb0, hb0, lb1, hb1, lb2, hb2, lb3, hb3, lb4, hb4, rfl⟩ := hb
  rw [e a0 b0 _ la0 ha0 lb0 hb0 (by omega) (by omega), e a1 b1 _ la1 ha1 lb1 hb1 (by omega) (by omega), e a2 b2 _ la2 ha2 lb2 hb2 (by omega) (by omega), e a3 b3 _ la3 ha3 lb3 hb3 (by omega) (by omega), e a4 b4 _ la4 ha4 lb4 hb4 (by omega) (by omega)]
  have h := carried_El (a0 + (9007199254740916 - b0)) (a1 + (9007199254740988 - b1)) (a2 + (9007199254740988 - b2)) (a3 + (9007199254740988 - b3)) (a4 + (9007199254740988 - b4)) (by omega) (by omega) (by omega) (by omega) (by omega) (by omega) (by omega) (by omega) (by omega) (by omega)
  have e2 : toF (S5 (a0 + (9007199254740916 - b0)) (a1 + (9007199254740988 - b1)) (a2 + (9007199254740988 - b2)) (a3 + (9007199254740988 - b3)) (a4 + (9007199254740988 - b4))) = toF (S5 a0 a1 a2 a3 a4) - toF (S5 b0 b1 b2 b3 b4) := by
   rw [← toF_sub]
   refine toF_congr 4 ?_
   unfold S5; omega
  rw [e2] at h
  exact h, hw⟩
set_option maxHeartbeats 1000000 in
theorem sumadd_any (T h l a b : Int) (w : World) (hT : W2 T h l) (ha0 : 0 ≤ a) (ha : a < 18446744073709551616) (hb0 : 0 ≤ b) (hb : b < 18446744073709551616)
  (hsum : T + a * b < 340282366920938463463374607431768211456) :
  Calls Tryz.prog 125 #[.agg #[.int .u64 h, .int .u64 l], .int .u64 a, .int .u64 b] w fun e w' => ∃ h' l', e = .returned (.agg #[.int .u64 h', .int .u64 l']) ∧ W2 (T + a * b) h' l' ∧ Below w.heap.size w w' := by
 have HM := fun w => Mul64_any a b w ha0 ha hb0 hb
 obtain ⟨h0, h1, l0, l1, hn⟩ := hT
 have HN : Hid (18446744073709551616 * h + l = T ∧ h < 18446744073709551616 ∧ l < 18446744073709551616 ∧ T + a * b < 340282366920938463463374607431768211456) := ⟨hn, h1, l1, hsum⟩
 clear hn h1 l1 ha hb hsum
 go_enter Tryz.func125, Tryz.ntmps125
 go_wp2_with fail
 refine (HM _).mono ?_
 rintro e w' ⟨h', l', rfl, hW, rfl⟩
 obtain ⟨h0', h1', l0', l1', hn'⟩ := hW
 have e1 := Add64_run l l' 0 l0 l0' (by omega) (by omega)
 have c0 : 0 ≤ (l + l') / 18446744073709551616 := by omega
 have c1 : (l + l') / 18446744073709551616 ≤ 1 := by have := HN.out; omega
 have e2 := Add64_run h h' ((l + l') / 18446744073709551616) h0 h0' c0 c1
 simp only [Int.add_zero] at e1
 have HN' : Hid (18446744073709551616 * h' + l' = a * b ∧ h' < 18446744073709551616 ∧ l' < 18446744073709551616) := ⟨hn', h1', l1'⟩
 clear hn' h1' l1' HM
 go_wp2
 refine bodyPost_ret (v := .agg #[.int .u64 ((h + h' + (l + l') / 18446744073709551616) % 18446744073709551616), .int .u64 ((l + l') % 18446744073709551616)]) ?_ rfl ⟨_, _, rfl, ?_, ?_⟩
 ·simp [results, Tryz.results125, go_sem]
 ·have q1 := HN.out
  have q2 := HN'.out
  generalize a * b = ab at *
  exact ⟨by omega, by omega, by omega, by omega, by omega⟩
 ·repeat' first | (with_reducible exact Below.refl _ _) | (with_reducible refine Below.setCell ?_ (by first | (simp; done) | (simp; omega) | omega) _) | (with_reducible refine Below.alloc ?_ (by first | (simp; done) | (simp; omega) | omega) _) | (with_reducible refine Below.drew ?_) | (with_reducible refine Below.trans ?_ (Below.mono (by assumption) (by first | (simp; done) | (simp; omega) | omega)))
end Go.Proofs.YtkhbihnnkflfkaaGreat
