/-
  THE REFERENCE'S NUMBERS, PLAINLY: sixteen digits of 16 bits; what a carry does, what 'least' comes to. No program in sight.
-/
import Derived.Test.YtikjcikedbcfmaaMath
namespace Go.Proofs.Ytikjcikedbcfmaa
set_option linter.unusedVariables false
set_option linter.unusedSimpArgs false

/-- The number that digits of 16 bits are, low first. -/
def valD : List Nat → Nat
  | [] => 0
  | d :: l => d + 65536 * valD l
/-- A number's digits. -/
def digK : Nat → Nat → List Nat
  | 0, _ => []
  | k + 1, n => n % 65536 :: digK k (n / 65536)
def digN (n : Nat) : List Nat := digK 16 n
theorem digK_length : ∀ k n, (digK k n).length = k
  | 0, _ => rfl
  | k + 1, n => by rw [digK, List.length_cons, digK_length]
theorem digN_length (n : Nat) : (digN n).length = 16 := digK_length 16 n
theorem valD_digK : ∀ k n, valD (digK k n) = n % 65536 ^ k
  | 0, n => by rw [digK, valD, Nat.pow_zero, Nat.mod_one]
  | k + 1, n => by
    rw [digK, valD, valD_digK k, Nat.pow_succ, Nat.mul_comm (65536 ^ k), Nat.mod_mul]
theorem digK_lt : ∀ k n, ∀ d ∈ digK k n, d < 65536
  | 0, _, d, h => by cases h
  | k + 1, n, d, h => by
    rw [digK] at h
    rcases List.mem_cons.1 h with rfl | h
    · exact Nat.mod_lt _ (by decide)
    · exact digK_lt k _ d h
theorem valD_lt : ∀ l : List Nat, (∀ d ∈ l, d < 65536) → valD l < 65536 ^ l.length
  | [], _ => by simp [valD]
  | d :: l, h => by
    have h1 := valD_lt l (fun x hx => h x (List.mem_cons_of_mem _ hx))
    have h2 := h d (List.mem_cons_self ..)
    rw [valD, List.length_cons, Nat.pow_succ]
    omega
/-- Digits that are none too great are the number's. -/
theorem digK_valD : ∀ l : List Nat, (∀ d ∈ l, d < 65536) → digK l.length (valD l) = l
  | [], _ => rfl
  | d :: l, h => by
    have h2 := h d (List.mem_cons_self ..)
    have e1 : (d + 65536 * valD l) % 65536 = d := by omega
    have e2 : (d + 65536 * valD l) / 65536 = valD l := by omega
    rw [List.length_cons, valD, digK, e1, e2, digK_valD l (fun x hx => h x (List.mem_cons_of_mem _ hx))]
theorem digK_split : ∀ (i k n : Nat), i < k → (digK k n).getD i 0 = n / 65536 ^ i % 65536
  | 0, k + 1, n, _ => by rw [digK]; simp
  | i + 1, k + 1, n, h => by
    rw [digK]
    simp only [List.getD_cons_succ]
    rw [digK_split i k _ (by omega), Nat.div_div_eq_div_mul, Nat.pow_succ, Nat.mul_comm 65536]
theorem digN_at (n : Nat) {i : Nat} (h : i < 16) : (digN n).getD i 0 = n / 65536 ^ i % 65536 := digK_split i 16 n h
theorem digN_lt (n : Nat) {i : Nat} (h : i < 16) : (digN n).getD i 0 < 65536 := by rw [digN_at n h]; exact Nat.mod_lt _ (by decide)
/-- A digit that is set. -/
theorem valD_set : ∀ (l : List Nat) (i x : Nat), i < l.length → valD (l.set i x) + 65536 ^ i * l.getD i 0 = valD l + 65536 ^ i * x
  | d :: l, 0, x, _ => by simp [valD]; omega
  | d :: l, i + 1, x, h => by
    have h1 := valD_set l i x (by simpa using h)
    simp only [List.set_cons_succ, valD, List.getD_cons_succ]
    rw [Nat.pow_succ, Nat.mul_comm (65536 ^ i) 65536, Nat.mul_assoc, Nat.mul_assoc]
    omega

/-! A carry, from the lowest digit on: the digits behind i steps, and what is carried. -/
def carryK (l : List Nat) : Nat → List Nat × Nat
  | 0 => (l, 0)
  | i + 1 => ((carryK l i).1.set i (((carryK l i).2 + (carryK l i).1.getD i 0) % 65536), ((carryK l i).2 + (carryK l i).1.getD i 0) / 65536)
theorem carryK_length (l : List Nat) : ∀ i, (carryK l i).1.length = l.length
  | 0 => rfl
  | i + 1 => by rw [carryK, List.length_set]; exact carryK_length l i
theorem getD_set_ne {l : List Nat} {i j x : Nat} (h : i ≠ j) : (l.set i x).getD j 0 = l.getD j 0 := by
  simp only [List.getD_eq_getElem?_getD]
  rw [List.getElem?_set_ne h]
theorem getD_set_eq {l : List Nat} {i x : Nat} (h : i < l.length) : (l.set i x).getD i 0 = x := by
  simp only [List.getD_eq_getElem?_getD]
  rw [List.getElem?_set_self h]
  rfl
theorem carryK_above (l : List Nat) : ∀ i j, i ≤ j → (carryK l i).1.getD j 0 = l.getD j 0
  | 0, j, _ => rfl
  | i + 1, j, h => by rw [carryK, getD_set_ne (by omega)]; exact carryK_above l i j (by omega)
theorem carryK_below (l : List Nat) : ∀ i j, j < i → i ≤ l.length → (carryK l i).1.getD j 0 < 65536
  | i + 1, j, h, hl => by
    rw [carryK]
    by_cases e : i = j
    · subst e
      rw [getD_set_eq (by rw [carryK_length]; omega)]
      exact Nat.mod_lt _ (by decide)
    · rw [getD_set_ne e]
      exact carryK_below l i j (by omega) (by omega)
theorem carryK_val (l : List Nat) : ∀ i, i ≤ l.length → valD (carryK l i).1 + 65536 ^ i * (carryK l i).2 = valD l
  | 0, _ => by simp [carryK]
  | i + 1, h => by
    have h1 := carryK_val l i (by omega)
    have h2 := valD_set (carryK l i).1 i (((carryK l i).2 + (carryK l i).1.getD i 0) % 65536) (by rw [carryK_length]; omega)
    rw [carryK]
    dsimp only
    rw [Nat.pow_succ, Nat.mul_assoc]
    have h3 := Nat.mod_add_div ((carryK l i).2 + (carryK l i).1.getD i 0) 65536
    have h4 : 65536 ^ i * (((carryK l i).2 + (carryK l i).1.getD i 0) % 65536 + 65536 * (((carryK l i).2 + (carryK l i).1.getD i 0) / 65536)) = 65536 ^ i * ((carryK l i).2 + (carryK l i).1.getD i 0) := by rw [h3]
    rw [Nat.mul_add, Nat.mul_add] at h4
    omega
/-- What is carried is small where the digits are. -/
theorem carryK_c {l : List Nat} {M : Nat} (hM : ∀ j, l.getD j 0 ≤ 65535 * M) : ∀ i, (carryK l i).2 ≤ M
  | 0 => Nat.zero_le _
  | i + 1 => by
    have h1 := carryK_c hM i
    have h2 := hM i
    rw [carryK]
    dsimp only
    rw [carryK_above l i i (Nat.le_refl _)]
    omega

/-! A round: what runs over comes back by 38, the highest bit by 19. -/
def roundD (l : List Nat) : List Nat :=
  let r := carryK l 16
  let l1 := r.1.set 0 (r.1.getD 0 0 + 38 * r.2)
  let l2 := l1.set 0 (l1.getD 0 0 + 19 * (l1.getD 15 0 / 32768))
  l2.set 15 (l2.getD 15 0 % 32768)
theorem P_eq : P = 57896044618658097711785492504343953926634992332820282019728792003956564819949 := rfl
theorem pow16 : 65536 ^ 16 = 2 * P + 38 := by decide +kernel
theorem pow15 : 32768 * 65536 ^ 15 = P + 19 := by decide +kernel
theorem roundD_length {l : List Nat} (h : l.length = 16) : (roundD l).length = 16 := by
  simp only [roundD, List.length_set, carryK_length, h]
theorem round_top (l : List Nat) : ((carryK l 16).1.set 0 ((carryK l 16).1.getD 0 0 + 38 * (carryK l 16).2)).getD 15 0 = (carryK l 16).1.getD 15 0 := getD_set_ne (by decide)
theorem roundD_val {l : List Nat} (h : l.length = 16) : valD l = valD (roundD l) + P * (2 * (carryK l 16).2 + (carryK l 16).1.getD 15 0 / 32768) := by
  have hl := carryK_length l 16
  have h0 := carryK_val l 16 (by omega)
  have h1 := valD_set (carryK l 16).1 0 ((carryK l 16).1.getD 0 0 + 38 * (carryK l 16).2) (by omega)
  obtain ⟨l1, hl1⟩ : ∃ q, q = (carryK l 16).1.set 0 ((carryK l 16).1.getD 0 0 + 38 * (carryK l 16).2) := ⟨_, rfl⟩
  have ht : l1.getD 15 0 = (carryK l 16).1.getD 15 0 := by rw [hl1]; exact round_top l
  have e1 : l1.length = 16 := by rw [hl1, List.length_set, hl, h]
  have h2 := valD_set l1 0 (l1.getD 0 0 + 19 * (l1.getD 15 0 / 32768)) (by omega)
  obtain ⟨l2, hl2⟩ : ∃ q, q = l1.set 0 (l1.getD 0 0 + 19 * (l1.getD 15 0 / 32768)) := ⟨_, rfl⟩
  have ht2 : l2.getD 15 0 = l1.getD 15 0 := by rw [hl2]; exact getD_set_ne (by decide)
  have e2 : l2.length = 16 := by rw [hl2, List.length_set, e1]
  have h3 := valD_set l2 15 (l2.getD 15 0 % 32768) (by omega)
  have e3 : roundD l = l2.set 15 (l2.getD 15 0 % 32768) := by rw [hl2, hl1]; rfl
  rw [e3]
  rw [← hl1] at h1
  rw [← hl2] at h2
  rw [pow16] at h0
  rw [Nat.pow_zero, Nat.one_mul, Nat.one_mul] at h1 h2
  have hm := Nat.mod_add_div (l2.getD 15 0) 32768
  have h4 : 65536 ^ 15 * (l2.getD 15 0 % 32768) + 32768 * 65536 ^ 15 * (l2.getD 15 0 / 32768) = 65536 ^ 15 * l2.getD 15 0 := by
    rw [Nat.mul_comm 32768, Nat.mul_assoc, ← Nat.mul_add, hm]
  rw [pow15, ht2, ht] at h4
  rw [ht2, ht] at h3
  rw [ht] at h2
  rw [ht2, ht]
  obtain ⟨t, et⟩ : ∃ q, q = (carryK l 16).1.getD 15 0 / 32768 := ⟨_, rfl⟩
  rw [← et] at h2 h4 ⊢
  obtain ⟨c, ec⟩ : ∃ q, q = (carryK l 16).2 := ⟨_, rfl⟩
  rw [← ec] at h0 h1 ⊢
  have e5 : P * (2 * c + t) = 2 * P * c + P * t := by rw [Nat.mul_add, ← Nat.mul_assoc, Nat.mul_comm P 2]
  rw [e5]
  have e6 : (2 * P + 38) * c = 2 * P * c + 38 * c := Nat.add_mul ..
  have e7 : (P + 19) * t = P * t + 19 * t := Nat.add_mul ..
  rw [e6] at h0
  rw [e7] at h4
  omega
theorem carry_canon {l : List Nat} (h : l.length = 16) : ∀ d ∈ (carryK l 16).1, d < 65536 := by
  intro d hd
  obtain ⟨i, hi, rfl⟩ := List.mem_iff_getElem.1 hd
  have h1 := carryK_below l 16 i (by rw [carryK_length] at hi; omega) (by omega)
  rwa [List.getD_eq_getElem?_getD, List.getElem?_eq_getElem hi] at h1
theorem carry_lt {l : List Nat} (h : l.length = 16) : valD (carryK l 16).1 < 65536 ^ 16 := by
  have h1 := valD_lt _ (carry_canon h)
  rwa [carryK_length, h] at h1
theorem top_of {l : List Nat} (h : l.length = 16) (hd : ∀ d ∈ l, d < 65536) : l.getD 15 0 = valD l / 65536 ^ 15 := by
  have e := digK_valD l hd
  rw [h] at e
  have h1 := valD_lt l hd
  rw [h] at h1
  have h2 := digK_split 15 16 (valD l) (by decide)
  rw [e] at h2
  rw [h2, Nat.mod_eq_of_lt]
  exact Nat.div_lt_of_lt_mul (by rw [← Nat.pow_succ]; exact h1)
/-- What a round comes to where the number is not great: it is below 2 ^ 255 + 2 ^ 51 behind the first one, below 2 ^ 255 behind the second. -/
theorem round_lt {l : List Nat} (h : l.length = 16) {M : Nat} (hM : ∀ j, l.getD j 0 ≤ 65535 * M) : valD (roundD l) < 32768 * 65536 ^ 15 + 38 * M + 19 := by
  have h1 := carryK_c hM 16
  have h2 := roundD_val h
  have h3 := carryK_val l 16 (by omega)
  have h4 := top_of (by rw [carryK_length, h]) (carry_canon h)
  have h5 := carry_lt h
  rw [h4] at h2
  rw [pow16] at h3 h5
  rw [pow15]
  obtain ⟨v, ev⟩ : ∃ q, q = valD (carryK l 16).1 := ⟨_, rfl⟩
  obtain ⟨c, ec⟩ : ∃ q, q = (carryK l 16).2 := ⟨_, rfl⟩
  rw [← ev] at h2 h3 h5
  rw [← ec] at h1 h2 h3
  rw [Nat.div_div_eq_div_mul, Nat.mul_comm (65536 ^ 15), pow15] at h2
  have e5 : P * (2 * c + v / (P + 19)) = 2 * P * c + P * (v / (P + 19)) := by rw [Nat.mul_add, ← Nat.mul_assoc, Nat.mul_comm P 2]
  have e6 : (2 * P + 38) * c = 2 * P * c + 38 * c := Nat.add_mul ..
  rw [e5] at h2
  rw [e6] at h3
  have h6 := Nat.mod_add_div v (P + 19)
  have h7 := Nat.mod_lt v (show 0 < P + 19 by decide)
  have e7 : (P + 19) * (v / (P + 19)) = P * (v / (P + 19)) + 19 * (v / (P + 19)) := Nat.add_mul ..
  rw [e7] at h6
  have h8 : v / (P + 19) ≤ 1 := Nat.le_of_lt_succ (Nat.div_lt_of_lt_mul (by show v < (P + 19) * 2; rw [Nat.mul_comm, Nat.mul_add]; exact h5))
  omega
theorem round_small {l : List Nat} (h : l.length = 16) (hv : valD l < 65536 ^ 16) : valD l = valD (roundD l) + P * (valD l / (P + 19)) := by
  have h2 := roundD_val h
  have h3 := carryK_val l 16 (by omega)
  have h4 := top_of (by rw [carryK_length, h]) (carry_canon h)
  have hc : (carryK l 16).2 = 0 := by
    rcases Nat.eq_zero_or_pos (carryK l 16).2 with e | e
    · exact e
    · have := Nat.mul_le_mul_left (65536 ^ 16) e
      omega
  rw [hc, Nat.mul_zero, Nat.add_zero] at h3
  rw [hc, h4, h3, Nat.mul_zero, Nat.zero_add, Nat.div_div_eq_div_mul, Nat.mul_comm (65536 ^ 15), pow15] at h2
  exact h2
def preD (l : List Nat) : List Nat := (carryK (roundD (roundD (roundD l))) 16).1
/-- Behind three rounds and a carry: the digits of a number below 2 ^ 255 that is the same modulo p. -/
theorem preD_dig {l : List Nat} (h : l.length = 16) {M : Nat} (hM : ∀ j, l.getD j 0 ≤ 65535 * M) (hM2 : M ≤ 17592186044416) : ∃ V, preD l = digN V ∧ V < P + 19 ∧ V % P = valD l % P := by
  have g1 := round_lt h hM
  rw [pow15] at g1
  have k1 := roundD_length h
  have k2 := roundD_length k1
  have k3 := roundD_length k2
  have v1 : valD (roundD l) < 65536 ^ 16 := by rw [P_eq] at g1; rw [pow16, P_eq]; omega
  have g2 := round_small k1 v1
  have hdm := Nat.mod_add_div (valD (roundD l)) (P + 19)
  have hq : valD (roundD l) / (P + 19) ≤ 1 := Nat.le_of_lt_succ (Nat.div_lt_of_lt_mul (by show _ < (P + 19) * 2; rw [P_eq] at g1 ⊢; omega))
  have v2 : valD (roundD (roundD l)) < P + 19 := by
    have hm := Nat.mod_lt (valD (roundD l)) (show 0 < P + 19 by decide)
    rcases Nat.le_one_iff_eq_zero_or_eq_one.1 hq with e | e
    · rw [e] at g2 hdm
      omega
    · rw [e] at g2 hdm
      rw [P_eq] at g1 g2 hdm ⊢
      omega
  have g3 := round_small k2 (by rw [P_eq] at v2; rw [pow16, P_eq]; omega)
  rw [Nat.div_eq_of_lt v2, Nat.mul_zero, Nat.add_zero] at g3
  have c4 := carryK_val (roundD (roundD (roundD l))) 16 (by omega)
  have hc : (carryK (roundD (roundD (roundD l))) 16).2 = 0 := by
    rcases Nat.eq_zero_or_pos (carryK (roundD (roundD (roundD l))) 16).2 with e | e
    · exact e
    · have h9 := Nat.mul_le_mul_left (65536 ^ 16) e
      rw [pow16] at h9 c4
      rw [P_eq] at h9 c4 v2
      omega
  rw [hc, Nat.mul_zero, Nat.add_zero] at c4
  refine ⟨valD (roundD (roundD l)), ?_, v2, ?_⟩
  · have e := digK_valD _ (carry_canon k3)
    rw [carryK_length, k3, c4, ← g3] at e
    exact e.symm
  · rw [roundD_val h, g2, Nat.add_mul_mod_self_left, Nat.add_mul_mod_self_left]

/-! Comparing with p's digits, from the highest one on. -/
theorem div_step (V i : Nat) : V / 65536 ^ i = 65536 * (V / 65536 ^ (i + 1)) + V / 65536 ^ i % 65536 := by
  have h := Nat.mod_add_div (V / 65536 ^ i) 65536
  have e : 65536 ^ i * 65536 = 65536 ^ (i + 1) := (Nat.pow_succ ..).symm
  rw [Nat.div_div_eq_div_mul, e] at h
  omega
theorem lt_of_div {V W k : Nat} (h : V / k < W / k) : V < W := Nat.lt_of_not_le (fun h2 => absurd (Nat.div_le_div_right h2 : W / k ≤ V / k) (Nat.not_le.2 h))

/-! What is carried where it may be below nought: digits e 0, e 1 .. -/
def zK (e : Nat → Int) (l : List Nat) : Nat → List Nat × Int
  | 0 => (l, 0)
  | i + 1 => ((zK e l i).1.set i (((zK e l i).2 + e i) % 65536).toNat, ((zK e l i).2 + e i) / 65536)
def evZ (e : Nat → Int) : Nat → Int
  | 0 => 0
  | i + 1 => evZ e i + 65536 ^ i * e i
theorem zK_length (e : Nat → Int) (l : List Nat) : ∀ i, (zK e l i).1.length = l.length
  | 0 => rfl
  | i + 1 => by rw [zK, List.length_set]; exact zK_length e l i
theorem zK_above (e : Nat → Int) (l : List Nat) : ∀ i j, i ≤ j → (zK e l i).1.getD j 0 = l.getD j 0
  | 0, j, _ => rfl
  | i + 1, j, h => by rw [zK, getD_set_ne (by omega)]; exact zK_above e l i j (by omega)
theorem zK_below (e : Nat → Int) (l : List Nat) : ∀ i j, j < i → i ≤ l.length → (zK e l i).1.getD j 0 < 65536
  | i + 1, j, h, hl => by
    rw [zK]
    by_cases q : i = j
    · subst q
      rw [getD_set_eq (by rw [zK_length]; omega)]
      omega
    · rw [getD_set_ne q]
      exact zK_below e l i j (by omega) (by omega)
theorem valD_take_set : ∀ (l : List Nat) (i x : Nat), i < l.length → valD ((l.set i x).take (i + 1)) = valD (l.take i) + 65536 ^ i * x
  | d :: l, 0, x, _ => by simp [valD]
  | d :: l, i + 1, x, h => by
    have h1 := valD_take_set l i x (by simpa using h)
    simp only [List.set_cons_succ, List.take_succ_cons, valD]
    rw [h1, Nat.pow_succ, Nat.mul_add, Nat.mul_comm (65536 ^ i) 65536, Nat.mul_assoc]
    omega
theorem zK_val (e : Nat → Int) (l : List Nat) : ∀ i, i ≤ l.length → ((valD ((zK e l i).1.take i) : Nat) : Int) + 65536 ^ i * (zK e l i).2 = evZ e i
  | 0, _ => by simp [zK, evZ, valD]
  | i + 1, h => by
    have h1 := zK_val e l i (by omega)
    have h2 := valD_take_set (zK e l i).1 i (((zK e l i).2 + e i) % 65536).toNat (by rw [zK_length]; omega)
    rw [zK, evZ, ← h1]
    dsimp only
    rw [h2, Int.natCast_add, Int.natCast_mul, Int.natCast_pow, Int.toNat_of_nonneg (Int.emod_nonneg _ (by decide))]
    have h3 := Int.emod_add_mul_ediv ((zK e l i).2 + e i) 65536
    have h4 : (65536 : Int) ^ i * (((zK e l i).2 + e i) % 65536 + 65536 * (((zK e l i).2 + e i) / 65536)) = 65536 ^ i * ((zK e l i).2 + e i) := by rw [h3]
    rw [Int.mul_add, Int.mul_add] at h4
    rw [Int.pow_succ, Int.mul_assoc]
    show ((valD ((zK e l i).1.take i) : Nat) : Int) + (65536 : Int) ^ i * (((zK e l i).2 + e i) % 65536) + _ = _
    omega
/-- All sixteen: the digits of the number, where it is one of them. -/
theorem zK_all {e : Nat → Int} {l : List Nat} (h : l.length = 16) {V : Nat} (hv : evZ e 16 = (V : Int)) (hV : V < 65536 ^ 16) : (zK e l 16).1 = digN V ∧ (zK e l 16).2 = 0 := by
  have h1 := zK_val e l 16 (by omega)
  have hl : (zK e l 16).1.length = 16 := by rw [zK_length, h]
  rw [List.take_of_length_le (by omega), hv] at h1
  have hc : ∀ d ∈ (zK e l 16).1, d < 65536 := by
    intro d hd
    obtain ⟨i, hi, rfl⟩ := List.mem_iff_getElem.1 hd
    have h2 := zK_below e l 16 i (by omega) (by omega)
    rwa [List.getD_eq_getElem?_getD, List.getElem?_eq_getElem hi] at h2
  have h3 := valD_lt _ hc
  rw [hl] at h3
  have e5 : (65536 : Int) ^ 16 = ((65536 ^ 16 : Nat) : Int) := by decide +kernel
  rw [e5] at h1
  have hz : (zK e l 16).2 = 0 := by
    rw [pow16, P_eq] at h1 h3 hV
    omega
  rw [hz] at h1
  refine ⟨?_, hz⟩
  have e6 : valD (zK e l 16).1 = V := by omega
  have e := digK_valD _ hc
  rw [hl, e6] at e
  exact e.symm

theorem dig_step {V i : Nat} (hi : i < 16) : V / 65536 ^ i = 65536 * (V / 65536 ^ (i + 1)) + (digN V).getD i 0 := by
  rw [digN_at V hi]
  exact div_step V i
theorem dig_lt {V W i : Nat} (hi : i < 16) (hE : V / 65536 ^ (i + 1) = W / 65536 ^ (i + 1)) (h : (digN V).getD i 0 < (digN W).getD i 0) : V < W := by
  refine lt_of_div (k := 65536 ^ i) ?_
  rw [dig_step hi, dig_step (V := W) hi, hE]
  omega
theorem dig_eq {V W i : Nat} (hi : i < 16) (hE : V / 65536 ^ (i + 1) = W / 65536 ^ (i + 1)) (h : (digN V).getD i 0 = (digN W).getD i 0) : V / 65536 ^ i = W / 65536 ^ i := by
  rw [dig_step hi, dig_step (V := W) hi, hE, h]
def subE (V W : Nat) (j : Nat) : Int := (((digN V).getD j 0 : Nat) : Int) - (((digN W).getD j 0 : Nat) : Int)
theorem evZ_sub (f g : Nat → Int) : ∀ i, evZ (fun j => f j - g j) i = evZ f i - evZ g i
  | 0 => rfl
  | i + 1 => by rw [evZ, evZ, evZ, evZ_sub f g i, Int.mul_sub]; omega
theorem evZ_add (f g : Nat → Int) : ∀ i, evZ (fun j => f j + g j) i = evZ f i + evZ g i
  | 0 => rfl
  | i + 1 => by rw [evZ, evZ, evZ, evZ_add f g i, Int.mul_add]; omega
theorem evZ_dig (V : Nat) : ∀ i, i ≤ 16 → evZ (fun j => (((digN V).getD j 0 : Nat) : Int)) i = ((V % 65536 ^ i : Nat) : Int)
  | 0, _ => by rw [evZ, Nat.pow_zero, Nat.mod_one]; rfl
  | i + 1, h => by
    rw [evZ, evZ_dig V i (by omega), digN_at V (by omega), Nat.mod_pow_succ, Int.natCast_add, Int.natCast_mul, Int.natCast_pow]
    rfl
theorem evZ_all {V : Nat} (h : V < 65536 ^ 16) : evZ (fun j => (((digN V).getD j 0 : Nat) : Int)) 16 = ((V : Nat) : Int) := by rw [evZ_dig V 16 (Nat.le_refl _), Nat.mod_eq_of_lt h]
theorem P_lt16 : P < 65536 ^ 16 := by decide +kernel
theorem sub_all {V : Nat} (h : P ≤ V) (hV : V < P + 19) : (zK (subE V P) (digN V) 16).1 = digN (V - P) := by
  have h16 : V < 65536 ^ 16 := by rw [pow16, P_eq]; rw [P_eq] at hV; omega
  refine (zK_all (digN_length V) ?_ (Nat.lt_of_le_of_lt (Nat.sub_le _ _) h16)).1
  show evZ (fun j => (((digN V).getD j 0 : Nat) : Int) - (((digN P).getD j 0 : Nat) : Int)) 16 = _
  rw [evZ_sub, evZ_all h16, evZ_all P_lt16]
  omega
theorem mod_sub {V : Nat} (h : P ≤ V) (hV : V < P + 19) : V % P = V - P := by
  rw [Nat.mod_eq_sub_mod h, Nat.mod_eq_of_lt]
  rw [P_eq] at h hV ⊢
  omega
theorem zK_c {e : Nat → Int} (l : List Nat) (he : ∀ j, -65536 ≤ e j ∧ e j ≤ 131072) : ∀ i, -2 ≤ (zK e l i).2 ∧ (zK e l i).2 ≤ 3
  | 0 => by simp [zK]
  | i + 1 => by
    have h1 := zK_c l he i
    have h2 := he i
    rw [zK]
    dsimp only
    omega
theorem digN_le (V j : Nat) : (digN V).getD j 0 ≤ 65535 := by
  by_cases h : j < 16
  · have := digN_lt V h
    omega
  · rw [List.getD_eq_getElem?_getD, List.getElem?_eq_none (by rw [digN_length]; omega)]
    decide
theorem subE_le (V W j : Nat) : -65536 ≤ subE V W j ∧ subE V W j ≤ 131072 := by
  have h1 := digN_le V j
  have h2 := digN_le W j
  unfold subE
  omega
end Go.Proofs.Ytikjcikedbcfmaa
