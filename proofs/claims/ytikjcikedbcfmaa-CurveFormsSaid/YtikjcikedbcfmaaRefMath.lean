/-
  THE REFERENCE'S NUMBERS, PLAINLY: sums, differences, products of digits. No program in sight.
-/
import Derived.Test.YtikjcikedbcfmaaRefNum
namespace Go.Proofs.Ytikjcikedbcfmaa
set_option linter.unusedVariables false
set_option linter.unusedSimpArgs false

/-- A number's digits, of the field. -/
def dg (x : F) : List Nat := digN x.val
theorem dg_length (x : F) : (dg x).length = 16 := digN_length _
theorem dg_le (x : F) (j : Nat) : (dg x).getD j 0 ≤ 65535 := digN_le _ j
theorem val_lt16 (x : F) : x.val < 65536 ^ 16 := Nat.lt_trans x.isLt P_lt16
/-- So many digits as a number. -/
def evF (f : Nat → Nat) : Nat → Nat
  | 0 => 0
  | i + 1 => evF f i + 65536 ^ i * f i
theorem evF_dig (V : Nat) : ∀ i, i ≤ 16 → evF (fun j => (digN V).getD j 0) i = V % 65536 ^ i
  | 0, _ => by rw [evF, Nat.pow_zero, Nat.mod_one]
  | i + 1, h => by rw [evF, evF_dig V i (by omega), digN_at V (by omega), Nat.mod_pow_succ]
theorem evF_dg (x : F) : evF (fun j => (dg x).getD j 0) 16 = x.val := by
  show evF (fun j => (digN x.val).getD j 0) 16 = _
  rw [evF_dig _ 16 (Nat.le_refl _), Nat.mod_eq_of_lt (val_lt16 x)]
theorem evF_split (f : Nat → Nat) (a : Nat) : ∀ k, evF f (a + k) = evF f a + 65536 ^ a * evF (fun j => f (a + j)) k
  | 0 => by rw [evF, Nat.mul_zero]; rfl
  | k + 1 => by
    show evF f (a + k) + 65536 ^ (a + k) * f (a + k) = _
    rw [evF_split f a k, evF, Nat.pow_add, Nat.mul_add, Nat.mul_assoc, Nat.add_assoc]
theorem evF_cons (d : Nat) (f : Nat → Nat) (k : Nat) : evF (fun j => match j with | 0 => d | j + 1 => f j) (k + 1) = d + 65536 * evF f k := by
  have h := evF_split (fun j => match j with | 0 => d | j + 1 => f j) 1 k
  rw [Nat.add_comm 1 k] at h
  rw [h]
  have e : (fun j => (fun j => match j with | 0 => d | j + 1 => f j) (1 + j)) = f := by funext j; rw [Nat.add_comm]
  rw [e]
  simp [evF]
theorem valD_evF : ∀ l : List Nat, valD l = evF (fun j => l.getD j 0) l.length
  | [] => rfl
  | d :: l => by
    rw [valD, valD_evF l, List.length_cons, ← evF_cons]
    congr 1
    funext j
    cases j <;> rfl

/-! Sums. -/
def addA (a b : List Nat) : Nat → List Nat
  | 0 => a
  | i + 1 => (addA a b i).set i ((addA a b i).getD i 0 + b.getD i 0)
theorem addA_length (a b : List Nat) : ∀ i, (addA a b i).length = a.length
  | 0 => rfl
  | i + 1 => by rw [addA, List.length_set]; exact addA_length a b i
theorem addA_above (a b : List Nat) : ∀ i j, i ≤ j → (addA a b i).getD j 0 = a.getD j 0
  | 0, _, _ => rfl
  | i + 1, j, h => by rw [addA, getD_set_ne (by omega)]; exact addA_above a b i j (by omega)
theorem addA_le {a b : List Nat} {M N : Nat} (ha : ∀ j, a.getD j 0 ≤ M) (hb : ∀ j, b.getD j 0 ≤ N) : ∀ i j, (addA a b i).getD j 0 ≤ M + N
  | 0, j => by have := ha j; simp only [addA]; omega
  | i + 1, j => by
    rw [addA]
    by_cases e : i = j
    · subst e
      by_cases hl : i < (addA a b i).length
      · rw [getD_set_eq hl, addA_above a b i i (Nat.le_refl _)]
        have := ha i
        have := hb i
        omega
      · rw [List.set_eq_of_length_le (by omega)]
        exact addA_le ha hb i i
    · rw [getD_set_ne e]
      exact addA_le ha hb i j
theorem addA_val (a b : List Nat) : ∀ i, i ≤ a.length → valD (addA a b i) = valD a + evF (fun j => b.getD j 0) i
  | 0, _ => by simp [addA, evF]
  | i + 1, h => by
    have h1 := valD_set (addA a b i) i ((addA a b i).getD i 0 + b.getD i 0) (by rw [addA_length]; omega)
    rw [Nat.mul_add, addA_val a b i (by omega)] at h1
    rw [addA, evF]
    omega
theorem valD_dg (x : F) : valD (dg x) = x.val := by rw [valD_evF, dg_length]; exact evF_dg x
theorem add_dg (x y : F) : digN (valD (addA (dg x) (dg y) 16) % P) = dg (x + y) := by
  rw [addA_val _ _ 16 (by rw [dg_length]; exact Nat.le_refl _), valD_dg, evF_dg]
  show _ = digN (x + y).val
  rw [Fin.val_add]

/-! Differences. -/
def subF (x y : F) (j : Nat) : Int := (((dg x).getD j 0 : Nat) : Int) + (((digN P).getD j 0 : Nat) : Int) - (((dg y).getD j 0 : Nat) : Int)
theorem subF_le (x y : F) (j : Nat) : -65536 ≤ subF x y j ∧ subF x y j ≤ 131072 := by
  have h1 := dg_le x j
  have h2 := digN_le P j
  have h3 := dg_le y j
  unfold subF
  omega
theorem subF_all (x y : F) : (zK (subF x y) (dg x) 16).1 = digN (x.val + P - y.val) ∧ (zK (subF x y) (dg x) 16).2 = 0 := by
  have hx := x.isLt
  have hy := y.isLt
  refine zK_all (dg_length x) ?_ ?_
  · show evZ (fun j => (((digN x.val).getD j 0 : Nat) : Int) + (((digN P).getD j 0 : Nat) : Int) - (((digN y.val).getD j 0 : Nat) : Int)) 16 = _
    rw [evZ_sub (fun j => (((digN x.val).getD j 0 : Nat) : Int) + (((digN P).getD j 0 : Nat) : Int)), evZ_add, evZ_all (val_lt16 x), evZ_all P_lt16, evZ_all (val_lt16 y)]
    omega
  · rw [pow16]
    omega
theorem sub_dg (x y : F) {c : Nat} (hc : c = 0) : digN (valD ((digN (x.val + P - y.val)).set 0 ((digN (x.val + P - y.val)).getD 0 0 + 38 * c)) % P) = dg (x - y) := by
  have hx := x.isLt
  have hy := y.isLt
  have h := valD_set (digN (x.val + P - y.val)) 0 ((digN (x.val + P - y.val)).getD 0 0 + 38 * c) (by rw [digN_length]; decide)
  have h2 : valD (digN (x.val + P - y.val)) = x.val + P - y.val := by
    show valD (digK 16 _) = _
    rw [valD_digK, Nat.mod_eq_of_lt]
    rw [pow16]
    omega
  subst hc
  rw [Nat.pow_zero, Nat.one_mul, Nat.one_mul, h2] at h
  have h3 : valD ((digN (x.val + P - y.val)).set 0 ((digN (x.val + P - y.val)).getD 0 0 + 38 * 0)) = x.val + P - y.val := by
    generalize valD ((digN (x.val + P - y.val)).set 0 ((digN (x.val + P - y.val)).getD 0 0 + 38 * 0)) = A at h ⊢
    generalize (digN (x.val + P - y.val)).getD 0 0 = B at h
    omega
  have e2 : P - y.val + x.val = x.val + P - y.val := by omega
  have e : (x - y).val = (x.val + P - y.val) % P := by rw [Fin.val_sub, e2]
  rw [h3]
  unfold dg
  rw [e]

/-! Products. -/
def mulJ (t b : List Nat) (x i : Nat) : Nat → List Nat
  | 0 => t
  | j + 1 => (mulJ t b x i j).set (i + j) ((mulJ t b x i j).getD (i + j) 0 + x * b.getD j 0)
theorem mulJ_length (t b : List Nat) (x i : Nat) : ∀ j, (mulJ t b x i j).length = t.length
  | 0 => rfl
  | j + 1 => by rw [mulJ, List.length_set]; exact mulJ_length t b x i j
theorem mulJ_above (t b : List Nat) (x i : Nat) : ∀ j k, i + j ≤ k → (mulJ t b x i j).getD k 0 = t.getD k 0
  | 0, _, _ => rfl
  | j + 1, k, h => by rw [mulJ, getD_set_ne (by omega)]; exact mulJ_above t b x i j k (by omega)
theorem mulJ_le {t b : List Nat} {x i M : Nat} (ht : ∀ k, t.getD k 0 ≤ M) (hb : ∀ j, b.getD j 0 ≤ 65535) (hx : x ≤ 65535) : ∀ j k, (mulJ t b x i j).getD k 0 ≤ M + 4294836225
  | 0, k => by have := ht k; simp only [mulJ]; omega
  | j + 1, k => by
    rw [mulJ]
    by_cases e : i + j = k
    · subst e
      by_cases hl : i + j < (mulJ t b x i j).length
      · rw [getD_set_eq hl, mulJ_above t b x i j _ (Nat.le_refl _)]
        have h1 := ht (i + j)
        have h2 := Nat.mul_le_mul hx (hb j)
        omega
      · rw [List.set_eq_of_length_le (by omega)]
        exact mulJ_le ht hb hx j _
    · rw [getD_set_ne e]
      exact mulJ_le ht hb hx j k
theorem mulJ_val (t b : List Nat) (x i : Nat) : ∀ j, i + j ≤ t.length → valD (mulJ t b x i j) = valD t + 65536 ^ i * (x * evF (fun k => b.getD k 0) j)
  | 0, _ => by simp [mulJ, evF]
  | j + 1, h => by
    have h1 := valD_set (mulJ t b x i j) (i + j) ((mulJ t b x i j).getD (i + j) 0 + x * b.getD j 0) (by rw [mulJ_length]; omega)
    rw [Nat.mul_add, mulJ_val t b x i j (by omega)] at h1
    rw [mulJ, evF]
    have e : 65536 ^ i * (x * (evF (fun k => b.getD k 0) j + 65536 ^ j * b.getD j 0)) = 65536 ^ i * (x * evF (fun k => b.getD k 0) j) + 65536 ^ (i + j) * (x * b.getD j 0) := by
      rw [Nat.mul_add, Nat.mul_add, Nat.pow_add, Nat.mul_assoc (65536 ^ i) (65536 ^ j), Nat.mul_left_comm x (65536 ^ j)]
    rw [e]
    omega
def mulI (a b : List Nat) : Nat → List Nat
  | 0 => List.replicate 31 0
  | i + 1 => mulJ (mulI a b i) b (a.getD i 0) i 16
theorem mulI_length (a b : List Nat) : ∀ i, (mulI a b i).length = 31
  | 0 => List.length_replicate
  | i + 1 => by rw [mulI, mulJ_length]; exact mulI_length a b i
theorem getD_rep (n j : Nat) : (List.replicate n 0).getD j 0 = 0 := by
  simp only [List.getD_eq_getElem?_getD]
  by_cases h : j < n
  · simp [h]
  · rw [List.getElem?_eq_none (by simp; omega)]; rfl
theorem valD_rep : ∀ n, valD (List.replicate n 0) = 0
  | 0 => rfl
  | n + 1 => by rw [List.replicate_succ, valD, valD_rep n]
theorem mulI_le {a b : List Nat} (ha : ∀ j, a.getD j 0 ≤ 65535) (hb : ∀ j, b.getD j 0 ≤ 65535) : ∀ i k, (mulI a b i).getD k 0 ≤ i * 4294836225
  | 0, k => by rw [mulI, getD_rep]; omega
  | i + 1, k => by
    have h := mulJ_le (i := i) (mulI_le ha hb i) hb (ha i) 16 k
    rw [mulI]
    omega
theorem mulI_val (a b : List Nat) : ∀ i, i ≤ 15 + 1 → valD (mulI a b i) = evF (fun j => a.getD j 0) i * evF (fun j => b.getD j 0) 16
  | 0, _ => by rw [mulI, valD_rep, evF, Nat.zero_mul]
  | i + 1, h => by
    rw [mulI, mulJ_val _ _ _ _ 16 (by rw [mulI_length]; omega), mulI_val a b i (by omega), show evF (fun j => a.getD j 0) (i + 1) = evF (fun j => a.getD j 0) i + 65536 ^ i * a.getD i 0 from rfl, Nat.add_mul, Nat.mul_assoc]
def outK (t : List Nat) : Nat → List Nat
  | 0 => List.replicate 16 0
  | i + 1 => if i + 16 < 31 then ((outK t i).set i (t.getD i 0)).set i (((outK t i).set i (t.getD i 0)).getD i 0 + 38 * t.getD (i + 16) 0) else (outK t i).set i (t.getD i 0)
theorem outK_length (t : List Nat) : ∀ i, (outK t i).length = 16
  | 0 => List.length_replicate
  | i + 1 => by
    unfold outK
    split <;> simp only [List.length_set, outK_length t i]
theorem outK_one {t : List Nat} (ht : t.length = 31) {i : Nat} (hi : i < 16) : outK t (i + 1) = (outK t i).set i (t.getD i 0 + 38 * t.getD (i + 16) 0) := by
  have hl := outK_length t i
  rw [outK]
  split
  · rw [getD_set_eq (by omega), List.set_set]
  · have e : t.getD (i + 16) 0 = 0 := by rw [List.getD_eq_getElem?_getD, List.getElem?_eq_none (by omega)]; rfl
    rw [e, Nat.mul_zero, Nat.add_zero]
theorem outK_above {t : List Nat} (ht : t.length = 31) : ∀ i j, i ≤ 16 → i ≤ j → (outK t i).getD j 0 = 0
  | 0, j, _, _ => by rw [outK, getD_rep]
  | i + 1, j, h, hj => by rw [outK_one ht (by omega), getD_set_ne (by omega)]; exact outK_above ht i j (by omega) (by omega)
theorem outK_le {t : List Nat} (ht : t.length = 31) {M : Nat} (hM : ∀ k, t.getD k 0 ≤ M) : ∀ i j, i ≤ 16 → (outK t i).getD j 0 ≤ 39 * M
  | 0, j, _ => by rw [outK, getD_rep]; omega
  | i + 1, j, h => by
    rw [outK_one ht (by omega)]
    by_cases e : i = j
    · subst e
      rw [getD_set_eq (by rw [outK_length]; omega)]
      have h1 := hM i
      have h2 := hM (i + 16)
      omega
    · rw [getD_set_ne e]
      exact outK_le ht hM i j (by omega)
theorem outK_val {t : List Nat} (ht : t.length = 31) : ∀ i, i ≤ 16 → valD (outK t i) = evF (fun j => t.getD j 0) i + 38 * evF (fun j => t.getD (16 + j) 0) i
  | 0, _ => by rw [outK, valD_rep, evF, evF]
  | i + 1, h => by
    have h1 := valD_set (outK t i) i (t.getD i 0 + 38 * t.getD (i + 16) 0) (by rw [outK_length]; omega)
    rw [outK_above ht i i (by omega) (Nat.le_refl _), Nat.mul_zero, Nat.add_zero, Nat.mul_add, Nat.mul_left_comm, outK_val ht i (by omega), Nat.add_comm i 16] at h1
    rw [outK_one ht (by omega), evF, evF, Nat.add_comm i 16, h1, Nat.mul_add]
    omega
theorem mul_dg (x y : F) : digN (valD (outK (mulI (dg x) (dg y) 16) 16) % P) = dg (x * y) := by
  obtain ⟨t, et⟩ : ∃ q, q = mulI (dg x) (dg y) 16 := ⟨_, rfl⟩
  have ht : t.length = 31 := by rw [et]; exact mulI_length ..
  have hv : valD t = x.val * y.val := by rw [et, mulI_val _ _ 16 (Nat.le_refl _), evF_dg, evF_dg]
  have h1 := outK_val ht 16 (Nat.le_refl _)
  have h2 := evF_split (fun j => t.getD j 0) 16 16
  have h3 : evF (fun j => t.getD j 0) (16 + 16) = valD t := by
    rw [valD_evF, ht]
    show evF (fun j => t.getD j 0) 31 + 65536 ^ 31 * t.getD 31 0 = _
    have e : t.getD 31 0 = 0 := by rw [List.getD_eq_getElem?_getD, List.getElem?_eq_none (by omega)]; rfl
    rw [e, Nat.mul_zero, Nat.add_zero]
  rw [h3, hv, pow16, Nat.add_mul] at h2
  have h4 : x.val * y.val = valD (outK t 16) + P * (2 * evF (fun j => t.getD (16 + j) 0) 16) := by
    rw [h2, h1, Nat.mul_comm 2 P, Nat.mul_assoc]
    omega
  rw [← et]
  show _ = digN (x * y).val
  rw [Fin.val_mul, h4, Nat.add_mul_mod_self_left]
end Go.Proofs.Ytikjcikedbcfmaa
