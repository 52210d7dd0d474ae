/-
  THE REFERENCE'S POLY1305, PLAINLY: seventeen digits of 8 bits. No program in sight.
-/
import Derived.Test.YtggalcdkfielkaaValB
namespace Go.Proofs.Ytggalcdkfielkaa
set_option linter.unusedVariables false
set_option linter.unusedSimpArgs false

abbrev M130 : Nat := 1361129467683753853853498429727072845824
/-- So many digits of a number, low first. -/
def dgK : Nat → Nat → List Nat
  | 0, _ => []
  | k + 1, n => n % 256 :: dgK k (n / 256)
def dgP (n : Nat) : List Nat := dgK 17 n
theorem dgK_length : ∀ k n, (dgK k n).length = k
  | 0, _ => rfl
  | k + 1, n => by rw [dgK, List.length_cons, dgK_length k]
theorem dgP_length (n : Nat) : (dgP n).length = 17 := dgK_length 17 n
theorem valB_dgK : ∀ k n, valB 256 (dgK k n) = n % 256 ^ k
  | 0, n => by rw [dgK, valB, Nat.pow_zero, Nat.mod_one]
  | k + 1, n => by
    rw [dgK, valB, valB_dgK k, Nat.pow_succ, Nat.mul_comm (256 ^ k), Nat.mod_mul]
theorem dgK_lt : ∀ k n, ∀ d ∈ dgK k n, d < 256
  | k + 1, n, d, h => by
    rw [dgK] at h
    rcases List.mem_cons.1 h with rfl | h
    · exact Nat.mod_lt _ (by decide)
    · exact dgK_lt k _ d h
theorem dgK_valB : ∀ l : List Nat, (∀ d ∈ l, d < 256) → dgK l.length (valB 256 l) = l
  | [], _ => rfl
  | d :: l, h => by
    have h1 := h d (List.mem_cons_self ..)
    rw [List.length_cons, dgK, valB, show (d + 256 * valB 256 l) % 256 = d by omega, show (d + 256 * valB 256 l) / 256 = valB 256 l by omega, dgK_valB l (fun x hx => h x (List.mem_cons_of_mem _ hx))]
theorem dgK_at : ∀ (i k n : Nat), i < k → (dgK k n).getD i 0 = n / 256 ^ i % 256
  | 0, k + 1, n, _ => by rw [dgK, List.getD_cons_zero, Nat.pow_zero, Nat.div_one]
  | i + 1, k + 1, n, h => by
    rw [dgK, List.getD_cons_succ, dgK_at i k _ (by omega), Nat.div_div_eq_div_mul, Nat.pow_succ, Nat.mul_comm 256]
theorem dgK_app (a : Nat) : ∀ k n, dgK k n ++ dgK a (n / 256 ^ k) = dgK (k + a) n
  | 0, n => by rw [Nat.pow_zero, Nat.div_one, Nat.zero_add]; rfl
  | k + 1, n => by
    rw [show k + 1 + a = (k + a) + 1 by omega, dgK, dgK, List.cons_append, ← dgK_app a k, Nat.div_div_eq_div_mul, Nat.pow_succ, Nat.mul_comm 256]
theorem dgK_mod : ∀ k n, dgK k (n % 256 ^ k) = dgK k n
  | 0, n => rfl
  | k + 1, n => by
    rw [dgK, dgK, Nat.pow_succ, Nat.mul_comm (256 ^ k), Nat.mod_mul, show (n % 256 + 256 * (n / 256 % 256 ^ k)) % 256 = n % 256 by omega, show (n % 256 + 256 * (n / 256 % 256 ^ k)) / 256 = n / 256 % 256 ^ k by omega, dgK_mod k]
theorem getD_small {l : List Nat} {M : Nat} (h : ∀ d ∈ l, d ≤ M) (j : Nat) : l.getD j 0 ≤ M := by
  rw [List.getD_eq_getElem?_getD]
  by_cases hj : j < l.length
  · rw [List.getElem?_eq_getElem hj]; exact h _ (List.getElem_mem hj)
  · rw [List.getElem?_eq_none (by omega)]; exact Nat.zero_le _
theorem dgP_le (n j : Nat) : (dgP n).getD j 0 ≤ 255 := getD_small (fun d hd => Nat.le_of_lt_succ (dgK_lt 17 n d hd)) j
theorem valB_dgP {n : Nat} (h : n < M130) : valB 256 (dgP n) = n := by
  rw [dgP, valB_dgK]
  exact Nat.mod_eq_of_lt (Nat.lt_trans h (by decide))
theorem mem_get {l : List Nat} {M : Nat} (h : ∀ j, j < l.length → l.getD j 0 < M) : ∀ d ∈ l, d < M := by
  intro d hd
  obtain ⟨i, hi, rfl⟩ := List.mem_iff_getElem.1 hd
  have h2 := h i hi
  rwa [List.getD_eq_getElem?_getD, List.getElem?_eq_getElem hi] at h2
theorem dgP_of {l : List Nat} (hl : l.length = 17) (h : ∀ j, j < 17 → l.getD j 0 < 256) : l = dgP (valB 256 l) := by
  have h2 := dgK_valB l (mem_get (fun j hj => h j (by omega)))
  rw [hl] at h2
  exact h2.symm

/-! Numbers by their digits. -/
theorem evB_lt {f : Nat → Nat} {b : Nat} : ∀ k, (∀ j, j < k → f j < b) → evB b f k < b ^ k
  | 0, _ => by rw [evB, Nat.pow_zero]; decide
  | k + 1, h => by
    have h1 := evB_lt k (fun j hj => h j (by omega))
    have h2 : b ^ k * (f k + 1) ≤ b ^ k * b := Nat.mul_le_mul_left (b ^ k) (h k (by omega))
    rw [Nat.mul_add, Nat.mul_one] at h2
    rw [evB, Nat.pow_succ]
    omega
theorem evB_le {f : Nat → Nat} {N : Nat} (h : ∀ j, f j ≤ 255 * N) : ∀ k, evB 256 f k + N ≤ N * 256 ^ k
  | 0 => by rw [evB, Nat.pow_zero]; omega
  | k + 1 => by
    have h1 := evB_le h k
    have h2 := Nat.mul_le_mul_left (256 ^ k) (h k)
    have h3 : 256 ^ k * (255 * N) = 255 * (N * 256 ^ k) := by rw [Nat.mul_left_comm, Nat.mul_comm (256 ^ k) N]
    rw [evB, Nat.pow_succ, ← Nat.mul_assoc]
    omega

/-! A carry, from the lowest digit on. -/
def ripK (l : List Nat) : Nat → List Nat × Nat
  | 0 => (l, 0)
  | i + 1 => ((ripK l i).1.set i (((ripK l i).2 + (ripK l i).1.getD i 0) % 256), ((ripK l i).2 + (ripK l i).1.getD i 0) / 256)
theorem ripK_length (l : List Nat) : ∀ i, (ripK l i).1.length = l.length
  | 0 => rfl
  | i + 1 => by rw [ripK, List.length_set]; exact ripK_length l i
theorem ripK_above (l : List Nat) : ∀ i j, i ≤ j → (ripK l i).1.getD j 0 = l.getD j 0
  | 0, j, _ => rfl
  | i + 1, j, h => by rw [ripK, getDB_ne (by omega)]; exact ripK_above l i j (by omega)
theorem ripK_below (l : List Nat) : ∀ i j, j < i → i ≤ l.length → (ripK l i).1.getD j 0 < 256
  | i + 1, j, h, hl => by
    rw [ripK]
    by_cases e : i = j
    · subst e
      rw [getDB_eq (by rw [ripK_length]; omega)]
      exact Nat.mod_lt _ (by decide)
    · rw [getDB_ne e]
      exact ripK_below l i j (by omega) (by omega)
theorem ripK_val (l : List Nat) : ∀ i, i ≤ l.length → valB 256 (ripK l i).1 + 256 ^ i * (ripK l i).2 = valB 256 l
  | 0, _ => by simp [ripK]
  | i + 1, h => by
    have h1 := ripK_val l i (by omega)
    have h2 := valB_set 256 (ripK l i).1 i (((ripK l i).2 + (ripK l i).1.getD i 0) % 256) (by rw [ripK_length]; omega)
    rw [ripK]
    dsimp only
    rw [Nat.pow_succ, Nat.mul_assoc]
    have h3 := Nat.mod_add_div ((ripK l i).2 + (ripK l i).1.getD i 0) 256
    have h4 : 256 ^ i * (((ripK l i).2 + (ripK l i).1.getD i 0) % 256 + 256 * (((ripK l i).2 + (ripK l i).1.getD i 0) / 256)) = 256 ^ i * ((ripK l i).2 + (ripK l i).1.getD i 0) := by rw [h3]
    rw [Nat.mul_add, Nat.mul_add] at h4
    omega
theorem ripK_c {l : List Nat} {M : Nat} (hM : ∀ j, l.getD j 0 ≤ 255 * M) : ∀ i, (ripK l i).2 ≤ M
  | 0 => Nat.zero_le _
  | i + 1 => by
    have h1 := ripK_c hM i
    have h2 := hM i
    rw [ripK]
    dsimp only
    rw [ripK_above l i i (Nat.le_refl _)]
    omega

/-! A round: what runs over 130 bits comes back by 5. -/
def topP (l : List Nat) : Nat := (ripK l 16).2 + (ripK l 16).1.getD 16 0
def roundP (l : List Nat) : List Nat := ((ripK l 16).1.set 16 (topP l % 4)).set 0 (((ripK l 16).1.set 16 (topP l % 4)).getD 0 0 + 5 * (topP l / 4))
def carM (V : Nat) : Nat := V % 1361129467683753853853498429727072845824 + 5 * (V / 1361129467683753853853498429727072845824)
theorem roundP_length {l : List Nat} (h : l.length = 17) : (roundP l).length = 17 := by simp only [roundP, List.length_set, ripK_length, h]
theorem rip_split {l : List Nat} (h : l.length = 17) : ∃ E, E < 340282366920938463463374607431768211456 ∧ valB 256 l = E + 340282366920938463463374607431768211456 * topP l ∧ valB 256 (ripK l 16).1 = E + 340282366920938463463374607431768211456 * (ripK l 16).1.getD 16 0 := by
  have h0 := ripK_val l 16 (by omega)
  have h1 := valB_evB 256 (ripK l 16).1
  rw [ripK_length, h, evB] at h1
  have h2 := evB_lt (f := fun j => (ripK l 16).1.getD j 0) (b := 256) 16 (fun j hj => ripK_below l 16 j hj (by omega))
  have e16 : (256 : Nat) ^ 16 = 340282366920938463463374607431768211456 := by decide
  rw [e16] at h0 h1 h2
  refine ⟨_, h2, ?_, h1⟩
  unfold topP
  omega
theorem roundP_val {l : List Nat} (h : l.length = 17) : valB 256 (roundP l) = carM (valB 256 l) := by
  obtain ⟨E, hE, h1, h2⟩ := rip_split h
  have h3 := valB_set 256 (ripK l 16).1 16 (topP l % 4) (by rw [ripK_length]; omega)
  have h4 := valB_set 256 ((ripK l 16).1.set 16 (topP l % 4)) 0 (((ripK l 16).1.set 16 (topP l % 4)).getD 0 0 + 5 * (topP l / 4)) (by rw [List.length_set, ripK_length]; omega)
  have e16 : (256 : Nat) ^ 16 = 340282366920938463463374607431768211456 := by decide
  rw [e16] at h3
  rw [Nat.pow_zero, Nat.one_mul, Nat.one_mul] at h4
  unfold roundP carM
  rw [h1]
  generalize valB 256 (((ripK l 16).1.set 16 (topP l % 4)).set 0 (((ripK l 16).1.set 16 (topP l % 4)).getD 0 0 + 5 * (topP l / 4))) = A at *
  generalize valB 256 ((ripK l 16).1.set 16 (topP l % 4)) = B at *
  generalize ((ripK l 16).1.set 16 (topP l % 4)).getD 0 0 = B0 at *
  generalize topP l = C at *
  generalize (ripK l 16).1.getD 16 0 = D at *
  omega
theorem roundP_get {l : List Nat} (h : l.length = 17) {j : Nat} (hj : j < 17) (h0 : ¬ 0 = j) : (roundP l).getD j 0 < 256 := by
  unfold roundP
  rw [getDB_ne h0]
  by_cases e : 16 = j
  · subst e
    rw [getDB_eq (by rw [ripK_length]; omega)]
    omega
  · rw [getDB_ne e]
    exact ripK_below l 16 j (by omega) (by omega)
theorem roundP_zero {l : List Nat} (h : l.length = 17) : (roundP l).getD 0 0 ≤ 255 + 5 * (topP l / 4) := by
  unfold roundP
  have h1 : ((ripK l 16).1.set 16 (topP l % 4)).getD 0 0 ≤ 255 := by
    rw [getDB_ne (by decide)]
    exact Nat.le_of_lt_succ (ripK_below l 16 0 (by omega) (by omega))
  rw [getDB_eq (by rw [List.length_set, ripK_length]; omega)]
  omega
theorem topP_le {l : List Nat} {M : Nat} (hM : ∀ j, l.getD j 0 ≤ 255 * M) : topP l ≤ 256 * M := by
  have h1 := ripK_c hM 16
  have h2 := hM 16
  unfold topP
  rw [ripK_above l 16 16 (Nat.le_refl _)]
  omega
theorem roundP_le {l : List Nat} (h : l.length = 17) {M : Nat} (hM : ∀ j, l.getD j 0 ≤ 255 * M) (j : Nat) : (roundP l).getD j 0 ≤ 255 * (2 * M + 1) := by
  by_cases h17 : j < 17
  · by_cases e : 0 = j
    · subst e
      have h1 := roundP_zero h
      have h2 := topP_le hM
      omega
    · have h1 := roundP_get h h17 e
      omega
  · rw [List.getD_eq_getElem?_getD, List.getElem?_eq_none (by rw [roundP_length h]; omega)]
    exact Nat.zero_le _
def rndP (l : List Nat) : Nat → List Nat
  | 0 => l
  | R + 1 => roundP (rndP l R)
theorem rndP_length {l : List Nat} (h : l.length = 17) : ∀ R, (rndP l R).length = 17
  | 0 => h
  | R + 1 => roundP_length (rndP_length h R)
theorem rndP_ok {l : List Nat} (h : l.length = 17) (hM : ∀ j, l.getD j 0 ≤ 255 * 4294967296) : ∀ R, R ≤ 3 → (rndP l R).length = 17 ∧ ∀ j, (rndP l R).getD j 0 ≤ 255 * 68719476736 := by
  have h1 := roundP_le h hM
  have h2 := roundP_le (roundP_length h) h1
  have h3 := roundP_le (roundP_length (roundP_length h)) h2
  intro R hR
  refine ⟨rndP_length h R, fun j => ?_⟩
  rcases (show R = 0 ∨ R = 1 ∨ R = 2 ∨ R = 3 by omega) with rfl | rfl | rfl | rfl
  · have := hM j; show l.getD j 0 ≤ _; omega
  · have := h1 j; show (roundP l).getD j 0 ≤ _; omega
  · have := h2 j; show (roundP (roundP l)).getD j 0 ≤ _; omega
  · have := h3 j; show (roundP (roundP (roundP l))).getD j 0 ≤ _; omega
def car2 (V : Nat) : Nat := carM (carM V)
theorem carM_small {V : Nat} (h : V < 1361129467683753853853498429727072845824) : carM V = V := by unfold carM; omega
theorem car2_small {V : Nat} (h : V < 1361129467683753853853498429727072845824) : car2 V = V := by unfold car2; rw [carM_small h, carM_small h]
theorem car2_lt {V : Nat} (h : V < 374144419156711147060143317175368453031918731001856) : car2 V < 1361129467683753853853498429727072845824 := by
  unfold car2 carM
  omega
theorem carM_mod (V : Nat) : carM V % 1361129467683753853853498429727072845819 = V % 1361129467683753853853498429727072845819 := by unfold carM; omega
theorem car2_mod (V : Nat) : car2 V % 1361129467683753853853498429727072845819 = V % 1361129467683753853853498429727072845819 := by unfold car2; rw [carM_mod, carM_mod]
theorem round_canon {l : List Nat} (h : l.length = 17) (hv : valB 256 l < 1361129467683753853853498429727072845824) : roundP l = dgP (valB 256 l) := by
  have h1 := dgP_of (roundP_length h) (fun j hj => by
    by_cases e : 0 = j
    · subst e
      obtain ⟨E, hE, h2, h3⟩ := rip_split h
      have h4 := roundP_zero h
      have h5 : topP l / 4 = 0 := by omega
      omega
    · exact roundP_get h hj e)
  rw [roundP_val h, carM_small hv] at h1
  exact h1
theorem val_bound {l : List Nat} (h : l.length = 17) {M : Nat} (hM : ∀ j, l.getD j 0 ≤ 255 * M) : valB 256 l + M ≤ M * 87112285931760246646623899502532662132736 := by
  have h1 := evB_le (f := fun j => l.getD j 0) hM 17
  rw [valB_evB, h]
  exact h1
theorem carry_val {l : List Nat} (h : l.length = 17) (hM : ∀ j, l.getD j 0 ≤ 255 * 4294967296) : rndP l 3 = dgP (car2 (valB 256 l)) ∧ car2 (valB 256 l) < 1361129467683753853853498429727072845824 := by
  have hb := val_bound h hM
  have hc : car2 (valB 256 l) < 1361129467683753853853498429727072845824 := car2_lt (by omega)
  have e1 : valB 256 (rndP l 2) = car2 (valB 256 l) := by
    show valB 256 (roundP (roundP l)) = _
    rw [roundP_val (roundP_length h), roundP_val h]
    rfl
  have h2 := round_canon (rndP_length h 2) (by rw [e1]; exact hc)
  rw [e1] at h2
  exact ⟨h2, hc⟩

/-! Products: what runs over 136 bits comes back by 320. -/
def tmJ (t b : List Nat) (x i : Nat) : Nat → List Nat
  | 0 => t
  | J + 1 => if i + J < 17 then (tmJ t b x i J).set (i + J) ((tmJ t b x i J).getD (i + J) 0 + x * b.getD J 0) else (tmJ t b x i J).set (i + J - 17) ((tmJ t b x i J).getD (i + J - 17) 0 + 320 * x * b.getD J 0)
theorem tmJ_length (t b : List Nat) (x i : Nat) : ∀ J, (tmJ t b x i J).length = t.length
  | 0 => rfl
  | J + 1 => by rw [tmJ]; split <;> rw [List.length_set] <;> exact tmJ_length t b x i J
def tmI (a b : List Nat) : Nat → List Nat
  | 0 => List.replicate 17 0
  | I + 1 => tmJ (tmI a b I) b (a.getD I 0) I 17
theorem tmI_length (a b : List Nat) : ∀ I, (tmI a b I).length = 17
  | 0 => List.length_replicate
  | I + 1 => by rw [tmI, tmJ_length]; exact tmI_length a b I
theorem set_le {l : List Nat} {i x M : Nat} (h : ∀ k, l.getD k 0 ≤ M) (hx : x ≤ M) (k : Nat) : (l.set i x).getD k 0 ≤ M := by
  by_cases e : i = k
  · subst e
    by_cases hl : i < l.length
    · rw [getDB_eq hl]; exact hx
    · rw [List.set_eq_of_length_le (by omega)]; exact h i
  · rw [getDB_ne e]; exact h k
theorem tmJ_le {t b : List Nat} {x i M : Nat} (ht : ∀ k, t.getD k 0 ≤ M) (hb : ∀ j, b.getD j 0 ≤ 255) (hx : x ≤ 255) : ∀ J k, (tmJ t b x i J).getD k 0 ≤ M + J * 20808000
  | 0, k => by rw [tmJ]; have := ht k; omega
  | J + 1, k => by
    have h1 := tmJ_le ht hb hx (i := i) J
    have h2 := Nat.mul_le_mul hx (hb J)
    have h3 := Nat.mul_le_mul (Nat.mul_le_mul_left 320 hx) (hb J)
    rw [tmJ, show M + (J + 1) * 20808000 = (M + J * 20808000) + 20808000 by omega]
    generalize M + J * 20808000 = N at h1
    have h4 : ∀ k, (tmJ t b x i J).getD k 0 ≤ N + 20808000 := fun k => Nat.le_trans (h1 k) (Nat.le_add_right _ _)
    split
    · have h5 := h1 (i + J)
      exact set_le h4 (by omega) k
    · have h5 := h1 (i + J - 17)
      exact set_le h4 (by omega) k
theorem get_rep (n j : Nat) : (List.replicate n 0).getD j 0 = 0 := by
  rw [List.getD_eq_getElem?_getD]
  by_cases h : j < n
  · simp [h]
  · rw [List.getElem?_eq_none (by simp; omega)]; rfl
theorem tmI_le {a b : List Nat} (ha : ∀ j, a.getD j 0 ≤ 255) (hb : ∀ j, b.getD j 0 ≤ 255) : ∀ I k, (tmI a b I).getD k 0 ≤ I * 353736000
  | 0, k => by rw [tmI, get_rep]; omega
  | I + 1, k => by
    have h1 := tmJ_le (i := I) (tmI_le ha hb I) hb (ha I) 17 k
    rw [tmI]
    omega
theorem tmJ_val (t b : List Nat) (x i : Nat) (hi : i < 17) (ht : t.length = 17) : ∀ J, J ≤ 17 → ∃ q, valB 256 (tmJ t b x i J) + 1361129467683753853853498429727072845819 * q = valB 256 t + 256 ^ i * (x * evB 256 (fun k => b.getD k 0) J)
  | 0, _ => ⟨0, by simp [tmJ, evB]⟩
  | J + 1, h => by
    obtain ⟨q, h1⟩ := tmJ_val t b x i hi ht J (by omega)
    have e6 : 256 ^ i * (x * (evB 256 (fun k => b.getD k 0) J + 256 ^ J * b.getD J 0)) = 256 ^ i * (x * evB 256 (fun k => b.getD k 0) J) + 256 ^ (i + J) * (x * b.getD J 0) := by
      rw [Nat.mul_add, Nat.mul_add, Nat.pow_add, Nat.mul_assoc (256 ^ i) (256 ^ J), Nat.mul_left_comm x (256 ^ J)]
    rw [tmJ, evB, e6]
    split
    · have h2 := valB_set 256 (tmJ t b x i J) (i + J) ((tmJ t b x i J).getD (i + J) 0 + x * b.getD J 0) (by rw [tmJ_length, ht]; omega)
      rw [Nat.mul_add] at h2
      refine ⟨q, ?_⟩
      generalize 256 ^ (i + J) * (x * b.getD J 0) = A at *
      generalize 256 ^ (i + J) * (tmJ t b x i J).getD (i + J) 0 = B at *
      omega
    · rename_i hge
      have h2 := valB_set 256 (tmJ t b x i J) (i + J - 17) ((tmJ t b x i J).getD (i + J - 17) 0 + 320 * x * b.getD J 0) (by rw [tmJ_length, ht]; omega)
      rw [Nat.mul_add, Nat.mul_assoc 320, Nat.mul_left_comm (256 ^ (i + J - 17)) 320] at h2
      have e7 : 256 ^ (i + J) * (x * b.getD J 0) = 87112285931760246646623899502532662132736 * (256 ^ (i + J - 17) * (x * b.getD J 0)) := by
        rw [show (87112285931760246646623899502532662132736 : Nat) = 256 ^ 17 by decide, ← Nat.mul_assoc (256 ^ 17), ← Nat.pow_add, show 17 + (i + J - 17) = i + J by omega]
      rw [e7]
      refine ⟨q + 64 * (256 ^ (i + J - 17) * (x * b.getD J 0)), ?_⟩
      rw [Nat.mul_assoc 320]
      generalize 256 ^ (i + J - 17) * (x * b.getD J 0) = A at *
      generalize 256 ^ (i + J - 17) * (tmJ t b x i J).getD (i + J - 17) 0 = B at *
      generalize valB 256 ((tmJ t b x i J).set (i + J - 17) ((tmJ t b x i J).getD (i + J - 17) 0 + 320 * (x * b.getD J 0))) = C at *
      omega
theorem tmI_val {a b : List Nat} (hb : b.length = 17) : ∀ I, I ≤ 17 → ∃ q, valB 256 (tmI a b I) + 1361129467683753853853498429727072845819 * q = evB 256 (fun k => a.getD k 0) I * valB 256 b
  | 0, _ => ⟨0, by rw [tmI, evB, valB_rep, Nat.zero_mul]⟩
  | I + 1, h => by
    obtain ⟨q, h1⟩ := tmI_val (a := a) hb I (by omega)
    obtain ⟨q2, h2⟩ := tmJ_val (tmI a b I) b (a.getD I 0) I (by omega) (tmI_length a b I) 17 (Nat.le_refl _)
    have e : evB 256 (fun k => b.getD k 0) 17 = valB 256 b := by rw [valB_evB, hb]
    rw [e] at h2
    rw [tmI, evB, Nat.add_mul]
    refine ⟨q + q2, ?_⟩
    rw [Nat.mul_assoc (256 ^ I), Nat.mul_add]
    omega
/-- A product, carried: its number. -/
def timP (a b : List Nat) : Nat := car2 (valB 256 (tmI a b 17))
theorem timP_ok {a b : List Nat} (ha : ∀ j, a.getD j 0 ≤ 255) (hb : ∀ j, b.getD j 0 ≤ 255) : (tmI a b 17).length = 17 ∧ ∀ j, (tmI a b 17).getD j 0 ≤ 255 * 4294967296 := ⟨tmI_length a b 17, fun j => by have := tmI_le ha hb 17 j; omega⟩
theorem timP_val {a b : List Nat} (la : a.length = 17) (lb : b.length = 17) (ha : ∀ j, a.getD j 0 ≤ 255) (hb : ∀ j, b.getD j 0 ≤ 255) : timP a b < 1361129467683753853853498429727072845824 ∧ timP a b % 1361129467683753853853498429727072845819 = valB 256 a * valB 256 b % 1361129467683753853853498429727072845819 := by
  have hok := timP_ok ha hb
  refine ⟨(carry_val hok.1 hok.2).2, ?_⟩
  obtain ⟨q, h1⟩ := tmI_val (a := a) lb 17 (Nat.le_refl _)
  have e : evB 256 (fun k => a.getD k 0) 17 = valB 256 a := by rw [valB_evB, la]
  unfold timP
  rw [car2_mod, ← e, ← h1]
  omega

/-! The whole. -/
theorem five_rip {V : Nat} (h : V < 1361129467683753853853498429727072845824) : (ripK ((dgP V).set 0 ((dgP V).getD 0 0 + 5)) 17).1 = dgP (V + 5) := by
  have hl : ((dgP V).set 0 ((dgP V).getD 0 0 + 5)).length = 17 := by rw [List.length_set, dgP_length]
  have h1 := ripK_val ((dgP V).set 0 ((dgP V).getD 0 0 + 5)) 17 (by rw [hl]; exact Nat.le_refl _)
  have h2 := valB_set 256 (dgP V) 0 ((dgP V).getD 0 0 + 5) (by rw [dgP_length]; decide)
  rw [valB_dgP h, Nat.pow_zero, Nat.one_mul, Nat.one_mul] at h2
  have h3 : valB 256 ((dgP V).set 0 ((dgP V).getD 0 0 + 5)) = V + 5 := by omega
  rw [h3] at h1
  have h4 := dgP_of (l := (ripK ((dgP V).set 0 ((dgP V).getD 0 0 + 5)) 17).1) (by rw [ripK_length, hl]) (fun j hj => ripK_below _ 17 j hj (by rw [hl]; exact Nat.le_refl _))
  have e17 : (256 : Nat) ^ 17 = 87112285931760246646623899502532662132736 := by decide
  rw [e17] at h1
  have h5 : valB 256 (ripK ((dgP V).set 0 ((dgP V).getD 0 0 + 5)) 17).1 = V + 5 := by omega
  rw [h5] at h4
  exact h4
theorem top_five {V : Nat} (h : V < 1361129467683753853853498429727072845824) : (dgP (V + 5)).getD 16 0 = (V + 5) / 340282366920938463463374607431768211456 := by
  rw [dgP, dgK_at 16 17 _ (by decide), show (256 : Nat) ^ 16 = 340282366920938463463374607431768211456 by decide]
  omega
theorem whole_big {V : Nat} (h : V < 1361129467683753853853498429727072845824) (h4 : 4 ≤ (dgP (V + 5)).getD 16 0) : (dgP (V + 5)).set 16 ((dgP (V + 5)).getD 16 0 % 4) = dgP (V % 1361129467683753853853498429727072845819) := by
  have ht := top_five h
  have h1 := dgP_of (l := (dgP (V + 5)).set 16 ((dgP (V + 5)).getD 16 0 % 4)) (by rw [List.length_set, dgP_length]) (fun j hj => Nat.lt_succ_of_le (set_le (dgP_le (V + 5)) (by omega) j))
  have h2 := valB_set 256 (dgP (V + 5)) 16 ((dgP (V + 5)).getD 16 0 % 4) (by rw [dgP_length]; decide)
  have h3 : valB 256 (dgP (V + 5)) = V + 5 := by rw [dgP, valB_dgK]; exact Nat.mod_eq_of_lt (Nat.lt_trans (show V + 5 < 1361129467683753853853498429727072845829 by omega) (by decide))
  rw [show (256 : Nat) ^ 16 = 340282366920938463463374607431768211456 by decide, h3] at h2
  have h5 : valB 256 ((dgP (V + 5)).set 16 ((dgP (V + 5)).getD 16 0 % 4)) = V % 1361129467683753853853498429727072845819 := by
    generalize valB 256 ((dgP (V + 5)).set 16 ((dgP (V + 5)).getD 16 0 % 4)) = A at *
    have hB : (dgP (V + 5)).getD 16 0 = 4 := by omega
    rw [hB] at h2
    omega
  rw [h5] at h1
  exact h1
theorem whole_small {V : Nat} (h : V < 1361129467683753853853498429727072845824) (h4 : ¬ 4 ≤ (dgP (V + 5)).getD 16 0) : V % 1361129467683753853853498429727072845819 = V := by
  have ht := top_five h
  omega

/-! The key, the pieces, the sum. -/
def rK (ks : List Nat) : Nat → List Nat
  | 0 => List.replicate 17 0
  | K + 1 => (rK ks K).set K (ks.getD K 0)
theorem rK_length (ks : List Nat) : ∀ K, (rK ks K).length = 17
  | 0 => List.length_replicate
  | K + 1 => by rw [rK, List.length_set]; exact rK_length ks K
def cl1 (l : List Nat) : Nat → List Nat
  | 0 => l
  | K + 1 => (cl1 l K).set (4 * K + 3) ((cl1 l K).getD (4 * K + 3) 0 &&& 15)
def cl2 (l : List Nat) : Nat → List Nat
  | 0 => l
  | K + 1 => (cl2 l K).set (4 * K + 4) ((cl2 l K).getD (4 * K + 4) 0 &&& 252)
theorem cl1_length (l : List Nat) : ∀ K, (cl1 l K).length = l.length
  | 0 => rfl
  | K + 1 => by rw [cl1, List.length_set]; exact cl1_length l K
theorem cl2_length (l : List Nat) : ∀ K, (cl2 l K).length = l.length
  | 0 => rfl
  | K + 1 => by rw [cl2, List.length_set]; exact cl2_length l K
theorem cl1_le {l : List Nat} {M : Nat} (h : ∀ j, l.getD j 0 ≤ M) : ∀ K j, (cl1 l K).getD j 0 ≤ M
  | 0, j => h j
  | K + 1, j => by rw [cl1]; exact set_le (cl1_le h K) (Nat.le_trans Nat.and_le_left (cl1_le h K _)) j
theorem cl2_le {l : List Nat} {M : Nat} (h : ∀ j, l.getD j 0 ≤ M) : ∀ K j, (cl2 l K).getD j 0 ≤ M
  | 0, j => h j
  | K + 1, j => by rw [cl2]; exact set_le (cl2_le h K) (Nat.le_trans Nat.and_le_left (cl2_le h K _)) j
theorem rK_le {ks : List Nat} (h : ∀ j, ks.getD j 0 ≤ 255) : ∀ K j, (rK ks K).getD j 0 ≤ 255
  | 0, j => by rw [rK, get_rep]; decide
  | K + 1, j => by rw [rK]; exact set_le (rK_le h K) (h K) j
def rP (ks : List Nat) : List Nat := cl2 (cl1 (rK ks 16) 4) 3
theorem rP_length (ks : List Nat) : (rP ks).length = 17 := by rw [rP, cl2_length, cl1_length, rK_length]
theorem rP_le {ks : List Nat} (h : ∀ j, ks.getD j 0 ≤ 255) (j : Nat) : (rP ks).getD j 0 ≤ 255 := cl2_le (cl1_le (rK_le h 16) 4) 3 j
/-- A piece, added. -/
def addP (h xs : List Nat) : Nat → List Nat
  | 0 => h
  | K + 1 => (addP h xs K).set K ((addP h xs K).getD K 0 + xs.getD K 0)
theorem addP_length (h xs : List Nat) : ∀ K, (addP h xs K).length = h.length
  | 0 => rfl
  | K + 1 => by rw [addP, List.length_set]; exact addP_length h xs K
theorem addP_above (h xs : List Nat) : ∀ K j, K ≤ j → (addP h xs K).getD j 0 = h.getD j 0
  | 0, _, _ => rfl
  | K + 1, j, hj => by rw [addP, getDB_ne (by omega)]; exact addP_above h xs K j (by omega)
theorem addP_le {h xs : List Nat} (hh : ∀ j, h.getD j 0 ≤ 255) (hx : ∀ j, xs.getD j 0 ≤ 255) : ∀ K j, (addP h xs K).getD j 0 ≤ 510
  | 0, j => Nat.le_trans (hh j) (by decide)
  | K + 1, j => by rw [addP]; exact set_le (addP_le hh hx K) (by rw [addP_above h xs K K (Nat.le_refl _)]; have := hh K; have := hx K; omega) j
theorem addP_val (h xs : List Nat) : ∀ K, K ≤ h.length → valB 256 (addP h xs K) = valB 256 h + evB 256 (fun j => xs.getD j 0) K
  | 0, _ => by rw [addP, evB, Nat.add_zero]
  | K + 1, hK => by
    have h1 := addP_val h xs K (by omega)
    have h2 := valB_set 256 (addP h xs K) K ((addP h xs K).getD K 0 + xs.getD K 0) (by rw [addP_length]; omega)
    rw [addP, evB]
    rw [Nat.mul_add] at h2
    omega
/-- .. with the one behind it. -/
def pieP (h xs : List Nat) : List Nat := (addP h xs xs.length).set xs.length ((addP h xs xs.length).getD xs.length 0 + 1)
theorem pieP_length (h xs : List Nat) : (pieP h xs).length = h.length := by rw [pieP, List.length_set, addP_length]
theorem pieP_le {h xs : List Nat} (hh : ∀ j, h.getD j 0 ≤ 255) (hx : ∀ j, xs.getD j 0 ≤ 255) (j : Nat) : (pieP h xs).getD j 0 ≤ 255 * 4294967296 := set_le (fun k => Nat.le_trans (addP_le hh hx _ k) (by decide)) (by have := addP_le hh hx xs.length xs.length; omega) j
theorem pieP_val {h xs : List Nat} (hl : xs.length < h.length) : valB 256 (pieP h xs) = valB 256 h + valB 256 xs + 256 ^ xs.length := by
  have h1 := addP_val h xs xs.length (by omega)
  have h2 := valB_set 256 (addP h xs xs.length) xs.length ((addP h xs xs.length).getD xs.length 0 + 1) (by rw [addP_length]; omega)
  rw [← valB_evB] at h1
  rw [Nat.mul_add, Nat.mul_one] at h2
  unfold pieP
  omega
/-- A sum, told byte by byte. -/
def sumP (f : Nat → Nat) : Nat → List Nat × Nat
  | 0 => ([], 0)
  | K + 1 => ((sumP f K).1 ++ [((sumP f K).2 + f K) % 256], ((sumP f K).2 + f K) / 256)
theorem sumP_length (f : Nat → Nat) : ∀ K, (sumP f K).1.length = K
  | 0 => rfl
  | K + 1 => by rw [sumP, List.length_append, sumP_length f K]; rfl
theorem sumP_c {f : Nat → Nat} (h : ∀ j, f j ≤ 510) : ∀ K, (sumP f K).2 ≤ 2
  | 0 => Nat.zero_le _
  | K + 1 => by
    have h1 := sumP_c h K
    have h2 := h K
    rw [sumP]
    dsimp only
    omega
theorem sumP_dig (f : Nat → Nat) : ∀ K, (sumP f K).1 = dgK K (evB 256 f K) ∧ (sumP f K).2 = evB 256 f K / 256 ^ K
  | 0 => ⟨rfl, by rw [evB, Nat.zero_div]; rfl⟩
  | K + 1 => by
    obtain ⟨h1, h2⟩ := sumP_dig f K
    have hp : 0 < 256 ^ K := Nat.pow_pos (by decide)
    have e1 : (evB 256 f K + 256 ^ K * f K) / 256 ^ K = evB 256 f K / 256 ^ K + f K := Nat.add_mul_div_left _ _ hp
    have e2 : (evB 256 f K + 256 ^ K * f K) % 256 ^ K = evB 256 f K % 256 ^ K := Nat.add_mul_mod_self_left ..
    rw [sumP, evB]
    dsimp only
    rw [h1, h2]
    constructor
    · rw [← dgK_app 1 K, ← dgK_mod K (evB 256 f K + 256 ^ K * f K), e2, dgK_mod, e1]
      rfl
    · rw [Nat.pow_succ, ← Nat.div_div_eq_div_mul, e1]
end Go.Proofs.Ytggalcdkfielkaa
