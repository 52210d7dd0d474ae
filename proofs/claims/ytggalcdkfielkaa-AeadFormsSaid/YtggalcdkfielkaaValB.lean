/-
  NUMBERS BY DIGITS, to any base: what a digit that is set does; no program in sight.
-/
import Derived.WalkKit
namespace Go.Proofs.Ytggalcdkfielkaa
set_option linter.unusedVariables false
set_option linter.unusedSimpArgs false

/-- The number that digits are, low first. -/
def valB (b : Nat) : List Nat → Nat
  | [] => 0
  | d :: l => d + b * valB b l
theorem valB_set (b : Nat) : ∀ (l : List Nat) (i x : Nat), i < l.length → valB b (l.set i x) + b ^ i * l.getD i 0 = valB b l + b ^ i * x
  | d :: l, 0, x, _ => by simp [valB]; omega
  | d :: l, i + 1, x, h => by
    have h1 := valB_set b l i x (by simpa using h)
    simp only [List.set_cons_succ, valB, List.getD_cons_succ]
    have h2 : b * valB b (l.set i x) + b * (b ^ i * l.getD i 0) = b * valB b l + b * (b ^ i * x) := by rw [← Nat.mul_add, h1, Nat.mul_add]
    rw [Nat.pow_succ, Nat.mul_comm (b ^ i) b, Nat.mul_assoc, Nat.mul_assoc]
    omega
theorem valB_lt {b : Nat} (hb : 0 < b) : ∀ l : List Nat, (∀ d ∈ l, d < b) → valB b l < b ^ l.length
  | [], _ => by simp [valB]
  | d :: l, h => by
    have h1 := valB_lt hb l (fun x hx => h x (List.mem_cons_of_mem _ hx))
    have h2 := h d (List.mem_cons_self ..)
    have h3 : b * (valB b l + 1) ≤ b * b ^ l.length := Nat.mul_le_mul_left b h1
    rw [Nat.mul_add, Nat.mul_one] at h3
    rw [valB, List.length_cons, Nat.pow_succ, Nat.mul_comm (b ^ l.length)]
    omega
theorem valB_rep (b : Nat) : ∀ n, valB b (List.replicate n 0) = 0
  | 0 => rfl
  | n + 1 => by rw [List.replicate_succ, valB, valB_rep b n, Nat.mul_zero]
/-- So many digits as a number. -/
def evB (b : Nat) (f : Nat → Nat) : Nat → Nat
  | 0 => 0
  | i + 1 => evB b f i + b ^ i * f i
theorem evB_shift (b d : Nat) (f : Nat → Nat) : ∀ k, evB b (fun j => match j with | 0 => d | j + 1 => f j) (k + 1) = d + b * evB b f k
  | 0 => by simp [evB]
  | k + 1 => by
    rw [evB, evB_shift b d f k]
    show d + b * evB b f k + b ^ (k + 1) * f k = d + b * (evB b f k + b ^ k * f k)
    rw [Nat.mul_add, Nat.pow_succ, Nat.mul_comm (b ^ k) b, Nat.mul_assoc]
    omega
theorem valB_evB (b : Nat) : ∀ l : List Nat, valB b l = evB b (fun j => l.getD j 0) l.length
  | [] => rfl
  | d :: l => by
    rw [valB, valB_evB b l, List.length_cons, ← evB_shift]
    congr 1
    funext j
    cases j <;> rfl
theorem getDB_ne {l : List Nat} {i j x : Nat} (h : i ≠ j) : (l.set i x).getD j 0 = l.getD j 0 := by
  simp only [List.getD_eq_getElem?_getD]
  rw [List.getElem?_set_ne h]
theorem getDB_eq {l : List Nat} {i x : Nat} (h : i < l.length) : (l.set i x).getD i 0 = x := by
  simp only [List.getD_eq_getElem?_getD]
  rw [List.getElem?_set_self h]
  rfl
end Go.Proofs.Ytggalcdkfielkaa
