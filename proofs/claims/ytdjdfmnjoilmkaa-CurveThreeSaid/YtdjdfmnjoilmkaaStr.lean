/-
  Bytes as strings: 'string(b)', and whether two such are the same. The number of the bytes of a number.
-/
import Derived.Test.YtdjdfmnjoilmkaaTwoParse
import Derived.Laws.BytesArg
namespace Go.Proofs.Ytdjdfmnjoilmkaa
open Go.RowKit
set_option linter.unusedVariables false
set_option linter.unusedSimpArgs false

def strB (xs : List Nat) : ByteArray := ⟨(xs.map UInt8.ofNat).toArray⟩

theorem strB_inj {xs ys : List Nat} (hx : ∀ x ∈ xs, x < 256) (hy : ∀ y ∈ ys, y < 256) : (strB xs = strB ys) = (xs = ys) := by
  apply propext
  constructor
  · intro h
    have h1 : xs.map UInt8.ofNat = ys.map UInt8.ofNat := by
      have := congrArg (fun b : ByteArray => b.data.toList) h
      simpa [strB] using this
    clear h
    induction xs generalizing ys with
    | nil => cases ys with
      | nil => rfl
      | cons y ys => simp at h1
    | cons x xs ih =>
      cases ys with
      | nil => simp at h1
      | cons y ys =>
        simp only [List.map_cons, List.cons.injEq] at h1
        have hxy : x = y := by
          have h2 := congrArg UInt8.toNat h1.1
          have a1 := hx x (by simp)
          have a2 := hy y (by simp)
          simp only [UInt8.toNat_ofNat'] at h2
          omega
        rw [hxy, ih (fun x hx' => hx x (by simp [hx'])) (fun y hy' => hy y (by simp [hy'])) h1.2]
  · intro h; rw [h]

theorem strB_nums (xs : List Nat) : strOfNums (xs.map fun n : Nat => (n : Int)) = strB xs := by
  simp only [strOfNums, strB, List.map_map]
  rfl

theorem conv_str {w : World} {A : Option Addr} {c : Nat} {xs : List Nat} (h : Bs w A c xs) : (convert 32 9 (.slice A xs.length c)).run Try.prog w = .ok (.string (strB xs)) w := by
  by_cases h0 : xs = []
  · subst h0
    cases A with
    | none => exact run_convert_bytes_nil w _ 5 (by kernel_rfl) (by kernel_rfl) 0 c _ (by kernel_rfl)
    | some a =>
      rw [run_convert_bytes_string w _ _ 5 _ _ _ (by kernel_rfl) (by kernel_rfl) (by kernel_rfl)]
      exact run_bytesToString w a 0 c [] rfl
  · rcases h.cells with h1 | ⟨b, off, rfl, hc⟩
    · exact absurd h1 h0
    · rw [← strB_nums]
      refine run_convert_bytes_arg w _ 5 (by kernel_rfl) (by kernel_rfl) b off xs.length c _ (by simp) (fun i hi => ?_) _ (by kernel_rfl)
      rw [hc i hi]
      congr 2
      simp [hi]

theorem exec_str {o : Oper} {a : Act} {w : World} {x : Operand} {A : Option Addr} {c n : Nat} {xs : List Nat} (ho : o.op = .convert 32 9 x) (hx : a.eval x = .slice A n c) (hn : xs.length = n) (hB : Bs w A c xs) :
    (execOp a.eval o).run Try.prog w = .ok (.value (.string (strB xs))) w := by
  subst hn
  have h := conv_str hB
  generalize a.eval = ev at hx ⊢
  simp only [execOp, ho, hx, Sem.run_bind, h]
  rfl

theorem u8_xor_nat (a b : Nat) (ha : a < 256) (hb : b < 256) : bits .xor .u8 (a : Int) (b : Int) = ((a ^^^ b : Nat) : Int) := by
  have h := Nat.xor_lt_two_pow (n := 8) ha hb
  have h' : (a ^^^ b) < 256 := h
  rw [u8_xor _ _ (by omega) (by omega) (by omega) (by omega)]
  simp
theorem u8s_set (zs : List Nat) (i v : Nat) : (u8s zs).toArray.setIfInBounds i (.int .u8 (v : Int)) = (u8s (zs.set i v)).toArray := by
  simp [u8s, List.map_set]

/-- A slice's value, of these bytes. -/
def BsV (xs : List Nat) (w : World) (v : Value) : Prop := ∃ A c, v = .slice A xs.length c ∧ Bs w A c xs
theorem BsV.old {xs : List Nat} {w w' : World} {v : Value} (h : BsV xs w v) (hb : Below w.heap.size w w') : BsV xs w' v := by
  obtain ⟨A, c, hv, hB⟩ := h
  exact ⟨A, c, hv, hB.below hb⟩

theorem byteA_list (N : Nat) : byteA N 255 = (u8s (byteL N)).toArray := by
  simp [byteA, byteL, u8s]

theorem Bytes_V {x : F} {u : Value} (hu : ElV x u) (w : World) : Calls Try.prog 23 #[u] w fun e w' => ∃ r, e = .returned r ∧ BsV (byteL x.val) w' r ∧ Below w.heap.size w w' := by
  obtain ⟨a0, a1, a2, a3, a4, rfl, ha⟩ := hu
  refine (Bytes_any ha w).mono fun e w' ⟨g, he, hg, hB, hb⟩ => ⟨_, he, ⟨some ⟨g, 0, none⟩, 32, by rw [byteL_length], Bs_byteA hB⟩, hb⟩

theorem byteL_lt (N : Nat) : ∀ x ∈ byteL N, x < 256 := by
  intro x hx
  obtain ⟨j, _, rfl⟩ := List.mem_map.1 hx
  exact byteOf_lt _ _ _

theorem low_byteL (N : Nat) : ∀ k, k ≤ 32 → lowN (byteL N) 0 k = N % 2 ^ 255 % 2 ^ (8 * k) := by
  intro k
  induction k with
  | zero => intro _; simp [lowN, Nat.mod_one]
  | succ k ih =>
    intro hk
    have hg : (byteL N).getD (0 + k) 0 = byteOf N 255 k := by simp [byteL, show k < 32 by omega]
    rw [lowN, ih (by omega), hg, show 8 * (k + 1) = 8 * k + 8 by omega, Nat.pow_add, Nat.mod_mul]
    unfold byteOf
    rw [show (2 : Nat) ^ 8 = 256 from rfl, Nat.mul_comm (2 ^ (8 * k)) (_ % 256)]
theorem numL_byteL (x : F) : numL (byteL x.val) = x := by
  have h1 := low_byteL x.val 32 (by omega)
  have h2 := x.lt255
  rw [Nat.mod_eq_of_lt h2, Nat.mod_eq_of_lt (Nat.lt_of_lt_of_le h2 (by decide))] at h1
  unfold numL
  rw [h1, show (57896044618658097711785492504343953926634992332820282019728792003956564819968 : Nat) = 2 ^ 255 from rfl, Nat.mod_eq_of_lt h2]
  exact toF_val_self x

theorem lowN_congr {xs ys : List Nat} {i : Nat} : ∀ k, (∀ j, j < k → xs.getD (i + j) 0 = ys.getD (i + j) 0) → lowN xs i k = lowN ys i k := by
  intro k
  induction k with
  | zero => intro _; rfl
  | succ k ih => intro h; rw [lowN, lowN, ih (fun j hj => h j (by omega)), h k (by omega)]
theorem numL_flip {zs : List Nat} (hl : zs.length = 32) (h8 : ∀ z ∈ zs, z < 256) : numL (zs.set 31 (zs.getD 31 0 ^^^ 128)) = numL zs := by
  unfold numL
  congr 2
  have e : ∀ ys : List Nat, lowN ys 0 32 = lowN ys 0 31 + ys.getD 31 0 * 2 ^ 248 := fun ys => by rw [lowN]
  rw [e, e zs]
  have h1 : lowN (zs.set 31 (zs.getD 31 0 ^^^ 128)) 0 31 = lowN zs 0 31 := lowN_congr 31 (fun j hj => by
    simp only [Nat.zero_add, List.getD_eq_getElem?_getD]
    rw [List.getElem?_set_ne (by omega)])
  have h2 : (zs.set 31 (zs.getD 31 0 ^^^ 128)).getD 31 0 = zs.getD 31 0 ^^^ 128 := by
    simp [List.getD_eq_getElem?_getD, hl]
  rw [h1, h2]
  have h3 := lowN_lt h8 0 31
  have h4 : zs.getD 31 0 < 256 := getD_lt h8 31
  generalize zs.getD 31 0 = z at *
  have h5 : (z ^^^ 128) % 128 = z % 128 := by
    have : ∀ k : Fin 256, (k.val ^^^ 128) % 128 = k.val % 128 := by decide +kernel
    exact this ⟨z, h4⟩
  generalize z ^^^ 128 = y at *
  generalize lowN zs 0 31 = L at *
  omega
end Go.Proofs.Ytdjdfmnjoilmkaa
