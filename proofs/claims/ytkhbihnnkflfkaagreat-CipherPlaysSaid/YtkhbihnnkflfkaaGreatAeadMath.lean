/-
 THE PLAIN LAW of package aead: what was sealed comes back; no program in sight.
-/
import Derived.Test.YtkhbihnnkflfkaaGreatAead
namespace Go.Proofs.YtkhbihnnkflfkaaGreat
set_option linter.unusedVariables false
set_option linter.unusedSimpArgs false
theorem xorL_getD (xs ys : List Nat) : ∀ (K i : Nat), i < K → (xorL xs ys K).getD i 0 = xs.getD i 0 ^^^ ys.getD i 0 := by
 intro K
 induction K with
 | zero => intro i h; omega
 | succ K ih =>
  intro i h
  rw [xorL, List.getD_eq_getElem?_getD]
  by_cases hk : i < K
  ·rw [List.getElem?_append_left (by rw [xorL_length]; omega), ← List.getD_eq_getElem?_getD, ih i hk]
  ·obtain rfl : i = K := by omega
   rw [List.getElem?_append_right (by rw [xorL_length]; omega), xorL_length, Nat.sub_self]
   rfl
theorem chunkL_getD (bs : List Nat) (m k i : Nat) (h : i < m) : (chunkL bs m k).getD i 0 = bs.getD (m * k + i) 0 := by
 unfold chunkL
 rw [List.getD_eq_getElem?_getD, List.getElem?_take, if_pos h, List.getElem?_drop, ← List.getD_eq_getElem?_getD]
def ctrN (n : Nat) : Nat → Nat
 | 0 => n
 | j + 1 => (ctrN n j + 1) % 4294967296
theorem xorSt_ctr (ks ns : List Nat) (n : Nat) (bs : List Nat) : ∀ j, (xorSt ks ns n bs (List.range j)).2 = ctrN n j := by
 intro j
 induction j with
 | zero => simp [xorSt, ctrN]
 | succ j ih => rw [List.range_succ, xorSt_snoc, ctrN, ih]
def keyAt (ks ns : List Nat) (n i : Nat) : Nat := (blockL ks ns (ctrN n (i / 64))).getD (i % 64) 0
theorem xorSt_getD (ks ns : List Nat) (n : Nat) (bs : List Nat) : ∀ (j i : Nat), i < min (64 * j) bs.length → (xorSt ks ns n bs (List.range j)).1.getD i 0 = bs.getD i 0 ^^^ keyAt ks ns n i := by
 intro j
 induction j with
 | zero => intro i h; omega
 | succ j ih =>
  intro i h
  have hl := xorSt_length ks ns n bs j
  have hc := chunkL_length bs 64 j
  rw [List.range_succ, xorSt_snoc]
  show (_ ++ _ : List Nat).getD i 0 = _
  rw [List.getD_eq_getElem?_getD]
  by_cases hk : i < min (64 * j) bs.length
  ·rw [List.getElem?_append_left (by omega), ← List.getD_eq_getElem?_getD, ih i hk]
  ·have h1 : i - 64 * j < 64 := by omega
   rw [List.getElem?_append_right (by omega), ← List.getD_eq_getElem?_getD, hl, show min (64 * j) bs.length = 64 * j by omega, xorL_getD _ _ _ _ (by omega), chunkL_getD _ _ _ _ h1, xorSt_ctr, show 64 * j + (i - 64 * j) = i by omega]
   unfold keyAt
   rw [show i / 64 = j by omega, show i % 64 = i - 64 * j by omega]
theorem xorS_getD (ks ns : List Nat) (n : Nat) (bs : List Nat) (i : Nat) (h : i < bs.length) : (xorS ks ns n bs).getD i 0 = bs.getD i 0 ^^^ keyAt ks ns n i := by
 unfold xorS
 exact xorSt_getD ks ns n bs _ i (by omega)
theorem getD_ext {xs ys : List Nat} (hl : xs.length = ys.length) (h : ∀ i, i < xs.length → xs.getD i 0 = ys.getD i 0) : xs = ys := by
 refine List.ext_getElem hl fun i h1 h2 => ?_
 have := h i h1
 rwa [List.getD_eq_getElem?_getD, List.getD_eq_getElem?_getD, List.getElem?_eq_getElem h1, List.getElem?_eq_getElem h2] at this
theorem xorS_back (ks ns : List Nat) (n : Nat) (bs : List Nat) : xorS ks ns n (xorS ks ns n bs) = bs := by
 refine getD_ext (by rw [xorS_length, xorS_length]) fun i h => ?_
 rw [xorS_length, xorS_length] at h
 rw [xorS_getD _ _ _ _ _ (by rw [xorS_length]; exact h), xorS_getD _ _ _ _ _ h, Nat.xor_assoc, Nat.xor_self, Nat.xor_zero]
theorem openL_sealL (ks ns ad bs : List Nat) : openL ks ns ad (sealL ks ns ad bs) = (bs, 0) := by
 have hx := xorS_length ks ns 1 bs
 have h1 : (sealL ks ns ad bs).take ((sealL ks ns ad bs).length - 16) = xorS ks ns 1 bs := by
  rw [sealL_length, Nat.add_sub_cancel, sealL, ← hx, List.take_left]
 have h2 : (sealL ks ns ad bs).drop ((sealL ks ns ad bs).length - 16) = macL ks ns ad (xorS ks ns 1 bs) := by
  rw [sealL_length, Nat.add_sub_cancel, sealL, ← hx, List.drop_left]
 unfold openL
 rw [if_neg (by rw [sealL_length]; omega), h1, h2, if_pos rfl, xorS_back]
def rekeyL (k : List Nat) : List Nat := (sealL k (nonceL 18446744073709551615) [] (List.replicate 32 0)).take 32
theorem rekeyL_length (k : List Nat) : (rekeyL k).length = 32 := by unfold rekeyL; rw [List.length_take, sealL_length, List.length_replicate]; rfl
end Go.Proofs.YtkhbihnnkflfkaaGreat
