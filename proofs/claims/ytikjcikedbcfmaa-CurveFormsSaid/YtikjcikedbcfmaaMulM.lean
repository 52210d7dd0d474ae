/-
  EqualW · Clamp · Str · Mult, IN ONE TEXT.
-/
import Derived.Test.YtikjcikedbcfmaaBytes1
import Derived.Test.YtikjcikedbcfmaaApp
import Derived.Test.YtikjcikedbcfmaaTwoParse
import Derived.Laws.BytesArg
import Derived.Test.YtikjcikedbcfmaaStpM
/-
  WALKS: word.Equal.
-/
namespace Go.Proofs.Ytikjcikedbcfmaa
open Go.RowKit
set_option linter.unusedVariables false
set_option linter.unusedSimpArgs false

theorem or_xor_zero (v a b : Nat) (hv : v < 256) (ha : a < 256) (hb : b < 256) : ∃ u : Nat, bits .or .u8 (v : Int) (bits .xor .u8 (a : Int) (b : Int)) = (u : Int) ∧ u < 256 ∧ (u = 0 ↔ v = 0 ∧ a = b) := by
  rw [u8_xor_nat a b ha hb]
  have hx : a ^^^ b < 256 := Nat.xor_lt_two_pow (n := 8) ha hb
  rw [u8_or _ _ (by omega) (by omega) (by omega) (by omega)]
  refine ⟨v ||| (a ^^^ b), by simp, Nat.or_lt_two_pow (n := 8) hv hx, ?_⟩
  rw [Nat.or_eq_zero_iff, xor_zero]

theorem WEqual_len {A B : Option Addr} {c d n m : Nat} (w : World) (h : ¬ n = m) :
    Calls Try.prog 42 #[.slice A n c, .slice B m d] w fun e w' => e = .returned (.bool false) ∧ w = w' := by
  have h' : ¬ (n : Int) = (m : Int) := by omega
  go_enter Try.func42, Try.ntmps42
  go_wp2_with fail
  go_ret
  exact ⟨rfl, rfl⟩

set_option maxHeartbeats 2000000 in
theorem WEqual_same {A B : Option Addr} {c d n : Nat} {xs ys : List Nat} (w : World) (ha : Bs w A c xs) (hb : Bs w B d ys) (hn : xs.length = n) (hm : ys.length = n) :
    Calls Try.prog 42 #[.slice A n c, .slice B n d] w fun e w' => e = .returned (.bool (decide (xs = ys))) ∧ Below w.heap.size w w' := by
  have hmx := ha.max
  have hle := ha.le
  unfold maxLen at hmx
  have hn64 : n ≤ 9223372036854775807 := by omega
  have HA := hidd ha
  have HB := hidd hb
  have HN := hidd hn
  have HM := hidd hm
  clear ha hb hn hm hmx hle
  go_enter Try.func42, Try.ntmps42
  go_wp2_with fail
  go_loopw [5, 14] (fun v i wr => ∃ (K u : Nat), i = .int .i64 (K : Int) ∧ K ≤ n ∧ v = .int .u8 (u : Int) ∧ u < 256 ∧ (u = 0 ↔ ∀ j, j < K → xs.getD j 0 = ys.getD j 0) ∧ Below w.heap.size w wr) (fun _ i _ => n - (intOf i).toNat)
  case atStart => exact ⟨0, 0, rfl, by omega, rfl, by omega, by simp, Below.refl _ _⟩
  case round =>
    obtain ⟨K, u, rfl, hK, rfl, hu, hrel, HW⟩ := hrel
    have HR := hidd hrel
    clear hrel
    by_cases hlt : K < n
    · obtain ⟨b1, o1, rfl, h1⟩ := (HA.out.below HW).at (i := K) (by rw [HN.out]; omega)
      obtain ⟨b2, o2, rfl, h2⟩ := (HB.out.below HW).at (i := K) (by rw [HM.out]; omega)
      obtain ⟨p, hp, hp8⟩ : ∃ p : Nat, xs.getD K 0 = p ∧ p < 256 := ⟨_, rfl, getD_lt HA.out.b8 K⟩
      obtain ⟨q, hq, hq8⟩ : ∃ q : Nat, ys.getD K 0 = q ∧ q < 256 := ⟨_, rfl, getD_lt HB.out.b8 K⟩
      rw [hp] at h1
      rw [hq] at h2
      have HP := hidd hp
      have HQ := hidd hq
      clear hp hq
      go_wp2_with fail
      (refine still_any (by kernel_rfl) ?_; rintro W rfl; (repeat still_step); refine wpStill_nil ?_)
      go_wp2_with fail
      obtain ⟨u', hu', hu8, huz⟩ := or_xor_zero u p q hu hp8 hq8
      rw [hu']
      have HU := hidd hu'
      clear hu'
      go_roundw
      case rel =>
        refine ⟨K + 1, u', by go_num, by omega, rfl, hu8, ?_, HW.drew⟩
        rw [huz, HR.out]
        constructor
        · intro ⟨h3, h4⟩ j hj
          by_cases e : j = K
          · subst e; rw [HP.out, HQ.out, h4]
          · exact h3 j (by omega)
        · intro h3
          refine ⟨fun j hj => h3 j (by omega), ?_⟩
          have := h3 K (by omega)
          rw [HP.out, HQ.out] at this
          exact this
      case measure => simp [intOf]; omega
    · obtain rfl : K = n := by omega
      have hfin : decide (xs = ys) = decide ((u : Int) = 0) := by
        have h3 : (xs = ys) ↔ (u : Int) = 0 := by
          rw [show ((u : Int) = 0) ↔ u = 0 by omega, HR.out]
          constructor
          · intro h j _; rw [h]
          · intro h
            exact eq_of_getD (by rw [HN.out, HM.out]) (fun i hi => h i (by rw [← HN.out]; exact hi))
        exact decide_eq_decide.2 h3
      have HF := hidd hfin
      clear hfin
      go_wp2_with fail
      go_ret
      rw [HF.out]
      exact ⟨rfl, HW⟩

theorem WEqual_any {A B : Option Addr} {c d n m : Nat} {xs ys : List Nat} (w : World) (ha : Bs w A c xs) (hb : Bs w B d ys) (hn : xs.length = n) (hm : ys.length = m) :
    Calls Try.prog 42 #[.slice A n c, .slice B m d] w fun e w' => e = .returned (.bool (decide (xs = ys))) ∧ Below w.heap.size w w' := by
  by_cases h : n = m
  · subst h; exact WEqual_same w ha hb hn hm
  · refine (WEqual_len w h).mono fun e w' ⟨he, hw⟩ => ⟨?_, hw ▸ Below.refl _ _⟩
    rw [he, decide_eq_false (fun e => h (by rw [← hn, ← hm, e]))]
end Go.Proofs.Ytikjcikedbcfmaa
/-
  WALKS: curve.Clamp, word.Equal.
-/
namespace Go.Proofs.Ytikjcikedbcfmaa
open Go.RowKit
set_option linter.unusedVariables false
set_option linter.unusedSimpArgs false

def clampL (xs : List Nat) : List Nat := (xs.set 0 (xs.getD 0 0 &&& 248)).set 31 (xs.getD 31 0 &&& 127 ||| 64)

theorem bits_clear7 (z : Nat) (h : z < 256) : bits .andNot .u8 (z : Int) 7 = ((z &&& 248 : Nat) : Int) := by
  have : ∀ k : Fin 256, bits .andNot .u8 ((k.val : Nat) : Int) 7 = ((k.val &&& 248 : Nat) : Int) := by decide +kernel
  exact this ⟨z, h⟩
theorem bits_top (z : Nat) (h : z < 256) : bits .or .u8 (bits .and .u8 (z : Int) 127) 64 = ((z &&& 127 ||| 64 : Nat) : Int) := by
  have : ∀ k : Fin 256, bits .or .u8 (bits .and .u8 ((k.val : Nat) : Int) 127) 64 = ((k.val &&& 127 ||| 64 : Nat) : Int) := by decide +kernel
  exact this ⟨z, h⟩
theorem top_lt (z : Nat) (h : z < 256) : z &&& 127 ||| 64 < 256 := Nat.or_lt_two_pow (n := 8) (and_lt z 127 h) (by omega)

theorem Clamp_no {A : Option Addr} {c n : Nat} (w : World) (h : ¬ n = 32) :
    Calls Try.prog 23 #[.slice A n c] w fun e w' => e = .returned (.tuple #[.slice none 0 0, .int .i64 1]) ∧ w = w' := by
  have h' : ¬ (n : Int) = 32 := by omega
  go_enter Try.func23, Try.ntmps23
  go_wp2_with fail
  go_ret2
  exact ⟨rfl, rfl⟩

set_option maxHeartbeats 1000000 in
theorem Clamp_any {A : Option Addr} {c : Nat} {xs : List Nat} (w : World) (hb : Bs w A c xs) (hn : xs.length = 32) :
    Calls Try.prog 23 #[.slice A 32 c] w fun e w' => ∃ g c', e = .returned (.tuple #[.slice (some ⟨g, 0, none⟩) 32 c', .int .i64 0]) ∧ Own w' w.heap.size (some ⟨g, 0, none⟩) c' (clampL xs) ∧ Below w.heap.size w w' := by
  obtain ⟨ad, rfl⟩ : ∃ ad, A = some ad := by
    rcases hb.cells with h | ⟨b, off, h, _⟩
    · subst h; simp at hn
    · exact ⟨_, h⟩
  have HC := Clone_some w hb hn (by omega)
  have h8 := hb.b8
  have H8 := hidd h8
  have HN := hidd hn
  clear hb hn h8
  go_enter Try.func23, Try.ntmps23
  go_wp2_with fail
  refine Calls.mono HC ?_
  rintro e w1 ⟨A1, c1, rfl, ho, hb1⟩
  obtain ⟨g, rfl, hg, hgl, hc, hf, hs⟩ := ho.at (by rw [HN.out]; omega)
  obtain ⟨z0, hz0, hz0l⟩ : ∃ z : Nat, xs.getD 0 0 = z ∧ z < 256 := ⟨_, rfl, getD_lt H8.out 0⟩
  obtain ⟨z1, hz1, hz1l⟩ : ∃ z : Nat, xs.getD 31 0 = z ∧ z < 256 := ⟨_, rfl, getD_lt H8.out 31⟩
  have c0 := hc 0 (by rw [HN.out]; omega)
  have c31 := hc 31 (by rw [HN.out]; omega)
  rw [hz0] at c0
  rw [hz1] at c31
  have f0 := hf 0
  have f31 := hf 31
  have HO := hidd hs
  have Z0 := hidd hz0
  have Z1 := hidd hz1
  clear hc hf hs hz0 hz1 ho HC
  dsimp only
  go_wp2_with fail
  go_ret2
  rw [bits_clear7 z0 hz0l, bits_top z1 hz1l]
  have o1 := HO.out 0 (z0 &&& 248) (by rw [HN.out]; omega) (and_lt _ _ hz0l)
  obtain ⟨g', hg', _, _, _, _, hs2⟩ := o1.at (by rw [List.length_set, HN.out]; omega)
  simp only [Option.some.injEq, Addr.mk.injEq, and_true] at hg'
  subst hg'
  have o2 := hs2 31 (z1 &&& 127 ||| 64) (by rw [List.length_set, HN.out]; omega) (top_lt _ hz1l)
  refine ⟨g, c1, rfl, ?_, (hb1.setCell hg _).setCell hg _⟩
  unfold clampL
  rw [Z0.out, Z1.out]
  exact o2
end Go.Proofs.Ytikjcikedbcfmaa
/-
  Bytes as strings: 'string(b)', and whether two such are the same. The number of the bytes of a number.
-/
namespace Go.Proofs.Ytikjcikedbcfmaa
open Go.RowKit
set_option linter.unusedVariables false
set_option linter.unusedSimpArgs false

theorem byteA_list (N : Nat) : byteA N 255 = (u8s (byteL N)).toArray := by
  simp [byteA, byteL, u8s]

theorem Bytes_V {x : F} {u : Value} (hu : ElV x u) (w : World) : Calls Try.prog 30 #[u] w fun e w' => ∃ r, e = .returned r ∧ BsV (byteL x.val) w' r ∧ Below w.heap.size w w' := by
  obtain ⟨a0, a1, a2, a3, a4, rfl, ha⟩ := hu
  refine (Bytes_any ha w).mono fun e w' ⟨g, he, hg, hB, hb⟩ => ⟨_, he, ⟨some ⟨g, 0, none⟩, 32, by rw [byteL_length], Bs_byteA hB⟩, hb⟩

theorem byteL_lt (N : Nat) : ∀ x ∈ byteL N, x < 256 := by
  intro x hx
  obtain ⟨j, _, rfl⟩ := List.mem_map.1 hx
  exact byteOf_lt _ _ _

theorem low_byteL (N : Nat) : ∀ k, k ≤ 32 → lowN (byteL N) 0 k = N % 2 ^ 255 % 2 ^ (8 * k) := by
  intro k
  induction k with
  | zero => intro _; simp [lowN, Nat.mod_one]
  | succ k ih =>
    intro hk
    have hg : (byteL N).getD (0 + k) 0 = byteOf N 255 k := by simp [byteL, show k < 32 by omega]
    rw [lowN, ih (by omega), hg, show 8 * (k + 1) = 8 * k + 8 by omega, Nat.pow_add, Nat.mod_mul]
    unfold byteOf
    rw [show (2 : Nat) ^ 8 = 256 from rfl, Nat.mul_comm (2 ^ (8 * k)) (_ % 256)]
theorem numL_byteL (x : F) : numL (byteL x.val) = x := by
  have h1 := low_byteL x.val 32 (by omega)
  have h2 := x.lt255
  rw [Nat.mod_eq_of_lt h2, Nat.mod_eq_of_lt (Nat.lt_of_lt_of_le h2 (by decide))] at h1
  unfold numL
  rw [h1, show (57896044618658097711785492504343953926634992332820282019728792003956564819968 : Nat) = 2 ^ 255 from rfl, Nat.mod_eq_of_lt h2]
  exact toF_val_self x

theorem lowN_congr {xs ys : List Nat} {i : Nat} : ∀ k, (∀ j, j < k → xs.getD (i + j) 0 = ys.getD (i + j) 0) → lowN xs i k = lowN ys i k := by
  intro k
  induction k with
  | zero => intro _; rfl
  | succ k ih => intro h; rw [lowN, lowN, ih (fun j hj => h j (by omega)), h k (by omega)]
theorem numL_flip {zs : List Nat} (hl : zs.length = 32) (h8 : ∀ z ∈ zs, z < 256) : numL (zs.set 31 (zs.getD 31 0 ^^^ 128)) = numL zs := by
  unfold numL
  congr 2
  have e : ∀ ys : List Nat, lowN ys 0 32 = lowN ys 0 31 + ys.getD 31 0 * 2 ^ 248 := fun ys => by rw [lowN]
  rw [e, e zs]
  have h1 : lowN (zs.set 31 (zs.getD 31 0 ^^^ 128)) 0 31 = lowN zs 0 31 := lowN_congr 31 (fun j hj => by
    simp only [Nat.zero_add, List.getD_eq_getElem?_getD]
    rw [List.getElem?_set_ne (by omega)])
  have h2 : (zs.set 31 (zs.getD 31 0 ^^^ 128)).getD 31 0 = zs.getD 31 0 ^^^ 128 := by
    simp [List.getD_eq_getElem?_getD, hl]
  rw [h1, h2]
  have h3 := lowN_lt h8 0 31
  have h4 : zs.getD 31 0 < 256 := getD_lt h8 31
  generalize zs.getD 31 0 = z at *
  have h5 : (z ^^^ 128) % 128 = z % 128 := by
    have : ∀ k : Fin 256, (k.val ^^^ 128) % 128 = k.val % 128 := by decide +kernel
    exact this ⟨z, h4⟩
  generalize z ^^^ 128 = y at *
  generalize lowN zs 0 31 = L at *
  omega
end Go.Proofs.Ytikjcikedbcfmaa
/-
  WALKS: curve.Mult.
-/
namespace Go.Proofs.Ytikjcikedbcfmaa
open Go.RowKit
set_option linter.unusedVariables false
set_option linter.unusedSimpArgs false
set_option maxRecDepth 100000

/-- Bit i of the bytes ks. -/
def kbit (ks : List Nat) (i : Nat) : Nat := ks.getD (i / 8) 0 / 2 ^ (i % 8) % 2

/-- The ladder, behind K rounds. -/
def lad (ks : List Nat) (u : F) : Nat → F × F × F × F
  | 0 => (1, 0, u, 1)
  | K + 1 => match lad ks u K with
    | (x0, z0, x1, z1) => if kbit ks (254 - K) = 0 then (twiceX x0 z0, twiceZ x0 z0, bothX x0 z0 x1 z1, bothZ x0 z0 x1 z1 u) else (bothX x1 z1 x0 z0, bothZ x1 z1 x0 z0 u, twiceX x1 z1, twiceZ x1 z1)
def ladL (ks : List Nat) (u : F) (K : Nat) : List F := match lad ks u K with | (x0, z0, x1, z1) => [x0, z0, x1, z1]
theorem lad_0 {ks : List Nat} {u : F} {K : Nat} {x0 z0 x1 z1 : F} (h : lad ks u K = (x0, z0, x1, z1)) (hb : kbit ks (254 - K) = 0) : ladL ks u (K + 1) = [twiceX x0 z0, twiceZ x0 z0, bothX x0 z0 x1 z1, bothZ x0 z0 x1 z1 u] := by
  simp only [ladL, lad, h, hb, if_true]
theorem lad_1 {ks : List Nat} {u : F} {K : Nat} {x0 z0 x1 z1 : F} (h : lad ks u K = (x0, z0, x1, z1)) (hb : kbit ks (254 - K) = 1) : ladL ks u (K + 1) = [bothX x1 z1 x0 z0, bothZ x1 z1 x0 z0 u, twiceX x1 z1, twiceZ x1 z1] := by
  simp only [ladL, lad, h, hb]
  rfl
theorem ladL_eq {ks : List Nat} {u : F} {K : Nat} {x0 z0 x1 z1 : F} (h : lad ks u K = (x0, z0, x1, z1)) : ladL ks u K = [x0, z0, x1, z1] := by simp only [ladL, h]

/-- X25519 of bytes, as a number of the field. -/
def xmul (ks us : List Nat) : F := match lad (clampL ks) (numL us) 255 with | (x0, z0, _, _) => x0 * fi z0

section
variable {ops : Array Oper} {Q : Exit → Act → World → Prop} {o : Oper} {rest : List Oper} {a : Act} {w : World} {x y : Operand} {g : Nat} {T : TypeId}
theorem tail_st2_0 {x0 x1 x2 x3 y0 y1 : F} (hg : o.guard = none) (hd : o.dst = none) (ho : o.op = .store 64 x y) (hx : a.eval x = .pointer (some ⟨g, 0, none⟩)) (hF : BlkF w g [x0, x1, x2, x3] T) (hV : AgV [y0, y1] (a.eval y))
    (h : ∀ w', BlkF w' g [y0, y1, x2, x3] T → BelowX (fun k => k = g) w w' → wpList Try.prog ops Q rest a w') : wpList Try.prog ops Q (o :: rest) a w := by
  obtain ⟨w', hr, h1, h2⟩ := st2_0 ho hx hF hV
  exact tail_skip hg hd hr (h w' h1 h2)
theorem tail_st2_1 {x0 x1 x2 x3 y0 y1 : F} (hg : o.guard = none) (hd : o.dst = none) (ho : o.op = .store 64 x y) (hx : a.eval x = .pointer (some ⟨g, 10, none⟩)) (hF : BlkF w g [x0, x1, x2, x3] T) (hV : AgV [y0, y1] (a.eval y))
    (h : ∀ w', BlkF w' g [x0, x1, y0, y1] T → BelowX (fun k => k = g) w w' → wpList Try.prog ops Q rest a w') : wpList Try.prog ops Q (o :: rest) a w := by
  obtain ⟨w', hr, h1, h2⟩ := st2_1 ho hx hF hV
  exact tail_skip hg hd hr (h w' h1 h2)
end

theorem clampL_length (xs : List Nat) : (clampL xs).length = xs.length := by simp [clampL]

theorem kbit_lt (ks : List Nat) (i : Nat) : kbit ks i = 0 ∨ kbit ks i = 1 := by unfold kbit; omega
theorem bit_val (z m : Nat) (hz : z < 256) (hm : m < 8) : bits .and .u8 ((z : Int) / 2 ^ m) 1 = ((z / 2 ^ m % 2 : Nat) : Int) := by
  have : ∀ (k : Fin 256) (j : Fin 8), bits .and .u8 (((k.val : Nat) : Int) / 2 ^ j.val) 1 = ((k.val / 2 ^ j.val % 2 : Nat) : Int) := by decide +kernel
  exact this ⟨z, hz⟩ ⟨m, hm⟩

theorem Bytes_O {x : F} {u : Value} (hu : ElV x u) (w : World) (B : Nat) (hB : B ≤ w.heap.size) : Calls Try.prog 30 #[u] w fun e w' => ∃ r, e = .returned r ∧ OwnV B (byteL x.val) w' r ∧ Below w.heap.size w w' := by
  obtain ⟨a0, a1, a2, a3, a4, rfl, ha⟩ := hu
  refine (Bytes_any ha w).mono fun e w' ⟨g, he, hg, hB', hb⟩ => ⟨_, he, ⟨some ⟨g, 0, none⟩, (byteL x.val).length, by rw [byteL_length], ?_⟩, hb⟩
  rw [byteA_list] at hB'
  exact Own.of_blk hB' (Nat.le_trans hB hg) (byteL_lt _) (by rw [byteL_length]; omega)

theorem byteL_zero (x : F) : decide (byteL x.val = List.replicate 32 0) = decide (x.val = 0) := by
  apply decide_eq_decide.2
  have e0 : byteL 0 = List.replicate 32 0 := by decide +kernel
  constructor
  · intro h
    rw [← e0] at h
    exact byteL_inj x.lt255 (by decide) h
  · intro h; rw [h, e0]

theorem Mult_no1 {A B : Option Addr} {c d n m : Nat} {us : List Nat} (w : World) (h : ¬ n = 32) (hb : Bs w B d us) (hm : us.length = m) :
    Calls Try.prog 25 #[.slice A n c, .slice B m d] w fun e w' => e = .returned (.tuple #[.slice none 0 0, .int .i64 1]) ∧ Below w.heap.size w w' := by
  by_cases h2 : us.length = 32
  · have HP := Parse_any w hb h2
    rw [hm] at HP
    clear hb hm h2
    go_enter Try.func25, Try.ntmps25
    go_wp2_with fail
    refine Calls.mono (Clamp_no _ h) ?_
    rintro e w1 ⟨rfl, rfl⟩
    dsimp only
    go_wp2_with fail
    refine Calls.mono HP ?_
    rintro e w2 ⟨u0, u1, u2, u3, u4, rfl, hu, hb2⟩
    dsimp only
    go_wp2_with fail
    go_ret2
    exact ⟨rfl, hb2.alloc hb2.size _⟩
  · have HP := Parse_no w hb h2
    rw [hm] at HP
    clear hb hm h2
    go_enter Try.func25, Try.ntmps25
    go_wp2_with fail
    refine Calls.mono (Clamp_no _ h) ?_
    rintro e w1 ⟨rfl, rfl⟩
    dsimp only
    go_wp2_with fail
    refine Calls.mono HP ?_
    rintro e w2 ⟨rfl, hb2⟩
    dsimp only
    go_wp2_with fail
    go_ret2
    exact ⟨rfl, hb2.alloc hb2.size _⟩
theorem Mult_no2 {A B : Option Addr} {c d m : Nat} {ks us : List Nat} (w : World) (ha : Bs w A c ks) (hn : ks.length = 32) (hb : Bs w B d us) (hm : us.length = m) (h : ¬ m = 32) :
    Calls Try.prog 25 #[.slice A 32 c, .slice B m d] w fun e w' => e = .returned (.tuple #[.slice none 0 0, .int .i64 1]) ∧ Below w.heap.size w w' := by
  have HC := Clamp_any w ha hn
  have HP := fun W (hW : Below w.heap.size w W) => Parse_no W (hb.below hW) (by rw [hm]; exact h)
  rw [hm] at HP
  clear ha hb hn hm
  go_enter Try.func25, Try.ntmps25
  go_wp2_with fail
  refine Calls.mono HC ?_
  rintro e w1 ⟨gk, ck, rfl, ho, hb1⟩
  have HP1 := HP w1 hb1
  clear HP ho HC
  dsimp only
  go_wp2_with fail
  refine Calls.mono HP1 ?_
  rintro e w2 ⟨rfl, hb2⟩
  have HB := below_from hb1 hb2
  clear HP1 hb1 hb2
  dsimp only
  go_wp2_with fail
  go_ret2
  exact ⟨rfl, HB.alloc HB.size _⟩

def multS5 (B : Nat) (u : F) (g7 : Nat) : Nat → World → Value → Prop
  | 0, _, v => ElV (toF 1) v
  | 1, _, v => ElV (toF 0) v
  | 2, _, v => AgV [toF 1, toF 0] v
  | 3, _, v => ElV (u) v
  | 4, _, v => ElV (toF 1) v
  | 5, _, v => AgV [u, toF 1] v
  | 6, _, v => AgV [toF 1, toF 0, u, toF 1] v
  | 7, w, v => ∃ g, v = .pointer (some ⟨g, 0, none⟩) ∧ B ≤ g ∧ BlkF w g [0, 0, 0, 0] 65
  | _, _, _ => True

def multS5K : Nat → HK
  | 7 => .fresh
  | _ => .val

def multS10a (B : Nat) (x0 z0 x1 z1 u : F) (g7 g9 : Nat) : Nat → World → Value → Prop
  | 0, _, v => v = .int .u8 (0)
  | 1, _, v => v = .int .u8 (0)
  | 2, _, v => v = .int .u8 (1)
  | 3, _, v => v = .int .u8 (0)
  | 4, _, v => v = .pointer (some ⟨g9, 0, none⟩)
  | 5, _, v => AgV [x0, z0] v
  | 6, _, v => v = .int .u8 (0)
  | 7, _, v => v = .int .u8 (1)
  | 8, _, v => v = .pointer (some ⟨g9, 10, none⟩)
  | 9, _, v => AgV [x1, z1] v
  | 10, _, v => ElV (u) v
  | 11, _, v => ∃ v1 v2, v = .tuple #[v1, v2] ∧ AgV [twiceX x0 z0, twiceZ x0 z0] v1 ∧ AgV [bothX x0 z0 x1 z1, bothZ x0 z0 x1 z1 u] v2
  | 12, _, v => ∃ v1 v2, v = .tuple #[v1, v2] ∧ AgV [twiceX x0 z0, twiceZ x0 z0] v1 ∧ AgV [bothX x0 z0 x1 z1, bothZ x0 z0 x1 z1 u] v2
  | 13, _, v => AgV [twiceX x0 z0, twiceZ x0 z0] v
  | 14, _, v => AgV [bothX x0 z0 x1 z1, bothZ x0 z0 x1 z1 u] v
  | 15, _, v => v = .pointer (some ⟨g9, 0, none⟩)
  | 16, _, _ => True
  | _, _, _ => True

def multS10aK : Nat → HK
  | 16 => .hot
  | _ => .val

def multS10b (B : Nat) (x0 z0 x1 z1 u : F) (g7 g9 : Nat) : Nat → World → Value → Prop
  | 0, _, v => v = .int .u8 (1)
  | 1, _, v => v = .int .u8 (1)
  | 2, _, v => v = .int .u8 (0)
  | 3, _, v => v = .int .u8 (1)
  | 4, _, v => v = .pointer (some ⟨g9, 10, none⟩)
  | 5, _, v => AgV [x1, z1] v
  | 6, _, v => v = .int .u8 (1)
  | 7, _, v => v = .int .u8 (0)
  | 8, _, v => v = .pointer (some ⟨g9, 0, none⟩)
  | 9, _, v => AgV [x0, z0] v
  | 10, _, v => ElV (u) v
  | 11, _, v => ∃ v1 v2, v = .tuple #[v1, v2] ∧ AgV [twiceX x1 z1, twiceZ x1 z1] v1 ∧ AgV [bothX x1 z1 x0 z0, bothZ x1 z1 x0 z0 u] v2
  | 12, _, v => ∃ v1 v2, v = .tuple #[v1, v2] ∧ AgV [twiceX x1 z1, twiceZ x1 z1] v1 ∧ AgV [bothX x1 z1 x0 z0, bothZ x1 z1 x0 z0 u] v2
  | 13, _, v => AgV [twiceX x1 z1, twiceZ x1 z1] v
  | 14, _, v => AgV [bothX x1 z1 x0 z0, bothZ x1 z1 x0 z0 u] v
  | 15, _, v => v = .pointer (some ⟨g9, 10, none⟩)
  | 16, _, _ => True
  | _, _, _ => True

def multS10bK : Nat → HK
  | 16 => .hot
  | _ => .val

def multS11 (B : Nat) (x0 z0 x1 z1 : F) (g9 : Nat) : Nat → World → Value → Prop
  | 0, _, v => v = .pointer (some ⟨g9, 0, none⟩)
  | 1, _, v => v = .pointer (some ⟨g9, 0, none⟩)
  | 2, _, v => ElV (x0) v
  | 3, _, v => v = .pointer (some ⟨g9, 0, none⟩)
  | 4, _, v => v = .pointer (some ⟨g9, 5, none⟩)
  | 5, _, v => ElV (z0) v
  | 6, _, v => ElV (fi (z0)) v
  | 7, _, v => ElV ((x0) * (fi (z0))) v
  | 8, w, v => OwnV B (byteL ((x0) * (fi (z0))).val) w v
  | 9, w, v => OwnV B (byteL ((x0) * (fi (z0))).val) w v
  | _, _, _ => True

def multS11K : Nat → HK
  | _ => .val

/-- What X25519 tells of the number that it comes to. -/
def MultPost (B : Nat) (r : F) (e : Ending) (w' : World) : Prop :=
  if r.val = 0 then e = .returned (.tuple #[.slice none 0 0, .int .i64 5]) else ∃ A' c', e = .returned (.tuple #[.slice A' 32 c', .int .i64 0]) ∧ Own w' B A' c' (byteL r.val)

set_option maxHeartbeats 8000000 in
theorem Mult_any {A B : Option Addr} {c d : Nat} {ks us : List Nat} (w : World) (ha : Bs w A c ks) (hb : Bs w B d us) (hn : ks.length = 32) (hm : us.length = 32) :
    Calls Try.prog 25 #[.slice A 32 c, .slice B 32 d] w fun e w' =>
      MultPost w.heap.size (xmul ks us) e w' ∧ Below w.heap.size w w' := by
  have HC := Clamp_any w ha hn
  have HP := fun W (hW : Below w.heap.size w W) => Parse_any W (hb.below hW) hm
  have h8 := hidd ha.b8
  have HN := hidd hn
  have HM := hidd hm
  rw [hm] at HP
  clear ha hb hn hm
  go_enter Try.func25, Try.ntmps25
  go_wp2_with fail
  refine Calls.mono HC ?_
  rintro e w1 ⟨gk, ck, rfl, ho, hb1⟩
  have HB : Below w.heap.size w w1 := hb1
  obtain ⟨gk', hgk', hbk, hkl, hkc, hkf, -⟩ := ho.at (by rw [clampL_length, HN.out]; omega)
  simp only [Option.some.injEq, Addr.mk.injEq, and_true] at hgk'
  subst hgk'
  obtain ⟨kcur, BK, hkcur⟩ := ho.blk (by rw [clampL_length, HN.out]; omega)
  rw [clampL_length, HN.out] at hkcur
  have HK := hidd hkcur
  clear hkcur
  have HP1 := HP w1 HB
  clear hb1 HC HP ho hkc hkf
  dsimp only
  go_wp2_with fail
  refine Calls.mono HP1 ?_
  rintro e w2 ⟨u0, u1, u2, u3, u4, rfl, hu, hb2⟩
  obtain ⟨u, HU⟩ : ∃ u : F, Hid (numL us = u) := ⟨_, rfl⟩
  change El (numL us) u0 u1 u2 u3 u4 at hu
  rw [HU.out] at hu
  replace BK := BK.old hb2
  replace HB := below_from HB hb2
  clear hb2 HP1
  dsimp only
  go_wp2_with fail
  obtain ⟨g7, hg7⟩ : ∃ g, w2.heap.size = g := ⟨_, rfl⟩
  have nk7 : gk < g7 := by rw [← hg7]; exact BK.lt
  have hF7 : BlkF (w2.alloc (.cells #[.int .u64 u0, .int .u64 u1, .int .u64 u2, .int .u64 u3, .int .u64 u4] 27)) g7 [u] 27 := BlkF.of5 (Blk.at _ _ hg7) hu
  replace BK := BK.alloc (.cells #[.int .u64 u0, .int .u64 u1, .int .u64 u2, .int .u64 u3, .int .u64 u4] 27)
  have hg7w : w.heap.size ≤ g7 := by rw [← hg7]; exact HB.size
  replace HB := HB.alloc HB.size (.cells #[.int .u64 u0, .int .u64 u1, .int .u64 u2, .int .u64 u3, .int .u64 u4] 27)
  rw [hg7]
  generalize (w2.alloc (.cells #[.int .u64 u0, .int .u64 u1, .int .u64 u2, .int .u64 u3, .int .u64 u4] 27)) = w4 at *
  clear hg7
  have z7 := hF7.lt
  refine region_hotV 8 multS5K (multS5 (w4.heap.size) u g7) (fun _ _ => True) (fun _ => False) [29, 30, 31, 32, 33, 34, 35, 9] (by kernel_rfl) (by kernel_rfl) (by kernel_rfl) (by kernel_rfl) (by kernel_rfl) ?_ (fun _ _ _ _ _ => trivial) (fun _ _ _ _ _ => trivial) ?_ trivial (hots_all ?_) ?_
  · exact fun i w w' v h hb => by revert h; unfold multS5; split <;> first | exact id | (rintro ⟨g, hv, hg, hB⟩; exact ⟨g, hv, hg, hB.oldX hb (fun h => h)⟩) | (exact fun h => h.old hb.none)
  · exact fun i w v hk h => by unfold multS5K at hk; split at hk <;> first | (cases hk; done) | (obtain ⟨g, hv, _, hB⟩ := h; exact ⟨g, hv, hB.lt⟩)
  · simp only [List.take_succ_cons, List.take_zero, HotFrom]
    refine ⟨?_, ?_, ?_, ?_, ?_, ?_, ?_, ?_, trivial⟩
    · refine hot_val rfl rfl (fun L a w' hat => ?_)
      have h0 : a.eval (.const (Value.int IntKind.u64 1)) = .int .u64 1 := rfl
      exact .inr ⟨_, #[.int .u64 (1)], exec_call Try.func9 (by kernel_rfl) (by kernel_rfl) _ rfl _ _ (by simp [Act.eval]), Of_V _ _ (by omega) (by omega)⟩
    · refine hot_val rfl rfl (fun L a w' hat => ?_)
      have h0 : a.eval (.const (Value.int IntKind.u64 0)) = .int .u64 0 := rfl
      exact .inr ⟨_, #[.int .u64 (0)], exec_call Try.func9 (by kernel_rfl) (by kernel_rfl) _ rfl _ _ (by simp [Act.eval]), Of_V _ _ (by omega) (by omega)⟩
    · refine hot_val rfl rfl (fun L a w' hat => ?_)
      have h0 : ElV (toF 1) (a.eval (.tmp 29)) := hat.deps ⟨0, .data⟩ (by simp) rfl 29 (by decide) rfl
      have h1 : ElV (toF 0) (a.eval (.tmp 30)) := hat.deps ⟨1, .data⟩ (by simp) rfl 30 (by decide) rfl
      exact out_ex (bd2 rfl (AgV.one.2 h0) (AgV.one.2 h1)) (fun u hE => hE)
    · refine hot_val rfl rfl (fun L a w' hat => ?_)
      have h0 : a.eval (.tmp 7) = .pointer (some ⟨g7, 0, none⟩) := (hat.others 7 (by decide)).trans rfl
      exact out_ex (ld1_1_0 rfl h0 (hF7.oldX hat.grow (fun h => h))) (fun u hE => hE)
    · refine hot_val rfl rfl (fun L a w' hat => ?_)
      have h0 : a.eval (.const (Value.int IntKind.u64 1)) = .int .u64 1 := rfl
      exact .inr ⟨_, #[.int .u64 (1)], exec_call Try.func9 (by kernel_rfl) (by kernel_rfl) _ rfl _ _ (by simp [Act.eval]), Of_V _ _ (by omega) (by omega)⟩
    · refine hot_val rfl rfl (fun L a w' hat => ?_)
      have h0 : ElV (u) (a.eval (.tmp 32)) := hat.deps ⟨3, .data⟩ (by simp) rfl 32 (by decide) rfl
      have h1 : ElV (toF 1) (a.eval (.tmp 33)) := hat.deps ⟨4, .data⟩ (by simp) rfl 33 (by decide) rfl
      exact out_ex (bd2 rfl (AgV.one.2 h0) (AgV.one.2 h1)) (fun u hE => hE)
    · refine hot_val rfl rfl (fun L a w' hat => ?_)
      have h0 : AgV [toF 1, toF 0] (a.eval (.tmp 31)) := hat.deps ⟨2, .data⟩ (by simp) rfl 31 (by decide) rfl
      have h1 : AgV [u, toF 1] (a.eval (.tmp 34)) := hat.deps ⟨5, .data⟩ (by simp) rfl 34 (by decide) rfl
      exact out_ex (bd4 rfl h0 h1) (fun u hE => hE)
    · refine hot_fresh rfl rfl (fun L a w' hat => ?_)
      exact fresh_ex (al4 rfl a w') (fun ob hB => ⟨_, rfl, Nat.le_trans (Nat.le_refl _) hat.grow.size, hB⟩)
  · intro L gs w5 hbx hV hall hH hap
    replace hF7 := hF7.oldX hbx (fun h => h)
    replace BK := hbx.blk BK (fun h => h)
    replace HB := hbx.below HB HB.size (fun k h => h.elim)
    obtain ⟨g9, hv9, hg9, hF9⟩ := hV 7 (by omega) (by decide) 9 rfl
    have hs9 := hV 6 (by omega) (by decide) 35 rfl
    have n79 : g7 ≠ g9 := by omega
    have nk9 : gk ≠ g9 := by omega
    replace hg9 : w.heap.size ≤ g9 := by omega
    simp only [List.map_cons, List.map_nil, puts, Act.put, hv9, List.setIfInBounds_toArray, List.set_cons_zero, List.set_cons_succ, List.drop_succ_cons, List.drop_zero]
    clear hV hall hH hap hbx hv9
    refine tail_st4 rfl rfl rfl rfl hF9 hs9 (fun w6 hN hc => ?_)
    replace hF7 := hF7.oldX hc n79
    replace BK := hc.blk BK nk9
    replace HB := hc.below HB HB.size (fun k hk => by rw [hk]; exact hg9)
    clear hF9 hc hs9
    have hF9 : BlkF w6 g9 (ladL (clampL ks) u 0) 65 := by
      have e1 : toF 1 = 1 := toF_one
      have e0 : toF 0 = 0 := toF_zero
      rw [e1, e0] at hN
      exact hN
    clear hN z7
    refine wpList_nil ?_
    show Exit.then _ _ .normal _ _
    go_wp2_with fail
    go_loopw [10] (fun i wr => ∃ K : Nat, i = .int .i64 (254 - (K : Int)) ∧ K ≤ 255 ∧ BlkF wr g9 (ladL (clampL ks) u K) 65 ∧ BlkF wr g7 [u] 27 ∧ Blk wr gk kcur 5 ∧ Below w.heap.size w wr) (fun i _ => (intOf i + 1).toNat)
    case atStart => exact ⟨0, rfl, by omega, hF9, hF7, BK, HB⟩
    case round =>
      obtain ⟨K, rfl, hK, hF9, hF7, BK, HW⟩ := hrel
      obtain ⟨x0, z0, x1, z1, hlad⟩ : ∃ x0 z0 x1 z1, lad (clampL ks) u K = (x0, z0, x1, z1) := ⟨_, _, _, _, rfl⟩
      rw [ladL_eq hlad] at hF9
      have HL := hidd hlad
      clear hlad
      by_cases hlt : K < 255
      · have hI : ((254 : Int) - (K : Int) ≥ 0) := by omega
        obtain ⟨j, ej⟩ : ∃ j : Nat, ((254 : Int) - (K : Int)) / 8 = (j : Int) := ⟨(254 - K) / 8, by omega⟩
        obtain ⟨m, em⟩ : ∃ m : Nat, ((254 : Int) - (K : Int)).tmod 8 = (m : Int) := ⟨(254 - K) % 8, by rw [Int.tmod_eq_emod_of_nonneg (by omega)]; omega⟩
        have ej2 : Hid ((254 - K) / 8 = j) := by show _ = _; omega
        have em2 : Hid ((254 - K) % 8 = m) := by show _ = _; rw [Int.tmod_eq_emod_of_nonneg (by omega)] at em; omega
        have hj : j < 32 := by have := ej2.out; omega
        have hm : m < 8 := by have := em2.out; omega
        have hjI : (j : Int) < 32 := by omega
        have hmI : (m : Int) < 8 := by omega
        have ejt : ((254 : Int) - (K : Int)).tdiv 8 = (j : Int) := by rw [Int.tdiv_eq_ediv_of_nonneg (by omega)]; exact ej
        obtain ⟨z, hz, hz8⟩ : ∃ z : Nat, (clampL ks).getD j 0 = z ∧ z < 256 := ⟨_, rfl, getD_lt (by
          intro x hx
          unfold clampL at hx
          rcases List.mem_or_eq_of_mem_set hx with h | h
          · rcases List.mem_or_eq_of_mem_set h with h | h
            · exact h8.out x h
            · rw [h]; exact and_lt _ _ (getD_lt h8.out 0)
          · rw [h]; exact top_lt _ (getD_lt h8.out 31)) j⟩
        have hcz : wr.cell? ⟨gk, j, none⟩ = some (.int .u8 (z : Int)) := by rw [BK.cell, HK.out j hj, hz]
        have HZ := hidd hz
        clear hz
        go_wp2_with fail
        have hbit : kbit (clampL ks) (254 - K) = z / 2 ^ m % 2 := by unfold kbit; rw [ej2.out, em2.out, HZ.out]
        rw [bit_val z m hz8 hm]
        rcases kbit_lt (clampL ks) (254 - K) with hb0 | hb0
        · have hb := hidd hb0
          have e0 : ((z / 2 ^ m % 2 : Nat) : Int) = 0 := by omega
          rw [e0]
          clear hb0 hbit e0 hcz ejt hI ej em hjI hmI
          refine region_hotV 17 multS10aK (multS10a (wr.heap.size) x0 z0 x1 z1 u g7 g9) (fun L w => BlkF w g9 (bif L 16 then [twiceX x0 z0, twiceZ x0 z0, x1, z1] else [x0, z0, x1, z1]) 65) (fun k => k = g9) [50, 51, 52, 53, 54, 55, 56, 57, 58, 59, 60, 61, 49, 62, 63, 64] (by kernel_rfl) (by kernel_rfl) (by kernel_rfl) (by kernel_rfl) (by kernel_rfl) ?_ (fun L w w' h hb => h.old hb) (fun L i w hk h => if e : i = 16 then absurd (by rw [e]; rfl) hk else by (have e2 : (16 == i) = false := (by simp only [beq_eq_false_iff_ne]; omega); show BlkF w _ (bif (L 16 || 16 == i) then _ else _) _; rw [e2, Bool.or_false]; exact h)) ?_ hF9 (hots_all ?_) ?_
          · exact fun i w w' v h hb => by revert h; unfold multS10a; split <;> first | exact id | (rintro ⟨g, hv, hg, hB⟩; exact ⟨g, hv, hg, hB.oldX hb (fun h => h)⟩) | (exact fun h => h.old hb.none)
          · exact fun i w v hk h => by unfold multS10aK at hk; split at hk <;> first | (cases hk; done) | (obtain ⟨g, hv, _, hB⟩ := h; exact ⟨g, hv, hB.lt⟩)
          · simp only [List.take_succ_cons, List.take_zero, HotFrom]
            refine ⟨?_, ?_, ?_, ?_, ?_, ?_, ?_, ?_, ?_, ?_, ?_, ?_, ?_, ?_, ?_, ?_, ?_, trivial⟩
            · refine hot_val rfl rfl (fun L a w' hat => ?_)
              have h0 : a.eval (.tmp 11) = .int .u8 (0) := (hat.others 11 (by decide)).trans rfl
              exact out_of rfl h0
            · refine hot_val rfl rfl (fun L a w' hat => ?_)
              have h0 : a.eval (.tmp 11) = .int .u8 (0) := (hat.others 11 (by decide)).trans rfl
              exact out_of rfl h0
            · refine hot_val rfl rfl (fun L a w' hat => ?_)
              have h0 : a.eval (.const (Value.int IntKind.u8 1)) = .int .u8 1 := rfl
              have h1 : a.eval (.tmp 51) = .int .u8 (0) := hat.deps ⟨1, .data⟩ (by simp) rfl 51 (by decide) rfl
              exact out_of (v := .int .u8 (1)) (by (generalize a.eval = ev at *); simp [execOp, go_sem, h0, h1] <;> rfl) rfl
            · refine hot_val rfl rfl (fun L a w' hat => ?_)
              have h0 : a.eval (.tmp 11) = .int .u8 (0) := (hat.others 11 (by decide)).trans rfl
              exact out_of rfl h0
            · refine hot_val rfl rfl (fun L a w' hat => ?_)
              have h0 : a.eval (.tmp 9) = .pointer (some ⟨g9, 0, none⟩) := (hat.others 9 (by decide)).trans rfl
              have h1 : a.eval (.tmp 53) = .int .u8 (0) := hat.deps ⟨3, .data⟩ (by simp) rfl 53 (by decide) rfl
              exact out_of (v := .pointer (some ⟨g9, 0, none⟩)) (by (generalize a.eval = ev at *); simp [execOp, go_sem, h0, h1] <;> rfl) rfl
            · refine hot_val rfl rfl (fun L a w' hat => ?_)
              have h0 : a.eval (.tmp 54) = .pointer (some ⟨g9, 0, none⟩) := hat.deps ⟨4, .data⟩ (by simp) rfl 54 (by decide) rfl
              exact out_ex (ld2_4_0 rfl h0 (by (have h := hat.hot; simp only [hat.later 16 _ rfl (by kernel_rfl)] at h; exact h))) (fun u hE => hE)
            · refine hot_val rfl rfl (fun L a w' hat => ?_)
              have h0 : a.eval (.tmp 11) = .int .u8 (0) := (hat.others 11 (by decide)).trans rfl
              exact out_of rfl h0
            · refine hot_val rfl rfl (fun L a w' hat => ?_)
              have h0 : a.eval (.const (Value.int IntKind.u8 1)) = .int .u8 1 := rfl
              have h1 : a.eval (.tmp 56) = .int .u8 (0) := hat.deps ⟨6, .data⟩ (by simp) rfl 56 (by decide) rfl
              exact out_of (v := .int .u8 (1)) (by (generalize a.eval = ev at *); simp [execOp, go_sem, h0, h1] <;> rfl) rfl
            · refine hot_val rfl rfl (fun L a w' hat => ?_)
              have h0 : a.eval (.tmp 9) = .pointer (some ⟨g9, 0, none⟩) := (hat.others 9 (by decide)).trans rfl
              have h1 : a.eval (.tmp 57) = .int .u8 (1) := hat.deps ⟨7, .data⟩ (by simp) rfl 57 (by decide) rfl
              exact out_of (v := .pointer (some ⟨g9, 10, none⟩)) (by (generalize a.eval = ev at *); simp [execOp, go_sem, h0, h1] <;> rfl) rfl
            · refine hot_val rfl rfl (fun L a w' hat => ?_)
              have h0 : a.eval (.tmp 58) = .pointer (some ⟨g9, 10, none⟩) := hat.deps ⟨8, .data⟩ (by simp) rfl 58 (by decide) rfl
              exact out_ex (ld2_4_1 rfl h0 (by (have h := hat.hot; simp only [hat.later 16 _ rfl (by kernel_rfl)] at h; exact h))) (fun u hE => hE)
            · refine hot_val rfl rfl (fun L a w' hat => ?_)
              have h0 : a.eval (.tmp 7) = .pointer (some ⟨g7, 0, none⟩) := (hat.others 7 (by decide)).trans rfl
              exact out_ex (ld1_1_0 rfl h0 (hF7.oldX hat.grow n79)) (fun u hE => hE)
            · refine hot_val rfl rfl (fun L a w' hat => ?_)
              have h0 : AgV [x0, z0] (a.eval (.tmp 55)) := hat.deps ⟨5, .data⟩ (by simp) rfl 55 (by decide) rfl
              have h1 : AgV [x1, z1] (a.eval (.tmp 59)) := hat.deps ⟨9, .data⟩ (by simp) rfl 59 (by decide) rfl
              have h2 : ElV (u) (a.eval (.tmp 60)) := hat.deps ⟨10, .data⟩ (by simp) rfl 60 (by decide) rfl
              exact .inr ⟨_, #[a.eval (.tmp 55), a.eval (.tmp 59), a.eval (.tmp 60)], exec_call Try.func41 (by kernel_rfl) (by kernel_rfl) _ rfl _ _ (by simp), (step_V h0 h1 h2 _).mono (fun e w'' ⟨r1, r2, he, h1, h2, hb⟩ => ⟨_, he, ⟨r1, r2, rfl, h1, h2⟩, hb⟩)⟩
            · refine hot_val rfl rfl (fun L a w' hat => ?_)
              have h0 : ∃ v1 v2, a.eval (.tmp 61) = .tuple #[v1, v2] ∧ AgV [twiceX x0 z0, twiceZ x0 z0] v1 ∧ AgV [bothX x0 z0 x1 z1, bothZ x0 z0 x1 z1 u] v2 := hat.deps ⟨11, .data⟩ (by simp) rfl 61 (by decide) rfl
              exact out_of rfl h0
            · refine hot_val rfl rfl (fun L a w' hat => ?_)
              have h0 : ∃ v1 v2, a.eval (.tmp 49) = .tuple #[v1, v2] ∧ AgV [twiceX x0 z0, twiceZ x0 z0] v1 ∧ AgV [bothX x0 z0 x1 z1, bothZ x0 z0 x1 z1 u] v2 := hat.deps ⟨12, .data⟩ (by simp) rfl 49 (by decide) rfl
              obtain ⟨v1, v2, hv, hv1, hv2⟩ := h0
              exact out_of (v := v1) (by (generalize a.eval = ev at *); simp [execOp, go_sem, hv] <;> rfl) hv1
            · refine hot_val rfl rfl (fun L a w' hat => ?_)
              have h0 : ∃ v1 v2, a.eval (.tmp 49) = .tuple #[v1, v2] ∧ AgV [twiceX x0 z0, twiceZ x0 z0] v1 ∧ AgV [bothX x0 z0 x1 z1, bothZ x0 z0 x1 z1 u] v2 := hat.deps ⟨12, .data⟩ (by simp) rfl 49 (by decide) rfl
              obtain ⟨v1, v2, hv, hv1, hv2⟩ := h0
              exact out_of (v := v2) (by (generalize a.eval = ev at *); simp [execOp, go_sem, hv] <;> rfl) hv2
            · refine hot_val rfl rfl (fun L a w' hat => ?_)
              have h0 : a.eval (.tmp 9) = .pointer (some ⟨g9, 0, none⟩) := (hat.others 9 (by decide)).trans rfl
              have h1 : a.eval (.tmp 50) = .int .u8 (0) := hat.deps ⟨0, .data⟩ (by simp) rfl 50 (by decide) rfl
              exact out_of (v := .pointer (some ⟨g9, 0, none⟩)) (by (generalize a.eval = ev at *); simp [execOp, go_sem, h0, h1] <;> rfl) rfl
            · refine hot_store rfl (fun L a w' hat => ?_)
              have h0 : a.eval (.tmp 64) = .pointer (some ⟨g9, 0, none⟩) := hat.deps ⟨15, .data⟩ (by simp) rfl 64 (by decide) rfl
              have h1 : AgV [twiceX x0 z0, twiceZ x0 z0] (a.eval (.tmp 62)) := hat.deps ⟨13, .data⟩ (by simp) rfl 62 (by decide) rfl
              obtain ⟨c0, c1, hH⟩ : ∃ c0 c1, BlkF w' g9 [c0, c1, x1, z1] 65 := by (have hH := hat.hot; cases hL : L 16 <;> simp only [hL] at hH <;> exact ⟨_, _, hH⟩)
              exact hot_ex (st2_0 rfl h0 hH h1) (fun w'' hN => by show BlkF w'' _ (bif (L 16 || 16 == 16) then _ else _) _; rw [show (L 16 || 16 == 16) = true by simp]; exact hN)
          · intro L gs w8 hbx hV hall hH hap
            replace hF7 := hF7.oldX hbx n79
            replace BK := hbx.blk BK nk9
            have hN9 : BlkF w8 g9 [twiceX x0 z0, twiceZ x0 z0, x1, z1] 65 := by (have h := hH; simp only [hall 16 (by omega)] at h; exact h)
            replace HW := hbx.below HW HW.size (fun k hk => by rw [hk]; exact hg9)
            have hi2 := hV 2 (by omega) (by decide) 52 rfl
            have hs2 := hV 14 (by omega) (by decide) 63 rfl
            simp only [List.map_cons, List.map_nil, puts, Act.put, List.setIfInBounds_toArray, List.set_cons_zero, List.set_cons_succ, List.drop_succ_cons, List.drop_zero]
            rw [show gs 52 = .int .u8 1 from hi2]
            refine tail_val (v := .pointer (some ⟨g9, 10, none⟩)) rfl (by simp [execOp, go_sem]) ?_
            simp only [Act.put, List.setIfInBounds_toArray, List.set_cons_zero, List.set_cons_succ, List.drop_succ_cons, List.drop_zero]
            refine tail_st2_1 rfl rfl rfl rfl hN9 hs2 (fun w9 hN hc => ?_)
            replace hF7 := hF7.oldX hc n79
            replace BK := hc.blk BK nk9
            replace HW := hc.below HW HW.size (fun k hk => by rw [hk]; exact hg9)
            clear hF9 hH hall hV hap hbx hc hs2 hi2 hN9
            refine wpList_nil ?_
            try (show Exit.then _ _ .normal _ _)
            go_wp2_with fail
            go_roundw
            case rel => exact ⟨K + 1, i_next K, by omega, by (rw [lad_0 HL.out hb.out]; exact hN), hF7, BK, HW⟩
            case measure => first | (simp [intOf]; done) | (simp [intOf]; omega)
        · have hb := hidd hb0
          have e0 : ((z / 2 ^ m % 2 : Nat) : Int) = 1 := by omega
          rw [e0]
          clear hb0 hbit e0 hcz ejt hI ej em hjI hmI
          refine region_hotV 17 multS10bK (multS10b (wr.heap.size) x0 z0 x1 z1 u g7 g9) (fun L w => BlkF w g9 (bif L 16 then [x0, z0, twiceX x1 z1, twiceZ x1 z1] else [x0, z0, x1, z1]) 65) (fun k => k = g9) [50, 51, 52, 53, 54, 55, 56, 57, 58, 59, 60, 61, 49, 62, 63, 64] (by kernel_rfl) (by kernel_rfl) (by kernel_rfl) (by kernel_rfl) (by kernel_rfl) ?_ (fun L w w' h hb => h.old hb) (fun L i w hk h => if e : i = 16 then absurd (by rw [e]; rfl) hk else by (have e2 : (16 == i) = false := (by simp only [beq_eq_false_iff_ne]; omega); show BlkF w _ (bif (L 16 || 16 == i) then _ else _) _; rw [e2, Bool.or_false]; exact h)) ?_ hF9 (hots_all ?_) ?_
          · exact fun i w w' v h hb => by revert h; unfold multS10b; split <;> first | exact id | (rintro ⟨g, hv, hg, hB⟩; exact ⟨g, hv, hg, hB.oldX hb (fun h => h)⟩) | (exact fun h => h.old hb.none)
          · exact fun i w v hk h => by unfold multS10bK at hk; split at hk <;> first | (cases hk; done) | (obtain ⟨g, hv, _, hB⟩ := h; exact ⟨g, hv, hB.lt⟩)
          · simp only [List.take_succ_cons, List.take_zero, HotFrom]
            refine ⟨?_, ?_, ?_, ?_, ?_, ?_, ?_, ?_, ?_, ?_, ?_, ?_, ?_, ?_, ?_, ?_, ?_, trivial⟩
            · refine hot_val rfl rfl (fun L a w' hat => ?_)
              have h0 : a.eval (.tmp 11) = .int .u8 (1) := (hat.others 11 (by decide)).trans rfl
              exact out_of rfl h0
            · refine hot_val rfl rfl (fun L a w' hat => ?_)
              have h0 : a.eval (.tmp 11) = .int .u8 (1) := (hat.others 11 (by decide)).trans rfl
              exact out_of rfl h0
            · refine hot_val rfl rfl (fun L a w' hat => ?_)
              have h0 : a.eval (.const (Value.int IntKind.u8 1)) = .int .u8 1 := rfl
              have h1 : a.eval (.tmp 51) = .int .u8 (1) := hat.deps ⟨1, .data⟩ (by simp) rfl 51 (by decide) rfl
              exact out_of (v := .int .u8 (0)) (by (generalize a.eval = ev at *); simp [execOp, go_sem, h0, h1] <;> rfl) rfl
            · refine hot_val rfl rfl (fun L a w' hat => ?_)
              have h0 : a.eval (.tmp 11) = .int .u8 (1) := (hat.others 11 (by decide)).trans rfl
              exact out_of rfl h0
            · refine hot_val rfl rfl (fun L a w' hat => ?_)
              have h0 : a.eval (.tmp 9) = .pointer (some ⟨g9, 0, none⟩) := (hat.others 9 (by decide)).trans rfl
              have h1 : a.eval (.tmp 53) = .int .u8 (1) := hat.deps ⟨3, .data⟩ (by simp) rfl 53 (by decide) rfl
              exact out_of (v := .pointer (some ⟨g9, 10, none⟩)) (by (generalize a.eval = ev at *); simp [execOp, go_sem, h0, h1] <;> rfl) rfl
            · refine hot_val rfl rfl (fun L a w' hat => ?_)
              have h0 : a.eval (.tmp 54) = .pointer (some ⟨g9, 10, none⟩) := hat.deps ⟨4, .data⟩ (by simp) rfl 54 (by decide) rfl
              exact out_ex (ld2_4_1 rfl h0 (by (have h := hat.hot; simp only [hat.later 16 _ rfl (by kernel_rfl)] at h; exact h))) (fun u hE => hE)
            · refine hot_val rfl rfl (fun L a w' hat => ?_)
              have h0 : a.eval (.tmp 11) = .int .u8 (1) := (hat.others 11 (by decide)).trans rfl
              exact out_of rfl h0
            · refine hot_val rfl rfl (fun L a w' hat => ?_)
              have h0 : a.eval (.const (Value.int IntKind.u8 1)) = .int .u8 1 := rfl
              have h1 : a.eval (.tmp 56) = .int .u8 (1) := hat.deps ⟨6, .data⟩ (by simp) rfl 56 (by decide) rfl
              exact out_of (v := .int .u8 (0)) (by (generalize a.eval = ev at *); simp [execOp, go_sem, h0, h1] <;> rfl) rfl
            · refine hot_val rfl rfl (fun L a w' hat => ?_)
              have h0 : a.eval (.tmp 9) = .pointer (some ⟨g9, 0, none⟩) := (hat.others 9 (by decide)).trans rfl
              have h1 : a.eval (.tmp 57) = .int .u8 (0) := hat.deps ⟨7, .data⟩ (by simp) rfl 57 (by decide) rfl
              exact out_of (v := .pointer (some ⟨g9, 0, none⟩)) (by (generalize a.eval = ev at *); simp [execOp, go_sem, h0, h1] <;> rfl) rfl
            · refine hot_val rfl rfl (fun L a w' hat => ?_)
              have h0 : a.eval (.tmp 58) = .pointer (some ⟨g9, 0, none⟩) := hat.deps ⟨8, .data⟩ (by simp) rfl 58 (by decide) rfl
              exact out_ex (ld2_4_0 rfl h0 (by (have h := hat.hot; simp only [hat.later 16 _ rfl (by kernel_rfl)] at h; exact h))) (fun u hE => hE)
            · refine hot_val rfl rfl (fun L a w' hat => ?_)
              have h0 : a.eval (.tmp 7) = .pointer (some ⟨g7, 0, none⟩) := (hat.others 7 (by decide)).trans rfl
              exact out_ex (ld1_1_0 rfl h0 (hF7.oldX hat.grow n79)) (fun u hE => hE)
            · refine hot_val rfl rfl (fun L a w' hat => ?_)
              have h0 : AgV [x1, z1] (a.eval (.tmp 55)) := hat.deps ⟨5, .data⟩ (by simp) rfl 55 (by decide) rfl
              have h1 : AgV [x0, z0] (a.eval (.tmp 59)) := hat.deps ⟨9, .data⟩ (by simp) rfl 59 (by decide) rfl
              have h2 : ElV (u) (a.eval (.tmp 60)) := hat.deps ⟨10, .data⟩ (by simp) rfl 60 (by decide) rfl
              exact .inr ⟨_, #[a.eval (.tmp 55), a.eval (.tmp 59), a.eval (.tmp 60)], exec_call Try.func41 (by kernel_rfl) (by kernel_rfl) _ rfl _ _ (by simp), (step_V h0 h1 h2 _).mono (fun e w'' ⟨r1, r2, he, h1, h2, hb⟩ => ⟨_, he, ⟨r1, r2, rfl, h1, h2⟩, hb⟩)⟩
            · refine hot_val rfl rfl (fun L a w' hat => ?_)
              have h0 : ∃ v1 v2, a.eval (.tmp 61) = .tuple #[v1, v2] ∧ AgV [twiceX x1 z1, twiceZ x1 z1] v1 ∧ AgV [bothX x1 z1 x0 z0, bothZ x1 z1 x0 z0 u] v2 := hat.deps ⟨11, .data⟩ (by simp) rfl 61 (by decide) rfl
              exact out_of rfl h0
            · refine hot_val rfl rfl (fun L a w' hat => ?_)
              have h0 : ∃ v1 v2, a.eval (.tmp 49) = .tuple #[v1, v2] ∧ AgV [twiceX x1 z1, twiceZ x1 z1] v1 ∧ AgV [bothX x1 z1 x0 z0, bothZ x1 z1 x0 z0 u] v2 := hat.deps ⟨12, .data⟩ (by simp) rfl 49 (by decide) rfl
              obtain ⟨v1, v2, hv, hv1, hv2⟩ := h0
              exact out_of (v := v1) (by (generalize a.eval = ev at *); simp [execOp, go_sem, hv] <;> rfl) hv1
            · refine hot_val rfl rfl (fun L a w' hat => ?_)
              have h0 : ∃ v1 v2, a.eval (.tmp 49) = .tuple #[v1, v2] ∧ AgV [twiceX x1 z1, twiceZ x1 z1] v1 ∧ AgV [bothX x1 z1 x0 z0, bothZ x1 z1 x0 z0 u] v2 := hat.deps ⟨12, .data⟩ (by simp) rfl 49 (by decide) rfl
              obtain ⟨v1, v2, hv, hv1, hv2⟩ := h0
              exact out_of (v := v2) (by (generalize a.eval = ev at *); simp [execOp, go_sem, hv] <;> rfl) hv2
            · refine hot_val rfl rfl (fun L a w' hat => ?_)
              have h0 : a.eval (.tmp 9) = .pointer (some ⟨g9, 0, none⟩) := (hat.others 9 (by decide)).trans rfl
              have h1 : a.eval (.tmp 50) = .int .u8 (1) := hat.deps ⟨0, .data⟩ (by simp) rfl 50 (by decide) rfl
              exact out_of (v := .pointer (some ⟨g9, 10, none⟩)) (by (generalize a.eval = ev at *); simp [execOp, go_sem, h0, h1] <;> rfl) rfl
            · refine hot_store rfl (fun L a w' hat => ?_)
              have h0 : a.eval (.tmp 64) = .pointer (some ⟨g9, 10, none⟩) := hat.deps ⟨15, .data⟩ (by simp) rfl 64 (by decide) rfl
              have h1 : AgV [twiceX x1 z1, twiceZ x1 z1] (a.eval (.tmp 62)) := hat.deps ⟨13, .data⟩ (by simp) rfl 62 (by decide) rfl
              obtain ⟨c0, c1, hH⟩ : ∃ c0 c1, BlkF w' g9 [x0, z0, c0, c1] 65 := by (have hH := hat.hot; cases hL : L 16 <;> simp only [hL] at hH <;> exact ⟨_, _, hH⟩)
              exact hot_ex (st2_1 rfl h0 hH h1) (fun w'' hN => by show BlkF w'' _ (bif (L 16 || 16 == 16) then _ else _) _; rw [show (L 16 || 16 == 16) = true by simp]; exact hN)
          · intro L gs w8 hbx hV hall hH hap
            replace hF7 := hF7.oldX hbx n79
            replace BK := hbx.blk BK nk9
            have hN9 : BlkF w8 g9 [x0, z0, twiceX x1 z1, twiceZ x1 z1] 65 := by (have h := hH; simp only [hall 16 (by omega)] at h; exact h)
            replace HW := hbx.below HW HW.size (fun k hk => by rw [hk]; exact hg9)
            have hi2 := hV 2 (by omega) (by decide) 52 rfl
            have hs2 := hV 14 (by omega) (by decide) 63 rfl
            simp only [List.map_cons, List.map_nil, puts, Act.put, List.setIfInBounds_toArray, List.set_cons_zero, List.set_cons_succ, List.drop_succ_cons, List.drop_zero]
            rw [show gs 52 = .int .u8 0 from hi2]
            refine tail_val (v := .pointer (some ⟨g9, 0, none⟩)) rfl (by simp [execOp, go_sem]) ?_
            simp only [Act.put, List.setIfInBounds_toArray, List.set_cons_zero, List.set_cons_succ, List.drop_succ_cons, List.drop_zero]
            refine tail_st2_0 rfl rfl rfl rfl hN9 hs2 (fun w9 hN hc => ?_)
            replace hF7 := hF7.oldX hc n79
            replace BK := hc.blk BK nk9
            replace HW := hc.below HW HW.size (fun k hk => by rw [hk]; exact hg9)
            clear hF9 hH hall hV hap hbx hc hs2 hi2 hN9
            refine wpList_nil ?_
            try (show Exit.then _ _ .normal _ _)
            go_wp2_with fail
            go_roundw
            case rel => exact ⟨K + 1, i_next K, by omega, by (rw [lad_1 HL.out hb.out]; exact hN), hF7, BK, HW⟩
            case measure => first | (simp [intOf]; done) | (simp [intOf]; omega)
      · obtain rfl : K = 255 := by omega
        have hx : xmul ks us = x0 * fi z0 := by
          unfold xmul
          rw [HU.out, HL.out]
        have HX := hidd hx
        clear hx hlt hK
        go_wp2_with fail
        refine region_hotV 10 multS11K (multS11 (wr.heap.size) x0 z0 x1 z1 g9) (fun _ _ => True) (fun _ => False) [66, 67, 68, 69, 70, 71, 72, 73, 74, 12] (by kernel_rfl) (by kernel_rfl) (by kernel_rfl) (by kernel_rfl) (by kernel_rfl) ?_ (fun _ _ _ _ _ => trivial) (fun _ _ _ _ _ => trivial) ?_ trivial (hots_all ?_) ?_
        · exact fun i w w' v h hb => by revert h; unfold multS11; split <;> first | exact id | (rintro ⟨g, hv, hg, hB⟩; exact ⟨g, hv, hg, hB.oldX hb (fun h => h)⟩) | (exact fun h => h.old hb.none)
        · exact fun i w v hk h => by unfold multS11K at hk; split at hk <;> first | (cases hk; done) | (obtain ⟨g, hv, _, hB⟩ := h; exact ⟨g, hv, hB.lt⟩)
        · simp only [List.take_succ_cons, List.take_zero, HotFrom]
          refine ⟨?_, ?_, ?_, ?_, ?_, ?_, ?_, ?_, ?_, ?_, trivial⟩
          · refine hot_val rfl rfl (fun L a w' hat => ?_)
            have h0 : a.eval (.tmp 9) = .pointer (some ⟨g9, 0, none⟩) := (hat.others 9 (by decide)).trans rfl
            have h1 : a.eval (.const (Value.int IntKind.i64 0)) = .int .i64 0 := rfl
            exact out_of (v := .pointer (some ⟨g9, 0, none⟩)) (by (generalize a.eval = ev at *); simp [execOp, go_sem, h0, h1] <;> rfl) rfl
          · refine hot_val rfl rfl (fun L a w' hat => ?_)
            have h0 : a.eval (.tmp 66) = .pointer (some ⟨g9, 0, none⟩) := hat.deps ⟨0, .data⟩ (by simp) rfl 66 (by decide) rfl
            exact out_of (v := .pointer (some ⟨g9, 0, none⟩)) (by (generalize a.eval = ev at *); simp [execOp, go_sem, h0] <;> rfl) rfl
          · refine hot_val rfl rfl (fun L a w' hat => ?_)
            have h0 : a.eval (.tmp 67) = .pointer (some ⟨g9, 0, none⟩) := hat.deps ⟨1, .data⟩ (by simp) rfl 67 (by decide) rfl
            exact out_ex (ld1_4_0 rfl h0 (hF9.oldX hat.grow (fun h => h))) (fun u hE => hE)
          · refine hot_val rfl rfl (fun L a w' hat => ?_)
            have h0 : a.eval (.tmp 9) = .pointer (some ⟨g9, 0, none⟩) := (hat.others 9 (by decide)).trans rfl
            have h1 : a.eval (.const (Value.int IntKind.i64 0)) = .int .i64 0 := rfl
            exact out_of (v := .pointer (some ⟨g9, 0, none⟩)) (by (generalize a.eval = ev at *); simp [execOp, go_sem, h0, h1] <;> rfl) rfl
          · refine hot_val rfl rfl (fun L a w' hat => ?_)
            have h0 : a.eval (.tmp 69) = .pointer (some ⟨g9, 0, none⟩) := hat.deps ⟨3, .data⟩ (by simp) rfl 69 (by decide) rfl
            exact out_of (v := .pointer (some ⟨g9, 5, none⟩)) (by (generalize a.eval = ev at *); simp [execOp, go_sem, h0] <;> rfl) rfl
          · refine hot_val rfl rfl (fun L a w' hat => ?_)
            have h0 : a.eval (.tmp 70) = .pointer (some ⟨g9, 5, none⟩) := hat.deps ⟨4, .data⟩ (by simp) rfl 70 (by decide) rfl
            exact out_ex (ld1_4_1 rfl h0 (hF9.oldX hat.grow (fun h => h))) (fun u hE => hE)
          · refine hot_val rfl rfl (fun L a w' hat => ?_)
            have h0 : ElV (z0) (a.eval (.tmp 71)) := hat.deps ⟨5, .data⟩ (by simp) rfl 71 (by decide) rfl
            exact .inr ⟨_, #[a.eval (.tmp 71)], exec_call Try.func18 (by kernel_rfl) (by kernel_rfl) _ rfl _ _ (by simp), Inv_V h0 _⟩
          · refine hot_val rfl rfl (fun L a w' hat => ?_)
            have h0 : ElV (x0) (a.eval (.tmp 68)) := hat.deps ⟨2, .data⟩ (by simp) rfl 68 (by decide) rfl
            have h1 : ElV (fi (z0)) (a.eval (.tmp 72)) := hat.deps ⟨6, .data⟩ (by simp) rfl 72 (by decide) rfl
            exact .inr ⟨_, #[a.eval (.tmp 68), a.eval (.tmp 72)], exec_call Try.func16 (by kernel_rfl) (by kernel_rfl) _ rfl _ _ (by simp), Mul_V h0 h1 _⟩
          · refine hot_val rfl rfl (fun L a w' hat => ?_)
            have h0 : ElV ((x0) * (fi (z0))) (a.eval (.tmp 73)) := hat.deps ⟨7, .data⟩ (by simp) rfl 73 (by decide) rfl
            exact .inr ⟨_, #[a.eval (.tmp 73)], exec_call Try.func30 (by kernel_rfl) (by kernel_rfl) _ rfl _ _ (by simp), Bytes_O h0 _ _ hat.grow.size⟩
          · refine hot_val rfl rfl (fun L a w' hat => ?_)
            have h0 : OwnV _ (byteL ((x0) * (fi (z0))).val) w' (a.eval (.tmp 74)) := hat.deps ⟨8, .data⟩ (by simp) rfl 74 (by decide) rfl
            exact out_of rfl h0
        · intro L gs w8 hbx hV hall hH hap
          obtain ⟨A1, c1, hv12, hO⟩ := hV 9 (by omega) (by decide) 12 rfl
          rw [byteL_length] at hv12
          simp only [List.map_cons, List.map_nil, puts, Act.put, hv12, List.setIfInBounds_toArray, List.set_cons_zero, List.set_cons_succ, List.drop_succ_cons, List.drop_zero, List.drop_nil]
          replace HB := hbx.below HW HW.size (fun k h => h.elim)
          replace hO := hO.mono HW.size
          clear hV hall hH hap hbx hv12 hF9 hF7 BK HW HL
          have hmk := mk32z w8
          refine wpList_nil ?_
          try (show Exit.then _ _ .normal _ _)
          go_wp2_with fail
          refine Calls.mono (WEqual_any _ (hO.bs.below ((Below.refl _ _).alloc (Nat.le_refl _) _)) (Bs_of_Blk (ys := List.replicate 32 0) (Blk.new _ _ _) (by intro y hy; rw [(List.mem_replicate.1 hy).2]; omega) (by simp)) (byteL_length _) (by simp)) ?_
          rintro e w9 ⟨rfl, hb9⟩
          have hb8 : Below w8.heap.size w8 w9 := ((Below.refl _ _).alloc (Nat.le_refl _) _).trans (hb9.mono (by simp))
          replace HB := below_from HB hb8
          replace hO := hO.below hb8
          clear hb9 hb8 hmk
          rw [byteL_zero]
          dsimp only
          by_cases hz : (x0 * fi z0).val = 0
          · rw [decide_eq_true hz]
            have HZ := hidd hz
            clear hz
            go_wp2_with fail
            go_ret2
            refine ⟨?_, HB⟩
            unfold MultPost
            rw [HX.out, if_pos HZ.out]
            rfl
          · rw [decide_eq_false hz]
            have HZ := hidd hz
            clear hz
            go_wp2_with fail
            go_ret2
            refine ⟨?_, HB⟩
            unfold MultPost
            rw [HX.out, if_neg HZ.out]
            exact ⟨A1, c1, rfl, hO⟩
end Go.Proofs.Ytikjcikedbcfmaa
