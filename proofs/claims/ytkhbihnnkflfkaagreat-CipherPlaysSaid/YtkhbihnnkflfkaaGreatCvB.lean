/-
 FieldC: WHAT Mult_pl, Base_any NEED OF THEM (printed by sub.py).
-/
import Derived.Test.YtkhbihnnkflfkaaGreatCvA
namespace Go.Proofs.YtkhbihnnkflfkaaGreat
open Go.RowKit
set_option linter.unusedVariables false
set_option linter.unusedSimpArgs false
set_option maxRecDepth 100000
set_option linter.constructorNameAsVariable false

variable {k k' : Nat} {h h' l l' n n' : Int}
theorem idx5_0 (x0 x1 x2 x3 x4 : Int) (w : World) : (Instr.index 102 (.agg #[.int .u64 x0, .int .u64 x1, .int .u64 x2, .int .u64 x3, .int .u64 x4]) (.int .i64 0)).run Tryz.prog w = .ok (.int .u64 x0) w := by kernel_rfl
theorem idx5_1 (x0 x1 x2 x3 x4 : Int) (w : World) : (Instr.index 102 (.agg #[.int .u64 x0, .int .u64 x1, .int .u64 x2, .int .u64 x3, .int .u64 x4]) (.int .i64 1)).run Tryz.prog w = .ok (.int .u64 x1) w := by kernel_rfl
theorem idx5_2 (x0 x1 x2 x3 x4 : Int) (w : World) : (Instr.index 102 (.agg #[.int .u64 x0, .int .u64 x1, .int .u64 x2, .int .u64 x3, .int .u64 x4]) (.int .i64 2)).run Tryz.prog w = .ok (.int .u64 x2) w := by kernel_rfl
theorem idx5_3 (x0 x1 x2 x3 x4 : Int) (w : World) : (Instr.index 102 (.agg #[.int .u64 x0, .int .u64 x1, .int .u64 x2, .int .u64 x3, .int .u64 x4]) (.int .i64 3)).run Tryz.prog w = .ok (.int .u64 x3) w := by kernel_rfl
theorem idx5_4 (x0 x1 x2 x3 x4 : Int) (w : World) : (Instr.index 102 (.agg #[.int .u64 x0, .int .u64 x1, .int .u64 x2, .int .u64 x3, .int .u64 x4]) (.int .i64 4)).run Tryz.prog w = .ok (.int .u64 x4) w := by kernel_rfl
theorem idxs_0 (h0 l0 h1 l1 h2 l2 h3 l3 h4 l4 : Int) (w : World) : (Instr.index 143 (.agg #[.int .u64 h0, .int .u64 l0, .int .u64 h1, .int .u64 l1, .int .u64 h2, .int .u64 l2, .int .u64 h3, .int .u64 l3, .int .u64 h4, .int .u64 l4]) (.int .i64 0)).run Tryz.prog w = .ok (.agg #[.int .u64 h0, .int .u64 l0]) w := by kernel_rfl
theorem idxs_1 (h0 l0 h1 l1 h2 l2 h3 l3 h4 l4 : Int) (w : World) : (Instr.index 143 (.agg #[.int .u64 h0, .int .u64 l0, .int .u64 h1, .int .u64 l1, .int .u64 h2, .int .u64 l2, .int .u64 h3, .int .u64 l3, .int .u64 h4, .int .u64 l4]) (.int .i64 1)).run Tryz.prog w = .ok (.agg #[.int .u64 h1, .int .u64 l1]) w := by kernel_rfl
theorem idxs_2 (h0 l0 h1 l1 h2 l2 h3 l3 h4 l4 : Int) (w : World) : (Instr.index 143 (.agg #[.int .u64 h0, .int .u64 l0, .int .u64 h1, .int .u64 l1, .int .u64 h2, .int .u64 l2, .int .u64 h3, .int .u64 l3, .int .u64 h4, .int .u64 l4]) (.int .i64 2)).run Tryz.prog w = .ok (.agg #[.int .u64 h2, .int .u64 l2]) w := by kernel_rfl
theorem idxs_3 (h0 l0 h1 l1 h2 l2 h3 l3 h4 l4 : Int) (w : World) : (Instr.index 143 (.agg #[.int .u64 h0, .int .u64 l0, .int .u64 h1, .int .u64 l1, .int .u64 h2, .int .u64 l2, .int .u64 h3, .int .u64 l3, .int .u64 h4, .int .u64 l4]) (.int .i64 3)).run Tryz.prog w = .ok (.agg #[.int .u64 h3, .int .u64 l3]) w := by kernel_rfl
theorem idxs_4 (h0 l0 h1 l1 h2 l2 h3 l3 h4 l4 : Int) (w : World) : (Instr.index 143 (.agg #[.int .u64 h0, .int .u64 l0, .int .u64 h1, .int .u64 l1, .int .u64 h2, .int .u64 l2, .int .u64 h3, .int .u64 l3, .int .u64 h4, .int .u64 l4]) (.int .i64 4)).run Tryz.prog w = .ok (.agg #[.int .u64 h4, .int .u64 l4]) w := by kernel_rfl
structure Acc (k : Nat) (n : Int) (h l : Int) : Prop where
 w2 : W2 n h l
 le : n ≤ (k : Int) * 385373023405425703862868540981248
 ge : 0 ≤ n
theorem mul_le (a b : Int) (ha0 : 0 ≤ a) (ha : a < 85568392920039424) (hb0 : 0 ≤ b) (hb : b < 4503599627370496) : 0 ≤ a * b ∧ a * b ≤ 385373023405425703862868540981248 := by
 refine ⟨Int.mul_nonneg ha0 hb0, ?_⟩
 have h := Int.mul_le_mul (a := a) (b := b) (c := 85568392920039424) (d := 4503599627370496) (by omega) (by omega) hb0 (by omega)
 omega
theorem sum_acc (k : Nat) (T h l a b : Int) (w : World) (hT : Acc k T h l) (hk : k < 10) (ha0 : 0 ≤ a) (ha : a < 85568392920039424) (hb0 : 0 ≤ b) (hb : b < 4503599627370496) :
  Calls Tryz.prog 125 #[.agg #[.int .u64 h, .int .u64 l], .int .u64 a, .int .u64 b] w fun e w' => ∃ h' l', e = .returned (.agg #[.int .u64 h', .int .u64 l']) ∧ Acc (k + 1) (T + a * b) h' l' ∧ Below w.heap.size w w' := by
 obtain ⟨p0, p1⟩ := mul_le a b ha0 ha hb0 hb
 obtain ⟨w2, le, ge⟩ := hT
 refine (sumadd_any T h l a b w w2 ha0 (by omega) hb0 (by omega) (by omega)).mono ?_
 rintro e w' ⟨h', l', he, hw, hb⟩
 exact ⟨h', l', he, ⟨hw, by omega, by omega⟩, hb⟩
theorem Acc.q (A : Acc k n h l) (hk : k ≤ 5) : bits .or .u64 (IntKind.u64.wrap (h * 8192)) (l / 2251799813685248) = n / 2251799813685248 := by
 obtain ⟨⟨h0, h1, l0, l1, hn⟩, le, ge⟩ := A
 have e : IntKind.u64.wrap (h * 8192) = h * 8192 := by rw [wrap64u]; omega
 rw [e, u64_or _ _ (by omega) (by omega) (by omega) (by omega), nat_join 13 (h * 8192).toNat (l / 2251799813685248).toNat (by omega) (by omega)]
 omega
theorem Acc.r (A : Acc k n h l) : bits .and .u64 l 2251799813685247 = n % 2251799813685248 := by
 obtain ⟨⟨h0, h1, l0, l1, hn⟩, le, ge⟩ := A
 rw [and51 l l0 l1]; omega
theorem Acc.d0 (A : Acc k n h l) (A' : Acc k' n' h' l') (hk' : k' ≤ 5) :
  IntKind.u64.wrap (IntKind.u64.wrap (bits .and .u64 l 2251799813685247) + IntKind.u64.wrap (bits .or .u64 (IntKind.u64.wrap (h' * 8192)) (l' / 2251799813685248) * 19)) = n % 2251799813685248 + n' / 2251799813685248 * 19 := by
 rw [A.r, A'.q hk', wrap64u, wrap64u, wrap64u]
 have le := A'.le
 have ge := A'.ge
 omega
theorem Acc.d (A : Acc k n h l) (A' : Acc k' n' h' l') (hk : k ≤ 5) :
  IntKind.u64.wrap (IntKind.u64.wrap (bits .or .u64 (IntKind.u64.wrap (h * 8192)) (l / 2251799813685248)) + bits .and .u64 l' 2251799813685247) = n / 2251799813685248 + n' % 2251799813685248 := by
 rw [A'.r, A.q hk, wrap64u, wrap64u]
 have le := A.le
 have ge := A.ge
 omega
theorem S5_fold (n0 n1 n2 n3 n4 : Int) : toF (S5 (n0 % 2251799813685248 + n4 / 2251799813685248 * 19) (n0 / 2251799813685248 + n1 % 2251799813685248) (n1 / 2251799813685248 + n2 % 2251799813685248) (n2 / 2251799813685248 + n3 % 2251799813685248) (n3 / 2251799813685248 + n4 % 2251799813685248)) = toF (S5 n0 n1 n2 n3 n4) := by
 refine toF_congr (- (n4 / 2251799813685248)) ?_
 unfold S5
 omega
set_option maxHeartbeats 8000000 in
theorem Mul_any {x y : F} {a0 a1 a2 a3 a4 b0 b1 b2 b3 b4 : Int} (ha : El x a0 a1 a2 a3 a4) (hb : El y b0 b1 b2 b3 b4) (w : World) :
  Calls Tryz.prog 94 #[.agg #[.int .u64 a0, .int .u64 a1, .int .u64 a2, .int .u64 a3, .int .u64 a4], .agg #[.int .u64 b0, .int .u64 b1, .int .u64 b2, .int .u64 b3, .int .u64 b4]] w fun e w' =>
   ∃ r0 r1 r2 r3 r4 : Int, e = .returned (.agg #[.int .u64 r0, .int .u64 r1, .int .u64 r2, .int .u64 r3, .int .u64 r4]) ∧ El (x * y) r0 r1 r2 r3 r4 ∧ Below w.heap.size w w' := by
 obtain ⟨la0, ha0, la1, ha1, la2, ha2, la3, ha3, la4, ha4, hx⟩ := ha
 obtain ⟨lb0, hb0, lb1, hb1, lb2, hb2, lb3, hb3, lb4, hb4, hy⟩ := hb
 have HX : Hid (toF (S5 a0 a1 a2 a3 a4) = x) := hx
 have HY : Hid (toF (S5 b0 b1 b2 b3 b4) = y) := hy
 clear hx hy
 have z : Acc 0 0 0 0 := ⟨⟨by omega, by omega, by omega, by omega, by omega⟩, by omega, by omega⟩
 have ia0 := idx5_0 a0 a1 a2 a3 a4
 have ib0 := idx5_0 b0 b1 b2 b3 b4
 have ia1 := idx5_1 a0 a1 a2 a3 a4
 have ib1 := idx5_1 b0 b1 b2 b3 b4
 have ia2 := idx5_2 a0 a1 a2 a3 a4
 have ib2 := idx5_2 b0 b1 b2 b3 b4
 have ia3 := idx5_3 a0 a1 a2 a3 a4
 have ib3 := idx5_3 b0 b1 b2 b3 b4
 have ia4 := idx5_4 a0 a1 a2 a3 a4
 have ib4 := idx5_4 b0 b1 b2 b3 b4
 go_enter Tryz.func94, Tryz.ntmps94
 go_wp2
 refine wp_loop_rounds 6 ?_
 refine rounds_step ?_
 go_wp2
 refine wp_loop_rounds 6 ?_
 refine rounds_step ?_
 go_wp2_with fail
 refine Calls.mono (sum_acc 0 (0) 0 0 a0 b0 _ z (by omega) (by omega) (by omega) (by omega) (by omega)) ?_
 rintro e w1 ⟨h1, l1, rfl, hW1, hb⟩
 have B0 : Blk w1 (w.heap.size) #[.int .u64 a0, .int .u64 a1, .int .u64 a2, .int .u64 a3, .int .u64 a4] 104 := (((((Blk.new w _ _).alloc _).alloc _).alloc _)).old hb
 have B1 : Blk w1 (w.heap.size + 1) #[.int .u64 b0, .int .u64 b1, .int .u64 b2, .int .u64 b3, .int .u64 b4] 104 := ((((Blk.at (w := w.alloc _) _ _ (by simp)).alloc _).alloc _)).old hb
 have B2 : Blk w1 (w.heap.size + 1 + 1) #[.int .u64 0, .int .u64 0, .int .u64 0, .int .u64 0, .int .u64 0] 104 := (((Blk.at (w := (w.alloc _).alloc _) _ _ (by simp)).alloc _)).old hb
 have B3 : Blk w1 (w.heap.size + 1 + 1 + 1) #[.int .u64 0, .int .u64 0, .int .u64 0, .int .u64 0, .int .u64 0, .int .u64 0, .int .u64 0, .int .u64 0, .int .u64 0, .int .u64 0] 143 := ((Blk.at (w := ((w.alloc _).alloc _).alloc _) _ _ (by simp))).old hb
 have HB : Below w.heap.size w w1 := ((((Below.refl _ _).alloc (Nat.le_refl _) _).alloc (by simp) _).alloc (by first | (simp; done) | (simp; omega) | omega) _ |>.alloc (by first | (simp; done) | (simp; omega) | omega) _).trans (hb.mono (by first | (simp; done) | (simp; omega) | omega))
 clear hb
 have c0 := B0.cell
 have f0 := B0.free
 have c1 := B1.cell
 have f1 := B1.free
 have c2 := B2.cell
 have f2 := B2.free
 have c3 := B3.cell
 have f3 := B3.free
 dsimp only
 go_wp2_with fail
 refine rounds_step ?_
 go_wp2_with fail
 refine Calls.mono (sum_acc 0 (0) 0 0 a0 b1 _ z (by omega) (by omega) (by omega) (by omega) (by omega)) ?_
 rintro e w2 ⟨h2, l2, rfl, hW2, hb⟩
 replace B0 : Blk w2 (w.heap.size) #[.int .u64 a0, .int .u64 a1, .int .u64 a2, .int .u64 a3, .int .u64 a4] 104 := B0.pass2 hb (by first | (simp; done) | (simp; omega) | omega) (by first | (simp; done) | (simp; omega) | omega)
 replace B1 : Blk w2 (w.heap.size + 1) #[.int .u64 b0, .int .u64 b1, .int .u64 b2, .int .u64 b3, .int .u64 b4] 104 := B1.pass2 hb (by first | (simp; done) | (simp; omega) | omega) (by first | (simp; done) | (simp; omega) | omega)
 replace B2 : Blk w2 (w.heap.size + 1 + 1) #[.int .u64 0, .int .u64 0, .int .u64 0, .int .u64 0, .int .u64 0] 104 := B2.pass2 hb (by first | (simp; done) | (simp; omega) | omega) (by first | (simp; done) | (simp; omega) | omega)
 replace B3 : Blk w2 (w.heap.size + 1 + 1 + 1) #[.int .u64 h1, .int .u64 l1, .int .u64 0, .int .u64 0, .int .u64 0, .int .u64 0, .int .u64 0, .int .u64 0, .int .u64 0, .int .u64 0] 143 := B3.in2 hb
 replace HB : Below w.heap.size w w2 := below2 HB hb HB.size (by first | (simp; done) | (simp; omega) | omega) (by first | (simp; done) | (simp; omega) | omega)
 clear hb c0 c1 c2 c3 f0 f1 f2 f3
 have c0 := B0.cell
 have f0 := B0.free
 have c1 := B1.cell
 have f1 := B1.free
 have c2 := B2.cell
 have f2 := B2.free
 have c3 := B3.cell
 have f3 := B3.free
 dsimp only
 go_wp2_with fail
 refine rounds_step ?_
 go_wp2_with fail
 refine Calls.mono (sum_acc 0 (0) 0 0 a0 b2 _ z (by omega) (by omega) (by omega) (by omega) (by omega)) ?_
 rintro e w3 ⟨h3, l3, rfl, hW3, hb⟩
 replace B0 : Blk w3 (w.heap.size) #[.int .u64 a0, .int .u64 a1, .int .u64 a2, .int .u64 a3, .int .u64 a4] 104 := B0.pass2 hb (by first | (simp; done) | (simp; omega) | omega) (by first | (simp; done) | (simp; omega) | omega)
 replace B1 : Blk w3 (w.heap.size + 1) #[.int .u64 b0, .int .u64 b1, .int .u64 b2, .int .u64 b3, .int .u64 b4] 104 := B1.pass2 hb (by first | (simp; done) | (simp; omega) | omega) (by first | (simp; done) | (simp; omega) | omega)
 replace B2 : Blk w3 (w.heap.size + 1 + 1) #[.int .u64 0, .int .u64 0, .int .u64 0, .int .u64 0, .int .u64 0] 104 := B2.pass2 hb (by first | (simp; done) | (simp; omega) | omega) (by first | (simp; done) | (simp; omega) | omega)
 replace B3 : Blk w3 (w.heap.size + 1 + 1 + 1) #[.int .u64 h1, .int .u64 l1, .int .u64 h2, .int .u64 l2, .int .u64 0, .int .u64 0, .int .u64 0, .int .u64 0, .int .u64 0, .int .u64 0] 143 := B3.in2 hb
 replace HB : Below w.heap.size w w3 := below2 HB hb HB.size (by first | (simp; done) | (simp; omega) | omega) (by first | (simp; done) | (simp; omega) | omega)
 clear hb c0 c1 c2 c3 f0 f1 f2 f3
 have c0 := B0.cell
 have f0 := B0.free
 have c1 := B1.cell
 have f1 := B1.free
 have c2 := B2.cell
 have f2 := B2.free
 have c3 := B3.cell
 have f3 := B3.free
 dsimp only
 go_wp2_with fail
 refine rounds_step ?_
 go_wp2_with fail
 refine Calls.mono (sum_acc 0 (0) 0 0 a0 b3 _ z (by omega) (by omega) (by omega) (by omega) (by omega)) ?_
 rintro e w4 ⟨h4, l4, rfl, hW4, hb⟩
 replace B0 : Blk w4 (w.heap.size) #[.int .u64 a0, .int .u64 a1, .int .u64 a2, .int .u64 a3, .int .u64 a4] 104 := B0.pass2 hb (by first | (simp; done) | (simp; omega) | omega) (by first | (simp; done) | (simp; omega) | omega)
 replace B1 : Blk w4 (w.heap.size + 1) #[.int .u64 b0, .int .u64 b1, .int .u64 b2, .int .u64 b3, .int .u64 b4] 104 := B1.pass2 hb (by first | (simp; done) | (simp; omega) | omega) (by first | (simp; done) | (simp; omega) | omega)
 replace B2 : Blk w4 (w.heap.size + 1 + 1) #[.int .u64 0, .int .u64 0, .int .u64 0, .int .u64 0, .int .u64 0] 104 := B2.pass2 hb (by first | (simp; done) | (simp; omega) | omega) (by first | (simp; done) | (simp; omega) | omega)
 replace B3 : Blk w4 (w.heap.size + 1 + 1 + 1) #[.int .u64 h1, .int .u64 l1, .int .u64 h2, .int .u64 l2, .int .u64 h3, .int .u64 l3, .int .u64 0, .int .u64 0, .int .u64 0, .int .u64 0] 143 := B3.in2 hb
 replace HB : Below w.heap.size w w4 := below2 HB hb HB.size (by first | (simp; done) | (simp; omega) | omega) (by first | (simp; done) | (simp; omega) | omega)
 clear hb c0 c1 c2 c3 f0 f1 f2 f3
 have c0 := B0.cell
 have f0 := B0.free
 have c1 := B1.cell
 have f1 := B1.free
 have c2 := B2.cell
 have f2 := B2.free
 have c3 := B3.cell
 have f3 := B3.free
 dsimp only
 go_wp2_with fail
 refine rounds_step ?_
 go_wp2_with fail
 refine Calls.mono (sum_acc 0 (0) 0 0 a0 b4 _ z (by omega) (by omega) (by omega) (by omega) (by omega)) ?_
 rintro e w5 ⟨h5, l5, rfl, hW5, hb⟩
 replace B0 : Blk w5 (w.heap.size) #[.int .u64 a0, .int .u64 a1, .int .u64 a2, .int .u64 a3, .int .u64 a4] 104 := B0.pass2 hb (by first | (simp; done) | (simp; omega) | omega) (by first | (simp; done) | (simp; omega) | omega)
 replace B1 : Blk w5 (w.heap.size + 1) #[.int .u64 b0, .int .u64 b1, .int .u64 b2, .int .u64 b3, .int .u64 b4] 104 := B1.pass2 hb (by first | (simp; done) | (simp; omega) | omega) (by first | (simp; done) | (simp; omega) | omega)
 replace B2 : Blk w5 (w.heap.size + 1 + 1) #[.int .u64 0, .int .u64 0, .int .u64 0, .int .u64 0, .int .u64 0] 104 := B2.pass2 hb (by first | (simp; done) | (simp; omega) | omega) (by first | (simp; done) | (simp; omega) | omega)
 replace B3 : Blk w5 (w.heap.size + 1 + 1 + 1) #[.int .u64 h1, .int .u64 l1, .int .u64 h2, .int .u64 l2, .int .u64 h3, .int .u64 l3, .int .u64 h4, .int .u64 l4, .int .u64 0, .int .u64 0] 143 := B3.in2 hb
 replace HB : Below w.heap.size w w5 := below2 HB hb HB.size (by first | (simp; done) | (simp; omega) | omega) (by first | (simp; done) | (simp; omega) | omega)
 clear hb c0 c1 c2 c3 f0 f1 f2 f3
 have c0 := B0.cell
 have f0 := B0.free
 have c1 := B1.cell
 have f1 := B1.free
 have c2 := B2.cell
 have f2 := B2.free
 have c3 := B3.cell
 have f3 := B3.free
 dsimp only
 go_wp2_with fail
 refine rounds_step ?_
 go_wp2
 refine rounds_step ?_
 go_wp2
 refine wp_loop_rounds 6 ?_
 refine rounds_step ?_
 go_wp2_with fail
 refine Calls.mono (sum_acc 1 (0 + a0 * b1) h2 l2 a1 b0 _ hW2 (by omega) (by omega) (by omega) (by omega) (by omega)) ?_
 rintro e w6 ⟨h6, l6, rfl, hW6, hb⟩
 replace B0 : Blk w6 (w.heap.size) #[.int .u64 a0, .int .u64 a1, .int .u64 a2, .int .u64 a3, .int .u64 a4] 104 := B0.pass2 hb (by first | (simp; done) | (simp; omega) | omega) (by first | (simp; done) | (simp; omega) | omega)
 replace B1 : Blk w6 (w.heap.size + 1) #[.int .u64 b0, .int .u64 b1, .int .u64 b2, .int .u64 b3, .int .u64 b4] 104 := B1.pass2 hb (by first | (simp; done) | (simp; omega) | omega) (by first | (simp; done) | (simp; omega) | omega)
 replace B2 : Blk w6 (w.heap.size + 1 + 1) #[.int .u64 0, .int .u64 0, .int .u64 0, .int .u64 0, .int .u64 0] 104 := B2.pass2 hb (by first | (simp; done) | (simp; omega) | omega) (by first | (simp; done) | (simp; omega) | omega)
 replace B3 : Blk w6 (w.heap.size + 1 + 1 + 1) #[.int .u64 h1, .int .u64 l1, .int .u64 h2, .int .u64 l2, .int .u64 h3, .int .u64 l3, .int .u64 h4, .int .u64 l4, .int .u64 h5, .int .u64 l5] 143 := B3.in2 hb
 replace HB : Below w.heap.size w w6 := below2 HB hb HB.size (by first | (simp; done) | (simp; omega) | omega) (by first | (simp; done) | (simp; omega) | omega)
 clear hb c0 c1 c2 c3 f0 f1 f2 f3
 have c0 := B0.cell
 have f0 := B0.free
 have c1 := B1.cell
 have f1 := B1.free
 have c2 := B2.cell
 have f2 := B2.free
 have c3 := B3.cell
 have f3 := B3.free
 dsimp only
 go_wp2_with fail
 refine rounds_step ?_
 go_wp2_with fail
 refine Calls.mono (sum_acc 1 (0 + a0 * b2) h3 l3 a1 b1 _ hW3 (by omega) (by omega) (by omega) (by omega) (by omega)) ?_
 rintro e w7 ⟨h7, l7, rfl, hW7, hb⟩
 replace B0 : Blk w7 (w.heap.size) #[.int .u64 a0, .int .u64 a1, .int .u64 a2, .int .u64 a3, .int .u64 a4] 104 := B0.pass2 hb (by first | (simp; done) | (simp; omega) | omega) (by first | (simp; done) | (simp; omega) | omega)
 replace B1 : Blk w7 (w.heap.size + 1) #[.int .u64 b0, .int .u64 b1, .int .u64 b2, .int .u64 b3, .int .u64 b4] 104 := B1.pass2 hb (by first | (simp; done) | (simp; omega) | omega) (by first | (simp; done) | (simp; omega) | omega)
 replace B2 : Blk w7 (w.heap.size + 1 + 1) #[.int .u64 0, .int .u64 0, .int .u64 0, .int .u64 0, .int .u64 0] 104 := B2.pass2 hb (by first | (simp; done) | (simp; omega) | omega) (by first | (simp; done) | (simp; omega) | omega)
 replace B3 : Blk w7 (w.heap.size + 1 + 1 + 1) #[.int .u64 h1, .int .u64 l1, .int .u64 h6, .int .u64 l6, .int .u64 h3, .int .u64 l3, .int .u64 h4, .int .u64 l4, .int .u64 h5, .int .u64 l5] 143 := B3.in2 hb
 replace HB : Below w.heap.size w w7 := below2 HB hb HB.size (by first | (simp; done) | (simp; omega) | omega) (by first | (simp; done) | (simp; omega) | omega)
 clear hb c0 c1 c2 c3 f0 f1 f2 f3
 have c0 := B0.cell
 have f0 := B0.free
 have c1 := B1.cell
 have f1 := B1.free
 have c2 := B2.cell
 have f2 := B2.free
 have c3 := B3.cell
 have f3 := B3.free
 dsimp only
 go_wp2_with fail
 refine rounds_step ?_
 go_wp2_with fail
 refine Calls.mono (sum_acc 1 (0 + a0 * b3) h4 l4 a1 b2 _ hW4 (by omega) (by omega) (by omega) (by omega) (by omega)) ?_
 rintro e w8 ⟨h8, l8, rfl, hW8, hb⟩
 replace B0 : Blk w8 (w.heap.size) #[.int .u64 a0, .int .u64 a1, .int .u64 a2, .int .u64 a3, .int .u64 a4] 104 := B0.pass2 hb (by first | (simp; done) | (simp; omega) | omega) (by first | (simp; done) | (simp; omega) | omega)
 replace B1 : Blk w8 (w.heap.size + 1) #[.int .u64 b0, .int .u64 b1, .int .u64 b2, .int .u64 b3, .int .u64 b4] 104 := B1.pass2 hb (by first | (simp; done) | (simp; omega) | omega) (by first | (simp; done) | (simp; omega) | omega)
 replace B2 : Blk w8 (w.heap.size + 1 + 1) #[.int .u64 0, .int .u64 0, .int .u64 0, .int .u64 0, .int .u64 0] 104 := B2.pass2 hb (by first | (simp; done) | (simp; omega) | omega) (by first | (simp; done) | (simp; omega) | omega)
 replace B3 : Blk w8 (w.heap.size + 1 + 1 + 1) #[.int .u64 h1, .int .u64 l1, .int .u64 h6, .int .u64 l6, .int .u64 h7, .int .u64 l7, .int .u64 h4, .int .u64 l4, .int .u64 h5, .int .u64 l5] 143 := B3.in2 hb
 replace HB : Below w.heap.size w w8 := below2 HB hb HB.size (by first | (simp; done) | (simp; omega) | omega) (by first | (simp; done) | (simp; omega) | omega)
 clear hb c0 c1 c2 c3 f0 f1 f2 f3
 have c0 := B0.cell
 have f0 := B0.free
 have c1 := B1.cell
 have f1 := B1.free
 have c2 := B2.cell
 have f2 := B2.free
 have c3 := B3.cell
 have f3 := B3.free
 dsimp only
 go_wp2_with fail
 refine rounds_step ?_
 go_wp2_with fail
 refine Calls.mono (sum_acc 1 (0 + a0 * b4) h5 l5 a1 b3 _ hW5 (by omega) (by omega) (by omega) (by omega) (by omega)) ?_
 rintro e w9 ⟨h9, l9, rfl, hW9, hb⟩
 replace B0 : Blk w9 (w.heap.size) #[.int .u64 a0, .int .u64 a1, .int .u64 a2, .int .u64 a3, .int .u64 a4] 104 := B0.pass2 hb (by first | (simp; done) | (simp; omega) | omega) (by first | (simp; done) | (simp; omega) | omega)
 replace B1 : Blk w9 (w.heap.size + 1) #[.int .u64 b0, .int .u64 b1, .int .u64 b2, .int .u64 b3, .int .u64 b4] 104 := B1.pass2 hb (by first | (simp; done) | (simp; omega) | omega) (by first | (simp; done) | (simp; omega) | omega)
 replace B2 : Blk w9 (w.heap.size + 1 + 1) #[.int .u64 0, .int .u64 0, .int .u64 0, .int .u64 0, .int .u64 0] 104 := B2.pass2 hb (by first | (simp; done) | (simp; omega) | omega) (by first | (simp; done) | (simp; omega) | omega)
 replace B3 : Blk w9 (w.heap.size + 1 + 1 + 1) #[.int .u64 h1, .int .u64 l1, .int .u64 h6, .int .u64 l6, .int .u64 h7, .int .u64 l7, .int .u64 h8, .int .u64 l8, .int .u64 h5, .int .u64 l5] 143 := B3.in2 hb
 replace HB : Below w.heap.size w w9 := below2 HB hb HB.size (by first | (simp; done) | (simp; omega) | omega) (by first | (simp; done) | (simp; omega) | omega)
 clear hb c0 c1 c2 c3 f0 f1 f2 f3
 have c0 := B0.cell
 have f0 := B0.free
 have c1 := B1.cell
 have f1 := B1.free
 have c2 := B2.cell
 have f2 := B2.free
 have c3 := B3.cell
 have f3 := B3.free
 dsimp only
 go_wp2_with fail
 refine rounds_step ?_
 go_wp2_with fail
 refine Calls.mono (sum_acc 1 (0 + a0 * b0) h1 l1 (a1 * 19) b4 _ hW1 (by omega) (by omega) (by omega) (by omega) (by omega)) ?_
 rintro e w10 ⟨h10, l10, rfl, hW10, hb⟩
 replace B0 : Blk w10 (w.heap.size) #[.int .u64 a0, .int .u64 a1, .int .u64 a2, .int .u64 a3, .int .u64 a4] 104 := B0.pass2 hb (by first | (simp; done) | (simp; omega) | omega) (by first | (simp; done) | (simp; omega) | omega)
 replace B1 : Blk w10 (w.heap.size + 1) #[.int .u64 b0, .int .u64 b1, .int .u64 b2, .int .u64 b3, .int .u64 b4] 104 := B1.pass2 hb (by first | (simp; done) | (simp; omega) | omega) (by first | (simp; done) | (simp; omega) | omega)
 replace B2 : Blk w10 (w.heap.size + 1 + 1) #[.int .u64 0, .int .u64 0, .int .u64 0, .int .u64 0, .int .u64 0] 104 := B2.pass2 hb (by first | (simp; done) | (simp; omega) | omega) (by first | (simp; done) | (simp; omega) | omega)
 replace B3 : Blk w10 (w.heap.size + 1 + 1 + 1) #[.int .u64 h1, .int .u64 l1, .int .u64 h6, .int .u64 l6, .int .u64 h7, .int .u64 l7, .int .u64 h8, .int .u64 l8, .int .u64 h9, .int .u64 l9] 143 := B3.in2 hb
 replace HB : Below w.heap.size w w10 := below2 HB hb HB.size (by first | (simp; done) | (simp; omega) | omega) (by first | (simp; done) | (simp; omega) | omega)
 clear hb c0 c1 c2 c3 f0 f1 f2 f3
 have c0 := B0.cell
 have f0 := B0.free
 have c1 := B1.cell
 have f1 := B1.free
 have c2 := B2.cell
 have f2 := B2.free
 have c3 := B3.cell
 have f3 := B3.free
 dsimp only
 go_wp2_with fail
 refine rounds_step ?_
 go_wp2
 refine rounds_step ?_
 go_wp2
 refine wp_loop_rounds 6 ?_
 refine rounds_step ?_
 go_wp2_with fail
 refine Calls.mono (sum_acc 2 (0 + a0 * b2 + a1 * b1) h7 l7 a2 b0 _ hW7 (by omega) (by omega) (by omega) (by omega) (by omega)) ?_
 rintro e w11 ⟨h11, l11, rfl, hW11, hb⟩
 replace B0 : Blk w11 (w.heap.size) #[.int .u64 a0, .int .u64 a1, .int .u64 a2, .int .u64 a3, .int .u64 a4] 104 := B0.pass2 hb (by first | (simp; done) | (simp; omega) | omega) (by first | (simp; done) | (simp; omega) | omega)
 replace B1 : Blk w11 (w.heap.size + 1) #[.int .u64 b0, .int .u64 b1, .int .u64 b2, .int .u64 b3, .int .u64 b4] 104 := B1.pass2 hb (by first | (simp; done) | (simp; omega) | omega) (by first | (simp; done) | (simp; omega) | omega)
 replace B2 : Blk w11 (w.heap.size + 1 + 1) #[.int .u64 0, .int .u64 0, .int .u64 0, .int .u64 0, .int .u64 0] 104 := B2.pass2 hb (by first | (simp; done) | (simp; omega) | omega) (by first | (simp; done) | (simp; omega) | omega)
 replace B3 : Blk w11 (w.heap.size + 1 + 1 + 1) #[.int .u64 h10, .int .u64 l10, .int .u64 h6, .int .u64 l6, .int .u64 h7, .int .u64 l7, .int .u64 h8, .int .u64 l8, .int .u64 h9, .int .u64 l9] 143 := B3.in2 hb
 replace HB : Below w.heap.size w w11 := below2 HB hb HB.size (by first | (simp; done) | (simp; omega) | omega) (by first | (simp; done) | (simp; omega) | omega)
 clear hb c0 c1 c2 c3 f0 f1 f2 f3
 have c0 := B0.cell
 have f0 := B0.free
 have c1 := B1.cell
 have f1 := B1.free
 have c2 := B2.cell
 have f2 := B2.free
 have c3 := B3.cell
 have f3 := B3.free
 dsimp only
 go_wp2_with fail
 refine rounds_step ?_
 go_wp2_with fail
 refine Calls.mono (sum_acc 2 (0 + a0 * b3 + a1 * b2) h8 l8 a2 b1 _ hW8 (by omega) (by omega) (by omega) (by omega) (by omega)) ?_
 rintro e w12 ⟨h12, l12, rfl, hW12, hb⟩
 replace B0 : Blk w12 (w.heap.size) #[.int .u64 a0, .int .u64 a1, .int .u64 a2, .int .u64 a3, .int .u64 a4] 104 := B0.pass2 hb (by first | (simp; done) | (simp; omega) | omega) (by first | (simp; done) | (simp; omega) | omega)
 replace B1 : Blk w12 (w.heap.size + 1) #[.int .u64 b0, .int .u64 b1, .int .u64 b2, .int .u64 b3, .int .u64 b4] 104 := B1.pass2 hb (by first | (simp; done) | (simp; omega) | omega) (by first | (simp; done) | (simp; omega) | omega)
 replace B2 : Blk w12 (w.heap.size + 1 + 1) #[.int .u64 0, .int .u64 0, .int .u64 0, .int .u64 0, .int .u64 0] 104 := B2.pass2 hb (by first | (simp; done) | (simp; omega) | omega) (by first | (simp; done) | (simp; omega) | omega)
 replace B3 : Blk w12 (w.heap.size + 1 + 1 + 1) #[.int .u64 h10, .int .u64 l10, .int .u64 h6, .int .u64 l6, .int .u64 h11, .int .u64 l11, .int .u64 h8, .int .u64 l8, .int .u64 h9, .int .u64 l9] 143 := B3.in2 hb
 replace HB : Below w.heap.size w w12 := below2 HB hb HB.size (by first | (simp; done) | (simp; omega) | omega) (by first | (simp; done) | (simp; omega) | omega)
 clear hb c0 c1 c2 c3 f0 f1 f2 f3
 have c0 := B0.cell
 have f0 := B0.free
 have c1 := B1.cell
 have f1 := B1.free
 have c2 := B2.cell
 have f2 := B2.free
 have c3 := B3.cell
 have f3 := B3.free
 dsimp only
 go_wp2_with fail
 refine rounds_step ?_
 go_wp2_with fail
 refine Calls.mono (sum_acc 2 (0 + a0 * b4 + a1 * b3) h9 l9 a2 b2 _ hW9 (by omega) (by omega) (by omega) (by omega) (by omega)) ?_
 rintro e w13 ⟨h13, l13, rfl, hW13, hb⟩
 replace B0 : Blk w13 (w.heap.size) #[.int .u64 a0, .int .u64 a1, .int .u64 a2, .int .u64 a3, .int .u64 a4] 104 := B0.pass2 hb (by first | (simp; done) | (simp; omega) | omega) (by first | (simp; done) | (simp; omega) | omega)
 replace B1 : Blk w13 (w.heap.size + 1) #[.int .u64 b0, .int .u64 b1, .int .u64 b2, .int .u64 b3, .int .u64 b4] 104 := B1.pass2 hb (by first | (simp; done) | (simp; omega) | omega) (by first | (simp; done) | (simp; omega) | omega)
 replace B2 : Blk w13 (w.heap.size + 1 + 1) #[.int .u64 0, .int .u64 0, .int .u64 0, .int .u64 0, .int .u64 0] 104 := B2.pass2 hb (by first | (simp; done) | (simp; omega) | omega) (by first | (simp; done) | (simp; omega) | omega)
 replace B3 : Blk w13 (w.heap.size + 1 + 1 + 1) #[.int .u64 h10, .int .u64 l10, .int .u64 h6, .int .u64 l6, .int .u64 h11, .int .u64 l11, .int .u64 h12, .int .u64 l12, .int .u64 h9, .int .u64 l9] 143 := B3.in2 hb
 replace HB : Below w.heap.size w w13 := below2 HB hb HB.size (by first | (simp; done) | (simp; omega) | omega) (by first | (simp; done) | (simp; omega) | omega)
 clear hb c0 c1 c2 c3 f0 f1 f2 f3
 have c0 := B0.cell
 have f0 := B0.free
 have c1 := B1.cell
 have f1 := B1.free
 have c2 := B2.cell
 have f2 := B2.free
 have c3 := B3.cell
 have f3 := B3.free
 dsimp only
 go_wp2_with fail
 refine rounds_step ?_
 go_wp2_with fail
 refine Calls.mono (sum_acc 2 (0 + a0 * b0 + (a1 * 19) * b4) h10 l10 (a2 * 19) b3 _ hW10 (by omega) (by omega) (by omega) (by omega) (by omega)) ?_
 rintro e w14 ⟨h14, l14, rfl, hW14, hb⟩
 replace B0 : Blk w14 (w.heap.size) #[.int .u64 a0, .int .u64 a1, .int .u64 a2, .int .u64 a3, .int .u64 a4] 104 := B0.pass2 hb (by first | (simp; done) | (simp; omega) | omega) (by first | (simp; done) | (simp; omega) | omega)
 replace B1 : Blk w14 (w.heap.size + 1) #[.int .u64 b0, .int .u64 b1, .int .u64 b2, .int .u64 b3, .int .u64 b4] 104 := B1.pass2 hb (by first | (simp; done) | (simp; omega) | omega) (by first | (simp; done) | (simp; omega) | omega)
 replace B2 : Blk w14 (w.heap.size + 1 + 1) #[.int .u64 0, .int .u64 0, .int .u64 0, .int .u64 0, .int .u64 0] 104 := B2.pass2 hb (by first | (simp; done) | (simp; omega) | omega) (by first | (simp; done) | (simp; omega) | omega)
 replace B3 : Blk w14 (w.heap.size + 1 + 1 + 1) #[.int .u64 h10, .int .u64 l10, .int .u64 h6, .int .u64 l6, .int .u64 h11, .int .u64 l11, .int .u64 h12, .int .u64 l12, .int .u64 h13, .int .u64 l13] 143 := B3.in2 hb
 replace HB : Below w.heap.size w w14 := below2 HB hb HB.size (by first | (simp; done) | (simp; omega) | omega) (by first | (simp; done) | (simp; omega) | omega)
 clear hb c0 c1 c2 c3 f0 f1 f2 f3
 have c0 := B0.cell
 have f0 := B0.free
 have c1 := B1.cell
 have f1 := B1.free
 have c2 := B2.cell
 have f2 := B2.free
 have c3 := B3.cell
 have f3 := B3.free
 dsimp only
 go_wp2_with fail
 refine rounds_step ?_
 go_wp2_with fail
 refine Calls.mono (sum_acc 2 (0 + a0 * b1 + a1 * b0) h6 l6 (a2 * 19) b4 _ hW6 (by omega) (by omega) (by omega) (by omega) (by omega)) ?_
 rintro e w15 ⟨h15, l15, rfl, hW15, hb⟩
 replace B0 : Blk w15 (w.heap.size) #[.int .u64 a0, .int .u64 a1, .int .u64 a2, .int .u64 a3, .int .u64 a4] 104 := B0.pass2 hb (by first | (simp; done) | (simp; omega) | omega) (by first | (simp; done) | (simp; omega) | omega)
 replace B1 : Blk w15 (w.heap.size + 1) #[.int .u64 b0, .int .u64 b1, .int .u64 b2, .int .u64 b3, .int .u64 b4] 104 := B1.pass2 hb (by first | (simp; done) | (simp; omega) | omega) (by first | (simp; done) | (simp; omega) | omega)
 replace B2 : Blk w15 (w.heap.size + 1 + 1) #[.int .u64 0, .int .u64 0, .int .u64 0, .int .u64 0, .int .u64 0] 104 := B2.pass2 hb (by first | (simp; done) | (simp; omega) | omega) (by first | (simp; done) | (simp; omega) | omega)
 replace B3 : Blk w15 (w.heap.size + 1 + 1 + 1) #[.int .u64 h14, .int .u64 l14, .int .u64 h6, .int .u64 l6, .int .u64 h11, .int .u64 l11, .int .u64 h12, .int .u64 l12, .int .u64 h13, .int .u64 l13] 143 := B3.in2 hb
 replace HB : Below w.heap.size w w15 := below2 HB hb HB.size (by first | (simp; done) | (simp; omega) | omega) (by first | (simp; done) | (simp; omega) | omega)
 clear hb c0 c1 c2 c3 f0 f1 f2 f3
 have c0 := B0.cell
 have f0 := B0.free
 have c1 := B1.cell
 have f1 := B1.free
 have c2 := B2.cell
 have f2 := B2.free
 have c3 := B3.cell
 have f3 := B3.free
 dsimp only
 go_wp2_with fail
 refine rounds_step ?_
 go_wp2
 refine rounds_step ?_
 go_wp2
 refine wp_loop_rounds 6 ?_
 refine rounds_step ?_
 go_wp2_with fail
 refine Calls.mono (sum_acc 3 (0 + a0 * b3 + a1 * b2 + a2 * b1) h12 l12 a3 b0 _ hW12 (by omega) (by omega) (by omega) (by omega) (by omega)) ?_
 rintro e w16 ⟨h16, l16, rfl, hW16, hb⟩
 replace B0 : Blk w16 (w.heap.size) #[.int .u64 a0, .int .u64 a1, .int .u64 a2, .int .u64 a3, .int .u64 a4] 104 := B0.pass2 hb (by first | (simp; done) | (simp; omega) | omega) (by first | (simp; done) | (simp; omega) | omega)
 replace B1 : Blk w16 (w.heap.size + 1) #[.int .u64 b0, .int .u64 b1, .int .u64 b2, .int .u64 b3, .int .u64 b4] 104 := B1.pass2 hb (by first | (simp; done) | (simp; omega) | omega) (by first | (simp; done) | (simp; omega) | omega)
 replace B2 : Blk w16 (w.heap.size + 1 + 1) #[.int .u64 0, .int .u64 0, .int .u64 0, .int .u64 0, .int .u64 0] 104 := B2.pass2 hb (by first | (simp; done) | (simp; omega) | omega) (by first | (simp; done) | (simp; omega) | omega)
 replace B3 : Blk w16 (w.heap.size + 1 + 1 + 1) #[.int .u64 h14, .int .u64 l14, .int .u64 h15, .int .u64 l15, .int .u64 h11, .int .u64 l11, .int .u64 h12, .int .u64 l12, .int .u64 h13, .int .u64 l13] 143 := B3.in2 hb
 replace HB : Below w.heap.size w w16 := below2 HB hb HB.size (by first | (simp; done) | (simp; omega) | omega) (by first | (simp; done) | (simp; omega) | omega)
 clear hb c0 c1 c2 c3 f0 f1 f2 f3
 have c0 := B0.cell
 have f0 := B0.free
 have c1 := B1.cell
 have f1 := B1.free
 have c2 := B2.cell
 have f2 := B2.free
 have c3 := B3.cell
 have f3 := B3.free
 dsimp only
 go_wp2_with fail
 refine rounds_step ?_
 go_wp2_with fail
 refine Calls.mono (sum_acc 3 (0 + a0 * b4 + a1 * b3 + a2 * b2) h13 l13 a3 b1 _ hW13 (by omega) (by omega) (by omega) (by omega) (by omega)) ?_
 rintro e w17 ⟨h17, l17, rfl, hW17, hb⟩
 replace B0 : Blk w17 (w.heap.size) #[.int .u64 a0, .int .u64 a1, .int .u64 a2, .int .u64 a3, .int .u64 a4] 104 := B0.pass2 hb (by first | (simp; done) | (simp; omega) | omega) (by first | (simp; done) | (simp; omega) | omega)
 replace B1 : Blk w17 (w.heap.size + 1) #[.int .u64 b0, .int .u64 b1, .int .u64 b2, .int .u64 b3, .int .u64 b4] 104 := B1.pass2 hb (by first | (simp; done) | (simp; omega) | omega) (by first | (simp; done) | (simp; omega) | omega)
 replace B2 : Blk w17 (w.heap.size + 1 + 1) #[.int .u64 0, .int .u64 0, .int .u64 0, .int .u64 0, .int .u64 0] 104 := B2.pass2 hb (by first | (simp; done) | (simp; omega) | omega) (by first | (simp; done) | (simp; omega) | omega)
 replace B3 : Blk w17 (w.heap.size + 1 + 1 + 1) #[.int .u64 h14, .int .u64 l14, .int .u64 h15, .int .u64 l15, .int .u64 h11, .int .u64 l11, .int .u64 h16, .int .u64 l16, .int .u64 h13, .int .u64 l13] 143 := B3.in2 hb
 replace HB : Below w.heap.size w w17 := below2 HB hb HB.size (by first | (simp; done) | (simp; omega) | omega) (by first | (simp; done) | (simp; omega) | omega)
 clear hb c0 c1 c2 c3 f0 f1 f2 f3
 have c0 := B0.cell
 have f0 := B0.free
 have c1 := B1.cell
 have f1 := B1.free
 have c2 := B2.cell
 have f2 := B2.free
 have c3 := B3.cell
 have f3 := B3.free
 dsimp only
 go_wp2_with fail
 refine rounds_step ?_
 go_wp2_with fail
 refine Calls.mono (sum_acc 3 (0 + a0 * b0 + (a1 * 19) * b4 + (a2 * 19) * b3) h14 l14 (a3 * 19) b2 _ hW14 (by omega) (by omega) (by omega) (by omega) (by omega)) ?_
 rintro e w18 ⟨h18, l18, rfl, hW18, hb⟩
 replace B0 : Blk w18 (w.heap.size) #[.int .u64 a0, .int .u64 a1, .int .u64 a2, .int .u64 a3, .int .u64 a4] 104 := B0.pass2 hb (by first | (simp; done) | (simp; omega) | omega) (by first | (simp; done) | (simp; omega) | omega)
 replace B1 : Blk w18 (w.heap.size + 1) #[.int .u64 b0, .int .u64 b1, .int .u64 b2, .int .u64 b3, .int .u64 b4] 104 := B1.pass2 hb (by first | (simp; done) | (simp; omega) | omega) (by first | (simp; done) | (simp; omega) | omega)
 replace B2 : Blk w18 (w.heap.size + 1 + 1) #[.int .u64 0, .int .u64 0, .int .u64 0, .int .u64 0, .int .u64 0] 104 := B2.pass2 hb (by first | (simp; done) | (simp; omega) | omega) (by first | (simp; done) | (simp; omega) | omega)
 replace B3 : Blk w18 (w.heap.size + 1 + 1 + 1) #[.int .u64 h14, .int .u64 l14, .int .u64 h15, .int .u64 l15, .int .u64 h11, .int .u64 l11, .int .u64 h16, .int .u64 l16, .int .u64 h17, .int .u64 l17] 143 := B3.in2 hb
 replace HB : Below w.heap.size w w18 := below2 HB hb HB.size (by first | (simp; done) | (simp; omega) | omega) (by first | (simp; done) | (simp; omega) | omega)
 clear hb c0 c1 c2 c3 f0 f1 f2 f3
 have c0 := B0.cell
 have f0 := B0.free
 have c1 := B1.cell
 have f1 := B1.free
 have c2 := B2.cell
 have f2 := B2.free
 have c3 := B3.cell
 have f3 := B3.free
 dsimp only
 go_wp2_with fail
 refine rounds_step ?_
 go_wp2_with fail
 refine Calls.mono (sum_acc 3 (0 + a0 * b1 + a1 * b0 + (a2 * 19) * b4) h15 l15 (a3 * 19) b3 _ hW15 (by omega) (by omega) (by omega) (by omega) (by omega)) ?_
 rintro e w19 ⟨h19, l19, rfl, hW19, hb⟩
 replace B0 : Blk w19 (w.heap.size) #[.int .u64 a0, .int .u64 a1, .int .u64 a2, .int .u64 a3, .int .u64 a4] 104 := B0.pass2 hb (by first | (simp; done) | (simp; omega) | omega) (by first | (simp; done) | (simp; omega) | omega)
 replace B1 : Blk w19 (w.heap.size + 1) #[.int .u64 b0, .int .u64 b1, .int .u64 b2, .int .u64 b3, .int .u64 b4] 104 := B1.pass2 hb (by first | (simp; done) | (simp; omega) | omega) (by first | (simp; done) | (simp; omega) | omega)
 replace B2 : Blk w19 (w.heap.size + 1 + 1) #[.int .u64 0, .int .u64 0, .int .u64 0, .int .u64 0, .int .u64 0] 104 := B2.pass2 hb (by first | (simp; done) | (simp; omega) | omega) (by first | (simp; done) | (simp; omega) | omega)
 replace B3 : Blk w19 (w.heap.size + 1 + 1 + 1) #[.int .u64 h18, .int .u64 l18, .int .u64 h15, .int .u64 l15, .int .u64 h11, .int .u64 l11, .int .u64 h16, .int .u64 l16, .int .u64 h17, .int .u64 l17] 143 := B3.in2 hb
 replace HB : Below w.heap.size w w19 := below2 HB hb HB.size (by first | (simp; done) | (simp; omega) | omega) (by first | (simp; done) | (simp; omega) | omega)
 clear hb c0 c1 c2 c3 f0 f1 f2 f3
 have c0 := B0.cell
 have f0 := B0.free
 have c1 := B1.cell
 have f1 := B1.free
 have c2 := B2.cell
 have f2 := B2.free
 have c3 := B3.cell
 have f3 := B3.free
 dsimp only
 go_wp2_with fail
 refine rounds_step ?_
 go_wp2_with fail
 refine Calls.mono (sum_acc 3 (0 + a0 * b2 + a1 * b1 + a2 * b0) h11 l11 (a3 * 19) b4 _ hW11 (by omega) (by omega) (by omega) (by omega) (by omega)) ?_
 rintro e w20 ⟨h20, l20, rfl, hW20, hb⟩
 replace B0 : Blk w20 (w.heap.size) #[.int .u64 a0, .int .u64 a1, .int .u64 a2, .int .u64 a3, .int .u64 a4] 104 := B0.pass2 hb (by first | (simp; done) | (simp; omega) | omega) (by first | (simp; done) | (simp; omega) | omega)
 replace B1 : Blk w20 (w.heap.size + 1) #[.int .u64 b0, .int .u64 b1, .int .u64 b2, .int .u64 b3, .int .u64 b4] 104 := B1.pass2 hb (by first | (simp; done) | (simp; omega) | omega) (by first | (simp; done) | (simp; omega) | omega)
 replace B2 : Blk w20 (w.heap.size + 1 + 1) #[.int .u64 0, .int .u64 0, .int .u64 0, .int .u64 0, .int .u64 0] 104 := B2.pass2 hb (by first | (simp; done) | (simp; omega) | omega) (by first | (simp; done) | (simp; omega) | omega)
 replace B3 : Blk w20 (w.heap.size + 1 + 1 + 1) #[.int .u64 h18, .int .u64 l18, .int .u64 h19, .int .u64 l19, .int .u64 h11, .int .u64 l11, .int .u64 h16, .int .u64 l16, .int .u64 h17, .int .u64 l17] 143 := B3.in2 hb
 replace HB : Below w.heap.size w w20 := below2 HB hb HB.size (by first | (simp; done) | (simp; omega) | omega) (by first | (simp; done) | (simp; omega) | omega)
 clear hb c0 c1 c2 c3 f0 f1 f2 f3
 have c0 := B0.cell
 have f0 := B0.free
 have c1 := B1.cell
 have f1 := B1.free
 have c2 := B2.cell
 have f2 := B2.free
 have c3 := B3.cell
 have f3 := B3.free
 dsimp only
 go_wp2_with fail
 refine rounds_step ?_
 go_wp2
 refine rounds_step ?_
 go_wp2
 refine wp_loop_rounds 6 ?_
 refine rounds_step ?_
 go_wp2_with fail
 refine Calls.mono (sum_acc 4 (0 + a0 * b4 + a1 * b3 + a2 * b2 + a3 * b1) h17 l17 a4 b0 _ hW17 (by omega) (by omega) (by omega) (by omega) (by omega)) ?_
 rintro e w21 ⟨h21, l21, rfl, hW21, hb⟩
 replace B0 : Blk w21 (w.heap.size) #[.int .u64 a0, .int .u64 a1, .int .u64 a2, .int .u64 a3, .int .u64 a4] 104 := B0.pass2 hb (by first | (simp; done) | (simp; omega) | omega) (by first | (simp; done) | (simp; omega) | omega)
 replace B1 : Blk w21 (w.heap.size + 1) #[.int .u64 b0, .int .u64 b1, .int .u64 b2, .int .u64 b3, .int .u64 b4] 104 := B1.pass2 hb (by first | (simp; done) | (simp; omega) | omega) (by first | (simp; done) | (simp; omega) | omega)
 replace B2 : Blk w21 (w.heap.size + 1 + 1) #[.int .u64 0, .int .u64 0, .int .u64 0, .int .u64 0, .int .u64 0] 104 := B2.pass2 hb (by first | (simp; done) | (simp; omega) | omega) (by first | (simp; done) | (simp; omega) | omega)
 replace B3 : Blk w21 (w.heap.size + 1 + 1 + 1) #[.int .u64 h18, .int .u64 l18, .int .u64 h19, .int .u64 l19, .int .u64 h20, .int .u64 l20, .int .u64 h16, .int .u64 l16, .int .u64 h17, .int .u64 l17] 143 := B3.in2 hb
 replace HB : Below w.heap.size w w21 := below2 HB hb HB.size (by first | (simp; done) | (simp; omega) | omega) (by first | (simp; done) | (simp; omega) | omega)
 clear hb c0 c1 c2 c3 f0 f1 f2 f3
 have c0 := B0.cell
 have f0 := B0.free
 have c1 := B1.cell
 have f1 := B1.free
 have c2 := B2.cell
 have f2 := B2.free
 have c3 := B3.cell
 have f3 := B3.free
 dsimp only
 go_wp2_with fail
 refine rounds_step ?_
 go_wp2_with fail
 refine Calls.mono (sum_acc 4 (0 + a0 * b0 + (a1 * 19) * b4 + (a2 * 19) * b3 + (a3 * 19) * b2) h18 l18 (a4 * 19) b1 _ hW18 (by omega) (by omega) (by omega) (by omega) (by omega)) ?_
 rintro e w22 ⟨h22, l22, rfl, hW22, hb⟩
 replace B0 : Blk w22 (w.heap.size) #[.int .u64 a0, .int .u64 a1, .int .u64 a2, .int .u64 a3, .int .u64 a4] 104 := B0.pass2 hb (by first | (simp; done) | (simp; omega) | omega) (by first | (simp; done) | (simp; omega) | omega)
 replace B1 : Blk w22 (w.heap.size + 1) #[.int .u64 b0, .int .u64 b1, .int .u64 b2, .int .u64 b3, .int .u64 b4] 104 := B1.pass2 hb (by first | (simp; done) | (simp; omega) | omega) (by first | (simp; done) | (simp; omega) | omega)
 replace B2 : Blk w22 (w.heap.size + 1 + 1) #[.int .u64 0, .int .u64 0, .int .u64 0, .int .u64 0, .int .u64 0] 104 := B2.pass2 hb (by first | (simp; done) | (simp; omega) | omega) (by first | (simp; done) | (simp; omega) | omega)
 replace B3 : Blk w22 (w.heap.size + 1 + 1 + 1) #[.int .u64 h18, .int .u64 l18, .int .u64 h19, .int .u64 l19, .int .u64 h20, .int .u64 l20, .int .u64 h16, .int .u64 l16, .int .u64 h21, .int .u64 l21] 143 := B3.in2 hb
 replace HB : Below w.heap.size w w22 := below2 HB hb HB.size (by first | (simp; done) | (simp; omega) | omega) (by first | (simp; done) | (simp; omega) | omega)
 clear hb c0 c1 c2 c3 f0 f1 f2 f3
 have c0 := B0.cell
 have f0 := B0.free
 have c1 := B1.cell
 have f1 := B1.free
 have c2 := B2.cell
 have f2 := B2.free
 have c3 := B3.cell
 have f3 := B3.free
 dsimp only
 go_wp2_with fail
 refine rounds_step ?_
 go_wp2_with fail
 refine Calls.mono (sum_acc 4 (0 + a0 * b1 + a1 * b0 + (a2 * 19) * b4 + (a3 * 19) * b3) h19 l19 (a4 * 19) b2 _ hW19 (by omega) (by omega) (by omega) (by omega) (by omega)) ?_
 rintro e w23 ⟨h23, l23, rfl, hW23, hb⟩
 replace B0 : Blk w23 (w.heap.size) #[.int .u64 a0, .int .u64 a1, .int .u64 a2, .int .u64 a3, .int .u64 a4] 104 := B0.pass2 hb (by first | (simp; done) | (simp; omega) | omega) (by first | (simp; done) | (simp; omega) | omega)
 replace B1 : Blk w23 (w.heap.size + 1) #[.int .u64 b0, .int .u64 b1, .int .u64 b2, .int .u64 b3, .int .u64 b4] 104 := B1.pass2 hb (by first | (simp; done) | (simp; omega) | omega) (by first | (simp; done) | (simp; omega) | omega)
 replace B2 : Blk w23 (w.heap.size + 1 + 1) #[.int .u64 0, .int .u64 0, .int .u64 0, .int .u64 0, .int .u64 0] 104 := B2.pass2 hb (by first | (simp; done) | (simp; omega) | omega) (by first | (simp; done) | (simp; omega) | omega)
 replace B3 : Blk w23 (w.heap.size + 1 + 1 + 1) #[.int .u64 h22, .int .u64 l22, .int .u64 h19, .int .u64 l19, .int .u64 h20, .int .u64 l20, .int .u64 h16, .int .u64 l16, .int .u64 h21, .int .u64 l21] 143 := B3.in2 hb
 replace HB : Below w.heap.size w w23 := below2 HB hb HB.size (by first | (simp; done) | (simp; omega) | omega) (by first | (simp; done) | (simp; omega) | omega)
 clear hb c0 c1 c2 c3 f0 f1 f2 f3
 have c0 := B0.cell
 have f0 := B0.free
 have c1 := B1.cell
 have f1 := B1.free
 have c2 := B2.cell
 have f2 := B2.free
 have c3 := B3.cell
 have f3 := B3.free
 dsimp only
 go_wp2_with fail
 refine rounds_step ?_
 go_wp2_with fail
 refine Calls.mono (sum_acc 4 (0 + a0 * b2 + a1 * b1 + a2 * b0 + (a3 * 19) * b4) h20 l20 (a4 * 19) b3 _ hW20 (by omega) (by omega) (by omega) (by omega) (by omega)) ?_
 rintro e w24 ⟨h24, l24, rfl, hW24, hb⟩
 replace B0 : Blk w24 (w.heap.size) #[.int .u64 a0, .int .u64 a1, .int .u64 a2, .int .u64 a3, .int .u64 a4] 104 := B0.pass2 hb (by first | (simp; done) | (simp; omega) | omega) (by first | (simp; done) | (simp; omega) | omega)
 replace B1 : Blk w24 (w.heap.size + 1) #[.int .u64 b0, .int .u64 b1, .int .u64 b2, .int .u64 b3, .int .u64 b4] 104 := B1.pass2 hb (by first | (simp; done) | (simp; omega) | omega) (by first | (simp; done) | (simp; omega) | omega)
 replace B2 : Blk w24 (w.heap.size + 1 + 1) #[.int .u64 0, .int .u64 0, .int .u64 0, .int .u64 0, .int .u64 0] 104 := B2.pass2 hb (by first | (simp; done) | (simp; omega) | omega) (by first | (simp; done) | (simp; omega) | omega)
 replace B3 : Blk w24 (w.heap.size + 1 + 1 + 1) #[.int .u64 h22, .int .u64 l22, .int .u64 h23, .int .u64 l23, .int .u64 h20, .int .u64 l20, .int .u64 h16, .int .u64 l16, .int .u64 h21, .int .u64 l21] 143 := B3.in2 hb
 replace HB : Below w.heap.size w w24 := below2 HB hb HB.size (by first | (simp; done) | (simp; omega) | omega) (by first | (simp; done) | (simp; omega) | omega)
 clear hb c0 c1 c2 c3 f0 f1 f2 f3
 have c0 := B0.cell
 have f0 := B0.free
 have c1 := B1.cell
 have f1 := B1.free
 have c2 := B2.cell
 have f2 := B2.free
 have c3 := B3.cell
 have f3 := B3.free
 dsimp only
 go_wp2_with fail
 refine rounds_step ?_
 go_wp2_with fail
 refine Calls.mono (sum_acc 4 (0 + a0 * b3 + a1 * b2 + a2 * b1 + a3 * b0) h16 l16 (a4 * 19) b4 _ hW16 (by omega) (by omega) (by omega) (by omega) (by omega)) ?_
 rintro e w25 ⟨h25, l25, rfl, hW25, hb⟩
 replace B0 : Blk w25 (w.heap.size) #[.int .u64 a0, .int .u64 a1, .int .u64 a2, .int .u64 a3, .int .u64 a4] 104 := B0.pass2 hb (by first | (simp; done) | (simp; omega) | omega) (by first | (simp; done) | (simp; omega) | omega)
 replace B1 : Blk w25 (w.heap.size + 1) #[.int .u64 b0, .int .u64 b1, .int .u64 b2, .int .u64 b3, .int .u64 b4] 104 := B1.pass2 hb (by first | (simp; done) | (simp; omega) | omega) (by first | (simp; done) | (simp; omega) | omega)
 replace B2 : Blk w25 (w.heap.size + 1 + 1) #[.int .u64 0, .int .u64 0, .int .u64 0, .int .u64 0, .int .u64 0] 104 := B2.pass2 hb (by first | (simp; done) | (simp; omega) | omega) (by first | (simp; done) | (simp; omega) | omega)
 replace B3 : Blk w25 (w.heap.size + 1 + 1 + 1) #[.int .u64 h22, .int .u64 l22, .int .u64 h23, .int .u64 l23, .int .u64 h24, .int .u64 l24, .int .u64 h16, .int .u64 l16, .int .u64 h21, .int .u64 l21] 143 := B3.in2 hb
 replace HB : Below w.heap.size w w25 := below2 HB hb HB.size (by first | (simp; done) | (simp; omega) | omega) (by first | (simp; done) | (simp; omega) | omega)
 clear hb c0 c1 c2 c3 f0 f1 f2 f3
 have c0 := B0.cell
 have f0 := B0.free
 have c1 := B1.cell
 have f1 := B1.free
 have c2 := B2.cell
 have f2 := B2.free
 have c3 := B3.cell
 have f3 := B3.free
 dsimp only
 go_wp2_with fail
 refine rounds_step ?_
 go_wp2
 have is0 := idxs_0 h22 l22 h23 l23 h24 l24 h25 l25 h21 l21
 have is1 := idxs_1 h22 l22 h23 l23 h24 l24 h25 l25 h21 l21
 have is2 := idxs_2 h22 l22 h23 l23 h24 l24 h25 l25 h21 l21
 have is3 := idxs_3 h22 l22 h23 l23 h24 l24 h25 l25 h21 l21
 have is4 := idxs_4 h22 l22 h23 l23 h24 l24 h25 l25 h21 l21
 have z0 := B0.lt
 have z1 := B1.lt
 have z2 := B2.lt
 have z3 := B3.lt
 clear ia0 ia1 ia2 ia3 ia4 ib0 ib1 ib2 ib3 ib4
 refine rounds_step ?_
 go_wp2_with fail
 refine wp_loop_rounds 6 ?_
 refine rounds_step ?_
 go_wp2
 (refine tail_any 8 (by kernel_rfl) ?_; rintro W rfl; simp only [List.take_succ_cons, List.take_zero, List.drop_succ_cons, List.drop_zero]; (repeat still_step); refine wpStill_nil ?_)
 go_wp2
 refine rounds_step ?_
 go_wp2
 (refine tail_any 8 (by kernel_rfl) ?_; rintro W rfl; simp only [List.take_succ_cons, List.take_zero, List.drop_succ_cons, List.drop_zero]; (repeat still_step); refine wpStill_nil ?_)
 go_wp2
 refine rounds_step ?_
 go_wp2
 (refine tail_any 8 (by kernel_rfl) ?_; rintro W rfl; simp only [List.take_succ_cons, List.take_zero, List.drop_succ_cons, List.drop_zero]; (repeat still_step); refine wpStill_nil ?_)
 go_wp2
 refine rounds_step ?_
 go_wp2
 (refine tail_any 8 (by kernel_rfl) ?_; rintro W rfl; simp only [List.take_succ_cons, List.take_zero, List.drop_succ_cons, List.drop_zero]; (repeat still_step); refine wpStill_nil ?_)
 go_wp2
 refine rounds_step ?_
 go_wp2
 (refine tail_any 8 (by kernel_rfl) ?_; rintro W rfl; simp only [List.take_succ_cons, List.take_zero, List.drop_succ_cons, List.drop_zero]; (repeat still_step); refine wpStill_nil ?_)
 go_wp2
 refine rounds_step ?_
 go_wp2_with fail
 clear is0 is1 is2 is3 is4
 rw [Acc.d0 hW22 hW21 (by omega), Acc.d hW22 hW23 (by omega), Acc.d hW23 hW24 (by omega), Acc.d hW24 hW25 (by omega), Acc.d hW25 hW21 (by omega)]
 have HN : Hid (toF (S5 (0 + a0 * b0 + (a1 * 19) * b4 + (a2 * 19) * b3 + (a3 * 19) * b2 + (a4 * 19) * b1) (0 + a0 * b1 + a1 * b0 + (a2 * 19) * b4 + (a3 * 19) * b3 + (a4 * 19) * b2) (0 + a0 * b2 + a1 * b1 + a2 * b0 + (a3 * 19) * b4 + (a4 * 19) * b3) (0 + a0 * b3 + a1 * b2 + a2 * b1 + a3 * b0 + (a4 * 19) * b4) (0 + a0 * b4 + a1 * b3 + a2 * b2 + a3 * b1 + a4 * b0)) = x * y) := by
  have h := S5_mul a0 a1 a2 a3 a4 b0 b1 b2 b3 b4
  rw [HX.out, HY.out] at h
  simp only [Int.zero_add]
  exact h
 have le0 := Acc.le hW22
 have ge0 := Acc.ge hW22
 have le1 := Acc.le hW23
 have ge1 := Acc.ge hW23
 have le2 := Acc.le hW24
 have ge2 := Acc.ge hW24
 have le3 := Acc.le hW25
 have ge3 := Acc.ge hW25
 have le4 := Acc.le hW21
 have ge4 := Acc.ge hW21
 generalize 0 + a0 * b0 + (a1 * 19) * b4 + (a2 * 19) * b3 + (a3 * 19) * b2 + (a4 * 19) * b1 = n0 at *
 generalize 0 + a0 * b1 + a1 * b0 + (a2 * 19) * b4 + (a3 * 19) * b3 + (a4 * 19) * b2 = n1 at *
 generalize 0 + a0 * b2 + a1 * b1 + a2 * b0 + (a3 * 19) * b4 + (a4 * 19) * b3 = n2 at *
 generalize 0 + a0 * b3 + a1 * b2 + a2 * b1 + a3 * b0 + (a4 * 19) * b4 = n3 at *
 generalize 0 + a0 * b4 + a1 * b3 + a2 * b2 + a3 * b1 + a4 * b0 = n4 at *
 refine Calls.mono (carried_any _ _ _ _ _ _ (by omega) (by omega) (by omega) (by omega) (by omega) (by omega) (by omega) (by omega) (by omega) (by omega)) ?_
 rintro e w26 ⟨r0, r1, r2, r3, r4, rfl, hE, hb⟩
 rw [S5_fold, HN.out] at hE
 have B2' : Blk w26 (w.heap.size + 1 + 1) #[.int .u64 0, .int .u64 0, .int .u64 0, .int .u64 0, .int .u64 0] 104 := by (refine hb.blk ?_ (by first | (simp; done) | (simp; omega) | omega); repeat' first | (with_reducible exact B2) | (with_reducible refine Blk.drew ?_) | (with_reducible refine Blk.alloc ?_ _) | (with_reducible refine Blk.set_other ?_ _ _ (by first | (simp; done) | (simp; omega) | omega)))
 have z2' : w.heap.size + 1 + 1 < w26.heap.size := B2'.lt
 replace HB : Below w.heap.size w w26 := by repeat' first | (with_reducible exact Below.refl _ _) | (with_reducible refine Below.setCell ?_ (by first | (simp; done) | (simp; omega) | omega) _) | (with_reducible refine Below.alloc ?_ (by first | (simp; done) | (simp; omega) | omega) _) | (with_reducible refine Below.drew ?_) | (with_reducible refine Below.trans ?_ (Below.mono (by assumption) (by first | (simp; done) | (simp; omega) | omega)))
 have c2' := B2'.cell
 have f2' := B2'.free
 clear hb HN HX HY le0 le1 le2 le3 le4 ge0 ge1 ge2 ge3 ge4 c0 c1 c2 c3 f0 f1 f2 f3
 dsimp only
 repeat (first | go_skip | go_guarded | go_step | go_upon)
 refine bodyPost_ret (v := .agg #[.int .u64 r0, .int .u64 r1, .int .u64 r2, .int .u64 r3, .int .u64 r4]) ?_ rfl ⟨r0, r1, r2, r3, r4, rfl, hE, ?_⟩
 ·simp [results, Tryz.results94, go_sem, c2']
 ·repeat' first | (with_reducible exact Below.refl _ _) | (with_reducible refine Below.setCell ?_ (by first | (simp; done) | (simp; omega) | omega) _) | (with_reducible refine Below.alloc ?_ (by first | (simp; done) | (simp; omega) | omega) _) | (with_reducible refine Below.drew ?_) | (with_reducible refine Below.trans ?_ (Below.mono (by assumption) (by first | (simp; done) | (simp; omega) | omega)))
end Go.Proofs.YtkhbihnnkflfkaaGreat
