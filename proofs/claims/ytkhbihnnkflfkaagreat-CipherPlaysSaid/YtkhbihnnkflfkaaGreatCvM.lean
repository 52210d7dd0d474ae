/-
 CvD · CvE · CvF, IN ONE TEXT.
-/
import Derived.Test.YtkhbihnnkflfkaaGreatAgg
import Derived.Test.YtkhbihnnkflfkaaGreatRegM
import Derived.Test.YtkhbihnnkflfkaaGreatCvC
import Derived.Test.YtkhbihnnkflfkaaGreatApM
import Derived.Test.YtkhbihnnkflfkaaGreatWord
import Derived.Laws.CopyOwn
import Derived.Laws.BytesArg
import Derived.Test.YtkhbihnnkflfkaaGreatHaM
/-
 FieldW · HotV · Step: WHAT Mult_pl, Base_any NEED OF THEM (printed by sub.py).
-/
namespace Go.Proofs.YtkhbihnnkflfkaaGreat
open Go.RowKit
set_option linter.unusedVariables false
set_option linter.unusedSimpArgs false
set_option maxRecDepth 100000
set_option linter.constructorNameAsVariable false

variable {p q x y : Operand} {l : List Value} {fs : List F} {w w' : World} {g : Nat} {T : TypeId} {a0 a1 a2 a3 a4 b0 b1 b2 b3 b4 : Int} {o : Oper} {a : Act} {x0 x1 x2 x3 y0 y1 y2 y3 : F}
def ElL (x : F) (l : List Value) : Prop := ∃ a0 a1 a2 a3 a4 : Int, l = [.int .u64 a0, .int .u64 a1, .int .u64 a2, .int .u64 a3, .int .u64 a4] ∧ El x a0 a1 a2 a3 a4
def FsL : List F → List Value → Prop
 | [], l => l = []
 | x :: fs, l => ∃ l1 l2, l = l1 ++ l2 ∧ ElL x l1 ∧ FsL fs l2
def AgV (fs : List F) (v : Value) : Prop := ∃ l, v = .agg l.toArray ∧ FsL fs l
def BlkF (w : World) (g : Nat) (fs : List F) (T : TypeId) : Prop := ∃ l : List Value, Blk w g l.toArray T ∧ FsL fs l
theorem AgV.one {x : F} {v : Value} : AgV [x] v ↔ ElV x v := by
 constructor
 ·rintro ⟨l, rfl, l1, l2, rfl, ⟨a0, a1, a2, a3, a4, rfl, h⟩, rfl⟩
  exact ⟨a0, a1, a2, a3, a4, rfl, h⟩
 ·rintro ⟨a0, a1, a2, a3, a4, rfl, h⟩
  exact ⟨_, rfl, _, [], by simp, ⟨a0, a1, a2, a3, a4, rfl, h⟩, rfl⟩
theorem FsL.two {x y : F} : FsL [x, y] l ↔ ∃ a0 a1 a2 a3 a4 b0 b1 b2 b3 b4 : Int, l = [.int .u64 a0, .int .u64 a1, .int .u64 a2, .int .u64 a3, .int .u64 a4, .int .u64 b0, .int .u64 b1, .int .u64 b2, .int .u64 b3, .int .u64 b4] ∧ El x a0 a1 a2 a3 a4 ∧ El y b0 b1 b2 b3 b4 := by
 constructor
 ·rintro ⟨l1, l2, rfl, ⟨a0, a1, a2, a3, a4, rfl, h⟩, l3, l4, rfl, ⟨b0, b1, b2, b3, b4, rfl, h'⟩, rfl⟩
  exact ⟨a0, a1, a2, a3, a4, b0, b1, b2, b3, b4, rfl, h, h'⟩
 ·rintro ⟨a0, a1, a2, a3, a4, b0, b1, b2, b3, b4, rfl, h, h'⟩
  exact ⟨[_, _, _, _, _], [_, _, _, _, _], rfl, ⟨a0, a1, a2, a3, a4, rfl, h⟩, [_, _, _, _, _], [], rfl, ⟨b0, b1, b2, b3, b4, rfl, h'⟩, rfl⟩
theorem FsL.app {gs : List F} {m : List Value} (h : FsL fs l) (h' : FsL gs m) : FsL (fs ++ gs) (l ++ m) := by
 induction fs generalizing l with
 | nil => cases h; exact h'
 | cons x fs ih =>
  obtain ⟨l1, l2, rfl, h1, h2⟩ := h
  exact ⟨l1, l2 ++ m, by simp, h1, ih h2⟩
theorem FsL.zero1 : FsL [0] [.int .u64 0, .int .u64 0, .int .u64 0, .int .u64 0, .int .u64 0] :=
 ⟨_, [], by simp, ⟨0, 0, 0, 0, 0, rfl, ⟨by omega, by omega, by omega, by omega, by omega, by omega, by omega, by omega, by omega, by omega, rfl⟩⟩, rfl⟩
theorem BlkF.lt (h : BlkF w g fs T) : g < w.heap.size := by obtain ⟨l, hB, _⟩ := h; exact hB.lt
theorem BlkF.old (h : BlkF w g fs T) (hb : Below w.heap.size w w') : BlkF w' g fs T := by obtain ⟨l, hB, hf⟩ := h; exact ⟨l, hB.old hb, hf⟩
theorem BlkF.oldX {X : Nat → Prop} (h : BlkF w g fs T) (hb : BelowX X w w') (hx : ¬ X g) : BlkF w' g fs T := by obtain ⟨l, hB, hf⟩ := h; exact ⟨l, hb.blk hB hx, hf⟩
theorem BlkF.alloc (h : BlkF w g fs T) (o : Obj) : BlkF (w.alloc o) g fs T := by obtain ⟨l, hB, hf⟩ := h; exact ⟨l, hB.alloc o, hf⟩
theorem BlkF.of5 {x : F} (h : Blk w g #[.int .u64 a0, .int .u64 a1, .int .u64 a2, .int .u64 a3, .int .u64 a4] T) (hE : El x a0 a1 a2 a3 a4) : BlkF w g [x] T :=
 ⟨_, h, _, [], by simp, ⟨a0, a1, a2, a3, a4, rfl, hE⟩, rfl⟩
theorem exec_ld1_0 (ho : o.op = .load 104 x) (hx : a.eval x = .pointer (some ⟨g, 0, none⟩)) (hB : Blk w g l.toArray T) (hl : (l.drop 0).take 5 = [.int .u64 a0, .int .u64 a1, .int .u64 a2, .int .u64 a3, .int .u64 a4]) : (execOp a.eval o).run Tryz.prog w = .ok (.value (.agg #[.int .u64 a0, .int .u64 a1, .int .u64 a2, .int .u64 a3, .int .u64 a4])) w :=
 ld_agg [.int .u64 a0, .int .u64 a1, .int .u64 a2, .int .u64 a3, .int .u64 a4] ho hx hB ⟨by kernel_rfl, by kernel_rfl⟩ hl
theorem exec_ld1_5 (ho : o.op = .load 104 x) (hx : a.eval x = .pointer (some ⟨g, 5, none⟩)) (hB : Blk w g l.toArray T) (hl : (l.drop 5).take 5 = [.int .u64 a0, .int .u64 a1, .int .u64 a2, .int .u64 a3, .int .u64 a4]) : (execOp a.eval o).run Tryz.prog w = .ok (.value (.agg #[.int .u64 a0, .int .u64 a1, .int .u64 a2, .int .u64 a3, .int .u64 a4])) w :=
 ld_agg [.int .u64 a0, .int .u64 a1, .int .u64 a2, .int .u64 a3, .int .u64 a4] ho hx hB ⟨by kernel_rfl, by kernel_rfl⟩ hl
theorem exec_ld2_0 (ho : o.op = .load 109 x) (hx : a.eval x = .pointer (some ⟨g, 0, none⟩)) (hB : Blk w g l.toArray T) (hl : (l.drop 0).take 10 = [.int .u64 a0, .int .u64 a1, .int .u64 a2, .int .u64 a3, .int .u64 a4, .int .u64 b0, .int .u64 b1, .int .u64 b2, .int .u64 b3, .int .u64 b4]) : (execOp a.eval o).run Tryz.prog w = .ok (.value (.agg #[.int .u64 a0, .int .u64 a1, .int .u64 a2, .int .u64 a3, .int .u64 a4, .int .u64 b0, .int .u64 b1, .int .u64 b2, .int .u64 b3, .int .u64 b4])) w :=
 ld_agg [.int .u64 a0, .int .u64 a1, .int .u64 a2, .int .u64 a3, .int .u64 a4, .int .u64 b0, .int .u64 b1, .int .u64 b2, .int .u64 b3, .int .u64 b4] ho hx hB ⟨by kernel_rfl, by kernel_rfl⟩ hl
theorem exec_ld2_10 (ho : o.op = .load 109 x) (hx : a.eval x = .pointer (some ⟨g, 10, none⟩)) (hB : Blk w g l.toArray T) (hl : (l.drop 10).take 10 = [.int .u64 a0, .int .u64 a1, .int .u64 a2, .int .u64 a3, .int .u64 a4, .int .u64 b0, .int .u64 b1, .int .u64 b2, .int .u64 b3, .int .u64 b4]) : (execOp a.eval o).run Tryz.prog w = .ok (.value (.agg #[.int .u64 a0, .int .u64 a1, .int .u64 a2, .int .u64 a3, .int .u64 a4, .int .u64 b0, .int .u64 b1, .int .u64 b2, .int .u64 b3, .int .u64 b4])) w :=
 ld_agg [.int .u64 a0, .int .u64 a1, .int .u64 a2, .int .u64 a3, .int .u64 a4, .int .u64 b0, .int .u64 b1, .int .u64 b2, .int .u64 b3, .int .u64 b4] ho hx hB ⟨by kernel_rfl, by kernel_rfl⟩ hl
theorem ld1_1_0 (ho : o.op = .load 104 x) (hx : a.eval x = .pointer (some ⟨g, 0, none⟩)) (hF : BlkF w g [x0] T) : ∃ v, (execOp a.eval o).run Tryz.prog w = .ok (.value v) w ∧ ElV x0 v := by
 obtain ⟨l, hB, _, _, rfl, ⟨p0, p1, p2, p3, p4, rfl, hE0⟩, rfl⟩ := hF
 exact ⟨_, exec_ld1_0 ho hx hB rfl, _, _, _, _, _, rfl, hE0⟩
theorem ld1_2_0 (ho : o.op = .load 104 x) (hx : a.eval x = .pointer (some ⟨g, 0, none⟩)) (hF : BlkF w g [x0, x1] T) : ∃ v, (execOp a.eval o).run Tryz.prog w = .ok (.value v) w ∧ ElV x0 v := by
 obtain ⟨l, hB, _, _, rfl, ⟨p0, p1, p2, p3, p4, rfl, hE0⟩, ⟨_, _, rfl, ⟨q0, q1, q2, q3, q4, rfl, hE1⟩, rfl⟩⟩ := hF
 exact ⟨_, exec_ld1_0 ho hx hB rfl, _, _, _, _, _, rfl, hE0⟩
theorem ld1_2_1 (ho : o.op = .load 104 x) (hx : a.eval x = .pointer (some ⟨g, 5, none⟩)) (hF : BlkF w g [x0, x1] T) : ∃ v, (execOp a.eval o).run Tryz.prog w = .ok (.value v) w ∧ ElV x1 v := by
 obtain ⟨l, hB, _, _, rfl, ⟨p0, p1, p2, p3, p4, rfl, hE0⟩, ⟨_, _, rfl, ⟨q0, q1, q2, q3, q4, rfl, hE1⟩, rfl⟩⟩ := hF
 exact ⟨_, exec_ld1_5 ho hx hB rfl, _, _, _, _, _, rfl, hE1⟩
theorem ld2_2_0 (ho : o.op = .load 109 x) (hx : a.eval x = .pointer (some ⟨g, 0, none⟩)) (hF : BlkF w g [x0, x1] T) : ∃ v, (execOp a.eval o).run Tryz.prog w = .ok (.value v) w ∧ AgV [x0, x1] v := by
 obtain ⟨l, hB, _, _, rfl, ⟨p0, p1, p2, p3, p4, rfl, hE0⟩, ⟨_, _, rfl, ⟨q0, q1, q2, q3, q4, rfl, hE1⟩, rfl⟩⟩ := hF
 exact ⟨_, exec_ld2_0 ho hx hB rfl, _, rfl, FsL.two.2 ⟨_, _, _, _, _, _, _, _, _, _, rfl, hE0, hE1⟩⟩
theorem ld1_4_0 (ho : o.op = .load 104 x) (hx : a.eval x = .pointer (some ⟨g, 0, none⟩)) (hF : BlkF w g [x0, x1, x2, x3] T) : ∃ v, (execOp a.eval o).run Tryz.prog w = .ok (.value v) w ∧ ElV x0 v := by
 obtain ⟨l, hB, _, _, rfl, ⟨p0, p1, p2, p3, p4, rfl, hE0⟩, ⟨_, _, rfl, ⟨q0, q1, q2, q3, q4, rfl, hE1⟩, ⟨_, _, rfl, ⟨r0, r1, r2, r3, r4, rfl, hE2⟩, ⟨_, _, rfl, ⟨s0, s1, s2, s3, s4, rfl, hE3⟩, rfl⟩⟩⟩⟩ := hF
 exact ⟨_, exec_ld1_0 ho hx hB rfl, _, _, _, _, _, rfl, hE0⟩
theorem ld1_4_1 (ho : o.op = .load 104 x) (hx : a.eval x = .pointer (some ⟨g, 5, none⟩)) (hF : BlkF w g [x0, x1, x2, x3] T) : ∃ v, (execOp a.eval o).run Tryz.prog w = .ok (.value v) w ∧ ElV x1 v := by
 obtain ⟨l, hB, _, _, rfl, ⟨p0, p1, p2, p3, p4, rfl, hE0⟩, ⟨_, _, rfl, ⟨q0, q1, q2, q3, q4, rfl, hE1⟩, ⟨_, _, rfl, ⟨r0, r1, r2, r3, r4, rfl, hE2⟩, ⟨_, _, rfl, ⟨s0, s1, s2, s3, s4, rfl, hE3⟩, rfl⟩⟩⟩⟩ := hF
 exact ⟨_, exec_ld1_5 ho hx hB rfl, _, _, _, _, _, rfl, hE1⟩
theorem ld2_4_0 (ho : o.op = .load 109 x) (hx : a.eval x = .pointer (some ⟨g, 0, none⟩)) (hF : BlkF w g [x0, x1, x2, x3] T) : ∃ v, (execOp a.eval o).run Tryz.prog w = .ok (.value v) w ∧ AgV [x0, x1] v := by
 obtain ⟨l, hB, _, _, rfl, ⟨p0, p1, p2, p3, p4, rfl, hE0⟩, ⟨_, _, rfl, ⟨q0, q1, q2, q3, q4, rfl, hE1⟩, ⟨_, _, rfl, ⟨r0, r1, r2, r3, r4, rfl, hE2⟩, ⟨_, _, rfl, ⟨s0, s1, s2, s3, s4, rfl, hE3⟩, rfl⟩⟩⟩⟩ := hF
 exact ⟨_, exec_ld2_0 ho hx hB rfl, _, rfl, FsL.two.2 ⟨_, _, _, _, _, _, _, _, _, _, rfl, hE0, hE1⟩⟩
theorem ld2_4_1 (ho : o.op = .load 109 x) (hx : a.eval x = .pointer (some ⟨g, 10, none⟩)) (hF : BlkF w g [x0, x1, x2, x3] T) : ∃ v, (execOp a.eval o).run Tryz.prog w = .ok (.value v) w ∧ AgV [x2, x3] v := by
 obtain ⟨l, hB, _, _, rfl, ⟨p0, p1, p2, p3, p4, rfl, hE0⟩, ⟨_, _, rfl, ⟨q0, q1, q2, q3, q4, rfl, hE1⟩, ⟨_, _, rfl, ⟨r0, r1, r2, r3, r4, rfl, hE2⟩, ⟨_, _, rfl, ⟨s0, s1, s2, s3, s4, rfl, hE3⟩, rfl⟩⟩⟩⟩ := hF
 exact ⟨_, exec_ld2_10 ho hx hB rfl, _, rfl, FsL.two.2 ⟨_, _, _, _, _, _, _, _, _, _, rfl, hE2, hE3⟩⟩
set_option maxHeartbeats 2000000 in
theorem st1 (ho : o.op = .store 104 x y) (hx : a.eval x = .pointer (some ⟨g, 0, none⟩)) (hF : BlkF w g [x0] T) (hV : AgV [y0] (a.eval y)) :
  ∃ w', (execOp a.eval o).run Tryz.prog w = .ok .skip w' ∧ BlkF w' g [y0] T ∧ BelowX (fun k => k = g) w w' := by
 obtain ⟨l, hB, _, _, rfl, ⟨p0, p1, p2, p3, p4, rfl, hE0⟩, rfl⟩ := hF
 obtain ⟨l', hy, _, _, rfl, ⟨ev0, ev1, ev2, ev3, ev4, rfl, hN0⟩, rfl⟩ := hV
 simp only [List.append_assoc, List.cons_append, List.nil_append, List.append_nil] at hB hy
 have hst := st_agg (vs := [.int .u64 ev0, .int .u64 ev1, .int .u64 ev2, .int .u64 ev3, .int .u64 ev4]) ho hx hy hB ⟨by kernel_rfl, by kernel_rfl⟩ (by simp) (by intro v hv; simp only [List.mem_cons, List.not_mem_nil, or_false] at hv; rcases hv with rfl | rfl | rfl | rfl | rfl <;> rfl)
 refine ⟨_, hst, ⟨_, blk_setRow hB, ?_⟩, chg_setRow hB⟩
 exact ⟨[_, _, _, _, _], _, rfl, ⟨_, _, _, _, _, rfl, hN0⟩, rfl⟩
set_option maxHeartbeats 2000000 in
theorem st2 (ho : o.op = .store 109 x y) (hx : a.eval x = .pointer (some ⟨g, 0, none⟩)) (hF : BlkF w g [x0, x1] T) (hV : AgV [y0, y1] (a.eval y)) :
  ∃ w', (execOp a.eval o).run Tryz.prog w = .ok .skip w' ∧ BlkF w' g [y0, y1] T ∧ BelowX (fun k => k = g) w w' := by
 obtain ⟨l, hB, _, _, rfl, ⟨p0, p1, p2, p3, p4, rfl, hE0⟩, ⟨_, _, rfl, ⟨q0, q1, q2, q3, q4, rfl, hE1⟩, rfl⟩⟩ := hF
 obtain ⟨l', hy, _, _, rfl, ⟨ev0, ev1, ev2, ev3, ev4, rfl, hN0⟩, ⟨_, _, rfl, ⟨fv0, fv1, fv2, fv3, fv4, rfl, hN1⟩, rfl⟩⟩ := hV
 simp only [List.append_assoc, List.cons_append, List.nil_append, List.append_nil] at hB hy
 have hst := st_agg (vs := [.int .u64 ev0, .int .u64 ev1, .int .u64 ev2, .int .u64 ev3, .int .u64 ev4, .int .u64 fv0, .int .u64 fv1, .int .u64 fv2, .int .u64 fv3, .int .u64 fv4]) ho hx hy hB ⟨by kernel_rfl, by kernel_rfl⟩ (by simp) (by intro v hv; simp only [List.mem_cons, List.not_mem_nil, or_false] at hv; rcases hv with rfl | rfl | rfl | rfl | rfl | rfl | rfl | rfl | rfl | rfl <;> rfl)
 refine ⟨_, hst, ⟨_, blk_setRow hB, ?_⟩, chg_setRow hB⟩
 exact ⟨[_, _, _, _, _], _, rfl, ⟨_, _, _, _, _, rfl, hN0⟩, ⟨[_, _, _, _, _], _, rfl, ⟨_, _, _, _, _, rfl, hN1⟩, rfl⟩⟩
set_option maxHeartbeats 2000000 in
theorem st2_0 (ho : o.op = .store 109 x y) (hx : a.eval x = .pointer (some ⟨g, 0, none⟩)) (hF : BlkF w g [x0, x1, x2, x3] T) (hV : AgV [y0, y1] (a.eval y)) :
  ∃ w', (execOp a.eval o).run Tryz.prog w = .ok .skip w' ∧ BlkF w' g [y0, y1, x2, x3] T ∧ BelowX (fun k => k = g) w w' := by
 obtain ⟨l, hB, _, _, rfl, ⟨p0, p1, p2, p3, p4, rfl, hE0⟩, ⟨_, _, rfl, ⟨q0, q1, q2, q3, q4, rfl, hE1⟩, ⟨_, _, rfl, ⟨r0, r1, r2, r3, r4, rfl, hE2⟩, ⟨_, _, rfl, ⟨s0, s1, s2, s3, s4, rfl, hE3⟩, rfl⟩⟩⟩⟩ := hF
 obtain ⟨l', hy, _, _, rfl, ⟨ev0, ev1, ev2, ev3, ev4, rfl, hN0⟩, ⟨_, _, rfl, ⟨fv0, fv1, fv2, fv3, fv4, rfl, hN1⟩, rfl⟩⟩ := hV
 simp only [List.append_assoc, List.cons_append, List.nil_append, List.append_nil] at hB hy
 have hst := st_agg (vs := [.int .u64 ev0, .int .u64 ev1, .int .u64 ev2, .int .u64 ev3, .int .u64 ev4, .int .u64 fv0, .int .u64 fv1, .int .u64 fv2, .int .u64 fv3, .int .u64 fv4]) ho hx hy hB ⟨by kernel_rfl, by kernel_rfl⟩ (by simp) (by intro v hv; simp only [List.mem_cons, List.not_mem_nil, or_false] at hv; rcases hv with rfl | rfl | rfl | rfl | rfl | rfl | rfl | rfl | rfl | rfl <;> rfl)
 refine ⟨_, hst, ⟨_, blk_setRow hB, ?_⟩, chg_setRow hB⟩
 exact ⟨[_, _, _, _, _], _, rfl, ⟨_, _, _, _, _, rfl, hN0⟩, ⟨[_, _, _, _, _], _, rfl, ⟨_, _, _, _, _, rfl, hN1⟩, ⟨[_, _, _, _, _], _, rfl, ⟨_, _, _, _, _, rfl, hE2⟩, ⟨[_, _, _, _, _], _, rfl, ⟨_, _, _, _, _, rfl, hE3⟩, rfl⟩⟩⟩⟩
set_option maxHeartbeats 2000000 in
theorem st2_1 (ho : o.op = .store 109 x y) (hx : a.eval x = .pointer (some ⟨g, 10, none⟩)) (hF : BlkF w g [x0, x1, x2, x3] T) (hV : AgV [y0, y1] (a.eval y)) :
  ∃ w', (execOp a.eval o).run Tryz.prog w = .ok .skip w' ∧ BlkF w' g [x0, x1, y0, y1] T ∧ BelowX (fun k => k = g) w w' := by
 obtain ⟨l, hB, _, _, rfl, ⟨p0, p1, p2, p3, p4, rfl, hE0⟩, ⟨_, _, rfl, ⟨q0, q1, q2, q3, q4, rfl, hE1⟩, ⟨_, _, rfl, ⟨r0, r1, r2, r3, r4, rfl, hE2⟩, ⟨_, _, rfl, ⟨s0, s1, s2, s3, s4, rfl, hE3⟩, rfl⟩⟩⟩⟩ := hF
 obtain ⟨l', hy, _, _, rfl, ⟨ev0, ev1, ev2, ev3, ev4, rfl, hN0⟩, ⟨_, _, rfl, ⟨fv0, fv1, fv2, fv3, fv4, rfl, hN1⟩, rfl⟩⟩ := hV
 simp only [List.append_assoc, List.cons_append, List.nil_append, List.append_nil] at hB hy
 have hst := st_agg (vs := [.int .u64 ev0, .int .u64 ev1, .int .u64 ev2, .int .u64 ev3, .int .u64 ev4, .int .u64 fv0, .int .u64 fv1, .int .u64 fv2, .int .u64 fv3, .int .u64 fv4]) ho hx hy hB ⟨by kernel_rfl, by kernel_rfl⟩ (by simp) (by intro v hv; simp only [List.mem_cons, List.not_mem_nil, or_false] at hv; rcases hv with rfl | rfl | rfl | rfl | rfl | rfl | rfl | rfl | rfl | rfl <;> rfl)
 refine ⟨_, hst, ⟨_, blk_setRow hB, ?_⟩, chg_setRow hB⟩
 exact ⟨[_, _, _, _, _], _, rfl, ⟨_, _, _, _, _, rfl, hE0⟩, ⟨[_, _, _, _, _], _, rfl, ⟨_, _, _, _, _, rfl, hE1⟩, ⟨[_, _, _, _, _], _, rfl, ⟨_, _, _, _, _, rfl, hN0⟩, ⟨[_, _, _, _, _], _, rfl, ⟨_, _, _, _, _, rfl, hN1⟩, rfl⟩⟩⟩⟩
set_option maxHeartbeats 2000000 in
theorem st4 (ho : o.op = .store 110 x y) (hx : a.eval x = .pointer (some ⟨g, 0, none⟩)) (hF : BlkF w g [x0, x1, x2, x3] T) (hV : AgV [y0, y1, y2, y3] (a.eval y)) :
  ∃ w', (execOp a.eval o).run Tryz.prog w = .ok .skip w' ∧ BlkF w' g [y0, y1, y2, y3] T ∧ BelowX (fun k => k = g) w w' := by
 obtain ⟨l, hB, _, _, rfl, ⟨p0, p1, p2, p3, p4, rfl, hE0⟩, ⟨_, _, rfl, ⟨q0, q1, q2, q3, q4, rfl, hE1⟩, ⟨_, _, rfl, ⟨r0, r1, r2, r3, r4, rfl, hE2⟩, ⟨_, _, rfl, ⟨s0, s1, s2, s3, s4, rfl, hE3⟩, rfl⟩⟩⟩⟩ := hF
 obtain ⟨l', hy, _, _, rfl, ⟨ev0, ev1, ev2, ev3, ev4, rfl, hN0⟩, ⟨_, _, rfl, ⟨fv0, fv1, fv2, fv3, fv4, rfl, hN1⟩, ⟨_, _, rfl, ⟨gv0, gv1, gv2, gv3, gv4, rfl, hN2⟩, ⟨_, _, rfl, ⟨hv0, hv1, hv2, hv3, hv4, rfl, hN3⟩, rfl⟩⟩⟩⟩ := hV
 simp only [List.append_assoc, List.cons_append, List.nil_append, List.append_nil] at hB hy
 have hst := st_agg (vs := [.int .u64 ev0, .int .u64 ev1, .int .u64 ev2, .int .u64 ev3, .int .u64 ev4, .int .u64 fv0, .int .u64 fv1, .int .u64 fv2, .int .u64 fv3, .int .u64 fv4, .int .u64 gv0, .int .u64 gv1, .int .u64 gv2, .int .u64 gv3, .int .u64 gv4, .int .u64 hv0, .int .u64 hv1, .int .u64 hv2, .int .u64 hv3, .int .u64 hv4]) ho hx hy hB ⟨by kernel_rfl, by kernel_rfl⟩ (by simp) (by intro v hv; simp only [List.mem_cons, List.not_mem_nil, or_false] at hv; rcases hv with rfl | rfl | rfl | rfl | rfl | rfl | rfl | rfl | rfl | rfl | rfl | rfl | rfl | rfl | rfl | rfl | rfl | rfl | rfl | rfl <;> rfl)
 refine ⟨_, hst, ⟨_, blk_setRow hB, ?_⟩, chg_setRow hB⟩
 exact ⟨[_, _, _, _, _], _, rfl, ⟨_, _, _, _, _, rfl, hN0⟩, ⟨[_, _, _, _, _], _, rfl, ⟨_, _, _, _, _, rfl, hN1⟩, ⟨[_, _, _, _, _], _, rfl, ⟨_, _, _, _, _, rfl, hN2⟩, ⟨[_, _, _, _, _], _, rfl, ⟨_, _, _, _, _, rfl, hN3⟩, rfl⟩⟩⟩⟩
theorem al1 (ho : o.op = .alloc 104) (a : Act) (w : World) : ∃ ob, (execOp a.eval o).run Tryz.prog w = .ok (.value (.pointer (some ⟨w.heap.size, 0, none⟩))) (w.alloc ob) ∧ BlkF (w.alloc ob) w.heap.size [0] 104 := by
 refine ⟨.cells #[.int .u64 0, .int .u64 0, .int .u64 0, .int .u64 0, .int .u64 0] 104, ?_, [.int .u64 0, .int .u64 0, .int .u64 0, .int .u64 0, .int .u64 0], Blk.new _ _ _, FsL.zero1⟩
 generalize a.eval = ev
 simp [execOp, ho, go_sem]
theorem al2 (ho : o.op = .alloc 109) (a : Act) (w : World) : ∃ ob, (execOp a.eval o).run Tryz.prog w = .ok (.value (.pointer (some ⟨w.heap.size, 0, none⟩))) (w.alloc ob) ∧ BlkF (w.alloc ob) w.heap.size [0, 0] 109 := by
 refine ⟨.cells #[.int .u64 0, .int .u64 0, .int .u64 0, .int .u64 0, .int .u64 0, .int .u64 0, .int .u64 0, .int .u64 0, .int .u64 0, .int .u64 0] 109, ?_, [.int .u64 0, .int .u64 0, .int .u64 0, .int .u64 0, .int .u64 0, .int .u64 0, .int .u64 0, .int .u64 0, .int .u64 0, .int .u64 0], Blk.new _ _ _, FsL.zero1.app FsL.zero1⟩
 generalize a.eval = ev
 simp [execOp, ho, go_sem]
theorem al4 (ho : o.op = .alloc 110) (a : Act) (w : World) : ∃ ob, (execOp a.eval o).run Tryz.prog w = .ok (.value (.pointer (some ⟨w.heap.size, 0, none⟩))) (w.alloc ob) ∧ BlkF (w.alloc ob) w.heap.size [0, 0, 0, 0] 110 := by
 refine ⟨.cells #[.int .u64 0, .int .u64 0, .int .u64 0, .int .u64 0, .int .u64 0, .int .u64 0, .int .u64 0, .int .u64 0, .int .u64 0, .int .u64 0, .int .u64 0, .int .u64 0, .int .u64 0, .int .u64 0, .int .u64 0, .int .u64 0, .int .u64 0, .int .u64 0, .int .u64 0, .int .u64 0] 110, ?_, [.int .u64 0, .int .u64 0, .int .u64 0, .int .u64 0, .int .u64 0, .int .u64 0, .int .u64 0, .int .u64 0, .int .u64 0, .int .u64 0, .int .u64 0, .int .u64 0, .int .u64 0, .int .u64 0, .int .u64 0, .int .u64 0, .int .u64 0, .int .u64 0, .int .u64 0, .int .u64 0], Blk.new _ _ _, FsL.zero1.app (FsL.zero1.app (FsL.zero1.app FsL.zero1))⟩
 generalize a.eval = ev
 simp [execOp, ho, go_sem]
theorem bd2 (ho : o.op = .build 109 #[(0, p), (1, q)]) (hp : AgV [x0] (a.eval p)) (hq : AgV [y0] (a.eval q)) : ∃ v, (execOp a.eval o).run Tryz.prog w = .ok (.value v) w ∧ AgV [x0, y0] v := by
 obtain ⟨l, hp, _, _, rfl, ⟨p0, p1, p2, p3, p4, rfl, hE0⟩, rfl⟩ := hp
 obtain ⟨l', hq, _, _, rfl, ⟨ev0, ev1, ev2, ev3, ev4, rfl, hN0⟩, rfl⟩ := hq
 refine ⟨.agg #[.int .u64 p0, .int .u64 p1, .int .u64 p2, .int .u64 p3, .int .u64 p4, .int .u64 ev0, .int .u64 ev1, .int .u64 ev2, .int .u64 ev3, .int .u64 ev4], ?_, _, rfl, [_, _, _, _, _], _, rfl, ⟨_, _, _, _, _, rfl, hE0⟩, ⟨[_, _, _, _, _], _, rfl, ⟨_, _, _, _, _, rfl, hN0⟩, rfl⟩⟩
 simp only [List.append_assoc, List.cons_append, List.nil_append, List.append_nil] at hp hq
 generalize a.eval = ev at hp hq ⊢
 simp [execOp, ho, hp, hq, go_sem]
theorem bd4 (ho : o.op = .build 110 #[(0, p), (1, q)]) (hp : AgV [x0, x1] (a.eval p)) (hq : AgV [y0, y1] (a.eval q)) : ∃ v, (execOp a.eval o).run Tryz.prog w = .ok (.value v) w ∧ AgV [x0, x1, y0, y1] v := by
 obtain ⟨l, hp, _, _, rfl, ⟨p0, p1, p2, p3, p4, rfl, hE0⟩, ⟨_, _, rfl, ⟨q0, q1, q2, q3, q4, rfl, hE1⟩, rfl⟩⟩ := hp
 obtain ⟨l', hq, _, _, rfl, ⟨ev0, ev1, ev2, ev3, ev4, rfl, hN0⟩, ⟨_, _, rfl, ⟨fv0, fv1, fv2, fv3, fv4, rfl, hN1⟩, rfl⟩⟩ := hq
 refine ⟨.agg #[.int .u64 p0, .int .u64 p1, .int .u64 p2, .int .u64 p3, .int .u64 p4, .int .u64 q0, .int .u64 q1, .int .u64 q2, .int .u64 q3, .int .u64 q4, .int .u64 ev0, .int .u64 ev1, .int .u64 ev2, .int .u64 ev3, .int .u64 ev4, .int .u64 fv0, .int .u64 fv1, .int .u64 fv2, .int .u64 fv3, .int .u64 fv4], ?_, _, rfl, [_, _, _, _, _], _, rfl, ⟨_, _, _, _, _, rfl, hE0⟩, ⟨[_, _, _, _, _], _, rfl, ⟨_, _, _, _, _, rfl, hE1⟩, ⟨[_, _, _, _, _], _, rfl, ⟨_, _, _, _, _, rfl, hN0⟩, ⟨[_, _, _, _, _], _, rfl, ⟨_, _, _, _, _, rfl, hN1⟩, rfl⟩⟩⟩⟩
 simp only [List.append_assoc, List.cons_append, List.nil_append, List.append_nil] at hp hq
 generalize a.eval = ev at hp hq ⊢
 simp [execOp, ho, hp, hq, go_sem]
section
variable {ops : Array Oper} {Q : Exit → Act → World → Prop} {o : Oper} {rest : List Oper} {a : Act} {w : World} {x y : Operand} {g : Nat} {T : TypeId}
theorem tail_st1 (hg : o.guard = none) (hd : o.dst = none) (ho : o.op = .store 104 x y) (hx : a.eval x = .pointer (some ⟨g, 0, none⟩)) (hF : BlkF w g [x0] T) (hV : ElV y0 (a.eval y))
  (h : ∀ w', BlkF w' g [y0] T → BelowX (fun k => k = g) w w' → wpList Tryz.prog ops Q rest a w') : wpList Tryz.prog ops Q (o :: rest) a w := by
 obtain ⟨w', hr, h1, h2⟩ := st1 ho hx hF (AgV.one.2 hV)
 exact tail_skip hg hd hr (h w' h1 h2)
theorem tail_st2 (hg : o.guard = none) (hd : o.dst = none) (ho : o.op = .store 109 x y) (hx : a.eval x = .pointer (some ⟨g, 0, none⟩)) (hF : BlkF w g [x0, x1] T) (hV : AgV [y0, y1] (a.eval y))
  (h : ∀ w', BlkF w' g [y0, y1] T → BelowX (fun k => k = g) w w' → wpList Tryz.prog ops Q rest a w') : wpList Tryz.prog ops Q (o :: rest) a w := by
 obtain ⟨w', hr, h1, h2⟩ := st2 ho hx hF hV
 exact tail_skip hg hd hr (h w' h1 h2)
theorem tail_st4 (hg : o.guard = none) (hd : o.dst = none) (ho : o.op = .store 110 x y) (hx : a.eval x = .pointer (some ⟨g, 0, none⟩)) (hF : BlkF w g [x0, x1, x2, x3] T) (hV : AgV [y0, y1, y2, y3] (a.eval y))
  (h : ∀ w', BlkF w' g [y0, y1, y2, y3] T → BelowX (fun k => k = g) w w' → wpList Tryz.prog ops Q rest a w') : wpList Tryz.prog ops Q (o :: rest) a w := by
 obtain ⟨w', hr, h1, h2⟩ := st4 ho hx hF hV
 exact tail_skip hg hd hr (h w' h1 h2)
end
def twiceX (px pz : F) : F := ((px + pz) * (px + pz)) * ((px - pz) * (px - pz))
def twiceZ (px pz : F) : F := ((px + pz) * (px + pz) - (px - pz) * (px - pz)) * ((px + pz) * (px + pz) + toF 121665 * ((px + pz) * (px + pz) - (px - pz) * (px - pz)))
def bothX (px pz qx qz : F) : F := ((qx - qz) * (px + pz) + (qx + qz) * (px - pz)) * ((qx - qz) * (px + pz) + (qx + qz) * (px - pz))
def bothZ (px pz qx qz u : F) : F := u * (((qx - qz) * (px + pz) - (qx + qz) * (px - pz)) * ((qx - qz) * (px + pz) - (qx + qz) * (px - pz)))
theorem square_V {x : F} {u : Value} (hu : ElV x u) (w : World) : Calls Tryz.prog 123 #[u] w fun e w' => ∃ r, e = .returned r ∧ ElV (x * x) r ∧ Below w.heap.size w w' := by
 obtain ⟨a0, a1, a2, a3, a4, rfl, ha⟩ := hu
 go_enter Tryz.func123, Tryz.ntmps123
 go_wp2_with fail
 refine Calls.mono (Mul_any ha ha _) ?_
 rintro e w1 ⟨r0, r1, r2, r3, r4, rfl, hE, hb⟩
 have B0 : Blk w1 w.heap.size #[.int .u64 a0, .int .u64 a1, .int .u64 a2, .int .u64 a3, .int .u64 a4] 104 := hb.blk ((Blk.new _ _ _).alloc _) (by simp; omega)
 have B1 : Blk w1 (w.heap.size + 1) #[.int .u64 0, .int .u64 0, .int .u64 0, .int .u64 0, .int .u64 0] 104 := hb.blk (Blk.at _ _ (by simp)) (by simp)
 have HB : Below w.heap.size w w1 := ((((Below.refl _ _).alloc (Nat.le_refl _) _).alloc (by simp) _)).trans (hb.mono (by simp; omega))
 have f1 := B1.free
 have c1 := B1.cell
 have c2 := (B1.set5 (.int .u64 r0) (.int .u64 r1) (.int .u64 r2) (.int .u64 r3) (.int .u64 r4)).cell
 clear hb
 dsimp only
 go_wp2_with fail
 refine bodyPost_ret (v := .agg #[.int .u64 r0, .int .u64 r1, .int .u64 r2, .int .u64 r3, .int .u64 r4]) ?_ rfl ⟨_, rfl, ⟨r0, r1, r2, r3, r4, rfl, hE⟩, below_set5 _ _ _ _ _ HB (by omega)⟩
 simp [results, Tryz.results123, go_sem, c2]
def stepS1 (B : Nat) (px pz qx qz u : F) (g0 : Nat) : Nat → World → Value → Prop
 | 0, _, v => v = .pointer (some ⟨g0, 0, none⟩)
 | 1, _, v => ElV (px) v
 | 2, _, v => v = .pointer (some ⟨g0, 5, none⟩)
 | 3, _, v => ElV (pz) v
 | 4, _, v => ElV ((px) + (pz)) v
 | 5, _, v => v = .pointer (some ⟨g0, 0, none⟩)
 | 6, _, v => ElV (px) v
 | 7, _, v => v = .pointer (some ⟨g0, 5, none⟩)
 | 8, _, v => ElV (pz) v
 | 9, _, v => ElV ((px) - (pz)) v
 | 10, w, v => ∃ g, v = .pointer (some ⟨g, 0, none⟩) ∧ B ≤ g ∧ BlkF w g [0] 104
 | 11, w, v => ∃ g, v = .pointer (some ⟨g, 0, none⟩) ∧ B ≤ g ∧ BlkF w g [0] 104
 | _, _, _ => True
def stepS1K : Nat → HK
 | 10 => .fresh
 | 11 => .fresh
 | _ => .val
def stepS2 (B : Nat) (px pz qx qz u : F) (g0 g8 g9 : Nat) : Nat → World → Value → Prop
 | 0, _, v => ElV ((px) + (pz)) v
 | 1, _, v => ElV (((px) + (pz)) * ((px) + (pz))) v
 | 2, _, v => ElV ((px) - (pz)) v
 | 3, _, v => ElV (((px) - (pz)) * ((px) - (pz))) v
 | 4, w, v => ∃ g, v = .pointer (some ⟨g, 0, none⟩) ∧ B ≤ g ∧ BlkF w g [0] 104
 | 5, w, v => ∃ g, v = .pointer (some ⟨g, 0, none⟩) ∧ B ≤ g ∧ BlkF w g [0] 104
 | _, _, _ => True
def stepS2K : Nat → HK
 | 4 => .fresh
 | 5 => .fresh
 | _ => .val
def stepS4 (B : Nat) (px pz qx qz u : F) (g0 g10 g11 g12 g8 g9 : Nat) : Nat → World → Value → Prop
 | 0, _, v => v = .pointer (some ⟨(g0 + 1), 0, none⟩)
 | 1, _, v => ElV (qx) v
 | 2, _, v => v = .pointer (some ⟨(g0 + 1), 5, none⟩)
 | 3, _, v => ElV (qz) v
 | 4, _, v => ElV ((qx) - (qz)) v
 | 5, _, v => ElV ((px) + (pz)) v
 | 6, _, v => ElV (((qx) - (qz)) * ((px) + (pz))) v
 | 7, _, v => v = .pointer (some ⟨(g0 + 1), 0, none⟩)
 | 8, _, v => ElV (qx) v
 | 9, _, v => v = .pointer (some ⟨(g0 + 1), 5, none⟩)
 | 10, _, v => ElV (qz) v
 | 11, _, v => ElV ((qx) + (qz)) v
 | 12, _, v => ElV ((px) - (pz)) v
 | 13, _, v => ElV (((qx) + (qz)) * ((px) - (pz))) v
 | 14, w, v => ∃ g, v = .pointer (some ⟨g, 0, none⟩) ∧ B ≤ g ∧ BlkF w g [0] 104
 | 15, w, v => ∃ g, v = .pointer (some ⟨g, 0, none⟩) ∧ B ≤ g ∧ BlkF w g [0] 104
 | _, _, _ => True
def stepS4K : Nat → HK
 | 14 => .fresh
 | 15 => .fresh
 | _ => .val
def stepS5 (B : Nat) (px pz qx qz u : F) (g0 g10 g11 g12 g13 g14 g8 g9 : Nat) : Nat → World → Value → Prop
 | 0, _, v => ElV (((px) + (pz)) * ((px) + (pz))) v
 | 1, _, v => ElV (((px) - (pz)) * ((px) - (pz))) v
 | 2, _, v => ElV ((((px) + (pz)) * ((px) + (pz))) * (((px) - (pz)) * ((px) - (pz)))) v
 | 3, _, v => ElV ((((px) + (pz)) * ((px) + (pz))) - (((px) - (pz)) * ((px) - (pz)))) v
 | 4, _, v => ElV (((px) + (pz)) * ((px) + (pz))) v
 | 5, _, v => ElV (toF 121665) v
 | 6, _, v => ElV ((((px) + (pz)) * ((px) + (pz))) - (((px) - (pz)) * ((px) - (pz)))) v
 | 7, _, v => ElV ((toF 121665) * ((((px) + (pz)) * ((px) + (pz))) - (((px) - (pz)) * ((px) - (pz))))) v
 | 8, _, v => ElV ((((px) + (pz)) * ((px) + (pz))) + ((toF 121665) * ((((px) + (pz)) * ((px) + (pz))) - (((px) - (pz)) * ((px) - (pz)))))) v
 | 9, _, v => ElV (((((px) + (pz)) * ((px) + (pz))) - (((px) - (pz)) * ((px) - (pz)))) * ((((px) + (pz)) * ((px) + (pz))) + ((toF 121665) * ((((px) + (pz)) * ((px) + (pz))) - (((px) - (pz)) * ((px) - (pz))))))) v
 | 10, _, v => AgV [(((px) + (pz)) * ((px) + (pz))) * (((px) - (pz)) * ((px) - (pz))), ((((px) + (pz)) * ((px) + (pz))) - (((px) - (pz)) * ((px) - (pz)))) * ((((px) + (pz)) * ((px) + (pz))) + ((toF 121665) * ((((px) + (pz)) * ((px) + (pz))) - (((px) - (pz)) * ((px) - (pz))))))] v
 | 11, w, v => ∃ g, v = .pointer (some ⟨g, 0, none⟩) ∧ B ≤ g ∧ BlkF w g [0, 0] 109
 | _, _, _ => True
def stepS5K : Nat → HK
 | 11 => .fresh
 | _ => .val
def stepS6 (B : Nat) (px pz qx qz u : F) (g0 g10 g11 g12 g13 g14 g15 g8 g9 : Nat) : Nat → World → Value → Prop
 | 0, _, v => ElV (((qx) - (qz)) * ((px) + (pz))) v
 | 1, _, v => ElV (((qx) + (qz)) * ((px) - (pz))) v
 | 2, _, v => ElV ((((qx) - (qz)) * ((px) + (pz))) + (((qx) + (qz)) * ((px) - (pz)))) v
 | 3, _, v => ElV (((((qx) - (qz)) * ((px) + (pz))) + (((qx) + (qz)) * ((px) - (pz)))) * ((((qx) - (qz)) * ((px) + (pz))) + (((qx) + (qz)) * ((px) - (pz))))) v
 | 4, _, v => ElV (u) v
 | 5, _, v => ElV (((qx) - (qz)) * ((px) + (pz))) v
 | 6, _, v => ElV (((qx) + (qz)) * ((px) - (pz))) v
 | 7, _, v => ElV ((((qx) - (qz)) * ((px) + (pz))) - (((qx) + (qz)) * ((px) - (pz)))) v
 | 8, _, v => ElV (((((qx) - (qz)) * ((px) + (pz))) - (((qx) + (qz)) * ((px) - (pz)))) * ((((qx) - (qz)) * ((px) + (pz))) - (((qx) + (qz)) * ((px) - (pz))))) v
 | 9, _, v => ElV ((u) * (((((qx) - (qz)) * ((px) + (pz))) - (((qx) + (qz)) * ((px) - (pz)))) * ((((qx) - (qz)) * ((px) + (pz))) - (((qx) + (qz)) * ((px) - (pz)))))) v
 | 10, _, v => AgV [((((qx) - (qz)) * ((px) + (pz))) + (((qx) + (qz)) * ((px) - (pz)))) * ((((qx) - (qz)) * ((px) + (pz))) + (((qx) + (qz)) * ((px) - (pz)))), (u) * (((((qx) - (qz)) * ((px) + (pz))) - (((qx) + (qz)) * ((px) - (pz)))) * ((((qx) - (qz)) * ((px) + (pz))) - (((qx) + (qz)) * ((px) - (pz)))))] v
 | 11, w, v => ∃ g, v = .pointer (some ⟨g, 0, none⟩) ∧ B ≤ g ∧ BlkF w g [0, 0] 109
 | _, _, _ => True
def stepS6K : Nat → HK
 | 11 => .fresh
 | _ => .val
def stepS7 (B : Nat) (px pz qx qz u : F) (g0 g10 g11 g12 g13 g14 g15 g16 g8 g9 : Nat) : Nat → World → Value → Prop
 | 0, _, v => AgV [(((px) + (pz)) * ((px) + (pz))) * (((px) - (pz)) * ((px) - (pz))), ((((px) + (pz)) * ((px) + (pz))) - (((px) - (pz)) * ((px) - (pz)))) * ((((px) + (pz)) * ((px) + (pz))) + ((toF 121665) * ((((px) + (pz)) * ((px) + (pz))) - (((px) - (pz)) * ((px) - (pz))))))] v
 | 1, _, v => AgV [((((qx) - (qz)) * ((px) + (pz))) + (((qx) + (qz)) * ((px) - (pz)))) * ((((qx) - (qz)) * ((px) + (pz))) + (((qx) + (qz)) * ((px) - (pz)))), (u) * (((((qx) - (qz)) * ((px) + (pz))) - (((qx) + (qz)) * ((px) - (pz)))) * ((((qx) - (qz)) * ((px) + (pz))) - (((qx) + (qz)) * ((px) - (pz)))))] v
 | 2, _, _ => True
 | _, _, _ => True
def stepS7K : Nat → HK
 | 2 => .hot
 | _ => .val
set_option maxHeartbeats 8000000 in
theorem step_V {px pz qx qz u : F} {vp vq vu : Value} (hp : AgV [px, pz] vp) (hq : AgV [qx, qz] vq) (hu : ElV u vu) (w : World) :
  Calls Tryz.prog 92 #[vp, vq, vu] w fun e w' => ∃ r1 r2, e = .returned (.tuple #[r1, r2]) ∧ AgV [twiceX px pz, twiceZ px pz] r1 ∧ AgV [bothX px pz qx qz, bothZ px pz qx qz u] r2 ∧ Below w.heap.size w w' := by
 obtain ⟨lp, rfl, hp⟩ := hp
 obtain ⟨lq, rfl, hq⟩ := hq
 obtain ⟨a0, a1, a2, a3, a4, b0, b1, b2, b3, b4, rfl, hp0, hp1⟩ := FsL.two.1 hp
 obtain ⟨c0, c1, c2, c3, c4, d0, d1, d2, d3, d4, rfl, hq0, hq1⟩ := FsL.two.1 hq
 obtain ⟨e0, e1, e2, e3, e4, rfl, hu⟩ := hu
 go_enter Tryz.func92, Tryz.ntmps92
 go_wp2_with fail
 obtain ⟨g0, hg0⟩ : ∃ g, w.heap.size = g := ⟨_, rfl⟩
 have hF3 : BlkF (((((w.alloc (.cells #[.int .u64 a0, .int .u64 a1, .int .u64 a2, .int .u64 a3, .int .u64 a4, .int .u64 b0, .int .u64 b1, .int .u64 b2, .int .u64 b3, .int .u64 b4] 109)).alloc (.cells #[.int .u64 c0, .int .u64 c1, .int .u64 c2, .int .u64 c3, .int .u64 c4, .int .u64 d0, .int .u64 d1, .int .u64 d2, .int .u64 d3, .int .u64 d4] 109)).alloc (.cells #[.int .u64 e0, .int .u64 e1, .int .u64 e2, .int .u64 e3, .int .u64 e4] 104)).alloc (.cells #[.int .u64 0, .int .u64 0, .int .u64 0, .int .u64 0, .int .u64 0, .int .u64 0, .int .u64 0, .int .u64 0, .int .u64 0, .int .u64 0] 109)).alloc (.cells #[.int .u64 0, .int .u64 0, .int .u64 0, .int .u64 0, .int .u64 0, .int .u64 0, .int .u64 0, .int .u64 0, .int .u64 0, .int .u64 0] 109)) g0 [px, pz] 109 := ⟨[.int .u64 a0, .int .u64 a1, .int .u64 a2, .int .u64 a3, .int .u64 a4, .int .u64 b0, .int .u64 b1, .int .u64 b2, .int .u64 b3, .int .u64 b4], (((((Blk.at (w := w) _ _ (by first | exact hg0 | (rw [← hg0]; simp))).alloc _).alloc _).alloc _).alloc _), FsL.two.2 ⟨_, _, _, _, _, _, _, _, _, _, rfl, hp0, hp1⟩⟩
 have hF4 : BlkF (((((w.alloc (.cells #[.int .u64 a0, .int .u64 a1, .int .u64 a2, .int .u64 a3, .int .u64 a4, .int .u64 b0, .int .u64 b1, .int .u64 b2, .int .u64 b3, .int .u64 b4] 109)).alloc (.cells #[.int .u64 c0, .int .u64 c1, .int .u64 c2, .int .u64 c3, .int .u64 c4, .int .u64 d0, .int .u64 d1, .int .u64 d2, .int .u64 d3, .int .u64 d4] 109)).alloc (.cells #[.int .u64 e0, .int .u64 e1, .int .u64 e2, .int .u64 e3, .int .u64 e4] 104)).alloc (.cells #[.int .u64 0, .int .u64 0, .int .u64 0, .int .u64 0, .int .u64 0, .int .u64 0, .int .u64 0, .int .u64 0, .int .u64 0, .int .u64 0] 109)).alloc (.cells #[.int .u64 0, .int .u64 0, .int .u64 0, .int .u64 0, .int .u64 0, .int .u64 0, .int .u64 0, .int .u64 0, .int .u64 0, .int .u64 0] 109)) (g0 + 1) [qx, qz] 109 := ⟨[.int .u64 c0, .int .u64 c1, .int .u64 c2, .int .u64 c3, .int .u64 c4, .int .u64 d0, .int .u64 d1, .int .u64 d2, .int .u64 d3, .int .u64 d4], ((((Blk.at (w := (w.alloc (.cells #[.int .u64 a0, .int .u64 a1, .int .u64 a2, .int .u64 a3, .int .u64 a4, .int .u64 b0, .int .u64 b1, .int .u64 b2, .int .u64 b3, .int .u64 b4] 109))) _ _ (by first | exact hg0 | (rw [← hg0]; simp))).alloc _).alloc _).alloc _), FsL.two.2 ⟨_, _, _, _, _, _, _, _, _, _, rfl, hq0, hq1⟩⟩
 have hF5 : BlkF (((((w.alloc (.cells #[.int .u64 a0, .int .u64 a1, .int .u64 a2, .int .u64 a3, .int .u64 a4, .int .u64 b0, .int .u64 b1, .int .u64 b2, .int .u64 b3, .int .u64 b4] 109)).alloc (.cells #[.int .u64 c0, .int .u64 c1, .int .u64 c2, .int .u64 c3, .int .u64 c4, .int .u64 d0, .int .u64 d1, .int .u64 d2, .int .u64 d3, .int .u64 d4] 109)).alloc (.cells #[.int .u64 e0, .int .u64 e1, .int .u64 e2, .int .u64 e3, .int .u64 e4] 104)).alloc (.cells #[.int .u64 0, .int .u64 0, .int .u64 0, .int .u64 0, .int .u64 0, .int .u64 0, .int .u64 0, .int .u64 0, .int .u64 0, .int .u64 0] 109)).alloc (.cells #[.int .u64 0, .int .u64 0, .int .u64 0, .int .u64 0, .int .u64 0, .int .u64 0, .int .u64 0, .int .u64 0, .int .u64 0, .int .u64 0] 109)) (g0 + 1 + 1) [u] 104 := ⟨[.int .u64 e0, .int .u64 e1, .int .u64 e2, .int .u64 e3, .int .u64 e4], (((Blk.at (w := ((w.alloc (.cells #[.int .u64 a0, .int .u64 a1, .int .u64 a2, .int .u64 a3, .int .u64 a4, .int .u64 b0, .int .u64 b1, .int .u64 b2, .int .u64 b3, .int .u64 b4] 109)).alloc (.cells #[.int .u64 c0, .int .u64 c1, .int .u64 c2, .int .u64 c3, .int .u64 c4, .int .u64 d0, .int .u64 d1, .int .u64 d2, .int .u64 d3, .int .u64 d4] 109))) _ _ (by first | exact hg0 | (rw [← hg0]; simp))).alloc _).alloc _), ⟨_, [], by simp, ⟨_, _, _, _, _, rfl, hu⟩, rfl⟩⟩
 have hF6 : BlkF (((((w.alloc (.cells #[.int .u64 a0, .int .u64 a1, .int .u64 a2, .int .u64 a3, .int .u64 a4, .int .u64 b0, .int .u64 b1, .int .u64 b2, .int .u64 b3, .int .u64 b4] 109)).alloc (.cells #[.int .u64 c0, .int .u64 c1, .int .u64 c2, .int .u64 c3, .int .u64 c4, .int .u64 d0, .int .u64 d1, .int .u64 d2, .int .u64 d3, .int .u64 d4] 109)).alloc (.cells #[.int .u64 e0, .int .u64 e1, .int .u64 e2, .int .u64 e3, .int .u64 e4] 104)).alloc (.cells #[.int .u64 0, .int .u64 0, .int .u64 0, .int .u64 0, .int .u64 0, .int .u64 0, .int .u64 0, .int .u64 0, .int .u64 0, .int .u64 0] 109)).alloc (.cells #[.int .u64 0, .int .u64 0, .int .u64 0, .int .u64 0, .int .u64 0, .int .u64 0, .int .u64 0, .int .u64 0, .int .u64 0, .int .u64 0] 109)) (g0 + 1 + 1 + 1) [0, 0] 109 := ⟨[.int .u64 0, .int .u64 0, .int .u64 0, .int .u64 0, .int .u64 0, .int .u64 0, .int .u64 0, .int .u64 0, .int .u64 0, .int .u64 0], ((Blk.at (w := (((w.alloc (.cells #[.int .u64 a0, .int .u64 a1, .int .u64 a2, .int .u64 a3, .int .u64 a4, .int .u64 b0, .int .u64 b1, .int .u64 b2, .int .u64 b3, .int .u64 b4] 109)).alloc (.cells #[.int .u64 c0, .int .u64 c1, .int .u64 c2, .int .u64 c3, .int .u64 c4, .int .u64 d0, .int .u64 d1, .int .u64 d2, .int .u64 d3, .int .u64 d4] 109)).alloc (.cells #[.int .u64 e0, .int .u64 e1, .int .u64 e2, .int .u64 e3, .int .u64 e4] 104))) _ _ (by first | exact hg0 | (rw [← hg0]; simp))).alloc _), FsL.zero1.app FsL.zero1⟩
 have hF7 : BlkF (((((w.alloc (.cells #[.int .u64 a0, .int .u64 a1, .int .u64 a2, .int .u64 a3, .int .u64 a4, .int .u64 b0, .int .u64 b1, .int .u64 b2, .int .u64 b3, .int .u64 b4] 109)).alloc (.cells #[.int .u64 c0, .int .u64 c1, .int .u64 c2, .int .u64 c3, .int .u64 c4, .int .u64 d0, .int .u64 d1, .int .u64 d2, .int .u64 d3, .int .u64 d4] 109)).alloc (.cells #[.int .u64 e0, .int .u64 e1, .int .u64 e2, .int .u64 e3, .int .u64 e4] 104)).alloc (.cells #[.int .u64 0, .int .u64 0, .int .u64 0, .int .u64 0, .int .u64 0, .int .u64 0, .int .u64 0, .int .u64 0, .int .u64 0, .int .u64 0] 109)).alloc (.cells #[.int .u64 0, .int .u64 0, .int .u64 0, .int .u64 0, .int .u64 0, .int .u64 0, .int .u64 0, .int .u64 0, .int .u64 0, .int .u64 0] 109)) (g0 + 1 + 1 + 1 + 1) [0, 0] 109 := ⟨[.int .u64 0, .int .u64 0, .int .u64 0, .int .u64 0, .int .u64 0, .int .u64 0, .int .u64 0, .int .u64 0, .int .u64 0, .int .u64 0], (Blk.at (w := ((((w.alloc (.cells #[.int .u64 a0, .int .u64 a1, .int .u64 a2, .int .u64 a3, .int .u64 a4, .int .u64 b0, .int .u64 b1, .int .u64 b2, .int .u64 b3, .int .u64 b4] 109)).alloc (.cells #[.int .u64 c0, .int .u64 c1, .int .u64 c2, .int .u64 c3, .int .u64 c4, .int .u64 d0, .int .u64 d1, .int .u64 d2, .int .u64 d3, .int .u64 d4] 109)).alloc (.cells #[.int .u64 e0, .int .u64 e1, .int .u64 e2, .int .u64 e3, .int .u64 e4] 104)).alloc (.cells #[.int .u64 0, .int .u64 0, .int .u64 0, .int .u64 0, .int .u64 0, .int .u64 0, .int .u64 0, .int .u64 0, .int .u64 0, .int .u64 0] 109))) _ _ (by first | exact hg0 | (rw [← hg0]; simp))), FsL.zero1.app FsL.zero1⟩
 have HB : Below w.heap.size w (((((w.alloc (.cells #[.int .u64 a0, .int .u64 a1, .int .u64 a2, .int .u64 a3, .int .u64 a4, .int .u64 b0, .int .u64 b1, .int .u64 b2, .int .u64 b3, .int .u64 b4] 109)).alloc (.cells #[.int .u64 c0, .int .u64 c1, .int .u64 c2, .int .u64 c3, .int .u64 c4, .int .u64 d0, .int .u64 d1, .int .u64 d2, .int .u64 d3, .int .u64 d4] 109)).alloc (.cells #[.int .u64 e0, .int .u64 e1, .int .u64 e2, .int .u64 e3, .int .u64 e4] 104)).alloc (.cells #[.int .u64 0, .int .u64 0, .int .u64 0, .int .u64 0, .int .u64 0, .int .u64 0, .int .u64 0, .int .u64 0, .int .u64 0, .int .u64 0] 109)).alloc (.cells #[.int .u64 0, .int .u64 0, .int .u64 0, .int .u64 0, .int .u64 0, .int .u64 0, .int .u64 0, .int .u64 0, .int .u64 0, .int .u64 0] 109)) := ((((((Below.refl _ _).alloc (by simp; try omega) _).alloc (by simp; try omega) _).alloc (by simp; try omega) _).alloc (by simp; try omega) _).alloc (by simp; try omega) _)
 have hle0 : w.heap.size ≤ g0 := by omega
 rw [hg0]
 generalize (((((w.alloc (.cells #[.int .u64 a0, .int .u64 a1, .int .u64 a2, .int .u64 a3, .int .u64 a4, .int .u64 b0, .int .u64 b1, .int .u64 b2, .int .u64 b3, .int .u64 b4] 109)).alloc (.cells #[.int .u64 c0, .int .u64 c1, .int .u64 c2, .int .u64 c3, .int .u64 c4, .int .u64 d0, .int .u64 d1, .int .u64 d2, .int .u64 d3, .int .u64 d4] 109)).alloc (.cells #[.int .u64 e0, .int .u64 e1, .int .u64 e2, .int .u64 e3, .int .u64 e4] 104)).alloc (.cells #[.int .u64 0, .int .u64 0, .int .u64 0, .int .u64 0, .int .u64 0, .int .u64 0, .int .u64 0, .int .u64 0, .int .u64 0, .int .u64 0] 109)).alloc (.cells #[.int .u64 0, .int .u64 0, .int .u64 0, .int .u64 0, .int .u64 0, .int .u64 0, .int .u64 0, .int .u64 0, .int .u64 0, .int .u64 0] 109)) = w1 at *
 clear hp hq hp0 hp1 hq0 hq1 hu hg0
 have hw : w.heap.size ≤ w1.heap.size := HB.size
 have z3 := hF3.lt
 have z4 := hF4.lt
 have z5 := hF5.lt
 have z6 := hF6.lt
 have z7 := hF7.lt
 have y1 := z7
 refine region_hotV 12 stepS1K (stepS1 (w1.heap.size) px pz qx qz u g0) (fun _ _ => True) (fun _ => False) [17, 18, 19, 20, 21, 22, 23, 24, 25, 26, 8, 9] (by kernel_rfl) (by kernel_rfl) (by kernel_rfl) (by kernel_rfl) (by kernel_rfl) ?_ (fun _ _ _ _ _ => trivial) (fun _ _ _ _ _ => trivial) ?_ trivial (hots_all ?_) ?_
 ·exact fun i w w' v h hb => by revert h; unfold stepS1; split <;> first | exact id | (rintro ⟨g, hv, hg, hB⟩; exact ⟨g, hv, hg, hB.oldX hb (fun h => h)⟩)
 ·exact fun i w v hk h => by unfold stepS1K at hk; split at hk <;> first | (cases hk; done) | (obtain ⟨g, hv, _, hB⟩ := h; exact ⟨g, hv, hB.lt⟩)
 ·simp only [List.take_succ_cons, List.take_zero, HotFrom]
  refine ⟨?_, ?_, ?_, ?_, ?_, ?_, ?_, ?_, ?_, ?_, ?_, ?_, trivial⟩
  ·refine hot_val rfl rfl (fun L a w' hat => ?_)
   have h0 : a.eval (.tmp 3) = .pointer (some ⟨g0, 0, none⟩) := (hat.others 3 (by decide)).trans rfl
   exact out_of (v := .pointer (some ⟨g0, 0, none⟩)) (by (generalize a.eval = ev at *); simp [execOp, go_sem, h0]) rfl
  ·refine hot_val rfl rfl (fun L a w' hat => ?_)
   have h0 : a.eval (.tmp 17) = .pointer (some ⟨g0, 0, none⟩) := hat.deps ⟨0, .data⟩ (by simp) rfl 17 (by decide) rfl
   exact out_ex (ld1_2_0 rfl h0 (hF3.oldX hat.grow (fun h => h))) (fun u hE => hE)
  ·refine hot_val rfl rfl (fun L a w' hat => ?_)
   have h0 : a.eval (.tmp 3) = .pointer (some ⟨g0, 0, none⟩) := (hat.others 3 (by decide)).trans rfl
   exact out_of (v := .pointer (some ⟨g0, 5, none⟩)) (by (generalize a.eval = ev at *); simp [execOp, go_sem, h0]) rfl
  ·refine hot_val rfl rfl (fun L a w' hat => ?_)
   have h0 : a.eval (.tmp 19) = .pointer (some ⟨g0, 5, none⟩) := hat.deps ⟨2, .data⟩ (by simp) rfl 19 (by decide) rfl
   exact out_ex (ld1_2_1 rfl h0 (hF3.oldX hat.grow (fun h => h))) (fun u hE => hE)
  ·refine hot_val rfl rfl (fun L a w' hat => ?_)
   have h0 : ElV (px) (a.eval (.tmp 18)) := hat.deps ⟨1, .data⟩ (by simp) rfl 18 (by decide) rfl
   have h1 : ElV (pz) (a.eval (.tmp 20)) := hat.deps ⟨3, .data⟩ (by simp) rfl 20 (by decide) rfl
   exact .inr ⟨_, #[a.eval (.tmp 18), a.eval (.tmp 20)], exec_call Tryz.func121 (by kernel_rfl) (by kernel_rfl) _ rfl _ _ (by simp), Add_V h0 h1 _⟩
  ·refine hot_val rfl rfl (fun L a w' hat => ?_)
   have h0 : a.eval (.tmp 3) = .pointer (some ⟨g0, 0, none⟩) := (hat.others 3 (by decide)).trans rfl
   exact out_of (v := .pointer (some ⟨g0, 0, none⟩)) (by (generalize a.eval = ev at *); simp [execOp, go_sem, h0]) rfl
  ·refine hot_val rfl rfl (fun L a w' hat => ?_)
   have h0 : a.eval (.tmp 22) = .pointer (some ⟨g0, 0, none⟩) := hat.deps ⟨5, .data⟩ (by simp) rfl 22 (by decide) rfl
   exact out_ex (ld1_2_0 rfl h0 (hF3.oldX hat.grow (fun h => h))) (fun u hE => hE)
  ·refine hot_val rfl rfl (fun L a w' hat => ?_)
   have h0 : a.eval (.tmp 3) = .pointer (some ⟨g0, 0, none⟩) := (hat.others 3 (by decide)).trans rfl
   exact out_of (v := .pointer (some ⟨g0, 5, none⟩)) (by (generalize a.eval = ev at *); simp [execOp, go_sem, h0]) rfl
  ·refine hot_val rfl rfl (fun L a w' hat => ?_)
   have h0 : a.eval (.tmp 24) = .pointer (some ⟨g0, 5, none⟩) := hat.deps ⟨7, .data⟩ (by simp) rfl 24 (by decide) rfl
   exact out_ex (ld1_2_1 rfl h0 (hF3.oldX hat.grow (fun h => h))) (fun u hE => hE)
  ·refine hot_val rfl rfl (fun L a w' hat => ?_)
   have h0 : ElV (px) (a.eval (.tmp 23)) := hat.deps ⟨6, .data⟩ (by simp) rfl 23 (by decide) rfl
   have h1 : ElV (pz) (a.eval (.tmp 25)) := hat.deps ⟨8, .data⟩ (by simp) rfl 25 (by decide) rfl
   exact .inr ⟨_, #[a.eval (.tmp 23), a.eval (.tmp 25)], exec_call Tryz.func122 (by kernel_rfl) (by kernel_rfl) _ rfl _ _ (by simp), Sub_V h0 h1 _⟩
  ·refine hot_fresh rfl rfl (fun L a w' hat => ?_)
   exact fresh_ex (al1 rfl a w') (fun ob hB => ⟨_, rfl, Nat.le_trans (Nat.le_refl _) hat.grow.size, hB⟩)
  ·refine hot_fresh rfl rfl (fun L a w' hat => ?_)
   exact fresh_ex (al1 rfl a w') (fun ob hB => ⟨_, rfl, Nat.le_trans (Nat.le_refl _) hat.grow.size, hB⟩)
 intro L gs w2 hbx hV hall hH hap
 replace hF3 := hF3.oldX hbx (fun h => h)
 replace hF4 := hF4.oldX hbx (fun h => h)
 replace hF5 := hF5.oldX hbx (fun h => h)
 replace hF6 := hF6.oldX hbx (fun h => h)
 replace hF7 := hF7.oldX hbx (fun h => h)
 replace HB := hbx.below HB HB.size (fun k h => h.elim)
 obtain ⟨g8, hv8, hg8, hF8⟩ := hV 10 (by omega) (by decide) 8 rfl
 obtain ⟨g9, hv9, hg9, hF9⟩ := hV 11 (by omega) (by decide) 9 rfl
 have n8_9 : g8 ≠ g9 := ptr_ne (by rw [← hv8, ← hv9]; exact hap 10 11 8 9 (by omega) (by omega) rfl rfl (by omega) rfl rfl)
 have n9_8 : g9 ≠ g8 := ptr_ne (by rw [← hv9, ← hv8]; exact hap 11 10 9 8 (by omega) (by omega) rfl rfl (by omega) rfl rfl)
 have hs8 := hV 4 (by omega) (by decide) 21 rfl
 have hs9 := hV 9 (by omega) (by decide) 26 rfl
 simp only [List.map_cons, List.map_nil, puts, Act.put, hv8, hv9, List.setIfInBounds_toArray, List.set_cons_zero, List.set_cons_succ, List.drop_succ_cons, List.drop_zero]
 clear hV hall hH hap hbx hv8 hv9
 refine tail_st1 rfl rfl rfl rfl hF8 hs8 (fun w3 hN hc => ?_)
 replace hF3 := hF3.oldX hc (by omega)
 replace hF4 := hF4.oldX hc (by omega)
 replace hF5 := hF5.oldX hc (by omega)
 replace hF6 := hF6.oldX hc (by omega)
 replace hF7 := hF7.oldX hc (by omega)
 replace hF9 := hF9.oldX hc (by omega)
 clear hF8
 have hF8 := hN
 clear hN
 replace HB := hc.below HB HB.size (fun k hk => by rw [hk]; omega)
 clear hc hs8
 refine tail_st1 rfl rfl rfl rfl hF9 hs9 (fun w4 hN hc => ?_)
 replace hF3 := hF3.oldX hc (by omega)
 replace hF4 := hF4.oldX hc (by omega)
 replace hF5 := hF5.oldX hc (by omega)
 replace hF6 := hF6.oldX hc (by omega)
 replace hF7 := hF7.oldX hc (by omega)
 replace hF8 := hF8.oldX hc (by omega)
 clear hF9
 have hF9 := hN
 clear hN
 replace HB := hc.below HB HB.size (fun k hk => by rw [hk]; omega)
 clear hc hs9
 clear z3 z4 z5 z6 z7
 refine wpList_nil ?_
 show Exit.then _ _ .normal _ _
 go_wp2_with fail
 have z3 := hF3.lt
 have z4 := hF4.lt
 have z5 := hF5.lt
 have z6 := hF6.lt
 have z7 := hF7.lt
 have z8 := hF8.lt
 have z9 := hF9.lt
 have y2 := z7
 refine region_hotV 6 stepS2K (stepS2 (w4.heap.size) px pz qx qz u g0 g8 g9) (fun _ _ => True) (fun _ => False) [27, 28, 29, 30, 10, 11] (by kernel_rfl) (by kernel_rfl) (by kernel_rfl) (by kernel_rfl) (by kernel_rfl) ?_ (fun _ _ _ _ _ => trivial) (fun _ _ _ _ _ => trivial) ?_ trivial (hots_all ?_) ?_
 ·exact fun i w w' v h hb => by revert h; unfold stepS2; split <;> first | exact id | (rintro ⟨g, hv, hg, hB⟩; exact ⟨g, hv, hg, hB.oldX hb (fun h => h)⟩)
 ·exact fun i w v hk h => by unfold stepS2K at hk; split at hk <;> first | (cases hk; done) | (obtain ⟨g, hv, _, hB⟩ := h; exact ⟨g, hv, hB.lt⟩)
 ·simp only [List.take_succ_cons, List.take_zero, HotFrom]
  refine ⟨?_, ?_, ?_, ?_, ?_, ?_, trivial⟩
  ·refine hot_val rfl rfl (fun L a w' hat => ?_)
   have h0 : a.eval (.tmp 8) = .pointer (some ⟨g8, 0, none⟩) := (hat.others 8 (by decide)).trans rfl
   exact out_ex (ld1_1_0 rfl h0 (hF8.oldX hat.grow (fun h => h))) (fun u hE => hE)
  ·refine hot_val rfl rfl (fun L a w' hat => ?_)
   have h0 : ElV ((px) + (pz)) (a.eval (.tmp 27)) := hat.deps ⟨0, .data⟩ (by simp) rfl 27 (by decide) rfl
   exact .inr ⟨_, #[a.eval (.tmp 27)], exec_call Tryz.func123 (by kernel_rfl) (by kernel_rfl) _ rfl _ _ (by simp), square_V h0 _⟩
  ·refine hot_val rfl rfl (fun L a w' hat => ?_)
   have h0 : a.eval (.tmp 9) = .pointer (some ⟨g9, 0, none⟩) := (hat.others 9 (by decide)).trans rfl
   exact out_ex (ld1_1_0 rfl h0 (hF9.oldX hat.grow (fun h => h))) (fun u hE => hE)
  ·refine hot_val rfl rfl (fun L a w' hat => ?_)
   have h0 : ElV ((px) - (pz)) (a.eval (.tmp 29)) := hat.deps ⟨2, .data⟩ (by simp) rfl 29 (by decide) rfl
   exact .inr ⟨_, #[a.eval (.tmp 29)], exec_call Tryz.func123 (by kernel_rfl) (by kernel_rfl) _ rfl _ _ (by simp), square_V h0 _⟩
  ·refine hot_fresh rfl rfl (fun L a w' hat => ?_)
   exact fresh_ex (al1 rfl a w') (fun ob hB => ⟨_, rfl, Nat.le_trans (Nat.le_refl _) hat.grow.size, hB⟩)
  ·refine hot_fresh rfl rfl (fun L a w' hat => ?_)
   exact fresh_ex (al1 rfl a w') (fun ob hB => ⟨_, rfl, Nat.le_trans (Nat.le_refl _) hat.grow.size, hB⟩)
 intro L gs w5 hbx hV hall hH hap
 replace hF3 := hF3.oldX hbx (fun h => h)
 replace hF4 := hF4.oldX hbx (fun h => h)
 replace hF5 := hF5.oldX hbx (fun h => h)
 replace hF6 := hF6.oldX hbx (fun h => h)
 replace hF7 := hF7.oldX hbx (fun h => h)
 replace hF8 := hF8.oldX hbx (fun h => h)
 replace hF9 := hF9.oldX hbx (fun h => h)
 replace HB := hbx.below HB HB.size (fun k h => h.elim)
 obtain ⟨g10, hv10, hg10, hF10⟩ := hV 4 (by omega) (by decide) 10 rfl
 obtain ⟨g11, hv11, hg11, hF11⟩ := hV 5 (by omega) (by decide) 11 rfl
 have n10_11 : g10 ≠ g11 := ptr_ne (by rw [← hv10, ← hv11]; exact hap 4 5 10 11 (by omega) (by omega) rfl rfl (by omega) rfl rfl)
 have n11_10 : g11 ≠ g10 := ptr_ne (by rw [← hv11, ← hv10]; exact hap 5 4 11 10 (by omega) (by omega) rfl rfl (by omega) rfl rfl)
 have hs10 := hV 1 (by omega) (by decide) 28 rfl
 have hs11 := hV 3 (by omega) (by decide) 30 rfl
 simp only [List.map_cons, List.map_nil, puts, Act.put, hv10, hv11, List.setIfInBounds_toArray, List.set_cons_zero, List.set_cons_succ, List.drop_succ_cons, List.drop_zero]
 clear hV hall hH hap hbx hv10 hv11
 refine tail_st1 rfl rfl rfl rfl hF10 hs10 (fun w6 hN hc => ?_)
 replace hF3 := hF3.oldX hc (by omega)
 replace hF4 := hF4.oldX hc (by omega)
 replace hF5 := hF5.oldX hc (by omega)
 replace hF6 := hF6.oldX hc (by omega)
 replace hF7 := hF7.oldX hc (by omega)
 replace hF8 := hF8.oldX hc (by omega)
 replace hF9 := hF9.oldX hc (by omega)
 replace hF11 := hF11.oldX hc (by omega)
 clear hF10
 have hF10 := hN
 clear hN
 replace HB := hc.below HB HB.size (fun k hk => by rw [hk]; omega)
 clear hc hs10
 refine tail_st1 rfl rfl rfl rfl hF11 hs11 (fun w7 hN hc => ?_)
 replace hF3 := hF3.oldX hc (by omega)
 replace hF4 := hF4.oldX hc (by omega)
 replace hF5 := hF5.oldX hc (by omega)
 replace hF6 := hF6.oldX hc (by omega)
 replace hF7 := hF7.oldX hc (by omega)
 replace hF8 := hF8.oldX hc (by omega)
 replace hF9 := hF9.oldX hc (by omega)
 replace hF10 := hF10.oldX hc (by omega)
 clear hF11
 have hF11 := hN
 clear hN
 replace HB := hc.below HB HB.size (fun k hk => by rw [hk]; omega)
 clear hc hs11
 clear z3 z4 z5 z6 z7 z8 z9
 refine wpList_nil ?_
 show Exit.then _ _ .normal _ _
 obtain ⟨l, B10, _, _, rfl, ⟨m0, m1, m2, m3, m4, rfl, hE10⟩, rfl⟩ := hF10
 have c10 := B10.cell
 obtain ⟨l, B11, _, _, rfl, ⟨n0, n1, n2, n3, n4, rfl, hE11⟩, rfl⟩ := hF11
 have c11 := B11.cell
 simp only [List.append_nil, List.cons_append, List.nil_append] at c10 c11 B10 B11
 go_wp2_with fail
 refine Calls.mono (Sub_any hE10 hE11 _) ?_
 rintro e w8 ⟨k0, k1, k2, k3, k4, rfl, hk, hb⟩
 replace B10 := B10.old hb
 replace B11 := B11.old hb
 replace hF3 := hF3.old hb
 replace hF4 := hF4.old hb
 replace hF5 := hF5.old hb
 replace hF6 := hF6.old hb
 replace hF7 := hF7.old hb
 replace hF8 := hF8.old hb
 replace hF9 := hF9.old hb
 replace HB := below_from HB hb
 have hF10 := BlkF.of5 B10 hE10
 have hF11 := BlkF.of5 B11 hE11
 clear hb B10 B11 hE10 hE11 c10 c11
 dsimp only
 go_wp2_with fail
 obtain ⟨g12, hg12⟩ : ∃ g, w8.heap.size = g := ⟨_, rfl⟩
 have z3 := hF3.lt
 have z4 := hF4.lt
 have z5 := hF5.lt
 have z6 := hF6.lt
 have z7 := hF7.lt
 have z8 := hF8.lt
 have z9 := hF9.lt
 have z10 := hF10.lt
 have z11 := hF11.lt
 rw [hg12]
 rw [hg12] at z3 z4 z5 z6 z7 z8 z9 z10 z11
 replace hF3 := hF3.alloc (.cells #[.int .u64 k0, .int .u64 k1, .int .u64 k2, .int .u64 k3, .int .u64 k4] 104)
 replace hF4 := hF4.alloc (.cells #[.int .u64 k0, .int .u64 k1, .int .u64 k2, .int .u64 k3, .int .u64 k4] 104)
 replace hF5 := hF5.alloc (.cells #[.int .u64 k0, .int .u64 k1, .int .u64 k2, .int .u64 k3, .int .u64 k4] 104)
 replace hF6 := hF6.alloc (.cells #[.int .u64 k0, .int .u64 k1, .int .u64 k2, .int .u64 k3, .int .u64 k4] 104)
 replace hF7 := hF7.alloc (.cells #[.int .u64 k0, .int .u64 k1, .int .u64 k2, .int .u64 k3, .int .u64 k4] 104)
 replace hF8 := hF8.alloc (.cells #[.int .u64 k0, .int .u64 k1, .int .u64 k2, .int .u64 k3, .int .u64 k4] 104)
 replace hF9 := hF9.alloc (.cells #[.int .u64 k0, .int .u64 k1, .int .u64 k2, .int .u64 k3, .int .u64 k4] 104)
 replace hF10 := hF10.alloc (.cells #[.int .u64 k0, .int .u64 k1, .int .u64 k2, .int .u64 k3, .int .u64 k4] 104)
 replace hF11 := hF11.alloc (.cells #[.int .u64 k0, .int .u64 k1, .int .u64 k2, .int .u64 k3, .int .u64 k4] 104)
 have hF12 := BlkF.of5 (Blk.at (w := w8) #[.int .u64 k0, .int .u64 k1, .int .u64 k2, .int .u64 k3, .int .u64 k4] 104 hg12) hk
 replace HB : Below w.heap.size w (w8.alloc (.cells #[.int .u64 k0, .int .u64 k1, .int .u64 k2, .int .u64 k3, .int .u64 k4] 104)) := HB.alloc HB.size _
 clear hk
 generalize (w8.alloc (.cells #[.int .u64 k0, .int .u64 k1, .int .u64 k2, .int .u64 k3, .int .u64 k4] 104)) = w9 at *
 clear hg12 
 have n12_3 : g12 ≠ g0 := by omega
 have n3_12 : g0 ≠ g12 := by omega
 have n12_4 : g12 ≠ (g0 + 1) := by omega
 have n4_12 : (g0 + 1) ≠ g12 := by omega
 have n12_5 : g12 ≠ (g0 + 1 + 1) := by omega
 have n5_12 : (g0 + 1 + 1) ≠ g12 := by omega
 have n12_6 : g12 ≠ (g0 + 1 + 1 + 1) := by omega
 have n6_12 : (g0 + 1 + 1 + 1) ≠ g12 := by omega
 have n12_7 : g12 ≠ (g0 + 1 + 1 + 1 + 1) := by omega
 have n7_12 : (g0 + 1 + 1 + 1 + 1) ≠ g12 := by omega
 have n12_8 : g12 ≠ g8 := by omega
 have n8_12 : g8 ≠ g12 := by omega
 have n12_9 : g12 ≠ g9 := by omega
 have n9_12 : g9 ≠ g12 := by omega
 have n12_10 : g12 ≠ g10 := by omega
 have n10_12 : g10 ≠ g12 := by omega
 have n12_11 : g12 ≠ g11 := by omega
 have n11_12 : g11 ≠ g12 := by omega
 clear z3 z4 z5 z6 z7 z8 z9 z10 z11
 have z3 := hF3.lt
 have z4 := hF4.lt
 have z5 := hF5.lt
 have z6 := hF6.lt
 have z7 := hF7.lt
 have z8 := hF8.lt
 have z9 := hF9.lt
 have z10 := hF10.lt
 have z11 := hF11.lt
 have z12 := hF12.lt
 have y4 := z7
 refine region_hotV 16 stepS4K (stepS4 (w9.heap.size) px pz qx qz u g0 g10 g11 g12 g8 g9) (fun _ _ => True) (fun _ => False) [34, 35, 36, 37, 38, 39, 40, 41, 42, 43, 44, 45, 46, 47, 13, 14] (by kernel_rfl) (by kernel_rfl) (by kernel_rfl) (by kernel_rfl) (by kernel_rfl) ?_ (fun _ _ _ _ _ => trivial) (fun _ _ _ _ _ => trivial) ?_ trivial (hots_all ?_) ?_
 ·exact fun i w w' v h hb => by revert h; unfold stepS4; split <;> first | exact id | (rintro ⟨g, hv, hg, hB⟩; exact ⟨g, hv, hg, hB.oldX hb (fun h => h)⟩)
 ·exact fun i w v hk h => by unfold stepS4K at hk; split at hk <;> first | (cases hk; done) | (obtain ⟨g, hv, _, hB⟩ := h; exact ⟨g, hv, hB.lt⟩)
 ·simp only [List.take_succ_cons, List.take_zero, HotFrom]
  refine ⟨?_, ?_, ?_, ?_, ?_, ?_, ?_, ?_, ?_, ?_, ?_, ?_, ?_, ?_, ?_, ?_, trivial⟩
  ·refine hot_val rfl rfl (fun L a w' hat => ?_)
   have h0 : a.eval (.tmp 4) = .pointer (some ⟨(g0 + 1), 0, none⟩) := (hat.others 4 (by decide)).trans rfl
   exact out_of (v := .pointer (some ⟨(g0 + 1), 0, none⟩)) (by (generalize a.eval = ev at *); simp [execOp, go_sem, h0]) rfl
  ·refine hot_val rfl rfl (fun L a w' hat => ?_)
   have h0 : a.eval (.tmp 34) = .pointer (some ⟨(g0 + 1), 0, none⟩) := hat.deps ⟨0, .data⟩ (by simp) rfl 34 (by decide) rfl
   exact out_ex (ld1_2_0 rfl h0 (hF4.oldX hat.grow (fun h => h))) (fun u hE => hE)
  ·refine hot_val rfl rfl (fun L a w' hat => ?_)
   have h0 : a.eval (.tmp 4) = .pointer (some ⟨(g0 + 1), 0, none⟩) := (hat.others 4 (by decide)).trans rfl
   exact out_of (v := .pointer (some ⟨(g0 + 1), 5, none⟩)) (by (generalize a.eval = ev at *); simp [execOp, go_sem, h0]) rfl
  ·refine hot_val rfl rfl (fun L a w' hat => ?_)
   have h0 : a.eval (.tmp 36) = .pointer (some ⟨(g0 + 1), 5, none⟩) := hat.deps ⟨2, .data⟩ (by simp) rfl 36 (by decide) rfl
   exact out_ex (ld1_2_1 rfl h0 (hF4.oldX hat.grow (fun h => h))) (fun u hE => hE)
  ·refine hot_val rfl rfl (fun L a w' hat => ?_)
   have h0 : ElV (qx) (a.eval (.tmp 35)) := hat.deps ⟨1, .data⟩ (by simp) rfl 35 (by decide) rfl
   have h1 : ElV (qz) (a.eval (.tmp 37)) := hat.deps ⟨3, .data⟩ (by simp) rfl 37 (by decide) rfl
   exact .inr ⟨_, #[a.eval (.tmp 35), a.eval (.tmp 37)], exec_call Tryz.func122 (by kernel_rfl) (by kernel_rfl) _ rfl _ _ (by simp), Sub_V h0 h1 _⟩
  ·refine hot_val rfl rfl (fun L a w' hat => ?_)
   have h0 : a.eval (.tmp 8) = .pointer (some ⟨g8, 0, none⟩) := (hat.others 8 (by decide)).trans rfl
   exact out_ex (ld1_1_0 rfl h0 (hF8.oldX hat.grow (fun h => h))) (fun u hE => hE)
  ·refine hot_val rfl rfl (fun L a w' hat => ?_)
   have h0 : ElV ((qx) - (qz)) (a.eval (.tmp 38)) := hat.deps ⟨4, .data⟩ (by simp) rfl 38 (by decide) rfl
   have h1 : ElV ((px) + (pz)) (a.eval (.tmp 39)) := hat.deps ⟨5, .data⟩ (by simp) rfl 39 (by decide) rfl
   exact .inr ⟨_, #[a.eval (.tmp 38), a.eval (.tmp 39)], exec_call Tryz.func94 (by kernel_rfl) (by kernel_rfl) _ rfl _ _ (by simp), Mul_V h0 h1 _⟩
  ·refine hot_val rfl rfl (fun L a w' hat => ?_)
   have h0 : a.eval (.tmp 4) = .pointer (some ⟨(g0 + 1), 0, none⟩) := (hat.others 4 (by decide)).trans rfl
   exact out_of (v := .pointer (some ⟨(g0 + 1), 0, none⟩)) (by (generalize a.eval = ev at *); simp [execOp, go_sem, h0]) rfl
  ·refine hot_val rfl rfl (fun L a w' hat => ?_)
   have h0 : a.eval (.tmp 41) = .pointer (some ⟨(g0 + 1), 0, none⟩) := hat.deps ⟨7, .data⟩ (by simp) rfl 41 (by decide) rfl
   exact out_ex (ld1_2_0 rfl h0 (hF4.oldX hat.grow (fun h => h))) (fun u hE => hE)
  ·refine hot_val rfl rfl (fun L a w' hat => ?_)
   have h0 : a.eval (.tmp 4) = .pointer (some ⟨(g0 + 1), 0, none⟩) := (hat.others 4 (by decide)).trans rfl
   exact out_of (v := .pointer (some ⟨(g0 + 1), 5, none⟩)) (by (generalize a.eval = ev at *); simp [execOp, go_sem, h0]) rfl
  ·refine hot_val rfl rfl (fun L a w' hat => ?_)
   have h0 : a.eval (.tmp 43) = .pointer (some ⟨(g0 + 1), 5, none⟩) := hat.deps ⟨9, .data⟩ (by simp) rfl 43 (by decide) rfl
   exact out_ex (ld1_2_1 rfl h0 (hF4.oldX hat.grow (fun h => h))) (fun u hE => hE)
  ·refine hot_val rfl rfl (fun L a w' hat => ?_)
   have h0 : ElV (qx) (a.eval (.tmp 42)) := hat.deps ⟨8, .data⟩ (by simp) rfl 42 (by decide) rfl
   have h1 : ElV (qz) (a.eval (.tmp 44)) := hat.deps ⟨10, .data⟩ (by simp) rfl 44 (by decide) rfl
   exact .inr ⟨_, #[a.eval (.tmp 42), a.eval (.tmp 44)], exec_call Tryz.func121 (by kernel_rfl) (by kernel_rfl) _ rfl _ _ (by simp), Add_V h0 h1 _⟩
  ·refine hot_val rfl rfl (fun L a w' hat => ?_)
   have h0 : a.eval (.tmp 9) = .pointer (some ⟨g9, 0, none⟩) := (hat.others 9 (by decide)).trans rfl
   exact out_ex (ld1_1_0 rfl h0 (hF9.oldX hat.grow (fun h => h))) (fun u hE => hE)
  ·refine hot_val rfl rfl (fun L a w' hat => ?_)
   have h0 : ElV ((qx) + (qz)) (a.eval (.tmp 45)) := hat.deps ⟨11, .data⟩ (by simp) rfl 45 (by decide) rfl
   have h1 : ElV ((px) - (pz)) (a.eval (.tmp 46)) := hat.deps ⟨12, .data⟩ (by simp) rfl 46 (by decide) rfl
   exact .inr ⟨_, #[a.eval (.tmp 45), a.eval (.tmp 46)], exec_call Tryz.func94 (by kernel_rfl) (by kernel_rfl) _ rfl _ _ (by simp), Mul_V h0 h1 _⟩
  ·refine hot_fresh rfl rfl (fun L a w' hat => ?_)
   exact fresh_ex (al1 rfl a w') (fun ob hB => ⟨_, rfl, Nat.le_trans (Nat.le_refl _) hat.grow.size, hB⟩)
  ·refine hot_fresh rfl rfl (fun L a w' hat => ?_)
   exact fresh_ex (al1 rfl a w') (fun ob hB => ⟨_, rfl, Nat.le_trans (Nat.le_refl _) hat.grow.size, hB⟩)
 intro L gs w10 hbx hV hall hH hap
 replace hF3 := hF3.oldX hbx (fun h => h)
 replace hF4 := hF4.oldX hbx (fun h => h)
 replace hF5 := hF5.oldX hbx (fun h => h)
 replace hF6 := hF6.oldX hbx (fun h => h)
 replace hF7 := hF7.oldX hbx (fun h => h)
 replace hF8 := hF8.oldX hbx (fun h => h)
 replace hF9 := hF9.oldX hbx (fun h => h)
 replace hF10 := hF10.oldX hbx (fun h => h)
 replace hF11 := hF11.oldX hbx (fun h => h)
 replace hF12 := hF12.oldX hbx (fun h => h)
 replace HB := hbx.below HB HB.size (fun k h => h.elim)
 obtain ⟨g13, hv13, hg13, hF13⟩ := hV 14 (by omega) (by decide) 13 rfl
 obtain ⟨g14, hv14, hg14, hF14⟩ := hV 15 (by omega) (by decide) 14 rfl
 have n13_14 : g13 ≠ g14 := ptr_ne (by rw [← hv13, ← hv14]; exact hap 14 15 13 14 (by omega) (by omega) rfl rfl (by omega) rfl rfl)
 have n14_13 : g14 ≠ g13 := ptr_ne (by rw [← hv14, ← hv13]; exact hap 15 14 14 13 (by omega) (by omega) rfl rfl (by omega) rfl rfl)
 have hs13 := hV 6 (by omega) (by decide) 40 rfl
 have hs14 := hV 13 (by omega) (by decide) 47 rfl
 simp only [List.map_cons, List.map_nil, puts, Act.put, hv13, hv14, List.setIfInBounds_toArray, List.set_cons_zero, List.set_cons_succ, List.drop_succ_cons, List.drop_zero]
 clear hV hall hH hap hbx hv13 hv14
 refine tail_st1 rfl rfl rfl rfl hF13 hs13 (fun w11 hN hc => ?_)
 replace hF3 := hF3.oldX hc (by omega)
 replace hF4 := hF4.oldX hc (by omega)
 replace hF5 := hF5.oldX hc (by omega)
 replace hF6 := hF6.oldX hc (by omega)
 replace hF7 := hF7.oldX hc (by omega)
 replace hF8 := hF8.oldX hc (by omega)
 replace hF9 := hF9.oldX hc (by omega)
 replace hF10 := hF10.oldX hc (by omega)
 replace hF11 := hF11.oldX hc (by omega)
 replace hF12 := hF12.oldX hc (by omega)
 replace hF14 := hF14.oldX hc (by omega)
 clear hF13
 have hF13 := hN
 clear hN
 replace HB := hc.below HB HB.size (fun k hk => by rw [hk]; omega)
 clear hc hs13
 refine tail_st1 rfl rfl rfl rfl hF14 hs14 (fun w12 hN hc => ?_)
 replace hF3 := hF3.oldX hc (by omega)
 replace hF4 := hF4.oldX hc (by omega)
 replace hF5 := hF5.oldX hc (by omega)
 replace hF6 := hF6.oldX hc (by omega)
 replace hF7 := hF7.oldX hc (by omega)
 replace hF8 := hF8.oldX hc (by omega)
 replace hF9 := hF9.oldX hc (by omega)
 replace hF10 := hF10.oldX hc (by omega)
 replace hF11 := hF11.oldX hc (by omega)
 replace hF12 := hF12.oldX hc (by omega)
 replace hF13 := hF13.oldX hc (by omega)
 clear hF14
 have hF14 := hN
 clear hN
 replace HB := hc.below HB HB.size (fun k hk => by rw [hk]; omega)
 clear hc hs14
 clear z3 z4 z5 z6 z7 z8 z9 z10 z11 z12
 refine wpList_nil ?_
 show Exit.then _ _ .normal _ _
 go_wp2_with fail
 have z3 := hF3.lt
 have z4 := hF4.lt
 have z5 := hF5.lt
 have z6 := hF6.lt
 have z7 := hF7.lt
 have z8 := hF8.lt
 have z9 := hF9.lt
 have z10 := hF10.lt
 have z11 := hF11.lt
 have z12 := hF12.lt
 have z13 := hF13.lt
 have z14 := hF14.lt
 have y5 := z7
 refine region_hotV 12 stepS5K (stepS5 (w12.heap.size) px pz qx qz u g0 g10 g11 g12 g13 g14 g8 g9) (fun _ _ => True) (fun _ => False) [48, 49, 50, 51, 52, 53, 54, 55, 56, 57, 58, 15] (by kernel_rfl) (by kernel_rfl) (by kernel_rfl) (by kernel_rfl) (by kernel_rfl) ?_ (fun _ _ _ _ _ => trivial) (fun _ _ _ _ _ => trivial) ?_ trivial (hots_all ?_) ?_
 ·exact fun i w w' v h hb => by revert h; unfold stepS5; split <;> first | exact id | (rintro ⟨g, hv, hg, hB⟩; exact ⟨g, hv, hg, hB.oldX hb (fun h => h)⟩)
 ·exact fun i w v hk h => by unfold stepS5K at hk; split at hk <;> first | (cases hk; done) | (obtain ⟨g, hv, _, hB⟩ := h; exact ⟨g, hv, hB.lt⟩)
 ·simp only [List.take_succ_cons, List.take_zero, HotFrom]
  refine ⟨?_, ?_, ?_, ?_, ?_, ?_, ?_, ?_, ?_, ?_, ?_, ?_, trivial⟩
  ·refine hot_val rfl rfl (fun L a w' hat => ?_)
   have h0 : a.eval (.tmp 10) = .pointer (some ⟨g10, 0, none⟩) := (hat.others 10 (by decide)).trans rfl
   exact out_ex (ld1_1_0 rfl h0 (hF10.oldX hat.grow (fun h => h))) (fun u hE => hE)
  ·refine hot_val rfl rfl (fun L a w' hat => ?_)
   have h0 : a.eval (.tmp 11) = .pointer (some ⟨g11, 0, none⟩) := (hat.others 11 (by decide)).trans rfl
   exact out_ex (ld1_1_0 rfl h0 (hF11.oldX hat.grow (fun h => h))) (fun u hE => hE)
  ·refine hot_val rfl rfl (fun L a w' hat => ?_)
   have h0 : ElV (((px) + (pz)) * ((px) + (pz))) (a.eval (.tmp 48)) := hat.deps ⟨0, .data⟩ (by simp) rfl 48 (by decide) rfl
   have h1 : ElV (((px) - (pz)) * ((px) - (pz))) (a.eval (.tmp 49)) := hat.deps ⟨1, .data⟩ (by simp) rfl 49 (by decide) rfl
   exact .inr ⟨_, #[a.eval (.tmp 48), a.eval (.tmp 49)], exec_call Tryz.func94 (by kernel_rfl) (by kernel_rfl) _ rfl _ _ (by simp), Mul_V h0 h1 _⟩
  ·refine hot_val rfl rfl (fun L a w' hat => ?_)
   have h0 : a.eval (.tmp 12) = .pointer (some ⟨g12, 0, none⟩) := (hat.others 12 (by decide)).trans rfl
   exact out_ex (ld1_1_0 rfl h0 (hF12.oldX hat.grow (fun h => h))) (fun u hE => hE)
  ·refine hot_val rfl rfl (fun L a w' hat => ?_)
   have h0 : a.eval (.tmp 10) = .pointer (some ⟨g10, 0, none⟩) := (hat.others 10 (by decide)).trans rfl
   exact out_ex (ld1_1_0 rfl h0 (hF10.oldX hat.grow (fun h => h))) (fun u hE => hE)
  ·refine hot_val rfl rfl (fun L a w' hat => ?_)
   have h0 : a.eval (.const (Value.int IntKind.u64 121665)) = .int .u64 121665 := rfl
   exact .inr ⟨_, #[.int .u64 (121665)], exec_call Tryz.func91 (by kernel_rfl) (by kernel_rfl) _ rfl _ _ (by simp [Act.eval]), Of_V _ _ (by omega) (by omega)⟩
  ·refine hot_val rfl rfl (fun L a w' hat => ?_)
   have h0 : a.eval (.tmp 12) = .pointer (some ⟨g12, 0, none⟩) := (hat.others 12 (by decide)).trans rfl
   exact out_ex (ld1_1_0 rfl h0 (hF12.oldX hat.grow (fun h => h))) (fun u hE => hE)
  ·refine hot_val rfl rfl (fun L a w' hat => ?_)
   have h0 : ElV (toF 121665) (a.eval (.tmp 53)) := hat.deps ⟨5, .data⟩ (by simp) rfl 53 (by decide) rfl
   have h1 : ElV ((((px) + (pz)) * ((px) + (pz))) - (((px) - (pz)) * ((px) - (pz)))) (a.eval (.tmp 54)) := hat.deps ⟨6, .data⟩ (by simp) rfl 54 (by decide) rfl
   exact .inr ⟨_, #[a.eval (.tmp 53), a.eval (.tmp 54)], exec_call Tryz.func94 (by kernel_rfl) (by kernel_rfl) _ rfl _ _ (by simp), Mul_V h0 h1 _⟩
  ·refine hot_val rfl rfl (fun L a w' hat => ?_)
   have h0 : ElV (((px) + (pz)) * ((px) + (pz))) (a.eval (.tmp 52)) := hat.deps ⟨4, .data⟩ (by simp) rfl 52 (by decide) rfl
   have h1 : ElV ((toF 121665) * ((((px) + (pz)) * ((px) + (pz))) - (((px) - (pz)) * ((px) - (pz))))) (a.eval (.tmp 55)) := hat.deps ⟨7, .data⟩ (by simp) rfl 55 (by decide) rfl
   exact .inr ⟨_, #[a.eval (.tmp 52), a.eval (.tmp 55)], exec_call Tryz.func121 (by kernel_rfl) (by kernel_rfl) _ rfl _ _ (by simp), Add_V h0 h1 _⟩
  ·refine hot_val rfl rfl (fun L a w' hat => ?_)
   have h0 : ElV ((((px) + (pz)) * ((px) + (pz))) - (((px) - (pz)) * ((px) - (pz)))) (a.eval (.tmp 51)) := hat.deps ⟨3, .data⟩ (by simp) rfl 51 (by decide) rfl
   have h1 : ElV ((((px) + (pz)) * ((px) + (pz))) + ((toF 121665) * ((((px) + (pz)) * ((px) + (pz))) - (((px) - (pz)) * ((px) - (pz)))))) (a.eval (.tmp 56)) := hat.deps ⟨8, .data⟩ (by simp) rfl 56 (by decide) rfl
   exact .inr ⟨_, #[a.eval (.tmp 51), a.eval (.tmp 56)], exec_call Tryz.func94 (by kernel_rfl) (by kernel_rfl) _ rfl _ _ (by simp), Mul_V h0 h1 _⟩
  ·refine hot_val rfl rfl (fun L a w' hat => ?_)
   have h0 : ElV ((((px) + (pz)) * ((px) + (pz))) * (((px) - (pz)) * ((px) - (pz)))) (a.eval (.tmp 50)) := hat.deps ⟨2, .data⟩ (by simp) rfl 50 (by decide) rfl
   have h1 : ElV (((((px) + (pz)) * ((px) + (pz))) - (((px) - (pz)) * ((px) - (pz)))) * ((((px) + (pz)) * ((px) + (pz))) + ((toF 121665) * ((((px) + (pz)) * ((px) + (pz))) - (((px) - (pz)) * ((px) - (pz))))))) (a.eval (.tmp 57)) := hat.deps ⟨9, .data⟩ (by simp) rfl 57 (by decide) rfl
   exact out_ex (bd2 rfl (AgV.one.2 h0) (AgV.one.2 h1)) (fun u hE => hE)
  ·refine hot_fresh rfl rfl (fun L a w' hat => ?_)
   exact fresh_ex (al2 rfl a w') (fun ob hB => ⟨_, rfl, Nat.le_trans (Nat.le_refl _) hat.grow.size, hB⟩)
 intro L gs w13 hbx hV hall hH hap
 replace hF3 := hF3.oldX hbx (fun h => h)
 replace hF4 := hF4.oldX hbx (fun h => h)
 replace hF5 := hF5.oldX hbx (fun h => h)
 replace hF6 := hF6.oldX hbx (fun h => h)
 replace hF7 := hF7.oldX hbx (fun h => h)
 replace hF8 := hF8.oldX hbx (fun h => h)
 replace hF9 := hF9.oldX hbx (fun h => h)
 replace hF10 := hF10.oldX hbx (fun h => h)
 replace hF11 := hF11.oldX hbx (fun h => h)
 replace hF12 := hF12.oldX hbx (fun h => h)
 replace hF13 := hF13.oldX hbx (fun h => h)
 replace hF14 := hF14.oldX hbx (fun h => h)
 replace HB := hbx.below HB HB.size (fun k h => h.elim)
 obtain ⟨g15, hv15, hg15, hF15⟩ := hV 11 (by omega) (by decide) 15 rfl
 have hs15 := hV 10 (by omega) (by decide) 58 rfl
 simp only [List.map_cons, List.map_nil, puts, Act.put, hv15, List.setIfInBounds_toArray, List.set_cons_zero, List.set_cons_succ, List.drop_succ_cons, List.drop_zero]
 clear hV hall hH hap hbx hv15
 refine tail_st2 rfl rfl rfl rfl hF15 hs15 (fun w14 hN hc => ?_)
 replace hF3 := hF3.oldX hc (by omega)
 replace hF4 := hF4.oldX hc (by omega)
 replace hF5 := hF5.oldX hc (by omega)
 replace hF6 := hF6.oldX hc (by omega)
 replace hF7 := hF7.oldX hc (by omega)
 replace hF8 := hF8.oldX hc (by omega)
 replace hF9 := hF9.oldX hc (by omega)
 replace hF10 := hF10.oldX hc (by omega)
 replace hF11 := hF11.oldX hc (by omega)
 replace hF12 := hF12.oldX hc (by omega)
 replace hF13 := hF13.oldX hc (by omega)
 replace hF14 := hF14.oldX hc (by omega)
 clear hF15
 have hF15 := hN
 clear hN
 replace HB := hc.below HB HB.size (fun k hk => by rw [hk]; omega)
 clear hc hs15
 clear z3 z4 z5 z6 z7 z8 z9 z10 z11 z12 z13 z14
 refine wpList_nil ?_
 show Exit.then _ _ .normal _ _
 go_wp2_with fail
 have z3 := hF3.lt
 have z4 := hF4.lt
 have z5 := hF5.lt
 have z6 := hF6.lt
 have z7 := hF7.lt
 have z8 := hF8.lt
 have z9 := hF9.lt
 have z10 := hF10.lt
 have z11 := hF11.lt
 have z12 := hF12.lt
 have z13 := hF13.lt
 have z14 := hF14.lt
 have z15 := hF15.lt
 have y6 := z7
 refine region_hotV 12 stepS6K (stepS6 (w14.heap.size) px pz qx qz u g0 g10 g11 g12 g13 g14 g15 g8 g9) (fun _ _ => True) (fun _ => False) [59, 60, 61, 62, 63, 64, 65, 66, 67, 68, 69, 16] (by kernel_rfl) (by kernel_rfl) (by kernel_rfl) (by kernel_rfl) (by kernel_rfl) ?_ (fun _ _ _ _ _ => trivial) (fun _ _ _ _ _ => trivial) ?_ trivial (hots_all ?_) ?_
 ·exact fun i w w' v h hb => by revert h; unfold stepS6; split <;> first | exact id | (rintro ⟨g, hv, hg, hB⟩; exact ⟨g, hv, hg, hB.oldX hb (fun h => h)⟩)
 ·exact fun i w v hk h => by unfold stepS6K at hk; split at hk <;> first | (cases hk; done) | (obtain ⟨g, hv, _, hB⟩ := h; exact ⟨g, hv, hB.lt⟩)
 ·simp only [List.take_succ_cons, List.take_zero, HotFrom]
  refine ⟨?_, ?_, ?_, ?_, ?_, ?_, ?_, ?_, ?_, ?_, ?_, ?_, trivial⟩
  ·refine hot_val rfl rfl (fun L a w' hat => ?_)
   have h0 : a.eval (.tmp 13) = .pointer (some ⟨g13, 0, none⟩) := (hat.others 13 (by decide)).trans rfl
   exact out_ex (ld1_1_0 rfl h0 (hF13.oldX hat.grow (fun h => h))) (fun u hE => hE)
  ·refine hot_val rfl rfl (fun L a w' hat => ?_)
   have h0 : a.eval (.tmp 14) = .pointer (some ⟨g14, 0, none⟩) := (hat.others 14 (by decide)).trans rfl
   exact out_ex (ld1_1_0 rfl h0 (hF14.oldX hat.grow (fun h => h))) (fun u hE => hE)
  ·refine hot_val rfl rfl (fun L a w' hat => ?_)
   have h0 : ElV (((qx) - (qz)) * ((px) + (pz))) (a.eval (.tmp 59)) := hat.deps ⟨0, .data⟩ (by simp) rfl 59 (by decide) rfl
   have h1 : ElV (((qx) + (qz)) * ((px) - (pz))) (a.eval (.tmp 60)) := hat.deps ⟨1, .data⟩ (by simp) rfl 60 (by decide) rfl
   exact .inr ⟨_, #[a.eval (.tmp 59), a.eval (.tmp 60)], exec_call Tryz.func121 (by kernel_rfl) (by kernel_rfl) _ rfl _ _ (by simp), Add_V h0 h1 _⟩
  ·refine hot_val rfl rfl (fun L a w' hat => ?_)
   have h0 : ElV ((((qx) - (qz)) * ((px) + (pz))) + (((qx) + (qz)) * ((px) - (pz)))) (a.eval (.tmp 61)) := hat.deps ⟨2, .data⟩ (by simp) rfl 61 (by decide) rfl
   exact .inr ⟨_, #[a.eval (.tmp 61)], exec_call Tryz.func123 (by kernel_rfl) (by kernel_rfl) _ rfl _ _ (by simp), square_V h0 _⟩
  ·refine hot_val rfl rfl (fun L a w' hat => ?_)
   have h0 : a.eval (.tmp 5) = .pointer (some ⟨(g0 + 1 + 1), 0, none⟩) := (hat.others 5 (by decide)).trans rfl
   exact out_ex (ld1_1_0 rfl h0 (hF5.oldX hat.grow (fun h => h))) (fun u hE => hE)
  ·refine hot_val rfl rfl (fun L a w' hat => ?_)
   have h0 : a.eval (.tmp 13) = .pointer (some ⟨g13, 0, none⟩) := (hat.others 13 (by decide)).trans rfl
   exact out_ex (ld1_1_0 rfl h0 (hF13.oldX hat.grow (fun h => h))) (fun u hE => hE)
  ·refine hot_val rfl rfl (fun L a w' hat => ?_)
   have h0 : a.eval (.tmp 14) = .pointer (some ⟨g14, 0, none⟩) := (hat.others 14 (by decide)).trans rfl
   exact out_ex (ld1_1_0 rfl h0 (hF14.oldX hat.grow (fun h => h))) (fun u hE => hE)
  ·refine hot_val rfl rfl (fun L a w' hat => ?_)
   have h0 : ElV (((qx) - (qz)) * ((px) + (pz))) (a.eval (.tmp 64)) := hat.deps ⟨5, .data⟩ (by simp) rfl 64 (by decide) rfl
   have h1 : ElV (((qx) + (qz)) * ((px) - (pz))) (a.eval (.tmp 65)) := hat.deps ⟨6, .data⟩ (by simp) rfl 65 (by decide) rfl
   exact .inr ⟨_, #[a.eval (.tmp 64), a.eval (.tmp 65)], exec_call Tryz.func122 (by kernel_rfl) (by kernel_rfl) _ rfl _ _ (by simp), Sub_V h0 h1 _⟩
  ·refine hot_val rfl rfl (fun L a w' hat => ?_)
   have h0 : ElV ((((qx) - (qz)) * ((px) + (pz))) - (((qx) + (qz)) * ((px) - (pz)))) (a.eval (.tmp 66)) := hat.deps ⟨7, .data⟩ (by simp) rfl 66 (by decide) rfl
   exact .inr ⟨_, #[a.eval (.tmp 66)], exec_call Tryz.func123 (by kernel_rfl) (by kernel_rfl) _ rfl _ _ (by simp), square_V h0 _⟩
  ·refine hot_val rfl rfl (fun L a w' hat => ?_)
   have h0 : ElV (u) (a.eval (.tmp 63)) := hat.deps ⟨4, .data⟩ (by simp) rfl 63 (by decide) rfl
   have h1 : ElV (((((qx) - (qz)) * ((px) + (pz))) - (((qx) + (qz)) * ((px) - (pz)))) * ((((qx) - (qz)) * ((px) + (pz))) - (((qx) + (qz)) * ((px) - (pz))))) (a.eval (.tmp 67)) := hat.deps ⟨8, .data⟩ (by simp) rfl 67 (by decide) rfl
   exact .inr ⟨_, #[a.eval (.tmp 63), a.eval (.tmp 67)], exec_call Tryz.func94 (by kernel_rfl) (by kernel_rfl) _ rfl _ _ (by simp), Mul_V h0 h1 _⟩
  ·refine hot_val rfl rfl (fun L a w' hat => ?_)
   have h0 : ElV (((((qx) - (qz)) * ((px) + (pz))) + (((qx) + (qz)) * ((px) - (pz)))) * ((((qx) - (qz)) * ((px) + (pz))) + (((qx) + (qz)) * ((px) - (pz))))) (a.eval (.tmp 62)) := hat.deps ⟨3, .data⟩ (by simp) rfl 62 (by decide) rfl
   have h1 : ElV ((u) * (((((qx) - (qz)) * ((px) + (pz))) - (((qx) + (qz)) * ((px) - (pz)))) * ((((qx) - (qz)) * ((px) + (pz))) - (((qx) + (qz)) * ((px) - (pz)))))) (a.eval (.tmp 68)) := hat.deps ⟨9, .data⟩ (by simp) rfl 68 (by decide) rfl
   exact out_ex (bd2 rfl (AgV.one.2 h0) (AgV.one.2 h1)) (fun u hE => hE)
  ·refine hot_fresh rfl rfl (fun L a w' hat => ?_)
   exact fresh_ex (al2 rfl a w') (fun ob hB => ⟨_, rfl, Nat.le_trans (Nat.le_refl _) hat.grow.size, hB⟩)
 intro L gs w15 hbx hV hall hH hap
 replace hF3 := hF3.oldX hbx (fun h => h)
 replace hF4 := hF4.oldX hbx (fun h => h)
 replace hF5 := hF5.oldX hbx (fun h => h)
 replace hF6 := hF6.oldX hbx (fun h => h)
 replace hF7 := hF7.oldX hbx (fun h => h)
 replace hF8 := hF8.oldX hbx (fun h => h)
 replace hF9 := hF9.oldX hbx (fun h => h)
 replace hF10 := hF10.oldX hbx (fun h => h)
 replace hF11 := hF11.oldX hbx (fun h => h)
 replace hF12 := hF12.oldX hbx (fun h => h)
 replace hF13 := hF13.oldX hbx (fun h => h)
 replace hF14 := hF14.oldX hbx (fun h => h)
 replace hF15 := hF15.oldX hbx (fun h => h)
 replace HB := hbx.below HB HB.size (fun k h => h.elim)
 obtain ⟨g16, hv16, hg16, hF16⟩ := hV 11 (by omega) (by decide) 16 rfl
 have hs16 := hV 10 (by omega) (by decide) 69 rfl
 simp only [List.map_cons, List.map_nil, puts, Act.put, hv16, List.setIfInBounds_toArray, List.set_cons_zero, List.set_cons_succ, List.drop_succ_cons, List.drop_zero]
 clear hV hall hH hap hbx hv16
 refine tail_st2 rfl rfl rfl rfl hF16 hs16 (fun w16 hN hc => ?_)
 replace hF3 := hF3.oldX hc (by omega)
 replace hF4 := hF4.oldX hc (by omega)
 replace hF5 := hF5.oldX hc (by omega)
 replace hF6 := hF6.oldX hc (by omega)
 replace hF7 := hF7.oldX hc (by omega)
 replace hF8 := hF8.oldX hc (by omega)
 replace hF9 := hF9.oldX hc (by omega)
 replace hF10 := hF10.oldX hc (by omega)
 replace hF11 := hF11.oldX hc (by omega)
 replace hF12 := hF12.oldX hc (by omega)
 replace hF13 := hF13.oldX hc (by omega)
 replace hF14 := hF14.oldX hc (by omega)
 replace hF15 := hF15.oldX hc (by omega)
 clear hF16
 have hF16 := hN
 clear hN
 replace HB := hc.below HB HB.size (fun k hk => by rw [hk]; omega)
 clear hc hs16
 clear z3 z4 z5 z6 z7 z8 z9 z10 z11 z12 z13 z14 z15
 refine wpList_nil ?_
 show Exit.then _ _ .normal _ _
 go_wp2_with fail
 have n15_6 : g15 ≠ (g0 + 1 + 1 + 1) := by omega
 have n16_6 : g16 ≠ (g0 + 1 + 1 + 1) := by omega
 have n7_6 : (g0 + 1 + 1 + 1 + 1) ≠ (g0 + 1 + 1 + 1) := by omega
 refine region_hotV 3 stepS7K (stepS7 (w16.heap.size) px pz qx qz u g0 g10 g11 g12 g13 g14 g15 g16 g8 g9) (fun L w => BlkF w (g0 + 1 + 1 + 1) (bif L 2 then [(((px) + (pz)) * ((px) + (pz))) * (((px) - (pz)) * ((px) - (pz))), ((((px) + (pz)) * ((px) + (pz))) - (((px) - (pz)) * ((px) - (pz)))) * ((((px) + (pz)) * ((px) + (pz))) + ((toF 121665) * ((((px) + (pz)) * ((px) + (pz))) - (((px) - (pz)) * ((px) - (pz))))))] else [0, 0]) 109) (fun k => k = (g0 + 1 + 1 + 1)) [70, 71] (by kernel_rfl) (by kernel_rfl) (by kernel_rfl) (by kernel_rfl) (by kernel_rfl) ?_ (fun L w w' h hb => h.old hb) (fun L i w hk h => if e : i = 2 then absurd (by rw [e]; rfl) hk else by (have e2 : (2 == i) = false := (by simp only [beq_eq_false_iff_ne]; omega); show BlkF w _ (bif (L 2 || 2 == i) then _ else _) _; rw [e2, Bool.or_false]; exact h)) ?_ hF6 (hots_all ?_) ?_
 ·exact fun i w w' v h hb => by revert h; unfold stepS7; split <;> first | exact id | (rintro ⟨g, hv, hg, hB⟩; exact ⟨g, hv, hg, hB.oldX hb (fun h => h)⟩)
 ·exact fun i w v hk h => by unfold stepS7K at hk; split at hk <;> first | (cases hk; done) | (obtain ⟨g, hv, _, hB⟩ := h; exact ⟨g, hv, hB.lt⟩)
 ·simp only [List.take_succ_cons, List.take_zero, HotFrom]
  refine ⟨?_, ?_, ?_, trivial⟩
  ·refine hot_val rfl rfl (fun L a w' hat => ?_)
   have h0 : a.eval (.tmp 15) = .pointer (some ⟨g15, 0, none⟩) := (hat.others 15 (by decide)).trans rfl
   exact out_ex (ld2_2_0 rfl h0 (hF15.oldX hat.grow n15_6)) (fun u hE => hE)
  ·refine hot_val rfl rfl (fun L a w' hat => ?_)
   have h0 : a.eval (.tmp 16) = .pointer (some ⟨g16, 0, none⟩) := (hat.others 16 (by decide)).trans rfl
   exact out_ex (ld2_2_0 rfl h0 (hF16.oldX hat.grow n16_6)) (fun u hE => hE)
  ·refine hot_store rfl (fun L a w' hat => ?_)
   have h0 : a.eval (.tmp 6) = .pointer (some ⟨(g0 + 1 + 1 + 1), 0, none⟩) := (hat.others 6 (by decide)).trans rfl
   have h1 : AgV [(((px) + (pz)) * ((px) + (pz))) * (((px) - (pz)) * ((px) - (pz))), ((((px) + (pz)) * ((px) + (pz))) - (((px) - (pz)) * ((px) - (pz)))) * ((((px) + (pz)) * ((px) + (pz))) + ((toF 121665) * ((((px) + (pz)) * ((px) + (pz))) - (((px) - (pz)) * ((px) - (pz))))))] (a.eval (.tmp 70)) := hat.deps ⟨0, .data⟩ (by simp) rfl 70 (by decide) rfl
   obtain ⟨c0, c1, hH⟩ : ∃ c0 c1, BlkF w' (g0 + 1 + 1 + 1) [c0, c1] 109 := by (have hH := hat.hot; cases hL : L 2 <;> simp only [hL] at hH <;> exact ⟨_, _, hH⟩)
   exact hot_ex (st2 rfl h0 hH h1) (fun w'' hN => by show BlkF w'' _ (bif (L 2 || 2 == 2) then _ else _) _; rw [show (L 2 || 2 == 2) = true by simp]; exact hN)
 intro L gs w17 hbx hV hall hH hap
 replace hF7 := hF7.oldX hbx n7_6
 have hN6 : BlkF w17 (g0 + 1 + 1 + 1) [(((px) + (pz)) * ((px) + (pz))) * (((px) - (pz)) * ((px) - (pz))), ((((px) + (pz)) * ((px) + (pz))) - (((px) - (pz)) * ((px) - (pz)))) * ((((px) + (pz)) * ((px) + (pz))) + ((toF 121665) * ((((px) + (pz)) * ((px) + (pz))) - (((px) - (pz)) * ((px) - (pz))))))] 109 := by (have h := hH; simp only [hall 2 (by omega)] at h; exact h)
 replace HB := hbx.below HB HB.size (fun k hk => by rw [hk]; omega)
 have hs7 := hV 1 (by omega) (by decide) 71 rfl
 simp only [List.map_cons, List.map_nil, puts, Act.put, List.setIfInBounds_toArray, List.set_cons_zero, List.set_cons_succ, List.drop_succ_cons, List.drop_zero]
 refine tail_st2 rfl rfl rfl rfl hF7 hs7 (fun w18 hN7 hc => ?_)
 replace hN6 := hN6.oldX hc (by omega)
 replace HB := hc.below HB HB.size (fun k hk => by rw [hk]; omega)
 clear hF6 hF7 hH hall hV hap hbx hc hs7 hF3 hF4 hF5 hF8 hF9 hF10 hF11 hF12 hF13 hF14 hF15 hF16
 obtain ⟨l6, B6, hf6⟩ := hN6
 obtain ⟨l7, B7, hf7⟩ := hN7
 obtain ⟨r0, r1, r2, r3, r4, s0, s1, s2, s3, s4, rfl, hr0, hr1⟩ := FsL.two.1 hf6
 obtain ⟨t0, t1, t2, t3, t4, v0, v1, v2, v3, v4, rfl, hr2, hr3⟩ := FsL.two.1 hf7
 have c6 := B6.cell
 have c7 := B7.cell
 refine wpList_nil ?_
 show Exit.then _ _ .normal _ _
 go_wp2_with fail
 refine bodyPost_ret (v := .tuple #[.agg #[.int .u64 r0, .int .u64 r1, .int .u64 r2, .int .u64 r3, .int .u64 r4, .int .u64 s0, .int .u64 s1, .int .u64 s2, .int .u64 s3, .int .u64 s4], .agg #[.int .u64 t0, .int .u64 t1, .int .u64 t2, .int .u64 t3, .int .u64 t4, .int .u64 v0, .int .u64 v1, .int .u64 v2, .int .u64 v3, .int .u64 v4]]) ?_ rfl ⟨_, _, rfl, ⟨_, rfl, hf6⟩, ⟨_, rfl, hf7⟩, HB⟩
 simp [results, Tryz.results92, go_sem, c6, c7]
end Go.Proofs.YtkhbihnnkflfkaaGreat
/-
 Clamp · Copy · Parse · TwoParse · Str · Mult · Hex · LadEval: WHAT Mult_pl, Base_any NEED OF THEM (printed by sub.py).
-/
namespace Go.Proofs.YtkhbihnnkflfkaaGreat
open Go.RowKit
set_option linter.unusedVariables false
set_option linter.unusedSimpArgs false
set_option maxRecDepth 100000
set_option linter.constructorNameAsVariable false

variable {A : Option Addr} {K c : Nat} {ks xs : List Nat} {u x0 x1 x2 x3 y0 y1 z0 z1 : F}
def clampL (xs : List Nat) : List Nat := (xs.set 0 (xs.getD 0 0 &&& 248)).set 31 (xs.getD 31 0 &&& 127 ||| 64)
theorem bits_clear7 (z : Nat) (h : z < 256) : bits .andNot .u8 (z : Int) 7 = ((z &&& 248 : Nat) : Int) := by
 have : ∀ k : Fin 256, bits .andNot .u8 ((k.val : Nat) : Int) 7 = ((k.val &&& 248 : Nat) : Int) := by decide +kernel
 exact this ⟨z, h⟩
theorem bits_top (z : Nat) (h : z < 256) : bits .or .u8 (bits .and .u8 (z : Int) 127) 64 = ((z &&& 127 ||| 64 : Nat) : Int) := by
 have : ∀ k : Fin 256, bits .or .u8 (bits .and .u8 ((k.val : Nat) : Int) 127) 64 = ((k.val &&& 127 ||| 64 : Nat) : Int) := by decide +kernel
 exact this ⟨z, h⟩
theorem top_lt (z : Nat) (h : z < 256) : z &&& 127 ||| 64 < 256 := Nat.or_lt_two_pow (n := 8) (and_lt z 127 h) (by omega)
set_option maxHeartbeats 1000000 in
theorem Clamp_any (w : World) (hb : Bs w A c xs) (hn : xs.length = 32) :
  Calls Tryz.prog 89 #[.slice A 32 c] w fun e w' => ∃ g c', e = .returned (.tuple #[.slice (some ⟨g, 0, none⟩) 32 c', .int .i64 0]) ∧ Own w' w.heap.size (some ⟨g, 0, none⟩) c' (clampL xs) ∧ Below w.heap.size w w' := by
 obtain ⟨ad, rfl⟩ : ∃ ad, A = some ad := by
  rcases hb.cells with h | ⟨b, off, h, _⟩
  ·subst h; simp at hn
  ·exact ⟨_, h⟩
 have HC := Clone_some w hb hn (by omega)
 have h8 := hb.b8
 have H8 := hidd h8
 have HN := hidd hn
 clear hb hn h8
 go_enter Tryz.func89, Tryz.ntmps89
 go_wp2_with fail
 refine Calls.mono HC ?_
 rintro e w1 ⟨A1, c1, rfl, ho, hb1⟩
 obtain ⟨g, rfl, hg, hgl, hc, hf, hs⟩ := ho.at (by rw [HN.out]; omega)
 obtain ⟨z0, hz0, hz0l⟩ : ∃ z : Nat, xs.getD 0 0 = z ∧ z < 256 := ⟨_, rfl, getD_lt H8.out 0⟩
 obtain ⟨z1, hz1, hz1l⟩ : ∃ z : Nat, xs.getD 31 0 = z ∧ z < 256 := ⟨_, rfl, getD_lt H8.out 31⟩
 have c0 := hc 0 (by rw [HN.out]; omega)
 have c31 := hc 31 (by rw [HN.out]; omega)
 rw [hz0] at c0
 rw [hz1] at c31
 have f0 := hf 0
 have f31 := hf 31
 have HO := hidd hs
 have Z0 := hidd hz0
 have Z1 := hidd hz1
 clear hc hf hs hz0 hz1 ho HC
 dsimp only
 go_wp2_with fail
 go_ret2
 rw [bits_clear7 z0 hz0l, bits_top z1 hz1l]
 have o1 := HO.out 0 (z0 &&& 248) (by rw [HN.out]; omega) (and_lt _ _ hz0l)
 obtain ⟨g', hg', _, _, _, _, hs2⟩ := o1.at (by rw [List.length_set, HN.out]; omega)
 simp only [Option.some.injEq, Addr.mk.injEq, and_true] at hg'
 subst hg'
 have o2 := hs2 31 (z1 &&& 127 ||| 64) (by rw [List.length_set, HN.out]; omega) (top_lt _ hz1l)
 refine ⟨g, c1, rfl, ?_, (hb1.setCell hg _).setCell hg _⟩
 unfold clampL
 rw [Z0.out, Z1.out]
 exact o2
theorem lowN_split (xs : List Nat) (i k : Nat) : lowN xs 0 (i + k) = lowN xs 0 i + 2 ^ (8 * i) * lowN xs i k := by
 induction k with
 | zero => simp [lowN]
 | succ k ih =>
  rw [← Nat.add_assoc]
  simp only [lowN]
  rw [ih, Nat.zero_add, show 8 * (i + k) = 8 * i + 8 * k by omega, Nat.pow_add, Nat.mul_add, Nat.add_assoc]
  congr 1
  rw [Nat.mul_comm (xs.getD (i + k) 0), Nat.mul_assoc, Nat.mul_comm (2 ^ (8 * k))]
theorem lowN_over (xs : List Nat) (n k : Nat) (h : xs.length ≤ n) : lowN xs 0 (n + k) = lowN xs 0 n := by
 induction k with
 | zero => rfl
 | succ k ih =>
  rw [← Nat.add_assoc]
  simp only [lowN]
  rw [ih, List.getD_eq_getElem?_getD, List.getElem?_eq_none (by omega)]
  simp
theorem parse_El (h8 : ∀ x ∈ xs, x < 256) (hl : xs.length = 32) {l0 l1 l2 l3 l4 : Nat} (e0 : l0 = lowN xs 0 8) (e1 : l1 = lowN xs 6 8) (e2 : l2 = lowN xs 12 8) (e3 : l3 = lowN xs 19 8) (e4 : l4 = lowN xs 25 8) :
  El (toF ((lowN xs 0 32 % 57896044618658097711785492504343953926634992332820282019728792003956564819968 : Nat) : Int)) (bits .and .u64 (l0 : Int) 2251799813685247) (bits .and .u64 ((l1 : Int) / 8) 2251799813685247) (bits .and .u64 ((l2 : Int) / 64) 2251799813685247) (bits .and .u64 ((l3 : Int) / 2) 2251799813685247) (bits .and .u64 ((l4 : Int) / 16) 2251799813685247) := by
 have b : ∀ i, lowN xs i 8 < 18446744073709551616 := fun i => lowN_lt h8 i 8
 have b0 := b 0
 have b1 := b 6
 have b2 := b 12
 have b3 := b 19
 have b4 := b 25
 rw [← e0] at b0
 rw [← e1] at b1
 rw [← e2] at b2
 rw [← e3] at b3
 rw [← e4] at b4
 rw [and51 _ (by omega) (by omega), and51 _ (by omega) (by omega), and51 _ (by omega) (by omega), and51 _ (by omega) (by omega), and51 _ (by omega) (by omega)]
 have s0 := lowN_split xs 8 24
 have s1 := lowN_split xs 14 18
 have t1 := lowN_split xs 6 8
 have s2 := lowN_split xs 20 12
 have t2 := lowN_split xs 12 8
 have s3 := lowN_split xs 27 5
 have t3 := lowN_split xs 19 8
 have s4 := lowN_over xs 32 1 (by omega)
 have t4 := lowN_split xs 25 8
 have u1 := lowN_lt h8 0 6
 have u2 := lowN_lt h8 0 12
 have u3 := lowN_lt h8 0 19
 have u4 := lowN_lt h8 0 25
 simp only [Nat.reduceAdd, Nat.reduceMul, Nat.reducePow] at s0 s1 t1 s2 t2 s3 t3 s4 t4 u1 u2 u3 u4
 rw [← e0] at s0
 rw [← e1] at t1
 rw [← e2] at t2
 rw [← e3] at t3
 rw [← e4] at t4
 generalize lowN xs 0 32 = N at *
 generalize lowN xs 8 24 = R0 at *
 generalize lowN xs 14 18 = R1 at *
 generalize lowN xs 20 12 = R2 at *
 generalize lowN xs 27 5 = R3 at *
 clear e0 e1 e2 e3 e4 b h8
 have k0 : (l0 : Int) % 2251799813685248 = ((N % 2251799813685248 : Nat) : Int) := by clear s1 s2 s3 s4 t1 t2 t3 t4; omega
 have k1 : (l1 : Int) / 8 % 2251799813685248 = ((N / 2251799813685248 % 2251799813685248 : Nat) : Int) := by clear s0 s2 s3 s4 t2 t3 t4; omega
 have k2 : (l2 : Int) / 64 % 2251799813685248 = ((N / 5070602400912917605986812821504 % 2251799813685248 : Nat) : Int) := by clear s0 s1 s3 s4 t1 t3 t4; omega
 have k3 : (l3 : Int) / 2 % 2251799813685248 = ((N / 11417981541647679048466287755595961091061972992 % 2251799813685248 : Nat) : Int) := by clear s0 s1 s2 s4 t1 t2 t4; omega
 have k4 : (l4 : Int) / 16 % 2251799813685248 = ((N / 25711008708143844408671393477458601640355247900524685364822016 % 2251799813685248 : Nat) : Int) := by clear s0 s1 s2 s3 t1 t2 t3; omega
 rw [k0, k1, k2, k3, k4]
 clear k0 k1 k2 k3 k4 s0 s1 s2 s3 s4 t1 t2 t3 t4 u1 u2 u3 u4
 refine ⟨by omega, by omega, by omega, by omega, by omega, by omega, by omega, by omega, by omega, by omega, ?_⟩
 congr 1
 unfold S5
 omega
set_option maxHeartbeats 2000000 in
theorem Parse_any (w : World) (ha : Bs w A c xs) (hl : xs.length = 32) :
  Calls Tryz.prog 90 #[.slice A xs.length c] w fun e w' =>
   ∃ r0 r1 r2 r3 r4 : Int, e = .returned (.tuple #[.agg #[.int .u64 r0, .int .u64 r1, .int .u64 r2, .int .u64 r3, .int .u64 r4], .int .i64 0]) ∧ El (toF ((lowN xs 0 32 % 57896044618658097711785492504343953926634992332820282019728792003956564819968 : Nat) : Int)) r0 r1 r2 r3 r4 ∧ Below w.heap.size w w' := by
 have h8 := ha.b8
 have H := fun (W : World) (hb : Below w.heap.size w W) (i : Nat) (hi : i < 4611686018427387904) => Low64_any W (ha.below hb) i hi
 obtain ⟨l0, e0⟩ : ∃ l : Nat, l = lowN xs 0 8 := ⟨_, rfl⟩
 obtain ⟨l1, e1⟩ : ∃ l : Nat, l = lowN xs 6 8 := ⟨_, rfl⟩
 obtain ⟨l2, e2⟩ : ∃ l : Nat, l = lowN xs 12 8 := ⟨_, rfl⟩
 obtain ⟨l3, e3⟩ : ∃ l : Nat, l = lowN xs 19 8 := ⟨_, rfl⟩
 obtain ⟨l4, e4⟩ : ∃ l : Nat, l = lowN xs 25 8 := ⟨_, rfl⟩
 have H0 := fun W hb => H W hb 0 (by omega)
 have H1 := fun W hb => H W hb 6 (by omega)
 have H2 := fun W hb => H W hb 12 (by omega)
 have H3 := fun W hb => H W hb 19 (by omega)
 have H4 := fun W hb => H W hb 25 (by omega)
 rw [hl] at H0 H1 H2 H3 H4
 rw [← e0] at H0
 rw [← e1] at H1
 rw [← e2] at H2
 rw [← e3] at H3
 rw [← e4] at H4
 rw [hl]
 clear H ha
 have E : Hid (l0 = lowN xs 0 8 ∧ l1 = lowN xs 6 8 ∧ l2 = lowN xs 12 8 ∧ l3 = lowN xs 19 8 ∧ l4 = lowN xs 25 8 ∧ xs.length = 32) := ⟨e0, e1, e2, e3, e4, hl⟩
 clear e0 e1 e2 e3 e4 hl
 go_enter Tryz.func90, Tryz.ntmps90
 go_wp2_with fail
 refine wp_loop_rounds 6 ?_
 refine rounds_step ?_
 go_wp2_with fail
 refine Calls.mono (H0 _ (by repeat' first | (with_reducible exact Below.refl _ _) | (with_reducible refine Below.setCell ?_ (by first | (simp; done) | (simp; omega) | omega) _) | (with_reducible refine Below.alloc ?_ (by first | (simp; done) | (simp; omega) | omega) _) | (with_reducible refine Below.drew ?_) | (with_reducible refine Below.trans ?_ (Below.mono (by assumption) (by first | (simp; done) | (simp; omega) | omega))))) ?_
 rintro e w' ⟨rfl, rfl⟩
 dsimp only
 go_wp2_with fail
 refine rounds_step ?_
 go_wp2_with fail
 refine Calls.mono (H1 _ (by repeat' first | (with_reducible exact Below.refl _ _) | (with_reducible refine Below.setCell ?_ (by first | (simp; done) | (simp; omega) | omega) _) | (with_reducible refine Below.alloc ?_ (by first | (simp; done) | (simp; omega) | omega) _) | (with_reducible refine Below.drew ?_) | (with_reducible refine Below.trans ?_ (Below.mono (by assumption) (by first | (simp; done) | (simp; omega) | omega))))) ?_
 rintro e w' ⟨rfl, rfl⟩
 dsimp only
 go_wp2_with fail
 refine rounds_step ?_
 go_wp2_with fail
 refine Calls.mono (H2 _ (by repeat' first | (with_reducible exact Below.refl _ _) | (with_reducible refine Below.setCell ?_ (by first | (simp; done) | (simp; omega) | omega) _) | (with_reducible refine Below.alloc ?_ (by first | (simp; done) | (simp; omega) | omega) _) | (with_reducible refine Below.drew ?_) | (with_reducible refine Below.trans ?_ (Below.mono (by assumption) (by first | (simp; done) | (simp; omega) | omega))))) ?_
 rintro e w' ⟨rfl, rfl⟩
 dsimp only
 go_wp2_with fail
 refine rounds_step ?_
 go_wp2_with fail
 refine Calls.mono (H3 _ (by repeat' first | (with_reducible exact Below.refl _ _) | (with_reducible refine Below.setCell ?_ (by first | (simp; done) | (simp; omega) | omega) _) | (with_reducible refine Below.alloc ?_ (by first | (simp; done) | (simp; omega) | omega) _) | (with_reducible refine Below.drew ?_) | (with_reducible refine Below.trans ?_ (Below.mono (by assumption) (by first | (simp; done) | (simp; omega) | omega))))) ?_
 rintro e w' ⟨rfl, rfl⟩
 dsimp only
 go_wp2_with fail
 refine rounds_step ?_
 go_wp2_with fail
 refine Calls.mono (H4 _ (by repeat' first | (with_reducible exact Below.refl _ _) | (with_reducible refine Below.setCell ?_ (by first | (simp; done) | (simp; omega) | omega) _) | (with_reducible refine Below.alloc ?_ (by first | (simp; done) | (simp; omega) | omega) _) | (with_reducible refine Below.drew ?_) | (with_reducible refine Below.trans ?_ (Below.mono (by assumption) (by first | (simp; done) | (simp; omega) | omega))))) ?_
 rintro e w' ⟨rfl, rfl⟩
 dsimp only
 go_wp2_with fail
 refine rounds_step ?_
 go_wp2_with fail
 refine bodyPost_ret (v := .tuple #[.agg #[.int .u64 (bits .and .u64 (l0 : Int) 2251799813685247), .int .u64 (bits .and .u64 ((l1 : Int) / 8) 2251799813685247), .int .u64 (bits .and .u64 ((l2 : Int) / 64) 2251799813685247), .int .u64 (bits .and .u64 ((l3 : Int) / 2) 2251799813685247), .int .u64 (bits .and .u64 ((l4 : Int) / 16) 2251799813685247)], .int .i64 0]) ?_ rfl ⟨_, _, _, _, _, rfl, ?_, ?_⟩
 ·simp [results, Tryz.results90, go_sem]
 ·clear H0 H1 H2 H3 H4
  obtain ⟨e0, e1, e2, e3, e4, hl⟩ := E.out
  exact parse_El h8 hl e0 e1 e2 e3 e4
 ·repeat' first | (with_reducible exact Below.refl _ _) | (with_reducible refine Below.setCell ?_ (by first | (simp; done) | (simp; omega) | omega) _) | (with_reducible refine Below.alloc ?_ (by first | (simp; done) | (simp; omega) | omega) _) | (with_reducible refine Below.drew ?_) | (with_reducible refine Below.trans ?_ (Below.mono (by assumption) (by first | (simp; done) | (simp; omega) | omega)))
def numL (zs : List Nat) : F := toF ((lowN zs 0 32 % 57896044618658097711785492504343953926634992332820282019728792003956564819968 : Nat) : Int)
theorem byteA_list (N : Nat) : byteA N 255 = (u8s (byteL N)).toArray := by
 simp [byteA, byteL, u8s]
theorem byteL_lt (N : Nat) : ∀ x ∈ byteL N, x < 256 := by
 intro x hx
 obtain ⟨j, _, rfl⟩ := List.mem_map.1 hx
 exact byteOf_lt _ _ _
def kbit (ks : List Nat) (i : Nat) : Nat := ks.getD (i / 8) 0 / 2 ^ (i % 8) % 2
def lad (ks : List Nat) (u : F) : Nat → F × F × F × F
 | 0 => (1, 0, u, 1)
 | K + 1 => match lad ks u K with
  | (x0, z0, x1, z1) => if kbit ks (254 - K) = 0 then (twiceX x0 z0, twiceZ x0 z0, bothX x0 z0 x1 z1, bothZ x0 z0 x1 z1 u) else (bothX x1 z1 x0 z0, bothZ x1 z1 x0 z0 u, twiceX x1 z1, twiceZ x1 z1)
def ladL (ks : List Nat) (u : F) (K : Nat) : List F := match lad ks u K with | (x0, z0, x1, z1) => [x0, z0, x1, z1]
theorem lad_0 (h : lad ks u K = (x0, z0, x1, z1)) (hb : kbit ks (254 - K) = 0) : ladL ks u (K + 1) = [twiceX x0 z0, twiceZ x0 z0, bothX x0 z0 x1 z1, bothZ x0 z0 x1 z1 u] := by
 simp only [ladL, lad, h, hb, if_true]
theorem lad_1 (h : lad ks u K = (x0, z0, x1, z1)) (hb : kbit ks (254 - K) = 1) : ladL ks u (K + 1) = [bothX x1 z1 x0 z0, bothZ x1 z1 x0 z0 u, twiceX x1 z1, twiceZ x1 z1] := by
 simp only [ladL, lad, h, hb]
 rfl
theorem ladL_eq (h : lad ks u K = (x0, z0, x1, z1)) : ladL ks u K = [x0, z0, x1, z1] := by simp only [ladL, h]
def xmul (ks us : List Nat) : F := match lad (clampL ks) (numL us) 255 with | (x0, z0, _, _) => x0 * fi z0
section
variable {ops : Array Oper} {Q : Exit → Act → World → Prop} {o : Oper} {rest : List Oper} {a : Act} {w : World} {x y : Operand} {g : Nat} {T : TypeId}
theorem tail_st2_0 (hg : o.guard = none) (hd : o.dst = none) (ho : o.op = .store 109 x y) (hx : a.eval x = .pointer (some ⟨g, 0, none⟩)) (hF : BlkF w g [x0, x1, x2, x3] T) (hV : AgV [y0, y1] (a.eval y))
  (h : ∀ w', BlkF w' g [y0, y1, x2, x3] T → BelowX (fun k => k = g) w w' → wpList Tryz.prog ops Q rest a w') : wpList Tryz.prog ops Q (o :: rest) a w := by
 obtain ⟨w', hr, h1, h2⟩ := st2_0 ho hx hF hV
 exact tail_skip hg hd hr (h w' h1 h2)
theorem tail_st2_1 (hg : o.guard = none) (hd : o.dst = none) (ho : o.op = .store 109 x y) (hx : a.eval x = .pointer (some ⟨g, 10, none⟩)) (hF : BlkF w g [x0, x1, x2, x3] T) (hV : AgV [y0, y1] (a.eval y))
  (h : ∀ w', BlkF w' g [x0, x1, y0, y1] T → BelowX (fun k => k = g) w w' → wpList Tryz.prog ops Q rest a w') : wpList Tryz.prog ops Q (o :: rest) a w := by
 obtain ⟨w', hr, h1, h2⟩ := st2_1 ho hx hF hV
 exact tail_skip hg hd hr (h w' h1 h2)
end
theorem clampL_length (xs : List Nat) : (clampL xs).length = xs.length := by simp [clampL]
theorem kbit_lt (ks : List Nat) (i : Nat) : kbit ks i = 0 ∨ kbit ks i = 1 := by unfold kbit; omega
theorem bit_val (z m : Nat) (hz : z < 256) (hm : m < 8) : bits .and .u8 ((z : Int) / 2 ^ m) 1 = ((z / 2 ^ m % 2 : Nat) : Int) := by
 have : ∀ (k : Fin 256) (j : Fin 8), bits .and .u8 (((k.val : Nat) : Int) / 2 ^ j.val) 1 = ((k.val / 2 ^ j.val % 2 : Nat) : Int) := by decide +kernel
 exact this ⟨z, hz⟩ ⟨m, hm⟩
theorem Bytes_O {x : F} {u : Value} (hu : ElV x u) (w : World) (B : Nat) (hB : B ≤ w.heap.size) : Calls Tryz.prog 93 #[u] w fun e w' => ∃ r, e = .returned r ∧ OwnV B (byteL x.val) w' r ∧ Below w.heap.size w w' := by
 obtain ⟨a0, a1, a2, a3, a4, rfl, ha⟩ := hu
 refine (Bytes_any ha w).mono fun e w' ⟨g, he, hg, hB', hb⟩ => ⟨_, he, ⟨some ⟨g, 0, none⟩, (byteL x.val).length, by rw [byteL_length], ?_⟩, hb⟩
 rw [byteA_list] at hB'
 exact Own.of_blk hB' (Nat.le_trans hB hg) (byteL_lt _) (by rw [byteL_length]; omega)
theorem byteL_zero (x : F) : decide (byteL x.val = List.replicate 32 0) = decide (x.val = 0) := by
 apply decide_eq_decide.2
 have e0 : byteL 0 = List.replicate 32 0 := by decide +kernel
 constructor
 ·intro h
  rw [← e0] at h
  exact byteL_inj x.lt255 (by decide) h
 ·intro h; rw [h, e0]
def multS5 (B : Nat) (u : F) (g7 : Nat) : Nat → World → Value → Prop
 | 0, _, v => ElV (toF 1) v
 | 1, _, v => ElV (toF 0) v
 | 2, _, v => AgV [toF 1, toF 0] v
 | 3, _, v => ElV (u) v
 | 4, _, v => ElV (toF 1) v
 | 5, _, v => AgV [u, toF 1] v
 | 6, _, v => AgV [toF 1, toF 0, u, toF 1] v
 | 7, w, v => ∃ g, v = .pointer (some ⟨g, 0, none⟩) ∧ B ≤ g ∧ BlkF w g [0, 0, 0, 0] 110
 | _, _, _ => True
def multS5K : Nat → HK
 | 7 => .fresh
 | _ => .val
def multS10a (B : Nat) (x0 z0 x1 z1 u : F) (g7 g9 : Nat) : Nat → World → Value → Prop
 | 0, _, v => v = .int .u8 (0)
 | 1, _, v => v = .int .u8 (0)
 | 2, _, v => v = .int .u8 (1)
 | 3, _, v => v = .int .u8 (0)
 | 4, _, v => v = .pointer (some ⟨g9, 0, none⟩)
 | 5, _, v => AgV [x0, z0] v
 | 6, _, v => v = .int .u8 (0)
 | 7, _, v => v = .int .u8 (1)
 | 8, _, v => v = .pointer (some ⟨g9, 10, none⟩)
 | 9, _, v => AgV [x1, z1] v
 | 10, _, v => ElV (u) v
 | 11, _, v => ∃ v1 v2, v = .tuple #[v1, v2] ∧ AgV [twiceX x0 z0, twiceZ x0 z0] v1 ∧ AgV [bothX x0 z0 x1 z1, bothZ x0 z0 x1 z1 u] v2
 | 12, _, v => ∃ v1 v2, v = .tuple #[v1, v2] ∧ AgV [twiceX x0 z0, twiceZ x0 z0] v1 ∧ AgV [bothX x0 z0 x1 z1, bothZ x0 z0 x1 z1 u] v2
 | 13, _, v => AgV [twiceX x0 z0, twiceZ x0 z0] v
 | 14, _, v => AgV [bothX x0 z0 x1 z1, bothZ x0 z0 x1 z1 u] v
 | 15, _, v => v = .pointer (some ⟨g9, 0, none⟩)
 | 16, _, _ => True
 | _, _, _ => True
def multS10aK : Nat → HK
 | 16 => .hot
 | _ => .val
def multS10b (B : Nat) (x0 z0 x1 z1 u : F) (g7 g9 : Nat) : Nat → World → Value → Prop
 | 0, _, v => v = .int .u8 (1)
 | 1, _, v => v = .int .u8 (1)
 | 2, _, v => v = .int .u8 (0)
 | 3, _, v => v = .int .u8 (1)
 | 4, _, v => v = .pointer (some ⟨g9, 10, none⟩)
 | 5, _, v => AgV [x1, z1] v
 | 6, _, v => v = .int .u8 (1)
 | 7, _, v => v = .int .u8 (0)
 | 8, _, v => v = .pointer (some ⟨g9, 0, none⟩)
 | 9, _, v => AgV [x0, z0] v
 | 10, _, v => ElV (u) v
 | 11, _, v => ∃ v1 v2, v = .tuple #[v1, v2] ∧ AgV [twiceX x1 z1, twiceZ x1 z1] v1 ∧ AgV [bothX x1 z1 x0 z0, bothZ x1 z1 x0 z0 u] v2
 | 12, _, v => ∃ v1 v2, v = .tuple #[v1, v2] ∧ AgV [twiceX x1 z1, twiceZ x1 z1] v1 ∧ AgV [bothX x1 z1 x0 z0, bothZ x1 z1 x0 z0 u] v2
 | 13, _, v => AgV [twiceX x1 z1, twiceZ x1 z1] v
 | 14, _, v => AgV [bothX x1 z1 x0 z0, bothZ x1 z1 x0 z0 u] v
 | 15, _, v => v = .pointer (some ⟨g9, 10, none⟩)
 | 16, _, _ => True
 | _, _, _ => True
def multS10bK : Nat → HK
 | 16 => .hot
 | _ => .val
def multS11 (B : Nat) (x0 z0 x1 z1 : F) (g9 : Nat) : Nat → World → Value → Prop
 | 0, _, v => v = .pointer (some ⟨g9, 0, none⟩)
 | 1, _, v => v = .pointer (some ⟨g9, 0, none⟩)
 | 2, _, v => ElV (x0) v
 | 3, _, v => v = .pointer (some ⟨g9, 0, none⟩)
 | 4, _, v => v = .pointer (some ⟨g9, 5, none⟩)
 | 5, _, v => ElV (z0) v
 | 6, _, v => ElV (fi (z0)) v
 | 7, _, v => ElV ((x0) * (fi (z0))) v
 | 8, w, v => OwnV B (byteL ((x0) * (fi (z0))).val) w v
 | 9, w, v => OwnV B (byteL ((x0) * (fi (z0))).val) w v
 | _, _, _ => True
def multS11K : Nat → HK
 | _ => .val
def MultPost (B : Nat) (r : F) (e : Ending) (w' : World) : Prop :=
 if r.val = 0 then e = .returned (.tuple #[.slice none 0 0, .int .i64 5]) else ∃ A' c', e = .returned (.tuple #[.slice A' 32 c', .int .i64 0]) ∧ Own w' B A' c' (byteL r.val)
set_option maxHeartbeats 8000000 in
theorem Mult_any {B : Option Addr} {d : Nat} {us : List Nat} (w : World) (ha : Bs w A c ks) (hb : Bs w B d us) (hn : ks.length = 32) (hm : us.length = 32) :
  Calls Tryz.prog 59 #[.slice A 32 c, .slice B 32 d] w fun e w' =>
   MultPost w.heap.size (xmul ks us) e w' ∧ Below w.heap.size w w' := by
 have HC := Clamp_any w ha hn
 have HP := fun W (hW : Below w.heap.size w W) => Parse_any W (hb.below hW) hm
 have h8 := hidd ha.b8
 have HN := hidd hn
 have HM := hidd hm
 rw [hm] at HP
 clear ha hb hn hm
 go_enter Tryz.func59, Tryz.ntmps59
 go_wp2_with fail
 refine Calls.mono HC ?_
 rintro e w1 ⟨gk, ck, rfl, ho, hb1⟩
 have HB : Below w.heap.size w w1 := hb1
 obtain ⟨gk', hgk', hbk, hkl, hkc, hkf, -⟩ := ho.at (by rw [clampL_length, HN.out]; omega)
 simp only [Option.some.injEq, Addr.mk.injEq, and_true] at hgk'
 subst hgk'
 obtain ⟨kcur, BK, hkcur⟩ := ho.blk (by rw [clampL_length, HN.out]; omega)
 rw [clampL_length, HN.out] at hkcur
 have HK := hidd hkcur
 clear hkcur
 have HP1 := HP w1 HB
 clear hb1 HC HP ho hkc hkf
 dsimp only
 go_wp2_with fail
 refine Calls.mono HP1 ?_
 rintro e w2 ⟨u0, u1, u2, u3, u4, rfl, hu, hb2⟩
 obtain ⟨u, HU⟩ : ∃ u : F, Hid (numL us = u) := ⟨_, rfl⟩
 change El (numL us) u0 u1 u2 u3 u4 at hu
 rw [HU.out] at hu
 replace BK := BK.old hb2
 replace HB := below_from HB hb2
 clear hb2 HP1
 dsimp only
 go_wp2_with fail
 obtain ⟨g7, hg7⟩ : ∃ g, w2.heap.size = g := ⟨_, rfl⟩
 have nk7 : gk < g7 := by rw [← hg7]; exact BK.lt
 have hF7 : BlkF (w2.alloc (.cells #[.int .u64 u0, .int .u64 u1, .int .u64 u2, .int .u64 u3, .int .u64 u4] 104)) g7 [u] 104 := BlkF.of5 (Blk.at _ _ hg7) hu
 replace BK := BK.alloc (.cells #[.int .u64 u0, .int .u64 u1, .int .u64 u2, .int .u64 u3, .int .u64 u4] 104)
 have hg7w : w.heap.size ≤ g7 := by rw [← hg7]; exact HB.size
 replace HB := HB.alloc HB.size (.cells #[.int .u64 u0, .int .u64 u1, .int .u64 u2, .int .u64 u3, .int .u64 u4] 104)
 rw [hg7]
 generalize (w2.alloc (.cells #[.int .u64 u0, .int .u64 u1, .int .u64 u2, .int .u64 u3, .int .u64 u4] 104)) = w4 at *
 clear hg7
 have z7 := hF7.lt
 refine region_hotV 8 multS5K (multS5 (w4.heap.size) u g7) (fun _ _ => True) (fun _ => False) [29, 30, 31, 32, 33, 34, 35, 9] (by kernel_rfl) (by kernel_rfl) (by kernel_rfl) (by kernel_rfl) (by kernel_rfl) ?_ (fun _ _ _ _ _ => trivial) (fun _ _ _ _ _ => trivial) ?_ trivial (hots_all ?_) ?_
 ·exact fun i w w' v h hb => by revert h; unfold multS5; split <;> first | exact id | (rintro ⟨g, hv, hg, hB⟩; exact ⟨g, hv, hg, hB.oldX hb (fun h => h)⟩) | (exact fun h => h.old hb.none)
 ·exact fun i w v hk h => by unfold multS5K at hk; split at hk <;> first | (cases hk; done) | (obtain ⟨g, hv, _, hB⟩ := h; exact ⟨g, hv, hB.lt⟩)
 ·simp only [List.take_succ_cons, List.take_zero, HotFrom]
  refine ⟨?_, ?_, ?_, ?_, ?_, ?_, ?_, ?_, trivial⟩
  ·refine hot_val rfl rfl (fun L a w' hat => ?_)
   have h0 : a.eval (.const (Value.int IntKind.u64 1)) = .int .u64 1 := rfl
   exact .inr ⟨_, #[.int .u64 (1)], exec_call Tryz.func91 (by kernel_rfl) (by kernel_rfl) _ rfl _ _ (by simp [Act.eval]), Of_V _ _ (by omega) (by omega)⟩
  ·refine hot_val rfl rfl (fun L a w' hat => ?_)
   have h0 : a.eval (.const (Value.int IntKind.u64 0)) = .int .u64 0 := rfl
   exact .inr ⟨_, #[.int .u64 (0)], exec_call Tryz.func91 (by kernel_rfl) (by kernel_rfl) _ rfl _ _ (by simp [Act.eval]), Of_V _ _ (by omega) (by omega)⟩
  ·refine hot_val rfl rfl (fun L a w' hat => ?_)
   have h0 : ElV (toF 1) (a.eval (.tmp 29)) := hat.deps ⟨0, .data⟩ (by simp) rfl 29 (by decide) rfl
   have h1 : ElV (toF 0) (a.eval (.tmp 30)) := hat.deps ⟨1, .data⟩ (by simp) rfl 30 (by decide) rfl
   exact out_ex (bd2 rfl (AgV.one.2 h0) (AgV.one.2 h1)) (fun u hE => hE)
  ·refine hot_val rfl rfl (fun L a w' hat => ?_)
   have h0 : a.eval (.tmp 7) = .pointer (some ⟨g7, 0, none⟩) := (hat.others 7 (by decide)).trans rfl
   exact out_ex (ld1_1_0 rfl h0 (hF7.oldX hat.grow (fun h => h))) (fun u hE => hE)
  ·refine hot_val rfl rfl (fun L a w' hat => ?_)
   have h0 : a.eval (.const (Value.int IntKind.u64 1)) = .int .u64 1 := rfl
   exact .inr ⟨_, #[.int .u64 (1)], exec_call Tryz.func91 (by kernel_rfl) (by kernel_rfl) _ rfl _ _ (by simp [Act.eval]), Of_V _ _ (by omega) (by omega)⟩
  ·refine hot_val rfl rfl (fun L a w' hat => ?_)
   have h0 : ElV (u) (a.eval (.tmp 32)) := hat.deps ⟨3, .data⟩ (by simp) rfl 32 (by decide) rfl
   have h1 : ElV (toF 1) (a.eval (.tmp 33)) := hat.deps ⟨4, .data⟩ (by simp) rfl 33 (by decide) rfl
   exact out_ex (bd2 rfl (AgV.one.2 h0) (AgV.one.2 h1)) (fun u hE => hE)
  ·refine hot_val rfl rfl (fun L a w' hat => ?_)
   have h0 : AgV [toF 1, toF 0] (a.eval (.tmp 31)) := hat.deps ⟨2, .data⟩ (by simp) rfl 31 (by decide) rfl
   have h1 : AgV [u, toF 1] (a.eval (.tmp 34)) := hat.deps ⟨5, .data⟩ (by simp) rfl 34 (by decide) rfl
   exact out_ex (bd4 rfl h0 h1) (fun u hE => hE)
  ·refine hot_fresh rfl rfl (fun L a w' hat => ?_)
   exact fresh_ex (al4 rfl a w') (fun ob hB => ⟨_, rfl, Nat.le_trans (Nat.le_refl _) hat.grow.size, hB⟩)
 ·intro L gs w5 hbx hV hall hH hap
  replace hF7 := hF7.oldX hbx (fun h => h)
  replace BK := hbx.blk BK (fun h => h)
  replace HB := hbx.below HB HB.size (fun k h => h.elim)
  obtain ⟨g9, hv9, hg9, hF9⟩ := hV 7 (by omega) (by decide) 9 rfl
  have hs9 := hV 6 (by omega) (by decide) 35 rfl
  have n79 : g7 ≠ g9 := by omega
  have nk9 : gk ≠ g9 := by omega
  replace hg9 : w.heap.size ≤ g9 := by omega
  simp only [List.map_cons, List.map_nil, puts, Act.put, hv9, List.setIfInBounds_toArray, List.set_cons_zero, List.set_cons_succ, List.drop_succ_cons, List.drop_zero]
  clear hV hall hH hap hbx hv9
  refine tail_st4 rfl rfl rfl rfl hF9 hs9 (fun w6 hN hc => ?_)
  replace hF7 := hF7.oldX hc n79
  replace BK := hc.blk BK nk9
  replace HB := hc.below HB HB.size (fun k hk => by rw [hk]; exact hg9)
  clear hF9 hc hs9
  have hF9 : BlkF w6 g9 (ladL (clampL ks) u 0) 110 := by
   have e1 : toF 1 = 1 := toF_one
   have e0 : toF 0 = 0 := toF_zero
   rw [e1, e0] at hN
   exact hN
  clear hN z7
  refine wpList_nil ?_
  show Exit.then _ _ .normal _ _
  go_wp2_with fail
  go_loopw [10] (fun i wr => ∃ K : Nat, i = .int .i64 (254 - (K : Int)) ∧ K ≤ 255 ∧ BlkF wr g9 (ladL (clampL ks) u K) 110 ∧ BlkF wr g7 [u] 104 ∧ Blk wr gk kcur 5 ∧ Below w.heap.size w wr) (fun i _ => (intOf i + 1).toNat)
  case atStart => exact ⟨0, rfl, by omega, hF9, hF7, BK, HB⟩
  case round =>
   obtain ⟨K, rfl, hK, hF9, hF7, BK, HW⟩ := hrel
   obtain ⟨x0, z0, x1, z1, hlad⟩ : ∃ x0 z0 x1 z1, lad (clampL ks) u K = (x0, z0, x1, z1) := ⟨_, _, _, _, rfl⟩
   rw [ladL_eq hlad] at hF9
   have HL := hidd hlad
   clear hlad
   by_cases hlt : K < 255
   ·have hI : ((254 : Int) - (K : Int) ≥ 0) := by omega
    obtain ⟨j, ej⟩ : ∃ j : Nat, ((254 : Int) - (K : Int)) / 8 = (j : Int) := ⟨(254 - K) / 8, by omega⟩
    obtain ⟨m, em⟩ : ∃ m : Nat, ((254 : Int) - (K : Int)).tmod 8 = (m : Int) := ⟨(254 - K) % 8, by rw [Int.tmod_eq_emod_of_nonneg (by omega)]; omega⟩
    have ej2 : Hid ((254 - K) / 8 = j) := by show _ = _; omega
    have em2 : Hid ((254 - K) % 8 = m) := by show _ = _; rw [Int.tmod_eq_emod_of_nonneg (by omega)] at em; omega
    have hj : j < 32 := by have := ej2.out; omega
    have hm : m < 8 := by have := em2.out; omega
    have hjI : (j : Int) < 32 := by omega
    have hmI : (m : Int) < 8 := by omega
    have ejt : ((254 : Int) - (K : Int)).tdiv 8 = (j : Int) := by rw [Int.tdiv_eq_ediv_of_nonneg (by omega)]; exact ej
    obtain ⟨z, hz, hz8⟩ : ∃ z : Nat, (clampL ks).getD j 0 = z ∧ z < 256 := ⟨_, rfl, getD_lt (by
     intro x hx
     unfold clampL at hx
     rcases List.mem_or_eq_of_mem_set hx with h | h
     ·rcases List.mem_or_eq_of_mem_set h with h | h
      ·exact h8.out x h
      ·rw [h]; exact and_lt _ _ (getD_lt h8.out 0)
     ·rw [h]; exact top_lt _ (getD_lt h8.out 31)) j⟩
    have hcz : wr.cell? ⟨gk, j, none⟩ = some (.int .u8 (z : Int)) := by rw [BK.cell, HK.out j hj, hz]
    have HZ := hidd hz
    clear hz
    go_wp2_with fail
    have hbit : kbit (clampL ks) (254 - K) = z / 2 ^ m % 2 := by unfold kbit; rw [ej2.out, em2.out, HZ.out]
    rw [bit_val z m hz8 hm]
    rcases kbit_lt (clampL ks) (254 - K) with hb0 | hb0
    ·have hb := hidd hb0
     have e0 : ((z / 2 ^ m % 2 : Nat) : Int) = 0 := by omega
     rw [e0]
     clear hb0 hbit e0 hcz ejt hI ej em hjI hmI
     refine region_hotV 17 multS10aK (multS10a (wr.heap.size) x0 z0 x1 z1 u g7 g9) (fun L w => BlkF w g9 (bif L 16 then [twiceX x0 z0, twiceZ x0 z0, x1, z1] else [x0, z0, x1, z1]) 110) (fun k => k = g9) [50, 51, 52, 53, 54, 55, 56, 57, 58, 59, 60, 61, 49, 62, 63, 64] (by kernel_rfl) (by kernel_rfl) (by kernel_rfl) (by kernel_rfl) (by kernel_rfl) ?_ (fun L w w' h hb => h.old hb) (fun L i w hk h => if e : i = 16 then absurd (by rw [e]; rfl) hk else by (have e2 : (16 == i) = false := (by simp only [beq_eq_false_iff_ne]; omega); show BlkF w _ (bif (L 16 || 16 == i) then _ else _) _; rw [e2, Bool.or_false]; exact h)) ?_ hF9 (hots_all ?_) ?_
     ·exact fun i w w' v h hb => by revert h; unfold multS10a; split <;> first | exact id | (rintro ⟨g, hv, hg, hB⟩; exact ⟨g, hv, hg, hB.oldX hb (fun h => h)⟩) | (exact fun h => h.old hb.none)
     ·exact fun i w v hk h => by unfold multS10aK at hk; split at hk <;> first | (cases hk; done) | (obtain ⟨g, hv, _, hB⟩ := h; exact ⟨g, hv, hB.lt⟩)
     ·simp only [List.take_succ_cons, List.take_zero, HotFrom]
      refine ⟨?_, ?_, ?_, ?_, ?_, ?_, ?_, ?_, ?_, ?_, ?_, ?_, ?_, ?_, ?_, ?_, ?_, trivial⟩
      ·refine hot_val rfl rfl (fun L a w' hat => ?_)
       have h0 : a.eval (.tmp 11) = .int .u8 (0) := (hat.others 11 (by decide)).trans rfl
       exact out_of rfl h0
      ·refine hot_val rfl rfl (fun L a w' hat => ?_)
       have h0 : a.eval (.tmp 11) = .int .u8 (0) := (hat.others 11 (by decide)).trans rfl
       exact out_of rfl h0
      ·refine hot_val rfl rfl (fun L a w' hat => ?_)
       have h0 : a.eval (.const (Value.int IntKind.u8 1)) = .int .u8 1 := rfl
       have h1 : a.eval (.tmp 51) = .int .u8 (0) := hat.deps ⟨1, .data⟩ (by simp) rfl 51 (by decide) rfl
       exact out_of (v := .int .u8 (1)) (by (generalize a.eval = ev at *); simp [execOp, go_sem, h0, h1] <;> rfl) rfl
      ·refine hot_val rfl rfl (fun L a w' hat => ?_)
       have h0 : a.eval (.tmp 11) = .int .u8 (0) := (hat.others 11 (by decide)).trans rfl
       exact out_of rfl h0
      ·refine hot_val rfl rfl (fun L a w' hat => ?_)
       have h0 : a.eval (.tmp 9) = .pointer (some ⟨g9, 0, none⟩) := (hat.others 9 (by decide)).trans rfl
       have h1 : a.eval (.tmp 53) = .int .u8 (0) := hat.deps ⟨3, .data⟩ (by simp) rfl 53 (by decide) rfl
       exact out_of (v := .pointer (some ⟨g9, 0, none⟩)) (by (generalize a.eval = ev at *); simp [execOp, go_sem, h0, h1] <;> rfl) rfl
      ·refine hot_val rfl rfl (fun L a w' hat => ?_)
       have h0 : a.eval (.tmp 54) = .pointer (some ⟨g9, 0, none⟩) := hat.deps ⟨4, .data⟩ (by simp) rfl 54 (by decide) rfl
       exact out_ex (ld2_4_0 rfl h0 (by (have h := hat.hot; simp only [hat.later 16 _ rfl (by kernel_rfl)] at h; exact h))) (fun u hE => hE)
      ·refine hot_val rfl rfl (fun L a w' hat => ?_)
       have h0 : a.eval (.tmp 11) = .int .u8 (0) := (hat.others 11 (by decide)).trans rfl
       exact out_of rfl h0
      ·refine hot_val rfl rfl (fun L a w' hat => ?_)
       have h0 : a.eval (.const (Value.int IntKind.u8 1)) = .int .u8 1 := rfl
       have h1 : a.eval (.tmp 56) = .int .u8 (0) := hat.deps ⟨6, .data⟩ (by simp) rfl 56 (by decide) rfl
       exact out_of (v := .int .u8 (1)) (by (generalize a.eval = ev at *); simp [execOp, go_sem, h0, h1] <;> rfl) rfl
      ·refine hot_val rfl rfl (fun L a w' hat => ?_)
       have h0 : a.eval (.tmp 9) = .pointer (some ⟨g9, 0, none⟩) := (hat.others 9 (by decide)).trans rfl
       have h1 : a.eval (.tmp 57) = .int .u8 (1) := hat.deps ⟨7, .data⟩ (by simp) rfl 57 (by decide) rfl
       exact out_of (v := .pointer (some ⟨g9, 10, none⟩)) (by (generalize a.eval = ev at *); simp [execOp, go_sem, h0, h1] <;> rfl) rfl
      ·refine hot_val rfl rfl (fun L a w' hat => ?_)
       have h0 : a.eval (.tmp 58) = .pointer (some ⟨g9, 10, none⟩) := hat.deps ⟨8, .data⟩ (by simp) rfl 58 (by decide) rfl
       exact out_ex (ld2_4_1 rfl h0 (by (have h := hat.hot; simp only [hat.later 16 _ rfl (by kernel_rfl)] at h; exact h))) (fun u hE => hE)
      ·refine hot_val rfl rfl (fun L a w' hat => ?_)
       have h0 : a.eval (.tmp 7) = .pointer (some ⟨g7, 0, none⟩) := (hat.others 7 (by decide)).trans rfl
       exact out_ex (ld1_1_0 rfl h0 (hF7.oldX hat.grow n79)) (fun u hE => hE)
      ·refine hot_val rfl rfl (fun L a w' hat => ?_)
       have h0 : AgV [x0, z0] (a.eval (.tmp 55)) := hat.deps ⟨5, .data⟩ (by simp) rfl 55 (by decide) rfl
       have h1 : AgV [x1, z1] (a.eval (.tmp 59)) := hat.deps ⟨9, .data⟩ (by simp) rfl 59 (by decide) rfl
       have h2 : ElV (u) (a.eval (.tmp 60)) := hat.deps ⟨10, .data⟩ (by simp) rfl 60 (by decide) rfl
       exact .inr ⟨_, #[a.eval (.tmp 55), a.eval (.tmp 59), a.eval (.tmp 60)], exec_call Tryz.func92 (by kernel_rfl) (by kernel_rfl) _ rfl _ _ (by simp), (step_V h0 h1 h2 _).mono (fun e w'' ⟨r1, r2, he, h1, h2, hb⟩ => ⟨_, he, ⟨r1, r2, rfl, h1, h2⟩, hb⟩)⟩
      ·refine hot_val rfl rfl (fun L a w' hat => ?_)
       have h0 : ∃ v1 v2, a.eval (.tmp 61) = .tuple #[v1, v2] ∧ AgV [twiceX x0 z0, twiceZ x0 z0] v1 ∧ AgV [bothX x0 z0 x1 z1, bothZ x0 z0 x1 z1 u] v2 := hat.deps ⟨11, .data⟩ (by simp) rfl 61 (by decide) rfl
       exact out_of rfl h0
      ·refine hot_val rfl rfl (fun L a w' hat => ?_)
       have h0 : ∃ v1 v2, a.eval (.tmp 49) = .tuple #[v1, v2] ∧ AgV [twiceX x0 z0, twiceZ x0 z0] v1 ∧ AgV [bothX x0 z0 x1 z1, bothZ x0 z0 x1 z1 u] v2 := hat.deps ⟨12, .data⟩ (by simp) rfl 49 (by decide) rfl
       obtain ⟨v1, v2, hv, hv1, hv2⟩ := h0
       exact out_of (v := v1) (by (generalize a.eval = ev at *); simp [execOp, go_sem, hv] <;> rfl) hv1
      ·refine hot_val rfl rfl (fun L a w' hat => ?_)
       have h0 : ∃ v1 v2, a.eval (.tmp 49) = .tuple #[v1, v2] ∧ AgV [twiceX x0 z0, twiceZ x0 z0] v1 ∧ AgV [bothX x0 z0 x1 z1, bothZ x0 z0 x1 z1 u] v2 := hat.deps ⟨12, .data⟩ (by simp) rfl 49 (by decide) rfl
       obtain ⟨v1, v2, hv, hv1, hv2⟩ := h0
       exact out_of (v := v2) (by (generalize a.eval = ev at *); simp [execOp, go_sem, hv] <;> rfl) hv2
      ·refine hot_val rfl rfl (fun L a w' hat => ?_)
       have h0 : a.eval (.tmp 9) = .pointer (some ⟨g9, 0, none⟩) := (hat.others 9 (by decide)).trans rfl
       have h1 : a.eval (.tmp 50) = .int .u8 (0) := hat.deps ⟨0, .data⟩ (by simp) rfl 50 (by decide) rfl
       exact out_of (v := .pointer (some ⟨g9, 0, none⟩)) (by (generalize a.eval = ev at *); simp [execOp, go_sem, h0, h1] <;> rfl) rfl
      ·refine hot_store rfl (fun L a w' hat => ?_)
       have h0 : a.eval (.tmp 64) = .pointer (some ⟨g9, 0, none⟩) := hat.deps ⟨15, .data⟩ (by simp) rfl 64 (by decide) rfl
       have h1 : AgV [twiceX x0 z0, twiceZ x0 z0] (a.eval (.tmp 62)) := hat.deps ⟨13, .data⟩ (by simp) rfl 62 (by decide) rfl
       obtain ⟨c0, c1, hH⟩ : ∃ c0 c1, BlkF w' g9 [c0, c1, x1, z1] 110 := by (have hH := hat.hot; cases hL : L 16 <;> simp only [hL] at hH <;> exact ⟨_, _, hH⟩)
       exact hot_ex (st2_0 rfl h0 hH h1) (fun w'' hN => by show BlkF w'' _ (bif (L 16 || 16 == 16) then _ else _) _; rw [show (L 16 || 16 == 16) = true by simp]; exact hN)
     ·intro L gs w8 hbx hV hall hH hap
      replace hF7 := hF7.oldX hbx n79
      replace BK := hbx.blk BK nk9
      have hN9 : BlkF w8 g9 [twiceX x0 z0, twiceZ x0 z0, x1, z1] 110 := by (have h := hH; simp only [hall 16 (by omega)] at h; exact h)
      replace HW := hbx.below HW HW.size (fun k hk => by rw [hk]; exact hg9)
      have hi2 := hV 2 (by omega) (by decide) 52 rfl
      have hs2 := hV 14 (by omega) (by decide) 63 rfl
      simp only [List.map_cons, List.map_nil, puts, Act.put, List.setIfInBounds_toArray, List.set_cons_zero, List.set_cons_succ, List.drop_succ_cons, List.drop_zero]
      rw [show gs 52 = .int .u8 1 from hi2]
      refine tail_val (v := .pointer (some ⟨g9, 10, none⟩)) rfl (by simp [execOp, go_sem]) ?_
      simp only [Act.put, List.setIfInBounds_toArray, List.set_cons_zero, List.set_cons_succ, List.drop_succ_cons, List.drop_zero]
      refine tail_st2_1 rfl rfl rfl rfl hN9 hs2 (fun w9 hN hc => ?_)
      replace hF7 := hF7.oldX hc n79
      replace BK := hc.blk BK nk9
      replace HW := hc.below HW HW.size (fun k hk => by rw [hk]; exact hg9)
      clear hF9 hH hall hV hap hbx hc hs2 hi2 hN9
      refine wpList_nil ?_
      try (show Exit.then _ _ .normal _ _)
      go_wp2_with fail
      go_roundw
      case rel => exact ⟨K + 1, i_next K, by omega, by (rw [lad_0 HL.out hb.out]; exact hN), hF7, BK, HW⟩
      case measure => first | (simp [intOf]; done) | (simp [intOf]; omega)
    ·have hb := hidd hb0
     have e0 : ((z / 2 ^ m % 2 : Nat) : Int) = 1 := by omega
     rw [e0]
     clear hb0 hbit e0 hcz ejt hI ej em hjI hmI
     refine region_hotV 17 multS10bK (multS10b (wr.heap.size) x0 z0 x1 z1 u g7 g9) (fun L w => BlkF w g9 (bif L 16 then [x0, z0, twiceX x1 z1, twiceZ x1 z1] else [x0, z0, x1, z1]) 110) (fun k => k = g9) [50, 51, 52, 53, 54, 55, 56, 57, 58, 59, 60, 61, 49, 62, 63, 64] (by kernel_rfl) (by kernel_rfl) (by kernel_rfl) (by kernel_rfl) (by kernel_rfl) ?_ (fun L w w' h hb => h.old hb) (fun L i w hk h => if e : i = 16 then absurd (by rw [e]; rfl) hk else by (have e2 : (16 == i) = false := (by simp only [beq_eq_false_iff_ne]; omega); show BlkF w _ (bif (L 16 || 16 == i) then _ else _) _; rw [e2, Bool.or_false]; exact h)) ?_ hF9 (hots_all ?_) ?_
     ·exact fun i w w' v h hb => by revert h; unfold multS10b; split <;> first | exact id | (rintro ⟨g, hv, hg, hB⟩; exact ⟨g, hv, hg, hB.oldX hb (fun h => h)⟩) | (exact fun h => h.old hb.none)
     ·exact fun i w v hk h => by unfold multS10bK at hk; split at hk <;> first | (cases hk; done) | (obtain ⟨g, hv, _, hB⟩ := h; exact ⟨g, hv, hB.lt⟩)
     ·simp only [List.take_succ_cons, List.take_zero, HotFrom]
      refine ⟨?_, ?_, ?_, ?_, ?_, ?_, ?_, ?_, ?_, ?_, ?_, ?_, ?_, ?_, ?_, ?_, ?_, trivial⟩
      ·refine hot_val rfl rfl (fun L a w' hat => ?_)
       have h0 : a.eval (.tmp 11) = .int .u8 (1) := (hat.others 11 (by decide)).trans rfl
       exact out_of rfl h0
      ·refine hot_val rfl rfl (fun L a w' hat => ?_)
       have h0 : a.eval (.tmp 11) = .int .u8 (1) := (hat.others 11 (by decide)).trans rfl
       exact out_of rfl h0
      ·refine hot_val rfl rfl (fun L a w' hat => ?_)
       have h0 : a.eval (.const (Value.int IntKind.u8 1)) = .int .u8 1 := rfl
       have h1 : a.eval (.tmp 51) = .int .u8 (1) := hat.deps ⟨1, .data⟩ (by simp) rfl 51 (by decide) rfl
       exact out_of (v := .int .u8 (0)) (by (generalize a.eval = ev at *); simp [execOp, go_sem, h0, h1] <;> rfl) rfl
      ·refine hot_val rfl rfl (fun L a w' hat => ?_)
       have h0 : a.eval (.tmp 11) = .int .u8 (1) := (hat.others 11 (by decide)).trans rfl
       exact out_of rfl h0
      ·refine hot_val rfl rfl (fun L a w' hat => ?_)
       have h0 : a.eval (.tmp 9) = .pointer (some ⟨g9, 0, none⟩) := (hat.others 9 (by decide)).trans rfl
       have h1 : a.eval (.tmp 53) = .int .u8 (1) := hat.deps ⟨3, .data⟩ (by simp) rfl 53 (by decide) rfl
       exact out_of (v := .pointer (some ⟨g9, 10, none⟩)) (by (generalize a.eval = ev at *); simp [execOp, go_sem, h0, h1] <;> rfl) rfl
      ·refine hot_val rfl rfl (fun L a w' hat => ?_)
       have h0 : a.eval (.tmp 54) = .pointer (some ⟨g9, 10, none⟩) := hat.deps ⟨4, .data⟩ (by simp) rfl 54 (by decide) rfl
       exact out_ex (ld2_4_1 rfl h0 (by (have h := hat.hot; simp only [hat.later 16 _ rfl (by kernel_rfl)] at h; exact h))) (fun u hE => hE)
      ·refine hot_val rfl rfl (fun L a w' hat => ?_)
       have h0 : a.eval (.tmp 11) = .int .u8 (1) := (hat.others 11 (by decide)).trans rfl
       exact out_of rfl h0
      ·refine hot_val rfl rfl (fun L a w' hat => ?_)
       have h0 : a.eval (.const (Value.int IntKind.u8 1)) = .int .u8 1 := rfl
       have h1 : a.eval (.tmp 56) = .int .u8 (1) := hat.deps ⟨6, .data⟩ (by simp) rfl 56 (by decide) rfl
       exact out_of (v := .int .u8 (0)) (by (generalize a.eval = ev at *); simp [execOp, go_sem, h0, h1] <;> rfl) rfl
      ·refine hot_val rfl rfl (fun L a w' hat => ?_)
       have h0 : a.eval (.tmp 9) = .pointer (some ⟨g9, 0, none⟩) := (hat.others 9 (by decide)).trans rfl
       have h1 : a.eval (.tmp 57) = .int .u8 (0) := hat.deps ⟨7, .data⟩ (by simp) rfl 57 (by decide) rfl
       exact out_of (v := .pointer (some ⟨g9, 0, none⟩)) (by (generalize a.eval = ev at *); simp [execOp, go_sem, h0, h1] <;> rfl) rfl
      ·refine hot_val rfl rfl (fun L a w' hat => ?_)
       have h0 : a.eval (.tmp 58) = .pointer (some ⟨g9, 0, none⟩) := hat.deps ⟨8, .data⟩ (by simp) rfl 58 (by decide) rfl
       exact out_ex (ld2_4_0 rfl h0 (by (have h := hat.hot; simp only [hat.later 16 _ rfl (by kernel_rfl)] at h; exact h))) (fun u hE => hE)
      ·refine hot_val rfl rfl (fun L a w' hat => ?_)
       have h0 : a.eval (.tmp 7) = .pointer (some ⟨g7, 0, none⟩) := (hat.others 7 (by decide)).trans rfl
       exact out_ex (ld1_1_0 rfl h0 (hF7.oldX hat.grow n79)) (fun u hE => hE)
      ·refine hot_val rfl rfl (fun L a w' hat => ?_)
       have h0 : AgV [x1, z1] (a.eval (.tmp 55)) := hat.deps ⟨5, .data⟩ (by simp) rfl 55 (by decide) rfl
       have h1 : AgV [x0, z0] (a.eval (.tmp 59)) := hat.deps ⟨9, .data⟩ (by simp) rfl 59 (by decide) rfl
       have h2 : ElV (u) (a.eval (.tmp 60)) := hat.deps ⟨10, .data⟩ (by simp) rfl 60 (by decide) rfl
       exact .inr ⟨_, #[a.eval (.tmp 55), a.eval (.tmp 59), a.eval (.tmp 60)], exec_call Tryz.func92 (by kernel_rfl) (by kernel_rfl) _ rfl _ _ (by simp), (step_V h0 h1 h2 _).mono (fun e w'' ⟨r1, r2, he, h1, h2, hb⟩ => ⟨_, he, ⟨r1, r2, rfl, h1, h2⟩, hb⟩)⟩
      ·refine hot_val rfl rfl (fun L a w' hat => ?_)
       have h0 : ∃ v1 v2, a.eval (.tmp 61) = .tuple #[v1, v2] ∧ AgV [twiceX x1 z1, twiceZ x1 z1] v1 ∧ AgV [bothX x1 z1 x0 z0, bothZ x1 z1 x0 z0 u] v2 := hat.deps ⟨11, .data⟩ (by simp) rfl 61 (by decide) rfl
       exact out_of rfl h0
      ·refine hot_val rfl rfl (fun L a w' hat => ?_)
       have h0 : ∃ v1 v2, a.eval (.tmp 49) = .tuple #[v1, v2] ∧ AgV [twiceX x1 z1, twiceZ x1 z1] v1 ∧ AgV [bothX x1 z1 x0 z0, bothZ x1 z1 x0 z0 u] v2 := hat.deps ⟨12, .data⟩ (by simp) rfl 49 (by decide) rfl
       obtain ⟨v1, v2, hv, hv1, hv2⟩ := h0
       exact out_of (v := v1) (by (generalize a.eval = ev at *); simp [execOp, go_sem, hv] <;> rfl) hv1
      ·refine hot_val rfl rfl (fun L a w' hat => ?_)
       have h0 : ∃ v1 v2, a.eval (.tmp 49) = .tuple #[v1, v2] ∧ AgV [twiceX x1 z1, twiceZ x1 z1] v1 ∧ AgV [bothX x1 z1 x0 z0, bothZ x1 z1 x0 z0 u] v2 := hat.deps ⟨12, .data⟩ (by simp) rfl 49 (by decide) rfl
       obtain ⟨v1, v2, hv, hv1, hv2⟩ := h0
       exact out_of (v := v2) (by (generalize a.eval = ev at *); simp [execOp, go_sem, hv] <;> rfl) hv2
      ·refine hot_val rfl rfl (fun L a w' hat => ?_)
       have h0 : a.eval (.tmp 9) = .pointer (some ⟨g9, 0, none⟩) := (hat.others 9 (by decide)).trans rfl
       have h1 : a.eval (.tmp 50) = .int .u8 (1) := hat.deps ⟨0, .data⟩ (by simp) rfl 50 (by decide) rfl
       exact out_of (v := .pointer (some ⟨g9, 10, none⟩)) (by (generalize a.eval = ev at *); simp [execOp, go_sem, h0, h1] <;> rfl) rfl
      ·refine hot_store rfl (fun L a w' hat => ?_)
       have h0 : a.eval (.tmp 64) = .pointer (some ⟨g9, 10, none⟩) := hat.deps ⟨15, .data⟩ (by simp) rfl 64 (by decide) rfl
       have h1 : AgV [twiceX x1 z1, twiceZ x1 z1] (a.eval (.tmp 62)) := hat.deps ⟨13, .data⟩ (by simp) rfl 62 (by decide) rfl
       obtain ⟨c0, c1, hH⟩ : ∃ c0 c1, BlkF w' g9 [x0, z0, c0, c1] 110 := by (have hH := hat.hot; cases hL : L 16 <;> simp only [hL] at hH <;> exact ⟨_, _, hH⟩)
       exact hot_ex (st2_1 rfl h0 hH h1) (fun w'' hN => by show BlkF w'' _ (bif (L 16 || 16 == 16) then _ else _) _; rw [show (L 16 || 16 == 16) = true by simp]; exact hN)
     ·intro L gs w8 hbx hV hall hH hap
      replace hF7 := hF7.oldX hbx n79
      replace BK := hbx.blk BK nk9
      have hN9 : BlkF w8 g9 [x0, z0, twiceX x1 z1, twiceZ x1 z1] 110 := by (have h := hH; simp only [hall 16 (by omega)] at h; exact h)
      replace HW := hbx.below HW HW.size (fun k hk => by rw [hk]; exact hg9)
      have hi2 := hV 2 (by omega) (by decide) 52 rfl
      have hs2 := hV 14 (by omega) (by decide) 63 rfl
      simp only [List.map_cons, List.map_nil, puts, Act.put, List.setIfInBounds_toArray, List.set_cons_zero, List.set_cons_succ, List.drop_succ_cons, List.drop_zero]
      rw [show gs 52 = .int .u8 0 from hi2]
      refine tail_val (v := .pointer (some ⟨g9, 0, none⟩)) rfl (by simp [execOp, go_sem]) ?_
      simp only [Act.put, List.setIfInBounds_toArray, List.set_cons_zero, List.set_cons_succ, List.drop_succ_cons, List.drop_zero]
      refine tail_st2_0 rfl rfl rfl rfl hN9 hs2 (fun w9 hN hc => ?_)
      replace hF7 := hF7.oldX hc n79
      replace BK := hc.blk BK nk9
      replace HW := hc.below HW HW.size (fun k hk => by rw [hk]; exact hg9)
      clear hF9 hH hall hV hap hbx hc hs2 hi2 hN9
      refine wpList_nil ?_
      try (show Exit.then _ _ .normal _ _)
      go_wp2_with fail
      go_roundw
      case rel => exact ⟨K + 1, i_next K, by omega, by (rw [lad_1 HL.out hb.out]; exact hN), hF7, BK, HW⟩
      case measure => first | (simp [intOf]; done) | (simp [intOf]; omega)
   ·obtain rfl : K = 255 := by omega
    have hx : xmul ks us = x0 * fi z0 := by
     unfold xmul
     rw [HU.out, HL.out]
    have HX := hidd hx
    clear hx hlt hK
    go_wp2_with fail
    refine region_hotV 10 multS11K (multS11 (wr.heap.size) x0 z0 x1 z1 g9) (fun _ _ => True) (fun _ => False) [66, 67, 68, 69, 70, 71, 72, 73, 74, 12] (by kernel_rfl) (by kernel_rfl) (by kernel_rfl) (by kernel_rfl) (by kernel_rfl) ?_ (fun _ _ _ _ _ => trivial) (fun _ _ _ _ _ => trivial) ?_ trivial (hots_all ?_) ?_
    ·exact fun i w w' v h hb => by revert h; unfold multS11; split <;> first | exact id | (rintro ⟨g, hv, hg, hB⟩; exact ⟨g, hv, hg, hB.oldX hb (fun h => h)⟩) | (exact fun h => h.old hb.none)
    ·exact fun i w v hk h => by unfold multS11K at hk; split at hk <;> first | (cases hk; done) | (obtain ⟨g, hv, _, hB⟩ := h; exact ⟨g, hv, hB.lt⟩)
    ·simp only [List.take_succ_cons, List.take_zero, HotFrom]
     refine ⟨?_, ?_, ?_, ?_, ?_, ?_, ?_, ?_, ?_, ?_, trivial⟩
     ·refine hot_val rfl rfl (fun L a w' hat => ?_)
      have h0 : a.eval (.tmp 9) = .pointer (some ⟨g9, 0, none⟩) := (hat.others 9 (by decide)).trans rfl
      have h1 : a.eval (.const (Value.int IntKind.i64 0)) = .int .i64 0 := rfl
      exact out_of (v := .pointer (some ⟨g9, 0, none⟩)) (by (generalize a.eval = ev at *); simp [execOp, go_sem, h0, h1] <;> rfl) rfl
     ·refine hot_val rfl rfl (fun L a w' hat => ?_)
      have h0 : a.eval (.tmp 66) = .pointer (some ⟨g9, 0, none⟩) := hat.deps ⟨0, .data⟩ (by simp) rfl 66 (by decide) rfl
      exact out_of (v := .pointer (some ⟨g9, 0, none⟩)) (by (generalize a.eval = ev at *); simp [execOp, go_sem, h0] <;> rfl) rfl
     ·refine hot_val rfl rfl (fun L a w' hat => ?_)
      have h0 : a.eval (.tmp 67) = .pointer (some ⟨g9, 0, none⟩) := hat.deps ⟨1, .data⟩ (by simp) rfl 67 (by decide) rfl
      exact out_ex (ld1_4_0 rfl h0 (hF9.oldX hat.grow (fun h => h))) (fun u hE => hE)
     ·refine hot_val rfl rfl (fun L a w' hat => ?_)
      have h0 : a.eval (.tmp 9) = .pointer (some ⟨g9, 0, none⟩) := (hat.others 9 (by decide)).trans rfl
      have h1 : a.eval (.const (Value.int IntKind.i64 0)) = .int .i64 0 := rfl
      exact out_of (v := .pointer (some ⟨g9, 0, none⟩)) (by (generalize a.eval = ev at *); simp [execOp, go_sem, h0, h1] <;> rfl) rfl
     ·refine hot_val rfl rfl (fun L a w' hat => ?_)
      have h0 : a.eval (.tmp 69) = .pointer (some ⟨g9, 0, none⟩) := hat.deps ⟨3, .data⟩ (by simp) rfl 69 (by decide) rfl
      exact out_of (v := .pointer (some ⟨g9, 5, none⟩)) (by (generalize a.eval = ev at *); simp [execOp, go_sem, h0] <;> rfl) rfl
     ·refine hot_val rfl rfl (fun L a w' hat => ?_)
      have h0 : a.eval (.tmp 70) = .pointer (some ⟨g9, 5, none⟩) := hat.deps ⟨4, .data⟩ (by simp) rfl 70 (by decide) rfl
      exact out_ex (ld1_4_1 rfl h0 (hF9.oldX hat.grow (fun h => h))) (fun u hE => hE)
     ·refine hot_val rfl rfl (fun L a w' hat => ?_)
      have h0 : ElV (z0) (a.eval (.tmp 71)) := hat.deps ⟨5, .data⟩ (by simp) rfl 71 (by decide) rfl
      exact .inr ⟨_, #[a.eval (.tmp 71)], exec_call Tryz.func95 (by kernel_rfl) (by kernel_rfl) _ rfl _ _ (by simp), Inv_V h0 _⟩
     ·refine hot_val rfl rfl (fun L a w' hat => ?_)
      have h0 : ElV (x0) (a.eval (.tmp 68)) := hat.deps ⟨2, .data⟩ (by simp) rfl 68 (by decide) rfl
      have h1 : ElV (fi (z0)) (a.eval (.tmp 72)) := hat.deps ⟨6, .data⟩ (by simp) rfl 72 (by decide) rfl
      exact .inr ⟨_, #[a.eval (.tmp 68), a.eval (.tmp 72)], exec_call Tryz.func94 (by kernel_rfl) (by kernel_rfl) _ rfl _ _ (by simp), Mul_V h0 h1 _⟩
     ·refine hot_val rfl rfl (fun L a w' hat => ?_)
      have h0 : ElV ((x0) * (fi (z0))) (a.eval (.tmp 73)) := hat.deps ⟨7, .data⟩ (by simp) rfl 73 (by decide) rfl
      exact .inr ⟨_, #[a.eval (.tmp 73)], exec_call Tryz.func93 (by kernel_rfl) (by kernel_rfl) _ rfl _ _ (by simp), Bytes_O h0 _ _ hat.grow.size⟩
     ·refine hot_val rfl rfl (fun L a w' hat => ?_)
      have h0 : OwnV _ (byteL ((x0) * (fi (z0))).val) w' (a.eval (.tmp 74)) := hat.deps ⟨8, .data⟩ (by simp) rfl 74 (by decide) rfl
      exact out_of rfl h0
    ·intro L gs w8 hbx hV hall hH hap
     obtain ⟨A1, c1, hv12, hO⟩ := hV 9 (by omega) (by decide) 12 rfl
     rw [byteL_length] at hv12
     simp only [List.map_cons, List.map_nil, puts, Act.put, hv12, List.setIfInBounds_toArray, List.set_cons_zero, List.set_cons_succ, List.drop_succ_cons, List.drop_zero, List.drop_nil]
     replace HB := hbx.below HW HW.size (fun k h => h.elim)
     replace hO := hO.mono HW.size
     clear hV hall hH hap hbx hv12 hF9 hF7 BK HW HL
     have hmk := mk32z w8
     refine wpList_nil ?_
     try (show Exit.then _ _ .normal _ _)
     go_wp2_with fail
     refine Calls.mono (WEqual_any _ (hO.bs.below ((Below.refl _ _).alloc (Nat.le_refl _) _)) (Bs_of_Blk (ys := List.replicate 32 0) (Blk.new _ _ _) (by intro y hy; rw [(List.mem_replicate.1 hy).2]; omega) (by simp)) (byteL_length _) (by simp)) ?_
     rintro e w9 ⟨rfl, hb9⟩
     have hb8 : Below w8.heap.size w8 w9 := ((Below.refl _ _).alloc (Nat.le_refl _) _).trans (hb9.mono (by simp))
     replace HB := below_from HB hb8
     replace hO := hO.below hb8
     clear hb9 hb8 hmk
     rw [byteL_zero]
     dsimp only
     by_cases hz : (x0 * fi z0).val = 0
     ·rw [decide_eq_true hz]
      have HZ := hidd hz
      clear hz
      go_wp2_with fail
      go_ret2
      refine ⟨?_, HB⟩
      unfold MultPost
      rw [HX.out, if_pos HZ.out]
      rfl
     ·rw [decide_eq_false hz]
      have HZ := hidd hz
      clear hz
      go_wp2_with fail
      go_ret2
      refine ⟨?_, HB⟩
      unfold MultPost
      rw [HX.out, if_neg HZ.out]
      exact ⟨A1, c1, rfl, hO⟩
def pI : Int := 57896044618658097711785492504343953926634992332820282019728792003956564819949
theorem toF_mod (a : Int) : toF (a % pI) = toF a := by
 refine toF_congr (-(a / pI)) ?_
 unfold pI
 omega
def twXI (x z : Int) : Int := ((x + z) % pI * ((x + z) % pI) % pI) * ((x - z) % pI * ((x - z) % pI) % pI) % pI
def twZI (x z : Int) : Int := (((x + z) % pI * ((x + z) % pI) % pI) - ((x - z) % pI * ((x - z) % pI) % pI)) % pI * (((x + z) % pI * ((x + z) % pI) % pI) + 121665 * ((((x + z) % pI * ((x + z) % pI) % pI) - ((x - z) % pI * ((x - z) % pI) % pI)) % pI)) % pI
def boXI (x z X Z : Int) : Int := ((X - Z) * ((x + z) % pI) % pI + (X + Z) * ((x - z) % pI) % pI) * ((X - Z) * ((x + z) % pI) % pI + (X + Z) * ((x - z) % pI) % pI) % pI
def boZI (x z X Z u : Int) : Int := u * (((X - Z) * ((x + z) % pI) % pI - (X + Z) * ((x - z) % pI) % pI) * ((X - Z) * ((x + z) % pI) % pI - (X + Z) * ((x - z) % pI) % pI) % pI) % pI
theorem twX_toF (x z : Int) : twiceX (toF x) (toF z) = toF (twXI x z) := by
 unfold twXI twiceX; simp only [toF_mod, toF_mul, toF_add, toF_sub]
theorem twZ_toF (x z : Int) : twiceZ (toF x) (toF z) = toF (twZI x z) := by
 unfold twZI twiceZ; simp only [toF_mod, toF_mul, toF_add, toF_sub]
theorem boX_toF (x z X Z : Int) : bothX (toF x) (toF z) (toF X) (toF Z) = toF (boXI x z X Z) := by
 unfold boXI bothX; simp only [toF_mod, toF_mul, toF_add, toF_sub]
theorem boZ_toF (x z X Z u : Int) : bothZ (toF x) (toF z) (toF X) (toF Z) (toF u) = toF (boZI x z X Z u) := by
 unfold boZI bothZ; simp only [toF_mod, toF_mul, toF_add, toF_sub]
def stI (ks : List Nat) (u : Int) (K : Nat) (s : Int × Int × Int × Int) : Int × Int × Int × Int := match s with
 | (x0, z0, x1, z1) => bif Nat.beq (kbit ks (254 - K)) 0 then (twXI x0 z0, twZI x0 z0, boXI x0 z0 x1 z1, boZI x0 z0 x1 z1 u) else (boXI x1 z1 x0 z0, boZI x1 z1 x0 z0 u, twXI x1 z1, twZI x1 z1)
def goI (ks : List Nat) (u : Int) : Nat → Nat → Int × Int × Int × Int → Int × Int × Int × Int
 | 0, _, s => s
 | n + 1, K, s => goI ks u n (K + 1) (stI ks u K s)
def toF4 (s : Int × Int × Int × Int) : F × F × F × F := match s with | (a, b, c, d) => (toF a, toF b, toF c, toF d)
theorem lad_stI {u : Int} {s : Int × Int × Int × Int} (h : lad ks (toF u) K = toF4 s) : lad ks (toF u) (K + 1) = toF4 (stI ks u K s) := by
 obtain ⟨a, b, c, d⟩ := s
 simp only [lad, h, toF4, stI, cond_eq_ite, Nat.beq_eq]
 split <;> simp only [twX_toF, twZ_toF, boX_toF, boZ_toF]
theorem lad_goI {u : Int} : ∀ (n K : Nat) (s : Int × Int × Int × Int), lad ks (toF u) K = toF4 s → lad ks (toF u) (K + n) = toF4 (goI ks u n K s) := by
 intro n
 induction n with
 | zero => intro K s h; exact h
 | succ n ih => intro K s h; rw [show K + (n + 1) = (K + 1) + n by omega]; exact ih (K + 1) _ (lad_stI h)
end Go.Proofs.YtkhbihnnkflfkaaGreat
/-
 Edw · Awake6 · Weak · Kum · Clamps · Order · Meets: WHAT Mult_pl, Base_any NEED OF THEM (printed by sub.py).
-/
namespace Go.Proofs.YtkhbihnnkflfkaaGreat
open Go.RowKit
set_option linter.unusedVariables false
set_option linter.unusedSimpArgs false
set_option maxRecDepth 100000
set_option linter.constructorNameAsVariable false

variable {A B S X Y Z a b c d e i r s t u w x x0 x1 x2 x3 y y1 y2 y3 yD z0 z1 : F} {ks us : List Nat} {K n : Nat}
theorem e_comp (hi : i * i = -1) (h1 : y1*y1 - x1*x1 = 1 + d*(x1*x1*(y1*y1))) (h2 : y2*y2 - x2*x2 = 1 + d*(x2*x2*(y2*y2)))
  (he : d*(x1*x2*(y1*y2)) = e) (hee : e*e = 1) : (i*x1 + e*y1)*(i*x1 + e*y1) = d*((x1*y1*(i*x2+y2))*(x1*y1*(i*x2+y2))) := by
 grobner
theorem e_comp' (hi : i * i = -1) (h1 : y1*y1 - x1*x1 = 1 + d*(x1*x1*(y1*y1))) (h2 : y2*y2 - x2*x2 = 1 + d*(x2*x2*(y2*y2)))
  (he : d*(x1*x2*(y1*y2)) = e) (hee : e*e = 1) : (i*x1 - e*y1)*(i*x1 - e*y1) = d*((x1*y1*(i*x2-y2))*(x1*y1*(i*x2-y2))) := by
 grobner
theorem e_close (h1 : y1*y1 - x1*x1 = 1 + d*(x1*x1*(y1*y1))) (h2 : y2*y2 - x2*x2 = 1 + d*(x2*x2*(y2*y2))) :
  (y1*y2+x1*x2)*(y1*y2+x1*x2)*((1 + d*(x1*x2*(y1*y2)))*(1 + d*(x1*x2*(y1*y2)))) - (x1*y2+y1*x2)*(x1*y2+y1*x2)*((1 - d*(x1*x2*(y1*y2)))*(1 - d*(x1*x2*(y1*y2))))
  = (1 + d*(x1*x2*(y1*y2)))*(1 + d*(x1*x2*(y1*y2)))*((1 - d*(x1*x2*(y1*y2)))*(1 - d*(x1*x2*(y1*y2)))) + d*((x1*y2+y1*x2)*(x1*y2+y1*x2)*((y1*y2+x1*x2)*(y1*y2+x1*x2))) := by
 grobner
theorem e_assoc_y (h1 : y1*y1 - x1*x1 = 1 + d*(x1*x1*(y1*y1))) (h2 : y2*y2 - x2*x2 = 1 + d*(x2*x2*(y2*y2))) (h3 : y3*y3 - x3*x3 = 1 + d*(x3*x3*(y3*y3))) :
  ((y1*y2+x1*x2)*(1 + d*(x1*x2*(y1*y2)))*y3 + (x1*y2+y1*x2)*(1 - d*(x1*x2*(y1*y2)))*x3) * ((1 + d*(x2*x3*(y2*y3)))*(1 - d*(x2*x3*(y2*y3))) - d*(x1*y1*((x2*y3+y2*x3)*(y2*y3+x2*x3))))
  = ((y2*y3+x2*x3)*(1 + d*(x2*x3*(y2*y3)))*y1 + (x2*y3+y2*x3)*(1 - d*(x2*x3*(y2*y3)))*x1) * ((1 + d*(x1*x2*(y1*y2)))*(1 - d*(x1*x2*(y1*y2))) - d*(x3*y3*((x1*y2+y1*x2)*(y1*y2+x1*x2)))) := by
 grobner
theorem e_assoc_x (h1 : y1*y1 - x1*x1 = 1 + d*(x1*x1*(y1*y1))) (h2 : y2*y2 - x2*x2 = 1 + d*(x2*x2*(y2*y2))) (h3 : y3*y3 - x3*x3 = 1 + d*(x3*x3*(y3*y3))) :
  ((x1*y2+y1*x2)*(1 - d*(x1*x2*(y1*y2)))*y3 + (y1*y2+x1*x2)*(1 + d*(x1*x2*(y1*y2)))*x3) * ((1 + d*(x2*x3*(y2*y3)))*(1 - d*(x2*x3*(y2*y3))) + d*(x1*y1*((x2*y3+y2*x3)*(y2*y3+x2*x3))))
  = ((x2*y3+y2*x3)*(1 - d*(x2*x3*(y2*y3)))*y1 + (y2*y3+x2*x3)*(1 + d*(x2*x3*(y2*y3)))*x1) * ((1 + d*(x1*x2*(y1*y2)))*(1 - d*(x1*x2*(y1*y2))) + d*(x3*y3*((x1*y2+y1*x2)*(y1*y2+x1*x2)))) := by
 grobner
def dE : F := 37095705934669439343138083508754565189542113879843219016388785533085940283555
def iE : F := 19681161376707505956807079304988542015446066515923890162744021073123829784752
theorem dE_def : 121666 * dE = -121665 := by decide +kernel
theorem iE_def : iE * iE = -1 := by decide +kernel
theorem fpow_sq (s : F) (k : Nat) : fpow (s * s) k = fpow s (2 * k) := by
 rw [fpow_mul, ← fpow_add]
 congr 1
 omega
theorem dE_pow : pmF P 256 37095705934669439343138083508754565189542113879843219016388785533085940283555 ((P - 1) / 2) = P - 1 := by decide +kernel
theorem fpow_last {k : Nat} (hk : k = P - 1) (h : s ≠ 0) : fpow s k = 1 := by
 have h1 := fi_mul_self h
 have e : k = (P - 2) + 1 := by rw [hk]; decide +kernel
 rw [e, fpow_add]
 have e2 : fpow s 1 = s := by simp only [fpow]; grind
 rw [e2]
 have hc : fi s * s = s * fi s := by grobner
 show fi s * s = 1
 rw [hc]
 exact h1
theorem dE_nonsq (s : F) : s * s ≠ dE := by
 intro h
 have h0 : s ≠ 0 := by
  rintro rfl
  have : (0 : F) * 0 = 0 := by grind
  rw [this] at h
  revert h
  decide +kernel
 have h1 := fpow_last (k := 2 * ((P - 1) / 2)) (by decide +kernel) h0
 rw [← fpow_sq, h] at h1
 have h2 := fpow_val dE ((P - 1) / 2)
 rw [h1] at h2
 have h3 := pm_spec P 256 37095705934669439343138083508754565189542113879843219016388785533085940283555 ((P - 1) / 2) (by decide +kernel)
 rw [dE_pow] at h3
 have h4 : dE.val = 37095705934669439343138083508754565189542113879843219016388785533085940283555 := by decide +kernel
 rw [h4, ← h3] at h2
 revert h2
 decide +kernel
structure Pt where
 x : F
 y : F
 on : y * y - x * x = 1 + dE * (x * x * (y * y))
theorem Pt.ext' {p q : Pt} (hx : p.x = q.x) (hy : p.y = q.y) : p = q := by
 cases p; cases q
 simp only at hx hy
 subst hx hy
 rfl
theorem sq_eq (h : a * a = dE * (b * b)) : b = 0 := by
 by_cases hb : b = 0
 ·exact hb
 ·exfalso
  refine dE_nonsq (a * fi b) ?_
  have h1 := fi_mul_self hb
  have : a * fi b * (a * fi b) = (a * a) * (fi b * fi b) := by grobner
  rw [this, h]
  have : dE * (b * b) * (fi b * fi b) = dE * ((b * fi b) * (b * fi b)) := by grobner
  rw [this, h1]
  grobner
theorem two_ne : (2 : F) ≠ 0 := by decide +kernel
theorem half (h : 2 * a = 0) : a = 0 := (no_zero h).resolve_left two_ne
theorem den_ne (p q : Pt) (hee : e * e = 1) : dE * (p.x * q.x * (p.y * q.y)) ≠ e := by
 intro he
 have h1 := sq_eq (e_comp iE_def p.on q.on he hee)
 have h2 := sq_eq (e_comp' iE_def p.on q.on he hee)
 have hne : p.x * p.y ≠ 0 := by
  intro h0
  have : dE * (p.x * q.x * (p.y * q.y)) = dE * (q.x * q.y) * (p.x * p.y) := by grobner
  rw [this, h0] at he
  have : e = 0 := by rw [← he]; grobner
  rw [this] at hee
  exact one_ne_zero (by rw [← hee]; grobner)
 have h3 := (no_zero h1).resolve_left hne
 have h4 := (no_zero h2).resolve_left hne
 have hy : q.y = 0 := half (by have : 2 * q.y = (iE * q.x + q.y) - (iE * q.x - q.y) := by grobner
                               rw [this, h3, h4]; grobner)
 have hx : q.x = 0 := by
  have h5 : iE * q.x = 0 := by rw [hy] at h3; rw [← h3]; grobner
  refine (no_zero h5).resolve_left ?_
  intro h0
  have := iE_def
  rw [h0] at this
  revert this
  decide +kernel
 have := q.on
 rw [hx, hy] at this
 exact one_ne_zero (by have h6 : (0 : F) * 0 - 0 * 0 = 0 := by grobner
                       rw [h6] at this
                       have h7 : (1 : F) + dE * (0 * 0 * (0 * 0)) = 1 := by grobner
                       rw [h7] at this; exact this.symm)
theorem den_p (p q : Pt) : 1 + dE * (p.x * q.x * (p.y * q.y)) ≠ 0 := fun h => den_ne p q (e := -1) (by grobner) (by
 have : dE * (p.x * q.x * (p.y * q.y)) = (1 + dE * (p.x * q.x * (p.y * q.y))) - 1 := by grobner
 rw [this, h]; grobner)
theorem den_m (p q : Pt) : 1 - dE * (p.x * q.x * (p.y * q.y)) ≠ 0 := fun h => den_ne p q (e := 1) (by grobner) (by
 have : dE * (p.x * q.x * (p.y * q.y)) = 1 - (1 - dE * (p.x * q.x * (p.y * q.y))) := by grobner
 rw [this, h]; grobner)
theorem mul_cancel (hc : c ≠ 0) (h : a * c = b * c) : a = b := by
 have h1 : (a - b) * c = 0 := by
  have : (a - b) * c = a * c - b * c := by grobner
  rw [this, h]; grobner
 have h2 := (no_zero h1).resolve_right hc
 have : a = (a - b) + b := by grobner
 rw [this, h2]; grobner
theorem fi_cancel (hc : c ≠ 0) : a * fi c * c = a := by
 have h1 := fi_mul_self hc
 have : a * fi c * c = a * (c * fi c) := by grobner
 rw [this, h1]; grobner
def addX (p q : Pt) : F := (p.x * q.y + p.y * q.x) * fi (1 + dE * (p.x * q.x * (p.y * q.y)))
def addY (p q : Pt) : F := (p.y * q.y + p.x * q.x) * fi (1 - dE * (p.x * q.x * (p.y * q.y)))
theorem addX_mul (p q : Pt) : addX p q * (1 + dE * (p.x * q.x * (p.y * q.y))) = p.x * q.y + p.y * q.x := fi_cancel (den_p p q)
theorem addY_mul (p q : Pt) : addY p q * (1 - dE * (p.x * q.x * (p.y * q.y))) = p.y * q.y + p.x * q.x := fi_cancel (den_m p q)
theorem e_id1 (X Y t : F) : (Y * Y - X * X) * ((1 + t) * (1 + t) * ((1 - t) * (1 - t))) = Y * (1 - t) * (Y * (1 - t)) * ((1 + t) * (1 + t)) - X * (1 + t) * (X * (1 + t)) * ((1 - t) * (1 - t)) := by grobner
theorem e_id2 (X Y t d : F) : (1 + t) * (1 + t) * ((1 - t) * (1 - t)) + d * (X * (1 + t) * (X * (1 + t)) * (Y * (1 - t) * (Y * (1 - t)))) = (1 + d * (X * X * (Y * Y))) * ((1 + t) * (1 + t) * ((1 - t) * (1 - t))) := by grobner
theorem e_id3 (A t s u v : F) : A * ((1 + t) * (1 - t) * ((1 + s) * (1 - s)) * (u * v)) = (A * u) * ((1 + t) * (1 - t) * ((1 + s) * (1 - s)) * v) := by grobner
theorem e_id4 (A t s u v : F) : A * ((1 + t) * (1 - t) * ((1 + s) * (1 - s)) * (u * v)) = (A * v) * ((1 + t) * (1 - t) * ((1 + s) * (1 - s)) * u) := by grobner
theorem add_on (p q : Pt) : addY p q * addY p q - addX p q * addX p q = 1 + dE * (addX p q * addX p q * (addY p q * addY p q)) := by
 have h := e_close p.on q.on
 have hx := addX_mul p q
 have hy := addY_mul p q
 have d1 := den_p p q
 have d2 := den_m p q
 generalize addX p q = X at *
 generalize addY p q = Y at *
 rw [← hx, ← hy] at h
 generalize dE * (p.x * q.x * (p.y * q.y)) = t at *
 refine mul_cancel (c := (1 + t) * (1 + t) * ((1 - t) * (1 - t))) ?_ ?_
 ·intro h0
  rcases no_zero h0 with h1 | h1
  ·rcases no_zero h1 with h2 | h2 <;> exact d1 h2
  ·rcases no_zero h1 with h2 | h2 <;> exact d2 h2
 ·rw [e_id1 X Y t, h]
  exact e_id2 X Y t dE
def Pt.add (p q : Pt) : Pt := ⟨addX p q, addY p q, add_on p q⟩
def Pt.zero : Pt := ⟨0, 1, by grobner⟩
def Pt.neg (p : Pt) : Pt := ⟨-p.x, p.y, by have := p.on; grobner⟩
theorem Pt.add_comm (p q : Pt) : p.add q = q.add p := by
 refine Pt.ext' ?_ ?_
 ·show addX p q = addX q p
  unfold addX
  have e1 : p.x * q.y + p.y * q.x = q.x * p.y + q.y * p.x := by grobner
  have e2 : p.x * q.x * (p.y * q.y) = q.x * p.x * (q.y * p.y) := by grobner
  rw [e1, e2]
 ·show addY p q = addY q p
  unfold addY
  have e1 : p.y * q.y + p.x * q.x = q.y * p.y + q.x * p.x := by grobner
  have e2 : p.x * q.x * (p.y * q.y) = q.x * p.x * (q.y * p.y) := by grobner
  rw [e1, e2]
theorem fi_one : fi (1 : F) = 1 := by
 have h := fi_mul_self one_ne_zero
 have e : (1 : F) * fi 1 = fi 1 := by grobner
 rw [e] at h
 exact h
theorem Pt.zero_add (p : Pt) : Pt.zero.add p = p := by
 refine Pt.ext' ?_ ?_
 ·show (0 * p.y + 1 * p.x) * fi (1 + dE * (0 * p.x * (1 * p.y))) = p.x
  have e : 1 + dE * (0 * p.x * (1 * p.y)) = 1 := by grobner
  rw [e, fi_one]; grobner
 ·show (1 * p.y + 0 * p.x) * fi (1 - dE * (0 * p.x * (1 * p.y))) = p.y
  have e : 1 - dE * (0 * p.x * (1 * p.y)) = 1 := by grobner
  rw [e, fi_one]; grobner
theorem Pt.add_zero (p : Pt) : p.add Pt.zero = p := by rw [Pt.add_comm, Pt.zero_add]
theorem Pt.add_assoc (p q r : Pt) : (p.add q).add r = p.add (q.add r) := by
 have hx1 := addX_mul p q
 have hy1 := addY_mul p q
 have hx2 := addX_mul q r
 have hy2 := addY_mul q r
 have a1 := den_p p q
 have a2 := den_m p q
 have b1 := den_p q r
 have b2 := den_m q r
 have hx3 := addX_mul (p.add q) r
 have hy3 := addY_mul (p.add q) r
 have hx4 := addX_mul p (q.add r)
 have hy4 := addY_mul p (q.add r)
 have c1 := den_p (p.add q) r
 have c2 := den_m (p.add q) r
 have d1 := den_p p (q.add r)
 have d2 := den_m p (q.add r)
 have AX := e_assoc_x p.on q.on r.on
 have AY := e_assoc_y p.on q.on r.on
 rw [← hx1, ← hy1, ← hx2, ← hy2] at AX AY
 have ex : (p.add q).x = addX p q := rfl
 have ey : (p.add q).y = addY p q := rfl
 have fx : (q.add r).x = addX q r := rfl
 have fy : (q.add r).y = addY q r := rfl
 rw [ex, ey] at hx3 hy3 c1 c2
 rw [fx, fy] at hx4 hy4 d1 d2
 refine Pt.ext' ?_ ?_
 ·show addX (p.add q) r = addX p (q.add r)
  generalize addX (p.add q) r = A at *
  generalize addX p (q.add r) = B at *
  generalize addX p q = X at *
  generalize addY p q = Y at *
  generalize addX q r = X' at *
  generalize addY q r = Y' at *
  generalize dE * (p.x * q.x * (p.y * q.y)) = t at *
  generalize dE * (q.x * r.x * (q.y * r.y)) = s at *
  refine mul_cancel (c := (1 + t) * (1 - t) * ((1 + s) * (1 - s)) * ((1 + dE * (X * r.x * (Y * r.y))) * (1 + dE * (p.x * X' * (p.y * Y'))))) ?_ ?_
  ·intro h0
   rcases no_zero h0 with h1 | h1
   ·rcases no_zero h1 with h2 | h2
    ·rcases no_zero h2 with h3 | h3
     ·exact a1 h3
     ·exact a2 h3
    ·rcases no_zero h2 with h3 | h3
     ·exact b1 h3
     ·exact b2 h3
   ·rcases no_zero h1 with h2 | h2
    ·exact c1 h2
    ·exact d1 h2
  ·rw [e_id3 A, e_id4 B, hx3, hx4]
   clear hx1 hy1 hx2 hy2 hx3 hy3 hx4 hy4 AY a1 a2 b1 b2 c1 c2 d1 d2 ex ey fx fy A B
   grobner
 ·show addY (p.add q) r = addY p (q.add r)
  generalize addY (p.add q) r = A at *
  generalize addY p (q.add r) = B at *
  generalize addX p q = X at *
  generalize addY p q = Y at *
  generalize addX q r = X' at *
  generalize addY q r = Y' at *
  generalize dE * (p.x * q.x * (p.y * q.y)) = t at *
  generalize dE * (q.x * r.x * (q.y * r.y)) = s at *
  refine mul_cancel (c := (1 + t) * (1 - t) * ((1 + s) * (1 - s)) * ((1 - dE * (X * r.x * (Y * r.y))) * (1 - dE * (p.x * X' * (p.y * Y'))))) ?_ ?_
  ·intro h0
   rcases no_zero h0 with h1 | h1
   ·rcases no_zero h1 with h2 | h2
    ·rcases no_zero h2 with h3 | h3
     ·exact a1 h3
     ·exact a2 h3
    ·rcases no_zero h2 with h3 | h3
     ·exact b1 h3
     ·exact b2 h3
   ·rcases no_zero h1 with h2 | h2
    ·exact c2 h2
    ·exact d2 h2
  ·rw [e_id3 A, e_id4 B, hy3, hy4]
   clear hx1 hy1 hx2 hy2 hx3 hy3 hx4 hy4 AX a1 a2 b1 b2 c1 c2 d1 d2 ex ey fx fy A B
   grobner
def smul : Nat → Pt → Pt
 | 0, _ => Pt.zero
 | n + 1, p => (smul n p).add p
theorem smul_add (m n : Nat) (p : Pt) : smul (m + n) p = (smul m p).add (smul n p) := by
 induction n with
 | zero => exact (Pt.add_zero _).symm
 | succ n ih => show (smul (m + n) p).add p = _; rw [ih, Pt.add_assoc]; rfl
theorem smul_zero' (n : Nat) : smul n Pt.zero = Pt.zero := by
 induction n with
 | zero => rfl
 | succ n ih => show (smul n Pt.zero).add Pt.zero = _; rw [ih, Pt.add_zero]
theorem smul_smul (m n : Nat) (p : Pt) : smul m (smul n p) = smul (m * n) p := by
 induction m with
 | zero => rw [Nat.zero_mul]; rfl
 | succ m ih => show (smul m (smul n p)).add (smul n p) = _; rw [ih, Nat.succ_mul, smul_add]
set_option maxRecDepth 100000
set_option maxRecDepth 100000
theorem kbit_clamp (ks : List Nat) (hl : ks.length = 32) (i : Nat) (hi : i < 3) : kbit (clampL ks) i = 0 := by
 have h0 : (clampL ks).getD 0 0 = ks.getD 0 0 &&& 248 := by
  unfold clampL
  simp only [List.getD_eq_getElem?_getD]
  rw [List.getElem?_set_ne (by omega), List.getElem?_set_self (by omega)]
  rfl
 unfold kbit
 rw [show i / 8 = 0 by omega, h0, show i % 8 = i by omega]
 have h1 : (ks.getD 0 0 &&& 248).testBit i = false := by
  rw [Nat.testBit_and]
  have : (248 : Nat).testBit i = false := by
   have : i = 0 ∨ i = 1 ∨ i = 2 := by omega
   rcases this with rfl | rfl | rfl <;> decide
  rw [this, Bool.and_false]
 rw [Nat.testBit_eq_decide_div_mod_eq] at h1
 have h2 : ¬ ((ks.getD 0 0 &&& 248) / 2 ^ i % 2 = 1) := by simpa using h1
 omega
theorem lad_bit0 (h : lad ks u K = (x0, z0, x1, z1)) (hb : kbit ks (254 - K) = 0) : lad ks u (K + 1) = (twiceX x0 z0, twiceZ x0 z0, bothX x0 z0 x1 z1, bothZ x0 z0 x1 z1 u) := by
 simp only [lad, h, hb, if_true]
theorem lad_bit1 (h : lad ks u K = (x0, z0, x1, z1)) (hb : kbit ks (254 - K) = 1) : lad ks u (K + 1) = (bothX x1 z1 x0 z0, bothZ x1 z1 x0 z0 u, twiceX x1 z1, twiceZ x1 z1) := by
 simp only [lad, h, hb]
 rfl
def Rep (X Z : F) (p : Pt) : Prop := ∃ s, s ≠ 0 ∧ X = s * (1 + p.y) ∧ Z = s * (1 - p.y)
def Kx (p : Pt) : F := (1 + p.y) * fi (1 - p.y)
theorem rep_Kx {p : Pt} (h : Rep X Z p) : X * fi Z = Kx p := by
 obtain ⟨s, hs, rfl, rfl⟩ := h
 have h1 := fi_mul_self hs
 unfold Kx
 rw [fi_mul]
 have : s * (1 + p.y) * (fi s * fi (1 - p.y)) = (s * fi s) * ((1 + p.y) * fi (1 - p.y)) := by grobner
 rw [this, h1]; grobner
theorem k_id1 (ht : d * (x * x * (y * y)) = t) (hd : 121666 * d = -121665) (h : y * y - x * x = 1 + d * (x * x * (y * y))) : y * y = (121666 - 121665 * (y * y)) * (1 + x * x) := by
 subst ht
 grobner
theorem k_dx : twiceX (s * (1 + y)) (s * (1 - y)) = 16 * (s * s * (s * s)) * (y * y) := by unfold twiceX; grobner
theorem toF_a24 : toF 121665 = 121665 := by decide +kernel
theorem k_dz : twiceZ (s * (1 + y)) (s * (1 - y)) = 16 * (s * s * (s * s)) * ((1 - y * y) * (121666 - 121665 * (y * y))) := by unfold twiceZ; rw [toF_a24]; grobner
theorem k_num1 (hY : Y * (1 - t) = y * y + x * x) (h : y * y - x * x = 1 + t) : (1 + Y) * (1 - t) = 2 * (1 + x * x) := by grobner
theorem k_num2 (hY : Y * (1 - t) = y * y + x * x) (h : y * y - x * x = 1 + t) : (1 - Y) * (1 - t) = 2 * (1 - y * y) := by grobner
theorem k_ne (h : y * y = w * (1 + x * x)) (hw : w = 121666 - 121665 * (y * y)) : w ≠ 0 := by
 intro h0
 rw [h0] at h
 have h1 : y * y = 0 := by rw [h]; grobner
 rw [h1] at hw
 rw [h0] at hw
 have h2 : (121666 : F) = 0 := by
  have : (121666 : F) - 121665 * 0 = 121666 := by grobner
  rw [this] at hw; exact hw.symm
 revert h2
 decide +kernel
theorem mul_ne (ha : a ≠ 0) (hb : b ≠ 0) : a * b ≠ 0 := fun h => (no_zero h).elim ha hb
theorem eight_ne : (8 : F) ≠ 0 := by decide +kernel
theorem k_fin1 (h1 : (1 + Y) * (1 - t) = 2 * (1 + x * x)) (h2 : y * y = w * (1 + x * x)) : 16 * S * (y * y) = 8 * S * w * (1 - t) * (1 + Y) := by grobner
theorem k_fin2 (h1 : (1 - Y) * (1 - t) = 2 * (1 - y * y)) : 16 * S * ((1 - y * y) * w) = 8 * S * w * (1 - t) * (1 - Y) := by grobner
theorem rep_double {p : Pt} (h : Rep X Z p) : Rep (twiceX X Z) (twiceZ X Z) (p.add p) := by
 obtain ⟨s, hs, rfl, rfl⟩ := h
 have hY := addY_mul p p
 have hd := den_m p p
 have hon := p.on
 have e1 : p.x * p.x * (p.y * p.y) = p.x * p.x * (p.y * p.y) := rfl
 have hk := k_id1 (x := p.x) (y := p.y) rfl dE_def hon
 have hw := k_ne hk rfl
 have n1 := k_num1 hY hon
 have n2 := k_num2 hY hon
 refine ⟨8 * (s * s * (s * s)) * (121666 - 121665 * (p.y * p.y)) * (1 - dE * (p.x * p.x * (p.y * p.y))), mul_ne (mul_ne (mul_ne eight_ne (mul_ne (mul_ne hs hs) (mul_ne hs hs))) hw) hd, ?_, ?_⟩
 ·rw [k_dx]
  exact k_fin1 n1 hk
 ·rw [k_dz]
  exact k_fin2 n2
theorem k_i1 {y3 yD : F} (h1 : y1*y1 - x1*x1 = 1 + d*(x1*x1*(y1*y1))) (h2 : y2*y2 - x2*x2 = 1 + d*(x2*x2*(y2*y2))) (ht : d * (x1*x2*(y1*y2)) = t) :
  (1 - t + y1*y2 + x1*x2) * (1 + t + y1*y2 - x1*x2) * ((y1 - y2) * (y1 - y2)) = (1 - t - y1*y2 - x1*x2) * (1 + t - y1*y2 + x1*x2) * ((y1 + y2) * (y1 + y2)) := by
 subst ht
 grobner
theorem k_i2 (h3 : y3 * (1 - t) = a) (hD : yD * (1 + t) = b) (h : (1 - t + a) * (1 + t + b) * B = (1 - t - a) * (1 + t - b) * A) : ((1 + y3) * (1 + yD) * B) * ((1 - t) * (1 + t)) = ((1 - y3) * (1 - yD) * A) * ((1 - t) * (1 + t)) := by
 subst h3 hD
 grobner
theorem k_bx : bothX (s * (1 + y1)) (s * (1 - y1)) (r * (1 + y2)) (r * (1 - y2)) = 16 * (s * s * (r * r)) * ((y1 + y2) * (y1 + y2)) := by unfold bothX; grobner
theorem k_bz : bothZ (s * (1 + y1)) (s * (1 - y1)) (r * (1 + y2)) (r * (1 - y2)) u = u * (16 * (s * s * (r * r)) * ((y1 - y2) * (y1 - y2))) := by unfold bothZ; grobner
theorem k_a1 (hu : u * (1 - yD) = 1 + yD) (hI : (1 + y3) * (1 + yD) * B = (1 - y3) * (1 - yD) * A) : 16 * S * A * (1 - yD) = 8 * S * (A + u * B) * (1 + y3) * (1 - yD) := by grobner
theorem k_a2 (hu : u * (1 - yD) = 1 + yD) (hI : (1 + y3) * (1 + yD) * B = (1 - y3) * (1 - yD) * A) : u * (16 * S * B) * (1 - yD) = 8 * S * (A + u * B) * (1 - y3) * (1 - yD) := by grobner
theorem sq_zero (h : a * a = 0) : a = 0 := (no_zero h).elim id id
theorem rep_add {X1 Z1 X2 Z2 : F} {p q : Pt} (h1 : Rep X1 Z1 p) (h2 : Rep X2 Z2 q) (hD : yD * (1 + dE * (p.x * q.x * (p.y * q.y))) = p.y * q.y - p.x * q.x) (hu : u * (1 - yD) = 1 + yD) (hu0 : u ≠ 0) (hc : 1 - yD ≠ 0) :
  Rep (bothX X1 Z1 X2 Z2) (bothZ X1 Z1 X2 Z2 u) (p.add q) := by
 obtain ⟨s, hs, rfl, rfl⟩ := h1
 obtain ⟨r, hr, rfl, rfl⟩ := h2
 have hY := addY_mul p q
 have a1 := den_m p q
 have a2 := den_p p q
 have hi := k_i1 (y3 := 0) (yD := 0) p.on q.on rfl
 have e3 : (p.add q).y = addY p q := rfl
 have hI : (1 + addY p q) * (1 + yD) * ((p.y - q.y) * (p.y - q.y)) = (1 - addY p q) * (1 - yD) * ((p.y + q.y) * (p.y + q.y)) := by
  refine mul_cancel (mul_ne a1 a2) (k_i2 hY hD ?_)
  have g1 : ∀ t a b : F, 1 - t + (a + b) = 1 - t + a + b := by intro t a b; grobner
  have g2 : ∀ t a b : F, 1 + t + (a - b) = 1 + t + a - b := by intro t a b; grobner
  have g3 : ∀ t a b : F, 1 - t - (a + b) = 1 - t - a - b := by intro t a b; grobner
  have g4 : ∀ t a b : F, 1 + t - (a - b) = 1 + t - a + b := by intro t a b; grobner
  rw [g1, g2, g3, g4]
  exact hi
 rw [k_bx, k_bz]
 have hS : s * s * (r * r) ≠ 0 := mul_ne (mul_ne hs hs) (mul_ne hr hr)
 have f1 := k_a1 (S := s * s * (r * r)) hu hI
 have f2 := k_a2 (S := s * s * (r * r)) hu hI
 have g1 := mul_cancel hc f1
 have g2 := mul_cancel hc f2
 refine ⟨8 * (s * s * (r * r)) * ((p.y + q.y) * (p.y + q.y) + u * ((p.y - q.y) * (p.y - q.y))), mul_ne (mul_ne eight_ne hS) ?_, by rw [e3]; exact g1, by rw [e3]; exact g2⟩
 intro h0
 rw [h0] at g1 g2
 have z : ∀ a b : F, 8 * a * 0 * b = 0 := by intro a b; grobner
 rw [z] at g1 g2
 have n16 : (16 : F) ≠ 0 := by decide +kernel
 have A0 := sq_zero ((no_zero g1).resolve_left (mul_ne n16 hS))
 have B0 := sq_zero ((no_zero ((no_zero g2).resolve_left hu0)).resolve_left (mul_ne n16 hS))
 have hp : p.y = 0 := half (by
  have : 2 * p.y = (p.y + q.y) + (p.y - q.y) := by grobner
  rw [this, A0, B0]; grobner)
 have hq : q.y = 0 := by
  have : q.y = (p.y + q.y) - p.y := by grobner
  rw [this, A0, hp]; grobner
 have o1 := p.on
 have o2 := q.on
 rw [hp] at o1
 rw [hq] at o2
 rw [hp, hq] at hD
 have k1 : p.x * p.x = -1 := by
  have : p.x * p.x = -(0 * 0 - p.x * p.x) := by grobner
  rw [this, o1]; grobner
 have k2 : q.x * q.x = -1 := by
  have : q.x * q.x = -(0 * 0 - q.x * q.x) := by grobner
  rw [this, o2]; grobner
 have k3 : yD = -(p.x * q.x) := by
  have : yD = yD * (1 + dE * (p.x * q.x * (0 * 0))) := by grobner
  rw [this, hD]; grobner
 have k4 : (1 - yD) * (1 + yD) = 0 := by
  have : (1 - yD) * (1 + yD) = 1 - yD * yD := by grobner
  rw [this, k3]
  have : (1 : F) - -(p.x * q.x) * -(p.x * q.x) = 1 - (p.x * p.x) * (q.x * q.x) := by grobner
  rw [this, k1, k2]; grobner
 rw [← hu] at k4
 rcases no_zero k4 with h | h
 ·exact hc h
 ·rcases no_zero h with h | h
  ·exact hu0 h
  ·exact hc h
theorem Pt.neg_add (p : Pt) : p.neg.add p = Pt.zero := by
 refine Pt.ext' ?_ ?_
 ·show (-p.x * p.y + p.y * p.x) * _ = 0
  have : -p.x * p.y + p.y * p.x = 0 := by grobner
  rw [this]; grobner
 ·show (p.y * p.y + -p.x * p.x) * fi (1 - dE * (-p.x * p.x * (p.y * p.y))) = 1
  have e1 : p.y * p.y + -p.x * p.x = p.y * p.y - p.x * p.x := by grobner
  have e2 : 1 - dE * (-p.x * p.x * (p.y * p.y)) = 1 + dE * (p.x * p.x * (p.y * p.y)) := by grobner
  rw [e1, e2, p.on]
  exact fi_mul_self (den_p p p)
theorem diff_y {p q r : Pt} (h : q = p.add r) : r.y * (1 + dE * (p.x * q.x * (p.y * q.y))) = p.y * q.y - p.x * q.x := by
 have h1 : p.neg.add q = r := by rw [h, ← Pt.add_assoc, Pt.neg_add, Pt.zero_add]
 have h2 := addY_mul p.neg q
 have e : addY p.neg q = r.y := by rw [← h1]; rfl
 rw [e] at h2
 have e1 : p.neg.x = -p.x := rfl
 have e2 : p.neg.y = p.y := rfl
 rw [e1, e2] at h2
 have e3 : 1 - dE * (-p.x * q.x * (p.y * q.y)) = 1 + dE * (p.x * q.x * (p.y * q.y)) := by grobner
 have e4 : p.y * q.y + -p.x * q.x = p.y * q.y - p.x * q.x := by grobner
 rw [e3, e4] at h2
 exact h2
theorem diff_y' {p q r : Pt} (h : q = p.add r) : r.y * (1 + dE * (q.x * p.x * (q.y * p.y))) = q.y * p.y - q.x * p.x := by
 have h1 := diff_y h
 have e1 : q.x * p.x * (q.y * p.y) = p.x * q.x * (p.y * q.y) := by grobner
 have e2 : q.y * p.y - q.x * p.x = p.y * q.y - p.x * q.x := by grobner
 rw [e1, e2]; exact h1
def kpre (ks : List Nat) : Nat → Nat
 | 0 => 0
 | K + 1 => 2 * kpre ks K + kbit ks (254 - K)
theorem two_fi : fi (2 : F) * 2 = 1 := by
 have h := fi_mul_self two_ne
 have : fi (2 : F) * 2 = 2 * fi 2 := by grobner
 rw [this]; exact h
theorem lad_rep (ks : List Nat) {q : Pt} (hu : u * (1 - q.y) = 1 + q.y) (hu0 : u ≠ 0) (hc : 1 - q.y ≠ 0) : ∀ K, ∃ x0 z0 x1 z1, lad ks u K = (x0, z0, x1, z1) ∧ Rep x0 z0 (smul (kpre ks K) q) ∧ Rep x1 z1 (smul (kpre ks K + 1) q) := by
 intro K
 induction K with
 | zero =>
  refine ⟨1, 0, u, 1, rfl, ⟨fi 2, ?_, ?_, ?_⟩, ⟨fi (1 - q.y), fi_ne hc, ?_, ?_⟩⟩
  ·exact fi_ne two_ne
  ·show (1 : F) = fi 2 * (1 + 1)
   have : fi (2 : F) * (1 + 1) = fi 2 * 2 := by grobner
   rw [this]; exact two_fi.symm
  ·show (0 : F) = fi 2 * (1 - 1)
   grobner
  ·show u = fi (1 - q.y) * (1 + (Pt.zero.add q).y)
   rw [Pt.zero_add, ← hu]
   have h1 := fi_mul_self hc
   have : fi (1 - q.y) * (u * (1 - q.y)) = u * ((1 - q.y) * fi (1 - q.y)) := by grobner
   rw [this, h1]; grobner
  ·show (1 : F) = fi (1 - q.y) * (1 - (Pt.zero.add q).y)
   rw [Pt.zero_add]
   have h1 := fi_mul_self hc
   have : fi (1 - q.y) * (1 - q.y) = (1 - q.y) * fi (1 - q.y) := by grobner
   rw [this, h1]
 | succ K ih =>
  obtain ⟨x0, z0, x1, z1, h, h0, h1⟩ := ih
  have hq : smul (kpre ks K + 1) q = (smul (kpre ks K) q).add q := rfl
  rcases kbit_lt ks (254 - K) with hb | hb
  ·refine ⟨_, _, _, _, lad_bit0 h hb, ?_, ?_⟩
   ·have e : kpre ks (K + 1) = kpre ks K + kpre ks K := by simp only [kpre, hb]; omega
    rw [e, smul_add]
    exact rep_double h0
   ·have e : kpre ks (K + 1) + 1 = kpre ks K + (kpre ks K + 1) := by simp only [kpre, hb]; omega
    rw [e, smul_add]
    exact rep_add h0 h1 (diff_y hq) hu hu0 hc
  ·refine ⟨_, _, _, _, lad_bit1 h hb, ?_, ?_⟩
   ·have e : kpre ks (K + 1) = (kpre ks K + 1) + kpre ks K := by simp only [kpre, hb]; omega
    rw [e, smul_add]
    exact rep_add h1 h0 (diff_y' hq) hu hu0 hc
   ·have e : kpre ks (K + 1) + 1 = (kpre ks K + 1) + (kpre ks K + 1) := by simp only [kpre, hb]; omega
    rw [e, smul_add]
    exact rep_double h1
theorem xmul_Kx (ks us : List Nat) {q : Pt} (hu : numL us * (1 - q.y) = 1 + q.y) (hu0 : numL us ≠ 0) (hc : 1 - q.y ≠ 0) : xmul ks us = Kx (smul (kpre (clampL ks) 255) q) := by
 obtain ⟨x0, z0, x1, z1, h, h0, _⟩ := lad_rep (clampL ks) hu hu0 hc 255
 unfold xmul
 rw [h]
 exact rep_Kx h0
set_option maxRecDepth 100000
theorem clamp_get {xs : List Nat} (hl : xs.length = 32) (i : Nat) (hi : i < 32) : (clampL xs).getD i 0 = if i = 0 then xs.getD 0 0 &&& 248 else if i = 31 then xs.getD 31 0 &&& 127 ||| 64 else xs.getD i 0 := by
 unfold clampL
 simp only [List.getD_eq_getElem?_getD]
 by_cases h0 : i = 0
 ·subst h0
  rw [if_pos rfl, List.getElem?_set_ne (by omega), List.getElem?_set_self (by omega)]
  rfl
 ·rw [if_neg h0]
  by_cases h1 : i = 31
  ·subst h1
   rw [if_pos rfl, List.getElem?_set_self (by rw [List.length_set]; omega)]
   rfl
  ·rw [if_neg h1, List.getElem?_set_ne (by omega), List.getElem?_set_ne (by omega)]
theorem prime_1224481 : IsP 1224481 := small_prime (F := 1106) (by decide) (by decide) (by decide +kernel)
theorem prime_531581 : IsP 531581 := small_prime (F := 729) (by decide) (by decide) (by decide +kernel)
theorem prime_1257559732178653 : IsP 1257559732178653 := prime_of (F := 1224481 * 531581) (by decide +kernel) (by decide +kernel) fun p hp hd =>
 gt_of_dvd hp (dvd_two (pock (n := 1257559732178653) (q := 1224481) (a := 2) (r := 1027014492) prime_1224481 (by decide +kernel) (by decide +kernel) (by decide +kernel) (by decide +kernel) p hp hd)
  (pock (n := 1257559732178653) (q := 531581) (a := 2) (r := 2365697292) prime_531581 (by decide +kernel) (by decide +kernel) (by decide +kernel) (by decide +kernel) p hp hd) (by decide +kernel))
theorem prime_4434155615661930479 : IsP 4434155615661930479 := prime_of (F := 1257559732178653) (by decide +kernel) (by decide +kernel) fun p hp hd =>
 gt_of_dvd hp (pock (n := 4434155615661930479) (q := 1257559732178653) (a := 2) (r := 3526) prime_1257559732178653 (by decide +kernel) (by decide +kernel) (by decide +kernel) (by decide +kernel) p hp hd)
theorem prime_172054593956031949258510691 : IsP 172054593956031949258510691 := prime_of (F := 4434155615661930479) (by decide +kernel) (by decide +kernel) fun p hp hd =>
 gt_of_dvd hp (pock (n := 172054593956031949258510691) (q := 4434155615661930479) (a := 2) (r := 38802110) prime_4434155615661930479 (by decide +kernel) (by decide +kernel) (by decide +kernel) (by decide +kernel) p hp hd)
theorem prime_19757330305831588566944191468367130476339 : IsP 19757330305831588566944191468367130476339 := prime_of (F := 172054593956031949258510691) (by decide +kernel) (by decide +kernel) fun p hp hd =>
 gt_of_dvd hp (pock (n := 19757330305831588566944191468367130476339) (q := 172054593956031949258510691) (a := 2) (r := 114831751082918) prime_172054593956031949258510691 (by decide +kernel) (by decide +kernel) (by decide +kernel) (by decide +kernel) p hp hd)
theorem prime_276602624281642239937218680557139826668747 : IsP 276602624281642239937218680557139826668747 := prime_of (F := 19757330305831588566944191468367130476339) (by decide +kernel) (by decide +kernel) fun p hp hd =>
 gt_of_dvd hp (pock (n := 276602624281642239937218680557139826668747) (q := 19757330305831588566944191468367130476339) (a := 2) (r := 14) prime_19757330305831588566944191468367130476339 (by decide +kernel) (by decide +kernel) (by decide +kernel) (by decide +kernel) p hp hd)
theorem prime_7237005577332262213973186563042994240857116359379907606001950938285454250989 : IsP 7237005577332262213973186563042994240857116359379907606001950938285454250989 := prime_of (F := 276602624281642239937218680557139826668747) (by decide +kernel) (by decide +kernel) fun p hp hd =>
 gt_of_dvd hp (pock (n := 7237005577332262213973186563042994240857116359379907606001950938285454250989) (q := 276602624281642239937218680557139826668747) (a := 2) (r := 26163907866482859529727157400808004) prime_276602624281642239937218680557139826668747 (by decide +kernel) (by decide +kernel) (by decide +kernel) (by decide +kernel) p hp hd)
def ell : Nat := 7237005577332262213973186563042994240857116359379907606001950938285454250989
theorem ell_prime : IsP ell := prime_7237005577332262213973186563042994240857116359379907606001950938285454250989
def ellL : List Nat := [237, 211, 245, 92, 26, 99, 18, 88, 214, 156, 247, 162, 222, 249, 222, 20, 0, 0, 0, 0, 0, 0, 0, 0, 0, 0, 0, 0, 0, 0, 0, 16]
def nineL : List Nat := 9 :: List.replicate 31 0
def Bp : Pt := ⟨15112221349535400772501151409588531511454012693041857206046113283949847762202, 46316835694926478169428394003475163141307993866256225615783033603165251855960, by decide +kernel⟩
theorem nine_num : numL nineL = toF 9 := by decide +kernel
theorem nine_y : numL nineL * (1 - Bp.y) = 1 + Bp.y := by decide +kernel
theorem nine_0 : numL nineL ≠ 0 := by decide +kernel
theorem nine_c : 1 - Bp.y ≠ 0 := by decide +kernel
theorem Bp_ne : Bp.y ≠ 1 := by decide +kernel
theorem el0 : goI ellL 9 15 0 (1, 0, 9, 1) = (10806456891329026079378875085596808658582846456529831294911137168542696678121, 36970277918865150177869254238080269939693188361904408911022549165825561438568, 54478794619787955109678197443333385456538137359920733814742629559155265272083, 46353300166765511200702129970193701180869646434450204553054227719990206942886) := by decide +kernel
theorem el1 : goI ellL 9 15 15 (10806456891329026079378875085596808658582846456529831294911137168542696678121, 36970277918865150177869254238080269939693188361904408911022549165825561438568, 54478794619787955109678197443333385456538137359920733814742629559155265272083, 46353300166765511200702129970193701180869646434450204553054227719990206942886) = (1757637619416035938767671240680764634462465641933216341981264697777879015969, 49254231457092834575329527823457484707855755716226244238350376998512163267585, 56830565728083902700668262710045440610907042982459976561955693305337491978645, 36760336693929529266665894387489022296672109451951814546618659062468360476903) := by decide +kernel
theorem el2 : goI ellL 9 15 30 (1757637619416035938767671240680764634462465641933216341981264697777879015969, 49254231457092834575329527823457484707855755716226244238350376998512163267585, 56830565728083902700668262710045440610907042982459976561955693305337491978645, 36760336693929529266665894387489022296672109451951814546618659062468360476903) = (17362220093794651491584754027640224147299972046352530775546306572759195341044, 32731241089012089418966028122365947954075816161598613396278834964038783295038, 7319670081386763117281455080112246854328051789132898785572009383084802559021, 35529186765190972191070204047026892732995890970383838925018302043302707402416) := by decide +kernel
theorem el3 : goI ellL 9 15 45 (17362220093794651491584754027640224147299972046352530775546306572759195341044, 32731241089012089418966028122365947954075816161598613396278834964038783295038, 7319670081386763117281455080112246854328051789132898785572009383084802559021, 35529186765190972191070204047026892732995890970383838925018302043302707402416) = (20059306226305683817651320385049886935806466415878767265017332239017064847860, 47442284741498961131809159940013005645552784262103565480976607618700742864538, 2965090883173173343958487229709318279129301749699641952386151371067343992044, 19778536035907951664953750206354154289855862777155825942621173406833545976750) := by decide +kernel
theorem el4 : goI ellL 9 15 60 (20059306226305683817651320385049886935806466415878767265017332239017064847860, 47442284741498961131809159940013005645552784262103565480976607618700742864538, 2965090883173173343958487229709318279129301749699641952386151371067343992044, 19778536035907951664953750206354154289855862777155825942621173406833545976750) = (39314680229690820715885181785243872162179099165377408144434499610067822433390, 29687963565864455136483823417636241957803704324241978325429704031792200146961, 50686738129807215111235266291781899541572095915466911842360048938447010673942, 35386473909557745415461259437959849149616431978861966726399850493187212066022) := by decide +kernel
theorem el5 : goI ellL 9 15 75 (39314680229690820715885181785243872162179099165377408144434499610067822433390, 29687963565864455136483823417636241957803704324241978325429704031792200146961, 50686738129807215111235266291781899541572095915466911842360048938447010673942, 35386473909557745415461259437959849149616431978861966726399850493187212066022) = (55553381610019007067866345752918263785382842883163594199059456576488091680564, 57150935290903418592514286442503338737089083594715407668481869080906658927539, 16064258256404125237726606282184417084027180321362591487309794313506164457286, 11994900002834791471443640082738687485251771400231761188541042987166302291933) := by decide +kernel
theorem el6 : goI ellL 9 15 90 (55553381610019007067866345752918263785382842883163594199059456576488091680564, 57150935290903418592514286442503338737089083594715407668481869080906658927539, 16064258256404125237726606282184417084027180321362591487309794313506164457286, 11994900002834791471443640082738687485251771400231761188541042987166302291933) = (9655961334633581910478901929454455531263497127452194164054009648457816088984, 28277416643608053019864065067373125157707831034047212117796815602666756678305, 45205068213497813893920275277673622872784777490293814719188833419208604367956, 47811109451181041716855184908619864732323669546668649470383956829640517495638) := by decide +kernel
theorem el7 : goI ellL 9 15 105 (9655961334633581910478901929454455531263497127452194164054009648457816088984, 28277416643608053019864065067373125157707831034047212117796815602666756678305, 45205068213497813893920275277673622872784777490293814719188833419208604367956, 47811109451181041716855184908619864732323669546668649470383956829640517495638) = (48971298087067622013242908724751997640828393892730820322264076465994448882697, 46296213538218800699803117385813620863470587723160858964946392290204802765172, 7700545392616869852615619925195747567459944003273137597950707560833725492848, 15633207845835920604370145947995323249610802445847837942052049010159610841256) := by decide +kernel
theorem el8 : goI ellL 9 15 120 (48971298087067622013242908724751997640828393892730820322264076465994448882697, 46296213538218800699803117385813620863470587723160858964946392290204802765172, 7700545392616869852615619925195747567459944003273137597950707560833725492848, 15633207845835920604370145947995323249610802445847837942052049010159610841256) = (28850072755193557445888318963411128561294048502809781550272637786516792217399, 14561028042044036269566488311514343578759277834120585046735578627610376941539, 13565782546863663362115893156768563558261486402595967748497617342376421398334, 14882982248647845352937843988846854384215595216102311709546643689345587835806) := by decide +kernel
theorem el9 : goI ellL 9 15 135 (28850072755193557445888318963411128561294048502809781550272637786516792217399, 14561028042044036269566488311514343578759277834120585046735578627610376941539, 13565782546863663362115893156768563558261486402595967748497617342376421398334, 14882982248647845352937843988846854384215595216102311709546643689345587835806) = (6398585481767288373761576012402340147604166626636785787894486978808501110235, 19370163573764508002286844854351338340479821597200746933262279688975018849402, 14286062651406548227314474472706042570903270182427275803698415036317742211528, 27449032039612967871404354682943610307090771735553868205781146900053266891464) := by decide +kernel
theorem el10 : goI ellL 9 15 150 (6398585481767288373761576012402340147604166626636785787894486978808501110235, 19370163573764508002286844854351338340479821597200746933262279688975018849402, 14286062651406548227314474472706042570903270182427275803698415036317742211528, 27449032039612967871404354682943610307090771735553868205781146900053266891464) = (27359612974082648045049272381135707176316141161298567439881127110470498590558, 48777920842404420019463578959584563142554029725178773271182696345687958625148, 47437729506575122357478785068424790552462376152811347203052031833541831437193, 49215805682741620633639792433305179671248040247421440603865482837860709905239) := by decide +kernel
theorem el11 : goI ellL 9 15 165 (27359612974082648045049272381135707176316141161298567439881127110470498590558, 48777920842404420019463578959584563142554029725178773271182696345687958625148, 47437729506575122357478785068424790552462376152811347203052031833541831437193, 49215805682741620633639792433305179671248040247421440603865482837860709905239) = (29420335810804451228194348697139108742170480542896931627147194581343660340704, 43290784941138195775036183393019410090528210722501576709182377027696086844039, 49613483523266243233479171573195743324256508380167883115012428513804695717245, 11974143187513637114395205608051948164691447961289679089315339488073065834409) := by decide +kernel
theorem el12 : goI ellL 9 15 180 (29420335810804451228194348697139108742170480542896931627147194581343660340704, 43290784941138195775036183393019410090528210722501576709182377027696086844039, 49613483523266243233479171573195743324256508380167883115012428513804695717245, 11974143187513637114395205608051948164691447961289679089315339488073065834409) = (25947198787321938895644318284745664337759549662376017007409535453432019945747, 9900086101429134411860417881917309732504026363188811319156257532385105831262, 15227236841575336599106472718983099645827621968652782045737952635159540111775, 18601101158064926093012169639476707606834428355100665731533587188857184379664) := by decide +kernel
theorem el13 : goI ellL 9 15 195 (25947198787321938895644318284745664337759549662376017007409535453432019945747, 9900086101429134411860417881917309732504026363188811319156257532385105831262, 15227236841575336599106472718983099645827621968652782045737952635159540111775, 18601101158064926093012169639476707606834428355100665731533587188857184379664) = (19394832679392241214336158195284436057848762638879694349728256200267726448077, 52239134053347723373657931275183975991649965171441331968809254878210385229253, 19611427567266853662826881832017440198902799329045695619751652326251694345530, 25839175908110226365071388782549531592347740510279469334605108865799811613985) := by decide +kernel
theorem el14 : goI ellL 9 15 210 (19394832679392241214336158195284436057848762638879694349728256200267726448077, 52239134053347723373657931275183975991649965171441331968809254878210385229253, 19611427567266853662826881832017440198902799329045695619751652326251694345530, 25839175908110226365071388782549531592347740510279469334605108865799811613985) = (46096740197410891077271856002316481847736372313885306179797453617429740716350, 42641775152364806841336129255342058668193786486743375533329678830066210246023, 29785596183021250380420504607515922005282258595791076581036371378351920146893, 21311522129546370922119134901367294140971433322182148259334643957959721093814) := by decide +kernel
theorem el15 : goI ellL 9 15 225 (46096740197410891077271856002316481847736372313885306179797453617429740716350, 42641775152364806841336129255342058668193786486743375533329678830066210246023, 29785596183021250380420504607515922005282258595791076581036371378351920146893, 21311522129546370922119134901367294140971433322182148259334643957959721093814) = (25629778562154991534808591061008115261928806639235514069824451790854083573241, 34813307732633948039908278672897290494537234412865085898422219372944604295070, 39720290125408217445316104572739916250889628888240436797874006909973769535339, 47847776173393320137445276979014175126941017427161123060538535043250050458800) := by decide +kernel
theorem el16 : goI ellL 9 15 240 (25629778562154991534808591061008115261928806639235514069824451790854083573241, 34813307732633948039908278672897290494537234412865085898422219372944604295070, 39720290125408217445316104572739916250889628888240436797874006909973769535339, 47847776173393320137445276979014175126941017427161123060538535043250050458800) = (16857629081775988918967617339154615858577410742097457426808874782976104598997, 0, 37874356262034484495127553005609357581569779027297728131308285486223081649266, 4208261806892720499458617000623261953507753225255303125700920609580342405474) := by decide +kernel
theorem el_all : lad ellL (toF 9) 255 = toF4 (16857629081775988918967617339154615858577410742097457426808874782976104598997, 0, 37874356262034484495127553005609357581569779027297728131308285486223081649266, 4208261806892720499458617000623261953507753225255303125700920609580342405474) := by
 have h0 : lad ellL (toF 9) 0 = toF4 (1, 0, 9, 1) := by simp only [lad, toF4, toF_zero, toF_one]
 have h1 := lad_goI 15 0 _ h0
 rw [el0] at h1
 have h2 := lad_goI 15 15 _ h1
 rw [el1] at h2
 have h3 := lad_goI 15 30 _ h2
 rw [el2] at h3
 have h4 := lad_goI 15 45 _ h3
 rw [el3] at h4
 have h5 := lad_goI 15 60 _ h4
 rw [el4] at h5
 have h6 := lad_goI 15 75 _ h5
 rw [el5] at h6
 have h7 := lad_goI 15 90 _ h6
 rw [el6] at h7
 have h8 := lad_goI 15 105 _ h7
 rw [el7] at h8
 have h9 := lad_goI 15 120 _ h8
 rw [el8] at h9
 have h10 := lad_goI 15 135 _ h9
 rw [el9] at h10
 have h11 := lad_goI 15 150 _ h10
 rw [el10] at h11
 have h12 := lad_goI 15 165 _ h11
 rw [el11] at h12
 have h13 := lad_goI 15 180 _ h12
 rw [el12] at h13
 have h14 := lad_goI 15 195 _ h13
 rw [el13] at h14
 have h15 := lad_goI 15 210 _ h14
 rw [el14] at h15
 have h16 := lad_goI 15 225 _ h15
 rw [el15] at h16
 have h17 := lad_goI 15 240 _ h16
 rw [el16] at h17
 exact h17
theorem ell_pre : kpre ellL 255 = ell := by decide +kernel
theorem x_of_y {p : Pt} (h : p.y * p.y = 1) : p.x = 0 := by
 have ho := p.on
 rw [h] at ho
 have h1 : (1 + dE) * (p.x * p.x) = 0 := by grobner
 have h2 : (1 : F) + dE ≠ 0 := by decide +kernel
 exact sq_zero ((no_zero h1).resolve_left h2)
theorem zero_of_y {p : Pt} (h : p.y = 1) : p = Pt.zero := Pt.ext' (x_of_y (by rw [h]; grobner)) h
theorem ell_B : smul ell Bp = Pt.zero := by
 obtain ⟨x0, z0, x1, z1, h, h0, _⟩ := lad_rep ellL (q := Bp) nine_y nine_0 nine_c 255
 rw [nine_num, el_all] at h
 rw [ell_pre] at h0
 simp only [toF4, Prod.mk.injEq] at h
 obtain ⟨s, hs, _, hz⟩ := h0
 have hz0 : z0 = 0 := by rw [← h.2.1]; exact toF_zero
 rw [hz0] at hz
 have h1 := (no_zero hz.symm).resolve_left hs
 refine zero_of_y ?_
 have : (smul ell Bp).y = 1 - (1 - (smul ell Bp).y) := by grobner
 rw [this, h1]; grobner
theorem smul_gcd {p : Pt} : ∀ m k : Nat, smul m p = Pt.zero → smul k p = Pt.zero → smul (Nat.gcd m k) p = Pt.zero := by
 intro m k
 induction m, k using Nat.gcd.induction with
 | H0 k => intro _ h; simpa using h
 | H1 m k hm ih =>
  intro h1 h2
  rw [Nat.gcd_rec]
  refine ih ?_ h1
  have e : k = (k / m) * m + k % m := by rw [Nat.mul_comm]; exact (Nat.div_add_mod k m).symm
  rw [e, smul_add, ← smul_smul, h1, smul_zero', Pt.zero_add] at h2
  exact h2
theorem smul_one' (p : Pt) : smul 1 p = p := Pt.zero_add p
theorem ell_dvd (h : smul n Bp = Pt.zero) : ell ∣ n := by
 by_cases hd : ell ∣ n
 ·exact hd
 ·exfalso
  have hg := smul_gcd ell n ell_B h
  rw [ell_prime.cop hd, smul_one'] at hg
  exact Bp_ne (by rw [hg]; rfl)
theorem ell_two (h : ell ∣ 2 * n) : ell ∣ n := by
 rcases ell_prime.dvd_mul h with h1 | h1
 ·exfalso
  have := Nat.le_of_dvd (by omega) h1
  unfold ell at this
  omega
 ·exact h1
theorem good_place (hn : ¬ ell ∣ n) : 1 - (smul n Bp).y ≠ 0 ∧ Kx (smul n Bp) ≠ 0 ∧ Kx (smul n Bp) * (1 - (smul n Bp).y) = 1 + (smul n Bp).y := by
 have hc : 1 - (smul n Bp).y ≠ 0 := by
  intro h0
  refine hn (ell_dvd (zero_of_y ?_))
  have : (smul n Bp).y = 1 - (1 - (smul n Bp).y) := by grobner
  rw [this, h0]; grobner
 refine ⟨hc, ?_, fi_cancel hc⟩
 intro h0
 rcases no_zero h0 with h1 | h1
 ·have hy : (smul n Bp).y = -1 := by
   have : (smul n Bp).y = (1 + (smul n Bp).y) - 1 := by grobner
   rw [this, h1]; grobner
  have hx := x_of_y (p := smul n Bp) (by rw [hy]; grobner)
  refine hn (ell_two (ell_dvd ?_))
  have e : 2 * n = n + n := by omega
  rw [e, smul_add]
  refine zero_of_y ?_
  show ((smul n Bp).y * (smul n Bp).y + (smul n Bp).x * (smul n Bp).x) * fi (1 - dE * ((smul n Bp).x * (smul n Bp).x * ((smul n Bp).y * (smul n Bp).y))) = 1
  rw [hx, hy]
  have e1 : (-1 : F) * -1 + 0 * 0 = 1 := by grobner
  have e2 : (1 : F) - dE * (0 * 0 * (-1 * -1)) = 1 := by grobner
  rw [e1, e2, fi_one]; grobner
 ·exact fi_ne hc h1
def secN (ks : List Nat) : Nat := kpre (clampL ks) 255
theorem kbit_le (ks : List Nat) (i : Nat) : kbit ks i ≤ 1 := by rcases kbit_lt ks i with h | h <;> omega
theorem kpre_lt (ks : List Nat) : ∀ K, kpre ks K < 2 ^ K := by
 intro K
 induction K with
 | zero => simp [kpre]
 | succ K ih => have := kbit_le ks (254 - K); rw [kpre, Nat.pow_succ]; omega
theorem kpre_ge (ks : List Nat) (h : kbit ks 254 = 1) : ∀ K, 2 ^ K ≤ kpre ks (K + 1) := by
 intro K
 induction K with
 | zero => simp [kpre, h]
 | succ K ih => rw [kpre, Nat.pow_succ]; omega
theorem kbit_top (ks : List Nat) (hl : ks.length = 32) (h8 : ∀ x ∈ ks, x < 256) : kbit (clampL ks) 254 = 1 := by
 unfold kbit
 rw [clamp_get hl _ (by omega)]
 rw [if_neg (by omega), if_pos (by omega)]
 have e : ∀ z, z < 256 → (z &&& 127 ||| 64) / 2 ^ (254 % 8) % 2 = 1 := fin256 (by decide +kernel)
 exact e _ (getD_lt h8 31)
theorem sec_good (ks : List Nat) (hl : ks.length = 32) (h8 : ∀ x ∈ ks, x < 256) : ¬ ell ∣ secN ks := by
 intro hd
 have e : secN ks = 8 * kpre (clampL ks) 252 := by
  unfold secN
  have h0 := kbit_clamp ks hl 0 (by omega)
  have h1 := kbit_clamp ks hl 1 (by omega)
  have h2 := kbit_clamp ks hl 2 (by omega)
  have e1 : kpre (clampL ks) 255 = 2 * kpre (clampL ks) 254 + kbit (clampL ks) 0 := rfl
  have e2 : kpre (clampL ks) 254 = 2 * kpre (clampL ks) 253 + kbit (clampL ks) 1 := rfl
  have e3 : kpre (clampL ks) 253 = 2 * kpre (clampL ks) 252 + kbit (clampL ks) 2 := rfl
  omega
 rw [e] at hd
 have hlt := kpre_lt (clampL ks) 252
 have hge : 2 ^ 251 ≤ kpre (clampL ks) 252 := kpre_ge (clampL ks) (kbit_top ks hl h8) 251
 rcases ell_prime.dvd_mul hd with h | h
 ·have := Nat.le_of_dvd (by omega) h
  unfold ell at this
  omega
 ·have := Nat.le_of_dvd (by omega) h
  unfold ell at this
  omega
theorem mul_good {m : Nat} (hm : ¬ ell ∣ m) (hn : ¬ ell ∣ n) : ¬ ell ∣ m * n := fun h => (ell_prime.dvd_mul h).elim hm hn
def plN (n : Nat) : F := Kx (smul n Bp)
theorem xmul_base (ks : List Nat) : xmul ks nineL = plN (secN ks) := xmul_Kx ks nineL nine_y nine_0 nine_c
theorem plN_ne (hn : ¬ ell ∣ n) : (plN n).val ≠ 0 := fun h => (good_place hn).2.1 (Fin.ext h)
theorem xmul_pl (ks : List Nat) (hn : ¬ ell ∣ n) (hu : numL us = plN n) : xmul ks us = plN (secN ks * n) := by
 obtain ⟨h1, h2, h3⟩ := good_place hn
 have := xmul_Kx ks us (q := smul n Bp) (by rw [hu]; exact h3) (by rw [hu]; exact h2) h1
 rw [this, smul_smul]
 rfl
set_option maxRecDepth 100000
theorem Mult_pl {A B : Option Addr} {c d : Nat} (w : World) (ha : Bs w A c ks) (hb : Bs w B d us) (hk : ks.length = 32) (hm : us.length = 32) (hn : ¬ ell ∣ n) (hu : numL us = plN n) :
  Calls Tryz.prog 59 #[.slice A 32 c, .slice B 32 d] w fun e w' => ∃ g c', e = .returned (.tuple #[.slice (some ⟨g, 0, none⟩) 32 c', .int .i64 0]) ∧ Own w' w.heap.size (some ⟨g, 0, none⟩) c' (byteL (plN (secN ks * n)).val) ∧ Below w.heap.size w w' := by
 refine (Mult_any w ha hb hk hm).mono fun e w' ⟨h, hB⟩ => ?_
 unfold MultPost at h
 rw [xmul_pl ks hn hu, if_neg (plN_ne (mul_good (sec_good ks hk ha.b8) hn))] at h
 obtain ⟨A', c', he, hO⟩ := h
 obtain ⟨g, rfl, _⟩ := hO.at (by rw [byteL_length]; omega)
 exact ⟨g, c', he, hO, hB⟩
theorem nineL_len : nineL.length = 32 := by decide
theorem nineL_lt : ∀ x ∈ nineL, x < 256 := by decide
set_option maxHeartbeats 2000000 in
theorem Base_any {A : Option Addr} {c : Nat} (w : World) (ha : Bs w A c ks) (hk : ks.length = 32) :
  Calls Tryz.prog 31 #[.slice A 32 c] w fun e w' => ∃ g c', e = .returned (.tuple #[.slice (some ⟨g, 0, none⟩) 32 c', .int .i64 0]) ∧ Own w' w.heap.size (some ⟨g, 0, none⟩) c' (byteL (plN (secN ks)).val) ∧ Below w.heap.size w w' := by
 have hmk := mk32z
 have HA := hidd ha
 have HK := hidd hk
 clear ha hk
 go_enter Tryz.func31, Tryz.ntmps31
 go_wp2_with fail
 have BU : Blk (w.alloc (.cells (u8s nineL).toArray 5)) w.heap.size (u8s nineL).toArray 5 := Blk.new _ _ _
 have HB : Below w.heap.size w (w.alloc (.cells (u8s nineL).toArray 5)) := (Below.refl _ _).alloc (Nat.le_refl _) _
 change Calls Tryz.prog _ _ (w.alloc (.cells (u8s nineL).toArray 5)) _
 generalize (w.alloc (.cells (u8s nineL).toArray 5)) = w1 at *
 refine Calls.mono (Mult_any _ (HA.out.below HB) (Bs_of_Blk BU nineL_lt (by rw [nineL_len]; omega)) HK.out nineL_len) ?_
 rintro e w2 ⟨h, hb2⟩
 unfold MultPost at h
 rw [xmul_base, if_neg (plN_ne (sec_good _ HK.out HA.out.b8))] at h
 obtain ⟨A', c', rfl, hO⟩ := h
 obtain ⟨g, rfl, _⟩ := hO.at (by rw [byteL_length]; omega)
 replace hO := hidd (hO.mono HB.size)
 replace HB := below_from HB hb2
 clear hb2 BU
 dsimp only
 go_wp2_with fail
 go_ret2
 exact ⟨g, c', rfl, hO.out, HB⟩
end Go.Proofs.YtkhbihnnkflfkaaGreat
