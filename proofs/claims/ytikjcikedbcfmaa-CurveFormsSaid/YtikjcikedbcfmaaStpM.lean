/-
  FieldW · HotV · Step, IN ONE TEXT.
-/
import Derived.Test.YtikjcikedbcfmaaAgg
import Derived.Test.YtikjcikedbcfmaaInvV
import Derived.Test.YtikjcikedbcfmaaRegM
/-
  Aggregates of field elements, as values and as blocks: what a load, a store, a new variable of them comes to.
-/
namespace Go.Proofs.Ytikjcikedbcfmaa
open Go.RowKit
set_option linter.unusedVariables false
set_option linter.unusedSimpArgs false

def ElL (x : F) (l : List Value) : Prop := ∃ a0 a1 a2 a3 a4 : Int, l = [.int .u64 a0, .int .u64 a1, .int .u64 a2, .int .u64 a3, .int .u64 a4] ∧ El x a0 a1 a2 a3 a4
def FsL : List F → List Value → Prop
  | [], l => l = []
  | x :: fs, l => ∃ l1 l2, l = l1 ++ l2 ∧ ElL x l1 ∧ FsL fs l2
/-- A value that is made of these elements. -/
def AgV (fs : List F) (v : Value) : Prop := ∃ l, v = .agg l.toArray ∧ FsL fs l
/-- A block that is made of these elements. -/
def BlkF (w : World) (g : Nat) (fs : List F) (T : TypeId) : Prop := ∃ l : List Value, Blk w g l.toArray T ∧ FsL fs l

theorem AgV.one {x : F} {v : Value} : AgV [x] v ↔ ElV x v := by
  constructor
  · rintro ⟨l, rfl, l1, l2, rfl, ⟨a0, a1, a2, a3, a4, rfl, h⟩, rfl⟩
    exact ⟨a0, a1, a2, a3, a4, rfl, h⟩
  · rintro ⟨a0, a1, a2, a3, a4, rfl, h⟩
    exact ⟨_, rfl, _, [], by simp, ⟨a0, a1, a2, a3, a4, rfl, h⟩, rfl⟩
theorem FsL.two {x y : F} {l : List Value} : FsL [x, y] l ↔ ∃ a0 a1 a2 a3 a4 b0 b1 b2 b3 b4 : Int, l = [.int .u64 a0, .int .u64 a1, .int .u64 a2, .int .u64 a3, .int .u64 a4, .int .u64 b0, .int .u64 b1, .int .u64 b2, .int .u64 b3, .int .u64 b4] ∧ El x a0 a1 a2 a3 a4 ∧ El y b0 b1 b2 b3 b4 := by
  constructor
  · rintro ⟨l1, l2, rfl, ⟨a0, a1, a2, a3, a4, rfl, h⟩, l3, l4, rfl, ⟨b0, b1, b2, b3, b4, rfl, h'⟩, rfl⟩
    exact ⟨a0, a1, a2, a3, a4, b0, b1, b2, b3, b4, rfl, h, h'⟩
  · rintro ⟨a0, a1, a2, a3, a4, b0, b1, b2, b3, b4, rfl, h, h'⟩
    exact ⟨[_, _, _, _, _], [_, _, _, _, _], rfl, ⟨a0, a1, a2, a3, a4, rfl, h⟩, [_, _, _, _, _], [], rfl, ⟨b0, b1, b2, b3, b4, rfl, h'⟩, rfl⟩
theorem FsL.app {fs gs : List F} {l m : List Value} (h : FsL fs l) (h' : FsL gs m) : FsL (fs ++ gs) (l ++ m) := by
  induction fs generalizing l with
  | nil => cases h; exact h'
  | cons x fs ih =>
    obtain ⟨l1, l2, rfl, h1, h2⟩ := h
    exact ⟨l1, l2 ++ m, by simp, h1, ih h2⟩
theorem FsL.four {x y z u : F} {l : List Value} (h : FsL [x, y, z, u] l) : ∃ l1 l2, l = l1 ++ l2 ∧ FsL [x, y] l1 ∧ FsL [z, u] l2 := by
  obtain ⟨l1, l2, rfl, h1, l3, l4, rfl, h3, h4⟩ := h
  exact ⟨l1 ++ l3, l4, by simp, ⟨l1, l3, rfl, h1, l3, [], by simp, h3, rfl⟩, h4⟩
theorem FsL.zero1 : FsL [0] [.int .u64 0, .int .u64 0, .int .u64 0, .int .u64 0, .int .u64 0] :=
  ⟨_, [], by simp, ⟨0, 0, 0, 0, 0, rfl, ⟨by omega, by omega, by omega, by omega, by omega, by omega, by omega, by omega, by omega, by omega, rfl⟩⟩, rfl⟩

theorem BlkF.lt {w : World} {g : Nat} {fs : List F} {T : TypeId} (h : BlkF w g fs T) : g < w.heap.size := by obtain ⟨l, hB, _⟩ := h; exact hB.lt
theorem BlkF.old {w w' : World} {g : Nat} {fs : List F} {T : TypeId} (h : BlkF w g fs T) (hb : Below w.heap.size w w') : BlkF w' g fs T := by obtain ⟨l, hB, hf⟩ := h; exact ⟨l, hB.old hb, hf⟩
theorem BlkF.oldX {X : Nat → Prop} {w w' : World} {g : Nat} {fs : List F} {T : TypeId} (h : BlkF w g fs T) (hb : BelowX X w w') (hx : ¬ X g) : BlkF w' g fs T := by obtain ⟨l, hB, hf⟩ := h; exact ⟨l, hb.blk hB hx, hf⟩
theorem BlkF.alloc {w : World} {g : Nat} {fs : List F} {T : TypeId} (h : BlkF w g fs T) (o : Obj) : BlkF (w.alloc o) g fs T := by obtain ⟨l, hB, hf⟩ := h; exact ⟨l, hB.alloc o, hf⟩
theorem BlkF.of5 {w : World} {g : Nat} {x : F} {T : TypeId} {a0 a1 a2 a3 a4 : Int} (h : Blk w g #[.int .u64 a0, .int .u64 a1, .int .u64 a2, .int .u64 a3, .int .u64 a4] T) (hE : El x a0 a1 a2 a3 a4) : BlkF w g [x] T :=
  ⟨_, h, _, [], by simp, ⟨a0, a1, a2, a3, a4, rfl, hE⟩, rfl⟩

/-- Only the block g is changed. -/
theorem chg_of {w w' : World} {g : Nat} (h1 : w'.os = w.os) (h2 : w'.tape = w.tape) (h3 : w'.output = w.output) (h4 : w'.heap.size = w.heap.size) (h5 : ∀ k, k ≠ g → w'.heap[k]? = w.heap[k]?) : BelowX (fun k => k = g) w w' :=
  ⟨h1, h2, h3, by omega, fun k _ hk => h5 k hk⟩

theorem exec_ld1_0 {o : Oper} {a : Act} {w : World} {x : Operand} {g : Nat} {T : TypeId} {l : List Value} {a0 a1 a2 a3 a4 : Int} (ho : o.op = .load 27 x) (hx : a.eval x = .pointer (some ⟨g, 0, none⟩)) (hB : Blk w g l.toArray T) (hl : (l.drop 0).take 5 = [.int .u64 a0, .int .u64 a1, .int .u64 a2, .int .u64 a3, .int .u64 a4]) : (execOp a.eval o).run Try.prog w = .ok (.value (.agg #[.int .u64 a0, .int .u64 a1, .int .u64 a2, .int .u64 a3, .int .u64 a4])) w :=
  ld_agg [.int .u64 a0, .int .u64 a1, .int .u64 a2, .int .u64 a3, .int .u64 a4] ho hx hB ⟨by kernel_rfl, by kernel_rfl⟩ hl

theorem exec_ld1_5 {o : Oper} {a : Act} {w : World} {x : Operand} {g : Nat} {T : TypeId} {l : List Value} {a0 a1 a2 a3 a4 : Int} (ho : o.op = .load 27 x) (hx : a.eval x = .pointer (some ⟨g, 5, none⟩)) (hB : Blk w g l.toArray T) (hl : (l.drop 5).take 5 = [.int .u64 a0, .int .u64 a1, .int .u64 a2, .int .u64 a3, .int .u64 a4]) : (execOp a.eval o).run Try.prog w = .ok (.value (.agg #[.int .u64 a0, .int .u64 a1, .int .u64 a2, .int .u64 a3, .int .u64 a4])) w :=
  ld_agg [.int .u64 a0, .int .u64 a1, .int .u64 a2, .int .u64 a3, .int .u64 a4] ho hx hB ⟨by kernel_rfl, by kernel_rfl⟩ hl

theorem exec_ld1_10 {o : Oper} {a : Act} {w : World} {x : Operand} {g : Nat} {T : TypeId} {l : List Value} {a0 a1 a2 a3 a4 : Int} (ho : o.op = .load 27 x) (hx : a.eval x = .pointer (some ⟨g, 10, none⟩)) (hB : Blk w g l.toArray T) (hl : (l.drop 10).take 5 = [.int .u64 a0, .int .u64 a1, .int .u64 a2, .int .u64 a3, .int .u64 a4]) : (execOp a.eval o).run Try.prog w = .ok (.value (.agg #[.int .u64 a0, .int .u64 a1, .int .u64 a2, .int .u64 a3, .int .u64 a4])) w :=
  ld_agg [.int .u64 a0, .int .u64 a1, .int .u64 a2, .int .u64 a3, .int .u64 a4] ho hx hB ⟨by kernel_rfl, by kernel_rfl⟩ hl

theorem exec_ld1_15 {o : Oper} {a : Act} {w : World} {x : Operand} {g : Nat} {T : TypeId} {l : List Value} {a0 a1 a2 a3 a4 : Int} (ho : o.op = .load 27 x) (hx : a.eval x = .pointer (some ⟨g, 15, none⟩)) (hB : Blk w g l.toArray T) (hl : (l.drop 15).take 5 = [.int .u64 a0, .int .u64 a1, .int .u64 a2, .int .u64 a3, .int .u64 a4]) : (execOp a.eval o).run Try.prog w = .ok (.value (.agg #[.int .u64 a0, .int .u64 a1, .int .u64 a2, .int .u64 a3, .int .u64 a4])) w :=
  ld_agg [.int .u64 a0, .int .u64 a1, .int .u64 a2, .int .u64 a3, .int .u64 a4] ho hx hB ⟨by kernel_rfl, by kernel_rfl⟩ hl

theorem exec_ld2_0 {o : Oper} {a : Act} {w : World} {x : Operand} {g : Nat} {T : TypeId} {l : List Value} {a0 a1 a2 a3 a4 b0 b1 b2 b3 b4 : Int} (ho : o.op = .load 64 x) (hx : a.eval x = .pointer (some ⟨g, 0, none⟩)) (hB : Blk w g l.toArray T) (hl : (l.drop 0).take 10 = [.int .u64 a0, .int .u64 a1, .int .u64 a2, .int .u64 a3, .int .u64 a4, .int .u64 b0, .int .u64 b1, .int .u64 b2, .int .u64 b3, .int .u64 b4]) : (execOp a.eval o).run Try.prog w = .ok (.value (.agg #[.int .u64 a0, .int .u64 a1, .int .u64 a2, .int .u64 a3, .int .u64 a4, .int .u64 b0, .int .u64 b1, .int .u64 b2, .int .u64 b3, .int .u64 b4])) w :=
  ld_agg [.int .u64 a0, .int .u64 a1, .int .u64 a2, .int .u64 a3, .int .u64 a4, .int .u64 b0, .int .u64 b1, .int .u64 b2, .int .u64 b3, .int .u64 b4] ho hx hB ⟨by kernel_rfl, by kernel_rfl⟩ hl

theorem exec_ld2_10 {o : Oper} {a : Act} {w : World} {x : Operand} {g : Nat} {T : TypeId} {l : List Value} {a0 a1 a2 a3 a4 b0 b1 b2 b3 b4 : Int} (ho : o.op = .load 64 x) (hx : a.eval x = .pointer (some ⟨g, 10, none⟩)) (hB : Blk w g l.toArray T) (hl : (l.drop 10).take 10 = [.int .u64 a0, .int .u64 a1, .int .u64 a2, .int .u64 a3, .int .u64 a4, .int .u64 b0, .int .u64 b1, .int .u64 b2, .int .u64 b3, .int .u64 b4]) : (execOp a.eval o).run Try.prog w = .ok (.value (.agg #[.int .u64 a0, .int .u64 a1, .int .u64 a2, .int .u64 a3, .int .u64 a4, .int .u64 b0, .int .u64 b1, .int .u64 b2, .int .u64 b3, .int .u64 b4])) w :=
  ld_agg [.int .u64 a0, .int .u64 a1, .int .u64 a2, .int .u64 a3, .int .u64 a4, .int .u64 b0, .int .u64 b1, .int .u64 b2, .int .u64 b3, .int .u64 b4] ho hx hB ⟨by kernel_rfl, by kernel_rfl⟩ hl

theorem ld1_1_0 {o : Oper} {a : Act} {w : World} {x : Operand} {g : Nat} {T : TypeId} {x0 : F} (ho : o.op = .load 27 x) (hx : a.eval x = .pointer (some ⟨g, 0, none⟩)) (hF : BlkF w g [x0] T) : ∃ v, (execOp a.eval o).run Try.prog w = .ok (.value v) w ∧ ElV x0 v := by
  obtain ⟨l, hB, _, _, rfl, ⟨p0, p1, p2, p3, p4, rfl, hE0⟩, rfl⟩ := hF
  exact ⟨_, exec_ld1_0 ho hx hB rfl, _, _, _, _, _, rfl, hE0⟩

theorem ld1_2_0 {o : Oper} {a : Act} {w : World} {x : Operand} {g : Nat} {T : TypeId} {x0 x1 : F} (ho : o.op = .load 27 x) (hx : a.eval x = .pointer (some ⟨g, 0, none⟩)) (hF : BlkF w g [x0, x1] T) : ∃ v, (execOp a.eval o).run Try.prog w = .ok (.value v) w ∧ ElV x0 v := by
  obtain ⟨l, hB, _, _, rfl, ⟨p0, p1, p2, p3, p4, rfl, hE0⟩, ⟨_, _, rfl, ⟨q0, q1, q2, q3, q4, rfl, hE1⟩, rfl⟩⟩ := hF
  exact ⟨_, exec_ld1_0 ho hx hB rfl, _, _, _, _, _, rfl, hE0⟩

theorem ld1_2_1 {o : Oper} {a : Act} {w : World} {x : Operand} {g : Nat} {T : TypeId} {x0 x1 : F} (ho : o.op = .load 27 x) (hx : a.eval x = .pointer (some ⟨g, 5, none⟩)) (hF : BlkF w g [x0, x1] T) : ∃ v, (execOp a.eval o).run Try.prog w = .ok (.value v) w ∧ ElV x1 v := by
  obtain ⟨l, hB, _, _, rfl, ⟨p0, p1, p2, p3, p4, rfl, hE0⟩, ⟨_, _, rfl, ⟨q0, q1, q2, q3, q4, rfl, hE1⟩, rfl⟩⟩ := hF
  exact ⟨_, exec_ld1_5 ho hx hB rfl, _, _, _, _, _, rfl, hE1⟩

theorem ld2_2_0 {o : Oper} {a : Act} {w : World} {x : Operand} {g : Nat} {T : TypeId} {x0 x1 : F} (ho : o.op = .load 64 x) (hx : a.eval x = .pointer (some ⟨g, 0, none⟩)) (hF : BlkF w g [x0, x1] T) : ∃ v, (execOp a.eval o).run Try.prog w = .ok (.value v) w ∧ AgV [x0, x1] v := by
  obtain ⟨l, hB, _, _, rfl, ⟨p0, p1, p2, p3, p4, rfl, hE0⟩, ⟨_, _, rfl, ⟨q0, q1, q2, q3, q4, rfl, hE1⟩, rfl⟩⟩ := hF
  exact ⟨_, exec_ld2_0 ho hx hB rfl, _, rfl, FsL.two.2 ⟨_, _, _, _, _, _, _, _, _, _, rfl, hE0, hE1⟩⟩

theorem ld1_4_0 {o : Oper} {a : Act} {w : World} {x : Operand} {g : Nat} {T : TypeId} {x0 x1 x2 x3 : F} (ho : o.op = .load 27 x) (hx : a.eval x = .pointer (some ⟨g, 0, none⟩)) (hF : BlkF w g [x0, x1, x2, x3] T) : ∃ v, (execOp a.eval o).run Try.prog w = .ok (.value v) w ∧ ElV x0 v := by
  obtain ⟨l, hB, _, _, rfl, ⟨p0, p1, p2, p3, p4, rfl, hE0⟩, ⟨_, _, rfl, ⟨q0, q1, q2, q3, q4, rfl, hE1⟩, ⟨_, _, rfl, ⟨r0, r1, r2, r3, r4, rfl, hE2⟩, ⟨_, _, rfl, ⟨s0, s1, s2, s3, s4, rfl, hE3⟩, rfl⟩⟩⟩⟩ := hF
  exact ⟨_, exec_ld1_0 ho hx hB rfl, _, _, _, _, _, rfl, hE0⟩

theorem ld1_4_1 {o : Oper} {a : Act} {w : World} {x : Operand} {g : Nat} {T : TypeId} {x0 x1 x2 x3 : F} (ho : o.op = .load 27 x) (hx : a.eval x = .pointer (some ⟨g, 5, none⟩)) (hF : BlkF w g [x0, x1, x2, x3] T) : ∃ v, (execOp a.eval o).run Try.prog w = .ok (.value v) w ∧ ElV x1 v := by
  obtain ⟨l, hB, _, _, rfl, ⟨p0, p1, p2, p3, p4, rfl, hE0⟩, ⟨_, _, rfl, ⟨q0, q1, q2, q3, q4, rfl, hE1⟩, ⟨_, _, rfl, ⟨r0, r1, r2, r3, r4, rfl, hE2⟩, ⟨_, _, rfl, ⟨s0, s1, s2, s3, s4, rfl, hE3⟩, rfl⟩⟩⟩⟩ := hF
  exact ⟨_, exec_ld1_5 ho hx hB rfl, _, _, _, _, _, rfl, hE1⟩

theorem ld1_4_2 {o : Oper} {a : Act} {w : World} {x : Operand} {g : Nat} {T : TypeId} {x0 x1 x2 x3 : F} (ho : o.op = .load 27 x) (hx : a.eval x = .pointer (some ⟨g, 10, none⟩)) (hF : BlkF w g [x0, x1, x2, x3] T) : ∃ v, (execOp a.eval o).run Try.prog w = .ok (.value v) w ∧ ElV x2 v := by
  obtain ⟨l, hB, _, _, rfl, ⟨p0, p1, p2, p3, p4, rfl, hE0⟩, ⟨_, _, rfl, ⟨q0, q1, q2, q3, q4, rfl, hE1⟩, ⟨_, _, rfl, ⟨r0, r1, r2, r3, r4, rfl, hE2⟩, ⟨_, _, rfl, ⟨s0, s1, s2, s3, s4, rfl, hE3⟩, rfl⟩⟩⟩⟩ := hF
  exact ⟨_, exec_ld1_10 ho hx hB rfl, _, _, _, _, _, rfl, hE2⟩

theorem ld1_4_3 {o : Oper} {a : Act} {w : World} {x : Operand} {g : Nat} {T : TypeId} {x0 x1 x2 x3 : F} (ho : o.op = .load 27 x) (hx : a.eval x = .pointer (some ⟨g, 15, none⟩)) (hF : BlkF w g [x0, x1, x2, x3] T) : ∃ v, (execOp a.eval o).run Try.prog w = .ok (.value v) w ∧ ElV x3 v := by
  obtain ⟨l, hB, _, _, rfl, ⟨p0, p1, p2, p3, p4, rfl, hE0⟩, ⟨_, _, rfl, ⟨q0, q1, q2, q3, q4, rfl, hE1⟩, ⟨_, _, rfl, ⟨r0, r1, r2, r3, r4, rfl, hE2⟩, ⟨_, _, rfl, ⟨s0, s1, s2, s3, s4, rfl, hE3⟩, rfl⟩⟩⟩⟩ := hF
  exact ⟨_, exec_ld1_15 ho hx hB rfl, _, _, _, _, _, rfl, hE3⟩

theorem ld2_4_0 {o : Oper} {a : Act} {w : World} {x : Operand} {g : Nat} {T : TypeId} {x0 x1 x2 x3 : F} (ho : o.op = .load 64 x) (hx : a.eval x = .pointer (some ⟨g, 0, none⟩)) (hF : BlkF w g [x0, x1, x2, x3] T) : ∃ v, (execOp a.eval o).run Try.prog w = .ok (.value v) w ∧ AgV [x0, x1] v := by
  obtain ⟨l, hB, _, _, rfl, ⟨p0, p1, p2, p3, p4, rfl, hE0⟩, ⟨_, _, rfl, ⟨q0, q1, q2, q3, q4, rfl, hE1⟩, ⟨_, _, rfl, ⟨r0, r1, r2, r3, r4, rfl, hE2⟩, ⟨_, _, rfl, ⟨s0, s1, s2, s3, s4, rfl, hE3⟩, rfl⟩⟩⟩⟩ := hF
  exact ⟨_, exec_ld2_0 ho hx hB rfl, _, rfl, FsL.two.2 ⟨_, _, _, _, _, _, _, _, _, _, rfl, hE0, hE1⟩⟩

theorem ld2_4_1 {o : Oper} {a : Act} {w : World} {x : Operand} {g : Nat} {T : TypeId} {x0 x1 x2 x3 : F} (ho : o.op = .load 64 x) (hx : a.eval x = .pointer (some ⟨g, 10, none⟩)) (hF : BlkF w g [x0, x1, x2, x3] T) : ∃ v, (execOp a.eval o).run Try.prog w = .ok (.value v) w ∧ AgV [x2, x3] v := by
  obtain ⟨l, hB, _, _, rfl, ⟨p0, p1, p2, p3, p4, rfl, hE0⟩, ⟨_, _, rfl, ⟨q0, q1, q2, q3, q4, rfl, hE1⟩, ⟨_, _, rfl, ⟨r0, r1, r2, r3, r4, rfl, hE2⟩, ⟨_, _, rfl, ⟨s0, s1, s2, s3, s4, rfl, hE3⟩, rfl⟩⟩⟩⟩ := hF
  exact ⟨_, exec_ld2_10 ho hx hB rfl, _, rfl, FsL.two.2 ⟨_, _, _, _, _, _, _, _, _, _, rfl, hE2, hE3⟩⟩

set_option maxHeartbeats 2000000 in
theorem st1 {o : Oper} {a : Act} {w : World} {x y : Operand} {g : Nat} {T : TypeId} {x0 y0 : F} (ho : o.op = .store 27 x y) (hx : a.eval x = .pointer (some ⟨g, 0, none⟩)) (hF : BlkF w g [x0] T) (hV : AgV [y0] (a.eval y)) :
    ∃ w', (execOp a.eval o).run Try.prog w = .ok .skip w' ∧ BlkF w' g [y0] T ∧ BelowX (fun k => k = g) w w' := by
  obtain ⟨l, hB, _, _, rfl, ⟨p0, p1, p2, p3, p4, rfl, hE0⟩, rfl⟩ := hF
  obtain ⟨l', hy, _, _, rfl, ⟨ev0, ev1, ev2, ev3, ev4, rfl, hN0⟩, rfl⟩ := hV
  simp only [List.append_assoc, List.cons_append, List.nil_append, List.append_nil] at hB hy
  have hst := st_agg (vs := [.int .u64 ev0, .int .u64 ev1, .int .u64 ev2, .int .u64 ev3, .int .u64 ev4]) ho hx hy hB ⟨by kernel_rfl, by kernel_rfl⟩ (by simp) (by intro v hv; simp only [List.mem_cons, List.not_mem_nil, or_false] at hv; rcases hv with rfl | rfl | rfl | rfl | rfl <;> rfl)
  refine ⟨_, hst, ⟨_, blk_setRow hB, ?_⟩, chg_setRow hB⟩
  exact ⟨[_, _, _, _, _], _, rfl, ⟨_, _, _, _, _, rfl, hN0⟩, rfl⟩

set_option maxHeartbeats 2000000 in
theorem st2 {o : Oper} {a : Act} {w : World} {x y : Operand} {g : Nat} {T : TypeId} {x0 x1 y0 y1 : F} (ho : o.op = .store 64 x y) (hx : a.eval x = .pointer (some ⟨g, 0, none⟩)) (hF : BlkF w g [x0, x1] T) (hV : AgV [y0, y1] (a.eval y)) :
    ∃ w', (execOp a.eval o).run Try.prog w = .ok .skip w' ∧ BlkF w' g [y0, y1] T ∧ BelowX (fun k => k = g) w w' := by
  obtain ⟨l, hB, _, _, rfl, ⟨p0, p1, p2, p3, p4, rfl, hE0⟩, ⟨_, _, rfl, ⟨q0, q1, q2, q3, q4, rfl, hE1⟩, rfl⟩⟩ := hF
  obtain ⟨l', hy, _, _, rfl, ⟨ev0, ev1, ev2, ev3, ev4, rfl, hN0⟩, ⟨_, _, rfl, ⟨fv0, fv1, fv2, fv3, fv4, rfl, hN1⟩, rfl⟩⟩ := hV
  simp only [List.append_assoc, List.cons_append, List.nil_append, List.append_nil] at hB hy
  have hst := st_agg (vs := [.int .u64 ev0, .int .u64 ev1, .int .u64 ev2, .int .u64 ev3, .int .u64 ev4, .int .u64 fv0, .int .u64 fv1, .int .u64 fv2, .int .u64 fv3, .int .u64 fv4]) ho hx hy hB ⟨by kernel_rfl, by kernel_rfl⟩ (by simp) (by intro v hv; simp only [List.mem_cons, List.not_mem_nil, or_false] at hv; rcases hv with rfl | rfl | rfl | rfl | rfl | rfl | rfl | rfl | rfl | rfl <;> rfl)
  refine ⟨_, hst, ⟨_, blk_setRow hB, ?_⟩, chg_setRow hB⟩
  exact ⟨[_, _, _, _, _], _, rfl, ⟨_, _, _, _, _, rfl, hN0⟩, ⟨[_, _, _, _, _], _, rfl, ⟨_, _, _, _, _, rfl, hN1⟩, rfl⟩⟩

set_option maxHeartbeats 2000000 in
theorem st2_0 {o : Oper} {a : Act} {w : World} {x y : Operand} {g : Nat} {T : TypeId} {x0 x1 x2 x3 y0 y1 : F} (ho : o.op = .store 64 x y) (hx : a.eval x = .pointer (some ⟨g, 0, none⟩)) (hF : BlkF w g [x0, x1, x2, x3] T) (hV : AgV [y0, y1] (a.eval y)) :
    ∃ w', (execOp a.eval o).run Try.prog w = .ok .skip w' ∧ BlkF w' g [y0, y1, x2, x3] T ∧ BelowX (fun k => k = g) w w' := by
  obtain ⟨l, hB, _, _, rfl, ⟨p0, p1, p2, p3, p4, rfl, hE0⟩, ⟨_, _, rfl, ⟨q0, q1, q2, q3, q4, rfl, hE1⟩, ⟨_, _, rfl, ⟨r0, r1, r2, r3, r4, rfl, hE2⟩, ⟨_, _, rfl, ⟨s0, s1, s2, s3, s4, rfl, hE3⟩, rfl⟩⟩⟩⟩ := hF
  obtain ⟨l', hy, _, _, rfl, ⟨ev0, ev1, ev2, ev3, ev4, rfl, hN0⟩, ⟨_, _, rfl, ⟨fv0, fv1, fv2, fv3, fv4, rfl, hN1⟩, rfl⟩⟩ := hV
  simp only [List.append_assoc, List.cons_append, List.nil_append, List.append_nil] at hB hy
  have hst := st_agg (vs := [.int .u64 ev0, .int .u64 ev1, .int .u64 ev2, .int .u64 ev3, .int .u64 ev4, .int .u64 fv0, .int .u64 fv1, .int .u64 fv2, .int .u64 fv3, .int .u64 fv4]) ho hx hy hB ⟨by kernel_rfl, by kernel_rfl⟩ (by simp) (by intro v hv; simp only [List.mem_cons, List.not_mem_nil, or_false] at hv; rcases hv with rfl | rfl | rfl | rfl | rfl | rfl | rfl | rfl | rfl | rfl <;> rfl)
  refine ⟨_, hst, ⟨_, blk_setRow hB, ?_⟩, chg_setRow hB⟩
  exact ⟨[_, _, _, _, _], _, rfl, ⟨_, _, _, _, _, rfl, hN0⟩, ⟨[_, _, _, _, _], _, rfl, ⟨_, _, _, _, _, rfl, hN1⟩, ⟨[_, _, _, _, _], _, rfl, ⟨_, _, _, _, _, rfl, hE2⟩, ⟨[_, _, _, _, _], _, rfl, ⟨_, _, _, _, _, rfl, hE3⟩, rfl⟩⟩⟩⟩

set_option maxHeartbeats 2000000 in
theorem st2_1 {o : Oper} {a : Act} {w : World} {x y : Operand} {g : Nat} {T : TypeId} {x0 x1 x2 x3 y0 y1 : F} (ho : o.op = .store 64 x y) (hx : a.eval x = .pointer (some ⟨g, 10, none⟩)) (hF : BlkF w g [x0, x1, x2, x3] T) (hV : AgV [y0, y1] (a.eval y)) :
    ∃ w', (execOp a.eval o).run Try.prog w = .ok .skip w' ∧ BlkF w' g [x0, x1, y0, y1] T ∧ BelowX (fun k => k = g) w w' := by
  obtain ⟨l, hB, _, _, rfl, ⟨p0, p1, p2, p3, p4, rfl, hE0⟩, ⟨_, _, rfl, ⟨q0, q1, q2, q3, q4, rfl, hE1⟩, ⟨_, _, rfl, ⟨r0, r1, r2, r3, r4, rfl, hE2⟩, ⟨_, _, rfl, ⟨s0, s1, s2, s3, s4, rfl, hE3⟩, rfl⟩⟩⟩⟩ := hF
  obtain ⟨l', hy, _, _, rfl, ⟨ev0, ev1, ev2, ev3, ev4, rfl, hN0⟩, ⟨_, _, rfl, ⟨fv0, fv1, fv2, fv3, fv4, rfl, hN1⟩, rfl⟩⟩ := hV
  simp only [List.append_assoc, List.cons_append, List.nil_append, List.append_nil] at hB hy
  have hst := st_agg (vs := [.int .u64 ev0, .int .u64 ev1, .int .u64 ev2, .int .u64 ev3, .int .u64 ev4, .int .u64 fv0, .int .u64 fv1, .int .u64 fv2, .int .u64 fv3, .int .u64 fv4]) ho hx hy hB ⟨by kernel_rfl, by kernel_rfl⟩ (by simp) (by intro v hv; simp only [List.mem_cons, List.not_mem_nil, or_false] at hv; rcases hv with rfl | rfl | rfl | rfl | rfl | rfl | rfl | rfl | rfl | rfl <;> rfl)
  refine ⟨_, hst, ⟨_, blk_setRow hB, ?_⟩, chg_setRow hB⟩
  exact ⟨[_, _, _, _, _], _, rfl, ⟨_, _, _, _, _, rfl, hE0⟩, ⟨[_, _, _, _, _], _, rfl, ⟨_, _, _, _, _, rfl, hE1⟩, ⟨[_, _, _, _, _], _, rfl, ⟨_, _, _, _, _, rfl, hN0⟩, ⟨[_, _, _, _, _], _, rfl, ⟨_, _, _, _, _, rfl, hN1⟩, rfl⟩⟩⟩⟩

set_option maxHeartbeats 2000000 in
theorem st4 {o : Oper} {a : Act} {w : World} {x y : Operand} {g : Nat} {T : TypeId} {x0 x1 x2 x3 y0 y1 y2 y3 : F} (ho : o.op = .store 65 x y) (hx : a.eval x = .pointer (some ⟨g, 0, none⟩)) (hF : BlkF w g [x0, x1, x2, x3] T) (hV : AgV [y0, y1, y2, y3] (a.eval y)) :
    ∃ w', (execOp a.eval o).run Try.prog w = .ok .skip w' ∧ BlkF w' g [y0, y1, y2, y3] T ∧ BelowX (fun k => k = g) w w' := by
  obtain ⟨l, hB, _, _, rfl, ⟨p0, p1, p2, p3, p4, rfl, hE0⟩, ⟨_, _, rfl, ⟨q0, q1, q2, q3, q4, rfl, hE1⟩, ⟨_, _, rfl, ⟨r0, r1, r2, r3, r4, rfl, hE2⟩, ⟨_, _, rfl, ⟨s0, s1, s2, s3, s4, rfl, hE3⟩, rfl⟩⟩⟩⟩ := hF
  obtain ⟨l', hy, _, _, rfl, ⟨ev0, ev1, ev2, ev3, ev4, rfl, hN0⟩, ⟨_, _, rfl, ⟨fv0, fv1, fv2, fv3, fv4, rfl, hN1⟩, ⟨_, _, rfl, ⟨gv0, gv1, gv2, gv3, gv4, rfl, hN2⟩, ⟨_, _, rfl, ⟨hv0, hv1, hv2, hv3, hv4, rfl, hN3⟩, rfl⟩⟩⟩⟩ := hV
  simp only [List.append_assoc, List.cons_append, List.nil_append, List.append_nil] at hB hy
  have hst := st_agg (vs := [.int .u64 ev0, .int .u64 ev1, .int .u64 ev2, .int .u64 ev3, .int .u64 ev4, .int .u64 fv0, .int .u64 fv1, .int .u64 fv2, .int .u64 fv3, .int .u64 fv4, .int .u64 gv0, .int .u64 gv1, .int .u64 gv2, .int .u64 gv3, .int .u64 gv4, .int .u64 hv0, .int .u64 hv1, .int .u64 hv2, .int .u64 hv3, .int .u64 hv4]) ho hx hy hB ⟨by kernel_rfl, by kernel_rfl⟩ (by simp) (by intro v hv; simp only [List.mem_cons, List.not_mem_nil, or_false] at hv; rcases hv with rfl | rfl | rfl | rfl | rfl | rfl | rfl | rfl | rfl | rfl | rfl | rfl | rfl | rfl | rfl | rfl | rfl | rfl | rfl | rfl <;> rfl)
  refine ⟨_, hst, ⟨_, blk_setRow hB, ?_⟩, chg_setRow hB⟩
  exact ⟨[_, _, _, _, _], _, rfl, ⟨_, _, _, _, _, rfl, hN0⟩, ⟨[_, _, _, _, _], _, rfl, ⟨_, _, _, _, _, rfl, hN1⟩, ⟨[_, _, _, _, _], _, rfl, ⟨_, _, _, _, _, rfl, hN2⟩, ⟨[_, _, _, _, _], _, rfl, ⟨_, _, _, _, _, rfl, hN3⟩, rfl⟩⟩⟩⟩

theorem al1 {o : Oper} (ho : o.op = .alloc 27) (a : Act) (w : World) : ∃ ob, (execOp a.eval o).run Try.prog w = .ok (.value (.pointer (some ⟨w.heap.size, 0, none⟩))) (w.alloc ob) ∧ BlkF (w.alloc ob) w.heap.size [0] 27 := by
  refine ⟨.cells #[.int .u64 0, .int .u64 0, .int .u64 0, .int .u64 0, .int .u64 0] 27, ?_, [.int .u64 0, .int .u64 0, .int .u64 0, .int .u64 0, .int .u64 0], Blk.new _ _ _, FsL.zero1⟩
  generalize a.eval = ev
  simp [execOp, ho, go_sem]

theorem al2 {o : Oper} (ho : o.op = .alloc 64) (a : Act) (w : World) : ∃ ob, (execOp a.eval o).run Try.prog w = .ok (.value (.pointer (some ⟨w.heap.size, 0, none⟩))) (w.alloc ob) ∧ BlkF (w.alloc ob) w.heap.size [0, 0] 64 := by
  refine ⟨.cells #[.int .u64 0, .int .u64 0, .int .u64 0, .int .u64 0, .int .u64 0, .int .u64 0, .int .u64 0, .int .u64 0, .int .u64 0, .int .u64 0] 64, ?_, [.int .u64 0, .int .u64 0, .int .u64 0, .int .u64 0, .int .u64 0, .int .u64 0, .int .u64 0, .int .u64 0, .int .u64 0, .int .u64 0], Blk.new _ _ _, FsL.zero1.app FsL.zero1⟩
  generalize a.eval = ev
  simp [execOp, ho, go_sem]

theorem al4 {o : Oper} (ho : o.op = .alloc 65) (a : Act) (w : World) : ∃ ob, (execOp a.eval o).run Try.prog w = .ok (.value (.pointer (some ⟨w.heap.size, 0, none⟩))) (w.alloc ob) ∧ BlkF (w.alloc ob) w.heap.size [0, 0, 0, 0] 65 := by
  refine ⟨.cells #[.int .u64 0, .int .u64 0, .int .u64 0, .int .u64 0, .int .u64 0, .int .u64 0, .int .u64 0, .int .u64 0, .int .u64 0, .int .u64 0, .int .u64 0, .int .u64 0, .int .u64 0, .int .u64 0, .int .u64 0, .int .u64 0, .int .u64 0, .int .u64 0, .int .u64 0, .int .u64 0] 65, ?_, [.int .u64 0, .int .u64 0, .int .u64 0, .int .u64 0, .int .u64 0, .int .u64 0, .int .u64 0, .int .u64 0, .int .u64 0, .int .u64 0, .int .u64 0, .int .u64 0, .int .u64 0, .int .u64 0, .int .u64 0, .int .u64 0, .int .u64 0, .int .u64 0, .int .u64 0, .int .u64 0], Blk.new _ _ _, FsL.zero1.app (FsL.zero1.app (FsL.zero1.app FsL.zero1))⟩
  generalize a.eval = ev
  simp [execOp, ho, go_sem]

theorem bd2 {o : Oper} {a : Act} {w : World} {p q : Operand} {x0 y0 : F} (ho : o.op = .build 64 #[(0, p), (1, q)]) (hp : AgV [x0] (a.eval p)) (hq : AgV [y0] (a.eval q)) : ∃ v, (execOp a.eval o).run Try.prog w = .ok (.value v) w ∧ AgV [x0, y0] v := by
  obtain ⟨l, hp, _, _, rfl, ⟨p0, p1, p2, p3, p4, rfl, hE0⟩, rfl⟩ := hp
  obtain ⟨l', hq, _, _, rfl, ⟨ev0, ev1, ev2, ev3, ev4, rfl, hN0⟩, rfl⟩ := hq
  refine ⟨.agg #[.int .u64 p0, .int .u64 p1, .int .u64 p2, .int .u64 p3, .int .u64 p4, .int .u64 ev0, .int .u64 ev1, .int .u64 ev2, .int .u64 ev3, .int .u64 ev4], ?_, _, rfl, [_, _, _, _, _], _, rfl, ⟨_, _, _, _, _, rfl, hE0⟩, ⟨[_, _, _, _, _], _, rfl, ⟨_, _, _, _, _, rfl, hN0⟩, rfl⟩⟩
  simp only [List.append_assoc, List.cons_append, List.nil_append, List.append_nil] at hp hq
  generalize a.eval = ev at hp hq ⊢
  simp [execOp, ho, hp, hq, go_sem]

theorem bd4 {o : Oper} {a : Act} {w : World} {p q : Operand} {x0 x1 y0 y1 : F} (ho : o.op = .build 65 #[(0, p), (1, q)]) (hp : AgV [x0, x1] (a.eval p)) (hq : AgV [y0, y1] (a.eval q)) : ∃ v, (execOp a.eval o).run Try.prog w = .ok (.value v) w ∧ AgV [x0, x1, y0, y1] v := by
  obtain ⟨l, hp, _, _, rfl, ⟨p0, p1, p2, p3, p4, rfl, hE0⟩, ⟨_, _, rfl, ⟨q0, q1, q2, q3, q4, rfl, hE1⟩, rfl⟩⟩ := hp
  obtain ⟨l', hq, _, _, rfl, ⟨ev0, ev1, ev2, ev3, ev4, rfl, hN0⟩, ⟨_, _, rfl, ⟨fv0, fv1, fv2, fv3, fv4, rfl, hN1⟩, rfl⟩⟩ := hq
  refine ⟨.agg #[.int .u64 p0, .int .u64 p1, .int .u64 p2, .int .u64 p3, .int .u64 p4, .int .u64 q0, .int .u64 q1, .int .u64 q2, .int .u64 q3, .int .u64 q4, .int .u64 ev0, .int .u64 ev1, .int .u64 ev2, .int .u64 ev3, .int .u64 ev4, .int .u64 fv0, .int .u64 fv1, .int .u64 fv2, .int .u64 fv3, .int .u64 fv4], ?_, _, rfl, [_, _, _, _, _], _, rfl, ⟨_, _, _, _, _, rfl, hE0⟩, ⟨[_, _, _, _, _], _, rfl, ⟨_, _, _, _, _, rfl, hE1⟩, ⟨[_, _, _, _, _], _, rfl, ⟨_, _, _, _, _, rfl, hN0⟩, ⟨[_, _, _, _, _], _, rfl, ⟨_, _, _, _, _, rfl, hN1⟩, rfl⟩⟩⟩⟩
  simp only [List.append_assoc, List.cons_append, List.nil_append, List.append_nil] at hp hq
  generalize a.eval = ev at hp hq ⊢
  simp [execOp, ho, hp, hq, go_sem]

end Go.Proofs.Ytikjcikedbcfmaa
/-
  region_hot, with the frame behind it by puts; stores behind the drawn part.
-/
namespace Go.Proofs.Ytikjcikedbcfmaa
open Go.RowKit
set_option linter.unusedVariables false
set_option linter.unusedSimpArgs false

section
variable {ops : Array Oper} {Q : Exit → Act → World → Prop} {o : Oper} {rest : List Oper} {a : Act} {w : World} {x y : Operand} {g : Nat} {T : TypeId}
theorem tail_st1 {x0 y0 : F} (hg : o.guard = none) (hd : o.dst = none) (ho : o.op = .store 27 x y) (hx : a.eval x = .pointer (some ⟨g, 0, none⟩)) (hF : BlkF w g [x0] T) (hV : ElV y0 (a.eval y))
    (h : ∀ w', BlkF w' g [y0] T → BelowX (fun k => k = g) w w' → wpList Try.prog ops Q rest a w') : wpList Try.prog ops Q (o :: rest) a w := by
  obtain ⟨w', hr, h1, h2⟩ := st1 ho hx hF (AgV.one.2 hV)
  exact tail_skip hg hd hr (h w' h1 h2)
theorem tail_st2 {x0 x1 y0 y1 : F} (hg : o.guard = none) (hd : o.dst = none) (ho : o.op = .store 64 x y) (hx : a.eval x = .pointer (some ⟨g, 0, none⟩)) (hF : BlkF w g [x0, x1] T) (hV : AgV [y0, y1] (a.eval y))
    (h : ∀ w', BlkF w' g [y0, y1] T → BelowX (fun k => k = g) w w' → wpList Try.prog ops Q rest a w') : wpList Try.prog ops Q (o :: rest) a w := by
  obtain ⟨w', hr, h1, h2⟩ := st2 ho hx hF hV
  exact tail_skip hg hd hr (h w' h1 h2)
theorem tail_st4 {x0 x1 x2 x3 y0 y1 y2 y3 : F} (hg : o.guard = none) (hd : o.dst = none) (ho : o.op = .store 65 x y) (hx : a.eval x = .pointer (some ⟨g, 0, none⟩)) (hF : BlkF w g [x0, x1, x2, x3] T) (hV : AgV [y0, y1, y2, y3] (a.eval y))
    (h : ∀ w', BlkF w' g [y0, y1, y2, y3] T → BelowX (fun k => k = g) w w' → wpList Try.prog ops Q rest a w') : wpList Try.prog ops Q (o :: rest) a w := by
  obtain ⟨w', hr, h1, h2⟩ := st4 ho hx hF hV
  exact tail_skip hg hd hr (h w' h1 h2)
end

end Go.Proofs.Ytikjcikedbcfmaa
/-
  WALKS: curve.step.
-/
namespace Go.Proofs.Ytikjcikedbcfmaa
open Go.RowKit
set_option linter.unusedVariables false
set_option linter.unusedSimpArgs false
set_option maxRecDepth 100000

def twiceX (px pz : F) : F := ((px + pz) * (px + pz)) * ((px - pz) * (px - pz))
def twiceZ (px pz : F) : F := ((px + pz) * (px + pz) - (px - pz) * (px - pz)) * ((px + pz) * (px + pz) + toF 121665 * ((px + pz) * (px + pz) - (px - pz) * (px - pz)))
def bothX (px pz qx qz : F) : F := ((qx - qz) * (px + pz) + (qx + qz) * (px - pz)) * ((qx - qz) * (px + pz) + (qx + qz) * (px - pz))
def bothZ (px pz qx qz u : F) : F := u * (((qx - qz) * (px + pz) - (qx + qz) * (px - pz)) * ((qx - qz) * (px + pz) - (qx + qz) * (px - pz)))

theorem square_V {x : F} {u : Value} (hu : ElV x u) (w : World) : Calls Try.prog 49 #[u] w fun e w' => ∃ r, e = .returned r ∧ ElV (x * x) r ∧ Below w.heap.size w w' := by
  obtain ⟨a0, a1, a2, a3, a4, rfl, ha⟩ := hu
  go_enter Try.func49, Try.ntmps49
  go_wp2_with fail
  refine Calls.mono (Mul_any ha ha _) ?_
  rintro e w1 ⟨r0, r1, r2, r3, r4, rfl, hE, hb⟩
  have B0 : Blk w1 w.heap.size #[.int .u64 a0, .int .u64 a1, .int .u64 a2, .int .u64 a3, .int .u64 a4] 27 := hb.blk ((Blk.new _ _ _).alloc _) (by simp; omega)
  have B1 : Blk w1 (w.heap.size + 1) #[.int .u64 0, .int .u64 0, .int .u64 0, .int .u64 0, .int .u64 0] 27 := hb.blk (Blk.at _ _ (by simp)) (by simp)
  have HB : Below w.heap.size w w1 := ((((Below.refl _ _).alloc (Nat.le_refl _) _).alloc (by simp) _)).trans (hb.mono (by simp; omega))
  have f1 := B1.free
  have c1 := B1.cell
  have c2 := (B1.set5 (.int .u64 r0) (.int .u64 r1) (.int .u64 r2) (.int .u64 r3) (.int .u64 r4)).cell
  clear hb
  dsimp only
  go_wp2_with fail
  refine bodyPost_ret (v := .agg #[.int .u64 r0, .int .u64 r1, .int .u64 r2, .int .u64 r3, .int .u64 r4]) ?_ rfl ⟨_, rfl, ⟨r0, r1, r2, r3, r4, rfl, hE⟩, below_set5 _ _ _ _ _ HB (by omega)⟩
  simp [results, Try.results49, go_sem, c2]

def stepS1 (B : Nat) (px pz qx qz u : F) (g0 : Nat) : Nat → World → Value → Prop
  | 0, _, v => v = .pointer (some ⟨g0, 0, none⟩)
  | 1, _, v => ElV (px) v
  | 2, _, v => v = .pointer (some ⟨g0, 5, none⟩)
  | 3, _, v => ElV (pz) v
  | 4, _, v => ElV ((px) + (pz)) v
  | 5, _, v => v = .pointer (some ⟨g0, 0, none⟩)
  | 6, _, v => ElV (px) v
  | 7, _, v => v = .pointer (some ⟨g0, 5, none⟩)
  | 8, _, v => ElV (pz) v
  | 9, _, v => ElV ((px) - (pz)) v
  | 10, w, v => ∃ g, v = .pointer (some ⟨g, 0, none⟩) ∧ B ≤ g ∧ BlkF w g [0] 27
  | 11, w, v => ∃ g, v = .pointer (some ⟨g, 0, none⟩) ∧ B ≤ g ∧ BlkF w g [0] 27
  | _, _, _ => True

def stepS1K : Nat → HK
  | 10 => .fresh
  | 11 => .fresh
  | _ => .val

def stepS2 (B : Nat) (px pz qx qz u : F) (g0 g8 g9 : Nat) : Nat → World → Value → Prop
  | 0, _, v => ElV ((px) + (pz)) v
  | 1, _, v => ElV (((px) + (pz)) * ((px) + (pz))) v
  | 2, _, v => ElV ((px) - (pz)) v
  | 3, _, v => ElV (((px) - (pz)) * ((px) - (pz))) v
  | 4, w, v => ∃ g, v = .pointer (some ⟨g, 0, none⟩) ∧ B ≤ g ∧ BlkF w g [0] 27
  | 5, w, v => ∃ g, v = .pointer (some ⟨g, 0, none⟩) ∧ B ≤ g ∧ BlkF w g [0] 27
  | _, _, _ => True

def stepS2K : Nat → HK
  | 4 => .fresh
  | 5 => .fresh
  | _ => .val

def stepS4 (B : Nat) (px pz qx qz u : F) (g0 g10 g11 g12 g8 g9 : Nat) : Nat → World → Value → Prop
  | 0, _, v => v = .pointer (some ⟨(g0 + 1), 0, none⟩)
  | 1, _, v => ElV (qx) v
  | 2, _, v => v = .pointer (some ⟨(g0 + 1), 5, none⟩)
  | 3, _, v => ElV (qz) v
  | 4, _, v => ElV ((qx) - (qz)) v
  | 5, _, v => ElV ((px) + (pz)) v
  | 6, _, v => ElV (((qx) - (qz)) * ((px) + (pz))) v
  | 7, _, v => v = .pointer (some ⟨(g0 + 1), 0, none⟩)
  | 8, _, v => ElV (qx) v
  | 9, _, v => v = .pointer (some ⟨(g0 + 1), 5, none⟩)
  | 10, _, v => ElV (qz) v
  | 11, _, v => ElV ((qx) + (qz)) v
  | 12, _, v => ElV ((px) - (pz)) v
  | 13, _, v => ElV (((qx) + (qz)) * ((px) - (pz))) v
  | 14, w, v => ∃ g, v = .pointer (some ⟨g, 0, none⟩) ∧ B ≤ g ∧ BlkF w g [0] 27
  | 15, w, v => ∃ g, v = .pointer (some ⟨g, 0, none⟩) ∧ B ≤ g ∧ BlkF w g [0] 27
  | _, _, _ => True

def stepS4K : Nat → HK
  | 14 => .fresh
  | 15 => .fresh
  | _ => .val

def stepS5 (B : Nat) (px pz qx qz u : F) (g0 g10 g11 g12 g13 g14 g8 g9 : Nat) : Nat → World → Value → Prop
  | 0, _, v => ElV (((px) + (pz)) * ((px) + (pz))) v
  | 1, _, v => ElV (((px) - (pz)) * ((px) - (pz))) v
  | 2, _, v => ElV ((((px) + (pz)) * ((px) + (pz))) * (((px) - (pz)) * ((px) - (pz)))) v
  | 3, _, v => ElV ((((px) + (pz)) * ((px) + (pz))) - (((px) - (pz)) * ((px) - (pz)))) v
  | 4, _, v => ElV (((px) + (pz)) * ((px) + (pz))) v
  | 5, _, v => ElV (toF 121665) v
  | 6, _, v => ElV ((((px) + (pz)) * ((px) + (pz))) - (((px) - (pz)) * ((px) - (pz)))) v
  | 7, _, v => ElV ((toF 121665) * ((((px) + (pz)) * ((px) + (pz))) - (((px) - (pz)) * ((px) - (pz))))) v
  | 8, _, v => ElV ((((px) + (pz)) * ((px) + (pz))) + ((toF 121665) * ((((px) + (pz)) * ((px) + (pz))) - (((px) - (pz)) * ((px) - (pz)))))) v
  | 9, _, v => ElV (((((px) + (pz)) * ((px) + (pz))) - (((px) - (pz)) * ((px) - (pz)))) * ((((px) + (pz)) * ((px) + (pz))) + ((toF 121665) * ((((px) + (pz)) * ((px) + (pz))) - (((px) - (pz)) * ((px) - (pz))))))) v
  | 10, _, v => AgV [(((px) + (pz)) * ((px) + (pz))) * (((px) - (pz)) * ((px) - (pz))), ((((px) + (pz)) * ((px) + (pz))) - (((px) - (pz)) * ((px) - (pz)))) * ((((px) + (pz)) * ((px) + (pz))) + ((toF 121665) * ((((px) + (pz)) * ((px) + (pz))) - (((px) - (pz)) * ((px) - (pz))))))] v
  | 11, w, v => ∃ g, v = .pointer (some ⟨g, 0, none⟩) ∧ B ≤ g ∧ BlkF w g [0, 0] 64
  | _, _, _ => True

def stepS5K : Nat → HK
  | 11 => .fresh
  | _ => .val

def stepS6 (B : Nat) (px pz qx qz u : F) (g0 g10 g11 g12 g13 g14 g15 g8 g9 : Nat) : Nat → World → Value → Prop
  | 0, _, v => ElV (((qx) - (qz)) * ((px) + (pz))) v
  | 1, _, v => ElV (((qx) + (qz)) * ((px) - (pz))) v
  | 2, _, v => ElV ((((qx) - (qz)) * ((px) + (pz))) + (((qx) + (qz)) * ((px) - (pz)))) v
  | 3, _, v => ElV (((((qx) - (qz)) * ((px) + (pz))) + (((qx) + (qz)) * ((px) - (pz)))) * ((((qx) - (qz)) * ((px) + (pz))) + (((qx) + (qz)) * ((px) - (pz))))) v
  | 4, _, v => ElV (u) v
  | 5, _, v => ElV (((qx) - (qz)) * ((px) + (pz))) v
  | 6, _, v => ElV (((qx) + (qz)) * ((px) - (pz))) v
  | 7, _, v => ElV ((((qx) - (qz)) * ((px) + (pz))) - (((qx) + (qz)) * ((px) - (pz)))) v
  | 8, _, v => ElV (((((qx) - (qz)) * ((px) + (pz))) - (((qx) + (qz)) * ((px) - (pz)))) * ((((qx) - (qz)) * ((px) + (pz))) - (((qx) + (qz)) * ((px) - (pz))))) v
  | 9, _, v => ElV ((u) * (((((qx) - (qz)) * ((px) + (pz))) - (((qx) + (qz)) * ((px) - (pz)))) * ((((qx) - (qz)) * ((px) + (pz))) - (((qx) + (qz)) * ((px) - (pz)))))) v
  | 10, _, v => AgV [((((qx) - (qz)) * ((px) + (pz))) + (((qx) + (qz)) * ((px) - (pz)))) * ((((qx) - (qz)) * ((px) + (pz))) + (((qx) + (qz)) * ((px) - (pz)))), (u) * (((((qx) - (qz)) * ((px) + (pz))) - (((qx) + (qz)) * ((px) - (pz)))) * ((((qx) - (qz)) * ((px) + (pz))) - (((qx) + (qz)) * ((px) - (pz)))))] v
  | 11, w, v => ∃ g, v = .pointer (some ⟨g, 0, none⟩) ∧ B ≤ g ∧ BlkF w g [0, 0] 64
  | _, _, _ => True

def stepS6K : Nat → HK
  | 11 => .fresh
  | _ => .val

def stepS7 (B : Nat) (px pz qx qz u : F) (g0 g10 g11 g12 g13 g14 g15 g16 g8 g9 : Nat) : Nat → World → Value → Prop
  | 0, _, v => AgV [(((px) + (pz)) * ((px) + (pz))) * (((px) - (pz)) * ((px) - (pz))), ((((px) + (pz)) * ((px) + (pz))) - (((px) - (pz)) * ((px) - (pz)))) * ((((px) + (pz)) * ((px) + (pz))) + ((toF 121665) * ((((px) + (pz)) * ((px) + (pz))) - (((px) - (pz)) * ((px) - (pz))))))] v
  | 1, _, v => AgV [((((qx) - (qz)) * ((px) + (pz))) + (((qx) + (qz)) * ((px) - (pz)))) * ((((qx) - (qz)) * ((px) + (pz))) + (((qx) + (qz)) * ((px) - (pz)))), (u) * (((((qx) - (qz)) * ((px) + (pz))) - (((qx) + (qz)) * ((px) - (pz)))) * ((((qx) - (qz)) * ((px) + (pz))) - (((qx) + (qz)) * ((px) - (pz)))))] v
  | 2, _, _ => True
  | _, _, _ => True

def stepS7K : Nat → HK
  | 2 => .hot
  | _ => .val

set_option maxHeartbeats 8000000 in
theorem step_V {px pz qx qz u : F} {vp vq vu : Value} (hp : AgV [px, pz] vp) (hq : AgV [qx, qz] vq) (hu : ElV u vu) (w : World) :
    Calls Try.prog 41 #[vp, vq, vu] w fun e w' => ∃ r1 r2, e = .returned (.tuple #[r1, r2]) ∧ AgV [twiceX px pz, twiceZ px pz] r1 ∧ AgV [bothX px pz qx qz, bothZ px pz qx qz u] r2 ∧ Below w.heap.size w w' := by
  obtain ⟨lp, rfl, hp⟩ := hp
  obtain ⟨lq, rfl, hq⟩ := hq
  obtain ⟨a0, a1, a2, a3, a4, b0, b1, b2, b3, b4, rfl, hp0, hp1⟩ := FsL.two.1 hp
  obtain ⟨c0, c1, c2, c3, c4, d0, d1, d2, d3, d4, rfl, hq0, hq1⟩ := FsL.two.1 hq
  obtain ⟨e0, e1, e2, e3, e4, rfl, hu⟩ := hu
  go_enter Try.func41, Try.ntmps41
  go_wp2_with fail
  obtain ⟨g0, hg0⟩ : ∃ g, w.heap.size = g := ⟨_, rfl⟩
  have hF3 : BlkF (((((w.alloc (.cells #[.int .u64 a0, .int .u64 a1, .int .u64 a2, .int .u64 a3, .int .u64 a4, .int .u64 b0, .int .u64 b1, .int .u64 b2, .int .u64 b3, .int .u64 b4] 64)).alloc (.cells #[.int .u64 c0, .int .u64 c1, .int .u64 c2, .int .u64 c3, .int .u64 c4, .int .u64 d0, .int .u64 d1, .int .u64 d2, .int .u64 d3, .int .u64 d4] 64)).alloc (.cells #[.int .u64 e0, .int .u64 e1, .int .u64 e2, .int .u64 e3, .int .u64 e4] 27)).alloc (.cells #[.int .u64 0, .int .u64 0, .int .u64 0, .int .u64 0, .int .u64 0, .int .u64 0, .int .u64 0, .int .u64 0, .int .u64 0, .int .u64 0] 64)).alloc (.cells #[.int .u64 0, .int .u64 0, .int .u64 0, .int .u64 0, .int .u64 0, .int .u64 0, .int .u64 0, .int .u64 0, .int .u64 0, .int .u64 0] 64)) g0 [px, pz] 64 := ⟨[.int .u64 a0, .int .u64 a1, .int .u64 a2, .int .u64 a3, .int .u64 a4, .int .u64 b0, .int .u64 b1, .int .u64 b2, .int .u64 b3, .int .u64 b4], (((((Blk.at (w := w) _ _ (by first | exact hg0 | (rw [← hg0]; simp))).alloc _).alloc _).alloc _).alloc _), FsL.two.2 ⟨_, _, _, _, _, _, _, _, _, _, rfl, hp0, hp1⟩⟩
  have hF4 : BlkF (((((w.alloc (.cells #[.int .u64 a0, .int .u64 a1, .int .u64 a2, .int .u64 a3, .int .u64 a4, .int .u64 b0, .int .u64 b1, .int .u64 b2, .int .u64 b3, .int .u64 b4] 64)).alloc (.cells #[.int .u64 c0, .int .u64 c1, .int .u64 c2, .int .u64 c3, .int .u64 c4, .int .u64 d0, .int .u64 d1, .int .u64 d2, .int .u64 d3, .int .u64 d4] 64)).alloc (.cells #[.int .u64 e0, .int .u64 e1, .int .u64 e2, .int .u64 e3, .int .u64 e4] 27)).alloc (.cells #[.int .u64 0, .int .u64 0, .int .u64 0, .int .u64 0, .int .u64 0, .int .u64 0, .int .u64 0, .int .u64 0, .int .u64 0, .int .u64 0] 64)).alloc (.cells #[.int .u64 0, .int .u64 0, .int .u64 0, .int .u64 0, .int .u64 0, .int .u64 0, .int .u64 0, .int .u64 0, .int .u64 0, .int .u64 0] 64)) (g0 + 1) [qx, qz] 64 := ⟨[.int .u64 c0, .int .u64 c1, .int .u64 c2, .int .u64 c3, .int .u64 c4, .int .u64 d0, .int .u64 d1, .int .u64 d2, .int .u64 d3, .int .u64 d4], ((((Blk.at (w := (w.alloc (.cells #[.int .u64 a0, .int .u64 a1, .int .u64 a2, .int .u64 a3, .int .u64 a4, .int .u64 b0, .int .u64 b1, .int .u64 b2, .int .u64 b3, .int .u64 b4] 64))) _ _ (by first | exact hg0 | (rw [← hg0]; simp))).alloc _).alloc _).alloc _), FsL.two.2 ⟨_, _, _, _, _, _, _, _, _, _, rfl, hq0, hq1⟩⟩
  have hF5 : BlkF (((((w.alloc (.cells #[.int .u64 a0, .int .u64 a1, .int .u64 a2, .int .u64 a3, .int .u64 a4, .int .u64 b0, .int .u64 b1, .int .u64 b2, .int .u64 b3, .int .u64 b4] 64)).alloc (.cells #[.int .u64 c0, .int .u64 c1, .int .u64 c2, .int .u64 c3, .int .u64 c4, .int .u64 d0, .int .u64 d1, .int .u64 d2, .int .u64 d3, .int .u64 d4] 64)).alloc (.cells #[.int .u64 e0, .int .u64 e1, .int .u64 e2, .int .u64 e3, .int .u64 e4] 27)).alloc (.cells #[.int .u64 0, .int .u64 0, .int .u64 0, .int .u64 0, .int .u64 0, .int .u64 0, .int .u64 0, .int .u64 0, .int .u64 0, .int .u64 0] 64)).alloc (.cells #[.int .u64 0, .int .u64 0, .int .u64 0, .int .u64 0, .int .u64 0, .int .u64 0, .int .u64 0, .int .u64 0, .int .u64 0, .int .u64 0] 64)) (g0 + 1 + 1) [u] 27 := ⟨[.int .u64 e0, .int .u64 e1, .int .u64 e2, .int .u64 e3, .int .u64 e4], (((Blk.at (w := ((w.alloc (.cells #[.int .u64 a0, .int .u64 a1, .int .u64 a2, .int .u64 a3, .int .u64 a4, .int .u64 b0, .int .u64 b1, .int .u64 b2, .int .u64 b3, .int .u64 b4] 64)).alloc (.cells #[.int .u64 c0, .int .u64 c1, .int .u64 c2, .int .u64 c3, .int .u64 c4, .int .u64 d0, .int .u64 d1, .int .u64 d2, .int .u64 d3, .int .u64 d4] 64))) _ _ (by first | exact hg0 | (rw [← hg0]; simp))).alloc _).alloc _), ⟨_, [], by simp, ⟨_, _, _, _, _, rfl, hu⟩, rfl⟩⟩
  have hF6 : BlkF (((((w.alloc (.cells #[.int .u64 a0, .int .u64 a1, .int .u64 a2, .int .u64 a3, .int .u64 a4, .int .u64 b0, .int .u64 b1, .int .u64 b2, .int .u64 b3, .int .u64 b4] 64)).alloc (.cells #[.int .u64 c0, .int .u64 c1, .int .u64 c2, .int .u64 c3, .int .u64 c4, .int .u64 d0, .int .u64 d1, .int .u64 d2, .int .u64 d3, .int .u64 d4] 64)).alloc (.cells #[.int .u64 e0, .int .u64 e1, .int .u64 e2, .int .u64 e3, .int .u64 e4] 27)).alloc (.cells #[.int .u64 0, .int .u64 0, .int .u64 0, .int .u64 0, .int .u64 0, .int .u64 0, .int .u64 0, .int .u64 0, .int .u64 0, .int .u64 0] 64)).alloc (.cells #[.int .u64 0, .int .u64 0, .int .u64 0, .int .u64 0, .int .u64 0, .int .u64 0, .int .u64 0, .int .u64 0, .int .u64 0, .int .u64 0] 64)) (g0 + 1 + 1 + 1) [0, 0] 64 := ⟨[.int .u64 0, .int .u64 0, .int .u64 0, .int .u64 0, .int .u64 0, .int .u64 0, .int .u64 0, .int .u64 0, .int .u64 0, .int .u64 0], ((Blk.at (w := (((w.alloc (.cells #[.int .u64 a0, .int .u64 a1, .int .u64 a2, .int .u64 a3, .int .u64 a4, .int .u64 b0, .int .u64 b1, .int .u64 b2, .int .u64 b3, .int .u64 b4] 64)).alloc (.cells #[.int .u64 c0, .int .u64 c1, .int .u64 c2, .int .u64 c3, .int .u64 c4, .int .u64 d0, .int .u64 d1, .int .u64 d2, .int .u64 d3, .int .u64 d4] 64)).alloc (.cells #[.int .u64 e0, .int .u64 e1, .int .u64 e2, .int .u64 e3, .int .u64 e4] 27))) _ _ (by first | exact hg0 | (rw [← hg0]; simp))).alloc _), FsL.zero1.app FsL.zero1⟩
  have hF7 : BlkF (((((w.alloc (.cells #[.int .u64 a0, .int .u64 a1, .int .u64 a2, .int .u64 a3, .int .u64 a4, .int .u64 b0, .int .u64 b1, .int .u64 b2, .int .u64 b3, .int .u64 b4] 64)).alloc (.cells #[.int .u64 c0, .int .u64 c1, .int .u64 c2, .int .u64 c3, .int .u64 c4, .int .u64 d0, .int .u64 d1, .int .u64 d2, .int .u64 d3, .int .u64 d4] 64)).alloc (.cells #[.int .u64 e0, .int .u64 e1, .int .u64 e2, .int .u64 e3, .int .u64 e4] 27)).alloc (.cells #[.int .u64 0, .int .u64 0, .int .u64 0, .int .u64 0, .int .u64 0, .int .u64 0, .int .u64 0, .int .u64 0, .int .u64 0, .int .u64 0] 64)).alloc (.cells #[.int .u64 0, .int .u64 0, .int .u64 0, .int .u64 0, .int .u64 0, .int .u64 0, .int .u64 0, .int .u64 0, .int .u64 0, .int .u64 0] 64)) (g0 + 1 + 1 + 1 + 1) [0, 0] 64 := ⟨[.int .u64 0, .int .u64 0, .int .u64 0, .int .u64 0, .int .u64 0, .int .u64 0, .int .u64 0, .int .u64 0, .int .u64 0, .int .u64 0], (Blk.at (w := ((((w.alloc (.cells #[.int .u64 a0, .int .u64 a1, .int .u64 a2, .int .u64 a3, .int .u64 a4, .int .u64 b0, .int .u64 b1, .int .u64 b2, .int .u64 b3, .int .u64 b4] 64)).alloc (.cells #[.int .u64 c0, .int .u64 c1, .int .u64 c2, .int .u64 c3, .int .u64 c4, .int .u64 d0, .int .u64 d1, .int .u64 d2, .int .u64 d3, .int .u64 d4] 64)).alloc (.cells #[.int .u64 e0, .int .u64 e1, .int .u64 e2, .int .u64 e3, .int .u64 e4] 27)).alloc (.cells #[.int .u64 0, .int .u64 0, .int .u64 0, .int .u64 0, .int .u64 0, .int .u64 0, .int .u64 0, .int .u64 0, .int .u64 0, .int .u64 0] 64))) _ _ (by first | exact hg0 | (rw [← hg0]; simp))), FsL.zero1.app FsL.zero1⟩
  have HB : Below w.heap.size w (((((w.alloc (.cells #[.int .u64 a0, .int .u64 a1, .int .u64 a2, .int .u64 a3, .int .u64 a4, .int .u64 b0, .int .u64 b1, .int .u64 b2, .int .u64 b3, .int .u64 b4] 64)).alloc (.cells #[.int .u64 c0, .int .u64 c1, .int .u64 c2, .int .u64 c3, .int .u64 c4, .int .u64 d0, .int .u64 d1, .int .u64 d2, .int .u64 d3, .int .u64 d4] 64)).alloc (.cells #[.int .u64 e0, .int .u64 e1, .int .u64 e2, .int .u64 e3, .int .u64 e4] 27)).alloc (.cells #[.int .u64 0, .int .u64 0, .int .u64 0, .int .u64 0, .int .u64 0, .int .u64 0, .int .u64 0, .int .u64 0, .int .u64 0, .int .u64 0] 64)).alloc (.cells #[.int .u64 0, .int .u64 0, .int .u64 0, .int .u64 0, .int .u64 0, .int .u64 0, .int .u64 0, .int .u64 0, .int .u64 0, .int .u64 0] 64)) := ((((((Below.refl _ _).alloc (by simp; try omega) _).alloc (by simp; try omega) _).alloc (by simp; try omega) _).alloc (by simp; try omega) _).alloc (by simp; try omega) _)
  have hle0 : w.heap.size ≤ g0 := by omega
  rw [hg0]
  generalize (((((w.alloc (.cells #[.int .u64 a0, .int .u64 a1, .int .u64 a2, .int .u64 a3, .int .u64 a4, .int .u64 b0, .int .u64 b1, .int .u64 b2, .int .u64 b3, .int .u64 b4] 64)).alloc (.cells #[.int .u64 c0, .int .u64 c1, .int .u64 c2, .int .u64 c3, .int .u64 c4, .int .u64 d0, .int .u64 d1, .int .u64 d2, .int .u64 d3, .int .u64 d4] 64)).alloc (.cells #[.int .u64 e0, .int .u64 e1, .int .u64 e2, .int .u64 e3, .int .u64 e4] 27)).alloc (.cells #[.int .u64 0, .int .u64 0, .int .u64 0, .int .u64 0, .int .u64 0, .int .u64 0, .int .u64 0, .int .u64 0, .int .u64 0, .int .u64 0] 64)).alloc (.cells #[.int .u64 0, .int .u64 0, .int .u64 0, .int .u64 0, .int .u64 0, .int .u64 0, .int .u64 0, .int .u64 0, .int .u64 0, .int .u64 0] 64)) = w1 at *
  clear hp hq hp0 hp1 hq0 hq1 hu hg0
  have hw : w.heap.size ≤ w1.heap.size := HB.size
  have z3 := hF3.lt
  have z4 := hF4.lt
  have z5 := hF5.lt
  have z6 := hF6.lt
  have z7 := hF7.lt
  have y1 := z7
  refine region_hotV 12 stepS1K (stepS1 (w1.heap.size) px pz qx qz u g0) (fun _ _ => True) (fun _ => False) [17, 18, 19, 20, 21, 22, 23, 24, 25, 26, 8, 9] (by kernel_rfl) (by kernel_rfl) (by kernel_rfl) (by kernel_rfl) (by kernel_rfl) ?_ (fun _ _ _ _ _ => trivial) (fun _ _ _ _ _ => trivial) ?_ trivial (hots_all ?_) ?_
  · exact fun i w w' v h hb => by revert h; unfold stepS1; split <;> first | exact id | (rintro ⟨g, hv, hg, hB⟩; exact ⟨g, hv, hg, hB.oldX hb (fun h => h)⟩)
  · exact fun i w v hk h => by unfold stepS1K at hk; split at hk <;> first | (cases hk; done) | (obtain ⟨g, hv, _, hB⟩ := h; exact ⟨g, hv, hB.lt⟩)
  · simp only [List.take_succ_cons, List.take_zero, HotFrom]
    refine ⟨?_, ?_, ?_, ?_, ?_, ?_, ?_, ?_, ?_, ?_, ?_, ?_, trivial⟩
    · refine hot_val rfl rfl (fun L a w' hat => ?_)
      have h0 : a.eval (.tmp 3) = .pointer (some ⟨g0, 0, none⟩) := (hat.others 3 (by decide)).trans rfl
      exact out_of (v := .pointer (some ⟨g0, 0, none⟩)) (by (generalize a.eval = ev at *); simp [execOp, go_sem, h0]) rfl
    · refine hot_val rfl rfl (fun L a w' hat => ?_)
      have h0 : a.eval (.tmp 17) = .pointer (some ⟨g0, 0, none⟩) := hat.deps ⟨0, .data⟩ (by simp) rfl 17 (by decide) rfl
      exact out_ex (ld1_2_0 rfl h0 (hF3.oldX hat.grow (fun h => h))) (fun u hE => hE)
    · refine hot_val rfl rfl (fun L a w' hat => ?_)
      have h0 : a.eval (.tmp 3) = .pointer (some ⟨g0, 0, none⟩) := (hat.others 3 (by decide)).trans rfl
      exact out_of (v := .pointer (some ⟨g0, 5, none⟩)) (by (generalize a.eval = ev at *); simp [execOp, go_sem, h0]) rfl
    · refine hot_val rfl rfl (fun L a w' hat => ?_)
      have h0 : a.eval (.tmp 19) = .pointer (some ⟨g0, 5, none⟩) := hat.deps ⟨2, .data⟩ (by simp) rfl 19 (by decide) rfl
      exact out_ex (ld1_2_1 rfl h0 (hF3.oldX hat.grow (fun h => h))) (fun u hE => hE)
    · refine hot_val rfl rfl (fun L a w' hat => ?_)
      have h0 : ElV (px) (a.eval (.tmp 18)) := hat.deps ⟨1, .data⟩ (by simp) rfl 18 (by decide) rfl
      have h1 : ElV (pz) (a.eval (.tmp 20)) := hat.deps ⟨3, .data⟩ (by simp) rfl 20 (by decide) rfl
      exact .inr ⟨_, #[a.eval (.tmp 18), a.eval (.tmp 20)], exec_call Try.func12 (by kernel_rfl) (by kernel_rfl) _ rfl _ _ (by simp), Add_V h0 h1 _⟩
    · refine hot_val rfl rfl (fun L a w' hat => ?_)
      have h0 : a.eval (.tmp 3) = .pointer (some ⟨g0, 0, none⟩) := (hat.others 3 (by decide)).trans rfl
      exact out_of (v := .pointer (some ⟨g0, 0, none⟩)) (by (generalize a.eval = ev at *); simp [execOp, go_sem, h0]) rfl
    · refine hot_val rfl rfl (fun L a w' hat => ?_)
      have h0 : a.eval (.tmp 22) = .pointer (some ⟨g0, 0, none⟩) := hat.deps ⟨5, .data⟩ (by simp) rfl 22 (by decide) rfl
      exact out_ex (ld1_2_0 rfl h0 (hF3.oldX hat.grow (fun h => h))) (fun u hE => hE)
    · refine hot_val rfl rfl (fun L a w' hat => ?_)
      have h0 : a.eval (.tmp 3) = .pointer (some ⟨g0, 0, none⟩) := (hat.others 3 (by decide)).trans rfl
      exact out_of (v := .pointer (some ⟨g0, 5, none⟩)) (by (generalize a.eval = ev at *); simp [execOp, go_sem, h0]) rfl
    · refine hot_val rfl rfl (fun L a w' hat => ?_)
      have h0 : a.eval (.tmp 24) = .pointer (some ⟨g0, 5, none⟩) := hat.deps ⟨7, .data⟩ (by simp) rfl 24 (by decide) rfl
      exact out_ex (ld1_2_1 rfl h0 (hF3.oldX hat.grow (fun h => h))) (fun u hE => hE)
    · refine hot_val rfl rfl (fun L a w' hat => ?_)
      have h0 : ElV (px) (a.eval (.tmp 23)) := hat.deps ⟨6, .data⟩ (by simp) rfl 23 (by decide) rfl
      have h1 : ElV (pz) (a.eval (.tmp 25)) := hat.deps ⟨8, .data⟩ (by simp) rfl 25 (by decide) rfl
      exact .inr ⟨_, #[a.eval (.tmp 23), a.eval (.tmp 25)], exec_call Try.func14 (by kernel_rfl) (by kernel_rfl) _ rfl _ _ (by simp), Sub_V h0 h1 _⟩
    · refine hot_fresh rfl rfl (fun L a w' hat => ?_)
      exact fresh_ex (al1 rfl a w') (fun ob hB => ⟨_, rfl, Nat.le_trans (Nat.le_refl _) hat.grow.size, hB⟩)
    · refine hot_fresh rfl rfl (fun L a w' hat => ?_)
      exact fresh_ex (al1 rfl a w') (fun ob hB => ⟨_, rfl, Nat.le_trans (Nat.le_refl _) hat.grow.size, hB⟩)
  intro L gs w2 hbx hV hall hH hap
  replace hF3 := hF3.oldX hbx (fun h => h)
  replace hF4 := hF4.oldX hbx (fun h => h)
  replace hF5 := hF5.oldX hbx (fun h => h)
  replace hF6 := hF6.oldX hbx (fun h => h)
  replace hF7 := hF7.oldX hbx (fun h => h)
  replace HB := hbx.below HB HB.size (fun k h => h.elim)
  obtain ⟨g8, hv8, hg8, hF8⟩ := hV 10 (by omega) (by decide) 8 rfl
  obtain ⟨g9, hv9, hg9, hF9⟩ := hV 11 (by omega) (by decide) 9 rfl
  have n8_9 : g8 ≠ g9 := ptr_ne (by rw [← hv8, ← hv9]; exact hap 10 11 8 9 (by omega) (by omega) rfl rfl (by omega) rfl rfl)
  have n9_8 : g9 ≠ g8 := ptr_ne (by rw [← hv9, ← hv8]; exact hap 11 10 9 8 (by omega) (by omega) rfl rfl (by omega) rfl rfl)
  have hs8 := hV 4 (by omega) (by decide) 21 rfl
  have hs9 := hV 9 (by omega) (by decide) 26 rfl
  simp only [List.map_cons, List.map_nil, puts, Act.put, hv8, hv9, List.setIfInBounds_toArray, List.set_cons_zero, List.set_cons_succ, List.drop_succ_cons, List.drop_zero]
  clear hV hall hH hap hbx hv8 hv9
  refine tail_st1 rfl rfl rfl rfl hF8 hs8 (fun w3 hN hc => ?_)
  replace hF3 := hF3.oldX hc (by omega)
  replace hF4 := hF4.oldX hc (by omega)
  replace hF5 := hF5.oldX hc (by omega)
  replace hF6 := hF6.oldX hc (by omega)
  replace hF7 := hF7.oldX hc (by omega)
  replace hF9 := hF9.oldX hc (by omega)
  clear hF8
  have hF8 := hN
  clear hN
  replace HB := hc.below HB HB.size (fun k hk => by rw [hk]; omega)
  clear hc hs8
  refine tail_st1 rfl rfl rfl rfl hF9 hs9 (fun w4 hN hc => ?_)
  replace hF3 := hF3.oldX hc (by omega)
  replace hF4 := hF4.oldX hc (by omega)
  replace hF5 := hF5.oldX hc (by omega)
  replace hF6 := hF6.oldX hc (by omega)
  replace hF7 := hF7.oldX hc (by omega)
  replace hF8 := hF8.oldX hc (by omega)
  clear hF9
  have hF9 := hN
  clear hN
  replace HB := hc.below HB HB.size (fun k hk => by rw [hk]; omega)
  clear hc hs9
  clear z3 z4 z5 z6 z7
  refine wpList_nil ?_
  show Exit.then _ _ .normal _ _
  go_wp2_with fail
  have z3 := hF3.lt
  have z4 := hF4.lt
  have z5 := hF5.lt
  have z6 := hF6.lt
  have z7 := hF7.lt
  have z8 := hF8.lt
  have z9 := hF9.lt
  have y2 := z7
  refine region_hotV 6 stepS2K (stepS2 (w4.heap.size) px pz qx qz u g0 g8 g9) (fun _ _ => True) (fun _ => False) [27, 28, 29, 30, 10, 11] (by kernel_rfl) (by kernel_rfl) (by kernel_rfl) (by kernel_rfl) (by kernel_rfl) ?_ (fun _ _ _ _ _ => trivial) (fun _ _ _ _ _ => trivial) ?_ trivial (hots_all ?_) ?_
  · exact fun i w w' v h hb => by revert h; unfold stepS2; split <;> first | exact id | (rintro ⟨g, hv, hg, hB⟩; exact ⟨g, hv, hg, hB.oldX hb (fun h => h)⟩)
  · exact fun i w v hk h => by unfold stepS2K at hk; split at hk <;> first | (cases hk; done) | (obtain ⟨g, hv, _, hB⟩ := h; exact ⟨g, hv, hB.lt⟩)
  · simp only [List.take_succ_cons, List.take_zero, HotFrom]
    refine ⟨?_, ?_, ?_, ?_, ?_, ?_, trivial⟩
    · refine hot_val rfl rfl (fun L a w' hat => ?_)
      have h0 : a.eval (.tmp 8) = .pointer (some ⟨g8, 0, none⟩) := (hat.others 8 (by decide)).trans rfl
      exact out_ex (ld1_1_0 rfl h0 (hF8.oldX hat.grow (fun h => h))) (fun u hE => hE)
    · refine hot_val rfl rfl (fun L a w' hat => ?_)
      have h0 : ElV ((px) + (pz)) (a.eval (.tmp 27)) := hat.deps ⟨0, .data⟩ (by simp) rfl 27 (by decide) rfl
      exact .inr ⟨_, #[a.eval (.tmp 27)], exec_call Try.func49 (by kernel_rfl) (by kernel_rfl) _ rfl _ _ (by simp), square_V h0 _⟩
    · refine hot_val rfl rfl (fun L a w' hat => ?_)
      have h0 : a.eval (.tmp 9) = .pointer (some ⟨g9, 0, none⟩) := (hat.others 9 (by decide)).trans rfl
      exact out_ex (ld1_1_0 rfl h0 (hF9.oldX hat.grow (fun h => h))) (fun u hE => hE)
    · refine hot_val rfl rfl (fun L a w' hat => ?_)
      have h0 : ElV ((px) - (pz)) (a.eval (.tmp 29)) := hat.deps ⟨2, .data⟩ (by simp) rfl 29 (by decide) rfl
      exact .inr ⟨_, #[a.eval (.tmp 29)], exec_call Try.func49 (by kernel_rfl) (by kernel_rfl) _ rfl _ _ (by simp), square_V h0 _⟩
    · refine hot_fresh rfl rfl (fun L a w' hat => ?_)
      exact fresh_ex (al1 rfl a w') (fun ob hB => ⟨_, rfl, Nat.le_trans (Nat.le_refl _) hat.grow.size, hB⟩)
    · refine hot_fresh rfl rfl (fun L a w' hat => ?_)
      exact fresh_ex (al1 rfl a w') (fun ob hB => ⟨_, rfl, Nat.le_trans (Nat.le_refl _) hat.grow.size, hB⟩)
  intro L gs w5 hbx hV hall hH hap
  replace hF3 := hF3.oldX hbx (fun h => h)
  replace hF4 := hF4.oldX hbx (fun h => h)
  replace hF5 := hF5.oldX hbx (fun h => h)
  replace hF6 := hF6.oldX hbx (fun h => h)
  replace hF7 := hF7.oldX hbx (fun h => h)
  replace hF8 := hF8.oldX hbx (fun h => h)
  replace hF9 := hF9.oldX hbx (fun h => h)
  replace HB := hbx.below HB HB.size (fun k h => h.elim)
  obtain ⟨g10, hv10, hg10, hF10⟩ := hV 4 (by omega) (by decide) 10 rfl
  obtain ⟨g11, hv11, hg11, hF11⟩ := hV 5 (by omega) (by decide) 11 rfl
  have n10_11 : g10 ≠ g11 := ptr_ne (by rw [← hv10, ← hv11]; exact hap 4 5 10 11 (by omega) (by omega) rfl rfl (by omega) rfl rfl)
  have n11_10 : g11 ≠ g10 := ptr_ne (by rw [← hv11, ← hv10]; exact hap 5 4 11 10 (by omega) (by omega) rfl rfl (by omega) rfl rfl)
  have hs10 := hV 1 (by omega) (by decide) 28 rfl
  have hs11 := hV 3 (by omega) (by decide) 30 rfl
  simp only [List.map_cons, List.map_nil, puts, Act.put, hv10, hv11, List.setIfInBounds_toArray, List.set_cons_zero, List.set_cons_succ, List.drop_succ_cons, List.drop_zero]
  clear hV hall hH hap hbx hv10 hv11
  refine tail_st1 rfl rfl rfl rfl hF10 hs10 (fun w6 hN hc => ?_)
  replace hF3 := hF3.oldX hc (by omega)
  replace hF4 := hF4.oldX hc (by omega)
  replace hF5 := hF5.oldX hc (by omega)
  replace hF6 := hF6.oldX hc (by omega)
  replace hF7 := hF7.oldX hc (by omega)
  replace hF8 := hF8.oldX hc (by omega)
  replace hF9 := hF9.oldX hc (by omega)
  replace hF11 := hF11.oldX hc (by omega)
  clear hF10
  have hF10 := hN
  clear hN
  replace HB := hc.below HB HB.size (fun k hk => by rw [hk]; omega)
  clear hc hs10
  refine tail_st1 rfl rfl rfl rfl hF11 hs11 (fun w7 hN hc => ?_)
  replace hF3 := hF3.oldX hc (by omega)
  replace hF4 := hF4.oldX hc (by omega)
  replace hF5 := hF5.oldX hc (by omega)
  replace hF6 := hF6.oldX hc (by omega)
  replace hF7 := hF7.oldX hc (by omega)
  replace hF8 := hF8.oldX hc (by omega)
  replace hF9 := hF9.oldX hc (by omega)
  replace hF10 := hF10.oldX hc (by omega)
  clear hF11
  have hF11 := hN
  clear hN
  replace HB := hc.below HB HB.size (fun k hk => by rw [hk]; omega)
  clear hc hs11
  clear z3 z4 z5 z6 z7 z8 z9
  refine wpList_nil ?_
  show Exit.then _ _ .normal _ _
  obtain ⟨l, B10, _, _, rfl, ⟨m0, m1, m2, m3, m4, rfl, hE10⟩, rfl⟩ := hF10
  have c10 := B10.cell
  obtain ⟨l, B11, _, _, rfl, ⟨n0, n1, n2, n3, n4, rfl, hE11⟩, rfl⟩ := hF11
  have c11 := B11.cell
  simp only [List.append_nil, List.cons_append, List.nil_append] at c10 c11 B10 B11
  go_wp2_with fail
  refine Calls.mono (Sub_any hE10 hE11 _) ?_
  rintro e w8 ⟨k0, k1, k2, k3, k4, rfl, hk, hb⟩
  replace B10 := B10.old hb
  replace B11 := B11.old hb
  replace hF3 := hF3.old hb
  replace hF4 := hF4.old hb
  replace hF5 := hF5.old hb
  replace hF6 := hF6.old hb
  replace hF7 := hF7.old hb
  replace hF8 := hF8.old hb
  replace hF9 := hF9.old hb
  replace HB := below_from HB hb
  have hF10 := BlkF.of5 B10 hE10
  have hF11 := BlkF.of5 B11 hE11
  clear hb B10 B11 hE10 hE11 c10 c11
  dsimp only
  go_wp2_with fail
  obtain ⟨g12, hg12⟩ : ∃ g, w8.heap.size = g := ⟨_, rfl⟩
  have z3 := hF3.lt
  have z4 := hF4.lt
  have z5 := hF5.lt
  have z6 := hF6.lt
  have z7 := hF7.lt
  have z8 := hF8.lt
  have z9 := hF9.lt
  have z10 := hF10.lt
  have z11 := hF11.lt
  rw [hg12]
  rw [hg12] at z3 z4 z5 z6 z7 z8 z9 z10 z11
  replace hF3 := hF3.alloc (.cells #[.int .u64 k0, .int .u64 k1, .int .u64 k2, .int .u64 k3, .int .u64 k4] 27)
  replace hF4 := hF4.alloc (.cells #[.int .u64 k0, .int .u64 k1, .int .u64 k2, .int .u64 k3, .int .u64 k4] 27)
  replace hF5 := hF5.alloc (.cells #[.int .u64 k0, .int .u64 k1, .int .u64 k2, .int .u64 k3, .int .u64 k4] 27)
  replace hF6 := hF6.alloc (.cells #[.int .u64 k0, .int .u64 k1, .int .u64 k2, .int .u64 k3, .int .u64 k4] 27)
  replace hF7 := hF7.alloc (.cells #[.int .u64 k0, .int .u64 k1, .int .u64 k2, .int .u64 k3, .int .u64 k4] 27)
  replace hF8 := hF8.alloc (.cells #[.int .u64 k0, .int .u64 k1, .int .u64 k2, .int .u64 k3, .int .u64 k4] 27)
  replace hF9 := hF9.alloc (.cells #[.int .u64 k0, .int .u64 k1, .int .u64 k2, .int .u64 k3, .int .u64 k4] 27)
  replace hF10 := hF10.alloc (.cells #[.int .u64 k0, .int .u64 k1, .int .u64 k2, .int .u64 k3, .int .u64 k4] 27)
  replace hF11 := hF11.alloc (.cells #[.int .u64 k0, .int .u64 k1, .int .u64 k2, .int .u64 k3, .int .u64 k4] 27)
  have hF12 := BlkF.of5 (Blk.at (w := w8) #[.int .u64 k0, .int .u64 k1, .int .u64 k2, .int .u64 k3, .int .u64 k4] 27 hg12) hk
  replace HB : Below w.heap.size w (w8.alloc (.cells #[.int .u64 k0, .int .u64 k1, .int .u64 k2, .int .u64 k3, .int .u64 k4] 27)) := HB.alloc HB.size _
  clear hk
  generalize (w8.alloc (.cells #[.int .u64 k0, .int .u64 k1, .int .u64 k2, .int .u64 k3, .int .u64 k4] 27)) = w9 at *
  clear hg12 
  have n12_3 : g12 ≠ g0 := by omega
  have n3_12 : g0 ≠ g12 := by omega
  have n12_4 : g12 ≠ (g0 + 1) := by omega
  have n4_12 : (g0 + 1) ≠ g12 := by omega
  have n12_5 : g12 ≠ (g0 + 1 + 1) := by omega
  have n5_12 : (g0 + 1 + 1) ≠ g12 := by omega
  have n12_6 : g12 ≠ (g0 + 1 + 1 + 1) := by omega
  have n6_12 : (g0 + 1 + 1 + 1) ≠ g12 := by omega
  have n12_7 : g12 ≠ (g0 + 1 + 1 + 1 + 1) := by omega
  have n7_12 : (g0 + 1 + 1 + 1 + 1) ≠ g12 := by omega
  have n12_8 : g12 ≠ g8 := by omega
  have n8_12 : g8 ≠ g12 := by omega
  have n12_9 : g12 ≠ g9 := by omega
  have n9_12 : g9 ≠ g12 := by omega
  have n12_10 : g12 ≠ g10 := by omega
  have n10_12 : g10 ≠ g12 := by omega
  have n12_11 : g12 ≠ g11 := by omega
  have n11_12 : g11 ≠ g12 := by omega
  clear z3 z4 z5 z6 z7 z8 z9 z10 z11
  have z3 := hF3.lt
  have z4 := hF4.lt
  have z5 := hF5.lt
  have z6 := hF6.lt
  have z7 := hF7.lt
  have z8 := hF8.lt
  have z9 := hF9.lt
  have z10 := hF10.lt
  have z11 := hF11.lt
  have z12 := hF12.lt
  have y4 := z7
  refine region_hotV 16 stepS4K (stepS4 (w9.heap.size) px pz qx qz u g0 g10 g11 g12 g8 g9) (fun _ _ => True) (fun _ => False) [34, 35, 36, 37, 38, 39, 40, 41, 42, 43, 44, 45, 46, 47, 13, 14] (by kernel_rfl) (by kernel_rfl) (by kernel_rfl) (by kernel_rfl) (by kernel_rfl) ?_ (fun _ _ _ _ _ => trivial) (fun _ _ _ _ _ => trivial) ?_ trivial (hots_all ?_) ?_
  · exact fun i w w' v h hb => by revert h; unfold stepS4; split <;> first | exact id | (rintro ⟨g, hv, hg, hB⟩; exact ⟨g, hv, hg, hB.oldX hb (fun h => h)⟩)
  · exact fun i w v hk h => by unfold stepS4K at hk; split at hk <;> first | (cases hk; done) | (obtain ⟨g, hv, _, hB⟩ := h; exact ⟨g, hv, hB.lt⟩)
  · simp only [List.take_succ_cons, List.take_zero, HotFrom]
    refine ⟨?_, ?_, ?_, ?_, ?_, ?_, ?_, ?_, ?_, ?_, ?_, ?_, ?_, ?_, ?_, ?_, trivial⟩
    · refine hot_val rfl rfl (fun L a w' hat => ?_)
      have h0 : a.eval (.tmp 4) = .pointer (some ⟨(g0 + 1), 0, none⟩) := (hat.others 4 (by decide)).trans rfl
      exact out_of (v := .pointer (some ⟨(g0 + 1), 0, none⟩)) (by (generalize a.eval = ev at *); simp [execOp, go_sem, h0]) rfl
    · refine hot_val rfl rfl (fun L a w' hat => ?_)
      have h0 : a.eval (.tmp 34) = .pointer (some ⟨(g0 + 1), 0, none⟩) := hat.deps ⟨0, .data⟩ (by simp) rfl 34 (by decide) rfl
      exact out_ex (ld1_2_0 rfl h0 (hF4.oldX hat.grow (fun h => h))) (fun u hE => hE)
    · refine hot_val rfl rfl (fun L a w' hat => ?_)
      have h0 : a.eval (.tmp 4) = .pointer (some ⟨(g0 + 1), 0, none⟩) := (hat.others 4 (by decide)).trans rfl
      exact out_of (v := .pointer (some ⟨(g0 + 1), 5, none⟩)) (by (generalize a.eval = ev at *); simp [execOp, go_sem, h0]) rfl
    · refine hot_val rfl rfl (fun L a w' hat => ?_)
      have h0 : a.eval (.tmp 36) = .pointer (some ⟨(g0 + 1), 5, none⟩) := hat.deps ⟨2, .data⟩ (by simp) rfl 36 (by decide) rfl
      exact out_ex (ld1_2_1 rfl h0 (hF4.oldX hat.grow (fun h => h))) (fun u hE => hE)
    · refine hot_val rfl rfl (fun L a w' hat => ?_)
      have h0 : ElV (qx) (a.eval (.tmp 35)) := hat.deps ⟨1, .data⟩ (by simp) rfl 35 (by decide) rfl
      have h1 : ElV (qz) (a.eval (.tmp 37)) := hat.deps ⟨3, .data⟩ (by simp) rfl 37 (by decide) rfl
      exact .inr ⟨_, #[a.eval (.tmp 35), a.eval (.tmp 37)], exec_call Try.func14 (by kernel_rfl) (by kernel_rfl) _ rfl _ _ (by simp), Sub_V h0 h1 _⟩
    · refine hot_val rfl rfl (fun L a w' hat => ?_)
      have h0 : a.eval (.tmp 8) = .pointer (some ⟨g8, 0, none⟩) := (hat.others 8 (by decide)).trans rfl
      exact out_ex (ld1_1_0 rfl h0 (hF8.oldX hat.grow (fun h => h))) (fun u hE => hE)
    · refine hot_val rfl rfl (fun L a w' hat => ?_)
      have h0 : ElV ((qx) - (qz)) (a.eval (.tmp 38)) := hat.deps ⟨4, .data⟩ (by simp) rfl 38 (by decide) rfl
      have h1 : ElV ((px) + (pz)) (a.eval (.tmp 39)) := hat.deps ⟨5, .data⟩ (by simp) rfl 39 (by decide) rfl
      exact .inr ⟨_, #[a.eval (.tmp 38), a.eval (.tmp 39)], exec_call Try.func16 (by kernel_rfl) (by kernel_rfl) _ rfl _ _ (by simp), Mul_V h0 h1 _⟩
    · refine hot_val rfl rfl (fun L a w' hat => ?_)
      have h0 : a.eval (.tmp 4) = .pointer (some ⟨(g0 + 1), 0, none⟩) := (hat.others 4 (by decide)).trans rfl
      exact out_of (v := .pointer (some ⟨(g0 + 1), 0, none⟩)) (by (generalize a.eval = ev at *); simp [execOp, go_sem, h0]) rfl
    · refine hot_val rfl rfl (fun L a w' hat => ?_)
      have h0 : a.eval (.tmp 41) = .pointer (some ⟨(g0 + 1), 0, none⟩) := hat.deps ⟨7, .data⟩ (by simp) rfl 41 (by decide) rfl
      exact out_ex (ld1_2_0 rfl h0 (hF4.oldX hat.grow (fun h => h))) (fun u hE => hE)
    · refine hot_val rfl rfl (fun L a w' hat => ?_)
      have h0 : a.eval (.tmp 4) = .pointer (some ⟨(g0 + 1), 0, none⟩) := (hat.others 4 (by decide)).trans rfl
      exact out_of (v := .pointer (some ⟨(g0 + 1), 5, none⟩)) (by (generalize a.eval = ev at *); simp [execOp, go_sem, h0]) rfl
    · refine hot_val rfl rfl (fun L a w' hat => ?_)
      have h0 : a.eval (.tmp 43) = .pointer (some ⟨(g0 + 1), 5, none⟩) := hat.deps ⟨9, .data⟩ (by simp) rfl 43 (by decide) rfl
      exact out_ex (ld1_2_1 rfl h0 (hF4.oldX hat.grow (fun h => h))) (fun u hE => hE)
    · refine hot_val rfl rfl (fun L a w' hat => ?_)
      have h0 : ElV (qx) (a.eval (.tmp 42)) := hat.deps ⟨8, .data⟩ (by simp) rfl 42 (by decide) rfl
      have h1 : ElV (qz) (a.eval (.tmp 44)) := hat.deps ⟨10, .data⟩ (by simp) rfl 44 (by decide) rfl
      exact .inr ⟨_, #[a.eval (.tmp 42), a.eval (.tmp 44)], exec_call Try.func12 (by kernel_rfl) (by kernel_rfl) _ rfl _ _ (by simp), Add_V h0 h1 _⟩
    · refine hot_val rfl rfl (fun L a w' hat => ?_)
      have h0 : a.eval (.tmp 9) = .pointer (some ⟨g9, 0, none⟩) := (hat.others 9 (by decide)).trans rfl
      exact out_ex (ld1_1_0 rfl h0 (hF9.oldX hat.grow (fun h => h))) (fun u hE => hE)
    · refine hot_val rfl rfl (fun L a w' hat => ?_)
      have h0 : ElV ((qx) + (qz)) (a.eval (.tmp 45)) := hat.deps ⟨11, .data⟩ (by simp) rfl 45 (by decide) rfl
      have h1 : ElV ((px) - (pz)) (a.eval (.tmp 46)) := hat.deps ⟨12, .data⟩ (by simp) rfl 46 (by decide) rfl
      exact .inr ⟨_, #[a.eval (.tmp 45), a.eval (.tmp 46)], exec_call Try.func16 (by kernel_rfl) (by kernel_rfl) _ rfl _ _ (by simp), Mul_V h0 h1 _⟩
    · refine hot_fresh rfl rfl (fun L a w' hat => ?_)
      exact fresh_ex (al1 rfl a w') (fun ob hB => ⟨_, rfl, Nat.le_trans (Nat.le_refl _) hat.grow.size, hB⟩)
    · refine hot_fresh rfl rfl (fun L a w' hat => ?_)
      exact fresh_ex (al1 rfl a w') (fun ob hB => ⟨_, rfl, Nat.le_trans (Nat.le_refl _) hat.grow.size, hB⟩)
  intro L gs w10 hbx hV hall hH hap
  replace hF3 := hF3.oldX hbx (fun h => h)
  replace hF4 := hF4.oldX hbx (fun h => h)
  replace hF5 := hF5.oldX hbx (fun h => h)
  replace hF6 := hF6.oldX hbx (fun h => h)
  replace hF7 := hF7.oldX hbx (fun h => h)
  replace hF8 := hF8.oldX hbx (fun h => h)
  replace hF9 := hF9.oldX hbx (fun h => h)
  replace hF10 := hF10.oldX hbx (fun h => h)
  replace hF11 := hF11.oldX hbx (fun h => h)
  replace hF12 := hF12.oldX hbx (fun h => h)
  replace HB := hbx.below HB HB.size (fun k h => h.elim)
  obtain ⟨g13, hv13, hg13, hF13⟩ := hV 14 (by omega) (by decide) 13 rfl
  obtain ⟨g14, hv14, hg14, hF14⟩ := hV 15 (by omega) (by decide) 14 rfl
  have n13_14 : g13 ≠ g14 := ptr_ne (by rw [← hv13, ← hv14]; exact hap 14 15 13 14 (by omega) (by omega) rfl rfl (by omega) rfl rfl)
  have n14_13 : g14 ≠ g13 := ptr_ne (by rw [← hv14, ← hv13]; exact hap 15 14 14 13 (by omega) (by omega) rfl rfl (by omega) rfl rfl)
  have hs13 := hV 6 (by omega) (by decide) 40 rfl
  have hs14 := hV 13 (by omega) (by decide) 47 rfl
  simp only [List.map_cons, List.map_nil, puts, Act.put, hv13, hv14, List.setIfInBounds_toArray, List.set_cons_zero, List.set_cons_succ, List.drop_succ_cons, List.drop_zero]
  clear hV hall hH hap hbx hv13 hv14
  refine tail_st1 rfl rfl rfl rfl hF13 hs13 (fun w11 hN hc => ?_)
  replace hF3 := hF3.oldX hc (by omega)
  replace hF4 := hF4.oldX hc (by omega)
  replace hF5 := hF5.oldX hc (by omega)
  replace hF6 := hF6.oldX hc (by omega)
  replace hF7 := hF7.oldX hc (by omega)
  replace hF8 := hF8.oldX hc (by omega)
  replace hF9 := hF9.oldX hc (by omega)
  replace hF10 := hF10.oldX hc (by omega)
  replace hF11 := hF11.oldX hc (by omega)
  replace hF12 := hF12.oldX hc (by omega)
  replace hF14 := hF14.oldX hc (by omega)
  clear hF13
  have hF13 := hN
  clear hN
  replace HB := hc.below HB HB.size (fun k hk => by rw [hk]; omega)
  clear hc hs13
  refine tail_st1 rfl rfl rfl rfl hF14 hs14 (fun w12 hN hc => ?_)
  replace hF3 := hF3.oldX hc (by omega)
  replace hF4 := hF4.oldX hc (by omega)
  replace hF5 := hF5.oldX hc (by omega)
  replace hF6 := hF6.oldX hc (by omega)
  replace hF7 := hF7.oldX hc (by omega)
  replace hF8 := hF8.oldX hc (by omega)
  replace hF9 := hF9.oldX hc (by omega)
  replace hF10 := hF10.oldX hc (by omega)
  replace hF11 := hF11.oldX hc (by omega)
  replace hF12 := hF12.oldX hc (by omega)
  replace hF13 := hF13.oldX hc (by omega)
  clear hF14
  have hF14 := hN
  clear hN
  replace HB := hc.below HB HB.size (fun k hk => by rw [hk]; omega)
  clear hc hs14
  clear z3 z4 z5 z6 z7 z8 z9 z10 z11 z12
  refine wpList_nil ?_
  show Exit.then _ _ .normal _ _
  go_wp2_with fail
  have z3 := hF3.lt
  have z4 := hF4.lt
  have z5 := hF5.lt
  have z6 := hF6.lt
  have z7 := hF7.lt
  have z8 := hF8.lt
  have z9 := hF9.lt
  have z10 := hF10.lt
  have z11 := hF11.lt
  have z12 := hF12.lt
  have z13 := hF13.lt
  have z14 := hF14.lt
  have y5 := z7
  refine region_hotV 12 stepS5K (stepS5 (w12.heap.size) px pz qx qz u g0 g10 g11 g12 g13 g14 g8 g9) (fun _ _ => True) (fun _ => False) [48, 49, 50, 51, 52, 53, 54, 55, 56, 57, 58, 15] (by kernel_rfl) (by kernel_rfl) (by kernel_rfl) (by kernel_rfl) (by kernel_rfl) ?_ (fun _ _ _ _ _ => trivial) (fun _ _ _ _ _ => trivial) ?_ trivial (hots_all ?_) ?_
  · exact fun i w w' v h hb => by revert h; unfold stepS5; split <;> first | exact id | (rintro ⟨g, hv, hg, hB⟩; exact ⟨g, hv, hg, hB.oldX hb (fun h => h)⟩)
  · exact fun i w v hk h => by unfold stepS5K at hk; split at hk <;> first | (cases hk; done) | (obtain ⟨g, hv, _, hB⟩ := h; exact ⟨g, hv, hB.lt⟩)
  · simp only [List.take_succ_cons, List.take_zero, HotFrom]
    refine ⟨?_, ?_, ?_, ?_, ?_, ?_, ?_, ?_, ?_, ?_, ?_, ?_, trivial⟩
    · refine hot_val rfl rfl (fun L a w' hat => ?_)
      have h0 : a.eval (.tmp 10) = .pointer (some ⟨g10, 0, none⟩) := (hat.others 10 (by decide)).trans rfl
      exact out_ex (ld1_1_0 rfl h0 (hF10.oldX hat.grow (fun h => h))) (fun u hE => hE)
    · refine hot_val rfl rfl (fun L a w' hat => ?_)
      have h0 : a.eval (.tmp 11) = .pointer (some ⟨g11, 0, none⟩) := (hat.others 11 (by decide)).trans rfl
      exact out_ex (ld1_1_0 rfl h0 (hF11.oldX hat.grow (fun h => h))) (fun u hE => hE)
    · refine hot_val rfl rfl (fun L a w' hat => ?_)
      have h0 : ElV (((px) + (pz)) * ((px) + (pz))) (a.eval (.tmp 48)) := hat.deps ⟨0, .data⟩ (by simp) rfl 48 (by decide) rfl
      have h1 : ElV (((px) - (pz)) * ((px) - (pz))) (a.eval (.tmp 49)) := hat.deps ⟨1, .data⟩ (by simp) rfl 49 (by decide) rfl
      exact .inr ⟨_, #[a.eval (.tmp 48), a.eval (.tmp 49)], exec_call Try.func16 (by kernel_rfl) (by kernel_rfl) _ rfl _ _ (by simp), Mul_V h0 h1 _⟩
    · refine hot_val rfl rfl (fun L a w' hat => ?_)
      have h0 : a.eval (.tmp 12) = .pointer (some ⟨g12, 0, none⟩) := (hat.others 12 (by decide)).trans rfl
      exact out_ex (ld1_1_0 rfl h0 (hF12.oldX hat.grow (fun h => h))) (fun u hE => hE)
    · refine hot_val rfl rfl (fun L a w' hat => ?_)
      have h0 : a.eval (.tmp 10) = .pointer (some ⟨g10, 0, none⟩) := (hat.others 10 (by decide)).trans rfl
      exact out_ex (ld1_1_0 rfl h0 (hF10.oldX hat.grow (fun h => h))) (fun u hE => hE)
    · refine hot_val rfl rfl (fun L a w' hat => ?_)
      have h0 : a.eval (.const (Value.int IntKind.u64 121665)) = .int .u64 121665 := rfl
      exact .inr ⟨_, #[.int .u64 (121665)], exec_call Try.func9 (by kernel_rfl) (by kernel_rfl) _ rfl _ _ (by simp [Act.eval]), Of_V _ _ (by omega) (by omega)⟩
    · refine hot_val rfl rfl (fun L a w' hat => ?_)
      have h0 : a.eval (.tmp 12) = .pointer (some ⟨g12, 0, none⟩) := (hat.others 12 (by decide)).trans rfl
      exact out_ex (ld1_1_0 rfl h0 (hF12.oldX hat.grow (fun h => h))) (fun u hE => hE)
    · refine hot_val rfl rfl (fun L a w' hat => ?_)
      have h0 : ElV (toF 121665) (a.eval (.tmp 53)) := hat.deps ⟨5, .data⟩ (by simp) rfl 53 (by decide) rfl
      have h1 : ElV ((((px) + (pz)) * ((px) + (pz))) - (((px) - (pz)) * ((px) - (pz)))) (a.eval (.tmp 54)) := hat.deps ⟨6, .data⟩ (by simp) rfl 54 (by decide) rfl
      exact .inr ⟨_, #[a.eval (.tmp 53), a.eval (.tmp 54)], exec_call Try.func16 (by kernel_rfl) (by kernel_rfl) _ rfl _ _ (by simp), Mul_V h0 h1 _⟩
    · refine hot_val rfl rfl (fun L a w' hat => ?_)
      have h0 : ElV (((px) + (pz)) * ((px) + (pz))) (a.eval (.tmp 52)) := hat.deps ⟨4, .data⟩ (by simp) rfl 52 (by decide) rfl
      have h1 : ElV ((toF 121665) * ((((px) + (pz)) * ((px) + (pz))) - (((px) - (pz)) * ((px) - (pz))))) (a.eval (.tmp 55)) := hat.deps ⟨7, .data⟩ (by simp) rfl 55 (by decide) rfl
      exact .inr ⟨_, #[a.eval (.tmp 52), a.eval (.tmp 55)], exec_call Try.func12 (by kernel_rfl) (by kernel_rfl) _ rfl _ _ (by simp), Add_V h0 h1 _⟩
    · refine hot_val rfl rfl (fun L a w' hat => ?_)
      have h0 : ElV ((((px) + (pz)) * ((px) + (pz))) - (((px) - (pz)) * ((px) - (pz)))) (a.eval (.tmp 51)) := hat.deps ⟨3, .data⟩ (by simp) rfl 51 (by decide) rfl
      have h1 : ElV ((((px) + (pz)) * ((px) + (pz))) + ((toF 121665) * ((((px) + (pz)) * ((px) + (pz))) - (((px) - (pz)) * ((px) - (pz)))))) (a.eval (.tmp 56)) := hat.deps ⟨8, .data⟩ (by simp) rfl 56 (by decide) rfl
      exact .inr ⟨_, #[a.eval (.tmp 51), a.eval (.tmp 56)], exec_call Try.func16 (by kernel_rfl) (by kernel_rfl) _ rfl _ _ (by simp), Mul_V h0 h1 _⟩
    · refine hot_val rfl rfl (fun L a w' hat => ?_)
      have h0 : ElV ((((px) + (pz)) * ((px) + (pz))) * (((px) - (pz)) * ((px) - (pz)))) (a.eval (.tmp 50)) := hat.deps ⟨2, .data⟩ (by simp) rfl 50 (by decide) rfl
      have h1 : ElV (((((px) + (pz)) * ((px) + (pz))) - (((px) - (pz)) * ((px) - (pz)))) * ((((px) + (pz)) * ((px) + (pz))) + ((toF 121665) * ((((px) + (pz)) * ((px) + (pz))) - (((px) - (pz)) * ((px) - (pz))))))) (a.eval (.tmp 57)) := hat.deps ⟨9, .data⟩ (by simp) rfl 57 (by decide) rfl
      exact out_ex (bd2 rfl (AgV.one.2 h0) (AgV.one.2 h1)) (fun u hE => hE)
    · refine hot_fresh rfl rfl (fun L a w' hat => ?_)
      exact fresh_ex (al2 rfl a w') (fun ob hB => ⟨_, rfl, Nat.le_trans (Nat.le_refl _) hat.grow.size, hB⟩)
  intro L gs w13 hbx hV hall hH hap
  replace hF3 := hF3.oldX hbx (fun h => h)
  replace hF4 := hF4.oldX hbx (fun h => h)
  replace hF5 := hF5.oldX hbx (fun h => h)
  replace hF6 := hF6.oldX hbx (fun h => h)
  replace hF7 := hF7.oldX hbx (fun h => h)
  replace hF8 := hF8.oldX hbx (fun h => h)
  replace hF9 := hF9.oldX hbx (fun h => h)
  replace hF10 := hF10.oldX hbx (fun h => h)
  replace hF11 := hF11.oldX hbx (fun h => h)
  replace hF12 := hF12.oldX hbx (fun h => h)
  replace hF13 := hF13.oldX hbx (fun h => h)
  replace hF14 := hF14.oldX hbx (fun h => h)
  replace HB := hbx.below HB HB.size (fun k h => h.elim)
  obtain ⟨g15, hv15, hg15, hF15⟩ := hV 11 (by omega) (by decide) 15 rfl
  have hs15 := hV 10 (by omega) (by decide) 58 rfl
  simp only [List.map_cons, List.map_nil, puts, Act.put, hv15, List.setIfInBounds_toArray, List.set_cons_zero, List.set_cons_succ, List.drop_succ_cons, List.drop_zero]
  clear hV hall hH hap hbx hv15
  refine tail_st2 rfl rfl rfl rfl hF15 hs15 (fun w14 hN hc => ?_)
  replace hF3 := hF3.oldX hc (by omega)
  replace hF4 := hF4.oldX hc (by omega)
  replace hF5 := hF5.oldX hc (by omega)
  replace hF6 := hF6.oldX hc (by omega)
  replace hF7 := hF7.oldX hc (by omega)
  replace hF8 := hF8.oldX hc (by omega)
  replace hF9 := hF9.oldX hc (by omega)
  replace hF10 := hF10.oldX hc (by omega)
  replace hF11 := hF11.oldX hc (by omega)
  replace hF12 := hF12.oldX hc (by omega)
  replace hF13 := hF13.oldX hc (by omega)
  replace hF14 := hF14.oldX hc (by omega)
  clear hF15
  have hF15 := hN
  clear hN
  replace HB := hc.below HB HB.size (fun k hk => by rw [hk]; omega)
  clear hc hs15
  clear z3 z4 z5 z6 z7 z8 z9 z10 z11 z12 z13 z14
  refine wpList_nil ?_
  show Exit.then _ _ .normal _ _
  go_wp2_with fail
  have z3 := hF3.lt
  have z4 := hF4.lt
  have z5 := hF5.lt
  have z6 := hF6.lt
  have z7 := hF7.lt
  have z8 := hF8.lt
  have z9 := hF9.lt
  have z10 := hF10.lt
  have z11 := hF11.lt
  have z12 := hF12.lt
  have z13 := hF13.lt
  have z14 := hF14.lt
  have z15 := hF15.lt
  have y6 := z7
  refine region_hotV 12 stepS6K (stepS6 (w14.heap.size) px pz qx qz u g0 g10 g11 g12 g13 g14 g15 g8 g9) (fun _ _ => True) (fun _ => False) [59, 60, 61, 62, 63, 64, 65, 66, 67, 68, 69, 16] (by kernel_rfl) (by kernel_rfl) (by kernel_rfl) (by kernel_rfl) (by kernel_rfl) ?_ (fun _ _ _ _ _ => trivial) (fun _ _ _ _ _ => trivial) ?_ trivial (hots_all ?_) ?_
  · exact fun i w w' v h hb => by revert h; unfold stepS6; split <;> first | exact id | (rintro ⟨g, hv, hg, hB⟩; exact ⟨g, hv, hg, hB.oldX hb (fun h => h)⟩)
  · exact fun i w v hk h => by unfold stepS6K at hk; split at hk <;> first | (cases hk; done) | (obtain ⟨g, hv, _, hB⟩ := h; exact ⟨g, hv, hB.lt⟩)
  · simp only [List.take_succ_cons, List.take_zero, HotFrom]
    refine ⟨?_, ?_, ?_, ?_, ?_, ?_, ?_, ?_, ?_, ?_, ?_, ?_, trivial⟩
    · refine hot_val rfl rfl (fun L a w' hat => ?_)
      have h0 : a.eval (.tmp 13) = .pointer (some ⟨g13, 0, none⟩) := (hat.others 13 (by decide)).trans rfl
      exact out_ex (ld1_1_0 rfl h0 (hF13.oldX hat.grow (fun h => h))) (fun u hE => hE)
    · refine hot_val rfl rfl (fun L a w' hat => ?_)
      have h0 : a.eval (.tmp 14) = .pointer (some ⟨g14, 0, none⟩) := (hat.others 14 (by decide)).trans rfl
      exact out_ex (ld1_1_0 rfl h0 (hF14.oldX hat.grow (fun h => h))) (fun u hE => hE)
    · refine hot_val rfl rfl (fun L a w' hat => ?_)
      have h0 : ElV (((qx) - (qz)) * ((px) + (pz))) (a.eval (.tmp 59)) := hat.deps ⟨0, .data⟩ (by simp) rfl 59 (by decide) rfl
      have h1 : ElV (((qx) + (qz)) * ((px) - (pz))) (a.eval (.tmp 60)) := hat.deps ⟨1, .data⟩ (by simp) rfl 60 (by decide) rfl
      exact .inr ⟨_, #[a.eval (.tmp 59), a.eval (.tmp 60)], exec_call Try.func12 (by kernel_rfl) (by kernel_rfl) _ rfl _ _ (by simp), Add_V h0 h1 _⟩
    · refine hot_val rfl rfl (fun L a w' hat => ?_)
      have h0 : ElV ((((qx) - (qz)) * ((px) + (pz))) + (((qx) + (qz)) * ((px) - (pz)))) (a.eval (.tmp 61)) := hat.deps ⟨2, .data⟩ (by simp) rfl 61 (by decide) rfl
      exact .inr ⟨_, #[a.eval (.tmp 61)], exec_call Try.func49 (by kernel_rfl) (by kernel_rfl) _ rfl _ _ (by simp), square_V h0 _⟩
    · refine hot_val rfl rfl (fun L a w' hat => ?_)
      have h0 : a.eval (.tmp 5) = .pointer (some ⟨(g0 + 1 + 1), 0, none⟩) := (hat.others 5 (by decide)).trans rfl
      exact out_ex (ld1_1_0 rfl h0 (hF5.oldX hat.grow (fun h => h))) (fun u hE => hE)
    · refine hot_val rfl rfl (fun L a w' hat => ?_)
      have h0 : a.eval (.tmp 13) = .pointer (some ⟨g13, 0, none⟩) := (hat.others 13 (by decide)).trans rfl
      exact out_ex (ld1_1_0 rfl h0 (hF13.oldX hat.grow (fun h => h))) (fun u hE => hE)
    · refine hot_val rfl rfl (fun L a w' hat => ?_)
      have h0 : a.eval (.tmp 14) = .pointer (some ⟨g14, 0, none⟩) := (hat.others 14 (by decide)).trans rfl
      exact out_ex (ld1_1_0 rfl h0 (hF14.oldX hat.grow (fun h => h))) (fun u hE => hE)
    · refine hot_val rfl rfl (fun L a w' hat => ?_)
      have h0 : ElV (((qx) - (qz)) * ((px) + (pz))) (a.eval (.tmp 64)) := hat.deps ⟨5, .data⟩ (by simp) rfl 64 (by decide) rfl
      have h1 : ElV (((qx) + (qz)) * ((px) - (pz))) (a.eval (.tmp 65)) := hat.deps ⟨6, .data⟩ (by simp) rfl 65 (by decide) rfl
      exact .inr ⟨_, #[a.eval (.tmp 64), a.eval (.tmp 65)], exec_call Try.func14 (by kernel_rfl) (by kernel_rfl) _ rfl _ _ (by simp), Sub_V h0 h1 _⟩
    · refine hot_val rfl rfl (fun L a w' hat => ?_)
      have h0 : ElV ((((qx) - (qz)) * ((px) + (pz))) - (((qx) + (qz)) * ((px) - (pz)))) (a.eval (.tmp 66)) := hat.deps ⟨7, .data⟩ (by simp) rfl 66 (by decide) rfl
      exact .inr ⟨_, #[a.eval (.tmp 66)], exec_call Try.func49 (by kernel_rfl) (by kernel_rfl) _ rfl _ _ (by simp), square_V h0 _⟩
    · refine hot_val rfl rfl (fun L a w' hat => ?_)
      have h0 : ElV (u) (a.eval (.tmp 63)) := hat.deps ⟨4, .data⟩ (by simp) rfl 63 (by decide) rfl
      have h1 : ElV (((((qx) - (qz)) * ((px) + (pz))) - (((qx) + (qz)) * ((px) - (pz)))) * ((((qx) - (qz)) * ((px) + (pz))) - (((qx) + (qz)) * ((px) - (pz))))) (a.eval (.tmp 67)) := hat.deps ⟨8, .data⟩ (by simp) rfl 67 (by decide) rfl
      exact .inr ⟨_, #[a.eval (.tmp 63), a.eval (.tmp 67)], exec_call Try.func16 (by kernel_rfl) (by kernel_rfl) _ rfl _ _ (by simp), Mul_V h0 h1 _⟩
    · refine hot_val rfl rfl (fun L a w' hat => ?_)
      have h0 : ElV (((((qx) - (qz)) * ((px) + (pz))) + (((qx) + (qz)) * ((px) - (pz)))) * ((((qx) - (qz)) * ((px) + (pz))) + (((qx) + (qz)) * ((px) - (pz))))) (a.eval (.tmp 62)) := hat.deps ⟨3, .data⟩ (by simp) rfl 62 (by decide) rfl
      have h1 : ElV ((u) * (((((qx) - (qz)) * ((px) + (pz))) - (((qx) + (qz)) * ((px) - (pz)))) * ((((qx) - (qz)) * ((px) + (pz))) - (((qx) + (qz)) * ((px) - (pz)))))) (a.eval (.tmp 68)) := hat.deps ⟨9, .data⟩ (by simp) rfl 68 (by decide) rfl
      exact out_ex (bd2 rfl (AgV.one.2 h0) (AgV.one.2 h1)) (fun u hE => hE)
    · refine hot_fresh rfl rfl (fun L a w' hat => ?_)
      exact fresh_ex (al2 rfl a w') (fun ob hB => ⟨_, rfl, Nat.le_trans (Nat.le_refl _) hat.grow.size, hB⟩)
  intro L gs w15 hbx hV hall hH hap
  replace hF3 := hF3.oldX hbx (fun h => h)
  replace hF4 := hF4.oldX hbx (fun h => h)
  replace hF5 := hF5.oldX hbx (fun h => h)
  replace hF6 := hF6.oldX hbx (fun h => h)
  replace hF7 := hF7.oldX hbx (fun h => h)
  replace hF8 := hF8.oldX hbx (fun h => h)
  replace hF9 := hF9.oldX hbx (fun h => h)
  replace hF10 := hF10.oldX hbx (fun h => h)
  replace hF11 := hF11.oldX hbx (fun h => h)
  replace hF12 := hF12.oldX hbx (fun h => h)
  replace hF13 := hF13.oldX hbx (fun h => h)
  replace hF14 := hF14.oldX hbx (fun h => h)
  replace hF15 := hF15.oldX hbx (fun h => h)
  replace HB := hbx.below HB HB.size (fun k h => h.elim)
  obtain ⟨g16, hv16, hg16, hF16⟩ := hV 11 (by omega) (by decide) 16 rfl
  have hs16 := hV 10 (by omega) (by decide) 69 rfl
  simp only [List.map_cons, List.map_nil, puts, Act.put, hv16, List.setIfInBounds_toArray, List.set_cons_zero, List.set_cons_succ, List.drop_succ_cons, List.drop_zero]
  clear hV hall hH hap hbx hv16
  refine tail_st2 rfl rfl rfl rfl hF16 hs16 (fun w16 hN hc => ?_)
  replace hF3 := hF3.oldX hc (by omega)
  replace hF4 := hF4.oldX hc (by omega)
  replace hF5 := hF5.oldX hc (by omega)
  replace hF6 := hF6.oldX hc (by omega)
  replace hF7 := hF7.oldX hc (by omega)
  replace hF8 := hF8.oldX hc (by omega)
  replace hF9 := hF9.oldX hc (by omega)
  replace hF10 := hF10.oldX hc (by omega)
  replace hF11 := hF11.oldX hc (by omega)
  replace hF12 := hF12.oldX hc (by omega)
  replace hF13 := hF13.oldX hc (by omega)
  replace hF14 := hF14.oldX hc (by omega)
  replace hF15 := hF15.oldX hc (by omega)
  clear hF16
  have hF16 := hN
  clear hN
  replace HB := hc.below HB HB.size (fun k hk => by rw [hk]; omega)
  clear hc hs16
  clear z3 z4 z5 z6 z7 z8 z9 z10 z11 z12 z13 z14 z15
  refine wpList_nil ?_
  show Exit.then _ _ .normal _ _
  go_wp2_with fail
  have n15_6 : g15 ≠ (g0 + 1 + 1 + 1) := by omega
  have n16_6 : g16 ≠ (g0 + 1 + 1 + 1) := by omega
  have n7_6 : (g0 + 1 + 1 + 1 + 1) ≠ (g0 + 1 + 1 + 1) := by omega
  refine region_hotV 3 stepS7K (stepS7 (w16.heap.size) px pz qx qz u g0 g10 g11 g12 g13 g14 g15 g16 g8 g9) (fun L w => BlkF w (g0 + 1 + 1 + 1) (bif L 2 then [(((px) + (pz)) * ((px) + (pz))) * (((px) - (pz)) * ((px) - (pz))), ((((px) + (pz)) * ((px) + (pz))) - (((px) - (pz)) * ((px) - (pz)))) * ((((px) + (pz)) * ((px) + (pz))) + ((toF 121665) * ((((px) + (pz)) * ((px) + (pz))) - (((px) - (pz)) * ((px) - (pz))))))] else [0, 0]) 64) (fun k => k = (g0 + 1 + 1 + 1)) [70, 71] (by kernel_rfl) (by kernel_rfl) (by kernel_rfl) (by kernel_rfl) (by kernel_rfl) ?_ (fun L w w' h hb => h.old hb) (fun L i w hk h => if e : i = 2 then absurd (by rw [e]; rfl) hk else by (have e2 : (2 == i) = false := (by simp only [beq_eq_false_iff_ne]; omega); show BlkF w _ (bif (L 2 || 2 == i) then _ else _) _; rw [e2, Bool.or_false]; exact h)) ?_ hF6 (hots_all ?_) ?_
  · exact fun i w w' v h hb => by revert h; unfold stepS7; split <;> first | exact id | (rintro ⟨g, hv, hg, hB⟩; exact ⟨g, hv, hg, hB.oldX hb (fun h => h)⟩)
  · exact fun i w v hk h => by unfold stepS7K at hk; split at hk <;> first | (cases hk; done) | (obtain ⟨g, hv, _, hB⟩ := h; exact ⟨g, hv, hB.lt⟩)
  · simp only [List.take_succ_cons, List.take_zero, HotFrom]
    refine ⟨?_, ?_, ?_, trivial⟩
    · refine hot_val rfl rfl (fun L a w' hat => ?_)
      have h0 : a.eval (.tmp 15) = .pointer (some ⟨g15, 0, none⟩) := (hat.others 15 (by decide)).trans rfl
      exact out_ex (ld2_2_0 rfl h0 (hF15.oldX hat.grow n15_6)) (fun u hE => hE)
    · refine hot_val rfl rfl (fun L a w' hat => ?_)
      have h0 : a.eval (.tmp 16) = .pointer (some ⟨g16, 0, none⟩) := (hat.others 16 (by decide)).trans rfl
      exact out_ex (ld2_2_0 rfl h0 (hF16.oldX hat.grow n16_6)) (fun u hE => hE)
    · refine hot_store rfl (fun L a w' hat => ?_)
      have h0 : a.eval (.tmp 6) = .pointer (some ⟨(g0 + 1 + 1 + 1), 0, none⟩) := (hat.others 6 (by decide)).trans rfl
      have h1 : AgV [(((px) + (pz)) * ((px) + (pz))) * (((px) - (pz)) * ((px) - (pz))), ((((px) + (pz)) * ((px) + (pz))) - (((px) - (pz)) * ((px) - (pz)))) * ((((px) + (pz)) * ((px) + (pz))) + ((toF 121665) * ((((px) + (pz)) * ((px) + (pz))) - (((px) - (pz)) * ((px) - (pz))))))] (a.eval (.tmp 70)) := hat.deps ⟨0, .data⟩ (by simp) rfl 70 (by decide) rfl
      obtain ⟨c0, c1, hH⟩ : ∃ c0 c1, BlkF w' (g0 + 1 + 1 + 1) [c0, c1] 64 := by (have hH := hat.hot; cases hL : L 2 <;> simp only [hL] at hH <;> exact ⟨_, _, hH⟩)
      exact hot_ex (st2 rfl h0 hH h1) (fun w'' hN => by show BlkF w'' _ (bif (L 2 || 2 == 2) then _ else _) _; rw [show (L 2 || 2 == 2) = true by simp]; exact hN)
  intro L gs w17 hbx hV hall hH hap
  replace hF7 := hF7.oldX hbx n7_6
  have hN6 : BlkF w17 (g0 + 1 + 1 + 1) [(((px) + (pz)) * ((px) + (pz))) * (((px) - (pz)) * ((px) - (pz))), ((((px) + (pz)) * ((px) + (pz))) - (((px) - (pz)) * ((px) - (pz)))) * ((((px) + (pz)) * ((px) + (pz))) + ((toF 121665) * ((((px) + (pz)) * ((px) + (pz))) - (((px) - (pz)) * ((px) - (pz))))))] 64 := by (have h := hH; simp only [hall 2 (by omega)] at h; exact h)
  replace HB := hbx.below HB HB.size (fun k hk => by rw [hk]; omega)
  have hs7 := hV 1 (by omega) (by decide) 71 rfl
  simp only [List.map_cons, List.map_nil, puts, Act.put, List.setIfInBounds_toArray, List.set_cons_zero, List.set_cons_succ, List.drop_succ_cons, List.drop_zero]
  refine tail_st2 rfl rfl rfl rfl hF7 hs7 (fun w18 hN7 hc => ?_)
  replace hN6 := hN6.oldX hc (by omega)
  replace HB := hc.below HB HB.size (fun k hk => by rw [hk]; omega)
  clear hF6 hF7 hH hall hV hap hbx hc hs7 hF3 hF4 hF5 hF8 hF9 hF10 hF11 hF12 hF13 hF14 hF15 hF16
  obtain ⟨l6, B6, hf6⟩ := hN6
  obtain ⟨l7, B7, hf7⟩ := hN7
  obtain ⟨r0, r1, r2, r3, r4, s0, s1, s2, s3, s4, rfl, hr0, hr1⟩ := FsL.two.1 hf6
  obtain ⟨t0, t1, t2, t3, t4, v0, v1, v2, v3, v4, rfl, hr2, hr3⟩ := FsL.two.1 hf7
  have c6 := B6.cell
  have c7 := B7.cell
  refine wpList_nil ?_
  show Exit.then _ _ .normal _ _
  go_wp2_with fail
  refine bodyPost_ret (v := .tuple #[.agg #[.int .u64 r0, .int .u64 r1, .int .u64 r2, .int .u64 r3, .int .u64 r4, .int .u64 s0, .int .u64 s1, .int .u64 s2, .int .u64 s3, .int .u64 s4], .agg #[.int .u64 t0, .int .u64 t1, .int .u64 t2, .int .u64 t3, .int .u64 t4, .int .u64 v0, .int .u64 v1, .int .u64 v2, .int .u64 v3, .int .u64 v4]]) ?_ rfl ⟨_, _, rfl, ⟨_, rfl, hf6⟩, ⟨_, rfl, hf7⟩, HB⟩
  simp [results, Try.results41, go_sem, c6, c7]

end Go.Proofs.Ytikjcikedbcfmaa
