/-
  Aggregates of field elements, as values and as blocks: what a load, a store, a new variable of them comes to.
-/
import Derived.Test.YtdjdfmnjoilmkaaAgg
import Derived.Test.YtdjdfmnjoilmkaaInvV
namespace Go.Proofs.Ytdjdfmnjoilmkaa
open Go.RowKit
set_option linter.unusedVariables false
set_option linter.unusedSimpArgs false

def ElL (x : F) (l : List Value) : Prop := ∃ a0 a1 a2 a3 a4 : Int, l = [.int .u64 a0, .int .u64 a1, .int .u64 a2, .int .u64 a3, .int .u64 a4] ∧ El x a0 a1 a2 a3 a4
def FsL : List F → List Value → Prop
  | [], l => l = []
  | x :: fs, l => ∃ l1 l2, l = l1 ++ l2 ∧ ElL x l1 ∧ FsL fs l2
/-- A value that is made of these elements. -/
def AgV (fs : List F) (v : Value) : Prop := ∃ l, v = .agg l.toArray ∧ FsL fs l
/-- A block that is made of these elements. -/
def BlkF (w : World) (g : Nat) (fs : List F) (T : TypeId) : Prop := ∃ l : List Value, Blk w g l.toArray T ∧ FsL fs l

theorem AgV.one {x : F} {v : Value} : AgV [x] v ↔ ElV x v := by
  constructor
  · rintro ⟨l, rfl, l1, l2, rfl, ⟨a0, a1, a2, a3, a4, rfl, h⟩, rfl⟩
    exact ⟨a0, a1, a2, a3, a4, rfl, h⟩
  · rintro ⟨a0, a1, a2, a3, a4, rfl, h⟩
    exact ⟨_, rfl, _, [], by simp, ⟨a0, a1, a2, a3, a4, rfl, h⟩, rfl⟩
theorem FsL.two {x y : F} {l : List Value} : FsL [x, y] l ↔ ∃ a0 a1 a2 a3 a4 b0 b1 b2 b3 b4 : Int, l = [.int .u64 a0, .int .u64 a1, .int .u64 a2, .int .u64 a3, .int .u64 a4, .int .u64 b0, .int .u64 b1, .int .u64 b2, .int .u64 b3, .int .u64 b4] ∧ El x a0 a1 a2 a3 a4 ∧ El y b0 b1 b2 b3 b4 := by
  constructor
  · rintro ⟨l1, l2, rfl, ⟨a0, a1, a2, a3, a4, rfl, h⟩, l3, l4, rfl, ⟨b0, b1, b2, b3, b4, rfl, h'⟩, rfl⟩
    exact ⟨a0, a1, a2, a3, a4, b0, b1, b2, b3, b4, rfl, h, h'⟩
  · rintro ⟨a0, a1, a2, a3, a4, b0, b1, b2, b3, b4, rfl, h, h'⟩
    exact ⟨[_, _, _, _, _], [_, _, _, _, _], rfl, ⟨a0, a1, a2, a3, a4, rfl, h⟩, [_, _, _, _, _], [], rfl, ⟨b0, b1, b2, b3, b4, rfl, h'⟩, rfl⟩
theorem FsL.app {fs gs : List F} {l m : List Value} (h : FsL fs l) (h' : FsL gs m) : FsL (fs ++ gs) (l ++ m) := by
  induction fs generalizing l with
  | nil => cases h; exact h'
  | cons x fs ih =>
    obtain ⟨l1, l2, rfl, h1, h2⟩ := h
    exact ⟨l1, l2 ++ m, by simp, h1, ih h2⟩
theorem FsL.four {x y z u : F} {l : List Value} (h : FsL [x, y, z, u] l) : ∃ l1 l2, l = l1 ++ l2 ∧ FsL [x, y] l1 ∧ FsL [z, u] l2 := by
  obtain ⟨l1, l2, rfl, h1, l3, l4, rfl, h3, h4⟩ := h
  exact ⟨l1 ++ l3, l4, by simp, ⟨l1, l3, rfl, h1, l3, [], by simp, h3, rfl⟩, h4⟩
theorem FsL.zero1 : FsL [0] [.int .u64 0, .int .u64 0, .int .u64 0, .int .u64 0, .int .u64 0] :=
  ⟨_, [], by simp, ⟨0, 0, 0, 0, 0, rfl, ⟨by omega, by omega, by omega, by omega, by omega, by omega, by omega, by omega, by omega, by omega, rfl⟩⟩, rfl⟩

theorem BlkF.lt {w : World} {g : Nat} {fs : List F} {T : TypeId} (h : BlkF w g fs T) : g < w.heap.size := by obtain ⟨l, hB, _⟩ := h; exact hB.lt
theorem BlkF.old {w w' : World} {g : Nat} {fs : List F} {T : TypeId} (h : BlkF w g fs T) (hb : Below w.heap.size w w') : BlkF w' g fs T := by obtain ⟨l, hB, hf⟩ := h; exact ⟨l, hB.old hb, hf⟩
theorem BlkF.oldX {X : Nat → Prop} {w w' : World} {g : Nat} {fs : List F} {T : TypeId} (h : BlkF w g fs T) (hb : BelowX X w w') (hx : ¬ X g) : BlkF w' g fs T := by obtain ⟨l, hB, hf⟩ := h; exact ⟨l, hb.blk hB hx, hf⟩
theorem BlkF.alloc {w : World} {g : Nat} {fs : List F} {T : TypeId} (h : BlkF w g fs T) (o : Obj) : BlkF (w.alloc o) g fs T := by obtain ⟨l, hB, hf⟩ := h; exact ⟨l, hB.alloc o, hf⟩
theorem BlkF.of5 {w : World} {g : Nat} {x : F} {T : TypeId} {a0 a1 a2 a3 a4 : Int} (h : Blk w g #[.int .u64 a0, .int .u64 a1, .int .u64 a2, .int .u64 a3, .int .u64 a4] T) (hE : El x a0 a1 a2 a3 a4) : BlkF w g [x] T :=
  ⟨_, h, _, [], by simp, ⟨a0, a1, a2, a3, a4, rfl, hE⟩, rfl⟩

/-- Only the block g is changed. -/
theorem chg_of {w w' : World} {g : Nat} (h1 : w'.os = w.os) (h2 : w'.tape = w.tape) (h3 : w'.output = w.output) (h4 : w'.heap.size = w.heap.size) (h5 : ∀ k, k ≠ g → w'.heap[k]? = w.heap[k]?) : BelowX (fun k => k = g) w w' :=
  ⟨h1, h2, h3, by omega, fun k _ hk => h5 k hk⟩

theorem exec_ld1_0 {o : Oper} {a : Act} {w : World} {x : Operand} {g : Nat} {T : TypeId} {l : List Value} {a0 a1 a2 a3 a4 : Int} (ho : o.op = .load 26 x) (hx : a.eval x = .pointer (some ⟨g, 0, none⟩)) (hB : Blk w g l.toArray T) (hl : (l.drop 0).take 5 = [.int .u64 a0, .int .u64 a1, .int .u64 a2, .int .u64 a3, .int .u64 a4]) : (execOp a.eval o).run Try.prog w = .ok (.value (.agg #[.int .u64 a0, .int .u64 a1, .int .u64 a2, .int .u64 a3, .int .u64 a4])) w :=
  ld_agg [.int .u64 a0, .int .u64 a1, .int .u64 a2, .int .u64 a3, .int .u64 a4] ho hx hB ⟨by kernel_rfl, by kernel_rfl⟩ hl

theorem exec_ld1_5 {o : Oper} {a : Act} {w : World} {x : Operand} {g : Nat} {T : TypeId} {l : List Value} {a0 a1 a2 a3 a4 : Int} (ho : o.op = .load 26 x) (hx : a.eval x = .pointer (some ⟨g, 5, none⟩)) (hB : Blk w g l.toArray T) (hl : (l.drop 5).take 5 = [.int .u64 a0, .int .u64 a1, .int .u64 a2, .int .u64 a3, .int .u64 a4]) : (execOp a.eval o).run Try.prog w = .ok (.value (.agg #[.int .u64 a0, .int .u64 a1, .int .u64 a2, .int .u64 a3, .int .u64 a4])) w :=
  ld_agg [.int .u64 a0, .int .u64 a1, .int .u64 a2, .int .u64 a3, .int .u64 a4] ho hx hB ⟨by kernel_rfl, by kernel_rfl⟩ hl

theorem exec_ld1_10 {o : Oper} {a : Act} {w : World} {x : Operand} {g : Nat} {T : TypeId} {l : List Value} {a0 a1 a2 a3 a4 : Int} (ho : o.op = .load 26 x) (hx : a.eval x = .pointer (some ⟨g, 10, none⟩)) (hB : Blk w g l.toArray T) (hl : (l.drop 10).take 5 = [.int .u64 a0, .int .u64 a1, .int .u64 a2, .int .u64 a3, .int .u64 a4]) : (execOp a.eval o).run Try.prog w = .ok (.value (.agg #[.int .u64 a0, .int .u64 a1, .int .u64 a2, .int .u64 a3, .int .u64 a4])) w :=
  ld_agg [.int .u64 a0, .int .u64 a1, .int .u64 a2, .int .u64 a3, .int .u64 a4] ho hx hB ⟨by kernel_rfl, by kernel_rfl⟩ hl

theorem exec_ld1_15 {o : Oper} {a : Act} {w : World} {x : Operand} {g : Nat} {T : TypeId} {l : List Value} {a0 a1 a2 a3 a4 : Int} (ho : o.op = .load 26 x) (hx : a.eval x = .pointer (some ⟨g, 15, none⟩)) (hB : Blk w g l.toArray T) (hl : (l.drop 15).take 5 = [.int .u64 a0, .int .u64 a1, .int .u64 a2, .int .u64 a3, .int .u64 a4]) : (execOp a.eval o).run Try.prog w = .ok (.value (.agg #[.int .u64 a0, .int .u64 a1, .int .u64 a2, .int .u64 a3, .int .u64 a4])) w :=
  ld_agg [.int .u64 a0, .int .u64 a1, .int .u64 a2, .int .u64 a3, .int .u64 a4] ho hx hB ⟨by kernel_rfl, by kernel_rfl⟩ hl

theorem exec_ld2_0 {o : Oper} {a : Act} {w : World} {x : Operand} {g : Nat} {T : TypeId} {l : List Value} {a0 a1 a2 a3 a4 b0 b1 b2 b3 b4 : Int} (ho : o.op = .load 70 x) (hx : a.eval x = .pointer (some ⟨g, 0, none⟩)) (hB : Blk w g l.toArray T) (hl : (l.drop 0).take 10 = [.int .u64 a0, .int .u64 a1, .int .u64 a2, .int .u64 a3, .int .u64 a4, .int .u64 b0, .int .u64 b1, .int .u64 b2, .int .u64 b3, .int .u64 b4]) : (execOp a.eval o).run Try.prog w = .ok (.value (.agg #[.int .u64 a0, .int .u64 a1, .int .u64 a2, .int .u64 a3, .int .u64 a4, .int .u64 b0, .int .u64 b1, .int .u64 b2, .int .u64 b3, .int .u64 b4])) w :=
  ld_agg [.int .u64 a0, .int .u64 a1, .int .u64 a2, .int .u64 a3, .int .u64 a4, .int .u64 b0, .int .u64 b1, .int .u64 b2, .int .u64 b3, .int .u64 b4] ho hx hB ⟨by kernel_rfl, by kernel_rfl⟩ hl

theorem exec_ld2_10 {o : Oper} {a : Act} {w : World} {x : Operand} {g : Nat} {T : TypeId} {l : List Value} {a0 a1 a2 a3 a4 b0 b1 b2 b3 b4 : Int} (ho : o.op = .load 70 x) (hx : a.eval x = .pointer (some ⟨g, 10, none⟩)) (hB : Blk w g l.toArray T) (hl : (l.drop 10).take 10 = [.int .u64 a0, .int .u64 a1, .int .u64 a2, .int .u64 a3, .int .u64 a4, .int .u64 b0, .int .u64 b1, .int .u64 b2, .int .u64 b3, .int .u64 b4]) : (execOp a.eval o).run Try.prog w = .ok (.value (.agg #[.int .u64 a0, .int .u64 a1, .int .u64 a2, .int .u64 a3, .int .u64 a4, .int .u64 b0, .int .u64 b1, .int .u64 b2, .int .u64 b3, .int .u64 b4])) w :=
  ld_agg [.int .u64 a0, .int .u64 a1, .int .u64 a2, .int .u64 a3, .int .u64 a4, .int .u64 b0, .int .u64 b1, .int .u64 b2, .int .u64 b3, .int .u64 b4] ho hx hB ⟨by kernel_rfl, by kernel_rfl⟩ hl

theorem ld1_1_0 {o : Oper} {a : Act} {w : World} {x : Operand} {g : Nat} {T : TypeId} {x0 : F} (ho : o.op = .load 26 x) (hx : a.eval x = .pointer (some ⟨g, 0, none⟩)) (hF : BlkF w g [x0] T) : ∃ v, (execOp a.eval o).run Try.prog w = .ok (.value v) w ∧ ElV x0 v := by
  obtain ⟨l, hB, _, _, rfl, ⟨p0, p1, p2, p3, p4, rfl, hE0⟩, rfl⟩ := hF
  exact ⟨_, exec_ld1_0 ho hx hB rfl, _, _, _, _, _, rfl, hE0⟩

theorem ld1_2_0 {o : Oper} {a : Act} {w : World} {x : Operand} {g : Nat} {T : TypeId} {x0 x1 : F} (ho : o.op = .load 26 x) (hx : a.eval x = .pointer (some ⟨g, 0, none⟩)) (hF : BlkF w g [x0, x1] T) : ∃ v, (execOp a.eval o).run Try.prog w = .ok (.value v) w ∧ ElV x0 v := by
  obtain ⟨l, hB, _, _, rfl, ⟨p0, p1, p2, p3, p4, rfl, hE0⟩, ⟨_, _, rfl, ⟨q0, q1, q2, q3, q4, rfl, hE1⟩, rfl⟩⟩ := hF
  exact ⟨_, exec_ld1_0 ho hx hB rfl, _, _, _, _, _, rfl, hE0⟩

theorem ld1_2_1 {o : Oper} {a : Act} {w : World} {x : Operand} {g : Nat} {T : TypeId} {x0 x1 : F} (ho : o.op = .load 26 x) (hx : a.eval x = .pointer (some ⟨g, 5, none⟩)) (hF : BlkF w g [x0, x1] T) : ∃ v, (execOp a.eval o).run Try.prog w = .ok (.value v) w ∧ ElV x1 v := by
  obtain ⟨l, hB, _, _, rfl, ⟨p0, p1, p2, p3, p4, rfl, hE0⟩, ⟨_, _, rfl, ⟨q0, q1, q2, q3, q4, rfl, hE1⟩, rfl⟩⟩ := hF
  exact ⟨_, exec_ld1_5 ho hx hB rfl, _, _, _, _, _, rfl, hE1⟩

theorem ld2_2_0 {o : Oper} {a : Act} {w : World} {x : Operand} {g : Nat} {T : TypeId} {x0 x1 : F} (ho : o.op = .load 70 x) (hx : a.eval x = .pointer (some ⟨g, 0, none⟩)) (hF : BlkF w g [x0, x1] T) : ∃ v, (execOp a.eval o).run Try.prog w = .ok (.value v) w ∧ AgV [x0, x1] v := by
  obtain ⟨l, hB, _, _, rfl, ⟨p0, p1, p2, p3, p4, rfl, hE0⟩, ⟨_, _, rfl, ⟨q0, q1, q2, q3, q4, rfl, hE1⟩, rfl⟩⟩ := hF
  exact ⟨_, exec_ld2_0 ho hx hB rfl, _, rfl, FsL.two.2 ⟨_, _, _, _, _, _, _, _, _, _, rfl, hE0, hE1⟩⟩

theorem ld1_4_0 {o : Oper} {a : Act} {w : World} {x : Operand} {g : Nat} {T : TypeId} {x0 x1 x2 x3 : F} (ho : o.op = .load 26 x) (hx : a.eval x = .pointer (some ⟨g, 0, none⟩)) (hF : BlkF w g [x0, x1, x2, x3] T) : ∃ v, (execOp a.eval o).run Try.prog w = .ok (.value v) w ∧ ElV x0 v := by
  obtain ⟨l, hB, _, _, rfl, ⟨p0, p1, p2, p3, p4, rfl, hE0⟩, ⟨_, _, rfl, ⟨q0, q1, q2, q3, q4, rfl, hE1⟩, ⟨_, _, rfl, ⟨r0, r1, r2, r3, r4, rfl, hE2⟩, ⟨_, _, rfl, ⟨s0, s1, s2, s3, s4, rfl, hE3⟩, rfl⟩⟩⟩⟩ := hF
  exact ⟨_, exec_ld1_0 ho hx hB rfl, _, _, _, _, _, rfl, hE0⟩

theorem ld1_4_1 {o : Oper} {a : Act} {w : World} {x : Operand} {g : Nat} {T : TypeId} {x0 x1 x2 x3 : F} (ho : o.op = .load 26 x) (hx : a.eval x = .pointer (some ⟨g, 5, none⟩)) (hF : BlkF w g [x0, x1, x2, x3] T) : ∃ v, (execOp a.eval o).run Try.prog w = .ok (.value v) w ∧ ElV x1 v := by
  obtain ⟨l, hB, _, _, rfl, ⟨p0, p1, p2, p3, p4, rfl, hE0⟩, ⟨_, _, rfl, ⟨q0, q1, q2, q3, q4, rfl, hE1⟩, ⟨_, _, rfl, ⟨r0, r1, r2, r3, r4, rfl, hE2⟩, ⟨_, _, rfl, ⟨s0, s1, s2, s3, s4, rfl, hE3⟩, rfl⟩⟩⟩⟩ := hF
  exact ⟨_, exec_ld1_5 ho hx hB rfl, _, _, _, _, _, rfl, hE1⟩

theorem ld1_4_2 {o : Oper} {a : Act} {w : World} {x : Operand} {g : Nat} {T : TypeId} {x0 x1 x2 x3 : F} (ho : o.op = .load 26 x) (hx : a.eval x = .pointer (some ⟨g, 10, none⟩)) (hF : BlkF w g [x0, x1, x2, x3] T) : ∃ v, (execOp a.eval o).run Try.prog w = .ok (.value v) w ∧ ElV x2 v := by
  obtain ⟨l, hB, _, _, rfl, ⟨p0, p1, p2, p3, p4, rfl, hE0⟩, ⟨_, _, rfl, ⟨q0, q1, q2, q3, q4, rfl, hE1⟩, ⟨_, _, rfl, ⟨r0, r1, r2, r3, r4, rfl, hE2⟩, ⟨_, _, rfl, ⟨s0, s1, s2, s3, s4, rfl, hE3⟩, rfl⟩⟩⟩⟩ := hF
  exact ⟨_, exec_ld1_10 ho hx hB rfl, _, _, _, _, _, rfl, hE2⟩

theorem ld1_4_3 {o : Oper} {a : Act} {w : World} {x : Operand} {g : Nat} {T : TypeId} {x0 x1 x2 x3 : F} (ho : o.op = .load 26 x) (hx : a.eval x = .pointer (some ⟨g, 15, none⟩)) (hF : BlkF w g [x0, x1, x2, x3] T) : ∃ v, (execOp a.eval o).run Try.prog w = .ok (.value v) w ∧ ElV x3 v := by
  obtain ⟨l, hB, _, _, rfl, ⟨p0, p1, p2, p3, p4, rfl, hE0⟩, ⟨_, _, rfl, ⟨q0, q1, q2, q3, q4, rfl, hE1⟩, ⟨_, _, rfl, ⟨r0, r1, r2, r3, r4, rfl, hE2⟩, ⟨_, _, rfl, ⟨s0, s1, s2, s3, s4, rfl, hE3⟩, rfl⟩⟩⟩⟩ := hF
  exact ⟨_, exec_ld1_15 ho hx hB rfl, _, _, _, _, _, rfl, hE3⟩

theorem ld2_4_0 {o : Oper} {a : Act} {w : World} {x : Operand} {g : Nat} {T : TypeId} {x0 x1 x2 x3 : F} (ho : o.op = .load 70 x) (hx : a.eval x = .pointer (some ⟨g, 0, none⟩)) (hF : BlkF w g [x0, x1, x2, x3] T) : ∃ v, (execOp a.eval o).run Try.prog w = .ok (.value v) w ∧ AgV [x0, x1] v := by
  obtain ⟨l, hB, _, _, rfl, ⟨p0, p1, p2, p3, p4, rfl, hE0⟩, ⟨_, _, rfl, ⟨q0, q1, q2, q3, q4, rfl, hE1⟩, ⟨_, _, rfl, ⟨r0, r1, r2, r3, r4, rfl, hE2⟩, ⟨_, _, rfl, ⟨s0, s1, s2, s3, s4, rfl, hE3⟩, rfl⟩⟩⟩⟩ := hF
  exact ⟨_, exec_ld2_0 ho hx hB rfl, _, rfl, FsL.two.2 ⟨_, _, _, _, _, _, _, _, _, _, rfl, hE0, hE1⟩⟩

theorem ld2_4_1 {o : Oper} {a : Act} {w : World} {x : Operand} {g : Nat} {T : TypeId} {x0 x1 x2 x3 : F} (ho : o.op = .load 70 x) (hx : a.eval x = .pointer (some ⟨g, 10, none⟩)) (hF : BlkF w g [x0, x1, x2, x3] T) : ∃ v, (execOp a.eval o).run Try.prog w = .ok (.value v) w ∧ AgV [x2, x3] v := by
  obtain ⟨l, hB, _, _, rfl, ⟨p0, p1, p2, p3, p4, rfl, hE0⟩, ⟨_, _, rfl, ⟨q0, q1, q2, q3, q4, rfl, hE1⟩, ⟨_, _, rfl, ⟨r0, r1, r2, r3, r4, rfl, hE2⟩, ⟨_, _, rfl, ⟨s0, s1, s2, s3, s4, rfl, hE3⟩, rfl⟩⟩⟩⟩ := hF
  exact ⟨_, exec_ld2_10 ho hx hB rfl, _, rfl, FsL.two.2 ⟨_, _, _, _, _, _, _, _, _, _, rfl, hE2, hE3⟩⟩

set_option maxHeartbeats 2000000 in
theorem st1 {o : Oper} {a : Act} {w : World} {x y : Operand} {g : Nat} {T : TypeId} {x0 y0 : F} (ho : o.op = .store 26 x y) (hx : a.eval x = .pointer (some ⟨g, 0, none⟩)) (hF : BlkF w g [x0] T) (hV : AgV [y0] (a.eval y)) :
    ∃ w', (execOp a.eval o).run Try.prog w = .ok .skip w' ∧ BlkF w' g [y0] T ∧ BelowX (fun k => k = g) w w' := by
  obtain ⟨l, hB, _, _, rfl, ⟨p0, p1, p2, p3, p4, rfl, hE0⟩, rfl⟩ := hF
  obtain ⟨l', hy, _, _, rfl, ⟨ev0, ev1, ev2, ev3, ev4, rfl, hN0⟩, rfl⟩ := hV
  simp only [List.append_assoc, List.cons_append, List.nil_append, List.append_nil] at hB hy
  have hst := st_agg (vs := [.int .u64 ev0, .int .u64 ev1, .int .u64 ev2, .int .u64 ev3, .int .u64 ev4]) ho hx hy hB ⟨by kernel_rfl, by kernel_rfl⟩ (by simp) (by intro v hv; simp only [List.mem_cons, List.not_mem_nil, or_false] at hv; rcases hv with rfl | rfl | rfl | rfl | rfl <;> rfl)
  refine ⟨_, hst, ⟨_, blk_setRow hB, ?_⟩, chg_setRow hB⟩
  exact ⟨[_, _, _, _, _], _, rfl, ⟨_, _, _, _, _, rfl, hN0⟩, rfl⟩

set_option maxHeartbeats 2000000 in
theorem st2 {o : Oper} {a : Act} {w : World} {x y : Operand} {g : Nat} {T : TypeId} {x0 x1 y0 y1 : F} (ho : o.op = .store 70 x y) (hx : a.eval x = .pointer (some ⟨g, 0, none⟩)) (hF : BlkF w g [x0, x1] T) (hV : AgV [y0, y1] (a.eval y)) :
    ∃ w', (execOp a.eval o).run Try.prog w = .ok .skip w' ∧ BlkF w' g [y0, y1] T ∧ BelowX (fun k => k = g) w w' := by
  obtain ⟨l, hB, _, _, rfl, ⟨p0, p1, p2, p3, p4, rfl, hE0⟩, ⟨_, _, rfl, ⟨q0, q1, q2, q3, q4, rfl, hE1⟩, rfl⟩⟩ := hF
  obtain ⟨l', hy, _, _, rfl, ⟨ev0, ev1, ev2, ev3, ev4, rfl, hN0⟩, ⟨_, _, rfl, ⟨fv0, fv1, fv2, fv3, fv4, rfl, hN1⟩, rfl⟩⟩ := hV
  simp only [List.append_assoc, List.cons_append, List.nil_append, List.append_nil] at hB hy
  have hst := st_agg (vs := [.int .u64 ev0, .int .u64 ev1, .int .u64 ev2, .int .u64 ev3, .int .u64 ev4, .int .u64 fv0, .int .u64 fv1, .int .u64 fv2, .int .u64 fv3, .int .u64 fv4]) ho hx hy hB ⟨by kernel_rfl, by kernel_rfl⟩ (by simp) (by intro v hv; simp only [List.mem_cons, List.not_mem_nil, or_false] at hv; rcases hv with rfl | rfl | rfl | rfl | rfl | rfl | rfl | rfl | rfl | rfl <;> rfl)
  refine ⟨_, hst, ⟨_, blk_setRow hB, ?_⟩, chg_setRow hB⟩
  exact ⟨[_, _, _, _, _], _, rfl, ⟨_, _, _, _, _, rfl, hN0⟩, ⟨[_, _, _, _, _], _, rfl, ⟨_, _, _, _, _, rfl, hN1⟩, rfl⟩⟩

set_option maxHeartbeats 2000000 in
theorem st2_0 {o : Oper} {a : Act} {w : World} {x y : Operand} {g : Nat} {T : TypeId} {x0 x1 x2 x3 y0 y1 : F} (ho : o.op = .store 70 x y) (hx : a.eval x = .pointer (some ⟨g, 0, none⟩)) (hF : BlkF w g [x0, x1, x2, x3] T) (hV : AgV [y0, y1] (a.eval y)) :
    ∃ w', (execOp a.eval o).run Try.prog w = .ok .skip w' ∧ BlkF w' g [y0, y1, x2, x3] T ∧ BelowX (fun k => k = g) w w' := by
  obtain ⟨l, hB, _, _, rfl, ⟨p0, p1, p2, p3, p4, rfl, hE0⟩, ⟨_, _, rfl, ⟨q0, q1, q2, q3, q4, rfl, hE1⟩, ⟨_, _, rfl, ⟨r0, r1, r2, r3, r4, rfl, hE2⟩, ⟨_, _, rfl, ⟨s0, s1, s2, s3, s4, rfl, hE3⟩, rfl⟩⟩⟩⟩ := hF
  obtain ⟨l', hy, _, _, rfl, ⟨ev0, ev1, ev2, ev3, ev4, rfl, hN0⟩, ⟨_, _, rfl, ⟨fv0, fv1, fv2, fv3, fv4, rfl, hN1⟩, rfl⟩⟩ := hV
  simp only [List.append_assoc, List.cons_append, List.nil_append, List.append_nil] at hB hy
  have hst := st_agg (vs := [.int .u64 ev0, .int .u64 ev1, .int .u64 ev2, .int .u64 ev3, .int .u64 ev4, .int .u64 fv0, .int .u64 fv1, .int .u64 fv2, .int .u64 fv3, .int .u64 fv4]) ho hx hy hB ⟨by kernel_rfl, by kernel_rfl⟩ (by simp) (by intro v hv; simp only [List.mem_cons, List.not_mem_nil, or_false] at hv; rcases hv with rfl | rfl | rfl | rfl | rfl | rfl | rfl | rfl | rfl | rfl <;> rfl)
  refine ⟨_, hst, ⟨_, blk_setRow hB, ?_⟩, chg_setRow hB⟩
  exact ⟨[_, _, _, _, _], _, rfl, ⟨_, _, _, _, _, rfl, hN0⟩, ⟨[_, _, _, _, _], _, rfl, ⟨_, _, _, _, _, rfl, hN1⟩, ⟨[_, _, _, _, _], _, rfl, ⟨_, _, _, _, _, rfl, hE2⟩, ⟨[_, _, _, _, _], _, rfl, ⟨_, _, _, _, _, rfl, hE3⟩, rfl⟩⟩⟩⟩

set_option maxHeartbeats 2000000 in
theorem st2_1 {o : Oper} {a : Act} {w : World} {x y : Operand} {g : Nat} {T : TypeId} {x0 x1 x2 x3 y0 y1 : F} (ho : o.op = .store 70 x y) (hx : a.eval x = .pointer (some ⟨g, 10, none⟩)) (hF : BlkF w g [x0, x1, x2, x3] T) (hV : AgV [y0, y1] (a.eval y)) :
    ∃ w', (execOp a.eval o).run Try.prog w = .ok .skip w' ∧ BlkF w' g [x0, x1, y0, y1] T ∧ BelowX (fun k => k = g) w w' := by
  obtain ⟨l, hB, _, _, rfl, ⟨p0, p1, p2, p3, p4, rfl, hE0⟩, ⟨_, _, rfl, ⟨q0, q1, q2, q3, q4, rfl, hE1⟩, ⟨_, _, rfl, ⟨r0, r1, r2, r3, r4, rfl, hE2⟩, ⟨_, _, rfl, ⟨s0, s1, s2, s3, s4, rfl, hE3⟩, rfl⟩⟩⟩⟩ := hF
  obtain ⟨l', hy, _, _, rfl, ⟨ev0, ev1, ev2, ev3, ev4, rfl, hN0⟩, ⟨_, _, rfl, ⟨fv0, fv1, fv2, fv3, fv4, rfl, hN1⟩, rfl⟩⟩ := hV
  simp only [List.append_assoc, List.cons_append, List.nil_append, List.append_nil] at hB hy
  have hst := st_agg (vs := [.int .u64 ev0, .int .u64 ev1, .int .u64 ev2, .int .u64 ev3, .int .u64 ev4, .int .u64 fv0, .int .u64 fv1, .int .u64 fv2, .int .u64 fv3, .int .u64 fv4]) ho hx hy hB ⟨by kernel_rfl, by kernel_rfl⟩ (by simp) (by intro v hv; simp only [List.mem_cons, List.not_mem_nil, or_false] at hv; rcases hv with rfl | rfl | rfl | rfl | rfl | rfl | rfl | rfl | rfl | rfl <;> rfl)
  refine ⟨_, hst, ⟨_, blk_setRow hB, ?_⟩, chg_setRow hB⟩
  exact ⟨[_, _, _, _, _], _, rfl, ⟨_, _, _, _, _, rfl, hE0⟩, ⟨[_, _, _, _, _], _, rfl, ⟨_, _, _, _, _, rfl, hE1⟩, ⟨[_, _, _, _, _], _, rfl, ⟨_, _, _, _, _, rfl, hN0⟩, ⟨[_, _, _, _, _], _, rfl, ⟨_, _, _, _, _, rfl, hN1⟩, rfl⟩⟩⟩⟩

set_option maxHeartbeats 2000000 in
theorem st4 {o : Oper} {a : Act} {w : World} {x y : Operand} {g : Nat} {T : TypeId} {x0 x1 x2 x3 y0 y1 y2 y3 : F} (ho : o.op = .store 71 x y) (hx : a.eval x = .pointer (some ⟨g, 0, none⟩)) (hF : BlkF w g [x0, x1, x2, x3] T) (hV : AgV [y0, y1, y2, y3] (a.eval y)) :
    ∃ w', (execOp a.eval o).run Try.prog w = .ok .skip w' ∧ BlkF w' g [y0, y1, y2, y3] T ∧ BelowX (fun k => k = g) w w' := by
  obtain ⟨l, hB, _, _, rfl, ⟨p0, p1, p2, p3, p4, rfl, hE0⟩, ⟨_, _, rfl, ⟨q0, q1, q2, q3, q4, rfl, hE1⟩, ⟨_, _, rfl, ⟨r0, r1, r2, r3, r4, rfl, hE2⟩, ⟨_, _, rfl, ⟨s0, s1, s2, s3, s4, rfl, hE3⟩, rfl⟩⟩⟩⟩ := hF
  obtain ⟨l', hy, _, _, rfl, ⟨ev0, ev1, ev2, ev3, ev4, rfl, hN0⟩, ⟨_, _, rfl, ⟨fv0, fv1, fv2, fv3, fv4, rfl, hN1⟩, ⟨_, _, rfl, ⟨gv0, gv1, gv2, gv3, gv4, rfl, hN2⟩, ⟨_, _, rfl, ⟨hv0, hv1, hv2, hv3, hv4, rfl, hN3⟩, rfl⟩⟩⟩⟩ := hV
  simp only [List.append_assoc, List.cons_append, List.nil_append, List.append_nil] at hB hy
  have hst := st_agg (vs := [.int .u64 ev0, .int .u64 ev1, .int .u64 ev2, .int .u64 ev3, .int .u64 ev4, .int .u64 fv0, .int .u64 fv1, .int .u64 fv2, .int .u64 fv3, .int .u64 fv4, .int .u64 gv0, .int .u64 gv1, .int .u64 gv2, .int .u64 gv3, .int .u64 gv4, .int .u64 hv0, .int .u64 hv1, .int .u64 hv2, .int .u64 hv3, .int .u64 hv4]) ho hx hy hB ⟨by kernel_rfl, by kernel_rfl⟩ (by simp) (by intro v hv; simp only [List.mem_cons, List.not_mem_nil, or_false] at hv; rcases hv with rfl | rfl | rfl | rfl | rfl | rfl | rfl | rfl | rfl | rfl | rfl | rfl | rfl | rfl | rfl | rfl | rfl | rfl | rfl | rfl <;> rfl)
  refine ⟨_, hst, ⟨_, blk_setRow hB, ?_⟩, chg_setRow hB⟩
  exact ⟨[_, _, _, _, _], _, rfl, ⟨_, _, _, _, _, rfl, hN0⟩, ⟨[_, _, _, _, _], _, rfl, ⟨_, _, _, _, _, rfl, hN1⟩, ⟨[_, _, _, _, _], _, rfl, ⟨_, _, _, _, _, rfl, hN2⟩, ⟨[_, _, _, _, _], _, rfl, ⟨_, _, _, _, _, rfl, hN3⟩, rfl⟩⟩⟩⟩

theorem al1 {o : Oper} (ho : o.op = .alloc 26) (a : Act) (w : World) : ∃ ob, (execOp a.eval o).run Try.prog w = .ok (.value (.pointer (some ⟨w.heap.size, 0, none⟩))) (w.alloc ob) ∧ BlkF (w.alloc ob) w.heap.size [0] 26 := by
  refine ⟨.cells #[.int .u64 0, .int .u64 0, .int .u64 0, .int .u64 0, .int .u64 0] 26, ?_, [.int .u64 0, .int .u64 0, .int .u64 0, .int .u64 0, .int .u64 0], Blk.new _ _ _, FsL.zero1⟩
  generalize a.eval = ev
  simp [execOp, ho, go_sem]

theorem al2 {o : Oper} (ho : o.op = .alloc 70) (a : Act) (w : World) : ∃ ob, (execOp a.eval o).run Try.prog w = .ok (.value (.pointer (some ⟨w.heap.size, 0, none⟩))) (w.alloc ob) ∧ BlkF (w.alloc ob) w.heap.size [0, 0] 70 := by
  refine ⟨.cells #[.int .u64 0, .int .u64 0, .int .u64 0, .int .u64 0, .int .u64 0, .int .u64 0, .int .u64 0, .int .u64 0, .int .u64 0, .int .u64 0] 70, ?_, [.int .u64 0, .int .u64 0, .int .u64 0, .int .u64 0, .int .u64 0, .int .u64 0, .int .u64 0, .int .u64 0, .int .u64 0, .int .u64 0], Blk.new _ _ _, FsL.zero1.app FsL.zero1⟩
  generalize a.eval = ev
  simp [execOp, ho, go_sem]

theorem al4 {o : Oper} (ho : o.op = .alloc 71) (a : Act) (w : World) : ∃ ob, (execOp a.eval o).run Try.prog w = .ok (.value (.pointer (some ⟨w.heap.size, 0, none⟩))) (w.alloc ob) ∧ BlkF (w.alloc ob) w.heap.size [0, 0, 0, 0] 71 := by
  refine ⟨.cells #[.int .u64 0, .int .u64 0, .int .u64 0, .int .u64 0, .int .u64 0, .int .u64 0, .int .u64 0, .int .u64 0, .int .u64 0, .int .u64 0, .int .u64 0, .int .u64 0, .int .u64 0, .int .u64 0, .int .u64 0, .int .u64 0, .int .u64 0, .int .u64 0, .int .u64 0, .int .u64 0] 71, ?_, [.int .u64 0, .int .u64 0, .int .u64 0, .int .u64 0, .int .u64 0, .int .u64 0, .int .u64 0, .int .u64 0, .int .u64 0, .int .u64 0, .int .u64 0, .int .u64 0, .int .u64 0, .int .u64 0, .int .u64 0, .int .u64 0, .int .u64 0, .int .u64 0, .int .u64 0, .int .u64 0], Blk.new _ _ _, FsL.zero1.app (FsL.zero1.app (FsL.zero1.app FsL.zero1))⟩
  generalize a.eval = ev
  simp [execOp, ho, go_sem]

theorem bd2 {o : Oper} {a : Act} {w : World} {p q : Operand} {x0 y0 : F} (ho : o.op = .build 70 #[(0, p), (1, q)]) (hp : AgV [x0] (a.eval p)) (hq : AgV [y0] (a.eval q)) : ∃ v, (execOp a.eval o).run Try.prog w = .ok (.value v) w ∧ AgV [x0, y0] v := by
  obtain ⟨l, hp, _, _, rfl, ⟨p0, p1, p2, p3, p4, rfl, hE0⟩, rfl⟩ := hp
  obtain ⟨l', hq, _, _, rfl, ⟨ev0, ev1, ev2, ev3, ev4, rfl, hN0⟩, rfl⟩ := hq
  refine ⟨.agg #[.int .u64 p0, .int .u64 p1, .int .u64 p2, .int .u64 p3, .int .u64 p4, .int .u64 ev0, .int .u64 ev1, .int .u64 ev2, .int .u64 ev3, .int .u64 ev4], ?_, _, rfl, [_, _, _, _, _], _, rfl, ⟨_, _, _, _, _, rfl, hE0⟩, ⟨[_, _, _, _, _], _, rfl, ⟨_, _, _, _, _, rfl, hN0⟩, rfl⟩⟩
  simp only [List.append_assoc, List.cons_append, List.nil_append, List.append_nil] at hp hq
  generalize a.eval = ev at hp hq ⊢
  simp [execOp, ho, hp, hq, go_sem]

theorem bd4 {o : Oper} {a : Act} {w : World} {p q : Operand} {x0 x1 y0 y1 : F} (ho : o.op = .build 71 #[(0, p), (1, q)]) (hp : AgV [x0, x1] (a.eval p)) (hq : AgV [y0, y1] (a.eval q)) : ∃ v, (execOp a.eval o).run Try.prog w = .ok (.value v) w ∧ AgV [x0, x1, y0, y1] v := by
  obtain ⟨l, hp, _, _, rfl, ⟨p0, p1, p2, p3, p4, rfl, hE0⟩, ⟨_, _, rfl, ⟨q0, q1, q2, q3, q4, rfl, hE1⟩, rfl⟩⟩ := hp
  obtain ⟨l', hq, _, _, rfl, ⟨ev0, ev1, ev2, ev3, ev4, rfl, hN0⟩, ⟨_, _, rfl, ⟨fv0, fv1, fv2, fv3, fv4, rfl, hN1⟩, rfl⟩⟩ := hq
  refine ⟨.agg #[.int .u64 p0, .int .u64 p1, .int .u64 p2, .int .u64 p3, .int .u64 p4, .int .u64 q0, .int .u64 q1, .int .u64 q2, .int .u64 q3, .int .u64 q4, .int .u64 ev0, .int .u64 ev1, .int .u64 ev2, .int .u64 ev3, .int .u64 ev4, .int .u64 fv0, .int .u64 fv1, .int .u64 fv2, .int .u64 fv3, .int .u64 fv4], ?_, _, rfl, [_, _, _, _, _], _, rfl, ⟨_, _, _, _, _, rfl, hE0⟩, ⟨[_, _, _, _, _], _, rfl, ⟨_, _, _, _, _, rfl, hE1⟩, ⟨[_, _, _, _, _], _, rfl, ⟨_, _, _, _, _, rfl, hN0⟩, ⟨[_, _, _, _, _], _, rfl, ⟨_, _, _, _, _, rfl, hN1⟩, rfl⟩⟩⟩⟩
  simp only [List.append_assoc, List.cons_append, List.nil_append, List.append_nil] at hp hq
  generalize a.eval = ev at hp hq ⊢
  simp [execOp, ho, hp, hq, go_sem]

end Go.Proofs.Ytdjdfmnjoilmkaa
