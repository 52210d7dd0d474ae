/-
 OPERATIONS: make, append of noughts, slices of slices.
-/
import Derived.Test.YtkhbihnnkflfkaaGreatZero
namespace Go.Proofs.YtkhbihnnkflfkaaGreat
open Go.RowKit
set_option linter.unusedVariables false
set_option linter.unusedSimpArgs false
set_option maxRecDepth 100000
variable {A : Option Addr} {base c m n : Nat} {xs : List Nat}
section
variable {o : Oper} {ev : Operand → Value} {w : World} {x y z : Operand} {T U t : TypeId} {g k : Nat}
theorem o_appendZ (ho : o.op = .call { callee := .builtin .append, args := #[x, y], argTypes := #[22, 3] }) (hx : ev x = .slice A n c) (hy : ev y = .int .i64 (m : Int))
  (hO : Own w base A c xs) (hn : xs.length = n) (hl : n + m ≤ 140737488355328) (hbase : base ≤ w.heap.size) :
  ∃ v w', (execOp ev o).run Tryz.prog w = .ok (.value v) w' ∧ ∃ A' c', v = .slice A' (n + m) c' ∧ Own w' base A' c' (xs ++ List.replicate m 0) ∧ Below base w w' ∧ w.grownBy w' (Value.slice A n c).ownBlock ∧
   ((Value.slice A' (n + m) c').ownBlock = (Value.slice A n c).ownBlock ∨ (Value.slice A' (n + m) c').ownBlock = some w.heap.size) := by
 obtain ⟨A', c', w', hrun, h1, h2, h3, h4⟩ := app_zero o.type hO hn hl hbase
 refine ⟨_, w', ?_, A', c', rfl, h1, h2, h3, h4⟩
 simp only [execOp, ho, resolve, invoke, builtin, Sem.run_bind, Sem.run_pure, Result.andThen_ok, List.map_toArray, List.map_cons, List.map_nil, hx, hy, hrun]
theorem o_make (ho : o.op = .makeSlice 22 x y) (hx : ev x = .int .i64 (n : Int)) (hy : ev y = .int .i64 (n : Int))
  (hm : ∀ w : World, (Instr.makeSlice 22 (.int .i64 (n : Int)) (.int .i64 (n : Int))).run Tryz.prog w = .ok (.slice (some ⟨w.heap.size, 0, none⟩) n n) (w.alloc (.cells (u8s (List.replicate n 0)).toArray 5))) (hn : n ≤ 9223372036854775807) :
  ∃ v w', (execOp ev o).run Tryz.prog w = .ok (.value v) w' ∧ ∃ g, v = .slice (some ⟨g, 0, none⟩) n n ∧ Own w' w.heap.size (some ⟨g, 0, none⟩) n (List.replicate n 0) ∧ Below w.heap.size w w' := by
 refine ⟨_, w.alloc (.cells (u8s (List.replicate n 0)).toArray 5), ?_, w.heap.size, rfl, ?_, (Below.refl _ _).alloc (Nat.le_refl _) _⟩
 ·simp only [execOp, ho, hx, hy, hm, Sem.run_bind, Sem.run_pure, Result.andThen_ok]
 ·have h := Own.of_blk (xs := List.replicate n 0) (Blk.new w _ _) (Nat.le_refl _) (fun y hy => by rw [(List.mem_replicate.1 hy).2]; omega) (by simpa using hn)
  simpa using h
theorem o_bldS {parts : Array (Nat × Operand)} {vs : Array (Nat × Value)} {cs : Array Value} {e : TypeId} (ho : o.op = .buildSlice T n parts) (hp : parts.map (fun (i, x) => (i, ev x)) = vs)
  (hb : ∀ w : World, (Instr.buildSlice T n vs).run Tryz.prog w = .ok (.slice (some ⟨w.heap.size, 0, none⟩) n n) (w.alloc (.cells cs e))) :
  ∃ v w', (execOp ev o).run Tryz.prog w = .ok (.value v) w' ∧ ∃ g, v = .slice (some ⟨g, 0, none⟩) n n ∧ w.heap.size ≤ g ∧ Blk w' g cs e ∧ Below w.heap.size w w' := by
 refine ⟨_, w.alloc (.cells cs e), ?_, w.heap.size, rfl, Nat.le_refl _, Blk.new w _ _, (Below.refl _ _).alloc (Nat.le_refl _) _⟩
 simp only [execOp, ho, hp, hb, Sem.run_bind, Sem.run_pure, Result.andThen_ok]
theorem o_cap (ho : o.op = .call { callee := .builtin .cap, args := #[x], argTypes := #[22] }) (hx : ev x = .slice A n c) : (execOp ev o).run Tryz.prog w = .ok (.value (.int .i64 (c : Int))) w := by
 simp [execOp, ho, hx, go_sem, resolve, invoke, builtin]
theorem o_lenS (ho : o.op = .call { callee := .builtin .len, args := #[x], argTypes := #[82] }) (hx : ev x = .slice A n c) : (execOp ev o).run Tryz.prog w = .ok (.value (.int .i64 (n : Int))) w := by
 simp [execOp, ho, hx, go_sem, resolve, invoke, builtin]
theorem o_ixS {off i : Nat} (ho : o.op = .indexAddr 82 x y) (hx : ev x = .slice (some ⟨g, off, none⟩) n c) (hy : ev y = .int .i64 (i : Int)) (hi : i < n) : (execOp ev o).run Tryz.prog w = .ok (.value (.pointer (some ⟨g, off + i, none⟩))) w := by
 have h1 : (i : Int) < (n : Int) := by omega
 simp [execOp, ho, hx, hy, go_sem, h1, Addr.add_lit]
theorem o_max0 (ho : o.op = .call { callee := .builtin .max, args := #[x, y], argTypes := #[3, 3] }) (hx : ev x = .int .i64 0) (hy : ev y = .int .i64 ((m : Int) - (n : Int))) : (execOp ev o).run Tryz.prog w = .ok (.value (.int .i64 ((m - n : Nat) : Int))) w := by
 have e : ((m - n : Nat) : Int) = max 0 ((m : Int) - (n : Int)) := by omega
 simp [execOp, ho, hx, hy, go_sem, resolve, invoke, builtin, e]
 try omega
end
theorem Own.trunc {w : World} (h : Own w base A c xs) : Own w base A c [] := by
 refine ⟨⟨by simp [u8s], ?_⟩, by simp⟩
 rcases h.row.2 with ⟨hv, hn⟩ | ⟨g, cap, cur, hv, hg, hh, hle, hmax, hsz, htake⟩
 ·simp only [Value.slice.injEq] at hv
  obtain ⟨rfl, _, rfl⟩ := hv
  exact .inl ⟨rfl, rfl⟩
 ·simp only [Value.slice.injEq] at hv
  obtain ⟨rfl, _, rfl⟩ := hv
  exact .inr ⟨g, c, cur, rfl, hg, hh, Nat.zero_le _, hmax, hsz, by simp [u8s]⟩
theorem subA_zero (A : Option Addr) (c : Nat) : subA A 0 c = A := by
 unfold subA atA
 split
 ·rfl
 ·cases A <;> simp [Addr.add]
structure Part where
 A : Option Addr
 c : Nat
 xs : List Nat
def Part.val (p : Part) : Value := .slice p.A p.xs.length p.c
def Part.at (ps : List Part) (k : Nat) : Part := ps.getD k ⟨none, 0, []⟩
def joinP (ps : List Part) : Nat → List Nat
 | 0 => []
 | k + 1 => joinP ps k ++ (Part.at ps k).xs
theorem Part.get {ps : List Part} {k : Nat} (h : k < ps.length) : (ps.map Part.val).toArray[k]? = some (Part.at ps k).val := by simp [Part.at, h]
theorem joinP_le (ps : List Part) (N : Nat) (h : (joinP ps ps.length).length ≤ N) : ∀ k, k ≤ ps.length → (joinP ps k).length ≤ N := by
 have mono : ∀ k j, (joinP ps k).length ≤ (joinP ps (k + j)).length := by
  intro k j
  induction j with
  | zero => simp
  | succ j ih => rw [← Nat.add_assoc]; simp only [joinP, List.length_append]; omega
 intro k hk
 have := mono k (ps.length - k)
 rw [Nat.add_sub_cancel' hk] at this
 omega
end Go.Proofs.YtkhbihnnkflfkaaGreat
