/-
 OPERATIONS, one by one: whole numbers, bools, slices of bytes, cells of blocks.
-/
import Derived.Test.YtkhbihnnkflfkaaGreatExec
import Derived.IntWalk
namespace Go.Proofs.YtkhbihnnkflfkaaGreat
open Go.RowKit
set_option maxRecDepth 100000
set_option linter.unusedVariables false
set_option linter.unusedSimpArgs false

variable {v : Value} {k k' : IntKind} {c m n : Nat} {b : BinOp} {A : Option Addr} {vs : Array Value} {p : Addr} {xs : List Nat} {w w' : World}
section
variable {o : Oper} {ev : Operand → Value} {w : World} {x y z : Operand} {T U : TypeId}

theorem o_eq {v' : Value} (h : (execOp ev o).run Tryz.prog w = .ok (.value v) w) (e : v = v') : (execOp ev o).run Tryz.prog w = .ok (.value v') w := by rw [← e]; exact h
theorem o_move (ho : o.op = .move x) (hx : ev x = v) : (execOp ev o).run Tryz.prog w = .ok (.value v) w := by simp [execOp, ho, hx]
theorem o_assign (ho : o.op = .assign x) (hx : ev x = v) : (execOp ev o).run Tryz.prog w = .ok (.value v) w := by simp [execOp, ho, hx]
theorem o_add64 (ho : o.op = .binOp .add T x y U) (hx : ev x = .int .i64 (m : Int)) (hy : ev y = .int .i64 (n : Int)) (hb : m + n < 9223372036854775808) :
  (execOp ev o).run Tryz.prog w = .ok (.value (.int .i64 ((m + n : Nat) : Int))) w := by
 have e : IntKind.i64.wrap ((m : Int) + (n : Int)) = (m : Int) + (n : Int) := IntWalk.i64_in _ (by omega)
 simp [execOp, ho, hx, hy, go_sem, e]
theorem o_sub64 (ho : o.op = .binOp .sub T x y U) (hx : ev x = .int .i64 (m : Int)) (hy : ev y = .int .i64 (n : Int)) (hb : n ≤ m) (hm : m < 9223372036854775808) :
  (execOp ev o).run Tryz.prog w = .ok (.value (.int .i64 ((m - n : Nat) : Int))) w := by
 have e : IntKind.i64.wrap ((m : Int) - (n : Int)) = (m : Int) - (n : Int) := IntWalk.i64_in _ (by omega)
 have e2 : ((m - n : Nat) : Int) = (m : Int) - (n : Int) := by omega
 simp [execOp, ho, hx, hy, go_sem, e, e2]
theorem o_subZ (ho : o.op = .binOp .sub T x y U) (hx : ev x = .int .i64 (m : Int)) (hy : ev y = .int .i64 (n : Int)) (hm : m < 4611686018427387904) (hn : n < 4611686018427387904) :
  (execOp ev o).run Tryz.prog w = .ok (.value (.int .i64 ((m : Int) - (n : Int)))) w := by
 have e : IntKind.i64.wrap ((m : Int) - (n : Int)) = (m : Int) - (n : Int) := IntWalk.i64_in _ (by omega)
 simp [execOp, ho, hx, hy, go_sem, e]
theorem o_mul64 (ho : o.op = .binOp .mul T x y U) (hx : ev x = .int .i64 (m : Int)) (hy : ev y = .int .i64 (n : Int)) (hb : m * n < 9223372036854775808) :
  (execOp ev o).run Tryz.prog w = .ok (.value (.int .i64 ((m * n : Nat) : Int))) w := by
 have e2 : ((m * n : Nat) : Int) = (m : Int) * (n : Int) := Int.natCast_mul m n
 have e : IntKind.i64.wrap ((m : Int) * (n : Int)) = (m : Int) * (n : Int) := by rw [← e2]; exact IntWalk.i64_in _ (by omega)
 simp [execOp, ho, hx, hy, go_sem, e]
theorem o_rem (ho : o.op = .binOp .rem T x y U) (hx : ev x = .int k (m : Int)) (hy : ev y = .int k (n : Int)) (hn : 0 < n) (hw : k.wrap ((m % n : Nat) : Int) = ((m % n : Nat) : Int)) :
  (execOp ev o).run Tryz.prog w = .ok (.value (.int k ((m % n : Nat) : Int))) w := by
 have e : (m : Int).tmod (n : Int) = ((m % n : Nat) : Int) := (Int.ofNat_tmod m n).symm
 have hne : ¬ n = 0 := by omega
 simp only [Int.natCast_emod] at hw
 simp [execOp, ho, hx, hy, eqGuard, binOp, Op.intDiv, hne, e, hw, Sem.run_bind, Sem.run_pure]
theorem o_addU (r : Nat) (ho : o.op = .binOp .add T x y U) (hx : ev x = .int k (m : Int)) (hy : ev y = .int k (n : Int)) (hw : k.wrap ((m : Int) + (n : Int)) = (r : Int)) :
  (execOp ev o).run Tryz.prog w = .ok (.value (.int k (r : Int))) w := by
 simp [execOp, ho, hx, hy, go_sem, hw]
theorem o_subU (r : Nat) (ho : o.op = .binOp .sub T x y U) (hx : ev x = .int k (m : Int)) (hy : ev y = .int k (n : Int)) (hw : k.wrap ((m : Int) - (n : Int)) = (r : Int)) :
  (execOp ev o).run Tryz.prog w = .ok (.value (.int k (r : Int))) w := by
 simp [execOp, ho, hx, hy, go_sem, hw]
theorem o_mulU (r : Nat) (ho : o.op = .binOp .mul T x y U) (hx : ev x = .int k (m : Int)) (hy : ev y = .int k (n : Int)) (hw : k.wrap ((m : Int) * (n : Int)) = (r : Int)) :
  (execOp ev o).run Tryz.prog w = .ok (.value (.int k (r : Int))) w := by
 simp [execOp, ho, hx, hy, go_sem, hw]
theorem o_bits (r : Nat) (ho : o.op = .binOp b T x y U) (hx : ev x = .int k (m : Int)) (hy : ev y = .int k (n : Int)) (hb : (b = .and ∨ b = .or) ∨ b = .xor ∨ b = .andNot) (hw : bits b k (m : Int) (n : Int) = (r : Int)) :
  (execOp ev o).run Tryz.prog w = .ok (.value (.int k (r : Int))) w := by
 rcases hb with (rfl | rfl) | rfl | rfl <;> simp [execOp, ho, hx, hy, go_sem, hw]
theorem o_shr (ho : o.op = .binOp .shr T x y U) (hx : ev x = .int k (m : Int)) (hy : ev y = .int k' (n : Int)) (hn : n ≤ k.bits) :
  (execOp ev o).run Tryz.prog w = .ok (.value (.int k ((m / 2 ^ n : Nat) : Int))) w := by
 have h0 : ¬ ((n : Int) < 0) := by omega
 have e : (m : Int).fdiv (2 ^ n) = ((m / 2 ^ n : Nat) : Int) := by
  rw [Int.fdiv_eq_ediv_of_nonneg _ (by exact_mod_cast Nat.zero_le _)]; simp
 have hmin : min n k.bits = n := Nat.min_eq_left hn
 simp [execOp, ho, hx, hy, eqGuard, binOp, Op.shift, h0, hmin, e, Sem.run_bind, Sem.run_pure]
theorem o_shl (r : Nat) (ho : o.op = .binOp .shl T x y U) (hx : ev x = .int k (m : Int)) (hy : ev y = .int k' (n : Int)) (hn : n ≤ k.bits) (hw : k.wrap ((m : Int) * 2 ^ n) = (r : Int)) :
  (execOp ev o).run Tryz.prog w = .ok (.value (.int k (r : Int))) w := by
 have h0 : ¬ ((n : Int) < 0) := by omega
 have hmin : min n k.bits = n := Nat.min_eq_left hn
 simp [execOp, ho, hx, hy, eqGuard, binOp, Op.shift, h0, hmin, hw, Sem.run_bind, Sem.run_pure]
theorem o_lss (ho : o.op = .binOp .lss T x y U) (hx : ev x = .int k (m : Int)) (hy : ev y = .int k (n : Int)) : (execOp ev o).run Tryz.prog w = .ok (.value (.bool (decide (m < n)))) w := by
 simp [execOp, ho, hx, hy, go_sem]
theorem o_leq (ho : o.op = .binOp .leq T x y U) (hx : ev x = .int k (m : Int)) (hy : ev y = .int k (n : Int)) : (execOp ev o).run Tryz.prog w = .ok (.value (.bool (decide (m ≤ n)))) w := by
 simp [execOp, ho, hx, hy, go_sem]
theorem o_gtr (ho : o.op = .binOp .gtr T x y U) (hx : ev x = .int k (m : Int)) (hy : ev y = .int k (n : Int)) : (execOp ev o).run Tryz.prog w = .ok (.value (.bool (decide (n < m)))) w := by
 simp [execOp, ho, hx, hy, go_sem]
theorem o_geq (ho : o.op = .binOp .geq T x y U) (hx : ev x = .int k (m : Int)) (hy : ev y = .int k (n : Int)) : (execOp ev o).run Tryz.prog w = .ok (.value (.bool (decide (n ≤ m)))) w := by
 simp [execOp, ho, hx, hy, go_sem]
theorem o_eql (ho : o.op = .binOp .eql T x y U) (hx : ev x = .int k (m : Int)) (hy : ev y = .int k (n : Int)) : (execOp ev o).run Tryz.prog w = .ok (.value (.bool (decide (m = n)))) w := by
 have e : ((m : Int) == (n : Int)) = decide (m = n) := by rw [Bool.eq_iff_iff]; simp; omega
 simp [execOp, ho, hx, hy, go_sem, e]
theorem o_neq (ho : o.op = .binOp .neq T x y U) (hx : ev x = .int k (m : Int)) (hy : ev y = .int k (n : Int)) : (execOp ev o).run Tryz.prog w = .ok (.value (.bool (!decide (m = n)))) w := by
 have e : ((m : Int) != (n : Int)) = !decide (m = n) := by rw [Bool.eq_iff_iff]; simp; omega
 simp [execOp, ho, hx, hy, go_sem, e]
theorem o_not {b : Bool} (ho : o.op = .unOp .not T x) (hx : ev x = .bool b) : (execOp ev o).run Tryz.prog w = .ok (.value (.bool (!b))) w := by simp [execOp, ho, hx, go_sem]
theorem o_pickT (ho : o.op = .pick x y z) (hx : ev x = .bool true) (hy : ev y = v) : (execOp ev o).run Tryz.prog w = .ok (.value v) w := by simp [execOp, ho, hx, hy, go_sem]
theorem o_pickF (ho : o.op = .pick x y z) (hx : ev x = .bool false) (hz : ev z = v) : (execOp ev o).run Tryz.prog w = .ok (.value v) w := by simp [execOp, ho, hx, hz, go_sem]
theorem o_conv {r : Nat} (ho : o.op = .convert T U x) (hx : ev x = .int k (m : Int)) (hT : ∃ d, ∀ w, (underlying T).run Tryz.prog w = .ok d w) (hU : ∀ w, (underlying U).run Tryz.prog w = .ok (.int k') w) (hw : k'.wrap (m : Int) = (r : Int)) :
  (execOp ev o).run Tryz.prog w = .ok (.value (.int k' (r : Int))) w := by
 obtain ⟨d, hT⟩ := hT
 simp [execOp, ho, hx, convert, hT, hU, Sem.run_bind, Sem.run_pure, Conv.intToInt, hw]
theorem o_len (ho : o.op = .call { callee := .builtin .len, args := #[x], argTypes := #[22] }) (hx : ev x = .slice A n c) : (execOp ev o).run Tryz.prog w = .ok (.value (.int .i64 (n : Int))) w := by
 simp [execOp, ho, hx, go_sem, resolve, invoke, builtin]
theorem o_min (ho : o.op = .call { callee := .builtin .min, args := #[x, y], argTypes := #[3, 3] }) (hx : ev x = .int .i64 (m : Int)) (hy : ev y = .int .i64 (n : Int)) : (execOp ev o).run Tryz.prog w = .ok (.value (.int .i64 ((min m n : Nat) : Int))) w := by
 have e : (if (n : Int) < (m : Int) then (n : Int) else (m : Int)) = ((min m n : Nat) : Int) := by
  by_cases h : n < m
  ·rw [if_pos (by omega), Nat.min_eq_right (by omega)]
  ·rw [if_neg (by omega), Nat.min_eq_left (by omega)]
 simp [execOp, ho, hx, hy, go_sem, resolve, invoke, builtin]
 try omega
theorem o_extract {k : Nat} (ho : o.op = .extract x k) (hx : ev x = .tuple vs) (hv : vs[k]? = some v) : (execOp ev o).run Tryz.prog w = .ok (.value v) w := by
 simp [execOp, ho, hx, go_sem, hv]
theorem o_nilCheck (ho : o.op = .nilCheck x) (hx : ev x = .pointer (some p)) : (execOp ev o).run Tryz.prog w = .ok (.value (.pointer (some p))) w := by
 simp [execOp, ho, hx, go_sem]
theorem equalIn_nil (d : Nat) {e : TypeId} {p : Option Addr} (hT : ∀ w, (underlying T).run Tryz.prog w = .ok (.pointer e) w) : (Op.equalIn (d + 1) T (.pointer p) (.pointer none)).run Tryz.prog w = .ok p.isNone w := by
 cases p <;> simp [Op.equalIn, hT, Sem.run_bind, Sem.run_pure]
theorem o_nil {b : Bool} {p : Option Addr} (ho : o.op = .binOp .eql T x y U) (hx : ev x = .pointer p) (hy : ev y = .pointer none) (hb : p.isNone = b) (hT : ∃ e, ∀ w, (underlying T).run Tryz.prog w = .ok (.pointer e) w) : (execOp ev o).run Tryz.prog w = .ok (.value (.bool b)) w := by
 obtain ⟨e, hT⟩ := hT
 subst hb
 have e1 : (Op.equal T (.pointer p) (.pointer none)).run Tryz.prog w = .ok p.isNone w := equalIn_nil 9999 hT
 cases p <;> simp [execOp, ho, hx, hy, eqGuard, binOp, e1, Sem.run_bind, Sem.run_pure]

def atA (A : Option Addr) (k : Nat) : Option Addr := A.map (·.add k)
theorem o_ix {k : Nat} (ho : o.op = .indexAddr 22 x y) (hx : ev x = .slice A n c) (hy : ev y = .int .i64 (k : Int)) (hk : k < n) (hA : A.isSome = true) : (execOp ev o).run Tryz.prog w = .ok (.value (.pointer (atA A k))) w := by
 obtain ⟨p, rfl⟩ := Option.isSome_iff_exists.1 hA
 have h1 : (k : Int) < (n : Int) := by omega
 simp [execOp, ho, hx, hy, go_sem, h1, atA]
theorem Bs.some (h : Bs w A c xs) (h0 : 0 < xs.length) : A.isSome = true := by
 obtain ⟨b, off, rfl, _⟩ := h.at h0
 rfl
theorem o_ld8 {k v : Nat} (ho : o.op = .load 5 x) (hx : ev x = .pointer (atA A k)) (hB : Bs w A c xs) (hk : k < xs.length) (hv : xs.getD k 0 = v) : (execOp ev o).run Tryz.prog w = .ok (.value (.int .u8 (v : Int))) w := by
 obtain ⟨b, off, rfl, hc⟩ := hB.at hk
 rw [hv] at hc
 have e : atA (some ⟨b, off, none⟩) k = some ⟨b, off + k, none⟩ := by simp [atA, Addr.add_lit]
 rw [e] at hx
 simp [execOp, ho, hx, go_sem, hc]
def subA (A : Option Addr) (l m : Nat) : Option Addr := if m = l then A else atA A l

theorem Bs.nx (h : Bs w A c xs) (hb : Below w.heap.size w w') : Bs w' A c xs := h.below hb
theorem Own.nx {B : Nat} (h : Own w B A c xs) (hb : Below w.heap.size w w') : Own w' B A c xs := h.below hb
theorem Blk.nx {g : Nat} {cur : Array Value} {T : TypeId} (h : Blk w g cur T) (hb : Below w.heap.size w w') : Blk w' g cur T := h.old hb

theorem o_build1 (ho : o.op = .buildSlice 22 1 #[(0, x)]) (hx : ev x = .int .u8 (m : Int)) (hm : m < 256) :
  ∃ v w', (execOp ev o).run Tryz.prog w = .ok (.value v) w' ∧ ∃ g, v = .slice (some ⟨g, 0, none⟩) 1 1 ∧ Own w' w.heap.size (some ⟨g, 0, none⟩) 1 [m] ∧ Below w.heap.size w w' := by
 refine ⟨_, w.alloc (.cells #[.int .u8 (m : Int)] 5), ?_, w.heap.size, rfl, ?_, (Below.refl _ _).alloc (Nat.le_refl _) _⟩
 ·simp [execOp, ho, hx, go_sem]
 ·exact Own.of_blk (xs := [m]) (Blk.new w _ _) (Nat.le_refl _) (by simp [hm]) (by simp)
theorem o_build2 (ho : o.op = .buildSlice 22 2 #[(0, x), (1, y)]) (hx : ev x = .int .u8 (m : Int)) (hy : ev y = .int .u8 (n : Int)) (hm : m < 256) (hn : n < 256) :
  ∃ v w', (execOp ev o).run Tryz.prog w = .ok (.value v) w' ∧ ∃ g, v = .slice (some ⟨g, 0, none⟩) 2 2 ∧ Own w' w.heap.size (some ⟨g, 0, none⟩) 2 [m, n] ∧ Below w.heap.size w w' := by
 refine ⟨_, w.alloc (.cells #[.int .u8 (m : Int), .int .u8 (n : Int)] 5), ?_, w.heap.size, rfl, ?_, (Below.refl _ _).alloc (Nat.le_refl _) _⟩
 ·simp [execOp, ho, hx, hy, go_sem]
 ·exact Own.of_blk (xs := [m, n]) (Blk.new w _ _) (Nat.le_refl _) (by simp [hm, hn]) (by simp)
theorem o_append {B : Option Addr} {base d : Nat} {ys : List Nat} (ho : o.op = .call { callee := .builtin .append, args := #[x, y], argTypes := #[22, 22] }) (hx : ev x = .slice A n c) (hy : ev y = .slice B m d)
  (hO : Own w base A c xs) (hB : Bs w B d ys) (hn : xs.length = n) (hm : ys.length = m) (hl : n + m ≤ 140737488355328) (hbase : base ≤ w.heap.size) :
  ∃ v w', (execOp ev o).run Tryz.prog w = .ok (.value v) w' ∧ ∃ A' c', v = .slice A' (n + m) c' ∧ Own w' base A' c' (xs ++ ys) ∧ Below base w w' ∧ w.grownBy w' (Value.slice A n c).ownBlock ∧
   ((Value.slice A' (n + m) c').ownBlock = (Value.slice A n c).ownBlock ∨ (Value.slice A' (n + m) c').ownBlock = some w.heap.size) := by
 obtain ⟨A', c', w', hrun, h1, h2, h3, h4⟩ := app_run o.type hO hB hn hm hl hbase
 refine ⟨_, w', ?_, A', c', rfl, h1, h2, h3, h4⟩
 simp only [execOp, ho, resolve, invoke, builtin, Sem.run_bind, Sem.run_pure, Result.andThen_ok, List.map_toArray, List.map_cons, List.map_nil, hx, hy, hrun]
end
section
variable {Q : Exit → Act → World → Prop} {a : Act} {w : World} {ops : Array Oper} {rest : List Oper} {l : List (Tmp × Value)} {d : Tmp} {x : Operand} {ty : TypeId} {ps : String} {af : Array Edge} {v : Value}
theorem q_mv (hx : (putsR a l).eval x = v) (h : wpList Tryz.prog ops Q rest (putsR a ((d, v) :: l)) w) : wpList Tryz.prog ops Q (⟨some d, .move x, ty, ps, af, none⟩ :: rest) (putsR a l) w := op_val rfl rfl (o_move rfl hx) h
theorem q_at (hx : (putsR a l).eval x = v) (h : wpList Tryz.prog ops Q rest (putsR a ((d, v) :: l)) w) : wpList Tryz.prog ops Q (⟨some d, .assign x, ty, ps, af, none⟩ :: rest) (putsR a l) w := op_val rfl rfl (o_assign rfl hx) h
theorem q_as (v : Value) (hx : (putsR a l).eval x = v) (h : wpList Tryz.prog ops Q rest (putsR a ((d, v) :: l)) w) : wpList Tryz.prog ops Q (⟨some d, .assign x, ty, ps, af, none⟩ :: rest) (putsR a l) w := op_val rfl rfl (o_assign rfl hx) h
theorem q_ex {k : Nat} (hx : (putsR a l).eval x = .tuple vs) (hv : vs[k]? = some v) (h : wpList Tryz.prog ops Q rest (putsR a ((d, v) :: l)) w) : wpList Tryz.prog ops Q (⟨some d, .extract x k, ty, ps, af, none⟩ :: rest) (putsR a l) w := op_val rfl rfl (o_extract rfl hx hv) h
theorem q_nc (hx : (putsR a l).eval x = .pointer (some p)) (h : wpList Tryz.prog ops Q rest (putsR a ((d, .pointer (some p)) :: l)) w) : wpList Tryz.prog ops Q (⟨some d, .nilCheck x, ty, ps, af, none⟩ :: rest) (putsR a l) w := op_val rfl rfl (o_nilCheck rfl hx) h
end
theorem DD9 : (∀ (p : Prop) [Decidable p], (decide p = true) = p) ∧ (∀ (p : Prop) [Decidable p], (decide p = false) = ¬ p) ∧ (∀ b : Bool, ((!b) = true) = (b = false)) ∧ (∀ b : Bool, ((!b) = false) = (b = true)) ∧ (!true) = false ∧ (!false) = true ∧ (∀ a b : Nat, (¬ a < b) = (b ≤ a)) ∧ (∀ a b : Nat, (¬ a ≤ b) = (b < a)) :=
 ⟨fun _ _ => decide_eq_true_eq, fun _ _ => propext decide_eq_false_iff_not, fun b => by cases b <;> simp, fun b => by cases b <;> simp, rfl, rfl, fun _ _ => propext Nat.not_lt, fun _ _ => propext Nat.not_le⟩
end Go.Proofs.YtkhbihnnkflfkaaGreat
