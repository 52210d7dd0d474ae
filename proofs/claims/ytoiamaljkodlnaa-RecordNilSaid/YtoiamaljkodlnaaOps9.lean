/-
  OPERATIONS: two bytes as a number; make of any length; copy behind an offset; structs.
-/
import Derived.Test.YtoiamaljkodlnaaMutS
import Derived.Laws.OwnMore
import Derived.Laws.BitsAllLaws
namespace Go.Proofs.Ytoiamaljkodlnaa
open Go.RowKit
set_option linter.unusedVariables false
set_option linter.unusedSimpArgs false
set_option maxRecDepth 100000
theorem i64_or_byte (a b : Nat) (ha : a < 65536) (hb : b < 256) : bits .or .i64 ((a * 256 : Nat) : Int) (b : Int) = ((a * 256 + b : Nat) : Int) := by
  have hx : a * 256 ||| b = a * 256 + b := by
    have h := Nat.two_pow_add_eq_or_of_lt (i := 8) (b := b) (by simpa using hb) a
    rw [show (2 : Nat) ^ 8 * a = a * 256 by omega] at h
    exact h.symm
  show IntKind.i64.wrap ((BitVec.ofInt 64 ((a * 256 : Nat) : Int) ||| BitVec.ofInt 64 (b : Int)).toNat : Int) = _
  rw [BitVec.toNat_or, BitVec.ofInt_natCast, BitVec.ofInt_natCast, BitVec.toNat_ofNat, BitVec.toNat_ofNat, Nat.mod_eq_of_lt (by omega), Nat.mod_eq_of_lt (by omega), hx]
  exact IntWalk.i64_in _ (by omega)
/-- A slice of the call's own and a number, as a tuple. -/
def TupN (B n : Nat) (xs : List Nat) (r : Nat) (w : World) (v : Value) : Prop := ∃ A c, v = .tuple #[.slice A n c, .int .i64 ((r : Nat) : Int)] ∧ Own w B A c xs
theorem stTup {B n r : Nat} {xs : List Nat} : StP (TupN B n xs r) := fun w w' v ⟨A, c, hv, hO⟩ hb => ⟨A, c, hv, hO.nx hb⟩
section
variable {o : Oper} {ev : Operand → Value} {w : World} {x y z : Operand} {T U t : TypeId} {g k : Nat}
theorem o_shl8 {m : Nat} (ho : o.op = .binOp .shl T x y U) (hx : ev x = .int .i64 (m : Int)) (hy : ev y = .int .u64 8) (hm : m < 256) : (execOp ev o).run Try.prog w = .ok (.value (.int .i64 ((m * 256 : Nat) : Int))) w := by
  refine o_shl (n := 8) (m * 256) ho hx hy (by simp [IntKind.bits]) ?_
  have e : (m : Int) * 2 ^ 8 = ((m * 256 : Nat) : Int) := by omega
  rw [e]
  exact IntWalk.i64_in _ (by omega)
theorem o_or8 {m n : Nat} (ho : o.op = .binOp .or T x y U) (hx : ev x = .int .i64 ((m * 256 : Nat) : Int)) (hy : ev y = .int .i64 (n : Int)) (hm : m < 256) (hn : n < 256) : (execOp ev o).run Try.prog w = .ok (.value (.int .i64 ((m * 256 + n : Nat) : Int))) w :=
  o_bits (m := m * 256) (n := n) (m * 256 + n) ho hx hy (by decide) (i64_or_byte m n (by omega) hn)
theorem o_nilN {b : Bool} {p : Option Addr} (ho : o.op = .binOp .neq T x y U) (hx : ev x = .pointer p) (hy : ev y = .pointer none) (hb : p.isNone = b) (hT : ∃ e, ∀ w, (underlying T).run Try.prog w = .ok (.pointer e) w) : (execOp ev o).run Try.prog w = .ok (.value (.bool (!b))) w := by
  obtain ⟨e, hT⟩ := hT
  subst hb
  have e1 : (Op.equal T (.pointer p) (.pointer none)).run Try.prog w = .ok p.isNone w := equalIn_nil 9999 hT
  cases p <;> simp [execOp, ho, hx, hy, eqGuard, binOp, e1, Sem.run_bind, Sem.run_pure]
theorem o_makeN {n : Nat} (ho : o.op = .makeSlice 22 x y) (hx : ev x = .int .i64 (n : Int)) (hy : ev y = .int .i64 (n : Int)) (hn : n ≤ 1000000) :
    ∃ v w', (execOp ev o).run Try.prog w = .ok (.value v) w' ∧ ∃ g, v = .slice (some ⟨g, 0, none⟩) n n ∧ Own w' w.heap.size (some ⟨g, 0, none⟩) n (List.replicate n 0) ∧ Below w.heap.size w w' := by
  obtain ⟨i, hi, hz, hs, hby⟩ := u8_parts
  refine o_make ho hx hy (fun w => ?_) (by omega)
  have h := run_makeSlice (P := Try.prog) w 22 5 i (.int .u8 0) Try.underlying22 hi hz .i64 .i64 (n : Int) (n : Int) (by omega) (Int.le_refl _) (by rw [hs, Int.toNat_natCast]; omega) (by rw [hby]; omega) (by omega)
  rw [h, hs, Int.toNat_natCast, Nat.mul_one]
  have e : madeCells (Value.int .u8 0).cells n = (u8s (List.replicate n 0)).toArray := by
    apply Array.ext'
    show (madeCells #[Value.int .u8 0] n).toList = _
    rw [toList_madeCells_one]
    simp [u8s]
  rw [e]
/-- copy(out[k:], xs) into a row of the call's own. -/
theorem o_copyK {A : Option Addr} {base n m c k q : Nat} {xs zs : List Nat} (ho : o.op = .call { callee := .builtin .copy, args := #[x, y], argTypes := #[22, 22] }) (hx : ev x = .slice (some ⟨g, k, none⟩) q q) (hy : ev y = .slice A m c)
    (hO : Own w base (some ⟨g, 0, none⟩) n zs) (hB : Bs w A c xs) (hm : xs.length = m) (hz : zs.length = n) (hn : q + k = n) (hn0 : 0 < n) (hmq : m ≤ q) :
    ∃ v w', (execOp ev o).run Try.prog w = .ok (.value v) w' ∧ ∃ r : Nat, v = .int .i64 (r : Int) ∧ Own w' base (some ⟨g, 0, none⟩) n (zs.take k ++ xs ++ zs.drop (k + m)) ∧ Below base w w' := by
  rcases hO.row.2 with ⟨hv, hn⟩ | ⟨g', cap, cur, hv, hg, hh, hle, hmax, hsz, htake⟩
  · omega
  · simp only [Value.slice.injEq, Option.some.injEq, Addr.mk.injEq, and_true] at hv
    obtain ⟨rfl, _, rfl⟩ := hv
    have hcur : cur.toList = u8s zs := by
      rw [← htake, hz, List.take_of_length_le (by simpa using Nat.le_of_eq hsz)]
    by_cases h0 : xs = []
    · subst h0
      have hm0 : m = 0 := by rw [← hm]; rfl
      have hp : zs.take k ++ [] ++ zs.drop (k + m) = zs := by rw [hm0]; simp
      have h := run_copy_none (P := Try.prog) w 22 22 o.type 5 (some ⟨g, k, none⟩) A q q m c Try.underlying22 (by kernel_rfl) (by rw [hm0]; simp)
      refine ⟨_, w, ?_, 0, rfl, by rw [hp]; exact hO, Below.refl _ _⟩
      simp only [execOp, ho, resolve, invoke, builtin, Sem.run_bind, Sem.run_pure, Result.andThen_ok, List.map_toArray, List.map_cons, List.map_nil, hx, hy, h]
      rfl
    · rcases hB.cells with h1 | ⟨b, off, rfl, hc⟩
      · exact absurd h1 h0
      · have hlen : (u8s xs).length = Nat.min m q := by rw [u8s_length, hm]; exact (Nat.min_eq_left hmq).symm
        have h := run_copy_row (P := Try.prog) w 22 22 o.type 5 g k q q ⟨b, off, none⟩ m c cur 5 (u8s xs) Try.underlying22 (by kernel_rfl) hh hlen (fun j v hv => by
            have hj := (List.getElem?_eq_some_iff.1 hv).1
            rw [u8s_length] at hj
            have hcj := hc j hj
            rw [Addr.add_lit, hcj, ← hv]
            exact (u8s_get hj).symm) (by rw [u8s_length, hsz]; omega) (u8s_one _)
        have hcells : (cur.toList.take k ++ u8s xs ++ cur.toList.drop (k + (u8s xs).length)) = u8s (zs.take k ++ xs ++ zs.drop (k + m)) := by
          rw [hcur, u8s_length, hm, u8s_append, u8s_append]
          simp [u8s, List.map_take, List.map_drop]
        rw [hcells] at h
        refine ⟨_, w.setRow g (u8s (zs.take k ++ xs ++ zs.drop (k + m))).toArray, ?_, (u8s xs).length, rfl, ?_, below_setRow (Below.refl _ _) hg _⟩
        · simp only [execOp, ho, resolve, invoke, builtin, Sem.run_bind, Sem.run_pure, Result.andThen_ok, List.map_toArray, List.map_cons, List.map_nil, hx, hy, h]
          rfl
        · have hl : (zs.take k ++ xs ++ zs.drop (k + m)).length = n := by simp only [List.length_append, List.length_take, List.length_drop]; omega
          have hb := Own.of_blk (xs := zs.take k ++ xs ++ zs.drop (k + m)) (B := base) (setRow_heap w g cur (u8s (zs.take k ++ xs ++ zs.drop (k + m))).toArray _ _ hh) hg (fun v hv => by
            rcases List.mem_append.1 hv with h | h
            · rcases List.mem_append.1 h with h | h
              · exact hO.b8 v (List.mem_of_mem_take h)
              · exact hB.b8 v h
            · exact hO.b8 v (List.mem_of_mem_drop h)) (by unfold maxLen at hmax; omega)
          rwa [hl] at hb
/-- A struct, by value. -/
theorem o_boxL {cs : Array Value} (ho : o.op = .box t x) (hx : ev x = .agg cs) :
    ∃ u w', (execOp ev o).run Try.prog w = .ok (.value u) w' ∧ ∃ g, u = .pointer (some ⟨g, 0, none⟩) ∧ w.heap.size ≤ g ∧ Blk w' g cs t ∧ Below w.heap.size w w' := by
  refine ⟨_, w.alloc (.cells cs t), ?_, w.heap.size, rfl, Nat.le_refl _, Blk.new w _ _, (Below.refl _ _).alloc (Nat.le_refl _) _⟩
  have hv : (Value.agg cs).cells = cs := by simp [Value.cells]
  simp only [execOp, ho, hx, Instr.box, newVar, newRow, hv, Sem.run_bind, Sem.run_pure, run_newObj, Result.andThen_ok]
  rfl
/-- A whole struct stored into a variable of its own. -/
theorem o_storeL {l vs : List Value} (ho : o.op = .store t x y) (hx : ev x = .pointer (some ⟨g, 0, none⟩)) (hy : ev y = .agg vs.toArray) (hB : Blk w g l.toArray T) (ht : IsAgg t vs.length) (hl : l.length = vs.length) (h1 : ∀ v ∈ vs, v.oneCell' = true) :
    ∃ w', (execOp ev o).run Try.prog w = .ok .skip w' ∧ Blk w' g vs.toArray T ∧ BelowX (fun k => k = g) w w' := by
  obtain ⟨w', h2, h3, h4⟩ := o_storeA ho hx hy hB ht (by rw [hl]; omega) h1
  refine ⟨w', h2, ?_, h4⟩
  have e : l.take 0 ++ vs ++ l.drop (0 + vs.length) = vs := by
    rw [Nat.zero_add, ← hl, List.drop_length]; simp
  rw [e] at h3
  exact h3
theorem loadL {vs : List Value} (hB : Blk w g vs.toArray T) (ht : IsAgg t vs.length) : (loadVar t ⟨g, 0, none⟩).run Try.prog w = .ok (.agg vs.toArray) w := by
  obtain ⟨h1, h2⟩ := agg_runs ht w
  have hld : (loadCells ⟨g, 0, none⟩ vs.length).run Try.prog w = .ok vs.toArray w := run_loadCells_list w _ vs (fun j v hj => by
    have e : (⟨g, 0, none⟩ : Addr).add j = ⟨g, 0 + j, none⟩ := by unfold Addr.add; split <;> simp_all
    rw [e, hB.cell]
    simpa using hj)
  simp only [loadVar, Sem.run_bind, h1, Result.andThen_ok, if_true, h2, hld, Sem.run_pure]
theorem o_max {m n : Int} (ho : o.op = .call { callee := .builtin .max, args := #[x, y], argTypes := #[3, 3] }) (hx : ev x = .int .i64 m) (hy : ev y = .int .i64 n) : (execOp ev o).run Try.prog w = .ok (.value (.int .i64 (max m n))) w := by
  have e : (if m < n then n else m) = max m n := by omega
  simp [execOp, ho, hx, hy, go_sem, resolve, invoke, builtin]
  try omega
theorem o_minZ {m n : Int} (ho : o.op = .call { callee := .builtin .min, args := #[x, y], argTypes := #[3, 3] }) (hx : ev x = .int .i64 m) (hy : ev y = .int .i64 n) : (execOp ev o).run Try.prog w = .ok (.value (.int .i64 (min m n))) w := by
  simp [execOp, ho, hx, hy, go_sem, resolve, invoke, builtin]
  try omega
end
end Go.Proofs.Ytoiamaljkodlnaa
