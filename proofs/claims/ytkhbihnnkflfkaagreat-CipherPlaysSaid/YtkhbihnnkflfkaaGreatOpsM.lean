/-
 Ops5 · Ops6 · Ops7 · Ops8, IN ONE TEXT.
-/
import Derived.Test.YtkhbihnnkflfkaaGreatOps4
import Derived.Lib.SlBytesConst
import Derived.Laws.CopyOwn
import Derived.Test.YtkhbihnnkflfkaaGreatCell
/-
 OPERATIONS: a text's bytes written out, strings of bytes, their equality.
-/
namespace Go.Proofs.YtkhbihnnkflfkaaGreat
open Go.RowKit
set_option linter.unusedVariables false
set_option linter.unusedSimpArgs false
set_option maxRecDepth 100000
variable {n : Nat} {xs : List Nat} {r s : ByteArray}
section
variable {o : Oper} {ev : Operand → Value} {w : World} {x y z : Operand} {T U t : TypeId} {g k : Nat}
theorem o_lit {ps : Array (Nat × Operand)} {C : Array Value} (ho : o.op = .buildSlice 22 n ps) (hr : (execOp ev o).run Tryz.prog w = .ok (.value (.slice (some ⟨w.heap.size, 0, none⟩) n n)) (w.alloc (.cells C 5))) :
  ∃ v w', (execOp ev o).run Tryz.prog w = .ok (.value v) w' ∧ (v = .slice (some ⟨w.heap.size, 0, none⟩) n n ∧ w' = w.alloc (.cells C 5)) := ⟨_, _, hr, rfl, rfl⟩
theorem o_mark (ho : o.op = .convert 22 22 x) (hx : ev x = .slice (some ⟨w.heap.size, 0, none⟩) n n) (hn : xs.length = n) (h8 : ∀ q ∈ xs, q < 256) (hl : n ≤ 1000000) :
  ∃ v w', (execOp ev o).run Tryz.prog (w.alloc (.cells (u8s xs).toArray 5)) = .ok (.value v) w' ∧ ∃ A, v = .slice A n n ∧ Bs w' A n xs ∧ Below w.heap.size w w' := by
 have h := Lib.run_convert_bytes_const (P := Tryz.prog) w 22 5 (u8s xs).toArray n n (by kernel_rfl) (by kernel_rfl)
 refine ⟨_, w.alloc (.cells (u8s xs).toArray 5 ((u8s xs).toArray.size, (u8s xs).toArray.size + 1)), ?_, some ⟨w.heap.size, 0, none⟩, rfl, ⟨by omega, by unfold maxLen; omega, h8, .inr ⟨w.heap.size, 0, rfl, fun i hi => ?_⟩⟩, (Below.refl _ _).alloc (Nat.le_refl _) _⟩
 ·simp only [execOp, ho, hx, Sem.run_bind, h]
  rfl
 ·rw [Go.World.cell?_alloc_mark]
  simp only [u8s, List.getElem?_toArray, List.getElem?_map, Nat.zero_add, List.getElem?_eq_getElem hi, List.getD_eq_getElem?_getD, Option.map_some, Option.getD_some]
theorem o_str {A : Option Addr} {c : Nat} (ho : o.op = .convert 22 9 x) (hx : ev x = .slice A n c) (hB : Bs w A c xs) (hn : xs.length = n) :
  (execOp ev o).run Tryz.prog w = .ok (.value (.string (strB xs))) w := by
 subst hn
 have h := conv_str hB
 simp only [execOp, ho, hx, Sem.run_bind, h]
 rfl
theorem o_eqS (ho : o.op = .binOp .eql T x y U) (hx : ev x = .string s) (hy : ev y = .string r) (hb : s = r) : (execOp ev o).run Tryz.prog w = .ok (.value (.bool true)) w := by
 subst hb
 simp [execOp, ho, hx, hy, go_sem]
theorem o_neS (ho : o.op = .binOp .neq T x y U) (hx : ev x = .string s) (hy : ev y = .string r) (hb : s = r) : (execOp ev o).run Tryz.prog w = .ok (.value (.bool false)) w := by
 subst hb
 simp [execOp, ho, hx, hy, go_sem]
end
end Go.Proofs.YtkhbihnnkflfkaaGreat
/-
 OPERATIONS: copy into a row of noughts.
-/
namespace Go.Proofs.YtkhbihnnkflfkaaGreat
open Go.RowKit
set_option linter.unusedVariables false
set_option linter.unusedSimpArgs false
set_option maxRecDepth 100000
section
variable {o : Oper} {ev : Operand → Value} {w : World} {x y z : Operand} {T U t : TypeId} {g k : Nat}
theorem o_copy {A : Option Addr} {base n m c : Nat} {xs : List Nat} (ho : o.op = .call { callee := .builtin .copy, args := #[x, y], argTypes := #[22, 22] }) (hx : ev x = .slice (some ⟨g, 0, none⟩) n n) (hy : ev y = .slice A m c)
  (hO : Own w base (some ⟨g, 0, none⟩) n (List.replicate n 0)) (hB : Bs w A c xs) (hm : xs.length = m) (hn0 : 0 < n) (hnl : n ≤ 70368744177664) :
  ∃ v w', (execOp ev o).run Tryz.prog w = .ok (.value v) w' ∧ ∃ r : Nat, v = .int .i64 (r : Int) ∧ Own w' base (some ⟨g, 0, none⟩) n (padTo n xs) ∧ Below base w w' := by
 rcases hO.row.2 with ⟨hv, hn⟩ | ⟨g', cap, cur, hv, hg, hh, hle, hmax, hsz, htake⟩
 ·rw [List.length_replicate] at hn; omega
 ·simp only [Value.slice.injEq, Option.some.injEq, Addr.mk.injEq, and_true] at hv
  obtain ⟨rfl, _, rfl⟩ := hv
  have hcur : cur.toList = u8s (List.replicate n 0) := by
   rw [← htake, List.length_replicate, List.take_of_length_le (by simpa using Nat.le_of_eq hsz)]
  by_cases h0 : xs = []
  ·subst h0
   have hp : padTo n [] = List.replicate n 0 := by simp [padTo]
   have h := run_copy_none (P := Tryz.prog) w 22 22 o.type 5 (some ⟨g, 0, none⟩) A n n m c Tryz.underlying22 (by kernel_rfl) (by rw [← hm]; simp)
   refine ⟨_, w, ?_, 0, rfl, by rw [hp]; exact hO, Below.refl _ _⟩
   simp only [execOp, ho, resolve, invoke, builtin, Sem.run_bind, Sem.run_pure, Result.andThen_ok, List.map_toArray, List.map_cons, List.map_nil, hx, hy, h]
   rfl
  ·rcases hB.cells with h1 | ⟨b, off, rfl, hc⟩
   ·exact absurd h1 h0
   ·have hlen : (u8s (xs.take n)).length = Nat.min m n := by rw [u8s_length, List.length_take, hm, Nat.min_comm]
    have h := run_copy_row (P := Tryz.prog) w 22 22 o.type 5 g 0 n n ⟨b, off, none⟩ m c cur 5 (u8s (xs.take n)) Tryz.underlying22 (by kernel_rfl) hh hlen (fun j v hv => by
      have hj := (List.getElem?_eq_some_iff.1 hv).1
      simp only [u8s, List.length_map, List.length_take] at hj
      have hcj := hc j (by omega)
      rw [Addr.add_lit, hcj, ← hv]
      have h1 : j < xs.length := by omega
      have h2 : j < n := by omega
      simp [u8s, h1, h2]) (by rw [hlen, hsz]; exact Nat.le_trans (m := n) (by rw [Nat.zero_add]; exact Nat.min_le_right m n) (by omega)) (u8s_one _)
    have hcells : (cur.toList.take 0 ++ u8s (xs.take n) ++ cur.toList.drop (0 + (u8s (xs.take n)).length)) = u8s (padTo n xs) := by
     rw [← padTo_splice, hcur]
     simp [splice, u8s]
    rw [hcells] at h
    refine ⟨_, w.setRow g (u8s (padTo n xs)).toArray, ?_, (u8s (xs.take n)).length, rfl, ?_, below_setRow (Below.refl _ _) hg _⟩
    ·simp only [execOp, ho, resolve, invoke, builtin, Sem.run_bind, Sem.run_pure, Result.andThen_ok, List.map_toArray, List.map_cons, List.map_nil, hx, hy, h]
     rfl
    ·have hb := Own.of_blk (xs := padTo n xs) (B := base) (setRow_heap w g cur (u8s (padTo n xs)).toArray _ _ hh) hg (padTo_lt hB.b8) (by rw [padTo_length]; omega)
     rwa [padTo_length] at hb
end
end Go.Proofs.YtkhbihnnkflfkaaGreat
/-
 OPERATIONS: rows of no bytes, of sixteen; strings one behind the other.
-/
namespace Go.Proofs.YtkhbihnnkflfkaaGreat
open Go.RowKit
set_option linter.unusedVariables false
set_option linter.unusedSimpArgs false
set_option maxRecDepth 100000
section
variable {o : Oper} {ev : Operand → Value} {w : World} {x y z : Operand} {T U t : TypeId} {g k : Nat}
theorem o_build0 (ho : o.op = .buildSlice 22 0 #[]) :
  ∃ v w', (execOp ev o).run Tryz.prog w = .ok (.value v) w' ∧ ∃ g, v = .slice (some ⟨g, 0, none⟩) 0 0 ∧ Own w' w.heap.size (some ⟨g, 0, none⟩) 0 [] ∧ Below w.heap.size w w' := by
 refine ⟨_, w.alloc (.cells #[] 5), ?_, w.heap.size, rfl, Own.empty (Blk.new w _ _) (Nat.le_refl _), (Below.refl _ _).alloc (Nat.le_refl _) _⟩
 simp [execOp, ho, go_sem]
end
end Go.Proofs.YtkhbihnnkflfkaaGreat
/-
 OPERATIONS: a byte stored into a slice of the call's own; an int as a word.
-/
namespace Go.Proofs.YtkhbihnnkflfkaaGreat
open Go.RowKit
set_option linter.unusedVariables false
set_option linter.unusedSimpArgs false
set_option maxRecDepth 100000
def at64 (z : Int) : Nat := (IntKind.u64.wrap z).toNat
theorem at64_wrap (z : Int) : IntKind.u64.wrap z = ((at64 z : Nat) : Int) := by
 unfold at64
 rw [IntKind.wrap_u64]
 omega
section
variable {o : Oper} {ev : Operand → Value} {w : World} {x y z : Operand} {T U t : TypeId} {g k : Nat}
theorem o_convZ {z : Int} (ho : o.op = .convert T U x) (hx : ev x = .int .i64 z) (hT : ∃ d, ∀ w, (underlying T).run Tryz.prog w = .ok d w) (hU : ∀ w, (underlying U).run Tryz.prog w = .ok (.int .u64) w) :
  (execOp ev o).run Tryz.prog w = .ok (.value (.int .u64 ((at64 z : Nat) : Int))) w := by
 obtain ⟨d, hT⟩ := hT
 rw [← at64_wrap]
 simp [execOp, ho, hx, convert, hT, hU, Sem.run_bind, Sem.run_pure, Conv.intToInt]
end
end Go.Proofs.YtkhbihnnkflfkaaGreat
