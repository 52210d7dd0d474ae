/-
  OPERATIONS: copy into a row of noughts.
-/
import Derived.Test.YtoiamaljkodlnaaOps5
import Derived.Laws.CopyOwn
namespace Go.Proofs.Ytoiamaljkodlnaa
open Go.RowKit
set_option linter.unusedVariables false
set_option linter.unusedSimpArgs false
set_option maxRecDepth 100000
section
variable {o : Oper} {ev : Operand → Value} {w : World} {x y z : Operand} {T U t : TypeId} {g k : Nat}
theorem o_copy {A : Option Addr} {base n m c : Nat} {xs : List Nat} (ho : o.op = .call { callee := .builtin .copy, args := #[x, y], argTypes := #[22, 22] }) (hx : ev x = .slice (some ⟨g, 0, none⟩) n n) (hy : ev y = .slice A m c)
    (hO : Own w base (some ⟨g, 0, none⟩) n (List.replicate n 0)) (hB : Bs w A c xs) (hm : xs.length = m) (hn0 : 0 < n) (hnl : n ≤ 70368744177664) :
    ∃ v w', (execOp ev o).run Try.prog w = .ok (.value v) w' ∧ ∃ r : Nat, v = .int .i64 (r : Int) ∧ Own w' base (some ⟨g, 0, none⟩) n (padTo n xs) ∧ Below base w w' := by
  rcases hO.row.2 with ⟨hv, hn⟩ | ⟨g', cap, cur, hv, hg, hh, hle, hmax, hsz, htake⟩
  · rw [List.length_replicate] at hn; omega
  · simp only [Value.slice.injEq, Option.some.injEq, Addr.mk.injEq, and_true] at hv
    obtain ⟨rfl, _, rfl⟩ := hv
    have hcur : cur.toList = u8s (List.replicate n 0) := by
      rw [← htake, List.length_replicate, List.take_of_length_le (by simpa using Nat.le_of_eq hsz)]
    by_cases h0 : xs = []
    · subst h0
      have hp : padTo n [] = List.replicate n 0 := by simp [padTo]
      have h := run_copy_none (P := Try.prog) w 22 22 o.type 5 (some ⟨g, 0, none⟩) A n n m c Try.underlying22 (by kernel_rfl) (by rw [← hm]; simp)
      refine ⟨_, w, ?_, 0, rfl, by rw [hp]; exact hO, Below.refl _ _⟩
      simp only [execOp, ho, resolve, invoke, builtin, Sem.run_bind, Sem.run_pure, Result.andThen_ok, List.map_toArray, List.map_cons, List.map_nil, hx, hy, h]
      rfl
    · rcases hB.cells with h1 | ⟨b, off, rfl, hc⟩
      · exact absurd h1 h0
      · have hlen : (u8s (xs.take n)).length = Nat.min m n := by rw [u8s_length, List.length_take, hm, Nat.min_comm]
        have h := run_copy_row (P := Try.prog) w 22 22 o.type 5 g 0 n n ⟨b, off, none⟩ m c cur 5 (u8s (xs.take n)) Try.underlying22 (by kernel_rfl) hh hlen (fun j v hv => by
            have hj := (List.getElem?_eq_some_iff.1 hv).1
            simp only [u8s, List.length_map, List.length_take] at hj
            have hcj := hc j (by omega)
            rw [Addr.add_lit, hcj, ← hv]
            have h1 : j < xs.length := by omega
            have h2 : j < n := by omega
            simp [u8s, h1, h2]) (by rw [hlen, hsz]; exact Nat.le_trans (m := n) (by rw [Nat.zero_add]; exact Nat.min_le_right m n) (by omega)) (u8s_one _)
        have hcells : (cur.toList.take 0 ++ u8s (xs.take n) ++ cur.toList.drop (0 + (u8s (xs.take n)).length)) = u8s (padTo n xs) := by
          rw [← padTo_splice, hcur]
          simp [splice, u8s]
        rw [hcells] at h
        refine ⟨_, w.setRow g (u8s (padTo n xs)).toArray, ?_, (u8s (xs.take n)).length, rfl, ?_, below_setRow (Below.refl _ _) hg _⟩
        · simp only [execOp, ho, resolve, invoke, builtin, Sem.run_bind, Sem.run_pure, Result.andThen_ok, List.map_toArray, List.map_cons, List.map_nil, hx, hy, h]
          rfl
        · have hb := Own.of_blk (xs := padTo n xs) (B := base) (setRow_heap w g cur (u8s (padTo n xs)).toArray _ _ hh) hg (padTo_lt hB.b8) (by rw [padTo_length]; omega)
          rwa [padTo_length] at hb
end
end Go.Proofs.Ytoiamaljkodlnaa
