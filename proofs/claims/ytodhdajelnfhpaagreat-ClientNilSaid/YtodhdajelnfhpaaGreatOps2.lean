/-
  OPERATIONS: boxes, closures, pieces of slices.
-/
import Derived.Test.YtodhdajelnfhpaaGreatRange
namespace Go.Proofs.YtodhdajelnfhpaaGreat
open Go.RowKit
set_option linter.unusedVariables false
set_option linter.unusedSimpArgs false
set_option maxRecDepth 100000

section
variable {o : Oper} {ev : Operand → Value} {w : World} {x y z : Operand} {T U t : TypeId} {g k : Nat}

theorem o_box {v : Value} (ho : o.op = .box t x) (hx : ev x = v) (hv : v.cells = #[v]) :
    ∃ u w', (execOp ev o).run Tryz.prog w = .ok (.value u) w' ∧ ∃ g, u = .pointer (some ⟨g, 0, none⟩) ∧ w.heap.size ≤ g ∧ Blk w' g #[v] t ∧ Below w.heap.size w w' := by
  refine ⟨_, w.alloc (.cells #[v] t), ?_, w.heap.size, rfl, Nat.le_refl _, Blk.new w _ _, (Below.refl _ _).alloc (Nat.le_refl _) _⟩
  simp only [execOp, ho, hx, Instr.box, newVar, newRow, hv, Sem.run_bind, Sem.run_pure, run_newObj, Result.andThen_ok]
  rfl
theorem o_makeFunc {f : Fn} {caps : Array Operand} {vs : Array Value} (ho : o.op = .makeFunc f #[] caps) (hc : caps.map ev = vs) : (execOp ev o).run Tryz.prog w = .ok (.value (.func f #[] vs)) w := by
  subst hc
  simp [execOp, ho, Instr.makeFunc, Sem.run_bind, Sem.run_pure]

theorem subA_le (A : Option Addr) {l m : Nat} (h : l < m) : subA A l m = atA A l := by
  unfold subA; rw [if_neg (by omega)]
theorem Bs.sub {A : Option Addr} {c : Nat} {xs : List Nat} (h : Bs w A c xs) {l q m : Nat} (h1 : l ≤ q) (h2 : q ≤ m) (h3 : m ≤ c) : Bs w (subA A l m) (m - l) ((xs.drop l).take (q - l)) := by
  refine ⟨by simp; omega, by have := h.max; omega, fun x hx => h.b8 x (List.mem_of_mem_drop (List.mem_of_mem_take hx)), ?_⟩
  by_cases h0 : (xs.drop l).take (q - l) = []
  · exact .inl h0
  · right
    have hlen : 0 < ((xs.drop l).take (q - l)).length := List.length_pos_iff.2 h0
    simp only [List.length_take, List.length_drop] at hlen
    have hlx : l < xs.length := by omega
    rcases h.cells with hn | ⟨b, off, rfl, hc⟩
    · subst hn; simp at hlx
    · refine ⟨b, off + l, ?_, fun i hi => ?_⟩
      · rw [subA_le _ (by omega)]; simp [atA, Addr.add_lit]
      · simp only [List.length_take, List.length_drop] at hi
        rw [Nat.add_assoc, hc (l + i) (by omega)]
        congr 3
        simp [List.getD_eq_getElem?_getD, List.getElem?_take, show i < q - l by omega]
theorem o_slice3 {A : Option Addr} {n c l h m : Nat} {lo hi mx : Operand} (ho : o.op = .slice 22 x (some lo) (some hi) (some mx)) (hx : ev x = .slice A n c) (hl : ev lo = .int .i64 (l : Int)) (hh : ev hi = .int .i64 (h : Int)) (hm : ev mx = .int .i64 (m : Int)) (h1 : l ≤ h) (h2 : h ≤ m) (h3 : m ≤ c) :
    (execOp ev o).run Tryz.prog w = .ok (.value (.slice (subA A l m) (h - l) (m - l))) w := by
  have e1 : (m : Int) ≤ (c : Int) := by omega
  have e2 : (h : Int) ≤ (m : Int) := by omega
  have e3 : (l : Int) ≤ (h : Int) := by omega
  simp [execOp, ho, hx, hl, hh, hm, go_sem, e1, e2, e3, subA, atA]
theorem o_sliceL {A : Option Addr} {n c l : Nat} {lo : Operand} (ho : o.op = .slice 22 x (some lo) none none) (hx : ev x = .slice A n c) (hl : ev lo = .int .i64 (l : Int)) (h1 : l ≤ n) :
    (execOp ev o).run Tryz.prog w = .ok (.value (.slice (subA A l c) (n - l) (c - l))) w := by
  have e3 : (l : Int) ≤ (n : Int) := by omega
  simp [execOp, ho, hx, hl, go_sem, e3, subA, atA]
theorem o_sliceH {A : Option Addr} {n c h : Nat} {hi : Operand} (ho : o.op = .slice 22 x none (some hi) none) (hx : ev x = .slice A n c) (hh : ev hi = .int .i64 (h : Int)) (h2 : h ≤ c) :
    (execOp ev o).run Tryz.prog w = .ok (.value (.slice (subA A 0 c) h c)) w := by
  have e2 : (h : Int) ≤ (c : Int) := by omega
  simp [execOp, ho, hx, hh, go_sem, e2, subA, atA]
end
theorem x_bare {b : Bool} {P : Program} {Q : Exit → Act → World → Prop} {a : Act} {w : World} {c : Code} (h : WP2 b P c Q (putsR a []) w) : WP2 b P c Q a w := h
/-- The mark that a range over a function leaves. -/
def MarkD (w : World) (D : Nat) : Prop := w.heap[D]? = some (.deferred (some []))
theorem MarkD.nx {w w' : World} {D : Nat} (h : MarkD w D) (hb : Below w.heap.size w w') : MarkD w' D := (hb.block D (Array.getElem?_eq_some_iff.1 h).1).trans h
theorem MarkD.row {w : World} {D B : Nat} (h : MarkD w D) (hB : B ≤ D) : RowNC B w (some D) := fun r e => by cases e; exact ⟨hB, _, h, rfl⟩
theorem x_genD {b : Bool} {P : Program} {Q : Exit → Act → World → Prop} {a : Act} {w : World} {c : Code} {l : List (Tmp × Value)} {N D : Nat} (hs : a.tmps.size = N) (hd : a.defers = [])
    (h : ∀ a' : Act, a'.tmps.size = N → a'.defers = [{ target := .collected D, args := #[] }] → (∀ k, a'.eval (.tmp k) = (putsR a l).eval (.tmp k)) → WP2 b P c Q (putsR a' []) w) : WP2 b P c Q { putsR a l with defers := { target := .collected D, args := #[] } :: (putsR a l).defers } w :=
  h _ (by show (putsR a l).tmps.size = N; rw [putsR_size, hs]) (by show _ :: (putsR a l).defers = _; rw [putsR_defers, hd]) (fun k => rfl)
/-- One loop variable: the frame of a round at its start. -/
theorem fold1 (p : Tmp) (v : Value) (a : Act) (f : Array Value → Tmp × Value → Array Value) (hf : ∀ t q, f t q = t.setIfInBounds q.1 q.2) : ({ tmps := (#[p].zip #[v]).foldl f a.tmps, defers := [] } : Act) = putsR { tmps := a.tmps, defers := [] } [(p, v)] := by
  simp [putsR, Act.put, hf]
theorem fold2 (p q : Tmp) (u v : Value) (a : Act) (f : Array Value → Tmp × Value → Array Value) (hf : ∀ t q, f t q = t.setIfInBounds q.1 q.2) : ({ tmps := (#[p, q].zip #[u, v]).foldl f a.tmps, defers := [] } : Act) = putsR { tmps := a.tmps, defers := [] } [(q, v), (p, u)] := by
  simp [putsR, Act.put, hf]
end Go.Proofs.YtodhdajelnfhpaaGreat
