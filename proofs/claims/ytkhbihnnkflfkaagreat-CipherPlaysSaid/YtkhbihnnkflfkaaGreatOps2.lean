/-
 OPERATIONS: boxes, closures, pieces of slices.
-/
import Derived.Test.YtkhbihnnkflfkaaGreatRange
namespace Go.Proofs.YtkhbihnnkflfkaaGreat
open Go.RowKit
set_option linter.unusedVariables false
set_option linter.unusedSimpArgs false
set_option maxRecDepth 100000

variable {D c h l m n : Nat} {A : Option Addr} {hi lo mx : Operand} {b : Bool} {Q : Exit → Act → World → Prop} {a : Act} {w : World}
section
variable {o : Oper} {ev : Operand → Value} {w : World} {x y z : Operand} {T U t : TypeId} {g k : Nat}

theorem o_box {v : Value} (ho : o.op = .box t x) (hx : ev x = v) (hv : v.cells = #[v]) :
  ∃ u w', (execOp ev o).run Tryz.prog w = .ok (.value u) w' ∧ ∃ g, u = .pointer (some ⟨g, 0, none⟩) ∧ w.heap.size ≤ g ∧ Blk w' g #[v] t ∧ Below w.heap.size w w' := by
 refine ⟨_, w.alloc (.cells #[v] t), ?_, w.heap.size, rfl, Nat.le_refl _, Blk.new w _ _, (Below.refl _ _).alloc (Nat.le_refl _) _⟩
 simp only [execOp, ho, hx, Instr.box, newVar, newRow, hv, Sem.run_bind, Sem.run_pure, run_newObj, Result.andThen_ok]
 rfl
theorem o_makeFunc {f : Fn} {caps : Array Operand} {vs : Array Value} (ho : o.op = .makeFunc f #[] caps) (hc : caps.map ev = vs) : (execOp ev o).run Tryz.prog w = .ok (.value (.func f #[] vs)) w := by
 subst hc
 simp [execOp, ho, Instr.makeFunc, Sem.run_bind, Sem.run_pure]

theorem subA_le (A : Option Addr) (h : l < m) : subA A l m = atA A l := by
 unfold subA; rw [if_neg (by omega)]
theorem Bs.sub {xs : List Nat} (h : Bs w A c xs) {q : Nat} (h1 : l ≤ q) (h2 : q ≤ m) (h3 : m ≤ c) : Bs w (subA A l m) (m - l) ((xs.drop l).take (q - l)) := by
 refine ⟨by simp; omega, by have := h.max; omega, fun x hx => h.b8 x (List.mem_of_mem_drop (List.mem_of_mem_take hx)), ?_⟩
 by_cases h0 : (xs.drop l).take (q - l) = []
 ·exact .inl h0
 ·right
  have hlen : 0 < ((xs.drop l).take (q - l)).length := List.length_pos_iff.2 h0
  simp only [List.length_take, List.length_drop] at hlen
  have hlx : l < xs.length := by omega
  rcases h.cells with hn | ⟨b, off, rfl, hc⟩
  ·subst hn; simp at hlx
  ·refine ⟨b, off + l, ?_, fun i hi => ?_⟩
   ·rw [subA_le _ (by omega)]; simp [atA, Addr.add_lit]
   ·simp only [List.length_take, List.length_drop] at hi
    rw [Nat.add_assoc, hc (l + i) (by omega)]
    congr 3
    simp [List.getD_eq_getElem?_getD, List.getElem?_take, show i < q - l by omega]
theorem o_slice3 (ho : o.op = .slice 22 x (some lo) (some hi) (some mx)) (hx : ev x = .slice A n c) (hl : ev lo = .int .i64 (l : Int)) (hh : ev hi = .int .i64 (h : Int)) (hm : ev mx = .int .i64 (m : Int)) (h1 : l ≤ h) (h2 : h ≤ m) (h3 : m ≤ c) :
  (execOp ev o).run Tryz.prog w = .ok (.value (.slice (subA A l m) (h - l) (m - l))) w := by
 have e1 : (m : Int) ≤ (c : Int) := by omega
 have e2 : (h : Int) ≤ (m : Int) := by omega
 have e3 : (l : Int) ≤ (h : Int) := by omega
 simp [execOp, ho, hx, hl, hh, hm, go_sem, e1, e2, e3, subA, atA]
theorem o_slice2 (ho : o.op = .slice 22 x (some lo) (some hi) none) (hx : ev x = .slice A n c) (hl : ev lo = .int .i64 (l : Int)) (hh : ev hi = .int .i64 (h : Int)) (h1 : l ≤ h) (h2 : h ≤ c) :
  (execOp ev o).run Tryz.prog w = .ok (.value (.slice (subA A l c) (h - l) (c - l))) w := by
 have e2 : (h : Int) ≤ (c : Int) := by omega
 have e3 : (l : Int) ≤ (h : Int) := by omega
 simp [execOp, ho, hx, hl, hh, go_sem, e2, e3, subA, atA]
theorem o_sliceL (ho : o.op = .slice 22 x (some lo) none none) (hx : ev x = .slice A n c) (hl : ev lo = .int .i64 (l : Int)) (h1 : l ≤ n) :
  (execOp ev o).run Tryz.prog w = .ok (.value (.slice (subA A l c) (n - l) (c - l))) w := by
 have e3 : (l : Int) ≤ (n : Int) := by omega
 simp [execOp, ho, hx, hl, go_sem, e3, subA, atA]
theorem o_sliceH (ho : o.op = .slice 22 x none (some hi) none) (hx : ev x = .slice A n c) (hh : ev hi = .int .i64 (h : Int)) (h2 : h ≤ c) :
  (execOp ev o).run Tryz.prog w = .ok (.value (.slice (subA A 0 c) h c)) w := by
 have e2 : (h : Int) ≤ (c : Int) := by omega
 simp [execOp, ho, hx, hh, go_sem, e2, subA, atA]
theorem o_sliceHM (ho : o.op = .slice 22 x none (some hi) (some mx)) (hx : ev x = .slice A n c) (hh : ev hi = .int .i64 (h : Int)) (hm : ev mx = .int .i64 (m : Int)) (h2 : h ≤ m) (h3 : m ≤ c) :
  (execOp ev o).run Tryz.prog w = .ok (.value (.slice (subA A 0 m) h m)) w := by
 have e1 : (m : Int) ≤ (c : Int) := by omega
 have e2 : (h : Int) ≤ (m : Int) := by omega
 simp [execOp, ho, hx, hh, hm, go_sem, e1, e2, subA, atA]
end
theorem x_bare {P : Program} {c : Code} (h : WP2 b P c Q (putsR a []) w) : WP2 b P c Q a w := h
def MarkD (w : World) (D : Nat) : Prop := w.heap[D]? = some (.deferred (some []))
theorem MarkD.nx {w' : World} (h : MarkD w D) (hb : Below w.heap.size w w') : MarkD w' D := (hb.block D (Array.getElem?_eq_some_iff.1 h).1).trans h
theorem MarkD.row {B : Nat} (h : MarkD w D) (hB : B ≤ D) : RowNC B w (some D) := fun r e => by cases e; exact ⟨hB, _, h, rfl⟩
theorem x_genD {P : Program} {c : Code} {l : List (Tmp × Value)} {N : Nat} (hs : a.tmps.size = N) (hd : a.defers = [])
  (h : ∀ a' : Act, a'.tmps.size = N → a'.defers = [{ target := .collected D, args := #[] }] → (∀ k, a'.eval (.tmp k) = (putsR a l).eval (.tmp k)) → WP2 b P c Q (putsR a' []) w) : WP2 b P c Q { putsR a l with defers := { target := .collected D, args := #[] } :: (putsR a l).defers } w :=
 h _ (by show (putsR a l).tmps.size = N; rw [putsR_size, hs]) (by show _ :: (putsR a l).defers = _; rw [putsR_defers, hd]) (fun k => rfl)
theorem fold1 (p : Tmp) (v : Value) (a : Act) (f : Array Value → Tmp × Value → Array Value) (hf : ∀ t q, f t q = t.setIfInBounds q.1 q.2) : ({ tmps := (#[p].zip #[v]).foldl f a.tmps, defers := [] } : Act) = putsR { tmps := a.tmps, defers := [] } [(p, v)] := by
 simp [putsR, Act.put, hf]
theorem fold2 (p q : Tmp) (u v : Value) (a : Act) (f : Array Value → Tmp × Value → Array Value) (hf : ∀ t q, f t q = t.setIfInBounds q.1 q.2) : ({ tmps := (#[p, q].zip #[u, v]).foldl f a.tmps, defers := [] } : Act) = putsR { tmps := a.tmps, defers := [] } [(q, v), (p, u)] := by
 simp [putsR, Act.put, hf]
end Go.Proofs.YtkhbihnnkflfkaaGreat
