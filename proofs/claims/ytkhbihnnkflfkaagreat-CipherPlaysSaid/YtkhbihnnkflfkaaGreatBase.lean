/-
 WORDS FOR THE WALKS: bytes that a slice reads as, bytes that a call owns, small laws for regions and worlds.
-/
import Derived.Test.YtkhbihnnkflfkaaGreatProg
import Derived.WalkKit
import Derived.WalkSpells
import Derived.WalkLawsBesides
import Derived.Handy
import Derived.StillTailTactics
import Derived.Deep.QuietTactic
import Derived.BigQuiet
import Derived.OpenShut
namespace Go.Proofs.YtkhbihnnkflfkaaGreat
open Go.RowKit
set_option maxRecDepth 100000

variable {B base c g id n : Nat} {Q : Exit → Act → World → Prop} {a : Act} {w w' w0 : World} {l : List Oper} {cur : Array Value} {T : TypeId} {p q : Addr} {u v : Value} {A : Option Addr} {xs : List Nat}
theorem tail_any (n : Nat) (hB : Region.lexTailB .any l.toArray n = true)
  (h : ∀ W, W = w.drew → wpStill Tryz.prog l.toArray W (fun a' => wpList Tryz.prog l.toArray Q (l.drop n) a' W) (l.take n) a) : (Code.region id l.toArray true).wp Tryz.prog Q a w :=
 wp_region_still_tail n (by kernel_rfl) hB (h _ rfl)

theorem still_any (hB : Region.lexB .any l.toArray = true)
  (h : ∀ W, W = w.drew → wpStill Tryz.prog l.toArray W (fun a' => Q .normal a' W) l a) : (Code.region id l.toArray true).wp Tryz.prog Q a w :=
 wp_region_still_lit (by kernel_rfl) hB (h _ rfl)

theorem bcell {W w1 : World} (hb : Below W.heap.size W w1) : (∀ b o, b < W.heap.size → w1.cell? ⟨b, o, none⟩ = W.cell? ⟨b, o, none⟩) ∧ (∀ b o, b < W.heap.size → w1.frozen? ⟨b, o, none⟩ = W.frozen? ⟨b, o, none⟩) :=
 ⟨fun b o h => hb.cell (p := ⟨b, o, none⟩) h, fun b o h => hb.frozen (p := ⟨b, o, none⟩) h⟩

def Blk (w : World) (g : Nat) (cur : Array Value) (T : TypeId) : Prop := w.heap[g]? = some (.cells cur T (0, 0))

theorem Blk.lt (h : Blk w g cur T) : g < w.heap.size := (Array.getElem?_eq_some_iff.1 h).1
theorem Blk.cell (h : Blk w g cur T) (j : Nat) : w.cell? ⟨g, j, none⟩ = cur[j]? := cell_of_row w g j cur T (0, 0) h
theorem Blk.free (h : Blk w g cur T) (j : Nat) : w.frozen? ⟨g, j, none⟩ = false := by
 unfold Blk at h; simp [World.frozen?, h]
theorem Blk.below (h : Blk w g cur T) (hb : Below B w w') (hg : g < B) : Blk w' g cur T := (hb.block g hg).trans h
theorem _root_.Go.RowKit.Below.blk (hb : Below B w w') (h : Blk w g cur T) (hg : g < B) : Blk w' g cur T := (hb.block g hg).trans h
theorem Blk.old (h : Blk w g cur T) (hb : Below w.heap.size w w') : Blk w' g cur T := h.below hb h.lt
theorem Blk.set (h : Blk w g cur T) (j : Nat) (v : Value) : Blk (w.setCell ⟨g, j, none⟩ v) g (cur.setIfInBounds j v) T := by
 unfold Blk at *
 simp [World.setCell, Array.getElem?_modify, h]
theorem Blk.set_other (h : Blk w g cur T) (p : Addr) (v : Value) (hp : g ≠ p.block) : Blk (w.setCell p v) g cur T :=
 (Below.heap_setCell w p v g hp).trans h
theorem Blk.alloc (h : Blk w g cur T) (o : Obj) : Blk (w.alloc o) g cur T := (Below.heap_alloc w o g h.lt).trans h
theorem Blk.new (w : World) (cur : Array Value) (T : TypeId) : Blk (w.alloc (.cells cur T)) w.heap.size cur T := heap_alloc_new w _
theorem Blk.at (cur : Array Value) (T : TypeId) (hg : w.heap.size = g) : Blk (w.alloc (.cells cur T)) g cur T := hg ▸ heap_alloc_new w _
theorem Blk.drew (h : Blk w g cur T) : Blk w.drew g cur T := h

theorem Blk.pass2 (h : Blk w g cur T) (hb : Below ((w.setCell p u).setCell q v).heap.size ((w.setCell p u).setCell q v) w') (hp : g ≠ p.block) (hq : g ≠ q.block) : Blk w' g cur T :=
 ((h.set_other p u hp).set_other q v hq).old hb
theorem Blk.in2 {i j : Nat} (h : Blk w g cur T) (hb : Below ((w.setCell ⟨g, i, none⟩ u).setCell ⟨g, j, none⟩ v).heap.size ((w.setCell ⟨g, i, none⟩ u).setCell ⟨g, j, none⟩ v) w') : Blk w' g ((cur.setIfInBounds i u).setIfInBounds j v) T :=
 ((h.set i u).set j v).old hb
theorem below2 (H : Below B w0 w) (hb : Below ((w.setCell p u).setCell q v).heap.size ((w.setCell p u).setCell q v) w') (hB : B ≤ w.heap.size) (hp : B ≤ p.block) (hq : B ≤ q.block) : Below B w0 w' :=
 ((H.setCell hp u).setCell hq v).trans (hb.mono (by simpa using hB))

structure Bs (w : World) (A : Option Addr) (c : Nat) (xs : List Nat) : Prop where
 le : xs.length ≤ c
 max : c ≤ maxLen
 b8 : ∀ x ∈ xs, x < 256
 cells : xs = [] ∨ ∃ b off, A = some ⟨b, off, none⟩ ∧ ∀ i, i < xs.length → w.cell? ⟨b, off + i, none⟩ = some (.int .u8 ((xs.getD i 0 : Nat) : Int))

theorem Bs.nil (w : World) : Bs w none 0 [] := ⟨by simp, by simp [maxLen], by simp, .inl rfl⟩

theorem Bs.below (h : Bs w A c xs) (hb : Below w.heap.size w w') : Bs w' A c xs := by
 refine ⟨h.le, h.max, h.b8, ?_⟩
 rcases h.cells with h0 | ⟨b, off, hA, hc⟩
 ·exact .inl h0
 ·refine .inr ⟨b, off, hA, fun i hi => ?_⟩
  have hcell := hc i hi
  rw [hb.cell (p := ⟨b, off + i, none⟩) (World.block_lt_of_cell? w _ hcell)]
  exact hcell

def u8s (xs : List Nat) : List Value := xs.map fun (x : Nat) => Value.int .u8 (x : Int)

theorem u8s_length (xs : List Nat) : (u8s xs).length = xs.length := by simp [u8s]
theorem u8s_append (xs ys : List Nat) : u8s (xs ++ ys) = u8s xs ++ u8s ys := by simp [u8s]

structure Own (w : World) (base : Nat) (A : Option Addr) (c : Nat) (xs : List Nat) : Prop where
 row : w.ownsRow base 5 1 (.slice A xs.length c) xs.length (u8s xs)
 b8 : ∀ x ∈ xs, x < 256

theorem Own.bs (h : Own w base A c xs) : Bs w A c xs := by
 rcases h.row.2 with ⟨hv, hn⟩ | ⟨g, cap, cur, hv, hg, hh, hle, hmax, hsz, htake⟩
 ·have hx : xs = [] := List.eq_nil_of_length_eq_zero hn
  subst hx
  simp at hv
  obtain ⟨rfl, rfl⟩ := hv
  exact Bs.nil w
 ·simp only [Value.slice.injEq] at hv
  obtain ⟨rfl, _, rfl⟩ := hv
  refine ⟨hle, hmax, h.b8, ?_⟩
  by_cases h0 : xs = []
  ·exact .inl h0
  ·refine .inr ⟨g, 0, rfl, fun i hi => ?_⟩
   have := h.row.cells (g := g) rfl i (.int .u8 ((xs.getD i 0 : Nat) : Int)) (by simp [u8s, hi])
   simpa [Addr.add_lit] using this

theorem Own.nil (w : World) (base : Nat) : Own w base none 0 [] := ⟨World.ownsRow_nil w base _ _, by simp⟩

theorem Own.mono {base' : Nat} (h : Own w base A c xs) (hb : base' ≤ base) : Own w base' A c xs := by
 refine ⟨⟨h.row.1, ?_⟩, h.b8⟩
 rcases h.row.2 with h0 | ⟨g, cap, cur, hv, hg, r⟩
 ·exact .inl h0
 ·exact .inr ⟨g, cap, cur, hv, Nat.le_trans hb hg, r⟩

theorem ownsRow_below {e : TypeId} {size : Nat} {xs : List Value} (h : w.ownsRow base e size v n xs) (hb : Below w.heap.size w w') : w'.ownsRow base e size v n xs := by
 refine ⟨h.1, ?_⟩
 rcases h.2 with h0 | ⟨g, cap, cur, hv, hg, hh, r⟩
 ·exact .inl h0
 ·exact .inr ⟨g, cap, cur, hv, hg, (hb.block g (Array.getElem?_eq_some_iff.1 hh).1).trans hh, r⟩

theorem Own.below (h : Own w base A c xs) (hb : Below w.heap.size w w') : Own w' base A c xs :=
 ⟨ownsRow_below h.row hb, h.b8⟩

theorem below_from (h : Below w0.heap.size w0 w) (h' : Below w.heap.size w w') : Below w0.heap.size w0 w' := h.trans (h'.mono h.size)
theorem rounds_step {P : Program} {c : Code} (h : c.wp P (Exit.then (Code.rounds P c Q n) Q) a w) : Code.rounds P c Q (n + 1) a w := h

end Go.Proofs.YtkhbihnnkflfkaaGreat
