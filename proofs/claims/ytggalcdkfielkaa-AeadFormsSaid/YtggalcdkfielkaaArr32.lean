/-
  Rows of words: [16]uint32 in a block: places, loads, stores.
-/
import Derived.Test.YtggalcdkfielkaaBegin
import Derived.Test.YtggalcdkfielkaaRegM
import Derived.Test.YtggalcdkfielkaaAgg
namespace Go.Proofs.Ytggalcdkfielkaa
open Go.RowKit
set_option linter.unusedVariables false
set_option linter.unusedSimpArgs false
set_option maxRecDepth 100000

theorem u32s_length (xs : List Nat) : (u32s xs).length = xs.length := by simp [u32s]
theorem u32s_get (xs : List Nat) (i : Nat) (hi : i < xs.length) : (u32s xs).toArray[i]? = some (.int .u32 ((xs.getD i 0 : Nat) : Int)) := by simp [u32s, hi]
theorem u32s_set (xs : List Nat) (i v : Nat) : (u32s xs).toArray.setIfInBounds i (.int .u32 (v : Int)) = (u32s (xs.set i v)).toArray := by simp [u32s, List.map_set]

section
variable {o : Oper} {a : Act} {w : World} {x y : Operand} {g : Nat} {T : TypeId} {s : List Nat}

theorem ix16 {e : Int} {k : Nat} (ho : o.op = .indexAddr 92 x y) (hx : a.eval x = .pointer (some ⟨g, 0, none⟩)) (hy : a.eval y = .int .i64 e) (he : e = (k : Int)) (hk : k < 16) :
    (execOp a.eval o).run Try.prog w = .ok (.value (.pointer (some ⟨g, k, none⟩))) w := by
  subst he
  have h1 : (k : Int) < 16 := by omega
  generalize a.eval = ev at hx hy ⊢
  simp [execOp, ho, hx, hy, go_sem, h1]

theorem ld32 {k v : Nat} (ho : o.op = .load 57 x) (hx : a.eval x = .pointer (some ⟨g, k, none⟩)) (hB : Blk w g (u32s s).toArray T) (hk : k < s.length) (hv : s.getD k 0 = v) :
    (execOp a.eval o).run Try.prog w = .ok (.value (.int .u32 (v : Int))) w := by
  have hc : w.cell? ⟨g, k, none⟩ = some (.int .u32 (v : Int)) := by rw [hB.cell, u32s_get s k hk, hv]
  clear hB hv
  generalize a.eval = ev at hx ⊢
  simp [execOp, ho, hx, go_sem, hc]

theorem st32 {k v : Nat} (ho : o.op = .store 57 x y) (hx : a.eval x = .pointer (some ⟨g, k, none⟩)) (hy : a.eval y = .int .u32 (v : Int)) (hB : Blk w g (u32s s).toArray T) (hk : k < s.length) :
    ∃ w', (execOp a.eval o).run Try.prog w = .ok .skip w' ∧ Blk w' g (u32s (s.set k v)).toArray T ∧ BelowX (fun k => k = g) w w' := by
  have hc : w.cell? ⟨g, k, none⟩ = some (.int .u32 ((s.getD k 0 : Nat) : Int)) := by rw [hB.cell, u32s_get s k hk]
  have hf := hB.free k
  generalize a.eval = ev at hx hy ⊢
  refine ⟨w.setCell ⟨g, k, none⟩ (.int .u32 (v : Int)), ?_, ?_, ⟨rfl, rfl, rfl, by simp [World.setCell], fun i _ hi => Below.heap_setCell w _ _ _ hi⟩⟩
  · simp [execOp, ho, hx, hy, go_sem, hc, hf]
  · have h := hB.set k (.int .u32 (v : Int))
    rw [u32s_set] at h
    exact h
end

theorem tail_st32 {ops : Array Oper} {Q : Exit → Act → World → Prop} {o : Oper} {rest : List Oper} {a : Act} {w : World} {x y : Operand} {g : Nat} {T : TypeId} {s : List Nat} {k v : Nat} (hg : o.guard = none) (hd : o.dst = none)
    (ho : o.op = .store 57 x y) (hx : a.eval x = .pointer (some ⟨g, k, none⟩)) (hy : a.eval y = .int .u32 (v : Int)) (hB : Blk w g (u32s s).toArray T) (hk : k < s.length)
    (h : ∀ w', Blk w' g (u32s (s.set k v)).toArray T → BelowX (fun k => k = g) w w' → wpList Try.prog ops Q rest a w') : wpList Try.prog ops Q (o :: rest) a w := by
  obtain ⟨w', hr, h1, h2⟩ := st32 ho hx hy hB hk
  exact tail_skip hg hd hr (h w' h1 h2)

/-- The quarter round at four places of a row. -/
def qrAt (s : List Nat) (i j k l : Nat) : List Nat :=
  match qr (s.getD i 0) (s.getD j 0) (s.getD k 0) (s.getD l 0) with
  | (a, b, c, d) => (((s.set i a).set j b).set k c).set l d

theorem qr_lt (a b c d : Nat) (ha : a < 4294967296) (hb : b < 4294967296) (hc : c < 4294967296) (hd : d < 4294967296) : (qr a b c d).1 < 4294967296 ∧ (qr a b c d).2.1 < 4294967296 ∧ (qr a b c d).2.2.1 < 4294967296 ∧ (qr a b c d).2.2.2 < 4294967296 := by
  obtain ⟨a1, e1, l1, H1⟩ := sum32 a b
  obtain ⟨x1, f1, m1, G1⟩ := xor32 d a1 hd l1
  obtain ⟨d1, k1, R1⟩ := rot32 x1 16 m1
  obtain ⟨c1, e2, l2, H2⟩ := sum32 c d1
  obtain ⟨x2, f2, m2, G2⟩ := xor32 b c1 hb l2
  obtain ⟨b1, k2, R2⟩ := rot32 x2 12 m2
  obtain ⟨a2, e3, l3, H3⟩ := sum32 a1 b1
  obtain ⟨x3, f3, m3, G3⟩ := xor32 d1 a2 k1 l3
  obtain ⟨d2, k3, R3⟩ := rot32 x3 8 m3
  obtain ⟨c2, e4, l4, H4⟩ := sum32 c1 d2
  obtain ⟨x4, f4, m4, G4⟩ := xor32 b1 c2 k2 l4
  obtain ⟨b2, k4, R4⟩ := rot32 x4 7 m4
  have hq : qr a b c d = (a2, b2, c2, d2) := by
    unfold qr
    simp only [H1.out, G1.out, R1.out, H2.out, G2.out, R2.out, H3.out, G3.out, R3.out, H4.out, G4.out, R4.out]
  rw [hq]
  exact ⟨l3, k4, l4, k3⟩
end Go.Proofs.Ytggalcdkfielkaa
