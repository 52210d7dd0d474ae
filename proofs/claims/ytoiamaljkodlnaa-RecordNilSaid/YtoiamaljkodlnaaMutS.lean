/-
  SLICES OF SLICES OF BYTES: rows of the call's own, appended to.
-/
import Derived.Test.YtoiamaljkodlnaaMut
namespace Go.Proofs.Ytoiamaljkodlnaa
open Go.RowKit
set_option linter.unusedVariables false
set_option linter.unusedSimpArgs false
set_option maxRecDepth 100000

/-- All blocks but those of type T are as they were; nothing is gone. -/
structure KeptT (T : TypeId) (w w' : World) : Prop where
  size : w.heap.size ≤ w'.heap.size
  block : ∀ (k : Nat) (cur : Array Value) (T' : TypeId), w.heap[k]? = some (Obj.cells cur T' (0, 0)) → T' ≠ T → w'.heap[k]? = w.heap[k]?
theorem KeptT.blk {T : TypeId} {w w' : World} (h : KeptT T w w') {g : Nat} {cur : Array Value} {U : TypeId} (hB : Blk w g cur U) (hT : U ≠ T) : Blk w' g cur U := (h.block g cur U hB hT).trans hB
theorem Own.keptT {T : TypeId} {w w' : World} {B c : Nat} {A : Option Addr} {xs : List Nat} (h : Own w B A c xs) (hk : KeptT T w w') (hT : 5 ≠ T) : Own w' B A c xs := by
  refine ⟨⟨h.row.1, ?_⟩, h.b8⟩
  rcases h.row.2 with h0 | ⟨g, cap, cur, hv, hg, hh, r⟩
  · exact .inl h0
  · exact .inr ⟨g, cap, cur, hv, hg, hk.blk hh hT, r⟩
theorem Wt.keptT {T : TypeId} {w w' : World} {c : Nat} {A : Option Addr} {xs : List Nat} (h : Wt w A c xs) (hk : KeptT T w w') (hT : 5 ≠ T) : Wt w' A c xs := by
  refine ⟨h.b8, h.le, h.max, h.row.imp id ?_⟩
  rintro ⟨g, off, cur, hA, hh, r⟩
  exact ⟨g, off, cur, hA, hk.blk hh hT, r⟩

/-- A row of slices of bytes that is the call's own. -/
def RowS (w : World) (B : Nat) (A : Option Addr) (c : Nat) (ps : List Part) : Prop := w.ownsRow B 22 1 (.slice A ps.length c) ps.length (ps.map Part.val)
def AllOwn (w : World) (B : Nat) (ps : List Part) : Prop := ∀ p ∈ ps, Own w B p.A p.c p.xs
def AllBs (w : World) (ps : List Part) : Prop := ∀ p ∈ ps, Bs w p.A p.c p.xs
def blkP (ps : List Part) : Nat → Prop := fun k => ∃ p ∈ ps, blkA p.A k

theorem RowS.nil (w : World) (B : Nat) : RowS w B none 0 [] := World.ownsRow_nil w B _ _
theorem RowS.keep {w w' : World} {B c : Nat} {A : Option Addr} {ps : List Part} (h : RowS w B A c ps) (hb : KeptM (blkA A) w w') : RowS w' B A c ps := ownsRow_keep h hb
theorem RowS.lt {w : World} {B c : Nat} {A : Option Addr} {ps : List Part} (h : RowS w B A c ps) : Lt w (blkA A) := by
  intro k hk
  rcases h.2 with ⟨hv, _⟩ | ⟨g, cap, cur, hv, _, hh, _⟩
  · simp only [Value.slice.injEq] at hv
    rw [hv.1] at hk; exact absurd hk blkA_none
  · simp only [Value.slice.injEq] at hv
    rw [hv.1, blkA_some] at hk
    subst hk
    exact (Array.getElem?_eq_some_iff.1 hh).1
theorem RowS.ge' {w : World} {B c : Nat} {A : Option Addr} {ps : List Part} (h : RowS w B A c ps) : ∀ k, blkA A k → B ≤ k := by
  intro k hk
  rcases h.2 with ⟨hv, _⟩ | ⟨g, cap, cur, hv, hg, hh, _⟩
  · simp only [Value.slice.injEq] at hv
    rw [hv.1] at hk; exact absurd hk blkA_none
  · simp only [Value.slice.injEq] at hv
    rw [hv.1, blkA_some] at hk
    subst hk
    exact hg
theorem RowS.mono {w : World} {B B' c : Nat} {A : Option Addr} {ps : List Part} (h : RowS w B A c ps) (hb : B' ≤ B) : RowS w B' A c ps := by
  refine ⟨h.1, ?_⟩
  rcases h.2 with h0 | ⟨g, cap, cur, hv, hg, r⟩
  · exact .inl h0
  · exact .inr ⟨g, cap, cur, hv, Nat.le_trans hb hg, r⟩
theorem RowS.nx {w w' : World} {B c : Nat} {A : Option Addr} {ps : List Part} (h : RowS w B A c ps) (hb : Below w.heap.size w w') : RowS w' B A c ps := h.keep (kept_of hb h.lt)
theorem RowS.sepB {w : World} {B c g : Nat} {A : Option Addr} {ps : List Part} {cur : Array Value} {T : TypeId} (h : RowS w B A c ps) (hB : Blk w g cur T) (hT : T ≠ 22) : ¬ blkA A g := by
  intro hk
  rcases h.2 with ⟨hv, _⟩ | ⟨g', cap, cur', hv, hg, hh, _⟩
  · simp only [Value.slice.injEq] at hv
    rw [hv.1] at hk; exact absurd hk blkA_none
  · simp only [Value.slice.injEq] at hv
    rw [hv.1, blkA_some] at hk
    subst hk
    unfold Blk at hB
    rw [hh] at hB
    simp only [Option.some.injEq, Obj.cells.injEq] at hB
    exact hT hB.2.1.symm
theorem RowS.keptT {T : TypeId} {w w' : World} {B c : Nat} {A : Option Addr} {ps : List Part} (h : RowS w B A c ps) (hk : KeptT T w w') (hT : 22 ≠ T) : RowS w' B A c ps := by
  refine ⟨h.1, ?_⟩
  rcases h.2 with h0 | ⟨g, cap, cur, hv, hg, hh, r⟩
  · exact .inl h0
  · exact .inr ⟨g, cap, cur, hv, hg, hk.blk hh hT, r⟩
/-- What the row's places hold. -/
theorem RowS.at {w : World} {B c i : Nat} {A : Option Addr} {ps : List Part} (h : RowS w B A c ps) (hi : i < ps.length) : ∃ g cur, A = some ⟨g, 0, none⟩ ∧ Blk w g cur 22 ∧ cur[i]? = some (Part.at ps i).val := by
  rcases h.2 with ⟨hv, h0⟩ | ⟨g, cap, cur, hv, hg, hh, hle, hmax, hsz, htake⟩
  · omega
  · simp only [Value.slice.injEq] at hv
    obtain ⟨rfl, _, rfl⟩ := hv
    refine ⟨g, cur, rfl, hh, ?_⟩
    have h1 := congrArg (fun l : List Value => l[i]?) htake
    simp only [Nat.mul_one, List.getElem?_take, hi, if_true, Array.getElem?_toList] at h1
    rw [h1]
    simp [Part.at, hi]
theorem AllOwn.keep {w w' : World} {B : Nat} {ps : List Part} (h : AllOwn w B ps) (hb : KeptM (blkP ps) w w') : AllOwn w' B ps := fun p hp => (h p hp).keep (fun k hk => hb k ⟨p, hp, hk⟩)
theorem AllOwn.lt {w : World} {B : Nat} {ps : List Part} (h : AllOwn w B ps) : Lt w (blkP ps) := fun k ⟨p, hp, hk⟩ => (h p hp).lt k hk
theorem AllOwn.nx {w w' : World} {B : Nat} {ps : List Part} (h : AllOwn w B ps) (hb : Below w.heap.size w w') : AllOwn w' B ps := fun p hp => (h p hp).nx hb
theorem AllOwn.mono {w : World} {B B' : Nat} {ps : List Part} (h : AllOwn w B ps) (hb : B' ≤ B) : AllOwn w B' ps := fun p hp => (h p hp).mono hb
theorem AllOwn.bs {w : World} {B : Nat} {ps : List Part} (h : AllOwn w B ps) : AllBs w ps := fun p hp => (h p hp).bs
theorem AllOwn.keptT {T : TypeId} {w w' : World} {B : Nat} {ps : List Part} (h : AllOwn w B ps) (hk : KeptT T w w') (hT : 5 ≠ T) : AllOwn w' B ps := fun p hp => (h p hp).keptT hk hT
theorem AllOwn.app {w : World} {B : Nat} {ps qs : List Part} (h : AllOwn w B ps) (h2 : AllOwn w B qs) : AllOwn w B (ps ++ qs) := fun p hp => (List.mem_append.1 hp).elim (h p) (h2 p)
theorem AllBs.nx {w w' : World} {ps : List Part} (h : AllBs w ps) (hb : Below w.heap.size w w') : AllBs w' ps := fun p hp => (h p hp).nx hb
theorem AllBs.app {w : World} {ps qs : List Part} (h : AllBs w ps) (h2 : AllBs w qs) : AllBs w (ps ++ qs) := fun p hp => (List.mem_append.1 hp).elim (h p) (h2 p)

theorem RowS.sepW {w : World} {B c d : Nat} {A A2 : Option Addr} {ps : List Part} {xs : List Nat} (h : RowS w B A c ps) (h2 : Wt w A2 d xs) : Sep (blkA A) (blkA A2) := by
  intro j hj hj2
  rcases h2.row with ⟨hA, _⟩ | ⟨g, off, cur, hA, hh, _⟩
  · rw [hA] at hj2; exact blkA_none hj2
  · rw [hA, blkA_some] at hj2
    subst hj2
    exact h.sepB (cur := cur) (T := 5) hh (by decide) hj
theorem RowS.keepM {w w' : World} {B c : Nat} {A : Option Addr} {ps : List Part} {X : Nat → Prop} (h : RowS w B A c ps) (hb : BelowX X w w') (hs : Sep (blkA A) X) : RowS w' B A c ps := h.keep (hb.kept h.lt hs)
theorem AllOwn.keepM {w w' : World} {B : Nat} {ps : List Part} {X : Nat → Prop} (h : AllOwn w B ps) (hb : BelowX X w w') (hs : Sep (blkP ps) X) : AllOwn w' B ps := h.keep (hb.kept h.lt hs)
theorem AllOwn.ge' {w : World} {B : Nat} {ps : List Part} (h : AllOwn w B ps) : ∀ k, blkP ps k → B ≤ k := fun k ⟨p, hp, hk⟩ => (h p hp).ge' k hk
theorem blkP_app {ps qs : List Part} {k : Nat} (h : blkP (ps ++ qs) k) : blkP ps k ∨ blkP qs k := by
  obtain ⟨p, hp, hk⟩ := h
  exact (List.mem_append.1 hp).imp (fun h => ⟨p, h, hk⟩) (fun h => ⟨p, h, hk⟩)
theorem blkP_one {p : Part} {k : Nat} (h : blkP [p] k) : blkA p.A k := by
  obtain ⟨q, hq, hk⟩ := h
  rw [List.mem_singleton.1 hq] at hk
  exact hk
theorem blkP_nil {k : Nat} : ¬ blkP [] k := by rintro ⟨p, hp, _⟩; cases hp
theorem sl_info : (Try.prog.info? 22).map (fun i => (i.zero, i.size, i.bytes)) = some (some (.slice none 0 0), 1, 24) := by kernel_rfl
theorem sl_parts : ∃ i, Try.prog.info? 22 = some i ∧ i.zero = some (.slice none 0 0) ∧ i.size = 1 ∧ i.bytes = 24 := by
  have h := sl_info
  cases hi : Try.prog.info? 22 with
  | none => rw [hi] at h; cases h
  | some i =>
    rw [hi] at h
    simp only [Option.map_some, Option.some.injEq, Prod.mk.injEq] at h
    exact ⟨i, rfl, h.1, h.2.1, h.2.2⟩
theorem val_one (ps : List Part) : ∀ u ∈ ps.map Part.val, u.oneCell' = true := by
  intro u hu
  obtain ⟨y, _, rfl⟩ := List.mem_map.1 hu
  rfl
/-- Slices of bytes are appended to a row of the call's own. -/
theorem rows_app {w : World} {base : Nat} {A : Option Addr} {c d n m : Nat} {ps qs : List Part} {ad : Addr} (ty : TypeId) (ho : RowS w base A c ps) (hcells : ∀ j u, (qs.map Part.val)[j]? = some u → w.cell? (ad.add j) = some u) (hn : ps.length = n) (hm : qs.length = m) (hl : n + m ≤ 1000000000000) (hbase : base ≤ w.heap.size) :
    ∃ A' c' w', (Builtin.append_ #[53, 53] ty #[.slice A n c, .slice (some ad) m d]).run Try.prog w = .ok (.slice A' (n + m) c') w' ∧ RowS w' base A' c' (ps ++ qs) ∧ Below base w w' ∧ KeptT 22 w w' ∧ BelowX (blkA A) w w' ∧ (∀ k, blkA A' k → blkA A k ∨ w.heap.size ≤ k) := by
  subst hn hm
  obtain ⟨i, hi, hz, hs, hby⟩ := sl_parts
  obtain ⟨v', w', hrun, h2, h3, _, h5⟩ := run_append_own_at (P := Try.prog) w base 53 ty 22 i (.slice none 0 0) 1 24 Try.underlying53 hi hz hs hby rfl (by omega) (.slice A ps.length c) ps.length (ps.map Part.val) ho ad qs.length d (qs.map Part.val) (by simp) hcells (val_one qs) (by unfold maxLen; omega) (by omega) hbase
  have hv : ∃ A' c', v' = .slice A' (ps.length + qs.length) c' := by
    rcases h2.2 with ⟨h1, h2⟩ | ⟨g, cap, cur, h1, _⟩
    · exact ⟨none, 0, by rw [h2]; exact h1⟩
    · exact ⟨_, _, h1⟩
  obtain ⟨A', c', rfl⟩ := hv
  have h2' : RowS w' base A' c' (ps ++ qs) := by unfold RowS; rw [List.map_append, List.length_append]; exact h2
  have hown : ∀ k, (Value.slice A ps.length c).ownBlock = some k ↔ blkA A k := by
    intro k
    cases A with
    | none => simp [Value.ownBlock, blkA]
    | some a => simp [Value.ownBlock, blkA]
  have hX : BelowX (blkA A) w w' := ⟨h3.os, h3.tape, h3.output, h3.size, fun k hk hx => h3.block k hk (fun e => hx ((hown k).1 e.symm))⟩
  refine ⟨A', c', w', hrun, h2', hX.below (Below.refl _ _) hbase ho.ge', ⟨h3.size, fun k cur T' hk hT => ?_⟩, hX, fun k hk => ?_⟩
  · exact hX.block k (Array.getElem?_eq_some_iff.1 hk).1 (ho.sepB hk hT)
  · rcases h5 with h5 | h5
    · left
      obtain ⟨a, rfl, rfl⟩ := hk
      exact (hown _).1 h5.symm
    · right
      obtain ⟨a, rfl, rfl⟩ := hk
      simp only [Value.ownBlock, Option.some.injEq] at h5
      omega
section
variable {o : Oper} {ev : Operand → Value} {w : World} {x y z : Operand} {T U t : TypeId} {g k : Nat}
/-- append(out, x): x lies in a block of its own. -/
theorem o_appS1 {A A2 : Option Addr} {base c c2 n m d : Nat} {ps : List Part} {xs : List Nat} (ho : o.op = .call { callee := .builtin .append, args := #[x, y], argTypes := #[53, 53] }) (hx : ev x = .slice A n c) (hy : ev y = .slice (some ⟨g, 0, none⟩) 1 d)
    (hO : RowS w base A c ps) (hB : Blk w g #[.slice A2 m c2] 22) (hm : xs.length = m) (hn : ps.length = n) (hl : n ≤ 100000000000) (hbase : base ≤ w.heap.size) :
    ∃ v w', (execOp ev o).run Try.prog w = .ok (.value v) w' ∧ ∃ A' c', v = .slice A' (ps ++ [(⟨A2, c2, xs⟩ : Part)]).length c' ∧ RowS w' base A' c' (ps ++ [⟨A2, c2, xs⟩]) ∧ Below base w w' ∧ KeptT 22 w w' ∧ (∀ k, blkA A' k → blkA A k ∨ w.heap.size ≤ k) := by
  have hlen : (ps ++ [(⟨A2, c2, xs⟩ : Part)]).length = n + 1 := by rw [List.length_append, hn]; rfl
  rw [hlen]
  obtain ⟨A', c', w', hrun, h1, h2, h3, _, h5⟩ := rows_app (qs := [⟨A2, c2, xs⟩]) (ad := ⟨g, 0, none⟩) (d := d) o.type hO (fun j u hu => by
    have hj : j = 0 := by
      have := (List.getElem?_eq_some_iff.1 hu).1
      simpa using this
    subst hj
    rw [Addr.add_lit]
    refine (hB.cell 0).trans ?_
    rw [← hu]
    subst hm
    rfl) hn rfl (by simp only [List.length_cons, List.length_nil]; omega) hbase
  simp only [List.length_cons, List.length_nil, Nat.zero_add] at hrun
  refine ⟨_, w', ?_, A', c', rfl, h1, h2, h3, h5⟩
  simp only [execOp, ho, resolve, invoke, builtin, Sem.run_bind, Sem.run_pure, Result.andThen_ok, List.map_toArray, List.map_cons, List.map_nil, hx, hy, hrun]
end
end Go.Proofs.Ytoiamaljkodlnaa
