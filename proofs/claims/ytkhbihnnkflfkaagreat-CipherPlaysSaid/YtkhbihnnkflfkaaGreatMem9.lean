/-
 Mut · MutS · Ops9, IN ONE TEXT.
-/
import Derived.Test.YtkhbihnnkflfkaaGreatOpsM
import Derived.ArgAppend
import Derived.Laws.OwnMore
import Derived.Laws.BitsAllLaws
import Derived.Laws.Strings
/-
 MEMORY THAT IS CHANGED: sets of blocks; slices at an offset that may be appended to.
-/
namespace Go.Proofs.YtkhbihnnkflfkaaGreat
open Go.RowKit
set_option linter.unusedVariables false
set_option linter.unusedSimpArgs false
set_option maxRecDepth 100000

variable {M N X Y : Nat → Prop} {w w' w0 w1 w2 : World} {B c d g k m n : Nat} {A : Option Addr} {xs ys : List Nat} {cur : Array Value} {T : TypeId}
theorem BelowX.mono (h : BelowX X w w') (hXY : ∀ k, k < w.heap.size → X k → Y k) : BelowX Y w w' :=
 ⟨h.os, h.tape, h.output, h.size, fun k hk hy => h.block k hk (fun hx => hy (hXY k hk hx))⟩
theorem BelowX.step (h : BelowX X w w1) (h2 : BelowX Y w1 w2) (hY : ∀ k, k < w.heap.size → Y k → X k) : BelowX X w w2 :=
 ⟨h2.os.trans h.os, h2.tape.trans h.tape, h2.output.trans h.output, Nat.le_trans h.size h2.size, fun k hk hx => (h2.block k (Nat.lt_of_lt_of_le hk h.size) (fun hy => hx (hY k hk hy))).trans (h.block k hk hx)⟩
theorem BelowX.then (h : BelowX X w w1) (h2 : Below w1.heap.size w1 w2) : BelowX X w w2 := h.trans (BelowX.of h2)
def blkA (A : Option Addr) : Nat → Prop := fun k => ∃ a, A = some a ∧ a.block = k
theorem blkA_none : ¬ blkA none k := by rintro ⟨a, h, _⟩; cases h
theorem blkA_some {off : Nat} : blkA (some ⟨g, off, none⟩) k ↔ g = k := by
 constructor
 ·rintro ⟨a, h, rfl⟩; cases h; rfl
 ·rintro rfl; exact ⟨_, rfl, rfl⟩

def Lt (w : World) (M : Nat → Prop) : Prop := ∀ k, M k → k < w.heap.size
def Ge (w : World) (M : Nat → Prop) : Prop := ∀ k, M k → w.heap.size ≤ k
def Sep (M N : Nat → Prop) : Prop := ∀ k, M k → ¬ N k
def MX (w : World) (M : Nat → Prop) (w' : World) : Nat → Prop := fun k => M k ∨ (w.heap.size ≤ k ∧ k < w'.heap.size)
theorem Sep.symm (h : Sep M N) : Sep N M := fun k hk hm => h k hm hk
theorem Sep.mx (h : Sep N M) (hN : Lt w N) : Sep N (MX w M w') := fun k hk hm => hm.elim (h k hk) (fun h2 => absurd (hN k hk) (Nat.not_lt.2 h2.1))
theorem Sep.new (hN : Lt w N) (hM : Ge w M) : Sep N M := fun k hk hm => absurd (hN k hk) (Nat.not_lt.2 (hM k hm))
theorem Lt.up (h : Lt w M) (hs : w.heap.size ≤ w'.heap.size) : Lt w' M := fun k hk => Nat.lt_of_lt_of_le (h k hk) hs
theorem Lt.mx (h : Lt w M) (hs : w.heap.size ≤ w'.heap.size) : Lt w' (MX w M w') := fun k hk => hk.elim (fun h1 => Nat.lt_of_lt_of_le (h k h1) hs) (fun h2 => h2.2)
theorem Ge.down (h : Ge w M) (hs : w0.heap.size ≤ w.heap.size) : Ge w0 M := fun k hk => Nat.le_trans hs (h k hk)
theorem Ge.mx (h : Ge w0 M) (hs : w0.heap.size ≤ w.heap.size) : Ge w0 (MX w M w') := fun k hk => hk.elim (h k) (fun h2 => Nat.le_trans hs h2.1)
theorem MX.le : ∀ k, M k → MX w M w' k := fun _ h => .inl h

def KeptM (M : Nat → Prop) (w w' : World) : Prop := ∀ k, M k → w'.heap[k]? = w.heap[k]?
theorem BelowX.kept (hb : BelowX X w w') (hM : Lt w M) (hs : Sep M X) : KeptM M w w' := fun k hk => hb.block k (hM k hk) (hs k hk)
theorem kept_of (hb : Below w.heap.size w w') (hM : Lt w M) : KeptM M w w' := fun k hk => hb.block k (hM k hk)

theorem Own.lt (h : Own w B A c xs) : Lt w (blkA A) := by
 intro k hk
 rcases h.row.2 with ⟨hv, _⟩ | ⟨g, cap, cur, hv, _, hh, _⟩
 ·simp only [Value.slice.injEq] at hv
  rw [hv.1] at hk; exact absurd hk blkA_none
 ·simp only [Value.slice.injEq] at hv
  rw [hv.1, blkA_some] at hk
  subst hk
  exact (Array.getElem?_eq_some_iff.1 hh).1
theorem Own.ge' (h : Own w B A c xs) : ∀ k, blkA A k → B ≤ k := by
 intro k hk
 rcases h.row.2 with ⟨hv, _⟩ | ⟨g, cap, cur, hv, hg, hh, _⟩
 ·simp only [Value.slice.injEq] at hv
  rw [hv.1] at hk; exact absurd hk blkA_none
 ·simp only [Value.slice.injEq] at hv
  rw [hv.1, blkA_some] at hk
  subst hk
  exact hg
theorem ownsRow_keep {base : Nat} {e : TypeId} {size : Nat} {xs : List Value} (h : w.ownsRow base e size (.slice A n c) m xs) (hb : KeptM (blkA A) w w') : w'.ownsRow base e size (.slice A n c) m xs := by
 refine ⟨h.1, ?_⟩
 rcases h.2 with h0 | ⟨g, cap, cur, hv, hg, hh, r⟩
 ·exact .inl h0
 ·refine .inr ⟨g, cap, cur, hv, hg, (hb g ?_).trans hh, r⟩
  simp only [Value.slice.injEq] at hv
  rw [hv.1]; exact blkA_some.2 rfl
theorem Own.keep (h : Own w B A c xs) (hb : KeptM (blkA A) w w') : Own w' B A c xs := ⟨ownsRow_keep h.row hb, h.b8⟩
theorem Own.keepM (h : Own w B A c xs) (hb : BelowX X w w') (hs : Sep (blkA A) X) : Own w' B A c xs := h.keep (hb.kept h.lt hs)
theorem Own.sepB (h : Own w B A c xs) (hB : Blk w g cur T) (hT : T ≠ 5) : ¬ blkA A g := by
 intro hk
 rcases h.row.2 with ⟨hv, _⟩ | ⟨g', cap, cur', hv, hg, hh, _⟩
 ·simp only [Value.slice.injEq] at hv
  rw [hv.1] at hk; exact absurd hk blkA_none
 ·simp only [Value.slice.injEq] at hv
  rw [hv.1, blkA_some] at hk
  subst hk
  unfold Blk at hB
  rw [hh] at hB
  simp only [Option.some.injEq, Obj.cells.injEq] at hB
  exact hT hB.2.1.symm

structure Wt (w : World) (A : Option Addr) (c : Nat) (xs : List Nat) : Prop where
 b8 : ∀ x ∈ xs, x < 256
 le : xs.length ≤ c
 max : c ≤ maxLen
 row : (A = none ∧ c = 0) ∨ ∃ g off cur, A = some ⟨g, off, none⟩ ∧ w.heap[g]? = some (.cells cur 5 (0, 0)) ∧ off + c ≤ cur.size ∧ ∀ i, i < xs.length → cur[off + i]? = some (.int .u8 ((xs.getD i 0 : Nat) : Int))

theorem Wt.nil (w : World) : Wt w none 0 [] := ⟨by simp, by simp, by simp [maxLen], .inl ⟨rfl, rfl⟩⟩
theorem Wt.bs (h : Wt w A c xs) : Bs w A c xs := by
 refine ⟨h.le, h.max, h.b8, ?_⟩
 rcases h.row with ⟨_, hc⟩ | ⟨g, off, cur, hA, hh, hsz, hx⟩
 ·left
  have := h.le
  exact List.eq_nil_of_length_eq_zero (by omega)
 ·exact .inr ⟨g, off, hA, fun i hi => (cell_of_row w g (off + i) cur _ (0, 0) hh).trans (hx i hi)⟩
theorem Wt.lt (h : Wt w A c xs) : Lt w (blkA A) := by
 intro k hk
 rcases h.row with ⟨hA, _⟩ | ⟨g, off, cur, hA, hh, _⟩
 ·rw [hA] at hk; exact absurd hk blkA_none
 ·rw [hA, blkA_some] at hk
  subst hk
  exact (Array.getElem?_eq_some_iff.1 hh).1
theorem Wt.keep (h : Wt w A c xs) (hb : KeptM (blkA A) w w') : Wt w' A c xs := by
 refine ⟨h.b8, h.le, h.max, h.row.imp id ?_⟩
 rintro ⟨g, off, cur, hA, hh, r⟩
 exact ⟨g, off, cur, hA, (hb g (by rw [hA]; exact blkA_some.2 rfl)).trans hh, r⟩
theorem Wt.nx (h : Wt w A c xs) (hb : Below w.heap.size w w') : Wt w' A c xs := h.keep (kept_of hb h.lt)
theorem Wt.sepB (h : Wt w A c xs) (hB : Blk w g cur T) (hT : T ≠ 5) : ¬ blkA A g := by
 intro hk
 rcases h.row with ⟨hA, _⟩ | ⟨g', off, cur', hA, hh, _⟩
 ·rw [hA] at hk; exact absurd hk blkA_none
 ·rw [hA, blkA_some] at hk
  subst hk
  unfold Blk at hB
  rw [hh] at hB
  simp only [Option.some.injEq, Obj.cells.injEq] at hB
  exact hT hB.2.1.symm
theorem Own.wt (h : Own w B A c xs) : Wt w A c xs := by
 refine ⟨h.b8, h.bs.le, h.bs.max, ?_⟩
 have hr := h.row
 rcases h.row.2 with ⟨hv, hn⟩ | ⟨g, cap, cur, hv, hg, hh, hle, hmax, hsz, htake⟩
 ·simp only [Value.slice.injEq] at hv
  exact .inl ⟨hv.1, hv.2.2⟩
 ·simp only [Value.slice.injEq] at hv
  obtain ⟨rfl, _, rfl⟩ := hv
  refine .inr ⟨g, 0, cur, rfl, hh, by omega, fun i hi => ?_⟩
  have h1 := congrArg (fun l : List Value => l[i]?) htake
  simp only [Nat.mul_one, List.getElem?_take, hi, if_true, Array.getElem?_toList] at h1
  rw [Nat.zero_add, h1]
  simp [u8s, hi]
theorem Wt.drop (h : Wt w A c xs) (hn : n ≤ xs.length) : Wt w (subA A n c) (c - n) (xs.drop n) := by
 have hle := h.le
 refine ⟨fun x hx => h.b8 x (List.mem_of_mem_drop hx), by rw [List.length_drop]; omega, Nat.le_trans (Nat.sub_le _ _) h.max, ?_⟩
 rcases h.row with ⟨hA, hc⟩ | ⟨g, off, cur, hA, hh, hsz, hx⟩
 ·left
  subst hA hc
  refine ⟨?_, by omega⟩
  unfold subA; split <;> rfl
 ·right
  subst hA
  by_cases hcn : c = n
  ·subst hcn
   refine ⟨g, off, cur, by unfold subA; rw [if_pos rfl], hh, by omega, fun i hi => ?_⟩
   rw [List.length_drop] at hi
   omega
  ·refine ⟨g, off + n, cur, by unfold subA; rw [if_neg hcn]; simp [atA, Addr.add_lit], hh, by omega, fun i hi => ?_⟩
   rw [List.length_drop] at hi
   rw [show off + n + i = off + (n + i) by omega, hx (n + i) (by omega)]
   simp [List.getD_eq_getElem?_getD]
theorem blkA_sub : blkA (subA A n c) k → blkA A k := by
 unfold subA
 split
 ·exact id
 ·rintro ⟨a, h, rfl⟩
  cases A with
  | none => cases h
  | some b =>
   simp only [atA, Option.map_some, Option.some.injEq] at h
   subst h
   refine ⟨b, rfl, ?_⟩
   unfold Addr.add
   split <;> rfl

theorem u8s_get {i : Nat} (hi : i < xs.length) : (u8s xs)[i]? = some (.int .u8 ((xs.getD i 0 : Nat) : Int)) := by simp [u8s, hi]
theorem getD_append (xs ys : List Nat) (i : Nat) (h : i < (xs ++ ys).length) : (xs ++ ys).getD i 0 = if i < xs.length then xs.getD i 0 else ys.getD (i - xs.length) 0 := by
 simp only [List.getD_eq_getElem?_getD, List.getElem?_append]
 split <;> rfl
theorem wt_app {B : Option Addr} (ty : TypeId) (ho : Wt w A c xs) (hb : Bs w B d ys) (hn : xs.length = n) (hm : ys.length = m) (hl : n + m ≤ 140737488355328) :
  ∃ A' c' w', (Builtin.append_ #[22, 22] ty #[.slice A n c, .slice B m d]).run Tryz.prog w = .ok (.slice A' (n + m) c') w' ∧ Wt w' A' c' (xs ++ ys) ∧ BelowX (blkA A) w w' ∧ (∀ k, blkA A' k → blkA A k ∨ w.heap.size ≤ k) := by
 subst hn hm
 obtain ⟨i, hi, hz, hs, hby⟩ := u8_parts
 have hb8 : ∀ x ∈ xs ++ ys, x < 256 := fun x hx => by
  rcases List.mem_append.1 hx with h | h
  ·exact ho.b8 x h
  ·exact hb.b8 x h
 have hle := ho.le
 rcases ho.row with ⟨hA, hc⟩ | ⟨g, off, cur, hA, hh, hsz, hx⟩
 ·subst hA hc
  obtain rfl : xs = [] := List.eq_nil_of_length_eq_zero (by omega)
  obtain ⟨A', c', w', hrun, h1, h2, h3, h4⟩ := app_run (base := w.heap.size) ty (Own.nil w _) hb rfl rfl hl (Nat.le_refl _)
  exact ⟨A', c', w', hrun, h1.wt, BelowX.of h2, fun k hk => .inr (h1.ge' k hk)⟩
 ·subst hA
  cases B with
  | none =>
   obtain rfl : ys = [] := by
    rcases hb.cells with h | ⟨b, off, h, _⟩
    ·exact h
    ·cases h
   refine ⟨some ⟨g, off, none⟩, c, w, ?_, by simpa using ho, BelowX.refl _ _, fun k hk => .inl hk⟩
   simp [Builtin.append_, run_underlying Tryz.underlying22, sizeOf, typeInfo, hi, Builtin.lenOf, Builtin.firstCells, hle, storeCells]
  | some ad =>
   have hcells : ∀ j u, (u8s ys)[j]? = some u → w.cell? (ad.add j) = some u := by
    intro j u hu
    obtain ⟨hj, rfl⟩ := oneCell_u8s_get hu
    rcases hb.cells with h | ⟨b, off, h, hc⟩
    ·subst h; simp at hj
    ·cases h
     have e : (⟨b, off, none⟩ : Addr).add j = ⟨b, off + j, none⟩ := by unfold Addr.add; split <;> simp_all
     rw [e]
     exact hc j hj
   by_cases hroom : xs.length + ys.length ≤ c
   ·have hfc := run_firstCells_some (P := Tryz.prog) w i.size ys.length ad ys.length d (u8s ys) (by rw [hs]; simp [u8s]) hcells
    rw [hs] at hfc
    have hst := run_storeCells_at (P := Tryz.prog) g (off + xs.length) 5 (u8s ys) 0 cur w hh (by rw [u8s_length]; omega) (u8s_one ys)
    simp only [Nat.add_zero] at hst
    refine ⟨some ⟨g, off, none⟩, c, w.setRow g (cur.toList.take (off + xs.length) ++ u8s ys ++ cur.toList.drop (off + xs.length + (u8s ys).length)).toArray, ?_, ?_, ?_, fun k hk => .inl hk⟩
    ·simp [Builtin.append_, run_underlying Tryz.underlying22, sizeOf, typeInfo, hi, Builtin.lenOf, hroom, hfc, Addr.add_lit, hs, hst]
    ·refine ⟨hb8, by rw [List.length_append]; omega, ho.max, .inr ⟨g, off, _, rfl, setRow_heap w g cur _ _ _ hh, ?_, fun j hj => ?_⟩⟩
     ·simp only [List.size_toArray, List.length_append, List.length_take, List.length_drop, Array.length_toList, u8s_length]
      omega
     ·rw [List.length_append] at hj
      rw [List.getElem?_toArray, getD_append _ _ _ (by rw [List.length_append]; exact hj)]
      have hcs : (cur.toList.take (off + xs.length)).length = off + xs.length := List.length_take_of_le (by rw [Array.length_toList]; exact Nat.le_trans (Nat.add_le_add_left hle _) hsz)
      by_cases hjx : j < xs.length
      ·rw [if_pos hjx, List.append_assoc, List.getElem?_append_left (by omega), List.getElem?_take, if_pos (by omega), Array.getElem?_toList]
       exact hx j hjx
      ·rw [if_neg hjx, List.append_assoc, List.getElem?_append_right (by omega), hcs, show off + j - (off + xs.length) = j - xs.length by omega, List.getElem?_append_left (by rw [u8s_length]; omega)]
       exact u8s_get (by omega)
    ·exact (chg_setRow (cur' := _) hh).mono (fun k _ hk => by rw [hk]; exact blkA_some.2 rfl)
   ·obtain ⟨v', w', hrun, h2, h3⟩ := run_append_arg_grows (P := Tryz.prog) w 22 ty 5 i (.int .u8 0) 1 1 Tryz.underlying22 hi hz hs hby rfl (by omega) ⟨g, off, none⟩ xs.length c (u8s xs) (by simp [u8s])
     (fun j u hu => by
      obtain ⟨hj, rfl⟩ := oneCell_u8s_get hu
      rw [Addr.add_lit]
      exact (cell_of_row w g (off + j) cur _ (0, 0) hh).trans (hx j hj)) ad ys.length d (u8s ys) (by simp [u8s]) hcells (by omega) (by unfold maxLen; omega) (by omega)
    rcases h2.2 with ⟨_, h0⟩ | ⟨g', cap, cur', hv, hg', _⟩
    ·omega
    ·subst hv
     have hO : Own w' w.heap.size (some ⟨g', 0, none⟩) cap (xs ++ ys) := ⟨by rw [u8s_append, List.length_append]; exact h2, hb8⟩
     exact ⟨_, _, w', hrun, hO.wt, ⟨h3.os, h3.tape, h3.output, h3.size, fun k hk _ => h3.block k hk (by simp)⟩, fun k hk => .inr (hO.ge' k hk)⟩
section
variable {o : Oper} {ev : Operand → Value} {w : World} {x y z : Operand} {T U t : TypeId} {g k : Nat}
theorem o_appW {B : Option Addr} (ho : o.op = .call { callee := .builtin .append, args := #[x, y], argTypes := #[22, 22] }) (hx : ev x = .slice A n c) (hy : ev y = .slice B m d)
  (hO : Wt w A c xs) (hB : Bs w B d ys) (hn : xs.length = n) (hm : ys.length = m) (hl : n + m ≤ 140737488355328) :
  ∃ v w', (execOp ev o).run Tryz.prog w = .ok (.value v) w' ∧ ∃ A' c', v = .slice A' (n + m) c' ∧ Wt w' A' c' (xs ++ ys) ∧ BelowX (blkA A) w w' ∧ (∀ k, blkA A' k → blkA A k ∨ w.heap.size ≤ k) := by
 obtain ⟨A', c', w', hrun, h1, h2, h3⟩ := wt_app o.type hO hB hn hm hl
 refine ⟨_, w', ?_, A', c', rfl, h1, h2, h3⟩
 simp only [execOp, ho, resolve, invoke, builtin, Sem.run_bind, Sem.run_pure, Result.andThen_ok, List.map_toArray, List.map_cons, List.map_nil, hx, hy, hrun]
end
end Go.Proofs.YtkhbihnnkflfkaaGreat
/-
 SLICES OF SLICES OF BYTES: rows of the call's own, appended to.
-/
namespace Go.Proofs.YtkhbihnnkflfkaaGreat
open Go.RowKit
set_option linter.unusedVariables false
set_option linter.unusedSimpArgs false
set_option maxRecDepth 100000

variable {T : TypeId} {w w' : World} {B B' base c d g k m n : Nat} {cur : Array Value} {A A2 : Option Addr} {xs : List Nat} {ps qs : List Part} {X : Nat → Prop}
structure KeptT (T : TypeId) (w w' : World) : Prop where
 size : w.heap.size ≤ w'.heap.size
 block : ∀ (k : Nat) (cur : Array Value) (T' : TypeId), w.heap[k]? = some (Obj.cells cur T' (0, 0)) → T' ≠ T → w'.heap[k]? = w.heap[k]?
theorem KeptT.blk (h : KeptT T w w') {U : TypeId} (hB : Blk w g cur U) (hT : U ≠ T) : Blk w' g cur U := (h.block g cur U hB hT).trans hB
theorem Own.keptT (h : Own w B A c xs) (hk : KeptT T w w') (hT : 5 ≠ T) : Own w' B A c xs := by
 refine ⟨⟨h.row.1, ?_⟩, h.b8⟩
 rcases h.row.2 with h0 | ⟨g, cap, cur, hv, hg, hh, r⟩
 ·exact .inl h0
 ·exact .inr ⟨g, cap, cur, hv, hg, hk.blk hh hT, r⟩
theorem Wt.keptT (h : Wt w A c xs) (hk : KeptT T w w') (hT : 5 ≠ T) : Wt w' A c xs := by
 refine ⟨h.b8, h.le, h.max, h.row.imp id ?_⟩
 rintro ⟨g, off, cur, hA, hh, r⟩
 exact ⟨g, off, cur, hA, hk.blk hh hT, r⟩

def RowS (w : World) (B : Nat) (A : Option Addr) (c : Nat) (ps : List Part) : Prop := w.ownsRow B 22 1 (.slice A ps.length c) ps.length (ps.map Part.val)
def AllOwn (w : World) (B : Nat) (ps : List Part) : Prop := ∀ p ∈ ps, Own w B p.A p.c p.xs
def AllBs (w : World) (ps : List Part) : Prop := ∀ p ∈ ps, Bs w p.A p.c p.xs
def blkP (ps : List Part) : Nat → Prop := fun k => ∃ p ∈ ps, blkA p.A k

theorem RowS.nil (w : World) (B : Nat) : RowS w B none 0 [] := World.ownsRow_nil w B _ _
theorem RowS.keep (h : RowS w B A c ps) (hb : KeptM (blkA A) w w') : RowS w' B A c ps := ownsRow_keep h hb
theorem RowS.lt (h : RowS w B A c ps) : Lt w (blkA A) := by
 intro k hk
 rcases h.2 with ⟨hv, _⟩ | ⟨g, cap, cur, hv, _, hh, _⟩
 ·simp only [Value.slice.injEq] at hv
  rw [hv.1] at hk; exact absurd hk blkA_none
 ·simp only [Value.slice.injEq] at hv
  rw [hv.1, blkA_some] at hk
  subst hk
  exact (Array.getElem?_eq_some_iff.1 hh).1
theorem RowS.ge' (h : RowS w B A c ps) : ∀ k, blkA A k → B ≤ k := by
 intro k hk
 rcases h.2 with ⟨hv, _⟩ | ⟨g, cap, cur, hv, hg, hh, _⟩
 ·simp only [Value.slice.injEq] at hv
  rw [hv.1] at hk; exact absurd hk blkA_none
 ·simp only [Value.slice.injEq] at hv
  rw [hv.1, blkA_some] at hk
  subst hk
  exact hg
theorem RowS.mono (h : RowS w B A c ps) (hb : B' ≤ B) : RowS w B' A c ps := by
 refine ⟨h.1, ?_⟩
 rcases h.2 with h0 | ⟨g, cap, cur, hv, hg, r⟩
 ·exact .inl h0
 ·exact .inr ⟨g, cap, cur, hv, Nat.le_trans hb hg, r⟩
theorem RowS.nx (h : RowS w B A c ps) (hb : Below w.heap.size w w') : RowS w' B A c ps := h.keep (kept_of hb h.lt)
theorem RowS.sepB (h : RowS w B A c ps) (hB : Blk w g cur T) (hT : T ≠ 22) : ¬ blkA A g := by
 intro hk
 rcases h.2 with ⟨hv, _⟩ | ⟨g', cap, cur', hv, hg, hh, _⟩
 ·simp only [Value.slice.injEq] at hv
  rw [hv.1] at hk; exact absurd hk blkA_none
 ·simp only [Value.slice.injEq] at hv
  rw [hv.1, blkA_some] at hk
  subst hk
  unfold Blk at hB
  rw [hh] at hB
  simp only [Option.some.injEq, Obj.cells.injEq] at hB
  exact hT hB.2.1.symm
theorem RowS.keptT (h : RowS w B A c ps) (hk : KeptT T w w') (hT : 22 ≠ T) : RowS w' B A c ps := by
 refine ⟨h.1, ?_⟩
 rcases h.2 with h0 | ⟨g, cap, cur, hv, hg, hh, r⟩
 ·exact .inl h0
 ·exact .inr ⟨g, cap, cur, hv, hg, hk.blk hh hT, r⟩
theorem RowS.at {i : Nat} (h : RowS w B A c ps) (hi : i < ps.length) : ∃ g cur, A = some ⟨g, 0, none⟩ ∧ Blk w g cur 22 ∧ cur[i]? = some (Part.at ps i).val := by
 rcases h.2 with ⟨hv, h0⟩ | ⟨g, cap, cur, hv, hg, hh, hle, hmax, hsz, htake⟩
 ·omega
 ·simp only [Value.slice.injEq] at hv
  obtain ⟨rfl, _, rfl⟩ := hv
  refine ⟨g, cur, rfl, hh, ?_⟩
  have h1 := congrArg (fun l : List Value => l[i]?) htake
  simp only [Nat.mul_one, List.getElem?_take, hi, if_true, Array.getElem?_toList] at h1
  rw [h1]
  simp [Part.at, hi]
theorem AllOwn.keep (h : AllOwn w B ps) (hb : KeptM (blkP ps) w w') : AllOwn w' B ps := fun p hp => (h p hp).keep (fun k hk => hb k ⟨p, hp, hk⟩)
theorem AllOwn.lt (h : AllOwn w B ps) : Lt w (blkP ps) := fun k ⟨p, hp, hk⟩ => (h p hp).lt k hk
theorem AllOwn.nx (h : AllOwn w B ps) (hb : Below w.heap.size w w') : AllOwn w' B ps := fun p hp => (h p hp).nx hb
theorem AllOwn.mono (h : AllOwn w B ps) (hb : B' ≤ B) : AllOwn w B' ps := fun p hp => (h p hp).mono hb
theorem AllOwn.bs (h : AllOwn w B ps) : AllBs w ps := fun p hp => (h p hp).bs
theorem AllOwn.keptT (h : AllOwn w B ps) (hk : KeptT T w w') (hT : 5 ≠ T) : AllOwn w' B ps := fun p hp => (h p hp).keptT hk hT
theorem AllOwn.app (h : AllOwn w B ps) (h2 : AllOwn w B qs) : AllOwn w B (ps ++ qs) := fun p hp => (List.mem_append.1 hp).elim (h p) (h2 p)
theorem AllBs.nx (h : AllBs w ps) (hb : Below w.heap.size w w') : AllBs w' ps := fun p hp => (h p hp).nx hb
theorem AllBs.app (h : AllBs w ps) (h2 : AllBs w qs) : AllBs w (ps ++ qs) := fun p hp => (List.mem_append.1 hp).elim (h p) (h2 p)

theorem RowS.keepM (h : RowS w B A c ps) (hb : BelowX X w w') (hs : Sep (blkA A) X) : RowS w' B A c ps := h.keep (hb.kept h.lt hs)
theorem AllOwn.keepM (h : AllOwn w B ps) (hb : BelowX X w w') (hs : Sep (blkP ps) X) : AllOwn w' B ps := h.keep (hb.kept h.lt hs)
theorem AllOwn.ge' (h : AllOwn w B ps) : ∀ k, blkP ps k → B ≤ k := fun k ⟨p, hp, hk⟩ => (h p hp).ge' k hk
theorem sl_info : (Tryz.prog.info? 22).map (fun i => (i.zero, i.size, i.bytes)) = some (some (.slice none 0 0), 1, 24) := by kernel_rfl
theorem sl_parts : ∃ i, Tryz.prog.info? 22 = some i ∧ i.zero = some (.slice none 0 0) ∧ i.size = 1 ∧ i.bytes = 24 := by
 have h := sl_info
 cases hi : Tryz.prog.info? 22 with
 | none => rw [hi] at h; cases h
 | some i =>
  rw [hi] at h
  simp only [Option.map_some, Option.some.injEq, Prod.mk.injEq] at h
  exact ⟨i, rfl, h.1, h.2.1, h.2.2⟩
theorem val_one (ps : List Part) : ∀ u ∈ ps.map Part.val, u.oneCell' = true := by
 intro u hu
 obtain ⟨y, _, rfl⟩ := List.mem_map.1 hu
 rfl
theorem rows_app {ad : Addr} (ty : TypeId) (ho : RowS w base A c ps) (hcells : ∀ j u, (qs.map Part.val)[j]? = some u → w.cell? (ad.add j) = some u) (hn : ps.length = n) (hm : qs.length = m) (hl : n + m ≤ 1000000000000) (hbase : base ≤ w.heap.size) :
  ∃ A' c' w', (Builtin.append_ #[82, 82] ty #[.slice A n c, .slice (some ad) m d]).run Tryz.prog w = .ok (.slice A' (n + m) c') w' ∧ RowS w' base A' c' (ps ++ qs) ∧ Below base w w' ∧ KeptT 22 w w' ∧ BelowX (blkA A) w w' ∧ (∀ k, blkA A' k → blkA A k ∨ w.heap.size ≤ k) := by
 subst hn hm
 obtain ⟨i, hi, hz, hs, hby⟩ := sl_parts
 obtain ⟨v', w', hrun, h2, h3, _, h5⟩ := run_append_own_at (P := Tryz.prog) w base 82 ty 22 i (.slice none 0 0) 1 24 Tryz.underlying82 hi hz hs hby rfl (by omega) (.slice A ps.length c) ps.length (ps.map Part.val) ho ad qs.length d (qs.map Part.val) (by simp) hcells (val_one qs) (by unfold maxLen; omega) (by omega) hbase
 have hv : ∃ A' c', v' = .slice A' (ps.length + qs.length) c' := by
  rcases h2.2 with ⟨h1, h2⟩ | ⟨g, cap, cur, h1, _⟩
  ·exact ⟨none, 0, by rw [h2]; exact h1⟩
  ·exact ⟨_, _, h1⟩
 obtain ⟨A', c', rfl⟩ := hv
 have h2' : RowS w' base A' c' (ps ++ qs) := by unfold RowS; rw [List.map_append, List.length_append]; exact h2
 have hown : ∀ k, (Value.slice A ps.length c).ownBlock = some k ↔ blkA A k := by
  intro k
  cases A with
  | none => simp [Value.ownBlock, blkA]
  | some a => simp [Value.ownBlock, blkA]
 have hX : BelowX (blkA A) w w' := ⟨h3.os, h3.tape, h3.output, h3.size, fun k hk hx => h3.block k hk (fun e => hx ((hown k).1 e.symm))⟩
 refine ⟨A', c', w', hrun, h2', hX.below (Below.refl _ _) hbase ho.ge', ⟨h3.size, fun k cur T' hk hT => ?_⟩, hX, fun k hk => ?_⟩
 ·exact hX.block k (Array.getElem?_eq_some_iff.1 hk).1 (ho.sepB hk hT)
 ·rcases h5 with h5 | h5
  ·left
   obtain ⟨a, rfl, rfl⟩ := hk
   exact (hown _).1 h5.symm
  ·right
   obtain ⟨a, rfl, rfl⟩ := hk
   simp only [Value.ownBlock, Option.some.injEq] at h5
   omega
section
variable {o : Oper} {ev : Operand → Value} {w : World} {x y z : Operand} {T U t : TypeId} {g k : Nat}
end
end Go.Proofs.YtkhbihnnkflfkaaGreat
/-
 OPERATIONS: two bytes as a number; make of any length; copy behind an offset; structs.
-/
namespace Go.Proofs.YtkhbihnnkflfkaaGreat
open Go.RowKit
set_option linter.unusedVariables false
set_option linter.unusedSimpArgs false
set_option maxRecDepth 100000
variable {base c m n : Nat} {r s : Bool} {xs : List Nat} {A : Option Addr} {vs : List Value}
def TupN (B n : Nat) (xs : List Nat) (r : Nat) (w : World) (v : Value) : Prop := ∃ A c, v = .tuple #[.slice A n c, .int .i64 ((r : Nat) : Int)] ∧ Own w B A c xs
theorem stTup {B r : Nat} : StP (TupN B n xs r) := fun w w' v ⟨A, c, hv, hO⟩ hb => ⟨A, c, hv, hO.nx hb⟩
section
variable {o : Oper} {ev : Operand → Value} {w : World} {x y z : Operand} {T U t : TypeId} {g k : Nat}
theorem o_st8X {i v : Nat} (ho : o.op = .store t x y) (hx : ev x = .pointer (atA A i)) (hy : ev y = .int .u8 (v : Int)) (hO : Own w base A c xs) (hi : i < xs.length) (hv : v < 256) (ht : IsOne t) :
  ∃ w', (execOp ev o).run Tryz.prog w = .ok .skip w' ∧ (Own w' base A c (xs.set i v) ∧ BelowX (blkA A) w w') := by
 obtain ⟨g, rfl, hg, hlt, hcell, hfz, hset⟩ := hO.at (by omega)
 obtain ⟨cur, hB, hcur⟩ := hO.blk (by omega)
 have hk : i < cur.size := (Array.getElem?_eq_some_iff.1 (hcur i hi)).1
 have ea : atA (some ⟨g, 0, none⟩) i = some ⟨g, i, none⟩ := by simp [atA, Addr.add_lit]
 rw [ea] at hx
 obtain ⟨_, h2⟩ := one_runs ht w
 have hst := run_storeCells_at (P := Tryz.prog) g i 5 [Value.int .u8 (v : Int)] 0 cur w hB (by simp; omega) (by simp [Value.oneCell'])
 have hs : (Instr.sureAddr (ev x)).run Tryz.prog w = .ok ⟨g, i, none⟩ w := by rw [hx]; rfl
 simp only [Nat.add_zero] at hst
 have e : cur.toList.take i ++ [Value.int .u8 (v : Int)] ++ cur.toList.drop (i + [Value.int .u8 (v : Int)].length) = cur.toList.set i (.int .u8 (v : Int)) := by
  rw [List.set_eq_take_append_cons_drop, if_pos (by simpa using hk)]; simp
 rw [e, ← Array.toList_setIfInBounds, Array.toArray_toList] at hst
 have hs2 := setCell_eq_setRow w g i cur 5 (0, 0) (.int .u8 (v : Int)) hB
 refine ⟨w.setRow g (cur.setIfInBounds i (.int .u8 (v : Int))), ?_, by rw [← hs2]; exact hset i v hi hv, (chg_setRow hB).mono (fun k _ hk => by rw [hk]; exact blkA_some.2 rfl)⟩
 have hvc : (Value.int .u8 (v : Int)).cells = #[.int .u8 (v : Int)] := rfl
 simp only [execOp, ho, Instr.storeAt, storeVar, Sem.run_bind, hs, Result.andThen_ok, h2, hy, hvc, List.size_toArray, List.length_cons, List.length_nil, Nat.zero_add, ne_eq, not_true, if_false, Sem.run_pure, hst]
theorem ba_beq (s r : ByteArray) : (s.toList == r.toList) = decide (s = r) := by
 rw [ByteArray.toList_eq, ByteArray.toList_eq]
 cases s with | mk a => cases r with | mk b =>
 by_cases h : a = b
 ·subst h; simp
 ·rw [decide_eq_false (by simpa using h)]; simpa using fun e => h (Array.ext' e)
theorem o_neSD {s r : ByteArray} (ho : o.op = .binOp .neq T x y U) (hx : ev x = .string s) (hy : ev y = .string r) : (execOp ev o).run Tryz.prog w = .ok (.value (.bool (!decide (s = r)))) w := by
 rw [← ba_beq]
 simp [execOp, ho, hx, hy, go_sem]
theorem o_boxL {cs : Array Value} (ho : o.op = .box t x) (hx : ev x = .agg cs) :
  ∃ u w', (execOp ev o).run Tryz.prog w = .ok (.value u) w' ∧ ∃ g, u = .pointer (some ⟨g, 0, none⟩) ∧ w.heap.size ≤ g ∧ Blk w' g cs t ∧ Below w.heap.size w w' := by
 refine ⟨_, w.alloc (.cells cs t), ?_, w.heap.size, rfl, Nat.le_refl _, Blk.new w _ _, (Below.refl _ _).alloc (Nat.le_refl _) _⟩
 have hv : (Value.agg cs).cells = cs := by simp [Value.cells]
 simp only [execOp, ho, hx, Instr.box, newVar, newRow, hv, Sem.run_bind, Sem.run_pure, run_newObj, Result.andThen_ok]
 rfl
theorem o_storeL {l : List Value} (ho : o.op = .store t x y) (hx : ev x = .pointer (some ⟨g, 0, none⟩)) (hy : ev y = .agg vs.toArray) (hB : Blk w g l.toArray T) (ht : IsAgg t vs.length) (hl : l.length = vs.length) (h1 : ∀ v ∈ vs, v.oneCell' = true) :
  ∃ w', (execOp ev o).run Tryz.prog w = .ok .skip w' ∧ Blk w' g vs.toArray T ∧ BelowX (fun k => k = g) w w' := by
 obtain ⟨w', h2, h3, h4⟩ := o_storeA ho hx hy hB ht (by rw [hl]; omega) h1
 refine ⟨w', h2, ?_, h4⟩
 have e : l.take 0 ++ vs ++ l.drop (0 + vs.length) = vs := by
  rw [Nat.zero_add, ← hl, List.drop_length]; simp
 rw [e] at h3
 exact h3
end
end Go.Proofs.YtkhbihnnkflfkaaGreat
