/-
 BYTES: slices that read as bytes, slices of the call's own; strings of them; append.
-/
import Derived.Test.YtkhbihnnkflfkaaGreatBase
import Derived.Laws.BytesArg
import Derived.Maps.AppendAt
import Derived.Deep.AppendLies
import Derived.OwnWalk
import Derived.Laws.CopyOwn
import Derived.StillTailTactics
namespace Go.Proofs.YtkhbihnnkflfkaaGreat
open Go.RowKit
set_option maxRecDepth 100000
set_option linter.unusedVariables false
set_option linter.unusedSimpArgs false

variable {xs ys : List Nat} {w w' : World} {A B : Option Addr} {base c d g j m n : Nat} {o : Oper} {a : Act} {v : Value}
theorem hidd {p : Prop} (h : p) : Hid p := h

theorem getD_lt (h : ∀ x ∈ xs, x < 256) (i : Nat) : xs.getD i 0 < 256 := by
 rw [List.getD_eq_getElem?_getD]
 cases hx : xs[i]? with
 | none => simp
 | some v => exact h v (List.mem_of_getElem? hx)

theorem eq_of_getD (hl : xs.length = ys.length) (h : ∀ i, i < xs.length → xs.getD i 0 = ys.getD i 0) : xs = ys := by
 apply List.ext_getElem hl
 intro i h1 h2
 have := h i h1
 simpa [h1, h2] using this

theorem Bs.at (h : Bs w A c xs) {i : Nat} (hi : i < xs.length) : ∃ b off, A = some ⟨b, off, none⟩ ∧ w.cell? ⟨b, off + i, none⟩ = some (.int .u8 ((xs.getD i 0 : Nat) : Int)) := by
 rcases h.cells with h0 | ⟨b, off, hA, hc⟩
 ·subst h0; simp at hi
 ·exact ⟨b, off, hA, hc i hi⟩

theorem Bs_of_Blk (h : Blk w g (u8s ys).toArray 5) (h8 : ∀ y ∈ ys, y < 256) (hm : ys.length ≤ 9223372036854775807) : Bs w (some ⟨g, 0, none⟩) ys.length ys := by
 refine ⟨Nat.le_refl _, by unfold maxLen; omega, h8, .inr ⟨g, 0, rfl, fun i hi => ?_⟩⟩
 have := h.cell i
 rw [Nat.zero_add]
 rw [this]
 simp [u8s, hi]

def padTo (n : Nat) (xs : List Nat) : List Nat := xs.take n ++ List.replicate (n - xs.length) 0

theorem padTo_length (n : Nat) (xs : List Nat) : (padTo n xs).length = n := by simp [padTo]; omega

theorem padTo_lt (h : ∀ x ∈ xs, x < 256) : ∀ x ∈ padTo n xs, x < 256 := by
 intro x hx
 rcases List.mem_append.1 hx with h1 | h1
 ·exact h x (List.mem_of_mem_take h1)
 ·have := (List.mem_replicate.1 h1).2; omega

theorem padTo_splice (n : Nat) (xs : List Nat) : splice (List.replicate n (Value.int .u8 0)) 0 (u8s (xs.take n)) = u8s (padTo n xs) := by
 unfold padTo
 rw [u8s_append]
 simp [splice, u8s, List.map_take]
 omega

theorem mk32z (w : World) : (Instr.makeSlice 22 (.int .i64 32) (.int .i64 32)).run Tryz.prog w = .ok (.slice (some ⟨w.heap.size, 0, none⟩) 32 32) (w.alloc (.cells (List.replicate 32 (Value.int .u8 0)).toArray 5)) := by kernel_rfl

def strB (xs : List Nat) : ByteArray := ⟨(xs.map UInt8.ofNat).toArray⟩

theorem strB_inj (hx : ∀ x ∈ xs, x < 256) (hy : ∀ y ∈ ys, y < 256) : (strB xs = strB ys) = (xs = ys) := by
 apply propext
 constructor
 ·intro h
  have h1 : xs.map UInt8.ofNat = ys.map UInt8.ofNat := by
   have := congrArg (fun b : ByteArray => b.data.toList) h
   simpa [strB] using this
  clear h
  induction xs generalizing ys with
  | nil => cases ys with
   | nil => rfl
   | cons y ys => simp at h1
  | cons x xs ih =>
   cases ys with
   | nil => simp at h1
   | cons y ys =>
    simp only [List.map_cons, List.cons.injEq] at h1
    have hxy : x = y := by
     have h2 := congrArg UInt8.toNat h1.1
     have a1 := hx x (by simp)
     have a2 := hy y (by simp)
     simp only [UInt8.toNat_ofNat'] at h2
     omega
    rw [hxy, ih (fun x hx' => hx x (by simp [hx'])) (fun y hy' => hy y (by simp [hy'])) h1.2]
 ·intro h; rw [h]

theorem strB_nums (xs : List Nat) : strOfNums (xs.map fun n : Nat => (n : Int)) = strB xs := by
 simp only [strOfNums, strB, List.map_map]
 rfl

theorem conv_str (h : Bs w A c xs) : (convert 22 9 (.slice A xs.length c)).run Tryz.prog w = .ok (.string (strB xs)) w := by
 by_cases h0 : xs = []
 ·subst h0
  cases A with
  | none => exact run_convert_bytes_nil w _ 5 (by kernel_rfl) (by kernel_rfl) 0 c _ (by kernel_rfl)
  | some a =>
   rw [run_convert_bytes_string w _ _ 5 _ _ _ (by kernel_rfl) (by kernel_rfl) (by kernel_rfl)]
   exact run_bytesToString w a 0 c [] rfl
 ·rcases h.cells with h1 | ⟨b, off, rfl, hc⟩
  ·exact absurd h1 h0
  ·rw [← strB_nums]
   refine run_convert_bytes_arg w _ 5 (by kernel_rfl) (by kernel_rfl) b off xs.length c _ (by simp) (fun i hi => ?_) _ (by kernel_rfl)
   rw [hc i hi]
   congr 2
   simp [hi]

def BsV (xs : List Nat) (w : World) (v : Value) : Prop := ∃ A c, v = .slice A xs.length c ∧ Bs w A c xs

theorem BsV.old (h : BsV xs w v) (hb : Below w.heap.size w w') : BsV xs w' v := by
 obtain ⟨A, c, hv, hB⟩ := h
 exact ⟨A, c, hv, hB.below hb⟩

theorem u8_xor_nat (a b : Nat) (ha : a < 256) (hb : b < 256) : bits .xor .u8 (a : Int) (b : Int) = ((a ^^^ b : Nat) : Int) := by
 have h := Nat.xor_lt_two_pow (n := 8) ha hb
 have h' : (a ^^^ b) < 256 := h
 rw [u8_xor _ _ (by omega) (by omega) (by omega) (by omega)]
 simp

theorem u8_info : (Tryz.prog.info? 5).map (fun i => (i.zero, i.size, i.bytes)) = some (some (.int .u8 0), 1, 1) := by kernel_rfl

theorem u8_parts : ∃ i, Tryz.prog.info? 5 = some i ∧ i.zero = some (.int .u8 0) ∧ i.size = 1 ∧ i.bytes = 1 := by
 have h := u8_info
 cases hi : Tryz.prog.info? 5 with
 | none => rw [hi] at h; cases h
 | some i =>
  rw [hi] at h
  simp only [Option.map_some, Option.some.injEq, Prod.mk.injEq] at h
  exact ⟨i, rfl, h.1, h.2.1, h.2.2⟩

theorem u8s_one (ys : List Nat) : ∀ u ∈ u8s ys, u.oneCell' = true := by
 intro u hu
 obtain ⟨y, _, rfl⟩ := List.mem_map.1 hu
 rfl

theorem oneCell_u8s_get {u : Value} (h : (u8s ys)[j]? = some u) : j < ys.length ∧ u = .int .u8 ((ys.getD j 0 : Nat) : Int) := by
 simp only [u8s, List.getElem?_map, Option.map_eq_some_iff] at h
 obtain ⟨y, hy, rfl⟩ := h
 have hj := (List.getElem?_eq_some_iff.1 hy).1
 refine ⟨hj, ?_⟩
 simp [List.getD_eq_getElem?_getD, hy]

theorem app_run (ty : TypeId) (ho : Own w base A c xs) (hb : Bs w B d ys) (hn : xs.length = n) (hm : ys.length = m) (hl : n + m ≤ 140737488355328) (hbase : base ≤ w.heap.size) :
  ∃ A' c' w', (Builtin.append_ #[22, 22] ty #[.slice A n c, .slice B m d]).run Tryz.prog w = .ok (.slice A' (n + m) c') w' ∧ Own w' base A' c' (xs ++ ys) ∧ Below base w w' ∧
   w.grownBy w' (Value.slice A n c).ownBlock ∧ ((Value.slice A' (n + m) c').ownBlock = (Value.slice A n c).ownBlock ∨ (Value.slice A' (n + m) c').ownBlock = some w.heap.size) := by
 subst hn hm
 obtain ⟨i, hi, hz, hs, hby⟩ := u8_parts
 have hv : ∀ (v' : Value) (w' : World), w'.ownsRow base 5 1 v' (xs.length + ys.length) (u8s xs ++ u8s ys) → ∃ A' c', v' = .slice A' (xs.length + ys.length) c' := by
  intro v' w' h
  rcases h.2 with ⟨h1, h2⟩ | ⟨g, cap, cur, h1, _⟩
  ·have : xs.length + ys.length = 0 := h2
   exact ⟨none, 0, by rw [this]; exact h1⟩
  ·exact ⟨_, _, h1⟩
 have hb8 : ∀ x ∈ xs ++ ys, x < 256 := fun x hx => by
  rcases List.mem_append.1 hx with h | h
  ·exact ho.b8 x h
  ·exact hb.b8 x h
 cases B with
 | none =>
  have h0 : ys = [] := by
   rcases hb.cells with h | ⟨b, off, h, _⟩
   ·exact h
   ·cases h
  subst h0
  refine ⟨A, c, w, ?_, by simpa using ho, Below.refl _ _, World.grownBy.refl w _, .inl rfl⟩
  rcases ho.row.2 with ⟨h1, h2⟩ | ⟨g, cap, cur, h1, _, _, hnc, _⟩
  ·simp only [Value.slice.injEq] at h1
   obtain ⟨rfl, h3, rfl⟩ := h1
   simp [Builtin.append_, run_underlying Tryz.underlying22, sizeOf, typeInfo, hi, Builtin.lenOf, Builtin.firstCells, h2]
  ·simp only [Value.slice.injEq] at h1
   obtain ⟨rfl, _, rfl⟩ := h1
   simp [Builtin.append_, run_underlying Tryz.underlying22, sizeOf, typeInfo, hi, Builtin.lenOf, Builtin.firstCells, hnc, storeCells]
 | some ad =>
  have hcells : ∀ j u, (u8s ys)[j]? = some u → w.cell? (ad.add j) = some u := by
   intro j u hu
   obtain ⟨hj, rfl⟩ := oneCell_u8s_get hu
   rcases hb.cells with h | ⟨b, off, h, hc⟩
   ·subst h; simp at hj
   ·cases h
    have e : (⟨b, off, none⟩ : Addr).add j = ⟨b, off + j, none⟩ := by unfold Addr.add; split <;> simp_all
    rw [e]
    exact hc j hj
  obtain ⟨v', w', hrun, h2, h3, _, h5⟩ := run_append_own_at (P := Tryz.prog) w base 22 ty 5 i (.int .u8 0) 1 1 Tryz.underlying22 hi hz hs hby rfl (by omega) (.slice A xs.length c) xs.length (u8s xs) ho.row ad ys.length d (u8s ys) (by simp [u8s]) hcells (u8s_one ys) (by unfold maxLen; omega) (by omega) hbase
  obtain ⟨A', c', rfl⟩ := hv v' w' h2
  have h2' : w'.ownsRow base 5 1 (.slice A' (xs ++ ys).length c') (xs ++ ys).length (u8s (xs ++ ys)) := by rw [u8s_append, List.length_append]; exact h2
  refine ⟨A', c', w', hrun, ⟨h2', hb8⟩, (Below.refl _ _).grown h3 hbase (fun k hk => ?_), h3, h5⟩
  rcases ho.row.2 with ⟨h1, _⟩ | ⟨g, cap, cur, h1, hg, _⟩
  ·rw [h1] at hk; simp [Value.ownBlock] at hk
  ·rw [h1] at hk; simp [Value.ownBlock] at hk; omega

theorem wpList_app {ops : Array Oper} {rest : List Oper} {Q : Exit → Act → World → Prop} (s x : Operand) (hgd : o.guard = none)
  (hop : o.op = .call { callee := .builtin .append, args := #[s, x], argTypes := #[22, 22] }) (hs : a.eval s = .slice A n c) (hx : a.eval x = .slice B m d)
  (ho : Own w base A c xs) (hb : Bs w B d ys) (hn : xs.length = n) (hm : ys.length = m) (hl : n + m ≤ 140737488355328) (hbase : base ≤ w.heap.size)
  (h : ∀ A' c' w', Own w' base A' c' (xs ++ ys) → Below base w w' → w.grownBy w' (Value.slice A n c).ownBlock → ((Value.slice A' (n + m) c').ownBlock = (Value.slice A n c).ownBlock ∨ (Value.slice A' (n + m) c').ownBlock = some w.heap.size) →
   wpList Tryz.prog ops Q rest (a.put o.dst (.slice A' (n + m) c')) w') : wpList Tryz.prog ops Q (o :: rest) a w := by
 obtain ⟨A', c', w', hrun, h1, h2, h3, h4⟩ := app_run o.type ho hb hn hm hl hbase
 refine wpList_plain hgd fun K hK => ?_
 unfold Oper.wp execOp
 simp only [hop, resolve, invoke, builtin, Sem.run_bind, Sem.run_pure, Result.andThen_ok, List.map_toArray, List.map_cons, List.map_nil, hs, hx, hrun]
 exact hK _ _ (h A' c' w' h1 h2 h3 h4)

theorem Own.empty (hB : Blk w g #[] 5) (hg : base ≤ g) : Own w base (some ⟨g, 0, none⟩) 0 [] :=
 ⟨⟨by simp [u8s], .inr ⟨g, 0, #[], rfl, hg, hB, Nat.le_refl _, by simp [maxLen], rfl, by simp [u8s]⟩⟩, by simp⟩

theorem eql_nil (A : Option Addr) (n c : Nat) (w : World) : (binOp .eql 22 (.slice A n c) (.slice none 0 0)).run Tryz.prog w = .ok (.bool A.isNone) w := by
 cases A <;> kernel_rfl

theorem Own.at (h : Own w base A c xs) (h0 : 0 < xs.length) : ∃ g, A = some ⟨g, 0, none⟩ ∧ base ≤ g ∧ g < w.heap.size ∧
  (∀ i, i < xs.length → w.cell? ⟨g, i, none⟩ = some (.int .u8 ((xs.getD i 0 : Nat) : Int))) ∧ (∀ i, w.frozen? ⟨g, i, none⟩ = false) ∧
  ∀ (i v : Nat), i < xs.length → v < 256 → Own (w.setCell ⟨g, i, none⟩ (.int .u8 (v : Int))) base A c (xs.set i v) := by
 rcases h.row.2 with ⟨hv, hn⟩ | ⟨g, cap, cur, hv, hg, hh, hle, hmax, hsz, htake⟩
 ·omega
 ·simp only [Value.slice.injEq] at hv
  obtain ⟨rfl, _, rfl⟩ := hv
  refine ⟨g, rfl, hg, (Array.getElem?_eq_some_iff.1 hh).1, fun i hi => ?_, fun i => (Blk.free hh i), fun i v hi hv => ⟨⟨by simp [u8s], .inr ⟨g, c, cur.setIfInBounds i (.int .u8 (v : Int)), by simp, hg, Blk.set hh i _, by simpa using hle, hmax, by simpa using hsz, ?_⟩⟩, ?_⟩⟩
  ·have := h.row.cells (g := g) rfl i (.int .u8 ((xs.getD i 0 : Nat) : Int)) (by simp [u8s, hi])
   simpa [Addr.add_lit] using this
  ·rw [Array.toList_setIfInBounds, List.length_set, List.take_set, htake]
   simp [u8s, List.map_set]
  ·intro x hx
   rcases List.mem_or_eq_of_mem_set hx with h1 | h1
   ·exact h.b8 x h1
   ·rw [h1]; exact hv

theorem and_lt (z m : Nat) (h : z < 256) : z &&& m < 256 := Nat.lt_of_le_of_lt Nat.and_le_left h

theorem fin256 {p : Nat → Prop} (h : ∀ k : Fin 256, p k.val) (z : Nat) (hz : z < 256) : p z := h ⟨z, hz⟩

def OwnV (B : Nat) (xs : List Nat) (w : World) (v : Value) : Prop := ∃ A c, v = .slice A xs.length c ∧ Own w B A c xs

theorem OwnV.old {B : Nat} (h : OwnV B xs w v) (hb : Below w.heap.size w w') : OwnV B xs w' v := by
 obtain ⟨A, c, hv, hO⟩ := h
 exact ⟨A, c, hv, hO.below hb⟩

theorem Own.of_blk {B : Nat} (h : Blk w g (u8s xs).toArray 5) (hg : B ≤ g) (h8 : ∀ x ∈ xs, x < 256) (hl : xs.length ≤ 9223372036854775807) : Own w B (some ⟨g, 0, none⟩) xs.length xs :=
 ⟨⟨by simp [u8s], .inr ⟨g, xs.length, (u8s xs).toArray, rfl, hg, h, Nat.le_refl _, by unfold maxLen; omega, by simp [u8s], by rw [List.toList_toArray, Nat.mul_one]; exact List.take_of_length_le (by simp [u8s])⟩⟩, h8⟩

theorem Own.blk (h : Own w base (some ⟨g, 0, none⟩) c xs) (h0 : 0 < xs.length) : ∃ cur, Blk w g cur 5 ∧ ∀ i, i < xs.length → cur[i]? = some (.int .u8 ((xs.getD i 0 : Nat) : Int)) := by
 rcases h.row.2 with ⟨hv, hn⟩ | ⟨g', cap, cur, hv, hg, hh, _⟩
 ·omega
 ·simp only [Value.slice.injEq, Option.some.injEq, Addr.mk.injEq, and_true] at hv
  obtain ⟨rfl, _⟩ := hv
  refine ⟨cur, hh, fun i hi => ?_⟩
  obtain ⟨g2, hg2, _, _, hc, _⟩ := h.at h0
  simp only [Option.some.injEq, Addr.mk.injEq, and_true] at hg2
  subst hg2
  rw [← hc i hi]
  exact (Blk.cell hh i).symm

theorem ret_int {k : IntKind} {a b : Int} (h : a = b) : Ending.returned (.int k a) = .returned (.int k b) := by rw [h]

theorem Bs.one {v : Nat} (h : v < 256) : Bs (w.alloc (.cells #[.int .u8 (v : Int)] 5)) (some ⟨w.heap.size, 0, none⟩) 1 [v] :=
 ⟨by simp, by simp [maxLen], by intro x hx; rw [List.mem_singleton.1 hx]; exact h, .inr ⟨w.heap.size, 0, rfl, fun i hi => by
  have h0 : i = 0 := by simpa using hi
  subst h0
  exact (Blk.new w _ _).cell 0⟩⟩

theorem Own.ge (h : Own w base (some ⟨g, 0, none⟩) c xs) (h0 : 0 < xs.length) : base ≤ g ∧ g < w.heap.size := by
 obtain ⟨g', hg, h1, h2, _⟩ := h.at h0
 simp only [Option.some.injEq, Addr.mk.injEq, and_true] at hg
 subst hg
 exact ⟨h1, h2⟩

theorem Bs.set_other {g' : Nat} (h : Bs w (some ⟨g, 0, none⟩) c xs) (hne : g ≠ g') : Bs (w.setCell ⟨g', j, none⟩ v) (some ⟨g, 0, none⟩) c xs := by
 refine ⟨h.le, h.max, h.b8, ?_⟩
 rcases h.cells with h0 | ⟨b, off, hA, hc⟩
 ·exact .inl h0
 ·simp only [Option.some.injEq, Addr.mk.injEq, and_true] at hA
  obtain ⟨rfl, rfl⟩ := hA
  refine .inr ⟨g, 0, rfl, fun i hi => ?_⟩
  rw [← hc i hi]
  unfold World.cell?
  rw [Below.heap_setCell w _ _ _ hne]

theorem Blk.grown {cur : Array Value} {T : TypeId} (h : Blk w g cur T) (ho : Own w base A c xs) (hg : w.grownBy w' (Value.slice A n c).ownBlock) (hT : T ≠ 5) : Blk w' g cur T := by
 refine (hg.block g h.lt (fun e => ?_)).trans h
 rcases ho.row.2 with ⟨hv, _⟩ | ⟨k, cap, cur', hv, _, hh, _⟩
 ·simp only [Value.slice.injEq] at hv
  obtain ⟨rfl, _⟩ := hv
  cases e
 ·simp only [Value.slice.injEq] at hv
  obtain ⟨rfl, _⟩ := hv
  cases e
  unfold Blk at h
  rw [hh] at h
  simp only [Option.some.injEq, Obj.cells.injEq] at h
  exact hT h.2.1.symm

theorem xor_zero (a b : Nat) : a ^^^ b = 0 ↔ a = b := by
 constructor
 ·intro h
  apply Nat.eq_of_testBit_eq
  intro i
  have h1 := congrArg (fun n => n.testBit i) h
  simp only [Nat.testBit_xor, Nat.zero_testBit] at h1
  revert h1
  cases a.testBit i <;> cases b.testBit i <;> simp
 ·rintro rfl; exact Nat.xor_self a

end Go.Proofs.YtkhbihnnkflfkaaGreat
