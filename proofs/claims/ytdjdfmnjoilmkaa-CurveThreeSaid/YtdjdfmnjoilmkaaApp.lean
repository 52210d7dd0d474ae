/-
  append of bytes onto a slice of the call's own; slices.Clone.
-/
import Derived.Test.YtdjdfmnjoilmkaaStr
import Derived.Maps.AppendAt
import Derived.Deep.AppendLies
import Derived.OwnWalk
namespace Go.Proofs.Ytdjdfmnjoilmkaa
open Go.RowKit
set_option linter.unusedVariables false
set_option linter.unusedSimpArgs false

theorem u8_info : (Try.prog.info? 5).map (fun i => (i.zero, i.size, i.bytes)) = some (some (.int .u8 0), 1, 1) := by kernel_rfl
theorem u8_parts : ∃ i, Try.prog.info? 5 = some i ∧ i.zero = some (.int .u8 0) ∧ i.size = 1 ∧ i.bytes = 1 := by
  have h := u8_info
  cases hi : Try.prog.info? 5 with
  | none => rw [hi] at h; cases h
  | some i =>
    rw [hi] at h
    simp only [Option.map_some, Option.some.injEq, Prod.mk.injEq] at h
    exact ⟨i, rfl, h.1, h.2.1, h.2.2⟩

theorem u8s_one (ys : List Nat) : ∀ u ∈ u8s ys, u.oneCell' = true := by
  intro u hu
  obtain ⟨y, _, rfl⟩ := List.mem_map.1 hu
  rfl

theorem oneCell_u8s_get {ys : List Nat} {j : Nat} {u : Value} (h : (u8s ys)[j]? = some u) : j < ys.length ∧ u = .int .u8 ((ys.getD j 0 : Nat) : Int) := by
  simp only [u8s, List.getElem?_map, Option.map_eq_some_iff] at h
  obtain ⟨y, hy, rfl⟩ := h
  have hj := (List.getElem?_eq_some_iff.1 hy).1
  refine ⟨hj, ?_⟩
  simp [List.getD_eq_getElem?_getD, hy]

/-- What append comes to. -/
theorem app_run {w : World} {base : Nat} {A B : Option Addr} {c d n m : Nat} {xs ys : List Nat} (ty : TypeId) (ho : Own w base A c xs) (hb : Bs w B d ys) (hn : xs.length = n) (hm : ys.length = m) (hl : n + m ≤ 140737488355328) (hbase : base ≤ w.heap.size) :
    ∃ A' c' w', (Builtin.append_ #[32, 32] ty #[.slice A n c, .slice B m d]).run Try.prog w = .ok (.slice A' (n + m) c') w' ∧ Own w' base A' c' (xs ++ ys) ∧ Below base w w' ∧
      w.grownBy w' (Value.slice A n c).ownBlock ∧ ((Value.slice A' (n + m) c').ownBlock = (Value.slice A n c).ownBlock ∨ (Value.slice A' (n + m) c').ownBlock = some w.heap.size) := by
  subst hn hm
  obtain ⟨i, hi, hz, hs, hby⟩ := u8_parts
  have hv : ∀ (v' : Value) (w' : World), w'.ownsRow base 5 1 v' (xs.length + ys.length) (u8s xs ++ u8s ys) → ∃ A' c', v' = .slice A' (xs.length + ys.length) c' := by
    intro v' w' h
    rcases h.2 with ⟨h1, h2⟩ | ⟨g, cap, cur, h1, _⟩
    · have : xs.length + ys.length = 0 := h2
      exact ⟨none, 0, by rw [this]; exact h1⟩
    · exact ⟨_, _, h1⟩
  have hb8 : ∀ x ∈ xs ++ ys, x < 256 := fun x hx => by
    rcases List.mem_append.1 hx with h | h
    · exact ho.b8 x h
    · exact hb.b8 x h
  cases B with
  | none =>
    have h0 : ys = [] := by
      rcases hb.cells with h | ⟨b, off, h, _⟩
      · exact h
      · cases h
    subst h0
    refine ⟨A, c, w, ?_, by simpa using ho, Below.refl _ _, World.grownBy.refl w _, .inl rfl⟩
    rcases ho.row.2 with ⟨h1, h2⟩ | ⟨g, cap, cur, h1, _, _, hnc, _⟩
    · simp only [Value.slice.injEq] at h1
      obtain ⟨rfl, h3, rfl⟩ := h1
      simp [Builtin.append_, run_underlying Try.underlying32, sizeOf, typeInfo, hi, Builtin.lenOf, Builtin.firstCells, h2]
    · simp only [Value.slice.injEq] at h1
      obtain ⟨rfl, _, rfl⟩ := h1
      simp [Builtin.append_, run_underlying Try.underlying32, sizeOf, typeInfo, hi, Builtin.lenOf, Builtin.firstCells, hnc, storeCells]
  | some ad =>
    have hcells : ∀ j u, (u8s ys)[j]? = some u → w.cell? (ad.add j) = some u := by
      intro j u hu
      obtain ⟨hj, rfl⟩ := oneCell_u8s_get hu
      rcases hb.cells with h | ⟨b, off, h, hc⟩
      · subst h; simp at hj
      · cases h
        have e : (⟨b, off, none⟩ : Addr).add j = ⟨b, off + j, none⟩ := by unfold Addr.add; split <;> simp_all
        rw [e]
        exact hc j hj
    obtain ⟨v', w', hrun, h2, h3, _, h5⟩ := run_append_own_at (P := Try.prog) w base 32 ty 5 i (.int .u8 0) 1 1 Try.underlying32 hi hz hs hby rfl (by omega) (.slice A xs.length c) xs.length (u8s xs) ho.row ad ys.length d (u8s ys) (by simp [u8s]) hcells (u8s_one ys) (by unfold maxLen; omega) (by omega) hbase
    obtain ⟨A', c', rfl⟩ := hv v' w' h2
    have h2' : w'.ownsRow base 5 1 (.slice A' (xs ++ ys).length c') (xs ++ ys).length (u8s (xs ++ ys)) := by rw [u8s_append, List.length_append]; exact h2
    refine ⟨A', c', w', hrun, ⟨h2', hb8⟩, (Below.refl _ _).grown h3 hbase (fun k hk => ?_), h3, h5⟩
    rcases ho.row.2 with ⟨h1, _⟩ | ⟨g, cap, cur, h1, hg, _⟩
    · rw [h1] at hk; simp [Value.ownBlock] at hk
    · rw [h1] at hk; simp [Value.ownBlock] at hk; omega

theorem wpList_app {ops : Array Oper} {rest : List Oper} {o : Oper} {a : Act} {Q : Exit → Act → World → Prop} {w : World} {base : Nat} {A B : Option Addr} {c d n m : Nat} {xs ys : List Nat} (s x : Operand) (hgd : o.guard = none)
    (hop : o.op = .call { callee := .builtin .append, args := #[s, x], argTypes := #[32, 32] }) (hs : a.eval s = .slice A n c) (hx : a.eval x = .slice B m d)
    (ho : Own w base A c xs) (hb : Bs w B d ys) (hn : xs.length = n) (hm : ys.length = m) (hl : n + m ≤ 140737488355328) (hbase : base ≤ w.heap.size)
    (h : ∀ A' c' w', Own w' base A' c' (xs ++ ys) → Below base w w' → w.grownBy w' (Value.slice A n c).ownBlock → ((Value.slice A' (n + m) c').ownBlock = (Value.slice A n c).ownBlock ∨ (Value.slice A' (n + m) c').ownBlock = some w.heap.size) →
      wpList Try.prog ops Q rest (a.put o.dst (.slice A' (n + m) c')) w') : wpList Try.prog ops Q (o :: rest) a w := by
  obtain ⟨A', c', w', hrun, h1, h2, h3, h4⟩ := app_run o.type ho hb hn hm hl hbase
  refine wpList_plain hgd fun K hK => ?_
  unfold Oper.wp execOp
  simp only [hop, resolve, invoke, builtin, Sem.run_bind, Sem.run_pure, Result.andThen_ok, List.map_toArray, List.map_cons, List.map_nil, hs, hx, hrun]
  exact hK _ _ (h A' c' w' h1 h2 h3 h4)

theorem Own.empty {w : World} {base g : Nat} (hB : Blk w g #[] 5) (hg : base ≤ g) : Own w base (some ⟨g, 0, none⟩) 0 [] :=
  ⟨⟨by simp [u8s], .inr ⟨g, 0, #[], rfl, hg, hB, Nat.le_refl _, by simp [maxLen], rfl, by simp [u8s]⟩⟩, by simp⟩

theorem eql_nil (A : Option Addr) (n c : Nat) (w : World) : (binOp .eql 32 (.slice A n c) (.slice none 0 0)).run Try.prog w = .ok (.bool A.isNone) w := by
  cases A <;> rfl

theorem Clone_nil (c : Nat) (w : World) :
    Calls Try.prog 53 #[.slice none 0 c] w fun e w' => e = .returned (.slice none 0 0) ∧ w = w' := by
  have he := eql_nil none 0 c
  go_enter Try.func53, Try.ntmps53
  go_wp2_with fail
  go_ret
  exact ⟨rfl, rfl⟩

set_option maxHeartbeats 1000000 in
theorem Clone_some {ad : Addr} {c n : Nat} {xs : List Nat} (w : World) (hb : Bs w (some ad) c xs) (hn : xs.length = n) (hl : n ≤ 140737488355328) :
    Calls Try.prog 53 #[.slice (some ad) n c] w fun e w' => ∃ A' c', e = .returned (.slice A' n c') ∧ Own w' w.heap.size A' c' xs ∧ Below w.heap.size w w' := by
  have HB : Hid (Bs w (some ad) c xs) := hb
  have HN : Hid (xs.length = n) := hn
  have he := eql_nil (some ad) n c
  clear hb hn
  go_enter Try.func53, Try.ntmps53
  go_wp2_with (at_builtin; refine wpList_app (.tmp 5) (.tmp 6) rfl rfl rfl rfl (Own.empty (base := w.heap.size) (Blk.new _ _ _) (Nat.le_refl _)) (HB.out.below ((Below.refl _ _).alloc (Nat.le_refl _) _)) rfl HN.out (by omega) (by simp) ?_; intro A1 c1 w1 ho hb1 hg hat; clear hg hat)
  go_ret
  simp only [Nat.zero_add, List.nil_append] at ho ⊢
  exact ⟨A1, c1, rfl, ho, (Below.refl _ _).alloc (Nat.le_refl _) _ |>.trans hb1⟩
end Go.Proofs.Ytdjdfmnjoilmkaa
