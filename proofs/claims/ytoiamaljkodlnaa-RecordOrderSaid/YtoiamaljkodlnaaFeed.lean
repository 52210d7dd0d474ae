/-
  WALKS: record: a reader is fed.
-/
import Derived.Test.YtoiamaljkodlnaaRdrs
import Derived.Scope
namespace Go.Proofs.Ytoiamaljkodlnaa
open Go.RowKit
set_option linter.unusedVariables false
set_option linter.unusedSimpArgs false
set_option maxRecDepth 100000
attribute [local irreducible] wpList wpListIn putsR

theorem w2_scope0 {P : Program} {c : Code} {Q : Exit → Act → World → Prop} {a : Act} {w : World} (h : WP2 false P c (Exit.noGoto Q) a w) : WP2 false P (.scope c) Q a w := ⟨wp_scope_straight h.1, fun hb => by cases hb⟩
theorem ng_ret {Q : Exit → Act → World → Prop} {a : Act} {w : World} (h : Q .ret a w) : Exit.noGoto Q .ret a w := h
theorem step_cases (r : Rd) : (r.body = 0 ∧ r.wait.length < 18 ∧ stepR r = none) ∨ (r.body = 0 ∧ 18 ≤ r.wait.length ∧ ∃ x, stepR r = some x) ∨ (0 < r.body ∧ r.wait.length < r.body ∧ stepR r = none) ∨ (0 < r.body ∧ r.body ≤ r.wait.length ∧ ∃ x, stepR r = some x) := by
  unfold stepR
  by_cases hb : r.body = 0
  · rw [if_pos hb]
    by_cases hw : r.wait.length < 18
    · rw [if_pos hw]; exact .inl ⟨hb, hw, rfl⟩
    · rw [if_neg hw]
      refine .inr (.inl ⟨hb, by omega, ?_⟩)
      dsimp only
      split
      · exact ⟨_, rfl⟩
      · split <;> exact ⟨_, rfl⟩
  · rw [if_neg hb]
    by_cases hw : r.wait.length < r.body
    · rw [if_pos hw]; exact .inr (.inr (.inl ⟨by omega, hw, rfl⟩))
    · rw [if_neg hw]
      refine .inr (.inr (.inr ⟨by omega, by omega, ?_⟩))
      dsimp only
      split
      · exact ⟨_, rfl⟩
      · split <;> exact ⟨_, rfl⟩
theorem stepR_inv {r : Rd} {x : Rd × Nat × List (List Nat)} (h : stepR r = some x) : x.1.co.n ≤ r.co.n + 1 ∧ x.1.co.every = r.co.every ∧ x.1.co.cnt ≤ r.co.cnt + 1 ∧ x.1.dead = r.dead ∧ (r.body ≤ 65535 → x.1.body ≤ 65535) ∧ (r.body = 0 → x.2.2 = []) := by
  unfold stepR at h
  split at h
  · rename_i hb
    split at h
    · cases h
    · dsimp only at h
      split at h
      · cases h; exact ⟨by show r.co.n ≤ _; omega, rfl, by show r.co.cnt ≤ _; omega, rfl, id, fun _ => rfl⟩
      · split at h
        · cases h; exact ⟨Nat.le_refl _, rfl, by show r.co.cnt ≤ _; omega, rfl, id, fun _ => rfl⟩
        · rename_i hz
          cases h
          refine ⟨Nat.le_refl _, rfl, by show r.co.cnt ≤ _; omega, rfl, fun _ => ?_, fun _ => rfl⟩
          have h1 := sizeN_top (lenOf (openL r.co.k (nonceL r.co.n) [] (r.wait.take 18)).1 / 2 - 1)
          show lenOf (openL r.co.k (nonceL r.co.n) [] (r.wait.take 18)).1 + 16 ≤ 65535
          omega
  · rename_i hb
    split at h
    · cases h
    · dsimp only at h
      split at h
      · cases h; exact ⟨by show r.co.n ≤ _; omega, rfl, by show r.co.cnt ≤ _; omega, rfl, id, fun h => absurd h hb⟩
      · split at h
        · cases h; exact ⟨Nat.le_refl _, rfl, by show r.co.cnt ≤ _; omega, rfl, id, fun h => absurd h hb⟩
        · cases h; exact ⟨Nat.le_refl _, rfl, Nat.le_refl _, rfl, fun _ => Nat.zero_le _, fun h => absurd h hb⟩
theorem run_none {r : Rd} (h : stepR r = none) (f : Nat) (out : List (List Nat)) : runR (f + 1) r out = (r, 0, out) := by rw [runR, h]
theorem run_bad {r : Rd} {x : Rd × Nat × List (List Nat)} (h : stepR r = some x) (hx : ¬ x.2.1 = 0) (f : Nat) (out : List (List Nat)) : runR (f + 1) r out = (x.1.die, x.2.1, out) := by
  rw [runR, h]
  dsimp only
  rw [if_pos hx]
theorem run_good {r : Rd} {x : Rd × Nat × List (List Nat)} (h : stepR r = some x) (hx : x.2.1 = 0) (f : Nat) (out : List (List Nat)) : runR (f + 1) r out = runR f x.1 (out ++ x.2.2) := by
  rw [runR, h]
  dsimp only
  rw [if_neg (by omega)]
theorem CipherAt.keptT {T : TypeId} {w w' : World} {M : Nat → Prop} {g n : Nat} {k : List Nat} (h : CipherAt w M g k n) (hk : KeptT T w w') (h1 : 104 ≠ T) (h2 : 5 ≠ T) : CipherAt w' M g k n := by
  obtain ⟨A, c, hB, hO, hg, hA⟩ := h.row
  exact ⟨h.key, h.num, h.lt.up hk.size, A, c, hk.blk hB h1, hO.keptT hk h2, hg, hA⟩
theorem ReaderP.keptT {T : TypeId} {w w' : World} {N : Nat → Prop} {gr gc c : Nat} {A : Option Addr} {r : Rd} (h : ReaderP w N gr gc A c r) (hk : KeptT T w w') (h1 : 104 ≠ T) (h2 : 5 ≠ T) (h3 : 112 ≠ T) : ReaderP w' N gr gc A c r :=
  ⟨h.cip.keptT hk h1 h2, hk.blk h.blk h3, h.wt.keptT hk h2, h.apart, h.sep⟩
theorem ReaderP.nx {w w' : World} {N : Nat → Prop} {gr gc c : Nat} {A : Option Addr} {r : Rd} (h : ReaderP w N gr gc A c r) (hb : Below w.heap.size w w') : ReaderP w' N gr gc A c r :=
  ⟨h.cip.nx hb, h.blk.nx hb, h.wt.nx hb, h.apart, h.sep⟩
theorem whole_bad {N : Nat → Prop} {gr gc ev cnt num body c : Nat} {A : Option Addr} {ks ws : List Nat} {dead : Bool} {x : Rd × Nat × List (List Nat)} (w : World) (hP : ReaderP w N gr gc A c ⟨⟨ks, num, ev, cnt⟩, ws, body, dead⟩) (hnum : num < 9223372036854775807) (hx : stepR ⟨⟨ks, num, ev, cnt⟩, ws, body, dead⟩ = some x) (hb0 : 0 < body) (hnw : body ≤ ws.length) (hb6 : body ≤ 65535) (he1 : 1 ≤ ev) (hc1 : cnt < 4611686018427387904) (hz : ¬ x.2.1 = 0) :
    Calls Try.prog 85 #[.pointer (some ⟨gr, 0, none⟩)] w fun e w' => e = .returned (.tuple #[.slice none 0 0, .int .i64 ((x.2.1 : Nat) : Int)]) ∧ (∃ N' A' c', ReaderP w' N' gr gc A' c' x.1 ∧ NextM w N N' ∧ ∀ j, blkA A' j → blkA A j) ∧ BelowX (fun j => j = gr ∨ j = gc) w w' := by
  refine Calls.mono (whole_any w hP hnum hx hb0 hnw hb6 he1 hc1) ?_
  rintro e w' ⟨⟨_, _, he, h1⟩ | ⟨h, _⟩, h2⟩
  · exact ⟨he, h1, h2⟩
  · exact absurd h hz
theorem whole_ok {N : Nat → Prop} {gr gc ev cnt num body c : Nat} {A : Option Addr} {ks ws : List Nat} {dead : Bool} {x : Rd × Nat × List (List Nat)} (w : World) (hP : ReaderP w N gr gc A c ⟨⟨ks, num, ev, cnt⟩, ws, body, dead⟩) (hnum : num < 9223372036854775807) (hx : stepR ⟨⟨ks, num, ev, cnt⟩, ws, body, dead⟩ = some x) (hb0 : 0 < body) (hnw : body ≤ ws.length) (hb6 : body ≤ 65535) (he1 : 1 ≤ ev) (hc1 : cnt < 4611686018427387904) (hz : x.2.1 = 0) :
    Calls Try.prog 85 #[.pointer (some ⟨gr, 0, none⟩)] w fun e w' => ∃ (b : List Nat) (A1 : Option Addr) (c1 : Nat), e = .returned (.tuple #[.slice A1 b.length c1, .int .i64 0]) ∧ x.2.2 = [b] ∧ Own w' w.heap.size A1 c1 b ∧ (∃ N' A' c', ReaderP w' N' gr gc A' c' x.1 ∧ NextM w N N' ∧ (∀ j, blkA A' j → blkA A j) ∧ Sep (blkA A1) N') ∧ BelowX (fun j => j = gr ∨ j = gc) w w' := by
  refine Calls.mono (whole_any w hP hnum hx hb0 hnw hb6 he1 hc1) ?_
  rintro e w' ⟨⟨h, _⟩ | ⟨_, b, A1, c1, h3, he, hO, h1⟩, h2⟩
  · exact absurd hz h
  · exact ⟨b, A1, c1, he, h3, hO, h1, h2⟩
/-- A reader lies at gr, its cipher at gc; M: all their blocks. -/
structure ReaderAt (w : World) (M : Nat → Prop) (gr gc : Nat) (r : Rd) : Prop where
  lt : Lt w M
  every : 1 ≤ r.co.every
  body : r.body ≤ 65535
  row : ∃ N A c, ReaderP w N gr gc A c r ∧ M gr ∧ (∀ j, N j → M j) ∧ ∀ j, blkA A j → M j
theorem ReaderAt.keep {w w' : World} {M : Nat → Prop} {gr gc : Nat} {r : Rd} (h : ReaderAt w M gr gc r) (hb : KeptM M w w') (hs : w.heap.size ≤ w'.heap.size) : ReaderAt w' M gr gc r := by
  obtain ⟨N, A, c, hP, hg, hN, hA⟩ := h.row
  exact ⟨h.lt.up hs, h.every, h.body, N, A, c, ⟨hP.cip.keep (fun j hj => hb j (hN j hj)) hs, (hb gr hg).trans hP.blk, hP.wt.keep (fun j hj => hb j (hA j hj)), hP.apart, hP.sep⟩, hg, hN, hA⟩
theorem ReaderAt.nx {w w' : World} {M : Nat → Prop} {gr gc : Nat} {r : Rd} (h : ReaderAt w M gr gc r) (hb : Below w.heap.size w w') : ReaderAt w' M gr gc r := h.keep (kept_of hb h.lt) hb.size
theorem ReaderAt.keepM {w w' : World} {M X : Nat → Prop} {gr gc : Nat} {r : Rd} (h : ReaderAt w M gr gc r) (hb : BelowX X w w') (hs : Sep M X) : ReaderAt w' M gr gc r := h.keep (hb.kept h.lt hs) hb.size
theorem ReaderAt.cipher {w : World} {M : Nat → Prop} {gr gc : Nat} {r : Rd} (h : ReaderAt w M gr gc r) : ∃ N, CipherAt w N gc r.co.k r.co.n := by obtain ⟨N, A, c, hP, _⟩ := h.row; exact ⟨N, hP.cip⟩
theorem NewReader_any {M : Nat → Prop} {gc num : Nat} {ks : List Nat} (z : Int) (w : World) (hC : CipherAt w M gc ks num) :
    Calls Try.prog 40 #[.pointer (some ⟨gc, 0, none⟩), .int .i64 (z)] w fun e w' => ∃ (M' : Nat → Prop) (gr : Nat), e = .returned (.pointer (some ⟨gr, 0, none⟩)) ∧ ReaderAt w' M' gr gc ⟨⟨ks, num, everyN z, 0⟩, [], 0, false⟩ ∧ NextM w M M' ∧ Below w.heap.size w w' := by
  refine x_enter 12 Try.func40 rfl rfl (fun a hs hd ha0 => ?_)
  have t0 : a.eval (.tmp 0) = .pointer (some ⟨gc, 0, none⟩) := ha0 0 _ rfl
  have t1 : a.eval (.tmp 1) = .int .i64 (z) := ha0 1 _ rfl
  clear ha0
  refine w2_seq (fun K_1 hK_1 => ?_)
  refine x_region (by kernel_rfl) ?_
  refine op_val (d := 4) (v := .pointer none) rfl rfl (o_assign rfl rfl) ?_
  refine x_nil ?_
  refine hK_1 _ _ ?_
  refine w2_seq (fun K_2 hK_2 => ?_)
  refine w2_seq (fun K_3 hK_3 => ?_)
  refine x_region (by kernel_rfl) ?_
  refine op_val (d := 5) (v := .pointer (some ⟨gc, 0, none⟩)) rfl rfl (o_move rfl ((pm rfl).trans t0)) ?_
  refine op_val (d := 6) (v := .bool (false)) rfl rfl (o_nil (b := false) rfl (pe hs rfl rfl) rfl rfl ⟨104, fun _ => by kernel_rfl⟩) ?_
  refine x_nil ?_
  refine hK_3 _ _ ?_
  refine w2_condF (pe hs rfl rfl) ?_
  refine w2_skip ?_
  refine hK_2 _ _ ?_
  refine w2_seq (fun K_4 hK_4 => ?_)
  refine x_region (by kernel_rfl) ?_
  refine op_val (d := 7) (v := .pointer (some ⟨gc, 0, none⟩)) rfl rfl (o_move rfl ((pm rfl).trans t0)) ?_
  refine op_val (d := 8) (v := .int .i64 (z)) rfl rfl (o_move rfl ((pm rfl).trans t1)) ?_
  refine op_call (vs := #[.pointer (some ⟨gc, 0, none⟩), .int .i64 (z)]) rfl rfl (exec_call Try.func80 (by kernel_rfl) (by kernel_rfl) _ rfl _ _ (args2 (pe hs rfl rfl) (pe hs rfl rfl))) (newCounter_any _ _) (fun e_1 w_1 hR_1 => ?_)
  obtain ⟨rfl, hb_2⟩ := hR_1
  refine ⟨_, rfl, ?_⟩
  refine op_val (d := 10) (v := .agg #[.pointer (some ⟨gc, 0, none⟩), .int .i64 ((everyN z : Nat) : Int), .int .i64 ((0 : Nat) : Int), .slice none (0) (0), .int .i64 ((0 : Nat) : Int), .bool (false)]) rfl rfl (o_bld (vs := #[(0, .agg #[.pointer (some ⟨gc, 0, none⟩), .int .i64 ((everyN z : Nat) : Int), .int .i64 ((0 : Nat) : Int)])]) (v := .agg #[.pointer (some ⟨gc, 0, none⟩), .int .i64 ((everyN z : Nat) : Int), .int .i64 ((0 : Nat) : Int), .slice none (0) (0), .int .i64 ((0 : Nat) : Int), .bool (false)]) rfl (bld1 (pe hs rfl rfl)) (fun _ => by kernel_rfl)) ?_
  refine op_ex (d := 11) rfl rfl (o_boxL (cs := #[.pointer (some ⟨gc, 0, none⟩), .int .i64 ((everyN z : Nat) : Int), .int .i64 ((0 : Nat) : Int), .slice none (0) (0), .int .i64 ((0 : Nat) : Int), .bool (false)]) rfl (pe hs rfl rfl)) (fun v_1 w_2 hR_2 => ?_)
  obtain ⟨g_1, rfl, hle_1, hB_1, hb_3⟩ := hR_2
  have ge_1 : w.heap.size ≤ g_1 := Nat.le_trans hb_2.size hle_1
  have HB_1 := below_from hb_2 hb_3
  refine op_val (d := 4) (v := .pointer (some ⟨g_1, 0, none⟩)) rfl rfl (o_assign rfl (pe hs rfl rfl)) ?_
  refine x_nil ?_
  refine hK_4 _ _ ?_
  refine w2_ret ?_
  refine ret1 rfl hd (pe hs rfl rfl) ?_
  exact ⟨MX w M w_2, g_1, rfl, ⟨hC.lt.mx HB_1.size, everyN_pos z, Nat.zero_le _, M, none, 0, ⟨hC.nx HB_1, hB_1, Wt.nil _, fun h => absurd (hC.lt _ h) (by have := ge_1; omega), fun j hj => absurd hj blkA_none⟩, .inr ⟨ge_1, hB_1.lt⟩, fun j hj => .inl hj, fun j hj => absurd hj blkA_none⟩, fun j hj => hj.imp id (fun h => h.1), HB_1⟩
theorem NewReader_nil (z : Int) (w : World) :
    Calls Try.prog 40 #[.pointer none, .int .i64 (z)] w fun e w' => e = .returned (.pointer none) ∧ w = w' := by
  refine x_enter 12 Try.func40 rfl rfl (fun a hs hd ha0 => ?_)
  have t0 : a.eval (.tmp 0) = .pointer none := ha0 0 _ rfl
  have t1 : a.eval (.tmp 1) = .int .i64 (z) := ha0 1 _ rfl
  clear ha0
  refine w2_seq (fun K_1 hK_1 => ?_)
  refine x_region (by kernel_rfl) ?_
  refine op_val (d := 4) (v := .pointer none) rfl rfl (o_assign rfl rfl) ?_
  refine x_nil ?_
  refine hK_1 _ _ ?_
  refine w2_seq (fun K_2 hK_2 => ?_)
  refine w2_seq (fun K_3 hK_3 => ?_)
  refine x_region (by kernel_rfl) ?_
  refine op_val (d := 5) (v := .pointer none) rfl rfl (o_move rfl ((pm rfl).trans t0)) ?_
  refine op_val (d := 6) (v := .bool (true)) rfl rfl (o_nil (b := true) rfl (pe hs rfl rfl) rfl rfl ⟨104, fun _ => by kernel_rfl⟩) ?_
  refine x_nil ?_
  refine hK_3 _ _ ?_
  refine w2_condT (pe hs rfl rfl) ?_
  refine w2_seq (fun K_4 hK_4 => ?_)
  refine x_region (by kernel_rfl) ?_
  refine op_val (d := 4) (v := .pointer none) rfl rfl (o_assign rfl rfl) ?_
  refine x_nil ?_
  refine hK_4 _ _ ?_
  refine w2_ret ?_
  refine thn_ret ?_
  refine ret1 rfl hd (pe hs rfl rfl) ?_
  exact ⟨rfl, rfl⟩
theorem Left_blk {gr gc ev cnt wl body c : Nat} {A : Option Addr} {dead : Bool} (w : World) (hB : Blk w gr #[.pointer (some ⟨gc, 0, none⟩), .int .i64 ((ev : Nat) : Int), .int .i64 ((cnt : Nat) : Int), .slice A (wl) (c), .int .i64 ((body : Nat) : Int), .bool (dead)] 112) :
    Calls Try.prog 42 #[.pointer (some ⟨gr, 0, none⟩)] w fun e w' => e = .returned (.int .i64 ((wl : Nat) : Int)) ∧ w = w' := by
  refine x_enter 10 Try.func42 rfl rfl (fun a hs hd ha0 => ?_)
  have t0 : a.eval (.tmp 0) = .pointer (some ⟨gr, 0, none⟩) := ha0 0 _ rfl
  clear ha0
  refine w2_seq (fun K_1 hK_1 => ?_)
  refine x_region (by kernel_rfl) ?_
  refine op_val (d := 2) (v := .int .i64 ((0 : Nat) : Int)) rfl rfl (o_assign rfl rfl) ?_
  refine x_nil ?_
  refine hK_1 _ _ ?_
  refine w2_seq (fun K_2 hK_2 => ?_)
  refine w2_seq (fun K_3 hK_3 => ?_)
  refine x_region (by kernel_rfl) ?_
  refine op_val (d := 3) (v := .pointer (some ⟨gr, 0, none⟩)) rfl rfl (o_move rfl ((pm rfl).trans t0)) ?_
  refine op_val (d := 4) (v := .bool (false)) rfl rfl (o_nil (b := false) rfl (pe hs rfl rfl) rfl rfl ⟨112, fun _ => by kernel_rfl⟩) ?_
  refine x_nil ?_
  refine hK_3 _ _ ?_
  refine w2_condF (pe hs rfl rfl) ?_
  refine w2_skip ?_
  refine hK_2 _ _ ?_
  refine w2_seq (fun K_4 hK_4 => ?_)
  refine x_region (by kernel_rfl) ?_
  refine op_val (d := 5) (v := .pointer (some ⟨gr, 0, none⟩)) rfl rfl (o_move rfl ((pm rfl).trans t0)) ?_
  refine op_val (d := 6) (v := .pointer (some ⟨gr, 0, none⟩)) rfl rfl (o_nilCheck rfl (pe hs rfl rfl)) ?_
  refine op_val (d := 7) (v := .pointer (some ⟨gr, 3, none⟩)) rfl rfl (o_field (k' := 3) rfl (pe hs rfl rfl) (fun _ => by kernel_rfl)) ?_
  refine op_val (d := 8) (v := .slice A (wl) (c)) rfl rfl (o_load1 rfl (pe hs rfl rfl) hB rfl ⟨by kernel_rfl, by kernel_rfl⟩) ?_
  refine op_val (d := 9) (v := .int .i64 ((wl : Nat) : Int)) rfl rfl (o_len rfl (pe hs rfl rfl)) ?_
  refine op_val (d := 2) (v := .int .i64 ((wl : Nat) : Int)) rfl rfl (o_assign rfl (pe hs rfl rfl)) ?_
  refine x_nil ?_
  refine hK_4 _ _ ?_
  refine w2_ret ?_
  refine ret1 rfl hd (pe hs rfl rfl) ?_
  exact ⟨rfl, rfl⟩
theorem Left_nil (w : World) :
    Calls Try.prog 42 #[.pointer none] w fun e w' => e = .returned (.int .i64 0) ∧ w = w' := by
  refine x_enter 10 Try.func42 rfl rfl (fun a hs hd ha0 => ?_)
  have t0 : a.eval (.tmp 0) = .pointer none := ha0 0 _ rfl
  clear ha0
  refine w2_seq (fun K_1 hK_1 => ?_)
  refine x_region (by kernel_rfl) ?_
  refine op_val (d := 2) (v := .int .i64 ((0 : Nat) : Int)) rfl rfl (o_assign rfl rfl) ?_
  refine x_nil ?_
  refine hK_1 _ _ ?_
  refine w2_seq (fun K_2 hK_2 => ?_)
  refine w2_seq (fun K_3 hK_3 => ?_)
  refine x_region (by kernel_rfl) ?_
  refine op_val (d := 3) (v := .pointer none) rfl rfl (o_move rfl ((pm rfl).trans t0)) ?_
  refine op_val (d := 4) (v := .bool (true)) rfl rfl (o_nil (b := true) rfl (pe hs rfl rfl) rfl rfl ⟨112, fun _ => by kernel_rfl⟩) ?_
  refine x_nil ?_
  refine hK_3 _ _ ?_
  refine w2_condT (pe hs rfl rfl) ?_
  refine w2_seq (fun K_4 hK_4 => ?_)
  refine x_region (by kernel_rfl) ?_
  refine op_val (d := 2) (v := .int .i64 ((0 : Nat) : Int)) rfl rfl (o_assign rfl rfl) ?_
  refine x_nil ?_
  refine hK_4 _ _ ?_
  refine w2_ret ?_
  refine thn_ret ?_
  refine ret1 rfl hd (pe hs rfl rfl) ?_
  exact ⟨rfl, rfl⟩
theorem RCount_blk {gr gc ev cnt wl body c : Nat} {A : Option Addr} {dead : Bool} (w : World) (hB : Blk w gr #[.pointer (some ⟨gc, 0, none⟩), .int .i64 ((ev : Nat) : Int), .int .i64 ((cnt : Nat) : Int), .slice A (wl) (c), .int .i64 ((body : Nat) : Int), .bool (dead)] 112) :
    Calls Try.prog 46 #[.pointer (some ⟨gr, 0, none⟩)] w fun e w' => e = .returned (.int .i64 ((cnt : Nat) : Int)) ∧ w = w' := by
  refine x_enter 10 Try.func46 rfl rfl (fun a hs hd ha0 => ?_)
  have t0 : a.eval (.tmp 0) = .pointer (some ⟨gr, 0, none⟩) := ha0 0 _ rfl
  clear ha0
  refine w2_seq (fun K_1 hK_1 => ?_)
  refine x_region (by kernel_rfl) ?_
  refine op_val (d := 2) (v := .int .i64 ((0 : Nat) : Int)) rfl rfl (o_assign rfl rfl) ?_
  refine x_nil ?_
  refine hK_1 _ _ ?_
  refine w2_seq (fun K_2 hK_2 => ?_)
  refine w2_seq (fun K_3 hK_3 => ?_)
  refine x_region (by kernel_rfl) ?_
  refine op_val (d := 3) (v := .pointer (some ⟨gr, 0, none⟩)) rfl rfl (o_move rfl ((pm rfl).trans t0)) ?_
  refine op_val (d := 4) (v := .bool (false)) rfl rfl (o_nil (b := false) rfl (pe hs rfl rfl) rfl rfl ⟨112, fun _ => by kernel_rfl⟩) ?_
  refine x_nil ?_
  refine hK_3 _ _ ?_
  refine w2_condF (pe hs rfl rfl) ?_
  refine w2_skip ?_
  refine hK_2 _ _ ?_
  refine w2_seq (fun K_4 hK_4 => ?_)
  refine x_region (by kernel_rfl) ?_
  refine op_val (d := 5) (v := .pointer (some ⟨gr, 0, none⟩)) rfl rfl (o_move rfl ((pm rfl).trans t0)) ?_
  refine op_val (d := 6) (v := .pointer (some ⟨gr, 0, none⟩)) rfl rfl (o_nilCheck rfl (pe hs rfl rfl)) ?_
  refine op_val (d := 7) (v := .pointer (some ⟨gr, 0, none⟩)) rfl rfl (o_field (k' := 0) rfl (pe hs rfl rfl) (fun _ => by kernel_rfl)) ?_
  refine op_val (d := 8) (v := .pointer (some ⟨gr, 2, none⟩)) rfl rfl (o_field (k' := 2) rfl (pe hs rfl rfl) (fun _ => by kernel_rfl)) ?_
  refine op_val (d := 9) (v := .int .i64 ((cnt : Nat) : Int)) rfl rfl (o_load1 rfl (pe hs rfl rfl) hB rfl ⟨by kernel_rfl, by kernel_rfl⟩) ?_
  refine op_val (d := 2) (v := .int .i64 ((cnt : Nat) : Int)) rfl rfl (o_assign rfl (pe hs rfl rfl)) ?_
  refine x_nil ?_
  refine hK_4 _ _ ?_
  refine w2_ret ?_
  refine ret1 rfl hd (pe hs rfl rfl) ?_
  exact ⟨rfl, rfl⟩
theorem RCount_nil (w : World) :
    Calls Try.prog 46 #[.pointer none] w fun e w' => e = .returned (.int .i64 0) ∧ w = w' := by
  refine x_enter 10 Try.func46 rfl rfl (fun a hs hd ha0 => ?_)
  have t0 : a.eval (.tmp 0) = .pointer none := ha0 0 _ rfl
  clear ha0
  refine w2_seq (fun K_1 hK_1 => ?_)
  refine x_region (by kernel_rfl) ?_
  refine op_val (d := 2) (v := .int .i64 ((0 : Nat) : Int)) rfl rfl (o_assign rfl rfl) ?_
  refine x_nil ?_
  refine hK_1 _ _ ?_
  refine w2_seq (fun K_2 hK_2 => ?_)
  refine w2_seq (fun K_3 hK_3 => ?_)
  refine x_region (by kernel_rfl) ?_
  refine op_val (d := 3) (v := .pointer none) rfl rfl (o_move rfl ((pm rfl).trans t0)) ?_
  refine op_val (d := 4) (v := .bool (true)) rfl rfl (o_nil (b := true) rfl (pe hs rfl rfl) rfl rfl ⟨112, fun _ => by kernel_rfl⟩) ?_
  refine x_nil ?_
  refine hK_3 _ _ ?_
  refine w2_condT (pe hs rfl rfl) ?_
  refine w2_seq (fun K_4 hK_4 => ?_)
  refine x_region (by kernel_rfl) ?_
  refine op_val (d := 2) (v := .int .i64 ((0 : Nat) : Int)) rfl rfl (o_assign rfl rfl) ?_
  refine x_nil ?_
  refine hK_4 _ _ ?_
  refine w2_ret ?_
  refine thn_ret ?_
  refine ret1 rfl hd (pe hs rfl rfl) ?_
  exact ⟨rfl, rfl⟩
theorem Dead_blk {gr gc ev cnt wl body c : Nat} {A : Option Addr} {dead : Bool} (w : World) (hB : Blk w gr #[.pointer (some ⟨gc, 0, none⟩), .int .i64 ((ev : Nat) : Int), .int .i64 ((cnt : Nat) : Int), .slice A (wl) (c), .int .i64 ((body : Nat) : Int), .bool (dead)] 112) :
    Calls Try.prog 43 #[.pointer (some ⟨gr, 0, none⟩)] w fun e w' => e = .returned (.bool dead) ∧ w = w' := by
  refine x_enter 11 Try.func43 rfl rfl (fun a hs hd ha0 => ?_)
  have t0 : a.eval (.tmp 0) = .pointer (some ⟨gr, 0, none⟩) := ha0 0 _ rfl
  clear ha0
  refine w2_seq (fun K_1 hK_1 => ?_)
  refine x_region (by kernel_rfl) ?_
  refine op_val (d := 2) (v := .bool (false)) rfl rfl (o_assign rfl rfl) ?_
  refine x_nil ?_
  refine hK_1 _ _ ?_
  refine w2_seq (fun K_2 hK_2 => ?_)
  refine x_region (by kernel_rfl) ?_
  refine op_val (d := 3) (v := .pointer (some ⟨gr, 0, none⟩)) rfl rfl (o_move rfl ((pm rfl).trans t0)) ?_
  refine op_val (d := 4) (v := .bool (true)) rfl rfl (o_nilN (b := false) rfl (pe hs rfl rfl) rfl rfl ⟨112, fun _ => by kernel_rfl⟩) ?_
  refine op_val (d := 5) (v := .bool (true)) rfl rfl (o_move rfl (pe hs rfl rfl)) ?_
  refine op_valG (e := 5) (d := 6) (v := .pointer (some ⟨gr, 0, none⟩)) rfl rfl (by kernel_rfl) (pe hs rfl rfl) (o_move rfl ((pm rfl).trans t0)) ?_
  refine op_valG (e := 5) (d := 7) (v := .pointer (some ⟨gr, 0, none⟩)) rfl rfl (by kernel_rfl) (pe hs rfl rfl) (o_nilCheck rfl (pe hs rfl rfl)) ?_
  refine op_valG (e := 5) (d := 8) (v := .pointer (some ⟨gr, 5, none⟩)) rfl rfl (by kernel_rfl) (pe hs rfl rfl) (o_field (k' := 5) rfl (pe hs rfl rfl) (fun _ => by kernel_rfl)) ?_
  refine op_valG (e := 5) (d := 9) (v := .bool (dead)) rfl rfl (by kernel_rfl) (pe hs rfl rfl) (o_load1 rfl (pe hs rfl rfl) hB rfl ⟨by kernel_rfl, by kernel_rfl⟩) ?_
  refine op_val (d := 10) (v := .bool (dead)) rfl rfl (o_pickT rfl (pe hs rfl rfl) (pe hs rfl rfl)) ?_
  refine op_val (d := 2) (v := .bool (dead)) rfl rfl (o_assign rfl (pe hs rfl rfl)) ?_
  refine x_nil ?_
  refine hK_2 _ _ ?_
  refine w2_ret ?_
  refine ret1 rfl hd (pe hs rfl rfl) ?_
  exact ⟨rfl, rfl⟩
theorem Dead_nil (w : World) :
    Calls Try.prog 43 #[.pointer none] w fun e w' => e = .returned (.bool false) ∧ w = w' := by
  refine x_enter 11 Try.func43 rfl rfl (fun a hs hd ha0 => ?_)
  have t0 : a.eval (.tmp 0) = .pointer none := ha0 0 _ rfl
  clear ha0
  refine w2_seq (fun K_1 hK_1 => ?_)
  refine x_region (by kernel_rfl) ?_
  refine op_val (d := 2) (v := .bool (false)) rfl rfl (o_assign rfl rfl) ?_
  refine x_nil ?_
  refine hK_1 _ _ ?_
  refine w2_seq (fun K_2 hK_2 => ?_)
  refine x_region (by kernel_rfl) ?_
  refine op_val (d := 3) (v := .pointer none) rfl rfl (o_move rfl ((pm rfl).trans t0)) ?_
  refine op_val (d := 4) (v := .bool (false)) rfl rfl (o_nilN (b := true) rfl (pe hs rfl rfl) rfl rfl ⟨112, fun _ => by kernel_rfl⟩) ?_
  refine op_val (d := 5) (v := .bool (false)) rfl rfl (o_move rfl (pe hs rfl rfl)) ?_
  refine op_left (e := 5) rfl rfl (by kernel_rfl) (pe hs rfl rfl) rfl ?_
  refine op_left (e := 5) rfl rfl (by kernel_rfl) (pe hs rfl rfl) rfl ?_
  refine op_left (e := 5) rfl rfl (by kernel_rfl) (pe hs rfl rfl) rfl ?_
  refine op_left (e := 5) rfl rfl (by kernel_rfl) (pe hs rfl rfl) rfl ?_
  refine op_val (d := 10) (v := .bool (false)) rfl rfl (o_pickF rfl (pe hs rfl rfl) rfl) ?_
  refine op_val (d := 2) (v := .bool (false)) rfl rfl (o_assign rfl (pe hs rfl rfl)) ?_
  refine x_nil ?_
  refine hK_2 _ _ ?_
  refine w2_ret ?_
  refine ret1 rfl hd (pe hs rfl rfl) ?_
  exact ⟨rfl, rfl⟩
theorem Feed_nil {A0 : Option Addr} {c0 q : Nat} (w : World) :
    Calls Try.prog 41 #[.pointer none, .slice A0 (q) (c0)] w fun e w' => e = .returned (.tuple #[.slice none 0 0, .int .i64 1]) ∧ w = w' := by
  refine x_enterI 83 Try.func41 rfl rfl (fun a hs hd ha0 => ?_)
  have t0 : a.eval (.tmp 0) = .pointer none := ha0 0 _ rfl
  have t1 : a.eval (.tmp 1) = .slice A0 (q) (c0) := ha0 1 _ rfl
  clear ha0
  refine w2_seq (fun K_1 hK_1 => ?_)
  refine x_region (by kernel_rfl) ?_
  refine op_val (d := 4) (v := .slice none (0) (0)) rfl rfl (o_assign rfl rfl) ?_
  refine op_val (d := 5) (v := .int .i64 ((0 : Nat) : Int)) rfl rfl (o_assign rfl rfl) ?_
  refine x_nil ?_
  refine hK_1 _ _ ?_
  refine w2_scope0 ?_
  refine w2_seq (fun K_2 hK_2 => ?_)
  refine x_region (by kernel_rfl) ?_
  refine op_val (d := 6) (v := .slice none (0) (0)) rfl rfl (o_assign rfl rfl) ?_
  refine x_nil ?_
  refine hK_2 _ _ ?_
  refine w2_seq (fun K_3 hK_3 => ?_)
  refine x_region (by kernel_rfl) ?_
  refine op_val (d := 7) (v := .int .i64 ((0 : Nat) : Int)) rfl rfl (o_assign rfl rfl) ?_
  refine x_nil ?_
  refine hK_3 _ _ ?_
  refine w2_seq (fun K_4 hK_4 => ?_)
  refine w2_block (fun K_5 hK_5 => ?_)
  refine w2_seq (fun K_6 hK_6 => ?_)
  refine x_region (by kernel_rfl) ?_
  refine op_val (d := 10) (v := .pointer none) rfl rfl (o_move rfl ((pm rfl).trans t0)) ?_
  refine op_val (d := 11) (v := .bool (true)) rfl rfl (o_nil (b := true) rfl (pe hs rfl rfl) rfl rfl ⟨112, fun _ => by kernel_rfl⟩) ?_
  refine op_val (d := 9) (v := .bool (true)) rfl rfl (o_assign rfl (pe hs rfl rfl)) ?_
  refine x_nil ?_
  refine hK_6 _ _ ?_
  refine w2_condT (pe hs rfl rfl) ?_
  refine w2_seq (fun K_7 hK_7 => ?_)
  refine x_region (by kernel_rfl) ?_
  refine op_val (d := 4) (v := .slice none (0) (0)) rfl rfl (o_assign rfl rfl) ?_
  refine op_val (d := 5) (v := .int .i64 ((1 : Nat) : Int)) rfl rfl (o_assign rfl rfl) ?_
  refine x_nil ?_
  refine hK_7 _ _ ?_
  refine w2_ret ?_
  refine exb_ret ?_
  refine thn_ret ?_
  refine ng_ret ?_
  refine ret2 rfl hd (pe hs rfl rfl) (pe hs rfl rfl) ?_
  exact ⟨rfl, rfl⟩
theorem Feed_dead {gr gc ev cnt wl body c : Nat} {A : Option Addr} (w : World) (hB : Blk w gr #[.pointer (some ⟨gc, 0, none⟩), .int .i64 ((ev : Nat) : Int), .int .i64 ((cnt : Nat) : Int), .slice A (wl) (c), .int .i64 ((body : Nat) : Int), .bool (true)] 112) {A0 : Option Addr} {c0 q : Nat} :
    Calls Try.prog 41 #[.pointer (some ⟨gr, 0, none⟩), .slice A0 (q) (c0)] w fun e w' => e = .returned (.tuple #[.slice none 0 0, .int .i64 10]) ∧ w = w' := by
  refine x_enterI 83 Try.func41 rfl rfl (fun a hs hd ha0 => ?_)
  have t0 : a.eval (.tmp 0) = .pointer (some ⟨gr, 0, none⟩) := ha0 0 _ rfl
  have t1 : a.eval (.tmp 1) = .slice A0 (q) (c0) := ha0 1 _ rfl
  clear ha0
  refine w2_seq (fun K_1 hK_1 => ?_)
  refine x_region (by kernel_rfl) ?_
  refine op_val (d := 4) (v := .slice none (0) (0)) rfl rfl (o_assign rfl rfl) ?_
  refine op_val (d := 5) (v := .int .i64 ((0 : Nat) : Int)) rfl rfl (o_assign rfl rfl) ?_
  refine x_nil ?_
  refine hK_1 _ _ ?_
  refine w2_scope0 ?_
  refine w2_seq (fun K_2 hK_2 => ?_)
  refine x_region (by kernel_rfl) ?_
  refine op_val (d := 6) (v := .slice none (0) (0)) rfl rfl (o_assign rfl rfl) ?_
  refine x_nil ?_
  refine hK_2 _ _ ?_
  refine w2_seq (fun K_3 hK_3 => ?_)
  refine x_region (by kernel_rfl) ?_
  refine op_val (d := 7) (v := .int .i64 ((0 : Nat) : Int)) rfl rfl (o_assign rfl rfl) ?_
  refine x_nil ?_
  refine hK_3 _ _ ?_
  refine w2_seq (fun K_4 hK_4 => ?_)
  refine w2_block (fun K_5 hK_5 => ?_)
  refine w2_seq (fun K_6 hK_6 => ?_)
  refine x_region (by kernel_rfl) ?_
  refine op_val (d := 10) (v := .pointer (some ⟨gr, 0, none⟩)) rfl rfl (o_move rfl ((pm rfl).trans t0)) ?_
  refine op_val (d := 11) (v := .bool (false)) rfl rfl (o_nil (b := false) rfl (pe hs rfl rfl) rfl rfl ⟨112, fun _ => by kernel_rfl⟩) ?_
  refine op_val (d := 9) (v := .bool (false)) rfl rfl (o_assign rfl (pe hs rfl rfl)) ?_
  refine x_nil ?_
  refine hK_6 _ _ ?_
  refine w2_condF (pe hs rfl rfl) ?_
  refine w2_seq (fun K_7 hK_7 => ?_)
  refine x_region (by kernel_rfl) ?_
  refine op_val (d := 13) (v := .pointer (some ⟨gr, 0, none⟩)) rfl rfl (o_move rfl ((pm rfl).trans t0)) ?_
  refine op_val (d := 14) (v := .pointer (some ⟨gr, 0, none⟩)) rfl rfl (o_nilCheck rfl (pe hs rfl rfl)) ?_
  refine op_val (d := 15) (v := .pointer (some ⟨gr, 5, none⟩)) rfl rfl (o_field (k' := 5) rfl (pe hs rfl rfl) (fun _ => by kernel_rfl)) ?_
  refine op_val (d := 16) (v := .bool (true)) rfl rfl (o_load1 rfl (pe hs rfl rfl) hB rfl ⟨by kernel_rfl, by kernel_rfl⟩) ?_
  refine op_val (d := 12) (v := .bool (true)) rfl rfl (o_assign rfl (pe hs rfl rfl)) ?_
  refine x_nil ?_
  refine hK_7 _ _ ?_
  refine w2_condT (pe hs rfl rfl) ?_
  refine w2_seq (fun K_8 hK_8 => ?_)
  refine x_region (by kernel_rfl) ?_
  refine op_val (d := 4) (v := .slice none (0) (0)) rfl rfl (o_assign rfl rfl) ?_
  refine op_val (d := 5) (v := .int .i64 ((10 : Nat) : Int)) rfl rfl (o_assign rfl rfl) ?_
  refine x_nil ?_
  refine hK_8 _ _ ?_
  refine w2_ret ?_
  refine exb_ret ?_
  refine thn_ret ?_
  refine ng_ret ?_
  refine ret2 rfl hd (pe hs rfl rfl) (pe hs rfl rfl) ?_
  exact ⟨rfl, rfl⟩
set_option maxHeartbeats 1000000 in
theorem Feed_any {M : Nat → Prop} {gr gc : Nat} {rd r' : Rd} {err : Nat} {outs : List (List Nat)} {B0 : Option Addr} {d0 q : Nat} {bs : List Nat} (w : World) (hR : ReaderAt w M gr gc rd) (hd : rd.dead = false) (h0 : Bs w B0 d0 bs) (hq : bs.length = q) (hf : feedR rd bs = (r', err, outs)) (b1 : rd.co.n + (rd.wait.length + q) < 4611686018427387904) (b2 : rd.co.cnt + (rd.wait.length + q) < 4611686018427387904) (b3 : rd.wait.length + q ≤ 1000000000) :
    Calls Try.prog 41 #[.pointer (some ⟨gr, 0, none⟩), .slice B0 (q) (d0)] w fun e w' => ∃ ps A c, e = .returned (.tuple #[.slice A (ps.length) c, .int .i64 ((err : Nat) : Int)]) ∧ ps.map Part.xs = outs ∧ RowS w' w.heap.size A c ps ∧ AllOwn w' w.heap.size ps ∧ (∃ M', ReaderAt w' M' gr gc r' ∧ NextM w M M' ∧ Sep (blkP ps) M' ∧ Sep (blkA A) M') ∧ BelowX M w w' := by
  obtain ⟨hlt, hev1, hbd, N0, Aw, cw, hP, hMg, hMN, hMA⟩ := hR
  obtain ⟨⟨ks0, num0, ev, cnt0⟩, ws0, body0, dead0⟩ := rd
  dsimp only at hd hev1 hbd b1 b2 b3
  subst hd
  obtain ⟨hC, hB, hWt, hn, hsep⟩ := hP
  dsimp only at hC hB hWt
  refine x_enterI 83 Try.func41 rfl rfl (fun a hs hd ha0 => ?_)
  have t0 : a.eval (.tmp 0) = .pointer (some ⟨gr, 0, none⟩) := ha0 0 _ rfl
  have t1 : a.eval (.tmp 1) = .slice B0 (q) (d0) := ha0 1 _ rfl
  clear ha0
  have HB0 : BelowX (fun j => j = gr ∨ j = gc ∨ blkA Aw j) w w := BelowX.refl _ _
  refine w2_seq (fun K_1 hK_1 => ?_)
  refine x_region (by kernel_rfl) ?_
  refine op_val (d := 4) (v := .slice none (0) (0)) rfl rfl (o_assign rfl rfl) ?_
  refine op_val (d := 5) (v := .int .i64 ((0 : Nat) : Int)) rfl rfl (o_assign rfl rfl) ?_
  refine x_nil ?_
  refine hK_1 _ _ ?_
  refine w2_scope0 ?_
  refine w2_seq (fun K_2 hK_2 => ?_)
  refine x_region (by kernel_rfl) ?_
  refine op_val (d := 6) (v := .slice none (0) (0)) rfl rfl (o_assign rfl rfl) ?_
  refine x_nil ?_
  refine hK_2 _ _ ?_
  refine w2_seq (fun K_3 hK_3 => ?_)
  refine x_region (by kernel_rfl) ?_
  refine op_val (d := 7) (v := .int .i64 ((0 : Nat) : Int)) rfl rfl (o_assign rfl rfl) ?_
  refine x_nil ?_
  refine hK_3 _ _ ?_
  refine w2_seq (fun K_4 hK_4 => ?_)
  refine w2_block (fun K_5 hK_5 => ?_)
  refine w2_seq (fun K_6 hK_6 => ?_)
  refine x_region (by kernel_rfl) ?_
  refine op_val (d := 10) (v := .pointer (some ⟨gr, 0, none⟩)) rfl rfl (o_move rfl ((pm rfl).trans t0)) ?_
  refine op_val (d := 11) (v := .bool (false)) rfl rfl (o_nil (b := false) rfl (pe hs rfl rfl) rfl rfl ⟨112, fun _ => by kernel_rfl⟩) ?_
  refine op_val (d := 9) (v := .bool (false)) rfl rfl (o_assign rfl (pe hs rfl rfl)) ?_
  refine x_nil ?_
  refine hK_6 _ _ ?_
  refine w2_condF (pe hs rfl rfl) ?_
  refine w2_seq (fun K_7 hK_7 => ?_)
  refine x_region (by kernel_rfl) ?_
  refine op_val (d := 13) (v := .pointer (some ⟨gr, 0, none⟩)) rfl rfl (o_move rfl ((pm rfl).trans t0)) ?_
  refine op_val (d := 14) (v := .pointer (some ⟨gr, 0, none⟩)) rfl rfl (o_nilCheck rfl (pe hs rfl rfl)) ?_
  refine op_val (d := 15) (v := .pointer (some ⟨gr, 5, none⟩)) rfl rfl (o_field (k' := 5) rfl (pe hs rfl rfl) (fun _ => by kernel_rfl)) ?_
  refine op_val (d := 16) (v := .bool (false)) rfl rfl (o_load1 rfl (pe hs rfl rfl) hB rfl ⟨by kernel_rfl, by kernel_rfl⟩) ?_
  refine op_val (d := 12) (v := .bool (false)) rfl rfl (o_assign rfl (pe hs rfl rfl)) ?_
  refine x_nil ?_
  refine hK_7 _ _ ?_
  refine w2_condF (pe hs rfl rfl) ?_
  refine w2_skip ?_
  refine hK_5 _ _ ?_
  refine hK_4 _ _ ?_
  refine w2_seq (fun K_8 hK_8 => ?_)
  refine x_region (by kernel_rfl) ?_
  refine op_val (d := 17) (v := .pointer (some ⟨gr, 0, none⟩)) rfl rfl (o_move rfl ((pm rfl).trans t0)) ?_
  refine op_val (d := 18) (v := .pointer (some ⟨gr, 0, none⟩)) rfl rfl (o_move rfl ((pm rfl).trans t0)) ?_
  refine op_val (d := 19) (v := .pointer (some ⟨gr, 0, none⟩)) rfl rfl (o_nilCheck rfl (pe hs rfl rfl)) ?_
  refine op_val (d := 20) (v := .pointer (some ⟨gr, 3, none⟩)) rfl rfl (o_field (k' := 3) rfl (pe hs rfl rfl) (fun _ => by kernel_rfl)) ?_
  refine op_val (d := 21) (v := .slice Aw (ws0.length) (cw)) rfl rfl (o_load1 rfl (pe hs rfl rfl) hB rfl ⟨by kernel_rfl, by kernel_rfl⟩) ?_
  refine op_val (d := 22) (v := .slice B0 (q) (d0)) rfl rfl (o_move rfl ((pm rfl).trans t1)) ?_
  refine op_ex (d := 23) rfl rfl (o_appW rfl (pe hs rfl rfl) (pe hs rfl rfl) hWt h0 rfl hq (by omega)) (fun v_1 w_1 hR_1 => ?_)
  obtain ⟨A_1, c_1, rfl, hWt_1, hX_1, hA_1⟩ := hR_1
  have hsep1 : Sep (blkA A_1) N0 := fun j hj hm => (hA_1 j hj).elim (fun h => hsep j h hm) (fun h => absurd (hC.lt j hm) (Nat.not_lt.2 h))
  have hC0 := hC.mem
  replace hB := hX_1.blk hB (hWt.sepB hB (by decide))
  replace hC := hC.keepM hX_1 hsep.symm
  have HB_1 := HB0.step hX_1 (fun k hk hY => .inr (.inr hY))
  refine op_val (d := 24) (v := .pointer (some ⟨gr, 0, none⟩)) rfl rfl (o_nilCheck rfl (pe hs rfl rfl)) ?_
  refine op_val (d := 25) (v := .pointer (some ⟨gr, 3, none⟩)) rfl rfl (o_field (k' := 3) rfl (pe hs rfl rfl) (fun _ => by kernel_rfl)) ?_
  refine op_do rfl rfl (o_store1 rfl (pe hs rfl rfl) (pe hs rfl rfl) rfl rfl hB (by simp only [List.length_cons, List.length_nil]; omega) ⟨by kernel_rfl, by kernel_rfl⟩) (fun w_2 hR_2 => ?_)
  obtain ⟨hB_1, hX_2⟩ := hR_2
  replace hC := hC.keepX hX_2 hn
  replace hWt_1 := hWt_1.keepX hB (by decide) hX_2
  have HB_2 := HB_1.step hX_2 (fun k hk (hY : k = gr) => .inl hY)
  clear hB
  simp only [List.set_cons_zero, List.set_cons_succ] at hB_1
  refine x_nil ?_
  refine hK_8 _ _ ?_
  refine w2_seq (fun K_9 hK_9 => ?_)
  refine w2_label ?_
  refine hK_9 _ _ ?_
  refine w2_seq (fun K_10 hK_10 => ?_)
  refine w2_block (fun K_11 hK_11 => ?_)
  refine x_loop (fun nn aa ww => ∃ (N : Nat → Prop) (A : Option Addr) (c : Nat) (rd : Rd) (ps : List Part) (A5 : Option Addr) (c5 : Nat) (e7 : Nat) (f : Nat), nn = f ∧ aa.tmps.size = 83 ∧ aa.defers = [] ∧ aa.eval (.tmp 0) = .pointer (some ⟨gr, 0, none⟩) ∧ aa.eval (.tmp 1) = .slice B0 (q) (d0) ∧ aa.eval (.tmp 4) = .slice none (0) (0) ∧ aa.eval (.tmp 5) = .int .i64 ((0 : Nat) : Int) ∧ aa.eval (.tmp 6) = .slice A5 (ps.length) (c5) ∧ aa.eval (.tmp 7) = .int .i64 ((e7 : Nat) : Int) ∧ aa.eval (.tmp 9) = .bool (false) ∧ aa.eval (.tmp 10) = .pointer (some ⟨gr, 0, none⟩) ∧ aa.eval (.tmp 11) = .bool (false) ∧ aa.eval (.tmp 12) = .bool (false) ∧ aa.eval (.tmp 13) = .pointer (some ⟨gr, 0, none⟩) ∧ aa.eval (.tmp 14) = .pointer (some ⟨gr, 0, none⟩) ∧ aa.eval (.tmp 15) = .pointer (some ⟨gr, 5, none⟩) ∧ aa.eval (.tmp 16) = .bool (false) ∧ aa.eval (.tmp 17) = .pointer (some ⟨gr, 0, none⟩) ∧ aa.eval (.tmp 18) = .pointer (some ⟨gr, 0, none⟩) ∧ aa.eval (.tmp 19) = .pointer (some ⟨gr, 0, none⟩) ∧ aa.eval (.tmp 20) = .pointer (some ⟨gr, 3, none⟩) ∧ aa.eval (.tmp 21) = .slice Aw (ws0.length) (cw) ∧ aa.eval (.tmp 22) = .slice B0 (q) (d0) ∧ aa.eval (.tmp 23) = .slice A_1 (ws0.length + q) (c_1) ∧ aa.eval (.tmp 24) = .pointer (some ⟨gr, 0, none⟩) ∧ aa.eval (.tmp 25) = .pointer (some ⟨gr, 3, none⟩) ∧ ReaderP ww N gr gc A c rd ∧ RowS ww w.heap.size A5 c5 ps ∧ AllOwn ww w.heap.size ps ∧ NextM w N0 N ∧ (∀ j, blkA A j → blkA Aw j ∨ w.heap.size ≤ j) ∧ BelowX (fun j => j = gr ∨ j = gc ∨ blkA Aw j) w ww ∧ runR f rd (ps.map Part.xs) = (r', err, outs) ∧ rd.wait.length < f ∧ rd.co.n + rd.wait.length < 4611686018427387904 ∧ rd.co.cnt + rd.wait.length < 4611686018427387904 ∧ rd.co.every = ev ∧ rd.body ≤ 65535 ∧ ps.length + rd.wait.length ≤ 1000000000 ∧ e7 = 0 ∧ rd.dead = false ∧ Sep (blkP ps) N ∧ Sep (blkA A5) N ∧ Sep (blkP ps) (blkA A)) ((ws0 ++ bs).length + 1) ?_ ?_
  · exact ⟨N0, A_1, c_1, ⟨⟨ks0, num0, ev, cnt0⟩, ws0 ++ bs, body0, false⟩, [], none, 0, 0, (ws0 ++ bs).length + 1, rfl, (by rw [putsR_size]; exact hs), (by rw [putsR_defers]; exact hd), ((pm rfl).trans t0), ((pm rfl).trans t1), (pe hs rfl rfl), (pe hs rfl rfl), (pe hs rfl rfl), (pe hs rfl rfl), (pe hs rfl rfl), (pe hs rfl rfl), (pe hs rfl rfl), (pe hs rfl rfl), (pe hs rfl rfl), (pe hs rfl rfl), (pe hs rfl rfl), (pe hs rfl rfl), (pe hs rfl rfl), (pe hs rfl rfl), (pe hs rfl rfl), (pe hs rfl rfl), (pe hs rfl rfl), (pe hs rfl rfl), (pe hs rfl rfl), (pe hs rfl rfl), (pe hs rfl rfl), ⟨hC, by show Blk _ _ #[_, _, _, .slice _ ((ws0 ++ bs).length) _, _, _] _; rw [List.length_append, hq]; exact hB_1, hWt_1, hn, hsep1⟩, RowS.nil _ _, (fun _ h => absurd h (by simp)), NextM.refl _ _, hA_1, HB_2, hf, Nat.lt_succ_self _, (by show num0 + (ws0 ++ bs).length < _; rw [List.length_append, hq]; exact b1), (by show cnt0 + (ws0 ++ bs).length < _; rw [List.length_append, hq]; exact b2), rfl, hbd, (by show 0 + (ws0 ++ bs).length ≤ _; rw [List.length_append, hq]; omega), rfl, rfl, (fun j hj => absurd hj blkP_nil), (fun j hj => absurd hj blkA_none), (fun j hj => absurd hj blkP_nil)⟩
  · skip
    clear t0 t1 hd hC hWt_1 hB_1 HB_2
    rintro nna_1 a_1 w_3 ⟨N, A, c, rd, ps, A5, c5, e7, f, hm_1, hs_1, hd_1, ta_1_0, ta_1_1, ta_1_4, ta_1_5, ta_1_6, ta_1_7, ta_1_9, ta_1_10, ta_1_11, ta_1_12, ta_1_13, ta_1_14, ta_1_15, ta_1_16, ta_1_17, ta_1_18, ta_1_19, ta_1_20, ta_1_21, ta_1_22, ta_1_23, ta_1_24, ta_1_25, hP, hRw, hAO, b4, b5, HBL, b7, b8, b9, b10, b11, b12, b13, b14, b15, s1, s2, s3⟩ K_12 hK_12
    subst hm_1
    obtain ⟨⟨ks, num, ev1, cnt⟩, ws, body, dead⟩ := rd
    obtain ⟨f1, rfl⟩ : ∃ q, nna_1 = q + 1 := ⟨nna_1 - 1, by omega⟩
    dsimp only at b8 b9 b10 b11 b12 b13 b15
    obtain rfl : ev = ev1 := b11.symm
    subst b14 b15
    have hPB := hP.blk
    dsimp only at hPB
    refine w2_block (fun K_13 hK_13 => ?_)
    refine w2_block (fun K_14 hK_14 => ?_)
    refine w2_seq (fun K_15 hK_15 => ?_)
    rcases step_cases ⟨⟨ks, num, ev, cnt⟩, ws, body, false⟩ with ⟨q1, q2, q3⟩ | ⟨q1, q2, x, q3⟩ | ⟨q1, q2, q3⟩ | ⟨q1, q2, x, q3⟩
    · skip
      dsimp only at q1 q2
      refine x_region (by kernel_rfl) ?_
      refine op_val (d := 27) (v := .pointer (some ⟨gr, 0, none⟩)) rfl rfl (o_move rfl ((pm rfl).trans ta_1_0)) ?_
      refine op_val (d := 28) (v := .pointer (some ⟨gr, 0, none⟩)) rfl rfl (o_nilCheck rfl (pe hs_1 rfl rfl)) ?_
      refine op_val (d := 29) (v := .pointer (some ⟨gr, 4, none⟩)) rfl rfl (o_field (k' := 4) rfl (pe hs_1 rfl rfl) (fun _ => by kernel_rfl)) ?_
      refine op_val (d := 30) (v := .int .i64 ((body : Nat) : Int)) rfl rfl (o_load1 rfl (pe hs_1 rfl rfl) hPB rfl ⟨by kernel_rfl, by kernel_rfl⟩) ?_
      refine op_val (d := 31) (v := .bool (true)) rfl rfl (o_eq (o_eql (m := body) (n := 0) rfl (pe hs_1 rfl rfl) rfl) (by rw [decide_eq_true q1])) ?_
      refine op_val (d := 32) (v := .bool (true)) rfl rfl (o_move rfl (pe hs_1 rfl rfl)) ?_
      refine op_valG (e := 32) (d := 33) (v := .pointer (some ⟨gr, 0, none⟩)) rfl rfl (by kernel_rfl) (pe hs_1 rfl rfl) (o_move rfl ((pm rfl).trans ta_1_0)) ?_
      refine op_valG (e := 32) (d := 34) (v := .pointer (some ⟨gr, 0, none⟩)) rfl rfl (by kernel_rfl) (pe hs_1 rfl rfl) (o_nilCheck rfl (pe hs_1 rfl rfl)) ?_
      refine op_valG (e := 32) (d := 35) (v := .pointer (some ⟨gr, 3, none⟩)) rfl rfl (by kernel_rfl) (pe hs_1 rfl rfl) (o_field (k' := 3) rfl (pe hs_1 rfl rfl) (fun _ => by kernel_rfl)) ?_
      refine op_valG (e := 32) (d := 36) (v := .slice A (ws.length) (c)) rfl rfl (by kernel_rfl) (pe hs_1 rfl rfl) (o_load1 rfl (pe hs_1 rfl rfl) hPB rfl ⟨by kernel_rfl, by kernel_rfl⟩) ?_
      refine op_valG (e := 32) (d := 37) (v := .int .i64 ((ws.length : Nat) : Int)) rfl rfl (by kernel_rfl) (pe hs_1 rfl rfl) (o_len rfl (pe hs_1 rfl rfl)) ?_
      refine op_valG (e := 32) (d := 38) (v := .bool (false)) rfl rfl (by kernel_rfl) (pe hs_1 rfl rfl) (o_eq (o_geq (m := ws.length) (n := 18) rfl (pe hs_1 rfl rfl) rfl) (by rw [decide_eq_false (by omega)])) ?_
      refine op_val (d := 39) (v := .bool (false)) rfl rfl (o_pickT rfl (pe hs_1 rfl rfl) (pe hs_1 rfl rfl)) ?_
      refine op_val (d := 26) (v := .bool (false)) rfl rfl (o_assign rfl (pe hs_1 rfl rfl)) ?_
      refine x_nil ?_
      refine hK_15 _ _ ?_
      refine w2_condF (pe hs_1 rfl rfl) ?_
      refine w2_seq (fun K_16 hK_16 => ?_)
      refine x_drawn 15 [fun _ v => v = .pointer (some ⟨gr, 0, none⟩), fun _ v => v = .pointer (some ⟨gr, 0, none⟩), fun _ v => v = .pointer (some ⟨gr, 4, none⟩), fun _ v => v = .int .i64 ((body : Nat) : Int), fun _ v => v = .bool (false), fun _ v => v = .bool (false), fun _ _ => True, fun _ _ => True, fun _ _ => True, fun _ _ => True, fun _ _ => True, fun _ _ => True, fun _ _ => True, fun _ _ => True, fun _ _ => True] [45, 46, 47, 48, 49, 50, 51, 52, 53, 54, 55, 56, 57, 58, 59] hs_1 hd_1 (by kernel_rfl) (by kernel_rfl) (by kernel_rfl) (by kernel_rfl) (by kernel_rfl) ⟨stLit, stLit, stLit, stLit, stLit, stLit, stLit, stLit, stLit, stLit, stLit, stLit, stLit, stLit, stLit, trivial⟩ ⟨(step_ok rfl (fun a' w' hb' hO hD => by
          have d_1 : a'.eval (.tmp 0) = .pointer (some ⟨gr, 0, none⟩) := (hO 0 (by decide)).trans ((pm rfl).trans ta_1_0)
          exact .inl ⟨_, _, (o_move rfl d_1), rfl, Below.refl _ _⟩)),
(step_ok rfl (fun a' w' hb' hO hD => by
          have d_2 : a'.eval (.tmp 45) = .pointer (some ⟨gr, 0, none⟩) := hD 0 45 (by kernel_rfl) rfl
          exact .inl ⟨_, _, (o_nilCheck rfl d_2), rfl, Below.refl _ _⟩)),
(step_ok rfl (fun a' w' hb' hO hD => by
          have d_3 : a'.eval (.tmp 46) = .pointer (some ⟨gr, 0, none⟩) := hD 1 46 (by kernel_rfl) rfl
          exact .inl ⟨_, _, (o_field (k' := 4) rfl d_3 (fun _ => by kernel_rfl)), rfl, Below.refl _ _⟩)),
(step_ok rfl (fun a' w' hb' hO hD => by
          have d_4 : a'.eval (.tmp 47) = .pointer (some ⟨gr, 4, none⟩) := hD 2 47 (by kernel_rfl) rfl
          exact .inl ⟨_, _, (o_load1 rfl d_4 (hPB.nx hb') rfl ⟨by kernel_rfl, by kernel_rfl⟩), rfl, Below.refl _ _⟩)),
(step_ok rfl (fun a' w' hb' hO hD => by
          have d_5 : a'.eval (.tmp 48) = .int .i64 ((body : Nat) : Int) := hD 3 48 (by kernel_rfl) rfl
          have e0 : (.bool (decide (0 < body)) : Value) = .bool (false) := (by rw [decide_eq_false (by omega)])
          exact .inl ⟨_, _, (o_gtr (m := body) (n := 0) rfl d_5 rfl), e0, Below.refl _ _⟩)),
(step_ok rfl (fun a' w' hb' hO hD => by
          have d_6 : a'.eval (.tmp 49) = .bool (false) := hD 4 49 (by kernel_rfl) rfl
          exact .inl ⟨_, _, (o_move rfl d_6), rfl, Below.refl _ _⟩)),
(step_no 5 true false 50 rfl rfl (by kernel_rfl) (fun _ _ h => h) (by decide) (fun _ => trivial)),
(step_no 5 true false 50 rfl rfl (by kernel_rfl) (fun _ _ h => h) (by decide) (fun _ => trivial)),
(step_no 5 true false 50 rfl rfl (by kernel_rfl) (fun _ _ h => h) (by decide) (fun _ => trivial)),
(step_no 5 true false 50 rfl rfl (by kernel_rfl) (fun _ _ h => h) (by decide) (fun _ => trivial)),
(step_no 5 true false 50 rfl rfl (by kernel_rfl) (fun _ _ h => h) (by decide) (fun _ => trivial)),
(step_no 5 true false 50 rfl rfl (by kernel_rfl) (fun _ _ h => h) (by decide) (fun _ => trivial)),
(step_no 5 true false 50 rfl rfl (by kernel_rfl) (fun _ _ h => h) (by decide) (fun _ => trivial)),
(step_no 5 true false 50 rfl rfl (by kernel_rfl) (fun _ _ h => h) (by decide) (fun _ => trivial)),
(step_no 5 true false 50 rfl rfl (by kernel_rfl) (fun _ _ h => h) (by decide) (fun _ => trivial)), trivial⟩ (fun a_2 w_4 hs_2 hd_2 hb_1 hO_1 hV_1 => ?_)
      have ta_2_0 : a_2.eval (.tmp 0) = .pointer (some ⟨gr, 0, none⟩) := (hO_1 0 (by decide)).trans ((pm rfl).trans ta_1_0)
      have ta_2_1 : a_2.eval (.tmp 1) = .slice B0 (q) (d0) := (hO_1 1 (by decide)).trans ((pm rfl).trans ta_1_1)
      have ta_2_4 : a_2.eval (.tmp 4) = .slice none (0) (0) := (hO_1 4 (by decide)).trans ((pm rfl).trans ta_1_4)
      have ta_2_5 : a_2.eval (.tmp 5) = .int .i64 ((0 : Nat) : Int) := (hO_1 5 (by decide)).trans ((pm rfl).trans ta_1_5)
      have ta_2_10 : a_2.eval (.tmp 10) = .pointer (some ⟨gr, 0, none⟩) := (hO_1 10 (by decide)).trans ((pm rfl).trans ta_1_10)
      have ta_2_11 : a_2.eval (.tmp 11) = .bool (false) := (hO_1 11 (by decide)).trans ((pm rfl).trans ta_1_11)
      have ta_2_9 : a_2.eval (.tmp 9) = .bool (false) := (hO_1 9 (by decide)).trans ((pm rfl).trans ta_1_9)
      have ta_2_13 : a_2.eval (.tmp 13) = .pointer (some ⟨gr, 0, none⟩) := (hO_1 13 (by decide)).trans ((pm rfl).trans ta_1_13)
      have ta_2_14 : a_2.eval (.tmp 14) = .pointer (some ⟨gr, 0, none⟩) := (hO_1 14 (by decide)).trans ((pm rfl).trans ta_1_14)
      have ta_2_15 : a_2.eval (.tmp 15) = .pointer (some ⟨gr, 5, none⟩) := (hO_1 15 (by decide)).trans ((pm rfl).trans ta_1_15)
      have ta_2_16 : a_2.eval (.tmp 16) = .bool (false) := (hO_1 16 (by decide)).trans ((pm rfl).trans ta_1_16)
      have ta_2_12 : a_2.eval (.tmp 12) = .bool (false) := (hO_1 12 (by decide)).trans ((pm rfl).trans ta_1_12)
      have ta_2_17 : a_2.eval (.tmp 17) = .pointer (some ⟨gr, 0, none⟩) := (hO_1 17 (by decide)).trans ((pm rfl).trans ta_1_17)
      have ta_2_18 : a_2.eval (.tmp 18) = .pointer (some ⟨gr, 0, none⟩) := (hO_1 18 (by decide)).trans ((pm rfl).trans ta_1_18)
      have ta_2_19 : a_2.eval (.tmp 19) = .pointer (some ⟨gr, 0, none⟩) := (hO_1 19 (by decide)).trans ((pm rfl).trans ta_1_19)
      have ta_2_20 : a_2.eval (.tmp 20) = .pointer (some ⟨gr, 3, none⟩) := (hO_1 20 (by decide)).trans ((pm rfl).trans ta_1_20)
      have ta_2_21 : a_2.eval (.tmp 21) = .slice Aw (ws0.length) (cw) := (hO_1 21 (by decide)).trans ((pm rfl).trans ta_1_21)
      have ta_2_22 : a_2.eval (.tmp 22) = .slice B0 (q) (d0) := (hO_1 22 (by decide)).trans ((pm rfl).trans ta_1_22)
      have ta_2_23 : a_2.eval (.tmp 23) = .slice A_1 (ws0.length + q) (c_1) := (hO_1 23 (by decide)).trans ((pm rfl).trans ta_1_23)
      have ta_2_24 : a_2.eval (.tmp 24) = .pointer (some ⟨gr, 0, none⟩) := (hO_1 24 (by decide)).trans ((pm rfl).trans ta_1_24)
      have ta_2_25 : a_2.eval (.tmp 25) = .pointer (some ⟨gr, 3, none⟩) := (hO_1 25 (by decide)).trans ((pm rfl).trans ta_1_25)
      have ta_2_6 : a_2.eval (.tmp 6) = .slice A5 (ps.length) (c5) := (hO_1 6 (by decide)).trans ((pm rfl).trans ta_1_6)
      have ta_2_7 : a_2.eval (.tmp 7) = .int .i64 ((0 : Nat) : Int) := (hO_1 7 (by decide)).trans ((pm rfl).trans ta_1_7)
      have ta_2_27 : a_2.eval (.tmp 27) = .pointer (some ⟨gr, 0, none⟩) := (hO_1 27 (by decide)).trans (pe hs_1 rfl rfl)
      have ta_2_28 : a_2.eval (.tmp 28) = .pointer (some ⟨gr, 0, none⟩) := (hO_1 28 (by decide)).trans (pe hs_1 rfl rfl)
      have ta_2_29 : a_2.eval (.tmp 29) = .pointer (some ⟨gr, 4, none⟩) := (hO_1 29 (by decide)).trans (pe hs_1 rfl rfl)
      have ta_2_30 : a_2.eval (.tmp 30) = .int .i64 ((body : Nat) : Int) := (hO_1 30 (by decide)).trans (pe hs_1 rfl rfl)
      have ta_2_31 : a_2.eval (.tmp 31) = .bool (true) := (hO_1 31 (by decide)).trans (pe hs_1 rfl rfl)
      have ta_2_32 : a_2.eval (.tmp 32) = .bool (true) := (hO_1 32 (by decide)).trans (pe hs_1 rfl rfl)
      have ta_2_33 : a_2.eval (.tmp 33) = .pointer (some ⟨gr, 0, none⟩) := (hO_1 33 (by decide)).trans (pe hs_1 rfl rfl)
      have ta_2_34 : a_2.eval (.tmp 34) = .pointer (some ⟨gr, 0, none⟩) := (hO_1 34 (by decide)).trans (pe hs_1 rfl rfl)
      have ta_2_35 : a_2.eval (.tmp 35) = .pointer (some ⟨gr, 3, none⟩) := (hO_1 35 (by decide)).trans (pe hs_1 rfl rfl)
      have ta_2_36 : a_2.eval (.tmp 36) = .slice A (ws.length) (c) := (hO_1 36 (by decide)).trans (pe hs_1 rfl rfl)
      have ta_2_37 : a_2.eval (.tmp 37) = .int .i64 ((ws.length : Nat) : Int) := (hO_1 37 (by decide)).trans (pe hs_1 rfl rfl)
      have ta_2_38 : a_2.eval (.tmp 38) = .bool (false) := (hO_1 38 (by decide)).trans (pe hs_1 rfl rfl)
      have ta_2_39 : a_2.eval (.tmp 39) = .bool (false) := (hO_1 39 (by decide)).trans (pe hs_1 rfl rfl)
      have ta_2_26 : a_2.eval (.tmp 26) = .bool (false) := (hO_1 26 (by decide)).trans (pe hs_1 rfl rfl)
      clear ta_1_0 ta_1_1 ta_1_4 ta_1_5 ta_1_10 ta_1_11 ta_1_9 ta_1_13 ta_1_14 ta_1_15 ta_1_16 ta_1_12 ta_1_17 ta_1_18 ta_1_19 ta_1_20 ta_1_21 ta_1_22 ta_1_23 ta_1_24 ta_1_25 ta_1_6 ta_1_7 hd_1
      replace hPB := hPB.nx hb_1
      replace hRw := hRw.nx hb_1
      replace hAO := hAO.nx hb_1
      replace hP := hP.nx hb_1
      have HB_3 := HBL.then hb_1
      have ta_2_45 : a_2.eval (.tmp 45) = .pointer (some ⟨gr, 0, none⟩) := hV_1 0 45 rfl rfl
      have ta_2_46 : a_2.eval (.tmp 46) = .pointer (some ⟨gr, 0, none⟩) := hV_1 1 46 rfl rfl
      have ta_2_47 : a_2.eval (.tmp 47) = .pointer (some ⟨gr, 4, none⟩) := hV_1 2 47 rfl rfl
      have ta_2_48 : a_2.eval (.tmp 48) = .int .i64 ((body : Nat) : Int) := hV_1 3 48 rfl rfl
      have ta_2_49 : a_2.eval (.tmp 49) = .bool (false) := hV_1 4 49 rfl rfl
      have ta_2_50 : a_2.eval (.tmp 50) = .bool (false) := hV_1 5 50 rfl rfl
      clear hV_1 hO_1
      simp only [List.drop_succ_cons, List.drop_zero]
      refine op_left (e := 50) rfl rfl (by kernel_rfl) ((pm rfl).trans ta_2_50) rfl ?_
      refine op_val (d := 61) (v := .bool (false)) rfl rfl (o_pickF rfl ((pm rfl).trans ta_2_50) rfl) ?_
      refine op_val (d := 44) (v := .bool (false)) rfl rfl (o_assign rfl (pe hs_2 rfl rfl)) ?_
      refine x_nil ?_
      refine hK_16 _ _ ?_
      refine w2_condF (pe hs_2 rfl rfl) ?_
      refine w2_exit ?_
      refine exb_out rfl ?_
      refine exb_out rfl ?_
      refine thn_exit ?_
      refine exb_hit ?_
      refine hK_11 _ _ ?_
      refine hK_10 _ _ ?_
      refine w2_seq (fun K_17 hK_17 => ?_)
      refine w2_seq (fun K_18 hK_18 => ?_)
      refine x_region (by kernel_rfl) ?_
      refine op_val (d := 73) (v := .int .i64 ((0 : Nat) : Int)) rfl rfl (o_move rfl ((pm rfl).trans ta_2_7)) ?_
      refine op_val (d := 74) (v := .bool (false)) rfl rfl (o_eq (o_neq (m := 0) (n := 0) rfl (pe hs_2 rfl rfl) rfl) rfl) ?_
      refine x_nil ?_
      refine hK_18 _ _ ?_
      refine w2_condF (pe hs_2 rfl rfl) ?_
      refine w2_skip ?_
      refine hK_17 _ _ ?_
      refine w2_seq (fun K_19 hK_19 => ?_)
      refine x_region (by kernel_rfl) ?_
      refine op_val (d := 81) (v := .slice A5 (ps.length) (c5)) rfl rfl (o_move rfl ((pm rfl).trans ta_2_6)) ?_
      refine op_val (d := 82) (v := .int .i64 ((0 : Nat) : Int)) rfl rfl (o_move rfl ((pm rfl).trans ta_2_7)) ?_
      refine op_val (d := 4) (v := .slice A5 (ps.length) (c5)) rfl rfl (o_assign rfl (pe hs_2 rfl rfl)) ?_
      refine op_val (d := 5) (v := .int .i64 ((0 : Nat) : Int)) rfl rfl (o_assign rfl (pe hs_2 rfl rfl)) ?_
      refine x_nil ?_
      refine hK_19 _ _ ?_
      refine w2_ret ?_
      refine ng_ret ?_
      refine ret2 rfl hd_2 (pe hs_2 rfl rfl) (pe hs_2 rfl rfl) ?_
      have h9 := b7
      rw [run_none q3] at h9
      cases h9
      exact ⟨ps, A5, c5, rfl, rfl, hRw, hAO, ⟨fun j => N j ∨ j = gr ∨ blkA A j, ⟨fun j hj => hj.elim (hP.cip.lt j) (fun h => h.elim (fun h => h ▸ hPB.lt) (hP.wt.lt j)), hev1, b12, N, A, c, hP, .inr (.inl rfl), fun j hj => .inl hj, fun j hj => .inr (.inr hj)⟩, fun j hj => hj.elim (fun h => (b4 j h).imp (hMN j) id) (fun h => h.elim (fun h => .inl (h ▸ hMg)) (fun h => (b5 j h).imp (hMA j) id)), fun j hj hm => hm.elim (s1 j hj) (fun h => h.elim (fun h => by subst h; obtain ⟨p, hp, hk⟩ := hj; exact (hAO p hp).sepB hPB (by decide) hk) (s3 j hj)), fun j hj hm => hm.elim (s2 j hj) (fun h => h.elim (fun h => by subst h; exact hRw.sepB hPB (by decide) hj) (hRw.sepW hP.wt j hj))⟩, HB_3.mono (fun k _ hk => hk.elim (fun e => e ▸ hMg) (fun h => h.elim (fun e => e ▸ hMN _ hC0) (fun h => hMA _ h)))⟩
    · skip
      dsimp only at q1 q2
      refine x_region (by kernel_rfl) ?_
      refine op_val (d := 27) (v := .pointer (some ⟨gr, 0, none⟩)) rfl rfl (o_move rfl ((pm rfl).trans ta_1_0)) ?_
      refine op_val (d := 28) (v := .pointer (some ⟨gr, 0, none⟩)) rfl rfl (o_nilCheck rfl (pe hs_1 rfl rfl)) ?_
      refine op_val (d := 29) (v := .pointer (some ⟨gr, 4, none⟩)) rfl rfl (o_field (k' := 4) rfl (pe hs_1 rfl rfl) (fun _ => by kernel_rfl)) ?_
      refine op_val (d := 30) (v := .int .i64 ((body : Nat) : Int)) rfl rfl (o_load1 rfl (pe hs_1 rfl rfl) hPB rfl ⟨by kernel_rfl, by kernel_rfl⟩) ?_
      refine op_val (d := 31) (v := .bool (true)) rfl rfl (o_eq (o_eql (m := body) (n := 0) rfl (pe hs_1 rfl rfl) rfl) (by rw [decide_eq_true q1])) ?_
      refine op_val (d := 32) (v := .bool (true)) rfl rfl (o_move rfl (pe hs_1 rfl rfl)) ?_
      refine op_valG (e := 32) (d := 33) (v := .pointer (some ⟨gr, 0, none⟩)) rfl rfl (by kernel_rfl) (pe hs_1 rfl rfl) (o_move rfl ((pm rfl).trans ta_1_0)) ?_
      refine op_valG (e := 32) (d := 34) (v := .pointer (some ⟨gr, 0, none⟩)) rfl rfl (by kernel_rfl) (pe hs_1 rfl rfl) (o_nilCheck rfl (pe hs_1 rfl rfl)) ?_
      refine op_valG (e := 32) (d := 35) (v := .pointer (some ⟨gr, 3, none⟩)) rfl rfl (by kernel_rfl) (pe hs_1 rfl rfl) (o_field (k' := 3) rfl (pe hs_1 rfl rfl) (fun _ => by kernel_rfl)) ?_
      refine op_valG (e := 32) (d := 36) (v := .slice A (ws.length) (c)) rfl rfl (by kernel_rfl) (pe hs_1 rfl rfl) (o_load1 rfl (pe hs_1 rfl rfl) hPB rfl ⟨by kernel_rfl, by kernel_rfl⟩) ?_
      refine op_valG (e := 32) (d := 37) (v := .int .i64 ((ws.length : Nat) : Int)) rfl rfl (by kernel_rfl) (pe hs_1 rfl rfl) (o_len rfl (pe hs_1 rfl rfl)) ?_
      refine op_valG (e := 32) (d := 38) (v := .bool (true)) rfl rfl (by kernel_rfl) (pe hs_1 rfl rfl) (o_eq (o_geq (m := ws.length) (n := 18) rfl (pe hs_1 rfl rfl) rfl) (by rw [decide_eq_true q2])) ?_
      refine op_val (d := 39) (v := .bool (true)) rfl rfl (o_pickT rfl (pe hs_1 rfl rfl) (pe hs_1 rfl rfl)) ?_
      refine op_val (d := 26) (v := .bool (true)) rfl rfl (o_assign rfl (pe hs_1 rfl rfl)) ?_
      refine x_nil ?_
      refine hK_15 _ _ ?_
      refine w2_condT (pe hs_1 rfl rfl) ?_
      refine w2_seq (fun K_20 hK_20 => ?_)
      rcases Classical.em (x.2.1 = 0) with hz | hz
      · skip
        refine x_region (by kernel_rfl) ?_
        refine op_val (d := 40) (v := .pointer (some ⟨gr, 0, none⟩)) rfl rfl (o_move rfl ((pm rfl).trans ta_1_0)) ?_
        refine op_call (vs := #[.pointer (some ⟨gr, 0, none⟩)]) rfl rfl (exec_call Try.func84 (by kernel_rfl) (by kernel_rfl) _ rfl _ _ (args1 (pe hs_1 rfl rfl))) (length_any _ (by rw [q1] at hP; exact hP) (by omega) (by rw [← q3, q1]) q2) (fun e_1 w_5 hR_3 => ?_)
        obtain ⟨rfl, ⟨N_1, A_2, c_2, hP_1, hN_1, hA_2⟩, hX_3⟩ := hR_3
        have hRw2 := hRw.keep2 hPB (by decide) hP.cip hX_3
        have hAO2 := hAO.keep2 hPB (by decide) hP.cip hX_3
        have HB_4 := HBL.step hX_3 (fun k hk hY => hY.elim .inl (fun h => .inr (.inl h)))
        have s1b := hN_1.sep s1 hAO.lt
        have s2b := hN_1.sep s2 hRw.lt
        have s3b : Sep (blkP ps) (blkA A_2) := fun j hj hm => s3 j hj (hA_2 j hm)
        have hN9 := b4.trans hN_1 HBL.size
        have hA9 := fun j hj => b5 j (hA_2 j hj)
        obtain ⟨i1, i2, i3, i4, i5, i6⟩ := stepR_inv q3
        have i7 := stepR_lt q3
        dsimp only at i1 i2 i3 i4 i5 i6 i7
        refine ⟨_, rfl, ?_⟩
        refine op_val (d := 7) (v := .int .i64 ((x.2.1 : Nat) : Int)) rfl rfl (o_assign rfl (pe hs_1 rfl rfl)) ?_
        refine x_nil ?_
        refine hK_20 _ _ ?_
        refine w2_seq (fun K_21 hK_21 => ?_)
        refine x_region (by kernel_rfl) ?_
        refine op_val (d := 42) (v := .int .i64 ((x.2.1 : Nat) : Int)) rfl rfl (o_move rfl (pe hs_1 rfl rfl)) ?_
        refine op_val (d := 43) (v := .bool (false)) rfl rfl (o_eq (o_neq (m := x.2.1) (n := 0) rfl (pe hs_1 rfl rfl) rfl) (by simp [hz])) ?_
        refine x_nil ?_
        refine hK_21 _ _ ?_
        refine w2_condF (pe hs_1 rfl rfl) ?_
        refine w2_skip ?_
        refine hK_14 _ _ ?_
        refine hK_13 _ _ ?_
        refine hK_12 _ _ _ ⟨N_1, A_2, c_2, x.1, ps, A5, c5, x.2.1, f1, rfl, (by rw [putsR_size]; exact hs_1), (by rw [putsR_defers]; exact hd_1), ((pm rfl).trans ta_1_0), ((pm rfl).trans ta_1_1), ((pm rfl).trans ta_1_4), ((pm rfl).trans ta_1_5), ((pm rfl).trans ta_1_6), (pe hs_1 rfl rfl), ((pm rfl).trans ta_1_9), ((pm rfl).trans ta_1_10), ((pm rfl).trans ta_1_11), ((pm rfl).trans ta_1_12), ((pm rfl).trans ta_1_13), ((pm rfl).trans ta_1_14), ((pm rfl).trans ta_1_15), ((pm rfl).trans ta_1_16), ((pm rfl).trans ta_1_17), ((pm rfl).trans ta_1_18), ((pm rfl).trans ta_1_19), ((pm rfl).trans ta_1_20), ((pm rfl).trans ta_1_21), ((pm rfl).trans ta_1_22), ((pm rfl).trans ta_1_23), ((pm rfl).trans ta_1_24), ((pm rfl).trans ta_1_25), hP_1, hRw2, hAO2, hN9, hA9, HB_4, (by rw [← b7, run_good q3 hz, i6 q1, List.append_nil]), (by omega), (by omega), (by omega), i2, (i5 b12), (by omega), hz, i4, s1b, s2b, s3b⟩ ?_
        omega
      · skip
        refine x_region (by kernel_rfl) ?_
        refine op_val (d := 40) (v := .pointer (some ⟨gr, 0, none⟩)) rfl rfl (o_move rfl ((pm rfl).trans ta_1_0)) ?_
        refine op_call (vs := #[.pointer (some ⟨gr, 0, none⟩)]) rfl rfl (exec_call Try.func84 (by kernel_rfl) (by kernel_rfl) _ rfl _ _ (args1 (pe hs_1 rfl rfl))) (length_any _ (by rw [q1] at hP; exact hP) (by omega) (by rw [← q3, q1]) q2) (fun e_2 w_6 hR_4 => ?_)
        obtain ⟨rfl, ⟨N_2, A_3, c_3, hP_2, hN_2, hA_3⟩, hX_4⟩ := hR_4
        have hRw2 := hRw.keep2 hPB (by decide) hP.cip hX_4
        have hAO2 := hAO.keep2 hPB (by decide) hP.cip hX_4
        have HB_5 := HBL.step hX_4 (fun k hk hY => hY.elim .inl (fun h => .inr (.inl h)))
        have s1b := hN_2.sep s1 hAO.lt
        have s2b := hN_2.sep s2 hRw.lt
        have s3b : Sep (blkP ps) (blkA A_3) := fun j hj hm => s3 j hj (hA_3 j hm)
        have hN9 := b4.trans hN_2 HBL.size
        have hA9 := fun j hj => b5 j (hA_3 j hj)
        obtain ⟨i1, i2, i3, i4, i5, i6⟩ := stepR_inv q3
        have i7 := stepR_lt q3
        dsimp only at i1 i2 i3 i4 i5 i6 i7
        have hPB2 := hP_2.blk
        have hC2 := hP_2.cip
        have hn2 := hP_2.apart
        refine ⟨_, rfl, ?_⟩
        refine op_val (d := 7) (v := .int .i64 ((x.2.1 : Nat) : Int)) rfl rfl (o_assign rfl (pe hs_1 rfl rfl)) ?_
        refine x_nil ?_
        refine hK_20 _ _ ?_
        refine w2_seq (fun K_22 hK_22 => ?_)
        refine x_region (by kernel_rfl) ?_
        refine op_val (d := 42) (v := .int .i64 ((x.2.1 : Nat) : Int)) rfl rfl (o_move rfl (pe hs_1 rfl rfl)) ?_
        refine op_val (d := 43) (v := .bool (true)) rfl rfl (o_eq (o_neq (m := x.2.1) (n := 0) rfl (pe hs_1 rfl rfl) rfl) (by simp [hz])) ?_
        refine x_nil ?_
        refine hK_22 _ _ ?_
        refine w2_condT (pe hs_1 rfl rfl) ?_
        refine w2_exit ?_
        refine exb_out rfl ?_
        refine exb_out rfl ?_
        refine thn_exit ?_
        refine exb_hit ?_
        refine hK_11 _ _ ?_
        refine hK_10 _ _ ?_
        refine w2_seq (fun K_23 hK_23 => ?_)
        refine w2_seq (fun K_24 hK_24 => ?_)
        refine x_region (by kernel_rfl) ?_
        refine op_val (d := 73) (v := .int .i64 ((x.2.1 : Nat) : Int)) rfl rfl (o_move rfl (pe hs_1 rfl rfl)) ?_
        refine op_val (d := 74) (v := .bool (true)) rfl rfl (o_eq (o_neq (m := x.2.1) (n := 0) rfl (pe hs_1 rfl rfl) rfl) (by simp [hz])) ?_
        refine x_nil ?_
        refine hK_24 _ _ ?_
        refine w2_condT (pe hs_1 rfl rfl) ?_
        refine x_region (by kernel_rfl) ?_
        refine op_val (d := 75) (v := .pointer (some ⟨gr, 0, none⟩)) rfl rfl (o_move rfl ((pm rfl).trans ta_1_0)) ?_
        refine op_val (d := 76) (v := .pointer (some ⟨gr, 0, none⟩)) rfl rfl (o_move rfl ((pm rfl).trans ta_1_0)) ?_
        refine op_val (d := 77) (v := .pointer (some ⟨gr, 0, none⟩)) rfl rfl (o_nilCheck rfl (pe hs_1 rfl rfl)) ?_
        refine op_val (d := 78) (v := .pointer (some ⟨gr, 5, none⟩)) rfl rfl (o_field (k' := 5) rfl (pe hs_1 rfl rfl) (fun _ => by kernel_rfl)) ?_
        refine op_do rfl rfl (o_store1 rfl (pe hs_1 rfl rfl) rfl rfl rfl hPB2 (by simp only [List.length_cons, List.length_nil]; omega) ⟨by kernel_rfl, by kernel_rfl⟩) (fun w_7 hR_5 => ?_)
        obtain ⟨hB_2, hX_5⟩ := hR_5
        replace hC2 := hC2.keepX hX_5 hn2
        replace hRw2 := hRw2.keepX hPB2 (by decide) hX_5
        replace hAO2 := hAO2.keepX hPB2 (by decide) hX_5
        have HB_6 := HB_5.step hX_5 (fun k hk (hY : k = gr) => .inl hY)
        clear hPB2
        simp only [List.set_cons_zero, List.set_cons_succ] at hB_2
        refine op_val (d := 79) (v := .pointer (some ⟨gr, 0, none⟩)) rfl rfl (o_nilCheck rfl (pe hs_1 rfl rfl)) ?_
        refine op_val (d := 80) (v := .pointer (some ⟨gr, 3, none⟩)) rfl rfl (o_field (k' := 3) rfl (pe hs_1 rfl rfl) (fun _ => by kernel_rfl)) ?_
        refine op_do rfl rfl (o_store1 rfl (pe hs_1 rfl rfl) rfl rfl rfl hB_2 (by simp only [List.length_cons, List.length_nil]; omega) ⟨by kernel_rfl, by kernel_rfl⟩) (fun w_8 hR_6 => ?_)
        obtain ⟨hB_3, hX_6⟩ := hR_6
        replace hC2 := hC2.keepX hX_6 hn2
        replace hRw2 := hRw2.keepX hB_2 (by decide) hX_6
        replace hAO2 := hAO2.keepX hB_2 (by decide) hX_6
        have HB_7 := HB_6.step hX_6 (fun k hk (hY : k = gr) => .inl hY)
        clear hB_2
        simp only [List.set_cons_zero, List.set_cons_succ] at hB_3
        refine x_nil ?_
        refine hK_23 _ _ ?_
        refine w2_seq (fun K_25 hK_25 => ?_)
        refine x_region (by kernel_rfl) ?_
        refine op_val (d := 81) (v := .slice A5 (ps.length) (c5)) rfl rfl (o_move rfl ((pm rfl).trans ta_1_6)) ?_
        refine op_val (d := 82) (v := .int .i64 ((x.2.1 : Nat) : Int)) rfl rfl (o_move rfl (pe hs_1 rfl rfl)) ?_
        refine op_val (d := 4) (v := .slice A5 (ps.length) (c5)) rfl rfl (o_assign rfl (pe hs_1 rfl rfl)) ?_
        refine op_val (d := 5) (v := .int .i64 ((x.2.1 : Nat) : Int)) rfl rfl (o_assign rfl (pe hs_1 rfl rfl)) ?_
        refine x_nil ?_
        refine hK_25 _ _ ?_
        refine w2_ret ?_
        refine ng_ret ?_
        refine ret2 rfl hd_1 (pe hs_1 rfl rfl) (pe hs_1 rfl rfl) ?_
        have h9 := b7
        rw [run_bad q3 hz] at h9
        cases h9
        exact ⟨ps, A5, c5, rfl, rfl, hRw2, hAO2, ⟨fun j => N_2 j ∨ j = gr, ⟨fun j hj => hj.elim (hC2.lt j) (fun h => h ▸ hB_3.lt), by show 1 ≤ x.1.co.every; rw [i2]; exact hev1, i5 b12, N_2, none, 0, ⟨hC2, hB_3, Wt.nil _, hn2, fun j hj => absurd hj blkA_none⟩, .inr rfl, fun j hj => .inl hj, fun j hj => absurd hj blkA_none⟩, fun j hj => hj.elim (fun h => (hN9 j h).imp (hMN j) id) (fun h => .inl (h ▸ hMg)), fun j hj hm => hm.elim (s1b j hj) (fun h => by subst h; obtain ⟨p, hp, hk⟩ := hj; exact (hAO2 p hp).sepB hB_3 (by decide) hk), fun j hj hm => hm.elim (s2b j hj) (fun h => by subst h; exact hRw2.sepB hB_3 (by decide) hj)⟩, HB_7.mono (fun k _ hk => hk.elim (fun e => e ▸ hMg) (fun h => h.elim (fun e => e ▸ hMN _ hC0) (fun h => hMA _ h)))⟩
    · skip
      dsimp only at q1 q2
      refine x_region (by kernel_rfl) ?_
      refine op_val (d := 27) (v := .pointer (some ⟨gr, 0, none⟩)) rfl rfl (o_move rfl ((pm rfl).trans ta_1_0)) ?_
      refine op_val (d := 28) (v := .pointer (some ⟨gr, 0, none⟩)) rfl rfl (o_nilCheck rfl (pe hs_1 rfl rfl)) ?_
      refine op_val (d := 29) (v := .pointer (some ⟨gr, 4, none⟩)) rfl rfl (o_field (k' := 4) rfl (pe hs_1 rfl rfl) (fun _ => by kernel_rfl)) ?_
      refine op_val (d := 30) (v := .int .i64 ((body : Nat) : Int)) rfl rfl (o_load1 rfl (pe hs_1 rfl rfl) hPB rfl ⟨by kernel_rfl, by kernel_rfl⟩) ?_
      refine op_val (d := 31) (v := .bool (false)) rfl rfl (o_eq (o_eql (m := body) (n := 0) rfl (pe hs_1 rfl rfl) rfl) (by rw [decide_eq_false (by omega)])) ?_
      refine op_val (d := 32) (v := .bool (false)) rfl rfl (o_move rfl (pe hs_1 rfl rfl)) ?_
      refine op_left (e := 32) rfl rfl (by kernel_rfl) (pe hs_1 rfl rfl) rfl ?_
      refine op_left (e := 32) rfl rfl (by kernel_rfl) (pe hs_1 rfl rfl) rfl ?_
      refine op_left (e := 32) rfl rfl (by kernel_rfl) (pe hs_1 rfl rfl) rfl ?_
      refine op_left (e := 32) rfl rfl (by kernel_rfl) (pe hs_1 rfl rfl) rfl ?_
      refine op_left (e := 32) rfl rfl (by kernel_rfl) (pe hs_1 rfl rfl) rfl ?_
      refine op_left (e := 32) rfl rfl (by kernel_rfl) (pe hs_1 rfl rfl) rfl ?_
      refine op_val (d := 39) (v := .bool (false)) rfl rfl (o_pickF rfl (pe hs_1 rfl rfl) rfl) ?_
      refine op_val (d := 26) (v := .bool (false)) rfl rfl (o_assign rfl (pe hs_1 rfl rfl)) ?_
      refine x_nil ?_
      refine hK_15 _ _ ?_
      refine w2_condF (pe hs_1 rfl rfl) ?_
      refine w2_seq (fun K_26 hK_26 => ?_)
      refine x_drawn 15 [fun _ v => v = .pointer (some ⟨gr, 0, none⟩), fun _ v => v = .pointer (some ⟨gr, 0, none⟩), fun _ v => v = .pointer (some ⟨gr, 4, none⟩), fun _ v => v = .int .i64 ((body : Nat) : Int), fun _ v => v = .bool (true), fun _ v => v = .bool (true), fun _ v => v = .pointer (some ⟨gr, 0, none⟩), fun _ v => v = .pointer (some ⟨gr, 0, none⟩), fun _ v => v = .pointer (some ⟨gr, 3, none⟩), fun _ v => v = .slice A (ws.length) (c), fun _ v => v = .int .i64 ((ws.length : Nat) : Int), fun _ v => v = .pointer (some ⟨gr, 0, none⟩), fun _ v => v = .pointer (some ⟨gr, 0, none⟩), fun _ v => v = .pointer (some ⟨gr, 4, none⟩), fun _ v => v = .int .i64 ((body : Nat) : Int)] [45, 46, 47, 48, 49, 50, 51, 52, 53, 54, 55, 56, 57, 58, 59] hs_1 hd_1 (by kernel_rfl) (by kernel_rfl) (by kernel_rfl) (by kernel_rfl) (by kernel_rfl) ⟨stLit, stLit, stLit, stLit, stLit, stLit, stLit, stLit, stLit, stLit, stLit, stLit, stLit, stLit, stLit, trivial⟩ ⟨(step_ok rfl (fun a' w' hb' hO hD => by
          have d_7 : a'.eval (.tmp 0) = .pointer (some ⟨gr, 0, none⟩) := (hO 0 (by decide)).trans ((pm rfl).trans ta_1_0)
          exact .inl ⟨_, _, (o_move rfl d_7), rfl, Below.refl _ _⟩)),
(step_ok rfl (fun a' w' hb' hO hD => by
          have d_8 : a'.eval (.tmp 45) = .pointer (some ⟨gr, 0, none⟩) := hD 0 45 (by kernel_rfl) rfl
          exact .inl ⟨_, _, (o_nilCheck rfl d_8), rfl, Below.refl _ _⟩)),
(step_ok rfl (fun a' w' hb' hO hD => by
          have d_9 : a'.eval (.tmp 46) = .pointer (some ⟨gr, 0, none⟩) := hD 1 46 (by kernel_rfl) rfl
          exact .inl ⟨_, _, (o_field (k' := 4) rfl d_9 (fun _ => by kernel_rfl)), rfl, Below.refl _ _⟩)),
(step_ok rfl (fun a' w' hb' hO hD => by
          have d_10 : a'.eval (.tmp 47) = .pointer (some ⟨gr, 4, none⟩) := hD 2 47 (by kernel_rfl) rfl
          exact .inl ⟨_, _, (o_load1 rfl d_10 (hPB.nx hb') rfl ⟨by kernel_rfl, by kernel_rfl⟩), rfl, Below.refl _ _⟩)),
(step_ok rfl (fun a' w' hb' hO hD => by
          have d_11 : a'.eval (.tmp 48) = .int .i64 ((body : Nat) : Int) := hD 3 48 (by kernel_rfl) rfl
          have e0 : (.bool (decide (0 < body)) : Value) = .bool (true) := (by rw [decide_eq_true q1])
          exact .inl ⟨_, _, (o_gtr (m := body) (n := 0) rfl d_11 rfl), e0, Below.refl _ _⟩)),
(step_ok rfl (fun a' w' hb' hO hD => by
          have d_12 : a'.eval (.tmp 49) = .bool (true) := hD 4 49 (by kernel_rfl) rfl
          exact .inl ⟨_, _, (o_move rfl d_12), rfl, Below.refl _ _⟩)),
(step_yes 5 true 50 rfl rfl (by kernel_rfl) (fun _ _ h => h) (fun a' w' hb' hO hD => by
          have d_13 : a'.eval (.tmp 0) = .pointer (some ⟨gr, 0, none⟩) := (hO 0 (by decide)).trans ((pm rfl).trans ta_1_0)
          exact .inl ⟨_, _, (o_move rfl d_13), rfl, Below.refl _ _⟩)),
(step_yes 5 true 50 rfl rfl (by kernel_rfl) (fun _ _ h => h) (fun a' w' hb' hO hD => by
          have d_14 : a'.eval (.tmp 51) = .pointer (some ⟨gr, 0, none⟩) := hD 6 51 (by kernel_rfl) rfl
          exact .inl ⟨_, _, (o_nilCheck rfl d_14), rfl, Below.refl _ _⟩)),
(step_yes 5 true 50 rfl rfl (by kernel_rfl) (fun _ _ h => h) (fun a' w' hb' hO hD => by
          have d_15 : a'.eval (.tmp 52) = .pointer (some ⟨gr, 0, none⟩) := hD 7 52 (by kernel_rfl) rfl
          exact .inl ⟨_, _, (o_field (k' := 3) rfl d_15 (fun _ => by kernel_rfl)), rfl, Below.refl _ _⟩)),
(step_yes 5 true 50 rfl rfl (by kernel_rfl) (fun _ _ h => h) (fun a' w' hb' hO hD => by
          have d_16 : a'.eval (.tmp 53) = .pointer (some ⟨gr, 3, none⟩) := hD 8 53 (by kernel_rfl) rfl
          exact .inl ⟨_, _, (o_load1 rfl d_16 (hPB.nx hb') rfl ⟨by kernel_rfl, by kernel_rfl⟩), rfl, Below.refl _ _⟩)),
(step_yes 5 true 50 rfl rfl (by kernel_rfl) (fun _ _ h => h) (fun a' w' hb' hO hD => by
          have d_17 : a'.eval (.tmp 54) = .slice A (ws.length) (c) := hD 9 54 (by kernel_rfl) rfl
          exact .inl ⟨_, _, (o_len rfl d_17), rfl, Below.refl _ _⟩)),
(step_yes 5 true 50 rfl rfl (by kernel_rfl) (fun _ _ h => h) (fun a' w' hb' hO hD => by
          have d_18 : a'.eval (.tmp 0) = .pointer (some ⟨gr, 0, none⟩) := (hO 0 (by decide)).trans ((pm rfl).trans ta_1_0)
          exact .inl ⟨_, _, (o_move rfl d_18), rfl, Below.refl _ _⟩)),
(step_yes 5 true 50 rfl rfl (by kernel_rfl) (fun _ _ h => h) (fun a' w' hb' hO hD => by
          have d_19 : a'.eval (.tmp 56) = .pointer (some ⟨gr, 0, none⟩) := hD 11 56 (by kernel_rfl) rfl
          exact .inl ⟨_, _, (o_nilCheck rfl d_19), rfl, Below.refl _ _⟩)),
(step_yes 5 true 50 rfl rfl (by kernel_rfl) (fun _ _ h => h) (fun a' w' hb' hO hD => by
          have d_20 : a'.eval (.tmp 57) = .pointer (some ⟨gr, 0, none⟩) := hD 12 57 (by kernel_rfl) rfl
          exact .inl ⟨_, _, (o_field (k' := 4) rfl d_20 (fun _ => by kernel_rfl)), rfl, Below.refl _ _⟩)),
(step_yes 5 true 50 rfl rfl (by kernel_rfl) (fun _ _ h => h) (fun a' w' hb' hO hD => by
          have d_21 : a'.eval (.tmp 58) = .pointer (some ⟨gr, 4, none⟩) := hD 13 58 (by kernel_rfl) rfl
          exact .inl ⟨_, _, (o_load1 rfl d_21 (hPB.nx hb') rfl ⟨by kernel_rfl, by kernel_rfl⟩), rfl, Below.refl _ _⟩)), trivial⟩ (fun a_3 w_9 hs_3 hd_3 hb_2 hO_2 hV_2 => ?_)
      have ta_3_0 : a_3.eval (.tmp 0) = .pointer (some ⟨gr, 0, none⟩) := (hO_2 0 (by decide)).trans ((pm rfl).trans ta_1_0)
      have ta_3_1 : a_3.eval (.tmp 1) = .slice B0 (q) (d0) := (hO_2 1 (by decide)).trans ((pm rfl).trans ta_1_1)
      have ta_3_4 : a_3.eval (.tmp 4) = .slice none (0) (0) := (hO_2 4 (by decide)).trans ((pm rfl).trans ta_1_4)
      have ta_3_5 : a_3.eval (.tmp 5) = .int .i64 ((0 : Nat) : Int) := (hO_2 5 (by decide)).trans ((pm rfl).trans ta_1_5)
      have ta_3_10 : a_3.eval (.tmp 10) = .pointer (some ⟨gr, 0, none⟩) := (hO_2 10 (by decide)).trans ((pm rfl).trans ta_1_10)
      have ta_3_11 : a_3.eval (.tmp 11) = .bool (false) := (hO_2 11 (by decide)).trans ((pm rfl).trans ta_1_11)
      have ta_3_9 : a_3.eval (.tmp 9) = .bool (false) := (hO_2 9 (by decide)).trans ((pm rfl).trans ta_1_9)
      have ta_3_13 : a_3.eval (.tmp 13) = .pointer (some ⟨gr, 0, none⟩) := (hO_2 13 (by decide)).trans ((pm rfl).trans ta_1_13)
      have ta_3_14 : a_3.eval (.tmp 14) = .pointer (some ⟨gr, 0, none⟩) := (hO_2 14 (by decide)).trans ((pm rfl).trans ta_1_14)
      have ta_3_15 : a_3.eval (.tmp 15) = .pointer (some ⟨gr, 5, none⟩) := (hO_2 15 (by decide)).trans ((pm rfl).trans ta_1_15)
      have ta_3_16 : a_3.eval (.tmp 16) = .bool (false) := (hO_2 16 (by decide)).trans ((pm rfl).trans ta_1_16)
      have ta_3_12 : a_3.eval (.tmp 12) = .bool (false) := (hO_2 12 (by decide)).trans ((pm rfl).trans ta_1_12)
      have ta_3_17 : a_3.eval (.tmp 17) = .pointer (some ⟨gr, 0, none⟩) := (hO_2 17 (by decide)).trans ((pm rfl).trans ta_1_17)
      have ta_3_18 : a_3.eval (.tmp 18) = .pointer (some ⟨gr, 0, none⟩) := (hO_2 18 (by decide)).trans ((pm rfl).trans ta_1_18)
      have ta_3_19 : a_3.eval (.tmp 19) = .pointer (some ⟨gr, 0, none⟩) := (hO_2 19 (by decide)).trans ((pm rfl).trans ta_1_19)
      have ta_3_20 : a_3.eval (.tmp 20) = .pointer (some ⟨gr, 3, none⟩) := (hO_2 20 (by decide)).trans ((pm rfl).trans ta_1_20)
      have ta_3_21 : a_3.eval (.tmp 21) = .slice Aw (ws0.length) (cw) := (hO_2 21 (by decide)).trans ((pm rfl).trans ta_1_21)
      have ta_3_22 : a_3.eval (.tmp 22) = .slice B0 (q) (d0) := (hO_2 22 (by decide)).trans ((pm rfl).trans ta_1_22)
      have ta_3_23 : a_3.eval (.tmp 23) = .slice A_1 (ws0.length + q) (c_1) := (hO_2 23 (by decide)).trans ((pm rfl).trans ta_1_23)
      have ta_3_24 : a_3.eval (.tmp 24) = .pointer (some ⟨gr, 0, none⟩) := (hO_2 24 (by decide)).trans ((pm rfl).trans ta_1_24)
      have ta_3_25 : a_3.eval (.tmp 25) = .pointer (some ⟨gr, 3, none⟩) := (hO_2 25 (by decide)).trans ((pm rfl).trans ta_1_25)
      have ta_3_6 : a_3.eval (.tmp 6) = .slice A5 (ps.length) (c5) := (hO_2 6 (by decide)).trans ((pm rfl).trans ta_1_6)
      have ta_3_7 : a_3.eval (.tmp 7) = .int .i64 ((0 : Nat) : Int) := (hO_2 7 (by decide)).trans ((pm rfl).trans ta_1_7)
      have ta_3_27 : a_3.eval (.tmp 27) = .pointer (some ⟨gr, 0, none⟩) := (hO_2 27 (by decide)).trans (pe hs_1 rfl rfl)
      have ta_3_28 : a_3.eval (.tmp 28) = .pointer (some ⟨gr, 0, none⟩) := (hO_2 28 (by decide)).trans (pe hs_1 rfl rfl)
      have ta_3_29 : a_3.eval (.tmp 29) = .pointer (some ⟨gr, 4, none⟩) := (hO_2 29 (by decide)).trans (pe hs_1 rfl rfl)
      have ta_3_30 : a_3.eval (.tmp 30) = .int .i64 ((body : Nat) : Int) := (hO_2 30 (by decide)).trans (pe hs_1 rfl rfl)
      have ta_3_31 : a_3.eval (.tmp 31) = .bool (false) := (hO_2 31 (by decide)).trans (pe hs_1 rfl rfl)
      have ta_3_32 : a_3.eval (.tmp 32) = .bool (false) := (hO_2 32 (by decide)).trans (pe hs_1 rfl rfl)
      have ta_3_33 : a_3.eval (.tmp 33) = undef := (hO_2 33 (by decide)).trans (pe hs_1 rfl rfl)
      have ta_3_34 : a_3.eval (.tmp 34) = undef := (hO_2 34 (by decide)).trans (pe hs_1 rfl rfl)
      have ta_3_35 : a_3.eval (.tmp 35) = undef := (hO_2 35 (by decide)).trans (pe hs_1 rfl rfl)
      have ta_3_36 : a_3.eval (.tmp 36) = undef := (hO_2 36 (by decide)).trans (pe hs_1 rfl rfl)
      have ta_3_37 : a_3.eval (.tmp 37) = undef := (hO_2 37 (by decide)).trans (pe hs_1 rfl rfl)
      have ta_3_38 : a_3.eval (.tmp 38) = undef := (hO_2 38 (by decide)).trans (pe hs_1 rfl rfl)
      have ta_3_39 : a_3.eval (.tmp 39) = .bool (false) := (hO_2 39 (by decide)).trans (pe hs_1 rfl rfl)
      have ta_3_26 : a_3.eval (.tmp 26) = .bool (false) := (hO_2 26 (by decide)).trans (pe hs_1 rfl rfl)
      clear ta_1_0 ta_1_1 ta_1_4 ta_1_5 ta_1_10 ta_1_11 ta_1_9 ta_1_13 ta_1_14 ta_1_15 ta_1_16 ta_1_12 ta_1_17 ta_1_18 ta_1_19 ta_1_20 ta_1_21 ta_1_22 ta_1_23 ta_1_24 ta_1_25 ta_1_6 ta_1_7 hd_1
      replace hPB := hPB.nx hb_2
      replace hRw := hRw.nx hb_2
      replace hAO := hAO.nx hb_2
      replace hP := hP.nx hb_2
      have HB_8 := HBL.then hb_2
      have ta_3_45 : a_3.eval (.tmp 45) = .pointer (some ⟨gr, 0, none⟩) := hV_2 0 45 rfl rfl
      have ta_3_46 : a_3.eval (.tmp 46) = .pointer (some ⟨gr, 0, none⟩) := hV_2 1 46 rfl rfl
      have ta_3_47 : a_3.eval (.tmp 47) = .pointer (some ⟨gr, 4, none⟩) := hV_2 2 47 rfl rfl
      have ta_3_48 : a_3.eval (.tmp 48) = .int .i64 ((body : Nat) : Int) := hV_2 3 48 rfl rfl
      have ta_3_49 : a_3.eval (.tmp 49) = .bool (true) := hV_2 4 49 rfl rfl
      have ta_3_50 : a_3.eval (.tmp 50) = .bool (true) := hV_2 5 50 rfl rfl
      have ta_3_51 : a_3.eval (.tmp 51) = .pointer (some ⟨gr, 0, none⟩) := hV_2 6 51 rfl rfl
      have ta_3_52 : a_3.eval (.tmp 52) = .pointer (some ⟨gr, 0, none⟩) := hV_2 7 52 rfl rfl
      have ta_3_53 : a_3.eval (.tmp 53) = .pointer (some ⟨gr, 3, none⟩) := hV_2 8 53 rfl rfl
      have ta_3_54 : a_3.eval (.tmp 54) = .slice A (ws.length) (c) := hV_2 9 54 rfl rfl
      have ta_3_55 : a_3.eval (.tmp 55) = .int .i64 ((ws.length : Nat) : Int) := hV_2 10 55 rfl rfl
      have ta_3_56 : a_3.eval (.tmp 56) = .pointer (some ⟨gr, 0, none⟩) := hV_2 11 56 rfl rfl
      have ta_3_57 : a_3.eval (.tmp 57) = .pointer (some ⟨gr, 0, none⟩) := hV_2 12 57 rfl rfl
      have ta_3_58 : a_3.eval (.tmp 58) = .pointer (some ⟨gr, 4, none⟩) := hV_2 13 58 rfl rfl
      have ta_3_59 : a_3.eval (.tmp 59) = .int .i64 ((body : Nat) : Int) := hV_2 14 59 rfl rfl
      clear hV_2 hO_2
      simp only [List.drop_succ_cons, List.drop_zero]
      refine op_valG (e := 50) (d := 60) (v := .bool (false)) rfl rfl (by kernel_rfl) ((pm rfl).trans ta_3_50) (o_eq (o_geq (m := ws.length) (n := body) rfl ((pm rfl).trans ta_3_55) ((pm rfl).trans ta_3_59)) (by rw [decide_eq_false (by omega)])) ?_
      refine op_val (d := 61) (v := .bool (false)) rfl rfl (o_pickT rfl ((pm rfl).trans ta_3_50) (pe hs_3 rfl rfl)) ?_
      refine op_val (d := 44) (v := .bool (false)) rfl rfl (o_assign rfl (pe hs_3 rfl rfl)) ?_
      refine x_nil ?_
      refine hK_26 _ _ ?_
      refine w2_condF (pe hs_3 rfl rfl) ?_
      refine w2_exit ?_
      refine exb_out rfl ?_
      refine exb_out rfl ?_
      refine thn_exit ?_
      refine exb_hit ?_
      refine hK_11 _ _ ?_
      refine hK_10 _ _ ?_
      refine w2_seq (fun K_27 hK_27 => ?_)
      refine w2_seq (fun K_28 hK_28 => ?_)
      refine x_region (by kernel_rfl) ?_
      refine op_val (d := 73) (v := .int .i64 ((0 : Nat) : Int)) rfl rfl (o_move rfl ((pm rfl).trans ta_3_7)) ?_
      refine op_val (d := 74) (v := .bool (false)) rfl rfl (o_eq (o_neq (m := 0) (n := 0) rfl (pe hs_3 rfl rfl) rfl) rfl) ?_
      refine x_nil ?_
      refine hK_28 _ _ ?_
      refine w2_condF (pe hs_3 rfl rfl) ?_
      refine w2_skip ?_
      refine hK_27 _ _ ?_
      refine w2_seq (fun K_29 hK_29 => ?_)
      refine x_region (by kernel_rfl) ?_
      refine op_val (d := 81) (v := .slice A5 (ps.length) (c5)) rfl rfl (o_move rfl ((pm rfl).trans ta_3_6)) ?_
      refine op_val (d := 82) (v := .int .i64 ((0 : Nat) : Int)) rfl rfl (o_move rfl ((pm rfl).trans ta_3_7)) ?_
      refine op_val (d := 4) (v := .slice A5 (ps.length) (c5)) rfl rfl (o_assign rfl (pe hs_3 rfl rfl)) ?_
      refine op_val (d := 5) (v := .int .i64 ((0 : Nat) : Int)) rfl rfl (o_assign rfl (pe hs_3 rfl rfl)) ?_
      refine x_nil ?_
      refine hK_29 _ _ ?_
      refine w2_ret ?_
      refine ng_ret ?_
      refine ret2 rfl hd_3 (pe hs_3 rfl rfl) (pe hs_3 rfl rfl) ?_
      have h9 := b7
      rw [run_none q3] at h9
      cases h9
      exact ⟨ps, A5, c5, rfl, rfl, hRw, hAO, ⟨fun j => N j ∨ j = gr ∨ blkA A j, ⟨fun j hj => hj.elim (hP.cip.lt j) (fun h => h.elim (fun h => h ▸ hPB.lt) (hP.wt.lt j)), hev1, b12, N, A, c, hP, .inr (.inl rfl), fun j hj => .inl hj, fun j hj => .inr (.inr hj)⟩, fun j hj => hj.elim (fun h => (b4 j h).imp (hMN j) id) (fun h => h.elim (fun h => .inl (h ▸ hMg)) (fun h => (b5 j h).imp (hMA j) id)), fun j hj hm => hm.elim (s1 j hj) (fun h => h.elim (fun h => by subst h; obtain ⟨p, hp, hk⟩ := hj; exact (hAO p hp).sepB hPB (by decide) hk) (s3 j hj)), fun j hj hm => hm.elim (s2 j hj) (fun h => h.elim (fun h => by subst h; exact hRw.sepB hPB (by decide) hj) (hRw.sepW hP.wt j hj))⟩, HB_8.mono (fun k _ hk => hk.elim (fun e => e ▸ hMg) (fun h => h.elim (fun e => e ▸ hMN _ hC0) (fun h => hMA _ h)))⟩
    · skip
      dsimp only at q1 q2
      refine x_region (by kernel_rfl) ?_
      refine op_val (d := 27) (v := .pointer (some ⟨gr, 0, none⟩)) rfl rfl (o_move rfl ((pm rfl).trans ta_1_0)) ?_
      refine op_val (d := 28) (v := .pointer (some ⟨gr, 0, none⟩)) rfl rfl (o_nilCheck rfl (pe hs_1 rfl rfl)) ?_
      refine op_val (d := 29) (v := .pointer (some ⟨gr, 4, none⟩)) rfl rfl (o_field (k' := 4) rfl (pe hs_1 rfl rfl) (fun _ => by kernel_rfl)) ?_
      refine op_val (d := 30) (v := .int .i64 ((body : Nat) : Int)) rfl rfl (o_load1 rfl (pe hs_1 rfl rfl) hPB rfl ⟨by kernel_rfl, by kernel_rfl⟩) ?_
      refine op_val (d := 31) (v := .bool (false)) rfl rfl (o_eq (o_eql (m := body) (n := 0) rfl (pe hs_1 rfl rfl) rfl) (by rw [decide_eq_false (by omega)])) ?_
      refine op_val (d := 32) (v := .bool (false)) rfl rfl (o_move rfl (pe hs_1 rfl rfl)) ?_
      refine op_left (e := 32) rfl rfl (by kernel_rfl) (pe hs_1 rfl rfl) rfl ?_
      refine op_left (e := 32) rfl rfl (by kernel_rfl) (pe hs_1 rfl rfl) rfl ?_
      refine op_left (e := 32) rfl rfl (by kernel_rfl) (pe hs_1 rfl rfl) rfl ?_
      refine op_left (e := 32) rfl rfl (by kernel_rfl) (pe hs_1 rfl rfl) rfl ?_
      refine op_left (e := 32) rfl rfl (by kernel_rfl) (pe hs_1 rfl rfl) rfl ?_
      refine op_left (e := 32) rfl rfl (by kernel_rfl) (pe hs_1 rfl rfl) rfl ?_
      refine op_val (d := 39) (v := .bool (false)) rfl rfl (o_pickF rfl (pe hs_1 rfl rfl) rfl) ?_
      refine op_val (d := 26) (v := .bool (false)) rfl rfl (o_assign rfl (pe hs_1 rfl rfl)) ?_
      refine x_nil ?_
      refine hK_15 _ _ ?_
      refine w2_condF (pe hs_1 rfl rfl) ?_
      refine w2_seq (fun K_30 hK_30 => ?_)
      refine x_drawn 15 [fun _ v => v = .pointer (some ⟨gr, 0, none⟩), fun _ v => v = .pointer (some ⟨gr, 0, none⟩), fun _ v => v = .pointer (some ⟨gr, 4, none⟩), fun _ v => v = .int .i64 ((body : Nat) : Int), fun _ v => v = .bool (true), fun _ v => v = .bool (true), fun _ v => v = .pointer (some ⟨gr, 0, none⟩), fun _ v => v = .pointer (some ⟨gr, 0, none⟩), fun _ v => v = .pointer (some ⟨gr, 3, none⟩), fun _ v => v = .slice A (ws.length) (c), fun _ v => v = .int .i64 ((ws.length : Nat) : Int), fun _ v => v = .pointer (some ⟨gr, 0, none⟩), fun _ v => v = .pointer (some ⟨gr, 0, none⟩), fun _ v => v = .pointer (some ⟨gr, 4, none⟩), fun _ v => v = .int .i64 ((body : Nat) : Int)] [45, 46, 47, 48, 49, 50, 51, 52, 53, 54, 55, 56, 57, 58, 59] hs_1 hd_1 (by kernel_rfl) (by kernel_rfl) (by kernel_rfl) (by kernel_rfl) (by kernel_rfl) ⟨stLit, stLit, stLit, stLit, stLit, stLit, stLit, stLit, stLit, stLit, stLit, stLit, stLit, stLit, stLit, trivial⟩ ⟨(step_ok rfl (fun a' w' hb' hO hD => by
          have d_22 : a'.eval (.tmp 0) = .pointer (some ⟨gr, 0, none⟩) := (hO 0 (by decide)).trans ((pm rfl).trans ta_1_0)
          exact .inl ⟨_, _, (o_move rfl d_22), rfl, Below.refl _ _⟩)),
(step_ok rfl (fun a' w' hb' hO hD => by
          have d_23 : a'.eval (.tmp 45) = .pointer (some ⟨gr, 0, none⟩) := hD 0 45 (by kernel_rfl) rfl
          exact .inl ⟨_, _, (o_nilCheck rfl d_23), rfl, Below.refl _ _⟩)),
(step_ok rfl (fun a' w' hb' hO hD => by
          have d_24 : a'.eval (.tmp 46) = .pointer (some ⟨gr, 0, none⟩) := hD 1 46 (by kernel_rfl) rfl
          exact .inl ⟨_, _, (o_field (k' := 4) rfl d_24 (fun _ => by kernel_rfl)), rfl, Below.refl _ _⟩)),
(step_ok rfl (fun a' w' hb' hO hD => by
          have d_25 : a'.eval (.tmp 47) = .pointer (some ⟨gr, 4, none⟩) := hD 2 47 (by kernel_rfl) rfl
          exact .inl ⟨_, _, (o_load1 rfl d_25 (hPB.nx hb') rfl ⟨by kernel_rfl, by kernel_rfl⟩), rfl, Below.refl _ _⟩)),
(step_ok rfl (fun a' w' hb' hO hD => by
          have d_26 : a'.eval (.tmp 48) = .int .i64 ((body : Nat) : Int) := hD 3 48 (by kernel_rfl) rfl
          have e0 : (.bool (decide (0 < body)) : Value) = .bool (true) := (by rw [decide_eq_true q1])
          exact .inl ⟨_, _, (o_gtr (m := body) (n := 0) rfl d_26 rfl), e0, Below.refl _ _⟩)),
(step_ok rfl (fun a' w' hb' hO hD => by
          have d_27 : a'.eval (.tmp 49) = .bool (true) := hD 4 49 (by kernel_rfl) rfl
          exact .inl ⟨_, _, (o_move rfl d_27), rfl, Below.refl _ _⟩)),
(step_yes 5 true 50 rfl rfl (by kernel_rfl) (fun _ _ h => h) (fun a' w' hb' hO hD => by
          have d_28 : a'.eval (.tmp 0) = .pointer (some ⟨gr, 0, none⟩) := (hO 0 (by decide)).trans ((pm rfl).trans ta_1_0)
          exact .inl ⟨_, _, (o_move rfl d_28), rfl, Below.refl _ _⟩)),
(step_yes 5 true 50 rfl rfl (by kernel_rfl) (fun _ _ h => h) (fun a' w' hb' hO hD => by
          have d_29 : a'.eval (.tmp 51) = .pointer (some ⟨gr, 0, none⟩) := hD 6 51 (by kernel_rfl) rfl
          exact .inl ⟨_, _, (o_nilCheck rfl d_29), rfl, Below.refl _ _⟩)),
(step_yes 5 true 50 rfl rfl (by kernel_rfl) (fun _ _ h => h) (fun a' w' hb' hO hD => by
          have d_30 : a'.eval (.tmp 52) = .pointer (some ⟨gr, 0, none⟩) := hD 7 52 (by kernel_rfl) rfl
          exact .inl ⟨_, _, (o_field (k' := 3) rfl d_30 (fun _ => by kernel_rfl)), rfl, Below.refl _ _⟩)),
(step_yes 5 true 50 rfl rfl (by kernel_rfl) (fun _ _ h => h) (fun a' w' hb' hO hD => by
          have d_31 : a'.eval (.tmp 53) = .pointer (some ⟨gr, 3, none⟩) := hD 8 53 (by kernel_rfl) rfl
          exact .inl ⟨_, _, (o_load1 rfl d_31 (hPB.nx hb') rfl ⟨by kernel_rfl, by kernel_rfl⟩), rfl, Below.refl _ _⟩)),
(step_yes 5 true 50 rfl rfl (by kernel_rfl) (fun _ _ h => h) (fun a' w' hb' hO hD => by
          have d_32 : a'.eval (.tmp 54) = .slice A (ws.length) (c) := hD 9 54 (by kernel_rfl) rfl
          exact .inl ⟨_, _, (o_len rfl d_32), rfl, Below.refl _ _⟩)),
(step_yes 5 true 50 rfl rfl (by kernel_rfl) (fun _ _ h => h) (fun a' w' hb' hO hD => by
          have d_33 : a'.eval (.tmp 0) = .pointer (some ⟨gr, 0, none⟩) := (hO 0 (by decide)).trans ((pm rfl).trans ta_1_0)
          exact .inl ⟨_, _, (o_move rfl d_33), rfl, Below.refl _ _⟩)),
(step_yes 5 true 50 rfl rfl (by kernel_rfl) (fun _ _ h => h) (fun a' w' hb' hO hD => by
          have d_34 : a'.eval (.tmp 56) = .pointer (some ⟨gr, 0, none⟩) := hD 11 56 (by kernel_rfl) rfl
          exact .inl ⟨_, _, (o_nilCheck rfl d_34), rfl, Below.refl _ _⟩)),
(step_yes 5 true 50 rfl rfl (by kernel_rfl) (fun _ _ h => h) (fun a' w' hb' hO hD => by
          have d_35 : a'.eval (.tmp 57) = .pointer (some ⟨gr, 0, none⟩) := hD 12 57 (by kernel_rfl) rfl
          exact .inl ⟨_, _, (o_field (k' := 4) rfl d_35 (fun _ => by kernel_rfl)), rfl, Below.refl _ _⟩)),
(step_yes 5 true 50 rfl rfl (by kernel_rfl) (fun _ _ h => h) (fun a' w' hb' hO hD => by
          have d_36 : a'.eval (.tmp 58) = .pointer (some ⟨gr, 4, none⟩) := hD 13 58 (by kernel_rfl) rfl
          exact .inl ⟨_, _, (o_load1 rfl d_36 (hPB.nx hb') rfl ⟨by kernel_rfl, by kernel_rfl⟩), rfl, Below.refl _ _⟩)), trivial⟩ (fun a_4 w_10 hs_4 hd_4 hb_3 hO_3 hV_3 => ?_)
      have ta_4_0 : a_4.eval (.tmp 0) = .pointer (some ⟨gr, 0, none⟩) := (hO_3 0 (by decide)).trans ((pm rfl).trans ta_1_0)
      have ta_4_1 : a_4.eval (.tmp 1) = .slice B0 (q) (d0) := (hO_3 1 (by decide)).trans ((pm rfl).trans ta_1_1)
      have ta_4_4 : a_4.eval (.tmp 4) = .slice none (0) (0) := (hO_3 4 (by decide)).trans ((pm rfl).trans ta_1_4)
      have ta_4_5 : a_4.eval (.tmp 5) = .int .i64 ((0 : Nat) : Int) := (hO_3 5 (by decide)).trans ((pm rfl).trans ta_1_5)
      have ta_4_10 : a_4.eval (.tmp 10) = .pointer (some ⟨gr, 0, none⟩) := (hO_3 10 (by decide)).trans ((pm rfl).trans ta_1_10)
      have ta_4_11 : a_4.eval (.tmp 11) = .bool (false) := (hO_3 11 (by decide)).trans ((pm rfl).trans ta_1_11)
      have ta_4_9 : a_4.eval (.tmp 9) = .bool (false) := (hO_3 9 (by decide)).trans ((pm rfl).trans ta_1_9)
      have ta_4_13 : a_4.eval (.tmp 13) = .pointer (some ⟨gr, 0, none⟩) := (hO_3 13 (by decide)).trans ((pm rfl).trans ta_1_13)
      have ta_4_14 : a_4.eval (.tmp 14) = .pointer (some ⟨gr, 0, none⟩) := (hO_3 14 (by decide)).trans ((pm rfl).trans ta_1_14)
      have ta_4_15 : a_4.eval (.tmp 15) = .pointer (some ⟨gr, 5, none⟩) := (hO_3 15 (by decide)).trans ((pm rfl).trans ta_1_15)
      have ta_4_16 : a_4.eval (.tmp 16) = .bool (false) := (hO_3 16 (by decide)).trans ((pm rfl).trans ta_1_16)
      have ta_4_12 : a_4.eval (.tmp 12) = .bool (false) := (hO_3 12 (by decide)).trans ((pm rfl).trans ta_1_12)
      have ta_4_17 : a_4.eval (.tmp 17) = .pointer (some ⟨gr, 0, none⟩) := (hO_3 17 (by decide)).trans ((pm rfl).trans ta_1_17)
      have ta_4_18 : a_4.eval (.tmp 18) = .pointer (some ⟨gr, 0, none⟩) := (hO_3 18 (by decide)).trans ((pm rfl).trans ta_1_18)
      have ta_4_19 : a_4.eval (.tmp 19) = .pointer (some ⟨gr, 0, none⟩) := (hO_3 19 (by decide)).trans ((pm rfl).trans ta_1_19)
      have ta_4_20 : a_4.eval (.tmp 20) = .pointer (some ⟨gr, 3, none⟩) := (hO_3 20 (by decide)).trans ((pm rfl).trans ta_1_20)
      have ta_4_21 : a_4.eval (.tmp 21) = .slice Aw (ws0.length) (cw) := (hO_3 21 (by decide)).trans ((pm rfl).trans ta_1_21)
      have ta_4_22 : a_4.eval (.tmp 22) = .slice B0 (q) (d0) := (hO_3 22 (by decide)).trans ((pm rfl).trans ta_1_22)
      have ta_4_23 : a_4.eval (.tmp 23) = .slice A_1 (ws0.length + q) (c_1) := (hO_3 23 (by decide)).trans ((pm rfl).trans ta_1_23)
      have ta_4_24 : a_4.eval (.tmp 24) = .pointer (some ⟨gr, 0, none⟩) := (hO_3 24 (by decide)).trans ((pm rfl).trans ta_1_24)
      have ta_4_25 : a_4.eval (.tmp 25) = .pointer (some ⟨gr, 3, none⟩) := (hO_3 25 (by decide)).trans ((pm rfl).trans ta_1_25)
      have ta_4_6 : a_4.eval (.tmp 6) = .slice A5 (ps.length) (c5) := (hO_3 6 (by decide)).trans ((pm rfl).trans ta_1_6)
      have ta_4_7 : a_4.eval (.tmp 7) = .int .i64 ((0 : Nat) : Int) := (hO_3 7 (by decide)).trans ((pm rfl).trans ta_1_7)
      have ta_4_27 : a_4.eval (.tmp 27) = .pointer (some ⟨gr, 0, none⟩) := (hO_3 27 (by decide)).trans (pe hs_1 rfl rfl)
      have ta_4_28 : a_4.eval (.tmp 28) = .pointer (some ⟨gr, 0, none⟩) := (hO_3 28 (by decide)).trans (pe hs_1 rfl rfl)
      have ta_4_29 : a_4.eval (.tmp 29) = .pointer (some ⟨gr, 4, none⟩) := (hO_3 29 (by decide)).trans (pe hs_1 rfl rfl)
      have ta_4_30 : a_4.eval (.tmp 30) = .int .i64 ((body : Nat) : Int) := (hO_3 30 (by decide)).trans (pe hs_1 rfl rfl)
      have ta_4_31 : a_4.eval (.tmp 31) = .bool (false) := (hO_3 31 (by decide)).trans (pe hs_1 rfl rfl)
      have ta_4_32 : a_4.eval (.tmp 32) = .bool (false) := (hO_3 32 (by decide)).trans (pe hs_1 rfl rfl)
      have ta_4_33 : a_4.eval (.tmp 33) = undef := (hO_3 33 (by decide)).trans (pe hs_1 rfl rfl)
      have ta_4_34 : a_4.eval (.tmp 34) = undef := (hO_3 34 (by decide)).trans (pe hs_1 rfl rfl)
      have ta_4_35 : a_4.eval (.tmp 35) = undef := (hO_3 35 (by decide)).trans (pe hs_1 rfl rfl)
      have ta_4_36 : a_4.eval (.tmp 36) = undef := (hO_3 36 (by decide)).trans (pe hs_1 rfl rfl)
      have ta_4_37 : a_4.eval (.tmp 37) = undef := (hO_3 37 (by decide)).trans (pe hs_1 rfl rfl)
      have ta_4_38 : a_4.eval (.tmp 38) = undef := (hO_3 38 (by decide)).trans (pe hs_1 rfl rfl)
      have ta_4_39 : a_4.eval (.tmp 39) = .bool (false) := (hO_3 39 (by decide)).trans (pe hs_1 rfl rfl)
      have ta_4_26 : a_4.eval (.tmp 26) = .bool (false) := (hO_3 26 (by decide)).trans (pe hs_1 rfl rfl)
      clear ta_1_0 ta_1_1 ta_1_4 ta_1_5 ta_1_10 ta_1_11 ta_1_9 ta_1_13 ta_1_14 ta_1_15 ta_1_16 ta_1_12 ta_1_17 ta_1_18 ta_1_19 ta_1_20 ta_1_21 ta_1_22 ta_1_23 ta_1_24 ta_1_25 ta_1_6 ta_1_7 hd_1
      replace hPB := hPB.nx hb_3
      replace hRw := hRw.nx hb_3
      replace hAO := hAO.nx hb_3
      replace hP := hP.nx hb_3
      have HB_9 := HBL.then hb_3
      have ta_4_45 : a_4.eval (.tmp 45) = .pointer (some ⟨gr, 0, none⟩) := hV_3 0 45 rfl rfl
      have ta_4_46 : a_4.eval (.tmp 46) = .pointer (some ⟨gr, 0, none⟩) := hV_3 1 46 rfl rfl
      have ta_4_47 : a_4.eval (.tmp 47) = .pointer (some ⟨gr, 4, none⟩) := hV_3 2 47 rfl rfl
      have ta_4_48 : a_4.eval (.tmp 48) = .int .i64 ((body : Nat) : Int) := hV_3 3 48 rfl rfl
      have ta_4_49 : a_4.eval (.tmp 49) = .bool (true) := hV_3 4 49 rfl rfl
      have ta_4_50 : a_4.eval (.tmp 50) = .bool (true) := hV_3 5 50 rfl rfl
      have ta_4_51 : a_4.eval (.tmp 51) = .pointer (some ⟨gr, 0, none⟩) := hV_3 6 51 rfl rfl
      have ta_4_52 : a_4.eval (.tmp 52) = .pointer (some ⟨gr, 0, none⟩) := hV_3 7 52 rfl rfl
      have ta_4_53 : a_4.eval (.tmp 53) = .pointer (some ⟨gr, 3, none⟩) := hV_3 8 53 rfl rfl
      have ta_4_54 : a_4.eval (.tmp 54) = .slice A (ws.length) (c) := hV_3 9 54 rfl rfl
      have ta_4_55 : a_4.eval (.tmp 55) = .int .i64 ((ws.length : Nat) : Int) := hV_3 10 55 rfl rfl
      have ta_4_56 : a_4.eval (.tmp 56) = .pointer (some ⟨gr, 0, none⟩) := hV_3 11 56 rfl rfl
      have ta_4_57 : a_4.eval (.tmp 57) = .pointer (some ⟨gr, 0, none⟩) := hV_3 12 57 rfl rfl
      have ta_4_58 : a_4.eval (.tmp 58) = .pointer (some ⟨gr, 4, none⟩) := hV_3 13 58 rfl rfl
      have ta_4_59 : a_4.eval (.tmp 59) = .int .i64 ((body : Nat) : Int) := hV_3 14 59 rfl rfl
      clear hV_3 hO_3
      simp only [List.drop_succ_cons, List.drop_zero]
      refine op_valG (e := 50) (d := 60) (v := .bool (true)) rfl rfl (by kernel_rfl) ((pm rfl).trans ta_4_50) (o_eq (o_geq (m := ws.length) (n := body) rfl ((pm rfl).trans ta_4_55) ((pm rfl).trans ta_4_59)) (by rw [decide_eq_true q2])) ?_
      refine op_val (d := 61) (v := .bool (true)) rfl rfl (o_pickT rfl ((pm rfl).trans ta_4_50) (pe hs_4 rfl rfl)) ?_
      refine op_val (d := 44) (v := .bool (true)) rfl rfl (o_assign rfl (pe hs_4 rfl rfl)) ?_
      refine x_nil ?_
      refine hK_30 _ _ ?_
      refine w2_condT (pe hs_4 rfl rfl) ?_
      refine w2_seq (fun K_31 hK_31 => ?_)
      refine x_region (by kernel_rfl) ?_
      refine op_val (d := 8) (v := .slice none (0) (0)) rfl rfl (o_assign rfl rfl) ?_
      refine x_nil ?_
      refine hK_31 _ _ ?_
      refine w2_seq (fun K_32 hK_32 => ?_)
      refine w2_seq (fun K_33 hK_33 => ?_)
      rcases Classical.em (x.2.1 = 0) with hz | hz
      · skip
        refine x_region (by kernel_rfl) ?_
        refine op_val (d := 63) (v := .pointer (some ⟨gr, 0, none⟩)) rfl rfl (o_move rfl ((pm rfl).trans ta_4_0)) ?_
        refine op_call (vs := #[.pointer (some ⟨gr, 0, none⟩)]) rfl rfl (exec_call Try.func85 (by kernel_rfl) (by kernel_rfl) _ rfl _ _ (args1 (pe hs_4 rfl rfl))) (whole_ok _ hP (by omega) q3 q1 q2 b12 hev1 (by omega) hz) (fun e_3 w_11 hR_7 => ?_)
        obtain ⟨b_1, A_5, c_5, rfl, hx_1, ho_1, ⟨N_3, A_4, c_4, hP_3, hN_3, hA_4, sb_1⟩, hX_7⟩ := hR_7
        have sw : Sep (blkA A_5) (blkA A_4) := fun j hj hm => absurd (hP.wt.lt j (hA_4 j hm)) (Nat.not_lt.2 (ho_1.ge' j hj))
        replace ho_1 := ho_1.mono HB_9.size
        have hRw2 := hRw.keep2 hPB (by decide) hP.cip hX_7
        have hAO2 := hAO.keep2 hPB (by decide) hP.cip hX_7
        have HB_10 := HB_9.step hX_7 (fun k hk hY => hY.elim .inl (fun h => .inr (.inl h)))
        have s1b := hN_3.sep s1 hAO.lt
        have s2b := hN_3.sep s2 hRw.lt
        have s3b : Sep (blkP ps) (blkA A_4) := fun j hj hm => s3 j hj (hA_4 j hm)
        have hN9 := b4.trans hN_3 HB_9.size
        have hA9 := fun j hj => b5 j (hA_4 j hj)
        obtain ⟨i1, i2, i3, i4, i5, i6⟩ := stepR_inv q3
        have i7 := stepR_lt q3
        dsimp only at i1 i2 i3 i4 i5 i6 i7
        refine ⟨_, rfl, ?_⟩
        refine op_val (d := 62) (v := .tuple #[.slice A_5 (b_1.length) (c_5), .int .i64 ((0 : Nat) : Int)]) rfl rfl (o_move rfl (pe hs_4 rfl rfl)) ?_
        refine op_val (d := 65) (v := .slice A_5 (b_1.length) (c_5)) rfl rfl (o_extract rfl (pe hs_4 rfl rfl) rfl) ?_
        refine op_val (d := 66) (v := .int .i64 ((0 : Nat) : Int)) rfl rfl (o_extract rfl (pe hs_4 rfl rfl) rfl) ?_
        refine op_val (d := 8) (v := .slice A_5 (b_1.length) (c_5)) rfl rfl (o_assign rfl (pe hs_4 rfl rfl)) ?_
        refine op_val (d := 7) (v := .int .i64 ((0 : Nat) : Int)) rfl rfl (o_assign rfl (pe hs_4 rfl rfl)) ?_
        refine x_nil ?_
        refine hK_33 _ _ ?_
        refine w2_seq (fun K_34 hK_34 => ?_)
        refine x_region (by kernel_rfl) ?_
        refine op_val (d := 67) (v := .int .i64 ((0 : Nat) : Int)) rfl rfl (o_move rfl (pe hs_4 rfl rfl)) ?_
        refine op_val (d := 68) (v := .bool (false)) rfl rfl (o_eq (o_neq (m := 0) (n := 0) rfl (pe hs_4 rfl rfl) rfl) rfl) ?_
        refine x_nil ?_
        refine hK_34 _ _ ?_
        refine w2_condF (pe hs_4 rfl rfl) ?_
        refine w2_skip ?_
        refine hK_32 _ _ ?_
        refine x_region (by kernel_rfl) ?_
        refine op_val (d := 69) (v := .slice A5 (ps.length) (c5)) rfl rfl (o_move rfl ((pm rfl).trans ta_4_6)) ?_
        refine op_val (d := 70) (v := .slice A_5 (b_1.length) (c_5)) rfl rfl (o_move rfl (pe hs_4 rfl rfl)) ?_
        refine op_ex (d := 71) rfl rfl (o_bldS (vs := #[(0, .slice A_5 (b_1.length) (c_5))]) (cs := #[.slice A_5 (b_1.length) (c_5)]) (e := 22) rfl (bld1 (pe hs_4 rfl rfl)) (fun _ => by kernel_rfl)) (fun v_2 w_12 hR_8 => ?_)
        obtain ⟨g_1, rfl, hle_1, hB_4, hb_4⟩ := hR_8
        have ge_1 : w.heap.size ≤ g_1 := Nat.le_trans HB_10.size hle_1
        replace hP_3 := hP_3.nx hb_4
        replace hRw2 := hRw2.nx hb_4
        replace hAO2 := hAO2.nx hb_4
        replace ho_1 := ho_1.nx hb_4
        have HB_11 := HB_10.then hb_4
        refine op_ex (d := 72) rfl rfl (o_appS1 (xs := b_1) rfl (pe hs_4 rfl rfl) (pe hs_4 rfl rfl) hRw2 hB_4 rfl rfl (by omega) HB_11.size) (fun v_3 w_13 hR_9 => ?_)
        obtain ⟨A_6, c_6, rfl, hRw_1, hb_5, hk_1, ha_1⟩ := hR_9
        have HB_12 := HB_11.thenB hb_5
        have s1c : Sep (blkP (ps ++ [⟨A_5, c_5, b_1⟩])) N_3 := fun j hj => (blkP_app hj).elim (s1b j) (fun h => sb_1 j (blkP_one h))
        have s2c : Sep (blkA A_6) N_3 := fun j hj => (ha_1 j hj).elim (s2b j) (fun h hm => absurd (hP_3.cip.lt j hm) (Nat.not_lt.2 h))
        have s3c : Sep (blkP (ps ++ [⟨A_5, c_5, b_1⟩])) (blkA A_4) := fun j hj => (blkP_app hj).elim (s3b j) (fun h => sw j (blkP_one h))
        have hP9 := hP_3.keptT hk_1 (by decide) (by decide) (by decide)
        have hAO9 : AllOwn w_13 w.heap.size (ps ++ [⟨A_5, c_5, b_1⟩]) := (hAO2.keptT hk_1 (by decide)).app (fun p hp => by rw [List.mem_singleton.1 hp]; exact ho_1.keptT hk_1 (by decide))
        refine op_val (d := 6) (v := .slice A_6 ((ps ++ [(⟨A_5, c_5, b_1⟩ : Part)]).length) (c_6)) rfl rfl (o_assign rfl (pe hs_4 rfl rfl)) ?_
        refine x_nil ?_
        refine hK_14 _ _ ?_
        refine hK_13 _ _ ?_
        refine hK_12 _ _ _ ⟨N_3, A_4, c_4, x.1, ps ++ [⟨A_5, c_5, b_1⟩], A_6, c_6, 0, f1, rfl, (by rw [putsR_size]; exact hs_4), (by rw [putsR_defers]; exact hd_4), ((pm rfl).trans ta_4_0), ((pm rfl).trans ta_4_1), ((pm rfl).trans ta_4_4), ((pm rfl).trans ta_4_5), (pe hs_4 rfl rfl), (pe hs_4 rfl rfl), ((pm rfl).trans ta_4_9), ((pm rfl).trans ta_4_10), ((pm rfl).trans ta_4_11), ((pm rfl).trans ta_4_12), ((pm rfl).trans ta_4_13), ((pm rfl).trans ta_4_14), ((pm rfl).trans ta_4_15), ((pm rfl).trans ta_4_16), ((pm rfl).trans ta_4_17), ((pm rfl).trans ta_4_18), ((pm rfl).trans ta_4_19), ((pm rfl).trans ta_4_20), ((pm rfl).trans ta_4_21), ((pm rfl).trans ta_4_22), ((pm rfl).trans ta_4_23), ((pm rfl).trans ta_4_24), ((pm rfl).trans ta_4_25), hP9, hRw_1, hAO9, hN9, hA9, HB_12, (by rw [← b7, run_good q3 hz, hx_1, List.map_append]; rfl), (by omega), (by omega), (by omega), i2, (i5 b12), (by rw [List.length_append]; show ps.length + 1 + _ ≤ _; omega), rfl, i4, s1c, s2c, s3c⟩ ?_
        omega
      · skip
        refine x_region (by kernel_rfl) ?_
        refine op_val (d := 63) (v := .pointer (some ⟨gr, 0, none⟩)) rfl rfl (o_move rfl ((pm rfl).trans ta_4_0)) ?_
        refine op_call (vs := #[.pointer (some ⟨gr, 0, none⟩)]) rfl rfl (exec_call Try.func85 (by kernel_rfl) (by kernel_rfl) _ rfl _ _ (args1 (pe hs_4 rfl rfl))) (whole_bad _ hP (by omega) q3 q1 q2 b12 hev1 (by omega) hz) (fun e_4 w_14 hR_10 => ?_)
        obtain ⟨rfl, ⟨N_4, A_7, c_7, hP_4, hN_4, hA_5⟩, hX_8⟩ := hR_10
        have hRw2 := hRw.keep2 hPB (by decide) hP.cip hX_8
        have hAO2 := hAO.keep2 hPB (by decide) hP.cip hX_8
        have HB_13 := HB_9.step hX_8 (fun k hk hY => hY.elim .inl (fun h => .inr (.inl h)))
        have s1b := hN_4.sep s1 hAO.lt
        have s2b := hN_4.sep s2 hRw.lt
        have s3b : Sep (blkP ps) (blkA A_7) := fun j hj hm => s3 j hj (hA_5 j hm)
        have hN9 := b4.trans hN_4 HB_9.size
        have hA9 := fun j hj => b5 j (hA_5 j hj)
        obtain ⟨i1, i2, i3, i4, i5, i6⟩ := stepR_inv q3
        have i7 := stepR_lt q3
        dsimp only at i1 i2 i3 i4 i5 i6 i7
        have hPB2 := hP_4.blk
        have hC2 := hP_4.cip
        have hn2 := hP_4.apart
        refine ⟨_, rfl, ?_⟩
        refine op_val (d := 62) (v := .tuple #[.slice none (0) (0), .int .i64 ((x.2.1 : Nat) : Int)]) rfl rfl (o_move rfl (pe hs_4 rfl rfl)) ?_
        refine op_val (d := 65) (v := .slice none (0) (0)) rfl rfl (o_extract rfl (pe hs_4 rfl rfl) rfl) ?_
        refine op_val (d := 66) (v := .int .i64 ((x.2.1 : Nat) : Int)) rfl rfl (o_extract rfl (pe hs_4 rfl rfl) rfl) ?_
        refine op_val (d := 8) (v := .slice none (0) (0)) rfl rfl (o_assign rfl (pe hs_4 rfl rfl)) ?_
        refine op_val (d := 7) (v := .int .i64 ((x.2.1 : Nat) : Int)) rfl rfl (o_assign rfl (pe hs_4 rfl rfl)) ?_
        refine x_nil ?_
        refine hK_33 _ _ ?_
        refine w2_seq (fun K_35 hK_35 => ?_)
        refine x_region (by kernel_rfl) ?_
        refine op_val (d := 67) (v := .int .i64 ((x.2.1 : Nat) : Int)) rfl rfl (o_move rfl (pe hs_4 rfl rfl)) ?_
        refine op_val (d := 68) (v := .bool (true)) rfl rfl (o_eq (o_neq (m := x.2.1) (n := 0) rfl (pe hs_4 rfl rfl) rfl) (by simp [hz])) ?_
        refine x_nil ?_
        refine hK_35 _ _ ?_
        refine w2_condT (pe hs_4 rfl rfl) ?_
        refine w2_exit ?_
        refine thn_exit ?_
        refine exb_out rfl ?_
        refine exb_out rfl ?_
        refine thn_exit ?_
        refine exb_hit ?_
        refine hK_11 _ _ ?_
        refine hK_10 _ _ ?_
        refine w2_seq (fun K_36 hK_36 => ?_)
        refine w2_seq (fun K_37 hK_37 => ?_)
        refine x_region (by kernel_rfl) ?_
        refine op_val (d := 73) (v := .int .i64 ((x.2.1 : Nat) : Int)) rfl rfl (o_move rfl (pe hs_4 rfl rfl)) ?_
        refine op_val (d := 74) (v := .bool (true)) rfl rfl (o_eq (o_neq (m := x.2.1) (n := 0) rfl (pe hs_4 rfl rfl) rfl) (by simp [hz])) ?_
        refine x_nil ?_
        refine hK_37 _ _ ?_
        refine w2_condT (pe hs_4 rfl rfl) ?_
        refine x_region (by kernel_rfl) ?_
        refine op_val (d := 75) (v := .pointer (some ⟨gr, 0, none⟩)) rfl rfl (o_move rfl ((pm rfl).trans ta_4_0)) ?_
        refine op_val (d := 76) (v := .pointer (some ⟨gr, 0, none⟩)) rfl rfl (o_move rfl ((pm rfl).trans ta_4_0)) ?_
        refine op_val (d := 77) (v := .pointer (some ⟨gr, 0, none⟩)) rfl rfl (o_nilCheck rfl (pe hs_4 rfl rfl)) ?_
        refine op_val (d := 78) (v := .pointer (some ⟨gr, 5, none⟩)) rfl rfl (o_field (k' := 5) rfl (pe hs_4 rfl rfl) (fun _ => by kernel_rfl)) ?_
        refine op_do rfl rfl (o_store1 rfl (pe hs_4 rfl rfl) rfl rfl rfl hPB2 (by simp only [List.length_cons, List.length_nil]; omega) ⟨by kernel_rfl, by kernel_rfl⟩) (fun w_15 hR_11 => ?_)
        obtain ⟨hB_5, hX_9⟩ := hR_11
        replace hC2 := hC2.keepX hX_9 hn2
        replace hRw2 := hRw2.keepX hPB2 (by decide) hX_9
        replace hAO2 := hAO2.keepX hPB2 (by decide) hX_9
        have HB_14 := HB_13.step hX_9 (fun k hk (hY : k = gr) => .inl hY)
        clear hPB2
        simp only [List.set_cons_zero, List.set_cons_succ] at hB_5
        refine op_val (d := 79) (v := .pointer (some ⟨gr, 0, none⟩)) rfl rfl (o_nilCheck rfl (pe hs_4 rfl rfl)) ?_
        refine op_val (d := 80) (v := .pointer (some ⟨gr, 3, none⟩)) rfl rfl (o_field (k' := 3) rfl (pe hs_4 rfl rfl) (fun _ => by kernel_rfl)) ?_
        refine op_do rfl rfl (o_store1 rfl (pe hs_4 rfl rfl) rfl rfl rfl hB_5 (by simp only [List.length_cons, List.length_nil]; omega) ⟨by kernel_rfl, by kernel_rfl⟩) (fun w_16 hR_12 => ?_)
        obtain ⟨hB_6, hX_10⟩ := hR_12
        replace hC2 := hC2.keepX hX_10 hn2
        replace hRw2 := hRw2.keepX hB_5 (by decide) hX_10
        replace hAO2 := hAO2.keepX hB_5 (by decide) hX_10
        have HB_15 := HB_14.step hX_10 (fun k hk (hY : k = gr) => .inl hY)
        clear hB_5
        simp only [List.set_cons_zero, List.set_cons_succ] at hB_6
        refine x_nil ?_
        refine hK_36 _ _ ?_
        refine w2_seq (fun K_38 hK_38 => ?_)
        refine x_region (by kernel_rfl) ?_
        refine op_val (d := 81) (v := .slice A5 (ps.length) (c5)) rfl rfl (o_move rfl ((pm rfl).trans ta_4_6)) ?_
        refine op_val (d := 82) (v := .int .i64 ((x.2.1 : Nat) : Int)) rfl rfl (o_move rfl (pe hs_4 rfl rfl)) ?_
        refine op_val (d := 4) (v := .slice A5 (ps.length) (c5)) rfl rfl (o_assign rfl (pe hs_4 rfl rfl)) ?_
        refine op_val (d := 5) (v := .int .i64 ((x.2.1 : Nat) : Int)) rfl rfl (o_assign rfl (pe hs_4 rfl rfl)) ?_
        refine x_nil ?_
        refine hK_38 _ _ ?_
        refine w2_ret ?_
        refine ng_ret ?_
        refine ret2 rfl hd_4 (pe hs_4 rfl rfl) (pe hs_4 rfl rfl) ?_
        have h9 := b7
        rw [run_bad q3 hz] at h9
        cases h9
        exact ⟨ps, A5, c5, rfl, rfl, hRw2, hAO2, ⟨fun j => N_4 j ∨ j = gr, ⟨fun j hj => hj.elim (hC2.lt j) (fun h => h ▸ hB_6.lt), by show 1 ≤ x.1.co.every; rw [i2]; exact hev1, i5 b12, N_4, none, 0, ⟨hC2, hB_6, Wt.nil _, hn2, fun j hj => absurd hj blkA_none⟩, .inr rfl, fun j hj => .inl hj, fun j hj => absurd hj blkA_none⟩, fun j hj => hj.elim (fun h => (hN9 j h).imp (hMN j) id) (fun h => .inl (h ▸ hMg)), fun j hj hm => hm.elim (s1b j hj) (fun h => by subst h; obtain ⟨p, hp, hk⟩ := hj; exact (hAO2 p hp).sepB hB_6 (by decide) hk), fun j hj hm => hm.elim (s2b j hj) (fun h => by subst h; exact hRw2.sepB hB_6 (by decide) hj)⟩, HB_15.mono (fun k _ hk => hk.elim (fun e => e ▸ hMg) (fun h => h.elim (fun e => e ▸ hMN _ hC0) (fun h => hMA _ h)))⟩
end Go.Proofs.Ytoiamaljkodlnaa
