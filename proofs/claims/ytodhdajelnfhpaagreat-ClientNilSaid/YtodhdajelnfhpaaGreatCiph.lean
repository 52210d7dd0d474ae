/-
 WALKS: noise.Cipher.
-/
import Derived.Test.YtodhdajelnfhpaaGreatAeadMath
import Derived.Test.YtodhdajelnfhpaaGreatMem9
import Derived.Test.YtodhdajelnfhpaaGreatOpsM
namespace Go.Proofs.YtodhdajelnfhpaaGreat
open Go.RowKit
set_option linter.unusedVariables false
set_option linter.unusedSimpArgs false
set_option maxRecDepth 100000
attribute [local irreducible] wpList wpListIn putsR

/-- A cipher lies at g: its key, its number; M: all its blocks. -/
structure CipherAt (w : World) (M : Nat → Prop) (g : Nat) (k : List Nat) (n : Nat) : Prop where
 key : k.length = 32
 num : n < 18446744073709551616
 lt : Lt w M
 row : ∃ A c, Blk w g #[.slice A 32 c, .int .u64 ((n : Nat) : Int)] 198 ∧ Wt w A c k ∧ M g ∧ ∀ j, blkA A j → M j
theorem CipherAt.mem {w : World} {M : Nat → Prop} {g n : Nat} {k : List Nat} (h : CipherAt w M g k n) : M g := by obtain ⟨_, _, _, _, h, _⟩ := h.row; exact h
theorem CipherAt.blk {w : World} {M : Nat → Prop} {g n : Nat} {k : List Nat} (h : CipherAt w M g k n) : ∃ cur, Blk w g cur 198 := by obtain ⟨_, _, h, _⟩ := h.row; exact ⟨_, h⟩
theorem CipherAt.keep {w w' : World} {M : Nat → Prop} {g n : Nat} {k : List Nat} (h : CipherAt w M g k n) (hb : KeptM M w w') (hs : w.heap.size ≤ w'.heap.size) : CipherAt w' M g k n := by
 obtain ⟨A, c, hB, hO, hg, hA⟩ := h.row
 exact ⟨h.key, h.num, h.lt.up hs, A, c, (hb g hg).trans hB, hO.keep (fun j hj => hb j (hA j hj)), hg, hA⟩
theorem CipherAt.nx {w w' : World} {M : Nat → Prop} {g n : Nat} {k : List Nat} (h : CipherAt w M g k n) (hb : Below w.heap.size w w') : CipherAt w' M g k n := h.keep (kept_of hb h.lt) hb.size
theorem CipherAt.keepM {w w' : World} {M X : Nat → Prop} {g n : Nat} {k : List Nat} (h : CipherAt w M g k n) (hb : BelowX X w w') (hs : Sep M X) : CipherAt w' M g k n := h.keep (hb.kept h.lt hs) hb.size
theorem CipherAt.keepX {w w' : World} {M : Nat → Prop} {g g' n : Nat} {k : List Nat} (h : CipherAt w M g k n) (hb : BelowX (fun j => j = g') w w') (hs : ¬ M g') : CipherAt w' M g k n := h.keepM hb (fun j hj e => hs (e ▸ hj))
theorem CipherAt.wide {w : World} {M N : Nat → Prop} {g n : Nat} {k : List Nat} (h : CipherAt w M g k n) (hN : Lt w N) (hs : ∀ j, M j → N j) : CipherAt w N g k n := by
 obtain ⟨A, c, hB, hO, hg, hA⟩ := h.row
 exact ⟨h.key, h.num, hN, A, c, hB, hO, hs _ hg, fun j hj => hs j (hA j hj)⟩
theorem Wt.keepX {w w' : World} {c g : Nat} {A : Option Addr} {xs : List Nat} {cur : Array Value} {T : TypeId} (h : Wt w A c xs) (hB : Blk w g cur T) (hT : T ≠ 5) (hb : BelowX (fun k => k = g) w w') : Wt w' A c xs := h.keep (hb.kept h.lt (fun j hj e => h.sepB hB hT (e ▸ hj)))
theorem RowS.keepX {w w' : World} {B c g : Nat} {A : Option Addr} {ps : List Part} {cur : Array Value} {T : TypeId} (h : RowS w B A c ps) (hB : Blk w g cur T) (hT : T ≠ 22) (hb : BelowX (fun k => k = g) w w') : RowS w' B A c ps := h.keep (hb.kept h.lt (fun j hj e => h.sepB hB hT (e ▸ hj)))
theorem AllOwn.keepX {w w' : World} {B g : Nat} {ps : List Part} {cur : Array Value} {T : TypeId} (h : AllOwn w B ps) (hB : Blk w g cur T) (hT : T ≠ 5) (hb : BelowX (fun k => k = g) w w') : AllOwn w' B ps := fun p hp => (h p hp).keepX hB hT hb
theorem CipherAt.own {w w' : World} {M : Nat → Prop} {g n : Nat} {k : List Nat} (h : CipherAt w M g k n) (hb : BelowX (fun j => j = g) w w') {B c : Nat} {A : Option Addr} {xs : List Nat} (hO : Own w B A c xs) : Own w' B A c xs := by obtain ⟨cur, hB⟩ := h.blk; exact hO.keepX hB (by decide) hb
theorem CipherAt.wt {w w' : World} {M : Nat → Prop} {g n : Nat} {k : List Nat} (h : CipherAt w M g k n) (hb : BelowX (fun j => j = g) w w') {c : Nat} {A : Option Addr} {xs : List Nat} (hO : Wt w A c xs) : Wt w' A c xs := by obtain ⟨cur, hB⟩ := h.blk; exact hO.keepX hB (by decide) hb
theorem CipherAt.rows {w w' : World} {M : Nat → Prop} {g n : Nat} {k : List Nat} (h : CipherAt w M g k n) (hb : BelowX (fun j => j = g) w w') {B c : Nat} {A : Option Addr} {ps : List Part} (hO : RowS w B A c ps) : RowS w' B A c ps := by obtain ⟨cur, hB⟩ := h.blk; exact hO.keepX hB (by decide) hb
theorem CipherAt.parts {w w' : World} {M : Nat → Prop} {g n : Nat} {k : List Nat} (h : CipherAt w M g k n) (hb : BelowX (fun j => j = g) w w') {B : Nat} {ps : List Part} (hO : AllOwn w B ps) : AllOwn w' B ps := by obtain ⟨cur, hB⟩ := h.blk; exact hO.keepX hB (by decide) hb
/-- A set of blocks, and what may have come to it. -/
def NextM (w : World) (M M' : Nat → Prop) : Prop := ∀ j, M' j → M j ∨ w.heap.size ≤ j
theorem NextM.refl (w : World) (M : Nat → Prop) : NextM w M M := fun j h => .inl h
theorem NextM.trans {w w1 : World} {M M1 M2 : Nat → Prop} (h : NextM w M M1) (h2 : NextM w1 M1 M2) (hs : w.heap.size ≤ w1.heap.size) : NextM w M M2 := fun j hj => (h2 j hj).elim (h j) (fun h3 => .inr (Nat.le_trans hs h3))
theorem NextM.not {w : World} {M M' : Nat → Prop} {g : Nat} (h : NextM w M M') (hg : ¬ M g) (hlt : g < w.heap.size) : ¬ M' g := fun hm => (h g hm).elim hg (fun h2 => absurd hlt (Nat.not_lt.2 h2))
theorem NextM.sep {w : World} {M M' N : Nat → Prop} (h : NextM w M M') (hs : Sep N M) (hN : Lt w N) : Sep N M' := fun j hj hm => (h j hm).elim (hs j hj) (fun h2 => absurd (hN j hj) (Nat.not_lt.2 h2))
theorem NextM.ge {w w0 : World} {M M' : Nat → Prop} (h : NextM w M M') (hs : Ge w0 M) (hw : w0.heap.size ≤ w.heap.size) : Ge w0 M' := fun j hj => (h j hj).elim (hs j) (fun h2 => Nat.le_trans hw h2)
theorem may_ok {A0 : Option Addr} {c0 g num : Nat} (m l : Nat) (w : World) (hB : Blk w g #[.slice A0 32 c0, .int .u64 ((num : Nat) : Int)] 198) (hm : m ≤ l) (hn : num < 18446744073709551615) :
  Calls Tryz.prog 129 #[.pointer (some ⟨g, 0, none⟩), .int .i64 ((m : Nat) : Int), .int .i64 ((l : Nat) : Int)] w fun e w' => e = .returned (.int .i64 0) ∧ w = w' := by
 refine x_enter 21 Tryz.func129 rfl rfl (fun a hs hd ha0 => ?_)
 have t0 : a.eval (.tmp 0) = .pointer (some ⟨g, 0, none⟩) := ha0 0 _ rfl
 have t1 : a.eval (.tmp 1) = .int .i64 ((m : Nat) : Int) := ha0 1 _ rfl
 have t2 : a.eval (.tmp 2) = .int .i64 ((l : Nat) : Int) := ha0 2 _ rfl
 clear ha0
 refine w2_sr (fun K_1 hK_1 => ?_)
 refine q_as (.int .i64 ((0 : Nat) : Int)) rfl ?_
 refine x_nil (hK_1 _ _ ?_)
 refine w2_seq (fun K_2 hK_2 => ?_)
 refine w2_block (fun K_3 hK_3 => ?_)
 refine w2_sr (fun K_4 hK_4 => ?_)
 refine q_mv ((pm rfl).trans t0) ?_
 refine q_v 9 (.bool (false)) (o_nil (b := false) rfl (pe hs rfl rfl) rfl rfl ⟨198, fun _ => by kernel_rfl⟩) ?_
 refine q_at (pe hs rfl rfl) ?_
 refine x_nil (hK_4 _ _ ?_)
 refine w2_condF (pe hs rfl rfl) ?_
 refine w2_sr (fun K_5 hK_5 => ?_)
 refine q_mv ((pm rfl).trans t1) ?_
 refine q_mv ((pm rfl).trans t2) ?_
 refine q_v 13 (.bool (false)) (o_eq (o_gtr (m := m) (n := l) rfl (pe hs rfl rfl) (pe hs rfl rfl)) (by rw [decide_eq_false (by omega)])) ?_
 refine q_mv (pe hs rfl rfl) ?_
 refine op_valG (e := 14) (d := 15) (v := .pointer (some ⟨g, 0, none⟩)) rfl rfl (by kernel_rfl) (pe hs rfl rfl) (o_move rfl ((pm rfl).trans t0)) ?_
 refine op_valG (e := 14) (d := 16) (v := .pointer (some ⟨g, 0, none⟩)) rfl rfl (by kernel_rfl) (pe hs rfl rfl) (o_nilCheck rfl (pe hs rfl rfl)) ?_
 refine op_valG (e := 14) (d := 17) (v := .pointer (some ⟨g, 1, none⟩)) rfl rfl (by kernel_rfl) (pe hs rfl rfl) (o_field (k' := 1) rfl (pe hs rfl rfl) (fun _ => by kernel_rfl)) ?_
 refine op_valG (e := 14) (d := 18) (v := .int .u64 ((num : Nat) : Int)) rfl rfl (by kernel_rfl) (pe hs rfl rfl) (o_load1 rfl (pe hs rfl rfl) hB rfl ⟨by kernel_rfl, by kernel_rfl⟩) ?_
 refine op_valG (e := 14) (d := 19) (v := .bool (false)) rfl rfl (by kernel_rfl) (pe hs rfl rfl) (o_eq (o_eql (m := num) (n := 18446744073709551615) rfl (pe hs rfl rfl) rfl) (by rw [decide_eq_false (by omega)])) ?_
 refine q_v 20 (.bool (false)) (o_pickF rfl (pe hs rfl rfl) (pe hs rfl rfl)) ?_
 refine q_at (pe hs rfl rfl) ?_
 refine x_nil (hK_5 _ _ ?_)
 refine w2_condF (pe hs rfl rfl) ?_
 refine w2_skip ?_
 refine hK_3 _ _ ?_
 refine hK_2 _ _ ?_
 refine w2_sr (fun K_6 hK_6 => ?_)
 refine q_as (.int .i64 ((0 : Nat) : Int)) rfl ?_
 refine x_nil (hK_6 _ _ ?_)
 refine w2_ret ?_
 refine ret1 rfl hd (pe hs rfl rfl) ?_
 exact ⟨rfl, rfl⟩
theorem NewCipher_any {A0 : Option Addr} {c0 q : Nat} {ks : List Nat} (w : World) (h0 : Bs w A0 c0 ks) (hm : ks.length = q) (hm32 : q = 32) :
  Calls Tryz.prog 108 #[.slice A0 (q) (c0)] w fun e w' => ∃ (M : Nat → Prop) (g : Nat), e = .returned (.tuple #[.pointer (some ⟨g, 0, none⟩), .int .i64 0]) ∧ CipherAt w' M g ks 0 ∧ Ge w M ∧ Below w.heap.size w w' := by
 refine x_enter 11 Tryz.func108 rfl rfl (fun a hs hd ha0 => ?_)
 have t0 : a.eval (.tmp 0) = .slice A0 (q) (c0) := ha0 0 _ rfl
 clear ha0
 refine w2_sr (fun K_1 hK_1 => ?_)
 refine q_as (.pointer none) rfl ?_
 refine q_as (.int .i64 ((0 : Nat) : Int)) rfl ?_
 refine x_nil (hK_1 _ _ ?_)
 refine w2_seq (fun K_2 hK_2 => ?_)
 refine w2_sr (fun K_3 hK_3 => ?_)
 refine q_mv ((pm rfl).trans t0) ?_
 refine q_v 5 (.int .i64 ((q : Nat) : Int)) (o_len rfl (pe hs rfl rfl)) ?_
 refine q_v 6 (.bool (false)) (o_eq (o_neq (m := q) (n := 32) rfl (pe hs rfl rfl) rfl) (by rw [decide_eq_true hm32]; rfl)) ?_
 refine x_nil (hK_3 _ _ ?_)
 refine w2_condF (pe hs rfl rfl) ?_
 refine w2_skip ?_
 refine hK_2 _ _ ?_
 refine w2_sr (fun K_4 hK_4 => ?_)
 refine q_mv ((pm rfl).trans t0) ?_
 refine q_ca (vs := #[.slice A0 (q) (c0)]) Tryz.func42 (args1 (pe hs rfl rfl)) (Clone_any _ h0 hm (by omega)) (fun e_1 w_1 hR_1 => ?_)
 obtain ⟨A_1, c_1, rfl, ho_1, hb_1⟩ := hR_1
 refine ⟨_, rfl, ?_⟩
 refine q_v 9 (.agg #[.slice A_1 (q) (c_1), .int .u64 ((0 : Nat) : Int)]) (o_bld (vs := #[(0, .slice A_1 (q) (c_1))]) (v := .agg #[.slice A_1 (q) (c_1), .int .u64 ((0 : Nat) : Int)]) rfl (bld1 (pe hs rfl rfl)) (fun _ => by kernel_rfl)) ?_
 refine op_ex (d := 10) rfl rfl (o_boxL (cs := #[.slice A_1 (q) (c_1), .int .u64 ((0 : Nat) : Int)]) rfl (pe hs rfl rfl)) (fun v_1 w_2 hR_2 => ?_)
 obtain ⟨g_1, rfl, hle_1, hB_1, hb_2⟩ := hR_2
 have ge_1 : w.heap.size ≤ g_1 := Nat.le_trans hb_1.size hle_1
 replace ho_1 := ho_1.nx hb_2
 have HB_1 := below_from hb_1 hb_2
 refine q_at (pe hs rfl rfl) ?_
 refine q_as (.int .i64 ((0 : Nat) : Int)) rfl ?_
 refine x_nil (hK_4 _ _ ?_)
 refine w2_ret ?_
 refine ret2 rfl hd (pe hs rfl rfl) (pe hs rfl rfl) ?_
 subst hm32
 refine ⟨fun j => w.heap.size ≤ j ∧ j < w_2.heap.size, g_1, rfl, ⟨hm, by decide, fun j h => h.2, A_1, c_1, hB_1, ho_1.wt, ⟨ge_1, hB_1.lt⟩, fun j hj => ⟨ho_1.ge' j hj, ho_1.lt j hj⟩⟩, fun j h => h.1, HB_1⟩
theorem CSealM_any {M : Nat → Prop} {g num : Nat} {ks : List Nat} {A B : Option Addr} {c d p q : Nat} {ad bs : List Nat} (w : World) (hC : CipherAt w M g ks num) (ha : Bs w A c ad) (hb : Bs w B d bs) (hp : ad.length = p) (hq : bs.length = q) (hl : q ≤ 65519) (hpl : p ≤ 17592186044416) (hn : num < 18446744073709551615) :
  Calls Tryz.prog 89 #[.pointer (some ⟨g, 0, none⟩), .slice A (p) (c), .slice B (q) (d)] w fun e w' => ∃ A c, e = .returned (.tuple #[.slice A (q + 16) c, .int .i64 0]) ∧ Own w' w.heap.size A c (sealL ks (nonceL num) ad bs) ∧ CipherAt w' M g ks (num + 1) ∧ BelowX (fun j => j = g) w w' := by
 obtain ⟨hk32, hnum, hlt, A0, c0, hB, hKy, hMg, hMA⟩ := hC
 refine x_enter 42 Tryz.func89 rfl rfl (fun a hs hd ha0 => ?_)
 have t0 : a.eval (.tmp 0) = .pointer (some ⟨g, 0, none⟩) := ha0 0 _ rfl
 have t1 : a.eval (.tmp 1) = .slice A (p) (c) := ha0 1 _ rfl
 have t2 : a.eval (.tmp 2) = .slice B (q) (d) := ha0 2 _ rfl
 clear ha0
 have HB0 : BelowX (fun j => j = g) w w := BelowX.refl _ _
 refine w2_sr (fun K_1 hK_1 => ?_)
 refine q_as (.slice none (0) (0)) rfl ?_
 refine q_as (.int .i64 ((0 : Nat) : Int)) rfl ?_
 refine x_nil (hK_1 _ _ ?_)
 refine w2_seq (fun K_2 hK_2 => ?_)
 refine w2_sr (fun K_3 hK_3 => ?_)
 refine q_mv ((pm rfl).trans t0) ?_
 refine q_mv ((pm rfl).trans t2) ?_
 refine q_v 13 (.int .i64 ((q : Nat) : Int)) (o_len rfl (pe hs rfl rfl)) ?_
 refine q_ca (vs := #[.pointer (some ⟨g, 0, none⟩), .int .i64 ((q : Nat) : Int), .int .i64 ((65519 : Nat) : Int)]) Tryz.func129 (args3 (pe hs rfl rfl) (pe hs rfl rfl) rfl) (may_ok _ _ _ hB (by omega) hn) (fun e_1 w_1 hR_1 => ?_)
 obtain ⟨rfl, rfl⟩ := hR_1
 refine ⟨_, rfl, ?_⟩
 refine q_at (v := .int .i64 ((0 : Nat) : Int)) (pe hs rfl rfl) ?_
 refine x_nil (hK_3 _ _ ?_)
 refine w2_sr (fun K_4 hK_4 => ?_)
 refine q_mv (v := .int .i64 ((0 : Nat) : Int)) (pe hs rfl rfl) ?_
 refine q_v 16 (.bool (false)) (o_eq (o_neq (m := 0) (n := 0) rfl (pe hs rfl rfl) rfl) rfl) ?_
 refine x_nil (hK_4 _ _ ?_)
 refine w2_condF (pe hs rfl rfl) ?_
 refine w2_skip ?_
 refine hK_2 _ _ ?_
 refine w2_seq (fun K_5 hK_5 => ?_)
 refine x_drawn2 16 [fun _ v => v = .pointer (some ⟨g, 0, none⟩), fun _ v => v = .pointer (some ⟨g, 0, none⟩), fun _ v => v = .pointer (some ⟨g, 0, none⟩), fun _ v => v = .slice A0 (32) (c0), fun _ v => v = .pointer (some ⟨g, 0, none⟩), fun _ v => v = .pointer (some ⟨g, 0, none⟩), fun _ v => v = .pointer (some ⟨g, 1, none⟩), fun _ v => v = .int .u64 ((num : Nat) : Int), fun ww vv => OwnN w.heap.size (12) (nonceL num) ww vv, fun _ v => v = .slice A (p) (c), fun _ v => v = .slice B (q) (d), fun ww vv => TupN w.heap.size (q + 16) (sealL ks (nonceL num) ad bs) (0) ww vv, fun ww vv => TupN w.heap.size (q + 16) (sealL ks (nonceL num) ad bs) (0) ww vv, fun ww vv => OwnN w.heap.size (q + 16) (sealL ks (nonceL num) ad bs) ww vv, fun _ v => v = .int .i64 ((0 : Nat) : Int), fun ww vv => OwnN w.heap.size (q + 16) (sealL ks (nonceL num) ad bs) ww vv] [19, 20, 21, 22, 23, 24, 25, 26, 27, 28, 29, 30, 18, 31, 32, 9] hs hd (by kernel_rfl) (by kernel_rfl) (by kernel_rfl) (by kernel_rfl) (by kernel_rfl) ⟨stLit, stLit, stLit, stLit, stLit, stLit, stLit, stLit, stOwn, stLit, stLit, stTup, stTup, stOwn, stLit, stOwn, trivial⟩ ⟨(step_ok rfl (fun a' w' hb' hO hD => by
   have d_1 := (hO 0 (by decide)).trans ((pm rfl).trans t0)
   exact .inl ⟨_, _, (o_move rfl d_1), rfl, Below.refl _ _⟩)),
(step_ok rfl (fun a' w' hb' hO hD => by
   have d_2 : a'.eval (.tmp 19) = .pointer (some ⟨g, 0, none⟩) := hD 0 19 (by kernel_rfl) rfl
   exact .inl ⟨_, _, (o_nilCheck rfl d_2), rfl, Below.refl _ _⟩)),
(step_ok rfl (fun a' w' hb' hO hD => by
   have d_3 : a'.eval (.tmp 20) = .pointer (some ⟨g, 0, none⟩) := hD 1 20 (by kernel_rfl) rfl
   exact .inl ⟨_, _, (o_field (k' := 0) rfl d_3 (fun _ => by kernel_rfl)), rfl, Below.refl _ _⟩)),
(step_ok rfl (fun a' w' hb' hO hD => by
   have d_4 : a'.eval (.tmp 21) = .pointer (some ⟨g, 0, none⟩) := hD 2 21 (by kernel_rfl) rfl
   exact .inl ⟨_, _, (o_load1 rfl d_4 (hB.nx hb') rfl ⟨by kernel_rfl, by kernel_rfl⟩), rfl, Below.refl _ _⟩)),
(step_ok rfl (fun a' w' hb' hO hD => by
   have d_5 := (hO 0 (by decide)).trans ((pm rfl).trans t0)
   exact .inl ⟨_, _, (o_move rfl d_5), rfl, Below.refl _ _⟩)),
(step_ok rfl (fun a' w' hb' hO hD => by
   have d_6 : a'.eval (.tmp 23) = .pointer (some ⟨g, 0, none⟩) := hD 4 23 (by kernel_rfl) rfl
   exact .inl ⟨_, _, (o_nilCheck rfl d_6), rfl, Below.refl _ _⟩)),
(step_ok rfl (fun a' w' hb' hO hD => by
   have d_7 : a'.eval (.tmp 24) = .pointer (some ⟨g, 0, none⟩) := hD 5 24 (by kernel_rfl) rfl
   exact .inl ⟨_, _, (o_field (k' := 1) rfl d_7 (fun _ => by kernel_rfl)), rfl, Below.refl _ _⟩)),
(step_ok rfl (fun a' w' hb' hO hD => by
   have d_8 : a'.eval (.tmp 25) = .pointer (some ⟨g, 1, none⟩) := hD 6 25 (by kernel_rfl) rfl
   exact .inl ⟨_, _, (o_load1 rfl d_8 (hB.nx hb') rfl ⟨by kernel_rfl, by kernel_rfl⟩), rfl, Below.refl _ _⟩)),
(step_ok rfl (fun a' w' hb' hO hD => by
   have d_9 : a'.eval (.tmp 26) = .int .u64 ((num : Nat) : Int) := hD 7 26 (by kernel_rfl) rfl
   exact .inr ⟨_, #[.int .u64 ((num : Nat) : Int)], (exec_call Tryz.func131 (by kernel_rfl) (by kernel_rfl) _ rfl _ _ (args1 d_9)), Calls.mono (Nonce_any num _ (by omega)) (fun e w'' hR => by obtain ⟨A_1, c_1, rfl, ho_1, hb_2⟩ := hR; exact ⟨_, rfl, ⟨_, _, rfl, ho_1.mono hb'.size⟩, hb_2⟩)⟩)),
(step_ok rfl (fun a' w' hb' hO hD => by
   have d_10 := (hO 1 (by decide)).trans ((pm rfl).trans t1)
   exact .inl ⟨_, _, (o_move rfl d_10), rfl, Below.refl _ _⟩)),
(step_ok rfl (fun a' w' hb' hO hD => by
   have d_11 := (hO 2 (by decide)).trans ((pm rfl).trans t2)
   exact .inl ⟨_, _, (o_move rfl d_11), rfl, Below.refl _ _⟩)),
(step_ok rfl (fun a' w' hb' hO hD => by
   have d_12 : a'.eval (.tmp 22) = .slice A0 (32) (c0) := hD 3 22 (by kernel_rfl) rfl
   have d_13 := hD 8 27 (by kernel_rfl) rfl
   obtain ⟨A_2, c_2, hv_1, hO_1⟩ := d_13
   have d_14 : a'.eval (.tmp 28) = .slice A (p) (c) := hD 9 28 (by kernel_rfl) rfl
   have d_15 : a'.eval (.tmp 29) = .slice B (q) (d) := hD 10 29 (by kernel_rfl) rfl
   exact .inr ⟨_, #[.slice A0 (32) (c0), .slice A_2 (12) (c_2), .slice A (p) (c), .slice B (q) (d)], (exec_call Tryz.func130 (by kernel_rfl) (by kernel_rfl) _ rfl _ _ (args4 d_12 hv_1 d_14 d_15)), Calls.mono (Seal_full _ ((hKy.nx hb')).bs (hO_1).bs (ha.nx hb') (hb.nx hb') hk32 (by simp only [nonceL_length]) hp hq rfl rfl (by omega) (by omega)) (fun e w'' hR => by obtain ⟨A_3, c_3, rfl, ho_2, hb_3⟩ := hR; exact ⟨_, rfl, ⟨_, _, rfl, ho_2.mono hb'.size⟩, hb_3⟩)⟩)),
(step_ok rfl (fun a' w' hb' hO hD => by
   have d_16 := hD 11 30 (by kernel_rfl) rfl
   obtain ⟨A_4, c_4, hv_2, hO_2⟩ := d_16
   exact .inl ⟨_, _, (o_move rfl hv_2), ⟨_, _, rfl, hO_2⟩, Below.refl _ _⟩)),
(step_ok rfl (fun a' w' hb' hO hD => by
   have d_17 := hD 12 18 (by kernel_rfl) rfl
   obtain ⟨A_5, c_5, hv_3, hO_3⟩ := d_17
   exact .inl ⟨_, _, (o_extract rfl hv_3 rfl), ⟨_, _, rfl, hO_3⟩, Below.refl _ _⟩)),
(step_ok rfl (fun a' w' hb' hO hD => by
   have d_18 := hD 12 18 (by kernel_rfl) rfl
   obtain ⟨A_6, c_6, hv_4, hO_4⟩ := d_18
   exact .inl ⟨_, _, (o_extract rfl hv_4 rfl), rfl, Below.refl _ _⟩)),
(step_ok rfl (fun a' w' hb' hO hD => by
   have d_19 := hD 13 31 (by kernel_rfl) rfl
   obtain ⟨A_7, c_7, hv_5, hO_5⟩ := d_19
   exact .inl ⟨_, _, (o_assign rfl hv_5), ⟨_, _, rfl, hO_5⟩, Below.refl _ _⟩)), trivial⟩ (fun a_1 w_2 hs_1 hd_1 hb_4 hO_6 hV_1 => ?_)
 have ta_1_0 := (hO_6 0 (by decide)).trans ((pm rfl).trans t0)
 clear t0 t1 t2 hd
 replace hB := hB.nx hb_4
 replace hKy := hKy.nx hb_4
 replace ha := ha.nx hb_4
 replace hb := hb.nx hb_4
 have HB_1 := HB0.then hb_4
 have x_1 := hV_1 8 27 rfl rfl
 obtain ⟨A_8, c_8, hv_6, hO_7⟩ := x_1
 replace hO_7 := hO_7.mono HB0.size
 have x_2 := hV_1 11 30 rfl rfl
 obtain ⟨A_9, c_9, hv_7, hO_8⟩ := x_2
 replace hO_8 := hO_8.mono HB0.size
 have x_3 := hV_1 12 18 rfl rfl
 obtain ⟨A_10, c_10, hv_8, hO_9⟩ := x_3
 replace hO_9 := hO_9.mono HB0.size
 have x_4 := hV_1 13 31 rfl rfl
 obtain ⟨A_11, c_11, hv_9, hO_10⟩ := x_4
 replace hO_10 := hO_10.mono HB0.size
 have ta_1_32 : a_1.eval (.tmp 32) = .int .i64 ((0 : Nat) : Int) := hV_1 14 32 rfl rfl
 have x_5 := hV_1 15 9 rfl rfl
 obtain ⟨A_12, c_12, hv_10, hO_11⟩ := x_5
 replace hO_11 := hO_11.mono HB0.size
 clear hV_1 hO_6
 simp only [List.drop_succ_cons, List.drop_zero]
 refine q_at (v := .int .i64 ((0 : Nat) : Int)) ((pm rfl).trans ta_1_32) ?_
 refine x_nil (hK_5 _ _ ?_)
 refine w2_sr (fun K_6 hK_6 => ?_)
 refine q_mv ((pm rfl).trans ta_1_0) ?_
 refine q_nc (pe hs_1 rfl rfl) ?_
 refine q_fa 1 (pe hs_1 rfl rfl) ?_
 refine q_ld (v := .int .u64 ((num : Nat) : Int)) (pe hs_1 rfl rfl) hB rfl ?_
 refine q_v 37 (.int .u64 ((num + 1 : Nat) : Int)) (o_addU (m := num) (n := 1) (num + 1) rfl (pe hs_1 rfl rfl) rfl (by rw [IntKind.wrap_u64]; omega)) ?_
 refine q_nc (pe hs_1 rfl rfl) ?_
 refine q_fa 1 (pe hs_1 rfl rfl) ?_
 refine op_do rfl rfl (o_store1 rfl (pe hs_1 rfl rfl) (pe hs_1 rfl rfl) rfl rfl hB (by simp only [List.length_cons, List.length_nil]; omega) ⟨by kernel_rfl, by kernel_rfl⟩) (fun w_3 hR_2 => ?_)
 obtain ⟨hB_1, hX_1⟩ := hR_2
 replace hKy := hKy.keepX hB (by decide) hX_1
 replace hO_7 := hO_7.keepX hB (by decide) hX_1
 replace hO_8 := hO_8.keepX hB (by decide) hX_1
 replace hO_9 := hO_9.keepX hB (by decide) hX_1
 replace hO_10 := hO_10.keepX hB (by decide) hX_1
 replace hO_11 := hO_11.keepX hB (by decide) hX_1
 have HB_2 := HB_1.step hX_1 (fun k hk (hY : k = g) => hY)
 clear hB
 simp only [List.set_cons_zero, List.set_cons_succ] at hB_1
 refine x_nil (hK_6 _ _ ?_)
 refine w2_sr (fun K_7 hK_7 => ?_)
 refine q_mv ((pm rfl).trans hv_10) ?_
 refine q_mv (v := .int .i64 ((0 : Nat) : Int)) (pe hs_1 rfl rfl) ?_
 refine q_at (pe hs_1 rfl rfl) ?_
 refine q_at (v := .int .i64 ((0 : Nat) : Int)) (pe hs_1 rfl rfl) ?_
 refine x_nil (hK_7 _ _ ?_)
 refine w2_ret ?_
 refine ret2 rfl hd_1 (pe hs_1 rfl rfl) (pe hs_1 rfl rfl) ?_
 exact ⟨_, _, rfl, hO_11, ⟨hk32, by omega, hlt.up HB_2.size, _, _, hB_1, hKy, hMg, hMA⟩, HB_2⟩
theorem CSeal_any {M : Nat → Prop} {g num : Nat} {ks : List Nat} {A B : Option Addr} {c d p q : Nat} {ad bs : List Nat} (w : World) (hC : CipherAt w M g ks num) (ha : Bs w A c ad) (hb : Bs w B d bs) (hp : ad.length = p) (hq : bs.length = q) (hl : q ≤ 65519) (hpl : p ≤ 17592186044416) (hn : num < 18446744073709551615) :
  Calls Tryz.prog 89 #[.pointer (some ⟨g, 0, none⟩), .slice A (p) (c), .slice B (q) (d)] w fun e w' => ∃ A c, e = .returned (.tuple #[.slice A (q + 16) c, .int .i64 0]) ∧ Own w' w.heap.size A c (sealL ks (nonceL num) ad bs) ∧ (∃ M', CipherAt w' M' g ks (num + 1) ∧ NextM w M M') ∧ BelowX (fun j => j = g) w w' := by
 refine Calls.mono (CSealM_any w hC ha hb hp hq hl hpl hn) ?_
 rintro e w' ⟨A, c, h1, h2, h3, h4⟩
 exact ⟨A, c, h1, h2, ⟨M, h3, NextM.refl _ _⟩, h4⟩
end Go.Proofs.YtodhdajelnfhpaaGreat
