/-
 LPlays10 · CallRow, IN ONE TEXT.
-/
import Derived.Test.YtkhbihnnkflfkaaGreatEz
import Derived.Test.YtkhbihnnkflfkaaGreatAwake10
import Derived.Test.YtkhbihnnkflfkaaGreatRCiph
import Derived.Deep.Slices
import Derived.Deep.Matrix
/-
 WALKS: sapperlaw10.CipherPlays.
-/
namespace Go.Proofs.YtkhbihnnkflfkaaGreat
open Go.RowKit
set_option maxHeartbeats 8000000
set_option linter.unusedVariables false
set_option linter.unusedSimpArgs false
set_option maxRecDepth 100000
attribute [local irreducible] wpList wpListIn putsR

variable {c c0 cl g m n nl off q : Nat} {w w' : World} {M : Nat → Prop} {cs : Array Value} {T : TypeId} {A0 Al : Option Addr} {ks : List Nat}
structure CallD where
 z : Int
 A : Option Addr
 na : Nat
 ca : Nat
 a : List Nat
 B : Option Addr
 nb : Nat
 cb : Nat
 b : List Nat
 t : Int
 x : Nat
def CallAt (w : World) (l : Option Addr) (K : Nat) (d : CallD) : Prop :=
 ∃ g off, l = some ⟨g, off, none⟩ ∧ w.cell? ⟨g, off + K * 5, none⟩ = some (.int .i64 d.z) ∧ w.cell? ⟨g, off + K * 5 + 1, none⟩ = some (.slice d.A d.na d.ca) ∧ w.cell? ⟨g, off + K * 5 + 2, none⟩ = some (.slice d.B d.nb d.cb) ∧
  w.cell? ⟨g, off + K * 5 + 3, none⟩ = some (.int .i64 d.t) ∧ w.cell? ⟨g, off + K * 5 + 4, none⟩ = some (.int .u8 ((d.x : Nat) : Int)) ∧ Bs w d.A d.ca d.a ∧ d.a.length = d.na ∧ Bs w d.B d.cb d.b ∧ d.b.length = d.nb ∧ d.x < 256
section
variable {o : Oper} {ev : Operand → Value} {w : World} {x y z : Operand} {T U t : TypeId} {g k : Nat}
theorem o_lenT {A : Option Addr} (ho : o.op = .call { callee := .builtin .len, args := #[x], argTypes := #[23] }) (hx : ev x = .slice A n c) : (execOp ev o).run Tryz.prog w = .ok (.value (.int .i64 (n : Int))) w := by
 simp [execOp, ho, hx, go_sem, resolve, invoke, builtin]
theorem o_ixT {i : Nat} {E : TypeId} (ho : o.op = .indexAddr T x y) (hx : ev x = .slice (some ⟨g, off, none⟩) n c) (hy : ev y = .int .i64 ((i : Nat) : Int)) (hi : i < n) (hT : ∀ w : World, (underlying T).run Tryz.prog w = .ok (.slice E) w) (he : ∀ w : World, (sizeOf E).run Tryz.prog w = .ok m w) :
  (execOp ev o).run Tryz.prog w = .ok (.value (.pointer (some ⟨g, off + i * m, none⟩))) w := by
 have h1 : (i : Int) < (n : Int) := by omega
 have h2 : (0 : Int) ≤ (i : Int) := by omega
 have h3 : ¬ ((i : Int) < 0) := by omega
 simp [execOp, ho, hx, hy, Instr.indexAt, Instr.sureAddr, asIntOf, hT, he, h1, h2, h3, Sem.run_bind, Sem.run_pure, Addr.add_lit]
 exact fun h => absurd h (by omega)
theorem o_ldT {v0 v1 v2 v3 v4 : Value} (ho : o.op = .load t x) (hx : ev x = .pointer (some ⟨g, off, none⟩)) (h0 : w.cell? ⟨g, off, none⟩ = some v0) (h1 : w.cell? ⟨g, off + 1, none⟩ = some v1) (h2 : w.cell? ⟨g, off + 2, none⟩ = some v2) (h3 : w.cell? ⟨g, off + 3, none⟩ = some v3) (h4 : w.cell? ⟨g, off + 4, none⟩ = some v4) (ht : IsAgg t 5) :
  (execOp ev o).run Tryz.prog w = .ok (.value (.agg #[v0, v1, v2, v3, v4])) w := by
 obtain ⟨q1, q2⟩ := agg_runs ht w
 have hld : (loadCells ⟨g, off, none⟩ 5).run Tryz.prog w = .ok #[v0, v1, v2, v3, v4] w := run_loadCells_list (P := Tryz.prog) (w := w) ⟨g, off, none⟩ [v0, v1, v2, v3, v4] (fun j v hj => by
  rw [Addr.add_lit]
  match j, hj with
  | 0, hj => cases hj; exact h0
  | 1, hj => cases hj; exact h1
  | 2, hj => cases hj; exact h2
  | 3, hj => cases hj; exact h3
  | 4, hj => cases hj; exact h4
  | j + 5, hj => simp at hj)
 have hs : (Instr.sureAddr (ev x)).run Tryz.prog w = .ok ⟨g, off, none⟩ w := by rw [hx]; rfl
 simp only [execOp, ho, Instr.loadAt, loadVar, Sem.run_bind, hs, Result.andThen_ok, q1, if_true, q2, hld, Sem.run_pure]
theorem o_eqlI {m n : Int} (ho : o.op = .binOp .eql T x y U) (hx : ev x = .int .i64 m) (hy : ev y = .int .i64 n) : (execOp ev o).run Tryz.prog w = .ok (.value (.bool (decide (m = n)))) w := by
 simp [execOp, ho, hx, hy, go_sem]
 rfl
end
theorem NextM.cell {k : Nat} {v : Value} (h : Below w.heap.size w w') (hc : w.cell? ⟨g, k, none⟩ = some v) : w'.cell? ⟨g, k, none⟩ = some v := (h.cell (p := ⟨g, k, none⟩) (World.block_lt_of_cell? w _ hc)).trans hc
structure LocAt (w : World) (M : Nat → Prop) (g : Nat) (cs : Array Value) (T : TypeId) : Prop where
 set : M = fun j => j = g
 blk : Blk w g cs T
theorem LocAt.lt (h : LocAt w M g cs T) : Lt w M := by
 obtain ⟨rfl, hB⟩ := h
 exact fun j hj => hj ▸ hB.lt
theorem LocAt.nx (h : LocAt w M g cs T) (hb : Below w.heap.size w w') : LocAt w' M g cs T := ⟨h.set, h.blk.nx hb⟩
theorem LocAt.keep (h : LocAt w M g cs T) (hb : KeptM M w w') (hs : w.heap.size ≤ w'.heap.size) : LocAt w' M g cs T := by
 obtain ⟨rfl, hB⟩ := h
 exact ⟨rfl, (hb g rfl).trans hB⟩
theorem LocAt.keepM {X : Nat → Prop} (h : LocAt w M g cs T) (hb : BelowX X w w') (hs : Sep M X) : LocAt w' M g cs T := by
 obtain ⟨rfl, hB⟩ := h
 exact ⟨rfl, hb.blk hB (hs g rfl)⟩
theorem NewCipher_no (w : World) (hm32 : ¬ q = 32) :
  Calls Tryz.prog 6 #[.slice A0 (q) (c0)] w fun e w' => e = .returned (.tuple #[.pointer none, .int .i64 1]) ∧ w = w' := by
 refine x_enter 11 Tryz.func6 rfl rfl (fun a hs hd ha0 => ?_)
 have t0 := tA 0 ha0
 clear ha0
 iterate 3 refine e1 ?_
 refine q_as (.int .i64 ((0 : Nat) : Int)) rfl ?_
 iterate 5 refine e1 ?_
 refine q_w (o_len rfl ev) ?_
 refine q_v 6 (.bool (true)) (o_eq (o_neq (m := q) (n := 32) rfl ev rfl) (by rw [decide_eq_false hm32]; rfl)) ?_
 iterate 5 refine e1 ?_
 refine q_as (.int .i64 ((1 : Nat) : Int)) rfl ?_
 iterate 4 refine e1 ?_
 exact ⟨rfl, rfl⟩
theorem NewCipherW_no (w : World) (hm32 : ¬ q = 32) :
  Calls Tryz.prog 7 #[.slice A0 (q) (c0)] w fun e w' => e = .returned (.tuple #[.pointer none, .int .i64 1]) ∧ w = w' := by
 refine x_enter 11 Tryz.func7 rfl rfl (fun a hs hd ha0 => ?_)
 have t0 := tA 0 ha0
 clear ha0
 iterate 3 refine e1 ?_
 refine q_as (.int .i64 ((0 : Nat) : Int)) rfl ?_
 iterate 5 refine e1 ?_
 refine q_w (o_len rfl ev) ?_
 refine q_v 6 (.bool (true)) (o_eq (o_neq (m := q) (n := 32) rfl ev rfl) (by rw [decide_eq_false hm32]; rfl)) ?_
 iterate 5 refine e1 ?_
 refine q_as (.int .i64 ((1 : Nat) : Int)) rfl ?_
 iterate 4 refine e1 ?_
 exact ⟨rfl, rfl⟩
def erN (q : Nat) : Nat := if q = 32 then 0 else 1
theorem NewCipher_w (w : World) (h0 : Bs w A0 c0 ks) (hm : ks.length = q) :
  Calls Tryz.prog 6 #[.slice A0 (q) (c0)] w fun e w' => ∃ v, e = .returned (.tuple #[v, .int .i64 ((erN q : Nat) : Int)]) ∧ Below w.heap.size w w' := by
 by_cases h : q = 32
 ·have e : erN q = 0 := if_pos h
  rw [e]
  refine Calls.mono (NewCipher_any w h0 hm h) ?_
  rintro e w' ⟨M, g, rfl, _, _, hb⟩
  exact ⟨_, rfl, hb⟩
 ·have e : erN q = 1 := if_neg h
  rw [e]
  refine Calls.mono (NewCipher_no w h) ?_
  rintro e w' ⟨rfl, rfl⟩
  exact ⟨_, rfl, Below.refl _ _⟩
theorem NewCipherW_w (w : World) (h0 : Bs w A0 c0 ks) (hm : ks.length = q) :
  Calls Tryz.prog 7 #[.slice A0 (q) (c0)] w fun e w' => ∃ v, e = .returned (.tuple #[v, .int .i64 ((erN q : Nat) : Int)]) ∧ Below w.heap.size w w' := by
 by_cases h : q = 32
 ·have e : erN q = 0 := if_pos h
  rw [e]
  refine Calls.mono (NewCipherW_any w h0 hm h) ?_
  rintro e w' ⟨M, g, rfl, _, _, hb⟩
  exact ⟨_, rfl, hb⟩
 ·have e : erN q = 1 := if_neg h
  rw [e]
  refine Calls.mono (NewCipherW_no w h) ?_
  rintro e w' ⟨rfl, rfl⟩
  exact ⟨_, rfl, Below.refl _ _⟩
theorem CPlays0 {L : Nat → CallD} (w : World) (h0 : Bs w A0 c0 ks) (hm : ks.length = m) (hL : ∀ i, i < nl → CallAt w Al i (L i)) (hbig : 40 < m) :
  Calls Tryz.prog 3 #[.slice A0 (m) (c0), .slice Al (nl) (cl)] w fun e w' => e = .returned (.bool true) ∧ Below w.heap.size w w' := by
 refine x_enter 178 Tryz.func3 rfl rfl (fun a hs hd ha0 => ?_)
 have t0 := tA 0 ha0
 clear ha0
 iterate 8 refine e1 ?_
 refine q_w (o_len rfl ev) ?_
 refine q_v 18 (.bool (true)) (o_eq (o_gtr (m := m) (n := 40) rfl ev rfl) (by rw [decide_eq_true hbig])) ?_
 iterate 4 refine e1 ?_
 refine q_ca (vs := #[]) Tryz.func5 (args0) (awake10_any _) (fun e_1 w_1 hR_1 => ?_)
 obtain ⟨rfl, hb_2⟩ := hR_1
 refine ⟨_, rfl, ?_⟩
 iterate 5 refine e1 ?_
 exact ⟨rfl, hb_2⟩
theorem CPlaysM {L : Nat → CallD} (w : World) (h0 : Bs w A0 c0 ks) (hm : ks.length = m) (hL : ∀ i, i < nl → CallAt w Al i (L i)) (hs40 : m ≤ 40) :
  Calls Tryz.prog 3 #[.slice A0 (m) (c0), .slice Al (nl) (cl)] w fun e w' => e = .returned (.bool true) ∧ Below w.heap.size w w' := by
 refine x_enter 178 Tryz.func3 rfl rfl (fun a hs hd ha0 => ?_)
 have t0 := tA 0 ha0
 have t1 := tA 1 ha0
 clear ha0
 iterate 8 refine e1 ?_
 refine q_w (o_len rfl ev) ?_
 refine q_v 18 (.bool (false)) (o_eq (o_gtr (m := m) (n := 40) rfl ev rfl) (by rw [decide_eq_false (by omega)])) ?_
 iterate 8 refine e1 ?_
 refine k_c Tryz.func6 (NewCipher_w _ h0 hm) ?_
 rintro e_1 w_1 ⟨vq_1, rfl, hb_1⟩
 refine ⟨_, rfl, ?_⟩
 iterate 10 refine e1 ?_
 refine k_c Tryz.func7 (NewCipherW_w _ (h0.below hb_1) hm) ?_
 rintro e_2 w_2 ⟨vq_2, rfl, hb_2⟩
 have HB_1 := below_from hb_1 hb_2
 refine ⟨_, rfl, ?_⟩
 iterate 11 refine e1 ?_
 refine q_v 32 (.bool (false)) (o_eq (o_neq (m := (erN m)) (n := (erN m)) rfl ev ev) (by simp)) ?_
 iterate 8 refine e1 ?_
 refine k_c Tryz.func8 (Key_any _ (h0.below HB_1) hm) ?_
 rintro e_3 w_3 ⟨A_1, c_1, rfl, ho_1, hb_3⟩
 replace ho_1 := ho_1.mono HB_1.size
 have HB_2 := below_from HB_1 hb_3
 refine ⟨_, rfl, ?_⟩
 refine e1 ?_
 refine k_c Tryz.func6 (NewCipher_any _ (ho_1).bs (by simp only [padTo_length]) rfl) ?_
 rintro e_4 w_4 ⟨M_1, g_1, rfl, hC_1, hge_1, hb_4⟩
 have gg_1 := hge_1.down HB_2.size
 have HB_3 := below_from HB_2 hb_4
 refine ⟨_, rfl, ?_⟩
 iterate 10 refine e1 ?_
 refine k_c Tryz.func8 (Key_any _ (h0.below HB_3) hm) ?_
 rintro e_5 w_5 ⟨A_2, c_2, rfl, ho_2, hb_5⟩
 replace ho_2 := ho_2.mono HB_3.size
 replace hC_1 := hC_1.nx hb_5
 have HB_4 := below_from HB_3 hb_5
 refine ⟨_, rfl, ?_⟩
 refine e1 ?_
 refine k_c Tryz.func7 (NewCipherW_any _ (ho_2).bs (by simp only [padTo_length]) rfl) ?_
 rintro e_6 w_6 ⟨M_2, g_2, rfl, hC_2, hge_2, hb_6⟩
 have sp_3 : Sep M_1 M_2 := Sep.new hC_1.lt hge_2
 have gg_2 := hge_2.down HB_4.size
 replace hC_1 := hC_1.nx hb_6
 have HB_5 := below_from HB_4 hb_6
 refine ⟨_, rfl, ?_⟩
 iterate 11 refine e1 ?_
 refine q_v 47 (.bool (false)) (o_eq (o_neq (m := 0) (n := 0) rfl ev ev) rfl) ?_
 refine e1 ?_
 refine q_g 48 (.pointer (some ⟨g_1, 0, none⟩)) (o_move rfl ev) ?_
 refine q_g 48 (.bool (false)) (o_nil (b := false) rfl ev rfl rfl ⟨65, fun _ => by kernel_rfl⟩) ?_
 refine q_w (o_pickF rfl ev ev) ?_
 iterate 8 refine e1 ?_
 refine q_v 53 (.int .i64 ((nl : Nat) : Int)) (o_lenT rfl ev) ?_
 refine q_v 54 (.int .i64 ((0 : Nat) : Int)) (o_move rfl rfl) ?_
 iterate 2 refine e1 ?_
 refine x_loop (fun nn aa ww => ∃ (K num : Nat) (kk : List Nat) (Mc Md : Nat → Prop), nn = 21 - K ∧ aa.tmps.size = 178 ∧ aa.defers = [] ∧ aa.eval (.tmp 9) = .pointer (some ⟨g_1, 0, none⟩) ∧ aa.eval (.tmp 10) = .pointer (some ⟨g_2, 0, none⟩) ∧ aa.eval (.tmp 52) = .slice Al (nl) (cl) ∧ aa.eval (.tmp 53) = .int .i64 ((nl : Nat) : Int) ∧ aa.eval (.tmp 54) = .int .i64 ((K : Nat) : Int) ∧ K ≤ 20 ∧ num ≤ K ∧ CipherAt ww Mc g_1 kk num ∧ CipherRt ww Md g_2 kk num ∧ Sep Mc Md ∧ Ge w Mc ∧ Ge w Md ∧ Below w.heap.size w ww) (21 - 0) ?_ ?_
 ·exact ⟨0, 0, (padTo 32 ks), M_1, M_2, rfl, (psz hs), (pdf hd), ev, ev, ev, ev, ev, Nat.zero_le _, Nat.zero_le _, hC_1, hC_2, sp_3, gg_1, gg_2, HB_5⟩
 ·skip
  clear t0 t1 hd hC_1 hC_2 HB_5
  rintro nna_1 a_1 w_7 ⟨K, num, kk, Mc, Md, hm_1, hs_1, hd_1, ta_1_9, ta_1_10, ta_1_52, ta_1_53, ta_1_54, hK, hnum, hLc, hLd, sLcd, gLc, gLd, HBL⟩ K_15 hK_15
  subst hm_1
  iterate 2 refine e1 ?_
  refine q_w (o_lss rfl ev ev) ?_
  iterate 2 refine e1 ?_
  refine w2_split (pe hs_1 rfl rfl) (fun h_1 => ?_) (fun h_1 => ?_)
  ·simp only [DD9] at h_1
   have hlt : K < nl := h_1
   obtain ⟨gl, ol, hAl, q0, q1, q2, q3, q4, ha0, hla, hb0, hlb, hx⟩ := hL K hlt
   rcases hd9 : L K with ⟨zd, Aa, na, ca, xa, Ab, nb, cb, xb, zt, x⟩
   rw [hd9] at q0 q1 q2 q3 q4 ha0 hla hb0 hlb hx
   dsimp only at q0 q1 q2 q3 q4 ha0 hla hb0 hlb hx
   iterate 5 refine e1 ?_
   have lt_1 := hLc.lt
   have lt_2 := hLd.lt
   iterate 2 refine e1 ?_
   refine q_v 57 (.pointer (some ⟨gl, ol + K * 5, none⟩)) (o_ixT (off := ol) (i := K) (m := 5) (E := 34) rfl (Eq.trans ev (by rw [hAl])) ev hlt (fun _ => by kernel_rfl) (fun _ => by kernel_rfl)) ?_
   refine q_v 58 (.agg #[.int .i64 (zd), .slice Aa (na) (ca), .slice Ab (nb) (cb), .int .i64 (zt), .int .u8 ((x : Nat) : Int)]) (o_ldT rfl ev (NextM.cell HBL q0) (NextM.cell HBL q1) (NextM.cell HBL q2) (NextM.cell HBL q3) (NextM.cell HBL q4) ⟨by kernel_rfl, by kernel_rfl⟩) ?_
   refine q_x (o_alloc (zs := #[.int .i64 ((0 : Nat) : Int), .slice none (0) (0), .slice none (0) (0), .int .i64 ((0 : Nat) : Int), .int .u8 ((0 : Nat) : Int)]) rfl (fun _ => by kernel_rfl)) (fun v_1 w_8 hR_7 => ?_)
   obtain ⟨g_3, rfl, hle_3, hB_1, hb_7⟩ := hR_7
   have ge_1 : w.heap.size ≤ g_3 := Nat.le_trans HBL.size hle_3
   obtain ⟨hLc, hLd⟩ := nx2 hb_7 hLc hLd
   have HB_6 := below_from HBL hb_7
   refine e1 ?_
   refine q_d (o_storeL (vs := [.int .i64 (zd), .slice Aa (na) (ca), .slice Ab (nb) (cb), .int .i64 (zt), .int .u8 ((x : Nat) : Int)]) rfl ev ev hB_1 ⟨by kernel_rfl, by kernel_rfl⟩ rfl (by simp [Value.oneCell'])) (fun w_9 hR_8 => ?_)
   obtain ⟨hB_2, hX_1⟩ := hR_8
   have sl_lt_1 : Sep Mc (fun j => j = g_3) := fun j hj e => absurd (lt_1 j hj) (Nat.not_lt.2 (e ▸ hle_3))
   replace hLc := hLc.keepM hX_1 sl_lt_1
   have sl_lt_2 : Sep Md (fun j => j = g_3) := fun j hj e => absurd (lt_2 j hj) (Nat.not_lt.2 (e ▸ hle_3))
   replace hLd := hLd.keepM hX_1 sl_lt_2
   have HB_7 := hX_1.below HB_6 HB_6.size (fun k hk => hk ▸ ge_1)
   have hLo_1 : LocAt w_9 (fun j => j = g_3) g_3 #[.int .i64 (zd), .slice Aa (na) (ca), .slice Ab (nb) (cb), .int .i64 (zt), .int .u8 ((x : Nat) : Int)] 34 := ⟨rfl, hB_2⟩
   iterate 3 refine e1 ?_
   have hBx_1 := hLo_1.blk
   rcases (show 20 ≤ K ∨ (K < 20 ∧ 100 < na) ∨ (K < 20 ∧ na ≤ 100 ∧ 200 < nb) ∨ (K < 20 ∧ na ≤ 100 ∧ nb ≤ 200) by omega) with q5 | ⟨q5, q6⟩ | ⟨q5, q6, q7⟩ | ⟨q5, q6, q7⟩
   ·skip
    iterate 2 refine e1 ?_
    refine q_v 60 (.bool (true)) (o_eq (o_geq (m := K) (n := 20) rfl ev rfl) (by rw [decide_eq_true (by omega)])) ?_
    refine e1 ?_
    refine q_l 61 ?_
    refine q_l 61 ?_
    refine q_l 61 ?_
    refine q_l 61 ?_
    refine q_w (o_pickT rfl ev rfl) ?_
    refine e1 ?_
    refine q_l 67 ?_
    refine q_l 67 ?_
    refine q_l 67 ?_
    refine q_l 67 ?_
    refine q_w (o_pickT rfl ev rfl) ?_
    iterate 11 refine e1 ?_
    refine q_ca (vs := #[]) Tryz.func5 (args0) (awake10_any _) (fun e_7 w_10 hR_9 => ?_)
    obtain ⟨rfl, hb_9⟩ := hR_9
    obtain ⟨hLc, hLd, hLo_1, hBx_1⟩ := nx4 hb_9 hLc hLd hLo_1 hBx_1
    have HB_8 := below_from HB_7 hb_9
    refine ⟨_, rfl, ?_⟩
    iterate 4 refine e1 ?_
    exact ⟨rfl, HB_8⟩
   ·skip
    iterate 2 refine e1 ?_
    refine q_v 60 (.bool (false)) (o_eq (o_geq (m := K) (n := 20) rfl ev rfl) (by rw [decide_eq_false (by omega)])) ?_
    refine e1 ?_
    refine q_g 61 (.pointer (some ⟨g_3, 1, none⟩)) (o_field (k' := 1) rfl ev (fun _ => by kernel_rfl)) ?_
    refine q_g 61 (.slice Aa (na) (ca)) (o_load1 rfl ev hBx_1 rfl ⟨by kernel_rfl, by kernel_rfl⟩) ?_
    refine q_g 61 (.int .i64 ((na : Nat) : Int)) (o_len rfl ev) ?_
    refine q_g 61 (.bool (true)) (o_eq (o_gtr (m := na) (n := 100) rfl ev rfl) (by rw [decide_eq_true (by omega)])) ?_
    refine q_w (o_pickF rfl ev ev) ?_
    refine e1 ?_
    refine q_l 67 ?_
    refine q_l 67 ?_
    refine q_l 67 ?_
    refine q_l 67 ?_
    refine q_w (o_pickT rfl ev rfl) ?_
    iterate 11 refine e1 ?_
    refine q_ca (vs := #[]) Tryz.func5 (args0) (awake10_any _) (fun e_8 w_11 hR_10 => ?_)
    obtain ⟨rfl, hb_11⟩ := hR_10
    obtain ⟨hLc, hLd, hLo_1, hBx_1⟩ := nx4 hb_11 hLc hLd hLo_1 hBx_1
    have HB_9 := below_from HB_7 hb_11
    refine ⟨_, rfl, ?_⟩
    iterate 4 refine e1 ?_
    exact ⟨rfl, HB_9⟩
   ·skip
    iterate 2 refine e1 ?_
    refine q_v 60 (.bool (false)) (o_eq (o_geq (m := K) (n := 20) rfl ev rfl) (by rw [decide_eq_false (by omega)])) ?_
    refine e1 ?_
    refine q_g 61 (.pointer (some ⟨g_3, 1, none⟩)) (o_field (k' := 1) rfl ev (fun _ => by kernel_rfl)) ?_
    refine q_g 61 (.slice Aa (na) (ca)) (o_load1 rfl ev hBx_1 rfl ⟨by kernel_rfl, by kernel_rfl⟩) ?_
    refine q_g 61 (.int .i64 ((na : Nat) : Int)) (o_len rfl ev) ?_
    refine q_g 61 (.bool (false)) (o_eq (o_gtr (m := na) (n := 100) rfl ev rfl) (by rw [decide_eq_false (by omega)])) ?_
    refine q_w (o_pickF rfl ev ev) ?_
    refine e1 ?_
    refine q_g 67 (.pointer (some ⟨g_3, 2, none⟩)) (o_field (k' := 2) rfl ev (fun _ => by kernel_rfl)) ?_
    refine q_g 67 (.slice Ab (nb) (cb)) (o_load1 rfl ev hBx_1 rfl ⟨by kernel_rfl, by kernel_rfl⟩) ?_
    refine q_g 67 (.int .i64 ((nb : Nat) : Int)) (o_len rfl ev) ?_
    refine q_g 67 (.bool (true)) (o_eq (o_gtr (m := nb) (n := 200) rfl ev rfl) (by rw [decide_eq_true (by omega)])) ?_
    refine q_w (o_pickF rfl ev ev) ?_
    iterate 11 refine e1 ?_
    refine q_ca (vs := #[]) Tryz.func5 (args0) (awake10_any _) (fun e_9 w_12 hR_11 => ?_)
    obtain ⟨rfl, hb_13⟩ := hR_11
    obtain ⟨hLc, hLd, hLo_1, hBx_1⟩ := nx4 hb_13 hLc hLd hLo_1 hBx_1
    have HB_10 := below_from HB_7 hb_13
    refine ⟨_, rfl, ?_⟩
    iterate 4 refine e1 ?_
    exact ⟨rfl, HB_10⟩
   ·skip
    iterate 2 refine e1 ?_
    refine q_v 60 (.bool (false)) (o_eq (o_geq (m := K) (n := 20) rfl ev rfl) (by rw [decide_eq_false (by omega)])) ?_
    refine e1 ?_
    refine q_g 61 (.pointer (some ⟨g_3, 1, none⟩)) (o_field (k' := 1) rfl ev (fun _ => by kernel_rfl)) ?_
    refine q_g 61 (.slice Aa (na) (ca)) (o_load1 rfl ev hBx_1 rfl ⟨by kernel_rfl, by kernel_rfl⟩) ?_
    refine q_g 61 (.int .i64 ((na : Nat) : Int)) (o_len rfl ev) ?_
    refine q_g 61 (.bool (false)) (o_eq (o_gtr (m := na) (n := 100) rfl ev rfl) (by rw [decide_eq_false (by omega)])) ?_
    refine q_w (o_pickF rfl ev ev) ?_
    refine e1 ?_
    refine q_g 67 (.pointer (some ⟨g_3, 2, none⟩)) (o_field (k' := 2) rfl ev (fun _ => by kernel_rfl)) ?_
    refine q_g 67 (.slice Ab (nb) (cb)) (o_load1 rfl ev hBx_1 rfl ⟨by kernel_rfl, by kernel_rfl⟩) ?_
    refine q_g 67 (.int .i64 ((nb : Nat) : Int)) (o_len rfl ev) ?_
    refine q_g 67 (.bool (false)) (o_eq (o_gtr (m := nb) (n := 200) rfl ev rfl) (by rw [decide_eq_false (by omega)])) ?_
    refine q_w (o_pickF rfl ev ev) ?_
    iterate 11 refine e1 ?_
    have hBx_2 := hLo_1.blk
    rcases (show zd = 0 ∨ zd = 1 ∨ zd = 2 ∨ (¬ zd = 0 ∧ ¬ zd = 1 ∧ ¬ zd = 2) by omega) with z9 | z9 | z9 | ⟨z0, z1, z2⟩
    ·skip
     refine e1 ?_
     refine q_fb 0 ?_
     refine q_ld (v := .int .i64 (zd)) (pe hs_1 rfl rfl) hBx_2 rfl ?_
     iterate 4 refine e1 ?_
     refine q_v 80 (.bool (true)) (o_eq (o_eqlI (m := zd) (n := 0) rfl ev rfl) (by rw [decide_eq_true (by omega)])) ?_
     iterate 4 refine e1 ?_
     have hBx_3 := hLo_1.blk
     iterate 2 refine e1 ?_
     refine q_fb 1 ?_
     refine q_ld (v := .slice Aa (na) (ca)) (pe hs_1 rfl rfl) hBx_3 rfl ?_
     refine q_fb 2 ?_
     refine q_ld (v := .slice Ab (nb) (cb)) (pe hs_1 rfl rfl) hBx_3 rfl ?_
     refine e1 ?_
     refine k_c Tryz.func9 (CSealM_any (num := num) _ hLc (ha0.below HB_7) (hb0.below HB_7) hla hlb (by omega) (by omega) (by omega)) ?_
     rintro e_10 w_13 ⟨A_3, c_3, rfl, ho_3, hC_3, hX_2⟩
     have hl_1 : (sealL kk (nonceL num) xa xb).length = nb + 16 := by rw [sealL_length]; have h9 : (xb : List Nat).length = nb := hlb; omega
     have hs_2 : Sep (blkA A_3) Mc := (Sep.new hLc.lt ho_3.ge').symm
     have hX_3 : BelowX Mc _ _ := hX_2.mono (fun j _ hj => hj ▸ hLc.mem)
     have sp_5 : Sep Md Mc := (NextM.refl _ Mc).sep (sLcd.symm) hLd.lt
     have sp_6 : Sep (blkA A_3) Md := (Sep.new hLd.lt ho_3.ge').symm
     replace hLd := hLd.keepM hX_3 (sLcd.symm)
     replace hLo_1 := hLo_1.keepM hX_3 (sl_lt_1.symm)
     have gg_4 := (NextM.refl _ Mc).ge gLc HB_7.size
     replace ho_3 := ho_3.mono HB_7.size
     have HB_11 := hX_3.below HB_7 HB_7.size gLc
     refine ⟨_, rfl, ?_⟩
     iterate 6 refine e1 ?_
     have hBx_4 := hLo_1.blk
     iterate 2 refine e1 ?_
     refine q_fb 1 ?_
     refine q_ld (v := .slice Aa (na) (ca)) (pe hs_1 rfl rfl) hBx_4 rfl ?_
     refine q_fb 2 ?_
     refine q_ld (v := .slice Ab (nb) (cb)) (pe hs_1 rfl rfl) hBx_4 rfl ?_
     refine e1 ?_
     refine k_c Tryz.func10 (CSealWM_any (num := num) _ hLd (ha0.below HB_11) (hb0.below HB_11) hla hlb (by omega) (by omega) (by omega)) ?_
     rintro e_11 w_14 ⟨A_4, c_4, rfl, ho_4, hC_4, hX_4⟩
     have hl_2 : (sealL kk (nonceL num) xa xb).length = nb + 16 := by rw [sealL_length]; have h9 : (xb : List Nat).length = nb := hlb; omega
     have hs_3 : Sep (blkA A_4) Md := (Sep.new hLd.lt ho_4.ge').symm
     have hX_5 : BelowX Md _ _ := hX_4.mono (fun j _ hj => hj ▸ hLd.mem)
     have sp_11 : Sep Mc Md := (NextM.refl _ Md).sep (sp_5.symm) hC_3.lt
     replace hLo_1 := hLo_1.keepM hX_5 (sl_lt_2.symm)
     replace hC_3 := hC_3.keepM hX_5 (sp_5.symm)
     replace ho_3 := ho_3.keepM hX_5 (sp_6)
     have gg_5 := (NextM.refl _ Md).ge gLd HB_11.size
     replace ho_4 := ho_4.mono HB_11.size
     have HB_12 := hX_5.below HB_11 HB_11.size gLd
     refine ⟨_, rfl, ?_⟩
     iterate 8 refine e1 ?_
     obtain ⟨hk_1, hn_1, hl_3, Ak_1, ck_1, hB_3, hKy_1, hM_1, hMA_1⟩ := id hC_4
     refine y_drawn 17 [iV (.slice A_3 (nb + 16) (c_3)), iV (.string (strB (sealL kk (nonceL num) xa xb))), iV (.slice A_4 (nb + 16) (c_4)), iV (.string (strB (sealL kk (nonceL num) xa xb))), iV (.bool (false)), iV (.bool (false)), iI .i64 0, iI .i64 0, iV (.bool (false)), iV (.bool (false)), iV (.bool (false)), iP g_1 0, iV (.int .u64 ((num + 1 : Nat) : Int)), iP g_2 0, iP g_2 0, iP g_2 1, iV (.int .u64 ((num + 1 : Nat) : Int))] [157, 158, 159, 160, 161, 162, 163, 164, 165, 166, 167, 168, 169, 170, 171, 172, 173] hs_1 hd_1 ⟨sx, (step_ok rfl fun a' w' hb' hO hD => oV (o_str rfl ed ((ho_3.nx hb')).bs hl_1) rfl), sx, (step_ok rfl fun a' w' hb' hO hD => oV (o_str rfl ed ((ho_4.nx hb')).bs hl_2) rfl),
(step_ok rfl (fun a' w' hb' hO hD => by
       have d_5 : a'.eval (.tmp 158) = .string (strB (sealL kk (nonceL num) xa xb)) := hD 1 158 (by kernel_rfl) rfl
       have d_6 : a'.eval (.tmp 160) = .string (strB (sealL kk (nonceL num) xa xb)) := hD 3 160 (by kernel_rfl) rfl
       have e0 : (.bool (false) : Value) = .bool (false) := (by simp)
       exact .inl ⟨_, _, (o_neS rfl d_5 d_6 rfl), e0, Below.refl _ _⟩)), sx,
(step_yes 5 false 162 rfl rfl (by kernel_rfl) (fun _ _ h => h) (fun a' w' hb' hO hD => by
       have d_8 : a'.eval (.tmp 6) = .int .i64 ((0 : Nat) : Int) := (hO 6 (by decide)).trans (pe hs_1 rfl rfl)
       exact .inl ⟨_, _, (o_move rfl d_8), rfl, Below.refl _ _⟩)),
(step_yes 5 false 162 rfl rfl (by kernel_rfl) (fun _ _ h => h) (fun a' w' hb' hO hD => by
       have d_9 : a'.eval (.tmp 8) = .int .i64 ((0 : Nat) : Int) := (hO 8 (by decide)).trans (pe hs_1 rfl rfl)
       exact .inl ⟨_, _, (o_move rfl d_9), rfl, Below.refl _ _⟩)),
(step_yes 5 false 162 rfl rfl (by kernel_rfl) (fun _ _ h => h) (fun a' w' hb' hO hD => by
       have d_10 : a'.eval (.tmp 163) = .int .i64 ((0 : Nat) : Int) := hD 6 163 (by kernel_rfl) rfl
       have d_11 : a'.eval (.tmp 164) = .int .i64 ((0 : Nat) : Int) := hD 7 164 (by kernel_rfl) rfl
       have e0 : (.bool (false) : Value) = .bool (false) := (by simp)
       exact .inl ⟨_, _, (o_eq (o_neq (m := 0) (n := 0) rfl d_10 d_11) rfl), e0, Below.refl _ _⟩)), (step_ok rfl fun a' w' hb' hO hD => oV (o_pickF rfl ed ed) rfl), sx,
(step_yes 10 false 167 rfl rfl (by kernel_rfl) (fun _ _ h => h) (fun a' w' hb' hO hD => by
       have d_15 := (hO 9 (by decide)).trans ((pm rfl).trans ta_1_9)
       exact .inl ⟨_, _, (o_move rfl d_15), rfl, Below.refl _ _⟩)),
(step_yes 10 false 167 rfl rfl (by kernel_rfl) (fun _ _ h => h) (fun a' w' hb' hO hD => by
       have d_16 : a'.eval (.tmp 168) = .pointer (some ⟨g_1, 0, none⟩) := hD 11 168 (by kernel_rfl) rfl
       exact .inr ⟨_, #[.pointer (some ⟨g_1, 0, none⟩)], (exec_call Tryz.func17 (by kernel_rfl) (by kernel_rfl) _ rfl _ _ (args1 d_16)), Calls.mono (CCount_any (num := num + 1) _ (hC_3.nx hb')) (fun e w'' hR => by obtain ⟨rfl, rfl⟩ := hR; exact ⟨_, rfl, rfl, (Below.refl _ _)⟩)⟩)),
(step_yes 10 false 167 rfl rfl (by kernel_rfl) (fun _ _ h => h) (fun a' w' hb' hO hD => by
       have d_17 := (hO 10 (by decide)).trans ((pm rfl).trans ta_1_10)
       exact .inl ⟨_, _, (o_move rfl d_17), rfl, Below.refl _ _⟩)),
(step_yes 10 false 167 rfl rfl (by kernel_rfl) (fun _ _ h => h) (fun a' w' hb' hO hD => by
       have d_18 : a'.eval (.tmp 170) = .pointer (some ⟨g_2, 0, none⟩) := hD 13 170 (by kernel_rfl) rfl
       exact .inl ⟨_, _, (o_nilCheck rfl d_18), rfl, Below.refl _ _⟩)),
(step_yes 10 false 167 rfl rfl (by kernel_rfl) (fun _ _ h => h) (fun a' w' hb' hO hD => by
       have d_19 : a'.eval (.tmp 171) = .pointer (some ⟨g_2, 0, none⟩) := hD 14 171 (by kernel_rfl) rfl
       exact .inl ⟨_, _, (o_field (k' := 1) rfl d_19 (fun _ => by kernel_rfl)), rfl, Below.refl _ _⟩)),
(step_yes 10 false 167 rfl rfl (by kernel_rfl) (fun _ _ h => h) (fun a' w' hb' hO hD => by
       have d_20 : a'.eval (.tmp 172) = .pointer (some ⟨g_2, 1, none⟩) := hD 15 172 (by kernel_rfl) rfl
       exact .inl ⟨_, _, (o_load1 rfl d_20 (hB_3.nx hb') rfl ⟨by kernel_rfl, by kernel_rfl⟩), rfl, Below.refl _ _⟩)), trivial⟩ (fun a_2 w_15 hs_4 hd_2 hb_15 hO_1 hV_1 => ?_)
     have ta_2_9 := fK 9 hO_1
     have ta_2_10 := fK 10 hO_1
     have ta_2_52 := fK 52 hO_1
     have ta_2_53 := fK 53 hO_1
     have ta_2_54 := fK 54 hO_1
     obtain ⟨hLo_1, hC_3, hC_4, hKy_1⟩ := nx4 hb_15 hLo_1 hC_3 hC_4 hKy_1
     have HB_13 := below_from HB_12 hb_15
     have ta_2_167 := fV 167 hV_1
     have ta_2_169 := fV 169 hV_1
     have ta_2_173 := fV 173 hV_1
     simp only [List.drop_succ_cons, List.drop_zero]
     refine q_g 167 (.bool (false)) (o_eq (o_neq (m := (num + 1)) (n := (num + 1)) rfl ev ev) (by simp)) ?_
     refine q_w (o_pickF rfl ev ev) ?_
     iterate 6 refine e1 ?_
     refine q_w (o_add64 (n := 1) rfl ev rfl (by omega)) ?_
     refine e1 ?_
     refine x_nil ?_
     refine hK_15 _ _ _ ⟨K + 1, (num + 1), kk, Mc, Md, rfl, (psz hs_4), (pdf hd_2), ev, ev, ev, ev, ev, (by omega), (by omega), hC_3, hC_4, sp_11, gg_4, gg_5, HB_13⟩ ?_
     omega
    ·skip
     refine e1 ?_
     refine q_fb 0 ?_
     refine q_ld (v := .int .i64 (zd)) (pe hs_1 rfl rfl) hBx_2 rfl ?_
     iterate 4 refine e1 ?_
     refine q_v 80 (.bool (false)) (o_eq (o_eqlI (m := zd) (n := 0) rfl ev rfl) (by rw [decide_eq_false (by omega)])) ?_
     iterate 6 refine e1 ?_
     refine q_v 100 (.bool (true)) (o_eq (o_eqlI (m := zd) (n := 1) rfl ev rfl) (by rw [decide_eq_true (by omega)])) ?_
     iterate 7 refine e1 ?_
     have hBx_5 := hLo_1.blk
     refine e1 ?_
     refine q_x (o_build0  rfl  ) (fun v_2 w_16 hR_14 => ?_)
     obtain ⟨g_4, rfl, ho_5, hb_16⟩ := hR_14
     have hob_1 := ho_5
     have lt_3 := hLc.lt
     have lt_4 := hLd.lt
     have lt_5 := hLo_1.lt
     obtain ⟨hLc, hLd, hLo_1, hBx_1, hBx_2, hBx_5⟩ := nx6 hb_16 hLc hLd hLo_1 hBx_1 hBx_2 hBx_5
     have HB_14 := below_from HB_7 hb_16
     refine q_fb 2 ?_
     refine q_ld (v := .slice Ab (nb) (cb)) (pe hs_1 rfl rfl) hBx_5 rfl ?_
     have sz_1 : w_9.heap.size ≤ w_16.heap.size := hb_16.size
     refine q_x (o_append rfl ev ev hob_1 (hb0.below HB_14) (by simp only [List.length_nil]) hlb (by omega) sz_1) (fun v_3 w_17 hR_15 => ?_)
     obtain ⟨A_5, c_5, rfl, ho_6, hb_17, hg_1, hat_1⟩ := hR_15
     replace hLc := hLc.keep (fun k hk => hb_17.block k (lt_3 k hk)) hb_17.size
     replace hLd := hLd.keep (fun k hk => hb_17.block k (lt_4 k hk)) hb_17.size
     replace hLo_1 := hLo_1.keep (fun k hk => hb_17.block k (lt_5 k hk)) hb_17.size
     have HB_15 := HB_14.trans (hb_17.mono HB_7.size)
     have hob_2 := ho_6
     have hl_4 : (([]) ++ xb).length = 0 + nb := by rw [List.length_append]; have h8 : (([] : List Nat)).length = 0 := (by simp only [List.length_nil]); have h9 : (xb).length = nb := hlb; omega
     have sz_2 : w_9.heap.size ≤ w_17.heap.size := Nat.le_trans sz_1 hb_17.size
     iterate 4 refine e1 ?_
     have hBx_6 := hLo_1.blk
     refine e1 ?_
     refine q_fb 0 ?_
     refine q_ld (v := .int .i64 (zd)) (pe hs_1 rfl rfl) hBx_6 rfl ?_
     refine q_v 108 (.bool (true)) (o_eq (o_eqlI (m := zd) (n := 1) rfl ev rfl) (by rw [decide_eq_true (by omega)])) ?_
     iterate 3 refine e1 ?_
     have lt_6 := hLc.lt
     have lt_7 := hLd.lt
     have lt_8 := hLo_1.lt
     have hBx_7 := hLo_1.blk
     obtain ⟨hk_2, hn_2, hl_5, Ak_2, ck_2, hB_4, hKy_2, hM_2, hMA_2⟩ := id hLd
     refine y_drawn2 18 [iP g_2 0, iP g_2 0, iP g_2 0, iV (.slice Ak_2 (32) (ck_2)), iP g_2 0, iP g_2 0, iP g_2 1, iI .u64 num, fun ww vv => OwnN w_17.heap.size (12) (nonceL num) ww vv, iP g_3 1, iV (.slice Aa (na) (ca)), iP g_3 2, iV (.slice Ab (nb) (cb)), fun ww vv => TupN w_17.heap.size (nb + 16) (sealL kk (nonceL num) xa xb) (0) ww vv, fun ww vv => TupN w_17.heap.size (nb + 16) (sealL kk (nonceL num) xa xb) (0) ww vv, fun ww vv => OwnN w_17.heap.size (nb + 16) (sealL kk (nonceL num) xa xb) ww vv, iI .i64 0, fun ww vv => OwnN w_17.heap.size (nb + 16) (sealL kk (nonceL num) xa xb) ww vv] [110, 111, 112, 113, 114, 115, 116, 117, 118, 119, 120, 121, 122, 123, 109, 124, 125, 15] hs_1 hd_1 ⟨sx, sx, sx, sx, sx, sx, sx, sx, (step_ok rfl fun a' w' hb' hO hD => oC (vs := #[.int .u64 ((num : Nat) : Int)]) Tryz.func12 rfl (args1 ed) (Calls.mono (NonceW_any num _ (by omega)) (fun e w'' hR => by obtain ⟨A_6, c_6, rfl, ho_7, hb_18⟩ := hR; exact ⟨_, rfl, ⟨_, _, rfl, ho_7.mono hb'.size⟩, hb_18⟩))), sx, sx, sx, sx,
(step_ok rfl (fun a' w' hb' hO hD => by
       have d_34 : a'.eval (.tmp 113) = .slice Ak_2 (32) (ck_2) := hD 3 113 (by kernel_rfl) rfl
       have d_35 := hD 8 118 (by kernel_rfl) rfl
       obtain ⟨A_7, c_7, hv_1, hO_2⟩ := d_35
       have d_36 : a'.eval (.tmp 120) = .slice Aa (na) (ca) := hD 10 120 (by kernel_rfl) rfl
       have d_37 : a'.eval (.tmp 122) = .slice Ab (nb) (cb) := hD 12 122 (by kernel_rfl) rfl
       exact .inr ⟨_, #[.slice Ak_2 (32) (ck_2), .slice A_7 (12) (c_7), .slice Aa (na) (ca), .slice Ab (nb) (cb)], (exec_call Tryz.func11 (by kernel_rfl) (by kernel_rfl) _ rfl _ _ (args4 d_34 hv_1 d_36 d_37)), Calls.mono (SealW_ok _ ((hKy_2.nx hb')).bs (hO_2).bs (ha0.below (below_from HB_15 hb')) (hb0.below (below_from HB_15 hb')) hk_2 (by simp only [nonceL_length]) hla hlb rfl rfl (by omega) (by omega)) (fun e w'' hR => by obtain ⟨A_8, c_8, rfl, ho_8, hb_19⟩ := hR; exact ⟨_, rfl, ⟨_, _, rfl, ho_8.mono hb'.size⟩, hb_19⟩)⟩)),
(step_ok rfl (fun a' w' hb' hO hD => by
       have d_38 := hD 13 123 (by kernel_rfl) rfl
       obtain ⟨A_9, c_9, hv_2, hO_3⟩ := d_38
       exact .inl ⟨_, _, (o_move rfl hv_2), ⟨_, _, rfl, hO_3⟩, Below.refl _ _⟩)),
(step_ok rfl (fun a' w' hb' hO hD => by
       have d_39 := hD 14 109 (by kernel_rfl) rfl
       obtain ⟨A_10, c_10, hv_3, hO_4⟩ := d_39
       exact .inl ⟨_, _, (o_extract rfl hv_3 rfl), ⟨_, _, rfl, hO_4⟩, Below.refl _ _⟩)),
(step_ok rfl (fun a' w' hb' hO hD => by
       have d_40 := hD 14 109 (by kernel_rfl) rfl
       obtain ⟨A_11, c_11, hv_4, hO_5⟩ := d_40
       exact .inl ⟨_, _, (o_extract rfl hv_4 rfl), rfl, Below.refl _ _⟩)),
(step_ok rfl (fun a' w' hb' hO hD => by
       have d_41 := hD 15 124 (by kernel_rfl) rfl
       obtain ⟨A_12, c_12, hv_5, hO_6⟩ := d_41
       exact .inl ⟨_, _, (o_assign rfl hv_5), ⟨_, _, rfl, hO_6⟩, Below.refl _ _⟩)), trivial⟩ (fun a_3 w_18 hs_5 hd_3 hb_20 hO_7 hV_2 => ?_)
     have ta_3_9 := fK 9 hO_7
     have ta_3_10 := fK 10 hO_7
     have ta_3_52 := fK 52 hO_7
     have ta_3_53 := fK 53 hO_7
     have ta_3_54 := fK 54 hO_7
     have ta_3_12 := fK 12 hO_7
     obtain ⟨hLc, hLd, hLo_1, hBx_7, hKy_2⟩ := nx5 hb_20 hLc hLd hLo_1 hBx_7 hKy_2
     have HB_16 := below_from HB_15 hb_20
     have x_1 := hV_2 8 118 rfl rfl
     obtain ⟨A_13, c_13, hv_6, hO_8⟩ := x_1
     replace hO_8 := hO_8.mono HB_15.size
     have x_2 := hV_2 13 123 rfl rfl
     obtain ⟨A_14, c_14, hv_7, hO_9⟩ := x_2
     replace hO_9 := hO_9.mono HB_15.size
     have x_3 := hV_2 14 109 rfl rfl
     obtain ⟨A_15, c_15, hv_8, hO_10⟩ := x_3
     replace hO_10 := hO_10.mono HB_15.size
     have x_4 := hV_2 15 124 rfl rfl
     obtain ⟨A_16, c_16, hv_9, hO_11⟩ := x_4
     replace hO_11 := hO_11.mono HB_15.size
     have x_5 := hV_2 17 15 rfl rfl
     obtain ⟨A_17, c_17, hv_10, hO_12⟩ := x_5
     have gz_5 := hO_12.ge'
     replace hO_12 := hO_12.mono HB_15.size
     simp only [List.drop_succ_cons, List.drop_zero]
     refine x_nil ?_
     have sp_18 : Sep Mc (blkA A_17) := Sep.new lt_6 gz_5
     have sp_19 : Sep Md (blkA A_17) := Sep.new lt_7 gz_5
     have sp_20 : Sep (fun j => j = g_3) (blkA A_17) := Sep.new lt_8 gz_5
     refine e1 ?_
     have hmd9 : at64 zt % (nb + 16) < nb + 16 := Nat.mod_lt _ (by omega)
     have y1 := getD_lt hO_12.b8 (at64 zt % (nb + 16))
     have hBx_8 := hLo_1.blk
     refine y_drawn 13 [iV (.slice A_17 (nb + 16) (c_17)), iP g_3 3, iV (.int .i64 (zt)), iV (.int .u64 ((at64 zt : Nat) : Int)), iV (.slice A_17 (nb + 16) (c_17)), iV (.int .i64 ((nb + 16 : Nat) : Int)), iV (.int .u64 ((nb + 16 : Nat) : Int)), iV (.int .u64 (((at64 zt) % (nb + 16) : Nat) : Int)), iV (.int .i64 (((at64 zt) % (nb + 16) : Nat) : Int)), iV (.pointer (atA A_17 ((at64 zt) % (nb + 16)))), iV (.int .u8 (((sealL kk (nonceL num) xa xb).getD ((at64 zt) % (nb + 16)) 0 : Nat) : Int)), iP g_3 4, iI .u8 x] [126, 127, 128, 129, 130, 131, 132, 133, 134, 135, 136, 137, 138] hs_5 hd_3 ⟨sx, sx, sx, (step_ok rfl fun a' w' hb' hO hD => oV (o_convZ rfl ed ⟨.int .i64, fun _ => by kernel_rfl⟩ (fun _ => by kernel_rfl)) rfl), sx, sx,
(step_ok rfl (fun a' w' hb' hO hD => by
       have d_48 : a'.eval (.tmp 131) = .int .i64 ((nb + 16 : Nat) : Int) := hD 5 131 (by kernel_rfl) rfl
       have e0 : (.int .u64 (((nb + 16) % 18446744073709551616 : Nat) : Int) : Value) = .int .u64 ((nb + 16 : Nat) : Int) := (congrArg (fun n : Nat => Value.int .u64 ((n : Nat) : Int)) (by omega))
       exact .inl ⟨_, _, (o_conv (m := (nb + 16)) (r := (nb + 16) % 18446744073709551616) rfl d_48 ⟨.int .i64, fun _ => by kernel_rfl⟩ (fun _ => by kernel_rfl) (by rw [IntKind.wrap_u64]; omega)), e0, Below.refl _ _⟩)), (step_ok rfl fun a' w' hb' hO hD => oV (o_rem (m := (at64 zt)) (n := (nb + 16)) rfl ed ed (by omega) (by rw [IntKind.wrap_u64]; omega)) rfl), (step_ok rfl fun a' w' hb' hO hD => oV (o_conv (m := ((at64 zt) % (nb + 16))) (r := (at64 zt) % (nb + 16)) rfl ed ⟨.int .u64, fun _ => by kernel_rfl⟩ (fun _ => by kernel_rfl) (IntWalk.i64_in _ (by omega))) rfl), (step_ok rfl fun a' w' hb' hO hD => oV (o_ix (k := (at64 zt) % (nb + 16)) rfl ed ed hmd9 (((hO_12.nx hb')).bs.some (by have h9 : (sealL kk (nonceL num) xa xb).length = nb + 16 := (by simp only [sealL_length, hlb]); omega))) rfl), (step_ok rfl fun a' w' hb' hO hD => oV (o_ld8 rfl ed ((hO_12.nx hb')).bs (by rw [sealL_length, hlb]; exact hmd9) rfl) rfl), sx, sx, trivial⟩ (fun a_4 w_19 hs_6 hd_4 hb_21 hO_13 hV_3 => ?_)
     have ta_4_9 := fK 9 hO_13
     have ta_4_10 := fK 10 hO_13
     have ta_4_52 := fK 52 hO_13
     have ta_4_53 := fK 53 hO_13
     have ta_4_54 := fK 54 hO_13
     have ta_4_12 := fK 12 hO_13
     have ta_4_15 := fK 15 hO_13
     clear ta_3_9 ta_3_10 ta_3_52 ta_3_53 ta_3_54 ta_3_12 hv_6 hv_7 hv_8 hv_9 hv_10 hd_3
     obtain ⟨hLc, hLd, hLo_1, hO_12, hBx_8⟩ := nx5 hb_21 hLc hLd hLo_1 hO_12 hBx_8
     have HB_17 := below_from HB_16 hb_21
     have ta_4_126 := fV 126 hV_3
     have ta_4_134 := fV 134 hV_3
     have ta_4_136 := fV 136 hV_3
     have ta_4_138 := fV 138 hV_3
     simp only [List.drop_succ_cons, List.drop_zero]
     refine q_w (o_bits (((sealL kk (nonceL num) xa xb).getD ((at64 zt) % (nb + 16)) 0) ^^^ x) rfl ev ev (by decide) (u8_xor_nat _ _ y1 hx)) ?_
     refine q_v 140 (.pointer (atA A_17 ((at64 zt) % (nb + 16)))) (o_ix (k := (at64 zt) % (nb + 16)) rfl ev ev hmd9 ((hO_12).bs.some (by have h9 : (sealL kk (nonceL num) xa xb).length = nb + 16 := (by simp only [sealL_length, hlb]); omega))) ?_
     refine q_d (o_st8X rfl ev ev hO_12 (by have h9 : (sealL kk (nonceL num) xa xb).length = nb + 16 := (by simp only [sealL_length, hlb]); omega) (Nat.xor_lt_two_pow (n := 8) y1 hx) ⟨by kernel_rfl, by kernel_rfl⟩) (fun w_20 hR_16 => ?_)
     obtain ⟨ho_9, hX_6⟩ := hR_16
     replace hLc := hLc.keepM hX_6 (sp_18)
     replace hLd := hLd.keepM hX_6 (sp_19)
     replace hLo_1 := hLo_1.keepM hX_6 (sp_20)
     have HB_18 := hX_6.below HB_17 HB_17.size hO_12.ge'
     iterate 2 refine e1 ?_
     have hl_6 : ((sealL kk (nonceL num) xa xb).set ((at64 zt) % (nb + 16)) (((sealL kk (nonceL num) xa xb).getD ((at64 zt) % (nb + 16)) 0) ^^^ x)).length = nb + 16 := by rw [List.length_set, sealL_length, hlb]
     rcases hop : openL kk (nonceL num) xa ((sealL kk (nonceL num) xa xb).set ((at64 zt) % (nb + 16)) (((sealL kk (nonceL num) xa xb).getD ((at64 zt) % (nb + 16)) 0) ^^^ x)) with ⟨yp, rp⟩
     have hBx_9 := hLo_1.blk
     iterate 2 refine e1 ?_
     refine q_fb 1 ?_
     refine q_ld (v := .slice Aa (na) (ca)) (pe hs_6 rfl rfl) hBx_9 rfl ?_
     iterate 2 refine e1 ?_
     refine k_c Tryz.func13 (COpenM_any (num := num) _ hLc (ha0.below HB_18) (ho_9).bs hla hl_6 (by omega) (by omega) (by omega) hop) ?_
     rintro e_12 w_21 ⟨A_18, c_18, rfl, ho_10, hC_5, hX_7⟩
     have hs_7 : Sep (blkA A_18) Mc := (Sep.new hLc.lt ho_10.ge').symm
     have hX_8 : BelowX Mc _ _ := hX_7.mono (fun j _ hj => hj ▸ hLc.mem)
     have sp_22 : Sep Md Mc := (NextM.refl _ Mc).sep (sLcd.symm) hLd.lt
     have sp_23 : Sep (blkA A_18) Md := (Sep.new hLd.lt ho_10.ge').symm
     replace hLd := hLd.keepM hX_8 (sLcd.symm)
     replace hLo_1 := hLo_1.keepM hX_8 (sl_lt_1.symm)
     replace ho_9 := ho_9.keepM hX_8 (sp_18.symm)
     have gg_6 := (NextM.refl _ Mc).ge gLc HB_18.size
     replace ho_10 := ho_10.mono HB_18.size
     have HB_19 := hX_8.below HB_18 HB_18.size gLc
     refine ⟨_, rfl, ?_⟩
     iterate 6 refine e1 ?_
     have hBx_10 := hLo_1.blk
     iterate 2 refine e1 ?_
     refine q_fb 1 ?_
     refine q_ld (v := .slice Aa (na) (ca)) (pe hs_6 rfl rfl) hBx_10 rfl ?_
     iterate 2 refine e1 ?_
     refine k_c Tryz.func14 (COpenWM_any (num := num) _ hLd (ha0.below HB_19) (ho_9).bs hla hl_6 (by omega) (by omega) (by omega) hop) ?_
     rintro e_13 w_22 ⟨A_19, c_19, rfl, ho_11, hC_6, hX_9⟩
     have hs_8 : Sep (blkA A_19) Md := (Sep.new hLd.lt ho_11.ge').symm
     have hX_10 : BelowX Md _ _ := hX_9.mono (fun j _ hj => hj ▸ hLd.mem)
     have sp_36 : Sep Mc Md := (NextM.refl _ Md).sep (sp_22.symm) hC_5.lt
     replace hLo_1 := hLo_1.keepM hX_10 (sl_lt_2.symm)
     replace hC_5 := hC_5.keepM hX_10 (sp_22.symm)
     replace ho_10 := ho_10.keepM hX_10 (sp_23)
     have gg_7 := (NextM.refl _ Md).ge gLd HB_19.size
     replace ho_11 := ho_11.mono HB_19.size
     have HB_20 := hX_10.below HB_19 HB_19.size gLd
     refine ⟨_, rfl, ?_⟩
     iterate 8 refine e1 ?_
     obtain ⟨hk_3, hn_3, hl_7, Ak_3, ck_3, hB_5, hKy_3, hM_3, hMA_3⟩ := id hC_6
     refine y_drawn 17 [iV (.slice A_18 (yp.length) (c_18)), iV (.string (strB yp)), iV (.slice A_19 (yp.length) (c_19)), iV (.string (strB yp)), iV (.bool (false)), iV (.bool (false)), iI .i64 rp, iI .i64 rp, iV (.bool (false)), iV (.bool (false)), iV (.bool (false)), iP g_1 0, iV (.int .u64 (((if rp = 0 then num + 1 else num) : Nat) : Int)), iP g_2 0, iP g_2 0, iP g_2 1, iV (.int .u64 (((if rp = 0 then num + 1 else num) : Nat) : Int))] [157, 158, 159, 160, 161, 162, 163, 164, 165, 166, 167, 168, 169, 170, 171, 172, 173] hs_6 hd_4 ⟨sx, (step_ok rfl fun a' w' hb' hO hD => oV (o_str rfl ed ((ho_10.nx hb')).bs rfl) rfl), sx, (step_ok rfl fun a' w' hb' hO hD => oV (o_str rfl ed ((ho_11.nx hb')).bs rfl) rfl),
(step_ok rfl (fun a' w' hb' hO hD => by
       have d_61 : a'.eval (.tmp 158) = .string (strB yp) := hD 1 158 (by kernel_rfl) rfl
       have d_62 : a'.eval (.tmp 160) = .string (strB yp) := hD 3 160 (by kernel_rfl) rfl
       have e0 : (.bool (false) : Value) = .bool (false) := (by simp)
       exact .inl ⟨_, _, (o_neS rfl d_61 d_62 rfl), e0, Below.refl _ _⟩)), sx,
(step_yes 5 false 162 rfl rfl (by kernel_rfl) (fun _ _ h => h) (fun a' w' hb' hO hD => by
       have d_64 : a'.eval (.tmp 6) = .int .i64 ((rp : Nat) : Int) := (hO 6 (by decide)).trans (pe hs_6 rfl rfl)
       exact .inl ⟨_, _, (o_move rfl d_64), rfl, Below.refl _ _⟩)),
(step_yes 5 false 162 rfl rfl (by kernel_rfl) (fun _ _ h => h) (fun a' w' hb' hO hD => by
       have d_65 : a'.eval (.tmp 8) = .int .i64 ((rp : Nat) : Int) := (hO 8 (by decide)).trans (pe hs_6 rfl rfl)
       exact .inl ⟨_, _, (o_move rfl d_65), rfl, Below.refl _ _⟩)),
(step_yes 5 false 162 rfl rfl (by kernel_rfl) (fun _ _ h => h) (fun a' w' hb' hO hD => by
       have d_66 : a'.eval (.tmp 163) = .int .i64 ((rp : Nat) : Int) := hD 6 163 (by kernel_rfl) rfl
       have d_67 : a'.eval (.tmp 164) = .int .i64 ((rp : Nat) : Int) := hD 7 164 (by kernel_rfl) rfl
       have e0 : (.bool (!decide (rp = rp)) : Value) = .bool (false) := (by simp)
       exact .inl ⟨_, _, (o_neq (m := rp) (n := rp) rfl d_66 d_67), e0, Below.refl _ _⟩)), (step_ok rfl fun a' w' hb' hO hD => oV (o_pickF rfl ed ed) rfl), sx,
(step_yes 10 false 167 rfl rfl (by kernel_rfl) (fun _ _ h => h) (fun a' w' hb' hO hD => by
       have d_71 := (hO 9 (by decide)).trans ((pm rfl).trans ta_4_9)
       exact .inl ⟨_, _, (o_move rfl d_71), rfl, Below.refl _ _⟩)),
(step_yes 10 false 167 rfl rfl (by kernel_rfl) (fun _ _ h => h) (fun a' w' hb' hO hD => by
       have d_72 : a'.eval (.tmp 168) = .pointer (some ⟨g_1, 0, none⟩) := hD 11 168 (by kernel_rfl) rfl
       exact .inr ⟨_, #[.pointer (some ⟨g_1, 0, none⟩)], (exec_call Tryz.func17 (by kernel_rfl) (by kernel_rfl) _ rfl _ _ (args1 d_72)), Calls.mono (CCount_any (num := (if rp = 0 then num + 1 else num)) _ (hC_5.nx hb')) (fun e w'' hR => by obtain ⟨rfl, rfl⟩ := hR; exact ⟨_, rfl, rfl, (Below.refl _ _)⟩)⟩)),
(step_yes 10 false 167 rfl rfl (by kernel_rfl) (fun _ _ h => h) (fun a' w' hb' hO hD => by
       have d_73 := (hO 10 (by decide)).trans ((pm rfl).trans ta_4_10)
       exact .inl ⟨_, _, (o_move rfl d_73), rfl, Below.refl _ _⟩)),
(step_yes 10 false 167 rfl rfl (by kernel_rfl) (fun _ _ h => h) (fun a' w' hb' hO hD => by
       have d_74 : a'.eval (.tmp 170) = .pointer (some ⟨g_2, 0, none⟩) := hD 13 170 (by kernel_rfl) rfl
       exact .inl ⟨_, _, (o_nilCheck rfl d_74), rfl, Below.refl _ _⟩)),
(step_yes 10 false 167 rfl rfl (by kernel_rfl) (fun _ _ h => h) (fun a' w' hb' hO hD => by
       have d_75 : a'.eval (.tmp 171) = .pointer (some ⟨g_2, 0, none⟩) := hD 14 171 (by kernel_rfl) rfl
       exact .inl ⟨_, _, (o_field (k' := 1) rfl d_75 (fun _ => by kernel_rfl)), rfl, Below.refl _ _⟩)),
(step_yes 10 false 167 rfl rfl (by kernel_rfl) (fun _ _ h => h) (fun a' w' hb' hO hD => by
       have d_76 : a'.eval (.tmp 172) = .pointer (some ⟨g_2, 1, none⟩) := hD 15 172 (by kernel_rfl) rfl
       exact .inl ⟨_, _, (o_load1 rfl d_76 (hB_5.nx hb') rfl ⟨by kernel_rfl, by kernel_rfl⟩), rfl, Below.refl _ _⟩)), trivial⟩ (fun a_5 w_23 hs_9 hd_5 hb_24 hO_14 hV_4 => ?_)
     have ta_5_9 := fK 9 hO_14
     have ta_5_10 := fK 10 hO_14
     have ta_5_52 := fK 52 hO_14
     have ta_5_53 := fK 53 hO_14
     have ta_5_54 := fK 54 hO_14
     obtain ⟨hLo_1, hC_5, hC_6, hKy_3⟩ := nx4 hb_24 hLo_1 hC_5 hC_6 hKy_3
     have HB_21 := below_from HB_20 hb_24
     have ta_5_167 := fV 167 hV_4
     have ta_5_169 := fV 169 hV_4
     have ta_5_173 := fV 173 hV_4
     simp only [List.drop_succ_cons, List.drop_zero]
     refine q_g 167 (.bool (false)) (o_eq (o_neq (m := ((if rp = 0 then num + 1 else num))) (n := ((if rp = 0 then num + 1 else num))) rfl ev ev) (by simp)) ?_
     refine q_w (o_pickF rfl ev ev) ?_
     iterate 6 refine e1 ?_
     refine q_w (o_add64 (n := 1) rfl ev rfl (by omega)) ?_
     refine e1 ?_
     refine x_nil ?_
     refine hK_15 _ _ _ ⟨K + 1, ((if rp = 0 then num + 1 else num)), kk, Mc, Md, rfl, (psz hs_9), (pdf hd_5), ev, ev, ev, ev, ev, (by omega), (by split <;> omega), hC_5, hC_6, sp_36, gg_6, gg_7, HB_21⟩ ?_
     omega
    ·skip
     refine e1 ?_
     refine q_fb 0 ?_
     refine q_ld (v := .int .i64 (zd)) (pe hs_1 rfl rfl) hBx_2 rfl ?_
     iterate 4 refine e1 ?_
     refine q_v 80 (.bool (false)) (o_eq (o_eqlI (m := zd) (n := 0) rfl ev rfl) (by rw [decide_eq_false (by omega)])) ?_
     iterate 6 refine e1 ?_
     refine q_v 100 (.bool (false)) (o_eq (o_eqlI (m := zd) (n := 1) rfl ev rfl) (by rw [decide_eq_false (by omega)])) ?_
     iterate 4 refine e1 ?_
     refine q_v 101 (.bool (true)) (o_eq (o_eqlI (m := zd) (n := 2) rfl ev rfl) (by rw [decide_eq_true (by omega)])) ?_
     iterate 4 refine e1 ?_
     have hBx_11 := hLo_1.blk
     refine e1 ?_
     refine q_x (o_build0  rfl  ) (fun v_4 w_24 hR_19 => ?_)
     obtain ⟨g_5, rfl, ho_12, hb_25⟩ := hR_19
     have hob_3 := ho_12
     have lt_10 := hLc.lt
     have lt_11 := hLd.lt
     have lt_12 := hLo_1.lt
     obtain ⟨hLc, hLd, hLo_1, hBx_1, hBx_2, hBx_11⟩ := nx6 hb_25 hLc hLd hLo_1 hBx_1 hBx_2 hBx_11
     have HB_22 := below_from HB_7 hb_25
     refine q_fb 2 ?_
     refine q_ld (v := .slice Ab (nb) (cb)) (pe hs_1 rfl rfl) hBx_11 rfl ?_
     have sz_3 : w_9.heap.size ≤ w_24.heap.size := hb_25.size
     refine q_x (o_append rfl ev ev hob_3 (hb0.below HB_22) (by simp only [List.length_nil]) hlb (by omega) sz_3) (fun v_5 w_25 hR_20 => ?_)
     obtain ⟨A_20, c_20, rfl, ho_13, hb_26, hg_2, hat_2⟩ := hR_20
     replace hLc := hLc.keep (fun k hk => hb_26.block k (lt_10 k hk)) hb_26.size
     replace hLd := hLd.keep (fun k hk => hb_26.block k (lt_11 k hk)) hb_26.size
     replace hLo_1 := hLo_1.keep (fun k hk => hb_26.block k (lt_12 k hk)) hb_26.size
     have HB_23 := HB_22.trans (hb_26.mono HB_7.size)
     have hob_4 := ho_13
     replace ho_13 := ho_13.mono HB_7.size
     have hl_8 : (([]) ++ xb).length = 0 + nb := by rw [List.length_append]; have h8 : (([] : List Nat)).length = 0 := (by simp only [List.length_nil]); have h9 : (xb).length = nb := hlb; omega
     have sz_4 : w_9.heap.size ≤ w_25.heap.size := Nat.le_trans sz_3 hb_26.size
     have sp_40 := Sep.new lt_10 hob_4.ge'
     iterate 4 refine e1 ?_
     have hBx_12 := hLo_1.blk
     refine e1 ?_
     refine q_fb 0 ?_
     refine q_ld (v := .int .i64 (zd)) (pe hs_1 rfl rfl) hBx_12 rfl ?_
     refine q_v 108 (.bool (false)) (o_eq (o_eqlI (m := zd) (n := 1) rfl ev rfl) (by rw [decide_eq_false (by omega)])) ?_
     iterate 5 refine e1 ?_
     rcases hop : openL kk (nonceL num) xa (([]) ++ xb) with ⟨yp, rp⟩
     have hBx_13 := hLo_1.blk
     iterate 2 refine e1 ?_
     refine q_fb 1 ?_
     refine q_ld (v := .slice Aa (na) (ca)) (pe hs_1 rfl rfl) hBx_13 rfl ?_
     iterate 2 refine e1 ?_
     refine k_c Tryz.func13 (COpenM_any (num := num) _ hLc (ha0.below HB_23) (ho_13).bs hla hl_8 (by omega) (by omega) (by omega) hop) ?_
     rintro e_14 w_26 ⟨A_21, c_21, rfl, ho_14, hC_7, hX_11⟩
     have hs_10 : Sep (blkA A_21) Mc := (Sep.new hLc.lt ho_14.ge').symm
     have hX_12 : BelowX Mc _ _ := hX_11.mono (fun j _ hj => hj ▸ hLc.mem)
     have sp_43 : Sep Md Mc := (NextM.refl _ Mc).sep (sLcd.symm) hLd.lt
     have sp_44 : Sep (blkA A_21) Md := (Sep.new hLd.lt ho_14.ge').symm
     replace hLd := hLd.keepM hX_12 (sLcd.symm)
     replace hLo_1 := hLo_1.keepM hX_12 (sl_lt_1.symm)
     replace ho_13 := ho_13.keepM hX_12 (sp_40.symm)
     have gg_8 := (NextM.refl _ Mc).ge gLc HB_23.size
     replace ho_14 := ho_14.mono HB_23.size
     have HB_24 := hX_12.below HB_23 HB_23.size gLc
     refine ⟨_, rfl, ?_⟩
     iterate 6 refine e1 ?_
     have hBx_14 := hLo_1.blk
     iterate 2 refine e1 ?_
     refine q_fb 1 ?_
     refine q_ld (v := .slice Aa (na) (ca)) (pe hs_1 rfl rfl) hBx_14 rfl ?_
     iterate 2 refine e1 ?_
     refine k_c Tryz.func14 (COpenWM_any (num := num) _ hLd (ha0.below HB_24) (ho_13).bs hla hl_8 (by omega) (by omega) (by omega) hop) ?_
     rintro e_15 w_27 ⟨A_22, c_22, rfl, ho_15, hC_8, hX_13⟩
     have hs_11 : Sep (blkA A_22) Md := (Sep.new hLd.lt ho_15.ge').symm
     have hX_14 : BelowX Md _ _ := hX_13.mono (fun j _ hj => hj ▸ hLd.mem)
     have sp_53 : Sep Mc Md := (NextM.refl _ Md).sep (sp_43.symm) hC_7.lt
     replace hLo_1 := hLo_1.keepM hX_14 (sl_lt_2.symm)
     replace hC_7 := hC_7.keepM hX_14 (sp_43.symm)
     replace ho_14 := ho_14.keepM hX_14 (sp_44)
     have gg_9 := (NextM.refl _ Md).ge gLd HB_24.size
     replace ho_15 := ho_15.mono HB_24.size
     have HB_25 := hX_14.below HB_24 HB_24.size gLd
     refine ⟨_, rfl, ?_⟩
     iterate 8 refine e1 ?_
     obtain ⟨hk_4, hn_4, hl_9, Ak_4, ck_4, hB_6, hKy_4, hM_4, hMA_4⟩ := id hC_8
     refine y_drawn 17 [iV (.slice A_21 (yp.length) (c_21)), iV (.string (strB yp)), iV (.slice A_22 (yp.length) (c_22)), iV (.string (strB yp)), iV (.bool (false)), iV (.bool (false)), iI .i64 rp, iI .i64 rp, iV (.bool (false)), iV (.bool (false)), iV (.bool (false)), iP g_1 0, iV (.int .u64 (((if rp = 0 then num + 1 else num) : Nat) : Int)), iP g_2 0, iP g_2 0, iP g_2 1, iV (.int .u64 (((if rp = 0 then num + 1 else num) : Nat) : Int))] [157, 158, 159, 160, 161, 162, 163, 164, 165, 166, 167, 168, 169, 170, 171, 172, 173] hs_1 hd_1 ⟨sx, (step_ok rfl fun a' w' hb' hO hD => oV (o_str rfl ed ((ho_14.nx hb')).bs rfl) rfl), sx, (step_ok rfl fun a' w' hb' hO hD => oV (o_str rfl ed ((ho_15.nx hb')).bs rfl) rfl),
(step_ok rfl (fun a' w' hb' hO hD => by
       have d_81 : a'.eval (.tmp 158) = .string (strB yp) := hD 1 158 (by kernel_rfl) rfl
       have d_82 : a'.eval (.tmp 160) = .string (strB yp) := hD 3 160 (by kernel_rfl) rfl
       have e0 : (.bool (false) : Value) = .bool (false) := (by simp)
       exact .inl ⟨_, _, (o_neS rfl d_81 d_82 rfl), e0, Below.refl _ _⟩)), sx,
(step_yes 5 false 162 rfl rfl (by kernel_rfl) (fun _ _ h => h) (fun a' w' hb' hO hD => by
       have d_84 : a'.eval (.tmp 6) = .int .i64 ((rp : Nat) : Int) := (hO 6 (by decide)).trans (pe hs_1 rfl rfl)
       exact .inl ⟨_, _, (o_move rfl d_84), rfl, Below.refl _ _⟩)),
(step_yes 5 false 162 rfl rfl (by kernel_rfl) (fun _ _ h => h) (fun a' w' hb' hO hD => by
       have d_85 : a'.eval (.tmp 8) = .int .i64 ((rp : Nat) : Int) := (hO 8 (by decide)).trans (pe hs_1 rfl rfl)
       exact .inl ⟨_, _, (o_move rfl d_85), rfl, Below.refl _ _⟩)),
(step_yes 5 false 162 rfl rfl (by kernel_rfl) (fun _ _ h => h) (fun a' w' hb' hO hD => by
       have d_86 : a'.eval (.tmp 163) = .int .i64 ((rp : Nat) : Int) := hD 6 163 (by kernel_rfl) rfl
       have d_87 : a'.eval (.tmp 164) = .int .i64 ((rp : Nat) : Int) := hD 7 164 (by kernel_rfl) rfl
       have e0 : (.bool (!decide (rp = rp)) : Value) = .bool (false) := (by simp)
       exact .inl ⟨_, _, (o_neq (m := rp) (n := rp) rfl d_86 d_87), e0, Below.refl _ _⟩)), (step_ok rfl fun a' w' hb' hO hD => oV (o_pickF rfl ed ed) rfl), sx,
(step_yes 10 false 167 rfl rfl (by kernel_rfl) (fun _ _ h => h) (fun a' w' hb' hO hD => by
       have d_91 := (hO 9 (by decide)).trans ((pm rfl).trans ta_1_9)
       exact .inl ⟨_, _, (o_move rfl d_91), rfl, Below.refl _ _⟩)),
(step_yes 10 false 167 rfl rfl (by kernel_rfl) (fun _ _ h => h) (fun a' w' hb' hO hD => by
       have d_92 : a'.eval (.tmp 168) = .pointer (some ⟨g_1, 0, none⟩) := hD 11 168 (by kernel_rfl) rfl
       exact .inr ⟨_, #[.pointer (some ⟨g_1, 0, none⟩)], (exec_call Tryz.func17 (by kernel_rfl) (by kernel_rfl) _ rfl _ _ (args1 d_92)), Calls.mono (CCount_any (num := (if rp = 0 then num + 1 else num)) _ (hC_7.nx hb')) (fun e w'' hR => by obtain ⟨rfl, rfl⟩ := hR; exact ⟨_, rfl, rfl, (Below.refl _ _)⟩)⟩)),
(step_yes 10 false 167 rfl rfl (by kernel_rfl) (fun _ _ h => h) (fun a' w' hb' hO hD => by
       have d_93 := (hO 10 (by decide)).trans ((pm rfl).trans ta_1_10)
       exact .inl ⟨_, _, (o_move rfl d_93), rfl, Below.refl _ _⟩)),
(step_yes 10 false 167 rfl rfl (by kernel_rfl) (fun _ _ h => h) (fun a' w' hb' hO hD => by
       have d_94 : a'.eval (.tmp 170) = .pointer (some ⟨g_2, 0, none⟩) := hD 13 170 (by kernel_rfl) rfl
       exact .inl ⟨_, _, (o_nilCheck rfl d_94), rfl, Below.refl _ _⟩)),
(step_yes 10 false 167 rfl rfl (by kernel_rfl) (fun _ _ h => h) (fun a' w' hb' hO hD => by
       have d_95 : a'.eval (.tmp 171) = .pointer (some ⟨g_2, 0, none⟩) := hD 14 171 (by kernel_rfl) rfl
       exact .inl ⟨_, _, (o_field (k' := 1) rfl d_95 (fun _ => by kernel_rfl)), rfl, Below.refl _ _⟩)),
(step_yes 10 false 167 rfl rfl (by kernel_rfl) (fun _ _ h => h) (fun a' w' hb' hO hD => by
       have d_96 : a'.eval (.tmp 172) = .pointer (some ⟨g_2, 1, none⟩) := hD 15 172 (by kernel_rfl) rfl
       exact .inl ⟨_, _, (o_load1 rfl d_96 (hB_6.nx hb') rfl ⟨by kernel_rfl, by kernel_rfl⟩), rfl, Below.refl _ _⟩)), trivial⟩ (fun a_6 w_28 hs_12 hd_6 hb_28 hO_15 hV_5 => ?_)
     have ta_6_9 := fK 9 hO_15
     have ta_6_10 := fK 10 hO_15
     have ta_6_52 := fK 52 hO_15
     have ta_6_53 := fK 53 hO_15
     have ta_6_54 := fK 54 hO_15
     obtain ⟨hLo_1, hC_7, hC_8, hKy_4⟩ := nx4 hb_28 hLo_1 hC_7 hC_8 hKy_4
     have HB_26 := below_from HB_25 hb_28
     have ta_6_167 := fV 167 hV_5
     have ta_6_169 := fV 169 hV_5
     have ta_6_173 := fV 173 hV_5
     simp only [List.drop_succ_cons, List.drop_zero]
     refine q_g 167 (.bool (false)) (o_eq (o_neq (m := ((if rp = 0 then num + 1 else num))) (n := ((if rp = 0 then num + 1 else num))) rfl ev ev) (by simp)) ?_
     refine q_w (o_pickF rfl ev ev) ?_
     iterate 6 refine e1 ?_
     refine q_w (o_add64 (n := 1) rfl ev rfl (by omega)) ?_
     refine e1 ?_
     refine x_nil ?_
     refine hK_15 _ _ _ ⟨K + 1, ((if rp = 0 then num + 1 else num)), kk, Mc, Md, rfl, (psz hs_12), (pdf hd_6), ev, ev, ev, ev, ev, (by omega), (by split <;> omega), hC_7, hC_8, sp_53, gg_8, gg_9, HB_26⟩ ?_
     omega
    ·skip
     refine e1 ?_
     refine q_fb 0 ?_
     refine q_ld (v := .int .i64 (zd)) (pe hs_1 rfl rfl) hBx_2 rfl ?_
     iterate 4 refine e1 ?_
     refine q_v 80 (.bool (false)) (o_eq (o_eqlI (m := zd) (n := 0) rfl ev rfl) (by rw [decide_eq_false (by omega)])) ?_
     iterate 6 refine e1 ?_
     refine q_v 100 (.bool (false)) (o_eq (o_eqlI (m := zd) (n := 1) rfl ev rfl) (by rw [decide_eq_false (by omega)])) ?_
     iterate 4 refine e1 ?_
     refine q_v 101 (.bool (false)) (o_eq (o_eqlI (m := zd) (n := 2) rfl ev rfl) (by rw [decide_eq_false (by omega)])) ?_
     iterate 7 refine e1 ?_
     refine k_c Tryz.func15 (CRekey_any _ hLc) ?_
     rintro e_16 w_29 ⟨rfl, ⟨M_3, hC_9, hN_1⟩, hX_15⟩
     have hX_16 : BelowX Mc _ _ := hX_15.mono (fun j _ hj => hj ▸ hLc.mem)
     have sp_57 : Sep Md M_3 := hN_1.sep (sLcd.symm) hLd.lt
     replace hLd := hLd.keepM hX_16 (sLcd.symm)
     replace hLo_1 := hLo_1.keepM hX_16 (sl_lt_1.symm)
     have gg_10 := hN_1.ge gLc HB_7.size
     have HB_27 := hX_16.below HB_7 HB_7.size gLc
     refine ⟨_, rfl, ?_⟩
     refine e1 ?_
     refine q_as (.int .i64 ((0 : Nat) : Int)) rfl ?_
     iterate 4 refine e1 ?_
     refine k_c Tryz.func16 (CRekeyW_any _ hLd) ?_
     rintro e_17 w_30 ⟨rfl, ⟨M_4, hC_10, hN_2⟩, hX_17⟩
     have hX_18 : BelowX Md _ _ := hX_17.mono (fun j _ hj => hj ▸ hLd.mem)
     have sp_60 : Sep M_3 M_4 := hN_2.sep (sp_57.symm) hC_9.lt
     replace hLo_1 := hLo_1.keepM hX_18 (sl_lt_2.symm)
     replace hC_9 := hC_9.keepM hX_18 (sp_57.symm)
     have gg_11 := hN_2.ge gLd HB_27.size
     have HB_28 := hX_18.below HB_27 HB_27.size gLd
     refine ⟨_, rfl, ?_⟩
     iterate 3 refine e1 ?_
     obtain ⟨hk_5, hn_5, hl_10, Ak_5, ck_5, hB_7, hKy_5, hM_5, hMA_5⟩ := id hC_10
     refine y_drawn 17 [iV (.slice none (0) (0)), iV (.string (strB ([]))), iV (.slice none (0) (0)), iV (.string (strB ([]))), iV (.bool (false)), iV (.bool (false)), iI .i64 0, iI .i64 0, iV (.bool (false)), iV (.bool (false)), iV (.bool (false)), iP g_1 0, iI .u64 num, iP g_2 0, iP g_2 0, iP g_2 1, iI .u64 num] [157, 158, 159, 160, 161, 162, 163, 164, 165, 166, 167, 168, 169, 170, 171, 172, 173] hs_1 hd_1 ⟨sx, (step_ok rfl fun a' w' hb' hO hD => oV (o_str rfl ed (Bs.nil _) (by simp only [List.length_nil])) rfl), sx, (step_ok rfl fun a' w' hb' hO hD => oV (o_str rfl ed (Bs.nil _) (by simp only [List.length_nil])) rfl),
(step_ok rfl (fun a' w' hb' hO hD => by
       have d_101 : a'.eval (.tmp 158) = .string (strB ([])) := hD 1 158 (by kernel_rfl) rfl
       have d_102 : a'.eval (.tmp 160) = .string (strB ([])) := hD 3 160 (by kernel_rfl) rfl
       have e0 : (.bool (false) : Value) = .bool (false) := (by simp)
       exact .inl ⟨_, _, (o_neS rfl d_101 d_102 rfl), e0, Below.refl _ _⟩)), sx,
(step_yes 5 false 162 rfl rfl (by kernel_rfl) (fun _ _ h => h) (fun a' w' hb' hO hD => by
       have d_104 : a'.eval (.tmp 6) = .int .i64 ((0 : Nat) : Int) := (hO 6 (by decide)).trans (pe hs_1 rfl rfl)
       exact .inl ⟨_, _, (o_move rfl d_104), rfl, Below.refl _ _⟩)),
(step_yes 5 false 162 rfl rfl (by kernel_rfl) (fun _ _ h => h) (fun a' w' hb' hO hD => by
       have d_105 : a'.eval (.tmp 8) = .int .i64 ((0 : Nat) : Int) := (hO 8 (by decide)).trans (pe hs_1 rfl rfl)
       exact .inl ⟨_, _, (o_move rfl d_105), rfl, Below.refl _ _⟩)),
(step_yes 5 false 162 rfl rfl (by kernel_rfl) (fun _ _ h => h) (fun a' w' hb' hO hD => by
       have d_106 : a'.eval (.tmp 163) = .int .i64 ((0 : Nat) : Int) := hD 6 163 (by kernel_rfl) rfl
       have d_107 : a'.eval (.tmp 164) = .int .i64 ((0 : Nat) : Int) := hD 7 164 (by kernel_rfl) rfl
       have e0 : (.bool (false) : Value) = .bool (false) := (by simp)
       exact .inl ⟨_, _, (o_eq (o_neq (m := 0) (n := 0) rfl d_106 d_107) rfl), e0, Below.refl _ _⟩)), (step_ok rfl fun a' w' hb' hO hD => oV (o_pickF rfl ed ed) rfl), sx,
(step_yes 10 false 167 rfl rfl (by kernel_rfl) (fun _ _ h => h) (fun a' w' hb' hO hD => by
       have d_111 := (hO 9 (by decide)).trans ((pm rfl).trans ta_1_9)
       exact .inl ⟨_, _, (o_move rfl d_111), rfl, Below.refl _ _⟩)),
(step_yes 10 false 167 rfl rfl (by kernel_rfl) (fun _ _ h => h) (fun a' w' hb' hO hD => by
       have d_112 : a'.eval (.tmp 168) = .pointer (some ⟨g_1, 0, none⟩) := hD 11 168 (by kernel_rfl) rfl
       exact .inr ⟨_, #[.pointer (some ⟨g_1, 0, none⟩)], (exec_call Tryz.func17 (by kernel_rfl) (by kernel_rfl) _ rfl _ _ (args1 d_112)), Calls.mono (CCount_any (num := num) _ (hC_9.nx hb')) (fun e w'' hR => by obtain ⟨rfl, rfl⟩ := hR; exact ⟨_, rfl, rfl, (Below.refl _ _)⟩)⟩)),
(step_yes 10 false 167 rfl rfl (by kernel_rfl) (fun _ _ h => h) (fun a' w' hb' hO hD => by
       have d_113 := (hO 10 (by decide)).trans ((pm rfl).trans ta_1_10)
       exact .inl ⟨_, _, (o_move rfl d_113), rfl, Below.refl _ _⟩)),
(step_yes 10 false 167 rfl rfl (by kernel_rfl) (fun _ _ h => h) (fun a' w' hb' hO hD => by
       have d_114 : a'.eval (.tmp 170) = .pointer (some ⟨g_2, 0, none⟩) := hD 13 170 (by kernel_rfl) rfl
       exact .inl ⟨_, _, (o_nilCheck rfl d_114), rfl, Below.refl _ _⟩)),
(step_yes 10 false 167 rfl rfl (by kernel_rfl) (fun _ _ h => h) (fun a' w' hb' hO hD => by
       have d_115 : a'.eval (.tmp 171) = .pointer (some ⟨g_2, 0, none⟩) := hD 14 171 (by kernel_rfl) rfl
       exact .inl ⟨_, _, (o_field (k' := 1) rfl d_115 (fun _ => by kernel_rfl)), rfl, Below.refl _ _⟩)),
(step_yes 10 false 167 rfl rfl (by kernel_rfl) (fun _ _ h => h) (fun a' w' hb' hO hD => by
       have d_116 : a'.eval (.tmp 172) = .pointer (some ⟨g_2, 1, none⟩) := hD 15 172 (by kernel_rfl) rfl
       exact .inl ⟨_, _, (o_load1 rfl d_116 (hB_7.nx hb') rfl ⟨by kernel_rfl, by kernel_rfl⟩), rfl, Below.refl _ _⟩)), trivial⟩ (fun a_7 w_31 hs_13 hd_7 hb_30 hO_16 hV_6 => ?_)
     have ta_7_9 := fK 9 hO_16
     have ta_7_10 := fK 10 hO_16
     have ta_7_52 := fK 52 hO_16
     have ta_7_53 := fK 53 hO_16
     have ta_7_54 := fK 54 hO_16
     obtain ⟨hLo_1, hC_9, hC_10, hKy_5⟩ := nx4 hb_30 hLo_1 hC_9 hC_10 hKy_5
     have HB_29 := below_from HB_28 hb_30
     have ta_7_167 := fV 167 hV_6
     have ta_7_169 := fV 169 hV_6
     have ta_7_173 := fV 173 hV_6
     simp only [List.drop_succ_cons, List.drop_zero]
     refine q_g 167 (.bool (false)) (o_eq (o_neq (m := num) (n := num) rfl ev ev) (by simp)) ?_
     refine q_w (o_pickF rfl ev ev) ?_
     iterate 6 refine e1 ?_
     refine q_w (o_add64 (n := 1) rfl ev rfl (by omega)) ?_
     refine e1 ?_
     refine x_nil ?_
     refine hK_15 _ _ _ ⟨K + 1, num, (rekeyL kk), M_3, M_4, rfl, (psz hs_13), (pdf hd_7), ev, ev, ev, ev, ev, (by omega), (by omega), hC_9, hC_10, sp_60, gg_10, gg_11, HB_29⟩ ?_
     omega
  ·simp only [DD9] at h_1
   iterate 7 refine e1 ?_
   refine q_ca (vs := #[]) Tryz.func5 (args0) (awake10_any _) (fun e_18 w_32 hR_25 => ?_)
   obtain ⟨rfl, hb_32⟩ := hR_25
   obtain ⟨hLc, hLd⟩ := nx2 hb_32 hLc hLd
   have HB_30 := below_from HBL hb_32
   refine ⟨_, rfl, ?_⟩
   iterate 4 refine e1 ?_
   exact ⟨rfl, HB_30⟩
theorem CipherPlays_any {L : Nat → CallD} (w : World) (h0 : Bs w A0 c0 ks) (hm : ks.length = m) (hL : ∀ i, i < nl → CallAt w Al i (L i)) :
  Calls Tryz.prog 3 #[.slice A0 (m) (c0), .slice Al (nl) (cl)] w fun e w' => e = .returned (.bool true) ∧ Below w.heap.size w w' := by
 by_cases h : 40 < m
 ·exact CPlays0 w h0 hm hL h
 ·exact CPlaysM w h0 hm hL (by omega)
end Go.Proofs.YtkhbihnnkflfkaaGreat
/-
 THE FRAME of CipherPlays: a slice of calls that comes in.
-/
namespace Go.Proofs.YtkhbihnnkflfkaaGreat
open Go.RowKit Go.Deep Go.ChangeShapes Go.WideShapes
set_option linter.unusedVariables false
set_option linter.unusedSimpArgs false
set_option maxRecDepth 100000

variable {w : World}
theorem spot_none {a : Addr} {v : Value} (h : w.cell? a = some v) : a.spot = none := by
 unfold World.cell? at h
 cases hs : a.spot with
 | none => rfl
 | some s =>
  rw [hs] at h
  split at h <;> simp at h
theorem calls_row {H : Type} {enc : TypeId × Value → H} {base : Nat} {held : Bool} {fuel : Nat} {cs : List Value} {x : DataW H × List MemPlace}
  (h : DataW.trod enc Tryz.prog w base (fun _ => true) held fuel 23 cs = some x) :
  cs = [.slice none 0 0] ∨ ∃ (a : Addr) (len cap : Nat) (L : Nat → CallD), cs = [.slice (some a) len cap] ∧ ∀ i, i < len → CallAt w (some a) i (L i) := by
 rcases open_slice Tryz.underlying23 h with ⟨h0, _⟩ | ⟨a, len, cap, m, n, D, Pl, rfl, hb, hl, hm, hmm, rfl, hx⟩
 ·exact .inl h0
 right
 have hlm : len ≤ m := by rw [hmm]; split <;> omega
 have ce : Tryz.prog.cellsOf 34 = 5 := by kernel_rfl
 have each : ∀ i, ∃ d : CallD, i < len → CallAt w (some a) i d := by
  intro i
  by_cases hi : i < len
  ·obtain ⟨cs', h1, h2⟩ := hx i (by omega)
   rw [ce] at h1
   obtain ⟨_, hlen, hcell⟩ := World.cells?_some h1
   obtain ⟨xs, k, hk, hxy, _, hxl, hf⟩ := DataW.trod_struct Tryz.underlying34 h2
   match xs, hxl, cs', hlen with
   | [y0, y1, y2, y3, y4], _, [v0, v1, v2, v3, v4], _ =>
    have g0 : DataW.trod enc Tryz.prog w base (fun _ => true) held k 3 [v0] = some y0 := by
     have h := hf 0 _ rfl
     rw [show Tryz.prog.cellsOf _ = 1 from (by kernel_rfl)] at h
     exact h
    have g1 : DataW.trod enc Tryz.prog w base (fun _ => true) held k 22 [v1] = some y1 := by
     have h := hf 1 _ rfl
     rw [show Tryz.prog.cellsOf _ = 1 from (by kernel_rfl)] at h
     exact h
    have g2 : DataW.trod enc Tryz.prog w base (fun _ => true) held k 22 [v2] = some y2 := by
     have h := hf 2 _ rfl
     rw [show Tryz.prog.cellsOf _ = 1 from (by kernel_rfl)] at h
     exact h
    have g3 : DataW.trod enc Tryz.prog w base (fun _ => true) held k 3 [v3] = some y3 := by
     have h := hf 3 _ rfl
     rw [show Tryz.prog.cellsOf _ = 1 from (by kernel_rfl)] at h
     exact h
    have g4 : DataW.trod enc Tryz.prog w base (fun _ => true) held k 5 [v4] = some y4 := by
     have h := hf 4 _ rfl
     rw [show Tryz.prog.cellsOf _ = 1 from (by kernel_rfl)] at h
     exact h
    have e0 := hcell 0 (by omega)
    have e1 := hcell 1 (by omega)
    have e2 := hcell 2 (by omega)
    have e3 := hcell 3 (by omega)
    have e4 := hcell 4 (by omega)
    rw [add_add] at e0 e1 e2 e3 e4
    have hsp : a.spot = none := by
     obtain ⟨cs0, h10, _⟩ := hx 0 (by omega)
     rw [ce] at h10
     obtain ⟨_, hlen0, hcell0⟩ := World.cells?_some h10
     have e := hcell0 0 (by omega)
     rw [add_add, Nat.zero_mul, Nat.zero_add] at e
     have ea : a.add 0 = a := by unfold Addr.add; rw [if_pos rfl]
     rw [ea, List.getElem?_eq_getElem (by omega)] at e
     exact spot_none e
    obtain ⟨b, off, sp⟩ := a
    simp only at hsp
    subst hsp
    rw [Addr.add_lit] at e0 e1 e2 e3 e4
    obtain ⟨z, q0, _, _⟩ := DataW.trod_int Tryz.underlying3 g0
    cases q0
    obtain ⟨t, q3, _, _⟩ := DataW.trod_int Tryz.underlying3 g3
    cases q3
    obtain ⟨u, q4, _, w4⟩ := DataW.trod_int Tryz.underlying5 g4
    cases q4
    obtain ⟨x0, x1⟩ := wf_u8 w4
    obtain ⟨u, rfl⟩ := Int.eq_ofNat_of_zero_le x0
    have bytes : ∀ {k : Nat} {v : Value} {y : DataW H × List MemPlace}, DataW.trod enc Tryz.prog w base (fun _ => true) held k 22 [v] = some y → ∃ (A : Option Addr) (n c : Nat) (xs : List Nat), v = .slice A n c ∧ Bs w A c xs ∧ xs.length = n := by
     intro k v y hy
     rcases open_ints Tryz.underlying22 Tryz.underlying5 (by kernel_rfl) hy with ⟨hcs, _⟩ | ⟨x, l, c, zs, hcs, _, hl, hm, hz, _, hcell, hwz⟩
     ·cases hcs
      exact ⟨none, 0, 0, [], rfl, Bs.nil _, rfl⟩
     ·cases hcs
      obtain ⟨xs, hxs, hB⟩ := Bs_row (w := w) (a := some x) (len := l) (cap := c) (zs := zs) (.inr ⟨_, rfl, hl, hm, by simpa using hz, hcell, hwz⟩)
      exact ⟨_, _, _, xs, rfl, hB, hxs⟩
    obtain ⟨A, na, ca, xa, rfl, hA, hla⟩ := bytes g1
    obtain ⟨B, nb, cb, xb, rfl, hB, hlb⟩ := bytes g2
    exact ⟨⟨z, A, na, ca, xa, B, nb, cb, xb, t, u⟩, fun _ => ⟨b, off, rfl, by simpa using e0, by rw [Nat.add_assoc]; simpa using e1, by rw [Nat.add_assoc]; simpa using e2, by rw [Nat.add_assoc]; simpa using e3, by rw [Nat.add_assoc]; simpa using e4, hA, hla, hB, hlb, by show u < 256; omega⟩⟩
  ·exact ⟨⟨0, none, 0, 0, [], none, 0, 0, [], 0, 0⟩, fun h => absurd h hi⟩
 obtain ⟨L, hL⟩ := Classical.skolem.1 each
 exact ⟨a, len, cap, L, rfl, hL⟩
end Go.Proofs.YtkhbihnnkflfkaaGreat
