/-
 WALKS: noise.Hand: keys; Ask, Answer.
-/
import Derived.Test.YtkhbihnnkflfkaaGreatEz
import Derived.Test.YtkhbihnnkflfkaaGreatMix
import Derived.Test.YtkhbihnnkflfkaaGreatCvM
import Derived.Test.YtkhbihnnkflfkaaGreatOpsM
namespace Go.Proofs.YtkhbihnnkflfkaaGreat
open Go.RowKit
set_option maxHeartbeats 8000000
set_option linter.unusedVariables false
set_option linter.unusedSimpArgs false
set_option maxRecDepth 100000
attribute [local irreducible] wpList wpListIn putsR

variable {A A0 Ac Ae Ah Ao Ap Az : Option Addr} {c c0 cc ce ch co cp cz g n : Nat} {ck es hh ks psk st us xs : List Nat} {v10 v2 v3 v4 v6 v7 v8 v9 : Value} {w w' : World} {M : Nat → Prop}
theorem low_byteL (N : Nat) : ∀ k, k ≤ 32 → lowN (byteL N) 0 k = N % 2 ^ 255 % 2 ^ (8 * k) := by
 intro k
 induction k with
 | zero => intro _; simp [lowN, Nat.mod_one]
 | succ k ih =>
  intro hk
  have hg : (byteL N).getD (0 + k) 0 = byteOf N 255 k := by simp [byteL, show k < 32 by omega]
  rw [lowN, ih (by omega), hg, show 8 * (k + 1) = 8 * k + 8 by omega, Nat.pow_add, Nat.mod_mul]
  unfold byteOf
  rw [show (2 : Nat) ^ 8 = 256 from rfl, Nat.mul_comm (2 ^ (8 * k)) (_ % 256)]
theorem numL_byteL (x : F) : numL (byteL x.val) = x := by
 have h1 := low_byteL x.val 32 (by omega)
 have h2 := x.lt255
 rw [Nat.mod_eq_of_lt h2, Nat.mod_eq_of_lt (Nat.lt_of_lt_of_le h2 (by decide))] at h1
 unfold numL
 rw [h1, show (57896044618658097711785492504343953926634992332820282019728792003956564819968 : Nat) = 2 ^ 255 from rfl, Nat.mod_eq_of_lt h2]
 exact toF_val_self x
def pubL (ks : List Nat) : List Nat := byteL (plN (secN ks)).val
theorem pubL_length (ks : List Nat) : (pubL ks).length = 32 := byteL_length _
theorem pubL_num (ks : List Nat) : numL (pubL ks) = plN (secN ks) := numL_byteL _
def dhL (ks : List Nat) (n : Nat) : List Nat := byteL (plN (secN ks * n)).val
theorem dhL_length (ks : List Nat) (n : Nat) : (dhL ks n).length = 32 := byteL_length _
theorem Mult_own {B : Option Addr} {d : Nat} (w : World) (ha : Bs w A c ks) (hb : Bs w B d us) (hk : ks.length = 32) (hm : us.length = 32) (hn : ¬ ell ∣ n) (hu : numL us = plN n) :
  Calls Tryz.prog 59 #[.slice A 32 c, .slice B 32 d] w fun e w' => ∃ A c', e = .returned (.tuple #[.slice A 32 c', .int .i64 ((0 : Nat) : Int)]) ∧ Own w' w.heap.size A c' (dhL ks n) ∧ Below w.heap.size w w' := by
 refine Calls.mono (Mult_pl w ha hb hk hm hn hu) ?_
 rintro e w' ⟨g, c', h1, h2, h3⟩
 exact ⟨_, c', h1, h2, h3⟩
section
variable {o : Oper} {ev : Operand → Value} {w : World} {x y z : Operand} {T U t : TypeId} {g k : Nat}
theorem o_litC {parts : Array (Nat × Operand)} {vs : Array (Nat × Value)} (ho : o.op = .buildSlice 22 n parts) (hp : parts.map (fun (i, x) => (i, ev x)) = vs) (hb : ∀ w : World, (Instr.buildSlice 22 n vs).run Tryz.prog w = .ok (.slice (some ⟨w.heap.size, 0, none⟩) n n) (w.alloc (.cells (u8s xs).toArray 5))) :
  ∃ v w', (execOp ev o).run Tryz.prog w = .ok (.value v) w' ∧ (v = .slice (some ⟨w.heap.size, 0, none⟩) n n ∧ w' = w.alloc (.cells (u8s xs).toArray 5)) := by
 refine o_lit ho ?_
 simp only [execOp, ho, hp, hb, Sem.run_bind, Sem.run_pure, Result.andThen_ok]
end
theorem bld6 {ev : Operand → Value} {i1 i2 i3 i4 i5 i6 : Nat} {x1 x2 x3 x4 x5 x6 : Operand} {u1 u2 u3 u4 u5 u6 : Value} (h1 : ev x1 = u1) (h2 : ev x2 = u2) (h3 : ev x3 = u3) (h4 : ev x4 = u4) (h5 : ev x5 = u5) (h6 : ev x6 = u6) :
  #[(i1, x1), (i2, x2), (i3, x3), (i4, x4), (i5, x5), (i6, x6)].map (fun (i, x) => (i, ev x)) = #[(i1, u1), (i2, u2), (i3, u3), (i4, u4), (i5, u5), (i6, u6)] := by simp [h1, h2, h3, h4, h5, h6]
theorem Base_own (w : World) (ha : Bs w A c ks) (hk : ks.length = 32) :
  Calls Tryz.prog 31 #[.slice A 32 c] w fun e w' => ∃ A c', e = .returned (.tuple #[.slice A 32 c', .int .i64 ((0 : Nat) : Int)]) ∧ Own w' w.heap.size A c' (pubL ks) ∧ Below w.heap.size w w' := by
 refine Calls.mono (Base_any w ha hk) ?_
 rintro e w' ⟨g, c', h1, h2, h3⟩
 exact ⟨_, c', h1, h2, h3⟩
structure Sy where
 ck : List Nat
 h : List Nat
 k : List Nat
def firstS (ck hh psk xs dh : List Nat) : Sy := ⟨chT (hmacL (chT (hmacL (chT (hmacL ck psk) 1) xs) 1) dh) 1, shaL (shaL (hh ++ chT (hmacL ck psk) 2) ++ xs), chT (hmacL (chT (hmacL (chT (hmacL ck psk) 1) xs) 1) dh) 2⟩
theorem mixMult_any {v1 v5 : Value} (w : World) (hB : Blk w g #[.slice Ac (32) (cc), v1, v2, v3, v4, v5, v6, v7, v8, v9, v10] 72) (hck : Wt w Ac cc ck) (hckl : ck.length = 32) (hse : Bs w Ao co ks) (hsel : ks.length = 32) (hpb : Bs w Az cz us) (hpbl : us.length = 32) (hn : ¬ ell ∣ n) (hu : numL us = plN n)  :
  Calls Tryz.prog 82 #[.pointer (some ⟨g, 0, none⟩), .slice Ao (32) (co), .slice Az (32) (cz)] w fun e w' => ∃ A c N gc, e = .returned (.int .i64 0) ∧ Blk w' g #[.slice A (32) (c), v1, .pointer (some ⟨gc, 0, none⟩), v3, v4, v5, v6, v7, v8, v9, v10] 72 ∧ Own w' w.heap.size A c (chT (hmacL ck (dhL ks n)) 1) ∧ CipherAt w' N gc (chT (hmacL ck (dhL ks n)) 2) 0 ∧ Ge w N ∧ BelowX (fun k => k = g) w w' := by
 refine x_enter 21 Tryz.func82 rfl rfl (fun a hs hd ha0 => ?_)
 have t0 := tA 0 ha0
 have t1 := tA 1 ha0
 have t2 := tA 2 ha0
 clear ha0
 have HB0 : BelowX (fun k => k = g) w w := BelowX.refl _ _
 iterate 2 refine e1 ?_
 refine q_as (.int .i64 ((0 : Nat) : Int)) rfl ?_
 iterate 6 refine e1 ?_
 refine k_c Tryz.func59 (Mult_own _ hse hpb hsel hpbl hn hu) ?_
 rintro e_1 w_1 ⟨A_1, c_1, rfl, ho_1, hb_1⟩
 replace ho_1 := ho_1.mono HB0.size
 obtain ⟨hB, hck, hse, hpb⟩ := nx4 hb_1 hB hck hse hpb
 have HB_1 := HB0.then hb_1
 refine ⟨_, rfl, ?_⟩
 iterate 10 refine e1 ?_
 refine q_v 16 (.bool (true)) (o_eq (o_eql (m := 0) (n := 0) rfl ev rfl) rfl) ?_
 iterate 6 refine e1 ?_
 refine k_c Tryz.func81 (mixKey_any _ hB hck hckl (ho_1).bs (dhL_length _ _) (by omega)) ?_
 rintro e_2 w_2 ⟨A_2, c_2, N_1, gc_1, rfl, hB_1, ho_2, hC_1, hge_1, hX_1⟩
 have gg_1 := hge_1.down HB_1.size
 replace ho_2 := ho_2.mono HB_1.size
 replace hck := hck.keepX hB (by decide) hX_1
 have HB_2 := HB_1.step hX_1 (fun k hk (hY : k = g) => hY)
 refine ⟨_, rfl, ?_⟩
 iterate 8 refine e1 ?_
 exact ⟨A_2, c_2, N_1, gc_1, rfl, hB_1, ho_2, hC_1, gg_1, HB_2⟩
theorem keys_a (w : World) (hB : Blk w g #[.slice Ac (32) (cc), .slice Ah (32) (ch), v2, .bool (true), v4, .bool (false), .slice Ap (32) (cp), .slice Ao (32) (co), v8, .slice Az (32) (cz), v10] 72) (hck : Wt w Ac cc ck) (hckl : ck.length = 32) (hhh : Wt w Ah ch hh) (hhhl : hh.length = 32) (hps : Wt w Ap cp psk) (hpsl : psk.length = 32) (hse : Wt w Ao co ks) (hsel : ks.length = 32) (hpb : Wt w Az cz us) (hpbl : us.length = 32) (hx : Wt w A0 c0 xs) (hxl : xs.length = 32) (hn : ¬ ell ∣ n) (hu : numL us = plN n)  :
  Calls Tryz.prog 47 #[.pointer (some ⟨g, 0, none⟩), .slice A0 (32) (c0)] w fun e w' => ∃ A c A2 c2 N gc, e = .returned (.int .i64 0) ∧ Blk w' g #[.slice A (32) (c), .slice A2 (32) (c2), .pointer (some ⟨gc, 0, none⟩), .bool (true), v4, .bool (false), .slice Ap (32) (cp), .slice Ao (32) (co), v8, .slice Az (32) (cz), v10] 72 ∧ Own w' w.heap.size A c (firstS ck hh psk xs (dhL ks n)).ck ∧ Own w' w.heap.size A2 c2 (firstS ck hh psk xs (dhL ks n)).h ∧ CipherAt w' N gc (firstS ck hh psk xs (dhL ks n)).k 0 ∧ Ge w N ∧ BelowX (fun k => k = g) w w' := by
 refine x_enter 62 Tryz.func47 rfl rfl (fun a hs hd ha0 => ?_)
 have t0 := tA 0 ha0
 have t1 := tA 1 ha0
 clear ha0
 have HB0 : BelowX (fun k => k = g) w w := BelowX.refl _ _
 iterate 2 refine e1 ?_
 refine q_as (.int .i64 ((0 : Nat) : Int)) rfl ?_
 iterate 6 refine e1 ?_
 refine q_fb 5 ?_
 refine q_ld (v := .bool (false)) (pe hs rfl rfl) hB rfl ?_
 refine q_v 9 (.bool (true)) (o_not (b := false) rfl ev) ?_
 iterate 6 refine e1 ?_
 refine q_fb 6 ?_
 refine q_ld (v := .slice Ap (32) (cp)) (pe hs rfl rfl) hB rfl ?_
 refine e1 ?_
 refine k_c Tryz.func80 (mixBoth_any _ hB hck hckl hhh hhhl (hps).bs hpsl (by omega)) ?_
 rintro e_1 w_1 ⟨A_1, c_1, A_2, c_2, N_1, gc_1, rfl, hB_1, ho_1, ho_2, hC_1, hge_1, hX_1⟩
 replace ho_1 := ho_1.mono HB0.size
 replace ho_2 := ho_2.mono HB0.size
 obtain ⟨hck, hhh, hps, hse, hpb, hx⟩ := kx6 hX_1 hck hhh hps hse hpb hx
 have HB_1 := HB0.step hX_1 (fun k hk (hY : k = g) => hY)
 refine ⟨_, rfl, ?_⟩
 iterate 6 refine e1 ?_
 refine k_c Tryz.func42 (mixHash_any _ hB_1 (ho_2).wt (shaL_length _) (hx).bs hxl (by omega)) ?_
 rintro e_2 w_2 ⟨A_3, c_3, rfl, hB_2, ho_3, hX_2⟩
 replace ho_3 := ho_3.mono HB_1.size
 obtain ⟨hck, hhh, hps, hse, hpb, hx, ho_1⟩ := kx7 hX_2 hck hhh hps hse hpb hx ho_1
 have HB_2 := HB_1.step hX_2 (fun k hk (hY : k = g) => hY)
 refine ⟨_, rfl, ?_⟩
 iterate 6 refine e1 ?_
 refine k_c Tryz.func81 (mixKey_any _ hB_2 (ho_1).wt (chT_length _ _) (hx).bs hxl (by omega)) ?_
 rintro e_3 w_3 ⟨A_4, c_4, N_2, gc_2, rfl, hB_3, ho_4, hC_2, hge_2, hX_3⟩
 replace ho_4 := ho_4.mono HB_2.size
 obtain ⟨hck, hhh, hps, hse, hpb, hx, ho_3⟩ := kx7 hX_3 hck hhh hps hse hpb hx ho_3
 have HB_3 := HB_2.step hX_3 (fun k hk (hY : k = g) => hY)
 refine ⟨_, rfl, ?_⟩
 iterate 7 refine e1 ?_
 refine q_fb 5 ?_
 refine q_ld (v := .bool (false)) (pe hs rfl rfl) hB_3 rfl ?_
 iterate 7 refine e1 ?_
 refine q_fb 3 ?_
 refine q_ld (v := .bool (true)) (pe hs rfl rfl) hB_3 rfl ?_
 iterate 4 refine e1 ?_
 refine y_drawn 9 [iP g 0, iP g 0, iP g 0, iP g 7, iV (.slice Ao (32) (co)), iP g 0, iP g 0, iP g 9, iV (.slice Az (32) (cz))] [42, 43, 44, 45, 46, 47, 48, 49, 50] hs hd sxs (fun a_1 w_4 hs_1 hd_1 hb_1 hO_1 hV_1 => ?_)
 obtain ⟨hck, hhh, hps, hse, hpb⟩ := nx5 hb_1 hck hhh hps hse hpb
 obtain ⟨hx, ho_3, hB_3, ho_4⟩ := nx4 hb_1 hx ho_3 hB_3 ho_4
 have HB_4 := HB_3.then hb_1
 have ta_1_42 := fV 42 hV_1
 have ta_1_46 := fV 46 hV_1
 have ta_1_50 := fV 50 hV_1
 simp only [List.drop_succ_cons, List.drop_zero]
 refine e1 ?_
 refine k_c Tryz.func82 (mixMult_any _ hB_3 (ho_4).wt (chT_length _ _) (hse).bs hsel (hpb).bs hpbl hn hu) ?_
 rintro e_4 w_5 ⟨A_5, c_5, N_3, gc_3, rfl, hB_4, ho_5, hC_3, hge_3, hX_4⟩
 have gg_3 := hge_3.down HB_4.size
 replace ho_5 := ho_5.mono HB_4.size
 obtain ⟨hck, hhh, hps, hse, hpb, hx, ho_3⟩ := kx7 hX_4 hck hhh hps hse hpb hx ho_3
 have HB_5 := HB_4.step hX_4 (fun k hk (hY : k = g) => hY)
 refine ⟨_, rfl, ?_⟩
 iterate 6 refine e1 ?_
 exact ⟨A_5, c_5, A_3, c_3, N_3, gc_3, rfl, hB_4, ho_5, ho_3, hC_3, gg_3, HB_5⟩
theorem keys_b (w : World) (hB : Blk w g #[.slice Ac (32) (cc), .slice Ah (32) (ch), v2, .bool (false), v4, .bool (false), .slice Ap (32) (cp), v7, v8, .slice Ao (32) (co), .slice Az (32) (cz)] 72) (hck : Wt w Ac cc ck) (hckl : ck.length = 32) (hhh : Wt w Ah ch hh) (hhhl : hh.length = 32) (hps : Wt w Ap cp psk) (hpsl : psk.length = 32) (hse : Wt w Ao co ks) (hsel : ks.length = 32) (hpb : Wt w Az cz us) (hpbl : us.length = 32) (hx : Wt w A0 c0 xs) (hxl : xs.length = 32) (hn : ¬ ell ∣ n) (hu : numL us = plN n)  :
  Calls Tryz.prog 47 #[.pointer (some ⟨g, 0, none⟩), .slice A0 (32) (c0)] w fun e w' => ∃ A c A2 c2 N gc, e = .returned (.int .i64 0) ∧ Blk w' g #[.slice A (32) (c), .slice A2 (32) (c2), .pointer (some ⟨gc, 0, none⟩), .bool (false), v4, .bool (false), .slice Ap (32) (cp), v7, v8, .slice Ao (32) (co), .slice Az (32) (cz)] 72 ∧ Own w' w.heap.size A c (firstS ck hh psk xs (dhL ks n)).ck ∧ Own w' w.heap.size A2 c2 (firstS ck hh psk xs (dhL ks n)).h ∧ CipherAt w' N gc (firstS ck hh psk xs (dhL ks n)).k 0 ∧ Ge w N ∧ BelowX (fun k => k = g) w w' := by
 refine x_enter 62 Tryz.func47 rfl rfl (fun a hs hd ha0 => ?_)
 have t0 := tA 0 ha0
 have t1 := tA 1 ha0
 clear ha0
 have HB0 : BelowX (fun k => k = g) w w := BelowX.refl _ _
 iterate 2 refine e1 ?_
 refine q_as (.int .i64 ((0 : Nat) : Int)) rfl ?_
 iterate 6 refine e1 ?_
 refine q_fb 5 ?_
 refine q_ld (v := .bool (false)) (pe hs rfl rfl) hB rfl ?_
 refine q_v 9 (.bool (true)) (o_not (b := false) rfl ev) ?_
 iterate 6 refine e1 ?_
 refine q_fb 6 ?_
 refine q_ld (v := .slice Ap (32) (cp)) (pe hs rfl rfl) hB rfl ?_
 refine e1 ?_
 refine k_c Tryz.func80 (mixBoth_any _ hB hck hckl hhh hhhl (hps).bs hpsl (by omega)) ?_
 rintro e_1 w_1 ⟨A_1, c_1, A_2, c_2, N_1, gc_1, rfl, hB_1, ho_1, ho_2, hC_1, hge_1, hX_1⟩
 replace ho_1 := ho_1.mono HB0.size
 replace ho_2 := ho_2.mono HB0.size
 obtain ⟨hck, hhh, hps, hse, hpb, hx⟩ := kx6 hX_1 hck hhh hps hse hpb hx
 have HB_1 := HB0.step hX_1 (fun k hk (hY : k = g) => hY)
 refine ⟨_, rfl, ?_⟩
 iterate 6 refine e1 ?_
 refine k_c Tryz.func42 (mixHash_any _ hB_1 (ho_2).wt (shaL_length _) (hx).bs hxl (by omega)) ?_
 rintro e_2 w_2 ⟨A_3, c_3, rfl, hB_2, ho_3, hX_2⟩
 replace ho_3 := ho_3.mono HB_1.size
 obtain ⟨hck, hhh, hps, hse, hpb, hx, ho_1⟩ := kx7 hX_2 hck hhh hps hse hpb hx ho_1
 have HB_2 := HB_1.step hX_2 (fun k hk (hY : k = g) => hY)
 refine ⟨_, rfl, ?_⟩
 iterate 6 refine e1 ?_
 refine k_c Tryz.func81 (mixKey_any _ hB_2 (ho_1).wt (chT_length _ _) (hx).bs hxl (by omega)) ?_
 rintro e_3 w_3 ⟨A_4, c_4, N_2, gc_2, rfl, hB_3, ho_4, hC_2, hge_2, hX_3⟩
 replace ho_4 := ho_4.mono HB_2.size
 obtain ⟨hck, hhh, hps, hse, hpb, hx, ho_3⟩ := kx7 hX_3 hck hhh hps hse hpb hx ho_3
 have HB_3 := HB_2.step hX_3 (fun k hk (hY : k = g) => hY)
 refine ⟨_, rfl, ?_⟩
 iterate 7 refine e1 ?_
 refine q_fb 5 ?_
 refine q_ld (v := .bool (false)) (pe hs rfl rfl) hB_3 rfl ?_
 iterate 7 refine e1 ?_
 refine q_fb 3 ?_
 refine q_ld (v := .bool (false)) (pe hs rfl rfl) hB_3 rfl ?_
 iterate 7 refine e1 ?_
 refine y_drawn 9 [iP g 0, iP g 0, iP g 0, iP g 9, iV (.slice Ao (32) (co)), iP g 0, iP g 0, iP g 10, iV (.slice Az (32) (cz))] [52, 53, 54, 55, 56, 57, 58, 59, 60] hs hd sxs (fun a_1 w_4 hs_1 hd_1 hb_1 hO_1 hV_1 => ?_)
 obtain ⟨hck, hhh, hps, hse, hpb⟩ := nx5 hb_1 hck hhh hps hse hpb
 obtain ⟨hx, ho_3, hB_3, ho_4⟩ := nx4 hb_1 hx ho_3 hB_3 ho_4
 have HB_4 := HB_3.then hb_1
 have ta_1_52 := fV 52 hV_1
 have ta_1_56 := fV 56 hV_1
 have ta_1_60 := fV 60 hV_1
 simp only [List.drop_succ_cons, List.drop_zero]
 refine e1 ?_
 refine k_c Tryz.func82 (mixMult_any _ hB_3 (ho_4).wt (chT_length _ _) (hse).bs hsel (hpb).bs hpbl hn hu) ?_
 rintro e_4 w_5 ⟨A_5, c_5, N_3, gc_3, rfl, hB_4, ho_5, hC_3, hge_3, hX_4⟩
 have gg_3 := hge_3.down HB_4.size
 replace ho_5 := ho_5.mono HB_4.size
 obtain ⟨hck, hhh, hps, hse, hpb, hx, ho_3⟩ := kx7 hX_4 hck hhh hps hse hpb hx ho_3
 have HB_5 := HB_4.step hX_4 (fun k hk (hY : k = g) => hY)
 refine ⟨_, rfl, ?_⟩
 iterate 4 refine e1 ?_
 exact ⟨A_5, c_5, A_3, c_3, N_3, gc_3, rfl, hB_4, ho_5, ho_3, hC_3, gg_3, HB_5⟩
def nameS : List Nat := [78, 111, 105, 115, 101, 95, 78, 75, 112, 115, 107, 48, 95, 50, 53, 53, 49, 57, 95, 67, 104, 97, 67, 104, 97, 80, 111, 108, 121, 95, 83, 72, 65, 50, 53, 54]
structure HS where
 ck : List Nat
 h : List Nat
 psk : List Nat
 own : List Nat
 pub : List Nat
 stc : List Nat
 oth : List Nat
 asks : Bool
 sent : Bool
 turn : Nat
def Sl (w : World) (M : Nat → Prop) (A : Option Addr) (c : Nat) (xs : List Nat) : Prop := Wt w A c xs ∧ ∀ j, blkA A j → M j
structure HS.Len (s : HS) : Prop where
 ck : s.ck.length = 32
 h : s.h.length = 32
 psk : s.psk.length = 32
 own : s.own.length = 32
 pub : s.pub.length = 32
 stc : s.stc.length = 32
structure HandAt (w : World) (M : Nat → Prop) (g : Nat) (s : HS) : Prop where
 lt : Lt w M
 len : s.Len
 row : ∃ (Ac : Option Addr) (cc : Nat) (Ah : Option Addr) (ch : Nat) (v2 : Option Addr) (Ap : Option Addr) (cp : Nat) (Ao : Option Addr) (co : Nat) (Au : Option Addr) (cu : Nat) (Az : Option Addr) (cz : Nat) (At : Option Addr) (ct : Nat),
  Blk w g #[.slice Ac 32 cc, .slice Ah 32 ch, .pointer v2, .bool s.asks, .int .i64 ((s.turn : Nat) : Int), .bool s.sent, .slice Ap 32 cp, .slice Ao 32 co, .slice Au 32 cu, .slice Az 32 cz, .slice At s.oth.length ct] 72 ∧ M g ∧
  Sl w M Ac cc s.ck ∧ Sl w M Ah ch s.h ∧ Sl w M Ap cp s.psk ∧ Sl w M Ao co s.own ∧ Sl w M Au cu s.pub ∧ Sl w M Az cz s.stc ∧ Sl w M At ct s.oth
theorem Sl.keep (h : Sl w M A c xs) (hb : KeptM M w w') : Sl w' M A c xs := ⟨h.1.keep (fun j hj => hb j (h.2 j hj)), h.2⟩
theorem HandAt.keep {s : HS} (h : HandAt w M g s) (hb : KeptM M w w') (hs : w.heap.size ≤ w'.heap.size) : HandAt w' M g s := by
 obtain ⟨Ac, cc, Ah, ch, v2, Ap, cp, Ao, co, Au, cu, Az, cz, At, ct, hB, hg, h1, h2, h3, h4, h5, h6, h7⟩ := h.row
 exact ⟨h.lt.up hs, h.len, Ac, cc, Ah, ch, v2, Ap, cp, Ao, co, Au, cu, Az, cz, At, ct, (hb g hg).trans hB, hg, h1.keep hb, h2.keep hb, h3.keep hb, h4.keep hb, h5.keep hb, h6.keep hb, h7.keep hb⟩
theorem HandAt.nx {s : HS} (h : HandAt w M g s) (hb : Below w.heap.size w w') : HandAt w' M g s := h.keep (kept_of hb h.lt) hb.size
theorem HandAt.keepM {X : Nat → Prop} {s : HS} (h : HandAt w M g s) (hb : BelowX X w w') (hs : Sep M X) : HandAt w' M g s := h.keep (hb.kept h.lt hs) hb.size
theorem hbegin_any (t : Nat) (w : World) (h0 : Bs w Ap cp psk) (l0 : psk.length = 32) (h1 : Bs w Az cz st) (l1 : st.length = 32) (h2 : Bs w Ae ce es) (l2 : es.length = 32) (ht : t ≤ 65535) :
  Calls Tryz.prog 41 #[.int .i64 ((t : Nat) : Int), .slice Ap (32) (cp), .slice Az (32) (cz), .slice Ae (32) (ce)] w fun e w' => ∃ (M : Nat → Prop) (g : Nat), e = .returned (.tuple #[.pointer (some ⟨g, 0, none⟩), .int .i64 0]) ∧ HandAt w' M g ⟨shaL nameS, shaL (shaL nameS ++ [t / 256 % 256, t % 256]), psk, es, pubL es, st, [], false, false, 0⟩ ∧ Ge w M ∧ Below w.heap.size w w' := by
 refine x_enter 66 Tryz.func41 rfl rfl (fun a hs hd ha0 => ?_)
 have t0 := tA 0 ha0
 have t1 := tA 1 ha0
 have t2 := tA 2 ha0
 have t3 := tA 3 ha0
 clear ha0
 iterate 3 refine e1 ?_
 refine q_as (.int .i64 ((0 : Nat) : Int)) rfl ?_
 iterate 5 refine e1 ?_
 refine q_v 15 (.bool (false)) (o_eq (o_lss (m := t) (n := 0) rfl ev rfl) (by rw [decide_eq_false (by omega)])) ?_
 refine e1 ?_
 refine q_g 16 (.int .i64 ((t : Nat) : Int)) (o_move rfl ev) ?_
 refine q_g 16 (.bool (false)) (o_eq (o_gtr (m := t) (n := 65535) rfl ev rfl) (by rw [decide_eq_false (by omega)])) ?_
 refine q_w (o_pickF rfl ev ev) ?_
 refine e1 ?_
 refine q_g 20 (.slice Ap (32) (cp)) (o_move rfl ev) ?_
 refine q_g 20 (.int .i64 ((32 : Nat) : Int)) (o_len rfl ev) ?_
 refine q_g 20 (.bool (false)) (o_eq (o_neq (m := 32) (n := 32) rfl ev rfl) rfl) ?_
 refine q_w (o_pickF rfl ev ev) ?_
 refine e1 ?_
 refine q_g 25 (.slice Az (32) (cz)) (o_move rfl ev) ?_
 refine q_g 25 (.int .i64 ((32 : Nat) : Int)) (o_len rfl ev) ?_
 refine q_g 25 (.bool (false)) (o_eq (o_neq (m := 32) (n := 32) rfl ev rfl) rfl) ?_
 refine q_w (o_pickF rfl ev ev) ?_
 refine e1 ?_
 refine q_g 30 (.slice Ae (32) (ce)) (o_move rfl ev) ?_
 refine q_g 30 (.int .i64 ((32 : Nat) : Int)) (o_len rfl ev) ?_
 refine q_g 30 (.bool (false)) (o_eq (o_neq (m := 32) (n := 32) rfl ev rfl) rfl) ?_
 refine q_w (o_pickF rfl ev ev) ?_
 iterate 8 refine e1 ?_
 refine k_c Tryz.func31 (Base_own _ h2 (by simp only [l2])) ?_
 rintro e_1 w_1 ⟨A_1, c_1, rfl, ho_1, hb_1⟩
 refine ⟨_, rfl, ?_⟩
 iterate 10 refine e1 ?_
 refine q_v 41 (.bool (false)) (o_eq (o_neq (m := 0) (n := 0) rfl ev rfl) rfl) ?_
 iterate 6 refine e1 ?_
 refine q_x (o_litC (xs := [78, 111, 105, 115, 101, 95, 78, 75, 112, 115, 107, 48, 95, 50, 53, 53, 49, 57, 95, 67, 104, 97, 67, 104, 97, 80, 111, 108, 121, 95, 83, 72, 65, 50, 53, 54]) (vs := #[(0, .int .u8 ((78 : Nat) : Int)), (1, .int .u8 ((111 : Nat) : Int)), (2, .int .u8 ((105 : Nat) : Int)), (3, .int .u8 ((115 : Nat) : Int)), (4, .int .u8 ((101 : Nat) : Int)), (5, .int .u8 ((95 : Nat) : Int)), (6, .int .u8 ((78 : Nat) : Int)), (7, .int .u8 ((75 : Nat) : Int)), (8, .int .u8 ((112 : Nat) : Int)), (9, .int .u8 ((115 : Nat) : Int)), (10, .int .u8 ((107 : Nat) : Int)), (11, .int .u8 ((48 : Nat) : Int)), (12, .int .u8 ((95 : Nat) : Int)), (13, .int .u8 ((50 : Nat) : Int)), (14, .int .u8 ((53 : Nat) : Int)), (15, .int .u8 ((53 : Nat) : Int)), (16, .int .u8 ((49 : Nat) : Int)), (17, .int .u8 ((57 : Nat) : Int)), (18, .int .u8 ((95 : Nat) : Int)), (19, .int .u8 ((67 : Nat) : Int)), (20, .int .u8 ((104 : Nat) : Int)), (21, .int .u8 ((97 : Nat) : Int)), (22, .int .u8 ((67 : Nat) : Int)), (23, .int .u8 ((104 : Nat) : Int)), (24, .int .u8 ((97 : Nat) : Int)), (25, .int .u8 ((80 : Nat) : Int)), (26, .int .u8 ((111 : Nat) : Int)), (27, .int .u8 ((108 : Nat) : Int)), (28, .int .u8 ((121 : Nat) : Int)), (29, .int .u8 ((95 : Nat) : Int)), (30, .int .u8 ((83 : Nat) : Int)), (31, .int .u8 ((72 : Nat) : Int)), (32, .int .u8 ((65 : Nat) : Int)), (33, .int .u8 ((50 : Nat) : Int)), (34, .int .u8 ((53 : Nat) : Int)), (35, .int .u8 ((54 : Nat) : Int))]) rfl (bldc (fun _ => rfl) _ _ rfl) (fun _ => by kernel_rfl)) (fun v_1 w_2 hR_2 => ?_)
 obtain ⟨rfl, rfl⟩ := hR_2
 refine q_x (o_mark (n := 36) (xs := [78, 111, 105, 115, 101, 95, 78, 75, 112, 115, 107, 48, 95, 50, 53, 53, 49, 57, 95, 67, 104, 97, 67, 104, 97, 80, 111, 108, 121, 95, 83, 72, 65, 50, 53, 54]) rfl ev rfl (by decide) (by omega)) (fun v_2 w_3 hR_3 => ?_)
 obtain ⟨A_2, rfl, hx_1, hb_2⟩ := hR_3
 replace ho_1 := ho_1.nx hb_2
 have HB_1 := below_from hb_1 hb_2
 refine e1 ?_
 refine k_c Tryz.func69 (Sum_sha _ hx_1 (by simp only [List.length_cons, List.length_nil]) (by omega)) ?_
 rintro e_2 w_4 ⟨A_3, c_2, rfl, ho_2, hb_3⟩
 replace ho_2 := ho_2.mono HB_1.size
 obtain ⟨ho_1, hx_1⟩ := nx2 hb_3 ho_1 hx_1
 have HB_2 := below_from HB_1 hb_3
 refine ⟨_, rfl, ?_⟩
 iterate 8 refine e1 ?_
 refine k_c Tryz.func32 (Clone_any _ (h0.below HB_2) (by simp only [l0]) (by omega)) ?_
 rintro e_3 w_5 ⟨A_4, c_3, rfl, ho_3, hb_4⟩
 replace ho_3 := ho_3.mono HB_2.size
 obtain ⟨ho_1, hx_1, ho_2⟩ := nx3 hb_4 ho_1 hx_1 ho_2
 have HB_3 := below_from HB_2 hb_4
 refine ⟨_, rfl, ?_⟩
 iterate 2 refine e1 ?_
 refine k_c Tryz.func32 (Clone_any _ (h2.below HB_3) (by simp only [l2]) (by omega)) ?_
 rintro e_4 w_6 ⟨A_5, c_4, rfl, ho_4, hb_5⟩
 replace ho_4 := ho_4.mono HB_3.size
 obtain ⟨ho_1, hx_1, ho_2, ho_3⟩ := nx4 hb_5 ho_1 hx_1 ho_2 ho_3
 have HB_4 := below_from HB_3 hb_5
 refine ⟨_, rfl, ?_⟩
 iterate 3 refine e1 ?_
 refine k_c Tryz.func32 (Clone_any _ (h1.below HB_4) (by simp only [l1]) (by omega)) ?_
 rintro e_5 w_7 ⟨A_6, c_5, rfl, ho_5, hb_6⟩
 replace ho_5 := ho_5.mono HB_4.size
 obtain ⟨ho_1, hx_1, ho_2, ho_3, ho_4⟩ := nx5 hb_6 ho_1 hx_1 ho_2 ho_3 ho_4
 have HB_5 := below_from HB_4 hb_6
 refine ⟨_, rfl, ?_⟩
 refine q_v _ (.agg #[.slice A_3 (32) (c_2), .slice A_3 (32) (c_2), .pointer none, .bool (false), .int .i64 ((0 : Nat) : Int), .bool (false), .slice A_4 (32) (c_3), .slice A_5 (32) (c_4), .slice A_1 (32) (c_1), .slice A_6 (32) (c_5), .slice none (0) (0)]) (o_bld rfl (bld6 ev ev ev ev ev ev) (fun _ => by kernel_rfl)) ?_
 refine q_x (o_boxL (cs := #[.slice A_3 (32) (c_2), .slice A_3 (32) (c_2), .pointer none, .bool (false), .int .i64 ((0 : Nat) : Int), .bool (false), .slice A_4 (32) (c_3), .slice A_5 (32) (c_4), .slice A_1 (32) (c_1), .slice A_6 (32) (c_5), .slice none (0) (0)]) rfl ev) (fun v_3 w_8 hR_8 => ?_)
 obtain ⟨g_1, rfl, hle_1, hB_1, hb_7⟩ := hR_8
 have ge_1 : w.heap.size ≤ g_1 := Nat.le_trans HB_5.size hle_1
 obtain ⟨ho_1, hx_1, ho_2, ho_3, ho_4, ho_5⟩ := nx6 hb_7 ho_1 hx_1 ho_2 ho_3 ho_4 ho_5
 have HB_6 := below_from HB_5 hb_7
 iterate 6 refine e1 ?_
 refine q_w (o_shr (n := 8) rfl ev rfl (by decide)) ?_
 refine q_w (o_conv (r := (t / 2 ^ 8) % 256) rfl ev ⟨.int .i64, fun _ => by kernel_rfl⟩ (fun _ => by kernel_rfl) (by rw [IntKind.wrap_u8]; omega)) ?_
 refine e1 ?_
 refine q_w (o_conv (r := t % 256) rfl ev ⟨.int .i64, fun _ => by kernel_rfl⟩ (fun _ => by kernel_rfl) (by rw [IntKind.wrap_u8]; omega)) ?_
 refine q_x (o_build2 (m := (t / 2 ^ 8) % 256) (n := t % 256) rfl ev ev (by omega) (by omega)) (fun v_4 w_9 hR_9 => ?_)
 obtain ⟨g_2, rfl, ho_6, hb_8⟩ := hR_9
 replace ho_6 := ho_6.mono HB_6.size
 obtain ⟨ho_1, hx_1, ho_2, ho_3, ho_4, ho_5, hB_1⟩ := nx7 hb_8 ho_1 hx_1 ho_2 ho_3 ho_4 ho_5 hB_1
 have HB_7 := below_from HB_6 hb_8
 refine e1 ?_
 refine k_c Tryz.func42 (mixHash_any _ hB_1 (ho_2).wt (shaL_length _) (ho_6).bs (by simp only [List.length_cons, List.length_nil]) (by omega)) ?_
 rintro e_6 w_10 ⟨A_7, c_6, rfl, hB_2, ho_7, hX_1⟩
 replace ho_7 := ho_7.mono HB_7.size
 obtain ⟨ho_1, ho_2, ho_3, ho_4, ho_5⟩ := kx5 hX_1 ho_1 ho_2 ho_3 ho_4 ho_5
 have HB_8 := hX_1.below HB_7 HB_7.size (fun k hk => hk ▸ ge_1)
 refine ⟨_, rfl, ?_⟩
 iterate 5 refine e1 ?_
 refine q_as (.int .i64 ((0 : Nat) : Int)) rfl ?_
 iterate 3 refine e1 ?_
 exact ⟨MX w (fun _ => False) w_10, g_1, rfl, ⟨Lt.mx (fun _ h => h.elim) HB_8.size, ⟨(shaL_length _), (shaL_length _), (by simp only [l0]), (by simp only [l2]), (pubL_length _), (by simp only [l1])⟩, A_3, c_2, A_7, c_6, _, A_4, c_3, A_5, c_4, A_1, c_1, A_6, c_5, none, 0, hB_2, .inr ⟨ge_1, hB_2.lt⟩, ⟨ho_2.wt, fun j hj => .inr ⟨ho_2.ge' j hj, ho_2.lt j hj⟩⟩, ⟨ho_7.wt, fun j hj => .inr ⟨ho_7.ge' j hj, ho_7.lt j hj⟩⟩, ⟨ho_3.wt, fun j hj => .inr ⟨ho_3.ge' j hj, ho_3.lt j hj⟩⟩, ⟨ho_4.wt, fun j hj => .inr ⟨ho_4.ge' j hj, ho_4.lt j hj⟩⟩, ⟨ho_1.wt, fun j hj => .inr ⟨ho_1.ge' j hj, ho_1.lt j hj⟩⟩, ⟨ho_5.wt, fun j hj => .inr ⟨ho_5.ge' j hj, ho_5.lt j hj⟩⟩, ⟨Wt.nil _, fun j hj => absurd hj blkA_none⟩⟩, Ge.mx (fun _ h => h.elim) (Nat.le_refl _), HB_8⟩
theorem Ask_any (t : Nat) (w : World) (h0 : Bs w Ap cp psk) (l0 : psk.length = 32) (h1 : Bs w Az cz st) (l1 : st.length = 32) (h2 : Bs w Ae ce es) (l2 : es.length = 32) (ht : t ≤ 65535) :
  Calls Tryz.prog 18 #[.int .i64 ((t : Nat) : Int), .slice Ap (32) (cp), .slice Az (32) (cz), .slice Ae (32) (ce)] w fun e w' => ∃ (M : Nat → Prop) (g : Nat), e = .returned (.tuple #[.pointer (some ⟨g, 0, none⟩), .int .i64 0]) ∧ HandAt w' M g ⟨shaL nameS, shaL (shaL (shaL nameS ++ [t / 256 % 256, t % 256]) ++ st), psk, es, pubL es, st, [], true, false, 0⟩ ∧ Ge w M ∧ Below w.heap.size w w' := by
 refine x_enter 33 Tryz.func18 rfl rfl (fun a hs hd ha0 => ?_)
 have t0 := tA 0 ha0
 have t1 := tA 1 ha0
 have t2 := tA 2 ha0
 have t3 := tA 3 ha0
 clear ha0
 iterate 3 refine e1 ?_
 refine q_as (.int .i64 ((0 : Nat) : Int)) rfl ?_
 iterate 8 refine e1 ?_
 refine k_c Tryz.func41 (hbegin_any t _ h0 (by simp only [l0]) h1 (by simp only [l1]) h2 (by simp only [l2]) ht) ?_
 rintro e_1 w_1 ⟨M_1, g_1, rfl, hH_1, hge_1, hb_1⟩
 obtain ⟨hlt9, ⟨l_ck, l_h, l_psk, l_own, l_pub, l_stc⟩, A_c, c_c, A_h, c_h, v_2, A_p, c_p, A_o, c_o, A_u, c_u, A_z, c_z, A_t, c_t, hB9, hMg9, ⟨w_c, m_c⟩, ⟨w_h, m_h⟩, ⟨w_p, m_p⟩, ⟨w_o, m_o⟩, ⟨w_u, m_u⟩, ⟨w_z, m_z⟩, ⟨w_t, m_t⟩⟩ := hH_1
 dsimp only at l_ck l_h l_psk l_own l_pub l_stc hB9 w_c w_h w_p w_o w_u w_z w_t
 have hgg : w.heap.size ≤ g_1 := hge_1 _ hMg9
 refine ⟨_, rfl, ?_⟩
 iterate 10 refine e1 ?_
 refine q_v 21 (.bool (false)) (o_eq (o_neq (m := 0) (n := 0) rfl ev rfl) rfl) ?_
 iterate 9 refine e1 ?_
 refine q_fb 3 ?_
 refine q_d (o_store1 rfl ev rfl rfl rfl hB9 (by simp only [List.length_cons, List.length_nil]; omega) ⟨by kernel_rfl, by kernel_rfl⟩) (fun w_2 hR_2 => ?_)
 obtain ⟨hB_1, hX_1⟩ := hR_2
 obtain ⟨w_c, w_h, w_p, w_o, w_u, w_z, w_t⟩ := kx7 hX_1 w_c w_h w_p w_o w_u w_z w_t
 have HB_1 := hX_1.below hb_1 hb_1.size (fun k hk => hk ▸ hgg)
 simp only [List.set_cons_zero, List.set_cons_succ] at hB_1
 refine e1 ?_
 refine q_fb 4 ?_
 refine q_d (o_store1 rfl ev rfl rfl rfl hB_1 (by simp only [List.length_cons, List.length_nil]; omega) ⟨by kernel_rfl, by kernel_rfl⟩) (fun w_3 hR_3 => ?_)
 obtain ⟨hB_2, hX_2⟩ := hR_3
 obtain ⟨w_c, w_h, w_p, w_o, w_u, w_z, w_t⟩ := kx7 hX_2 w_c w_h w_p w_o w_u w_z w_t
 have HB_2 := hX_2.below HB_1 HB_1.size (fun k hk => hk ▸ hgg)
 simp only [List.set_cons_zero, List.set_cons_succ] at hB_2
 iterate 6 refine e1 ?_
 refine k_c Tryz.func42 (mixHash_any _ hB_2 w_h (by simp only [l_h]) (h1.below HB_2) (by simp only [l1]) (by omega)) ?_
 rintro e_2 w_4 ⟨A_1, c_1, rfl, hB_3, ho_1, hX_3⟩
 replace ho_1 := ho_1.mono HB_2.size
 obtain ⟨w_c, w_p, w_o, w_u, w_z, w_t⟩ := kx6 hX_3 w_c w_p w_o w_u w_z w_t
 have HB_3 := hX_3.below HB_2 HB_2.size (fun k hk => hk ▸ hgg)
 refine ⟨_, rfl, ?_⟩
 iterate 5 refine e1 ?_
 refine q_as (.int .i64 ((0 : Nat) : Int)) rfl ?_
 iterate 3 refine e1 ?_
 exact ⟨MX w (fun _ => False) w_4, g_1, rfl, ⟨Lt.mx (fun _ h => h.elim) HB_3.size, ⟨(by simp only [l_ck]), (shaL_length _), (by simp only [l_psk]), (by simp only [l_own]), (by simp only [l_pub]), (by simp only [l_stc])⟩, A_c, c_c, A_1, c_1, _, A_p, c_p, A_o, c_o, A_u, c_u, A_z, c_z, A_t, c_t, hB_3, .inr ⟨hgg, hB_3.lt⟩, ⟨w_c, fun j hj => .inr ⟨hge_1 _ (m_c j hj), w_c.lt j hj⟩⟩, ⟨ho_1.wt, fun j hj => .inr ⟨ho_1.ge' j hj, ho_1.lt j hj⟩⟩, ⟨w_p, fun j hj => .inr ⟨hge_1 _ (m_p j hj), w_p.lt j hj⟩⟩, ⟨w_o, fun j hj => .inr ⟨hge_1 _ (m_o j hj), w_o.lt j hj⟩⟩, ⟨w_u, fun j hj => .inr ⟨hge_1 _ (m_u j hj), w_u.lt j hj⟩⟩, ⟨w_z, fun j hj => .inr ⟨hge_1 _ (m_z j hj), w_z.lt j hj⟩⟩, ⟨w_t, fun j hj => .inr ⟨hge_1 _ (m_t j hj), w_t.lt j hj⟩⟩⟩, Ge.mx (fun _ h => h.elim) (Nat.le_refl _), HB_3⟩
theorem Answer_any (t : Nat) (w : World) (h0 : Bs w Ap cp psk) (l0 : psk.length = 32) (h1 : Bs w Az cz st) (l1 : st.length = 32) (h2 : Bs w Ae ce es) (l2 : es.length = 32) (ht : t ≤ 65535) :
  Calls Tryz.prog 20 #[.int .i64 ((t : Nat) : Int), .slice Ap (32) (cp), .slice Az (32) (cz), .slice Ae (32) (ce)] w fun e w' => ∃ (M : Nat → Prop) (g : Nat), e = .returned (.tuple #[.pointer (some ⟨g, 0, none⟩), .int .i64 0]) ∧ HandAt w' M g ⟨shaL nameS, shaL (shaL (shaL nameS ++ [t / 256 % 256, t % 256]) ++ pubL st), psk, es, pubL es, st, [], false, false, 1⟩ ∧ Ge w M ∧ Below w.heap.size w w' := by
 refine x_enter 39 Tryz.func20 rfl rfl (fun a hs hd ha0 => ?_)
 have t0 := tA 0 ha0
 have t1 := tA 1 ha0
 have t2 := tA 2 ha0
 have t3 := tA 3 ha0
 clear ha0
 iterate 3 refine e1 ?_
 refine q_as (.int .i64 ((0 : Nat) : Int)) rfl ?_
 iterate 8 refine e1 ?_
 refine k_c Tryz.func41 (hbegin_any t _ h0 (by simp only [l0]) h1 (by simp only [l1]) h2 (by simp only [l2]) ht) ?_
 rintro e_1 w_1 ⟨M_1, g_1, rfl, hH_1, hge_1, hb_1⟩
 obtain ⟨hlt9, ⟨l_ck, l_h, l_psk, l_own, l_pub, l_stc⟩, A_c, c_c, A_h, c_h, v_2, A_p, c_p, A_o, c_o, A_u, c_u, A_z, c_z, A_t, c_t, hB9, hMg9, ⟨w_c, m_c⟩, ⟨w_h, m_h⟩, ⟨w_p, m_p⟩, ⟨w_o, m_o⟩, ⟨w_u, m_u⟩, ⟨w_z, m_z⟩, ⟨w_t, m_t⟩⟩ := hH_1
 dsimp only at l_ck l_h l_psk l_own l_pub l_stc hB9 w_c w_h w_p w_o w_u w_z w_t
 have hgg : w.heap.size ≤ g_1 := hge_1 _ hMg9
 refine ⟨_, rfl, ?_⟩
 iterate 10 refine e1 ?_
 refine q_v 22 (.bool (false)) (o_eq (o_neq (m := 0) (n := 0) rfl ev rfl) rfl) ?_
 iterate 8 refine e1 ?_
 refine k_c Tryz.func31 (Base_own _ (h1.below hb_1) (by simp only [l1])) ?_
 rintro e_2 w_2 ⟨A_1, c_1, rfl, ho_1, hb_2⟩
 replace ho_1 := ho_1.mono hb_1.size
 obtain ⟨hB9, w_c, w_h, w_p, w_o, w_u, w_z, w_t⟩ := nx8 hb_2 hB9 w_c w_h w_p w_o w_u w_z w_t
 have HB_1 := below_from hb_1 hb_2
 refine ⟨_, rfl, ?_⟩
 iterate 10 refine e1 ?_
 refine q_v 30 (.bool (false)) (o_eq (o_neq (m := 0) (n := 0) rfl ev rfl) rfl) ?_
 iterate 8 refine e1 ?_
 refine q_fb 4 ?_
 refine q_d (o_store1 rfl ev rfl rfl rfl hB9 (by simp only [List.length_cons, List.length_nil]; omega) ⟨by kernel_rfl, by kernel_rfl⟩) (fun w_3 hR_3 => ?_)
 obtain ⟨hB_1, hX_1⟩ := hR_3
 obtain ⟨w_c, w_h, w_p, w_o, w_u, w_z, w_t, ho_1⟩ := kx8 hX_1 w_c w_h w_p w_o w_u w_z w_t ho_1
 have HB_2 := hX_1.below HB_1 HB_1.size (fun k hk => hk ▸ hgg)
 simp only [List.set_cons_zero, List.set_cons_succ] at hB_1
 iterate 6 refine e1 ?_
 refine k_c Tryz.func42 (mixHash_any _ hB_1 w_h (by simp only [l_h]) (ho_1).bs (pubL_length _) (by omega)) ?_
 rintro e_3 w_4 ⟨A_2, c_2, rfl, hB_2, ho_2, hX_2⟩
 replace ho_2 := ho_2.mono HB_2.size
 obtain ⟨w_c, w_p, w_o, w_u, w_z, w_t⟩ := kx6 hX_2 w_c w_p w_o w_u w_z w_t
 have HB_3 := hX_2.below HB_2 HB_2.size (fun k hk => hk ▸ hgg)
 refine ⟨_, rfl, ?_⟩
 iterate 5 refine e1 ?_
 refine q_as (.int .i64 ((0 : Nat) : Int)) rfl ?_
 iterate 3 refine e1 ?_
 exact ⟨MX w (fun _ => False) w_4, g_1, rfl, ⟨Lt.mx (fun _ h => h.elim) HB_3.size, ⟨(by simp only [l_ck]), (shaL_length _), (by simp only [l_psk]), (by simp only [l_own]), (by simp only [l_pub]), (by simp only [l_stc])⟩, A_c, c_c, A_2, c_2, _, A_p, c_p, A_o, c_o, A_u, c_u, A_z, c_z, A_t, c_t, hB_2, .inr ⟨hgg, hB_2.lt⟩, ⟨w_c, fun j hj => .inr ⟨hge_1 _ (m_c j hj), w_c.lt j hj⟩⟩, ⟨ho_2.wt, fun j hj => .inr ⟨ho_2.ge' j hj, ho_2.lt j hj⟩⟩, ⟨w_p, fun j hj => .inr ⟨hge_1 _ (m_p j hj), w_p.lt j hj⟩⟩, ⟨w_o, fun j hj => .inr ⟨hge_1 _ (m_o j hj), w_o.lt j hj⟩⟩, ⟨w_u, fun j hj => .inr ⟨hge_1 _ (m_u j hj), w_u.lt j hj⟩⟩, ⟨w_z, fun j hj => .inr ⟨hge_1 _ (m_z j hj), w_z.lt j hj⟩⟩, ⟨w_t, fun j hj => .inr ⟨hge_1 _ (m_t j hj), w_t.lt j hj⟩⟩⟩, Ge.mx (fun _ h => h.elim) (Nat.le_refl _), HB_3⟩
end Go.Proofs.YtkhbihnnkflfkaaGreat
