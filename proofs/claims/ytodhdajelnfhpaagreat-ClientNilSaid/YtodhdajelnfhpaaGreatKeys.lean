/-
 WALKS: noise.Hand: keys; Ask, Answer.
-/
import Derived.Test.YtodhdajelnfhpaaGreatMix
import Derived.Test.YtodhdajelnfhpaaGreatCvM
import Derived.Test.YtodhdajelnfhpaaGreatOpsM
namespace Go.Proofs.YtodhdajelnfhpaaGreat
open Go.RowKit
set_option linter.unusedVariables false
set_option linter.unusedSimpArgs false
set_option maxRecDepth 100000
attribute [local irreducible] wpList wpListIn putsR

theorem low_byteL (N : Nat) : ∀ k, k ≤ 32 → lowN (byteL N) 0 k = N % 2 ^ 255 % 2 ^ (8 * k) := by
 intro k
 induction k with
 | zero => intro _; simp [lowN, Nat.mod_one]
 | succ k ih =>
  intro hk
  have hg : (byteL N).getD (0 + k) 0 = byteOf N 255 k := by simp [byteL, show k < 32 by omega]
  rw [lowN, ih (by omega), hg, show 8 * (k + 1) = 8 * k + 8 by omega, Nat.pow_add, Nat.mod_mul]
  unfold byteOf
  rw [show (2 : Nat) ^ 8 = 256 from rfl, Nat.mul_comm (2 ^ (8 * k)) (_ % 256)]
theorem numL_byteL (x : F) : numL (byteL x.val) = x := by
 have h1 := low_byteL x.val 32 (by omega)
 have h2 := x.lt255
 rw [Nat.mod_eq_of_lt h2, Nat.mod_eq_of_lt (Nat.lt_of_lt_of_le h2 (by decide))] at h1
 unfold numL
 rw [h1, show (57896044618658097711785492504343953926634992332820282019728792003956564819968 : Nat) = 2 ^ 255 from rfl, Nat.mod_eq_of_lt h2]
 exact toF_val_self x
def pubL (ks : List Nat) : List Nat := byteL (plN (secN ks)).val
theorem pubL_length (ks : List Nat) : (pubL ks).length = 32 := byteL_length _
theorem pubL_num (ks : List Nat) : numL (pubL ks) = plN (secN ks) := numL_byteL _
/-- What a secret and a place that bears the number n come to. -/
def dhL (ks : List Nat) (n : Nat) : List Nat := byteL (plN (secN ks * n)).val
theorem dhL_length (ks : List Nat) (n : Nat) : (dhL ks n).length = 32 := byteL_length _
theorem Mult_own {A B : Option Addr} {c d n : Nat} {ks us : List Nat} (w : World) (ha : Bs w A c ks) (hb : Bs w B d us) (hk : ks.length = 32) (hm : us.length = 32) (hn : ¬ ell ∣ n) (hu : numL us = plN n) :
  Calls Tryz.prog 41 #[.slice A 32 c, .slice B 32 d] w fun e w' => ∃ A c', e = .returned (.tuple #[.slice A 32 c', .int .i64 ((0 : Nat) : Int)]) ∧ Own w' w.heap.size A c' (dhL ks n) ∧ Below w.heap.size w w' := by
 refine Calls.mono (Mult_pl w ha hb hk hm hn hu) ?_
 rintro e w' ⟨g, c', h1, h2, h3⟩
 exact ⟨_, c', h1, h2, h3⟩
section
variable {o : Oper} {ev : Operand → Value} {w : World} {x y z : Operand} {T U t : TypeId} {g k : Nat}
theorem o_litC {n : Nat} {parts : Array (Nat × Operand)} {vs : Array (Nat × Value)} {xs : List Nat} (ho : o.op = .buildSlice 22 n parts) (hp : parts.map (fun (i, x) => (i, ev x)) = vs) (hb : ∀ w : World, (Instr.buildSlice 22 n vs).run Tryz.prog w = .ok (.slice (some ⟨w.heap.size, 0, none⟩) n n) (w.alloc (.cells (u8s xs).toArray 5))) :
  ∃ v w', (execOp ev o).run Tryz.prog w = .ok (.value v) w' ∧ (v = .slice (some ⟨w.heap.size, 0, none⟩) n n ∧ w' = w.alloc (.cells (u8s xs).toArray 5)) := by
 refine o_lit ho ?_
 simp only [execOp, ho, hp, hb, Sem.run_bind, Sem.run_pure, Result.andThen_ok]
end
theorem bld6 {ev : Operand → Value} {i1 i2 i3 i4 i5 i6 : Nat} {x1 x2 x3 x4 x5 x6 : Operand} {u1 u2 u3 u4 u5 u6 : Value} (h1 : ev x1 = u1) (h2 : ev x2 = u2) (h3 : ev x3 = u3) (h4 : ev x4 = u4) (h5 : ev x5 = u5) (h6 : ev x6 = u6) :
  #[(i1, x1), (i2, x2), (i3, x3), (i4, x4), (i5, x5), (i6, x6)].map (fun (i, x) => (i, ev x)) = #[(i1, u1), (i2, u2), (i3, u3), (i4, u4), (i5, u5), (i6, u6)] := by simp [h1, h2, h3, h4, h5, h6]
theorem Base_own {A : Option Addr} {c : Nat} {ks : List Nat} (w : World) (ha : Bs w A c ks) (hk : ks.length = 32) :
  Calls Tryz.prog 17 #[.slice A 32 c] w fun e w' => ∃ A c', e = .returned (.tuple #[.slice A 32 c', .int .i64 ((0 : Nat) : Int)]) ∧ Own w' w.heap.size A c' (pubL ks) ∧ Below w.heap.size w w' := by
 refine Calls.mono (Base_any w ha hk) ?_
 rintro e w' ⟨g, c', h1, h2, h3⟩
 exact ⟨_, c', h1, h2, h3⟩
/-- Keys and hash, behind what comes ahead of a first message's payload; of a second one's. -/
structure Sy where
 ck : List Nat
 h : List Nat
 k : List Nat
def firstS (ck hh psk xs dh : List Nat) : Sy := ⟨chT (hmacL (chT (hmacL (chT (hmacL ck psk) 1) xs) 1) dh) 1, shaL (shaL (hh ++ chT (hmacL ck psk) 2) ++ xs), chT (hmacL (chT (hmacL (chT (hmacL ck psk) 1) xs) 1) dh) 2⟩
theorem mixMult_any {g : Nat} {v1 v2 v3 v4 v5 v6 v7 v8 v9 v10 : Value} {Ac : Option Addr} {cc : Nat} {ck : List Nat} {Ao : Option Addr} {co : Nat} {ks : List Nat} {Az : Option Addr} {cz : Nat} {us : List Nat} {n : Nat} (w : World) (hB : Blk w g #[.slice Ac (32) (cc), v1, v2, v3, v4, v5, v6, v7, v8, v9, v10] 79) (hck : Wt w Ac cc ck) (hckl : ck.length = 32) (hse : Bs w Ao co ks) (hsel : ks.length = 32) (hpb : Bs w Az cz us) (hpbl : us.length = 32) (hn : ¬ ell ∣ n) (hu : numL us = plN n)  :
  Calls Tryz.prog 88 #[.pointer (some ⟨g, 0, none⟩), .slice Ao (32) (co), .slice Az (32) (cz)] w fun e w' => ∃ A c N gc, e = .returned (.int .i64 0) ∧ Blk w' g #[.slice A (32) (c), v1, .pointer (some ⟨gc, 0, none⟩), v3, v4, v5, v6, v7, v8, v9, v10] 79 ∧ Own w' w.heap.size A c (chT (hmacL ck (dhL ks n)) 1) ∧ CipherAt w' N gc (chT (hmacL ck (dhL ks n)) 2) 0 ∧ Ge w N ∧ BelowX (fun k => k = g) w w' := by
 refine x_enter 21 Tryz.func88 rfl rfl (fun a hs hd ha0 => ?_)
 have t0 : a.eval (.tmp 0) = .pointer (some ⟨g, 0, none⟩) := ha0 0 _ rfl
 have t1 : a.eval (.tmp 1) = .slice Ao (32) (co) := ha0 1 _ rfl
 have t2 : a.eval (.tmp 2) = .slice Az (32) (cz) := ha0 2 _ rfl
 clear ha0
 have HB0 : BelowX (fun k => k = g) w w := BelowX.refl _ _
 refine w2_sr (fun K_1 hK_1 => ?_)
 refine q_as (.int .i64 ((0 : Nat) : Int)) rfl ?_
 refine x_nil (hK_1 _ _ ?_)
 refine w2_sr (fun K_2 hK_2 => ?_)
 refine q_mv ((pm rfl).trans t1) ?_
 refine q_mv ((pm rfl).trans t2) ?_
 refine q_ca (vs := #[.slice Ao (32) (co), .slice Az (32) (cz)]) Tryz.func41 (args2 (pe hs rfl rfl) (pe hs rfl rfl)) (Mult_own _ hse hpb hsel hpbl hn hu) (fun e_1 w_1 hR_1 => ?_)
 obtain ⟨A_1, c_1, rfl, ho_1, hb_1⟩ := hR_1
 replace ho_1 := ho_1.mono HB0.size
 replace hB := hB.nx hb_1
 replace hck := hck.nx hb_1
 replace hse := hse.nx hb_1
 replace hpb := hpb.nx hb_1
 have HB_1 := HB0.then hb_1
 refine ⟨_, rfl, ?_⟩
 refine q_mv (pe hs rfl rfl) ?_
 refine q_ex (v := .slice A_1 (32) (c_1)) (pe hs rfl rfl) rfl ?_
 refine q_ex (v := .int .i64 ((0 : Nat) : Int)) (pe hs rfl rfl) rfl ?_
 refine q_at (pe hs rfl rfl) ?_
 refine q_at (v := .int .i64 ((0 : Nat) : Int)) (pe hs rfl rfl) ?_
 refine x_nil (hK_2 _ _ ?_)
 refine w2_seq (fun K_3 hK_3 => ?_)
 refine w2_sr (fun K_4 hK_4 => ?_)
 refine q_mv (v := .int .i64 ((0 : Nat) : Int)) (pe hs rfl rfl) ?_
 refine q_v 16 (.bool (true)) (o_eq (o_eql (m := 0) (n := 0) rfl (pe hs rfl rfl) rfl) rfl) ?_
 refine x_nil (hK_4 _ _ ?_)
 refine w2_condT (pe hs rfl rfl) ?_
 refine x_region (by kernel_rfl) ?_
 refine q_mv ((pm rfl).trans t0) ?_
 refine q_mv (pe hs rfl rfl) ?_
 refine q_ca (vs := #[.pointer (some ⟨g, 0, none⟩), .slice A_1 (32) (c_1)]) Tryz.func87 (args2 (pe hs rfl rfl) (pe hs rfl rfl)) (mixKey_any _ hB hck hckl (ho_1).bs (dhL_length _ _) (by omega)) (fun e_2 w_2 hR_2 => ?_)
 obtain ⟨A_2, c_2, N_1, gc_1, rfl, hB_1, ho_2, hC_1, hge_1, hX_1⟩ := hR_2
 have gg_1 := hge_1.down HB_1.size
 replace ho_2 := ho_2.mono HB_1.size
 replace hck := hck.keepX hB (by decide) hX_1
 have HB_2 := HB_1.step hX_1 (fun k hk (hY : k = g) => hY)
 clear hB
 refine ⟨_, rfl, ?_⟩
 refine x_nil (hK_3 _ _ ?_)
 refine w2_sr (fun K_5 hK_5 => ?_)
 refine q_mv (v := .int .i64 ((0 : Nat) : Int)) (pe hs rfl rfl) ?_
 refine q_at (v := .int .i64 ((0 : Nat) : Int)) (pe hs rfl rfl) ?_
 refine x_nil (hK_5 _ _ ?_)
 refine w2_ret ?_
 refine ret1 rfl hd (pe hs rfl rfl) ?_
 exact ⟨A_2, c_2, N_1, gc_1, rfl, hB_1, ho_2, hC_1, gg_1, HB_2⟩
theorem keys_a {g : Nat} {v2 v4 v8 v10 : Value} {Ac : Option Addr} {cc : Nat} {ck : List Nat} {Ah : Option Addr} {ch : Nat} {hh : List Nat} {Ap : Option Addr} {cp : Nat} {psk : List Nat} {Ao : Option Addr} {co : Nat} {ks : List Nat} {Az : Option Addr} {cz : Nat} {us : List Nat} {A0 : Option Addr} {c0 : Nat} {xs : List Nat} {n : Nat} (w : World) (hB : Blk w g #[.slice Ac (32) (cc), .slice Ah (32) (ch), v2, .bool (true), v4, .bool (false), .slice Ap (32) (cp), .slice Ao (32) (co), v8, .slice Az (32) (cz), v10] 79) (hck : Wt w Ac cc ck) (hckl : ck.length = 32) (hhh : Wt w Ah ch hh) (hhhl : hh.length = 32) (hps : Wt w Ap cp psk) (hpsl : psk.length = 32) (hse : Wt w Ao co ks) (hsel : ks.length = 32) (hpb : Wt w Az cz us) (hpbl : us.length = 32) (hx : Wt w A0 c0 xs) (hxl : xs.length = 32) (hn : ¬ ell ∣ n) (hu : numL us = plN n)  :
  Calls Tryz.prog 49 #[.pointer (some ⟨g, 0, none⟩), .slice A0 (32) (c0)] w fun e w' => ∃ A c A2 c2 N gc, e = .returned (.int .i64 0) ∧ Blk w' g #[.slice A (32) (c), .slice A2 (32) (c2), .pointer (some ⟨gc, 0, none⟩), .bool (true), v4, .bool (false), .slice Ap (32) (cp), .slice Ao (32) (co), v8, .slice Az (32) (cz), v10] 79 ∧ Own w' w.heap.size A c (firstS ck hh psk xs (dhL ks n)).ck ∧ Own w' w.heap.size A2 c2 (firstS ck hh psk xs (dhL ks n)).h ∧ CipherAt w' N gc (firstS ck hh psk xs (dhL ks n)).k 0 ∧ Ge w N ∧ BelowX (fun k => k = g) w w' := by
 refine x_enter 62 Tryz.func49 rfl rfl (fun a hs hd ha0 => ?_)
 have t0 : a.eval (.tmp 0) = .pointer (some ⟨g, 0, none⟩) := ha0 0 _ rfl
 have t1 : a.eval (.tmp 1) = .slice A0 (32) (c0) := ha0 1 _ rfl
 clear ha0
 have HB0 : BelowX (fun k => k = g) w w := BelowX.refl _ _
 refine w2_sr (fun K_1 hK_1 => ?_)
 refine q_as (.int .i64 ((0 : Nat) : Int)) rfl ?_
 refine x_nil (hK_1 _ _ ?_)
 refine w2_seq (fun K_2 hK_2 => ?_)
 refine w2_sr (fun K_3 hK_3 => ?_)
 refine q_mv ((pm rfl).trans t0) ?_
 refine q_nc (pe hs rfl rfl) ?_
 refine q_fa 5 (pe hs rfl rfl) ?_
 refine q_ld (v := .bool (false)) (pe hs rfl rfl) hB rfl ?_
 refine q_v 9 (.bool (true)) (o_not (b := false) rfl (pe hs rfl rfl)) ?_
 refine x_nil (hK_3 _ _ ?_)
 refine w2_condT (pe hs rfl rfl) ?_
 refine x_region (by kernel_rfl) ?_
 refine q_mv ((pm rfl).trans t0) ?_
 refine q_mv ((pm rfl).trans t0) ?_
 refine q_nc (pe hs rfl rfl) ?_
 refine q_fa 6 (pe hs rfl rfl) ?_
 refine q_ld (v := .slice Ap (32) (cp)) (pe hs rfl rfl) hB rfl ?_
 refine q_ca (vs := #[.pointer (some ⟨g, 0, none⟩), .slice Ap (32) (cp)]) Tryz.func86 (args2 (pe hs rfl rfl) (pe hs rfl rfl)) (mixBoth_any _ hB hck hckl hhh hhhl (hps).bs hpsl (by omega)) (fun e_1 w_1 hR_1 => ?_)
 obtain ⟨A_1, c_1, A_2, c_2, N_1, gc_1, rfl, hB_1, ho_1, ho_2, hC_1, hge_1, hX_1⟩ := hR_1
 replace ho_1 := ho_1.mono HB0.size
 replace ho_2 := ho_2.mono HB0.size
 replace hck := hck.keepX hB (by decide) hX_1
 replace hhh := hhh.keepX hB (by decide) hX_1
 replace hps := hps.keepX hB (by decide) hX_1
 replace hse := hse.keepX hB (by decide) hX_1
 replace hpb := hpb.keepX hB (by decide) hX_1
 replace hx := hx.keepX hB (by decide) hX_1
 have HB_1 := HB0.step hX_1 (fun k hk (hY : k = g) => hY)
 clear hB
 refine ⟨_, rfl, ?_⟩
 refine x_nil (hK_2 _ _ ?_)
 refine w2_sr (fun K_4 hK_4 => ?_)
 refine q_mv ((pm rfl).trans t0) ?_
 refine q_mv ((pm rfl).trans t1) ?_
 refine q_ca (vs := #[.pointer (some ⟨g, 0, none⟩), .slice A0 (32) (c0)]) Tryz.func44 (args2 (pe hs rfl rfl) (pe hs rfl rfl)) (mixHash_any _ hB_1 (ho_2).wt (shaL_length _) (hx).bs hxl (by omega)) (fun e_2 w_2 hR_2 => ?_)
 obtain ⟨A_3, c_3, rfl, hB_2, ho_3, hX_2⟩ := hR_2
 replace ho_3 := ho_3.mono HB_1.size
 replace hck := hck.keepX hB_1 (by decide) hX_2
 replace hhh := hhh.keepX hB_1 (by decide) hX_2
 replace hps := hps.keepX hB_1 (by decide) hX_2
 replace hse := hse.keepX hB_1 (by decide) hX_2
 replace hpb := hpb.keepX hB_1 (by decide) hX_2
 replace hx := hx.keepX hB_1 (by decide) hX_2
 replace ho_1 := ho_1.keepX hB_1 (by decide) hX_2
 have HB_2 := HB_1.step hX_2 (fun k hk (hY : k = g) => hY)
 clear hB_1
 refine ⟨_, rfl, ?_⟩
 refine x_nil (hK_4 _ _ ?_)
 refine w2_sr (fun K_5 hK_5 => ?_)
 refine q_mv ((pm rfl).trans t0) ?_
 refine q_mv ((pm rfl).trans t1) ?_
 refine q_ca (vs := #[.pointer (some ⟨g, 0, none⟩), .slice A0 (32) (c0)]) Tryz.func87 (args2 (pe hs rfl rfl) (pe hs rfl rfl)) (mixKey_any _ hB_2 (ho_1).wt (chT_length _ _) (hx).bs hxl (by omega)) (fun e_3 w_3 hR_3 => ?_)
 obtain ⟨A_4, c_4, N_2, gc_2, rfl, hB_3, ho_4, hC_2, hge_2, hX_3⟩ := hR_3
 replace ho_4 := ho_4.mono HB_2.size
 replace hck := hck.keepX hB_2 (by decide) hX_3
 replace hhh := hhh.keepX hB_2 (by decide) hX_3
 replace hps := hps.keepX hB_2 (by decide) hX_3
 replace hse := hse.keepX hB_2 (by decide) hX_3
 replace hpb := hpb.keepX hB_2 (by decide) hX_3
 replace hx := hx.keepX hB_2 (by decide) hX_3
 replace ho_3 := ho_3.keepX hB_2 (by decide) hX_3
 have HB_3 := HB_2.step hX_3 (fun k hk (hY : k = g) => hY)
 clear hB_2
 refine ⟨_, rfl, ?_⟩
 refine x_nil (hK_5 _ _ ?_)
 refine w2_seq (fun K_6 hK_6 => ?_)
 refine w2_block (fun K_7 hK_7 => ?_)
 refine w2_sr (fun K_8 hK_8 => ?_)
 refine q_mv ((pm rfl).trans t0) ?_
 refine q_nc (pe hs rfl rfl) ?_
 refine q_fa 5 (pe hs rfl rfl) ?_
 refine q_ld (v := .bool (false)) (pe hs rfl rfl) hB_3 rfl ?_
 refine q_at (pe hs rfl rfl) ?_
 refine x_nil (hK_8 _ _ ?_)
 refine w2_condF (pe hs rfl rfl) ?_
 refine w2_sr (fun K_9 hK_9 => ?_)
 refine q_mv ((pm rfl).trans t0) ?_
 refine q_nc (pe hs rfl rfl) ?_
 refine q_fa 3 (pe hs rfl rfl) ?_
 refine q_ld (v := .bool (true)) (pe hs rfl rfl) hB_3 rfl ?_
 refine q_at (pe hs rfl rfl) ?_
 refine x_nil (hK_9 _ _ ?_)
 refine w2_condT (pe hs rfl rfl) ?_
 refine w2_seq (fun K_10 hK_10 => ?_)
 refine x_drawn 9 [fun _ v => v = .pointer (some ⟨g, 0, none⟩), fun _ v => v = .pointer (some ⟨g, 0, none⟩), fun _ v => v = .pointer (some ⟨g, 0, none⟩), fun _ v => v = .pointer (some ⟨g, 7, none⟩), fun _ v => v = .slice Ao (32) (co), fun _ v => v = .pointer (some ⟨g, 0, none⟩), fun _ v => v = .pointer (some ⟨g, 0, none⟩), fun _ v => v = .pointer (some ⟨g, 9, none⟩), fun _ v => v = .slice Az (32) (cz)] [42, 43, 44, 45, 46, 47, 48, 49, 50] hs hd (by kernel_rfl) (by kernel_rfl) (by kernel_rfl) (by kernel_rfl) (by kernel_rfl) ⟨stLit, stLit, stLit, stLit, stLit, stLit, stLit, stLit, stLit, trivial⟩ ⟨(step_ok rfl (fun a' w' hb' hO hD => by
   have d_1 := (hO 0 (by decide)).trans ((pm rfl).trans t0)
   exact .inl ⟨_, _, (o_move rfl d_1), rfl, Below.refl _ _⟩)),
(step_ok rfl (fun a' w' hb' hO hD => by
   have d_2 := (hO 0 (by decide)).trans ((pm rfl).trans t0)
   exact .inl ⟨_, _, (o_move rfl d_2), rfl, Below.refl _ _⟩)),
(step_ok rfl (fun a' w' hb' hO hD => by
   have d_3 : a'.eval (.tmp 43) = .pointer (some ⟨g, 0, none⟩) := hD 1 43 (by kernel_rfl) rfl
   exact .inl ⟨_, _, (o_nilCheck rfl d_3), rfl, Below.refl _ _⟩)),
(step_ok rfl (fun a' w' hb' hO hD => by
   have d_4 : a'.eval (.tmp 44) = .pointer (some ⟨g, 0, none⟩) := hD 2 44 (by kernel_rfl) rfl
   exact .inl ⟨_, _, (o_field (k' := 7) rfl d_4 (fun _ => by kernel_rfl)), rfl, Below.refl _ _⟩)),
(step_ok rfl (fun a' w' hb' hO hD => by
   have d_5 : a'.eval (.tmp 45) = .pointer (some ⟨g, 7, none⟩) := hD 3 45 (by kernel_rfl) rfl
   exact .inl ⟨_, _, (o_load1 rfl d_5 (hB_3.nx hb') rfl ⟨by kernel_rfl, by kernel_rfl⟩), rfl, Below.refl _ _⟩)),
(step_ok rfl (fun a' w' hb' hO hD => by
   have d_6 := (hO 0 (by decide)).trans ((pm rfl).trans t0)
   exact .inl ⟨_, _, (o_move rfl d_6), rfl, Below.refl _ _⟩)),
(step_ok rfl (fun a' w' hb' hO hD => by
   have d_7 : a'.eval (.tmp 47) = .pointer (some ⟨g, 0, none⟩) := hD 5 47 (by kernel_rfl) rfl
   exact .inl ⟨_, _, (o_nilCheck rfl d_7), rfl, Below.refl _ _⟩)),
(step_ok rfl (fun a' w' hb' hO hD => by
   have d_8 : a'.eval (.tmp 48) = .pointer (some ⟨g, 0, none⟩) := hD 6 48 (by kernel_rfl) rfl
   exact .inl ⟨_, _, (o_field (k' := 9) rfl d_8 (fun _ => by kernel_rfl)), rfl, Below.refl _ _⟩)),
(step_ok rfl (fun a' w' hb' hO hD => by
   have d_9 : a'.eval (.tmp 49) = .pointer (some ⟨g, 9, none⟩) := hD 7 49 (by kernel_rfl) rfl
   exact .inl ⟨_, _, (o_load1 rfl d_9 (hB_3.nx hb') rfl ⟨by kernel_rfl, by kernel_rfl⟩), rfl, Below.refl _ _⟩)), trivial⟩ (fun a_1 w_4 hs_1 hd_1 hb_1 hO_1 hV_1 => ?_)
 clear t0 t1 hd
 replace hck := hck.nx hb_1
 replace hhh := hhh.nx hb_1
 replace hps := hps.nx hb_1
 replace hse := hse.nx hb_1
 replace hpb := hpb.nx hb_1
 replace hx := hx.nx hb_1
 replace ho_3 := ho_3.nx hb_1
 replace hB_3 := hB_3.nx hb_1
 replace ho_4 := ho_4.nx hb_1
 have HB_4 := HB_3.then hb_1
 have ta_1_42 : a_1.eval (.tmp 42) = .pointer (some ⟨g, 0, none⟩) := hV_1 0 42 rfl rfl
 have ta_1_46 : a_1.eval (.tmp 46) = .slice Ao (32) (co) := hV_1 4 46 rfl rfl
 have ta_1_50 : a_1.eval (.tmp 50) = .slice Az (32) (cz) := hV_1 8 50 rfl rfl
 clear hV_1 hO_1
 simp only [List.drop_succ_cons, List.drop_zero]
 refine q_ca (vs := #[.pointer (some ⟨g, 0, none⟩), .slice Ao (32) (co), .slice Az (32) (cz)]) Tryz.func88 (args3 ((pm rfl).trans ta_1_42) ((pm rfl).trans ta_1_46) ((pm rfl).trans ta_1_50)) (mixMult_any _ hB_3 (ho_4).wt (chT_length _ _) (hse).bs hsel (hpb).bs hpbl hn hu) (fun e_4 w_5 hR_4 => ?_)
 obtain ⟨A_5, c_5, N_3, gc_3, rfl, hB_4, ho_5, hC_3, hge_3, hX_4⟩ := hR_4
 have gg_3 := hge_3.down HB_4.size
 replace ho_5 := ho_5.mono HB_4.size
 replace hck := hck.keepX hB_3 (by decide) hX_4
 replace hhh := hhh.keepX hB_3 (by decide) hX_4
 replace hps := hps.keepX hB_3 (by decide) hX_4
 replace hse := hse.keepX hB_3 (by decide) hX_4
 replace hpb := hpb.keepX hB_3 (by decide) hX_4
 replace hx := hx.keepX hB_3 (by decide) hX_4
 replace ho_3 := ho_3.keepX hB_3 (by decide) hX_4
 have HB_5 := HB_4.step hX_4 (fun k hk (hY : k = g) => hY)
 clear hB_3
 refine ⟨_, rfl, ?_⟩
 refine q_at (v := .int .i64 ((0 : Nat) : Int)) (pe hs_1 rfl rfl) ?_
 refine x_nil (hK_10 _ _ ?_)
 refine w2_ret ?_
 refine exb_ret ?_
 refine thn_ret ?_
 refine ret1 rfl hd_1 (pe hs_1 rfl rfl) ?_
 exact ⟨A_5, c_5, A_3, c_3, N_3, gc_3, rfl, hB_4, ho_5, ho_3, hC_3, gg_3, HB_5⟩
def nameS : List Nat := [78, 111, 105, 115, 101, 95, 78, 75, 112, 115, 107, 48, 95, 50, 53, 53, 49, 57, 95, 67, 104, 97, 67, 104, 97, 80, 111, 108, 121, 95, 83, 72, 65, 50, 53, 54]
structure HS where
 ck : List Nat
 h : List Nat
 psk : List Nat
 own : List Nat
 pub : List Nat
 stc : List Nat
 oth : List Nat
 asks : Bool
 sent : Bool
 turn : Nat
/-- A slice that reads as xs and lies in M. -/
def Sl (w : World) (M : Nat → Prop) (A : Option Addr) (c : Nat) (xs : List Nat) : Prop := Wt w A c xs ∧ ∀ j, blkA A j → M j
structure HS.Len (s : HS) : Prop where
 ck : s.ck.length = 32
 h : s.h.length = 32
 psk : s.psk.length = 32
 own : s.own.length = 32
 pub : s.pub.length = 32
 stc : s.stc.length = 32
/-- A side lies at g; M: its blocks. -/
structure HandAt (w : World) (M : Nat → Prop) (g : Nat) (s : HS) : Prop where
 lt : Lt w M
 len : s.Len
 row : ∃ (Ac : Option Addr) (cc : Nat) (Ah : Option Addr) (ch : Nat) (v2 : Option Addr) (Ap : Option Addr) (cp : Nat) (Ao : Option Addr) (co : Nat) (Au : Option Addr) (cu : Nat) (Az : Option Addr) (cz : Nat) (At : Option Addr) (ct : Nat),
  Blk w g #[.slice Ac 32 cc, .slice Ah 32 ch, .pointer v2, .bool s.asks, .int .i64 ((s.turn : Nat) : Int), .bool s.sent, .slice Ap 32 cp, .slice Ao 32 co, .slice Au 32 cu, .slice Az 32 cz, .slice At s.oth.length ct] 79 ∧ M g ∧
  Sl w M Ac cc s.ck ∧ Sl w M Ah ch s.h ∧ Sl w M Ap cp s.psk ∧ Sl w M Ao co s.own ∧ Sl w M Au cu s.pub ∧ Sl w M Az cz s.stc ∧ Sl w M At ct s.oth
theorem Sl.keep {w w' : World} {M : Nat → Prop} {A : Option Addr} {c : Nat} {xs : List Nat} (h : Sl w M A c xs) (hb : KeptM M w w') : Sl w' M A c xs := ⟨h.1.keep (fun j hj => hb j (h.2 j hj)), h.2⟩
theorem HandAt.keep {w w' : World} {M : Nat → Prop} {g : Nat} {s : HS} (h : HandAt w M g s) (hb : KeptM M w w') (hs : w.heap.size ≤ w'.heap.size) : HandAt w' M g s := by
 obtain ⟨Ac, cc, Ah, ch, v2, Ap, cp, Ao, co, Au, cu, Az, cz, At, ct, hB, hg, h1, h2, h3, h4, h5, h6, h7⟩ := h.row
 exact ⟨h.lt.up hs, h.len, Ac, cc, Ah, ch, v2, Ap, cp, Ao, co, Au, cu, Az, cz, At, ct, (hb g hg).trans hB, hg, h1.keep hb, h2.keep hb, h3.keep hb, h4.keep hb, h5.keep hb, h6.keep hb, h7.keep hb⟩
theorem HandAt.nx {w w' : World} {M : Nat → Prop} {g : Nat} {s : HS} (h : HandAt w M g s) (hb : Below w.heap.size w w') : HandAt w' M g s := h.keep (kept_of hb h.lt) hb.size
theorem HandAt.keepM {w w' : World} {M X : Nat → Prop} {g : Nat} {s : HS} (h : HandAt w M g s) (hb : BelowX X w w') (hs : Sep M X) : HandAt w' M g s := h.keep (hb.kept h.lt hs) hb.size
set_option maxHeartbeats 1000000 in
theorem hbegin_any {Ap : Option Addr} {cp : Nat} {psk : List Nat} {Az : Option Addr} {cz : Nat} {st : List Nat} {Ae : Option Addr} {ce : Nat} {es : List Nat} (t : Nat) (w : World) (h0 : Bs w Ap cp psk) (l0 : psk.length = 32) (h1 : Bs w Az cz st) (l1 : st.length = 32) (h2 : Bs w Ae ce es) (l2 : es.length = 32) (ht : t ≤ 65535) :
  Calls Tryz.prog 43 #[.int .i64 ((t : Nat) : Int), .slice Ap (32) (cp), .slice Az (32) (cz), .slice Ae (32) (ce)] w fun e w' => ∃ (M : Nat → Prop) (g : Nat), e = .returned (.tuple #[.pointer (some ⟨g, 0, none⟩), .int .i64 0]) ∧ HandAt w' M g ⟨shaL nameS, shaL (shaL nameS ++ [t / 256 % 256, t % 256]), psk, es, pubL es, st, [], false, false, 0⟩ ∧ Ge w M ∧ Below w.heap.size w w' := by
 refine x_enter 66 Tryz.func43 rfl rfl (fun a hs hd ha0 => ?_)
 have t0 : a.eval (.tmp 0) = .int .i64 ((t : Nat) : Int) := ha0 0 _ rfl
 have t1 : a.eval (.tmp 1) = .slice Ap (32) (cp) := ha0 1 _ rfl
 have t2 : a.eval (.tmp 2) = .slice Az (32) (cz) := ha0 2 _ rfl
 have t3 : a.eval (.tmp 3) = .slice Ae (32) (ce) := ha0 3 _ rfl
 clear ha0
 refine w2_sr (fun K_1 hK_1 => ?_)
 refine q_as (.pointer none) rfl ?_
 refine q_as (.int .i64 ((0 : Nat) : Int)) rfl ?_
 refine x_nil (hK_1 _ _ ?_)
 refine w2_seq (fun K_2 hK_2 => ?_)
 refine w2_sr (fun K_3 hK_3 => ?_)
 refine q_mv ((pm rfl).trans t0) ?_
 refine q_v 15 (.bool (false)) (o_eq (o_lss (m := t) (n := 0) rfl (pe hs rfl rfl) rfl) (by rw [decide_eq_false (by omega)])) ?_
 refine q_mv (pe hs rfl rfl) ?_
 refine op_valG (e := 16) (d := 17) (v := .int .i64 ((t : Nat) : Int)) rfl rfl (by kernel_rfl) (pe hs rfl rfl) (o_move rfl ((pm rfl).trans t0)) ?_
 refine op_valG (e := 16) (d := 18) (v := .bool (false)) rfl rfl (by kernel_rfl) (pe hs rfl rfl) (o_eq (o_gtr (m := t) (n := 65535) rfl (pe hs rfl rfl) rfl) (by rw [decide_eq_false (by omega)])) ?_
 refine q_v 19 (.bool (false)) (o_pickF rfl (pe hs rfl rfl) (pe hs rfl rfl)) ?_
 refine q_mv (pe hs rfl rfl) ?_
 refine op_valG (e := 20) (d := 21) (v := .slice Ap (32) (cp)) rfl rfl (by kernel_rfl) (pe hs rfl rfl) (o_move rfl ((pm rfl).trans t1)) ?_
 refine op_valG (e := 20) (d := 22) (v := .int .i64 ((32 : Nat) : Int)) rfl rfl (by kernel_rfl) (pe hs rfl rfl) (o_len rfl (pe hs rfl rfl)) ?_
 refine op_valG (e := 20) (d := 23) (v := .bool (false)) rfl rfl (by kernel_rfl) (pe hs rfl rfl) (o_eq (o_neq (m := 32) (n := 32) rfl (pe hs rfl rfl) rfl) rfl) ?_
 refine q_v 24 (.bool (false)) (o_pickF rfl (pe hs rfl rfl) (pe hs rfl rfl)) ?_
 refine q_mv (pe hs rfl rfl) ?_
 refine op_valG (e := 25) (d := 26) (v := .slice Az (32) (cz)) rfl rfl (by kernel_rfl) (pe hs rfl rfl) (o_move rfl ((pm rfl).trans t2)) ?_
 refine op_valG (e := 25) (d := 27) (v := .int .i64 ((32 : Nat) : Int)) rfl rfl (by kernel_rfl) (pe hs rfl rfl) (o_len rfl (pe hs rfl rfl)) ?_
 refine op_valG (e := 25) (d := 28) (v := .bool (false)) rfl rfl (by kernel_rfl) (pe hs rfl rfl) (o_eq (o_neq (m := 32) (n := 32) rfl (pe hs rfl rfl) rfl) rfl) ?_
 refine q_v 29 (.bool (false)) (o_pickF rfl (pe hs rfl rfl) (pe hs rfl rfl)) ?_
 refine q_mv (pe hs rfl rfl) ?_
 refine op_valG (e := 30) (d := 31) (v := .slice Ae (32) (ce)) rfl rfl (by kernel_rfl) (pe hs rfl rfl) (o_move rfl ((pm rfl).trans t3)) ?_
 refine op_valG (e := 30) (d := 32) (v := .int .i64 ((32 : Nat) : Int)) rfl rfl (by kernel_rfl) (pe hs rfl rfl) (o_len rfl (pe hs rfl rfl)) ?_
 refine op_valG (e := 30) (d := 33) (v := .bool (false)) rfl rfl (by kernel_rfl) (pe hs rfl rfl) (o_eq (o_neq (m := 32) (n := 32) rfl (pe hs rfl rfl) rfl) rfl) ?_
 refine q_v 34 (.bool (false)) (o_pickF rfl (pe hs rfl rfl) (pe hs rfl rfl)) ?_
 refine x_nil (hK_3 _ _ ?_)
 refine w2_condF (pe hs rfl rfl) ?_
 refine w2_skip ?_
 refine hK_2 _ _ ?_
 refine w2_sr (fun K_4 hK_4 => ?_)
 refine q_mv ((pm rfl).trans t3) ?_
 refine q_ca (vs := #[.slice Ae (32) (ce)]) Tryz.func17 (args1 (pe hs rfl rfl)) (Base_own _ h2 (by simp only [l2])) (fun e_1 w_1 hR_1 => ?_)
 obtain ⟨A_1, c_1, rfl, ho_1, hb_1⟩ := hR_1
 refine ⟨_, rfl, ?_⟩
 refine q_mv (pe hs rfl rfl) ?_
 refine q_ex (v := .slice A_1 (32) (c_1)) (pe hs rfl rfl) rfl ?_
 refine q_ex (v := .int .i64 ((0 : Nat) : Int)) (pe hs rfl rfl) rfl ?_
 refine q_at (pe hs rfl rfl) ?_
 refine q_at (v := .int .i64 ((0 : Nat) : Int)) (pe hs rfl rfl) ?_
 refine x_nil (hK_4 _ _ ?_)
 refine w2_seq (fun K_5 hK_5 => ?_)
 refine w2_sr (fun K_6 hK_6 => ?_)
 refine q_mv (v := .int .i64 ((0 : Nat) : Int)) (pe hs rfl rfl) ?_
 refine q_v 41 (.bool (false)) (o_eq (o_neq (m := 0) (n := 0) rfl (pe hs rfl rfl) rfl) rfl) ?_
 refine x_nil (hK_6 _ _ ?_)
 refine w2_condF (pe hs rfl rfl) ?_
 refine w2_skip ?_
 refine hK_5 _ _ ?_
 refine w2_sr (fun K_7 hK_7 => ?_)
 refine op_ex (d := 43) rfl rfl (o_litC (xs := [78, 111, 105, 115, 101, 95, 78, 75, 112, 115, 107, 48, 95, 50, 53, 53, 49, 57, 95, 67, 104, 97, 67, 104, 97, 80, 111, 108, 121, 95, 83, 72, 65, 50, 53, 54]) (vs := #[(0, .int .u8 ((78 : Nat) : Int)), (1, .int .u8 ((111 : Nat) : Int)), (2, .int .u8 ((105 : Nat) : Int)), (3, .int .u8 ((115 : Nat) : Int)), (4, .int .u8 ((101 : Nat) : Int)), (5, .int .u8 ((95 : Nat) : Int)), (6, .int .u8 ((78 : Nat) : Int)), (7, .int .u8 ((75 : Nat) : Int)), (8, .int .u8 ((112 : Nat) : Int)), (9, .int .u8 ((115 : Nat) : Int)), (10, .int .u8 ((107 : Nat) : Int)), (11, .int .u8 ((48 : Nat) : Int)), (12, .int .u8 ((95 : Nat) : Int)), (13, .int .u8 ((50 : Nat) : Int)), (14, .int .u8 ((53 : Nat) : Int)), (15, .int .u8 ((53 : Nat) : Int)), (16, .int .u8 ((49 : Nat) : Int)), (17, .int .u8 ((57 : Nat) : Int)), (18, .int .u8 ((95 : Nat) : Int)), (19, .int .u8 ((67 : Nat) : Int)), (20, .int .u8 ((104 : Nat) : Int)), (21, .int .u8 ((97 : Nat) : Int)), (22, .int .u8 ((67 : Nat) : Int)), (23, .int .u8 ((104 : Nat) : Int)), (24, .int .u8 ((97 : Nat) : Int)), (25, .int .u8 ((80 : Nat) : Int)), (26, .int .u8 ((111 : Nat) : Int)), (27, .int .u8 ((108 : Nat) : Int)), (28, .int .u8 ((121 : Nat) : Int)), (29, .int .u8 ((95 : Nat) : Int)), (30, .int .u8 ((83 : Nat) : Int)), (31, .int .u8 ((72 : Nat) : Int)), (32, .int .u8 ((65 : Nat) : Int)), (33, .int .u8 ((50 : Nat) : Int)), (34, .int .u8 ((53 : Nat) : Int)), (35, .int .u8 ((54 : Nat) : Int))]) rfl (bldc (fun _ => rfl) _ _ rfl) (fun _ => by kernel_rfl)) (fun v_1 w_2 hR_2 => ?_)
 obtain ⟨rfl, rfl⟩ := hR_2
 refine op_ex (d := 44) rfl rfl (o_mark (n := 36) (xs := [78, 111, 105, 115, 101, 95, 78, 75, 112, 115, 107, 48, 95, 50, 53, 53, 49, 57, 95, 67, 104, 97, 67, 104, 97, 80, 111, 108, 121, 95, 83, 72, 65, 50, 53, 54]) rfl (pe hs rfl rfl) rfl (by decide) (by omega)) (fun v_2 w_3 hR_3 => ?_)
 obtain ⟨A_2, rfl, hx_1, hb_2⟩ := hR_3
 replace ho_1 := ho_1.nx hb_2
 have HB_1 := below_from hb_1 hb_2
 refine q_ca (vs := #[.slice A_2 (36) (36)]) Tryz.func23 (args1 (pe hs rfl rfl)) (Sum_sha _ hx_1 (by simp only [List.length_cons, List.length_nil]) (by omega)) (fun e_2 w_4 hR_4 => ?_)
 obtain ⟨A_3, c_2, rfl, ho_2, hb_3⟩ := hR_4
 replace ho_2 := ho_2.mono HB_1.size
 replace ho_1 := ho_1.nx hb_3
 replace hx_1 := hx_1.nx hb_3
 have HB_2 := below_from HB_1 hb_3
 refine ⟨_, rfl, ?_⟩
 refine q_at (pe hs rfl rfl) ?_
 refine x_nil (hK_7 _ _ ?_)
 refine w2_sr (fun K_8 hK_8 => ?_)
 refine q_mv (pe hs rfl rfl) ?_
 refine q_mv (pe hs rfl rfl) ?_
 refine q_mv ((pm rfl).trans t1) ?_
 refine q_ca (vs := #[.slice Ap (32) (cp)]) Tryz.func42 (args1 (pe hs rfl rfl)) (Clone_any _ (h0.below HB_2) (by simp only [l0]) (by omega)) (fun e_3 w_5 hR_5 => ?_)
 obtain ⟨A_4, c_3, rfl, ho_3, hb_4⟩ := hR_5
 replace ho_3 := ho_3.mono HB_2.size
 replace ho_1 := ho_1.nx hb_4
 replace hx_1 := hx_1.nx hb_4
 replace ho_2 := ho_2.nx hb_4
 have HB_3 := below_from HB_2 hb_4
 refine ⟨_, rfl, ?_⟩
 refine q_mv ((pm rfl).trans t3) ?_
 refine q_ca (vs := #[.slice Ae (32) (ce)]) Tryz.func42 (args1 (pe hs rfl rfl)) (Clone_any _ (h2.below HB_3) (by simp only [l2]) (by omega)) (fun e_4 w_6 hR_6 => ?_)
 obtain ⟨A_5, c_4, rfl, ho_4, hb_5⟩ := hR_6
 replace ho_4 := ho_4.mono HB_3.size
 replace ho_1 := ho_1.nx hb_5
 replace hx_1 := hx_1.nx hb_5
 replace ho_2 := ho_2.nx hb_5
 replace ho_3 := ho_3.nx hb_5
 have HB_4 := below_from HB_3 hb_5
 refine ⟨_, rfl, ?_⟩
 refine q_mv (pe hs rfl rfl) ?_
 refine q_mv ((pm rfl).trans t2) ?_
 refine q_ca (vs := #[.slice Az (32) (cz)]) Tryz.func42 (args1 (pe hs rfl rfl)) (Clone_any _ (h1.below HB_4) (by simp only [l1]) (by omega)) (fun e_5 w_7 hR_7 => ?_)
 obtain ⟨A_6, c_5, rfl, ho_5, hb_6⟩ := hR_7
 replace ho_5 := ho_5.mono HB_4.size
 replace ho_1 := ho_1.nx hb_6
 replace hx_1 := hx_1.nx hb_6
 replace ho_2 := ho_2.nx hb_6
 replace ho_3 := ho_3.nx hb_6
 replace ho_4 := ho_4.nx hb_6
 have HB_5 := below_from HB_4 hb_6
 refine ⟨_, rfl, ?_⟩
 refine q_v 55 (.agg #[.slice A_3 (32) (c_2), .slice A_3 (32) (c_2), .pointer none, .bool (false), .int .i64 ((0 : Nat) : Int), .bool (false), .slice A_4 (32) (c_3), .slice A_5 (32) (c_4), .slice A_1 (32) (c_1), .slice A_6 (32) (c_5), .slice none (0) (0)]) (o_bld (vs := #[(0, .slice A_3 (32) (c_2)), (1, .slice A_3 (32) (c_2)), (6, .slice A_4 (32) (c_3)), (7, .slice A_5 (32) (c_4)), (8, .slice A_1 (32) (c_1)), (9, .slice A_6 (32) (c_5))]) (v := .agg #[.slice A_3 (32) (c_2), .slice A_3 (32) (c_2), .pointer none, .bool (false), .int .i64 ((0 : Nat) : Int), .bool (false), .slice A_4 (32) (c_3), .slice A_5 (32) (c_4), .slice A_1 (32) (c_1), .slice A_6 (32) (c_5), .slice none (0) (0)]) rfl (bld6 (pe hs rfl rfl) (pe hs rfl rfl) (pe hs rfl rfl) (pe hs rfl rfl) (pe hs rfl rfl) (pe hs rfl rfl)) (fun _ => by kernel_rfl)) ?_
 refine op_ex (d := 56) rfl rfl (o_boxL (cs := #[.slice A_3 (32) (c_2), .slice A_3 (32) (c_2), .pointer none, .bool (false), .int .i64 ((0 : Nat) : Int), .bool (false), .slice A_4 (32) (c_3), .slice A_5 (32) (c_4), .slice A_1 (32) (c_1), .slice A_6 (32) (c_5), .slice none (0) (0)]) rfl (pe hs rfl rfl)) (fun v_3 w_8 hR_8 => ?_)
 obtain ⟨g_1, rfl, hle_1, hB_1, hb_7⟩ := hR_8
 have ge_1 : w.heap.size ≤ g_1 := Nat.le_trans HB_5.size hle_1
 replace ho_1 := ho_1.nx hb_7
 replace hx_1 := hx_1.nx hb_7
 replace ho_2 := ho_2.nx hb_7
 replace ho_3 := ho_3.nx hb_7
 replace ho_4 := ho_4.nx hb_7
 replace ho_5 := ho_5.nx hb_7
 have HB_6 := below_from HB_5 hb_7
 refine q_at (pe hs rfl rfl) ?_
 refine x_nil (hK_8 _ _ ?_)
 refine w2_sr (fun K_9 hK_9 => ?_)
 refine q_mv (pe hs rfl rfl) ?_
 refine q_mv ((pm rfl).trans t0) ?_
 refine q_v 59 (.int .i64 ((t / 2 ^ 8 : Nat) : Int)) (o_shr (m := t) (n := 8) rfl (pe hs rfl rfl) rfl (by decide)) ?_
 refine q_v 60 (.int .u8 (((t / 2 ^ 8) % 256 : Nat) : Int)) (o_conv (m := (t / 2 ^ 8)) (r := (t / 2 ^ 8) % 256) rfl (pe hs rfl rfl) ⟨.int .i64, fun _ => by kernel_rfl⟩ (fun _ => by kernel_rfl) (by rw [IntKind.wrap_u8]; omega)) ?_
 refine q_mv ((pm rfl).trans t0) ?_
 refine q_v 62 (.int .u8 ((t % 256 : Nat) : Int)) (o_conv (m := t) (r := t % 256) rfl (pe hs rfl rfl) ⟨.int .i64, fun _ => by kernel_rfl⟩ (fun _ => by kernel_rfl) (by rw [IntKind.wrap_u8]; omega)) ?_
 refine op_ex (d := 63) rfl rfl (o_build2 (m := (t / 2 ^ 8) % 256) (n := t % 256) rfl (pe hs rfl rfl) (pe hs rfl rfl) (by omega) (by omega)) (fun v_4 w_9 hR_9 => ?_)
 obtain ⟨g_2, rfl, ho_6, hb_8⟩ := hR_9
 replace ho_6 := ho_6.mono HB_6.size
 replace ho_1 := ho_1.nx hb_8
 replace hx_1 := hx_1.nx hb_8
 replace ho_2 := ho_2.nx hb_8
 replace ho_3 := ho_3.nx hb_8
 replace ho_4 := ho_4.nx hb_8
 replace ho_5 := ho_5.nx hb_8
 replace hB_1 := hB_1.nx hb_8
 have HB_7 := below_from HB_6 hb_8
 refine q_ca (vs := #[.pointer (some ⟨g_1, 0, none⟩), .slice ((some ⟨g_2, 0, none⟩)) (2) (2)]) Tryz.func44 (args2 (pe hs rfl rfl) (pe hs rfl rfl)) (mixHash_any _ hB_1 (ho_2).wt (shaL_length _) (ho_6).bs (by simp only [List.length_cons, List.length_nil]) (by omega)) (fun e_6 w_10 hR_10 => ?_)
 obtain ⟨A_7, c_6, rfl, hB_2, ho_7, hX_1⟩ := hR_10
 replace ho_7 := ho_7.mono HB_7.size
 replace ho_1 := ho_1.keepX hB_1 (by decide) hX_1
 replace ho_2 := ho_2.keepX hB_1 (by decide) hX_1
 replace ho_3 := ho_3.keepX hB_1 (by decide) hX_1
 replace ho_4 := ho_4.keepX hB_1 (by decide) hX_1
 replace ho_5 := ho_5.keepX hB_1 (by decide) hX_1
 have HB_8 := hX_1.below HB_7 HB_7.size (fun k hk => hk ▸ ge_1)
 clear hB_1
 refine ⟨_, rfl, ?_⟩
 refine x_nil (hK_9 _ _ ?_)
 refine w2_sr (fun K_10 hK_10 => ?_)
 refine q_mv (pe hs rfl rfl) ?_
 refine q_at (pe hs rfl rfl) ?_
 refine q_as (.int .i64 ((0 : Nat) : Int)) rfl ?_
 refine x_nil (hK_10 _ _ ?_)
 refine w2_ret ?_
 refine ret2 rfl hd (pe hs rfl rfl) (pe hs rfl rfl) ?_
 exact ⟨MX w (fun _ => False) w_10, g_1, rfl, ⟨Lt.mx (fun _ h => h.elim) HB_8.size, ⟨(shaL_length _), (shaL_length _), (by simp only [l0]), (by simp only [l2]), (pubL_length _), (by simp only [l1])⟩, A_3, c_2, A_7, c_6, _, A_4, c_3, A_5, c_4, A_1, c_1, A_6, c_5, none, 0, hB_2, .inr ⟨ge_1, hB_2.lt⟩, ⟨ho_2.wt, fun j hj => .inr ⟨ho_2.ge' j hj, ho_2.lt j hj⟩⟩, ⟨ho_7.wt, fun j hj => .inr ⟨ho_7.ge' j hj, ho_7.lt j hj⟩⟩, ⟨ho_3.wt, fun j hj => .inr ⟨ho_3.ge' j hj, ho_3.lt j hj⟩⟩, ⟨ho_4.wt, fun j hj => .inr ⟨ho_4.ge' j hj, ho_4.lt j hj⟩⟩, ⟨ho_1.wt, fun j hj => .inr ⟨ho_1.ge' j hj, ho_1.lt j hj⟩⟩, ⟨ho_5.wt, fun j hj => .inr ⟨ho_5.ge' j hj, ho_5.lt j hj⟩⟩, ⟨Wt.nil _, fun j hj => absurd hj blkA_none⟩⟩, Ge.mx (fun _ h => h.elim) (Nat.le_refl _), HB_8⟩
theorem Ask_any {Ap : Option Addr} {cp : Nat} {psk : List Nat} {Az : Option Addr} {cz : Nat} {st : List Nat} {Ae : Option Addr} {ce : Nat} {es : List Nat} (t : Nat) (w : World) (h0 : Bs w Ap cp psk) (l0 : psk.length = 32) (h1 : Bs w Az cz st) (l1 : st.length = 32) (h2 : Bs w Ae ce es) (l2 : es.length = 32) (ht : t ≤ 65535) :
  Calls Tryz.prog 22 #[.int .i64 ((t : Nat) : Int), .slice Ap (32) (cp), .slice Az (32) (cz), .slice Ae (32) (ce)] w fun e w' => ∃ (M : Nat → Prop) (g : Nat), e = .returned (.tuple #[.pointer (some ⟨g, 0, none⟩), .int .i64 0]) ∧ HandAt w' M g ⟨shaL nameS, shaL (shaL (shaL nameS ++ [t / 256 % 256, t % 256]) ++ st), psk, es, pubL es, st, [], true, false, 0⟩ ∧ Ge w M ∧ Below w.heap.size w w' := by
 refine x_enter 33 Tryz.func22 rfl rfl (fun a hs hd ha0 => ?_)
 have t0 : a.eval (.tmp 0) = .int .i64 ((t : Nat) : Int) := ha0 0 _ rfl
 have t1 : a.eval (.tmp 1) = .slice Ap (32) (cp) := ha0 1 _ rfl
 have t2 : a.eval (.tmp 2) = .slice Az (32) (cz) := ha0 2 _ rfl
 have t3 : a.eval (.tmp 3) = .slice Ae (32) (ce) := ha0 3 _ rfl
 clear ha0
 refine w2_sr (fun K_1 hK_1 => ?_)
 refine q_as (.pointer none) rfl ?_
 refine q_as (.int .i64 ((0 : Nat) : Int)) rfl ?_
 refine x_nil (hK_1 _ _ ?_)
 refine w2_sr (fun K_2 hK_2 => ?_)
 refine q_mv ((pm rfl).trans t0) ?_
 refine q_mv ((pm rfl).trans t1) ?_
 refine q_mv ((pm rfl).trans t2) ?_
 refine q_mv ((pm rfl).trans t3) ?_
 refine q_ca (vs := #[.int .i64 ((t : Nat) : Int), .slice Ap (32) (cp), .slice Az (32) (cz), .slice Ae (32) (ce)]) Tryz.func43 (args4 (pe hs rfl rfl) (pe hs rfl rfl) (pe hs rfl rfl) (pe hs rfl rfl)) (hbegin_any t _ h0 (by simp only [l0]) h1 (by simp only [l1]) h2 (by simp only [l2]) ht) (fun e_1 w_1 hR_1 => ?_)
 obtain ⟨M_1, g_1, rfl, hH_1, hge_1, hb_1⟩ := hR_1
 obtain ⟨hlt9, ⟨l_ck, l_h, l_psk, l_own, l_pub, l_stc⟩, A_c, c_c, A_h, c_h, v_2, A_p, c_p, A_o, c_o, A_u, c_u, A_z, c_z, A_t, c_t, hB9, hMg9, ⟨w_c, m_c⟩, ⟨w_h, m_h⟩, ⟨w_p, m_p⟩, ⟨w_o, m_o⟩, ⟨w_u, m_u⟩, ⟨w_z, m_z⟩, ⟨w_t, m_t⟩⟩ := hH_1
 dsimp only at l_ck l_h l_psk l_own l_pub l_stc hB9 w_c w_h w_p w_o w_u w_z w_t
 have hgg : w.heap.size ≤ g_1 := hge_1 _ hMg9
 refine ⟨_, rfl, ?_⟩
 refine q_mv (pe hs rfl rfl) ?_
 refine q_ex (v := .pointer (some ⟨g_1, 0, none⟩)) (pe hs rfl rfl) rfl ?_
 refine q_ex (v := .int .i64 ((0 : Nat) : Int)) (pe hs rfl rfl) rfl ?_
 refine q_at (pe hs rfl rfl) ?_
 refine q_at (v := .int .i64 ((0 : Nat) : Int)) (pe hs rfl rfl) ?_
 refine x_nil (hK_2 _ _ ?_)
 refine w2_seq (fun K_3 hK_3 => ?_)
 refine w2_sr (fun K_4 hK_4 => ?_)
 refine q_mv (v := .int .i64 ((0 : Nat) : Int)) (pe hs rfl rfl) ?_
 refine q_v 21 (.bool (false)) (o_eq (o_neq (m := 0) (n := 0) rfl (pe hs rfl rfl) rfl) rfl) ?_
 refine x_nil (hK_4 _ _ ?_)
 refine w2_condF (pe hs rfl rfl) ?_
 refine w2_skip ?_
 refine hK_3 _ _ ?_
 refine w2_sr (fun K_5 hK_5 => ?_)
 refine q_mv (pe hs rfl rfl) ?_
 refine q_mv (pe hs rfl rfl) ?_
 refine q_nc (pe hs rfl rfl) ?_
 refine q_fa 3 (pe hs rfl rfl) ?_
 refine op_do rfl rfl (o_store1 rfl (pe hs rfl rfl) rfl rfl rfl hB9 (by simp only [List.length_cons, List.length_nil]; omega) ⟨by kernel_rfl, by kernel_rfl⟩) (fun w_2 hR_2 => ?_)
 obtain ⟨hB_1, hX_1⟩ := hR_2
 replace w_c := w_c.keepX hB9 (by decide) hX_1
 replace w_h := w_h.keepX hB9 (by decide) hX_1
 replace w_p := w_p.keepX hB9 (by decide) hX_1
 replace w_o := w_o.keepX hB9 (by decide) hX_1
 replace w_u := w_u.keepX hB9 (by decide) hX_1
 replace w_z := w_z.keepX hB9 (by decide) hX_1
 replace w_t := w_t.keepX hB9 (by decide) hX_1
 have HB_1 := hX_1.below hb_1 hb_1.size (fun k hk => hk ▸ hgg)
 clear hB9
 simp only [List.set_cons_zero, List.set_cons_succ] at hB_1
 refine q_nc (pe hs rfl rfl) ?_
 refine q_fa 4 (pe hs rfl rfl) ?_
 refine op_do rfl rfl (o_store1 rfl (pe hs rfl rfl) rfl rfl rfl hB_1 (by simp only [List.length_cons, List.length_nil]; omega) ⟨by kernel_rfl, by kernel_rfl⟩) (fun w_3 hR_3 => ?_)
 obtain ⟨hB_2, hX_2⟩ := hR_3
 replace w_c := w_c.keepX hB_1 (by decide) hX_2
 replace w_h := w_h.keepX hB_1 (by decide) hX_2
 replace w_p := w_p.keepX hB_1 (by decide) hX_2
 replace w_o := w_o.keepX hB_1 (by decide) hX_2
 replace w_u := w_u.keepX hB_1 (by decide) hX_2
 replace w_z := w_z.keepX hB_1 (by decide) hX_2
 replace w_t := w_t.keepX hB_1 (by decide) hX_2
 have HB_2 := hX_2.below HB_1 HB_1.size (fun k hk => hk ▸ hgg)
 clear hB_1
 simp only [List.set_cons_zero, List.set_cons_succ] at hB_2
 refine x_nil (hK_5 _ _ ?_)
 refine w2_sr (fun K_6 hK_6 => ?_)
 refine q_mv (pe hs rfl rfl) ?_
 refine q_mv ((pm rfl).trans t2) ?_
 refine q_ca (vs := #[.pointer (some ⟨g_1, 0, none⟩), .slice Az (32) (cz)]) Tryz.func44 (args2 (pe hs rfl rfl) (pe hs rfl rfl)) (mixHash_any _ hB_2 w_h (by simp only [l_h]) (h1.below HB_2) (by simp only [l1]) (by omega)) (fun e_2 w_4 hR_4 => ?_)
 obtain ⟨A_1, c_1, rfl, hB_3, ho_1, hX_3⟩ := hR_4
 replace ho_1 := ho_1.mono HB_2.size
 replace w_c := w_c.keepX hB_2 (by decide) hX_3
 replace w_p := w_p.keepX hB_2 (by decide) hX_3
 replace w_o := w_o.keepX hB_2 (by decide) hX_3
 replace w_u := w_u.keepX hB_2 (by decide) hX_3
 replace w_z := w_z.keepX hB_2 (by decide) hX_3
 replace w_t := w_t.keepX hB_2 (by decide) hX_3
 have HB_3 := hX_3.below HB_2 HB_2.size (fun k hk => hk ▸ hgg)
 clear hB_2
 refine ⟨_, rfl, ?_⟩
 refine x_nil (hK_6 _ _ ?_)
 refine w2_sr (fun K_7 hK_7 => ?_)
 refine q_mv (pe hs rfl rfl) ?_
 refine q_at (pe hs rfl rfl) ?_
 refine q_as (.int .i64 ((0 : Nat) : Int)) rfl ?_
 refine x_nil (hK_7 _ _ ?_)
 refine w2_ret ?_
 refine ret2 rfl hd (pe hs rfl rfl) (pe hs rfl rfl) ?_
 exact ⟨MX w (fun _ => False) w_4, g_1, rfl, ⟨Lt.mx (fun _ h => h.elim) HB_3.size, ⟨(by simp only [l_ck]), (shaL_length _), (by simp only [l_psk]), (by simp only [l_own]), (by simp only [l_pub]), (by simp only [l_stc])⟩, A_c, c_c, A_1, c_1, _, A_p, c_p, A_o, c_o, A_u, c_u, A_z, c_z, A_t, c_t, hB_3, .inr ⟨hgg, hB_3.lt⟩, ⟨w_c, fun j hj => .inr ⟨hge_1 _ (m_c j hj), w_c.lt j hj⟩⟩, ⟨ho_1.wt, fun j hj => .inr ⟨ho_1.ge' j hj, ho_1.lt j hj⟩⟩, ⟨w_p, fun j hj => .inr ⟨hge_1 _ (m_p j hj), w_p.lt j hj⟩⟩, ⟨w_o, fun j hj => .inr ⟨hge_1 _ (m_o j hj), w_o.lt j hj⟩⟩, ⟨w_u, fun j hj => .inr ⟨hge_1 _ (m_u j hj), w_u.lt j hj⟩⟩, ⟨w_z, fun j hj => .inr ⟨hge_1 _ (m_z j hj), w_z.lt j hj⟩⟩, ⟨w_t, fun j hj => .inr ⟨hge_1 _ (m_t j hj), w_t.lt j hj⟩⟩⟩, Ge.mx (fun _ h => h.elim) (Nat.le_refl _), HB_3⟩
end Go.Proofs.YtodhdajelnfhpaaGreat
