/-
 WALKS: sapperlaw9: awake.
-/
import Derived.Test.YtggalcdkfielkaaAeadMath
import Derived.Test.YtggalcdkfielkaaOpsM
namespace Go.Proofs.Ytggalcdkfielkaa
open Go.RowKit
set_option linter.unusedVariables false
set_option linter.unusedSimpArgs false
set_option maxRecDepth 100000
attribute [local irreducible] wpList wpListIn putsR

theorem Open_back {A B C E : Option Addr} {c d f g m k p q : Nat} {ks ns zs bs : List Nat} (w : World) (ha : Bs w A c ks) (hb : Bs w B d ns) (hc : Bs w C f zs) (he : Bs w E g (sealL ks ns zs bs)) (hm : ks.length = m) (hk : ns.length = k) (hp : zs.length = p) (hq : (sealL ks ns zs bs).length = q + 16) (hm32 : m = 32) (hk12 : k = 12) (hpl : p ≤ 17592186044416) (hql : q + 16 ≤ 17592186044416) :
  Calls Try.prog 12 #[.slice A (m) (c), .slice B (k) (d), .slice C (p) (f), .slice E (q + 16) (g)] w fun e w' => ∃ A c, e = .returned (.tuple #[.slice A q c, .int .i64 0]) ∧ Own w' w.heap.size A c bs ∧ Below w.heap.size w w' := by
 have h := Open_full w ha hb hc he hm hk hp hq hm32 hk12 hpl hql
 rw [openL_sealL] at h
 have e : bs.length = q := by rw [sealL_length] at hq; omega
 dsimp only at h
 rw [e] at h
 exact h
set_option maxHeartbeats 1000000 in
theorem awake_any (w : World) :
  Calls Try.prog 5 #[] w fun e w' => e = .returned (.bool true) ∧ Below w.heap.size w w' := by
 refine x_enter 38 Try.func5 rfl rfl (fun a hs hd ha0 => ?_)
 clear ha0
 refine w2_sr (fun K_1 hK_1 => ?_)
 refine q_as (.bool (false)) rfl ?_
 refine x_nil (hK_1 _ _ ?_)
 refine w2_sr (fun K_2 hK_2 => ?_)
 refine op_ex (d := 6) rfl rfl (o_make (n := 32) rfl rfl rfl (fun _ => by kernel_rfl) (by omega)) (fun v_1 w_1 hR_1 => ?_)
 obtain ⟨g_1, rfl, ho_1, hb_1⟩ := hR_1
 refine q_at (pe hs rfl rfl) ?_
 refine x_nil (hK_2 _ _ ?_)
 refine w2_sr (fun K_3 hK_3 => ?_)
 refine q_mv (pe hs rfl rfl) ?_
 refine q_ca (vs := #[.int .u64 ((1 : Nat) : Int)]) Try.func9 (args1 rfl) (Nonce_any 1 _ (by omega)) (fun e_1 w_2 hR_2 => ?_)
 obtain ⟨A_1, c_1, rfl, ho_2, hb_2⟩ := hR_2
 replace ho_2 := ho_2.mono hb_1.size
 replace ho_1 := ho_1.nx hb_2
 have HB_1 := below_from hb_1 hb_2
 refine ⟨_, rfl, ?_⟩
 refine op_ex (d := 10) rfl rfl (o_lit3 (m := 97) (n := 98) (p := 99) rfl rfl rfl rfl) (fun v_2 w_3 hR_3 => ?_)
 obtain ⟨rfl, rfl⟩ := hR_3
 refine op_ex (d := 11) rfl rfl (o_mark (n := 3) (xs := [97, 98, 99]) rfl (pe hs rfl rfl) rfl (by decide) (by omega)) (fun v_3 w_4 hR_4 => ?_)
 obtain ⟨A_2, rfl, hx_1, hb_3⟩ := hR_4
 replace ho_1 := ho_1.nx hb_3
 replace ho_2 := ho_2.nx hb_3
 have HB_2 := below_from HB_1 hb_3
 refine q_ca (vs := #[.slice ((some ⟨g_1, 0, none⟩)) (32) (32), .slice A_1 (12) (c_1), .slice none (0) (0), .slice A_2 (3) (3)]) Try.func7 (args4 (pe hs rfl rfl) (pe hs rfl rfl) rfl (pe hs rfl rfl)) (Seal_full _ (ho_1).bs (ho_2).bs (Bs.nil _) hx_1 (by simp only [List.length_replicate]) (by simp only [nonceL_length]) (by simp only [List.length_nil]) (by simp only [List.length_cons, List.length_nil]) rfl rfl (by omega) (by omega)) (fun e_2 w_5 hR_5 => ?_)
 obtain ⟨A_3, c_2, rfl, ho_3, hb_4⟩ := hR_5
 replace ho_3 := ho_3.mono HB_2.size
 replace ho_1 := ho_1.nx hb_4
 replace hx_1 := hx_1.nx hb_4
 have HB_3 := below_from HB_2 hb_4
 refine ⟨_, rfl, ?_⟩
 refine q_mv (pe hs rfl rfl) ?_
 refine q_ex (v := .slice A_3 (3 + 16) (c_2)) (pe hs rfl rfl) rfl ?_
 refine q_ex (v := .int .i64 ((0 : Nat) : Int)) (pe hs rfl rfl) rfl ?_
 refine q_at (pe hs rfl rfl) ?_
 refine q_at (v := .int .i64 ((0 : Nat) : Int)) (pe hs rfl rfl) ?_
 refine x_nil (hK_3 _ _ ?_)
 refine w2_sr (fun K_4 hK_4 => ?_)
 refine q_mv (pe hs rfl rfl) ?_
 refine q_ca (vs := #[.int .u64 ((1 : Nat) : Int)]) Try.func9 (args1 rfl) (Nonce_any 1 _ (by omega)) (fun e_3 w_6 hR_6 => ?_)
 obtain ⟨A_4, c_3, rfl, ho_4, hb_5⟩ := hR_6
 replace ho_4 := ho_4.mono HB_3.size
 replace ho_1 := ho_1.nx hb_5
 replace hx_1 := hx_1.nx hb_5
 replace ho_3 := ho_3.nx hb_5
 have HB_4 := below_from HB_3 hb_5
 refine ⟨_, rfl, ?_⟩
 refine q_mv (pe hs rfl rfl) ?_
 refine q_ca (vs := #[.slice ((some ⟨g_1, 0, none⟩)) (32) (32), .slice A_4 (12) (c_3), .slice none (0) (0), .slice A_3 (3 + 16) (c_2)]) Try.func12 (args4 (pe hs rfl rfl) (pe hs rfl rfl) rfl (pe hs rfl rfl)) (Open_back _ (ho_1).bs (ho_4).bs (Bs.nil _) (ho_3).bs (by simp only [List.length_replicate]) (by simp only [nonceL_length]) (by simp only [List.length_nil]) (by simp only [sealL_length, List.length_cons, List.length_nil]) rfl rfl (by omega) (by omega)) (fun e_4 w_7 hR_7 => ?_)
 obtain ⟨A_5, c_4, rfl, ho_5, hb_6⟩ := hR_7
 replace ho_5 := ho_5.mono HB_4.size
 replace hx_1 := hx_1.nx hb_6
 have HB_5 := below_from HB_4 hb_6
 refine ⟨_, rfl, ?_⟩
 refine q_mv (pe hs rfl rfl) ?_
 refine q_ex (v := .slice A_5 (3) (c_4)) (pe hs rfl rfl) rfl ?_
 refine q_ex (v := .int .i64 ((0 : Nat) : Int)) (pe hs rfl rfl) rfl ?_
 refine q_at (pe hs rfl rfl) ?_
 refine q_at (v := .int .i64 ((0 : Nat) : Int)) (pe hs rfl rfl) ?_
 refine x_nil (hK_4 _ _ ?_)
 refine w2_sr (fun K_5 hK_5 => ?_)
 refine q_mv (v := .int .i64 ((0 : Nat) : Int)) (pe hs rfl rfl) ?_
 refine q_v 23 (.bool (true)) (o_eq (o_eql (m := 0) (n := 0) rfl (pe hs rfl rfl) rfl) rfl) ?_
 refine q_mv (pe hs rfl rfl) ?_
 refine op_valG (e := 24) (d := 25) (v := .int .i64 ((0 : Nat) : Int)) rfl rfl (by kernel_rfl) (pe hs rfl rfl) (o_move rfl (pe hs rfl rfl)) ?_
 refine op_valG (e := 24) (d := 26) (v := .bool (true)) rfl rfl (by kernel_rfl) (pe hs rfl rfl) (o_eq (o_eql (m := 0) (n := 0) rfl (pe hs rfl rfl) rfl) rfl) ?_
 refine q_v 27 (.bool (true)) (o_pickT rfl (pe hs rfl rfl) (pe hs rfl rfl)) ?_
 refine q_mv (pe hs rfl rfl) ?_
 refine op_valG (e := 28) (d := 29) (v := .slice A_3 (3 + 16) (c_2)) rfl rfl (by kernel_rfl) (pe hs rfl rfl) (o_move rfl (pe hs rfl rfl)) ?_
 refine op_valG (e := 28) (d := 30) (v := .int .i64 ((3 + 16 : Nat) : Int)) rfl rfl (by kernel_rfl) (pe hs rfl rfl) (o_len rfl (pe hs rfl rfl)) ?_
 refine op_valG (e := 28) (d := 31) (v := .bool (true)) rfl rfl (by kernel_rfl) (pe hs rfl rfl) (o_eq (o_eql (m := (3 + 16)) (n := 19) rfl (pe hs rfl rfl) rfl) rfl) ?_
 refine q_v 32 (.bool (true)) (o_pickT rfl (pe hs rfl rfl) (pe hs rfl rfl)) ?_
 refine q_mv (pe hs rfl rfl) ?_
 refine op_valG (e := 33) (d := 34) (v := .slice A_5 (3) (c_4)) rfl rfl (by kernel_rfl) (pe hs rfl rfl) (o_move rfl (pe hs rfl rfl)) ?_
 refine op_valG (e := 33) (d := 35) (v := .string (strB (([97, 98, 99])))) rfl rfl (by kernel_rfl) (pe hs rfl rfl) (o_str rfl (pe hs rfl rfl) (ho_5).bs (by simp only [List.length_cons, List.length_nil])) ?_
 refine op_valG (e := 33) (d := 36) (v := .bool (true)) rfl rfl (by kernel_rfl) (pe hs rfl rfl) (o_eqS rfl (pe hs rfl rfl) rfl rfl) ?_
 refine q_v 37 (.bool (true)) (o_pickT rfl (pe hs rfl rfl) (pe hs rfl rfl)) ?_
 refine q_at (pe hs rfl rfl) ?_
 refine x_nil (hK_5 _ _ ?_)
 refine w2_ret ?_
 refine ret1 rfl hd (pe hs rfl rfl) ?_
 exact ⟨rfl, HB_5⟩
end Go.Proofs.Ytggalcdkfielkaa
