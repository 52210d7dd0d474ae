/-
  WALKS: curve.Base; sapperlaw6.CurveMeets, CurveThree.
-/
import Derived.Test.YtdjdfmnjoilmkaaOrder
import Derived.Test.YtdjdfmnjoilmkaaRow
namespace Go.Proofs.Ytdjdfmnjoilmkaa
open Go.RowKit
set_option linter.unusedVariables false
set_option linter.unusedSimpArgs false
set_option maxRecDepth 100000
set_option linter.constructorNameAsVariable false

theorem Mult_pl {A B : Option Addr} {c d n : Nat} {ks us : List Nat} (w : World) (ha : Bs w A c ks) (hb : Bs w B d us) (hk : ks.length = 32) (hm : us.length = 32) (hn : ¬ ell ∣ n) (hu : numL us = plN n) :
    Calls Try.prog 34 #[.slice A 32 c, .slice B 32 d] w fun e w' => ∃ g c', e = .returned (.tuple #[.slice (some ⟨g, 0, none⟩) 32 c', .int .i64 0]) ∧ Own w' w.heap.size (some ⟨g, 0, none⟩) c' (byteL (plN (secN ks * n)).val) ∧ Below w.heap.size w w' := by
  refine (Mult_any w ha hb hk hm).mono fun e w' ⟨h, hB⟩ => ?_
  unfold MultPost at h
  rw [xmul_pl ks hn hu, if_neg (plN_ne (mul_good (sec_good ks hk ha.b8) hn))] at h
  obtain ⟨A', c', he, hO⟩ := h
  obtain ⟨g, rfl, _⟩ := hO.at (by rw [byteL_length]; omega)
  exact ⟨g, c', he, hO, hB⟩

theorem nineL_len : nineL.length = 32 := by decide
theorem nineL_lt : ∀ x ∈ nineL, x < 256 := by decide

set_option maxHeartbeats 2000000 in
theorem Base_any {A : Option Addr} {c : Nat} {ks : List Nat} (w : World) (ha : Bs w A c ks) (hk : ks.length = 32) :
    Calls Try.prog 39 #[.slice A 32 c] w fun e w' => ∃ g c', e = .returned (.tuple #[.slice (some ⟨g, 0, none⟩) 32 c', .int .i64 0]) ∧ Own w' w.heap.size (some ⟨g, 0, none⟩) c' (byteL (plN (secN ks)).val) ∧ Below w.heap.size w w' := by
  have hmk := mk32z
  have HA := hidd ha
  have HK := hidd hk
  clear ha hk
  go_enter Try.func39, Try.ntmps39
  go_wp2_with fail
  have BU : Blk (w.alloc (.cells (u8s nineL).toArray 5)) w.heap.size (u8s nineL).toArray 5 := Blk.new _ _ _
  have HB : Below w.heap.size w (w.alloc (.cells (u8s nineL).toArray 5)) := (Below.refl _ _).alloc (Nat.le_refl _) _
  change Calls Try.prog _ _ (w.alloc (.cells (u8s nineL).toArray 5)) _
  generalize (w.alloc (.cells (u8s nineL).toArray 5)) = w1 at *
  refine Calls.mono (Mult_any _ (HA.out.below HB) (Bs_of_Blk BU nineL_lt (by rw [nineL_len]; omega)) HK.out nineL_len) ?_
  rintro e w2 ⟨h, hb2⟩
  unfold MultPost at h
  rw [xmul_base, if_neg (plN_ne (sec_good _ HK.out HA.out.b8))] at h
  obtain ⟨A', c', rfl, hO⟩ := h
  obtain ⟨g, rfl, _⟩ := hO.at (by rw [byteL_length]; omega)
  replace hO := hidd (hO.mono HB.size)
  replace HB := below_from HB hb2
  clear hb2 BU
  dsimp only
  go_wp2_with fail
  go_ret2
  exact ⟨g, c', rfl, hO.out, HB⟩

theorem Own.ge {w : World} {base g c : Nat} {xs : List Nat} (h : Own w base (some ⟨g, 0, none⟩) c xs) (h0 : 0 < xs.length) : base ≤ g ∧ g < w.heap.size := by
  obtain ⟨g', hg, h1, h2, _⟩ := h.at h0
  simp only [Option.some.injEq, Addr.mk.injEq, and_true] at hg
  subst hg
  exact ⟨h1, h2⟩
theorem Bs.ltw {w : World} {g c : Nat} {xs : List Nat} (h : Bs w (some ⟨g, 0, none⟩) c xs) (h0 : 0 < xs.length) : g < w.heap.size := by
  obtain ⟨b, off, hA, hc⟩ := h.at h0
  simp only [Option.some.injEq, Addr.mk.injEq, and_true] at hA
  obtain ⟨rfl, rfl⟩ := hA
  exact World.block_lt_of_cell? w _ hc
theorem Bs.set_other {w : World} {g g' j c : Nat} {v : Value} {xs : List Nat} (h : Bs w (some ⟨g, 0, none⟩) c xs) (hne : g ≠ g') : Bs (w.setCell ⟨g', j, none⟩ v) (some ⟨g, 0, none⟩) c xs := by
  refine ⟨h.le, h.max, h.b8, ?_⟩
  rcases h.cells with h0 | ⟨b, off, hA, hc⟩
  · exact .inl h0
  · simp only [Option.some.injEq, Addr.mk.injEq, and_true] at hA
    obtain ⟨rfl, rfl⟩ := hA
    refine .inr ⟨g, 0, rfl, fun i hi => ?_⟩
    rw [← hc i hi]
    unfold World.cell?
    rw [Below.heap_setCell w _ _ _ hne]

theorem byteL_8 (x : F) : ∀ y ∈ byteL x.val, y < 256 := byteL_lt _
theorem flip_lt {zs : List Nat} (h8 : ∀ z ∈ zs, z < 256) (z : Nat) (hz : z < 256) : ∀ y ∈ zs.set 31 (z ^^^ 128), y < 256 := by
  intro y hy
  rcases List.mem_or_eq_of_mem_set hy with h | h
  · exact h8 y h
  · rw [h]; exact Nat.xor_lt_two_pow (n := 8) hz (by omega)

set_option maxHeartbeats 8000000 in
theorem CurveMeets_any {A B : Option Addr} {c d : Nat} {xs ys : List Nat} (w : World) (ha : Bs w A c xs) (hb : Bs w B d ys) :
    Calls Try.prog 13 #[.slice A xs.length c, .slice B ys.length d] w fun e w' => e = .returned (.bool true) ∧ Below w.heap.size w w' := by
  have HA8 := hidd ha.b8
  have HB8 := hidd hb.b8
  have HSA := hidd ha
  have HSB := hidd hb
  obtain ⟨n, hn⟩ : ∃ n : Nat, xs.length = n := ⟨_, rfl⟩
  obtain ⟨m, hm⟩ : ∃ n : Nat, ys.length = n := ⟨_, rfl⟩
  rw [hn, hm]
  have HN := hidd hn
  have HM := hidd hm
  clear ha hb hn hm
  by_cases g0 : (32 : Int) < (n : Int)
  · go_enter Try.func13, Try.ntmps13
    go_wp2_with fail
    refine Calls.mono (awake6_any _) ?_
    rintro e w1 ⟨rfl, hb1⟩
    dsimp only; go_wp2_with fail
    go_ret
    exact ⟨rfl, by repeat' first | (with_reducible exact Below.refl _ _) | (with_reducible refine Below.setCell ?_ (by first | (simp; done) | (simp; omega) | omega) _) | (with_reducible refine Below.alloc ?_ (by first | (simp; done) | (simp; omega) | omega) _) | (with_reducible refine Below.drew ?_) | (with_reducible refine Below.trans ?_ (Below.mono (by assumption) (by first | (simp; done) | (simp; omega) | omega)))⟩
  · by_cases g1 : (32 : Int) < (m : Int)
    · go_enter Try.func13, Try.ntmps13
      go_wp2_with fail
      refine Calls.mono (awake6_any _) ?_
      rintro e w1 ⟨rfl, hb1⟩
      dsimp only; go_wp2_with fail
      go_ret
      exact ⟨rfl, by repeat' first | (with_reducible exact Below.refl _ _) | (with_reducible refine Below.setCell ?_ (by first | (simp; done) | (simp; omega) | omega) _) | (with_reducible refine Below.alloc ?_ (by first | (simp; done) | (simp; omega) | omega) _) | (with_reducible refine Below.drew ?_) | (with_reducible refine Below.trans ?_ (Below.mono (by assumption) (by first | (simp; done) | (simp; omega) | omega)))⟩
    · go_enter Try.func13, Try.ntmps13
      go_wp2_with fail
      refine Calls.mono (Key6_n HN.out _ (Bs.under HSA (Below.refl _ _))) ?_
      rintro e w1 ⟨gx, rfl, hx, hb1⟩
      have HB : Below w.heap.size w w1 := hb1
      obtain ⟨ps, HP⟩ : ∃ zs, Hid (padTo 32 xs = zs) := ⟨_, hidd rfl⟩
      have hpl := hidd (show ps.length = 32 by rw [← HP.out]; exact padTo_length _ _)
      have hp8 := hidd (show ∀ z ∈ ps, z < 256 by rw [← HP.out]; exact padTo_lt HA8.out)
      rw [HP.out] at hx
      have X := hidd hx.bs
      clear hb1 hx
      dsimp only; go_wp2_with fail
      refine Calls.mono (Key6_n HM.out _ (Bs.under HSB HB)) ?_
      rintro e w2 ⟨gy, rfl, hy, hb1⟩
      replace HB := below_from HB hb1
      obtain ⟨qs, HQ⟩ : ∃ zs, Hid (padTo 32 ys = zs) := ⟨_, hidd rfl⟩
      have hql := hidd (show qs.length = 32 by rw [← HQ.out]; exact padTo_length _ _)
      have hq8 := hidd (show ∀ z ∈ qs, z < 256 by rw [← HQ.out]; exact padTo_lt HB8.out)
      rw [HQ.out] at hy
      have Y := hidd hy.bs
      replace X := hidd (X.out.below hb1)
      clear hb1 hy
      dsimp only; go_wp2_with fail
      obtain ⟨a, Ha⟩ : ∃ a, Hid (secN ps = a) := ⟨_, hidd rfl⟩
      obtain ⟨b, Hb⟩ : ∃ b, Hid (secN qs = b) := ⟨_, hidd rfl⟩
      have ga := hidd (show ¬ ell ∣ a by rw [← Ha.out]; exact sec_good ps hpl.out hp8.out)
      have gb := hidd (show ¬ ell ∣ b by rw [← Hb.out]; exact sec_good qs hql.out hq8.out)
      refine Calls.mono (Base_any _ X.out hpl.out) ?_
      rintro e w3 ⟨gp, cp, rfl, hp, hb1⟩
      rw [Ha.out] at hp
      replace HB := below_from HB hb1
      replace X := hidd (X.out.below hb1)
      replace Y := hidd (Y.out.below hb1)
      replace hp := hidd hp.bs
      clear hb1
      dsimp only; go_wp2_with fail
      refine Calls.mono (Base_any _ Y.out hql.out) ?_
      rintro e w4 ⟨gq, cq, rfl, hq, hb1⟩
      rw [Hb.out] at hq
      have hq0 := hidd HB.size
      have hqg := hq.ge (by rw [byteL_length]; omega)
      have nxq : gx ≠ gq := by have h1 := X.out.ltw (by rw [hpl.out]; omega); omega
      have npq : gp ≠ gq := by have h1 := hp.out.ltw (by rw [byteL_length]; omega); omega
      replace HB := below_from HB hb1
      replace X := hidd (X.out.below hb1)
      replace Y := hidd (Y.out.below hb1)
      replace hp := hidd (hp.out.below hb1)
      replace hq := hidd (hq.mono hq0.out)
      clear hb1 hq0
      dsimp only; go_wp2_with fail
      refine Calls.mono (Mult_pl _ X.out hq.out.bs hpl.out (byteL_length _) gb.out (numL_byteL _)) ?_
      rintro e w5 ⟨gs, cs, rfl, hs, hb1⟩
      rw [Ha.out] at hs
      replace HB := below_from HB hb1
      replace X := hidd (X.out.below hb1)
      replace Y := hidd (Y.out.below hb1)
      replace hp := hidd (hp.out.below hb1)
      replace hq := hidd (hq.out.below hb1)
      have nsq : gs ≠ gq := by have h1 := hs.ge (by rw [byteL_length]; omega); omega
      have hq5 := hq.out.ge (by rw [byteL_length]; omega)
      replace hs := hidd hs.bs
      clear hb1
      dsimp only; go_wp2_with fail
      refine Calls.mono (Mult_pl _ Y.out hp.out hql.out (byteL_length _) ga.out (numL_byteL _)) ?_
      rintro e w6 ⟨gt, ct, rfl, ht, hb1⟩
      rw [Hb.out, Nat.mul_comm] at ht
      replace HB := below_from HB hb1
      replace X := hidd (X.out.below hb1)
      replace hp := hidd (hp.out.below hb1)
      replace hq := hidd (hq.out.below hb1)
      replace hs := hidd (hs.out.below hb1)
      have ntq : gt ≠ gq := by have h1 := ht.ge (by rw [byteL_length]; omega); omega
      replace ht := hidd ht.bs
      clear hb1 Y
      dsimp only; go_wp2_with fail
      refine Calls.mono (Clamp_any _ X.out hpl.out) ?_
      rintro e w7 ⟨gc, cc, rfl, hc, hb1⟩
      replace HB := below_from HB hb1
      replace X := hidd (X.out.below hb1)
      replace hp := hidd (hp.out.below hb1)
      replace hq := hidd (hq.out.below hb1)
      replace hs := hidd (hs.out.below hb1)
      replace ht := hidd (ht.out.below hb1)
      replace hc := hidd hc.bs
      clear hb1
      dsimp only; go_wp2_with fail
      refine Calls.mono (Base_any _ hc.out (by rw [clampL_length]; exact hpl.out)) ?_
      have hq7 := hq.out.ge (by rw [byteL_length]; omega)
      rintro e w8 ⟨gu, cu, rfl, hu, hb1⟩
      have nuq : gu ≠ gq := by have h1 := hu.ge (by rw [byteL_length]; omega); omega
      have hsec : secN (clampL ps) = a := by rw [← Ha.out]; unfold secN; rw [clamp_clamp hpl.out hp8.out]
      rw [hsec] at hu
      clear hsec
      replace HB := below_from HB hb1
      replace X := hidd (X.out.below hb1)
      replace hp := hidd (hp.out.below hb1)
      replace hq := hidd (hq.out.below hb1)
      replace hs := hidd (hs.out.below hb1)
      replace ht := hidd (ht.out.below hb1)
      replace hu := hidd hu.bs
      have hqg8 := hq.out.ge (by rw [byteL_length]; omega)
      clear hb1 hc hq5 hq7
      obtain ⟨gq', hgq', _, _, hqc, hqf, hqs⟩ := hq.out.at (by rw [byteL_length]; omega)
      simp only [Option.some.injEq, Addr.mk.injEq, and_true] at hgq'
      subst hgq'
      obtain ⟨z, hz, hz8⟩ : ∃ z : Nat, (byteL (plN b).val).getD 31 0 = z ∧ z < 256 := ⟨_, rfl, getD_lt (byteL_lt _) 31⟩
      have hcz := hqc 31 (by rw [byteL_length]; omega)
      rw [hz] at hcz
      have hfz := hqf 31
      have hfl := numL_flip (byteL_length (plN b).val) (byteL_lt _)
      rw [hz, numL_byteL] at hfl
      have HFL := hidd hfl
      have hqo := hqs 31 (z ^^^ 128) (by rw [byteL_length]; omega) (Nat.xor_lt_two_pow (n := 8) hz8 (by omega))
      have HQO := hidd hqo
      have ez : bits .xor .u8 (z : Int) 128 = ((z ^^^ 128 : Nat) : Int) := u8_xor_nat z 128 hz8 (by omega)
      clear hqc hqf hqs hz hfl hqo
      dsimp only
      go_wp2_with fail
      clear hcz hfz ez
      replace X := hidd (X.out.set_other (j := 31) (v := .int .u8 ((z ^^^ 128 : Nat) : Int)) nxq)
      replace hp := hidd (hp.out.set_other (j := 31) (v := .int .u8 ((z ^^^ 128 : Nat) : Int)) npq)
      replace hs := hidd (hs.out.set_other (j := 31) (v := .int .u8 ((z ^^^ 128 : Nat) : Int)) nsq)
      replace ht := hidd (ht.out.set_other (j := 31) (v := .int .u8 ((z ^^^ 128 : Nat) : Int)) ntq)
      replace hu := hidd (hu.out.set_other (j := 31) (v := .int .u8 ((z ^^^ 128 : Nat) : Int)) nuq)
      replace HB := HB.setCell (p := ⟨gq, 31, none⟩) hqg8.1 (.int .u8 ((z ^^^ 128 : Nat) : Int))
      generalize (w8.setCell ⟨gq, 31, none⟩ (.int .u8 ((z ^^^ 128 : Nat) : Int))) = w9 at *
      refine Calls.mono (Mult_pl _ X.out HQO.out.bs hpl.out (by rw [List.length_set]; exact byteL_length _) gb.out HFL.out) ?_
      rintro e w10 ⟨gv, cv, rfl, hv, hb1⟩
      rw [Ha.out] at hv
      replace HB := below_from HB hb1
      replace hp := hp.out.below hb1
      replace hs := hs.out.below hb1
      replace ht := ht.out.below hb1
      replace hu := hu.out.below hb1
      have vs := conv_str hs
      have vt := conv_str ht
      have vu := conv_str hu
      have vp := conv_str hp
      have vv := conv_str hv.bs
      rw [byteL_length] at vs vt vu vp vv
      clear hp hs ht hu hv hb1 X HQO HFL hqg8 nuq ntq nsq npq nxq hq
      dsimp only
      go_wp2_with fail
      refine Calls.mono (awake6_any _) ?_
      rintro e w11 ⟨rfl, hb1⟩
      replace HB := below_from HB hb1
      clear vs vt vu vp vv hb1
      dsimp only
      go_wp2_with fail
      go_ret
      exact ⟨rfl, HB⟩
set_option maxHeartbeats 8000000 in
theorem CurveThree_any {A B C : Option Addr} {c d e0 : Nat} {xs ys zs : List Nat} (w : World) (ha : Bs w A c xs) (hb : Bs w B d ys) (hc : Bs w C e0 zs) :
    Calls Try.prog 14 #[.slice A xs.length c, .slice B ys.length d, .slice C zs.length e0] w fun e w' => e = .returned (.bool true) ∧ Below w.heap.size w w' := by
  have H80 := hidd ha.b8
  have S0 := hidd ha
  obtain ⟨n, hn0⟩ : ∃ n : Nat, xs.length = n := ⟨_, rfl⟩
  have H81 := hidd hb.b8
  have S1 := hidd hb
  obtain ⟨m, hn1⟩ : ∃ n : Nat, ys.length = n := ⟨_, rfl⟩
  have H82 := hidd hc.b8
  have S2 := hidd hc
  obtain ⟨l, hn2⟩ : ∃ n : Nat, zs.length = n := ⟨_, rfl⟩
  rw [hn0, hn1, hn2]
  have N0 := hidd hn0
  have N1 := hidd hn1
  have N2 := hidd hn2
  clear ha hb hc hn0 hn1 hn2
  by_cases g0 : (32 : Int) < (n : Int)
  · go_enter Try.func14, Try.ntmps14
    go_wp2_with fail
    refine Calls.mono (awake6_any _) ?_
    rintro e w1 ⟨rfl, hb1⟩
    dsimp only; go_wp2_with fail
    go_ret
    exact ⟨rfl, by repeat' first | (with_reducible exact Below.refl _ _) | (with_reducible refine Below.setCell ?_ (by first | (simp; done) | (simp; omega) | omega) _) | (with_reducible refine Below.alloc ?_ (by first | (simp; done) | (simp; omega) | omega) _) | (with_reducible refine Below.drew ?_) | (with_reducible refine Below.trans ?_ (Below.mono (by assumption) (by first | (simp; done) | (simp; omega) | omega)))⟩
  · skip
    by_cases g1 : (32 : Int) < (m : Int)
    · go_enter Try.func14, Try.ntmps14
      go_wp2_with fail
      refine Calls.mono (awake6_any _) ?_
      rintro e w1 ⟨rfl, hb1⟩
      dsimp only; go_wp2_with fail
      go_ret
      exact ⟨rfl, by repeat' first | (with_reducible exact Below.refl _ _) | (with_reducible refine Below.setCell ?_ (by first | (simp; done) | (simp; omega) | omega) _) | (with_reducible refine Below.alloc ?_ (by first | (simp; done) | (simp; omega) | omega) _) | (with_reducible refine Below.drew ?_) | (with_reducible refine Below.trans ?_ (Below.mono (by assumption) (by first | (simp; done) | (simp; omega) | omega)))⟩
    · skip
      by_cases g2 : (32 : Int) < (l : Int)
      · go_enter Try.func14, Try.ntmps14
        go_wp2_with fail
        refine Calls.mono (awake6_any _) ?_
        rintro e w1 ⟨rfl, hb1⟩
        dsimp only; go_wp2_with fail
        go_ret
        exact ⟨rfl, by repeat' first | (with_reducible exact Below.refl _ _) | (with_reducible refine Below.setCell ?_ (by first | (simp; done) | (simp; omega) | omega) _) | (with_reducible refine Below.alloc ?_ (by first | (simp; done) | (simp; omega) | omega) _) | (with_reducible refine Below.drew ?_) | (with_reducible refine Below.trans ?_ (Below.mono (by assumption) (by first | (simp; done) | (simp; omega) | omega)))⟩
      · skip
        obtain ⟨ps, P0⟩ : ∃ l, Hid (padTo 32 xs = l) := ⟨_, hidd rfl⟩
        have pl0 := hidd (show ps.length = 32 by rw [← P0.out]; exact padTo_length _ _)
        have p80 := hidd (show ∀ z ∈ ps, z < 256 by rw [← P0.out]; exact padTo_lt H80.out)
        obtain ⟨na, T0⟩ : ∃ a, Hid (secN ps = a) := ⟨_, hidd rfl⟩
        have G0 := hidd (show ¬ ell ∣ na by rw [← T0.out]; exact sec_good ps pl0.out p80.out)
        obtain ⟨qs, P1⟩ : ∃ l, Hid (padTo 32 ys = l) := ⟨_, hidd rfl⟩
        have pl1 := hidd (show qs.length = 32 by rw [← P1.out]; exact padTo_length _ _)
        have p81 := hidd (show ∀ z ∈ qs, z < 256 by rw [← P1.out]; exact padTo_lt H81.out)
        obtain ⟨nb, T1⟩ : ∃ a, Hid (secN qs = a) := ⟨_, hidd rfl⟩
        have G1 := hidd (show ¬ ell ∣ nb by rw [← T1.out]; exact sec_good qs pl1.out p81.out)
        obtain ⟨rs, P2⟩ : ∃ l, Hid (padTo 32 zs = l) := ⟨_, hidd rfl⟩
        have pl2 := hidd (show rs.length = 32 by rw [← P2.out]; exact padTo_length _ _)
        have p82 := hidd (show ∀ z ∈ rs, z < 256 by rw [← P2.out]; exact padTo_lt H82.out)
        obtain ⟨nc, T2⟩ : ∃ a, Hid (secN rs = a) := ⟨_, hidd rfl⟩
        have G2 := hidd (show ¬ ell ∣ nc by rw [← T2.out]; exact sec_good rs pl2.out p82.out)
        have HB : Below w.heap.size w w := Below.refl _ _
        go_enter Try.func14, Try.ntmps14
        go_wp2_with fail
        refine Calls.mono (Key6_n N0.out _ (Bs.under S0 HB)) ?_
        rintro e w1 ⟨gk, rfl, hk, hb1⟩
        rw [P0.out] at hk
        replace HB := below_from HB hb1
        replace hk := hidd hk.bs
        clear hb1
        dsimp only; go_wp2_with fail
        refine Calls.mono (Base_any _ hk.out pl0.out) ?_
        rintro e w2 ⟨ghx, chx, rfl, hx, hb1⟩
        rw [T0.out] at hx
        replace hx := hidd hx.bs
        replace HB := below_from HB hb1
        clear hb1 hk
        dsimp only; go_wp2_with fail
        refine Calls.mono (Key6_n N2.out _ (Bs.under S2 HB)) ?_
        rintro e w3 ⟨gk, rfl, hk, hb1⟩
        rw [P2.out] at hk
        replace HB := below_from HB hb1
        replace hx := hidd (hx.out.below hb1)
        replace hk := hidd hk.bs
        clear hb1
        dsimp only; go_wp2_with fail
        refine Calls.mono (Base_any _ hk.out pl2.out) ?_
        rintro e w4 ⟨ghy, chy, rfl, hy, hb1⟩
        rw [T2.out] at hy
        replace hx := hidd (hx.out.below hb1)
        replace hy := hidd hy.bs
        replace HB := below_from HB hb1
        clear hb1 hk
        dsimp only; go_wp2_with fail
        refine Calls.mono (Key6_n N1.out _ (Bs.under S1 HB)) ?_
        rintro e w5 ⟨gk, rfl, hk, hb1⟩
        rw [P1.out] at hk
        replace HB := below_from HB hb1
        replace hx := hidd (hx.out.below hb1)
        replace hy := hidd (hy.out.below hb1)
        replace hk := hidd hk.bs
        clear hb1
        dsimp only; go_wp2_with fail
        refine Calls.mono (Mult_pl _ hk.out hx.out pl1.out (byteL_length _) G0.out (numL_byteL _)) ?_
        rintro e w6 ⟨ghp, chp, rfl, hp, hb1⟩
        rw [T1.out] at hp
        replace hx := hidd (hx.out.below hb1)
        replace hy := hidd (hy.out.below hb1)
        replace hp := hidd hp.bs
        replace HB := below_from HB hb1
        clear hb1 hk
        dsimp only; go_wp2_with fail
        refine Calls.mono (Key6_n N1.out _ (Bs.under S1 HB)) ?_
        rintro e w7 ⟨gk, rfl, hk, hb1⟩
        rw [P1.out] at hk
        replace HB := below_from HB hb1
        replace hx := hidd (hx.out.below hb1)
        replace hy := hidd (hy.out.below hb1)
        replace hp := hidd (hp.out.below hb1)
        replace hk := hidd hk.bs
        clear hb1
        dsimp only; go_wp2_with fail
        refine Calls.mono (Mult_pl _ hk.out hy.out pl1.out (byteL_length _) G2.out (numL_byteL _)) ?_
        rintro e w8 ⟨ghq, chq, rfl, hq, hb1⟩
        rw [T1.out] at hq
        replace hx := hidd (hx.out.below hb1)
        replace hy := hidd (hy.out.below hb1)
        replace hp := hidd (hp.out.below hb1)
        replace hq := hidd hq.bs
        replace HB := below_from HB hb1
        clear hb1 hk
        dsimp only; go_wp2_with fail
        refine Calls.mono (Key6_n N2.out _ (Bs.under S2 HB)) ?_
        rintro e w9 ⟨gk, rfl, hk, hb1⟩
        rw [P2.out] at hk
        replace HB := below_from HB hb1
        replace hx := hidd (hx.out.below hb1)
        replace hy := hidd (hy.out.below hb1)
        replace hp := hidd (hp.out.below hb1)
        replace hq := hidd (hq.out.below hb1)
        replace hk := hidd hk.bs
        clear hb1
        dsimp only; go_wp2_with fail
        refine Calls.mono (Mult_pl _ hk.out hp.out pl2.out (byteL_length _) (mul_good G1.out G0.out) (numL_byteL _)) ?_
        rintro e w10 ⟨ghs, chs, rfl, hs, hb1⟩
        rw [T2.out] at hs
        replace hx := hidd (hx.out.below hb1)
        replace hy := hidd (hy.out.below hb1)
        replace hp := hidd (hp.out.below hb1)
        replace hq := hidd (hq.out.below hb1)
        replace hs := hidd hs.bs
        replace HB := below_from HB hb1
        clear hb1 hk
        dsimp only; go_wp2_with fail
        refine Calls.mono (Key6_n N0.out _ (Bs.under S0 HB)) ?_
        rintro e w11 ⟨gk, rfl, hk, hb1⟩
        rw [P0.out] at hk
        replace HB := below_from HB hb1
        replace hx := hidd (hx.out.below hb1)
        replace hy := hidd (hy.out.below hb1)
        replace hp := hidd (hp.out.below hb1)
        replace hq := hidd (hq.out.below hb1)
        replace hs := hidd (hs.out.below hb1)
        replace hk := hidd hk.bs
        clear hb1
        dsimp only; go_wp2_with fail
        refine Calls.mono (Mult_pl _ hk.out hq.out pl0.out (byteL_length _) (mul_good G1.out G2.out) (numL_byteL _)) ?_
        rintro e w12 ⟨ght, cht, rfl, ht, hb1⟩
        rw [T0.out, show na * (nb * nc) = nc * (nb * na) by rw [Nat.mul_comm, Nat.mul_comm nb nc, Nat.mul_assoc]] at ht
        have vs := conv_str (hs.out.below hb1)
        have vt := conv_str ht.bs
        rw [byteL_length] at vs vt
        replace HB := below_from HB hb1
        clear hb1 hk ht hs hp hq hx hy
        dsimp only; go_wp2_with fail
        refine Calls.mono (awake6_any _) ?_
        rintro e w99 ⟨rfl, hb1⟩
        replace HB := below_from HB hb1
        clear vs vt hb1
        dsimp only; go_wp2_with fail
        go_ret
        exact ⟨rfl, HB⟩
end Go.Proofs.Ytdjdfmnjoilmkaa
