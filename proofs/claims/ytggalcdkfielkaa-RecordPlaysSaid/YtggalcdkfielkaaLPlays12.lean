/-
 WALKS: sapperlaw12.RecordPlays.
-/
import Derived.Test.YtggalcdkfielkaaREnM
import Derived.Test.YtggalcdkfielkaaRecOrd
namespace Go.Proofs.Ytggalcdkfielkaa
open Go.RowKit
set_option linter.unusedVariables false
set_option linter.unusedSimpArgs false
set_option maxRecDepth 100000
attribute [local irreducible] wpList wpListIn putsR

/-- What a put does: the counter, the bytes, what went wrong. -/
def putA (co : Co) (b : List Nat) : Co × List Nat × Nat := if b.length ≤ 4096 then (co.put, recL co b, 0) else (co, [], 7)
theorem putA_len (co : Co) (b : List Nat) : (putA co b).2.1.length ≤ 8226 := by
 unfold putA
 split
 ·rename_i h
  have := sizeN_top b.length
  show (recL co b).length ≤ _
  rw [recL_length co h]
  omega
 ·exact Nat.zero_le _
theorem putA_co (co : Co) (b : List Nat) : (putA co b).1.n ≤ co.n + 2 ∧ (putA co b).1.cnt ≤ co.cnt + 1 := by
 unfold putA
 split
 ·exact ⟨Nat.le_refl _, Nat.le_refl _⟩
 ·exact ⟨Nat.le_add_right _ _, Nat.le_add_right _ _⟩
def feedA (r : Rd) (b : List Nat) : Rd × Nat × List (List Nat) := if r.dead = true then (r, 10, []) else feedR r b
theorem run_bound : ∀ (f : Nat) (r : Rd), (runR f r []).1.co.n + (runR f r []).1.wait.length ≤ r.co.n + r.wait.length ∧ (runR f r []).1.co.cnt + (runR f r []).1.wait.length ≤ r.co.cnt + r.wait.length ∧ (runR f r []).1.wait.length ≤ r.wait.length
 | 0, r => ⟨Nat.le_refl _, Nat.le_refl _, Nat.le_refl _⟩
 | f + 1, r => by
  cases hs : stepR r with
  | none => rw [run_none hs]; exact ⟨Nat.le_refl _, Nat.le_refl _, Nat.le_refl _⟩
  | some x =>
   obtain ⟨i1, i2, i3, i4⟩ := inv_step hs
   have i7 := stepR_lt hs
   by_cases hx : x.2.1 = 0
   ·rw [run_good hs hx, runR_out]
    dsimp only
    have ih := run_bound f x.1
    exact ⟨by omega, by omega, by omega⟩
   ·rw [run_bad hs hx]
    exact ⟨by show x.1.co.n + 0 ≤ _; omega, by show x.1.co.cnt + 0 ≤ _; omega, Nat.zero_le _⟩
theorem feedA_bound {r r' : Rd} {b : List Nat} {e : Nat} {o : List (List Nat)} (h : feedA r b = (r', e, o)) : r'.co.n + r'.wait.length ≤ r.co.n + r.wait.length + b.length ∧ r'.co.cnt + r'.wait.length ≤ r.co.cnt + r.wait.length + b.length ∧ r'.wait.length ≤ r.wait.length + b.length ∧ o.length ≤ r.wait.length + b.length + 1 := by
 unfold feedA at h
 split at h
 ·cases h; exact ⟨by omega, by omega, by omega, Nat.zero_le _⟩
 ·have h1 := run_bound ((r.more b).wait.length + 1) (r.more b)
  have h2 := feed_outs h
  have e1 : (r.more b).wait.length = r.wait.length + b.length := List.length_append
  have e2 : (r.more b).co = r.co := rfl
  unfold feedR at h
  rw [h, e2] at h1
  dsimp only at h1
  exact ⟨by omega, by omega, by omega, h2⟩
theorem PutA_any {M : Nat → Prop} {gw gc : Nat} {co : Co} {A0 : Option Addr} {c0 q : Nat} {bs : List Nat} (w : World) (hW : WriterAt w M gw gc co) (h0 : Bs w A0 c0 bs) (hq : bs.length = q) (hnum : co.n < 9223372036854775807) (hc : co.cnt < 4611686018427387904) :
  Calls Try.prog 20 #[.pointer (some ⟨gw, 0, none⟩), .slice A0 (q) (c0)] w fun e w' => ∃ A c, e = .returned (.tuple #[.slice A ((putA co bs).2.1.length) c, .int .i64 (((putA co bs).2.2 : Nat) : Int)]) ∧ Own w' w.heap.size A c (putA co bs).2.1 ∧ (∃ M', WriterAt w' M' gw gc (putA co bs).1 ∧ NextM w M M' ∧ Sep (blkA A) M') ∧ BelowX M w w' := by
 by_cases h : bs.length ≤ 4096
 ·have e : putA co bs = (co.put, recL co bs, 0) := if_pos h
  rw [e]
  dsimp only
  rw [recL_length co h, hq]
  exact Put_any w hW h0 hq (by omega) hnum hc
 ·have e : putA co bs = (co, [], 7) := if_neg h
  rw [e]
  refine Calls.mono (Put_gt w h0 hq (by omega)) ?_
  rintro e w' ⟨rfl, rfl⟩
  exact ⟨none, 0, rfl, Own.nil _ _, ⟨M, hW, NextM.refl _ _, fun j hj => absurd hj blkA_none⟩, BelowX.refl _ _⟩
theorem EPutA_any {M : Nat → Prop} {ge gc : Nat} {co : Co} {A0 : Option Addr} {c0 q : Nat} {bs : List Nat} (w : World) (hE : EndAt w M ge gc (Rd.at0 co [])) (h0 : Bs w A0 c0 bs) (hq : bs.length = q) (hnum : co.n < 9223372036854775807) (hc : co.cnt < 4611686018427387904) :
  Calls Try.prog 21 #[.pointer (some ⟨ge, 0, none⟩), .slice A0 (q) (c0)] w fun e w' => ∃ A c, e = .returned (.tuple #[.slice A ((putA co bs).2.1.length) c, .int .i64 (((putA co bs).2.2 : Nat) : Int)]) ∧ Own w' w.heap.size A c (putA co bs).2.1 ∧ (∃ M', EndAt w' M' ge gc (Rd.at0 (putA co bs).1 []) ∧ NextM w M M' ∧ Sep (blkA A) M') ∧ BelowX M w w' := by
 by_cases h : bs.length ≤ 4096
 ·have e : putA co bs = (co.put, recL co bs, 0) := if_pos h
  rw [e]
  dsimp only
  rw [recL_length co h, hq]
  exact EPut_any w hE h0 hq (by omega) hnum hc
 ·have e : putA co bs = (co, [], 7) := if_neg h
  rw [e]
  refine Calls.mono (EPut_gt w h0 hq (by omega)) ?_
  rintro e w' ⟨rfl, rfl⟩
  exact ⟨none, 0, rfl, Own.nil _ _, ⟨M, hE, NextM.refl _ _, fun j hj => absurd hj blkA_none⟩, BelowX.refl _ _⟩
theorem FeedA_any {M : Nat → Prop} {gr gc : Nat} {rd r' : Rd} {err : Nat} {outs : List (List Nat)} {B0 : Option Addr} {d0 q : Nat} {bs : List Nat} (w : World) (hR : ReaderAt w M gr gc rd) (h0 : Bs w B0 d0 bs) (hq : bs.length = q) (hf : feedA rd bs = (r', err, outs)) (b1 : rd.co.n + (rd.wait.length + q) < 4611686018427387904) (b2 : rd.co.cnt + (rd.wait.length + q) < 4611686018427387904) (b3 : rd.wait.length + q ≤ 1000000000) :
  Calls Try.prog 23 #[.pointer (some ⟨gr, 0, none⟩), .slice B0 (q) (d0)] w fun e w' => ∃ ps A c, e = .returned (.tuple #[.slice A (ps.length) c, .int .i64 ((err : Nat) : Int)]) ∧ ps.map Part.xs = outs ∧ RowS w' w.heap.size A c ps ∧ AllOwn w' w.heap.size ps ∧ (∃ M', ReaderAt w' M' gr gc r' ∧ NextM w M M' ∧ Sep (blkP ps) M' ∧ Sep (blkA A) M') ∧ BelowX M w w' := by
 by_cases hd : rd.dead = true
 ·have e : feedA rd bs = (rd, 10, []) := if_pos hd
  rw [e] at hf
  cases hf
  obtain ⟨N, A, c, hP, _⟩ := hR.row
  have hB := hP.blk
  rw [hd] at hB
  refine Calls.mono (Feed_dead w hB) ?_
  rintro e w' ⟨rfl, rfl⟩
  exact ⟨[], none, 0, rfl, rfl, RowS.nil _ _, (fun _ h => absurd h (by simp)), ⟨M, hR, NextM.refl _ _, fun j hj => absurd hj blkP_nil, fun j hj => absurd hj blkA_none⟩, BelowX.refl _ _⟩
 ·have e : feedA rd bs = feedR rd bs := if_neg hd
  rw [e] at hf
  exact Feed_any w hR (by simpa using hd) h0 hq hf b1 b2 b3
theorem EFeedA_any {M : Nat → Prop} {gr gc : Nat} {rd r' : Rd} {err : Nat} {outs : List (List Nat)} {B0 : Option Addr} {d0 q : Nat} {bs : List Nat} (w : World) (hR : EndAt w M gr gc rd) (h0 : Bs w B0 d0 bs) (hq : bs.length = q) (hf : feedA rd bs = (r', err, outs)) (b1 : rd.co.n + (rd.wait.length + q) < 4611686018427387904) (b2 : rd.co.cnt + (rd.wait.length + q) < 4611686018427387904) (b3 : rd.wait.length + q ≤ 1000000000) :
  Calls Try.prog 24 #[.pointer (some ⟨gr, 0, none⟩), .slice B0 (q) (d0)] w fun e w' => ∃ ps A c, e = .returned (.tuple #[.slice A (ps.length) c, .int .i64 ((err : Nat) : Int)]) ∧ ps.map Part.xs = outs ∧ RowS w' w.heap.size A c ps ∧ AllOwn w' w.heap.size ps ∧ (∃ M', EndAt w' M' gr gc r' ∧ NextM w M M' ∧ Sep (blkP ps) M' ∧ Sep (blkA A) M') ∧ BelowX M w w' := by
 by_cases hd : rd.dead = true
 ·have e : feedA rd bs = (rd, 10, []) := if_pos hd
  rw [e] at hf
  cases hf
  obtain ⟨N, A, c, z, hP, _⟩ := hR.row
  have hB := hP.blk
  rw [hd] at hB
  refine Calls.mono (EFeed_dead w hB) ?_
  rintro e w' ⟨rfl, rfl⟩
  exact ⟨[], none, 0, rfl, rfl, RowS.nil _ _, (fun _ h => absurd h (by simp)), ⟨M, hR, NextM.refl _ _, fun j hj => absurd hj blkP_nil, fun j hj => absurd hj blkA_none⟩, BelowX.refl _ _⟩
 ·have e : feedA rd bs = feedR rd bs := if_neg hd
  rw [e] at hf
  exact EFeed_any w hR (by simpa using hd) h0 hq hf b1 b2 b3
section
variable {o : Oper} {ev : Operand → Value} {w : World} {x y z : Operand} {T U t : TypeId} {g k : Nat}
/-- A byte is stored into a slice that reads as bytes. -/
theorem o_st8W {A : Option Addr} {c i v : Nat} {xs : List Nat} (ho : o.op = .store t x y) (hx : ev x = .pointer (atA A i)) (hy : ev y = .int .u8 (v : Int)) (hO : Wt w A c xs) (hi : i < xs.length) (hv : v < 256) (ht : IsOne t) :
  ∃ w', (execOp ev o).run Try.prog w = .ok .skip w' ∧ (Wt w' A c (xs.set i v) ∧ BelowX (blkA A) w w') := by
 have hle := hO.le
 rcases hO.row with ⟨_, h0⟩ | ⟨g, off, cur, rfl, hB, hsz, hcur⟩
 ·omega
 have hk : off + i < cur.size := by omega
 have ea : atA (some ⟨g, off, none⟩) i = some ⟨g, off + i, none⟩ := by simp [atA, Addr.add_lit]
 rw [ea] at hx
 obtain ⟨_, h2⟩ := one_runs ht w
 have hst := run_storeCells_at (P := Try.prog) g (off + i) 5 [Value.int .u8 (v : Int)] 0 cur w hB (by simp; omega) (by simp [Value.oneCell'])
 have hs : (Instr.sureAddr (ev x)).run Try.prog w = .ok ⟨g, off + i, none⟩ w := by rw [hx]; rfl
 simp only [Nat.add_zero] at hst
 have e : cur.toList.take (off + i) ++ [Value.int .u8 (v : Int)] ++ cur.toList.drop (off + i + [Value.int .u8 (v : Int)].length) = cur.toList.set (off + i) (.int .u8 (v : Int)) := by
  rw [List.set_eq_take_append_cons_drop, if_pos (by simpa using hk)]; simp
 rw [e, ← Array.toList_setIfInBounds, Array.toArray_toList] at hst
 refine ⟨w.setRow g (cur.setIfInBounds (off + i) (.int .u8 (v : Int))), ?_, ⟨fun x hx => ?_, by rw [List.length_set]; exact hle, hO.max, .inr ⟨g, off, _, rfl, setRow_heap w g cur _ _ _ hB, by rw [Array.size_setIfInBounds]; exact hsz, fun j hj => ?_⟩⟩, (chg_setRow hB).mono (fun k _ hk => by rw [hk]; exact blkA_some.2 rfl)⟩
 ·have hvc : (Value.int .u8 (v : Int)).cells = #[.int .u8 (v : Int)] := rfl
  simp only [execOp, ho, Instr.storeAt, storeVar, Sem.run_bind, hs, Result.andThen_ok, h2, hy, hvc, List.size_toArray, List.length_cons, List.length_nil, Nat.zero_add, ne_eq, not_true, if_false, Sem.run_pure, hst]
 ·rcases List.mem_or_eq_of_mem_set hx with h | h
  ·exact hO.b8 _ h
  ·omega
 ·rw [List.length_set] at hj
  rw [Array.getElem?_setIfInBounds]
  by_cases hij : i = j
  ·subst hij
   rw [if_pos rfl, if_pos hk]
   simp [List.getD_eq_getElem?_getD, List.getElem?_set_self hj]
  ·rw [if_neg (by omega), hcur j hj]
   simp only [List.getD_eq_getElem?_getD]
   rw [List.getElem?_set_ne hij]
end
set_option maxHeartbeats 4000000 in
theorem RecPlaysM {A0 Al Ac : Option Addr} {c0 m nl cl nc cc : Nat} {ks : List Nat} {ls : List Part} (z z2 : Int) (x : Nat) (hx : x < 256) (w : World) (h0 : Bs w A0 c0 ks) (hm : ks.length = m) (hls : ls.length = nl) (hP : AllBs w ls) (hcell : ∀ i, i < nl → ∃ g off, Al = some ⟨g, off, none⟩ ∧ w.cell? ⟨g, off + i, none⟩ = some (Part.at ls i).val) (hcut : ∀ i, i < nc → ∃ g off zc, Ac = some ⟨g, off, none⟩ ∧ w.cell? ⟨g, off + i, none⟩ = some (.int .i64 zc)) :
  Calls Try.prog 4 #[.slice A0 (m) (c0), .int .i64 (z), .slice Al (nl) (cl), .slice Ac (nc) (cc), .int .i64 (z2), .int .u8 ((x : Nat) : Int)] w fun e w' => e = .returned (.bool true) ∧ Below w.heap.size w w' := by
 obtain ⟨co, hco⟩ : ∃ q : Co, q = ⟨padTo 32 ks, 0, everyN z, 0⟩ := ⟨_, rfl⟩
 refine x_enter 232 Try.func4 rfl rfl (fun a hs hd ha0 => ?_)
 have t0 : a.eval (.tmp 0) = .slice A0 (m) (c0) := ha0 0 _ rfl
 have t1 : a.eval (.tmp 1) = .int .i64 (z) := ha0 1 _ rfl
 have t2 : a.eval (.tmp 2) = .slice Al (nl) (cl) := ha0 2 _ rfl
 have t3 : a.eval (.tmp 3) = .slice Ac (nc) (cc) := ha0 3 _ rfl
 have t4 : a.eval (.tmp 4) = .int .i64 (z2) := ha0 4 _ rfl
 have t5 : a.eval (.tmp 5) = .int .u8 ((x : Nat) : Int) := ha0 5 _ rfl
 clear ha0
 refine w2_sr (fun K_1 hK_1 => ?_)
 refine q_as (.bool (false)) rfl ?_
 refine x_nil (hK_1 _ _ ?_)
 refine w2_sr (fun K_2 hK_2 => ?_)
 refine q_mv ((pm rfl).trans t0) ?_
 refine q_ca (vs := #[.slice A0 (m) (c0)]) Try.func14 (args1 (pe hs rfl rfl)) (Key_any _ h0 hm) (fun e_1 w_1 hR_1 => ?_)
 obtain ⟨A_1, c_1, rfl, ho_1, hb_1⟩ := hR_1
 refine ⟨_, rfl, ?_⟩
 refine q_at (pe hs rfl rfl) ?_
 refine x_nil (hK_2 _ _ ?_)
 refine w2_sr (fun K_3 hK_3 => ?_)
 refine q_mv (pe hs rfl rfl) ?_
 refine q_ca (vs := #[.slice A_1 (32) (c_1)]) Try.func15 (args1 (pe hs rfl rfl)) (NewCipher_any _ (ho_1).bs (by simp only [padTo_length]) rfl) (fun e_2 w_2 hR_2 => ?_)
 obtain ⟨M_1, g_1, rfl, hC_1, hge_1, hb_2⟩ := hR_2
 have gg_1 := hge_1.down hb_1.size
 replace ho_1 := ho_1.nx hb_2
 have HB_1 := below_from hb_1 hb_2
 refine ⟨_, rfl, ?_⟩
 refine q_mv (pe hs rfl rfl) ?_
 refine q_ex (v := .pointer (some ⟨g_1, 0, none⟩)) (pe hs rfl rfl) rfl ?_
 refine q_ex (v := .int .i64 ((0 : Nat) : Int)) (pe hs rfl rfl) rfl ?_
 refine q_at (pe hs rfl rfl) ?_
 refine q_at (v := .int .i64 ((0 : Nat) : Int)) (pe hs rfl rfl) ?_
 refine x_nil (hK_3 _ _ ?_)
 refine w2_sr (fun K_4 hK_4 => ?_)
 refine q_mv (pe hs rfl rfl) ?_
 refine q_ca (vs := #[.slice A_1 (32) (c_1)]) Try.func15 (args1 (pe hs rfl rfl)) (NewCipher_any _ (ho_1).bs (by simp only [padTo_length]) rfl) (fun e_3 w_3 hR_3 => ?_)
 obtain ⟨M_2, g_2, rfl, hC_2, hge_2, hb_3⟩ := hR_3
 have sp_3 : Sep M_1 M_2 := Sep.new hC_1.lt hge_2
 have gg_2 := hge_2.down HB_1.size
 replace ho_1 := ho_1.nx hb_3
 replace hC_1 := hC_1.nx hb_3
 have HB_2 := below_from HB_1 hb_3
 refine ⟨_, rfl, ?_⟩
 refine q_mv (pe hs rfl rfl) ?_
 refine q_ex (v := .pointer (some ⟨g_2, 0, none⟩)) (pe hs rfl rfl) rfl ?_
 refine q_ex (v := .int .i64 ((0 : Nat) : Int)) (pe hs rfl rfl) rfl ?_
 refine q_at (pe hs rfl rfl) ?_
 refine q_at (v := .int .i64 ((0 : Nat) : Int)) (pe hs rfl rfl) ?_
 refine x_nil (hK_4 _ _ ?_)
 refine w2_sr (fun K_5 hK_5 => ?_)
 refine q_mv (pe hs rfl rfl) ?_
 refine q_ca (vs := #[.slice A_1 (32) (c_1)]) Try.func16 (args1 (pe hs rfl rfl)) (NewCipherW_any _ (ho_1).bs (by simp only [padTo_length]) rfl) (fun e_4 w_4 hR_4 => ?_)
 obtain ⟨M_3, g_3, rfl, hC_3, hge_3, hb_4⟩ := hR_4
 have sp_5 : Sep M_1 M_3 := Sep.new hC_1.lt hge_3
 have sp_6 : Sep M_2 M_3 := Sep.new hC_2.lt hge_3
 have gg_3 := hge_3.down HB_2.size
 replace ho_1 := ho_1.nx hb_4
 replace hC_1 := hC_1.nx hb_4
 replace hC_2 := hC_2.nx hb_4
 have HB_3 := below_from HB_2 hb_4
 refine ⟨_, rfl, ?_⟩
 refine q_mv (pe hs rfl rfl) ?_
 refine q_ex (v := .pointer (some ⟨g_3, 0, none⟩)) (pe hs rfl rfl) rfl ?_
 refine q_ex (v := .int .i64 ((0 : Nat) : Int)) (pe hs rfl rfl) rfl ?_
 refine q_at (pe hs rfl rfl) ?_
 refine q_at (v := .int .i64 ((0 : Nat) : Int)) (pe hs rfl rfl) ?_
 refine x_nil (hK_5 _ _ ?_)
 refine w2_sr (fun K_6 hK_6 => ?_)
 refine q_mv (pe hs rfl rfl) ?_
 refine q_ca (vs := #[.slice A_1 (32) (c_1)]) Try.func16 (args1 (pe hs rfl rfl)) (NewCipherW_any _ (ho_1).bs (by simp only [padTo_length]) rfl) (fun e_5 w_5 hR_5 => ?_)
 obtain ⟨M_4, g_4, rfl, hC_4, hge_4, hb_5⟩ := hR_5
 have sp_8 : Sep M_1 M_4 := Sep.new hC_1.lt hge_4
 have sp_9 : Sep M_2 M_4 := Sep.new hC_2.lt hge_4
 have sp_10 : Sep M_3 M_4 := Sep.new hC_3.lt hge_4
 have gg_4 := hge_4.down HB_3.size
 replace ho_1 := ho_1.nx hb_5
 replace hC_1 := hC_1.nx hb_5
 replace hC_2 := hC_2.nx hb_5
 replace hC_3 := hC_3.nx hb_5
 have HB_4 := below_from HB_3 hb_5
 refine ⟨_, rfl, ?_⟩
 refine q_mv (pe hs rfl rfl) ?_
 refine q_ex (v := .pointer (some ⟨g_4, 0, none⟩)) (pe hs rfl rfl) rfl ?_
 refine q_ex (v := .int .i64 ((0 : Nat) : Int)) (pe hs rfl rfl) rfl ?_
 refine q_at (pe hs rfl rfl) ?_
 refine q_at (v := .int .i64 ((0 : Nat) : Int)) (pe hs rfl rfl) ?_
 refine x_nil (hK_6 _ _ ?_)
 refine w2_sr (fun K_7 hK_7 => ?_)
 refine q_mv (pe hs rfl rfl) ?_
 refine q_mv ((pm rfl).trans t1) ?_
 refine q_ca (vs := #[.pointer (some ⟨g_1, 0, none⟩), .int .i64 (z)]) Try.func17 (args2 (pe hs rfl rfl) (pe hs rfl rfl)) (NewWriter_any (z : Int) _ hC_1) (fun e_6 w_6 hR_6 => ?_)
 obtain ⟨M_5, g_5, rfl, hW_1, hN_1, hb_6⟩ := hR_6
 rw [← hco] at hW_1
 have sp_12 : Sep M_2 M_5 := hN_1.sep (sp_3.symm) hC_2.lt
 have sp_13 : Sep M_3 M_5 := hN_1.sep (sp_5.symm) hC_3.lt
 have sp_14 : Sep M_4 M_5 := hN_1.sep (sp_8.symm) hC_4.lt
 have gg_5 := hN_1.ge gg_1 HB_4.size
 replace ho_1 := ho_1.nx hb_6
 replace hC_2 := hC_2.nx hb_6
 replace hC_3 := hC_3.nx hb_6
 replace hC_4 := hC_4.nx hb_6
 have HB_5 := below_from HB_4 hb_6
 refine ⟨_, rfl, ?_⟩
 refine q_mv (pe hs rfl rfl) ?_
 refine q_mv ((pm rfl).trans t1) ?_
 refine q_ca (vs := #[.pointer (some ⟨g_2, 0, none⟩), .int .i64 (z)]) Try.func18 (args2 (pe hs rfl rfl) (pe hs rfl rfl)) (NewReader_any (z : Int) _ hC_2) (fun e_7 w_7 hR_7 => ?_)
 obtain ⟨M_6, g_6, rfl, hW_2, hN_2, hb_7⟩ := hR_7
 rw [← hco] at hW_2
 have sp_16 : Sep M_3 M_6 := hN_2.sep (sp_6.symm) hC_3.lt
 have sp_17 : Sep M_4 M_6 := hN_2.sep (sp_9.symm) hC_4.lt
 have sp_18 : Sep M_5 M_6 := hN_2.sep (sp_12.symm) hW_1.lt
 have gg_6 := hN_2.ge gg_2 HB_5.size
 replace ho_1 := ho_1.nx hb_7
 replace hC_3 := hC_3.nx hb_7
 replace hC_4 := hC_4.nx hb_7
 replace hW_1 := hW_1.nx hb_7
 have HB_6 := below_from HB_5 hb_7
 refine ⟨_, rfl, ?_⟩
 refine q_at (pe hs rfl rfl) ?_
 refine q_at (pe hs rfl rfl) ?_
 refine x_nil (hK_7 _ _ ?_)
 refine w2_sr (fun K_8 hK_8 => ?_)
 refine q_mv (pe hs rfl rfl) ?_
 refine q_mv ((pm rfl).trans t1) ?_
 refine q_ca (vs := #[.pointer (some ⟨g_3, 0, none⟩), .int .i64 (z)]) Try.func19 (args2 (pe hs rfl rfl) (pe hs rfl rfl)) (NewEnd_any (z : Int) _ hC_3) (fun e_8 w_8 hR_8 => ?_)
 obtain ⟨M_7, g_7, rfl, hW_3, hN_3, hb_8⟩ := hR_8
 rw [← hco] at hW_3
 have sp_20 : Sep M_4 M_7 := hN_3.sep (sp_10.symm) hC_4.lt
 have sp_21 : Sep M_5 M_7 := hN_3.sep (sp_13.symm) hW_1.lt
 have sp_22 : Sep M_6 M_7 := hN_3.sep (sp_16.symm) hW_2.lt
 have gg_7 := hN_3.ge gg_3 HB_6.size
 replace ho_1 := ho_1.nx hb_8
 replace hC_4 := hC_4.nx hb_8
 replace hW_1 := hW_1.nx hb_8
 replace hW_2 := hW_2.nx hb_8
 have HB_7 := below_from HB_6 hb_8
 refine ⟨_, rfl, ?_⟩
 refine q_mv (pe hs rfl rfl) ?_
 refine q_mv ((pm rfl).trans t1) ?_
 refine q_ca (vs := #[.pointer (some ⟨g_4, 0, none⟩), .int .i64 (z)]) Try.func19 (args2 (pe hs rfl rfl) (pe hs rfl rfl)) (NewEnd_any (z : Int) _ hC_4) (fun e_9 w_9 hR_9 => ?_)
 obtain ⟨M_8, g_8, rfl, hW_4, hN_4, hb_9⟩ := hR_9
 rw [← hco] at hW_4
 have sp_24 : Sep M_5 M_8 := hN_4.sep (sp_14.symm) hW_1.lt
 have sp_25 : Sep M_6 M_8 := hN_4.sep (sp_17.symm) hW_2.lt
 have sp_26 : Sep M_7 M_8 := hN_4.sep (sp_20.symm) hW_3.lt
 have gg_8 := hN_4.ge gg_4 HB_7.size
 replace ho_1 := ho_1.nx hb_9
 replace hW_1 := hW_1.nx hb_9
 replace hW_2 := hW_2.nx hb_9
 replace hW_3 := hW_3.nx hb_9
 have HB_8 := below_from HB_7 hb_9
 refine ⟨_, rfl, ?_⟩
 refine q_at (pe hs rfl rfl) ?_
 refine q_at (pe hs rfl rfl) ?_
 refine x_nil (hK_8 _ _ ?_)
 refine w2_seq (fun K_9 hK_9 => ?_)
 refine w2_sr (fun K_10 hK_10 => ?_)
 refine q_mv (pe hs rfl rfl) ?_
 refine q_v 74 (.bool (false)) (o_nil (b := false) rfl (pe hs rfl rfl) rfl rfl ⟨69, fun _ => by kernel_rfl⟩) ?_
 refine q_mv (pe hs rfl rfl) ?_
 refine op_valG (e := 75) (d := 76) (v := .pointer (some ⟨g_6, 0, none⟩)) rfl rfl (by kernel_rfl) (pe hs rfl rfl) (o_move rfl (pe hs rfl rfl)) ?_
 refine op_valG (e := 75) (d := 77) (v := .bool (false)) rfl rfl (by kernel_rfl) (pe hs rfl rfl) (o_nil (b := false) rfl (pe hs rfl rfl) rfl rfl ⟨71, fun _ => by kernel_rfl⟩) ?_
 refine q_v 78 (.bool (false)) (o_pickF rfl (pe hs rfl rfl) (pe hs rfl rfl)) ?_
 refine x_nil (hK_10 _ _ ?_)
 refine w2_condF (pe hs rfl rfl) ?_
 refine w2_skip ?_
 refine hK_9 _ _ ?_
 refine w2_sr (fun K_11 hK_11 => ?_)
 refine q_as (.slice none (0) (0)) rfl ?_
 refine x_nil (hK_11 _ _ ?_)
 have hRn0 : Sep M_6 M_8 := sp_25
 have hn0 : co.n = 0 := by rw [hco]
 have hc0 : co.cnt = 0 := by rw [hco]
 refine x_cut (fun aa ww => ∃ (K : Nat) (Aa : Option Addr) (na ca : Nat) (U : List Nat), aa.tmps.size = 232 ∧ aa.defers = [] ∧ aa.eval (.tmp 3) = .slice Ac (nc) (cc) ∧ aa.eval (.tmp 4) = .int .i64 (z2) ∧ aa.eval (.tmp 5) = .int .u8 ((x : Nat) : Int) ∧ aa.eval (.tmp 23) = .pointer (some ⟨g_6, 0, none⟩) ∧ aa.eval (.tmp 25) = .pointer (some ⟨g_8, 0, none⟩) ∧ aa.eval (.tmp 26) = .slice Aa (na) (ca) ∧ K ≤ 8 ∧ K ≤ nl ∧ ReaderAt ww M_6 g_6 g_2 (Rd.at0 co []) ∧ EndAt ww M_8 g_8 g_4 (Rd.at0 co []) ∧ Wt ww Aa ca U ∧ U.length = na ∧ na ≤ 14300 ∧ Sep (blkA Aa) M_6 ∧ Sep (blkA Aa) M_8 ∧ Ge w (blkA Aa) ∧ Below w.heap.size w ww) (fun K_12 hK_12 => ?_) ?_
 ·skip
  refine w2_sr (fun K_13 hK_13 => ?_)
  refine q_mv ((pm rfl).trans t2) ?_
  refine q_v 80 (.int .i64 ((nl : Nat) : Int)) (o_lenS rfl (pe hs rfl rfl)) ?_
  refine q_v 81 (.int .i64 ((0 : Nat) : Int)) (o_move rfl rfl) ?_
  refine x_nil (hK_13 _ _ ?_)
  refine w2_block (fun K_14 hK_14 => ?_)
  refine x_loop (fun nn aa ww => ∃ (K : Nat) (Aa : Option Addr) (na ca : Nat) (U : List Nat) (ck : Co) (Mw Mm : Nat → Prop), nn = nl - K ∧ aa.tmps.size = 232 ∧ aa.defers = [] ∧ aa.eval (.tmp 2) = .slice Al (nl) (cl) ∧ aa.eval (.tmp 3) = .slice Ac (nc) (cc) ∧ aa.eval (.tmp 4) = .int .i64 (z2) ∧ aa.eval (.tmp 5) = .int .u8 ((x : Nat) : Int) ∧ aa.eval (.tmp 22) = .pointer (some ⟨g_5, 0, none⟩) ∧ aa.eval (.tmp 23) = .pointer (some ⟨g_6, 0, none⟩) ∧ aa.eval (.tmp 24) = .pointer (some ⟨g_7, 0, none⟩) ∧ aa.eval (.tmp 25) = .pointer (some ⟨g_8, 0, none⟩) ∧ aa.eval (.tmp 26) = .slice Aa (na) (ca) ∧ aa.eval (.tmp 79) = .slice Al (nl) (cl) ∧ aa.eval (.tmp 80) = .int .i64 ((nl : Nat) : Int) ∧ aa.eval (.tmp 81) = .int .i64 ((K : Nat) : Int) ∧ K ≤ 8 ∧ K ≤ nl ∧ ReaderAt ww M_6 g_6 g_2 (Rd.at0 co []) ∧ EndAt ww M_8 g_8 g_4 (Rd.at0 co []) ∧ Wt ww Aa ca U ∧ U.length = na ∧ na ≤ 14300 ∧ Sep (blkA Aa) M_6 ∧ Sep (blkA Aa) M_8 ∧ Ge w (blkA Aa) ∧ WriterAt ww Mw g_5 g_1 ck ∧ EndAt ww Mm g_7 g_3 (Rd.at0 ck []) ∧ ck.n ≤ 2 * K ∧ ck.cnt ≤ K ∧ Sep Mw M_6 ∧ Sep Mw M_8 ∧ Sep Mm M_6 ∧ Sep Mm M_8 ∧ Sep (blkA Aa) Mw ∧ Sep (blkA Aa) Mm ∧ Sep Mw Mm ∧ Ge w Mw ∧ Ge w Mm ∧ Below w.heap.size w ww) (nl - 0) ?_ ?_
  ·exact ⟨0, none, 0, 0, [], co, M_5, M_7, rfl, (by rw [putsR_size]; exact hs), (by rw [putsR_defers]; exact hd), ((pm rfl).trans t2), ((pm rfl).trans t3), ((pm rfl).trans t4), ((pm rfl).trans t5), (pe hs rfl rfl), (pe hs rfl rfl), (pe hs rfl rfl), (pe hs rfl rfl), (pe hs rfl rfl), (pe hs rfl rfl), (pe hs rfl rfl), (pe hs rfl rfl), Nat.zero_le _, Nat.zero_le _, hW_2, hW_4, Wt.nil _, rfl, (by omega), (fun j hj => absurd hj blkA_none), (fun j hj => absurd hj blkA_none), (fun j hj => absurd hj blkA_none), hW_1, hW_3, (by omega), (by omega), sp_18, sp_24, sp_22.symm, sp_26, (fun j hj => absurd hj blkA_none), (fun j hj => absurd hj blkA_none), sp_21, gg_5, gg_7, HB_8⟩
  ·skip
   clear t0 t1 t2 t3 t4 t5 hd ho_1 hW_1 hW_2 hW_3 hW_4 HB_8
   rintro nna_1 a_1 w_10 ⟨K, Aa, na, ca, U, ck, Mw, Mm, hm_1, hs_1, hd_1, ta_1_2, ta_1_3, ta_1_4, ta_1_5, ta_1_22, ta_1_23, ta_1_24, ta_1_25, ta_1_26, ta_1_79, ta_1_80, ta_1_81, b1, b2, hLr, hLn, hWa, hna, b8, sAr, sAn, gA, hLw, hLm, c1, c2, sWr, sWn, sMr, sMn, sAw, sAm, sWm, gW, gM, HBL⟩ K_15 hK_15
   subst hm_1
   refine w2_sr (fun K_16 hK_16 => ?_)
   refine q_v 82 (.bool (decide (K < nl))) (o_lss (m := K) (n := nl) rfl ((pm rfl).trans ta_1_81) ((pm rfl).trans ta_1_80)) ?_
   refine x_nil (hK_16 _ _ ?_)
   refine w2_seq (fun K_17 hK_17 => ?_)
   refine w2_split (pe hs_1 rfl rfl) (fun h_1 => ?_) (fun h_1 => ?_)
   ·simp only [DD9] at h_1
    have hlt : K < nl := h_1
    obtain ⟨gl, ol, hAl, hcl⟩ := hcell K hlt
    have hp9 := hP _ (Part.mem (ps := ls) (k := K) (by omega))
    refine w2_skip ?_
    refine hK_17 _ _ ?_
    refine w2_seq (fun K_18 hK_18 => ?_)
    refine w2_block (fun K_19 hK_19 => ?_)
    refine w2_sr (fun K_20 hK_20 => ?_)
    refine q_mv ((pm rfl).trans ta_1_81) ?_
    refine q_v 84 (.pointer (atA Al (K))) (o_ixR (k := K) rfl ((pm rfl).trans ta_1_79) ((pm rfl).trans ta_1_81) hlt (by rw [hAl]; rfl)) ?_
    refine q_v 85 (.slice ((Part.at ls K).A) ((Part.at ls K).xs.length) ((Part.at ls K).c)) (o_loadC rfl (pe hs_1 rfl rfl) hAl ((HBL.cell (p := ⟨gl, ol + K, none⟩) (World.block_lt_of_cell? w _ hcl)).trans hcl) ⟨by kernel_rfl, by kernel_rfl⟩) ?_
    refine q_at (pe hs_1 rfl rfl) ?_
    refine q_at (pe hs_1 rfl rfl) ?_
    refine x_nil (hK_20 _ _ ?_)
    refine w2_seq (fun K_21 hK_21 => ?_)
    refine w2_seq (fun K_22 hK_22 => ?_)
    rcases (show 8 ≤ K ∨ (K < 8 ∧ 4200 < (Part.at ls K).xs.length) ∨ (K < 8 ∧ (Part.at ls K).xs.length ≤ 4200 ∧ 6000 < na) ∨ (K < 8 ∧ (Part.at ls K).xs.length ≤ 4200 ∧ na ≤ 6000) by omega) with q1 | ⟨q1, q2⟩ | ⟨q1, q2, q3⟩ | ⟨q1, q3, q4⟩
    ·skip
     refine x_region (by kernel_rfl) ?_
     refine q_mv (pe hs_1 rfl rfl) ?_
     refine q_v 87 (.bool (true)) (o_eq (o_geq (m := K) (n := 8) rfl (pe hs_1 rfl rfl) rfl) (by rw [decide_eq_true (by omega)])) ?_
     refine q_mv (pe hs_1 rfl rfl) ?_
     refine op_left (e := 88) rfl rfl (by kernel_rfl) (pe hs_1 rfl rfl) rfl ?_
     refine op_left (e := 88) rfl rfl (by kernel_rfl) (pe hs_1 rfl rfl) rfl ?_
     refine op_left (e := 88) rfl rfl (by kernel_rfl) (pe hs_1 rfl rfl) rfl ?_
     refine q_v 92 (.bool (true)) (o_pickT rfl (pe hs_1 rfl rfl) rfl) ?_
     refine q_mv (pe hs_1 rfl rfl) ?_
     refine op_left (e := 93) rfl rfl (by kernel_rfl) (pe hs_1 rfl rfl) rfl ?_
     refine op_left (e := 93) rfl rfl (by kernel_rfl) (pe hs_1 rfl rfl) rfl ?_
     refine op_left (e := 93) rfl rfl (by kernel_rfl) (pe hs_1 rfl rfl) rfl ?_
     refine q_v 97 (.bool (true)) (o_pickT rfl (pe hs_1 rfl rfl) rfl) ?_
     refine x_nil (hK_22 _ _ ?_)
     refine w2_condT (pe hs_1 rfl rfl) ?_
     refine w2_exit ?_
     refine thn_exit ?_
     refine exb_out rfl ?_
     refine thn_exit ?_
     refine thn_exit ?_
     refine exb_hit ?_
     refine hK_14 _ _ ?_
     exact hK_12 _ _ ⟨K, Aa, na, ca, U, (by rw [putsR_size]; exact hs_1), (by rw [putsR_defers]; exact hd_1), ((pm rfl).trans ta_1_3), ((pm rfl).trans ta_1_4), ((pm rfl).trans ta_1_5), ((pm rfl).trans ta_1_23), ((pm rfl).trans ta_1_25), ((pm rfl).trans ta_1_26), b1, b2, hLr, hLn, hWa, hna, b8, sAr, sAn, gA, HBL⟩
    ·skip
     refine x_region (by kernel_rfl) ?_
     refine q_mv (pe hs_1 rfl rfl) ?_
     refine q_v 87 (.bool (false)) (o_eq (o_geq (m := K) (n := 8) rfl (pe hs_1 rfl rfl) rfl) (by rw [decide_eq_false (by omega)])) ?_
     refine q_mv (pe hs_1 rfl rfl) ?_
     refine op_valG (e := 88) (d := 89) (v := .slice ((Part.at ls K).A) ((Part.at ls K).xs.length) ((Part.at ls K).c)) rfl rfl (by kernel_rfl) (pe hs_1 rfl rfl) (o_move rfl (pe hs_1 rfl rfl)) ?_
     refine op_valG (e := 88) (d := 90) (v := .int .i64 (((Part.at ls K).xs.length : Nat) : Int)) rfl rfl (by kernel_rfl) (pe hs_1 rfl rfl) (o_len rfl (pe hs_1 rfl rfl)) ?_
     refine op_valG (e := 88) (d := 91) (v := .bool (true)) rfl rfl (by kernel_rfl) (pe hs_1 rfl rfl) (o_eq (o_gtr (m := ((Part.at ls K).xs.length)) (n := 4200) rfl (pe hs_1 rfl rfl) rfl) (by rw [decide_eq_true (by omega)])) ?_
     refine q_v 92 (.bool (true)) (o_pickF rfl (pe hs_1 rfl rfl) (pe hs_1 rfl rfl)) ?_
     refine q_mv (pe hs_1 rfl rfl) ?_
     refine op_left (e := 93) rfl rfl (by kernel_rfl) (pe hs_1 rfl rfl) rfl ?_
     refine op_left (e := 93) rfl rfl (by kernel_rfl) (pe hs_1 rfl rfl) rfl ?_
     refine op_left (e := 93) rfl rfl (by kernel_rfl) (pe hs_1 rfl rfl) rfl ?_
     refine q_v 97 (.bool (true)) (o_pickT rfl (pe hs_1 rfl rfl) rfl) ?_
     refine x_nil (hK_22 _ _ ?_)
     refine w2_condT (pe hs_1 rfl rfl) ?_
     refine w2_exit ?_
     refine thn_exit ?_
     refine exb_out rfl ?_
     refine thn_exit ?_
     refine thn_exit ?_
     refine exb_hit ?_
     refine hK_14 _ _ ?_
     exact hK_12 _ _ ⟨K, Aa, na, ca, U, (by rw [putsR_size]; exact hs_1), (by rw [putsR_defers]; exact hd_1), ((pm rfl).trans ta_1_3), ((pm rfl).trans ta_1_4), ((pm rfl).trans ta_1_5), ((pm rfl).trans ta_1_23), ((pm rfl).trans ta_1_25), ((pm rfl).trans ta_1_26), b1, b2, hLr, hLn, hWa, hna, b8, sAr, sAn, gA, HBL⟩
    ·skip
     refine x_region (by kernel_rfl) ?_
     refine q_mv (pe hs_1 rfl rfl) ?_
     refine q_v 87 (.bool (false)) (o_eq (o_geq (m := K) (n := 8) rfl (pe hs_1 rfl rfl) rfl) (by rw [decide_eq_false (by omega)])) ?_
     refine q_mv (pe hs_1 rfl rfl) ?_
     refine op_valG (e := 88) (d := 89) (v := .slice ((Part.at ls K).A) ((Part.at ls K).xs.length) ((Part.at ls K).c)) rfl rfl (by kernel_rfl) (pe hs_1 rfl rfl) (o_move rfl (pe hs_1 rfl rfl)) ?_
     refine op_valG (e := 88) (d := 90) (v := .int .i64 (((Part.at ls K).xs.length : Nat) : Int)) rfl rfl (by kernel_rfl) (pe hs_1 rfl rfl) (o_len rfl (pe hs_1 rfl rfl)) ?_
     refine op_valG (e := 88) (d := 91) (v := .bool (false)) rfl rfl (by kernel_rfl) (pe hs_1 rfl rfl) (o_eq (o_gtr (m := ((Part.at ls K).xs.length)) (n := 4200) rfl (pe hs_1 rfl rfl) rfl) (by rw [decide_eq_false (by omega)])) ?_
     refine q_v 92 (.bool (false)) (o_pickF rfl (pe hs_1 rfl rfl) (pe hs_1 rfl rfl)) ?_
     refine q_mv (pe hs_1 rfl rfl) ?_
     refine op_valG (e := 93) (d := 94) (v := .slice Aa (na) (ca)) rfl rfl (by kernel_rfl) (pe hs_1 rfl rfl) (o_move rfl ((pm rfl).trans ta_1_26)) ?_
     refine op_valG (e := 93) (d := 95) (v := .int .i64 ((na : Nat) : Int)) rfl rfl (by kernel_rfl) (pe hs_1 rfl rfl) (o_len rfl (pe hs_1 rfl rfl)) ?_
     refine op_valG (e := 93) (d := 96) (v := .bool (true)) rfl rfl (by kernel_rfl) (pe hs_1 rfl rfl) (o_eq (o_gtr (m := na) (n := 6000) rfl (pe hs_1 rfl rfl) rfl) (by rw [decide_eq_true (by omega)])) ?_
     refine q_v 97 (.bool (true)) (o_pickF rfl (pe hs_1 rfl rfl) (pe hs_1 rfl rfl)) ?_
     refine x_nil (hK_22 _ _ ?_)
     refine w2_condT (pe hs_1 rfl rfl) ?_
     refine w2_exit ?_
     refine thn_exit ?_
     refine exb_out rfl ?_
     refine thn_exit ?_
     refine thn_exit ?_
     refine exb_hit ?_
     refine hK_14 _ _ ?_
     exact hK_12 _ _ ⟨K, Aa, na, ca, U, (by rw [putsR_size]; exact hs_1), (by rw [putsR_defers]; exact hd_1), ((pm rfl).trans ta_1_3), ((pm rfl).trans ta_1_4), ((pm rfl).trans ta_1_5), ((pm rfl).trans ta_1_23), ((pm rfl).trans ta_1_25), ((pm rfl).trans ta_1_26), b1, b2, hLr, hLn, hWa, hna, b8, sAr, sAn, gA, HBL⟩
    ·skip
     refine x_region (by kernel_rfl) ?_
     refine q_mv (pe hs_1 rfl rfl) ?_
     refine q_v 87 (.bool (false)) (o_eq (o_geq (m := K) (n := 8) rfl (pe hs_1 rfl rfl) rfl) (by rw [decide_eq_false (by omega)])) ?_
     refine q_mv (pe hs_1 rfl rfl) ?_
     refine op_valG (e := 88) (d := 89) (v := .slice ((Part.at ls K).A) ((Part.at ls K).xs.length) ((Part.at ls K).c)) rfl rfl (by kernel_rfl) (pe hs_1 rfl rfl) (o_move rfl (pe hs_1 rfl rfl)) ?_
     refine op_valG (e := 88) (d := 90) (v := .int .i64 (((Part.at ls K).xs.length : Nat) : Int)) rfl rfl (by kernel_rfl) (pe hs_1 rfl rfl) (o_len rfl (pe hs_1 rfl rfl)) ?_
     refine op_valG (e := 88) (d := 91) (v := .bool (false)) rfl rfl (by kernel_rfl) (pe hs_1 rfl rfl) (o_eq (o_gtr (m := ((Part.at ls K).xs.length)) (n := 4200) rfl (pe hs_1 rfl rfl) rfl) (by rw [decide_eq_false (by omega)])) ?_
     refine q_v 92 (.bool (false)) (o_pickF rfl (pe hs_1 rfl rfl) (pe hs_1 rfl rfl)) ?_
     refine q_mv (pe hs_1 rfl rfl) ?_
     refine op_valG (e := 93) (d := 94) (v := .slice Aa (na) (ca)) rfl rfl (by kernel_rfl) (pe hs_1 rfl rfl) (o_move rfl ((pm rfl).trans ta_1_26)) ?_
     refine op_valG (e := 93) (d := 95) (v := .int .i64 ((na : Nat) : Int)) rfl rfl (by kernel_rfl) (pe hs_1 rfl rfl) (o_len rfl (pe hs_1 rfl rfl)) ?_
     refine op_valG (e := 93) (d := 96) (v := .bool (false)) rfl rfl (by kernel_rfl) (pe hs_1 rfl rfl) (o_eq (o_gtr (m := na) (n := 6000) rfl (pe hs_1 rfl rfl) rfl) (by rw [decide_eq_false (by omega)])) ?_
     refine q_v 97 (.bool (false)) (o_pickF rfl (pe hs_1 rfl rfl) (pe hs_1 rfl rfl)) ?_
     refine x_nil (hK_22 _ _ ?_)
     refine w2_condF (pe hs_1 rfl rfl) ?_
     refine w2_skip ?_
     refine hK_21 _ _ ?_
     refine w2_seq (fun K_23 hK_23 => ?_)
     have hpl := putA_len ck (Part.at ls K).xs
     obtain ⟨hpn, hpc⟩ := putA_co ck (Part.at ls K).xs
     refine x_region (by kernel_rfl) ?_
     refine q_mv ((pm rfl).trans ta_1_22) ?_
     refine q_mv (pe hs_1 rfl rfl) ?_
     refine q_ca (vs := #[.pointer (some ⟨g_5, 0, none⟩), .slice ((Part.at ls K).A) ((Part.at ls K).xs.length) ((Part.at ls K).c)]) Try.func20 (args2 (pe hs_1 rfl rfl) (pe hs_1 rfl rfl)) (PutA_any _ hLw (hp9.below HBL) rfl (by omega) (by omega)) (fun e_10 w_11 hR_10 => ?_)
     obtain ⟨A_2, c_2, rfl, ho_2, ⟨M_9, hW_5, hN_5, hs_2⟩, hX_1⟩ := hR_10
     have sp_27 : Sep M_6 M_9 := hN_5.sep (sWr.symm) hLr.lt
     have sp_29 : Sep M_8 M_9 := hN_5.sep (sWn.symm) hLn.lt
     have sp_31 : Sep (blkA Aa) M_9 := hN_5.sep (sAw) hWa.lt
     have sp_33 : Sep Mm M_9 := hN_5.sep (sWm.symm) hLm.lt
     have sp_34 : Sep (blkA A_2) Mm := (Sep.new hLm.lt ho_2.ge').symm
     replace hLr := hLr.keepM hX_1 (sWr.symm)
     replace hLn := hLn.keepM hX_1 (sWn.symm)
     replace hWa := hWa.keepM hX_1 (sAw)
     replace hLm := hLm.keepM hX_1 (sWm.symm)
     have gg_9 := hN_5.ge gW HBL.size
     replace ho_2 := ho_2.mono HBL.size
     have HB_9 := hX_1.below HBL HBL.size gW
     refine ⟨_, rfl, ?_⟩
     refine q_mv (pe hs_1 rfl rfl) ?_
     refine q_ex (v := .slice A_2 ((putA ck ((Part.at ls K).xs)).2.1.length) (c_2)) (pe hs_1 rfl rfl) rfl ?_
     refine q_ex (v := .int .i64 (((putA ck ((Part.at ls K).xs)).2.2 : Nat) : Int)) (pe hs_1 rfl rfl) rfl ?_
     refine q_at (pe hs_1 rfl rfl) ?_
     refine q_at (pe hs_1 rfl rfl) ?_
     refine x_nil (hK_23 _ _ ?_)
     refine w2_sr (fun K_24 hK_24 => ?_)
     refine q_mv ((pm rfl).trans ta_1_24) ?_
     refine q_mv (pe hs_1 rfl rfl) ?_
     refine q_ca (vs := #[.pointer (some ⟨g_7, 0, none⟩), .slice ((Part.at ls K).A) ((Part.at ls K).xs.length) ((Part.at ls K).c)]) Try.func21 (args2 (pe hs_1 rfl rfl) (pe hs_1 rfl rfl)) (EPutA_any _ hLm (hp9.below HB_9) rfl (by omega) (by omega)) (fun e_11 w_12 hR_11 => ?_)
     obtain ⟨A_3, c_3, rfl, ho_3, ⟨M_10, hW_6, hN_6, hs_3⟩, hX_2⟩ := hR_11
     have sp_35 : Sep M_6 M_10 := hN_6.sep (sMr.symm) hLr.lt
     have sp_37 : Sep M_8 M_10 := hN_6.sep (sMn.symm) hLn.lt
     have sp_39 : Sep (blkA Aa) M_10 := hN_6.sep (sAm) hWa.lt
     have sp_41 : Sep M_9 M_10 := hN_6.sep (sp_33.symm) hW_5.lt
     replace hLr := hLr.keepM hX_2 (sMr.symm)
     replace hLn := hLn.keepM hX_2 (sMn.symm)
     replace hWa := hWa.keepM hX_2 (sAm)
     replace hW_5 := hW_5.keepM hX_2 (sp_33.symm)
     replace ho_2 := ho_2.keepM hX_2 (sp_34)
     have gg_10 := hN_6.ge gM HB_9.size
     replace ho_3 := ho_3.mono HB_9.size
     have HB_10 := hX_2.below HB_9 HB_9.size gM
     refine ⟨_, rfl, ?_⟩
     refine q_mv (pe hs_1 rfl rfl) ?_
     refine q_ex (v := .slice A_3 ((putA ck ((Part.at ls K).xs)).2.1.length) (c_3)) (pe hs_1 rfl rfl) rfl ?_
     refine q_ex (v := .int .i64 (((putA ck ((Part.at ls K).xs)).2.2 : Nat) : Int)) (pe hs_1 rfl rfl) rfl ?_
     refine q_at (pe hs_1 rfl rfl) ?_
     refine q_at (pe hs_1 rfl rfl) ?_
     refine x_nil (hK_24 _ _ ?_)
     refine w2_seq (fun K_25 hK_25 => ?_)
     refine w2_seq (fun K_26 hK_26 => ?_)
     obtain ⟨Ne_1, Ae_1, ce_1, ze_1, hPe_1, _⟩ := hW_6.row
     have hBe_1 : Blk w_12 g_7 #[.pointer (some ⟨g_3, 0, none⟩), .int .i64 (((putA ck (Part.at ls K).xs).1.every : Nat) : Int), .int .i64 (((putA ck (Part.at ls K).xs).1.cnt : Nat) : Int), .slice Ae_1 (0) ce_1, .int .i64 ((ze_1 : Nat) : Int), .bool (false)] 51 := hPe_1.blk
     refine x_drawn 17 [fun _ v => v = .slice A_2 ((putA ck ((Part.at ls K).xs)).2.1.length) (c_2), fun _ v => v = .string (strB ((putA ck ((Part.at ls K).xs)).2.1)), fun _ v => v = .slice A_3 ((putA ck ((Part.at ls K).xs)).2.1.length) (c_3), fun _ v => v = .string (strB ((putA ck ((Part.at ls K).xs)).2.1)), fun _ v => v = .bool (false), fun _ v => v = .bool (false), fun _ v => v = .int .i64 (((putA ck ((Part.at ls K).xs)).2.2 : Nat) : Int), fun _ v => v = .int .i64 (((putA ck ((Part.at ls K).xs)).2.2 : Nat) : Int), fun _ v => v = .bool (false), fun _ v => v = .bool (false), fun _ v => v = .bool (false), fun _ v => v = .pointer (some ⟨g_5, 0, none⟩), fun ww vv => vv = .int .i64 ((((putA ck ((Part.at ls K).xs)).1).cnt : Nat) : Int), fun _ v => v = .pointer (some ⟨g_7, 0, none⟩), fun _ v => v = .pointer (some ⟨g_7, 0, none⟩), fun _ v => v = .pointer (some ⟨g_7, 2, none⟩), fun _ v => v = .int .i64 (((putA ck (Part.at ls K).xs).1.cnt : Nat) : Int)] [110, 111, 112, 113, 114, 115, 116, 117, 118, 119, 120, 121, 122, 123, 124, 125, 126] hs_1 hd_1 (by kernel_rfl) (by kernel_rfl) (by kernel_rfl) (by kernel_rfl) (by kernel_rfl) ⟨stLit, stLit, stLit, stLit, stLit, stLit, stLit, stLit, stLit, stLit, stLit, stLit, stLit, stLit, stLit, stLit, stLit, trivial⟩ ⟨(step_ok rfl (fun a' w' hb' hO hD => by
       have d_1 : a'.eval (.tmp 29) = .slice A_2 ((putA ck ((Part.at ls K).xs)).2.1.length) (c_2) := (hO 29 (by decide)).trans (pe hs_1 rfl rfl)
       exact .inl ⟨_, _, (o_move rfl d_1), rfl, Below.refl _ _⟩)),
(step_ok rfl (fun a' w' hb' hO hD => by
       have d_2 : a'.eval (.tmp 110) = .slice A_2 ((putA ck ((Part.at ls K).xs)).2.1.length) (c_2) := hD 0 110 (by kernel_rfl) rfl
       exact .inl ⟨_, _, (o_str rfl d_2 ((ho_2.nx hb')).bs rfl), rfl, Below.refl _ _⟩)),
(step_ok rfl (fun a' w' hb' hO hD => by
       have d_3 : a'.eval (.tmp 31) = .slice A_3 ((putA ck ((Part.at ls K).xs)).2.1.length) (c_3) := (hO 31 (by decide)).trans (pe hs_1 rfl rfl)
       exact .inl ⟨_, _, (o_move rfl d_3), rfl, Below.refl _ _⟩)),
(step_ok rfl (fun a' w' hb' hO hD => by
       have d_4 : a'.eval (.tmp 112) = .slice A_3 ((putA ck ((Part.at ls K).xs)).2.1.length) (c_3) := hD 2 112 (by kernel_rfl) rfl
       exact .inl ⟨_, _, (o_str rfl d_4 ((ho_3.nx hb')).bs rfl), rfl, Below.refl _ _⟩)),
(step_ok rfl (fun a' w' hb' hO hD => by
       have d_5 : a'.eval (.tmp 111) = .string (strB ((putA ck ((Part.at ls K).xs)).2.1)) := hD 1 111 (by kernel_rfl) rfl
       have d_6 : a'.eval (.tmp 113) = .string (strB ((putA ck ((Part.at ls K).xs)).2.1)) := hD 3 113 (by kernel_rfl) rfl
       exact .inl ⟨_, _, (o_neS rfl d_5 d_6 rfl), rfl, Below.refl _ _⟩)),
(step_ok rfl (fun a' w' hb' hO hD => by
       have d_7 : a'.eval (.tmp 114) = .bool (false) := hD 4 114 (by kernel_rfl) rfl
       exact .inl ⟨_, _, (o_move rfl d_7), rfl, Below.refl _ _⟩)),
(step_yes 5 false 115 rfl rfl (by kernel_rfl) (fun _ _ h => h) (fun a' w' hb' hO hD => by
       have d_8 : a'.eval (.tmp 30) = .int .i64 (((putA ck ((Part.at ls K).xs)).2.2 : Nat) : Int) := (hO 30 (by decide)).trans (pe hs_1 rfl rfl)
       exact .inl ⟨_, _, (o_move rfl d_8), rfl, Below.refl _ _⟩)),
(step_yes 5 false 115 rfl rfl (by kernel_rfl) (fun _ _ h => h) (fun a' w' hb' hO hD => by
       have d_9 : a'.eval (.tmp 32) = .int .i64 (((putA ck ((Part.at ls K).xs)).2.2 : Nat) : Int) := (hO 32 (by decide)).trans (pe hs_1 rfl rfl)
       exact .inl ⟨_, _, (o_move rfl d_9), rfl, Below.refl _ _⟩)),
(step_yes 5 false 115 rfl rfl (by kernel_rfl) (fun _ _ h => h) (fun a' w' hb' hO hD => by
       have d_10 : a'.eval (.tmp 116) = .int .i64 (((putA ck ((Part.at ls K).xs)).2.2 : Nat) : Int) := hD 6 116 (by kernel_rfl) rfl
       have d_11 : a'.eval (.tmp 117) = .int .i64 (((putA ck ((Part.at ls K).xs)).2.2 : Nat) : Int) := hD 7 117 (by kernel_rfl) rfl
       have e0 : (.bool (!decide (((putA ck ((Part.at ls K).xs)).2.2) = ((putA ck ((Part.at ls K).xs)).2.2))) : Value) = .bool (false) := (by simp)
       exact .inl ⟨_, _, (o_neq (m := ((putA ck ((Part.at ls K).xs)).2.2)) (n := ((putA ck ((Part.at ls K).xs)).2.2)) rfl d_10 d_11), e0, Below.refl _ _⟩)),
(step_ok rfl (fun a' w' hb' hO hD => by
       have d_12 : a'.eval (.tmp 115) = .bool (false) := hD 5 115 (by kernel_rfl) rfl
       have d_13 : a'.eval (.tmp 118) = .bool (false) := hD 8 118 (by kernel_rfl) rfl
       exact .inl ⟨_, _, (o_pickF rfl d_12 d_13), rfl, Below.refl _ _⟩)),
(step_ok rfl (fun a' w' hb' hO hD => by
       have d_14 : a'.eval (.tmp 119) = .bool (false) := hD 9 119 (by kernel_rfl) rfl
       exact .inl ⟨_, _, (o_move rfl d_14), rfl, Below.refl _ _⟩)),
(step_yes 10 false 120 rfl rfl (by kernel_rfl) (fun _ _ h => h) (fun a' w' hb' hO hD => by
       have d_15 := (hO 22 (by decide)).trans ((pm rfl).trans ta_1_22)
       exact .inl ⟨_, _, (o_move rfl d_15), rfl, Below.refl _ _⟩)),
(step_yes 10 false 120 rfl rfl (by kernel_rfl) (fun _ _ h => h) (fun a' w' hb' hO hD => by
       have d_16 : a'.eval (.tmp 121) = .pointer (some ⟨g_5, 0, none⟩) := hD 11 121 (by kernel_rfl) rfl
       exact .inr ⟨_, #[.pointer (some ⟨g_5, 0, none⟩)], (exec_call Try.func22 (by kernel_rfl) (by kernel_rfl) _ rfl _ _ (args1 d_16)), Calls.mono (WCount_any _ (hW_5.nx hb')) (fun e w'' hR => by obtain ⟨rfl, rfl⟩ := hR; exact ⟨_, rfl, rfl, (Below.refl _ _)⟩)⟩)),
(step_yes 10 false 120 rfl rfl (by kernel_rfl) (fun _ _ h => h) (fun a' w' hb' hO hD => by
       have d_17 := (hO 24 (by decide)).trans ((pm rfl).trans ta_1_24)
       exact .inl ⟨_, _, (o_move rfl d_17), rfl, Below.refl _ _⟩)),
(step_yes 10 false 120 rfl rfl (by kernel_rfl) (fun _ _ h => h) (fun a' w' hb' hO hD => by
       have d_18 : a'.eval (.tmp 123) = .pointer (some ⟨g_7, 0, none⟩) := hD 13 123 (by kernel_rfl) rfl
       exact .inl ⟨_, _, (o_nilCheck rfl d_18), rfl, Below.refl _ _⟩)),
(step_yes 10 false 120 rfl rfl (by kernel_rfl) (fun _ _ h => h) (fun a' w' hb' hO hD => by
       have d_19 : a'.eval (.tmp 124) = .pointer (some ⟨g_7, 0, none⟩) := hD 14 124 (by kernel_rfl) rfl
       exact .inl ⟨_, _, (o_field (k' := 2) rfl d_19 (fun _ => by kernel_rfl)), rfl, Below.refl _ _⟩)),
(step_yes 10 false 120 rfl rfl (by kernel_rfl) (fun _ _ h => h) (fun a' w' hb' hO hD => by
       have d_20 : a'.eval (.tmp 125) = .pointer (some ⟨g_7, 2, none⟩) := hD 15 125 (by kernel_rfl) rfl
       exact .inl ⟨_, _, (o_load1 rfl d_20 (hBe_1.nx hb') rfl ⟨by kernel_rfl, by kernel_rfl⟩), rfl, Below.refl _ _⟩)), trivial⟩ (fun a_2 w_13 hs_4 hd_2 hb_11 hO_1 hV_1 => ?_)
     have ta_2_2 := (hO_1 2 (by decide)).trans ((pm rfl).trans ta_1_2)
     have ta_2_3 := (hO_1 3 (by decide)).trans ((pm rfl).trans ta_1_3)
     have ta_2_4 := (hO_1 4 (by decide)).trans ((pm rfl).trans ta_1_4)
     have ta_2_5 := (hO_1 5 (by decide)).trans ((pm rfl).trans ta_1_5)
     have ta_2_22 := (hO_1 22 (by decide)).trans ((pm rfl).trans ta_1_22)
     have ta_2_23 := (hO_1 23 (by decide)).trans ((pm rfl).trans ta_1_23)
     have ta_2_24 := (hO_1 24 (by decide)).trans ((pm rfl).trans ta_1_24)
     have ta_2_25 := (hO_1 25 (by decide)).trans ((pm rfl).trans ta_1_25)
     have ta_2_79 := (hO_1 79 (by decide)).trans ((pm rfl).trans ta_1_79)
     have ta_2_80 := (hO_1 80 (by decide)).trans ((pm rfl).trans ta_1_80)
     have ta_2_26 := (hO_1 26 (by decide)).trans ((pm rfl).trans ta_1_26)
     have ta_2_81 := (hO_1 81 (by decide)).trans ((pm rfl).trans ta_1_81)
     have ta_2_31 : a_2.eval (.tmp 31) = .slice A_3 ((putA ck ((Part.at ls K).xs)).2.1.length) (c_3) := (hO_1 31 (by decide)).trans (pe hs_1 rfl rfl)
     clear ta_1_2 ta_1_3 ta_1_4 ta_1_5 ta_1_22 ta_1_23 ta_1_24 ta_1_25 ta_1_79 ta_1_80 ta_1_26 ta_1_81 hd_1
     replace hLr := hLr.nx hb_11
     replace hLn := hLn.nx hb_11
     replace hWa := hWa.nx hb_11
     replace hW_5 := hW_5.nx hb_11
     replace hW_6 := hW_6.nx hb_11
     replace ho_3 := ho_3.nx hb_11
     replace hBe_1 := hBe_1.nx hb_11
     have HB_11 := below_from HB_10 hb_11
     have ta_2_120 : a_2.eval (.tmp 120) = .bool (false) := hV_1 10 120 rfl rfl
     have ta_2_122 : a_2.eval (.tmp 122) = .int .i64 ((((putA ck ((Part.at ls K).xs)).1).cnt : Nat) : Int) := hV_1 12 122 rfl rfl
     have ta_2_126 : a_2.eval (.tmp 126) = .int .i64 (((putA ck (Part.at ls K).xs).1.cnt : Nat) : Int) := hV_1 16 126 rfl rfl
     clear hV_1 hO_1
     simp only [List.drop_succ_cons, List.drop_zero]
     refine op_valG (e := 120) (d := 127) (v := .bool (false)) rfl rfl (by kernel_rfl) ((pm rfl).trans ta_2_120) (o_eq (o_neq (m := (((putA ck ((Part.at ls K).xs)).1).cnt)) (n := ((putA ck (Part.at ls K).xs).1.cnt)) rfl ((pm rfl).trans ta_2_122) ((pm rfl).trans ta_2_126)) (by simp)) ?_
     refine q_v 128 (.bool (false)) (o_pickF rfl ((pm rfl).trans ta_2_120) (pe hs_4 rfl rfl)) ?_
     refine x_nil (hK_26 _ _ ?_)
     refine w2_condF (pe hs_4 rfl rfl) ?_
     refine w2_skip ?_
     refine hK_25 _ _ ?_
     refine x_region (by kernel_rfl) ?_
     refine q_mv ((pm rfl).trans ta_2_26) ?_
     refine q_mv ((pm rfl).trans ta_2_31) ?_
     refine op_ex (d := 131) rfl rfl (o_appW rfl (pe hs_4 rfl rfl) (pe hs_4 rfl rfl) hWa ho_3.bs hna rfl (by omega)) (fun v_1 w_14 hR_12 => ?_)
     obtain ⟨A_4, c_4, rfl, hWt_1, hX_3, hA_1⟩ := hR_12
     replace hA_1 : NextM w_13 (blkA Aa) (blkA A_4) := hA_1
     have sp_45 : Sep M_6 (blkA A_4) := hA_1.sep (sAr.symm) hLr.lt
     have sp_46 : Sep M_8 (blkA A_4) := hA_1.sep (sAn.symm) hLn.lt
     have sp_47 : Sep M_9 (blkA A_4) := hA_1.sep (sp_31.symm) hW_5.lt
     have sp_49 : Sep M_10 (blkA A_4) := hA_1.sep (sp_39.symm) hW_6.lt
     replace hLr := hLr.keepM hX_3 (sAr.symm)
     replace hLn := hLn.keepM hX_3 (sAn.symm)
     replace hW_5 := hW_5.keepM hX_3 (sp_31.symm)
     replace hW_6 := hW_6.keepM hX_3 (sp_39.symm)
     have gg_11 := hA_1.ge gA HB_11.size
     have HB_12 := hX_3.below HB_11 HB_11.size gA
     refine q_at (pe hs_4 rfl rfl) ?_
     refine x_nil (hK_19 _ _ ?_)
     refine hK_18 _ _ ?_
     refine x_region (by kernel_rfl) ?_
     refine q_v 132 (.int .i64 ((K + 1 : Nat) : Int)) (o_add64 (m := K) (n := 1) rfl ((pm rfl).trans ta_2_81) rfl (by omega)) ?_
     refine q_mv (pe hs_4 rfl rfl) ?_
     refine x_nil ?_
     refine hK_15 _ _ _ ⟨K + 1, A_4, na + ((putA ck ((Part.at ls K).xs)).2.1.length), c_4, U ++ (putA ck ((Part.at ls K).xs)).2.1, (putA ck (Part.at ls K).xs).1, M_9, M_10, rfl, (by rw [putsR_size]; exact hs_4), (by rw [putsR_defers]; exact hd_2), ((pm rfl).trans ta_2_2), ((pm rfl).trans ta_2_3), ((pm rfl).trans ta_2_4), ((pm rfl).trans ta_2_5), ((pm rfl).trans ta_2_22), ((pm rfl).trans ta_2_23), ((pm rfl).trans ta_2_24), ((pm rfl).trans ta_2_25), (pe hs_4 rfl rfl), ((pm rfl).trans ta_2_79), ((pm rfl).trans ta_2_80), (pe hs_4 rfl rfl), (by omega), (by omega), hLr, hLn, hWt_1, (by rw [List.length_append, hna]), (by omega), sp_45.symm, sp_46.symm, gg_11, hW_5, hW_6, (by omega), (by omega), sp_27.symm, sp_29.symm, sp_35.symm, sp_37.symm, sp_47.symm, sp_49.symm, sp_41, gg_9, gg_10, HB_12⟩ ?_
     omega
   ·simp only [DD9] at h_1
    refine w2_exit ?_
    refine thn_exit ?_
    refine thn_exit ?_
    refine exb_hit ?_
    refine hK_14 _ _ ?_
    exact hK_12 _ _ ⟨K, Aa, na, ca, U, (by rw [putsR_size]; exact hs_1), (by rw [putsR_defers]; exact hd_1), ((pm rfl).trans ta_1_3), ((pm rfl).trans ta_1_4), ((pm rfl).trans ta_1_5), ((pm rfl).trans ta_1_23), ((pm rfl).trans ta_1_25), ((pm rfl).trans ta_1_26), b1, b2, hLr, hLn, hWa, hna, b8, sAr, sAn, gA, HBL⟩
 ·skip
  clear t0 t1 t2 t3 t4 t5 hd ho_1 hW_1 hW_2 hW_3 hW_4 HB_8
  rintro a_3 w_15 ⟨K, Aa, na, ca, U, hs_5, hd_3, ta_3_3, ta_3_4, ta_3_5, ta_3_23, ta_3_25, ta_3_26, b1, b2, hLr, hLn, hWa, hna, b8, sAr, sAn, gA, HBL⟩
  refine x_cut (fun aa ww => ∃ (V : List Nat), aa.tmps.size = 232 ∧ aa.defers = [] ∧ aa.eval (.tmp 3) = .slice Ac (nc) (cc) ∧ aa.eval (.tmp 23) = .pointer (some ⟨g_6, 0, none⟩) ∧ aa.eval (.tmp 25) = .pointer (some ⟨g_8, 0, none⟩) ∧ aa.eval (.tmp 26) = .slice Aa (na) (ca) ∧ ReaderAt ww M_6 g_6 g_2 (Rd.at0 co []) ∧ EndAt ww M_8 g_8 g_4 (Rd.at0 co []) ∧ Wt ww Aa ca V ∧ V.length = na ∧ Below w.heap.size w ww) (fun K_27 hK_27 => ?_) ?_
  ·skip
   refine w2_sr (fun K_28 hK_28 => ?_)
   refine q_mv ((pm rfl).trans ta_3_26) ?_
   refine q_v 134 (.int .i64 ((na : Nat) : Int)) (o_len rfl (pe hs_5 rfl rfl)) ?_
   refine q_v 135 (.bool (decide (0 < na))) (o_gtr (m := na) (n := 0) rfl (pe hs_5 rfl rfl) rfl) ?_
   refine x_nil (hK_28 _ _ ?_)
   refine w2_split (pe hs_5 rfl rfl) (fun h_2 => ?_) (fun h_2 => ?_)
   ·simp only [DD9] at h_2
    have hpos : 0 < na := h_2
    have hmd := Nat.mod_lt (at64 z2) hpos
    have hz2 := at64_lt z2
    have y1 := getD_lt hWa.bs.b8 (at64 z2 % na)
    refine x_region (by kernel_rfl) ?_
    refine q_mv ((pm rfl).trans ta_3_26) ?_
    refine q_mv ((pm rfl).trans ta_3_4) ?_
    refine q_v 138 (.int .u64 ((at64 z2 : Nat) : Int)) (o_convZ rfl (pe hs_5 rfl rfl) ⟨.int .i64, fun _ => by kernel_rfl⟩ (fun _ => by kernel_rfl)) ?_
    refine q_mv ((pm rfl).trans ta_3_26) ?_
    refine q_v 140 (.int .i64 ((na : Nat) : Int)) (o_len rfl (pe hs_5 rfl rfl)) ?_
    refine q_v 141 (.int .u64 ((na : Nat) : Int)) (o_eq (o_conv (m := na) (r := na % 18446744073709551616) rfl (pe hs_5 rfl rfl) ⟨.int .i64, fun _ => by kernel_rfl⟩ (fun _ => by kernel_rfl) (by rw [IntKind.wrap_u64]; omega)) (congrArg (fun n : Nat => Value.int .u64 ((n : Nat) : Int)) (by omega))) ?_
    refine q_v 142 (.int .u64 (((at64 z2) % na : Nat) : Int)) (o_rem (m := (at64 z2)) (n := na) rfl (pe hs_5 rfl rfl) (pe hs_5 rfl rfl) (by omega) (by rw [IntKind.wrap_u64]; omega)) ?_
    refine q_v 143 (.int .i64 (((at64 z2) % na : Nat) : Int)) (o_conv (m := ((at64 z2) % na)) (r := (at64 z2) % na) rfl (pe hs_5 rfl rfl) ⟨.int .u64, fun _ => by kernel_rfl⟩ (fun _ => by kernel_rfl) (IntWalk.i64_in _ (by omega))) ?_
    refine q_v 144 (.pointer (atA Aa ((at64 z2) % na))) (o_ix (k := (at64 z2) % na) rfl (pe hs_5 rfl rfl) (pe hs_5 rfl rfl) (by omega) ((hWa).bs.some (by rw [hna]; exact hpos))) ?_
    refine q_v 145 (.int .u8 ((U.getD ((at64 z2) % na) 0 : Nat) : Int)) (o_ld8 rfl (pe hs_5 rfl rfl) (hWa).bs (by rw [hna]; exact hmd) rfl) ?_
    refine q_mv ((pm rfl).trans ta_3_5) ?_
    refine q_v 147 (.int .u8 (((U.getD ((at64 z2) % na) 0) ^^^ x : Nat) : Int)) (o_bits (m := (U.getD ((at64 z2) % na) 0)) (n := x) ((U.getD ((at64 z2) % na) 0) ^^^ x) rfl (pe hs_5 rfl rfl) (pe hs_5 rfl rfl) (by decide) (u8_xor_nat _ _ y1 hx)) ?_
    refine q_v 148 (.pointer (atA Aa ((at64 z2) % na))) (o_ix (k := (at64 z2) % na) rfl (pe hs_5 rfl rfl) (pe hs_5 rfl rfl) (by omega) ((hWa).bs.some (by rw [hna]; exact hpos))) ?_
    refine op_do rfl rfl (o_st8W rfl (pe hs_5 rfl rfl) (pe hs_5 rfl rfl) hWa (by rw [hna]; exact hmd) (Nat.xor_lt_two_pow (n := 8) y1 hx) ⟨by kernel_rfl, by kernel_rfl⟩) (fun w_16 hR_13 => ?_)
    obtain ⟨ho_4, hX_4⟩ := hR_13
    replace hLr := hLr.keepM hX_4 (sAr.symm)
    replace hLn := hLn.keepM hX_4 (sAn.symm)
    have HB_13 := hX_4.below HBL HBL.size gA
    refine x_nil ?_
    exact hK_27 _ _ ⟨U.set ((at64 z2) % na) ((U.getD ((at64 z2) % na) 0) ^^^ x), (by rw [putsR_size]; exact hs_5), (by rw [putsR_defers]; exact hd_3), ((pm rfl).trans ta_3_3), ((pm rfl).trans ta_3_23), ((pm rfl).trans ta_3_25), ((pm rfl).trans ta_3_26), hLr, hLn, ho_4, ((by rw [List.length_set]; exact hna)), HB_13⟩
   ·simp only [DD9] at h_2
    refine w2_skip ?_
    exact hK_27 _ _ ⟨U, (by rw [putsR_size]; exact hs_5), (by rw [putsR_defers]; exact hd_3), ((pm rfl).trans ta_3_3), ((pm rfl).trans ta_3_23), ((pm rfl).trans ta_3_25), ((pm rfl).trans ta_3_26), hLr, hLn, hWa, (hna), HBL⟩
  ·skip
   clear ta_3_3 ta_3_4 ta_3_5 ta_3_23 ta_3_25 ta_3_26 hd_3 hLr hLn hWa HBL
   rintro a_4 w_17 ⟨V, hs_6, hd_4, ta_4_3, ta_4_23, ta_4_25, ta_4_26, hLr5, hLn5, hWa5, hnv, HBV⟩
   refine w2_seq (fun K_29 hK_29 => ?_)
   refine w2_sr (fun K_30 hK_30 => ?_)
   refine q_as (.int .i64 ((0 : Nat) : Int)) rfl ?_
   refine x_nil (hK_30 _ _ ?_)
   refine w2_block (fun K_31 hK_31 => ?_)
   refine x_loop (fun nn aa ww => ∃ (I : Nat) (Mq Me : Nat → Prop) (Ab : Option Addr) (nb cb : Nat) (U6 : List Nat) (rd : Rd), nn = 61 - I ∧ aa.tmps.size = 232 ∧ aa.defers = [] ∧ aa.eval (.tmp 3) = .slice Ac (nc) (cc) ∧ aa.eval (.tmp 23) = .pointer (some ⟨g_6, 0, none⟩) ∧ aa.eval (.tmp 25) = .pointer (some ⟨g_8, 0, none⟩) ∧ aa.eval (.tmp 26) = .slice Ab (nb) (cb) ∧ aa.eval (.tmp 33) = .int .i64 ((I : Nat) : Int) ∧ ReaderAt ww Mq g_6 g_2 rd ∧ EndAt ww Me g_8 g_4 rd ∧ Wt ww Ab cb U6 ∧ U6.length = nb ∧ I ≤ 60 ∧ rd.co.n + rd.wait.length + nb ≤ 20000 ∧ rd.co.cnt + rd.wait.length + nb ≤ 20000 ∧ Sep (blkA Ab) Mq ∧ Sep (blkA Ab) Me ∧ Sep Mq Me ∧ Ge w Mq ∧ Ge w Me ∧ Ge w (blkA Ab) ∧ Below w.heap.size w ww) (61 - 0) ?_ ?_
   ·exact ⟨0, M_6, M_8, Aa, na, ca, V, Rd.at0 co [], rfl, (by rw [putsR_size]; exact hs_6), (by rw [putsR_defers]; exact hd_4), ((pm rfl).trans ta_4_3), ((pm rfl).trans ta_4_23), ((pm rfl).trans ta_4_25), ((pm rfl).trans ta_4_26), (pe hs_6 rfl rfl), hLr5, hLn5, hWa5, hnv, Nat.zero_le _, (by show co.n + 0 + na ≤ _; omega), (by show co.cnt + 0 + na ≤ _; omega), sAr, sAn, hRn0, gg_6, gg_8, gA, HBV⟩
   ·skip
    clear ta_4_3 ta_4_23 ta_4_25 ta_4_26 hd_4 hLr5 hLn5 hWa5 HBV
    rintro nna_5 a_5 w_18 ⟨I, Mq, Me, Ab, nb, cb, U6, rd, hm_2, hs_7, hd_5, ta_5_3, ta_5_23, ta_5_25, ta_5_26, ta_5_33, hLr6, hLn6, hWa6, p3, p9, b3, b4, s1, s2, s3, g1, g2, g3, HBM⟩ K_32 hK_32
    subst hm_2
    refine w2_seq (fun K_33 hK_33 => ?_)
    refine w2_seq (fun K_34 hK_34 => ?_)
    rcases (show nb = 0 ∨ (0 < nb ∧ I < 60) ∨ (0 < nb ∧ 60 ≤ I) by omega) with q1 | ⟨q1, q2⟩ | ⟨q1, q2⟩
    ·skip
     refine x_region (by kernel_rfl) ?_
     refine q_mv ((pm rfl).trans ta_5_26) ?_
     refine q_v 150 (.int .i64 ((nb : Nat) : Int)) (o_len rfl (pe hs_7 rfl rfl)) ?_
     refine q_v 151 (.bool (false)) (o_eq (o_gtr (m := nb) (n := 0) rfl (pe hs_7 rfl rfl) rfl) (by rw [decide_eq_false (by omega)])) ?_
     refine q_mv (pe hs_7 rfl rfl) ?_
     refine op_left (e := 152) rfl rfl (by kernel_rfl) (pe hs_7 rfl rfl) rfl ?_
     refine op_left (e := 152) rfl rfl (by kernel_rfl) (pe hs_7 rfl rfl) rfl ?_
     refine q_v 155 (.bool (false)) (o_pickF rfl (pe hs_7 rfl rfl) rfl) ?_
     refine x_nil (hK_34 _ _ ?_)
     refine w2_condF (pe hs_7 rfl rfl) ?_
     refine w2_exit ?_
     refine thn_exit ?_
     refine thn_exit ?_
     refine exb_hit ?_
     refine hK_31 _ _ ?_
     refine hK_29 _ _ ?_
     refine w2_sr (fun K_35 hK_35 => ?_)
     refine q_ca (vs := #[]) Try.func29 (args0) (awake12_any _) (fun e_12 w_19 hR_14 => ?_)
     obtain ⟨rfl, hb_13⟩ := hR_14
     replace hLr6 := hLr6.nx hb_13
     replace hLn6 := hLn6.nx hb_13
     replace hWa6 := hWa6.nx hb_13
     have HB_14 := below_from HBM hb_13
     refine ⟨_, rfl, ?_⟩
     refine q_at (pe hs_7 rfl rfl) ?_
     refine x_nil (hK_35 _ _ ?_)
     refine w2_ret ?_
     refine ret1 rfl hd_5 (pe hs_7 rfl rfl) ?_
     exact ⟨rfl, HB_14⟩
    ·skip
     refine x_region (by kernel_rfl) ?_
     refine q_mv ((pm rfl).trans ta_5_26) ?_
     refine q_v 150 (.int .i64 ((nb : Nat) : Int)) (o_len rfl (pe hs_7 rfl rfl)) ?_
     refine q_v 151 (.bool (true)) (o_eq (o_gtr (m := nb) (n := 0) rfl (pe hs_7 rfl rfl) rfl) (by rw [decide_eq_true (by omega)])) ?_
     refine q_mv (pe hs_7 rfl rfl) ?_
     refine op_valG (e := 152) (d := 153) (v := .int .i64 ((I : Nat) : Int)) rfl rfl (by kernel_rfl) (pe hs_7 rfl rfl) (o_move rfl ((pm rfl).trans ta_5_33)) ?_
     refine op_valG (e := 152) (d := 154) (v := .bool (true)) rfl rfl (by kernel_rfl) (pe hs_7 rfl rfl) (o_eq (o_lss (m := I) (n := 60) rfl (pe hs_7 rfl rfl) rfl) (by rw [decide_eq_true (by omega)])) ?_
     refine q_v 155 (.bool (true)) (o_pickT rfl (pe hs_7 rfl rfl) (pe hs_7 rfl rfl)) ?_
     refine x_nil (hK_34 _ _ ?_)
     refine w2_condT (pe hs_7 rfl rfl) ?_
     refine w2_skip ?_
     refine hK_33 _ _ ?_
     refine w2_seq (fun K_36 hK_36 => ?_)
     refine w2_block (fun K_37 hK_37 => ?_)
     refine w2_sr (fun K_38 hK_38 => ?_)
     refine q_mv ((pm rfl).trans ta_5_26) ?_
     refine q_v 159 (.int .i64 ((nb : Nat) : Int)) (o_len rfl (pe hs_7 rfl rfl)) ?_
     refine q_at (pe hs_7 rfl rfl) ?_
     refine x_nil (hK_38 _ _ ?_)
     refine x_cut (fun aa ww => ∃ (kk : Nat), aa.tmps.size = 232 ∧ aa.defers = [] ∧ aa.eval (.tmp 3) = .slice Ac (nc) (cc) ∧ aa.eval (.tmp 23) = .pointer (some ⟨g_6, 0, none⟩) ∧ aa.eval (.tmp 25) = .pointer (some ⟨g_8, 0, none⟩) ∧ aa.eval (.tmp 26) = .slice Ab (nb) (cb) ∧ aa.eval (.tmp 33) = .int .i64 ((I : Nat) : Int) ∧ aa.eval (.tmp 34) = .int .i64 ((kk : Nat) : Int) ∧ kk ≤ nb ∧ ReaderAt ww Mq g_6 g_2 rd ∧ EndAt ww Me g_8 g_4 rd ∧ Wt ww Ab cb U6 ∧ Below w.heap.size w ww) (fun K_39 hK_39 => ?_) ?_
     ·skip
      refine w2_sr (fun K_40 hK_40 => ?_)
      refine q_mv ((pm rfl).trans ta_5_33) ?_
      refine q_mv ((pm rfl).trans ta_5_3) ?_
      refine q_v 162 (.int .i64 ((nc : Nat) : Int)) (o_lenI rfl (pe hs_7 rfl rfl)) ?_
      refine q_v 163 (.bool (decide (I < nc))) (o_lss (m := I) (n := nc) rfl (pe hs_7 rfl rfl) (pe hs_7 rfl rfl)) ?_
      refine x_nil (hK_40 _ _ ?_)
      refine w2_split (pe hs_7 rfl rfl) (fun h_3 => ?_) (fun h_3 => ?_)
      ·simp only [DD9] at h_3
       have q3 : I < nc := h_3
       obtain ⟨gq, oq, zc, hAc, hcc⟩ := hcut I q3
       have hmd := Nat.mod_lt (at64 zc) (show 0 < nb + 1 by omega)
       have hzc := at64_lt zc
       refine x_region (by kernel_rfl) ?_
       refine q_mv ((pm rfl).trans ta_5_3) ?_
       refine q_mv ((pm rfl).trans ta_5_33) ?_
       refine q_v 166 (.pointer (atA Ac (I))) (o_ixI (k := I) rfl (pe hs_7 rfl rfl) (pe hs_7 rfl rfl) q3 (by rw [hAc]; rfl)) ?_
       refine q_v 167 (.int .i64 (zc)) (o_loadC rfl (pe hs_7 rfl rfl) hAc ((HBM.cell (p := ⟨gq, oq + I, none⟩) (World.block_lt_of_cell? w _ hcc)).trans hcc) ⟨by kernel_rfl, by kernel_rfl⟩) ?_
       refine q_v 168 (.int .u64 ((at64 zc : Nat) : Int)) (o_convZ rfl (pe hs_7 rfl rfl) ⟨.int .i64, fun _ => by kernel_rfl⟩ (fun _ => by kernel_rfl)) ?_
       refine q_mv ((pm rfl).trans ta_5_26) ?_
       refine q_v 170 (.int .i64 ((nb : Nat) : Int)) (o_len rfl (pe hs_7 rfl rfl)) ?_
       refine q_v 171 (.int .i64 ((nb + 1 : Nat) : Int)) (o_add64 (m := nb) (n := 1) rfl (pe hs_7 rfl rfl) rfl (by omega)) ?_
       refine q_v 172 (.int .u64 ((nb + 1 : Nat) : Int)) (o_conv (m := (nb + 1)) (r := nb + 1) rfl (pe hs_7 rfl rfl) ⟨.int .i64, fun _ => by kernel_rfl⟩ (fun _ => by kernel_rfl) (by rw [IntKind.wrap_u64]; omega)) ?_
       refine q_v 173 (.int .u64 (((at64 zc) % (nb + 1) : Nat) : Int)) (o_rem (m := (at64 zc)) (n := (nb + 1)) rfl (pe hs_7 rfl rfl) (pe hs_7 rfl rfl) (by omega) (by rw [IntKind.wrap_u64]; omega)) ?_
       refine q_v 174 (.int .i64 (((at64 zc) % (nb + 1) : Nat) : Int)) (o_conv (m := ((at64 zc) % (nb + 1))) (r := (at64 zc) % (nb + 1)) rfl (pe hs_7 rfl rfl) ⟨.int .u64, fun _ => by kernel_rfl⟩ (fun _ => by kernel_rfl) (IntWalk.i64_in _ (by omega))) ?_
       refine q_at (pe hs_7 rfl rfl) ?_
       refine x_nil ?_
       exact hK_39 _ _ ⟨(at64 zc % (nb + 1)), (by rw [putsR_size]; exact hs_7), (by rw [putsR_defers]; exact hd_5), ((pm rfl).trans ta_5_3), ((pm rfl).trans ta_5_23), ((pm rfl).trans ta_5_25), ((pm rfl).trans ta_5_26), ((pm rfl).trans ta_5_33), (pe hs_7 rfl rfl), (by omega), hLr6, hLn6, hWa6, HBM⟩
      ·simp only [DD9] at h_3
       refine w2_skip ?_
       exact hK_39 _ _ ⟨nb, (by rw [putsR_size]; exact hs_7), (by rw [putsR_defers]; exact hd_5), ((pm rfl).trans ta_5_3), ((pm rfl).trans ta_5_23), ((pm rfl).trans ta_5_25), ((pm rfl).trans ta_5_26), ((pm rfl).trans ta_5_33), (pe hs_7 rfl rfl), (by omega), hLr6, hLn6, hWa6, HBM⟩
     ·skip
      clear ta_5_3 ta_5_23 ta_5_25 ta_5_26 ta_5_33 hd_5 hLr6 hLn6 hWa6 HBM
      rintro a_6 w_20 ⟨kk, hs_8, hd_6, ta_6_3, ta_6_23, ta_6_25, ta_6_26, ta_6_33, ta_6_34, hkk, hLr7, hLn7, hWa7, HBK⟩
      have hkl : (U6.take kk).length = kk := List.length_take_of_le (by omega)
      have hcb := hWa7.le
      rw [p3] at hcb
      rcases hfd : feedA rd (U6.take kk) with ⟨r2, er, ou⟩
      obtain ⟨v1, v2, v3, v4⟩ := feedA_bound hfd
      rw [hkl] at v1 v2 v3 v4
      refine w2_seq (fun K_41 hK_41 => ?_)
      have hS_1 := hWa7.first (n := kk) (by omega)
      refine x_region (by kernel_rfl) ?_
      refine q_mv ((pm rfl).trans ta_6_23) ?_
      refine q_mv ((pm rfl).trans ta_6_26) ?_
      refine q_mv ((pm rfl).trans ta_6_34) ?_
      refine q_v 179 (.slice ((subA Ab 0 cb)) (kk) (cb)) (o_sliceH (h := kk) rfl (pe hs_8 rfl rfl) (pe hs_8 rfl rfl) (by omega)) ?_
      refine q_ca (vs := #[.pointer (some ⟨g_6, 0, none⟩), .slice ((subA Ab 0 cb)) (kk) (cb)]) Try.func23 (args2 (pe hs_8 rfl rfl) (pe hs_8 rfl rfl)) (FeedA_any _ hLr7 hS_1 hkl hfd (by omega) (by omega) (by omega)) (fun e_13 w_21 hR_15 => ?_)
      obtain ⟨ps_1, A_5, c_5, rfl, hm_3, hRw_1, hAO_1, ⟨M_11, hR_16, hN_7, hs_9, hs_10⟩, hX_5⟩ := hR_15
      have sp_53 : Sep Me M_11 := hN_7.sep (s3.symm) hLn7.lt
      have sp_54 : Sep (blkA A_5) Me := (Sep.new hLn7.lt hRw_1.ge').symm
      have sp_55 : Sep (blkP ps_1) Me := (Sep.new hLn7.lt hAO_1.ge').symm
      have sp_56 : Sep (blkA Ab) M_11 := hN_7.sep (s1) hWa7.lt
      replace hLn7 := hLn7.keepM hX_5 (s3.symm)
      replace hWa7 := hWa7.keepM hX_5 (s1)
      have gg_13 := hN_7.ge g1 HBK.size
      replace hRw_1 := hRw_1.mono HBK.size
      replace hAO_1 := hAO_1.mono HBK.size
      have HB_15 := hX_5.below HBK HBK.size g1
      refine ⟨_, rfl, ?_⟩
      refine q_mv (pe hs_8 rfl rfl) ?_
      refine q_ex (v := .slice A_5 (ps_1.length) (c_5)) (pe hs_8 rfl rfl) rfl ?_
      refine q_ex (v := .int .i64 ((er : Nat) : Int)) (pe hs_8 rfl rfl) rfl ?_
      refine q_at (pe hs_8 rfl rfl) ?_
      refine q_at (pe hs_8 rfl rfl) ?_
      refine x_nil (hK_41 _ _ ?_)
      refine w2_seq (fun K_42 hK_42 => ?_)
      have hS_2 := hWa7.first (n := kk) (by omega)
      refine x_region (by kernel_rfl) ?_
      refine q_mv ((pm rfl).trans ta_6_25) ?_
      refine q_mv ((pm rfl).trans ta_6_26) ?_
      refine q_mv ((pm rfl).trans ta_6_34) ?_
      refine q_v 187 (.slice ((subA Ab 0 cb)) (kk) (cb)) (o_sliceH (h := kk) rfl (pe hs_8 rfl rfl) (pe hs_8 rfl rfl) (by omega)) ?_
      refine q_ca (vs := #[.pointer (some ⟨g_8, 0, none⟩), .slice ((subA Ab 0 cb)) (kk) (cb)]) Try.func24 (args2 (pe hs_8 rfl rfl) (pe hs_8 rfl rfl)) (EFeedA_any _ hLn7 hS_2 hkl hfd (by omega) (by omega) (by omega)) (fun e_14 w_22 hR_17 => ?_)
      obtain ⟨ps_2, A_6, c_6, rfl, hm_4, hRw_2, hAO_2, ⟨M_12, hR_18, hN_8, hs_11, hs_12⟩, hX_6⟩ := hR_17
      have sp_59 : Sep (blkA Ab) M_12 := hN_8.sep (s2) hWa7.lt
      have sp_62 : Sep M_11 M_12 := hN_8.sep (sp_53.symm) hR_16.lt
      replace hWa7 := hWa7.keepM hX_6 (s2)
      replace hR_16 := hR_16.keepM hX_6 (sp_53.symm)
      replace hRw_1 := hRw_1.keepM hX_6 (sp_54)
      replace hAO_1 := hAO_1.keepM hX_6 (sp_55)
      have gg_14 := hN_8.ge g2 HB_15.size
      replace hRw_2 := hRw_2.mono HB_15.size
      replace hAO_2 := hAO_2.mono HB_15.size
      have HB_16 := hX_6.below HB_15 HB_15.size g2
      refine ⟨_, rfl, ?_⟩
      refine q_mv (pe hs_8 rfl rfl) ?_
      refine q_ex (v := .slice A_6 (ps_2.length) (c_6)) (pe hs_8 rfl rfl) rfl ?_
      refine q_ex (v := .int .i64 ((er : Nat) : Int)) (pe hs_8 rfl rfl) rfl ?_
      refine q_at (pe hs_8 rfl rfl) ?_
      refine q_at (pe hs_8 rfl rfl) ?_
      refine x_nil (hK_42 _ _ ?_)
      refine w2_sr (fun K_43 hK_43 => ?_)
      refine q_mv ((pm rfl).trans ta_6_26) ?_
      refine q_mv ((pm rfl).trans ta_6_34) ?_
      refine q_v 193 (.slice ((subA Ab kk cb)) (nb - kk) (cb - kk)) (o_sliceL (l := kk) rfl (pe hs_8 rfl rfl) (pe hs_8 rfl rfl) (by omega)) ?_
      refine q_at (pe hs_8 rfl rfl) ?_
      refine x_nil (hK_43 _ _ ?_)
      refine w2_seq (fun K_44 hK_44 => ?_)
      have hl_ps_1 : ps_1.length ≤ 1000000 := by have h9 := congrArg List.length hm_3; rw [List.length_map] at h9; omega
      have hl_ps_2 : ps_2.length ≤ 1000000 := by have h9 := congrArg List.length hm_4; rw [List.length_map] at h9; omega
      obtain ⟨Ne_2, Ae_2, ce_2, ze_2, hPe_2, _⟩ := hR_18.row
      have hBe_2 : Blk w_22 g_8 #[.pointer (some ⟨g_4, 0, none⟩), .int .i64 ((r2.co.every : Nat) : Int), .int .i64 ((r2.co.cnt : Nat) : Int), .slice Ae_2 (r2.wait.length) ce_2, .int .i64 ((ze_2 : Nat) : Int), .bool (r2.dead)] 51 := hPe_2.blk
      refine x_drawn 35 ((fun _ v => v = .slice A_5 (ps_1.length) (c_5)) :: (fun _ v => v = .slice A_6 (ps_2.length) (c_6)) :: (fun ww vv => vv = .bool (true)) :: (fun _ v => v = .bool (false)) :: (fun _ v => v = .bool (false)) :: (fun _ v => v = .int .i64 ((er : Nat) : Int)) :: (fun _ v => v = .int .i64 ((er : Nat) : Int)) :: (fun _ v => v = .bool (false)) :: (fun _ v => v = .bool (false)) :: (fun _ v => v = .bool (false)) :: (fun _ v => v = .pointer (some ⟨g_6, 0, none⟩)) :: (fun ww vv => vv = .bool (r2.dead)) :: (fun _ v => v = .pointer (some ⟨g_8, 0, none⟩)) :: (fun _ v => v = .pointer (some ⟨g_8, 0, none⟩)) :: (fun _ v => v = .pointer (some ⟨g_8, 5, none⟩)) :: (fun _ v => v = .bool (r2.dead)) :: (fun _ v => v = .bool (false)) :: (fun _ v => v = .bool (false)) :: (fun _ v => v = .bool (false)) :: (fun _ v => v = .pointer (some ⟨g_6, 0, none⟩)) :: (fun ww vv => vv = .int .i64 ((r2.wait.length : Nat) : Int)) :: (fun _ v => v = .pointer (some ⟨g_8, 0, none⟩)) :: (fun _ v => v = .pointer (some ⟨g_8, 0, none⟩)) :: (fun _ v => v = .pointer (some ⟨g_8, 3, none⟩)) :: (fun _ v => v = .slice Ae_2 (r2.wait.length) (ce_2)) :: (fun _ v => v = .int .i64 ((r2.wait.length : Nat) : Int)) :: (fun _ v => v = .bool (false)) :: (fun _ v => v = .bool (false)) :: (fun _ v => v = .bool (false)) :: (fun _ v => v = .pointer (some ⟨g_6, 0, none⟩)) :: (fun ww vv => vv = .int .i64 ((r2.co.cnt : Nat) : Int)) :: (fun _ v => v = .pointer (some ⟨g_8, 0, none⟩)) :: (fun _ v => v = .pointer (some ⟨g_8, 0, none⟩)) :: (fun _ v => v = .pointer (some ⟨g_8, 2, none⟩)) :: (fun _ v => v = .int .i64 ((r2.co.cnt : Nat) : Int)) :: []) [194, 195, 196, 197, 198, 199, 200, 201, 202, 203, 204, 205, 206, 207, 208, 209, 210, 211, 212, 213, 214, 215, 216, 217, 218, 219, 220, 221, 222, 223, 224, 225, 226, 227, 228] hs_8 hd_6 (by kernel_rfl) (by kernel_rfl) (by kernel_rfl) (by kernel_rfl) (by kernel_rfl) ⟨stLit, stLit, stLit, stLit, stLit, stLit, stLit, stLit, stLit, stLit, stLit, stLit, stLit, stLit, stLit, stLit, stLit, stLit, stLit, stLit, stLit, stLit, stLit, stLit, stLit, stLit, stLit, stLit, stLit, stLit, stLit, stLit, stLit, stLit, stLit, trivial⟩ ⟨(step_ok rfl (fun a' w' hb' hO hD => by
        have d_21 : a'.eval (.tmp 35) = .slice A_5 (ps_1.length) (c_5) := (hO 35 (by decide)).trans (pe hs_8 rfl rfl)
        exact .inl ⟨_, _, (o_move rfl d_21), rfl, Below.refl _ _⟩)),
(step_ok rfl (fun a' w' hb' hO hD => by
        have d_22 : a'.eval (.tmp 37) = .slice A_6 (ps_2.length) (c_6) := (hO 37 (by decide)).trans (pe hs_8 rfl rfl)
        exact .inl ⟨_, _, (o_move rfl d_22), rfl, Below.refl _ _⟩)),
(step_ok rfl (fun a' w' hb' hO hD => by
        have d_23 : a'.eval (.tmp 194) = .slice A_5 (ps_1.length) (c_5) := hD 0 194 (by kernel_rfl) rfl
        have d_24 : a'.eval (.tmp 195) = .slice A_6 (ps_2.length) (c_6) := hD 1 195 (by kernel_rfl) rfl
        exact .inr ⟨_, #[.slice A_5 (ps_1.length) (c_5), .slice A_6 (ps_2.length) (c_6)], (exec_call Try.func25 (by kernel_rfl) (by kernel_rfl) _ rfl _ _ (args2 d_23 d_24)), Calls.mono (same_any _ (hRw_1.nx hb') (hRw_2.nx hb') ((hAO_1.nx hb')).bs ((hAO_2.nx hb')).bs (by rw [hm_3, hm_4]) rfl rfl (by omega)) (fun e w'' hR => by obtain ⟨rfl, hb_14⟩ := hR; exact ⟨_, rfl, rfl, hb_14⟩)⟩)),
(step_ok rfl (fun a' w' hb' hO hD => by
        have d_25 : a'.eval (.tmp 196) = .bool (true) := hD 2 196 (by kernel_rfl) rfl
        exact .inl ⟨_, _, (o_not (b := true) rfl d_25), rfl, Below.refl _ _⟩)),
(step_ok rfl (fun a' w' hb' hO hD => by
        have d_26 : a'.eval (.tmp 197) = .bool (false) := hD 3 197 (by kernel_rfl) rfl
        exact .inl ⟨_, _, (o_move rfl d_26), rfl, Below.refl _ _⟩)),
(step_yes 4 false 198 rfl rfl (by kernel_rfl) (fun _ _ h => h) (fun a' w' hb' hO hD => by
        have d_27 : a'.eval (.tmp 36) = .int .i64 ((er : Nat) : Int) := (hO 36 (by decide)).trans (pe hs_8 rfl rfl)
        exact .inl ⟨_, _, (o_move rfl d_27), rfl, Below.refl _ _⟩)),
(step_yes 4 false 198 rfl rfl (by kernel_rfl) (fun _ _ h => h) (fun a' w' hb' hO hD => by
        have d_28 : a'.eval (.tmp 38) = .int .i64 ((er : Nat) : Int) := (hO 38 (by decide)).trans (pe hs_8 rfl rfl)
        exact .inl ⟨_, _, (o_move rfl d_28), rfl, Below.refl _ _⟩)),
(step_yes 4 false 198 rfl rfl (by kernel_rfl) (fun _ _ h => h) (fun a' w' hb' hO hD => by
        have d_29 : a'.eval (.tmp 199) = .int .i64 ((er : Nat) : Int) := hD 5 199 (by kernel_rfl) rfl
        have d_30 : a'.eval (.tmp 200) = .int .i64 ((er : Nat) : Int) := hD 6 200 (by kernel_rfl) rfl
        have e0 : (.bool (!decide (er = er)) : Value) = .bool (false) := (by simp)
        exact .inl ⟨_, _, (o_neq (m := er) (n := er) rfl d_29 d_30), e0, Below.refl _ _⟩)),
(step_ok rfl (fun a' w' hb' hO hD => by
        have d_31 : a'.eval (.tmp 198) = .bool (false) := hD 4 198 (by kernel_rfl) rfl
        have d_32 : a'.eval (.tmp 201) = .bool (false) := hD 7 201 (by kernel_rfl) rfl
        exact .inl ⟨_, _, (o_pickF rfl d_31 d_32), rfl, Below.refl _ _⟩)),
(step_ok rfl (fun a' w' hb' hO hD => by
        have d_33 : a'.eval (.tmp 202) = .bool (false) := hD 8 202 (by kernel_rfl) rfl
        exact .inl ⟨_, _, (o_move rfl d_33), rfl, Below.refl _ _⟩)),
(step_yes 9 false 203 rfl rfl (by kernel_rfl) (fun _ _ h => h) (fun a' w' hb' hO hD => by
        have d_34 := (hO 23 (by decide)).trans ((pm rfl).trans ta_6_23)
        exact .inl ⟨_, _, (o_move rfl d_34), rfl, Below.refl _ _⟩)),
(step_yes 9 false 203 rfl rfl (by kernel_rfl) (fun _ _ h => h) (fun a' w' hb' hO hD => by
        have d_35 : a'.eval (.tmp 204) = .pointer (some ⟨g_6, 0, none⟩) := hD 10 204 (by kernel_rfl) rfl
        exact .inr ⟨_, #[.pointer (some ⟨g_6, 0, none⟩)], (exec_call Try.func26 (by kernel_rfl) (by kernel_rfl) _ rfl _ _ (args1 d_35)), Calls.mono (Dead_any _ (hR_16.nx hb')) (fun e w'' hR => by obtain ⟨rfl, rfl⟩ := hR; exact ⟨_, rfl, rfl, (Below.refl _ _)⟩)⟩)),
(step_yes 9 false 203 rfl rfl (by kernel_rfl) (fun _ _ h => h) (fun a' w' hb' hO hD => by
        have d_36 := (hO 25 (by decide)).trans ((pm rfl).trans ta_6_25)
        exact .inl ⟨_, _, (o_move rfl d_36), rfl, Below.refl _ _⟩)),
(step_yes 9 false 203 rfl rfl (by kernel_rfl) (fun _ _ h => h) (fun a' w' hb' hO hD => by
        have d_37 : a'.eval (.tmp 206) = .pointer (some ⟨g_8, 0, none⟩) := hD 12 206 (by kernel_rfl) rfl
        exact .inl ⟨_, _, (o_nilCheck rfl d_37), rfl, Below.refl _ _⟩)),
(step_yes 9 false 203 rfl rfl (by kernel_rfl) (fun _ _ h => h) (fun a' w' hb' hO hD => by
        have d_38 : a'.eval (.tmp 207) = .pointer (some ⟨g_8, 0, none⟩) := hD 13 207 (by kernel_rfl) rfl
        exact .inl ⟨_, _, (o_field (k' := 5) rfl d_38 (fun _ => by kernel_rfl)), rfl, Below.refl _ _⟩)),
(step_yes 9 false 203 rfl rfl (by kernel_rfl) (fun _ _ h => h) (fun a' w' hb' hO hD => by
        have d_39 : a'.eval (.tmp 208) = .pointer (some ⟨g_8, 5, none⟩) := hD 14 208 (by kernel_rfl) rfl
        exact .inl ⟨_, _, (o_load1 rfl d_39 (hBe_2.nx hb') rfl ⟨by kernel_rfl, by kernel_rfl⟩), rfl, Below.refl _ _⟩)),
(step_yes 9 false 203 rfl rfl (by kernel_rfl) (fun _ _ h => h) (fun a' w' hb' hO hD => by
        have d_40 : a'.eval (.tmp 205) = .bool (r2.dead) := hD 11 205 (by kernel_rfl) rfl
        have d_41 : a'.eval (.tmp 209) = .bool (r2.dead) := hD 15 209 (by kernel_rfl) rfl
        have e0 : (.bool (! (r2.dead == r2.dead)) : Value) = .bool (false) := (by simp)
        exact .inl ⟨_, _, (o_neB rfl d_40 d_41 (fun _ => by kernel_rfl)), e0, Below.refl _ _⟩)),
(step_ok rfl (fun a' w' hb' hO hD => by
        have d_42 : a'.eval (.tmp 203) = .bool (false) := hD 9 203 (by kernel_rfl) rfl
        have d_43 : a'.eval (.tmp 210) = .bool (false) := hD 16 210 (by kernel_rfl) rfl
        exact .inl ⟨_, _, (o_pickF rfl d_42 d_43), rfl, Below.refl _ _⟩)),
(step_ok rfl (fun a' w' hb' hO hD => by
        have d_44 : a'.eval (.tmp 211) = .bool (false) := hD 17 211 (by kernel_rfl) rfl
        exact .inl ⟨_, _, (o_move rfl d_44), rfl, Below.refl _ _⟩)),
(step_yes 18 false 212 rfl rfl (by kernel_rfl) (fun _ _ h => h) (fun a' w' hb' hO hD => by
        have d_45 := (hO 23 (by decide)).trans ((pm rfl).trans ta_6_23)
        exact .inl ⟨_, _, (o_move rfl d_45), rfl, Below.refl _ _⟩)),
(step_yes 18 false 212 rfl rfl (by kernel_rfl) (fun _ _ h => h) (fun a' w' hb' hO hD => by
        have d_46 : a'.eval (.tmp 213) = .pointer (some ⟨g_6, 0, none⟩) := hD 19 213 (by kernel_rfl) rfl
        exact .inr ⟨_, #[.pointer (some ⟨g_6, 0, none⟩)], (exec_call Try.func27 (by kernel_rfl) (by kernel_rfl) _ rfl _ _ (args1 d_46)), Calls.mono (RLeft_any _ (hR_16.nx hb')) (fun e w'' hR => by obtain ⟨rfl, rfl⟩ := hR; exact ⟨_, rfl, rfl, (Below.refl _ _)⟩)⟩)),
(step_yes 18 false 212 rfl rfl (by kernel_rfl) (fun _ _ h => h) (fun a' w' hb' hO hD => by
        have d_47 := (hO 25 (by decide)).trans ((pm rfl).trans ta_6_25)
        exact .inl ⟨_, _, (o_move rfl d_47), rfl, Below.refl _ _⟩)),
(step_yes 18 false 212 rfl rfl (by kernel_rfl) (fun _ _ h => h) (fun a' w' hb' hO hD => by
        have d_48 : a'.eval (.tmp 215) = .pointer (some ⟨g_8, 0, none⟩) := hD 21 215 (by kernel_rfl) rfl
        exact .inl ⟨_, _, (o_nilCheck rfl d_48), rfl, Below.refl _ _⟩)),
(step_yes 18 false 212 rfl rfl (by kernel_rfl) (fun _ _ h => h) (fun a' w' hb' hO hD => by
        have d_49 : a'.eval (.tmp 216) = .pointer (some ⟨g_8, 0, none⟩) := hD 22 216 (by kernel_rfl) rfl
        exact .inl ⟨_, _, (o_field (k' := 3) rfl d_49 (fun _ => by kernel_rfl)), rfl, Below.refl _ _⟩)),
(step_yes 18 false 212 rfl rfl (by kernel_rfl) (fun _ _ h => h) (fun a' w' hb' hO hD => by
        have d_50 : a'.eval (.tmp 217) = .pointer (some ⟨g_8, 3, none⟩) := hD 23 217 (by kernel_rfl) rfl
        exact .inl ⟨_, _, (o_load1 rfl d_50 (hBe_2.nx hb') rfl ⟨by kernel_rfl, by kernel_rfl⟩), rfl, Below.refl _ _⟩)),
(step_yes 18 false 212 rfl rfl (by kernel_rfl) (fun _ _ h => h) (fun a' w' hb' hO hD => by
        have d_51 : a'.eval (.tmp 218) = .slice Ae_2 (r2.wait.length) (ce_2) := hD 24 218 (by kernel_rfl) rfl
        exact .inl ⟨_, _, (o_len rfl d_51), rfl, Below.refl _ _⟩)),
(step_yes 18 false 212 rfl rfl (by kernel_rfl) (fun _ _ h => h) (fun a' w' hb' hO hD => by
        have d_52 : a'.eval (.tmp 214) = .int .i64 ((r2.wait.length : Nat) : Int) := hD 20 214 (by kernel_rfl) rfl
        have d_53 : a'.eval (.tmp 219) = .int .i64 ((r2.wait.length : Nat) : Int) := hD 25 219 (by kernel_rfl) rfl
        have e0 : (.bool (!decide (r2.wait.length = r2.wait.length)) : Value) = .bool (false) := (by simp)
        exact .inl ⟨_, _, (o_neq (m := r2.wait.length) (n := r2.wait.length) rfl d_52 d_53), e0, Below.refl _ _⟩)),
(step_ok rfl (fun a' w' hb' hO hD => by
        have d_54 : a'.eval (.tmp 212) = .bool (false) := hD 18 212 (by kernel_rfl) rfl
        have d_55 : a'.eval (.tmp 220) = .bool (false) := hD 26 220 (by kernel_rfl) rfl
        exact .inl ⟨_, _, (o_pickF rfl d_54 d_55), rfl, Below.refl _ _⟩)),
(step_ok rfl (fun a' w' hb' hO hD => by
        have d_56 : a'.eval (.tmp 221) = .bool (false) := hD 27 221 (by kernel_rfl) rfl
        exact .inl ⟨_, _, (o_move rfl d_56), rfl, Below.refl _ _⟩)),
(step_yes 28 false 222 rfl rfl (by kernel_rfl) (fun _ _ h => h) (fun a' w' hb' hO hD => by
        have d_57 := (hO 23 (by decide)).trans ((pm rfl).trans ta_6_23)
        exact .inl ⟨_, _, (o_move rfl d_57), rfl, Below.refl _ _⟩)),
(step_yes 28 false 222 rfl rfl (by kernel_rfl) (fun _ _ h => h) (fun a' w' hb' hO hD => by
        have d_58 : a'.eval (.tmp 223) = .pointer (some ⟨g_6, 0, none⟩) := hD 29 223 (by kernel_rfl) rfl
        exact .inr ⟨_, #[.pointer (some ⟨g_6, 0, none⟩)], (exec_call Try.func28 (by kernel_rfl) (by kernel_rfl) _ rfl _ _ (args1 d_58)), Calls.mono (RCount_any _ (hR_16.nx hb')) (fun e w'' hR => by obtain ⟨rfl, rfl⟩ := hR; exact ⟨_, rfl, rfl, (Below.refl _ _)⟩)⟩)),
(step_yes 28 false 222 rfl rfl (by kernel_rfl) (fun _ _ h => h) (fun a' w' hb' hO hD => by
        have d_59 := (hO 25 (by decide)).trans ((pm rfl).trans ta_6_25)
        exact .inl ⟨_, _, (o_move rfl d_59), rfl, Below.refl _ _⟩)),
(step_yes 28 false 222 rfl rfl (by kernel_rfl) (fun _ _ h => h) (fun a' w' hb' hO hD => by
        have d_60 : a'.eval (.tmp 225) = .pointer (some ⟨g_8, 0, none⟩) := hD 31 225 (by kernel_rfl) rfl
        exact .inl ⟨_, _, (o_nilCheck rfl d_60), rfl, Below.refl _ _⟩)),
(step_yes 28 false 222 rfl rfl (by kernel_rfl) (fun _ _ h => h) (fun a' w' hb' hO hD => by
        have d_61 : a'.eval (.tmp 226) = .pointer (some ⟨g_8, 0, none⟩) := hD 32 226 (by kernel_rfl) rfl
        exact .inl ⟨_, _, (o_field (k' := 2) rfl d_61 (fun _ => by kernel_rfl)), rfl, Below.refl _ _⟩)),
(step_yes 28 false 222 rfl rfl (by kernel_rfl) (fun _ _ h => h) (fun a' w' hb' hO hD => by
        have d_62 : a'.eval (.tmp 227) = .pointer (some ⟨g_8, 2, none⟩) := hD 33 227 (by kernel_rfl) rfl
        exact .inl ⟨_, _, (o_load1 rfl d_62 (hBe_2.nx hb') rfl ⟨by kernel_rfl, by kernel_rfl⟩), rfl, Below.refl _ _⟩)), trivial⟩ (fun a_7 w_23 hs_13 hd_7 hb_18 hO_2 hV_2 => ?_)
      have ta_7_23 := (hO_2 23 (by decide)).trans ((pm rfl).trans ta_6_23)
      have ta_7_25 := (hO_2 25 (by decide)).trans ((pm rfl).trans ta_6_25)
      have ta_7_26 : a_7.eval (.tmp 26) = .slice ((subA Ab kk cb)) (nb - kk) (cb - kk) := (hO_2 26 (by decide)).trans (pe hs_8 rfl rfl)
      have ta_7_3 := (hO_2 3 (by decide)).trans ((pm rfl).trans ta_6_3)
      have ta_7_33 := (hO_2 33 (by decide)).trans ((pm rfl).trans ta_6_33)
      clear ta_6_23 ta_6_25 ta_6_26 ta_6_34 ta_6_3 ta_6_33 hd_6
      replace hWa7 := hWa7.nx hb_18
      replace hR_16 := hR_16.nx hb_18
      replace hRw_1 := hRw_1.nx hb_18
      replace hAO_1 := hAO_1.nx hb_18
      replace hR_18 := hR_18.nx hb_18
      replace hRw_2 := hRw_2.nx hb_18
      replace hAO_2 := hAO_2.nx hb_18
      replace hBe_2 := hBe_2.nx hb_18
      have HB_17 := below_from HB_16 hb_18
      have ta_7_222 : a_7.eval (.tmp 222) = .bool (false) := hV_2 28 222 rfl rfl
      have ta_7_224 : a_7.eval (.tmp 224) = .int .i64 ((r2.co.cnt : Nat) : Int) := hV_2 30 224 rfl rfl
      have ta_7_228 : a_7.eval (.tmp 228) = .int .i64 ((r2.co.cnt : Nat) : Int) := hV_2 34 228 rfl rfl
      clear hV_2 hO_2
      simp only [List.drop_succ_cons, List.drop_zero]
      refine op_valG (e := 222) (d := 229) (v := .bool (false)) rfl rfl (by kernel_rfl) ((pm rfl).trans ta_7_222) (o_eq (o_neq (m := r2.co.cnt) (n := r2.co.cnt) rfl ((pm rfl).trans ta_7_224) ((pm rfl).trans ta_7_228)) (by simp)) ?_
      refine q_v 230 (.bool (false)) (o_pickF rfl ((pm rfl).trans ta_7_222) (pe hs_13 rfl rfl)) ?_
      refine x_nil (hK_44 _ _ ?_)
      refine w2_condF (pe hs_13 rfl rfl) ?_
      refine w2_skip ?_
      refine hK_37 _ _ ?_
      refine hK_36 _ _ ?_
      refine x_region (by kernel_rfl) ?_
      refine q_mv ((pm rfl).trans ta_7_33) ?_
      refine q_v 157 (.int .i64 ((I + 1 : Nat) : Int)) (o_add64 (m := I) (n := 1) rfl (pe hs_13 rfl rfl) rfl (by omega)) ?_
      refine q_at (pe hs_13 rfl rfl) ?_
      refine x_nil ?_
      refine hK_32 _ _ _ ⟨I + 1, M_11, M_12, (subA Ab kk cb), nb - kk, cb - kk, U6.drop kk, r2, rfl, (by rw [putsR_size]; exact hs_13), (by rw [putsR_defers]; exact hd_7), ((pm rfl).trans ta_7_3), ((pm rfl).trans ta_7_23), ((pm rfl).trans ta_7_25), ((pm rfl).trans ta_7_26), (pe hs_13 rfl rfl), hR_16, hR_18, (hWa7.drop (by omega)), (by rw [List.length_drop, p3]), (by omega), (by omega), (by omega), (fun j hj => (sp_56) j (blkA_sub hj)), (fun j hj => (sp_59) j (blkA_sub hj)), sp_62, gg_13, gg_14, (fun j hj => g3 j (blkA_sub hj)), HB_17⟩ ?_
      omega
    ·skip
     refine x_region (by kernel_rfl) ?_
     refine q_mv ((pm rfl).trans ta_5_26) ?_
     refine q_v 150 (.int .i64 ((nb : Nat) : Int)) (o_len rfl (pe hs_7 rfl rfl)) ?_
     refine q_v 151 (.bool (true)) (o_eq (o_gtr (m := nb) (n := 0) rfl (pe hs_7 rfl rfl) rfl) (by rw [decide_eq_true (by omega)])) ?_
     refine q_mv (pe hs_7 rfl rfl) ?_
     refine op_valG (e := 152) (d := 153) (v := .int .i64 ((I : Nat) : Int)) rfl rfl (by kernel_rfl) (pe hs_7 rfl rfl) (o_move rfl ((pm rfl).trans ta_5_33)) ?_
     refine op_valG (e := 152) (d := 154) (v := .bool (false)) rfl rfl (by kernel_rfl) (pe hs_7 rfl rfl) (o_eq (o_lss (m := I) (n := 60) rfl (pe hs_7 rfl rfl) rfl) (by rw [decide_eq_false (by omega)])) ?_
     refine q_v 155 (.bool (false)) (o_pickT rfl (pe hs_7 rfl rfl) (pe hs_7 rfl rfl)) ?_
     refine x_nil (hK_34 _ _ ?_)
     refine w2_condF (pe hs_7 rfl rfl) ?_
     refine w2_exit ?_
     refine thn_exit ?_
     refine thn_exit ?_
     refine exb_hit ?_
     refine hK_31 _ _ ?_
     refine hK_29 _ _ ?_
     refine w2_sr (fun K_45 hK_45 => ?_)
     refine q_ca (vs := #[]) Try.func29 (args0) (awake12_any _) (fun e_15 w_24 hR_19 => ?_)
     obtain ⟨rfl, hb_20⟩ := hR_19
     replace hLr6 := hLr6.nx hb_20
     replace hLn6 := hLn6.nx hb_20
     replace hWa6 := hWa6.nx hb_20
     have HB_18 := below_from HBM hb_20
     refine ⟨_, rfl, ?_⟩
     refine q_at (pe hs_7 rfl rfl) ?_
     refine x_nil (hK_45 _ _ ?_)
     refine w2_ret ?_
     refine ret1 rfl hd_5 (pe hs_7 rfl rfl) ?_
     exact ⟨rfl, HB_18⟩
end Go.Proofs.Ytggalcdkfielkaa
