/-
  WALKS: curve.Mult.
-/
import Derived.Test.YtdjdfmnjoilmkaaStep
import Derived.Test.YtdjdfmnjoilmkaaEqualW
namespace Go.Proofs.Ytdjdfmnjoilmkaa
open Go.RowKit
set_option linter.unusedVariables false
set_option linter.unusedSimpArgs false
set_option maxRecDepth 100000

/-- Bit i of the bytes ks. -/
def kbit (ks : List Nat) (i : Nat) : Nat := ks.getD (i / 8) 0 / 2 ^ (i % 8) % 2

/-- The ladder, behind K rounds. -/
def lad (ks : List Nat) (u : F) : Nat → F × F × F × F
  | 0 => (1, 0, u, 1)
  | K + 1 => match lad ks u K with
    | (x0, z0, x1, z1) => if kbit ks (254 - K) = 0 then (twiceX x0 z0, twiceZ x0 z0, bothX x0 z0 x1 z1, bothZ x0 z0 x1 z1 u) else (bothX x1 z1 x0 z0, bothZ x1 z1 x0 z0 u, twiceX x1 z1, twiceZ x1 z1)
def ladL (ks : List Nat) (u : F) (K : Nat) : List F := match lad ks u K with | (x0, z0, x1, z1) => [x0, z0, x1, z1]
theorem lad_0 {ks : List Nat} {u : F} {K : Nat} {x0 z0 x1 z1 : F} (h : lad ks u K = (x0, z0, x1, z1)) (hb : kbit ks (254 - K) = 0) : ladL ks u (K + 1) = [twiceX x0 z0, twiceZ x0 z0, bothX x0 z0 x1 z1, bothZ x0 z0 x1 z1 u] := by
  simp only [ladL, lad, h, hb, if_true]
theorem lad_1 {ks : List Nat} {u : F} {K : Nat} {x0 z0 x1 z1 : F} (h : lad ks u K = (x0, z0, x1, z1)) (hb : kbit ks (254 - K) = 1) : ladL ks u (K + 1) = [bothX x1 z1 x0 z0, bothZ x1 z1 x0 z0 u, twiceX x1 z1, twiceZ x1 z1] := by
  simp only [ladL, lad, h, hb]
  rfl
theorem ladL_eq {ks : List Nat} {u : F} {K : Nat} {x0 z0 x1 z1 : F} (h : lad ks u K = (x0, z0, x1, z1)) : ladL ks u K = [x0, z0, x1, z1] := by simp only [ladL, h]

/-- X25519 of bytes, as a number of the field. -/
def xmul (ks us : List Nat) : F := match lad (clampL ks) (numL us) 255 with | (x0, z0, _, _) => x0 * fi z0

section
variable {ops : Array Oper} {Q : Exit → Act → World → Prop} {o : Oper} {rest : List Oper} {a : Act} {w : World} {x y : Operand} {g : Nat} {T : TypeId}
theorem tail_val {v : Value} (hg : o.guard = none) (hr : (execOp a.eval o).run Try.prog w = .ok (.value v) w) (h : wpList Try.prog ops Q rest (a.put o.dst v) w) : wpList Try.prog ops Q (o :: rest) a w := by
  refine wpList_plain hg (fun K hK => ?_)
  unfold Oper.wp
  rw [hr]
  exact hK _ _ h
theorem tail_st2_0 {x0 x1 x2 x3 y0 y1 : F} (hg : o.guard = none) (hd : o.dst = none) (ho : o.op = .store 70 x y) (hx : a.eval x = .pointer (some ⟨g, 0, none⟩)) (hF : BlkF w g [x0, x1, x2, x3] T) (hV : AgV [y0, y1] (a.eval y))
    (h : ∀ w', BlkF w' g [y0, y1, x2, x3] T → BelowX (fun k => k = g) w w' → wpList Try.prog ops Q rest a w') : wpList Try.prog ops Q (o :: rest) a w := by
  obtain ⟨w', hr, h1, h2⟩ := st2_0 ho hx hF hV
  exact tail_skip hg hd hr (h w' h1 h2)
theorem tail_st2_1 {x0 x1 x2 x3 y0 y1 : F} (hg : o.guard = none) (hd : o.dst = none) (ho : o.op = .store 70 x y) (hx : a.eval x = .pointer (some ⟨g, 10, none⟩)) (hF : BlkF w g [x0, x1, x2, x3] T) (hV : AgV [y0, y1] (a.eval y))
    (h : ∀ w', BlkF w' g [x0, x1, y0, y1] T → BelowX (fun k => k = g) w w' → wpList Try.prog ops Q rest a w') : wpList Try.prog ops Q (o :: rest) a w := by
  obtain ⟨w', hr, h1, h2⟩ := st2_1 ho hx hF hV
  exact tail_skip hg hd hr (h w' h1 h2)
end

theorem clampL_length (xs : List Nat) : (clampL xs).length = xs.length := by simp [clampL]

theorem Own.blk {w : World} {base g c : Nat} {xs : List Nat} (h : Own w base (some ⟨g, 0, none⟩) c xs) (h0 : 0 < xs.length) : ∃ cur, Blk w g cur 5 ∧ ∀ i, i < xs.length → cur[i]? = some (.int .u8 ((xs.getD i 0 : Nat) : Int)) := by
  rcases h.row.2 with ⟨hv, hn⟩ | ⟨g', cap, cur, hv, hg, hh, _⟩
  · omega
  · simp only [Value.slice.injEq, Option.some.injEq, Addr.mk.injEq, and_true] at hv
    obtain ⟨rfl, _⟩ := hv
    refine ⟨cur, hh, fun i hi => ?_⟩
    obtain ⟨g2, hg2, _, _, hc, _⟩ := h.at h0
    simp only [Option.some.injEq, Addr.mk.injEq, and_true] at hg2
    subst hg2
    rw [← hc i hi]
    exact (Blk.cell hh i).symm

theorem kbit_lt (ks : List Nat) (i : Nat) : kbit ks i = 0 ∨ kbit ks i = 1 := by unfold kbit; omega
theorem bit_val (z m : Nat) (hz : z < 256) (hm : m < 8) : bits .and .u8 ((z : Int) / 2 ^ m) 1 = ((z / 2 ^ m % 2 : Nat) : Int) := by
  have : ∀ (k : Fin 256) (j : Fin 8), bits .and .u8 (((k.val : Nat) : Int) / 2 ^ j.val) 1 = ((k.val / 2 ^ j.val % 2 : Nat) : Int) := by decide +kernel
  exact this ⟨z, hz⟩ ⟨m, hm⟩

/-- A slice of the call's own, of these bytes. -/
def OwnV (B : Nat) (xs : List Nat) (w : World) (v : Value) : Prop := ∃ A c, v = .slice A xs.length c ∧ Own w B A c xs
theorem OwnV.old {B : Nat} {xs : List Nat} {w w' : World} {v : Value} (h : OwnV B xs w v) (hb : Below w.heap.size w w') : OwnV B xs w' v := by
  obtain ⟨A, c, hv, hO⟩ := h
  exact ⟨A, c, hv, hO.below hb⟩
theorem Own.of_blk {w : World} {B g : Nat} {xs : List Nat} (h : Blk w g (u8s xs).toArray 5) (hg : B ≤ g) (h8 : ∀ x ∈ xs, x < 256) (hl : xs.length ≤ 9223372036854775807) : Own w B (some ⟨g, 0, none⟩) xs.length xs :=
  ⟨⟨by simp [u8s], .inr ⟨g, xs.length, (u8s xs).toArray, rfl, hg, h, Nat.le_refl _, by unfold maxLen; omega, by simp [u8s], by rw [List.toList_toArray, Nat.mul_one]; exact List.take_of_length_le (by simp [u8s])⟩⟩, h8⟩
theorem Bytes_O {x : F} {u : Value} (hu : ElV x u) (w : World) (B : Nat) (hB : B ≤ w.heap.size) : Calls Try.prog 23 #[u] w fun e w' => ∃ r, e = .returned r ∧ OwnV B (byteL x.val) w' r ∧ Below w.heap.size w w' := by
  obtain ⟨a0, a1, a2, a3, a4, rfl, ha⟩ := hu
  refine (Bytes_any ha w).mono fun e w' ⟨g, he, hg, hB', hb⟩ => ⟨_, he, ⟨some ⟨g, 0, none⟩, (byteL x.val).length, by rw [byteL_length], ?_⟩, hb⟩
  rw [byteA_list] at hB'
  exact Own.of_blk hB' (Nat.le_trans hB hg) (byteL_lt _) (by rw [byteL_length]; omega)

theorem byteL_zero (x : F) : decide (byteL x.val = List.replicate 32 0) = decide (x.val = 0) := by
  apply decide_eq_decide.2
  have e0 : byteL 0 = List.replicate 32 0 := by decide +kernel
  constructor
  · intro h
    rw [← e0] at h
    exact byteL_inj x.lt255 (by decide) h
  · intro h; rw [h, e0]

theorem Mult_no1 {A B : Option Addr} {c d n m : Nat} {us : List Nat} (w : World) (h : ¬ n = 32) (hb : Bs w B d us) (hm : us.length = m) :
    Calls Try.prog 34 #[.slice A n c, .slice B m d] w fun e w' => e = .returned (.tuple #[.slice none 0 0, .int .i64 1]) ∧ Below w.heap.size w w' := by
  by_cases h2 : us.length = 32
  · have HP := Parse_any w hb h2
    rw [hm] at HP
    clear hb hm h2
    go_enter Try.func34, Try.ntmps34
    go_wp2_with fail
    refine Calls.mono (Clamp_no _ h) ?_
    rintro e w1 ⟨rfl, rfl⟩
    dsimp only
    go_wp2_with fail
    refine Calls.mono HP ?_
    rintro e w2 ⟨u0, u1, u2, u3, u4, rfl, hu, hb2⟩
    dsimp only
    go_wp2_with fail
    go_ret2
    exact ⟨rfl, hb2.alloc hb2.size _⟩
  · have HP := Parse_no w hb h2
    rw [hm] at HP
    clear hb hm h2
    go_enter Try.func34, Try.ntmps34
    go_wp2_with fail
    refine Calls.mono (Clamp_no _ h) ?_
    rintro e w1 ⟨rfl, rfl⟩
    dsimp only
    go_wp2_with fail
    refine Calls.mono HP ?_
    rintro e w2 ⟨rfl, hb2⟩
    dsimp only
    go_wp2_with fail
    go_ret2
    exact ⟨rfl, hb2.alloc hb2.size _⟩
theorem Mult_no2 {A B : Option Addr} {c d m : Nat} {ks us : List Nat} (w : World) (ha : Bs w A c ks) (hn : ks.length = 32) (hb : Bs w B d us) (hm : us.length = m) (h : ¬ m = 32) :
    Calls Try.prog 34 #[.slice A 32 c, .slice B m d] w fun e w' => e = .returned (.tuple #[.slice none 0 0, .int .i64 1]) ∧ Below w.heap.size w w' := by
  have HC := Clamp_any w ha hn
  have HP := fun W (hW : Below w.heap.size w W) => Parse_no W (hb.below hW) (by rw [hm]; exact h)
  rw [hm] at HP
  clear ha hb hn hm
  go_enter Try.func34, Try.ntmps34
  go_wp2_with fail
  refine Calls.mono HC ?_
  rintro e w1 ⟨gk, ck, rfl, ho, hb1⟩
  have HP1 := HP w1 hb1
  clear HP ho HC
  dsimp only
  go_wp2_with fail
  refine Calls.mono HP1 ?_
  rintro e w2 ⟨rfl, hb2⟩
  have HB := below_from hb1 hb2
  clear HP1 hb1 hb2
  dsimp only
  go_wp2_with fail
  go_ret2
  exact ⟨rfl, HB.alloc HB.size _⟩

def multS5 (B : Nat) (u : F) (g7 : Nat) : Nat → World → Value → Prop
  | 0, _, v => ElV (toF 1) v
  | 1, _, v => ElV (toF 0) v
  | 2, _, v => AgV [toF 1, toF 0] v
  | 3, _, v => ElV (u) v
  | 4, _, v => ElV (toF 1) v
  | 5, _, v => AgV [u, toF 1] v
  | 6, _, v => AgV [toF 1, toF 0, u, toF 1] v
  | 7, w, v => ∃ g, v = .pointer (some ⟨g, 0, none⟩) ∧ B ≤ g ∧ BlkF w g [0, 0, 0, 0] 71
  | _, _, _ => True

def multS5K : Nat → HK
  | 7 => .fresh
  | _ => .val

def multS10a (B : Nat) (x0 z0 x1 z1 u : F) (g7 g9 : Nat) : Nat → World → Value → Prop
  | 0, _, v => v = .int .u8 (0)
  | 1, _, v => v = .int .u8 (0)
  | 2, _, v => v = .int .u8 (1)
  | 3, _, v => v = .int .u8 (0)
  | 4, _, v => v = .pointer (some ⟨g9, 0, none⟩)
  | 5, _, v => AgV [x0, z0] v
  | 6, _, v => v = .int .u8 (0)
  | 7, _, v => v = .int .u8 (1)
  | 8, _, v => v = .pointer (some ⟨g9, 10, none⟩)
  | 9, _, v => AgV [x1, z1] v
  | 10, _, v => ElV (u) v
  | 11, _, v => ∃ v1 v2, v = .tuple #[v1, v2] ∧ AgV [twiceX x0 z0, twiceZ x0 z0] v1 ∧ AgV [bothX x0 z0 x1 z1, bothZ x0 z0 x1 z1 u] v2
  | 12, _, v => ∃ v1 v2, v = .tuple #[v1, v2] ∧ AgV [twiceX x0 z0, twiceZ x0 z0] v1 ∧ AgV [bothX x0 z0 x1 z1, bothZ x0 z0 x1 z1 u] v2
  | 13, _, v => AgV [twiceX x0 z0, twiceZ x0 z0] v
  | 14, _, v => AgV [bothX x0 z0 x1 z1, bothZ x0 z0 x1 z1 u] v
  | 15, _, v => v = .pointer (some ⟨g9, 0, none⟩)
  | 16, _, _ => True
  | _, _, _ => True

def multS10aK : Nat → HK
  | 16 => .hot
  | _ => .val

def multS10b (B : Nat) (x0 z0 x1 z1 u : F) (g7 g9 : Nat) : Nat → World → Value → Prop
  | 0, _, v => v = .int .u8 (1)
  | 1, _, v => v = .int .u8 (1)
  | 2, _, v => v = .int .u8 (0)
  | 3, _, v => v = .int .u8 (1)
  | 4, _, v => v = .pointer (some ⟨g9, 10, none⟩)
  | 5, _, v => AgV [x1, z1] v
  | 6, _, v => v = .int .u8 (1)
  | 7, _, v => v = .int .u8 (0)
  | 8, _, v => v = .pointer (some ⟨g9, 0, none⟩)
  | 9, _, v => AgV [x0, z0] v
  | 10, _, v => ElV (u) v
  | 11, _, v => ∃ v1 v2, v = .tuple #[v1, v2] ∧ AgV [twiceX x1 z1, twiceZ x1 z1] v1 ∧ AgV [bothX x1 z1 x0 z0, bothZ x1 z1 x0 z0 u] v2
  | 12, _, v => ∃ v1 v2, v = .tuple #[v1, v2] ∧ AgV [twiceX x1 z1, twiceZ x1 z1] v1 ∧ AgV [bothX x1 z1 x0 z0, bothZ x1 z1 x0 z0 u] v2
  | 13, _, v => AgV [twiceX x1 z1, twiceZ x1 z1] v
  | 14, _, v => AgV [bothX x1 z1 x0 z0, bothZ x1 z1 x0 z0 u] v
  | 15, _, v => v = .pointer (some ⟨g9, 10, none⟩)
  | 16, _, _ => True
  | _, _, _ => True

def multS10bK : Nat → HK
  | 16 => .hot
  | _ => .val

def multS11 (B : Nat) (x0 z0 x1 z1 : F) (g9 : Nat) : Nat → World → Value → Prop
  | 0, _, v => v = .pointer (some ⟨g9, 0, none⟩)
  | 1, _, v => v = .pointer (some ⟨g9, 0, none⟩)
  | 2, _, v => ElV (x0) v
  | 3, _, v => v = .pointer (some ⟨g9, 0, none⟩)
  | 4, _, v => v = .pointer (some ⟨g9, 5, none⟩)
  | 5, _, v => ElV (z0) v
  | 6, _, v => ElV (fi (z0)) v
  | 7, _, v => ElV ((x0) * (fi (z0))) v
  | 8, w, v => OwnV B (byteL ((x0) * (fi (z0))).val) w v
  | 9, w, v => OwnV B (byteL ((x0) * (fi (z0))).val) w v
  | _, _, _ => True

def multS11K : Nat → HK
  | _ => .val

/-- What X25519 tells of the number that it comes to. -/
def MultPost (B : Nat) (r : F) (e : Ending) (w' : World) : Prop :=
  if r.val = 0 then e = .returned (.tuple #[.slice none 0 0, .int .i64 5]) else ∃ A' c', e = .returned (.tuple #[.slice A' 32 c', .int .i64 0]) ∧ Own w' B A' c' (byteL r.val)

set_option maxHeartbeats 8000000 in
theorem Mult_any {A B : Option Addr} {c d : Nat} {ks us : List Nat} (w : World) (ha : Bs w A c ks) (hb : Bs w B d us) (hn : ks.length = 32) (hm : us.length = 32) :
    Calls Try.prog 34 #[.slice A 32 c, .slice B 32 d] w fun e w' =>
      MultPost w.heap.size (xmul ks us) e w' ∧ Below w.heap.size w w' := by
  have HC := Clamp_any w ha hn
  have HP := fun W (hW : Below w.heap.size w W) => Parse_any W (hb.below hW) hm
  have h8 := hidd ha.b8
  have HN := hidd hn
  have HM := hidd hm
  rw [hm] at HP
  clear ha hb hn hm
  go_enter Try.func34, Try.ntmps34
  go_wp2_with fail
  refine Calls.mono HC ?_
  rintro e w1 ⟨gk, ck, rfl, ho, hb1⟩
  have HB : Below w.heap.size w w1 := hb1
  obtain ⟨gk', hgk', hbk, hkl, hkc, hkf, -⟩ := ho.at (by rw [clampL_length, HN.out]; omega)
  simp only [Option.some.injEq, Addr.mk.injEq, and_true] at hgk'
  subst hgk'
  obtain ⟨kcur, BK, hkcur⟩ := ho.blk (by rw [clampL_length, HN.out]; omega)
  rw [clampL_length, HN.out] at hkcur
  have HK := hidd hkcur
  clear hkcur
  have HP1 := HP w1 HB
  clear hb1 HC HP ho hkc hkf
  dsimp only
  go_wp2_with fail
  refine Calls.mono HP1 ?_
  rintro e w2 ⟨u0, u1, u2, u3, u4, rfl, hu, hb2⟩
  obtain ⟨u, HU⟩ : ∃ u : F, Hid (numL us = u) := ⟨_, rfl⟩
  change El (numL us) u0 u1 u2 u3 u4 at hu
  rw [HU.out] at hu
  replace BK := BK.old hb2
  replace HB := below_from HB hb2
  clear hb2 HP1
  dsimp only
  go_wp2_with fail
  obtain ⟨g7, hg7⟩ : ∃ g, w2.heap.size = g := ⟨_, rfl⟩
  have nk7 : gk < g7 := by rw [← hg7]; exact BK.lt
  have hF7 : BlkF (w2.alloc (.cells #[.int .u64 u0, .int .u64 u1, .int .u64 u2, .int .u64 u3, .int .u64 u4] 26)) g7 [u] 26 := BlkF.of5 (Blk.at _ _ hg7) hu
  replace BK := BK.alloc (.cells #[.int .u64 u0, .int .u64 u1, .int .u64 u2, .int .u64 u3, .int .u64 u4] 26)
  have hg7w : w.heap.size ≤ g7 := by rw [← hg7]; exact HB.size
  replace HB := HB.alloc HB.size (.cells #[.int .u64 u0, .int .u64 u1, .int .u64 u2, .int .u64 u3, .int .u64 u4] 26)
  rw [hg7]
  generalize (w2.alloc (.cells #[.int .u64 u0, .int .u64 u1, .int .u64 u2, .int .u64 u3, .int .u64 u4] 26)) = w4 at *
  clear hg7
  have z7 := hF7.lt
  refine region_hotV 8 multS5K (multS5 (w4.heap.size) u g7) (fun _ _ => True) (fun _ => False) [29, 30, 31, 32, 33, 34, 35, 9] (by kernel_rfl) (by kernel_rfl) (by kernel_rfl) (by kernel_rfl) (by kernel_rfl) ?_ (fun _ _ _ _ _ => trivial) (fun _ _ _ _ _ => trivial) ?_ trivial (hots_all ?_) ?_
  · exact fun i w w' v h hb => by revert h; unfold multS5; split <;> first | exact id | (rintro ⟨g, hv, hg, hB⟩; exact ⟨g, hv, hg, hB.oldX hb (fun h => h)⟩) | (exact fun h => h.old hb.none)
  · exact fun i w v hk h => by unfold multS5K at hk; split at hk <;> first | (cases hk; done) | (obtain ⟨g, hv, _, hB⟩ := h; exact ⟨g, hv, hB.lt⟩)
  · simp only [List.take_succ_cons, List.take_zero, HotFrom]
    refine ⟨?_, ?_, ?_, ?_, ?_, ?_, ?_, ?_, trivial⟩
    · refine hot_val rfl rfl (fun L a w' hat => ?_)
      have h0 : a.eval (.const (Value.int IntKind.u64 1)) = .int .u64 1 := rfl
      exact .inr ⟨_, #[.int .u64 (1)], exec_call Try.func15 (by kernel_rfl) (by kernel_rfl) _ rfl _ _ (by simp [Act.eval]), Of_V _ _ (by omega) (by omega)⟩
    · refine hot_val rfl rfl (fun L a w' hat => ?_)
      have h0 : a.eval (.const (Value.int IntKind.u64 0)) = .int .u64 0 := rfl
      exact .inr ⟨_, #[.int .u64 (0)], exec_call Try.func15 (by kernel_rfl) (by kernel_rfl) _ rfl _ _ (by simp [Act.eval]), Of_V _ _ (by omega) (by omega)⟩
    · refine hot_val rfl rfl (fun L a w' hat => ?_)
      have h0 : ElV (toF 1) (a.eval (.tmp 29)) := hat.deps ⟨0, .data⟩ (by simp) rfl 29 (by decide) rfl
      have h1 : ElV (toF 0) (a.eval (.tmp 30)) := hat.deps ⟨1, .data⟩ (by simp) rfl 30 (by decide) rfl
      exact out_ex (bd2 rfl (AgV.one.2 h0) (AgV.one.2 h1)) (fun u hE => hE)
    · refine hot_val rfl rfl (fun L a w' hat => ?_)
      have h0 : a.eval (.tmp 7) = .pointer (some ⟨g7, 0, none⟩) := (hat.others 7 (by decide)).trans rfl
      exact out_ex (ld1_1_0 rfl h0 (hF7.oldX hat.grow (fun h => h))) (fun u hE => hE)
    · refine hot_val rfl rfl (fun L a w' hat => ?_)
      have h0 : a.eval (.const (Value.int IntKind.u64 1)) = .int .u64 1 := rfl
      exact .inr ⟨_, #[.int .u64 (1)], exec_call Try.func15 (by kernel_rfl) (by kernel_rfl) _ rfl _ _ (by simp [Act.eval]), Of_V _ _ (by omega) (by omega)⟩
    · refine hot_val rfl rfl (fun L a w' hat => ?_)
      have h0 : ElV (u) (a.eval (.tmp 32)) := hat.deps ⟨3, .data⟩ (by simp) rfl 32 (by decide) rfl
      have h1 : ElV (toF 1) (a.eval (.tmp 33)) := hat.deps ⟨4, .data⟩ (by simp) rfl 33 (by decide) rfl
      exact out_ex (bd2 rfl (AgV.one.2 h0) (AgV.one.2 h1)) (fun u hE => hE)
    · refine hot_val rfl rfl (fun L a w' hat => ?_)
      have h0 : AgV [toF 1, toF 0] (a.eval (.tmp 31)) := hat.deps ⟨2, .data⟩ (by simp) rfl 31 (by decide) rfl
      have h1 : AgV [u, toF 1] (a.eval (.tmp 34)) := hat.deps ⟨5, .data⟩ (by simp) rfl 34 (by decide) rfl
      exact out_ex (bd4 rfl h0 h1) (fun u hE => hE)
    · refine hot_fresh rfl rfl (fun L a w' hat => ?_)
      exact fresh_ex (al4 rfl a w') (fun ob hB => ⟨_, rfl, Nat.le_trans (Nat.le_refl _) hat.grow.size, hB⟩)
  · intro L gs w5 hbx hV hall hH hap
    replace hF7 := hF7.oldX hbx (fun h => h)
    replace BK := hbx.blk BK (fun h => h)
    replace HB := hbx.below HB HB.size (fun k h => h.elim)
    obtain ⟨g9, hv9, hg9, hF9⟩ := hV 7 (by omega) (by decide) 9 rfl
    have hs9 := hV 6 (by omega) (by decide) 35 rfl
    have n79 : g7 ≠ g9 := by omega
    have nk9 : gk ≠ g9 := by omega
    replace hg9 : w.heap.size ≤ g9 := by omega
    simp only [List.map_cons, List.map_nil, puts, Act.put, hv9, List.setIfInBounds_toArray, List.set_cons_zero, List.set_cons_succ, List.drop_succ_cons, List.drop_zero]
    clear hV hall hH hap hbx hv9
    refine tail_st4 rfl rfl rfl rfl hF9 hs9 (fun w6 hN hc => ?_)
    replace hF7 := hF7.oldX hc n79
    replace BK := hc.blk BK nk9
    replace HB := hc.below HB HB.size (fun k hk => by rw [hk]; exact hg9)
    clear hF9 hc hs9
    have hF9 : BlkF w6 g9 (ladL (clampL ks) u 0) 71 := by
      have e1 : toF 1 = 1 := toF_one
      have e0 : toF 0 = 0 := toF_zero
      rw [e1, e0] at hN
      exact hN
    clear hN z7
    refine wpList_nil ?_
    show Exit.then _ _ .normal _ _
    go_wp2_with fail
    go_loopw [10] (fun i wr => ∃ K : Nat, i = .int .i64 (254 - (K : Int)) ∧ K ≤ 255 ∧ BlkF wr g9 (ladL (clampL ks) u K) 71 ∧ BlkF wr g7 [u] 26 ∧ Blk wr gk kcur 5 ∧ Below w.heap.size w wr) (fun i _ => (intOf i + 1).toNat)
    case atStart => exact ⟨0, rfl, by omega, hF9, hF7, BK, HB⟩
    case round =>
      obtain ⟨K, rfl, hK, hF9, hF7, BK, HW⟩ := hrel
      obtain ⟨x0, z0, x1, z1, hlad⟩ : ∃ x0 z0 x1 z1, lad (clampL ks) u K = (x0, z0, x1, z1) := ⟨_, _, _, _, rfl⟩
      rw [ladL_eq hlad] at hF9
      have HL := hidd hlad
      clear hlad
      by_cases hlt : K < 255
      · have hI : ((254 : Int) - (K : Int) ≥ 0) := by omega
        obtain ⟨j, ej⟩ : ∃ j : Nat, ((254 : Int) - (K : Int)) / 8 = (j : Int) := ⟨(254 - K) / 8, by omega⟩
        obtain ⟨m, em⟩ : ∃ m : Nat, ((254 : Int) - (K : Int)).tmod 8 = (m : Int) := ⟨(254 - K) % 8, by rw [Int.tmod_eq_emod_of_nonneg (by omega)]; omega⟩
        have ej2 : Hid ((254 - K) / 8 = j) := by show _ = _; omega
        have em2 : Hid ((254 - K) % 8 = m) := by show _ = _; rw [Int.tmod_eq_emod_of_nonneg (by omega)] at em; omega
        have hj : j < 32 := by have := ej2.out; omega
        have hm : m < 8 := by have := em2.out; omega
        have hjI : (j : Int) < 32 := by omega
        have hmI : (m : Int) < 8 := by omega
        have ejt : ((254 : Int) - (K : Int)).tdiv 8 = (j : Int) := by rw [Int.tdiv_eq_ediv_of_nonneg (by omega)]; exact ej
        obtain ⟨z, hz, hz8⟩ : ∃ z : Nat, (clampL ks).getD j 0 = z ∧ z < 256 := ⟨_, rfl, getD_lt (by
          intro x hx
          unfold clampL at hx
          rcases List.mem_or_eq_of_mem_set hx with h | h
          · rcases List.mem_or_eq_of_mem_set h with h | h
            · exact h8.out x h
            · rw [h]; exact and_lt _ _ (getD_lt h8.out 0)
          · rw [h]; exact top_lt _ (getD_lt h8.out 31)) j⟩
        have hcz : wr.cell? ⟨gk, j, none⟩ = some (.int .u8 (z : Int)) := by rw [BK.cell, HK.out j hj, hz]
        have HZ := hidd hz
        clear hz
        go_wp2_with fail
        have hbit : kbit (clampL ks) (254 - K) = z / 2 ^ m % 2 := by unfold kbit; rw [ej2.out, em2.out, HZ.out]
        rw [bit_val z m hz8 hm]
        rcases kbit_lt (clampL ks) (254 - K) with hb0 | hb0
        · have hb := hidd hb0
          have e0 : ((z / 2 ^ m % 2 : Nat) : Int) = 0 := by omega
          rw [e0]
          clear hb0 hbit e0 hcz ejt hI ej em hjI hmI
          refine region_hotV 17 multS10aK (multS10a (wr.heap.size) x0 z0 x1 z1 u g7 g9) (fun L w => BlkF w g9 (bif L 16 then [twiceX x0 z0, twiceZ x0 z0, x1, z1] else [x0, z0, x1, z1]) 71) (fun k => k = g9) [50, 51, 52, 53, 54, 55, 56, 57, 58, 59, 60, 61, 49, 62, 63, 64] (by kernel_rfl) (by kernel_rfl) (by kernel_rfl) (by kernel_rfl) (by kernel_rfl) ?_ (fun L w w' h hb => h.old hb) (fun L i w hk h => if e : i = 16 then absurd (by rw [e]; rfl) hk else by (have e2 : (16 == i) = false := (by simp only [beq_eq_false_iff_ne]; omega); show BlkF w _ (bif (L 16 || 16 == i) then _ else _) _; rw [e2, Bool.or_false]; exact h)) ?_ hF9 (hots_all ?_) ?_
          · exact fun i w w' v h hb => by revert h; unfold multS10a; split <;> first | exact id | (rintro ⟨g, hv, hg, hB⟩; exact ⟨g, hv, hg, hB.oldX hb (fun h => h)⟩) | (exact fun h => h.old hb.none)
          · exact fun i w v hk h => by unfold multS10aK at hk; split at hk <;> first | (cases hk; done) | (obtain ⟨g, hv, _, hB⟩ := h; exact ⟨g, hv, hB.lt⟩)
          · simp only [List.take_succ_cons, List.take_zero, HotFrom]
            refine ⟨?_, ?_, ?_, ?_, ?_, ?_, ?_, ?_, ?_, ?_, ?_, ?_, ?_, ?_, ?_, ?_, ?_, trivial⟩
            · refine hot_val rfl rfl (fun L a w' hat => ?_)
              have h0 : a.eval (.tmp 11) = .int .u8 (0) := (hat.others 11 (by decide)).trans rfl
              exact out_of rfl h0
            · refine hot_val rfl rfl (fun L a w' hat => ?_)
              have h0 : a.eval (.tmp 11) = .int .u8 (0) := (hat.others 11 (by decide)).trans rfl
              exact out_of rfl h0
            · refine hot_val rfl rfl (fun L a w' hat => ?_)
              have h0 : a.eval (.const (Value.int IntKind.u8 1)) = .int .u8 1 := rfl
              have h1 : a.eval (.tmp 51) = .int .u8 (0) := hat.deps ⟨1, .data⟩ (by simp) rfl 51 (by decide) rfl
              exact out_of (v := .int .u8 (1)) (by (generalize a.eval = ev at *); simp [execOp, go_sem, h0, h1] <;> rfl) rfl
            · refine hot_val rfl rfl (fun L a w' hat => ?_)
              have h0 : a.eval (.tmp 11) = .int .u8 (0) := (hat.others 11 (by decide)).trans rfl
              exact out_of rfl h0
            · refine hot_val rfl rfl (fun L a w' hat => ?_)
              have h0 : a.eval (.tmp 9) = .pointer (some ⟨g9, 0, none⟩) := (hat.others 9 (by decide)).trans rfl
              have h1 : a.eval (.tmp 53) = .int .u8 (0) := hat.deps ⟨3, .data⟩ (by simp) rfl 53 (by decide) rfl
              exact out_of (v := .pointer (some ⟨g9, 0, none⟩)) (by (generalize a.eval = ev at *); simp [execOp, go_sem, h0, h1] <;> rfl) rfl
            · refine hot_val rfl rfl (fun L a w' hat => ?_)
              have h0 : a.eval (.tmp 54) = .pointer (some ⟨g9, 0, none⟩) := hat.deps ⟨4, .data⟩ (by simp) rfl 54 (by decide) rfl
              exact out_ex (ld2_4_0 rfl h0 (by (have h := hat.hot; simp only [hat.later 16 _ rfl (by kernel_rfl)] at h; exact h))) (fun u hE => hE)
            · refine hot_val rfl rfl (fun L a w' hat => ?_)
              have h0 : a.eval (.tmp 11) = .int .u8 (0) := (hat.others 11 (by decide)).trans rfl
              exact out_of rfl h0
            · refine hot_val rfl rfl (fun L a w' hat => ?_)
              have h0 : a.eval (.const (Value.int IntKind.u8 1)) = .int .u8 1 := rfl
              have h1 : a.eval (.tmp 56) = .int .u8 (0) := hat.deps ⟨6, .data⟩ (by simp) rfl 56 (by decide) rfl
              exact out_of (v := .int .u8 (1)) (by (generalize a.eval = ev at *); simp [execOp, go_sem, h0, h1] <;> rfl) rfl
            · refine hot_val rfl rfl (fun L a w' hat => ?_)
              have h0 : a.eval (.tmp 9) = .pointer (some ⟨g9, 0, none⟩) := (hat.others 9 (by decide)).trans rfl
              have h1 : a.eval (.tmp 57) = .int .u8 (1) := hat.deps ⟨7, .data⟩ (by simp) rfl 57 (by decide) rfl
              exact out_of (v := .pointer (some ⟨g9, 10, none⟩)) (by (generalize a.eval = ev at *); simp [execOp, go_sem, h0, h1] <;> rfl) rfl
            · refine hot_val rfl rfl (fun L a w' hat => ?_)
              have h0 : a.eval (.tmp 58) = .pointer (some ⟨g9, 10, none⟩) := hat.deps ⟨8, .data⟩ (by simp) rfl 58 (by decide) rfl
              exact out_ex (ld2_4_1 rfl h0 (by (have h := hat.hot; simp only [hat.later 16 _ rfl (by kernel_rfl)] at h; exact h))) (fun u hE => hE)
            · refine hot_val rfl rfl (fun L a w' hat => ?_)
              have h0 : a.eval (.tmp 7) = .pointer (some ⟨g7, 0, none⟩) := (hat.others 7 (by decide)).trans rfl
              exact out_ex (ld1_1_0 rfl h0 (hF7.oldX hat.grow n79)) (fun u hE => hE)
            · refine hot_val rfl rfl (fun L a w' hat => ?_)
              have h0 : AgV [x0, z0] (a.eval (.tmp 55)) := hat.deps ⟨5, .data⟩ (by simp) rfl 55 (by decide) rfl
              have h1 : AgV [x1, z1] (a.eval (.tmp 59)) := hat.deps ⟨9, .data⟩ (by simp) rfl 59 (by decide) rfl
              have h2 : ElV (u) (a.eval (.tmp 60)) := hat.deps ⟨10, .data⟩ (by simp) rfl 60 (by decide) rfl
              exact .inr ⟨_, #[a.eval (.tmp 55), a.eval (.tmp 59), a.eval (.tmp 60)], exec_call Try.func51 (by kernel_rfl) (by kernel_rfl) _ rfl _ _ (by simp), (step_V h0 h1 h2 _).mono (fun e w'' ⟨r1, r2, he, h1, h2, hb⟩ => ⟨_, he, ⟨r1, r2, rfl, h1, h2⟩, hb⟩)⟩
            · refine hot_val rfl rfl (fun L a w' hat => ?_)
              have h0 : ∃ v1 v2, a.eval (.tmp 61) = .tuple #[v1, v2] ∧ AgV [twiceX x0 z0, twiceZ x0 z0] v1 ∧ AgV [bothX x0 z0 x1 z1, bothZ x0 z0 x1 z1 u] v2 := hat.deps ⟨11, .data⟩ (by simp) rfl 61 (by decide) rfl
              exact out_of rfl h0
            · refine hot_val rfl rfl (fun L a w' hat => ?_)
              have h0 : ∃ v1 v2, a.eval (.tmp 49) = .tuple #[v1, v2] ∧ AgV [twiceX x0 z0, twiceZ x0 z0] v1 ∧ AgV [bothX x0 z0 x1 z1, bothZ x0 z0 x1 z1 u] v2 := hat.deps ⟨12, .data⟩ (by simp) rfl 49 (by decide) rfl
              obtain ⟨v1, v2, hv, hv1, hv2⟩ := h0
              exact out_of (v := v1) (by (generalize a.eval = ev at *); simp [execOp, go_sem, hv] <;> rfl) hv1
            · refine hot_val rfl rfl (fun L a w' hat => ?_)
              have h0 : ∃ v1 v2, a.eval (.tmp 49) = .tuple #[v1, v2] ∧ AgV [twiceX x0 z0, twiceZ x0 z0] v1 ∧ AgV [bothX x0 z0 x1 z1, bothZ x0 z0 x1 z1 u] v2 := hat.deps ⟨12, .data⟩ (by simp) rfl 49 (by decide) rfl
              obtain ⟨v1, v2, hv, hv1, hv2⟩ := h0
              exact out_of (v := v2) (by (generalize a.eval = ev at *); simp [execOp, go_sem, hv] <;> rfl) hv2
            · refine hot_val rfl rfl (fun L a w' hat => ?_)
              have h0 : a.eval (.tmp 9) = .pointer (some ⟨g9, 0, none⟩) := (hat.others 9 (by decide)).trans rfl
              have h1 : a.eval (.tmp 50) = .int .u8 (0) := hat.deps ⟨0, .data⟩ (by simp) rfl 50 (by decide) rfl
              exact out_of (v := .pointer (some ⟨g9, 0, none⟩)) (by (generalize a.eval = ev at *); simp [execOp, go_sem, h0, h1] <;> rfl) rfl
            · refine hot_store rfl (fun L a w' hat => ?_)
              have h0 : a.eval (.tmp 64) = .pointer (some ⟨g9, 0, none⟩) := hat.deps ⟨15, .data⟩ (by simp) rfl 64 (by decide) rfl
              have h1 : AgV [twiceX x0 z0, twiceZ x0 z0] (a.eval (.tmp 62)) := hat.deps ⟨13, .data⟩ (by simp) rfl 62 (by decide) rfl
              obtain ⟨c0, c1, hH⟩ : ∃ c0 c1, BlkF w' g9 [c0, c1, x1, z1] 71 := by (have hH := hat.hot; cases hL : L 16 <;> simp only [hL] at hH <;> exact ⟨_, _, hH⟩)
              exact hot_ex (st2_0 rfl h0 hH h1) (fun w'' hN => by show BlkF w'' _ (bif (L 16 || 16 == 16) then _ else _) _; rw [show (L 16 || 16 == 16) = true by simp]; exact hN)
          · intro L gs w8 hbx hV hall hH hap
            replace hF7 := hF7.oldX hbx n79
            replace BK := hbx.blk BK nk9
            have hN9 : BlkF w8 g9 [twiceX x0 z0, twiceZ x0 z0, x1, z1] 71 := by (have h := hH; simp only [hall 16 (by omega)] at h; exact h)
            replace HW := hbx.below HW HW.size (fun k hk => by rw [hk]; exact hg9)
            have hi2 := hV 2 (by omega) (by decide) 52 rfl
            have hs2 := hV 14 (by omega) (by decide) 63 rfl
            simp only [List.map_cons, List.map_nil, puts, Act.put, List.setIfInBounds_toArray, List.set_cons_zero, List.set_cons_succ, List.drop_succ_cons, List.drop_zero]
            rw [show gs 52 = .int .u8 1 from hi2]
            refine tail_val (v := .pointer (some ⟨g9, 10, none⟩)) rfl (by simp [execOp, go_sem]) ?_
            simp only [Act.put, List.setIfInBounds_toArray, List.set_cons_zero, List.set_cons_succ, List.drop_succ_cons, List.drop_zero]
            refine tail_st2_1 rfl rfl rfl rfl hN9 hs2 (fun w9 hN hc => ?_)
            replace hF7 := hF7.oldX hc n79
            replace BK := hc.blk BK nk9
            replace HW := hc.below HW HW.size (fun k hk => by rw [hk]; exact hg9)
            clear hF9 hH hall hV hap hbx hc hs2 hi2 hN9
            refine wpList_nil ?_
            try (show Exit.then _ _ .normal _ _)
            go_wp2_with fail
            go_roundw
            case rel => exact ⟨K + 1, i_next K, by omega, by (rw [lad_0 HL.out hb.out]; exact hN), hF7, BK, HW⟩
            case measure => first | (simp [intOf]; done) | (simp [intOf]; omega)
        · have hb := hidd hb0
          have e0 : ((z / 2 ^ m % 2 : Nat) : Int) = 1 := by omega
          rw [e0]
          clear hb0 hbit e0 hcz ejt hI ej em hjI hmI
          refine region_hotV 17 multS10bK (multS10b (wr.heap.size) x0 z0 x1 z1 u g7 g9) (fun L w => BlkF w g9 (bif L 16 then [x0, z0, twiceX x1 z1, twiceZ x1 z1] else [x0, z0, x1, z1]) 71) (fun k => k = g9) [50, 51, 52, 53, 54, 55, 56, 57, 58, 59, 60, 61, 49, 62, 63, 64] (by kernel_rfl) (by kernel_rfl) (by kernel_rfl) (by kernel_rfl) (by kernel_rfl) ?_ (fun L w w' h hb => h.old hb) (fun L i w hk h => if e : i = 16 then absurd (by rw [e]; rfl) hk else by (have e2 : (16 == i) = false := (by simp only [beq_eq_false_iff_ne]; omega); show BlkF w _ (bif (L 16 || 16 == i) then _ else _) _; rw [e2, Bool.or_false]; exact h)) ?_ hF9 (hots_all ?_) ?_
          · exact fun i w w' v h hb => by revert h; unfold multS10b; split <;> first | exact id | (rintro ⟨g, hv, hg, hB⟩; exact ⟨g, hv, hg, hB.oldX hb (fun h => h)⟩) | (exact fun h => h.old hb.none)
          · exact fun i w v hk h => by unfold multS10bK at hk; split at hk <;> first | (cases hk; done) | (obtain ⟨g, hv, _, hB⟩ := h; exact ⟨g, hv, hB.lt⟩)
          · simp only [List.take_succ_cons, List.take_zero, HotFrom]
            refine ⟨?_, ?_, ?_, ?_, ?_, ?_, ?_, ?_, ?_, ?_, ?_, ?_, ?_, ?_, ?_, ?_, ?_, trivial⟩
            · refine hot_val rfl rfl (fun L a w' hat => ?_)
              have h0 : a.eval (.tmp 11) = .int .u8 (1) := (hat.others 11 (by decide)).trans rfl
              exact out_of rfl h0
            · refine hot_val rfl rfl (fun L a w' hat => ?_)
              have h0 : a.eval (.tmp 11) = .int .u8 (1) := (hat.others 11 (by decide)).trans rfl
              exact out_of rfl h0
            · refine hot_val rfl rfl (fun L a w' hat => ?_)
              have h0 : a.eval (.const (Value.int IntKind.u8 1)) = .int .u8 1 := rfl
              have h1 : a.eval (.tmp 51) = .int .u8 (1) := hat.deps ⟨1, .data⟩ (by simp) rfl 51 (by decide) rfl
              exact out_of (v := .int .u8 (0)) (by (generalize a.eval = ev at *); simp [execOp, go_sem, h0, h1] <;> rfl) rfl
            · refine hot_val rfl rfl (fun L a w' hat => ?_)
              have h0 : a.eval (.tmp 11) = .int .u8 (1) := (hat.others 11 (by decide)).trans rfl
              exact out_of rfl h0
            · refine hot_val rfl rfl (fun L a w' hat => ?_)
              have h0 : a.eval (.tmp 9) = .pointer (some ⟨g9, 0, none⟩) := (hat.others 9 (by decide)).trans rfl
              have h1 : a.eval (.tmp 53) = .int .u8 (1) := hat.deps ⟨3, .data⟩ (by simp) rfl 53 (by decide) rfl
              exact out_of (v := .pointer (some ⟨g9, 10, none⟩)) (by (generalize a.eval = ev at *); simp [execOp, go_sem, h0, h1] <;> rfl) rfl
            · refine hot_val rfl rfl (fun L a w' hat => ?_)
              have h0 : a.eval (.tmp 54) = .pointer (some ⟨g9, 10, none⟩) := hat.deps ⟨4, .data⟩ (by simp) rfl 54 (by decide) rfl
              exact out_ex (ld2_4_1 rfl h0 (by (have h := hat.hot; simp only [hat.later 16 _ rfl (by kernel_rfl)] at h; exact h))) (fun u hE => hE)
            · refine hot_val rfl rfl (fun L a w' hat => ?_)
              have h0 : a.eval (.tmp 11) = .int .u8 (1) := (hat.others 11 (by decide)).trans rfl
              exact out_of rfl h0
            · refine hot_val rfl rfl (fun L a w' hat => ?_)
              have h0 : a.eval (.const (Value.int IntKind.u8 1)) = .int .u8 1 := rfl
              have h1 : a.eval (.tmp 56) = .int .u8 (1) := hat.deps ⟨6, .data⟩ (by simp) rfl 56 (by decide) rfl
              exact out_of (v := .int .u8 (0)) (by (generalize a.eval = ev at *); simp [execOp, go_sem, h0, h1] <;> rfl) rfl
            · refine hot_val rfl rfl (fun L a w' hat => ?_)
              have h0 : a.eval (.tmp 9) = .pointer (some ⟨g9, 0, none⟩) := (hat.others 9 (by decide)).trans rfl
              have h1 : a.eval (.tmp 57) = .int .u8 (0) := hat.deps ⟨7, .data⟩ (by simp) rfl 57 (by decide) rfl
              exact out_of (v := .pointer (some ⟨g9, 0, none⟩)) (by (generalize a.eval = ev at *); simp [execOp, go_sem, h0, h1] <;> rfl) rfl
            · refine hot_val rfl rfl (fun L a w' hat => ?_)
              have h0 : a.eval (.tmp 58) = .pointer (some ⟨g9, 0, none⟩) := hat.deps ⟨8, .data⟩ (by simp) rfl 58 (by decide) rfl
              exact out_ex (ld2_4_0 rfl h0 (by (have h := hat.hot; simp only [hat.later 16 _ rfl (by kernel_rfl)] at h; exact h))) (fun u hE => hE)
            · refine hot_val rfl rfl (fun L a w' hat => ?_)
              have h0 : a.eval (.tmp 7) = .pointer (some ⟨g7, 0, none⟩) := (hat.others 7 (by decide)).trans rfl
              exact out_ex (ld1_1_0 rfl h0 (hF7.oldX hat.grow n79)) (fun u hE => hE)
            · refine hot_val rfl rfl (fun L a w' hat => ?_)
              have h0 : AgV [x1, z1] (a.eval (.tmp 55)) := hat.deps ⟨5, .data⟩ (by simp) rfl 55 (by decide) rfl
              have h1 : AgV [x0, z0] (a.eval (.tmp 59)) := hat.deps ⟨9, .data⟩ (by simp) rfl 59 (by decide) rfl
              have h2 : ElV (u) (a.eval (.tmp 60)) := hat.deps ⟨10, .data⟩ (by simp) rfl 60 (by decide) rfl
              exact .inr ⟨_, #[a.eval (.tmp 55), a.eval (.tmp 59), a.eval (.tmp 60)], exec_call Try.func51 (by kernel_rfl) (by kernel_rfl) _ rfl _ _ (by simp), (step_V h0 h1 h2 _).mono (fun e w'' ⟨r1, r2, he, h1, h2, hb⟩ => ⟨_, he, ⟨r1, r2, rfl, h1, h2⟩, hb⟩)⟩
            · refine hot_val rfl rfl (fun L a w' hat => ?_)
              have h0 : ∃ v1 v2, a.eval (.tmp 61) = .tuple #[v1, v2] ∧ AgV [twiceX x1 z1, twiceZ x1 z1] v1 ∧ AgV [bothX x1 z1 x0 z0, bothZ x1 z1 x0 z0 u] v2 := hat.deps ⟨11, .data⟩ (by simp) rfl 61 (by decide) rfl
              exact out_of rfl h0
            · refine hot_val rfl rfl (fun L a w' hat => ?_)
              have h0 : ∃ v1 v2, a.eval (.tmp 49) = .tuple #[v1, v2] ∧ AgV [twiceX x1 z1, twiceZ x1 z1] v1 ∧ AgV [bothX x1 z1 x0 z0, bothZ x1 z1 x0 z0 u] v2 := hat.deps ⟨12, .data⟩ (by simp) rfl 49 (by decide) rfl
              obtain ⟨v1, v2, hv, hv1, hv2⟩ := h0
              exact out_of (v := v1) (by (generalize a.eval = ev at *); simp [execOp, go_sem, hv] <;> rfl) hv1
            · refine hot_val rfl rfl (fun L a w' hat => ?_)
              have h0 : ∃ v1 v2, a.eval (.tmp 49) = .tuple #[v1, v2] ∧ AgV [twiceX x1 z1, twiceZ x1 z1] v1 ∧ AgV [bothX x1 z1 x0 z0, bothZ x1 z1 x0 z0 u] v2 := hat.deps ⟨12, .data⟩ (by simp) rfl 49 (by decide) rfl
              obtain ⟨v1, v2, hv, hv1, hv2⟩ := h0
              exact out_of (v := v2) (by (generalize a.eval = ev at *); simp [execOp, go_sem, hv] <;> rfl) hv2
            · refine hot_val rfl rfl (fun L a w' hat => ?_)
              have h0 : a.eval (.tmp 9) = .pointer (some ⟨g9, 0, none⟩) := (hat.others 9 (by decide)).trans rfl
              have h1 : a.eval (.tmp 50) = .int .u8 (1) := hat.deps ⟨0, .data⟩ (by simp) rfl 50 (by decide) rfl
              exact out_of (v := .pointer (some ⟨g9, 10, none⟩)) (by (generalize a.eval = ev at *); simp [execOp, go_sem, h0, h1] <;> rfl) rfl
            · refine hot_store rfl (fun L a w' hat => ?_)
              have h0 : a.eval (.tmp 64) = .pointer (some ⟨g9, 10, none⟩) := hat.deps ⟨15, .data⟩ (by simp) rfl 64 (by decide) rfl
              have h1 : AgV [twiceX x1 z1, twiceZ x1 z1] (a.eval (.tmp 62)) := hat.deps ⟨13, .data⟩ (by simp) rfl 62 (by decide) rfl
              obtain ⟨c0, c1, hH⟩ : ∃ c0 c1, BlkF w' g9 [x0, z0, c0, c1] 71 := by (have hH := hat.hot; cases hL : L 16 <;> simp only [hL] at hH <;> exact ⟨_, _, hH⟩)
              exact hot_ex (st2_1 rfl h0 hH h1) (fun w'' hN => by show BlkF w'' _ (bif (L 16 || 16 == 16) then _ else _) _; rw [show (L 16 || 16 == 16) = true by simp]; exact hN)
          · intro L gs w8 hbx hV hall hH hap
            replace hF7 := hF7.oldX hbx n79
            replace BK := hbx.blk BK nk9
            have hN9 : BlkF w8 g9 [x0, z0, twiceX x1 z1, twiceZ x1 z1] 71 := by (have h := hH; simp only [hall 16 (by omega)] at h; exact h)
            replace HW := hbx.below HW HW.size (fun k hk => by rw [hk]; exact hg9)
            have hi2 := hV 2 (by omega) (by decide) 52 rfl
            have hs2 := hV 14 (by omega) (by decide) 63 rfl
            simp only [List.map_cons, List.map_nil, puts, Act.put, List.setIfInBounds_toArray, List.set_cons_zero, List.set_cons_succ, List.drop_succ_cons, List.drop_zero]
            rw [show gs 52 = .int .u8 0 from hi2]
            refine tail_val (v := .pointer (some ⟨g9, 0, none⟩)) rfl (by simp [execOp, go_sem]) ?_
            simp only [Act.put, List.setIfInBounds_toArray, List.set_cons_zero, List.set_cons_succ, List.drop_succ_cons, List.drop_zero]
            refine tail_st2_0 rfl rfl rfl rfl hN9 hs2 (fun w9 hN hc => ?_)
            replace hF7 := hF7.oldX hc n79
            replace BK := hc.blk BK nk9
            replace HW := hc.below HW HW.size (fun k hk => by rw [hk]; exact hg9)
            clear hF9 hH hall hV hap hbx hc hs2 hi2 hN9
            refine wpList_nil ?_
            try (show Exit.then _ _ .normal _ _)
            go_wp2_with fail
            go_roundw
            case rel => exact ⟨K + 1, i_next K, by omega, by (rw [lad_1 HL.out hb.out]; exact hN), hF7, BK, HW⟩
            case measure => first | (simp [intOf]; done) | (simp [intOf]; omega)
      · obtain rfl : K = 255 := by omega
        have hx : xmul ks us = x0 * fi z0 := by
          unfold xmul
          rw [HU.out, HL.out]
        have HX := hidd hx
        clear hx hlt hK
        go_wp2_with fail
        refine region_hotV 10 multS11K (multS11 (wr.heap.size) x0 z0 x1 z1 g9) (fun _ _ => True) (fun _ => False) [66, 67, 68, 69, 70, 71, 72, 73, 74, 12] (by kernel_rfl) (by kernel_rfl) (by kernel_rfl) (by kernel_rfl) (by kernel_rfl) ?_ (fun _ _ _ _ _ => trivial) (fun _ _ _ _ _ => trivial) ?_ trivial (hots_all ?_) ?_
        · exact fun i w w' v h hb => by revert h; unfold multS11; split <;> first | exact id | (rintro ⟨g, hv, hg, hB⟩; exact ⟨g, hv, hg, hB.oldX hb (fun h => h)⟩) | (exact fun h => h.old hb.none)
        · exact fun i w v hk h => by unfold multS11K at hk; split at hk <;> first | (cases hk; done) | (obtain ⟨g, hv, _, hB⟩ := h; exact ⟨g, hv, hB.lt⟩)
        · simp only [List.take_succ_cons, List.take_zero, HotFrom]
          refine ⟨?_, ?_, ?_, ?_, ?_, ?_, ?_, ?_, ?_, ?_, trivial⟩
          · refine hot_val rfl rfl (fun L a w' hat => ?_)
            have h0 : a.eval (.tmp 9) = .pointer (some ⟨g9, 0, none⟩) := (hat.others 9 (by decide)).trans rfl
            have h1 : a.eval (.const (Value.int IntKind.i64 0)) = .int .i64 0 := rfl
            exact out_of (v := .pointer (some ⟨g9, 0, none⟩)) (by (generalize a.eval = ev at *); simp [execOp, go_sem, h0, h1] <;> rfl) rfl
          · refine hot_val rfl rfl (fun L a w' hat => ?_)
            have h0 : a.eval (.tmp 66) = .pointer (some ⟨g9, 0, none⟩) := hat.deps ⟨0, .data⟩ (by simp) rfl 66 (by decide) rfl
            exact out_of (v := .pointer (some ⟨g9, 0, none⟩)) (by (generalize a.eval = ev at *); simp [execOp, go_sem, h0] <;> rfl) rfl
          · refine hot_val rfl rfl (fun L a w' hat => ?_)
            have h0 : a.eval (.tmp 67) = .pointer (some ⟨g9, 0, none⟩) := hat.deps ⟨1, .data⟩ (by simp) rfl 67 (by decide) rfl
            exact out_ex (ld1_4_0 rfl h0 (hF9.oldX hat.grow (fun h => h))) (fun u hE => hE)
          · refine hot_val rfl rfl (fun L a w' hat => ?_)
            have h0 : a.eval (.tmp 9) = .pointer (some ⟨g9, 0, none⟩) := (hat.others 9 (by decide)).trans rfl
            have h1 : a.eval (.const (Value.int IntKind.i64 0)) = .int .i64 0 := rfl
            exact out_of (v := .pointer (some ⟨g9, 0, none⟩)) (by (generalize a.eval = ev at *); simp [execOp, go_sem, h0, h1] <;> rfl) rfl
          · refine hot_val rfl rfl (fun L a w' hat => ?_)
            have h0 : a.eval (.tmp 69) = .pointer (some ⟨g9, 0, none⟩) := hat.deps ⟨3, .data⟩ (by simp) rfl 69 (by decide) rfl
            exact out_of (v := .pointer (some ⟨g9, 5, none⟩)) (by (generalize a.eval = ev at *); simp [execOp, go_sem, h0] <;> rfl) rfl
          · refine hot_val rfl rfl (fun L a w' hat => ?_)
            have h0 : a.eval (.tmp 70) = .pointer (some ⟨g9, 5, none⟩) := hat.deps ⟨4, .data⟩ (by simp) rfl 70 (by decide) rfl
            exact out_ex (ld1_4_1 rfl h0 (hF9.oldX hat.grow (fun h => h))) (fun u hE => hE)
          · refine hot_val rfl rfl (fun L a w' hat => ?_)
            have h0 : ElV (z0) (a.eval (.tmp 71)) := hat.deps ⟨5, .data⟩ (by simp) rfl 71 (by decide) rfl
            exact .inr ⟨_, #[a.eval (.tmp 71)], exec_call Try.func24 (by kernel_rfl) (by kernel_rfl) _ rfl _ _ (by simp), Inv_V h0 _⟩
          · refine hot_val rfl rfl (fun L a w' hat => ?_)
            have h0 : ElV (x0) (a.eval (.tmp 68)) := hat.deps ⟨2, .data⟩ (by simp) rfl 68 (by decide) rfl
            have h1 : ElV (fi (z0)) (a.eval (.tmp 72)) := hat.deps ⟨6, .data⟩ (by simp) rfl 72 (by decide) rfl
            exact .inr ⟨_, #[a.eval (.tmp 68), a.eval (.tmp 72)], exec_call Try.func18 (by kernel_rfl) (by kernel_rfl) _ rfl _ _ (by simp), Mul_V h0 h1 _⟩
          · refine hot_val rfl rfl (fun L a w' hat => ?_)
            have h0 : ElV ((x0) * (fi (z0))) (a.eval (.tmp 73)) := hat.deps ⟨7, .data⟩ (by simp) rfl 73 (by decide) rfl
            exact .inr ⟨_, #[a.eval (.tmp 73)], exec_call Try.func23 (by kernel_rfl) (by kernel_rfl) _ rfl _ _ (by simp), Bytes_O h0 _ _ hat.grow.size⟩
          · refine hot_val rfl rfl (fun L a w' hat => ?_)
            have h0 : OwnV _ (byteL ((x0) * (fi (z0))).val) w' (a.eval (.tmp 74)) := hat.deps ⟨8, .data⟩ (by simp) rfl 74 (by decide) rfl
            exact out_of rfl h0
        · intro L gs w8 hbx hV hall hH hap
          obtain ⟨A1, c1, hv12, hO⟩ := hV 9 (by omega) (by decide) 12 rfl
          rw [byteL_length] at hv12
          simp only [List.map_cons, List.map_nil, puts, Act.put, hv12, List.setIfInBounds_toArray, List.set_cons_zero, List.set_cons_succ, List.drop_succ_cons, List.drop_zero, List.drop_nil]
          replace HB := hbx.below HW HW.size (fun k h => h.elim)
          replace hO := hO.mono HW.size
          clear hV hall hH hap hbx hv12 hF9 hF7 BK HW HL
          have hmk := mk32z w8
          refine wpList_nil ?_
          try (show Exit.then _ _ .normal _ _)
          go_wp2_with fail
          refine Calls.mono (WEqual_any _ (hO.bs.below ((Below.refl _ _).alloc (Nat.le_refl _) _)) (Bs_of_Blk (ys := List.replicate 32 0) (Blk.new _ _ _) (by intro y hy; rw [(List.mem_replicate.1 hy).2]; omega) (by simp)) (byteL_length _) (by simp)) ?_
          rintro e w9 ⟨rfl, hb9⟩
          have hb8 : Below w8.heap.size w8 w9 := ((Below.refl _ _).alloc (Nat.le_refl _) _).trans (hb9.mono (by simp))
          replace HB := below_from HB hb8
          replace hO := hO.below hb8
          clear hb9 hb8 hmk
          rw [byteL_zero]
          dsimp only
          by_cases hz : (x0 * fi z0).val = 0
          · rw [decide_eq_true hz]
            have HZ := hidd hz
            clear hz
            go_wp2_with fail
            go_ret2
            refine ⟨?_, HB⟩
            unfold MultPost
            rw [HX.out, if_pos HZ.out]
            rfl
          · rw [decide_eq_false hz]
            have HZ := hidd hz
            clear hz
            go_wp2_with fail
            go_ret2
            refine ⟨?_, HB⟩
            unfold MultPost
            rw [HX.out, if_neg HZ.out]
            exact ⟨A1, c1, rfl, hO⟩
end Go.Proofs.Ytdjdfmnjoilmkaa
