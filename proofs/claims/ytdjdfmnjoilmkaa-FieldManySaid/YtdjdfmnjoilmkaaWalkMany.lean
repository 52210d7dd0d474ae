/-
  WALKS: sapperlaw5.FieldMany.
-/
import Derived.Test.YtdjdfmnjoilmkaaTwoParse
import Derived.Test.YtdjdfmnjoilmkaaRegionMem3
import Derived.Test.YtdjdfmnjoilmkaaRow
namespace Go.Proofs.Ytdjdfmnjoilmkaa
open Go.RowKit
set_option linter.unusedVariables false
set_option linter.unusedSimpArgs false

def mnS11 (xs : List Nat) (K : Nat) : Nat → Value → Prop
  | 0, v => ElV (num2 xs) v
  | 1, v => v = .int .i64 ((K : Int))
  | 2, v => v = .int .u64 ((K : Int))
  | 3, v => ElV (toF ((K : Int))) v
  | 4, v => ElV ((num2 xs) * (toF ((K : Int)))) v
  | _, _ => True

def mnS11K (xs : List Nat) (K : Nat) : Nat → RK
  | 5 => .fresh
  | 6 => .into 5 4 ((num2 xs) * (toF ((K : Int))))
  | _ => .val

def mnS12 (xs : List Nat) (K : Nat) : Nat → Value → Prop
  | 0, v => ElV (toF (K : Int) * num2 xs) v
  | 1, v => ElV ((num2 xs) * (toF ((K : Int)))) v
  | 2, v => v = .bool (true)
  | 3, v => v = .bool (true)
  | 4, v => ElV (toF 0 - toF (K : Int) * num2 xs) v
  | 5, v => ElV ((num2 xs) * (toF ((K : Int)))) v
  | 6, v => ElV ((toF 0 - toF (K : Int) * num2 xs) + ((num2 xs) * (toF ((K : Int))))) v
  | 7, v => ElV (toF (0)) v
  | 8, v => v = .bool (true)
  | 9, v => v = .bool (true)
  | 10, v => v = .bool (true)
  | 11, v => ElV (toF (K : Int) * num2 xs) v
  | 12, v => ElV (toF 0 - toF (K : Int) * num2 xs) v
  | 13, v => ElV ((toF (K : Int) * num2 xs) * (toF 0 - toF (K : Int) * num2 xs)) v
  | 14, v => ElV (toF (0)) v
  | 15, v => ElV ((num2 xs) * (toF ((K : Int)))) v
  | 16, v => ElV ((num2 xs) * (toF ((K : Int)))) v
  | 17, v => ElV (((num2 xs) * (toF ((K : Int)))) * ((num2 xs) * (toF ((K : Int))))) v
  | 18, v => ElV ((toF (0)) - (((num2 xs) * (toF ((K : Int)))) * ((num2 xs) * (toF ((K : Int)))))) v
  | 19, v => v = .bool (true)
  | 20, v => v = .bool (true)
  | 21, v => v = .bool (true)
  | 22, v => v = .bool (true)
  | 23, v => v = .bool (true)
  | 24, v => v = .bool (true)
  | _, _ => True

set_option maxHeartbeats 8000000 in
theorem FieldMany_any {A : Option Addr} {c : Nat} {xs : List Nat} (w : World) (ha : Bs w A c xs) (k0 : Int) :
    Calls Try.prog 6 #[.slice A xs.length c, .int .i64 k0] w fun e w' => e = .returned (.bool true) ∧ Below w.heap.size w w' := by
  have h8A := ha.b8
  have HSA := hidd ha
  obtain ⟨n, hn⟩ : ∃ n : Nat, xs.length = n := ⟨_, rfl⟩
  rw [hn]
  have HA8 := hidd h8A
  have HNA := hidd hn
  clear ha hn h8A
  by_cases g0 : (32 : Int) < (n : Int)
  · go_enter Try.func6, Try.ntmps6
    go_wp2_with fail
    refine Calls.mono (awake5_any _) ?_
    rintro e w1 ⟨rfl, hb1⟩
    dsimp only
    go_wp2_with fail
    go_ret
    exact ⟨rfl, by repeat' first | (with_reducible exact Below.refl _ _) | (with_reducible refine Below.setCell ?_ (by first | (simp; done) | (simp; omega) | omega) _) | (with_reducible refine Below.alloc ?_ (by first | (simp; done) | (simp; omega) | omega) _) | (with_reducible refine Below.drew ?_) | (with_reducible refine Below.trans ?_ (Below.mono (by assumption) (by first | (simp; done) | (simp; omega) | omega)))⟩
  · skip
    go_enter Try.func6, Try.ntmps6
    go_wp2_with fail
    refine Calls.mono (two_n HNA.out _ (Bs.under HSA (Below.refl _ _))) ?_
    rintro e w1 ⟨g, rfl, hg, BG, hb1⟩
    dsimp only
    go_wp2_with fail
    refine Calls.mono (Parse_two _ BG HA8.out) ?_
    rintro e w2 ⟨p0, p1, p2, p3, p4, rfl, hE0, hb2⟩
    have HB : Below w.heap.size w w2 := hb1.trans (hb2.mono hb1.size)
    clear hb1 hb2 BG hg
    dsimp only
    go_wp2_with fail
    obtain ⟨ga, hga⟩ : ∃ g, w2.heap.size = g := ⟨_, rfl⟩
    have BX0 : Blk (w2.alloc (.cells #[.int .u64 p0, .int .u64 p1, .int .u64 p2, .int .u64 p3, .int .u64 p4] 26)) ga #[.int .u64 p0, .int .u64 p1, .int .u64 p2, .int .u64 p3, .int .u64 p4] 26 := Blk.at _ _ hga
    replace HB : Below w.heap.size w (w2.alloc (.cells #[.int .u64 p0, .int .u64 p1, .int .u64 p2, .int .u64 p3, .int .u64 p4] 26)) := HB.alloc HB.size _
    rw [hga]
    generalize hw3 : (w2.alloc (.cells #[.int .u64 p0, .int .u64 p1, .int .u64 p2, .int .u64 p3, .int .u64 p4] 26)) = w3 at *
    clear hw3 hga
    obtain ⟨N, hN, hN3⟩ : ∃ N : Nat, wrap64 ((IntKind.u64.wrap k0).tmod 300) = (N : Int) ∧ N < 300 := by
      refine ⟨((IntKind.u64.wrap k0) % 300).toNat, ?_, by omega⟩
      rw [Int.tmod_eq_emod_of_nonneg (by rw [wrap64u]; omega)]
      unfold wrap64
      omega
    rw [hN]
    generalize (IntKind.u64.wrap k0).tmod 300 = k1
    clear hN
    refine Calls.mono (Of_any 0 _ (by omega) (by omega)) ?_
    rintro e w4 ⟨s0, s1, s2, s3, s4, rfl, hS, hb1⟩
    dsimp only
    go_wp2_with fail
    refine Calls.mono (Of_any 0 _ (by omega) (by omega)) ?_
    rintro e w5 ⟨t0, t1, t2, t3, t4, rfl, hT, hb2⟩
    replace BX0 := (BX0.old hb1).old hb2
    replace HB : Below w.heap.size w w5 := (HB.trans (hb1.mono HB.size)).trans (hb2.mono (Nat.le_trans HB.size hb1.size))
    clear hb1 hb2
    dsimp only
    go_wp2_with fail
    obtain ⟨gs, hgs⟩ : ∃ g, w5.heap.size = g := ⟨_, rfl⟩
    have BS : Blk ((w5.alloc (.cells #[.int .u64 s0, .int .u64 s1, .int .u64 s2, .int .u64 s3, .int .u64 s4] 26)).alloc (.cells #[.int .u64 t0, .int .u64 t1, .int .u64 t2, .int .u64 t3, .int .u64 t4] 26)) gs #[.int .u64 s0, .int .u64 s1, .int .u64 s2, .int .u64 s3, .int .u64 s4] 26 := (Blk.at _ _ hgs).alloc _
    have BT : Blk ((w5.alloc (.cells #[.int .u64 s0, .int .u64 s1, .int .u64 s2, .int .u64 s3, .int .u64 s4] 26)).alloc (.cells #[.int .u64 t0, .int .u64 t1, .int .u64 t2, .int .u64 t3, .int .u64 t4] 26)) (gs + 1) #[.int .u64 t0, .int .u64 t1, .int .u64 t2, .int .u64 t3, .int .u64 t4] 26 := Blk.at _ _ (by rw [← hgs]; simp)
    have zA : ga < gs := by rw [← hgs]; exact BX0.lt
    have zB : w.heap.size ≤ gs := by rw [← hgs]; exact HB.size
    replace BX0 := (BX0.alloc (.cells #[.int .u64 s0, .int .u64 s1, .int .u64 s2, .int .u64 s3, .int .u64 s4] 26)).alloc (.cells #[.int .u64 t0, .int .u64 t1, .int .u64 t2, .int .u64 t3, .int .u64 t4] 26)
    replace HB := (HB.alloc HB.size (.cells #[.int .u64 s0, .int .u64 s1, .int .u64 s2, .int .u64 s3, .int .u64 s4] 26)).alloc (by have := HB.size; simp; omega) (.cells #[.int .u64 t0, .int .u64 t1, .int .u64 t2, .int .u64 t3, .int .u64 t4] 26)
    rw [hgs]
    generalize hw6 : ((w5.alloc (.cells #[.int .u64 s0, .int .u64 s1, .int .u64 s2, .int .u64 s3, .int .u64 s4] 26)).alloc (.cells #[.int .u64 t0, .int .u64 t1, .int .u64 t2, .int .u64 t3, .int .u64 t4] 26)) = w6 at *
    clear hw6 hgs
    have hS0 : El (toF ((0 : Nat) : Int) * num2 xs) s0 s1 s2 s3 s4 := by
      have e : toF ((0 : Nat) : Int) * num2 xs = toF 0 := by show toF 0 * num2 xs = toF 0; rw [toF_zero]; grind
      rw [e]; exact hS
    have hT0 : El (toF 0 - toF ((0 : Nat) : Int) * num2 xs) t0 t1 t2 t3 t4 := by
      have e : toF 0 - toF ((0 : Nat) : Int) * num2 xs = toF 0 := by show toF 0 - toF 0 * num2 xs = toF 0; rw [toF_zero]; grind
      rw [e]; exact hT
    clear hS hT
    go_loopw [27] (fun i wr => ∃ (K : Nat) (a0 a1 a2 a3 a4 b0 b1 b2 b3 b4 : Int), i = .int .i64 (K : Int) ∧ K ≤ N ∧ El (toF (K : Int) * num2 xs) a0 a1 a2 a3 a4 ∧ El (toF 0 - toF (K : Int) * num2 xs) b0 b1 b2 b3 b4 ∧
        Blk wr gs #[.int .u64 a0, .int .u64 a1, .int .u64 a2, .int .u64 a3, .int .u64 a4] 26 ∧ Blk wr (gs + 1) #[.int .u64 b0, .int .u64 b1, .int .u64 b2, .int .u64 b3, .int .u64 b4] 26 ∧
        Blk wr ga #[.int .u64 p0, .int .u64 p1, .int .u64 p2, .int .u64 p3, .int .u64 p4] 26 ∧ Below w.heap.size w wr) (fun i _ => (N - (intOf i).toNat))
    case atStart => exact ⟨0, s0, s1, s2, s3, s4, t0, t1, t2, t3, t4, rfl, by omega, hS0, hT0, BS, BT, BX0, HB⟩
    case round =>
      obtain ⟨K, a0, a1, a2, a3, a4, b0, b1, b2, b3, b4, rfl, hK, hA, hB, BA, BB, BX, HW⟩ := hrel
      clear hS0 hT0 BS BT BX0 HB
      have cA := BA.cell
      have cX := BX.cell
      have cB := BB.cell
      by_cases hlt : K < N
      · go_wp2_with fail
        refine Calls.mono (Add_any hA hE0 _) ?_
        rintro e w7 ⟨u0, u1, u2, u3, u4, rfl, hU, hb1⟩
        replace BA := BA.old hb1
        replace BX := BX.old hb1
        replace BB := BB.old hb1
        replace HW : Below w.heap.size w w7 := HW.trans (hb1.mono HW.size)
        clear cA cB cX hb1
        have fA := BA.free
        have cA := BA.cell
        have cX := BX.cell
        have cB := BB.cell
        dsimp only
        go_wp2_with fail
        refine Calls.mono (Sub_any hB hE0 _) ?_
        rintro e w8 ⟨v0, v1, v2, v3, v4, rfl, hV, hb2⟩
        replace BA := hb2.blk (BA.set5 (.int .u64 u0) (.int .u64 u1) (.int .u64 u2) (.int .u64 u3) (.int .u64 u4)) (by rw [size_set5]; exact BA.lt)
        replace BX := hb2.blk (BX.other5 (.int .u64 u0) (.int .u64 u1) (.int .u64 u2) (.int .u64 u3) (.int .u64 u4) (by omega)) (by rw [size_set5]; exact BX.lt)
        replace BB := hb2.blk (BB.other5 (.int .u64 u0) (.int .u64 u1) (.int .u64 u2) (.int .u64 u3) (.int .u64 u4) (by omega)) (by rw [size_set5]; exact BB.lt)
        replace HW : Below w.heap.size w w8 := (below_set5 _ _ _ _ _ HW zB).trans (hb2.mono (by rw [size_set5]; exact HW.size))
        clear cA cB cX fA hb2
        have fB := BB.free
        have cB := BB.cell
        have cX := BX.cell
        dsimp only
        go_wp2_with fail
        have e1 : toF ((K : Nat) : Int) * num2 xs + num2 xs = toF ((K + 1 : Nat) : Int) * num2 xs := by rw [Int.natCast_add, toF_add]; show _ = (toF _ + toF 1) * _; rw [toF_one]; grind
        have e2 : toF 0 - toF ((K : Nat) : Int) * num2 xs - num2 xs = toF 0 - toF ((K + 1 : Nat) : Int) * num2 xs := by rw [← e1]; grind
        rw [e1] at hU
        rw [e2] at hV
        clear e1 e2 cB cX fB
        go_roundw
        case rel => exact ⟨K + 1, u0, u1, u2, u3, u4, v0, v1, v2, v3, v4, by go_num, by omega, hU, hV, BA.other5 (.int .u64 v0) (.int .u64 v1) (.int .u64 v2) (.int .u64 v3) (.int .u64 v4) (by omega), BB.set5 (.int .u64 v0) (.int .u64 v1) (.int .u64 v2) (.int .u64 v3) (.int .u64 v4), BX.other5 (.int .u64 v0) (.int .u64 v1) (.int .u64 v2) (.int .u64 v3) (.int .u64 v4) (by omega), below_set5 _ _ _ _ _ HW (by omega)⟩
        case measure => simp [intOf]; omega
      · obtain rfl : K = N := by omega
        obtain ⟨w9, rfl⟩ : ∃ w9, w9 = wr := ⟨_, rfl⟩
        clear cA cX cB hlt hK
        have HB := HW
        have hKb : (K : Int) < 300 := by omega
        have eK : IntKind.u64.wrap (K : Int) = (K : Int) := by rw [wrap64u]; omega
        go_wp2_with fail
    
        refine region_mem3 (mnS11K xs K) (mnS11 xs K) [36, 37, 38, 39, 40, 9] (by kernel_rfl) (by kernel_rfl) (by kernel_rfl) (by kernel_rfl) ?_ ?_ ?_
        · simp only [MemSteps]
          refine ⟨?_, ?_, ?_, ?_, ?_, ?_, ?_, trivial⟩
          · refine fun _ => ⟨rfl, fun a' w' hb' hO hD => ?_⟩
            exact .inl ⟨_, _, exec_load_elem rfl ((hO 5 (dst_free (by kernel_rfl))).trans rfl) (hb'.blk (cur := #[.int .u64 p0, .int .u64 p1, .int .u64 p2, .int .u64 p3, .int .u64 p4]) (BX) (BX.lt)), ⟨_, _, _, _, _, rfl, hE0⟩, Below.refl _ _⟩
          · refine fun _ => ⟨rfl, fun a' w' hb' hO hD => ?_⟩
            have h0 : a'.eval (.tmp 1) = .int .i64 ((K : Int)) := (hO 1 (dst_free (by kernel_rfl))).trans rfl
            exact .inl ⟨a'.eval (.tmp 1), _, rfl, h0, Below.refl _ _⟩
          · refine fun _ => ⟨rfl, fun a' w' hb' hO hD => ?_⟩
            have h0 : a'.eval (.tmp 37) = .int .i64 ((K : Int)) := hD ⟨1, .data⟩ (by simp) rfl 37 rfl rfl
            exact .inl ⟨.int .u64 ((K : Int)), _, by (generalize a'.eval = ev at *; simp [execOp, go_sem, h0, wrap64u]; try omega), rfl, Below.refl _ _⟩
          · refine fun _ => ⟨rfl, fun a' w' hb' hO hD => ?_⟩
            have h0 : a'.eval (.tmp 38) = .int .u64 ((K : Int)) := hD ⟨2, .data⟩ (by simp) rfl 38 rfl rfl
            exact .inr ⟨_, #[.int .u64 ((K : Int))], exec_call Try.func15 (by kernel_rfl) (by kernel_rfl) _ rfl _ _ (by simp [h0]), Of_V _ _ (by omega) (by omega)⟩
          · refine fun _ => ⟨rfl, fun a' w' hb' hO hD => ?_⟩
            have h0 : ElV (num2 xs) (a'.eval (.tmp 36)) := hD ⟨0, .data⟩ (by simp) rfl 36 rfl rfl
            have h1 : ElV (toF ((K : Int))) (a'.eval (.tmp 39)) := hD ⟨3, .data⟩ (by simp) rfl 39 rfl rfl
            exact .inr ⟨_, #[a'.eval (.tmp 36), a'.eval (.tmp 39)], exec_call Try.func18 (by kernel_rfl) (by kernel_rfl) _ rfl _ _ (by simp), Mul_V h0 h1 _⟩
          · intro h; cases h
          · intro h; cases h
        · exact fun t k m x h v hv => by unfold mnS11K at h; split at h <;> first | (cases h; exact hv) | cases h
        · intro gs w10 hb5 hV hM
          replace BX := BX.old hb5
          replace BA := BA.old hb5
          replace BB := BB.old hb5
          replace HB : Below w.heap.size w w10 := HB.trans (hb5.mono HB.size)
          obtain ⟨gv9, cur9, he9, hl9, BY9, hC9⟩ := hM 6 5 4 ((num2 xs) * (toF ((K : Int)))) 9 rfl (by decide) rfl
          obtain ⟨v9_0, v9_1, v9_2, v9_3, v9_4, rfl, hY9⟩ := hC9
          simp only [List.map_cons, List.map_nil, puts, Act.put, he9, List.setIfInBounds_toArray, List.set_cons_zero, List.set_cons_succ]
          clear hM hV hb5 he9
          show Exit.then _ _ .normal _ _
          go_wp2_with fail
          try simp only [List.append_eq, List.cons_append, List.nil_append]
          refine region_any 25 (fun i _ v => mnS12 xs K i v) (by kernel_rfl) (by kernel_rfl) (by kernel_rfl) (fun _ _ _ _ h _ => h) (steps_all ?_) ?_
          · simp only [List.take_succ_cons, List.take_zero, StepsFrom]
            refine ⟨?_, ?_, ?_, ?_, ?_, ?_, ?_, ?_, ?_, ?_, ?_, ?_, ?_, ?_, ?_, ?_, ?_, ?_, ?_, ?_, ?_, ?_, ?_, ?_, ?_, trivial⟩
            · refine step_plain rfl (fun a' w' hb' hO hD => ?_)
              exact .inl ⟨_, _, exec_load_elem rfl ((hO 7 (by decide)).trans rfl) (hb'.blk (cur := #[.int .u64 a0, .int .u64 a1, .int .u64 a2, .int .u64 a3, .int .u64 a4]) (BA) (BA.lt)), ⟨_, _, _, _, _, rfl, hA⟩, Below.refl _ _⟩
            · refine step_plain rfl (fun a' w' hb' hO hD => ?_)
              exact .inl ⟨_, _, exec_load_elem rfl ((hO 9 (by decide)).trans rfl) (hb'.blk (cur := #[.int .u64 v9_0, .int .u64 v9_1, .int .u64 v9_2, .int .u64 v9_3, .int .u64 v9_4]) (BY9) (BY9.lt)), ⟨_, _, _, _, _, rfl, hY9⟩, Below.refl _ _⟩
            · refine step_plain rfl (fun a' w' hb' hO hD => ?_)
              have h0 : ElV (toF (K : Int) * num2 xs) (a'.eval (.tmp 41)) := hD ⟨0, .data⟩ (by simp) rfl 41 rfl
              have h1 : ElV ((num2 xs) * (toF ((K : Int)))) (a'.eval (.tmp 42)) := hD ⟨1, .data⟩ (by simp) rfl 42 rfl
              exact .inr ⟨_, #[a'.eval (.tmp 41), a'.eval (.tmp 42)], exec_call Try.func16 (by kernel_rfl) (by kernel_rfl) _ rfl _ _ (by simp), Same_T h0 h1 _ (by grind)⟩
            · refine step_plain rfl (fun a' w' hb' hO hD => ?_)
              have h0 : a'.eval (.tmp 43) = .bool (true) := hD ⟨2, .data⟩ (by simp) rfl 43 rfl
              exact .inl ⟨a'.eval (.tmp 43), _, rfl, h0, Below.refl _ _⟩
            · refine step_guard 44 rfl rfl (by kernel_rfl) (fun _ _ h => h) (fun a' w' hb' hO hD => ?_)
              exact .inl ⟨_, _, exec_load_elem rfl ((hO 8 (by decide)).trans rfl) (hb'.blk (cur := #[.int .u64 b0, .int .u64 b1, .int .u64 b2, .int .u64 b3, .int .u64 b4]) (BB) (BB.lt)), ⟨_, _, _, _, _, rfl, hB⟩, Below.refl _ _⟩
            · refine step_guard 44 rfl rfl (by kernel_rfl) (fun _ _ h => h) (fun a' w' hb' hO hD => ?_)
              exact .inl ⟨_, _, exec_load_elem rfl ((hO 9 (by decide)).trans rfl) (hb'.blk (cur := #[.int .u64 v9_0, .int .u64 v9_1, .int .u64 v9_2, .int .u64 v9_3, .int .u64 v9_4]) (BY9) (BY9.lt)), ⟨_, _, _, _, _, rfl, hY9⟩, Below.refl _ _⟩
            · refine step_guard 44 rfl rfl (by kernel_rfl) (fun _ _ h => h) (fun a' w' hb' hO hD => ?_)
              have h0 : ElV (toF 0 - toF (K : Int) * num2 xs) (a'.eval (.tmp 45)) := hD ⟨4, .data⟩ (by simp) rfl 45 rfl
              have h1 : ElV ((num2 xs) * (toF ((K : Int)))) (a'.eval (.tmp 46)) := hD ⟨5, .data⟩ (by simp) rfl 46 rfl
              exact .inr ⟨_, #[a'.eval (.tmp 45), a'.eval (.tmp 46)], exec_call Try.func17 (by kernel_rfl) (by kernel_rfl) _ rfl _ _ (by simp), Add_V h0 h1 _⟩
            · refine step_guard 44 rfl rfl (by kernel_rfl) (fun _ _ h => h) (fun a' w' hb' hO hD => ?_)
              exact .inr ⟨_, #[.int .u64 (0)], exec_call Try.func15 (by kernel_rfl) (by kernel_rfl) _ rfl _ _ (by simp [Act.eval]), Of_V _ _ (by omega) (by omega)⟩
            · refine step_guard 44 rfl rfl (by kernel_rfl) (fun _ _ h => h) (fun a' w' hb' hO hD => ?_)
              have h0 : ElV ((toF 0 - toF (K : Int) * num2 xs) + ((num2 xs) * (toF ((K : Int))))) (a'.eval (.tmp 47)) := hD ⟨6, .data⟩ (by simp) rfl 47 rfl
              have h1 : ElV (toF (0)) (a'.eval (.tmp 48)) := hD ⟨7, .data⟩ (by simp) rfl 48 rfl
              exact .inr ⟨_, #[a'.eval (.tmp 47), a'.eval (.tmp 48)], exec_call Try.func16 (by kernel_rfl) (by kernel_rfl) _ rfl _ _ (by simp), Same_T h0 h1 _ (by rw [toF_zero]; grind)⟩
            · refine step_plain rfl (fun a' w' hb' hO hD => ?_)
              have h0 : a'.eval (.tmp 44) = .bool (true) := hD ⟨3, .data⟩ (by simp) rfl 44 rfl
              have h1 : a'.eval (.tmp 49) = .bool (true) := hD ⟨8, .data⟩ (by simp) rfl 49 rfl
              exact .inl ⟨.bool (true), _, by (generalize a'.eval = ev at *; simp [execOp, go_sem, h0, h1]), rfl, Below.refl _ _⟩
            · refine step_plain rfl (fun a' w' hb' hO hD => ?_)
              have h0 : a'.eval (.tmp 50) = .bool (true) := hD ⟨9, .data⟩ (by simp) rfl 50 rfl
              exact .inl ⟨a'.eval (.tmp 50), _, rfl, h0, Below.refl _ _⟩
            · refine step_guard 51 rfl rfl (by kernel_rfl) (fun _ _ h => h) (fun a' w' hb' hO hD => ?_)
              exact .inl ⟨_, _, exec_load_elem rfl ((hO 7 (by decide)).trans rfl) (hb'.blk (cur := #[.int .u64 a0, .int .u64 a1, .int .u64 a2, .int .u64 a3, .int .u64 a4]) (BA) (BA.lt)), ⟨_, _, _, _, _, rfl, hA⟩, Below.refl _ _⟩
            · refine step_guard 51 rfl rfl (by kernel_rfl) (fun _ _ h => h) (fun a' w' hb' hO hD => ?_)
              exact .inl ⟨_, _, exec_load_elem rfl ((hO 8 (by decide)).trans rfl) (hb'.blk (cur := #[.int .u64 b0, .int .u64 b1, .int .u64 b2, .int .u64 b3, .int .u64 b4]) (BB) (BB.lt)), ⟨_, _, _, _, _, rfl, hB⟩, Below.refl _ _⟩
            · refine step_guard 51 rfl rfl (by kernel_rfl) (fun _ _ h => h) (fun a' w' hb' hO hD => ?_)
              have h0 : ElV (toF (K : Int) * num2 xs) (a'.eval (.tmp 52)) := hD ⟨11, .data⟩ (by simp) rfl 52 rfl
              have h1 : ElV (toF 0 - toF (K : Int) * num2 xs) (a'.eval (.tmp 53)) := hD ⟨12, .data⟩ (by simp) rfl 53 rfl
              exact .inr ⟨_, #[a'.eval (.tmp 52), a'.eval (.tmp 53)], exec_call Try.func18 (by kernel_rfl) (by kernel_rfl) _ rfl _ _ (by simp), Mul_V h0 h1 _⟩
            · refine step_guard 51 rfl rfl (by kernel_rfl) (fun _ _ h => h) (fun a' w' hb' hO hD => ?_)
              exact .inr ⟨_, #[.int .u64 (0)], exec_call Try.func15 (by kernel_rfl) (by kernel_rfl) _ rfl _ _ (by simp [Act.eval]), Of_V _ _ (by omega) (by omega)⟩
            · refine step_guard 51 rfl rfl (by kernel_rfl) (fun _ _ h => h) (fun a' w' hb' hO hD => ?_)
              exact .inl ⟨_, _, exec_load_elem rfl ((hO 9 (by decide)).trans rfl) (hb'.blk (cur := #[.int .u64 v9_0, .int .u64 v9_1, .int .u64 v9_2, .int .u64 v9_3, .int .u64 v9_4]) (BY9) (BY9.lt)), ⟨_, _, _, _, _, rfl, hY9⟩, Below.refl _ _⟩
            · refine step_guard 51 rfl rfl (by kernel_rfl) (fun _ _ h => h) (fun a' w' hb' hO hD => ?_)
              exact .inl ⟨_, _, exec_load_elem rfl ((hO 9 (by decide)).trans rfl) (hb'.blk (cur := #[.int .u64 v9_0, .int .u64 v9_1, .int .u64 v9_2, .int .u64 v9_3, .int .u64 v9_4]) (BY9) (BY9.lt)), ⟨_, _, _, _, _, rfl, hY9⟩, Below.refl _ _⟩
            · refine step_guard 51 rfl rfl (by kernel_rfl) (fun _ _ h => h) (fun a' w' hb' hO hD => ?_)
              have h0 : ElV ((num2 xs) * (toF ((K : Int)))) (a'.eval (.tmp 56)) := hD ⟨15, .data⟩ (by simp) rfl 56 rfl
              have h1 : ElV ((num2 xs) * (toF ((K : Int)))) (a'.eval (.tmp 57)) := hD ⟨16, .data⟩ (by simp) rfl 57 rfl
              exact .inr ⟨_, #[a'.eval (.tmp 56), a'.eval (.tmp 57)], exec_call Try.func18 (by kernel_rfl) (by kernel_rfl) _ rfl _ _ (by simp), Mul_V h0 h1 _⟩
            · refine step_guard 51 rfl rfl (by kernel_rfl) (fun _ _ h => h) (fun a' w' hb' hO hD => ?_)
              have h0 : ElV (toF (0)) (a'.eval (.tmp 55)) := hD ⟨14, .data⟩ (by simp) rfl 55 rfl
              have h1 : ElV (((num2 xs) * (toF ((K : Int)))) * ((num2 xs) * (toF ((K : Int))))) (a'.eval (.tmp 58)) := hD ⟨17, .data⟩ (by simp) rfl 58 rfl
              exact .inr ⟨_, #[a'.eval (.tmp 55), a'.eval (.tmp 58)], exec_call Try.func19 (by kernel_rfl) (by kernel_rfl) _ rfl _ _ (by simp), Sub_V h0 h1 _⟩
            · refine step_guard 51 rfl rfl (by kernel_rfl) (fun _ _ h => h) (fun a' w' hb' hO hD => ?_)
              have h0 : ElV ((toF (K : Int) * num2 xs) * (toF 0 - toF (K : Int) * num2 xs)) (a'.eval (.tmp 54)) := hD ⟨13, .data⟩ (by simp) rfl 54 rfl
              have h1 : ElV ((toF (0)) - (((num2 xs) * (toF ((K : Int)))) * ((num2 xs) * (toF ((K : Int)))))) (a'.eval (.tmp 59)) := hD ⟨18, .data⟩ (by simp) rfl 59 rfl
              exact .inr ⟨_, #[a'.eval (.tmp 54), a'.eval (.tmp 59)], exec_call Try.func16 (by kernel_rfl) (by kernel_rfl) _ rfl _ _ (by simp), Same_T h0 h1 _ (by rw [toF_zero]; grind)⟩
            · refine step_plain rfl (fun a' w' hb' hO hD => ?_)
              have h0 : a'.eval (.tmp 51) = .bool (true) := hD ⟨10, .data⟩ (by simp) rfl 51 rfl
              have h1 : a'.eval (.tmp 60) = .bool (true) := hD ⟨19, .data⟩ (by simp) rfl 60 rfl
              exact .inl ⟨.bool (true), _, by (generalize a'.eval = ev at *; simp [execOp, go_sem, h0, h1]), rfl, Below.refl _ _⟩
            · refine step_plain rfl (fun a' w' hb' hO hD => ?_)
              have h0 : a'.eval (.tmp 61) = .bool (true) := hD ⟨20, .data⟩ (by simp) rfl 61 rfl
              exact .inl ⟨a'.eval (.tmp 61), _, rfl, h0, Below.refl _ _⟩
            · refine step_guard 62 rfl rfl (by kernel_rfl) (fun _ _ h => h) (fun a' w' hb' hO hD => ?_)
              exact .inr ⟨_, #[], exec_call Try.func20 (by kernel_rfl) (by kernel_rfl) _ rfl _ _ (by simp), awake5_V _⟩
            · refine step_plain rfl (fun a' w' hb' hO hD => ?_)
              have h0 : a'.eval (.tmp 62) = .bool (true) := hD ⟨21, .data⟩ (by simp) rfl 62 rfl
              have h1 : a'.eval (.tmp 63) = .bool (true) := hD ⟨22, .data⟩ (by simp) rfl 63 rfl
              exact .inl ⟨.bool (true), _, by (generalize a'.eval = ev at *; simp [execOp, go_sem, h0, h1]), rfl, Below.refl _ _⟩
            · refine step_plain rfl (fun a' w' hb' hO hD => ?_)
              have h0 : a'.eval (.tmp 64) = .bool (true) := hD ⟨23, .data⟩ (by simp) rfl 64 rfl
              exact .inl ⟨a'.eval (.tmp 64), _, rfl, h0, Below.refl _ _⟩
          · intro a' w' hb' hsz hdf hO hV
            have h4 : a'.tmps.getD 4 undef = .bool true := hV 24 (by omega) 4 rfl
            have hdf' : a'.defers = [] := hdf
            have HB2 : Below w.heap.size w w' := HB.trans (hb'.mono HB.size)
            clear hO hV hb' hdf
            show Exit.then _ _ .normal _ _
            go_wp2_with fail
            exact bodyPost_ret (v := .bool true) (by simp only [Array.getD_eq_getD_getElem?] at h4; simp [results, Try.results6, go_sem, h4]) hdf' ⟨rfl, HB2⟩

end Go.Proofs.Ytdjdfmnjoilmkaa
