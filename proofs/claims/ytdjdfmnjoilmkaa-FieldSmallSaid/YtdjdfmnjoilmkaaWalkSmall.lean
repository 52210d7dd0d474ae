/-
  WALKS: sapperlaw5.FieldSmall.
-/
import Derived.Test.YtdjdfmnjoilmkaaFieldV
namespace Go.Proofs.Ytdjdfmnjoilmkaa
open Go.RowKit
set_option linter.unusedVariables false
set_option linter.unusedSimpArgs false

def smallS (a b : Int) : Nat → Value → Prop
  | 0, v => ElV (toF a) v
  | 1, v => ElV (toF b) v
  | 2, v => ElV ((toF a) + (toF b)) v
  | 3, v => v = .int .u32 (a)
  | 4, v => v = .int .u64 (a)
  | 5, v => v = .int .u32 (b)
  | 6, v => v = .int .u64 (b)
  | 7, v => v = .int .u64 (a + b)
  | 8, v => ElV (toF (a + b)) v
  | 9, v => v = .bool (true)
  | 10, v => v = .bool (true)
  | 11, v => ElV (toF a) v
  | 12, v => ElV (toF b) v
  | 13, v => ElV ((toF a) * (toF b)) v
  | 14, v => v = .int .u32 (a)
  | 15, v => v = .int .u64 (a)
  | 16, v => v = .int .u32 (b)
  | 17, v => v = .int .u64 (b)
  | 18, v => v = .int .u64 (a * b)
  | 19, v => ElV (toF (a * b)) v
  | 20, v => v = .bool (true)
  | 21, v => v = .bool (true)
  | 22, v => v = .bool (true)
  | 23, v => ElV (toF a) v
  | 24, v => ElV (toF b) v
  | 25, v => v = .bool (decide (toF a = toF b))
  | 26, v => v = .int .u32 (a)
  | 27, v => v = .int .u32 (b)
  | 28, v => v = .bool (decide (a = b))
  | 29, v => v = .bool (true)
  | 30, v => v = .bool (true)
  | 31, v => v = .bool (true)
  | 32, v => ElV (toF (0)) v
  | 33, v => ElV (toF (0)) v
  | 34, v => ElV (toF a) v
  | 35, v => ElV ((toF (0)) - (toF a)) v
  | 36, v => ElV ((toF (0)) - ((toF (0)) - (toF a))) v
  | 37, v => ElV (toF a) v
  | 38, v => v = .bool (true)
  | 39, v => v = .bool (true)
  | 40, v => v = .bool (true)
  | 41, v => v = .bool (true)
  | 42, v => v = .bool (true)
  | 43, v => v = .bool (true)
  | _, _ => True

set_option maxHeartbeats 4000000 in
theorem FieldSmall_any (a b : Int) (w : World) (ha : 0 ≤ a) (ha' : a < 4294967296) (hb : 0 ≤ b) (hb' : b < 4294967296) :
    Calls Try.prog 3 #[.int .u32 a, .int .u32 b] w fun e w' => e = .returned (.bool true) ∧ Below w.heap.size w w' := by
  have ab_ge : 0 ≤ a * b := Int.mul_nonneg ha hb
  have ab_lt : a * b < 18446744073709551616 := by
    have h := Int.mul_le_mul (a := a) (b := b) (c := 4294967295) (d := 4294967295) (by omega) (by omega) hb (by omega)
    omega
  have AB : Hid (0 ≤ a * b ∧ a * b < 18446744073709551616) := ⟨ab_ge, ab_lt⟩
  clear ab_ge ab_lt
  go_enter Try.func3, Try.ntmps3
  go_wp2_with fail
  refine Calls.mono (Of_any _ _ (by omega) (by omega)) ?_
  rintro e w1 ⟨p0, p1, p2, p3, p4, rfl, hx, hb1⟩
  dsimp only
  go_wp2_with fail
  refine Calls.mono (Of_any _ _ (by omega) (by omega)) ?_
  rintro e w2 ⟨q0, q1, q2, q3, q4, rfl, hy, hb2⟩
  have HB : Below w.heap.size w w2 := hb1.trans (hb2.mono hb1.size)
  clear hb1 hb2
  dsimp only
  go_wp2_with fail
  have BX : Blk ((w2.alloc (.cells #[.int .u64 p0, .int .u64 p1, .int .u64 p2, .int .u64 p3, .int .u64 p4] 26)).alloc (.cells #[.int .u64 q0, .int .u64 q1, .int .u64 q2, .int .u64 q3, .int .u64 q4] 26)) w2.heap.size #[.int .u64 p0, .int .u64 p1, .int .u64 p2, .int .u64 p3, .int .u64 p4] 26 := (Blk.new _ _ _).alloc _
  have BY : Blk ((w2.alloc (.cells #[.int .u64 p0, .int .u64 p1, .int .u64 p2, .int .u64 p3, .int .u64 p4] 26)).alloc (.cells #[.int .u64 q0, .int .u64 q1, .int .u64 q2, .int .u64 q3, .int .u64 q4] 26)) (w2.heap.size + 1) #[.int .u64 q0, .int .u64 q1, .int .u64 q2, .int .u64 q3, .int .u64 q4] 26 := Blk.at _ _ (by simp)
  obtain ⟨ab_ge, ab_lt⟩ := AB.out
  refine region_any 44 (fun i _ v => smallS a b i v) (by kernel_rfl) (by kernel_rfl) (by kernel_rfl) (fun _ _ _ _ h _ => h) (steps_all ?_) ?_
  · simp only [List.take_succ_cons, List.take_zero, StepsFrom]
    refine ⟨?_, ?_, ?_, ?_, ?_, ?_, ?_, ?_, ?_, ?_, ?_, ?_, ?_, ?_, ?_, ?_, ?_, ?_, ?_, ?_, ?_, ?_, ?_, ?_, ?_, ?_, ?_, ?_, ?_, ?_, ?_, ?_, ?_, ?_, ?_, ?_, ?_, ?_, ?_, ?_, ?_, ?_, ?_, ?_, trivial⟩
    · refine step_plain rfl (fun a' w' hb' hO hD => ?_)
      exact .inl ⟨_, _, exec_load_elem rfl ((hO 5 (by decide)).trans rfl) (hb'.blk (cur := #[.int .u64 p0, .int .u64 p1, .int .u64 p2, .int .u64 p3, .int .u64 p4]) (BX) (BX.lt)), ⟨_, _, _, _, _, rfl, hx⟩, Below.refl _ _⟩
    · refine step_plain rfl (fun a' w' hb' hO hD => ?_)
      exact .inl ⟨_, _, exec_load_elem rfl ((hO 6 (by decide)).trans rfl) (hb'.blk (cur := #[.int .u64 q0, .int .u64 q1, .int .u64 q2, .int .u64 q3, .int .u64 q4]) (BY) (BY.lt)), ⟨_, _, _, _, _, rfl, hy⟩, Below.refl _ _⟩
    · refine step_plain rfl (fun a' w' hb' hO hD => ?_)
      have h0 : ElV (toF a) (a'.eval (.tmp 13)) := hD ⟨0, .data⟩ (by simp) rfl 13 rfl
      have h1 : ElV (toF b) (a'.eval (.tmp 14)) := hD ⟨1, .data⟩ (by simp) rfl 14 rfl
      exact .inr ⟨_, #[a'.eval (.tmp 13), a'.eval (.tmp 14)], exec_call Try.func17 (by kernel_rfl) (by kernel_rfl) _ rfl _ _ (by simp), Add_V h0 h1 _⟩
    · refine step_plain rfl (fun a' w' hb' hO hD => ?_)
      have h0 : a'.eval (.tmp 0) = .int .u32 (a) := (hO 0 (by decide)).trans rfl
      exact .inl ⟨a'.eval (.tmp 0), _, rfl, h0, Below.refl _ _⟩
    · refine step_plain rfl (fun a' w' hb' hO hD => ?_)
      have h0 : a'.eval (.tmp 16) = .int .u32 (a) := hD ⟨3, .data⟩ (by simp) rfl 16 rfl
      exact .inl ⟨.int .u64 (a), _, by (generalize a'.eval = ev at *; simp [execOp, go_sem, h0, wrap64u]; try omega), rfl, Below.refl _ _⟩
    · refine step_plain rfl (fun a' w' hb' hO hD => ?_)
      have h0 : a'.eval (.tmp 1) = .int .u32 (b) := (hO 1 (by decide)).trans rfl
      exact .inl ⟨a'.eval (.tmp 1), _, rfl, h0, Below.refl _ _⟩
    · refine step_plain rfl (fun a' w' hb' hO hD => ?_)
      have h0 : a'.eval (.tmp 18) = .int .u32 (b) := hD ⟨5, .data⟩ (by simp) rfl 18 rfl
      exact .inl ⟨.int .u64 (b), _, by (generalize a'.eval = ev at *; simp [execOp, go_sem, h0, wrap64u]; try omega), rfl, Below.refl _ _⟩
    · refine step_plain rfl (fun a' w' hb' hO hD => ?_)
      have h0 : a'.eval (.tmp 17) = .int .u64 (a) := hD ⟨4, .data⟩ (by simp) rfl 17 rfl
      have h1 : a'.eval (.tmp 19) = .int .u64 (b) := hD ⟨6, .data⟩ (by simp) rfl 19 rfl
      exact .inl ⟨.int .u64 (a + b), _, by (generalize a'.eval = ev at *; simp [execOp, go_sem, h0, h1, wrap64u]; omega), rfl, Below.refl _ _⟩
    · refine step_plain rfl (fun a' w' hb' hO hD => ?_)
      have h0 : a'.eval (.tmp 20) = .int .u64 (a + b) := hD ⟨7, .data⟩ (by simp) rfl 20 rfl
      exact .inr ⟨_, #[.int .u64 (a + b)], exec_call Try.func15 (by kernel_rfl) (by kernel_rfl) _ rfl _ _ (by simp [h0]), Of_V _ _ (by omega) (by omega)⟩
    · refine step_plain rfl (fun a' w' hb' hO hD => ?_)
      have h0 : ElV ((toF a) + (toF b)) (a'.eval (.tmp 15)) := hD ⟨2, .data⟩ (by simp) rfl 15 rfl
      have h1 : ElV (toF (a + b)) (a'.eval (.tmp 21)) := hD ⟨8, .data⟩ (by simp) rfl 21 rfl
      exact .inr ⟨_, #[a'.eval (.tmp 15), a'.eval (.tmp 21)], exec_call Try.func16 (by kernel_rfl) (by kernel_rfl) _ rfl _ _ (by simp), Same_T h0 h1 _ (by exact (toF_add a b).symm)⟩
    · refine step_plain rfl (fun a' w' hb' hO hD => ?_)
      have h0 : a'.eval (.tmp 22) = .bool (true) := hD ⟨9, .data⟩ (by simp) rfl 22 rfl
      exact .inl ⟨a'.eval (.tmp 22), _, rfl, h0, Below.refl _ _⟩
    · refine step_guard 23 rfl rfl (by kernel_rfl) (fun _ _ h => h) (fun a' w' hb' hO hD => ?_)
      exact .inl ⟨_, _, exec_load_elem rfl ((hO 5 (by decide)).trans rfl) (hb'.blk (cur := #[.int .u64 p0, .int .u64 p1, .int .u64 p2, .int .u64 p3, .int .u64 p4]) (BX) (BX.lt)), ⟨_, _, _, _, _, rfl, hx⟩, Below.refl _ _⟩
    · refine step_guard 23 rfl rfl (by kernel_rfl) (fun _ _ h => h) (fun a' w' hb' hO hD => ?_)
      exact .inl ⟨_, _, exec_load_elem rfl ((hO 6 (by decide)).trans rfl) (hb'.blk (cur := #[.int .u64 q0, .int .u64 q1, .int .u64 q2, .int .u64 q3, .int .u64 q4]) (BY) (BY.lt)), ⟨_, _, _, _, _, rfl, hy⟩, Below.refl _ _⟩
    · refine step_guard 23 rfl rfl (by kernel_rfl) (fun _ _ h => h) (fun a' w' hb' hO hD => ?_)
      have h0 : ElV (toF a) (a'.eval (.tmp 24)) := hD ⟨11, .data⟩ (by simp) rfl 24 rfl
      have h1 : ElV (toF b) (a'.eval (.tmp 25)) := hD ⟨12, .data⟩ (by simp) rfl 25 rfl
      exact .inr ⟨_, #[a'.eval (.tmp 24), a'.eval (.tmp 25)], exec_call Try.func18 (by kernel_rfl) (by kernel_rfl) _ rfl _ _ (by simp), Mul_V h0 h1 _⟩
    · refine step_guard 23 rfl rfl (by kernel_rfl) (fun _ _ h => h) (fun a' w' hb' hO hD => ?_)
      have h0 : a'.eval (.tmp 0) = .int .u32 (a) := (hO 0 (by decide)).trans rfl
      exact .inl ⟨a'.eval (.tmp 0), _, rfl, h0, Below.refl _ _⟩
    · refine step_guard 23 rfl rfl (by kernel_rfl) (fun _ _ h => h) (fun a' w' hb' hO hD => ?_)
      have h0 : a'.eval (.tmp 27) = .int .u32 (a) := hD ⟨14, .data⟩ (by simp) rfl 27 rfl
      exact .inl ⟨.int .u64 (a), _, by (generalize a'.eval = ev at *; simp [execOp, go_sem, h0, wrap64u]; try omega), rfl, Below.refl _ _⟩
    · refine step_guard 23 rfl rfl (by kernel_rfl) (fun _ _ h => h) (fun a' w' hb' hO hD => ?_)
      have h0 : a'.eval (.tmp 1) = .int .u32 (b) := (hO 1 (by decide)).trans rfl
      exact .inl ⟨a'.eval (.tmp 1), _, rfl, h0, Below.refl _ _⟩
    · refine step_guard 23 rfl rfl (by kernel_rfl) (fun _ _ h => h) (fun a' w' hb' hO hD => ?_)
      have h0 : a'.eval (.tmp 29) = .int .u32 (b) := hD ⟨16, .data⟩ (by simp) rfl 29 rfl
      exact .inl ⟨.int .u64 (b), _, by (generalize a'.eval = ev at *; simp [execOp, go_sem, h0, wrap64u]; try omega), rfl, Below.refl _ _⟩
    · refine step_guard 23 rfl rfl (by kernel_rfl) (fun _ _ h => h) (fun a' w' hb' hO hD => ?_)
      have h0 : a'.eval (.tmp 28) = .int .u64 (a) := hD ⟨15, .data⟩ (by simp) rfl 28 rfl
      have h1 : a'.eval (.tmp 30) = .int .u64 (b) := hD ⟨17, .data⟩ (by simp) rfl 30 rfl
      exact .inl ⟨.int .u64 (a * b), _, by (generalize a'.eval = ev at *; simp [execOp, go_sem, h0, h1, wrap64u]; have hm := ab_lt; have hm0 := ab_ge; omega), rfl, Below.refl _ _⟩
    · refine step_guard 23 rfl rfl (by kernel_rfl) (fun _ _ h => h) (fun a' w' hb' hO hD => ?_)
      have h0 : a'.eval (.tmp 31) = .int .u64 (a * b) := hD ⟨18, .data⟩ (by simp) rfl 31 rfl
      exact .inr ⟨_, #[.int .u64 (a * b)], exec_call Try.func15 (by kernel_rfl) (by kernel_rfl) _ rfl _ _ (by simp [h0]), Of_V _ _ (by exact ab_ge) (by exact ab_lt)⟩
    · refine step_guard 23 rfl rfl (by kernel_rfl) (fun _ _ h => h) (fun a' w' hb' hO hD => ?_)
      have h0 : ElV ((toF a) * (toF b)) (a'.eval (.tmp 26)) := hD ⟨13, .data⟩ (by simp) rfl 26 rfl
      have h1 : ElV (toF (a * b)) (a'.eval (.tmp 32)) := hD ⟨19, .data⟩ (by simp) rfl 32 rfl
      exact .inr ⟨_, #[a'.eval (.tmp 26), a'.eval (.tmp 32)], exec_call Try.func16 (by kernel_rfl) (by kernel_rfl) _ rfl _ _ (by simp), Same_T h0 h1 _ (by exact (toF_mul a b).symm)⟩
    · refine step_plain rfl (fun a' w' hb' hO hD => ?_)
      have h0 : a'.eval (.tmp 23) = .bool (true) := hD ⟨10, .data⟩ (by simp) rfl 23 rfl
      have h1 : a'.eval (.tmp 33) = .bool (true) := hD ⟨20, .data⟩ (by simp) rfl 33 rfl
      exact .inl ⟨.bool (true), _, by (generalize a'.eval = ev at *; simp [execOp, go_sem, h0, h1]), rfl, Below.refl _ _⟩
    · refine step_plain rfl (fun a' w' hb' hO hD => ?_)
      have h0 : a'.eval (.tmp 34) = .bool (true) := hD ⟨21, .data⟩ (by simp) rfl 34 rfl
      exact .inl ⟨a'.eval (.tmp 34), _, rfl, h0, Below.refl _ _⟩
    · refine step_guard 35 rfl rfl (by kernel_rfl) (fun _ _ h => h) (fun a' w' hb' hO hD => ?_)
      exact .inl ⟨_, _, exec_load_elem rfl ((hO 5 (by decide)).trans rfl) (hb'.blk (cur := #[.int .u64 p0, .int .u64 p1, .int .u64 p2, .int .u64 p3, .int .u64 p4]) (BX) (BX.lt)), ⟨_, _, _, _, _, rfl, hx⟩, Below.refl _ _⟩
    · refine step_guard 35 rfl rfl (by kernel_rfl) (fun _ _ h => h) (fun a' w' hb' hO hD => ?_)
      exact .inl ⟨_, _, exec_load_elem rfl ((hO 6 (by decide)).trans rfl) (hb'.blk (cur := #[.int .u64 q0, .int .u64 q1, .int .u64 q2, .int .u64 q3, .int .u64 q4]) (BY) (BY.lt)), ⟨_, _, _, _, _, rfl, hy⟩, Below.refl _ _⟩
    · refine step_guard 35 rfl rfl (by kernel_rfl) (fun _ _ h => h) (fun a' w' hb' hO hD => ?_)
      have h0 : ElV (toF a) (a'.eval (.tmp 36)) := hD ⟨23, .data⟩ (by simp) rfl 36 rfl
      have h1 : ElV (toF b) (a'.eval (.tmp 37)) := hD ⟨24, .data⟩ (by simp) rfl 37 rfl
      exact .inr ⟨_, #[a'.eval (.tmp 36), a'.eval (.tmp 37)], exec_call Try.func16 (by kernel_rfl) (by kernel_rfl) _ rfl _ _ (by simp), Same_V h0 h1 _⟩
    · refine step_guard 35 rfl rfl (by kernel_rfl) (fun _ _ h => h) (fun a' w' hb' hO hD => ?_)
      have h0 : a'.eval (.tmp 0) = .int .u32 (a) := (hO 0 (by decide)).trans rfl
      exact .inl ⟨a'.eval (.tmp 0), _, rfl, h0, Below.refl _ _⟩
    · refine step_guard 35 rfl rfl (by kernel_rfl) (fun _ _ h => h) (fun a' w' hb' hO hD => ?_)
      have h0 : a'.eval (.tmp 1) = .int .u32 (b) := (hO 1 (by decide)).trans rfl
      exact .inl ⟨a'.eval (.tmp 1), _, rfl, h0, Below.refl _ _⟩
    · refine step_guard 35 rfl rfl (by kernel_rfl) (fun _ _ h => h) (fun a' w' hb' hO hD => ?_)
      have h0 : a'.eval (.tmp 39) = .int .u32 (a) := hD ⟨26, .data⟩ (by simp) rfl 39 rfl
      have h1 : a'.eval (.tmp 40) = .int .u32 (b) := hD ⟨27, .data⟩ (by simp) rfl 40 rfl
      exact .inl ⟨.bool (decide (a = b)), _, by (generalize a'.eval = ev at *; simp [execOp, go_sem, h0, h1]; rfl), rfl, Below.refl _ _⟩
    · refine step_guard 35 rfl rfl (by kernel_rfl) (fun _ _ h => h) (fun a' w' hb' hO hD => ?_)
      have h0 : a'.eval (.tmp 38) = .bool (decide (toF a = toF b)) := hD ⟨25, .data⟩ (by simp) rfl 38 rfl
      have h1 : a'.eval (.tmp 41) = .bool (decide (a = b)) := hD ⟨28, .data⟩ (by simp) rfl 41 rfl
      exact .inl ⟨.bool true, _, by (generalize a'.eval = ev at *; simp [execOp, go_sem, h0, h1]; simp [toF_small ha (by omega) hb (by omega)]), rfl, Below.refl _ _⟩
    · refine step_plain rfl (fun a' w' hb' hO hD => ?_)
      have h0 : a'.eval (.tmp 35) = .bool (true) := hD ⟨22, .data⟩ (by simp) rfl 35 rfl
      have h1 : a'.eval (.tmp 42) = .bool (true) := hD ⟨29, .data⟩ (by simp) rfl 42 rfl
      exact .inl ⟨.bool (true), _, by (generalize a'.eval = ev at *; simp [execOp, go_sem, h0, h1]), rfl, Below.refl _ _⟩
    · refine step_plain rfl (fun a' w' hb' hO hD => ?_)
      have h0 : a'.eval (.tmp 43) = .bool (true) := hD ⟨30, .data⟩ (by simp) rfl 43 rfl
      exact .inl ⟨a'.eval (.tmp 43), _, rfl, h0, Below.refl _ _⟩
    · refine step_guard 44 rfl rfl (by kernel_rfl) (fun _ _ h => h) (fun a' w' hb' hO hD => ?_)
      exact .inr ⟨_, #[.int .u64 (0)], exec_call Try.func15 (by kernel_rfl) (by kernel_rfl) _ rfl _ _ (by simp [Act.eval]), Of_V _ _ (by omega) (by omega)⟩
    · refine step_guard 44 rfl rfl (by kernel_rfl) (fun _ _ h => h) (fun a' w' hb' hO hD => ?_)
      exact .inr ⟨_, #[.int .u64 (0)], exec_call Try.func15 (by kernel_rfl) (by kernel_rfl) _ rfl _ _ (by simp [Act.eval]), Of_V _ _ (by omega) (by omega)⟩
    · refine step_guard 44 rfl rfl (by kernel_rfl) (fun _ _ h => h) (fun a' w' hb' hO hD => ?_)
      exact .inl ⟨_, _, exec_load_elem rfl ((hO 5 (by decide)).trans rfl) (hb'.blk (cur := #[.int .u64 p0, .int .u64 p1, .int .u64 p2, .int .u64 p3, .int .u64 p4]) (BX) (BX.lt)), ⟨_, _, _, _, _, rfl, hx⟩, Below.refl _ _⟩
    · refine step_guard 44 rfl rfl (by kernel_rfl) (fun _ _ h => h) (fun a' w' hb' hO hD => ?_)
      have h0 : ElV (toF (0)) (a'.eval (.tmp 46)) := hD ⟨33, .data⟩ (by simp) rfl 46 rfl
      have h1 : ElV (toF a) (a'.eval (.tmp 47)) := hD ⟨34, .data⟩ (by simp) rfl 47 rfl
      exact .inr ⟨_, #[a'.eval (.tmp 46), a'.eval (.tmp 47)], exec_call Try.func19 (by kernel_rfl) (by kernel_rfl) _ rfl _ _ (by simp), Sub_V h0 h1 _⟩
    · refine step_guard 44 rfl rfl (by kernel_rfl) (fun _ _ h => h) (fun a' w' hb' hO hD => ?_)
      have h0 : ElV (toF (0)) (a'.eval (.tmp 45)) := hD ⟨32, .data⟩ (by simp) rfl 45 rfl
      have h1 : ElV ((toF (0)) - (toF a)) (a'.eval (.tmp 48)) := hD ⟨35, .data⟩ (by simp) rfl 48 rfl
      exact .inr ⟨_, #[a'.eval (.tmp 45), a'.eval (.tmp 48)], exec_call Try.func19 (by kernel_rfl) (by kernel_rfl) _ rfl _ _ (by simp), Sub_V h0 h1 _⟩
    · refine step_guard 44 rfl rfl (by kernel_rfl) (fun _ _ h => h) (fun a' w' hb' hO hD => ?_)
      exact .inl ⟨_, _, exec_load_elem rfl ((hO 5 (by decide)).trans rfl) (hb'.blk (cur := #[.int .u64 p0, .int .u64 p1, .int .u64 p2, .int .u64 p3, .int .u64 p4]) (BX) (BX.lt)), ⟨_, _, _, _, _, rfl, hx⟩, Below.refl _ _⟩
    · refine step_guard 44 rfl rfl (by kernel_rfl) (fun _ _ h => h) (fun a' w' hb' hO hD => ?_)
      have h0 : ElV ((toF (0)) - ((toF (0)) - (toF a))) (a'.eval (.tmp 49)) := hD ⟨36, .data⟩ (by simp) rfl 49 rfl
      have h1 : ElV (toF a) (a'.eval (.tmp 50)) := hD ⟨37, .data⟩ (by simp) rfl 50 rfl
      exact .inr ⟨_, #[a'.eval (.tmp 49), a'.eval (.tmp 50)], exec_call Try.func16 (by kernel_rfl) (by kernel_rfl) _ rfl _ _ (by simp), Same_T h0 h1 _ (by show toF 0 - (toF 0 - toF a) = toF a; rw [toF_zero]; grind)⟩
    · refine step_plain rfl (fun a' w' hb' hO hD => ?_)
      have h0 : a'.eval (.tmp 44) = .bool (true) := hD ⟨31, .data⟩ (by simp) rfl 44 rfl
      have h1 : a'.eval (.tmp 51) = .bool (true) := hD ⟨38, .data⟩ (by simp) rfl 51 rfl
      exact .inl ⟨.bool (true), _, by (generalize a'.eval = ev at *; simp [execOp, go_sem, h0, h1]), rfl, Below.refl _ _⟩
    · refine step_plain rfl (fun a' w' hb' hO hD => ?_)
      have h0 : a'.eval (.tmp 52) = .bool (true) := hD ⟨39, .data⟩ (by simp) rfl 52 rfl
      exact .inl ⟨a'.eval (.tmp 52), _, rfl, h0, Below.refl _ _⟩
    · refine step_guard 53 rfl rfl (by kernel_rfl) (fun _ _ h => h) (fun a' w' hb' hO hD => ?_)
      exact .inr ⟨_, #[], exec_call Try.func20 (by kernel_rfl) (by kernel_rfl) _ rfl _ _ (by simp), awake5_V _⟩
    · refine step_plain rfl (fun a' w' hb' hO hD => ?_)
      have h0 : a'.eval (.tmp 53) = .bool (true) := hD ⟨40, .data⟩ (by simp) rfl 53 rfl
      have h1 : a'.eval (.tmp 54) = .bool (true) := hD ⟨41, .data⟩ (by simp) rfl 54 rfl
      exact .inl ⟨.bool (true), _, by (generalize a'.eval = ev at *; simp [execOp, go_sem, h0, h1]), rfl, Below.refl _ _⟩
    · refine step_plain rfl (fun a' w' hb' hO hD => ?_)
      have h0 : a'.eval (.tmp 55) = .bool (true) := hD ⟨42, .data⟩ (by simp) rfl 55 rfl
      exact .inl ⟨a'.eval (.tmp 55), _, rfl, h0, Below.refl _ _⟩
  · intro a' w' hb' hsz hdf hO hV
    have h4 : a'.tmps.getD 4 undef = .bool true := hV 43 (by omega) 4 rfl
    have hdf' : a'.defers = [] := hdf
    have HB2 : Below w.heap.size w w' := ((HB.alloc HB.size _).alloc (by have := HB.size; simp; omega) _).trans (hb'.mono (by have := HB.size; simp; omega))
    clear hO hV hb' hdf
    show Exit.then _ _ .normal _ _
    go_wp2_with fail
    exact bodyPost_ret (v := .bool true) (by simp only [Array.getD_eq_getD_getElem?] at h4; simp [results, Try.results3, go_sem, h4]) hdf' ⟨rfl, HB2⟩

end Go.Proofs.Ytdjdfmnjoilmkaa
