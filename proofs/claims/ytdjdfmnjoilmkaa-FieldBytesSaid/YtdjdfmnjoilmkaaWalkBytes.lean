/-
  WALKS: sapperlaw5.FieldBytes.
-/
import Derived.Test.YtdjdfmnjoilmkaaStr
import Derived.Test.YtdjdfmnjoilmkaaAnyOrder3
import Derived.Test.YtdjdfmnjoilmkaaRow
namespace Go.Proofs.Ytdjdfmnjoilmkaa
open Go.RowKit
set_option linter.unusedVariables false
set_option linter.unusedSimpArgs false

def fbS (xs : List Nat) : Nat → World → Value → Prop
  | 0, w, v => v = .int .i64 (0)
  | 1, w, v => v = .bool (true)
  | 2, w, v => v = .bool (true)
  | 3, w, v => v = .int .i64 (0)
  | 4, w, v => v = .bool (true)
  | 5, w, v => v = .bool (true)
  | 6, w, v => v = .bool (true)
  | 7, w, v => ElV (num2 xs) v
  | 8, w, v => BsV (byteL (num2 xs).val) w v
  | 9, w, v => v = .string (strB (byteL (num2 xs).val))
  | 10, w, v => BsV (byteL (num2 xs).val) w v
  | 11, w, v => v = .string (strB (byteL (num2 xs).val))
  | 12, w, v => v = .bool (true)
  | 13, w, v => v = .bool (true)
  | 14, w, v => v = .bool (true)
  | 15, w, v => ElV (num2 xs) v
  | 16, w, v => ElV (num2 xs) v
  | 17, w, v => v = .bool (true)
  | 18, w, v => v = .bool (true)
  | 19, w, v => v = .bool (true)
  | 20, w, v => ElV (num2 xs) v
  | 21, w, v => ElV (num2 xs) v
  | 22, w, v => v = .bool (true)
  | 23, w, v => v = .bool (true)
  | 24, w, v => v = .bool (true)
  | 25, w, v => v = .bool (true)
  | 26, w, v => v = .bool (true)
  | 27, w, v => v = .bool (true)
  | _, _, _ => True

set_option maxHeartbeats 8000000 in
theorem FieldBytes_any {A : Option Addr} {c : Nat} {xs : List Nat} (w : World) (ha : Bs w A c xs) :
    Calls Try.prog 4 #[.slice A xs.length c] w fun e w' => e = .returned (.bool true) ∧ Below w.heap.size w w' := by
  have h8A := ha.b8
  have HSA := hidd ha
  obtain ⟨n, hn⟩ : ∃ n : Nat, xs.length = n := ⟨_, rfl⟩
  rw [hn]
  have HA8 := hidd h8A
  have HNA := hidd hn
  clear ha hn h8A
  by_cases g0 : (32 : Int) < (n : Int)
  · go_enter Try.func4, Try.ntmps4
    go_wp2_with fail
    refine Calls.mono (awake5_any _) ?_
    rintro e w1 ⟨rfl, hb1⟩
    dsimp only
    go_wp2_with fail
    go_ret
    exact ⟨rfl, by repeat' first | (with_reducible exact Below.refl _ _) | (with_reducible refine Below.setCell ?_ (by first | (simp; done) | (simp; omega) | omega) _) | (with_reducible refine Below.alloc ?_ (by first | (simp; done) | (simp; omega) | omega) _) | (with_reducible refine Below.drew ?_) | (with_reducible refine Below.trans ?_ (Below.mono (by assumption) (by first | (simp; done) | (simp; omega) | omega)))⟩
  · skip
    go_enter Try.func4, Try.ntmps4
    go_wp2_with fail
    refine Calls.mono (two_n HNA.out _ (Bs.under HSA (Below.refl _ _))) ?_
    rintro e w1 ⟨gb, rfl, hgb, BG, hb1⟩
    have HB : Below w.heap.size w w1 := hb1
    clear hb1
    dsimp only
    go_wp2_with fail
    refine Calls.mono (Parse_two _ BG HA8.out) ?_
    rintro e w2 ⟨p0, p1, p2, p3, p4, rfl, hE0, hb2⟩
    replace BG := BG.old hb2
    replace HB := below_from HB hb2
    clear hb2
    dsimp only
    go_wp2_with fail
    obtain ⟨ga, hga⟩ : ∃ g, w2.heap.size = g := ⟨_, rfl⟩
    have n1 : gb < ga := by rw [← hga]; exact BG.lt
    have BX := Blk.at (w := w2) #[.int .u64 p0, .int .u64 p1, .int .u64 p2, .int .u64 p3, .int .u64 p4] 26 hga
    replace BG := BG.alloc (.cells #[.int .u64 p0, .int .u64 p1, .int .u64 p2, .int .u64 p3, .int .u64 p4] 26)
    replace HB := HB.alloc HB.size (.cells #[.int .u64 p0, .int .u64 p1, .int .u64 p2, .int .u64 p3, .int .u64 p4] 26)
    rw [hga]
    generalize (w2.alloc (.cells #[.int .u64 p0, .int .u64 p1, .int .u64 p2, .int .u64 p3, .int .u64 p4] 26)) = w3 at *
    clear hga
    refine Calls.mono (Bytes_any hE0 _) ?_
    rintro e w4 ⟨gc, rfl, hgc, BC, hb4⟩
    have n2 : ga < gc := Nat.lt_of_lt_of_le BX.lt hgc
    rw [byteA_list] at BC
    replace BG := BG.old hb4
    replace BX := BX.old hb4
    replace HB := below_from HB hb4
    clear hb4 hgc
    obtain ⟨q, hq, hc31⟩ : ∃ q : Nat, q < 128 ∧ w4.cell? ⟨gc, 31, none⟩ = some (.int .u8 (q : Int)) := by
      refine ⟨byteOf (num2 xs).val 255 31, ?_, ?_⟩
      · unfold byteOf; omega
      · rw [BC.cell, ← byteA_list]; exact byteA_get _ _ 31 (by omega)
    dsimp only
    go_wp2_with fail
    clear hc31
    refine Calls.mono (Parse_blk _ BC (byteL_lt _) (byteL_length _)) ?_
    rintro e w5 ⟨q0, q1, q2, q3, q4, rfl, hE1, hb5⟩
    rw [numL_byteL] at hE1
    replace BG := BG.old hb5
    replace BX := BX.old hb5
    replace BC := BC.old hb5
    replace HB := below_from HB hb5
    clear hb5
    dsimp only
    obtain ⟨gy, hgy⟩ : ∃ g, w5.heap.size = g := ⟨_, rfl⟩
    have n3 : gc < gy := by rw [← hgy]; exact BC.lt
    have BY := Blk.at (w := w5) #[.int .u64 q0, .int .u64 q1, .int .u64 q2, .int .u64 q3, .int .u64 q4] 26 hgy
    obtain ⟨z, hz, hz8⟩ : ∃ z : Nat, (padTo 32 xs).getD 31 0 = z ∧ z < 256 := ⟨_, rfl, getD_lt (padTo_lt HA8.out) 31⟩
    have hcz : w5.cell? ⟨gb, 31, none⟩ = some (.int .u8 (z : Int)) := by
      rw [BG.cell]
      have hl : 31 < (padTo 32 xs).length := by rw [padTo_length]; omega
      rw [← hz]
      simp [u8s, hl]
    have hfz := BG.free 31
    have hlb : gb < w5.heap.size := BG.lt
    have HGY := hidd hgy
    clear hgy
    clear BY
    go_wp2_with fail
    have ez : bits .xor .u8 (z : Int) 128 = ((z ^^^ 128 : Nat) : Int) := u8_xor_nat z 128 hz8 (by omega)
    rw [ez]
    rw [HGY.out]
    have n4 : gb ≠ ga := by omega
    have n5 : gb ≠ gc := by omega
    have BY := Blk.at (w := w5.setCell ⟨gb, 31, none⟩ (.int .u8 ((z ^^^ 128 : Nat) : Int))) #[.int .u64 q0, .int .u64 q1, .int .u64 q2, .int .u64 q3, .int .u64 q4] 26 (by rw [← HGY.out]; simp [World.setCell] : _ = gy)
    replace BX := (BX.set_other ⟨gb, 31, none⟩ (.int .u8 ((z ^^^ 128 : Nat) : Int)) (fun h => n4 h.symm)).alloc (.cells #[.int .u64 q0, .int .u64 q1, .int .u64 q2, .int .u64 q3, .int .u64 q4] 26)
    replace BC := (BC.set_other ⟨gb, 31, none⟩ (.int .u8 ((z ^^^ 128 : Nat) : Int)) (fun h => n5 h.symm)).alloc (.cells #[.int .u64 q0, .int .u64 q1, .int .u64 q2, .int .u64 q3, .int .u64 q4] 26)
    replace BG := (BG.set 31 (.int .u8 ((z ^^^ 128 : Nat) : Int))).alloc (.cells #[.int .u64 q0, .int .u64 q1, .int .u64 q2, .int .u64 q3, .int .u64 q4] 26)
    rw [u8s_set] at BG
    have HB6 : Below w.heap.size w ((w5.setCell ⟨gb, 31, none⟩ (.int .u8 ((z ^^^ 128 : Nat) : Int))).alloc (.cells #[.int .u64 q0, .int .u64 q1, .int .u64 q2, .int .u64 q3, .int .u64 q4] 26)) := (HB.setCell hgb _).alloc (by simp [World.setCell]; exact HB.size) _
    generalize ((w5.setCell ⟨gb, 31, none⟩ (.int .u8 ((z ^^^ 128 : Nat) : Int))).alloc (.cells #[.int .u64 q0, .int .u64 q1, .int .u64 q2, .int .u64 q3, .int .u64 q4] 26)) = w6 at *
    clear HB ez hcz hfz hlb HGY
    have HB := HB6
    clear HB6
    refine Calls.mono (Parse_blk _ BG ?_ (by rw [List.length_set]; exact padTo_length 32 xs)) ?_
    · intro y hy
      rcases List.mem_or_eq_of_mem_set hy with h | h
      · exact padTo_lt HA8.out y h
      · rw [h]; exact Nat.xor_lt_two_pow (n := 8) hz8 (by omega)
    rintro e w7 ⟨r0, r1, r2, r3, r4, rfl, hE2, hb7⟩
    rw [← hz, numL_flip (padTo_length 32 xs) (padTo_lt HA8.out)] at hE2
    replace BX := BX.old hb7
    replace BC := BC.old hb7
    replace BY := BY.old hb7
    replace HB := below_from HB hb7
    clear hb7 BG
    dsimp only
    go_wp2_with fail
    obtain ⟨gz, hgz⟩ : ∃ g, w7.heap.size = g := ⟨_, rfl⟩
    have BZ := Blk.at (w := w7) #[.int .u64 r0, .int .u64 r1, .int .u64 r2, .int .u64 r3, .int .u64 r4] 26 hgz
    replace BX := BX.alloc (.cells #[.int .u64 r0, .int .u64 r1, .int .u64 r2, .int .u64 r3, .int .u64 r4] 26)
    replace BC := BC.alloc (.cells #[.int .u64 r0, .int .u64 r1, .int .u64 r2, .int .u64 r3, .int .u64 r4] 26)
    replace BY := BY.alloc (.cells #[.int .u64 r0, .int .u64 r1, .int .u64 r2, .int .u64 r3, .int .u64 r4] 26)
    replace HB := HB.alloc HB.size (.cells #[.int .u64 r0, .int .u64 r1, .int .u64 r2, .int .u64 r3, .int .u64 r4] 26)
    rw [hgz]
    generalize (w7.alloc (.cells #[.int .u64 r0, .int .u64 r1, .int .u64 r2, .int .u64 r3, .int .u64 r4] 26)) = w8 at *
    clear hgz
    have BCs := Bs_of_Blk BC (byteL_lt _) (by rw [byteL_length]; omega)
    change El (num2 xs) r0 r1 r2 r3 r4 at hE2
    try simp only [List.append_eq, List.cons_append, List.nil_append]
    refine region_any 28 (fun i w v => fbS xs i w v) (by kernel_rfl) (by kernel_rfl) (by kernel_rfl) (fun i w w' v h hb => by revert h; unfold fbS; split <;> first | exact id | exact fun h => h.old hb) (steps_all ?_) ?_
    · simp only [List.take_succ_cons, List.take_zero, StepsFrom]
      refine ⟨?_, ?_, ?_, ?_, ?_, ?_, ?_, ?_, ?_, ?_, ?_, ?_, ?_, ?_, ?_, ?_, ?_, ?_, ?_, ?_, ?_, ?_, ?_, ?_, ?_, ?_, ?_, ?_, trivial⟩
      · refine step_plain rfl (fun a' w' hb' hO hD => ?_)
        have h0 : a'.eval (.tmp 8) = .int .i64 (0) := (hO 8 (by decide)).trans rfl
        exact .inl ⟨a'.eval (.tmp 8), _, rfl, h0, Below.refl _ _⟩
      · refine step_plain rfl (fun a' w' hb' hO hD => ?_)
        have h0 : a'.eval (.tmp 52) = .int .i64 (0) := hD ⟨0, .data⟩ (by simp) rfl 52 rfl
        have hk2 : a'.eval (.const (Value.int IntKind.i64 (0))) = .int .i64 (0) := rfl
        exact .inl ⟨.bool true, _, by (generalize a'.eval = ev at *; simp [execOp, go_sem, h0, hk2]), rfl, Below.refl _ _⟩
      · refine step_plain rfl (fun a' w' hb' hO hD => ?_)
        have h0 : a'.eval (.tmp 53) = .bool (true) := hD ⟨1, .data⟩ (by simp) rfl 53 rfl
        exact .inl ⟨a'.eval (.tmp 53), _, rfl, h0, Below.refl _ _⟩
      · refine step_guard 54 rfl rfl (by kernel_rfl) (fun _ _ h => h) (fun a' w' hb' hO hD => ?_)
        have h0 : a'.eval (.tmp 10) = .int .i64 (0) := (hO 10 (by decide)).trans rfl
        exact .inl ⟨a'.eval (.tmp 10), _, rfl, h0, Below.refl _ _⟩
      · refine step_guard 54 rfl rfl (by kernel_rfl) (fun _ _ h => h) (fun a' w' hb' hO hD => ?_)
        have h0 : a'.eval (.tmp 55) = .int .i64 (0) := hD ⟨3, .data⟩ (by simp) rfl 55 rfl
        have hk2 : a'.eval (.const (Value.int IntKind.i64 (0))) = .int .i64 (0) := rfl
        exact .inl ⟨.bool true, _, by (generalize a'.eval = ev at *; simp [execOp, go_sem, h0, hk2]), rfl, Below.refl _ _⟩
      · refine step_plain rfl (fun a' w' hb' hO hD => ?_)
        have h0 : a'.eval (.tmp 54) = .bool (true) := hD ⟨2, .data⟩ (by simp) rfl 54 rfl
        have h1 : a'.eval (.tmp 56) = .bool (true) := hD ⟨4, .data⟩ (by simp) rfl 56 rfl
        exact .inl ⟨.bool (true), _, by (generalize a'.eval = ev at *; simp [execOp, go_sem, h0, h1]), rfl, Below.refl _ _⟩
      · refine step_plain rfl (fun a' w' hb' hO hD => ?_)
        have h0 : a'.eval (.tmp 57) = .bool (true) := hD ⟨5, .data⟩ (by simp) rfl 57 rfl
        exact .inl ⟨a'.eval (.tmp 57), _, rfl, h0, Below.refl _ _⟩
      · refine step_guard 58 rfl rfl (by kernel_rfl) (fun _ _ h => h) (fun a' w' hb' hO hD => ?_)
        exact .inl ⟨_, _, exec_load_elem rfl ((hO 7 (by decide)).trans rfl) (hb'.blk (cur := #[.int .u64 q0, .int .u64 q1, .int .u64 q2, .int .u64 q3, .int .u64 q4]) (BY) (BY.lt)), ⟨_, _, _, _, _, rfl, hE1⟩, Below.refl _ _⟩
      · refine step_guard 58 rfl rfl (by kernel_rfl) (fun _ _ h => h) (fun a' w' hb' hO hD => ?_)
        have h0 : ElV (num2 xs) (a'.eval (.tmp 59)) := hD ⟨7, .data⟩ (by simp) rfl 59 rfl
        exact .inr ⟨_, #[a'.eval (.tmp 59)], exec_call Try.func23 (by kernel_rfl) (by kernel_rfl) _ rfl _ _ (by simp), Bytes_V h0 _⟩
      · refine step_guard 58 rfl rfl (by kernel_rfl) (fun _ _ h => h) (fun a' w' hb' hO hD => ?_)
        have h0 : BsV (byteL (num2 xs).val) w' (a'.eval (.tmp 60)) := hD ⟨8, .data⟩ (by simp) rfl 60 rfl
        obtain ⟨A9, c9, e9, B9⟩ := h0
        exact .inl ⟨_, _, exec_str rfl e9 rfl B9, rfl, Below.refl _ _⟩
      · refine step_guard 58 rfl rfl (by kernel_rfl) (fun _ _ h => h) (fun a' w' hb' hO hD => ?_)
        have h0 : BsV (byteL (num2 xs).val) w' (a'.eval (.tmp 6)) := ⟨_, _, (hO 6 (by decide)).trans rfl, (BCs).below hb'⟩
        exact .inl ⟨a'.eval (.tmp 6), _, rfl, h0, Below.refl _ _⟩
      · refine step_guard 58 rfl rfl (by kernel_rfl) (fun _ _ h => h) (fun a' w' hb' hO hD => ?_)
        have h0 : BsV (byteL (num2 xs).val) w' (a'.eval (.tmp 62)) := hD ⟨10, .data⟩ (by simp) rfl 62 rfl
        obtain ⟨A11, c11, e11, B11⟩ := h0
        exact .inl ⟨_, _, exec_str rfl e11 rfl B11, rfl, Below.refl _ _⟩
      · refine step_guard 58 rfl rfl (by kernel_rfl) (fun _ _ h => h) (fun a' w' hb' hO hD => ?_)
        have h0 : a'.eval (.tmp 61) = .string (strB (byteL (num2 xs).val)) := hD ⟨9, .data⟩ (by simp) rfl 61 rfl
        have h1 : a'.eval (.tmp 63) = .string (strB (byteL (num2 xs).val)) := hD ⟨11, .data⟩ (by simp) rfl 63 rfl
        exact .inl ⟨.bool true, _, by (generalize a'.eval = ev at *; simp [execOp, go_sem, h0, h1]; ), rfl, Below.refl _ _⟩
      · refine step_plain rfl (fun a' w' hb' hO hD => ?_)
        have h0 : a'.eval (.tmp 58) = .bool (true) := hD ⟨6, .data⟩ (by simp) rfl 58 rfl
        have h1 : a'.eval (.tmp 64) = .bool (true) := hD ⟨12, .data⟩ (by simp) rfl 64 rfl
        exact .inl ⟨.bool (true), _, by (generalize a'.eval = ev at *; simp [execOp, go_sem, h0, h1]), rfl, Below.refl _ _⟩
      · refine step_plain rfl (fun a' w' hb' hO hD => ?_)
        have h0 : a'.eval (.tmp 65) = .bool (true) := hD ⟨13, .data⟩ (by simp) rfl 65 rfl
        exact .inl ⟨a'.eval (.tmp 65), _, rfl, h0, Below.refl _ _⟩
      · refine step_guard 66 rfl rfl (by kernel_rfl) (fun _ _ h => h) (fun a' w' hb' hO hD => ?_)
        exact .inl ⟨_, _, exec_load_elem rfl ((hO 4 (by decide)).trans rfl) (hb'.blk (cur := #[.int .u64 p0, .int .u64 p1, .int .u64 p2, .int .u64 p3, .int .u64 p4]) (BX) (BX.lt)), ⟨_, _, _, _, _, rfl, hE0⟩, Below.refl _ _⟩
      · refine step_guard 66 rfl rfl (by kernel_rfl) (fun _ _ h => h) (fun a' w' hb' hO hD => ?_)
        exact .inl ⟨_, _, exec_load_elem rfl ((hO 7 (by decide)).trans rfl) (hb'.blk (cur := #[.int .u64 q0, .int .u64 q1, .int .u64 q2, .int .u64 q3, .int .u64 q4]) (BY) (BY.lt)), ⟨_, _, _, _, _, rfl, hE1⟩, Below.refl _ _⟩
      · refine step_guard 66 rfl rfl (by kernel_rfl) (fun _ _ h => h) (fun a' w' hb' hO hD => ?_)
        have h0 : ElV (num2 xs) (a'.eval (.tmp 67)) := hD ⟨15, .data⟩ (by simp) rfl 67 rfl
        have h1 : ElV (num2 xs) (a'.eval (.tmp 68)) := hD ⟨16, .data⟩ (by simp) rfl 68 rfl
        exact .inr ⟨_, #[a'.eval (.tmp 67), a'.eval (.tmp 68)], exec_call Try.func16 (by kernel_rfl) (by kernel_rfl) _ rfl _ _ (by simp), Same_T h0 h1 _ (by rfl)⟩
      · refine step_plain rfl (fun a' w' hb' hO hD => ?_)
        have h0 : a'.eval (.tmp 66) = .bool (true) := hD ⟨14, .data⟩ (by simp) rfl 66 rfl
        have h1 : a'.eval (.tmp 69) = .bool (true) := hD ⟨17, .data⟩ (by simp) rfl 69 rfl
        exact .inl ⟨.bool (true), _, by (generalize a'.eval = ev at *; simp [execOp, go_sem, h0, h1]), rfl, Below.refl _ _⟩
      · refine step_plain rfl (fun a' w' hb' hO hD => ?_)
        have h0 : a'.eval (.tmp 70) = .bool (true) := hD ⟨18, .data⟩ (by simp) rfl 70 rfl
        exact .inl ⟨a'.eval (.tmp 70), _, rfl, h0, Below.refl _ _⟩
      · refine step_guard 71 rfl rfl (by kernel_rfl) (fun _ _ h => h) (fun a' w' hb' hO hD => ?_)
        exact .inl ⟨_, _, exec_load_elem rfl ((hO 4 (by decide)).trans rfl) (hb'.blk (cur := #[.int .u64 p0, .int .u64 p1, .int .u64 p2, .int .u64 p3, .int .u64 p4]) (BX) (BX.lt)), ⟨_, _, _, _, _, rfl, hE0⟩, Below.refl _ _⟩
      · refine step_guard 71 rfl rfl (by kernel_rfl) (fun _ _ h => h) (fun a' w' hb' hO hD => ?_)
        exact .inl ⟨_, _, exec_load_elem rfl ((hO 9 (by decide)).trans rfl) (hb'.blk (cur := #[.int .u64 r0, .int .u64 r1, .int .u64 r2, .int .u64 r3, .int .u64 r4]) (BZ) (BZ.lt)), ⟨_, _, _, _, _, rfl, hE2⟩, Below.refl _ _⟩
      · refine step_guard 71 rfl rfl (by kernel_rfl) (fun _ _ h => h) (fun a' w' hb' hO hD => ?_)
        have h0 : ElV (num2 xs) (a'.eval (.tmp 72)) := hD ⟨20, .data⟩ (by simp) rfl 72 rfl
        have h1 : ElV (num2 xs) (a'.eval (.tmp 73)) := hD ⟨21, .data⟩ (by simp) rfl 73 rfl
        exact .inr ⟨_, #[a'.eval (.tmp 72), a'.eval (.tmp 73)], exec_call Try.func16 (by kernel_rfl) (by kernel_rfl) _ rfl _ _ (by simp), Same_T h0 h1 _ (by rfl)⟩
      · refine step_plain rfl (fun a' w' hb' hO hD => ?_)
        have h0 : a'.eval (.tmp 71) = .bool (true) := hD ⟨19, .data⟩ (by simp) rfl 71 rfl
        have h1 : a'.eval (.tmp 74) = .bool (true) := hD ⟨22, .data⟩ (by simp) rfl 74 rfl
        exact .inl ⟨.bool (true), _, by (generalize a'.eval = ev at *; simp [execOp, go_sem, h0, h1]), rfl, Below.refl _ _⟩
      · refine step_plain rfl (fun a' w' hb' hO hD => ?_)
        have h0 : a'.eval (.tmp 75) = .bool (true) := hD ⟨23, .data⟩ (by simp) rfl 75 rfl
        exact .inl ⟨a'.eval (.tmp 75), _, rfl, h0, Below.refl _ _⟩
      · refine step_guard 76 rfl rfl (by kernel_rfl) (fun _ _ h => h) (fun a' w' hb' hO hD => ?_)
        exact .inr ⟨_, #[], exec_call Try.func20 (by kernel_rfl) (by kernel_rfl) _ rfl _ _ (by simp), awake5_V _⟩
      · refine step_plain rfl (fun a' w' hb' hO hD => ?_)
        have h0 : a'.eval (.tmp 76) = .bool (true) := hD ⟨24, .data⟩ (by simp) rfl 76 rfl
        have h1 : a'.eval (.tmp 77) = .bool (true) := hD ⟨25, .data⟩ (by simp) rfl 77 rfl
        exact .inl ⟨.bool (true), _, by (generalize a'.eval = ev at *; simp [execOp, go_sem, h0, h1]), rfl, Below.refl _ _⟩
      · refine step_plain rfl (fun a' w' hb' hO hD => ?_)
        have h0 : a'.eval (.tmp 78) = .bool (true) := hD ⟨26, .data⟩ (by simp) rfl 78 rfl
        exact .inl ⟨a'.eval (.tmp 78), _, rfl, h0, Below.refl _ _⟩
    · intro a' w' hb' hsz hdf hO hV
      have h4 : a'.tmps.getD 2 undef = .bool true := hV 27 (by omega) 2 rfl
      have hdf' : a'.defers = [] := hdf
      have HB2 : Below w.heap.size w w' := HB.trans (hb'.mono HB.size)
      clear hO hV hb' hdf
      show Exit.then _ _ .normal _ _
      go_wp2_with fail
      exact bodyPost_ret (v := .bool true) (by simp only [Array.getD_eq_getD_getElem?] at h4; simp [results, Try.results4, go_sem, h4]) hdf' ⟨rfl, HB2⟩

end Go.Proofs.Ytdjdfmnjoilmkaa
