/-
  WALKS: sapperlaw5.FieldSquares.
-/
import Derived.Test.YtdjdfmnjoilmkaaTwoParse
import Derived.Test.YtdjdfmnjoilmkaaRegionMem3
import Derived.Test.YtdjdfmnjoilmkaaRow
namespace Go.Proofs.Ytdjdfmnjoilmkaa
open Go.RowKit
set_option linter.unusedVariables false
set_option linter.unusedSimpArgs false

def sqS5 (xs ys : List Nat) : Nat → Value → Prop
  | 0, v => ElV (num2 xs) v
  | 1, v => ElV (num2 ys) v
  | 2, v => ElV ((num2 xs) + (num2 ys)) v
  | 3, v => ElV (num2 xs) v
  | 4, v => ElV (num2 ys) v
  | 5, v => ElV ((num2 xs) - (num2 ys)) v
  | _, _ => True

def sqS5K (xs ys : List Nat) : Nat → RK
  | 6 => .fresh
  | 7 => .fresh
  | 8 => .into 6 2 ((num2 xs) + (num2 ys))
  | 9 => .into 7 5 ((num2 xs) - (num2 ys))
  | _ => .val

def sqS6 (xs ys : List Nat) : Nat → Value → Prop
  | 0, v => ElV (num2 xs) v
  | 1, v => ElV (num2 xs) v
  | 2, v => ElV ((num2 xs) * (num2 xs)) v
  | 3, v => ElV (num2 ys) v
  | 4, v => ElV (num2 ys) v
  | 5, v => ElV ((num2 ys) * (num2 ys)) v
  | 6, v => ElV (num2 xs) v
  | 7, v => ElV (num2 ys) v
  | 8, v => ElV ((num2 xs) * (num2 ys)) v
  | _, _ => True

def sqS6K (xs ys : List Nat) : Nat → RK
  | 9 => .fresh
  | 10 => .fresh
  | 11 => .fresh
  | 12 => .into 9 2 ((num2 xs) * (num2 xs))
  | 13 => .into 10 5 ((num2 ys) * (num2 ys))
  | 14 => .into 11 8 ((num2 xs) * (num2 ys))
  | _ => .val

def sqS7 (xs ys : List Nat) : Nat → Value → Prop
  | 0, v => ElV ((num2 xs) + (num2 ys)) v
  | 1, v => ElV ((num2 xs) + (num2 ys)) v
  | 2, v => ElV (((num2 xs) + (num2 ys)) * ((num2 xs) + (num2 ys))) v
  | 3, v => ElV ((num2 xs) * (num2 xs)) v
  | 4, v => ElV ((num2 ys) * (num2 ys)) v
  | 5, v => ElV (((num2 xs) * (num2 xs)) + ((num2 ys) * (num2 ys))) v
  | 6, v => ElV ((num2 xs) * (num2 ys)) v
  | 7, v => ElV ((num2 xs) * (num2 ys)) v
  | 8, v => ElV (((num2 xs) * (num2 ys)) + ((num2 xs) * (num2 ys))) v
  | 9, v => ElV ((((num2 xs) * (num2 xs)) + ((num2 ys) * (num2 ys))) + (((num2 xs) * (num2 ys)) + ((num2 xs) * (num2 ys)))) v
  | 10, v => v = .bool (true)
  | 11, v => v = .bool (true)
  | 12, v => ElV ((num2 xs) + (num2 ys)) v
  | 13, v => ElV ((num2 xs) - (num2 ys)) v
  | 14, v => ElV (((num2 xs) + (num2 ys)) * ((num2 xs) - (num2 ys))) v
  | 15, v => ElV ((num2 xs) * (num2 xs)) v
  | 16, v => ElV ((num2 ys) * (num2 ys)) v
  | 17, v => ElV (((num2 xs) * (num2 xs)) - ((num2 ys) * (num2 ys))) v
  | 18, v => v = .bool (true)
  | 19, v => v = .bool (true)
  | 20, v => v = .bool (true)
  | 21, v => ElV ((num2 xs) - (num2 ys)) v
  | 22, v => ElV ((num2 xs) - (num2 ys)) v
  | 23, v => ElV (((num2 xs) - (num2 ys)) * ((num2 xs) - (num2 ys))) v
  | 24, v => ElV (num2 ys) v
  | 25, v => ElV (num2 xs) v
  | 26, v => ElV ((num2 ys) - (num2 xs)) v
  | 27, v => ElV (num2 ys) v
  | 28, v => ElV (num2 xs) v
  | 29, v => ElV ((num2 ys) - (num2 xs)) v
  | 30, v => ElV (((num2 ys) - (num2 xs)) * ((num2 ys) - (num2 xs))) v
  | 31, v => v = .bool (true)
  | 32, v => v = .bool (true)
  | 33, v => v = .bool (true)
  | 34, v => v = .bool (true)
  | 35, v => v = .bool (true)
  | 36, v => v = .bool (true)
  | _, _ => True

set_option maxHeartbeats 8000000 in
theorem FieldSquares_any {A B : Option Addr} {c d : Nat} {xs ys : List Nat} (w : World) (ha : Bs w A c xs) (hb : Bs w B d ys) :
    Calls Try.prog 7 #[.slice A xs.length c, .slice B ys.length d] w fun e w' => e = .returned (.bool true) ∧ Below w.heap.size w w' := by
  have h8A := ha.b8
  have HSA := hidd ha
  obtain ⟨n, hn⟩ : ∃ n : Nat, xs.length = n := ⟨_, rfl⟩
  have h8B := hb.b8
  have HSB := hidd hb
  obtain ⟨m, hm⟩ : ∃ n : Nat, ys.length = n := ⟨_, rfl⟩
  rw [hn, hm]
  have HA8 := hidd h8A
  have HNA := hidd hn
  have HB8 := hidd h8B
  have HNB := hidd hm
  clear ha hb hn hm h8A h8B
  by_cases g0 : (32 : Int) < (n : Int)
  · go_enter Try.func7, Try.ntmps7
    go_wp2_with fail
    refine Calls.mono (awake5_any _) ?_
    rintro e w1 ⟨rfl, hb1⟩
    dsimp only
    go_wp2_with fail
    go_ret
    exact ⟨rfl, by repeat' first | (with_reducible exact Below.refl _ _) | (with_reducible refine Below.setCell ?_ (by first | (simp; done) | (simp; omega) | omega) _) | (with_reducible refine Below.alloc ?_ (by first | (simp; done) | (simp; omega) | omega) _) | (with_reducible refine Below.drew ?_) | (with_reducible refine Below.trans ?_ (Below.mono (by assumption) (by first | (simp; done) | (simp; omega) | omega)))⟩
  · skip
    by_cases g1 : (32 : Int) < (m : Int)
    · go_enter Try.func7, Try.ntmps7
      go_wp2_with fail
      refine Calls.mono (awake5_any _) ?_
      rintro e w1 ⟨rfl, hb1⟩
      dsimp only
      go_wp2_with fail
      go_ret
      exact ⟨rfl, by repeat' first | (with_reducible exact Below.refl _ _) | (with_reducible refine Below.setCell ?_ (by first | (simp; done) | (simp; omega) | omega) _) | (with_reducible refine Below.alloc ?_ (by first | (simp; done) | (simp; omega) | omega) _) | (with_reducible refine Below.drew ?_) | (with_reducible refine Below.trans ?_ (Below.mono (by assumption) (by first | (simp; done) | (simp; omega) | omega)))⟩
    · skip
      go_enter Try.func7, Try.ntmps7
      go_wp2_with fail
      refine Calls.mono (two_n HNA.out _ (Bs.under HSA (Below.refl _ _))) ?_
      rintro e w1 ⟨g, rfl, hg, BG, hb1⟩
      dsimp only
      go_wp2_with fail
      refine Calls.mono (Parse_two _ BG HA8.out) ?_
      rintro e w2 ⟨p0, p1, p2, p3, p4, rfl, hE0, hb2⟩
      have HB : Below w.heap.size w w2 := hb1.trans (hb2.mono hb1.size)
      clear hb1 hb2 BG hg
      dsimp only
      go_wp2_with fail
      obtain ⟨ga, hga⟩ : ∃ g, w2.heap.size = g := ⟨_, rfl⟩
      have BX0 : Blk (w2.alloc (.cells #[.int .u64 p0, .int .u64 p1, .int .u64 p2, .int .u64 p3, .int .u64 p4] 26)) ga #[.int .u64 p0, .int .u64 p1, .int .u64 p2, .int .u64 p3, .int .u64 p4] 26 := Blk.at _ _ hga
      replace HB : Below w.heap.size w (w2.alloc (.cells #[.int .u64 p0, .int .u64 p1, .int .u64 p2, .int .u64 p3, .int .u64 p4] 26)) := HB.alloc HB.size _
      rw [hga]
      generalize hw3 : (w2.alloc (.cells #[.int .u64 p0, .int .u64 p1, .int .u64 p2, .int .u64 p3, .int .u64 p4] 26)) = w3 at *
      clear hw3 hga
      refine Calls.mono (two_n HNB.out _ (Bs.under HSB (by repeat' first | (with_reducible exact Below.refl _ _) | (with_reducible refine Below.setCell ?_ (by first | (simp; done) | (simp; omega) | omega) _) | (with_reducible refine Below.alloc ?_ (by first | (simp; done) | (simp; omega) | omega) _) | (with_reducible refine Below.drew ?_) | (with_reducible refine Below.trans ?_ (Below.mono (by assumption) (by first | (simp; done) | (simp; omega) | omega)))))) ?_
      rintro e w4 ⟨g, rfl, hg, BG, hb1⟩
      dsimp only
      go_wp2_with fail
      refine Calls.mono (Parse_two _ BG HB8.out) ?_
      rintro e w5 ⟨q0, q1, q2, q3, q4, rfl, hE1, hb2⟩
      replace BX0 := (BX0.old hb1).old hb2
      replace HB : Below w.heap.size w w5 := (HB.trans (hb1.mono HB.size)).trans (hb2.mono (Nat.le_trans HB.size hb1.size))
      clear hb1 hb2 BG hg
      dsimp only
      go_wp2_with fail
      obtain ⟨gb, hgb⟩ : ∃ g, w5.heap.size = g := ⟨_, rfl⟩
      replace BX0 := BX0.alloc (.cells #[.int .u64 q0, .int .u64 q1, .int .u64 q2, .int .u64 q3, .int .u64 q4] 26)
      have BX1 : Blk (w5.alloc (.cells #[.int .u64 q0, .int .u64 q1, .int .u64 q2, .int .u64 q3, .int .u64 q4] 26)) gb #[.int .u64 q0, .int .u64 q1, .int .u64 q2, .int .u64 q3, .int .u64 q4] 26 := Blk.at _ _ hgb
      replace HB : Below w.heap.size w (w5.alloc (.cells #[.int .u64 q0, .int .u64 q1, .int .u64 q2, .int .u64 q3, .int .u64 q4] 26)) := HB.alloc HB.size _
      rw [hgb]
      generalize hw6 : (w5.alloc (.cells #[.int .u64 q0, .int .u64 q1, .int .u64 q2, .int .u64 q3, .int .u64 q4] 26)) = w6 at *
      clear hw6 hgb
      refine region_mem3 (sqS5K xs ys) (sqS5 xs ys) [35, 36, 37, 38, 39, 40, 9, 10] (by kernel_rfl) (by kernel_rfl) (by kernel_rfl) (by kernel_rfl) ?_ ?_ ?_
      · simp only [MemSteps]
        refine ⟨?_, ?_, ?_, ?_, ?_, ?_, ?_, ?_, ?_, ?_, trivial⟩
        · refine fun _ => ⟨rfl, fun a' w' hb' hO hD => ?_⟩
          exact .inl ⟨_, _, exec_load_elem rfl ((hO 5 (dst_free (by kernel_rfl))).trans rfl) (hb'.blk (cur := #[.int .u64 p0, .int .u64 p1, .int .u64 p2, .int .u64 p3, .int .u64 p4]) (BX0) (BX0.lt)), ⟨_, _, _, _, _, rfl, hE0⟩, Below.refl _ _⟩
        · refine fun _ => ⟨rfl, fun a' w' hb' hO hD => ?_⟩
          exact .inl ⟨_, _, exec_load_elem rfl ((hO 7 (dst_free (by kernel_rfl))).trans rfl) (hb'.blk (cur := #[.int .u64 q0, .int .u64 q1, .int .u64 q2, .int .u64 q3, .int .u64 q4]) (BX1) (BX1.lt)), ⟨_, _, _, _, _, rfl, hE1⟩, Below.refl _ _⟩
        · refine fun _ => ⟨rfl, fun a' w' hb' hO hD => ?_⟩
          have h0 : ElV (num2 xs) (a'.eval (.tmp 35)) := hD ⟨0, .data⟩ (by simp) rfl 35 rfl rfl
          have h1 : ElV (num2 ys) (a'.eval (.tmp 36)) := hD ⟨1, .data⟩ (by simp) rfl 36 rfl rfl
          exact .inr ⟨_, #[a'.eval (.tmp 35), a'.eval (.tmp 36)], exec_call Try.func17 (by kernel_rfl) (by kernel_rfl) _ rfl _ _ (by simp), Add_V h0 h1 _⟩
        · refine fun _ => ⟨rfl, fun a' w' hb' hO hD => ?_⟩
          exact .inl ⟨_, _, exec_load_elem rfl ((hO 5 (dst_free (by kernel_rfl))).trans rfl) (hb'.blk (cur := #[.int .u64 p0, .int .u64 p1, .int .u64 p2, .int .u64 p3, .int .u64 p4]) (BX0) (BX0.lt)), ⟨_, _, _, _, _, rfl, hE0⟩, Below.refl _ _⟩
        · refine fun _ => ⟨rfl, fun a' w' hb' hO hD => ?_⟩
          exact .inl ⟨_, _, exec_load_elem rfl ((hO 7 (dst_free (by kernel_rfl))).trans rfl) (hb'.blk (cur := #[.int .u64 q0, .int .u64 q1, .int .u64 q2, .int .u64 q3, .int .u64 q4]) (BX1) (BX1.lt)), ⟨_, _, _, _, _, rfl, hE1⟩, Below.refl _ _⟩
        · refine fun _ => ⟨rfl, fun a' w' hb' hO hD => ?_⟩
          have h0 : ElV (num2 xs) (a'.eval (.tmp 38)) := hD ⟨3, .data⟩ (by simp) rfl 38 rfl rfl
          have h1 : ElV (num2 ys) (a'.eval (.tmp 39)) := hD ⟨4, .data⟩ (by simp) rfl 39 rfl rfl
          exact .inr ⟨_, #[a'.eval (.tmp 38), a'.eval (.tmp 39)], exec_call Try.func19 (by kernel_rfl) (by kernel_rfl) _ rfl _ _ (by simp), Sub_V h0 h1 _⟩
        · intro h; cases h
        · intro h; cases h
        · intro h; cases h
        · intro h; cases h
      · exact fun t k m x h v hv => by unfold sqS5K at h; split at h <;> first | (cases h; exact hv) | cases h
      · intro gs w7 hb5 hV hM
        replace BX0 := BX0.old hb5
        replace BX1 := BX1.old hb5
        replace HB : Below w.heap.size w w7 := HB.trans (hb5.mono HB.size)
        obtain ⟨gv9, cur9, he9, hl9, BY9, hC9⟩ := hM 8 6 2 ((num2 xs) + (num2 ys)) 9 rfl (by decide) rfl
        obtain ⟨v9_0, v9_1, v9_2, v9_3, v9_4, rfl, hY9⟩ := hC9
        obtain ⟨gv10, cur10, he10, hl10, BY10, hC10⟩ := hM 9 7 5 ((num2 xs) - (num2 ys)) 10 rfl (by decide) rfl
        obtain ⟨v10_0, v10_1, v10_2, v10_3, v10_4, rfl, hY10⟩ := hC10
        simp only [List.map_cons, List.map_nil, puts, Act.put, he9, he10, List.setIfInBounds_toArray, List.set_cons_zero, List.set_cons_succ]
        clear hM hV hb5 he9 he10
        show Exit.then _ _ .normal _ _
        go_wp2_with fail
        refine region_mem3 (sqS6K xs ys) (sqS6 xs ys) [41, 42, 43, 44, 45, 46, 47, 48, 49, 11, 12, 13] (by kernel_rfl) (by kernel_rfl) (by kernel_rfl) (by kernel_rfl) ?_ ?_ ?_
        · simp only [MemSteps]
          refine ⟨?_, ?_, ?_, ?_, ?_, ?_, ?_, ?_, ?_, ?_, ?_, ?_, ?_, ?_, ?_, trivial⟩
          · refine fun _ => ⟨rfl, fun a' w' hb' hO hD => ?_⟩
            exact .inl ⟨_, _, exec_load_elem rfl ((hO 5 (dst_free (by kernel_rfl))).trans rfl) (hb'.blk (cur := #[.int .u64 p0, .int .u64 p1, .int .u64 p2, .int .u64 p3, .int .u64 p4]) (BX0) (BX0.lt)), ⟨_, _, _, _, _, rfl, hE0⟩, Below.refl _ _⟩
          · refine fun _ => ⟨rfl, fun a' w' hb' hO hD => ?_⟩
            exact .inl ⟨_, _, exec_load_elem rfl ((hO 5 (dst_free (by kernel_rfl))).trans rfl) (hb'.blk (cur := #[.int .u64 p0, .int .u64 p1, .int .u64 p2, .int .u64 p3, .int .u64 p4]) (BX0) (BX0.lt)), ⟨_, _, _, _, _, rfl, hE0⟩, Below.refl _ _⟩
          · refine fun _ => ⟨rfl, fun a' w' hb' hO hD => ?_⟩
            have h0 : ElV (num2 xs) (a'.eval (.tmp 41)) := hD ⟨0, .data⟩ (by simp) rfl 41 rfl rfl
            have h1 : ElV (num2 xs) (a'.eval (.tmp 42)) := hD ⟨1, .data⟩ (by simp) rfl 42 rfl rfl
            exact .inr ⟨_, #[a'.eval (.tmp 41), a'.eval (.tmp 42)], exec_call Try.func18 (by kernel_rfl) (by kernel_rfl) _ rfl _ _ (by simp), Mul_V h0 h1 _⟩
          · refine fun _ => ⟨rfl, fun a' w' hb' hO hD => ?_⟩
            exact .inl ⟨_, _, exec_load_elem rfl ((hO 7 (dst_free (by kernel_rfl))).trans rfl) (hb'.blk (cur := #[.int .u64 q0, .int .u64 q1, .int .u64 q2, .int .u64 q3, .int .u64 q4]) (BX1) (BX1.lt)), ⟨_, _, _, _, _, rfl, hE1⟩, Below.refl _ _⟩
          · refine fun _ => ⟨rfl, fun a' w' hb' hO hD => ?_⟩
            exact .inl ⟨_, _, exec_load_elem rfl ((hO 7 (dst_free (by kernel_rfl))).trans rfl) (hb'.blk (cur := #[.int .u64 q0, .int .u64 q1, .int .u64 q2, .int .u64 q3, .int .u64 q4]) (BX1) (BX1.lt)), ⟨_, _, _, _, _, rfl, hE1⟩, Below.refl _ _⟩
          · refine fun _ => ⟨rfl, fun a' w' hb' hO hD => ?_⟩
            have h0 : ElV (num2 ys) (a'.eval (.tmp 44)) := hD ⟨3, .data⟩ (by simp) rfl 44 rfl rfl
            have h1 : ElV (num2 ys) (a'.eval (.tmp 45)) := hD ⟨4, .data⟩ (by simp) rfl 45 rfl rfl
            exact .inr ⟨_, #[a'.eval (.tmp 44), a'.eval (.tmp 45)], exec_call Try.func18 (by kernel_rfl) (by kernel_rfl) _ rfl _ _ (by simp), Mul_V h0 h1 _⟩
          · refine fun _ => ⟨rfl, fun a' w' hb' hO hD => ?_⟩
            exact .inl ⟨_, _, exec_load_elem rfl ((hO 5 (dst_free (by kernel_rfl))).trans rfl) (hb'.blk (cur := #[.int .u64 p0, .int .u64 p1, .int .u64 p2, .int .u64 p3, .int .u64 p4]) (BX0) (BX0.lt)), ⟨_, _, _, _, _, rfl, hE0⟩, Below.refl _ _⟩
          · refine fun _ => ⟨rfl, fun a' w' hb' hO hD => ?_⟩
            exact .inl ⟨_, _, exec_load_elem rfl ((hO 7 (dst_free (by kernel_rfl))).trans rfl) (hb'.blk (cur := #[.int .u64 q0, .int .u64 q1, .int .u64 q2, .int .u64 q3, .int .u64 q4]) (BX1) (BX1.lt)), ⟨_, _, _, _, _, rfl, hE1⟩, Below.refl _ _⟩
          · refine fun _ => ⟨rfl, fun a' w' hb' hO hD => ?_⟩
            have h0 : ElV (num2 xs) (a'.eval (.tmp 47)) := hD ⟨6, .data⟩ (by simp) rfl 47 rfl rfl
            have h1 : ElV (num2 ys) (a'.eval (.tmp 48)) := hD ⟨7, .data⟩ (by simp) rfl 48 rfl rfl
            exact .inr ⟨_, #[a'.eval (.tmp 47), a'.eval (.tmp 48)], exec_call Try.func18 (by kernel_rfl) (by kernel_rfl) _ rfl _ _ (by simp), Mul_V h0 h1 _⟩
          · intro h; cases h
          · intro h; cases h
          · intro h; cases h
          · intro h; cases h
          · intro h; cases h
          · intro h; cases h
        · exact fun t k m x h v hv => by unfold sqS6K at h; split at h <;> first | (cases h; exact hv) | cases h
        · intro gs w8 hb5 hV hM
          replace BX0 := BX0.old hb5
          replace BX1 := BX1.old hb5
          replace BY9 := BY9.old hb5
          replace BY10 := BY10.old hb5
          replace HB : Below w.heap.size w w8 := HB.trans (hb5.mono HB.size)
          obtain ⟨gv11, cur11, he11, hl11, BY11, hC11⟩ := hM 12 9 2 ((num2 xs) * (num2 xs)) 11 rfl (by decide) rfl
          obtain ⟨v11_0, v11_1, v11_2, v11_3, v11_4, rfl, hY11⟩ := hC11
          obtain ⟨gv12, cur12, he12, hl12, BY12, hC12⟩ := hM 13 10 5 ((num2 ys) * (num2 ys)) 12 rfl (by decide) rfl
          obtain ⟨v12_0, v12_1, v12_2, v12_3, v12_4, rfl, hY12⟩ := hC12
          obtain ⟨gv13, cur13, he13, hl13, BY13, hC13⟩ := hM 14 11 8 ((num2 xs) * (num2 ys)) 13 rfl (by decide) rfl
          obtain ⟨v13_0, v13_1, v13_2, v13_3, v13_4, rfl, hY13⟩ := hC13
          simp only [List.map_cons, List.map_nil, puts, Act.put, he11, he12, he13, List.setIfInBounds_toArray, List.set_cons_zero, List.set_cons_succ]
          clear hM hV hb5 he11 he12 he13
          show Exit.then _ _ .normal _ _
          go_wp2_with fail
          try simp only [List.append_eq, List.cons_append, List.nil_append]
          refine region_any 37 (fun i _ v => sqS7 xs ys i v) (by kernel_rfl) (by kernel_rfl) (by kernel_rfl) (fun _ _ _ _ h _ => h) (steps_all ?_) ?_
          · simp only [List.take_succ_cons, List.take_zero, StepsFrom]
            refine ⟨?_, ?_, ?_, ?_, ?_, ?_, ?_, ?_, ?_, ?_, ?_, ?_, ?_, ?_, ?_, ?_, ?_, ?_, ?_, ?_, ?_, ?_, ?_, ?_, ?_, ?_, ?_, ?_, ?_, ?_, ?_, ?_, ?_, ?_, ?_, ?_, ?_, trivial⟩
            · refine step_plain rfl (fun a' w' hb' hO hD => ?_)
              exact .inl ⟨_, _, exec_load_elem rfl ((hO 9 (by decide)).trans rfl) (hb'.blk (cur := #[.int .u64 v9_0, .int .u64 v9_1, .int .u64 v9_2, .int .u64 v9_3, .int .u64 v9_4]) (BY9) (BY9.lt)), ⟨_, _, _, _, _, rfl, hY9⟩, Below.refl _ _⟩
            · refine step_plain rfl (fun a' w' hb' hO hD => ?_)
              exact .inl ⟨_, _, exec_load_elem rfl ((hO 9 (by decide)).trans rfl) (hb'.blk (cur := #[.int .u64 v9_0, .int .u64 v9_1, .int .u64 v9_2, .int .u64 v9_3, .int .u64 v9_4]) (BY9) (BY9.lt)), ⟨_, _, _, _, _, rfl, hY9⟩, Below.refl _ _⟩
            · refine step_plain rfl (fun a' w' hb' hO hD => ?_)
              have h0 : ElV ((num2 xs) + (num2 ys)) (a'.eval (.tmp 50)) := hD ⟨0, .data⟩ (by simp) rfl 50 rfl
              have h1 : ElV ((num2 xs) + (num2 ys)) (a'.eval (.tmp 51)) := hD ⟨1, .data⟩ (by simp) rfl 51 rfl
              exact .inr ⟨_, #[a'.eval (.tmp 50), a'.eval (.tmp 51)], exec_call Try.func18 (by kernel_rfl) (by kernel_rfl) _ rfl _ _ (by simp), Mul_V h0 h1 _⟩
            · refine step_plain rfl (fun a' w' hb' hO hD => ?_)
              exact .inl ⟨_, _, exec_load_elem rfl ((hO 11 (by decide)).trans rfl) (hb'.blk (cur := #[.int .u64 v11_0, .int .u64 v11_1, .int .u64 v11_2, .int .u64 v11_3, .int .u64 v11_4]) (BY11) (BY11.lt)), ⟨_, _, _, _, _, rfl, hY11⟩, Below.refl _ _⟩
            · refine step_plain rfl (fun a' w' hb' hO hD => ?_)
              exact .inl ⟨_, _, exec_load_elem rfl ((hO 12 (by decide)).trans rfl) (hb'.blk (cur := #[.int .u64 v12_0, .int .u64 v12_1, .int .u64 v12_2, .int .u64 v12_3, .int .u64 v12_4]) (BY12) (BY12.lt)), ⟨_, _, _, _, _, rfl, hY12⟩, Below.refl _ _⟩
            · refine step_plain rfl (fun a' w' hb' hO hD => ?_)
              have h0 : ElV ((num2 xs) * (num2 xs)) (a'.eval (.tmp 53)) := hD ⟨3, .data⟩ (by simp) rfl 53 rfl
              have h1 : ElV ((num2 ys) * (num2 ys)) (a'.eval (.tmp 54)) := hD ⟨4, .data⟩ (by simp) rfl 54 rfl
              exact .inr ⟨_, #[a'.eval (.tmp 53), a'.eval (.tmp 54)], exec_call Try.func17 (by kernel_rfl) (by kernel_rfl) _ rfl _ _ (by simp), Add_V h0 h1 _⟩
            · refine step_plain rfl (fun a' w' hb' hO hD => ?_)
              exact .inl ⟨_, _, exec_load_elem rfl ((hO 13 (by decide)).trans rfl) (hb'.blk (cur := #[.int .u64 v13_0, .int .u64 v13_1, .int .u64 v13_2, .int .u64 v13_3, .int .u64 v13_4]) (BY13) (BY13.lt)), ⟨_, _, _, _, _, rfl, hY13⟩, Below.refl _ _⟩
            · refine step_plain rfl (fun a' w' hb' hO hD => ?_)
              exact .inl ⟨_, _, exec_load_elem rfl ((hO 13 (by decide)).trans rfl) (hb'.blk (cur := #[.int .u64 v13_0, .int .u64 v13_1, .int .u64 v13_2, .int .u64 v13_3, .int .u64 v13_4]) (BY13) (BY13.lt)), ⟨_, _, _, _, _, rfl, hY13⟩, Below.refl _ _⟩
            · refine step_plain rfl (fun a' w' hb' hO hD => ?_)
              have h0 : ElV ((num2 xs) * (num2 ys)) (a'.eval (.tmp 56)) := hD ⟨6, .data⟩ (by simp) rfl 56 rfl
              have h1 : ElV ((num2 xs) * (num2 ys)) (a'.eval (.tmp 57)) := hD ⟨7, .data⟩ (by simp) rfl 57 rfl
              exact .inr ⟨_, #[a'.eval (.tmp 56), a'.eval (.tmp 57)], exec_call Try.func17 (by kernel_rfl) (by kernel_rfl) _ rfl _ _ (by simp), Add_V h0 h1 _⟩
            · refine step_plain rfl (fun a' w' hb' hO hD => ?_)
              have h0 : ElV (((num2 xs) * (num2 xs)) + ((num2 ys) * (num2 ys))) (a'.eval (.tmp 55)) := hD ⟨5, .data⟩ (by simp) rfl 55 rfl
              have h1 : ElV (((num2 xs) * (num2 ys)) + ((num2 xs) * (num2 ys))) (a'.eval (.tmp 58)) := hD ⟨8, .data⟩ (by simp) rfl 58 rfl
              exact .inr ⟨_, #[a'.eval (.tmp 55), a'.eval (.tmp 58)], exec_call Try.func17 (by kernel_rfl) (by kernel_rfl) _ rfl _ _ (by simp), Add_V h0 h1 _⟩
            · refine step_plain rfl (fun a' w' hb' hO hD => ?_)
              have h0 : ElV (((num2 xs) + (num2 ys)) * ((num2 xs) + (num2 ys))) (a'.eval (.tmp 52)) := hD ⟨2, .data⟩ (by simp) rfl 52 rfl
              have h1 : ElV ((((num2 xs) * (num2 xs)) + ((num2 ys) * (num2 ys))) + (((num2 xs) * (num2 ys)) + ((num2 xs) * (num2 ys)))) (a'.eval (.tmp 59)) := hD ⟨9, .data⟩ (by simp) rfl 59 rfl
              exact .inr ⟨_, #[a'.eval (.tmp 52), a'.eval (.tmp 59)], exec_call Try.func16 (by kernel_rfl) (by kernel_rfl) _ rfl _ _ (by simp), Same_T h0 h1 _ (by grind)⟩
            · refine step_plain rfl (fun a' w' hb' hO hD => ?_)
              have h0 : a'.eval (.tmp 60) = .bool (true) := hD ⟨10, .data⟩ (by simp) rfl 60 rfl
              exact .inl ⟨a'.eval (.tmp 60), _, rfl, h0, Below.refl _ _⟩
            · refine step_guard 61 rfl rfl (by kernel_rfl) (fun _ _ h => h) (fun a' w' hb' hO hD => ?_)
              exact .inl ⟨_, _, exec_load_elem rfl ((hO 9 (by decide)).trans rfl) (hb'.blk (cur := #[.int .u64 v9_0, .int .u64 v9_1, .int .u64 v9_2, .int .u64 v9_3, .int .u64 v9_4]) (BY9) (BY9.lt)), ⟨_, _, _, _, _, rfl, hY9⟩, Below.refl _ _⟩
            · refine step_guard 61 rfl rfl (by kernel_rfl) (fun _ _ h => h) (fun a' w' hb' hO hD => ?_)
              exact .inl ⟨_, _, exec_load_elem rfl ((hO 10 (by decide)).trans rfl) (hb'.blk (cur := #[.int .u64 v10_0, .int .u64 v10_1, .int .u64 v10_2, .int .u64 v10_3, .int .u64 v10_4]) (BY10) (BY10.lt)), ⟨_, _, _, _, _, rfl, hY10⟩, Below.refl _ _⟩
            · refine step_guard 61 rfl rfl (by kernel_rfl) (fun _ _ h => h) (fun a' w' hb' hO hD => ?_)
              have h0 : ElV ((num2 xs) + (num2 ys)) (a'.eval (.tmp 62)) := hD ⟨12, .data⟩ (by simp) rfl 62 rfl
              have h1 : ElV ((num2 xs) - (num2 ys)) (a'.eval (.tmp 63)) := hD ⟨13, .data⟩ (by simp) rfl 63 rfl
              exact .inr ⟨_, #[a'.eval (.tmp 62), a'.eval (.tmp 63)], exec_call Try.func18 (by kernel_rfl) (by kernel_rfl) _ rfl _ _ (by simp), Mul_V h0 h1 _⟩
            · refine step_guard 61 rfl rfl (by kernel_rfl) (fun _ _ h => h) (fun a' w' hb' hO hD => ?_)
              exact .inl ⟨_, _, exec_load_elem rfl ((hO 11 (by decide)).trans rfl) (hb'.blk (cur := #[.int .u64 v11_0, .int .u64 v11_1, .int .u64 v11_2, .int .u64 v11_3, .int .u64 v11_4]) (BY11) (BY11.lt)), ⟨_, _, _, _, _, rfl, hY11⟩, Below.refl _ _⟩
            · refine step_guard 61 rfl rfl (by kernel_rfl) (fun _ _ h => h) (fun a' w' hb' hO hD => ?_)
              exact .inl ⟨_, _, exec_load_elem rfl ((hO 12 (by decide)).trans rfl) (hb'.blk (cur := #[.int .u64 v12_0, .int .u64 v12_1, .int .u64 v12_2, .int .u64 v12_3, .int .u64 v12_4]) (BY12) (BY12.lt)), ⟨_, _, _, _, _, rfl, hY12⟩, Below.refl _ _⟩
            · refine step_guard 61 rfl rfl (by kernel_rfl) (fun _ _ h => h) (fun a' w' hb' hO hD => ?_)
              have h0 : ElV ((num2 xs) * (num2 xs)) (a'.eval (.tmp 65)) := hD ⟨15, .data⟩ (by simp) rfl 65 rfl
              have h1 : ElV ((num2 ys) * (num2 ys)) (a'.eval (.tmp 66)) := hD ⟨16, .data⟩ (by simp) rfl 66 rfl
              exact .inr ⟨_, #[a'.eval (.tmp 65), a'.eval (.tmp 66)], exec_call Try.func19 (by kernel_rfl) (by kernel_rfl) _ rfl _ _ (by simp), Sub_V h0 h1 _⟩
            · refine step_guard 61 rfl rfl (by kernel_rfl) (fun _ _ h => h) (fun a' w' hb' hO hD => ?_)
              have h0 : ElV (((num2 xs) + (num2 ys)) * ((num2 xs) - (num2 ys))) (a'.eval (.tmp 64)) := hD ⟨14, .data⟩ (by simp) rfl 64 rfl
              have h1 : ElV (((num2 xs) * (num2 xs)) - ((num2 ys) * (num2 ys))) (a'.eval (.tmp 67)) := hD ⟨17, .data⟩ (by simp) rfl 67 rfl
              exact .inr ⟨_, #[a'.eval (.tmp 64), a'.eval (.tmp 67)], exec_call Try.func16 (by kernel_rfl) (by kernel_rfl) _ rfl _ _ (by simp), Same_T h0 h1 _ (by grind)⟩
            · refine step_plain rfl (fun a' w' hb' hO hD => ?_)
              have h0 : a'.eval (.tmp 61) = .bool (true) := hD ⟨11, .data⟩ (by simp) rfl 61 rfl
              have h1 : a'.eval (.tmp 68) = .bool (true) := hD ⟨18, .data⟩ (by simp) rfl 68 rfl
              exact .inl ⟨.bool (true), _, by (generalize a'.eval = ev at *; simp [execOp, go_sem, h0, h1]), rfl, Below.refl _ _⟩
            · refine step_plain rfl (fun a' w' hb' hO hD => ?_)
              have h0 : a'.eval (.tmp 69) = .bool (true) := hD ⟨19, .data⟩ (by simp) rfl 69 rfl
              exact .inl ⟨a'.eval (.tmp 69), _, rfl, h0, Below.refl _ _⟩
            · refine step_guard 70 rfl rfl (by kernel_rfl) (fun _ _ h => h) (fun a' w' hb' hO hD => ?_)
              exact .inl ⟨_, _, exec_load_elem rfl ((hO 10 (by decide)).trans rfl) (hb'.blk (cur := #[.int .u64 v10_0, .int .u64 v10_1, .int .u64 v10_2, .int .u64 v10_3, .int .u64 v10_4]) (BY10) (BY10.lt)), ⟨_, _, _, _, _, rfl, hY10⟩, Below.refl _ _⟩
            · refine step_guard 70 rfl rfl (by kernel_rfl) (fun _ _ h => h) (fun a' w' hb' hO hD => ?_)
              exact .inl ⟨_, _, exec_load_elem rfl ((hO 10 (by decide)).trans rfl) (hb'.blk (cur := #[.int .u64 v10_0, .int .u64 v10_1, .int .u64 v10_2, .int .u64 v10_3, .int .u64 v10_4]) (BY10) (BY10.lt)), ⟨_, _, _, _, _, rfl, hY10⟩, Below.refl _ _⟩
            · refine step_guard 70 rfl rfl (by kernel_rfl) (fun _ _ h => h) (fun a' w' hb' hO hD => ?_)
              have h0 : ElV ((num2 xs) - (num2 ys)) (a'.eval (.tmp 71)) := hD ⟨21, .data⟩ (by simp) rfl 71 rfl
              have h1 : ElV ((num2 xs) - (num2 ys)) (a'.eval (.tmp 72)) := hD ⟨22, .data⟩ (by simp) rfl 72 rfl
              exact .inr ⟨_, #[a'.eval (.tmp 71), a'.eval (.tmp 72)], exec_call Try.func18 (by kernel_rfl) (by kernel_rfl) _ rfl _ _ (by simp), Mul_V h0 h1 _⟩
            · refine step_guard 70 rfl rfl (by kernel_rfl) (fun _ _ h => h) (fun a' w' hb' hO hD => ?_)
              exact .inl ⟨_, _, exec_load_elem rfl ((hO 7 (by decide)).trans rfl) (hb'.blk (cur := #[.int .u64 q0, .int .u64 q1, .int .u64 q2, .int .u64 q3, .int .u64 q4]) (BX1) (BX1.lt)), ⟨_, _, _, _, _, rfl, hE1⟩, Below.refl _ _⟩
            · refine step_guard 70 rfl rfl (by kernel_rfl) (fun _ _ h => h) (fun a' w' hb' hO hD => ?_)
              exact .inl ⟨_, _, exec_load_elem rfl ((hO 5 (by decide)).trans rfl) (hb'.blk (cur := #[.int .u64 p0, .int .u64 p1, .int .u64 p2, .int .u64 p3, .int .u64 p4]) (BX0) (BX0.lt)), ⟨_, _, _, _, _, rfl, hE0⟩, Below.refl _ _⟩
            · refine step_guard 70 rfl rfl (by kernel_rfl) (fun _ _ h => h) (fun a' w' hb' hO hD => ?_)
              have h0 : ElV (num2 ys) (a'.eval (.tmp 74)) := hD ⟨24, .data⟩ (by simp) rfl 74 rfl
              have h1 : ElV (num2 xs) (a'.eval (.tmp 75)) := hD ⟨25, .data⟩ (by simp) rfl 75 rfl
              exact .inr ⟨_, #[a'.eval (.tmp 74), a'.eval (.tmp 75)], exec_call Try.func19 (by kernel_rfl) (by kernel_rfl) _ rfl _ _ (by simp), Sub_V h0 h1 _⟩
            · refine step_guard 70 rfl rfl (by kernel_rfl) (fun _ _ h => h) (fun a' w' hb' hO hD => ?_)
              exact .inl ⟨_, _, exec_load_elem rfl ((hO 7 (by decide)).trans rfl) (hb'.blk (cur := #[.int .u64 q0, .int .u64 q1, .int .u64 q2, .int .u64 q3, .int .u64 q4]) (BX1) (BX1.lt)), ⟨_, _, _, _, _, rfl, hE1⟩, Below.refl _ _⟩
            · refine step_guard 70 rfl rfl (by kernel_rfl) (fun _ _ h => h) (fun a' w' hb' hO hD => ?_)
              exact .inl ⟨_, _, exec_load_elem rfl ((hO 5 (by decide)).trans rfl) (hb'.blk (cur := #[.int .u64 p0, .int .u64 p1, .int .u64 p2, .int .u64 p3, .int .u64 p4]) (BX0) (BX0.lt)), ⟨_, _, _, _, _, rfl, hE0⟩, Below.refl _ _⟩
            · refine step_guard 70 rfl rfl (by kernel_rfl) (fun _ _ h => h) (fun a' w' hb' hO hD => ?_)
              have h0 : ElV (num2 ys) (a'.eval (.tmp 77)) := hD ⟨27, .data⟩ (by simp) rfl 77 rfl
              have h1 : ElV (num2 xs) (a'.eval (.tmp 78)) := hD ⟨28, .data⟩ (by simp) rfl 78 rfl
              exact .inr ⟨_, #[a'.eval (.tmp 77), a'.eval (.tmp 78)], exec_call Try.func19 (by kernel_rfl) (by kernel_rfl) _ rfl _ _ (by simp), Sub_V h0 h1 _⟩
            · refine step_guard 70 rfl rfl (by kernel_rfl) (fun _ _ h => h) (fun a' w' hb' hO hD => ?_)
              have h0 : ElV ((num2 ys) - (num2 xs)) (a'.eval (.tmp 76)) := hD ⟨26, .data⟩ (by simp) rfl 76 rfl
              have h1 : ElV ((num2 ys) - (num2 xs)) (a'.eval (.tmp 79)) := hD ⟨29, .data⟩ (by simp) rfl 79 rfl
              exact .inr ⟨_, #[a'.eval (.tmp 76), a'.eval (.tmp 79)], exec_call Try.func18 (by kernel_rfl) (by kernel_rfl) _ rfl _ _ (by simp), Mul_V h0 h1 _⟩
            · refine step_guard 70 rfl rfl (by kernel_rfl) (fun _ _ h => h) (fun a' w' hb' hO hD => ?_)
              have h0 : ElV (((num2 xs) - (num2 ys)) * ((num2 xs) - (num2 ys))) (a'.eval (.tmp 73)) := hD ⟨23, .data⟩ (by simp) rfl 73 rfl
              have h1 : ElV (((num2 ys) - (num2 xs)) * ((num2 ys) - (num2 xs))) (a'.eval (.tmp 80)) := hD ⟨30, .data⟩ (by simp) rfl 80 rfl
              exact .inr ⟨_, #[a'.eval (.tmp 73), a'.eval (.tmp 80)], exec_call Try.func16 (by kernel_rfl) (by kernel_rfl) _ rfl _ _ (by simp), Same_T h0 h1 _ (by grind)⟩
            · refine step_plain rfl (fun a' w' hb' hO hD => ?_)
              have h0 : a'.eval (.tmp 70) = .bool (true) := hD ⟨20, .data⟩ (by simp) rfl 70 rfl
              have h1 : a'.eval (.tmp 81) = .bool (true) := hD ⟨31, .data⟩ (by simp) rfl 81 rfl
              exact .inl ⟨.bool (true), _, by (generalize a'.eval = ev at *; simp [execOp, go_sem, h0, h1]), rfl, Below.refl _ _⟩
            · refine step_plain rfl (fun a' w' hb' hO hD => ?_)
              have h0 : a'.eval (.tmp 82) = .bool (true) := hD ⟨32, .data⟩ (by simp) rfl 82 rfl
              exact .inl ⟨a'.eval (.tmp 82), _, rfl, h0, Below.refl _ _⟩
            · refine step_guard 83 rfl rfl (by kernel_rfl) (fun _ _ h => h) (fun a' w' hb' hO hD => ?_)
              exact .inr ⟨_, #[], exec_call Try.func20 (by kernel_rfl) (by kernel_rfl) _ rfl _ _ (by simp), awake5_V _⟩
            · refine step_plain rfl (fun a' w' hb' hO hD => ?_)
              have h0 : a'.eval (.tmp 83) = .bool (true) := hD ⟨33, .data⟩ (by simp) rfl 83 rfl
              have h1 : a'.eval (.tmp 84) = .bool (true) := hD ⟨34, .data⟩ (by simp) rfl 84 rfl
              exact .inl ⟨.bool (true), _, by (generalize a'.eval = ev at *; simp [execOp, go_sem, h0, h1]), rfl, Below.refl _ _⟩
            · refine step_plain rfl (fun a' w' hb' hO hD => ?_)
              have h0 : a'.eval (.tmp 85) = .bool (true) := hD ⟨35, .data⟩ (by simp) rfl 85 rfl
              exact .inl ⟨a'.eval (.tmp 85), _, rfl, h0, Below.refl _ _⟩
          · intro a' w' hb' hsz hdf hO hV
            have h4 : a'.tmps.getD 4 undef = .bool true := hV 36 (by omega) 4 rfl
            have hdf' : a'.defers = [] := hdf
            have HB2 : Below w.heap.size w w' := HB.trans (hb'.mono HB.size)
            clear hO hV hb' hdf
            show Exit.then _ _ .normal _ _
            go_wp2_with fail
            exact bodyPost_ret (v := .bool true) (by simp only [Array.getD_eq_getD_getElem?] at h4; simp [results, Try.results7, go_sem, h4]) hdf' ⟨rfl, HB2⟩

end Go.Proofs.Ytdjdfmnjoilmkaa
