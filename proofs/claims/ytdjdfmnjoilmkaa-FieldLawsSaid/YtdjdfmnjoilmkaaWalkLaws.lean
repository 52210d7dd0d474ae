/-
  WALKS: sapperlaw5.FieldLaws.
-/
import Derived.Test.YtdjdfmnjoilmkaaTwoParse
import Derived.Test.YtdjdfmnjoilmkaaRegionMem3
import Derived.Test.YtdjdfmnjoilmkaaAnyOrder2
import Derived.Test.YtdjdfmnjoilmkaaAnyOrder3
import Derived.Test.YtdjdfmnjoilmkaaRow
namespace Go.Proofs.Ytdjdfmnjoilmkaa
open Go.RowKit
set_option linter.unusedVariables false
set_option linter.unusedSimpArgs false

def lwS8 (xs ys zs : List Nat) : Nat → Value → Prop
  | 0, v => ElV (num2 xs) v
  | 1, v => ElV (num2 xs) v
  | 2, v => ElV (fi (num2 xs)) v
  | 3, v => ElV ((num2 xs) * (fi (num2 xs))) v
  | _, _ => True

def lwS8K (xs ys zs : List Nat) : Nat → RK
  | 4 => .fresh
  | 5 => .into 4 3 ((num2 xs) * (fi (num2 xs)))
  | _ => .val

def lwS9a (xs ys zs : List Nat) : Nat → Value → Prop
  | 0, v => ElV ((num2 xs) * (fi (num2 xs))) v
  | 1, v => ElV (toF (1)) v
  | 2, v => v = .bool (false)
  | 3, v => v = .bool (true)
  | 4, v => v = .bool (true)
  | 5, v => ElV (num2 xs) v
  | 6, v => ElV (toF (0)) v
  | 7, v => v = .bool (true)
  | 8, v => v = .bool (false)
  | 9, v => v = .bool (false)
  | 10, v => v = .bool (false)
  | 11, v => ElV (toF (0)) v
  | 12, v => ElV (fi (toF (0))) v
  | 13, v => ElV (toF (0)) v
  | 14, v => v = .bool (true)
  | 15, v => v = .bool (false)
  | 16, v => v = .bool (false)
  | _, _ => True
def lwS11 (xs ys zs : List Nat) : Nat → Value → Prop
  | 0, v => ElV (num2 xs) v
  | 1, v => ElV (num2 ys) v
  | 2, v => ElV ((num2 xs) + (num2 ys)) v
  | 3, v => ElV (num2 ys) v
  | 4, v => ElV (num2 xs) v
  | 5, v => ElV ((num2 ys) + (num2 xs)) v
  | 6, v => v = .bool (true)
  | 7, v => v = .bool (true)
  | 8, v => ElV (num2 xs) v
  | 9, v => ElV (num2 ys) v
  | 10, v => ElV ((num2 xs) * (num2 ys)) v
  | 11, v => ElV (num2 ys) v
  | 12, v => ElV (num2 xs) v
  | 13, v => ElV ((num2 ys) * (num2 xs)) v
  | 14, v => v = .bool (true)
  | 15, v => v = .bool (true)
  | 16, v => v = .bool (true)
  | 17, v => ElV (num2 xs) v
  | 18, v => ElV (num2 ys) v
  | 19, v => ElV (num2 zs) v
  | 20, v => ElV ((num2 ys) * (num2 zs)) v
  | 21, v => ElV ((num2 xs) * ((num2 ys) * (num2 zs))) v
  | 22, v => ElV (num2 xs) v
  | 23, v => ElV (num2 ys) v
  | 24, v => ElV ((num2 xs) * (num2 ys)) v
  | 25, v => ElV (num2 zs) v
  | 26, v => ElV (((num2 xs) * (num2 ys)) * (num2 zs)) v
  | 27, v => v = .bool (true)
  | 28, v => v = .bool (true)
  | 29, v => v = .bool (true)
  | 30, v => ElV (num2 xs) v
  | 31, v => ElV (num2 ys) v
  | 32, v => ElV (num2 zs) v
  | 33, v => ElV ((num2 ys) + (num2 zs)) v
  | 34, v => ElV ((num2 xs) * ((num2 ys) + (num2 zs))) v
  | 35, v => ElV (num2 xs) v
  | 36, v => ElV (num2 ys) v
  | 37, v => ElV ((num2 xs) * (num2 ys)) v
  | 38, v => ElV (num2 xs) v
  | 39, v => ElV (num2 zs) v
  | 40, v => ElV ((num2 xs) * (num2 zs)) v
  | 41, v => ElV (((num2 xs) * (num2 ys)) + ((num2 xs) * (num2 zs))) v
  | 42, v => v = .bool (true)
  | 43, v => v = .bool (true)
  | 44, v => v = .bool (true)
  | 45, v => ElV (num2 xs) v
  | 46, v => ElV (num2 ys) v
  | 47, v => ElV ((num2 xs) + (num2 ys)) v
  | 48, v => ElV (num2 ys) v
  | 49, v => ElV (((num2 xs) + (num2 ys)) - (num2 ys)) v
  | 50, v => ElV (num2 xs) v
  | 51, v => v = .bool (true)
  | 52, v => v = .bool (true)
  | 53, v => v = .bool (true)
  | 54, v => ElV (num2 xs) v
  | 55, v => ElV (num2 ys) v
  | 56, v => ElV ((num2 xs) - (num2 ys)) v
  | 57, v => ElV (num2 ys) v
  | 58, v => ElV (((num2 xs) - (num2 ys)) + (num2 ys)) v
  | 59, v => ElV (num2 xs) v
  | 60, v => v = .bool (true)
  | 61, v => v = .bool (true)
  | 62, v => v = .bool (true)
  | 63, v => v = .bool (true)
  | 64, v => v = .bool (true)
  | 65, v => v = .bool (true)
  | _, _ => True
def lwS9b (xs ys zs : List Nat) : Nat → Value → Prop
  | 0, v => ElV ((num2 xs) * (fi (num2 xs))) v
  | 1, v => ElV (toF (1)) v
  | 2, v => v = .bool (true)
  | 3, v => v = .bool (false)
  | 4, v => v = .bool (false)
  | 5, _ => True
  | 6, _ => True
  | 7, _ => True
  | 8, _ => True
  | 9, v => v = .bool (false)
  | 10, v => v = .bool (false)
  | 11, v => ElV (toF (0)) v
  | 12, v => ElV (fi (toF (0))) v
  | 13, v => ElV (toF (0)) v
  | 14, v => v = .bool (true)
  | 15, v => v = .bool (false)
  | 16, v => v = .bool (false)
  | _, _ => True

set_option maxHeartbeats 8000000 in
theorem FieldLaws_any {A B C : Option Addr} {c d e0 : Nat} {xs ys zs : List Nat} (w : World) (ha : Bs w A c xs) (hb : Bs w B d ys) (hc : Bs w C e0 zs) :
    Calls Try.prog 9 #[.slice A xs.length c, .slice B ys.length d, .slice C zs.length e0] w fun e w' => e = .returned (.bool true) ∧ Below w.heap.size w w' := by
  have h8A := ha.b8
  have HSA := hidd ha
  obtain ⟨n, hn⟩ : ∃ n : Nat, xs.length = n := ⟨_, rfl⟩
  have h8B := hb.b8
  have HSB := hidd hb
  obtain ⟨m, hm⟩ : ∃ n : Nat, ys.length = n := ⟨_, rfl⟩
  have h8C := hc.b8
  have HSC := hidd hc
  obtain ⟨l, hl⟩ : ∃ n : Nat, zs.length = n := ⟨_, rfl⟩
  rw [hn, hm, hl]
  have HA8 := hidd h8A
  have HNA := hidd hn
  have HB8 := hidd h8B
  have HNB := hidd hm
  have HC8 := hidd h8C
  have HNC := hidd hl
  clear ha hb hc hn hm hl h8A h8B h8C
  by_cases g0 : (32 : Int) < (n : Int)
  · go_enter Try.func9, Try.ntmps9
    go_wp2_with fail
    refine Calls.mono (awake5_any _) ?_
    rintro e w1 ⟨rfl, hb1⟩
    dsimp only
    go_wp2_with fail
    go_ret
    exact ⟨rfl, by repeat' first | (with_reducible exact Below.refl _ _) | (with_reducible refine Below.setCell ?_ (by first | (simp; done) | (simp; omega) | omega) _) | (with_reducible refine Below.alloc ?_ (by first | (simp; done) | (simp; omega) | omega) _) | (with_reducible refine Below.drew ?_) | (with_reducible refine Below.trans ?_ (Below.mono (by assumption) (by first | (simp; done) | (simp; omega) | omega)))⟩
  · skip
    by_cases g1 : (32 : Int) < (m : Int)
    · go_enter Try.func9, Try.ntmps9
      go_wp2_with fail
      refine Calls.mono (awake5_any _) ?_
      rintro e w1 ⟨rfl, hb1⟩
      dsimp only
      go_wp2_with fail
      go_ret
      exact ⟨rfl, by repeat' first | (with_reducible exact Below.refl _ _) | (with_reducible refine Below.setCell ?_ (by first | (simp; done) | (simp; omega) | omega) _) | (with_reducible refine Below.alloc ?_ (by first | (simp; done) | (simp; omega) | omega) _) | (with_reducible refine Below.drew ?_) | (with_reducible refine Below.trans ?_ (Below.mono (by assumption) (by first | (simp; done) | (simp; omega) | omega)))⟩
    · skip
      by_cases g2 : (32 : Int) < (l : Int)
      · go_enter Try.func9, Try.ntmps9
        go_wp2_with fail
        refine Calls.mono (awake5_any _) ?_
        rintro e w1 ⟨rfl, hb1⟩
        dsimp only
        go_wp2_with fail
        go_ret
        exact ⟨rfl, by repeat' first | (with_reducible exact Below.refl _ _) | (with_reducible refine Below.setCell ?_ (by first | (simp; done) | (simp; omega) | omega) _) | (with_reducible refine Below.alloc ?_ (by first | (simp; done) | (simp; omega) | omega) _) | (with_reducible refine Below.drew ?_) | (with_reducible refine Below.trans ?_ (Below.mono (by assumption) (by first | (simp; done) | (simp; omega) | omega)))⟩
      · skip
        go_enter Try.func9, Try.ntmps9
        go_wp2_with fail
        refine Calls.mono (two_n HNA.out _ (Bs.under HSA (Below.refl _ _))) ?_
        rintro e w1 ⟨g, rfl, hg, BG, hb1⟩
        dsimp only
        go_wp2_with fail
        refine Calls.mono (Parse_two _ BG HA8.out) ?_
        rintro e w2 ⟨p0, p1, p2, p3, p4, rfl, hE0, hb2⟩
        have HB : Below w.heap.size w w2 := hb1.trans (hb2.mono hb1.size)
        clear hb1 hb2 BG hg
        dsimp only
        go_wp2_with fail
        obtain ⟨ga, hga⟩ : ∃ g, w2.heap.size = g := ⟨_, rfl⟩
        have BX0 : Blk (w2.alloc (.cells #[.int .u64 p0, .int .u64 p1, .int .u64 p2, .int .u64 p3, .int .u64 p4] 26)) ga #[.int .u64 p0, .int .u64 p1, .int .u64 p2, .int .u64 p3, .int .u64 p4] 26 := Blk.at _ _ hga
        replace HB : Below w.heap.size w (w2.alloc (.cells #[.int .u64 p0, .int .u64 p1, .int .u64 p2, .int .u64 p3, .int .u64 p4] 26)) := HB.alloc HB.size _
        rw [hga]
        generalize hw3 : (w2.alloc (.cells #[.int .u64 p0, .int .u64 p1, .int .u64 p2, .int .u64 p3, .int .u64 p4] 26)) = w3 at *
        clear hw3 hga
        refine Calls.mono (two_n HNB.out _ (Bs.under HSB (by repeat' first | (with_reducible exact Below.refl _ _) | (with_reducible refine Below.setCell ?_ (by first | (simp; done) | (simp; omega) | omega) _) | (with_reducible refine Below.alloc ?_ (by first | (simp; done) | (simp; omega) | omega) _) | (with_reducible refine Below.drew ?_) | (with_reducible refine Below.trans ?_ (Below.mono (by assumption) (by first | (simp; done) | (simp; omega) | omega)))))) ?_
        rintro e w4 ⟨g, rfl, hg, BG, hb1⟩
        dsimp only
        go_wp2_with fail
        refine Calls.mono (Parse_two _ BG HB8.out) ?_
        rintro e w5 ⟨q0, q1, q2, q3, q4, rfl, hE1, hb2⟩
        replace BX0 := (BX0.old hb1).old hb2
        replace HB : Below w.heap.size w w5 := (HB.trans (hb1.mono HB.size)).trans (hb2.mono (Nat.le_trans HB.size hb1.size))
        clear hb1 hb2 BG hg
        dsimp only
        go_wp2_with fail
        obtain ⟨gb, hgb⟩ : ∃ g, w5.heap.size = g := ⟨_, rfl⟩
        replace BX0 := BX0.alloc (.cells #[.int .u64 q0, .int .u64 q1, .int .u64 q2, .int .u64 q3, .int .u64 q4] 26)
        have BX1 : Blk (w5.alloc (.cells #[.int .u64 q0, .int .u64 q1, .int .u64 q2, .int .u64 q3, .int .u64 q4] 26)) gb #[.int .u64 q0, .int .u64 q1, .int .u64 q2, .int .u64 q3, .int .u64 q4] 26 := Blk.at _ _ hgb
        replace HB : Below w.heap.size w (w5.alloc (.cells #[.int .u64 q0, .int .u64 q1, .int .u64 q2, .int .u64 q3, .int .u64 q4] 26)) := HB.alloc HB.size _
        rw [hgb]
        generalize hw6 : (w5.alloc (.cells #[.int .u64 q0, .int .u64 q1, .int .u64 q2, .int .u64 q3, .int .u64 q4] 26)) = w6 at *
        clear hw6 hgb
        refine Calls.mono (two_n HNC.out _ (Bs.under HSC (by repeat' first | (with_reducible exact Below.refl _ _) | (with_reducible refine Below.setCell ?_ (by first | (simp; done) | (simp; omega) | omega) _) | (with_reducible refine Below.alloc ?_ (by first | (simp; done) | (simp; omega) | omega) _) | (with_reducible refine Below.drew ?_) | (with_reducible refine Below.trans ?_ (Below.mono (by assumption) (by first | (simp; done) | (simp; omega) | omega)))))) ?_
        rintro e w7 ⟨g, rfl, hg, BG, hb1⟩
        dsimp only
        go_wp2_with fail
        refine Calls.mono (Parse_two _ BG HC8.out) ?_
        rintro e w8 ⟨r0, r1, r2, r3, r4, rfl, hE2, hb2⟩
        replace BX0 := (BX0.old hb1).old hb2
        replace BX1 := (BX1.old hb1).old hb2
        replace HB : Below w.heap.size w w8 := (HB.trans (hb1.mono HB.size)).trans (hb2.mono (Nat.le_trans HB.size hb1.size))
        clear hb1 hb2 BG hg
        dsimp only
        go_wp2_with fail
        obtain ⟨gc, hgc⟩ : ∃ g, w8.heap.size = g := ⟨_, rfl⟩
        replace BX0 := BX0.alloc (.cells #[.int .u64 r0, .int .u64 r1, .int .u64 r2, .int .u64 r3, .int .u64 r4] 26)
        replace BX1 := BX1.alloc (.cells #[.int .u64 r0, .int .u64 r1, .int .u64 r2, .int .u64 r3, .int .u64 r4] 26)
        have BX2 : Blk (w8.alloc (.cells #[.int .u64 r0, .int .u64 r1, .int .u64 r2, .int .u64 r3, .int .u64 r4] 26)) gc #[.int .u64 r0, .int .u64 r1, .int .u64 r2, .int .u64 r3, .int .u64 r4] 26 := Blk.at _ _ hgc
        replace HB : Below w.heap.size w (w8.alloc (.cells #[.int .u64 r0, .int .u64 r1, .int .u64 r2, .int .u64 r3, .int .u64 r4] 26)) := HB.alloc HB.size _
        rw [hgc]
        generalize hw9 : (w8.alloc (.cells #[.int .u64 r0, .int .u64 r1, .int .u64 r2, .int .u64 r3, .int .u64 r4] 26)) = w9 at *
        clear hw9 hgc
        refine region_mem3 (lwS8K xs ys zs) (lwS8 xs ys zs) [56, 57, 58, 59, 13] (by kernel_rfl) (by kernel_rfl) (by kernel_rfl) (by kernel_rfl) ?_ ?_ ?_
        · simp only [MemSteps]
          refine ⟨?_, ?_, ?_, ?_, ?_, ?_, trivial⟩
          · refine fun _ => ⟨rfl, fun a' w' hb' hO hD => ?_⟩
            exact .inl ⟨_, _, exec_load_elem rfl ((hO 7 (dst_free (by kernel_rfl))).trans rfl) (hb'.blk (cur := #[.int .u64 p0, .int .u64 p1, .int .u64 p2, .int .u64 p3, .int .u64 p4]) (BX0) (BX0.lt)), ⟨_, _, _, _, _, rfl, hE0⟩, Below.refl _ _⟩
          · refine fun _ => ⟨rfl, fun a' w' hb' hO hD => ?_⟩
            exact .inl ⟨_, _, exec_load_elem rfl ((hO 7 (dst_free (by kernel_rfl))).trans rfl) (hb'.blk (cur := #[.int .u64 p0, .int .u64 p1, .int .u64 p2, .int .u64 p3, .int .u64 p4]) (BX0) (BX0.lt)), ⟨_, _, _, _, _, rfl, hE0⟩, Below.refl _ _⟩
          · refine fun _ => ⟨rfl, fun a' w' hb' hO hD => ?_⟩
            have h0 : ElV (num2 xs) (a'.eval (.tmp 57)) := hD ⟨1, .data⟩ (by simp) rfl 57 rfl rfl
            exact .inr ⟨_, #[a'.eval (.tmp 57)], exec_call Try.func24 (by kernel_rfl) (by kernel_rfl) _ rfl _ _ (by simp), Inv_V h0 _⟩
          · refine fun _ => ⟨rfl, fun a' w' hb' hO hD => ?_⟩
            have h0 : ElV (num2 xs) (a'.eval (.tmp 56)) := hD ⟨0, .data⟩ (by simp) rfl 56 rfl rfl
            have h1 : ElV (fi (num2 xs)) (a'.eval (.tmp 58)) := hD ⟨2, .data⟩ (by simp) rfl 58 rfl rfl
            exact .inr ⟨_, #[a'.eval (.tmp 56), a'.eval (.tmp 58)], exec_call Try.func18 (by kernel_rfl) (by kernel_rfl) _ rfl _ _ (by simp), Mul_V h0 h1 _⟩
          · intro h; cases h
          · intro h; cases h
        · exact fun t k m x h v hv => by unfold lwS8K at h; split at h <;> first | (cases h; exact hv) | cases h
        · intro gs w10 hb5 hV hM
          replace BX0 := BX0.old hb5
          replace BX1 := BX1.old hb5
          replace BX2 := BX2.old hb5
          replace HB : Below w.heap.size w w10 := HB.trans (hb5.mono HB.size)
          obtain ⟨gv13, cur13, he13, hl13, BY13, hC13⟩ := hM 5 4 3 ((num2 xs) * (fi (num2 xs))) 13 rfl (by decide) rfl
          obtain ⟨v13_0, v13_1, v13_2, v13_3, v13_4, rfl, hY13⟩ := hC13
          simp only [List.map_cons, List.map_nil, puts, Act.put, he13, List.setIfInBounds_toArray, List.set_cons_zero, List.set_cons_succ]
          clear hM hV hb5 he13
          show Exit.then _ _ .normal _ _
          go_wp2_with fail
          by_cases hz0 : num2 xs = 0
          · skip
            refine region_any2 17 (fun i _ v => lwS9a xs ys zs i v) [60, 61, 62, 63, 64, 65, 66, 67, 68, 69, 70, 71, 72, 73, 74, 75, 76] (by kernel_rfl) (by kernel_rfl) (by kernel_rfl) (by kernel_rfl) (by kernel_rfl) (fun _ _ _ _ h _ => h) (steps_all ?_) ?_
            · simp only [List.take_succ_cons, List.take_zero, StepsFrom]
              refine ⟨?_, ?_, ?_, ?_, ?_, ?_, ?_, ?_, ?_, ?_, ?_, ?_, ?_, ?_, ?_, ?_, ?_, trivial⟩
              · refine step_plain rfl (fun a' w' hb' hO hD => ?_)
                exact .inl ⟨_, _, exec_load_elem rfl ((hO 13 (by decide)).trans rfl) (hb'.blk (cur := #[.int .u64 v13_0, .int .u64 v13_1, .int .u64 v13_2, .int .u64 v13_3, .int .u64 v13_4]) (BY13) (BY13.lt)), ⟨_, _, _, _, _, rfl, hY13⟩, Below.refl _ _⟩
              · refine step_plain rfl (fun a' w' hb' hO hD => ?_)
                exact .inr ⟨_, #[.int .u64 (1)], exec_call Try.func15 (by kernel_rfl) (by kernel_rfl) _ rfl _ _ (by simp [Act.eval]), Of_V _ _ (by omega) (by omega)⟩
              · refine step_plain rfl (fun a' w' hb' hO hD => ?_)
                have h0 : ElV ((num2 xs) * (fi (num2 xs))) (a'.eval (.tmp 60)) := hD ⟨0, .data⟩ (by simp) rfl 60 rfl
                have h1 : ElV (toF (1)) (a'.eval (.tmp 61)) := hD ⟨1, .data⟩ (by simp) rfl 61 rfl
                exact .inr ⟨_, #[a'.eval (.tmp 60), a'.eval (.tmp 61)], exec_call Try.func16 (by kernel_rfl) (by kernel_rfl) _ rfl _ _ (by simp), Same_F h0 h1 _ (by rw [hz0]; exact zero_case)⟩
              · refine step_plain rfl (fun a' w' hb' hO hD => ?_)
                have h0 : a'.eval (.tmp 62) = .bool (false) := hD ⟨2, .data⟩ (by simp) rfl 62 rfl
                exact .inl ⟨.bool (true), _, by (generalize a'.eval = ev at *; simp [execOp, go_sem, h0]), rfl, Below.refl _ _⟩
              · refine step_plain rfl (fun a' w' hb' hO hD => ?_)
                have h0 : a'.eval (.tmp 63) = .bool (true) := hD ⟨3, .data⟩ (by simp) rfl 63 rfl
                exact .inl ⟨a'.eval (.tmp 63), _, rfl, h0, Below.refl _ _⟩
              · refine step_guard 64 rfl rfl (by kernel_rfl) (fun _ _ h => h) (fun a' w' hb' hO hD => ?_)
                exact .inl ⟨_, _, exec_load_elem rfl ((hO 7 (by decide)).trans rfl) (hb'.blk (cur := #[.int .u64 p0, .int .u64 p1, .int .u64 p2, .int .u64 p3, .int .u64 p4]) (BX0) (BX0.lt)), ⟨_, _, _, _, _, rfl, hE0⟩, Below.refl _ _⟩
              · refine step_guard 64 rfl rfl (by kernel_rfl) (fun _ _ h => h) (fun a' w' hb' hO hD => ?_)
                exact .inr ⟨_, #[.int .u64 (0)], exec_call Try.func15 (by kernel_rfl) (by kernel_rfl) _ rfl _ _ (by simp [Act.eval]), Of_V _ _ (by omega) (by omega)⟩
              · refine step_guard 64 rfl rfl (by kernel_rfl) (fun _ _ h => h) (fun a' w' hb' hO hD => ?_)
                have h0 : ElV (num2 xs) (a'.eval (.tmp 65)) := hD ⟨5, .data⟩ (by simp) rfl 65 rfl
                have h1 : ElV (toF (0)) (a'.eval (.tmp 66)) := hD ⟨6, .data⟩ (by simp) rfl 66 rfl
                exact .inr ⟨_, #[a'.eval (.tmp 65), a'.eval (.tmp 66)], exec_call Try.func16 (by kernel_rfl) (by kernel_rfl) _ rfl _ _ (by simp), Same_T h0 h1 _ (by rw [hz0]; exact toF_zero.symm)⟩
              · refine step_guard 64 rfl rfl (by kernel_rfl) (fun _ _ h => h) (fun a' w' hb' hO hD => ?_)
                have h0 : a'.eval (.tmp 67) = .bool (true) := hD ⟨7, .data⟩ (by simp) rfl 67 rfl
                exact .inl ⟨.bool (false), _, by (generalize a'.eval = ev at *; simp [execOp, go_sem, h0]), rfl, Below.refl _ _⟩
              · refine step_plain rfl (fun a' w' hb' hO hD => ?_)
                have h0 : a'.eval (.tmp 64) = .bool (true) := hD ⟨4, .data⟩ (by simp) rfl 64 rfl
                have h1 : a'.eval (.tmp 68) = .bool (false) := hD ⟨8, .data⟩ (by simp) rfl 68 rfl
                exact .inl ⟨.bool (false), _, by (generalize a'.eval = ev at *; simp [execOp, go_sem, h0, h1]), rfl, Below.refl _ _⟩
              · refine step_plain rfl (fun a' w' hb' hO hD => ?_)
                have h0 : a'.eval (.tmp 69) = .bool (false) := hD ⟨9, .data⟩ (by simp) rfl 69 rfl
                exact .inl ⟨a'.eval (.tmp 69), _, rfl, h0, Below.refl _ _⟩
              · refine step_guardF 70 rfl rfl (by kernel_rfl) (fun _ _ h => h) (fun a' w' hb' hO hD => ?_)
                exact .inr ⟨_, #[.int .u64 (0)], exec_call Try.func15 (by kernel_rfl) (by kernel_rfl) _ rfl _ _ (by simp [Act.eval]), Of_V _ _ (by omega) (by omega)⟩
              · refine step_guardF 70 rfl rfl (by kernel_rfl) (fun _ _ h => h) (fun a' w' hb' hO hD => ?_)
                have h0 : ElV (toF (0)) (a'.eval (.tmp 71)) := hD ⟨11, .data⟩ (by simp) rfl 71 rfl
                exact .inr ⟨_, #[a'.eval (.tmp 71)], exec_call Try.func24 (by kernel_rfl) (by kernel_rfl) _ rfl _ _ (by simp), Inv_V h0 _⟩
              · refine step_guardF 70 rfl rfl (by kernel_rfl) (fun _ _ h => h) (fun a' w' hb' hO hD => ?_)
                exact .inr ⟨_, #[.int .u64 (0)], exec_call Try.func15 (by kernel_rfl) (by kernel_rfl) _ rfl _ _ (by simp [Act.eval]), Of_V _ _ (by omega) (by omega)⟩
              · refine step_guardF 70 rfl rfl (by kernel_rfl) (fun _ _ h => h) (fun a' w' hb' hO hD => ?_)
                have h0 : ElV (fi (toF (0))) (a'.eval (.tmp 72)) := hD ⟨12, .data⟩ (by simp) rfl 72 rfl
                have h1 : ElV (toF (0)) (a'.eval (.tmp 73)) := hD ⟨13, .data⟩ (by simp) rfl 73 rfl
                exact .inr ⟨_, #[a'.eval (.tmp 72), a'.eval (.tmp 73)], exec_call Try.func16 (by kernel_rfl) (by kernel_rfl) _ rfl _ _ (by simp), Same_T h0 h1 _ (by rw [toF_zero]; exact fi_zero)⟩
              · refine step_guardF 70 rfl rfl (by kernel_rfl) (fun _ _ h => h) (fun a' w' hb' hO hD => ?_)
                have h0 : a'.eval (.tmp 74) = .bool (true) := hD ⟨14, .data⟩ (by simp) rfl 74 rfl
                exact .inl ⟨.bool (false), _, by (generalize a'.eval = ev at *; simp [execOp, go_sem, h0]), rfl, Below.refl _ _⟩
              · refine step_plain rfl (fun a' w' hb' hO hD => ?_)
                have h0 : a'.eval (.tmp 70) = .bool (false) := hD ⟨10, .data⟩ (by simp) rfl 70 rfl
                have h1 : a'.eval (.tmp 75) = .bool (false) := hD ⟨15, .data⟩ (by simp) rfl 75 rfl
                exact .inl ⟨.bool (false), _, by (generalize a'.eval = ev at *; simp [execOp, go_sem, h0, h1]), rfl, Below.refl _ _⟩
            · intro gs w11 hb5 hV
              replace BX0 := BX0.old hb5
              replace BX1 := BX1.old hb5
              replace BX2 := BX2.old hb5
              replace BY13 := BY13.old hb5
              replace HB : Below w.heap.size w w11 := HB.trans (hb5.mono HB.size)
              have h76 := hV 16 (by omega) 76 rfl
              simp only [List.map_cons, List.map_nil, puts, Act.put, List.setIfInBounds_toArray, List.set_cons_zero, List.set_cons_succ]
              rw [show gs 76 = .bool false from h76]
              clear hV hb5 h76
              show Exit.then _ _ .normal _ _
              go_wp2_with fail
              simp only [List.append_eq, List.cons_append, List.nil_append]
              refine region_any 66 (fun i _ v => lwS11 xs ys zs i v) (by kernel_rfl) (by kernel_rfl) (by kernel_rfl) (fun _ _ _ _ h _ => h) (steps_all ?_) ?_
              · simp only [List.take_succ_cons, List.take_zero, StepsFrom]
                refine ⟨?_, ?_, ?_, ?_, ?_, ?_, ?_, ?_, ?_, ?_, ?_, ?_, ?_, ?_, ?_, ?_, ?_, ?_, ?_, ?_, ?_, ?_, ?_, ?_, ?_, ?_, ?_, ?_, ?_, ?_, ?_, ?_, ?_, ?_, ?_, ?_, ?_, ?_, ?_, ?_, ?_, ?_, ?_, ?_, ?_, ?_, ?_, ?_, ?_, ?_, ?_, ?_, ?_, ?_, ?_, ?_, ?_, ?_, ?_, ?_, ?_, ?_, ?_, ?_, ?_, ?_, trivial⟩
                · refine step_plain rfl (fun a' w' hb' hO hD => ?_)
                  exact .inl ⟨_, _, exec_load_elem rfl ((hO 7 (by decide)).trans rfl) (hb'.blk (cur := #[.int .u64 p0, .int .u64 p1, .int .u64 p2, .int .u64 p3, .int .u64 p4]) (BX0) (BX0.lt)), ⟨_, _, _, _, _, rfl, hE0⟩, Below.refl _ _⟩
                · refine step_plain rfl (fun a' w' hb' hO hD => ?_)
                  exact .inl ⟨_, _, exec_load_elem rfl ((hO 9 (by decide)).trans rfl) (hb'.blk (cur := #[.int .u64 q0, .int .u64 q1, .int .u64 q2, .int .u64 q3, .int .u64 q4]) (BX1) (BX1.lt)), ⟨_, _, _, _, _, rfl, hE1⟩, Below.refl _ _⟩
                · refine step_plain rfl (fun a' w' hb' hO hD => ?_)
                  have h0 : ElV (num2 xs) (a'.eval (.tmp 77)) := hD ⟨0, .data⟩ (by simp) rfl 77 rfl
                  have h1 : ElV (num2 ys) (a'.eval (.tmp 78)) := hD ⟨1, .data⟩ (by simp) rfl 78 rfl
                  exact .inr ⟨_, #[a'.eval (.tmp 77), a'.eval (.tmp 78)], exec_call Try.func17 (by kernel_rfl) (by kernel_rfl) _ rfl _ _ (by simp), Add_V h0 h1 _⟩
                · refine step_plain rfl (fun a' w' hb' hO hD => ?_)
                  exact .inl ⟨_, _, exec_load_elem rfl ((hO 9 (by decide)).trans rfl) (hb'.blk (cur := #[.int .u64 q0, .int .u64 q1, .int .u64 q2, .int .u64 q3, .int .u64 q4]) (BX1) (BX1.lt)), ⟨_, _, _, _, _, rfl, hE1⟩, Below.refl _ _⟩
                · refine step_plain rfl (fun a' w' hb' hO hD => ?_)
                  exact .inl ⟨_, _, exec_load_elem rfl ((hO 7 (by decide)).trans rfl) (hb'.blk (cur := #[.int .u64 p0, .int .u64 p1, .int .u64 p2, .int .u64 p3, .int .u64 p4]) (BX0) (BX0.lt)), ⟨_, _, _, _, _, rfl, hE0⟩, Below.refl _ _⟩
                · refine step_plain rfl (fun a' w' hb' hO hD => ?_)
                  have h0 : ElV (num2 ys) (a'.eval (.tmp 80)) := hD ⟨3, .data⟩ (by simp) rfl 80 rfl
                  have h1 : ElV (num2 xs) (a'.eval (.tmp 81)) := hD ⟨4, .data⟩ (by simp) rfl 81 rfl
                  exact .inr ⟨_, #[a'.eval (.tmp 80), a'.eval (.tmp 81)], exec_call Try.func17 (by kernel_rfl) (by kernel_rfl) _ rfl _ _ (by simp), Add_V h0 h1 _⟩
                · refine step_plain rfl (fun a' w' hb' hO hD => ?_)
                  have h0 : ElV ((num2 xs) + (num2 ys)) (a'.eval (.tmp 79)) := hD ⟨2, .data⟩ (by simp) rfl 79 rfl
                  have h1 : ElV ((num2 ys) + (num2 xs)) (a'.eval (.tmp 82)) := hD ⟨5, .data⟩ (by simp) rfl 82 rfl
                  exact .inr ⟨_, #[a'.eval (.tmp 79), a'.eval (.tmp 82)], exec_call Try.func16 (by kernel_rfl) (by kernel_rfl) _ rfl _ _ (by simp), Same_T h0 h1 _ (by grind)⟩
                · refine step_plain rfl (fun a' w' hb' hO hD => ?_)
                  have h0 : a'.eval (.tmp 83) = .bool (true) := hD ⟨6, .data⟩ (by simp) rfl 83 rfl
                  exact .inl ⟨a'.eval (.tmp 83), _, rfl, h0, Below.refl _ _⟩
                · refine step_guard 84 rfl rfl (by kernel_rfl) (fun _ _ h => h) (fun a' w' hb' hO hD => ?_)
                  exact .inl ⟨_, _, exec_load_elem rfl ((hO 7 (by decide)).trans rfl) (hb'.blk (cur := #[.int .u64 p0, .int .u64 p1, .int .u64 p2, .int .u64 p3, .int .u64 p4]) (BX0) (BX0.lt)), ⟨_, _, _, _, _, rfl, hE0⟩, Below.refl _ _⟩
                · refine step_guard 84 rfl rfl (by kernel_rfl) (fun _ _ h => h) (fun a' w' hb' hO hD => ?_)
                  exact .inl ⟨_, _, exec_load_elem rfl ((hO 9 (by decide)).trans rfl) (hb'.blk (cur := #[.int .u64 q0, .int .u64 q1, .int .u64 q2, .int .u64 q3, .int .u64 q4]) (BX1) (BX1.lt)), ⟨_, _, _, _, _, rfl, hE1⟩, Below.refl _ _⟩
                · refine step_guard 84 rfl rfl (by kernel_rfl) (fun _ _ h => h) (fun a' w' hb' hO hD => ?_)
                  have h0 : ElV (num2 xs) (a'.eval (.tmp 85)) := hD ⟨8, .data⟩ (by simp) rfl 85 rfl
                  have h1 : ElV (num2 ys) (a'.eval (.tmp 86)) := hD ⟨9, .data⟩ (by simp) rfl 86 rfl
                  exact .inr ⟨_, #[a'.eval (.tmp 85), a'.eval (.tmp 86)], exec_call Try.func18 (by kernel_rfl) (by kernel_rfl) _ rfl _ _ (by simp), Mul_V h0 h1 _⟩
                · refine step_guard 84 rfl rfl (by kernel_rfl) (fun _ _ h => h) (fun a' w' hb' hO hD => ?_)
                  exact .inl ⟨_, _, exec_load_elem rfl ((hO 9 (by decide)).trans rfl) (hb'.blk (cur := #[.int .u64 q0, .int .u64 q1, .int .u64 q2, .int .u64 q3, .int .u64 q4]) (BX1) (BX1.lt)), ⟨_, _, _, _, _, rfl, hE1⟩, Below.refl _ _⟩
                · refine step_guard 84 rfl rfl (by kernel_rfl) (fun _ _ h => h) (fun a' w' hb' hO hD => ?_)
                  exact .inl ⟨_, _, exec_load_elem rfl ((hO 7 (by decide)).trans rfl) (hb'.blk (cur := #[.int .u64 p0, .int .u64 p1, .int .u64 p2, .int .u64 p3, .int .u64 p4]) (BX0) (BX0.lt)), ⟨_, _, _, _, _, rfl, hE0⟩, Below.refl _ _⟩
                · refine step_guard 84 rfl rfl (by kernel_rfl) (fun _ _ h => h) (fun a' w' hb' hO hD => ?_)
                  have h0 : ElV (num2 ys) (a'.eval (.tmp 88)) := hD ⟨11, .data⟩ (by simp) rfl 88 rfl
                  have h1 : ElV (num2 xs) (a'.eval (.tmp 89)) := hD ⟨12, .data⟩ (by simp) rfl 89 rfl
                  exact .inr ⟨_, #[a'.eval (.tmp 88), a'.eval (.tmp 89)], exec_call Try.func18 (by kernel_rfl) (by kernel_rfl) _ rfl _ _ (by simp), Mul_V h0 h1 _⟩
                · refine step_guard 84 rfl rfl (by kernel_rfl) (fun _ _ h => h) (fun a' w' hb' hO hD => ?_)
                  have h0 : ElV ((num2 xs) * (num2 ys)) (a'.eval (.tmp 87)) := hD ⟨10, .data⟩ (by simp) rfl 87 rfl
                  have h1 : ElV ((num2 ys) * (num2 xs)) (a'.eval (.tmp 90)) := hD ⟨13, .data⟩ (by simp) rfl 90 rfl
                  exact .inr ⟨_, #[a'.eval (.tmp 87), a'.eval (.tmp 90)], exec_call Try.func16 (by kernel_rfl) (by kernel_rfl) _ rfl _ _ (by simp), Same_T h0 h1 _ (by grind)⟩
                · refine step_plain rfl (fun a' w' hb' hO hD => ?_)
                  have h0 : a'.eval (.tmp 84) = .bool (true) := hD ⟨7, .data⟩ (by simp) rfl 84 rfl
                  have h1 : a'.eval (.tmp 91) = .bool (true) := hD ⟨14, .data⟩ (by simp) rfl 91 rfl
                  exact .inl ⟨.bool (true), _, by (generalize a'.eval = ev at *; simp [execOp, go_sem, h0, h1]), rfl, Below.refl _ _⟩
                · refine step_plain rfl (fun a' w' hb' hO hD => ?_)
                  have h0 : a'.eval (.tmp 92) = .bool (true) := hD ⟨15, .data⟩ (by simp) rfl 92 rfl
                  exact .inl ⟨a'.eval (.tmp 92), _, rfl, h0, Below.refl _ _⟩
                · refine step_guard 93 rfl rfl (by kernel_rfl) (fun _ _ h => h) (fun a' w' hb' hO hD => ?_)
                  exact .inl ⟨_, _, exec_load_elem rfl ((hO 7 (by decide)).trans rfl) (hb'.blk (cur := #[.int .u64 p0, .int .u64 p1, .int .u64 p2, .int .u64 p3, .int .u64 p4]) (BX0) (BX0.lt)), ⟨_, _, _, _, _, rfl, hE0⟩, Below.refl _ _⟩
                · refine step_guard 93 rfl rfl (by kernel_rfl) (fun _ _ h => h) (fun a' w' hb' hO hD => ?_)
                  exact .inl ⟨_, _, exec_load_elem rfl ((hO 9 (by decide)).trans rfl) (hb'.blk (cur := #[.int .u64 q0, .int .u64 q1, .int .u64 q2, .int .u64 q3, .int .u64 q4]) (BX1) (BX1.lt)), ⟨_, _, _, _, _, rfl, hE1⟩, Below.refl _ _⟩
                · refine step_guard 93 rfl rfl (by kernel_rfl) (fun _ _ h => h) (fun a' w' hb' hO hD => ?_)
                  exact .inl ⟨_, _, exec_load_elem rfl ((hO 11 (by decide)).trans rfl) (hb'.blk (cur := #[.int .u64 r0, .int .u64 r1, .int .u64 r2, .int .u64 r3, .int .u64 r4]) (BX2) (BX2.lt)), ⟨_, _, _, _, _, rfl, hE2⟩, Below.refl _ _⟩
                · refine step_guard 93 rfl rfl (by kernel_rfl) (fun _ _ h => h) (fun a' w' hb' hO hD => ?_)
                  have h0 : ElV (num2 ys) (a'.eval (.tmp 95)) := hD ⟨18, .data⟩ (by simp) rfl 95 rfl
                  have h1 : ElV (num2 zs) (a'.eval (.tmp 96)) := hD ⟨19, .data⟩ (by simp) rfl 96 rfl
                  exact .inr ⟨_, #[a'.eval (.tmp 95), a'.eval (.tmp 96)], exec_call Try.func18 (by kernel_rfl) (by kernel_rfl) _ rfl _ _ (by simp), Mul_V h0 h1 _⟩
                · refine step_guard 93 rfl rfl (by kernel_rfl) (fun _ _ h => h) (fun a' w' hb' hO hD => ?_)
                  have h0 : ElV (num2 xs) (a'.eval (.tmp 94)) := hD ⟨17, .data⟩ (by simp) rfl 94 rfl
                  have h1 : ElV ((num2 ys) * (num2 zs)) (a'.eval (.tmp 97)) := hD ⟨20, .data⟩ (by simp) rfl 97 rfl
                  exact .inr ⟨_, #[a'.eval (.tmp 94), a'.eval (.tmp 97)], exec_call Try.func18 (by kernel_rfl) (by kernel_rfl) _ rfl _ _ (by simp), Mul_V h0 h1 _⟩
                · refine step_guard 93 rfl rfl (by kernel_rfl) (fun _ _ h => h) (fun a' w' hb' hO hD => ?_)
                  exact .inl ⟨_, _, exec_load_elem rfl ((hO 7 (by decide)).trans rfl) (hb'.blk (cur := #[.int .u64 p0, .int .u64 p1, .int .u64 p2, .int .u64 p3, .int .u64 p4]) (BX0) (BX0.lt)), ⟨_, _, _, _, _, rfl, hE0⟩, Below.refl _ _⟩
                · refine step_guard 93 rfl rfl (by kernel_rfl) (fun _ _ h => h) (fun a' w' hb' hO hD => ?_)
                  exact .inl ⟨_, _, exec_load_elem rfl ((hO 9 (by decide)).trans rfl) (hb'.blk (cur := #[.int .u64 q0, .int .u64 q1, .int .u64 q2, .int .u64 q3, .int .u64 q4]) (BX1) (BX1.lt)), ⟨_, _, _, _, _, rfl, hE1⟩, Below.refl _ _⟩
                · refine step_guard 93 rfl rfl (by kernel_rfl) (fun _ _ h => h) (fun a' w' hb' hO hD => ?_)
                  have h0 : ElV (num2 xs) (a'.eval (.tmp 99)) := hD ⟨22, .data⟩ (by simp) rfl 99 rfl
                  have h1 : ElV (num2 ys) (a'.eval (.tmp 100)) := hD ⟨23, .data⟩ (by simp) rfl 100 rfl
                  exact .inr ⟨_, #[a'.eval (.tmp 99), a'.eval (.tmp 100)], exec_call Try.func18 (by kernel_rfl) (by kernel_rfl) _ rfl _ _ (by simp), Mul_V h0 h1 _⟩
                · refine step_guard 93 rfl rfl (by kernel_rfl) (fun _ _ h => h) (fun a' w' hb' hO hD => ?_)
                  exact .inl ⟨_, _, exec_load_elem rfl ((hO 11 (by decide)).trans rfl) (hb'.blk (cur := #[.int .u64 r0, .int .u64 r1, .int .u64 r2, .int .u64 r3, .int .u64 r4]) (BX2) (BX2.lt)), ⟨_, _, _, _, _, rfl, hE2⟩, Below.refl _ _⟩
                · refine step_guard 93 rfl rfl (by kernel_rfl) (fun _ _ h => h) (fun a' w' hb' hO hD => ?_)
                  have h0 : ElV ((num2 xs) * (num2 ys)) (a'.eval (.tmp 101)) := hD ⟨24, .data⟩ (by simp) rfl 101 rfl
                  have h1 : ElV (num2 zs) (a'.eval (.tmp 102)) := hD ⟨25, .data⟩ (by simp) rfl 102 rfl
                  exact .inr ⟨_, #[a'.eval (.tmp 101), a'.eval (.tmp 102)], exec_call Try.func18 (by kernel_rfl) (by kernel_rfl) _ rfl _ _ (by simp), Mul_V h0 h1 _⟩
                · refine step_guard 93 rfl rfl (by kernel_rfl) (fun _ _ h => h) (fun a' w' hb' hO hD => ?_)
                  have h0 : ElV ((num2 xs) * ((num2 ys) * (num2 zs))) (a'.eval (.tmp 98)) := hD ⟨21, .data⟩ (by simp) rfl 98 rfl
                  have h1 : ElV (((num2 xs) * (num2 ys)) * (num2 zs)) (a'.eval (.tmp 103)) := hD ⟨26, .data⟩ (by simp) rfl 103 rfl
                  exact .inr ⟨_, #[a'.eval (.tmp 98), a'.eval (.tmp 103)], exec_call Try.func16 (by kernel_rfl) (by kernel_rfl) _ rfl _ _ (by simp), Same_T h0 h1 _ (by grind)⟩
                · refine step_plain rfl (fun a' w' hb' hO hD => ?_)
                  have h0 : a'.eval (.tmp 93) = .bool (true) := hD ⟨16, .data⟩ (by simp) rfl 93 rfl
                  have h1 : a'.eval (.tmp 104) = .bool (true) := hD ⟨27, .data⟩ (by simp) rfl 104 rfl
                  exact .inl ⟨.bool (true), _, by (generalize a'.eval = ev at *; simp [execOp, go_sem, h0, h1]), rfl, Below.refl _ _⟩
                · refine step_plain rfl (fun a' w' hb' hO hD => ?_)
                  have h0 : a'.eval (.tmp 105) = .bool (true) := hD ⟨28, .data⟩ (by simp) rfl 105 rfl
                  exact .inl ⟨a'.eval (.tmp 105), _, rfl, h0, Below.refl _ _⟩
                · refine step_guard 106 rfl rfl (by kernel_rfl) (fun _ _ h => h) (fun a' w' hb' hO hD => ?_)
                  exact .inl ⟨_, _, exec_load_elem rfl ((hO 7 (by decide)).trans rfl) (hb'.blk (cur := #[.int .u64 p0, .int .u64 p1, .int .u64 p2, .int .u64 p3, .int .u64 p4]) (BX0) (BX0.lt)), ⟨_, _, _, _, _, rfl, hE0⟩, Below.refl _ _⟩
                · refine step_guard 106 rfl rfl (by kernel_rfl) (fun _ _ h => h) (fun a' w' hb' hO hD => ?_)
                  exact .inl ⟨_, _, exec_load_elem rfl ((hO 9 (by decide)).trans rfl) (hb'.blk (cur := #[.int .u64 q0, .int .u64 q1, .int .u64 q2, .int .u64 q3, .int .u64 q4]) (BX1) (BX1.lt)), ⟨_, _, _, _, _, rfl, hE1⟩, Below.refl _ _⟩
                · refine step_guard 106 rfl rfl (by kernel_rfl) (fun _ _ h => h) (fun a' w' hb' hO hD => ?_)
                  exact .inl ⟨_, _, exec_load_elem rfl ((hO 11 (by decide)).trans rfl) (hb'.blk (cur := #[.int .u64 r0, .int .u64 r1, .int .u64 r2, .int .u64 r3, .int .u64 r4]) (BX2) (BX2.lt)), ⟨_, _, _, _, _, rfl, hE2⟩, Below.refl _ _⟩
                · refine step_guard 106 rfl rfl (by kernel_rfl) (fun _ _ h => h) (fun a' w' hb' hO hD => ?_)
                  have h0 : ElV (num2 ys) (a'.eval (.tmp 108)) := hD ⟨31, .data⟩ (by simp) rfl 108 rfl
                  have h1 : ElV (num2 zs) (a'.eval (.tmp 109)) := hD ⟨32, .data⟩ (by simp) rfl 109 rfl
                  exact .inr ⟨_, #[a'.eval (.tmp 108), a'.eval (.tmp 109)], exec_call Try.func17 (by kernel_rfl) (by kernel_rfl) _ rfl _ _ (by simp), Add_V h0 h1 _⟩
                · refine step_guard 106 rfl rfl (by kernel_rfl) (fun _ _ h => h) (fun a' w' hb' hO hD => ?_)
                  have h0 : ElV (num2 xs) (a'.eval (.tmp 107)) := hD ⟨30, .data⟩ (by simp) rfl 107 rfl
                  have h1 : ElV ((num2 ys) + (num2 zs)) (a'.eval (.tmp 110)) := hD ⟨33, .data⟩ (by simp) rfl 110 rfl
                  exact .inr ⟨_, #[a'.eval (.tmp 107), a'.eval (.tmp 110)], exec_call Try.func18 (by kernel_rfl) (by kernel_rfl) _ rfl _ _ (by simp), Mul_V h0 h1 _⟩
                · refine step_guard 106 rfl rfl (by kernel_rfl) (fun _ _ h => h) (fun a' w' hb' hO hD => ?_)
                  exact .inl ⟨_, _, exec_load_elem rfl ((hO 7 (by decide)).trans rfl) (hb'.blk (cur := #[.int .u64 p0, .int .u64 p1, .int .u64 p2, .int .u64 p3, .int .u64 p4]) (BX0) (BX0.lt)), ⟨_, _, _, _, _, rfl, hE0⟩, Below.refl _ _⟩
                · refine step_guard 106 rfl rfl (by kernel_rfl) (fun _ _ h => h) (fun a' w' hb' hO hD => ?_)
                  exact .inl ⟨_, _, exec_load_elem rfl ((hO 9 (by decide)).trans rfl) (hb'.blk (cur := #[.int .u64 q0, .int .u64 q1, .int .u64 q2, .int .u64 q3, .int .u64 q4]) (BX1) (BX1.lt)), ⟨_, _, _, _, _, rfl, hE1⟩, Below.refl _ _⟩
                · refine step_guard 106 rfl rfl (by kernel_rfl) (fun _ _ h => h) (fun a' w' hb' hO hD => ?_)
                  have h0 : ElV (num2 xs) (a'.eval (.tmp 112)) := hD ⟨35, .data⟩ (by simp) rfl 112 rfl
                  have h1 : ElV (num2 ys) (a'.eval (.tmp 113)) := hD ⟨36, .data⟩ (by simp) rfl 113 rfl
                  exact .inr ⟨_, #[a'.eval (.tmp 112), a'.eval (.tmp 113)], exec_call Try.func18 (by kernel_rfl) (by kernel_rfl) _ rfl _ _ (by simp), Mul_V h0 h1 _⟩
                · refine step_guard 106 rfl rfl (by kernel_rfl) (fun _ _ h => h) (fun a' w' hb' hO hD => ?_)
                  exact .inl ⟨_, _, exec_load_elem rfl ((hO 7 (by decide)).trans rfl) (hb'.blk (cur := #[.int .u64 p0, .int .u64 p1, .int .u64 p2, .int .u64 p3, .int .u64 p4]) (BX0) (BX0.lt)), ⟨_, _, _, _, _, rfl, hE0⟩, Below.refl _ _⟩
                · refine step_guard 106 rfl rfl (by kernel_rfl) (fun _ _ h => h) (fun a' w' hb' hO hD => ?_)
                  exact .inl ⟨_, _, exec_load_elem rfl ((hO 11 (by decide)).trans rfl) (hb'.blk (cur := #[.int .u64 r0, .int .u64 r1, .int .u64 r2, .int .u64 r3, .int .u64 r4]) (BX2) (BX2.lt)), ⟨_, _, _, _, _, rfl, hE2⟩, Below.refl _ _⟩
                · refine step_guard 106 rfl rfl (by kernel_rfl) (fun _ _ h => h) (fun a' w' hb' hO hD => ?_)
                  have h0 : ElV (num2 xs) (a'.eval (.tmp 115)) := hD ⟨38, .data⟩ (by simp) rfl 115 rfl
                  have h1 : ElV (num2 zs) (a'.eval (.tmp 116)) := hD ⟨39, .data⟩ (by simp) rfl 116 rfl
                  exact .inr ⟨_, #[a'.eval (.tmp 115), a'.eval (.tmp 116)], exec_call Try.func18 (by kernel_rfl) (by kernel_rfl) _ rfl _ _ (by simp), Mul_V h0 h1 _⟩
                · refine step_guard 106 rfl rfl (by kernel_rfl) (fun _ _ h => h) (fun a' w' hb' hO hD => ?_)
                  have h0 : ElV ((num2 xs) * (num2 ys)) (a'.eval (.tmp 114)) := hD ⟨37, .data⟩ (by simp) rfl 114 rfl
                  have h1 : ElV ((num2 xs) * (num2 zs)) (a'.eval (.tmp 117)) := hD ⟨40, .data⟩ (by simp) rfl 117 rfl
                  exact .inr ⟨_, #[a'.eval (.tmp 114), a'.eval (.tmp 117)], exec_call Try.func17 (by kernel_rfl) (by kernel_rfl) _ rfl _ _ (by simp), Add_V h0 h1 _⟩
                · refine step_guard 106 rfl rfl (by kernel_rfl) (fun _ _ h => h) (fun a' w' hb' hO hD => ?_)
                  have h0 : ElV ((num2 xs) * ((num2 ys) + (num2 zs))) (a'.eval (.tmp 111)) := hD ⟨34, .data⟩ (by simp) rfl 111 rfl
                  have h1 : ElV (((num2 xs) * (num2 ys)) + ((num2 xs) * (num2 zs))) (a'.eval (.tmp 118)) := hD ⟨41, .data⟩ (by simp) rfl 118 rfl
                  exact .inr ⟨_, #[a'.eval (.tmp 111), a'.eval (.tmp 118)], exec_call Try.func16 (by kernel_rfl) (by kernel_rfl) _ rfl _ _ (by simp), Same_T h0 h1 _ (by grind)⟩
                · refine step_plain rfl (fun a' w' hb' hO hD => ?_)
                  have h0 : a'.eval (.tmp 106) = .bool (true) := hD ⟨29, .data⟩ (by simp) rfl 106 rfl
                  have h1 : a'.eval (.tmp 119) = .bool (true) := hD ⟨42, .data⟩ (by simp) rfl 119 rfl
                  exact .inl ⟨.bool (true), _, by (generalize a'.eval = ev at *; simp [execOp, go_sem, h0, h1]), rfl, Below.refl _ _⟩
                · refine step_plain rfl (fun a' w' hb' hO hD => ?_)
                  have h0 : a'.eval (.tmp 120) = .bool (true) := hD ⟨43, .data⟩ (by simp) rfl 120 rfl
                  exact .inl ⟨a'.eval (.tmp 120), _, rfl, h0, Below.refl _ _⟩
                · refine step_guard 121 rfl rfl (by kernel_rfl) (fun _ _ h => h) (fun a' w' hb' hO hD => ?_)
                  exact .inl ⟨_, _, exec_load_elem rfl ((hO 7 (by decide)).trans rfl) (hb'.blk (cur := #[.int .u64 p0, .int .u64 p1, .int .u64 p2, .int .u64 p3, .int .u64 p4]) (BX0) (BX0.lt)), ⟨_, _, _, _, _, rfl, hE0⟩, Below.refl _ _⟩
                · refine step_guard 121 rfl rfl (by kernel_rfl) (fun _ _ h => h) (fun a' w' hb' hO hD => ?_)
                  exact .inl ⟨_, _, exec_load_elem rfl ((hO 9 (by decide)).trans rfl) (hb'.blk (cur := #[.int .u64 q0, .int .u64 q1, .int .u64 q2, .int .u64 q3, .int .u64 q4]) (BX1) (BX1.lt)), ⟨_, _, _, _, _, rfl, hE1⟩, Below.refl _ _⟩
                · refine step_guard 121 rfl rfl (by kernel_rfl) (fun _ _ h => h) (fun a' w' hb' hO hD => ?_)
                  have h0 : ElV (num2 xs) (a'.eval (.tmp 122)) := hD ⟨45, .data⟩ (by simp) rfl 122 rfl
                  have h1 : ElV (num2 ys) (a'.eval (.tmp 123)) := hD ⟨46, .data⟩ (by simp) rfl 123 rfl
                  exact .inr ⟨_, #[a'.eval (.tmp 122), a'.eval (.tmp 123)], exec_call Try.func17 (by kernel_rfl) (by kernel_rfl) _ rfl _ _ (by simp), Add_V h0 h1 _⟩
                · refine step_guard 121 rfl rfl (by kernel_rfl) (fun _ _ h => h) (fun a' w' hb' hO hD => ?_)
                  exact .inl ⟨_, _, exec_load_elem rfl ((hO 9 (by decide)).trans rfl) (hb'.blk (cur := #[.int .u64 q0, .int .u64 q1, .int .u64 q2, .int .u64 q3, .int .u64 q4]) (BX1) (BX1.lt)), ⟨_, _, _, _, _, rfl, hE1⟩, Below.refl _ _⟩
                · refine step_guard 121 rfl rfl (by kernel_rfl) (fun _ _ h => h) (fun a' w' hb' hO hD => ?_)
                  have h0 : ElV ((num2 xs) + (num2 ys)) (a'.eval (.tmp 124)) := hD ⟨47, .data⟩ (by simp) rfl 124 rfl
                  have h1 : ElV (num2 ys) (a'.eval (.tmp 125)) := hD ⟨48, .data⟩ (by simp) rfl 125 rfl
                  exact .inr ⟨_, #[a'.eval (.tmp 124), a'.eval (.tmp 125)], exec_call Try.func19 (by kernel_rfl) (by kernel_rfl) _ rfl _ _ (by simp), Sub_V h0 h1 _⟩
                · refine step_guard 121 rfl rfl (by kernel_rfl) (fun _ _ h => h) (fun a' w' hb' hO hD => ?_)
                  exact .inl ⟨_, _, exec_load_elem rfl ((hO 7 (by decide)).trans rfl) (hb'.blk (cur := #[.int .u64 p0, .int .u64 p1, .int .u64 p2, .int .u64 p3, .int .u64 p4]) (BX0) (BX0.lt)), ⟨_, _, _, _, _, rfl, hE0⟩, Below.refl _ _⟩
                · refine step_guard 121 rfl rfl (by kernel_rfl) (fun _ _ h => h) (fun a' w' hb' hO hD => ?_)
                  have h0 : ElV (((num2 xs) + (num2 ys)) - (num2 ys)) (a'.eval (.tmp 126)) := hD ⟨49, .data⟩ (by simp) rfl 126 rfl
                  have h1 : ElV (num2 xs) (a'.eval (.tmp 127)) := hD ⟨50, .data⟩ (by simp) rfl 127 rfl
                  exact .inr ⟨_, #[a'.eval (.tmp 126), a'.eval (.tmp 127)], exec_call Try.func16 (by kernel_rfl) (by kernel_rfl) _ rfl _ _ (by simp), Same_T h0 h1 _ (by grind)⟩
                · refine step_plain rfl (fun a' w' hb' hO hD => ?_)
                  have h0 : a'.eval (.tmp 121) = .bool (true) := hD ⟨44, .data⟩ (by simp) rfl 121 rfl
                  have h1 : a'.eval (.tmp 128) = .bool (true) := hD ⟨51, .data⟩ (by simp) rfl 128 rfl
                  exact .inl ⟨.bool (true), _, by (generalize a'.eval = ev at *; simp [execOp, go_sem, h0, h1]), rfl, Below.refl _ _⟩
                · refine step_plain rfl (fun a' w' hb' hO hD => ?_)
                  have h0 : a'.eval (.tmp 129) = .bool (true) := hD ⟨52, .data⟩ (by simp) rfl 129 rfl
                  exact .inl ⟨a'.eval (.tmp 129), _, rfl, h0, Below.refl _ _⟩
                · refine step_guard 130 rfl rfl (by kernel_rfl) (fun _ _ h => h) (fun a' w' hb' hO hD => ?_)
                  exact .inl ⟨_, _, exec_load_elem rfl ((hO 7 (by decide)).trans rfl) (hb'.blk (cur := #[.int .u64 p0, .int .u64 p1, .int .u64 p2, .int .u64 p3, .int .u64 p4]) (BX0) (BX0.lt)), ⟨_, _, _, _, _, rfl, hE0⟩, Below.refl _ _⟩
                · refine step_guard 130 rfl rfl (by kernel_rfl) (fun _ _ h => h) (fun a' w' hb' hO hD => ?_)
                  exact .inl ⟨_, _, exec_load_elem rfl ((hO 9 (by decide)).trans rfl) (hb'.blk (cur := #[.int .u64 q0, .int .u64 q1, .int .u64 q2, .int .u64 q3, .int .u64 q4]) (BX1) (BX1.lt)), ⟨_, _, _, _, _, rfl, hE1⟩, Below.refl _ _⟩
                · refine step_guard 130 rfl rfl (by kernel_rfl) (fun _ _ h => h) (fun a' w' hb' hO hD => ?_)
                  have h0 : ElV (num2 xs) (a'.eval (.tmp 131)) := hD ⟨54, .data⟩ (by simp) rfl 131 rfl
                  have h1 : ElV (num2 ys) (a'.eval (.tmp 132)) := hD ⟨55, .data⟩ (by simp) rfl 132 rfl
                  exact .inr ⟨_, #[a'.eval (.tmp 131), a'.eval (.tmp 132)], exec_call Try.func19 (by kernel_rfl) (by kernel_rfl) _ rfl _ _ (by simp), Sub_V h0 h1 _⟩
                · refine step_guard 130 rfl rfl (by kernel_rfl) (fun _ _ h => h) (fun a' w' hb' hO hD => ?_)
                  exact .inl ⟨_, _, exec_load_elem rfl ((hO 9 (by decide)).trans rfl) (hb'.blk (cur := #[.int .u64 q0, .int .u64 q1, .int .u64 q2, .int .u64 q3, .int .u64 q4]) (BX1) (BX1.lt)), ⟨_, _, _, _, _, rfl, hE1⟩, Below.refl _ _⟩
                · refine step_guard 130 rfl rfl (by kernel_rfl) (fun _ _ h => h) (fun a' w' hb' hO hD => ?_)
                  have h0 : ElV ((num2 xs) - (num2 ys)) (a'.eval (.tmp 133)) := hD ⟨56, .data⟩ (by simp) rfl 133 rfl
                  have h1 : ElV (num2 ys) (a'.eval (.tmp 134)) := hD ⟨57, .data⟩ (by simp) rfl 134 rfl
                  exact .inr ⟨_, #[a'.eval (.tmp 133), a'.eval (.tmp 134)], exec_call Try.func17 (by kernel_rfl) (by kernel_rfl) _ rfl _ _ (by simp), Add_V h0 h1 _⟩
                · refine step_guard 130 rfl rfl (by kernel_rfl) (fun _ _ h => h) (fun a' w' hb' hO hD => ?_)
                  exact .inl ⟨_, _, exec_load_elem rfl ((hO 7 (by decide)).trans rfl) (hb'.blk (cur := #[.int .u64 p0, .int .u64 p1, .int .u64 p2, .int .u64 p3, .int .u64 p4]) (BX0) (BX0.lt)), ⟨_, _, _, _, _, rfl, hE0⟩, Below.refl _ _⟩
                · refine step_guard 130 rfl rfl (by kernel_rfl) (fun _ _ h => h) (fun a' w' hb' hO hD => ?_)
                  have h0 : ElV (((num2 xs) - (num2 ys)) + (num2 ys)) (a'.eval (.tmp 135)) := hD ⟨58, .data⟩ (by simp) rfl 135 rfl
                  have h1 : ElV (num2 xs) (a'.eval (.tmp 136)) := hD ⟨59, .data⟩ (by simp) rfl 136 rfl
                  exact .inr ⟨_, #[a'.eval (.tmp 135), a'.eval (.tmp 136)], exec_call Try.func16 (by kernel_rfl) (by kernel_rfl) _ rfl _ _ (by simp), Same_T h0 h1 _ (by grind)⟩
                · refine step_plain rfl (fun a' w' hb' hO hD => ?_)
                  have h0 : a'.eval (.tmp 130) = .bool (true) := hD ⟨53, .data⟩ (by simp) rfl 130 rfl
                  have h1 : a'.eval (.tmp 137) = .bool (true) := hD ⟨60, .data⟩ (by simp) rfl 137 rfl
                  exact .inl ⟨.bool (true), _, by (generalize a'.eval = ev at *; simp [execOp, go_sem, h0, h1]), rfl, Below.refl _ _⟩
                · refine step_plain rfl (fun a' w' hb' hO hD => ?_)
                  have h0 : a'.eval (.tmp 138) = .bool (true) := hD ⟨61, .data⟩ (by simp) rfl 138 rfl
                  exact .inl ⟨a'.eval (.tmp 138), _, rfl, h0, Below.refl _ _⟩
                · refine step_guard 139 rfl rfl (by kernel_rfl) (fun _ _ h => h) (fun a' w' hb' hO hD => ?_)
                  exact .inr ⟨_, #[], exec_call Try.func20 (by kernel_rfl) (by kernel_rfl) _ rfl _ _ (by simp), awake5_V _⟩
                · refine step_plain rfl (fun a' w' hb' hO hD => ?_)
                  have h0 : a'.eval (.tmp 139) = .bool (true) := hD ⟨62, .data⟩ (by simp) rfl 139 rfl
                  have h1 : a'.eval (.tmp 140) = .bool (true) := hD ⟨63, .data⟩ (by simp) rfl 140 rfl
                  exact .inl ⟨.bool (true), _, by (generalize a'.eval = ev at *; simp [execOp, go_sem, h0, h1]), rfl, Below.refl _ _⟩
                · refine step_plain rfl (fun a' w' hb' hO hD => ?_)
                  have h0 : a'.eval (.tmp 141) = .bool (true) := hD ⟨64, .data⟩ (by simp) rfl 141 rfl
                  exact .inl ⟨a'.eval (.tmp 141), _, rfl, h0, Below.refl _ _⟩
              · intro a' w' hb' hsz hdf hO hV
                have h4 : a'.tmps.getD 6 undef = .bool true := hV 65 (by omega) 6 rfl
                have hdf' : a'.defers = [] := hdf
                have HB2 : Below w.heap.size w w' := HB.trans (hb'.mono HB.size)
                clear hO hV hb' hdf
                show Exit.then _ _ .normal _ _
                go_wp2_with fail
                exact bodyPost_ret (v := .bool true) (by simp only [Array.getD_eq_getD_getElem?] at h4; simp [results, Try.results9, go_sem, h4]) hdf' ⟨rfl, HB2⟩
          · skip
            refine region_any2 17 (fun i _ v => lwS9b xs ys zs i v) [60, 61, 62, 63, 64, 65, 66, 67, 68, 69, 70, 71, 72, 73, 74, 75, 76] (by kernel_rfl) (by kernel_rfl) (by kernel_rfl) (by kernel_rfl) (by kernel_rfl) (fun _ _ _ _ h _ => h) (steps_all ?_) ?_
            · simp only [List.take_succ_cons, List.take_zero, StepsFrom]
              refine ⟨?_, ?_, ?_, ?_, ?_, ?_, ?_, ?_, ?_, ?_, ?_, ?_, ?_, ?_, ?_, ?_, ?_, trivial⟩
              · refine step_plain rfl (fun a' w' hb' hO hD => ?_)
                exact .inl ⟨_, _, exec_load_elem rfl ((hO 13 (by decide)).trans rfl) (hb'.blk (cur := #[.int .u64 v13_0, .int .u64 v13_1, .int .u64 v13_2, .int .u64 v13_3, .int .u64 v13_4]) (BY13) (BY13.lt)), ⟨_, _, _, _, _, rfl, hY13⟩, Below.refl _ _⟩
              · refine step_plain rfl (fun a' w' hb' hO hD => ?_)
                exact .inr ⟨_, #[.int .u64 (1)], exec_call Try.func15 (by kernel_rfl) (by kernel_rfl) _ rfl _ _ (by simp [Act.eval]), Of_V _ _ (by omega) (by omega)⟩
              · refine step_plain rfl (fun a' w' hb' hO hD => ?_)
                have h0 : ElV ((num2 xs) * (fi (num2 xs))) (a'.eval (.tmp 60)) := hD ⟨0, .data⟩ (by simp) rfl 60 rfl
                have h1 : ElV (toF (1)) (a'.eval (.tmp 61)) := hD ⟨1, .data⟩ (by simp) rfl 61 rfl
                exact .inr ⟨_, #[a'.eval (.tmp 60), a'.eval (.tmp 61)], exec_call Try.func16 (by kernel_rfl) (by kernel_rfl) _ rfl _ _ (by simp), Same_T h0 h1 _ (by rw [toF_one]; exact fi_mul_self hz0)⟩
              · refine step_plain rfl (fun a' w' hb' hO hD => ?_)
                have h0 : a'.eval (.tmp 62) = .bool (true) := hD ⟨2, .data⟩ (by simp) rfl 62 rfl
                exact .inl ⟨.bool (false), _, by (generalize a'.eval = ev at *; simp [execOp, go_sem, h0]), rfl, Below.refl _ _⟩
              · refine step_plain rfl (fun a' w' hb' hO hD => ?_)
                have h0 : a'.eval (.tmp 63) = .bool (false) := hD ⟨3, .data⟩ (by simp) rfl 63 rfl
                exact .inl ⟨a'.eval (.tmp 63), _, rfl, h0, Below.refl _ _⟩
              · exact step_skip 64 rfl rfl (by kernel_rfl) (fun _ _ h => h) (fun _ => trivial)
              · exact step_skip 64 rfl rfl (by kernel_rfl) (fun _ _ h => h) (fun _ => trivial)
              · exact step_skip 64 rfl rfl (by kernel_rfl) (fun _ _ h => h) (fun _ => trivial)
              · exact step_skip 64 rfl rfl (by kernel_rfl) (fun _ _ h => h) (fun _ => trivial)
              · refine step_plain rfl (fun a' w' hb' hO hD => ?_)
                have h0 : a'.eval (.tmp 64) = .bool (false) := hD ⟨4, .data⟩ (by simp) rfl 64 rfl
                have hk : a'.eval (.const (Value.bool false)) = .bool false := rfl
                exact .inl ⟨.bool (false), _, by (generalize a'.eval = ev at *; simp [execOp, go_sem, h0, hk]), rfl, Below.refl _ _⟩
              · refine step_plain rfl (fun a' w' hb' hO hD => ?_)
                have h0 : a'.eval (.tmp 69) = .bool (false) := hD ⟨9, .data⟩ (by simp) rfl 69 rfl
                exact .inl ⟨a'.eval (.tmp 69), _, rfl, h0, Below.refl _ _⟩
              · refine step_guardF 70 rfl rfl (by kernel_rfl) (fun _ _ h => h) (fun a' w' hb' hO hD => ?_)
                exact .inr ⟨_, #[.int .u64 (0)], exec_call Try.func15 (by kernel_rfl) (by kernel_rfl) _ rfl _ _ (by simp [Act.eval]), Of_V _ _ (by omega) (by omega)⟩
              · refine step_guardF 70 rfl rfl (by kernel_rfl) (fun _ _ h => h) (fun a' w' hb' hO hD => ?_)
                have h0 : ElV (toF (0)) (a'.eval (.tmp 71)) := hD ⟨11, .data⟩ (by simp) rfl 71 rfl
                exact .inr ⟨_, #[a'.eval (.tmp 71)], exec_call Try.func24 (by kernel_rfl) (by kernel_rfl) _ rfl _ _ (by simp), Inv_V h0 _⟩
              · refine step_guardF 70 rfl rfl (by kernel_rfl) (fun _ _ h => h) (fun a' w' hb' hO hD => ?_)
                exact .inr ⟨_, #[.int .u64 (0)], exec_call Try.func15 (by kernel_rfl) (by kernel_rfl) _ rfl _ _ (by simp [Act.eval]), Of_V _ _ (by omega) (by omega)⟩
              · refine step_guardF 70 rfl rfl (by kernel_rfl) (fun _ _ h => h) (fun a' w' hb' hO hD => ?_)
                have h0 : ElV (fi (toF (0))) (a'.eval (.tmp 72)) := hD ⟨12, .data⟩ (by simp) rfl 72 rfl
                have h1 : ElV (toF (0)) (a'.eval (.tmp 73)) := hD ⟨13, .data⟩ (by simp) rfl 73 rfl
                exact .inr ⟨_, #[a'.eval (.tmp 72), a'.eval (.tmp 73)], exec_call Try.func16 (by kernel_rfl) (by kernel_rfl) _ rfl _ _ (by simp), Same_T h0 h1 _ (by rw [toF_zero]; exact fi_zero)⟩
              · refine step_guardF 70 rfl rfl (by kernel_rfl) (fun _ _ h => h) (fun a' w' hb' hO hD => ?_)
                have h0 : a'.eval (.tmp 74) = .bool (true) := hD ⟨14, .data⟩ (by simp) rfl 74 rfl
                exact .inl ⟨.bool (false), _, by (generalize a'.eval = ev at *; simp [execOp, go_sem, h0]), rfl, Below.refl _ _⟩
              · refine step_plain rfl (fun a' w' hb' hO hD => ?_)
                have h0 : a'.eval (.tmp 70) = .bool (false) := hD ⟨10, .data⟩ (by simp) rfl 70 rfl
                have h1 : a'.eval (.tmp 75) = .bool (false) := hD ⟨15, .data⟩ (by simp) rfl 75 rfl
                exact .inl ⟨.bool (false), _, by (generalize a'.eval = ev at *; simp [execOp, go_sem, h0, h1]), rfl, Below.refl _ _⟩
            · intro gs w11 hb5 hV
              replace BX0 := BX0.old hb5
              replace BX1 := BX1.old hb5
              replace BX2 := BX2.old hb5
              replace BY13 := BY13.old hb5
              replace HB : Below w.heap.size w w11 := HB.trans (hb5.mono HB.size)
              have h76 := hV 16 (by omega) 76 rfl
              simp only [List.map_cons, List.map_nil, puts, Act.put, List.setIfInBounds_toArray, List.set_cons_zero, List.set_cons_succ]
              rw [show gs 76 = .bool false from h76]
              clear hV hb5 h76
              show Exit.then _ _ .normal _ _
              go_wp2_with fail
              simp only [List.append_eq, List.cons_append, List.nil_append]
              refine region_any 66 (fun i _ v => lwS11 xs ys zs i v) (by kernel_rfl) (by kernel_rfl) (by kernel_rfl) (fun _ _ _ _ h _ => h) (steps_all ?_) ?_
              · simp only [List.take_succ_cons, List.take_zero, StepsFrom]
                refine ⟨?_, ?_, ?_, ?_, ?_, ?_, ?_, ?_, ?_, ?_, ?_, ?_, ?_, ?_, ?_, ?_, ?_, ?_, ?_, ?_, ?_, ?_, ?_, ?_, ?_, ?_, ?_, ?_, ?_, ?_, ?_, ?_, ?_, ?_, ?_, ?_, ?_, ?_, ?_, ?_, ?_, ?_, ?_, ?_, ?_, ?_, ?_, ?_, ?_, ?_, ?_, ?_, ?_, ?_, ?_, ?_, ?_, ?_, ?_, ?_, ?_, ?_, ?_, ?_, ?_, ?_, trivial⟩
                · refine step_plain rfl (fun a' w' hb' hO hD => ?_)
                  exact .inl ⟨_, _, exec_load_elem rfl ((hO 7 (by decide)).trans rfl) (hb'.blk (cur := #[.int .u64 p0, .int .u64 p1, .int .u64 p2, .int .u64 p3, .int .u64 p4]) (BX0) (BX0.lt)), ⟨_, _, _, _, _, rfl, hE0⟩, Below.refl _ _⟩
                · refine step_plain rfl (fun a' w' hb' hO hD => ?_)
                  exact .inl ⟨_, _, exec_load_elem rfl ((hO 9 (by decide)).trans rfl) (hb'.blk (cur := #[.int .u64 q0, .int .u64 q1, .int .u64 q2, .int .u64 q3, .int .u64 q4]) (BX1) (BX1.lt)), ⟨_, _, _, _, _, rfl, hE1⟩, Below.refl _ _⟩
                · refine step_plain rfl (fun a' w' hb' hO hD => ?_)
                  have h0 : ElV (num2 xs) (a'.eval (.tmp 77)) := hD ⟨0, .data⟩ (by simp) rfl 77 rfl
                  have h1 : ElV (num2 ys) (a'.eval (.tmp 78)) := hD ⟨1, .data⟩ (by simp) rfl 78 rfl
                  exact .inr ⟨_, #[a'.eval (.tmp 77), a'.eval (.tmp 78)], exec_call Try.func17 (by kernel_rfl) (by kernel_rfl) _ rfl _ _ (by simp), Add_V h0 h1 _⟩
                · refine step_plain rfl (fun a' w' hb' hO hD => ?_)
                  exact .inl ⟨_, _, exec_load_elem rfl ((hO 9 (by decide)).trans rfl) (hb'.blk (cur := #[.int .u64 q0, .int .u64 q1, .int .u64 q2, .int .u64 q3, .int .u64 q4]) (BX1) (BX1.lt)), ⟨_, _, _, _, _, rfl, hE1⟩, Below.refl _ _⟩
                · refine step_plain rfl (fun a' w' hb' hO hD => ?_)
                  exact .inl ⟨_, _, exec_load_elem rfl ((hO 7 (by decide)).trans rfl) (hb'.blk (cur := #[.int .u64 p0, .int .u64 p1, .int .u64 p2, .int .u64 p3, .int .u64 p4]) (BX0) (BX0.lt)), ⟨_, _, _, _, _, rfl, hE0⟩, Below.refl _ _⟩
                · refine step_plain rfl (fun a' w' hb' hO hD => ?_)
                  have h0 : ElV (num2 ys) (a'.eval (.tmp 80)) := hD ⟨3, .data⟩ (by simp) rfl 80 rfl
                  have h1 : ElV (num2 xs) (a'.eval (.tmp 81)) := hD ⟨4, .data⟩ (by simp) rfl 81 rfl
                  exact .inr ⟨_, #[a'.eval (.tmp 80), a'.eval (.tmp 81)], exec_call Try.func17 (by kernel_rfl) (by kernel_rfl) _ rfl _ _ (by simp), Add_V h0 h1 _⟩
                · refine step_plain rfl (fun a' w' hb' hO hD => ?_)
                  have h0 : ElV ((num2 xs) + (num2 ys)) (a'.eval (.tmp 79)) := hD ⟨2, .data⟩ (by simp) rfl 79 rfl
                  have h1 : ElV ((num2 ys) + (num2 xs)) (a'.eval (.tmp 82)) := hD ⟨5, .data⟩ (by simp) rfl 82 rfl
                  exact .inr ⟨_, #[a'.eval (.tmp 79), a'.eval (.tmp 82)], exec_call Try.func16 (by kernel_rfl) (by kernel_rfl) _ rfl _ _ (by simp), Same_T h0 h1 _ (by grind)⟩
                · refine step_plain rfl (fun a' w' hb' hO hD => ?_)
                  have h0 : a'.eval (.tmp 83) = .bool (true) := hD ⟨6, .data⟩ (by simp) rfl 83 rfl
                  exact .inl ⟨a'.eval (.tmp 83), _, rfl, h0, Below.refl _ _⟩
                · refine step_guard 84 rfl rfl (by kernel_rfl) (fun _ _ h => h) (fun a' w' hb' hO hD => ?_)
                  exact .inl ⟨_, _, exec_load_elem rfl ((hO 7 (by decide)).trans rfl) (hb'.blk (cur := #[.int .u64 p0, .int .u64 p1, .int .u64 p2, .int .u64 p3, .int .u64 p4]) (BX0) (BX0.lt)), ⟨_, _, _, _, _, rfl, hE0⟩, Below.refl _ _⟩
                · refine step_guard 84 rfl rfl (by kernel_rfl) (fun _ _ h => h) (fun a' w' hb' hO hD => ?_)
                  exact .inl ⟨_, _, exec_load_elem rfl ((hO 9 (by decide)).trans rfl) (hb'.blk (cur := #[.int .u64 q0, .int .u64 q1, .int .u64 q2, .int .u64 q3, .int .u64 q4]) (BX1) (BX1.lt)), ⟨_, _, _, _, _, rfl, hE1⟩, Below.refl _ _⟩
                · refine step_guard 84 rfl rfl (by kernel_rfl) (fun _ _ h => h) (fun a' w' hb' hO hD => ?_)
                  have h0 : ElV (num2 xs) (a'.eval (.tmp 85)) := hD ⟨8, .data⟩ (by simp) rfl 85 rfl
                  have h1 : ElV (num2 ys) (a'.eval (.tmp 86)) := hD ⟨9, .data⟩ (by simp) rfl 86 rfl
                  exact .inr ⟨_, #[a'.eval (.tmp 85), a'.eval (.tmp 86)], exec_call Try.func18 (by kernel_rfl) (by kernel_rfl) _ rfl _ _ (by simp), Mul_V h0 h1 _⟩
                · refine step_guard 84 rfl rfl (by kernel_rfl) (fun _ _ h => h) (fun a' w' hb' hO hD => ?_)
                  exact .inl ⟨_, _, exec_load_elem rfl ((hO 9 (by decide)).trans rfl) (hb'.blk (cur := #[.int .u64 q0, .int .u64 q1, .int .u64 q2, .int .u64 q3, .int .u64 q4]) (BX1) (BX1.lt)), ⟨_, _, _, _, _, rfl, hE1⟩, Below.refl _ _⟩
                · refine step_guard 84 rfl rfl (by kernel_rfl) (fun _ _ h => h) (fun a' w' hb' hO hD => ?_)
                  exact .inl ⟨_, _, exec_load_elem rfl ((hO 7 (by decide)).trans rfl) (hb'.blk (cur := #[.int .u64 p0, .int .u64 p1, .int .u64 p2, .int .u64 p3, .int .u64 p4]) (BX0) (BX0.lt)), ⟨_, _, _, _, _, rfl, hE0⟩, Below.refl _ _⟩
                · refine step_guard 84 rfl rfl (by kernel_rfl) (fun _ _ h => h) (fun a' w' hb' hO hD => ?_)
                  have h0 : ElV (num2 ys) (a'.eval (.tmp 88)) := hD ⟨11, .data⟩ (by simp) rfl 88 rfl
                  have h1 : ElV (num2 xs) (a'.eval (.tmp 89)) := hD ⟨12, .data⟩ (by simp) rfl 89 rfl
                  exact .inr ⟨_, #[a'.eval (.tmp 88), a'.eval (.tmp 89)], exec_call Try.func18 (by kernel_rfl) (by kernel_rfl) _ rfl _ _ (by simp), Mul_V h0 h1 _⟩
                · refine step_guard 84 rfl rfl (by kernel_rfl) (fun _ _ h => h) (fun a' w' hb' hO hD => ?_)
                  have h0 : ElV ((num2 xs) * (num2 ys)) (a'.eval (.tmp 87)) := hD ⟨10, .data⟩ (by simp) rfl 87 rfl
                  have h1 : ElV ((num2 ys) * (num2 xs)) (a'.eval (.tmp 90)) := hD ⟨13, .data⟩ (by simp) rfl 90 rfl
                  exact .inr ⟨_, #[a'.eval (.tmp 87), a'.eval (.tmp 90)], exec_call Try.func16 (by kernel_rfl) (by kernel_rfl) _ rfl _ _ (by simp), Same_T h0 h1 _ (by grind)⟩
                · refine step_plain rfl (fun a' w' hb' hO hD => ?_)
                  have h0 : a'.eval (.tmp 84) = .bool (true) := hD ⟨7, .data⟩ (by simp) rfl 84 rfl
                  have h1 : a'.eval (.tmp 91) = .bool (true) := hD ⟨14, .data⟩ (by simp) rfl 91 rfl
                  exact .inl ⟨.bool (true), _, by (generalize a'.eval = ev at *; simp [execOp, go_sem, h0, h1]), rfl, Below.refl _ _⟩
                · refine step_plain rfl (fun a' w' hb' hO hD => ?_)
                  have h0 : a'.eval (.tmp 92) = .bool (true) := hD ⟨15, .data⟩ (by simp) rfl 92 rfl
                  exact .inl ⟨a'.eval (.tmp 92), _, rfl, h0, Below.refl _ _⟩
                · refine step_guard 93 rfl rfl (by kernel_rfl) (fun _ _ h => h) (fun a' w' hb' hO hD => ?_)
                  exact .inl ⟨_, _, exec_load_elem rfl ((hO 7 (by decide)).trans rfl) (hb'.blk (cur := #[.int .u64 p0, .int .u64 p1, .int .u64 p2, .int .u64 p3, .int .u64 p4]) (BX0) (BX0.lt)), ⟨_, _, _, _, _, rfl, hE0⟩, Below.refl _ _⟩
                · refine step_guard 93 rfl rfl (by kernel_rfl) (fun _ _ h => h) (fun a' w' hb' hO hD => ?_)
                  exact .inl ⟨_, _, exec_load_elem rfl ((hO 9 (by decide)).trans rfl) (hb'.blk (cur := #[.int .u64 q0, .int .u64 q1, .int .u64 q2, .int .u64 q3, .int .u64 q4]) (BX1) (BX1.lt)), ⟨_, _, _, _, _, rfl, hE1⟩, Below.refl _ _⟩
                · refine step_guard 93 rfl rfl (by kernel_rfl) (fun _ _ h => h) (fun a' w' hb' hO hD => ?_)
                  exact .inl ⟨_, _, exec_load_elem rfl ((hO 11 (by decide)).trans rfl) (hb'.blk (cur := #[.int .u64 r0, .int .u64 r1, .int .u64 r2, .int .u64 r3, .int .u64 r4]) (BX2) (BX2.lt)), ⟨_, _, _, _, _, rfl, hE2⟩, Below.refl _ _⟩
                · refine step_guard 93 rfl rfl (by kernel_rfl) (fun _ _ h => h) (fun a' w' hb' hO hD => ?_)
                  have h0 : ElV (num2 ys) (a'.eval (.tmp 95)) := hD ⟨18, .data⟩ (by simp) rfl 95 rfl
                  have h1 : ElV (num2 zs) (a'.eval (.tmp 96)) := hD ⟨19, .data⟩ (by simp) rfl 96 rfl
                  exact .inr ⟨_, #[a'.eval (.tmp 95), a'.eval (.tmp 96)], exec_call Try.func18 (by kernel_rfl) (by kernel_rfl) _ rfl _ _ (by simp), Mul_V h0 h1 _⟩
                · refine step_guard 93 rfl rfl (by kernel_rfl) (fun _ _ h => h) (fun a' w' hb' hO hD => ?_)
                  have h0 : ElV (num2 xs) (a'.eval (.tmp 94)) := hD ⟨17, .data⟩ (by simp) rfl 94 rfl
                  have h1 : ElV ((num2 ys) * (num2 zs)) (a'.eval (.tmp 97)) := hD ⟨20, .data⟩ (by simp) rfl 97 rfl
                  exact .inr ⟨_, #[a'.eval (.tmp 94), a'.eval (.tmp 97)], exec_call Try.func18 (by kernel_rfl) (by kernel_rfl) _ rfl _ _ (by simp), Mul_V h0 h1 _⟩
                · refine step_guard 93 rfl rfl (by kernel_rfl) (fun _ _ h => h) (fun a' w' hb' hO hD => ?_)
                  exact .inl ⟨_, _, exec_load_elem rfl ((hO 7 (by decide)).trans rfl) (hb'.blk (cur := #[.int .u64 p0, .int .u64 p1, .int .u64 p2, .int .u64 p3, .int .u64 p4]) (BX0) (BX0.lt)), ⟨_, _, _, _, _, rfl, hE0⟩, Below.refl _ _⟩
                · refine step_guard 93 rfl rfl (by kernel_rfl) (fun _ _ h => h) (fun a' w' hb' hO hD => ?_)
                  exact .inl ⟨_, _, exec_load_elem rfl ((hO 9 (by decide)).trans rfl) (hb'.blk (cur := #[.int .u64 q0, .int .u64 q1, .int .u64 q2, .int .u64 q3, .int .u64 q4]) (BX1) (BX1.lt)), ⟨_, _, _, _, _, rfl, hE1⟩, Below.refl _ _⟩
                · refine step_guard 93 rfl rfl (by kernel_rfl) (fun _ _ h => h) (fun a' w' hb' hO hD => ?_)
                  have h0 : ElV (num2 xs) (a'.eval (.tmp 99)) := hD ⟨22, .data⟩ (by simp) rfl 99 rfl
                  have h1 : ElV (num2 ys) (a'.eval (.tmp 100)) := hD ⟨23, .data⟩ (by simp) rfl 100 rfl
                  exact .inr ⟨_, #[a'.eval (.tmp 99), a'.eval (.tmp 100)], exec_call Try.func18 (by kernel_rfl) (by kernel_rfl) _ rfl _ _ (by simp), Mul_V h0 h1 _⟩
                · refine step_guard 93 rfl rfl (by kernel_rfl) (fun _ _ h => h) (fun a' w' hb' hO hD => ?_)
                  exact .inl ⟨_, _, exec_load_elem rfl ((hO 11 (by decide)).trans rfl) (hb'.blk (cur := #[.int .u64 r0, .int .u64 r1, .int .u64 r2, .int .u64 r3, .int .u64 r4]) (BX2) (BX2.lt)), ⟨_, _, _, _, _, rfl, hE2⟩, Below.refl _ _⟩
                · refine step_guard 93 rfl rfl (by kernel_rfl) (fun _ _ h => h) (fun a' w' hb' hO hD => ?_)
                  have h0 : ElV ((num2 xs) * (num2 ys)) (a'.eval (.tmp 101)) := hD ⟨24, .data⟩ (by simp) rfl 101 rfl
                  have h1 : ElV (num2 zs) (a'.eval (.tmp 102)) := hD ⟨25, .data⟩ (by simp) rfl 102 rfl
                  exact .inr ⟨_, #[a'.eval (.tmp 101), a'.eval (.tmp 102)], exec_call Try.func18 (by kernel_rfl) (by kernel_rfl) _ rfl _ _ (by simp), Mul_V h0 h1 _⟩
                · refine step_guard 93 rfl rfl (by kernel_rfl) (fun _ _ h => h) (fun a' w' hb' hO hD => ?_)
                  have h0 : ElV ((num2 xs) * ((num2 ys) * (num2 zs))) (a'.eval (.tmp 98)) := hD ⟨21, .data⟩ (by simp) rfl 98 rfl
                  have h1 : ElV (((num2 xs) * (num2 ys)) * (num2 zs)) (a'.eval (.tmp 103)) := hD ⟨26, .data⟩ (by simp) rfl 103 rfl
                  exact .inr ⟨_, #[a'.eval (.tmp 98), a'.eval (.tmp 103)], exec_call Try.func16 (by kernel_rfl) (by kernel_rfl) _ rfl _ _ (by simp), Same_T h0 h1 _ (by grind)⟩
                · refine step_plain rfl (fun a' w' hb' hO hD => ?_)
                  have h0 : a'.eval (.tmp 93) = .bool (true) := hD ⟨16, .data⟩ (by simp) rfl 93 rfl
                  have h1 : a'.eval (.tmp 104) = .bool (true) := hD ⟨27, .data⟩ (by simp) rfl 104 rfl
                  exact .inl ⟨.bool (true), _, by (generalize a'.eval = ev at *; simp [execOp, go_sem, h0, h1]), rfl, Below.refl _ _⟩
                · refine step_plain rfl (fun a' w' hb' hO hD => ?_)
                  have h0 : a'.eval (.tmp 105) = .bool (true) := hD ⟨28, .data⟩ (by simp) rfl 105 rfl
                  exact .inl ⟨a'.eval (.tmp 105), _, rfl, h0, Below.refl _ _⟩
                · refine step_guard 106 rfl rfl (by kernel_rfl) (fun _ _ h => h) (fun a' w' hb' hO hD => ?_)
                  exact .inl ⟨_, _, exec_load_elem rfl ((hO 7 (by decide)).trans rfl) (hb'.blk (cur := #[.int .u64 p0, .int .u64 p1, .int .u64 p2, .int .u64 p3, .int .u64 p4]) (BX0) (BX0.lt)), ⟨_, _, _, _, _, rfl, hE0⟩, Below.refl _ _⟩
                · refine step_guard 106 rfl rfl (by kernel_rfl) (fun _ _ h => h) (fun a' w' hb' hO hD => ?_)
                  exact .inl ⟨_, _, exec_load_elem rfl ((hO 9 (by decide)).trans rfl) (hb'.blk (cur := #[.int .u64 q0, .int .u64 q1, .int .u64 q2, .int .u64 q3, .int .u64 q4]) (BX1) (BX1.lt)), ⟨_, _, _, _, _, rfl, hE1⟩, Below.refl _ _⟩
                · refine step_guard 106 rfl rfl (by kernel_rfl) (fun _ _ h => h) (fun a' w' hb' hO hD => ?_)
                  exact .inl ⟨_, _, exec_load_elem rfl ((hO 11 (by decide)).trans rfl) (hb'.blk (cur := #[.int .u64 r0, .int .u64 r1, .int .u64 r2, .int .u64 r3, .int .u64 r4]) (BX2) (BX2.lt)), ⟨_, _, _, _, _, rfl, hE2⟩, Below.refl _ _⟩
                · refine step_guard 106 rfl rfl (by kernel_rfl) (fun _ _ h => h) (fun a' w' hb' hO hD => ?_)
                  have h0 : ElV (num2 ys) (a'.eval (.tmp 108)) := hD ⟨31, .data⟩ (by simp) rfl 108 rfl
                  have h1 : ElV (num2 zs) (a'.eval (.tmp 109)) := hD ⟨32, .data⟩ (by simp) rfl 109 rfl
                  exact .inr ⟨_, #[a'.eval (.tmp 108), a'.eval (.tmp 109)], exec_call Try.func17 (by kernel_rfl) (by kernel_rfl) _ rfl _ _ (by simp), Add_V h0 h1 _⟩
                · refine step_guard 106 rfl rfl (by kernel_rfl) (fun _ _ h => h) (fun a' w' hb' hO hD => ?_)
                  have h0 : ElV (num2 xs) (a'.eval (.tmp 107)) := hD ⟨30, .data⟩ (by simp) rfl 107 rfl
                  have h1 : ElV ((num2 ys) + (num2 zs)) (a'.eval (.tmp 110)) := hD ⟨33, .data⟩ (by simp) rfl 110 rfl
                  exact .inr ⟨_, #[a'.eval (.tmp 107), a'.eval (.tmp 110)], exec_call Try.func18 (by kernel_rfl) (by kernel_rfl) _ rfl _ _ (by simp), Mul_V h0 h1 _⟩
                · refine step_guard 106 rfl rfl (by kernel_rfl) (fun _ _ h => h) (fun a' w' hb' hO hD => ?_)
                  exact .inl ⟨_, _, exec_load_elem rfl ((hO 7 (by decide)).trans rfl) (hb'.blk (cur := #[.int .u64 p0, .int .u64 p1, .int .u64 p2, .int .u64 p3, .int .u64 p4]) (BX0) (BX0.lt)), ⟨_, _, _, _, _, rfl, hE0⟩, Below.refl _ _⟩
                · refine step_guard 106 rfl rfl (by kernel_rfl) (fun _ _ h => h) (fun a' w' hb' hO hD => ?_)
                  exact .inl ⟨_, _, exec_load_elem rfl ((hO 9 (by decide)).trans rfl) (hb'.blk (cur := #[.int .u64 q0, .int .u64 q1, .int .u64 q2, .int .u64 q3, .int .u64 q4]) (BX1) (BX1.lt)), ⟨_, _, _, _, _, rfl, hE1⟩, Below.refl _ _⟩
                · refine step_guard 106 rfl rfl (by kernel_rfl) (fun _ _ h => h) (fun a' w' hb' hO hD => ?_)
                  have h0 : ElV (num2 xs) (a'.eval (.tmp 112)) := hD ⟨35, .data⟩ (by simp) rfl 112 rfl
                  have h1 : ElV (num2 ys) (a'.eval (.tmp 113)) := hD ⟨36, .data⟩ (by simp) rfl 113 rfl
                  exact .inr ⟨_, #[a'.eval (.tmp 112), a'.eval (.tmp 113)], exec_call Try.func18 (by kernel_rfl) (by kernel_rfl) _ rfl _ _ (by simp), Mul_V h0 h1 _⟩
                · refine step_guard 106 rfl rfl (by kernel_rfl) (fun _ _ h => h) (fun a' w' hb' hO hD => ?_)
                  exact .inl ⟨_, _, exec_load_elem rfl ((hO 7 (by decide)).trans rfl) (hb'.blk (cur := #[.int .u64 p0, .int .u64 p1, .int .u64 p2, .int .u64 p3, .int .u64 p4]) (BX0) (BX0.lt)), ⟨_, _, _, _, _, rfl, hE0⟩, Below.refl _ _⟩
                · refine step_guard 106 rfl rfl (by kernel_rfl) (fun _ _ h => h) (fun a' w' hb' hO hD => ?_)
                  exact .inl ⟨_, _, exec_load_elem rfl ((hO 11 (by decide)).trans rfl) (hb'.blk (cur := #[.int .u64 r0, .int .u64 r1, .int .u64 r2, .int .u64 r3, .int .u64 r4]) (BX2) (BX2.lt)), ⟨_, _, _, _, _, rfl, hE2⟩, Below.refl _ _⟩
                · refine step_guard 106 rfl rfl (by kernel_rfl) (fun _ _ h => h) (fun a' w' hb' hO hD => ?_)
                  have h0 : ElV (num2 xs) (a'.eval (.tmp 115)) := hD ⟨38, .data⟩ (by simp) rfl 115 rfl
                  have h1 : ElV (num2 zs) (a'.eval (.tmp 116)) := hD ⟨39, .data⟩ (by simp) rfl 116 rfl
                  exact .inr ⟨_, #[a'.eval (.tmp 115), a'.eval (.tmp 116)], exec_call Try.func18 (by kernel_rfl) (by kernel_rfl) _ rfl _ _ (by simp), Mul_V h0 h1 _⟩
                · refine step_guard 106 rfl rfl (by kernel_rfl) (fun _ _ h => h) (fun a' w' hb' hO hD => ?_)
                  have h0 : ElV ((num2 xs) * (num2 ys)) (a'.eval (.tmp 114)) := hD ⟨37, .data⟩ (by simp) rfl 114 rfl
                  have h1 : ElV ((num2 xs) * (num2 zs)) (a'.eval (.tmp 117)) := hD ⟨40, .data⟩ (by simp) rfl 117 rfl
                  exact .inr ⟨_, #[a'.eval (.tmp 114), a'.eval (.tmp 117)], exec_call Try.func17 (by kernel_rfl) (by kernel_rfl) _ rfl _ _ (by simp), Add_V h0 h1 _⟩
                · refine step_guard 106 rfl rfl (by kernel_rfl) (fun _ _ h => h) (fun a' w' hb' hO hD => ?_)
                  have h0 : ElV ((num2 xs) * ((num2 ys) + (num2 zs))) (a'.eval (.tmp 111)) := hD ⟨34, .data⟩ (by simp) rfl 111 rfl
                  have h1 : ElV (((num2 xs) * (num2 ys)) + ((num2 xs) * (num2 zs))) (a'.eval (.tmp 118)) := hD ⟨41, .data⟩ (by simp) rfl 118 rfl
                  exact .inr ⟨_, #[a'.eval (.tmp 111), a'.eval (.tmp 118)], exec_call Try.func16 (by kernel_rfl) (by kernel_rfl) _ rfl _ _ (by simp), Same_T h0 h1 _ (by grind)⟩
                · refine step_plain rfl (fun a' w' hb' hO hD => ?_)
                  have h0 : a'.eval (.tmp 106) = .bool (true) := hD ⟨29, .data⟩ (by simp) rfl 106 rfl
                  have h1 : a'.eval (.tmp 119) = .bool (true) := hD ⟨42, .data⟩ (by simp) rfl 119 rfl
                  exact .inl ⟨.bool (true), _, by (generalize a'.eval = ev at *; simp [execOp, go_sem, h0, h1]), rfl, Below.refl _ _⟩
                · refine step_plain rfl (fun a' w' hb' hO hD => ?_)
                  have h0 : a'.eval (.tmp 120) = .bool (true) := hD ⟨43, .data⟩ (by simp) rfl 120 rfl
                  exact .inl ⟨a'.eval (.tmp 120), _, rfl, h0, Below.refl _ _⟩
                · refine step_guard 121 rfl rfl (by kernel_rfl) (fun _ _ h => h) (fun a' w' hb' hO hD => ?_)
                  exact .inl ⟨_, _, exec_load_elem rfl ((hO 7 (by decide)).trans rfl) (hb'.blk (cur := #[.int .u64 p0, .int .u64 p1, .int .u64 p2, .int .u64 p3, .int .u64 p4]) (BX0) (BX0.lt)), ⟨_, _, _, _, _, rfl, hE0⟩, Below.refl _ _⟩
                · refine step_guard 121 rfl rfl (by kernel_rfl) (fun _ _ h => h) (fun a' w' hb' hO hD => ?_)
                  exact .inl ⟨_, _, exec_load_elem rfl ((hO 9 (by decide)).trans rfl) (hb'.blk (cur := #[.int .u64 q0, .int .u64 q1, .int .u64 q2, .int .u64 q3, .int .u64 q4]) (BX1) (BX1.lt)), ⟨_, _, _, _, _, rfl, hE1⟩, Below.refl _ _⟩
                · refine step_guard 121 rfl rfl (by kernel_rfl) (fun _ _ h => h) (fun a' w' hb' hO hD => ?_)
                  have h0 : ElV (num2 xs) (a'.eval (.tmp 122)) := hD ⟨45, .data⟩ (by simp) rfl 122 rfl
                  have h1 : ElV (num2 ys) (a'.eval (.tmp 123)) := hD ⟨46, .data⟩ (by simp) rfl 123 rfl
                  exact .inr ⟨_, #[a'.eval (.tmp 122), a'.eval (.tmp 123)], exec_call Try.func17 (by kernel_rfl) (by kernel_rfl) _ rfl _ _ (by simp), Add_V h0 h1 _⟩
                · refine step_guard 121 rfl rfl (by kernel_rfl) (fun _ _ h => h) (fun a' w' hb' hO hD => ?_)
                  exact .inl ⟨_, _, exec_load_elem rfl ((hO 9 (by decide)).trans rfl) (hb'.blk (cur := #[.int .u64 q0, .int .u64 q1, .int .u64 q2, .int .u64 q3, .int .u64 q4]) (BX1) (BX1.lt)), ⟨_, _, _, _, _, rfl, hE1⟩, Below.refl _ _⟩
                · refine step_guard 121 rfl rfl (by kernel_rfl) (fun _ _ h => h) (fun a' w' hb' hO hD => ?_)
                  have h0 : ElV ((num2 xs) + (num2 ys)) (a'.eval (.tmp 124)) := hD ⟨47, .data⟩ (by simp) rfl 124 rfl
                  have h1 : ElV (num2 ys) (a'.eval (.tmp 125)) := hD ⟨48, .data⟩ (by simp) rfl 125 rfl
                  exact .inr ⟨_, #[a'.eval (.tmp 124), a'.eval (.tmp 125)], exec_call Try.func19 (by kernel_rfl) (by kernel_rfl) _ rfl _ _ (by simp), Sub_V h0 h1 _⟩
                · refine step_guard 121 rfl rfl (by kernel_rfl) (fun _ _ h => h) (fun a' w' hb' hO hD => ?_)
                  exact .inl ⟨_, _, exec_load_elem rfl ((hO 7 (by decide)).trans rfl) (hb'.blk (cur := #[.int .u64 p0, .int .u64 p1, .int .u64 p2, .int .u64 p3, .int .u64 p4]) (BX0) (BX0.lt)), ⟨_, _, _, _, _, rfl, hE0⟩, Below.refl _ _⟩
                · refine step_guard 121 rfl rfl (by kernel_rfl) (fun _ _ h => h) (fun a' w' hb' hO hD => ?_)
                  have h0 : ElV (((num2 xs) + (num2 ys)) - (num2 ys)) (a'.eval (.tmp 126)) := hD ⟨49, .data⟩ (by simp) rfl 126 rfl
                  have h1 : ElV (num2 xs) (a'.eval (.tmp 127)) := hD ⟨50, .data⟩ (by simp) rfl 127 rfl
                  exact .inr ⟨_, #[a'.eval (.tmp 126), a'.eval (.tmp 127)], exec_call Try.func16 (by kernel_rfl) (by kernel_rfl) _ rfl _ _ (by simp), Same_T h0 h1 _ (by grind)⟩
                · refine step_plain rfl (fun a' w' hb' hO hD => ?_)
                  have h0 : a'.eval (.tmp 121) = .bool (true) := hD ⟨44, .data⟩ (by simp) rfl 121 rfl
                  have h1 : a'.eval (.tmp 128) = .bool (true) := hD ⟨51, .data⟩ (by simp) rfl 128 rfl
                  exact .inl ⟨.bool (true), _, by (generalize a'.eval = ev at *; simp [execOp, go_sem, h0, h1]), rfl, Below.refl _ _⟩
                · refine step_plain rfl (fun a' w' hb' hO hD => ?_)
                  have h0 : a'.eval (.tmp 129) = .bool (true) := hD ⟨52, .data⟩ (by simp) rfl 129 rfl
                  exact .inl ⟨a'.eval (.tmp 129), _, rfl, h0, Below.refl _ _⟩
                · refine step_guard 130 rfl rfl (by kernel_rfl) (fun _ _ h => h) (fun a' w' hb' hO hD => ?_)
                  exact .inl ⟨_, _, exec_load_elem rfl ((hO 7 (by decide)).trans rfl) (hb'.blk (cur := #[.int .u64 p0, .int .u64 p1, .int .u64 p2, .int .u64 p3, .int .u64 p4]) (BX0) (BX0.lt)), ⟨_, _, _, _, _, rfl, hE0⟩, Below.refl _ _⟩
                · refine step_guard 130 rfl rfl (by kernel_rfl) (fun _ _ h => h) (fun a' w' hb' hO hD => ?_)
                  exact .inl ⟨_, _, exec_load_elem rfl ((hO 9 (by decide)).trans rfl) (hb'.blk (cur := #[.int .u64 q0, .int .u64 q1, .int .u64 q2, .int .u64 q3, .int .u64 q4]) (BX1) (BX1.lt)), ⟨_, _, _, _, _, rfl, hE1⟩, Below.refl _ _⟩
                · refine step_guard 130 rfl rfl (by kernel_rfl) (fun _ _ h => h) (fun a' w' hb' hO hD => ?_)
                  have h0 : ElV (num2 xs) (a'.eval (.tmp 131)) := hD ⟨54, .data⟩ (by simp) rfl 131 rfl
                  have h1 : ElV (num2 ys) (a'.eval (.tmp 132)) := hD ⟨55, .data⟩ (by simp) rfl 132 rfl
                  exact .inr ⟨_, #[a'.eval (.tmp 131), a'.eval (.tmp 132)], exec_call Try.func19 (by kernel_rfl) (by kernel_rfl) _ rfl _ _ (by simp), Sub_V h0 h1 _⟩
                · refine step_guard 130 rfl rfl (by kernel_rfl) (fun _ _ h => h) (fun a' w' hb' hO hD => ?_)
                  exact .inl ⟨_, _, exec_load_elem rfl ((hO 9 (by decide)).trans rfl) (hb'.blk (cur := #[.int .u64 q0, .int .u64 q1, .int .u64 q2, .int .u64 q3, .int .u64 q4]) (BX1) (BX1.lt)), ⟨_, _, _, _, _, rfl, hE1⟩, Below.refl _ _⟩
                · refine step_guard 130 rfl rfl (by kernel_rfl) (fun _ _ h => h) (fun a' w' hb' hO hD => ?_)
                  have h0 : ElV ((num2 xs) - (num2 ys)) (a'.eval (.tmp 133)) := hD ⟨56, .data⟩ (by simp) rfl 133 rfl
                  have h1 : ElV (num2 ys) (a'.eval (.tmp 134)) := hD ⟨57, .data⟩ (by simp) rfl 134 rfl
                  exact .inr ⟨_, #[a'.eval (.tmp 133), a'.eval (.tmp 134)], exec_call Try.func17 (by kernel_rfl) (by kernel_rfl) _ rfl _ _ (by simp), Add_V h0 h1 _⟩
                · refine step_guard 130 rfl rfl (by kernel_rfl) (fun _ _ h => h) (fun a' w' hb' hO hD => ?_)
                  exact .inl ⟨_, _, exec_load_elem rfl ((hO 7 (by decide)).trans rfl) (hb'.blk (cur := #[.int .u64 p0, .int .u64 p1, .int .u64 p2, .int .u64 p3, .int .u64 p4]) (BX0) (BX0.lt)), ⟨_, _, _, _, _, rfl, hE0⟩, Below.refl _ _⟩
                · refine step_guard 130 rfl rfl (by kernel_rfl) (fun _ _ h => h) (fun a' w' hb' hO hD => ?_)
                  have h0 : ElV (((num2 xs) - (num2 ys)) + (num2 ys)) (a'.eval (.tmp 135)) := hD ⟨58, .data⟩ (by simp) rfl 135 rfl
                  have h1 : ElV (num2 xs) (a'.eval (.tmp 136)) := hD ⟨59, .data⟩ (by simp) rfl 136 rfl
                  exact .inr ⟨_, #[a'.eval (.tmp 135), a'.eval (.tmp 136)], exec_call Try.func16 (by kernel_rfl) (by kernel_rfl) _ rfl _ _ (by simp), Same_T h0 h1 _ (by grind)⟩
                · refine step_plain rfl (fun a' w' hb' hO hD => ?_)
                  have h0 : a'.eval (.tmp 130) = .bool (true) := hD ⟨53, .data⟩ (by simp) rfl 130 rfl
                  have h1 : a'.eval (.tmp 137) = .bool (true) := hD ⟨60, .data⟩ (by simp) rfl 137 rfl
                  exact .inl ⟨.bool (true), _, by (generalize a'.eval = ev at *; simp [execOp, go_sem, h0, h1]), rfl, Below.refl _ _⟩
                · refine step_plain rfl (fun a' w' hb' hO hD => ?_)
                  have h0 : a'.eval (.tmp 138) = .bool (true) := hD ⟨61, .data⟩ (by simp) rfl 138 rfl
                  exact .inl ⟨a'.eval (.tmp 138), _, rfl, h0, Below.refl _ _⟩
                · refine step_guard 139 rfl rfl (by kernel_rfl) (fun _ _ h => h) (fun a' w' hb' hO hD => ?_)
                  exact .inr ⟨_, #[], exec_call Try.func20 (by kernel_rfl) (by kernel_rfl) _ rfl _ _ (by simp), awake5_V _⟩
                · refine step_plain rfl (fun a' w' hb' hO hD => ?_)
                  have h0 : a'.eval (.tmp 139) = .bool (true) := hD ⟨62, .data⟩ (by simp) rfl 139 rfl
                  have h1 : a'.eval (.tmp 140) = .bool (true) := hD ⟨63, .data⟩ (by simp) rfl 140 rfl
                  exact .inl ⟨.bool (true), _, by (generalize a'.eval = ev at *; simp [execOp, go_sem, h0, h1]), rfl, Below.refl _ _⟩
                · refine step_plain rfl (fun a' w' hb' hO hD => ?_)
                  have h0 : a'.eval (.tmp 141) = .bool (true) := hD ⟨64, .data⟩ (by simp) rfl 141 rfl
                  exact .inl ⟨a'.eval (.tmp 141), _, rfl, h0, Below.refl _ _⟩
              · intro a' w' hb' hsz hdf hO hV
                have h4 : a'.tmps.getD 6 undef = .bool true := hV 65 (by omega) 6 rfl
                have hdf' : a'.defers = [] := hdf
                have HB2 : Below w.heap.size w w' := HB.trans (hb'.mono HB.size)
                clear hO hV hb' hdf
                show Exit.then _ _ .normal _ _
                go_wp2_with fail
                exact bodyPost_ret (v := .bool true) (by simp only [Array.getD_eq_getD_getElem?] at h4; simp [results, Try.results9, go_sem, h4]) hdf' ⟨rfl, HB2⟩

end Go.Proofs.Ytdjdfmnjoilmkaa
