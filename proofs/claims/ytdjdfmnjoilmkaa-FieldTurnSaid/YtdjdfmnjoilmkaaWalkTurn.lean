/-
  WALKS: sapperlaw5.FieldTurn.
-/
import Derived.Test.YtdjdfmnjoilmkaaTwoParse
import Derived.Test.YtdjdfmnjoilmkaaRow
namespace Go.Proofs.Ytdjdfmnjoilmkaa
open Go.RowKit
set_option linter.unusedVariables false
set_option linter.unusedSimpArgs false

def turnS (xs ys : List Nat) : Nat → Value → Prop
  | 0, v => ElV (num2 xs) v
  | 1, v => ElV (fi (num2 xs)) v
  | 2, v => ElV (fi (fi (num2 xs))) v
  | 3, v => ElV (num2 xs) v
  | 4, v => v = .bool (true)
  | 5, v => v = .bool (true)
  | 6, v => ElV (num2 xs) v
  | 7, v => ElV (num2 ys) v
  | 8, v => ElV ((num2 xs) * (num2 ys)) v
  | 9, v => ElV (fi ((num2 xs) * (num2 ys))) v
  | 10, v => ElV (num2 xs) v
  | 11, v => ElV (fi (num2 xs)) v
  | 12, v => ElV (num2 ys) v
  | 13, v => ElV (fi (num2 ys)) v
  | 14, v => ElV ((fi (num2 xs)) * (fi (num2 ys))) v
  | 15, v => v = .bool (true)
  | 16, v => v = .bool (true)
  | 17, v => v = .bool (true)
  | 18, v => v = .bool (true)
  | 19, v => v = .bool (true)
  | 20, v => v = .bool (true)
  | _, _ => True

set_option maxHeartbeats 8000000 in
theorem FieldTurn_any {A B : Option Addr} {c d : Nat} {xs ys : List Nat} (w : World) (ha : Bs w A c xs) (hb : Bs w B d ys) :
    Calls Try.prog 5 #[.slice A xs.length c, .slice B ys.length d] w fun e w' => e = .returned (.bool true) ∧ Below w.heap.size w w' := by
  have h8A := ha.b8
  have HSA := hidd ha
  obtain ⟨n, hn⟩ : ∃ n : Nat, xs.length = n := ⟨_, rfl⟩
  have h8B := hb.b8
  have HSB := hidd hb
  obtain ⟨m, hm⟩ : ∃ n : Nat, ys.length = n := ⟨_, rfl⟩
  rw [hn, hm]
  have HA8 := hidd h8A
  have HNA := hidd hn
  have HB8 := hidd h8B
  have HNB := hidd hm
  clear ha hb hn hm h8A h8B
  by_cases g0 : (32 : Int) < (n : Int)
  · go_enter Try.func5, Try.ntmps5
    go_wp2_with fail
    refine Calls.mono (awake5_any _) ?_
    rintro e w1 ⟨rfl, hb1⟩
    dsimp only
    go_wp2_with fail
    go_ret
    exact ⟨rfl, by repeat' first | (with_reducible exact Below.refl _ _) | (with_reducible refine Below.setCell ?_ (by first | (simp; done) | (simp; omega) | omega) _) | (with_reducible refine Below.alloc ?_ (by first | (simp; done) | (simp; omega) | omega) _) | (with_reducible refine Below.drew ?_) | (with_reducible refine Below.trans ?_ (Below.mono (by assumption) (by first | (simp; done) | (simp; omega) | omega)))⟩
  · skip
    by_cases g1 : (32 : Int) < (m : Int)
    · go_enter Try.func5, Try.ntmps5
      go_wp2_with fail
      refine Calls.mono (awake5_any _) ?_
      rintro e w1 ⟨rfl, hb1⟩
      dsimp only
      go_wp2_with fail
      go_ret
      exact ⟨rfl, by repeat' first | (with_reducible exact Below.refl _ _) | (with_reducible refine Below.setCell ?_ (by first | (simp; done) | (simp; omega) | omega) _) | (with_reducible refine Below.alloc ?_ (by first | (simp; done) | (simp; omega) | omega) _) | (with_reducible refine Below.drew ?_) | (with_reducible refine Below.trans ?_ (Below.mono (by assumption) (by first | (simp; done) | (simp; omega) | omega)))⟩
    · skip
      go_enter Try.func5, Try.ntmps5
      go_wp2_with fail
      refine Calls.mono (two_n HNA.out _ (Bs.under HSA (Below.refl _ _))) ?_
      rintro e w1 ⟨g, rfl, hg, BG, hb1⟩
      dsimp only
      go_wp2_with fail
      refine Calls.mono (Parse_two _ BG HA8.out) ?_
      rintro e w2 ⟨p0, p1, p2, p3, p4, rfl, hE0, hb2⟩
      have HB : Below w.heap.size w w2 := hb1.trans (hb2.mono hb1.size)
      clear hb1 hb2 BG hg
      dsimp only
      go_wp2_with fail
      obtain ⟨ga, hga⟩ : ∃ g, w2.heap.size = g := ⟨_, rfl⟩
      have BX0 : Blk (w2.alloc (.cells #[.int .u64 p0, .int .u64 p1, .int .u64 p2, .int .u64 p3, .int .u64 p4] 26)) ga #[.int .u64 p0, .int .u64 p1, .int .u64 p2, .int .u64 p3, .int .u64 p4] 26 := Blk.at _ _ hga
      replace HB : Below w.heap.size w (w2.alloc (.cells #[.int .u64 p0, .int .u64 p1, .int .u64 p2, .int .u64 p3, .int .u64 p4] 26)) := HB.alloc HB.size _
      rw [hga]
      generalize hw3 : (w2.alloc (.cells #[.int .u64 p0, .int .u64 p1, .int .u64 p2, .int .u64 p3, .int .u64 p4] 26)) = w3 at *
      clear hw3 hga
      refine Calls.mono (two_n HNB.out _ (Bs.under HSB (by repeat' first | (with_reducible exact Below.refl _ _) | (with_reducible refine Below.setCell ?_ (by first | (simp; done) | (simp; omega) | omega) _) | (with_reducible refine Below.alloc ?_ (by first | (simp; done) | (simp; omega) | omega) _) | (with_reducible refine Below.drew ?_) | (with_reducible refine Below.trans ?_ (Below.mono (by assumption) (by first | (simp; done) | (simp; omega) | omega)))))) ?_
      rintro e w4 ⟨g, rfl, hg, BG, hb1⟩
      dsimp only
      go_wp2_with fail
      refine Calls.mono (Parse_two _ BG HB8.out) ?_
      rintro e w5 ⟨q0, q1, q2, q3, q4, rfl, hE1, hb2⟩
      replace BX0 := (BX0.old hb1).old hb2
      replace HB : Below w.heap.size w w5 := (HB.trans (hb1.mono HB.size)).trans (hb2.mono (Nat.le_trans HB.size hb1.size))
      clear hb1 hb2 BG hg
      dsimp only
      go_wp2_with fail
      obtain ⟨gb, hgb⟩ : ∃ g, w5.heap.size = g := ⟨_, rfl⟩
      replace BX0 := BX0.alloc (.cells #[.int .u64 q0, .int .u64 q1, .int .u64 q2, .int .u64 q3, .int .u64 q4] 26)
      have BX1 : Blk (w5.alloc (.cells #[.int .u64 q0, .int .u64 q1, .int .u64 q2, .int .u64 q3, .int .u64 q4] 26)) gb #[.int .u64 q0, .int .u64 q1, .int .u64 q2, .int .u64 q3, .int .u64 q4] 26 := Blk.at _ _ hgb
      replace HB : Below w.heap.size w (w5.alloc (.cells #[.int .u64 q0, .int .u64 q1, .int .u64 q2, .int .u64 q3, .int .u64 q4] 26)) := HB.alloc HB.size _
      rw [hgb]
      generalize hw6 : (w5.alloc (.cells #[.int .u64 q0, .int .u64 q1, .int .u64 q2, .int .u64 q3, .int .u64 q4] 26)) = w6 at *
      clear hw6 hgb
      refine region_any 21 (fun i _ v => turnS xs ys i v) (by kernel_rfl) (by kernel_rfl) (by kernel_rfl) (fun _ _ _ _ h _ => h) (steps_all ?_) ?_
      · simp only [List.take_succ_cons, List.take_zero, StepsFrom]
        refine ⟨?_, ?_, ?_, ?_, ?_, ?_, ?_, ?_, ?_, ?_, ?_, ?_, ?_, ?_, ?_, ?_, ?_, ?_, ?_, ?_, ?_, trivial⟩
        · refine step_plain rfl (fun a' w' hb' hO hD => ?_)
          exact .inl ⟨_, _, exec_load_elem rfl ((hO 5 (by decide)).trans rfl) (hb'.blk (cur := #[.int .u64 p0, .int .u64 p1, .int .u64 p2, .int .u64 p3, .int .u64 p4]) (BX0) (BX0.lt)), ⟨_, _, _, _, _, rfl, hE0⟩, Below.refl _ _⟩
        · refine step_plain rfl (fun a' w' hb' hO hD => ?_)
          have h0 : ElV (num2 xs) (a'.eval (.tmp 30)) := hD ⟨0, .data⟩ (by simp) rfl 30 rfl
          exact .inr ⟨_, #[a'.eval (.tmp 30)], exec_call Try.func24 (by kernel_rfl) (by kernel_rfl) _ rfl _ _ (by simp), Inv_V h0 _⟩
        · refine step_plain rfl (fun a' w' hb' hO hD => ?_)
          have h0 : ElV (fi (num2 xs)) (a'.eval (.tmp 31)) := hD ⟨1, .data⟩ (by simp) rfl 31 rfl
          exact .inr ⟨_, #[a'.eval (.tmp 31)], exec_call Try.func24 (by kernel_rfl) (by kernel_rfl) _ rfl _ _ (by simp), Inv_V h0 _⟩
        · refine step_plain rfl (fun a' w' hb' hO hD => ?_)
          exact .inl ⟨_, _, exec_load_elem rfl ((hO 5 (by decide)).trans rfl) (hb'.blk (cur := #[.int .u64 p0, .int .u64 p1, .int .u64 p2, .int .u64 p3, .int .u64 p4]) (BX0) (BX0.lt)), ⟨_, _, _, _, _, rfl, hE0⟩, Below.refl _ _⟩
        · refine step_plain rfl (fun a' w' hb' hO hD => ?_)
          have h0 : ElV (fi (fi (num2 xs))) (a'.eval (.tmp 32)) := hD ⟨2, .data⟩ (by simp) rfl 32 rfl
          have h1 : ElV (num2 xs) (a'.eval (.tmp 33)) := hD ⟨3, .data⟩ (by simp) rfl 33 rfl
          exact .inr ⟨_, #[a'.eval (.tmp 32), a'.eval (.tmp 33)], exec_call Try.func16 (by kernel_rfl) (by kernel_rfl) _ rfl _ _ (by simp), Same_T h0 h1 _ (by exact fi_fi _)⟩
        · refine step_plain rfl (fun a' w' hb' hO hD => ?_)
          have h0 : a'.eval (.tmp 34) = .bool (true) := hD ⟨4, .data⟩ (by simp) rfl 34 rfl
          exact .inl ⟨a'.eval (.tmp 34), _, rfl, h0, Below.refl _ _⟩
        · refine step_guard 35 rfl rfl (by kernel_rfl) (fun _ _ h => h) (fun a' w' hb' hO hD => ?_)
          exact .inl ⟨_, _, exec_load_elem rfl ((hO 5 (by decide)).trans rfl) (hb'.blk (cur := #[.int .u64 p0, .int .u64 p1, .int .u64 p2, .int .u64 p3, .int .u64 p4]) (BX0) (BX0.lt)), ⟨_, _, _, _, _, rfl, hE0⟩, Below.refl _ _⟩
        · refine step_guard 35 rfl rfl (by kernel_rfl) (fun _ _ h => h) (fun a' w' hb' hO hD => ?_)
          exact .inl ⟨_, _, exec_load_elem rfl ((hO 7 (by decide)).trans rfl) (hb'.blk (cur := #[.int .u64 q0, .int .u64 q1, .int .u64 q2, .int .u64 q3, .int .u64 q4]) (BX1) (BX1.lt)), ⟨_, _, _, _, _, rfl, hE1⟩, Below.refl _ _⟩
        · refine step_guard 35 rfl rfl (by kernel_rfl) (fun _ _ h => h) (fun a' w' hb' hO hD => ?_)
          have h0 : ElV (num2 xs) (a'.eval (.tmp 36)) := hD ⟨6, .data⟩ (by simp) rfl 36 rfl
          have h1 : ElV (num2 ys) (a'.eval (.tmp 37)) := hD ⟨7, .data⟩ (by simp) rfl 37 rfl
          exact .inr ⟨_, #[a'.eval (.tmp 36), a'.eval (.tmp 37)], exec_call Try.func18 (by kernel_rfl) (by kernel_rfl) _ rfl _ _ (by simp), Mul_V h0 h1 _⟩
        · refine step_guard 35 rfl rfl (by kernel_rfl) (fun _ _ h => h) (fun a' w' hb' hO hD => ?_)
          have h0 : ElV ((num2 xs) * (num2 ys)) (a'.eval (.tmp 38)) := hD ⟨8, .data⟩ (by simp) rfl 38 rfl
          exact .inr ⟨_, #[a'.eval (.tmp 38)], exec_call Try.func24 (by kernel_rfl) (by kernel_rfl) _ rfl _ _ (by simp), Inv_V h0 _⟩
        · refine step_guard 35 rfl rfl (by kernel_rfl) (fun _ _ h => h) (fun a' w' hb' hO hD => ?_)
          exact .inl ⟨_, _, exec_load_elem rfl ((hO 5 (by decide)).trans rfl) (hb'.blk (cur := #[.int .u64 p0, .int .u64 p1, .int .u64 p2, .int .u64 p3, .int .u64 p4]) (BX0) (BX0.lt)), ⟨_, _, _, _, _, rfl, hE0⟩, Below.refl _ _⟩
        · refine step_guard 35 rfl rfl (by kernel_rfl) (fun _ _ h => h) (fun a' w' hb' hO hD => ?_)
          have h0 : ElV (num2 xs) (a'.eval (.tmp 40)) := hD ⟨10, .data⟩ (by simp) rfl 40 rfl
          exact .inr ⟨_, #[a'.eval (.tmp 40)], exec_call Try.func24 (by kernel_rfl) (by kernel_rfl) _ rfl _ _ (by simp), Inv_V h0 _⟩
        · refine step_guard 35 rfl rfl (by kernel_rfl) (fun _ _ h => h) (fun a' w' hb' hO hD => ?_)
          exact .inl ⟨_, _, exec_load_elem rfl ((hO 7 (by decide)).trans rfl) (hb'.blk (cur := #[.int .u64 q0, .int .u64 q1, .int .u64 q2, .int .u64 q3, .int .u64 q4]) (BX1) (BX1.lt)), ⟨_, _, _, _, _, rfl, hE1⟩, Below.refl _ _⟩
        · refine step_guard 35 rfl rfl (by kernel_rfl) (fun _ _ h => h) (fun a' w' hb' hO hD => ?_)
          have h0 : ElV (num2 ys) (a'.eval (.tmp 42)) := hD ⟨12, .data⟩ (by simp) rfl 42 rfl
          exact .inr ⟨_, #[a'.eval (.tmp 42)], exec_call Try.func24 (by kernel_rfl) (by kernel_rfl) _ rfl _ _ (by simp), Inv_V h0 _⟩
        · refine step_guard 35 rfl rfl (by kernel_rfl) (fun _ _ h => h) (fun a' w' hb' hO hD => ?_)
          have h0 : ElV (fi (num2 xs)) (a'.eval (.tmp 41)) := hD ⟨11, .data⟩ (by simp) rfl 41 rfl
          have h1 : ElV (fi (num2 ys)) (a'.eval (.tmp 43)) := hD ⟨13, .data⟩ (by simp) rfl 43 rfl
          exact .inr ⟨_, #[a'.eval (.tmp 41), a'.eval (.tmp 43)], exec_call Try.func18 (by kernel_rfl) (by kernel_rfl) _ rfl _ _ (by simp), Mul_V h0 h1 _⟩
        · refine step_guard 35 rfl rfl (by kernel_rfl) (fun _ _ h => h) (fun a' w' hb' hO hD => ?_)
          have h0 : ElV (fi ((num2 xs) * (num2 ys))) (a'.eval (.tmp 39)) := hD ⟨9, .data⟩ (by simp) rfl 39 rfl
          have h1 : ElV ((fi (num2 xs)) * (fi (num2 ys))) (a'.eval (.tmp 44)) := hD ⟨14, .data⟩ (by simp) rfl 44 rfl
          exact .inr ⟨_, #[a'.eval (.tmp 39), a'.eval (.tmp 44)], exec_call Try.func16 (by kernel_rfl) (by kernel_rfl) _ rfl _ _ (by simp), Same_T h0 h1 _ (by exact fi_mul _ _)⟩
        · refine step_plain rfl (fun a' w' hb' hO hD => ?_)
          have h0 : a'.eval (.tmp 35) = .bool (true) := hD ⟨5, .data⟩ (by simp) rfl 35 rfl
          have h1 : a'.eval (.tmp 45) = .bool (true) := hD ⟨15, .data⟩ (by simp) rfl 45 rfl
          exact .inl ⟨.bool (true), _, by (generalize a'.eval = ev at *; simp [execOp, go_sem, h0, h1]), rfl, Below.refl _ _⟩
        · refine step_plain rfl (fun a' w' hb' hO hD => ?_)
          have h0 : a'.eval (.tmp 46) = .bool (true) := hD ⟨16, .data⟩ (by simp) rfl 46 rfl
          exact .inl ⟨a'.eval (.tmp 46), _, rfl, h0, Below.refl _ _⟩
        · refine step_guard 47 rfl rfl (by kernel_rfl) (fun _ _ h => h) (fun a' w' hb' hO hD => ?_)
          exact .inr ⟨_, #[], exec_call Try.func20 (by kernel_rfl) (by kernel_rfl) _ rfl _ _ (by simp), awake5_V _⟩
        · refine step_plain rfl (fun a' w' hb' hO hD => ?_)
          have h0 : a'.eval (.tmp 47) = .bool (true) := hD ⟨17, .data⟩ (by simp) rfl 47 rfl
          have h1 : a'.eval (.tmp 48) = .bool (true) := hD ⟨18, .data⟩ (by simp) rfl 48 rfl
          exact .inl ⟨.bool (true), _, by (generalize a'.eval = ev at *; simp [execOp, go_sem, h0, h1]), rfl, Below.refl _ _⟩
        · refine step_plain rfl (fun a' w' hb' hO hD => ?_)
          have h0 : a'.eval (.tmp 49) = .bool (true) := hD ⟨19, .data⟩ (by simp) rfl 49 rfl
          exact .inl ⟨a'.eval (.tmp 49), _, rfl, h0, Below.refl _ _⟩
      · intro a' w' hb' hsz hdf hO hV
        have h4 : a'.tmps.getD 4 undef = .bool true := hV 20 (by omega) 4 rfl
        have hdf' : a'.defers = [] := hdf
        have HB2 : Below w.heap.size w w' := HB.trans (hb'.mono HB.size)
        clear hO hV hb' hdf
        show Exit.then _ _ .normal _ _
        go_wp2_with fail
        exact bodyPost_ret (v := .bool true) (by simp only [Array.getD_eq_getD_getElem?] at h4; simp [results, Try.results5, go_sem, h4]) hdf' ⟨rfl, HB2⟩

end Go.Proofs.Ytdjdfmnjoilmkaa
