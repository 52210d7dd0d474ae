/-
 WALKS: chacha.begin.
-/
import Derived.Test.YtkhbihnnkflfkaaGreatRot
namespace Go.Proofs.YtkhbihnnkflfkaaGreat
open Go.RowKit
set_option linter.unusedVariables false
set_option linter.unusedSimpArgs false
set_option maxRecDepth 100000

def u32s (xs : List Nat) : List Value := xs.map fun (x : Nat) => Value.int .u32 (x : Int)
def beginL (key nonce : List Nat) (n : Nat) : List Nat :=
 [1634760805, 857760878, 2036477234, 1797285236, lowN key 0 4, lowN key 4 4, lowN key 8 4, lowN key 12 4, lowN key 16 4, lowN key 20 4, lowN key 24 4, lowN key 28 4, n, lowN nonce 0 4, lowN nonce 4 4, lowN nonce 8 4]

set_option maxHeartbeats 4000000 in
theorem begin_any {A B : Option Addr} {c d m k : Nat} {ks ns : List Nat} (n : Nat) (w : World) (ha : Bs w A c ks) (hb : Bs w B d ns) (hm : ks.length = m) (hk : ns.length = k) :
  Calls Tryz.prog 127 #[.slice A m c, .slice B k d, .int .u32 (n : Int)] w fun e w' => e = .returned (.agg (u32s (beginL ks ns n)).toArray) ∧ Below w.heap.size w w' := by
 have HL := hidd (fun (W : World) (hW : Below w.heap.size w W) (i : Nat) (hi : i < 100) => Low32_any W (ha.below hW) hm i (by omega))
 have HM := hidd (fun (W : World) (hW : Below w.heap.size w W) (i : Nat) (hi : i < 100) => Low32_any W (hb.below hW) hk i (by omega))
 clear ha hb hm hk
 obtain ⟨v0, V0⟩ : ∃ v : Nat, Hid (lowN ks 0 4 = v) := ⟨_, hidd rfl⟩
 obtain ⟨v1, V1⟩ : ∃ v : Nat, Hid (lowN ks 4 4 = v) := ⟨_, hidd rfl⟩
 obtain ⟨v2, V2⟩ : ∃ v : Nat, Hid (lowN ks 8 4 = v) := ⟨_, hidd rfl⟩
 obtain ⟨v3, V3⟩ : ∃ v : Nat, Hid (lowN ks 12 4 = v) := ⟨_, hidd rfl⟩
 obtain ⟨v4, V4⟩ : ∃ v : Nat, Hid (lowN ks 16 4 = v) := ⟨_, hidd rfl⟩
 obtain ⟨v5, V5⟩ : ∃ v : Nat, Hid (lowN ks 20 4 = v) := ⟨_, hidd rfl⟩
 obtain ⟨v6, V6⟩ : ∃ v : Nat, Hid (lowN ks 24 4 = v) := ⟨_, hidd rfl⟩
 obtain ⟨v7, V7⟩ : ∃ v : Nat, Hid (lowN ks 28 4 = v) := ⟨_, hidd rfl⟩
 obtain ⟨u0, U0⟩ : ∃ v : Nat, Hid (lowN ns 0 4 = v) := ⟨_, hidd rfl⟩
 obtain ⟨u1, U1⟩ : ∃ v : Nat, Hid (lowN ns 4 4 = v) := ⟨_, hidd rfl⟩
 obtain ⟨u2, U2⟩ : ∃ v : Nat, Hid (lowN ns 8 4 = v) := ⟨_, hidd rfl⟩
 go_enter Tryz.func127, Tryz.ntmps127
 go_wp2_with fail
 refine wp_loop_rounds 9 ?_
 refine rounds_step ?_
 go_wp2_with fail
 refine Calls.mono (HL.out _ (by repeat' first | (with_reducible exact Below.refl _ _) | (with_reducible refine Below.setCell ?_ (by first | (simp; done) | (simp; omega) | omega) _) | (with_reducible refine Below.alloc ?_ (by first | (simp; done) | (simp; omega) | omega) _) | (with_reducible refine Below.drew ?_) | (with_reducible refine Below.trans ?_ (Below.mono (by assumption) (by first | (simp; done) | (simp; omega) | omega)))) 0 (by omega)) ?_
 rintro e w' ⟨rfl, rfl⟩
 rw [V0.out]
 dsimp only
 go_wp2_with fail
 refine rounds_step ?_
 go_wp2_with fail
 refine Calls.mono (HL.out _ (by repeat' first | (with_reducible exact Below.refl _ _) | (with_reducible refine Below.setCell ?_ (by first | (simp; done) | (simp; omega) | omega) _) | (with_reducible refine Below.alloc ?_ (by first | (simp; done) | (simp; omega) | omega) _) | (with_reducible refine Below.drew ?_) | (with_reducible refine Below.trans ?_ (Below.mono (by assumption) (by first | (simp; done) | (simp; omega) | omega)))) 4 (by omega)) ?_
 rintro e w' ⟨rfl, rfl⟩
 rw [V1.out]
 dsimp only
 go_wp2_with fail
 refine rounds_step ?_
 go_wp2_with fail
 refine Calls.mono (HL.out _ (by repeat' first | (with_reducible exact Below.refl _ _) | (with_reducible refine Below.setCell ?_ (by first | (simp; done) | (simp; omega) | omega) _) | (with_reducible refine Below.alloc ?_ (by first | (simp; done) | (simp; omega) | omega) _) | (with_reducible refine Below.drew ?_) | (with_reducible refine Below.trans ?_ (Below.mono (by assumption) (by first | (simp; done) | (simp; omega) | omega)))) 8 (by omega)) ?_
 rintro e w' ⟨rfl, rfl⟩
 rw [V2.out]
 dsimp only
 go_wp2_with fail
 refine rounds_step ?_
 go_wp2_with fail
 refine Calls.mono (HL.out _ (by repeat' first | (with_reducible exact Below.refl _ _) | (with_reducible refine Below.setCell ?_ (by first | (simp; done) | (simp; omega) | omega) _) | (with_reducible refine Below.alloc ?_ (by first | (simp; done) | (simp; omega) | omega) _) | (with_reducible refine Below.drew ?_) | (with_reducible refine Below.trans ?_ (Below.mono (by assumption) (by first | (simp; done) | (simp; omega) | omega)))) 12 (by omega)) ?_
 rintro e w' ⟨rfl, rfl⟩
 rw [V3.out]
 dsimp only
 go_wp2_with fail
 refine rounds_step ?_
 go_wp2_with fail
 refine Calls.mono (HL.out _ (by repeat' first | (with_reducible exact Below.refl _ _) | (with_reducible refine Below.setCell ?_ (by first | (simp; done) | (simp; omega) | omega) _) | (with_reducible refine Below.alloc ?_ (by first | (simp; done) | (simp; omega) | omega) _) | (with_reducible refine Below.drew ?_) | (with_reducible refine Below.trans ?_ (Below.mono (by assumption) (by first | (simp; done) | (simp; omega) | omega)))) 16 (by omega)) ?_
 rintro e w' ⟨rfl, rfl⟩
 rw [V4.out]
 dsimp only
 go_wp2_with fail
 refine rounds_step ?_
 go_wp2_with fail
 refine Calls.mono (HL.out _ (by repeat' first | (with_reducible exact Below.refl _ _) | (with_reducible refine Below.setCell ?_ (by first | (simp; done) | (simp; omega) | omega) _) | (with_reducible refine Below.alloc ?_ (by first | (simp; done) | (simp; omega) | omega) _) | (with_reducible refine Below.drew ?_) | (with_reducible refine Below.trans ?_ (Below.mono (by assumption) (by first | (simp; done) | (simp; omega) | omega)))) 20 (by omega)) ?_
 rintro e w' ⟨rfl, rfl⟩
 rw [V5.out]
 dsimp only
 go_wp2_with fail
 refine rounds_step ?_
 go_wp2_with fail
 refine Calls.mono (HL.out _ (by repeat' first | (with_reducible exact Below.refl _ _) | (with_reducible refine Below.setCell ?_ (by first | (simp; done) | (simp; omega) | omega) _) | (with_reducible refine Below.alloc ?_ (by first | (simp; done) | (simp; omega) | omega) _) | (with_reducible refine Below.drew ?_) | (with_reducible refine Below.trans ?_ (Below.mono (by assumption) (by first | (simp; done) | (simp; omega) | omega)))) 24 (by omega)) ?_
 rintro e w' ⟨rfl, rfl⟩
 rw [V6.out]
 dsimp only
 go_wp2_with fail
 refine rounds_step ?_
 go_wp2_with fail
 refine Calls.mono (HL.out _ (by repeat' first | (with_reducible exact Below.refl _ _) | (with_reducible refine Below.setCell ?_ (by first | (simp; done) | (simp; omega) | omega) _) | (with_reducible refine Below.alloc ?_ (by first | (simp; done) | (simp; omega) | omega) _) | (with_reducible refine Below.drew ?_) | (with_reducible refine Below.trans ?_ (Below.mono (by assumption) (by first | (simp; done) | (simp; omega) | omega)))) 28 (by omega)) ?_
 rintro e w' ⟨rfl, rfl⟩
 rw [V7.out]
 dsimp only
 go_wp2_with fail
 refine rounds_step ?_
 go_wp2_with fail
 refine wp_loop_rounds 4 ?_
 refine rounds_step ?_
 go_wp2_with fail
 refine Calls.mono (HM.out _ (by repeat' first | (with_reducible exact Below.refl _ _) | (with_reducible refine Below.setCell ?_ (by first | (simp; done) | (simp; omega) | omega) _) | (with_reducible refine Below.alloc ?_ (by first | (simp; done) | (simp; omega) | omega) _) | (with_reducible refine Below.drew ?_) | (with_reducible refine Below.trans ?_ (Below.mono (by assumption) (by first | (simp; done) | (simp; omega) | omega)))) 0 (by omega)) ?_
 rintro e w' ⟨rfl, rfl⟩
 rw [U0.out]
 dsimp only
 go_wp2_with fail
 refine rounds_step ?_
 go_wp2_with fail
 refine Calls.mono (HM.out _ (by repeat' first | (with_reducible exact Below.refl _ _) | (with_reducible refine Below.setCell ?_ (by first | (simp; done) | (simp; omega) | omega) _) | (with_reducible refine Below.alloc ?_ (by first | (simp; done) | (simp; omega) | omega) _) | (with_reducible refine Below.drew ?_) | (with_reducible refine Below.trans ?_ (Below.mono (by assumption) (by first | (simp; done) | (simp; omega) | omega)))) 4 (by omega)) ?_
 rintro e w' ⟨rfl, rfl⟩
 rw [U1.out]
 dsimp only
 go_wp2_with fail
 refine rounds_step ?_
 go_wp2_with fail
 refine Calls.mono (HM.out _ (by repeat' first | (with_reducible exact Below.refl _ _) | (with_reducible refine Below.setCell ?_ (by first | (simp; done) | (simp; omega) | omega) _) | (with_reducible refine Below.alloc ?_ (by first | (simp; done) | (simp; omega) | omega) _) | (with_reducible refine Below.drew ?_) | (with_reducible refine Below.trans ?_ (Below.mono (by assumption) (by first | (simp; done) | (simp; omega) | omega)))) 8 (by omega)) ?_
 rintro e w' ⟨rfl, rfl⟩
 rw [U2.out]
 dsimp only
 go_wp2_with fail
 refine rounds_step ?_
 go_wp2_with fail
 refine bodyPost_ret (v := .agg #[.int .u32 1634760805, .int .u32 857760878, .int .u32 2036477234, .int .u32 1797285236, .int .u32 (v0 : Nat), .int .u32 (v1 : Nat), .int .u32 (v2 : Nat), .int .u32 (v3 : Nat), .int .u32 (v4 : Nat), .int .u32 (v5 : Nat), .int .u32 (v6 : Nat), .int .u32 (v7 : Nat), .int .u32 (n : Nat), .int .u32 (u0 : Nat), .int .u32 (u1 : Nat), .int .u32 (u2 : Nat)]) ?_ rfl ⟨?_, ?_⟩
 ·simp [results, Tryz.results127, go_sem]
 ·unfold beginL u32s
  rw [V0.out, V1.out, V2.out, V3.out, V4.out, V5.out, V6.out, V7.out, U0.out, U1.out, U2.out]
  rfl
 ·repeat' first | (with_reducible exact Below.refl _ _) | (with_reducible refine Below.setCell ?_ (by first | (simp; done) | (simp; omega) | omega) _) | (with_reducible refine Below.alloc ?_ (by first | (simp; done) | (simp; omega) | omega) _) | (with_reducible refine Below.drew ?_) | (with_reducible refine Below.trans ?_ (Below.mono (by assumption) (by first | (simp; done) | (simp; omega) | omega)))
end Go.Proofs.YtkhbihnnkflfkaaGreat
