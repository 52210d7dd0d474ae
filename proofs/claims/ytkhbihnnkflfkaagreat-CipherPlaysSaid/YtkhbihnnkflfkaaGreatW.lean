/-
 CODE CARRIED OUT, plainly and within a round of a range over a function: one word for both, and its rules.
-/
import Derived.Test.YtkhbihnnkflfkaaGreatBase
import Derived.RangeFuncNested
import Derived.RangeFuncBound
import Derived.RangeFuncCalls
import Derived.RangeFuncLeaves
import Derived.OwnWalkIn
import Derived.TacticsInMore
import Derived.LoopNIn
import Derived.LoopIn
import Derived.OrdersIn
import Derived.Deep.LoopGhost
namespace Go.Proofs.YtkhbihnnkflfkaaGreat
open Go.RowKit
set_option maxRecDepth 100000
set_option linter.unusedVariables false

variable {c x y : Code} {id l n : Nat} {t : Bool} {K : Act → World → Prop} {o : Oper} {ops : Array Oper}
def WP2 (b : Bool) (P : Program) (c : Code) (Q : Exit → Act → World → Prop) (a : Act) (w : World) : Prop :=
 c.wp P Q a w ∧ (b = true → ¬ LetsOut Q → ∀ l n, c.wpIn (Fence.wide.inRound l) n P Q a w)

section
variable {b : Bool} {P : Program} {Q : Exit → Act → World → Prop} {a : Act} {w : World}

theorem w2_skip (h : Q .normal a w) : WP2 b P .skip Q a w := ⟨wp_skip h, fun _ _ _ _ => wpIn_skip h⟩
theorem w2_exit (h : Q (.exit id) a w) : WP2 b P (.exit id) Q a w := ⟨wp_exit h, fun _ _ _ _ => wpIn_exit h⟩
theorem w2_ret (h : Q .ret a w) : WP2 b P .ret Q a w := ⟨wp_ret h, fun _ _ _ _ => wpIn_ret h⟩
theorem w2_seq (h : ∀ K : Act → World → Prop, (∀ a w, WP2 b P y Q a w → K a w) → WP2 b P x (Exit.then K Q) a w) : WP2 b P (.seq x y) Q a w := by
 have h' := h (WP2 b P y Q) (fun _ _ h => h)
 refine ⟨wp_seq (wp_mono h'.1 (fun e a w q => ?_)), fun hb hQ l n => wpIn_seq (Go.wpIn_mono (h'.2 hb (fun ho => hQ ho) l n) (fun e a w q => ?_))⟩
 ·cases e <;> first | exact q.1 | exact q
 ·cases e <;> first | exact q.2 hb hQ l n | exact q
theorem w2_cond {c : Operand} (hc : a.eval c = .bool t) (h : WP2 b P (if t then x else y) Q a w) : WP2 b P (.cond c x y) Q a w :=
 ⟨wp_cond hc h.1, fun hb hQ l n => wpIn_cond hc (h.2 hb hQ l n)⟩
theorem w2_condT {c : Operand} (hc : a.eval c = .bool true) (h : WP2 b P x Q a w) : WP2 b P (.cond c x y) Q a w := w2_cond hc h
theorem w2_condF {c : Operand} (hc : a.eval c = .bool false) (h : WP2 b P y Q a w) : WP2 b P (.cond c x y) Q a w := w2_cond hc h
theorem w2_split {c : Operand} (hc : a.eval c = .bool t) (ht : t = true → WP2 b P x Q a w) (hf : t = false → WP2 b P y Q a w) : WP2 b P (.cond c x y) Q a w := by
 cases t
 ·exact w2_cond hc (hf rfl)
 ·exact w2_cond hc (ht rfl)

def ExB (id : Nat) (K : Act → World → Prop) (Q : Exit → Act → World → Prop) : Exit → Act → World → Prop
 | .normal, a, w => K a w
 | .exit id', a, w => if id' = id then K a w else Q (.exit id') a w
 | e, a, w => Q e a w
theorem exb_hit (h : K a w) : ExB id K Q (.exit id) a w := by simp [ExB, h]
theorem exb_out {id' : Nat} (hn : Nat.beq id' id = false) (h : Q (.exit id') a w) : ExB id K Q (.exit id') a w := by
 have : id' ≠ id := fun e => by rw [e] at hn; simp at hn
 simp [ExB, this, h]
theorem exb_eq (id : Nat) : ExB id (Q .normal) Q = Exit.inBlock id Q := by
 funext e a w
 cases e <;> rfl
theorem wpIn_loop_ghost {F : Fence} (I : Nat → Act → World → Prop) (n₀ : Nat) (h₀ : I n₀ a w)
  (round : ∀ k a w, I k a w → c.wpIn F n P (Exit.then (fun a' w' => ∃ n', n' < k ∧ I n' a' w') Q) a w) : (Code.loop c).wpIn F n P Q a w := by
 refine wpIn_loop (fun a w => ∃ n, I n a w) (fun a w => leastOf (fun n => I n a w)) ⟨n₀, h₀⟩ ?_
 intro a w hI
 refine Go.wpIn_mono (round _ a w (leastOf_spec hI).1) ?_
 intro e a' w' hq
 cases e with
 | normal =>
  obtain ⟨n', hlt, hI'⟩ := hq
  exact show (∃ n, I n a' w') ∧ leastOf (fun n => I n a' w') < leastOf (fun n => I n a w) from ⟨⟨n', hI'⟩, Nat.lt_of_le_of_lt ((leastOf_spec ⟨n', hI'⟩).2 n' hI') hlt⟩
 | exit id => exact hq
 | goto l => exact hq
 | ret => exact hq
 | panic ch => exact hq
 | outgrown => exact hq
theorem w2_loop (I : Nat → Act → World → Prop) (n0 : Nat) (h0 : I n0 a w)
  (round : ∀ n a w, I n a w → ∀ K : Act → World → Prop, (∀ a' w' n', I n' a' w' → n' < n → K a' w') → WP2 b P c (Exit.then K Q) a w) : WP2 b P (.loop c) Q a w :=
 ⟨wp_loop_ghost I n0 h0 fun n a w h => (round n a w h _ (fun a' w' n' h1 h2 => ⟨n', h2, h1⟩)).1,
  fun hb hQ l m => wpIn_loop_ghost I n0 h0 fun n a w h => (round n a w h _ (fun a' w' n' h1 h2 => ⟨n', h2, h1⟩)).2 hb (fun ho => hQ ho) l m⟩
def noDef (ops : Array Oper) : Bool := ops.all fun o => match o.op with | .defer _ => false | _ => true
theorem oper_in (hQ : ¬ LetsOut Q) (hd : ∀ c, o.op ≠ .defer c) (h : o.wp P a w K Q) : o.wpIn (Fence.wide.inRound l) n P a w K Q := by
 refine ⟨fun _ _ => trivial, ?_⟩
 rw [Fence.inRound_round, Oper.semAt_some l a.eval o hd]
 unfold Oper.wp at h
 generalize (execOp a.eval o).run P w = r at h ⊢
 cases r with
 | halt x w' => cases x <;> first | exact h | exact h.elim
 | ok x w' =>
  cases x <;> first | exact h | (exact h.elim) | skip
  ·refine ⟨(fun hh => (by cases hh)), CallsIn.inRound l (callsIn_wide.2 (Calls.mono h (fun e w'' he => ?_)))⟩
   cases e <;> exact he
  ·rename_i row args
   refine ⟨(fun hh => (by cases hh)), fun c cs _ => ?_⟩
   obtain ⟨v, w', r, s⟩ := h c cs
   exact ⟨v, w', r, (stepsIn_wide (P := P)).2 s⟩
theorem noDef_at (h : noDef ops = true) {i : Nat} (ho : ops[i]? = some o) : ∀ c, o.op ≠ .defer c := by
 intro c e
 have h1 := Array.all_eq_true'.1 h o (Array.mem_of_getElem? ho)
 rw [e] at h1
 cases h1
theorem opsIn {l n : Nat} {ops : Array Oper} (hQ : ¬ LetsOut Q) (hd : noDef ops = true) : ∀ (is : List Nat) (a : Act) (w : World), wpOps P ops Q is a w → wpOpsIn (Fence.wide.inRound l) n P ops Q is a w
 | [], _, _, h => h
 | i :: rest, a, w, h => by
  unfold wpOps at h
  unfold wpOpsIn
  cases ho : ops[i]? with
  | none => rw [ho] at h; exact opsIn hQ hd rest a w h
  | some o =>
   rw [ho] at h
   dsimp only at h ⊢
   by_cases hw : Region.wanted o (yielded ops a.tmps) = true
   ·rw [if_pos hw] at h ⊢
    rcases h with h | ⟨_, h⟩
    ·exact Go.Oper.wpIn_mono (fun a w h => opsIn hQ hd rest a w h) (oper_in hQ (noDef_at hd ho) h)
    ·exact absurd h hQ
   ·rw [if_neg hw] at h ⊢
    exact ⟨fun _ _ => trivial, opsIn hQ hd rest _ w h⟩
theorem w2_region {l : List Oper} (hd : noDef l.toArray = true) (h : wpList P l.toArray Q l a w) : WP2 b P (.region id l.toArray false) Q a w := by
 have h' : wpOps P l.toArray Q (List.range l.toArray.size) a w := by
  rw [List.range_eq_range', ← Array.length_toList, wpOps_eq_wpList l.toArray.toList 0 (by simp)]
  simpa using h
 exact ⟨wp_region h', fun _ hQ l n => wpIn_region (opsIn hQ hd _ _ _ h')⟩
theorem w2_any (hm : P.follows .mixedOrders = true) (hd : noDef ops = true) (h : wpAny P .any ops Q ops.size (Array.replicate ops.size false) a { w with drawn := w.drawn + 1 }) : WP2 b P (.region id ops true) Q a w := by
 have h' : ∀ t, wpOps P ops Q (Region.schedule (P.follows .mixedOrders) ops t) a { w with drawn := w.drawn + 1 } := fun t => by
  simp only [Region.schedule, hm, Bool.true_or, if_true]
  exact wpAny_sound ops.size t _ a _ h
 exact ⟨wp_region_draw h', fun _ hQ l n => wpIn_region_draw fun t => opsIn hQ hd _ _ _ (h' t)⟩
end
end Go.Proofs.YtkhbihnnkflfkaaGreat
