/-
 SHORTER STEPS: what an operand is, found by itself; one easy step; rules with most of their premises found by themselves.
-/
import Derived.Test.YtkhbihnnkflfkaaGreatCell
namespace Go.Proofs.YtkhbihnnkflfkaaGreat
open Go.RowKit
set_option linter.unusedVariables false
set_option linter.unusedSimpArgs false
set_option maxRecDepth 100000

variable {a a' a0 : Act} {c y z : Code} {g id k n : Nat} {V v : Value} {x : Operand} {ls : List Oper} {ops : Array Oper} {cur : List Value} {p : Addr} {A A' B B' C C' D D' E E' F F' G G' H' : Prop} {b : Bool} {d : Tmp} {w w' : World} {fn : Func} {args : Array Operand} {tys : Array TypeId} {L : Nat → Bool}
theorem evc {l : List (Tmp × Value)} {c : Value} : (putsR a l).eval (.const c) = c := rfl
theorem evm {l : List (Tmp × Value)} {k : Tmp} (h : findR l k = none) (h2 : a.eval (.tmp k) = v) : (putsR a l).eval (.tmp k) = v := (pm h).trans h2
theorem ev {l : List (Tmp × Value)} (h : (putsR a l).eval x = v := by
 first
 | with_reducible exact evc
 | (with_reducible apply pe); (with_reducible assumption); (exact rfl); exact rfl
 | (with_reducible apply evm); (exact rfl); (with_reducible assumption)
 | rfl
 | (with_reducible apply evm); (exact rfl); assumption) : (putsR a l).eval x = v := h
def getR : List Value → Nat → Option Value
 | [], _ => none
 | v :: _, 0 => some v
 | _ :: l, n + 1 => getR l n
theorem getR_eq : ∀ (l : List Value) (n : Nat), getR l n = l[n]?
 | [], n => by simp [getR]
 | v :: l, 0 => by simp [getR]
 | v :: l, n + 1 => by simp [getR, getR_eq l n]
theorem getA {c : Array Value} (h : getR c.toList n = some v) : c[n]? = some v := by rw [getR_eq] at h; simpa using h
section
variable {b : Bool} {P : Program} {Q : Exit → Act → World → Prop} {a : Act} {w : World} {K : Act → World → Prop}
theorem k_seq {x : Code} (h : WP2 b P x (Exit.then (WP2 b P y Q) Q) a w) : WP2 b P (.seq x y) Q a w := by
 refine ⟨wp_seq (wp_mono h.1 (fun e a w q => ?_)), fun hb hQ l n => wpIn_seq (Go.wpIn_mono (h.2 hb (fun ho => hQ ho) l n) (fun e a w q => ?_))⟩
 ·cases e <;> first | exact q.1 | exact q
 ·cases e <;> first | exact q.2 hb hQ l n | exact q
theorem k_rg {r : List (Tmp × Value)} (h : wpList P ls.toArray Q ls (putsR a r) w) (hnd : noDef ls.toArray = true := by kernel_rfl) : WP2 b P (.region id ls.toArray false) Q (putsR a r) w := x_region hnd h
theorem k_blk (h : WP2 b P c (ExB id (Q .normal) Q) a w) : WP2 b P (.block id c) Q a w := by
 rw [exb_eq] at h
 exact ⟨wp_block h.1, fun hb hQ l n => wpIn_block (h.2 hb (fun ho => hQ ho) l n)⟩
theorem k_n (h : K a w) : wpList P ops (Exit.then K Q) [] a w := h
theorem k_nB (h : K a w) : wpList P ops (ExB id K Q) [] a w := h
end
section
variable {Q : Exit → Act → World → Prop} {a : Act} {w : World} {ops : Array Oper} {rest : List Oper} {l : List (Tmp × Value)} {d : Tmp} {x : Operand} {ty t T : TypeId} {ps : String} {af : Array Edge} {v : Value} {g k : Nat}
theorem q_ex1 {vs : List Value} (hx : (putsR a l).eval x = .tuple vs.toArray) (hv : getR vs k = some v) (h : wpList Tryz.prog ops Q rest (putsR a ((d, v) :: l)) w) : wpList Tryz.prog ops Q (⟨some d, .extract x k, ty, ps, af, none⟩ :: rest) (putsR a l) w := q_ex hx (by simpa using getA (c := vs.toArray) hv) h
theorem q_ld1 (hx : (putsR a l).eval x = .pointer (some ⟨g, k, none⟩)) (hB : Blk w g cur.toArray T) (hv : getR cur k = some v)
  (h : wpList Tryz.prog ops Q rest (putsR a ((d, v) :: l)) w) (ht : IsOne t := by exact ⟨by kernel_rfl, by kernel_rfl⟩) : wpList Tryz.prog ops Q (⟨some d, .load t x, ty, ps, af, none⟩ :: rest) (putsR a l) w := q_ld hx hB (by simpa using getA (c := cur.toArray) hv) h ht
theorem q_fb (k' : Nat) {f : Nat} (h : wpList Tryz.prog ops Q rest (putsR a ((d, .pointer (some ⟨g, k', none⟩)) :: l)) w)
  (hx : (putsR a l).eval x = .pointer (some ⟨g, k, none⟩) := by exact ev) (hf : ∀ w : World, (Instr.fieldAt T (.pointer (some ⟨g, k, none⟩)) f).run Tryz.prog w = .ok (.pointer (some ⟨g, k', none⟩)) w := by exact fun _ => by kernel_rfl) : wpList Tryz.prog ops Q (⟨some d, .fieldAddr T x f, ty, ps, af, none⟩ :: rest) (putsR a l) w := op_val rfl rfl (o_field rfl hx hf) h
end
def Imp (B A : Prop) : Prop := B → A
section
variable {b : Bool} {P : Program} {Q : Exit → Act → World → Prop} {a : Act} {w : World} {K : Act → World → Prop} {ops : Array Oper} {rest : List Oper} {l : List (Tmp × Value)} {d : Tmp} {x : Operand} {ty t : TypeId} {ps : String} {af : Array Edge} {v : Value} {g k id id' : Nat}
theorem r_mv (hx : (putsR a l).eval x = v) : Imp (wpList Tryz.prog ops Q rest (putsR a ((d, v) :: l)) w) (wpList Tryz.prog ops Q (⟨some d, .move x, ty, ps, af, none⟩ :: rest) (putsR a l) w) := fun h => q_mv hx h
theorem r_at (hx : (putsR a l).eval x = v) : Imp (wpList Tryz.prog ops Q rest (putsR a ((d, v) :: l)) w) (wpList Tryz.prog ops Q (⟨some d, .assign x, ty, ps, af, none⟩ :: rest) (putsR a l) w) := fun h => q_at hx h
theorem r_nc (hx : (putsR a l).eval x = .pointer (some p)) : Imp (wpList Tryz.prog ops Q rest (putsR a ((d, .pointer (some p)) :: l)) w) (wpList Tryz.prog ops Q (⟨some d, .nilCheck x, ty, ps, af, none⟩ :: rest) (putsR a l) w) := fun h => q_nc hx h
theorem r_ex {vs : List Value} (hx : (putsR a l).eval x = .tuple vs.toArray) (hv : getR vs k = some v) : Imp (wpList Tryz.prog ops Q rest (putsR a ((d, v) :: l)) w) (wpList Tryz.prog ops Q (⟨some d, .extract x k, ty, ps, af, none⟩ :: rest) (putsR a l) w) := fun h => q_ex1 hx hv h
theorem r_ld {T : TypeId} (hx : (putsR a l).eval x = .pointer (some ⟨g, k, none⟩)) (hB : Blk w g cur.toArray T) (hv : getR cur k = some v) (ht : IsOne t) : Imp (wpList Tryz.prog ops Q rest (putsR a ((d, v) :: l)) w) (wpList Tryz.prog ops Q (⟨some d, .load t x, ty, ps, af, none⟩ :: rest) (putsR a l) w) := fun h => q_ld1 hx hB hv h ht
theorem r_n : Imp (K a w) (wpList P ops (Exit.then K Q) [] a w) := fun h => k_n h
theorem r_nB : Imp (K a w) (wpList P ops (ExB id K Q) [] a w) := fun h => k_nB h
theorem r_tn : Imp (K a w) (Exit.then K Q .normal a w) := fun h => h
theorem r_en : Imp (K a w) (ExB id K Q .normal a w) := fun h => h
theorem r_tr : Imp (Q .ret a w) (Exit.then K Q .ret a w) := fun h => h
theorem r_er : Imp (Q .ret a w) (ExB id K Q .ret a w) := fun h => h
theorem r_te : Imp (Q (.exit id) a w) (Exit.then K Q (.exit id) a w) := fun h => h
theorem r_eh : Imp (K a w) (ExB id K Q (.exit id) a w) := fun h => exb_hit h
theorem r_eo (hn : Nat.beq id' id = false) : Imp (Q (.exit id') a w) (ExB id K Q (.exit id') a w) := fun h => exb_out hn h
theorem r_sq : Imp (WP2 b P c (Exit.then (WP2 b P y Q) Q) a w) (WP2 b P (.seq c y) Q a w) := fun h => k_seq h
theorem r_bk : Imp (WP2 b P c (ExB id (Q .normal) Q) a w) (WP2 b P (.block id c) Q a w) := fun h => k_blk h
theorem r_rg (hnd : noDef ls.toArray = true) : Imp (wpList P ls.toArray Q ls (putsR a l) w) (WP2 b P (.region id ls.toArray false) Q (putsR a l) w) := fun h => k_rg h hnd
theorem r_sk : Imp (Q .normal a w) (WP2 b P .skip Q a w) := fun h => w2_skip h
theorem r_xt : Imp (Q (.exit id) a w) (WP2 b P (.exit id) Q a w) := fun h => w2_exit h
theorem r_rt : Imp (Q .ret a w) (WP2 b P .ret Q a w) := fun h => w2_ret h
theorem r_cT (hc : a.eval x = .bool true) : Imp (WP2 b P y Q a w) (WP2 b P (.cond x y z) Q a w) := fun h => w2_condT hc h
theorem r_cF (hc : a.eval x = .bool false) : Imp (WP2 b P z Q a w) (WP2 b P (.cond x y z) Q a w) := fun h => w2_condF hc h
end
def CallK (P : Program) (f : FuncId) (vs : Array Value) (w : World) (K : Value → World → Prop) : Prop :=
 ∃ (fn : Func) (R : Ending → World → Prop), P.funcs[f]? = some fn ∧ Calls P f vs w R ∧ (fn.name == "runtime.NumGoroutine") = false ∧ fn.body.isSome = true ∧ ∀ e w', R e w' → ∃ v, e = .returned v ∧ K v w'
section
variable {P : Program} {Q : Exit → Act → World → Prop} {a : Act} {w : World} {ops : Array Oper} {rest : List Oper} {l : List (Tmp × Value)} {d : Tmp} {ty : TypeId} {ps : String} {af : Array Edge} {f : FuncId} {fn : Func} {vs : Array Value} {args : Array Operand} {tys : Array TypeId} {R : Ending → World → Prop} {K : Value → World → Prop}
theorem r_ca (ha : args.map (putsR a l).eval = vs) : Imp (CallK P f vs w (fun v w' => wpList P ops Q rest (putsR a ((d, v) :: l)) w')) (wpList P ops Q (⟨some d, .call { callee := .value (.func f), args := args, argTypes := tys }, ty, ps, af, none⟩ :: rest) (putsR a l) w) := by
 rintro ⟨fn, R, hf, hc, h1, h2, h⟩
 exact q_ca hf ha hc h h1 h2
theorem k_c (hf : P.funcs[f]? = some fn) (hc : Calls P f vs w R) (h : ∀ e w', R e w' → ∃ v, e = .returned v ∧ K v w') (h1 : (fn.name == "runtime.NumGoroutine") = false := by kernel_rfl) (h2 : fn.body.isSome = true := by kernel_rfl) : CallK P f vs w K := ⟨fn, R, hf, hc, h1, h2, h⟩
end
theorem e1 (h : B) (f : Imp B A := by
 first
 | (with_reducible apply r_mv); exact ev
 | (with_reducible apply r_at); exact ev
 | (with_reducible apply r_nc); exact ev
 | (with_reducible apply r_ex); (exact ev); exact rfl
 | (with_reducible apply r_ld); (exact ev); (with_reducible assumption); (exact rfl); exact ⟨by kernel_rfl, by kernel_rfl⟩
 | (with_reducible apply r_ca); first | ((with_reducible apply args1); exact ev) | ((with_reducible apply args2); (exact ev); exact ev) | ((with_reducible apply args3); (exact ev); (exact ev); exact ev) | ((with_reducible apply args4); (exact ev); (exact ev); (exact ev); exact ev) | exact args0
 | with_reducible exact r_n
 | with_reducible exact r_nB
 | with_reducible exact r_tn
 | with_reducible exact r_en
 | with_reducible exact r_tr
 | with_reducible exact r_er
 | with_reducible exact r_te
 | with_reducible exact r_eh
 | (with_reducible apply r_eo); rfl
 | with_reducible exact r_sq
 | with_reducible exact r_bk
 | (with_reducible apply r_rg); kernel_rfl
 | with_reducible exact r_sk
 | (with_reducible apply r_cT); exact ev
 | (with_reducible apply r_cF); exact ev
 | with_reducible exact r_rt
 | with_reducible exact r_xt
 | exact fun hB => ret1 rfl (by with_reducible assumption) ev hB
 | exact fun hB => ret2 rfl (by with_reducible assumption) ev ev hB
 | exact fun hB => ret0 rfl (by with_reducible assumption) hB
 | exact fun hB => end0 rfl (by with_reducible assumption) hB) : A := f h
section
variable {P : Program} {Q : Exit → Act → World → Prop} {a : Act} {w : World} {ops : Array Oper} {o : Oper} {rest : List Oper} {l : List (Tmp × Value)}
theorem q_g (e : Tmp) (v : Value) (hr : (execOp (putsR a l).eval o).run P w = .ok (.value v) w') (h : wpList P ops Q rest (putsR a ((d, v) :: l)) w') (hd : o.dst = some d := by rfl) (hg : o.guard = some (g, b) := by rfl) (hb : (putsR a l).eval (.tmp e) = .bool b := by exact ev) (he : ((ops[g]?).bind (·.dst)) = some e := by kernel_rfl) : wpList P ops Q (o :: rest) (putsR a l) w := op_valG hd hg he hb hr h
theorem q_l (e : Tmp) {c : Bool} (h : wpList P ops Q rest (putsR a ((d, undef) :: l)) w) (hd : o.dst = some d := by rfl) (hg : o.guard = some (g, b) := by rfl) (hb : (putsR a l).eval (.tmp e) = .bool c := by exact ev) (hne : (c == b) = false := by rfl) (he : ((ops[g]?).bind (·.dst)) = some e := by kernel_rfl) : wpList P ops Q (o :: rest) (putsR a l) w := op_left hd hg he hb hne h
theorem q_x {R : Value → World → Prop} (hr : ∃ v w', (execOp (putsR a l).eval o).run P w = .ok (.value v) w' ∧ R v w') (h : ∀ v w', R v w' → wpList P ops Q rest (putsR a ((d, v) :: l)) w') (hd : o.dst = some d := by rfl) (hg : o.guard = none := by rfl) : wpList P ops Q (o :: rest) (putsR a l) w := op_ex hd hg hr h
theorem q_d {R : World → Prop} (hr : ∃ w', (execOp (putsR a l).eval o).run P w = .ok .skip w' ∧ R w') (h : ∀ w', R w' → wpList P ops Q rest (putsR a l) w') (hd : o.dst = none := by rfl) (hg : o.guard = none := by rfl) : wpList P ops Q (o :: rest) (putsR a l) w := op_do hd hg hr h
end
section
variable {P : Program} {l : List Oper} {S : List (World → Value → Prop)} {ds : List Tmp} {a : Act} {w : World} {i : Nat} {o : Oper} {V : Value} {t : Tmp}
end
section
variable {l : List Oper} {S : List (World → Value → Prop)} {ds : List Tmp} {a : Act} {r : List (Tmp × Value)} {w : World} {i : Nat} {o : Oper} {V : Value} {t : Tmp} {g k f : Nat} {T U : TypeId}
end
section
variable {P : Program} {l : List Oper} {kd : Nat → HK} {S : Nat → World → Value → Prop} {H : (Nat → Bool) → World → Prop} {X : Nat → Prop} {Q : Exit → Act → World → Prop} {n : Nat} {a0 : Act} {w0 : World} {i : Nat} {o : Oper} {V : Value} {t : Tmp}
theorem dH (hat : AtHot l kd S H X n a0 w0 i o L a w) (j : Nat) {R : Prop} (h2 : dstOf l j = some t) (h3 : S j w (a.eval (.tmp t)) = R) (h1 : (o.after.any fun e => Region.binds .any e && e.on == j) = true := by kernel_rfl) (hk : kd j ≠ .hot := by decide) : R := by
 obtain ⟨e, he, hb⟩ := Array.any_eq_true'.1 h1
 simp only [Bool.and_eq_true, beq_iff_eq] at hb
 rw [← h3]
 have h := hat.deps e he hb.1 t (by rw [hb.2]; exact hk) (by rw [hb.2]; exact h2)
 rwa [hb.2] at h
theorem fH (hat : AtHot l kd S H X n a0 w0 i o L a w) (h : a0.eval (.tmp t) = V) (hc : ∀ j, j < n → dstOf l j ≠ some t := by decide) : a.eval (.tmp t) = V := (hat.others t hc).trans h
end
section
variable {l : List Oper} {kd : Nat → HK} {S : Nat → World → Value → Prop} {H : (Nat → Bool) → World → Prop} {X : Nat → Prop} {Q : Exit → Act → World → Prop} {n : Nat} {a : Act} {r : List (Tmp × Value)} {w0 : World} {i : Nat} {o : Oper} {V : Value} {t : Tmp} {g k f : Nat} {T U : TypeId}
end
def idx : List Oper → Tmp → Nat → Nat
 | [], _, n => n
 | o :: l, t, n => bif (match o.dst with | some d => Nat.beq d t | none => false) then n else idx l t (n + 1)
section
variable {P : Program} {l : List Oper} {S : List (World → Value → Prop)} {ds : List Tmp} {a : Act} {w : World} {i : Nat} {o : Oper} {V : Value} {t : Tmp}
theorem eK (hO : FreeD ds a' a0) (hc : ds.contains t = false) (h : a0.eval (.tmp t) = V) : a'.eval (.tmp t) = V := (hO t hc).trans h
theorem eI (hD : DepS l S o a' w') (h1 : (o.after.any fun e => Region.binds .any e && e.on == idx l t 0) = true) (h2 : dstOf l (idx l t 0) = some t) (h3 : nthS S (idx l t 0) = (fun _ v => v = V)) : a'.eval (.tmp t) = V := by
 have h := hD _ t h1 h2
 rw [h3] at h
 exact h
theorem eW (hV : ∀ i d, Nat.blt i n = true → dstOf l i = some d → nthS S i w' (a'.eval (.tmp d))) (h1 : Nat.blt (idx l t 0) n = true) (h2 : dstOf l (idx l t 0) = some t) (h3 : nthS S (idx l t 0) = (fun _ v => v = V)) : a'.eval (.tmp t) = V := by
 have h := hV _ t h1 h2
 rw [h3] at h
 exact h
theorem oV {S : Nat → World → Value → Prop} (hr : (execOp a'.eval o).run P w' = .ok (.value V) w') (hS : S i w' V) : Outcome P S a' w' i o := .inl ⟨_, _, hr, hS, Below.refl _ _⟩
theorem oC {S : Nat → World → Value → Prop} {f : FuncId} {vs : Array Value} (hf : P.funcs[f]? = some fn) (ho : o.op = .call { callee := .value (.func f), args := args, argTypes := tys }) (ha : args.map a'.eval = vs) (hc : Calls P f vs w' fun e w'' => ∃ v, e = .returned v ∧ S i w'' v ∧ Below w'.heap.size w' w'')
  (h1 : (fn.name == "runtime.NumGoroutine") = false := by kernel_rfl) (h2 : fn.body.isSome = true := by kernel_rfl) : Outcome P S a' w' i o := .inr ⟨f, vs, exec_call hf h1 h2 _ ho _ _ ha, hc⟩
end
theorem ed (h : a.eval x = V := by
 first
 | exact eK (by with_reducible assumption) (by decide) ev
 | exact eI (by with_reducible assumption) (by kernel_rfl) (by kernel_rfl) rfl
 | rfl
 | (with_reducible assumption)) : a.eval x = V := h
theorem sx (h : A := by
 first
 | refine step_ok rfl fun a' w' hb' hO hD => ?_
 | refine stepM_val rfl rfl fun a' w' hb' hO hD => ?_
 | refine stepH_val rfl rfl fun a' w' hb' hO hD hBl => ?_
 | refine step_yes _ _ _ rfl rfl (by kernel_rfl) (fun _ _ h => h) fun a' w' hb' hO hD => ?_
 first
 | exact oV (o_move rfl ed) rfl
 | exact oV (o_nilCheck rfl ed) rfl
 | exact oV (o_field rfl ed (fun _ => by kernel_rfl)) rfl
 | exact oV (o_assign rfl ed) rfl
 | exact oV (o_load1 rfl ed (by first | exact Blk.nx (by with_reducible assumption) hb' | exact hb'.blk (by with_reducible assumption) (by with_reducible assumption)) (by exact rfl) ⟨by kernel_rfl, by kernel_rfl⟩) rfl
 | exact oV (o_len rfl ed) rfl
 | exact oV (o_extract rfl ed (by exact rfl)) rfl) : A := h
section
variable {P : Program} {l : List Oper} {kd : Nat → HK} {S : Nat → World → Value → Prop} {H : (Nat → Bool) → World → Prop} {X : Nat → Prop} {Q : Exit → Act → World → Prop} {n : Nat} {a0 : Act} {w0 : World} {i : Nat} {o : Oper} {V : Value} {t : Tmp}
theorem eJ (t : Tmp) (hat : AtHot l kd S H X n a0 w0 i o L a w) (h1 : (o.after.any fun e => Region.binds .any e && e.on == idx l t 0) = true) (hk : kd (idx l t 0) ≠ .hot) (h2 : dstOf l (idx l t 0) = some t) : S (idx l t 0) w (a.eval (.tmp t)) := by
 obtain ⟨e, he, hb⟩ := Array.any_eq_true'.1 h1
 simp only [Bool.and_eq_true, beq_iff_eq] at hb
 have h := hat.deps e he hb.1 t (by rw [hb.2]; exact hk) (by rw [hb.2]; exact h2)
 rwa [hb.2] at h
theorem eJV (hat : AtHot l kd S H X n a0 w0 i o L a w) (h1 : (o.after.any fun e => Region.binds .any e && e.on == idx l t 0) = true) (hk : kd (idx l t 0) ≠ .hot) (h2 : dstOf l (idx l t 0) = some t) (h3 : ∀ v, S (idx l t 0) w v = (v = V)) : a.eval (.tmp t) = V := by
 rw [← h3]
 exact eJ t hat h1 hk h2
theorem eN (hat : AtHot l kd S H X n a0 w0 i o L a w) (hc : dstOf l (idx l t 0) = none) (h : a0.eval (.tmp t) = V) : a.eval (.tmp t) = V := by
 refine (hat.others t (fun j _ hj => ?_)).trans h
 have : ∀ (l : List Oper) (m : Nat), (∃ j, dstOf l j = some t) → ∃ k, idx l t m = m + k ∧ dstOf l k ≠ none := by
  intro l
  induction l with
  | nil => intro m ⟨j, hj⟩; simp [dstOf] at hj
  | cons o l ih =>
   intro m ⟨j, hj⟩
   unfold idx
   cases hb : (match o.dst with | some d => Nat.beq d t | none => false) with
   | true => exact ⟨0, rfl, by cases ho : o.dst with | none => rw [ho] at hb; cases hb | some d => simp [dstOf, ho]⟩
   | false =>
    cases j with
    | zero => exfalso; have hd : o.dst = some t := by simpa [dstOf] using hj
              rw [hd] at hb; simp at hb
    | succ j =>
     obtain ⟨k, hk, hn⟩ := ih (m + 1) ⟨j, by simpa [dstOf] using hj⟩
     exact ⟨k + 1, by show idx l t (m + 1) = _; omega, by simpa [dstOf] using hn⟩
 obtain ⟨k, hk, hn⟩ := this l 0 ⟨j, hj⟩
 rw [Nat.zero_add] at hk
 rw [hk] at hc
 exact hn hc
end
theorem eh (h : a.eval x = V := by
 first
 | exact eN (by with_reducible assumption) (by kernel_rfl) (by first | exact ev | rfl)
 | exact eJV (by with_reducible assumption) (by kernel_rfl) (by decide) (by kernel_rfl) (by exact fun _ => rfl)
 | rfl
 | (with_reducible assumption)) : a.eval x = V := h
theorem hx (h : A := by
 refine hot_val rfl rfl fun L a w' hat => ?_
 first
 | exact oV (o_move rfl eh) rfl
 | exact oV (o_nilCheck rfl eh) rfl
 | exact oV (o_field rfl eh (fun _ => by kernel_rfl)) rfl
 | exact oV (o_assign rfl eh) rfl
 | exact oV (o_extract rfl eh (by exact rfl)) rfl) : A := h
abbrev Goes (w w' : World) (A B : Prop) : Prop := Below w.heap.size w w' → A → B
abbrev GoesX (g : Nat) (w w' : World) (A B : Prop) : Prop := BelowX (fun k => k = g) w w' → A → B
theorem nx2 (hb : Below w.heap.size w w') (a : A) (b : B) (fA : Goes w w' A A' := by exact fun hb h => h.nx hb) (fB : Goes w w' B B' := by exact fun hb h => h.nx hb) : A' ∧ B' := ⟨fA hb a, fB hb b⟩
theorem nx3 (hb : Below w.heap.size w w') (a : A) (b : B) (c : C) (fA : Goes w w' A A' := by exact fun hb h => h.nx hb) (fB : Goes w w' B B' := by exact fun hb h => h.nx hb) (fC : Goes w w' C C' := by exact fun hb h => h.nx hb) : A' ∧ B' ∧ C' := ⟨fA hb a, fB hb b, fC hb c⟩
theorem nx4 (hb : Below w.heap.size w w') (a : A) (b : B) (c : C) (d : D) (fA : Goes w w' A A' := by exact fun hb h => h.nx hb) (fB : Goes w w' B B' := by exact fun hb h => h.nx hb) (fC : Goes w w' C C' := by exact fun hb h => h.nx hb) (fD : Goes w w' D D' := by exact fun hb h => h.nx hb) : A' ∧ B' ∧ C' ∧ D' := ⟨fA hb a, fB hb b, fC hb c, fD hb d⟩
theorem nx5 (hb : Below w.heap.size w w') (a : A) (b : B) (c : C) (d : D) (e : E) (fA : Goes w w' A A' := by exact fun hb h => h.nx hb) (fB : Goes w w' B B' := by exact fun hb h => h.nx hb) (fC : Goes w w' C C' := by exact fun hb h => h.nx hb) (fD : Goes w w' D D' := by exact fun hb h => h.nx hb) (fE : Goes w w' E E' := by exact fun hb h => h.nx hb) : A' ∧ B' ∧ C' ∧ D' ∧ E' := ⟨fA hb a, fB hb b, fC hb c, fD hb d, fE hb e⟩
theorem nx6 (hb : Below w.heap.size w w') (a : A) (b : B) (c : C) (d : D) (e : E) (f : F) (fA : Goes w w' A A' := by exact fun hb h => h.nx hb) (fB : Goes w w' B B' := by exact fun hb h => h.nx hb) (fC : Goes w w' C C' := by exact fun hb h => h.nx hb) (fD : Goes w w' D D' := by exact fun hb h => h.nx hb) (fE : Goes w w' E E' := by exact fun hb h => h.nx hb) (fF : Goes w w' F F' := by exact fun hb h => h.nx hb) : A' ∧ B' ∧ C' ∧ D' ∧ E' ∧ F' := ⟨fA hb a, fB hb b, fC hb c, fD hb d, fE hb e, fF hb f⟩
theorem nx7 (hb : Below w.heap.size w w') (a : A) (b : B) (c : C) (d : D) (e : E) (f : F) (g : G) (fA : Goes w w' A A' := by exact fun hb h => h.nx hb) (fB : Goes w w' B B' := by exact fun hb h => h.nx hb) (fC : Goes w w' C C' := by exact fun hb h => h.nx hb) (fD : Goes w w' D D' := by exact fun hb h => h.nx hb) (fE : Goes w w' E E' := by exact fun hb h => h.nx hb) (fF : Goes w w' F F' := by exact fun hb h => h.nx hb) (fG : Goes w w' G G' := by exact fun hb h => h.nx hb) : A' ∧ B' ∧ C' ∧ D' ∧ E' ∧ F' ∧ G' := ⟨fA hb a, fB hb b, fC hb c, fD hb d, fE hb e, fF hb f, fG hb g⟩
theorem nx8 {H : Prop} (hb : Below w.heap.size w w') (a : A) (b : B) (c : C) (d : D) (e : E) (f : F) (g : G) (h : H) (fA : Goes w w' A A' := by exact fun hb h => h.nx hb) (fB : Goes w w' B B' := by exact fun hb h => h.nx hb) (fC : Goes w w' C C' := by exact fun hb h => h.nx hb) (fD : Goes w w' D D' := by exact fun hb h => h.nx hb) (fE : Goes w w' E E' := by exact fun hb h => h.nx hb) (fF : Goes w w' F F' := by exact fun hb h => h.nx hb) (fG : Goes w w' G G' := by exact fun hb h => h.nx hb) (fH : Goes w w' H H' := by exact fun hb h => h.nx hb) : A' ∧ B' ∧ C' ∧ D' ∧ E' ∧ F' ∧ G' ∧ H' := ⟨fA hb a, fB hb b, fC hb c, fD hb d, fE hb e, fF hb f, fG hb g, fH hb h⟩
theorem kx2 (hb : BelowX (fun j => j = k) w w') (a : A) (b : B) (fA : GoesX k w w' A A' := by exact fun hX h => h.keepX (by with_reducible assumption) (by decide) hX) (fB : GoesX k w w' B B' := by exact fun hX h => h.keepX (by with_reducible assumption) (by decide) hX) : A' ∧ B' := ⟨fA hb a, fB hb b⟩
theorem kx3 (hb : BelowX (fun j => j = k) w w') (a : A) (b : B) (c : C) (fA : GoesX k w w' A A' := by exact fun hX h => h.keepX (by with_reducible assumption) (by decide) hX) (fB : GoesX k w w' B B' := by exact fun hX h => h.keepX (by with_reducible assumption) (by decide) hX) (fC : GoesX k w w' C C' := by exact fun hX h => h.keepX (by with_reducible assumption) (by decide) hX) : A' ∧ B' ∧ C' := ⟨fA hb a, fB hb b, fC hb c⟩
theorem kx4 (hb : BelowX (fun j => j = k) w w') (a : A) (b : B) (c : C) (d : D) (fA : GoesX k w w' A A' := by exact fun hX h => h.keepX (by with_reducible assumption) (by decide) hX) (fB : GoesX k w w' B B' := by exact fun hX h => h.keepX (by with_reducible assumption) (by decide) hX) (fC : GoesX k w w' C C' := by exact fun hX h => h.keepX (by with_reducible assumption) (by decide) hX) (fD : GoesX k w w' D D' := by exact fun hX h => h.keepX (by with_reducible assumption) (by decide) hX) : A' ∧ B' ∧ C' ∧ D' := ⟨fA hb a, fB hb b, fC hb c, fD hb d⟩
theorem kx5 (hb : BelowX (fun j => j = k) w w') (a : A) (b : B) (c : C) (d : D) (e : E) (fA : GoesX k w w' A A' := by exact fun hX h => h.keepX (by with_reducible assumption) (by decide) hX) (fB : GoesX k w w' B B' := by exact fun hX h => h.keepX (by with_reducible assumption) (by decide) hX) (fC : GoesX k w w' C C' := by exact fun hX h => h.keepX (by with_reducible assumption) (by decide) hX) (fD : GoesX k w w' D D' := by exact fun hX h => h.keepX (by with_reducible assumption) (by decide) hX) (fE : GoesX k w w' E E' := by exact fun hX h => h.keepX (by with_reducible assumption) (by decide) hX) : A' ∧ B' ∧ C' ∧ D' ∧ E' := ⟨fA hb a, fB hb b, fC hb c, fD hb d, fE hb e⟩
theorem kx6 (hb : BelowX (fun j => j = k) w w') (a : A) (b : B) (c : C) (d : D) (e : E) (f : F) (fA : GoesX k w w' A A' := by exact fun hX h => h.keepX (by with_reducible assumption) (by decide) hX) (fB : GoesX k w w' B B' := by exact fun hX h => h.keepX (by with_reducible assumption) (by decide) hX) (fC : GoesX k w w' C C' := by exact fun hX h => h.keepX (by with_reducible assumption) (by decide) hX) (fD : GoesX k w w' D D' := by exact fun hX h => h.keepX (by with_reducible assumption) (by decide) hX) (fE : GoesX k w w' E E' := by exact fun hX h => h.keepX (by with_reducible assumption) (by decide) hX) (fF : GoesX k w w' F F' := by exact fun hX h => h.keepX (by with_reducible assumption) (by decide) hX) : A' ∧ B' ∧ C' ∧ D' ∧ E' ∧ F' := ⟨fA hb a, fB hb b, fC hb c, fD hb d, fE hb e, fF hb f⟩
theorem kx7 (hb : BelowX (fun j => j = k) w w') (a : A) (b : B) (c : C) (d : D) (e : E) (f : F) (g : G) (fA : GoesX k w w' A A' := by exact fun hX h => h.keepX (by with_reducible assumption) (by decide) hX) (fB : GoesX k w w' B B' := by exact fun hX h => h.keepX (by with_reducible assumption) (by decide) hX) (fC : GoesX k w w' C C' := by exact fun hX h => h.keepX (by with_reducible assumption) (by decide) hX) (fD : GoesX k w w' D D' := by exact fun hX h => h.keepX (by with_reducible assumption) (by decide) hX) (fE : GoesX k w w' E E' := by exact fun hX h => h.keepX (by with_reducible assumption) (by decide) hX) (fF : GoesX k w w' F F' := by exact fun hX h => h.keepX (by with_reducible assumption) (by decide) hX) (fG : GoesX k w w' G G' := by exact fun hX h => h.keepX (by with_reducible assumption) (by decide) hX) : A' ∧ B' ∧ C' ∧ D' ∧ E' ∧ F' ∧ G' := ⟨fA hb a, fB hb b, fC hb c, fD hb d, fE hb e, fF hb f, fG hb g⟩
theorem kx8 {H : Prop} (hb : BelowX (fun j => j = k) w w') (a : A) (b : B) (c : C) (d : D) (e : E) (f : F) (g : G) (h : H) (fA : GoesX k w w' A A' := by exact fun hX h => h.keepX (by with_reducible assumption) (by decide) hX) (fB : GoesX k w w' B B' := by exact fun hX h => h.keepX (by with_reducible assumption) (by decide) hX) (fC : GoesX k w w' C C' := by exact fun hX h => h.keepX (by with_reducible assumption) (by decide) hX) (fD : GoesX k w w' D D' := by exact fun hX h => h.keepX (by with_reducible assumption) (by decide) hX) (fE : GoesX k w w' E E' := by exact fun hX h => h.keepX (by with_reducible assumption) (by decide) hX) (fF : GoesX k w w' F F' := by exact fun hX h => h.keepX (by with_reducible assumption) (by decide) hX) (fG : GoesX k w w' G G' := by exact fun hX h => h.keepX (by with_reducible assumption) (by decide) hX) (fH : GoesX k w w' H H' := by exact fun hX h => h.keepX (by with_reducible assumption) (by decide) hX) : A' ∧ B' ∧ C' ∧ D' ∧ E' ∧ F' ∧ G' ∧ H' := ⟨fA hb a, fB hb b, fC hb c, fD hb d, fE hb e, fF hb f, fG hb g, fH hb h⟩
theorem fK {ds : List Tmp} (t : Tmp) (hO : FreeD ds a' a0) (h : a0.eval (.tmp t) = V := by exact ev) (hc : ds.contains t = false := by decide) : a'.eval (.tmp t) = V := eK hO hc h
theorem fN {l : List Oper} (t : Tmp) (hO : ∀ t, (∀ j, j < n → dstOf l j ≠ some t) → a'.eval (.tmp t) = a0.eval (.tmp t)) (h : a0.eval (.tmp t) = V := by exact ev) (hc : ∀ j, j < n → dstOf l j ≠ some t := by decide) : a'.eval (.tmp t) = V := (hO t hc).trans h
theorem fV {l : List Oper} {S : List (World → Value → Prop)} (t : Tmp) (hV : ∀ i d, Nat.blt i n = true → dstOf l i = some d → nthS S i w' (a'.eval (.tmp d))) (h1 : Nat.blt (idx l t 0) n = true := by kernel_rfl) (h2 : dstOf l (idx l t 0) = some t := by kernel_rfl) (h3 : nthS S (idx l t 0) = (fun _ v => v = V) := by exact rfl) : a'.eval (.tmp t) = V := eW hV h1 h2 h3
theorem fH2 {l : List Oper} {kd : Nat → HK} {S : Nat → World → Value → Prop} (t : Tmp) (hV : ∀ i, i < n → kd i ≠ .hot → ∀ d, dstOf l i = some d → S i w' (a'.eval (.tmp d))) (h1 : idx l t 0 < n := by decide) (hk : kd (idx l t 0) ≠ .hot := by decide) (h2 : dstOf l (idx l t 0) = some t := by kernel_rfl) (h3 : ∀ v, S (idx l t 0) w' v = (v = V) := by exact fun _ => rfl) : a'.eval (.tmp t) = V := by
 rw [← h3]
 exact hV _ h1 hk t h2
theorem tA {vs : List Value} (k : Nat) (ha : ∀ k v, vs.toArray[k]? = some v → a.eval (.tmp k) = v) (h : getR vs k = some v := by exact rfl) : a.eval (.tmp k) = v := ha k v (getA (c := vs.toArray) h)
theorem psz {l : List (Tmp × Value)} {N : Nat} (h : a.tmps.size = N) : (putsR a l).tmps.size = N := by rw [putsR_size]; exact h
theorem pdf {l : List (Tmp × Value)} {D : List Deferred} (h : a.defers = D) : (putsR a l).defers = D := by rw [putsR_defers]; exact h
section
variable {P : Program} {Q : Exit → Act → World → Prop} {a : Act} {w : World} {ops : Array Oper} {o : Oper} {rest : List Oper} {l : List (Tmp × Value)} {d : Tmp} {ty : TypeId} {ps : String} {af : Array Edge} {v : Value}
theorem q_w (hr : (execOp (putsR a l).eval o).run P w = .ok (.value v) w') (h : wpList P ops Q rest (putsR a ((d, v) :: l)) w') (hd : o.dst = some d := by rfl) (hg : o.guard = none := by rfl) : wpList P ops Q (o :: rest) (putsR a l) w := op_val hd hg hr h
end
abbrev iV (V : Value) : World → Value → Prop := fun _ v => v = V
abbrev iP (g k : Nat) : World → Value → Prop := fun _ v => v = .pointer (some ⟨g, k, none⟩)
abbrev iI (k : IntKind) (n : Nat) : World → Value → Prop := fun _ v => v = .int k ((n : Nat) : Int)
theorem sta (h : A := by repeat' first | exact trivial | refine And.intro stLit ?_ | refine And.intro stOwn ?_ | refine And.intro stBs ?_ | refine And.intro stTup ?_ | refine And.intro stTupH ?_ | refine And.intro stPtrH ?_ | refine And.intro stTupC ?_ | refine And.intro stPtrC ?_ | refine And.intro stEl ?_ | refine And.intro stParts ?_ | refine And.intro stRow2 ?_ | refine And.intro stRowO1 ?_ | refine And.intro stRowE3 ?_) : A := h
theorem sxs (h : A := by repeat' first | exact trivial | refine And.intro sx ?_) : A := h
section
variable {b : Bool} {P : Program} {Q : Exit → Act → World → Prop} {a : Act} {w : World} {id : Nat} {l : List Oper} {r : List (Tmp × Value)} {N : Nat} {dl : List Deferred}
theorem y_drawn (n : Nat) (S : List (World → Value → Prop)) (ds : List Tmp) (hs : a.tmps.size = N) (hdf : a.defers = dl) (hstep : StepsX P l S ds (putsR a r) w 0 (l.take n))
  (hend : ∀ (a' : Act) (w' : World), a'.tmps.size = N → a'.defers = dl → Below w.heap.size w w' → FreeD ds a' (putsR a r) → (∀ i d, Nat.blt i n = true → dstOf l i = some d → nthS S i w' (a'.eval (.tmp d))) → wpList P l.toArray Q (l.drop n) (putsR a' []) w')
  (hm : P.follows .mixedOrders = true := by kernel_rfl) (hnd : noDef l.toArray = true := by kernel_rfl) (hd : dstsB l n N = true := by kernel_rfl) (ht : tailB l n = true := by kernel_rfl) (hds : dstsOf (l.take n) = ds := by kernel_rfl) (hS : AllSt S := by exact sta) :
  WP2 b P (.region id l.toArray true) Q (putsR a r) w := x_drawn n S ds hs hdf hm hnd hd ht hds hS hstep hend
end
end Go.Proofs.YtkhbihnnkflfkaaGreat
