/-
 RangeI · Hkdf · Chain, IN ONE TEXT.
-/
import Derived.Test.YtkhbihnnkflfkaaGreatEz
import Derived.Test.YtkhbihnnkflfkaaGreatRange
import Derived.Test.YtkhbihnnkflfkaaGreatMem9
import Derived.Test.YtkhbihnnkflfkaaGreatHashM
import Derived.Test.YtkhbihnnkflfkaaGreatConcat
/-
 A RANGE OVER A FUNCTION WHOSE YIELDED VALUES LIE IN NEW MEMORY, and that is left by a break.
-/
namespace Go.Proofs.YtkhbihnnkflfkaaGreat
open Go.RowKit
set_option maxHeartbeats 8000000
set_option linter.unusedVariables false
set_option linter.unusedSimpArgs false
set_option maxRecDepth 100000

variable {d : Nat}
def roundEnd (B : Nat) (I X : World → Prop) (W : World) : Exit → Act → World → Prop
 | .normal, _, W' => KeepsFrom B W W' ∧ I W'
 | .exit id, _, W' => id = 0 ∧ KeepsFrom B W W' ∧ X W'
 | _, _, _ => False
def OfCells (B : Nat) (I : World → Prop) : Prop := ∀ (W : World) (l : Nat) (o o' : Obj), I W → B ≤ l → W.heap[l]? = some o → o.isCells = false → I (W.putObj l o')
structure Held (l d : Nat) (o : Obj) (W : World) : Prop where
 cell : W.heap[l]? = some o
 mark : W.heap[d]? = some (.deferred (some []))
theorem Held.nx {l : Nat} {o : Obj} {A B : World} (h : Held l d o A) (hb : Below A.heap.size A B) : Held l d o B :=
 ⟨(hb.block l (Array.getElem?_eq_some_iff.1 h.cell).1).trans h.cell, (hb.block d (Array.getElem?_eq_some_iff.1 h.mark).1).trans h.mark⟩
theorem Held.keep {l B : Nat} {r : Loop} {W W' : World} (h : Held l d (.loop r) W) (hk : KeepsFrom B W W') (hd : B ≤ d) (hl : B ≤ l) : Held l d (.loop r) W' := ⟨hk.same l _ hl h.cell rfl, hk.same d _ hd h.mark rfl⟩
theorem Held.turn {l : Nat} {o : Obj} {W : World} (h : Held l d o W) (hne : d ≠ l) (o' : Obj) : Held l d o' (W.putObj l o') :=
 ⟨World.putObj_heap_same (Array.getElem?_eq_some_iff.1 h.cell).1, (World.putObj_heap_other hne).trans h.mark⟩

theorem x_rangeI {P : Program} {Q : Exit → Act → World → Prop} {a : Act} {w : World} {ι : Type} {g : Operand} {ps : Array Tmp} {assign body : Code} {r : List (Tmp × Value)} {gf : Nat} {lb : Array Value} {fn : Func} (hg : (putsR a r).eval g = .func (.func gf) #[] lb)
  (hf : P.funcs[gf]? = some fn) (hname : (fn.name == "runtime.NumGoroutine") = false) (hbody' : fn.body.isSome = true)
  (encs : Nat → ι → Array Value) (S V : Nat → ι → World → Prop) (X : World → Prop) (N : Nat) (x0 : ι) (hps : ∀ k x, (encs k x).size = ps.size)
  (hIter : ∀ (l : Nat) (J : Nat → ι → World → Prop) (Jx : World → Prop) (W : World), (∀ k x A B, J k x A → Below A.heap.size A B → J k x B) → (∀ k x A, J k x A → S k x A) →
   (∀ k x x' W1, J k x W1 → V k x' W1 → k < N → YieldAt Fence.wide 7 P l (encs k x') W1 fun e W' => (e = .returned (.bool true) ∧ J (k + 1) x' W') ∨ (e = .returned (.bool false) ∧ Jx W')) →
   J 0 x0 W → CallsIn Fence.wide 8 P gf (#[.func (.yield l) #[] #[]] ++ lb) W fun e W' => (∃ v, e = .returned v) ∧ ((∃ x, J N x W') ∨ Jx W'))
  (hSb : ∀ k x A B, S k x A → Below A.heap.size A B → S k x B) (hSp : ∀ k x, OfCells w.heap.size (S k x)) (hVp : ∀ k x, OfCells w.heap.size (V k x)) (hXp : OfCells w.heap.size X)
  (h0 : S 0 x0 w) (Ax : Nat → ι → Act → Prop)
  (hassign : ∀ (k : Nat) (x : ι) (W : World) (K : Act → World → Prop), (∀ a', Ax k x a' → K a' W) →
   WP2 true P assign (Exit.then K (fun _ _ _ => False)) { tmps := (ps.zip (encs k x)).foldl (fun t (p, v) => t.setIfInBounds p v) (putsR a r).tmps, defers := [] } W)
  (hbody : ∀ (k : Nat) (x x' : ι) (a' : Act) (W : World), S k x W → V k x' W → Ax k x' a' → k < N → WP2 true P body (roundEnd w.heap.size (S (k + 1) x') X W) a' W)
  (hdone : ∀ x W, S N x W → False)
  (hstop : ∀ (D : Nat) (W : World), w.heap.size ≤ D → X W → W.heap[D]? = some (.deferred (some [])) → WP2 false P (.exit 0) Q { putsR a r with defers := { target := .collected D, args := #[] } :: (putsR a r).defers } W) :
  WP2 false P (.rangeFunc g ps assign body) Q (putsR a r) w := by
 refine ⟨(wpIn_wide (n := 9)).1 (wpIn_rangeFunc fun fi _ => ?_), fun h => by cases h⟩
 have hnm : fn.name ≠ "runtime.NumGoroutine" := by simpa using hname
 obtain ⟨c0, hc0⟩ := Option.isSome_iff_exists.1 hbody'
 let rc : LoopState → Option Code → Loop := fun st pe => { state := st, pending := pe, fn := fi, tmps := (putsR a r).tmps, params := ps, assign := assign, body := body, defers := w.heap.size }
 let wA := w.alloc (.deferred (some []))
 let W1 := wA.alloc (.loop (rc .ready none))
 have hb1 : Below w.heap.size w W1 := (((Below.refl _ w).alloc (Nat.le_refl _) _).alloc (by simp [wA]) _)
 have hH : Held (w.heap.size + 1) w.heap.size (.loop (rc .ready none)) W1 := by
  refine ⟨?_, (Below.heap_alloc wA _ _ (by simp [wA])).trans (World.alloc_heap_new w _)⟩
  have h1 := World.alloc_heap_new wA (.loop (rc .ready none))
  rwa [show wA.heap.size = w.heap.size + 1 from World.size_alloc ..] at h1
 refine ⟨w.heap.size + 1, [{ target := .collected w.heap.size, args := #[] }], W1, { target := .fn (.func gf) lb, args := #[.func (.yield (w.heap.size + 1)) #[] #[]] }, W1, gf, #[.func (.yield (w.heap.size + 1)) #[] #[]] ++ lb, W1, run_enterLoop_outer _ _ _ _ _, ?_, fun _ _ => trivial, ?_, fun _ => by omega, ?_⟩
 ·simp only [resolve, hg]
  simp [go_sem]
 ·have hcf : ∀ args W, (callFunc gf args).run P W = .ok (.enter gf args) W := fun args W => by simp [callFunc, hf, hnm, hc0]
  simp [invoke, go_sem, hcf]
 refine (hIter (w.heap.size + 1) (fun k x W => S k x W ∧ Held (w.heap.size + 1) w.heap.size (.loop (rc .ready none)) W) (fun W => X W ∧ Held (w.heap.size + 1) w.heap.size (.loop (rc .done (some (.exit 0)))) W) W1
  (fun k x A B h hb => ⟨hSb k x A B h.1 hb, h.2.nx hb⟩) (fun k x A h => h.1) ?_ ⟨hSb 0 x0 w W1 h0 hb1, hH⟩).mono ?_
 ·rintro k x x' W ⟨hS, hR⟩ hV hk
  have hy := run_yield (P := P) (args := encs k x') hR.cell (hps k x')
  refine ⟨fi, _, assign, body, hy, roundIn_of_wpIn trivial ((hassign k x' W _ (fun a' hax => ?_)).2 rfl (fun ⟨_, _, h⟩ => h) _ _)⟩
  refine ⟨_, run_beginRound hR.cell rfl, ?_⟩
  have hR2 := hR.turn (by omega) (.loop { rc .ready none with state := .busy })
  have hS2 := hSp k x W _ _ (.loop { rc .ready none with state := .busy }) hS (Nat.le_succ _) hR.cell rfl
  have hV2 := hVp k x' W _ _ (.loop { rc .ready none with state := .busy }) hV (Nat.le_succ _) hR.cell rfl
  refine wpIn_mono ((hbody k x x' a' _ hS2 hV2 hax hk).2 rfl (fun ⟨_, _, h⟩ => h) _ _) ?_
  rintro e a3 W3 hp
  cases e with
  | normal =>
   have hR3 := hR2.keep hp.1 (Nat.le_refl _) (Nat.le_succ _)
   exact ⟨_, _, run_endRound (P := P) none hR3.cell, .inl ⟨rfl, hSp (k + 1) x' W3 _ _ _ hp.2 (Nat.le_succ _) hR3.cell rfl, hR3.turn (by omega) _⟩⟩
  | exit id =>
   obtain ⟨rfl, hk3, hx3⟩ := hp
   have hR3 := hR2.keep hk3 (Nat.le_refl _) (Nat.le_succ _)
   exact ⟨_, _, run_endRound (P := P) (some (.exit 0)) hR3.cell, .inr ⟨rfl, hXp W3 _ _ _ hx3 (Nat.le_succ _) hR3.cell rfl, hR3.turn (by omega) _⟩⟩
  | ret => exact hp.elim
  | goto t => exact hp.elim
  | panic c => exact hp.elim
  | outgrown => exact hp.elim
 ·rintro e W2 ⟨⟨v, rfl⟩, ⟨x, hS, _⟩ | ⟨hX, hR⟩⟩
  ·exact (hdone x W2 hS).elim
  ·refine ⟨some (.exit 0), _, run_endLoop (P := P) hR.cell (by simp [rc]), ?_⟩
   exact wpIn_wide.2 (hstop w.heap.size _ (Nat.le_refl _) (hXp W2 _ _ _ hX (Nat.le_succ _) hR.cell rfl) ((World.putObj_heap_other (by omega)).trans hR.mark)).1
section
variable {P : Program} {Q : Exit → Act → World → Prop} {a : Act} {w : World} {ops : Array Oper} {o : Oper} {rest : List Oper} {l : List (Tmp × Value)}
theorem op_yield2 {d : Tmp} {x y z : Operand} {tys : Array TypeId} {m k : Nat} {v u : Value} {R : Ending → World → Prop} (hd : o.dst = some d) (hg : o.guard = none) (ho : o.op = .call { callee := .value x, args := #[y, z], argTypes := tys }) (hx : (putsR a l).eval x = .func (.yield k) #[] #[]) (hy : (putsR a l).eval y = v) (hz : (putsR a l).eval z = u)
  (hY : YieldAt Fence.wide m P k #[v, u] w R) (h : ∀ e w', R e w' → ∃ u, e = .returned u ∧ wpListIn Fence.wide 9 P ops Q rest (putsR a ((d, u) :: l)) w') : wpListIn Fence.wide 9 P ops Q (o :: rest) (putsR a l) w := by
 refine wpListIn_plain hg (fun K hK => ⟨fun _ _ => trivial, ?_⟩)
 have e : (o.semAt Fence.wide.round (putsR a l).eval) = execOp (putsR a l).eval o := rfl
 obtain ⟨fn, tmps, assign, body, h1, h2⟩ := yield_any (m := 8) hY
 have hrun : (execOp (putsR a l).eval o).run P w = .ok (.round k fn tmps assign body) w := by
  generalize (putsR a l).eval = ev at *
  simp [execOp, ho, resolve, hx, hy, hz, go_sem, h1]
 rw [e, hrun]
 refine ⟨(fun hh => (by cases hh)), h2.mono (fun e w' hR => ?_)⟩
 obtain ⟨u, rfl, h3⟩ := h e w' hR
 show K ((putsR a l).put o.dst u) w'
 rw [hd]
 exact hK _ _ h3
end
end Go.Proofs.YtkhbihnnkflfkaaGreat
/-
 WALKS: hkdf.parts, hkdf.Chain.
-/
namespace Go.Proofs.YtkhbihnnkflfkaaGreat
open Go.RowKit
set_option maxHeartbeats 8000000
set_option linter.unusedVariables false
set_option linter.unusedSimpArgs false
set_option maxRecDepth 100000
attribute [local irreducible] wpList wpListIn putsR

variable {c1 g2 g3 m : Nat} {prk xs : List Nat} {A1 : Option Addr}
def RowE3 (p q : Value) (m : Nat) (xs : List Nat) (ww : World) (vv : Value) : Prop := ∃ g A c, vv = .slice (some ⟨g, 0, none⟩) 3 3 ∧ Blk ww g #[p, q, .slice A m c] 22 ∧ Bs ww A c xs
theorem stRowE3 {p q : Value} : StP (RowE3 p q m xs) := fun _ _ _ ⟨g, A, c, hv, hB, hx⟩ hb => ⟨g, A, c, hv, hB.nx hb, hx.nx hb⟩
def chT (prk : List Nat) : Nat → List Nat
 | 0 => []
 | k + 1 => hmacL prk (chT prk k ++ [] ++ [k + 1])
theorem chT_length (prk : List Nat) (k : Nat) : (chT prk (k + 1)).length = 32 := hmacL_length _ _
theorem chT_le (prk : List Nat) (k : Nat) : (chT prk k).length ≤ 32 := by
 cases k with
 | zero => exact Nat.zero_le _
 | succ k => exact Nat.le_of_eq (chT_length prk k)
structure PJ (W : World) (g2 g3 : Nat) (A1 : Option Addr) (c1 : Nat) (prk : List Nat) (k : Nat) (x : Option Addr × Nat) : Prop where
 b2 : Blk W g2 #[.slice A1 32 c1] 22
 b3 : Blk W g3 #[.slice none 0 0] 22
 key : Wt W A1 c1 prk
 last : Wt W x.1 x.2 (chT prk k)
theorem PJ.nx {W W' : World} {k : Nat} {x : Option Addr × Nat} (h : PJ W g2 g3 A1 c1 prk k x) (hb : Below W.heap.size W W') : PJ W' g2 g3 A1 c1 prk k x := ⟨h.b2.nx hb, h.b3.nx hb, h.key.nx hb, h.last.nx hb⟩
theorem parts1_calls {l : Nat} (hp : prk.length = 32) (w : World) (J : Nat → Option Addr × Nat → World → Prop) (Jx : World → Prop) (hJb : ∀ k x A B, J k x A → Below A.heap.size A B → J k x B) (hJP : ∀ k x A, J k x A → PJ A g2 g3 A1 c1 prk k x)
  (hY : ∀ k x x' W1, J k x W1 → Wt W1 x'.1 x'.2 (chT prk (k + 1)) → k < 255 → YieldAt Fence.wide 7 Tryz.prog l #[.int .i64 ((k + 1 : Nat) : Int), .slice x'.1 32 x'.2] W1 fun e W' => (e = .returned (.bool true) ∧ J (k + 1) x' W') ∨ (e = .returned (.bool false) ∧ Jx W')) (h0 : J 0 (none, 0) w) :
  Calls Tryz.prog 117 #[.func (.yield l) #[] #[], .pointer (some ⟨g2, 0, none⟩), .pointer (some ⟨g3, 0, none⟩)] w fun e w' => (∃ v, e = .returned v) ∧ ((∃ x, J 255 x w') ∨ Jx w') := by
 refine x_enterI 24 Tryz.func117 rfl rfl (fun a hs hd ha0 => ?_)
 have t0 := tA 0 ha0
 have t1 := tA 1 ha0
 have t2 := tA 2 ha0
 clear ha0
 iterate 6 refine e1 ?_
 refine q_as (.int .i64 ((1 : Nat) : Int)) rfl ?_
 iterate 2 refine e1 ?_
 refine x_loop (fun nn aa ww => ∃ (k n : Nat) (A : Option Addr) (c : Nat), nn = 255 - k ∧ aa.tmps.size = 24 ∧ aa.defers = [] ∧ aa.eval (.tmp 0) = .func (.yield l) #[] #[] ∧ aa.eval (.tmp 1) = .pointer (some ⟨g2, 0, none⟩) ∧ aa.eval (.tmp 2) = .pointer (some ⟨g3, 0, none⟩) ∧ aa.eval (.tmp 4) = .slice A (n) (c) ∧ aa.eval (.tmp 5) = .int .i64 ((k + 1 : Nat) : Int) ∧ k ≤ 255 ∧ n = (chT prk k).length ∧ J k (A, c) ww) (255 - 0) ?_ ?_
 ·exact ⟨0, 0, none, 0, rfl, (psz hs), (pdf hd), ev, ev, ev, ev, ev, Nat.zero_le _, rfl, h0⟩
 ·skip
  rintro nna_1 a_1 w_1 ⟨k, n, A, c, hm_1, hs_1, hd_1, ta_1_0, ta_1_1, ta_1_2, ta_1_4, ta_1_5, hk, hn, hJ⟩ K_4 hK_4
  subst hm_1
  obtain ⟨B2, B3, hKy, hLs⟩ := hJP k (A, c) _ hJ
  have hn9 : (chT prk k).length = n := hn.symm
  have hn32 := chT_le prk k
  rw [hn9] at hn32
  dsimp only at hLs
  iterate 4 refine e1 ?_
  refine q_w (o_leq (n := 255) rfl ev rfl) ?_
  refine e1 ?_
  refine w2_split (pe hs_1 rfl rfl) (fun h_1 => ?_) (fun h_1 => ?_)
  ·simp only [DD9] at h_1
   have hlt : k + 1 ≤ 255 := h_1
   iterate 5 refine e1 ?_
   refine y_drawn 8 [iV (.slice A1 (32) (c1)), iV (.slice A (n) (c)), iV (.slice none (0) (0)), iV (.int .i64 ((k + 1 : Nat) : Int)), iV (.int .u8 ((k + 1 : Nat) : Int)), fun ww vv => OwnN w_1.heap.size 1 [k + 1] ww vv, fun ww vv => RowE3 (.slice A (n) (c)) (.slice none (0) (0)) 1 ([k + 1]) ww vv, fun ww vv => OwnN w_1.heap.size (n + 0 + 1) ((chT prk k) ++ [] ++ ([k + 1])) ww vv] [10, 11, 12, 13, 14, 15, 16, 17] hs_1 hd_1 ⟨(step_ok rfl fun a' w' hb' hO hD => oV (o_load1 rfl ed (B2.nx hb') rfl ⟨by kernel_rfl, by kernel_rfl⟩) rfl), sx, (step_ok rfl fun a' w' hb' hO hD => oV (o_load1 rfl ed (B3.nx hb') rfl ⟨by kernel_rfl, by kernel_rfl⟩) rfl), sx, (step_ok rfl fun a' w' hb' hO hD => oV (o_conv (m := (k + 1)) (r := k + 1) rfl ed ⟨.int .i64, fun _ => by kernel_rfl⟩ (fun _ => by kernel_rfl) (by rw [IntKind.wrap_u8]; omega)) rfl),
(step_ok rfl (fun a' w' hb' hO hD => by
     have d_6 : a'.eval (.tmp 14) = .int .u8 ((k + 1 : Nat) : Int) := hD 4 14 (by kernel_rfl) rfl
     exact out_new (o_build1 (m := k + 1) rfl d_6 (by omega)) (fun v w_2 hR => by obtain ⟨g_1, rfl, ho_1, hb_1⟩ := hR; exact ⟨⟨_, _, rfl, ho_1.mono hb'.size⟩, hb_1⟩))),
(step_ok rfl (fun a' w' hb' hO hD => by
     have d_7 : a'.eval (.tmp 11) = .slice A (n) (c) := hD 1 11 (by kernel_rfl) rfl
     have d_8 : a'.eval (.tmp 12) = .slice none (0) (0) := hD 2 12 (by kernel_rfl) rfl
     have d_9 := hD 5 15 (by kernel_rfl) rfl
     obtain ⟨A_1, c_1, hv_1, hO_1⟩ := d_9
     exact out_new (o_bldS (vs := #[(0, .slice A (n) (c)), (1, .slice none (0) (0)), (2, .slice A_1 (1) (c_1))]) (cs := #[.slice A (n) (c), .slice none (0) (0), .slice A_1 (1) (c_1)]) (e := 22) rfl (bld3 d_7 d_8 hv_1) (fun _ => by kernel_rfl)) (fun v w_3 hR => by obtain ⟨g_2, rfl, hle_2, hB_1, hb_2⟩ := hR; exact ⟨⟨_, _, _, rfl, hB_1, (hO_1).bs.nx hb_2⟩, hb_2⟩))),
(step_ok rfl (fun a' w' hb' hO hD => by
     have d_10 := hD 6 16 (by kernel_rfl) rfl
     obtain ⟨g_3, A_2, c_2, hv_2, hB_2, hx_2⟩ := d_10
     exact .inr ⟨_, #[.slice ((some ⟨g_3, 0, none⟩)) (3) (3)], (exec_call Tryz.func50 (by kernel_rfl) (by kernel_rfl) _ rfl _ _ (args1 hv_2)), Calls.mono (Concat3 _ hB_2 ((hLs.nx hb')).bs hn9 (Bs.nil _) rfl hx_2 (by simp only [List.length_cons, List.length_nil]) (by omega)) (fun e w'' hR => by obtain ⟨A_3, c_3, rfl, ho_2, hb_3⟩ := hR; exact ⟨_, rfl, ⟨_, _, rfl, ho_2.mono hb'.size⟩, hb_3⟩)⟩)), trivial⟩ (fun a_2 w_4 hs_2 hd_2 hb_4 hO_2 hV_1 => ?_)
   have ta_2_0 := fK 0 hO_2
   have ta_2_1 := fK 1 hO_2
   have ta_2_2 := fK 2 hO_2
   have ta_2_5 := fK 5 hO_2
   replace hJ := hJb _ _ _ _ hJ hb_4
   obtain ⟨B2, B3, hKy, hLs⟩ := nx4 hb_4 B2 B3 hKy hLs
   have ta_2_10 := fV 10 hV_1
   have x_1 := hV_1 5 15 rfl rfl
   obtain ⟨A_4, c_4, hv_3, hO_3⟩ := x_1
   have x_2 := hV_1 6 16 rfl rfl
   obtain ⟨g_4, A_5, c_5, hv_4, hB_3, hx_3⟩ := x_2
   have x_3 := hV_1 7 17 rfl rfl
   obtain ⟨A_6, c_6, hv_5, hO_4⟩ := x_3
   simp only [List.drop_succ_cons, List.drop_zero]
   refine e1 ?_
   refine k_c Tryz.func118 (hmac_any _ (hKy).bs hp (hO_4).bs (by simp only [List.length_append, hn9, List.length_cons, List.length_nil]) (by omega) (by omega)) ?_
   rintro e_1 w_5 ⟨A_7, c_7, rfl, ho_3, hb_5⟩
   replace ho_3 := ho_3.mono hb_4.size
   replace hJ := hJb _ _ _ _ hJ hb_5
   obtain ⟨B2, B3, hKy, hLs, hO_3, hx_3, hO_4⟩ := nx7 hb_5 B2 B3 hKy hLs hO_3 hx_3 hO_4
   refine ⟨_, rfl, ?_⟩
   iterate 2 refine e1 ?_
   refine w2_seq (fun K_10 hK_10 => ?_)
   refine x_regionI ?_
   refine op_valI (d := 19) (v := .func (.yield l) #[] #[]) rfl rfl (o_move rfl ((pm rfl).trans ta_2_0)) ?_
   refine op_valI (d := 20) (v := .int .i64 ((k + 1 : Nat) : Int)) rfl rfl (o_move rfl ((pm rfl).trans ta_2_5)) ?_
   refine op_valI (d := 21) (v := .slice A_7 (32) (c_7)) rfl rfl (o_move rfl (pe hs_2 rfl rfl)) ?_
   have hV_2 : Wt w_5 A_7 c_7 (chT prk (k + 1)) := ho_3.wt
   refine op_yield2 (d := 22) rfl rfl rfl (pe hs_2 rfl rfl) (pe hs_2 rfl rfl) (pe hs_2 rfl rfl) (hY k (A, c) (A_7, c_7) _ hJ hV_2 (by omega)) (fun e_2 w_6 hR_2 => ?_)
   rcases hR_2 with ⟨rfl, hJ2⟩ | ⟨rfl, hJx2⟩
   ·skip
    refine ⟨_, rfl, ?_⟩
    refine op_valI (d := 23) (v := .bool (false)) rfl rfl (o_not (b := true) rfl (pe hs_2 rfl rfl)) ?_
    refine x_nilI ?_
    refine hK_10 _ _ ?_
    iterate 6 refine e1 ?_
    refine q_w (o_add64 (n := 1) rfl ev rfl (by omega)) ?_
    refine e1 ?_
    refine x_nil ?_
    refine hK_4 _ _ _ ⟨k + 1, 32, A_7, c_7, rfl, (psz hs_2), (pdf hd_2), ev, ev, ev, ev, ev, (by omega), (chT_length prk k).symm, hJ2⟩ ?_
    omega
   ·skip
    refine ⟨_, rfl, ?_⟩
    refine op_valI (d := 23) (v := .bool (true)) rfl rfl (o_not (b := false) rfl (pe hs_2 rfl rfl)) ?_
    refine x_nilI ?_
    refine hK_10 _ _ ?_
    iterate 6 refine e1 ?_
    refine ret0 rfl hd_2 ?_
    exact ⟨⟨_, rfl⟩, .inr hJx2⟩
  ·simp only [DD9] at h_1
   obtain rfl : k = 255 := by omega
   iterate 4 refine e1 ?_
   refine end0 rfl hd_1 ?_
   exact ⟨⟨_, rfl⟩, .inl ⟨_, hJ⟩⟩
theorem parts_any {A0 : Option Addr} {c0 q q1 : Nat} (w : World) :
  Calls Tryz.prog 86 #[.slice A0 (q) (c0), .slice A1 (q1) (c1)] w fun e w' => ∃ g2 g3, e = .returned (.func (.func 117) #[] #[.pointer (some ⟨g2, 0, none⟩), .pointer (some ⟨g3, 0, none⟩)]) ∧ w.heap.size ≤ g2 ∧ w.heap.size ≤ g3 ∧ Blk w' g2 #[.slice A0 (q) (c0)] 22 ∧ Blk w' g3 #[.slice A1 (q1) (c1)] 22 ∧ Below w.heap.size w w' := by
 refine x_enter 6 Tryz.func86 rfl rfl (fun a hs hd ha0 => ?_)
 have t0 := tA 0 ha0
 have t1 := tA 1 ha0
 clear ha0
 iterate 2 refine e1 ?_
 refine q_x (o_box rfl ev rfl) (fun v_1 w_1 hR_1 => ?_)
 obtain ⟨g_1, rfl, hle_1, hB_1, hb_1⟩ := hR_1
 have ge_1 : w.heap.size ≤ g_1 := hle_1
 refine q_x (o_box rfl ev rfl) (fun v_2 w_2 hR_2 => ?_)
 obtain ⟨g_2, rfl, hle_2, hB_2, hb_2⟩ := hR_2
 have ge_2 : w.heap.size ≤ g_2 := Nat.le_trans hb_1.size hle_2
 replace hB_1 := hB_1.nx hb_2
 have HB_1 := below_from hb_1 hb_2
 refine q_as ((Value.nilFunc)) rfl ?_
 iterate 3 refine e1 ?_
 refine q_v 5 (.func (.func 117) #[] #[.pointer (some ⟨g_1, 0, none⟩), .pointer (some ⟨g_2, 0, none⟩)]) (o_makeFunc rfl (args2 ev ev)) ?_
 iterate 4 refine e1 ?_
 exact ⟨g_1, g_2, rfl, ge_1, ge_2, hB_1, hB_2, HB_1⟩
end Go.Proofs.YtkhbihnnkflfkaaGreat
/-
 WALK: hkdf.Chain.
-/
namespace Go.Proofs.YtkhbihnnkflfkaaGreat
open Go.RowKit
set_option maxHeartbeats 8000000
set_option linter.unusedVariables false
set_option linter.unusedSimpArgs false
set_option maxRecDepth 100000
attribute [local irreducible] wpList wpListIn putsR

variable {B B2 base c c1 g2 g3 g5 g8 k m n : Nat} {W' w : World} {row : Option Nat} {A A1 : Option Addr} {ps : List Part} {prk xs : List Nat}
theorem RowS.nc {W : World} (h : RowS W base A c ps) (hg : W.grownBy W' row) (hr : RowNC B W row) : RowS W' base A c ps := by
 refine ⟨h.1, ?_⟩
 rcases h.2 with h0 | ⟨g, cap, cur, hv, hb, hh, r⟩
 ·exact .inl h0
 ·exact .inr ⟨g, cap, cur, hv, hb, Blk.nc (T := 22) hh hg hr, r⟩
theorem AllOwn.nc {W : World} (h : AllOwn W base ps) (hg : W.grownBy W' row) (hr : RowNC B W row) : AllOwn W' base ps := fun p hp => (h p hp).nc hg hr
theorem Wt.nc {W : World} (h : Wt W A c xs) (hg : W.grownBy W' row) (hr : RowNC B W row) : Wt W' A c xs := by
 refine ⟨h.b8, h.le, h.max, h.row.imp id ?_⟩
 rintro ⟨g, off, cur, hA, hh, r⟩
 exact ⟨g, off, cur, hA, Blk.nc (T := 5) hh hg hr, r⟩
theorem PJ.nc {W : World} {x : Option Addr × Nat} (h : PJ W g2 g3 A1 c1 prk k x) (hg : W.grownBy W' row) (hr : RowNC B W row) : PJ W' g2 g3 A1 c1 prk k x := ⟨h.b2.nc hg hr, h.b3.nc hg hr, h.key.nc hg hr, h.last.nc hg hr⟩
theorem nc_put {l : Nat} {W : World} {o : Obj} (o' : Obj) (hl : B ≤ l) (ho : W.heap[l]? = some o) (hc : o.isCells = false) : RowNC B W (some l) := fun r e => by cases e; exact ⟨hl, _, ho, hc⟩
theorem kf_rows {W A C : World} {ad : Option Addr} (h : KeepsFrom B W A) (ho : RowS A base ad c ps) (hb : BelowX (blkA ad) A C) : KeepsFrom B W C :=
 ⟨Nat.le_trans h.size hb.size, fun k o hk ho' hc => by
  have h1 := h.same k o hk ho' hc
  refine (hb.block k (Array.getElem?_eq_some_iff.1 h1).1 (fun e => ?_)).trans h1
  rcases ho.2 with ⟨hv, _⟩ | ⟨q, cap, cur', hv, _, hh, _⟩
  ·simp only [Value.slice.injEq] at hv
   obtain ⟨rfl, _⟩ := hv
   exact absurd e blkA_none
  ·simp only [Value.slice.injEq] at hv
   obtain ⟨rfl, _⟩ := hv
   rw [blkA_some] at e
   subst e
   rw [h1] at hh
   cases hh
   cases hc⟩
section
variable {o : Oper} {ev : Operand → Value} {w : World} {x y z : Operand} {T U t : TypeId} {g k : Nat}
theorem o_appB {A2 : Option Addr} {c2 d : Nat} (ho : o.op = .call { callee := .builtin .append, args := #[x, y], argTypes := #[82, 82] }) (hx : ev x = .slice A n c) (hy : ev y = .slice (some ⟨g, 0, none⟩) 1 d)
  (hO : RowS w base A c ps) (hB : Blk w g #[.slice A2 m c2] 22) (hm : xs.length = m) (hn : ps.length = n) (hl : n ≤ 100000000000) (hbase : base ≤ w.heap.size) :
  ∃ v w', (execOp ev o).run Tryz.prog w = .ok (.value v) w' ∧ ∃ A' c', v = .slice A' (ps ++ [(⟨A2, c2, xs⟩ : Part)]).length c' ∧ RowS w' base A' c' (ps ++ [⟨A2, c2, xs⟩]) ∧ Below base w w' ∧ KeptT 22 w w' ∧ BelowX (blkA A) w w' ∧ (∀ k, blkA A' k → blkA A k ∨ w.heap.size ≤ k) := by
 have hlen : (ps ++ [(⟨A2, c2, xs⟩ : Part)]).length = n + 1 := by rw [List.length_append, hn]; rfl
 rw [hlen]
 obtain ⟨A', c', w', hrun, h1, h2, h3, h4, h5⟩ := rows_app (qs := [⟨A2, c2, xs⟩]) (ad := ⟨g, 0, none⟩) (d := d) o.type hO (fun j u hu => by
  have hj : j = 0 := by
   have := (List.getElem?_eq_some_iff.1 hu).1
   simpa using this
  subst hj
  rw [Addr.add_lit]
  refine (hB.cell 0).trans ?_
  rw [← hu]
  subst hm
  rfl) hn rfl (by simp only [List.length_cons, List.length_nil]; omega) hbase
 simp only [List.length_cons, List.length_nil, Nat.zero_add] at hrun
 refine ⟨_, w', ?_, A', c', rfl, h1, h2, h3, h4, h5⟩
 simp only [execOp, ho, resolve, invoke, builtin, Sem.run_bind, Sem.run_pure, Result.andThen_ok, List.map_toArray, List.map_cons, List.map_nil, hx, hy, hrun]
end
def chL (prk : List Nat) (n : Nat) : List (List Nat) := (List.range n).map fun i => chT prk (i + 1)
theorem chL_succ (prk : List Nat) (n : Nat) : chL prk (n + 1) = chL prk n ++ [chT prk (n + 1)] := by unfold chL; rw [List.range_succ, List.map_append]; rfl
theorem chL_length (prk : List Nat) (n : Nat) : (chL prk n).length = n := by simp [chL]
theorem map_len (h : ps.map Part.xs = chL prk n) : ps.length = n := by have h2 := congrArg List.length h; rwa [List.length_map, chL_length] at h2
def RowO1 (B m : Nat) (xs : List Nat) (ww : World) (vv : Value) : Prop := ∃ g A c, vv = .slice (some ⟨g, 0, none⟩) 1 1 ∧ Blk ww g #[.slice A m c] 22 ∧ Own ww B A c xs
theorem stRowO1 : StP (RowO1 B m xs) := fun _ _ _ ⟨g, A, c, hv, hB, hx⟩ hb => ⟨g, A, c, hv, hB.nx hb, hx.nx hb⟩
def ChS (B g5 g8 g2 g3 : Nat) (A1 : Option Addr) (c1 n : Nat) (prk : List Nat) (w : World) (k : Nat) (x : Option Addr × Nat) (W : World) : Prop :=
 ∃ (A5 : Option Addr) (c5 : Nat) (ps : List Part), Blk W g8 #[.slice A5 ps.length c5] 82 ∧ Blk W g5 #[.int .i64 ((n : Nat) : Int)] 3 ∧ RowS W B A5 c5 ps ∧ AllOwn W B ps ∧ ps.map Part.xs = chL prk k ∧ Below B w W ∧ ¬ blkA A5 g2 ∧ ¬ blkA A5 g3 ∧ k < n ∧ PJ W g2 g3 A1 c1 prk k x
theorem ChS.nx {x : Option Addr × Nat} {W : World} (hB : B ≤ W.heap.size) (h : ChS B g5 g8 g2 g3 A1 c1 n prk w k x W) (hb : Below W.heap.size W W') : ChS B g5 g8 g2 g3 A1 c1 n prk w k x W' := by
 obtain ⟨A5, c5, ps, b1, b2, b3, b4, b5, b6, b7, b8, b9, b10⟩ := h
 exact ⟨A5, c5, ps, b1.nx hb, b2.nx hb, b3.nx hb, b4.nx hb, b5, b6.trans (hb.mono hB), b7, b8, b9, b10.nx hb⟩
theorem ChS.size {x : Option Addr × Nat} {W : World} (h : ChS B g5 g8 g2 g3 A1 c1 n prk w k x W) : w.heap.size ≤ W.heap.size := by
 obtain ⟨A5, c5, ps, b1, b2, b3, b4, b5, b6, b7, b8, b9, b10⟩ := h
 exact b6.size
theorem ChS.cells {x : Option Addr × Nat} (hB : B ≤ B2) (hw : B ≤ w.heap.size) : OfCells B2 (ChS B g5 g8 g2 g3 A1 c1 n prk w k x) := by
 rintro W l o o' ⟨A5, c5, ps, b1, b2, b3, b4, b5, b6, b7, b8, b9, b10⟩ hl ho hc
 have hg := grownBy_putObj' W l o'
 have hr := nc_put o' hl ho hc
 exact ⟨A5, c5, ps, b1.nc hg hr, b2.nc hg hr, b3.nc hg hr, b4.nc hg hr, b5, below_nc b6 hg hr hB (Nat.le_trans hw b6.size), b7, b8, b9, b10.nc hg hr⟩
def ChX (B g8 n : Nat) (prk : List Nat) (w : World) (W : World) : Prop :=
 ∃ (A5 : Option Addr) (c5 : Nat) (ps : List Part), Blk W g8 #[.slice A5 ps.length c5] 82 ∧ RowS W B A5 c5 ps ∧ AllOwn W B ps ∧ ps.map Part.xs = chL prk n ∧ Below B w W
theorem ChX.cells (hB : B ≤ B2) (hw : B ≤ w.heap.size) : OfCells B2 (ChX B g8 n prk w) := by
 rintro W l o o' ⟨A5, c5, ps, b1, b3, b4, b5, b6⟩ hl ho hc
 have hg := grownBy_putObj' W l o'
 have hr := nc_put o' hl ho hc
 exact ⟨A5, c5, ps, b1.nc hg hr, b3.nc hg hr, b4.nc hg hr, b5, below_nc b6 hg hr hB (Nat.le_trans hw b6.size)⟩
theorem Chain_any {A0 : Option Addr} {c0 q q1 : Nat} {ks bs : List Nat} (n : Nat) (w : World) (h0 : Bs w A0 c0 ks) (hq : ks.length = q) (h1 : Bs w A1 c1 bs) (hq1 : bs.length = q1) (b0 : q ≤ 64) (b1 : q1 ≤ 10000000) (hn1 : 1 ≤ n) (hn3 : n ≤ 3) :
  Calls Tryz.prog 57 #[.slice A0 (q) (c0), .slice A1 (q1) (c1), .int .i64 ((n : Nat) : Int)] w fun e w' => ∃ ps A c, e = .returned (.tuple #[.slice A n c, .int .i64 0]) ∧ ps.map Part.xs = chL (hmacL ks bs) n ∧ RowS w' w.heap.size A c ps ∧ AllOwn w' w.heap.size ps ∧ Below w.heap.size w w' := by
 refine x_enterM 32 Tryz.func57 rfl rfl (fun a hs hd ha0 => ?_)
 have t0 := tA 0 ha0
 have t1 := tA 1 ha0
 have t2 := tA 2 ha0
 clear ha0
 iterate 2 refine e1 ?_
 refine q_x (o_box rfl ev rfl) (fun v_1 w_1 hR_1 => ?_)
 obtain ⟨g_1, rfl, hle_1, hB_1, hb_1⟩ := hR_1
 refine e1 ?_
 refine q_as (.int .i64 ((0 : Nat) : Int)) rfl ?_
 iterate 4 refine e1 ?_
 refine q_ld (v := .int .i64 ((n : Nat) : Int)) (pe hs rfl rfl) hB_1 rfl ?_
 refine q_v 12 (.bool (false)) (o_eq (o_lss (m := n) (n := 1) rfl ev rfl) (by congr 1; exact decide_eq_false (by omega))) ?_
 refine e1 ?_
 refine q_g 13 (.int .i64 ((n : Nat) : Int)) (o_load1 rfl ev hB_1 rfl ⟨by kernel_rfl, by kernel_rfl⟩) ?_
 refine q_g 13 (.bool (false)) (o_eq (o_gtr (m := n) (n := 3) rfl ev rfl) (by congr 1; exact decide_eq_false (by omega))) ?_
 refine q_w (o_pickF rfl ev ev) ?_
 iterate 6 refine e1 ?_
 refine q_x (o_alloc (zs := #[.slice none (0) (0)]) rfl (fun _ => by kernel_rfl)) (fun v_2 w_2 hR_2 => ?_)
 obtain ⟨g_2, rfl, hle_2, hB_2, hb_2⟩ := hR_2
 have ne_1 : g_1 ≠ g_2 := Nat.ne_of_lt (Nat.lt_of_lt_of_le hB_1.lt hle_2)
 have ge_2 : w.heap.size ≤ g_2 := Nat.le_trans hb_1.size hle_2
 replace hB_1 := hB_1.nx hb_2
 have HB_1 := below_from hb_1 hb_2
 iterate 7 refine e1 ?_
 refine k_c Tryz.func87 (Extract_any _ (h0.below HB_1) hq (h1.below HB_1) hq1 (by omega) (by omega)) ?_
 rintro e_1 w_3 ⟨A_1, c_1, rfl, ho_1, hb_3⟩
 replace ho_1 := ho_1.mono HB_1.size
 obtain ⟨hB_1, hB_2⟩ := nx2 hb_3 hB_1 hB_2
 have HB_2 := below_from HB_1 hb_3
 refine ⟨_, rfl, ?_⟩
 refine e1 ?_
 refine k_c Tryz.func86 (parts_any _) ?_
 rintro e_2 w_4 ⟨g_3, g_4, rfl, hle_3, hle_4, hB_3, hB_4, hb_4⟩
 have ne_3 : g_2 ≠ g_3 := Nat.ne_of_lt (Nat.lt_of_lt_of_le hB_2.lt hle_3)
 have ne_5 : g_2 ≠ g_4 := Nat.ne_of_lt (Nat.lt_of_lt_of_le hB_2.lt hle_4)
 obtain ⟨hB_1, hB_2, ho_1⟩ := nx3 hb_4 hB_1 hB_2 ho_1
 have HB_3 := below_from HB_2 hb_4
 refine ⟨_, rfl, ?_⟩
 iterate 2 refine e1 ?_
 have hPK := ho_1.wt
 have HBsz := HB_3.size
 refine x_rangeI (ι := Option Addr × Nat) (pe hs rfl rfl) Tryz.func117 (by kernel_rfl) (by kernel_rfl) (fun k x => #[.int .i64 ((k + 1 : Nat) : Int), .slice x.1 (32) (x.2)]) (ChS w.heap.size g_1 g_2 g_3 g_4 A_1 c_1 n (hmacL ks bs) w) (fun k x W => Wt W x.1 x.2 (chT (hmacL ks bs) (k + 1))) (ChX w.heap.size g_2 n (hmacL ks bs) w) (255) ((none, 0)) (fun _ _ => rfl) (fun l J Jx W hJb hJS hY h0 => callsIn_wide.2 (parts1_calls (hmacL_length _ _) W J Jx hJb (fun k x A h => by obtain ⟨_, _, _, _, _, _, _, _, _, _, _, _, h9⟩ := hJS k x A h; exact h9) (fun k x x' W1 h1 h2 h3 => hY k x x' W1 h1 h2 h3) h0)) (fun k x A B h hb => ChS.nx h.size h hb) (fun k x => ChS.cells (by have := HBsz; omega) (Nat.le_refl _)) (fun k x W l o o' h hl ho hc => h.nc (grownBy_putObj' W l o') (nc_put o' hl ho hc)) (ChX.cells (by have := HBsz; omega) (Nat.le_refl _)) (⟨none, 0, [], hB_2, hB_1, RowS.nil _ _, (fun _ h => absurd h (by simp)), rfl, HB_3, (fun h => blkA_none h), (fun h => blkA_none h), by omega, ⟨hB_3, hB_4, hPK, Wt.nil _⟩⟩) (fun k x aa => aa.tmps.size = 32 ∧ aa.defers = [] ∧ aa.eval (.tmp 5) = .pointer (some ⟨g_1, 0, none⟩) ∧ aa.eval (.tmp 8) = .pointer (some ⟨g_2, 0, none⟩) ∧ aa.eval (.tmp 9) = .int .i64 ((k + 1 : Nat) : Int) ∧ aa.eval (.tmp 10) = .slice x.1 (32) (x.2)) ?_ ?_ (fun x W h => by obtain ⟨_, _, _, _, _, _, _, _, _, _, _, h9, _⟩ := h; omega) ?_
 ·intro k x W K hK
  rw [fold2 _ _ _ _ _ _ (fun _ _ => rfl)]
  have hs_1 : (putsR a [(20, .func (.func 117) #[] #[.pointer (some ⟨g_3, 0, none⟩), .pointer (some ⟨g_4, 0, none⟩)]), (19, .slice A_1 (32) (c_1)), (18, .slice A1 (q1) (c1)), (17, .slice A0 (q) (c0)), (8, .pointer (some ⟨g_2, 0, none⟩)), (16, .bool (false)), (15, .bool (false)), (14, .int .i64 ((n : Nat) : Int)), (13, .bool (false)), (12, .bool (false)), (11, .int .i64 ((n : Nat) : Int)), (7, .int .i64 ((0 : Nat) : Int)), (6, .slice none (0) (0)), (5, .pointer (some ⟨g_1, 0, none⟩))]).tmps.size = 32 := by rw [putsR_size]; exact hs
  have u_1 : ({ tmps := (putsR a [(20, .func (.func 117) #[] #[.pointer (some ⟨g_3, 0, none⟩), .pointer (some ⟨g_4, 0, none⟩)]), (19, .slice A_1 (32) (c_1)), (18, .slice A1 (q1) (c1)), (17, .slice A0 (q) (c0)), (8, .pointer (some ⟨g_2, 0, none⟩)), (16, .bool (false)), (15, .bool (false)), (14, .int .i64 ((n : Nat) : Int)), (13, .bool (false)), (12, .bool (false)), (11, .int .i64 ((n : Nat) : Int)), (7, .int .i64 ((0 : Nat) : Int)), (6, .slice none (0) (0)), (5, .pointer (some ⟨g_1, 0, none⟩))]).tmps, defers := [] } : Act).eval (.tmp 5) = .pointer (some ⟨g_1, 0, none⟩) := (pe hs rfl rfl)
  have u_2 : ({ tmps := (putsR a [(20, .func (.func 117) #[] #[.pointer (some ⟨g_3, 0, none⟩), .pointer (some ⟨g_4, 0, none⟩)]), (19, .slice A_1 (32) (c_1)), (18, .slice A1 (q1) (c1)), (17, .slice A0 (q) (c0)), (8, .pointer (some ⟨g_2, 0, none⟩)), (16, .bool (false)), (15, .bool (false)), (14, .int .i64 ((n : Nat) : Int)), (13, .bool (false)), (12, .bool (false)), (11, .int .i64 ((n : Nat) : Int)), (7, .int .i64 ((0 : Nat) : Int)), (6, .slice none (0) (0)), (5, .pointer (some ⟨g_1, 0, none⟩))]).tmps, defers := [] } : Act).eval (.tmp 8) = .pointer (some ⟨g_2, 0, none⟩) := (pe hs rfl rfl)
  obtain ⟨a9, ha9⟩ : ∃ a9 : Act, a9 = { tmps := (putsR a [(20, .func (.func 117) #[] #[.pointer (some ⟨g_3, 0, none⟩), .pointer (some ⟨g_4, 0, none⟩)]), (19, .slice A_1 (32) (c_1)), (18, .slice A1 (q1) (c1)), (17, .slice A0 (q) (c0)), (8, .pointer (some ⟨g_2, 0, none⟩)), (16, .bool (false)), (15, .bool (false)), (14, .int .i64 ((n : Nat) : Int)), (13, .bool (false)), (12, .bool (false)), (11, .int .i64 ((n : Nat) : Int)), (7, .int .i64 ((0 : Nat) : Int)), (6, .slice none (0) (0)), (5, .pointer (some ⟨g_1, 0, none⟩))]).tmps, defers := [] } := ⟨_, rfl⟩
  have hs9 : a9.tmps.size = 32 := by rw [ha9]; exact hs_1
  have hd9 : a9.defers = [] := by rw [ha9]
  rw [← ha9] at u_1 u_2 ⊢
  iterate 6 refine e1 ?_
  refine x_nil ?_
  exact hK _ ⟨(psz hs9), (pdf hd9), ((pm rfl).trans u_1), ((pm rfl).trans u_2), ev, ev⟩
 ·clear t0 t1 t2 hB_1 hB_2 ho_1 hB_3 hB_4
  rintro k x0 x a_1 W ⟨A5, c5, ps, b1, b2, b3, b4, b5, HBI, b7, b8, b9, b10⟩ hV ⟨hs_2, hd_1, ta_1_5, ta_1_8, ta_1_9, ta_1_10⟩ hlt
  have KF_1 := KeepsFrom.refl (w_4.heap.size) W
  obtain ⟨B2, B3, hKy, hLs⟩ := b10
  have hpl := map_len b5
  have hV0 : Wt W x.1 x.2 (chT (hmacL ks bs) (k + 1)) := hV
  have hV1 := chT_length (hmacL ks bs) k
  refine x_bare ?_
  iterate 2 refine e1 ?_
  refine y_drawn 4 [iV (.slice A5 (ps.length) (c5)), iV (.slice x.1 (32) (x.2)), fun ww vv => OwnN W.heap.size (32) (chT (hmacL ks bs) (k + 1)) ww vv, fun ww vv => RowO1 W.heap.size 32 (chT (hmacL ks bs) (k + 1)) ww vv] [23, 24, 25, 26] hs_2 hd_1 ⟨(step_ok rfl fun a' w' hb' hO hD => oV (o_load1 rfl ed (b1.nx hb') rfl ⟨by kernel_rfl, by kernel_rfl⟩) rfl), sx, (step_ok rfl fun a' w' hb' hO hD => oC (vs := #[.slice x.1 (32) (x.2)]) Tryz.func32 rfl (args1 ed) (Calls.mono (Clone_any _ ((hV0.nx hb')).bs hV1 (by omega)) (fun e w'' hR => by obtain ⟨A_2, c_2, rfl, ho_2, hb_5⟩ := hR; exact ⟨_, rfl, ⟨_, _, rfl, ho_2.mono hb'.size⟩, hb_5⟩))),
(step_ok rfl (fun a' w' hb' hO hD => by
    have d_4 := hD 2 25 (by kernel_rfl) rfl
    obtain ⟨A_3, c_3, hv_1, hO_1⟩ := d_4
    exact out_new (o_bldS (vs := #[(0, .slice A_3 (32) (c_3))]) (cs := #[.slice A_3 (32) (c_3)]) (e := 22) rfl (bld1 hv_1) (fun _ => by kernel_rfl)) (fun v w_5 hR => by obtain ⟨g_5, rfl, hle_5, hB_5, hb_6⟩ := hR; exact ⟨⟨_, _, _, rfl, hB_5, hO_1.nx hb_6⟩, hb_6⟩))), trivial⟩ (fun a_2 w_6 hs_3 hd_2 hb_7 hO_2 hV_1 => ?_)
  have ta_2_5 := fK 5 hO_2
  have ta_2_8 := fK 8 hO_2
  have ta_2_9 := fK 9 hO_2
  obtain ⟨b1, b2, B2, B3, hKy, hV0, b3, b4⟩ := nx8 hb_7 b1 b2 B2 B3 hKy hV0 b3 b4
  have HB_4 := below_from HBI hb_7
  replace KF_1 := kf_grow KF_1 hb_7
  have ta_2_23 := fV 23 hV_1
  have x_1 := hV_1 2 25 rfl rfl
  obtain ⟨A_4, c_4, hv_2, hO_3⟩ := x_1
  replace hO_3 := hO_3.mono HBI.size
  have x_2 := hV_1 3 26 rfl rfl
  obtain ⟨g_6, A_5, c_5, hv_3, hB_6, hx_1⟩ := x_2
  replace hx_1 := hx_1.mono HBI.size
  simp only [List.drop_succ_cons, List.drop_zero]
  refine q_x (o_appB (xs := chT (hmacL ks bs) (k + 1)) rfl ev ((pm rfl).trans hv_3) b3 hB_6 hV1 rfl (by omega) HB_4.size) (fun v_3 w_7 hR_5 => ?_)
  obtain ⟨A_6, c_6, rfl, hRw_1, hb_8, hk_1, hX_1, ha_1⟩ := hR_5
  have HB_5 := HB_4.trans hb_8
  replace b1 := hk_1.blk b1 (by decide)
  replace b2 := hk_1.blk b2 (by decide)
  have b7n : ¬ blkA A_6 g_3 := fun h => (ha_1 _ h).elim b7 (fun h2 => absurd B2.lt (Nat.not_lt.2 h2))
  replace B2 := hX_1.blk B2 b7
  have b8n : ¬ blkA A_6 g_4 := fun h => (ha_1 _ h).elim b8 (fun h2 => absurd B3.lt (Nat.not_lt.2 h2))
  replace B3 := hX_1.blk B3 b8
  replace hKy := hKy.keptT hk_1 (by decide)
  replace hV0 := hV0.keptT hk_1 (by decide)
  have hAO9 : AllOwn w_7 w.heap.size (ps ++ [(⟨A_5, c_5, chT (hmacL ks bs) (k + 1)⟩ : Part)]) := (b4.keptT hk_1 (by decide)).app (fun p hp => by rw [List.mem_singleton.1 hp]; exact hx_1.keptT hk_1 (by decide))
  have hm9 : (ps ++ [(⟨A_5, c_5, chT (hmacL ks bs) (k + 1)⟩ : Part)]).map Part.xs = chL (hmacL ks bs) (k + 1) := by rw [chL_succ, List.map_append, b5]; rfl
  replace KF_1 := kf_rows KF_1 b3 hX_1
  refine q_d (o_store1 rfl ev ev rfl rfl b1 (by simp only [List.length_cons, List.length_nil]; omega) ⟨by kernel_rfl, by kernel_rfl⟩) (fun w_8 hR_6 => ?_)
  obtain ⟨hB_7, hX_2⟩ := hR_6
  replace b2 := hX_2.blk b2 ne_1
  replace B2 := hX_2.blk B2 (Ne.symm ne_3)
  replace B3 := hX_2.blk B3 (Ne.symm ne_5)
  obtain ⟨hKy, hV0, hRw_1, hAO9⟩ := kx4 hX_2 hKy hV0 hRw_1 hAO9
  replace KF_1 := kf_store KF_1 b1 hX_2
  have HB_6 := hX_2.below HB_5 HB_5.size (fun k hk => hk ▸ ge_2)
  clear b1
  simp only [List.set_cons_zero, List.set_cons_succ] at hB_7
  iterate 4 refine e1 ?_
  refine q_ld (v := .int .i64 ((n : Nat) : Int)) ((pm rfl).trans ta_2_5) b2 rfl ?_
  refine q_w (o_eql rfl ev ev) ?_
  refine e1 ?_
  refine w2_split (pe hs_3 rfl rfl) (fun h_1 => ?_) (fun h_1 => ?_)
  ·simp only [DD9] at h_1
   have hkn : k + 1 = n := h_1
   iterate 2 refine e1 ?_
   exact ⟨rfl, KF_1, ⟨A_6, c_6, _, hB_7, hRw_1, hAO9, (by rw [← hkn]; exact hm9), HB_6⟩⟩
  ·simp only [DD9] at h_1
   have hkn : ¬ k + 1 = n := h_1
   iterate 2 refine e1 ?_
   exact ⟨KF_1, ⟨A_6, c_6, _, hB_7, b2, hRw_1, hAO9, hm9, HB_6, b7n, b8n, by omega, ⟨B2, B3, hKy, hV0⟩⟩⟩
 ·clear hB_1 hB_2 ho_1 hB_3 hB_4
  rintro D_1 w_9 hle_1 ⟨A5, c5, ps, b1, b3, b4, b5, HBI⟩ hD_1
  replace hD_1 : MarkD w_9 D_1 := hD_1
  iterate 3 refine e1 ?_
  refine x_genD hs hd (fun a_3 hs_4 hd_3 he_1 => ?_)
  have ta_3_8 : a_3.eval (.tmp 8) = .pointer (some ⟨g_2, 0, none⟩) := (he_1 8).trans (pe hs rfl rfl)
  clear he_1
  iterate 2 refine e1 ?_
  refine q_ld (v := .slice A5 (ps.length) (c5)) ((pm rfl).trans ta_3_8) b1 rfl ?_
  refine e1 ?_
  refine q_as (.int .i64 ((0 : Nat) : Int)) rfl ?_
  iterate 2 refine e1 ?_
  refine retM2 rfl hd_3 hD_1 (pe hs_4 rfl rfl) (pe hs_4 rfl rfl) ?_
  have hg := grownBy_putObj' w_9 D_1 (.deferred none)
  have hr := hD_1.row (B := w.heap.size) (Nat.le_trans HBsz hle_1)
  exact ⟨ps, A5, c5, by rw [map_len b5]; rfl, b5, b3.nc hg hr, b4.nc hg hr, below_nc HBI hg hr (Nat.le_refl _) HBI.size⟩
end Go.Proofs.YtkhbihnnkflfkaaGreat
