/-
 append of so many noughts ('append(x, make([]byte, n)...)').
-/
import Derived.Test.YtkhbihnnkflfkaaGreatDrawn
import Derived.Test.YtkhbihnnkflfkaaGreatApM
namespace Go.Proofs.YtkhbihnnkflfkaaGreat
open Go.RowKit
set_option linter.unusedVariables false
set_option linter.unusedSimpArgs false
set_option maxRecDepth 100000

theorem zeroC (n : Nat) : Builtin.zeroCells (Value.int .u8 0).cells n = (u8s (List.replicate n 0)).toArray := by
 apply Array.ext
 ·simp [Builtin.zeroCells, Value.cells, u8s]
 ·intro i h1 h2
  simp [Builtin.zeroCells, Value.cells, u8s, Nat.mod_one]
theorem u8s_len (xs : List Nat) : (u8s xs).length = xs.length := by simp [u8s]

theorem app_zero {w : World} {base : Nat} {A : Option Addr} {c n m : Nat} {xs : List Nat} (ty : TypeId) (ho : Own w base A c xs) (hn : xs.length = n) (hl : n + m ≤ 140737488355328) (hbase : base ≤ w.heap.size) :
  ∃ A' c' w', (Builtin.append_ #[22, 3] ty #[.slice A n c, .int .i64 (m : Int)]).run Tryz.prog w = .ok (.slice A' (n + m) c') w' ∧ Own w' base A' c' (xs ++ List.replicate m 0) ∧ Below base w w' ∧
   w.grownBy w' (Value.slice A n c).ownBlock ∧ ((Value.slice A' (n + m) c').ownBlock = (Value.slice A n c).ownBlock ∨ (Value.slice A' (n + m) c').ownBlock = some w.heap.size) := by
 subst hn
 obtain ⟨i, hi, hz, hs, hby⟩ := u8_parts
 have ht : Tryz.prog.underlying 22 = some (.slice 5) := Tryz.underlying22
 have hu : Tryz.prog.underlying 3 = some (.int .i64) := Tryz.underlying3
 have hb8 : ∀ x ∈ xs ++ List.replicate m 0, x < 256 := fun x hx => by
  rcases List.mem_append.1 hx with h | h
  ·exact ho.b8 x h
  ·rw [(List.mem_replicate.1 h).2]; omega
 have hw : IntKind.i64.wrap (m : Int) = (m : Int) := IntWalk.i64_in _ (by omega)
 have h48 : ¬ ((281474976710656 : Int) < (m : Int) * ((1 : Nat) : Int)) := by omega
 have hw0 : IntKind.i64.wrap 0 = 0 := IntWalk.i64_in _ (by omega)
 have hm0 : ¬ ((m : Int) < 0) := by omega
 have hnx : ∀ c', Builtin.nextslicecap (xs.length + m) c' * 1 ≤ 281474976710656 ∨ ¬ c' < xs.length + m := fun c' => by
  by_cases h : c' < xs.length + m
  ·exact .inl (growslice_fits h (by omega))
  ·exact .inr h
 have grown : ∀ (old : Nat), old < xs.length + m → ∀ (row : Option Nat),
   Own (w.drew.alloc (.cells ((u8s xs).toArray ++ (u8s (List.replicate m 0)).toArray ++ Builtin.zeroCells (Value.int .u8 0).cells (grownCap w (xs.length + m) old 5 - (xs.length + m))) 5)) base (some ⟨w.heap.size, 0, none⟩) (grownCap w (xs.length + m) old 5) (xs ++ List.replicate m 0) ∧
   w.grownBy (w.drew.alloc (.cells ((u8s xs).toArray ++ (u8s (List.replicate m 0)).toArray ++ Builtin.zeroCells (Value.int .u8 0).cells (grownCap w (xs.length + m) old 5 - (xs.length + m))) 5)) row := by
  intro old hold row
  have hge := grownCap_ge w (xs.length + m) old 5
  have hcm : grownCap w (xs.length + m) old 5 ≤ maxLen := grownCap_le_maxLen w (xs.length + m) old 5 (by unfold maxLen; omega)
  refine ⟨⟨⟨by simp [u8s], .inr ⟨w.heap.size, _, _, by simp, hbase, heap_alloc_new w.drew _, by simpa using hge, hcm, ?_, ?_⟩⟩, hb8⟩, ⟨rfl, rfl, rfl, by simp, fun k hk _ => Below.heap_alloc w.drew _ k hk⟩⟩
  ·rw [zeroC]
   simp [u8s]
   omega
  ·rw [zeroC, u8s_append]
   simp only [Array.toList_append, List.toList_toArray, List.append_assoc]
   rw [← List.append_assoc]
   exact List.take_left' (by simp [u8s])
 have hzl : (if m = 0 then (#[] : Array Value) else Builtin.zeroCells (Value.int .u8 0).cells m) = (u8s (List.replicate m 0)).toArray := by
  by_cases h : m = 0
  ·rw [if_pos h, h]; rfl
  ·rw [if_neg h, zeroC]
 have gr : ∀ (old : Nat) (hold : old < xs.length + m) (bs : Option Addr) (hf : (Builtin.firstCells 1 xs.length (.slice bs xs.length old)).run Tryz.prog w.drew = .ok (u8s xs).toArray w.drew),
   (Builtin.append_ #[22, 3] ty #[.slice bs xs.length old, .int .i64 (m : Int)]).run Tryz.prog w = .ok (.slice (some ⟨w.heap.size, 0, none⟩) (xs.length + m) (grownCap w (xs.length + m) old 5))
    (w.drew.alloc (.cells ((u8s xs).toArray ++ (u8s (List.replicate m 0)).toArray ++ Builtin.zeroCells (Value.int .u8 0).cells (grownCap w (xs.length + m) old 5 - (xs.length + m))) 5)) := by
  intro old hold bs hf
  have h1 : ¬ (xs.length + m ≤ old) := by omega
  have h2 := (hnx old).resolve_right (fun h => h hold)
  have h2' : ¬ (281474976710656 < Builtin.nextslicecap (xs.length + m) old) := by omega
  have h3 : ¬ ((9223372036854775807 : Int) < (xs.length : Int) + (m : Int)) := by omega
  have h5 : ¬ ((281474976710656 : Int) < (m : Int)) := by omega
  by_cases hm : m = 0
  ·subst hm
   simp [Builtin.append_, run_underlying ht, run_underlying hu, sizeOf, typeInfo, zeroValue, hi, hz, hs, hby, asInt, asIntOf, hw0, (by simpa using h1 : ¬ xs.length ≤ old), (by simpa using h2' : ¬ (281474976710656 < Builtin.nextslicecap xs.length old)), (by simpa using h3 : ¬ ((9223372036854775807 : Int) < (xs.length : Int))), Question.forced, hf, newRow, grownCap]
   simp [u8s]
  ·simp [Builtin.append_, run_underlying ht, run_underlying hu, sizeOf, typeInfo, zeroValue, hi, hz, hs, hby, asInt, asIntOf, hw, hm0, h5, h1, h2', h3, hm, Question.forced, hf, newRow, grownCap]
   rw [zeroC m]
   congr 2
   apply Array.ext'
   simp [List.append_assoc]
 rcases ho.row.2 with ⟨hv, hx0⟩ | ⟨g, cap, cur, hv, hbg, hg, hnc, hcm, hcs, htake⟩
 ·simp only [Value.slice.injEq] at hv
  obtain ⟨rfl, h0, rfl⟩ := hv
  have hx : xs = [] := List.eq_nil_of_length_eq_zero hx0
  subst hx
  by_cases hm : m = 0
  ·subst hm
   refine ⟨none, 0, w, ?_, by simpa using ho, Below.refl _ _, World.grownBy.refl w _, .inl rfl⟩
   simp [Builtin.append_, run_underlying ht, run_underlying hu, sizeOf, typeInfo, hi, hs, hby, asInt, asIntOf, hw0]
  ·have hgr := grown 0 (by simp; omega) none
   exact ⟨_, _, _, gr 0 (by simp; omega) none (by simp [Builtin.firstCells, u8s]), hgr.1, (Below.refl _ _).grown hgr.2 hbase (fun k hk => by cases hk), (grown 0 (by simp; omega) _).2, .inr rfl⟩
 ·simp only [Value.slice.injEq] at hv
  obtain ⟨rfl, _, rfl⟩ := hv
  by_cases hroom : xs.length + m ≤ c
  ·have hfit : xs.length + (u8s (List.replicate m 0)).length ≤ cur.size := by rw [u8s_len, List.length_replicate, hcs]; omega
   have hst := run_storeCells_at (P := Tryz.prog) g xs.length 5 (u8s (List.replicate m 0)) 0 cur w hg (by simpa using hfit) (u8s_one _)
   simp only [Nat.add_zero] at hst
   have h5 : ¬ ((281474976710656 : Int) < (m : Int)) := by omega
   obtain ⟨new, hnew⟩ : ∃ new : List Value, new = cur.toList.take xs.length ++ u8s (List.replicate m 0) ++ cur.toList.drop (xs.length + (u8s (List.replicate m 0)).length) := ⟨_, rfl⟩
   rw [← hnew] at hst
   refine ⟨some ⟨g, 0, none⟩, c, w.setRow g new.toArray, ?_, ⟨⟨by simp [u8s], .inr ⟨g, c, new.toArray, by simp, hbg, setRow_heap w g cur _ _ _ hg, by simpa using hroom, hcm, ?_, ?_⟩⟩, hb8⟩, ?_, ⟨rfl, rfl, rfl, by simp, fun k _ hk => setRow_other w g k _ (fun e => hk (by simp [Value.ownBlock, e]))⟩, .inl rfl⟩
   ·by_cases hm : m = 0
    ·subst hm
     have e : new = cur.toList := by rw [hnew]; simp [u8s]
     have hse : w.setRow g new.toArray = w := by
      rw [e]
      unfold World.setRow
      congr 1
      apply Array.ext
      ·simp
      ·intro i h1 h2
       by_cases hig : g = i
       ·subst hig
        have := (Array.getElem?_eq_some_iff.1 hg).2
        simp [Array.getElem_modify, this]
       ·simp [Array.getElem_modify, hig]
     rw [hse]
     simp [Builtin.append_, run_underlying ht, run_underlying hu, sizeOf, typeInfo, zeroValue, hi, hz, hs, hby, asInt, asIntOf, hw0, (by simpa using hroom : xs.length ≤ c), storeCells]
     try exact fun h => absurd h (by omega)
    ·simp [Builtin.append_, run_underlying ht, run_underlying hu, sizeOf, typeInfo, zeroValue, hi, hz, hs, hby, asInt, asIntOf, hw, hm0, h5, hm, hroom, zeroC, Addr.add_lit, hst]
   ·rw [hnew]; simp [u8s]; omega
   ·rw [hnew, Nat.mul_one]
    have ht2 : cur.toList.take xs.length = u8s xs := by simpa using htake
    rw [ht2, ← u8s_append]
    exact List.take_left' (by simp [u8s])
   ·exact (Below.refl _ _).grown (row := some g) ⟨rfl, rfl, rfl, by simp, fun k _ hk => setRow_other w g k _ (fun e => hk (by simp [e]))⟩ hbase (fun k hk => by cases hk; exact hbg)
  ·have hgr := grown c (by omega) (Value.slice (some ⟨g, 0, none⟩) xs.length c).ownBlock
   have hold : ∀ j u, (u8s xs)[j]? = some u → w.drew.cell? ((⟨g, 0, none⟩ : Addr).add j) = some u := ho.row.cells (g := g) rfl
   exact ⟨_, _, _, gr c (by omega) _ (run_firstCells_some w.drew 1 xs.length ⟨g, 0, none⟩ xs.length c (u8s xs) (by simp [u8s]) hold), hgr.1, (Below.refl _ _).grown hgr.2 hbase (fun k hk => by simp [Value.ownBlock] at hk; omega), hgr.2, .inr rfl⟩
end Go.Proofs.YtkhbihnnkflfkaaGreat
