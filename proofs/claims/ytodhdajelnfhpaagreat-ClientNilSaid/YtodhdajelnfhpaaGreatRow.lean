/-
  From the rows that a law's frame hands over to bytes.
-/
import Derived.Test.YtodhdajelnfhpaaGreatBase
namespace Go.Proofs.YtodhdajelnfhpaaGreat
open Go.RowKit
set_option maxRecDepth 100000
set_option linter.unusedVariables false
set_option linter.unusedSimpArgs false

theorem wf_u8 {n : Int} (h : (Lit.int .u8 n).wf = true) : 0 ≤ n ∧ n < 256 := by
  have := bounds_u8 h
  omega

theorem Bs_row {w : World} {a : Option Addr} {len cap : Nat} {zs : List Int}
    (h : (a = none ∧ len = 0 ∧ cap = 0 ∧ zs = []) ∨ ∃ x : Addr, a = some x ∧ len ≤ cap ∧ cap ≤ maxLen ∧ zs.length = cap ∧ (∀ i, i < zs.length → w.cell? (x.add i) = some (.int .u8 (zs.getD i 0))) ∧ ∀ n ∈ zs, (Lit.int .u8 n).wf = true) :
    ∃ xs : List Nat, xs.length = len ∧ Bs w a cap xs := by
  rcases h with ⟨rfl, rfl, rfl, _⟩ | ⟨x, rfl, hl, hm, hz, hc, hw⟩
  · exact ⟨[], rfl, Bs.nil w⟩
  · refine ⟨(zs.take len).map Int.toNat, by simp; omega, ⟨by simp; omega, hm, ?_, ?_⟩⟩
    · intro y hy
      obtain ⟨n, hn, rfl⟩ := List.mem_map.1 hy
      have := wf_u8 (hw n (List.mem_of_mem_take hn))
      omega
    · by_cases h0 : len = 0
      · left; subst h0; rfl
      · right
        have hb : x.spot = none := by
          have h1 := hc 0 (by omega)
          simp only [Addr.add, if_pos] at h1
          unfold World.cell? at h1
          cases hs : x.spot with
          | none => rfl
          | some s =>
            rw [hs] at h1
            split at h1 <;> simp at h1
        obtain ⟨b, off, sp⟩ := x
        simp only at hb
        subst hb
        refine ⟨b, off, rfl, fun i hi => ?_⟩
        have hi' : i < zs.length := by simp at hi; omega
        have h1 := hc i hi'
        have e : (⟨b, off, none⟩ : Addr).add i = ⟨b, off + i, none⟩ := by
          unfold Addr.add
          by_cases h2 : i = 0
          · subst h2; rfl
          · rw [if_neg h2]
        rw [e] at h1
        rw [h1]
        have hg : zs.getD i 0 = zs[i] := by simp [hi']
        have hw' := wf_u8 (hw zs[i] (List.getElem_mem hi'))
        have hl' : i < len := by simp at hi; omega
        have e2 : ((List.map Int.toNat (List.take len zs)).getD i 0 : Nat) = zs[i].toNat := by
          simp [hl', hi']
        rw [e2, hg]
        congr 2
        omega
end Go.Proofs.YtodhdajelnfhpaaGreat
