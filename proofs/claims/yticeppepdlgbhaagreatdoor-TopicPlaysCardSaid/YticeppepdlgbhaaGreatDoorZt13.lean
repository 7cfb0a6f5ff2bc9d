import Derived.Test.YticeppepdlgbhaaGreatDoorZt11
import Derived.Test.YticeppepdlgbhaaGreatDoorAmF
/-! Bytes that are a topic, by the document's reading: plain. -/
open Go Go.Proofs Go.Am
set_option linter.unusedVariables false
set_option autoImplicit false
namespace C17
/-! ### What is read is written as it stood -/
/-! ### The document's reading -/
/-! ### The document's Load -/
/-! ### What is made of items tells the same items -/
theorem flatMap_cg {α β : Type} {f g : α → List β} {l : List α} (h : ∀ a ∈ l, f a = g a) : l.flatMap f = l.flatMap g := by
 unfold List.flatMap
 rw [List.map_congr_left h]
theorem kget_pair {β : Type} {l : List (ByteArray × β)} (h : (l.map (·.1)).Nodup) {p : ByteArray × β} (hp : p ∈ l) : kget l p.1 = some p.2 := by
 have hn : kget l p.1 ≠ none := fun hn => idx_no (idx_of_none (l := l) (k := p.1) hn) p hp rfl
 cases hg : kget l p.1 with
 | none => exact absurd hg hn
 | some v =>
  have hm := gets_mem hg
  have : (p.1, v) = p := by
   have h2 := List.pairwise_iff_getElem.1 (List.nodup_iff_pairwise_ne.1 h)
   obtain ⟨i, hi, ei⟩ := List.getElem_of_mem hm
   obtain ⟨j, hj, ej⟩ := List.getElem_of_mem hp
   have hl : (l.map (·.1)).length = l.length := List.length_map _
   have e : i = j := by
    rcases Nat.lt_trichotomy i j with g | g | g
    ·exact absurd (by rw [List.getElem_map, List.getElem_map, ei, ej]) (h2 i j (by omega) (by omega) g)
    ·exact g
    ·exact absurd (by rw [List.getElem_map, List.getElem_map, ei, ej]) (h2 j i (by omega) (by omega) g)
   subst e
   rw [← ei, ← ej]
  rw [← this]
end C17
