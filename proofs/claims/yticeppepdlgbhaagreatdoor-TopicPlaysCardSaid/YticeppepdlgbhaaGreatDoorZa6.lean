import Derived.Test.YticeppepdlgbhaaGreatDoorZa5
/-! Chapter 17: a machine in memory, what a command does, plain; the one does the other. -/
open Go Go.Proofs Go.Am
set_option linter.unusedVariables false
set_option linter.unusedSimpArgs false
set_option autoImplicit false
namespace C17
section
variable {β : Type} {l : List (ByteArray × β)} {k k' : ByteArray} {v : β}
theorem gets_mem (h : gets l k = some v) : (k, v) ∈ l := by
 unfold gets at h
 obtain ⟨p, hp, rfl⟩ := Option.map_eq_some_iff.1 h
 have h1 := List.mem_of_find?_eq_some hp
 have h2 := List.find?_some hp
 have h3 : p.1 = k := by simpa using h2
 rw [← h3]; exact h1
theorem idx_of_none (h : gets l k = none) : l.findIdx? (fun p => p.1 = k) = none := by
 cases hj : l.findIdx? (fun p => p.1 = k) with
 | none => rfl
 | some j =>
  exfalso
  obtain ⟨hlt, hp, -⟩ := List.findIdx?_eq_some_iff_getElem.1 hj
  unfold gets at h
  rw [Option.map_eq_none_iff, List.find?_eq_none] at h
  exact h _ (List.getElem_mem hlt) hp
end
/-! ### What a command does -/
end C17
