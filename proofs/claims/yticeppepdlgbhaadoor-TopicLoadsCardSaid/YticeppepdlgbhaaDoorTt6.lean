import Derived.Test.YticeppepdlgbhaaDoorTt4
/-! What is told of a topic is read, as items: plain. -/
open Go Go.Proofs Go.Am
set_option linter.unusedVariables false
set_option autoImplicit false
namespace C17
theorem flat_get {α : Type} {f : α → List Itm} {c : Nat} (hc : ∀ a, (f a).length = c) (h0 : 0 < c) : ∀ (l : List α) (q : Nat), (l.flatMap f)[q]? = (l[q / c]?).bind fun a => (f a)[q % c]?
 | [], q => by simp
 | a :: l, q => by
  rw [List.flatMap_cons]
  by_cases h : q < c
  ·rw [List.getElem?_append_left (by rw [hc]; exact h), Nat.div_eq_of_lt h, Nat.mod_eq_of_lt h]; rfl
  ·obtain ⟨r, rfl⟩ : ∃ r, q = r + c := ⟨q - c, by omega⟩
   rw [List.getElem?_append_right (by rw [hc]; omega), hc, Nat.add_sub_cancel, flat_get hc h0 l r, Nat.add_div_right _ h0, Nat.add_mod_right]; rfl
theorem flat_len {α : Type} {f : α → List Itm} {c : Nat} (hc : ∀ a, (f a).length = c) : ∀ (l : List α), (l.flatMap f).length = c * l.length
 | [] => rfl
 | a :: l => by rw [List.flatMap_cons, List.length_append, hc, flat_len hc l, List.length_cons, Nat.mul_succ]; omega
theorem dumpL_len (x : Tp) : (dumpL x).length = 4 + 3 * x.kvs.length + 5 * x.recs.length := by
 unfold dumpL
 rw [List.length_append, List.length_append, flat_len (c := 3) (fun a => rfl), flat_len (c := 5) (fun a => rfl), namesL_len]; rfl
theorem kB116 : kindB 116 = 4 := by kernel_rfl
theorem kB108 : kindB 108 = 3 := by kernel_rfl
end C17
