import Derived.Test.YticeppepdlgbhaaGreatDoorZt4
/-! What is told of a topic is read, as items: plain. -/
open Go Go.Proofs Go.Am
set_option linter.unusedVariables false
set_option autoImplicit false
namespace C17
theorem flat_get {α : Type} {f : α → List Itm} {c : Nat} (hc : ∀ a, (f a).length = c) (h0 : 0 < c) : ∀ (l : List α) (q : Nat), (l.flatMap f)[q]? = (l[q / c]?).bind fun a => (f a)[q % c]?
 | [], q => by simp
 | a :: l, q => by
  rw [List.flatMap_cons]
  by_cases h : q < c
  ·rw [List.getElem?_append_left (by rw [hc]; exact h), Nat.div_eq_of_lt h, Nat.mod_eq_of_lt h]; rfl
  ·obtain ⟨r, rfl⟩ : ∃ r, q = r + c := ⟨q - c, by omega⟩
   rw [List.getElem?_append_right (by rw [hc]; omega), hc, Nat.add_sub_cancel, flat_get hc h0 l r, Nat.add_div_right _ h0, Nat.add_mod_right]; rfl
theorem flat_len {α : Type} {f : α → List Itm} {c : Nat} (hc : ∀ a, (f a).length = c) : ∀ (l : List α), (l.flatMap f).length = c * l.length
 | [] => rfl
 | a :: l => by rw [List.flatMap_cons, List.length_append, hc, flat_len hc l, List.length_cons, Nat.mul_succ]; omega
theorem dumpL_len (x : Tp) : (dumpL x).length = 4 + 3 * x.kvs.length + 5 * x.recs.length := by
 unfold dumpL
 rw [List.length_append, List.length_append, flat_len (c := 3) (fun a => rfl), flat_len (c := 5) (fun a => rfl), namesL_len]; rfl
theorem kB116 : kindB 116 = 4 := by kernel_rfl
theorem kB108 : kindB 108 = 3 := by kernel_rfl
theorem dump_kind (x : Tp) (q : Nat) (y : Itm) (h : (dumpL x)[q]? = some y) : kindB (letA (shN x.kvs.length) (4 + 3 * x.kvs.length) q) = y.kind := by
 have hn := namesL_len x
 rw [letA_sh]
 unfold dumpL at h
 rw [List.append_assoc] at h
 by_cases h1 : q < 4
 ·rw [if_pos h1]
  rw [List.getElem?_append_left (show q < (headL x).length from h1)] at h
  have : q = 0 ∨ q = 1 ∨ q = 2 ∨ q = 3 := by omega
  rcases this with rfl | rfl | rfl | rfl <;> cases h <;> first | exact kB116 | exact kB108
 ·rw [if_neg h1]
  rw [List.getElem?_append_right (show (headL x).length ≤ q by show 4 ≤ q; omega), show q - (headL x).length = q - 4 from rfl] at h
  by_cases h2 : q < 4 + 3 * x.kvs.length
  ·rw [if_pos h2]
   rw [List.getElem?_append_left (by rw [flat_len (c := 3) (fun a => rfl), hn]; omega), flat_get (c := 3) (fun a => rfl) (by decide)] at h
   obtain ⟨a, -, ha⟩ := Option.bind_eq_some_iff.1 h
   have hr : (q - 4) % 3 = 0 ∨ (q - 4) % 3 = 1 ∨ (q - 4) % 3 = 2 := by omega
   rcases hr with e | e | e <;> rw [e] at ha ⊢ <;> cases ha <;> first | exact kB116 | exact kB108
  ·rw [if_neg h2]
   rw [List.getElem?_append_right (by rw [flat_len (c := 3) (fun a => rfl), hn]; omega), flat_len (c := 3) (fun a => rfl), hn, flat_get (c := 5) (fun a => rfl) (by decide)] at h
   obtain ⟨a, -, ha⟩ := Option.bind_eq_some_iff.1 h
   have hr : (q - 4 - 3 * x.kvs.length) % 5 = 0 ∨ (q - 4 - 3 * x.kvs.length) % 5 = 1 ∨ (q - 4 - 3 * x.kvs.length) % 5 = 2 ∨ (q - 4 - 3 * x.kvs.length) % 5 = 3 ∨ (q - 4 - 3 * x.kvs.length) % 5 = 4 := by omega
   rcases hr with e | e | e | e | e <;> rw [e] at ha ⊢ <;> cases ha <;> first | exact kB116 | exact kB108
/-- What is told of a topic is read. -/
theorem dec_dump {x : Tp} (h : DumpOk x) : decF (shN x.kvs.length) (encAll (dumpL x)) = (dumpL x, 0) := by
 have hl := dumpL_len x
 have hk := h.len
 rw [decF_shN]
 refine dec_enc (shN_sz _) (dumpL x) 1001 0 [] (by omega) (by show 0 + _ ≤ 1000; omega) (by omega) (by omega) fun q hq => ⟨?_, dumpL_ok h _ (List.getElem_mem hq)⟩
 rw [Nat.zero_add]
 exact dump_kind x q _ (List.getElem?_eq_getElem hq)
/-- The number of producers is found. -/
theorem dump_hit {x : Tp} (h : DumpOk x) : hit (encAll (dumpL x)) x.kvs.length ∧ ∀ j, j < x.kvs.length → ¬ hit (encAll (dumpL x)) j := by
 have h3 : ∀ n, (decF (shN n) (encAll (dumpL x))).2 = 0 → ((decF (shN n) (encAll (dumpL x))).1[3]?) = (four (encAll (dumpL x)))[3]? := fun n hn => by
  obtain ⟨rest, e⟩ := dec_four hn
  rw [e, List.getElem?_append_left (by show 3 < 4; omega)]
 have hd := dec_dump h
 have h0 : (decF (shN x.kvs.length) (encAll (dumpL x))).2 = 0 := by rw [hd]
 have e3 : (four (encAll (dumpL x)))[3]? = some (lI x.kvs.length) := by
  rw [← h3 _ h0, hd]; rfl
 have en : (lI (x.kvs.length : Int)).n = x.kvs.length := by show (x.kvs.length : Int).toNat = _; omega
 refine ⟨⟨h0, by rw [h3 _ h0, e3, Option.map_some, en]⟩, fun j hj hh => ?_⟩
 have := hh.2
 rw [h3 _ hh.1, e3, Option.map_some, en] at this
 have := Option.some.inj this
 omega
end C17
