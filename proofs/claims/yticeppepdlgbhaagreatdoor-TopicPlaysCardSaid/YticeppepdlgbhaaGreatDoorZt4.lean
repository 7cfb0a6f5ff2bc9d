import Derived.Test.YticeppepdlgbhaaGreatDoorZt3
/-! Bytes that are a topic: shapes with a part that is repeated, read, plain. -/
open Go Go.Proofs Go.Am
set_option linter.unusedVariables false
set_option autoImplicit false
namespace C17
/-- Where the reading of a shape stands that has p letters ahead of its star and five behind it, when i items are read. -/
def kOf (p i : Nat) : Nat := if i ≤ p then i else if (i - p) % 5 = 0 then p + 6 else p + 1 + (i - p) % 5
/-- The letter of the item i. -/
def letA (sh : ByteArray) (p i : Nat) : UInt8 := if i < p then sh.data[i]! else sh.data[p + 1 + (i - p) % 5]!
theorem step_st {sh : ByteArray} {p : Nat} (hsz : sh.size = p + 6) (f i : Nat) (s : ByteArray) (out : List Itm) : decL sh (p : Int) (f + 1) ((kOf p i : Nat) : Int) s out =
  if (p ≤ i ∧ (i - p) % 5 = 0) ∧ s = emp then (out, 0) else if out.length = 1000 then ([], 3) else if (itemF (letA sh p i) s).2.2 ≠ 0 then ([], (itemF (letA sh p i) s).2.2) else decL sh (p : Int) f ((kOf p (i + 1) : Nat) : Int) (itemF (letA sh p i) s).2.1 (out ++ [(itemF (letA sh p i) s).1]) := by
 rw [decL_succ]
 by_cases h1 : i < p
 ·have e0 : kOf p i = i := by unfold kOf; rw [if_pos (by omega)]
  have e1 : kOf p (i + 1) = i + 1 := by unfold kOf; rw [if_pos (by omega)]
  have e2 : letA sh p i = sh.data[i]! := by unfold letA; rw [if_pos h1]
  have c1 : ¬ ((i : Int) = sh.size ∧ (0 : Int) ≤ p) := by rw [hsz]; omega
  have c2 : ¬ ((i : Int) = p ∧ (0 : Int) ≤ p ∧ s = emp) := fun h => by omega
  have c3 : ¬ ((i : Int) = p ∧ (0 : Int) ≤ p) := fun h => by omega
  rw [e0, e1, e2]
  simp only [if_neg c1, if_neg c2, if_neg c3, Int.toNat_natCast]
  rw [if_pos (show (i : Int) < sh.size by rw [hsz]; omega), if_neg (fun h : ((p ≤ i ∧ (i - p) % 5 = 0) ∧ s = emp) => by omega)]
  rfl
 ·by_cases h2 : (i - p) % 5 = 0
  ·have e2 : letA sh p i = sh.data[p + 1]! := by unfold letA; rw [if_neg h1, h2]
   have e1 : kOf p (i + 1) = p + 2 := by
    unfold kOf
    rw [if_neg (by omega), if_neg (by omega)]
    have : (i + 1 - p) % 5 = 1 := by omega
    rw [this]
   have ek : (if ((kOf p i : Nat) : Int) = sh.size ∧ (0 : Int) ≤ p then (p : Int) else ((kOf p i : Nat) : Int)) = p := by
    by_cases h3 : i ≤ p
    ·have e0 : kOf p i = p := by unfold kOf; rw [if_pos h3]; omega
     rw [e0, if_neg (by rw [hsz]; omega)]
    ·have e0 : kOf p i = p + 6 := by unfold kOf; rw [if_neg h3, if_pos h2]
     rw [e0, if_pos ⟨by rw [hsz], by omega⟩]
   rw [e1, e2]
   simp only [ek]
   by_cases hs : s = emp
   ·rw [if_pos ⟨trivial, by omega, hs⟩, if_pos ⟨⟨by omega, h2⟩, hs⟩]
   ·rw [if_neg (fun h => hs h.2.2), if_neg (fun h : ((p ≤ i ∧ (i - p) % 5 = 0) ∧ s = emp) => hs h.2)]
    have c3 : True ∧ (0 : Int) ≤ p := ⟨trivial, by omega⟩
    simp only [if_pos c3]
    rw [if_pos (show (p : Int) + 1 < sh.size by rw [hsz]; omega)]
    have e3 : ((p : Int) + 1).toNat = p + 1 := by omega
    rw [e3]
    rfl
  ·have e0 : kOf p i = p + 1 + (i - p) % 5 := by unfold kOf; rw [if_neg (by omega), if_neg h2]
   have e2 : letA sh p i = sh.data[p + 1 + (i - p) % 5]! := by unfold letA; rw [if_neg h1]
   have e1 : kOf p (i + 1) = p + 1 + (i - p) % 5 + 1 := by
    unfold kOf
    rw [if_neg (by omega)]
    split <;> omega
   have hlt : (i - p) % 5 < 5 := Nat.mod_lt _ (by decide)
   rw [e0, e1, e2]
   obtain ⟨k, hk⟩ : ∃ k, k = p + 1 + (i - p) % 5 := ⟨_, rfl⟩
   rw [← hk]
   have c1 : ¬ ((k : Int) = sh.size ∧ (0 : Int) ≤ p) := by rw [hsz]; omega
   have c2 : ¬ ((k : Int) = p ∧ (0 : Int) ≤ p ∧ s = emp) := fun h => by omega
   have c3 : ¬ ((k : Int) = p ∧ (0 : Int) ≤ p) := fun h => by omega
   simp only [if_neg c1, if_neg c2, if_neg c3, Int.toNat_natCast]
   rw [if_pos (show (k : Int) < sh.size by rw [hsz]; omega), if_neg (fun h : ((p ≤ i ∧ (i - p) % 5 = 0) ∧ s = emp) => h2 h.1.2)]
   rfl
/-- What is read without error: so many items, the first ones first. -/
theorem dec_ok {sh : ByteArray} {p : Nat} (hsz : sh.size = p + 6) : ∀ (f i : Nat) (s : ByteArray) (out : List Itm), f + out.length = 1001 → out.length ≤ 1000 → out.length = i → (decL sh (p : Int) f ((kOf p i : Nat) : Int) s out).2 = 0 →
  (∃ j, (decL sh (p : Int) f ((kOf p i : Nat) : Int) s out).1.length = p + 5 * j) ∧ ∃ rest, (decL sh (p : Int) f ((kOf p i : Nat) : Int) s out).1 = out ++ rest
 | 0, i, s, out, h1, h2, h3, h => by omega
 | f + 1, i, s, out, h1, h2, h3, h => by
  rw [step_st hsz] at h ⊢
  split at h
  ·rename_i hc
   rw [if_pos hc]
   exact ⟨⟨(i - p) / 5, by show out.length = _; omega⟩, [], (List.append_nil _).symm⟩
  ·rename_i hc
   rw [if_neg hc]
   split at h
   ·exact absurd h (by decide)
   ·rename_i hl
    rw [if_neg hl]
    split at h
    ·rename_i he; exact absurd h he
    ·rename_i he
     rw [if_neg he]
     obtain ⟨a, rest, b⟩ := dec_ok hsz f (i + 1) _ _ (by rw [List.length_append, List.length_singleton]; omega) (by rw [List.length_append, List.length_singleton]; omega) (by rw [List.length_append, List.length_singleton]; omega) h
     exact ⟨a, _ :: rest, by rw [b, List.append_assoc]; rfl⟩
/-- Items that are written are read. -/
theorem dec_enc {sh : ByteArray} {p : Nat} (hsz : sh.size = p + 6) : ∀ (l : List Itm) (f i : Nat) (out : List Itm), l.length < f → out.length + l.length ≤ 1000 → p ≤ i + l.length → (i + l.length - p) % 5 = 0 →
  (∀ q, ∀ h : q < l.length, kindB (letA sh p (i + q)) = l[q].kind ∧ okI l[q]) → decL sh (p : Int) f ((kOf p i : Nat) : Int) (encAll l) out = (out ++ l, 0)
 | [], f, i, out, h1, h2, h3, h4, h5 => by
  obtain ⟨f, rfl⟩ : ∃ g, f = g + 1 := ⟨f - 1, by have : ([] : List Itm).length = 0 := rfl; omega⟩
  have e0 : ([] : List Itm).length = 0 := rfl
  rw [e0, Nat.add_zero] at h3 h4
  rw [step_st hsz, if_pos ⟨⟨h3, h4⟩, rfl⟩, List.append_nil]
 | x :: l, f, i, out, h1, h2, h3, h4, h5 => by
  obtain ⟨f, rfl⟩ : ∃ g, f = g + 1 := ⟨f - 1, by omega⟩
  rw [List.length_cons] at h1 h2 h3 h4
  obtain ⟨hk, hx⟩ : kindB (letA sh p (i + 0)) = x.kind ∧ okI x := h5 0 (by simp)
  rw [Nat.add_zero] at hk
  have hne : encAll (x :: l) ≠ emp := by
   rw [encAll_cons]
   intro e
   have := congrArg ByteArray.size e
   rw [ByteArray.size_append] at this
   have h0 : (emp : ByteArray).size = 0 := rfl
   have hp : 1 ≤ (bytI x).size := by
    unfold bytI
    split
    ·rw [ByteArray.size_append, numB_size]; omega
    ·rename_i h4
     rw [numB_size]
     rcases hx with h | h | h | h
     ·rw [h.1]; decide
     ·rw [h.1]; decide
     ·rw [h.1]; decide
     ·exact absurd h.1 h4
   omega
  rw [step_st hsz, if_neg (fun h => hne h.2), if_neg (by omega), encAll_cons, itemF_enc hk hx, if_neg (fun h => h rfl)]
  rw [dec_enc hsz l f (i + 1) (out ++ [x]) (by omega) (by rw [List.length_append, List.length_singleton]; omega) (by omega) (by rw [← h4]; congr 1; omega) fun q hq => ?_]
  ·rw [List.append_assoc]; rfl
  ·have := h5 (q + 1) (by rw [List.length_cons]; omega)
   rw [show i + 1 + q = i + (q + 1) by omega]
   exact this
/-! ### The shapes of a topic -/
def tl3 (n : Nat) : List UInt8 := Go.Lib.repeatL [116, 108, 108] n
theorem shN_list (n : Nat) : (shN n).data.toList = [116, 108, 108, 108] ++ tl3 n ++ [42, 108, 116, 108, 116, 116] := by
 unfold shN
 rw [ByteArray.data_append, Array.toList_append, ByteArray.data_append, Array.toList_append]; rfl
theorem tl3_len (n : Nat) : (tl3 n).length = 3 * n := rep_len n
theorem tl3_get (n : Nat) : ∀ i, ∀ h : i < (tl3 n).length, (tl3 n)[i] = if i % 3 = 0 then 116 else 108 := by
 induction n with
 | zero => intro i h; exact absurd h (Nat.not_lt_zero i)
 | succ n ih =>
  intro i h
  have hl : i < ([116, 108, 108] ++ tl3 n : List UInt8).length := h
  show ([116, 108, 108] ++ tl3 n : List UInt8)[i]'hl = _
  by_cases hi : i < 3
  ·rw [List.getElem_append_left (by exact hi)]
   have : i = 0 ∨ i = 1 ∨ i = 2 := by omega
   rcases this with rfl | rfl | rfl <;> rfl
  ·rw [List.getElem_append_right (by show 3 ≤ i; omega)]
   have := ih (i - 3) (by rw [tl3_len] at h ⊢; omega)
   refine Eq.trans (show (tl3 n)[i - ([116, 108, 108] : List UInt8).length]'_ = (tl3 n)[i - 3]'(by rw [tl3_len] at h ⊢; omega) from rfl) (this.trans ?_)
   have e : (i - 3) % 3 = i % 3 := by omega
   rw [e]
theorem shN_at (n i : Nat) : (shN n).data[i]! = (([116, 108, 108, 108] ++ tl3 n ++ [42, 108, 116, 108, 116, 116] : List UInt8)[i]?).getD default := by
 rw [← shN_list, getElem!_def, Array.getElem?_toList]
 cases (shN n).data[i]? <;> rfl
theorem shN_lo (n i : Nat) (h : i < 4) : (shN n).data[i]! = if i = 0 then 116 else 108 := by
 rw [shN_at, List.append_assoc, List.getElem?_append_left (by exact h)]
 have : i = 0 ∨ i = 1 ∨ i = 2 ∨ i = 3 := by omega
 rcases this with rfl | rfl | rfl | rfl <;> rfl
theorem shN_mid (n i : Nat) (h : i < 3 * n) : (shN n).data[4 + i]! = if i % 3 = 0 then 116 else 108 := by
 rw [shN_at, List.append_assoc, List.getElem?_append_right (by show 4 ≤ 4 + i; omega), show (4 + i - ([116, 108, 108, 108] : List UInt8).length : Nat) = i from Nat.add_sub_cancel_left 4 i, List.getElem?_append_left (by rw [tl3_len]; exact h), List.getElem?_eq_getElem (by rw [tl3_len]; exact h), tl3_get]; rfl
theorem shN_hi (n i : Nat) (h : i < 6) : (shN n).data[4 + 3 * n + i]! = ([42, 108, 116, 108, 116, 116] : List UInt8)[i]'h := by
 rw [shN_at, List.getElem?_append_right (by rw [List.length_append, tl3_len]; show 4 + 3 * n ≤ _; omega)]
 have e : 4 + 3 * n + i - ([116, 108, 108, 108] ++ tl3 n : List UInt8).length = i := by rw [List.length_append, tl3_len]; show 4 + 3 * n + i - (4 + 3 * n) = i; omega
 rw [e, List.getElem?_eq_getElem h]; rfl
theorem shN_star (n : Nat) : idxB (shN n) 42 = ((4 + 3 * n : Nat) : Int) := by
 unfold idxB
 have hf : ((List.range (shN n).size).find? fun i => (shN n)[i]! == 42) = some (4 + 3 * n) := by
  rw [List.find?_eq_some_iff_getElem]
  have hz := shN_size n
  have hg : ∀ i, i < (shN n).size → (shN n)[i]! = (shN n).data[i]! := fun i hi => by
   rw [getElem!_pos (shN n) i hi, getElem!_pos (shN n).data i hi]; rfl
  refine ⟨by rw [hg _ (by omega), show 4 + 3 * n = 4 + 3 * n + 0 from rfl, shN_hi n 0 (by decide)]; rfl, 4 + 3 * n, by rw [List.length_range, shN_size]; omega, by simp, fun j hj => ?_⟩
  rw [List.getElem_range, hg _ (by omega)]
  by_cases h4 : j < 4
  ·rw [shN_lo n j h4]
   split <;> rfl
  ·obtain ⟨k, rfl⟩ : ∃ k, j = 4 + k := ⟨j - 4, by omega⟩
   rw [shN_mid n k (by omega)]
   split <;> rfl
 rw [hf]
theorem letA_sh (n i : Nat) : letA (shN n) (4 + 3 * n) i = if i < 4 then (if i = 0 then 116 else 108) else if i < 4 + 3 * n then (if (i - 4) % 3 = 0 then 116 else 108) else if (i - 4 - 3 * n) % 5 = 0 ∨ (i - 4 - 3 * n) % 5 = 2 then 108 else (if (i - 4 - 3 * n) % 5 = 1 ∨ (i - 4 - 3 * n) % 5 = 3 ∨ (i - 4 - 3 * n) % 5 = 4 then 116 else 0) := by
 unfold letA
 by_cases h1 : i < 4
 ·rw [if_pos (by omega), if_pos h1, shN_lo n i h1]
 ·rw [if_neg h1]
  by_cases h2 : i < 4 + 3 * n
  ·rw [if_pos h2, if_pos h2]
   have := shN_mid n (i - 4) (by omega)
   rw [show 4 + (i - 4) = i by omega] at this
   exact this
  ·rw [if_neg h2, if_neg h2, show i - (4 + 3 * n) = i - 4 - 3 * n by omega]
   have hlt : (i - 4 - 3 * n) % 5 < 5 := Nat.mod_lt _ (by decide)
   obtain ⟨r, hr⟩ : ∃ r, r = (i - 4 - 3 * n) % 5 := ⟨_, rfl⟩
   rw [← hr] at hlt ⊢
   rw [show 4 + 3 * n + 1 + r = 4 + 3 * n + (1 + r) by omega, shN_hi n (1 + r) (by omega)]
   have : r = 0 ∨ r = 1 ∨ r = 2 ∨ r = 3 ∨ r = 4 := by omega
   rcases this with rfl | rfl | rfl | rfl | rfl <;> rfl
theorem tl3_mem (n : Nat) : ∀ x ∈ tl3 n, x = 116 ∨ x = 108 := by
 induction n with
 | zero => intro x hx; exact absurd hx List.not_mem_nil
 | succ n ih =>
  intro x hx
  have hx' : x ∈ ([116, 108, 108] ++ tl3 n : List UInt8) := hx
  rcases List.mem_append.1 hx' with h | h
  ·simp only [List.mem_cons, List.not_mem_nil, or_false] at h
   rcases h with rfl | rfl | rfl
   ·exact .inl rfl
   ·exact .inr rfl
   ·exact .inr rfl
  ·exact ih x h
theorem shN_right (n : Nat) : rightS (shN n) = true := by
 have hA : ([116, 108, 108, 108] ++ tl3 n : List UInt8).length = 4 + 3 * n := by rw [List.length_append, tl3_len]; rfl
 have h1 : ((shN n).extract 0 (4 + 3 * n)).data.toList = [116, 108, 108, 108] ++ tl3 n := by
  rw [ByteArray.data_extract, Array.toList_extract, shN_list, List.extract_eq_take_drop, List.drop_zero, Nat.sub_zero, ← hA, List.take_left]
 have h2 : ((shN n).extract (4 + 3 * n + 1) (shN n).size).data.toList = [108, 116, 108, 116, 116] := by
  rw [ByteArray.data_extract, Array.toList_extract, shN_list, List.extract_eq_take_drop, ← hA, ← List.drop_drop, List.drop_left, shN_size, hA]
  show List.take (10 + 3 * n - (4 + 3 * n + 1)) [108, 116, 108, 116, 116] = _
  rw [show 10 + 3 * n - (4 + 3 * n + 1) = 5 by omega]; rfl
 have hc : cutF (shN n) = ((shN n).extract 0 (4 + 3 * n), (shN n).extract (4 + 3 * n + 1) (shN n).size, true) := by
  unfold cutF
  rw [shN_star, if_pos (by omega), Int.toNat_natCast]
 unfold rightS
 rw [hc]
 simp only [Bool.and_eq_true, Bool.or_eq_true, Bool.not_eq_true', decide_eq_false_iff_not, Bool.not_true]
 refine ⟨List.all_eq_true.2 fun x hx => ?_, .inr fun e => ?_⟩
 ·rw [ByteArray.data_append, Array.toList_append, h1, h2] at hx
  have hh : x = 116 ∨ x = 108 := by
   rcases List.mem_append.1 hx with h | h
   ·rcases List.mem_append.1 h with h | h
    ·simp only [List.mem_cons, List.not_mem_nil, or_false] at h
     rcases h with rfl | rfl | rfl | rfl
     ·exact .inl rfl
     ·exact .inr rfl
     ·exact .inr rfl
     ·exact .inr rfl
    ·exact tl3_mem n x h
   ·simp only [List.mem_cons, List.not_mem_nil, or_false] at h
    rcases h with rfl | rfl | rfl | rfl | rfl
    ·exact .inr rfl
    ·exact .inl rfl
    ·exact .inr rfl
    ·exact .inl rfl
    ·exact .inl rfl
  rcases hh with rfl | rfl
  ·exact show letterB 116 = true by kernel_rfl
  ·exact show letterB 108 = true by kernel_rfl
 ·rw [e] at h2
  exact absurd h2 (by decide)
theorem decF_shN (n : Nat) (s : ByteArray) : decF (shN n) s = decL (shN n) ((4 + 3 * n : Nat) : Int) 1001 ((kOf (4 + 3 * n) 0 : Nat) : Int) s [] := by
 unfold decF
 rw [if_pos (shN_right n), shN_star]; rfl
theorem shN_sz (n : Nat) : (shN n).size = (4 + 3 * n) + 6 := by rw [shN_size]; omega
theorem dec_len {n : Nat} {s : ByteArray} (h : (decF (shN n) s).2 = 0) : ∃ j, (decF (shN n) s).1.length = 4 + 3 * n + 5 * j := by
 rw [decF_shN] at h ⊢
 exact (dec_ok (shN_sz n) 1001 0 s [] rfl (by decide) rfl h).1
theorem dec_len4 (s : ByteArray) : ∀ n, (decF (shN n) s).2 = 0 → 4 ≤ (decF (shN n) s).1.length := fun n h => by
 obtain ⟨j, h⟩ := dec_len h
 omega
/-- The first four items hang on the bytes alone. -/
def four (s : ByteArray) : List Itm :=
 let r1 := itemF 116 s
 let r2 := itemF 108 r1.2.1
 let r3 := itemF 108 r2.2.1
 let r4 := itemF 108 r3.2.1
 [r1.1, r2.1, r3.1, r4.1]
theorem dec_four {n : Nat} {s : ByteArray} (h : (decF (shN n) s).2 = 0) : ∃ rest, (decF (shN n) s).1 = four s ++ rest := by
 rw [decF_shN] at h ⊢
 have hz := shN_sz n
 have step : ∀ (f i : Nat) (s : ByteArray) (out : List Itm) (c : UInt8), i < 4 → out.length = i → letA (shN n) (4 + 3 * n) i = c → (decL (shN n) ((4 + 3 * n : Nat) : Int) (f + 1) ((kOf (4 + 3 * n) i : Nat) : Int) s out).2 = 0 →
   decL (shN n) ((4 + 3 * n : Nat) : Int) (f + 1) ((kOf (4 + 3 * n) i : Nat) : Int) s out = decL (shN n) ((4 + 3 * n : Nat) : Int) f ((kOf (4 + 3 * n) (i + 1) : Nat) : Int) (itemF c s).2.1 (out ++ [(itemF c s).1]) := fun f i s out c hi ho hc hh => by
  rw [step_st hz, hc] at hh ⊢
  rw [if_neg (fun h : ((4 + 3 * n ≤ i ∧ (i - (4 + 3 * n)) % 5 = 0) ∧ s = emp) => by omega), if_neg (by omega)] at hh ⊢
  split at hh
  ·rename_i he; exact absurd hh he
  ·rename_i he; rw [if_neg he]
 have hl : ∀ i, i < 4 → letA (shN n) (4 + 3 * n) i = if i = 0 then 116 else 108 := fun i hi => by rw [letA_sh, if_pos hi]
 have e1 := step 1000 0 s [] 116 (by decide) rfl (hl 0 (by decide)) h
 rw [e1] at h ⊢
 have e2 := step 999 1 _ _ 108 (by decide) rfl (hl 1 (by decide)) h
 rw [e2] at h ⊢
 have e3 := step 998 2 _ _ 108 (by decide) rfl (hl 2 (by decide)) h
 rw [e3] at h ⊢
 have e4 := step 997 3 _ _ 108 (by decide) rfl (hl 3 (by decide)) h
 rw [e4] at h ⊢
 obtain ⟨-, rest, hr⟩ := dec_ok hz 997 4 _ _ (by rfl) (by simp) (by rfl) h
 exact ⟨rest, hr⟩
end C17
