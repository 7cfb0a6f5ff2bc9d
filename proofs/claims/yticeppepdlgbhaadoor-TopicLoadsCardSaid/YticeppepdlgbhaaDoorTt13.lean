import Derived.Test.YticeppepdlgbhaaDoorTt11
import Derived.Test.YticeppepdlgbhaaDoorAmF
/-! Bytes that are a topic, by the document's reading: plain. -/
open Go Go.Proofs Go.Am
set_option linter.unusedVariables false
set_option autoImplicit false
namespace C17
/-! ### What is read is written as it stood -/
theorem lowB_add (a m n : Nat) : ∀ k, k ≤ n → lowB (a * 256 ^ n + m) k = lowB m k
 | 0, _ => rfl
 | k + 1, h => by
  have e : 256 ^ n = 256 ^ (n - k - 1) * 256 * 256 ^ k := by
   rw [Nat.mul_assoc, ← Nat.pow_succ', ← Nat.pow_add]; congr 1; omega
  have e1 : (a * 256 ^ n + m) / 256 ^ k = m / 256 ^ k + a * 256 ^ (n - k - 1) * 256 := by
   rw [e, ← Nat.mul_assoc, ← Nat.mul_assoc, Nat.add_comm, Nat.add_mul_div_right _ _ (Nat.pow_pos (by decide))]
  show UInt8.ofNat ((a * 256 ^ n + m) / 256 ^ k % 256) :: lowB (a * 256 ^ n + m) k = UInt8.ofNat (m / 256 ^ k % 256) :: lowB m k
  rw [lowB_add a m n k (by omega), e1, Nat.add_mul_mod_self_right]
theorem low_be : ∀ (l : List UInt8), lowB (beN l) l.length = l
 | [] => rfl
 | c :: l => by
  have e : beN (c :: l) = c.toNat * 256 ^ l.length + beN l := by
   unfold beN
   rw [List.foldl_cons, foldBe, Nat.zero_mul, Nat.zero_add]; rfl
  have hlt := beN_lt l
  have hc : c.toNat < 256 := c.toNat_lt
  show UInt8.ofNat (beN (c :: l) / 256 ^ l.length % 256) :: lowB (beN (c :: l)) l.length = c :: l
  rw [e, lowB_add _ _ _ _ (Nat.le_refl _), low_be l, Nat.add_comm, Nat.add_mul_div_right _ _ (Nat.pow_pos (by decide)), Nat.div_eq_of_lt hlt, Nat.zero_add, Nat.mod_eq_of_lt hc]
  simp
theorem ba_split (s : ByteArray) (n : Nat) (h : n ≤ s.size) : s.extract 0 n ++ s.extract n s.size = s := by
 have h2 : s.data.size = s.size := rfl
 ext1
 rw [ByteArray.data_append, ByteArray.data_extract, ByteArray.data_extract]
 apply Array.ext'
 rw [Array.toList_append, Array.toList_extract, Array.toList_extract, List.extract_eq_take_drop, List.extract_eq_take_drop, List.drop_zero, Nat.sub_zero]
 have h3 : List.take (s.size - n) (s.data.toList.drop n) = s.data.toList.drop n := List.take_of_length_le (by rw [List.length_drop, Array.length_toList]; omega)
 rw [h3, List.take_append_drop]
theorem numB_take (s : ByteArray) (n : Nat) (h : n ≤ s.size) : numB (beN (s.data.toList.take n)) n = s.extract 0 n := by
 have h2 : s.data.size = s.size := rfl
 have h1 : (s.data.toList.take n).length = n := by
  rw [List.length_take, Array.length_toList]; omega
 have h3 := low_be (s.data.toList.take n)
 rw [h1] at h3
 show (⟨(lowB (beN (s.data.toList.take n)) n).toArray⟩ : ByteArray) = _
 rw [h3]
 ext1
 rw [ByteArray.data_extract]
 apply Array.ext'
 rw [Array.toList_extract, List.extract_eq_take_drop, List.drop_zero, Nat.sub_zero]
theorem numF_inv {n : Nat} {s : ByteArray} (h : (numF n s 0).2.2 = 0) : numB (numF n s 0).1 n ++ (numF n s 0).2.1 = s ∧ n ≤ s.size := by
 unfold numF at h ⊢
 split at h
 ·exact absurd h (show ¬ (2 : Int) = 0 by decide)
 ·rename_i hn
  rw [if_neg hn]
  show numB (beN (s.data.toList.take n)) n ++ s.extract n s.size = s ∧ _
  rw [numB_take s n (by omega), ba_split s n (by omega)]
  exact ⟨rfl, by omega⟩
theorem textF_inv {s : ByteArray} (h : (textF s 0).2.2 = 0) : (numB (textF s 0).1.size 4 ++ (textF s 0).1) ++ (textF s 0).2.1 = s := by
 unfold textF at h ⊢
 split at h
 ·rename_i h1; exact absurd h h1
 ·rename_i h1
  rw [if_neg h1]
  split at h
  ·exact absurd h (show ¬ (3 : Int) = 0 by decide)
  ·rename_i h2
   rw [if_neg h2]
   split at h
   ·exact absurd h (show ¬ (2 : Int) = 0 by decide)
   ·rename_i h3
    rw [if_neg h3]
    obtain ⟨h5, h6⟩ := numF_inv (Decidable.not_not.1 h1)
    have h7 : ((numF 4 s 0).2.1.extract 0 (numF 4 s 0).1).size = (numF 4 s 0).1 := by
     rw [ByteArray.size_extract]; omega
    show (numB ((numF 4 s 0).2.1.extract 0 (numF 4 s 0).1).size 4 ++ (numF 4 s 0).2.1.extract 0 (numF 4 s 0).1) ++ (numF 4 s 0).2.1.extract (numF 4 s 0).1 (numF 4 s 0).2.1.size = s
    rw [h7, ByteArray.append_assoc, ba_split _ _ (by omega)]
    exact h5
theorem itemF_inv {c : UInt8} {s : ByteArray} (h : (itemF c s).2.2 = 0) : bytI (itemF c s).1 ++ (itemF c s).2.1 = s := by
 unfold itemF at h ⊢
 split at h
 ·rename_i hk
  rw [if_pos hk]
  exact textF_inv h
 ·rename_i hk
  rw [if_neg hk]
  show bytI ⟨kindB c, (numF (szK (kindB c)) s 0).1, emp⟩ ++ _ = s
  rw [bytI_num hk]
  exact (numF_inv h).1
theorem encAll_snoc (l : List Itm) (x : Itm) : encAll (l ++ [x]) = encAll l ++ bytI x := by
 unfold encAll
 rw [List.foldl_append]; rfl
theorem dec_inv {sh : ByteArray} {p : Nat} (hsz : sh.size = p + 6) : ∀ (f i : Nat) (s : ByteArray) (out : List Itm), f + out.length = 1001 → out.length ≤ 1000 → (decL sh (p : Int) f ((kOf p i : Nat) : Int) s out).2 = 0 →
  encAll (decL sh (p : Int) f ((kOf p i : Nat) : Int) s out).1 = encAll out ++ s
 | 0, i, s, out, h1, h2, h => by omega
 | f + 1, i, s, out, h1, h2, h => by
  rw [step_st hsz] at h ⊢
  split at h
  ·rename_i hc
   rw [if_pos hc, hc.2]
   exact ByteArray.append_empty.symm
  ·rename_i hc
   rw [if_neg hc]
   split at h
   ·exact absurd h (by decide)
   ·rename_i hl
    rw [if_neg hl]
    split at h
    ·rename_i he; exact absurd h he
    ·rename_i he
     rw [if_neg he]
     have he := Decidable.not_not.1 he
     rw [dec_inv hsz f (i + 1) _ _ (by rw [List.length_append, List.length_singleton]; omega) (by rw [List.length_append, List.length_singleton]; omega) h, encAll_snoc, ByteArray.append_assoc, itemF_inv he]
theorem decF_inv {n : Nat} {s : ByteArray} (h : (decF (shN n) s).2 = 0) : encAll (decF (shN n) s).1 = s := by
 rw [decF_shN] at h ⊢
 rw [dec_inv (shN_sz n) 1001 0 s [] rfl (by decide) h]
 exact ByteArray.empty_append
/-- Every item that was read has the kind of its letter, and what that kind says. -/
theorem itemF_kind (c : UInt8) (s : ByteArray) : (itemF c s).1.kind = kindB c ∧ (kindB c = 4 → (itemF c s).1.n = 0) ∧ (kindB c ≠ 4 → (itemF c s).1.s = emp) := by
 unfold itemF
 split
 ·rename_i hk; exact ⟨hk.symm, fun _ => rfl, fun h => absurd hk h⟩
 ·rename_i hk; exact ⟨rfl, fun h => absurd h hk, fun _ => rfl⟩
theorem dec_kinds {sh : ByteArray} {p : Nat} (hsz : sh.size = p + 6) : ∀ (f i : Nat) (s : ByteArray) (out : List Itm), f + out.length = 1001 → out.length ≤ 1000 → out.length = i → (decL sh (p : Int) f ((kOf p i : Nat) : Int) s out).2 = 0 →
  (∀ q x, out[q]? = some x → x.kind = kindB (letA sh p q) ∧ (kindB (letA sh p q) = 4 → x.n = 0) ∧ (kindB (letA sh p q) ≠ 4 → x.s = emp) ∧ okD (letA sh p q) x) →
  ∀ q x, (decL sh (p : Int) f ((kOf p i : Nat) : Int) s out).1[q]? = some x → x.kind = kindB (letA sh p q) ∧ (kindB (letA sh p q) = 4 → x.n = 0) ∧ (kindB (letA sh p q) ≠ 4 → x.s = emp) ∧ okD (letA sh p q) x
 | 0, i, s, out, h1, h2, h3, h, ho => by omega
 | f + 1, i, s, out, h1, h2, h3, h, ho => by
  rw [step_st hsz] at h ⊢
  split at h
  ·rename_i hc
   rw [if_pos hc]
   exact ho
  ·rename_i hc
   rw [if_neg hc]
   split at h
   ·exact absurd h (by decide)
   ·rename_i hl
    rw [if_neg hl]
    split at h
    ·rename_i he; exact absurd h he
    ·rename_i he
     rw [if_neg he]
     refine dec_kinds hsz f (i + 1) _ _ (by rw [List.length_append, List.length_singleton]; omega) (by rw [List.length_append, List.length_singleton]; omega) (by rw [List.length_append, List.length_singleton]; omega) h fun q x hq => ?_
     rcases Nat.lt_or_ge q out.length with hlt | hge
     ·rw [List.getElem?_append_left hlt] at hq
      exact ho q x hq
     ·rw [List.getElem?_append_right hge] at hq
      have e0 : q - out.length = 0 := by
       cases hd : q - out.length with
       | zero => rfl
       | succ n => rw [hd] at hq; cases hq
      rw [e0] at hq
      have e1 : q = i := by omega
      subst e1
      obtain rfl := Option.some.inj hq
      obtain ⟨k1, k2, k3⟩ := itemF_kind (letA sh p q) s
      exact ⟨k1, k2, k3, itemF_ok (Decidable.not_not.1 he)⟩
theorem decF_kinds {n : Nat} {s : ByteArray} (h : (decF (shN n) s).2 = 0) : ∀ q x, (decF (shN n) s).1[q]? = some x → x.kind = kindB (letA (shN n) (4 + 3 * n) q) ∧ (kindB (letA (shN n) (4 + 3 * n) q) = 4 → x.n = 0) ∧ (kindB (letA (shN n) (4 + 3 * n) q) ≠ 4 → x.s = emp) ∧ okD (letA (shN n) (4 + 3 * n) q) x := by
 rw [decF_shN] at h ⊢
 exact dec_kinds (shN_sz n) 1001 0 s [] rfl (by decide) rfl h fun q x hq => by cases hq
/-! ### The document's reading -/
def zI : Itm := ⟨0, 0, emp⟩
/-- An item of a kind: it, how many bytes it has, the error. -/
def takeF (kd : Int) (s : ByteArray) : Itm × Nat × Int :=
 if 0 < szK kd then (if s.size < szK kd then (zI, 0, 2) else (⟨kd, beN (s.data.toList.take (szK kd)), emp⟩, szK kd, 0))
 else if s.size < 4 then (zI, 0, 2) else if 100000 < beN (s.data.toList.take 4) then (zI, 0, 3) else if s.size - 4 < beN (s.data.toList.take 4) then (zI, 0, 2)
 else (⟨kd, 0, s.extract 4 (4 + beN (s.data.toList.take 4))⟩, 4 + beN (s.data.toList.take 4), 0)
theorem ext_ext (s : ByteArray) (n a b : Nat) (h : n ≤ s.size) : (s.extract n s.size).extract a b = s.extract (n + a) (min (n + b) s.size) := by
 rw [ByteArray.extract_extract]
theorem take_item {c : UInt8} {kd : Int} (hk : kindB c = kd) (h14 : 1 ≤ kd ∧ kd ≤ 4) (s : ByteArray) : (takeF kd s).2.2 = (itemF c s).2.2 ∧ ((itemF c s).2.2 = 0 → (takeF kd s).1 = (itemF c s).1 ∧ s.extract (takeF kd s).2.1 s.size = (itemF c s).2.1 ∧ (takeF kd s).2.1 ≤ s.size) := by
 unfold takeF itemF
 rw [hk]
 by_cases h4 : kd = 4
 ·subst h4
  rw [if_neg (show ¬ 0 < szK 4 by decide), if_pos rfl]
  unfold textF numF
  by_cases h1 : s.size < 4
  ·rw [if_pos h1, if_pos h1]
   refine ⟨rfl, fun h => absurd h (show ¬ (2 : Int) = 0 by decide)⟩
  ·rw [if_neg h1, if_neg h1]
   dsimp only
   rw [if_neg (fun h : ¬ ((0 : Int) = 0) => h rfl)]
   by_cases h2 : 100000 < beN (s.data.toList.take 4)
   ·rw [if_pos h2, if_pos h2]
    exact ⟨rfl, fun h => absurd h (show ¬ (3 : Int) = 0 by decide)⟩
   ·rw [if_neg h2, if_neg h2]
    have hz : (s.extract 4 s.size).size = s.size - 4 := by rw [ByteArray.size_extract]; omega
    rw [hz]
    by_cases h3 : s.size - 4 < beN (s.data.toList.take 4)
    ·rw [if_pos h3, if_pos h3]
     exact ⟨rfl, fun h => absurd h (show ¬ (2 : Int) = 0 by decide)⟩
    ·rw [if_neg h3, if_neg h3]
     refine ⟨rfl, fun _ => ⟨?_, ?_, ?_⟩⟩
     ·show (⟨4, 0, s.extract 4 (4 + beN (s.data.toList.take 4))⟩ : Itm) = ⟨4, 0, (s.extract 4 s.size).extract 0 (beN (s.data.toList.take 4))⟩
      rw [ext_ext _ _ _ _ (by omega), Nat.min_eq_left (by omega)]
     ·show s.extract (4 + beN (s.data.toList.take 4)) s.size = (s.extract 4 s.size).extract (beN (s.data.toList.take 4)) (s.size - 4)
      rw [ext_ext _ _ _ _ (by omega), Nat.min_eq_right (by omega)]
     ·show 4 + beN (s.data.toList.take 4) ≤ s.size
      omega
 ·have hs : 0 < szK kd := by
   have : kd = 1 ∨ kd = 2 ∨ kd = 3 := by omega
   rcases this with rfl | rfl | rfl <;> decide
  rw [if_pos hs, if_neg h4]
  unfold numF
  by_cases h1 : s.size < szK kd
  ·rw [if_pos h1, if_pos h1]
   exact ⟨rfl, fun h => absurd h (show ¬ (2 : Int) = 0 by decide)⟩
  ·rw [if_neg h1, if_neg h1]
   exact ⟨rfl, fun _ => ⟨rfl, rfl, by show szK kd ≤ s.size; omega⟩⟩
/-- The kind of the item k. -/
def kdOf (a b : List Int) (k : Nat) : Int := if k < a.length then a.getD k 0 else b.getD ((k - a.length) % b.length) 0
def rdec (a b : List Int) : Nat → Nat → ByteArray → List Itm → List Itm × Int
 | 0, _, _, _ => ([], 0)
 | f + 1, k, s, out =>
  if k < a.length ∨ 0 < b.length then
   if (a.length ≤ k ∧ (k - a.length) % b.length = 0) ∧ s = emp then (out, 0) else
   if out.length = 1000 then ([], 3) else
   if (takeF (kdOf a b k) s).2.2 ≠ 0 then ([], (takeF (kdOf a b k) s).2.2) else rdec a b f (k + 1) (s.extract (takeF (kdOf a b k) s).2.1 s.size) (out ++ [(takeF (kdOf a b k) s).1])
  else if s ≠ emp then ([], 10) else (out, 0)
theorem rdec_st {sh : ByteArray} {a b : List Int} (hsz : sh.size = a.length + 6) (hb : b.length = 5) (hk : ∀ i, kindB (letA sh a.length i) = kdOf a b i ∧ 1 ≤ kdOf a b i ∧ kdOf a b i ≤ 4) : ∀ (f i : Nat) (s : ByteArray) (out : List Itm),
  rdec a b f i s out = decL sh (a.length : Int) f ((kOf a.length i : Nat) : Int) s out
 | 0, i, s, out => rfl
 | f + 1, i, s, out => by
  rw [step_st hsz, rdec, if_pos (.inr (by omega)), hb]
  obtain ⟨h1, h2⟩ := hk i
  obtain ⟨h3, h4⟩ := take_item h1 h2 s
  rw [h3]
  by_cases hc : (a.length ≤ i ∧ (i - a.length) % 5 = 0) ∧ s = emp
  ·rw [if_pos hc, if_pos hc]
  ·rw [if_neg hc, if_neg hc]
   by_cases h5 : out.length = 1000
   ·rw [if_pos h5, if_pos h5]
   ·rw [if_neg h5, if_neg h5]
    by_cases h6 : (itemF (letA sh a.length i) s).2.2 = 0
    ·rw [if_neg (fun h => h h6), if_neg (fun h => h h6)]
     obtain ⟨h7, h8, -⟩ := h4 h6
     rw [h7, h8]
     exact rdec_st hsz hb hk f (i + 1) _ _
    ·rw [if_pos h6, if_pos h6]
def aN (n : Nat) : List Int := [4, 3, 3, 3] ++ (List.replicate n [(4 : Int), 3, 3]).flatten
def bN : List Int := [3, 4, 3, 4, 4]
theorem aN_len (n : Nat) : (aN n).length = 4 + 3 * n := by
 unfold aN
 rw [List.length_append]
 have h : ∀ n : Nat, ((List.replicate n [(4 : Int), 3, 3]).flatten).length = 3 * n := fun n => by
  induction n with
  | zero => rfl
  | succ n ih => rw [List.replicate_succ, List.flatten_cons, List.length_append, ih]; show 3 + 3 * n = _; omega
 rw [h]; rfl
theorem rep_get (n : Nat) : ∀ i, i < 3 * n → ((List.replicate n [(4 : Int), 3, 3]).flatten)[i]? = some (if i % 3 = 0 then 4 else 3) := by
 induction n with
 | zero => intro i h; omega
 | succ n ih =>
  intro i h
  rw [List.replicate_succ, List.flatten_cons]
  by_cases hi : i < 3
  ·rw [List.getElem?_append_left (by exact hi)]
   have : i = 0 ∨ i = 1 ∨ i = 2 := by omega
   rcases this with rfl | rfl | rfl <;> rfl
  ·rw [List.getElem?_append_right (by show 3 ≤ i; omega)]
   have := ih (i - 3) (by omega)
   rw [show (i - ([(4 : Int), 3, 3]).length : Nat) = i - 3 from rfl, this, show (i - 3) % 3 = i % 3 by omega]
theorem kd_letA (n i : Nat) : kindB (letA (shN n) (4 + 3 * n) i) = kdOf (aN n) bN i ∧ 1 ≤ kdOf (aN n) bN i ∧ kdOf (aN n) bN i ≤ 4 := by
 rw [letA_sh]
 unfold kdOf
 rw [aN_len]
 by_cases h1 : i < 4
 ·rw [if_pos h1, if_pos (show i < 4 + 3 * n by omega)]
  unfold aN
  rw [List.getD_eq_getElem?_getD, List.getElem?_append_left (by exact h1)]
  have : i = 0 ∨ i = 1 ∨ i = 2 ∨ i = 3 := by omega
  rcases this with rfl | rfl | rfl | rfl <;> exact ⟨by first | exact kB116 | exact kB108, by decide, by decide⟩
 ·rw [if_neg h1]
  by_cases h2 : i < 4 + 3 * n
  ·rw [if_pos h2, if_pos h2]
   unfold aN
   rw [List.getD_eq_getElem?_getD, List.getElem?_append_right (by show 4 ≤ i; omega), show (i - ([4, 3, 3, 3] : List Int).length : Nat) = i - 4 from rfl, rep_get n (i - 4) (by omega), Option.getD_some]
   by_cases h3 : (i - 4) % 3 = 0
   ·rw [if_pos h3, if_pos h3]; exact ⟨kB116, by decide, by decide⟩
   ·rw [if_neg h3, if_neg h3]; exact ⟨kB108, by decide, by decide⟩
  ·rw [if_neg h2, if_neg h2, show i - (4 + 3 * n) = i - 4 - 3 * n by omega]
   have hlt : (i - 4 - 3 * n) % 5 < 5 := Nat.mod_lt _ (by decide)
   show _ = bN.getD ((i - 4 - 3 * n) % 5) 0 ∧ _ ≤ bN.getD ((i - 4 - 3 * n) % 5) 0 ∧ bN.getD ((i - 4 - 3 * n) % 5) 0 ≤ _
   obtain ⟨r, hr⟩ : ∃ r, r = (i - 4 - 3 * n) % 5 := ⟨_, rfl⟩
   rw [← hr] at hlt ⊢
   have : r = 0 ∨ r = 1 ∨ r = 2 ∨ r = 3 ∨ r = 4 := by omega
   rcases this with rfl | rfl | rfl | rfl | rfl <;> exact ⟨by first | exact kB116 | exact kB108, by decide, by decide⟩
theorem rdec_decF (n : Nat) (s : ByteArray) : rdec (aN n) bN 1001 0 s [] = decF (shN n) s := by
 have hl := aN_len n
 rw [decF_shN, rdec_st (sh := shN n) (by rw [shN_sz, hl]) rfl (fun i => by rw [hl]; exact kd_letA n i), hl]
/-! ### The document's Load -/
def sizeN (s : ByteArray) : Nat := beN (s.data.toList.take 4)
theorem itemF_app {c : UInt8} {x : ByteArray} (hc : kindB c = 3 ∨ kindB c = 4) (h : (itemF c x).2.2 = 0) (rest : ByteArray) : itemF c (x ++ rest) = ((itemF c x).1, (itemF c x).2.1 ++ rest, 0) := by
 obtain ⟨h1, h2, h3⟩ := itemF_kind c x
 have h4 := itemF_ok h
 have hok : okI (itemF c x).1 := by
  rcases hc with hc | hc
  ·refine .inr (.inr (.inl ⟨h1.trans hc, ?_, h3 (by rw [hc]; decide)⟩))
   have := h4.1
   rw [hc] at this
   exact Nat.lt_of_lt_of_le this (by decide)
  ·exact .inr (.inr (.inr ⟨h1.trans hc, h2 hc, h4.2⟩))
 have h5 := itemF_inv h
 have h6 : x ++ rest = bytI (itemF c x).1 ++ ((itemF c x).2.1 ++ rest) := by
  rw [← ByteArray.append_assoc, h5]
 rw [h6]
 exact itemF_enc h1.symm hok _
theorem item8 {y : ByteArray} (h : 8 ≤ y.size) : (itemF 108 y).2.2 = 0 ∧ (itemF 108 y).2.1.size = y.size - 8 := by
 unfold itemF
 rw [kB108, if_neg (by decide)]
 show (numF 8 y 0).2.2 = 0 ∧ (numF 8 y 0).2.1.size = _
 unfold numF
 rw [if_neg (by omega)]
 refine ⟨rfl, ?_⟩
 show (y.extract 8 y.size).size = _
 rw [ByteArray.size_extract]; omega
theorem itemT {y : ByteArray} (h : 4 + sizeN y ≤ y.size) (h2 : sizeN y ≤ 100000) : (itemF 116 y).2.2 = 0 ∧ (itemF 116 y).2.1.size = y.size - 4 - sizeN y ∧ (itemF 116 y).1.s.size = sizeN y := by
 unfold itemF
 rw [kB116, if_pos rfl]
 show (textF y 0).2.2 = 0 ∧ (textF y 0).2.1.size = _ ∧ (textF y 0).1.size = _
 unfold textF numF
 rw [if_neg (show ¬ y.size < 4 by omega)]
 unfold sizeN at h h2 ⊢
 dsimp only
 have hz : (y.extract 4 y.size).size = y.size - 4 := by rw [ByteArray.size_extract]; omega
 rw [if_neg (fun h : ¬ ((0 : Int) = 0) => h rfl), if_neg (by omega), hz, if_neg (by omega)]
 refine ⟨rfl, ?_, ?_⟩
 ·rw [ByteArray.size_extract, hz]; omega
 ·rw [ByteArray.size_extract, hz]; omega
theorem rd4 {x : ByteArray} (h : x.size = 28 + sizeN x) (h2 : sizeN x ≤ 20) : rdec [4, 3, 3, 3] [] 1001 0 x [] = (four x, 0) ∧ (itemF 116 x).2.2 = 0 ∧ (itemF 108 (itemF 116 x).2.1).2.2 = 0 ∧ (itemF 108 (itemF 108 (itemF 116 x).2.1).2.1).2.2 = 0 ∧ (itemF 108 (itemF 108 (itemF 108 (itemF 116 x).2.1).2.1).2.1).2.2 = 0 := by
 obtain ⟨a1, a2, a3⟩ := itemT (y := x) (by omega) (by omega)
 obtain ⟨b1, b2⟩ := item8 (y := (itemF 116 x).2.1) (by omega)
 obtain ⟨c1, c2⟩ := item8 (y := (itemF 108 (itemF 116 x).2.1).2.1) (by omega)
 obtain ⟨d1, d2⟩ := item8 (y := (itemF 108 (itemF 108 (itemF 116 x).2.1).2.1).2.1) (by omega)
 refine ⟨?_, a1, b1, c1, d1⟩
 have step : ∀ (f i : Nat) (s : ByteArray) (out : List Itm) (c : UInt8) (kd : Int), i < 4 → out.length = i → kindB c = kd → kdOf [4, 3, 3, 3] [] i = kd → 1 ≤ kd ∧ kd ≤ 4 → (itemF c s).2.2 = 0 →
   rdec [4, 3, 3, 3] [] (f + 1) i s out = rdec [4, 3, 3, 3] [] f (i + 1) (itemF c s).2.1 (out ++ [(itemF c s).1]) := fun f i s out c kd hi ho hc hk h14 he => by
  obtain ⟨h3, h4⟩ := take_item hc h14 s
  obtain ⟨h5, h6, -⟩ := h4 he
  rw [rdec, if_pos (.inl (by exact hi)), if_neg (fun h : (([4, 3, 3, 3] : List Int).length ≤ i ∧ _) ∧ _ => by have := h.1.1; simp at this; omega), if_neg (by omega), hk, h3, he, if_neg (fun h => h rfl), h5, h6]
 rw [show 1001 = 1000 + 1 from rfl, step 1000 0 x [] 116 4 (by decide) rfl kB116 rfl (by decide) a1, show 1000 = 999 + 1 from rfl, step 999 1 _ _ 108 3 (by decide) rfl kB108 rfl (by decide) b1, show 999 = 998 + 1 from rfl, step 998 2 _ _ 108 3 (by decide) rfl kB108 rfl (by decide) c1, show 998 = 997 + 1 from rfl, step 997 3 _ _ 108 3 (by decide) rfl kB108 rfl (by decide) d1]
 have he : (itemF 108 (itemF 108 (itemF 108 (itemF 116 x).2.1).2.1).2.1).2.1 = emp := by
  have h0 : (itemF 108 (itemF 108 (itemF 108 (itemF 116 x).2.1).2.1).2.1).2.1.size = 0 := by omega
  exact ByteArray.size_eq_zero_iff.1 h0
 rw [show 997 = 996 + 1 from rfl, rdec, if_neg (fun h => by rcases h with h | h <;> exact absurd h (by decide)), he, if_neg (fun h => h rfl)]
 rfl
theorem size_ext {s : ByteArray} {n : Nat} (h : 4 ≤ n) (hn : n ≤ s.size) : sizeN (s.extract 0 n) = sizeN s := by
 unfold sizeN
 have h2 : s.data.size = s.size := rfl
 rw [ByteArray.data_extract, Array.toList_extract, List.extract_eq_take_drop, List.drop_zero, Nat.sub_zero, List.take_take, Nat.min_eq_left h]
theorem four_ext {s : ByteArray} (h1 : sizeN s ≤ 20) (h2 : 28 + sizeN s ≤ s.size) : rdec [4, 3, 3, 3] [] 1001 0 (s.extract 0 (28 + sizeN s)) [] = (four s, 0) := by
 have hx : sizeN (s.extract 0 (28 + sizeN s)) = sizeN s := size_ext (by omega) h2
 have hz : (s.extract 0 (28 + sizeN s)).size = 28 + sizeN s := by rw [ByteArray.size_extract]; omega
 obtain ⟨h3, a, b, c, d⟩ := rd4 (x := s.extract 0 (28 + sizeN s)) (by rw [hx, hz]) (by rw [hx]; exact h1)
 rw [h3]
 have hs := ba_split s (28 + sizeN s) h2
 obtain ⟨x, hxe⟩ : ∃ x, x = s.extract 0 (28 + sizeN s) := ⟨_, rfl⟩
 obtain ⟨r, hre⟩ : ∃ r, r = s.extract (28 + sizeN s) s.size := ⟨_, rfl⟩
 rw [← hxe] at a b c d ⊢
 rw [← hxe, ← hre] at hs
 rw [← hs]
 have e1 := itemF_app (.inr kB116) a r
 have e2 := itemF_app (.inl kB108) b r
 have e3 := itemF_app (.inl kB108) c r
 have e4 := itemF_app (.inl kB108) d r
 unfold four
 dsimp only
 rw [e1]
 dsimp only
 rw [e2]
 dsimp only
 rw [e3]
 dsimp only
 rw [e4]
/-- The topic of bytes. -/
def docLoad (s : ByteArray) : Option Tp :=
 if s.size < 4 then none else if 20 < sizeN s ∨ s.size < 28 + sizeN s then none else if 333 < ((four s).getD 3 zI).n then none
 else if (decF (shN ((four s).getD 3 zI).n) s).2 ≠ 0 then none else loadT (decF (shN ((four s).getD 3 zI).n) s).1 ((four s).getD 3 zI).n
theorem four_hit {s : ByteArray} {n : Nat} (h : hit s n) : ((four s).getD 3 zI).n = n := by
 obtain ⟨rest, e⟩ := dec_four h.1
 have h2 := h.2
 rw [e, List.getElem?_append_left (by show 3 < 4; omega)] at h2
 rw [List.getD_eq_getElem?_getD]
 rw [List.getElem?_eq_getElem (show 3 < (four s).length from by show 3 < 4; omega)] at h2 ⊢
 exact Option.some.inj h2
theorem doc_none {s : ByteArray} (h : ∀ j, j ≤ 333 → ¬ hit s j) : docLoad s = none := by
 unfold docLoad
 split
 ·rfl
 ·split
  ·rfl
  ·split
   ·rfl
   ·split
    ·rfl
    ·rename_i h3 h4
     exfalso
     have h4 := Decidable.not_not.1 h4
     refine h _ (by omega) ⟨h4, ?_⟩
     obtain ⟨rest, e⟩ := dec_four h4
     rw [e, List.getElem?_append_left (by show 3 < 4; omega), List.getD_eq_getElem?_getD, List.getElem?_eq_getElem (show 3 < (four s).length from by show 3 < 4; omega)]
     rfl
theorem letA4 (n i : Nat) (h : i < 4) : letA (shN n) (4 + 3 * n) i = if i = 0 then 116 else 108 := by rw [letA_sh, if_pos h]
theorem head_size {n : Nat} {s : ByteArray} (h : (decF (shN n) s).2 = 0) : ∃ a b c d R, (decF (shN n) s).1 = a :: b :: c :: d :: R ∧ a.s.size = sizeN s ∧ 28 + sizeN s ≤ s.size := by
 obtain ⟨rest, e⟩ := dec_four h
 have hk := decF_kinds h
 have hi := decF_inv h
 have e' : (decF (shN n) s).1 = (four s).getD 0 zI :: (four s).getD 1 zI :: (four s).getD 2 zI :: (four s).getD 3 zI :: rest := by rw [e]; rfl
 obtain ⟨a, ha⟩ : ∃ a, a = (four s).getD 0 zI := ⟨_, rfl⟩
 obtain ⟨b, hb⟩ : ∃ a, a = (four s).getD 1 zI := ⟨_, rfl⟩
 obtain ⟨c, hc⟩ : ∃ a, a = (four s).getD 2 zI := ⟨_, rfl⟩
 obtain ⟨d, hd⟩ : ∃ a, a = (four s).getD 3 zI := ⟨_, rfl⟩
 rw [← ha, ← hb, ← hc, ← hd] at e'
 rw [e'] at hk hi
 have k0 := hk 0 a rfl
 have k1 := hk 1 b rfl
 have k2 := hk 2 c rfl
 have k3 := hk 3 d rfl
 rw [letA4 n _ (by decide)] at k0 k1 k2 k3
 rw [if_pos rfl, kB116] at k0
 rw [if_neg (by decide), kB108] at k1 k2 k3
 have z : ∀ x : Itm, x.kind = 3 → (bytI x).size = 8 := fun x hx => by
  unfold bytI
  rw [if_neg (by rw [hx]; decide), hx, numB_size]; rfl
 have z0 : bytI a = numB a.s.size 4 ++ a.s := by
  unfold bytI
  rw [if_pos k0.1]
 have h0 : a.s.size ≤ 100000 := k0.2.2.2.2
 rw [encAll_cons, encAll_cons, encAll_cons, encAll_cons, z0, ByteArray.append_assoc] at hi
 refine ⟨a, b, c, d, rest, e', ?_, ?_⟩
 ·unfold sizeN
  rw [← hi, ByteArray.data_append, Array.toList_append, List.take_left' (show (numB a.s.size 4).data.toList.length = 4 from lowB_len _ 4)]
  show _ = beN (lowB a.s.size 4)
  rw [beN_low, Nat.mod_eq_of_lt (by omega)]
 ·have hz := congrArg ByteArray.size hi
  simp only [ByteArray.size_append, numB_size, z b k1.1, z c k2.1, z d k3.1] at hz
  have hs : sizeN s = a.s.size := by
   unfold sizeN
   rw [← hi, ByteArray.data_append, Array.toList_append, List.take_left' (show (numB a.s.size 4).data.toList.length = 4 from lowB_len _ 4)]
   show beN (lowB a.s.size 4) = _
   rw [beN_low, Nat.mod_eq_of_lt (by omega)]
  omega
theorem doc_hit {s : ByteArray} {n : Nat} (hn : n ≤ 333) (h : hit s n) : docLoad s = loadT (decF (shN n) s).1 n := by
 obtain ⟨a, b, c, d, R, e, h1, h2⟩ := head_size h.1
 unfold docLoad
 rw [four_hit h, if_neg (by omega)]
 by_cases h3 : 20 < sizeN s
 ·rw [if_pos (.inl h3), e]
  refine (load_no (okH_w ?_)).symm
  unfold word
  rw [decide_eq_false (show ¬ a.s.size ≤ 20 by omega)]
  simp
 ·rw [if_neg (fun h => by omega), if_neg (by omega), if_neg (fun hh => hh h.1)]
/-! ### What is made of items tells the same items -/
theorem sort_sorted {l : List ByteArray} (h : l.Pairwise fun a b => a.data.toList < b.data.toList) : sortS l = l := by
 unfold sortS
 exact List.mergeSort_of_pairwise (h.imp fun hab => by
  simp only [decide_eq_true_eq]
  exact List.not_lt.1 fun hba => List.lt_irrefl _ (List.lt_trans hab hba))
def isT (x : Itm) : Prop := x = tI x.s
theorem isN_of {x : Itm} (h1 : x.kind = 3) (h2 : x.s = emp) : x = lI (x.n : Int) := by
 cases x; simp only at h1 h2; subst h1; subst h2; rfl
theorem isT_of {x : Itm} (h1 : x.kind = 4) (h2 : x.n = 0) : x = tI x.s := by
 cases x; simp only at h1 h2; subst h1; subst h2; rfl
/-- Items of producers, of records. -/
def prodsK : Nat → List Itm → Prop
 | 0, _ => True
 | k + 1, a :: b :: c :: r => isT a ∧ (b = lI (b.n : Int)) ∧ (c = lI (c.n : Int)) ∧ prodsK k r
 | _, _ => False
def recsK : List Itm → Prop
 | a :: b :: c :: d :: e :: r => (a = lI (a.n : Int)) ∧ isT b ∧ (c = lI (c.n : Int)) ∧ isT d ∧ isT e ∧ recsK r
 | [] => True
 | _ => False
theorem prods_inv (en : Int) : ∀ (k : Nat) (Q : List Itm) (nm : ByteArray) (kv kv' : List (ByteArray × (Int × Int × ByteArray))), prodsT en k Q nm kv = some kv' → prodsK k Q → (∀ q ∈ kv, q.1.data.toList ≤ nm.data.toList) →
  ∃ ad, kv' = kv ++ ad ∧ ad.length = k ∧ Q.take (3 * k) = ad.flatMap (fun p => prodL p.2) ∧ (ad.map (·.1)).Pairwise (fun a b => a.data.toList < b.data.toList) ∧ (∀ q ∈ ad, nm.data.toList < q.1.data.toList) ∧ ∀ p ∈ ad, word p.1 = true ∧ p.2.2.2 = p.1 ∧ (0 ≤ p.2.1 ∧ p.2.1 ≤ great) ∧ (0 ≤ p.2.2.1 ∧ p.2.2.1 < en)
 | 0, Q, nm, kv, kv', h, hk, hs => by
  rw [prodsT] at h
  obtain rfl := Option.some.inj h
  exact ⟨[], (List.append_nil _).symm, rfl, rfl, List.Pairwise.nil, fun q hq => absurd hq List.not_mem_nil, fun q hq => absurd hq List.not_mem_nil⟩
 | k + 1, [], nm, kv, kv', h, hk, hs => hk.elim
 | k + 1, [_], nm, kv, kv', h, hk, hs => hk.elim
 | k + 1, [_, _], nm, kv, kv', h, hk, hs => hk.elim
 | k + 1, a :: b :: c :: Q, nm, kv, kv', h, hk, hs => by
  obtain ⟨k1, k2, k3, k4⟩ := hk
  by_cases ho : okP en nm a b c = true
  ·rw [prods_yes ho] at h
   unfold okP at ho
   simp only [Bool.and_eq_true, decide_eq_true_eq] at ho
   obtain ⟨o1, o2, o3, o4⟩ := ho
   have hn : a.s ∉ kv.map (·.1) := fun hm => by
    obtain ⟨q, hq, e⟩ := List.mem_map.1 hm
    have := hs q hq
    rw [e] at this
    exact List.lt_irrefl _ (List.lt_of_le_of_lt this o2)
   rw [kput_new hn] at h
   obtain ⟨ad, e1, e2, e3, e4, e5, e6⟩ := prods_inv en k Q a.s _ kv' h k4 fun q hq => by
    rcases List.mem_append.1 hq with hq | hq
    ·exact List.le_of_lt (List.lt_of_le_of_lt (hs q hq) o2)
    ·rw [List.mem_singleton.1 hq]; exact List.le_refl _
   refine ⟨(a.s, (b.n : Int), (c.n : Int), a.s) :: ad, by rw [e1, List.append_assoc]; rfl, by rw [List.length_cons, e2], ?_, ?_, ?_, ?_⟩
   ·rw [show 3 * (k + 1) = 3 * k + 1 + 1 + 1 by omega, List.flatMap_cons, List.take_succ_cons, List.take_succ_cons, List.take_succ_cons, e3]
    show _ = tI a.s :: lI (b.n : Int) :: lI (c.n : Int) :: _
    rw [← k2, ← k3, ← show a = tI a.s from k1]
    rfl
   ·rw [List.map_cons]
    refine List.pairwise_cons.2 ⟨fun x hx => ?_, e4⟩
    obtain ⟨q, hq, e⟩ := List.mem_map.1 hx
    rw [← e]; exact e5 q hq
   ·intro q hq
    rcases List.mem_cons.1 hq with rfl | hq
    ·exact o2
    ·exact List.lt_trans o2 (e5 q hq)
   ·intro q hq
    rcases List.mem_cons.1 hq with rfl | hq
    ·exact ⟨o1, rfl, ⟨Int.natCast_nonneg _, Int.ofNat_le.2 o3⟩, Int.natCast_nonneg _, o4⟩
    ·exact e6 q hq
  ·rw [prods_no (by simpa using ho)] at h; cases h
theorem recs_inv (en : Int) : ∀ (Q : List Itm) (lo : Int) (acc rs : List Rec), 0 ≤ lo → recsT en Q lo acc = some rs → recsK Q →
  ∃ ad, rs = acc ++ ad ∧ Q = ad.flatMap recL ∧ (ad.Pairwise fun a b => a.off < b.off) ∧ ∀ r ∈ ad, right r = true ∧ (0 ≤ r.off ∧ r.off < en) ∧ (0 ≤ r.seq ∧ r.seq ≤ great) ∧ lo ≤ r.off
 | [], lo, acc, rs, hl, h, hk => by
  rw [recsT] at h
  obtain rfl := Option.some.inj h
  exact ⟨[], (List.append_nil _).symm, rfl, List.Pairwise.nil, fun r hr => absurd hr List.not_mem_nil⟩
 | [_], lo, acc, rs, hl, h, hk => hk.elim
 | [_, _], lo, acc, rs, hl, h, hk => hk.elim
 | [_, _, _], lo, acc, rs, hl, h, hk => hk.elim
 | [_, _, _, _], lo, acc, rs, hl, h, hk => hk.elim
 | a :: b :: c :: d :: e :: Q, lo, acc, rs, hl, h, hk => by
  obtain ⟨k1, k2, k3, k4, k5, k6⟩ := hk
  by_cases ho : okR en lo a b c d e = true
  ·rw [recs_yes ho] at h
   unfold okR at ho
   simp only [Bool.and_eq_true, decide_eq_true_eq] at ho
   obtain ⟨o1, o2, o3, o4⟩ := ho
   obtain ⟨ad, e1, e2, e3, e4⟩ := recs_inv en Q _ _ rs (by omega) h k6
   refine ⟨recO a b c d e :: ad, by rw [e1, List.append_assoc]; rfl, ?_, ?_, ?_⟩
   ·rw [List.flatMap_cons, ← e2]
    show _ = lI (a.n : Int) :: tI b.s :: lI (c.n : Int) :: tI d.s :: tI e.s :: Q
    rw [← k1, ← k3, ← show b = tI b.s from k2, ← show d = tI d.s from k4, ← show e = tI e.s from k5]
   ·refine List.pairwise_cons.2 ⟨fun r hr => ?_, e3⟩
    have := (e4 r hr).2.2.2
    show (a.n : Int) < r.off
    omega
   ·intro r hr
    rcases List.mem_cons.1 hr with rfl | hr
    ·exact ⟨o3, ⟨Int.natCast_nonneg _, o1⟩, ⟨Int.natCast_nonneg _, Int.ofNat_le.2 o2⟩, o4⟩
    ·obtain ⟨g1, g2, g3, g4⟩ := e4 r hr
     exact ⟨g1, g2, g3, by omega⟩
  ·rw [recs_no (by simpa using ho)] at h; cases h
theorem flatMap_cg {α β : Type} {f g : α → List β} {l : List α} (h : ∀ a ∈ l, f a = g a) : l.flatMap f = l.flatMap g := by
 unfold List.flatMap
 rw [List.map_congr_left h]
theorem kget_pair {β : Type} {l : List (ByteArray × β)} (h : (l.map (·.1)).Nodup) {p : ByteArray × β} (hp : p ∈ l) : kget l p.1 = some p.2 := by
 have hn : kget l p.1 ≠ none := fun hn => idx_no (idx_of_none (l := l) (k := p.1) hn) p hp rfl
 cases hg : kget l p.1 with
 | none => exact absurd hg hn
 | some v =>
  have hm := gets_mem hg
  have : (p.1, v) = p := by
   have h2 := List.pairwise_iff_getElem.1 (List.nodup_iff_pairwise_ne.1 h)
   obtain ⟨i, hi, ei⟩ := List.getElem_of_mem hm
   obtain ⟨j, hj, ej⟩ := List.getElem_of_mem hp
   have hl : (l.map (·.1)).length = l.length := List.length_map _
   have e : i = j := by
    rcases Nat.lt_trichotomy i j with g | g | g
    ·exact absurd (by rw [List.getElem_map, List.getElem_map, ei, ej]) (h2 i j (by omega) (by omega) g)
    ·exact g
    ·exact absurd (by rw [List.getElem_map, List.getElem_map, ei, ej]) (h2 j i (by omega) (by omega) g)
   subst e
   rw [← ei, ← ej]
  rw [← this]
/-- A topic that was made of items: what is told of it. -/
theorem load_inv {a b c d : Itm} {R : List Itm} {n : Nat} {x : Tp} (h : loadT (a :: b :: c :: d :: R) n = some x) (hd : d.n = n) (h1 : isT a) (h2 : b = lI (b.n : Int)) (h3 : c = lI (c.n : Int)) (h4 : d = lI (d.n : Int)) (h5 : prodsK n R) (h6 : recsK (R.drop (3 * n))) (hR : 3 * n ≤ R.length) :
  LoadOk x ∧ dumpL x = a :: b :: c :: d :: R ∧ x.kvs.length = n := by
 by_cases ho : okH a b c = true
 ·rw [load_yes ho] at h
  unfold okH at ho
  simp only [Bool.and_eq_true, decide_eq_true_eq] at ho
  obtain ⟨o1, o2, o3⟩ := ho
  cases hp : prodsT c.n n R emp [] with
  | none => rw [hp] at h; cases h
  | some kv =>
   rw [hp, Option.bind_some] at h
   cases hr : recsT c.n (R.drop (3 * n)) b.n [] with
   | none => rw [hr] at h; cases h
   | some rs =>
    rw [hr, Option.map_some] at h
    obtain rfl := Option.some.inj h
    obtain ⟨ad, e1, e2, e3, e4, e5, e6⟩ := prods_inv _ n R emp [] kv hp h5 fun q hq => absurd hq List.not_mem_nil
    rw [List.nil_append] at e1
    subst e1
    obtain ⟨ad, f1, f2, f3, f4⟩ := recs_inv _ _ _ _ rs (Int.natCast_nonneg _) hr h6
    rw [List.nil_append] at f1
    subst f1
    have hnd : (kv.map (·.1)).Nodup := List.nodup_iff_pairwise_ne.2 (e4.imp fun hab e => by rw [e] at hab; exact List.lt_irrefl _ hab)
    refine ⟨⟨o1, ⟨Int.natCast_nonneg _, Int.ofNat_le.2 o2, Int.ofNat_le.2 o3⟩, hnd, e6, fun r hr => ?_, f3⟩, ?_, e2⟩
    ·obtain ⟨g1, g2, g3, g4⟩ := f4 r hr
     exact ⟨g1, g2, g3, g4⟩
    ·unfold dumpL
     have hnm : namesL ⟨a.s, b.n, c.n, kv, rs⟩ = kv.map (·.1) := sort_sorted e4
     rw [hnm]
     have hk : (kv.map (·.1)).flatMap (fun k => prodL (kvOf ⟨a.s, b.n, c.n, kv, rs⟩ k)) = R.take (3 * n) := by
      rw [e3, List.flatMap_map]
      refine flatMap_cg fun p hp => ?_
      show prodL (kvOf _ p.1) = prodL p.2
      unfold kvOf
      rw [show kget kv p.1 = some p.2 from kget_pair hnd hp]; rfl
     rw [hk]
     show [tI a.s, lI (b.n : Int), lI (c.n : Int), lI (kv.length : Nat)] ++ R.take (3 * n) ++ rs.flatMap recL = _
     rw [e2, ← hd, ← h2, ← h3, ← h4, ← show a = tI a.s from h1, hd, List.append_assoc, ← f2, List.take_append_drop]
     rfl
 ·rw [load_no (by simpa using ho)] at h; cases h
theorem prodsK_of : ∀ (k : Nat) (Q : List Itm), 3 * k ≤ Q.length → (∀ q x, q < 3 * k → Q[q]? = some x → if q % 3 = 0 then isT x else x = lI (x.n : Int)) → prodsK k Q
 | 0, Q, h, hq => trivial
 | k + 1, [], h, hq => by simp at h
 | k + 1, [_], h, hq => by simp at h; omega
 | k + 1, [_, _], h, hq => by simp at h; omega
 | k + 1, a :: b :: c :: Q, h, hq => by
  simp only [List.length_cons] at h
  refine ⟨hq 0 a (by omega) rfl, hq 1 b (by omega) rfl, hq 2 c (by omega) rfl, prodsK_of k Q (by omega) fun q x hlt hx => ?_⟩
  have := hq (q + 3) x (by omega) hx
  rwa [Nat.add_mod_right] at this
theorem recsK_of : ∀ (j : Nat) (Q : List Itm), Q.length = 5 * j → (∀ q x, Q[q]? = some x → if q % 5 = 0 ∨ q % 5 = 2 then x = lI (x.n : Int) else isT x) → recsK Q
 | 0, Q, h, hq => by
  obtain rfl := List.eq_nil_of_length_eq_zero (show Q.length = 0 by omega)
  trivial
 | j + 1, Q, h, hq => by
  obtain ⟨a, b, c, d, e, Q, rfl⟩ := len5 (Q := Q) (by omega)
  simp only [List.length_cons] at h
  refine ⟨hq 0 a rfl, hq 1 b rfl, hq 2 c rfl, hq 3 d rfl, hq 4 e rfl, recsK_of j Q (by omega) fun q x hx => ?_⟩
  have := hq (q + 5) x hx
  rwa [Nat.add_mod_right] at this
theorem dec_1000 {sh : ByteArray} {p : Nat} (hsz : sh.size = p + 6) : ∀ (f i : Nat) (s : ByteArray) (out : List Itm), out.length ≤ 1000 → (decL sh (p : Int) f ((kOf p i : Nat) : Int) s out).1.length ≤ 1000
 | 0, i, s, out, h => Nat.zero_le _
 | f + 1, i, s, out, h => by
  rw [step_st hsz]
  split
  ·exact h
  ·split
   ·exact Nat.zero_le _
   ·split
    ·exact Nat.zero_le _
    ·exact dec_1000 hsz f (i + 1) _ _ (by rw [List.length_append, List.length_singleton]; omega)
theorem decF_1000 (n : Nat) (s : ByteArray) : (decF (shN n) s).1.length ≤ 1000 := by
 rw [decF_shN]
 exact dec_1000 (shN_sz n) 1001 0 s [] (Nat.zero_le _)
theorem dump_of_load {x : Tp} (h : LoadOk x) (hl : 4 + 3 * x.kvs.length + 5 * x.recs.length ≤ 1000) : DumpOk x := by
 have hg : (great : Int) = 9007199254740991 := rfl
 have hlo := h.low
 have hw : ∀ s, word s = true → s.size ≤ 100000 := fun s hs => by
  unfold word at hs
  simp only [Bool.and_eq_true, decide_eq_true_eq] at hs
  omega
 refine ⟨hw _ h.name, ⟨by omega, by omega⟩, ⟨by omega, by omega⟩, h.nd, hl, fun p hp => ?_, fun r hr => ?_⟩
 ·obtain ⟨g1, g2, g3, g4⟩ := h.kv p hp
  exact ⟨hw _ g1, by rw [g2]; exact hw _ g1, ⟨g3.1, by omega⟩, ⟨g4.1, by omega⟩⟩
 ·obtain ⟨g1, g2, g3, g4⟩ := h.rc r hr
  unfold right at g1
  simp only [Bool.and_eq_true, decide_eq_true_eq] at g1
  exact ⟨⟨g2.1, by omega⟩, by omega, ⟨g3.1, by omega⟩, by omega, by omega⟩
/-- What a topic of bytes tells are those bytes. -/
theorem load_told {s : ByteArray} {n : Nat} {x : Tp} (hh : hit s n) (h : loadT (decF (shN n) s).1 n = some x) : DumpOk x ∧ LoadOk x ∧ encAll (dumpL x) = s ∧ x.recs.length ≤ 1000 := by
 obtain ⟨j, hl⟩ := dec_len hh.1
 have h1000 := decF_1000 n s
 have hk := decF_kinds hh.1
 have hinv := decF_inv hh.1
 have h3 := hh.2
 obtain ⟨a, b, c, d, R, e⟩ : ∃ a b c d R, (decF (shN n) s).1 = a :: b :: c :: d :: R := by
  match hm : (decF (shN n) s).1, (show 4 ≤ (decF (shN n) s).1.length by omega) with
  | a :: b :: c :: d :: R, _ => exact ⟨a, b, c, d, R, rfl⟩
 rw [e] at h hk hinv h3 hl h1000
 simp only [List.length_cons] at hl h1000
 have hT : ∀ q x, (a :: b :: c :: d :: R)[q]? = some x → kindB (letA (shN n) (4 + 3 * n) q) = 4 → isT x := fun q x hq h4 => by
  obtain ⟨g1, g2, g3, g4⟩ := hk q x hq
  exact isT_of (by rw [g1, h4]) (g2 h4)
 have hN : ∀ q x, (a :: b :: c :: d :: R)[q]? = some x → kindB (letA (shN n) (4 + 3 * n) q) = 3 → x = lI (x.n : Int) := fun q x hq h4 => by
  obtain ⟨g1, g2, g3, g4⟩ := hk q x hq
  exact isN_of (by rw [g1, h4]) (g3 (by rw [h4]; decide))
 have hdn : d.n = n := Option.some.inj h3
 have r1 := hT 0 a rfl (by rw [letA4 n 0 (by decide)]; exact kB116)
 have r2 := hN 1 b rfl (by rw [letA4 n 1 (by decide)]; exact kB108)
 have r3 := hN 2 c rfl (by rw [letA4 n 2 (by decide)]; exact kB108)
 have r4 := hN 3 d rfl (by rw [letA4 n 3 (by decide)]; exact kB108)
 have r5 : prodsK n R := prodsK_of n R (by omega) fun q x hlt hq => by
  have hq' : (a :: b :: c :: d :: R)[q + 4]? = some x := hq
  have hle : letA (shN n) (4 + 3 * n) (q + 4) = if q % 3 = 0 then 116 else 108 := by
   rw [letA_sh, if_neg (by omega), if_pos (by omega), Nat.add_sub_cancel]
  split
  ·rename_i h0; exact hT _ _ hq' (by rw [hle, if_pos h0]; exact kB116)
  ·rename_i h0; exact hN _ _ hq' (by rw [hle, if_neg h0]; exact kB108)
 have r6 : recsK (R.drop (3 * n)) := recsK_of j _ (by rw [List.length_drop]; omega) fun q x hq => by
  rw [List.getElem?_drop] at hq
  have hq' : (a :: b :: c :: d :: R)[3 * n + q + 4]? = some x := hq
  have hle : letA (shN n) (4 + 3 * n) (3 * n + q + 4) = if q % 5 = 0 ∨ q % 5 = 2 then 108 else 116 := by
   rw [letA_sh, if_neg (by omega), if_neg (by omega), show 3 * n + q + 4 - 4 - 3 * n = q by omega]
   have : q % 5 < 5 := Nat.mod_lt _ (by decide)
   split
   ·rfl
   ·rw [if_pos (by omega)]
  split
  ·rename_i h0; exact hN _ _ hq' (by rw [hle, if_pos h0]; exact kB108)
  ·rename_i h0; exact hT _ _ hq' (by rw [hle, if_neg h0]; exact kB116)
 obtain ⟨t1, t2, t3⟩ := load_inv h hdn r1 r2 r3 r4 r5 r6 (by omega)
 have hdl := dumpL_len x
 rw [t2] at hdl
 simp only [List.length_cons] at hdl
 refine ⟨dump_of_load t1 (by omega), t1, by rw [t2, hinv], by omega⟩
end C17
