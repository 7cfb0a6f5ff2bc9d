import Derived.Test.YticeppepdlgbhaaGreatDoorZa7
/-! A command that is written is read. -/
open Go Go.Proofs Go.Am
set_option autoImplicit false
namespace C17
theorem foldBe (l : List UInt8) : ∀ a, l.foldl (fun n c => n * 256 + c.toNat) a = a * 256 ^ l.length + beN l := by
 induction l with
 | nil => intro a; simp [beN]
 | cons c l ih =>
  intro a
  unfold beN
  rw [List.foldl_cons, List.foldl_cons, ih, ih (0 * 256 + c.toNat), List.length_cons, Nat.pow_succ]
  rw [Nat.add_mul, Nat.zero_mul, Nat.zero_add, Nat.add_assoc, Nat.mul_comm (256 ^ l.length) 256, Nat.mul_assoc]
theorem beN_low (v : Nat) : ∀ n, beN (lowB v n) = v % 256 ^ n
 | 0 => by rw [Nat.pow_zero, Nat.mod_one]; rfl
 | n + 1 => by
  have e : lowB v (n + 1) = UInt8.ofNat (v / 256 ^ n % 256) :: lowB v n := rfl
  unfold beN
  rw [e, List.foldl_cons, foldBe, lowB_len, beN_low v n, Nat.zero_mul, Nat.zero_add, Nat.mod_pow_succ]
  have e2 : (UInt8.ofNat (v / 256 ^ n % 256)).toNat = v / 256 ^ n % 256 := by simp
  rw [e2, Nat.mul_comm, Nat.add_comm]
theorem ext_right (a b : ByteArray) : (a ++ b).extract a.size (a ++ b).size = b := by
 exact ByteArray.extract_append_eq_right rfl (by rw [ByteArray.size_append])
theorem ext_left (a b : ByteArray) : (a ++ b).extract 0 a.size = a := ByteArray.extract_append_eq_left rfl
theorem bytI_num {k : Int} {n : Nat} {s : ByteArray} (h : k ≠ 4) : bytI ⟨k, n, s⟩ = numB n (szK k) := if_neg h
theorem bytI_txt {n : Nat} {s : ByteArray} : bytI ⟨4, n, s⟩ = numB s.size 4 ++ s := rfl
theorem numF_enc {v size : Nat} (h : v < 256 ^ size) (rest : ByteArray) (e : Int) : numF size (numB v size ++ rest) e = (v, rest, e) := by
 unfold numF
 have hz : (numB v size ++ rest).size = size + rest.size := by rw [ByteArray.size_append, numB_size]
 have h1 : (numB v size ++ rest).data.toList.take size = lowB v size := by
  have : (numB v size ++ rest).data.toList = lowB v size ++ rest.data.toList := by
   rw [ByteArray.data_append, Array.toList_append]; rfl
  rw [this, List.take_left' (lowB_len v size)]
 have h2 := ext_right (numB v size) rest
 rw [numB_size] at h2
 rw [if_neg (by omega), h1, h2, beN_low, Nat.mod_eq_of_lt h]
theorem textF_enc {t : ByteArray} (h : t.size ≤ 100000) (rest : ByteArray) : textF ((numB t.size 4 ++ t) ++ rest) 0 = (t, rest, 0) := by
 unfold textF
 rw [ByteArray.append_assoc, numF_enc (by omega)]
 rw [if_neg (fun h => h rfl), if_neg (by omega), if_neg (by rw [ByteArray.size_append]; omega), ext_left, ext_right]
theorem itemF_enc {c : UInt8} {x : Itm} (hk : kindB c = x.kind) (hx : okI x) (rest : ByteArray) : itemF c (bytI x ++ rest) = (x, rest, 0) := by
 obtain ⟨k, n, s⟩ := x
 have hk' : kindB c = k := hk
 unfold itemF
 rw [hk']
 rcases hx with ⟨h1, h2, h3⟩ | ⟨h1, h2, h3⟩ | ⟨h1, h2, h3⟩ | ⟨h1, h2, h3⟩ <;> dsimp only at h1 h2 h3 <;> subst h1
 ·subst h3; rw [bytI_num (by decide), show szK 1 = 1 from rfl, numF_enc (show n < 256 ^ 1 by omega)]; rfl
 ·subst h3; rw [bytI_num (by decide), show szK 2 = 4 from rfl, numF_enc (show n < 256 ^ 4 by omega)]; rfl
 ·subst h3; rw [bytI_num (by decide), show szK 3 = 8 from rfl, numF_enc (show n < 256 ^ 8 by omega)]; rfl
 ·subst h2; rw [bytI_txt, textF_enc h3]; rfl
theorem encAll_cons (x : Itm) (l : List Itm) : encAll (x :: l) = bytI x ++ encAll l := by
 have key : ∀ (l : List Itm) (a : ByteArray), l.foldl (fun b x => b ++ bytI x) a = a ++ l.foldl (fun b x => b ++ bytI x) emp := by
  intro l
  induction l with
  | nil => intro a; exact (ByteArray.append_empty).symm
  | cons y l ih =>
   intro a
   rw [List.foldl_cons, List.foldl_cons, ih, ih (emp ++ bytI y), ByteArray.append_assoc]
   congr 1
 unfold encAll
 rw [List.foldl_cons, key]
 congr 1
end C17
