import Derived.Test.YticeppepdlgbhaaGreatDoorZt1
/-! Bytes that are a topic: the shapes, plain. -/
open Go Go.Proofs Go.Am
set_option linter.unusedVariables false
set_option autoImplicit false
namespace C17
def sT3 : ByteArray := { data := #[116, 108, 108] }
def shN (n : Nat) : ByteArray := ({ data := #[116, 108, 108, 108] } ++ { data := (Go.Lib.repeatL sT3.data.toList n).toArray }) ++ { data := #[42, 108, 116, 108, 116, 116] }
theorem rep_len {l : List UInt8} (n : Nat) : (Go.Lib.repeatL l n).length = l.length * n := by
 induction n with
 | zero => rfl
 | succ n ih =>
  show (l ++ Go.Lib.repeatL l n).length = _
  rw [List.length_append, ih, Nat.mul_succ]; omega
theorem shN_size (n : Nat) : (shN n).size = 10 + 3 * n := by
 unfold shN
 rw [ByteArray.size_append, ByteArray.size_append]
 show 4 + (Go.Lib.repeatL sT3.data.toList n).toArray.size + 6 = _
 rw [List.size_toArray, rep_len]
 show 4 + 3 * n + 6 = _
 omega
/-- With so many producers the bytes are a topic's. -/
def hit (s : ByteArray) (n : Nat) : Prop := (decF (shN n) s).2 = 0 ∧ ((decF (shN n) s).1[3]?).map Itm.n = some n
end C17
