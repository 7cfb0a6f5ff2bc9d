import Derived.Test.YticeppepdlgbhaaDoorTt6
import Derived.Test.YticeppepdlgbhaaDoorAmE
/-! What a topic of bytes is, plain; a topic that is told is made again. -/
open Go Go.Proofs Go.Am
set_option linter.unusedVariables false
set_option autoImplicit false
namespace C17
section
variable {P : Program} {T : Nat → AVal} {M : Mem} {dst : Option Nat} {x y : Operand} {ty : TypeId} {pos : String} {af : Array Edge} {g : Option (Nat × Bool)}
theorem le_lists (A B : List UInt8) : (!decide (B < A)) = (decide (A < B) || A == B) := by
 by_cases h1 : A < B
 ·have h2 : ¬ B < A := fun h => List.lt_irrefl _ (List.lt_trans h1 h)
  rw [decide_eq_true h1, decide_eq_false h2]; rfl
 ·by_cases h2 : A = B
  ·subst h2
   rw [decide_eq_false h1]; simp
  ·have h3 : B < A := Decidable.byContradiction fun hn => h2 (List.le_antisymm (List.not_lt.1 hn) (List.not_lt.1 h1))
   rw [decide_eq_false h1, decide_eq_true h3, beq_eq_false_iff_ne.2 h2]; rfl
theorem q_sleq {u u' : ByteArray} {ty₁ ty' : TypeId} (hx : ev T x = .raw (.string u)) (hy : ev T y = .raw (.string u')) : qstep P none (mkO dst (.binOp .leq ty₁ x y ty') ty pos af g) T M = some (⟨none, .raw (.bool (!decide (u'.data.toList < u.data.toList)))⟩, []) := by
 rw [le_lists, ← Go.Am.bytesLess_eq]
 rw [← ByteArray.toList_eq, ← ByteArray.toList_eq]
 exact q_bin' hx hy rfl
end
def great : Nat := 9007199254740991
/-- May a producer be told so, behind that name? -/
def okP (en : Int) (nm : ByteArray) (a b c : Itm) : Bool := word a.s && (decide (nm.data.toList < a.s.data.toList) && (decide (b.n ≤ great) && decide ((c.n : Int) < en)))
def prodsT (en : Int) : Nat → List Itm → ByteArray → List (ByteArray × (Int × Int × ByteArray)) → Option (List (ByteArray × (Int × Int × ByteArray)))
 | 0, _, _, kv => some kv
 | n + 1, a :: b :: c :: r, nm, kv => if okP en nm a b c then prodsT en n r a.s (kput kv a.s ((b.n : Int), (c.n : Int), a.s)) else none
 | _, _, _, _ => none
def recO (a b c d e : Itm) : Rec := ⟨a.n, b.s, c.n, d.s, e.s⟩
/-- May a record be told so, from an offset on? -/
def okR (en lo : Int) (a b c d e : Itm) : Bool := decide ((a.n : Int) < en) && (decide (c.n ≤ great) && (right (recO a b c d e) && decide (lo ≤ (a.n : Int))))
def recsT (en : Int) : List Itm → Int → List Rec → Option (List Rec)
 | a :: b :: c :: d :: e :: r, lo, acc => if okR en lo a b c d e then recsT en r ((a.n : Int) + 1) (acc ++ [recO a b c d e]) else none
 | [], _, acc => some acc
 | _, _, _ => none
def okH (a b c : Itm) : Bool := word a.s && (decide (b.n ≤ c.n) && decide (c.n ≤ great))
/-- The topic of items, with so many producers. -/
def loadT (l : List Itm) (n : Nat) : Option Tp := match l with
 | a :: b :: c :: d :: r => if okH a b c then (prodsT c.n n r emp []).bind fun kv => (recsT c.n (r.drop (3 * n)) b.n []).map fun rs => ⟨a.s, b.n, c.n, kv, rs⟩ else none
 | _ => none
/-- A topic that bytes may make. -/
structure LoadOk (x : Tp) : Prop where
 name : word x.name = true
 low : 0 ≤ x.low ∧ x.low ≤ x.en ∧ x.en ≤ great
 nd : (x.kvs.map (·.1)).Nodup
 kv : ∀ p ∈ x.kvs, word p.1 = true ∧ p.2.2.2 = p.1 ∧ (0 ≤ p.2.1 ∧ p.2.1 ≤ great) ∧ (0 ≤ p.2.2.1 ∧ p.2.2.1 < x.en)
 rc : ∀ r ∈ x.recs, right r = true ∧ (0 ≤ r.off ∧ r.off < x.en) ∧ (0 ≤ r.seq ∧ r.seq ≤ great) ∧ x.low ≤ r.off
 so : Sorted x.recs
theorem word_lt_emp {s : ByteArray} (h : word s = true) : (emp : ByteArray).data.toList < s.data.toList := by
 have h1 : s ≠ emp := fun e => by rw [e, word_emp] at h; cases h
 show ([] : List UInt8) < s.data.toList
 cases hs : s.data.toList with
 | nil =>
  exfalso; apply h1
  cases s with
  | mk d => exact congrArg ByteArray.mk (Array.ext' hs)
 | cons a l => exact List.nil_lt_cons a l
theorem kput_new {β : Type} {l : List (ByteArray × β)} {k : ByteArray} {v : β} (h : k ∉ l.map (·.1)) : kput l k v = l ++ [(k, v)] := by
 have hn : l.findIdx? (fun p => p.1 = k) = none := by
  cases hj : l.findIdx? (fun p => p.1 = k) with
  | none => rfl
  | some j =>
   exfalso
   obtain ⟨hlt, hp, -⟩ := List.findIdx?_eq_some_iff_getElem.1 hj
   exact h (List.mem_map.2 ⟨l[j], List.getElem_mem hlt, by simpa using hp⟩)
 unfold kput
 rw [hn]
end C17
