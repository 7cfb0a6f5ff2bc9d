import Derived.Test.YticeppepdlgbhaaGreatDoorZt6
import Derived.Test.YticeppepdlgbhaaGreatDoorAmE
/-! What a topic of bytes is, plain; a topic that is told is made again. -/
open Go Go.Proofs Go.Am
set_option linter.unusedVariables false
set_option autoImplicit false
namespace C17
section
variable {P : Program} {T : Nat → AVal} {M : Mem} {dst : Option Nat} {x y : Operand} {ty : TypeId} {pos : String} {af : Array Edge} {g : Option (Nat × Bool)}
theorem le_lists (A B : List UInt8) : (!decide (B < A)) = (decide (A < B) || A == B) := by
 by_cases h1 : A < B
 ·have h2 : ¬ B < A := fun h => List.lt_irrefl _ (List.lt_trans h1 h)
  rw [decide_eq_true h1, decide_eq_false h2]; rfl
 ·by_cases h2 : A = B
  ·subst h2
   rw [decide_eq_false h1]; simp
  ·have h3 : B < A := Decidable.byContradiction fun hn => h2 (List.le_antisymm (List.not_lt.1 hn) (List.not_lt.1 h1))
   rw [decide_eq_false h1, decide_eq_true h3, beq_eq_false_iff_ne.2 h2]; rfl
theorem q_sleq {u u' : ByteArray} {ty₁ ty' : TypeId} (hx : ev T x = .raw (.string u)) (hy : ev T y = .raw (.string u')) : qstep P none (mkO dst (.binOp .leq ty₁ x y ty') ty pos af g) T M = some (⟨none, .raw (.bool (!decide (u'.data.toList < u.data.toList)))⟩, []) := by
 rw [le_lists, ← Go.Am.bytesLess_eq]
 rw [← ByteArray.toList_eq, ← ByteArray.toList_eq]
 exact q_bin' hx hy rfl
end
def great : Nat := 9007199254740991
/-- May a producer be told so, behind that name? -/
def okP (en : Int) (nm : ByteArray) (a b c : Itm) : Bool := word a.s && (decide (nm.data.toList < a.s.data.toList) && (decide (b.n ≤ great) && decide ((c.n : Int) < en)))
def prodsT (en : Int) : Nat → List Itm → ByteArray → List (ByteArray × (Int × Int × ByteArray)) → Option (List (ByteArray × (Int × Int × ByteArray)))
 | 0, _, _, kv => some kv
 | n + 1, a :: b :: c :: r, nm, kv => if okP en nm a b c then prodsT en n r a.s (kput kv a.s ((b.n : Int), (c.n : Int), a.s)) else none
 | _, _, _, _ => none
def recO (a b c d e : Itm) : Rec := ⟨a.n, b.s, c.n, d.s, e.s⟩
/-- May a record be told so, from an offset on? -/
def okR (en lo : Int) (a b c d e : Itm) : Bool := decide ((a.n : Int) < en) && (decide (c.n ≤ great) && (right (recO a b c d e) && decide (lo ≤ (a.n : Int))))
def recsT (en : Int) : List Itm → Int → List Rec → Option (List Rec)
 | a :: b :: c :: d :: e :: r, lo, acc => if okR en lo a b c d e then recsT en r ((a.n : Int) + 1) (acc ++ [recO a b c d e]) else none
 | [], _, acc => some acc
 | _, _, _ => none
def okH (a b c : Itm) : Bool := word a.s && (decide (b.n ≤ c.n) && decide (c.n ≤ great))
/-- The topic of items, with so many producers. -/
def loadT (l : List Itm) (n : Nat) : Option Tp := match l with
 | a :: b :: c :: d :: r => if okH a b c then (prodsT c.n n r emp []).bind fun kv => (recsT c.n (r.drop (3 * n)) b.n []).map fun rs => ⟨a.s, b.n, c.n, kv, rs⟩ else none
 | _ => none
/-- A topic that bytes may make. -/
structure LoadOk (x : Tp) : Prop where
 name : word x.name = true
 low : 0 ≤ x.low ∧ x.low ≤ x.en ∧ x.en ≤ great
 nd : (x.kvs.map (·.1)).Nodup
 kv : ∀ p ∈ x.kvs, word p.1 = true ∧ p.2.2.2 = p.1 ∧ (0 ≤ p.2.1 ∧ p.2.1 ≤ great) ∧ (0 ≤ p.2.2.1 ∧ p.2.2.1 < x.en)
 rc : ∀ r ∈ x.recs, right r = true ∧ (0 ≤ r.off ∧ r.off < x.en) ∧ (0 ≤ r.seq ∧ r.seq ≤ great) ∧ x.low ≤ r.off
 so : Sorted x.recs
theorem namesL_sorted {x : Tp} (h : (x.kvs.map (·.1)).Nodup) : (namesL x).Pairwise fun a b => a.data.toList < b.data.toList := by
 have h1 : (namesL x).Pairwise fun a b => decide (a.data.toList ≤ b.data.toList) = true := List.pairwise_mergeSort (le := fun x y : ByteArray => decide (x.data.toList ≤ y.data.toList)) (fun a b c h1 h2 => by simp only [decide_eq_true_eq] at *; exact List.le_trans h1 h2) (fun a b => by simp only [Bool.or_eq_true, decide_eq_true_eq]; exact List.le_total _ _) _
 have h2 : (namesL x).Nodup := (namesL_perm x).nodup_iff.2 h
 refine (h1.and h2).imp fun {a b} ⟨h3, h4⟩ => ?_
 have h3' : a.data.toList ≤ b.data.toList := by simpa using h3
 refine Decidable.byContradiction fun hn => h4 ?_
 have h5 := List.le_antisymm h3' (List.not_lt.1 hn)
 cases a; cases b
 simp only [ByteArray.mk.injEq]
 exact Array.ext' h5
theorem word_lt_emp {s : ByteArray} (h : word s = true) : (emp : ByteArray).data.toList < s.data.toList := by
 have h1 : s ≠ emp := fun e => by rw [e, word_emp] at h; cases h
 show ([] : List UInt8) < s.data.toList
 cases hs : s.data.toList with
 | nil =>
  exfalso; apply h1
  cases s with
  | mk d => exact congrArg ByteArray.mk (Array.ext' hs)
 | cons a l => exact List.nil_lt_cons a l
theorem kput_new {β : Type} {l : List (ByteArray × β)} {k : ByteArray} {v : β} (h : k ∉ l.map (·.1)) : kput l k v = l ++ [(k, v)] := by
 have hn : l.findIdx? (fun p => p.1 = k) = none := by
  cases hj : l.findIdx? (fun p => p.1 = k) with
  | none => rfl
  | some j =>
   exfalso
   obtain ⟨hlt, hp, -⟩ := List.findIdx?_eq_some_iff_getElem.1 hj
   exact h (List.mem_map.2 ⟨l[j], List.getElem_mem hlt, by simpa using hp⟩)
 unfold kput
 rw [hn]
theorem prods_go {x : Tp} (h : LoadOk x) (tail : List Itm) : ∀ (ks : List ByteArray) (nm : ByteArray) (kv : List (ByteArray × (Int × Int × ByteArray))), (∀ k ∈ ks, k ∈ namesL x) → (∀ k ∈ ks, nm.data.toList < k.data.toList) → (ks.Pairwise fun a b => a.data.toList < b.data.toList) → (∀ k ∈ ks, k ∉ kv.map (·.1)) →
  prodsT x.en ks.length (ks.flatMap (fun k => prodL (kvOf x k)) ++ tail) nm kv = some (kv ++ ks.map fun k => (k, kvOf x k))
 | [], nm, kv, h1, h2, h3, h4 => by rw [List.map_nil, List.append_nil]; rfl
 | k :: ks, nm, kv, h1, h2, h3, h4 => by
  have hm := kvOf_mem (h1 k (List.mem_cons_self ..))
  obtain ⟨g1, g2, g3, g4⟩ := h.kv _ hm
  dsimp only at g1 g2 g3 g4
  obtain ⟨p1, p2⟩ := List.pairwise_cons.1 h3
  show prodsT x.en (ks.length + 1) (tI (kvOf x k).2.2 :: lI (kvOf x k).1 :: lI (kvOf x k).2.1 :: (ks.flatMap (fun k => prodL (kvOf x k)) ++ tail)) nm kv = _
  have e1 : (((kvOf x k).1.toNat : Nat) : Int) = (kvOf x k).1 := Int.toNat_of_nonneg g3.1
  have e2 : (((kvOf x k).2.1.toNat : Nat) : Int) = (kvOf x k).2.1 := Int.toNat_of_nonneg g4.1
  have hk : okP x.en nm (tI (kvOf x k).2.2) (lI (kvOf x k).1) (lI (kvOf x k).2.1) = true := by
   unfold okP
   simp only [Bool.and_eq_true, decide_eq_true_eq]
   refine ⟨?_, ?_, ?_, ?_⟩
   ·show word (kvOf x k).2.2 = true; rw [g2]; exact g1
   ·show nm.data.toList < (kvOf x k).2.2.data.toList; rw [g2]; exact h2 k (List.mem_cons_self ..)
   ·show (kvOf x k).1.toNat ≤ great; have := g3.2; omega
   ·show (((kvOf x k).2.1.toNat : Nat) : Int) < x.en; rw [e2]; exact g4.2
  rw [prodsT, if_pos hk]
  have ev : (((lI (kvOf x k).1).n : Int), ((lI (kvOf x k).2.1).n : Int), (tI (kvOf x k).2.2).s) = kvOf x k := by
   show ((((kvOf x k).1.toNat : Nat) : Int), (((kvOf x k).2.1.toNat : Nat) : Int), (kvOf x k).2.2) = _
   rw [e1, e2]
  have es : (tI (kvOf x k).2.2).s = k := g2
  rw [ev, es, kput_new (h4 k (List.mem_cons_self ..)), prods_go h tail ks k _ (fun q hq => h1 q (List.mem_cons_of_mem _ hq)) p1 p2 fun q hq hc => ?_]
  ·rw [List.append_assoc]; rfl
  ·rw [List.map_append, List.mem_append] at hc
   rcases hc with hc | hc
   ·exact h4 q (List.mem_cons_of_mem _ hq) hc
   ·have e : q = k := by simpa using hc
    have := p1 q hq
    rw [e] at this
    exact List.lt_irrefl _ this
theorem recs_go {x : Tp} (h : LoadOk x) : ∀ (rs acc : List Rec) (lo : Int), (∀ r ∈ rs, r ∈ x.recs) → (rs.Pairwise fun a b => a.off < b.off) → (∀ r ∈ rs, lo ≤ r.off) → recsT x.en (rs.flatMap recL) lo acc = some (acc ++ rs)
 | [], acc, lo, h1, h2, h3 => by rw [List.append_nil]; rfl
 | r :: rs, acc, lo, h1, h2, h3 => by
  obtain ⟨g1, g2, g3, g4⟩ := h.rc _ (h1 r (List.mem_cons_self ..))
  obtain ⟨p1, p2⟩ := List.pairwise_cons.1 h2
  show recsT x.en (lI r.off :: tI r.prod :: lI r.seq :: tI r.key :: tI r.val :: rs.flatMap recL) lo acc = _
  have e1 : ((r.off.toNat : Nat) : Int) = r.off := Int.toNat_of_nonneg g2.1
  have e2 : ((r.seq.toNat : Nat) : Int) = r.seq := Int.toNat_of_nonneg g3.1
  have eo : recO (lI r.off) (tI r.prod) (lI r.seq) (tI r.key) (tI r.val) = r := by
   show (⟨((r.off.toNat : Nat) : Int), r.prod, ((r.seq.toNat : Nat) : Int), r.key, r.val⟩ : Rec) = r
   rw [e1, e2]
  have hk : okR x.en lo (lI r.off) (tI r.prod) (lI r.seq) (tI r.key) (tI r.val) = true := by
   unfold okR
   rw [eo]
   simp only [Bool.and_eq_true, decide_eq_true_eq]
   refine ⟨?_, ?_, g1, ?_⟩
   ·show ((r.off.toNat : Nat) : Int) < x.en; rw [e1]; exact g2.2
   ·show r.seq.toNat ≤ great; have := g3.2; omega
   ·show lo ≤ ((r.off.toNat : Nat) : Int); rw [e1]; exact h3 r (List.mem_cons_self ..)
  rw [recsT, if_pos hk, eo, recs_go h rs _ _ (fun q hq => h1 q (List.mem_cons_of_mem _ hq)) p2 fun q hq => ?_]
  ·rw [List.append_assoc]; rfl
  ·have := p1 q hq
   show ((r.off.toNat : Nat) : Int) + 1 ≤ _
   rw [e1]; omega
/-- A topic that is told is made again, its producers by their names. -/
theorem load_dump {x : Tp} (h : LoadOk x) : loadT (dumpL x) x.kvs.length = some ⟨x.name, x.low, x.en, (namesL x).map fun k => (k, kvOf x k), x.recs⟩ := by
 have hn := namesL_len x
 have el : ((x.low.toNat : Nat) : Int) = x.low := Int.toNat_of_nonneg h.low.1
 have hen := h.low
 have ee : ((x.en.toNat : Nat) : Int) = x.en := Int.toNat_of_nonneg (by omega)
 have hd : dumpL x = tI x.name :: lI x.low :: lI x.en :: lI x.kvs.length :: ((namesL x).flatMap (fun k => prodL (kvOf x k)) ++ x.recs.flatMap recL) := by
  unfold dumpL
  rw [List.append_assoc]; rfl
 rw [hd]
 have hk : okH (tI x.name) (lI x.low) (lI x.en) = true := by
  unfold okH
  simp only [Bool.and_eq_true, decide_eq_true_eq]
  refine ⟨h.name, ?_, ?_⟩
  ·show x.low.toNat ≤ x.en.toNat; omega
  ·show x.en.toNat ≤ great; omega
 unfold loadT
 dsimp only
 rw [if_pos hk, show (((lI x.en).n : Nat) : Int) = x.en from ee, show (((lI x.low).n : Nat) : Int) = x.low from el, ← hn, prods_go h _ (namesL x) emp [] (fun k hk => hk) (fun k hk => word_lt_emp (h.kv _ (kvOf_mem hk)).1) (namesL_sorted h.nd) (fun k hk => List.not_mem_nil), Option.bind_some,
  List.drop_append_of_le_length (by rw [flat_len (c := 3) (fun a => rfl)]; exact Nat.le_refl _), List.drop_of_length_le (by rw [flat_len (c := 3) (fun a => rfl)]; exact Nat.le_refl _), List.nil_append, List.nil_append, recs_go h x.recs [] x.low (fun r hr => hr) h.so (fun r hr => (h.rc r hr).2.2.2)]
 rfl
end C17
