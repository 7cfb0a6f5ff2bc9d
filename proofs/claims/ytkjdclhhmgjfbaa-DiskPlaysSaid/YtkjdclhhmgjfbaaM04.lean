import Derived.Test.YtkjdclhhmgjfbaaR04
import Derived.Test.YtkjdclhhmgjfbaaAmG
/-! Chapter 4: the reference's disk, plain: units, names, acts. -/
open Go Go.Proofs Go.Am
set_option linter.unusedVariables false
set_option linter.unusedSimpArgs false
set_option autoImplicit false
namespace C04
def A.us : A → ByteArray
  | .app s => s
  | .cut _ => ⟨#[]⟩
def A.un : A → Int
  | .app _ => -1
  | .cut n => (n : Int)
def encU (a : A) : AVal := .agg [str a.us, int a.un]
def encN (p : ByteArray × Nat) : AVal := .agg [str p.1, int (p.2 : Nat)]
def Dc.kd : Dc → Int
  | .mk .. => 1
  | .mv .. => 2
  | .rm .. => 3
def Dc.sa : Dc → ByteArray
  | .mk s _ => s
  | .mv a _ => a
  | .rm a => a
def Dc.sb : Dc → ByteArray
  | .mv _ b => b
  | _ => ⟨#[]⟩
def Dc.si : Dc → Nat
  | .mk _ i => i
  | _ => 0
def encS (c : Dc) : AVal := .agg [int c.kd, str c.sa, str c.sb, int (c.si : Nat)]
def findI (l : Dir) (k : ByteArray) : Int := match gets l k with
  | some i => i
  | none => -1
theorem elsU {l : List A} : Els 2 (l.map encU) := Els.map fun _ => ⟨rfl, rfl⟩
theorem elsN {l : Dir} : Els 2 (l.map encN) := Els.map fun _ => ⟨rfl, rfl⟩
theorem elsS {l : List Dc} : Els 4 (l.map encS) := Els.map fun _ => ⟨rfl, rfl⟩
theorem elsStr {l : List ByteArray} : Els 1 (l.map str) := Els.map fun _ => ⟨rfl, rfl⟩
theorem Els.take {sz : Nat} {l : List AVal} (h : Els sz l) (n : Nat) : Els sz (l.take n) := fun V hV => h V (List.mem_of_mem_take hV)
theorem Els.drop {sz : Nat} {l : List AVal} (h : Els sz l) (n : Nat) : Els sz (l.drop n) := fun V hV => h V (List.mem_of_mem_drop hV)
theorem uwU : Uw encU 2 := ⟨fun _ => rfl, fun _ => rfl, fun _ => rfl, fun a X hX => by
  simp only [encU, AVal.cells, List.mem_cons, List.not_mem_nil, or_false] at hX
  rcases hX with rfl | rfl <;> rfl⟩
structure Fs where
  l : ByteArray
  base : Option Addr
  n : Nat
  c : Nat
def Fs.v (f : Fs) : Value := .slice f.base f.n f.c
def encF (p : Fs) : AVal := .agg [str p.l, .raw (.slice p.base p.n p.c)]
theorem uwF : Uw encF 2 := ⟨fun _ => rfl, fun _ => rfl, fun _ => rfl, fun a X hX => by
  simp only [encF, AVal.cells, List.mem_cons, List.not_mem_nil, or_false] at hX
  rcases hX with rfl | rfl <;> rfl⟩
theorem findI_at {l : Dir} {k : ByteArray} {i : Nat} (hi : i < l.length) (hlow : ∀ j, ∀ h : j < l.length, j < i → l[j].1 ≠ k) (he : l[i].1 = k) : findI l k = (l[i].2 : Nat) := by
  have : l.find? (fun p => decide (p.1 = k)) = some l[i] := List.find?_eq_some_iff_getElem.2 ⟨by simpa using he, i, hi, rfl, fun j hj => by simpa using hlow j (by omega) hj⟩
  unfold findI gets
  rw [this]; rfl
theorem findI_no {l : Dir} {k : ByteArray} (hlow : ∀ j, ∀ h : j < l.length, l[j].1 ≠ k) : findI l k = -1 := by
  have : gets l k = none := gets_none.2 fun p hp => by
    obtain ⟨j, hj, rfl⟩ := List.mem_iff_getElem.1 hp
    exact hlow j hj
  unfold findI
  rw [this]
theorem findI_some {l : Dir} {k : ByteArray} {i : Nat} (h : gets l k = some i) : findI l k = i := by unfold findI; rw [h]
theorem findI_none {l : Dir} {k : ByteArray} (h : gets l k = none) : findI l k = -1 := by unfold findI; rw [h]
theorem delS_add {l : Dir} {k : ByteArray} {i : Nat} (hi : i < l.length) : delS (l.take (i + 1)) k = delS (l.take i) k ++ if l[i].1 = k then [] else [l[i]] := by
  unfold delS
  rw [List.take_succ_eq_append_getElem hi, List.filter_append]
  congr 1
  by_cases e : l[i].1 = k <;> simp [e]
theorem insS_at {l : Dir} {k : ByteArray} {v j : Nat} (hj : j ≤ (delS l k).length) (h1 : ∀ q, ∀ h : q < (delS l k).length, q < j → bLt (delS l k)[q].1 k) (h2 : ∀ h : j < (delS l k).length, ¬ bLt (delS l k)[j].1 k) : insS l k v = (delS l k).take j ++ [(k, v)] ++ (delS l k).drop j := by
  unfold insS
  generalize delS l k = m at hj h1 h2 ⊢
  have key : m.takeWhile (fun p => decide (bLt p.1 k)) = m.take j ∧ m.dropWhile (fun p => decide (bLt p.1 k)) = m.drop j := by
    clear l
    induction m generalizing j with
    | nil => simp
    | cons p m ih =>
      cases j with
      | zero =>
        have := h2 (by simp)
        rw [List.takeWhile_cons, List.dropWhile_cons]
        simp only [List.getElem_cons_zero] at this
        simp [this]
      | succ j =>
        have h0 := h1 0 (by simp) (by omega)
        simp only [List.getElem_cons_zero] at h0
        obtain ⟨g1, g2⟩ := ih (j := j) (by simpa using hj) (fun q h hq => by have := h1 (q + 1) (by simpa using h) (by omega); simpa using this) (fun h => by have := h2 (by simpa using h); simpa using this)
        rw [List.takeWhile_cons, List.dropWhile_cons]
        simp only [h0, decide_true, if_true, List.take_succ_cons, List.drop_succ_cons, g1, g2, and_self]
  rw [key.1, key.2, List.append_assoc]; rfl
/-- What is kept of units. -/
def keptA : List A → Int → List A
  | [], _ => []
  | a :: r, n => if n ≤ 0 then [] else match a with
    | .app s => .app (s.extract 0 (min n s.size).toNat) :: keptA r (n - min n s.size)
    | .cut k => .cut k :: keptA r (n - 1)
theorem keptA_zero {l : List A} {n : Int} (h : n ≤ 0) : keptA l n = [] := by
  cases l with
  | nil => rfl
  | cons a r => simp [keptA, h]
theorem keptA_app {s : ByteArray} {r : List A} {n : Int} (h : 0 < n) : keptA (.app s :: r) n = .app (s.extract 0 (min n s.size).toNat) :: keptA r (n - min n s.size) := by
  conv => lhs; unfold keptA
  rw [if_neg (by omega)]
theorem keptA_cut {k : Nat} {r : List A} {n : Int} (h : 0 < n) : keptA (.cut k :: r) n = .cut k :: keptA r (n - 1) := by
  conv => lhs; unfold keptA
  rw [if_neg (by omega)]
theorem keptA_nil (n : Int) : keptA [] n = [] := rfl
theorem ext_list (s : ByteArray) (n : Nat) : (s.extract 0 n).data.toList = s.data.toList.take n := by
  simp [ByteArray.data_extract]
theorem kept_ok : ∀ {l : List UInt8} {la : List A} {now : List UInt8} {n : Int}, okA l la now → okA l (keptA la n) (keepR l la n)
  | l, [], now, n, h => ⟨rfl, h.2⟩
  | l, a :: r, now, n, h => by
    unfold keptA keepR
    by_cases h0 : n ≤ 0
    · rw [if_pos h0, if_pos h0]; exact ⟨rfl, h.1⟩
    · rw [if_neg h0, if_neg h0]
      have hrun := (okA_len h.2.2).1
      cases a with
      | app s =>
        dsimp only
        have hsz : s.data.toList.length = s.size := by simp
        by_cases h1 : n < (A.app s).units
        · rw [if_pos h1]
          have h1 : n < (s.size : Int) := h1
          have hm : min n (s.size : Int) = n := by omega
          rw [hm, keptA_zero (by omega)]
          have e1 : A.run l (.app (s.extract 0 n.toNat)) (A.units (.app (s.extract 0 n.toNat))) = A.run l (.app s) n.toNat := by
            show l ++ _ = l ++ _
            rw [ext_list, List.take_take]
            congr 2
            show min (s.extract 0 n.toNat).size n.toNat = _
            simp [ByteArray.size_extract]
            omega
          refine ⟨h.1, trivial, ?_⟩
          rw [e1]
          exact ⟨rfl, run_len (by show n.toNat ≤ s.size; omega) h.1 hrun⟩
        · rw [if_neg h1]
          have h1 : ¬ n < (s.size : Int) := h1
          have hm : min n (s.size : Int) = s.size := by omega
          rw [hm]
          have e0 : s.extract 0 ((s.size : Int)).toNat = s := by
            rw [Int.toNat_natCast]
            apply ba_ext
            rw [ext_list, List.take_of_length_le (by omega)]
          rw [e0]
          exact ⟨h.1, trivial, kept_ok h.2.2⟩
      | cut k =>
        dsimp only
        have hu : (A.cut k).units = 1 := rfl
        rw [hu, if_neg (show ¬ n < ((1 : Nat) : Int) by omega)]
        exact ⟨h.1, h.2.1, kept_ok h.2.2⟩
theorem keptA_len : ∀ (l : List A) (n : Int), (keptA l n).length ≤ l.length
  | [], _ => Nat.le_refl _
  | a :: r, n => by
    unfold keptA
    split
    · exact Nat.zero_le _
    · cases a <;> simpa using keptA_len r _
end C04
