import Derived.Test.YtphenhkofjbeoaaAm1
import Derived.Laws.Sem
/-! What an operation comes to, abstractly, where it makes nothing and writes nothing. -/
namespace Go.Am

/-- What does not look at the world. -/
def pr (P : Program) {α : Type} : Sem α → Option α
  | .pure a => some a
  | .program k => pr P (k P)
  | .mark _ k => pr P k
  | _ => none

theorem pr_run {P : Program} {α : Type} {s : Sem α} {a : α} (h : pr P s = some a) (w : World) : s.run P w = .ok a w := by
  induction s with
  | pure x => simp only [pr, Option.some.injEq] at h; subst h; rfl
  | program k ih => exact ih P h
  | mark m k ih => exact ih h
  | _ => simp [pr] at h

theorem pr_bind {P : Program} {α β : Type} (s : Sem α) (f : α → Sem β) : pr P (s.bind f) = (pr P s).bind fun a => pr P (f a) := by
  induction s with
  | pure x => rfl
  | program k ih => exact ih P
  | mark m k ih => exact ih
  | _ => rfl

def sizeT (P : Program) (t : TypeId) : Option Nat := (P.info? t).map (·.size)

def aggT (P : Program) (t : TypeId) : Option Bool :=
  match P.underlying t with
  | some (.struct _) | some (.array _ _) => some true
  | some _ => some false
  | none => none

def fieldT (P : Program) (t : TypeId) (f : Nat) : Option Field :=
  match P.underlying t with
  | some (.struct fs) => fs[f]?
  | _ => none

theorem run_sizeT {P : Program} {t : TypeId} {n : Nat} (h : sizeT P t = some n) (w : World) : (sizeOf t).run P w = .ok n w := by
  unfold sizeT at h
  cases hi : P.info? t with
  | none => rw [hi] at h; cases h
  | some i =>
    rw [hi] at h
    simp only [Option.map_some, Option.some.injEq] at h
    subst h
    refine pr_run ?_ w
    show pr P ((typeInfo t).bind _) = _
    rw [pr_bind]
    show (pr P (Sem.bind program _)).bind _ = _
    rw [pr_bind]
    show (pr P (match P.info? t with | some i => pure i | none => stuck "no such type")).bind _ = _
    rw [hi]
    rfl

theorem pr_sizeT {P : Program} {t : TypeId} {n : Nat} (h : sizeT P t = some n) : pr P (sizeOf t) = some n := by
  unfold sizeT at h
  cases hi : P.info? t with
  | none => rw [hi] at h; cases h
  | some i =>
    rw [hi] at h
    simp only [Option.map_some, Option.some.injEq] at h
    subst h
    show pr P ((typeInfo t).bind _) = _
    rw [pr_bind]
    show (pr P (Sem.bind program _)).bind _ = _
    rw [pr_bind]
    show (pr P (match P.info? t with | some i => pure i | none => stuck "no such type")).bind _ = _
    rw [hi]
    rfl

theorem pr_underlying {P : Program} {t : TypeId} {d : TypeDesc} (h : P.underlying t = some d) : pr P (underlying t) = some d := by
  show pr P (Sem.bind program _) = _
  rw [pr_bind]
  show pr P (match P.underlying t with | some d => pure d | none => stuck "no such type") = _
  rw [h]
  rfl

theorem pr_aggT {P : Program} {t : TypeId} {b : Bool} (h : aggT P t = some b) : pr P (isAgg t) = some b := by
  unfold aggT at h
  cases hu : P.underlying t with
  | none => rw [hu] at h; cases h
  | some d =>
    rw [hu] at h
    show pr P ((underlying t).bind _) = _
    rw [pr_bind, pr_underlying hu]
    cases d <;> simp only [Option.some.injEq] at h <;> subst h <;> rfl

/-! ### Values -/

def ofConst : Value → AVal
  | .agg cs => .agg (cs.toList.map .raw)
  | .slice none 0 0 => .sl [] true
  | v => .raw v

theorem ofConst_rep {P : Program} {κ : Ghost} {w : World} (v : Value) : Rep P κ w (ofConst v) v := by
  unfold ofConst
  split
  · rename_i cs
    refine .agg _ _ (by simp) fun i c v h1 h2 => ?_
    simp only [List.getElem?_map, Array.getElem?_toList] at h1
    rw [h2] at h1
    simp only [Option.map_some, Option.some.injEq] at h1
    subst h1
    exact .raw v
  · exact .nil true
  · exact .raw _

def ev (T : Nat → AVal) : Operand → AVal
  | .tmp t => T t
  | .const v => ofConst v
  | .global g => .raw (.pointer (some ⟨g, 0, none⟩))
  | .func f => .raw (.func (.func f) #[] #[])

theorem ev_rep {P : Program} {κ : Ghost} {w : World} {T : Nat → AVal} {a : Act} (hT : ∀ t, Rep P κ w (T t) (a.eval (.tmp t))) (x : Operand) : Rep P κ w (ev T x) (a.eval x) := by
  cases x with
  | tmp t => exact hT t
  | const v => exact ofConst_rep v
  | global g => exact .raw _
  | func f => exact .raw _

def rawCell : AVal → Option Value
  | .raw v => some v
  | _ => none

/-- The concrete value of one that hides nothing. -/
def rawOf : AVal → Option Value
  | .raw v => some v
  | .agg cs => (cs.mapM rawCell).map fun vs => .agg vs.toArray
  | _ => none

theorem mapM_raw {P : Program} {κ : Ghost} {w : World} : ∀ (cs : List AVal) (us : List Value), (cs.mapM rawCell) = some us → ∀ vs : List Value, cs.length = vs.length →
    (∀ (i : Nat) c v, cs[i]? = some c → vs[i]? = some v → Rep P κ w c v) → vs = us
  | [], us, h, vs, hl, _ => by
    simp at h
    subst h
    simpa using hl.symm
  | c :: cs, us, h, vs, hl, hr => by
    cases vs with
    | nil => simp at hl
    | cons v vs =>
      rw [List.mapM_cons] at h
      cases c with
      | raw u =>
        simp only [rawCell, Option.bind_eq_bind, Option.bind_some] at h
        cases hm : cs.mapM rawCell with
        | none => rw [hm] at h; cases h
        | some us' =>
          rw [hm] at h
          simp only [Option.bind_some] at h
          obtain rfl := Option.some.inj h
          have h1 := hr 0 (.raw u) v rfl rfl
          cases h1
          have := mapM_raw cs us' hm vs (by simpa using hl) (fun i c v h1 h2 => hr (i + 1) c v (by simpa using h1) (by simpa using h2))
          rw [this]
      | _ => simp [rawCell] at h

theorem rawOf_rep {P : Program} {κ : Ghost} {w : World} {V : AVal} {v u : Value} (h : rawOf V = some u) (hr : Rep P κ w V v) : v = u := by
  cases V with
  | raw x =>
    simp only [rawOf, Option.some.injEq] at h
    subst h
    cases hr
    rfl
  | agg cs =>
    cases hr with
    | agg _ vs hl hr =>
      simp only [rawOf, Option.map_eq_some_iff] at h
      obtain ⟨us, h1, rfl⟩ := h
      have := mapM_raw (P := P) (κ := κ) (w := w) cs us h1 vs.toList (by simpa using hl) (fun i c v h1 h2 => hr i c v h1 (by simpa using h2))
      rw [← this]
  | _ => simp [rawOf] at h

def rawsOf (xs : List AVal) : Option (List Value) := xs.mapM rawOf

/-- A piece of cells. -/
def piece (agg : Bool) (cs : List AVal) (off n : Nat) : Option AVal :=
  if agg then (if off + n ≤ cs.length then some (.agg ((cs.drop off).take n)) else none) else cs[off]?

/-! ### Loads -/

theorem addr_add (b o n : Nat) : (⟨b, o, none⟩ : Addr).add n = ⟨b, o + n, none⟩ := by
  unfold Addr.add
  split
  · subst_vars; rfl
  · rfl

theorem run_loadCellsFrom {P : Program} {w : World} {b o : Nat} (cv : Nat → Value) : ∀ (n i : Nat) (acc : Array Value), (∀ j, j < n → w.cell? ⟨b, o + (i + j), none⟩ = some (cv (i + j))) →
    (loadCellsFrom ⟨b, o, none⟩ i n acc).run P w = .ok (acc ++ ((List.range n).map fun j => cv (i + j)).toArray) w
  | 0, i, acc, _ => by
    simp only [loadCellsFrom, List.range_zero, List.map_nil]
    show Result.ok _ w = _
    simp
  | n + 1, i, acc, h => by
    have h0 := h 0 (by omega)
    simp only [Nat.add_zero] at h0
    show (Sem.load .plain ((⟨b, o, none⟩ : Addr).add i) fun v => loadCellsFrom ⟨b, o, none⟩ (i + 1) n (acc.push v)).run P w = _
    simp only [Sem.run, addr_add, h0]
    rw [run_loadCellsFrom cv n (i + 1) _ fun j hj => by
      have := h (j + 1) (by omega)
      rw [show i + (j + 1) = i + 1 + j from by omega] at this
      exact this]
    congr 1
    apply Array.ext'
    simp only [Array.toList_append, Array.toList_push, List.append_assoc]
    congr 1
    rw [List.range_succ_eq_map]
    simp only [List.map_cons, List.map_map, Nat.add_zero, List.singleton_append, List.cons.injEq, true_and]
    apply List.map_congr_left
    intro j _
    show cv _ = cv _
    congr 1
    omega

theorem run_loadCells {P : Program} {w : World} {b o n : Nat} (cv : Nat → Value) (h : ∀ j, j < n → w.cell? ⟨b, o + j, none⟩ = some (cv j)) :
    (loadCells ⟨b, o, none⟩ n).run P w = .ok ((List.range n).map cv).toArray w := by
  have := run_loadCellsFrom (P := P) (w := w) (b := b) (o := o) cv n 0 #[] (fun j hj => by simpa using h j hj)
  simpa [loadCells] using this

/-- A variable, or a part of one, read out of cells that stand for what is known. -/
theorem run_loadVar {P : Program} {κ : Ghost} {w : World} {t : TypeId} {b base off n : Nat} {ag : Bool} {cs : List AVal} {V : AVal} (cv : Nat → Value) (ha : aggT P t = some ag) (hn : sizeT P t = some n)
    (hw : ∀ j, j < cs.length → w.cell? ⟨b, base + j, none⟩ = some (cv j)) (hr : ∀ (j : Nat) c, cs[j]? = some c → Rep P κ w c (cv j)) (h : piece ag cs off n = some V) :
    ∃ v, (loadVar t ⟨b, base + off, none⟩).run P w = .ok v w ∧ Rep P κ w V v := by
  have e1 : ∀ (f : Bool → Sem Value), ((isAgg t).bind f).run P w = (f ag).run P w := fun f => by
    show ((isAgg t) >>= f).run P w = _
    rw [Sem.run_bind, pr_run (pr_aggT ha) w]; rfl
  have e2 : ∀ (f : Nat → Sem Value), ((sizeOf t).bind f).run P w = (f n).run P w := fun f => by
    show ((sizeOf t) >>= f).run P w = _
    rw [Sem.run_bind, run_sizeT hn w]; rfl
  show ∃ v, ((isAgg t).bind _).run P w = .ok v w ∧ _
  rw [e1]
  cases ag with
  | true =>
    simp only [piece, if_true] at h
    split at h
    · rename_i hle
      obtain rfl := Option.some.inj h
      refine ⟨.agg ((List.range n).map fun j => cv (off + j)).toArray, ?_, ?_⟩
      · show ((sizeOf t).bind _).run P w = _
        rw [e2]
        show ((loadCells _ n) >>= _).run P w = _
        rw [Sem.run_bind, run_loadCells (fun j => cv (off + j)) (fun j hj => by rw [Nat.add_assoc]; exact hw (off + j) (by omega))]
        rfl
      · refine .agg _ _ (by simp; omega) fun i c v h1 h2 => ?_
        simp only [List.getElem?_take, List.getElem?_drop] at h1
        split at h1
        · rename_i hi
          simp [hi] at h2
          subst h2
          exact hr _ _ h1
        · cases h1
    · cases h
  | false =>
    simp only [piece, Bool.false_eq_true, if_false] at h
    have hlt : off < cs.length := by
      rcases Nat.lt_or_ge off cs.length with h' | h'
      · exact h'
      · rw [List.getElem?_eq_none h'] at h; cases h
    refine ⟨cv off, ?_, hr _ _ h⟩
    show (load ⟨b, base + off, none⟩).run P w = _
    show (Sem.load .plain ⟨b, base + off, none⟩ .pure).run P w = _
    simp only [Sem.run, hw off hlt]

end Go.Am
