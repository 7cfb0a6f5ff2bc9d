import Derived.Calls
import Derived.Orders
import Derived.LoopN
/-! An abstract machine beside the model: values that hide where slices lie; what is known of memory; what a step keeps. -/
namespace Go.Am

inductive AVal where
  | undef
  | raw (v : Value)
  | sl (l : List AVal) (own : Bool)
  | sptr (l : List AVal) (i off : Nat)
  | agg (cs : List AVal)
  | tup (vs : List AVal)
  deriving Inhabited

def AVal.cells : AVal → List AVal
  | .agg cs => cs
  | v => [v]

def flat (l : List AVal) : List AVal := l.flatMap AVal.cells

/-- The same, without the right to append. -/
def AVal.shut1 : AVal → AVal
  | .sl l _ => .sl l false
  | v => v

def AVal.shut : AVal → AVal
  | .tup vs => .tup (vs.map AVal.shut1)
  | v => v.shut1

inductive AObj where
  | cells (l : List AVal)
  | map (es : List (Value × AVal))
  | it (o : Obj)
  deriving Inhabited

abbrev Mem := Nat → Option AObj

def Mem.upd (M : Mem) (b : Nat) (o : AObj) : Mem := fun c => if c = b then some o else M c

inductive Tag where
  | free | imm | frame
  | slot (t : Nat)
  | mslot (b j : Nat)

abbrev Ghost := Nat → Nat → Tag

/-- How many cells an element of a block has. -/
def esz (P : Program) (w : World) (b : Nat) : Nat :=
  match w.shape? b with
  | some (e, _) => ((P.info? e).map (·.size)).getD 0
  | none => 0

inductive Rep (P : Program) (κ : Ghost) (w : World) : AVal → Value → Prop
  | undef (v : Value) : Rep P κ w .undef v
  | raw (v : Value) : Rep P κ w (.raw v) v
  | nil (own : Bool) : Rep P κ w (.sl [] own) (.slice none 0 0)
  | sl (l : List AVal) (own : Bool) (b off cap sz : Nat) (cv : Nat → Value)
      (hcap : l.length ≤ cap) (hsz : ∀ e ∈ l, e.cells.length = sz)
      (hk : ∀ j, j < (flat l).length → κ b (off + j) = .imm)
      (hw : ∀ j, j < (flat l).length → w.cell? ⟨b, off + j, none⟩ = some (cv j))
      (hr : ∀ j c, (flat l)[j]? = some c → Rep P κ w c (cv j))
      (ho : own = true → cap = l.length ∨ (l ≠ [] ∧ esz P w b = sz ∧ b < w.heap.size)) : Rep P κ w (.sl l own) (.slice (some ⟨b, off, none⟩) l.length cap)
  | sptr (l : List AVal) (i o : Nat) (b off sz : Nat) (cv : Nat → Value)
      (hsz : ∀ e ∈ l, e.cells.length = sz)
      (hk : ∀ j, j < (flat l).length → κ b (off + j) = .imm)
      (hw : ∀ j, j < (flat l).length → w.cell? ⟨b, off + j, none⟩ = some (cv j))
      (hr : ∀ j c, (flat l)[j]? = some c → Rep P κ w c (cv j)) : Rep P κ w (.sptr l i o) (.pointer (some ⟨b, off + (i * sz + o), none⟩))
  | agg (cs : List AVal) (vs : Array Value) (hl : cs.length = vs.size)
      (hr : ∀ (i : Nat) c v, cs[i]? = some c → vs[i]? = some v → Rep P κ w c v) : Rep P κ w (.agg cs) (.agg vs)
  | tup (cs : List AVal) (vs : Array Value) (hl : cs.length = vs.size)
      (hr : ∀ (i : Nat) c v, cs[i]? = some c → vs[i]? = some v → Rep P κ w c v) : Rep P κ w (.tup cs) (.tuple vs)

/-- A cell that lies behind an owned slice, in its spare room. -/
def Spare1 (P : Program) (w : World) (V : AVal) (v : Value) (b o : Nat) : Prop :=
  ∃ l off cap, V = .sl l true ∧ v = .slice (some ⟨b, off, none⟩) l.length cap ∧ off + l.length * esz P w b ≤ o ∧ o < off + cap * esz P w b

/-- The same, of a value or of one of several. -/
def Spare (P : Program) (w : World) (V : AVal) (v : Value) (b o : Nat) : Prop :=
  Spare1 P w V v b o ∨ ∃ (Vs : List AVal) (vs : Array Value) (i : Nat) (X : AVal) (x : Value), V = .tup Vs ∧ v = .tuple vs ∧ Vs[i]? = some X ∧ vs[i]? = some x ∧ Spare1 P w X x b o

theorem Spare.sl {P : Program} {w : World} {l : List AVal} {own : Bool} {v : Value} {b o : Nat} (h : Spare P w (.sl l own) v b o) : Spare1 P w (.sl l own) v b o := by
  rcases h with h | ⟨Vs, vs, i, X, x, h, -⟩
  · exact h
  · cases h

/-- A cell that may be written. -/
def Wr (w : World) (b o : Nat) : Prop := (w.cell? ⟨b, o, none⟩).isSome = true ∧ w.frozen? ⟨b, o, none⟩ = false

/-- The value of one cell. -/
def one : Value → Bool
  | .agg _ | .tuple _ => false
  | _ => true

def RepO (P : Program) (κ : Ghost) (w : World) (b : Nat) : AObj → Prop
  | .cells l => ∃ c e fr, w.heap[b]? = some (.cells c e fr) ∧ c.size = l.length ∧ (∀ o, o < c.size → w.frozen? ⟨b, o, none⟩ = false) ∧
      ∀ (j : Nat) V v, l[j]? = some V → c[j]? = some v → Rep P κ w V v ∧ one v = true ∧ ∀ b' o', Spare P w V v b' o' → κ b' o' = .mslot b j
  | .it o => w.heap[b]? = some o ∧ ∀ c e fr, o ≠ .cells c e fr
  | .map es => ∃ (ents : Array MapEntry) (clock : Nat), w.heap[b]? = some (.map ents clock) ∧ ents.size = es.length ∧
      (∀ (j : Nat) e ent, es[j]? = some e → ents[j]? = some ent → ent.key = e.1 ∧ Rep P κ w e.2 ent.val ∧ ∀ b' o', Spare P w e.2 ent.val b' o' → κ b' o' = .mslot b j) ∧
      (∀ (j : Nat) ent, ents[j]? = some ent → ent.born < clock) ∧
      ∀ (i j : Nat) x y, ents[i]? = some x → ents[j]? = some y → x.born = y.born → i = j

structure Holds (P : Program) (κ : Ghost) (T : Nat → AVal) (V : Nat → Value) (M : Mem) (w : World) : Prop where
  tmp : ∀ t, Rep P κ w (T t) (V t)
  obj : ∀ b o, M b = some o → RepO P κ w b o
  tag : ∀ b o, κ b o ≠ .free → b < w.heap.size ∧ M b = none
  sp : ∀ t b o, Spare P w (T t) (V t) b o → κ b o = .slot t
  wr : ∀ b o t, κ b o = .slot t → Wr w b o
  mwr : ∀ b o c j, κ b o = .mslot c j → Wr w b o

structure Keep (κ : Ghost) (w : World) (κ' : Ghost) (w' : World) : Prop where
  os : w'.os = w.os
  tape : w'.tape = w.tape
  output : w'.output = w.output
  size : w.heap.size ≤ w'.heap.size
  shape : ∀ b, b < w.heap.size → w'.shape? b = w.shape? b
  imm : ∀ b o, κ b o = .imm → κ' b o = .imm ∧ w'.cell? ⟨b, o, none⟩ = w.cell? ⟨b, o, none⟩
  frame : ∀ b o, κ b o = .frame → κ' b o = .frame ∧ w'.cell? ⟨b, o, none⟩ = w.cell? ⟨b, o, none⟩ ∧ w'.frozen? ⟨b, o, none⟩ = w.frozen? ⟨b, o, none⟩
  block : ∀ b, b < w.heap.size → (∀ o, κ b o = .imm ∨ κ b o = .frame) → w'.heap[b]? = w.heap[b]?

theorem Keep.refl (κ : Ghost) (w : World) : Keep κ w κ w :=
  ⟨rfl, rfl, rfl, Nat.le_refl _, fun _ _ => rfl, fun _ _ h => ⟨h, rfl⟩, fun _ _ h => ⟨h, rfl, rfl⟩, fun _ _ _ => rfl⟩

theorem Keep.trans {κ₁ κ₂ κ₃ : Ghost} {w₁ w₂ w₃ : World} (h : Keep κ₁ w₁ κ₂ w₂) (k : Keep κ₂ w₂ κ₃ w₃) : Keep κ₁ w₁ κ₃ w₃ where
  os := k.os.trans h.os
  tape := k.tape.trans h.tape
  output := k.output.trans h.output
  size := Nat.le_trans h.size k.size
  shape b hb := (k.shape b (Nat.lt_of_lt_of_le hb h.size)).trans (h.shape b hb)
  imm b o hb := by
    obtain ⟨h1, h2⟩ := h.imm b o hb
    obtain ⟨h3, h4⟩ := k.imm b o h1
    exact ⟨h3, h4.trans h2⟩
  frame b o hb := by
    obtain ⟨h1, h2, h2'⟩ := h.frame b o hb
    obtain ⟨h3, h4, h4'⟩ := k.frame b o h1
    exact ⟨h3, h4.trans h2, h4'.trans h2'⟩
  block b hb hp := by
    refine (k.block b (Nat.lt_of_lt_of_le hb h.size) fun o => ?_).trans (h.block b hb hp)
    rcases hp o with h1 | h1
    · exact .inl (h.imm b o h1).1
    · exact .inr (h.frame b o h1).1

theorem esz_shape {P : Program} {w w' : World} {b : Nat} (h : w'.shape? b = w.shape? b) : esz P w' b = esz P w b := by
  unfold esz; rw [h]

/-- What a step must keep, that values stand for what they stood for. -/
theorem Rep.keep {P : Program} {κ κ' : Ghost} {w w' : World} (himm : ∀ b o, κ b o = .imm → κ' b o = .imm ∧ w'.cell? ⟨b, o, none⟩ = w.cell? ⟨b, o, none⟩)
    (hsh : ∀ b, b < w.heap.size → w'.shape? b = w.shape? b) (hs : w.heap.size ≤ w'.heap.size) {V : AVal} {v : Value} (h : Rep P κ w V v) : Rep P κ' w' V v := by
  induction h with
  | undef v => exact .undef v
  | raw v => exact .raw v
  | nil own => exact .nil own
  | sl l own b off cap sz cv hcap hsz hk hw hr ho ih =>
    exact .sl l own b off cap sz cv hcap hsz (fun j hj => (himm _ _ (hk j hj)).1) (fun j hj => ((himm _ _ (hk j hj)).2).trans (hw j hj)) ih
      (fun e => (ho e).imp id fun ⟨h0, h1, h2⟩ => ⟨h0, (esz_shape (hsh b h2)).trans h1, Nat.lt_of_lt_of_le h2 hs⟩)
  | sptr l i o b off sz cv hsz hk hw hr ih =>
    exact .sptr l i o b off sz cv hsz (fun j hj => (himm _ _ (hk j hj)).1) (fun j hj => ((himm _ _ (hk j hj)).2).trans (hw j hj)) ih
  | agg cs vs hl hr ih => exact .agg cs vs hl ih
  | tup cs vs hl hr ih => exact .tup cs vs hl ih

theorem Keep.rep {P : Program} {κ κ' : Ghost} {w w' : World} (k : Keep κ w κ' w') {V : AVal} {v : Value} (h : Rep P κ w V v) : Rep P κ' w' V v :=
  h.keep k.imm k.shape k.size

theorem Rep.shut1 {P : Program} {κ : Ghost} {w : World} {V : AVal} {v : Value} (h : Rep P κ w V v) : Rep P κ w V.shut1 v := by
  cases h with
  | undef v => exact .undef v
  | raw v => exact .raw v
  | nil own => exact .nil false
  | sl l own b off cap sz cv hcap hsz hk hw hr ho => exact .sl l false b off cap sz cv hcap hsz hk hw hr (fun h => by cases h)
  | sptr l i o b off sz cv hsz hk hw hr => exact .sptr l i o b off sz cv hsz hk hw hr
  | agg cs vs hl hr => exact .agg cs vs hl hr
  | tup cs vs hl hr => exact .tup cs vs hl hr

theorem Rep.shut {P : Program} {κ : Ghost} {w : World} {V : AVal} {v : Value} (h : Rep P κ w V v) : Rep P κ w V.shut v := by
  cases h with
  | tup cs vs hl hr =>
    refine .tup _ vs (by rw [List.length_map]; exact hl) fun i c v h1 h2 => ?_
    rw [List.getElem?_map] at h1
    cases hc : cs[i]? with
    | none => rw [hc] at h1; cases h1
    | some c' =>
      rw [hc] at h1
      obtain rfl := Option.some.inj h1
      exact (hr i c' v hc h2).shut1
  | undef v => exact .undef v
  | raw v => exact .raw v
  | nil own => exact .nil false
  | sl l own b off cap sz cv hcap hsz hk hw hr ho => exact .sl l false b off cap sz cv hcap hsz hk hw hr (fun h => by cases h)
  | sptr l i o b off sz cv hsz hk hw hr => exact .sptr l i o b off sz cv hsz hk hw hr
  | agg cs vs hl hr => exact .agg cs vs hl hr

theorem Spare1.not_shut1 {P : Program} {w : World} {V : AVal} {v : Value} {b o : Nat} (h : Spare1 P w V.shut1 v b o) : False := by
  obtain ⟨l, off, cap, h1, -⟩ := h
  cases V <;> simp [AVal.shut1] at h1

theorem Spare.not_shut {P : Program} {w : World} {V : AVal} {v : Value} {b o : Nat} (h : Spare P w V.shut v b o) : False := by
  rcases h with ⟨l, off, cap, h1, -⟩ | ⟨Vs, vs, i, X, x, h1, h2, h3, h4, h5⟩
  · cases V <;> simp [AVal.shut, AVal.shut1] at h1
  · cases V <;> simp [AVal.shut, AVal.shut1] at h1
    subst h1
    rw [List.getElem?_map] at h3
    simp only [Option.map_eq_some_iff] at h3
    obtain ⟨Y, -, rfl⟩ := h3
    exact h5.not_shut1

theorem Spare.not_raw {P : Program} {w : World} {v u : Value} {b o : Nat} (h : Spare P w (.raw u) v b o) : False := by
  rcases h with ⟨l, off, cap, h1, -⟩ | ⟨Vs, vs, i, X, x, h1, -⟩ <;> cases h1

/-- A value that owns nothing. -/
def AVal.free1 : AVal → Prop
  | .sl _ true => False
  | _ => True

def AVal.free : AVal → Prop
  | .sl _ true => False
  | .tup vs => ∀ v ∈ vs, v.free1
  | _ => True

theorem Spare1.not_free1 {P : Program} {w : World} {V : AVal} {v : Value} {b o : Nat} (hf : V.free1) (h : Spare1 P w V v b o) : False := by
  obtain ⟨l, off, cap, h1, -⟩ := h
  subst h1
  exact hf

theorem Spare.not_free {P : Program} {w : World} {V : AVal} {v : Value} {b o : Nat} (hf : V.free) (h : Spare P w V v b o) : False := by
  rcases h with ⟨l, off, cap, h1, -⟩ | ⟨Vs, vs, i, X, x, h1, h2, h3, h4, h5⟩
  · subst h1
    exact hf
  · subst h1
    exact h5.not_free1 (hf X (List.mem_of_getElem? h3))

theorem AVal.shut1_free1 (V : AVal) : V.shut1.free1 := by cases V <;> simp [AVal.shut1, AVal.free1]
theorem AVal.shut_free (V : AVal) : V.shut.free := by
  cases V with
  | tup vs =>
    intro v hv
    obtain ⟨u, -, rfl⟩ := List.mem_map.1 hv
    exact u.shut1_free1
  | _ => simp [AVal.shut, AVal.shut1, AVal.free]

/-- Spare room is where it was, when no block has changed its shape. -/
theorem Spare1.keep {P : Program} {κ : Ghost} {w w' : World} {V : AVal} {v : Value} {b o : Nat} (hr : Rep P κ w V v) (hsh : ∀ b, b < w.heap.size → w'.shape? b = w.shape? b)
    (h : Spare1 P w' V v b o) : Spare1 P w V v b o := by
  obtain ⟨l, off, cap, rfl, rfl, h1, h2⟩ := h
  cases hr with
  | sl l' own b' off' cap' sz cv hcap hsz hk hw hr ho =>
    rcases ho rfl with h3 | h3
    · rw [h3] at h2; omega
    · have he := esz_shape (P := P) (hsh b h3.2.2)
      rw [he] at h1 h2
      exact ⟨l, off, cap, rfl, rfl, h1, h2⟩

theorem Spare.keep {P : Program} {κ : Ghost} {w w' : World} {V : AVal} {v : Value} {b o : Nat} (hr : Rep P κ w V v) (hsh : ∀ b, b < w.heap.size → w'.shape? b = w.shape? b)
    (h : Spare P w' V v b o) : Spare P w V v b o := by
  rcases h with h | ⟨Vs, vs, i, X, x, rfl, rfl, h3, h4, h5⟩
  · exact .inl (h.keep hr hsh)
  · cases hr with
    | tup _ _ hl hr => exact .inr ⟨Vs, vs, i, X, x, rfl, rfl, h3, h4, h5.keep (hr i X x h3 h4) hsh⟩

/-! ### Worlds -/

def push (w : World) (o : Obj) : World := { w with heap := w.heap.push o }

theorem push_old (w : World) (o : Obj) {b : Nat} (h : b < w.heap.size) : (push w o).heap[b]? = w.heap[b]? := by
  show (w.heap.push o)[b]? = _
  rw [Array.getElem?_push, if_neg (by omega)]

theorem push_new (w : World) (o : Obj) : (push w o).heap[w.heap.size]? = some o := by
  show (w.heap.push o)[w.heap.size]? = _
  simp

theorem cell_of_block {w w' : World} {a : Addr} (h : w'.heap[a.block]? = w.heap[a.block]?) : w'.cell? a = w.cell? a := by
  unfold World.cell?; rw [h]

theorem frozen_of_block {w w' : World} {a : Addr} (h : w'.heap[a.block]? = w.heap[a.block]?) : w'.frozen? a = w.frozen? a := by
  unfold World.frozen?; rw [h]

theorem shape_of_block {w w' : World} {b : Nat} (h : w'.heap[b]? = w.heap[b]?) : w'.shape? b = w.shape? b := by
  unfold World.shape?; rw [h]

theorem cell_lt {w : World} {a : Addr} {v : Value} (h : w.cell? a = some v) : a.block < w.heap.size := by
  unfold World.cell? at h
  rcases Nat.lt_or_ge a.block w.heap.size with h1 | h1
  · exact h1
  · rw [Array.getElem?_eq_none h1] at h; cases h

theorem Keep.push {κ : Ghost} {w : World} (o : Obj) (htag : ∀ b o, κ b o ≠ .free → b < w.heap.size) : Keep κ w κ (push w o) where
  os := rfl
  tape := rfl
  output := rfl
  size := by show _ ≤ (w.heap.push o).size; simp
  shape b hb := shape_of_block (push_old w o hb)
  imm b x h := ⟨h, cell_of_block (push_old w o (htag b x (by rw [h]; simp)))⟩
  frame b x h := ⟨h, cell_of_block (push_old w o (htag b x (by rw [h]; simp))), frozen_of_block (push_old w o (htag b x (by rw [h]; simp)))⟩
  block b hb _ := push_old w o hb

theorem setCell_heap_ne (w : World) (a : Addr) (u : Value) {k : Nat} (h : k ≠ a.block) : (w.setCell a u).heap[k]? = w.heap[k]? := by
  simp only [World.setCell, Array.getElem?_modify]
  rw [if_neg (by omega)]

theorem setCell_heap (w : World) (b o : Nat) (u : Value) {c : Array Value} {e : TypeId} {fr : Nat × Nat} (h : w.heap[b]? = some (.cells c e fr)) :
    (w.setCell ⟨b, o, none⟩ u).heap[b]? = some (.cells (c.setIfInBounds o u) e fr) := by
  simp only [World.setCell, Array.getElem?_modify, if_true, h, Option.map_some]
  rfl

theorem setCell_shape (w : World) (b o : Nat) (u : Value) (k : Nat) : (w.setCell ⟨b, o, none⟩ u).shape? k = w.shape? k := by
  by_cases hk : k = b
  · subst hk
    unfold World.shape?
    simp only [World.setCell, Array.getElem?_modify, if_true]
    cases hh : w.heap[k]? with
    | none => rfl
    | some ob => cases ob <;> simp
  · exact shape_of_block (setCell_heap_ne w _ u hk)

theorem setCell_frozen (w : World) (b o : Nat) (u : Value) (a : Addr) : (w.setCell ⟨b, o, none⟩ u).frozen? a = w.frozen? a := by
  by_cases hk : a.block = b
  · unfold World.frozen?
    simp only [World.setCell, Array.getElem?_modify, hk, if_true]
    cases hh : w.heap[b]? with
    | none => rfl
    | some ob => cases ob <;> simp
  · exact frozen_of_block (setCell_heap_ne w _ u hk)

theorem setCell_cell_ne (w : World) (b o : Nat) (u : Value) (b' o' : Nat) (h : ¬ (b' = b ∧ o' = o)) : (w.setCell ⟨b, o, none⟩ u).cell? ⟨b', o', none⟩ = w.cell? ⟨b', o', none⟩ := by
  by_cases hk : b' = b
  · subst hk
    have ho : o' ≠ o := fun e => h ⟨rfl, e⟩
    unfold World.cell?
    simp only [World.setCell, Array.getElem?_modify, if_true]
    cases hh : w.heap[b']? with
    | none => rfl
    | some ob =>
      cases ob <;> simp
      rw [Array.getElem?_setIfInBounds_ne (Ne.symm ho)]
  · exact cell_of_block (setCell_heap_ne w _ u hk)

theorem setCell_cell_eq (w : World) (b o : Nat) (u : Value) (h : (w.cell? ⟨b, o, none⟩).isSome = true) : (w.setCell ⟨b, o, none⟩ u).cell? ⟨b, o, none⟩ = some u := by
  unfold World.cell? at *
  simp only [World.setCell, Array.getElem?_modify, if_true]
  cases hh : w.heap[b]? with
  | none => rw [hh] at h; simp at h
  | some ob =>
    rw [hh] at h
    cases ob <;> simp at h ⊢
    rw [Array.getElem?_setIfInBounds_self_of_lt h]

theorem setCell_size (w : World) (a : Addr) (u : Value) : (w.setCell a u).heap.size = w.heap.size := by
  simp [World.setCell]

theorem setCell_isSome (w : World) (b o : Nat) (u : Value) (b' o' : Nat) : ((w.setCell ⟨b, o, none⟩ u).cell? ⟨b', o', none⟩).isSome = (w.cell? ⟨b', o', none⟩).isSome := by
  by_cases h : b' = b ∧ o' = o
  · obtain ⟨rfl, rfl⟩ := h
    cases hs : (w.cell? ⟨b', o', none⟩).isSome with
    | true => rw [setCell_cell_eq w b' o' u hs]; rfl
    | false =>
      unfold World.cell? at *
      simp only [World.setCell, Array.getElem?_modify, if_true]
      cases hh : w.heap[b']? with
      | none => rfl
      | some ob =>
        rw [hh] at hs
        cases ob <;> simp at hs ⊢
        exact hs
  · rw [setCell_cell_ne w b o u b' o' h]

/-- A store into one cell that is nobody's immutable one, and not the frame's. -/
theorem Keep.setCell {κ : Ghost} {w : World} {b o : Nat} (u : Value) (h1 : κ b o ≠ .imm) (h2 : κ b o ≠ .frame) : Keep κ w κ (w.setCell ⟨b, o, none⟩ u) where
  os := rfl
  tape := rfl
  output := rfl
  size := by rw [setCell_size]; exact Nat.le_refl _
  shape k _ := setCell_shape w b o u k
  imm b' o' h := ⟨h, setCell_cell_ne w b o u b' o' fun ⟨e1, e2⟩ => h1 (by rw [← e1, ← e2]; exact h)⟩
  frame b' o' h := ⟨h, setCell_cell_ne w b o u b' o' fun ⟨e1, e2⟩ => h2 (by rw [← e1, ← e2]; exact h), setCell_frozen w b o u _⟩
  block b' hb h := setCell_heap_ne w _ u fun e => by
    rcases h o with h' | h'
    · exact h1 (by rw [← (show b' = b from e)]; exact h')
    · exact h2 (by rw [← (show b' = b from e)]; exact h')

end Go.Am
