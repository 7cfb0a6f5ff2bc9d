import Derived.Test.YticeppepdlgbhaaDoorAmC
import Derived.SizedLaws
import Derived.Below
import Derived.Laws.AppendOwn
import Derived.Sort.KeysCollected
import Derived.Maps.Range
/-! Rows: how large what stands in slices may be. -/
namespace Go.Am
section
variable {H : Type} {P : Program} {ts : List TypeId} {ds : List (DataW H)}

theorem weightsAll_mem {e : TypeId} : ∀ {elems : List (DataW H)} {d : DataW H}, d ∈ elems → ∀ n ∈ d.weights P e, n ∈ DataW.weightsAll P e elems
  | d0 :: elems, d, hd, n, hn => by
    simp only [DataW.weightsAll, List.mem_append]
    rcases List.mem_cons.1 hd with rfl | hd
    · exact .inl hn
    · exact .inr (weightsAll_mem hd n hn)

theorem sized_elem (h : (DataW.weightsEach P ts ds).all (· ≤ reachBytes) = true) {j : Nat} {t e : TypeId} {elems spare : List (DataW H)} (ht : ts[j]? = some t) (hd : ds[j]? = some (.slice elems spare)) (hu : P.underlying t = some (.slice e)) {d : DataW H} (hm : d ∈ elems) {n : Nat} (hn : n ∈ d.weights P e) : n ≤ reachBytes := by
  have := List.all_eq_true.1 h n (DataW.weights_mem_each ht hd n (by
    simp only [DataW.weights, hu, List.mem_cons, List.mem_append]
    exact .inr (.inl (weightsAll_mem hm n hn))))
  simpa using this

end
end Go.Am

/-! A slice of an array that lies in memory. -/
namespace Go.Am
set_option linter.unusedSimpArgs false
set_option linter.unusedVariables false
set_option linter.unusedSectionVars false

section
variable {P : Program} {dst : Option Nat} {T : Nat → AVal} {M : Mem} {ty t : TypeId} {pos : String} {af : Array Edge} {x y : Operand} {g : Option (Nat × Bool)} {k : IntKind}

end
end Go.Am

set_option linter.unusedSimpArgs false
set_option linter.unusedVariables false
/-! Lemmas for a walk: a struct of parts that keep the right to append; a call that reads a block while others may be under way. -/
namespace Go.Am
section
variable {P : Program} {tk : Nat → Nat → Option Nat} {pl : Nat → List PStep} {ks : List It} {R : Exit → St → Prop} {S : St} {T : Nat → AVal} {M : Mem}

end
section
variable {H : Type} {P : Program} {ts : List TypeId} {ds : List (DataW H)}
/-- A string in a struct in a slice. -/
theorem sized_sfld (h : (DataW.weightsEach P ts ds).all (· ≤ reachBytes) = true) {j : Nat} {t e : TypeId} {elems spare : List (DataW H)} (ht : ts[j]? = some t) (hd : ds[j]? = some (.slice elems spare)) (hu : P.underlying t = some (.slice e)) {fs : Array Field} (hs : P.underlying e = some (.struct fs))
    {parts : List (DataW H)} (hm : DataW.agg parts ∈ elems) {q : Nat} {tq : TypeId} (hq : (fs.toList.map (·.type))[q]? = some tq) {s : ByteArray} (hp : parts[q]? = some (.lit (.string s.data.toList))) : s.size ≤ 140737488351232 := by
  have h1 := sized_elem h ht hd hu hm (n := s.data.toList.length) (by
    simp only [DataW.weights, hs]
    exact DataW.weights_mem_each hq hp _ (by simp [DataW.weights]))
  have h2 : s.data.toList.length = s.size := Array.length_toList
  have h3 : reachBytes = 140737488351232 := rfl
  omega
theorem i64w {n : Int} (h : (Lit.int .i64 n).wf = true) : -2 ^ 63 ≤ n ∧ n < 2 ^ 63 := by
  simp [Lit.wf, IntKind.min, IntKind.max, IntKind.signed, IntKind.bits] at h
  omega
end
end Go.Am

set_option linter.unusedSimpArgs false
/-! Lemmas for a walk: slices in memory that is known: fresh copies, and copies of them. -/
namespace Go.Am
set_option linter.unusedVariables false
section
variable {P : Program} {tkr : Nat → Option Nat} {ops : Array Oper} {K : St → Prop} {i : Nat} {rest : List Oper} {d : Nat} {T : Nat → AVal} {M : Mem} {ty : TypeId} {pos : String} {af : Array Edge} {x y : Operand} {ats : Array TypeId}
  {α : Type} {f : α → AVal} {z0 : α}

end
end Go.Am

/-! Maps that are known to the last: keys, values, and when each entry was born. -/
namespace Go.Am
set_option linter.unusedVariables false
set_option linter.unusedSimpArgs false
set_option linter.unusedSectionVars false
/-- A map's entries. -/
structure En (α : Type) where
  k : α
  v : Value
  s : Nat
def entsX {α : Type} (ek : α → Value) (l : List (En α)) : Array MapEntry := (l.map fun e => ⟨ek e.k, e.v, e.s⟩).toArray
def enGet {α : Type} [DecidableEq α] (l : List (En α)) (k : α) : Option (En α) := l.find? fun e => e.k = k
def enIdx {α : Type} [DecidableEq α] (l : List (En α)) (k : α) : Option Nat := l.findIdx? fun e => e.k = k

section
variable {P : Program} {tkr : Nat → Option Nat} {ops : Array Oper} {K : St → Prop} {i : Nat} {rest : List Oper} {d : Nat} {T : Nat → AVal} {M : Mem} {ty mt kt et : TypeId} {pos : String} {af : Array Edge} {x y z : Operand} {ats : Array TypeId}
  {α : Type} [DecidableEq α] {ek : α → Value} {r clk : Nat} {l : List (En α)} {k : α} {g : Option (Nat × Bool)}

theorem Fixed.raw (v : Value) : Fixed P (.raw v) v := ⟨fun _ _ => .raw v, fun _ _ _ => Spare.not_raw⟩

theorem enX_find (hk : KeyT P kt ek) : pr P (Instr.findKey kt (ek k) (entsX ek l).toList) = some ((enIdx l k).map fun j => (j, ((l[j]?).map (·.v)).getD undef)) := by
  have h1 := hk.find k (l.map (·.k))
  have h2 : (l.map (·.k)).findIdx? (fun x => decide (x = k)) = enIdx l k := by rw [List.findIdx?_map]; rfl
  rw [h2] at h1
  have hkeys : (entsX ek l).toList.map (·.key) = (l.map (·.k)).map ek := by simp [entsX]
  obtain ⟨a, b⟩ := keyAt_run h1 hkeys
  cases hi : enIdx l k with
  | none => exact a hi
  | some j =>
    obtain ⟨e, he, hf⟩ := b j hi
    rw [hf]
    simp only [entsX, List.getElem?_toArray, List.getElem?_map, Option.map_eq_some_iff] at he
    obtain ⟨e', he', rfl⟩ := he
    simp [he']
theorem enIdx_get : (enIdx l k).bind (fun j => l[j]?) = enGet l k := by
  unfold enIdx enGet
  induction l with
  | nil => rfl
  | cons a l ih =>
    rw [List.findIdx?_cons, List.find?_cons]
    by_cases h : a.k = k
    · simp [h]
    · simp only [h, decide_false, Bool.false_eq_true, if_false]
      rw [← ih]
      cases l.findIdx? (fun e => decide (e.k = k)) <;> rfl
theorem enIdx_some {j : Nat} (h : enIdx l k = some j) : ∃ e, l[j]? = some e ∧ e.k = k ∧ enGet l k = some e := by
  have h1 := enIdx_get (l := l) (k := k)
  rw [h] at h1
  have h2 := List.findIdx?_eq_some_iff_getElem.1 h
  obtain ⟨hlt, hp, -⟩ := h2
  exact ⟨l[j], List.getElem?_eq_getElem hlt, by simpa using hp, by rw [← h1]; exact List.getElem?_eq_getElem hlt⟩
theorem enIdx_none (h : enIdx l k = none) : enGet l k = none := by rw [← enIdx_get, h]; rfl

/-- What is looked up. -/
theorem x_lookup {zv : Value} (hu : P.underlying mt = some (.map kt et)) (hk : KeyT P kt ek) (hz : zeroT P et = some zv) (hm : ev T x = .raw (.map (some r))) (hy : rawOf (ev T y) = some (ek k)) (hM : M r = some (.it (.map (entsX ek l) clk)))
    (h : aOps P tkr ops K (i + 1) rest ⟨setT T d (.raw (((enGet l k).map En.v).getD zv)), M⟩) : aOps P tkr ops K i (mkO (some d) (.lookup mt x y false) ty pos af none :: rest) ⟨T, M⟩ := by
  refine o_xs rfl (.inl fun ρ w h1 h2 _ => .inl ⟨((enGet l k).map En.v).getD zv, _, ?_, Fixed.raw _, h⟩)
  have e1 : ρ x = .map (some r) := h1 x (by simp [Op.operands]) _ (by rw [hm]; rfl)
  have e2 : ρ y = ek k := h1 y (by simp [Op.operands]) _ hy
  refine run_val (s := Instr.lookup mt (ρ x) (ρ y) false) ?_
  rw [e1, e2]
  show ((underlying mt) >>= _).run P w = _
  rw [run_bind_pr (pr_underlying hu)]
  show ((getObj r) >>= _).run P w = _
  rw [run_getObj (h2 r _ hM)]
  show ((Instr.checkKey (entsX ek l).isEmpty 10000 kt (ek k)) >>= _).run P w = _
  rw [run_bind_pr (hk.check _ _)]
  show ((Instr.findKey kt (ek k) (entsX ek l).toList) >>= _).run P w = _
  have hf := enX_find (P := P) (kt := kt) (ek := ek) (l := l) (k := k) hk
  cases hi : enIdx l k with
  | none =>
    rw [hi] at hf
    rw [run_bind_pr hf, enIdx_none hi]
    show ((zeroValue et) >>= _).run P w = _
    rw [run_bind_pr (pr_zeroT hz)]; rfl
  | some j =>
    obtain ⟨e, he, hek, hget⟩ := enIdx_some hi
    rw [hi] at hf
    rw [run_bind_pr hf, hget]
    simp only [Option.map_some, he, Option.getD_some]; rfl

theorem run_setMap {w : World} {ob ob' : Obj} (h : w.heap[r]? = some ob) (hob : ∀ c e fr, ob ≠ .cells c e fr) : (setObj r ob').run P w = .ok () (putObj w r ob') := by
  show (Sem.setObj r ob' (.pure ())).run P w = _
  simp only [Sem.run, h]
  cases ob <;> first | exact absurd rfl (hob _ _ _) | rfl
theorem set_self {β : Type} {l : List β} {j : Nat} {e : β} (h : l[j]? = some e) : l.set j e = l := by
  apply List.ext_getElem?
  intro i
  rw [List.getElem?_set]
  by_cases hi : j = i
  · subst hi
    rw [if_pos rfl, if_pos (List.getElem?_eq_some_iff.1 h).1, h]
  · rw [if_neg hi]
theorem entsX_modify {j : Nat} {e : En α} (he : l[j]? = some e) (f : MapEntry → MapEntry) (e' : En α) (hf : f ⟨ek e.k, e.v, e.s⟩ = ⟨ek e'.k, e'.v, e'.s⟩) : (entsX ek l).modify j f = entsX ek (l.set j e') := by
  apply Array.ext'
  apply List.ext_getElem?
  intro i
  simp only [entsX, Array.getElem?_toList, Array.getElem?_modify, List.getElem?_toArray, List.getElem?_map, List.getElem?_set]
  by_cases h : j = i
  · subst h
    have hlt := (List.getElem?_eq_some_iff.1 he).1
    have he2 : l[j] = e := (List.getElem?_eq_some_iff.1 he).2
    simp [he2, hf, hlt]
  · simp [h]
theorem entsX_push {e : En α} : (entsX ek l).push ⟨ek e.k, e.v, e.s⟩ = entsX ek (l ++ [e]) := by
  apply Array.ext'
  simp [entsX]
theorem keeps_key {α : Type} {ek : α → Value} {kt : TypeId} {P : Program} [DecidableEq α] (hk : KeyT P kt ek) (k : α) (w : World) : (Instr.keyThatStays (ek k) (ek k)).run P w = .ok (ek k) w := by
  unfold Instr.keyThatStays
  rw [hk.same]; rfl

/-- A new value of a key that is there. -/
theorem x_updOld {e : En α} {j : Nat} {v : Value} (hu : P.underlying mt = some (.map kt et)) (hk : KeyT P kt ek) (hm : ev T x = .raw (.map (some r))) (hy : rawOf (ev T y) = some (ek k)) (hv : rawOf (ev T z) = some v) (hM : M r = some (.it (.map (entsX ek l) clk))) (hj : enIdx l k = some j) (he : l[j]? = some e)
    (h : aOps P tkr ops K (i + 1) rest ⟨T, M.upd r (.it (.map (entsX ek (l.set j ⟨e.k, v, e.s⟩)) clk))⟩) : aOps P tkr ops K i (mkO none (.mapUpdate mt x y z) ty pos af none :: rest) ⟨T, M⟩ := by
  have hek : e.k = k := by
    obtain ⟨e', h1, h2, -⟩ := enIdx_some hj
    rw [he] at h1; cases h1; exact h2
  refine o_xs rfl (.inl fun ρ w h1 h2 _ => .inr (.inr (.inl ⟨r, _, .map (entsX ek (l.set j ⟨e.k, v, e.s⟩)) clk, hM, (fun _ _ _ => ⟨(fun h => by cases h), fun h => by cases h⟩), ?_, h⟩)))
  have e1 : ρ x = .map (some r) := h1 x (by simp [Op.operands]) _ (by rw [hm]; rfl)
  have e2 : ρ y = ek k := h1 y (by simp [Op.operands]) _ hy
  have e3 : ρ z = v := h1 z (by simp [Op.operands]) _ hv
  have hw := h2 r _ hM
  show ((Instr.mapUpdate mt (ρ x) (ρ y) (ρ z)) >>= fun _ => (pure Next.skip : Sem Go.Next)).run P w = _
  have hrun : (Instr.mapUpdate mt (ρ x) (ρ y) (ρ z)).run P w = .ok () (putObj w r (.map (entsX ek (l.set j ⟨e.k, v, e.s⟩)) clk)) := by
    rw [e1, e2, e3]
    show ((underlying mt) >>= _).run P w = _
    rw [run_bind_pr (pr_underlying hu)]
    show ((getObj r) >>= _).run P w = _
    rw [run_getObj hw]
    show ((Instr.checkKey false 10000 kt (ek k)) >>= _).run P w = _
    rw [run_bind_pr (hk.check _ _)]
    show ((Instr.findKey kt (ek k) (entsX ek l).toList) >>= _).run P w = _
    have hf := enX_find (P := P) (kt := kt) (ek := ek) (l := l) (k := k) hk
    rw [hj] at hf
    rw [run_bind_pr hf]
    have hent : (entsX ek l)[j]? = some ⟨ek e.k, e.v, e.s⟩ := by simp [entsX, he]
    simp only [Option.map_some, he, Option.getD_some, hent, hek]
    show ((Instr.keyThatStays (ek k) (ek k)) >>= _).run P w = _
    rw [Sem.run_bind, keeps_key hk, Result.andThen_ok, entsX_modify he (e' := ⟨e.k, v, e.s⟩) _ (by rw [hek])]
    rw [hek]
    exact run_setMap hw (fun _ _ _ h => by cases h)
  rw [Sem.run_bind, hrun]; rfl

/-- A new map. -/
theorem x_makeMap (h : ∀ b, M b = none → aOps P tkr ops K (i + 1) rest ⟨setT T d (.raw (.map (some b))), M.upd b (.it (.map (entsX ek ([] : List (En α))) 0))⟩) : aOps P tkr ops K i (mkO (some d) (.makeMap mt none) ty pos af none :: rest) ⟨T, M⟩ := by
  refine o_xs rfl (.inl fun ρ w h1 h2 h3 => .inr (.inr (.inr ⟨.map (some w.heap.size), .map #[] 0, (fun _ _ _ h => by cases h), ?_, h _ h3⟩)))
  exact run_val (s := Instr.makeMap mt none) rfl

/-- A value of a key that is not there yet. -/
theorem x_updNew {v : Value} (hu : P.underlying mt = some (.map kt et)) (hk : KeyT P kt ek) (hm : ev T x = .raw (.map (some r))) (hy : rawOf (ev T y) = some (ek k)) (hv : rawOf (ev T z) = some v) (hM : M r = some (.it (.map (entsX ek l) clk))) (hj : enIdx l k = none)
    (h : aOps P tkr ops K (i + 1) rest ⟨T, M.upd r (.it (.map (entsX ek (l ++ [⟨k, v, clk⟩])) (clk + 1)))⟩) : aOps P tkr ops K i (mkO none (.mapUpdate mt x y z) ty pos af none :: rest) ⟨T, M⟩ := by
  refine o_xs rfl (.inl fun ρ w h1 h2 _ => .inr (.inr (.inl ⟨r, _, .map (entsX ek (l ++ [(⟨k, v, clk⟩ : En α)])) (clk + 1), hM, (fun _ _ _ => ⟨(fun h => by cases h), fun h => by cases h⟩), ?_, h⟩)))
  have e1 : ρ x = .map (some r) := h1 x (by simp [Op.operands]) _ (by rw [hm]; rfl)
  have e2 : ρ y = ek k := h1 y (by simp [Op.operands]) _ hy
  have e3 : ρ z = v := h1 z (by simp [Op.operands]) _ hv
  have hw := h2 r _ hM
  show ((Instr.mapUpdate mt (ρ x) (ρ y) (ρ z)) >>= fun _ => (pure Next.skip : Sem Go.Next)).run P w = _
  have hrun : (Instr.mapUpdate mt (ρ x) (ρ y) (ρ z)).run P w = .ok () (putObj w r (.map (entsX ek (l ++ [⟨k, v, clk⟩])) (clk + 1))) := by
    rw [e1, e2, e3]
    show ((underlying mt) >>= _).run P w = _
    rw [run_bind_pr (pr_underlying hu)]
    show ((getObj r) >>= _).run P w = _
    rw [run_getObj hw]
    show ((Instr.checkKey false 10000 kt (ek k)) >>= _).run P w = _
    rw [run_bind_pr (hk.check _ _)]
    show ((Instr.findKey kt (ek k) (entsX ek l).toList) >>= _).run P w = _
    have hf := enX_find (P := P) (kt := kt) (ek := ek) (l := l) (k := k) hk
    rw [hj] at hf
    rw [run_bind_pr hf]
    show (setObj r (.map ((entsX ek l).push ⟨ek k, v, clk⟩) (clk + 1))).run P w = _
    rw [show (entsX ek l).push ⟨ek k, v, clk⟩ = entsX ek (l ++ [⟨k, v, clk⟩]) from entsX_push (e := ⟨k, v, clk⟩)]
    exact run_setMap hw (fun _ _ _ h => by cases h)
  rw [Sem.run_bind, hrun]; rfl

theorem Fixed.tup {Vs : List AVal} {vs : Array Value} (hl : Vs.length = vs.size) (h : ∀ (i : Nat) X x, Vs[i]? = some X → vs[i]? = some x → Fixed P X x ∧ ∀ l o, X ≠ .sl l o) : Fixed P (.tup Vs) (.tuple vs) :=
  ⟨fun κ w => .tup _ _ hl fun i X x h1 h2 => (h i X x h1 h2).1.1 κ w, fun w b o hs => by
    rcases hs with ⟨l, o1, c, g1, -⟩ | ⟨Vs', vs', i, X, x, g1, g2, g3, g4, l, o1, c, g5, -⟩
    · cases g1
    · cases g1; cases g2
      exact (h i X x g3 g4).2 _ _ g5⟩
end

section
variable {P : Program} {tkr : Nat → Option Nat} {ops : Array Oper} {K : St → Prop} {i : Nat} {rest : List Oper} {d : Nat} {dst : Option Nat} {T : Nat → AVal} {M : Mem} {ty st e : TypeId} {pos : String} {af : Array Edge} {x y z : Operand} {ats : Array TypeId}
  {β : Type} {f : β → AVal} {z0 : β} {g : Option (Nat × Bool)}

end
end Go.Am

/-! From the kit's contracts to ours: what a callee leaves below its own blocks; maps that are known to the last as the kit's owned maps. -/
namespace Go.Am
set_option linter.unusedVariables false
set_option linter.unusedSimpArgs false
set_option linter.unusedSectionVars false
section
variable {P : Program} {κ : Ghost} {w w' : World} {M : Mem}

end

section
variable {P : Program} {tkr : Nat → Option Nat} {ops : Array Oper} {K : St → Prop} {i : Nat} {rest : List Oper} {d : Nat} {T : Nat → AVal} {M : Mem} {ty : TypeId} {pos : String} {af : Array Edge} {x y : Operand} {ats : Array TypeId}
end
end Go.Am
