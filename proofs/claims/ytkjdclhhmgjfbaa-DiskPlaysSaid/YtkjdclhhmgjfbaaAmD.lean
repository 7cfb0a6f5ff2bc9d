import Derived.Test.YtkjdclhhmgjfbaaAmC
import Derived.SizedLaws
import Derived.Below
import Derived.Laws.AppendOwn
import Derived.Sort.KeysCollected
import Derived.Maps.Range
/-! Rows: how large what stands in slices may be. -/
namespace Go.Am
section
variable {H : Type} {P : Program} {ts : List TypeId} {ds : List (DataW H)}

theorem weightsAll_mem {e : TypeId} : ∀ {elems : List (DataW H)} {d : DataW H}, d ∈ elems → ∀ n ∈ d.weights P e, n ∈ DataW.weightsAll P e elems
  | d0 :: elems, d, hd, n, hn => by
    simp only [DataW.weightsAll, List.mem_append]
    rcases List.mem_cons.1 hd with rfl | hd
    · exact .inl hn
    · exact .inr (weightsAll_mem hd n hn)

theorem sized_elem (h : (DataW.weightsEach P ts ds).all (· ≤ reachBytes) = true) {j : Nat} {t e : TypeId} {elems spare : List (DataW H)} (ht : ts[j]? = some t) (hd : ds[j]? = some (.slice elems spare)) (hu : P.underlying t = some (.slice e)) {d : DataW H} (hm : d ∈ elems) {n : Nat} (hn : n ∈ d.weights P e) : n ≤ reachBytes := by
  have := List.all_eq_true.1 h n (DataW.weights_mem_each ht hd n (by
    simp only [DataW.weights, hu, List.mem_cons, List.mem_append]
    exact .inr (.inl (weightsAll_mem hm n hn))))
  simpa using this

end
end Go.Am

/-! A slice of an array that lies in memory. -/
namespace Go.Am
set_option linter.unusedSimpArgs false
set_option linter.unusedVariables false
set_option linter.unusedSectionVars false

end Go.Am

set_option linter.unusedSimpArgs false
set_option linter.unusedVariables false
/-! Lemmas for a walk: a struct of parts that keep the right to append; a call that reads a block while others may be under way. -/
namespace Go.Am
section
variable {H : Type} {P : Program} {ts : List TypeId} {ds : List (DataW H)}
/-- A string in a struct in a slice. -/
theorem sized_sfld (h : (DataW.weightsEach P ts ds).all (· ≤ reachBytes) = true) {j : Nat} {t e : TypeId} {elems spare : List (DataW H)} (ht : ts[j]? = some t) (hd : ds[j]? = some (.slice elems spare)) (hu : P.underlying t = some (.slice e)) {fs : Array Field} (hs : P.underlying e = some (.struct fs))
    {parts : List (DataW H)} (hm : DataW.agg parts ∈ elems) {q : Nat} {tq : TypeId} (hq : (fs.toList.map (·.type))[q]? = some tq) {s : ByteArray} (hp : parts[q]? = some (.lit (.string s.data.toList))) : s.size ≤ 140737488351232 := by
  have h1 := sized_elem h ht hd hu hm (n := s.data.toList.length) (by
    simp only [DataW.weights, hs]
    exact DataW.weights_mem_each hq hp _ (by simp [DataW.weights]))
  have h2 : s.data.toList.length = s.size := Array.length_toList
  have h3 : reachBytes = 140737488351232 := rfl
  omega
theorem i64w {n : Int} (h : (Lit.int .i64 n).wf = true) : -2 ^ 63 ≤ n ∧ n < 2 ^ 63 := by
  simp [Lit.wf, IntKind.min, IntKind.max, IntKind.signed, IntKind.bits] at h
  omega
end
end Go.Am

set_option linter.unusedSimpArgs false
/-! Lemmas for a walk: slices in memory that is known: fresh copies, and copies of them. -/
namespace Go.Am
set_option linter.unusedVariables false
section
variable {P : Program} {tkr : Nat → Option Nat} {ops : Array Oper} {K : St → Prop} {i : Nat} {rest : List Oper} {d : Nat} {T : Nat → AVal} {M : Mem} {ty : TypeId} {pos : String} {af : Array Edge} {x y : Operand} {ats : Array TypeId}
  {α : Type} {f : α → AVal} {z0 : α}

theorem shut_map (hf : ∀ a, (f a).shut = f a) (l : List α) : (l.map f).map AVal.shut = l.map f := by
  rw [List.map_map]; exact List.map_congr_left fun a _ => hf a
theorem src_sl {ys : List AVal} {own : Bool} (hy : ev T y = .sl ys own) : srcM M (ev T y) = some (.sl ys own) := by rw [hy]; rfl
/-- A slice in memory is held against nil. -/
theorem o_nilraw {op : BinOp} {e t₁ t₂ : TypeId} {p : Option Addr} {n c : Nat} (hu : P.underlying t₁ = some (.slice e)) (hx : ev T x = .raw (.slice p n c)) (hy : isNilSlice y = true) (hop : op = .eql ∨ op = .neq)
    (h : ∀ b, (op = .eql → b = p.isNone) → (op = .neq → b = !p.isNone) → aOps P tkr ops K (i + 1) rest ⟨setT T d (.raw (.bool b)), M⟩) : aOps P tkr ops K i (mkO (some d) (.binOp op t₁ x y t₂) ty pos af none :: rest) ⟨T, M⟩ := by
  refine o_x rfl ?_
  show estep P (tkr i) _ T M _
  unfold estep
  refine .inr ?_
  unfold eNil
  rw [hx, hu]
  exact ⟨hy, hop, fun b h1 h2 => h b h1 h2⟩
end
end Go.Am

/-! Maps that are known to the last: keys, values, and when each entry was born. -/
namespace Go.Am
set_option linter.unusedVariables false
set_option linter.unusedSimpArgs false
set_option linter.unusedSectionVars false
/-- A map's entries. -/
structure En (α : Type) where
  k : α
  v : Value
  s : Nat
def entsX {α : Type} (ek : α → Value) (l : List (En α)) : Array MapEntry := (l.map fun e => ⟨ek e.k, e.v, e.s⟩).toArray
def enGet {α : Type} [DecidableEq α] (l : List (En α)) (k : α) : Option (En α) := l.find? fun e => e.k = k
def enIdx {α : Type} [DecidableEq α] (l : List (En α)) (k : α) : Option Nat := l.findIdx? fun e => e.k = k

section
variable {P : Program} {tkr : Nat → Option Nat} {ops : Array Oper} {K : St → Prop} {i : Nat} {rest : List Oper} {d : Nat} {T : Nat → AVal} {M : Mem} {ty mt kt et : TypeId} {pos : String} {af : Array Edge} {x y z : Operand} {ats : Array TypeId}
  {α : Type} [DecidableEq α] {ek : α → Value} {r clk : Nat} {l : List (En α)} {k : α} {g : Option (Nat × Bool)}

theorem Fixed.raw (v : Value) : Fixed P (.raw v) v := ⟨fun _ _ => .raw v, fun _ _ _ => Spare.not_raw⟩

theorem enX_find (hk : KeyT P kt ek) : pr P (Instr.findKey kt (ek k) (entsX ek l).toList) = some ((enIdx l k).map fun j => (j, ((l[j]?).map (·.v)).getD undef)) := by
  have h1 := hk.find k (l.map (·.k))
  have h2 : (l.map (·.k)).findIdx? (fun x => decide (x = k)) = enIdx l k := by rw [List.findIdx?_map]; rfl
  rw [h2] at h1
  have hkeys : (entsX ek l).toList.map (·.key) = (l.map (·.k)).map ek := by simp [entsX]
  obtain ⟨a, b⟩ := keyAt_run h1 hkeys
  cases hi : enIdx l k with
  | none => exact a hi
  | some j =>
    obtain ⟨e, he, hf⟩ := b j hi
    rw [hf]
    simp only [entsX, List.getElem?_toArray, List.getElem?_map, Option.map_eq_some_iff] at he
    obtain ⟨e', he', rfl⟩ := he
    simp [he']
theorem enIdx_get : (enIdx l k).bind (fun j => l[j]?) = enGet l k := by
  unfold enIdx enGet
  induction l with
  | nil => rfl
  | cons a l ih =>
    rw [List.findIdx?_cons, List.find?_cons]
    by_cases h : a.k = k
    · simp [h]
    · simp only [h, decide_false, Bool.false_eq_true, if_false]
      rw [← ih]
      cases l.findIdx? (fun e => decide (e.k = k)) <;> rfl
theorem enIdx_some {j : Nat} (h : enIdx l k = some j) : ∃ e, l[j]? = some e ∧ e.k = k ∧ enGet l k = some e := by
  have h1 := enIdx_get (l := l) (k := k)
  rw [h] at h1
  have h2 := List.findIdx?_eq_some_iff_getElem.1 h
  obtain ⟨hlt, hp, -⟩ := h2
  exact ⟨l[j], List.getElem?_eq_getElem hlt, by simpa using hp, by rw [← h1]; exact List.getElem?_eq_getElem hlt⟩
theorem enIdx_none (h : enIdx l k = none) : enGet l k = none := by rw [← enIdx_get, h]; rfl

/-- What is looked up. -/
theorem x_lookup {zv : Value} (hu : P.underlying mt = some (.map kt et)) (hk : KeyT P kt ek) (hz : zeroT P et = some zv) (hm : ev T x = .raw (.map (some r))) (hy : rawOf (ev T y) = some (ek k)) (hM : M r = some (.it (.map (entsX ek l) clk)))
    (h : aOps P tkr ops K (i + 1) rest ⟨setT T d (.raw (((enGet l k).map En.v).getD zv)), M⟩) : aOps P tkr ops K i (mkO (some d) (.lookup mt x y false) ty pos af none :: rest) ⟨T, M⟩ := by
  refine o_xs rfl (.inl fun ρ w h1 h2 _ => .inl ⟨((enGet l k).map En.v).getD zv, _, ?_, Fixed.raw _, h⟩)
  have e1 : ρ x = .map (some r) := h1 x (by simp [Op.operands]) _ (by rw [hm]; rfl)
  have e2 : ρ y = ek k := h1 y (by simp [Op.operands]) _ hy
  refine run_val (s := Instr.lookup mt (ρ x) (ρ y) false) ?_
  rw [e1, e2]
  show ((underlying mt) >>= _).run P w = _
  rw [run_bind_pr (pr_underlying hu)]
  show ((getObj r) >>= _).run P w = _
  rw [run_getObj (h2 r _ hM)]
  show ((Instr.checkKey (entsX ek l).isEmpty 10000 kt (ek k)) >>= _).run P w = _
  rw [run_bind_pr (hk.check _ _)]
  show ((Instr.findKey kt (ek k) (entsX ek l).toList) >>= _).run P w = _
  have hf := enX_find (P := P) (kt := kt) (ek := ek) (l := l) (k := k) hk
  cases hi : enIdx l k with
  | none =>
    rw [hi] at hf
    rw [run_bind_pr hf, enIdx_none hi]
    show ((zeroValue et) >>= _).run P w = _
    rw [run_bind_pr (pr_zeroT hz)]; rfl
  | some j =>
    obtain ⟨e, he, hek, hget⟩ := enIdx_some hi
    rw [hi] at hf
    rw [run_bind_pr hf, hget]
    simp only [Option.map_some, he, Option.getD_some]; rfl

theorem run_setMap {w : World} {ob ob' : Obj} (h : w.heap[r]? = some ob) (hob : ∀ c e fr, ob ≠ .cells c e fr) : (setObj r ob').run P w = .ok () (putObj w r ob') := by
  show (Sem.setObj r ob' (.pure ())).run P w = _
  simp only [Sem.run, h]
  cases ob <;> first | exact absurd rfl (hob _ _ _) | rfl
theorem set_self {β : Type} {l : List β} {j : Nat} {e : β} (h : l[j]? = some e) : l.set j e = l := by
  apply List.ext_getElem?
  intro i
  rw [List.getElem?_set]
  by_cases hi : j = i
  · subst hi
    rw [if_pos rfl, if_pos (List.getElem?_eq_some_iff.1 h).1, h]
  · rw [if_neg hi]
theorem entsX_modify {j : Nat} {e : En α} (he : l[j]? = some e) (f : MapEntry → MapEntry) (e' : En α) (hf : f ⟨ek e.k, e.v, e.s⟩ = ⟨ek e'.k, e'.v, e'.s⟩) : (entsX ek l).modify j f = entsX ek (l.set j e') := by
  apply Array.ext'
  apply List.ext_getElem?
  intro i
  simp only [entsX, Array.getElem?_toList, Array.getElem?_modify, List.getElem?_toArray, List.getElem?_map, List.getElem?_set]
  by_cases h : j = i
  · subst h
    have hlt := (List.getElem?_eq_some_iff.1 he).1
    have he2 : l[j] = e := (List.getElem?_eq_some_iff.1 he).2
    simp [he2, hf, hlt]
  · simp [h]
theorem entsX_push {e : En α} : (entsX ek l).push ⟨ek e.k, e.v, e.s⟩ = entsX ek (l ++ [e]) := by
  apply Array.ext'
  simp [entsX]
theorem keeps_key {α : Type} {ek : α → Value} {kt : TypeId} {P : Program} [DecidableEq α] (hk : KeyT P kt ek) (k : α) (w : World) : (Instr.keyThatStays (ek k) (ek k)).run P w = .ok (ek k) w := by
  unfold Instr.keyThatStays
  rw [hk.same]; rfl

/-- A new value of a key that is there. -/
theorem x_updOld {e : En α} {j : Nat} {v : Value} (hu : P.underlying mt = some (.map kt et)) (hk : KeyT P kt ek) (hm : ev T x = .raw (.map (some r))) (hy : rawOf (ev T y) = some (ek k)) (hv : rawOf (ev T z) = some v) (hM : M r = some (.it (.map (entsX ek l) clk))) (hj : enIdx l k = some j) (he : l[j]? = some e)
    (h : aOps P tkr ops K (i + 1) rest ⟨T, M.upd r (.it (.map (entsX ek (l.set j ⟨e.k, v, e.s⟩)) clk))⟩) : aOps P tkr ops K i (mkO none (.mapUpdate mt x y z) ty pos af none :: rest) ⟨T, M⟩ := by
  have hek : e.k = k := by
    obtain ⟨e', h1, h2, -⟩ := enIdx_some hj
    rw [he] at h1; cases h1; exact h2
  refine o_xs rfl (.inl fun ρ w h1 h2 _ => .inr (.inr (.inl ⟨r, _, .map (entsX ek (l.set j ⟨e.k, v, e.s⟩)) clk, hM, (fun _ _ _ => ⟨(fun h => by cases h), fun h => by cases h⟩), ?_, h⟩)))
  have e1 : ρ x = .map (some r) := h1 x (by simp [Op.operands]) _ (by rw [hm]; rfl)
  have e2 : ρ y = ek k := h1 y (by simp [Op.operands]) _ hy
  have e3 : ρ z = v := h1 z (by simp [Op.operands]) _ hv
  have hw := h2 r _ hM
  show ((Instr.mapUpdate mt (ρ x) (ρ y) (ρ z)) >>= fun _ => (pure Next.skip : Sem Go.Next)).run P w = _
  have hrun : (Instr.mapUpdate mt (ρ x) (ρ y) (ρ z)).run P w = .ok () (putObj w r (.map (entsX ek (l.set j ⟨e.k, v, e.s⟩)) clk)) := by
    rw [e1, e2, e3]
    show ((underlying mt) >>= _).run P w = _
    rw [run_bind_pr (pr_underlying hu)]
    show ((getObj r) >>= _).run P w = _
    rw [run_getObj hw]
    show ((Instr.checkKey false 10000 kt (ek k)) >>= _).run P w = _
    rw [run_bind_pr (hk.check _ _)]
    show ((Instr.findKey kt (ek k) (entsX ek l).toList) >>= _).run P w = _
    have hf := enX_find (P := P) (kt := kt) (ek := ek) (l := l) (k := k) hk
    rw [hj] at hf
    rw [run_bind_pr hf]
    have hent : (entsX ek l)[j]? = some ⟨ek e.k, e.v, e.s⟩ := by simp [entsX, he]
    simp only [Option.map_some, he, Option.getD_some, hent, hek]
    show ((Instr.keyThatStays (ek k) (ek k)) >>= _).run P w = _
    rw [Sem.run_bind, keeps_key hk, Result.andThen_ok, entsX_modify he (e' := ⟨e.k, v, e.s⟩) _ (by rw [hek])]
    rw [hek]
    exact run_setMap hw (fun _ _ _ h => by cases h)
  rw [Sem.run_bind, hrun]; rfl

/-- A key is taken away. -/
theorem x_delete {j : Nat} (h0 : ats[0]? = some mt) (hu : P.underlying mt = some (.map kt et)) (hk : KeyT P kt ek) (hm : ev T x = .raw (.map (some r))) (hy : rawOf (ev T y) = some (ek k)) (hM : M r = some (.it (.map (entsX ek l) clk))) (hj : enIdx l k = some j) {dst : Option Nat}
    (h : aOps P tkr ops K (i + 1) rest (Eff.apply ⟨none, M.upd r (.it (.map (entsX ek (l.eraseIdx j)) clk)), .raw (.tuple #[])⟩ ⟨T, M⟩ dst)) : aOps P tkr ops K i (mkO dst (.call { callee := .builtin .delete, args := #[x, y], argTypes := ats }) ty pos af none :: rest) ⟨T, M⟩ := by
  refine o_xs rfl (.inl fun ρ w h1 h2 _ => .inr (.inl ⟨.tuple #[], .raw (.tuple #[]), r, _, .map (entsX ek (l.eraseIdx j)) clk, w.drawn, hM, (fun _ _ _ => ⟨(fun h => by cases h), fun h => by cases h⟩), ?_, Fixed.raw _, h⟩))
  have e1 : ρ x = .map (some r) := h1 x (by simp [Op.operands, Call.operands]) _ (by rw [hm]; rfl)
  have e2 : ρ y = ek k := h1 y (by simp [Op.operands, Call.operands]) _ hy
  have hw := h2 r _ hM
  have hrun : (Builtin.delete_ ats ty #[ρ x, ρ y]).run P w = .ok (.tuple #[]) (putObj w r (.map (entsX ek (l.eraseIdx j)) clk)) := by
    rw [e1, e2]
    have hf := enX_find (P := P) (kt := kt) (ek := ek) (l := l) (k := k) hk
    rw [hj] at hf
    have herase : (entsX ek l).eraseIdxIfInBounds j = entsX ek (l.eraseIdx j) := by
      have hlt : j < l.length := by
        obtain ⟨e', h1, -⟩ := enIdx_some hj
        exact (List.getElem?_eq_some_iff.1 h1).1
      unfold entsX
      rw [List.eraseIdxIfInBounds_toArray]
      congr 1
      apply List.ext_getElem?
      intro q
      simp only [List.getElem?_map, List.getElem?_eraseIdx]
      split <;> rfl
    simp only [Builtin.delete_, h0, List.getElem?_toArray, List.getElem?_cons_zero, List.getElem?_cons_succ]
    show ((underlying mt) >>= _).run P w = _
    rw [run_bind_pr (pr_underlying hu)]
    show ((getObj r) >>= _).run P w = _
    rw [run_getObj hw]
    show ((Instr.checkKey (entsX ek l).isEmpty 10000 kt (ek k)) >>= _).run P w = _
    rw [run_bind_pr (hk.check _ _)]
    show ((Instr.findKey kt (ek k) (entsX ek l).toList) >>= _).run P w = _
    rw [run_bind_pr hf]
    show ((setObj r (.map ((entsX ek l).eraseIdxIfInBounds j) clk)) >>= _).run P w = _
    rw [herase, Sem.run_bind, run_setMap hw (fun _ _ _ h => by cases h)]; rfl
  unfold execOp
  show (do let v ← Builtin.delete_ ats ty (#[x, y].map ρ); pure (Go.Next.value v)).run P w = _
  rw [show (#[x, y] : Array Operand).map ρ = #[ρ x, ρ y] by simp]
  exact run_val hrun

/-- A new map. -/
theorem x_makeMap (h : ∀ b, M b = none → aOps P tkr ops K (i + 1) rest ⟨setT T d (.raw (.map (some b))), M.upd b (.it (.map (entsX ek ([] : List (En α))) 0))⟩) : aOps P tkr ops K i (mkO (some d) (.makeMap mt none) ty pos af none :: rest) ⟨T, M⟩ := by
  refine o_xs rfl (.inl fun ρ w h1 h2 h3 => .inr (.inr (.inr ⟨.map (some w.heap.size), .map #[] 0, (fun _ _ _ h => by cases h), ?_, h _ h3.1⟩)))
  exact run_val (s := Instr.makeMap mt none) rfl

/-- A walk through a map begins. -/
theorem x_range (hu : P.underlying mt = some (.map kt et)) (hm : ev T x = .raw (.map (some r))) (hM : M r = some (.it (.map (entsX ek l) clk)))
    (h : ∀ b, M b = none → aOps P tkr ops K (i + 1) rest ⟨setT T d (.raw (.pointer (some ⟨b, 0, none⟩))), M.upd b (.it (.mapIter (some r) clk #[] clk))⟩) : aOps P tkr ops K i (mkO (some d) (.range mt x) ty pos af none :: rest) ⟨T, M⟩ := by
  refine o_xs rfl (.inl fun ρ w h1 h2 h3 => .inr (.inr (.inr ⟨.pointer (some ⟨w.heap.size, 0, none⟩), .mapIter (some r) clk #[] clk, (fun _ _ _ h => by cases h), ?_, h _ h3.1⟩)))
  have e1 : ρ x = .map (some r) := h1 x (by simp [Op.operands]) _ (by rw [hm]; rfl)
  have hw := h2 r _ hM
  refine run_val (s := Instr.range mt (ρ x)) ?_
  rw [e1]
  show ((underlying mt) >>= _).run P w = _
  rw [run_bind_pr (pr_underlying hu)]
  show ((getObj r) >>= _).run P w = _
  rw [run_getObj hw]
  rfl

/-- A value of a key that is not there yet. -/
theorem x_updNew {v : Value} (hu : P.underlying mt = some (.map kt et)) (hk : KeyT P kt ek) (hm : ev T x = .raw (.map (some r))) (hy : rawOf (ev T y) = some (ek k)) (hv : rawOf (ev T z) = some v) (hM : M r = some (.it (.map (entsX ek l) clk))) (hj : enIdx l k = none)
    (h : aOps P tkr ops K (i + 1) rest ⟨T, M.upd r (.it (.map (entsX ek (l ++ [⟨k, v, clk⟩])) (clk + 1)))⟩) : aOps P tkr ops K i (mkO none (.mapUpdate mt x y z) ty pos af none :: rest) ⟨T, M⟩ := by
  refine o_xs rfl (.inl fun ρ w h1 h2 _ => .inr (.inr (.inl ⟨r, _, .map (entsX ek (l ++ [(⟨k, v, clk⟩ : En α)])) (clk + 1), hM, (fun _ _ _ => ⟨(fun h => by cases h), fun h => by cases h⟩), ?_, h⟩)))
  have e1 : ρ x = .map (some r) := h1 x (by simp [Op.operands]) _ (by rw [hm]; rfl)
  have e2 : ρ y = ek k := h1 y (by simp [Op.operands]) _ hy
  have e3 : ρ z = v := h1 z (by simp [Op.operands]) _ hv
  have hw := h2 r _ hM
  show ((Instr.mapUpdate mt (ρ x) (ρ y) (ρ z)) >>= fun _ => (pure Next.skip : Sem Go.Next)).run P w = _
  have hrun : (Instr.mapUpdate mt (ρ x) (ρ y) (ρ z)).run P w = .ok () (putObj w r (.map (entsX ek (l ++ [⟨k, v, clk⟩])) (clk + 1))) := by
    rw [e1, e2, e3]
    show ((underlying mt) >>= _).run P w = _
    rw [run_bind_pr (pr_underlying hu)]
    show ((getObj r) >>= _).run P w = _
    rw [run_getObj hw]
    show ((Instr.checkKey false 10000 kt (ek k)) >>= _).run P w = _
    rw [run_bind_pr (hk.check _ _)]
    show ((Instr.findKey kt (ek k) (entsX ek l).toList) >>= _).run P w = _
    have hf := enX_find (P := P) (kt := kt) (ek := ek) (l := l) (k := k) hk
    rw [hj] at hf
    rw [run_bind_pr hf]
    show (setObj r (.map ((entsX ek l).push ⟨ek k, v, clk⟩) (clk + 1))).run P w = _
    rw [show (entsX ek l).push ⟨ek k, v, clk⟩ = entsX ek (l ++ [⟨k, v, clk⟩]) from entsX_push (e := ⟨k, v, clk⟩)]
    exact run_setMap hw (fun _ _ _ h => by cases h)
  rw [Sem.run_bind, hrun]; rfl

theorem run_choose {β : Type} {n : Nat} (hn : 0 < n) (f : Nat → Sem β) (w : World) : ∃ i n', i < n ∧ ((choose (.mapNext n)) >>= f).run P w = (f i).run P { w with drawn := n' } := by
  by_cases h : (Question.mapNext n).forced = true
  · refine ⟨0, w.drawn, hn, ?_⟩
    show (Sem.choose (.mapNext n) fun n => (Sem.pure n).bind f).run P w = _
    rw [Sem.run, if_pos h]; rfl
  · refine ⟨w.tape w.drawn (.mapNext n) % n, w.drawn + 1, Nat.mod_lt _ hn, ?_⟩
    show (Sem.choose (.mapNext n) fun n => (Sem.pure n).bind f).run P w = _
    rw [Sem.run, if_neg h]; rfl
theorem run_getIt {w : World} {b : Nat} {ob : Obj} (h : w.heap[b]? = some ob) (hob : ∀ c e fr, ob ≠ .cells c e fr) {β : Type} (f : Obj → Sem β) : ((getObj b) >>= f).run P w = (f ob).run P w := by
  show (Sem.getObj b fun o => (Sem.pure o).bind f).run P w = _
  simp only [Sem.run, h]
  cases ob <;> first | exact absurd rfl (hob _ _ _) | rfl
theorem putObj_same {w : World} {b : Nat} {ob : Obj} (h : w.heap[b]? = some ob) : putObj w b ob = w := by
  unfold putObj
  have : w.heap.setIfInBounds b ob = w.heap := by
    apply Array.ext'
    rw [Array.toList_setIfInBounds]
    exact set_self (by rw [Array.getElem?_toList]; exact h)
  rw [this]
theorem Fixed.tup {Vs : List AVal} {vs : Array Value} (hl : Vs.length = vs.size) (h : ∀ (i : Nat) X x, Vs[i]? = some X → vs[i]? = some x → Fixed P X x ∧ ∀ l o, X ≠ .sl l o) : Fixed P (.tup Vs) (.tuple vs) :=
  ⟨fun κ w => .tup _ _ hl fun i X x h1 h2 => (h i X x h1 h2).1.1 κ w, fun w b o hs => by
    rcases hs with ⟨l, o1, c, g1, -⟩ | ⟨Vs', vs', i, X, x, g1, g2, g3, g4, l, o1, c, g5, -⟩
    · cases g1
    · cases g1; cases g2
      exact (h i X x g3 g4).2 _ _ g5⟩
/-- A step of a walk through a map. -/
theorem x_next {q since last : Nat} {seen : Array Nat} (hx : ev T x = .raw (.pointer (some ⟨q, 0, none⟩))) (hq : M q = some (.it (.mapIter (some r) since seen last))) (hM : M r = some (.it (.map (entsX ek l) clk))) (hb : ∀ e ∈ l, e.s < since ∧ e.s < last)
    (hover : (∀ e ∈ l, e.s ∈ seen) → aOps P tkr ops K (i + 1) rest ⟨setT T d (.tup [.raw (.bool false)]), M⟩)
    (hstep : ∀ e ∈ l, e.s ∉ seen → aOps P tkr ops K (i + 1) rest ⟨setT T d (.tup [.raw (.bool true), .raw (ek e.k), .raw e.v]), M.upd q (.it (.mapIter (some r) since (seen.push e.s) clk))⟩) :
    aOps P tkr ops K i (mkO (some d) (.next x false) ty pos af none :: rest) ⟨T, M⟩ := by
  refine o_xs rfl (.inl fun ρ w h1 h2 _ => .inr (.inl ?_))
  have e1 : ρ x = .pointer (some ⟨q, 0, none⟩) := h1 x (by simp [Op.operands]) _ (by rw [hx]; rfl)
  have hwq := h2 q _ hq
  have hwr := h2 r _ hM
  generalize hleft : ((entsX ek l).filter fun e => !seen.contains e.born) = left
  have hmem : ∀ en, en ∈ left ↔ ∃ e ∈ l, e.s ∉ seen ∧ en = ⟨ek e.k, e.v, e.s⟩ := fun en => by
    rw [← hleft]
    simp only [entsX, List.filter_toArray, List.mem_toArray, List.mem_filter, List.mem_map, Bool.not_eq_true', Array.contains_eq_mem, decide_eq_false_iff_not]
    constructor
    · rintro ⟨⟨e, he, rfl⟩, h⟩; exact ⟨e, he, h, rfl⟩
    · rintro ⟨e, he, h, rfl⟩; exact ⟨⟨e, he, rfl⟩, h⟩
  have hold : (left.filter fun e => decide (e.born < since)) = left := by
    rw [Array.filter_eq_self]
    intro en hen
    obtain ⟨e, he, -, rfl⟩ := (hmem en).1 hen
    simpa using (hb e he).1
  have hnew : (left.filter fun e => decide (e.born ≥ since)) = #[] := by
    rw [Array.filter_eq_empty_iff]
    intro en hen
    obtain ⟨e, he, -, rfl⟩ := (hmem en).1 hen
    have := (hb e he).1
    simp; omega
  let cand : Array (Option MapEntry) := (if left.isEmpty then #[none] else #[]) ++ (left ++ #[]).map some
  have hcs : 0 < cand.size := by
    show 0 < ((if left.isEmpty then #[none] else #[]) ++ (left ++ #[]).map some : Array (Option MapEntry)).size
    by_cases h : left.isEmpty
    · simp [h]; omega
    · have : left.size ≠ 0 := fun e => h (by simpa using e)
      simp [h]; omega
  obtain ⟨j, n', hj, hrunc⟩ := run_choose (P := P) hcs (fun j => match cand[j]? with
      | some (some e) => do
        setObj q (.mapIter (some r) since (seen.push e.born) clk)
        pure (Value.tuple #[.bool true, e.key, e.val])
      | some none => pure (Value.tuple #[.bool false])
      | none => stuck "Next: no such candidate") w
  have hguard : (!seen.isEmpty && !(entsX ek l).isEmpty && (entsX ek l).all (fun e => decide (e.born ≥ last))) = false := by
    cases hl : l with
    | nil => simp [entsX]
    | cons e l' =>
      have := (hb e (by rw [hl]; exact List.mem_cons_self)).2
      simp only [entsX, List.map_cons, List.isEmpty_toArray, List.isEmpty_cons, Bool.not_false, Bool.and_true, List.all_toArray, List.all_cons]
      rw [decide_eq_false (show ¬ e.s ≥ last by omega)]
      simp
  have hrun0 : ∀ (v : Value) (w' : World), ((match cand[j]? with
      | some (some e) => do
        setObj q (.mapIter (some r) since (seen.push e.born) clk)
        pure (Value.tuple #[.bool true, e.key, e.val])
      | some none => pure (Value.tuple #[.bool false])
      | none => stuck "Next: no such candidate") : Sem Value).run P { w with drawn := n' } = .ok v w' → (execOp ρ (mkO (some d) (.next x false) ty pos af none)).run P w = .ok (.value v) w' := fun v w' hv => by
    refine run_val (s := Instr.next (ρ x) false ty) ?_
    rw [e1]
    show ((getObj q) >>= _).run P w = _
    rw [run_getIt hwq (fun _ _ _ h => by cases h)]
    show ((getObj r) >>= _).run P w = _
    rw [run_getIt hwr (fun _ _ _ h => by cases h)]
    dsimp only
    rw [if_neg (by rw [hguard]; decide)]
    simp only [hleft, hold, hnew]
    exact hrunc.trans hv
  have hgetc : cand[j]? = some cand[j] := by simp [hj]
  cases hc : cand[j] with
  | none =>
    have hem : left.isEmpty = true := by
      have hin : none ∈ cand := by rw [← hc]; exact Array.getElem_mem hj
      by_cases h : left.isEmpty
      · exact h
      · exfalso
        have : none ∈ ((if left.isEmpty then #[none] else #[]) ++ (left ++ #[]).map some : Array (Option MapEntry)) := hin
        simp [h] at this
    refine ⟨_, .tup [.raw (.bool false)], q, _, .mapIter (some r) since seen last, n', hq, (fun _ _ _ => ⟨(fun h => by cases h), fun h => by cases h⟩), ?_, Fixed.tup (vs := #[.bool false]) rfl (fun i X x h1 h2 => ?_), ?_⟩
    · rw [putObj_same hwq]
      refine hrun0 (.tuple #[.bool false]) _ ?_
      rw [hgetc, hc]; rfl
    · match i, h1, h2 with
      | 0, h1, h2 => cases h1; cases h2; exact ⟨Fixed.raw _, fun _ _ h => by cases h⟩
      | i + 1, h1, _ => simp at h1
    · rw [Mem.upd_same hq]
      refine hover fun e he => ?_
      by_cases hs : e.s ∈ seen
      · exact hs
      · exfalso
        have : (⟨ek e.k, e.v, e.s⟩ : MapEntry) ∈ left := (hmem _).2 ⟨e, he, hs, rfl⟩
        rw [Array.isEmpty_iff] at hem
        rw [hem] at this
        simp at this
  | some en =>
    have hin : some en ∈ cand := by rw [← hc]; exact Array.getElem_mem hj
    have hin' : en ∈ left := by
      have : some en ∈ ((if left.isEmpty then #[none] else #[]) ++ (left ++ #[]).map some : Array (Option MapEntry)) := hin
      simp only [Array.append_empty, Array.mem_append, Array.mem_map, Option.some.injEq, exists_eq_right] at this
      rcases this with h | h
      · split at h <;> simp at h
      · exact h
    obtain ⟨e, he, hs, rfl⟩ := (hmem en).1 hin'
    refine ⟨_, .tup [.raw (.bool true), .raw (ek e.k), .raw e.v], q, _, .mapIter (some r) since (seen.push e.s) clk, n', hq, (fun _ _ _ => ⟨(fun h => by cases h), fun h => by cases h⟩), ?_, Fixed.tup (vs := #[.bool true, ek e.k, e.v]) rfl (fun i X x h1 h2 => ?_), hstep e he hs⟩
    · refine hrun0 (.tuple #[.bool true, ek e.k, e.v]) _ ?_
      rw [hgetc, hc]
      show ((setObj q (.mapIter (some r) since (seen.push e.s) clk)) >>= _).run P { w with drawn := n' } = _
      rw [Sem.run_bind, run_setMap (w := { w with drawn := n' }) hwq (fun _ _ _ h => by cases h)]
      rfl
    · match i, h1, h2 with
      | 0, h1, h2 => cases h1; cases h2; exact ⟨Fixed.raw _, fun _ _ h => by cases h⟩
      | 1, h1, h2 => cases h1; cases h2; exact ⟨Fixed.raw _, fun _ _ h => by cases h⟩
      | 2, h1, h2 => cases h1; cases h2; exact ⟨Fixed.raw _, fun _ _ h => by cases h⟩
      | i + 3, h1, _ => simp at h1

/-- The entry at which a walk through a map stands. -/
theorem x_entry {q since s : Nat} {seen : Array Nat} {e : En α} {KA : AVal} (hx : ev T x = .raw (.pointer (some ⟨q, 0, none⟩))) (hq : M q = some (.it (.mapIter (some r) since (seen.push s) clk))) (hM : M r = some (.it (.map (entsX ek l) clk))) (he : l.find? (fun e => e.s = s) = some e) (hK : Fixed P KA (ek e.k)) (hK2 : ∀ l o, KA ≠ .sl l o)
    (h : aOps P tkr ops K (i + 1) rest ⟨setT T d (.tup [KA, .raw e.v]), M⟩) : aOps P tkr ops K i (mkO (some d) (.entry x) ty pos af none :: rest) ⟨T, M⟩ := by
  refine o_xs rfl (.inl fun ρ w h1 h2 _ => .inl ⟨.tuple #[ek e.k, e.v], .tup [KA, .raw e.v], ?_, Fixed.tup rfl (fun i X x h1 h2 => ?_), h⟩)
  · have e1 : ρ x = .pointer (some ⟨q, 0, none⟩) := h1 x (by simp [Op.operands]) _ (by rw [hx]; rfl)
    have hwq := h2 q _ hq
    have hwr := h2 r _ hM
    refine run_val (s := Instr.entry (ρ x)) ?_
    rw [e1]
    show ((getObj q) >>= _).run P w = _
    rw [run_getIt hwq (fun _ _ _ h => by cases h)]
    simp only [Array.back?_push]
    show ((getObj r) >>= _).run P w = _
    rw [run_getIt hwr (fun _ _ _ h => by cases h)]
    have hf : (entsX ek l).find? (fun en => en.born == s) = some ⟨ek e.k, e.v, e.s⟩ := by
      unfold entsX
      rw [List.find?_toArray, List.find?_map]
      have : ((fun (en : MapEntry) => en.born == s) ∘ fun (e : En α) => (⟨ek e.k, e.v, e.s⟩ : MapEntry)) = fun e => decide (e.s = s) := by
        funext q
        show (q.s == s) = _
        by_cases h : q.s = s <;> simp [h]
      rw [this, he]; rfl
    simp only [hf, bne_self_eq_false, Bool.false_eq_true, if_false]
    rfl
  · match i, h1, h2 with
    | 0, h1, h2 => cases h1; cases h2; exact ⟨hK, hK2⟩
    | 1, h1, h2 => cases h1; cases h2; exact ⟨Fixed.raw _, fun _ _ h => by cases h⟩
    | i + 2, h1, _ => simp at h1
end

section
variable {P : Program} {tkr : Nat → Option Nat} {ops : Array Oper} {K : St → Prop} {i : Nat} {rest : List Oper} {d : Nat} {dst : Option Nat} {T : Nat → AVal} {M : Mem} {ty st e : TypeId} {pos : String} {af : Array Edge} {x y z : Operand} {ats : Array TypeId}
  {β : Type} {f : β → AVal} {z0 : β} {g : Option (Nat × Bool)}

/-- A slice of a slice in memory. -/
theorem q_slr {t : TypeId} {sz b off n c a h m : Nat} {lo hi mx : Option Operand} {lo' hi' mx' : Option Value} (hu : P.underlying t = some (.slice e)) (hs : sizeT P e = some sz) (hx : ev T x = .raw (.slice (some ⟨b, off, none⟩) n c)) (hlo : (lo.mapM fun x => rawOf (ev T x)) = some lo') (hhi : (hi.mapM fun x => rawOf (ev T x)) = some hi') (hmx : (mx.mapM fun x => rawOf (ev T x)) = some mx')
    (hb : pr P (Instr.sliceBounds true n c lo' hi' mx') = some (a, h, m)) :
    qstep P none (mkO dst (.slice t x lo hi mx) ty pos af g) T M = some (⟨none, .raw (.slice (some ⟨b, if m = a then off else off + a * sz, none⟩) (h - a) (m - a))⟩, []) := by
  have e1 : pr P (Instr.sliceAt t (.slice (some ⟨b, off, none⟩) n c) lo' hi' mx') = some (.slice (some ⟨b, if m = a then off else off + a * sz, none⟩) (h - a) (m - a)) := by
    unfold Instr.sliceAt
    rw [pr_b, pr_underlying hu]
    show pr P (Instr.slice t (.slice (some ⟨b, off, none⟩) n c) lo' hi' mx') = _
    unfold Instr.slice
    rw [pr_b, pr_underlying hu]
    show pr P (Instr.sliceBounds true n c lo' hi' mx' >>= _) = _
    rw [pr_b, hb]
    show pr P (sizeOf e >>= _) = _
    rw [pr_b, pr_sizeT hs]
    show some (Value.slice (if m = a then some ⟨b, off, none⟩ else (some (⟨b, off, none⟩ : Addr)).map (·.add (a * sz))) (h - a) (m - a)) = _
    by_cases hm : m = a
    · simp [hm]
    · simp [hm, addr_add]
  have e2 : aop P T M ty (.slice t x lo hi mx) = some (.raw (.slice (some ⟨b, if m = a then off else off + a * sz, none⟩) (h - a) (m - a))) := by
    simp only [aop, aSlice, hx, hlo, hhi, hmx, e1]; rfl
  simp only [qstep, e2, Option.map_some, readsOf, AVal.shut, AVal.shut1]
theorem bnd_h {n c h : Nat} {k : IntKind} (hc : h ≤ c) : pr P (Instr.sliceBounds true n c none (some (.int k h)) none) = some (0, h, c) :=
  pr_sliceBounds _ _ _ (fun v e => by cases e) (fun _ => rfl) (fun v e => ⟨k, h, by cases e; rfl, by omega, by omega⟩) (fun e => by cases e) (fun v e => by cases e) (fun _ => rfl) (fun e => by cases e) (by omega) hc (Nat.le_refl _)
theorem src_off {b off n c : Nat} {l : List β} (hf : ∀ a, (f a).shut = f a) (hb : M b = some (.cells (l.map f))) (h : n = 0 ∨ off + n ≤ l.length) (hy : ev T y = .raw (.slice (some ⟨b, off, none⟩) n c)) : srcM M (ev T y) = some (.sl (((l.drop off).take n).map f) false) := by
  rw [hy]
  unfold srcM
  dsimp only
  by_cases e : n = 0
  · subst e; rfl
  · rw [if_neg e, hb]
    dsimp only
    rw [if_pos (by simp; omega), ← List.map_drop, ← List.map_take, shut_map hf]

end
end Go.Am

/-! From the kit's contracts to ours: what a callee leaves below its own blocks; maps that are known to the last as the kit's owned maps. -/
namespace Go.Am
set_option linter.unusedVariables false
set_option linter.unusedSimpArgs false
set_option linter.unusedSectionVars false
section
variable {P : Program} {κ : Ghost} {w w' : World} {M : Mem}

/-- Nothing that lay before has turned. -/
theorem Holds.below {T : Nat → AVal} {V : Nat → Value} (h : Holds P κ T V M w) (hb : Go.RowKit.Below w.heap.size w w') : Holds P κ T V M w' ∧ Keep κ w κ w' := by
  have hb' : ∀ b, b < w.heap.size → w'.heap[b]? = w.heap[b]? := hb.block
  have hk : Keep κ w κ w' := ⟨hb.os, hb.tape, hb.output, hb.size, fun b hb => shape_of_block (hb' b hb), fun b x hx => ⟨hx, cell_of_block (hb' b (h.tag b x (by rw [hx]; simp)).1)⟩,
    fun b x hx => ⟨hx, cell_of_block (hb' b (h.tag b x (by rw [hx]; simp)).1), frozen_of_block (hb' b (h.tag b x (by rw [hx]; simp)).1)⟩, fun b hb _ => hb' b hb⟩
  refine ⟨⟨fun t => hk.rep (h.tmp t), fun b o hb => ?_, fun b o hb => ⟨Nat.lt_of_lt_of_le (h.tag b o hb).1 hk.size, (h.tag b o hb).2⟩, fun t b o hsp => h.sp t b o (hsp.keep (h.tmp t) hk.shape), fun b o t hb => ?_, fun b o c j hb => ?_⟩, hk⟩
  · have hlt' := h.lt hb
    have := h.obj b o hb
    cases o with
    | it o => exact ⟨(hb' b hlt').trans this.1, this.2⟩
    | cells l =>
      obtain ⟨c, e, fr, a1, a2, a3, a4⟩ := this
      exact ⟨c, e, fr, (hb' b hlt').trans a1, a2, fun x hx => (frozen_of_block (hb' b hlt')).trans (a3 x hx), fun j X x e1 e2 => ⟨hk.rep (a4 j X x e1 e2).1, (a4 j X x e1 e2).2.1, fun b' o' hs => (a4 j X x e1 e2).2.2 b' o' (hs.keep (a4 j X x e1 e2).1 hk.shape)⟩⟩
    | map es =>
      obtain ⟨ents, clock, a1, a2, a3, a4, a5⟩ := this
      exact ⟨ents, clock, (hb' b hlt').trans a1, a2, fun j e ent e1 e2 => ⟨(a3 j e ent e1 e2).1, hk.rep (a3 j e ent e1 e2).2.1, fun b' o' hs => (a3 j e ent e1 e2).2.2 b' o' (hs.keep (a3 j e ent e1 e2).2.1 hk.shape)⟩, a4, a5⟩
  · have := h.wr b o t hb
    have hlt' := (h.tag b o (by rw [hb]; simp)).1
    exact ⟨by rw [cell_of_block (hb' b hlt')]; exact this.1, by rw [frozen_of_block (hb' b hlt')]; exact this.2⟩
  · have := h.mwr b o c j hb
    have hlt' := (h.tag b o (by rw [hb]; simp)).1
    exact ⟨by rw [cell_of_block (hb' b hlt')]; exact this.1, by rw [frozen_of_block (hb' b hlt')]; exact this.2⟩

/-- A row of texts that nobody else knows of is one that stays. -/
theorem Holds.row {T : Nat → AVal} {V : Nat → Value} (h : Holds P κ T V M w) (hb : Go.RowKit.Below w.heap.size w w') {g cap : Nat} {cur : Array Value} {e : TypeId} (hg : w.heap.size ≤ g) (hblk : w'.heap[g]? = some (.cells cur e (0, 0))) {l : List AVal} (hcap : l.length ≤ cap) (hsz : cap = cur.size) (hl : ∀ X ∈ l, X.cells = [X]) (hv : ∀ (j : Nat) X v, l[j]? = some X → cur[j]? = some v → Rep P κ w' X v) :
    ∃ κ', Holds P κ' (argT [.sl l false]) (fun t => if t = 0 then .slice (some ⟨g, 0, none⟩) l.length cap else undef) M w' ∧ Keep κ w κ' w' := by
  obtain ⟨h1, hk1⟩ := h.below hb
  have hfree : ∀ o, κ g o = .free := fun o => by
    cases hq : κ g o with
    | free => rfl
    | _ => exact absurd (h.tag g o (by rw [hq]; simp)).1 (by omega)
  let κ' : Ghost := fun b o => if b = g ∧ o < l.length then .imm else κ b o
  have hne : ∀ b o, κ b o ≠ .free → κ' b o = κ b o := fun b o hq => by
    show (if b = g ∧ o < l.length then Tag.imm else κ b o) = _
    rw [if_neg]
    rintro ⟨rfl, -⟩
    exact hq (hfree o)
  have hk2 : Keep κ w' κ' w' := ⟨rfl, rfl, rfl, Nat.le_refl _, fun _ _ => rfl, fun b o hq => ⟨by rw [hne b o (by rw [hq]; simp)]; exact hq, rfl⟩, fun b o hq => ⟨by rw [hne b o (by rw [hq]; simp)]; exact hq, rfl, rfl⟩, fun _ _ _ => rfl⟩
  have hgl : g < w'.heap.size := (Array.getElem?_eq_some_iff.1 hblk).1
  have hMg : M g = none := by
    cases hm : M g with
    | none => rfl
    | some o => exact absurd (h.lt hm) (by omega)
  have hfl : flat l = l := flat_units hl
  refine ⟨κ', ⟨fun t => ?_, fun b o hb => ?_, fun b o hq => ?_, fun t b o hsp => ?_, fun b o t hq => ?_, fun b o c j hq => ?_⟩, hk1.trans hk2⟩
  · by_cases ht : t = 0
    · subst ht
      have hcs : ∀ j, j < l.length → w'.cell? ⟨g, 0 + j, none⟩ = some (cur.getD j undef) := fun j hj => by
        rw [cell_of_cells hblk]
        have : j < cur.size := by omega
        simp [Array.getD, this]
      refine .sl l false g 0 cap 1 (fun j => cur.getD j undef) hcap (fun X hX => by rw [hl X hX]; rfl) (fun j hj => ?_) (fun j hj => hcs j (by rwa [hfl] at hj)) (fun j c hc => ?_) (fun e => by cases e)
      · rw [hfl] at hj
        show (if g = g ∧ 0 + j < l.length then Tag.imm else _) = _
        rw [if_pos ⟨rfl, by omega⟩]
      · rw [hfl] at hc
        have hj : j < l.length := (List.getElem?_eq_some_iff.1 hc).1
        have hj2 : j < cur.size := by omega
        have e : cur.getD j undef = cur[j] := by simp [Array.getD, hj2]
        rw [e]
        exact hk2.rep (hv j c cur[j] hc (by simp [hj2]))
    · obtain ⟨k, rfl⟩ : ∃ k, t = k + 1 := ⟨t - 1, by omega⟩
      exact .undef _
  · have := h1.obj b o hb
    cases o with
    | it o => exact this
    | cells l =>
      obtain ⟨c, e, fr, a1, a2, a3, a4⟩ := this
      exact ⟨c, e, fr, a1, a2, a3, fun j X x e1 e2 => ⟨hk2.rep (a4 j X x e1 e2).1, (a4 j X x e1 e2).2.1, fun b' o' hs => by
        have := (a4 j X x e1 e2).2.2 b' o' hs
        rw [hne b' o' (by rw [this]; simp)]; exact this⟩⟩
    | map es =>
      obtain ⟨ents, clock, a1, a2, a3, a4, a5⟩ := this
      exact ⟨ents, clock, a1, a2, fun j e ent e1 e2 => ⟨(a3 j e ent e1 e2).1, hk2.rep (a3 j e ent e1 e2).2.1, fun b' o' hs => by
        have := (a3 j e ent e1 e2).2.2 b' o' hs
        rw [hne b' o' (by rw [this]; simp)]; exact this⟩, a4, a5⟩
  · by_cases hq' : κ b o = .free
    · have : b = g ∧ o < l.length := by
        refine Classical.byContradiction fun hn => hq ?_
        show (if b = g ∧ o < l.length then Tag.imm else κ b o) = _
        rw [if_neg hn]; exact hq'
      exact ⟨by rw [this.1]; exact hgl, by rw [this.1, hMg]; exact .none _⟩
    · rw [hne b o hq']; exact h1.tag b o hq'
  · by_cases ht : t = 0
    · subst ht
      rcases hsp with ⟨l', o1, c1, g1, -⟩ | ⟨Vs, vs', i, X, x, g1, -⟩ <;> cases g1
    · obtain ⟨k, rfl⟩ : ∃ k, t = k + 1 := ⟨t - 1, by omega⟩
      rcases hsp with ⟨l', o1, c1, g1, -⟩ | ⟨Vs, vs', i, X, x, g1, -⟩ <;> cases g1
  · have hq2 : κ b o = .slot t := by
      by_cases hf : κ b o = .free
      · have : b = g ∧ o < l.length ∨ ¬ (b = g ∧ o < l.length) := Classical.em _
        rcases this with h' | h'
        · have : κ' b o = .imm := if_pos h'
          rw [this] at hq; cases hq
        · have : κ' b o = κ b o := if_neg h'
          rw [← this]; exact hq
      · rw [← hne b o hf]; exact hq
    exact h1.wr b o t hq2
  · have hq2 : κ b o = .mslot c j := by
      by_cases hf : κ b o = .free
      · have : b = g ∧ o < l.length ∨ ¬ (b = g ∧ o < l.length) := Classical.em _
        rcases this with h' | h'
        · have : κ' b o = .imm := if_pos h'
          rw [this] at hq; cases hq
        · have : κ' b o = κ b o := if_neg h'
          rw [← this]; exact hq
      · rw [← hne b o hf]; exact hq
    exact h1.mwr b o c j hq2
end

/-- Go's order of texts. -/
def sortS (l : List ByteArray) : List ByteArray := l.mergeSort fun x y => decide (x.data.toList ≤ y.data.toList)
def anyR (v : Value) : Option (DataW Unit × List MemPlace) := some (.lit (.bool true), [])
def keysD (l : List (En ByteArray)) : DataW Unit := .map (((entsX Value.string l).toList.map fun x => ((match x.key with | .string s => .string s.data.toList | _ => .bool false : Lit), (DataW.lit (.bool true) : DataW Unit))).foldr DataW.insert [])
theorem owns_keys {P : Program} {kt r clk : Nat} {l : List (En ByteArray)} {w : World} (hk : P.underlying kt = some .string) (hr : w.heap[r]? = some (.map (entsX Value.string l) clk)) (hl : l.length ≤ maxLen) (hs : ∀ e ∈ l, e.k.size ≤ maxLen) (hst : ∀ e ∈ l, e.s < clk) (hsn : (l.map En.s).Nodup) (hnd : (l.map En.k).Nodup) :
    w.ownsMap P kt anyR r l.length (keysD l) ∧ (l.map fun e => e.k.data.toList).Perm (strKeys (keysD l)) ∧ Go.Maps.size (keysD l) = l.length := by
  have hkey : ∀ s : ByteArray, s.size ≤ maxLen → keyOf P kt (.string s) = some (.string s.data.toList) := fun s hs => by
    unfold keyOf
    rw [hk]
    simp only [mapKey, hk]
    rw [if_pos hs]
  have hrd : ∀ e ∈ l, Go.WideElems.rd P kt anyR (⟨.string e.k, e.v, e.s⟩ : MapEntry) = some (.string e.k.data.toList, .lit (.bool true)) := fun e he => by
    unfold Go.WideElems.rd
    rw [hkey e.k (hs e he)]; rfl
  have hmem : ∀ x, x ∈ (entsX Value.string l).toList ↔ ∃ e ∈ l, (⟨.string e.k, e.v, e.s⟩ : MapEntry) = x := fun x => by simp [entsX]
  have hkeyinj : ∀ {a b : ByteArray}, a.data.toList = b.data.toList → a = b := fun {a b} h => by
    cases a; cases b
    simp only [ByteArray.mk.injEq]
    exact Array.ext' h
  have hfit : Go.WideElems.Fit P kt anyR (entsX Value.string l) clk := by
    refine ⟨by simpa [entsX] using hl, ⟨fun x hx => ?_, ?_, ?_⟩, fun x hx => ?_⟩
    · obtain ⟨e, he, rfl⟩ := (hmem x).1 hx
      exact hst e he
    · have : (entsX Value.string l).toList.map (·.born) = l.map En.s := by simp [entsX]
      rw [this]; exact hsn
    · have : (entsX Value.string l).toList.map (·.key) = (l.map En.k).map Value.string := by simp [entsX]
      rw [this]
      exact (List.Pairwise.map _ (fun a b hab => fun e => hab (by cases e; rfl)) hnd)
    · obtain ⟨e, he, rfl⟩ := (hmem x).1 hx
      exact ⟨_, hrd e he⟩
  have hD : keysD l = .map (((entsX Value.string l).toList.map (Go.WideElems.rg P kt anyR)).foldr DataW.insert []) := by
    unfold keysD
    congr 2
    apply List.map_congr_left
    intro x hx
    obtain ⟨e, he, rfl⟩ := (hmem x).1 hx
    unfold Go.WideElems.rg
    rw [hrd e he]; rfl
  have hown : w.ownsMap P kt anyR r l.length (keysD l) := ⟨_, clk, hr, hfit, by simp [entsX], hD⟩
  refine ⟨hown, ?_, ?_⟩
  · obtain ⟨es, he1, hpw, -⟩ := hown.entries (Go.Maps.string_keyed hk)
    obtain ⟨es', he2, hko⟩ := hown.keysOf
    rw [he1] at he2; cases he2
    rw [he1]
    refine perm_strKeys hpw (fun p hp => by obtain ⟨v, hv⟩ := hko p hp; obtain ⟨x, _, hx, _⟩ := Go.Maps.keyOf_str hk hv; exact ⟨x, hx⟩) ?_ fun x => ?_
    · rw [show (l.map fun e => e.k.data.toList) = (l.map En.k).map fun k => k.data.toList by simp]
      exact List.Pairwise.map _ (fun a b hab => fun e => hab (hkeyinj e)) hnd
    · rw [Go.Maps.has_eq, List.any_eq_true]
      have hes : ∀ p, p ∈ es ↔ ∃ e ∈ l, (Lit.string e.k.data.toList, (DataW.lit (.bool true) : DataW Unit)) = p := fun p => by
        have : (DataW.map es : DataW Unit) = .map (((entsX Value.string l).toList.map fun x => ((match x.key with | .string s => .string s.data.toList | _ => .bool false : Lit), (DataW.lit (.bool true) : DataW Unit))).foldr DataW.insert []) := he1.symm
        injection this with this
        rw [this, mem_sorted, List.mem_map]
        constructor
        · rintro ⟨x, hx, rfl⟩
          obtain ⟨e, he, rfl⟩ := (hmem x).1 hx
          exact ⟨e, he, rfl⟩
        · rintro ⟨e, he, rfl⟩
          exact ⟨_, (hmem _).2 ⟨e, he, rfl⟩, rfl⟩
      rw [List.mem_map]
      constructor
      · rintro ⟨e, he, rfl⟩
        exact ⟨_, (hes _).2 ⟨e, he, rfl⟩, by simp [Lit.sameKey]⟩
      · rintro ⟨p, hp, hsk⟩
        obtain ⟨e, he, rfl⟩ := (hes p).1 hp
        exact ⟨e, he, by simpa [Lit.sameKey] using hsk⟩
  · unfold keysD
    rw [Go.Maps.size_eq]
    have := (Go.WideShapes.sorted_perm ((entsX Value.string l).toList.map fun x => ((match x.key with | .string s => .string s.data.toList | _ => .bool false : Lit), (DataW.lit (.bool true) : DataW Unit)))).length_eq
    rw [this]
    simp [entsX]
theorem sort_keys {l : List ByteArray} {ss : List (List UInt8)} (h : ss.Perm (l.map fun k => k.data.toList)) : ss.mergeSort leB = (sortS l).map fun k => k.data.toList := by
  rw [mergeSort_of_perm h]
  unfold sortS
  exact (List.map_mergeSort (r := fun x y : ByteArray => decide (x.data.toList ≤ y.data.toList)) (s := leB) (f := fun k : ByteArray => k.data.toList) (fun a _ b _ => rfl)).symm

section
variable {P : Program} {tkr : Nat → Option Nat} {ops : Array Oper} {K : St → Prop} {i : Nat} {rest : List Oper} {d : Nat} {T : Nat → AVal} {M : Mem} {ty : TypeId} {pos : String} {af : Array Edge} {x y : Operand} {ats : Array TypeId}
/-- A value is put into an interface. -/
theorem x_iface {t : TypeId} {v : Value} {u : TypeDesc} (hu : P.underlying t = some u) (hi : ∀ ms, u ≠ .interface ms) (hx : ev T x = .raw v)
    (h : aOps P tkr ops K (i + 1) rest ⟨setT T d (.raw (.iface t v)), M⟩) : aOps P tkr ops K i (mkO (some d) (.makeInterface t x) ty pos af none :: rest) ⟨T, M⟩ := by
  refine o_xs rfl (.inl fun ρ w h1 h2 _ => .inl ⟨.iface t v, _, ?_, Fixed.raw _, h⟩)
  have e1 : ρ x = v := h1 x (by simp [Op.operands]) _ (by rw [hx]; rfl)
  refine run_val (s := Instr.makeInterface t (ρ x)) ?_
  rw [e1]
  show ((underlying t) >>= _).run P w = _
  rw [run_bind_pr (pr_underlying hu)]
  cases u <;> first | rfl | exact absurd rfl (hi _)
/-- And taken out again. -/
theorem x_assert {t xt kt et : TypeId} {v : Value} (hu : P.underlying t = some (.map kt et)) (hx : ev T x = .raw (.iface t v))
    (h : aOps P tkr ops K (i + 1) rest ⟨setT T d (.raw v), M⟩) : aOps P tkr ops K i (mkO (some d) (.typeAssert x xt t false) ty pos af none :: rest) ⟨T, M⟩ := by
  refine o_xs rfl (.inl fun ρ w h1 h2 _ => .inl ⟨v, _, ?_, Fixed.raw _, h⟩)
  have e1 : ρ x = .iface t v := h1 x (by simp [Op.operands]) _ (by rw [hx]; rfl)
  refine run_val (s := Instr.typeAssert (ρ x) xt t false) ?_
  rw [e1]
  unfold Instr.typeAssert
  show ((underlying t) >>= _).run P w = _
  rw [run_bind_pr (pr_underlying hu)]
  show (if t = t then _ else _ : Sem Value).run P w = _
  rw [if_pos rfl]; rfl
theorem pr_mapnil {t kt et : TypeId} {p : Option Nat} (hu : P.underlying t = some (.map kt et)) : pr P (Op.equal t (.map p) (.map none)) = some p.isNone := by
  show pr P (underlying t >>= _) = _
  rw [pr_b, pr_underlying hu]
  cases p <;> rfl
/-- A map is held against nil. -/
theorem q_meql {t t' kt et : TypeId} {p : Option Nat} {dst : Option Nat} {g : Option (Nat × Bool)} (hu : P.underlying t = some (.map kt et)) (hx : ev T x = .raw (.map p)) (hy : ev T y = .raw (.map none)) : qstep P none (mkO dst (.binOp .eql t x y t') ty pos af g) T M = some (⟨none, .raw (.bool p.isNone)⟩, []) := by
  refine q_bin' hx hy ?_
  show (pr P (Op.equal t (.map p) (.map none) >>= _)).map AVal.raw = _
  rw [pr_b, pr_mapnil hu]; rfl
/-- The model's own copy of a map. -/
theorem x_clone {f : FuncId} {fn : Func} {t : TypeId} {r clk : Nat} {es : Array MapEntry} (hf : P.funcs[f]? = some fn) (hname : (fn.name == "runtime.NumGoroutine") = false) (hb : fn.body.isNone = true) (hn : Extern.findNext fn = none) (he : Extern.find fn = some Extern.MapsClone.clone)
    (hx : ev T x = .raw (.iface t (.map (some r)))) (hM : M r = some (.it (.map es clk)))
    (h : ∀ b, M b = none → aOps P tkr ops K (i + 1) rest ⟨setT T d (.raw (.iface t (.map (some b)))), M.upd b (.it (.map es clk))⟩) : aOps P tkr ops K i (mkO (some d) (.call { callee := .value (.func f), args := #[x], argTypes := ats }) ty pos af none :: rest) ⟨T, M⟩ := by
  refine o_xs rfl (.inl fun ρ w h1 h2 h3 => .inr (.inr (.inr ⟨.iface t (.map (some w.heap.size)), .map es clk, (fun _ _ _ h => by cases h), ?_, h _ h3.1⟩)))
  have e1 : ρ x = .iface t (.map (some r)) := h1 x (by simp [Op.operands, Call.operands]) _ (by rw [hx]; rfl)
  have e0 : ρ (.func f) = .func (.func f) #[] #[] := h1 (.func f) (by simp [Op.operands, Call.operands]) _ rfl
  show ((Deferred.ofValue (ρ (.func f)) (#[x].map ρ)) >>= fun d => invoke d.target d.args).run P w = _
  rw [show (#[x] : Array Operand).map ρ = #[ρ x] by simp, e0, e1]
  show (callFunc f #[.iface t (.map (some r))]).run P w = _
  have h4 : fn.name ≠ "runtime.NumGoroutine" := by simpa using hname
  have h5 : fn.body = none := by simpa using hb
  have hrun : (Extern.MapsClone.clone #[.iface t (.map (some r))]).run P w = .ok (.iface t (.map (some w.heap.size))) (Am.push w (.map es clk)) := by
    show ((getObj r) >>= _).run P w = _
    rw [run_getObj (h2 r _ hM)]; rfl
  unfold callFunc
  rw [Sem.run_bind, run_program, Result.andThen_ok, hf]
  simp only [hname, hb, Bool.false_eq_true, if_false, if_true]
  show (Sem.mark _ _).run P w = _
  simp only [Sem.run, hn, he]
  exact run_val hrun
end
end Go.Am
