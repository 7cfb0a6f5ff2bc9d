import Derived.Test.YtkjdclhhmgjfbaaAmD
/-! Maps from texts, known to the last, told by what they hold. -/
namespace Go.Am
set_option linter.unusedVariables false
set_option linter.unusedSimpArgs false
set_option linter.unusedSectionVars false
section
variable {P : Program} {tkr : Nat → Option Nat} {ops : Array Oper} {K : St → Prop} {i : Nat} {rest : List Oper} {d : Nat} {T : Nat → AVal} {M : Mem} {ty mt kt et : TypeId} {pos : String} {af : Array Edge} {x y z : Operand} {ats : Array TypeId}
  {α : Type} [DecidableEq α] {ek : α → Value} {r clk : Nat} {l : List (En α)} {k : α}
/-- What is looked up, and whether it is there. -/
theorem x_lookup2 {zv : Value} (hu : P.underlying mt = some (.map kt et)) (hk : KeyT P kt ek) (hz : zeroT P et = some zv) (hm : ev T x = .raw (.map (some r))) (hy : rawOf (ev T y) = some (ek k)) (hM : M r = some (.it (.map (entsX ek l) clk)))
    (h : aOps P tkr ops K (i + 1) rest ⟨setT T d (.tup [.raw (((enGet l k).map En.v).getD zv), .raw (.bool (enGet l k).isSome)]), M⟩) : aOps P tkr ops K i (mkO (some d) (.lookup mt x y true) ty pos af none :: rest) ⟨T, M⟩ := by
  refine o_xs rfl (.inl fun ρ w h1 h2 _ => .inl ⟨.tuple #[((enGet l k).map En.v).getD zv, .bool (enGet l k).isSome], _, ?_, Fixed.tup rfl (fun i X x g1 g2 => ?_), h⟩)
  · have e1 : ρ x = .map (some r) := h1 x (by simp [Op.operands]) _ (by rw [hm]; rfl)
    have e2 : ρ y = ek k := h1 y (by simp [Op.operands]) _ hy
    refine run_val (s := Instr.lookup mt (ρ x) (ρ y) true) ?_
    rw [e1, e2]
    show ((underlying mt) >>= _).run P w = _
    rw [run_bind_pr (pr_underlying hu)]
    show ((getObj r) >>= _).run P w = _
    rw [run_getObj (h2 r _ hM)]
    show ((Instr.checkKey (entsX ek l).isEmpty 10000 kt (ek k)) >>= _).run P w = _
    rw [run_bind_pr (hk.check _ _)]
    show ((Instr.findKey kt (ek k) (entsX ek l).toList) >>= _).run P w = _
    have hf := enX_find (P := P) (kt := kt) (ek := ek) (l := l) (k := k) hk
    cases hi : enIdx l k with
    | none =>
      rw [hi] at hf
      rw [run_bind_pr hf, enIdx_none hi]
      show ((zeroValue et) >>= _).run P w = _
      rw [run_bind_pr (pr_zeroT hz)]; rfl
    | some j =>
      obtain ⟨e, he, hek, hget⟩ := enIdx_some hi
      rw [hi] at hf
      rw [run_bind_pr hf, hget]
      simp only [Option.map_some, he, Option.getD_some]; rfl
  · match i, g1, g2 with
    | 0, g1, g2 => cases g1; cases g2; exact ⟨Fixed.raw _, fun _ _ h => by cases h⟩
    | 1, g1, g2 => cases g1; cases g2; exact ⟨Fixed.raw _, fun _ _ h => by cases h⟩
    | i + 2, g1, _ => simp at g1
/-- How many entries there are. -/
theorem x_maplen (h0 : ats[0]? = some mt) (hu : P.underlying mt = some (.map kt et)) (hm : ev T x = .raw (.map (some r))) (hM : M r = some (.it (.map (entsX ek l) clk)))
    (h : aOps P tkr ops K (i + 1) rest ⟨setT T d (.raw (.int .i64 l.length)), M⟩) : aOps P tkr ops K i (mkO (some d) (.call { callee := .builtin .len, args := #[x], argTypes := ats }) ty pos af none :: rest) ⟨T, M⟩ := by
  refine o_xs rfl (.inl fun ρ w h1 h2 _ => .inl ⟨.int .i64 l.length, _, ?_, Fixed.raw _, h⟩)
  have e1 : ρ x = .map (some r) := h1 x (by simp [Op.operands, Call.operands]) _ (by rw [hm]; rfl)
  have hrun : (Builtin.len_ ats ty #[ρ x]).run P w = .ok (.int .i64 l.length) w := by
    rw [e1]
    simp only [Builtin.len_, h0, List.getElem?_toArray, List.getElem?_cons_zero]
    show ((underlying mt) >>= _).run P w = _
    rw [run_bind_pr (pr_underlying hu)]
    show ((getObj r) >>= _).run P w = _
    rw [run_getObj (h2 r _ hM)]
    show Result.ok (goInt (entsX ek l).size) w = _
    have : (entsX ek l).size = l.length := by simp [entsX]
    rw [this]; rfl
  unfold execOp
  show (do let v ← Builtin.len_ ats ty (#[x].map ρ); pure (Go.Next.value v)).run P w = _
  rw [show (#[x] : Array Operand).map ρ = #[ρ x] by simp]
  exact run_val hrun
/-- A key that is not there is taken away. -/
theorem x_deleteNo (h0 : ats[0]? = some mt) (hu : P.underlying mt = some (.map kt et)) (hk : KeyT P kt ek) (hm : ev T x = .raw (.map (some r))) (hy : rawOf (ev T y) = some (ek k)) (hM : M r = some (.it (.map (entsX ek l) clk))) (hj : enIdx l k = none) {dst : Option Nat}
    (h : aOps P tkr ops K (i + 1) rest (Eff.apply ⟨none, M.upd r (.it (.map (entsX ek l) clk)), .raw (.tuple #[])⟩ ⟨T, M⟩ dst)) : aOps P tkr ops K i (mkO dst (.call { callee := .builtin .delete, args := #[x, y], argTypes := ats }) ty pos af none :: rest) ⟨T, M⟩ := by
  refine o_xs rfl (.inl fun ρ w h1 h2 _ => .inr (.inl ⟨.tuple #[], .raw (.tuple #[]), r, _, .map (entsX ek l) clk, w.drawn, hM, (fun _ _ _ => ⟨(fun h => by cases h), fun h => by cases h⟩), ?_, Fixed.raw _, h⟩))
  have e1 : ρ x = .map (some r) := h1 x (by simp [Op.operands, Call.operands]) _ (by rw [hm]; rfl)
  have e2 : ρ y = ek k := h1 y (by simp [Op.operands, Call.operands]) _ hy
  have hw := h2 r _ hM
  have hrun : (Builtin.delete_ ats ty #[ρ x, ρ y]).run P w = .ok (.tuple #[]) (putObj w r (.map (entsX ek l) clk)) := by
    rw [e1, e2]
    have hf := enX_find (P := P) (kt := kt) (ek := ek) (l := l) (k := k) hk
    rw [hj] at hf
    simp only [Builtin.delete_, h0, List.getElem?_toArray, List.getElem?_cons_zero, List.getElem?_cons_succ]
    show ((underlying mt) >>= _).run P w = _
    rw [run_bind_pr (pr_underlying hu)]
    show ((getObj r) >>= _).run P w = _
    rw [run_getObj hw]
    show ((Instr.checkKey (entsX ek l).isEmpty 10000 kt (ek k)) >>= _).run P w = _
    rw [run_bind_pr (hk.check _ _)]
    show ((Instr.findKey kt (ek k) (entsX ek l).toList) >>= _).run P w = _
    rw [run_bind_pr hf]
    show ((setObj r (.map (entsX ek l) clk)) >>= _).run P w = _
    rw [Sem.run_bind, run_setMap hw (fun _ _ _ h => by cases h)]; rfl
  unfold execOp
  show (do let v ← Builtin.delete_ ats ty (#[x, y].map ρ); pure (Go.Next.value v)).run P w = _
  rw [show (#[x, y] : Array Operand).map ρ = #[ρ x, ρ y] by simp]
  exact run_val hrun
end

section
variable {β : Type}
def gets (dir : List (ByteArray × β)) (k : ByteArray) : Option β := (dir.find? fun p => p.1 = k).map (·.2)
def ins (dir : List (ByteArray × β)) (k : ByteArray) (v : β) : List (ByteArray × β) :=
  match dir.findIdx? (fun p => p.1 = k) with
  | some j => dir.set j (k, v)
  | none => dir ++ [(k, v)]
def del (dir : List (ByteArray × β)) (k : ByteArray) : List (ByteArray × β) :=
  match dir.findIdx? (fun p => p.1 = k) with
  | some j => dir.eraseIdx j
  | none => dir
def pairE (e : En ByteArray) : ByteArray × Value := (e.k, e.v)
/-- A map that holds just this. -/
structure MapIs (g : β → Value) (M : Mem) (r clk : Nat) (lf : List (En ByteArray)) (dir : List (ByteArray × β)) : Prop where
  hM : M r = some (.it (.map (entsX Value.string lf) clk))
  hl : lf.map pairE = dir.map fun p => (p.1, g p.2)
  st : ∀ e ∈ lf, e.s < clk
  sn : (lf.map En.s).Nodup
  nd : (dir.map (·.1)).Nodup
def MapAt (g : β → Value) (M : Mem) (r : Nat) (dir : List (ByteArray × β)) : Prop := ∃ clk lf, MapIs g M r clk lf dir
variable {g : β → Value} {M M' : Mem} {r clk : Nat} {lf : List (En ByteArray)} {dir : List (ByteArray × β)} {k : ByteArray} {v : β}
theorem MapAt.keep (h : MapAt g M r dir) (hr : M' r = M r) : MapAt g M' r dir := by
  obtain ⟨clk, lf, h⟩ := h
  exact ⟨clk, lf, { h with hM := by rw [hr]; exact h.hM }⟩
theorem MapAt.some (h : MapAt g M r dir) : M r ≠ none := by
  obtain ⟨clk, lf, h⟩ := h
  rw [h.hM]; exact fun h => by cases h
theorem MapIs.keys (h : MapIs g M r clk lf dir) : lf.map En.k = dir.map (·.1) := by
  have := congrArg (List.map Prod.fst) h.hl
  simpa [List.map_map, Function.comp_def, pairE] using this
theorem MapIs.idx (h : MapIs g M r clk lf dir) (k : ByteArray) : enIdx lf k = dir.findIdx? fun p => p.1 = k := by
  have e1 : enIdx lf k = (lf.map pairE).findIdx? fun p => p.1 = k := by rw [List.findIdx?_map]; rfl
  rw [e1, h.hl, List.findIdx?_map]; rfl
theorem MapIs.get (h : MapIs g M r clk lf dir) (k : ByteArray) : (enGet lf k).map En.v = (gets dir k).map g := by
  have e1 : (enGet lf k).map pairE = (lf.map pairE).find? fun p => p.1 = k := by rw [List.find?_map]; rfl
  have e2 : (enGet lf k).map En.v = ((enGet lf k).map pairE).map Prod.snd := by rw [Option.map_map]; rfl
  rw [e2, e1, h.hl, List.find?_map, Option.map_map]
  unfold gets
  rw [Option.map_map]; rfl
theorem MapIs.len (h : MapIs g M r clk lf dir) : lf.length = dir.length := by
  have := congrArg List.length h.hl
  simpa using this
theorem nodup_set {l : List (ByteArray × β)} {j : Nat} {k : ByteArray} {v : β} (hj : l.findIdx? (fun p => p.1 = k) = some j) : (l.set j (k, v)).map (·.1) = l.map (·.1) := by
  obtain ⟨hlt, hp, -⟩ := List.findIdx?_eq_some_iff_getElem.1 hj
  have hp' : l[j].1 = k := by simpa using hp
  rw [List.map_set]
  exact set_self (by rw [List.getElem?_map, List.getElem?_eq_getElem hlt]; simp [hp'])
theorem idx_no {l : List (ByteArray × β)} {k : ByteArray} (hj : l.findIdx? (fun p => p.1 = k) = none) : ∀ p ∈ l, p.1 ≠ k := fun p hp => by
  have := List.findIdx?_eq_none_iff.1 hj p hp
  simpa using this
theorem ins_nd (h : (dir.map (·.1)).Nodup) (k : ByteArray) (v : β) : ((ins dir k v).map (·.1)).Nodup := by
  unfold ins
  cases hj : dir.findIdx? (fun p => p.1 = k) with
  | some j => dsimp only; rw [nodup_set hj]; exact h
  | none =>
    dsimp only
    rw [List.map_append, List.nodup_append]
    refine ⟨h, by simp, fun a ha b hb => ?_⟩
    obtain ⟨p, hp, rfl⟩ := List.mem_map.1 ha
    rw [List.mem_singleton.1 hb]
    exact idx_no hj p hp
theorem del_nd (h : (dir.map (·.1)).Nodup) (k : ByteArray) : ((del dir k).map (·.1)).Nodup := by
  unfold del
  split
  · exact ((List.eraseIdx_sublist _ _).map _).nodup h
  · exact h
end

section
variable {P : Program} {tkr : Nat → Option Nat} {ops : Array Oper} {K : St → Prop} {i : Nat} {rest : List Oper} {d : Nat} {T : Nat → AVal} {M : Mem} {ty mt kt et : TypeId} {pos : String} {af : Array Edge} {x y z : Operand} {ats : Array TypeId}
  {β : Type} {g : β → Value} {r : Nat} {dir : List (ByteArray × β)} {k : ByteArray} {v : β}
theorem m_get {zv : Value} (hu : P.underlying mt = some (.map kt et)) (hk : KeyT P kt Value.string) (hz : zeroT P et = some zv) (hm : ev T x = .raw (.map (some r))) (hy : rawOf (ev T y) = some (.string k)) (hM : MapAt g M r dir)
    (h : aOps P tkr ops K (i + 1) rest ⟨setT T d (.raw (((gets dir k).map g).getD zv)), M⟩) : aOps P tkr ops K i (mkO (some d) (.lookup mt x y false) ty pos af none :: rest) ⟨T, M⟩ := by
  obtain ⟨clk, lf, hM⟩ := hM
  refine x_lookup (k := k) hu hk hz hm hy hM.hM ?_
  rw [hM.get]; exact h
theorem m_get2 {zv : Value} (hu : P.underlying mt = some (.map kt et)) (hk : KeyT P kt Value.string) (hz : zeroT P et = some zv) (hm : ev T x = .raw (.map (some r))) (hy : rawOf (ev T y) = some (.string k)) (hM : MapAt g M r dir)
    (h : aOps P tkr ops K (i + 1) rest ⟨setT T d (.tup [.raw (((gets dir k).map g).getD zv), .raw (.bool (gets dir k).isSome)]), M⟩) : aOps P tkr ops K i (mkO (some d) (.lookup mt x y true) ty pos af none :: rest) ⟨T, M⟩ := by
  obtain ⟨clk, lf, hM⟩ := hM
  refine x_lookup2 (k := k) hu hk hz hm hy hM.hM ?_
  have : (enGet lf k).isSome = (gets dir k).isSome := by
    have := congrArg Option.isSome (hM.get k)
    simpa using this
  rw [hM.get, this]; exact h
theorem m_len (h0 : ats[0]? = some mt) (hu : P.underlying mt = some (.map kt et)) (hm : ev T x = .raw (.map (some r))) (hM : MapAt g M r dir)
    (h : aOps P tkr ops K (i + 1) rest ⟨setT T d (.raw (.int .i64 dir.length)), M⟩) : aOps P tkr ops K i (mkO (some d) (.call { callee := .builtin .len, args := #[x], argTypes := ats }) ty pos af none :: rest) ⟨T, M⟩ := by
  obtain ⟨clk, lf, hM⟩ := hM
  refine x_maplen h0 hu hm hM.hM ?_
  rw [hM.len]; exact h
theorem m_put (hu : P.underlying mt = some (.map kt et)) (hk : KeyT P kt Value.string) (hm : ev T x = .raw (.map (some r))) (hy : rawOf (ev T y) = some (.string k)) (hv : rawOf (ev T z) = some (g v)) (hM : MapAt g M r dir)
    (h : ∀ o, MapAt g (M.upd r o) r (ins dir k v) → aOps P tkr ops K (i + 1) rest ⟨T, M.upd r o⟩) : aOps P tkr ops K i (mkO none (.mapUpdate mt x y z) ty pos af none :: rest) ⟨T, M⟩ := by
  obtain ⟨clk, lf, hM⟩ := hM
  have hidx := hM.idx k
  cases hj : enIdx lf k with
  | some j =>
    obtain ⟨e, he, hek, -⟩ := enIdx_some hj
    rw [hj] at hidx
    refine x_updOld (k := k) hu hk hm hy hv hM.hM hj he (h _ ⟨clk, lf.set j ⟨e.k, g v, e.s⟩, Mem.upd_self _ _ _, ?_, fun e' he' => ?_, ?_, ins_nd hM.nd k v⟩)
    · unfold ins
      rw [← hidx]
      dsimp only
      rw [List.map_set, List.map_set, hM.hl, hek]; rfl
    · rcases List.mem_or_eq_of_mem_set he' with h | h
      · exact hM.st e' h
      · rw [h]; exact hM.st e (List.mem_of_getElem? he)
    · rw [List.map_set]
      rw [show (lf.map En.s).set j (⟨e.k, g v, e.s⟩ : En ByteArray).s = lf.map En.s from set_self (by rw [List.getElem?_map, he]; rfl)]
      exact hM.sn
  | none =>
    rw [hj] at hidx
    refine x_updNew (k := k) hu hk hm hy hv hM.hM hj (h _ ⟨clk + 1, lf ++ [⟨k, g v, clk⟩], Mem.upd_self _ _ _, ?_, fun e' he' => ?_, ?_, ins_nd hM.nd k v⟩)
    · unfold ins
      rw [← hidx]
      dsimp only
      rw [List.map_append, List.map_append, hM.hl]; rfl
    · rcases List.mem_append.1 he' with h | h
      · have := hM.st e' h; omega
      · rw [List.mem_singleton.1 h]; show clk < clk + 1; omega
    · rw [List.map_append, List.nodup_append]
      refine ⟨hM.sn, by simp, fun a ha b hb => ?_⟩
      obtain ⟨e, he, rfl⟩ := List.mem_map.1 ha
      rw [List.mem_singleton.1 hb]
      have := hM.st e he
      show e.s ≠ clk
      omega
theorem m_del (h0 : ats[0]? = some mt) (hu : P.underlying mt = some (.map kt et)) (hk : KeyT P kt Value.string) (hm : ev T x = .raw (.map (some r))) (hy : rawOf (ev T y) = some (.string k)) (hM : MapAt g M r dir) {dst : Option Nat}
    (h : ∀ o, MapAt g (M.upd r o) r (del dir k) → aOps P tkr ops K (i + 1) rest (Eff.apply ⟨none, M.upd r o, .raw (.tuple #[])⟩ ⟨T, M⟩ dst)) : aOps P tkr ops K i (mkO dst (.call { callee := .builtin .delete, args := #[x, y], argTypes := ats }) ty pos af none :: rest) ⟨T, M⟩ := by
  obtain ⟨clk, lf, hM⟩ := hM
  have hidx := hM.idx k
  cases hj : enIdx lf k with
  | some j =>
    rw [hj] at hidx
    refine x_delete (k := k) h0 hu hk hm hy hM.hM hj (h _ ⟨clk, lf.eraseIdx j, Mem.upd_self _ _ _, ?_, fun e' he' => hM.st e' ((List.eraseIdx_sublist _ _).subset he'), ((List.eraseIdx_sublist _ _).map _).nodup hM.sn, del_nd hM.nd k⟩)
    unfold del
    rw [← hidx]
    dsimp only
    have e : ∀ {γ δ : Type} (f : γ → δ) (l : List γ), (l.eraseIdx j).map f = (l.map f).eraseIdx j := fun f l => by
      apply List.ext_getElem?
      intro q
      simp only [List.getElem?_map, List.getElem?_eraseIdx]
      split <;> rfl
    rw [e, e, hM.hl]
  | none =>
    rw [hj] at hidx
    refine x_deleteNo (k := k) h0 hu hk hm hy hM.hM hj (h _ ⟨clk, lf, Mem.upd_self _ _ _, ?_, hM.st, hM.sn, del_nd hM.nd k⟩)
    unfold del
    rw [← hidx]
    exact hM.hl
theorem m_make (h : ∀ b o, M b = none → MapAt g (M.upd b o) b ([] : List (ByteArray × β)) → aOps P tkr ops K (i + 1) rest ⟨setT T d (.raw (.map (some b))), M.upd b o⟩) : aOps P tkr ops K i (mkO (some d) (.makeMap mt none) ty pos af none :: rest) ⟨T, M⟩ :=
  x_makeMap (ek := Value.string) fun b hb => h b _ hb ⟨0, [], Mem.upd_self _ _ _, rfl, (fun e he => by cases he), List.nodup_nil, List.nodup_nil⟩
end
end Go.Am

/-! Bytes in memory: what is appended may be a text. -/
namespace Go.Am
set_option linter.unusedVariables false
set_option linter.unusedSimpArgs false
set_option linter.unusedSectionVars false
def u8 (b : UInt8) : AVal := .raw (.int .u8 b.toNat)
theorem u8_ok (a : UInt8) : (u8 a).shut = u8 a ∧ (u8 a).cells = [u8 a] ∧ (u8 a).ok = true ∧ (u8 a).unit = true := ⟨rfl, rfl, rfl, rfl⟩
/-- Bytes in a slice. -/
def Bs (M : Mem) (v : Value) (l : List UInt8) : Prop := (∃ base, v = .slice base 0 0 ∧ okB base ∧ l = []) ∨ ∃ b, ∃ cs : List UInt8, v = .slice (some ⟨b, 0, none⟩) l.length cs.length ∧ M b = some (.cells (cs.map u8)) ∧ cs.take l.length = l
theorem Bs.keep {M M' : Mem} {v : Value} {l : List UInt8} (h : Bs M v l) (hb : ∀ b, (∃ n c, v = .slice (some ⟨b, 0, none⟩) n c) → M b ≠ none → M' b = M b) : Bs M' v l := by
  rcases h with h | ⟨b, cs, rfl, h1, h2⟩
  · exact .inl h
  · exact .inr ⟨b, cs, rfl, by rw [hb b ⟨_, _, rfl⟩ (by rw [h1]; exact fun h => by cases h)]; exact h1, h2⟩
theorem Bs.len {M : Mem} {v : Value} {l : List UInt8} (h : Bs M v l) : ∃ base c, v = .slice base l.length c := by
  rcases h with ⟨base, rfl, -, rfl⟩ | ⟨b, cs, rfl, -, -⟩
  · exact ⟨base, 0, rfl⟩
  · exact ⟨_, _, rfl⟩
theorem Bs.le {M : Mem} {b n c : Nat} {cs l : List UInt8} (h : cs.take l.length = l) : l.length ≤ cs.length := by
  have := congrArg List.length h
  rw [List.length_take] at this
  omega
section
variable {P : Program} {tkr : Nat → Option Nat} {ops : Array Oper} {K : St → Prop} {i : Nat} {rest : List Oper} {d : Nat} {dst : Option Nat} {T : Nat → AVal} {M : Mem} {ty st e xt : TypeId} {pos : String} {af : Array Edge} {x y z : Operand} {ats : Array TypeId} {g : Option (Nat × Bool)}
theorem src_bs {v : Value} {l : List UInt8} (h : Bs M v l) (hy : ev T y = .raw v) : srcM M (ev T y) = some (.sl (l.map u8) false) := by
  rw [hy]
  rcases h with ⟨base, rfl, -, rfl⟩ | ⟨b, cs, rfl, h1, h2⟩
  · rfl
  · have := Bs.le (M := M) (b := b) (n := 0) (c := 0) h2
    have := src_off (f := u8) (T := fun _ => .raw (.slice (some ⟨b, 0, none⟩) l.length cs.length)) (y := .tmp 0) (M := M) (fun a => (u8_ok a).1) h1 (.inr (by omega)) rfl
    rw [List.drop_zero, h2] at this
    exact this
/-- What is appended, as bytes. -/
def SrcB (P : Program) (ats : Array TypeId) (M : Mem) (Y : AVal) (m : List UInt8) : Prop := ∃ Y', srcM M Y = some Y' ∧ ∀ l : List UInt8, l.length + m.length ≤ 2 ^ 47 → aAppend P ats (.sl (l.map u8) true) Y' = some (l.map u8 ++ m.map u8)
theorem els_u8 {l : List UInt8} : Els 1 (l.map u8) := Els.map fun _ => ⟨rfl, rfl⟩
theorem srcb_bs {v : Value} {m : List UInt8} (ht : SlT P st e 1 1) (h0 : ats[0]? = some st) (h1 : ats[1]? = some st) (h : Bs M v m) (hy : ev T y = .raw v) : SrcB P ats M (ev T y) m :=
  ⟨_, src_bs h hy, fun l hl => aAppend_eq ht h0 h1 els_u8 els_u8 (by simpa using hl)⟩
theorem srcb_str {s : ByteArray} (ht : SlT P st e 1 1) (h0 : ats[0]? = some st) (h1 : ats[1]? = some xt) (hx : P.underlying xt = some .string) (hy : ev T y = .raw (.string s)) : SrcB P ats M (ev T y) s.data.toList := by
  refine ⟨.raw (.string s), by rw [hy]; rfl, fun l hl => ?_⟩
  obtain ⟨z, hz, hzs⟩ := ht.zs
  have hsp : spread (.raw (.string s)) = some (s.data.toList.map u8) := rfl
  have e1 : ((l.map u8).all fun V => V.cells.length == 1) = true := List.all_eq_true.2 fun V hV => by simp [(els_u8 V hV).2]
  have e2 : ((s.data.toList.map u8).all fun V => V.ok && V.cells.length == 1) = true := List.all_eq_true.2 fun V hV => by simp [(els_u8 V hV).1, (els_u8 V hV).2]
  simp only [aAppend, h0, h1, ht.u, hx, isRow, ht.s, ht.b, hz, hsp, hzs, e1, e2]
  rw [if_neg (by decide), if_pos ⟨trivial, by decide, by simpa using hl, trivial, trivial⟩]

/-- An append onto nothing. -/
theorem o_appe {m : List UInt8} {M0 : Mem} (ht : SlT P st e 1 1) (h0 : ats[0]? = some st) (hz : zeroCellsT P e = some [u8 0]) (hx : emptyX (ev T x)) (hle : M0.le M) (hy : SrcB P ats M (ev T y) m) (hlen : m.length ≤ 2 ^ 47)
    (k : ∀ v' M', Bs M' v' m → M0.le M' → (∀ b, (∃ n c, v' = .slice (some ⟨b, 0, none⟩) n c ∧ M' b ≠ none ∧ c ≠ 0) → M0 b = none) → aOps P tkr ops K (i + 1) rest ⟨setT T d (.raw v'), M'⟩) :
    aOps P tkr ops K i (mkO (some d) (.call { callee := .builtin .append, args := #[x, y], argTypes := ats }) ty pos af none :: rest) ⟨T, M⟩ := by
  obtain ⟨Y', hY, happ⟩ := hy
  have hleU : ∀ {b : Nat} {o : AObj}, M0 b = none → M0.le (M.upd b o) := fun {b o} hb c o' hc => (Mem.upd_ne (fun e => by rw [e, hb] at hc; cases hc) rfl).trans (hle c o' hc)
  have hnone : ∀ {b : Nat}, M b = none → M0 b = none := fun {b} hb => by
    cases h2 : M0 b with
    | none => rfl
    | some o => rw [hle b o h2] at hb; cases hb
  have hmap : ∀ l : List UInt8, (l.map u8).map AVal.shut = l.map u8 := fun l => shut_map (f := u8) (fun a => (u8_ok a).1) l
  refine o_xs rfl (.inr ⟨rfl, .inl ⟨Y', st, e, u8 0, hY, h0, ht.u, hz, rfl, .inl ⟨hx, m.map u8, (fun X hX => ?_), ?_, fun base' c M1 k1 k2 => ?_⟩⟩⟩)
  · obtain ⟨a, -, rfl⟩ := List.mem_map.1 hX; rfl
  · have := happ [] (by simpa using hlen)
    simpa using this
  · by_cases hm : m = []
    · subst hm
      obtain ⟨rfl, rfl, hok'⟩ := k1 rfl
      exact k _ _ (.inl ⟨base', rfl, hok', rfl⟩) hle fun b' ⟨n, c, e1, e2, e3⟩ => absurd (by cases e1; rfl) e3
    · obtain ⟨b', rfl, hb', hc, rfl⟩ := k2 (fun h => hm (List.map_eq_nil_iff.1 h))
      rw [List.length_map] at hc ⊢
      refine k _ _ (.inr ⟨b', m ++ List.replicate (c - m.length) 0, ?_, ?_, ?_⟩) (hleU (hnone hb')) fun b2 ⟨n, c', e1, e2, e3⟩ => ?_
      · simp only [List.length_append, List.length_replicate]
        rw [show m.length + (c - m.length) = c by omega]
      · exact (Mem.upd_self _ _ _).trans (by rw [hmap, List.map_append, List.map_replicate])
      · simp
      · cases e1; exact hnone hb'

/-- An append onto bytes that nobody else has. -/
theorem o_appb {v : Value} {l m : List UInt8} {M0 : Mem} (ht : SlT P st e 1 1) (h0 : ats[0]? = some st) (hz : zeroCellsT P e = some [u8 0]) (hx : ev T x = .raw v) (hB : Bs M v l) (hle : M0.le M) (hfr : ∀ b, (∃ n c, v = .slice (some ⟨b, 0, none⟩) n c ∧ M b ≠ none ∧ c ≠ 0) → M0 b = none) (hy : SrcB P ats M (ev T y) m) (hlen : l.length + m.length ≤ 2 ^ 47)
    (k : ∀ v' M', Bs M' v' (l ++ m) → M0.le M' → (∀ b, (∃ n c, v' = .slice (some ⟨b, 0, none⟩) n c ∧ M' b ≠ none ∧ c ≠ 0) → M0 b = none) → aOps P tkr ops K (i + 1) rest ⟨setT T d (.raw v'), M'⟩) :
    aOps P tkr ops K i (mkO (some d) (.call { callee := .builtin .append, args := #[x, y], argTypes := ats }) ty pos af none :: rest) ⟨T, M⟩ := by
  obtain ⟨Y', hY, happ⟩ := hy
  have hleU : ∀ {b : Nat} {o : AObj}, M0 b = none → M0.le (M.upd b o) := fun {b o} hb c o' hc => (Mem.upd_ne (fun e => by rw [e, hb] at hc; cases hc) rfl).trans (hle c o' hc)
  have hnone : ∀ {b : Nat}, M b = none → M0 b = none := fun {b} hb => by
    cases h2 : M0 b with
    | none => rfl
    | some o => rw [hle b o h2] at hb; cases hb
  have hmap : ∀ l : List UInt8, (l.map u8).map AVal.shut = l.map u8 := fun l => shut_map (f := u8) (fun a => (u8_ok a).1) l
  rcases hB with ⟨base, rfl, hok, rfl⟩ | ⟨b, cs, rfl, hb, htk⟩
  · refine o_xs rfl (.inr ⟨rfl, .inl ⟨Y', st, e, u8 0, hY, h0, ht.u, hz, rfl, .inl ⟨.inr ⟨base, hx, hok⟩, m.map u8, (fun X hX => ?_), ?_, fun base' c M1 k1 k2 => ?_⟩⟩⟩)
    · obtain ⟨a, -, rfl⟩ := List.mem_map.1 hX; rfl
    · have := happ [] (by simpa using hlen)
      simpa using this
    · by_cases hm : m = []
      · subst hm
        obtain ⟨rfl, rfl, hok'⟩ := k1 rfl
        exact k _ _ (.inl ⟨base', rfl, hok', rfl⟩) hle fun b' ⟨n, c, e1, e2, e3⟩ => absurd (by cases e1; rfl) e3
      · obtain ⟨b', rfl, hb', hc, rfl⟩ := k2 (fun h => hm (List.map_eq_nil_iff.1 h))
        rw [List.length_map] at hc ⊢
        refine k _ _ (.inr ⟨b', m ++ List.replicate (c - m.length) 0, ?_, ?_, ?_⟩) (hleU (hnone hb')) fun b2 ⟨n, c', e1, e2, e3⟩ => ?_
        · simp only [List.nil_append, List.length_append, List.length_replicate]
          rw [show m.length + (c - m.length) = c by omega]
        · exact (Mem.upd_self _ _ _).trans (by rw [hmap, List.map_append, List.map_replicate])
        · simp
        · cases e1; exact hnone hb'
  · have hll := Bs.le (M := M) (b := b) (n := 0) (c := 0) htk
    have h0b : cs.length ≠ 0 → M0 b = none := fun h => hfr b ⟨_, _, rfl, by rw [hb]; exact fun h => (by cases h), h⟩
    refine o_xs rfl (.inr ⟨rfl, .inl ⟨Y', st, e, u8 0, hY, h0, ht.u, hz, rfl, .inr ⟨b, 0, l.length, cs.length, hx, cs.map u8, m.map u8, hb, by simp, hll, ?_, fun X hX => ?_, ?_, fun hr => ?_, fun hr b' c' hb' hc' => ?_⟩⟩⟩)
    · rw [List.drop_zero, ← List.map_take, List.all_map, List.all_eq_true]
      exact fun a _ => rfl
    · obtain ⟨a, -, rfl⟩ := List.mem_map.1 hX; rfl
    · rw [List.drop_zero, ← List.map_take, htk, hmap]
      exact happ l hlen
    · rw [List.length_map] at hr ⊢
      by_cases hm : m = []
      · subst hm
        have e1 : splice (cs.map u8) (0 + l.length) ((([] : List UInt8).map u8).map AVal.shut) = cs.map u8 := by simp [splice]
        rw [e1, Mem.upd_same hb]
        refine k _ _ (.inr ⟨b, cs, by simp, hb, by simpa using htk⟩) hle fun b2 ⟨n, c', e1, e2, e3⟩ => ?_
        cases e1; exact h0b e3
      · have hc0 : cs.length ≠ 0 := by
          have : m.length ≠ 0 := fun h => hm (List.eq_nil_of_length_eq_zero h)
          omega
        have e1 : splice (cs.map u8) (0 + l.length) ((m.map u8).map AVal.shut) = (l ++ m ++ cs.drop (l.length + m.length)).map u8 := by
          rw [hmap]
          simp only [splice, Nat.zero_add, List.length_map, List.map_append, ← List.map_take, List.map_drop, htk]
        have hlen2 : (l ++ m ++ cs.drop (l.length + m.length)).length = cs.length := by simp; omega
        rw [e1]
        refine k _ _ (.inr ⟨b, l ++ m ++ cs.drop (l.length + m.length), by rw [hlen2, List.length_append], Mem.upd_self _ _ _, by rw [List.take_left]⟩) (hleU (h0b hc0)) fun b2 ⟨n, c', e1, e2, e3⟩ => ?_
        cases e1; exact h0b hc0
    · rw [List.length_map] at hr hc' ⊢
      have e1 : (((cs.map u8).drop 0).take l.length).map AVal.shut ++ (m.map u8).map AVal.shut ++ List.replicate (c' - (l.length + m.length)) (u8 0) = (l ++ m ++ List.replicate (c' - (l.length + m.length)) 0).map u8 := by
        rw [List.drop_zero, ← List.map_take, htk, hmap, hmap, List.map_append, List.map_append, List.map_replicate]
      rw [e1]
      refine k _ _ (.inr ⟨b', l ++ m ++ List.replicate (c' - (l.length + m.length)) 0, ?_, Mem.upd_self _ _ _, by rw [List.take_left]⟩) (hleU (hnone hb')) fun b2 ⟨n, c', e1, e2, e3⟩ => ?_
      · simp only [List.length_append, List.length_replicate]
        rw [show l.length + m.length + (c' - (l.length + m.length)) = c' by omega]
      · cases e1; exact hnone hb'

theorem aStr_u8 (l : List UInt8) : aStr (l.map u8) = some (.raw (.string ⟨l.toArray⟩)) := by
  unfold aStr
  have : (l.map u8).mapM u8of = some l := mapM_u8l l
  rw [this]; rfl
/-- Bytes as a text. -/
theorem o_b2sB {s' d' e5 : TypeId} {v : Value} {l : List UInt8} (hu : P.underlying s' = some (.slice e5)) (hd : P.underlying d' = some .string) (he : P.underlying e5 = some (.int .u8)) (hb : b2s P s' d' = true) (hx : ev T x = .raw v) (hB : Bs M v l) (htk : tkr i = none)
    (h : aOps P tkr ops K (i + 1) rest ⟨setT T d (.raw (.string ⟨l.toArray⟩)), M⟩) : aOps P tkr ops K i (mkO (some d) (.convert s' d' x) ty pos af none :: rest) ⟨T, M⟩ := by
  rcases hB with ⟨base, rfl, hok, rfl⟩ | ⟨b, cs, rfl, h1, h2⟩
  · refine o_xs rfl (.inl fun ρ w g1 g2 _ => .inl ⟨.string ⟨#[]⟩, _, ?_, Fixed.raw _, h⟩)
    have e1 : ρ x = .slice base 0 0 := g1 x (by simp [Op.operands]) _ (by rw [hx]; rfl)
    refine run_val (s := convert s' d' (ρ x)) ?_
    rw [e1]
    show ((underlying s') >>= _).run P w = _
    rw [run_bind_pr (pr_underlying hu)]
    show ((underlying d') >>= _).run P w = _
    rw [run_bind_pr (pr_underlying hd)]
    rcases hok with rfl | ⟨b, off, rfl⟩
    · show ((underlying e5) >>= _).run P w = _
      rw [run_bind_pr (pr_underlying he)]; rfl
    · show ((underlying e5) >>= _).run P w = _
      rw [run_bind_pr (pr_underlying he)]; rfl
  · have hle := Bs.le (M := M) (b := b) (n := 0) (c := 0) h2
    refine o_q (q_b2s (o := 0) hb hx h1 (by simpa using hle) (W := .raw (.string ⟨l.toArray⟩)) ?_ rfl) rfl rfl htk h
    rw [List.drop_zero, ← List.map_take, h2]
    exact aStr_u8 l
/-- A beginning of bytes. -/
theorem q_slb {t : TypeId} {v : Value} {l : List UInt8} {n : Nat} {hi : Option Operand} {k' : IntKind} (hu : P.underlying t = some (.slice e)) (hs : sizeT P e = some 1) (hx : ev T x = .raw v) (hB : Bs M v l) (hhi : (hi.mapM fun x => rawOf (ev T x)) = some (some (.int k' n))) (hn : n ≤ l.length) :
    ∃ v', qstep P none (mkO dst (.slice t x none hi none) ty pos af g) T M = some (⟨none, .raw v'⟩, []) ∧ Bs M v' (l.take n) ∧ ∀ b, (∃ n c, v' = .slice (some ⟨b, 0, none⟩) n c ∧ M b ≠ none ∧ c ≠ 0) → (∃ n c, v = .slice (some ⟨b, 0, none⟩) n c ∧ M b ≠ none ∧ c ≠ 0) := by
  rcases hB with ⟨base, rfl, hok, rfl⟩ | ⟨b, cs, rfl, h1, h2⟩
  · have h0 : n = 0 := by simpa using hn
    subst h0
    refine ⟨.slice base 0 0, ?_, .inl ⟨base, rfl, hok, by simp⟩, fun b hb => hb⟩
    have e1 : pr P (Instr.sliceAt t (.slice base 0 0) none (some (.int k' (0 : Nat))) none) = some (.slice base 0 0) := by
      unfold Instr.sliceAt
      rw [pr_b, pr_underlying hu]
      show pr P (Instr.slice t (.slice base 0 0) none (some (.int k' (0 : Nat))) none) = _
      unfold Instr.slice
      rw [pr_b, pr_underlying hu]
      show pr P (Instr.sliceBounds true 0 0 none (some (.int k' (0 : Nat))) none >>= _) = _
      rw [pr_b, bnd_h (Nat.le_refl 0)]
      show pr P (sizeOf e >>= _) = _
      rw [pr_b, pr_sizeT hs]; rfl
    have hlo : ((none : Option Operand).mapM fun x => rawOf (ev T x)) = some none := rfl
    have e2 : aop P T M ty (.slice t x none hi none) = some (.raw (.slice base 0 0)) := by
      simp only [aop, aSlice, hx, hlo, hhi, e1]; rfl
    simp only [qstep, e2, Option.map_some, readsOf, AVal.shut, AVal.shut1]
  · have hle := Bs.le (M := M) (b := b) (n := 0) (c := 0) h2
    have := q_slr (dst := dst) (g := g) (M := M) (ty := ty) (pos := pos) (af := af) (T := T) (x := x) (off := 0) (lo := none) (mx := none) (lo' := none) (mx' := none) hu hs hx rfl hhi rfl (bnd_h (P := P) (n := l.length) (c := cs.length) (h := n) (k := k') (by omega))
    have e0 : (if cs.length = 0 then 0 else 0 + 0 * 1) = 0 := by split <;> rfl
    rw [e0] at this
    refine ⟨_, this, .inr ⟨b, cs, ?_, h1, ?_⟩, fun b' ⟨n', c', e1, e2, e3⟩ => ?_⟩
    · simp only [Nat.sub_zero, List.length_take]
      rw [Nat.min_eq_left hn]
    · rw [List.length_take, Nat.min_eq_left hn]
      conv => rhs; rw [← h2]
      rw [List.take_take, Nat.min_eq_left hn]
    · cases e1
      exact ⟨_, _, rfl, e2, e3⟩

theorem extract_take (s : ByteArray) (n : Nat) : (s.extract 0 n).data.toList = s.data.toList.take n := by
  simp [ByteArray.data_extract]
/-- A beginning of a text. -/
theorem q_slstr {t : TypeId} {s : ByteArray} {n : Nat} {hi : Option Operand} {k' : IntKind} (hu : P.underlying t = some .string) (hx : ev T x = .raw (.string s)) (hhi : (hi.mapM fun x => rawOf (ev T x)) = some (some (.int k' n))) (hn : n ≤ s.size) :
    qstep P none (mkO dst (.slice t x none hi none) ty pos af g) T M = some (⟨none, .raw (.string (s.extract 0 n))⟩, []) := by
  have hsb : pr P (Instr.sliceBounds false s.size s.size none (some (.int k' n)) none) = some (0, n, s.size) := by
    simp only [Instr.sliceBounds, pr_bind', pr_pure, Option.bind_some, pr_sliceBound (Int.natCast_nonneg n) (show (n : Int).toNat ≤ s.size by omega), Int.toNat_natCast]
  have e1 : pr P (Instr.sliceAt t (.string s) none (some (.int k' n)) none) = some (.string (s.extract 0 n)) := by
    unfold Instr.sliceAt
    rw [pr_b, pr_underlying hu]
    show pr P (Instr.slice t (.string s) none (some (.int k' n)) none) = _
    unfold Instr.slice
    rw [pr_b, pr_underlying hu]
    show pr P (Instr.sliceBounds false s.size s.size none (some (.int k' n)) none >>= _) = _
    rw [pr_b, hsb]; rfl
  have hlo : ((none : Option Operand).mapM fun x => rawOf (ev T x)) = some none := rfl
  have e2 : aop P T M ty (.slice t x none hi none) = some (.raw (.string (s.extract 0 n))) := by
    simp only [aop, aSlice, hx, hlo, hhi, e1]; rfl
  simp only [qstep, e2, Option.map_some, readsOf, AVal.shut, AVal.shut1]
/-- An empty slice of one's own has no room. -/
theorem SoundCall.rawown {P : Program} {f : FuncId} {args : List AVal} {M : Mem} {Post Post' : AVal → Mem → Prop} (h : SoundCall P f args M Post) (hp : ∀ r M', Post r M' → Post' r M' ∨ (r = .sl [] true ∧ ∀ base, okB base → Post' (.raw (.slice base 0 0)) M')) : SoundCall P f args M Post' := fun κ w vs hs hh => (h κ w vs hs hh).mono fun _ _ ⟨v, κ', r, M', e, hq, hH, hK⟩ => by
  rcases hp r M' hq with h1 | ⟨rfl, h1⟩
  · exact ⟨v, κ', r, M', e, h1, hH, hK⟩
  · have hr := hH.tmp 0
    have hr' : Rep P κ' _ (.sl [] true) v := hr
    obtain ⟨base, rfl, hok⟩ : ∃ base, v = .slice base 0 0 ∧ okB base := by
      obtain ⟨base, e1, e2, -⟩ := empty_base (.inl rfl) hr'
      exact ⟨base, e1, e2⟩
    refine ⟨_, κ', _, M', e, h1 base hok, ?_, hK⟩
    have hput := hH.put 0 (X := .raw (.slice base 0 0)) (x := .slice base 0 0) (.raw _) fun _ _ => Spare.not_raw
    have e1 : setT (argT [AVal.sl [] true]) 0 (.raw (.slice base 0 0)) = argT [.raw (.slice base 0 0)] := by
      funext t
      unfold setT argT
      by_cases ht : t = 0
      · subst ht; rfl
      · rw [if_neg ht]
        obtain ⟨k, rfl⟩ : ∃ k, t = k + 1 := ⟨t - 1, by omega⟩
        rfl
    have e2 : (fun t => if t = 0 then Value.slice base 0 0 else (fun t => if t = 0 then Value.slice base 0 0 else undef) t) = fun t => if t = 0 then Value.slice base 0 0 else undef := by
      funext t
      by_cases ht : t = 0
      · simp [ht]
      · simp [ht]
    rw [e1, e2] at hput
    exact hput
end
section
variable {P : Program} {tkr : Nat → Option Nat} {ops : Array Oper} {K : St → Prop} {i : Nat} {rest : List Oper} {T : Nat → AVal} {M : Mem} {ty ty₁ : TypeId} {pos : String} {af : Array Edge} {x : Operand}
/-- No slice is laid into memory. -/
theorem o_store_nil {b off : Nat} {l : List AVal} (ha : ev T x = .raw (.pointer (some ⟨b, off, none⟩))) (hM : M b = some (.cells l)) (hs : sizeT P ty₁ = some 1) (hl : off + 1 ≤ l.length)
    (h : aOps P tkr ops K (i + 1) rest ⟨T, M.upd b (.cells (l.set off (.sl [] true)))⟩) : aOps P tkr ops K i (mkO none (.store ty₁ x (.const (.slice none 0 0))) ty pos af none :: rest) ⟨T, M⟩ := by
  refine o_x rfl ?_
  show estep P (tkr i) _ T M _
  unfold estep
  dsimp only
  have hV' : ev T (.const (.slice none 0 0)) = .sl [] true := rfl
  rw [ha, hV']
  unfold eStore
  simp only [hM]
  exact ⟨rfl, hs, hl, h⟩
end
end Go.Am

/-! No slice, as it was built, is one that may be appended to. -/
namespace Go.Am
set_option linter.unusedVariables false
set_option linter.unusedSimpArgs false
section
variable {P : Program} {κ : Ghost} {w : World} {T : Nat → AVal} {V : Nat → Value} {M : Mem} {b j : Nat} {l : List AVal}
theorem Holds.nilcell (h : Holds P κ T V M w) (hM : M b = some (.cells l)) (hl : l[j]? = some (.raw (.slice none 0 0))) : Holds P κ T V (M.upd b (.cells (l.set j (.sl [] true)))) w := by
  obtain ⟨c, e, fr, h1, h2, h3, h4⟩ := h.obj b _ hM
  refine h.know ⟨c, e, fr, h1, by rw [List.length_set]; exact h2, h3, fun q X x g1 g2 => ?_⟩ fun x => ?_
  · rw [List.getElem?_set] at g1
    split at g1
    · rename_i e1
      subst e1
      split at g1
      · obtain rfl := Option.some.inj g1
        have h5 := h4 j _ x hl g2
        have h6 : x = .slice none 0 0 := rep_raw h5.1
        subst h6
        refine ⟨.nil true, h5.2.1, fun b' o' hsp => ?_⟩
        rcases hsp with ⟨l', o1, c1, k1, k2, -⟩ | ⟨Vs, vs', i, X, x, k1, -⟩
        · cases k2
        · cases k1
      · cases g1
    · exact h4 q X x g1 g2
  · exact h.free_of hM x
variable {f : FuncId} {args : List AVal} {Post Post' : AVal → Mem → Prop}
theorem SoundCall.nilin (hM : M b = some (.cells l)) (hl : l[j]? = some (.raw (.slice none 0 0))) (h : SoundCall P f args (M.upd b (.cells (l.set j (.sl [] true)))) Post) : SoundCall P f args M Post :=
  fun κ w vs hs hh => h κ w vs hs (hh.nilcell hM hl)
theorem SoundCall.nilout (h : SoundCall P f args M Post) (hp : ∀ r M', Post r M' → Post' r M' ∨ ∃ b l j, M' b = some (.cells l) ∧ l[j]? = some (.raw (.slice none 0 0)) ∧ Post' r (M'.upd b (.cells (l.set j (.sl [] true))))) : SoundCall P f args M Post' := fun κ w vs hs hh => (h κ w vs hs hh).mono fun _ _ ⟨v, κ', r, M', e, hq, hH, hK⟩ => by
  rcases hp r M' hq with h1 | ⟨b, l, j, hM, hl, h1⟩
  · exact ⟨v, κ', r, M', e, h1, hH, hK⟩
  · exact ⟨v, κ', r, _, e, h1, hH.nilcell hM hl, hK⟩
end
end Go.Am

namespace Go.Am
set_option linter.unusedVariables false
set_option linter.unusedSimpArgs false
section
variable {P : Program} {T : Nat → AVal} {M : Mem} {dst : Option Nat} {x y : Operand} {ty : TypeId} {pos : String} {af : Array Edge} {g : Option (Nat × Bool)}
/-- A method of a value. -/
theorem q_mkfb {fn : Fn} {v : Value} (hx : ev T x = .raw v) : qstep P none (mkO dst (.makeFunc fn #[x] #[]) ty pos af g) T M = some (⟨none, .raw (.func fn #[v] #[])⟩, []) := by
  simp only [qstep, aop, List.map, hx]; rfl
/-- Two texts, one behind the other. -/
theorem q_sadd {u u' : ByteArray} {ty₁ ty' : TypeId} (hx : ev T x = .raw (.string u)) (hy : ev T y = .raw (.string u')) (h : u.size + u'.size ≤ 2 ^ 62) : qstep P none (mkO dst (.binOp .add ty₁ x y ty') ty pos af g) T M = some (⟨none, .raw (.string (u ++ u'))⟩, []) := by
  refine q_bin' hx hy ?_
  have hm : IntKind.i64.max = 9223372036854775807 := rfl
  show (pr P (if ((u.size + u'.size : Nat) : Int) > IntKind.i64.max then _ else pure (.string (u ++ u')))).map AVal.raw = _
  rw [if_neg (by omega)]; rfl
theorem bytesLess_eq : ∀ (a b : List UInt8), Op.bytesLess a b = decide (a < b)
  | _, [] => by simp [Op.bytesLess]
  | [], _ :: _ => by simp [Op.bytesLess]
  | a :: x, b :: y => by
    rw [Op.bytesLess, bytesLess_eq x y]
    by_cases h : a < b
    · simp [h, List.cons_lt_cons_iff]
    · by_cases e : a = b
      · subst e; simp [List.cons_lt_cons_iff]
      · simp [h, e, List.cons_lt_cons_iff]
theorem q_slss {u u' : ByteArray} {ty₁ ty' : TypeId} (hx : ev T x = .raw (.string u)) (hy : ev T y = .raw (.string u')) : qstep P none (mkO dst (.binOp .lss ty₁ x y ty') ty pos af g) T M = some (⟨none, .raw (.bool (decide (u.data.toList < u'.data.toList)))⟩, []) := by
  rw [← bytesLess_eq]
  rw [← ByteArray.toList_eq, ← ByteArray.toList_eq]
  exact q_bin' hx hy rfl
end
/-! Ranges over maps: what was seen. -/
section
variable {α : Type} {l : List (En α)} {seen : Array Nat} {e : En α} {f : En α → Nat}
def leftE (l : List (En α)) (seen : Array Nat) : Nat := (l.filter fun e => decide (e.s ∉ seen)).length
def sumE (f : En α → Nat) (l : List (En α)) (seen : Array Nat) : Nat := ((l.filter fun e => decide (e.s ∈ seen)).map f).sum
theorem nodupE (hn : (l.map En.s).Nodup) {e e' : En α} (he : e ∈ l) (he' : e' ∈ l) (h : e.s = e'.s) : e = e' := by
  induction l with
  | nil => cases he
  | cons a l ih =>
    rw [List.map_cons, List.nodup_cons] at hn
    rcases List.mem_cons.1 he with h1 | h1 <;> rcases List.mem_cons.1 he' with h2 | h2
    · rw [h1, h2]
    · exact absurd (List.mem_map.2 ⟨e', h2, by rw [← h, h1]⟩) hn.1
    · exact absurd (List.mem_map.2 ⟨e, h1, by rw [h, h2]⟩) hn.1
    · exact ih hn.2 h1 h2
theorem findE (hn : (l.map En.s).Nodup) (he : e ∈ l) : l.find? (fun x => x.s = e.s) = some e := by
  cases h : l.find? (fun x => x.s = e.s) with
  | none => have := List.find?_eq_none.1 h e he; simp at this
  | some x =>
    have h1 := List.mem_of_find?_eq_some h
    have h2 := List.find?_some h
    rw [nodupE hn h1 he (by simpa using h2)]
theorem leftE_lt (he : e ∈ l) (hs : e.s ∉ seen) : leftE l (seen.push e.s) < leftE l seen := by
  unfold leftE
  rw [← List.countP_eq_length_filter, ← List.countP_eq_length_filter]
  have key : ∀ l : List (En α), (l.countP fun x => decide (x.s ∉ seen.push e.s)) ≤ l.countP fun x => decide (x.s ∉ seen) := fun l => List.countP_mono_left fun x _ h => by
    simp only [Array.mem_push, decide_eq_true_eq, not_or] at h ⊢
    exact h.1
  obtain ⟨l1, l2, rfl⟩ := List.append_of_mem he
  rw [List.countP_append, List.countP_append, List.countP_cons_of_neg (by simp), List.countP_cons_of_pos (by simpa using hs)]
  have := key l1
  have := key l2
  omega
theorem sumE_nil : sumE f l #[] = 0 := by
  unfold sumE
  rw [List.filter_eq_nil_iff.2 fun e _ => by simp]; rfl
theorem sumE_all (h : ∀ e ∈ l, e.s ∈ seen) : sumE f l seen = (l.map f).sum := by
  unfold sumE
  rw [List.filter_eq_self.2 fun e he => by simpa using h e he]
theorem sumE_push (hn : (l.map En.s).Nodup) (he : e ∈ l) (hs : e.s ∉ seen) : sumE f l (seen.push e.s) = sumE f l seen + f e := by
  unfold sumE
  obtain ⟨l1, l2, rfl⟩ := List.append_of_mem he
  rw [List.map_append, List.map_cons, List.nodup_append] at hn
  obtain ⟨h1, h2, h3⟩ := hn
  have h4 := (List.nodup_cons.1 h2).1
  have key : ∀ l : List (En α), (∀ x ∈ l, x.s ≠ e.s) → (l.filter fun x => decide (x.s ∈ seen.push e.s)) = l.filter fun x => decide (x.s ∈ seen) := fun l hl => List.filter_congr fun x hx => by
    have := hl x hx
    simp [Array.mem_push, this]
  rw [List.filter_append, List.filter_append, List.filter_cons_of_pos (by simp), List.filter_cons_of_neg (by simpa using hs), key l1 fun x hx e2 => h3 _ (List.mem_map.2 ⟨x, hx, rfl⟩) _ (by simp) e2, key l2 fun x hx e2 => h4 (List.mem_map.2 ⟨x, hx, e2⟩)]
  simp only [List.map_append, List.map_cons, List.sum_append, List.sum_cons]
  omega
theorem sumE_le (f : En α → Nat) (l : List (En α)) (seen : Array Nat) : sumE f l seen ≤ (l.map f).sum := by
  unfold sumE
  induction l with
  | nil => simp
  | cons a l ih =>
    rw [List.filter_cons, List.map_cons, List.sum_cons]
    split
    · rw [List.map_cons, List.sum_cons]; omega
    · omega
end
end Go.Am

/-! A slice in memory that is known, and is not turned any more, may be told as a list. -/
namespace Go.Am
set_option linter.unusedVariables false
set_option linter.unusedSimpArgs false
end Go.Am

/-! Slices in memory that nobody else has: of any elements of one cell. -/
namespace Go.Am
set_option linter.unusedVariables false
set_option linter.unusedSimpArgs false
set_option linter.unusedSectionVars false
section
variable {P : Program} {tkr : Nat → Option Nat} {ops : Array Oper} {K : St → Prop} {i : Nat} {rest : List Oper} {d : Nat} {dst : Option Nat} {T : Nat → AVal} {M : Mem} {ty st e xt : TypeId} {pos : String} {af : Array Edge} {x y z : Operand} {ats : Array TypeId} {g : Option (Nat × Bool)}
  {β : Type} {f : β → AVal} {z0 : β}
end
end Go.Am
