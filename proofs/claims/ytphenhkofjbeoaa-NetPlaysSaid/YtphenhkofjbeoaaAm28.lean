import Derived.Test.YtphenhkofjbeoaaAm21
set_option linter.unusedSimpArgs false
set_option linter.unusedVariables false
/-! An append whose result lies in memory that is known. -/
namespace Go.Am

/-- What may be read, and copied, of a value: a slice whose elements are one cell each may lie in memory that is known. -/
def srcM (M : Mem) (Y : AVal) : Option AVal :=
  match Y with
  | .sl ys o => some (.sl ys o)
  | .raw (.string s) => some (.raw (.string s))
  | .raw (.slice base n _) => if n = 0 then some (.sl [] false) else
    (match base with
    | some ⟨b, off, none⟩ =>
      (match M b with
      | some (.cells l) => if off + n ≤ l.length then some (.sl (((l.drop off).take n).map AVal.shut) false) else none
      | _ => none)
    | _ => none)
  | _ => none

/-- A slice without elements, and without room. -/
def emptyX (X : AVal) : Prop := X = .sl [] true ∨ X = .raw (.slice none 0 0)

/-- An append whose result is told by where it lies. -/
def eAppR (P : Program) (argTypes : Array TypeId) (X Y : AVal) (M : Mem) (N : Mem → AVal → Prop) : Prop :=
  ∃ Y' st e zv, srcM M Y = some Y' ∧ argTypes[0]? = some st ∧ P.underlying st = some (.slice e) ∧ zeroCellsT P e = some [zv] ∧ zv.unit = true ∧
    ((emptyX X ∧ ∃ ys, (∀ e ∈ ys, e.cells = [e]) ∧ aAppend P argTypes (.sl [] true) Y' = some ys ∧ ∀ base c M1, (ys = [] → c = 0 ∧ M1 = M) → (ys ≠ [] → ∃ b, base = some ⟨b, 0, none⟩ ∧ M b = none ∧ ys.length ≤ c ∧ M1 = M.upd b (.cells (ys.map AVal.shut ++ List.replicate (c - ys.length) zv))) → N M1 (.raw (.slice base ys.length c))) ∨
     (∃ b off n c, X = .raw (.slice (some ⟨b, off, none⟩) n c) ∧ ∃ l ys, M b = some (.cells l) ∧ off + c ≤ l.length ∧ n ≤ c ∧ (((l.drop off).take n).all AVal.unit) = true ∧ (∀ e ∈ ys, e.cells = [e]) ∧ aAppend P argTypes (.sl (((l.drop off).take n).map AVal.shut) true) Y' = some (((l.drop off).take n).map AVal.shut ++ ys) ∧
        (n + ys.length ≤ c → N (M.upd b (.cells (splice l (off + n) (ys.map AVal.shut)))) (.raw (.slice (some ⟨b, off, none⟩) (n + ys.length) c))) ∧
        (¬ n + ys.length ≤ c → ∀ b' c', M b' = none → n + ys.length ≤ c' → N (M.upd b' (.cells (((l.drop off).take n).map AVal.shut ++ ys.map AVal.shut ++ List.replicate (c' - (n + ys.length)) zv))) (.raw (.slice (some ⟨b', 0, none⟩) (n + ys.length) c')))))

/-- A copy of what lies in memory that is known, to be appended to. -/
def eAppS (P : Program) (argTypes : Array TypeId) (X Y : AVal) (M : Mem) (N : Mem → AVal → Prop) : Prop :=
  ∃ Y' ys, srcM M Y = some Y' ∧ emptyX X ∧ aAppend P argTypes (.sl [] true) Y' = some ys ∧ N M (.sl ys true)

section
variable {P : Program} {κ : Ghost} {w : World} {a : Act} {o : Oper} {K : St → Prop} {Q : Exit → Act → World → Prop} {S : St}

theorem rep_unit_cells {V : AVal} {v : Value} (h : Rep P κ w V v) (h1 : one v = true) : V.shut.cells = [V.shut] := by
  cases h with
  | agg => simp [one] at h1
  | _ => rfl

theorem rep_unit {V : AVal} {v : Value} (h : Rep P κ w V v) (h1 : one v = true) (hu : V.ok = true) : V.unit = true := by
  cases h with
  | undef => simp [AVal.ok, AVal.unit] at hu
  | raw v => exact h1
  | nil => rfl
  | sl => rfl
  | sptr => rfl
  | agg cs vs => simp [one] at h1
  | tup cs vs => simp [one] at h1
theorem shut1_shut1 (V : AVal) : V.shut1.shut1 = V.shut1 := by cases V <;> rfl
theorem shut_shut (V : AVal) : V.shut.shut = V.shut := by
  cases V with
  | tup vs =>
    show AVal.tup ((vs.map AVal.shut1).map AVal.shut1) = .tup (vs.map AVal.shut1)
    rw [List.map_map]
    exact congrArg AVal.tup (List.map_congr_left fun X _ => shut1_shut1 X)
  | _ => rfl
theorem shut_ok {V : AVal} : V.shut.ok = V.ok := by cases V <;> rfl
theorem shut_unit {V : AVal} : V.shut.unit = V.unit := by cases V <;> rfl

/-- Cells of a block that is known, read. -/
theorem read_block {T : Nat → AVal} {V : Nat → Value} {M : Mem} (h : Holds P κ T V M w) {b off n : Nat} {l : List AVal} (hb : M b = some (.cells l)) (hle : off + n ≤ l.length) :
    ∃ cv : Nat → Value, (∀ j, j < n → w.cell? ⟨b, off + j, none⟩ = some (cv j)) ∧ ∀ (j : Nat) X, ((l.drop off).take n)[j]? = some X → Rep P κ w X (cv j) ∧ one (cv j) = true := by
  obtain ⟨c, e, fr, a1, a2, a3, a4⟩ := h.obj b _ hb
  refine ⟨fun j => c.getD (off + j) undef, fun j hj => ?_, fun j X hX => ?_⟩
  · have hc : off + j < c.size := by omega
    rw [cell_of_cells a1]
    simp [Array.getD, hc]
  · have hj : j < n ∧ off + j < l.length := by
      have := (List.getElem?_eq_some_iff.1 hX).1
      rw [List.length_take, List.length_drop] at this
      omega
    rw [List.getElem?_take, if_pos hj.1, List.getElem?_drop] at hX
    have hc : off + j < c.size := by omega
    have := a4 (off + j) X c[off + j] hX (by simp [hc])
    have e1 : c.getD (off + j) undef = c[off + j] := by simp [Array.getD, hc]
    dsimp only
    rw [e1]
    exact ⟨this.1, this.2.1⟩

theorem flat_units {l : List AVal} (h : ∀ e ∈ l, e.cells = [e]) : flat l = l := by
  unfold flat
  induction l with
  | nil => rfl
  | cons x l ih => rw [List.flatMap_cons, h x List.mem_cons_self, ih fun e he => h e (List.mem_cons_of_mem _ he)]; rfl

theorem run_src {T : Nat → AVal} {V : Nat → Value} {M : Mem} (h : Holds P κ T V M w) {Y Y' : AVal} {y : Value} {ys : List AVal} {sz : Nat} (hy : Rep P κ w Y y) (hs : srcM M Y = some Y') (hsp : spread Y' = some ys) (hok : ∀ e ∈ ys, e.ok = true ∧ e.cells.length = sz) :
    ∃ vs : Array Value, (Builtin.lenOf y).run P w = .ok ys.length w ∧ (Builtin.firstCells sz ys.length y).run P w = .ok vs w ∧ vs.size = ys.length * sz ∧ ∀ (j : Nat) c v, (flat ys)[j]? = some c → vs[j]? = some v → Rep P κ w c v ∧ c.unit = true := by
  unfold srcM at hs
  split at hs
  · obtain rfl := Option.some.inj hs; exact run_firstCells hy hsp hok
  · obtain rfl := Option.some.inj hs; exact run_firstCells hy hsp hok
  · rename_i base n c
    split at hs
    · rename_i hn0
      subst hn0
      obtain rfl := Option.some.inj hs
      obtain rfl := rep_raw hy
      obtain rfl := Option.some.inj hsp
      refine ⟨#[], rfl, ?_, by simp, fun j c v h => by simp [flat] at h⟩
      cases base with
      | none => rfl
      | some ad =>
        show (loadCells ad (0 * sz)).run P w = _
        rw [Nat.zero_mul]; rfl
    split at hs
    rotate_left
    · cases hs
    rename_i b off
    split at hs
    · rename_i l hb
      split at hs
      · rename_i hle
        obtain rfl := Option.some.inj hs
        obtain rfl := rep_raw hy
        obtain rfl := Option.some.inj hsp
        have hlen : (((l.drop off).take n).map AVal.shut).length = n := by simp; omega
        obtain ⟨cv, h1, h2⟩ := read_block h hb hle
        have hcells : ∀ e ∈ ((l.drop off).take n).map AVal.shut, e.cells = [e] := fun e he => by
          obtain ⟨X, hX, rfl⟩ := List.mem_map.1 he
          obtain ⟨j, hj⟩ := List.mem_iff_getElem?.1 hX
          have := h2 j X hj
          exact rep_unit_cells this.1 this.2
        have hsz : n = 0 ∨ sz = 1 := by
          cases hq : ((l.drop off).take n).map AVal.shut with
          | nil => left; rw [hq] at hlen; exact hlen.symm
          | cons x r =>
            right
            have := (hok x (by rw [hq]; exact List.mem_cons_self)).2
            rw [hcells x (by rw [hq]; exact List.mem_cons_self)] at this
            exact this.symm
        have hnsz : n * sz = n := by rcases hsz with h | h <;> subst h <;> omega
        refine ⟨((List.range n).map cv).toArray, by rw [hlen]; rfl, ?_, by rw [hlen]; simp [hnsz], fun j c' v e1 e2 => ?_⟩
        · rw [hlen]
          show (loadCells ⟨b, off, none⟩ (n * sz)).run P w = _
          rw [hnsz]
          exact run_loadCells cv h1
        · rw [flat_units hcells] at e1
          rw [List.getElem?_map] at e1
          obtain ⟨X, hX, rfl⟩ := Option.map_eq_some_iff.1 e1
          have hj : j < n := by
            have := (List.getElem?_eq_some_iff.1 hX).1
            rw [List.length_take] at this; omega
          simp [hj] at e2
          subst e2
          have := h2 j X hX
          refine ⟨this.1.shut, ?_⟩
          have hmem : X.shut ∈ ((l.drop off).take n).map AVal.shut := List.mem_map.2 ⟨X, List.mem_of_getElem? hX, rfl⟩
          have hm := hok X.shut hmem
          have hc := hcells X.shut hmem
          rw [shut_unit]
          exact rep_unit this.1 this.2 (by rw [← shut_ok]; exact hm.1)
      · cases hs
    · cases hs
  · cases hs

/-- A new block of what was, what comes, and nothing. -/
theorem new_block {T : Nat → AVal} {V : Nat → Value} {M : Mem} (h : Holds P κ T V M w) {xs ys : List AVal} {olds vs : Array Value} {e : TypeId} {z : Value} {zv : AVal} {k : Nat} (hzc : zeroCellsT P e = some [zv]) (hz : zeroT P e = some z) (hzu : zv.unit = true)
    (ho : olds.size = xs.length) (hv : vs.size = ys.length) (hor : ∀ (j : Nat) c v, xs[j]? = some c → olds[j]? = some v → Rep P κ w c v ∧ c.unit = true) (hvr : ∀ (j : Nat) c v, ys[j]? = some c → vs[j]? = some v → Rep P κ w c v ∧ c.unit = true) :
    Holds P κ T V (M.upd w.heap.size (.cells (xs.map AVal.shut ++ ys.map AVal.shut ++ List.replicate k zv))) (push w (.cells (olds ++ vs ++ Builtin.zeroCells z.cells k) e)) ∧ Keep κ w κ (push w (.cells (olds ++ vs ++ Builtin.zeroCells z.cells k) e)) := by
  obtain ⟨z', hz', hzz⟩ := pr_zeroCells hzc
  rw [hz] at hz'
  obtain rfl := Option.some.inj hz'
  have hz1 : z.cells.size = 1 := by have := congrArg List.length hzz; simpa using this.symm
  have hz0 : ofConst z.cells[0]! = zv := by
    have : z.cells.toList = [z.cells[0]!] := by
      have hl : z.cells.toList.length = 1 := by simpa using hz1
      match hq : z.cells.toList, hl with
      | [x], _ =>
        have : z.cells = #[x] := by apply Array.ext'; rw [hq]
        rw [this]; rfl
    rw [this] at hzz
    simpa using hzz.symm
  have hzs : (Builtin.zeroCells z.cells k).size = k := by simp [Builtin.zeroCells, hz1]
  refine h.newObj (fr := (0, 0)) (by simp [ho, hv, hzs]) (fun j X x e1 e2 => ?_) (fun _ _ => by simp)
  by_cases h1 : j < xs.length
  · rw [List.append_assoc, List.getElem?_append_left (by rw [List.length_map]; exact h1), List.getElem?_map] at e1
    rw [Array.append_assoc, Array.getElem?_append_left (by omega)] at e2
    obtain ⟨Y, hY, rfl⟩ := Option.map_eq_some_iff.1 e1
    have := hor j Y x hY e2
    exact ⟨this.1.shut, unit_one this.1 this.2, fun _ _ => Spare.not_shut⟩
  · rw [List.append_assoc, List.getElem?_append_right (by rw [List.length_map]; omega), List.length_map] at e1
    rw [Array.append_assoc, Array.getElem?_append_right (by omega), ho] at e2
    by_cases h2 : j - xs.length < ys.length
    · rw [List.getElem?_append_left (by rw [List.length_map]; exact h2), List.getElem?_map] at e1
      rw [Array.getElem?_append_left (by omega)] at e2
      obtain ⟨Y, hY, rfl⟩ := Option.map_eq_some_iff.1 e1
      have := hvr _ Y x hY e2
      exact ⟨this.1.shut, unit_one this.1 this.2, fun _ _ => Spare.not_shut⟩
    · rw [List.getElem?_append_right (by rw [List.length_map]; omega), List.length_map] at e1
      rw [Array.getElem?_append_right (by omega), hv] at e2
      rw [List.getElem?_replicate] at e1
      split at e1
      · rename_i hlt
        obtain rfl := Option.some.inj e1
        have hx : x = z.cells[0]! := by
          simp [Builtin.zeroCells, hz1] at e2
          obtain ⟨q, h3, h4⟩ := e2
          rw [← h4, Nat.mod_one]
        subst hx
        rw [← hz0]
        exact ⟨ofConst_rep _, unit_one (P := P) (κ := κ) (w := w) (ofConst_rep _) (by rw [hz0]; exact hzu), fun _ _ hs => ofConst_spare hs⟩
      · cases e1

theorem empty_base {X : AVal} {v : Value} (hX : emptyX X) (h : Rep P κ w X v) : ∃ base, v = .slice base 0 0 ∧ (base = none ∨ ∃ b off, base = some ⟨b, off, none⟩) ∧ Rep P κ w (.sl [] true) (.slice base 0 0) := by
  rcases hX with rfl | rfl
  · rcases rep_sl_inv h with ⟨-, e1⟩ | ⟨b, off, cap, sz, cv, e1, e2, -, -, -, -, ho⟩
    · exact ⟨none, e1, .inl rfl, by rw [← e1]; exact h⟩
    · rcases ho rfl with h' | ⟨h', -⟩
      · rw [h'] at e1; exact ⟨_, e1, .inr ⟨b, off, rfl⟩, by have := h; rw [e1] at this; exact this⟩
      · exact absurd rfl h'
  · exact ⟨none, rep_raw h, .inl rfl, .nil true⟩

theorem sound_appR (h : Holds P κ S.T (tv a) S.M w) (hd : ∀ d, o.dst = some d → d < a.tmps.size) {args : Array Operand} {argTypes : Array TypeId} {x y : Operand} {d : Nat} (hop : o.op = .call { callee := .builtin .append, args, argTypes }) (hargs : args.toList = [x, y]) (hdst : o.dst = some d)
    (hs : eAppR P argTypes (ev S.T x) (ev S.T y) S.M fun M1 V => K (({ S with M := M1 } : St).put (some d) V)) : o.wp P a w (Next P κ w a K) Q := by
  have hrun : ∀ v w', (Builtin.append_ argTypes o.type #[a.eval x, a.eval y]).run P w = .ok v w' → (execOp a.eval o).run P w = .ok (.value v) w' := fun v w' hw => by
    rw [builtin_run hop, two_args hargs]
    exact run_val hw
  obtain ⟨Y', st, e, zv, hY, hst0, hste, hzc, hzu, hs⟩ := hs
  have fin : ∀ (v : Value) (w' : World) (M1 : Mem), (Builtin.append_ argTypes o.type #[a.eval x, a.eval y]).run P w = .ok v w' → Holds P κ S.T (tv a) M1 w' → Keep κ w κ w' → K (({ S with M := M1 } : St).put (some d) (.raw v)) → o.wp P a w (Next P κ w a K) Q := fun v w' M1 h1 h2 h3 h4 =>
    wp_value (hrun v w' h1) (next_put (S' := ({ S with M := M1 } : St)) (X := .raw v) hd (by rw [hdst]; exact h4) (fun d' _ => h2.put d' (.raw v) fun _ _ => Spare.not_raw) (fun _ => h2) h3)
  have ety : ∀ {X Y : AVal} (q : AppendOk P argTypes X Y), q.e = e := fun q => by
    have h1 := q.h0; rw [hst0] at h1
    have h2 := q.hst; rw [← Option.some.inj h1, hste] at h2
    injection h2 with h2; injection h2 with h2; exact h2.symm
  rcases hs with ⟨hX, hs⟩ | ⟨b, off, n, c, hX, hs⟩
  · obtain ⟨ys, hpl, ha, hK⟩ := hs
    obtain ⟨q, hq⟩ := aAppend_ok ha
    have hl0 : q.l = [] := by have := q.hX; injection this with h1 _; exact h1.symm
    rw [hl0, List.nil_append] at hq
    subst hq
    obtain ⟨vs, hlen, hfirst, hvs, hvr⟩ := run_src h (rep_ev h y) hY q.hY q.hys
    obtain ⟨h1, hk1⟩ := h.drawn (w.drawn + 1)
    obtain ⟨vs1, hlen1, hfirst1, hvs1, hvr1⟩ := run_src h1 (hk1.rep (rep_ev h y)) hY q.hY q.hys
    have hfy := flat_units hpl
    obtain ⟨base, hbase, hb', -⟩ := empty_base hX (rep_ev h x)
    by_cases hys : q.ys = []
    · refine fin (.slice base 0 0) w S.M ?_ h (Keep.refl κ w) ?_
      · rw [hbase]
        have r1 := pr_run (pr_underlying q.hst) w
        have r2 := pr_run (pr_underlying q.hxt) w
        have r3 := run_sizeT q.hsz w
        have hint := q.hint
        rw [hys] at hlen hfirst hvs
        simp only [List.length_nil] at hlen hfirst
        have hv0 : vs.toList = [] := by
          apply List.eq_nil_of_length_eq_zero
          rw [Array.length_toList, hvs]; simp
        rcases hb' with rfl | ⟨b, off, rfl⟩
        · generalize q.xd = xd at hint r2
          cases xd <;> first | (simp [isRow] at hint; done) | simp [Builtin.append_, q.h0, q.h1, r1, r2, r3, hlen, hfirst]
        · have := run_append_room (ty := o.type) q (b := b) (off := off) (cap := 0) (w' := w) (by rw [hys]; exact hlen) (by rw [hys]; exact hfirst) (by rw [hl0, hys]; simp) (by rw [hv0]; rfl)
          rw [hl0, hys] at this
          exact this
      · have := hK base 0 S.M (fun _ => ⟨rfl, rfl⟩) (fun h' => absurd hys h')
        rw [hys] at this
        exact this
    · have hgt : ¬ q.l.length + q.ys.length ≤ 0 := by
        rw [hl0]; cases hq : q.ys with | nil => exact absurd hq hys | cons => simp
      have hg := run_append_grow (ty := o.type) q (base := base) (cap := 0) (y := a.eval y) (olds := #[]) hlen hgt _ rfl (by rw [hl0]; cases base <;> (first | rfl | (show (loadCells _ (0 * q.sz)).run P _ = _; rw [Nat.zero_mul]; rfl))) hfirst1
      generalize hnc : (Question.appendCap (q.l.length + q.ys.length) 0 q.e).cut (w.tape w.drawn (.appendCap (q.l.length + q.ys.length) 0 q.e)) = newCap at hg
      have hncle : q.l.length + q.ys.length ≤ newCap := by rw [← hnc]; simp only [Question.cut]; omega
      have hsz1 : q.sz = 1 := by
        cases hq : q.ys with
        | nil => exact absurd hq hys
        | cons x r =>
          have := (q.hys x (by rw [hq]; exact List.mem_cons_self)).2
          rw [hpl x (by rw [hq]; exact List.mem_cons_self)] at this
          exact this.symm
      rw [hsz1, Nat.mul_one] at hvs1
      obtain ⟨h2, hk2⟩ := new_block h1 (xs := []) (ys := q.ys) (olds := #[]) (vs := vs1) (e := q.e) (z := q.z) (k := newCap - (q.l.length + q.ys.length)) (by rw [ety q]; exact hzc) q.hz hzu rfl hvs1 (fun j c v e1 => by simp at e1) (fun j c v e1 e2 => hvr1 j c v (by rw [hfy]; exact e1) e2)
      have e0 : Value.slice base q.l.length 0 = .slice base 0 0 := by rw [hl0]; rfl
      rw [e0, ← hbase] at hg
      refine fin _ _ _ hg h2 (hk1.trans hk2) ?_
      have := hK (some ⟨w.heap.size, 0, none⟩) newCap (S.M.upd w.heap.size (.cells (q.ys.map AVal.shut ++ List.replicate (newCap - q.ys.length) zv))) (fun h' => absurd h' hys) (fun _ => ⟨w.heap.size, rfl, h.fresh, by rw [hl0] at hncle; simpa using hncle, rfl⟩)
      rw [hl0]
      simpa using this
  · obtain ⟨l, ys, hb, hle, hnc, hun, hpl, ha, hK1, hK2⟩ := hs
    obtain ⟨q, hq⟩ := aAppend_ok ha
    have hql : q.l = ((l.drop off).take n).map AVal.shut := by have := q.hX; injection this with h1 _; exact h1.symm
    have hys : q.ys = ys := by rw [hql] at hq; exact (List.append_cancel_left hq).symm
    subst hys
    have hlen0 : q.l.length = n := by rw [hql]; simp; omega
    obtain ⟨vs, hlen, hfirst, hvs, hvr⟩ := run_src h (rep_ev h y) hY q.hY q.hys
    obtain ⟨h1, hk1⟩ := h.drawn (w.drawn + 1)
    obtain ⟨vs1, hlen1, hfirst1, hvs1, hvr1⟩ := run_src h1 (hk1.rep (rep_ev h y)) hY q.hY q.hys
    have hxr := rep_ev h x
    rw [hX] at hxr
    have hxv := rep_raw hxr
    have hfy := flat_units hpl
    obtain ⟨cv, hc1, hc2⟩ := read_block h hb (show off + n ≤ l.length by omega)
    have hlc : ∀ e ∈ q.l, e.cells = [e] := fun e he => by
      rw [hql] at he
      obtain ⟨X, hX', rfl⟩ := List.mem_map.1 he
      obtain ⟨j, hj⟩ := List.mem_iff_getElem?.1 hX'
      have := hc2 j X hj
      exact rep_unit_cells this.1 this.2
    have hsz : q.ys = [] ∨ q.sz = 1 := by
      cases hq : q.ys with
      | nil => exact .inl rfl
      | cons x r =>
        right
        have := (q.hys x (by rw [hq]; exact List.mem_cons_self)).2
        rw [hpl x (by rw [hq]; exact List.mem_cons_self)] at this
        exact this.symm
    have hsz' : q.l = [] ∨ q.sz = 1 := by
      cases hq : q.l with
      | nil => exact .inl rfl
      | cons x r =>
        right
        have := q.hl x (by rw [hq]; exact List.mem_cons_self)
        rw [hlc x (by rw [hq]; exact List.mem_cons_self)] at this
        exact this.symm
    have hnsz : n * q.sz = n := by
      rcases hsz' with h' | h'
      · rw [h'] at hlen0
        have h0 : n = 0 := hlen0.symm
        have : ∀ a b : Nat, a = 0 → a * b = a := fun a b e => by rw [e, Nat.zero_mul]
        exact this n _ h0
      · rw [h']; omega
    have hysz : q.ys.length * q.sz = q.ys.length := by
      rcases hsz with h' | h'
      · rw [h']; simp
      · rw [h']; omega
    rw [hysz] at hvs hvs1
    by_cases hroom : n + q.ys.length ≤ c
    · obtain ⟨w', s1, s2, s3⟩ := run_storeCells (P := P) (b := b) (o := off + n) q.ys vs.toList 0 w S.M l h hb (by omega) (by rw [Array.length_toList, hvs]) (fun j X v e1 e2 => hvr j X v (by rw [hfy]; exact e1) (by simpa using e2))
      have hst : (storeCells ⟨b, off + q.l.length * q.sz, none⟩ vs.toList 0).run P w = .ok () w' := by rw [hlen0, hnsz]; exact s1
      have := run_append_room (ty := o.type) q (b := b) (off := off) (cap := c) (w' := w') hlen hfirst (by rw [hlen0]; exact hroom) hst
      rw [hlen0, ← hxv] at this
      refine fin _ _ _ this s2 s3 ?_
      exact hK1 hroom
    · have hold : (Builtin.firstCells q.sz q.l.length (.slice (some ⟨b, off, none⟩) q.l.length c)).run P { w with drawn := w.drawn + 1 } = .ok ((List.range n).map cv).toArray { w with drawn := w.drawn + 1 } := by
        rw [hlen0]
        show (loadCells ⟨b, off, none⟩ (n * q.sz)).run P _ = _
        rw [hnsz]
        exact run_loadCells cv fun j hj => hc1 j hj
      have hg := run_append_grow (ty := o.type) q (base := some ⟨b, off, none⟩) (cap := c) (y := a.eval y) (olds := ((List.range n).map cv).toArray) hlen (by rw [hlen0]; exact hroom) _ rfl hold hfirst1
      generalize hnc' : (Question.appendCap (q.l.length + q.ys.length) c q.e).cut (w.tape w.drawn (.appendCap (q.l.length + q.ys.length) c q.e)) = newCap at hg
      have hncle : q.l.length + q.ys.length ≤ newCap := by rw [← hnc']; simp only [Question.cut]; omega
      obtain ⟨h2, hk2⟩ := new_block h1 (xs := q.l) (ys := q.ys) (olds := ((List.range n).map cv).toArray) (vs := vs1) (e := q.e) (z := q.z) (k := newCap - (q.l.length + q.ys.length)) (by rw [ety q]; exact hzc) q.hz hzu (by rw [hlen0]; simp) hvs1 (fun j c v e1 e2 => by
        rw [hql, List.getElem?_map] at e1
        obtain ⟨X, hX', rfl⟩ := Option.map_eq_some_iff.1 e1
        have hj : j < n := by
          have := (List.getElem?_eq_some_iff.1 hX').1
          rw [List.length_take] at this; omega
        simp [hj] at e2
        subst e2
        have h3 := hc2 j X hX'
        refine ⟨hk1.rep h3.1.shut, ?_⟩
        rw [shut_unit]
        exact List.all_eq_true.1 hun X (List.mem_of_getElem? hX')) (fun j c v e1 e2 => hvr1 j c v (by rw [hfy]; exact e1) e2)
      rw [show (Value.slice (some ⟨b, off, none⟩) q.l.length c) = a.eval x from by rw [hlen0]; exact hxv.symm] at hg
      refine fin _ _ _ hg h2 (hk1.trans hk2) ?_
      have := hK2 hroom w.heap.size newCap h.fresh (by omega)
      have e3 : q.l.map AVal.shut = ((l.drop off).take n).map AVal.shut := by
        rw [hql, List.map_map]
        refine List.map_congr_left fun X _ => ?_
        exact shut_shut X
      rw [e3, hlen0]
      exact this

theorem sound_appS (h : Holds P κ S.T (tv a) S.M w) (hd : ∀ d, o.dst = some d → d < a.tmps.size) {args : Array Operand} {argTypes : Array TypeId} {x y : Operand} {d : Nat} (hop : o.op = .call { callee := .builtin .append, args, argTypes }) (hargs : args.toList = [x, y]) (hdst : o.dst = some d)
    (hs : eAppS P argTypes (ev S.T x) (ev S.T y) S.M fun M1 V => K (({ S with M := M1 } : St).put (some d) V)) : o.wp P a w (Next P κ w a K) Q := by
  have hrun : ∀ v w', (Builtin.append_ argTypes o.type #[a.eval x, a.eval y]).run P w = .ok v w' → (execOp a.eval o).run P w = .ok (.value v) w' := fun v w' hw => by
    rw [builtin_run hop, two_args hargs]
    exact run_val hw
  obtain ⟨Y', ys, hY, hX, ha, hK⟩ := hs
  obtain ⟨q, hq⟩ := aAppend_ok ha
  have hl0 : q.l = [] := by have := q.hX; injection this with h1 _; exact h1.symm
  rw [hl0, List.nil_append] at hq
  subst hq
  obtain ⟨vs, hlen, hfirst, hvs, hvr⟩ := run_src h (rep_ev h y) hY q.hY q.hys
  obtain ⟨h1, hk1⟩ := h.drawn (w.drawn + 1)
  obtain ⟨vs1, hlen1, hfirst1, hvs1, hvr1⟩ := run_src h1 (hk1.rep (rep_ev h y)) hY q.hY q.hys
  obtain ⟨base, hbase, hb', hr0⟩ := empty_base hX (rep_ev h x)
  by_cases hys : q.ys = []
  · refine wp_value (hrun (.slice base 0 0) w ?_) (next_put (S' := S) (X := .sl q.ys true) hd (by rw [hdst]; exact hK) (fun d' _ => h.put d' (by rw [hys]; exact hr0) fun b' o' hsp => ?_) (fun _ => h) (Keep.refl κ w))
    · rw [hbase]
      have r1 := pr_run (pr_underlying q.hst) w
      have r2 := pr_run (pr_underlying q.hxt) w
      have r3 := run_sizeT q.hsz w
      have hint := q.hint
      rw [hys] at hlen hfirst hvs
      simp only [List.length_nil] at hlen hfirst
      have hv0 : vs.toList = [] := by
        apply List.eq_nil_of_length_eq_zero
        rw [Array.length_toList, hvs]; simp
      rcases hb' with rfl | ⟨b, off, rfl⟩
      · generalize q.xd = xd at hint r2
        cases xd <;> first | (simp [isRow] at hint; done) | simp [Builtin.append_, q.h0, q.h1, r1, r2, r3, hlen, hfirst]
      · have := run_append_room (ty := o.type) q (b := b) (off := off) (cap := 0) (w' := w) (by rw [hys]; exact hlen) (by rw [hys]; exact hfirst) (by rw [hl0, hys]; simp) (by rw [hv0]; rfl)
        rw [hl0, hys] at this
        exact this
    · rw [hys] at hsp
      obtain ⟨l', off, cap, e1, e2, e3, e4⟩ := hsp.sl
      cases e1; cases e2
      omega
  · have hgt : ¬ q.l.length + q.ys.length ≤ 0 := by
      rw [hl0]; cases hq : q.ys with | nil => exact absurd hq hys | cons => simp
    have hg := run_append_grow (ty := o.type) q (base := base) (cap := 0) (y := a.eval y) (olds := #[]) hlen hgt _ rfl (by rw [hl0]; cases base <;> (first | rfl | (show (loadCells _ (0 * q.sz)).run P _ = _; rw [Nat.zero_mul]; rfl))) hfirst1
    generalize hnc : (Question.appendCap (q.l.length + q.ys.length) 0 q.e).cut (w.tape w.drawn (.appendCap (q.l.length + q.ys.length) 0 q.e)) = newCap at hg
    have hncle : q.l.length + q.ys.length ≤ newCap := by rw [← hnc]; simp only [Question.cut]; omega
    have hfy := flat_length (fun e he => (q.hys e he).2)
    have hzc : ∀ n, (Builtin.zeroCells q.z.cells n).size = n * q.sz := fun n => by simp [Builtin.zeroCells, q.hzs]
    have e0 : Value.slice base q.l.length 0 = .slice base 0 0 := by rw [hl0]; rfl
    rw [e0, ← hbase] at hg
    have hl0' : q.l.length = 0 := by rw [hl0]; rfl
    rw [hl0', Nat.zero_add] at hg hncle
    have hcells : (#[] ++ vs1 ++ Builtin.zeroCells q.z.cells (newCap - q.ys.length)).size = newCap * q.sz := by
      simp only [Array.size_append, hvs1, hzc, List.size_toArray, List.length_nil, Nat.zero_add]
      rw [← Nat.add_mul]
      congr 1
      omega
    obtain ⟨h2, hk2⟩ := h1.newSl d (l := q.ys) (cs := #[] ++ vs1 ++ Builtin.zeroCells q.z.cells (newCap - q.ys.length)) (cap := newCap) (e := q.e) (fr := (0, 0)) q.hsz hcells hncle (.inl hys) (fun e he => (q.hys e he).2)
      (fun j c v e1 e2 => by
        have hj2 : j < (flat q.ys).length := by
          rcases Nat.lt_or_ge j (flat q.ys).length with h' | h'
          · exact h'
          · rw [List.getElem?_eq_none h'] at e1; cases e1
        rw [Array.empty_append, Array.getElem?_append_left (by omega)] at e2
        exact (hvr1 _ c v e1 e2).1) (fun o' _ => by simp)
    exact wp_value (hrun _ _ hg) (next_put (S' := S) (X := .sl q.ys true) hd (by rw [hdst]; exact hK) (fun d' e => by rw [hdst] at e; cases e; exact h2) (fun e => by rw [hdst] at e; cases e) (hk1.trans hk2))
end

/-- A slice in memory that is known is cleared. -/
def eClear (P : Program) (argTypes : Array TypeId) (X : AVal) (M : Mem) (N : Mem → AVal → Prop) : Prop :=
  ∃ st e zv, argTypes[0]? = some st ∧ P.underlying st = some (.slice e) ∧ zeroCellsT P e = some [zv] ∧ zv.unit = true ∧
    ((∃ base c, X = .raw (.slice base 0 c) ∧ N M (.raw (.tuple #[]))) ∨
     (∃ b off n c l, X = .raw (.slice (some ⟨b, off, none⟩) n c) ∧ n ≠ 0 ∧ M b = some (.cells l) ∧ off + n ≤ l.length ∧ N (M.upd b (.cells (splice l off (List.replicate n zv.shut)))) (.raw (.tuple #[]))))

section
variable {P : Program} {κ : Ghost} {w : World} {a : Act} {o : Oper} {K : St → Prop} {Q : Exit → Act → World → Prop} {S : St}

theorem sound_clear (h : Holds P κ S.T (tv a) S.M w) (hd : ∀ d, o.dst = some d → d < a.tmps.size) {args : Array Operand} {argTypes : Array TypeId} {x : Operand} (hop : o.op = .call { callee := .builtin .clear, args, argTypes }) (hargs : args.toList = [x])
    (hs : eClear P argTypes (ev S.T x) S.M fun M1 V => K (({ S with M := M1 } : St).put o.dst V)) : o.wp P a w (Next P κ w a K) Q := by
  have hmap : args.map a.eval = #[a.eval x] := by
    apply Array.ext'
    rw [Array.toList_map, hargs]; rfl
  obtain ⟨st, e, zv, h0, hu, hzc, hzu, hs⟩ := hs
  obtain ⟨z, hz, hzz⟩ := pr_zeroCells hzc
  have hrun : ∀ w', (Builtin.clear_ argTypes o.type #[a.eval x]).run P w = .ok (.tuple #[]) w' → (execOp a.eval o).run P w = .ok (.value (.tuple #[])) w' := fun w' hw => by
    rw [builtin_run hop, hmap]
    exact run_val hw
  have hxr := rep_ev h x
  rcases hs with ⟨base, c, hX, hK⟩ | ⟨b, off, n, c, l, hX, hn, hb, hle, hK⟩
  · rw [hX] at hxr
    have hxv := rep_raw hxr
    refine wp_value (hrun w ?_) (next_put (S' := S) (X := .raw (.tuple #[])) hd hK (fun d _ => h.put d (.raw _) fun _ _ => Spare.not_raw) (fun _ => h) (Keep.refl κ w))
    rw [hxv]
    unfold Builtin.clear_
    simp only [h0, List.getElem?_toArray, List.getElem?_cons_zero]
    show ((underlying st) >>= _).run P w = _
    rw [run_bind_pr (pr_underlying hu)]
    cases base <;> rfl
  · rw [hX] at hxr
    have hxv := rep_raw hxr
    have hz1 : z.cells.size = 1 := by have := congrArg List.length hzz; simpa using this.symm
    have hz0 : ofConst z.cells[0]! = zv := by
      have : z.cells.toList = [z.cells[0]!] := by
        have hl : z.cells.toList.length = 1 := by simpa using hz1
        match hq : z.cells.toList, hl with
        | [x], _ =>
          have : z.cells = #[x] := by apply Array.ext'; rw [hq]
          rw [this]; rfl
      rw [this] at hzz
      simpa using hzz.symm
    have hzs : (Builtin.zeroCells z.cells n).toList.length = n := by simp [Builtin.zeroCells, hz1]
    obtain ⟨w', s1, s2, s3⟩ := run_storeCells (P := P) (b := b) (o := off) (List.replicate n zv) (Builtin.zeroCells z.cells n).toList 0 w S.M l h hb (by simp; omega) (by rw [hzs]; simp) (fun j X v e1 e2 => by
      rw [List.getElem?_replicate] at e1
      split at e1
      · obtain rfl := Option.some.inj e1
        have hx : v = z.cells[0]! := by
          rw [Array.getElem?_toList] at e2
          simp [Builtin.zeroCells, hz1] at e2
          obtain ⟨q, h3, h4⟩ := e2
          rw [← h4, Nat.mod_one]
        subst hx
        refine ⟨?_, hzu⟩
        rw [← hz0]; exact ofConst_rep _
      · cases e1)
    rw [List.map_replicate, Nat.add_zero] at s2
    refine wp_value (hrun w' ?_) (next_put (S' := S.upd b (.cells (splice l off (List.replicate n zv.shut)))) (X := .raw (.tuple #[])) hd hK (fun d _ => s2.put d (.raw _) fun _ _ => Spare.not_raw) (fun _ => s2) s3)
    rw [hxv]
    unfold Builtin.clear_
    simp only [h0, List.getElem?_toArray, List.getElem?_cons_zero]
    show ((underlying st) >>= _).run P w = _
    rw [run_bind_pr (pr_underlying hu)]
    cases n with
    | zero => exact absurd rfl hn
    | succ n =>
      show (zeroValue e >>= fun z => (storeCells ⟨b, off, none⟩ (Builtin.zeroCells z.cells (n + 1)).toList >>= fun _ => pure (Value.tuple #[]))).run P w = _
      rw [run_bind_pr (pr_zeroT hz), Sem.run_bind, s1]
      rfl
end

/-- A value that a meaning stands for in every world. -/
def Fixed (P : Program) (V : AVal) (v : Value) : Prop := (∀ κ w, Rep P κ w V v) ∧ ∀ (w : World) b o, ¬ Spare P w V v b o

/-- An operation on objects that are known to the last: the model's own run tells what it does. -/
def eExact (P : Program) (o : Oper) (T : Nat → AVal) (M : Mem) (N : Mem → AVal → Prop) : Prop :=
  ∀ (ρ : Operand → Value) (w : World), (∀ x ∈ o.op.operands.toList, ∀ v, rawOf (ev T x) = some v → ρ x = v) → (∀ b ob, M b = some (.it ob) → w.heap[b]? = some ob) → M w.heap.size = none →
    (∃ v V, (execOp ρ o).run P w = .ok (.value v) w ∧ Fixed P V v ∧ N M V) ∨
    (∃ v V r ob ob' n, M r = some (.it ob) ∧ (∀ c e fr, ob' ≠ .cells c e fr) ∧ (execOp ρ o).run P w = .ok (.value v) { putObj w r ob' with drawn := n } ∧ Fixed P V v ∧ N (M.upd r (.it ob')) V) ∨
    (∃ r ob ob', M r = some (.it ob) ∧ (∀ c e fr, ob' ≠ .cells c e fr) ∧ (execOp ρ o).run P w = .ok .skip (putObj w r ob') ∧ N (M.upd r (.it ob')) (.raw undef)) ∨
    (∃ v ob', (∀ c e fr, ob' ≠ .cells c e fr) ∧ (execOp ρ o).run P w = .ok (.value v) (push w ob') ∧ N (M.upd w.heap.size (.it ob')) (.raw v))
end Go.Am
