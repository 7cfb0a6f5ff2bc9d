import Derived.Test.YtphenhkofjbeoaaAm12
namespace Go.Am
section
variable {P : Program} {κ : Ghost} {w : World}

theorem pr_bytesT {t : TypeId} {n : Nat} (h : bytesT P t = some n) : ∃ i, pr P (typeInfo t) = some i ∧ i.bytes = n := by
  unfold bytesT at h
  cases hi : P.info? t with
  | none => rw [hi] at h; cases h
  | some i =>
    rw [hi] at h
    simp only [Option.map_some, Option.some.injEq] at h
    refine ⟨i, ?_, h⟩
    show pr P (Sem.bind program _) = _
    rw [pr_bind]
    show pr P (match P.info? t with | some i => pure i | none => stuck "no such type") = _
    rw [hi]; rfl

structure AppendOk (P : Program) (argTypes : Array TypeId) (X Y : AVal) where
  st : TypeId
  xt : TypeId
  e : TypeId
  xd : TypeDesc
  sz : Nat
  by_ : Nat
  z : Value
  l : List AVal
  ys : List AVal
  h0 : argTypes[0]? = some st
  h1 : argTypes[1]? = some xt
  hst : P.underlying st = some (.slice e)
  hxt : P.underlying xt = some xd
  hint : isRow xd = true
  hsz : sizeT P e = some sz
  hby : bytesT P e = some by_
  hz : zeroT P e = some z
  hX : X = .sl l true
  hY : spread Y = some ys
  hzs : z.cells.size = sz
  hb1 : 1 ≤ by_
  hbd : (l.length + ys.length) * by_ ≤ 2 ^ 47
  hl : ∀ E ∈ l, E.cells.length = sz
  hys : ∀ E ∈ ys, E.ok = true ∧ E.cells.length = sz

theorem aAppend_ok {argTypes : Array TypeId} {X Y : AVal} {out : List AVal} (h : aAppend P argTypes X Y = some out) : ∃ o : AppendOk P argTypes X Y, out = o.l ++ o.ys := by
  unfold aAppend at h
  split at h
  · rename_i st xt h0 h1
    split at h
    · rename_i e xd hst hxt
      split at h
      · cases h
      · rename_i hint
        split at h
        · rename_i sz by_ z l ys hsz hby hz hY
          split at h
          · rename_i hc
            obtain ⟨c1, c2, c3, c4, c5⟩ := hc
            exact ⟨⟨st, xt, e, xd, sz, by_, z, l, ys, h0, h1, hst, hxt, by simpa using hint, hsz, hby, hz, rfl, hY, c1, c2, c3, fun E hE => by simpa using List.all_eq_true.1 c4 E hE, fun E hE => by simpa using List.all_eq_true.1 c5 E hE⟩, (Option.some.inj h).symm⟩
          · cases h
        · cases h
    · cases h
  · cases h

/-- An append where there is room. -/
theorem run_append_room {argTypes : Array TypeId} {ty : TypeId} {X Y : AVal} (o : AppendOk P argTypes X Y) {b off cap : Nat} {y : Value} {vs : Array Value} {w' : World} (hlen : (Builtin.lenOf y).run P w = .ok o.ys.length w)
    (hfirst : (Builtin.firstCells o.sz o.ys.length y).run P w = .ok vs w) (hle : o.l.length + o.ys.length ≤ cap) (hst : (storeCells ⟨b, off + o.l.length * o.sz, none⟩ vs.toList 0).run P w = .ok () w') :
    (Builtin.append_ argTypes ty #[.slice (some ⟨b, off, none⟩) o.l.length cap, y]).run P w = .ok (.slice (some ⟨b, off, none⟩) (o.l.length + o.ys.length) cap) w' := by
  obtain ⟨st, xt, e, xd, sz, by_, z, l, ys, h0, h1, hst', hxt, hint, hsz, hby, hz, rfl, hY, hzs, hb1, hbd, hl, hys⟩ := o
  have r1 := pr_run (pr_underlying hst') w
  have r2 := pr_run (pr_underlying hxt) w
  have r3 := run_sizeT hsz w
  simp only at hlen hfirst hle hst ⊢
  have hst2 : (storeCells ((⟨b, off, none⟩ : Addr).add (l.length * sz)) vs.toList).run P w = .ok () w' := by rw [addr_add]; exact hst
  cases xd <;> first | (simp [isRow] at hint; done) | simp [Builtin.append_, h0, h1, r1, r2, r3, hlen, hfirst, hle, hst2]

/-- An append that moves. -/
theorem run_append_grow {argTypes : Array TypeId} {ty : TypeId} {X Y : AVal} (o : AppendOk P argTypes X Y) {base : Option Addr} {cap : Nat} {y : Value} {olds vs : Array Value} (hlen : (Builtin.lenOf y).run P w = .ok o.ys.length w)
    (hgt : ¬ o.l.length + o.ys.length ≤ cap) (w1 : World) (hw1 : w1 = { w with drawn := w.drawn + 1 }) 
    (hold : (Builtin.firstCells o.sz o.l.length (.slice base o.l.length cap)).run P w1 = .ok olds w1) (hfirst : (Builtin.firstCells o.sz o.ys.length y).run P w1 = .ok vs w1) :
    (Builtin.append_ argTypes ty #[.slice base o.l.length cap, y]).run P w = .ok (.slice (some ⟨w.heap.size, 0, none⟩) (o.l.length + o.ys.length) ((Question.appendCap (o.l.length + o.ys.length) cap o.e).cut (w.tape w.drawn (.appendCap (o.l.length + o.ys.length) cap o.e))))
      (push w1 (.cells (olds ++ vs ++ Builtin.zeroCells o.z.cells ((Question.appendCap (o.l.length + o.ys.length) cap o.e).cut (w.tape w.drawn (.appendCap (o.l.length + o.ys.length) cap o.e)) - (o.l.length + o.ys.length))) o.e)) := by
  obtain ⟨st, xt, e, xd, sz, by_, z, l, ys, h0, h1, hst', hxt, hint, hsz, hby, hz, rfl, hY, hzs, hb1, hbd, hl, hys⟩ := o
  obtain ⟨i, hi, rfl⟩ := pr_bytesT hby
  have r1 := pr_run (pr_underlying hst') w
  have r2 := pr_run (pr_underlying hxt) w
  have r3 := run_sizeT hsz w
  have r4 := pr_run hi w
  have r4' := pr_run hi w1
  have r5 := pr_run (P := P) (pr_zeroT hz) w1
  simp only at hlen hgt hold hfirst hb1 hbd ⊢
  have hpow : (2 : Nat) ^ 47 * 2 ≤ 2 ^ 48 := by decide
  have hgrow := nextslicecap_le (n := l.length + ys.length) (c := cap) (by omega)
  have hroom : ¬ (2 ^ 48 < Builtin.nextslicecap (l.length + ys.length) cap * i.bytes) := by
    have h1 := Nat.mul_le_mul_right i.bytes hgrow
    have h2 : 2 * (l.length + ys.length) * i.bytes = 2 * ((l.length + ys.length) * i.bytes) := Nat.mul_assoc ..
    omega
  have hb0 : ¬ i.bytes = 0 := by omega
  have hforced : (Question.appendCap (l.length + ys.length) cap e).forced = false := rfl
  subst hw1
  cases xd <;> first | (simp [isRow] at hint; done) | (simp [Builtin.append_, h0, h1, r1, r2, r3, r4, hlen, hgt, hroom, hb0, hforced, r4', hold, hfirst, r5, newRow, push])

theorem rep_sl_inv {l : List AVal} {own : Bool} {v : Value} (h : Rep P κ w (.sl l own) v) : (l = [] ∧ v = .slice none 0 0) ∨ ∃ (b off cap sz : Nat) (cv : Nat → Value), v = .slice (some ⟨b, off, none⟩) l.length cap ∧ l.length ≤ cap ∧ (∀ e ∈ l, e.cells.length = sz) ∧
    (∀ j, j < (flat l).length → κ b (off + j) = .imm) ∧ (∀ j, j < (flat l).length → w.cell? ⟨b, off + j, none⟩ = some (cv j)) ∧ (∀ (j : Nat) c, (flat l)[j]? = some c → Rep P κ w c (cv j)) ∧ (own = true → cap = l.length ∨ (l ≠ [] ∧ esz P w b = sz ∧ b < w.heap.size)) := by
  cases h with
  | nil => exact .inl ⟨rfl, rfl⟩
  | sl _ _ b off cap sz cv hcap hsz hk hw hr ho => exact .inr ⟨b, off, cap, sz, cv, rfl, hcap, hsz, hk, hw, hr, ho⟩

/-- An append that moves. -/
theorem append_moves {T : Nat → AVal} {V : Nat → Value} {M : Mem} (h : Holds P κ T V M w) (d : Nat) {argTypes : Array TypeId} {ty : TypeId} {X Y : AVal} {y : Value} (hy : Rep P κ w Y y) (o : AppendOk P argTypes X Y)
    (base : Option Addr) (cap : Nat) (olds : Array Value) (hgt : ¬ o.l.length + o.ys.length ≤ cap)
    (hold : ∀ n, (Builtin.firstCells o.sz o.l.length (.slice base o.l.length cap)).run P { w with drawn := n } = .ok olds { w with drawn := n }) (hos : olds.size = o.l.length * o.sz)
    (hor : ∀ (j : Nat) c v, (flat o.l)[j]? = some c → olds[j]? = some v → Rep P κ w c v) :
    ∃ v κ' w', (Builtin.append_ argTypes ty #[.slice base o.l.length cap, y]).run P w = .ok v w' ∧ Holds P κ' (setT T d (.sl (o.l ++ o.ys) true)) (fun t => if t = d then v else V t) M w' ∧ Keep κ w κ' w' := by
  obtain ⟨vs, hlen, hfirst, hvs, hvr⟩ := run_firstCells hy o.hY o.hys
  have hout : flat (o.l ++ o.ys) = flat o.l ++ flat o.ys := by unfold flat; rw [List.flatMap_append]
  have hfl := flat_length o.hl
  have hfy := flat_length (fun e he => (o.hys e he).2)
  have hsizes : ∀ E ∈ o.l ++ o.ys, E.cells.length = o.sz := fun E hE => by
    rcases List.mem_append.1 hE with h' | h'
    · exact o.hl E h'
    · exact (o.hys E h').2
  obtain ⟨h1, hk1⟩ := h.drawn (w.drawn + 1)
  have hy1 : Rep P κ { w with drawn := w.drawn + 1 } Y y := hk1.rep hy
  obtain ⟨vs1, hlen1, hfirst1, hvs1, hvr1⟩ := run_firstCells hy1 o.hY o.hys
  have hrun := run_append_grow (ty := ty) o (base := base) (cap := cap) (y := y) hlen hgt _ rfl (hold _) hfirst1
  generalize hnc : (Question.appendCap (o.l.length + o.ys.length) cap o.e).cut (w.tape w.drawn (.appendCap (o.l.length + o.ys.length) cap o.e)) = newCap at hrun
  have hncle : o.l.length + o.ys.length ≤ newCap := by
    rw [← hnc]; simp only [Question.cut]; omega
  have hzc : ∀ n, (Builtin.zeroCells o.z.cells n).size = n * o.sz := fun n => by simp [Builtin.zeroCells, o.hzs]
  have hcells : (olds ++ vs1 ++ Builtin.zeroCells o.z.cells (newCap - (o.l.length + o.ys.length))).size = newCap * o.sz := by
    simp only [Array.size_append, hos, hvs1, hzc]
    rw [← Nat.add_mul, ← Nat.add_mul]
    congr 1
    omega
  obtain ⟨h2, hk2⟩ := h1.newSl d (l := o.l ++ o.ys) (cs := olds ++ vs1 ++ Builtin.zeroCells o.z.cells (newCap - (o.l.length + o.ys.length))) (cap := newCap) (e := o.e) (fr := (0, 0)) o.hsz hcells (by rw [List.length_append]; exact hncle) (by
      by_cases hz : o.l ++ o.ys = []
      · exact absurd (by have := congrArg List.length hz; simp only [List.length_append, List.length_nil] at this; omega) hgt
      · exact .inl hz) hsizes
    (fun j c v e1 e2 => by
      rw [hout] at e1
      by_cases hj : j < (flat o.l).length
      · rw [List.getElem?_append_left hj] at e1
        rw [Array.append_assoc, Array.getElem?_append_left (by omega)] at e2
        exact hk1.rep (hor j c v e1 e2)
      · rw [List.getElem?_append_right (by omega)] at e1
        have hj2 : j - (flat o.l).length < (flat o.ys).length := by
          rcases Nat.lt_or_ge (j - (flat o.l).length) (flat o.ys).length with h' | h'
          · exact h'
          · rw [List.getElem?_eq_none h'] at e1; cases e1
        rw [Array.append_assoc, Array.getElem?_append_right (by omega), Array.getElem?_append_left (by omega)] at e2
        rw [show j - olds.size = j - (flat o.l).length from by omega] at e2
        exact (hvr1 _ c v e1 e2).1) (fun o' _ => by simp)
  refine ⟨_, _, _, hrun, ?_, hk1.trans hk2⟩
  have e0 : (o.l ++ o.ys).length = o.l.length + o.ys.length := List.length_append
  have e1 : (fun t => if t = d then Value.slice (some ⟨w.heap.size, 0, none⟩) (o.l.length + o.ys.length) newCap else V t) = fun t => if t = d then Value.slice (some ⟨w.heap.size, 0, none⟩) (o.l ++ o.ys).length newCap else V t := by rw [e0]
  rw [e1]
  exact h2

theorem append_slot {T : Nat → AVal} {V : Nat → Value} {M : Mem} (h : Holds P κ T V M w) (s d : Nat) (hsd : s ≠ d) {argTypes : Array TypeId} {ty : TypeId} {Y : AVal} {y : Value} {out : List AVal} (hy : Rep P κ w Y y) (ha : aAppend P argTypes (T s) Y = some out) :
    ∃ v κ' w', (Builtin.append_ argTypes ty #[V s, y]).run P w = .ok v w' ∧ Holds P κ' (setT (setT T s (T s).shut) d (.sl out true)) (fun t => if t = d then v else V t) M w' ∧ Keep κ w κ' w' := by
  obtain ⟨o, rfl⟩ := aAppend_ok ha
  have hTs := h.tmp s
  have hX := o.hX
  obtain ⟨vs, hlen, hfirst, hvs, hvr⟩ := run_firstCells hy o.hY o.hys
  have hout : flat (o.l ++ o.ys) = flat o.l ++ flat o.ys := by unfold flat; rw [List.flatMap_append]
  have hfl := flat_length o.hl
  have hfy := flat_length (fun e he => (o.hys e he).2)
  have hsizes : ∀ E ∈ o.l ++ o.ys, E.cells.length = o.sz := fun E hE => by
    rcases List.mem_append.1 hE with h' | h'
    · exact o.hl E h'
    · exact (o.hys E h').2
  have move : ∀ (base : Option Addr) (cap : Nat) (olds : Array Value), V s = .slice base o.l.length cap → ¬ o.l.length + o.ys.length ≤ cap →
      (∀ n, (Builtin.firstCells o.sz o.l.length (.slice base o.l.length cap)).run P { w with drawn := n } = .ok olds { w with drawn := n }) → olds.size = o.l.length * o.sz → (∀ (j : Nat) c v, (flat o.l)[j]? = some c → olds[j]? = some v → Rep P κ w c v) →
      ∃ v κ' w', (Builtin.append_ argTypes ty #[V s, y]).run P w = .ok v w' ∧ Holds P κ' (setT (setT T s (T s).shut) d (.sl (o.l ++ o.ys) true)) (fun t => if t = d then v else V t) M w' ∧ Keep κ w κ' w' := by
    intro base cap olds hV hgt hold hos hor
    rw [hV]
    exact append_moves (h.lose s) d hy o base cap olds hgt hold hos hor
  rw [hX] at hTs
  rcases rep_sl_inv hTs with ⟨hl0, hV⟩ | ⟨b, off, cap, sz', cv, hV, hcap, hsz, hk, hw, hr, ho⟩
  · by_cases hys : o.ys = []
    · refine ⟨.slice none 0 0, κ, w, ?_, ?_, Keep.refl κ w⟩
      · rw [hV]
        have r1 := pr_run (pr_underlying o.hst) w
        have r2 := pr_run (pr_underlying o.hxt) w
        have r3 := run_sizeT o.hsz w
        have hint := o.hint
        rw [hys] at hlen hfirst
        simp only [List.length_nil] at hlen hfirst
        generalize o.xd = xd at hint r2
        cases xd <;> first | (simp [isRow] at hint; done) | simp [Builtin.append_, o.h0, o.h1, r1, r2, r3, hlen, hfirst]
      · rw [hl0, hys]
        exact (h.lose s).put d (.nil true) fun b' o' hsp => by
          obtain ⟨_, _, _, _, e, _⟩ := hsp.sl
          cases e
    · refine move none 0 #[] (by rw [hV, hl0]; rfl) (by rw [hl0]; cases hq : o.ys with | nil => exact absurd hq hys | cons => simp) (fun n => rfl) (by rw [hl0]; simp) (fun j c v e => by rw [hl0] at e; simp [flat] at e)
  · by_cases hle : o.l.length + o.ys.length ≤ cap
    · by_cases hys : o.ys = []
      · obtain hm := h.move s d hsd
        refine ⟨V s, mvTag κ s d, w, ?_, ?_, Keep.tags (fun _ _ => mvTag_imm.2) (fun _ _ => mvTag_frame.2)⟩
        · rw [hV]
          have := run_append_room (ty := ty) o (b := b) (off := off) (cap := cap) (w' := w) hlen hfirst hle (by
            have : vs.toList = [] := by
              apply List.eq_nil_of_length_eq_zero
              rw [Array.length_toList, hvs, hys]; simp
            rw [this]; rfl)
          rw [hys] at this
          exact this
        · rw [hys, List.append_nil, ← hX]
          exact hm
      · obtain ⟨hln, hez, hbs⟩ : o.l ≠ [] ∧ esz P w b = sz' ∧ b < w.heap.size := by
          rcases ho rfl with h' | h'
          · have : o.ys.length = 0 := by omega
            exact absurd (List.eq_nil_of_length_eq_zero this) hys
          · exact h'
        have hzz : sz' = o.sz := by
          obtain ⟨E, hE⟩ := List.exists_mem_of_ne_nil _ hln
          exact (hsz E hE).symm.trans (o.hl E hE)
        subst hzz
        have hcapsz : (o.l.length + o.ys.length) * o.sz ≤ cap * o.sz := Nat.mul_le_mul_right _ hle
        have hadd : (o.l.length + o.ys.length) * o.sz = o.l.length * o.sz + o.ys.length * o.sz := Nat.add_mul ..
        have hvone : ∀ v ∈ vs.toList, one v = true := by
          intro v hv
          obtain ⟨j, hj, he⟩ := List.mem_iff_getElem.1 hv
          rw [Array.length_toList] at hj
          have hc : (flat o.ys)[j]? = some (flat o.ys)[j] := List.getElem?_eq_getElem (by omega)
          have := hvr j _ v hc (by rw [← he]; simp)
          exact unit_one this.1 this.2
        obtain ⟨w', hst, h1, hk1, hcl, -⟩ := run_storeSpare (P := P) (b := b) (o := off + o.l.length * o.sz) (s := s) vs.toList 0 w h (fun j hj => by
          rw [Array.length_toList] at hj
          refine h.sp s b _ (.inl ⟨o.l, off, cap, hX, hV, ?_, ?_⟩)
          · rw [hez]; omega
          · rw [hez]; omega) hvone
        obtain ⟨h2, hk2⟩ := h1.grow s d hsd (l := o.l) (ys := o.ys) (b := b) (off := off) (cap := cap) (sz := o.sz) hX hV o.hl (fun E hE => (o.hys E hE).2) hle (by simp [hln]) ((esz_shape (hk1.shape b hbs)).trans hez) (Nat.lt_of_lt_of_le hbs hk1.size) (fun j => vs.getD j undef)
          (fun j hj => by
            have := hcl j (vs.getD j undef) (by
              have : j < vs.size := by omega
              simp [this])
            rw [Nat.zero_add, Nat.add_assoc] at this
            exact this)
          (fun j c hc => by
            have hj : j < (flat o.ys).length := by
              rcases Nat.lt_or_ge j (flat o.ys).length with h' | h'
              · exact h'
              · rw [List.getElem?_eq_none h'] at hc; cases hc
            have hj2 : j < vs.size := by omega
            exact hk1.rep (hvr j c _ hc (by simp [hj2])).1)
        refine ⟨_, _, w', ?_, h2, hk1.trans hk2⟩
        rw [hV]
        exact run_append_room o hlen hfirst hle hst
    · refine move (some ⟨b, off, none⟩) cap ((List.range (o.l.length * o.sz)).map cv).toArray hV hle (fun n => ?_) (by simp) (fun j c v e1 e2 => ?_)
      · show (loadCells ⟨b, off, none⟩ (o.l.length * o.sz)).run P { w with drawn := n } = _
        exact run_loadCells cv fun j hj => hw j (by omega)
      · have hj : j < (flat o.l).length := by
          rcases Nat.lt_or_ge j (flat o.l).length with h' | h'
          · exact h'
          · rw [List.getElem?_eq_none h'] at e1; cases e1
        have hj2 : j < o.l.length * o.sz := by omega
        simp [hj2] at e2
        subst e2
        exact hr j c e1

theorem run_append_nothing {argTypes : Array TypeId} {ty : TypeId} {X Y : AVal} {y : Value} (o : AppendOk P argTypes X Y) (hys : o.ys = []) (hy : Rep P κ w Y y) : (Builtin.append_ argTypes ty #[.slice none 0 0, y]).run P w = .ok (.slice none 0 0) w := by
  obtain ⟨vs, hlen, hfirst, hvs, hvr⟩ := run_firstCells hy o.hY o.hys
  have r1 := pr_run (pr_underlying o.hst) w
  have r2 := pr_run (pr_underlying o.hxt) w
  have r3 := run_sizeT o.hsz w
  have hint := o.hint
  rw [hys] at hlen hfirst
  simp only [List.length_nil] at hlen hfirst
  generalize o.xd = xd at hint r2
  cases xd <;> first | (simp [isRow] at hint; done) | simp [Builtin.append_, o.h0, o.h1, r1, r2, r3, hlen, hfirst]

theorem append_nil {T : Nat → AVal} {V : Nat → Value} {M : Mem} (h : Holds P κ T V M w) (d : Nat) {argTypes : Array TypeId} {ty : TypeId} {Y : AVal} {y : Value} {out : List AVal} (hy : Rep P κ w Y y) (ha : aAppend P argTypes (.sl [] true) Y = some out) :
    ∃ v κ' w', (Builtin.append_ argTypes ty #[.slice none 0 0, y]).run P w = .ok v w' ∧ Holds P κ' (setT T d (.sl out true)) (fun t => if t = d then v else V t) M w' ∧ Keep κ w κ' w' := by
  obtain ⟨o, rfl⟩ := aAppend_ok ha
  have hl0 : o.l = [] := by have := o.hX; injection this with h1 _; exact h1.symm
  by_cases hys : o.ys = []
  · refine ⟨.slice none 0 0, κ, w, run_append_nothing o hys hy, ?_, Keep.refl κ w⟩
    rw [hl0, hys]
    exact h.put d (.nil true) fun b' o' hsp => by
      obtain ⟨_, _, _, _, e, _⟩ := hsp.sl
      cases e
  · have := append_moves (ty := ty) h d hy o none 0 #[] (by rw [hl0]; cases hq : o.ys with | nil => exact absurd hq hys | cons => simp) (fun n => by rw [hl0]; rfl) (by rw [hl0]; simp) (fun j c v e => by rw [hl0] at e; simp [flat] at e)
    have e0 : Value.slice none o.l.length 0 = .slice none 0 0 := by rw [hl0]; rfl
    rw [e0] at this
    exact this

end
end Go.Am
