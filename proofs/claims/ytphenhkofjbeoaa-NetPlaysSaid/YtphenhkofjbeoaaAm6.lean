import Derived.Test.YtphenhkofjbeoaaAm5
namespace Go.Am
section
variable {P : Program} {κ : Ghost} {w : World}

/-- Cells of temporaries. -/
def RepL (P : Program) (κ : Ghost) (w : World) (cs : List AVal) (vs : Array Value) : Prop :=
  cs.length = vs.size ∧ ∀ (i : Nat) c v, cs[i]? = some c → vs[i]? = some v → Rep P κ w c v

theorem unit_one {V : AVal} {v : Value} (h : Rep P κ w V v) (hu : V.unit = true) : one v = true := by
  cases h with
  | raw v => exact hu
  | nil own => rfl
  | sl l own b off cap sz cv hcap hsz hk hw hr ho => rfl
  | sptr l i o b off sz cv hsz hk hw hr => rfl
  | _ => simp [AVal.unit] at hu

theorem ok_cells {V : AVal} {v : Value} (h : Rep P κ w V v) (hu : V.ok = true) : RepL P κ w V.cells v.cells ∧ ∀ c ∈ V.cells, c.unit = true := by
  have single : ∀ (V : AVal) (v : Value), Rep P κ w V v → V.cells = [V] → v.cells = #[v] → V.unit = true → RepL P κ w V.cells v.cells ∧ ∀ c ∈ V.cells, c.unit = true := by
    intro V v h e1 e2 e3
    rw [e1, e2]
    refine ⟨⟨rfl, fun i c u h1 h2 => ?_⟩, by simpa using e3⟩
    cases i with
    | zero =>
      simp only [List.getElem?_cons_zero, Option.some.injEq] at h1
      have h2' : v = u := by simpa using h2
      rw [← h1, ← h2']; exact h
    | succ i => simp at h1
  cases h with
  | undef v => simp [AVal.ok, AVal.unit] at hu
  | raw v =>
    have h1 : one v = true := hu
    refine single _ _ (.raw v) rfl ?_ hu
    cases v <;> first | rfl | simp [one] at h1
  | nil own => exact single _ _ (.nil own) rfl rfl rfl
  | sl l own b off cap sz cv hcap hsz hk hw hr ho => exact single _ _ (.sl l own b off cap sz cv hcap hsz hk hw hr ho) rfl rfl rfl
  | sptr l i o b off sz cv hsz hk hw hr => exact single _ _ (.sptr l i o b off sz cv hsz hk hw hr) rfl rfl rfl
  | agg cs vs hl hr => exact ⟨⟨hl, hr⟩, fun c hc => List.all_eq_true.1 hu c hc⟩
  | tup cs vs hl hr => simp [AVal.ok, AVal.unit] at hu

theorem foldl_set_get (off : Nat) : ∀ (xs : List Value) (k : Nat) (cells : Array Value) (i : Nat),
    ((xs.zipIdx k).foldl (fun cs (x : Value × Nat) => cs.setIfInBounds (off + x.2) x.1) cells)[i]? = if off + k ≤ i ∧ i < off + k + xs.length ∧ i < cells.size then xs[i - (off + k)]? else cells[i]?
  | [], k, cells, i => by
    rw [if_neg (by simp; omega)]; rfl
  | x :: xs, k, cells, i => by
    rw [List.zipIdx_cons, List.foldl_cons, foldl_set_get off xs (k + 1)]
    simp only [List.length_cons, Array.size_setIfInBounds]
    by_cases h1 : off + (k + 1) ≤ i ∧ i < off + (k + 1) + xs.length ∧ i < cells.size
    · rw [if_pos h1, if_pos (by omega), show i - (off + k) = (i - (off + (k + 1))) + 1 from by omega, List.getElem?_cons_succ]
    · rw [if_neg h1]
      by_cases h2 : i = off + k
      · subst h2
        by_cases h3 : off + k < cells.size
        · rw [if_pos (by omega), Nat.sub_self, List.getElem?_cons_zero, Array.getElem?_setIfInBounds_self_of_lt h3]
        · rw [if_neg (by omega), Array.getElem?_eq_none (by simp; omega), Array.getElem?_eq_none (by omega)]
      · rw [if_neg (by omega), Array.getElem?_setIfInBounds_ne (by omega)]

theorem foldl_set_size (off : Nat) : ∀ (xs : List Value) (k : Nat) (cells : Array Value), ((xs.zipIdx k).foldl (fun cs (x : Value × Nat) => cs.setIfInBounds (off + x.2) x.1) cells).size = cells.size
  | [], _, _ => rfl
  | x :: xs, k, cells => by rw [List.zipIdx_cons, List.foldl_cons, foldl_set_size off xs (k + 1)]; simp

theorem aFill_rep {place : Nat → Option (Nat × Nat)} : ∀ (parts : List (Nat × AVal)) (us : List (Nat × Value)) (cs : List AVal) (vs : Array Value) (out : List AVal),
    parts.length = us.length → (∀ (i : Nat) p u, parts[i]? = some p → us[i]? = some u → p.1 = u.1 ∧ Rep P κ w p.2 u.2) → RepL P κ w cs vs → aFill place cs parts = some out →
    ∃ r, Instr.fill place vs us = some r ∧ RepL P κ w out r
  | [], us, cs, vs, out, hl, _, hc, h => by
    have : us = [] := by cases us <;> simp_all
    subst this
    simp only [aFill, Option.some.injEq] at h
    subst h
    exact ⟨vs, rfl, hc⟩
  | (i, V) :: parts, us, cs, vs, out, hl, hp, hc, h => by
    cases us with
    | nil => simp at hl
    | cons u us =>
      obtain ⟨j, v⟩ := u
      obtain ⟨e, hv⟩ := hp 0 (i, V) (j, v) rfl rfl
      simp only at e
      subst e
      simp only [aFill] at h
      split at h
      · cases h
      · rename_i off size hpl
        split at h
        · cases h
        · rename_i hcond
          simp only [Bool.or_eq_true, ne_eq, decide_eq_true_eq, not_or, Classical.not_not, Nat.not_lt, gt_iff_lt, Bool.not_eq_false] at hcond
          obtain ⟨⟨hc0, hc1⟩, hc2⟩ := hcond
          replace hv := (ok_cells hv hc0).1
          have hvs : V.cells.length = v.cells.size := hv.1
          have hcs := hc.1
          have hstep : RepL P κ w (cs.take off ++ V.cells ++ cs.drop (off + V.cells.length)) (v.cells.zipIdx.foldl (fun cs (c, j) => cs.setIfInBounds (off + j) c) vs) := by
            have hfold : v.cells.zipIdx.foldl (fun cs (c, j) => cs.setIfInBounds (off + j) c) vs = (v.cells.toList.zipIdx 0).foldl (fun cs (x : Value × Nat) => cs.setIfInBounds (off + x.2) x.1) vs := by
              rw [← Array.foldl_toList, Array.toList_zipIdx]
            rw [hfold]
            refine ⟨?_, fun i' c x h1 h2 => ?_⟩
            · rw [foldl_set_size]
              simp only [List.length_append, List.length_take, List.length_drop]
              omega
            · rw [foldl_set_get] at h2
              simp only [Nat.add_zero, Array.length_toList] at h2
              by_cases hA : i' < off
              · rw [if_neg (by omega)] at h2
                rw [List.append_assoc, List.getElem?_append_left (by simp; omega), List.getElem?_take, if_pos hA] at h1
                exact hc.2 _ _ _ h1 h2
              · by_cases hB : i' < off + V.cells.length
                · rw [if_pos (by omega)] at h2
                  rw [List.append_assoc, List.getElem?_append_right (by simp; omega), List.getElem?_append_left (by simp; omega)] at h1
                  simp only [List.length_take, Nat.min_eq_left (show off ≤ cs.length by omega)] at h1
                  exact hv.2 _ _ _ h1 (by simpa using h2)
                · rw [if_neg (by omega)] at h2
                  rw [List.append_assoc, List.getElem?_append_right (by simp; omega), List.getElem?_append_right (by simp; omega), List.getElem?_drop] at h1
                  simp only [List.length_take, Nat.min_eq_left (show off ≤ cs.length by omega)] at h1
                  rw [show off + V.cells.length + (i' - off - V.cells.length) = i' from by omega] at h1
                  exact hc.2 _ _ _ h1 h2
          obtain ⟨r, hr1, hr2⟩ := aFill_rep parts us _ _ out (by simpa using hl) (fun i p u h1 h2 => hp (i + 1) p u (by simpa using h1) (by simpa using h2)) hstep h
          refine ⟨r, ?_, hr2⟩
          simp only [Instr.fill, hpl]
          rw [if_neg (by simp only [Bool.or_eq_true, ne_eq, decide_eq_true_eq, not_or, Classical.not_not, Nat.not_lt, gt_iff_lt]; omega)]
          exact hr1

theorem pr_mapM_list {α β : Type} (f : α → Sem β) : ∀ l : List α, pr P (l.mapM f) = l.mapM fun x => pr P (f x)
  | [] => rfl
  | x :: l => by
    rw [List.mapM_cons, List.mapM_cons, pr_bind']
    cases hx : pr P (f x) with
    | none => rfl
    | some y =>
      simp only [Option.bind_some, Option.bind_eq_bind]
      rw [pr_bind', pr_mapM_list f l]
      rfl

theorem pr_zeroT {t : TypeId} {z : Value} (h : zeroT P t = some z) : pr P (zeroValue t) = some z := by
  unfold zeroT at h
  cases hi : P.info? t with
  | none => rw [hi] at h; cases h
  | some i =>
    rw [hi] at h
    simp only [Option.bind_some] at h
    have hti : pr P (typeInfo t) = some i := by
      show pr P (Sem.bind program _) = _
      rw [pr_bind]
      show pr P (match P.info? t with | some i => pure i | none => stuck "no such type") = _
      rw [hi]; rfl
    show pr P ((typeInfo t).bind _) = _
    rw [pr_bind, hti]
    show pr P (match i.zero with | some v => pure v | none => _) = _
    rw [h]; rfl

theorem run_aBuild {T : Nat → AVal} {a : Act} (hT : ∀ t, Rep P κ w (T t) (a.eval (.tmp t))) {t : TypeId} {parts : Array (Nat × Operand)} {V : AVal} (h : aBuild P T t parts.toList = some V) :
    ∃ u, (Instr.build t (parts.map fun (i, x) => (i, a.eval x))).run P w = .ok u w ∧ Rep P κ w V u := by
  unfold aBuild at h
  split at h
  · rename_i z pl hz hp
    simp only [Option.map_eq_some_iff] at h
    obtain ⟨out, h1, rfl⟩ := h
    have hz0 : RepL P κ w (z.cells.toList.map .raw) z.cells := by
      refine ⟨by simp, fun i c v e1 e2 => ?_⟩
      simp only [List.getElem?_map, Array.getElem?_toList, e2, Option.map_some, Option.some.injEq] at e1
      subst e1; exact .raw v
    obtain ⟨r, hr1, hr2⟩ := aFill_rep (P := P) (κ := κ) (w := w) _ (parts.map fun (i, x) => (i, a.eval x)).toList _ _ out (by simp)
      (fun i p u e1 e2 => by
        simp only [List.getElem?_map, Array.toList_map, Option.map_eq_some_iff] at e1 e2
        obtain ⟨⟨n, x⟩, e3, rfl⟩ := e1
        obtain ⟨⟨n', x'⟩, e4, rfl⟩ := e2
        rw [e3] at e4
        obtain ⟨rfl, rfl⟩ := Prod.mk.inj (Option.some.inj e4)
        exact ⟨rfl, ev_rep hT _⟩) hz0 h1
    refine ⟨.agg r, pr_run ?_ w, .agg _ _ hr2.1 hr2.2⟩
    show pr P ((zeroValue t).bind _) = _
    rw [pr_bind, pr_zeroT hz]
    unfold aPlaces at hp
    split at hp
    · rename_i fs hu
      simp only [Option.map_eq_some_iff] at hp
      obtain ⟨ps, hp1, rfl⟩ := hp
      show pr P ((underlying t).bind _) = _
      rw [pr_bind, pr_underlying hu]
      show pr P (Sem.bind (fs.mapM fun f => (sizeOf f.type) >>= fun n => pure (f.offset, n)) _) = _
      have hfs : pr P (fs.mapM fun f => (sizeOf f.type) >>= fun n => (pure (f.offset, n) : Sem (Nat × Nat))) = some ps := by
        rw [Array.mapM_eq_mapM_toList]
        rw [Array.mapM_eq_mapM_toList] at hp1
        show pr P ((fs.toList.mapM _) >>= fun l => pure l.toArray) = _
        rw [pr_bind', pr_mapM_list]
        have : (fun x : Field => pr P (sizeOf x.type >>= fun n => (pure (x.offset, n) : Sem (Nat × Nat)))) = fun f => (sizeT P f.type).map fun n => (f.offset, n) := by
          funext f
          rw [pr_bind']
          cases hs : sizeT P f.type with
          | some n => rw [pr_sizeT hs]; rfl
          | none =>
            have : pr P (sizeOf f.type) = none := by
              show pr P ((typeInfo f.type).bind _) = _
              rw [pr_bind]
              have : pr P (typeInfo f.type) = none := by
                show pr P (Sem.bind program _) = _
                rw [pr_bind]
                show pr P (match P.info? f.type with | some i => pure i | none => stuck "no such type") = _
                unfold sizeT at hs
                simp only [Option.map_eq_none_iff] at hs
                rw [hs]; rfl
              rw [this]; rfl
            rw [this]; rfl
        rw [this]
        simp only [Option.map_eq_map, Option.map_eq_some_iff] at hp1
        obtain ⟨l, hl1, hl2⟩ := hp1
        rw [hl1, ← hl2]; rfl
      rw [pr_bind, hfs]
      dsimp only [Option.bind_some]
      rw [hr1]; rfl
    · rename_i n e hu
      simp only [Option.map_eq_some_iff] at hp
      obtain ⟨k, hp1, rfl⟩ := hp
      show pr P ((underlying t).bind _) = _
      rw [pr_bind, pr_underlying hu]
      show pr P (Sem.bind (sizeOf e) _) = _
      rw [pr_bind, pr_sizeT hp1]
      dsimp only [Option.bind_some]
      rw [hr1]; rfl
    · cases hp
  · cases h

end
end Go.Am
