import Derived.Test.YtphenhkofjbeoaaAm4
namespace Go.Am
section
variable {P : Program} {κ : Ghost} {w : World}

theorem rep_raw {u v : Value} (h : Rep P κ w (.raw u) v) : v = u := by cases h; rfl

theorem run_aIndexAddr {t : TypeId} {X I V : AVal} {v i : Value} (hv : Rep P κ w X v) (hi : Rep P κ w I i) (h : aIndexAddr P t X I = some V) : ∃ u, (Instr.indexAt t v i).run P w = .ok u w ∧ Rep P κ w V u := by
  unfold aIndexAddr at h
  split at h
  · rename_i k n
    cases hi
    split at h
    · rename_i e hu
      split at h
      · rename_i sz hs
        split at h
        · rename_i l own
          split at h
          · rename_i hb
            split at h
            · rename_i E hE
              split at h
              · rename_i hc
                obtain rfl := Option.some.inj h
                cases hv with
                | nil => simp at hb; omega
                | sl _ _ b off cap sz' cv hcap hsz hk hw hr ho =>
                  have hz : sz' = sz := (hsz E (List.mem_of_getElem? hE)).symm.trans hc
                  subst hz
                  refine ⟨_, run_indexAt (.inr ⟨hu, cap, rfl⟩) hs hb.1 hb.2, ?_⟩
                  rw [addr_add]
                  exact .sptr l n.toNat 0 b off sz' cv hsz hk hw hr
              · cases h
            · cases h
          · cases h
        · rename_i b o len cap
          split at h
          · rename_i hb
            obtain rfl := Option.some.inj h
            cases hv
            refine ⟨_, run_indexAt (.inr ⟨hu, cap, rfl⟩) hs hb.1 hb.2, ?_⟩
            rw [addr_add]
            exact .raw _
          · cases h
        · cases h
      · cases h
    · rename_i len e hu
      split at h
      · rename_i sz hs
        split at h
        · rename_i b o
          split at h
          · rename_i hb
            obtain rfl := Option.some.inj h
            cases hv
            refine ⟨_, run_indexAt (.inl ⟨hu, rfl⟩) hs hb.1 hb.2, ?_⟩
            rw [addr_add]
            exact .raw _
          · cases h
        · rename_i l j o
          split at h
          · rename_i hb
            obtain rfl := Option.some.inj h
            cases hv with
            | sptr _ _ _ b off sz' cv hsz hk hw hr =>
              refine ⟨_, run_indexAt (.inl ⟨hu, rfl⟩) hs hb.1 hb.2, ?_⟩
              rw [addr_add, show off + (j * sz' + o) + n.toNat * sz = off + (j * sz' + (o + n.toNat * sz)) from by omega]
              exact .sptr l j _ b off sz' cv hsz hk hw hr
          · cases h
        · cases h
      · cases h
    · cases h
  · cases h

theorem run_aIndex {t : TypeId} {X I V : AVal} {v i : Value} (hv : Rep P κ w X v) (hi : Rep P κ w I i) (h : aIndex P t X I = some V) : ∃ u, (Instr.index t v i).run P w = .ok u w ∧ Rep P κ w V u := by
  unfold aIndex at h
  split at h
  · cases hv; cases hi
    simp only [Option.map_eq_some_iff] at h
    obtain ⟨u, h1, rfl⟩ := h
    exact ⟨u, pr_run h1 w, .raw u⟩
  · rename_i cs k n
    cases hi
    split at h
    · rename_i len e hu
      split at h
      · rename_i sz hs
        split at h
        · rename_i hb
          cases hv with
          | agg _ vs hl hr =>
            obtain ⟨u, h1, h2⟩ := run_part (w := w) hl hr h
            refine ⟨u, ?_, h2⟩
            show ((underlying t) >>= _).run P w = _
            rw [run_bind_pr (pr_underlying hu)]
            show (if 0 ≤ n ∧ n < (len : Int) then _ else _ : Sem Value).run P w = _
            rw [if_pos hb]
            show ((sizeOf e) >>= _).run P w = _
            rw [run_bind_pr (pr_sizeT hs)]
            exact h1
        · cases h
      · cases h
    · cases h
  · cases h

theorem aBound_some {T : Nat → AVal} {a : Act} (hT : ∀ t, Rep P κ w (T t) (a.eval (.tmp t))) {d n : Nat} {x : Operand} (h : aBound T d (some x) = some n) : ∃ k i, a.eval x = .int k i ∧ 0 ≤ i ∧ i.toNat = n := by
  unfold aBound at h
  have hx := ev_rep hT x
  dsimp only at h
  split at h
  · rename_i k i he
    rw [he] at hx
    split at h
    · rename_i h0
      exact ⟨k, i, rep_raw hx, h0, Option.some.inj h⟩
    · cases h
  · cases h

theorem pr_sliceBound {k : IntKind} {i : Int} {y : Nat} {c : BoundsCode} (h0 : 0 ≤ i) (h1 : i.toNat ≤ y) : pr P (Instr.sliceBound (.int k i) y c) = some i.toNat := by
  show pr P (if 0 ≤ i ∧ i ≤ (y : Int) then pure i.toNat else _) = _
  rw [if_pos ⟨h0, by omega⟩]; rfl

theorem pr_pure {α : Type} (x : α) : pr P (pure x : Sem α) = some x := rfl
theorem pr_bind' {α β : Type} (s : Sem α) (f : α → Sem β) : pr P (s >>= f) = (pr P s).bind fun a => pr P (f a) := pr_bind s f

theorem pr_sliceBounds {len cap x y m : Nat} (lo hi mx : Option Value) (hl : ∀ v, lo = some v → ∃ k i, v = .int k i ∧ 0 ≤ i ∧ i.toNat = x) (hl0 : lo = none → x = 0)
    (hh : ∀ v, hi = some v → ∃ k i, v = .int k i ∧ 0 ≤ i ∧ i.toNat = y) (hh0 : hi = none → y = len) (hm : ∀ v, mx = some v → ∃ k i, v = .int k i ∧ 0 ≤ i ∧ i.toNat = m) (hm0 : mx = none → m = cap)
    (h4 : mx.isSome = true → hi.isSome = true) (h1 : x ≤ y) (h2 : y ≤ m) (h3 : m ≤ cap) : pr P (Instr.sliceBounds true len cap lo hi mx) = some (x, y, m) := by
  cases mx with
  | none =>
    have hm := hm0 rfl
    subst hm
    cases hi with
    | none =>
      have hh := hh0 rfl
      subst hh
      cases lo with
      | none =>
        have hl := hl0 rfl
        subst hl
        rfl
      | some v =>
        obtain ⟨k, i, rfl, e2, e3⟩ := hl v rfl
        simp only [Instr.sliceBounds, pr_bind', pr_pure, Option.bind_some, pr_sliceBound e2 (show i.toNat ≤ y by omega), e3]
    | some u =>
      obtain ⟨k, i, rfl, e2, e3⟩ := hh u rfl
      cases lo with
      | none =>
        have hl := hl0 rfl
        subst hl
        simp only [Instr.sliceBounds, pr_bind', pr_pure, Option.bind_some, pr_sliceBound e2 (show i.toNat ≤ m by omega), e3]
      | some v =>
        obtain ⟨k', i', rfl, e2', e3'⟩ := hl v rfl
        simp only [Instr.sliceBounds, pr_bind', pr_pure, Option.bind_some, pr_sliceBound e2 (show i.toNat ≤ m by omega), e3, pr_sliceBound e2' (show i'.toNat ≤ y by omega), e3']
  | some r =>
    obtain ⟨k, i, rfl, e2, e3⟩ := hm r rfl
    cases hi with
    | none => exact absurd (h4 rfl) (by simp)
    | some u =>
      obtain ⟨k', i', rfl, e2', e3'⟩ := hh u rfl
      cases lo with
      | none =>
        have hl := hl0 rfl
        subst hl
        simp only [Instr.sliceBounds, pr_bind', pr_pure, Option.bind_some, pr_sliceBound e2 (show i.toNat ≤ cap by omega), e3, pr_sliceBound e2' (show i'.toNat ≤ m by omega), e3']
      | some v =>
        obtain ⟨k'', i'', rfl, e2'', e3''⟩ := hl v rfl
        simp only [Instr.sliceBounds, pr_bind', pr_pure, Option.bind_some, pr_sliceBound e2 (show i.toNat ≤ cap by omega), e3, pr_sliceBound e2' (show i'.toNat ≤ m by omega), e3', pr_sliceBound e2'' (show i''.toNat ≤ y by omega), e3'']

theorem mapM_rep {T : Nat → AVal} {a : Act} (hT : ∀ t, Rep P κ w (T t) (a.eval (.tmp t))) {x : Option Operand} {v : Option Value} (h : (x.mapM fun y => rawOf (ev T y)) = some v) : x.map a.eval = v := by
  cases x with
  | none => simp only [Option.mapM_none, Option.pure_def, Option.some.injEq] at h; rw [← h]; rfl
  | some y =>
    simp only [Option.mapM_some, Option.map_eq_map, Option.map_eq_some_iff] at h
    obtain ⟨u, h1, rfl⟩ := h
    simp only [Option.map_some]
    rw [rawOf_rep h1 (ev_rep hT y)]

theorem run_aSlice {T : Nat → AVal} {a : Act} (hT : ∀ t, Rep P κ w (T t) (a.eval (.tmp t))) {t : TypeId} {X V : AVal} {v : Value} {lo hi mx : Option Operand} (hv : Rep P κ w X v)
    (h : aSlice P T t X lo hi mx = some V) : ∃ u, (Instr.sliceAt t v (lo.map a.eval) (hi.map a.eval) (mx.map a.eval)).run P w = .ok u w ∧ Rep P κ w V u := by
  unfold aSlice at h
  split at h
  · rename_i l own
    split at h
    · rename_i e hu
      split at h
      · rename_i sz hs
        split at h
        · rename_i hall
          split at h
          · rename_i x y m hx hy hm
            split at h
            · rename_i hb
              obtain ⟨h1, h2, h3, h4⟩ := hb
              obtain rfl := Option.some.inj h
              have hsz0 : ∀ E ∈ l, E.cells.length = sz := fun E hE => by simpa using List.all_eq_true.1 hall E hE
              -- the three bounds
              have hbounds : ∀ cap, l.length ≤ cap → ∃ m', pr P (Instr.sliceBounds true l.length cap (lo.map a.eval) (hi.map a.eval) (mx.map a.eval)) = some (x, y, m') ∧ (mx.isSome = true → m' = m) ∧ (mx = none → m' = cap) := by
                intro cap hcap
                refine ⟨if mx.isSome then m else cap, pr_sliceBounds _ _ _ ?_ ?_ ?_ ?_ ?_ ?_ ?_ h1 ?_ ?_, ?_, ?_⟩
                · intro v hv
                  cases lo with
                  | none => cases hv
                  | some q =>
                    obtain ⟨k, i, e1, e2, e3⟩ := aBound_some hT hx
                    exact ⟨k, i, (Option.some.inj hv).symm.trans e1, e2, e3⟩
                · intro hv
                  cases lo with
                  | none => simpa [aBound] using hx.symm
                  | some q => cases hv
                · intro v hv
                  cases hi with
                  | none => cases hv
                  | some q =>
                    obtain ⟨k, i, e1, e2, e3⟩ := aBound_some hT hy
                    exact ⟨k, i, (Option.some.inj hv).symm.trans e1, e2, e3⟩
                · intro hv
                  cases hi with
                  | none => simpa [aBound] using hy.symm
                  | some q => cases hv
                · intro v hv
                  cases mx with
                  | none => cases hv
                  | some q =>
                    obtain ⟨k, i, e1, e2, e3⟩ := aBound_some hT hm
                    exact ⟨k, i, (Option.some.inj hv).symm.trans e1, e2, by simpa using e3⟩
                · intro hv
                  cases mx with
                  | none => simp
                  | some q => cases hv
                · intro hv
                  cases mx with
                  | none => cases hv
                  | some q =>
                    have := h4 rfl
                    cases hi with
                    | none => cases this
                    | some r => rfl
                · split <;> omega
                · split <;> omega
                · intro hv; rw [if_pos hv]
                · intro hv; subst hv; rfl
              cases hv with
              | nil =>
                obtain ⟨m', hb1, hb2, hb3⟩ := hbounds 0 (by simp)
                simp only [List.length_nil, Nat.le_zero_eq] at h3
                subst h3
                have hy0 : y = 0 := by omega
                subst hy0
                have hx0 : x = 0 := by omega
                subst hx0
                have hm0 : m' = 0 := by
                  cases mx with
                  | none => exact hb3 rfl
                  | some r => exact hb2 rfl
                subst hm0
                refine ⟨.slice none 0 0, pr_run ?_ w, ?_⟩
                · show pr P ((underlying t).bind _) = _
                  rw [pr_bind, pr_underlying hu]
                  show pr P ((underlying t).bind _) = _
                  rw [pr_bind, pr_underlying hu]
                  show pr P ((Instr.sliceBounds true 0 0 _ _ _).bind _) = _
                  rw [pr_bind, show pr P (Instr.sliceBounds true 0 0 (lo.map a.eval) (hi.map a.eval) (mx.map a.eval)) = _ from hb1]
                  show pr P ((sizeOf e).bind _) = _
                  rw [pr_bind, pr_sizeT hs]; rfl
                · simpa using Rep.nil _
              | sl _ _ b off cap sz' cv hcap hsz hk hw hr ho =>
                obtain ⟨m', hb1, hb2, hb3⟩ := hbounds cap hcap
                have hres : pr P (Instr.sliceAt t (.slice (some ⟨b, off, none⟩) l.length cap) (lo.map a.eval) (hi.map a.eval) (mx.map a.eval)) =
                    some (.slice (if m' = x then some ⟨b, off, none⟩ else some ⟨b, off + x * sz, none⟩) (y - x) (m' - x)) := by
                  show pr P ((underlying t).bind _) = _
                  rw [pr_bind, pr_underlying hu]
                  show pr P ((underlying t).bind _) = _
                  rw [pr_bind, pr_underlying hu]
                  show pr P ((Instr.sliceBounds true l.length cap _ _ _).bind _) = _
                  rw [pr_bind, hb1]
                  show pr P ((sizeOf e).bind _) = _
                  rw [pr_bind, pr_sizeT hs]
                  show some (Value.slice (if m' = x then some (⟨b, off, none⟩ : Addr) else Option.map (fun q => q.add (x * sz)) (some (⟨b, off, none⟩ : Addr))) (y - x) (m' - x)) = _
                  simp only [Option.map_some, addr_add]
                have hm'le : y ≤ m' := by
                  cases mx with
                  | none => rw [hb3 rfl]; omega
                  | some r => rw [hb2 rfl]; exact h2
                have hlen : ((l.take y).drop x).length = y - x := by simp; omega
                have hszs : ∀ E ∈ (l.take y).drop x, E.cells.length = sz := fun E hE => hsz0 E (List.mem_of_mem_take (List.mem_of_mem_drop hE))
                refine ⟨_, pr_run hres w, ?_⟩
                rw [show y - x = ((l.take y).drop x).length from hlen.symm]
                by_cases hm0 : m' = x
                · rw [if_pos hm0]
                  have hnil : (l.take y).drop x = [] := by
                    apply List.eq_nil_of_length_eq_zero; omega
                  rw [hnil]
                  refine .sl [] _ b off _ sz (fun _ => .bool false) (by simp) (by simp) (by simp [flat]) (by simp [flat]) (by simp [flat]) fun hown => .inl ?_
                  show m' - x = 0
                  omega
                · rw [if_neg hm0]
                  by_cases hle : l = []
                  · subst hle
                    simp only [List.take_nil, List.drop_nil]
                    refine .sl [] _ b _ _ sz (fun _ => .bool false) (by simp) (by simp) (by simp [flat]) (by simp [flat]) (by simp [flat]) fun hown => .inl ?_
                    simp only [Bool.and_eq_true, decide_eq_true_eq] at hown
                    have := hb2 hown.1
                    simp only [List.length_nil] at h3
                    show m' - x = 0
                    omega
                  · have hzz : sz' = sz := by
                      obtain ⟨E, hE⟩ := List.exists_mem_of_ne_nil l hle
                      exact (hsz E hE).symm.trans (hsz0 E hE)
                    subst hzz
                    have hfl := flat_length hsz
                    have hfl2 := flat_length hszs
                    have hget : ∀ (j : Nat), j < (flat ((l.take y).drop x)).length → (flat ((l.take y).drop x))[j]? = (flat l)[x * sz' + j]? := by
                      intro j hj
                      have e1 : l = l.take x ++ ((l.take y).drop x ++ l.drop y) := by
                        conv => lhs; rw [← List.take_append_drop y l]
                        rw [← List.append_assoc]
                        congr 1
                        conv => lhs; rw [← List.take_append_drop x (l.take y)]
                        rw [List.take_take, Nat.min_eq_left h1]
                      have e2 : flat l = flat (l.take x) ++ (flat ((l.take y).drop x) ++ flat (l.drop y)) := by
                        conv => lhs; rw [e1]
                        simp only [flat, List.flatMap_append]
                      have e3 : (flat (l.take x)).length = x * sz' := by
                        rw [flat_length (sz := sz') fun E hE => hsz E (List.mem_of_mem_take hE)]
                        rw [List.length_take, Nat.min_eq_left (by omega)]
                      rw [e2, List.getElem?_append_right (by omega), e3, Nat.add_sub_cancel_left, List.getElem?_append_left hj]
                    have hbnd : ∀ j, j < (flat ((l.take y).drop x)).length → x * sz' + j < (flat l).length := by
                      intro j hj
                      have := hget j hj
                      rw [List.getElem?_eq_getElem hj] at this
                      rcases Nat.lt_or_ge (x * sz' + j) (flat l).length with h' | h'
                      · exact h'
                      · rw [List.getElem?_eq_none h'] at this; cases this
                    refine .sl _ _ b _ _ sz' (fun j => cv (x * sz' + j)) (by omega) hszs (fun j hj => by rw [Nat.add_assoc]; exact hk _ (hbnd j hj)) (fun j hj => by rw [Nat.add_assoc]; exact hw _ (hbnd j hj))
                      (fun j c hc => hr _ c (by
                        have hj : j < (flat ((l.take y).drop x)).length := by
                          rcases Nat.lt_or_ge j (flat ((l.take y).drop x)).length with h' | h'
                          · exact h'
                          · rw [List.getElem?_eq_none h'] at hc; cases hc
                        rw [← hget j hj]; exact hc)) fun hown => .inl ?_
                    simp only [Bool.and_eq_true, decide_eq_true_eq] at hown
                    have := hb2 hown.1
                    omega
            · cases h
          · cases h
        · cases h
      · cases h
    · cases h
  · rename_i u
    split at h
    · rename_i x y z hx hy hz
      simp only [Option.map_eq_some_iff] at h
      obtain ⟨r, h1, rfl⟩ := h
      rw [rep_raw hv, mapM_rep hT hx, mapM_rep hT hy, mapM_rep hT hz]
      exact ⟨r, pr_run h1 w, .raw r⟩
    · cases h
  · cases h

end
end Go.Am
