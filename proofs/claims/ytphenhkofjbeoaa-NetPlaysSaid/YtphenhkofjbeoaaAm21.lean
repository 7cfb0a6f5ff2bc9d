import Derived.Test.YtphenhkofjbeoaaAm20
namespace Go.Am
section
variable {P : Program} {κ : Ghost} {w : World} {a : Act} {o : Oper} {K : St → Prop} {Q : Exit → Act → World → Prop} {S : St}

theorem aArgs_get {T : Nat → AVal} {mv : Option Nat} : ∀ (xs : List Operand) (k i : Nat), (aArgs T mv k xs)[i]? = (xs[i]?).map fun x => if mv = some (k + i) then ev T x else (ev T x).shut
  | [], k, i => by simp [aArgs]
  | x :: xs, k, 0 => by simp [aArgs]
  | x :: xs, k, i + 1 => by
    simp only [aArgs, List.getElem?_cons_succ]
    rw [aArgs_get xs (k + 1) i, show k + 1 + i = k + (i + 1) from by omega]

theorem aArgs_length {T : Nat → AVal} {mv : Option Nat} : ∀ (xs : List Operand) (k : Nat), (aArgs T mv k xs).length = xs.length
  | [], _ => rfl
  | _ :: xs, k => by simp [aArgs, aArgs_length xs (k + 1)]

theorem sound_call (h : Holds P κ S.T (tv a) S.M w) (hd : ∀ d, o.dst = some d → d < a.tmps.size) {F : Operand} {args : Array Operand} {argTypes : Array TypeId} {mv : Option Nat} (hop : o.op = .call { callee := .value F, args, argTypes })
    (hs : aCall P mv (ev S.T F) args.toList o.dst S K) : o.wp P a w (Next P κ w a K) Q := by
  unfold aCall at hs
  split at hs
  · rename_i f first captured hF
    obtain ⟨hdst, hgo, hmv, Post, hcall, hK⟩ := hs
    obtain ⟨d, hdst⟩ := Option.isSome_iff_exists.1 hdst
    have hFe := rep_ev h F; rw [hF] at hFe
    have hrun : (execOp a.eval o).run P w = .ok (.enter f (first ++ args.map a.eval ++ captured)) w := by
      unfold execOp; rw [hop]
      show ((Deferred.ofValue (a.eval F) (args.map a.eval)) >>= fun d => invoke d.target d.args).run P w = _
      rw [rep_raw hFe]
      exact run_callFunc hgo _ w
    -- what is handed over, by the callee's count
    let mv' : Option (Nat × Nat) := match mv with
      | some k => (match args.toList[k]? with | some (.tmp s) => some (first.size + k, s) | _ => none)
      | none => none
    let S1 := S.loseArg mv args.toList
    have hL : (first.toList.map AVal.raw ++ aArgs S.T mv 0 args.toList ++ captured.toList.map AVal.raw).length = (first ++ args.map a.eval ++ captured).size := by
      simp [aArgs_length]
    have hget : ∀ (i : Nat) X, (first.toList.map AVal.raw ++ aArgs S.T mv 0 args.toList ++ captured.toList.map AVal.raw)[i]? = some X →
        (X = .raw ((first ++ args.map a.eval ++ captured).getD i undef)) ∨ ∃ j x, i = first.size + j ∧ args.toList[j]? = some x ∧ (first ++ args.map a.eval ++ captured).getD i undef = a.eval x ∧ X = (if mv = some j then ev S.T x else (ev S.T x).shut) := by
      intro i X hX
      by_cases h1 : i < first.size
      · rw [List.append_assoc, List.getElem?_append_left (by simpa using h1)] at hX
        left
        simp only [List.getElem?_map, Array.getElem?_toList, Array.getElem?_eq_getElem h1, Option.map_some, Option.some.injEq] at hX
        rw [← hX, Array.getD_eq_getD_getElem?, Array.append_assoc, Array.getElem?_append_left h1, Array.getElem?_eq_getElem h1, Option.getD_some]
      · by_cases h2 : i < first.size + args.size
        · right
          rw [List.append_assoc, List.getElem?_append_right (by simp; omega), List.getElem?_append_left (by rw [aArgs_length]; simp; omega)] at hX
          simp only [List.length_map, Array.length_toList] at hX
          rw [aArgs_get] at hX
          simp only [Option.map_eq_some_iff, Nat.zero_add] at hX
          obtain ⟨x, hx, rfl⟩ := hX
          refine ⟨i - first.size, x, by omega, hx, ?_, rfl⟩
          rw [Array.getD_eq_getD_getElem?, Array.append_assoc, Array.getElem?_append_right (by omega), Array.getElem?_append_left (by simp; omega), Array.getElem?_map]
          rw [Array.getElem?_toList] at hx
          rw [hx]; rfl
        · left
          rw [List.getElem?_append_right (by simp [aArgs_length]; omega)] at hX
          simp only [List.length_append, List.length_map, Array.length_toList, aArgs_length] at hX
          simp only [List.getElem?_map, Array.getElem?_toList, Option.map_eq_some_iff] at hX
          obtain ⟨v, hv, rfl⟩ := hX
          rw [Array.getD_eq_getD_getElem?, Array.getElem?_append_right (by simp; omega)]
          simp only [Array.size_append, Array.size_map]
          rw [hv]; rfl
    have henter := h.enter mv' (first.toList.map AVal.raw ++ aArgs S.T mv 0 args.toList ++ captured.toList.map AVal.raw) (first ++ args.map a.eval ++ captured)
      (fun i X hX => by
        rcases hget i X hX with rfl | ⟨j, x, -, -, h3, rfl⟩
        · exact .raw _
        · rw [h3]
          split
          · exact rep_ev h x
          · exact (rep_ev h x).shut)
      (fun i X hX => by
        rcases hget i X hX with rfl | ⟨j, x, h1, h2, h3, rfl⟩
        · right; simp [AVal.free]
        · split
          · rename_i hm
            left
            subst hm
            obtain ⟨s, hs⟩ := hmv
            rw [hs] at h2; cases h2
            refine ⟨s, ?_, rfl, h3⟩
            simp only [mv', hs, h1]
          · right; exact AVal.shut_free _)
    have hlose : Holds P κ S1.T (tv a) S1.M w ∧ S1.M = S.M ∧ ∀ i s, mv' = some (i, s) → (S1.T s).free := by
      cases mv with
      | none => exact ⟨h, rfl, fun i s e => by have e' : (none : Option (Nat × Nat)) = some (i, s) := e; cases e'⟩
      | some k =>
        obtain ⟨s, hs⟩ := hmv
        have e1 : S1 = S.lose (.tmp s) := by simp only [S1, St.loseArg, hs]
        rw [e1]
        refine ⟨h.lose s, rfl, fun i s' e => ?_⟩
        simp only [mv', hs, Option.some.injEq, Prod.mk.injEq] at e
        rw [← e.2]
        show (setT S.T s (S.T s).shut s).free
        simp only [setT, if_true]
        exact AVal.shut_free _
    obtain ⟨hl1, hl2, hl3⟩ := hlose
    unfold Oper.wp
    rw [hrun, Oper.upon_enter]
    refine (hcall _ w (first ++ args.map a.eval ++ captured) hL.symm henter).mono fun e w' hpost => ?_
    obtain ⟨v, κ', r, M', rfl, hq, hH, hk⟩ := hpost
    obtain ⟨h1, h2⟩ := hl1.back mv' d hH hk hl3
    have := next_put (P := P) (κ := κ) (w := w) (w' := w') (v := v) (o := o) (K := K) (S' := { S1 with M := M' }) (X := r) hd (hK r M' hq) (fun d' e => by rw [hdst] at e; cases e; exact h1) (fun e => by rw [hdst] at e; cases e) h2
    exact this
  · exact hs.elim

theorem stepB_dst {n : Nat} (h : stepB n o = true) : ∀ d, o.dst = some d → d < n := fun d e => by
  unfold stepB at h
  simp only [Bool.and_eq_true, e, decide_eq_true_eq] at h
  exact h.1

/-- The zero values of the variables and elements that are made stand in cells. -/
def zeroB (P : Program) (o : Oper) : Bool :=
  match o.op with
  | .alloc t => ((zeroCellsT P t).map fun zs => zs.all AVal.unit).getD true
  | .makeSlice t _ _ => (match P.underlying t with | some (.slice e) => ((zeroCellsT P e).map fun zs => zs.all AVal.unit).getD true | _ => true)
  | _ => true

theorem astep_sound {tk : Option Nat} (h : Holds P κ S.T (tv a) S.M w) (hb : stepB a.tmps.size o = true) (hz : zeroB P o = true) (hs : astep P tk o S K) : o.wp P a w (Next P κ w a K) Q := by
  have hd := stepB_dst hb
  have hb2 := hb
  unfold stepB at hb2
  simp only [Bool.and_eq_true] at hb2
  replace hb2 := hb2.2
  have plain : ∀ {V}, aop P S.T S.M o.type o.op = some V → K (S.put o.dst V.shut) → o.wp P a w (Next P κ w a K) Q := fun hv hK => sound_plain h hd hv hK
  have dflt : ∀ op, o.op = op → (match aop P S.T S.M o.type op with | some V => K (S.put o.dst V.shut) | none => False) → o.wp P a w (Next P κ w a K) Q := fun op hop hs => by
    rw [← hop] at hs
    split at hs
    · rename_i V hv; exact plain hv hs
    · exact hs.elim
  unfold astep at hs
  cases hop : o.op <;> rw [hop] at hs hb2 <;> try exact dflt _ hop hs
  case move x =>
    refine sound_move h hd (.inl hop) (fun t e => ?_) hs
    subst e
    simpa using hb2
  case assign x =>
    refine sound_move h hd (.inr hop) (fun t e => ?_) hs
    subst e
    simpa using hb2
  case store t p x => exact sound_store h (by simpa using hb2) hop hs
  case alloc t =>
    dsimp only at hs
    split at hs
    · rename_i zs hzs
      refine sound_alloc h hd hop hzs ?_ hs
      unfold zeroB at hz
      rw [hop] at hz
      simpa [hzs] using hz
    · exact hs.elim
  case box t x => exact sound_box h hd hop hs.1 hs.2
  case buildSlice t len parts => exact sound_buildSlice h hd hop hs
  case makeMap t r =>
    cases r with
    | none => exact sound_makeMap h hd hop hs
    | some r => exact dflt _ hop hs
  case makeSlice t l c =>
    refine sound_makeSlice h hd hop (fun e zs hu hzs => ?_) hs
    unfold zeroB at hz
    rw [hop] at hz
    simpa [hu, hzs] using hz
  case mapUpdate t m k x => exact sound_mapUpdate h (by simpa using hb2) (.inl hop) hs
  case insert t m k x => exact sound_mapUpdate h (by simpa using hb2) (.inr hop) hs
  case load t x =>
    dsimp only at hs
    cases tk with
    | none => dsimp only at hs; exact dflt _ hop hs
    | some k => exact sound_take h hd hop hs
  case call c =>
    obtain ⟨callee, args, argTypes⟩ := c
    cases callee with
    | value F => exact sound_call h hd hop hs
    | invoke r m => exact dflt _ hop hs
    | builtin b =>
      cases b <;> try exact dflt _ hop hs
      case append =>
        dsimp only at hs
        split at hs
        · rename_i x y d hargs hdst
          split at hs
          · rename_i l ha
            refine sound_append h hd hop hargs hdst (fun t e => ?_) ha hs
            subst e
            simp only [hargs] at hb2
            simpa using hb2
          · exact hs.elim
        · exact hs.elim
      case delete =>
        dsimp only at hs
        split at hs
        · rename_i x y t hargs ht
          exact sound_delete h hd hop hargs ht hs
        · exact hs.elim

end
end Go.Am
