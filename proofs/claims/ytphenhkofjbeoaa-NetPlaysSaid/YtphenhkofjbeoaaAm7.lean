import Derived.Test.YtphenhkofjbeoaaAm6
namespace Go.Am
section
variable {P : Program} {κ : Ghost} {w : World}

/-- The value that lies at a place of a map. -/
def valAt (es : List MapEntry) (r : Option (Nat × Value)) (i : Nat) : Option (Nat × Value) := r.bind fun x => (es[x.1 - i]?).map fun e => (x.1, e.val)

theorem findNow_keys (kind : TypeDesc) (k : Value) : ∀ (es es' : List MapEntry) (i : Nat) (r : Option (Nat × Value)), es.map (·.key) = es'.map (·.key) → Instr.findNow kind k es i = some r →
    Instr.findNow kind k es' i = some (valAt es' r i) ∧ ∀ x, r = some x → i ≤ x.1 ∧ x.1 - i < es.length
  | [], es', i, r, hk, h => by
    have : es' = [] := by cases es' <;> simp_all
    subst this
    simp only [Instr.findNow, Option.some.injEq] at h
    subst h
    exact ⟨rfl, fun x hx => by cases hx⟩
  | e :: es, es', i, r, hk, h => by
    cases es' with
    | nil => simp at hk
    | cons e' es' =>
      simp only [List.map_cons, List.cons.injEq] at hk
      obtain ⟨hk1, hk2⟩ := hk
      simp only [Instr.findNow] at h ⊢
      rw [← hk1]
      cases hs : Instr.sameNow kind k e.key with
      | none => rw [hs] at h; cases h
      | some b =>
        rw [hs] at h
        cases b with
        | true =>
          simp only [Option.some.injEq] at h
          subst h
          exact ⟨by simp [valAt], fun x hx => by cases hx; simp⟩
        | false =>
          simp only at h ⊢
          obtain ⟨h1, h2⟩ := findNow_keys kind k es es' (i + 1) r hk2 h
          refine ⟨?_, fun x hx => by have := h2 x hx; simp only [List.length_cons]; omega⟩
          rw [h1]
          cases r with
          | none => rfl
          | some x =>
            have := h2 x rfl
            simp only [valAt, Option.bind_some]
            rw [show x.1 - i = (x.1 - (i + 1)) + 1 from by omega, List.getElem?_cons_succ]

theorem findAsking_keys (kt : TypeId) (k : Value) : ∀ (es es' : List MapEntry) (i : Nat) (r : Option (Nat × Value)), es.map (·.key) = es'.map (·.key) → pr P (Instr.findAsking kt k es i) = some r →
    pr P (Instr.findAsking kt k es' i) = some (valAt es' r i) ∧ ∀ x, r = some x → i ≤ x.1 ∧ x.1 - i < es.length
  | [], es', i, r, hk, h => by
    have : es' = [] := by cases es' <;> simp_all
    subst this
    have h' : some (none : Option (Nat × Value)) = some r := h
    obtain rfl := Option.some.inj h'
    exact ⟨rfl, fun x hx => by cases hx⟩
  | e :: es, es', i, r, hk, h => by
    cases es' with
    | nil => simp at hk
    | cons e' es' =>
      simp only [List.map_cons, List.cons.injEq] at hk
      obtain ⟨hk1, hk2⟩ := hk
      have hu : ∀ (x : MapEntry) xs, pr P (Instr.findAsking kt k (x :: xs) i) = (pr P (Op.equal kt k x.key)).bind fun b => pr P (if b then (pure (some (i, x.val)) : Sem (Option (Nat × Value))) else Instr.findAsking kt k xs (i + 1)) := fun x xs => by
        show pr P (Sem.bind _ _) = _
        rw [pr_bind]
      rw [hu] at h ⊢
      rw [← hk1]
      cases hs : pr P (Op.equal kt k e.key) with
      | none => rw [hs] at h; cases h
      | some b =>
        rw [hs] at h
        simp only [Option.bind_some] at h ⊢
        cases b with
        | true =>
          simp only [if_true] at h ⊢
          have h' : some (some (i, e.val)) = some r := h
          obtain rfl := Option.some.inj h'
          exact ⟨by simp [valAt, pr_pure], fun x hx => by cases hx; simp⟩
        | false =>
          simp only [Bool.false_eq_true, if_false] at h ⊢
          obtain ⟨h1, h2⟩ := findAsking_keys kt k es es' (i + 1) r hk2 h
          refine ⟨?_, fun x hx => by have := h2 x hx; simp only [List.length_cons]; omega⟩
          rw [h1]
          cases r with
          | none => rfl
          | some x =>
            have := h2 x rfl
            simp only [valAt, Option.bind_some]
            rw [show x.1 - i = (x.1 - (i + 1)) + 1 from by omega, List.getElem?_cons_succ]

theorem findNow_none_keys (kind : TypeDesc) (k : Value) : ∀ (es es' : List MapEntry) (i : Nat), es.map (·.key) = es'.map (·.key) → Instr.findNow kind k es i = none → Instr.findNow kind k es' i = none
  | [], es', i, hk, h => by cases h
  | e :: es, es', i, hk, h => by
    cases es' with
    | nil => simp at hk
    | cons e' es' =>
      simp only [List.map_cons, List.cons.injEq] at hk
      obtain ⟨hk1, hk2⟩ := hk
      simp only [Instr.findNow] at h ⊢
      rw [← hk1]
      cases hs : Instr.sameNow kind k e.key with
      | none => rfl
      | some b =>
        rw [hs] at h
        cases b with
        | true => cases h
        | false => exact findNow_none_keys kind k es es' (i + 1) hk2 h

theorem findKey_keys {kt : TypeId} {k : Value} {es es' : List MapEntry} {r : Option (Nat × Value)} (hk : es.map (·.key) = es'.map (·.key)) (h : pr P (Instr.findKey kt k es) = some r) :
    pr P (Instr.findKey kt k es') = some (valAt es' r 0) ∧ ∀ x, r = some x → x.1 < es'.length := by
  have hlen : es.length = es'.length := by have := congrArg List.length hk; simpa using this
  have hu : ∀ xs, pr P (Instr.findKey kt k xs) = (pr P (underlying kt)).bind fun d => pr P (match Instr.findNow d k xs 0 with | some r => (pure r : Sem (Option (Nat × Value))) | none => Instr.findAsking kt k xs) := fun xs => by
    show pr P (Sem.bind _ _) = _
    rw [pr_bind]; rfl
  rw [hu] at h ⊢
  cases hd : pr P (underlying kt) with
  | none => rw [hd] at h; cases h
  | some d =>
    rw [hd] at h
    simp only [Option.bind_some] at h ⊢
    cases hf : Instr.findNow d k es 0 with
    | some q =>
      rw [hf] at h
      have h' : some q = some r := h
      obtain rfl := Option.some.inj h'
      obtain ⟨h1, h2⟩ := findNow_keys d k es es' 0 q hk hf
      rw [h1]
      exact ⟨rfl, fun x hx => by have := (h2 x hx).2; omega⟩
    | none =>
      rw [hf] at h
      rw [findNow_none_keys d k es es' 0 hk hf]
      obtain ⟨h1, h2⟩ := findAsking_keys kt k es es' 0 r hk h
      exact ⟨h1, fun x hx => by have := (h2 x hx).2; omega⟩

/-- Where a key stands, in a map whose keys are known. -/
theorem keyAt_run {kt : TypeId} {k : Value} {keys : List Value} {at? : Option Nat} {ents : Array MapEntry} (h : keyAt P kt k keys = some at?) (hk : ents.toList.map (·.key) = keys) :
    (at? = none → pr P (Instr.findKey kt k ents.toList) = some none) ∧ ∀ i, at? = some i → ∃ e, ents[i]? = some e ∧ pr P (Instr.findKey kt k ents.toList) = some (some (i, e.val)) := by
  unfold keyAt at h
  simp only [Option.map_eq_some_iff] at h
  obtain ⟨r, h1, rfl⟩ := h
  obtain ⟨h2, h3⟩ := findKey_keys (es' := ents.toList) (by rw [hk, List.map_map]; exact List.map_id keys) h1
  cases r with
  | none => exact ⟨fun _ => h2, fun i hi => by cases hi⟩
  | some x =>
    refine ⟨fun h => (by cases h), fun i hi => ?_⟩
    have := h3 x rfl
    simp only [Array.length_toList] at this
    simp only [Option.map_some, Option.some.injEq] at hi
    subst hi
    refine ⟨ents[x.1], by simp [this], ?_⟩
    rw [h2]
    simp [valAt, this]

theorem run_getObj' {b : Nat} {ents : Array MapEntry} {clock : Nat} (h : w.heap[b]? = some (.map ents clock)) : (getObj b).run P w = .ok (.map ents clock) w := by
  show (Sem.getObj b .pure).run P w = _
  simp only [Sem.run, h]

theorem run_getObj {b : Nat} {ents : Array MapEntry} {clock : Nat} (h : w.heap[b]? = some (.map ents clock)) {α : Type} (f : Obj → Sem α) : ((getObj b) >>= f).run P w = (f (.map ents clock)).run P w := by
  show (Sem.getObj b f).run P w = _
  simp only [Sem.run, h]

theorem keys_of {es : List (Value × AVal)} {ents : Array MapEntry} (hl : ents.size = es.length) (hk : ∀ (j : Nat) e ent, es[j]? = some e → ents[j]? = some ent → ent.key = e.1) : ents.toList.map (·.key) = es.map (·.1) := by
  apply List.ext_getElem?
  intro i
  simp only [List.getElem?_map, Array.getElem?_toList]
  rcases Nat.lt_or_ge i es.length with h | h
  · rw [List.getElem?_eq_getElem h, Array.getElem?_eq_getElem (by omega)]
    simp only [Option.map_some, Option.some.injEq]
    exact hk i _ _ (List.getElem?_eq_getElem h) (Array.getElem?_eq_getElem (by omega))
  · rw [List.getElem?_eq_none h, Array.getElem?_eq_none (by omega)]; rfl

theorem run_aLookup {M : Mem} (hM : ∀ b o, M b = some o → RepO P κ w b o) {t : TypeId} {X K V : AVal} {m k : Value} {ok : Bool} (hm : Rep P κ w X m) (hk : Rep P κ w K k) (h : aLookup P M t X K ok = some V) :
    ∃ u, (Instr.lookup t m k ok).run P w = .ok u w ∧ Rep P κ w V u := by
  unfold aLookup at h
  split at h
  · rename_i kt et hu
    split at h
    · rename_i r kv hkv
      have hkk := rawOf_rep hkv hk
      subst hkk
      have hmm := rep_raw hm
      subst hmm
      split at h
      · rename_i es hes
        split at h
        · rename_i q at? z hc hat hz
          -- the entries
          obtain ⟨ents, hr, hsz, hents⟩ : ∃ ents : Array MapEntry, ((r = none ∧ ents = #[]) ∨ ∃ b clock, r = some b ∧ w.heap[b]? = some (.map ents clock)) ∧ ents.size = es.length ∧
              ∀ (j : Nat) e ent, es[j]? = some e → ents[j]? = some ent → ent.key = e.1 ∧ Rep P κ w e.2 ent.val := by
            cases r with
            | none =>
              simp only [entsM, Option.some.injEq] at hes
              subst hes
              exact ⟨#[], .inl ⟨rfl, rfl⟩, rfl, fun j e ent h1 => by simp at h1⟩
            | some r =>
              simp only [entsM] at hes
              split at hes
              · rename_i es' hMr
                simp only [Option.some.injEq] at hes
                subst hes
                obtain ⟨ents, clock, h1, h2, h3, -, -⟩ := hM r _ hMr
                exact ⟨ents, .inr ⟨r, clock, rfl, h1⟩, h2, fun j e ent e1 e2 => ⟨(h3 j e ent e1 e2).1, (h3 j e ent e1 e2).2.1⟩⟩
              · cases hes
          have hkeys := keys_of hsz fun j e ent e1 e2 => (hents j e ent e1 e2).1
          obtain ⟨hka1, hka2⟩ := keyAt_run hat hkeys
          have hemp : ents.isEmpty = es.isEmpty := by
            cases es with
            | nil => simpa using hsz
            | cons e es => simp [Array.isEmpty, hsz]
          have hc' := pr_run hc w
          rw [← hemp] at hc'
          obtain ⟨v, hv1, hv2⟩ : ∃ v, (match at? with | none => (Instr.findKey kt k ents.toList).run P w = .ok none w ∧ v = z | some i => (Instr.findKey kt k ents.toList).run P w = .ok (some (i, v)) w) ∧
              Rep P κ w ((at?.map fun i => ((es[i]?).map (·.2)).getD .undef).getD (ofConst z)) v := by
            cases at? with
            | none => exact ⟨z, ⟨pr_run (hka1 rfl) w, rfl⟩, ofConst_rep z⟩
            | some i =>
              obtain ⟨e, he, hf⟩ := hka2 i rfl
              refine ⟨e.val, pr_run hf w, ?_⟩
              have hi : i < es.length := by
                rw [← hsz]
                rcases Nat.lt_or_ge i ents.size with h' | h'
                · exact h'
                · rw [Array.getElem?_eq_none h'] at he; cases he
              simp only [List.getElem?_eq_getElem hi, Option.map_some, Option.getD_some]
              exact (hents i _ _ (List.getElem?_eq_getElem hi) he).2
          have hrun2 : (Instr.lookup t (.map r) k ok).run P w = .ok (if ok then .tuple #[v, .bool at?.isSome] else v) w := by
            have hz' := pr_run (pr_zeroT hz) w
            rcases hr with ⟨rfl, rfl⟩ | ⟨b, clock, rfl, hb⟩
            · cases at? with
              | none =>
                obtain ⟨hv1, rfl⟩ := hv1
                simp only [Instr.lookup, Sem.run_bind, pr_run (pr_underlying hu) w, Result.andThen_ok, Sem.run_pure, hc', hv1, hz']
                rfl
              | some i =>
                simp only [Instr.lookup, Sem.run_bind, pr_run (pr_underlying hu) w, Result.andThen_ok, Sem.run_pure, hc', hv1]
                rfl
            · cases at? with
              | none =>
                obtain ⟨hv1, rfl⟩ := hv1
                simp only [Instr.lookup, Sem.run_bind, pr_run (pr_underlying hu) w, Result.andThen_ok, run_getObj' hb, Sem.run_pure, hc', hv1, hz']
                rfl
              | some i =>
                simp only [Instr.lookup, Sem.run_bind, pr_run (pr_underlying hu) w, Result.andThen_ok, run_getObj' hb, Sem.run_pure, hc', hv1]
                rfl
          simp only [Option.some.injEq] at h
          subst h
          refine ⟨_, hrun2, ?_⟩
          cases ok with
          | false => exact hv2
          | true =>
            refine .tup _ _ rfl fun i c x h1 h2 => ?_
            match i with
            | 0 =>
              simp only [List.getElem?_cons_zero, Option.some.injEq] at h1
              have h2' : v = x := by simpa using h2
              subst h1; subst h2'; exact hv2
            | 1 =>
              simp only [List.getElem?_cons_succ, List.getElem?_cons_zero, Option.some.injEq] at h1
              have h2' : Value.bool at?.isSome = x := by simpa using h2
              subst h1; subst h2'; exact .raw _
            | i + 2 => simp at h1
        · cases h
      · cases h
    · cases h
  · cases h

end
end Go.Am
