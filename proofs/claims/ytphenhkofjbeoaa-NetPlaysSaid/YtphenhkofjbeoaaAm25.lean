import Derived.Test.YtphenhkofjbeoaaAm24
namespace Go.Am
set_option linter.unusedSimpArgs false

inductive PStep where
  | q (i : Nat)
  | c (i : Nat)
  | s (i : Nat) (ks : List Nat)

/-- Which blocks an operation reads. -/
def readsOf (T : Nat → AVal) : Op → List Nat
  | .load _ x => (match ev T x with | .raw (.pointer (some ⟨b, _, none⟩)) => [b] | _ => [])
  | .convert _ _ x => (match ev T x with | .raw (.slice (some ⟨b, _, none⟩) _ _) => [b] | _ => [])
  | .lookup _ m _ _ => (match ev T m with | .raw (.map (some r)) => [r] | _ => [])
  | .call { callee := .builtin .len, args, .. } => (match args.toList.map (ev T) with | [.raw (.map (some r))] => [r] | _ => [])
  | _ => []

def qBuild (P : Program) (T : Nat → AVal) (t : TypeId) (len : Nat) (parts : List (Nat × Operand)) : Option AVal :=
  match P.underlying t with
  | some (.slice e) =>
    (match sizeT P e, zeroT P e, aParts T 0 parts with
    | some sz, some z, some l => if z.cells.size = sz ∧ l.length = len ∧ len * sz ≤ 2 ^ 24 ∧ (l.all fun V => V.ok && V.cells.length == sz) = true then some (.sl l true) else none
    | _, _, _ => none)
  | _ => none

def qstep (P : Program) (tk : Option Nat) (o : Oper) (T : Nat → AVal) (M : Mem) : Option (QEff × List Nat) :=
  match o.op with
  | .move x | .assign x => if tk.isSome then some (⟨tmpOf x, ev T x⟩, []) else some (⟨none, (ev T x).shut⟩, [])
  | .buildSlice t len parts => (qBuild P T t len parts.toList).map fun V => (⟨none, V⟩, [])
  | .call { callee := .builtin .append, args, argTypes } =>
    (match args.toList with
    | [x, y] => if o.dst.isSome then (aAppend P argTypes (ev T x) (ev T y)).map fun l => (⟨tmpOf x, .sl l true⟩, []) else none
    | _ => none)
  | .extract x i => if tk.isSome then none else (aop P T M o.type (.extract x i)).map fun V => (⟨none, V.shut⟩, readsOf T (.extract x i))
  | .load t x => if tk.isSome then none else (aop P T M o.type (.load t x)).map fun V => (⟨none, V.shut⟩, readsOf T (.load t x))
  | op => (aop P T M o.type op).map fun V => (⟨none, V.shut⟩, readsOf T op)

section
variable {P : Program} {o : Oper} {T T' : Nat → AVal} {M M' : Mem}

theorem aop_congrM {ty : TypeId} {op : Op} (h : ∀ b ∈ readsOf T op, M b = M' b) : aop P T M ty op = aop P T M' ty op := by
  cases op <;> try rfl
  case load t x =>
    simp only [aop, readsOf] at h ⊢
    split at h
    · rename_i b o he
      simp only [he, h b (by simp)]
    · rename_i hne
      split
      · rename_i b o he; exact absurd he (hne b o)
      · rfl
      · rfl
  case convert s d x =>
    simp only [aop, aConvert, readsOf] at h ⊢
    split at h
    · rename_i b o n c he
      simp only [he, h b (by simp)]
    · rename_i hne
      split
      · rfl
      · rename_i b o n c he; exact absurd he (hne b o n c)
      · rfl
      · rfl
  case lookup t m k ok =>
    have key : ∀ r, ev T m = .raw (.map r) → entsM M r = entsM M' r := fun r he => by
      cases r with
      | none => rfl
      | some r => simp only [entsM, h r (by simp [readsOf, he])]
    simp only [aop, aLookup]
    split
    · split
      · rename_i r kv he hk
        rw [key r he]
      · rfl
    · rfl
  case call c =>
    obtain ⟨callee, args, argTypes⟩ := c
    cases callee <;> try rfl
    rename_i b
    cases b <;> try rfl
    simp only [aop, readsOf, aBuiltin] at h ⊢
    split at h
    · rename_i r he
      simp only [he, h r (by simp)]
    · rename_i hne
      split
      · rfl
      · rename_i r he; exact absurd he (hne r)
      · rfl
      · rfl

theorem readsOf_congr {op : Op} (h : ∀ x ∈ op.operands.toList, ev T x = ev T' x) : readsOf T op = readsOf T' op := by
  cases op <;> try rfl
  case load t x => simp only [readsOf]; rw [h x (by simp [Op.operands])]
  case convert s d x => simp only [readsOf]; rw [h x (by simp [Op.operands])]
  case lookup t m k ok => simp only [readsOf]; rw [h m (by simp [Op.operands])]
  case call c =>
    obtain ⟨callee, args, argTypes⟩ := c
    cases callee <;> try rfl
    rename_i b
    cases b <;> try rfl
    simp only [readsOf]
    rw [map_ev_congr (xs := args.toList) fun x hx => h x (by simp [Op.operands, Call.operands]; simpa using hx)]

theorem qstep_congr {tk : Option Nat} {q : QEff} {B : List Nat} (h : qstep P tk o T M = some (q, B)) (hT : ∀ x ∈ o.op.operands.toList, ev T x = ev T' x) (hM : ∀ b ∈ B, M b = M' b) : qstep P tk o T' M' = some (q, B) := by
  unfold qstep at h ⊢
  have dflt : ∀ op, o.op = op → ((aop P T M o.type op).map fun V => ((⟨none, V.shut⟩ : QEff), readsOf T op)) = some (q, B) → ((aop P T' M' o.type op).map fun V => ((⟨none, V.shut⟩ : QEff), readsOf T' op)) = some (q, B) := fun op hop h => by
    subst hop
    rw [← readsOf_congr hT, ← aop_congr hT]
    rw [aop_congrM (M' := M') (fun b hb => hM b (by
      simp only [Option.map_eq_some_iff, Prod.mk.injEq] at h
      obtain ⟨V, -, -, e⟩ := h
      rw [← e]; exact hb))] at h
    exact h
  cases hop : o.op <;> rw [hop] at h <;> try exact dflt _ hop h
  all_goals (have hT' := hT; rw [hop] at hT'; simp only [Op.operands] at hT')
  case move x => dsimp only at h ⊢; rw [← hT' x (by simp)]; exact h
  case assign x => dsimp only at h ⊢; rw [← hT' x (by simp)]; exact h
  case buildSlice t len parts =>
    dsimp only [qBuild] at h ⊢
    rw [← aParts_congr (T := T) (T' := T') parts.toList 0 fun p hp => hT' p.2 (by simp only [List.mem_map]; exact ⟨p, hp, rfl⟩)]
    exact h
  case extract x i =>
    dsimp only at h ⊢
    split at h
    · cases h
    · rename_i ht
      rw [if_neg ht]
      exact dflt (.extract x i) hop h
  case load t x =>
    dsimp only at h ⊢
    split at h
    · cases h
    · rename_i ht
      rw [if_neg ht]
      exact dflt (.load t x) hop h
  case call c =>
    obtain ⟨callee, args, argTypes⟩ := c
    cases callee with
    | value F => exact dflt (.call ⟨.value F, args, argTypes⟩) hop h
    | invoke r m => exact dflt (.call ⟨.invoke r m, args, argTypes⟩) hop h
    | builtin b =>
      by_cases hb : b = .append
      · subst hb
        dsimp only at h ⊢
        split at h
        · rename_i x y hargs
          rw [← hT' x (by simp [Call.operands, hargs]), ← hT' y (by simp [Call.operands, hargs])]
          exact h
        · cases h
      · have e : ∀ T M, (match (Op.call ⟨.builtin b, args, argTypes⟩) with
            | .move x | .assign x => if tk.isSome then some ((⟨tmpOf x, ev T x⟩ : QEff), ([] : List Nat)) else some (⟨none, (ev T x).shut⟩, [])
            | .buildSlice t len parts => (qBuild P T t len parts.toList).map fun V => (⟨none, V⟩, [])
            | .call { callee := .builtin .append, args, argTypes } =>
              (match args.toList with
              | [x, y] => if o.dst.isSome then (aAppend P argTypes (ev T x) (ev T y)).map fun l => (⟨tmpOf x, .sl l true⟩, []) else none
              | _ => none)
            | .extract x i => if tk.isSome then none else (aop P T M o.type (.extract x i)).map fun V => (⟨none, V.shut⟩, readsOf T (.extract x i))
            | .load t x => if tk.isSome then none else (aop P T M o.type (.load t x)).map fun V => (⟨none, V.shut⟩, readsOf T (.load t x))
            | op => (aop P T M o.type op).map fun V => (⟨none, V.shut⟩, readsOf T op)) = (aop P T M o.type (.call ⟨.builtin b, args, argTypes⟩)).map fun V => (⟨none, V.shut⟩, readsOf T (.call ⟨.builtin b, args, argTypes⟩)) := fun T M => by
          cases b <;> first | (exact absurd rfl hb) | rfl
        have h' := (e T M).symm.trans h
        exact (e T' M').trans (dflt _ hop h')

theorem qstep_run {tk : Option Nat} {q : QEff} {B : List Nat} (h : qstep P tk o T M = some (q, B)) : (q.lz = none ∨ q.lz = lzOf tk o) ∧ ∀ N : Eff → Prop, N ⟨q.lz, M, q.V⟩ → estep P tk o T M N := by
  unfold qstep at h
  unfold estep lzOf
  have dflt : ∀ op, o.op = op → ((aop P T M o.type op).map fun V => ((⟨none, V.shut⟩ : QEff), readsOf T op)) = some (q, B) → q.lz = none ∧ ∀ N : Eff → Prop, N ⟨q.lz, M, q.V⟩ → (match aop P T M o.type op with | some V => N ⟨none, M, V.shut⟩ | none => False) := fun op hop h => by
    simp only [Option.map_eq_some_iff, Prod.mk.injEq] at h
    obtain ⟨V, h1, h2, -⟩ := h
    subst h2
    exact ⟨rfl, fun N hN => by rw [h1]; exact hN⟩
  cases hop : o.op <;> rw [hop] at h <;> try exact ⟨.inl (dflt _ hop h).1, (dflt _ hop h).2⟩
  case move x =>
    dsimp only at h ⊢
    split at h
    · rename_i ht
      simp only [Option.some.injEq, Prod.mk.injEq] at h
      rw [← h.1]
      exact ⟨.inr (by rw [if_pos ht]), fun N hN => by rw [if_pos ht]; exact hN⟩
    · rename_i ht
      simp only [Option.some.injEq, Prod.mk.injEq] at h
      rw [← h.1]
      exact ⟨.inl rfl, fun N hN => by rw [if_neg ht]; exact hN⟩
  case assign x =>
    dsimp only at h ⊢
    split at h
    · rename_i ht
      simp only [Option.some.injEq, Prod.mk.injEq] at h
      rw [← h.1]
      exact ⟨.inr (by rw [if_pos ht]), fun N hN => by rw [if_pos ht]; exact hN⟩
    · rename_i ht
      simp only [Option.some.injEq, Prod.mk.injEq] at h
      rw [← h.1]
      exact ⟨.inl rfl, fun N hN => by rw [if_neg ht]; exact hN⟩
  case buildSlice t len parts =>
    dsimp only [qBuild, eBuildSlice] at h ⊢
    simp only [Option.map_eq_some_iff, Prod.mk.injEq] at h
    obtain ⟨V, h1, h2, -⟩ := h
    subst h2
    refine ⟨.inl rfl, fun N hN => ?_⟩
    split at h1
    · rename_i e hu
      split at h1
      · rename_i sz z l hs hz hl
        split at h1
        · rename_i hc
          obtain rfl := Option.some.inj h1
          simp only [hu, hs, hz, hl]
          exact ⟨hc.1, hc.2.1, hc.2.2.1, hc.2.2.2, hN⟩
        · cases h1
      · cases h1
    · cases h1
  case load t x =>
    dsimp only at h ⊢
    split at h
    · cases h
    · rename_i ht
      cases tk with
      | some k => simp at ht
      | none => exact ⟨.inl (dflt (.load t x) hop h).1, (dflt (.load t x) hop h).2⟩
  case convert s d x => exact ⟨.inl (dflt _ hop h).1, fun N hN => .inl ((dflt _ hop h).2 N hN)⟩
  case binOp op t x y t' => exact ⟨.inl (dflt _ hop h).1, fun N hN => .inl ((dflt _ hop h).2 N hN)⟩
  case range t x => simp [aop] at h
  case next i str => simp [aop] at h
  case extract x i =>
    dsimp only at h ⊢
    split at h
    · cases h
    · rename_i ht
      refine ⟨.inl (dflt (.extract x i) hop h).1, fun N hN => ?_⟩
      rw [if_neg ht]
      exact (dflt (.extract x i) hop h).2 N hN
  case store t p x => simp [aop] at h
  case alloc t => simp [aop] at h
  case box t x => simp [aop] at h
  case makeMap t r => simp [aop] at h
  case makeSlice t l c => simp [aop] at h
  case mapUpdate t m k x => simp [aop] at h
  case insert t m k x => simp [aop] at h
  case call c =>
    obtain ⟨callee, args, argTypes⟩ := c
    cases callee with
    | value F => simp [aop] at h
    | invoke r m => simp [aop] at h
    | builtin b =>
      by_cases hb : b = .append
      · subst hb
        dsimp only at h ⊢
        split at h
        · rename_i x y hargs
          split at h
          · rename_i hd
            simp only [Option.map_eq_some_iff, Prod.mk.injEq] at h
            obtain ⟨l, h1, h2, -⟩ := h
            subst h2
            refine ⟨.inr (by rw [hargs]; rfl), fun N hN => ?_⟩
            rw [hargs]
            exact ⟨hd, by rw [h1]; exact hN⟩
          · cases h
        · cases h
      · by_cases hb2 : b = .delete
        · subst hb2
          simp [aop, aBuiltin] at h
        · have h' : ((aop P T M o.type (.call ⟨.builtin b, args, argTypes⟩)).map fun V => ((⟨none, V.shut⟩ : QEff), readsOf T (.call ⟨.builtin b, args, argTypes⟩))) = some (q, B) := by
            revert h
            cases b <;> first | (exact absurd rfl hb) | exact id
          obtain ⟨h1, h2⟩ := dflt _ hop h'
          refine ⟨.inl h1, fun N hN => ?_⟩
          have h3 := h2 N hN
          revert h3
          cases b <;> first | (exact absurd rfl hb) | (exact absurd rfl hb2) | exact id

theorem quiet_qstep {tk : Option Nat} {q : QEff} {B : List Nat} (h : qstep P tk o T M = some (q, B)) : Quiet P tk o T M q B :=
  ⟨(qstep_run h).1, fun _ _ hT hM N hN => (qstep_run (qstep_congr h hT hM)).2 N hN⟩

end
end Go.Am
