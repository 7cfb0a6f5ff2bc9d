import Derived.Test.YtkjdclhhmgjfbaaAmB
import Derived.ScopeJumps
import Derived.Laws.Strings
import Derived.Deep.Slices
import Derived.Below
namespace Go.Am
set_option linter.unusedSimpArgs false

inductive PStep where
  | q (i : Nat)
  | c (i : Nat)
  | s (i : Nat) (ks : List Nat)

/-- Which blocks an operation reads. -/
def readsOf (T : Nat → AVal) : Op → List Nat
  | .load _ x => (match ev T x with | .raw (.pointer (some ⟨b, _, none⟩)) => [b] | _ => [])
  | .convert _ _ x => (match ev T x with | .raw (.slice (some ⟨b, _, none⟩) _ _) => [b] | _ => [])
  | .lookup _ m _ _ => (match ev T m with | .raw (.map (some r)) => [r] | _ => [])
  | .call { callee := .builtin .len, args, .. } => (match args.toList.map (ev T) with | [.raw (.map (some r))] => [r] | _ => [])
  | _ => []

def qBuild (P : Program) (T : Nat → AVal) (t : TypeId) (len : Nat) (parts : List (Nat × Operand)) : Option AVal :=
  match P.underlying t with
  | some (.slice e) =>
    (match sizeT P e, zeroT P e, aParts T 0 parts with
    | some sz, some z, some l => if z.cells.size = sz ∧ l.length = len ∧ len * sz ≤ 2 ^ 24 ∧ (l.all fun V => V.ok && V.cells.length == sz) = true then some (.sl l true) else none
    | _, _, _ => none)
  | _ => none

def qstep (P : Program) (tk : Option Nat) (o : Oper) (T : Nat → AVal) (M : Mem) : Option (QEff × List Nat) :=
  match o.op with
  | .move x | .assign x => if tk.isSome then some (⟨tmpOf x, ev T x⟩, []) else some (⟨none, (ev T x).shut⟩, [])
  | .buildSlice t len parts => (qBuild P T t len parts.toList).map fun V => (⟨none, V⟩, [])
  | .call { callee := .builtin .append, args, argTypes } =>
    (match args.toList with
    | [x, y] => if o.dst.isSome then (aAppend P argTypes (ev T x) (ev T y)).map fun l => (⟨tmpOf x, .sl l true⟩, []) else none
    | _ => none)
  | .extract x i => if tk.isSome then none else (aop P T M o.type (.extract x i)).map fun V => (⟨none, V.shut⟩, readsOf T (.extract x i))
  | .load t x => if tk.isSome then none else (aop P T M o.type (.load t x)).map fun V => (⟨none, V.shut⟩, readsOf T (.load t x))
  | op => (aop P T M o.type op).map fun V => (⟨none, V.shut⟩, readsOf T op)

section
variable {P : Program} {o : Oper} {T T' : Nat → AVal} {M M' : Mem}

theorem aop_congrM {ty : TypeId} {op : Op} (h : ∀ b ∈ readsOf T op, M b = M' b) : aop P T M ty op = aop P T M' ty op := by
  cases op <;> try rfl
  case load t x =>
    simp only [aop, readsOf] at h ⊢
    split at h
    · rename_i b o he
      simp only [he, h b (by simp)]
    · rename_i hne
      split
      · rename_i b o he; exact absurd he (hne b o)
      · rfl
      · rfl
  case convert s d x =>
    simp only [aop, aConvert, readsOf] at h ⊢
    split at h
    · rename_i b o n c he
      simp only [he, h b (by simp)]
    · rename_i hne
      split
      · rfl
      · rename_i b o n c he; exact absurd he (hne b o n c)
      · rfl
      · rfl
  case lookup t m k ok =>
    have key : ∀ r, ev T m = .raw (.map r) → entsM M r = entsM M' r := fun r he => by
      cases r with
      | none => rfl
      | some r => simp only [entsM, h r (by simp [readsOf, he])]
    simp only [aop, aLookup]
    split
    · split
      · rename_i r kv he hk
        rw [key r he]
      · rfl
    · rfl
  case call c =>
    obtain ⟨callee, args, argTypes⟩ := c
    cases callee <;> try rfl
    rename_i b
    cases b <;> try rfl
    simp only [aop, readsOf, aBuiltin] at h ⊢
    split at h
    · rename_i r he
      simp only [he, h r (by simp)]
    · rename_i hne
      split
      · rfl
      · rename_i r he; exact absurd he (hne r)
      · rfl
      · rfl

theorem readsOf_congr {op : Op} (h : ∀ x ∈ op.operands.toList, ev T x = ev T' x) : readsOf T op = readsOf T' op := by
  cases op <;> try rfl
  case load t x => simp only [readsOf]; rw [h x (by simp [Op.operands])]
  case convert s d x => simp only [readsOf]; rw [h x (by simp [Op.operands])]
  case lookup t m k ok => simp only [readsOf]; rw [h m (by simp [Op.operands])]
  case call c =>
    obtain ⟨callee, args, argTypes⟩ := c
    cases callee <;> try rfl
    rename_i b
    cases b <;> try rfl
    simp only [readsOf]
    rw [map_ev_congr (xs := args.toList) fun x hx => h x (by simp [Op.operands, Call.operands]; simpa using hx)]

theorem qstep_congr {tk : Option Nat} {q : QEff} {B : List Nat} (h : qstep P tk o T M = some (q, B)) (hT : ∀ x ∈ o.op.operands.toList, ev T x = ev T' x) (hM : ∀ b ∈ B, M b = M' b) : qstep P tk o T' M' = some (q, B) := by
  unfold qstep at h ⊢
  have dflt : ∀ op, o.op = op → ((aop P T M o.type op).map fun V => ((⟨none, V.shut⟩ : QEff), readsOf T op)) = some (q, B) → ((aop P T' M' o.type op).map fun V => ((⟨none, V.shut⟩ : QEff), readsOf T' op)) = some (q, B) := fun op hop h => by
    subst hop
    rw [← readsOf_congr hT, ← aop_congr hT]
    rw [aop_congrM (M' := M') (fun b hb => hM b (by
      simp only [Option.map_eq_some_iff, Prod.mk.injEq] at h
      obtain ⟨V, -, -, e⟩ := h
      rw [← e]; exact hb))] at h
    exact h
  cases hop : o.op <;> rw [hop] at h <;> try exact dflt _ hop h
  all_goals (have hT' := hT; rw [hop] at hT'; simp only [Op.operands] at hT')
  case move x => dsimp only at h ⊢; rw [← hT' x (by simp)]; exact h
  case assign x => dsimp only at h ⊢; rw [← hT' x (by simp)]; exact h
  case buildSlice t len parts =>
    dsimp only [qBuild] at h ⊢
    rw [← aParts_congr (T := T) (T' := T') parts.toList 0 fun p hp => hT' p.2 (by simp only [List.mem_map]; exact ⟨p, hp, rfl⟩)]
    exact h
  case extract x i =>
    dsimp only at h ⊢
    split at h
    · cases h
    · rename_i ht
      rw [if_neg ht]
      exact dflt (.extract x i) hop h
  case load t x =>
    dsimp only at h ⊢
    split at h
    · cases h
    · rename_i ht
      rw [if_neg ht]
      exact dflt (.load t x) hop h
  case call c =>
    obtain ⟨callee, args, argTypes⟩ := c
    cases callee with
    | value F => exact dflt (.call ⟨.value F, args, argTypes⟩) hop h
    | invoke r m => exact dflt (.call ⟨.invoke r m, args, argTypes⟩) hop h
    | builtin b =>
      by_cases hb : b = .append
      · subst hb
        dsimp only at h ⊢
        split at h
        · rename_i x y hargs
          rw [← hT' x (by simp [Call.operands, hargs]), ← hT' y (by simp [Call.operands, hargs])]
          exact h
        · cases h
      · have e : ∀ T M, (match (Op.call ⟨.builtin b, args, argTypes⟩) with
            | .move x | .assign x => if tk.isSome then some ((⟨tmpOf x, ev T x⟩ : QEff), ([] : List Nat)) else some (⟨none, (ev T x).shut⟩, [])
            | .buildSlice t len parts => (qBuild P T t len parts.toList).map fun V => (⟨none, V⟩, [])
            | .call { callee := .builtin .append, args, argTypes } =>
              (match args.toList with
              | [x, y] => if o.dst.isSome then (aAppend P argTypes (ev T x) (ev T y)).map fun l => (⟨tmpOf x, .sl l true⟩, []) else none
              | _ => none)
            | .extract x i => if tk.isSome then none else (aop P T M o.type (.extract x i)).map fun V => (⟨none, V.shut⟩, readsOf T (.extract x i))
            | .load t x => if tk.isSome then none else (aop P T M o.type (.load t x)).map fun V => (⟨none, V.shut⟩, readsOf T (.load t x))
            | op => (aop P T M o.type op).map fun V => (⟨none, V.shut⟩, readsOf T op)) = (aop P T M o.type (.call ⟨.builtin b, args, argTypes⟩)).map fun V => (⟨none, V.shut⟩, readsOf T (.call ⟨.builtin b, args, argTypes⟩)) := fun T M => by
          cases b <;> first | (exact absurd rfl hb) | rfl
        have h' := (e T M).symm.trans h
        exact (e T' M').trans (dflt _ hop h')

theorem qstep_run {tk : Option Nat} {q : QEff} {B : List Nat} (h : qstep P tk o T M = some (q, B)) : (q.lz = none ∨ q.lz = lzOf tk o) ∧ ∀ N : Eff → Prop, N ⟨q.lz, M, q.V⟩ → estep P tk o T M N := by
  unfold qstep at h
  unfold estep lzOf
  have dflt : ∀ op, o.op = op → ((aop P T M o.type op).map fun V => ((⟨none, V.shut⟩ : QEff), readsOf T op)) = some (q, B) → q.lz = none ∧ ∀ N : Eff → Prop, N ⟨q.lz, M, q.V⟩ → (match aop P T M o.type op with | some V => N ⟨none, M, V.shut⟩ | none => False) := fun op hop h => by
    simp only [Option.map_eq_some_iff, Prod.mk.injEq] at h
    obtain ⟨V, h1, h2, -⟩ := h
    subst h2
    exact ⟨rfl, fun N hN => by rw [h1]; exact hN⟩
  cases hop : o.op <;> rw [hop] at h <;> try exact ⟨.inl (dflt _ hop h).1, (dflt _ hop h).2⟩
  case move x =>
    dsimp only at h ⊢
    split at h
    · rename_i ht
      simp only [Option.some.injEq, Prod.mk.injEq] at h
      rw [← h.1]
      exact ⟨.inr (by rw [if_pos ht]), fun N hN => by rw [if_pos ht]; exact hN⟩
    · rename_i ht
      simp only [Option.some.injEq, Prod.mk.injEq] at h
      rw [← h.1]
      exact ⟨.inl rfl, fun N hN => by rw [if_neg ht]; exact hN⟩
  case assign x =>
    dsimp only at h ⊢
    split at h
    · rename_i ht
      simp only [Option.some.injEq, Prod.mk.injEq] at h
      rw [← h.1]
      exact ⟨.inr (by rw [if_pos ht]), fun N hN => by rw [if_pos ht]; exact hN⟩
    · rename_i ht
      simp only [Option.some.injEq, Prod.mk.injEq] at h
      rw [← h.1]
      exact ⟨.inl rfl, fun N hN => by rw [if_neg ht]; exact hN⟩
  case buildSlice t len parts =>
    dsimp only [qBuild, eBuildSlice] at h ⊢
    simp only [Option.map_eq_some_iff, Prod.mk.injEq] at h
    obtain ⟨V, h1, h2, -⟩ := h
    subst h2
    refine ⟨.inl rfl, fun N hN => ?_⟩
    split at h1
    · rename_i e hu
      split at h1
      · rename_i sz z l hs hz hl
        split at h1
        · rename_i hc
          obtain rfl := Option.some.inj h1
          simp only [hu, hs, hz, hl]
          exact ⟨hc.1, hc.2.1, hc.2.2.1, hc.2.2.2, hN⟩
        · cases h1
      · cases h1
    · cases h1
  case load t x =>
    dsimp only at h ⊢
    split at h
    · cases h
    · rename_i ht
      cases tk with
      | some k => simp at ht
      | none => exact ⟨.inl (dflt (.load t x) hop h).1, (dflt (.load t x) hop h).2⟩
  case convert s d x => exact ⟨.inl (dflt _ hop h).1, fun N hN => .inl ((dflt _ hop h).2 N hN)⟩
  case binOp op t x y t' => exact ⟨.inl (dflt _ hop h).1, fun N hN => .inl ((dflt _ hop h).2 N hN)⟩
  case range t x => simp [aop] at h
  case next i str => simp [aop] at h
  case extract x i =>
    dsimp only at h ⊢
    split at h
    · cases h
    · rename_i ht
      refine ⟨.inl (dflt (.extract x i) hop h).1, fun N hN => ?_⟩
      rw [if_neg ht]
      exact (dflt (.extract x i) hop h).2 N hN
  case store t p x => simp [aop] at h
  case alloc t => simp [aop] at h
  case box t x => simp [aop] at h
  case makeMap t r => simp [aop] at h
  case makeSlice t l c => simp [aop] at h
  case mapUpdate t m k x => simp [aop] at h
  case insert t m k x => simp [aop] at h
  case call c =>
    obtain ⟨callee, args, argTypes⟩ := c
    cases callee with
    | value F => simp [aop] at h
    | invoke r m => simp [aop] at h
    | builtin b =>
      by_cases hb : b = .append
      · subst hb
        dsimp only at h ⊢
        split at h
        · rename_i x y hargs
          split at h
          · rename_i hd
            simp only [Option.map_eq_some_iff, Prod.mk.injEq] at h
            obtain ⟨l, h1, h2, -⟩ := h
            subst h2
            refine ⟨.inr (by rw [hargs]; rfl), fun N hN => ?_⟩
            rw [hargs]
            exact ⟨hd, by rw [h1]; exact hN⟩
          · cases h
        · cases h
      · by_cases hb2 : b = .delete
        · subst hb2
          simp [aop, aBuiltin] at h
        · have h' : ((aop P T M o.type (.call ⟨.builtin b, args, argTypes⟩)).map fun V => ((⟨none, V.shut⟩ : QEff), readsOf T (.call ⟨.builtin b, args, argTypes⟩))) = some (q, B) := by
            revert h
            cases b <;> first | (exact absurd rfl hb) | exact id
          obtain ⟨h1, h2⟩ := dflt _ hop h'
          refine ⟨.inl h1, fun N hN => ?_⟩
          have h3 := h2 N hN
          revert h3
          cases b <;> first | (exact absurd rfl hb) | (exact absurd rfl hb2) | exact id

theorem quiet_qstep {tk : Option Nat} {q : QEff} {B : List Nat} (h : qstep P tk o T M = some (q, B)) : Quiet P tk o T M q B :=
  ⟨(qstep_run h).1, fun _ _ hT hM N hN => (qstep_run (qstep_congr h hT hM)).2 N hN⟩

end
end Go.Am

namespace Go.Am
set_option linter.unusedSimpArgs false

def freeD (ops : Array Oper) (tk : Nat → Option Nat) (listed : Array Bool) (i : Nat) : Bool :=
  match ops[i]? with
  | none => false
  | some oi => (List.range ops.size).all fun j => j == i || listed.getD j true || match ops[j]? with
    | some oj => waitsOn oj i || apartD ops tk i j oi oj
    | none => true

/-- What is asked of a plan. -/
def planB (ops : Array Oper) (tk : Nat → Option Nat) : List PStep → Array Bool → List Nat → Bool
  | [], listed, _ => (Region.ready .any ops listed).isEmpty
  | .q i :: rest, listed, taken => (Region.ready .any ops listed).contains i && freeD ops tk listed i && planB ops tk rest (listed.setIfInBounds i true) (i :: taken)
  | .c i :: rest, listed, taken => (Region.ready .any ops listed).contains i && freeD ops tk listed i && planB ops tk rest (listed.setIfInBounds i true) (i :: taken)
  | .s i ks :: rest, listed, taken => (Region.ready .any ops listed == [i]) && (taken.all fun k => ks.contains k || match ops[i]? with | some o => waitsOn o k | none => false) && planB ops tk rest (listed.setIfInBounds i true) taken

def aDraw (P : Program) (tk : Nat → Option Nat) (ops : Array Oper) (Q : St → Prop) : List PStep → List (Nat × Nat) → St → Prop
  | [], _, S => Q S
  | .q i :: rest, H, S =>
    (match ops[i]? with
    | some o => aGuard ops S.T o (match qstep P (tk i) o S.T S.M with | some (q, B) => aDraw P tk ops Q rest (B.map (fun b => (i, b)) ++ H) (q.app S o.dst) | none => False) (aDraw P tk ops Q rest H (S.put o.dst (.raw undef)))
    | none => False)
  | .c i :: rest, H, S =>
    (match ops[i]? with
    | some o => aGuard ops S.T o (∃ q B, Quiet P (tk i) o S.T S.M q B ∧ aDraw P tk ops Q rest (B.map (fun b => (i, b)) ++ H) (q.app S o.dst)) (aDraw P tk ops Q rest H (S.put o.dst (.raw undef)))
    | none => False)
  | .s i ks :: rest, H, S => aOp P tk ops i S fun S' => (∀ p ∈ H, p.1 ∈ ks → S'.M p.2 = S.M p.2) ∧ aDraw P tk ops Q rest H S'

section
variable {P : Program} {ops : Array Oper} {tk : Nat → Option Nat}

theorem aGuard_cases {T : Nat → AVal} {o : Oper} {y n : Prop} (h : aGuard ops T o y n) : (y ∧ ∀ y' n' : Prop, y' → aGuard ops T o y' n') ∨ (n ∧ ∀ y' n' : Prop, n' → aGuard ops T o y' n') := by
  unfold aGuard at h ⊢
  split at h
  · exact .inl ⟨h, fun _ _ hy => hy⟩
  · rename_i j want hgd
    split at h
    · split at h
      · rename_i t ht
        by_cases e : t = want
        · exact .inl ⟨h.1 e, fun _ _ hy => ⟨fun _ => hy, fun e' => by subst e; cases t <;> cases e'⟩⟩
        · have e' : t = !want := by cases t <;> cases want <;> simp_all
          exact .inr ⟨h.2 e', fun _ _ hn => ⟨fun e'' => absurd e'' e, fun _ => hn⟩⟩
      · exact .inr ⟨h, fun _ _ hn => hn⟩
      · exact h.elim
    · exact h.elim

theorem freeD_spec {listed : Array Bool} {i : Nat} {oi : Oper} (hi : ops[i]? = some oi) (h : freeD ops tk listed i = true) (j : Nat) (oj : Oper) (hj : ops[j]? = some oj) (hne : j ≠ i) (hun : listed.getD j true = false) (hw : waitsOn oj i = false) :
    apartD ops tk i j oi oj = true := by
  unfold freeD at h
  rw [hi] at h
  have hlt : j < ops.size := by
    rcases Nat.lt_or_ge j ops.size with h' | h'
    · exact h'
    · rw [Array.getElem?_eq_none h'] at hj; cases hj
  have := List.all_eq_true.1 h j (List.mem_range.2 hlt)
  rw [hj, hun] at this
  simpa [hne, hw] using this

theorem aDraw_any {Q : St → Prop} : ∀ (plan : List PStep) (listed : Array Bool) (taken : List Nat) (H : List (Nat × Nat)) (S : St), planB ops tk plan listed taken = true → (∀ p ∈ H, p.1 ∈ taken) → aDraw P tk ops Q plan H S → aAny P tk ops Q H plan.length listed S
  | [], listed, taken, H, S, hb, _, h => ⟨by simpa [planB] using hb, h⟩
  | .q i :: rest, listed, taken, H, S, hb, ht, h => by
    simp only [planB, Bool.and_eq_true] at hb
    obtain ⟨⟨hr, hf⟩, hb⟩ := hb
    simp only [aDraw] at h
    split at h
    · rename_i o ho
      have fin : ∀ (q : QEff) (B : List Nat), (q.lz = none ∨ q.lz = lzOf (tk i) o) → Comes P tk ops i o S q B → aDraw P tk ops Q rest (B.map (fun b => (i, b)) ++ H) (q.app S o.dst) → aAny P tk ops Q H (PStep.q i :: rest).length listed S := fun q B hq hc hd =>
        aAny_first ho hq rest.length listed S (fun j oj hj hne hun hw => freeD_spec ho hf j oj hj hne hun hw) (by simpa using hr) hc
          (aDraw_any rest _ (i :: taken) _ _ hb (fun p hp => by
            rcases List.mem_append.1 hp with hp | hp
            · obtain ⟨b, -, rfl⟩ := List.mem_map.1 hp; simp
            · simp [ht p hp]) hd)
      rcases aGuard_cases h with ⟨hy, hg⟩ | ⟨hn, hg⟩
      · split at hy
        · rename_i q B hq
          have hQ := quiet_qstep hq
          exact fin q B hQ.1 (hg _ _ hQ) hy
        · exact hy.elim
      · exact fin ⟨none, .raw undef⟩ [] (.inl rfl) (hg _ _ rfl) hn
    · exact h.elim
  | .c i :: rest, listed, taken, H, S, hb, ht, h => by
    simp only [planB, Bool.and_eq_true] at hb
    obtain ⟨⟨hr, hf⟩, hb⟩ := hb
    simp only [aDraw] at h
    split at h
    · rename_i o ho
      have fin : ∀ (q : QEff) (B : List Nat), (q.lz = none ∨ q.lz = lzOf (tk i) o) → Comes P tk ops i o S q B → aDraw P tk ops Q rest (B.map (fun b => (i, b)) ++ H) (q.app S o.dst) → aAny P tk ops Q H (PStep.c i :: rest).length listed S := fun q B hq hc hd =>
        aAny_first ho hq rest.length listed S (fun j oj hj hne hun hw => freeD_spec ho hf j oj hj hne hun hw) (by simpa using hr) hc
          (aDraw_any rest _ (i :: taken) _ _ hb (fun p hp => by
            rcases List.mem_append.1 hp with hp | hp
            · obtain ⟨b, -, rfl⟩ := List.mem_map.1 hp; simp
            · simp [ht p hp]) hd)
      rcases aGuard_cases h with ⟨hy, hg⟩ | ⟨hn, hg⟩
      · obtain ⟨q, B, hQ, hd⟩ := hy
        exact fin q B hQ.1 (hg _ _ hQ) hd
      · exact fin ⟨none, .raw undef⟩ [] (.inl rfl) (hg _ _ rfl) hn
    · exact h.elim
  | .s i ks :: rest, listed, taken, H, S, hb, ht, h => by
    simp only [planB, Bool.and_eq_true, beq_iff_eq] at hb
    obtain ⟨⟨hr, hk⟩, hb⟩ := hb
    simp only [aDraw] at h
    show aAny P tk ops Q H (rest.length + 1) listed S
    refine ⟨fun h0 => (by rw [hr] at h0; cases h0), fun j hj => ?_⟩
    rw [hr] at hj
    obtain rfl := List.mem_singleton.1 hj
    refine aOp_mono (fun S' hS => ⟨fun p hp hw => ?_, aDraw_any rest _ taken H S' hb ht hS.2⟩) h
    refine hS.1 p hp ?_
    have := List.all_eq_true.1 hk p.1 (ht p hp)
    cases ho : ops[j]? with
    | none => rw [ho] at this; simpa using this
    | some o =>
      rw [ho] at this
      have hw' := hw o ho
      simpa [hw'] using this

variable {κ : Ghost} {w : World} {a : Act}

theorem aGuard_sound {T : Nat → AVal} {M : Mem} {o : Oper} {yes no : Prop} (h : Holds P κ T (tv a) M w) (hg : aGuard ops T o yes no) : (Region.wanted o (yielded ops a.tmps) = true ∧ yes) ∨ (Region.wanted o (yielded ops a.tmps) = false ∧ no) := by
  unfold aGuard at hg
  split at hg
  · rename_i hgd
    left
    exact ⟨by unfold Region.wanted; rw [hgd], hg⟩
  · rename_i j want hgd
    split at hg
    · rename_i d hd
      split at hg
      · rename_i t ht
        have h1 := h.tmp d
        rw [ht] at h1
        have h2 : tv a d = .bool t := rep_raw h1
        have h3 : a.tmps[d]? = some (.bool t) := by
          have : a.tmps.getD d undef = .bool t := h2
          rw [Array.getD_eq_getD_getElem?] at this
          cases hx : a.tmps[d]? with
          | none => rw [hx] at this; cases this
          | some v => rw [hx] at this; simp only [Option.getD_some] at this; rw [this]
        have hy : yielded ops a.tmps j = some t := by
          unfold yielded
          rw [hd]
          simp only [Option.bind_some, h3]
        have hw : Region.wanted o (yielded ops a.tmps) = (t == want) := by
          unfold Region.wanted
          rw [hgd]
          simp only [hy]
          cases t <;> cases want <;> rfl
        rw [hw]
        by_cases e : t = want
        · exact .inl ⟨by simp [e], hg.1 e⟩
        · exact .inr ⟨by simp [e], hg.2 (by cases t <;> cases want <;> simp_all)⟩
      · rename_i v hnb ht
        have h1 := h.tmp d
        rw [ht] at h1
        have h2 : tv a d = v := rep_raw h1
        refine .inr ⟨?_, hg⟩
        have hy : yielded ops a.tmps j = none := by
          unfold yielded
          rw [hd]
          simp only [Option.bind_some]
          cases hx : a.tmps[d]? with
          | none => rfl
          | some u =>
            have : a.tmps.getD d undef = v := h2
            rw [Array.getD_eq_getD_getElem?, hx] at this
            simp only [Option.getD_some] at this
            subst this
            cases u <;> first | rfl | exact (hnb _ rfl).elim
        unfold Region.wanted
        rw [hgd]
        simp only [hy]
        rfl
      · exact hg.elim
    · exact hg.elim

theorem Next.trans {κ' : Ghost} {w' : World} {a' : Act} {K : St → Prop} {a'' : Act} {w'' : World} (hk : Keep κ w κ' w') (hs : a'.tmps.size = a.tmps.size) (hd : a'.defers = a.defers) (h : Next P κ' w' a' K a'' w'') : Next P κ w a K a'' w'' := by
  obtain ⟨κ2, S2, h1, h2, h3, h4, h5⟩ := h
  exact ⟨κ2, S2, h1, h2, hk.trans h3, h4.trans hs, h5.trans hd⟩

theorem aOp_sound {Q : Exit → Act → World → Prop} {i : Nat} {S : St} {K : St → Prop} (hB : ∀ o, ops[i]? = some o → stepB a.tmps.size o = true ∧ zeroB P o = true) (h : Holds P κ S.T (tv a) S.M w) (hs : aOp P tk ops i S K) : wpOp P ops Q i (Next P κ w a K) a w := by
  unfold aOp at hs
  unfold wpOp
  split at hs
  · rename_i ho
    rw [ho]
    exact ⟨κ, S, hs, h, Keep.refl κ w, rfl, rfl⟩
  · rename_i o ho
    rw [ho]
    dsimp only
    obtain ⟨hb1, hb2⟩ := hB o ho
    rcases aGuard_sound h hs with ⟨hw, hy⟩ | ⟨hw, hn⟩
    · rw [if_pos hw]
      exact .inl (dstep_sound h hb1 hb2 hy)
    · rw [if_neg (by rw [hw]; exact Bool.false_ne_true)]
      have hd := stepB_dst hb1
      refine ⟨κ, _, hn, ?_, Keep.refl κ w, put_size .., put_defers ..⟩
      cases hdst : o.dst with
      | none => exact h
      | some d =>
        rw [tv_put undef (hd d hdst)]
        exact h.put d (.raw _) fun _ _ => Spare.not_free (by simp [AVal.free])

theorem aAny_sound {Q : Exit → Act → World → Prop} {K : St → Prop} {H : List (Nat × Nat)} : ∀ (fuel : Nat) (listed : Array Bool) (κ : Ghost) (w : World) (a : Act) (S : St), (∀ (i : Nat) o, ops[i]? = some o → stepB a.tmps.size o = true ∧ zeroB P o = true) →
    Holds P κ S.T (tv a) S.M w → aAny P tk ops K H fuel listed S → (∀ a' w', Next P κ w a K a' w' → Q .normal a' w') → wpAny P .any ops Q fuel listed a w
  | 0, listed, κ, w, a, S, _, h, hs, hQ => ⟨hs.1, hQ a w ⟨κ, S, hs.2, h, Keep.refl κ w, rfl, rfl⟩⟩
  | fuel + 1, listed, κ, w, a, S, hB, h, hs, hQ => ⟨fun h0 => hQ a w ⟨κ, S, hs.1 h0, h, Keep.refl κ w, rfl, rfl⟩, fun i hi => wpOp_mono (fun a' w' hn => by
      obtain ⟨κ', S', h1, h2, h3, h4, h5⟩ := hn
      exact aAny_sound fuel _ κ' w' a' S' (fun i o ho => by rw [h4]; exact hB i o ho) h2 h1.2 fun a'' w'' hx => hQ a'' w'' (Next.trans h3 h4 h5 hx)) (aOp_sound (hB i) h (hs.2 i hi))⟩

/-- A region that draws its order. -/
theorem aDraw_sound {id : Nat} {K : Exit → St → Prop} {plan : List PStep} {S : St} (hm : P.follows .mixedOrders = true) (hB : ∀ (i : Nat) o, ops[i]? = some o → stepB a.tmps.size o = true ∧ zeroB P o = true) (hlen : plan.length = ops.size) (hp : planB ops tk plan (Array.replicate ops.size false) [] = true)
    (h : Holds P κ S.T (tv a) S.M w) (hs : aDraw P tk ops (K .normal) plan [] S) : (Code.region id ops true).wp P (fun e a' w' => Next P κ w a (K e) a' w') a w := by
  obtain ⟨h1, hk⟩ := h.drawn (w.drawn + 1)
  have hany := aDraw_any plan (Array.replicate ops.size false) [] [] S hp (fun p hp => by cases hp) hs
  rw [hlen] at hany
  exact wp_region_any hm (aAny_sound ops.size _ κ _ a S hB h1 hany fun a' w' hx => Next.trans hk rfl rfl hx)

end

end Go.Am

set_option linter.unusedSimpArgs false
set_option linter.unusedVariables false
/-! A struct is built and laid into new memory at one go: a slice that goes into it keeps the right to append. -/
namespace Go.Am
section
variable {P : Program} {κ : Ghost} {w : World} {a : Act} {K : St → Prop} {Q : Exit → Act → World → Prop} {S : St}

theorem setCell_same {w : World} {b o : Nat} {x : Value} (h : w.cell? ⟨b, o, none⟩ = some x) : w.setCell ⟨b, o, none⟩ x = w := by
  unfold World.cell? at h
  unfold World.setCell
  have : w.heap.modify b (fun | .cells c elem frozen => .cells (if (none : Option Nat).isSome then c else c.setIfInBounds o x) elem frozen | o => o) = w.heap := by
    apply Array.ext
    · rw [Array.size_modify]
    · intro i h1 h2
      rw [Array.getElem_modify]
      split
      · rename_i e
        subst e
        rw [Array.getElem?_eq_getElem h2] at h
        dsimp only at h
        split at h
        · rename_i c e' fr hc
          rw [Option.some.inj hc]
          simp only [Option.isSome_none, Bool.false_eq_true, ↓reduceIte] at h ⊢
          congr 1
          apply Array.ext
          · simp
          · intro j h3 h4
            rw [Array.getElem_setIfInBounds]
            split
            · rename_i e2; subst e2
              rw [Array.getElem?_eq_getElem h4] at h
              exact (Option.some.inj h).symm
            · rfl
        · cases h
      · rfl
  show ({ w with heap := _ } : World) = w
  exact congrArg (fun h => ({ w with heap := h } : World)) this

/-- The right to append goes from a temporary to a cell that holds the same slice. -/
theorem Holds.adopt {T : Nat → AVal} {M : Mem} (h : Holds P κ T (tv a) M w) {s b off : Nat} {xs l : List AVal} (hV : T s = .sl xs true) (hb : M b = some (.cells l)) (hle : off < l.length) (hc : w.cell? ⟨b, off, none⟩ = some (tv a s)) :
    ∃ κ', Holds P κ' (setT T s (.sl xs false)) (tv a) (M.upd b (.cells (l.set off (.sl xs true)))) w ∧ Keep κ w κ' w := by
  have hk1 : Keep κ w (fun b' o' => match κ b' o' with | .slot t => if t = s then .mslot b off else .slot t | y => y) w := Keep.tags (fun b' o' e => by simp only [e]) (fun b' o' e => by simp only [e])
  have h1 : Holds P (fun b' o' => match κ b' o' with | .slot t => if t = s then .mslot b off else .slot t | y => y) (setT T s (T s).shut) (tv a) M w := by
    refine ⟨fun t => ?_, fun c p hc => (h.obj c p hc).tags (fun b' o' e => by simp only [e]) (fun b' o' j e => by simp only [e]), fun c y hc => (h.tag c y fun e => hc (by simp only [e])).imp id fun h => h.to fun e => by simp only [e], fun t c y hsp => ?_, fun c y t hc => ?_, fun c y c' j hc => ?_⟩
    · unfold setT
      split
      · rename_i e; subst e; exact hk1.rep (h.tmp t).shut
      · exact hk1.rep (h.tmp t)
    · unfold setT at hsp
      split at hsp
      · exact absurd hsp Spare.not_shut
      · rename_i e
        have := h.sp t c y hsp
        simp only [this, if_neg e]
    · split at hc
      · rename_i t' e; exact h.wr c y t' e
      · exact h.wr c y t hc
    · split at hc
      · rename_i t' e; exact h.wr c y t' e
      · exact h.mwr c y c' j hc
  obtain ⟨h2, h3, h4⟩ := h1.setM hb (o := off) (X := .sl xs true) (x := tv a s) hle (by rw [← hV]; exact hk1.rep (h.tmp s)) (unit_one (h.tmp s) (by rw [hV]; rfl)) (fun b' o' hsp => by
    rw [← hV] at hsp
    have := h.sp s b' o' hsp
    simp only [this, if_true])
  rw [setCell_same hc] at h3 h4
  rw [hV] at h3
  exact ⟨_, h3, hk1.trans h4⟩

/-- A struct is built of parts, one of which may be appended to, and laid into new memory. -/
def aFuse (P : Program) (s off : Nat) (o o' : Oper) (K : St → Prop) (S : St) : Prop :=
  ∃ t parts d e cs xs, o.op = .build t parts ∧ o.dst = some d ∧ o.guard = none ∧ o'.op = .box t (.tmp d) ∧ o'.dst = some e ∧ o'.guard = none ∧ s ≠ d ∧ S.T s = .sl xs true ∧
    aop P S.T S.M o.type o.op = some (.agg cs) ∧ (AVal.agg cs).ok = true ∧ off < cs.length ∧
    (∀ v n c, ∃ cv, aop P (setT S.T s (.raw (.slice v n c))) S.M o.type o.op = some (.agg cv) ∧ cv[off]? = some (.raw (.slice v n c))) ∧
    ∀ b, S.M b = none → K ⟨setT (setT (setT S.T d (.agg cs)) s (.sl xs false)) e (.raw (.pointer (some ⟨b, 0, none⟩))), S.M.upd b (.cells ((cs.map AVal.shut).set off (.sl xs true)))⟩

theorem aFuse_mono {s off : Nat} {o o' : Oper} {K' : St → Prop} (hK : ∀ S, K S → K' S) (h : aFuse P s off o o' K S) : aFuse P s off o o' K' S := by
  obtain ⟨t, parts, d, e, cs, xs, h1, h2, h3, h4, h5, h6, h7, h8, h9, h10, h11, h12, h13⟩ := h
  exact ⟨t, parts, d, e, cs, xs, h1, h2, h3, h4, h5, h6, h7, h8, h9, h10, h11, h12, fun b hb => hK _ (h13 b hb)⟩

theorem aFuse_sound {s off : Nat} {o o' : Oper} (h : Holds P κ S.T (tv a) S.M w) (hd : ∀ d, o.dst = some d → d < a.tmps.size) (hd' : ∀ d, o'.dst = some d → d < a.tmps.size) (hf : aFuse P s off o o' K S) :
    o.wp P a w (fun a1 w1 => o'.wp P a1 w1 (Next P κ w a K) Q) Q := by
  obtain ⟨t, parts, d, e, cs, xs, h1, h2, h3, h4, h5, h6, h7, h8, h9, h10, h11, h12, h13⟩ := hf
  obtain ⟨u, hrun, hrep⟩ := aop_sound (a := a) h.tmp h.obj h9
  have hs := h.tmp s
  rw [h8] at hs
  obtain ⟨v, n, c, hv⟩ : ∃ v n c, tv a s = .slice v n c := by
    rcases rep_sl_inv hs with ⟨-, a0, c0, e, -⟩ | ⟨b, off, cap, sz, cv, e, -⟩
    · exact ⟨_, _, _, e⟩
    · exact ⟨_, _, _, e⟩
  obtain ⟨cv, h14, h15⟩ := h12 v n c
  obtain ⟨u', hrun', hrep'⟩ := aop_sound (a := a) (T := setT S.T s (.raw (.slice v n c))) (fun t => by
    unfold setT
    split
    · rename_i e1; subst e1
      have : a.eval (.tmp t) = .slice v n c := hv
      rw [this]; exact .raw _
    · exact h.tmp t) h.obj h14
  have hu : u' = u := by
    rw [hrun] at hrun'
    cases hrun'; rfl
  subst hu
  refine wp_value hrun ?_
  cases hrep with
  | agg _ vs hl hr =>
  have hcell : vs[off]? = some (tv a s) := by
    cases hrep' with
    | agg _ _ hl' hr' =>
      have hlt : off < vs.size := by omega
      have := hr' off _ vs[off] h15 (by simp [hlt])
      have e := rep_raw this
      rw [Array.getElem?_eq_getElem hlt, e, hv]
  have hdlt := hd d h2
  rw [h2]
  have hh : Holds P κ (setT S.T d (.agg cs)) (tv (a.put (some d) (.agg vs))) S.M w := by
    rw [tv_put _ hdlt]
    exact h.put d (.agg _ vs hl hr) fun _ _ hsp => by
      rcases hsp with ⟨l, o1, c1, e1, -⟩ | ⟨Vs, vs', i, X, x, e1, -⟩ <;> cases e1
  have htd : tv (a.put (some d) (.agg vs)) d = .agg vs := by rw [tv_put _ hdlt]; simp
  have hts : tv (a.put (some d) (.agg vs)) s = tv a s := by rw [tv_put _ hdlt]; simp [h7]
  have hrun2 : (execOp (a.put (some d) (.agg vs)).eval o').run P w = .ok (.value (.pointer (some ⟨w.heap.size, 0, none⟩))) (push w (.cells vs t)) := by
    unfold execOp; rw [h4]
    have e1 : (a.put (some d) (.agg vs)).eval (.tmp d) = .agg vs := htd
    refine (run_val (s := Instr.box t ((a.put (some d) (.agg vs)).eval (.tmp d))) rfl).trans ?_
    rw [e1]; rfl
  obtain ⟨hcl, hcu⟩ := ok_cells (P := P) (κ := κ) (w := w) (Rep.agg _ vs hl hr) h10
  obtain ⟨hn, hk⟩ := hh.newObj (l := cs.map AVal.shut) (cs := vs) (e := t) (fr := (0, 0)) (by rw [List.length_map]; exact hl.symm) (fun j X y e1 e2 => by
    simp only [List.getElem?_map, Option.map_eq_some_iff] at e1
    obtain ⟨Y, e1, rfl⟩ := e1
    have := hcl.2 j Y y e1 e2
    exact ⟨this.shut, unit_one this (hcu Y (List.mem_of_getElem? e1)), fun _ _ => Spare.not_shut⟩) (fun _ _ => by simp)
  have hTs : setT S.T d (.agg cs) s = .sl xs true := by unfold setT; rw [if_neg h7, h8]
  obtain ⟨κ', hn', hk'⟩ := hn.adopt (s := s) (b := w.heap.size) (off := off) (xs := xs) hTs (Mem.upd_self _ _ _) (by rw [List.length_map]; exact h11) (by
    unfold World.cell?
    rw [show (push w (.cells vs t)).heap[w.heap.size]? = some (.cells vs t) from push_new w _]
    dsimp only
    rw [if_neg (by simp), hcell, hts])
  rw [Mem.upd_upd] at hn'
  have hsz : (a.put (some d) (.agg vs)).tmps.size = a.tmps.size := put_size ..
  have := wp_value (o := o') (Q := Q) hrun2 (next_put (K := K) (S' := ⟨setT (setT S.T d (.agg cs)) s (.sl xs false), _⟩) (fun d hd => by rw [hsz]; exact hd' d hd) (by rw [h5]; exact h13 _ h.fresh) (fun d _ => hn'.put d (.raw _) fun _ _ => Spare.not_raw) (fun _ => hn') (hk.trans hk'))
  exact Oper.wp_mono (fun a' w' hx => Next.trans (Keep.refl κ w) hsz (put_defers ..) hx) this
end
end Go.Am

set_option linter.unusedSimpArgs false
set_option linter.unusedVariables false
/-! Regions in the order of the text; code; functions. (The test of the way: regions that draw their order come in between.) -/
namespace Go.Am

def aOps (P : Program) (tk : Nat → Option Nat) (ops : Array Oper) (K : St → Prop) : Nat → List Oper → St → Prop
  | _, [], S => K S
  | i, o :: rest, S => aGuard ops S.T o (dstep P (tk i) o S (aOps P tk ops K (i + 1) rest)) (aOps P tk ops K (i + 1) rest (S.put o.dst (.raw undef)))

/-- The same, with pairs of operations that are taken at one go. -/
def aSeg (P : Program) (tk : Nat → Option Nat) (ops : Array Oper) (K : St → Prop) : Nat → Nat → List Oper → St → Prop
  | 0, i, l, S => aOps P tk ops K i l S
  | n + 1, i, l, S => ∃ pre o o' rest s off, l = pre ++ o :: o' :: rest ∧ aOps P tk ops (aFuse P s off o o' (aSeg P tk ops K n (i + pre.length + 2) rest)) i pre S

def aRounds (F : St → (Exit → St → Prop) → Prop) : Nat → St → (Exit → St → Prop) → Prop
  | 0, _, _ => False
  | n + 1, S, K => F S fun e S' => match e with | .normal => aRounds F n S' K | e => K e S'

/-- A region that draws: by its plan, or, where that is empty, in every order. -/
def aDr (P : Program) (tk : Nat → Option Nat) (ops : Array Oper) (Q : St → Prop) (p : List PStep) (S : St) : Prop :=
  match p with
  | [] => aAny P tk ops Q [] ops.size (Array.replicate ops.size false) S
  | a :: l => aDraw P tk ops Q (a :: l) [] S

/-- What leaves by no goto. -/
def noG (K : Exit → St → Prop) : Exit → St → Prop
  | .goto _, _ => False
  | e, S => K e S

/-- From a label on, as often as the run jumps back to it. -/
def aPasses (l : Nat) (F : St → (Exit → St → Prop) → Prop) : Nat → St → (Exit → St → Prop) → Prop
  | 0, _, _ => False
  | n + 1, S, K => F S fun e S' => match e with | .goto l' => l' = l ∧ aPasses l F n S' K | e => K e S'
theorem exists_least {p : Nat → Prop} (h : ∃ n, p n) : ∃ n, p n ∧ ∀ m, p m → n ≤ m := by
  obtain ⟨n, hn⟩ := h
  induction n using Nat.strongRecOn with
  | _ n ih =>
    by_cases h : ∃ m, m < n ∧ p m
    · obtain ⟨m, h1, h2⟩ := h; exact ih m h1 h2
    · exact ⟨n, hn, fun m hm => Classical.byContradiction fun h1 => h ⟨m, by omega, hm⟩⟩
open Classical in
noncomputable def least (p : Nat → Prop) : Nat := if h : ∃ n, p n then Classical.choose (exists_least h) else 0
theorem least_spec {p : Nat → Prop} (h : ∃ n, p n) : p (least p) ∧ ∀ m, p m → least p ≤ m := by
  unfold least
  rw [dif_pos h]
  exact Classical.choose_spec (exists_least h)

mutual
def aCode (P : Program) (tk : Nat → Nat → Option Nat) (pl : Nat → List PStep) : Code → St → (Exit → St → Prop) → Prop
  | .skip, S, K => K .normal S
  | .region id ops false, S, K => ∃ n, aSeg P (tk id) ops (K .normal) n 0 ops.toList S
  | .region id ops true, S, K => aDr P (tk id) ops (K .normal) (pl id) S
  | .seq x y, S, K => aCode P tk pl x S fun e S' => match e with | .normal => aCode P tk pl y S' K | e => K e S'
  | .cond c x y, S, K => (match ev S.T c with | .raw (.bool t) => (t = true → aCode P tk pl x S K) ∧ (t = false → aCode P tk pl y S K) | _ => False)
  | .block id c, S, K => aCode P tk pl c S fun e S' => match e with | .exit id' => if id' = id then K .normal S' else K (.exit id') S' | e => K e S'
  | .loop c, S, K => ∃ n, aRounds (aCode P tk pl c) n S K
  | .exit id, S, K => K (.exit id) S
  | .ret, S, K => K .ret S
  | .label _, S, K => K .normal S
  | .goto l, S, K => K (.goto l) S
  | .scope c, S, K => ∃ l, (findLabel c l).isSome = true ∧ ∃ n, aCode P tk pl c S fun e S' => match e with | .goto l' => l' = l ∧ aPasses l (aFrom P tk pl c l) n S' K | e => K e S'
  | .rangeFunc _ _ _ _, _, _ => False
  | .refuse _, _, _ => False
/-- From a label on. -/
def aFrom (P : Program) (tk : Nat → Nat → Option Nat) (pl : Nat → List PStep) : Code → Nat → St → (Exit → St → Prop) → Prop
  | .seq x y, l, S, K => if (findLabel x l).isSome then aFrom P tk pl x l S fun e S' => match e with | .normal => aCode P tk pl y S' K | e => K e S' else aFrom P tk pl y l S K
  | .label l', l, S, K => if l' == l then K .normal S else False
  | .skip, _, _, _ => False
  | .region _ _ _, _, _, _ => False
  | .cond _ _ _, _, _, _ => False
  | .block _ _, _, _, _ => False
  | .loop _, _, _, _ => False
  | .exit _, _, _, _ => False
  | .ret, _, _, _ => False
  | .goto _, _, _, _ => False
  | .scope _, _, _, _ => False
  | .rangeFunc _ _ _ _, _, _, _ => False
  | .refuse _, _, _, _ => False
end

def codeB (P : Program) (n : Nat) (tk : Nat → Nat → Option Nat) (pl : Nat → List PStep) : Code → Bool
  | .region id ops draw => (ops.toList.all fun o => stepB n o && zeroB P o) && (!draw || (pl id).isEmpty || ((pl id).length == ops.size && planB ops (tk id) (pl id) (Array.replicate ops.size false) []))
  | .seq x y => codeB P n tk pl x && codeB P n tk pl y
  | .cond _ x y => codeB P n tk pl x && codeB P n tk pl y
  | .block _ c => codeB P n tk pl c
  | .loop c => codeB P n tk pl c
  | .scope c => codeB P n tk pl c
  | _ => true

theorem aAll_sound {P : Program} {ops : Array Oper} {tk : Nat → Option Nat} {κ : Ghost} {w : World} {a : Act} {id : Nat} {K : Exit → St → Prop} {S : St} (hm : P.follows .mixedOrders = true) (hB : ∀ (i : Nat) o, ops[i]? = some o → stepB a.tmps.size o = true ∧ zeroB P o = true)
    (h : Holds P κ S.T (tv a) S.M w) (hs : aAny P tk ops (K .normal) [] ops.size (Array.replicate ops.size false) S) : (Code.region id ops true).wp P (fun e a' w' => Next P κ w a (K e) a' w') a w := by
  obtain ⟨h1, hk⟩ := h.drawn (w.drawn + 1)
  exact wp_region_any hm (aAny_sound ops.size _ κ _ a S hB h1 hs fun a' w' hx => Next.trans hk rfl rfl hx)

/-- Behind code. -/
def Post (P : Program) (κ : Ghost) (w : World) (a : Act) (K : Exit → St → Prop) : Exit → Act → World → Prop := fun e a' w' => Next P κ w a (K e) a' w'

section
variable {P : Program} {κ : Ghost} {w : World} {a : Act}

theorem aOps_sound {tk : Nat → Option Nat} {ops : Array Oper} {Q : Exit → Act → World → Prop} : ∀ (rest : List Oper) (tl : List Nat) (i : Nat) (κ : Ghost) (w : World) (a : Act) (S : St) (K : St → Prop), (∀ j : Nat, j < rest.length → rest[j]? = ops[i + j]?) → (∀ o ∈ rest, stepB a.tmps.size o = true ∧ zeroB P o = true) →
    Holds P κ S.T (tv a) S.M w → aOps P tk ops K i rest S → (∀ a' w', Next P κ w a K a' w' → wpOps P ops Q tl a' w') → wpOps P ops Q (List.range' i rest.length ++ tl) a w
  | [], tl, i, κ, w, a, S, K, _, _, h, hs, hQ => hQ a w ⟨κ, S, hs, h, Keep.refl κ w, rfl, rfl⟩
  | o :: rest, tl, i, κ, w, a, S, K, hops, hB, h, hs, hQ => by
    have ho : ops[i]? = some o := by have := hops 0 (by simp); simpa using this.symm
    have hrest : ∀ j : Nat, j < rest.length → rest[j]? = ops[i + 1 + j]? := fun j hj => by
      have := hops (j + 1) (by simp; omega)
      rw [List.getElem?_cons_succ] at this
      rw [this]; congr 1; omega
    obtain ⟨hb1, hb2⟩ := hB o (by simp)
    simp only [List.length_cons, List.range'_succ, List.cons_append, wpOps, ho]
    rcases aGuard_sound h hs with ⟨hw, hy⟩ | ⟨hw, hn⟩
    · rw [if_pos hw]
      left
      refine Oper.wp_mono (fun a' w' hn => ?_) (dstep_sound (Q := Q) h hb1 hb2 hy)
      obtain ⟨κ', S', h1, h2, h3, h4, h5⟩ := hn
      exact aOps_sound rest tl (i + 1) κ' w' a' S' K hrest (fun o ho => by rw [h4]; exact hB o (by simp [ho])) h2 h1 fun a'' w'' hx => hQ a'' w'' (Next.trans h3 h4 h5 hx)
    · rw [if_neg (by rw [hw]; exact Bool.false_ne_true)]
      have hd := stepB_dst hb1
      have h1 : Holds P κ (S.put o.dst (.raw undef)).T (tv (a.put o.dst undef)) (S.put o.dst (.raw undef)).M w := by
        cases hdst : o.dst with
        | none => exact h
        | some d =>
          rw [tv_put undef (hd d hdst)]
          exact h.put d (.raw _) fun _ _ => Spare.not_free (by simp [AVal.free])
      exact aOps_sound rest tl (i + 1) κ w (a.put o.dst undef) _ K hrest (fun o' ho => by rw [put_size]; exact hB o' (by simp [ho])) h1 hn fun a'' w'' hx => hQ a'' w'' (Next.trans (Keep.refl κ w) (put_size ..) (put_defers ..) hx)

theorem aSeg_sound {tk : Nat → Option Nat} {ops : Array Oper} {Q : Exit → Act → World → Prop} {K : St → Prop} : ∀ (n : Nat) (l : List Oper) (i : Nat) (κ : Ghost) (w : World) (a : Act) (S : St), (∀ j : Nat, j < l.length → l[j]? = ops[i + j]?) → (∀ o ∈ l, stepB a.tmps.size o = true ∧ zeroB P o = true) →
    Holds P κ S.T (tv a) S.M w → aSeg P tk ops K n i l S → (∀ a' w', Next P κ w a K a' w' → Q .normal a' w') → wpOps P ops Q (List.range' i l.length) a w
  | 0, l, i, κ, w, a, S, hops, hB, h, hs, hQ => by
    have := aOps_sound (Q := Q) l [] i κ w a S K hops hB h hs fun a' w' hx => hQ a' w' hx
    rwa [List.append_nil] at this
  | n + 1, l, i, κ, w, a, S, hops, hB, h, hs, hQ => by
    obtain ⟨pre, o, o', rest, s, off, rfl, hs⟩ := hs
    have hr : List.range' i (pre ++ o :: o' :: rest).length = List.range' i pre.length ++ (i + pre.length) :: (i + pre.length + 1) :: List.range' (i + pre.length + 2) rest.length := by
      rw [List.length_append, List.length_cons, List.length_cons, ← List.range'_append_1 (s := i) (m := pre.length), List.range'_succ, List.range'_succ]
    rw [hr]
    have hl : (pre ++ o :: o' :: rest).length = pre.length + rest.length + 2 := by simp; omega
    refine aOps_sound (Q := Q) pre _ i κ w a S _ (fun j hj => by rw [← hops j (by omega), List.getElem?_append_left hj]) (fun o ho => hB o (by simp [ho])) h hs fun a' w' hx => ?_
    obtain ⟨κ', S', h1, h2, h3, h4, h5⟩ := hx
    have ho : ops[i + pre.length]? = some o := by rw [← hops pre.length (by omega), List.getElem?_append_right (Nat.le_refl _), Nat.sub_self]; rfl
    have ho' : ops[i + pre.length + 1]? = some o' := by rw [Nat.add_assoc, ← hops (pre.length + 1) (by omega), List.getElem?_append_right (by omega), Nat.add_sub_cancel_left]; rfl
    have hb := (hB o (by simp)).1
    have hb' := (hB o' (by simp)).1
    rw [← h4] at hb hb'
    obtain ⟨t, parts, d, e, cs, xs, g1, g2, g3, g4, g5, g6, -⟩ := id h1
    simp only [wpOps, ho, ho']
    rw [if_pos (by unfold Region.wanted; rw [g3])]
    left
    have hsz : ∀ x : Act, x.tmps.size = x.tmps.size := fun _ => rfl
    refine Oper.wp_mono (fun a1 w1 hx => ?_) (aFuse_sound (Q := Q) h2 (stepB_dst hb) (stepB_dst hb') h1)
    rw [if_pos (by unfold Region.wanted; rw [g6])]
    left
    refine Oper.wp_mono (fun a2 w2 hx => ?_) hx
    obtain ⟨κ2, S2, k1, k2, k3, k4, k5⟩ := hx
    exact aSeg_sound n rest (i + pre.length + 2) κ2 w2 a2 S2 (fun j hj => by
      have := hops (pre.length + 2 + j) (by omega)
      rw [List.getElem?_append_right (by omega), show pre.length + 2 + j - pre.length = j + 1 + 1 by omega, List.getElem?_cons_succ, List.getElem?_cons_succ] at this
      rw [this]; congr 1; omega) (fun o ho => by rw [k4, h4]; exact hB o (by simp [ho])) k2 k1 fun a'' w'' hx => hQ a'' w'' (Next.trans h3 h4 h5 (Next.trans k3 k4 k5 hx))

theorem aBoth_sound (hm : P.follows .mixedOrders = true) {tk : Nat → Nat → Option Nat} {pl : Nat → List PStep} : ∀ (c : Code), (∀ (κ : Ghost) (w : World) (a : Act) (S : St) (K : Exit → St → Prop), codeB P a.tmps.size tk pl c = true → Holds P κ S.T (tv a) S.M w → aCode P tk pl c S K → c.wp P (Post P κ w a K) a w) ∧ (∀ (l : Nat) (κ : Ghost) (w : World) (a : Act) (S : St) (K : Exit → St → Prop), codeB P a.tmps.size tk pl c = true → Holds P κ S.T (tv a) S.M w → aFrom P tk pl c l S K → ∃ rest, findLabel c l = some rest ∧ rest.wp P (Post P κ w a K) a w) := by
  intro c
  induction c with
  | skip => exact ⟨fun κ w a S K _ h hs => Go.wp_skip ⟨κ, S, hs, h, Keep.refl κ w, rfl, rfl⟩, fun l κ w a S K _ _ hs => hs.elim⟩
  | region id ops draw =>
    refine ⟨?_, fun l κ w a S K _ _ hs => hs.elim⟩
    intro κ w a S K hb h hs
    simp only [codeB, Bool.and_eq_true] at hb
    have hB : ∀ o ∈ ops.toList, stepB a.tmps.size o = true ∧ zeroB P o = true := fun o ho => by
      have := List.all_eq_true.1 hb.1 o ho
      simpa using this
    cases draw with
    | true =>
      have h2 := hb.2
      have hs' : aDr P (tk id) ops (K .normal) (pl id) S := hs
      cases hp : pl id with
      | nil =>
        rw [hp] at hs'
        exact aAll_sound (K := K) hm (fun i o ho => hB o (Array.mem_toList_iff.2 (Array.mem_of_getElem? ho))) h hs'
      | cons p l =>
        rw [hp] at hs' h2
        simp only [Bool.not_true, Bool.false_or, List.isEmpty_cons, Bool.and_eq_true, beq_iff_eq] at h2
        exact aDraw_sound (K := K) hm (fun i o ho => hB o (Array.mem_toList_iff.2 (Array.mem_of_getElem? ho))) h2.1 h2.2 h hs'
    | false =>
      refine wp_region ?_
      obtain ⟨n, hs⟩ : ∃ n, aSeg P (tk id) ops (K .normal) n 0 ops.toList S := hs
      have := aSeg_sound (P := P) (Q := Post P κ w a K) (K := K .normal) n ops.toList 0 κ w a S (fun j _ => by simp) hB h hs (fun a' w' hx => hx)
      rw [Array.length_toList, ← List.range_eq_range'] at this
      exact this
  | seq x y ihx ihy =>
    refine ⟨?_, fun l κ w a S K hb h hs => ?_⟩
    rotate_left
    · simp only [codeB, Bool.and_eq_true] at hb
      have hs' : if (findLabel x l).isSome then aFrom P tk pl x l S (fun e S' => match e with | .normal => aCode P tk pl y S' K | e => K e S') else aFrom P tk pl y l S K := hs
      cases hf : findLabel x l with
      | some r =>
        rw [if_pos (by rw [hf]; rfl)] at hs'
        obtain ⟨rest, hr, hw⟩ := ihx.2 l κ w a S _ hb.1 h hs'
        rw [hf] at hr
        refine ⟨.seq rest y, by simp only [findLabel, hf, hr], ?_⟩
        refine wp_seq (wp_mono hw fun e a' w' hp => ?_)
        obtain ⟨κ', S', h1, h2, h3, h4, h5⟩ := hp
        cases e with
        | normal => exact wp_mono (ihy.1 κ' w' a' S' K (by rw [h4]; exact hb.2) h2 h1) fun e a'' w'' hx => Next.trans h3 h4 h5 hx
        | _ => exact ⟨κ', S', h1, h2, h3, h4, h5⟩
      | none =>
        rw [if_neg (by rw [hf]; simp)] at hs'
        obtain ⟨rest, hr, hw⟩ := ihy.2 l κ w a S _ hb.2 h hs'
        exact ⟨rest, by simp only [findLabel, hf, hr], hw⟩
    intro κ w a S K hb h hs
    simp only [codeB, Bool.and_eq_true] at hb
    refine wp_seq (wp_mono (ihx.1 κ w a S _ hb.1 h hs) fun e a' w' hp => ?_)
    obtain ⟨κ', S', h1, h2, h3, h4, h5⟩ := hp
    cases e with
    | normal => exact wp_mono (ihy.1 κ' w' a' S' K (by rw [h4]; exact hb.2) h2 h1) fun e a'' w'' hx => Next.trans h3 h4 h5 hx
    | _ => exact ⟨κ', S', h1, h2, h3, h4, h5⟩
  | cond c x y ihx ihy =>
    refine ⟨?_, fun l κ w a S K _ _ hs => hs.elim⟩
    intro κ w a S K hb h hs
    simp only [codeB, Bool.and_eq_true] at hb
    simp only [aCode] at hs
    split at hs
    · rename_i t ht
      have hc := ev_rep h.tmp c
      rw [ht] at hc
      exact wp_cond_split (rep_raw hc) (fun e => ihx.1 κ w a S K hb.1 h (hs.1 e)) (fun e => ihy.1 κ w a S K hb.2 h (hs.2 e))
    · exact hs.elim
  | block id c ih =>
    refine ⟨?_, fun l κ w a S K _ _ hs => hs.elim⟩
    intro κ w a S K hb h hs
    refine wp_block (wp_mono (ih.1 κ w a S _ hb h hs) fun e a' w' hp => ?_)
    obtain ⟨κ', S', h1, h2, h3, h4, h5⟩ := hp
    cases e with
    | exit id' =>
      simp only [Exit.inBlock]
      by_cases e : id' = id
      · rw [if_pos e]; simp only [e, if_true] at h1; exact ⟨κ', S', h1, h2, h3, h4, h5⟩
      · rw [if_neg e]; simp only [if_neg e] at h1; exact ⟨κ', S', h1, h2, h3, h4, h5⟩
    | _ => exact ⟨κ', S', h1, h2, h3, h4, h5⟩
  | loop c ih =>
    refine ⟨?_, fun l κ w a S K _ _ hs => hs.elim⟩
    intro κ w a S K hb h hs
    obtain ⟨n, hn⟩ := hs
    refine wp_loop_rounds n ?_
    have key : ∀ n κ' w' a' S', a'.tmps.size = a.tmps.size → a'.defers = a.defers → Keep κ w κ' w' → Holds P κ' S'.T (tv a') S'.M w' → aRounds (aCode P tk pl c) n S' K → Code.rounds P c (Post P κ w a K) n a' w' := by
      intro n
      induction n with
      | zero => exact fun _ _ _ _ _ _ _ _ h => h.elim
      | succ n ihn =>
        intro κ' w' a' S' h1 h2 h3 h4 h5
        rw [rounds_succ]
        refine wp_mono (ih.1 κ' w' a' S' _ (by rw [h1]; exact hb) h4 h5) fun e a'' w'' hp => ?_
        obtain ⟨κ2, S2, g1, g2, g3, g4, g5⟩ := hp
        cases e with
        | normal => exact ihn κ2 w'' a'' S2 (g4.trans h1) (g5.trans h2) (h3.trans g3) g2 g1
        | _ => exact ⟨κ2, S2, g1, g2, h3.trans g3, g4.trans h1, g5.trans h2⟩
    exact key n κ w a S rfl rfl (Keep.refl κ w) h hn
  | exit id => exact ⟨fun κ w a S K _ h hs => wp_exit ⟨κ, S, hs, h, Keep.refl κ w, rfl, rfl⟩, fun l κ w a S K _ _ hs => hs.elim⟩
  | ret => exact ⟨fun κ w a S K _ h hs => wp_ret ⟨κ, S, hs, h, Keep.refl κ w, rfl, rfl⟩, fun l κ w a S K _ _ hs => hs.elim⟩
  | label l' =>
    refine ⟨fun κ w a S K _ h hs => wp_label ⟨κ, S, hs, h, Keep.refl κ w, rfl, rfl⟩, fun l κ w a S K _ h hs => ?_⟩
    have hs' : if l' == l then K .normal S else False := hs
    split at hs'
    · rename_i e
      exact ⟨.skip, by simp only [findLabel, e, if_true], Go.wp_skip ⟨κ, S, hs', h, Keep.refl κ w, rfl, rfl⟩⟩
    · exact hs'.elim
  | goto l => exact ⟨fun κ w a S K _ h hs => wp_goto ⟨κ, S, hs, h, Keep.refl κ w, rfl, rfl⟩, fun l κ w a S K _ _ hs => hs.elim⟩
  | rangeFunc f ps x y _ _ => exact ⟨fun κ w a S K _ h hs => hs.elim, fun l κ w a S K _ _ hs => hs.elim⟩
  | scope c ih =>
    refine ⟨?_, fun l κ w a S K _ _ hs => hs.elim⟩
    intro κ w a S K hb h hs
    obtain ⟨l, hsome, N, hs⟩ : ∃ l, (findLabel c l).isSome = true ∧ ∃ n, aCode P tk pl c S (fun e S' => match e with | .goto l' => l' = l ∧ aPasses l (aFrom P tk pl c l) n S' K | e => K e S') := hs
    obtain ⟨rest, hf⟩ := Option.isSome_iff_exists.1 hsome
    obtain ⟨Jm, hJm⟩ : ∃ Jm : Act → World → Nat → Prop, Jm = fun a' w' m => ∃ κ' S', aPasses l (aFrom P tk pl c l) m S' K ∧ Holds P κ' S'.T (tv a') S'.M w' ∧ Keep κ w κ' w' ∧ a'.tmps.size = a.tmps.size ∧ a'.defers = a.defers := ⟨_, rfl⟩
    refine wp_scope_jumps l (fun a' w' => ∃ m, Jm a' w' m) (fun a' w' => least (Jm a' w')) hf ?_ ?_
    · refine wp_mono (ih.1 κ w a S _ hb h hs) fun e a' w' hp => ?_
      obtain ⟨κ', S', h1, h2, h3, h4, h5⟩ := hp
      cases e with
      | goto l' => exact ⟨h1.1, N, by rw [hJm]; exact ⟨κ', S', h1.2, h2, h3, h4, h5⟩⟩
      | _ => exact ⟨κ', S', h1, h2, h3, h4, h5⟩
    · rintro a1 w1 hJ
      have hsp := (least_spec hJ).1
      generalize least (Jm a1 w1) = m at hsp ⊢
      rw [hJm] at hsp
      obtain ⟨κ', S', h1, h2, h3, h4, h5⟩ := hsp
      cases m with
      | zero => exact h1.elim
      | succ m =>
        obtain ⟨rest', hr, hw⟩ := ih.2 l κ' w1 a1 S' _ (by rw [h4]; exact hb) h2 h1
        rw [hf] at hr
        cases hr
        refine wp_mono hw fun e a'' w'' hx => ?_
        obtain ⟨κ2, S2, g1, g2, g3, g4, g5⟩ := hx
        cases e with
        | goto l' =>
          have hJ2 : Jm a'' w'' m := by rw [hJm]; exact ⟨κ2, S2, g1.2, g2, h3.trans g3, g4.trans h4, g5.trans h5⟩
          exact ⟨g1.1, ⟨m, hJ2⟩, Nat.lt_succ_of_le ((least_spec ⟨m, hJ2⟩).2 m hJ2)⟩
        | _ => exact ⟨κ2, S2, g1, g2, h3.trans g3, g4.trans h4, g5.trans h5⟩
  | refuse why => exact ⟨fun κ w a S K _ h hs => hs.elim, fun l κ w a S K _ _ hs => hs.elim⟩

theorem aCode_sound (hm : P.follows .mixedOrders = true) {tk : Nat → Nat → Option Nat} {pl : Nat → List PStep} (c : Code) (κ : Ghost) (w : World) (a : Act) (S : St) (K : Exit → St → Prop) (hb : codeB P a.tmps.size tk pl c = true) (h : Holds P κ S.T (tv a) S.M w) (hs : aCode P tk pl c S K) : c.wp P (Post P κ w a K) a w :=
  (aBoth_sound hm c).1 κ w a S K hb h hs

end
end Go.Am

/-! Functions. -/
namespace Go.Am

def aRes1 (P : Program) (S : St) : ResultVar → Option AVal
  | .tmp t => some (S.T t)
  | .cell a t => (match S.T a with
    | .raw (.pointer (some ⟨b, o, none⟩)) => (match S.M b with | some (.cells l) => (loadP P t l o).map AVal.shut | _ => none)
    | _ => none)

def aResults (P : Program) (S : St) : List ResultVar → Option AVal
  | [x] => aRes1 P S x
  | xs => (xs.mapM (aRes1 P S)).map .tup

def aRet (P : Program) (fn : Func) (Post : AVal → Mem → Prop) (e : Exit) (S : St) : Prop :=
  match e with
  | .normal | .ret => (match aResults P S fn.results.toList with | some r => Post r S.M | none => False)
  | _ => False

section
variable {P : Program} {κ : Ghost} {w : World}

def retTag (κ : Ghost) (t : Option Nat) : Ghost := fun b o => match κ b o with
  | .slot t' => if t = some t' then .slot 0 else .free
  | x => x

theorem Holds.ret {T : Nat → AVal} {V : Nat → Value} {M : Mem} (h : Holds P κ T V M w) {r : AVal} {v : Value} (hr : Rep P κ w r v) (t : Option Nat) (ho : (∃ s, t = some s ∧ r = T s ∧ v = V s) ∨ r.free) :
    Holds P (retTag κ t) (argT [r]) (fun x => if x = 0 then v else undef) M w ∧ Keep κ w (retTag κ t) w := by
  have himm : ∀ b o, κ b o = .imm → retTag κ t b o = .imm := fun b o e => by unfold retTag; rw [e]
  have hframe : ∀ b o, κ b o = .frame → retTag κ t b o = .frame := fun b o e => by unfold retTag; rw [e]
  have hk : Keep κ w (retTag κ t) w := Keep.tags himm hframe
  have h0 : ∀ x, x ≠ 0 → argT [r] x = .undef := fun x hx => by
    unfold argT
    rw [List.getD_eq_getElem?_getD, List.getElem?_eq_none (by simp; omega)]; rfl
  refine ⟨⟨fun x => ?_, fun b o hb => (h.obj b o hb).tags himm (fun b' o' j e => by unfold retTag; rw [e]), fun b o hb => (h.tag b o fun e => hb (by unfold retTag; rw [e])).imp id fun h => h.to (himm b o), fun x b o hsp => ?_, fun b o x hb => ?_, fun b o c j hb => ?_⟩, hk⟩
  · by_cases hx : x = 0
    · subst hx; exact hk.rep hr
    · rw [h0 x hx]; exact .undef _
  · by_cases hx : x = 0
    · subst hx
      rcases ho with ⟨s, h1, h2, h3⟩ | hf
      · have hsp' : Spare P w (T s) (V s) b o := by rw [← h2, ← h3]; exact hsp
        have := h.sp s b o hsp'
        unfold retTag; rw [this, h1]; simp
      · exact absurd hsp (Spare.not_free hf)
    · rw [h0 x hx] at hsp; exact absurd hsp (Spare.not_free (by simp [AVal.free]))
  · unfold retTag at hb
    split at hb
    · rename_i t' e; exact h.wr b o t' e
    · exact h.wr b o x hb
  · unfold retTag at hb
    split at hb
    · split at hb <;> cases hb
    · exact h.mwr b o c j hb

def retAll (κ : Ghost) : Ghost := fun b o => match κ b o with
  | .slot _ => .slot 0
  | x => x

theorem Holds.retAll {T : Nat → AVal} {V : Nat → Value} {M : Mem} (h : Holds P κ T V M w) {r : AVal} {v : Value} (hr : Rep P κ w r v) (ho : ∀ b o, Spare P w r v b o → ∃ s, κ b o = .slot s) :
    Holds P (retAll κ) (argT [r]) (fun x => if x = 0 then v else undef) M w ∧ Keep κ w (Am.retAll κ) w := by
  have himm : ∀ b o, κ b o = .imm → Am.retAll κ b o = .imm := fun b o e => by unfold Am.retAll; rw [e]
  have hframe : ∀ b o, κ b o = .frame → Am.retAll κ b o = .frame := fun b o e => by unfold Am.retAll; rw [e]
  have hk : Keep κ w (Am.retAll κ) w := Keep.tags himm hframe
  have h0 : ∀ x, x ≠ 0 → argT [r] x = .undef := fun x hx => by
    unfold argT
    rw [List.getD_eq_getElem?_getD, List.getElem?_eq_none (by simp; omega)]; rfl
  refine ⟨⟨fun x => ?_, fun b o hb => (h.obj b o hb).tags himm (fun b' o' j e => by unfold Am.retAll; rw [e]), fun b o hb => (h.tag b o fun e => hb (by unfold Am.retAll; rw [e])).imp id fun h => h.to (himm b o), fun x b o hsp => ?_, fun b o x hb => ?_, fun b o c j hb => ?_⟩, hk⟩
  · by_cases hx : x = 0
    · subst hx; exact hk.rep hr
    · rw [h0 x hx]; exact .undef _
  · by_cases hx : x = 0
    · subst hx
      obtain ⟨s, hs⟩ := ho b o hsp
      unfold Am.retAll; rw [hs]
    · rw [h0 x hx] at hsp; exact absurd hsp (Spare.not_free (by simp [AVal.free]))
  · unfold Am.retAll at hb
    split at hb
    · rename_i t' e; exact h.wr b o t' e
    · exact h.wr b o x hb
  · unfold Am.retAll at hb
    split at hb
    · cases hb
    · exact h.mwr b o c j hb

theorem aRes1_sound {a : Act} {S : St} (h : Holds P κ S.T (tv a) S.M w) {x : ResultVar} {X : AVal} (hx : aRes1 P S x = some X) :
    ∃ v, (match x with | .tmp t => pure (a.tmps.getD t undef) | .cell a' t => (do loadVar t (← asAddr (a.tmps.getD a' undef))) : Sem Value).run P w = .ok v w ∧ Rep P κ w X v ∧ ((∃ t, x = .tmp t ∧ X = S.T t ∧ v = tv a t) ∨ X.free) := by
  cases x with
  | tmp t =>
    simp only [aRes1, Option.some.injEq] at hx
    subst hx
    exact ⟨tv a t, rfl, h.tmp t, .inl ⟨t, rfl, rfl, rfl⟩⟩
  | cell a' t =>
    simp only [aRes1] at hx
    split at hx
    · rename_i b o hp
      have hp' := h.tmp a'
      rw [hp] at hp'
      split at hx
      · rename_i l hb
        simp only [Option.map_eq_some_iff] at hx
        obtain ⟨Y, hY, rfl⟩ := hx
        obtain ⟨u, h1, h2⟩ := run_loadAt_ptr h.obj hb hY
        refine ⟨u, ?_, h2.shut, .inr (AVal.shut_free _)⟩
        show ((asAddr (a.tmps.getD a' undef)) >>= fun q => loadVar t q).run P w = _
        have : a.tmps.getD a' undef = .pointer (some ⟨b, o, none⟩) := rep_raw hp'
        rw [this, run_bind_pr (x := ⟨b, o, none⟩) rfl]
        exact h1
      · cases hx
    · cases hx

theorem aResults_sound {a : Act} {S : St} {fn : Func} (h : Holds P κ S.T (tv a) S.M w) {r : AVal} (hr : aResults P S fn.results.toList = some r) :
    ∃ v κ', (results fn a.tmps).run P w = .ok v w ∧ Holds P κ' (argT [r]) (fun x => if x = 0 then v else undef) S.M w ∧ Keep κ w κ' w := by
  let g : ResultVar → Sem Value := fun x => match x with | .tmp t => pure (a.tmps.getD t undef) | .cell a' t => (do loadVar t (← asAddr (a.tmps.getD a' undef)))
  have hres : ∀ vs : List Value, (fn.results.toList.mapM g).run P w = .ok vs w → (results fn a.tmps).run P w = .ok (if h : vs.toArray.size = 1 then vs.toArray[0] else .tuple vs.toArray) w := fun vs hv => by
    unfold results
    have e : (fn.results.mapM g) = (fn.results.toList.mapM g) >>= fun l => pure l.toArray := by
      rw [Array.mapM_eq_mapM_toList]; rfl
    show ((fn.results.mapM g) >>= fun vs => (pure (if h : vs.size = 1 then vs[0] else .tuple vs) : Sem Value)).run P w = _
    rw [e, Sem.run_bind, Sem.run_bind, hv]; rfl
  have hmap : ∀ (xs : List ResultVar) (Xs : List AVal), xs.mapM (aRes1 P S) = some Xs → ∃ vs : List Value, (xs.mapM g).run P w = .ok vs w ∧ Xs.length = vs.length ∧ ∀ (i : Nat) X v, Xs[i]? = some X → vs[i]? = some v → Rep P κ w X v ∧ ((∃ t, X = S.T t ∧ v = tv a t) ∨ X.free) := by
    intro xs
    induction xs with
    | nil =>
      intro Xs hx
      simp at hx
      subst hx
      exact ⟨[], rfl, rfl, fun i X v e => by simp at e⟩
    | cons x xs ih =>
      intro Xs hx
      rw [List.mapM_cons] at hx
      cases h1 : aRes1 P S x with
      | none => rw [h1] at hx; cases hx
      | some X =>
        rw [h1] at hx
        simp only [Option.bind_eq_bind, Option.bind_some] at hx
        cases h2 : xs.mapM (aRes1 P S) with
        | none => rw [h2] at hx; cases hx
        | some Ys =>
          rw [h2] at hx
          obtain rfl := Option.some.inj hx
          obtain ⟨vs, h3, h4, h5⟩ := ih Ys h2
          obtain ⟨v, h6, h7, h8⟩ := aRes1_sound h h1
          refine ⟨v :: vs, ?_, by simp [h4], fun i Z z e1 e2 => ?_⟩
          · rw [List.mapM_cons, Sem.run_bind]
            have : (g x).run P w = .ok v w := h6
            rw [this, Result.andThen_ok, Sem.run_bind, h3]; rfl
          · cases i with
            | zero => simp at e1 e2; subst e1; subst e2; exact ⟨h7, h8.imp (fun ⟨t, _, e1, e2⟩ => ⟨t, e1, e2⟩) id⟩
            | succ i => exact h5 i Z z (by simpa using e1) (by simpa using e2)
  unfold aResults at hr
  split at hr
  · rename_i x hx
    obtain ⟨v, h1, h2, h3⟩ := aRes1_sound h hr
    have hv := hres [v] (by
      rw [hx, List.mapM_cons, Sem.run_bind]
      have : (g x).run P w = .ok v w := h1
      rw [this]; rfl)
    have hv' : (results fn a.tmps).run P w = .ok v w := by rw [hv]; rfl
    rcases h3 with ⟨t, h4, h5, h6⟩ | h3
    · obtain ⟨h7, h8⟩ := h.ret h2 (some t) (.inl ⟨t, rfl, h5, h6⟩)
      exact ⟨v, _, hv', h7, h8⟩
    · obtain ⟨h7, h8⟩ := h.ret h2 none (.inr h3)
      exact ⟨v, _, hv', h7, h8⟩
  · rename_i hne
    simp only [Option.map_eq_some_iff] at hr
    obtain ⟨Xs, h1, rfl⟩ := hr
    obtain ⟨vs, h2, h3, h4⟩ := hmap _ _ h1
    have hlen : vs.length ≠ 1 := fun e => by
      have h5 : fn.results.toList.length = 1 := by
        have : ∀ (xs : List ResultVar) Xs, xs.mapM (aRes1 P S) = some Xs → Xs.length = xs.length := by
          intro xs
          induction xs with
          | nil => intro Xs hx; simp at hx; subst hx; rfl
          | cons x xs ih =>
            intro Xs hx
            rw [List.mapM_cons] at hx
            cases h1 : aRes1 P S x with
            | none => rw [h1] at hx; cases hx
            | some X =>
              rw [h1] at hx
              simp only [Option.bind_eq_bind, Option.bind_some] at hx
              cases h2 : xs.mapM (aRes1 P S) with
              | none => rw [h2] at hx; cases hx
              | some Ys => rw [h2] at hx; obtain rfl := Option.some.inj hx; simp [ih Ys h2]
        rw [← this _ _ h1, h3, e]
      obtain ⟨x, hx⟩ := List.length_eq_one_iff.1 h5
      exact hne x hx
    have hv := hres vs h2
    have hv' : (results fn a.tmps).run P w = .ok (.tuple vs.toArray) w := by rw [hv, dif_neg (by simpa using hlen)]
    obtain ⟨h7, h8⟩ := h.retAll (r := .tup Xs) (v := .tuple vs.toArray) (.tup Xs vs.toArray (by simpa using h3) fun i c v e1 e2 => (h4 i c v e1 (by simpa using e2)).1) (fun b o hsp => by
      rcases hsp with ⟨_, _, _, e, -⟩ | ⟨Vs, us, i, X, x, e1, e2, e3, e4, e5⟩
      · cases e
      · cases e1; cases e2
        rcases (h4 i X x e3 (by simpa using e4)).2 with ⟨t, e6, e7⟩ | hf
        · exact ⟨t, h.sp t b o (.inl (by rw [← e6, ← e7]; exact e5))⟩
        · exfalso
          obtain ⟨l, off, cap, e6, -⟩ := e5
          subst e6
          exact hf)
    exact ⟨_, _, hv', h7, h8⟩

theorem SoundCall.of_code {f : FuncId} {fn : Func} {c : Code} {args : List AVal} {M : Mem} {Post : AVal → Mem → Prop} (tk : Nat → Nat → Option Nat) (pl : Nat → List PStep) (hm : P.follows .mixedOrders = true) (hf : P.funcs[f]? = some fn) (hb : fn.body = some c) (hB : codeB P fn.ntmps tk pl c = true) (hlen : args.length ≤ fn.ntmps)
    (hc : aCode P tk pl c ⟨argT args, M⟩ (aRet P fn Post)) : SoundCall P f args M Post := by
  intro κ w vs hsz h
  refine calls_of_wp hf hb ?_
  have htv : tv { tmps := vs ++ Array.replicate (fn.ntmps - vs.size) undef, defers := [] } = fun t => vs.getD t undef := by
    funext t
    show (vs ++ Array.replicate (fn.ntmps - vs.size) undef).getD t undef = _
    simp only [Array.getD_eq_getD_getElem?]
    by_cases ht : t < vs.size
    · rw [Array.getElem?_append_left ht]
    · rw [Array.getElem?_append_right (by omega), Array.getElem?_eq_none (by omega : vs.size ≤ t)]
      cases hx : (Array.replicate (fn.ntmps - vs.size) undef)[t - vs.size]? with
      | none => rfl
      | some v =>
        have := Array.mem_of_getElem? hx
        rw [Array.mem_replicate] at this
        simp [this.2]
  have hsize : ({ tmps := vs ++ Array.replicate (fn.ntmps - vs.size) undef, defers := [] } : Act).tmps.size = fn.ntmps := by
    show (vs ++ Array.replicate (fn.ntmps - vs.size) undef).size = _
    simp; omega
  refine wp_mono (aCode_sound hm c κ w _ ⟨argT args, M⟩ _ (by rw [hsize]; exact hB) (by rw [htv]; exact h) hc) fun e a' w' hp => ?_
  obtain ⟨κ', S', h1, h2, h3, h4, h5⟩ := hp
  have fin : (match aResults P S' fn.results.toList with | some r => Post r S'.M | none => False) → a'.defers = [] ∧ ∃ v, (results fn a'.tmps).run P w' = .ok v w' ∧
      ∃ v' κ' r M', Ending.returned v = .returned v' ∧ Post r M' ∧ Holds P κ' (argT [r]) (fun t => if t = 0 then v' else undef) M' w' ∧ Keep κ w κ' w' := fun hm => by
    split at hm
    · rename_i r hr
      obtain ⟨v, κ2, g1, g2, g3⟩ := aResults_sound h2 hr
      exact ⟨h5, v, g1, v, κ2, r, S'.M, rfl, hm, g2, h3.trans g3⟩
    · exact hm.elim
  cases e with
  | normal => exact fin h1
  | ret => exact fin h1
  | _ => exact h1.elim

end
end Go.Am

set_option linter.unusedVariables false
/-! The walk: a stack of what is still to be done; each step is one equation. -/
namespace Go.Am
set_option linter.unusedSimpArgs false

inductive It where
  | code (c : Code)
  | blk (id : Nat)
  | inv (J : St → Prop)
  | scp (l : Nat) (c : Code)
  | scj (l : Nat) (J : St → Prop)
  | nog

section
variable (P : Program) (tk : Nat → Nat → Option Nat) (pl : Nat → List PStep)

def unw : List It → (Exit → St → Prop) → Exit → St → Prop
  | [], R, e, S => R e S
  | .code c :: k, R, .normal, S => aCode P tk pl c S (unw k R)
  | .code _ :: k, R, e, S => unw k R e S
  | .blk id :: k, R, .exit id', S => if id' = id then unw k R .normal S else unw k R (.exit id') S
  | .blk _ :: k, R, e, S => unw k R e S
  | .inv J :: _, _, .normal, S => J S
  | .inv _ :: k, R, e, S => unw k R e S
  | .scp l c :: k, R, .goto l', S => l' = l ∧ aFrom P tk pl c l S (noG (unw k R))
  | .scp _ _ :: k, R, e, S => unw k R e S
  | .scj l J :: _, _, .goto l', S => l' = l ∧ J S
  | .scj _ _ :: k, R, e, S => unw k R e S
  | .nog :: _, _, .goto _, _ => False
  | .nog :: k, R, e, S => unw k R e S

variable {P tk pl} {k : List It} {R : Exit → St → Prop} {S : St}

theorem unw_nil {e : Exit} : unw P tk pl [] R e S = R e S := by cases e <;> rfl

theorem unw_seq {x y : Code} : unw P tk pl (.code (.seq x y) :: k) R .normal S = unw P tk pl (.code x :: .code y :: k) R .normal S := by
  show aCode P tk pl (.seq x y) S (unw P tk pl k R) = aCode P tk pl x S (unw P tk pl (.code y :: k) R)
  show aCode P tk pl x S _ = aCode P tk pl x S _
  congr 1
  funext e S'
  cases e <;> rfl

theorem unw_block {id : Nat} {c : Code} : unw P tk pl (.code (.block id c) :: k) R .normal S = unw P tk pl (.code c :: .blk id :: k) R .normal S := by
  show aCode P tk pl (.block id c) S (unw P tk pl k R) = aCode P tk pl c S (unw P tk pl (.blk id :: k) R)
  show aCode P tk pl c S _ = aCode P tk pl c S _
  congr 1
  funext e S'
  cases e <;> rfl

theorem unw_cond {c : Operand} {x y : Code} {t : Bool} (h : ev S.T c = .raw (.bool t)) : unw P tk pl (.code (.cond c x y) :: k) R .normal S = ((t = true → unw P tk pl (.code x :: k) R .normal S) ∧ (t = false → unw P tk pl (.code y :: k) R .normal S)) := by
  show (match ev S.T c with | .raw (.bool t) => _ | _ => False) = _
  rw [h]; rfl
theorem unw_blk_exit {id id' : Nat} : unw P tk pl (.blk id :: k) R (.exit id') S = if id' = id then unw P tk pl k R .normal S else unw P tk pl k R (.exit id') S := rfl
theorem aBoth_mono : ∀ (c : Code), (∀ (S : St) {K K' : Exit → St → Prop}, (∀ e S, K e S → K' e S) → aCode P tk pl c S K → aCode P tk pl c S K') ∧ (∀ (l : Nat) (S : St) {K K' : Exit → St → Prop}, (∀ e S, K e S → K' e S) → aFrom P tk pl c l S K → aFrom P tk pl c l S K') := by
  have hops : ∀ (tk : Nat → Option Nat) (ops : Array Oper) {K K' : St → Prop}, (∀ S, K S → K' S) → ∀ (rest : List Oper) (i : Nat) (S : St), aOps P tk ops K i rest S → aOps P tk ops K' i rest S := by
    intro tk ops K K' hK rest
    induction rest with
    | nil => exact fun i S h => hK S h
    | cons o rest ih => exact fun i S h => aGuard_mono (fun hy => dstep_mono (fun S' he => ih _ _ he) hy) (fun hn => ih _ _ hn) h
  have hseg : ∀ (tk : Nat → Option Nat) (ops : Array Oper) {K K' : St → Prop}, (∀ S, K S → K' S) → ∀ (n i : Nat) (l : List Oper) (S : St), aSeg P tk ops K n i l S → aSeg P tk ops K' n i l S := by
    intro tk ops K K' hK n
    induction n with
    | zero => exact fun i l S h => hops tk ops hK l i S h
    | succ n ih =>
      intro i l S h
      obtain ⟨pre, o, o', rest, s, off, e, h⟩ := h
      exact ⟨pre, o, o', rest, s, off, e, hops tk ops (fun S' h' => aFuse_mono (fun S'' h'' => ih _ _ _ h'') h') _ _ _ h⟩
  have hdraw : ∀ (tk : Nat → Option Nat) (ops : Array Oper) {K K' : St → Prop}, (∀ S, K S → K' S) → ∀ (plan : List PStep) (H : List (Nat × Nat)) (S : St), aDraw P tk ops K plan H S → aDraw P tk ops K' plan H S := by
    intro tk ops K K' hK plan
    induction plan with
    | nil => exact fun H S h => hK S h
    | cons p plan ih =>
      intro H S h
      cases p with
      | q i =>
        simp only [aDraw] at h ⊢
        split at h
        · refine aGuard_mono (fun hy => ?_) (fun hn => ih _ _ hn) h
          split at hy
          · exact ih _ _ hy
          · exact hy
        · exact h
      | c i =>
        simp only [aDraw] at h ⊢
        split at h
        · exact aGuard_mono (fun ⟨q, B, h1, h2⟩ => ⟨q, B, h1, ih _ _ h2⟩) (fun hn => ih _ _ hn) h
        · exact h
      | s i ks => exact aOp_mono (fun S' hS => ⟨hS.1, ih _ _ hS.2⟩) h
  have hany : ∀ (tk : Nat → Option Nat) (ops : Array Oper) {K K' : St → Prop}, (∀ S, K S → K' S) → ∀ (H : List (Nat × Nat)) (fuel : Nat) (l : Array Bool) (S : St), aAny P tk ops K H fuel l S → aAny P tk ops K' H fuel l S := by
    intro tk ops K K' hK H fuel
    induction fuel with
    | zero => exact fun l S h => ⟨h.1, hK _ h.2⟩
    | succ n ih => exact fun l S h => ⟨fun h0 => hK _ (h.1 h0), fun i hi => aOp_mono (fun S' hx => ⟨hx.1, ih _ _ hx.2⟩) (h.2 i hi)⟩
  intro c
  induction c with
  | skip => exact ⟨fun S K K' hK h => hK _ _ h, fun l S K K' hK h => h.elim⟩
  | region id ops draw =>
    refine ⟨?_, fun l S K K' hK h => h.elim⟩
    intro S K K' hK h
    cases draw with
    | true =>
      have h' : aDr P (tk id) ops (K .normal) (pl id) S := h
      show aDr P (tk id) ops (K' .normal) (pl id) S
      cases hp : pl id with
      | nil =>
        rw [hp] at h'
        exact hany _ _ (fun S h => hK _ S h) _ _ _ _ h'
      | cons p l =>
        rw [hp] at h'
        exact hdraw _ _ (fun S h => hK _ S h) _ _ _ h'
    | false =>
      obtain ⟨n, h⟩ := h
      exact ⟨n, hseg _ _ (fun S h => hK _ S h) _ _ _ _ h⟩
  | seq x y ihx ihy =>
    refine ⟨?_, fun l S K K' hK h => ?_⟩
    rotate_left
    · have h' : if (findLabel x l).isSome then aFrom P tk pl x l S (fun e S' => match e with | .normal => aCode P tk pl y S' K | e => K e S') else aFrom P tk pl y l S K := h
      show if (findLabel x l).isSome then aFrom P tk pl x l S (fun e S' => match e with | .normal => aCode P tk pl y S' K' | e => K' e S') else aFrom P tk pl y l S K'
      split at h'
      · rename_i e; rw [if_pos e]
        refine ihx.2 l S (fun e S' h' => ?_) h'
        cases e with
        | normal => exact ihy.1 S' hK h'
        | _ => exact hK _ _ h'
      · rename_i e; rw [if_neg e]; exact ihy.2 l S hK h'
    intro S K K' hK h
    refine ihx.1 S (fun e S' h' => ?_) h
    cases e with
    | normal => exact ihy.1 S' hK h'
    | _ => exact hK _ _ h'
  | cond c x y ihx ihy =>
    refine ⟨?_, fun l S K K' hK h => h.elim⟩
    intro S K K' hK h
    simp only [aCode] at h ⊢
    split at h
    · exact ⟨fun e => ihx.1 S hK (h.1 e), fun e => ihy.1 S hK (h.2 e)⟩
    · exact h
  | block id c ih =>
    refine ⟨?_, fun l S K K' hK h => h.elim⟩
    intro S K K' hK h
    refine ih.1 S (fun e S' h' => ?_) h
    cases e with
    | exit id' =>
      simp only at h' ⊢
      split at h'
      · rename_i e; rw [if_pos e]; exact hK _ _ h'
      · rename_i e; rw [if_neg e]; exact hK _ _ h'
    | _ => exact hK _ _ h'
  | loop c ih =>
    refine ⟨?_, fun l S K K' hK h => h.elim⟩
    rintro S K K' hK ⟨n, h⟩
    refine ⟨n, ?_⟩
    induction n generalizing S with
    | zero => exact h
    | succ n ihn =>
      refine ih.1 S (fun e S' h' => ?_) h
      cases e with
      | normal => exact ihn S' h'
      | _ => exact hK _ _ h'
  | exit id => exact ⟨fun S K K' hK h => hK _ _ h, fun l S K K' hK h => h.elim⟩
  | ret => exact ⟨fun S K K' hK h => hK _ _ h, fun l S K K' hK h => h.elim⟩
  | label l' =>
    refine ⟨fun S K K' hK h => hK _ _ h, fun l S K K' hK h => ?_⟩
    have h' : if l' == l then K .normal S else False := h
    show if l' == l then K' .normal S else False
    split at h'
    · rename_i e; rw [if_pos e]; exact hK _ _ h'
    · exact h'.elim
  | goto l => exact ⟨fun S K K' hK h => hK _ _ h, fun l S K K' hK h => h.elim⟩
  | rangeFunc f ps x y _ _ => exact ⟨fun S K K' hK h => h, fun l S K K' hK h => h.elim⟩
  | scope c ih =>
    refine ⟨?_, fun l S K K' hK h => h.elim⟩
    rintro S K K' hK ⟨l, hs, n, h⟩
    have hp : ∀ n S, aPasses l (aFrom P tk pl c l) n S K → aPasses l (aFrom P tk pl c l) n S K' := by
      intro n
      induction n with
      | zero => exact fun _ h => h
      | succ n ihn =>
        intro S h
        refine ih.2 l S (fun e S'' h'' => ?_) h
        cases e with
        | goto _ => exact ⟨h''.1, ihn _ h''.2⟩
        | _ => exact hK _ _ h''
    refine ⟨l, hs, n, ih.1 S (fun e S' h' => ?_) h⟩
    cases e with
    | goto l' => exact ⟨h'.1, hp n S' h'.2⟩
    | _ => exact hK _ _ h'
  | refuse why => exact ⟨fun S K K' hK h => h, fun l S K K' hK h => h.elim⟩

theorem aCode_mono (c : Code) (S : St) {K K' : Exit → St → Prop} (hK : ∀ e S, K e S → K' e S) (h : aCode P tk pl c S K) : aCode P tk pl c S K' := (aBoth_mono c).1 S hK h

/-- A loop: 'I m' holds at its head, and each round that comes to its end lowers m. -/
theorem unw_loop {c : Code} (I : Nat → St → Prop) (m : Nat) (h0 : I m S) (step : ∀ m S', I m S' → unw P tk pl (.code c :: .inv (fun S'' => ∃ m', m' < m ∧ I m' S'') :: k) R .normal S') : unw P tk pl (.code (.loop c) :: k) R .normal S := by
  show ∃ n, aRounds (aCode P tk pl c) n S (unw P tk pl k R)
  refine ⟨m + 1, ?_⟩
  have key : ∀ b m S, m ≤ b → I m S → aRounds (aCode P tk pl c) (b + 1) S (unw P tk pl k R) := by
    intro b
    induction b with
    | zero =>
      intro m S hm hI
      refine aCode_mono c S (fun e S' h' => ?_) (step m S hI)
      cases e with
      | normal => obtain ⟨m', h1, -⟩ := h'; omega
      | _ => exact h'
    | succ b ih =>
      intro m S hm hI
      refine aCode_mono c S (fun e S' h' => ?_) (step m S hI)
      cases e with
      | normal => obtain ⟨m', h1, h2⟩ := h'; exact ih m' S' (by omega) h2
      | _ => exact h'
  exact key m m S (Nat.le_refl _) h0

theorem SoundCall.walk {f : FuncId} {fn : Func} {c : Code} {args : List AVal} {M : Mem} {Post : AVal → Mem → Prop} (tk : Nat → Nat → Option Nat) (pl : Nat → List PStep) (hm : P.follows .mixedOrders = true) (hf : P.funcs[f]? = some fn) (hb : fn.body = some c) (hB : codeB P fn.ntmps tk pl c = true) (hlen : args.length ≤ fn.ntmps)
    (hc : unw P tk pl [.code c] (aRet P fn Post) .normal ⟨argT args, M⟩) : SoundCall P f args M Post := by
  refine SoundCall.of_code tk pl hm hf hb hB hlen (aCode_mono c _ (fun e S h => ?_) hc)
  rw [unw_nil] at h
  exact h

end
end Go.Am

set_option linter.unusedVariables false
/-! The walk, operation by operation: one lemma for each kind, whose side conditions are closed by 'rfl'. -/
namespace Go.Am
set_option linter.unusedSimpArgs false

section
variable {P : Program} {tkr : Nat → Option Nat} {ops : Array Oper} {K : St → Prop} {i : Nat} {rest : List Oper} {o : Oper} {d : Nat} {V X : AVal} {B : List Nat} {T : Nat → AVal} {M : Mem} {k : Option Nat}

theorem o_q (hq : qstep P k o T M = some (⟨none, V⟩, B)) (hg : o.guard = none) (hd : o.dst = some d) (htk : tkr i = k) (h : aOps P tkr ops K (i + 1) rest ⟨setT T d V, M⟩) : aOps P tkr ops K i (o :: rest) ⟨T, M⟩ := by
  show aGuard ops T o _ _
  unfold aGuard
  rw [hg, htk]
  refine .inl <| (quiet_qstep hq).2 T M (fun _ _ => rfl) (fun _ _ => rfl) _ ?_
  simp only [hd]
  exact h

theorem o_qs {t : Nat} (hq : qstep P k o T M = some (⟨some t, V⟩, B)) (hg : o.guard = none) (hd : o.dst = some d) (htk : tkr i = k) (hX : (T t).shut = X) (h : aOps P tkr ops K (i + 1) rest ⟨setT (setT T t X) d V, M⟩) : aOps P tkr ops K i (o :: rest) ⟨T, M⟩ := by
  show aGuard ops T o _ _
  unfold aGuard
  rw [hg, htk]
  refine .inl <| (quiet_qstep hq).2 T M (fun _ _ => rfl) (fun _ _ => rfl) _ ?_
  simp only [hd]
  subst hX
  exact h

/-- One that does what it does. -/
theorem o_x (hg : o.guard = none) (h : estep P (tkr i) o T M fun e => aOps P tkr ops K (i + 1) rest (e.apply ⟨T, M⟩ o.dst)) : aOps P tkr ops K i (o :: rest) ⟨T, M⟩ := by
  show aGuard ops T o _ _
  unfold aGuard
  rw [hg]
  exact .inl h
theorem o_xs (hg : o.guard = none) (h : xstep P o T M fun M1 V => aOps P tkr ops K (i + 1) rest (Eff.apply ⟨none, M1, V⟩ ⟨T, M⟩ o.dst)) : aOps P tkr ops K i (o :: rest) ⟨T, M⟩ := by
  show aGuard ops T o _ _
  unfold aGuard
  rw [hg]
  exact .inr h

theorem o_nil {S : St} (h : K S) : aOps P tkr ops K i [] S := h

theorem o_yes {j : Nat} {want t : Bool} {g : Nat} (hg : o.guard = some (j, want)) (hj : (ops[j]?).bind (·.dst) = some g) (ht : T g = .raw (.bool t)) (e : t = want)
    (yes : aOps P tkr ops K i ({ o with guard := none } :: rest) ⟨T, M⟩) : aOps P tkr ops K i (o :: rest) ⟨T, M⟩ := by
  show aGuard ops T o _ _
  unfold aGuard
  rw [hg]
  simp only [hj, ht]
  refine ⟨fun _ => yes, fun e' => ?_⟩
  rw [e] at e'; cases want <;> cases e'

theorem o_no {j : Nat} {want t : Bool} {g d' : Nat} (hg : o.guard = some (j, want)) (hj : (ops[j]?).bind (·.dst) = some g) (ht : T g = .raw (.bool t)) (hd : o.dst = some d') (e : t = !want)
    (no : aOps P tkr ops K (i + 1) rest ⟨setT T d' (.raw undef), M⟩) : aOps P tkr ops K i (o :: rest) ⟨T, M⟩ := by
  show aGuard ops T o _ _
  unfold aGuard
  rw [hg]
  simp only [hj, ht]
  refine ⟨fun e' => ?_, fun _ => ?_⟩
  · rw [e] at e'; cases want <;> cases e'
  · simp only [hd]; exact no

/-! ### Regions that draw -/

variable {plan : List PStep} {H : List (Nat × Nat)}

theorem d_q (ho : ops[i]? = some o) (hq : qstep P k o T M = some (⟨none, V⟩, B)) (hg : o.guard = none) (hd : o.dst = some d) (htk : tkr i = k) (h : aDraw P tkr ops K plan (B.map (fun b => (i, b)) ++ H) ⟨setT T d V, M⟩) : aDraw P tkr ops K (.q i :: plan) H ⟨T, M⟩ := by
  simp only [aDraw, ho, htk, aGuard, hg, hq]
  simp only [QEff.app, hd]
  exact h

theorem d_qs {t : Nat} (ho : ops[i]? = some o) (hq : qstep P k o T M = some (⟨some t, V⟩, B)) (hg : o.guard = none) (hd : o.dst = some d) (htk : tkr i = k) (hX : (T t).shut = X) (h : aDraw P tkr ops K plan (B.map (fun b => (i, b)) ++ H) ⟨setT (setT T t X) d V, M⟩) : aDraw P tkr ops K (.q i :: plan) H ⟨T, M⟩ := by
  simp only [aDraw, ho, htk, aGuard, hg, hq]
  simp only [QEff.app, hd]
  subst hX
  exact h

theorem d_gq {j : Nat} {want t : Bool} {g : Nat} (ho : ops[i]? = some o) (hg : o.guard = some (j, want)) (hj : (ops[j]?).bind (·.dst) = some g) (ht : T g = .raw (.bool t)) (hd : o.dst = some d)
    (hq : t = want → ∃ V B, qstep P (tkr i) o T M = some (⟨none, V⟩, B) ∧ aDraw P tkr ops K plan (B.map (fun b => (i, b)) ++ H) ⟨setT T d V, M⟩) (no : t = !want → aDraw P tkr ops K plan H ⟨setT T d (.raw undef), M⟩) : aDraw P tkr ops K (.q i :: plan) H ⟨T, M⟩ := by
  simp only [aDraw, ho, aGuard, hg, hj, ht]
  refine ⟨fun e => ?_, fun e => ?_⟩
  · obtain ⟨V, B, h1, h2⟩ := hq e
    simp only [h1, QEff.app, hd]
    exact h2
  · simp only [hd]
    exact no e

theorem d_yes {j : Nat} {want t : Bool} {g : Nat} (ho : ops[i]? = some o) (hq : qstep P k o T M = some (⟨none, V⟩, B)) (hg : o.guard = some (j, want)) (hj : (ops[j]?).bind (·.dst) = some g) (ht : T g = .raw (.bool t)) (e : t = want) (hd : o.dst = some d) (htk : tkr i = k)
    (h : aDraw P tkr ops K plan (B.map (fun b => (i, b)) ++ H) ⟨setT T d V, M⟩) : aDraw P tkr ops K (.q i :: plan) H ⟨T, M⟩ :=
  d_gq ho hg hj ht hd (fun _ => ⟨V, B, by rw [htk]; exact hq, h⟩) fun e' => by rw [e] at e'; cases want <;> cases e'

theorem d_no {j : Nat} {want t : Bool} {g : Nat} (ho : ops[i]? = some o) (hg : o.guard = some (j, want)) (hj : (ops[j]?).bind (·.dst) = some g) (ht : T g = .raw (.bool t)) (e : t = !want) (hd : o.dst = some d)
    (h : aDraw P tkr ops K plan H ⟨setT T d (.raw undef), M⟩) : aDraw P tkr ops K (.q i :: plan) H ⟨T, M⟩ :=
  d_gq ho hg hj ht hd (fun e' => by rw [e] at e'; cases want <;> cases e') fun _ => h

theorem d_nil {S : St} (h : K S) : aDraw P tkr ops K [] H S := h

/-! ### Code -/

variable {tk : Nat → Nat → Option Nat} {pl : Nat → List PStep} {ks : List It} {R : Exit → St → Prop} {S : St}

theorem s_seq {x y : Code} (h : unw P tk pl (.code x :: .code y :: ks) R .normal S) : unw P tk pl (.code (.seq x y) :: ks) R .normal S := unw_seq ▸ h
theorem s_block {id : Nat} {c : Code} (h : unw P tk pl (.code c :: .blk id :: ks) R .normal S) : unw P tk pl (.code (.block id c) :: ks) R .normal S := unw_block ▸ h
theorem s_skip (h : unw P tk pl ks R .normal S) : unw P tk pl (.code .skip :: ks) R .normal S := h
theorem s_exit {id : Nat} (h : unw P tk pl ks R (.exit id) S) : unw P tk pl (.code (.exit id) :: ks) R .normal S := h
theorem s_ret (h : unw P tk pl ks R .ret S) : unw P tk pl (.code .ret :: ks) R .normal S := h
theorem s_cond {c : Operand} {x y : Code} {t : Bool} (hc : ev S.T c = .raw (.bool t)) (h1 : t = true → unw P tk pl (.code x :: ks) R .normal S) (h2 : t = false → unw P tk pl (.code y :: ks) R .normal S) : unw P tk pl (.code (.cond c x y) :: ks) R .normal S := by
  rw [unw_cond hc]; exact ⟨h1, h2⟩
theorem s_then {c : Operand} {x y : Code} {t : Bool} (hc : ev S.T c = .raw (.bool t)) (e : t = true) (h1 : unw P tk pl (.code x :: ks) R .normal S) : unw P tk pl (.code (.cond c x y) :: ks) R .normal S :=
  s_cond hc (fun _ => h1) fun e' => by rw [e] at e'; cases e'
theorem s_else {c : Operand} {x y : Code} {t : Bool} (hc : ev S.T c = .raw (.bool t)) (e : t = false) (h1 : unw P tk pl (.code y :: ks) R .normal S) : unw P tk pl (.code (.cond c x y) :: ks) R .normal S :=
  s_cond hc (fun e' => by rw [e] at e'; cases e') fun _ => h1
theorem s_region {id : Nat} {l : List Oper} (h : aOps P (tk id) l.toArray (unw P tk pl ks R .normal) 0 l S) : unw P tk pl (.code (.region id l.toArray false) :: ks) R .normal S := ⟨0, h⟩
theorem s_draw {id : Nat} {l : List Oper} {a : PStep} {p : List PStep} (hp : pl id = a :: p) (h : aDraw P (tk id) l.toArray (unw P tk pl ks R .normal) (a :: p) [] S) : unw P tk pl (.code (.region id l.toArray true) :: ks) R .normal S := by
  show aDr P (tk id) l.toArray (unw P tk pl ks R .normal) (pl id) S
  rw [hp]; exact h
theorem s_code_ret {c : Code} (h : unw P tk pl ks R .ret S) : unw P tk pl (.code c :: ks) R .ret S := h
theorem s_code_exit {c : Code} {id : Nat} (h : unw P tk pl ks R (.exit id) S) : unw P tk pl (.code c :: ks) R (.exit id) S := h
theorem s_blk_normal {id : Nat} (h : unw P tk pl ks R .normal S) : unw P tk pl (.blk id :: ks) R .normal S := h
theorem s_blk_ret {id : Nat} (h : unw P tk pl ks R .ret S) : unw P tk pl (.blk id :: ks) R .ret S := h
theorem s_blk_here {id : Nat} (h : unw P tk pl ks R .normal S) : unw P tk pl (.blk id :: ks) R (.exit id) S := by
  rw [unw_blk_exit, if_pos rfl]; exact h
theorem s_blk_exit {id id' : Nat} (e : Nat.beq id' id = false) (h : unw P tk pl ks R (.exit id') S) : unw P tk pl (.blk id :: ks) R (.exit id') S := by
  rw [unw_blk_exit, if_neg (fun h => by subst h; rw [Nat.beq_refl] at e; cases e)]; exact h
theorem s_inv {J : St → Prop} (h : J S) : unw P tk pl (.inv J :: ks) R .normal S := h
theorem s_inv_ret {J : St → Prop} (h : unw P tk pl ks R .ret S) : unw P tk pl (.inv J :: ks) R .ret S := h
theorem s_inv_exit {J : St → Prop} {id : Nat} (h : unw P tk pl ks R (.exit id) S) : unw P tk pl (.inv J :: ks) R (.exit id) S := h
theorem s_end {e : Exit} (h : R e S) : unw P tk pl [] R e S := by rw [unw_nil]; exact h

theorem SoundCall.go {f : FuncId} {fn : Func} {c : Code} {args : List AVal} {M : Mem} {Post : AVal → Mem → Prop} (tk : Nat → Nat → Option Nat) (pl : Nat → List PStep) (hm : P.follows .mixedOrders = true) (hf : P.funcs[f]? = some fn) (hB : fn.body.map (codeB P fn.ntmps tk pl) = some true) (hb : fn.body = some c) (hlen : args.length ≤ fn.ntmps)
    (hc : unw P tk pl [.code c] (aRet P fn Post) .normal ⟨argT args, M⟩) : SoundCall P f args M Post :=
  SoundCall.walk tk pl hm hf hb (by rw [hb] at hB; exact Option.some.inj hB) hlen hc

theorem setT_self {T : Nat → AVal} {d : Nat} {V : AVal} (h : T d = V) : setT T d V = T := by
  funext t; unfold setT; split
  · subst_vars; rfl
  · rfl

/-- What is known of a state, told anew. -/
theorem kp {T T' : Nat → AVal} {d : Nat} {V : AVal} (h : T' = T) (hd : T d = V) : setT T' d V = T := by
  subst h; exact setT_self hd

/-- Behind code, all that is known is J. -/
theorem s_cut {c : Code} (J : St → Prop) (h1 : unw P tk pl (.code c :: .inv J :: ks) R .normal S) (h2 : ∀ S', J S' → unw P tk pl ks R .normal S') : unw P tk pl (.code c :: ks) R .normal S := by
  refine aCode_mono c S (fun e S' h => ?_) h1
  cases e with
  | normal => exact h2 S' h
  | _ => exact h

theorem s_loop {c : Code} (I : Nat → St → Prop) (m : Nat) (h0 : I m S) (step : ∀ m S', I m S' → unw P tk pl (.code c :: .inv (fun S'' => ∃ m', m' < m ∧ I m' S'') :: ks) R .normal S') : unw P tk pl (.code (.loop c) :: ks) R .normal S := unw_loop I m h0 step

theorem St.mkT {T T' : Nat → AVal} {M : Mem} (h : T = T') : (⟨T, M⟩ : St) = ⟨T', M⟩ := by rw [h]

end

/-! ### Quiet operations -/

section
variable {P : Program} {T : Nat → AVal} {M : Mem} {dst : Option Nat} {x y z : Operand} {v : Value} {ty ty' : TypeId} {pos : String} {af : Array Edge} {g : Option (Nat × Bool)} {cs : List AVal} {own : Bool} {a b : Int} {k : IntKind} {s t : Bool} {V : AVal}

abbrev mkO (dst : Option Nat) (op : Op) (ty : TypeId) (pos : String) (af : Array Edge) (g : Option (Nat × Bool)) : Oper := ⟨dst, op, ty, pos, af, g⟩

theorem q_mv (h : (ev T x).shut = V) : qstep P none (mkO dst (.move x) ty pos af g) T M = some (⟨none, V⟩, []) := by subst h; rfl
theorem q_as (h : (ev T x).shut = V) : qstep P none (mkO dst (.assign x) ty pos af g) T M = some (⟨none, V⟩, []) := by subst h; rfl
theorem v_raw {X : AVal} (h : X = .raw v) : X.shut = .raw v := by subst h; rfl
theorem v_sl {X : AVal} (h : X = .sl cs own) : X.shut = .sl cs false := by subst h; rfl
theorem v_agg {X : AVal} (h : X = .agg cs) : X.shut = .agg cs := by subst h; rfl
theorem v_tup {X : AVal} (h : X = .tup cs) : X.shut = .tup (cs.map AVal.shut1) := by subst h; rfl
/-- The right to append goes along. -/
theorem q_mv_own {t n : Nat} (h : T t = V) : qstep P (some n) (mkO dst (.move (.tmp t)) ty pos af g) T M = some (⟨some t, V⟩, []) := by subst h; rfl
theorem q_as_own {t n : Nat} (h : T t = V) : qstep P (some n) (mkO dst (.assign (.tmp t)) ty pos af g) T M = some (⟨some t, V⟩, []) := by subst h; rfl
theorem q_as_const {n : Nat} (h : ofConst v = V) : qstep P (some n) (mkO dst (.assign (.const v)) ty pos af g) T M = some (⟨none, V⟩, []) := by subst h; rfl

theorem q_pick_t (hc : ev T x = .raw (.bool true)) (h : (ev T y).shut = V) : qstep P none (mkO dst (.pick x y z) ty pos af g) T M = some (⟨none, V⟩, []) := by
  subst h; simp only [qstep, aop, hc, if_true, Option.map_some, readsOf]
theorem q_pick_f (hc : ev T x = .raw (.bool false)) (h : (ev T z).shut = V) : qstep P none (mkO dst (.pick x y z) ty pos af g) T M = some (⟨none, V⟩, []) := by
  subst h; simp [qstep, aop, hc, readsOf]
theorem q_pick_c (hc : ev T x = .raw (.bool s)) (e : s = t) (h : (if t then ev T y else ev T z).shut = V) : qstep P none (mkO dst (.pick x y z) ty pos af g) T M = some (⟨none, V⟩, []) := by
  subst e; subst h; simp only [qstep, aop, hc, Option.map_some, readsOf]

end

section
variable {P : Program} {T : Nat → AVal} {M : Mem} {dst : Option Nat} {x y z : Operand} {v : Value} {ty ty₁ ty' : TypeId} {pos : String} {af : Array Edge} {g : Option (Nat × Bool)} {cs : List AVal} {own : Bool} {a b : Int} {k : IntKind} {s t : Bool} {V : AVal} {u u' : ByteArray}

theorem ba_beq (a b : ByteArray) : (a == b) = decide (a = b) := by
  have e : (a == b) = (a.data == b.data) := rfl
  have h : (a == b) = true ↔ a = b := by
    rw [e]
    constructor
    · intro h; cases a; cases b; simpa using h
    · intro h; subst h; simp
  cases hb : (a == b)
  · symm; rw [decide_eq_false_iff_not]; intro h'; rw [← h, hb] at h'; cases h'
  · symm; rw [decide_eq_true_eq]; exact h.1 hb
theorem ba_list (a b : ByteArray) : (a.toList == b.toList) = decide (a = b) := by
  have h : (a.toList == b.toList) = true ↔ a = b := by
    rw [beq_iff_eq, ByteArray.toList_eq, ByteArray.toList_eq]
    constructor
    · intro h; cases a; cases b; simpa using h
    · intro h; subst h; rfl
  cases hb : (a.toList == b.toList)
  · symm; rw [decide_eq_false_iff_not]; intro h'; rw [← h, hb] at h'; cases h'
  · symm; rw [decide_eq_true_eq]; exact h.1 hb

/-- Any binary operation. -/
theorem q_bin' {op : BinOp} {A A' : AVal} {V : Value} (hx : ev T x = A) (hy : ev T y = A') (h : aBin P op ty₁ x y A A' = some (.raw V)) : qstep P none (mkO dst (.binOp op ty₁ x y ty') ty pos af g) T M = some (⟨none, .raw V⟩, []) := by
  subst hx; subst hy
  simp only [qstep, aop, h, Option.map_some, readsOf, AVal.shut, AVal.shut1]

theorem q_lss (hx : ev T x = .raw (.int k a)) (hy : ev T y = .raw (.int k b)) : qstep P none (mkO dst (.binOp .lss ty₁ x y ty') ty pos af g) T M = some (⟨none, .raw (.bool (decide (a < b)))⟩, []) := q_bin' hx hy (by cases k <;> rfl)
theorem q_leq (hx : ev T x = .raw (.int k a)) (hy : ev T y = .raw (.int k b)) : qstep P none (mkO dst (.binOp .leq ty₁ x y ty') ty pos af g) T M = some (⟨none, .raw (.bool (decide (a ≤ b)))⟩, []) := q_bin' hx hy (by cases k <;> rfl)
theorem q_gtr (hx : ev T x = .raw (.int k a)) (hy : ev T y = .raw (.int k b)) : qstep P none (mkO dst (.binOp .gtr ty₁ x y ty') ty pos af g) T M = some (⟨none, .raw (.bool (decide (b < a)))⟩, []) := q_bin' hx hy (by cases k <;> rfl)
theorem q_geq (hx : ev T x = .raw (.int k a)) (hy : ev T y = .raw (.int k b)) : qstep P none (mkO dst (.binOp .geq ty₁ x y ty') ty pos af g) T M = some (⟨none, .raw (.bool (decide (b ≤ a)))⟩, []) := q_bin' hx hy (by cases k <;> rfl)
theorem q_eql (hx : ev T x = .raw (.int k a)) (hy : ev T y = .raw (.int k b)) : qstep P none (mkO dst (.binOp .eql ty₁ x y ty') ty pos af g) T M = some (⟨none, .raw (.bool (decide (a = b)))⟩, []) := q_bin' hx hy (by cases k <;> rfl)
theorem q_neq (hx : ev T x = .raw (.int k a)) (hy : ev T y = .raw (.int k b)) : qstep P none (mkO dst (.binOp .neq ty₁ x y ty') ty pos af g) T M = some (⟨none, .raw (.bool (!decide (a = b)))⟩, []) := q_bin' hx hy (by cases k <;> rfl)
theorem q_seql (hx : ev T x = .raw (.string u)) (hy : ev T y = .raw (.string u')) : qstep P none (mkO dst (.binOp .eql ty₁ x y ty') ty pos af g) T M = some (⟨none, .raw (.bool (decide (u = u')))⟩, []) := by rw [← ba_list]; exact q_bin' hx hy rfl
theorem q_sneq (hx : ev T x = .raw (.string u)) (hy : ev T y = .raw (.string u')) : qstep P none (mkO dst (.binOp .neq ty₁ x y ty') ty pos af g) T M = some (⟨none, .raw (.bool (!decide (u = u')))⟩, []) := by rw [← ba_list]; exact q_bin' hx hy rfl

theorem q_arith {op : BinOp} {f : Int} (hx : ev T x = .raw (.int k a)) (hy : ev T y = .raw (.int k b)) (hop : (op = .add ∧ f = a + b) ∨ (op = .sub ∧ f = a - b) ∨ (op = .mul ∧ f = a * b)) (hw : k.wrap f = f) : qstep P none (mkO dst (.binOp op ty₁ x y ty') ty pos af g) T M = some (⟨none, .raw (.int k f)⟩, []) := by
  refine q_bin' hx hy ?_
  rcases hop with ⟨rfl, rfl⟩ | ⟨rfl, rfl⟩ | ⟨rfl, rfl⟩
  · show _ = some (AVal.raw (.int k (a + b)))
    conv => rhs; rw [← hw]
    cases k <;> rfl
  · show _ = some (AVal.raw (.int k (a - b)))
    conv => rhs; rw [← hw]
    cases k <;> rfl
  · show _ = some (AVal.raw (.int k (a * b)))
    conv => rhs; rw [← hw]
    cases k <;> rfl

theorem q_add (hx : ev T x = .raw (.int k a)) (hy : ev T y = .raw (.int k b)) (hw : k.wrap (a + b) = a + b) : qstep P none (mkO dst (.binOp .add ty₁ x y ty') ty pos af g) T M = some (⟨none, .raw (.int k (a + b))⟩, []) := q_arith hx hy (.inl ⟨rfl, rfl⟩) hw
theorem q_sub (hx : ev T x = .raw (.int k a)) (hy : ev T y = .raw (.int k b)) (hw : k.wrap (a - b) = a - b) : qstep P none (mkO dst (.binOp .sub ty₁ x y ty') ty pos af g) T M = some (⟨none, .raw (.int k (a - b))⟩, []) := q_arith hx hy (.inr (.inl ⟨rfl, rfl⟩)) hw
theorem q_not (hx : ev T x = .raw (.bool s)) : qstep P none (mkO dst (.unOp .not ty₁ x) ty pos af g) T M = some (⟨none, .raw (.bool (!s))⟩, []) := by
  simp only [qstep, aop, hx, raw1]; rfl

theorem wrap64 {a : Int} (h1 : -2 ^ 63 ≤ a) (h2 : a < 2 ^ 63) : IntKind.i64.wrap a = a := by
  simp only [IntKind.wrap, IntKind.signed, IntKind.bits]
  have e : (2 : Int) ^ (64 - 1) = 9223372036854775808 := rfl
  simp only [Bool.true_and, decide_eq_true_eq, e]
  split <;> omega

theorem q_len {st e : TypeId} {ats : Array TypeId} (h0 : ats[0]? = some st) (hu : P.underlying st = some (.slice e)) (hx : ev T x = .sl cs own) : qstep P none (mkO dst (.call { callee := .builtin .len, args := #[x], argTypes := ats }) ty pos af g) T M = some (⟨none, .raw (.int .i64 cs.length)⟩, []) := by
  have h : aop P T M ty (.call { callee := .builtin .len, args := #[x], argTypes := ats }) = some (.raw (.int .i64 cs.length)) := by
    simp only [aop, List.map, aBuiltin, hx, h0, Option.bind_some, hu]
  have : qstep P none (mkO dst (.call { callee := .builtin .len, args := #[x], argTypes := ats }) ty pos af g) T M = (aop P T M ty (.call { callee := .builtin .len, args := #[x], argTypes := ats })).map fun V => (⟨none, V.shut⟩, readsOf T (.call { callee := .builtin .len, args := #[x], argTypes := ats })) := rfl
  rw [this, h]
  simp only [readsOf, List.map, hx, Option.map_some, AVal.shut, AVal.shut1]

theorem q_idx {st e : TypeId} {sz : Nat} {W : AVal} (hu : P.underlying st = some (.slice e)) (hs : sizeT P e = some sz) (hx : ev T x = .sl cs own) (hy : ev T y = .raw (.int k a)) (h0 : 0 ≤ a) (hV : cs[a.toNat]? = some W) (hW : W.cells.length = sz) : qstep P none (mkO dst (.indexAddr st x y) ty pos af g) T M = some (⟨none, .sptr cs a.toNat 0⟩, []) := by
  have hlt : a < (cs.length : Int) := by
    have : a.toNat < cs.length := by
      rcases Nat.lt_or_ge a.toNat cs.length with h | h
      · exact h
      · rw [List.getElem?_eq_none h] at hV; cases hV
    omega
  simp only [qstep, aop, aIndexAddr, hx, hy, hu, hs, hV, hW, h0, hlt, and_self, if_true, Option.map_some, readsOf, AVal.shut, AVal.shut1, AVal.shut1]

theorem q_fld {i o : Nat} {fd : Field} {n : Nat} (hf : fieldT P ty₁ i = some fd) (hs : sizeT P fd.type = some (n + 1)) {j : Nat} (hx : ev T x = .sptr cs j o) : qstep P none (mkO dst (.fieldAddr ty₁ x i) ty pos af g) T M = some (⟨none, .sptr cs j (o + fd.offset)⟩, []) := by
  simp only [qstep, aop, aFieldAddr, hx, hf, hs, Option.map_some, readsOf, AVal.shut, AVal.shut1]

/-- A whole element, or what stands in one cell of it. -/
theorem q_ld {j o : Nat} {W : AVal} {ag : Bool} {n : Nat} {Y : AVal} (ha : aggT P ty₁ = some ag) (hs : sizeT P ty₁ = some n) (hx : ev T x = .sptr cs j o) (hV : cs[j]? = some W) (hp : piece ag W.cells o n = some Y) (hY : Y.shut = V) : qstep P none (mkO dst (.load ty₁ x) ty pos af g) T M = some (⟨none, V⟩, []) := by
  subst hY
  simp only [qstep, aop, hx, hV, loadP, ha, hs, hp, Option.map_some, readsOf, Option.isSome]
  rfl

theorem q_ldm {b o : Nat} {l : List AVal} {ag : Bool} {n : Nat} {Y : AVal} (ha : aggT P ty₁ = some ag) (hs : sizeT P ty₁ = some n) (hx : ev T x = .raw (.pointer (some ⟨b, o, none⟩))) (hM : M b = some (.cells l)) (hp : piece ag l o n = some Y) (hY : Y.shut = V) : qstep P none (mkO dst (.load ty₁ x) ty pos af g) T M = some (⟨none, V⟩, [b]) := by
  subst hY
  simp only [qstep, aop, hx, hM, loadP, ha, hs, hp, Option.map_some, readsOf, Option.isSome]
  rfl

theorem q_ext {i : Nat} {vs : List AVal} {Y : AVal} (hx : ev T x = .tup vs) (hi : vs[i]? = some Y) (hY : Y.shut = V) : qstep P none (mkO dst (.extract x i) ty pos af g) T M = some (⟨none, V⟩, []) := by
  subst hY
  simp only [qstep, aop, hx, hi, Option.map_some, readsOf, Option.isSome_none, Bool.false_eq_true, if_false]

theorem q_fldr {b i o : Nat} {fd : Field} {n : Nat} (hf : fieldT P ty₁ i = some fd) (hs : sizeT P fd.type = some (n + 1)) (hx : ev T x = .raw (.pointer (some ⟨b, o, none⟩))) : qstep P none (mkO dst (.fieldAddr ty₁ x i) ty pos af g) T M = some (⟨none, .raw (.pointer (some ⟨b, o + fd.offset, none⟩))⟩, []) := by
  simp only [qstep, aop, aFieldAddr, hx, hf, hs, Option.map_some, readsOf, AVal.shut, AVal.shut1]

theorem q_build {parts : Array (Nat × Operand)} (h : aBuild P T ty₁ parts.toList = some (.agg cs)) : qstep P none (mkO dst (.build ty₁ parts) ty pos af g) T M = some (⟨none, .agg cs⟩, []) := by
  simp only [qstep, aop, h, Option.map_some, readsOf, AVal.shut, AVal.shut1]

/-! ### Structs of plain fields, held against each other -/

theorem pr_b {P : Program} {α β : Type} (s : Sem α) (f : α → Sem β) : pr P (s >>= f) = (pr P s).bind fun a => pr P (f a) := pr_bind s f
theorem eq_bool {P : Program} {t : TypeId} (h : P.underlying t = some .bool) (a b : Bool) : pr P (Op.equalIn 9999 t (.bool a) (.bool b)) = some (decide (a = b)) := by
  show pr P (underlying t >>= _) = _
  rw [pr_b, pr_underlying h]
  cases a <;> cases b <;> rfl
/-- What is known of a type of slices. -/
structure SlT (P : Program) (st e : TypeId) (sz by_ : Nat) : Prop where
  u : P.underlying st = some (.slice e)
  s : sizeT P e = some sz
  b : bytesT P e = some by_
  z' : (zeroT P e).map (·.cells.size) = some sz
  one : 1 ≤ by_

theorem SlT.zs {P : Program} {st e : TypeId} {sz by_ : Nat} (h : SlT P st e sz by_) : ∃ z, zeroT P e = some z ∧ z.cells.size = sz := by
  have := h.z'
  simpa [Option.map_eq_some_iff] using this

def Els (sz : Nat) (l : List AVal) : Prop := ∀ V ∈ l, V.ok = true ∧ V.cells.length = sz

theorem Els.nil {sz : Nat} : Els sz [] := fun _ h => by cases h
theorem Els.cons {sz : Nat} {l : List AVal} (h1 : V.ok = true) (h2 : V.cells.length = sz) (h : Els sz l) : Els sz (V :: l) := fun W hW => by
  rcases List.mem_cons.1 hW with rfl | hW
  · exact ⟨h1, h2⟩
  · exact h W hW
theorem Els.append {sz : Nat} {l l' : List AVal} (h : Els sz l) (h' : Els sz l') : Els sz (l ++ l') := fun W hW => by
  rcases List.mem_append.1 hW with hW | hW
  · exact h W hW
  · exact h' W hW
theorem Els.map {sz : Nat} {α : Type} {f : α → AVal} {l : List α} (h : ∀ a, (f a).ok = true ∧ (f a).cells.length = sz) : Els sz (l.map f) := fun W hW => by
  obtain ⟨a, -, rfl⟩ := List.mem_map.1 hW
  exact h a

theorem aAppend_eq {st e : TypeId} {sz by_ : Nat} {l ys : List AVal} {own : Bool} {ats : Array TypeId} (ht : SlT P st e sz by_) (h0 : ats[0]? = some st) (h1 : ats[1]? = some st) (hl : Els sz l) (hy : Els sz ys) (hb : (l.length + ys.length) * by_ ≤ 2 ^ 47) : aAppend P ats (.sl l true) (.sl ys own) = some (l ++ ys) := by
  obtain ⟨z, hz, hzs⟩ := ht.zs
  have e1 : (l.all fun V => V.cells.length == sz) = true := List.all_eq_true.2 fun V hV => by simp [(hl V hV).2]
  have e2 : (ys.all fun V => V.ok && V.cells.length == sz) = true := List.all_eq_true.2 fun V hV => by simp [(hy V hV).1, (hy V hV).2]
  simp only [aAppend, h0, h1, ht.u, isRow, ht.s, ht.b, hz, spread, hzs, ht.one, hb, e1, e2, and_self, if_true]
  simp

theorem q_app {st e : TypeId} {sz by_ : Nat} {t : Nat} {l ys : List AVal} {ats : Array TypeId} {d : Nat} (ht : SlT P st e sz by_) (h0 : ats[0]? = some st) (h1 : ats[1]? = some st) (hx : T t = .sl l true) (hy : ev T y = .sl ys own) (hl : Els sz l) (hys : Els sz ys) (hb : (l.length + ys.length) * by_ ≤ 2 ^ 47) :
    qstep P none (mkO (some d) (.call { callee := .builtin .append, args := #[.tmp t, y], argTypes := ats }) ty pos af g) T M = some (⟨some t, .sl (l ++ ys) true⟩, []) := by
  simp only [qstep, Option.isSome, if_true]
  have : ev T (.tmp t) = .sl l true := hx
  rw [this, hy, aAppend_eq ht h0 h1 hl hys hb]
  rfl

end
end Go.Am

/-! The walk: calls, and operations that write. -/
namespace Go.Am
set_option linter.unusedSimpArgs false

section
variable {P : Program} {tkr : Nat → Option Nat} {ops : Array Oper} {K : St → Prop} {i : Nat} {rest : List Oper} {d : Nat} {V X : AVal} {T : Nat → AVal} {M : Mem} {ty ty₁ : TypeId} {pos : String} {af : Array Edge} {x y z : Operand} {args : Array Operand} {ats : Array TypeId} {f : FuncId} {avs : List AVal}
  {plan : List PStep} {H : List (Nat × Nat)} {o : Oper}

theorem ac_nil {k : Nat} : aArgs T none k [] = [] := rfl
theorem ac {k : Nat} {xs : List Operand} {Vs : List AVal} (h : (ev T x).shut = V) (hs : aArgs T none (k + 1) xs = Vs) : aArgs T none k (x :: xs) = V :: Vs := by
  subst h; subst hs; rfl

/-- A call that leaves memory as it is, and comes to one value. -/
theorem o_call {rT : AVal} (hc : SoundCall P f avs M fun r M' => r = rT ∧ M' = M) (hg : goesB P f = true) (ha : aArgs T none 0 args.toList = avs) (htk : tkr i = none) (h : aOps P tkr ops K (i + 1) rest ⟨setT T d rT, M⟩) :
    aOps P tkr ops K i (mkO (some d) (.call { callee := .value (.func f), args, argTypes := ats }) ty pos af none :: rest) ⟨T, M⟩ := by
  refine o_x rfl ?_
  rw [htk]
  show estep P none _ T M _
  unfold estep
  dsimp only [eCall, ev]
  refine ⟨rfl, hg, trivial, (fun r M' => r = rT ∧ M' = M), ?_, ?_⟩
  · show SoundCall P f ([] ++ aArgs T none 0 args.toList ++ []) M fun r M' => r = rT ∧ M' = M
    rw [ha]; simpa using hc
  · rintro r M' ⟨rfl, rfl⟩
    exact h

/-- A call of which more, or less, is known. -/
theorem o_callx {Post : AVal → Mem → Prop} (hc : SoundCall P f avs M Post) (hg : goesB P f = true) (ha : aArgs T none 0 args.toList = avs) (htk : tkr i = none) (h : ∀ r M', Post r M' → aOps P tkr ops K (i + 1) rest ⟨setT T d r, M'⟩) :
    aOps P tkr ops K i (mkO (some d) (.call { callee := .value (.func f), args, argTypes := ats }) ty pos af none :: rest) ⟨T, M⟩ := by
  refine o_x rfl ?_
  rw [htk]
  show estep P none _ T M _
  unfold estep
  dsimp only [eCall, ev]
  refine ⟨rfl, hg, trivial, Post, ?_, ?_⟩
  · show SoundCall P f ([] ++ aArgs T none 0 args.toList ++ []) M Post
    rw [ha]; simpa using hc
  · intro r M' hp
    exact h r M' hp

theorem o_alloc {zs : List AVal} (hz : zeroCellsT P ty₁ = some zs) (h : ∀ b, M b = none → aOps P tkr ops K (i + 1) rest ⟨setT T d (.raw (.pointer (some ⟨b, 0, none⟩))), M.upd b (.cells zs)⟩) : aOps P tkr ops K i (mkO (some d) (.alloc ty₁) ty pos af none :: rest) ⟨T, M⟩ := by
  refine o_x rfl ?_
  show estep P (tkr i) _ T M _
  unfold estep
  dsimp only
  rw [hz]
  exact fun b hb => h b hb

theorem o_box (hV : ev T x = V) (hok : V.ok = true) {cs : List AVal} (hc : V.cells.map AVal.shut = cs) (h : ∀ b, M b = none → aOps P tkr ops K (i + 1) rest ⟨setT T d (.raw (.pointer (some ⟨b, 0, none⟩))), M.upd b (.cells cs)⟩) : aOps P tkr ops K i (mkO (some d) (.box ty₁ x) ty pos af none :: rest) ⟨T, M⟩ := by
  refine o_x rfl ?_
  show estep P (tkr i) _ T M _
  unfold estep
  dsimp only
  subst hV; subst hc
  exact ⟨hok, fun b hb => h b hb⟩

def AVal.own : AVal → Bool
  | .sl _ true => true
  | _ => false

theorem o_store {b off n : Nat} {l l' : List AVal} (ha : ev T x = .raw (.pointer (some ⟨b, off, none⟩))) (hM : M b = some (.cells l)) (hV : ev T y = V) (hok : V.ok = true) (hs : sizeT P ty₁ = some n) (hn : V.cells.length = n) (hl : off + n ≤ l.length) (hown : V.own = false) (he : splice l off (V.cells.map AVal.shut) = l')
    (h : aOps P tkr ops K (i + 1) rest ⟨T, M.upd b (.cells l')⟩) : aOps P tkr ops K i (mkO none (.store ty₁ x y) ty pos af none :: rest) ⟨T, M⟩ := by
  refine o_x rfl ?_
  show estep P (tkr i) _ T M _
  unfold estep
  dsimp only
  rw [ha, hV]
  unfold eStore
  simp only [hM]
  refine ⟨hok, by rw [hn]; exact hs, by rw [hn]; exact hl, ?_⟩
  subst he
  split
  · simp [AVal.own] at hown
  · exact h

/-- A slice that may be appended to is laid into memory. -/
theorem o_store_own {b off t : Nat} {l xs : List AVal} (ha : ev T x = .raw (.pointer (some ⟨b, off, none⟩))) (hM : M b = some (.cells l)) (hV : T t = .sl xs true) (hs : sizeT P ty₁ = some 1) (hl : off + 1 ≤ l.length)
    (h : aOps P tkr ops K (i + 1) rest ⟨setT T t (.sl xs false), M.upd b (.cells (l.set off (.sl xs true)))⟩) : aOps P tkr ops K i (mkO none (.store ty₁ x (.tmp t)) ty pos af none :: rest) ⟨T, M⟩ := by
  refine o_x rfl ?_
  show estep P (tkr i) _ T M _
  unfold estep
  dsimp only
  have hV' : ev T (.tmp t) = .sl xs true := hV
  rw [ha, hV']
  unfold eStore
  simp only [hM]
  refine ⟨rfl, hs, hl, ?_⟩
  have : Eff.apply ⟨tmpOf (.tmp t), M.upd b (.cells (l.set off (.sl xs true))), .undef⟩ (⟨T, M⟩ : St) none = ⟨setT T t (.sl xs false), M.upd b (.cells (l.set off (.sl xs true)))⟩ := by
    show (⟨setT T t (T t).shut, _⟩ : St) = _
    rw [hV]; rfl
  rw [this]
  exact h

/-- It is taken out again. -/
theorem o_take {n b off : Nat} {l xs : List AVal} (htk : tkr i = some n) (ha : ev T x = .raw (.pointer (some ⟨b, off, none⟩))) (hM : M b = some (.cells l)) (hx : l[off]? = some (.sl xs true)) (hag : aggT P ty₁ = some false) (hs : sizeT P ty₁ = some 1)
    (h : aOps P tkr ops K (i + 1) rest ⟨setT T d (.sl xs true), M.upd b (.cells (l.set off (.sl xs false)))⟩) : aOps P tkr ops K i (mkO (some d) (.load ty₁ x) ty pos af none :: rest) ⟨T, M⟩ := by
  refine o_x rfl ?_
  rw [htk]
  show estep P (some n) _ T M _
  unfold estep
  dsimp only
  rw [ha]
  unfold eTake
  simp only [hM, hx]
  exact ⟨hag, hs, h⟩

/-! ### More quiet ones -/

variable {dst : Option Nat} {g : Option (Nat × Bool)} {cs : List AVal} {own : Bool} {k : IntKind} {a b : Int}

/-- Where a field lies. -/
def fo (P : Program) (t : TypeId) (i : Nat) : Option (Nat × Nat) := (fieldT P t i).bind fun fd => (sizeT P fd.type).map fun n => (fd.offset, n)

theorem fo_spec {t : TypeId} {i off n : Nat} (h : fo P t i = some (off, n)) : ∃ fd, fieldT P t i = some fd ∧ sizeT P fd.type = some n ∧ fd.offset = off := by
  unfold fo at h
  cases hf : fieldT P t i with
  | none => rw [hf] at h; cases h
  | some fd =>
    rw [hf] at h
    simp only [Option.bind_some, Option.map_eq_some_iff, Prod.mk.injEq] at h
    obtain ⟨m, h1, h2, h3⟩ := h
    exact ⟨fd, rfl, by rw [h1, h3], h2⟩

theorem q_f {i off n : Nat} {j o : Nat} (hf : fo P ty₁ i = some (off, n + 1)) (hx : ev T x = .sptr cs j o) : qstep P none (mkO dst (.fieldAddr ty₁ x i) ty pos af g) T M = some (⟨none, .sptr cs j (o + off)⟩, []) := by
  obtain ⟨fd, h1, h2, rfl⟩ := fo_spec hf
  exact q_fld h1 h2 hx

theorem q_fr {i off n : Nat} {b o : Nat} (hf : fo P ty₁ i = some (off, n + 1)) (hx : ev T x = .raw (.pointer (some ⟨b, o, none⟩))) : qstep P none (mkO dst (.fieldAddr ty₁ x i) ty pos af g) T M = some (⟨none, .raw (.pointer (some ⟨b, o + off, none⟩))⟩, []) := by
  obtain ⟨fd, h1, h2, rfl⟩ := fo_spec hf
  exact q_fldr h1 h2 hx

theorem pn {k : Nat} : aParts T k [] = some [] := rfl
theorem pc {k : Nat} {l : List AVal} {r : List (Nat × Operand)} (h : (ev T x).shut = V) (hr : aParts T (k + 1) r = some l) : aParts T k ((k, x) :: r) = some (V :: l) := by
  subst h
  simp only [aParts, if_true, hr, Option.map_some]

theorem q_bs {st e : TypeId} {sz by_ n : Nat} {l : List AVal} {parts : Array (Nat × Operand)} (ht : SlT P st e sz by_) (hp : aParts T 0 parts.toList = some l) (hl : l.length = n) (hall : Els sz l) (hsz : n * sz ≤ 2 ^ 24) : qstep P none (mkO dst (.buildSlice st n parts) ty pos af g) T M = some (⟨none, .sl l true⟩, []) := by
  obtain ⟨z, hz, hzs⟩ := ht.zs
  have e : (l.all fun V => V.ok && V.cells.length == sz) = true := List.all_eq_true.2 fun V hV => by simp [(hall V hV).1, (hall V hV).2]
  simp only [qstep, qBuild, ht.u, ht.s, hz, hp, hzs, hl, hsz, e, and_self, if_true, Option.map_some]

theorem q_app_nil {st e : TypeId} {sz by_ : Nat} {ys : List AVal} (ht : SlT P st e sz by_) (h0 : ats[0]? = some st) (h1 : ats[1]? = some st) (hy : ev T y = .sl ys own) (hys : Els sz ys) (hb : ys.length * by_ ≤ 2 ^ 47) :
    qstep P none (mkO (some d) (.call { callee := .builtin .append, args := #[.const (.slice none 0 0), y], argTypes := ats }) ty pos af g) T M = some (⟨none, .sl ys true⟩, []) := by
  simp only [qstep, Option.isSome, if_true]
  have : ev T (.const (.slice none 0 0)) = .sl [] true := rfl
  rw [this, hy, aAppend_eq ht h0 h1 Els.nil hys (by simpa using hb)]
  rfl

/-- A whole block. -/
theorem q_ldmw {b n : Nat} {W : AVal} {ws : List AVal} (ha : aggT P ty₁ = some true) (hs : sizeT P ty₁ = some n) (hx : ev T x = .raw (.pointer (some ⟨b, 0, none⟩))) (hM : M b = some (.cells W.cells)) (hW : W = .agg ws) (hn : ws.length = n) : qstep P none (mkO dst (.load ty₁ x) ty pos af g) T M = some (⟨none, W⟩, [b]) := by
  subst hn; subst hW
  exact q_ldm ha hs hx hM (Y := .agg ws) (by simp [piece, AVal.cells]) rfl

theorem o_storew {b n : Nat} {l : List AVal} {W : AVal} (ha : ev T x = .raw (.pointer (some ⟨b, 0, none⟩))) (hM : M b = some (.cells l)) (hV : ev T y = W) (hok : W.ok = true) (hs : sizeT P ty₁ = some n) (hn : W.cells.length = n) (hl : l.length = n) (hown : W.own = false) (he : W.cells.map AVal.shut = W.cells)
    (h : aOps P tkr ops K (i + 1) rest ⟨T, M.upd b (.cells W.cells)⟩) : aOps P tkr ops K i (mkO none (.store ty₁ x y) ty pos af none :: rest) ⟨T, M⟩ := by
  refine o_store ha hM hV hok hs hn (by omega) hown ?_ h
  rw [he]
  unfold splice
  rw [List.drop_eq_nil_of_le (by omega)]
  simp

/-- A whole element. -/
theorem q_lde {j n : Nat} {W : AVal} {ws : List AVal} (ha : aggT P ty₁ = some true) (hs : sizeT P ty₁ = some n) (hx : ev T x = .sptr cs j 0) (hV : cs[j]? = some W) (hW : W = .agg ws) (hn : ws.length = n) : qstep P none (mkO dst (.load ty₁ x) ty pos af g) T M = some (⟨none, W⟩, []) := by
  subst hn; subst hW
  exact q_ld ha hs hx hV (Y := .agg ws) (by simp [piece, AVal.cells]) rfl

/-- An element of a list that is told by a function. -/
theorem gm {α : Type} {f : α → AVal} {l : List α} (n : Nat) (h : n < l.length) : (l.map f)[n]? = some (f l[n]) := by simp [h]

end
end Go.Am

/-! Maps, told as lists of keys and values; and what a function may leave in memory. -/
namespace Go.Am
set_option linter.unusedSimpArgs false
set_option linter.unusedSectionVars false

/-! ### What is left in memory is forgotten -/

def Mem.le (M M' : Mem) : Prop := ∀ b o, M b = some o → M' b = some o

theorem Mem.le_refl (M : Mem) : M.le M := fun _ _ h => h
theorem Mem.le_upd {M M' : Mem} {b : Nat} {o : AObj} (h : M.le M') (hb : M b = none) : M.le (M'.upd b o) := fun c p hc => by
  unfold Mem.upd
  split
  · subst_vars; rw [hb] at hc; cases hc
  · exact h c p hc
theorem Mem.none_of_le {M M' : Mem} (h : M.le M') {b : Nat} (hb : M' b = none) : M b = none := by
  cases hm : M b with
  | none => rfl
  | some o => rw [h b o hm] at hb; cases hb
theorem Mem.upd_ne {M : Mem} {b c : Nat} {o : AObj} {x : Option AObj} (h : b ≠ c) (hM : M b = x) : (M.upd c o) b = x := by
  unfold Mem.upd; rw [if_neg h]; exact hM
theorem Mem.upd_none {M : Mem} {b c : Nat} {o : AObj} (h : (M.upd c o) b = none) : b ≠ c ∧ M b = none := by
  unfold Mem.upd at h
  split at h
  · cases h
  · exact ⟨by assumption, h⟩

theorem SoundCall.trim {P : Program} {f : FuncId} {args : List AVal} {M : Mem} {Post : AVal → Mem → Prop} (h : SoundCall P f args M Post) (hp : ∀ r M', Post r M' → M.le M') : SoundCall P f args M fun r M' => (∃ M'', Post r M'') ∧ M' = M :=
  fun κ w vs hs hh => (h κ w vs hs hh).mono fun _ _ ⟨v, κ', r, M', e, hq, hH, hK⟩ => ⟨v, κ', r, M, e, ⟨⟨M', hq⟩, rfl⟩, hH.forget (hp r M' hq), hK⟩

/-- Of a function that leaves more in memory than there was, this is told. -/
theorem SoundCall.det {P : Program} {f : FuncId} {args : List AVal} {M : Mem} {X : AVal} (h : SoundCall P f args M fun r M' => r = X ∧ M.le M') : SoundCall P f args M fun r M' => r = X ∧ M' = M :=
  (h.trim fun _ _ h => h.2).mono fun _ _ ⟨⟨_, h⟩, e⟩ => ⟨h.1, e⟩

/-! ### Maps -/

section
variable {α β : Type} [DecidableEq α]

/-- What is known of a type of keys. -/
structure KeyT (P : Program) (kt : TypeId) (ek : α → Value) : Prop where
  check : ∀ e k, pr P (Instr.checkKey e 10000 kt (ek k)) = some ()
  find : ∀ (k : α) (keys : List α), keyAt P kt (ek k) (keys.map ek) = some (keys.findIdx? fun x => x = k)
  same : ∀ k, Instr.sameBits 10000 (ek k) (ek k) = true

end

theorem findNow_str (k : ByteArray) : ∀ (keys : List ByteArray) (i : Nat), Instr.findNow .string (.string k) (keys.map fun x => ⟨.string x, undef, 0⟩) i = some ((keys.findIdx? fun x => x = k).map fun j => (i + j, undef))
  | [], i => rfl
  | x :: keys, i => by
    rw [List.map_cons, List.findIdx?_cons]
    show (match Instr.sameNow .string (.string k) (.string x) with | some true => _ | some false => _ | none => _) = _
    have e : Instr.sameNow .string (.string k) (.string x) = some (decide (k = x)) := by rw [← ba_beq]; rfl
    rw [e]
    by_cases h : k = x
    · subst h; simp
    · rw [decide_eq_false h]
      show Instr.findNow .string (.string k) _ (i + 1) = _
      rw [findNow_str k keys (i + 1)]
      have h' : ¬ x = k := fun h' => h h'.symm
      simp only [h', decide_false, Bool.false_eq_true, if_false]
      cases keys.findIdx? (fun x => decide (x = k)) <;> simp; omega

theorem keyT_str {P : Program} {kt : TypeId} (h : P.underlying kt = some .string) : KeyT P kt Value.string where
  check e k := by
    show pr P (underlying kt >>= _) = _
    rw [pr_b, pr_underlying h]; rfl
  find k keys := by
    unfold keyAt
    have e : pr P (Instr.findKey kt (.string k) ((keys.map Value.string).map fun x => ⟨x, undef, 0⟩)) = some ((keys.findIdx? fun x => x = k).map fun j => (j, undef)) := by
      show pr P (underlying kt >>= _) = _
      rw [pr_b, pr_underlying h, Option.bind_some, List.map_map]
      have := findNow_str k keys 0
      simp only [Nat.zero_add] at this
      rw [show ((fun x => (⟨x, undef, 0⟩ : MapEntry)) ∘ Value.string) = fun x => ⟨.string x, undef, 0⟩ from rfl, this]
      rfl
    rw [e]
    cases keys.findIdx? (fun x => decide (x = k)) <;> rfl
  same k := by
    show (k == k) = true
    rw [ba_beq]; simp

end Go.Am

/-! The walk: structs that are built field by field. -/
namespace Go.Am
set_option linter.unusedSimpArgs false

section
variable {P : Program} {T : Nat → AVal} {M : Mem} {t : TypeId} {x : Operand} {V X : AVal} {cells cells' out : List AVal} {rest : List (Nat × Operand)} {i off n : Nat}

theorem mapM_get {α β : Type} {f : α → Option β} : ∀ (l : List α) (r : List β), l.mapM f = some r → ∀ (i : Nat) a, l[i]? = some a → ∃ b, r[i]? = some b ∧ f a = some b
  | [], r, h, i, a, ha => by simp at ha
  | y :: l, r, h, i, a, ha => by
    rw [List.mapM_cons] at h
    cases h1 : f y with
    | none => rw [h1] at h; cases h
    | some b =>
      rw [h1] at h
      simp only [Option.bind_eq_bind, Option.bind_some] at h
      cases h2 : l.mapM f with
      | none => rw [h2] at h; cases h
      | some r' =>
        rw [h2] at h
        obtain rfl := Option.some.inj h
        cases i with
        | zero => simp at ha; subst ha; exact ⟨b, rfl, h1⟩
        | succ i => simpa using mapM_get l r' h2 i a (by simpa using ha)

theorem places_fo {place : Nat → Option (Nat × Nat)} (hp : aPlaces P t = some place) (hf : fo P t i = some (off, n)) : place i = some (off, n) := by
  obtain ⟨fd, h1, h2, h3⟩ := fo_spec hf
  unfold aPlaces at hp
  unfold fieldT at h1
  cases hu : P.underlying t with
  | none => rw [hu] at h1; cases h1
  | some d =>
    rw [hu] at h1 hp
    cases d <;> simp only at h1 hp <;> try cases h1
    rename_i fs
    simp only [Option.map_eq_some_iff] at hp
    obtain ⟨ps, h4, rfl⟩ := hp
    rw [Array.mapM_eq_mapM_toList] at h4
    simp only [Option.map_eq_map, Option.map_eq_some_iff] at h4
    obtain ⟨l, h5, rfl⟩ := h4
    obtain ⟨b, h6, h7⟩ := mapM_get _ _ h5 i fd (by simpa using h1)
    simp only [h2, Option.map_some, Option.some.injEq] at h7
    show l.toArray[i]? = _
    simp [h6, ← h7, h3]

def BF (P : Program) (t : TypeId) (T : Nat → AVal) (cells : List AVal) (parts : List (Nat × Operand)) (out : List AVal) : Prop :=
  ∀ place, aPlaces P t = some place → aFill place cells (parts.map fun (i, x) => (i, ev T x)) = some out

theorem bf_nil : BF P t T cells [] cells := fun _ _ => rfl

theorem bf (hf : fo P t i = some (off, n)) (hV : ev T x = V) (hok : V.ok = true) (hn : V.cells.length = n) (hl : off + n ≤ cells.length) (hc : cells.take off ++ V.cells ++ cells.drop (off + n) = cells') (h : BF P t T cells' rest out) : BF P t T cells ((i, x) :: rest) out := by
  intro place hp
  subst hV; subst hc; subst hn
  have h1 := h place hp
  simp only [List.map_cons, aFill, places_fo hp hf]
  rw [if_neg (by simp [hok]; omega)]
  exact h1

theorem e_raw {v : Value} (h : X = .raw v) : X = .raw v := h
theorem e_sl {l : List AVal} {o : Bool} (h : X = .sl l o) : X = .sl l o := h
theorem e_agg {l : List AVal} (h : X = .agg l) : X = .agg l := h

variable {dst : Option Nat} {g : Option (Nat × Bool)} {ty : TypeId} {pos : String} {af : Array Edge} {cs zs : List AVal} {parts : Array (Nat × Operand)}

theorem q_b (hz : (zeroT P t).map (fun z => z.cells.toList.map AVal.raw) = some zs) (hp : (aPlaces P t).isSome = true) (h : BF P t T zs parts.toList cs) : qstep P none (mkO dst (.build t parts) ty pos af g) T M = some (⟨none, .agg cs⟩, []) := by
  refine q_build ?_
  obtain ⟨place, hpl⟩ := Option.isSome_iff_exists.1 hp
  obtain ⟨z, h1, h2⟩ := Option.map_eq_some_iff.1 hz
  unfold aBuild
  simp only [h1, hpl, h2, h place hpl, Option.map_some]

end
end Go.Am

/-! From what a row reads to what the abstract machine knows, and back. -/
namespace Go.Am
open Go.Deep Go.WideShapes Go.ChangeShapes Go.RowKit
set_option linter.unusedSimpArgs false

section
variable {H : Type} {enc : TypeId × Value → H} {P : Program} {w : World} {base : Nat} {spare : Nat → Bool} {held : Bool}

/-- Ahead of the call all that is there stays as it is. -/
def imm0 (w : World) : Ghost := fun b _ => if b < w.heap.size then .imm else .free

theorem imm0_cell {a : Addr} {v : Value} (h : w.cell? a = some v) : ∀ o, imm0 w a.block o = .imm := fun o => by
  unfold imm0
  rw [if_pos]
  unfold World.cell? at h
  rcases Nat.lt_or_ge a.block w.heap.size with hb | hb
  · exact hb
  · rw [Array.getElem?_eq_none hb] at h; cases h

/-- Cells that are told one by one. -/
def Fits (P : Program) (w : World) (X : AVal) (cs : List Value) : Prop := X.cells.length = cs.length ∧ ∀ (j : Nat) Y v, X.cells[j]? = some Y → cs[j]? = some v → Rep P (imm0 w) w Y v
/-- An argument that is a slice of structs, or of values. -/
theorem open_deep {α : Type} (f : α → AVal) (told : α → DataW H) (wf : α → Prop) {t e : TypeId} {n : Nat} (ht : P.underlying t = some (.slice e)) (hn : P.cellsOf e = n) (h0 : 0 < n)
    (elem : ∀ m cs d pl, DataW.trod enc P w 0 spare held m e cs = some (d, pl) → cs.length = n → ∃ a, wf a ∧ d = told a ∧ Fits P w (f a) cs)
    {v : Value} {d : DataW H} {ps : List MemPlace} (hv : Value.okWide P w .any base t v) (h : DataW.Trod enc P w 0 spare held t v d ps) :
    ∃ l : List α, Rep P (imm0 w) w (.sl (l.map f) false) v ∧ (∀ a ∈ l, wf a) ∧ ((d = .nil ∧ l = []) ∨ ∃ r, d = .slice (l.map told) r) ∧ l.length ≤ maxLen ∧ ∀ x ∈ ps, x.block < w.heap.size := by
  have hlt : ∀ x ∈ ps, x.block < w.heap.size := by obtain ⟨m, hm⟩ := h; exact DataW.trod_lt m _ _ _ hm
  obtain ⟨a₀, len₀, cap₀, rfl⟩ := okWide_slice ht hv
  obtain ⟨fuel, hf⟩ := h
  rcases open_slice ht hf with ⟨hc, hx⟩ | ⟨a, len, cap, m, n', D, Pl, hc, hb, hl, hm, hmm, hx, hel⟩
  · simp only [Value.cells, List.cons.injEq, Value.slice.injEq, and_true] at hc
    obtain ⟨rfl, rfl, rfl⟩ := hc
    cases hx
    exact ⟨[], .nil false, (fun _ h => by cases h), .inl ⟨rfl, rfl⟩, Nat.zero_le _, hlt⟩
  · simp only [Value.cells, List.cons.injEq, Value.slice.injEq, and_true] at hc
    obtain ⟨rfl, rfl, rfl⟩ := hc
    have hspot : a.spot = none := by
      simp only [Value.okWide, ht, Cell.okWide, Cell.ok] at hv
      exact hv.2.2.2.1
    obtain ⟨b, off, sp⟩ := a
    subst hspot
    rw [hn] at hel
    have hlm : len₀ ≤ m := by rw [hmm]; split <;> omega
    have hch : ∀ i, i < len₀ → ∃ a cs', wf a ∧ D i = told a ∧ Fits P w (f a) cs' ∧ cs'.length = n ∧ ∀ j, j < n → w.cell? ⟨b, off + (i * n + j), none⟩ = cs'[j]? := by
      intro i hi
      obtain ⟨cs', h1, h2⟩ := hel i (by omega)
      obtain ⟨_, h3, h4⟩ := World.cells?_some h1
      obtain ⟨a, h5, h6, h7⟩ := elem _ _ _ _ h2 h3
      refine ⟨a, cs', h5, h6, h7, h3, fun j hj => ?_⟩
      have := h4 j hj
      rw [addr_add, addr_add, Nat.add_assoc] at this
      exact this
    obtain ⟨l, hll, hlg⟩ : ∃ l : List α, l.length = len₀ ∧ ∀ i a, l[i]? = some a → ∃ cs', wf a ∧ D i = told a ∧ Fits P w (f a) cs' ∧ cs'.length = n ∧ ∀ j, j < n → w.cell? ⟨b, off + (i * n + j), none⟩ = cs'[j]? := by
      clear hx hf hv hl hlm hmm hel
      induction len₀ with
      | zero => exact ⟨[], rfl, fun i a h => by simp at h⟩
      | succ k ih =>
        obtain ⟨l, h1, h2⟩ := ih (fun i hi => hch i (by omega))
        obtain ⟨a, cs', h3⟩ := hch k (by omega)
        refine ⟨l ++ [a], by simp [h1], fun i x hx => ?_⟩
        rcases Nat.lt_or_ge i l.length with hi | hi
        · rw [List.getElem?_append_left hi] at hx; exact h2 i x hx
        · rw [List.getElem?_append_right hi] at hx
          have : i = k := by
            rcases Nat.lt_or_ge (i - l.length) 1 with h | h
            · omega
            · rw [List.getElem?_eq_none (by simpa using h)] at hx; cases hx
          subst this
          rw [show i - l.length = 0 by omega] at hx
          simp only [List.getElem?_cons_zero, Option.some.injEq] at hx
          subst hx
          exact ⟨cs', h3⟩
    have hsz : ∀ e ∈ l.map f, e.cells.length = n := by
      intro e he
      obtain ⟨a, ha, rfl⟩ := List.mem_map.1 he
      obtain ⟨i, hi⟩ := List.mem_iff_getElem?.1 ha
      obtain ⟨cs', -, -, h3, h4, -⟩ := hlg i a hi
      rw [h3.1, h4]
    have hcell : ∀ j, j < (flat (l.map f)).length → ∃ v, w.cell? ⟨b, off + j, none⟩ = some v ∧ ∀ c, (flat (l.map f))[j]? = some c → Rep P (imm0 w) w c v := by
      intro j hj
      rw [flat_length hsz, List.length_map, hll] at hj
      have hi : j / n < len₀ := (Nat.div_lt_iff_lt_mul h0).2 hj
      have hr : j % n < n := Nat.mod_lt _ h0
      have e : j = j / n * n + j % n := by have := Nat.div_add_mod j n; rw [Nat.mul_comm] at this; omega
      obtain ⟨a, ha⟩ : ∃ a, l[j / n]? = some a := ⟨_, List.getElem?_eq_getElem (by omega)⟩
      obtain ⟨cs', -, -, h3, h4, h5⟩ := hlg _ a ha
      have h6 := h5 _ hr
      rw [← e] at h6
      have h7 : cs'[j % n]? = some cs'[j % n] := List.getElem?_eq_getElem (by omega)
      refine ⟨cs'[j % n], h6.trans h7, fun c hc => ?_⟩
      have h8 := flat_get hsz (i := j / n) (e := f a) (by simp [ha]) hr
      rw [← e] at h8
      rw [h8] at hc
      exact h3.2 _ _ _ hc h7
    have hlen : len₀ = (l.map f).length := by simp [hll]
    refine ⟨l, ?_, ?_, .inr ⟨_, by
      have h1 : d = .slice ((List.range len₀).map D) _ := congrArg Prod.fst hx
      rw [h1]
      congr 1
      refine List.ext_getElem? fun i => ?_
      rcases Nat.lt_or_ge i len₀ with hi | hi
      · obtain ⟨a, ha⟩ : ∃ a, l[i]? = some a := ⟨_, List.getElem?_eq_getElem (by omega)⟩
        obtain ⟨cs', -, h2, -⟩ := hlg i a ha
        simp [hi, ha, h2]
      · rw [List.getElem?_eq_none (by simpa using hi), List.getElem?_eq_none (by simp [hll]; exact hi)]⟩, by omega, hlt⟩
    · rw [hlen]
      refine .sl (l.map f) false b off cap₀ n (fun j => (w.cell? ⟨b, off + j, none⟩).getD undef) (by omega) hsz (fun j hj => ?_) (fun j hj => ?_) (fun j c hc => ?_) (fun h => by cases h)
      · obtain ⟨v, h1, -⟩ := hcell j hj
        exact imm0_cell h1 _
      · obtain ⟨v, h1, -⟩ := hcell j hj
        rw [h1]; rfl
      · have hj : j < (flat (l.map f)).length := by
          rcases Nat.lt_or_ge j (flat (l.map f)).length with h | h
          · exact h
          · rw [List.getElem?_eq_none h] at hc; cases hc
        obtain ⟨v, h1, h2⟩ := hcell j hj
        rw [h1]
        exact h2 c hc
    · intro a ha
      obtain ⟨i, hi⟩ := List.mem_iff_getElem?.1 ha
      obtain ⟨cs', h1, -⟩ := hlg i a hi
      exact h1

/-- The call, from what is shown of the function; G: the variables of packages that are known. -/
theorem call_of_soundG {f : FuncId} {args : List AVal} {vs : Array Value} {X : Value} {G : Mem} (hG : ∀ b o, G b = some o → GlobO o ∧ RepO P (imm0 w) w b o) (hlen : vs.size = args.length) (hs : SoundCall P f args G fun r _ => r = .raw X)
    (hr : ∀ (i : Nat) A v, args[i]? = some A → vs[i]? = some v → Rep P (imm0 w) w A v ∧ A.free) : Calls P f vs w fun e w' => e = .returned X ∧ Below w.heap.size w w' := by
  have hT : ∀ t, Rep P (imm0 w) w (argT args t) (vs.getD t undef) ∧ (argT args t).free := by
    intro t
    unfold argT
    rw [List.getD_eq_getElem?_getD]
    rcases Nat.lt_or_ge t args.length with h | h
    · have h1 : args[t]? = some args[t] := List.getElem?_eq_getElem h
      have h2 : vs[t]? = some vs[t] := Array.getElem?_eq_getElem (by omega)
      rw [h1]
      have := hr t _ _ h1 h2
      have e : vs.getD t undef = vs[t] := by simp [Array.getD, show t < vs.size by omega]
      rw [e]; exact this
    · rw [List.getElem?_eq_none h]
      exact ⟨.undef _, by simp [AVal.free]⟩
  refine (hs (imm0 w) w vs hlen ⟨(fun t => (hT t).1), (fun b o h => (hG b o h).2), (fun b o h => ?_), (fun t b o hsp => absurd hsp (Spare.not_free (hT t).2)), (fun b o t h => ?_), (fun b o c j h => ?_)⟩).mono ?_
  · have hb : b < w.heap.size ∧ imm0 w b o = .imm := by
      unfold imm0 at h ⊢
      split at h
      · rename_i e; exact ⟨e, if_pos e⟩
      · exact absurd rfl h
    exact ⟨hb.1, fun p hp => ⟨hb.2, (hG b p hp).1⟩⟩
  · unfold imm0 at h; split at h <;> cases h
  · unfold imm0 at h; split at h <;> cases h
  · rintro e w' ⟨v, κ', r, M', rfl, rfl, hH, hK⟩
    have h0 := hH.tmp 0
    have : Rep P κ' w' (.raw X) v := by simpa [argT] using h0
    have hv : v = X := rep_raw this
    subst hv
    exact ⟨rfl, hK.os, hK.tape, hK.output, hK.size, fun k hk => hK.block k hk fun o => .inl (by unfold imm0; rw [if_pos hk])⟩

/-- The call, from what is shown of the function. -/
theorem call_of_sound {f : FuncId} {args : List AVal} {vs : Array Value} {X : Value} (hlen : vs.size = args.length) (hs : SoundCall P f args (fun _ => none) fun r M' => r = .raw X ∧ M' = fun _ => none)
    (hr : ∀ (i : Nat) A v, args[i]? = some A → vs[i]? = some v → Rep P (imm0 w) w A v ∧ A.free) : Calls P f vs w fun e w' => e = .returned X ∧ Below w.heap.size w w' :=
  call_of_soundG (fun b o h => by cases h) hlen (fun κ w vs h1 h2 => (hs κ w vs h1 h2).mono fun _ _ ⟨v, κ', r, M', e, h, hH, hK⟩ => ⟨v, κ', r, M', e, h.1, hH, hK⟩) hr

end
end Go.Am

/-! The walk: pointers to structs, arrays, closures; effects in regions that draw. -/
namespace Go.Am
set_option linter.unusedSimpArgs false

section
variable {P : Program} {tkr : Nat → Option Nat} {ops : Array Oper} {K : St → Prop} {i : Nat} {rest : List Oper} {d : Nat} {V X : AVal} {T : Nat → AVal} {M : Mem} {ty ty₁ e : TypeId} {pos : String} {af : Array Edge} {x y z : Operand} {args : Array Operand} {ats : Array TypeId} {f : FuncId} {avs : List AVal}
  {plan : List PStep} {H : List (Nat × Nat)} {o : Oper} {dst : Option Nat} {g : Option (Nat × Bool)} {cs : List AVal} {k : IntKind} {a b : Int} {Q : St → Prop}

theorem q_nil {p : Addr} (hx : ev T x = .raw (.pointer (some p))) : qstep P none (mkO dst (.nilCheck x) ty pos af g) T M = some (⟨none, .raw (.pointer (some p))⟩, []) := by
  simp only [qstep, aop, hx, Option.map_some, readsOf, AVal.shut, AVal.shut1]
/-- An element of a slice that lies in a known block. -/
theorem q_idxr {sz n cap : Nat} {p off : Nat} (hu : P.underlying ty₁ = some (.slice e)) (hs : sizeT P e = some sz) (hx : ev T x = .raw (.slice (some ⟨p, off, none⟩) n cap)) (hy : ev T y = .raw (.int k a)) (h0 : 0 ≤ a) (h1 : a < (n : Int)) : qstep P none (mkO dst (.indexAddr ty₁ x y) ty pos af g) T M = some (⟨none, .raw (.pointer (some ⟨p, off + a.toNat * sz, none⟩))⟩, []) := by
  simp only [qstep, aop, aIndexAddr, hx, hy, hu, hs, h0, h1, and_self, if_true, Option.map_some, readsOf, AVal.shut, AVal.shut1, AVal.shut1]

theorem q_mkf1 {fn : Fn} {v : Value} (hx : ev T x = .raw v) : qstep P none (mkO dst (.makeFunc fn #[] #[x]) ty pos af g) T M = some (⟨none, .raw (.func fn #[] #[v])⟩, []) := by
  simp only [qstep, aop, List.map, hx]; rfl
theorem q_mkf2 {fn : Fn} {v u : Value} (hx : ev T x = .raw v) (hy : ev T y = .raw u) : qstep P none (mkO dst (.makeFunc fn #[] #[x, y]) ty pos af g) T M = some (⟨none, .raw (.func fn #[] #[v, u])⟩, []) := by
  simp only [qstep, aop, List.map, hx, hy]; rfl

/-- A call of a function value. -/
theorem o_callv {Post : AVal → Mem → Prop} {first captured : Array Value} {avs' : List AVal} (hF : ev T x = .raw (.func (.func f) first captured)) (hc : SoundCall P f avs M Post) (hg : goesB P f = true) (ha : aArgs T none 0 args.toList = avs') (hav : first.toList.map .raw ++ avs' ++ captured.toList.map .raw = avs) (htk : tkr i = none) (h : ∀ r M', Post r M' → aOps P tkr ops K (i + 1) rest ⟨setT T d r, M'⟩) :
    aOps P tkr ops K i (mkO (some d) (.call { callee := .value x, args, argTypes := ats }) ty pos af none :: rest) ⟨T, M⟩ := by
  refine o_x rfl ?_
  rw [htk]
  show estep P none _ T M _
  unfold estep
  dsimp only
  rw [hF]
  dsimp only [eCall]
  refine ⟨rfl, hg, trivial, Post, ?_, ?_⟩
  · rw [ha, hav]; exact hc
  · intro r M' hp
    exact h r M' hp

/-- An effect in a region that draws. -/
theorem d_s {ks : List Nat} {S : St} (ho : ops[i]? = some o) (h : aOps P tkr ops (fun S' => (∀ p ∈ H, p.1 ∈ ks → S'.M p.2 = S.M p.2) ∧ aDraw P tkr ops Q plan H S') i [o] S) : aDraw P tkr ops Q (.s i ks :: plan) H S := by
  show aOp P tkr ops i S _
  unfold aOp
  rw [ho]
  exact h

theorem Mem.fresh_ne {b c : Nat} {o : AObj} (h : M b = none) (h' : M c = some o) : c ≠ b := fun e => by subst e; rw [h] at h'; cases h'

theorem Mem.upd_same {b : Nat} {o : AObj} (h : M b = some o) : M.upd b o = M := by
  funext c
  unfold Mem.upd
  split
  · subst_vars; exact h.symm
  · rfl

/-! ### Held against each other: bools, and pointers against nil -/

theorem aBin_bool {s t : Bool} (hu : P.underlying ty₁ = some .bool) : aBin P .eql ty₁ x y (.raw (.bool s)) (.raw (.bool t)) = some (.raw (.bool (decide (s = t)))) ∧ aBin P .neq ty₁ x y (.raw (.bool s)) (.raw (.bool t)) = some (.raw (.bool (!decide (s = t)))) := by
  have h := eq_bool (P := P) hu s t
  constructor
  · show (pr P (Op.equal ty₁ (.bool s) (.bool t) >>= _)).map AVal.raw = _
    rw [pr_b]
    have : pr P (Op.equal ty₁ (.bool s) (.bool t)) = some (decide (s = t)) := by
      show pr P (underlying ty₁ >>= _) = _
      rw [pr_b, pr_underlying hu]
      cases s <;> cases t <;> rfl
    rw [this]; rfl
  · show (pr P (Op.equal ty₁ (.bool s) (.bool t) >>= _)).map AVal.raw = _
    rw [pr_b]
    have : pr P (Op.equal ty₁ (.bool s) (.bool t)) = some (decide (s = t)) := by
      show pr P (underlying ty₁ >>= _) = _
      rw [pr_b, pr_underlying hu]
      cases s <;> cases t <;> rfl
    rw [this]; rfl

theorem q_bneq {s t : Bool} {ty' : TypeId} (hu : P.underlying ty₁ = some .bool) (hx : ev T x = .raw (.bool s)) (hy : ev T y = .raw (.bool t)) : qstep P none (mkO dst (.binOp .neq ty₁ x y ty') ty pos af g) T M = some (⟨none, .raw (.bool (!decide (s = t)))⟩, []) := q_bin' hx hy (aBin_bool hu).2

theorem equal_nil {p : Option Addr} (hu : P.underlying ty₁ = some (.pointer e)) : pr P (Op.equal ty₁ (.pointer p) (.pointer none)) = some p.isNone := by
  show pr P (underlying ty₁ >>= _) = _
  rw [pr_b, pr_underlying hu]
  cases p <;> rfl
theorem q_peql {p : Option Addr} {ty' : TypeId} (hu : P.underlying ty₁ = some (.pointer e)) (hx : ev T x = .raw (.pointer p)) (hy : ev T y = .raw (.pointer none)) : qstep P none (mkO dst (.binOp .eql ty₁ x y ty') ty pos af g) T M = some (⟨none, .raw (.bool p.isNone)⟩, []) := by
  refine q_bin' hx hy ?_
  show (pr P (Op.equal ty₁ (.pointer p) (.pointer none) >>= _)).map AVal.raw = _
  rw [pr_b, equal_nil hu]; rfl
/-- Either way. -/
theorem o_cases {j : Nat} {gd : Nat} {t : Bool} {S : St} {want : Bool} {os : List Oper} (_ : (ops[j]?).bind (·.dst) = some gd) (_ : S.T gd = .raw (.bool t)) (h1 : t = want → aOps P tkr ops K i os S) (h2 : t = !want → aOps P tkr ops K i os S) : aOps P tkr ops K i os S := by
  by_cases h : t = want
  · exact h1 h
  · exact h2 (by cases t <;> cases want <;> simp_all)
/-- One whose guard was itself not carried out. -/
theorem o_skip {j : Nat} {want : Bool} {gd d' : Nat} (hg : o.guard = some (j, want)) (hj : (ops[j]?).bind (·.dst) = some gd) (ht : T gd = .raw undef) (hd : o.dst = some d')
    (no : aOps P tkr ops K (i + 1) rest ⟨setT T d' (.raw undef), M⟩) : aOps P tkr ops K i (o :: rest) ⟨T, M⟩ := by
  show aGuard ops T o _ _
  unfold aGuard
  rw [hg]
  simp only [hj, ht, hd]
  exact no
/-- Either way. -/
theorem d_cases {j : Nat} {gd : Nat} {t : Bool} {S : St} {want : Bool} {p : PStep} (_ : (ops[j]?).bind (·.dst) = some gd) (_ : S.T gd = .raw (.bool t)) (h1 : t = want → aDraw P tkr ops K (p :: plan) H S) (h2 : t = !want → aDraw P tkr ops K (p :: plan) H S) : aDraw P tkr ops K (p :: plan) H S := by
  by_cases h : t = want
  · exact h1 h
  · exact h2 (by cases t <;> cases want <;> simp_all)

/-! ### More on integers -/

theorem q_rem {ty' : TypeId} (hx : ev T x = .raw (.int k a)) (hy : ev T y = .raw (.int k b)) (h0 : b ≠ 0) : qstep P none (mkO dst (.binOp .rem ty₁ x y ty') ty pos af g) T M = some (⟨none, .raw (.int k (a.tmod b))⟩, []) := by
  refine q_bin' hx hy ?_
  have h : pr P (binOp .rem ty₁ (.int k a) (.int k b)) = some (.int k (a.tmod b)) := by
    have e : binOp .rem ty₁ (.int k a) (.int k b) = Op.intDiv .rem k a b := by cases k <;> rfl
    rw [e]
    unfold Op.intDiv
    rw [if_neg h0]
    rfl
  show (pr P (binOp .rem ty₁ (.int k a) (.int k b))).map AVal.raw = _
  rw [h]; rfl

theorem q_neg (hx : ev T x = .raw (.int k a)) (hw : k.wrap (-a) = -a) : qstep P none (mkO dst (.unOp .neg ty₁ x) ty pos af g) T M = some (⟨none, .raw (.int k (-a))⟩, []) := by
  simp only [qstep, aop, hx, raw1]
  have h : pr P (Op.unary .neg (.int k a)) = some (.int k (-a)) := by
    show some (Value.int k (k.wrap (0 - a))) = _
    rw [Int.zero_sub, hw]
  rw [h]; rfl

end
end Go.Am

/-! The walk: several results; strings and bytes; bits. -/
namespace Go.Am
set_option linter.unusedSimpArgs false
set_option linter.unusedSectionVars false

section
variable {P : Program} {tkr : Nat → Option Nat} {ops : Array Oper} {K : St → Prop} {i : Nat} {rest : List Oper} {d : Nat} {V X : AVal} {T : Nat → AVal} {M : Mem} {ty t₁ t₂ : TypeId} {pos : String} {af : Array Edge} {x y z : Operand} {g : Option (Nat × Bool)} {dst : Option Nat} {a b : Int} {k : IntKind}

/-! ### Results -/

def RL (P : Program) (T : Nat → AVal) (M : Mem) (rs : List ResultVar) (Vs : List AVal) : Prop := rs.mapM (aRes1 P ⟨T, M⟩) = some Vs

theorem rl_nil : RL P T M [] [] := rfl
theorem rl_t {t : Nat} {rs : List ResultVar} {Vs : List AVal} (hV : T t = V) (h : RL P T M rs Vs) : RL P T M (.tmp t :: rs) (V :: Vs) := by
  unfold RL at *
  rw [List.mapM_cons, h]
  subst hV; rfl
theorem ret_many {fn : Func} {rs : List ResultVar} {Vs : List AVal} {Post : AVal → Mem → Prop} {e : Exit} (he : e = .ret ∨ e = .normal) (hr : fn.results.toList = rs) (h : RL P T M rs Vs) (hn : Nat.beq rs.length 1 = false) (hp : Post (.tup Vs) M) : aRet P fn Post e ⟨T, M⟩ := by
  have : aResults P ⟨T, M⟩ fn.results.toList = some (.tup Vs) := by
    rw [hr]
    unfold RL at h
    match rs, h, hn with
    | [], h, _ => simp only [aResults, h, Option.map_some]
    | x :: y :: zs, h, _ => simp only [aResults, h, Option.map_some]
  rcases he with rfl | rfl
  · show (match aResults P ⟨T, M⟩ fn.results.toList with | some r => Post r M | none => False)
    rw [this]; exact hp
  · show (match aResults P ⟨T, M⟩ fn.results.toList with | some r => Post r M | none => False)
    rw [this]; exact hp
/-! ### Strings -/

theorem q_lens {ats : Array TypeId} {t : TypeId} {s : ByteArray} (h0 : ats[0]? = some t) (hu : P.underlying t = some .string) (hx : ev T x = .raw (.string s)) : qstep P none (mkO dst (.call { callee := .builtin .len, args := #[x], argTypes := ats }) ty pos af g) T M = some (⟨none, .raw (.int .i64 s.size)⟩, []) := by
  have e : aop P T M ty (.call { callee := .builtin .len, args := #[x], argTypes := ats }) = some (.raw (.int .i64 s.size)) := by
    simp only [aop, List.map, aBuiltin, hx]
    have : pr P (Builtin.len_ ats ty #[.string s]) = some (.int .i64 s.size) := by
      unfold Builtin.len_
      simp only [h0]
      show pr P ((underlying t) >>= _) = _
      rw [pr_b, pr_underlying hu]; rfl
    rw [this]; rfl
  have e2 : readsOf T (.call { callee := .builtin .len, args := #[x], argTypes := ats }) = [] := by simp only [readsOf, List.map, hx]
  show (aop P T M ty (.call { callee := .builtin .len, args := #[x], argTypes := ats })).map _ = _
  rw [e, Option.map_some, e2]; rfl

theorem q_lenr {ats : Array TypeId} {t e : TypeId} {p : Option Addr} {n c : Nat} (h0 : ats[0]? = some t) (hu : P.underlying t = some (.slice e)) (hx : ev T x = .raw (.slice p n c)) : qstep P none (mkO dst (.call { callee := .builtin .len, args := #[x], argTypes := ats }) ty pos af g) T M = some (⟨none, .raw (.int .i64 n)⟩, []) := by
  have e : aop P T M ty (.call { callee := .builtin .len, args := #[x], argTypes := ats }) = some (.raw (.int .i64 n)) := by
    simp only [aop, List.map, aBuiltin, hx]
    have : pr P (Builtin.len_ ats ty #[.slice p n c]) = some (.int .i64 n) := by
      unfold Builtin.len_
      simp only [h0]
      show pr P ((underlying t) >>= _) = _
      rw [pr_b, pr_underlying hu]; rfl
    rw [this]; rfl
  have e2 : readsOf T (.call { callee := .builtin .len, args := #[x], argTypes := ats }) = [] := by simp only [readsOf, List.map, hx]
  show (aop P T M ty (.call { callee := .builtin .len, args := #[x], argTypes := ats })).map _ = _
  rw [e, Option.map_some, e2]; rfl

theorem q_b2s {s' d' : TypeId} {b o n c : Nat} {l : List AVal} {W : AVal} (hb : b2s P s' d' = true) (hx : ev T x = .raw (.slice (some ⟨b, o, none⟩) n c)) (hM : M b = some (.cells l)) (hl : o + n ≤ l.length) (hs : aStr ((l.drop o).take n) = some W) (hW : W.shut = V) :
    qstep P none (mkO dst (.convert s' d' x) ty pos af g) T M = some (⟨none, V⟩, [b]) := by
  subst hW
  simp only [qstep, aop, hx, aConvert, hM, hb, hl, and_self, if_true, hs, Option.map_some, readsOf]

theorem mapM_u8l : ∀ bs : List UInt8, (bs.map fun b => AVal.raw (.int .u8 b.toNat)).mapM u8of = some bs
  | [] => rfl
  | b :: bs => by
    rw [List.map_cons, List.mapM_cons, mapM_u8l bs]
    have : u8of (.raw (.int .u8 (b.toNat : Int))) = some b := by
      show some (UInt8.ofNat ((b.toNat : Int).toNat)) = _
      simp
    rw [this]; rfl

/-! ### Bits -/

end
end Go.Am

/-! The walk: slices held against nil, strings ranged over, parts of several results that may be appended to; least and greatest. -/
namespace Go.Am
set_option linter.unusedSimpArgs false
set_option linter.unusedVariables false
set_option linter.unusedSectionVars false

section
variable {P : Program} {tkr : Nat → Option Nat} {ops : Array Oper} {K : St → Prop} {i : Nat} {rest : List Oper} {d : Nat} {V X : AVal} {T : Nat → AVal} {M : Mem} {ty t₁ t₂ : TypeId} {pos : String} {af : Array Edge} {x y z : Operand} {g : Option (Nat × Bool)} {dst : Option Nat} {a b : Int} {k : IntKind}

theorem q_max {ats : Array TypeId} (hx : ev T x = .raw (.int k a)) (hy : ev T y = .raw (.int k b)) : qstep P none (mkO dst (.call { callee := .builtin .max, args := #[x, y], argTypes := ats }) ty pos af g) T M = some (⟨none, .raw (.int k (max a b))⟩, []) := by
  have e : aop P T M ty (.call { callee := .builtin .max, args := #[x, y], argTypes := ats }) = some (.raw (.int k (max a b))) := by
    have h : pr P (Builtin.max_ ats ty #[.int k a, .int k b]) = some (.int k (if b > a then b else a)) := rfl
    have hm : (if b > a then b else a) = max a b := by split <;> omega
    rw [hm] at h
    simp only [aop, List.map, aBuiltin, hx, hy, rawsOf, List.mapM_cons, List.mapM_nil, rawOf, Option.bind_eq_bind, Option.bind_some, Option.pure_def, h, Option.map_some]
  show (aop P T M ty (.call { callee := .builtin .max, args := #[x, y], argTypes := ats })).map _ = _
  rw [e]; rfl

theorem q_min {ats : Array TypeId} (hx : ev T x = .raw (.int k a)) (hy : ev T y = .raw (.int k b)) : qstep P none (mkO dst (.call { callee := .builtin .min, args := #[x, y], argTypes := ats }) ty pos af g) T M = some (⟨none, .raw (.int k (min a b))⟩, []) := by
  have e : aop P T M ty (.call { callee := .builtin .min, args := #[x, y], argTypes := ats }) = some (.raw (.int k (min a b))) := by
    have h : pr P (Builtin.min_ ats ty #[.int k a, .int k b]) = some (.int k (if b < a then b else a)) := rfl
    have hm : (if b < a then b else a) = min a b := by split <;> omega
    rw [hm] at h
    simp only [aop, List.map, aBuiltin, hx, hy, rawsOf, List.mapM_cons, List.mapM_nil, rawOf, Option.bind_eq_bind, Option.bind_some, Option.pure_def, h, Option.map_some]
  show (aop P T M ty (.call { callee := .builtin .min, args := #[x, y], argTypes := ats })).map _ = _
  rw [e]; rfl

/-! ### Pieces of slices -/

/-- A piece of a list. -/
theorem q_slice {st e : TypeId} {sz n m : Nat} {l : List AVal} {own : Bool} {lo hi : Option Operand} (hu : P.underlying st = some (.slice e)) (hs : sizeT P e = some sz) (hx : ev T x = .sl l own) (hl : Els sz l)
    (hlo : aBound T 0 lo = some n) (hhi : aBound T l.length hi = some m) (h1 : n ≤ m) (h2 : m ≤ l.length) : qstep P none (mkO dst (.slice st x lo hi none) ty pos af g) T M = some (⟨none, .sl ((l.take m).drop n) false⟩, []) := by
  have e1 : (l.all fun V => V.cells.length == sz) = true := List.all_eq_true.2 fun V hV => by simp [(hl V hV).2]
  have e : aop P T M ty (.slice st x lo hi none) = some (.sl ((l.take m).drop n) false) := by
    have hm : aBound T l.length none = some l.length := rfl
    simp only [aop, hx, aSlice, hu, hs, e1, if_true, hlo, hhi, hm]
    simp [h1, h2]
  show (aop P T M ty (.slice st x lo hi none)).map _ = _
  rw [e]; rfl
theorem ab_none {d : Nat} : aBound T d none = some d := rfl
theorem ab {d n : Nat} (hx : ev T x = .raw (.int k a)) (ha : a = (n : Int)) : aBound T d (some x) = some n := by
  subst ha
  simp only [aBound, hx]
  rw [if_pos (Int.natCast_nonneg n)]
  simp

/-! ### What is left in memory, told otherwise -/

end
end Go.Am
