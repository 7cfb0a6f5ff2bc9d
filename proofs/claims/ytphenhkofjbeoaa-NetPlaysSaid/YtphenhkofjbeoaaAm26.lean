import Derived.Test.YtphenhkofjbeoaaAm25
namespace Go.Am
set_option linter.unusedSimpArgs false

def freeD (ops : Array Oper) (tk : Nat → Option Nat) (listed : Array Bool) (i : Nat) : Bool :=
  match ops[i]? with
  | none => false
  | some oi => (List.range ops.size).all fun j => j == i || listed.getD j true || match ops[j]? with
    | some oj => waitsOn oj i || apartD ops tk i j oi oj
    | none => true

/-- What is asked of a plan. -/
def planB (ops : Array Oper) (tk : Nat → Option Nat) : List PStep → Array Bool → List Nat → Bool
  | [], listed, _ => (Region.ready .any ops listed).isEmpty
  | .q i :: rest, listed, taken => (Region.ready .any ops listed).contains i && freeD ops tk listed i && planB ops tk rest (listed.setIfInBounds i true) (i :: taken)
  | .c i :: rest, listed, taken => (Region.ready .any ops listed).contains i && freeD ops tk listed i && planB ops tk rest (listed.setIfInBounds i true) (i :: taken)
  | .s i ks :: rest, listed, taken => (Region.ready .any ops listed == [i]) && (taken.all fun k => ks.contains k || match ops[i]? with | some o => waitsOn o k | none => false) && planB ops tk rest (listed.setIfInBounds i true) taken

def aDraw (P : Program) (tk : Nat → Option Nat) (ops : Array Oper) (Q : St → Prop) : List PStep → List (Nat × Nat) → St → Prop
  | [], _, S => Q S
  | .q i :: rest, H, S =>
    (match ops[i]? with
    | some o => aGuard ops S.T o (match qstep P (tk i) o S.T S.M with | some (q, B) => aDraw P tk ops Q rest (B.map (fun b => (i, b)) ++ H) (q.app S o.dst) | none => False) (aDraw P tk ops Q rest H (S.put o.dst (.raw undef)))
    | none => False)
  | .c i :: rest, H, S =>
    (match ops[i]? with
    | some o => aGuard ops S.T o (∃ q B, Quiet P (tk i) o S.T S.M q B ∧ aDraw P tk ops Q rest (B.map (fun b => (i, b)) ++ H) (q.app S o.dst)) (aDraw P tk ops Q rest H (S.put o.dst (.raw undef)))
    | none => False)
  | .s i ks :: rest, H, S => aOp P tk ops i S fun S' => (∀ p ∈ H, p.1 ∈ ks → S'.M p.2 = S.M p.2) ∧ aDraw P tk ops Q rest H S'

section
variable {P : Program} {ops : Array Oper} {tk : Nat → Option Nat}

theorem aGuard_cases {T : Nat → AVal} {o : Oper} {y n : Prop} (h : aGuard ops T o y n) : (y ∧ ∀ y' n' : Prop, y' → aGuard ops T o y' n') ∨ (n ∧ ∀ y' n' : Prop, n' → aGuard ops T o y' n') := by
  unfold aGuard at h ⊢
  split at h
  · exact .inl ⟨h, fun _ _ hy => hy⟩
  · rename_i j want hgd
    split at h
    · split at h
      · rename_i t ht
        by_cases e : t = want
        · exact .inl ⟨h.1 e, fun _ _ hy => ⟨fun _ => hy, fun e' => by subst e; cases t <;> cases e'⟩⟩
        · have e' : t = !want := by cases t <;> cases want <;> simp_all
          exact .inr ⟨h.2 e', fun _ _ hn => ⟨fun e'' => absurd e'' e, fun _ => hn⟩⟩
      · exact .inr ⟨h, fun _ _ hn => hn⟩
      · exact h.elim
    · exact h.elim

theorem freeD_spec {listed : Array Bool} {i : Nat} {oi : Oper} (hi : ops[i]? = some oi) (h : freeD ops tk listed i = true) (j : Nat) (oj : Oper) (hj : ops[j]? = some oj) (hne : j ≠ i) (hun : listed.getD j true = false) (hw : waitsOn oj i = false) :
    apartD ops tk i j oi oj = true := by
  unfold freeD at h
  rw [hi] at h
  have hlt : j < ops.size := by
    rcases Nat.lt_or_ge j ops.size with h' | h'
    · exact h'
    · rw [Array.getElem?_eq_none h'] at hj; cases hj
  have := List.all_eq_true.1 h j (List.mem_range.2 hlt)
  rw [hj, hun] at this
  simpa [hne, hw] using this

theorem aDraw_any {Q : St → Prop} : ∀ (plan : List PStep) (listed : Array Bool) (taken : List Nat) (H : List (Nat × Nat)) (S : St), planB ops tk plan listed taken = true → (∀ p ∈ H, p.1 ∈ taken) → aDraw P tk ops Q plan H S → aAny P tk ops Q H plan.length listed S
  | [], listed, taken, H, S, hb, _, h => ⟨by simpa [planB] using hb, h⟩
  | .q i :: rest, listed, taken, H, S, hb, ht, h => by
    simp only [planB, Bool.and_eq_true] at hb
    obtain ⟨⟨hr, hf⟩, hb⟩ := hb
    simp only [aDraw] at h
    split at h
    · rename_i o ho
      have fin : ∀ (q : QEff) (B : List Nat), (q.lz = none ∨ q.lz = lzOf (tk i) o) → Comes P tk ops i o S q B → aDraw P tk ops Q rest (B.map (fun b => (i, b)) ++ H) (q.app S o.dst) → aAny P tk ops Q H (PStep.q i :: rest).length listed S := fun q B hq hc hd =>
        aAny_first ho hq rest.length listed S (fun j oj hj hne hun hw => freeD_spec ho hf j oj hj hne hun hw) (by simpa using hr) hc
          (aDraw_any rest _ (i :: taken) _ _ hb (fun p hp => by
            rcases List.mem_append.1 hp with hp | hp
            · obtain ⟨b, -, rfl⟩ := List.mem_map.1 hp; simp
            · simp [ht p hp]) hd)
      rcases aGuard_cases h with ⟨hy, hg⟩ | ⟨hn, hg⟩
      · split at hy
        · rename_i q B hq
          have hQ := quiet_qstep hq
          exact fin q B hQ.1 (hg _ _ hQ) hy
        · exact hy.elim
      · exact fin ⟨none, .raw undef⟩ [] (.inl rfl) (hg _ _ rfl) hn
    · exact h.elim
  | .c i :: rest, listed, taken, H, S, hb, ht, h => by
    simp only [planB, Bool.and_eq_true] at hb
    obtain ⟨⟨hr, hf⟩, hb⟩ := hb
    simp only [aDraw] at h
    split at h
    · rename_i o ho
      have fin : ∀ (q : QEff) (B : List Nat), (q.lz = none ∨ q.lz = lzOf (tk i) o) → Comes P tk ops i o S q B → aDraw P tk ops Q rest (B.map (fun b => (i, b)) ++ H) (q.app S o.dst) → aAny P tk ops Q H (PStep.c i :: rest).length listed S := fun q B hq hc hd =>
        aAny_first ho hq rest.length listed S (fun j oj hj hne hun hw => freeD_spec ho hf j oj hj hne hun hw) (by simpa using hr) hc
          (aDraw_any rest _ (i :: taken) _ _ hb (fun p hp => by
            rcases List.mem_append.1 hp with hp | hp
            · obtain ⟨b, -, rfl⟩ := List.mem_map.1 hp; simp
            · simp [ht p hp]) hd)
      rcases aGuard_cases h with ⟨hy, hg⟩ | ⟨hn, hg⟩
      · obtain ⟨q, B, hQ, hd⟩ := hy
        exact fin q B hQ.1 (hg _ _ hQ) hd
      · exact fin ⟨none, .raw undef⟩ [] (.inl rfl) (hg _ _ rfl) hn
    · exact h.elim
  | .s i ks :: rest, listed, taken, H, S, hb, ht, h => by
    simp only [planB, Bool.and_eq_true, beq_iff_eq] at hb
    obtain ⟨⟨hr, hk⟩, hb⟩ := hb
    simp only [aDraw] at h
    show aAny P tk ops Q H (rest.length + 1) listed S
    refine ⟨fun h0 => (by rw [hr] at h0; cases h0), fun j hj => ?_⟩
    rw [hr] at hj
    obtain rfl := List.mem_singleton.1 hj
    refine aOp_mono (fun S' hS => ⟨fun p hp hw => ?_, aDraw_any rest _ taken H S' hb ht hS.2⟩) h
    refine hS.1 p hp ?_
    have := List.all_eq_true.1 hk p.1 (ht p hp)
    cases ho : ops[j]? with
    | none => rw [ho] at this; simpa using this
    | some o =>
      rw [ho] at this
      have hw' := hw o ho
      simpa [hw'] using this

variable {κ : Ghost} {w : World} {a : Act}

theorem aGuard_sound {T : Nat → AVal} {M : Mem} {o : Oper} {yes no : Prop} (h : Holds P κ T (tv a) M w) (hg : aGuard ops T o yes no) : (Region.wanted o (yielded ops a.tmps) = true ∧ yes) ∨ (Region.wanted o (yielded ops a.tmps) = false ∧ no) := by
  unfold aGuard at hg
  split at hg
  · rename_i hgd
    left
    exact ⟨by unfold Region.wanted; rw [hgd], hg⟩
  · rename_i j want hgd
    split at hg
    · rename_i d hd
      split at hg
      · rename_i t ht
        have h1 := h.tmp d
        rw [ht] at h1
        have h2 : tv a d = .bool t := rep_raw h1
        have h3 : a.tmps[d]? = some (.bool t) := by
          have : a.tmps.getD d undef = .bool t := h2
          rw [Array.getD_eq_getD_getElem?] at this
          cases hx : a.tmps[d]? with
          | none => rw [hx] at this; cases this
          | some v => rw [hx] at this; simp only [Option.getD_some] at this; rw [this]
        have hy : yielded ops a.tmps j = some t := by
          unfold yielded
          rw [hd]
          simp only [Option.bind_some, h3]
        have hw : Region.wanted o (yielded ops a.tmps) = (t == want) := by
          unfold Region.wanted
          rw [hgd]
          simp only [hy]
          cases t <;> cases want <;> rfl
        rw [hw]
        by_cases e : t = want
        · exact .inl ⟨by simp [e], hg.1 e⟩
        · exact .inr ⟨by simp [e], hg.2 (by cases t <;> cases want <;> simp_all)⟩
      · rename_i v hnb ht
        have h1 := h.tmp d
        rw [ht] at h1
        have h2 : tv a d = v := rep_raw h1
        refine .inr ⟨?_, hg⟩
        have hy : yielded ops a.tmps j = none := by
          unfold yielded
          rw [hd]
          simp only [Option.bind_some]
          cases hx : a.tmps[d]? with
          | none => rfl
          | some u =>
            have : a.tmps.getD d undef = v := h2
            rw [Array.getD_eq_getD_getElem?, hx] at this
            simp only [Option.getD_some] at this
            subst this
            cases u <;> first | rfl | exact (hnb _ rfl).elim
        unfold Region.wanted
        rw [hgd]
        simp only [hy]
        rfl
      · exact hg.elim
    · exact hg.elim

theorem Next.trans {κ' : Ghost} {w' : World} {a' : Act} {K : St → Prop} {a'' : Act} {w'' : World} (hk : Keep κ w κ' w') (hs : a'.tmps.size = a.tmps.size) (hd : a'.defers = a.defers) (h : Next P κ' w' a' K a'' w'') : Next P κ w a K a'' w'' := by
  obtain ⟨κ2, S2, h1, h2, h3, h4, h5⟩ := h
  exact ⟨κ2, S2, h1, h2, hk.trans h3, h4.trans hs, h5.trans hd⟩

theorem aOp_sound {Q : Exit → Act → World → Prop} {i : Nat} {S : St} {K : St → Prop} (hB : ∀ o, ops[i]? = some o → stepB a.tmps.size o = true ∧ zeroB P o = true) (h : Holds P κ S.T (tv a) S.M w) (hs : aOp P tk ops i S K) : wpOp P ops Q i (Next P κ w a K) a w := by
  unfold aOp at hs
  unfold wpOp
  split at hs
  · rename_i ho
    rw [ho]
    exact ⟨κ, S, hs, h, Keep.refl κ w, rfl, rfl⟩
  · rename_i o ho
    rw [ho]
    dsimp only
    obtain ⟨hb1, hb2⟩ := hB o ho
    rcases aGuard_sound h hs with ⟨hw, hy⟩ | ⟨hw, hn⟩
    · rw [if_pos hw]
      exact .inl (dstep_sound h hb1 hb2 hy)
    · rw [if_neg (by rw [hw]; exact Bool.false_ne_true)]
      have hd := stepB_dst hb1
      refine ⟨κ, _, hn, ?_, Keep.refl κ w, put_size .., put_defers ..⟩
      cases hdst : o.dst with
      | none => exact h
      | some d =>
        rw [tv_put undef (hd d hdst)]
        exact h.put d (.raw _) fun _ _ => Spare.not_free (by simp [AVal.free])

theorem aAny_sound {Q : Exit → Act → World → Prop} {K : St → Prop} {H : List (Nat × Nat)} : ∀ (fuel : Nat) (listed : Array Bool) (κ : Ghost) (w : World) (a : Act) (S : St), (∀ (i : Nat) o, ops[i]? = some o → stepB a.tmps.size o = true ∧ zeroB P o = true) →
    Holds P κ S.T (tv a) S.M w → aAny P tk ops K H fuel listed S → (∀ a' w', Next P κ w a K a' w' → Q .normal a' w') → wpAny P .any ops Q fuel listed a w
  | 0, listed, κ, w, a, S, _, h, hs, hQ => ⟨hs.1, hQ a w ⟨κ, S, hs.2, h, Keep.refl κ w, rfl, rfl⟩⟩
  | fuel + 1, listed, κ, w, a, S, hB, h, hs, hQ => ⟨fun h0 => hQ a w ⟨κ, S, hs.1 h0, h, Keep.refl κ w, rfl, rfl⟩, fun i hi => wpOp_mono (fun a' w' hn => by
      obtain ⟨κ', S', h1, h2, h3, h4, h5⟩ := hn
      exact aAny_sound fuel _ κ' w' a' S' (fun i o ho => by rw [h4]; exact hB i o ho) h2 h1.2 fun a'' w'' hx => hQ a'' w'' (Next.trans h3 h4 h5 hx)) (aOp_sound (hB i) h (hs.2 i hi))⟩

/-- A region that draws its order. -/
theorem aDraw_sound {id : Nat} {K : Exit → St → Prop} {plan : List PStep} {S : St} (hm : P.follows .mixedOrders = true) (hB : ∀ (i : Nat) o, ops[i]? = some o → stepB a.tmps.size o = true ∧ zeroB P o = true) (hlen : plan.length = ops.size) (hp : planB ops tk plan (Array.replicate ops.size false) [] = true)
    (h : Holds P κ S.T (tv a) S.M w) (hs : aDraw P tk ops (K .normal) plan [] S) : (Code.region id ops true).wp P (fun e a' w' => Next P κ w a (K e) a' w') a w := by
  obtain ⟨h1, hk⟩ := h.drawn (w.drawn + 1)
  have hany := aDraw_any plan (Array.replicate ops.size false) [] [] S hp (fun p hp => by cases hp) hs
  rw [hlen] at hany
  exact wp_region_any hm (aAny_sound ops.size _ κ _ a S hB h1 hany fun a' w' hx => Next.trans hk rfl rfl hx)

end

/-- A call that leaves memory as it is, for all that is known of some blocks, is quiet. -/
theorem quiet_call {P : Program} {o : Oper} {T : Nat → AVal} {M : Mem} {F : Operand} {args : Array Operand} {argTypes : Array TypeId} {f : FuncId} {first captured : Array Value} {r : AVal} {B : List Nat} (hop : o.op = .call { callee := .value F, args, argTypes }) (hd : o.dst.isSome = true) (hF : ev T F = .raw (.func (.func f) first captured))
    (hg : goesB P f = true) (hc : ∀ M', (∀ b ∈ B, M b = M' b) → SoundCall P f (first.toList.map .raw ++ aArgs T none 0 args.toList ++ captured.toList.map .raw) M' fun r' M'' => r' = r ∧ M'' = M') : Quiet P none o T M ⟨none, r⟩ B := by
  refine ⟨.inl rfl, fun T' M' hT hM N hN => ?_⟩
  rw [hop] at hT
  simp only [Op.operands] at hT
  unfold estep
  rw [hop]
  dsimp only [eCall]
  rw [← hT F (by simp [Call.operands]), hF]
  refine ⟨hd, hg, trivial, fun r' M'' => r' = r ∧ M'' = M', ?_, ?_⟩
  · rw [← aArgs_congr (T := T) (T' := T') args.toList 0 fun x hx => hT x (by simp [Call.operands]; right; simpa using hx)]
    exact hc M' hM
  · rintro r' M'' ⟨rfl, rfl⟩
    exact hN

end Go.Am
