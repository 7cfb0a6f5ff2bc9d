import Derived.Test.YtikalbdphkmclaaAm26
/-! Regions in the order of the text; code; functions. (The test of the way: regions that draw their order come in between.) -/
namespace Go.Am

def aOps (P : Program) (tk : Nat → Option Nat) (ops : Array Oper) (K : St → Prop) : Nat → List Oper → St → Prop
  | _, [], S => K S
  | i, o :: rest, S => aGuard ops S.T o (dstep P (tk i) o S (aOps P tk ops K (i + 1) rest)) (aOps P tk ops K (i + 1) rest (S.put o.dst (.raw undef)))

def aRounds (F : St → (Exit → St → Prop) → Prop) : Nat → St → (Exit → St → Prop) → Prop
  | 0, _, _ => False
  | n + 1, S, K => F S fun e S' => match e with | .normal => aRounds F n S' K | e => K e S'

/-- A region that draws: by its plan, or, where that is empty, in every order. -/
def aDr (P : Program) (tk : Nat → Option Nat) (ops : Array Oper) (Q : St → Prop) (p : List PStep) (S : St) : Prop :=
  match p with
  | [] => aAny P tk ops Q [] ops.size (Array.replicate ops.size false) S
  | a :: l => aDraw P tk ops Q (a :: l) [] S

def aCode (P : Program) (tk : Nat → Nat → Option Nat) (pl : Nat → List PStep) : Code → St → (Exit → St → Prop) → Prop
  | .skip, S, K => K .normal S
  | .region id ops false, S, K => aOps P (tk id) ops (K .normal) 0 ops.toList S
  | .region id ops true, S, K => aDr P (tk id) ops (K .normal) (pl id) S
  | .seq x y, S, K => aCode P tk pl x S fun e S' => match e with | .normal => aCode P tk pl y S' K | e => K e S'
  | .cond c x y, S, K => (match ev S.T c with | .raw (.bool t) => (t = true → aCode P tk pl x S K) ∧ (t = false → aCode P tk pl y S K) | _ => False)
  | .block id c, S, K => aCode P tk pl c S fun e S' => match e with | .exit id' => if id' = id then K .normal S' else K (.exit id') S' | e => K e S'
  | .loop c, S, K => ∃ n, aRounds (aCode P tk pl c) n S K
  | .exit id, S, K => K (.exit id) S
  | .ret, S, K => K .ret S
  | .label _, S, K => K .normal S
  | .goto l, S, K => K (.goto l) S
  | _, _, _ => False

def codeB (P : Program) (n : Nat) (tk : Nat → Nat → Option Nat) (pl : Nat → List PStep) : Code → Bool
  | .region id ops draw => (ops.toList.all fun o => stepB n o && zeroB P o) && (!draw || (pl id).isEmpty || ((pl id).length == ops.size && planB ops (tk id) (pl id) (Array.replicate ops.size false) []))
  | .seq x y => codeB P n tk pl x && codeB P n tk pl y
  | .cond _ x y => codeB P n tk pl x && codeB P n tk pl y
  | .block _ c => codeB P n tk pl c
  | .loop c => codeB P n tk pl c
  | _ => true

theorem aAll_sound {P : Program} {ops : Array Oper} {tk : Nat → Option Nat} {κ : Ghost} {w : World} {a : Act} {id : Nat} {K : Exit → St → Prop} {S : St} (hm : P.follows .mixedOrders = true) (hB : ∀ (i : Nat) o, ops[i]? = some o → stepB a.tmps.size o = true ∧ zeroB P o = true)
    (h : Holds P κ S.T (tv a) S.M w) (hs : aAny P tk ops (K .normal) [] ops.size (Array.replicate ops.size false) S) : (Code.region id ops true).wp P (fun e a' w' => Next P κ w a (K e) a' w') a w := by
  obtain ⟨h1, hk⟩ := h.drawn (w.drawn + 1)
  exact wp_region_any hm (aAny_sound ops.size _ κ _ a S hB h1 hs fun a' w' hx => Next.trans hk rfl rfl hx)

/-- Behind code. -/
def Post (P : Program) (κ : Ghost) (w : World) (a : Act) (K : Exit → St → Prop) : Exit → Act → World → Prop := fun e a' w' => Next P κ w a (K e) a' w'

section
variable {P : Program} {κ : Ghost} {w : World} {a : Act}

theorem aOps_sound {tk : Nat → Option Nat} {ops : Array Oper} {Q : Exit → Act → World → Prop} : ∀ (rest : List Oper) (i : Nat) (κ : Ghost) (w : World) (a : Act) (S : St) (K : St → Prop), (∀ j : Nat, rest[j]? = ops[i + j]?) → (∀ o ∈ rest, stepB a.tmps.size o = true ∧ zeroB P o = true) →
    Holds P κ S.T (tv a) S.M w → aOps P tk ops K i rest S → (∀ a' w', Next P κ w a K a' w' → Q .normal a' w') → wpOps P ops Q (List.range' i rest.length) a w
  | [], i, κ, w, a, S, K, _, _, h, hs, hQ => hQ a w ⟨κ, S, hs, h, Keep.refl κ w, rfl, rfl⟩
  | o :: rest, i, κ, w, a, S, K, hops, hB, h, hs, hQ => by
    have ho : ops[i]? = some o := by have := hops 0; simpa using this.symm
    have hrest : ∀ j : Nat, rest[j]? = ops[i + 1 + j]? := fun j => by
      have := hops (j + 1)
      rw [List.getElem?_cons_succ] at this
      rw [this]; congr 1; omega
    obtain ⟨hb1, hb2⟩ := hB o (by simp)
    simp only [List.length_cons, List.range'_succ, wpOps, ho]
    rcases aGuard_sound h hs with ⟨hw, hy⟩ | ⟨hw, hn⟩
    · rw [if_pos hw]
      left
      refine Oper.wp_mono (fun a' w' hn => ?_) (dstep_sound (Q := Q) h hb1 hb2 hy)
      obtain ⟨κ', S', h1, h2, h3, h4, h5⟩ := hn
      exact aOps_sound rest (i + 1) κ' w' a' S' K hrest (fun o ho => by rw [h4]; exact hB o (by simp [ho])) h2 h1 fun a'' w'' hx => hQ a'' w'' (Next.trans h3 h4 h5 hx)
    · rw [if_neg (by rw [hw]; exact Bool.false_ne_true)]
      have hd := stepB_dst hb1
      have h1 : Holds P κ (S.put o.dst (.raw undef)).T (tv (a.put o.dst undef)) (S.put o.dst (.raw undef)).M w := by
        cases hdst : o.dst with
        | none => exact h
        | some d =>
          rw [tv_put undef (hd d hdst)]
          exact h.put d (.raw _) fun _ _ => Spare.not_free (by simp [AVal.free])
      exact aOps_sound rest (i + 1) κ w (a.put o.dst undef) _ K hrest (fun o' ho => by rw [put_size]; exact hB o' (by simp [ho])) h1 hn fun a'' w'' hx => hQ a'' w'' (Next.trans (Keep.refl κ w) (put_size ..) (put_defers ..) hx)

theorem aCode_sound (hm : P.follows .mixedOrders = true) {tk : Nat → Nat → Option Nat} {pl : Nat → List PStep} : ∀ (c : Code) (κ : Ghost) (w : World) (a : Act) (S : St) (K : Exit → St → Prop), codeB P a.tmps.size tk pl c = true → Holds P κ S.T (tv a) S.M w → aCode P tk pl c S K → c.wp P (Post P κ w a K) a w := by
  intro c
  induction c with
  | skip => exact fun κ w a S K _ h hs => Go.wp_skip ⟨κ, S, hs, h, Keep.refl κ w, rfl, rfl⟩
  | region id ops draw =>
    intro κ w a S K hb h hs
    simp only [codeB, Bool.and_eq_true] at hb
    have hB : ∀ o ∈ ops.toList, stepB a.tmps.size o = true ∧ zeroB P o = true := fun o ho => by
      have := List.all_eq_true.1 hb.1 o ho
      simpa using this
    cases draw with
    | true =>
      have h2 := hb.2
      have hs' : aDr P (tk id) ops (K .normal) (pl id) S := hs
      cases hp : pl id with
      | nil =>
        rw [hp] at hs'
        exact aAll_sound (K := K) hm (fun i o ho => hB o (Array.mem_toList_iff.2 (Array.mem_of_getElem? ho))) h hs'
      | cons p l =>
        rw [hp] at hs' h2
        simp only [Bool.not_true, Bool.false_or, List.isEmpty_cons, Bool.and_eq_true, beq_iff_eq] at h2
        exact aDraw_sound (K := K) hm (fun i o ho => hB o (Array.mem_toList_iff.2 (Array.mem_of_getElem? ho))) h2.1 h2.2 h hs'
    | false =>
      refine wp_region ?_
      have := aOps_sound (P := P) (Q := Post P κ w a K) ops.toList 0 κ w a S (K .normal) (fun j => by simp) hB h hs (fun a' w' hx => hx)
      rw [Array.length_toList, ← List.range_eq_range'] at this
      exact this
  | seq x y ihx ihy =>
    intro κ w a S K hb h hs
    simp only [codeB, Bool.and_eq_true] at hb
    refine wp_seq (wp_mono (ihx κ w a S _ hb.1 h hs) fun e a' w' hp => ?_)
    obtain ⟨κ', S', h1, h2, h3, h4, h5⟩ := hp
    cases e with
    | normal => exact wp_mono (ihy κ' w' a' S' K (by rw [h4]; exact hb.2) h2 h1) fun e a'' w'' hx => Next.trans h3 h4 h5 hx
    | _ => exact ⟨κ', S', h1, h2, h3, h4, h5⟩
  | cond c x y ihx ihy =>
    intro κ w a S K hb h hs
    simp only [codeB, Bool.and_eq_true] at hb
    simp only [aCode] at hs
    split at hs
    · rename_i t ht
      have hc := ev_rep h.tmp c
      rw [ht] at hc
      exact wp_cond_split (rep_raw hc) (fun e => ihx κ w a S K hb.1 h (hs.1 e)) (fun e => ihy κ w a S K hb.2 h (hs.2 e))
    · exact hs.elim
  | block id c ih =>
    intro κ w a S K hb h hs
    refine wp_block (wp_mono (ih κ w a S _ hb h hs) fun e a' w' hp => ?_)
    obtain ⟨κ', S', h1, h2, h3, h4, h5⟩ := hp
    cases e with
    | exit id' =>
      simp only [Exit.inBlock]
      by_cases e : id' = id
      · rw [if_pos e]; simp only [e, if_true] at h1; exact ⟨κ', S', h1, h2, h3, h4, h5⟩
      · rw [if_neg e]; simp only [if_neg e] at h1; exact ⟨κ', S', h1, h2, h3, h4, h5⟩
    | _ => exact ⟨κ', S', h1, h2, h3, h4, h5⟩
  | loop c ih =>
    intro κ w a S K hb h hs
    obtain ⟨n, hn⟩ := hs
    refine wp_loop_rounds n ?_
    have key : ∀ n κ' w' a' S', a'.tmps.size = a.tmps.size → a'.defers = a.defers → Keep κ w κ' w' → Holds P κ' S'.T (tv a') S'.M w' → aRounds (aCode P tk pl c) n S' K → Code.rounds P c (Post P κ w a K) n a' w' := by
      intro n
      induction n with
      | zero => exact fun _ _ _ _ _ _ _ _ h => h.elim
      | succ n ihn =>
        intro κ' w' a' S' h1 h2 h3 h4 h5
        rw [rounds_succ]
        refine wp_mono (ih κ' w' a' S' _ (by rw [h1]; exact hb) h4 h5) fun e a'' w'' hp => ?_
        obtain ⟨κ2, S2, g1, g2, g3, g4, g5⟩ := hp
        cases e with
        | normal => exact ihn κ2 w'' a'' S2 (g4.trans h1) (g5.trans h2) (h3.trans g3) g2 g1
        | _ => exact ⟨κ2, S2, g1, g2, h3.trans g3, g4.trans h1, g5.trans h2⟩
    exact key n κ w a S rfl rfl (Keep.refl κ w) h hn
  | exit id => exact fun κ w a S K _ h hs => wp_exit ⟨κ, S, hs, h, Keep.refl κ w, rfl, rfl⟩
  | ret => exact fun κ w a S K _ h hs => wp_ret ⟨κ, S, hs, h, Keep.refl κ w, rfl, rfl⟩
  | label l => exact fun κ w a S K _ h hs => wp_label ⟨κ, S, hs, h, Keep.refl κ w, rfl, rfl⟩
  | goto l => exact fun κ w a S K _ h hs => wp_goto ⟨κ, S, hs, h, Keep.refl κ w, rfl, rfl⟩
  | rangeFunc f ps x y _ _ => exact fun κ w a S K _ h hs => hs.elim
  | scope b _ => exact fun κ w a S K _ h hs => hs.elim
  | refuse why => exact fun κ w a S K _ h hs => hs.elim

end
end Go.Am
