import Derived.Test.YtphenhkofjbeoaaAm27
import Derived.ScopeJumps
set_option linter.unusedSimpArgs false
set_option linter.unusedVariables false
/-! Regions in the order of the text; code; functions. (The test of the way: regions that draw their order come in between.) -/
namespace Go.Am

def aOps (P : Program) (tk : Nat → Option Nat) (ops : Array Oper) (K : St → Prop) : Nat → List Oper → St → Prop
  | _, [], S => K S
  | i, o :: rest, S => aGuard ops S.T o (dstep P (tk i) o S (aOps P tk ops K (i + 1) rest)) (aOps P tk ops K (i + 1) rest (S.put o.dst (.raw undef)))

/-- The same, with pairs of operations that are taken at one go. -/
def aSeg (P : Program) (tk : Nat → Option Nat) (ops : Array Oper) (K : St → Prop) : Nat → Nat → List Oper → St → Prop
  | 0, i, l, S => aOps P tk ops K i l S
  | n + 1, i, l, S => ∃ pre o o' rest s off, l = pre ++ o :: o' :: rest ∧ aOps P tk ops (aFuse P s off o o' (aSeg P tk ops K n (i + pre.length + 2) rest)) i pre S

def aRounds (F : St → (Exit → St → Prop) → Prop) : Nat → St → (Exit → St → Prop) → Prop
  | 0, _, _ => False
  | n + 1, S, K => F S fun e S' => match e with | .normal => aRounds F n S' K | e => K e S'

/-- A region that draws: by its plan, or, where that is empty, in every order. -/
def aDr (P : Program) (tk : Nat → Option Nat) (ops : Array Oper) (Q : St → Prop) (p : List PStep) (S : St) : Prop :=
  match p with
  | [] => aAny P tk ops Q [] ops.size (Array.replicate ops.size false) S
  | a :: l => aDraw P tk ops Q (a :: l) [] S

/-- What leaves by no goto. -/
def noG (K : Exit → St → Prop) : Exit → St → Prop
  | .goto _, _ => False
  | e, S => K e S

mutual
def aCode (P : Program) (tk : Nat → Nat → Option Nat) (pl : Nat → List PStep) : Code → St → (Exit → St → Prop) → Prop
  | .skip, S, K => K .normal S
  | .region id ops false, S, K => ∃ n, aSeg P (tk id) ops (K .normal) n 0 ops.toList S
  | .region id ops true, S, K => aDr P (tk id) ops (K .normal) (pl id) S
  | .seq x y, S, K => aCode P tk pl x S fun e S' => match e with | .normal => aCode P tk pl y S' K | e => K e S'
  | .cond c x y, S, K => (match ev S.T c with | .raw (.bool t) => (t = true → aCode P tk pl x S K) ∧ (t = false → aCode P tk pl y S K) | _ => False)
  | .block id c, S, K => aCode P tk pl c S fun e S' => match e with | .exit id' => if id' = id then K .normal S' else K (.exit id') S' | e => K e S'
  | .loop c, S, K => ∃ n, aRounds (aCode P tk pl c) n S K
  | .exit id, S, K => K (.exit id) S
  | .ret, S, K => K .ret S
  | .label _, S, K => K .normal S
  | .goto l, S, K => K (.goto l) S
  | .scope c, S, K => ∃ l, (findLabel c l).isSome = true ∧ aCode P tk pl c S fun e S' => match e with | .goto l' => l' = l ∧ aFrom P tk pl c l S' (noG K) | e => K e S'
  | .rangeFunc _ _ _ _, _, _ => False
  | .refuse _, _, _ => False
/-- From a label on. -/
def aFrom (P : Program) (tk : Nat → Nat → Option Nat) (pl : Nat → List PStep) : Code → Nat → St → (Exit → St → Prop) → Prop
  | .seq x y, l, S, K => if (findLabel x l).isSome then aFrom P tk pl x l S fun e S' => match e with | .normal => aCode P tk pl y S' K | e => K e S' else aFrom P tk pl y l S K
  | .label l', l, S, K => if l' == l then K .normal S else False
  | .skip, _, _, _ => False
  | .region _ _ _, _, _, _ => False
  | .cond _ _ _, _, _, _ => False
  | .block _ _, _, _, _ => False
  | .loop _, _, _, _ => False
  | .exit _, _, _, _ => False
  | .ret, _, _, _ => False
  | .goto _, _, _, _ => False
  | .scope _, _, _, _ => False
  | .rangeFunc _ _ _ _, _, _, _ => False
  | .refuse _, _, _, _ => False
end

def codeB (P : Program) (n : Nat) (tk : Nat → Nat → Option Nat) (pl : Nat → List PStep) : Code → Bool
  | .region id ops draw => (ops.toList.all fun o => stepB n o && zeroB P o) && (!draw || (pl id).isEmpty || ((pl id).length == ops.size && planB ops (tk id) (pl id) (Array.replicate ops.size false) []))
  | .seq x y => codeB P n tk pl x && codeB P n tk pl y
  | .cond _ x y => codeB P n tk pl x && codeB P n tk pl y
  | .block _ c => codeB P n tk pl c
  | .loop c => codeB P n tk pl c
  | .scope c => codeB P n tk pl c
  | _ => true

theorem aAll_sound {P : Program} {ops : Array Oper} {tk : Nat → Option Nat} {κ : Ghost} {w : World} {a : Act} {id : Nat} {K : Exit → St → Prop} {S : St} (hm : P.follows .mixedOrders = true) (hB : ∀ (i : Nat) o, ops[i]? = some o → stepB a.tmps.size o = true ∧ zeroB P o = true)
    (h : Holds P κ S.T (tv a) S.M w) (hs : aAny P tk ops (K .normal) [] ops.size (Array.replicate ops.size false) S) : (Code.region id ops true).wp P (fun e a' w' => Next P κ w a (K e) a' w') a w := by
  obtain ⟨h1, hk⟩ := h.drawn (w.drawn + 1)
  exact wp_region_any hm (aAny_sound ops.size _ κ _ a S hB h1 hs fun a' w' hx => Next.trans hk rfl rfl hx)

/-- Behind code. -/
def Post (P : Program) (κ : Ghost) (w : World) (a : Act) (K : Exit → St → Prop) : Exit → Act → World → Prop := fun e a' w' => Next P κ w a (K e) a' w'

section
variable {P : Program} {κ : Ghost} {w : World} {a : Act}

theorem aOps_sound {tk : Nat → Option Nat} {ops : Array Oper} {Q : Exit → Act → World → Prop} : ∀ (rest : List Oper) (tl : List Nat) (i : Nat) (κ : Ghost) (w : World) (a : Act) (S : St) (K : St → Prop), (∀ j : Nat, j < rest.length → rest[j]? = ops[i + j]?) → (∀ o ∈ rest, stepB a.tmps.size o = true ∧ zeroB P o = true) →
    Holds P κ S.T (tv a) S.M w → aOps P tk ops K i rest S → (∀ a' w', Next P κ w a K a' w' → wpOps P ops Q tl a' w') → wpOps P ops Q (List.range' i rest.length ++ tl) a w
  | [], tl, i, κ, w, a, S, K, _, _, h, hs, hQ => hQ a w ⟨κ, S, hs, h, Keep.refl κ w, rfl, rfl⟩
  | o :: rest, tl, i, κ, w, a, S, K, hops, hB, h, hs, hQ => by
    have ho : ops[i]? = some o := by have := hops 0 (by simp); simpa using this.symm
    have hrest : ∀ j : Nat, j < rest.length → rest[j]? = ops[i + 1 + j]? := fun j hj => by
      have := hops (j + 1) (by simp; omega)
      rw [List.getElem?_cons_succ] at this
      rw [this]; congr 1; omega
    obtain ⟨hb1, hb2⟩ := hB o (by simp)
    simp only [List.length_cons, List.range'_succ, List.cons_append, wpOps, ho]
    rcases aGuard_sound h hs with ⟨hw, hy⟩ | ⟨hw, hn⟩
    · rw [if_pos hw]
      left
      refine Oper.wp_mono (fun a' w' hn => ?_) (dstep_sound (Q := Q) h hb1 hb2 hy)
      obtain ⟨κ', S', h1, h2, h3, h4, h5⟩ := hn
      exact aOps_sound rest tl (i + 1) κ' w' a' S' K hrest (fun o ho => by rw [h4]; exact hB o (by simp [ho])) h2 h1 fun a'' w'' hx => hQ a'' w'' (Next.trans h3 h4 h5 hx)
    · rw [if_neg (by rw [hw]; exact Bool.false_ne_true)]
      have hd := stepB_dst hb1
      have h1 : Holds P κ (S.put o.dst (.raw undef)).T (tv (a.put o.dst undef)) (S.put o.dst (.raw undef)).M w := by
        cases hdst : o.dst with
        | none => exact h
        | some d =>
          rw [tv_put undef (hd d hdst)]
          exact h.put d (.raw _) fun _ _ => Spare.not_free (by simp [AVal.free])
      exact aOps_sound rest tl (i + 1) κ w (a.put o.dst undef) _ K hrest (fun o' ho => by rw [put_size]; exact hB o' (by simp [ho])) h1 hn fun a'' w'' hx => hQ a'' w'' (Next.trans (Keep.refl κ w) (put_size ..) (put_defers ..) hx)

theorem aSeg_sound {tk : Nat → Option Nat} {ops : Array Oper} {Q : Exit → Act → World → Prop} {K : St → Prop} : ∀ (n : Nat) (l : List Oper) (i : Nat) (κ : Ghost) (w : World) (a : Act) (S : St), (∀ j : Nat, j < l.length → l[j]? = ops[i + j]?) → (∀ o ∈ l, stepB a.tmps.size o = true ∧ zeroB P o = true) →
    Holds P κ S.T (tv a) S.M w → aSeg P tk ops K n i l S → (∀ a' w', Next P κ w a K a' w' → Q .normal a' w') → wpOps P ops Q (List.range' i l.length) a w
  | 0, l, i, κ, w, a, S, hops, hB, h, hs, hQ => by
    have := aOps_sound (Q := Q) l [] i κ w a S K hops hB h hs fun a' w' hx => hQ a' w' hx
    rwa [List.append_nil] at this
  | n + 1, l, i, κ, w, a, S, hops, hB, h, hs, hQ => by
    obtain ⟨pre, o, o', rest, s, off, rfl, hs⟩ := hs
    have hr : List.range' i (pre ++ o :: o' :: rest).length = List.range' i pre.length ++ (i + pre.length) :: (i + pre.length + 1) :: List.range' (i + pre.length + 2) rest.length := by
      rw [List.length_append, List.length_cons, List.length_cons, ← List.range'_append_1 (s := i) (m := pre.length), List.range'_succ, List.range'_succ]
    rw [hr]
    have hl : (pre ++ o :: o' :: rest).length = pre.length + rest.length + 2 := by simp; omega
    refine aOps_sound (Q := Q) pre _ i κ w a S _ (fun j hj => by rw [← hops j (by omega), List.getElem?_append_left hj]) (fun o ho => hB o (by simp [ho])) h hs fun a' w' hx => ?_
    obtain ⟨κ', S', h1, h2, h3, h4, h5⟩ := hx
    have ho : ops[i + pre.length]? = some o := by rw [← hops pre.length (by omega), List.getElem?_append_right (Nat.le_refl _), Nat.sub_self]; rfl
    have ho' : ops[i + pre.length + 1]? = some o' := by rw [Nat.add_assoc, ← hops (pre.length + 1) (by omega), List.getElem?_append_right (by omega), Nat.add_sub_cancel_left]; rfl
    have hb := (hB o (by simp)).1
    have hb' := (hB o' (by simp)).1
    rw [← h4] at hb hb'
    obtain ⟨t, parts, d, e, cs, xs, g1, g2, g3, g4, g5, g6, -⟩ := id h1
    simp only [wpOps, ho, ho']
    rw [if_pos (by unfold Region.wanted; rw [g3])]
    left
    have hsz : ∀ x : Act, x.tmps.size = x.tmps.size := fun _ => rfl
    refine Oper.wp_mono (fun a1 w1 hx => ?_) (aFuse_sound (Q := Q) h2 (stepB_dst hb) (stepB_dst hb') h1)
    rw [if_pos (by unfold Region.wanted; rw [g6])]
    left
    refine Oper.wp_mono (fun a2 w2 hx => ?_) hx
    obtain ⟨κ2, S2, k1, k2, k3, k4, k5⟩ := hx
    exact aSeg_sound n rest (i + pre.length + 2) κ2 w2 a2 S2 (fun j hj => by
      have := hops (pre.length + 2 + j) (by omega)
      rw [List.getElem?_append_right (by omega), show pre.length + 2 + j - pre.length = j + 1 + 1 by omega, List.getElem?_cons_succ, List.getElem?_cons_succ] at this
      rw [this]; congr 1; omega) (fun o ho => by rw [k4, h4]; exact hB o (by simp [ho])) k2 k1 fun a'' w'' hx => hQ a'' w'' (Next.trans h3 h4 h5 (Next.trans k3 k4 k5 hx))

theorem aBoth_sound (hm : P.follows .mixedOrders = true) {tk : Nat → Nat → Option Nat} {pl : Nat → List PStep} : ∀ (c : Code), (∀ (κ : Ghost) (w : World) (a : Act) (S : St) (K : Exit → St → Prop), codeB P a.tmps.size tk pl c = true → Holds P κ S.T (tv a) S.M w → aCode P tk pl c S K → c.wp P (Post P κ w a K) a w) ∧ (∀ (l : Nat) (κ : Ghost) (w : World) (a : Act) (S : St) (K : Exit → St → Prop), codeB P a.tmps.size tk pl c = true → Holds P κ S.T (tv a) S.M w → aFrom P tk pl c l S K → ∃ rest, findLabel c l = some rest ∧ rest.wp P (Post P κ w a K) a w) := by
  intro c
  induction c with
  | skip => exact ⟨fun κ w a S K _ h hs => Go.wp_skip ⟨κ, S, hs, h, Keep.refl κ w, rfl, rfl⟩, fun l κ w a S K _ _ hs => hs.elim⟩
  | region id ops draw =>
    refine ⟨?_, fun l κ w a S K _ _ hs => hs.elim⟩
    intro κ w a S K hb h hs
    simp only [codeB, Bool.and_eq_true] at hb
    have hB : ∀ o ∈ ops.toList, stepB a.tmps.size o = true ∧ zeroB P o = true := fun o ho => by
      have := List.all_eq_true.1 hb.1 o ho
      simpa using this
    cases draw with
    | true =>
      have h2 := hb.2
      have hs' : aDr P (tk id) ops (K .normal) (pl id) S := hs
      cases hp : pl id with
      | nil =>
        rw [hp] at hs'
        exact aAll_sound (K := K) hm (fun i o ho => hB o (Array.mem_toList_iff.2 (Array.mem_of_getElem? ho))) h hs'
      | cons p l =>
        rw [hp] at hs' h2
        simp only [Bool.not_true, Bool.false_or, List.isEmpty_cons, Bool.and_eq_true, beq_iff_eq] at h2
        exact aDraw_sound (K := K) hm (fun i o ho => hB o (Array.mem_toList_iff.2 (Array.mem_of_getElem? ho))) h2.1 h2.2 h hs'
    | false =>
      refine wp_region ?_
      obtain ⟨n, hs⟩ : ∃ n, aSeg P (tk id) ops (K .normal) n 0 ops.toList S := hs
      have := aSeg_sound (P := P) (Q := Post P κ w a K) (K := K .normal) n ops.toList 0 κ w a S (fun j _ => by simp) hB h hs (fun a' w' hx => hx)
      rw [Array.length_toList, ← List.range_eq_range'] at this
      exact this
  | seq x y ihx ihy =>
    refine ⟨?_, fun l κ w a S K hb h hs => ?_⟩
    rotate_left
    · simp only [codeB, Bool.and_eq_true] at hb
      have hs' : if (findLabel x l).isSome then aFrom P tk pl x l S (fun e S' => match e with | .normal => aCode P tk pl y S' K | e => K e S') else aFrom P tk pl y l S K := hs
      cases hf : findLabel x l with
      | some r =>
        rw [if_pos (by rw [hf]; rfl)] at hs'
        obtain ⟨rest, hr, hw⟩ := ihx.2 l κ w a S _ hb.1 h hs'
        rw [hf] at hr
        refine ⟨.seq rest y, by simp only [findLabel, hf, hr], ?_⟩
        refine wp_seq (wp_mono hw fun e a' w' hp => ?_)
        obtain ⟨κ', S', h1, h2, h3, h4, h5⟩ := hp
        cases e with
        | normal => exact wp_mono (ihy.1 κ' w' a' S' K (by rw [h4]; exact hb.2) h2 h1) fun e a'' w'' hx => Next.trans h3 h4 h5 hx
        | _ => exact ⟨κ', S', h1, h2, h3, h4, h5⟩
      | none =>
        rw [if_neg (by rw [hf]; simp)] at hs'
        obtain ⟨rest, hr, hw⟩ := ihy.2 l κ w a S _ hb.2 h hs'
        exact ⟨rest, by simp only [findLabel, hf, hr], hw⟩
    intro κ w a S K hb h hs
    simp only [codeB, Bool.and_eq_true] at hb
    refine wp_seq (wp_mono (ihx.1 κ w a S _ hb.1 h hs) fun e a' w' hp => ?_)
    obtain ⟨κ', S', h1, h2, h3, h4, h5⟩ := hp
    cases e with
    | normal => exact wp_mono (ihy.1 κ' w' a' S' K (by rw [h4]; exact hb.2) h2 h1) fun e a'' w'' hx => Next.trans h3 h4 h5 hx
    | _ => exact ⟨κ', S', h1, h2, h3, h4, h5⟩
  | cond c x y ihx ihy =>
    refine ⟨?_, fun l κ w a S K _ _ hs => hs.elim⟩
    intro κ w a S K hb h hs
    simp only [codeB, Bool.and_eq_true] at hb
    simp only [aCode] at hs
    split at hs
    · rename_i t ht
      have hc := ev_rep h.tmp c
      rw [ht] at hc
      exact wp_cond_split (rep_raw hc) (fun e => ihx.1 κ w a S K hb.1 h (hs.1 e)) (fun e => ihy.1 κ w a S K hb.2 h (hs.2 e))
    · exact hs.elim
  | block id c ih =>
    refine ⟨?_, fun l κ w a S K _ _ hs => hs.elim⟩
    intro κ w a S K hb h hs
    refine wp_block (wp_mono (ih.1 κ w a S _ hb h hs) fun e a' w' hp => ?_)
    obtain ⟨κ', S', h1, h2, h3, h4, h5⟩ := hp
    cases e with
    | exit id' =>
      simp only [Exit.inBlock]
      by_cases e : id' = id
      · rw [if_pos e]; simp only [e, if_true] at h1; exact ⟨κ', S', h1, h2, h3, h4, h5⟩
      · rw [if_neg e]; simp only [if_neg e] at h1; exact ⟨κ', S', h1, h2, h3, h4, h5⟩
    | _ => exact ⟨κ', S', h1, h2, h3, h4, h5⟩
  | loop c ih =>
    refine ⟨?_, fun l κ w a S K _ _ hs => hs.elim⟩
    intro κ w a S K hb h hs
    obtain ⟨n, hn⟩ := hs
    refine wp_loop_rounds n ?_
    have key : ∀ n κ' w' a' S', a'.tmps.size = a.tmps.size → a'.defers = a.defers → Keep κ w κ' w' → Holds P κ' S'.T (tv a') S'.M w' → aRounds (aCode P tk pl c) n S' K → Code.rounds P c (Post P κ w a K) n a' w' := by
      intro n
      induction n with
      | zero => exact fun _ _ _ _ _ _ _ _ h => h.elim
      | succ n ihn =>
        intro κ' w' a' S' h1 h2 h3 h4 h5
        rw [rounds_succ]
        refine wp_mono (ih.1 κ' w' a' S' _ (by rw [h1]; exact hb) h4 h5) fun e a'' w'' hp => ?_
        obtain ⟨κ2, S2, g1, g2, g3, g4, g5⟩ := hp
        cases e with
        | normal => exact ihn κ2 w'' a'' S2 (g4.trans h1) (g5.trans h2) (h3.trans g3) g2 g1
        | _ => exact ⟨κ2, S2, g1, g2, h3.trans g3, g4.trans h1, g5.trans h2⟩
    exact key n κ w a S rfl rfl (Keep.refl κ w) h hn
  | exit id => exact ⟨fun κ w a S K _ h hs => wp_exit ⟨κ, S, hs, h, Keep.refl κ w, rfl, rfl⟩, fun l κ w a S K _ _ hs => hs.elim⟩
  | ret => exact ⟨fun κ w a S K _ h hs => wp_ret ⟨κ, S, hs, h, Keep.refl κ w, rfl, rfl⟩, fun l κ w a S K _ _ hs => hs.elim⟩
  | label l' =>
    refine ⟨fun κ w a S K _ h hs => wp_label ⟨κ, S, hs, h, Keep.refl κ w, rfl, rfl⟩, fun l κ w a S K _ h hs => ?_⟩
    have hs' : if l' == l then K .normal S else False := hs
    split at hs'
    · rename_i e
      exact ⟨.skip, by simp only [findLabel, e, if_true], Go.wp_skip ⟨κ, S, hs', h, Keep.refl κ w, rfl, rfl⟩⟩
    · exact hs'.elim
  | goto l => exact ⟨fun κ w a S K _ h hs => wp_goto ⟨κ, S, hs, h, Keep.refl κ w, rfl, rfl⟩, fun l κ w a S K _ _ hs => hs.elim⟩
  | rangeFunc f ps x y _ _ => exact ⟨fun κ w a S K _ h hs => hs.elim, fun l κ w a S K _ _ hs => hs.elim⟩
  | scope c ih =>
    refine ⟨?_, fun l κ w a S K _ _ hs => hs.elim⟩
    intro κ w a S K hb h hs
    obtain ⟨l, hsome, hs⟩ : ∃ l, (findLabel c l).isSome = true ∧ aCode P tk pl c S (fun e S' => match e with | .goto l' => l' = l ∧ aFrom P tk pl c l S' (noG K) | e => K e S') := hs
    obtain ⟨rest, hf⟩ := Option.isSome_iff_exists.1 hsome
    refine wp_scope_jumps l (fun a' w' => ∃ κ' S', aFrom P tk pl c l S' (noG K) ∧ Holds P κ' S'.T (tv a') S'.M w' ∧ Keep κ w κ' w' ∧ a'.tmps.size = a.tmps.size ∧ a'.defers = a.defers) (fun _ _ => 0) hf ?_ ?_
    · refine wp_mono (ih.1 κ w a S _ hb h hs) fun e a' w' hp => ?_
      obtain ⟨κ', S', h1, h2, h3, h4, h5⟩ := hp
      cases e with
      | goto l' => exact ⟨h1.1, κ', S', h1.2, h2, h3, h4, h5⟩
      | _ => exact ⟨κ', S', h1, h2, h3, h4, h5⟩
    · rintro a1 w1 ⟨κ', S', h1, h2, h3, h4, h5⟩
      obtain ⟨rest', hr, hw⟩ := ih.2 l κ' w1 a1 S' _ (by rw [h4]; exact hb) h2 h1
      rw [hf] at hr
      cases hr
      refine wp_mono hw fun e a'' w'' hx => ?_
      obtain ⟨κ2, S2, g1, g2, g3, g4, g5⟩ := hx
      cases e with
      | goto l' => exact g1.elim
      | _ => exact ⟨κ2, S2, g1, g2, h3.trans g3, g4.trans h4, g5.trans h5⟩
  | refuse why => exact ⟨fun κ w a S K _ h hs => hs.elim, fun l κ w a S K _ _ hs => hs.elim⟩

theorem aCode_sound (hm : P.follows .mixedOrders = true) {tk : Nat → Nat → Option Nat} {pl : Nat → List PStep} (c : Code) (κ : Ghost) (w : World) (a : Act) (S : St) (K : Exit → St → Prop) (hb : codeB P a.tmps.size tk pl c = true) (h : Holds P κ S.T (tv a) S.M w) (hs : aCode P tk pl c S K) : c.wp P (Post P κ w a K) a w :=
  (aBoth_sound hm c).1 κ w a S K hb h hs

end
end Go.Am
