import Derived.Test.YtphenhkofjbeoaaAm30
/-! Functions. -/
namespace Go.Am

def aRes1 (P : Program) (S : St) : ResultVar → Option AVal
  | .tmp t => some (S.T t)
  | .cell a t => (match S.T a with
    | .raw (.pointer (some ⟨b, o, none⟩)) => (match S.M b with | some (.cells l) => (loadP P t l o).map AVal.shut | _ => none)
    | _ => none)

def aResults (P : Program) (S : St) : List ResultVar → Option AVal
  | [x] => aRes1 P S x
  | xs => (xs.mapM (aRes1 P S)).map .tup

def aRet (P : Program) (fn : Func) (Post : AVal → Mem → Prop) (e : Exit) (S : St) : Prop :=
  match e with
  | .normal | .ret => (match aResults P S fn.results.toList with | some r => Post r S.M | none => False)
  | _ => False

section
variable {P : Program} {κ : Ghost} {w : World}

def retTag (κ : Ghost) (t : Option Nat) : Ghost := fun b o => match κ b o with
  | .slot t' => if t = some t' then .slot 0 else .free
  | x => x

theorem Holds.ret {T : Nat → AVal} {V : Nat → Value} {M : Mem} (h : Holds P κ T V M w) {r : AVal} {v : Value} (hr : Rep P κ w r v) (t : Option Nat) (ho : (∃ s, t = some s ∧ r = T s ∧ v = V s) ∨ r.free) :
    Holds P (retTag κ t) (argT [r]) (fun x => if x = 0 then v else undef) M w ∧ Keep κ w (retTag κ t) w := by
  have himm : ∀ b o, κ b o = .imm → retTag κ t b o = .imm := fun b o e => by unfold retTag; rw [e]
  have hframe : ∀ b o, κ b o = .frame → retTag κ t b o = .frame := fun b o e => by unfold retTag; rw [e]
  have hk : Keep κ w (retTag κ t) w := Keep.tags himm hframe
  have h0 : ∀ x, x ≠ 0 → argT [r] x = .undef := fun x hx => by
    unfold argT
    rw [List.getD_eq_getElem?_getD, List.getElem?_eq_none (by simp; omega)]; rfl
  refine ⟨⟨fun x => ?_, fun b o hb => (h.obj b o hb).tags himm (fun b' o' j e => by unfold retTag; rw [e]), fun b o hb => h.tag b o fun e => hb (by unfold retTag; rw [e]), fun x b o hsp => ?_, fun b o x hb => ?_, fun b o c j hb => ?_⟩, hk⟩
  · by_cases hx : x = 0
    · subst hx; exact hk.rep hr
    · rw [h0 x hx]; exact .undef _
  · by_cases hx : x = 0
    · subst hx
      rcases ho with ⟨s, h1, h2, h3⟩ | hf
      · have hsp' : Spare P w (T s) (V s) b o := by rw [← h2, ← h3]; exact hsp
        have := h.sp s b o hsp'
        unfold retTag; rw [this, h1]; simp
      · exact absurd hsp (Spare.not_free hf)
    · rw [h0 x hx] at hsp; exact absurd hsp (Spare.not_free (by simp [AVal.free]))
  · unfold retTag at hb
    split at hb
    · rename_i t' e; exact h.wr b o t' e
    · exact h.wr b o x hb
  · unfold retTag at hb
    split at hb
    · split at hb <;> cases hb
    · exact h.mwr b o c j hb

def retAll (κ : Ghost) : Ghost := fun b o => match κ b o with
  | .slot _ => .slot 0
  | x => x

theorem Holds.retAll {T : Nat → AVal} {V : Nat → Value} {M : Mem} (h : Holds P κ T V M w) {r : AVal} {v : Value} (hr : Rep P κ w r v) (ho : ∀ b o, Spare P w r v b o → ∃ s, κ b o = .slot s) :
    Holds P (retAll κ) (argT [r]) (fun x => if x = 0 then v else undef) M w ∧ Keep κ w (Am.retAll κ) w := by
  have himm : ∀ b o, κ b o = .imm → Am.retAll κ b o = .imm := fun b o e => by unfold Am.retAll; rw [e]
  have hframe : ∀ b o, κ b o = .frame → Am.retAll κ b o = .frame := fun b o e => by unfold Am.retAll; rw [e]
  have hk : Keep κ w (Am.retAll κ) w := Keep.tags himm hframe
  have h0 : ∀ x, x ≠ 0 → argT [r] x = .undef := fun x hx => by
    unfold argT
    rw [List.getD_eq_getElem?_getD, List.getElem?_eq_none (by simp; omega)]; rfl
  refine ⟨⟨fun x => ?_, fun b o hb => (h.obj b o hb).tags himm (fun b' o' j e => by unfold Am.retAll; rw [e]), fun b o hb => h.tag b o fun e => hb (by unfold Am.retAll; rw [e]), fun x b o hsp => ?_, fun b o x hb => ?_, fun b o c j hb => ?_⟩, hk⟩
  · by_cases hx : x = 0
    · subst hx; exact hk.rep hr
    · rw [h0 x hx]; exact .undef _
  · by_cases hx : x = 0
    · subst hx
      obtain ⟨s, hs⟩ := ho b o hsp
      unfold Am.retAll; rw [hs]
    · rw [h0 x hx] at hsp; exact absurd hsp (Spare.not_free (by simp [AVal.free]))
  · unfold Am.retAll at hb
    split at hb
    · rename_i t' e; exact h.wr b o t' e
    · exact h.wr b o x hb
  · unfold Am.retAll at hb
    split at hb
    · cases hb
    · exact h.mwr b o c j hb

theorem aRes1_sound {a : Act} {S : St} (h : Holds P κ S.T (tv a) S.M w) {x : ResultVar} {X : AVal} (hx : aRes1 P S x = some X) :
    ∃ v, (match x with | .tmp t => pure (a.tmps.getD t undef) | .cell a' t => (do loadVar t (← asAddr (a.tmps.getD a' undef))) : Sem Value).run P w = .ok v w ∧ Rep P κ w X v ∧ ((∃ t, x = .tmp t ∧ X = S.T t ∧ v = tv a t) ∨ X.free) := by
  cases x with
  | tmp t =>
    simp only [aRes1, Option.some.injEq] at hx
    subst hx
    exact ⟨tv a t, rfl, h.tmp t, .inl ⟨t, rfl, rfl, rfl⟩⟩
  | cell a' t =>
    simp only [aRes1] at hx
    split at hx
    · rename_i b o hp
      have hp' := h.tmp a'
      rw [hp] at hp'
      split at hx
      · rename_i l hb
        simp only [Option.map_eq_some_iff] at hx
        obtain ⟨Y, hY, rfl⟩ := hx
        obtain ⟨u, h1, h2⟩ := run_loadAt_ptr h.obj hb hY
        refine ⟨u, ?_, h2.shut, .inr (AVal.shut_free _)⟩
        show ((asAddr (a.tmps.getD a' undef)) >>= fun q => loadVar t q).run P w = _
        have : a.tmps.getD a' undef = .pointer (some ⟨b, o, none⟩) := rep_raw hp'
        rw [this, run_bind_pr (x := ⟨b, o, none⟩) rfl]
        exact h1
      · cases hx
    · cases hx

theorem aResults_sound {a : Act} {S : St} {fn : Func} (h : Holds P κ S.T (tv a) S.M w) {r : AVal} (hr : aResults P S fn.results.toList = some r) :
    ∃ v κ', (results fn a.tmps).run P w = .ok v w ∧ Holds P κ' (argT [r]) (fun x => if x = 0 then v else undef) S.M w ∧ Keep κ w κ' w := by
  let g : ResultVar → Sem Value := fun x => match x with | .tmp t => pure (a.tmps.getD t undef) | .cell a' t => (do loadVar t (← asAddr (a.tmps.getD a' undef)))
  have hres : ∀ vs : List Value, (fn.results.toList.mapM g).run P w = .ok vs w → (results fn a.tmps).run P w = .ok (if h : vs.toArray.size = 1 then vs.toArray[0] else .tuple vs.toArray) w := fun vs hv => by
    unfold results
    have e : (fn.results.mapM g) = (fn.results.toList.mapM g) >>= fun l => pure l.toArray := by
      rw [Array.mapM_eq_mapM_toList]; rfl
    show ((fn.results.mapM g) >>= fun vs => (pure (if h : vs.size = 1 then vs[0] else .tuple vs) : Sem Value)).run P w = _
    rw [e, Sem.run_bind, Sem.run_bind, hv]; rfl
  have hmap : ∀ (xs : List ResultVar) (Xs : List AVal), xs.mapM (aRes1 P S) = some Xs → ∃ vs : List Value, (xs.mapM g).run P w = .ok vs w ∧ Xs.length = vs.length ∧ ∀ (i : Nat) X v, Xs[i]? = some X → vs[i]? = some v → Rep P κ w X v ∧ ((∃ t, X = S.T t ∧ v = tv a t) ∨ X.free) := by
    intro xs
    induction xs with
    | nil =>
      intro Xs hx
      simp at hx
      subst hx
      exact ⟨[], rfl, rfl, fun i X v e => by simp at e⟩
    | cons x xs ih =>
      intro Xs hx
      rw [List.mapM_cons] at hx
      cases h1 : aRes1 P S x with
      | none => rw [h1] at hx; cases hx
      | some X =>
        rw [h1] at hx
        simp only [Option.bind_eq_bind, Option.bind_some] at hx
        cases h2 : xs.mapM (aRes1 P S) with
        | none => rw [h2] at hx; cases hx
        | some Ys =>
          rw [h2] at hx
          obtain rfl := Option.some.inj hx
          obtain ⟨vs, h3, h4, h5⟩ := ih Ys h2
          obtain ⟨v, h6, h7, h8⟩ := aRes1_sound h h1
          refine ⟨v :: vs, ?_, by simp [h4], fun i Z z e1 e2 => ?_⟩
          · rw [List.mapM_cons, Sem.run_bind]
            have : (g x).run P w = .ok v w := h6
            rw [this, Result.andThen_ok, Sem.run_bind, h3]; rfl
          · cases i with
            | zero => simp at e1 e2; subst e1; subst e2; exact ⟨h7, h8.imp (fun ⟨t, _, e1, e2⟩ => ⟨t, e1, e2⟩) id⟩
            | succ i => exact h5 i Z z (by simpa using e1) (by simpa using e2)
  unfold aResults at hr
  split at hr
  · rename_i x hx
    obtain ⟨v, h1, h2, h3⟩ := aRes1_sound h hr
    have hv := hres [v] (by
      rw [hx, List.mapM_cons, Sem.run_bind]
      have : (g x).run P w = .ok v w := h1
      rw [this]; rfl)
    have hv' : (results fn a.tmps).run P w = .ok v w := by rw [hv]; rfl
    rcases h3 with ⟨t, h4, h5, h6⟩ | h3
    · obtain ⟨h7, h8⟩ := h.ret h2 (some t) (.inl ⟨t, rfl, h5, h6⟩)
      exact ⟨v, _, hv', h7, h8⟩
    · obtain ⟨h7, h8⟩ := h.ret h2 none (.inr h3)
      exact ⟨v, _, hv', h7, h8⟩
  · rename_i hne
    simp only [Option.map_eq_some_iff] at hr
    obtain ⟨Xs, h1, rfl⟩ := hr
    obtain ⟨vs, h2, h3, h4⟩ := hmap _ _ h1
    have hlen : vs.length ≠ 1 := fun e => by
      have h5 : fn.results.toList.length = 1 := by
        have : ∀ (xs : List ResultVar) Xs, xs.mapM (aRes1 P S) = some Xs → Xs.length = xs.length := by
          intro xs
          induction xs with
          | nil => intro Xs hx; simp at hx; subst hx; rfl
          | cons x xs ih =>
            intro Xs hx
            rw [List.mapM_cons] at hx
            cases h1 : aRes1 P S x with
            | none => rw [h1] at hx; cases hx
            | some X =>
              rw [h1] at hx
              simp only [Option.bind_eq_bind, Option.bind_some] at hx
              cases h2 : xs.mapM (aRes1 P S) with
              | none => rw [h2] at hx; cases hx
              | some Ys => rw [h2] at hx; obtain rfl := Option.some.inj hx; simp [ih Ys h2]
        rw [← this _ _ h1, h3, e]
      obtain ⟨x, hx⟩ := List.length_eq_one_iff.1 h5
      exact hne x hx
    have hv := hres vs h2
    have hv' : (results fn a.tmps).run P w = .ok (.tuple vs.toArray) w := by rw [hv, dif_neg (by simpa using hlen)]
    obtain ⟨h7, h8⟩ := h.retAll (r := .tup Xs) (v := .tuple vs.toArray) (.tup Xs vs.toArray (by simpa using h3) fun i c v e1 e2 => (h4 i c v e1 (by simpa using e2)).1) (fun b o hsp => by
      rcases hsp with ⟨_, _, _, e, -⟩ | ⟨Vs, us, i, X, x, e1, e2, e3, e4, e5⟩
      · cases e
      · cases e1; cases e2
        rcases (h4 i X x e3 (by simpa using e4)).2 with ⟨t, e6, e7⟩ | hf
        · exact ⟨t, h.sp t b o (.inl (by rw [← e6, ← e7]; exact e5))⟩
        · exfalso
          obtain ⟨l, off, cap, e6, -⟩ := e5
          subst e6
          exact hf)
    exact ⟨_, _, hv', h7, h8⟩

theorem SoundCall.of_code {f : FuncId} {fn : Func} {c : Code} {args : List AVal} {M : Mem} {Post : AVal → Mem → Prop} (tk : Nat → Nat → Option Nat) (pl : Nat → List PStep) (hm : P.follows .mixedOrders = true) (hf : P.funcs[f]? = some fn) (hb : fn.body = some c) (hB : codeB P fn.ntmps tk pl c = true) (hlen : args.length ≤ fn.ntmps)
    (hc : aCode P tk pl c ⟨argT args, M⟩ (aRet P fn Post)) : SoundCall P f args M Post := by
  intro κ w vs hsz h
  refine calls_of_wp hf hb ?_
  have htv : tv { tmps := vs ++ Array.replicate (fn.ntmps - vs.size) undef, defers := [] } = fun t => vs.getD t undef := by
    funext t
    show (vs ++ Array.replicate (fn.ntmps - vs.size) undef).getD t undef = _
    simp only [Array.getD_eq_getD_getElem?]
    by_cases ht : t < vs.size
    · rw [Array.getElem?_append_left ht]
    · rw [Array.getElem?_append_right (by omega), Array.getElem?_eq_none (by omega : vs.size ≤ t)]
      cases hx : (Array.replicate (fn.ntmps - vs.size) undef)[t - vs.size]? with
      | none => rfl
      | some v =>
        have := Array.mem_of_getElem? hx
        rw [Array.mem_replicate] at this
        simp [this.2]
  have hsize : ({ tmps := vs ++ Array.replicate (fn.ntmps - vs.size) undef, defers := [] } : Act).tmps.size = fn.ntmps := by
    show (vs ++ Array.replicate (fn.ntmps - vs.size) undef).size = _
    simp; omega
  refine wp_mono (aCode_sound hm c κ w _ ⟨argT args, M⟩ _ (by rw [hsize]; exact hB) (by rw [htv]; exact h) hc) fun e a' w' hp => ?_
  obtain ⟨κ', S', h1, h2, h3, h4, h5⟩ := hp
  have fin : (match aResults P S' fn.results.toList with | some r => Post r S'.M | none => False) → a'.defers = [] ∧ ∃ v, (results fn a'.tmps).run P w' = .ok v w' ∧
      ∃ v' κ' r M', Ending.returned v = .returned v' ∧ Post r M' ∧ Holds P κ' (argT [r]) (fun t => if t = 0 then v' else undef) M' w' ∧ Keep κ w κ' w' := fun hm => by
    split at hm
    · rename_i r hr
      obtain ⟨v, κ2, g1, g2, g3⟩ := aResults_sound h2 hr
      exact ⟨h5, v, g1, v, κ2, r, S'.M, rfl, hm, g2, h3.trans g3⟩
    · exact hm.elim
  cases e with
  | normal => exact fin h1
  | ret => exact fin h1
  | _ => exact h1.elim

end
end Go.Am
