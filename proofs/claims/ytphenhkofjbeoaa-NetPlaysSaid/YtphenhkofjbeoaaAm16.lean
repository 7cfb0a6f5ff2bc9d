import Derived.Test.YtphenhkofjbeoaaAm15
namespace Go.Am

/-- Behind an operation. -/
def Next (P : Program) (κ : Ghost) (w : World) (a : Act) (K : St → Prop) : Act → World → Prop := fun a' w' =>
  ∃ κ' S', K S' ∧ Holds P κ' S'.T (tv a') S'.M w' ∧ Keep κ w κ' w' ∧ a'.tmps.size = a.tmps.size ∧ a'.defers = a.defers

section
variable {P : Program} {κ : Ghost} {w : World} {a : Act} {o : Oper} {K : St → Prop} {Q : Exit → Act → World → Prop}

theorem put_size (a : Act) (d : Option Tmp) (v : Value) : (a.put d v).tmps.size = a.tmps.size := by cases d <;> simp [Act.put]
theorem put_defers (a : Act) (d : Option Tmp) (v : Value) : (a.put d v).defers = a.defers := by cases d <;> rfl

theorem next_put {κ' : Ghost} {w' : World} {v : Value} {S' : St} {X : AVal} (hd : ∀ d, o.dst = some d → d < a.tmps.size) (hK : K (S'.put o.dst X)) (hH : ∀ d, o.dst = some d → Holds P κ' (setT S'.T d X) (fun t => if t = d then v else tv a t) S'.M w')
    (hN : o.dst = none → Holds P κ' S'.T (tv a) S'.M w') (hk : Keep κ w κ' w') : Next P κ w a K (a.put o.dst v) w' := by
  refine ⟨κ', S'.put o.dst X, hK, ?_, hk, put_size .., put_defers ..⟩
  cases ho : o.dst with
  | none => exact hN ho
  | some d =>
    rw [tv_put v (hd d ho)]
    exact hH d ho

theorem wp_value {v : Value} {w' : World} {N : Act → World → Prop} (hrun : (execOp a.eval o).run P w = .ok (.value v) w') (h : N (a.put o.dst v) w') : o.wp P a w N Q := by
  unfold Oper.wp; rw [hrun]; exact h

theorem wp_skip {w' : World} {N : Act → World → Prop} (hrun : (execOp a.eval o).run P w = .ok .skip w') (h : N (a.put o.dst undef) w') : o.wp P a w N Q := by
  unfold Oper.wp; rw [hrun]; exact h

variable {S : St}

theorem sound_plain (h : Holds P κ S.T (tv a) S.M w) (hd : ∀ d, o.dst = some d → d < a.tmps.size) {V : AVal} (hv : aop P S.T S.M o.type o.op = some V) (hK : K (S.put o.dst V.shut)) : o.wp P a w (Next P κ w a K) Q := by
  obtain ⟨u, h1, h2⟩ := aop_sound (a := a) h.tmp h.obj hv
  exact wp_value h1 (next_put (S' := S) hd hK (fun d _ => h.put d h2.shut fun _ _ => Spare.not_shut) (fun _ => h) (Keep.refl κ w))

theorem rep_ev (h : Holds P κ S.T (tv a) S.M w) (x : Operand) : Rep P κ w (ev S.T x) (a.eval x) := ev_rep h.tmp x

/-- What a constant holds has no spare room. -/
theorem ofConst_spare {v : Value} {b x : Nat} (h : Spare P w (ofConst v) v b x) : False := by
  rcases h with ⟨l, off, cap, h1, h2, -⟩ | ⟨Vs, vs, i, X, x, h1, h2, -⟩
  · subst h2
    simp [ofConst] at h1
  · subst h2
    simp [ofConst] at h1

theorem sound_move (h : Holds P κ S.T (tv a) S.M w) (hd : ∀ d, o.dst = some d → d < a.tmps.size) {x : Operand} (hop : o.op = .move x ∨ o.op = .assign x) (hne : ∀ t, x = .tmp t → o.dst ≠ some t)
    (hK : K ((S.lose x).put o.dst (ev S.T x))) : o.wp P a w (Next P κ w a K) Q := by
  have hrun : (execOp a.eval o).run P w = .ok (.value (a.eval x)) w := by
    unfold execOp; rcases hop with hop | hop <;> rw [hop] <;> rfl
  refine wp_value hrun ?_
  cases x with
  | tmp t =>
    cases ho : o.dst with
    | none =>
      have := next_put (P := P) (κ := κ) (κ' := κ) (w := w) (w' := w) (v := a.eval (.tmp t)) (S' := S.lose (.tmp t)) (X := ev S.T (.tmp t)) hd hK (fun d e => by rw [ho] at e; cases e) (fun _ => h.lose t) (Keep.refl κ w)
      rwa [ho] at this
    | some d =>
      have := next_put (P := P) (κ := κ) (κ' := mvTag κ t d) (w := w) (w' := w) (v := a.eval (.tmp t)) (S' := S.lose (.tmp t)) (X := ev S.T (.tmp t)) hd hK
        (fun d' e => by
          rw [ho] at e; cases e
          exact h.move t d fun e => hne t rfl (by rw [ho, e]))
        (fun e => by rw [ho] at e; cases e) (Keep.tags (fun _ _ => mvTag_imm.2) (fun _ _ => mvTag_frame.2))
      rwa [ho] at this
  | const v => exact next_put (S' := S) hd hK (fun d _ => h.put d (ofConst_rep v) fun _ _ hs => ofConst_spare hs) (fun _ => h) (Keep.refl κ w)
  | global g => exact next_put (S' := S) hd hK (fun d _ => h.put d (.raw _) fun _ _ => Spare.not_raw) (fun _ => h) (Keep.refl κ w)
  | func f => exact next_put (S' := S) hd hK (fun d _ => h.put d (.raw _) fun _ _ => Spare.not_raw) (fun _ => h) (Keep.refl κ w)

theorem sound_store (h : Holds P κ S.T (tv a) S.M w) (hdst : o.dst = none) {t : TypeId} {p x : Operand} (hop : o.op = .store t p x) (hs : aStore P t (ev S.T p) (ev S.T x) x S K) : o.wp P a w (Next P κ w a K) Q := by
  unfold aStore at hs
  split at hs
  · rename_i b off hp
    have hp' := rep_ev h p
    rw [hp] at hp'
    have hpe := rep_raw hp'
    split at hs
    · rename_i l hb
      obtain ⟨hok, hsz, hle, hs⟩ := hs
      have hx := rep_ev h x
      obtain ⟨hcl, hcu⟩ := ok_cells hx hok
      have hvs : (a.eval x).cells.size = (ev S.T x).cells.length := hcl.1.symm
      have hrun : ∀ w', (storeCells ⟨b, off, none⟩ (a.eval x).cells.toList 0).run P w = .ok () w' → (execOp a.eval o).run P w = .ok .skip w' := fun w' hw => by
        unfold execOp; rw [hop]
        show ((Instr.storeAt t (a.eval p) (a.eval x)) >>= fun _ => (pure Next.skip : Sem Go.Next)).run P w = _
        rw [Sem.run_bind, hpe]
        have : (Instr.storeAt t (.pointer (some ⟨b, off, none⟩)) (a.eval x)).run P w = .ok () w' := by
          show ((Instr.sureAddr (.pointer (some ⟨b, off, none⟩))) >>= fun q => storeVar t q (a.eval x)).run P w = _
          rw [run_bind_pr (x := ⟨b, off, none⟩) rfl]
          show ((sizeOf t) >>= fun n => if (a.eval x).cells.size ≠ n then stuck _ else storeCells ⟨b, off, none⟩ (a.eval x).cells.toList).run P w = _
          rw [run_bind_pr (pr_sizeT hsz), if_neg (by rw [hvs]; simp)]
          exact hw
        rw [this]; rfl
      have plain : K (S.upd b (.cells (splice l off ((ev S.T x).cells.map AVal.shut)))) → o.wp P a w (Next P κ w a K) Q := fun hK => by
        obtain ⟨w', h1, h2, h3⟩ := run_storeCells (b := b) (o := off) (ev S.T x).cells (a.eval x).cells.toList 0 w S.M l h hb (by omega) (by simpa using hcl.1) (fun j X v e1 e2 => ⟨hcl.2 j X v e1 (by simpa using e2), hcu X (List.mem_of_getElem? e1)⟩)
        refine wp_skip (hrun w' h1) ?_
        rw [hdst]
        exact ⟨κ, _, hK, h2, h3, rfl, rfl⟩
      split at hs
      · rename_i xs hV
        rw [hV] at hle hvs
        -- the cell gets the right to append
        cases x with
        | tmp s =>
          have hk1 : Keep κ w (fun b' o' => match κ b' o' with | .slot t => if t = s then .mslot b off else .slot t | y => y) w := Keep.tags (fun b' o' e => by simp only [e]) (fun b' o' e => by simp only [e])
          have h1 : Holds P (fun b' o' => match κ b' o' with | .slot t => if t = s then .mslot b off else .slot t | y => y) (setT S.T s (S.T s).shut) (tv a) S.M w := by
            refine ⟨fun t => ?_, fun c p hc => (h.obj c p hc).tags (fun b' o' e => by simp only [e]) (fun b' o' j e => by simp only [e]), fun c y hc => h.tag c y fun e => hc (by simp only [e]), fun t c y hsp => ?_, fun c y t hc => ?_, fun c y c' j hc => ?_⟩
            · unfold setT
              split
              · rename_i e; subst e; exact hk1.rep (h.tmp t).shut
              · exact hk1.rep (h.tmp t)
            · unfold setT at hsp
              split at hsp
              · exact absurd hsp Spare.not_shut
              · rename_i e
                have := h.sp t c y hsp
                simp only [this, if_neg e]
            · split at hc
              · rename_i t' e; exact h.wr c y t' e
              · exact h.wr c y t hc
            · split at hc
              · rename_i t' e; exact h.wr c y t' e
              · exact h.mwr c y c' j hc
          have hVs : S.T s = .sl xs true := hV
          obtain ⟨h2, h3, h4⟩ := h1.setM hb (o := off) (X := .sl xs true) (x := tv a s) (by simp [AVal.cells] at hle; omega) (by rw [← hVs]; exact hk1.rep (h.tmp s)) (unit_one (h.tmp s) (by rw [hVs]; rfl)) (fun b' o' hsp => by
            rw [← hVs] at hsp
            have := h.sp s b' o' hsp
            simp only [this, if_true])
          have hcells : (a.eval (.tmp s)).cells = #[tv a s] := by
            have := unit_one (h.tmp s) (by rw [hVs]; rfl)
            show (tv a s).cells = _
            generalize tv a s = v at this
            cases v <;> first | rfl | simp [one] at this
          refine wp_skip (hrun (w.setCell ⟨b, off, none⟩ (tv a s)) ?_) ?_
          · rw [hcells]
            show ((store ((⟨b, off, none⟩ : Addr).add 0) (tv a s)) >>= fun _ => (pure () : Sem Unit)).run P w = _
            rw [addr_add, Nat.add_zero, Sem.run_bind, h2]; rfl
          · rw [hdst]
            exact ⟨_, _, hs, h3, hk1.trans h4, rfl, rfl⟩
        | const v =>
          -- nothing but the nil slice
          have hv : v = .slice none 0 0 ∧ xs = [] := by
            have : ofConst v = .sl xs true := hV
            unfold ofConst at this
            split at this
            · cases this
            · cases this; exact ⟨rfl, rfl⟩
            · cases this
          obtain ⟨rfl, rfl⟩ := hv
          obtain ⟨h2, h3, h4⟩ := h.setM hb (o := off) (X := .sl [] true) (x := .slice none 0 0) (by simp [AVal.cells] at hle; omega) (.nil true) rfl (fun b' o' hsp => by
            obtain ⟨_, _, _, _, e, _⟩ := hsp.sl
            cases e)
          refine wp_skip (hrun (w.setCell ⟨b, off, none⟩ (.slice none 0 0)) ?_) ?_
          · show ((store ((⟨b, off, none⟩ : Addr).add 0) (.slice none 0 0)) >>= fun _ => (pure () : Sem Unit)).run P w = _
            rw [addr_add, Nat.add_zero, Sem.run_bind, h2]; rfl
          · rw [hdst]
            exact ⟨_, _, hs, h3, h4, rfl, rfl⟩
        | global g => cases hV
        | func f => cases hV
      · exact plain hs
    · exact hs.elim
  · exact hs.elim

end
end Go.Am
