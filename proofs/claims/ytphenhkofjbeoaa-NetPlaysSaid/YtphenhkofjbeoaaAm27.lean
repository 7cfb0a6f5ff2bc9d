import Derived.Test.YtphenhkofjbeoaaAm26
set_option linter.unusedSimpArgs false
set_option linter.unusedVariables false
/-! A struct is built and laid into new memory at one go: a slice that goes into it keeps the right to append. -/
namespace Go.Am
section
variable {P : Program} {κ : Ghost} {w : World} {a : Act} {K : St → Prop} {Q : Exit → Act → World → Prop} {S : St}

theorem setCell_same {w : World} {b o : Nat} {x : Value} (h : w.cell? ⟨b, o, none⟩ = some x) : w.setCell ⟨b, o, none⟩ x = w := by
  unfold World.cell? at h
  unfold World.setCell
  have : w.heap.modify b (fun | .cells c elem frozen => .cells (if (none : Option Nat).isSome then c else c.setIfInBounds o x) elem frozen | o => o) = w.heap := by
    apply Array.ext
    · rw [Array.size_modify]
    · intro i h1 h2
      rw [Array.getElem_modify]
      split
      · rename_i e
        subst e
        rw [Array.getElem?_eq_getElem h2] at h
        dsimp only at h
        split at h
        · rename_i c e' fr hc
          rw [Option.some.inj hc]
          simp only [Option.isSome_none, Bool.false_eq_true, ↓reduceIte] at h ⊢
          congr 1
          apply Array.ext
          · simp
          · intro j h3 h4
            rw [Array.getElem_setIfInBounds]
            split
            · rename_i e2; subst e2
              rw [Array.getElem?_eq_getElem h4] at h
              exact (Option.some.inj h).symm
            · rfl
        · cases h
      · rfl
  show ({ w with heap := _ } : World) = w
  exact congrArg (fun h => ({ w with heap := h } : World)) this

/-- The right to append goes from a temporary to a cell that holds the same slice. -/
theorem Holds.adopt {T : Nat → AVal} {M : Mem} (h : Holds P κ T (tv a) M w) {s b off : Nat} {xs l : List AVal} (hV : T s = .sl xs true) (hb : M b = some (.cells l)) (hle : off < l.length) (hc : w.cell? ⟨b, off, none⟩ = some (tv a s)) :
    ∃ κ', Holds P κ' (setT T s (.sl xs false)) (tv a) (M.upd b (.cells (l.set off (.sl xs true)))) w ∧ Keep κ w κ' w := by
  have hk1 : Keep κ w (fun b' o' => match κ b' o' with | .slot t => if t = s then .mslot b off else .slot t | y => y) w := Keep.tags (fun b' o' e => by simp only [e]) (fun b' o' e => by simp only [e])
  have h1 : Holds P (fun b' o' => match κ b' o' with | .slot t => if t = s then .mslot b off else .slot t | y => y) (setT T s (T s).shut) (tv a) M w := by
    refine ⟨fun t => ?_, fun c p hc => (h.obj c p hc).tags (fun b' o' e => by simp only [e]) (fun b' o' j e => by simp only [e]), fun c y hc => h.tag c y fun e => hc (by simp only [e]), fun t c y hsp => ?_, fun c y t hc => ?_, fun c y c' j hc => ?_⟩
    · unfold setT
      split
      · rename_i e; subst e; exact hk1.rep (h.tmp t).shut
      · exact hk1.rep (h.tmp t)
    · unfold setT at hsp
      split at hsp
      · exact absurd hsp Spare.not_shut
      · rename_i e
        have := h.sp t c y hsp
        simp only [this, if_neg e]
    · split at hc
      · rename_i t' e; exact h.wr c y t' e
      · exact h.wr c y t hc
    · split at hc
      · rename_i t' e; exact h.wr c y t' e
      · exact h.mwr c y c' j hc
  obtain ⟨h2, h3, h4⟩ := h1.setM hb (o := off) (X := .sl xs true) (x := tv a s) hle (by rw [← hV]; exact hk1.rep (h.tmp s)) (unit_one (h.tmp s) (by rw [hV]; rfl)) (fun b' o' hsp => by
    rw [← hV] at hsp
    have := h.sp s b' o' hsp
    simp only [this, if_true])
  rw [setCell_same hc] at h3 h4
  rw [hV] at h3
  exact ⟨_, h3, hk1.trans h4⟩

/-- A struct is built of parts, one of which may be appended to, and laid into new memory. -/
def aFuse (P : Program) (s off : Nat) (o o' : Oper) (K : St → Prop) (S : St) : Prop :=
  ∃ t parts d e cs xs, o.op = .build t parts ∧ o.dst = some d ∧ o.guard = none ∧ o'.op = .box t (.tmp d) ∧ o'.dst = some e ∧ o'.guard = none ∧ s ≠ d ∧ S.T s = .sl xs true ∧
    aop P S.T S.M o.type o.op = some (.agg cs) ∧ (AVal.agg cs).ok = true ∧ off < cs.length ∧
    (∀ v n c, ∃ cv, aop P (setT S.T s (.raw (.slice v n c))) S.M o.type o.op = some (.agg cv) ∧ cv[off]? = some (.raw (.slice v n c))) ∧
    ∀ b, S.M b = none → K ⟨setT (setT (setT S.T d (.agg cs)) s (.sl xs false)) e (.raw (.pointer (some ⟨b, 0, none⟩))), S.M.upd b (.cells ((cs.map AVal.shut).set off (.sl xs true)))⟩

theorem aFuse_mono {s off : Nat} {o o' : Oper} {K' : St → Prop} (hK : ∀ S, K S → K' S) (h : aFuse P s off o o' K S) : aFuse P s off o o' K' S := by
  obtain ⟨t, parts, d, e, cs, xs, h1, h2, h3, h4, h5, h6, h7, h8, h9, h10, h11, h12, h13⟩ := h
  exact ⟨t, parts, d, e, cs, xs, h1, h2, h3, h4, h5, h6, h7, h8, h9, h10, h11, h12, fun b hb => hK _ (h13 b hb)⟩

theorem aFuse_sound {s off : Nat} {o o' : Oper} (h : Holds P κ S.T (tv a) S.M w) (hd : ∀ d, o.dst = some d → d < a.tmps.size) (hd' : ∀ d, o'.dst = some d → d < a.tmps.size) (hf : aFuse P s off o o' K S) :
    o.wp P a w (fun a1 w1 => o'.wp P a1 w1 (Next P κ w a K) Q) Q := by
  obtain ⟨t, parts, d, e, cs, xs, h1, h2, h3, h4, h5, h6, h7, h8, h9, h10, h11, h12, h13⟩ := hf
  obtain ⟨u, hrun, hrep⟩ := aop_sound (a := a) h.tmp h.obj h9
  have hs := h.tmp s
  rw [h8] at hs
  obtain ⟨v, n, c, hv⟩ : ∃ v n c, tv a s = .slice v n c := by
    rcases rep_sl_inv hs with ⟨-, e⟩ | ⟨b, off, cap, sz, cv, e, -⟩
    · exact ⟨_, _, _, e⟩
    · exact ⟨_, _, _, e⟩
  obtain ⟨cv, h14, h15⟩ := h12 v n c
  obtain ⟨u', hrun', hrep'⟩ := aop_sound (a := a) (T := setT S.T s (.raw (.slice v n c))) (fun t => by
    unfold setT
    split
    · rename_i e1; subst e1
      have : a.eval (.tmp t) = .slice v n c := hv
      rw [this]; exact .raw _
    · exact h.tmp t) h.obj h14
  have hu : u' = u := by
    rw [hrun] at hrun'
    cases hrun'; rfl
  subst hu
  refine wp_value hrun ?_
  cases hrep with
  | agg _ vs hl hr =>
  have hcell : vs[off]? = some (tv a s) := by
    cases hrep' with
    | agg _ _ hl' hr' =>
      have hlt : off < vs.size := by omega
      have := hr' off _ vs[off] h15 (by simp [hlt])
      have e := rep_raw this
      rw [Array.getElem?_eq_getElem hlt, e, hv]
  have hdlt := hd d h2
  rw [h2]
  have hh : Holds P κ (setT S.T d (.agg cs)) (tv (a.put (some d) (.agg vs))) S.M w := by
    rw [tv_put _ hdlt]
    exact h.put d (.agg _ vs hl hr) fun _ _ hsp => by
      rcases hsp with ⟨l, o1, c1, e1, -⟩ | ⟨Vs, vs', i, X, x, e1, -⟩ <;> cases e1
  have htd : tv (a.put (some d) (.agg vs)) d = .agg vs := by rw [tv_put _ hdlt]; simp
  have hts : tv (a.put (some d) (.agg vs)) s = tv a s := by rw [tv_put _ hdlt]; simp [h7]
  have hrun2 : (execOp (a.put (some d) (.agg vs)).eval o').run P w = .ok (.value (.pointer (some ⟨w.heap.size, 0, none⟩))) (push w (.cells vs t)) := by
    unfold execOp; rw [h4]
    have e1 : (a.put (some d) (.agg vs)).eval (.tmp d) = .agg vs := htd
    refine (run_val (s := Instr.box t ((a.put (some d) (.agg vs)).eval (.tmp d))) rfl).trans ?_
    rw [e1]; rfl
  obtain ⟨hcl, hcu⟩ := ok_cells (P := P) (κ := κ) (w := w) (Rep.agg _ vs hl hr) h10
  obtain ⟨hn, hk⟩ := hh.newObj (l := cs.map AVal.shut) (cs := vs) (e := t) (fr := (0, 0)) (by rw [List.length_map]; exact hl.symm) (fun j X y e1 e2 => by
    simp only [List.getElem?_map, Option.map_eq_some_iff] at e1
    obtain ⟨Y, e1, rfl⟩ := e1
    have := hcl.2 j Y y e1 e2
    exact ⟨this.shut, unit_one this (hcu Y (List.mem_of_getElem? e1)), fun _ _ => Spare.not_shut⟩) (fun _ _ => by simp)
  have hTs : setT S.T d (.agg cs) s = .sl xs true := by unfold setT; rw [if_neg h7, h8]
  obtain ⟨κ', hn', hk'⟩ := hn.adopt (s := s) (b := w.heap.size) (off := off) (xs := xs) hTs (Mem.upd_self _ _ _) (by rw [List.length_map]; exact h11) (by
    unfold World.cell?
    rw [show (push w (.cells vs t)).heap[w.heap.size]? = some (.cells vs t) from push_new w _]
    dsimp only
    rw [if_neg (by simp), hcell, hts])
  rw [Mem.upd_upd] at hn'
  have hsz : (a.put (some d) (.agg vs)).tmps.size = a.tmps.size := put_size ..
  have := wp_value (o := o') (Q := Q) hrun2 (next_put (K := K) (S' := ⟨setT (setT S.T d (.agg cs)) s (.sl xs false), _⟩) (fun d hd => by rw [hsz]; exact hd' d hd) (by rw [h5]; exact h13 _ h.fresh) (fun d _ => hn'.put d (.raw _) fun _ _ => Spare.not_raw) (fun _ => hn') (hk.trans hk'))
  exact Oper.wp_mono (fun a' w' hx => Next.trans (Keep.refl κ w) hsz (put_defers ..) hx) this
end
end Go.Am
