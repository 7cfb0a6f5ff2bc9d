import Derived.Test.YtphenhkofjbeoaaAm19
namespace Go.Am
section
variable {P : Program} {κ : Ghost} {w : World} {a : Act} {o : Oper} {K : St → Prop} {Q : Exit → Act → World → Prop} {S : St}

theorem builtin_run {b : Builtin} {args : Array Operand} {argTypes : Array TypeId} (hop : o.op = .call { callee := .builtin b, args, argTypes }) :
    (execOp a.eval o).run P w = (builtin b argTypes o.type (args.map fun | .const _ => true | _ => false) (args.map a.eval)).run P w := by
  unfold execOp; rw [hop]; rfl

theorem two_args {args : Array Operand} {x y : Operand} (h : args.toList = [x, y]) (f : Operand → Value) : args.map f = #[f x, f y] := by
  apply Array.ext'
  rw [Array.toList_map, h]; rfl

theorem sound_append (h : Holds P κ S.T (tv a) S.M w) (hd : ∀ d, o.dst = some d → d < a.tmps.size) {args : Array Operand} {argTypes : Array TypeId} {x y : Operand} {d : Nat} (hop : o.op = .call { callee := .builtin .append, args, argTypes }) (hargs : args.toList = [x, y]) (hdst : o.dst = some d)
    (hne : ∀ t, x = .tmp t → o.dst ≠ some t) {l : List AVal} (ha : aAppend P argTypes (ev S.T x) (ev S.T y) = some l) (hK : K ((S.lose x).put (some d) (.sl l true))) : o.wp P a w (Next P κ w a K) Q := by
  have hrun : ∀ v w', (Builtin.append_ argTypes o.type #[a.eval x, a.eval y]).run P w = .ok v w' → (execOp a.eval o).run P w = .ok (.value v) w' := fun v w' hw => by
    rw [builtin_run hop, two_args hargs]
    exact run_val hw
  cases x with
  | tmp s =>
    have hsd : s ≠ d := fun e => hne s rfl (by rw [hdst, e])
    obtain ⟨v, κ', w', h1, h2, h3⟩ := append_slot h s d hsd (ty := o.type) (rep_ev h y) ha
    refine wp_value (hrun v w' h1) ?_
    have := next_put (P := P) (κ := κ) (κ' := κ') (w := w) (w' := w') (v := v) (S' := S.lose (.tmp s)) (X := .sl l true) hd (by rw [hdst]; exact hK : K (St.put _ o.dst _)) (fun d' e => by rw [hdst] at e; cases e; exact h2) (fun e => by rw [hdst] at e; cases e) h3
    exact this
  | const c =>
    have hc : c = .slice none 0 0 := by
      obtain ⟨o', -⟩ := aAppend_ok ha
      have : ofConst c = .sl o'.l true := o'.hX
      unfold ofConst at this
      split at this
      · cases this
      · rfl
      · cases this
    subst hc
    obtain ⟨v, κ', w', h1, h2, h3⟩ := append_nil h d (ty := o.type) (rep_ev h y) ha
    refine wp_value (hrun v w' h1) ?_
    exact next_put (P := P) (κ := κ) (κ' := κ') (w := w) (w' := w') (v := v) (S' := S) (X := .sl l true) hd (by rw [hdst]; exact hK : K (St.put _ o.dst _)) (fun d' e => by rw [hdst] at e; cases e; exact h2) (fun e => by rw [hdst] at e; cases e) h3
  | global g =>
    obtain ⟨o', -⟩ := aAppend_ok ha
    have := o'.hX
    cases this
  | func f =>
    obtain ⟨o', -⟩ := aAppend_ok ha
    have := o'.hX
    cases this

/-- The tags behind the loss of a map's entry. -/
def delTag (κ : Ghost) (r i : Nat) : Ghost := fun b o => match κ b o with
  | .mslot c j => if c = r then (if j < i then .mslot c j else if j = i then .free else .mslot c (j - 1)) else .mslot c j
  | x => x

theorem delTag_slot {r i b o t : Nat} : κ b o = .slot t ↔ delTag κ r i b o = .slot t := by
  unfold delTag
  split
  · rename_i h
    rw [h]
    constructor
    · intro e; cases e
    · intro e
      split at e
      · split at e
        · cases e
        · split at e <;> cases e
      · cases e
  · rfl

theorem delTag_mslot {r i b o c j : Nat} (h : delTag κ r i b o = .mslot c j) : ∃ c' j', κ b o = .mslot c' j' := by
  unfold delTag at h
  split at h
  · rename_i c' j' h1; exact ⟨c', j', h1⟩
  · exact ⟨c, j, h⟩

theorem sound_delete (h : Holds P κ S.T (tv a) S.M w) (hd : ∀ d, o.dst = some d → d < a.tmps.size) {args : Array Operand} {argTypes : Array TypeId} {m k : Operand} {t : TypeId} (hop : o.op = .call { callee := .builtin .delete, args, argTypes }) (hargs : args.toList = [m, k]) (ht : argTypes[0]? = some t)
    (hs : aDelete P t (ev S.T m) (ev S.T k) o.dst S K) : o.wp P a w (Next P κ w a K) Q := by
  unfold aDelete at hs
  split at hs
  · rename_i kt et r kv hu hm hk
    split at hs
    · rename_i es hb
      split at hs
      · rename_i q at? hc hat
        have hme := rep_ev h m; rw [hm] at hme
        have hke := rawOf_rep hk (rep_ev h k)
        obtain ⟨ents, clock, b1, b2, b3, b4, b5⟩ := h.obj r _ hb
        have hkeys := keys_of b2 fun j e ent e1 e2 => (b3 j e ent e1 e2).1
        obtain ⟨hka1, hka2⟩ := keyAt_run hat hkeys
        have hemp : ents.isEmpty = es.isEmpty := by
          cases es with
          | nil => simpa using b2
          | cons e es => simp [Array.isEmpty, b2]
        have hc' := pr_run hc w
        rw [← hemp] at hc'
        have hrunU : ∀ w', (Builtin.delete_ argTypes o.type #[.map (some r), kv]).run P w = .ok (.tuple #[]) w' → (execOp a.eval o).run P w = .ok (.value (.tuple #[])) w' := fun w' hw => by
          rw [builtin_run hop, two_args hargs, rep_raw hme, hke]
          exact run_val hw
        cases hat' : at? with
        | none =>
          subst hat'
          have hrun : (Builtin.delete_ argTypes o.type #[.map (some r), kv]).run P w = .ok (.tuple #[]) (putObj w r (.map ents clock)) := by
            simp [Builtin.delete_, ht, pr_run (pr_underlying hu) w, run_getObj' b1, hc', pr_run (hka1 rfl) w, run_setObj b1]
          obtain ⟨h1, hk1⟩ := h.setMap (r := r) (es' := es) (ents := ents) (clock := clock) hb b2 b3 b4 b5
          exact wp_value (hrunU _ hrun) (next_put (S' := S.upd r (.map es)) hd hs (fun d _ => h1.put d (.raw _) fun _ _ => Spare.not_raw) (fun _ => h1) hk1)
        | some i =>
          subst hat'
          obtain ⟨e0, he0, hf⟩ := hka2 i rfl
          have hi : i < es.length := by
            rw [← b2]
            rcases Nat.lt_or_ge i ents.size with h' | h'
            · exact h'
            · rw [Array.getElem?_eq_none h'] at he0; cases he0
          have hrun : (Builtin.delete_ argTypes o.type #[.map (some r), kv]).run P w = .ok (.tuple #[]) (putObj w r (.map (ents.eraseIdxIfInBounds i) clock)) := by
            simp [Builtin.delete_, ht, pr_run (pr_underlying hu) w, run_getObj' b1, hc', pr_run hf w, run_setObj b1]
          have her : ents.eraseIdxIfInBounds i = ents.eraseIdx i (by omega) := by
            simp [Array.eraseIdxIfInBounds, b2, hi]
          have hget : ∀ j : Nat, (ents.eraseIdxIfInBounds i)[j]? = if j < i then ents[j]? else ents[j + 1]? := fun j => by
            rw [her, Array.getElem?_eraseIdx]
          obtain ⟨h1, hk1⟩ := h.setMap' (κ' := delTag κ r i) (r := r) (es' := es.eraseIdx i) (ents := ents.eraseIdxIfInBounds i) (clock := clock) hb
            (fun b o e => by unfold delTag; rw [e]) (fun b o e => by unfold delTag; rw [e]) (fun b o t => delTag_slot) (fun b o c j hc e => by unfold delTag; rw [e]; simp only [if_neg hc]) (fun b o e => by unfold delTag; rw [e]) (fun b o c j e => delTag_mslot e)
            (by rw [her, Array.size_eraseIdx, List.length_eraseIdx_of_lt hi, b2])
            (fun j e ent e1 e2 => by
              rw [hget] at e2
              rw [List.getElem?_eraseIdx] at e1
              split at e2
              · rename_i hj
                rw [if_pos hj] at e1
                obtain ⟨c1, c2, c3⟩ := b3 j e ent e1 e2
                exact ⟨c1, c2, fun b' o' hsp => by unfold delTag; rw [c3 b' o' hsp]; simp only [if_true, if_pos hj]⟩
              · rename_i hj
                rw [if_neg hj] at e1
                obtain ⟨c1, c2, c3⟩ := b3 (j + 1) e ent e1 e2
                exact ⟨c1, c2, fun b' o' hsp => by unfold delTag; rw [c3 b' o' hsp]; simp only [if_true, if_neg (show ¬ j + 1 < i by omega), if_neg (show ¬ j + 1 = i by omega), Nat.add_sub_cancel]⟩)
            (fun j ent e => by
              rw [hget] at e
              split at e <;> exact b4 _ ent e)
            (fun x y p q e1 e2 he => by
              rw [hget] at e1 e2
              split at e1 <;> split at e2
              · exact b5 _ _ p q e1 e2 he
              · have := b5 _ _ p q e1 e2 he; omega
              · have := b5 _ _ p q e1 e2 he; omega
              · have := b5 _ _ p q e1 e2 he; omega)
          exact wp_value (hrunU _ hrun) (next_put (S' := S.upd r (.map (es.eraseIdx i))) hd hs (fun d _ => h1.put d (.raw _) fun _ _ => Spare.not_raw) (fun _ => h1) hk1)
      · exact hs.elim
    · exact hs.elim
  · exact hs.elim

/-- The tags behind a slice's move out of memory. -/
def takeTag (κ : Ghost) (c j d : Nat) : Ghost := fun b o => match κ b o with
  | .mslot c' j' => if c' = c ∧ j' = j then .slot d else .mslot c' j'
  | x => x

theorem sound_take (h : Holds P κ S.T (tv a) S.M w) (hd : ∀ d, o.dst = some d → d < a.tmps.size) {t : TypeId} {x : Operand} (hop : o.op = .load t x) (hs : aTake P t (ev S.T x) o.dst S K) : o.wp P a w (Next P κ w a K) Q := by
  unfold aTake at hs
  split at hs
  · rename_i b off d hx hdst
    have hxe := rep_ev h x; rw [hx] at hxe
    split at hs
    · rename_i l hb
      split at hs
      · rename_i xs hl
        obtain ⟨ha, hn, hK⟩ := hs
        obtain ⟨c, e, fr, a1, a2, a3, a4⟩ := h.obj b _ hb
        have hlt : off < l.length := by
          rcases Nat.lt_or_ge off l.length with h' | h'
          · exact h'
          · rw [List.getElem?_eq_none h'] at hl; cases hl
        have hcv : c[off]? = some c[off] := Array.getElem?_eq_getElem (by omega)
        obtain ⟨r1, r2, r3⟩ := a4 off _ _ hl hcv
        have hrun : (execOp a.eval o).run P w = .ok (.value c[off]) w := by
          unfold execOp; rw [hop]
          refine run_val (s := Instr.loadAt t (a.eval x)) ?_
          rw [rep_raw hxe]
          show (loadVar t ⟨b, off, none⟩).run P w = _
          show ((isAgg t) >>= _).run P w = _
          rw [run_bind_pr (pr_aggT ha)]
          show (Sem.load .plain ⟨b, off, none⟩ .pure).run P w = _
          simp only [Sem.run, cell_of_cells a1, hcv]
        have himm : ∀ b' o', κ b' o' = .imm → takeTag κ b off d b' o' = .imm := fun b' o' e => by unfold takeTag; rw [e]
        have hframe : ∀ b' o', κ b' o' = .frame → takeTag κ b off d b' o' = .frame := fun b' o' e => by unfold takeTag; rw [e]
        have hk : Keep κ w (takeTag κ b off d) w := Keep.tags himm hframe
        have hms : ∀ b' o' c' j', ¬ (c' = b ∧ j' = off) → κ b' o' = .mslot c' j' → takeTag κ b off d b' o' = .mslot c' j' := fun b' o' c' j' hne e => by unfold takeTag; rw [e]; simp only [if_neg hne]
        refine wp_value hrun ?_
        have hH : Holds P (takeTag κ b off d) (setT S.T d (.sl xs true)) (fun t => if t = d then c[off] else tv a t) (S.M.upd b (.cells (l.set off (.sl xs false)))) w := by
          refine ⟨fun t => ?_, fun c' p hc => ?_, fun c' y hc => ?_, fun t c' y hsp => ?_, fun c' y t hc => ?_, fun c' y c2 j hc => ?_⟩
          · unfold setT
            split
            · exact hk.rep r1
            · exact hk.rep (h.tmp t)
          · unfold Mem.upd at hc
            split at hc
            · rename_i e'; subst e'; cases hc
              refine ⟨c, e, fr, a1, by simp [a2], a3, fun j V v e1 e2 => ?_⟩
              by_cases hj : off = j
              · subst hj
                rw [List.getElem?_set_self hlt] at e1
                rw [hcv] at e2
                cases e1; cases e2
                exact ⟨hk.rep r1.shut, r2, fun b' o' hsp => absurd hsp (Spare.not_free (by simp [AVal.free]))⟩
              · rw [List.getElem?_set_ne hj] at e1
                obtain ⟨s1, s2, s3⟩ := a4 j V v e1 e2
                exact ⟨hk.rep s1, s2, fun b' o' hsp => hms _ _ _ _ (fun ⟨_, e⟩ => hj e.symm) (s3 b' o' hsp)⟩
            · rename_i e'
              exact (h.obj c' p hc).tags himm (fun b' o' j e => hms _ _ _ _ (fun ⟨e2, _⟩ => e' e2) e)
          · have hc0 : κ c' y ≠ .free := fun e => hc (by unfold takeTag; rw [e])
            refine ⟨(h.tag c' y hc0).1, ?_⟩
            unfold Mem.upd
            split
            · rename_i e'; subst e'; exact absurd (h.free_of hb y) hc0
            · exact (h.tag c' y hc0).2
          · unfold setT at hsp
            split at hsp
            · rename_i e'; subst e'
              have := r3 c' y hsp
              unfold takeTag; rw [this]; simp
            · have := h.sp t c' y hsp
              unfold takeTag; rw [this]
          · unfold takeTag at hc
            split at hc
            · rename_i c2 j2 e'; exact h.mwr c' y c2 j2 e'
            · exact h.wr c' y t hc
          · unfold takeTag at hc
            split at hc
            · rename_i c3 j3 e'; exact h.mwr c' y c3 j3 e'
            · exact h.mwr c' y c2 j hc
        exact next_put (P := P) (κ := κ) (κ' := takeTag κ b off d) (w := w) (w' := w) (v := c[off]) (S' := S.upd b (.cells (l.set off (.sl xs false)))) (X := .sl xs true) hd (by rw [hdst]; exact hK) (fun d' e => by rw [hdst] at e; cases e; exact hH) (fun e => by rw [hdst] at e; cases e) hk
      · exact hs.elim
    · exact hs.elim
  · exact hs.elim

end
end Go.Am
