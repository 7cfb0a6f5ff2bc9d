import Derived.Test.YtphenhkofjbeoaaAm18
namespace Go.Am
section
variable {P : Program} {κ : Ghost} {w : World} {a : Act} {o : Oper} {K : St → Prop} {Q : Exit → Act → World → Prop} {S : St}

def putObj (w : World) (r : Nat) (ob : Obj) : World := { w with heap := w.heap.setIfInBounds r ob }

theorem putObj_ne {r b : Nat} {ob : Obj} (h : b ≠ r) : (putObj w r ob).heap[b]? = w.heap[b]? := by
  show (w.heap.setIfInBounds r ob)[b]? = _
  rw [Array.getElem?_setIfInBounds_ne (Ne.symm h)]

theorem putObj_eq {r : Nat} {ob : Obj} (h : r < w.heap.size) : (putObj w r ob).heap[r]? = some ob := by
  show (w.heap.setIfInBounds r ob)[r]? = _
  rw [Array.getElem?_setIfInBounds_self_of_lt h]

/-- A map's entries have turned. -/
theorem Holds.setMap' {κ' : Ghost} {T : Nat → AVal} {V : Nat → Value} {M : Mem} (h : Holds P κ T V M w) {r : Nat} {es es' : List (Value × AVal)} {ents : Array MapEntry} {clock : Nat} (hb : M r = some (.map es)) (ki : ∀ b o, κ b o = .imm → κ' b o = .imm) (kf : ∀ b o, κ b o = .frame → κ' b o = .frame) (ks : ∀ b o t, κ b o = .slot t ↔ κ' b o = .slot t)
    (km : ∀ b o c j, c ≠ r → κ b o = .mslot c j → κ' b o = .mslot c j) (kz : ∀ b o, κ b o = .free → κ' b o = .free) (kw : ∀ b o c j, κ' b o = .mslot c j → ∃ c' j', κ b o = .mslot c' j') (hsz : ents.size = es'.length)
    (hr : ∀ (j : Nat) e ent, es'[j]? = some e → ents[j]? = some ent → ent.key = e.1 ∧ Rep P κ w e.2 ent.val ∧ ∀ b' o', Spare P w e.2 ent.val b' o' → κ' b' o' = .mslot r j)
    (hc : ∀ (j : Nat) ent, ents[j]? = some ent → ent.born < clock) (hi : ∀ (i j : Nat) x y, ents[i]? = some x → ents[j]? = some y → x.born = y.born → i = j) :
    Holds P κ' T V (M.upd r (.map es')) (putObj w r (.map ents clock)) ∧ Keep κ w κ' (putObj w r (.map ents clock)) := by
  obtain ⟨ents0, clock0, b1, -, -, -, -⟩ := h.obj r _ hb
  have hlt := h.lt hb
  have hcell : ∀ b o, (putObj w r (.map ents clock)).cell? ⟨b, o, none⟩ = w.cell? ⟨b, o, none⟩ := fun b o => by
    by_cases e : b = r
    · subst e
      unfold World.cell?
      simp only [putObj_eq hlt, b1]
    · exact cell_of_block (putObj_ne e)
  have hfro : ∀ b o, (putObj w r (.map ents clock)).frozen? ⟨b, o, none⟩ = w.frozen? ⟨b, o, none⟩ := fun b o => by
    by_cases e : b = r
    · subst e
      unfold World.frozen?
      simp only [putObj_eq hlt, b1]
    · exact frozen_of_block (putObj_ne e)
  have hsh : ∀ b, (putObj w r (.map ents clock)).shape? b = w.shape? b := fun b => by
    by_cases e : b = r
    · subst e
      unfold World.shape?
      simp only [putObj_eq hlt, b1]
    · exact shape_of_block (putObj_ne e)
  have hsize : (putObj w r (.map ents clock)).heap.size = w.heap.size := by simp [putObj]
  have hk : Keep κ w κ' (putObj w r (.map ents clock)) := ⟨rfl, rfl, rfl, by rw [hsize]; exact Nat.le_refl _, fun b _ => hsh b, fun b o e => ⟨ki b o e, hcell b o⟩, fun b o e => ⟨kf b o e, hcell b o, hfro b o⟩, fun b _ hp => putObj_ne fun e => by
    subst e
    have := h.free_of hb 0
    rcases hp 0 with e | e <;> rw [this] at e <;> cases e⟩
  refine ⟨⟨fun t => hk.rep (h.tmp t), fun d p hd => ?_, fun d y hd => ?_, fun t d y hsp => (ks d y t).1 (h.sp t d y (hsp.keep (h.tmp t) hk.shape)), fun d y t hd => ?_, fun d y c' j hd => ?_⟩, hk⟩
  · unfold Mem.upd at hd
    split at hd
    · rename_i e; subst e; cases hd
      exact ⟨ents, clock, putObj_eq hlt, hsz, fun j e ent e1 e2 => ⟨(hr j e ent e1 e2).1, hk.rep (hr j e ent e1 e2).2.1, fun b' o' hsp => (hr j e ent e1 e2).2.2 b' o' (hsp.keep (hr j e ent e1 e2).2.1 hk.shape)⟩, hc, hi⟩
    · rename_i e'
      have hblk : (putObj w r (.map ents clock)).heap[d]? = w.heap[d]? := putObj_ne e'
      have := h.obj d p hd
      cases p with
      | it o => exact ⟨hblk.trans this.1, this.2⟩
      | cells l' =>
        obtain ⟨c', e, fr, b1, b2, b3, b4⟩ := this
        exact ⟨c', e, fr, hblk.trans b1, b2, fun y hy => (hfro d y).trans (b3 y hy), fun j Y y e1 e2 => ⟨hk.rep (b4 j Y y e1 e2).1, (b4 j Y y e1 e2).2.1, fun b' o' hsp => km b' o' d j e' ((b4 j Y y e1 e2).2.2 b' o' (hsp.keep (b4 j Y y e1 e2).1 hk.shape))⟩⟩
      | map es =>
        obtain ⟨ents, clock, b1, b2, b3, b4, b5⟩ := this
        exact ⟨ents, clock, hblk.trans b1, b2, fun j e ent e1 e2 => ⟨(b3 j e ent e1 e2).1, hk.rep (b3 j e ent e1 e2).2.1, fun b' o' hsp => km b' o' d j e' ((b3 j e ent e1 e2).2.2 b' o' (hsp.keep (b3 j e ent e1 e2).2.1 hk.shape))⟩, b4, b5⟩
  · have hd : κ d y ≠ .free := fun e => hd (kz d y e)
    refine ⟨by rw [hsize]; exact (h.tag d y hd).1, ?_⟩
    unfold Mem.upd
    split
    · rename_i e'; subst e'; exact absurd (h.free_of hb y) hd
    · exact (h.tag d y hd).2
  · have := h.wr d y t ((ks d y t).2 hd)
    exact ⟨by rw [hcell]; exact this.1, by rw [hfro]; exact this.2⟩
  · obtain ⟨c2, j2, hd2⟩ := kw d y c' j hd
    have := h.mwr d y c2 j2 hd2
    exact ⟨by rw [hcell]; exact this.1, by rw [hfro]; exact this.2⟩

theorem Holds.setMap {T : Nat → AVal} {V : Nat → Value} {M : Mem} (h : Holds P κ T V M w) {r : Nat} {es es' : List (Value × AVal)} {ents : Array MapEntry} {clock : Nat} (hb : M r = some (.map es)) (hsz : ents.size = es'.length)
    (hr : ∀ (j : Nat) e ent, es'[j]? = some e → ents[j]? = some ent → ent.key = e.1 ∧ Rep P κ w e.2 ent.val ∧ ∀ b' o', Spare P w e.2 ent.val b' o' → κ b' o' = .mslot r j)
    (hc : ∀ (j : Nat) ent, ents[j]? = some ent → ent.born < clock) (hi : ∀ (i j : Nat) x y, ents[i]? = some x → ents[j]? = some y → x.born = y.born → i = j) :
    Holds P κ T V (M.upd r (.map es')) (putObj w r (.map ents clock)) ∧ Keep κ w κ (putObj w r (.map ents clock)) :=
  h.setMap' hb (fun _ _ e => e) (fun _ _ e => e) (fun _ _ _ => Iff.rfl) (fun _ _ _ _ _ e => e) (fun _ _ e => e) (fun _ _ c j e => ⟨c, j, e⟩) hsz hr hc hi

theorem run_setObj {r : Nat} {ents : Array MapEntry} {clock : Nat} (h : w.heap[r]? = some (.map ents clock)) (ob : Obj) : (setObj r ob).run P w = .ok () (putObj w r ob) := by
  show (Sem.setObj r ob (.pure ())).run P w = _
  simp only [Sem.run, h]; rfl

theorem sound_mapUpdate (h : Holds P κ S.T (tv a) S.M w) (hdst : o.dst = none) {t : TypeId} {m k x : Operand} (hop : o.op = .mapUpdate t m k x ∨ o.op = .insert t m k x)
    (hs : aMapUpdate P t (ev S.T m) (ev S.T k) (ev S.T x) S K) : o.wp P a w (Next P κ w a K) Q := by
  unfold aMapUpdate at hs
  split at hs
  · rename_i kt et r kv hu hm hk
    split at hs
    · rename_i es hb
      split at hs
      · rename_i q at? hc hat
        obtain ⟨hsame, hK⟩ := hs
        have hme := rep_ev h m; rw [hm] at hme
        have hke := rawOf_rep hk (rep_ev h k)
        have hxe := rep_ev h x
        obtain ⟨ents, clock, b1, b2, b3, b4, b5⟩ := h.obj r _ hb
        have hkeys := keys_of b2 fun j e ent e1 e2 => (b3 j e ent e1 e2).1
        obtain ⟨hka1, hka2⟩ := keyAt_run hat hkeys
        have hrunU : ∀ w', (Instr.mapUpdate t (.map (some r)) kv (a.eval x)).run P w = .ok () w' → (execOp a.eval o).run P w = .ok .skip w' := fun w' hw => by
          have : (execOp a.eval o).run P w = (Instr.mapUpdate t (a.eval m) (a.eval k) (a.eval x) >>= fun _ => (pure Next.skip : Sem Go.Next)).run P w := by
            unfold execOp; rcases hop with hop | hop <;> rw [hop] <;> rfl
          rw [this, rep_raw hme, hke, Sem.run_bind, hw]; rfl
        cases hat' : at? with
        | none =>
          subst hat'
          have hrun : (Instr.mapUpdate t (.map (some r)) kv (a.eval x)).run P w = .ok () (putObj w r (.map (ents.push { key := kv, val := a.eval x, born := clock }) (clock + 1))) := by
            show ((underlying t) >>= _).run P w = _
            rw [run_bind_pr (pr_underlying hu)]
            show ((getObj r) >>= _).run P w = _
            rw [run_getObj b1]
            show ((Instr.checkKey false 10000 kt kv) >>= _).run P w = _
            rw [run_bind_pr hc]
            show ((Instr.findKey kt kv ents.toList) >>= _).run P w = _
            rw [run_bind_pr (hka1 rfl)]
            exact run_setObj b1 _
          obtain ⟨h1, hk1⟩ := h.setMap (r := r) (es' := putEntry es none kv (ev S.T x).shut) (ents := ents.push { key := kv, val := a.eval x, born := clock }) (clock := clock + 1) hb (by simp [putEntry, b2])
            (fun j e ent e1 e2 => by
              simp only [putEntry] at e1
              by_cases hj : j < es.length
              · rw [List.getElem?_append_left hj] at e1
                rw [Array.getElem?_push, if_neg (by omega)] at e2
                exact b3 j e ent e1 e2
              · have hj' : j = es.length := by
                  rw [List.getElem?_append_right (by omega)] at e1
                  rcases Nat.lt_or_ge (j - es.length) 1 with h' | h'
                  · omega
                  · rw [List.getElem?_eq_none (by simpa using h')] at e1; cases e1
                subst hj'
                rw [List.getElem?_append_right (by omega), Nat.sub_self, List.getElem?_cons_zero] at e1
                rw [Array.getElem?_push, if_pos b2.symm] at e2
                cases e1; cases e2
                exact ⟨rfl, hxe.shut, fun b' o' hsp => absurd hsp Spare.not_shut⟩)
            (fun j ent e => by
              rw [Array.getElem?_push] at e
              split at e
              · cases e; simp
              · have := b4 j ent e; omega)
            (fun i j x' y e1 e2 he => by
              rw [Array.getElem?_push] at e1 e2
              split at e1 <;> split at e2
              · omega
              · cases e1; have := b4 j y e2; simp at he; omega
              · cases e2; have := b4 i x' e1; simp at he; omega
              · exact b5 i j x' y e1 e2 he)
          refine wp_skip (hrunU _ hrun) ?_
          rw [hdst]
          exact ⟨κ, _, hK, h1, hk1, rfl, rfl⟩
        | some i =>
          subst hat'
          obtain ⟨e0, he0, hf⟩ := hka2 i rfl
          have hi : i < es.length := by
            rw [← b2]
            rcases Nat.lt_or_ge i ents.size with h' | h'
            · exact h'
            · rw [Array.getElem?_eq_none h'] at he0; cases he0
          have hsm := hsame i rfl
          have hkey0 : e0.key = es[i].1 := (b3 i _ _ (List.getElem?_eq_getElem hi) he0).1
          rw [List.getElem?_eq_getElem hi, Option.map_some, Option.getD_some, ← hkey0] at hsm
          have hrun : (Instr.mapUpdate t (.map (some r)) kv (a.eval x)).run P w = .ok () (putObj w r (.map (ents.modify i fun e => { e with key := kv, val := a.eval x }) clock)) := by
            show ((underlying t) >>= _).run P w = _
            rw [run_bind_pr (pr_underlying hu)]
            show ((getObj r) >>= _).run P w = _
            rw [run_getObj b1]
            show ((Instr.checkKey false 10000 kt kv) >>= _).run P w = _
            rw [run_bind_pr hc]
            show ((Instr.findKey kt kv ents.toList) >>= _).run P w = _
            rw [run_bind_pr hf]
            show ((Instr.keyThatStays (((ents[i]?).map (·.key)).getD kv) kv) >>= fun key => setObj r (.map (ents.modify i fun e => { e with key := key, val := a.eval x }) clock)).run P w = _
            have : pr P (Instr.keyThatStays (((ents[i]?).map (·.key)).getD kv) kv) = some kv := by
              rw [he0]
              show pr P (if Instr.sameBits 10000 e0.key kv then pure kv else _) = _
              rw [if_pos hsm]; rfl
            rw [run_bind_pr this]
            exact run_setObj b1 _
          obtain ⟨h1, hk1⟩ := h.setMap (r := r) (es' := putEntry es (some i) kv (ev S.T x).shut) (ents := ents.modify i fun e => { e with key := kv, val := a.eval x }) (clock := clock) hb (by simp [putEntry, b2])
            (fun j e ent e1 e2 => by
              simp only [putEntry] at e1
              by_cases hj : i = j
              · subst hj
                rw [List.getElem?_set_self hi] at e1
                rw [Array.getElem?_modify, if_pos rfl, he0] at e2
                cases e1; cases e2
                exact ⟨rfl, hxe.shut, fun b' o' hsp => absurd hsp Spare.not_shut⟩
              · rw [List.getElem?_set_ne hj] at e1
                rw [Array.getElem?_modify, if_neg hj] at e2
                exact b3 j e ent e1 e2)
            (fun j ent e => by
              rw [Array.getElem?_modify] at e
              split at e
              · rename_i hj; subst hj; rw [he0] at e; cases e; exact b4 i e0 he0
              · exact b4 j ent e)
            (fun i' j x' y e1 e2 he => by
              have born : ∀ (n : Nat) z, (ents.modify i fun e => { e with key := kv, val := a.eval x })[n]? = some z → ∃ z', ents[n]? = some z' ∧ z'.born = z.born := fun n z hz => by
                rw [Array.getElem?_modify] at hz
                split at hz
                · simp only [Option.map_eq_some_iff] at hz
                  obtain ⟨z', h1, rfl⟩ := hz
                  exact ⟨z', h1, rfl⟩
                · exact ⟨z, hz, rfl⟩
              obtain ⟨x'', c1, c2⟩ := born i' x' e1
              obtain ⟨y'', c3, c4⟩ := born j y e2
              exact b5 i' j x'' y'' c1 c3 (by rw [c2, c4]; exact he))
          refine wp_skip (hrunU _ hrun) ?_
          rw [hdst]
          exact ⟨κ, _, hK, h1, hk1, rfl, rfl⟩
      · exact hs.elim
    · exact hs.elim
  · exact hs.elim

end
end Go.Am
