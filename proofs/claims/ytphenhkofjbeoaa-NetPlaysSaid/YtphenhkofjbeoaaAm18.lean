import Derived.Test.YtphenhkofjbeoaaAm17
namespace Go.Am
section
variable {P : Program} {κ : Ghost} {w : World} {a : Act} {o : Oper} {K : St → Prop} {Q : Exit → Act → World → Prop} {S : St}

theorem aFill_parts {T : Nat → AVal} {sz : Nat} : ∀ (parts : List (Nat × Operand)) (k : Nat) (l done zs : List AVal), aParts T k parts = some l → (∀ V ∈ l, V.ok = true ∧ V.cells.length = sz) → done.length = k * sz → zs.length = l.length * sz →
    aFill (fun i => some (i * sz, sz)) (done ++ zs) (parts.map fun p => (p.1, (ev T p.2).shut)) = some (done ++ flat l)
  | [], k, l, done, zs, h, _, _, hz => by
    simp only [aParts, Option.some.injEq] at h
    subst h
    have : zs = [] := List.eq_nil_of_length_eq_zero (by simpa using hz)
    subst this
    simp [aFill, flat]
  | (i, x) :: rest, k, l, done, zs, h, hok, hd, hz => by
    simp only [aParts] at h
    split at h
    · rename_i hik
      subst hik
      simp only [Option.map_eq_some_iff] at h
      obtain ⟨l', h1, rfl⟩ := h
      obtain ⟨ho1, ho2⟩ := hok _ (by simp : (ev T x).shut ∈ (ev T x).shut :: l')
      simp only [List.length_cons, Nat.succ_mul] at hz
      simp only [List.map_cons, aFill]
      have hc : ¬ ((ev T x).shut.ok = false ∨ ¬ (ev T x).shut.cells.length = sz ∨ i * sz + (ev T x).shut.cells.length > (done ++ zs).length) := by
        rw [ho1, ho2, List.length_append, hd]
        intro h
        rcases h with h | h | h
        · cases h
        · exact h rfl
        · omega
      have hc' : (((ev T x).shut.ok = false || (ev T x).shut.cells.length ≠ sz || i * sz + (ev T x).shut.cells.length > (done ++ zs).length : Bool)) = false := by
        simp only [Bool.or_eq_false_iff, decide_eq_false_iff_not, Bool.decide_eq_false]
        refine ⟨⟨by rw [ho1]; simp, by simp [ho2]⟩, by rw [ho2, List.length_append, hd]; omega⟩
      rw [if_neg (by rw [hc']; exact Bool.false_ne_true)]
      have e1 : List.take (i * sz) (done ++ zs) = done := by rw [← hd]; simp
      have e2 : List.drop (i * sz + (ev T x).shut.cells.length) (done ++ zs) = zs.drop sz := by
        rw [ho2, List.drop_append, List.drop_eq_nil_of_le (by omega), List.nil_append, hd, Nat.add_sub_cancel_left]
      rw [e1, e2, aFill_parts rest (i + 1) l' (done ++ (ev T x).shut.cells) (zs.drop sz) h1 (fun V hV => hok V (by simp [hV])) (by rw [List.length_append, hd, ho2, Nat.succ_mul]) (by rw [List.length_drop]; omega)]
      simp [flat, List.append_assoc]
    · cases h

theorem sound_buildSlice (h : Holds P κ S.T (tv a) S.M w) (hd : ∀ d, o.dst = some d → d < a.tmps.size) {t : TypeId} {len : Nat} {parts : Array (Nat × Operand)} (hop : o.op = .buildSlice t len parts)
    (hs : aBuildSlice P t len parts.toList o.dst S K) : o.wp P a w (Next P κ w a K) Q := by
  unfold aBuildSlice at hs
  split at hs
  · rename_i e hu
    split at hs
    · rename_i sz z l hsz hz hl
      obtain ⟨h1, h2, h3, h4, hK⟩ := hs
      have hok : ∀ V ∈ l, V.ok = true ∧ V.cells.length = sz := fun V hV => by simpa using List.all_eq_true.1 h4 V hV
      subst h2
      have key : ∀ zero : Array Value, (zero = if l.length * sz = 0 then #[] else z.cells) → ∃ r, Instr.fill (fun i => some (i * sz, sz)) ((Array.range (l.length * sz)).map (fun j => zero[j % zero.size]!)) (parts.map fun p => (p.1, a.eval p.2)).toList = some r ∧ RepL P κ w (flat l) r := by
        intro zero hzero
        have hsz0 : ((Array.range (l.length * sz)).map (fun j => zero[j % zero.size]!)).size = l.length * sz := by simp
        generalize (Array.range (l.length * sz)).map (fun j => zero[j % zero.size]!) = zarr at hsz0
        have hfill := aFill_parts (T := S.T) (sz := sz) parts.toList 0 l [] (zarr.toList.map .raw) hl hok (by simp) (by rw [List.length_map, Array.length_toList]; exact hsz0)
        rw [List.nil_append, List.nil_append] at hfill
        refine aFill_rep (P := P) (κ := κ) (w := w) _ _ _ _ (flat l) (by simp) (fun i p u e1 e2 => ?_) ⟨by simp, fun i c v e1 e2 => ?_⟩ hfill
        · simp only [List.getElem?_map, Array.toList_map, Option.map_eq_some_iff] at e1 e2
          obtain ⟨⟨n, x⟩, e3, rfl⟩ := e1
          obtain ⟨⟨n', x'⟩, e4, rfl⟩ := e2
          rw [e3] at e4
          obtain ⟨rfl, rfl⟩ := Prod.mk.inj (Option.some.inj e4)
          exact ⟨rfl, (rep_ev h _).shut⟩
        · rw [List.getElem?_map, Array.getElem?_toList, e2] at e1
          simp only [Option.map_some, Option.some.injEq] at e1
          subst e1; exact .raw v
      obtain ⟨r, hr1, hr2⟩ := key _ rfl
      have hrunB : ∀ r, Instr.fill (fun i => some (i * sz, sz)) ((Array.range (l.length * sz)).map (fun j => (if l.length * sz = 0 then #[] else z.cells)[j % (if l.length * sz = 0 then #[] else z.cells).size]!)) (parts.map fun p => (p.1, a.eval p.2)).toList = some r →
          ∀ ps, ps = parts.map (fun p => (p.1, a.eval p.2)) → (Instr.buildSlice t l.length ps).run P w = .ok (.slice (some ⟨w.heap.size, 0, none⟩) l.length l.length) (push w (.cells r e)) := by
        intro r hr1 ps hps
        subst hps
        have hle : ¬ (l.length * sz > 2 ^ 24) := Nat.not_lt.2 h3
        show ((underlying t) >>= _).run P w = _
        rw [run_bind_pr (pr_underlying hu)]
        dsimp only
        show ((sizeOf e) >>= _).run P w = _
        rw [run_bind_pr (pr_sizeT hsz)]
        simp only [if_neg hle]
        by_cases h0 : l.length * sz = 0
        · simp only [if_pos h0] at hr1 ⊢
          rw [Sem.run_bind, Sem.run_pure, Result.andThen_ok, hr1]; rfl
        · simp only [if_neg h0] at hr1 ⊢
          rw [run_bind_pr (pr_zeroT hz), Sem.run_bind, Sem.run_pure, Result.andThen_ok, hr1]; rfl
      have hrun : (execOp a.eval o).run P w = .ok (.value (.slice (some ⟨w.heap.size, 0, none⟩) l.length l.length)) (push w (.cells r e)) := by
        unfold execOp; rw [hop]
        have hps : ∀ ps, ps = parts.map (fun p => (p.1, a.eval p.2)) → (Instr.buildSlice t l.length ps).run P w = .ok (.slice (some ⟨w.heap.size, 0, none⟩) l.length l.length) (push w (.cells r e)) := hrunB r hr1
        refine run_val (hps _ ?_)
        exact congrArg (fun f => Array.map f parts) (funext fun ⟨_, _⟩ => rfl)
      have hfl := flat_length (fun V hV => (hok V hV).2)
      have hn := fun d => h.newSl d (l := l) (cs := r) (cap := l.length) (e := e) (fr := (0, 0)) hsz (by rw [← hr2.1, hfl]) (Nat.le_refl _) (.inr rfl) (fun V hV => (hok V hV).2) hr2.2 (fun _ _ => by simp)
      refine wp_value hrun ?_
      cases ho : o.dst with
      | none =>
        have := next_put (P := P) (κ := κ) (κ' := κ) (w := w) (w' := push w (.cells r e)) (v := .slice (some ⟨w.heap.size, 0, none⟩) l.length l.length) (S' := S) (X := .sl l true) hd hK (fun d e => by rw [ho] at e; cases e) (fun _ => h.push _) (Keep.push _ fun b o hb => (h.tag b o hb).1)
        rwa [ho] at this
      | some d =>
        have := next_put (P := P) (κ := κ) (w := w) (w' := push w (.cells r e)) (v := .slice (some ⟨w.heap.size, 0, none⟩) l.length l.length) (S' := S) (X := .sl l true) hd hK (fun d' e => by rw [ho] at e; cases e; exact (hn d).1) (fun e => by rw [ho] at e; cases e) (hn d).2
        rwa [ho] at this
    · exact hs.elim
  · exact hs.elim

end
end Go.Am
