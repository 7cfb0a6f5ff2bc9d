import Derived.Test.YtphenhkofjbeoaaAm16
import Derived.IntWalk
namespace Go.Am
section
variable {P : Program} {κ : Ghost} {w : World} {a : Act} {o : Oper} {K : St → Prop} {Q : Exit → Act → World → Prop} {S : St}

theorem ofConst_one {v : Value} (h : one v = true) : (ofConst v).unit = true := by
  unfold ofConst
  split
  · simp [one] at h
  · rfl
  · exact h

/-- A new block becomes one that is known. -/
theorem Holds.newObj {T : Nat → AVal} {V : Nat → Value} {M : Mem} (h : Holds P κ T V M w) {l : List AVal} {cs : Array Value} {e : TypeId} {fr : Nat × Nat} (hl : cs.size = l.length) (hr : ∀ (j : Nat) X x, l[j]? = some X → cs[j]? = some x → Rep P κ w X x ∧ one x = true ∧ ∀ b o, ¬ Spare P w X x b o)
    (hfr : ∀ o, o < cs.size → ¬ (fr.1 ≤ o ∧ o < fr.2)) : Holds P κ T V (M.upd w.heap.size (.cells l)) (Am.push w (.cells cs e fr)) ∧ Keep κ w κ (Am.push w (.cells cs e fr)) := by
  have hk : Keep κ w κ (Am.push w (.cells cs e fr)) := Keep.push _ fun b o hb => (h.tag b o hb).1
  have hblk : (Am.push w (.cells cs e fr)).heap[w.heap.size]? = some (.cells cs e fr) := push_new w _
  refine ⟨(h.push (.cells cs e fr)).know ⟨cs, e, fr, hblk, hl, fun x hx => ?_, fun j X x e1 e2 => ?_⟩ fun x => h.untagged x, hk⟩
  · unfold World.frozen?
    simp only [hblk]
    have := hfr x hx
    simp only [Bool.and_eq_false_imp, decide_eq_true_eq, decide_eq_false_iff_not]
    intro h1 h2; exact this ⟨h1, h2⟩
  · obtain ⟨h1, h2, h3⟩ := hr j X x e1 e2
    exact ⟨hk.rep h1, h2, fun b' o' hsp => absurd (hsp.keep h1 hk.shape) (h3 b' o')⟩

theorem sound_alloc (h : Holds P κ S.T (tv a) S.M w) (hd : ∀ d, o.dst = some d → d < a.tmps.size) {t : TypeId} (hop : o.op = .alloc t) {zs : List AVal} (hz : zeroCellsT P t = some zs) (hone : zs.all AVal.unit = true)
    (hK : ∀ b, S.M b = none → K ((S.upd b (.cells zs)).put o.dst (.raw (.pointer (some ⟨b, 0, none⟩))))) : o.wp P a w (Next P κ w a K) Q := by
  unfold zeroCellsT at hz
  simp only [Option.map_eq_some_iff] at hz
  obtain ⟨z, hz, rfl⟩ := hz
  have hrun : (execOp a.eval o).run P w = .ok (.value (.pointer (some ⟨w.heap.size, 0, none⟩))) (push w (.cells z.cells t)) := by
    unfold execOp; rw [hop]
    refine run_val (s := Instr.alloc t true (.tuple #[])) ?_
    show ((zeroValue t) >>= _).run P w = _
    rw [run_bind_pr (pr_zeroT hz)]
    rfl
  obtain ⟨h1, hk⟩ := h.newObj (l := z.cells.toList.map ofConst) (cs := z.cells) (e := t) (fr := (0, 0)) (by simp) (fun j X x e1 e2 => by
    simp only [List.getElem?_map, Array.getElem?_toList, e2, Option.map_some, Option.some.injEq] at e1
    subst e1
    refine ⟨ofConst_rep x, unit_one (P := P) (κ := κ) (w := w) (ofConst_rep x) ?_, fun _ _ hs => ofConst_spare hs⟩
    refine List.all_eq_true.1 hone _ (List.mem_map.2 ⟨x, ?_, rfl⟩)
    exact Array.mem_toList_iff.2 (Array.mem_of_getElem? e2)) (fun _ _ => by simp)
  exact wp_value hrun (next_put (S' := S.upd w.heap.size (.cells (z.cells.toList.map ofConst))) hd (hK _ h.fresh) (fun d _ => h1.put d (.raw _) fun _ _ => Spare.not_raw) (fun _ => h1) hk)

theorem sound_box (h : Holds P κ S.T (tv a) S.M w) (hd : ∀ d, o.dst = some d → d < a.tmps.size) {t : TypeId} {x : Operand} (hop : o.op = .box t x) (hok : (ev S.T x).ok = true)
    (hK : ∀ b, S.M b = none → K ((S.upd b (.cells ((ev S.T x).cells.map AVal.shut))).put o.dst (.raw (.pointer (some ⟨b, 0, none⟩))))) : o.wp P a w (Next P κ w a K) Q := by
  have hrun : (execOp a.eval o).run P w = .ok (.value (.pointer (some ⟨w.heap.size, 0, none⟩))) (push w (.cells (a.eval x).cells t)) := by
    unfold execOp; rw [hop]
    exact run_val (s := Instr.box t (a.eval x)) rfl
  obtain ⟨hcl, hcu⟩ := ok_cells (rep_ev h x) hok
  obtain ⟨h1, hk⟩ := h.newObj (l := (ev S.T x).cells.map AVal.shut) (cs := (a.eval x).cells) (e := t) (fr := (0, 0)) (by rw [List.length_map]; exact hcl.1.symm) (fun j X y e1 e2 => by
    simp only [List.getElem?_map, Option.map_eq_some_iff] at e1
    obtain ⟨Y, e1, rfl⟩ := e1
    have := hcl.2 j Y y e1 e2
    exact ⟨this.shut, unit_one this (hcu Y (List.mem_of_getElem? e1)), fun _ _ => Spare.not_shut⟩) (fun _ _ => by simp)
  exact wp_value hrun (next_put (S' := S.upd w.heap.size (.cells ((ev S.T x).cells.map AVal.shut))) hd (hK _ h.fresh) (fun d _ => h1.put d (.raw _) fun _ _ => Spare.not_raw) (fun _ => h1) hk)

theorem sound_makeMap (h : Holds P κ S.T (tv a) S.M w) (hd : ∀ d, o.dst = some d → d < a.tmps.size) {t : TypeId} (hop : o.op = .makeMap t none)
    (hK : ∀ b, S.M b = none → K ((S.upd b (.map [])).put o.dst (.raw (.map (some b))))) : o.wp P a w (Next P κ w a K) Q := by
  have hrun : (execOp a.eval o).run P w = .ok (.value (.map (some w.heap.size))) (push w (.map #[] 0)) := by
    unfold execOp; rw [hop]
    exact run_val (s := Instr.makeMap t none) rfl
  have hk : Keep κ w κ (push w (.map #[] 0)) := Keep.push _ fun b o hb => (h.tag b o hb).1
  have h1 : Holds P κ S.T (tv a) (S.M.upd w.heap.size (.map [])) (push w (.map #[] 0)) := (h.push (.map #[] 0)).know ⟨#[], 0, push_new w _, rfl, fun j e ent e1 => by simp at e1, fun j ent e1 => by simp at e1, fun i j x y e1 => by simp at e1⟩ fun x => h.untagged x
  exact wp_value hrun (next_put (S' := S.upd w.heap.size (.map [])) hd (hK _ h.fresh) (fun d _ => h1.put d (.raw _) fun _ _ => Spare.not_raw) (fun _ => h1) hk)

theorem pr_zeroCells {t : TypeId} {zs : List AVal} (h : zeroCellsT P t = some zs) : ∃ z, zeroT P t = some z ∧ zs = z.cells.toList.map ofConst := by
  unfold zeroCellsT at h
  simp only [Option.map_eq_some_iff] at h
  obtain ⟨z, hz, rfl⟩ := h
  exact ⟨z, hz, rfl⟩

theorem replicate_get (zs : List AVal) (hz : 0 < zs.length) : ∀ (c j : Nat), j < c * zs.length → ((List.replicate c zs).flatten)[j]? = zs[j % zs.length]?
  | 0, j, h => by omega
  | c + 1, j, h => by
    rw [List.replicate_succ, List.flatten_cons]
    by_cases hj : j < zs.length
    · rw [List.getElem?_append_left hj, Nat.mod_eq_of_lt hj]
    · rw [List.getElem?_append_right (by omega), replicate_get zs hz c (j - zs.length) (by rw [Nat.succ_mul] at h; omega)]
      rw [show j % zs.length = (j - zs.length) % zs.length from Nat.mod_eq_sub_mod (by omega)]

theorem replicate_length (zs : List AVal) (c : Nat) : ((List.replicate c zs).flatten).length = c * zs.length := by
  rw [List.length_flatten, List.map_replicate, List.sum_replicate_nat]

theorem sound_makeSlice (h : Holds P κ S.T (tv a) S.M w) (hd : ∀ d, o.dst = some d → d < a.tmps.size) {t : TypeId} {L C : Operand} (hop : o.op = .makeSlice t L C) (hone : ∀ e zs, P.underlying t = some (.slice e) → zeroCellsT P e = some zs → zs.all AVal.unit = true)
    (hs : aMakeSlice P t (ev S.T L) (ev S.T C) o.dst S K) : o.wp P a w (Next P κ w a K) Q := by
  unfold aMakeSlice at hs
  split at hs
  · rename_i e n c hu hL hC
    split at hs
    · rename_i sz by_ zs hsz hby hzs
      obtain ⟨h1, hpos, h2, h3, h4, h5, hK⟩ := hs
      have hone' := hone e zs hu hzs
      obtain ⟨z, hz, hzz⟩ := pr_zeroCells hzs
      have hLe := rep_ev h L; rw [hL] at hLe
      have hCe := rep_ev h C; rw [hC] at hCe
      obtain ⟨i, hi, rfl⟩ := pr_bytesT hby
      obtain ⟨N, rfl⟩ := Int.eq_ofNat_of_zero_le (show 0 ≤ n by omega)
      obtain ⟨c', rfl⟩ := Int.eq_ofNat_of_zero_le (show 0 ≤ c by omega)
      have hzc : z.cells.size = sz := by rw [← h1, hzz]; simp
      have wrapc : IntKind.i64.wrap (c' : Int) = c' := IntWalk.i64_in _ ⟨by omega, by omega⟩
      have wrapn : IntKind.i64.wrap (N : Int) = N := IntWalk.i64_in _ ⟨by omega, by omega⟩
      have hcells : ∀ (f : Nat → Value), ((Array.range (c' * sz)).map f).size = c' * sz := fun f => by simp
      have hrun : (execOp a.eval o).run P w = .ok (.value (.slice (some ⟨w.heap.size, 0, none⟩) N c')) (push w (.cells ((Array.range (c' * sz)).map (fun j => z.cells[j % z.cells.size]!)) e)) := by
        unfold execOp; rw [hop]
        refine run_val (s := Instr.makeSlice t (a.eval L) (a.eval C)) ?_
        rw [rep_raw hLe, rep_raw hCe]
        have hne : ¬ c' * sz = 0 := by
          have : 0 < c' := by omega
          exact Nat.ne_of_gt (Nat.mul_pos this hpos)
        simp [Instr.makeSlice, pr_run (pr_underlying hu) w, asInt, asIntOf, pr_run hi w, wrapc, wrapn, run_sizeT hsz w, hne, pr_run (P := P) (pr_zeroT hz) w, newRow, push]
        omega
      obtain ⟨hh, hk⟩ := h.newObj (l := (List.replicate c' zs).flatten) (cs := (Array.range (c' * sz)).map (fun j => z.cells[j % z.cells.size]!)) (e := e) (fr := (0, 0)) (by rw [replicate_length, h1]; simp) (fun j X x e1 e2 => by
        have hj : j < c' * sz := by
          rcases Nat.lt_or_ge j (c' * sz) with h' | h'
          · exact h'
          · rw [Array.getElem?_eq_none (by simpa using h')] at e2; cases e2
        rw [replicate_get zs (by omega) c' j (by rw [h1]; exact hj), h1] at e1
        have hm : j % sz < sz := Nat.mod_lt _ hpos
        have e3 : z.cells[j % sz]? = some x := by
          simp [hj] at e2
          rw [← e2, hzc]
          simp [hzc, hm]
        rw [hzz] at e1
        simp only [List.getElem?_map, Array.getElem?_toList, e3, Option.map_some, Option.some.injEq] at e1
        subst e1
        refine ⟨ofConst_rep x, unit_one (P := P) (κ := κ) (w := w) (ofConst_rep x) ?_, fun _ _ hs => ofConst_spare hs⟩
        rw [hzz] at hone'
        exact List.all_eq_true.1 hone' _ (List.mem_map.2 ⟨x, Array.mem_toList_iff.2 (Array.mem_of_getElem? e3), rfl⟩)) (fun _ _ => by simp)
      have hK' := hK _ h.fresh
      simp only [Int.toNat_natCast] at hK'
      exact wp_value hrun (next_put (S' := S.upd w.heap.size (.cells (List.replicate c' zs).flatten)) hd hK' (fun d _ => hh.put d (.raw _) fun _ _ => Spare.not_raw) (fun _ => hh) hk)
    · exact hs.elim
  · exact hs.elim

end
end Go.Am
