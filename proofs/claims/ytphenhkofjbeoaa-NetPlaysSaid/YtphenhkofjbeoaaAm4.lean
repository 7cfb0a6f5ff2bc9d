import Derived.Test.YtphenhkofjbeoaaAm3
/-! The model does what 'aop' says. -/
namespace Go.Am

theorem run_val {P : Program} {s : Sem Value} {w w' : World} {v : Value} (h : s.run P w = .ok v w') : (do pure (Next.value (← s)) : Sem Next).run P w = .ok (.value v) w' := by
  show (s >>= fun v => pure (Next.value v)).run P w = _
  rw [Sem.run_bind, h]; rfl

section
variable {P : Program} {κ : Ghost} {w : World}

theorem run_bind_pr {α β : Type} {s : Sem α} {x : α} (h : pr P s = some x) (f : α → Sem β) : (s >>= f).run P w = (f x).run P w := by
  rw [Sem.run_bind, pr_run h w]; rfl

theorem pr_fieldT {t : TypeId} {f : Nat} {fd : Field} (h : fieldT P t f = some fd) : ∃ fs, P.underlying t = some (.struct fs) ∧ fs[f]? = some fd := by
  unfold fieldT at h
  split at h
  · rename_i fs hu; exact ⟨fs, hu, h⟩
  · cases h

theorem loadP_some {t : TypeId} {cs : List AVal} {off : Nat} {V : AVal} (h : loadP P t cs off = some V) : ∃ ag n, aggT P t = some ag ∧ sizeT P t = some n ∧ piece ag cs off n = some V := by
  unfold loadP at h
  split at h
  · rename_i ag n ha hn; exact ⟨ag, n, ha, hn, h⟩
  · cases h

/-- A part of a value that lies in temporaries. -/
theorem run_part {t : TypeId} {cs : List AVal} {vs : Array Value} {off : Nat} {V : AVal} (hl : cs.length = vs.size) (hr : ∀ (i : Nat) c v, cs[i]? = some c → vs[i]? = some v → Rep P κ w c v)
    (h : loadP P t cs off = some V) : ∃ v, (part t vs off).run P w = .ok v w ∧ Rep P κ w V v := by
  obtain ⟨ag, n, ha, hn, hp⟩ := loadP_some h
  show ∃ v, ((isAgg t) >>= _).run P w = .ok v w ∧ _
  rw [run_bind_pr (pr_aggT ha)]
  cases ag with
  | true =>
    simp only [piece, if_true] at hp
    split at hp
    · rename_i hle
      obtain rfl := Option.some.inj hp
      refine ⟨.agg (vs.extract off (off + n)), ?_, ?_⟩
      · show ((sizeOf t) >>= _).run P w = _
        rw [run_bind_pr (pr_sizeT hn)]; rfl
      · refine .agg _ _ (by simp; omega) fun i c v h1 h2 => ?_
        simp only [List.getElem?_take, List.getElem?_drop] at h1
        split at h1
        · rename_i hi
          rw [Array.getElem?_extract] at h2
          split at h2
          · exact hr _ _ _ h1 h2
          · cases h2
        · cases h1
    · cases hp
  | false =>
    simp only [piece, Bool.false_eq_true, if_false] at hp
    have hlt : off < vs.size := by
      rcases Nat.lt_or_ge off cs.length with h' | h'
      · omega
      · rw [List.getElem?_eq_none h'] at hp; cases hp
    refine ⟨vs[off], ?_, hr _ _ _ hp (by simp [hlt])⟩
    show (match vs[off]? with | some v => (pure v : Sem Value) | none => stuck "part: no such cell").run P w = _
    rw [Array.getElem?_eq_getElem hlt]; rfl

theorem flat_get {l : List AVal} {sz : Nat} (hsz : ∀ e ∈ l, e.cells.length = sz) {i : Nat} {e : AVal} (hi : l[i]? = some e) {j : Nat} (hj : j < sz) : (flat l)[i * sz + j]? = e.cells[j]? := by
  induction l generalizing i with
  | nil => simp at hi
  | cons x l ih =>
    have hx := hsz x (by simp)
    show (x.cells ++ flat l)[i * sz + j]? = _
    cases i with
    | zero =>
      simp only [List.getElem?_cons_zero, Option.some.injEq] at hi
      subst hi
      rw [Nat.zero_mul, Nat.zero_add, List.getElem?_append_left (by omega)]
    | succ i =>
      simp only [List.getElem?_cons_succ] at hi
      rw [List.getElem?_append_right (by rw [hx, Nat.succ_mul]; omega), hx, Nat.succ_mul]
      rw [show i * sz + sz + j - sz = i * sz + j from by omega]
      exact ih (fun e he => hsz e (by simp [he])) hi

theorem flat_length {l : List AVal} {sz : Nat} (hsz : ∀ e ∈ l, e.cells.length = sz) : (flat l).length = l.length * sz := by
  induction l with
  | nil => simp [flat]
  | cons x l ih =>
    show (x.cells ++ flat l).length = _
    rw [List.length_append, hsz x (by simp), ih (fun e he => hsz e (by simp [he])), List.length_cons, Nat.succ_mul]
    omega

theorem run_loadAt_sptr {t : TypeId} {l : List AVal} {i o : Nat} {e V : AVal} {v : Value} (hv : Rep P κ w (.sptr l i o) v) (hi : l[i]? = some e) (h : loadP P t e.cells o = some V) :
    ∃ u, (Instr.loadAt t v).run P w = .ok u w ∧ Rep P κ w V u := by
  obtain ⟨ag, n, ha, hn, hp⟩ := loadP_some h
  cases hv with
  | sptr _ _ _ b off sz cv hsz hk hw hr =>
    have hes := hsz e (List.mem_of_getElem? hi)
    have hil : i < l.length := by
      rcases Nat.lt_or_ge i l.length with h' | h'
      · exact h'
      · rw [List.getElem?_eq_none h'] at hi; cases hi
    have hfl := flat_length hsz
    have hle : i * sz + sz ≤ l.length * sz := by
      have := Nat.mul_le_mul_right sz (show i + 1 ≤ l.length from hil)
      rw [Nat.succ_mul] at this; exact this
    obtain ⟨u, h1, h2⟩ := run_loadVar (P := P) (κ := κ) (w := w) (t := t) (b := b) (base := off + i * sz) (off := o) (fun j => cv (i * sz + j)) ha hn
      (fun j hj => by rw [Nat.add_assoc]; exact hw _ (by rw [hfl]; omega))
      (fun j c hc => hr _ _ (by rw [flat_get hsz hi (by
        rcases Nat.lt_or_ge j e.cells.length with h' | h'
        · omega
        · rw [List.getElem?_eq_none h'] at hc; cases hc)]; exact hc)) hp
    refine ⟨u, ?_, h2⟩
    show ((Instr.sureAddr (.pointer (some ⟨b, off + (i * sz + o), none⟩))) >>= fun a => loadVar t a).run P w = _
    rw [run_bind_pr (x := ⟨b, off + (i * sz + o), none⟩) rfl, ← Nat.add_assoc]
    exact h1

theorem cell_of_cells {b o : Nat} {c : Array Value} {e : TypeId} {fr : Nat × Nat} (h : w.heap[b]? = some (.cells c e fr)) : w.cell? ⟨b, o, none⟩ = c[o]? := by
  unfold World.cell?
  simp only [h]
  simp

theorem run_loadAt_ptr {M : Mem} (hM : ∀ b o, M b = some o → RepO P κ w b o) {t : TypeId} {b o : Nat} {l : List AVal} {V : AVal} (hb : M b = some (.cells l)) (h : loadP P t l o = some V) :
    ∃ u, (Instr.loadAt t (.pointer (some ⟨b, o, none⟩))).run P w = .ok u w ∧ Rep P κ w V u := by
  obtain ⟨ag, n, ha, hn, hp⟩ := loadP_some h
  obtain ⟨c, e, fr, h1, h2, -, h4⟩ := hM b _ hb
  obtain ⟨u, h5, h6⟩ := run_loadVar (P := P) (κ := κ) (w := w) (t := t) (b := b) (base := 0) (off := o) (fun j => c.getD j undef) ha hn
    (fun j hj => by
      rw [Nat.zero_add, cell_of_cells h1]
      have : j < c.size := by omega
      simp [this])
    (fun j x hx => by
      have hj : j < c.size := by
        rcases Nat.lt_or_ge j l.length with h' | h'
        · omega
        · rw [List.getElem?_eq_none h'] at hx; cases hx
      exact (h4 j x _ hx (by simp [hj])).1) hp
  rw [Nat.zero_add] at h5
  exact ⟨u, h5, h6⟩

theorem run_raw1 {X V : AVal} {v : Value} {f : Value → Sem Value} (hv : Rep P κ w X v) (h : raw1 P X f = some V) : ∃ u, (f v).run P w = .ok u w ∧ Rep P κ w V u := by
  unfold raw1 at h
  split at h
  · cases hv
    simp only [Option.map_eq_some_iff] at h
    obtain ⟨u, h1, rfl⟩ := h
    exact ⟨u, pr_run h1 w, .raw u⟩
  · cases h

theorem run_aBin {op : BinOp} {t : TypeId} {x y : Operand} {X Y V : AVal} {u v : Value} (hx : Rep P κ w X u) (hy : Rep P κ w Y v) (hyc : isNilSlice y = true → ∃ n m, v = .slice none n m)
    (h : aBin P op t x y X Y = some V) : ∃ r, (do eqGuard op t x y u v; binOp op t u v : Sem Value).run P w = .ok r w ∧ Rep P κ w V r := by
  unfold aBin at h
  split at h
  · rename_i l own
    split at h
    · rename_i hn
      obtain ⟨n, m, rfl⟩ := hyc hn
      split at h
      · cases h
      · rename_i hl
        split at h
        · rename_i e hu
          cases hx with
          | nil => simp at hl
          | sl _ _ b off cap sz cv hcap hsz hk hw hr ho =>
            have heq : pr P (Op.equal t (.slice (some ⟨b, off, none⟩) l.length cap) (.slice none n m)) = some false := by
              show pr P ((underlying t) >>= _) = _
              show pr P ((underlying t).bind _) = _
              rw [pr_bind, pr_underlying hu]; rfl
            cases op <;> simp only [Option.some.injEq, reduceCtorEq] at h
            · subst h
              refine ⟨.bool false, ?_, .raw _⟩
              show (Op.equal t _ _ >>= fun b => (pure (.bool b) : Sem Value)).run P w = _
              rw [run_bind_pr heq]; rfl
            · subst h
              refine ⟨.bool true, ?_, .raw _⟩
              show (Op.equal t _ _ >>= fun b => (pure (.bool !b) : Sem Value)).run P w = _
              rw [run_bind_pr heq]; rfl
        · cases h
    · cases h
  · split at h
    · rename_i a b ha hb
      rw [rawOf_rep ha hx, rawOf_rep hb hy]
      simp only [Option.bind_eq_some_iff, Option.map_eq_some_iff] at h
      obtain ⟨_, h1, r, h2, rfl⟩ := h
      refine ⟨r, ?_, .raw r⟩
      show (eqGuard op t x y a b >>= fun _ => binOp op t a b).run P w = _
      rw [run_bind_pr h1]
      exact pr_run h2 w
    · cases h

theorem run_aFieldAddr {t : TypeId} {X V : AVal} {v : Value} {f : Nat} (hv : Rep P κ w X v) (h : aFieldAddr P t X f = some V) : ∃ u, (Instr.fieldAt t v f).run P w = .ok u w ∧ Rep P κ w V u := by
  unfold aFieldAddr at h
  split at h
  · rename_i fd hf
    obtain ⟨fs, hu, hg⟩ := pr_fieldT hf
    split at h
    · rename_i n hn
      have key : ∀ b o : Nat, (Instr.fieldAt t (.pointer (some ⟨b, o, none⟩)) f).run P w = .ok (.pointer (some ⟨b, o + fd.offset, none⟩)) w := fun b o => by
        show ((underlying t) >>= _).run P w = _
        rw [run_bind_pr (pr_underlying hu)]
        dsimp only
        rw [hg]
        show ((Instr.sureAddr (.pointer (some ⟨b, o, none⟩))) >>= fun a => fieldPlace a fd >>= fun x => (pure (.pointer (some x)) : Sem Value)).run P w = _
        rw [run_bind_pr (x := ⟨b, o, none⟩) rfl]
        have hp : pr P (fieldPlace ⟨b, o, none⟩ fd) = some ⟨b, o + fd.offset, none⟩ := by
          show pr P ((sizeOf fd.type).bind fun k => if k = 0 then partAt ⟨b, o, none⟩ fd.offset fd.byteOffset else pure ((⟨b, o, none⟩ : Addr).add fd.offset)) = _
          rw [pr_bind, pr_sizeT hn]
          show pr P (if n + 1 = 0 then partAt ⟨b, o, none⟩ fd.offset fd.byteOffset else pure ((⟨b, o, none⟩ : Addr).add fd.offset)) = _
          rw [if_neg (by omega), addr_add]; rfl
        rw [run_bind_pr hp]; rfl
      split at h
      · rename_i b o
        obtain rfl := Option.some.inj h
        cases hv
        exact ⟨_, key b o, .raw _⟩
      · rename_i l i o
        obtain rfl := Option.some.inj h
        cases hv with
        | sptr _ _ _ b off sz cv hsz hk hw hr =>
          refine ⟨_, key b _, ?_⟩
          rw [show off + (i * sz + o) + fd.offset = off + (i * sz + (o + fd.offset)) from by omega]
          exact .sptr l i (o + fd.offset) b off sz cv hsz hk hw hr
      · cases h
    · cases h
  · cases h

theorem run_aField {t : TypeId} {X V : AVal} {v : Value} {f : Nat} (hv : Rep P κ w X v) (h : aField P t X f = some V) : ∃ u, (Instr.field t v f).run P w = .ok u w ∧ Rep P κ w V u := by
  unfold aField at h
  split at h
  · rename_i fd hf
    obtain ⟨fs, hu, hg⟩ := pr_fieldT hf
    split at h
    · rename_i cs
      cases hv with
      | agg _ vs hl hr =>
        obtain ⟨u, h1, h2⟩ := run_part (w := w) hl hr h
        refine ⟨u, ?_, h2⟩
        show ((underlying t) >>= _).run P w = _
        rw [run_bind_pr (pr_underlying hu)]
        dsimp only
        rw [hg]
        exact h1
    · cases h
  · cases h

theorem run_indexAt {t : TypeId} {v : Value} {k : IntKind} {i : Int} {base : Addr} {len : Nat} {e : TypeId} {sz : Nat}
    (hu : (P.underlying t = some (.array len e) ∧ v = .pointer (some base)) ∨ (P.underlying t = some (.slice e) ∧ ∃ cap, v = .slice (some base) len cap)) (hs : sizeT P e = some sz) (h0 : 0 ≤ i) (h1 : i < len) :
    (Instr.indexAt t v (.int k i)).run P w = .ok (.pointer (some (base.add (i.toNat * sz)))) w := by
  refine pr_run ?_ w
  rcases hu with ⟨hu, rfl⟩ | ⟨hu, cap, rfl⟩
  · show pr P ((underlying t).bind _) = _
    rw [pr_bind, pr_underlying hu]
    show pr P ((underlying t).bind _) = _
    rw [pr_bind, pr_underlying hu]
    show pr P (if 0 ≤ i ∧ i < (len : Int) then _ else _) = _
    rw [if_pos ⟨h0, h1⟩]
    show pr P ((sizeOf e).bind _) = _
    rw [pr_bind, pr_sizeT hs]; rfl
  · show pr P ((underlying t).bind _) = _
    rw [pr_bind, pr_underlying hu]
    show pr P ((underlying t).bind _) = _
    rw [pr_bind, pr_underlying hu]
    show pr P (if 0 ≤ i ∧ i < (len : Int) then _ else _) = _
    rw [if_pos ⟨h0, h1⟩]
    show pr P ((sizeOf e).bind _) = _
    rw [pr_bind, pr_sizeT hs]; rfl

end
end Go.Am
