import Derived.Test.YtphenhkofjbeoaaAm10
/-! append to a slice that is owned. -/
namespace Go.Am

theorem growBy_le (n : Nat) : ∀ (r c : Nat), 256 ≤ c → c ≤ 2 * n → Builtin.growBy n r c ≤ 2 * n
  | 0, c, _, h => h
  | r + 1, c, h1, h2 => by
    unfold Builtin.growBy
    split
    · exact h2
    · exact growBy_le n r _ (by omega) (by omega)

theorem nextslicecap_le {n c : Nat} (h : c < n) : Builtin.nextslicecap n c ≤ 2 * n := by
  unfold Builtin.nextslicecap
  split
  · omega
  · split
    · omega
    · exact growBy_le n 4 c (by omega) (by omega)

def bytesL (s : ByteArray) : List AVal := s.data.toList.map fun b => .raw (.int .u8 b.toNat)

/-- What is appended. -/
def spread : AVal → Option (List AVal)
  | .sl ys _ => some ys
  | .raw (.string s) => some (bytesL s)
  | _ => none

def bytesT (P : Program) (t : TypeId) : Option Nat := (P.info? t).map (·.bytes)

def isRow : TypeDesc → Bool
  | .slice _ | .string => true
  | _ => false

def aAppend (P : Program) (argTypes : Array TypeId) (X Y : AVal) : Option (List AVal) :=
  match argTypes[0]?, argTypes[1]? with
  | some st, some xt =>
    (match P.underlying st, P.underlying xt with
    | some (.slice e), some xd =>
      if isRow xd = false then none else
      match sizeT P e, bytesT P e, zeroT P e, X, spread Y with
      | some sz, some by_, some z, .sl l true, some ys =>
        if z.cells.size = sz ∧ 1 ≤ by_ ∧ (l.length + ys.length) * by_ ≤ 2 ^ 47 ∧ (l.all fun V => V.cells.length == sz) = true ∧ (ys.all fun V => V.ok && V.cells.length == sz) = true then some (l ++ ys) else none
      | _, _, _, _, _ => none
    | _, _ => none)
  | _, _ => none

section
variable {P : Program} {κ : Ghost} {w : World}

theorem run_firstCells {Y : AVal} {y : Value} {ys : List AVal} {sz : Nat} (hy : Rep P κ w Y y) (hs : spread Y = some ys) (hok : ∀ e ∈ ys, e.ok = true ∧ e.cells.length = sz) :
    ∃ vs : Array Value, (Builtin.lenOf y).run P w = .ok ys.length w ∧ (Builtin.firstCells sz ys.length y).run P w = .ok vs w ∧ vs.size = ys.length * sz ∧ ∀ (j : Nat) c v, (flat ys)[j]? = some c → vs[j]? = some v → Rep P κ w c v ∧ c.unit = true := by
  have hunit : ∀ c ∈ flat ys, c.unit = true := by
    intro c hc
    unfold flat at hc
    obtain ⟨e, he, hce⟩ := List.mem_flatMap.1 hc
    have h1 := (hok e he).1
    cases e with
    | agg cs => exact List.all_eq_true.1 h1 c hce
    | undef => simp [AVal.ok, AVal.unit] at h1
    | tup vs => simp [AVal.ok, AVal.unit] at h1
    | raw v => simp only [AVal.cells, List.mem_singleton] at hce; subst hce; exact h1
    | sl l o => simp only [AVal.cells, List.mem_singleton] at hce; subst hce; rfl
    | sptr l i o => simp only [AVal.cells, List.mem_singleton] at hce; subst hce; rfl
  have hsz' : ∀ e ∈ ys, e.cells.length = sz := fun e he => (hok e he).2
  have hfl := flat_length hsz'
  unfold spread at hs
  split at hs
  · rename_i ys' own
    obtain rfl := Option.some.inj hs
    cases hy with
    | nil => exact ⟨#[], rfl, rfl, by simp, fun j c v h => by simp [flat] at h⟩
    | sl _ _ b off cap sz' cv hcap hsz hk hw hr ho =>
      by_cases hnil : ys' = []
      · subst hnil
        refine ⟨#[], rfl, ?_, by simp, fun j c v h => by simp [flat] at h⟩
        show (loadCells ⟨b, off, none⟩ (0 * sz)).run P w = _
        rw [Nat.zero_mul]; rfl
      · obtain ⟨e, he⟩ := List.exists_mem_of_ne_nil _ hnil
        have hzz : sz' = sz := (hsz e he).symm.trans (hsz' e he)
        subst hzz
        refine ⟨((List.range (ys'.length * sz')).map cv).toArray, rfl, run_loadCells cv fun j hj => hw j (by omega), by simp, fun j c v h1 h2 => ?_⟩
        have hj : j < (flat ys').length := by
          rcases Nat.lt_or_ge j (flat ys').length with h' | h'
          · exact h'
          · rw [List.getElem?_eq_none h'] at h1; cases h1
        have hj2 : j < ys'.length * sz' := by omega
        simp [hj2] at h2
        subst h2
        exact ⟨hr j c h1, hunit c (List.mem_of_getElem? h1)⟩
  · rename_i s
    obtain rfl := Option.some.inj hs
    have := rep_raw hy
    subst this
    have hflat : flat (bytesL s) = bytesL s := by
      unfold flat bytesL
      induction s.data.toList with
      | nil => rfl
      | cons x l ih => simp only [List.map_cons, List.flatMap_cons, ih]; rfl
    by_cases hnil : bytesL s = []
    · have h0 : s.size = 0 := by
        have := congrArg List.length hnil
        simpa [bytesL] using this
      refine ⟨#[], ?_, ?_, by rw [hnil]; simp, fun j c v h => by rw [hnil] at h; simp [flat] at h⟩
      · show Result.ok s.size w = _
        rw [hnil, h0]; rfl
      · show Result.ok ((s.extract 0 (bytesL s).length).data.map fun b => Value.int .u8 b.toNat) w = _
        rw [hnil]
        congr 1
        simp
    · obtain ⟨e, he⟩ := List.exists_mem_of_ne_nil _ hnil
      have h1 : sz = 1 := by
        rw [← hsz' e he]
        simp only [bytesL, List.mem_map] at he
        obtain ⟨b, -, rfl⟩ := he
        rfl
      subst h1
      have hlen : (bytesL s).length = s.size := by simp [bytesL]
      have hext : s.extract 0 s.size = s := by
        apply ByteArray.ext
        simp
      refine ⟨s.data.map fun b => Value.int .u8 b.toNat, ?_, ?_, by rw [hlen]; simp, fun j c v h1 h2 => ?_⟩
      · show Result.ok s.size w = _
        rw [hlen]
      · show Result.ok ((s.extract 0 (bytesL s).length).data.map fun b => Value.int .u8 b.toNat) w = _
        rw [hlen, hext]
      · rw [hflat] at h1
        simp only [bytesL, List.getElem?_map, Array.getElem?_toList, Array.getElem?_map] at h1 h2
        cases hb : s.data[j]? with
        | none => rw [hb] at h1; cases h1
        | some x =>
          rw [hb] at h1 h2
          simp only [Option.map_some, Option.some.injEq] at h1 h2
          subst h1; subst h2
          exact ⟨.raw _, rfl⟩
  · cases hs

/-- A store into spare room. -/
theorem Holds.setSpare {T : Nat → AVal} {V : Nat → Value} {M : Mem} (h : Holds P κ T V M w) {b o s : Nat} (hs : κ b o = .slot s) (x : Value) :
    Holds P κ T V M (w.setCell ⟨b, o, none⟩ x) ∧ Keep κ w κ (w.setCell ⟨b, o, none⟩ x) := by
  have hk : Keep κ w κ (w.setCell ⟨b, o, none⟩ x) := Keep.setCell x (by rw [hs]; simp) (by rw [hs]; simp)
  have hbM : M b = none := (h.tag b o (by rw [hs]; simp)).2
  refine ⟨⟨fun t => hk.rep (h.tmp t), fun d p hd => ?_, fun d y hd => ⟨by rw [setCell_size]; exact (h.tag d y hd).1, (h.tag d y hd).2⟩, fun t d y hsp => h.sp t d y (hsp.keep (h.tmp t) hk.shape), fun d y t hd => ?_, fun d y c' j hd => ?_⟩, hk⟩
  · have hne : d ≠ b := fun e => by subst e; rw [hbM] at hd; cases hd
    have hblk := setCell_other (w := w) (o := o) (x := x) hne
    have := h.obj d p hd
    cases p with
    | it o => exact ⟨hblk.trans this.1, this.2⟩
    | cells l' =>
      obtain ⟨c', e, fr, b1, b2, b3, b4⟩ := this
      exact ⟨c', e, fr, hblk.trans b1, b2, fun y hy => (frozen_of_block (a := ⟨d, y, none⟩) hblk).trans (b3 y hy), fun j Y y e1 e2 => ⟨hk.rep (b4 j Y y e1 e2).1, (b4 j Y y e1 e2).2.1, fun b' o' hsp => (b4 j Y y e1 e2).2.2 b' o' (hsp.keep (b4 j Y y e1 e2).1 hk.shape)⟩⟩
    | map es =>
      obtain ⟨ents, clock, b1, b2, b3, b4, b5⟩ := this
      exact ⟨ents, clock, hblk.trans b1, b2, fun j e ent e1 e2 => ⟨(b3 j e ent e1 e2).1, hk.rep (b3 j e ent e1 e2).2.1, fun b' o' hsp => (b3 j e ent e1 e2).2.2 b' o' (hsp.keep (b3 j e ent e1 e2).2.1 hk.shape)⟩, b4, b5⟩
  · have := h.wr d y t hd
    exact ⟨by rw [setCell_isSome]; exact this.1, by rw [setCell_frozen]; exact this.2⟩
  · have := h.mwr d y c' j hd
    exact ⟨by rw [setCell_isSome]; exact this.1, by rw [setCell_frozen]; exact this.2⟩

theorem run_storeSpare {T : Nat → AVal} {V : Nat → Value} {M : Mem} {b o s : Nat} : ∀ (vs : List Value) (i : Nat) (w : World), Holds P κ T V M w → (∀ j, j < vs.length → κ b (o + (i + j)) = .slot s) → (∀ v ∈ vs, one v = true) →
    ∃ w', (storeCells ⟨b, o, none⟩ vs i).run P w = .ok () w' ∧ Holds P κ T V M w' ∧ Keep κ w κ w' ∧ (∀ (j : Nat) v, vs[j]? = some v → w'.cell? ⟨b, o + (i + j), none⟩ = some v) ∧ (∀ x, x < o + i → w'.cell? ⟨b, x, none⟩ = w.cell? ⟨b, x, none⟩)
  | [], i, w, h, _, _ => ⟨w, rfl, h, Keep.refl κ w, fun j v e => by simp at e, fun _ _ => rfl⟩
  | v :: vs, i, w, h, hs, hone => by
    have hs0 := hs 0 (by simp)
    rw [Nat.add_zero] at hs0
    obtain ⟨h1, h2⟩ := h.setSpare hs0 v
    have hw := h.wr _ _ _ hs0
    obtain ⟨w', h3, h4, h5, h6, h7⟩ := run_storeSpare (b := b) (o := o) (s := s) vs (i + 1) _ h1 (fun j hj => by rw [show i + 1 + j = i + (j + 1) from by omega]; exact hs (j + 1) (by simp; omega)) (fun v hv => hone v (by simp [hv]))
    refine ⟨w', ?_, h4, h2.trans h5, fun j x e => ?_, fun x hx => ?_⟩
    · show ((store ((⟨b, o, none⟩ : Addr).add i) v) >>= fun _ => storeCells ⟨b, o, none⟩ vs (i + 1)).run P w = _
      rw [addr_add, Sem.run_bind, run_store hw.1 hw.2 (hone v (by simp))]; exact h3
    · cases j with
      | zero =>
        simp only [List.getElem?_cons_zero, Option.some.injEq] at e
        subst e
        rw [Nat.add_zero, h7 (o + i) (by omega)]
        exact setCell_cell_eq w b (o + i) v hw.1
      | succ j =>
        rw [show i + (j + 1) = i + 1 + j from by omega]
        exact h6 j x (by simpa using e)
    · rw [h7 x (by omega)]
      exact setCell_cell_ne w b (o + i) v b x (by omega)

end
end Go.Am
