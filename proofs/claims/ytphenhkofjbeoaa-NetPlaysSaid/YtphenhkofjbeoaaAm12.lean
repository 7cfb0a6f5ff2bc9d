import Derived.Test.YtphenhkofjbeoaaAm11
namespace Go.Am
section
variable {P : Program} {κ : Ghost} {w : World}

theorem Holds.drawn {T : Nat → AVal} {V : Nat → Value} {M : Mem} (h : Holds P κ T V M w) (n : Nat) : Holds P κ T V M { w with drawn := n } ∧ Keep κ w κ { w with drawn := n } := by
  have hk : Keep κ w κ { w with drawn := n } := ⟨rfl, rfl, rfl, Nat.le_refl _, fun _ _ => rfl, fun _ _ h => ⟨h, rfl⟩, fun _ _ h => ⟨h, rfl, rfl⟩, fun _ _ _ => rfl⟩
  refine ⟨⟨fun t => hk.rep (h.tmp t), fun d p hd => ?_, h.tag, fun t d y hsp => h.sp t d y (hsp.keep (h.tmp t) hk.shape), h.wr, h.mwr⟩, hk⟩
  have := h.obj d p hd
  cases p with
  | it o => exact this
  | cells l' =>
    obtain ⟨c', e, fr, b1, b2, b3, b4⟩ := this
    exact ⟨c', e, fr, b1, b2, b3, fun j Y y e1 e2 => ⟨hk.rep (b4 j Y y e1 e2).1, (b4 j Y y e1 e2).2.1, fun b' o' hsp => (b4 j Y y e1 e2).2.2 b' o' (hsp.keep (b4 j Y y e1 e2).1 hk.shape)⟩⟩
  | map es =>
    obtain ⟨ents, clock, b1, b2, b3, b4, b5⟩ := this
    exact ⟨ents, clock, b1, b2, fun j e ent e1 e2 => ⟨(b3 j e ent e1 e2).1, hk.rep (b3 j e ent e1 e2).2.1, fun b' o' hsp => (b3 j e ent e1 e2).2.2 b' o' (hsp.keep (b3 j e ent e1 e2).2.1 hk.shape)⟩, b4, b5⟩

/-- The tags behind a new block whose first n cells are immutable, the others slot d's. -/
def newTag (κ : Ghost) (nb n m d : Nat) : Ghost := fun b o => if b = nb then (if o < n then .imm else if o < m then .slot d else .free) else κ b o

theorem esz_of {b : Nat} {c : Array Value} {e : TypeId} {fr : Nat × Nat} {sz : Nat} (hb : w.heap[b]? = some (.cells c e fr)) (hs : sizeT P e = some sz) : esz P w b = sz := by
  unfold esz World.shape?
  rw [hb]
  unfold sizeT at hs
  simp only [hs, Option.getD_some]

/-- A new block that an owned slice stands for. -/
theorem Holds.newSl {T : Nat → AVal} {V : Nat → Value} {M : Mem} (h : Holds P κ T V M w) (d : Nat) {l : List AVal} {cs : Array Value} {cap : Nat} {e : TypeId} {fr : Nat × Nat} {sz : Nat} (hs : sizeT P e = some sz) (hc : cs.size = cap * sz) (hle : l.length ≤ cap) (hne : l ≠ [] ∨ cap = l.length)
    (hl : ∀ E ∈ l, E.cells.length = sz) (hr : ∀ (j : Nat) c v, (flat l)[j]? = some c → cs[j]? = some v → Rep P κ w c v) (hfr : ∀ o, o < cs.size → ¬ (fr.1 ≤ o ∧ o < fr.2)) :
    Holds P (newTag κ w.heap.size (l.length * sz) cs.size d) (setT T d (.sl l true)) (fun t => if t = d then .slice (some ⟨w.heap.size, 0, none⟩) l.length cap else V t) M (Am.push w (.cells cs e fr)) ∧
      Keep κ w (newTag κ w.heap.size (l.length * sz) cs.size d) (Am.push w (.cells cs e fr)) := by
  have hfl := flat_length hl
  have hlsz : l.length * sz ≤ cs.size := by rw [hc]; exact Nat.mul_le_mul_right sz hle
  have h1 := h.push (.cells cs e fr)
  have hk1 : Keep κ w κ (Am.push w (.cells cs e fr)) := Keep.push _ fun b o hb => (h.tag b o hb).1
  have hblk : (Am.push w (.cells cs e fr)).heap[w.heap.size]? = some (.cells cs e fr) := push_new w _
  have hsize : (Am.push w (.cells cs e fr)).heap.size = w.heap.size + 1 := by simp [Am.push]
  have hold : ∀ b o, b ≠ w.heap.size → newTag κ w.heap.size (l.length * sz) cs.size d b o = κ b o := fun b o hb => by unfold newTag; rw [if_neg hb]
  have himm : ∀ b o, κ b o = .imm → newTag κ w.heap.size (l.length * sz) cs.size d b o = .imm := fun b o hb => by
    rw [hold b o fun e => by subst e; rw [h.untagged o] at hb; cases hb]; exact hb
  have hframe : ∀ b o, κ b o = .frame → newTag κ w.heap.size (l.length * sz) cs.size d b o = .frame := fun b o hb => by
    rw [hold b o fun e => by subst e; rw [h.untagged o] at hb; cases hb]; exact hb
  have hk2 : Keep κ (Am.push w (.cells cs e fr)) (newTag κ w.heap.size (l.length * sz) cs.size d) (Am.push w (.cells cs e fr)) := Keep.tags himm hframe
  refine ⟨⟨fun t => ?_, fun b o hb => ?_, fun b o hb => ?_, fun t b o hsp => ?_, fun b o t hb => ?_, fun b o c j hb => ?_⟩, hk1.trans hk2⟩
  · unfold setT
    split
    · refine .sl l true w.heap.size 0 cap sz (fun j => cs.getD j undef) hle hl (fun j hj => ?_) (fun j hj => ?_) (fun j c hc' => ?_) fun _ => hne.elim (fun h0 => .inr ⟨h0, esz_of hblk hs, by rw [hsize]; omega⟩) .inl
      · unfold newTag; rw [if_pos rfl, if_pos (by omega)]
      · rw [cell_of_cells hblk, Nat.zero_add]
        have : j < cs.size := by omega
        simp [this]
      · have hj : j < (flat l).length := by
          rcases Nat.lt_or_ge j (flat l).length with h' | h'
          · exact h'
          · rw [List.getElem?_eq_none h'] at hc'; cases hc'
        have hj2 : j < cs.size := by omega
        exact (hk1.trans hk2).rep (hr j c _ hc' (by simp [hj2]))
    · exact hk2.rep (h1.tmp t)
  · have hne : ∀ b' o' j, κ b' o' = .mslot b j → newTag κ w.heap.size (l.length * sz) cs.size d b' o' = .mslot b j := fun b' o' j hb' => by
      rw [hold b' o' fun e => by subst e; rw [h.untagged o'] at hb'; cases hb']; exact hb'
    exact (h1.obj b o hb).tags himm hne
  · rw [hsize]
    unfold newTag at hb
    split at hb
    · rename_i e'; subst e'; exact ⟨by omega, h.fresh⟩
    · exact ⟨by have := (h.tag b o hb).1; omega, (h.tag b o hb).2⟩
  · unfold setT at hsp
    split at hsp
    · rename_i e'; subst e'
      obtain ⟨l', off, cap', e1, e2, e3, e4⟩ := hsp.sl
      cases e1
      have e5 : b = w.heap.size ∧ off = 0 ∧ cap' = cap := by
        simp only [Value.slice.injEq, Option.some.injEq, Addr.mk.injEq] at e2
        obtain ⟨⟨a1, a2, -⟩, -, a3⟩ := e2
        exact ⟨a1.symm, a2.symm, a3.symm⟩
      obtain ⟨rfl, rfl, rfl⟩ := e5
      rw [esz_of hblk hs] at e3 e4
      unfold newTag
      rw [if_pos rfl, if_neg (by omega), if_pos (by omega)]
    · rename_i e'
      have hsp' := hsp.keep (h.tmp t) hk1.shape
      have := h.sp t b o hsp'
      rw [hold b o fun e => by subst e; rw [h.untagged o] at this; cases this]
      exact this
  · unfold newTag at hb
    split at hb
    · rename_i e'; subst e'
      split at hb
      · cases hb
      · split at hb
        · rename_i ho
          refine ⟨by rw [cell_of_cells hblk]; simp [ho], ?_⟩
          unfold World.frozen?
          simp only [hblk]
          have := hfr o ho
          simp only [Bool.and_eq_false_imp, decide_eq_true_eq, decide_eq_false_iff_not]
          intro h1 h2; exact this ⟨h1, h2⟩
        · cases hb
    · exact h1.wr b o t hb
  · unfold newTag at hb
    split at hb
    · split at hb
      · cases hb
      · split at hb <;> cases hb
    · exact h1.mwr b o c j hb

/-- The tags behind an append into spare room. -/
def growTag (κ : Ghost) (b lo hi s d : Nat) : Ghost := fun b' o => if b' = b ∧ lo ≤ o ∧ o < hi then .imm else mvTag κ s d b' o

/-- An owned slice has grown into its spare room: the cells are laid already. -/
theorem Holds.grow {T : Nat → AVal} {V : Nat → Value} {M : Mem} (h : Holds P κ T V M w) (s d : Nat) (hsd : s ≠ d) {l ys : List AVal} {b off cap sz : Nat} (hT : T s = .sl l true) (hV : V s = .slice (some ⟨b, off, none⟩) l.length cap)
    (hl : ∀ E ∈ l, E.cells.length = sz) (hys : ∀ E ∈ ys, E.cells.length = sz) (hle : l.length + ys.length ≤ cap) (hne : l ++ ys ≠ []) (he : esz P w b = sz) (hbs : b < w.heap.size) (cv : Nat → Value)
    (hcell : ∀ j, j < ys.length * sz → w.cell? ⟨b, off + (l.length * sz + j), none⟩ = some (cv j)) (hr : ∀ (j : Nat) c, (flat ys)[j]? = some c → Rep P κ w c (cv j)) :
    Holds P (growTag κ b (off + l.length * sz) (off + (l.length + ys.length) * sz) s d) (setT (setT T s (T s).shut) d (.sl (l ++ ys) true)) (fun t => if t = d then .slice (some ⟨b, off, none⟩) (l.length + ys.length) cap else V t) M w ∧
      Keep κ w (growTag κ b (off + l.length * sz) (off + (l.length + ys.length) * sz) s d) w := by
  have hspare : ∀ o, off + l.length * sz ≤ o → o < off + cap * sz → κ b o = .slot s := fun o h1 h2 => by
    refine h.sp s b o (.inl ⟨l, off, cap, hT, hV, ?_, ?_⟩)
    · rw [he]; exact h1
    · rw [he]; exact h2
  have hcap : (l.length + ys.length) * sz ≤ cap * sz := Nat.mul_le_mul_right sz hle
  have hadd : (l.length + ys.length) * sz = l.length * sz + ys.length * sz := Nat.add_mul ..
  have hnot : ∀ b' o, (∀ t, κ b' o ≠ .slot t) → ¬ (b' = b ∧ off + l.length * sz ≤ o ∧ o < off + (l.length + ys.length) * sz) := fun b' o hn ⟨e1, e2, e3⟩ => by
    subst e1; exact hn s (hspare o e2 (by omega))
  have himm : ∀ b' o, κ b' o = .imm → growTag κ b (off + l.length * sz) (off + (l.length + ys.length) * sz) s d b' o = .imm := fun b' o hb => by
    unfold growTag; rw [if_neg (hnot b' o fun t e => by rw [hb] at e; cases e)]; exact mvTag_imm.2 hb
  have hframe : ∀ b' o, κ b' o = .frame → growTag κ b (off + l.length * sz) (off + (l.length + ys.length) * sz) s d b' o = .frame := fun b' o hb => by
    unfold growTag; rw [if_neg (hnot b' o fun t e => by rw [hb] at e; cases e)]; exact mvTag_frame.2 hb
  have hmslot : ∀ b' o c j, κ b' o = .mslot c j → growTag κ b (off + l.length * sz) (off + (l.length + ys.length) * sz) s d b' o = .mslot c j := fun b' o c j hb => by
    unfold growTag; rw [if_neg (hnot b' o fun t e => by rw [hb] at e; cases e)]; exact mvTag_mslot.2 hb
  have hk : Keep κ w (growTag κ b (off + l.length * sz) (off + (l.length + ys.length) * sz) s d) w := Keep.tags himm hframe
  refine ⟨⟨fun t => ?_, fun b' o hb => (h.obj b' o hb).tags himm (fun b'' o'' j => hmslot b'' o'' b' j), fun b' o hb => ?_, fun t b' o hsp => ?_, fun b' o t hb => ?_, fun b' o c j hb => ?_⟩, hk⟩
  · unfold setT
    split
    · rename_i e; subst e
      have hTs := h.tmp s
      rw [hT, hV] at hTs
      have hflat : flat (l ++ ys) = flat l ++ flat ys := by unfold flat; rw [List.flatMap_append]
      have hfl := flat_length hl
      have hfy := flat_length hys
      cases hTs with
      | sl _ _ _ _ _ sz' cv' hcap' hsz' hk' hw' hr' ho' =>
        have key : Rep P (growTag κ b (off + l.length * sz) (off + (l.length + ys.length) * sz) s t) w (.sl (l ++ ys) true) (.slice (some ⟨b, off, none⟩) (l ++ ys).length cap) := by
         refine .sl (l ++ ys) true b off cap sz (fun j => if j < (flat l).length then cv' j else cv (j - (flat l).length)) (by rw [List.length_append]; exact hle) (fun E hE => ?_) (fun j hj => ?_) (fun j hj => ?_) (fun j c hc => ?_) fun _ => .inr ⟨hne, he, hbs⟩
         · rcases List.mem_append.1 hE with h' | h'
           · exact hl E h'
           · exact hys E h'
         · rw [hflat, List.length_append] at hj
           by_cases hj' : j < (flat l).length
           · exact himm b _ (hk' j hj')
           · unfold growTag; rw [if_pos ⟨rfl, by omega, by omega⟩]
         · rw [hflat, List.length_append] at hj
           by_cases hj' : j < (flat l).length
           · simp only [if_pos hj']; exact hw' j hj'
           · simp only [if_neg hj']
             rw [← hcell (j - (flat l).length) (by omega)]
             congr 2
             omega
         · rw [hflat] at hc
           by_cases hj' : j < (flat l).length
           · simp only [if_pos hj']
             rw [List.getElem?_append_left hj'] at hc
             exact hk.rep (hr' j c hc)
           · simp only [if_neg hj']
             rw [List.getElem?_append_right (by omega)] at hc
             exact hk.rep (hr _ c hc)
        rw [List.length_append] at key
        exact key
    · split
      · rename_i e; subst e; exact hk.rep (h.tmp t).shut
      · exact hk.rep (h.tmp t)
  · unfold growTag at hb
    split at hb
    · rename_i e
      have := hspare o e.2.1 (by omega)
      rw [e.1]; exact h.tag b o (by rw [this]; simp)
    · exact h.tag b' o fun e => hb (mvTag_free.2 e)
  · unfold setT at hsp
    split at hsp
    · rename_i e; subst e
      obtain ⟨l', off', cap', e1, e2, e3, e4⟩ := hsp.sl
      cases e1
      have e5 : b' = b ∧ off' = off ∧ cap' = cap := by
        simp only [Value.slice.injEq, Option.some.injEq, Addr.mk.injEq] at e2
        obtain ⟨⟨a1, a2, -⟩, -, a3⟩ := e2
        exact ⟨a1.symm, a2.symm, a3.symm⟩
      obtain ⟨rfl, rfl, rfl⟩ := e5
      rw [he, List.length_append] at e3
      rw [he] at e4
      unfold growTag
      rw [if_neg (by omega)]
      unfold mvTag
      rw [hspare o (by omega) e4]; simp
    · rename_i e
      split at hsp
      · exact absurd hsp Spare.not_shut
      · rename_i e'
        have := h.sp t b' o hsp
        unfold growTag
        rw [if_neg fun ⟨e1, e2, e3⟩ => by
          subst e1
          have h2 := hspare o e2 (by omega)
          rw [h2] at this
          cases this; exact e' rfl]
        unfold mvTag; rw [this]; simp [e']
  · unfold growTag at hb
    split at hb
    · cases hb
    · unfold mvTag at hb
      split at hb
      · rename_i h1; exact h.wr b' o _ h1
      · exact h.wr b' o t hb
  · unfold growTag at hb
    split at hb
    · cases hb
    · exact h.mwr b' o c j (mvTag_mslot.1 hb)

end
end Go.Am
