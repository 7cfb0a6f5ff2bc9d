import Derived.Test.YticeppepdlgbhaaDoorMo1
/-! Chapter 17: what is done of one topic changes nothing of another one: plain. -/
open Go Go.Proofs Go.Am
set_option linter.unusedVariables false
set_option linter.unusedSimpArgs false
set_option autoImplicit false
namespace C17
abbrev tA : ByteArray := ⟨#[97]⟩
abbrev tB : ByteArray := ⟨#[98]⟩
abbrev sS : ByteArray := ⟨#[115]⟩
abbrev sT : ByteArray := ⟨#[116]⟩
def farB (l : List Bool) (i : Nat) : Bool := (l[i]?).getD false
def ck1 (c : Cmd) : Cmd := if c.topic ≠ emp then ⟨c.kind, tA, c.name, c.seq, c.key, c.val, c.n, c.node, c.ask⟩ else c
def ck2 (c : Cmd) : Cmd := if c.name ≠ emp ∧ c.kind ≠ 2 then ⟨c.kind, c.topic, sS, c.seq, c.key, c.val, c.n, c.node, c.ask⟩ else c
def ck3 (f : Bool) (c : Cmd) : Cmd := if f = true ∧ c.topic ≠ emp then ⟨c.kind, tB, c.name, c.seq, c.key, c.val, c.n, c.node, c.ask⟩ else c
def ck4 (f : Bool) (c : Cmd) : Cmd := if f = true ∧ c.name = sS then ⟨c.kind, c.topic, sT, c.seq, c.key, c.val, c.n, c.node, c.ask⟩ else c
def cook (f : Bool) (c : Cmd) : Cmd := ck4 f (ck3 f (ck2 (ck1 c)))
theorem cook_kind (f : Bool) (c : Cmd) : (cook f c).kind = c.kind := by
  unfold cook
  have h1 : (ck1 c).kind = c.kind := by unfold ck1; split <;> rfl
  have h2 : ∀ c, (ck2 c).kind = c.kind := fun c => by unfold ck2; split <;> rfl
  have h3 : ∀ c, (ck3 f c).kind = c.kind := fun c => by unfold ck3; split <;> rfl
  have h4 : ∀ c, (ck4 f c).kind = c.kind := fun c => by unfold ck4; split <;> rfl
  rw [h4, h3, h2, h1]
theorem ck1_topic (c : Cmd) : (ck1 c).topic = tA ∨ (ck1 c).topic = emp := by
  unfold ck1
  by_cases h : c.topic ≠ emp
  · rw [if_pos h]; exact .inl rfl
  · rw [if_neg h]; exact .inr (Classical.not_not.1 h)
theorem ck2_topic (c : Cmd) : (ck2 c).topic = c.topic := by unfold ck2; split <;> rfl
theorem ck3_name (f : Bool) (c : Cmd) : (ck3 f c).name = c.name := by unfold ck3; split <;> rfl
theorem ck4_topic (f : Bool) (c : Cmd) : (ck4 f c).topic = c.topic := by unfold ck4; split <;> rfl
theorem ck2_name (c : Cmd) (h : c.kind ≠ 2) : (ck2 c).name = sS ∨ (ck2 c).name = emp := by
  unfold ck2
  by_cases h1 : c.name ≠ emp ∧ c.kind ≠ 2
  · rw [if_pos h1]; exact .inl rfl
  · rw [if_neg h1]; exact .inr (Classical.byContradiction fun h2 => h1 ⟨h2, h⟩)
theorem ck1_kind (c : Cmd) : (ck1 c).kind = c.kind := by unfold ck1; split <;> rfl
theorem ck3_off (c : Cmd) : ck3 false c = c := if_neg fun h => by cases h.1
theorem ck4_off (c : Cmd) : ck4 false c = c := if_neg fun h => by cases h.1
theorem cook_near (c : Cmd) : ((cook false c).topic = tA ∨ (cook false c).topic = emp) ∧ (c.kind ≠ 2 → (cook false c).name = sS ∨ (cook false c).name = emp) := by
  unfold cook
  rw [ck4_off, ck3_off]
  refine ⟨?_, fun h => ck2_name _ (by rw [ck1_kind]; exact h)⟩
  rw [ck2_topic]; exact ck1_topic c
theorem cook_far (c : Cmd) : ((cook true c).topic = tB ∨ (cook true c).topic = emp) ∧ (c.kind ≠ 2 → (cook true c).name = sT ∨ (cook true c).name = emp) := by
  unfold cook
  refine ⟨?_, fun h => ?_⟩
  · rw [ck4_topic]
    unfold ck3
    by_cases h1 : true = true ∧ (ck2 (ck1 c)).topic ≠ emp
    · rw [if_pos h1]; exact .inl rfl
    · rw [if_neg h1]; exact .inr (Classical.byContradiction fun h2 => h1 ⟨rfl, h2⟩)
  · have h1 := ck2_name (ck1 c) (by rw [ck1_kind]; exact h)
    rw [← ck3_name true] at h1
    unfold ck4
    rcases h1 with h1 | h1
    · rw [if_pos ⟨rfl, h1⟩]; exact .inl rfl
    · rw [if_neg]
      · exact .inr h1
      · rintro ⟨-, h2⟩
        rw [h1] at h2
        exact absurd h2 (by decide)
def cnt1 {β : Type} (o : Option β) : Nat := if o.isSome then 1 else 0
structure Lim (x : Mc) : Prop where
  t : x.tps.length ≤ cnt1 (gets x.tps tA) + cnt1 (gets x.tps tB)
  s : x.sbs.length ≤ cnt1 (kget x.sbs sS) + cnt1 (kget x.sbs sT)
theorem cnt1_le {β : Type} (o : Option β) : cnt1 o ≤ 1 := by unfold cnt1; split <;> omega
structure Rel (x z : Mc) : Prop where
  a : gets x.tps tA = gets z.tps tA
  s : kget x.sbs sS = kget z.sbs sS
  lx : Lim x
  lz : Lim z
  sa : ∀ s, kget x.sbs sS = some s → s.topic = tA
  st : ∀ s, kget x.sbs sT = some s → s.topic = tB
theorem rel_new (n : Nat) : Rel (newM n) (newM n) := ⟨rfl, rfl, ⟨Nat.zero_le _, Nat.zero_le _⟩, ⟨Nat.zero_le _, Nat.zero_le _⟩, (fun s h => by cases h), (fun s h => by cases h)⟩
section
variable {β : Type} {l : List (ByteArray × β)} {k a b : ByteArray} {v : β}
theorem ins_lim (hk : k = a ∨ k = b) (h : l.length ≤ cnt1 (gets l a) + cnt1 (gets l b)) : (ins l k v).length ≤ cnt1 (gets (ins l k v) a) + cnt1 (gets (ins l k v) b) := by
  rw [gets_ins, gets_ins]
  cases hg : gets l k with
  | some w =>
    rw [ins_len_some hg]
    have ha : cnt1 (gets l a) ≤ cnt1 (if a = k then some v else gets l a) := by
      split
      · exact cnt1_le _
      · exact Nat.le_refl _
    have hb : cnt1 (gets l b) ≤ cnt1 (if b = k then some v else gets l b) := by
      split
      · exact cnt1_le _
      · exact Nat.le_refl _
    omega
  | none =>
    rw [ins_new hg, List.length_append, List.length_singleton]
    rcases hk with rfl | rfl
    · rw [if_pos rfl]
      have : cnt1 (gets l k) = 0 := by rw [hg]; rfl
      have h2 : cnt1 (some v) = 1 := rfl
      have hb : cnt1 (gets l b) ≤ cnt1 (if b = k then some v else gets l b) := by
        split
        · exact cnt1_le _
        · exact Nat.le_refl _
      omega
    · rw [if_pos rfl]
      have : cnt1 (gets l k) = 0 := by rw [hg]; rfl
      have h2 : cnt1 (some v) = 1 := rfl
      have hb : cnt1 (gets l a) ≤ cnt1 (if a = k then some v else gets l a) := by
        split
        · exact cnt1_le _
        · exact Nat.le_refl _
      omega
end
section
variable {x z : Mc} {c : Cmd} {n : Int}
theorem Lim.tps (h : Lim x) {k : ByteArray} {y : Tp} (hk : k = tA ∨ k = tB) {w : W7} {d : Int} {g : C3.Pr} : Lim ⟨ins x.tps k y, x.sbs, w, d, g⟩ := ⟨ins_lim hk h.t, h.s⟩
theorem Lim.sbs (h : Lim x) {k : ByteArray} {s : Sb} (hk : k = sS ∨ k = sT) {w : W7} {d : Int} {g : C3.Pr} : Lim ⟨x.tps, kput x.sbs k s, w, d, g⟩ := ⟨h.t, ins_lim (l := x.sbs) hk h.s⟩
theorem Lim.same (h : Lim x) {w : W7} {d : Int} {g : C3.Pr} : Lim ⟨x.tps, x.sbs, w, d, g⟩ := ⟨h.t, h.s⟩
theorem Lim.lt (h : Lim x) : ¬ 20 ≤ x.tps.length ∧ ¬ 50 ≤ x.sbs.length := by
  have h1 := h.t; have h2 := h.s
  have := cnt1_le (gets x.tps tA); have := cnt1_le (gets x.tps tB); have := cnt1_le (kget x.sbs sS); have := cnt1_le (kget x.sbs sT)
  omega
theorem Rel.cnt (h : Rel x z) (s s' : ByteArray) : Rel (cntM x s) (cntM z s') := ⟨h.a, h.s, h.lx.same, h.lz.same, h.sa, h.st⟩
theorem Rel.cntL (h : Rel x z) (s : ByteArray) : Rel (cntM x s) z := ⟨h.a, h.s, h.lx.same, h.lz, h.sa, h.st⟩
theorem right_topic (h : rightC c = true) (hn : nTopic c.kind = true) : c.topic ≠ emp := fun e => by
  have := right_word h hn
  rw [e] at this
  exact absurd this (by rw [word_emp]; decide)
theorem right_name (h : rightC c = true) (hn : nName c.kind = true) : c.name ≠ emp := fun e => by
  unfold rightC namesC at h
  rw [hn] at h
  simp only [Bool.and_eq_true, if_true] at h
  have h2 := h.1.1.2.2
  rw [e, word_emp] at h2
  cases h2
theorem near (h : Rel x z) (ho : McOk n x) (ht : c.topic = tA ∨ c.topic = emp) (hs : c.kind ≠ 2 → c.name = sS ∨ c.name = emp) (hk : ¬ (c.kind = 10 ∨ c.kind = 11)) : (doM x c).2 = (doM z c).2 ∧ Rel (doM x c).1 (doM z c).1 := by
  unfold doM
  by_cases hr : rightC c = true
  · rw [if_pos hr, if_pos hr]
    have h' := h.cnt (bytC c) (bytC c)
    have ho' := cnt_ok (s := bytC c) ho
    generalize cntM x (bytC c) = x at h' ho'
    generalize cntM z (bytC c) = z at h'
    have hkk := (rightC_le hr).1
    unfold doC
    by_cases h1 : c.kind = 1
    · have ct : c.topic = tA := ht.resolve_right (right_topic hr (by rw [h1]; rfl))
      rw [if_pos h1, if_pos h1]
      unfold creM
      rw [ct, h'.a]
      cases hg : gets z.tps tA with
      | some y => exact ⟨rfl, h'⟩
      | none =>
        dsimp only
        rw [if_neg h'.lx.lt.1, if_neg h'.lz.lt.1]
        refine ⟨rfl, ⟨?_, h'.s, h'.lx.tps (.inl rfl), h'.lz.tps (.inl rfl), h'.sa, h'.st⟩⟩
        show gets (ins x.tps tA _) tA = gets (ins z.tps tA _) tA
        rw [gets_ins, gets_ins, if_pos rfl, if_pos rfl]
    · rw [if_neg h1, if_neg h1]
      by_cases h3 : c.kind = 3
      · have ct : c.topic = tA := ht.resolve_right (right_topic hr (by rw [h3]; rfl))
        have cn : c.name = sS := (hs (by omega)).resolve_right (right_name hr (by rw [h3]; rfl))
        rw [if_pos h3, if_pos h3]
        unfold subM
        rw [ct, h'.a]
        cases hg : gets z.tps tA with
        | none => exact ⟨rfl, h'⟩
        | some y =>
          dsimp only
          rw [cn, h'.s]
          cases hn : kget z.sbs sS with
          | some s => exact ⟨rfl, h'⟩
          | none =>
            dsimp only
            rw [if_neg h'.lx.lt.2, if_neg h'.lz.lt.2]
            refine ⟨rfl, ?_⟩
            dsimp only
            by_cases hz : (newS sS y c.n).2 = 0
            · rw [if_pos hz, if_pos hz]
              have hy : y.name = tA := (ho'.tp tA y (by rw [h'.a]; exact hg)).1
              refine ⟨h'.a, ?_, h'.lx.sbs (.inl rfl), h'.lz.sbs (.inl rfl), fun s e => ?_, fun s e => ?_⟩
              · show kget (kput x.sbs sS _) sS = kget (kput z.sbs sS _) sS
                rw [kget_kput, kget_kput, if_pos rfl, if_pos rfl]
              · have e' : kget (kput x.sbs sS (newS sS y c.n).1) sS = some s := e
                rw [kget_kput, if_pos rfl] at e'
                cases e'
                rw [new_topic hz]; exact hy
              · have e' : kget (kput x.sbs sS (newS sS y c.n).1) sT = some s := e
                rw [kget_kput, if_neg (by decide)] at e'
                exact h'.st s e'
            · rw [if_neg hz, if_neg hz]; exact ⟨h'.a, h'.s, h'.lx.same, h'.lz.same, h'.sa, h'.st⟩
      · rw [if_neg h3, if_neg h3]
        by_cases h2 : c.kind = 2 ∨ c.kind = 8 ∨ c.kind = 9
        · have ct : c.topic = tA := ht.resolve_right (right_topic hr (by rcases h2 with e | e | e <;> rw [e] <;> rfl))
          rw [if_pos h2, if_pos h2]
          unfold chgM
          rw [ct, h'.a]
          cases hg : gets z.tps tA with
          | none => exact ⟨rfl, h'⟩
          | some y =>
            refine ⟨rfl, ⟨?_, h'.s, h'.lx.tps (.inl rfl), h'.lz.tps (.inl rfl), h'.sa, h'.st⟩⟩
            show gets (ins x.tps tA _) tA = gets (ins z.tps tA _) tA
            rw [gets_ins, gets_ins, if_pos rfl, if_pos rfl]
        · have h4 : c.kind = 4 ∨ c.kind = 5 ∨ c.kind = 6 ∨ c.kind = 7 := by omega
          have cn : c.name = sS := (hs (by omega)).resolve_right (right_name hr (by rcases h4 with e | e | e | e <;> rw [e] <;> rfl))
          rw [if_neg h2, if_neg h2, if_pos h4, if_pos h4]
          unfold folM
          rw [cn, h'.s]
          cases hn : kget z.sbs sS with
          | none => exact ⟨rfl, h'⟩
          | some s =>
            have hst : s.topic = tA := h'.sa s (by rw [h'.s]; exact hn)
            dsimp only
            rw [hst, h'.a]
            cases hg : gets z.tps tA with
            | none => exact ⟨rfl, h'⟩
            | some y =>
              refine ⟨rfl, ?_⟩
              dsimp only
              by_cases hz : (folS s y c).2.1 = 0
              · rw [if_pos hz, if_pos hz]
                refine ⟨h'.a, ?_, h'.lx.sbs (.inl rfl), h'.lz.sbs (.inl rfl), fun q e => ?_, fun q e => ?_⟩
                · show kget (kput x.sbs sS _) sS = kget (kput z.sbs sS _) sS
                  rw [kget_kput, kget_kput, if_pos rfl, if_pos rfl]
                · have e' : kget (kput x.sbs sS (folS s y c).1) sS = some q := e
                  rw [kget_kput, if_pos rfl] at e'
                  cases e'
                  rw [fol_topic]; exact hst
                · have e' : kget (kput x.sbs sS (folS s y c).1) sT = some q := e
                  rw [kget_kput, if_neg (by decide)] at e'
                  exact h'.st q e'
              · rw [if_neg hz, if_neg hz]; exact ⟨h'.a, h'.s, h'.lx.same, h'.lz.same, h'.sa, h'.st⟩
  · rw [if_neg hr, if_neg hr]; exact ⟨rfl, h.cnt _ _⟩
theorem far (h : Rel x z) (ho : McOk n x) (ht : c.topic = tB ∨ c.topic = emp) (hs : c.kind ≠ 2 → c.name = sT ∨ c.name = emp) (hk : ¬ (c.kind = 10 ∨ c.kind = 11)) : Rel (doM x c).1 z := by
  have nab : ¬ tA = tB := by decide
  have nst : ¬ sS = sT := by decide
  unfold doM
  by_cases hr : rightC c = true
  · rw [if_pos hr]
    have h' := h.cntL (bytC c)
    have ho' := cnt_ok (s := bytC c) ho
    generalize cntM x (bytC c) = x at h' ho'
    have hkk := (rightC_le hr).1
    have insB : ∀ (y : Tp), Rel ⟨ins x.tps tB y, x.sbs, x.want, x.cnt, x.dig⟩ z := fun y => ⟨by rw [← h'.a]; show gets (ins x.tps tB y) tA = _; rw [gets_ins, if_neg nab], h'.s, h'.lx.tps (.inr rfl), h'.lz, h'.sa, h'.st⟩
    have putT : ∀ (s : Sb), s.topic = tB → Rel ⟨x.tps, kput x.sbs sT s, x.want, x.cnt, x.dig⟩ z := fun s hs => ⟨h'.a, by rw [← h'.s]; show kget (kput x.sbs sT s) sS = _; rw [kget_kput, if_neg nst], h'.lx.sbs (.inr rfl), h'.lz, fun q e => by
        have e' : kget (kput x.sbs sT s) sS = some q := e
        rw [kget_kput, if_neg nst] at e'
        exact h'.sa q e', fun q e => by
        have e' : kget (kput x.sbs sT s) sT = some q := e
        rw [kget_kput, if_pos rfl] at e'
        cases e'; exact hs⟩
    unfold doC
    by_cases h1 : c.kind = 1
    · have ct : c.topic = tB := ht.resolve_right (right_topic hr (by rw [h1]; rfl))
      rw [if_pos h1]
      unfold creM
      rw [ct]
      cases hg : gets x.tps tB with
      | some y => exact h'
      | none =>
        dsimp only
        rw [if_neg h'.lx.lt.1]
        exact insB _
    · rw [if_neg h1]
      by_cases h3 : c.kind = 3
      · have ct : c.topic = tB := ht.resolve_right (right_topic hr (by rw [h3]; rfl))
        have cn : c.name = sT := (hs (by omega)).resolve_right (right_name hr (by rw [h3]; rfl))
        rw [if_pos h3]
        unfold subM
        rw [ct]
        cases hg : gets x.tps tB with
        | none => exact h'
        | some y =>
          dsimp only
          rw [cn]
          cases hn : kget x.sbs sT with
          | some s => exact h'
          | none =>
            dsimp only
            rw [if_neg h'.lx.lt.2]
            dsimp only
            by_cases hz : (newS sT y c.n).2 = 0
            · rw [if_pos hz]
              exact putT _ (by rw [new_topic hz]; exact (ho'.tp tB y hg).1)
            · rw [if_neg hz]; exact ⟨h'.a, h'.s, h'.lx.same, h'.lz, h'.sa, h'.st⟩
      · rw [if_neg h3]
        by_cases h2 : c.kind = 2 ∨ c.kind = 8 ∨ c.kind = 9
        · have ct : c.topic = tB := ht.resolve_right (right_topic hr (by rcases h2 with e | e | e <;> rw [e] <;> rfl))
          rw [if_pos h2]
          unfold chgM
          rw [ct]
          cases hg : gets x.tps tB with
          | none => exact h'
          | some y => exact insB _
        · have h4 : c.kind = 4 ∨ c.kind = 5 ∨ c.kind = 6 ∨ c.kind = 7 := by omega
          have cn : c.name = sT := (hs (by omega)).resolve_right (right_name hr (by rcases h4 with e | e | e | e <;> rw [e] <;> rfl))
          rw [if_neg h2, if_pos h4]
          unfold folM
          rw [cn]
          cases hn : kget x.sbs sT with
          | none => exact h'
          | some s =>
            have hst : s.topic = tB := h'.st s hn
            dsimp only
            rw [hst]
            cases hg : gets x.tps tB with
            | none => exact h'
            | some y =>
              dsimp only
              by_cases hz : (folS s y c).2.1 = 0
              · rw [if_pos hz]
                exact putT _ (by rw [fol_topic]; exact hst)
              · rw [if_neg hz]; exact ⟨h'.a, h'.s, h'.lx.same, h'.lz, h'.sa, h'.st⟩
  · rw [if_neg hr]; exact h.cntL _
end
end C17
namespace C17
theorem fol_len (s : Sb) (y : Tp) (c : Cmd) : (folS s y c).2.2.2.length ≤ y.recs.length := by
  unfold folS
  split
  · exact Nat.zero_le _
  · split
    · show (pollS s y c.n).2.1.length ≤ _
      unfold pollS
      split
      · exact (pollL_sub s y c.n).length_le
      · exact Nat.zero_le _
    · split <;> exact Nat.zero_le _
/-- No more records are told than there are. -/
theorem rep_len {n : Int} {x : Mc} (h : McOk n x) (c : Cmd) : ((doM x c).2.recs.length : Int) ≤ n := by
  have hp := h.pos
  unfold doM
  split
  · unfold doC
    split
    · unfold creM
      split
      · exact hp
      · split <;> exact hp
    · split
      · unfold subM
        split
        · exact hp
        · split
          · exact hp
          · split <;> exact hp
      · split
        · unfold chgM
          split <;> exact hp
        · split
          · unfold folM
            split
            · exact hp
            · split
              · exact hp
              · rename_i s hs _ y hy
                have h1 := fol_len s y c
                have h2 := (h.tp _ y hy).2.len
                dsimp only
                omega
          · unfold wanM
            split <;> exact hp
  · exact hp
end C17
