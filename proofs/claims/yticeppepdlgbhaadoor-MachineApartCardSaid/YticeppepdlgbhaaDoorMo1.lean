import Derived.Test.YticeppepdlgbhaaDoorMa10
/-! Chapter 17: a publish that was answered is answered the same: plain. -/
open Go Go.Proofs Go.Am
set_option linter.unusedVariables false
set_option linter.unusedSimpArgs false
set_option autoImplicit false
namespace C17
/-- Each record lies at its offset; each producer's last one is known; a producer's numbers rise. -/
structure OnceT (y : Tp) : Prop where
  en : y.en = y.recs.length
  off : ∀ i, ∀ h : i < y.recs.length, y.recs[i].off = i
  none : ∀ p, kget y.kvs p = none → ∀ r ∈ y.recs, r.prod ≠ p
  some : ∀ p l, kget y.kvs p = some l → ∃ i, ∃ h : i < y.recs.length, l.2.1 = i ∧ y.recs[i].prod = p ∧ y.recs[i].seq = l.1 ∧ ∀ r ∈ y.recs, r.prod = p → r.seq ≤ l.1
  rise : ∀ i j, ∀ hi : i < y.recs.length, ∀ hj : j < y.recs.length, i < j → y.recs[i].prod = y.recs[j].prod → y.recs[i].seq < y.recs[j].seq
abbrev pxT (x : Tp) (p : ByteArray) (seq : Int) (k v : ByteArray) : Tp := ⟨x.name, x.low, x.en + 1, kput x.kvs p (seq, x.en, p), x.recs ++ [newR x p seq k v]⟩
theorem onceT_new (s : ByteArray) : OnceT ⟨s, 0, 0, [], []⟩ := ⟨rfl, (fun i h => absurd h (Nat.not_lt_zero i)), (fun p _ r hr => absurd hr List.not_mem_nil), (fun p l h => by cases h), (fun i j hi => absurd hi (Nat.not_lt_zero i))⟩
theorem onceT_px {x : Tp} {p : ByteArray} {seq : Int} {k v : ByteArray} (h : OnceT x) (hp : ∀ r ∈ x.recs, r.prod = p → r.seq < seq) : OnceT (pxT x p seq k v) := by
  have hl : (pxT x p seq k v).recs.length = x.recs.length + 1 := by simp [pxT]
  have gl : ∀ i, ∀ hi : i < x.recs.length, (pxT x p seq k v).recs[i]'(by rw [hl]; omega) = x.recs[i] := fun i hi => by
    show (x.recs ++ [newR x p seq k v])[i]'(by simp; omega) = _
    rw [List.getElem_append_left hi]
  have gr : (pxT x p seq k v).recs[x.recs.length]'(by rw [hl]; omega) = newR x p seq k v := by
    show (x.recs ++ [newR x p seq k v])[x.recs.length]'(by simp) = _
    rw [List.getElem_concat_length rfl]
  refine ⟨by rw [hl]; show x.en + 1 = _; rw [h.en]; omega, fun i hi => ?_, fun q hq r hr => ?_, fun q l hq => ?_, fun i j hi hj hij he => ?_⟩
  · rw [hl] at hi
    by_cases e : i < x.recs.length
    · rw [gl i e]; exact h.off i e
    · obtain rfl : i = x.recs.length := by omega
      rw [gr]; exact h.en
  · have hq' : kget (kput x.kvs p (seq, x.en, p)) q = none := hq
    rw [kget_kput] at hq'
    have hne : q ≠ p := fun e => by rw [if_pos e] at hq'; cases hq'
    rw [if_neg hne] at hq'
    have hr' : r ∈ x.recs ++ [newR x p seq k v] := hr
    rcases List.mem_append.1 hr' with hr' | hr'
    · exact h.none q hq' r hr'
    · rw [List.mem_singleton.1 hr']; exact fun e => hne e.symm
  · have hq' : kget (kput x.kvs p (seq, x.en, p)) q = Option.some l := hq
    rw [kget_kput] at hq'
    by_cases e : q = p
    · rw [if_pos e] at hq'
      obtain rfl := Option.some.inj hq'
      refine ⟨x.recs.length, by rw [hl]; omega, h.en, by rw [gr]; exact e.symm, by rw [gr]; rfl, fun r hr hrp => ?_⟩
      have hr' : r ∈ x.recs ++ [newR x p seq k v] := hr
      rcases List.mem_append.1 hr' with hr' | hr'
      · exact Int.le_of_lt (hp r hr' (hrp.trans e))
      · rw [List.mem_singleton.1 hr']; exact Int.le_refl _
    · rw [if_neg e] at hq'
      obtain ⟨i, hi, h1, h2, h3, h4⟩ := h.some q l hq'
      refine ⟨i, by rw [hl]; omega, h1, by rw [gl i hi]; exact h2, by rw [gl i hi]; exact h3, fun r hr hrp => ?_⟩
      have hr' : r ∈ x.recs ++ [newR x p seq k v] := hr
      rcases List.mem_append.1 hr' with hr' | hr'
      · exact h4 r hr' hrp
      · rw [List.mem_singleton.1 hr'] at hrp; exact absurd hrp.symm e
  · rw [hl] at hi hj
    by_cases e : j < x.recs.length
    · rw [gl i (by omega), gl j e] at *; exact h.rise i j (by omega) e hij he
    · obtain rfl : j = x.recs.length := by omega
      rw [gl i hij, gr] at *
      exact hp _ (List.getElem_mem hij) he
/-- What a publish comes to. -/
theorem pub_cases {x : Tp} {p : ByteArray} {seq : Int} {k v : ByteArray} (h : OnceT x) :
    ((pub x p seq k v).2.2 ≠ 0 ∧ (pub x p seq k v).1 = x) ∨
    (word p = true ∧ (∀ r ∈ x.recs, r.prod = p → r.seq < seq) ∧ (∀ l, kget x.kvs p = some l → l.1 < seq) ∧ pub x p seq k v = (pxT x p seq k v, x.en, 0)) ∨
    (word p = true ∧ ∃ l, kget x.kvs p = some l ∧ l.1 = seq ∧ pub x p seq k v = (x, l.2.1, 0)) := by
  unfold pub
  by_cases hw : (word p && right (newR x p seq k v)) = true
  · rw [if_pos hw]
    have hwp : word p = true := by simp only [Bool.and_eq_true] at hw; exact hw.1
    cases hl : kget x.kvs p with
    | none => exact .inr (.inl ⟨hwp, fun r hr e => absurd e (h.none p hl r hr), (fun l e => by cases e), rfl⟩)
    | some l =>
      dsimp only
      by_cases h1 : seq < l.1
      · rw [if_pos h1]; exact .inl ⟨(show (6 : Int) ≠ 0 by decide), rfl⟩
      · rw [if_neg h1]
        by_cases h2 : seq = l.1
        · rw [if_pos h2]; exact .inr (.inr ⟨hwp, l, rfl, h2.symm, rfl⟩)
        · rw [if_neg h2]
          obtain ⟨i, hi, -, -, -, h4⟩ := h.some p l hl
          exact .inr (.inl ⟨hwp, (fun r hr e => by have := h4 r hr e; omega), (fun m e => by cases e; omega), rfl⟩)
  · rw [if_neg hw]; exact .inl ⟨(show (7 : Int) ≠ 0 by decide), rfl⟩
theorem onceT_pub {x : Tp} (h : OnceT x) (p : ByteArray) (seq : Int) (k v : ByteArray) : OnceT (pub x p seq k v).1 := by
  rcases pub_cases (p := p) (seq := seq) (k := k) (v := v) h with ⟨-, e⟩ | ⟨-, h1, -, e⟩ | ⟨-, l, -, -, e⟩
  · rw [e]; exact h
  · rw [e]; exact onceT_px h h1
  · rw [e]; exact h
/-- What becomes of the topics. -/
theorem doM_tps (x : Mc) (c : Cmd) : (doM x c).1.tps = x.tps ∨ (gets x.tps c.topic = none ∧ c.kind = 1 ∧ (doM x c).1.tps = ins x.tps c.topic ⟨c.topic, 0, 0, [], []⟩) ∨ (∃ y, gets x.tps c.topic = some y ∧ (c.kind = 2 ∨ c.kind = 8 ∨ c.kind = 9) ∧ (doM x c).1.tps = ins x.tps c.topic (chgT y c).1) := by
  unfold doM
  by_cases hr : rightC c = true
  · rw [if_pos hr]
    unfold doC
    by_cases h1 : c.kind = 1
    · rw [if_pos h1]
      unfold creM
      cases hg : gets (cntM x (bytC c)).tps c.topic with
      | some y => exact .inl rfl
      | none =>
        dsimp only
        split
        · exact .inl rfl
        · exact .inr (.inl ⟨hg, h1, rfl⟩)
    · rw [if_neg h1]
      by_cases h3 : c.kind = 3
      · rw [if_pos h3]
        unfold subM
        split
        · exact .inl rfl
        · split
          · exact .inl rfl
          · split
            · exact .inl rfl
            · exact .inl rfl
      · rw [if_neg h3]
        by_cases h2 : c.kind = 2 ∨ c.kind = 8 ∨ c.kind = 9
        · rw [if_pos h2]
          unfold chgM
          cases hg : gets (cntM x (bytC c)).tps c.topic with
          | none => exact .inl rfl
          | some y => exact .inr (.inr ⟨y, hg, h2, rfl⟩)
        · rw [if_neg h2]
          split
          · unfold folM
            split
            · exact .inl rfl
            · split
              · exact .inl rfl
              · exact .inl rfl
          · unfold wanM
            split
            · exact .inl rfl
            · exact .inl rfl
  · rw [if_neg hr]; exact .inl rfl
def OM (x : Mc) : Prop := ∀ k y, gets x.tps k = some y → OnceT y
theorem om_new (n : Nat) : OM (newM n) := fun k y e => by cases e
theorem chgT_pub {y : Tp} {c : Cmd} (h : c.kind = 2) : (chgT y c).1 = (pub y c.name c.seq c.key c.val).1 := by unfold chgT; rw [if_pos h]
theorem om_do {x : Mc} {c : Cmd} (h : OM x) (hk : c.kind ≠ 8 ∧ c.kind ≠ 9) : OM (doM x c).1 := by
  rcases doM_tps x c with e | ⟨e1, e2, e⟩ | ⟨y, e1, e2, e⟩
  · intro k y hy; rw [e] at hy; exact h k y hy
  · intro k z hz
    rw [e, gets_ins] at hz
    split at hz
    · cases hz; exact onceT_new _
    · exact h k z hz
  · intro k z hz
    rw [e, gets_ins] at hz
    split at hz
    · cases hz
      rw [chgT_pub (by omega)]
      exact onceT_pub (h _ y e1) ..
    · exact h k z hz
/-- What a publish got. -/
def Got (x : Mc) (c : Cmd) (n : Int) : Prop := ∃ y nm, gets x.tps c.topic = some y ∧ kget y.kvs c.name = some (c.seq, n, nm)
theorem got_do {x : Mc} {c d : Cmd} {n : Int} (h : OM x) (hg : Got x c n) (hk : ¬ (d.kind = 8 ∨ d.kind = 9 ∨ (d.kind = 2 ∧ d.topic = c.topic ∧ d.name = c.name ∧ c.seq < d.seq))) : Got (doM x d).1 c n := by
  obtain ⟨y, nm, hy, hl⟩ := hg
  rcases doM_tps x d with e | ⟨e1, e2, e⟩ | ⟨z, e1, e2, e⟩
  · exact ⟨y, nm, by rw [e]; exact hy, hl⟩
  · refine ⟨y, nm, ?_, hl⟩
    rw [e, gets_ins, if_neg]
    · exact hy
    · intro e3; rw [← e3, hy] at e1; cases e1
  · by_cases e3 : c.topic = d.topic
    · rw [← e3, hy] at e1
      cases e1
      have k2 : d.kind = 2 := by omega
      refine ⟨(chgT y d).1, ?_⟩
      rw [e, gets_ins, if_pos e3, chgT_pub k2]
      rcases pub_cases (p := d.name) (seq := d.seq) (k := d.key) (v := d.val) (h _ y hy) with ⟨-, e4⟩ | ⟨-, h1, h2, e4⟩ | ⟨-, l, -, -, e4⟩
      · rw [e4]; exact ⟨nm, rfl, hl⟩
      · rw [e4]
        refine ⟨nm, rfl, ?_⟩
        show kget (kput y.kvs d.name (d.seq, y.en, d.name)) c.name = _
        rw [kget_kput]
        by_cases e5 : c.name = d.name
        · exfalso
          have h6 := h2 (c.seq, n, nm) (by rw [← e5]; exact hl)
          exact hk (.inr (.inr ⟨k2, e3.symm, e5.symm, h6⟩))
        · rw [if_neg e5]; exact hl
      · rw [e4]; exact ⟨nm, rfl, hl⟩
    · exact ⟨y, nm, by rw [e, gets_ins, if_neg e3]; exact hy, hl⟩
theorem doM_pub {x : Mc} {c : Cmd} (hr : rightC c = true) (hk : c.kind = 2) : doM x c = chgM (cntM x (bytC c)) c := by
  unfold doM
  rw [if_pos hr]
  unfold doC
  rw [if_neg (by omega), if_neg (by omega), if_pos (.inl hk)]
/-- A publish that is answered. -/
theorem got_one {x : Mc} {c : Cmd} (h : OM x) (hk : c.kind = 2) (h0 : (doM x c).2.code = 0) : rightC c = true ∧ (doM x c).2.recs = [] ∧ Got (doM x c).1 c (doM x c).2.n := by
  by_cases hr : rightC c = true
  · refine ⟨hr, ?_⟩
    rw [doM_pub hr hk] at h0 ⊢
    unfold chgM at h0 ⊢
    cases hg : gets (cntM x (bytC c)).tps c.topic with
    | none => rw [hg] at h0; exact absurd (show (5 : Int) = 0 from h0) (by decide)
    | some y =>
      rw [hg] at h0
      dsimp only at h0 ⊢
      refine ⟨rfl, ?_⟩
      have e1 : chgT y c = ((pub y c.name c.seq c.key c.val).1, (pub y c.name c.seq c.key c.val).2.2, (pub y c.name c.seq c.key c.val).2.1) := by unfold chgT; rw [if_pos hk]
      rw [e1] at h0 ⊢
      dsimp only at h0 ⊢
      rw [if_pos h0]
      rcases pub_cases (p := c.name) (seq := c.seq) (k := c.key) (v := c.val) (h _ y hg) with ⟨e4, -⟩ | ⟨-, h1, -, e4⟩ | ⟨-, l, hl, hs, e4⟩
      · exact absurd h0 e4
      · rw [e4]
        refine ⟨_, c.name, (gets_ins).trans (if_pos rfl), ?_⟩
        show kget (kput y.kvs c.name (c.seq, y.en, c.name)) c.name = _
        rw [kget_kput, if_pos rfl]
      · rw [e4]
        exact ⟨_, l.2.2, (gets_ins).trans (if_pos rfl), by rw [hl, ← hs]⟩
  · exfalso
    unfold doM at h0
    rw [if_neg hr] at h0
    exact absurd (show (1 : Int) = 0 from h0) (by decide)
/-- It is answered again the same. -/
theorem got_two {x : Mc} {c : Cmd} {n m : Int} (ho : McOk m x) (hm : m < 2 ^ 40) (hk : c.kind = 2) (hr : rightC c = true) (hg : Got x c n) : ∃ y nm, gets (doM x c).1.tps c.topic = some y ∧ gets x.tps c.topic = some y ∧ kget y.kvs c.name = some (c.seq, n, nm) ∧ (doM x c).2 = ⟨0, n, []⟩ := by
  obtain ⟨y, nm, hy, hl⟩ := hg
  have hT := (ho.tp _ y hy).2
  obtain ⟨r1, r2, r3, r4, r5, r6, r7, r8, r9⟩ := rightC_le hr
  have hw : word c.name = true := by
    unfold rightC namesC at hr
    have hn : nName c.kind = true := by rw [hk]; rfl
    rw [hn] at hr
    simp only [Bool.and_eq_true, if_true] at hr
    exact hr.1.1.2.2
  have hR : right (newR y c.name c.seq c.key c.val) = true := right_spec.2 ⟨hT.en.1, r4.1, by have := hT.en.2; show y.en ≤ _; omega, r4.2, r7, r8, r9⟩
  have e : pub y c.name c.seq c.key c.val = (y, n, 0) := by
    unfold pub
    rw [hw, hR, hl]
    simp only [Bool.and_self, if_true]
    rw [if_neg (by omega)]
  have e1 : chgT y c = (y, 0, n) := by unfold chgT; rw [if_pos hk, e]
  have e2 : doM x c = (⟨ins x.tps c.topic y, x.sbs, x.want, x.cnt + 1, C3.onP x.dig (bytC c)⟩, ⟨0, n, []⟩) := by
    rw [doM_pub hr hk]
    unfold chgM
    have hy' : gets (cntM x (bytC c)).tps c.topic = some y := hy
    rw [hy']
    dsimp only
    rw [e1]; rfl
  exact ⟨y, nm, by rw [e2]; exact (gets_ins).trans (if_pos rfl), hy, hl, by rw [e2]⟩
/-- The record is there once, at that offset. -/
theorem got_at {y : Tp} {p : ByteArray} {seq n : Int} {nm : ByteArray} (h : OnceT y) (hl : kget y.kvs p = some (seq, n, nm)) : ∃ i0, i0 < y.recs.length ∧ n = (i0 : Nat) ∧ ∀ k, ∀ hk : k < y.recs.length, (y.recs[k].prod = p ∧ y.recs[k].seq = seq) ↔ k = i0 := by
  obtain ⟨i, hi, h1, h2, h3, h4⟩ := h.some p _ hl
  refine ⟨i, hi, h1, fun k hk => ⟨fun ⟨h5, h6⟩ => ?_, fun e => by subst e; exact ⟨h2, h3⟩⟩⟩
  rcases Nat.lt_trichotomy k i with g | g | g
  · have := h.rise k i hk hi g (h5.trans h2.symm)
    rw [h6, h3] at this
    exact absurd this (Int.lt_irrefl _)
  · exact g
  · have := h.rise i k hi hk g (h2.trans h5.symm)
    rw [h6, h3] at this
    exact absurd this (Int.lt_irrefl _)
theorem atN_zero {l : List Rec} {o : Int} (h : ∀ r ∈ l, o ≤ r.off) : atN l o = 0 := by
  unfold atN
  cases l with
  | nil => rfl
  | cons r l =>
    rw [List.takeWhile_cons_of_neg]; · rfl
    have := h r (by simp)
    simp; omega
theorem readL_all {l : List Rec} {o n : Int} (h : ∀ r ∈ l, o ≤ r.off) (hn : (l.length : Int) ≤ n) : readL l o n = l := by
  unfold readL
  rw [atN_zero h, List.drop_zero, List.take_of_length_le (by omega)]
/-- A deed. -/
structure MDe where
  c : Cmd
  s : ByteArray
  deriving Inhabited
def encMD (d : MDe) : AVal := .agg [int d.c.kind, str d.c.topic, str d.c.name, int d.c.seq, str d.c.key, str d.c.val, int d.c.n, int d.c.node, int d.c.ask, str d.s]
end C17
