import Derived.Test.YtkjdclhhmgjfbaaN04
/-! Chapter 4: the reference's disk in memory. -/
open Go Go.Proofs Go.Am
set_option linter.unusedVariables false
set_option linter.unusedSimpArgs false
set_option autoImplicit false
namespace C04
def rdC (s : DS) (vf : Value) (o1 o2 : Bool) : List AVal := [int s.room, .raw vf, .sl (s.dir.map encN) o1, .sl (s.lst.map encN) o2, .sl (s.since.map encS) true, int s.fuse, bool s.down]
/-- What may be of a disk. -/
structure POk (n : Nat) (s : DS) : Prop where
  fo : ∀ F ∈ s.files, okA F.lasts F.acts F.now ∧ F.acts.length ≤ n
  oc : okC s.files.length s.lst s.since s.dir
  nf : s.files.length ≤ n
  ns : s.since.length ≤ n
  room : 0 ≤ s.room ∧ s.room ≤ 1000000000
  fuse : -1 ≤ s.fuse ∧ s.fuse < 2 ^ 63
structure RdIs (M : Mem) (x : Nat) (s : DS) (vf : Value) (L : List Fs) (O : Nat → Prop) : Prop where
  hd : ∃ o1 o2, M x = some (.cells (rdC s vf o1 o2))
  hw : Ws encF 2 M vf L
  ln : L.length = s.files.length
  fl : ∀ (i : Nat) (F : Fl) (f : Fs), s.files[i]? = some F → L[i]? = some f → f.l.data.toList = F.lasts ∧ Ws encU 2 M f.v F.acts
  od : O x
  ob : ∀ b, bOf vf b → O b ∧ b ≠ x
  oa : ∀ (i : Nat) (f : Fs), L[i]? = some f → ∀ b, bOf f.v b → O b ∧ b ≠ x ∧ ¬ bOf vf b
  inj : ∀ (i j : Nat) (f g : Fs), L[i]? = some f → L[j]? = some g → i ≠ j → ∀ b, bOf f.v b → ¬ bOf g.v b
  ok : ∀ c, O c → M c ≠ none
def RdAt (M : Mem) (x : Nat) (s : DS) (O : Nat → Prop) : Prop := ∃ vf L, RdIs M x s vf L O
def RAft (M M' : Mem) (x : Nat) (s : DS) (O : Nat → Prop) : Prop := ∃ O', RdAt M' x s O' ∧ Chg M M' O O'
theorem fl_set1 : ∀ (l : List Fs) (R : List AVal) {j : Nat} (hj : j < l.length) (a : Option Addr) (n c : Nat), splice (Go.Am.fl encF l ++ R) (j * 2 + 1) [.raw (.slice a n c)] = Go.Am.fl encF (l.set j ⟨l[j].l, a, n, c⟩) ++ R
  | [], R, j, hj, a, n, c => absurd hj (Nat.not_lt_zero j)
  | f :: l, R, 0, hj, a, n, c => rfl
  | f :: l, R, j + 1, hj, a, n, c => by
    have hj' : j < l.length := by rw [List.length_cons] at hj; omega
    have ih := fl_set1 l R hj' a n c
    show splice (str f.l :: .raw (.slice f.base f.n f.c) :: (Go.Am.fl encF l ++ R)) ((j + 1) * 2 + 1) _ = str f.l :: .raw (.slice f.base f.n f.c) :: (Go.Am.fl encF (l.set j ⟨l[j].l, a, n, c⟩) ++ R)
    rw [← ih, show (j + 1) * 2 + 1 = (j * 2 + 1) + 1 + 1 by omega]
    rfl
theorem POk.tick {n : Nat} {s : DS} (h : POk n s) : POk n { s with fuse := tick s.fuse } := ⟨h.fo, h.oc, h.nf, h.ns, h.room, tick_bd h.fuse⟩
section
variable {M M' : Mem} {x n : Nat} {s s' : DS} {vf vf' : Value} {L : List Fs} {O O' : Nat → Prop} {i : Nat} {F : Fl} {f : Fs}
theorem RdIs.fr (h : RdIs M x s vf L O) (hk : ∀ c, O c → M' c = M c) : RdIs M' x s vf L O where
  hd := by rw [hk x h.od]; exact h.hd
  hw := h.hw.keep (fun b hb _ => hk b (h.ob b hb).1) (by decide)
  ln := h.ln
  fl := fun i F f e1 e2 => ⟨(h.fl i F f e1 e2).1, (h.fl i F f e1 e2).2.keep (fun b hb _ => hk b (h.oa i f e2 b hb).1) (by decide)⟩
  od := h.od
  ob := h.ob
  oa := h.oa
  inj := h.inj
  ok := fun c hc => by rw [hk c hc]; exact h.ok c hc
theorem RdIs.le (h : RdIs M x s vf L O) (hle : M.le M') : RdIs M' x s vf L O := h.fr fun c hc => leK hle (h.ok c hc)
theorem RdAt.fr (h : RdAt M x s O) (hk : ∀ c, O c → M' c = M c) : RdAt M' x s O := by
  obtain ⟨vf, L, h⟩ := h
  exact ⟨vf, L, h.fr hk⟩
theorem RdAt.ok (h : RdAt M x s O) : ∀ c, O c → M c ≠ none := by
  obtain ⟨vf, L, h⟩ := h
  exact h.ok
theorem RdIs.at (h : RdIs M x s vf L O) (hi : i < s.files.length) : ∃ hl : i < L.length, L[i].l.data.toList = (s.files.getD i fl0).lasts ∧ Ws encU 2 M (.slice L[i].base (s.files.getD i fl0).acts.length L[i].c) (s.files.getD i fl0).acts ∧ L[i].n = (s.files.getD i fl0).acts.length := by
  have h1 : i < L.length := by rw [h.ln]; exact hi
  have h2 := h.fl i _ _ (getD_at hi) (List.getElem?_eq_getElem h1)
  obtain ⟨base, c, e⟩ := h2.2.len
  have e' : L[i].n = (s.files.getD i fl0).acts.length := by
    have : Value.slice L[i].base L[i].n L[i].c = .slice base _ c := e
    exact (Value.slice.inj this).2.1
  exact ⟨h1, h2.1, by rw [← e']; exact h2.2, e'⟩
theorem POk.at (h : POk n s) (hi : i < s.files.length) : okA (s.files.getD i fl0).lasts (s.files.getD i fl0).acts (s.files.getD i fl0).now ∧ (s.files.getD i fl0).acts.length ≤ n := by
  have h1 := getD_at hi
  exact h.fo _ (List.mem_of_getElem? h1)
theorem POk.now_le (h : POk n s) (hi : i < s.files.length) : (s.now i).length ≤ BIG := (okA_len (h.at hi).1).2
/-- Its own cells alone are changed. -/
theorem RdIs.cells (h : RdIs M x s vf L O) {o1 o2 : Bool} (hf : s'.files = s.files) (h1 : M' x = some (.cells (rdC s' vf o1 o2))) (hk : ∀ c, c ≠ x → M c ≠ none → M' c = M c) : RdIs M' x s' vf L O :=
  have hO : ∀ c, O c → c ≠ x → M' c = M c := fun c hc hx => hk c hx (h.ok c hc)
  ⟨⟨o1, o2, h1⟩, h.hw.keep (fun b hb _ => hO b (h.ob b hb).1 (h.ob b hb).2) (by decide), by rw [hf]; exact h.ln, fun i F f e1 e2 => by
    rw [hf] at e1
    exact ⟨(h.fl i F f e1 e2).1, (h.fl i F f e1 e2).2.keep (fun b hb _ => hO b (h.oa i f e2 b hb).1 (h.oa i f e2 b hb).2.1) (by decide)⟩, h.od, h.ob, h.oa, h.inj, fun c hc => by
      by_cases e : c = x
      · rw [e, h1]; exact fun h => by cases h
      · rw [hO c hc e]; exact h.ok c hc⟩
theorem RAft.of (h : RdIs M' x s' vf L O) (hk : ∀ c, c ≠ x → M c ≠ none → M' c = M c) : RAft M M' x s' O :=
  ⟨O, ⟨vf, L, h⟩, ⟨fun c h2 h3 => hk c (fun e => h3 (by rw [e]; exact h.od)) h2, fun c hc => .inl hc, fun c hc => hc⟩⟩
theorem RAft.pre {M1 : Mem} (hO : O x) (hk : ∀ c, c ≠ x → M c ≠ none → M1 c = M c) (hx : M1 x ≠ none) (h : RAft M1 M' x s' O) : RAft M M' x s' O := by
  obtain ⟨O', h1, h2⟩ := h
  refine ⟨O', h1, ⟨fun c hc hno => ?_, fun c hc => ?_, h2.up⟩⟩
  · have hcx : c ≠ x := fun e => hno (by rw [e]; exact hO)
    have e := hk c hcx hc
    rw [h2.eq c (by rw [e]; exact hc) hno, e]
  · rcases h2.new c hc with h3 | h3
    · exact .inl h3
    · refine .inr ?_
      cases e : M c with
      | none => rfl
      | some o =>
        exfalso
        by_cases hcx : c = x
        · rw [hcx] at h3; exact hx h3
        · rw [hk c hcx (by rw [e]; exact fun h => by cases h), e] at h3; cases h3
/-- A tick of the fuse. -/
def rdT (s : DS) (vf : Value) (o1 o2 : Bool) : List AVal := [int s.room, .raw vf, .sl (s.dir.map encN) o1, .sl (s.lst.map encN) o2, .sl (s.since.map encS) true, int (if s.fuse = 0 then 0 else tick s.fuse), bool (if s.fuse = 0 then true else s.down)]
theorem rdT_no {o1 o2 : Bool} (hf : s.fuse = 0) : rdT s vf o1 o2 = rdC { s with down := true } vf o1 o2 := by
  unfold rdT rdC
  rw [if_pos hf, if_pos hf, ← hf]
theorem rdT_yes {o1 o2 : Bool} (hf : ¬ s.fuse = 0) : rdT s vf o1 o2 = rdC { s with fuse := tick s.fuse } vf o1 o2 := by
  unfold rdT rdC
  rw [if_neg hf, if_neg hf]
theorem RdIs.actN (h : RdIs M x s vf L O) {o1 o2 : Bool} (hf : s.fuse = 0) (h1 : M' x = some (.cells (rdT s vf o1 o2))) (hk : ∀ c, c ≠ x → M c ≠ none → M' c = M c) : RAft M M' x { s with down := true } O :=
  RAft.of (h.cells rfl (by rw [h1, rdT_no hf]) hk) hk
theorem RdIs.actY (h : RdIs M x s vf L O) {o1 o2 : Bool} (hf : ¬ s.fuse = 0) (h1 : M' x = some (.cells (rdT s vf o1 o2))) (hk : ∀ c, c ≠ x → M c ≠ none → M' c = M c) : RdIs M' x { s with fuse := tick s.fuse } vf L O :=
  h.cells rfl (by rw [h1, rdT_yes hf]) hk
/-- A file is changed. -/
theorem RdIs.file (h : RdIs M x s vf L O) (hi : i < L.length) {f' : Fs} {F' : Fl} {b k : Nat} {R : List AVal} (hv : vf = .slice (some ⟨b, 0, none⟩) L.length (L.length + k)) (hR : R.length = k * 2)
    (h1 : M' b = some (.cells (Go.Am.fl encF (L.set i f') ++ R))) (hl : f'.l.data.toList = F'.lasts) (hw : Ws encU 2 M' f'.v F'.acts) (hb : ∀ c, bOf f'.v c → M c = none ∨ bOf L[i].v c)
    (hk : ∀ c, c ≠ b → ¬ bOf f'.v c → M c ≠ none → M' c = M c) : RAft M M' x { s with files := s.files.set i F' } O := by
  have hbb : bOf vf b := ⟨_, _, hv, by omega⟩
  have hLi : L[i]? = some L[i] := List.getElem?_eq_getElem hi
  obtain ⟨o1, o2, hd⟩ := h.hd
  have hnx : ∀ c, bOf f'.v c → c ≠ x := fun c hc e => (hb c hc).elim (fun h3 => h.ok x h.od (by rw [← e]; exact h3)) fun h3 => (h.oa i _ hLi c h3).2.1 e
  have hnb : ∀ c, bOf f'.v c → c ≠ b := fun c hc e => (hb c hc).elim (fun h3 => h.hw.ok hbb (by rw [← e]; exact h3)) fun h3 => (h.oa i _ hLi c h3).2.2 (by rw [e]; exact hbb)
  have hno : ∀ (j : Nat) (g : Fs), L[j]? = some g → j ≠ i → ∀ c, bOf g.v c → ¬ bOf f'.v c := fun j g hj hne c hc hc' => (hb c hc').elim (fun h3 => h.ok c (h.oa j g hj c hc).1 h3) fun h3 => h.inj j i g _ hj hLi hne c hc h3
  have hX : M' x = M x := hk x (fun e => (h.ob b hbb).2 e.symm) (fun hc => hnx x hc rfl) (h.ok x h.od)
  have hls : ∀ j, (L.set i f')[j]? = if i = j then some f' else L[j]? := fun j => by
    rw [List.getElem?_set]
    by_cases e : i = j
    · rw [if_pos e, if_pos e, if_pos hi]
    · rw [if_neg e, if_neg e]
  have hbv : ∀ c, bOf vf c → c = b := fun c ⟨q, w, e, _⟩ => by rw [hv] at e; cases e; rfl
  refine ⟨fun c => O c ∨ bOf f'.v c, ⟨vf, L.set i f', ⟨⟨o1, o2, by rw [hX, hd]; rfl⟩, .inr ⟨b, k, R, by rw [hv, List.length_set], hR, h1⟩, by rw [List.length_set, h.ln]; simp, fun j G g e1 e2 => ?_, .inl h.od, fun c hc => ⟨.inl (h.ob c hc).1, (h.ob c hc).2⟩, fun j g e c hc => ?_, fun j q g g' e e' hne c hc hc' => ?_, fun c hc => ?_⟩⟩, ⟨fun c hc hno' => ?_, fun c hc => ?_, fun c hc => .inl hc⟩⟩
  · rw [hls] at e2
    have e1 : (s.files.set i F')[j]? = some G := e1
    rw [List.getElem?_set] at e1
    by_cases e : i = j
    · rw [if_pos e] at e2
      rw [if_pos e, if_pos (by rw [← h.ln]; exact hi)] at e1
      cases e1; cases e2
      exact ⟨hl, hw⟩
    · rw [if_neg e] at e1 e2
      exact ⟨(h.fl j G g e1 e2).1, (h.fl j G g e1 e2).2.keep (fun c hc hm => hk c (fun e5 => (h.oa j g e2 c hc).2.2 (by rw [e5]; exact hbb)) (fun h6 => hno j g e2 (Ne.symm e) c hc h6) hm) (by decide)⟩
  · rw [hls] at e
    by_cases e1 : i = j
    · rw [if_pos e1] at e
      cases e
      exact ⟨.inr hc, hnx c hc, fun h3 => hnb c hc (hbv c h3)⟩
    · rw [if_neg e1] at e
      exact ⟨.inl (h.oa j g e c hc).1, (h.oa j g e c hc).2⟩
  · rw [hls] at e e'
    by_cases e1 : i = j
    · rw [if_pos e1] at e
      cases e
      rw [if_neg (by omega)] at e'
      exact hno q g' e' (by omega) c hc' hc
    · rw [if_neg e1] at e
      by_cases e2 : i = q
      · rw [if_pos e2] at e'
        cases e'
        exact hno j g e (by omega) c hc hc'
      · rw [if_neg e2] at e'
        exact h.inj j q g g' e e' hne c hc hc'
  · by_cases hc1 : bOf f'.v c
    · exact hw.ok hc1
    · have hc2 := hc.resolve_right hc1
      by_cases e : c = b
      · rw [e, h1]; exact fun h => by cases h
      · rw [hk c e hc1 (h.ok c hc2)]; exact h.ok c hc2
  · exact hk c (fun e => hno' (by rw [e]; exact (h.ob b hbb).1)) (fun h3 => (hb c h3).elim hc fun h4 => hno' (h.oa i _ hLi c h4).1) hc
  · exact hc.elim .inl fun hc => (hb c hc).elim .inr fun h4 => .inl (h.oa i _ hLi c h4).1
/-- A file more. -/
theorem RdIs.new (h : RdIs M x s vf L O) {o1 o2 : Bool} {b k : Nat} {R : List AVal} (hR : R.length = k * 2) (hb : M b = none ∨ bOf vf b) (hf : s'.files = s.files ++ [fl0])
    (h1 : M' b = some (.cells (Go.Am.fl encF (L ++ [⟨⟨#[]⟩, none, 0, 0⟩]) ++ R))) (h2 : M' x = some (.cells (rdC s' (.slice (some ⟨b, 0, none⟩) (L.length + 1) (L.length + 1 + k)) o1 o2)))
    (hk : ∀ c, c ≠ b → c ≠ x → M c ≠ none → M' c = M c) : RAft M M' x s' O := by
  have hxb : b ≠ x := hb.elim (fun hb e => h.ok x h.od (by rw [← e]; exact hb)) fun hb => (h.ob b hb).2
  have hbv : ∀ c, bOf (.slice (some ⟨b, 0, none⟩) (L.length + 1) (L.length + 1 + k)) c → c = b := fun c ⟨q, w, e, _⟩ => by cases e; rfl
  have hnb : ∀ (j : Nat) (g : Fs), L[j]? = some g → ∀ c, bOf g.v c → c ≠ b := fun j g hj c hc e => hb.elim (fun hb => h.ok c (h.oa j g hj c hc).1 (by rw [e]; exact hb)) fun hb => (h.oa j g hj c hc).2.2 (by rw [e]; exact hb)
  have hls : ∀ (j : Nat) (g : Fs), (L ++ [(⟨⟨#[]⟩, none, 0, 0⟩ : Fs)])[j]? = some g → L[j]? = some g ∨ (j = L.length ∧ g = ⟨⟨#[]⟩, none, 0, 0⟩) := fun j g e => by
    rw [List.getElem?_append] at e
    split at e
    · exact .inl e
    · rename_i hlt
      have := (List.getElem?_eq_some_iff.1 e).1
      simp only [List.length_cons, List.length_nil] at this
      have hj : j = L.length := by omega
      rw [hj, Nat.sub_self] at e
      exact .inr ⟨hj, (Option.some.inj e).symm⟩
  have hnil : ∀ c, ¬ bOf (Fs.v ⟨⟨#[]⟩, none, 0, 0⟩) c := fun c ⟨q, w, e, _⟩ => by cases e
  refine ⟨fun c => O c ∨ c = b, ⟨_, L ++ [⟨⟨#[]⟩, none, 0, 0⟩], ⟨⟨o1, o2, h2⟩, .inr ⟨b, k, R, by rw [List.length_append]; rfl, hR, h1⟩, by rw [hf, List.length_append, List.length_append, h.ln]; rfl, fun j G g e1 e2 => ?_, .inl h.od, fun c hc => ?_, fun j g e c hc => ?_, fun j q g g' e e' hne c hc hc' => ?_, fun c hc => ?_⟩⟩, ⟨fun c hc hno' => ?_, fun c hc => ?_, fun c hc => .inl hc⟩⟩
  · rw [hf] at e1
    rcases hls j g e2 with e3 | ⟨rfl, rfl⟩
    · rw [List.getElem?_append_left (by rw [← h.ln]; exact (List.getElem?_eq_some_iff.1 e3).1)] at e1
      exact ⟨(h.fl j G g e1 e3).1, (h.fl j G g e1 e3).2.keep (fun c hc hm => hk c (hnb j g e3 c hc) (h.oa j g e3 c hc).2.1 hm) (by decide)⟩
    · rw [h.ln, List.getElem?_append_right (Nat.le_refl _), Nat.sub_self] at e1
      cases e1
      exact ⟨rfl, .inl ⟨none, rfl, .inl rfl, rfl⟩⟩
  · rw [hbv c hc]; exact ⟨.inr rfl, hxb⟩
  · rcases hls j g e with e3 | ⟨rfl, rfl⟩
    · exact ⟨.inl (h.oa j g e3 c hc).1, (h.oa j g e3 c hc).2.1, fun h5 => hnb j g e3 c hc (hbv c h5)⟩
    · exact absurd hc (hnil c)
  · rcases hls j g e with e3 | ⟨rfl, rfl⟩
    · rcases hls q g' e' with e4 | ⟨rfl, rfl⟩
      · exact h.inj j q g g' e3 e4 hne c hc hc'
      · exact hnil c hc'
    · exact hnil c hc
  · by_cases hx : c = x
    · rw [hx, h2]; exact fun h => by cases h
    · by_cases hcb : c = b
      · rw [hcb, h1]; exact fun h => by cases h
      · have hc' := h.ok c (hc.resolve_right hcb)
        rw [hk c hcb hx hc']; exact hc'
  · exact hk c (fun e => hb.elim (fun hb => hc (by rw [e]; exact hb)) fun hb => hno' (by rw [e]; exact (h.ob b hb).1)) (fun e => hno' (by rw [e]; exact h.od)) hc
  · rcases hc with hc | rfl
    · exact .inl hc
    · exact hb.elim .inr fun hb => .inl (h.ob _ hb).1
end
end C04
