import Derived.Test.YtkjdclhhmgjfbaaAmE
import Derived.Test.YtkjdclhhmgjfbaaB04
import Derived.Test.YtkjdclhhmgjfbaaP04
/-! Chapter 4: a disk: what it is, and how it lies in memory. -/
open Go Go.Proofs Go.Am
set_option linter.unusedVariables false
set_option linter.unusedSimpArgs false
set_option autoImplicit false
namespace C04
/-- What is done with the names. -/
inductive Dc where
  | mk (s : ByteArray) (i : Nat)
  | mv (a b : ByteArray)
  | rm (a : ByteArray)
def Dc.run : Dc → Dir → Dir
  | .mk s i, l => insS l s i
  | .mv a b, l => insS (delS l a) b ((gets l a).getD 0)
  | .rm a, l => delS l a
def Dc.ok : Dc → Dir → Prop
  | .mv a _, l => (gets l a).isSome
  | _, _ => True
def Dc.fn : Dc → Nat
  | .mk .. => 36
  | .mv .. => 48
  | .rm .. => 66
structure Ch where
  c : Dc
  p : Nat
  q : Nat
def Ch.caps (x : Ch) : List Nat := match x.c with
  | .mk .. => [x.p, x.q]
  | .mv .. => [x.p, x.q]
  | .rm .. => [x.p]
def Ch.val (x : Ch) : Value := fnV x.c.fn x.caps
def Ch.bx (x : Ch) (M : Mem) (W : Nat → Prop) (adr : Nat → Nat) : Prop := match x.c with
  | .mk s i => (M x.p = some (.cells [ptr (adr i)]) ∧ ¬ W x.p) ∧ M x.q = some (.cells [str s]) ∧ ¬ W x.q
  | .mv a b => (M x.p = some (.cells [str a]) ∧ ¬ W x.p) ∧ M x.q = some (.cells [str b]) ∧ ¬ W x.q
  | .rm a => M x.p = some (.cells [str a]) ∧ ¬ W x.p
theorem bx1 {M M' : Mem} {W W' : Nat → Prop} {p : Nat} {o : AObj} (hM : ∀ c, M c ≠ none → ¬ W c → M' c = M c) (hW : ∀ c, W' c → W c ∨ M c = none) (h : M p = some o ∧ ¬ W p) : M' p = some o ∧ ¬ W' p := by
  have hb : M p ≠ none := by rw [h.1]; exact fun h => by cases h
  exact ⟨by rw [hM p hb h.2]; exact h.1, fun h3 => (hW p h3).elim h.2 hb⟩
def Dc.lt (n : Nat) : Dc → Prop
  | .mk _ i => i < n
  | _ => True
theorem Ch.bx_keep {x : Ch} {M M' : Mem} {W W' : Nat → Prop} {adr adr' : Nat → Nat} {n : Nat} (h : x.bx M W adr) (hM : ∀ c, M c ≠ none → ¬ W c → M' c = M c) (hW : ∀ c, W' c → W c ∨ M c = none) (ha : ∀ i, i < n → adr' i = adr i) (hn : x.c.lt n) : x.bx M' W' adr' := by
  unfold Ch.bx at h ⊢
  split <;> rename_i e <;> simp only [e] at h
  · rw [ha _ (by rw [e] at hn; exact hn)]; exact ⟨bx1 hM hW h.1, bx1 hM hW h.2⟩
  · exact ⟨bx1 hM hW h.1, bx1 hM hW h.2⟩
  · exact bx1 hM hW h
/-- The files of a disk, by their names. -/
structure Gd (n : Nat) (l : Dir) : Prop where
  len : l.length ≤ 200
  nm : ∀ p ∈ l, 1 ≤ p.1.size ∧ p.1.size ≤ 40 ∧ p.2 < n
  srt : Srtd l
  ni : (l.map (·.2)).Nodup
theorem Gd.mono {n m : Nat} {l : Dir} (h : Gd n l) (hm : n ≤ m) : Gd m l := ⟨h.len, fun p hp => ⟨(h.nm p hp).1, (h.nm p hp).2.1, Nat.lt_of_lt_of_le (h.nm p hp).2.2 hm⟩, h.srt, h.ni⟩
/-- From what lasts what was done leads to what is. -/
def okC (n : Nat) : Dir → List Dc → Dir → Prop
  | l, [], now => l = now ∧ Gd n l
  | l, c :: r, now => Gd n l ∧ c.ok l ∧ c.lt n ∧ okC n (c.run l) r now
theorem Dc.lt_mono {n m : Nat} (hm : n ≤ m) : ∀ {c : Dc}, c.lt n → c.lt m
  | .mk _ i, h => Nat.lt_of_lt_of_le h hm
  | .mv _ _, _ => trivial
  | .rm _, _ => trivial
theorem okC_mono {n m : Nat} (hm : n ≤ m) : ∀ {l : Dir} {cs : List Dc} {now : Dir}, okC n l cs now → okC m l cs now
  | l, [], now, h => ⟨h.1, h.2.mono hm⟩
  | l, c :: r, now, h => ⟨h.1.mono hm, h.2.1, Dc.lt_mono hm h.2.2.1, okC_mono hm h.2.2.2⟩
theorem okC_gd {n : Nat} : ∀ {l : Dir} {cs : List Dc} {now : Dir}, okC n l cs now → Gd n l ∧ Gd n now
  | l, [], now, h => ⟨h.2, by rw [← h.1]; exact h.2⟩
  | l, c :: r, now, h => ⟨h.1, (okC_gd h.2.2.2).2⟩
theorem okC_add {n : Nat} : ∀ {l : Dir} {cs : List Dc} {now : Dir} {c : Dc}, okC n l cs now → c.ok now → c.lt n → Gd n (c.run now) → okC n l (cs ++ [c]) (c.run now)
  | l, [], now, c, h, h1, h3, h2 => by obtain ⟨rfl, h4⟩ := h; exact ⟨h4, h1, h3, rfl, h2⟩
  | l, b :: r, now, c, h, h1, h3, h2 => ⟨h.1, h.2.1, h.2.2.1, okC_add h.2.2.2 h1 h3 h2⟩
theorem okC_lt {n : Nat} : ∀ {l : Dir} {cs : List Dc} {now : Dir}, okC n l cs now → ∀ c ∈ cs, c.lt n
  | l, [], now, h, c, hc => by cases hc
  | l, b :: r, now, h, c, hc => by
    rcases List.mem_cons.1 hc with rfl | hc
    · exact h.2.2.1
    · exact okC_lt h.2.2.2 c hc
structure DS where
  room : Int
  files : List Fl
  dir : Dir
  lst : Dir
  since : List Dc
  fuse : Int
  down : Bool
def mapV (r : Nat) : AVal := .raw (.map (some r))
def dC (rf rl : Nat) (s : DS) (chs : List Ch) : List AVal := [int s.room, mapV rf, mapV rl, .sl (chs.map fun c => .raw c.val) true, int s.fuse, bool s.down]
def DirAt (M : Mem) (r : Nat) (adr : Nat → Nat) (dir : Dir) : Prop := ∃ dm, MapAt ptrV M r dm ∧ dm.Perm (dir.map fun p => (p.1, adr p.2))
theorem DirAt.keep {M M' : Mem} {r : Nat} {adr : Nat → Nat} {dir : Dir} (h : DirAt M r adr dir) (hr : M' r = M r) : DirAt M' r adr dir := by
  obtain ⟨dm, h1, h2⟩ := h
  exact ⟨dm, h1.keep hr, h2⟩
theorem DirAt.adr {M : Mem} {r : Nat} {adr adr' : Nat → Nat} {dir : Dir} (h : DirAt M r adr dir) (ha : ∀ p ∈ dir, adr' p.2 = adr p.2) : DirAt M r adr' dir := by
  obtain ⟨dm, h1, h2⟩ := h
  refine ⟨dm, h1, ?_⟩
  rw [List.map_congr_left (g := fun p : ByteArray × Nat => (p.1, adr p.2)) fun p hp => by rw [ha p hp]]; exact h2
/-- A disk in memory. -/
structure DiskIs (M : Mem) (d n rf rl : Nat) (adr : Nat → Nat) (s : DS) (O W : Nat → Prop) (chs : List Ch) : Prop where
  hd : M d = some (.cells (dC rf rl s chs))
  mf : DirAt M rf adr s.dir
  ml : DirAt M rl adr s.lst
  od : O d
  orf : O rf
  orl : O rl
  oi : ∀ i, i < s.files.length → O (adr i)
  inj : ∀ i j, i < s.files.length → j < s.files.length → adr i = adr j → i = j
  ow : ∀ c, O c → W c
  ok : ∀ c, W c → M c ≠ none
  ne : rf ≠ rl
  fa : ∀ i F, s.files[i]? = some F → FileAt M W (adr i) F
  ea : chs.map (·.c) = s.since
  bx : ∀ c ∈ chs, c.bx M W adr
  oc : okC s.files.length s.lst s.since s.dir
  room : 0 ≤ s.room ∧ s.room ≤ 1000000000
  fuse : -1 ≤ s.fuse ∧ s.fuse < 2 ^ 63
  na : ∀ F ∈ s.files, F.acts.length ≤ n
  ns : s.since.length ≤ n
def DiskAt (M : Mem) (d n : Nat) (s : DS) (O W : Nat → Prop) : Prop := ∃ rf rl adr chs, DiskIs M d n rf rl adr s O W chs
structure Chg (M M' : Mem) (O O' : Nat → Prop) : Prop where
  eq : ∀ c, M c ≠ none → ¬ O c → M' c = M c
  new : ∀ c, O' c → O c ∨ M c = none
  up : ∀ c, O c → O' c
def un (W O : Nat → Prop) : Nat → Prop := fun c => W c ∨ O c
section
variable {M M' M2 : Mem} {O O' O2 W W' : Nat → Prop} {d n rf rl : Nat} {s s' : DS} {adr adr' : Nat → Nat} {chs : List Ch}
theorem Chg.refl : Chg M M O O := ⟨fun _ _ _ => rfl, fun _ h => .inl h, fun _ h => h⟩
theorem Chg.of_le (h : M.le M') : Chg M M' O O := ⟨fun c h1 _ => leK h h1, fun _ h => .inl h, fun _ h => h⟩
theorem Chg.trans (h : Chg M M' O O') (h2 : Chg M' M2 O' O2) (hk : ∀ c, O c → M c ≠ none) : Chg M M2 O O2 := ⟨fun c h1 h3 => by
    have e := h.eq c h1 h3
    rw [h2.eq c (by rw [e]; exact h1) fun h4 => (h.new c h4).elim h3 h1]; exact e, fun c hc => by
    rcases h2.new c hc with h1 | h1
    · exact h.new c h1
    · by_cases h3 : M c = none
      · exact .inr h3
      · by_cases h4 : O c
        · exact .inl h4
        · rw [h.eq c h3 h4] at h1; exact absurd h1 h3, fun c hc => h2.up c (h.up c hc)⟩
theorem map_cells {r : Nat} {dir : List (ByteArray × Nat)} {l : List AVal} (h : MapAt ptrV M r dir) (hc : M r = some (.cells l)) : False := by
  obtain ⟨clk, lf, h⟩ := h
  rw [h.hM] at hc; cases hc
theorem dir_cells {r : Nat} {dir : Dir} {l : List AVal} (h : DirAt M r adr dir) (hc : M r = some (.cells l)) : False := by
  obtain ⟨dm, h, -⟩ := h
  exact map_cells h hc
theorem file_cells {f : Nat} {F : Fl} (h : FileAt M O f F) : ∃ a b c, M f = some (.cells [a, b, c]) := by
  obtain ⟨vl, vn, acs, h⟩ := h
  exact ⟨_, _, _, h.hf⟩
theorem DiskIs.dn (h : DiskIs M d n rf rl adr s O W chs) : d ≠ rf ∧ d ≠ rl ∧ ∀ i, i < s.files.length → adr i ≠ d ∧ adr i ≠ rf ∧ adr i ≠ rl :=
  ⟨fun e => dir_cells h.mf (e ▸ h.hd), fun e => dir_cells h.ml (e ▸ h.hd), fun i hi => by
    obtain ⟨a, b, c, hf⟩ := file_cells (h.fa i _ (List.getElem?_eq_getElem hi))
    refine ⟨fun e => ?_, fun e => dir_cells h.mf (e ▸ hf), fun e => dir_cells h.ml (e ▸ hf)⟩
    rw [e, h.hd] at hf; cases hf⟩
/-- What others own may change, and what is new. -/
theorem DiskIs.fr (h : DiskIs M d n rf rl adr s O W chs) (hk : ∀ c, M c ≠ none → (O c ∨ ¬ W c) → M' c = M c) (hW : ∀ c, W' c → W c ∨ M c = none) (hw : ∀ c, W c → W' c) (hok : ∀ c, W' c → M' c ≠ none) : DiskIs M' d n rf rl adr s O W' chs :=
  have hO : ∀ c, O c → M' c = M c := fun c hc => hk c (h.ok c (h.ow c hc)) (.inl hc)
  have hN : ∀ c, M c ≠ none → ¬ W c → M' c = M c := fun c h1 h2 => hk c h1 (.inr h2)
  { h with
    hd := (hO d h.od).trans h.hd
    mf := h.mf.keep (hO rf h.orf)
    ml := h.ml.keep (hO rl h.orl)
    ow := fun c hc => hw c (h.ow c hc)
    ok := hok
    fa := fun i F hi => (h.fa i F hi).keep hN hW (hO _ (h.oi i (List.getElem?_eq_some_iff.1 hi).1))
    bx := fun c hc => Ch.bx_keep (h.bx c hc) (n := s.files.length) hN hW (fun _ _ => rfl) (okC_lt h.oc _ (by rw [← h.ea]; exact List.mem_map.2 ⟨c, hc, rfl⟩)) }
theorem DiskIs.le (h : DiskIs M d n rf rl adr s O W chs) (hle : M.le M') : DiskIs M' d n rf rl adr s O W chs :=
  h.fr (fun c h1 _ => leK hle h1) (fun c hc => .inl hc) (fun c hc => hc) fun c hc => by rw [leK hle (h.ok c hc)]; exact h.ok c hc
theorem DiskAt.le (h : DiskAt M d n s O W) (hle : M.le M') : DiskAt M' d n s O W := by
  obtain ⟨rf, rl, adr, chs, h⟩ := h
  exact ⟨rf, rl, adr, chs, h.le hle⟩
theorem DiskAt.fr (h : DiskAt M d n s O W) (hk : ∀ c, M c ≠ none → (O c ∨ ¬ W c) → M' c = M c) (hW : ∀ c, W' c → W c ∨ M c = none) (hw : ∀ c, W c → W' c) (hok : ∀ c, W' c → M' c ≠ none) : DiskAt M' d n s O W' := by
  obtain ⟨rf, rl, adr, chs, h⟩ := h
  exact ⟨rf, rl, adr, chs, h.fr hk hW hw hok⟩
/-- The counts may be thought greater. -/
theorem DiskIs.up (h : DiskIs M d n rf rl adr s O W chs) {m : Nat} (hm : n ≤ m) : DiskIs M d m rf rl adr s O W chs :=
  { h with na := fun F hF => Nat.le_trans (h.na F hF) hm, ns := Nat.le_trans h.ns hm }
/-- The fuse, and whether it is down. -/
theorem DiskIs.setd (h : DiskIs M d n rf rl adr s O W chs) (fu : Int) (dn : Bool) (hf : -1 ≤ fu ∧ fu < 2 ^ 63) : DiskIs (M.upd d (.cells (dC rf rl { s with fuse := fu, down := dn } chs))) d n rf rl adr { s with fuse := fu, down := dn } O W chs :=
  have hk : ∀ c, c ≠ d → (M.upd d (.cells (dC rf rl { s with fuse := fu, down := dn } chs))) c = M c := fun c hc => upd_other hc
  have hW : ∀ c, M c ≠ none → ¬ W c → (M.upd d (.cells (dC rf rl { s with fuse := fu, down := dn } chs))) c = M c := fun c _ h2 => hk c fun e => h2 (by rw [e]; exact h.ow d h.od)
  { h with
    hd := Mem.upd_self _ _ _
    mf := h.mf.keep (hk _ h.dn.1.symm)
    ml := h.ml.keep (hk _ h.dn.2.1.symm)
    ok := fun c hc => by
      by_cases e : c = d
      · rw [e, Mem.upd_self]; exact fun h => by cases h
      · rw [hk c e]; exact h.ok c hc
    fa := fun i F hi => (h.fa i F hi).keep hW (fun c hc => .inl hc) (hk _ (h.dn.2.2 i (List.getElem?_eq_some_iff.1 hi).1).1)
    bx := fun c hc => Ch.bx_keep (h.bx c hc) (n := s.files.length) hW (fun c hc => .inl hc) (fun _ _ => rfl) (okC_lt h.oc _ (by rw [← h.ea]; exact List.mem_map.2 ⟨c, hc, rfl⟩))
    fuse := hf }
/-- One file. -/
theorem DiskIs.file (h : DiskIs M d n rf rl adr s O W chs) {i : Nat} {F' : Fl} (hi : i < s.files.length) (hk : ∀ c, M c ≠ none → c ≠ adr i → M' c = M c) (hF : FileAt M' W (adr i) F') {m : Nat} (hm : n ≤ m) (hn : F'.acts.length ≤ m) : DiskIs M' d m rf rl adr { s with files := s.files.set i F' } O W chs :=
  have hW : ∀ c, M c ≠ none → ¬ W c → M' c = M c := fun c h1 h2 => hk c h1 fun e => h2 (by rw [e]; exact h.ow _ (h.oi i hi))
  have hkW : ∀ c, W c → c ≠ adr i → M' c = M c := fun c h1 h2 => hk c (h.ok c h1) h2
  have hdn := h.dn.2.2 i hi
  { h with
    hd := (hkW d (h.ow _ h.od) hdn.1.symm).trans h.hd
    mf := h.mf.keep (hkW rf (h.ow _ h.orf) hdn.2.1.symm)
    ml := h.ml.keep (hkW rl (h.ow _ h.orl) hdn.2.2.symm)
    oi := fun j hj => h.oi j (by simpa using hj)
    inj := fun j k hj hk => h.inj j k (by simpa using hj) (by simpa using hk)
    ok := fun c hc => by
      by_cases e : c = adr i
      · rw [e]; exact hF.some
      · rw [hkW c hc e]; exact h.ok c hc
    fa := fun j F hj => by
      simp only [List.getElem?_set] at hj
      by_cases e : i = j
      · subst e
        simp only [if_true, hi] at hj
        obtain rfl := Option.some.inj hj
        exact hF
      · rw [if_neg e] at hj
        have hj2 := (List.getElem?_eq_some_iff.1 hj).1
        exact (h.fa j F hj).keep hW (fun c hc => .inl hc) (hkW _ (h.ow _ (h.oi j hj2)) fun e2 => e (h.inj i j hi hj2 e2.symm))
    bx := fun c hc => Ch.bx_keep (h.bx c hc) (n := s.files.length) hW (fun c hc => .inl hc) (fun _ _ => rfl) (okC_lt h.oc _ (by rw [← h.ea]; exact List.mem_map.2 ⟨c, hc, rfl⟩))
    oc := by rw [List.length_set]; exact h.oc
    na := fun F hF => by
      rcases List.mem_or_eq_of_mem_set hF with h1 | rfl
      · exact Nat.le_trans (h.na F h1) hm
      · exact hn
    ns := Nat.le_trans h.ns hm }
/-- A file more. -/
theorem DiskIs.new (h : DiskIs M d n rf rl adr s O W chs) {B : Nat} {v1 v2 : Value} (hB : M B = none) (h1 : ∃ base, v1 = .slice base 0 0 ∧ okB base) (h2 : ∃ base, v2 = .slice base 0 0 ∧ okB base) (ha : ∀ i, i < s.files.length → adr' i = adr i) (haB : adr' s.files.length = B) :
    DiskIs (M.upd B (.cells [.raw v1, .raw v2, .sl [] true])) d n rf rl adr' { s with files := s.files ++ [⟨[], [], []⟩] } (un O (· = B)) (un W (· = B)) chs :=
  have hk : ∀ c, M c ≠ none → (M.upd B (.cells [.raw v1, .raw v2, .sl [] true])) c = M c := fun c h => upd_other fun e => h (by rw [e]; exact hB)
  have hN : ∀ c, M c ≠ none → ¬ W c → (M.upd B (.cells [.raw v1, .raw v2, .sl [] true])) c = M c := fun c h _ => hk c h
  have hW : ∀ c, un W (· = B) c → W c ∨ M c = none := fun c hc => hc.imp id fun e => by rw [e]; exact hB
  have hO : ∀ c, O c → (M.upd B (.cells [.raw v1, .raw v2, .sl [] true])) c = M c := fun c hc => hk c (h.ok c (h.ow c hc))
  have hl : ({ s with files := s.files ++ [⟨[], [], []⟩] } : DS).files.length = s.files.length + 1 := by simp
  have hgd := okC_gd h.oc
  { h with
    hd := (hO d h.od).trans h.hd
    mf := (h.mf.adr fun p hp => ha _ (hgd.2.nm p hp).2.2).keep (hO rf h.orf)
    ml := (h.ml.adr fun p hp => ha _ (hgd.1.nm p hp).2.2).keep (hO rl h.orl)
    od := .inl h.od
    orf := .inl h.orf
    orl := .inl h.orl
    oi := fun i hi => by
      rw [hl] at hi
      by_cases e : i = s.files.length
      · rw [e, haB]; exact .inr rfl
      · rw [ha i (by omega)]; exact .inl (h.oi i (by omega))
    inj := fun i j hi hj e => by
      rw [hl] at hi hj
      have hne : ∀ k, k < s.files.length → adr k ≠ B := fun k hk e => h.ok _ (h.ow _ (h.oi k hk)) (by rw [e]; exact hB)
      by_cases e1 : i = s.files.length <;> by_cases e2 : j = s.files.length
      · omega
      · rw [e1, haB, ha j (by omega)] at e; exact absurd e.symm (hne j (by omega))
      · rw [e2, haB, ha i (by omega)] at e; exact absurd e (hne i (by omega))
      · rw [ha i (by omega), ha j (by omega)] at e; exact h.inj i j (by omega) (by omega) e
    ow := fun c hc => hc.imp (h.ow c) id
    ok := fun c hc => by
      rcases hc with hc | hc
      · rw [hk c (h.ok c hc)]; exact h.ok c hc
      · rw [hc, Mem.upd_self]; exact fun h => by cases h
    fa := fun i F hi => by
      simp only [List.getElem?_append] at hi
      split at hi
      · rename_i hlt
        rw [ha i hlt]
        exact (h.fa i F hi).keep hN hW (hO _ (h.oi i hlt))
      · rename_i hge
        have hi0 := (List.getElem?_eq_some_iff.1 hi).1
        simp only [List.length_cons, List.length_nil] at hi0
        have e : i = s.files.length := by omega
        subst e
        rw [Nat.sub_self] at hi
        obtain rfl := Option.some.inj hi
        rw [haB]
        obtain ⟨b1, e1, k1⟩ := h1
        obtain ⟨b2, e2, k2⟩ := h2
        exact ⟨v1, v2, [], Mem.upd_self _ _ _, .inl ⟨b1, e1, k1, rfl⟩, .inl ⟨b2, e2, k2, rfl⟩, rfl, fun c hc => (by cases hc), rfl, Nat.zero_le _⟩
    bx := fun c hc => Ch.bx_keep (h.bx c hc) (n := s.files.length) hN hW ha (okC_lt h.oc _ (by rw [← h.ea]; exact List.mem_map.2 ⟨c, hc, rfl⟩))
    oc := okC_mono (by rw [hl]; omega) h.oc
    na := fun F hF => by
      rcases List.mem_append.1 hF with h1 | h1
      · exact h.na F h1
      · rw [List.mem_singleton.1 h1]; exact Nat.zero_le _ }
/-- The names. -/
theorem DiskIs.chg (h : DiskIs M d n rf rl adr s O W chs) {x : Ch} (hk : ∀ c, M c ≠ none → c ≠ rf → c ≠ d → M' c = M c) (hd : M' d = some (.cells (dC rf rl { s with dir := x.c.run s.dir, since := s.since ++ [x.c] } (chs ++ [x])))) (hm : DirAt M' rf adr (x.c.run s.dir)) (hx : x.bx M' W adr)
    (h1 : x.c.ok s.dir) (h2 : x.c.lt s.files.length) (h3 : Gd s.files.length (x.c.run s.dir)) : DiskIs M' d (n + 1) rf rl adr { s with dir := x.c.run s.dir, since := s.since ++ [x.c] } O W (chs ++ [x]) :=
  have hW : ∀ c, M c ≠ none → ¬ W c → M' c = M c := fun c h1 h2 => hk c h1 (fun e => h2 (by rw [e]; exact h.ow _ h.orf)) fun e => h2 (by rw [e]; exact h.ow _ h.od)
  have hkW : ∀ c, W c → c ≠ rf → c ≠ d → M' c = M c := fun c h1 => hk c (h.ok c h1)
  { h with
    hd := hd
    mf := hm
    ml := h.ml.keep (hkW rl (h.ow _ h.orl) h.ne.symm h.dn.2.1.symm)
    ok := fun c hc => by
      by_cases e : c = rf
      · rw [e]; obtain ⟨dm, hm, -⟩ := hm; exact hm.some
      · by_cases e2 : c = d
        · rw [e2, hd]; exact fun h => by cases h
        · rw [hkW c hc e e2]; exact h.ok c hc
    fa := fun i F hi => (h.fa i F hi).keep hW (fun c hc => .inl hc) (hkW _ (h.ow _ (h.oi i (List.getElem?_eq_some_iff.1 hi).1)) (h.dn.2.2 i (List.getElem?_eq_some_iff.1 hi).1).2.1 (h.dn.2.2 i (List.getElem?_eq_some_iff.1 hi).1).1)
    ea := by rw [List.map_append, h.ea]; rfl
    bx := fun c hc => by
      rcases List.mem_append.1 hc with hc | hc
      · exact Ch.bx_keep (h.bx c hc) (n := s.files.length) hW (fun c hc => .inl hc) (fun _ _ => rfl) (okC_lt h.oc _ (by rw [← h.ea]; exact List.mem_map.2 ⟨c, hc, rfl⟩))
      · rw [List.mem_singleton.1 hc]; exact hx
    oc := okC_add h.oc h1 h2 h3
    na := fun F hF => Nat.le_succ_of_le (h.na F hF)
    ns := by simp only [List.length_append, List.length_cons, List.length_nil]; have := h.ns; omega }
end
end C04
