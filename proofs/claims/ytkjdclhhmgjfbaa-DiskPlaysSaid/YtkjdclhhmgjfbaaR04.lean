import Derived.Test.YtkjdclhhmgjfbaaQ04
/-! Chapter 4: what is done with a disk. -/
open Go Go.Proofs Go.Am
set_option linter.unusedVariables false
set_option linter.unusedSimpArgs false
set_option autoImplicit false
namespace C04
def tick (n : Int) : Int := if 0 < n then n - 1 else n
def fl0 : Fl := ⟨[], [], []⟩
def okN (s : ByteArray) : Bool := decide (s ≠ ⟨#[]⟩) && decide ((s.size : Int) ≤ 40)
namespace DS
def now (s : DS) (i : Nat) : List UInt8 := (s.files.getD i fl0).now
def used (s : DS) : Nat := (s.dir.map fun p => (s.now p.2).length).sum
def act (s : DS) (t : DS → DS) : Int × DS := if s.fuse = 0 then (9, { s with down := true }) else (0, t { s with fuse := tick s.fuse })
def onf (s : DS) (nm : ByteArray) (f : Nat → Int × DS) : Int × DS := if s.down then (9, s) else match gets s.dir nm with | none => (7, s) | some i => f i
def chg (s : DS) (c : Dc) : DS := { s with dir := c.run s.dir, since := s.since ++ [c] }
def did (s : DS) (i : Nat) (a : A) : DS := { s with files := s.files.set i ((s.files.getD i fl0).did a) }
def synced (s : DS) (i : Nat) : DS := { s with files := s.files.set i ⟨s.now i, s.now i, []⟩ }
def made (s : DS) : DS := { s with files := s.files ++ [fl0] }
def create (s : DS) (nm : ByteArray) : Int × DS := if s.down then (9, s) else if okN nm = false then (5, s) else if (gets s.dir nm).isSome then (6, s) else if 200 ≤ s.dir.length then (8, s) else s.act fun t => t.made.chg (.mk nm t.files.length)
def append (s : DS) (nm tx : ByteArray) : Int × DS := s.onf nm fun i => if s.room - s.used < tx.size then (8, s) else s.act fun t => t.did i (.app tx)
def sync (s : DS) (nm : ByteArray) : Int × DS := s.onf nm fun i => s.act fun t => t.synced i
def rename (s : DS) (a b : ByteArray) : Int × DS := s.onf a fun i => if okN b = false then (5, s) else s.act fun t => t.chg (.mv a b)
def trunc (s : DS) (nm : ByteArray) (n : Int) : Int × DS := s.onf nm fun i => if n < 0 ∨ ((s.now i).length : Int) < n then (1, s) else s.act fun t => t.did i (.cut n.toNat)
def remove (s : DS) (a : ByteArray) : Int × DS := s.onf a fun i => s.act fun t => t.chg (.rm a)
def dirsync (s : DS) : Int × DS := if s.down then (9, s) else s.act fun t => { t with lst := t.dir, since := [] }
def read (s : DS) (nm : ByteArray) : ByteArray × Int := if s.down then (⟨#[]⟩, 9) else match gets s.dir nm with | none => (⟨#[]⟩, 7) | some i => (⟨(s.now i).toArray⟩, 0)
def list (s : DS) : List ByteArray × Int := if s.down then ([], 9) else (s.dir.map (·.1), 0)
def setfuse (s : DS) (n : Int) : DS := { s with fuse := max n (-1) }
end DS
def keepF (F : Fl) (n : Int) : Fl := ⟨keepR F.lasts F.acts n, keepR F.lasts F.acts n, []⟩
def keepI (fs : List Fl) (x : Dir) (ks : List Int) : Nat → List Fl
  | 0 => fs
  | i + 1 => match x[i]? with | none => keepI fs x ks i | some p => (keepI fs x ks i).set p.2 (keepF ((keepI fs x ks i).getD p.2 fl0) (ks.getD i 0))
def runAll (l : Dir) (cs : List Dc) : Dir := cs.foldl (fun l c => c.run l) l
def DS.crash (s : DS) (dirs : Int) (keeps : List Int) : DS :=
  let x := runAll s.lst (s.since.take dirs.toNat)
  { s with dir := x, lst := x, since := [], fuse := -1, down := false, files := keepI s.files x keeps x.length }
/-- What an act of a disk leaves. -/
def Aft (M M' : Mem) (d n : Nat) (s : DS) (O W : Nat → Prop) : Prop := ∃ O' W', DiskAt M' d n s O' W' ∧ Chg M M' O O' ∧ (∀ c, W' c → W c ∨ M c = none) ∧ ∀ c, W c → W' c
section
variable {M M' M2 : Mem} {O O' O2 W W' : Nat → Prop} {d n rf rl : Nat} {s s' : DS} {adr adr' : Nat → Nat} {chs : List Ch}
theorem getD_at {l : List Fl} {i : Nat} (h : i < l.length) : l[i]? = some (l.getD i fl0) := by
  rw [List.getD_eq_getElem?_getD, List.getElem?_eq_getElem h]; rfl
theorem DiskIs.at (h : DiskIs M d n rf rl adr s O W chs) {nm : ByteArray} {i : Nat} (hg : gets s.dir nm = some i) : i < s.files.length ∧ FileAt M W (adr i) (s.files.getD i fl0) := by
  have hgd := (okC_gd h.oc).2
  have h1 := (hgd.nm _ ((gets_iff hgd.srt.nd).1 hg)).2.2
  exact ⟨h1, h.fa i _ (getD_at h1)⟩
theorem sum_le_of {α : Type} (f : α → Nat) (m : Nat) : ∀ (l : List α), (∀ a ∈ l, f a ≤ m) → (l.map f).sum ≤ l.length * m
  | [], _ => by simp
  | a :: l, h => by
    have := sum_le_of f m l fun a ha => h a (by simp [ha])
    have h1 := h a (by simp)
    rw [List.map_cons, List.sum_cons, List.length_cons, Nat.succ_mul]; omega
theorem le_sum_of {α : Type} (f : α → Nat) : ∀ (l : List α) (a : α), a ∈ l → f a ≤ (l.map f).sum
  | b :: l, a, h => by
    rw [List.map_cons, List.sum_cons]
    rcases List.mem_cons.1 h with rfl | h
    · omega
    · have := le_sum_of f l a h; omega
theorem DiskIs.now_le (h : DiskIs M d n rf rl adr s O W chs) {i : Nat} (hi : i < s.files.length) : (s.now i).length ≤ BIG := (okA_len (h.fa i _ (getD_at hi)).ok).2
theorem DiskIs.used_le (h : DiskIs M d n rf rl adr s O W chs) : s.used ≤ 200 * BIG := by
  have hgd := (okC_gd h.oc).2
  refine Nat.le_trans (sum_le_of _ BIG _ fun p hp => h.now_le (hgd.nm p hp).2.2) ?_
  exact Nat.mul_le_mul_right _ hgd.len
theorem DiskIs.now_used (h : DiskIs M d n rf rl adr s O W chs) {nm : ByteArray} {i : Nat} (hg : gets s.dir nm = some i) : (s.now i).length ≤ s.used :=
  le_sum_of (fun p : ByteArray × Nat => (s.now p.2).length) s.dir (nm, i) ((gets_iff (okC_gd h.oc).2.srt.nd).1 hg)
/-- The entries of the map of files. -/
theorem DiskIs.ents (h : DiskIs M d n rf rl adr s O W chs) : ∃ clk lf, M rf = some (.it (.map (entsX Value.string lf) clk)) ∧ (∀ e ∈ lf, e.s < clk) ∧ (lf.map En.s).Nodup ∧ (lf.map En.k).Nodup ∧ (lf.map En.k).Perm (s.dir.map (·.1)) ∧ (∀ e ∈ lf, ∃ i, i < s.files.length ∧ gets s.dir e.k = some i ∧ e.v = ptrV (adr i)) ∧ lf.length = s.dir.length := by
  obtain ⟨dm, ⟨clk, lf, hm⟩, hp⟩ := h.mf
  have hgd := (okC_gd h.oc).2
  have hk : lf.map En.k = dm.map (·.1) := hm.keys
  have hpk : (dm.map (·.1)).Perm (s.dir.map (·.1)) := (hp.map _).trans (by rw [List.map_map]; exact List.Perm.refl _)
  refine ⟨clk, lf, hm.hM, hm.st, hm.sn, by rw [hk]; exact hm.nd, by rw [hk]; exact hpk, fun e he => ?_, by rw [hm.len]; simpa using hpk.length_eq⟩
  have h1 : pairE e ∈ dm.map (fun p => (p.1, ptrV p.2)) := by rw [← hm.hl]; exact List.mem_map.2 ⟨e, he, rfl⟩
  obtain ⟨p, hp1, hp2⟩ := List.mem_map.1 h1
  obtain ⟨q, hq1, hq2⟩ := List.mem_map.1 (hp.mem_iff.1 hp1)
  refine ⟨q.2, (hgd.nm q hq1).2.2, ?_, ?_⟩
  · have e1 : e.k = q.1 := by
      have := congrArg Prod.fst hp2
      have h3 := congrArg Prod.fst hq2
      exact this.symm.trans h3.symm
    rw [e1]; exact (gets_iff hgd.srt.nd).2 hq1
  · have := congrArg Prod.snd hp2
    have h3 := congrArg Prod.snd hq2
    dsimp only at this h3
    rw [h3]; exact this.symm
/-- The same disk without its last file. -/
theorem DiskIs.drop {F : Fl} (h : DiskIs M d n rf rl adr { s with files := s.files ++ [F] } O W chs) (hoc : okC s.files.length s.lst s.since s.dir) : DiskIs M d n rf rl adr s O W chs :=
  have hl : ({ s with files := s.files ++ [F] } : DS).files.length = s.files.length + 1 := by simp
  { hd := h.hd, mf := h.mf, ml := h.ml, od := h.od, orf := h.orf, orl := h.orl, ow := h.ow, ok := h.ok, ne := h.ne, ea := h.ea, bx := h.bx, room := h.room, fuse := h.fuse, ns := h.ns, oc := hoc
    oi := fun i hi => h.oi i (by rw [hl]; omega)
    inj := fun i j hi hj => h.inj i j (by rw [hl]; omega) (by rw [hl]; omega)
    fa := fun i F' hi => h.fa i F' (by
      have := (List.getElem?_eq_some_iff.1 hi).1
      show (s.files ++ [F])[i]? = _
      rw [List.getElem?_append_left this]; exact hi)
    na := fun F' hF => h.na F' (List.mem_append.2 (.inl hF)) }
theorem Aft.of (h : DiskIs M' d n rf rl adr s O W chs) (hc : Chg M M' O O) : Aft M M' d n s O W := ⟨O, W, ⟨rf, rl, adr, chs, h⟩, hc, fun c hc => .inl hc, fun c hc => hc⟩
theorem Aft.same (h : DiskIs M d n rf rl adr s O W chs) {m : Nat} (hm : n ≤ m) (hle : M.le M') : Aft M M' d m s O W := Aft.of ((h.le hle).up hm) (Chg.of_le hle)
end
end C04
