import Derived.Test.YtkjdclhhmgjfbaaO05
/-! Chapter 4: the program's disk beside the reference's. -/
open Go Go.Proofs Go.Am
set_option linter.unusedVariables false
set_option linter.unusedSimpArgs false
set_option autoImplicit false
namespace C04
/-- A deed whose list of lengths is read. -/
structure De2 where
  kind : Int
  a : ByteArray
  b : ByteArray
  n : Int
  keeps : List Int
def encDe2 (o : De2) : AVal := .agg [int o.kind, str o.a, str o.b, int o.n, .sl (o.keeps.map int) false]
def okDe2 (o : De2) : Prop := (-2 ^ 63 ≤ o.kind ∧ o.kind < 2 ^ 63) ∧ (-2 ^ 63 ≤ o.n ∧ o.n < 2 ^ 63) ∧ ∀ z ∈ o.keeps, -2 ^ 63 ≤ z ∧ z < 2 ^ 63
def DS.two (s : DS) (o : De2) : Int × DS :=
  if pick o.kind 11 = 0 then s.create o.a else if pick o.kind 11 = 1 then s.append o.a o.b else if pick o.kind 11 = 2 then s.sync o.a else if pick o.kind 11 = 3 then s.rename o.a o.b
  else if pick o.kind 11 = 4 then s.trunc o.a o.n else if pick o.kind 11 = 5 then s.remove o.a else s.dirsync
theorem act_files {s : DS} {t : DS → DS} {k : Nat} (h : ∀ u : DS, u.files = s.files → (t u).files.length ≤ s.files.length + k) : (s.act t).2.files.length ≤ s.files.length + k := by
  unfold DS.act
  split
  · exact Nat.le_add_right _ _
  · exact h _ rfl
theorem onf_files {s : DS} {nm : ByteArray} {f : Nat → Int × DS} {k : Nat} (h : ∀ i, (f i).2.files.length ≤ s.files.length + k) : (s.onf nm f).2.files.length ≤ s.files.length + k := by
  unfold DS.onf
  split
  · exact Nat.le_add_right _ _
  · split
    · exact Nat.le_add_right _ _
    · exact h _
theorem create_files (s : DS) (nm : ByteArray) : (s.create nm).2.files.length ≤ s.files.length + 1 := by
  unfold DS.create
  split
  · exact Nat.le_succ _
  · split
    · exact Nat.le_succ _
    · split
      · exact Nat.le_succ _
      · split
        · exact Nat.le_succ _
        · refine act_files fun u hu => ?_
          show (u.files ++ [fl0]).length ≤ _
          rw [List.length_append, hu]; exact Nat.le_refl _
theorem append_files (s : DS) (nm tx : ByteArray) : (s.append nm tx).2.files.length ≤ s.files.length + 1 := by
  refine onf_files fun i => ?_
  split
  · exact Nat.le_succ _
  · refine act_files fun u hu => ?_
    show (u.files.set _ _).length ≤ _
    rw [List.length_set, hu]; exact Nat.le_succ _
theorem sync_files (s : DS) (nm : ByteArray) : (s.sync nm).2.files.length ≤ s.files.length + 1 := by
  refine onf_files fun i => act_files fun u hu => ?_
  show (u.files.set _ _).length ≤ _
  rw [List.length_set, hu]; exact Nat.le_succ _
theorem rename_files (s : DS) (a b : ByteArray) : (s.rename a b).2.files.length ≤ s.files.length + 1 := by
  refine onf_files fun i => ?_
  split
  · exact Nat.le_succ _
  · exact act_files fun u hu => by show u.files.length ≤ _; rw [hu]; exact Nat.le_succ _
theorem trunc_files (s : DS) (nm : ByteArray) (n : Int) : (s.trunc nm n).2.files.length ≤ s.files.length + 1 := by
  refine onf_files fun i => ?_
  split
  · exact Nat.le_succ _
  · refine act_files fun u hu => ?_
    show (u.files.set _ _).length ≤ _
    rw [List.length_set, hu]; exact Nat.le_succ _
theorem remove_files (s : DS) (a : ByteArray) : (s.remove a).2.files.length ≤ s.files.length + 1 := by
  exact onf_files fun i => act_files fun u hu => by show u.files.length ≤ _; rw [hu]; exact Nat.le_succ _
theorem dirsync_files (s : DS) : s.dirsync.2.files.length ≤ s.files.length + 1 := by
  unfold DS.dirsync
  split
  · exact Nat.le_succ _
  · exact act_files fun u hu => by show u.files.length ≤ _; rw [hu]; exact Nat.le_succ _
theorem crash_files (s : DS) (d : Int) (ks : List Int) : (s.crash d ks).files.length = s.files.length := keepI_len ..
/-- The program's disk, and the reference's. -/
structure Mid (M : Mem) (d x n : Nat) (s t : DS) (O W O2 : Nat → Prop) : Prop where
  a : DiskAt M d n s O W
  r : RdAt M x t O2
  w : ∀ c, O2 c → W c
  dj : ∀ c, O c → O2 c → False
structure Both (M : Mem) (d x n : Nat) (s : DS) (O W O2 : Nat → Prop) : Prop where
  m : Mid M d x n s s O W O2
  nf : s.files.length ≤ n
section
variable {M M' : Mem} {d x n m : Nat} {s s' t : DS} {O W O2 : Nat → Prop}
theorem Mid.le (h : Mid M d x n s t O W O2) (hle : M.le M') : Mid M' d x n s t O W O2 := ⟨h.a.le hle, h.r.fr fun c hc => leK hle (h.r.ok c hc), h.w, h.dj⟩
theorem Both.le (h : Both M d x n s O W O2) (hle : M.le M') : Both M' d x n s O W O2 := ⟨h.m.le hle, h.nf⟩
theorem Both.pok (h : Both M d x n s O W O2) : POk n s := by
  obtain ⟨rf, rl, adr, chs, hD⟩ := h.m.a
  refine ⟨fun F hF => ⟨?_, hD.na F hF⟩, hD.oc, h.nf, hD.ns, hD.room, hD.fuse⟩
  obtain ⟨i, hi⟩ := List.mem_iff_getElem?.1 hF
  exact (hD.fa i F hi).ok
theorem Mid.stepA (h : Mid M d x n s t O W O2) (h2 : Aft M M' d m s' O W) : ∃ O' W', Mid M' d x m s' t O' W' O2 := by
  obtain ⟨O', W', h3, h4, h5, h6⟩ := h2
  refine ⟨O', W', h3, h.r.fr fun c hc => h4.eq c (h.r.ok c hc) fun ho => h.dj c ho hc, fun c hc => h6 c (h.w c hc), fun c h1 h2 => ?_⟩
  rcases h4.new c h1 with h7 | h7
  · exact h.dj c h7 h2
  · exact h.r.ok c h2 h7
theorem Mid.stepB (h : Mid M d x n s t O W O2) (h2 : RAft M M' x s' O2) : ∃ O' W' O2', Mid M' d x n s s' O' W' O2' := by
  obtain ⟨O2', h3, h4⟩ := h2
  have hA := h.a.own
  refine ⟨O, un W O2', O2', h.a.fr (fun c h1 h2 => h4.eq c h1 fun ho => h2.elim (fun h5 => h.dj c h5 ho) fun h5 => h5 (h.w c ho)) (fun c hc => ?_) (fun c hc => .inl hc) (fun c hc => ?_), h3, fun c hc => .inr hc, fun c h1 h2 => ?_⟩
  · rcases hc with hc | hc
    · exact .inl hc
    · exact (h4.new c hc).imp (h.w c) id
  · by_cases h5 : O2' c
    · exact h3.ok c h5
    · have hc' := hc.resolve_right h5
      rw [h4.eq c (hA.2 c hc') fun ho => h5 (h4.up c ho)]; exact hA.2 c hc'
  · rcases h4.new c h2 with h7 | h7
    · exact h.dj c h1 h7
    · exact hA.2 c (hA.1 c h1) h7
theorem Mid.up (h : Mid M d x n s t O W O2) (hm : n ≤ m) : Mid M d x m s t O W O2 := ⟨h.a.up hm, h.r, h.w, h.dj⟩
theorem rcreate (h : RdAt M x s O) (hp : POk n s) (hn : n < BIG) {nm : ByteArray} {k : Int} (e : s.create nm = (k, s')) : SoundCall Try.prog 54 [ptr x, str nm] M fun r M' => r = int k ∧ RAft M M' x s' O := by
  obtain ⟨vf, L, h⟩ := h
  have := snd54 M x n s vf L O h hp hn nm
  rw [e] at this
  exact this
theorem rappend (h : RdAt M x s O) (hp : POk n s) (hn : n < BIG) {nm tx : ByteArray} (htx : tx.size ≤ 2 ^ 62) {k : Int} (e : s.append nm tx = (k, s')) : SoundCall Try.prog 55 [ptr x, str nm, str tx] M fun r M' => r = int k ∧ RAft M M' x s' O := by
  obtain ⟨vf, L, h⟩ := h
  have := snd55 M x n s vf L O h hp hn nm tx htx
  rw [e] at this
  exact this
theorem rsync (h : RdAt M x s O) (hp : POk n s) (hn : n < BIG) {nm : ByteArray} {k : Int} (e : s.sync nm = (k, s')) : SoundCall Try.prog 56 [ptr x, str nm] M fun r M' => r = int k ∧ RAft M M' x s' O := by
  obtain ⟨vf, L, h⟩ := h
  have := snd56 M x n s vf L O h hp hn nm
  rw [e] at this
  exact this
theorem rrename (h : RdAt M x s O) (hp : POk n s) (hn : n < BIG) {a b : ByteArray} {k : Int} (e : s.rename a b = (k, s')) : SoundCall Try.prog 57 [ptr x, str a, str b] M fun r M' => r = int k ∧ RAft M M' x s' O := by
  obtain ⟨vf, L, h⟩ := h
  have := snd57 M x n s vf L O h hp hn a b
  rw [e] at this
  exact this
theorem rtrunc (h : RdAt M x s O) (hp : POk n s) (hn : n < BIG) {nm : ByteArray} {z : Int} {k : Int} (e : s.trunc nm z = (k, s')) : SoundCall Try.prog 58 [ptr x, str nm, int z] M fun r M' => r = int k ∧ RAft M M' x s' O := by
  obtain ⟨vf, L, h⟩ := h
  have := snd58 M x n s vf L O h hp hn nm z
  rw [e] at this
  exact this
theorem rremove (h : RdAt M x s O) (hp : POk n s) (hn : n < BIG) {nm : ByteArray} {k : Int} (e : s.remove nm = (k, s')) : SoundCall Try.prog 59 [ptr x, str nm] M fun r M' => r = int k ∧ RAft M M' x s' O := by
  obtain ⟨vf, L, h⟩ := h
  have := snd59 M x n s vf L O h hp hn nm
  rw [e] at this
  exact this
theorem rdirsync (h : RdAt M x s O) (hp : POk n s) (hn : n < BIG) {k : Int} (e : s.dirsync = (k, s')) : SoundCall Try.prog 60 [ptr x] M fun r M' => r = int k ∧ RAft M M' x s' O := by
  obtain ⟨vf, L, h⟩ := h
  have := snd60 M x n s vf L O h hp hn
  rw [e] at this
  exact this
theorem rread (h : RdAt M x s O) (hp : POk n s) (hn : n < BIG) {nm tx : ByteArray} {k : Int} (e : s.read nm = (tx, k)) : SoundCall Try.prog 21 [ptr x, str nm] M fun r M' => r = .tup [str tx, int k] ∧ M' = M := by
  obtain ⟨vf, L, h⟩ := h
  have := snd21 M x n s vf L O h hp hn nm
  rw [e] at this
  exact this
theorem rlist (h : RdAt M x s O) (hp : POk n s) (hn : n < BIG) {l : List ByteArray} {k : Int} (e : s.list = (l, k)) : SoundCall Try.prog 61 [ptr x] M fun r M' => r = .tup [.sl (l.map str) false, int k] ∧ M' = M := by
  obtain ⟨vf, L, h⟩ := h
  have := snd61 M x n s vf L O h hp hn
  rw [e] at this
  exact this
theorem rused (h : RdAt M x s O) (hp : POk n s) (hn : n < BIG) : SoundCall Try.prog 62 [ptr x] M fun r M' => r = int (s.used : Nat) ∧ M' = M := by
  obtain ⟨vf, L, h⟩ := h
  have := snd62 M x n s vf L O h hp hn
  skip
  exact this
theorem rfree (h : RdAt M x s O) (hp : POk n s) (hn : n < BIG) : SoundCall Try.prog 63 [ptr x] M fun r M' => r = int (s.room - (s.used : Nat)) ∧ M' = M := by
  obtain ⟨vf, L, h⟩ := h
  have := snd63 M x n s vf L O h hp hn
  skip
  exact this
theorem rfuse (h : RdAt M x s O) (hp : POk n s) (hn : n < BIG) {z : Int} (hz : -2 ^ 63 ≤ z ∧ z < 2 ^ 63) : SoundCall Try.prog 22 [ptr x, int z] M fun r M' => RAft M M' x (s.setfuse z) O := by
  obtain ⟨vf, L, h⟩ := h
  exact snd22 M x n s vf L O h hp hn z hz
theorem rcrash (h : RdAt M x s O) (hp : POk n s) (hn : n < BIG) {z : Int} {ks : List Int} {own : Bool} (hz : -2 ^ 63 ≤ z ∧ z < 2 ^ 63) (hk : ∀ z ∈ ks, -2 ^ 63 ≤ z ∧ z < 2 ^ 63) : SoundCall Try.prog 23 [ptr x, int z, .sl (ks.map int) own] M fun r M' => RAft M M' x (s.crash z ks) O := by
  obtain ⟨vf, L, h⟩ := h
  exact snd23 M x n s vf L O h hp hn z ks own hz hk
theorem RAft.keep (h : RAft M M' x s O) {c : Nat} (h1 : M c ≠ none) (h2 : ¬ O c) : M' c = M c := by
  obtain ⟨O', -, h3⟩ := h
  exact h3.eq c h1 h2
theorem Both.up (h : Both M d x n s O W O2) (hm : n ≤ m) : Both M d x m s O W O2 := ⟨h.m.up hm, Nat.le_trans h.nf hm⟩
end
theorem rnewNo (M : Mem) (room : Int) (h : room < 0 ∨ 1000000000 < room) : SoundCall Try.prog 20 [int room] M fun r M' => r = .raw (.pointer none) ∧ M' = M :=
  (snd20 room M).mono fun r M' h2 => by
    rcases h2 with ⟨-, h2⟩ | ⟨h3, h4, -⟩
    · exact h2
    · omega
def rn0 (room : Int) (a b c : AVal) : List AVal := [int room, .raw (.slice none 0 0), a, b, c, int (-1), bool false]
def rn1 (M : Mem) (room : Int) (a b c : AVal) (r : AVal) (M' : Mem) : Prop := ∃ x, M x = none ∧ r = ptr x ∧ M' = M.upd x (.cells (rn0 room a b c))
theorem rnewOk (M : Mem) (room : Int) (h1 : 0 ≤ room) (h2 : room ≤ 1000000000) : SoundCall Try.prog 20 [int room] M fun r M' => ∃ x O2, r = ptr x ∧ RdAt M' x (DS.new room) O2 ∧ M.le M' ∧ (∀ c, O2 c → M c = none) ∧ ∀ c, O2 c → M' c ≠ none := by
  have e0 : SoundCall Try.prog 20 [int room] M (rn1 M room (.raw (.slice none 0 0)) (.raw (.slice none 0 0)) (.raw (.slice none 0 0))) := (snd20 room M).mono fun r M' h => by
    rcases h with ⟨h, -⟩ | ⟨-, -, x, h3, h4, h5⟩
    · omega
    · exact ⟨x, h3, h4, h5⟩
  have e1 : SoundCall Try.prog 20 [int room] M (rn1 M room (.sl [] true) (.raw (.slice none 0 0)) (.raw (.slice none 0 0))) := e0.nilout fun r M' h => by
    obtain ⟨x, h3, h4, rfl⟩ := h
    exact .inr ⟨x, _, 2, Mem.upd_self _ _ _, rfl, x, h3, h4, Mem.upd_upd _ _ _ _⟩
  have e2 : SoundCall Try.prog 20 [int room] M (rn1 M room (.sl [] true) (.sl [] true) (.raw (.slice none 0 0))) := e1.nilout fun r M' h => by
    obtain ⟨x, h3, h4, rfl⟩ := h
    exact .inr ⟨x, _, 3, Mem.upd_self _ _ _, rfl, x, h3, h4, Mem.upd_upd _ _ _ _⟩
  have e3 : SoundCall Try.prog 20 [int room] M (rn1 M room (.sl [] true) (.sl [] true) (.sl [] true)) := e2.nilout fun r M' h => by
    obtain ⟨x, h3, h4, rfl⟩ := h
    exact .inr ⟨x, _, 4, Mem.upd_self _ _ _, rfl, x, h3, h4, Mem.upd_upd _ _ _ _⟩
  refine e3.mono fun r M' h => ?_
  obtain ⟨x, h3, h4, h5⟩ := h
  refine ⟨x, fun c => c = x, h4, ⟨.slice none 0 0, [], ?_⟩, by rw [h5]; exact Mem.le_upd (Mem.le_refl M) h3, fun c hc => by rw [hc]; exact h3, fun c hc => by rw [hc, h5, Mem.upd_self]; exact fun h => by cases h⟩
  have hno : ∀ b, ¬ bOf (.slice none 0 0) b := fun b ⟨q, w, e, _⟩ => by cases e
  exact ⟨⟨true, true, by rw [h5]; exact Mem.upd_self _ _ _⟩, .inl ⟨none, rfl, .inl rfl, rfl⟩, rfl, fun i F f e => (by cases e), rfl, fun b hb => absurd hb (hno b), fun i f e => (by cases e), fun i j f g e => (by cases e), fun c hc => by rw [hc, h5, Mem.upd_self]; exact fun h => by cases h⟩
/-- Two new disks. -/
theorem Both.new {M M2 : Mem} {d x : Nat} {room : Int} {O W O2 : Nat → Prop} (h : DiskAt M d 0 (DS.new room) O W) (hr : RdAt M2 x (DS.new room) O2) (hle : M.le M2) (hn : ∀ c, O2 c → M c = none) : Both M2 d x 0 (DS.new room) O (un W O2) O2 where
  nf := Nat.zero_le _
  m := ⟨h.fr (fun c h1 _ => leK hle h1) (fun c hc => hc.imp id (hn c)) (fun c hc => .inl hc) fun c hc => (by
      rcases hc with hc | hc
      · rw [leK hle (h.own.2 c hc)]; exact h.own.2 c hc
      · exact hr.ok c hc), hr, fun c hc => .inr hc, fun c h1 h2 => h.own.2 c (h.own.1 c h1) (hn c h2)⟩
end C04
