import Derived.Test.YtkjdclhhmgjfbaaR04
/-! Chapter 4: the names stay right. -/
open Go Go.Proofs Go.Am
set_option linter.unusedVariables false
set_option linter.unusedSimpArgs false
set_option autoImplicit false
namespace C04
section
variable {n : Nat} {l : Dir} {k a b : ByteArray} {v i : Nat}
theorem delS_len (l : Dir) (k : ByteArray) : (delS l k).length ≤ l.length := (List.filter_sublist).length_le
theorem insS_len (l : Dir) (k : ByteArray) (v : Nat) : (insS l k v).length = (delS l k).length + 1 := (insS_perm l k v).length_eq
theorem delS_has (h : (a, i) ∈ l) : (delS l a).length < l.length := by
  obtain ⟨l1, l2, rfl⟩ := List.append_of_mem h
  unfold delS
  rw [List.filter_append, List.filter_cons_of_neg (by simp), List.length_append, List.length_append, List.length_cons]
  have h1 := (List.filter_sublist (p := fun p : ByteArray × Nat => decide (p.1 ≠ a)) (l := l1)).length_le
  have h2 := (List.filter_sublist (p := fun p : ByteArray × Nat => decide (p.1 ≠ a)) (l := l2)).length_le
  omega
theorem okN_size (h : okN k = true) : 1 ≤ k.size ∧ k.size ≤ 40 := by
  unfold okN at h
  simp only [Bool.and_eq_true, decide_eq_true_eq] at h
  refine ⟨?_, by omega⟩
  by_cases h0 : k.size = 0
  · exact absurd (by cases k; rename_i d; have : d = #[] := Array.eq_empty_of_size_eq_zero h0; rw [this]) h.1
  · omega
theorem Gd.del (h : Gd n l) (k : ByteArray) : Gd n (delS l k) :=
  ⟨Nat.le_trans (delS_len l k) h.len, fun p hp => h.nm p (mem_delS.1 hp).1, delS_srtd h.srt k, (List.filter_sublist.map _).nodup h.ni⟩
theorem Gd.ins (h : Gd n l) (hk : okN k = true) (hv : v < n) (hl : (delS l k).length < 200) (hi : ∀ p ∈ delS l k, p.2 ≠ v) : Gd n (insS l k v) := by
  refine ⟨by rw [insS_len]; omega, fun p hp => ?_, insS_srtd h.srt k v, ?_⟩
  · rcases mem_insS.1 hp with rfl | ⟨h1, -⟩
    · exact ⟨(okN_size hk).1, (okN_size hk).2, hv⟩
    · exact h.nm p h1
  · rw [((insS_perm l k v).map _).nodup_iff, List.map_cons, List.nodup_cons]
    refine ⟨fun h1 => ?_, (h.del k).ni⟩
    obtain ⟨p, hp, e⟩ := List.mem_map.1 h1
    exact hi p hp e
theorem Gd.make (h : Gd n l) (hk : okN k = true) (hl : l.length < 200) : Gd (n + 1) (insS l k n) :=
  (h.mono (Nat.le_succ n)).ins hk (Nat.lt_succ_self n) (Nat.lt_of_le_of_lt (delS_len l k) hl) fun p hp e => by
    have := (h.nm p (mem_delS.1 hp).1).2.2
    omega
theorem snd_inj : ∀ {l : Dir}, (l.map (·.2)).Nodup → ∀ {p q : ByteArray × Nat}, p ∈ l → q ∈ l → p.2 = q.2 → p = q
  | r :: l, hn, p, q, hp, hq, e => by
    rw [List.map_cons, List.nodup_cons] at hn
    rcases List.mem_cons.1 hp with h1 | h1 <;> rcases List.mem_cons.1 hq with h2 | h2
    · rw [h1, h2]
    · exact absurd (List.mem_map.2 ⟨q, h2, by rw [← e, h1]⟩) hn.1
    · exact absurd (List.mem_map.2 ⟨p, h1, by rw [e, h2]⟩) hn.1
    · exact snd_inj hn.2 h1 h2 e
theorem Gd.move (h : Gd n l) (hg : gets l a = some i) (hb : okN b = true) : Gd n (insS (delS l a) b i) := by
  have hm := (gets_iff h.srt.nd).1 hg
  refine (h.del a).ins hb (h.nm _ hm).2.2 ?_ fun p hp e => ?_
  · have := delS_has hm
    have := delS_len (delS l a) b
    have := h.len
    omega
  · have h1 := mem_delS.1 (mem_delS.1 hp).1
    have := snd_inj h.ni h1.1 hm e
    exact h1.2 (by rw [this])
end
/-- The names' act, in memory. -/
theorem run_ch {M : Mem} {W : Nat → Prop} {rf n : Nat} {adr : Nat → Nat} {dir : Dir} (hm : DirAt M rf adr dir) (hg : Gd n dir) (x : Ch) (hx : x.bx M W adr) (h1 : x.c.ok dir) : SoundCall Try.prog x.c.fn ((#[] : Array Value).toList.map .raw ++ [mapV rf] ++ (x.caps.map ptrV).toArray.toList.map .raw) M fun _ M' => DirAt M' rf adr (x.c.run dir) ∧ ∀ c, c ≠ rf → M' c = M c := by
  obtain ⟨dm, hma, hp⟩ := hm
  obtain ⟨c, p, q⟩ := x
  cases c with
  | mk s i => exact (snd36 M rf dm hma p q (adr i) s hx.1.1 hx.2.1).mono fun _ M' h => ⟨⟨_, h.1, perm_ins hp hg.srt s i⟩, h.2⟩
  | mv a b =>
    obtain ⟨i, hi⟩ := Option.isSome_iff_exists.1 h1
    have e : (gets dir a).getD 0 = i := by rw [hi]; rfl
    refine (snd48 M rf dm hma p q (adr i) a b hx.1.1 hx.2.1 (by rw [perm_gets hp hg.srt, hi]; rfl)).mono fun _ M' h => ⟨⟨_, h.1, ?_⟩, h.2⟩
    show (ins (del dm a) b (adr i)).Perm ((insS (delS dir a) b ((gets dir a).getD 0)).map _)
    rw [e]
    exact perm_ins (perm_del hp hg.srt a) (delS_srtd hg.srt a) b i
  | rm a => exact (snd66 M rf dm hma p a hx.1).mono fun _ M' h => ⟨⟨_, h.1, perm_del hp hg.srt a⟩, h.2⟩
theorem ch_goes (c : Dc) : goesB Try.prog c.fn = true := by cases c <;> first | exact goes36 | exact goes48 | exact goes66
end C04
