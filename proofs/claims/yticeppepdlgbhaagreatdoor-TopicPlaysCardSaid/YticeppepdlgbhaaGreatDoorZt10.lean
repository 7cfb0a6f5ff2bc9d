import Derived.Test.YticeppepdlgbhaaGreatDoorZt9
/-! TopicBack, plain: topics that were published to; topics that are the same but for the order of their producers. -/
open Go Go.Proofs Go.Am
set_option linter.unusedVariables false
set_option autoImplicit false
namespace C17
/-- A topic behind so many publishes. -/
structure BackOk (n : Nat) (x : Tp) : Prop where
 ok : LoadOk x
 kn : x.kvs.length ≤ n
 rn : x.recs.length ≤ n
 en : x.en ≤ n
theorem back_new {s : ByteArray} (h : word s = true) : BackOk 0 ⟨s, 0, 0, [], []⟩ where
 ok := { name := h, low := ⟨Int.le_refl _, Int.le_refl _, by show (0 : Int) ≤ 9007199254740991; omega⟩, nd := List.nodup_nil, kv := fun p hp => absurd hp List.not_mem_nil, rc := fun r hr => absurd hr List.not_mem_nil, so := List.Pairwise.nil }
 kn := Nat.le_refl _
 rn := Nat.le_refl _
 en := Int.le_refl _
theorem BackOk.mono {n m : Nat} {x : Tp} (h : BackOk n x) (hm : n ≤ m) : BackOk m x := ⟨h.ok, Nat.le_trans h.kn hm, Nat.le_trans h.rn hm, by have := h.en; omega⟩
theorem kput_mem {β : Type} {l : List (ByteArray × β)} {k : ByteArray} {v : β} {p : ByteArray × β} (h : p ∈ kput l k v) : p = (k, v) ∨ p ∈ l := by
 unfold kput at h
 split at h
 ·rcases List.mem_or_eq_of_mem_set h with h | h
  ·exact .inr h
  ·exact .inl h
 ·rcases List.mem_append.1 h with h | h
  ·exact .inr h
  ·exact .inl (List.mem_singleton.1 h)
theorem kput_len {β : Type} (l : List (ByteArray × β)) (k : ByteArray) (v : β) : (kput l k v).length ≤ l.length + 1 := by
 unfold kput
 split
 ·rw [List.length_set]; omega
 ·rw [List.length_append, List.length_singleton]; exact Nat.le_refl _
theorem back_px {n : Nat} {x : Tp} {p : ByteArray} {seq : Int} {k v : ByteArray} (h : BackOk n x) (hn : n < 2 ^ 40) (hw : word p = true) (hr : right (newR x p seq k v) = true) : BackOk (n + 1) ⟨x.name, x.low, x.en + 1, kput x.kvs p (seq, x.en, p), x.recs ++ [newR x p seq k v]⟩ := by
 have h1 := h.ok.low
 have h2 := h.en
 have h3 : (0 : Int) ≤ seq ∧ seq ≤ 9007199254740991 := by
  have := right_spec.1 hr
  exact ⟨this.2.1, this.2.2.2.1⟩
 have hg : (great : Int) = 9007199254740991 := rfl
 refine ⟨{ name := h.ok.name, low := ?_, nd := ins_nd h.ok.nd p _, kv := fun q hq => ?_, rc := fun r hr' => ?_, so := ?_ }, ?_, ?_, ?_⟩
 ·show 0 ≤ x.low ∧ x.low ≤ x.en + 1 ∧ x.en + 1 ≤ (great : Int); omega
 ·rcases kput_mem hq with rfl | hq
  ·exact ⟨hw, rfl, ⟨h3.1, by rw [hg]; exact h3.2⟩, by show 0 ≤ x.en; omega, by show x.en < x.en + 1; omega⟩
  ·obtain ⟨g1, g2, g3, g4⟩ := h.ok.kv q hq
   exact ⟨g1, g2, g3, g4.1, by have := g4.2; show q.2.2.1 < x.en + 1; omega⟩
 ·rcases List.mem_append.1 hr' with hr' | hr'
  ·obtain ⟨g1, g2, g3, g4⟩ := h.ok.rc r hr'
   exact ⟨g1, ⟨g2.1, by have := g2.2; show r.off < x.en + 1; omega⟩, g3, g4⟩
  ·rw [List.mem_singleton.1 hr']
   exact ⟨hr, ⟨by show 0 ≤ x.en; omega, by show x.en < x.en + 1; omega⟩, ⟨h3.1, by rw [hg]; exact h3.2⟩, h1.2.1⟩
 ·refine List.pairwise_append.2 ⟨h.ok.so, List.pairwise_singleton .., fun a ha b hb => ?_⟩
  rw [List.mem_singleton.1 hb]
  exact (h.ok.rc a ha).2.1.2
 ·have := kput_len x.kvs p (seq, x.en, p); have := h.kn; show (kput x.kvs p _).length ≤ _; omega
 ·have := h.rn; show (x.recs ++ [_]).length ≤ _; rw [List.length_append, List.length_singleton]; omega
 ·show x.en + 1 ≤ _; omega
theorem back_pub {n : Nat} {x : Tp} (h : BackOk n x) (hn : n < 2 ^ 40) (p : ByteArray) (seq : Int) (k v : ByteArray) : BackOk (n + 1) (pub x p seq k v).1 := by
 have hm := h.mono (Nat.le_succ n)
 unfold pub
 split
 ·rename_i hc
  simp only [Bool.and_eq_true] at hc
  split
  ·split
   ·exact hm
   ·split
    ·exact hm
    ·exact back_px h hn hc.1 hc.2
  ·exact back_px h hn hc.1 hc.2
 ·exact hm
theorem back_dump {n : Nat} {x : Tp} (h : BackOk n x) (hn : n ≤ 120) : DumpOk x := by
 have h1 := h.ok.low
 have hg : (great : Int) = 9007199254740991 := rfl
 have hk := h.kn
 have hr := h.rn
 refine { name := ?_, low := ⟨h1.1, by omega⟩, en := ⟨by omega, by omega⟩, nd := h.ok.nd, len := by omega, kv := fun p hp => ?_, rc := fun r hr => ?_ }
 ·have := word_le h.ok.name; omega
 ·obtain ⟨g1, g2, g3, g4⟩ := h.ok.kv p hp
  have := word_le g1
  exact ⟨by omega, by rw [g2]; omega, ⟨g3.1, by have := g3.2; omega⟩, ⟨g4.1, by have := g4.2; omega⟩⟩
 ·obtain ⟨g1, g2, g3, g4⟩ := h.ok.rc r hr
  have := right_spec.1 g1
  exact ⟨⟨g2.1, by have := g2.2; omega⟩, by omega, ⟨g3.1, by have := g3.2; omega⟩, by omega, by omega⟩
theorem back_nd {n : Nat} {x : Tp} (h : BackOk n x) : (((namesL x).map fun k => (k, kvOf x k)).map (·.1)).Nodup := by
 rw [List.map_map]
 show ((namesL x).map fun k => k).Nodup
 rw [List.map_id']
 exact (namesL_perm x).nodup_iff.2 h.ok.nd
theorem back_kv {n : Nat} {x : Tp} (h : BackOk n x) : ∀ p ∈ (namesL x).map fun k => (k, kvOf x k), word p.1 = true ∧ p.2.2.2 = p.1 ∧ (0 ≤ p.2.1 ∧ p.2.1 ≤ great) ∧ (0 ≤ p.2.2.1 ∧ p.2.2.1 < x.en) := fun p hp => by
 obtain ⟨k, hk, rfl⟩ := List.mem_map.1 hp
 exact h.ok.kv _ (kvOf_mem hk)
/-- It may be published to as the first one. -/
theorem back_load {n : Nat} {x : Tp} (h : BackOk n x) : BackOk n ⟨x.name, x.low, x.en, (namesL x).map fun k => (k, kvOf x k), x.recs⟩ where
 ok := { name := h.ok.name, low := h.ok.low, nd := back_nd h, kv := back_kv h, rc := h.ok.rc, so := h.ok.so }
 kn := by show ((namesL x).map _).length ≤ n; rw [List.length_map, namesL_len]; exact h.kn
 rn := h.rn
 en := h.en
theorem back_trim {n : Nat} {x : Tp} (h : BackOk n x) (k : Int) (h0 : 0 ≤ k) : BackOk n (trimT x k).1 := by
 have hl := h.ok.low
 unfold trimT
 split
 ·exact h
 ·rename_i hk
  split
  ·rename_i hk2
   refine ⟨{ name := h.ok.name, low := ⟨h0, by show k ≤ x.en; omega, hl.2.2⟩, nd := h.ok.nd, kv := h.ok.kv, rc := fun r hr => ?_, so := ?_ }, h.kn, ?_, h.en⟩
   ·have hr' : r ∈ x.recs.drop (atN x.recs k) := hr
    obtain ⟨g1, g2, g3, g4⟩ := h.ok.rc r (List.mem_of_mem_drop hr')
    refine ⟨g1, g2, g3, ?_⟩
    obtain ⟨i, hi, rfl⟩ := List.mem_iff_getElem.1 hr'
    show k ≤ ((x.recs.drop (atN x.recs k))[i]).off
    rw [List.getElem_drop]
    exact atN_ge h.ok.so (by omega) _
   ·exact sorted_sub h.ok.so (List.drop_sublist _ _)
   ·show (x.recs.drop _).length ≤ n; rw [List.length_drop]; have := h.rn; omega
  ·exact h
end C17
