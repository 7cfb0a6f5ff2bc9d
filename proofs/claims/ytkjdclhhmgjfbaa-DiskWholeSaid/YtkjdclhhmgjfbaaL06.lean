import Derived.Test.YtkjdclhhmgjfbaaL05
import Derived.Test.YtkjdclhhmgjfbaaAmE
/-! Chapter 4, the plain law: a disk that never goes down. -/
open Go Go.Proofs Go.Am
set_option linter.unusedVariables false
set_option linter.unusedSimpArgs false
set_option autoImplicit false
namespace C04
/-- The files by their names. -/
structure WR (s : DS) (nms bys : List ByteArray) (i : Nat) : Prop where
  up : s.down = false
  fu : s.fuse = -1
  rm : s.room = 1000000000
  ln : bys.length = nms.length
  pm : (s.dir.map (·.1)).Perm nms
  by_ : ∀ (k : Nat) (nm b : ByteArray), nms[k]? = some nm → bys[k]? = some b → ∃ j, gets s.dir nm = some j ∧ s.now j = b.data.toList
  us : s.used ≤ 1000 * i
  dl : s.dir.length ≤ i
theorem act_un {s : DS} {t : DS → DS} (hf : s.fuse = -1) : s.act t = (0, t s) := by
  rw [act_ok (by rw [hf]; decide)]
  have : ({ s with fuse := tick s.fuse } : DS) = s := by
    rw [hf]
    show ({ s with fuse := -1 } : DS) = s
    rw [← hf]
  rw [this]
theorem run_used2 {s : DS} {e : Ak} (hg : Gd s.files.length s.dir) (he : e.ok s) (hb : ∀ nm i tx, e = .ap nm i tx → tx.size ≤ 1000) : (e.run s).used ≤ s.used + 1000 := by
  have hr : (e.run { s with room := ((s.used + 1000 : Nat) : Int) }).used = (e.run s).used := by cases e <;> rfl
  have h := run_used (s := { s with room := ((s.used + 1000 : Nat) : Int) }) (e := e) hg (by
    cases e with
    | ap nm i tx =>
      refine ⟨he.1, ?_⟩
      have := hb nm i tx rfl
      show ((s.used : Nat) : Int) + tx.size ≤ ((s.used + 1000 : Nat) : Int)
      omega
    | _ => exact he) (by show ((s.used : Nat) : Int) ≤ ((s.used + 1000 : Nat) : Int); omega)
  rw [hr] at h
  have h2 : (((e.run s).used : Nat) : Int) ≤ ((s.used + 1000 : Nat) : Int) := h
  omega
section
variable {s z : DS} {nms bys : List ByteArray} {i : Nat} {a b : ByteArray} {c : Int}
theorem WR.nd (h : WR s nms bys i) (hg : Gd s.files.length s.dir) : nms.Nodup := (h.pm.nodup_iff).1 hg.srt.nd
theorem WR.no (h : WR s nms bys i) : gets s.dir a = none ↔ a ∉ nms := by
  rw [← h.pm.mem_iff, List.mem_map, gets_none]
  exact ⟨fun h ⟨p, hp, e⟩ => h p hp e, fun h p hp e => h ⟨p, hp, e⟩⟩
theorem WR.mono (h : WR s nms bys i) : WR s nms bys (i + 1) := { h with us := by have := h.us; omega, dl := Nat.le_succ_of_le h.dl }
theorem WR.at (h : WR s nms bys i) {k : Nat} (hk : k < nms.length) : ∃ j b, bys[k]? = some b ∧ gets s.dir nms[k] = some j ∧ s.now j = b.data.toList := by
  have hb : bys[k]? = some (bys[k]'(by rw [h.ln]; exact hk)) := List.getElem?_eq_getElem _
  obtain ⟨j, h1, h2⟩ := h.by_ k nms[k] _ (List.getElem?_eq_getElem hk) hb
  exact ⟨j, _, hb, h1, h2⟩
theorem getD_ne {fs : List Fl} {i j : Nat} {F : Fl} (h : j ≠ i) : (fs.set i F).getD j fl0 = fs.getD j fl0 := by
  rw [List.getD_eq_getElem?_getD, List.getElem?_set_ne (Ne.symm h), ← List.getD_eq_getElem?_getD]
theorem getD_self {fs : List Fl} {i : Nat} {F : Fl} (h : i < fs.length) : (fs.set i F).getD i fl0 = F := by
  rw [List.getD_eq_getElem?_getD, List.getElem?_set_self h]; rfl
theorem gets_inj (hg : Gd s.files.length s.dir) {j : Nat} (h1 : gets s.dir a = some j) (h2 : gets s.dir b = some j) : a = b := by
  have := snd_inj hg.ni ((gets_iff hg.srt.nd).1 h1) ((gets_iff hg.srt.nd).1 h2) rfl
  exact congrArg Prod.fst this
theorem gets_lt (hg : Gd s.files.length s.dir) {j : Nat} (h1 : gets s.dir a = some j) : j < s.files.length := (hg.nm _ ((gets_iff hg.srt.nd).1 h1)).2.2
/-- One file has other bytes. -/
theorem WR.turn (h : WR s nms bys i) (hg : Gd s.files.length s.dir) {k j : Nat} {F : Fl} {b' : ByteArray} (hk : k < nms.length) (hj : gets s.dir nms[k] = some j) (hF : F.now = b'.data.toList) (hu : ({ s with files := s.files.set j F } : DS).used ≤ s.used + 1000) : WR { s with files := s.files.set j F } nms (bys.set k b') (i + 1) where
  up := h.up
  fu := h.fu
  rm := h.rm
  ln := by rw [List.length_set]; exact h.ln
  pm := h.pm
  us := by have := h.us; omega
  dl := Nat.le_succ_of_le h.dl
  by_ := fun k' nm b h1 h2 => by
    by_cases e : k = k'
    · subst e
      rw [List.getElem?_set_self (by rw [h.ln]; exact hk)] at h2
      obtain rfl := Option.some.inj h2
      rw [List.getElem?_eq_getElem hk] at h1
      obtain rfl := Option.some.inj h1
      exact ⟨j, hj, by show ((s.files.set j F).getD j fl0).now = _; rw [getD_self (gets_lt hg hj)]; exact hF⟩
    · rw [List.getElem?_set_ne e] at h2
      obtain ⟨j', h3, h4⟩ := h.by_ k' nm b h1 h2
      refine ⟨j', h3, ?_⟩
      show ((s.files.set j F).getD j' fl0).now = _
      rw [getD_ne fun e2 => ?_]
      · exact h4
      · subst e2
        have e3 := gets_inj hg hj h3
        obtain ⟨hk', rfl⟩ := List.getElem?_eq_some_iff.1 h1
        exact e ((List.getElem_inj (h.nd hg)).1 e3)
theorem did_now (F : Fl) (a : A) : (F.did a).now = a.run F.now a.units := rfl
theorem w_create (h : WR s nms bys i) (hg : Gd s.files.length s.dir) (hi : i < 200) (e : s.create a = (c, z)) : (c = 0 ↔ a ∉ nms ∧ okN a = true) ∧ (c = 0 → WR z (nms ++ [a]) (bys ++ [⟨#[]⟩]) (i + 1)) ∧ (c ≠ 0 → z = s) := by
  rw [create_go] at e
  unfold DS.pcreate at e
  have hd := h.dl
  by_cases hk : okN a = true
  · rw [if_neg (by simp [hk])] at e
    by_cases hm : a ∈ nms
    · have : gets s.dir a ≠ none := fun h2 => (h.no.1 h2) hm
      rw [if_pos (Option.isSome_iff_ne_none.2 this), go_err h.up] at e
      obtain ⟨rfl, rfl⟩ := Prod.mk.inj e
      exact ⟨⟨fun h => (by cases h), fun h => absurd hm h.1⟩, fun h => (by cases h), fun _ => rfl⟩
    · have hn := h.no.2 hm
      rw [if_neg (by rw [hn]; exact Bool.false_ne_true), if_neg (by omega), go_ok h.up, act_un h.fu] at e
      obtain ⟨rfl, rfl⟩ := Prod.mk.inj e
      refine ⟨⟨fun _ => ⟨hm, hk⟩, fun _ => rfl⟩, fun _ => ?_, fun h => absurd rfl h⟩
      have hrd : (Ak.run (.mk a) s) = { s with files := s.files ++ [fl0], dir := insS s.dir a s.files.length, since := s.since ++ [.mk a s.files.length] } := rfl
      have hnw : ∀ j, j < s.files.length → ((s.files ++ [fl0]).getD j fl0) = s.files.getD j fl0 := fun j hj => by
        rw [List.getD_eq_getElem?_getD, List.getElem?_append_left hj, ← List.getD_eq_getElem?_getD]
      have hgi : ∀ nm j, gets s.dir nm = some j → gets (insS s.dir a s.files.length) nm = some j := fun nm j h1 => by
        rw [gets_iff (insS_srtd hg.srt a _).nd, mem_insS]
        exact .inr ⟨(gets_iff hg.srt.nd).1 h1, fun e => by
          have e' : nm = a := e
          rw [e'] at h1; rw [hn] at h1; cases h1⟩
      refine ⟨h.up, h.fu, h.rm, by simp [h.ln], ?_, fun k nm b h1 h2 => ?_, ?_, ?_⟩
      · show ((insS s.dir a s.files.length).map (·.1)).Perm _
        refine ((insS_perm _ _ _).map _).trans ?_
        rw [List.map_cons, delS_no hn]
        exact (h.pm.cons a).trans (List.perm_append_singleton a nms).symm
      · rcases Nat.lt_or_ge k nms.length with hlt | hge
        · rw [List.getElem?_append_left hlt] at h1
          rw [List.getElem?_append_left (by rw [h.ln]; exact hlt)] at h2
          obtain ⟨j, h3, h4⟩ := h.by_ k nm b h1 h2
          exact ⟨j, hgi nm j h3, by show ((s.files ++ [fl0]).getD j fl0).now = _; rw [hnw j (gets_lt hg h3)]; exact h4⟩
        · have hlt := (List.getElem?_eq_some_iff.1 h1).1
          rw [List.length_append, List.length_singleton] at hlt
          have hke : k = nms.length := by omega
          subst hke
          rw [List.getElem?_append_right (Nat.le_refl _), Nat.sub_self] at h1
          rw [← h.ln, List.getElem?_append_right (Nat.le_refl _), Nat.sub_self] at h2
          obtain rfl := Option.some.inj h1
          obtain rfl := Option.some.inj h2
          refine ⟨s.files.length, ?_, ?_⟩
          · show gets (insS s.dir a s.files.length) a = _
            rw [gets_iff (insS_srtd hg.srt a _).nd, mem_insS]; exact .inl rfl
          · show ((s.files ++ [fl0]).getD s.files.length fl0).now = _
            rw [List.getD_eq_getElem?_getD, List.getElem?_append_right (Nat.le_refl _), Nat.sub_self]; rfl
      · have := run_used2 (e := .mk a) hg ⟨hk, hn, by omega⟩ (fun nm i tx h => by cases h)
        have := h.us
        omega
      · show (insS s.dir a s.files.length).length ≤ _
        rw [insS_len]
        have := delS_len s.dir a
        omega
  · rw [if_pos (by simpa using hk), go_err h.up] at e
    obtain ⟨rfl, rfl⟩ := Prod.mk.inj e
    exact ⟨⟨fun h => (by cases h), fun h => absurd h.2 hk⟩, fun h => (by cases h), fun _ => rfl⟩
theorem w_no {g : Nat → Except Int Ak} (h : WR s nms bys i) (hm : a ∉ nms) (e : s.go (s.onp a g) = (c, z)) : c = 7 ∧ z = s := by
  unfold DS.onp at e
  rw [h.no.2 hm] at e
  dsimp only at e
  rw [go_err h.up] at e
  obtain ⟨rfl, rfl⟩ := Prod.mk.inj e
  exact ⟨rfl, rfl⟩
theorem w_yes {g : Nat → Except Int Ak} {j : Nat} (hj : gets s.dir a = some j) (e : s.go (s.onp a g) = (c, z)) : s.go (g j) = (c, z) := by
  unfold DS.onp at e
  rw [hj] at e
  exact e
theorem ba_now {l : List UInt8} {x y : ByteArray} (h : l = x.data.toList) : l ++ y.data.toList.take y.size = (x ++ y).data.toList := by
  rw [take_all, h, ByteArray.data_append, Array.toList_append]
theorem w_append (h : WR s nms bys i) (hg : Gd s.files.length s.dir) (hi : i < 200) (hb : b.size ≤ 1000) (e : s.append a b = (c, z)) : (a ∉ nms → c = 7 ∧ z = s) ∧ ∀ k b0, nms[k]? = some a → bys[k]? = some b0 → c = 0 ∧ WR z nms (bys.set k (b0 ++ b)) (i + 1) := by
  rw [append_go] at e
  refine ⟨fun hm => w_no h hm e, fun k b0 h1 h2 => ?_⟩
  obtain ⟨j, h3, h4⟩ := h.by_ k a b0 h1 h2
  obtain ⟨hk, rfl⟩ := List.getElem?_eq_some_iff.1 h1
  have e := w_yes h3 e
  have hu := h.us
  have hnr : ¬ (s.room - (s.used : Nat) < b.size) := by rw [h.rm]; omega
  rw [if_neg hnr, go_ok h.up, act_un h.fu] at e
  obtain ⟨rfl, rfl⟩ := Prod.mk.inj e
  refine ⟨rfl, h.turn hg hk h3 ?_ (run_used2 (e := .ap nms[k] j b) hg ⟨h3, by rw [h.rm]; omega⟩ fun nm i tx h => by cases h; exact hb)⟩
  rw [did_now]
  exact ba_now h4
theorem w_sync (h : WR s nms bys i) (hg : Gd s.files.length s.dir) (e : s.sync a = (c, z)) : WR z nms bys (i + 1) := by
  rw [sync_go] at e
  by_cases hm : a ∈ nms
  · obtain ⟨k, hk, rfl⟩ := List.mem_iff_getElem.1 hm
    obtain ⟨j, b0, h2, h3, h4⟩ := h.at hk
    have e := w_yes h3 e
    rw [go_ok h.up, act_un h.fu] at e
    obtain ⟨rfl, rfl⟩ := Prod.mk.inj e
    have := h.turn hg hk h3 (F := ⟨s.now j, s.now j, []⟩) h4 (run_used2 (e := .sy nms[k] j) hg h3 fun nm i tx h => by cases h)
    rwa [set_self h2] at this
  · rw [(w_no h hm e).2]; exact h.mono
theorem w_dirsync (h : WR s nms bys i) (e : s.dirsync = (c, z)) : WR z nms bys (i + 1) := by
  rw [dirsync_go, go_ok h.up, act_un h.fu] at e
  obtain ⟨rfl, rfl⟩ := Prod.mk.inj e
  have := h.mono
  exact { this with up := this.up }
theorem w_trunc {n : Int} (h : WR s nms bys i) (hg : Gd s.files.length s.dir) (e : s.trunc a n = (c, z)) : (c ≠ 0 → z = s) ∧ (c = 0 → ∃ k b0, nms[k]? = some a ∧ bys[k]? = some b0 ∧ 0 ≤ n ∧ n ≤ b0.size ∧ WR z nms (bys.set k (b0.extract 0 n.toNat)) (i + 1)) := by
  rw [trunc_go] at e
  by_cases hm : a ∈ nms
  · obtain ⟨k, hk, rfl⟩ := List.mem_iff_getElem.1 hm
    obtain ⟨j, b0, h2, h3, h4⟩ := h.at hk
    have e := w_yes h3 e
    have hl : (s.now j).length = b0.size := by rw [h4]; exact Array.length_toList
    split at e
    · rw [go_err h.up] at e
      obtain ⟨rfl, rfl⟩ := Prod.mk.inj e
      exact ⟨fun _ => rfl, fun h => by cases h⟩
    · rename_i hn
      rw [hl] at hn
      rw [go_ok h.up, act_un h.fu] at e
      obtain ⟨rfl, rfl⟩ := Prod.mk.inj e
      refine ⟨fun h => absurd rfl h, fun _ => ⟨k, b0, List.getElem?_eq_getElem hk, h2, by omega, by omega, h.turn hg hk h3 ?_ (run_used2 (e := .cut nms[k] j n.toNat) hg ⟨h3, by rw [hl]; omega⟩ fun nm i tx h => by cases h)⟩⟩
      rw [did_now, extract_take]
      show (s.now j).take n.toNat = _
      rw [h4]
  · obtain ⟨rfl, rfl⟩ := w_no h hm e
    exact ⟨fun _ => rfl, fun h => by cases h⟩
theorem filter_mid {l1 l2 : List ByteArray} {x : ByteArray} (h : ∀ y ∈ l1 ++ l2, y ≠ x) : (l1 ++ x :: l2).filter (fun y => decide (y ≠ x)) = l1 ++ l2 := by
  rw [List.filter_append, List.filter_cons_of_neg (by simp), ← List.filter_append]
  exact List.filter_eq_self.2 fun y hy => by simpa using h y hy
theorem w_remove (h : WR s nms bys i) (hg : Gd s.files.length s.dir) (e : s.remove a = (c, z)) : (a ∉ nms → c = 7 ∧ z = s) ∧ ∀ k, nms[k]? = some a → c = 0 ∧ WR z (nms.take k ++ nms.drop (k + 1)) (bys.take k ++ bys.drop (k + 1)) (i + 1) := by
  rw [remove_go] at e
  refine ⟨fun hm => w_no h hm e, fun k h1 => ?_⟩
  obtain ⟨hk, rfl⟩ := List.getElem?_eq_some_iff.1 h1
  obtain ⟨j, b0, h2, h3, h4⟩ := h.at hk
  have e := w_yes h3 e
  rw [go_ok h.up, act_un h.fu] at e
  obtain ⟨rfl, rfl⟩ := Prod.mk.inj e
  have hnd := h.nd hg
  have hne : ∀ nm ∈ nms.take k ++ nms.drop (k + 1), nm ≠ nms[k] := fun nm hm e => by
    have hs : nms = nms.take k ++ nms[k] :: nms.drop (k + 1) := by rw [← List.drop_eq_getElem_cons hk, List.take_append_drop]
    rw [hs] at hnd
    have := (List.perm_middle.nodup_iff).1 hnd
    exact (List.nodup_cons.1 this).1 (e ▸ hm)
  have her : ∀ {α : Type} (l : List α) (k' : Nat), (l.take k ++ l.drop (k + 1))[k']? = if k' < min k l.length then l[k']? else l[k' - min k l.length + (k + 1)]? := fun l k' => by
    rw [List.getElem?_append, List.length_take]
    split
    · rename_i hlt
      rw [List.getElem?_take_of_lt (by omega)]
    · rw [List.getElem?_drop]; congr 1; omega
  refine ⟨rfl, h.up, h.fu, h.rm, ?_, ?_, fun k' nm b h5 h6 => ?_, ?_, ?_⟩
  · rw [List.length_append, List.length_append, List.length_take, List.length_take, List.length_drop, List.length_drop, h.ln]
  · show ((delS s.dir nms[k]).map (·.1)).Perm _
    have h7 : (delS s.dir nms[k]).map (·.1) = (s.dir.map (·.1)).filter fun x => decide (x ≠ nms[k]) := by
      unfold delS
      rw [List.filter_map]; rfl
    rw [h7]
    refine (h.pm.filter _).trans ?_
    have hs : nms = nms.take k ++ nms[k] :: nms.drop (k + 1) := by rw [← List.drop_eq_getElem_cons hk, List.take_append_drop]
    have h8 := filter_mid hne
    rw [← hs] at h8
    rw [h8]
  · have h9 : nm ∈ nms.take k ++ nms.drop (k + 1) := List.mem_of_getElem? h5
    rw [her] at h5 h6
    rw [h.ln] at h6
    have key : ∃ q : Nat, nms[q]? = some nm ∧ bys[q]? = some b := by
      split at h5
      · rename_i hlt; rw [if_pos hlt] at h6; exact ⟨_, h5, h6⟩
      · rename_i hlt; rw [if_neg hlt] at h6; exact ⟨_, h5, h6⟩
    obtain ⟨q, h10, h11⟩ := key
    obtain ⟨j', h12, h13⟩ := h.by_ q nm b h10 h11
    refine ⟨j', ?_, h13⟩
    show gets (delS s.dir nms[k]) nm = _
    rw [gets_iff (delS_srtd hg.srt _).nd, mem_delS]
    exact ⟨(gets_iff hg.srt.nd).1 h12, hne nm h9⟩
  · have := run_used2 (e := .rm nms[k] j) hg h3 (fun nm i tx h => by cases h)
    have := h.us
    omega
  · show (delS s.dir nms[k]).length ≤ _
    have := delS_len s.dir nms[k]
    have := h.dl
    omega
theorem w_list (h : WR s nms bys i) : s.list = (s.dir.map (·.1), 0) ∧ s.dir.length = nms.length := by
  refine ⟨?_, by have := h.pm.length_eq; rwa [List.length_map] at this⟩
  unfold DS.list
  rw [if_neg (by rw [h.up]; exact Bool.false_ne_true)]
theorem w_read (h : WR s nms bys i) {k : Nat} {b : ByteArray} (h1 : nms[k]? = some a) (h2 : bys[k]? = some b) : s.read a = (b, 0) := by
  obtain ⟨j, h3, h4⟩ := h.by_ k a b h1 h2
  unfold DS.read
  rw [if_neg (by rw [h.up]; exact Bool.false_ne_true), h3]
  show ((⟨(s.now j).toArray⟩ : ByteArray), (0 : Int)) = _
  rw [h4]
end
end C04
