import Derived.Test.YtkjdclhhmgjfbaaW04
import Derived.Test.YtkjdclhhmgjfbaaAmE
/-! Chapter 4, the plain law: a fuse. -/
open Go Go.Proofs Go.Am
set_option linter.unusedVariables false
set_option linter.unusedSimpArgs false
set_option autoImplicit false
namespace C04
theorem run_fd (s : DS) (e : Ak) (f : Int) (d : Bool) : e.run { s with fuse := f, down := d } = { e.run s with fuse := f, down := d } := by cases e <;> rfl
theorem onp_eq {s t : DS} (hd : t.dir = s.dir) {nm : ByteArray} {f g : Nat → Except Int Ak} (h : ∀ i, f i = g i) : t.onp nm f = s.onp nm g := by
  unfold DS.onp
  rw [hd]
  cases gets s.dir nm <;> simp [h]
theorem plan_eq {s t : DS} (hr : t.room = s.room) (hd : t.dir = s.dir) (hf : t.files = s.files) (o : De) : t.plan o = s.plan o := by
  have hn : ∀ i, t.now i = s.now i := fun i => by unfold DS.now; rw [hf]
  have hu : t.used = s.used := by unfold DS.used; rw [hd]; simp only [hn]
  unfold DS.plan
  split
  · unfold DS.pcreate; rw [hd]
  · split
    · exact onp_eq hd fun i => by rw [hr, hu]
    · split
      · exact onp_eq hd fun i => rfl
      · split
        · exact onp_eq hd fun i => rfl
        · split
          · exact onp_eq hd fun i => by rw [hn]
          · split
            · exact onp_eq hd fun i => rfl
            · rfl
/-- What is done in the files is small; the names are few. -/
structure Sm (s : DS) (n : Nat) : Prop where
  un : ∀ F ∈ s.files, ∀ a ∈ F.acts, a.units ≤ 1000
  nd : s.dir.length ≤ n
theorem run_sm {s : DS} {n : Nat} {e : Ak} (hg : Gd s.files.length s.dir) (he : e.ok s) (h : Sm s n) (hb : ∀ nm i tx, e = .ap nm i tx → tx.size ≤ 1000) : Sm (e.run s) (n + 1) := by
  have hset : ∀ (i : Nat) (F : Fl), (∀ a ∈ F.acts, a.units ≤ 1000) → ∀ F' ∈ s.files.set i F, ∀ a ∈ F'.acts, a.units ≤ 1000 := fun i F hF F' hF' => by
    rcases List.mem_or_eq_of_mem_set hF' with h1 | rfl
    · exact h.un F' h1
    · exact hF
  have hget : ∀ i, ∀ a ∈ (s.files.getD i fl0).acts, a.units ≤ 1000 := fun i a ha => by
    rw [List.getD_eq_getElem?_getD] at ha
    cases hi : s.files[i]? with
    | none => rw [hi] at ha; cases ha
    | some F => rw [hi] at ha; exact h.un F (List.mem_of_getElem? hi) a ha
  have hdid : ∀ i (a : A), a.units ≤ 1000 → ∀ b ∈ ((s.files.getD i fl0).did a).acts, b.units ≤ 1000 := fun i a ha b hb => by
    rcases List.mem_append.1 hb with h1 | h1
    · exact hget i b h1
    · rw [List.mem_singleton.1 h1]; exact ha
  have hd := h.nd
  cases e with
  | mk nm =>
    refine ⟨fun F hF => ?_, ?_⟩
    · rcases List.mem_append.1 (show F ∈ s.files ++ [fl0] from hF) with h1 | h1
      · exact h.un F h1
      · rw [List.mem_singleton.1 h1]; intro a ha; cases ha
    · show (insS s.dir nm s.files.length).length ≤ _
      rw [insS_len]
      have := delS_len s.dir nm
      omega
  | ap nm i tx => exact ⟨hset i _ (hdid i _ (hb nm i tx rfl)), Nat.le_succ_of_le hd⟩
  | sy nm i => exact ⟨hset i _ (fun a ha => by cases ha), Nat.le_succ_of_le hd⟩
  | mv a b i =>
    refine ⟨h.un, ?_⟩
    show (insS (delS s.dir a) b _).length ≤ _
    rw [insS_len]
    have := delS_len (delS s.dir a) b
    have := delS_len s.dir a
    omega
  | cut nm i k => exact ⟨hset i _ (hdid i _ (by decide : (1 : Nat) ≤ 1000)), Nat.le_succ_of_le hd⟩
  | rm a i =>
    refine ⟨h.un, ?_⟩
    show (delS s.dir a).length ≤ _
    have := delS_len s.dir a
    omega
  | ds => exact ⟨h.un, Nat.le_succ_of_le hd⟩
theorem plan_ap {s : DS} {o : De} {nm tx : ByteArray} {i : Nat} (h : s.plan o = .ok (.ap nm i tx)) : tx = o.b := by
  unfold DS.plan at h
  split at h
  · unfold DS.pcreate at h
    split at h
    · cases h
    · split at h
      · cases h
      · split at h <;> cases h
  · split at h
    · unfold DS.pappend DS.onp at h
      split at h
      · cases h
      · split at h <;> cases h
        rfl
    · split at h
      · unfold DS.psync DS.onp at h
        split at h <;> cases h
      · split at h
        · unfold DS.prename DS.onp at h
          split at h
          · cases h
          · split at h <;> cases h
        · split at h
          · unfold DS.ptrunc DS.onp at h
            split at h
            · cases h
            · dsimp only at h
              split at h <;> cases h
          · split at h
            · unfold DS.premove DS.onp at h
              split at h <;> cases h
            · cases h
/-- Two disks, one of them with a fuse. -/
structure FR (a b : DS) (fuse done : Int) (i : Nat) : Prop where
  eb : b = { a with fuse := -1, down := false }
  up : a.down = false → a.fuse = fuse - done
  dn : a.down = true → done = fuse
  le : 0 ≤ done ∧ done ≤ fuse
  sm : Sm a i
theorem FR.step {a b z : DS} {fuse done c : Int} {i : Nat} {o : De} (h : FR a b fuse done i) (hg : Gd a.files.length a.dir) (ho : o.b.size ≤ 1000) (e : a.one o = (c, z)) :
    ((c = 9 ∧ a.down = true) ∨ (c ≠ 9 ∧ a.down = false) ∨ fuse ≤ done) ∧ (c ≠ 0 → FR z b fuse done (i + 1)) ∧ (c = 0 → ∃ zb, b.one o = (0, zb) ∧ FR z zb fuse (done + 1) (i + 1)) := by
  have hsm : ∀ {s : DS}, Sm s i → Sm s (i + 1) := fun h => ⟨h.un, Nat.le_succ_of_le h.nd⟩
  have hp := plan_right a o
  have hpb : b.plan o = a.plan o := plan_eq (by rw [h.eb]) (by rw [h.eb]) (by rw [h.eb]) o
  have hle := h.le
  rw [one_go] at e
  cases hd : a.down
  · have hf := h.up hd
    cases hpl : a.plan o with
    | error k =>
      rw [hpl, go_err hd] at e
      obtain ⟨rfl, rfl⟩ := Prod.mk.inj e
      have hk := hp.er k hpl
      exact ⟨.inr (.inl ⟨hk.2, rfl⟩), fun _ => ⟨h.eb, h.up, h.dn, h.le, hsm h.sm⟩, fun h0 => absurd h0 hk.1⟩
    | ok p =>
      rw [hpl, go_ok hd] at e
      by_cases hz : a.fuse = 0
      · rw [act_no hz] at e
        obtain ⟨rfl, rfl⟩ := Prod.mk.inj e
        exact ⟨.inr (.inr (by omega)), fun _ => ⟨(by rw [h.eb]), (fun h => by cases h), (fun _ => by omega), h.le, hsm ⟨h.sm.un, h.sm.nd⟩⟩, fun h0 => by cases h0⟩
      · rw [act_ok hz] at e
        obtain ⟨rfl, rfl⟩ := Prod.mk.inj e
        refine ⟨.inr (.inl ⟨by decide, rfl⟩), fun h0 => absurd rfl h0, fun _ => ⟨p.run { b with fuse := -1 }, ?_, ?_⟩⟩
        · have hbd : b.down = false := by rw [h.eb]
          have hbf : b.fuse = -1 := by rw [h.eb]
          rw [one_go, hpb, hpl, go_ok hbd, act_ok (by rw [hbf]; decide), hbf]; rfl
        · have hr : p.run { a with fuse := tick a.fuse } = { p.run a with fuse := tick a.fuse, down := a.down } := run_fd a p (tick a.fuse) a.down
          refine ⟨?_, fun _ => ?_, fun h2 => ?_, by omega, run_sm (s := { a with fuse := tick a.fuse }) hg (Ak.tick (hp.ok p hpl) _) ⟨h.sm.un, h.sm.nd⟩ fun nm j tx e2 => by subst e2; rw [plan_ap hpl]; exact ho⟩
          · have hb2 : ({ b with fuse := -1 } : DS) = { a with fuse := -1, down := false } := by rw [h.eb]
            rw [hb2, run_fd, hr]
          · rw [hr]
            show tick a.fuse = _
            unfold tick
            rw [if_pos (by omega)]; omega
          · rw [hr] at h2
            have h3 : a.down = true := h2
            rw [hd] at h3; cases h3
  · have hc : a.go (a.plan o) = (9, a) := by cases a.plan o <;> simp [DS.go, hd]
    rw [hc] at e
    obtain ⟨rfl, rfl⟩ := Prod.mk.inj e
    exact ⟨.inl ⟨rfl, rfl⟩, fun _ => ⟨h.eb, h.up, h.dn, h.le, hsm h.sm⟩, fun h0 => by cases h0⟩
theorem keepR_all : ∀ {l : List UInt8} {la : List A} {now : List UInt8} {n : Int}, okA l la now → ((la.map A.units).sum : Int) ≤ n → keepR l la n = now
  | l, [], now, n, h, _ => h.1
  | l, a :: r, now, n, h, hn => by
    rw [List.map_cons, List.sum_cons] at hn
    rw [keepR_cons]
    by_cases h0 : n ≤ 0
    · rw [if_pos h0]
      have hz : a.units = 0 ∧ (r.map A.units).sum = 0 := by omega
      have := keepR_all (n := 0) h.2.2 (by omega)
      rw [hz.1, keepR_zero (Int.le_refl 0)] at this
      rw [← this]
      cases a with
      | app s => simp [A.run]
      | cut m => simp [A.units] at hz
    · rw [if_neg h0, if_neg (by omega)]
      exact keepR_all h.2.2 (by omega)
theorem okC_all {n : Nat} : ∀ {l : Dir} {cs : List Dc} {now : Dir}, okC n l cs now → runAll l cs = now
  | l, [], now, h => h.1
  | l, c :: r, now, h => show runAll (c.run l) r = now from okC_all h.2.2.2
def K60 : List Int := List.replicate 60 1000000
theorem sum_units {la : List A} (h : ∀ a ∈ la, a.units ≤ 1000) : (la.map A.units).sum ≤ la.length * 1000 := sum_le_of A.units 1000 la h
/-- A crash that keeps all. -/
theorem fuse_fin {M : Mem} {O W : Nat → Prop} {d n : Nat} {s : DS} (hA : DiskAt M d n s O W) (hn : n ≤ 100) (hs : Sm s 50) : (s.crash 1000 K60).list = (s.dir.map (·.1), 0) ∧ ∀ nm i, gets s.dir nm = some i → (s.crash 1000 K60).read nm = (⟨(s.now i).toArray⟩, 0) := by
  obtain ⟨rf, rl, adr, chs, hD⟩ := hA
  have hns := hD.ns
  have hx : runAll s.lst (s.since.take (1000 : Int).toNat) = s.dir := by
    rw [List.take_of_length_le (by have : (1000 : Int).toNat = 1000 := rfl; omega)]
    exact okC_all hD.oc
  have hgd := (okC_gd hD.oc).2
  refine ⟨?_, fun nm i hg => ?_⟩
  · unfold DS.list
    rw [if_neg (by exact Bool.false_ne_true)]
    show ((runAll s.lst (s.since.take (1000 : Int).toNat)).map _, _) = _
    rw [hx]
  · obtain ⟨p, hp, hpe⟩ := List.mem_iff_getElem.1 ((gets_iff hgd.srt.nd).1 hg)
    have hi := (hD.at hg).1
    have hk := keepI_at (fs := s.files) (ks := K60) hgd.ni hp (by rw [hpe]; exact hi) s.dir.length hp
    rw [hpe] at hk
    have hpl : p < 60 := by have := hs.nd; omega
    have hK : K60.getD p 0 = 1000000 := by
      unfold K60
      rw [List.getD_eq_getElem?_getD, List.getElem?_replicate, if_pos hpl]; rfl
    have hm : s.files.getD i fl0 ∈ s.files := List.mem_of_getElem? (getD_at hi)
    have hna := hD.na _ hm
    have hu := sum_units (hs.un _ hm)
    have hkr : keepR (s.files.getD i fl0).lasts (s.files.getD i fl0).acts 1000000 = (s.files.getD i fl0).now := keepR_all (hD.at hg).2.ok (by omega)
    have hg' : gets (s.crash 1000 K60).dir nm = some i := by
      show gets (runAll s.lst (s.since.take (1000 : Int).toNat)) nm = _
      rw [hx]; exact hg
    unfold DS.read
    rw [show (s.crash 1000 K60).down = false from rfl, hg']
    have hnow : (s.crash 1000 K60).now i = s.now i := by
      show ((keepI s.files (runAll s.lst (s.since.take (1000 : Int).toNat)) K60 (runAll s.lst (s.since.take (1000 : Int).toNat)).length).getD i fl0).now = _
      rw [hx, hk, hK]
      exact hkr
    show ((⟨((s.crash 1000 K60).now i).toArray⟩ : ByteArray), (0 : Int)) = _
    rw [hnow]
end C04
