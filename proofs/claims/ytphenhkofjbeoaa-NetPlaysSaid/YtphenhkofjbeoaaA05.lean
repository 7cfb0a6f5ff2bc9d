import Derived.Test.YtphenhkofjbeoaaAm45
import Derived.Test.YtphenhkofjbeoaaProg
/-! Chapter 5: the net: what its functions compute. -/
open Go Go.Proofs Go.Am
set_option linter.unusedVariables false
set_option linter.unusedSimpArgs false
set_option autoImplicit false
namespace C05
theorem ag3 : aggT Try.prog 3 = some false := by kernel_rfl
theorem fo48_0 : fo Try.prog 48 0 = some (0, 1) := by kernel_rfl
theorem sz3 : sizeT Try.prog 3 = some 1 := by kernel_rfl
theorem mixed : Try.prog.follows .mixedOrders = true := by kernel_rfl
def int (n : Int) : AVal := .raw (.int .i64 n)
def str (s : ByteArray) : AVal := .raw (.string s)
def ptr (b : Nat) : AVal := .raw (.pointer (some ⟨b, 0, none⟩))
def bool (b : Bool) : AVal := .raw (.bool b)
def rsl (b n c : Nat) : AVal := .raw (.slice (some ⟨b, 0, none⟩) n c)
abbrev K2 := Int × Int
/-- What lies on a link: a slice, nothing behind it but empty texts. -/
def Sl (M : Mem) (v : Value) (ts : List ByteArray) : Prop := (v = .slice none 0 0 ∧ ts = []) ∨ ∃ b k, v = .slice (some ⟨b, 0, none⟩) ts.length (ts.length + k) ∧ M b = some (.cells ((ts ++ List.replicate k "".toUTF8).map str))
def Slb (M : Mem) (v : Value) (ts : List ByteArray) : Prop := ∃ b k, v = .slice (some ⟨b, 0, none⟩) ts.length (ts.length + k) ∧ M b = some (.cells ((ts ++ List.replicate k "".toUTF8).map str))
def bk : Value → Option Nat
  | .slice (some a) _ _ => some a.block
  | _ => none
/-- A net in memory. -/
structure NetAt (M : Mem) (x r : Nat) (n : Int) (side clk : Nat) (l : List (En K2)) (q : K2 → List ByteArray) : Prop where
  hx : M x = some (.cells [int n, .raw (.map (some r)), int side])
  hr : M r = some (.it (.map (entsX keyV l) clk))
  xr : x ≠ r
  nd : (l.map En.k).Nodup
  st : ∀ e ∈ l, e.s < clk
  sn : (l.map En.s).Nodup
  q0 : ∀ k, (∀ e ∈ l, e.k ≠ k) → q k = []
  q1 : ∀ e ∈ l, Slb M e.v (q e.k)
  bx : ∀ e ∈ l, ∀ b, bk e.v = some b → b ≠ x ∧ b ≠ r
  bd : ∀ e ∈ l, ∀ e' ∈ l, ∀ b, bk e.v = some b → bk e'.v = some b → e.k = e'.k
  ql : ∀ k, (q k).length ≤ 64
  n7 : 1 ≤ n ∧ n ≤ 7
  s63 : side < 2 ^ 63
def Own (x r : Nat) (l : List (En K2)) (c : Nat) : Prop := c = x ∨ c = r ∨ ∃ e ∈ l, bk e.v = some c
def NetO (M : Mem) (x : Nat) (n : Int) (side : Nat) (q : K2 → List ByteArray) (O : Nat → Prop) : Prop := ∃ r clk l, NetAt M x r n side clk l q ∧ O = Own x r l
/-- What a net's functions change. -/
structure Chg (M M' : Mem) (O O' : Nat → Prop) : Prop where
  same : ∀ c, M c ≠ none → ¬ O c → M' c = M c
  sub : ∀ c, O' c → O c ∨ M c = none
/-- The value of a link. -/
def vat (l : List (En K2)) (k : K2) : Value := ((enGet l k).map En.v).getD (.slice none 0 0)
theorem enGet_mem {l : List (En K2)} {k : K2} {e : En K2} (h : enGet l k = some e) : e ∈ l ∧ e.k = k := by
  unfold enGet at h
  exact ⟨List.mem_of_find?_eq_some h, by simpa using List.find?_some h⟩
theorem NetAt.val {M : Mem} {x r : Nat} {n : Int} {side clk : Nat} {l : List (En K2)} {q : K2 → List ByteArray} (h : NetAt M x r n side clk l q) (k : K2) : Sl M (vat l k) (q k) := by
  unfold vat
  cases hg : enGet l k with
  | none => exact .inl ⟨rfl, h.q0 k fun e he => by
      unfold enGet at hg
      simpa using List.find?_eq_none.1 hg e he⟩
  | some e =>
    obtain ⟨h1, h2⟩ := enGet_mem hg
    have := h.q1 e h1
    rw [h2] at this
    exact .inr this
theorem Sl.raw {M : Mem} {v : Value} {ts : List ByteArray} (h : Sl M v ts) : ∃ base c, v = .slice base ts.length c ∧ At str "".toUTF8 M base ts := by
  rcases h with ⟨rfl, rfl⟩ | ⟨b, k, rfl, hb⟩
  · exact ⟨none, 0, rfl, ⟨fun h => absurd rfl h⟩⟩
  · exact ⟨_, _, rfl, ⟨fun _ => ⟨b, k, rfl, hb⟩⟩⟩
/-- What is looked up is a slice in memory. -/
theorem NetAt.look {M : Mem} {x r : Nat} {n : Int} {side clk : Nat} {l : List (En K2)} {q : K2 → List ByteArray} (h : NetAt M x r n side clk l q) (k : K2) : ∃ base c, ((enGet l k).map En.v).getD (.slice none 0 0) = .slice base (q k).length c ∧ At str "".toUTF8 M base (q k) := Sl.raw (h.val k)


theorem upd_other {M : Mem} {b c : Nat} {o : AObj} (h : c ≠ b) : (M.upd b o) c = M c := Mem.upd_ne h rfl
theorem Slb.frame {M M' : Mem} {v : Value} {ts : List ByteArray} (h : Slb M v ts) (hb : ∀ b, bk v = some b → M' b = M b) : Slb M' v ts := by
  obtain ⟨b, k, rfl, h1⟩ := h
  exact ⟨b, k, rfl, by rw [hb b rfl]; exact h1⟩
section
variable {M M' : Mem} {x r : Nat} {n : Int} {side clk : Nat} {l : List (En K2)} {q : K2 → List ByteArray}
theorem NetAt.keep (h : NetAt M x r n side clk l q) (hc : ∀ c, Own x r l c → M' c = M c) : NetAt M' x r n side clk l q :=
  { h with hx := by rw [hc x (.inl rfl)]; exact h.hx
           hr := by rw [hc r (.inr (.inl rfl))]; exact h.hr
           q1 := fun e he => (h.q1 e he).frame fun b hb => hc b (.inr (.inr ⟨e, he, hb⟩)) }
theorem NetAt.own (h : NetAt M x r n side clk l q) {c : Nat} (hc : Own x r l c) : M c ≠ none := by
  rcases hc with rfl | rfl | ⟨e, he, hb⟩
  · rw [h.hx]; exact fun h => by cases h
  · rw [h.hr]; exact fun h => by cases h
  · obtain ⟨b, k, e1, e2⟩ := h.q1 e he
    rw [e1] at hb
    cases hb
    rw [e2]; exact fun h => by cases h
theorem NetAt.fresh (h : NetAt M x r n side clk l q) {b : Nat} {o : AObj} (hb : M b = none) : NetAt (M.upd b o) x r n side clk l q :=
  h.keep fun c hc => upd_other fun e => h.own hc (by rw [e]; exact hb)
theorem NetAt.fresh2 (h : NetAt M x r n side clk l q) {b : Nat} {o o' : AObj} (hb : M b = none) : NetAt ((M.upd b o).upd b o') x r n side clk l q := by rw [Mem.upd_upd]; exact h.fresh hb
theorem NetAt.ne (h : NetAt M x r n side clk l q) {b : Nat} (hb : M b = none) : b ≠ x ∧ x ≠ b ∧ b ≠ r ∧ r ≠ b :=
  have h1 : b ≠ x := fun e => h.own (.inl rfl) (by rw [← e]; exact hb)
  have h2 : b ≠ r := fun e => h.own (.inr (.inl rfl)) (by rw [← e]; exact hb)
  ⟨h1, h1.symm, h2, h2.symm⟩
theorem Chg.refl (O : Nat → Prop) : Chg M M O O := ⟨fun _ _ _ => rfl, fun _ h => .inl h⟩
theorem Chg.trans {M2 : Mem} {O O1 O2 : Nat → Prop} (h : Chg M M' O O1) (h' : Chg M' M2 O1 O2) : Chg M M2 O O2 :=
  ⟨fun c h1 h2 => (h'.same c (by rw [h.same c h1 h2]; exact h1) fun h3 => (h.sub c h3).elim h2 h1).trans (h.same c h1 h2), fun c h1 => by
    rcases h'.sub c h1 with h2 | h2
    · exact h.sub c h2
    · by_cases h3 : M c = none
      · exact .inr h3
      · by_cases h4 : O c
        · exact .inl h4
        · rw [h.same c h3 h4] at h2; exact absurd h2 h3⟩
theorem Chg.new {b : Nat} {o : AObj} {O O' : Nat → Prop} (hb : M b = none) (h : Chg (M.upd b o) M' O O') (hO : ∀ c, O c → M c ≠ none) : Chg M M' O O' :=
  ⟨fun c h1 h2 => (h.same c (by rw [upd_other (fun e => h1 (by rw [e]; exact hb))]; exact h1) h2).trans (upd_other fun e => h1 (by rw [e]; exact hb)), fun c h1 => by
    rcases h.sub c h1 with h2 | h2
    · exact .inl h2
    · exact .inr (Mem.upd_none h2).2⟩

theorem Chg.fresh2 {b : Nat} {o o' : AObj} (O : Nat → Prop) (hb : M b = none) : Chg M ((M.upd b o).upd b o') O O :=
  ⟨fun c h1 _ => have e : c ≠ b := fun e => h1 (by rw [e]; exact hb)
    (upd_other e).trans (upd_other e), fun c h => .inl h⟩
/-- A link that has another value. -/
structure Put (l : List (En K2)) (clk : Nat) (l' : List (En K2)) (clk' : Nat) (k : K2) (v : Value) : Prop where
  m1 : ∀ e ∈ l', (e.k = k ∧ e.v = v) ∨ (e ∈ l ∧ e.k ≠ k)
  m2 : ∀ e ∈ l, e.k ≠ k → e ∈ l'
  m3 : ∃ e ∈ l', e.k = k ∧ e.v = v
  nd : (l'.map En.k).Nodup
  sn : (l'.map En.s).Nodup
  st : ∀ e ∈ l', e.s < clk'
theorem nodup_inj {α β : Type} {f : α → β} : ∀ {l : List α}, (l.map f).Nodup → ∀ {a b : α}, a ∈ l → b ∈ l → f a = f b → a = b
  | [], _, a, b, ha, _, _ => by cases ha
  | c :: l, h, a, b, ha, hb, e => by
    rw [List.map_cons, List.nodup_cons] at h
    rcases List.mem_cons.1 ha with rfl | ha' <;> rcases List.mem_cons.1 hb with rfl | hb'
    · rfl
    · exact absurd (by rw [e]; exact List.mem_map.2 ⟨b, hb', rfl⟩) h.1
    · exact absurd (by rw [← e]; exact List.mem_map.2 ⟨a, ha', rfl⟩) h.1
    · exact nodup_inj h.2 ha' hb' e
theorem map_set_same {α β : Type} {f : α → β} {l : List α} {j : Nat} {a b : α} (h : l[j]? = some a) (e : f b = f a) : (l.set j b).map f = l.map f := by
  rw [List.map_set, e]
  exact set_self (by rw [List.getElem?_map, h]; rfl)
theorem Put.old {k : K2} {v : Value} {e : En K2} {j : Nat} (hnd : (l.map En.k).Nodup) (hsn : (l.map En.s).Nodup) (hst : ∀ e ∈ l, e.s < clk) (hj : l[j]? = some e) (hk : e.k = k) : Put l clk (l.set j ⟨e.k, v, e.s⟩) clk k v := by
  have hlt := (List.getElem?_eq_some_iff.1 hj).1
  have hnd' : ((l.set j (⟨e.k, v, e.s⟩ : En K2)).map En.k).Nodup := by rw [map_set_same (a := e) (b := ⟨e.k, v, e.s⟩) hj rfl]; exact hnd
  have hin : (⟨e.k, v, e.s⟩ : En K2) ∈ l.set j ⟨e.k, v, e.s⟩ := List.mem_iff_getElem?.2 ⟨j, by simp [hlt]⟩
  refine ⟨fun e' he' => ?_, fun e' he' hne => ?_, ⟨_, hin, hk, rfl⟩, hnd', by rw [map_set_same (a := e) (b := ⟨e.k, v, e.s⟩) hj rfl]; exact hsn, fun e' he' => ?_⟩
  · by_cases hk' : e'.k = k
    · have := nodup_inj hnd' he' hin (by rw [hk', ← hk])
      exact .inl ⟨hk', by rw [this]⟩
    · rcases List.mem_or_eq_of_mem_set he' with h | h
      · exact .inr ⟨h, hk'⟩
      · exact absurd (by rw [h]; exact hk) hk'
  · obtain ⟨i, hi⟩ := List.mem_iff_getElem?.1 he'
    refine List.mem_iff_getElem?.2 ⟨i, ?_⟩
    rw [List.getElem?_set, if_neg (fun e2 => by subst e2; rw [hj] at hi; cases hi; exact hne hk)]
    exact hi
  · rcases List.mem_or_eq_of_mem_set he' with h | h
    · exact hst e' h
    · rw [h]; exact hst e (List.mem_of_getElem? hj)
theorem Put.new {k : K2} {v : Value} (hnd : (l.map En.k).Nodup) (hsn : (l.map En.s).Nodup) (hst : ∀ e ∈ l, e.s < clk) (hk : ∀ e ∈ l, e.k ≠ k) : Put l clk (l ++ [⟨k, v, clk⟩]) (clk + 1) k v := by
  refine ⟨fun e he => ?_, fun e he _ => List.mem_append_left _ he, ⟨_, List.mem_append_right _ List.mem_cons_self, rfl, rfl⟩, ?_, ?_, fun e he => ?_⟩
  · rcases List.mem_append.1 he with h | h
    · exact .inr ⟨h, hk e h⟩
    · rw [List.mem_singleton.1 h]; exact .inl ⟨rfl, rfl⟩
  · rw [List.map_append, List.nodup_append]
    refine ⟨hnd, by simp, fun a ha b hb => ?_⟩
    obtain ⟨e, he, rfl⟩ := List.mem_map.1 ha
    rw [List.mem_singleton.1 hb]
    exact hk e he
  · rw [List.map_append, List.nodup_append]
    refine ⟨hsn, by simp, fun a ha b hb => ?_⟩
    obtain ⟨e, he, rfl⟩ := List.mem_map.1 ha
    rw [List.mem_singleton.1 hb]
    have := hst e he
    show e.s ≠ clk
    omega
  · rcases List.mem_append.1 he with h | h
    · have := hst e h; omega
    · rw [List.mem_singleton.1 h]; show clk < clk + 1; omega
theorem enIdx_no {k : K2} (h : enIdx l k = none) : ∀ e ∈ l, e.k ≠ k := by
  intro e he
  have := List.findIdx?_eq_none_iff.1 h e he
  simpa using this

def setQ (q : K2 → List ByteArray) (k : K2) (ts : List ByteArray) : K2 → List ByteArray := fun k' => if k' = k then ts else q k'
theorem NetAt.put {l' : List (En K2)} {clk' : Nat} {k : K2} {v : Value} {ts : List ByteArray} (h : NetAt M x r n side clk l q) (hp : Put l clk l' clk' k v) (hx : M' x = M x) (hr : M' r = some (.it (.map (entsX keyV l') clk'))) (hv : Slb M' v ts) (hts : ts.length ≤ 64)
    (hb : ∀ b, bk v = some b → M b = none ∨ ∃ e ∈ l, e.k = k ∧ bk e.v = some b) (hc : ∀ e ∈ l, e.k ≠ k → ∀ b, bk e.v = some b → M' b = M b) : NetAt M' x r n side clk' l' (setQ q k ts) ∧ ∀ c, Own x r l' c → Own x r l c ∨ M c = none := by
  have hbo : ∀ b, bk v = some b → Own x r l b ∨ M b = none := fun b h1 => (hb b h1).elim .inr fun ⟨e, he, _, h2⟩ => .inl (.inr (.inr ⟨e, he, h2⟩))
  refine ⟨⟨by rw [hx]; exact h.hx, hr, h.xr, hp.nd, hp.st, hp.sn, fun k' h' => ?_, fun e he => ?_, fun e he b h1 => ?_, fun e he e' he' b h1 h2 => ?_, fun k' => ?_, h.n7, h.s63⟩, fun c hc' => ?_⟩
  · by_cases e : k' = k
    · subst e
      obtain ⟨e1, h1, h2, -⟩ := hp.m3
      exact absurd h2 (h' e1 h1)
    · unfold setQ
      rw [if_neg e]
      exact h.q0 k' fun e1 h1 h2 => h' e1 (hp.m2 e1 h1 (by rw [h2]; exact e)) h2
  · rcases hp.m1 e he with ⟨h1, h2⟩ | ⟨h1, h2⟩
    · unfold setQ
      rw [if_pos h1, h2]; exact hv
    · unfold setQ
      rw [if_neg h2]
      exact (h.q1 e h1).frame fun b hb => hc e h1 h2 b hb
  · rcases hp.m1 e he with ⟨-, h2⟩ | ⟨h2, -⟩
    · rw [h2] at h1
      rcases hb b h1 with h3 | ⟨e', h3, -, h4⟩
      · exact ⟨(h.ne h3).1, (h.ne h3).2.2.1⟩
      · exact h.bx e' h3 b h4
    · exact h.bx e h2 b h1
  · rcases hp.m1 e he with ⟨h3, h4⟩ | ⟨h3, h4⟩ <;> rcases hp.m1 e' he' with ⟨h5, h6⟩ | ⟨h5, h6⟩
    · rw [h3, h5]
    · rw [h4] at h1
      rcases hb b h1 with h7 | ⟨e1, h7, h8, h9⟩
      · exact absurd h7 (h.own (.inr (.inr ⟨e', h5, h2⟩)))
      · exact absurd ((h.bd e1 h7 e' h5 b h9 h2).symm.trans h8) h6
    · rw [h6] at h2
      rcases hb b h2 with h7 | ⟨e1, h7, h8, h9⟩
      · exact absurd h7 (h.own (.inr (.inr ⟨e, h3, h1⟩)))
      · exact absurd ((h.bd e1 h7 e h3 b h9 h1).symm.trans h8) h4
    · exact h.bd e h3 e' h5 b h1 h2
  · unfold setQ
    split
    · exact hts
    · exact h.ql k'
  · rcases hc' with rfl | rfl | ⟨e, he, h1⟩
    · exact .inl (.inl rfl)
    · exact .inl (.inr (.inl rfl))
    · rcases hp.m1 e he with ⟨-, h2⟩ | ⟨h2, -⟩
      · rw [h2] at h1; exact hbo c h1
      · exact .inl (.inr (.inr ⟨e, h2, h1⟩))
end
def tk19 : Nat → Nat → Option Nat := fun _ _ => none
def pl19 : Nat → List PStep := fun _ => []
theorem cb19 : Try.f19.body.map (codeB Try.prog Try.f19.ntmps tk19 pl19) = some true := by kernel_rfl
theorem goes19 : goesB Try.prog 19 = true := by kernel_rfl
-- (*carillon/net.Net).Nodes params ['*net.Net'] results [['t', 2]] own [] names ['0:x', '1:x'] calls [] paths 1
set_option maxHeartbeats 4000000 in
set_option maxRecDepth 20000 in
theorem snd19 (x r clk side : Nat) (n : Int) (l : List (En K2)) (q : K2 → List ByteArray) (M : Mem) (hN : NetAt M x r n side clk l q) : SoundCall Try.prog 19 [ptr x] M fun r M' => r = int n ∧ M' = M := by
  obtain ⟨hx, hr, xr, hnd, hst, hsn, hq0, hq1, hbx, hbd, hql, ⟨hn1, hn7⟩, hs63⟩ := id hN
  have rx := xr.symm
  refine SoundCall.go tk19 pl19 mixed Try.func19 cb19 rfl (Nat.le_of_ble_eq_true rfl) ?_
  refine s_seq ?_
  refine s_region ?_
  refine o_q (q_as (v_raw rfl)) rfl rfl rfl ?_
  refine o_nil ?_
  refine s_seq ?_
  refine s_region ?_
  refine o_q (q_mv ((by first | exact v_raw rfl | exact v_sptr rfl))) rfl rfl rfl ?_
  refine o_q (q_nil rfl) rfl rfl rfl ?_
  refine o_q (q_fr fo48_0 rfl) rfl rfl rfl ?_
  refine o_q (q_ldm ag3 sz3 rfl (by repeat first | exact Mem.upd_self _ _ _ | assumption | refine Mem.upd_ne (by assumption) ?_) rfl (v_raw rfl)) rfl rfl rfl ?_
  refine o_q (q_as (v_raw rfl)) rfl rfl rfl ?_
  refine o_nil ?_
  refine s_ret ?_
  refine s_end ?_
  exact ⟨rfl, rfl⟩

def tk28 : Nat → Nat → Option Nat := fun _ _ => none
def pl28 : Nat → List PStep := fun _ => []
theorem cb28 : Try.f28.body.map (codeB Try.prog Try.f28.ntmps tk28 pl28) = some true := by kernel_rfl
theorem goes28 : goesB Try.prog 28 = true := by kernel_rfl
-- (*carillon/net.Net).node params ['*net.Net', 'int'] results [['t', 4]] own [] names ['0:x', '1:k', '2:x', '3:k'] calls [] paths 2
set_option maxHeartbeats 4000000 in
set_option maxRecDepth 20000 in
theorem snd28 (x r clk side : Nat) (n : Int) (l : List (En K2)) (q : K2 → List ByteArray) (M : Mem) (hN : NetAt M x r n side clk l q) (k : Int) : SoundCall Try.prog 28 [ptr x, int k] M fun r M' => r = bool (decide (0 ≤ k ∧ k < n)) ∧ M' = M := by
  obtain ⟨hx, hr, xr, hnd, hst, hsn, hq0, hq1, hbx, hbd, hql, ⟨hn1, hn7⟩, hs63⟩ := id hN
  have rx := xr.symm
  refine SoundCall.go tk28 pl28 mixed Try.func28 cb28 rfl (Nat.le_of_ble_eq_true rfl) ?_
  refine s_seq ?_
  refine s_region ?_
  refine o_q (q_as (v_raw rfl)) rfl rfl rfl ?_
  refine o_nil ?_
  refine s_seq ?_
  refine s_region ?_
  refine o_q (q_mv (v_raw rfl)) rfl rfl rfl ?_
  refine o_q (q_geq rfl rfl) rfl rfl rfl ?_
  refine o_q (q_mv (v_raw rfl)) rfl rfl rfl ?_
  refine o_cases (want := true) (j := 2) rfl rfl (fun h1 => ?_) (fun h1 => ?_)
  · have k1 := h1; try simp only [decide_eq_true_eq, decide_eq_false_iff_not, Bool.not_eq_true', Bool.not_eq_false', Bool.not_true, Bool.not_false, List.length_map, Decidable.not_not] at k1
    refine o_yes rfl rfl rfl h1 ?_
    refine o_q (q_mv (v_raw rfl)) rfl rfl rfl ?_
    refine o_yes rfl rfl rfl h1 ?_
    refine o_q (q_mv ((by first | exact v_raw rfl | exact v_sptr rfl))) rfl rfl rfl ?_
    refine o_yes rfl rfl rfl h1 ?_
    refine o_q (q_nil rfl) rfl rfl rfl ?_
    refine o_yes rfl rfl rfl h1 ?_
    refine o_q (q_fr fo48_0 rfl) rfl rfl rfl ?_
    refine o_yes rfl rfl rfl h1 ?_
    refine o_q (q_ldm ag3 sz3 rfl (by repeat first | exact Mem.upd_self _ _ _ | assumption | refine Mem.upd_ne (by assumption) ?_) rfl (v_raw rfl)) rfl rfl rfl ?_
    refine o_yes rfl rfl rfl h1 ?_
    refine o_q (q_lss rfl rfl) rfl rfl rfl ?_
    refine o_q (q_pick_c (t := true) rfl h1 (v_raw rfl)) rfl rfl rfl ?_
    refine o_q (q_as (v_raw rfl)) rfl rfl rfl ?_
    refine o_nil ?_
    refine s_ret ?_
    refine s_end ?_
    exact ⟨congrArg bool (by simp [*]), rfl⟩
  · have k1 := h1; try simp only [decide_eq_true_eq, decide_eq_false_iff_not, Bool.not_eq_true', Bool.not_eq_false', Bool.not_true, Bool.not_false, List.length_map, Decidable.not_not] at k1
    refine o_no rfl rfl rfl rfl h1 ?_
    refine o_no rfl rfl rfl rfl h1 ?_
    refine o_no rfl rfl rfl rfl h1 ?_
    refine o_no rfl rfl rfl rfl h1 ?_
    refine o_no rfl rfl rfl rfl h1 ?_
    refine o_no rfl rfl rfl rfl h1 ?_
    refine o_q (q_pick_c (t := false) rfl h1 (v_raw rfl)) rfl rfl rfl ?_
    refine o_q (q_as (v_raw rfl)) rfl rfl rfl ?_
    refine o_nil ?_
    refine s_ret ?_
    refine s_end ?_
    exact ⟨congrArg bool (by simp [*]), rfl⟩
end C05
