import Derived.Test.YtkjdclhhmgjfbaaY04
import Derived.Test.YtkjdclhhmgjfbaaL06
import Derived.Test.YtkjdclhhmgjfbaaK04
/-! Chapter 4: the disk: what its functions compute. -/
open Go Go.Proofs Go.Am
set_option linter.unusedVariables false
set_option linter.unusedSimpArgs false
set_option autoImplicit false
namespace C04
theorem slt49 : SlT Try.prog 49 9 1 16 := ⟨by kernel_rfl, by kernel_rfl, by kernel_rfl, by kernel_rfl, by decide⟩
theorem zc9 : zeroCellsT Try.prog 9 = some [.raw (.string { data := #[] })] := by kernel_rfl
def tk6 : Nat → Nat → Option Nat
  | 5, 0 => some 0
  | 6, 0 => some 0
  | 22, 9 => some 0
  | 23, 9 => some 0
  | 27, 0 => some 0
  | 27, 5 => some 0
  | 28, 0 => some 0
  | 28, 3 => some 0
  | _, _ => none
def pl6 : Nat → List PStep
  | 16 => [.q 0, .q 1, .q 2, .q 3, .q 4, .q 5, .q 6]
  | 22 => [.q 0, .q 1, .q 2, .q 3, .q 4, .q 5, .q 6, .q 7, .q 8, .q 9]
  | 23 => [.q 0, .q 1, .q 2, .q 4, .q 5, .q 6, .q 7, .s 3 [0, 1, 2, 4, 5, 6, 7], .s 8 [0, 1, 2, 4, 5, 6, 7], .q 9]
  | 35 => [.q 0, .q 1, .q 2, .q 3, .q 4, .q 5, .q 6, .q 7, .q 8, .q 9, .s 10 []]
  | 42 => [.q 0, .q 1, .q 2, .q 3, .q 4, .q 5, .q 6, .q 7, .q 8, .q 9, .q 10, .q 11, .q 12, .q 13, .q 14, .q 15, .q 16]
  | 44 => [.q 0, .q 1, .q 2, .q 3, .q 4, .q 5, .q 6, .q 7, .q 8, .q 9, .s 10 []]
  | _ => []
theorem cb6 : Try.f6.body.map (codeB Try.prog Try.f6.ntmps tk6 pl6) = some true := by kernel_rfl
theorem goes6 : goesB Try.prog 6 = true := by kernel_rfl
-- carillon/carillonlaw04.DiskWhole params ['[]carillonlaw04.Deed'] results [['t', 2]] own [100, 105, 77, 86, 6, 7, 104, 107, 82, 91] names ['0:deeds', '1:deeds', '3:head', '4:d', '5:_', '6:names', '7:bytes', '8:i', '9:o', '10:at', '11:k', '12:e', '13:l', '14:e', '15:k', '16:s', '17:f'] calls [9, 10, 11, 12, 13, 14, 16, 18, 26, 27, 28] paths 21

theorem unStr : Un str := fun _ => ⟨rfl, rfl, rfl, rfl⟩
/-- A disk, and a slice of texts of our own. -/
structure Wd (M : Mem) (d n : Nat) (s : DS) (O W : Nat → Prop) (X : AVal) (bys : List ByteArray) : Prop where
  dk : DiskAt M d n s O W
  sl : (X = .sl [] true ∧ bys = []) ∨ ∃ v, X = .raw v ∧ Gs str M v bys ∧ ∀ b n c, v = .slice (some ⟨b, 0, none⟩) n c → c ≠ 0 → W b ∧ ¬ O b
section
variable {M M' : Mem} {d n m : Nat} {s s' : DS} {O W : Nat → Prop} {X : AVal} {bys bys' : List ByteArray} {v v' : Value}
theorem gs_norm {l : List ByteArray} (h : Gs str M v l) : (∃ base, v = .slice base 0 0 ∧ okB base ∧ l = []) ∨ ∃ b, ∃ cs : List ByteArray, v = .slice (some ⟨b, 0, none⟩) l.length cs.length ∧ M b = some (.cells (cs.map str)) ∧ cs.take l.length = l ∧ cs.length ≠ 0 := by
  rcases h with h | ⟨b, cs, h1, h2, h3⟩
  · exact .inl h
  · by_cases h0 : cs.length = 0
    · have hl : l = [] := by rw [← h3, List.eq_nil_of_length_eq_zero h0]; simp
      subst hl
      rw [h0] at h1
      exact .inl ⟨_, h1, .inr ⟨b, 0, rfl⟩, rfl⟩
    · exact .inr ⟨b, cs, h1, h2, h3, h0⟩
theorem Wd.aft (h : Wd M d n s O W X bys) (h2 : Aft M M' d m s' O W) : ∃ O' W', Wd M' d m s' O' W' X bys ∧ ∀ c, W' c → W c ∨ M c = none := by
  obtain ⟨O', W', h3, h4, h5, h6⟩ := h2
  obtain ⟨g1, g2⟩ := h.dk.own
  refine ⟨O', W', ⟨h3, h.sl.imp id fun ⟨v, hX, hg, ho⟩ => ⟨v, hX, ?_, fun b n c e1 e2 => ?_⟩⟩, h5⟩
  · rcases gs_norm hg with h | ⟨b, cs, e1, e2, e3, e4⟩
    · exact .inl h
    · exact .inr ⟨b, cs, e1, by rw [h4.eq b (by rw [e2]; exact fun h => by cases h) (ho b _ _ e1 e4).2]; exact e2, e3⟩
  · obtain ⟨k1, k2⟩ := ho b n c e1 e2
    exact ⟨h6 b k1, fun h => (h4.new b h).elim k2 fun h => g2 b k1 h⟩
theorem Wd.le (h : Wd M d n s O W X bys) (hle : M.le M') : Wd M' d n s O W X bys :=
  ⟨h.dk.le hle, h.sl.imp id fun ⟨v, hX, hg, ho⟩ => ⟨v, hX, hg.keep fun b _ hb => leK hle hb, ho⟩⟩
theorem Wd.up (h : Wd M d n s O W X bys) (hm : n ≤ m) : Wd M d m s O W X bys := ⟨h.dk.up hm, h.sl⟩
/-- What the slice's append must keep. -/
noncomputable def keepM (M : Mem) (O W : Nat → Prop) : Mem := fun c => open Classical in if O c ∨ ¬ W c then M c else none
theorem keepM_le : (keepM M O W).le M := fun c o h => by
  unfold keepM at h
  split at h
  · exact h
  · cases h
theorem keepM_at {c : Nat} (h : O c ∨ ¬ W c) : keepM M O W c = M c := by unfold keepM; rw [if_pos h]
theorem keepM_none {c : Nat} (h : keepM M O W c = none) (hM : M c ≠ none) : W c ∧ ¬ O c := by
  unfold keepM at h
  split at h
  · exact absurd h hM
  · rename_i h2
    exact ⟨Classical.byContradiction fun h3 => h2 (.inr h3), fun h3 => h2 (.inl h3)⟩
theorem Wd.gown (h : Wd M d n s O W (.raw v) bys) : Gs str M v bys ∧ Gown (keepM M O W) M v := by
  rcases h.sl with ⟨h1, -⟩ | ⟨v', h1, h2, h3⟩
  · cases h1
  · cases h1
    refine ⟨h2, fun b ⟨n, c, e1, e2, e3⟩ => ?_⟩
    obtain ⟨k1, k2⟩ := h3 b n c e1 e3
    unfold keepM
    rw [if_neg fun h => h.elim k2 fun h => h k1]
theorem Wd.app (h : Wd M d n s O W X bys) (h1 : Gs str M' v' bys') (h2 : (keepM M O W).le M') (h3 : Gown (keepM M O W) M' v') (h4 : ∀ c, M c ≠ none → M' c ≠ none) : ∃ W', Wd M' d n s O W' (.raw v') bys' := by
  obtain ⟨g1, g2⟩ := h.dk.own
  have hk : ∀ c, M c ≠ none → (O c ∨ ¬ W c) → M' c = M c := fun c e1 e2 => by
    have e3 := keepM_at (M := M) e2
    rw [← e3]
    exact leK h2 (by rw [e3]; exact e1)
  rcases gs_norm h1 with hn | ⟨b, cs, e1, e2, e3, e4⟩
  · refine ⟨W, h.dk.fr hk (fun c hc => .inl hc) (fun c hc => hc) fun c hc => h4 c (g2 c hc), .inr ⟨v', rfl, h1, fun b n c e1 e2 => ?_⟩⟩
    obtain ⟨base, e, -, -⟩ := hn
    rw [e] at e1
    cases e1; exact absurd rfl e2
  · have hb : M' b ≠ none := by rw [e2]; exact fun h => by cases h
    have h0 := h3 b ⟨_, _, e1, hb, e4⟩
    have hbn : M b = none ∨ (W b ∧ ¬ O b) := by
      by_cases hM : M b = none
      · exact .inl hM
      · exact .inr (keepM_none h0 hM)
    have hbO : ¬ O b := fun ho => hbn.elim (g2 b (g1 b ho)) fun h => h.2 ho
    refine ⟨un W (· = b), h.dk.fr hk (fun c hc => ?_) (fun c hc => .inl hc) (fun c hc => ?_), .inr ⟨v', rfl, h1, fun b' n c q1 q2 => ?_⟩⟩
    · rcases hc with hc | rfl
      · exact .inl hc
      · exact hbn.elim .inr fun h => .inl h.1
    · rcases hc with hc | rfl
      · exact h4 c (g2 c hc)
      · exact hb
    · rw [e1] at q1
      cases q1
      exact ⟨.inr rfl, hbO⟩
theorem str_set {cs : List ByteArray} {k : Nat} {w : ByteArray} {o : Nat} (h : o = k) (hk : k < cs.length) : splice (cs.map str) o ((AVal.raw (.string w)).cells.map AVal.shut) = (cs.set k w).map str := by
  subst h
  rw [List.set_eq_take_append_cons_drop, if_pos hk, List.map_append, List.map_cons, List.map_take, List.map_drop]
  show (cs.map str).take o ++ [str w] ++ (cs.map str).drop (o + 1) = _
  rw [List.append_assoc]; rfl
theorem Wd.set {b : Nat} {cs : List ByteArray} (h : Wd M d n s O W (.raw (.slice (some ⟨b, 0, none⟩) bys.length cs.length)) bys) (hb : M b = some (.cells (cs.map str))) (htk : cs.take bys.length = bys) (hc : cs.length ≠ 0) {k : Nat} (hk : k < bys.length) (w : ByteArray) : Wd (M.upd b (.cells ((cs.set k w).map str))) d n s O W (.raw (.slice (some ⟨b, 0, none⟩) bys.length cs.length)) (bys.set k w) := by
  obtain ⟨g1, g2⟩ := h.dk.own
  have ho : W b ∧ ¬ O b := by
    rcases h.sl with ⟨h1, -⟩ | ⟨v', h1, -, h3⟩
    · cases h1
    · cases h1; exact h3 b _ _ rfl hc
  refine ⟨h.dk.fr (fun c h1 h2 => upd_other fun e => h2.elim (fun h => ho.2 (e ▸ h)) fun h => h (e ▸ ho.1)) (fun c hc => .inl hc) (fun c hc => hc) (fun c hc => ?_), .inr ⟨_, rfl, .inr ⟨b, cs.set k w, by rw [List.length_set, List.length_set], Mem.upd_self _ _ _, by rw [List.length_set, List.take_set, htk]⟩, fun b' n c e1 e2 => by cases e1; exact ho⟩⟩
  by_cases e : c = b
  · rw [e, Mem.upd_self]; exact fun h => by cases h
  · rw [upd_other e]; exact g2 c hc
theorem Wd.raw (h : Wd M d n s O W X bys) {k : Nat} (hk : k < bys.length) : ∃ b, ∃ cs : List ByteArray, X = .raw (.slice (some ⟨b, 0, none⟩) bys.length cs.length) ∧ M b = some (.cells (cs.map str)) ∧ cs.take bys.length = bys ∧ cs.length ≠ 0 := by
  rcases h.sl with ⟨-, rfl⟩ | ⟨v, rfl, hg, -⟩
  · cases hk
  · rcases gs_norm hg with ⟨base, -, -, rfl⟩ | ⟨b, cs, rfl, h2, h3, h4⟩
    · cases hk
    · exact ⟨b, cs, rfl, h2, h3, h4⟩
theorem pc_str {cs bys : List ByteArray} {k o : Nat} (h : o = k) (htk : cs.take bys.length = bys) (hk : k < bys.length) : piece false (cs.map str) o 1 = some (.raw (.string bys[k])) := by
  subst h
  have hl := take_le htk
  have e : cs[o]? = some bys[o] := by
    have := List.getElem?_take_of_lt (l := cs) hk
    rw [htk, List.getElem?_eq_getElem hk] at this
    exact this.symm
  unfold piece
  simp [List.getElem?_map, e, str]
section
variable {P : Program} {tkr : Nat → Option Nat} {ops : Array Oper} {K : St → Prop} {i : Nat} {rest : List Oper} {dd : Nat} {T : Nat → AVal} {ty st e : TypeId} {pos : String} {af : Array Edge} {x y : Operand} {ats : Array TypeId}
theorem Wd.append {by_ : Nat} {own : Bool} {ms : List ByteArray} (h : Wd M d n s O W X bys) (ht : SlT P st e 1 by_) (h0 : ats[0]? = some st) (h1 : ats[1]? = some st) (hz : zeroCellsT P e = some [str ⟨#[]⟩]) (hx : ev T x = X) (hy : srcM M (ev T y) = some (.sl (ms.map str) own)) (hlen : (bys.length + ms.length) * by_ ≤ 2 ^ 47)
    (k : ∀ v' M' W', Wd M' d n s O W' (.raw v') (bys ++ ms) → (∀ c, M c ≠ none → ¬ W c → M' c = M c) → aOps P tkr ops K (i + 1) rest ⟨setT T dd (.raw v'), M'⟩) :
    aOps P tkr ops K i (mkO (some dd) (.call { callee := .builtin .append, args := #[x, y], argTypes := ats }) ty pos af none :: rest) ⟨T, M⟩ := by
  have hkeep : ∀ {M' : Mem}, (keepM M O W).le M' → ∀ c, M c ≠ none → ¬ W c → M' c = M c := fun h2 c e1 e2 => by
    have e3 := keepM_at (M := M) (O := O) (W := W) (c := c) (.inr e2)
    rw [← e3]
    exact leK h2 (by rw [e3]; exact e1)
  rcases h.sl with ⟨rfl, rfl⟩ | ⟨v, rfl, hg, ho⟩
  · refine o_appgn (f := str) (z0 := ⟨#[]⟩) (M0 := keepM M O W) ht h0 h1 hz unStr (.inl hx) keepM_le hy (by simpa using hlen) fun v' M' g1 g2 g3 g4 => ?_
    obtain ⟨W', hW'⟩ := h.app (bys' := [] ++ ms) g1 g2 g3 fun c hc => by rw [g4 c hc]; exact hc
    exact k v' M' W' hW' (hkeep g2)
  · have hg2 := h.gown
    refine o_appg (f := str) (z0 := ⟨#[]⟩) (M0 := keepM M O W) ht h0 h1 hz unStr hx hg2.1 keepM_le hg2.2 hy hlen fun v' M' g1 g2 g3 g4 => ?_
    obtain ⟨W', hW'⟩ := h.app g1 g2 g3 g4
    exact k v' M' W' hW' (hkeep g2)
end
theorem Wd.box {Bx : Nat} (h : Wd M d n s O W X bys) (hw : ¬ W Bx) : ∀ b n c, X = .raw (.slice (some ⟨b, 0, none⟩) n c) → c ≠ 0 → Bx ≠ b := fun b n c e1 e2 e3 => by
  rcases h.sl with ⟨h1, -⟩ | ⟨v', h1, -, h3⟩
  · rw [h1] at e1; cases e1
  · rw [h1] at e1; cases e1
    exact hw (by rw [e3]; exact (h3 b n c rfl e2).1)
end

/-- Where a name stands, as far as it was looked. -/
def AtI (nms : List ByteArray) (nm : ByteArray) (a : Int) (q : Nat) : Prop := (a = -1 ∧ ∀ j : Nat, j < q → nms[j]? ≠ some nm) ∨ ∃ k : Nat, a = k ∧ k < q ∧ nms[k]? = some nm
def AtF (nms : List ByteArray) (nm : ByteArray) (a : Int) : Prop := (a = -1 ∧ nm ∉ nms) ∨ ∃ k : Nat, a = k ∧ nms[k]? = some nm
section
variable {nms bys : List ByteArray} {nm : ByteArray} {a : Int} {q : Nat}
theorem els_td {l : List ByteArray} {i j : Nat} : Els 1 (((l.map str).take i).drop j) := fun V hV => by
  obtain ⟨z, -, rfl⟩ := List.mem_map.1 (List.mem_of_mem_take (List.mem_of_mem_drop hV))
  exact ⟨rfl, rfl⟩
theorem AtI.init : AtI nms nm (-1) 0 := .inl ⟨rfl, fun j hj => absurd hj (Nat.not_lt_zero j)⟩
theorem AtI.bd (h : AtI nms nm a q) : -1 ≤ a ∧ a < q := by rcases h with ⟨rfl, -⟩ | ⟨k, rfl, hk, -⟩ <;> omega
theorem AtI.hit (hq : q < nms.length) (e : nms[q] = nm) : AtI nms nm (q : Int) (q + 1) := .inr ⟨q, rfl, Nat.lt_succ_self q, by rw [List.getElem?_eq_getElem hq, e]⟩
theorem AtI.miss (h : AtI nms nm a q) (hq : q < nms.length) (e : ¬ nms[q] = nm) : AtI nms nm a (q + 1) := by
  rcases h with ⟨rfl, h⟩ | ⟨k, rfl, hk, h⟩
  · refine .inl ⟨rfl, fun j hj => ?_⟩
    rcases Nat.lt_succ_iff_lt_or_eq.1 hj with h1 | rfl
    · exact h j h1
    · rw [List.getElem?_eq_getElem hq]; exact fun h => e (Option.some.inj h)
  · exact .inr ⟨k, rfl, by omega, h⟩
theorem AtI.fin (h : AtI nms nm a nms.length) : AtF nms nm a := by
  rcases h with ⟨rfl, h⟩ | ⟨k, rfl, -, h⟩
  · refine .inl ⟨rfl, fun hm => ?_⟩
    obtain ⟨j, hj, e⟩ := List.mem_iff_getElem.1 hm
    exact h j hj (by rw [List.getElem?_eq_getElem hj, e])
  · exact .inr ⟨k, rfl, h⟩
theorem AtF.neg (h : AtF nms nm a) : a < 0 ↔ nm ∉ nms := by
  rcases h with ⟨rfl, h⟩ | ⟨k, rfl, h⟩
  · exact ⟨fun _ => h, fun _ => by decide⟩
  · exact ⟨fun h2 => by omega, fun h2 => absurd (List.mem_of_getElem? h) h2⟩
theorem AtF.pos (h : AtF nms nm a) (ha : 0 ≤ a) : ∃ k : Nat, a = k ∧ nms[k]? = some nm := by
  rcases h with ⟨rfl, -⟩ | h
  · omega
  · exact h
theorem okN_iff : okN nm = true ↔ 1 ≤ nm.size ∧ nm.size ≤ 40 := by
  refine ⟨okN_size, fun h => ?_⟩
  unfold okN
  simp only [Bool.and_eq_true, decide_eq_true_eq]
  refine ⟨fun e => ?_, by omega⟩
  rw [e] at h
  exact absurd h.1 (by decide)
theorem chk1 {c : Int} (hc : c = 0 ↔ nm ∉ nms ∧ okN nm = true) (h : AtF nms nm a) : c = 0 ↔ a < 0 ∧ 1 ≤ (nm.size : Int) ∧ (nm.size : Int) ≤ 40 := by
  rw [hc, okN_iff, h.neg]
  constructor
  · rintro ⟨h1, h2, h3⟩; exact ⟨h1, by omega, by omega⟩
  · rintro ⟨h1, h2, h3⟩; exact ⟨h1, by omega, by omega⟩
theorem chk2 {c : Int} {s z : DS} {i : Nat} {Q : Nat → Prop} (hR : WR s nms bys i) (h1 : nm ∉ nms → c = 7 ∧ z = s) (h2 : ∀ k, nms[k]? = some nm → c = 0 ∧ Q k) (h : AtF nms nm a) : c = 0 ↔ 0 ≤ a := by
  rcases h with ⟨rfl, h⟩ | ⟨k, rfl, h⟩
  · rw [(h1 h).1]; exact ⟨fun h => (by cases h), fun h => (by omega)⟩
  · rw [(h2 k h).1]; exact ⟨fun _ => by omega, fun _ => rfl⟩
theorem idx_inj (hn : nms.Nodup) {k k' : Nat} (h1 : nms[k]? = some nm) (h2 : nms[k']? = some nm) : k = k' := by
  obtain ⟨g1, e1⟩ := List.getElem?_eq_some_iff.1 h1
  obtain ⟨g2, e2⟩ := List.getElem?_eq_some_iff.1 h2
  exact (List.getElem_inj hn).1 (e1.trans e2.symm)
theorem WR.size {s : DS} {i : Nat} (h : WR s nms bys i) (hg : Gd s.files.length s.dir) {k : Nat} (hk : k < bys.length) : bys[k].size ≤ 1000 * i := by
  have hkn : k < nms.length := by rw [← h.ln]; exact hk
  obtain ⟨j, h1, h2⟩ := h.by_ k nms[k] bys[k] (List.getElem?_eq_getElem hkn) (List.getElem?_eq_getElem hk)
  have h3 := le_sum_of (fun p : ByteArray × Nat => (s.now p.2).length) s.dir _ ((gets_iff hg.srt.nd).1 h1)
  have h4 : (s.now j).length = bys[k].size := by rw [h2]; exact Array.length_toList
  have h5 := h.us
  unfold DS.used at h5
  dsimp only at h3
  omega
theorem src_part {M : Mem} {T : Nat → AVal} {y : Operand} {b a h : Nat} {cs : List ByteArray} (hb : M b = some (.cells (cs.map str))) (htk : cs.take bys.length = bys) (ha : a ≤ h) (hh : h ≤ bys.length) (hy : ev T y = .raw (.slice (some ⟨b, if cs.length = a then 0 else 0 + a * 1, none⟩) (h - a) (cs.length - a))) : srcM M (ev T y) = some (.sl (((bys.take h).drop a).map str) false) := by
  have hl := take_le htk
  rw [src_off (f := str) (fun a => (unStr a).1) hb (by split <;> omega) hy]
  congr 3
  split
  · have e : h - a = 0 := by omega
    rw [e, List.take_zero, List.drop_of_length_le (by rw [List.length_take]; omega)]
  · rw [Nat.zero_add, Nat.mul_one, ← htk, List.take_take, Nat.min_eq_left hh, List.drop_take]
theorem Wd.anew {M M' : Mem} {d n : Nat} {s : DS} {O W : Nat → Prop} {X : AVal} {bys' : List ByteArray} {v' : Value} (h : Wd M d n s O W X bys) (h1 : Gs str M' v' bys') (h2 : M.le M') (h3 : Gown M M' v') : ∃ W', Wd M' d n s O W' (.raw v') bys' :=
  h.app h1 (Mem.le_trans keepM_le h2) (fun b hb => by
    unfold keepM
    split
    · exact h3 b hb
    · rfl) fun c hc => by rw [leK h2 hc]; exact hc
end
set_option maxHeartbeats 4000000 in
set_option maxRecDepth 20000 in
theorem snd6 (deeds : List De) (own : Bool) (hdl : deeds.length < 2 ^ 60) (hde : ∀ o ∈ deeds, okDe o) (hdz : ∀ o ∈ deeds, o.b.size < 2 ^ 60) (hda : ∀ o ∈ deeds, o.a.size < 2 ^ 60) (M : Mem) (hM : M = M0) : SoundCall Try.prog 6 [.sl (deeds.map encDe) own] M fun r M' => r = bool true ∧ M0.le M' := by
  subst hM
  have hbig : BIG = 2 ^ 40 := rfl
  refine SoundCall.go tk6 pl6 mixed Try.func6 cb6 rfl (Nat.le_of_ble_eq_true rfl) ?_
  refine s_seq ?_
  refine s_region ?_
  refine o_q (q_as (v_raw rfl)) rfl rfl rfl ?_
  refine o_nil ?_
  refine s_seq ?_
  refine s_region ?_
  refine o_call (ex9) goes9 ac_nil rfl ?_
  refine o_q (q_as (v_raw rfl)) rfl rfl rfl ?_
  refine o_nil ?_
  refine s_seq ?_
  refine s_region ?_
  refine o_callx ((newOk M0 1000000000 (by decide) (by decide) _ nW)) goes10 (ac (v_raw rfl) ac_nil) rfl ?_
  rintro r0 M1 ⟨d, O0, W0, rfl, hA0, -⟩
  have hW0 : Wd M1 d 0 (DS.new 1000000000) O0 W0 (.sl [] true) [] := ⟨hA0, .inl ⟨rfl, rfl⟩⟩
  have hR0 : WR (DS.new 1000000000) [] [] 0 := ⟨rfl, rfl, rfl, rfl, List.Perm.refl _, (fun k nm b h => by simp at h), Nat.le_refl 0, Nat.le_refl 0⟩
  refine o_q (q_mv (v_tup rfl)) rfl rfl rfl ?_
  refine o_q (q_ext rfl rfl ((by first | exact v_raw rfl | exact v_sptr rfl))) rfl rfl rfl ?_
  refine o_q (q_ext rfl rfl (v_raw rfl)) rfl rfl rfl ?_
  refine o_q (q_as ((by first | exact v_raw rfl | exact v_sptr rfl))) rfl rfl rfl ?_
  refine o_q (q_as (v_raw rfl)) rfl rfl rfl ?_
  refine o_nil ?_
  refine s_seq ?_
  refine s_seq ?_
  refine s_region ?_
  refine o_q (q_mv ((by first | exact v_raw rfl | exact v_sptr rfl))) rfl rfl rfl ?_
  refine o_q (q_peql und24 rfl rfl) rfl rfl rfl ?_
  refine o_nil ?_
  refine s_else rfl rfl ?_
  refine s_skip ?_
  refine s_seq ?_
  refine s_region ?_
  refine o_q (q_as_const rfl) rfl rfl rfl ?_
  refine o_nil ?_
  refine s_seq ?_
  refine s_region ?_
  refine o_q (q_as_const rfl) rfl rfl rfl ?_
  refine o_nil ?_
  refine s_seq ?_
  refine s_seq ?_
  refine s_region ?_
  refine o_q (q_as (v_raw rfl)) rfl rfl rfl ?_
  refine o_nil ?_
  refine s_cut (fun S => ∃ T Mc s O W X nms bys, ∃ i : Nat, S = ⟨setT (setT (setT (setT (setT (setT T 0 (.sl (deeds.map encDe) own)) 3 (bool true)) 4 (ptr d)) 6 (.sl (nms.map str) true)) 7 (X)) 8 (int (i : Nat)), Mc⟩ ∧ Wd Mc d i s O W X bys ∧ WR s nms bys i ∧ i ≤ 60) ?_ ?_
  · skip
    refine s_block ?_
    refine s_loop (fun m S => ∃ T Mc s O W X nms bys, ∃ i : Nat, S = ⟨setT (setT (setT (setT (setT (setT T 0 (.sl (deeds.map encDe) own)) 3 (bool true)) 4 (ptr d)) 6 (.sl (nms.map str) true)) 7 (X)) 8 (int (i : Nat)), Mc⟩ ∧ Wd Mc d i s O W X bys ∧ WR s nms bys i ∧ i ≤ 60 ∧ m = 60 - i) 60 ?_ ?_
    · exact ⟨_, _, _, _, _, _, [], [], 0, St.mkT (kp (kp (kp (kp (kp (kp rfl rfl) rfl) rfl) rfl) rfl) rfl).symm, hW0, hR0, by decide, rfl⟩
    rintro m S ⟨T, Mc, s, O, W, X, nms, bys, i, rfl, hW, hR, hi, rfl⟩
    refine s_seq ?_
    refine s_seq ?_
    refine s_region ?_
    refine o_q (q_mv (v_raw rfl)) rfl rfl rfl ?_
    refine o_q (q_mv (v_sl rfl)) rfl rfl rfl ?_
    refine o_q (q_len rfl und38 rfl) rfl rfl rfl ?_
    refine o_q (q_lss rfl rfl) rfl rfl rfl ?_
    refine o_q (q_mv (v_raw rfl)) rfl rfl rfl ?_
    refine o_cases (want := true) (j := 4) rfl rfl (fun h1 => ?_) (fun h1 => ?_)
    · have k1 := h1; try simp only [decide_eq_true_eq, decide_eq_false_iff_not, Bool.not_eq_true', Bool.not_eq_false', Bool.not_true, Bool.not_false, List.length_map, Decidable.not_not] at k1
      refine o_yes rfl rfl rfl h1 ?_
      refine o_q (q_mv (v_raw rfl)) rfl rfl rfl ?_
      refine o_yes rfl rfl rfl h1 ?_
      refine o_q (q_lss rfl rfl) rfl rfl rfl ?_
      refine o_q (q_pick_c (t := true) rfl h1 (v_raw rfl)) rfl rfl rfl ?_
      refine o_nil ?_
      refine s_cond rfl (fun h2 => ?_) (fun h2 => ?_)
      · have k2 := h2; try simp only [decide_eq_true_eq, decide_eq_false_iff_not, Bool.not_eq_true', Bool.not_eq_false', Bool.not_true, Bool.not_false, List.length_map, Decidable.not_not] at k2
        have hil : i < deeds.length := by omega
        have hi60 : i < 60 := by omega
        have hdzi := hdz _ (List.getElem_mem hil)
        have hdai := hda _ (List.getElem_mem hil)
        have hdei := hde _ (List.getElem_mem hil)
        have hmn : min (deeds[i].b.size : Int) 1000 = ((min deeds[i].b.size 1000 : Nat) : Int) := by omega
        have hob : (deeds[i].b.extract 0 (min deeds[i].b.size 1000)).size ≤ 1000 := by rw [ByteArray.size_extract]; omega
        refine s_skip ?_
        refine s_seq ?_
        refine s_block ?_
        refine s_seq ?_
        refine s_region ?_
        refine o_q (q_mv (v_sl rfl)) rfl rfl rfl ?_
        refine o_q (q_mv (v_raw rfl)) rfl rfl rfl ?_
        refine o_q (q_idx und38 sz42 rfl rfl (by omega) (gm i (by first | omega | simp)) rfl) rfl rfl rfl ?_
        refine o_q (q_lde ag42 sz42 rfl (gm i (by first | omega | simp)) rfl rfl) rfl rfl rfl ?_
        refine o_alloc zc42 (fun B1 hB1 => ?_)
        skip
        refine o_storew rfl (by repeat first | exact Mem.upd_self _ _ _ | assumption | refine Mem.upd_ne (by assumption) ?_) (by first | exact e_agg rfl | rfl) rfl sz42 rfl rfl rfl rfl ?_
        refine o_nil ?_
        refine s_seq ?_
        refine s_cut (fun S => ∃ T Mb, S = ⟨setT (setT (setT (setT (setT (setT (setT T 0 (.sl (deeds.map encDe) own)) 3 (bool true)) 4 (ptr d)) 6 (.sl (nms.map str) true)) 7 (X)) 8 (int (i : Nat))) 9 (ptr B1), Mb⟩ ∧ Mb B1 = some (.cells [int deeds[i].kind, str deeds[i].a, str (deeds[i].b.extract 0 (min deeds[i].b.size 1000)), int deeds[i].n, .raw (.slice deeds[i].kb deeds[i].kn deeds[i].kc)]) ∧ Mc.le Mb) ?_ ?_
        · skip
          refine s_region ?_
          refine o_q (q_fr fo42_2 rfl) rfl rfl rfl ?_
          refine o_q (q_ldm ag9 sz9 rfl (by repeat first | exact Mem.upd_self _ _ _ | assumption | refine Mem.upd_ne (by assumption) ?_) rfl (v_raw rfl)) rfl rfl rfl ?_
          refine o_q (q_fr fo42_2 rfl) rfl rfl rfl ?_
          refine o_q (q_ldm ag9 sz9 rfl (by repeat first | exact Mem.upd_self _ _ _ | assumption | refine Mem.upd_ne (by assumption) ?_) rfl (v_raw rfl)) rfl rfl rfl ?_
          refine o_q (q_lens rfl und9 rfl) rfl rfl rfl ?_
          refine o_q (q_min rfl rfl) rfl rfl rfl ?_
          rw [hmn]
          refine o_q (q_slstr und9 rfl rfl (Nat.min_le_left _ _)) rfl rfl rfl ?_
          refine o_q (q_fr fo42_2 rfl) rfl rfl rfl ?_
          refine o_store rfl (by repeat first | exact Mem.upd_self _ _ _ | assumption | refine Mem.upd_ne (by assumption) ?_) (by first | exact e_raw rfl | exact e_agg rfl | exact e_sl rfl | rfl) rfl sz9 rfl (Nat.le_of_ble_eq_true rfl) rfl rfl ?_
          refine o_nil ?_
          refine s_inv ?_
          exact ⟨_, _, St.mkT (kp (kp (kp (kp (kp (kp (kp rfl rfl) rfl) rfl) rfl) rfl) rfl) rfl).symm, Mem.upd_self _ _ _, leU (leU (leU (Mem.le_refl Mc) hB1) hB1) hB1⟩
        rintro S ⟨T, Mb, rfl, hMb, hleb⟩
        have hW1 := hW.le hleb
        have hBx : ¬ W B1 := fun h => hW.dk.own.2 B1 h hB1
        have hg := hW.dk.gd
        have hnd := hR.nd hg
        have hnl : nms.length ≤ 60 := by rw [← (w_list hR).2]; have := hR.dl; omega
        refine s_seq ?_
        refine s_region ?_
        refine o_q (q_as (v_raw rfl)) rfl rfl rfl ?_
        refine o_nil ?_
        refine s_seq ?_
        refine s_seq ?_
        refine s_region ?_
        refine o_q (q_as (v_raw rfl)) rfl rfl rfl ?_
        refine o_nil ?_
        refine s_block ?_
        refine s_loop (fun m S => ∃ T a, ∃ q : Nat, S = ⟨setT (setT (setT (setT (setT (setT (setT (setT (setT T 0 (.sl (deeds.map encDe) own)) 3 (bool true)) 4 (ptr d)) 6 (.sl (nms.map str) true)) 7 (X)) 8 (int (i : Nat))) 9 (ptr B1)) 10 (int a)) 11 (int (q : Nat)), Mb⟩ ∧ AtI nms deeds[i].a a q ∧ q ≤ nms.length ∧ m = nms.length - q) nms.length ?_ ?_
        · exact ⟨_, -1, 0, St.mkT (kp (kp (kp (kp (kp (kp (kp (kp (kp rfl rfl) rfl) rfl) rfl) rfl) rfl) rfl) rfl) rfl).symm, AtI.init, Nat.zero_le _, rfl⟩
        rintro m S ⟨T, a, q, rfl, hat, hq, rfl⟩
        refine s_seq ?_
        refine s_seq ?_
        refine s_region ?_
        refine o_q (q_mv (v_raw rfl)) rfl rfl rfl ?_
        refine o_q (q_mv (v_sl rfl)) rfl rfl rfl ?_
        refine o_q (q_len rfl und49 rfl) rfl rfl rfl ?_
        refine o_q (q_lss rfl rfl) rfl rfl rfl ?_
        refine o_nil ?_
        refine s_cond rfl (fun h3 => ?_) (fun h3 => ?_)
        · have k3 := h3; try simp only [decide_eq_true_eq, decide_eq_false_iff_not, Bool.not_eq_true', Bool.not_eq_false', Bool.not_true, Bool.not_false, List.length_map, Decidable.not_not] at k3
          have hq2 : q < nms.length := by omega
          refine s_skip ?_
          refine s_seq ?_
          refine s_block ?_
          refine s_seq ?_
          refine s_draw rfl ?_
          refine d_q rfl (q_mv (v_sl rfl)) rfl rfl rfl ?_
          refine d_q rfl (q_mv (v_raw rfl)) rfl rfl rfl ?_
          refine d_q rfl (q_idx und49 sz9 rfl rfl (by omega) (gm q (by first | omega | simp)) rfl) rfl rfl rfl ?_
          refine d_q rfl (q_ld ag9 sz9 rfl (gm q (by first | omega | simp)) rfl (v_raw rfl)) rfl rfl rfl ?_
          refine d_q rfl (q_fr fo42_1 rfl) rfl rfl rfl ?_
          refine d_q rfl (q_ldm ag9 sz9 rfl (by repeat first | exact Mem.upd_self _ _ _ | assumption | refine Mem.upd_ne (by assumption) ?_) rfl (v_raw rfl)) rfl rfl rfl ?_
          refine d_q rfl (q_seql rfl rfl) rfl rfl rfl ?_
          refine d_nil ?_
          refine s_cond rfl (fun h4 => ?_) (fun h4 => ?_)
          · have k4 := h4; try simp only [decide_eq_true_eq, decide_eq_false_iff_not, Bool.not_eq_true', Bool.not_eq_false', Bool.not_true, Bool.not_false, List.length_map, Decidable.not_not] at k4
            refine s_region ?_
            refine o_q (q_mv (v_raw rfl)) rfl rfl rfl ?_
            refine o_q (q_as (v_raw rfl)) rfl rfl rfl ?_
            refine o_nil ?_
            refine s_blk_normal ?_
            refine s_region ?_
            refine o_q (q_mv (v_raw rfl)) rfl rfl rfl ?_
            refine o_q (q_add rfl rfl (wrap64 (by omega) (by omega))) rfl rfl rfl ?_
            refine o_q (q_as (v_raw rfl)) rfl rfl rfl ?_
            refine o_nil ?_
            refine s_inv ?_
            exact ⟨nms.length - (q + 1), by omega, _, (q : Int), q + 1, St.mkT (kp (kp (kp (kp (kp (kp (kp (kp (kp rfl rfl) rfl) rfl) rfl) rfl) rfl) rfl) rfl) rfl).symm, AtI.hit hq2 (by assumption), by omega, rfl⟩
          · have k4 := h4; try simp only [decide_eq_true_eq, decide_eq_false_iff_not, Bool.not_eq_true', Bool.not_eq_false', Bool.not_true, Bool.not_false, List.length_map, Decidable.not_not] at k4
            refine s_skip ?_
            refine s_blk_normal ?_
            refine s_region ?_
            refine o_q (q_mv (v_raw rfl)) rfl rfl rfl ?_
            refine o_q (q_add rfl rfl (wrap64 (by omega) (by omega))) rfl rfl rfl ?_
            refine o_q (q_as (v_raw rfl)) rfl rfl rfl ?_
            refine o_nil ?_
            refine s_inv ?_
            exact ⟨nms.length - (q + 1), by omega, _, a, q + 1, St.mkT (kp (kp (kp (kp (kp (kp (kp (kp (kp rfl rfl) rfl) rfl) rfl) rfl) rfl) rfl) rfl) rfl).symm, hat.miss hq2 (by assumption), by omega, rfl⟩
        · have k3 := h3; try simp only [decide_eq_true_eq, decide_eq_false_iff_not, Bool.not_eq_true', Bool.not_eq_false', Bool.not_true, Bool.not_false, List.length_map, Decidable.not_not] at k3
          have hqe : q = nms.length := by omega
          subst hqe
          have hat2 := hat.fin
          have hab := hat.bd
          refine s_exit ?_
          refine s_code_exit ?_
          refine s_inv_exit ?_
          refine s_blk_here ?_
          refine s_seq ?_
          refine s_region ?_
          refine o_q (q_fr fo42_0 rfl) rfl rfl rfl ?_
          refine o_q (q_ldm ag3 sz3 rfl (by repeat first | exact Mem.upd_self _ _ _ | assumption | refine Mem.upd_ne (by assumption) ?_) rfl (v_raw rfl)) rfl rfl rfl ?_
          refine o_call ((snd18 deeds[i].kind 7 _ (by decide) (by decide) hdei.1)) goes18 (ac (v_raw rfl) (ac (v_raw rfl) ac_nil)) rfl ?_
          refine o_nil ?_
          refine s_block ?_
          refine s_seq ?_
          refine s_region ?_
          refine o_q (q_eql rfl rfl) rfl rfl rfl ?_
          refine o_q (q_as (v_raw rfl)) rfl rfl rfl ?_
          refine o_nil ?_
          refine s_cond rfl (fun h5 => ?_) (fun h5 => ?_)
          · have k5 := h5; try simp only [decide_eq_true_eq, decide_eq_false_iff_not, Bool.not_eq_true', Bool.not_eq_false', Bool.not_true, Bool.not_false, List.length_map, Decidable.not_not] at k5
            obtain ⟨c, z, e⟩ : ∃ k z, s.create deeds[i].a = (k, z) := ⟨_, _, rfl⟩
            obtain ⟨hc1, hc2, hc3⟩ := w_create hR hg (by omega) e
            have hchk := chk1 hc1 hat2
            refine s_seq ?_
            refine s_region ?_
            refine o_q (q_mv ((by first | exact v_raw rfl | exact v_sptr rfl))) rfl rfl rfl ?_
            refine o_q (q_fr fo42_1 rfl) rfl rfl rfl ?_
            refine o_q (q_ldm ag9 sz9 rfl (by repeat first | exact Mem.upd_self _ _ _ | assumption | refine Mem.upd_ne (by assumption) ?_) rfl (v_raw rfl)) rfl rfl rfl ?_
            refine o_callx ((create_at hW1.dk (by omega) e)) goes11 (ac ((by first | exact v_raw rfl | exact v_sptr rfl)) (ac (v_raw rfl) ac_nil)) rfl ?_
            rintro r2 M2 ⟨rfl, hA2⟩
            obtain ⟨O2, W2, hW2, hw2⟩ := hW1.aft hA2
            have hM2 : M2 B1 = some (.cells [int deeds[i].kind, str deeds[i].a, str (deeds[i].b.extract 0 (min deeds[i].b.size 1000)), int deeds[i].n, .raw (.slice deeds[i].kb deeds[i].kn deeds[i].kc)]) := (hA2.keep (by rw [hMb]; exact fun h => by cases h) (fun h => hBx (hW1.dk.own.1 B1 h))).trans hMb
            have hBx2 : ¬ W2 B1 := fun h => (hw2 B1 h).elim hBx (by rw [hMb]; exact fun h => by cases h)
            refine o_q (q_as (v_raw rfl)) rfl rfl rfl ?_
            refine o_nil ?_
            refine s_seq ?_
            refine s_seq ?_
            refine s_region ?_
            refine o_q (q_mv (v_raw rfl)) rfl rfl rfl ?_
            refine o_q (q_eql rfl rfl) rfl rfl rfl ?_
            refine o_nil ?_
            refine s_cond rfl (fun h6 => ?_) (fun h6 => ?_)
            · have k6 := h6; try simp only [decide_eq_true_eq, decide_eq_false_iff_not, Bool.not_eq_true', Bool.not_eq_false', Bool.not_true, Bool.not_false, List.length_map, Decidable.not_not] at k6
              refine s_seq ?_
              refine s_region ?_
              refine o_qs (q_mv_own rfl) rfl rfl rfl rfl ?_
              refine o_q (q_fr fo42_1 rfl) rfl rfl rfl ?_
              refine o_q (q_ldm ag9 sz9 rfl (by repeat first | exact Mem.upd_self _ _ _ | assumption | refine Mem.upd_ne (by assumption) ?_) rfl (v_raw rfl)) rfl rfl rfl ?_
              refine o_q (q_bs slt49 (pc (v_raw rfl) pn) rfl (Els.cons rfl rfl Els.nil) (by decide)) rfl rfl rfl ?_
              refine o_qs (q_app slt49 rfl rfl rfl rfl (by first | exact Els.map fun _ => ⟨rfl, rfl⟩ | exact els_td) (by first | exact (by first | exact Els.map fun _ => ⟨rfl, rfl⟩ | exact els_td) | exact Els.cons rfl rfl Els.nil) (by simp; omega)) rfl rfl rfl rfl ?_
              refine o_qs (q_as_own rfl) rfl rfl rfl rfl ?_
              refine o_nil ?_
              refine s_region ?_
              refine o_qs (q_mv_own rfl) rfl rfl rfl rfl ?_
              refine o_q (q_bs slt49 (pc (v_raw rfl) pn) rfl (Els.cons rfl rfl Els.nil) (by decide)) rfl rfl rfl ?_
              refine hW2.append (ms := [⟨#[]⟩]) slt49 rfl rfl zc9 rfl (src_sl rfl) (by have := hR.ln; simp only [List.length_cons, List.length_nil]; omega) (fun v3 M3 W3 hW3 hM3 => ?_)
              have hM2 := (hM3 B1 (by rw [hM2]; exact fun h => by cases h) hBx2).trans hM2
              refine o_qs (q_as_own rfl) rfl rfl rfl rfl ?_
              refine o_nil ?_
              refine s_seq ?_
              refine s_region ?_
              refine o_q (q_mv (v_raw rfl)) rfl rfl rfl ?_
              refine o_q (q_eql rfl rfl) rfl rfl rfl ?_
              refine o_q (q_mv (v_raw rfl)) rfl rfl rfl ?_
              refine o_q (q_lss rfl rfl) rfl rfl rfl ?_
              refine o_q (q_mv (v_raw rfl)) rfl rfl rfl ?_
              refine o_cases (want := true) (j := 4) rfl rfl (fun h7 => ?_) (fun h7 => ?_)
              · have k7 := h7; try simp only [decide_eq_true_eq, decide_eq_false_iff_not, Bool.not_eq_true', Bool.not_eq_false', Bool.not_true, Bool.not_false, List.length_map, Decidable.not_not] at k7
                refine o_yes rfl rfl rfl h7 ?_
                refine o_q (q_fr fo42_1 rfl) rfl rfl rfl ?_
                refine o_yes rfl rfl rfl h7 ?_
                refine o_q (q_ldm ag9 sz9 rfl (by repeat first | exact Mem.upd_self _ _ _ | assumption | refine Mem.upd_ne (by assumption) ?_) rfl (v_raw rfl)) rfl rfl rfl ?_
                refine o_yes rfl rfl rfl h7 ?_
                refine o_q (q_lens rfl und9 rfl) rfl rfl rfl ?_
                refine o_yes rfl rfl rfl h7 ?_
                refine o_q (q_geq rfl rfl) rfl rfl rfl ?_
                refine o_q (q_pick_c (t := true) rfl h7 (v_raw rfl)) rfl rfl rfl ?_
                refine o_q (q_mv (v_raw rfl)) rfl rfl rfl ?_
                refine o_cases (want := true) (j := 10) rfl rfl (fun h8 => ?_) (fun h8 => ?_)
                · have k8 := h8; try simp only [decide_eq_true_eq, decide_eq_false_iff_not, Bool.not_eq_true', Bool.not_eq_false', Bool.not_true, Bool.not_false, List.length_map, Decidable.not_not] at k8
                  refine o_yes rfl rfl rfl h8 ?_
                  refine o_q (q_fr fo42_1 rfl) rfl rfl rfl ?_
                  refine o_yes rfl rfl rfl h8 ?_
                  refine o_q (q_ldm ag9 sz9 rfl (by repeat first | exact Mem.upd_self _ _ _ | assumption | refine Mem.upd_ne (by assumption) ?_) rfl (v_raw rfl)) rfl rfl rfl ?_
                  refine o_yes rfl rfl rfl h8 ?_
                  refine o_q (q_lens rfl und9 rfl) rfl rfl rfl ?_
                  refine o_yes rfl rfl rfl h8 ?_
                  refine o_q (q_leq rfl rfl) rfl rfl rfl ?_
                  refine o_q (q_pick_c (t := true) rfl h8 (v_raw rfl)) rfl rfl rfl ?_
                  refine o_q (q_bneq und4 rfl rfl) rfl rfl rfl ?_
                  refine o_nil ?_
                  refine s_cond rfl (fun h9 => ?_) (fun h9 => ?_)
                  · have k9 := h9; try simp only [decide_eq_true_eq, decide_eq_false_iff_not, Bool.not_eq_true', Bool.not_eq_false', Bool.not_true, Bool.not_false, List.length_map, Decidable.not_not] at k9
                    exfalso
                    rcases Decidable.em (c = 0) with q9 | q9
                    · have q8 := hchk.1 q9
                      simp [q9] at h9 <;> omega
                    · simp [q9] at h9 <;> exact q9 (hchk.2 ⟨by omega, by omega, by omega⟩)
                  · have k9 := h9; try simp only [decide_eq_true_eq, decide_eq_false_iff_not, Bool.not_eq_true', Bool.not_eq_false', Bool.not_true, Bool.not_false, List.length_map, Decidable.not_not] at k9
                    refine s_skip ?_
                    refine s_blk_normal ?_
                    refine s_blk_normal ?_
                    refine s_region ?_
                    refine o_q (q_mv (v_raw rfl)) rfl rfl rfl ?_
                    refine o_q (q_add rfl rfl (wrap64 (by omega) (by omega))) rfl rfl rfl ?_
                    refine o_q (q_as (v_raw rfl)) rfl rfl rfl ?_
                    refine o_nil ?_
                    refine s_inv ?_
                    first
                    | exact ⟨60 - (i + 1), by omega, _, _, z, O2, W2, _, nms, (bys.set k (bys[k] ++ (deeds[i].b.extract 0 (min deeds[i].b.size 1000)))), i + 1, St.mkT (kp (kp (kp (kp (kp (kp rfl rfl) rfl) rfl) rfl) rfl) rfl).symm, (hW2.set hbM htk hc0 hkb _), hc3, by omega, rfl⟩
                    | exact ⟨60 - (i + 1), by omega, _, _, z, O2, W2, _, nms, (bys.set k (bys[k].extract 0 deeds[i].n.toNat)), i + 1, St.mkT (kp (kp (kp (kp (kp (kp rfl rfl) rfl) rfl) rfl) rfl) rfl).symm, (hW2.set hbM htk hc0 hkb _), hz, by omega, rfl⟩
                    | (obtain ⟨W4, hW4⟩ := hW2.anew hg4 hle4 hgo4; exact ⟨60 - (i + 1), by omega, _, M4, z, O2, W4, (.raw v4), (nms.take k ++ nms.drop (k + 1)), (bys.take k ++ bys.drop (k + 1)), i + 1, St.mkT (kp (kp (kp (kp (kp (kp rfl rfl) rfl) rfl) (congrArg (fun z => AVal.sl z true) (by rw [List.take_length, List.drop_zero, List.map_append, List.map_take, List.map_drop]))) rfl) rfl).symm, hW4, hc3, by omega, rfl⟩)
                    | exact ⟨60 - (i + 1), by omega, _, M3, z, O2, W3, (.raw v3), (nms ++ [deeds[i].a]), (bys ++ [⟨#[]⟩]), i + 1, St.mkT (kp (kp (kp (kp (kp (kp rfl rfl) rfl) rfl) (show AVal.sl (nms.map str ++ [str deeds[i].a]) true = AVal.sl ((nms ++ [deeds[i].a]).map str) true by rw [List.map_append]; rfl)) rfl) rfl).symm, hW3, (hc2 (by assumption)), by omega, rfl⟩
                    | exact ⟨60 - (i + 1), by omega, _, M2, z, O2, W2, X, nms, bys, i + 1, St.mkT (kp (kp (kp (kp (kp (kp rfl rfl) rfl) rfl) rfl) rfl) rfl).symm, hW2, hz, by omega, rfl⟩
                    | exact ⟨60 - (i + 1), by omega, _, M2, z, O2, W2, X, nms, bys, i + 1, St.mkT (kp (kp (kp (kp (kp (kp rfl rfl) rfl) rfl) rfl) rfl) rfl).symm, hW2, (by rw [hc3 (by assumption)]; exact hR.mono), by omega, rfl⟩
                    | exact ⟨60 - (i + 1), by omega, _, M2, z, O2, W2, X, nms, bys, i + 1, St.mkT (kp (kp (kp (kp (kp (kp rfl rfl) rfl) rfl) rfl) rfl) rfl).symm, hW2, (by rw [hc1 (by assumption)]; exact hR.mono), by omega, rfl⟩
                    | exact ⟨60 - (i + 1), by omega, _, M2, z, O2, W2, X, nms, bys, i + 1, St.mkT (kp (kp (kp (kp (kp (kp rfl rfl) rfl) rfl) rfl) rfl) rfl).symm, hW2, (by rw [(hc1 (hat2.neg.1 (by omega))).2]; exact hR.mono), by omega, rfl⟩
                · have k8 := h8; try simp only [decide_eq_true_eq, decide_eq_false_iff_not, Bool.not_eq_true', Bool.not_eq_false', Bool.not_true, Bool.not_false, List.length_map, Decidable.not_not] at k8
                  refine o_no rfl rfl rfl rfl h8 ?_
                  refine o_no rfl rfl rfl rfl h8 ?_
                  refine o_no rfl rfl rfl rfl h8 ?_
                  refine o_no rfl rfl rfl rfl h8 ?_
                  refine o_q (q_pick_c (t := false) rfl h8 (v_raw rfl)) rfl rfl rfl ?_
                  refine o_q (q_bneq und4 rfl rfl) rfl rfl rfl ?_
                  refine o_nil ?_
                  refine s_cond rfl (fun h10 => ?_) (fun h10 => ?_)
                  · have k10 := h10; try simp only [decide_eq_true_eq, decide_eq_false_iff_not, Bool.not_eq_true', Bool.not_eq_false', Bool.not_true, Bool.not_false, List.length_map, Decidable.not_not] at k10
                    exfalso
                    rcases Decidable.em (c = 0) with q9 | q9
                    · have q8 := hchk.1 q9
                      simp [q9] at h10 <;> omega
                    · simp [q9] at h10 <;> exact q9 (hchk.2 ⟨by omega, by omega, by omega⟩)
                  · have k10 := h10; try simp only [decide_eq_true_eq, decide_eq_false_iff_not, Bool.not_eq_true', Bool.not_eq_false', Bool.not_true, Bool.not_false, List.length_map, Decidable.not_not] at k10
                    refine s_skip ?_
                    refine s_blk_normal ?_
                    refine s_blk_normal ?_
                    refine s_region ?_
                    refine o_q (q_mv (v_raw rfl)) rfl rfl rfl ?_
                    refine o_q (q_add rfl rfl (wrap64 (by omega) (by omega))) rfl rfl rfl ?_
                    refine o_q (q_as (v_raw rfl)) rfl rfl rfl ?_
                    refine o_nil ?_
                    refine s_inv ?_
                    first
                    | exact ⟨60 - (i + 1), by omega, _, _, z, O2, W2, _, nms, (bys.set k (bys[k] ++ (deeds[i].b.extract 0 (min deeds[i].b.size 1000)))), i + 1, St.mkT (kp (kp (kp (kp (kp (kp rfl rfl) rfl) rfl) rfl) rfl) rfl).symm, (hW2.set hbM htk hc0 hkb _), hc3, by omega, rfl⟩
                    | exact ⟨60 - (i + 1), by omega, _, _, z, O2, W2, _, nms, (bys.set k (bys[k].extract 0 deeds[i].n.toNat)), i + 1, St.mkT (kp (kp (kp (kp (kp (kp rfl rfl) rfl) rfl) rfl) rfl) rfl).symm, (hW2.set hbM htk hc0 hkb _), hz, by omega, rfl⟩
                    | (obtain ⟨W4, hW4⟩ := hW2.anew hg4 hle4 hgo4; exact ⟨60 - (i + 1), by omega, _, M4, z, O2, W4, (.raw v4), (nms.take k ++ nms.drop (k + 1)), (bys.take k ++ bys.drop (k + 1)), i + 1, St.mkT (kp (kp (kp (kp (kp (kp rfl rfl) rfl) rfl) (congrArg (fun z => AVal.sl z true) (by rw [List.take_length, List.drop_zero, List.map_append, List.map_take, List.map_drop]))) rfl) rfl).symm, hW4, hc3, by omega, rfl⟩)
                    | exact ⟨60 - (i + 1), by omega, _, M3, z, O2, W3, (.raw v3), (nms ++ [deeds[i].a]), (bys ++ [⟨#[]⟩]), i + 1, St.mkT (kp (kp (kp (kp (kp (kp rfl rfl) rfl) rfl) (show AVal.sl (nms.map str ++ [str deeds[i].a]) true = AVal.sl ((nms ++ [deeds[i].a]).map str) true by rw [List.map_append]; rfl)) rfl) rfl).symm, hW3, (hc2 (by assumption)), by omega, rfl⟩
                    | exact ⟨60 - (i + 1), by omega, _, M2, z, O2, W2, X, nms, bys, i + 1, St.mkT (kp (kp (kp (kp (kp (kp rfl rfl) rfl) rfl) rfl) rfl) rfl).symm, hW2, hz, by omega, rfl⟩
                    | exact ⟨60 - (i + 1), by omega, _, M2, z, O2, W2, X, nms, bys, i + 1, St.mkT (kp (kp (kp (kp (kp (kp rfl rfl) rfl) rfl) rfl) rfl) rfl).symm, hW2, (by rw [hc3 (by assumption)]; exact hR.mono), by omega, rfl⟩
                    | exact ⟨60 - (i + 1), by omega, _, M2, z, O2, W2, X, nms, bys, i + 1, St.mkT (kp (kp (kp (kp (kp (kp rfl rfl) rfl) rfl) rfl) rfl) rfl).symm, hW2, (by rw [hc1 (by assumption)]; exact hR.mono), by omega, rfl⟩
                    | exact ⟨60 - (i + 1), by omega, _, M2, z, O2, W2, X, nms, bys, i + 1, St.mkT (kp (kp (kp (kp (kp (kp rfl rfl) rfl) rfl) rfl) rfl) rfl).symm, hW2, (by rw [(hc1 (hat2.neg.1 (by omega))).2]; exact hR.mono), by omega, rfl⟩
              · have k7 := h7; try simp only [decide_eq_true_eq, decide_eq_false_iff_not, Bool.not_eq_true', Bool.not_eq_false', Bool.not_true, Bool.not_false, List.length_map, Decidable.not_not] at k7
                refine o_no rfl rfl rfl rfl h7 ?_
                refine o_no rfl rfl rfl rfl h7 ?_
                refine o_no rfl rfl rfl rfl h7 ?_
                refine o_no rfl rfl rfl rfl h7 ?_
                refine o_q (q_pick_c (t := false) rfl h7 (v_raw rfl)) rfl rfl rfl ?_
                refine o_q (q_mv (v_raw rfl)) rfl rfl rfl ?_
                refine o_no rfl rfl rfl rfl rfl ?_
                refine o_no rfl rfl rfl rfl rfl ?_
                refine o_no rfl rfl rfl rfl rfl ?_
                refine o_no rfl rfl rfl rfl rfl ?_
                refine o_q (q_pick_c (t := false) rfl rfl (v_raw rfl)) rfl rfl rfl ?_
                refine o_q (q_bneq und4 rfl rfl) rfl rfl rfl ?_
                refine o_nil ?_
                refine s_cond rfl (fun h11 => ?_) (fun h11 => ?_)
                · have k11 := h11; try simp only [decide_eq_true_eq, decide_eq_false_iff_not, Bool.not_eq_true', Bool.not_eq_false', Bool.not_true, Bool.not_false, List.length_map, Decidable.not_not] at k11
                  exfalso
                  rcases Decidable.em (c = 0) with q9 | q9
                  · have q8 := hchk.1 q9
                    simp [q9] at h11 <;> omega
                  · simp [q9] at h11 <;> exact q9 (hchk.2 ⟨by omega, by omega, by omega⟩)
                · have k11 := h11; try simp only [decide_eq_true_eq, decide_eq_false_iff_not, Bool.not_eq_true', Bool.not_eq_false', Bool.not_true, Bool.not_false, List.length_map, Decidable.not_not] at k11
                  refine s_skip ?_
                  refine s_blk_normal ?_
                  refine s_blk_normal ?_
                  refine s_region ?_
                  refine o_q (q_mv (v_raw rfl)) rfl rfl rfl ?_
                  refine o_q (q_add rfl rfl (wrap64 (by omega) (by omega))) rfl rfl rfl ?_
                  refine o_q (q_as (v_raw rfl)) rfl rfl rfl ?_
                  refine o_nil ?_
                  refine s_inv ?_
                  first
                  | exact ⟨60 - (i + 1), by omega, _, _, z, O2, W2, _, nms, (bys.set k (bys[k] ++ (deeds[i].b.extract 0 (min deeds[i].b.size 1000)))), i + 1, St.mkT (kp (kp (kp (kp (kp (kp rfl rfl) rfl) rfl) rfl) rfl) rfl).symm, (hW2.set hbM htk hc0 hkb _), hc3, by omega, rfl⟩
                  | exact ⟨60 - (i + 1), by omega, _, _, z, O2, W2, _, nms, (bys.set k (bys[k].extract 0 deeds[i].n.toNat)), i + 1, St.mkT (kp (kp (kp (kp (kp (kp rfl rfl) rfl) rfl) rfl) rfl) rfl).symm, (hW2.set hbM htk hc0 hkb _), hz, by omega, rfl⟩
                  | (obtain ⟨W4, hW4⟩ := hW2.anew hg4 hle4 hgo4; exact ⟨60 - (i + 1), by omega, _, M4, z, O2, W4, (.raw v4), (nms.take k ++ nms.drop (k + 1)), (bys.take k ++ bys.drop (k + 1)), i + 1, St.mkT (kp (kp (kp (kp (kp (kp rfl rfl) rfl) rfl) (congrArg (fun z => AVal.sl z true) (by rw [List.take_length, List.drop_zero, List.map_append, List.map_take, List.map_drop]))) rfl) rfl).symm, hW4, hc3, by omega, rfl⟩)
                  | exact ⟨60 - (i + 1), by omega, _, M3, z, O2, W3, (.raw v3), (nms ++ [deeds[i].a]), (bys ++ [⟨#[]⟩]), i + 1, St.mkT (kp (kp (kp (kp (kp (kp rfl rfl) rfl) rfl) (show AVal.sl (nms.map str ++ [str deeds[i].a]) true = AVal.sl ((nms ++ [deeds[i].a]).map str) true by rw [List.map_append]; rfl)) rfl) rfl).symm, hW3, (hc2 (by assumption)), by omega, rfl⟩
                  | exact ⟨60 - (i + 1), by omega, _, M2, z, O2, W2, X, nms, bys, i + 1, St.mkT (kp (kp (kp (kp (kp (kp rfl rfl) rfl) rfl) rfl) rfl) rfl).symm, hW2, hz, by omega, rfl⟩
                  | exact ⟨60 - (i + 1), by omega, _, M2, z, O2, W2, X, nms, bys, i + 1, St.mkT (kp (kp (kp (kp (kp (kp rfl rfl) rfl) rfl) rfl) rfl) rfl).symm, hW2, (by rw [hc3 (by assumption)]; exact hR.mono), by omega, rfl⟩
                  | exact ⟨60 - (i + 1), by omega, _, M2, z, O2, W2, X, nms, bys, i + 1, St.mkT (kp (kp (kp (kp (kp (kp rfl rfl) rfl) rfl) rfl) rfl) rfl).symm, hW2, (by rw [hc1 (by assumption)]; exact hR.mono), by omega, rfl⟩
                  | exact ⟨60 - (i + 1), by omega, _, M2, z, O2, W2, X, nms, bys, i + 1, St.mkT (kp (kp (kp (kp (kp (kp rfl rfl) rfl) rfl) rfl) rfl) rfl).symm, hW2, (by rw [(hc1 (hat2.neg.1 (by omega))).2]; exact hR.mono), by omega, rfl⟩
            · have k6 := h6; try simp only [decide_eq_true_eq, decide_eq_false_iff_not, Bool.not_eq_true', Bool.not_eq_false', Bool.not_true, Bool.not_false, List.length_map, Decidable.not_not] at k6
              refine s_skip ?_
              refine s_seq ?_
              refine s_region ?_
              refine o_q (q_mv (v_raw rfl)) rfl rfl rfl ?_
              refine o_q (q_eql rfl rfl) rfl rfl rfl ?_
              refine o_q (q_mv (v_raw rfl)) rfl rfl rfl ?_
              refine o_q (q_lss rfl rfl) rfl rfl rfl ?_
              refine o_q (q_mv (v_raw rfl)) rfl rfl rfl ?_
              refine o_cases (want := true) (j := 4) rfl rfl (fun h12 => ?_) (fun h12 => ?_)
              · have k12 := h12; try simp only [decide_eq_true_eq, decide_eq_false_iff_not, Bool.not_eq_true', Bool.not_eq_false', Bool.not_true, Bool.not_false, List.length_map, Decidable.not_not] at k12
                refine o_yes rfl rfl rfl h12 ?_
                refine o_q (q_fr fo42_1 rfl) rfl rfl rfl ?_
                refine o_yes rfl rfl rfl h12 ?_
                refine o_q (q_ldm ag9 sz9 rfl (by repeat first | exact Mem.upd_self _ _ _ | assumption | refine Mem.upd_ne (by assumption) ?_) rfl (v_raw rfl)) rfl rfl rfl ?_
                refine o_yes rfl rfl rfl h12 ?_
                refine o_q (q_lens rfl und9 rfl) rfl rfl rfl ?_
                refine o_yes rfl rfl rfl h12 ?_
                refine o_q (q_geq rfl rfl) rfl rfl rfl ?_
                refine o_q (q_pick_c (t := true) rfl h12 (v_raw rfl)) rfl rfl rfl ?_
                refine o_q (q_mv (v_raw rfl)) rfl rfl rfl ?_
                refine o_cases (want := true) (j := 10) rfl rfl (fun h13 => ?_) (fun h13 => ?_)
                · have k13 := h13; try simp only [decide_eq_true_eq, decide_eq_false_iff_not, Bool.not_eq_true', Bool.not_eq_false', Bool.not_true, Bool.not_false, List.length_map, Decidable.not_not] at k13
                  refine o_yes rfl rfl rfl h13 ?_
                  refine o_q (q_fr fo42_1 rfl) rfl rfl rfl ?_
                  refine o_yes rfl rfl rfl h13 ?_
                  refine o_q (q_ldm ag9 sz9 rfl (by repeat first | exact Mem.upd_self _ _ _ | assumption | refine Mem.upd_ne (by assumption) ?_) rfl (v_raw rfl)) rfl rfl rfl ?_
                  refine o_yes rfl rfl rfl h13 ?_
                  refine o_q (q_lens rfl und9 rfl) rfl rfl rfl ?_
                  refine o_yes rfl rfl rfl h13 ?_
                  refine o_q (q_leq rfl rfl) rfl rfl rfl ?_
                  refine o_q (q_pick_c (t := true) rfl h13 (v_raw rfl)) rfl rfl rfl ?_
                  refine o_q (q_bneq und4 rfl rfl) rfl rfl rfl ?_
                  refine o_nil ?_
                  refine s_cond rfl (fun h14 => ?_) (fun h14 => ?_)
                  · have k14 := h14; try simp only [decide_eq_true_eq, decide_eq_false_iff_not, Bool.not_eq_true', Bool.not_eq_false', Bool.not_true, Bool.not_false, List.length_map, Decidable.not_not] at k14
                    exfalso
                    rcases Decidable.em (c = 0) with q9 | q9
                    · have q8 := hchk.1 q9
                      simp [q9] at h14 <;> omega
                    · simp [q9] at h14 <;> exact q9 (hchk.2 ⟨by omega, by omega, by omega⟩)
                  · have k14 := h14; try simp only [decide_eq_true_eq, decide_eq_false_iff_not, Bool.not_eq_true', Bool.not_eq_false', Bool.not_true, Bool.not_false, List.length_map, Decidable.not_not] at k14
                    refine s_skip ?_
                    refine s_blk_normal ?_
                    refine s_blk_normal ?_
                    refine s_region ?_
                    refine o_q (q_mv (v_raw rfl)) rfl rfl rfl ?_
                    refine o_q (q_add rfl rfl (wrap64 (by omega) (by omega))) rfl rfl rfl ?_
                    refine o_q (q_as (v_raw rfl)) rfl rfl rfl ?_
                    refine o_nil ?_
                    refine s_inv ?_
                    first
                    | exact ⟨60 - (i + 1), by omega, _, _, z, O2, W2, _, nms, (bys.set k (bys[k] ++ (deeds[i].b.extract 0 (min deeds[i].b.size 1000)))), i + 1, St.mkT (kp (kp (kp (kp (kp (kp rfl rfl) rfl) rfl) rfl) rfl) rfl).symm, (hW2.set hbM htk hc0 hkb _), hc3, by omega, rfl⟩
                    | exact ⟨60 - (i + 1), by omega, _, _, z, O2, W2, _, nms, (bys.set k (bys[k].extract 0 deeds[i].n.toNat)), i + 1, St.mkT (kp (kp (kp (kp (kp (kp rfl rfl) rfl) rfl) rfl) rfl) rfl).symm, (hW2.set hbM htk hc0 hkb _), hz, by omega, rfl⟩
                    | (obtain ⟨W4, hW4⟩ := hW2.anew hg4 hle4 hgo4; exact ⟨60 - (i + 1), by omega, _, M4, z, O2, W4, (.raw v4), (nms.take k ++ nms.drop (k + 1)), (bys.take k ++ bys.drop (k + 1)), i + 1, St.mkT (kp (kp (kp (kp (kp (kp rfl rfl) rfl) rfl) (congrArg (fun z => AVal.sl z true) (by rw [List.take_length, List.drop_zero, List.map_append, List.map_take, List.map_drop]))) rfl) rfl).symm, hW4, hc3, by omega, rfl⟩)
                    | exact ⟨60 - (i + 1), by omega, _, M3, z, O2, W3, (.raw v3), (nms ++ [deeds[i].a]), (bys ++ [⟨#[]⟩]), i + 1, St.mkT (kp (kp (kp (kp (kp (kp rfl rfl) rfl) rfl) (show AVal.sl (nms.map str ++ [str deeds[i].a]) true = AVal.sl ((nms ++ [deeds[i].a]).map str) true by rw [List.map_append]; rfl)) rfl) rfl).symm, hW3, (hc2 (by assumption)), by omega, rfl⟩
                    | exact ⟨60 - (i + 1), by omega, _, M2, z, O2, W2, X, nms, bys, i + 1, St.mkT (kp (kp (kp (kp (kp (kp rfl rfl) rfl) rfl) rfl) rfl) rfl).symm, hW2, hz, by omega, rfl⟩
                    | exact ⟨60 - (i + 1), by omega, _, M2, z, O2, W2, X, nms, bys, i + 1, St.mkT (kp (kp (kp (kp (kp (kp rfl rfl) rfl) rfl) rfl) rfl) rfl).symm, hW2, (by rw [hc3 (by assumption)]; exact hR.mono), by omega, rfl⟩
                    | exact ⟨60 - (i + 1), by omega, _, M2, z, O2, W2, X, nms, bys, i + 1, St.mkT (kp (kp (kp (kp (kp (kp rfl rfl) rfl) rfl) rfl) rfl) rfl).symm, hW2, (by rw [hc1 (by assumption)]; exact hR.mono), by omega, rfl⟩
                    | exact ⟨60 - (i + 1), by omega, _, M2, z, O2, W2, X, nms, bys, i + 1, St.mkT (kp (kp (kp (kp (kp (kp rfl rfl) rfl) rfl) rfl) rfl) rfl).symm, hW2, (by rw [(hc1 (hat2.neg.1 (by omega))).2]; exact hR.mono), by omega, rfl⟩
                · have k13 := h13; try simp only [decide_eq_true_eq, decide_eq_false_iff_not, Bool.not_eq_true', Bool.not_eq_false', Bool.not_true, Bool.not_false, List.length_map, Decidable.not_not] at k13
                  refine o_no rfl rfl rfl rfl h13 ?_
                  refine o_no rfl rfl rfl rfl h13 ?_
                  refine o_no rfl rfl rfl rfl h13 ?_
                  refine o_no rfl rfl rfl rfl h13 ?_
                  refine o_q (q_pick_c (t := false) rfl h13 (v_raw rfl)) rfl rfl rfl ?_
                  refine o_q (q_bneq und4 rfl rfl) rfl rfl rfl ?_
                  refine o_nil ?_
                  refine s_cond rfl (fun h15 => ?_) (fun h15 => ?_)
                  · have k15 := h15; try simp only [decide_eq_true_eq, decide_eq_false_iff_not, Bool.not_eq_true', Bool.not_eq_false', Bool.not_true, Bool.not_false, List.length_map, Decidable.not_not] at k15
                    exfalso
                    rcases Decidable.em (c = 0) with q9 | q9
                    · have q8 := hchk.1 q9
                      simp [q9] at h15 <;> omega
                    · simp [q9] at h15 <;> exact q9 (hchk.2 ⟨by omega, by omega, by omega⟩)
                  · have k15 := h15; try simp only [decide_eq_true_eq, decide_eq_false_iff_not, Bool.not_eq_true', Bool.not_eq_false', Bool.not_true, Bool.not_false, List.length_map, Decidable.not_not] at k15
                    refine s_skip ?_
                    refine s_blk_normal ?_
                    refine s_blk_normal ?_
                    refine s_region ?_
                    refine o_q (q_mv (v_raw rfl)) rfl rfl rfl ?_
                    refine o_q (q_add rfl rfl (wrap64 (by omega) (by omega))) rfl rfl rfl ?_
                    refine o_q (q_as (v_raw rfl)) rfl rfl rfl ?_
                    refine o_nil ?_
                    refine s_inv ?_
                    first
                    | exact ⟨60 - (i + 1), by omega, _, _, z, O2, W2, _, nms, (bys.set k (bys[k] ++ (deeds[i].b.extract 0 (min deeds[i].b.size 1000)))), i + 1, St.mkT (kp (kp (kp (kp (kp (kp rfl rfl) rfl) rfl) rfl) rfl) rfl).symm, (hW2.set hbM htk hc0 hkb _), hc3, by omega, rfl⟩
                    | exact ⟨60 - (i + 1), by omega, _, _, z, O2, W2, _, nms, (bys.set k (bys[k].extract 0 deeds[i].n.toNat)), i + 1, St.mkT (kp (kp (kp (kp (kp (kp rfl rfl) rfl) rfl) rfl) rfl) rfl).symm, (hW2.set hbM htk hc0 hkb _), hz, by omega, rfl⟩
                    | (obtain ⟨W4, hW4⟩ := hW2.anew hg4 hle4 hgo4; exact ⟨60 - (i + 1), by omega, _, M4, z, O2, W4, (.raw v4), (nms.take k ++ nms.drop (k + 1)), (bys.take k ++ bys.drop (k + 1)), i + 1, St.mkT (kp (kp (kp (kp (kp (kp rfl rfl) rfl) rfl) (congrArg (fun z => AVal.sl z true) (by rw [List.take_length, List.drop_zero, List.map_append, List.map_take, List.map_drop]))) rfl) rfl).symm, hW4, hc3, by omega, rfl⟩)
                    | exact ⟨60 - (i + 1), by omega, _, M3, z, O2, W3, (.raw v3), (nms ++ [deeds[i].a]), (bys ++ [⟨#[]⟩]), i + 1, St.mkT (kp (kp (kp (kp (kp (kp rfl rfl) rfl) rfl) (show AVal.sl (nms.map str ++ [str deeds[i].a]) true = AVal.sl ((nms ++ [deeds[i].a]).map str) true by rw [List.map_append]; rfl)) rfl) rfl).symm, hW3, (hc2 (by assumption)), by omega, rfl⟩
                    | exact ⟨60 - (i + 1), by omega, _, M2, z, O2, W2, X, nms, bys, i + 1, St.mkT (kp (kp (kp (kp (kp (kp rfl rfl) rfl) rfl) rfl) rfl) rfl).symm, hW2, hz, by omega, rfl⟩
                    | exact ⟨60 - (i + 1), by omega, _, M2, z, O2, W2, X, nms, bys, i + 1, St.mkT (kp (kp (kp (kp (kp (kp rfl rfl) rfl) rfl) rfl) rfl) rfl).symm, hW2, (by rw [hc3 (by assumption)]; exact hR.mono), by omega, rfl⟩
                    | exact ⟨60 - (i + 1), by omega, _, M2, z, O2, W2, X, nms, bys, i + 1, St.mkT (kp (kp (kp (kp (kp (kp rfl rfl) rfl) rfl) rfl) rfl) rfl).symm, hW2, (by rw [hc1 (by assumption)]; exact hR.mono), by omega, rfl⟩
                    | exact ⟨60 - (i + 1), by omega, _, M2, z, O2, W2, X, nms, bys, i + 1, St.mkT (kp (kp (kp (kp (kp (kp rfl rfl) rfl) rfl) rfl) rfl) rfl).symm, hW2, (by rw [(hc1 (hat2.neg.1 (by omega))).2]; exact hR.mono), by omega, rfl⟩
              · have k12 := h12; try simp only [decide_eq_true_eq, decide_eq_false_iff_not, Bool.not_eq_true', Bool.not_eq_false', Bool.not_true, Bool.not_false, List.length_map, Decidable.not_not] at k12
                refine o_no rfl rfl rfl rfl h12 ?_
                refine o_no rfl rfl rfl rfl h12 ?_
                refine o_no rfl rfl rfl rfl h12 ?_
                refine o_no rfl rfl rfl rfl h12 ?_
                refine o_q (q_pick_c (t := false) rfl h12 (v_raw rfl)) rfl rfl rfl ?_
                refine o_q (q_mv (v_raw rfl)) rfl rfl rfl ?_
                refine o_no rfl rfl rfl rfl rfl ?_
                refine o_no rfl rfl rfl rfl rfl ?_
                refine o_no rfl rfl rfl rfl rfl ?_
                refine o_no rfl rfl rfl rfl rfl ?_
                refine o_q (q_pick_c (t := false) rfl rfl (v_raw rfl)) rfl rfl rfl ?_
                refine o_q (q_bneq und4 rfl rfl) rfl rfl rfl ?_
                refine o_nil ?_
                refine s_cond rfl (fun h16 => ?_) (fun h16 => ?_)
                · have k16 := h16; try simp only [decide_eq_true_eq, decide_eq_false_iff_not, Bool.not_eq_true', Bool.not_eq_false', Bool.not_true, Bool.not_false, List.length_map, Decidable.not_not] at k16
                  exfalso
                  rcases Decidable.em (c = 0) with q9 | q9
                  · have q8 := hchk.1 q9
                    simp [q9] at h16 <;> omega
                  · simp [q9] at h16 <;> exact q9 (hchk.2 ⟨by omega, by omega, by omega⟩)
                · have k16 := h16; try simp only [decide_eq_true_eq, decide_eq_false_iff_not, Bool.not_eq_true', Bool.not_eq_false', Bool.not_true, Bool.not_false, List.length_map, Decidable.not_not] at k16
                  refine s_skip ?_
                  refine s_blk_normal ?_
                  refine s_blk_normal ?_
                  refine s_region ?_
                  refine o_q (q_mv (v_raw rfl)) rfl rfl rfl ?_
                  refine o_q (q_add rfl rfl (wrap64 (by omega) (by omega))) rfl rfl rfl ?_
                  refine o_q (q_as (v_raw rfl)) rfl rfl rfl ?_
                  refine o_nil ?_
                  refine s_inv ?_
                  first
                  | exact ⟨60 - (i + 1), by omega, _, _, z, O2, W2, _, nms, (bys.set k (bys[k] ++ (deeds[i].b.extract 0 (min deeds[i].b.size 1000)))), i + 1, St.mkT (kp (kp (kp (kp (kp (kp rfl rfl) rfl) rfl) rfl) rfl) rfl).symm, (hW2.set hbM htk hc0 hkb _), hc3, by omega, rfl⟩
                  | exact ⟨60 - (i + 1), by omega, _, _, z, O2, W2, _, nms, (bys.set k (bys[k].extract 0 deeds[i].n.toNat)), i + 1, St.mkT (kp (kp (kp (kp (kp (kp rfl rfl) rfl) rfl) rfl) rfl) rfl).symm, (hW2.set hbM htk hc0 hkb _), hz, by omega, rfl⟩
                  | (obtain ⟨W4, hW4⟩ := hW2.anew hg4 hle4 hgo4; exact ⟨60 - (i + 1), by omega, _, M4, z, O2, W4, (.raw v4), (nms.take k ++ nms.drop (k + 1)), (bys.take k ++ bys.drop (k + 1)), i + 1, St.mkT (kp (kp (kp (kp (kp (kp rfl rfl) rfl) rfl) (congrArg (fun z => AVal.sl z true) (by rw [List.take_length, List.drop_zero, List.map_append, List.map_take, List.map_drop]))) rfl) rfl).symm, hW4, hc3, by omega, rfl⟩)
                  | exact ⟨60 - (i + 1), by omega, _, M3, z, O2, W3, (.raw v3), (nms ++ [deeds[i].a]), (bys ++ [⟨#[]⟩]), i + 1, St.mkT (kp (kp (kp (kp (kp (kp rfl rfl) rfl) rfl) (show AVal.sl (nms.map str ++ [str deeds[i].a]) true = AVal.sl ((nms ++ [deeds[i].a]).map str) true by rw [List.map_append]; rfl)) rfl) rfl).symm, hW3, (hc2 (by assumption)), by omega, rfl⟩
                  | exact ⟨60 - (i + 1), by omega, _, M2, z, O2, W2, X, nms, bys, i + 1, St.mkT (kp (kp (kp (kp (kp (kp rfl rfl) rfl) rfl) rfl) rfl) rfl).symm, hW2, hz, by omega, rfl⟩
                  | exact ⟨60 - (i + 1), by omega, _, M2, z, O2, W2, X, nms, bys, i + 1, St.mkT (kp (kp (kp (kp (kp (kp rfl rfl) rfl) rfl) rfl) rfl) rfl).symm, hW2, (by rw [hc3 (by assumption)]; exact hR.mono), by omega, rfl⟩
                  | exact ⟨60 - (i + 1), by omega, _, M2, z, O2, W2, X, nms, bys, i + 1, St.mkT (kp (kp (kp (kp (kp (kp rfl rfl) rfl) rfl) rfl) rfl) rfl).symm, hW2, (by rw [hc1 (by assumption)]; exact hR.mono), by omega, rfl⟩
                  | exact ⟨60 - (i + 1), by omega, _, M2, z, O2, W2, X, nms, bys, i + 1, St.mkT (kp (kp (kp (kp (kp (kp rfl rfl) rfl) rfl) rfl) rfl) rfl).symm, hW2, (by rw [(hc1 (hat2.neg.1 (by omega))).2]; exact hR.mono), by omega, rfl⟩
          · have k5 := h5; try simp only [decide_eq_true_eq, decide_eq_false_iff_not, Bool.not_eq_true', Bool.not_eq_false', Bool.not_true, Bool.not_false, List.length_map, Decidable.not_not] at k5
            refine s_seq ?_
            refine s_region ?_
            refine o_q (q_eql rfl rfl) rfl rfl rfl ?_
            refine o_q (q_as (v_raw rfl)) rfl rfl rfl ?_
            refine o_nil ?_
            refine s_cond rfl (fun h17 => ?_) (fun h17 => ?_)
            · have k17 := h17; try simp only [decide_eq_true_eq, decide_eq_false_iff_not, Bool.not_eq_true', Bool.not_eq_false', Bool.not_true, Bool.not_false, List.length_map, Decidable.not_not] at k17
              obtain ⟨c, z, e⟩ : ∃ k z, s.append deeds[i].a (deeds[i].b.extract 0 (min deeds[i].b.size 1000)) = (k, z) := ⟨_, _, rfl⟩
              obtain ⟨hc1, hc2⟩ := w_append hR hg (by omega) hob e
              have hchk := chk2 (Q := fun _ => True) hR hc1 (fun k h => by obtain ⟨j, b0, g1, -⟩ := hR.at (List.getElem?_eq_some_iff.1 h).1; exact ⟨(hc2 k b0 h g1).1, trivial⟩) hat2
              refine s_seq ?_
              refine s_seq ?_
              refine s_region ?_
              refine o_q (q_mv ((by first | exact v_raw rfl | exact v_sptr rfl))) rfl rfl rfl ?_
              refine o_q (q_fr fo42_1 rfl) rfl rfl rfl ?_
              refine o_q (q_ldm ag9 sz9 rfl (by repeat first | exact Mem.upd_self _ _ _ | assumption | refine Mem.upd_ne (by assumption) ?_) rfl (v_raw rfl)) rfl rfl rfl ?_
              refine o_q (q_fr fo42_2 rfl) rfl rfl rfl ?_
              refine o_q (q_ldm ag9 sz9 rfl (by repeat first | exact Mem.upd_self _ _ _ | assumption | refine Mem.upd_ne (by assumption) ?_) rfl (v_raw rfl)) rfl rfl rfl ?_
              refine o_callx ((append_at hW1.dk (by omega) e)) goes12 (ac ((by first | exact v_raw rfl | exact v_sptr rfl)) (ac (v_raw rfl) (ac (v_raw rfl) ac_nil))) rfl ?_
              rintro r2 M2 ⟨rfl, hA2⟩
              obtain ⟨O2, W2, hW2, hw2⟩ := hW1.aft hA2
              have hM2 : M2 B1 = some (.cells [int deeds[i].kind, str deeds[i].a, str (deeds[i].b.extract 0 (min deeds[i].b.size 1000)), int deeds[i].n, .raw (.slice deeds[i].kb deeds[i].kn deeds[i].kc)]) := (hA2.keep (by rw [hMb]; exact fun h => by cases h) (fun h => hBx (hW1.dk.own.1 B1 h))).trans hMb
              have hBx2 : ¬ W2 B1 := fun h => (hw2 B1 h).elim hBx (by rw [hMb]; exact fun h => by cases h)
              refine o_q (q_eql rfl rfl) rfl rfl rfl ?_
              refine o_q (q_mv (v_raw rfl)) rfl rfl rfl ?_
              refine o_q (q_geq rfl rfl) rfl rfl rfl ?_
              refine o_q (q_bneq und4 rfl rfl) rfl rfl rfl ?_
              refine o_nil ?_
              refine s_cond rfl (fun h18 => ?_) (fun h18 => ?_)
              · have k18 := h18; try simp only [decide_eq_true_eq, decide_eq_false_iff_not, Bool.not_eq_true', Bool.not_eq_false', Bool.not_true, Bool.not_false, List.length_map, Decidable.not_not] at k18
                exfalso
                rcases Decidable.em (c = 0) with q9 | q9
                · have q8 := hchk.1 q9
                  simp [q9, q8] at h18
                · have q8 : ¬ 0 ≤ a := fun h => q9 (hchk.2 h)
                  simp [q9, q8] at h18
              · have k18 := h18; try simp only [decide_eq_true_eq, decide_eq_false_iff_not, Bool.not_eq_true', Bool.not_eq_false', Bool.not_true, Bool.not_false, List.length_map, Decidable.not_not] at k18
                refine s_skip ?_
                refine s_seq ?_
                refine s_region ?_
                refine o_q (q_mv (v_raw rfl)) rfl rfl rfl ?_
                refine o_q (q_geq rfl rfl) rfl rfl rfl ?_
                refine o_nil ?_
                refine s_cond rfl (fun h19 => ?_) (fun h19 => ?_)
                · have k19 := h19; try simp only [decide_eq_true_eq, decide_eq_false_iff_not, Bool.not_eq_true', Bool.not_eq_false', Bool.not_true, Bool.not_false, List.length_map, Decidable.not_not] at k19
                  obtain ⟨k, rfl, hk⟩ := hat2.pos (by omega)
                  have hkl : k < nms.length := (List.getElem?_eq_some_iff.1 hk).1
                  have hkb : k < bys.length := by rw [hR.ln]; exact hkl
                  have hbs := hR.size hg hkb
                  obtain ⟨b, cs, hXe, hbM, htk, hc0⟩ := hW2.raw hkb
                  subst hXe
                  have hcl := take_le htk
                  have hBb : B1 ≠ b := hW2.box hBx2 b _ _ rfl hc0
                  have hc3 := (hc2 k bys[k] hk (List.getElem?_eq_getElem hkb)).2
                  refine s_draw rfl ?_
                  refine d_q rfl (q_mv (v_raw rfl)) rfl rfl rfl ?_
                  refine d_q rfl (q_mv (v_raw rfl)) rfl rfl rfl ?_
                  refine d_q rfl (q_mv (v_raw rfl)) rfl rfl rfl ?_
                  refine d_q rfl (q_mv (v_raw rfl)) rfl rfl rfl ?_
                  refine d_q rfl (q_idxr und49 sz9 rfl rfl (by omega) (by omega)) rfl rfl rfl ?_
                  refine d_q rfl (q_ldm ag9 sz9 rfl hbM (pc_str (by omega) htk hkb) (v_raw rfl)) rfl rfl rfl ?_
                  refine d_q rfl (q_fr fo42_2 rfl) rfl rfl rfl ?_
                  refine d_q rfl (q_ldm ag9 sz9 rfl (by repeat first | exact Mem.upd_self _ _ _ | assumption | refine Mem.upd_ne (by assumption) ?_) rfl (v_raw rfl)) rfl rfl rfl ?_
                  refine d_q rfl (q_sadd rfl rfl (by omega)) rfl rfl rfl ?_
                  refine d_q rfl (q_idxr und49 sz9 rfl rfl (by omega) (by omega)) rfl rfl rfl ?_
                  refine d_s rfl ?_
                  refine o_store rfl hbM (e_raw rfl) rfl sz9 rfl (by rw [List.length_map]; omega) rfl (str_set (k := k) (by omega) (by omega)) ?_
                  refine o_nil ⟨(by simp [Mem.upd, *]), ?_⟩
                  refine d_nil ?_
                  refine s_blk_normal ?_
                  refine s_blk_normal ?_
                  refine s_region ?_
                  refine o_q (q_mv (v_raw rfl)) rfl rfl rfl ?_
                  refine o_q (q_add rfl rfl (wrap64 (by omega) (by omega))) rfl rfl rfl ?_
                  refine o_q (q_as (v_raw rfl)) rfl rfl rfl ?_
                  refine o_nil ?_
                  refine s_inv ?_
                  first
                  | exact ⟨60 - (i + 1), by omega, _, _, z, O2, W2, _, nms, (bys.set k (bys[k] ++ (deeds[i].b.extract 0 (min deeds[i].b.size 1000)))), i + 1, St.mkT (kp (kp (kp (kp (kp (kp rfl rfl) rfl) rfl) rfl) rfl) rfl).symm, (hW2.set hbM htk hc0 hkb _), hc3, by omega, rfl⟩
                  | exact ⟨60 - (i + 1), by omega, _, _, z, O2, W2, _, nms, (bys.set k (bys[k].extract 0 deeds[i].n.toNat)), i + 1, St.mkT (kp (kp (kp (kp (kp (kp rfl rfl) rfl) rfl) rfl) rfl) rfl).symm, (hW2.set hbM htk hc0 hkb _), hz, by omega, rfl⟩
                  | (obtain ⟨W4, hW4⟩ := hW2.anew hg4 hle4 hgo4; exact ⟨60 - (i + 1), by omega, _, M4, z, O2, W4, (.raw v4), (nms.take k ++ nms.drop (k + 1)), (bys.take k ++ bys.drop (k + 1)), i + 1, St.mkT (kp (kp (kp (kp (kp (kp rfl rfl) rfl) rfl) (congrArg (fun z => AVal.sl z true) (by rw [List.take_length, List.drop_zero, List.map_append, List.map_take, List.map_drop]))) rfl) rfl).symm, hW4, hc3, by omega, rfl⟩)
                  | exact ⟨60 - (i + 1), by omega, _, M3, z, O2, W3, (.raw v3), (nms ++ [deeds[i].a]), (bys ++ [⟨#[]⟩]), i + 1, St.mkT (kp (kp (kp (kp (kp (kp rfl rfl) rfl) rfl) (show AVal.sl (nms.map str ++ [str deeds[i].a]) true = AVal.sl ((nms ++ [deeds[i].a]).map str) true by rw [List.map_append]; rfl)) rfl) rfl).symm, hW3, (hc2 (by assumption)), by omega, rfl⟩
                  | exact ⟨60 - (i + 1), by omega, _, M2, z, O2, W2, X, nms, bys, i + 1, St.mkT (kp (kp (kp (kp (kp (kp rfl rfl) rfl) rfl) rfl) rfl) rfl).symm, hW2, hz, by omega, rfl⟩
                  | exact ⟨60 - (i + 1), by omega, _, M2, z, O2, W2, X, nms, bys, i + 1, St.mkT (kp (kp (kp (kp (kp (kp rfl rfl) rfl) rfl) rfl) rfl) rfl).symm, hW2, (by rw [hc3 (by assumption)]; exact hR.mono), by omega, rfl⟩
                  | exact ⟨60 - (i + 1), by omega, _, M2, z, O2, W2, X, nms, bys, i + 1, St.mkT (kp (kp (kp (kp (kp (kp rfl rfl) rfl) rfl) rfl) rfl) rfl).symm, hW2, (by rw [hc1 (by assumption)]; exact hR.mono), by omega, rfl⟩
                  | exact ⟨60 - (i + 1), by omega, _, M2, z, O2, W2, X, nms, bys, i + 1, St.mkT (kp (kp (kp (kp (kp (kp rfl rfl) rfl) rfl) rfl) rfl) rfl).symm, hW2, (by rw [(hc1 (hat2.neg.1 (by omega))).2]; exact hR.mono), by omega, rfl⟩
                · have k19 := h19; try simp only [decide_eq_true_eq, decide_eq_false_iff_not, Bool.not_eq_true', Bool.not_eq_false', Bool.not_true, Bool.not_false, List.length_map, Decidable.not_not] at k19
                  refine s_skip ?_
                  refine s_blk_normal ?_
                  refine s_blk_normal ?_
                  refine s_region ?_
                  refine o_q (q_mv (v_raw rfl)) rfl rfl rfl ?_
                  refine o_q (q_add rfl rfl (wrap64 (by omega) (by omega))) rfl rfl rfl ?_
                  refine o_q (q_as (v_raw rfl)) rfl rfl rfl ?_
                  refine o_nil ?_
                  refine s_inv ?_
                  first
                  | exact ⟨60 - (i + 1), by omega, _, _, z, O2, W2, _, nms, (bys.set k (bys[k] ++ (deeds[i].b.extract 0 (min deeds[i].b.size 1000)))), i + 1, St.mkT (kp (kp (kp (kp (kp (kp rfl rfl) rfl) rfl) rfl) rfl) rfl).symm, (hW2.set hbM htk hc0 hkb _), hc3, by omega, rfl⟩
                  | exact ⟨60 - (i + 1), by omega, _, _, z, O2, W2, _, nms, (bys.set k (bys[k].extract 0 deeds[i].n.toNat)), i + 1, St.mkT (kp (kp (kp (kp (kp (kp rfl rfl) rfl) rfl) rfl) rfl) rfl).symm, (hW2.set hbM htk hc0 hkb _), hz, by omega, rfl⟩
                  | (obtain ⟨W4, hW4⟩ := hW2.anew hg4 hle4 hgo4; exact ⟨60 - (i + 1), by omega, _, M4, z, O2, W4, (.raw v4), (nms.take k ++ nms.drop (k + 1)), (bys.take k ++ bys.drop (k + 1)), i + 1, St.mkT (kp (kp (kp (kp (kp (kp rfl rfl) rfl) rfl) (congrArg (fun z => AVal.sl z true) (by rw [List.take_length, List.drop_zero, List.map_append, List.map_take, List.map_drop]))) rfl) rfl).symm, hW4, hc3, by omega, rfl⟩)
                  | exact ⟨60 - (i + 1), by omega, _, M3, z, O2, W3, (.raw v3), (nms ++ [deeds[i].a]), (bys ++ [⟨#[]⟩]), i + 1, St.mkT (kp (kp (kp (kp (kp (kp rfl rfl) rfl) rfl) (show AVal.sl (nms.map str ++ [str deeds[i].a]) true = AVal.sl ((nms ++ [deeds[i].a]).map str) true by rw [List.map_append]; rfl)) rfl) rfl).symm, hW3, (hc2 (by assumption)), by omega, rfl⟩
                  | exact ⟨60 - (i + 1), by omega, _, M2, z, O2, W2, X, nms, bys, i + 1, St.mkT (kp (kp (kp (kp (kp (kp rfl rfl) rfl) rfl) rfl) rfl) rfl).symm, hW2, hz, by omega, rfl⟩
                  | exact ⟨60 - (i + 1), by omega, _, M2, z, O2, W2, X, nms, bys, i + 1, St.mkT (kp (kp (kp (kp (kp (kp rfl rfl) rfl) rfl) rfl) rfl) rfl).symm, hW2, (by rw [hc3 (by assumption)]; exact hR.mono), by omega, rfl⟩
                  | exact ⟨60 - (i + 1), by omega, _, M2, z, O2, W2, X, nms, bys, i + 1, St.mkT (kp (kp (kp (kp (kp (kp rfl rfl) rfl) rfl) rfl) rfl) rfl).symm, hW2, (by rw [hc1 (by assumption)]; exact hR.mono), by omega, rfl⟩
                  | exact ⟨60 - (i + 1), by omega, _, M2, z, O2, W2, X, nms, bys, i + 1, St.mkT (kp (kp (kp (kp (kp (kp rfl rfl) rfl) rfl) rfl) rfl) rfl).symm, hW2, (by rw [(hc1 (hat2.neg.1 (by omega))).2]; exact hR.mono), by omega, rfl⟩
            · have k17 := h17; try simp only [decide_eq_true_eq, decide_eq_false_iff_not, Bool.not_eq_true', Bool.not_eq_false', Bool.not_true, Bool.not_false, List.length_map, Decidable.not_not] at k17
              refine s_seq ?_
              refine s_region ?_
              refine o_q (q_eql rfl rfl) rfl rfl rfl ?_
              refine o_q (q_as (v_raw rfl)) rfl rfl rfl ?_
              refine o_nil ?_
              refine s_cond rfl (fun h20 => ?_) (fun h20 => ?_)
              · have k20 := h20; try simp only [decide_eq_true_eq, decide_eq_false_iff_not, Bool.not_eq_true', Bool.not_eq_false', Bool.not_true, Bool.not_false, List.length_map, Decidable.not_not] at k20
                obtain ⟨c, z, e⟩ : ∃ k z, s.sync deeds[i].a = (k, z) := ⟨_, _, rfl⟩
                have hz := w_sync hR hg e
                refine s_region ?_
                refine o_q (q_mv ((by first | exact v_raw rfl | exact v_sptr rfl))) rfl rfl rfl ?_
                refine o_q (q_fr fo42_1 rfl) rfl rfl rfl ?_
                refine o_q (q_ldm ag9 sz9 rfl (by repeat first | exact Mem.upd_self _ _ _ | assumption | refine Mem.upd_ne (by assumption) ?_) rfl (v_raw rfl)) rfl rfl rfl ?_
                refine o_callx ((sync_at hW1.dk (by omega) e)) goes13 (ac ((by first | exact v_raw rfl | exact v_sptr rfl)) (ac (v_raw rfl) ac_nil)) rfl ?_
                rintro r2 M2 ⟨rfl, hA2⟩
                obtain ⟨O2, W2, hW2, hw2⟩ := hW1.aft hA2
                have hM2 : M2 B1 = some (.cells [int deeds[i].kind, str deeds[i].a, str (deeds[i].b.extract 0 (min deeds[i].b.size 1000)), int deeds[i].n, .raw (.slice deeds[i].kb deeds[i].kn deeds[i].kc)]) := (hA2.keep (by rw [hMb]; exact fun h => by cases h) (fun h => hBx (hW1.dk.own.1 B1 h))).trans hMb
                have hBx2 : ¬ W2 B1 := fun h => (hw2 B1 h).elim hBx (by rw [hMb]; exact fun h => by cases h)
                refine o_nil ?_
                refine s_blk_normal ?_
                refine s_blk_normal ?_
                refine s_region ?_
                refine o_q (q_mv (v_raw rfl)) rfl rfl rfl ?_
                refine o_q (q_add rfl rfl (wrap64 (by omega) (by omega))) rfl rfl rfl ?_
                refine o_q (q_as (v_raw rfl)) rfl rfl rfl ?_
                refine o_nil ?_
                refine s_inv ?_
                first
                | exact ⟨60 - (i + 1), by omega, _, _, z, O2, W2, _, nms, (bys.set k (bys[k] ++ (deeds[i].b.extract 0 (min deeds[i].b.size 1000)))), i + 1, St.mkT (kp (kp (kp (kp (kp (kp rfl rfl) rfl) rfl) rfl) rfl) rfl).symm, (hW2.set hbM htk hc0 hkb _), hc3, by omega, rfl⟩
                | exact ⟨60 - (i + 1), by omega, _, _, z, O2, W2, _, nms, (bys.set k (bys[k].extract 0 deeds[i].n.toNat)), i + 1, St.mkT (kp (kp (kp (kp (kp (kp rfl rfl) rfl) rfl) rfl) rfl) rfl).symm, (hW2.set hbM htk hc0 hkb _), hz, by omega, rfl⟩
                | (obtain ⟨W4, hW4⟩ := hW2.anew hg4 hle4 hgo4; exact ⟨60 - (i + 1), by omega, _, M4, z, O2, W4, (.raw v4), (nms.take k ++ nms.drop (k + 1)), (bys.take k ++ bys.drop (k + 1)), i + 1, St.mkT (kp (kp (kp (kp (kp (kp rfl rfl) rfl) rfl) (congrArg (fun z => AVal.sl z true) (by rw [List.take_length, List.drop_zero, List.map_append, List.map_take, List.map_drop]))) rfl) rfl).symm, hW4, hc3, by omega, rfl⟩)
                | exact ⟨60 - (i + 1), by omega, _, M3, z, O2, W3, (.raw v3), (nms ++ [deeds[i].a]), (bys ++ [⟨#[]⟩]), i + 1, St.mkT (kp (kp (kp (kp (kp (kp rfl rfl) rfl) rfl) (show AVal.sl (nms.map str ++ [str deeds[i].a]) true = AVal.sl ((nms ++ [deeds[i].a]).map str) true by rw [List.map_append]; rfl)) rfl) rfl).symm, hW3, (hc2 (by assumption)), by omega, rfl⟩
                | exact ⟨60 - (i + 1), by omega, _, M2, z, O2, W2, X, nms, bys, i + 1, St.mkT (kp (kp (kp (kp (kp (kp rfl rfl) rfl) rfl) rfl) rfl) rfl).symm, hW2, hz, by omega, rfl⟩
                | exact ⟨60 - (i + 1), by omega, _, M2, z, O2, W2, X, nms, bys, i + 1, St.mkT (kp (kp (kp (kp (kp (kp rfl rfl) rfl) rfl) rfl) rfl) rfl).symm, hW2, (by rw [hc3 (by assumption)]; exact hR.mono), by omega, rfl⟩
                | exact ⟨60 - (i + 1), by omega, _, M2, z, O2, W2, X, nms, bys, i + 1, St.mkT (kp (kp (kp (kp (kp (kp rfl rfl) rfl) rfl) rfl) rfl) rfl).symm, hW2, (by rw [hc1 (by assumption)]; exact hR.mono), by omega, rfl⟩
                | exact ⟨60 - (i + 1), by omega, _, M2, z, O2, W2, X, nms, bys, i + 1, St.mkT (kp (kp (kp (kp (kp (kp rfl rfl) rfl) rfl) rfl) rfl) rfl).symm, hW2, (by rw [(hc1 (hat2.neg.1 (by omega))).2]; exact hR.mono), by omega, rfl⟩
              · have k20 := h20; try simp only [decide_eq_true_eq, decide_eq_false_iff_not, Bool.not_eq_true', Bool.not_eq_false', Bool.not_true, Bool.not_false, List.length_map, Decidable.not_not] at k20
                refine s_seq ?_
                refine s_region ?_
                refine o_q (q_eql rfl rfl) rfl rfl rfl ?_
                refine o_q (q_as (v_raw rfl)) rfl rfl rfl ?_
                refine o_nil ?_
                refine s_cond rfl (fun h21 => ?_) (fun h21 => ?_)
                · have k21 := h21; try simp only [decide_eq_true_eq, decide_eq_false_iff_not, Bool.not_eq_true', Bool.not_eq_false', Bool.not_true, Bool.not_false, List.length_map, Decidable.not_not] at k21
                  obtain ⟨c, z, e⟩ : ∃ k z, s.dirsync = (k, z) := ⟨_, _, rfl⟩
                  have hz := w_dirsync hR e
                  refine s_region ?_
                  refine o_q (q_mv ((by first | exact v_raw rfl | exact v_sptr rfl))) rfl rfl rfl ?_
                  refine o_callx ((dirsync_at hW1.dk (by omega) e)) goes14 (ac ((by first | exact v_raw rfl | exact v_sptr rfl)) ac_nil) rfl ?_
                  rintro r2 M2 ⟨rfl, hA2⟩
                  obtain ⟨O2, W2, hW2, hw2⟩ := hW1.aft hA2
                  have hM2 : M2 B1 = some (.cells [int deeds[i].kind, str deeds[i].a, str (deeds[i].b.extract 0 (min deeds[i].b.size 1000)), int deeds[i].n, .raw (.slice deeds[i].kb deeds[i].kn deeds[i].kc)]) := (hA2.keep (by rw [hMb]; exact fun h => by cases h) (fun h => hBx (hW1.dk.own.1 B1 h))).trans hMb
                  have hBx2 : ¬ W2 B1 := fun h => (hw2 B1 h).elim hBx (by rw [hMb]; exact fun h => by cases h)
                  refine o_nil ?_
                  refine s_blk_normal ?_
                  refine s_blk_normal ?_
                  refine s_region ?_
                  refine o_q (q_mv (v_raw rfl)) rfl rfl rfl ?_
                  refine o_q (q_add rfl rfl (wrap64 (by omega) (by omega))) rfl rfl rfl ?_
                  refine o_q (q_as (v_raw rfl)) rfl rfl rfl ?_
                  refine o_nil ?_
                  refine s_inv ?_
                  first
                  | exact ⟨60 - (i + 1), by omega, _, _, z, O2, W2, _, nms, (bys.set k (bys[k] ++ (deeds[i].b.extract 0 (min deeds[i].b.size 1000)))), i + 1, St.mkT (kp (kp (kp (kp (kp (kp rfl rfl) rfl) rfl) rfl) rfl) rfl).symm, (hW2.set hbM htk hc0 hkb _), hc3, by omega, rfl⟩
                  | exact ⟨60 - (i + 1), by omega, _, _, z, O2, W2, _, nms, (bys.set k (bys[k].extract 0 deeds[i].n.toNat)), i + 1, St.mkT (kp (kp (kp (kp (kp (kp rfl rfl) rfl) rfl) rfl) rfl) rfl).symm, (hW2.set hbM htk hc0 hkb _), hz, by omega, rfl⟩
                  | (obtain ⟨W4, hW4⟩ := hW2.anew hg4 hle4 hgo4; exact ⟨60 - (i + 1), by omega, _, M4, z, O2, W4, (.raw v4), (nms.take k ++ nms.drop (k + 1)), (bys.take k ++ bys.drop (k + 1)), i + 1, St.mkT (kp (kp (kp (kp (kp (kp rfl rfl) rfl) rfl) (congrArg (fun z => AVal.sl z true) (by rw [List.take_length, List.drop_zero, List.map_append, List.map_take, List.map_drop]))) rfl) rfl).symm, hW4, hc3, by omega, rfl⟩)
                  | exact ⟨60 - (i + 1), by omega, _, M3, z, O2, W3, (.raw v3), (nms ++ [deeds[i].a]), (bys ++ [⟨#[]⟩]), i + 1, St.mkT (kp (kp (kp (kp (kp (kp rfl rfl) rfl) rfl) (show AVal.sl (nms.map str ++ [str deeds[i].a]) true = AVal.sl ((nms ++ [deeds[i].a]).map str) true by rw [List.map_append]; rfl)) rfl) rfl).symm, hW3, (hc2 (by assumption)), by omega, rfl⟩
                  | exact ⟨60 - (i + 1), by omega, _, M2, z, O2, W2, X, nms, bys, i + 1, St.mkT (kp (kp (kp (kp (kp (kp rfl rfl) rfl) rfl) rfl) rfl) rfl).symm, hW2, hz, by omega, rfl⟩
                  | exact ⟨60 - (i + 1), by omega, _, M2, z, O2, W2, X, nms, bys, i + 1, St.mkT (kp (kp (kp (kp (kp (kp rfl rfl) rfl) rfl) rfl) rfl) rfl).symm, hW2, (by rw [hc3 (by assumption)]; exact hR.mono), by omega, rfl⟩
                  | exact ⟨60 - (i + 1), by omega, _, M2, z, O2, W2, X, nms, bys, i + 1, St.mkT (kp (kp (kp (kp (kp (kp rfl rfl) rfl) rfl) rfl) rfl) rfl).symm, hW2, (by rw [hc1 (by assumption)]; exact hR.mono), by omega, rfl⟩
                  | exact ⟨60 - (i + 1), by omega, _, M2, z, O2, W2, X, nms, bys, i + 1, St.mkT (kp (kp (kp (kp (kp (kp rfl rfl) rfl) rfl) rfl) rfl) rfl).symm, hW2, (by rw [(hc1 (hat2.neg.1 (by omega))).2]; exact hR.mono), by omega, rfl⟩
                · have k21 := h21; try simp only [decide_eq_true_eq, decide_eq_false_iff_not, Bool.not_eq_true', Bool.not_eq_false', Bool.not_true, Bool.not_false, List.length_map, Decidable.not_not] at k21
                  refine s_seq ?_
                  refine s_region ?_
                  refine o_q (q_eql rfl rfl) rfl rfl rfl ?_
                  refine o_q (q_as (v_raw rfl)) rfl rfl rfl ?_
                  refine o_nil ?_
                  refine s_cond rfl (fun h22 => ?_) (fun h22 => ?_)
                  · have k22 := h22; try simp only [decide_eq_true_eq, decide_eq_false_iff_not, Bool.not_eq_true', Bool.not_eq_false', Bool.not_true, Bool.not_false, List.length_map, Decidable.not_not] at k22
                    obtain ⟨c, z, e⟩ : ∃ k z, s.trunc deeds[i].a deeds[i].n = (k, z) := ⟨_, _, rfl⟩
                    obtain ⟨hc1, hc2⟩ := w_trunc hR hg e
                    refine s_seq ?_
                    refine s_region ?_
                    refine o_q (q_mv ((by first | exact v_raw rfl | exact v_sptr rfl))) rfl rfl rfl ?_
                    refine o_q (q_fr fo42_1 rfl) rfl rfl rfl ?_
                    refine o_q (q_ldm ag9 sz9 rfl (by repeat first | exact Mem.upd_self _ _ _ | assumption | refine Mem.upd_ne (by assumption) ?_) rfl (v_raw rfl)) rfl rfl rfl ?_
                    refine o_q (q_fr fo42_3 rfl) rfl rfl rfl ?_
                    refine o_q (q_ldm ag3 sz3 rfl (by repeat first | exact Mem.upd_self _ _ _ | assumption | refine Mem.upd_ne (by assumption) ?_) rfl (v_raw rfl)) rfl rfl rfl ?_
                    refine o_callx ((trunc_at hW1.dk (by omega) e)) goes26 (ac ((by first | exact v_raw rfl | exact v_sptr rfl)) (ac (v_raw rfl) (ac (v_raw rfl) ac_nil))) rfl ?_
                    rintro r2 M2 ⟨rfl, hA2⟩
                    obtain ⟨O2, W2, hW2, hw2⟩ := hW1.aft hA2
                    have hM2 : M2 B1 = some (.cells [int deeds[i].kind, str deeds[i].a, str (deeds[i].b.extract 0 (min deeds[i].b.size 1000)), int deeds[i].n, .raw (.slice deeds[i].kb deeds[i].kn deeds[i].kc)]) := (hA2.keep (by rw [hMb]; exact fun h => by cases h) (fun h => hBx (hW1.dk.own.1 B1 h))).trans hMb
                    have hBx2 : ¬ W2 B1 := fun h => (hw2 B1 h).elim hBx (by rw [hMb]; exact fun h => by cases h)
                    refine o_q (q_eql rfl rfl) rfl rfl rfl ?_
                    refine o_nil ?_
                    refine s_cond rfl (fun h23 => ?_) (fun h23 => ?_)
                    · have k23 := h23; try simp only [decide_eq_true_eq, decide_eq_false_iff_not, Bool.not_eq_true', Bool.not_eq_false', Bool.not_true, Bool.not_false, List.length_map, Decidable.not_not] at k23
                      obtain ⟨k, b0, hk, hb0, hn0, hn1, hz⟩ := hc2 k23
                      have hak : a = k := by
                        rcases hat2 with ⟨-, h⟩ | ⟨k', h, h'⟩
                        · exact absurd (List.mem_of_getElem? hk) h
                        · rw [h, idx_inj hnd h' hk]
                      subst hak
                      have hkl : k < nms.length := (List.getElem?_eq_some_iff.1 hk).1
                      have hkb : k < bys.length := by rw [hR.ln]; exact hkl
                      have hbs := hR.size hg hkb
                      obtain ⟨b, cs, hXe, hbM, htk, hc0⟩ := hW2.raw hkb
                      subst hXe
                      have hcl := take_le htk
                      have hBb : B1 ≠ b := hW2.box hBx2 b _ _ rfl hc0
                      obtain rfl : bys[k] = b0 := (List.getElem?_eq_some_iff.1 hb0).2
                      refine s_seq ?_
                      refine s_seq ?_
                      refine s_draw rfl ?_
                      refine d_q rfl (q_mv (v_raw rfl)) rfl rfl rfl ?_
                      refine d_q rfl (q_lss rfl rfl) rfl rfl rfl ?_
                      refine d_q rfl (q_mv (v_raw rfl)) rfl rfl rfl ?_
                      refine d_cases (want := false) (j := 2) rfl rfl (fun h24 => ?_) (fun h24 => ?_)
                      · have k24 := h24; try simp only [decide_eq_true_eq, decide_eq_false_iff_not, Bool.not_eq_true', Bool.not_eq_false', Bool.not_true, Bool.not_false, List.length_map, Decidable.not_not] at k24
                        refine d_yes rfl (q_fr fo42_3 rfl) rfl rfl rfl h24 rfl rfl ?_
                        refine d_yes rfl (q_ldm ag3 sz3 rfl (by repeat first | exact Mem.upd_self _ _ _ | assumption | refine Mem.upd_ne (by assumption) ?_) rfl (v_raw rfl)) rfl rfl rfl h24 rfl rfl ?_
                        refine d_yes rfl (q_lss rfl rfl) rfl rfl rfl h24 rfl rfl ?_
                        refine d_q rfl (q_pick_c (t := false) rfl h24 (v_raw rfl)) rfl rfl rfl ?_
                        refine d_q rfl (q_mv (v_raw rfl)) rfl rfl rfl ?_
                        refine d_cases (want := false) (j := 7) rfl rfl (fun h25 => ?_) (fun h25 => ?_)
                        · have k25 := h25; try simp only [decide_eq_true_eq, decide_eq_false_iff_not, Bool.not_eq_true', Bool.not_eq_false', Bool.not_true, Bool.not_false, List.length_map, Decidable.not_not] at k25
                          refine d_yes rfl (q_fr fo42_3 rfl) rfl rfl rfl h25 rfl rfl ?_
                          refine d_yes rfl (q_ldm ag3 sz3 rfl (by repeat first | exact Mem.upd_self _ _ _ | assumption | refine Mem.upd_ne (by assumption) ?_) rfl (v_raw rfl)) rfl rfl rfl h25 rfl rfl ?_
                          refine d_yes rfl (q_mv (v_raw rfl)) rfl rfl rfl h25 rfl rfl ?_
                          refine d_yes rfl (q_mv (v_raw rfl)) rfl rfl rfl h25 rfl rfl ?_
                          refine d_yes rfl (q_idxr und49 sz9 rfl rfl (by omega) (by omega)) rfl rfl rfl h25 rfl rfl ?_
                          refine d_yes rfl (q_ldm ag9 sz9 rfl hbM (pc_str (by omega) htk hkb) (v_raw rfl)) rfl rfl rfl h25 rfl rfl ?_
                          refine d_yes rfl (q_lens rfl und9 rfl) rfl rfl rfl h25 rfl rfl ?_
                          refine d_yes rfl (q_gtr rfl rfl) rfl rfl rfl h25 rfl rfl ?_
                          refine d_q rfl (q_pick_c (t := false) rfl h25 (v_raw rfl)) rfl rfl rfl ?_
                          refine d_nil ?_
                          refine s_cond rfl (fun h26 => ?_) (fun h26 => ?_)
                          · have k26 := h26; try simp only [decide_eq_true_eq, decide_eq_false_iff_not, Bool.not_eq_true', Bool.not_eq_false', Bool.not_true, Bool.not_false, List.length_map, Decidable.not_not] at k26
                            omega
                          · have k26 := h26; try simp only [decide_eq_true_eq, decide_eq_false_iff_not, Bool.not_eq_true', Bool.not_eq_false', Bool.not_true, Bool.not_false, List.length_map, Decidable.not_not] at k26
                            refine s_skip ?_
                            refine s_draw rfl ?_
                            refine d_q rfl (q_mv (v_raw rfl)) rfl rfl rfl ?_
                            refine d_q rfl (q_mv (v_raw rfl)) rfl rfl rfl ?_
                            refine d_q rfl (q_mv (v_raw rfl)) rfl rfl rfl ?_
                            refine d_q rfl (q_mv (v_raw rfl)) rfl rfl rfl ?_
                            refine d_q rfl (q_idxr und49 sz9 rfl rfl (by omega) (by omega)) rfl rfl rfl ?_
                            refine d_q rfl (q_ldm ag9 sz9 rfl hbM (pc_str (by omega) htk hkb) (v_raw rfl)) rfl rfl rfl ?_
                            refine d_q rfl (q_fr fo42_3 rfl) rfl rfl rfl ?_
                            refine d_q rfl (q_ldm ag3 sz3 rfl (by repeat first | exact Mem.upd_self _ _ _ | assumption | refine Mem.upd_ne (by assumption) ?_) rfl (v_raw rfl)) rfl rfl rfl ?_
                            refine d_q rfl (q_slstr und9 rfl (show _ = some (some (Value.int .i64 ((deeds[i].n.toNat : Nat) : Int))) by rw [Int.toNat_of_nonneg hn0]; rfl) (by omega)) rfl rfl rfl ?_
                            refine d_q rfl (q_idxr und49 sz9 rfl rfl (by omega) (by omega)) rfl rfl rfl ?_
                            refine d_s rfl ?_
                            refine o_store rfl hbM (e_raw rfl) rfl sz9 rfl (by rw [List.length_map]; omega) rfl (str_set (k := k) (by omega) (by omega)) ?_
                            refine o_nil ⟨(by simp [Mem.upd, *]), ?_⟩
                            refine d_nil ?_
                            refine s_blk_normal ?_
                            refine s_blk_normal ?_
                            refine s_region ?_
                            refine o_q (q_mv (v_raw rfl)) rfl rfl rfl ?_
                            refine o_q (q_add rfl rfl (wrap64 (by omega) (by omega))) rfl rfl rfl ?_
                            refine o_q (q_as (v_raw rfl)) rfl rfl rfl ?_
                            refine o_nil ?_
                            refine s_inv ?_
                            first
                            | exact ⟨60 - (i + 1), by omega, _, _, z, O2, W2, _, nms, (bys.set k (bys[k] ++ (deeds[i].b.extract 0 (min deeds[i].b.size 1000)))), i + 1, St.mkT (kp (kp (kp (kp (kp (kp rfl rfl) rfl) rfl) rfl) rfl) rfl).symm, (hW2.set hbM htk hc0 hkb _), hc3, by omega, rfl⟩
                            | exact ⟨60 - (i + 1), by omega, _, _, z, O2, W2, _, nms, (bys.set k (bys[k].extract 0 deeds[i].n.toNat)), i + 1, St.mkT (kp (kp (kp (kp (kp (kp rfl rfl) rfl) rfl) rfl) rfl) rfl).symm, (hW2.set hbM htk hc0 hkb _), hz, by omega, rfl⟩
                            | (obtain ⟨W4, hW4⟩ := hW2.anew hg4 hle4 hgo4; exact ⟨60 - (i + 1), by omega, _, M4, z, O2, W4, (.raw v4), (nms.take k ++ nms.drop (k + 1)), (bys.take k ++ bys.drop (k + 1)), i + 1, St.mkT (kp (kp (kp (kp (kp (kp rfl rfl) rfl) rfl) (congrArg (fun z => AVal.sl z true) (by rw [List.take_length, List.drop_zero, List.map_append, List.map_take, List.map_drop]))) rfl) rfl).symm, hW4, hc3, by omega, rfl⟩)
                            | exact ⟨60 - (i + 1), by omega, _, M3, z, O2, W3, (.raw v3), (nms ++ [deeds[i].a]), (bys ++ [⟨#[]⟩]), i + 1, St.mkT (kp (kp (kp (kp (kp (kp rfl rfl) rfl) rfl) (show AVal.sl (nms.map str ++ [str deeds[i].a]) true = AVal.sl ((nms ++ [deeds[i].a]).map str) true by rw [List.map_append]; rfl)) rfl) rfl).symm, hW3, (hc2 (by assumption)), by omega, rfl⟩
                            | exact ⟨60 - (i + 1), by omega, _, M2, z, O2, W2, X, nms, bys, i + 1, St.mkT (kp (kp (kp (kp (kp (kp rfl rfl) rfl) rfl) rfl) rfl) rfl).symm, hW2, hz, by omega, rfl⟩
                            | exact ⟨60 - (i + 1), by omega, _, M2, z, O2, W2, X, nms, bys, i + 1, St.mkT (kp (kp (kp (kp (kp (kp rfl rfl) rfl) rfl) rfl) rfl) rfl).symm, hW2, (by rw [hc3 (by assumption)]; exact hR.mono), by omega, rfl⟩
                            | exact ⟨60 - (i + 1), by omega, _, M2, z, O2, W2, X, nms, bys, i + 1, St.mkT (kp (kp (kp (kp (kp (kp rfl rfl) rfl) rfl) rfl) rfl) rfl).symm, hW2, (by rw [hc1 (by assumption)]; exact hR.mono), by omega, rfl⟩
                            | exact ⟨60 - (i + 1), by omega, _, M2, z, O2, W2, X, nms, bys, i + 1, St.mkT (kp (kp (kp (kp (kp (kp rfl rfl) rfl) rfl) rfl) rfl) rfl).symm, hW2, (by rw [(hc1 (hat2.neg.1 (by omega))).2]; exact hR.mono), by omega, rfl⟩
                        · have k25 := h25; try simp only [decide_eq_true_eq, decide_eq_false_iff_not, Bool.not_eq_true', Bool.not_eq_false', Bool.not_true, Bool.not_false, List.length_map, Decidable.not_not] at k25
                          omega
                      · have k24 := h24; try simp only [decide_eq_true_eq, decide_eq_false_iff_not, Bool.not_eq_true', Bool.not_eq_false', Bool.not_true, Bool.not_false, List.length_map, Decidable.not_not] at k24
                        omega
                    · have k23 := h23; try simp only [decide_eq_true_eq, decide_eq_false_iff_not, Bool.not_eq_true', Bool.not_eq_false', Bool.not_true, Bool.not_false, List.length_map, Decidable.not_not] at k23
                      refine s_skip ?_
                      refine s_blk_normal ?_
                      refine s_blk_normal ?_
                      refine s_region ?_
                      refine o_q (q_mv (v_raw rfl)) rfl rfl rfl ?_
                      refine o_q (q_add rfl rfl (wrap64 (by omega) (by omega))) rfl rfl rfl ?_
                      refine o_q (q_as (v_raw rfl)) rfl rfl rfl ?_
                      refine o_nil ?_
                      refine s_inv ?_
                      first
                      | exact ⟨60 - (i + 1), by omega, _, _, z, O2, W2, _, nms, (bys.set k (bys[k] ++ (deeds[i].b.extract 0 (min deeds[i].b.size 1000)))), i + 1, St.mkT (kp (kp (kp (kp (kp (kp rfl rfl) rfl) rfl) rfl) rfl) rfl).symm, (hW2.set hbM htk hc0 hkb _), hc3, by omega, rfl⟩
                      | exact ⟨60 - (i + 1), by omega, _, _, z, O2, W2, _, nms, (bys.set k (bys[k].extract 0 deeds[i].n.toNat)), i + 1, St.mkT (kp (kp (kp (kp (kp (kp rfl rfl) rfl) rfl) rfl) rfl) rfl).symm, (hW2.set hbM htk hc0 hkb _), hz, by omega, rfl⟩
                      | (obtain ⟨W4, hW4⟩ := hW2.anew hg4 hle4 hgo4; exact ⟨60 - (i + 1), by omega, _, M4, z, O2, W4, (.raw v4), (nms.take k ++ nms.drop (k + 1)), (bys.take k ++ bys.drop (k + 1)), i + 1, St.mkT (kp (kp (kp (kp (kp (kp rfl rfl) rfl) rfl) (congrArg (fun z => AVal.sl z true) (by rw [List.take_length, List.drop_zero, List.map_append, List.map_take, List.map_drop]))) rfl) rfl).symm, hW4, hc3, by omega, rfl⟩)
                      | exact ⟨60 - (i + 1), by omega, _, M3, z, O2, W3, (.raw v3), (nms ++ [deeds[i].a]), (bys ++ [⟨#[]⟩]), i + 1, St.mkT (kp (kp (kp (kp (kp (kp rfl rfl) rfl) rfl) (show AVal.sl (nms.map str ++ [str deeds[i].a]) true = AVal.sl ((nms ++ [deeds[i].a]).map str) true by rw [List.map_append]; rfl)) rfl) rfl).symm, hW3, (hc2 (by assumption)), by omega, rfl⟩
                      | exact ⟨60 - (i + 1), by omega, _, M2, z, O2, W2, X, nms, bys, i + 1, St.mkT (kp (kp (kp (kp (kp (kp rfl rfl) rfl) rfl) rfl) rfl) rfl).symm, hW2, hz, by omega, rfl⟩
                      | exact ⟨60 - (i + 1), by omega, _, M2, z, O2, W2, X, nms, bys, i + 1, St.mkT (kp (kp (kp (kp (kp (kp rfl rfl) rfl) rfl) rfl) rfl) rfl).symm, hW2, (by rw [hc3 (by assumption)]; exact hR.mono), by omega, rfl⟩
                      | exact ⟨60 - (i + 1), by omega, _, M2, z, O2, W2, X, nms, bys, i + 1, St.mkT (kp (kp (kp (kp (kp (kp rfl rfl) rfl) rfl) rfl) rfl) rfl).symm, hW2, (by rw [hc1 (by assumption)]; exact hR.mono), by omega, rfl⟩
                      | exact ⟨60 - (i + 1), by omega, _, M2, z, O2, W2, X, nms, bys, i + 1, St.mkT (kp (kp (kp (kp (kp (kp rfl rfl) rfl) rfl) rfl) rfl) rfl).symm, hW2, (by rw [(hc1 (hat2.neg.1 (by omega))).2]; exact hR.mono), by omega, rfl⟩
                  · have k22 := h22; try simp only [decide_eq_true_eq, decide_eq_false_iff_not, Bool.not_eq_true', Bool.not_eq_false', Bool.not_true, Bool.not_false, List.length_map, Decidable.not_not] at k22
                    obtain ⟨c, z, e⟩ : ∃ k z, s.remove deeds[i].a = (k, z) := ⟨_, _, rfl⟩
                    obtain ⟨hc1, hc2⟩ := w_remove hR hg e
                    have hchk := chk2 hR hc1 hc2 hat2
                    refine s_seq ?_
                    refine s_seq ?_
                    refine s_region ?_
                    refine o_q (q_mv ((by first | exact v_raw rfl | exact v_sptr rfl))) rfl rfl rfl ?_
                    refine o_q (q_fr fo42_1 rfl) rfl rfl rfl ?_
                    refine o_q (q_ldm ag9 sz9 rfl (by repeat first | exact Mem.upd_self _ _ _ | assumption | refine Mem.upd_ne (by assumption) ?_) rfl (v_raw rfl)) rfl rfl rfl ?_
                    refine o_callx ((remove_at hW1.dk (by omega) e)) goes27 (ac ((by first | exact v_raw rfl | exact v_sptr rfl)) (ac (v_raw rfl) ac_nil)) rfl ?_
                    rintro r2 M2 ⟨rfl, hA2⟩
                    obtain ⟨O2, W2, hW2, hw2⟩ := hW1.aft hA2
                    have hM2 : M2 B1 = some (.cells [int deeds[i].kind, str deeds[i].a, str (deeds[i].b.extract 0 (min deeds[i].b.size 1000)), int deeds[i].n, .raw (.slice deeds[i].kb deeds[i].kn deeds[i].kc)]) := (hA2.keep (by rw [hMb]; exact fun h => by cases h) (fun h => hBx (hW1.dk.own.1 B1 h))).trans hMb
                    have hBx2 : ¬ W2 B1 := fun h => (hw2 B1 h).elim hBx (by rw [hMb]; exact fun h => by cases h)
                    refine o_q (q_eql rfl rfl) rfl rfl rfl ?_
                    refine o_q (q_mv (v_raw rfl)) rfl rfl rfl ?_
                    refine o_q (q_geq rfl rfl) rfl rfl rfl ?_
                    refine o_q (q_bneq und4 rfl rfl) rfl rfl rfl ?_
                    refine o_nil ?_
                    refine s_cond rfl (fun h27 => ?_) (fun h27 => ?_)
                    · have k27 := h27; try simp only [decide_eq_true_eq, decide_eq_false_iff_not, Bool.not_eq_true', Bool.not_eq_false', Bool.not_true, Bool.not_false, List.length_map, Decidable.not_not] at k27
                      exfalso
                      rcases Decidable.em (c = 0) with q9 | q9
                      · have q8 := hchk.1 q9
                        simp [q9, q8] at h27
                      · have q8 : ¬ 0 ≤ a := fun h => q9 (hchk.2 h)
                        simp [q9, q8] at h27
                    · have k27 := h27; try simp only [decide_eq_true_eq, decide_eq_false_iff_not, Bool.not_eq_true', Bool.not_eq_false', Bool.not_true, Bool.not_false, List.length_map, Decidable.not_not] at k27
                      refine s_skip ?_
                      refine s_seq ?_
                      refine s_region ?_
                      refine o_q (q_mv (v_raw rfl)) rfl rfl rfl ?_
                      refine o_q (q_geq rfl rfl) rfl rfl rfl ?_
                      refine o_nil ?_
                      refine s_cond rfl (fun h28 => ?_) (fun h28 => ?_)
                      · have k28 := h28; try simp only [decide_eq_true_eq, decide_eq_false_iff_not, Bool.not_eq_true', Bool.not_eq_false', Bool.not_true, Bool.not_false, List.length_map, Decidable.not_not] at k28
                        obtain ⟨k, rfl, hk⟩ := hat2.pos (by omega)
                        have hkl : k < nms.length := (List.getElem?_eq_some_iff.1 hk).1
                        have hkb : k < bys.length := by rw [hR.ln]; exact hkl
                        have hbs := hR.size hg hkb
                        obtain ⟨b, cs, hXe, hbM, htk, hc0⟩ := hW2.raw hkb
                        subst hXe
                        have hcl := take_le htk
                        have hBb : B1 ≠ b := hW2.box hBx2 b _ _ rfl hc0
                        have hc3 := (hc2 k hk).2
                        have hln := hR.ln
                        refine s_seq ?_
                        refine s_draw rfl ?_
                        refine d_q rfl (q_mv (v_sl rfl)) rfl rfl rfl ?_
                        refine d_q rfl (q_mv (v_raw rfl)) rfl rfl rfl ?_
                        refine d_q rfl (q_slice und49 sz9 rfl (by first | exact Els.map fun _ => ⟨rfl, rfl⟩ | exact els_td) ab_none (ab rfl rfl) (by first | omega | (simp; omega)) (by first | omega | (simp; omega))) rfl rfl rfl ?_
                        refine d_q rfl (q_app_nil slt49 rfl rfl rfl (by first | exact Els.map fun _ => ⟨rfl, rfl⟩ | exact els_td) (by simp; omega)) rfl rfl rfl ?_
                        refine d_q rfl (q_mv (v_sl rfl)) rfl rfl rfl ?_
                        refine d_q rfl (q_mv (v_raw rfl)) rfl rfl rfl ?_
                        refine d_q rfl (q_add rfl rfl (wrap64 (by omega) (by omega))) rfl rfl rfl ?_
                        refine d_q rfl (q_slice und49 sz9 rfl (by first | exact Els.map fun _ => ⟨rfl, rfl⟩ | exact els_td) (ab rfl (show (k : Int) + 1 = ((k + 1 : Nat) : Int) from rfl)) ab_none (by first | omega | (simp; omega)) (by first | omega | (simp; omega))) rfl rfl rfl ?_
                        refine d_qs rfl (q_app slt49 rfl rfl rfl rfl (by first | exact Els.map fun _ => ⟨rfl, rfl⟩ | exact els_td) (by first | exact (by first | exact Els.map fun _ => ⟨rfl, rfl⟩ | exact els_td) | exact Els.cons rfl rfl Els.nil) (by simp; omega)) rfl rfl rfl rfl ?_
                        refine d_qs rfl (q_as_own rfl) rfl rfl rfl rfl ?_
                        refine d_nil ?_
                        refine s_draw rfl ?_
                        refine d_q rfl (q_mv (v_raw rfl)) rfl rfl rfl ?_
                        refine d_q rfl (q_mv (v_raw rfl)) rfl rfl rfl ?_
                        refine d_q rfl (q_slr und49 sz9 rfl rfl rfl rfl (bnd_h (by omega))) rfl rfl rfl ?_
                        refine d_q rfl (q_mv (v_raw rfl)) rfl rfl rfl ?_
                        refine d_q rfl (q_mv (v_raw rfl)) rfl rfl rfl ?_
                        refine d_q rfl (q_add rfl rfl (wrap64 (by omega) (by omega))) rfl rfl rfl ?_
                        rw [show (k : Int) + 1 = ((k + 1 : Nat) : Int) from rfl]
                        refine d_q rfl (q_slr und49 sz9 rfl rfl rfl rfl (bnd_l (by omega) (by omega))) rfl rfl rfl ?_
                        refine d_s rfl ?_
                        refine o_appgn (own := false) (f := str) (z0 := ⟨#[]⟩) (M0 := M2) (m := bys.take k) slt49 rfl rfl zc9 unStr (.inl rfl) (Mem.le_refl M2) (src_part (a := 0) (h := k) hbM htk (Nat.zero_le _) (by omega) rfl) (by rw [List.length_take]; omega) (fun v3 M3 hg3 hle3 hgo3 hk3 => ?_)
                        refine o_nil ⟨(by simp [Mem.upd, *]), ?_⟩
                        refine d_s rfl ?_
                        refine o_appg (own := false) (f := str) (z0 := ⟨#[]⟩) (M0 := M2) (m := bys.drop (k + 1)) slt49 rfl rfl zc9 unStr rfl hg3 hle3 hgo3 (by refine (src_part (M := M3) (a := k + 1) (h := bys.length) ((hk3 b (by rw [hbM]; exact fun h => by cases h)).trans hbM) htk (by omega) (Nat.le_refl _) rfl).trans ?_; rw [List.take_length]) (by rw [List.length_take, List.length_drop]; omega) (fun v4 M4 hg4 hle4 hgo4 hn4 => ?_)
                        refine o_nil ⟨(by simp [Mem.upd, *]), ?_⟩
                        refine d_qs rfl (q_as_own rfl) rfl rfl rfl rfl ?_
                        refine d_nil ?_
                        refine s_blk_normal ?_
                        refine s_blk_normal ?_
                        refine s_region ?_
                        refine o_q (q_mv (v_raw rfl)) rfl rfl rfl ?_
                        refine o_q (q_add rfl rfl (wrap64 (by omega) (by omega))) rfl rfl rfl ?_
                        refine o_q (q_as (v_raw rfl)) rfl rfl rfl ?_
                        refine o_nil ?_
                        refine s_inv ?_
                        first
                        | exact ⟨60 - (i + 1), by omega, _, _, z, O2, W2, _, nms, (bys.set k (bys[k] ++ (deeds[i].b.extract 0 (min deeds[i].b.size 1000)))), i + 1, St.mkT (kp (kp (kp (kp (kp (kp rfl rfl) rfl) rfl) rfl) rfl) rfl).symm, (hW2.set hbM htk hc0 hkb _), hc3, by omega, rfl⟩
                        | exact ⟨60 - (i + 1), by omega, _, _, z, O2, W2, _, nms, (bys.set k (bys[k].extract 0 deeds[i].n.toNat)), i + 1, St.mkT (kp (kp (kp (kp (kp (kp rfl rfl) rfl) rfl) rfl) rfl) rfl).symm, (hW2.set hbM htk hc0 hkb _), hz, by omega, rfl⟩
                        | (obtain ⟨W4, hW4⟩ := hW2.anew hg4 hle4 hgo4; exact ⟨60 - (i + 1), by omega, _, M4, z, O2, W4, (.raw v4), (nms.take k ++ nms.drop (k + 1)), (bys.take k ++ bys.drop (k + 1)), i + 1, St.mkT (kp (kp (kp (kp (kp (kp rfl rfl) rfl) rfl) (congrArg (fun z => AVal.sl z true) (by rw [List.take_length, List.drop_zero, List.map_append, List.map_take, List.map_drop]))) rfl) rfl).symm, hW4, hc3, by omega, rfl⟩)
                        | exact ⟨60 - (i + 1), by omega, _, M3, z, O2, W3, (.raw v3), (nms ++ [deeds[i].a]), (bys ++ [⟨#[]⟩]), i + 1, St.mkT (kp (kp (kp (kp (kp (kp rfl rfl) rfl) rfl) (show AVal.sl (nms.map str ++ [str deeds[i].a]) true = AVal.sl ((nms ++ [deeds[i].a]).map str) true by rw [List.map_append]; rfl)) rfl) rfl).symm, hW3, (hc2 (by assumption)), by omega, rfl⟩
                        | exact ⟨60 - (i + 1), by omega, _, M2, z, O2, W2, X, nms, bys, i + 1, St.mkT (kp (kp (kp (kp (kp (kp rfl rfl) rfl) rfl) rfl) rfl) rfl).symm, hW2, hz, by omega, rfl⟩
                        | exact ⟨60 - (i + 1), by omega, _, M2, z, O2, W2, X, nms, bys, i + 1, St.mkT (kp (kp (kp (kp (kp (kp rfl rfl) rfl) rfl) rfl) rfl) rfl).symm, hW2, (by rw [hc3 (by assumption)]; exact hR.mono), by omega, rfl⟩
                        | exact ⟨60 - (i + 1), by omega, _, M2, z, O2, W2, X, nms, bys, i + 1, St.mkT (kp (kp (kp (kp (kp (kp rfl rfl) rfl) rfl) rfl) rfl) rfl).symm, hW2, (by rw [hc1 (by assumption)]; exact hR.mono), by omega, rfl⟩
                        | exact ⟨60 - (i + 1), by omega, _, M2, z, O2, W2, X, nms, bys, i + 1, St.mkT (kp (kp (kp (kp (kp (kp rfl rfl) rfl) rfl) rfl) rfl) rfl).symm, hW2, (by rw [(hc1 (hat2.neg.1 (by omega))).2]; exact hR.mono), by omega, rfl⟩
                      · have k28 := h28; try simp only [decide_eq_true_eq, decide_eq_false_iff_not, Bool.not_eq_true', Bool.not_eq_false', Bool.not_true, Bool.not_false, List.length_map, Decidable.not_not] at k28
                        refine s_skip ?_
                        refine s_blk_normal ?_
                        refine s_blk_normal ?_
                        refine s_region ?_
                        refine o_q (q_mv (v_raw rfl)) rfl rfl rfl ?_
                        refine o_q (q_add rfl rfl (wrap64 (by omega) (by omega))) rfl rfl rfl ?_
                        refine o_q (q_as (v_raw rfl)) rfl rfl rfl ?_
                        refine o_nil ?_
                        refine s_inv ?_
                        first
                        | exact ⟨60 - (i + 1), by omega, _, _, z, O2, W2, _, nms, (bys.set k (bys[k] ++ (deeds[i].b.extract 0 (min deeds[i].b.size 1000)))), i + 1, St.mkT (kp (kp (kp (kp (kp (kp rfl rfl) rfl) rfl) rfl) rfl) rfl).symm, (hW2.set hbM htk hc0 hkb _), hc3, by omega, rfl⟩
                        | exact ⟨60 - (i + 1), by omega, _, _, z, O2, W2, _, nms, (bys.set k (bys[k].extract 0 deeds[i].n.toNat)), i + 1, St.mkT (kp (kp (kp (kp (kp (kp rfl rfl) rfl) rfl) rfl) rfl) rfl).symm, (hW2.set hbM htk hc0 hkb _), hz, by omega, rfl⟩
                        | (obtain ⟨W4, hW4⟩ := hW2.anew hg4 hle4 hgo4; exact ⟨60 - (i + 1), by omega, _, M4, z, O2, W4, (.raw v4), (nms.take k ++ nms.drop (k + 1)), (bys.take k ++ bys.drop (k + 1)), i + 1, St.mkT (kp (kp (kp (kp (kp (kp rfl rfl) rfl) rfl) (congrArg (fun z => AVal.sl z true) (by rw [List.take_length, List.drop_zero, List.map_append, List.map_take, List.map_drop]))) rfl) rfl).symm, hW4, hc3, by omega, rfl⟩)
                        | exact ⟨60 - (i + 1), by omega, _, M3, z, O2, W3, (.raw v3), (nms ++ [deeds[i].a]), (bys ++ [⟨#[]⟩]), i + 1, St.mkT (kp (kp (kp (kp (kp (kp rfl rfl) rfl) rfl) (show AVal.sl (nms.map str ++ [str deeds[i].a]) true = AVal.sl ((nms ++ [deeds[i].a]).map str) true by rw [List.map_append]; rfl)) rfl) rfl).symm, hW3, (hc2 (by assumption)), by omega, rfl⟩
                        | exact ⟨60 - (i + 1), by omega, _, M2, z, O2, W2, X, nms, bys, i + 1, St.mkT (kp (kp (kp (kp (kp (kp rfl rfl) rfl) rfl) rfl) rfl) rfl).symm, hW2, hz, by omega, rfl⟩
                        | exact ⟨60 - (i + 1), by omega, _, M2, z, O2, W2, X, nms, bys, i + 1, St.mkT (kp (kp (kp (kp (kp (kp rfl rfl) rfl) rfl) rfl) rfl) rfl).symm, hW2, (by rw [hc3 (by assumption)]; exact hR.mono), by omega, rfl⟩
                        | exact ⟨60 - (i + 1), by omega, _, M2, z, O2, W2, X, nms, bys, i + 1, St.mkT (kp (kp (kp (kp (kp (kp rfl rfl) rfl) rfl) rfl) rfl) rfl).symm, hW2, (by rw [hc1 (by assumption)]; exact hR.mono), by omega, rfl⟩
                        | exact ⟨60 - (i + 1), by omega, _, M2, z, O2, W2, X, nms, bys, i + 1, St.mkT (kp (kp (kp (kp (kp (kp rfl rfl) rfl) rfl) rfl) rfl) rfl).symm, hW2, (by rw [(hc1 (hat2.neg.1 (by omega))).2]; exact hR.mono), by omega, rfl⟩
      · have k2 := h2; try simp only [decide_eq_true_eq, decide_eq_false_iff_not, Bool.not_eq_true', Bool.not_eq_false', Bool.not_true, Bool.not_false, List.length_map, Decidable.not_not] at k2
        refine s_exit ?_
        refine s_code_exit ?_
        refine s_inv_exit ?_
        refine s_blk_here ?_
        refine s_inv ?_
        exact ⟨_, Mc, s, O, W, X, nms, bys, i, St.mkT (kp (kp (kp (kp (kp (kp rfl rfl) rfl) rfl) rfl) rfl) rfl).symm, hW, hR, hi⟩
    · have k1 := h1; try simp only [decide_eq_true_eq, decide_eq_false_iff_not, Bool.not_eq_true', Bool.not_eq_false', Bool.not_true, Bool.not_false, List.length_map, Decidable.not_not] at k1
      refine o_no rfl rfl rfl rfl h1 ?_
      refine o_no rfl rfl rfl rfl h1 ?_
      refine o_q (q_pick_c (t := false) rfl h1 (v_raw rfl)) rfl rfl rfl ?_
      refine o_nil ?_
      refine s_else rfl rfl ?_
      refine s_exit ?_
      refine s_code_exit ?_
      refine s_inv_exit ?_
      refine s_blk_here ?_
      refine s_inv ?_
      exact ⟨_, Mc, s, O, W, X, nms, bys, i, St.mkT (kp (kp (kp (kp (kp (kp rfl rfl) rfl) rfl) rfl) rfl) rfl).symm, hW, hR, hi⟩
  rintro S ⟨T, Mc, s, O, W, X, nms, bys, i, rfl, hW, hR, hi⟩
  have hnl : nms.length ≤ 60 := by rw [← (w_list hR).2]; have := hR.dl; omega
  refine s_seq ?_
  refine s_region ?_
  refine o_q (q_mv ((by first | exact v_raw rfl | exact v_sptr rfl))) rfl rfl rfl ?_
  refine o_call ((list_at hW.dk (w_list hR).1)) goes28 (ac ((by first | exact v_raw rfl | exact v_sptr rfl)) ac_nil) rfl ?_
  refine o_q (q_mv (v_tup rfl)) rfl rfl rfl ?_
  refine o_q (q_ext rfl rfl (v_sl rfl)) rfl rfl rfl ?_
  refine o_q (q_ext rfl rfl (v_raw rfl)) rfl rfl rfl ?_
  refine o_q (q_as (v_sl rfl)) rfl rfl rfl ?_
  refine o_q (q_as (v_raw rfl)) rfl rfl rfl ?_
  refine o_nil ?_
  refine s_seq ?_
  refine s_seq ?_
  refine s_region ?_
  refine o_q (q_mv (v_raw rfl)) rfl rfl rfl ?_
  refine o_q (q_neq rfl rfl) rfl rfl rfl ?_
  refine o_q (q_mv (v_raw rfl)) rfl rfl rfl ?_
  refine o_yes rfl rfl rfl rfl ?_
  refine o_q (q_mv (v_sl rfl)) rfl rfl rfl ?_
  refine o_yes rfl rfl rfl rfl ?_
  refine o_q (q_len rfl und49 rfl) rfl rfl rfl ?_
  refine o_yes rfl rfl rfl rfl ?_
  refine o_q (q_mv (v_sl rfl)) rfl rfl rfl ?_
  refine o_yes rfl rfl rfl rfl ?_
  refine o_q (q_len rfl und49 rfl) rfl rfl rfl ?_
  refine o_yes rfl rfl rfl rfl ?_
  refine o_q (q_neq rfl rfl) rfl rfl rfl ?_
  refine o_q (q_pick_c (t := false) rfl rfl (v_raw rfl)) rfl rfl rfl ?_
  refine o_nil ?_
  refine s_cond rfl (fun h29 => ?_) (fun h29 => ?_)
  · have k29 := h29; try simp only [decide_eq_true_eq, decide_eq_false_iff_not, Bool.not_eq_true', Bool.not_eq_false', Bool.not_true, Bool.not_false, List.length_map, Decidable.not_not] at k29
    exact absurd (by rw [(w_list hR).2]) k29
  · have k29 := h29; try simp only [decide_eq_true_eq, decide_eq_false_iff_not, Bool.not_eq_true', Bool.not_eq_false', Bool.not_true, Bool.not_false, List.length_map, Decidable.not_not] at k29
    refine s_skip ?_
    refine s_seq ?_
    refine s_seq ?_
    refine s_region ?_
    refine o_q (q_as (v_raw rfl)) rfl rfl rfl ?_
    refine o_nil ?_
    refine s_block ?_
    refine s_loop (fun m S => ∃ T, ∃ p : Nat, S = ⟨setT (setT (setT (setT (setT T 3 (bool true)) 4 (ptr d)) 6 (.sl (nms.map str) true)) 7 (X)) 15 (int (p : Nat)), Mc⟩ ∧ p ≤ nms.length ∧ m = nms.length - p) nms.length ?_ ?_
    · exact ⟨_, 0, St.mkT (kp (kp (kp (kp (kp rfl rfl) rfl) rfl) rfl) rfl).symm, Nat.zero_le _, rfl⟩
    rintro m S ⟨T, p, rfl, hpl, rfl⟩
    refine s_seq ?_
    refine s_seq ?_
    refine s_region ?_
    refine o_q (q_mv (v_raw rfl)) rfl rfl rfl ?_
    refine o_q (q_mv (v_sl rfl)) rfl rfl rfl ?_
    refine o_q (q_len rfl und49 rfl) rfl rfl rfl ?_
    refine o_q (q_lss rfl rfl) rfl rfl rfl ?_
    refine o_nil ?_
    refine s_cond rfl (fun h30 => ?_) (fun h30 => ?_)
    · have k30 := h30; try simp only [decide_eq_true_eq, decide_eq_false_iff_not, Bool.not_eq_true', Bool.not_eq_false', Bool.not_true, Bool.not_false, List.length_map, Decidable.not_not] at k30
      have hp2 : p < nms.length := by omega
      have hpb : p < bys.length := by rw [hR.ln]; exact hp2
      obtain ⟨b, cs, hXe, hbM, htk, hc0⟩ := hW.raw hpb
      subst hXe
      refine s_skip ?_
      refine s_seq ?_
      refine s_block ?_
      refine s_seq ?_
      refine s_region ?_
      refine o_q (q_mv ((by first | exact v_raw rfl | exact v_sptr rfl))) rfl rfl rfl ?_
      refine o_q (q_mv (v_sl rfl)) rfl rfl rfl ?_
      refine o_q (q_mv (v_raw rfl)) rfl rfl rfl ?_
      refine o_q (q_idx und49 sz9 rfl rfl (by omega) (gm p (by first | omega | simp)) rfl) rfl rfl rfl ?_
      refine o_q (q_ld ag9 sz9 rfl (gm p (by first | omega | simp)) rfl (v_raw rfl)) rfl rfl rfl ?_
      refine o_call ((read_at hW.dk (w_read hR (List.getElem?_eq_getElem hp2) (List.getElem?_eq_getElem hpb)))) goes16 (ac ((by first | exact v_raw rfl | exact v_sptr rfl)) (ac (v_raw rfl) ac_nil)) rfl ?_
      refine o_q (q_mv (v_tup rfl)) rfl rfl rfl ?_
      refine o_q (q_ext rfl rfl (v_raw rfl)) rfl rfl rfl ?_
      refine o_q (q_ext rfl rfl (v_raw rfl)) rfl rfl rfl ?_
      refine o_q (q_as (v_raw rfl)) rfl rfl rfl ?_
      refine o_q (q_as (v_raw rfl)) rfl rfl rfl ?_
      refine o_nil ?_
      refine s_seq ?_
      refine s_region ?_
      refine o_q (q_mv (v_raw rfl)) rfl rfl rfl ?_
      refine o_q (q_mv (v_raw rfl)) rfl rfl rfl ?_
      refine o_q (q_mv (v_raw rfl)) rfl rfl rfl ?_
      refine o_q (q_idxr und49 sz9 rfl rfl (by omega) (by omega)) rfl rfl rfl ?_
      refine o_q (q_ldm ag9 sz9 rfl hbM (pc_str (by omega) htk hpb) (v_raw rfl)) rfl rfl rfl ?_
      refine o_q (q_sneq rfl rfl) rfl rfl rfl ?_
      refine o_q (q_mv (v_raw rfl)) rfl rfl rfl ?_
      refine o_cases (want := false) (j := 6) rfl rfl (fun h31 => ?_) (fun h31 => ?_)
      · have k31 := h31; try simp only [decide_eq_true_eq, decide_eq_false_iff_not, Bool.not_eq_true', Bool.not_eq_false', Bool.not_true, Bool.not_false, List.length_map, Decidable.not_not] at k31
        refine o_yes rfl rfl rfl h31 ?_
        refine o_q (q_mv (v_raw rfl)) rfl rfl rfl ?_
        refine o_yes rfl rfl rfl h31 ?_
        refine o_q (q_neq rfl rfl) rfl rfl rfl ?_
        refine o_q (q_pick_c (t := false) rfl h31 (v_raw rfl)) rfl rfl rfl ?_
        refine o_nil ?_
        refine s_cond rfl (fun h32 => ?_) (fun h32 => ?_)
        · have k32 := h32; try simp only [decide_eq_true_eq, decide_eq_false_iff_not, Bool.not_eq_true', Bool.not_eq_false', Bool.not_true, Bool.not_false, List.length_map, Decidable.not_not] at k32
          cases h32
        · have k32 := h32; try simp only [decide_eq_true_eq, decide_eq_false_iff_not, Bool.not_eq_true', Bool.not_eq_false', Bool.not_true, Bool.not_false, List.length_map, Decidable.not_not] at k32
          refine s_skip ?_
          refine s_blk_normal ?_
          refine s_region ?_
          refine o_q (q_mv (v_raw rfl)) rfl rfl rfl ?_
          refine o_q (q_add rfl rfl (wrap64 (by omega) (by omega))) rfl rfl rfl ?_
          refine o_q (q_as (v_raw rfl)) rfl rfl rfl ?_
          refine o_nil ?_
          refine s_inv ?_
          exact ⟨nms.length - (p + 1), by omega, _, p + 1, St.mkT (kp (kp (kp (kp (kp rfl rfl) rfl) rfl) rfl) rfl).symm, by omega, rfl⟩
      · have k31 := h31; try simp only [decide_eq_true_eq, decide_eq_false_iff_not, Bool.not_eq_true', Bool.not_eq_false', Bool.not_true, Bool.not_false, List.length_map, Decidable.not_not] at k31
        first | exact absurd rfl k31 | exact absurd trivial k31
    · have k30 := h30; try simp only [decide_eq_true_eq, decide_eq_false_iff_not, Bool.not_eq_true', Bool.not_eq_false', Bool.not_true, Bool.not_false, List.length_map, Decidable.not_not] at k30
      refine s_exit ?_
      refine s_code_exit ?_
      refine s_inv_exit ?_
      refine s_blk_here ?_
      refine s_seq ?_
      refine s_region ?_
      refine o_q (q_mv (v_raw rfl)) rfl rfl rfl ?_
      refine o_q (q_as (v_raw rfl)) rfl rfl rfl ?_
      refine o_nil ?_
      refine s_ret ?_
      refine s_end ?_
      exact ⟨rfl, le0 _⟩
end C04
