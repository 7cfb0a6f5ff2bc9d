import Derived.Test.YtphenhkofjbeoaaAm34
/-! Maps, told as lists of keys and values; and what a function may leave in memory. -/
namespace Go.Am
set_option linter.unusedSimpArgs false
set_option linter.unusedSectionVars false

/-! ### What is left in memory is forgotten -/

def Mem.le (M M' : Mem) : Prop := ∀ b o, M b = some o → M' b = some o

theorem Mem.le_refl (M : Mem) : M.le M := fun _ _ h => h
theorem Mem.le_trans {M M' M'' : Mem} (h : M.le M') (h' : M'.le M'') : M.le M'' := fun b o hb => h' b o (h b o hb)
theorem Mem.le_upd {M M' : Mem} {b : Nat} {o : AObj} (h : M.le M') (hb : M b = none) : M.le (M'.upd b o) := fun c p hc => by
  unfold Mem.upd
  split
  · subst_vars; rw [hb] at hc; cases hc
  · exact h c p hc
theorem Mem.none_of_le {M M' : Mem} (h : M.le M') {b : Nat} (hb : M' b = none) : M b = none := by
  cases hm : M b with
  | none => rfl
  | some o => rw [h b o hm] at hb; cases hb
theorem Mem.upd_ne {M : Mem} {b c : Nat} {o : AObj} {x : Option AObj} (h : b ≠ c) (hM : M b = x) : (M.upd c o) b = x := by
  unfold Mem.upd; rw [if_neg h]; exact hM
theorem Mem.upd_none {M : Mem} {b c : Nat} {o : AObj} (h : (M.upd c o) b = none) : b ≠ c ∧ M b = none := by
  unfold Mem.upd at h
  split at h
  · cases h
  · exact ⟨by assumption, h⟩

theorem SoundCall.weaken {P : Program} {f : FuncId} {args : List AVal} {M M' : Mem} {Post : AVal → Mem → Prop} (hm : M'.le M) (h : SoundCall P f args M' Post) : SoundCall P f args M Post :=
  fun κ w vs hs hh => h κ w vs hs (hh.forget hm)

theorem SoundCall.trim {P : Program} {f : FuncId} {args : List AVal} {M : Mem} {Post : AVal → Mem → Prop} (h : SoundCall P f args M Post) (hp : ∀ r M', Post r M' → M.le M') : SoundCall P f args M fun r M' => (∃ M'', Post r M'') ∧ M' = M :=
  fun κ w vs hs hh => (h κ w vs hs hh).mono fun _ _ ⟨v, κ', r, M', e, hq, hH, hK⟩ => ⟨v, κ', r, M, e, ⟨⟨M', hq⟩, rfl⟩, hH.forget (hp r M' hq), hK⟩

/-- Of a function that leaves more in memory than there was, this is told. -/
theorem SoundCall.det {P : Program} {f : FuncId} {args : List AVal} {M : Mem} {X : AVal} (h : SoundCall P f args M fun r M' => r = X ∧ M.le M') : SoundCall P f args M fun r M' => r = X ∧ M' = M :=
  (h.trim fun _ _ h => h.2).mono fun _ _ ⟨⟨_, h⟩, e⟩ => ⟨h.1, e⟩

/-! ### Maps -/

section
variable {α β : Type} [DecidableEq α]

def kget (l : List (α × β)) (k : α) : Option β := (l.find? fun p => p.1 = k).map (·.2)
def kput (l : List (α × β)) (k : α) (v : β) : List (α × β) := match l.findIdx? (fun p => p.1 = k) with | some i => l.set i (k, v) | none => l ++ [(k, v)]
def kdel (l : List (α × β)) (k : α) : List (α × β) := match l.findIdx? (fun p => p.1 = k) with | some i => l.eraseIdx i | none => l

theorem kget_nil (k : α) : kget ([] : List (α × β)) k = none := rfl
theorem kget_cons (p : α × β) (l : List (α × β)) (k : α) : kget (p :: l) k = if p.1 = k then some p.2 else kget l k := by
  unfold kget
  rw [List.find?_cons]
  by_cases h : p.1 = k <;> simp [h]
theorem kput_nil (k : α) (v : β) : kput ([] : List (α × β)) k v = [(k, v)] := rfl
theorem kput_cons (p : α × β) (l : List (α × β)) (k : α) (v : β) : kput (p :: l) k v = if p.1 = k then (k, v) :: l else p :: kput l k v := by
  unfold kput
  rw [List.findIdx?_cons]
  by_cases h : p.1 = k
  · simp [h]
  · simp only [h, decide_false, Bool.false_eq_true, if_false]
    cases l.findIdx? (fun p => decide (p.1 = k)) <;> simp
theorem kget_kput (l : List (α × β)) (k : α) (v : β) (k' : α) : kget (kput l k v) k' = if k' = k then some v else kget l k' := by
  induction l with
  | nil => rw [kput_nil, kget_cons, kget_nil]; by_cases h : k = k' <;> simp [h, eq_comm]
  | cons p l ih =>
    rw [kput_cons]
    split
    · rename_i h
      rw [kget_cons, kget_cons]
      by_cases h' : k = k'
      · simp [h']
      · simp [h', h, Ne.symm h']
    · rename_i h
      rw [kget_cons, kget_cons, ih]
      by_cases h' : p.1 = k'
      · subst h'; simp [h]
      · simp [h']
theorem kdel_cons (p : α × β) (l : List (α × β)) (k : α) : kdel (p :: l) k = if p.1 = k then l else p :: kdel l k := by
  unfold kdel
  rw [List.findIdx?_cons]
  by_cases h : p.1 = k
  · simp [h]
  · simp only [h, decide_false, Bool.false_eq_true, if_false]
    cases l.findIdx? (fun p => decide (p.1 = k)) <;> simp

def ents (ek : α → Value) (f : β → AVal) (l : List (α × β)) : List (Value × AVal) := l.map fun p => (ek p.1, f p.2)

theorem ents_keys (ek : α → Value) (f : β → AVal) (l : List (α × β)) : (ents ek f l).map (·.1) = (l.map (·.1)).map ek := by
  unfold ents; simp

/-- What is known of a type of keys. -/
structure KeyT (P : Program) (kt : TypeId) (ek : α → Value) : Prop where
  check : ∀ e k, pr P (Instr.checkKey e 10000 kt (ek k)) = some ()
  find : ∀ (k : α) (keys : List α), keyAt P kt (ek k) (keys.map ek) = some (keys.findIdx? fun x => x = k)
  same : ∀ k, Instr.sameBits 10000 (ek k) (ek k) = true

theorem findIdx_fst (l : List (α × β)) (k : α) : (l.map (·.1)).findIdx? (fun x => x = k) = l.findIdx? fun p => p.1 = k := by
  rw [List.findIdx?_map]; rfl

theorem put_ents (ek : α → Value) (f : β → AVal) (l : List (α × β)) (k : α) (v : β) : putEntry (ents ek f l) (l.findIdx? fun p => p.1 = k) (ek k) (f v) = ents ek f (kput l k v) := by
  unfold putEntry kput ents
  cases l.findIdx? (fun p => decide (p.1 = k)) <;> simp [List.map_set]

theorem del_ents (ek : α → Value) (f : β → AVal) (l : List (α × β)) (k : α) : (match l.findIdx? (fun p => p.1 = k) with | some i => (ents ek f l).eraseIdx i | none => ents ek f l) = ents ek f (kdel l k) := by
  unfold kdel
  have e : ∀ (l : List (α × β)) (i : Nat), (ents ek f l).eraseIdx i = ents ek f (l.eraseIdx i) := by
    intro l
    induction l with
    | nil => intro i; rfl
    | cons p l ih =>
      intro i
      cases i with
      | zero => rfl
      | succ i => show _ :: (ents ek f l).eraseIdx i = _ :: _; rw [ih]; rfl
  cases l.findIdx? (fun p => decide (p.1 = k))
  · rfl
  · exact e _ _

theorem get_ents (ek : α → Value) (f : β → AVal) (l : List (α × β)) (k : α) (z : AVal) : ((l.findIdx? (fun p => p.1 = k)).map fun i => (((ents ek f l)[i]?).map (·.2)).getD .undef).getD z = ((kget l k).map f).getD z ∧ (l.findIdx? (fun p => p.1 = k)).isSome = (kget l k).isSome := by
  induction l with
  | nil => exact ⟨rfl, rfl⟩
  | cons p l ih =>
    rw [List.findIdx?_cons, kget_cons]
    by_cases h : p.1 = k
    · simp [h, ents]
    · simp only [h, decide_false, Bool.false_eq_true, if_false]
      refine ⟨?_, ?_⟩
      · rw [← ih.1]
        cases l.findIdx? (fun p => decide (p.1 = k)) <;> simp [ents]
      · rw [← ih.2]; simp

end

theorem findNow_str (k : ByteArray) : ∀ (keys : List ByteArray) (i : Nat), Instr.findNow .string (.string k) (keys.map fun x => ⟨.string x, undef, 0⟩) i = some ((keys.findIdx? fun x => x = k).map fun j => (i + j, undef))
  | [], i => rfl
  | x :: keys, i => by
    rw [List.map_cons, List.findIdx?_cons]
    show (match Instr.sameNow .string (.string k) (.string x) with | some true => _ | some false => _ | none => _) = _
    have e : Instr.sameNow .string (.string k) (.string x) = some (decide (k = x)) := by rw [← ba_beq]; rfl
    rw [e]
    by_cases h : k = x
    · subst h; simp
    · rw [decide_eq_false h]
      show Instr.findNow .string (.string k) _ (i + 1) = _
      rw [findNow_str k keys (i + 1)]
      have h' : ¬ x = k := fun h' => h h'.symm
      simp only [h', decide_false, Bool.false_eq_true, if_false]
      cases keys.findIdx? (fun x => decide (x = k)) <;> simp; omega

theorem findNow_int (kd : IntKind) (k : Int) : ∀ (keys : List Int) (i : Nat), Instr.findNow (.int kd) (.int kd k) (keys.map fun x => ⟨.int kd x, undef, 0⟩) i = some ((keys.findIdx? fun x => x = k).map fun j => (i + j, undef))
  | [], i => rfl
  | x :: keys, i => by
    rw [List.map_cons, List.findIdx?_cons]
    show (match Instr.sameNow (.int kd) (.int kd k) (.int kd x) with | some true => _ | some false => _ | none => _) = _
    have e : Instr.sameNow (.int kd) (.int kd k) (.int kd x) = some (decide (k = x)) := by cases kd <;> rfl
    rw [e]
    by_cases h : k = x
    · subst h; simp
    · rw [decide_eq_false h]
      show Instr.findNow (.int kd) (.int kd k) _ (i + 1) = _
      rw [findNow_int kd k keys (i + 1)]
      have h' : ¬ x = k := fun h' => h h'.symm
      simp only [h', decide_false, Bool.false_eq_true, if_false]
      cases keys.findIdx? (fun x => decide (x = k)) <;> simp; omega

theorem keyT_str {P : Program} {kt : TypeId} (h : P.underlying kt = some .string) : KeyT P kt Value.string where
  check e k := by
    show pr P (underlying kt >>= _) = _
    rw [pr_b, pr_underlying h]; rfl
  find k keys := by
    unfold keyAt
    have e : pr P (Instr.findKey kt (.string k) ((keys.map Value.string).map fun x => ⟨x, undef, 0⟩)) = some ((keys.findIdx? fun x => x = k).map fun j => (j, undef)) := by
      show pr P (underlying kt >>= _) = _
      rw [pr_b, pr_underlying h, Option.bind_some, List.map_map]
      have := findNow_str k keys 0
      simp only [Nat.zero_add] at this
      rw [show ((fun x => (⟨x, undef, 0⟩ : MapEntry)) ∘ Value.string) = fun x => ⟨.string x, undef, 0⟩ from rfl, this]
      rfl
    rw [e]
    cases keys.findIdx? (fun x => decide (x = k)) <;> rfl
  same k := by
    show (k == k) = true
    rw [ba_beq]; simp

theorem keyT_int {P : Program} {kt : TypeId} {kd : IntKind} (h : P.underlying kt = some (.int kd)) : KeyT P kt (Value.int kd) where
  check e k := by
    show pr P (underlying kt >>= _) = _
    rw [pr_b, pr_underlying h]; rfl
  find k keys := by
    unfold keyAt
    have e : pr P (Instr.findKey kt (.int kd k) ((keys.map (Value.int kd)).map fun x => ⟨x, undef, 0⟩)) = some ((keys.findIdx? fun x => x = k).map fun j => (j, undef)) := by
      show pr P (underlying kt >>= _) = _
      rw [pr_b, pr_underlying h, Option.bind_some, List.map_map]
      have := findNow_int kd k keys 0
      simp only [Nat.zero_add] at this
      rw [show ((fun x => (⟨x, undef, 0⟩ : MapEntry)) ∘ Value.int kd) = fun x => ⟨.int kd x, undef, 0⟩ from rfl, this]
      rfl
    rw [e]
    cases keys.findIdx? (fun x => decide (x = k)) <;> rfl
  same k := by
    show (kd == kd && k == k) = true
    cases kd <;> simp <;> rfl

section
variable {α β : Type} [DecidableEq α] {P : Program} {tkr : Nat → Option Nat} {ops : Array Oper} {K : St → Prop} {i : Nat} {rest : List Oper} {d : Nat} {T : Nat → AVal} {M : Mem} {ty ty₁ kt et : TypeId} {pos : String} {af : Array Edge} {x y z : Operand} {ek : α → Value} {f : β → AVal} {k : α} {v : β} {kvs : List (α × β)} {b : Nat} {dst : Option Nat} {g : Option (Nat × Bool)}

theorem o_mput (hu : P.underlying ty₁ = some (.map kt et)) (hk : KeyT P kt ek) (hm : ev T x = .raw (.map (some b))) (hy : ev T y = .raw (ek k)) (hM : M b = some (.map (ents ek f kvs))) (hV : (ev T z).shut = f v)
    (h : aOps P tkr ops K (i + 1) rest ⟨T, M.upd b (.map (ents ek f (kput kvs k v)))⟩) : aOps P tkr ops K i (mkO none (.mapUpdate ty₁ x y z) ty pos af none :: rest) ⟨T, M⟩ := by
  refine o_mapUpdate hu hm hy hM (hk.check false k) (by rw [ents_keys, hk.find, findIdx_fst]) (fun j hj => ?_) hV (by rw [put_ents]; exact h)
  have h1 := List.findIdx?_eq_some_iff_getElem.1 hj
  obtain ⟨h2, h3, -⟩ := h1
  have : (ents ek f kvs)[j]? = some (ek kvs[j].1, f kvs[j].2) := by unfold ents; simp [h2]
  rw [this]
  simp only [decide_eq_true_eq] at h3
  show Instr.sameBits 10000 (ek kvs[j].1) (ek k) = true
  rw [h3]; exact hk.same k

theorem aLookup_eq {ok : Bool} {zv : Value} {X Y : AVal} (hu : P.underlying ty₁ = some (.map kt et)) (hk : KeyT P kt ek) (hz : zeroT P et = some zv) (hm : X = .raw (.map (some b))) (hy : Y = .raw (ek k)) (hM : M b = some (.map (ents ek f kvs))) :
    aLookup P M ty₁ X Y ok = some (if ok then .tup [((kget kvs k).map f).getD (ofConst zv), .raw (.bool (kget kvs k).isSome)] else ((kget kvs k).map f).getD (ofConst zv)) := by
  subst hm; subst hy
  obtain ⟨h1, h2⟩ := get_ents ek f kvs k (ofConst zv)
  simp only [aLookup, hu, rawOf, entsM, hM, hk.check, ents_keys, hk.find, findIdx_fst, hz]
  rw [h1, h2]

theorem q_mget {zv : Value} {V : AVal} (hu : P.underlying ty₁ = some (.map kt et)) (hk : KeyT P kt ek) (hz : zeroT P et = some zv) (hm : ev T x = .raw (.map (some b))) (hy : ev T y = .raw (ek k)) (hM : M b = some (.map (ents ek f kvs))) (hV : (((kget kvs k).map f).getD (ofConst zv)).shut = V) :
    qstep P none (mkO dst (.lookup ty₁ x y false) ty pos af g) T M = some (⟨none, V⟩, [b]) := by
  subst hV
  simp only [qstep, aop]
  rw [aLookup_eq hu hk hz hm hy hM]
  simp only [Option.map_some, readsOf, hm, Bool.false_eq_true, if_false]

theorem q_mget2 {zv : Value} {V : AVal} (hu : P.underlying ty₁ = some (.map kt et)) (hk : KeyT P kt ek) (hz : zeroT P et = some zv) (hm : ev T x = .raw (.map (some b))) (hy : ev T y = .raw (ek k)) (hM : M b = some (.map (ents ek f kvs))) (hV : (((kget kvs k).map f).getD (ofConst zv)).shut1 = V) :
    qstep P none (mkO dst (.lookup ty₁ x y true) ty pos af g) T M = some (⟨none, .tup [V, .raw (.bool (kget kvs k).isSome)]⟩, [b]) := by
  subst hV
  simp only [qstep, aop]
  rw [aLookup_eq hu hk hz hm hy hM]
  simp only [Option.map_some, readsOf, hm, if_true, AVal.shut, List.map_cons, List.map_nil]
  rfl

theorem o_delete {ats : Array TypeId} (h0 : ats[0]? = some ty₁) (hu : P.underlying ty₁ = some (.map kt et)) (hk : KeyT P kt ek) (hm : ev T x = .raw (.map (some b))) (hy : ev T y = .raw (ek k)) (hM : M b = some (.map (ents ek f kvs)))
    (h : aOps P tkr ops K (i + 1) rest ⟨setT T d (.raw (.tuple #[])), M.upd b (.map (ents ek f (kdel kvs k)))⟩) : aOps P tkr ops K i (mkO (some d) (.call { callee := .builtin .delete, args := #[x, y], argTypes := ats }) ty pos af none :: rest) ⟨T, M⟩ := by
  refine o_x rfl ?_
  show estep P (tkr i) _ T M _
  unfold estep
  dsimp only
  simp only [h0]
  unfold eDelete
  rw [hm, hy, hu]
  simp only [rawOf, hM, hk.check, ents_keys, hk.find, findIdx_fst]
  have e := del_ents ek f kvs k
  cases hi : kvs.findIdx? (fun p => decide (p.1 = k)) with
  | none => rw [hi] at e; dsimp only at e ⊢; rw [e]; exact h
  | some j => rw [hi] at e; dsimp only at e ⊢; rw [e]; exact h

end
end Go.Am
