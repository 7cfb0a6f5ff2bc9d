import Derived.Test.YtphenhkofjbeoaaAm43
set_option linter.unusedSimpArgs false
/-! Lemmas for a walk: slices in memory that is known: fresh copies, and copies of them. -/
namespace Go.Am
set_option linter.unusedVariables false
section
variable {P : Program} {tkr : Nat → Option Nat} {ops : Array Oper} {K : St → Prop} {i : Nat} {rest : List Oper} {d : Nat} {T : Nat → AVal} {M : Mem} {ty : TypeId} {pos : String} {af : Array Edge} {x y : Operand} {ats : Array TypeId}
  {α : Type} {f : α → AVal} {z0 : α}

/-- A slice that lies in memory, from a block's beginning on. -/
structure At (f : α → AVal) (z0 : α) (M : Mem) (base : Option Addr) (l : List α) : Prop where
  at_ : l ≠ [] → ∃ b k, base = some ⟨b, 0, none⟩ ∧ M b = some (.cells ((l ++ List.replicate k z0).map f))
/-- A slice that was made anew. -/
structure Fr (f : α → AVal) (z0 : α) (M M1 : Mem) (base : Option Addr) (c : Nat) (l : List α) : Prop where
  nil : l = [] → M1 = M
  new : l ≠ [] → ∃ b k, base = some ⟨b, 0, none⟩ ∧ M b = none ∧ c = l.length + k ∧ M1 = M.upd b (.cells ((l ++ List.replicate k z0).map f))
theorem Fr.le {M M1 : Mem} {base : Option Addr} {c : Nat} {l : List α} (h : Fr f z0 M M1 base c l) : M.le M1 := by
  by_cases e : l = []
  · rw [h.nil e]; exact Mem.le_refl M
  · obtain ⟨b, k, -, hb, -, rfl⟩ := h.new e
    exact Mem.le_upd (Mem.le_refl M) hb
theorem Fr.here {M M1 : Mem} {base : Option Addr} {c : Nat} {l : List α} (h : Fr f z0 M M1 base c l) : At f z0 M1 base l :=
  ⟨fun e => by
    obtain ⟨b, k, h1, -, -, rfl⟩ := h.new e
    exact ⟨b, k, h1, Mem.upd_self _ _ _⟩⟩
theorem shut_map (hf : ∀ a, (f a).shut = f a) (l : List α) : (l.map f).map AVal.shut = l.map f := by
  rw [List.map_map]; exact List.map_congr_left fun a _ => hf a
theorem src_sl {ys : List AVal} {own : Bool} (hy : ev T y = .sl ys own) : srcM M (ev T y) = some (.sl ys own) := by rw [hy]; rfl
theorem src_at {base : Option Addr} {c : Nat} {l : List α} (hf : ∀ a, (f a).shut = f a) (h : At f z0 M base l) (hy : ev T y = .raw (.slice base l.length c)) : srcM M (ev T y) = some (.sl (l.map f) false) := by
  rw [hy]
  unfold srcM
  dsimp only
  by_cases e : l = []
  · subst e; rfl
  · obtain ⟨b, k, rfl, hb⟩ := h.at_ e
    rw [if_neg (fun h => e (List.eq_nil_of_length_eq_zero h))]
    dsimp only
    rw [hb]
    dsimp only
    rw [if_pos (by simp), List.drop_zero, ← List.map_take, List.take_left, shut_map hf]

/-- What is copied lies in memory that is known. -/
theorem o_appf {st e : TypeId} {by_ : Nat} {l : List α} {own : Bool} (ht : SlT P st e 1 by_) (h0 : ats[0]? = some st) (h1 : ats[1]? = some st) (hz : zeroCellsT P e = some [f z0]) (hf : ∀ a, (f a).shut = f a ∧ (f a).cells = [f a] ∧ (f a).ok = true ∧ (f a).unit = true) (hx : emptyX (ev T x)) (hy : srcM M (ev T y) = some (.sl (l.map f) own)) (hn : l.length * by_ ≤ 2 ^ 47)
    (h : ∀ base c M1, Fr f z0 M M1 base c l → aOps P tkr ops K (i + 1) rest ⟨setT T d (.raw (.slice base l.length c)), M1⟩) : aOps P tkr ops K i (mkO (some d) (.call { callee := .builtin .append, args := #[x, y], argTypes := ats }) ty pos af none :: rest) ⟨T, M⟩ := by
  refine o_xs rfl ?_
  refine .inr ⟨rfl, .inl ⟨_, st, e, f z0, hy, h0, ht.u, hz, (hf z0).2.2.2, .inl ⟨hx, ?_⟩⟩⟩
  have happ : aAppend P ats (.sl [] true) (.sl (l.map f) own) = some (l.map f) := by
    rw [aAppend_eq ht h0 h1 Els.nil (Els.map fun a => ⟨(hf a).2.2.1, by rw [(hf a).2.1]; rfl⟩) (by simpa using hn)]; rfl
  refine ⟨l.map f, fun e he => ?_, happ, fun base c M1 k1 k2 => ?_⟩
  · obtain ⟨a, -, rfl⟩ := List.mem_map.1 he
    exact (hf a).2.1
  · rw [List.length_map] at k2 ⊢
    refine h base c M1 ⟨fun e => (k1 (by rw [e]; rfl)).2, fun e => ?_⟩
    obtain ⟨b, hb, hM, hc, e2⟩ := k2 (fun h' => e (List.map_eq_nil_iff.1 h'))
    refine ⟨b, c - l.length, hb, hM, by omega, ?_⟩
    rw [e2, shut_map (fun a => (hf a).1), List.map_append, List.map_replicate]

/-- A slice in memory is held against nil. -/
theorem o_nilraw {op : BinOp} {e t₁ t₂ : TypeId} {p : Option Addr} {n c : Nat} (hu : P.underlying t₁ = some (.slice e)) (hx : ev T x = .raw (.slice p n c)) (hy : isNilSlice y = true) (hop : op = .eql ∨ op = .neq)
    (h : ∀ b, (op = .eql → b = p.isNone) → (op = .neq → b = !p.isNone) → aOps P tkr ops K (i + 1) rest ⟨setT T d (.raw (.bool b)), M⟩) : aOps P tkr ops K i (mkO (some d) (.binOp op t₁ x y t₂) ty pos af none :: rest) ⟨T, M⟩ := by
  refine o_x rfl ?_
  show estep P (tkr i) _ T M _
  unfold estep
  refine .inr ?_
  unfold eNil
  rw [hx, hu]
  exact ⟨hy, hop, fun b h1 h2 => h b h1 h2⟩
theorem At.nil_of {M : Mem} {p : Option Addr} {l : List α} (h : At f z0 M p l) (hp : p.isNone = true) : l = [] := by
  by_cases e : l = []
  · exact e
  · obtain ⟨b, k, rfl, -⟩ := h.at_ e
    cases hp

/-- A copy that may be appended to. -/
theorem o_apps {st e : TypeId} {sz by_ : Nat} {ys : List AVal} {own : Bool} (ht : SlT P st e sz by_) (h0 : ats[0]? = some st) (h1 : ats[1]? = some st) (hx : emptyX (ev T x)) (hy : srcM M (ev T y) = some (.sl ys own)) (hys : Els sz ys) (hn : ys.length * by_ ≤ 2 ^ 47)
    (h : aOps P tkr ops K (i + 1) rest ⟨setT T d (.sl ys true), M⟩) : aOps P tkr ops K i (mkO (some d) (.call { callee := .builtin .append, args := #[x, y], argTypes := ats }) ty pos af none :: rest) ⟨T, M⟩ := by
  refine o_xs rfl ?_
  refine .inr ⟨rfl, .inr ⟨_, ys, hy, hx, ?_, h⟩⟩
  rw [aAppend_eq ht h0 h1 Els.nil hys (by simpa using hn)]; rfl

/-- An empty slice is one that lies somewhere. -/
theorem SoundCall.rawnil {P : Program} {f : FuncId} {args : List AVal} {M : Mem} {Post Post' : AVal → Mem → Prop} (h : SoundCall P f args M Post) (hp : ∀ r M', Post r M' → Post' r M' ∨ ∃ o, r = .sl [] o ∧ ∀ base c, Post' (.raw (.slice base 0 c)) M') : SoundCall P f args M Post' := fun κ w vs hs hh => (h κ w vs hs hh).mono fun _ _ ⟨v, κ', r, M', e, hq, hH, hK⟩ => by
  rcases hp r M' hq with h1 | ⟨o, rfl, h1⟩
  · exact ⟨v, κ', r, M', e, h1, hH, hK⟩
  · have hr := hH.tmp 0
    have hr' : Rep P κ' _ (.sl [] o) v := hr
    obtain ⟨base, c, rfl⟩ : ∃ base c, v = .slice base 0 c := by
      rcases rep_sl_inv hr' with ⟨-, e⟩ | ⟨b, off, cap, sz, cv, e, -⟩
      · exact ⟨none, 0, e⟩
      · exact ⟨_, cap, e⟩
    refine ⟨_, κ', _, M', e, h1 base c, ?_, hK⟩
    have hput := hH.put 0 (X := .raw (.slice base 0 c)) (x := .slice base 0 c) (.raw _) fun _ _ => Spare.not_raw
    have e1 : setT (argT [AVal.sl [] o]) 0 (.raw (.slice base 0 c)) = argT [.raw (.slice base 0 c)] := by
      funext t
      unfold setT argT
      by_cases ht : t = 0
      · subst ht; rfl
      · rw [if_neg ht]
        obtain ⟨k, rfl⟩ : ∃ k, t = k + 1 := ⟨t - 1, by omega⟩
        rfl
    have e2 : (fun t => if t = 0 then Value.slice base 0 c else (fun t => if t = 0 then Value.slice base 0 c else undef) t) = fun t => if t = 0 then Value.slice base 0 c else undef := by
      funext t
      by_cases ht : t = 0
      · simp [ht]
      · simp [ht]
    rw [e1, e2] at hput
    exact hput
/-- The same, of the last one of two results. -/
theorem SoundCall.rawnil2 {P : Program} {f : FuncId} {args : List AVal} {M : Mem} {Post Post' : AVal → Mem → Prop} (h : SoundCall P f args M Post) (hp : ∀ r M', Post r M' → Post' r M' ∨ ∃ a o, r = .tup [.raw a, .sl [] o] ∧ ∀ base c, Post' (.tup [.raw a, .raw (.slice base 0 c)]) M') : SoundCall P f args M Post' := fun κ w vs hs hh => (h κ w vs hs hh).mono fun _ _ ⟨v, κ', r, M', e, hq, hH, hK⟩ => by
  rcases hp r M' hq with h1 | ⟨a, o, rfl, h1⟩
  · exact ⟨v, κ', r, M', e, h1, hH, hK⟩
  · have hr' : Rep P κ' _ (.tup [.raw a, .sl [] o]) v := hH.tmp 0
    cases hr' with
    | tup _ us hl hr =>
      match us, hl, hr with
      | ⟨[u0, u1]⟩, _, hr =>
        have r0 := hr 0 _ u0 rfl rfl
        have r1 := hr 1 _ u1 rfl rfl
        obtain rfl := rep_raw r0
        obtain ⟨base, c, rfl⟩ : ∃ base c, u1 = .slice base 0 c := by
          rcases rep_sl_inv r1 with ⟨-, e⟩ | ⟨b, off, cap, sz, cv, e, -⟩
          · exact ⟨none, 0, e⟩
          · exact ⟨_, cap, e⟩
        refine ⟨_, κ', _, M', e, h1 base c, ?_, hK⟩
        have hput := hH.put 0 (X := .tup [.raw u0, .raw (.slice base 0 c)]) (x := .tuple ⟨[u0, .slice base 0 c]⟩) (.tup _ _ rfl fun i c' v' g1 g2 => by
          match i, g1, g2 with
          | 0, g1, g2 => cases g1; cases g2; exact .raw _
          | 1, g1, g2 => cases g1; cases g2; exact .raw _
          | i + 2, g1, _ => simp at g1) fun b o' hsp => by
            rcases hsp with ⟨l, o1, c1, g1, -⟩ | ⟨Vs, vs', i, X, x, g1, g2, g3, g4, g5⟩
            · cases g1
            · cases g1
              obtain ⟨l, o1, c1, g6, -⟩ := g5
              match i, g3 with
              | 0, g3 => cases g3; cases g6
              | 1, g3 => cases g3; cases g6
              | i + 2, g3 => simp at g3
        have e1 : setT (argT [AVal.tup [.raw u0, .sl [] o]]) 0 (.tup [.raw u0, .raw (.slice base 0 c)]) = argT [.tup [.raw u0, .raw (.slice base 0 c)]] := by
          funext t
          unfold setT argT
          by_cases ht : t = 0
          · subst ht; rfl
          · rw [if_neg ht]
            obtain ⟨k, rfl⟩ : ∃ k, t = k + 1 := ⟨t - 1, by omega⟩
            rfl
        have e2 : ∀ X : Value, (fun t => if t = 0 then X else (fun t => if t = 0 then X else undef) t) = fun t => if t = 0 then X else undef := fun X => by
          funext t
          by_cases ht : t = 0
          · simp [ht]
          · simp [ht]
        rw [e1, e2] at hput
        exact hput
end
end Go.Am
