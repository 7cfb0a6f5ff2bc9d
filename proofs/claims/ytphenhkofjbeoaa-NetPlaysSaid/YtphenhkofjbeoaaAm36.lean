import Derived.Test.YtphenhkofjbeoaaAm35
/-! The walk: structs that are built field by field. -/
namespace Go.Am
set_option linter.unusedSimpArgs false

section
variable {P : Program} {T : Nat → AVal} {M : Mem} {t : TypeId} {x : Operand} {V X : AVal} {cells cells' out : List AVal} {rest : List (Nat × Operand)} {i off n : Nat}

theorem mapM_get {α β : Type} {f : α → Option β} : ∀ (l : List α) (r : List β), l.mapM f = some r → ∀ (i : Nat) a, l[i]? = some a → ∃ b, r[i]? = some b ∧ f a = some b
  | [], r, h, i, a, ha => by simp at ha
  | y :: l, r, h, i, a, ha => by
    rw [List.mapM_cons] at h
    cases h1 : f y with
    | none => rw [h1] at h; cases h
    | some b =>
      rw [h1] at h
      simp only [Option.bind_eq_bind, Option.bind_some] at h
      cases h2 : l.mapM f with
      | none => rw [h2] at h; cases h
      | some r' =>
        rw [h2] at h
        obtain rfl := Option.some.inj h
        cases i with
        | zero => simp at ha; subst ha; exact ⟨b, rfl, h1⟩
        | succ i => simpa using mapM_get l r' h2 i a (by simpa using ha)

theorem places_fo {place : Nat → Option (Nat × Nat)} (hp : aPlaces P t = some place) (hf : fo P t i = some (off, n)) : place i = some (off, n) := by
  obtain ⟨fd, h1, h2, h3⟩ := fo_spec hf
  unfold aPlaces at hp
  unfold fieldT at h1
  cases hu : P.underlying t with
  | none => rw [hu] at h1; cases h1
  | some d =>
    rw [hu] at h1 hp
    cases d <;> simp only at h1 hp <;> try cases h1
    rename_i fs
    simp only [Option.map_eq_some_iff] at hp
    obtain ⟨ps, h4, rfl⟩ := hp
    rw [Array.mapM_eq_mapM_toList] at h4
    simp only [Option.map_eq_map, Option.map_eq_some_iff] at h4
    obtain ⟨l, h5, rfl⟩ := h4
    obtain ⟨b, h6, h7⟩ := mapM_get _ _ h5 i fd (by simpa using h1)
    simp only [h2, Option.map_some, Option.some.injEq] at h7
    show l.toArray[i]? = _
    simp [h6, ← h7, h3]

def BF (P : Program) (t : TypeId) (T : Nat → AVal) (cells : List AVal) (parts : List (Nat × Operand)) (out : List AVal) : Prop :=
  ∀ place, aPlaces P t = some place → aFill place cells (parts.map fun (i, x) => (i, ev T x)) = some out

theorem bf_nil : BF P t T cells [] cells := fun _ _ => rfl

theorem bf (hf : fo P t i = some (off, n)) (hV : ev T x = V) (hok : V.ok = true) (hn : V.cells.length = n) (hl : off + n ≤ cells.length) (hc : cells.take off ++ V.cells ++ cells.drop (off + n) = cells') (h : BF P t T cells' rest out) : BF P t T cells ((i, x) :: rest) out := by
  intro place hp
  subst hV; subst hc; subst hn
  have h1 := h place hp
  simp only [List.map_cons, aFill, places_fo hp hf]
  rw [if_neg (by simp [hok]; omega)]
  exact h1

theorem e_raw {v : Value} (h : X = .raw v) : X = .raw v := h
theorem e_sl {l : List AVal} {o : Bool} (h : X = .sl l o) : X = .sl l o := h
theorem e_agg {l : List AVal} (h : X = .agg l) : X = .agg l := h

variable {dst : Option Nat} {g : Option (Nat × Bool)} {ty : TypeId} {pos : String} {af : Array Edge} {cs zs : List AVal} {parts : Array (Nat × Operand)}

theorem q_b (hz : (zeroT P t).map (fun z => z.cells.toList.map AVal.raw) = some zs) (hp : (aPlaces P t).isSome = true) (h : BF P t T zs parts.toList cs) : qstep P none (mkO dst (.build t parts) ty pos af g) T M = some (⟨none, .agg cs⟩, []) := by
  refine q_build ?_
  obtain ⟨place, hpl⟩ := Option.isSome_iff_exists.1 hp
  obtain ⟨z, h1, h2⟩ := Option.map_eq_some_iff.1 hz
  unfold aBuild
  simp only [h1, hpl, h2, h place hpl, Option.map_some]

theorem loadP_w {n : Nat} {W : AVal} {ws : List AVal} (ha : aggT P t = some true) (hs : sizeT P t = some n) (hW : W = .agg ws) (hn : ws.length = n) : loadP P t W.cells 0 = some W := by
  subst hW; subst hn
  simp [loadP, ha, hs, piece, AVal.cells]

theorem loadP_1 {n o : Nat} {l : List AVal} (ha : aggT P t = some false) (hs : sizeT P t = some n) (hV : l[o]? = some V) : loadP P t l o = some V := by
  simp [loadP, ha, hs, piece, hV]

/-- A result that stands in memory. -/
theorem ret_cell {fn : Func} {a b o : Nat} {l : List AVal} {Post : AVal → Mem → Prop} {e : Exit} (he : e = .ret ∨ e = .normal) (hr : fn.results.toList = [.cell a t]) (hA : T a = .raw (.pointer (some ⟨b, o, none⟩))) (hM : M b = some (.cells l)) (hl : loadP P t l o = some V) (h : Post V.shut M) : aRet P fn Post e ⟨T, M⟩ := by
  have : aResults P ⟨T, M⟩ fn.results.toList = some V.shut := by
    rw [hr]
    simp only [aResults, aRes1, hA, hM, hl, Option.map_some]
  rcases he with rfl | rfl
  · show (match aResults P ⟨T, M⟩ fn.results.toList with | some r => Post r M | none => False)
    rw [this]; exact h
  · show (match aResults P ⟨T, M⟩ fn.results.toList with | some r => Post r M | none => False)
    rw [this]; exact h

end
end Go.Am
