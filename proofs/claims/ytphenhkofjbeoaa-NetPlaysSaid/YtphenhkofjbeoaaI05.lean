import Derived.Test.YtphenhkofjbeoaaF05
import Derived.Test.YtphenhkofjbeoaaG05
import Derived.Test.YtphenhkofjbeoaaProg
/-! Chapter 5: the net: what its functions compute. -/
open Go Go.Proofs Go.Am
set_option linter.unusedVariables false
set_option linter.unusedSimpArgs false
set_option autoImplicit false
namespace C05
theorem ag40 : aggT Try.prog 40 = some false := by kernel_rfl
theorem ag52 : aggT Try.prog 52 = some false := by kernel_rfl
theorem fo54_0 : fo Try.prog 54 0 = some (0, 1) := by kernel_rfl
theorem fo54_1 : fo Try.prog 54 1 = some (1, 1) := by kernel_rfl
theorem fo54_2 : fo Try.prog 54 2 = some (2, 1) := by kernel_rfl
theorem sz40 : sizeT Try.prog 40 = some 1 := by kernel_rfl
theorem sz52 : sizeT Try.prog 52 = some 1 := by kernel_rfl
theorem und52 : Try.prog.underlying 52 = some (.slice 40) := by kernel_rfl
def tk30 : Nat → Nat → Option Nat := fun _ _ => none
def pl30 : Nat → List PStep := fun _ => []
theorem cb30 : Try.f30.body.map (codeB Try.prog Try.f30.ntmps tk30 pl30) = some true := by kernel_rfl
theorem goes30 : goesB Try.prog 30 = true := by kernel_rfl
-- (*carillon/carillonref05.Net).at params ['*carillonref05.Net', 'int', 'int'] results [['t', 6]] own [] names ['0:x', '1:a', '2:b', '3:x', '4:a', '5:b'] calls [] paths 6

def okR (n a b : Int) : Bool := inN n a && inN n b && decide (a ≠ b)
def atR (n a b : Int) : Int := if okR n a b then a * n + b else -1
def lk (N : Nat) (q : K2 → List ByteArray) : List AVal := (List.range (N * N)).map fun k => .sl ((q (((k / N : Nat) : Int), ((k % N : Nat) : Int))).map str) true
structure RefAt (M : Mem) (y L N side : Nat) (q : K2 → List ByteArray) : Prop where
  hy : M y = some (.cells [int (N : Int), rsl L (N * N) (N * N), int side])
  hL : M L = some (.cells (lk N q))
  yL : y ≠ L
  n7 : 1 ≤ N ∧ N ≤ 7
  hz : ∀ a b, okR N a b = false → q (a, b) = []
  ql : ∀ k, (q k).length ≤ 64
  s63 : side < 2 ^ 63
theorem atR_neg {N : Nat} {a b : Int} (h : atR N a b < 0) : okR N a b = false := by
  cases hk : okR N a b with
  | false => rfl
  | true =>
    exfalso
    unfold atR at h
    rw [hk, if_pos rfl] at h
    unfold okR inN at hk
    simp only [Bool.and_eq_true, decide_eq_true_eq] at hk
    have := Int.mul_nonneg hk.1.1.1 (Int.natCast_nonneg N)
    omega
theorem atR_pos {N : Nat} {a b : Int} (h : ¬ atR N a b < 0) : okR N a b = true ∧ ∃ m k : Nat, a = m ∧ b = k ∧ m < N ∧ k < N ∧ m ≠ k ∧ atR N a b = ((m * N + k : Nat) : Int) ∧ m * N + k < N * N := by
  cases hk : okR N a b with
  | false => unfold atR at h; rw [hk, if_neg (by decide)] at h; exact absurd (by decide) h
  | true =>
    have hk' := hk
    unfold okR inN at hk
    simp only [Bool.and_eq_true, decide_eq_true_eq] at hk
    obtain ⟨m, rfl⟩ := Int.eq_ofNat_of_zero_le hk.1.1.1
    obtain ⟨k, rfl⟩ := Int.eq_ofNat_of_zero_le hk.1.2.1
    have hm : m < N := by omega
    have hk2 : k < N := by omega
    refine ⟨rfl, m, k, rfl, rfl, hm, hk2, by omega, ?_, ?_⟩
    · unfold atR; rw [hk', if_pos rfl]; rw [Int.natCast_add, Int.natCast_mul]
    · calc m * N + k < m * N + N := by omega
        _ = (m + 1) * N := by rw [Nat.add_mul, Nat.one_mul]
        _ ≤ N * N := Nat.mul_le_mul_right N hm
theorem lk_len {N : Nat} {q : K2 → List ByteArray} : (lk N q).length = N * N := by simp [lk]
theorem lk_get {N m k : Nat} {q : K2 → List ByteArray} (hm : m < N) (hk : k < N) (hb : m * N + k < N * N) : (lk N q)[m * N + k]? = some (.sl ((q ((m : Int), (k : Int))).map str) true) := by
  unfold lk
  rw [List.getElem?_map, List.getElem?_range hb, Option.map_some]
  rw [show (m * N + k) / N = m by rw [Nat.mul_comm, Nat.mul_add_div (by omega), Nat.div_eq_of_lt hk, Nat.add_zero], show (m * N + k) % N = k by rw [Nat.mul_comm, Nat.mul_add_mod, Nat.mod_eq_of_lt hk]]
theorem off_R {N m k : Nat} {a b : Int} (h : atR N a b = ((m * N + k : Nat) : Int)) : 0 + (atR N a b).toNat * 1 = m * N + k := by rw [h, Int.toNat_natCast]; omega
theorem lk_take {N m k : Nat} {q : K2 → List ByteArray} {a b : Int} (h : atR N a b = ((m * N + k : Nat) : Int)) (hm : m < N) (hk : k < N) (hb : m * N + k < N * N) : (lk N q)[0 + (atR N a b).toNat * 1]? = some (.sl ((q ((m : Int), (k : Int))).map str) true) := by
  rw [off_R h]; exact lk_get hm hk hb
theorem lk_piece {N m k : Nat} {q : K2 → List ByteArray} {a b : Int} (h : atR N a b = ((m * N + k : Nat) : Int)) (hm : m < N) (hk : k < N) (hb : m * N + k < N * N) : piece false (lk N q) (0 + (atR N a b).toNat * 1) 1 = some (.sl ((q ((m : Int), (k : Int))).map str) true) := lk_take h hm hk hb
theorem lk_set {N m k : Nat} {q : K2 → List ByteArray} {ts : List ByteArray} (hm : m < N) (hk : k < N) (hb : m * N + k < N * N) : (lk N q).set (m * N + k) (.sl (ts.map str) true) = lk N (setQ q ((m : Int), (k : Int)) ts) := by
  apply List.ext_getElem?
  intro j
  rw [List.getElem?_set]
  by_cases hj : m * N + k = j
  · subst hj
    rw [if_pos rfl, if_pos (by rw [lk_len]; exact hb), lk_get hm hk hb, setQ_at]
  · rw [if_neg hj]
    by_cases hlt : j < N * N
    · have e : ∀ q, (lk N q)[j]? = some (.sl ((q (((j / N : Nat) : Int), ((j % N : Nat) : Int))).map str) true) := fun q => by
        unfold lk
        rw [List.getElem?_map, List.getElem?_range hlt, Option.map_some]
      rw [e, e]
      unfold setQ
      rw [if_neg]
      intro h
      rw [Prod.mk.injEq] at h
      have h1 : j / N = m := by exact_mod_cast h.1
      have h2 : j % N = k := by exact_mod_cast h.2
      have := Nat.div_add_mod j N
      rw [h1, h2, Nat.mul_comm] at this
      exact hj this
    · rw [List.getElem?_eq_none (by rw [lk_len]; omega), List.getElem?_eq_none (by rw [lk_len]; omega)]
theorem okS_R {n : Int} {q : K2 → List ByteArray} {a b : Int} : okS n q a b = (okR n a b && decide ((q (a, b)).length < 64)) := rfl
theorem ref_no {N : Nat} {q : K2 → List ByteArray} {a b i : Int} (hz : ∀ a b, okR N a b = false → q (a, b) = []) (h : okR N a b = false) : atB q a b i = false := by
  unfold atB; rw [hz a b h]; simp
section
variable {P : Program} {tkr : Nat → Option Nat} {ops : Array Oper} {K : St → Prop} {i : Nat} {rest : List Oper} {T : Nat → AVal} {M : Mem} {ty ty₁ : TypeId} {pos : String} {af : Array Edge} {x : Operand}
theorem o_store_nil {b off : Nat} {l : List AVal} {v : Value} (ha : ev T x = .raw (.pointer (some ⟨b, off, none⟩))) (hM : M b = some (.cells l)) (hV : ofConst v = .sl [] true) (hs : sizeT P ty₁ = some 1) (hl : off + 1 ≤ l.length)
    (h : aOps P tkr ops K (i + 1) rest ⟨T, M.upd b (.cells (l.set off (.sl [] true)))⟩) : aOps P tkr ops K i (mkO none (.store ty₁ x (.const v)) ty pos af none :: rest) ⟨T, M⟩ := by
  refine o_x rfl ?_
  show estep P (tkr i) _ T M _
  unfold estep
  dsimp only
  have hV' : ev T (.const v) = .sl [] true := hV
  rw [ha, hV']
  unfold eStore
  simp only [hM]
  exact ⟨rfl, hs, hl, h⟩
end
set_option maxHeartbeats 4000000 in
set_option maxRecDepth 20000 in
theorem snd30 (y L N side : Nat) (q : K2 → List ByteArray) (M : Mem) (hR : RefAt M y L N side q) (a b : Int) : SoundCall Try.prog 30 [ptr y, int a, int b] M fun r M' => r = int (atR N a b) ∧ M' = M := by
  obtain ⟨hy, hL, yL, ⟨n1, n7⟩, hz, hql, hs63⟩ := id hR
  have Ly := yL.symm
  refine SoundCall.go tk30 pl30 mixed Try.func30 cb30 rfl (Nat.le_of_ble_eq_true rfl) ?_
  refine s_seq ?_
  refine s_region ?_
  refine o_q (q_as (v_raw rfl)) rfl rfl rfl ?_
  refine o_nil ?_
  refine s_seq ?_
  refine s_seq ?_
  refine s_region ?_
  refine o_q (q_mv (v_raw rfl)) rfl rfl rfl ?_
  refine o_q (q_lss rfl rfl) rfl rfl rfl ?_
  refine o_q (q_mv (v_raw rfl)) rfl rfl rfl ?_
  refine o_cases (want := false) (j := 2) rfl rfl (fun h1 => ?_) (fun h1 => ?_)
  · have k1 := h1; try simp only [decide_eq_true_eq, decide_eq_false_iff_not, Bool.not_eq_true', Bool.not_eq_false', Bool.not_true, Bool.not_false, List.length_map, Decidable.not_not] at k1
    refine o_yes rfl rfl rfl h1 ?_
    refine o_q (q_mv (v_raw rfl)) rfl rfl rfl ?_
    refine o_yes rfl rfl rfl h1 ?_
    refine o_q (q_mv ((by first | exact v_raw rfl | exact v_sptr rfl))) rfl rfl rfl ?_
    refine o_yes rfl rfl rfl h1 ?_
    refine o_q (q_nil rfl) rfl rfl rfl ?_
    refine o_yes rfl rfl rfl h1 ?_
    refine o_q (q_fr fo54_0 rfl) rfl rfl rfl ?_
    refine o_yes rfl rfl rfl h1 ?_
    refine o_q (q_ldm ag3 sz3 rfl (by repeat first | exact Mem.upd_self _ _ _ | assumption | refine Mem.upd_ne (by assumption) ?_) rfl (v_raw rfl)) rfl rfl rfl ?_
    refine o_yes rfl rfl rfl h1 ?_
    refine o_q (q_geq rfl rfl) rfl rfl rfl ?_
    refine o_q (q_pick_c (t := false) rfl h1 (v_raw rfl)) rfl rfl rfl ?_
    refine o_q (q_mv (v_raw rfl)) rfl rfl rfl ?_
    refine o_cases (want := false) (j := 10) rfl rfl (fun h2 => ?_) (fun h2 => ?_)
    · have k2 := h2; try simp only [decide_eq_true_eq, decide_eq_false_iff_not, Bool.not_eq_true', Bool.not_eq_false', Bool.not_true, Bool.not_false, List.length_map, Decidable.not_not] at k2
      refine o_yes rfl rfl rfl h2 ?_
      refine o_q (q_mv (v_raw rfl)) rfl rfl rfl ?_
      refine o_yes rfl rfl rfl h2 ?_
      refine o_q (q_lss rfl rfl) rfl rfl rfl ?_
      refine o_q (q_pick_c (t := false) rfl h2 (v_raw rfl)) rfl rfl rfl ?_
      refine o_q (q_mv (v_raw rfl)) rfl rfl rfl ?_
      refine o_cases (want := false) (j := 14) rfl rfl (fun h3 => ?_) (fun h3 => ?_)
      · have k3 := h3; try simp only [decide_eq_true_eq, decide_eq_false_iff_not, Bool.not_eq_true', Bool.not_eq_false', Bool.not_true, Bool.not_false, List.length_map, Decidable.not_not] at k3
        refine o_yes rfl rfl rfl h3 ?_
        refine o_q (q_mv (v_raw rfl)) rfl rfl rfl ?_
        refine o_yes rfl rfl rfl h3 ?_
        refine o_q (q_mv ((by first | exact v_raw rfl | exact v_sptr rfl))) rfl rfl rfl ?_
        refine o_yes rfl rfl rfl h3 ?_
        refine o_q (q_nil rfl) rfl rfl rfl ?_
        refine o_yes rfl rfl rfl h3 ?_
        refine o_q (q_fr fo54_0 rfl) rfl rfl rfl ?_
        refine o_yes rfl rfl rfl h3 ?_
        refine o_q (q_ldm ag3 sz3 rfl (by repeat first | exact Mem.upd_self _ _ _ | assumption | refine Mem.upd_ne (by assumption) ?_) rfl (v_raw rfl)) rfl rfl rfl ?_
        refine o_yes rfl rfl rfl h3 ?_
        refine o_q (q_geq rfl rfl) rfl rfl rfl ?_
        refine o_q (q_pick_c (t := false) rfl h3 (v_raw rfl)) rfl rfl rfl ?_
        refine o_q (q_mv (v_raw rfl)) rfl rfl rfl ?_
        refine o_cases (want := false) (j := 22) rfl rfl (fun h4 => ?_) (fun h4 => ?_)
        · have k4 := h4; try simp only [decide_eq_true_eq, decide_eq_false_iff_not, Bool.not_eq_true', Bool.not_eq_false', Bool.not_true, Bool.not_false, List.length_map, Decidable.not_not] at k4
          refine o_yes rfl rfl rfl h4 ?_
          refine o_q (q_mv (v_raw rfl)) rfl rfl rfl ?_
          refine o_yes rfl rfl rfl h4 ?_
          refine o_q (q_mv (v_raw rfl)) rfl rfl rfl ?_
          refine o_yes rfl rfl rfl h4 ?_
          refine o_q (q_eql rfl rfl) rfl rfl rfl ?_
          refine o_q (q_pick_c (t := false) rfl h4 (v_raw rfl)) rfl rfl rfl ?_
          refine o_nil ?_
          refine s_cond rfl (fun h5 => ?_) (fun h5 => ?_)
          · have k5 := h5; try simp only [decide_eq_true_eq, decide_eq_false_iff_not, Bool.not_eq_true', Bool.not_eq_false', Bool.not_true, Bool.not_false, List.length_map, Decidable.not_not] at k5
            refine s_seq ?_
            refine s_region ?_
            refine o_q (q_as (v_raw rfl)) rfl rfl rfl ?_
            refine o_nil ?_
            refine s_ret ?_
            refine s_code_ret ?_
            refine s_end ?_
            first
            | exact ⟨congrArg int (by unfold atR; rw [if_neg (fun h => by unfold okR inN at h; simp only [Bool.and_eq_true, decide_eq_true_eq] at h; omega)]), rfl⟩
            | exact ⟨congrArg int (by unfold atR; rw [if_pos (by unfold okR inN; simp only [Bool.and_eq_true, decide_eq_true_eq]; omega)]), rfl⟩
          · have k5 := h5; try simp only [decide_eq_true_eq, decide_eq_false_iff_not, Bool.not_eq_true', Bool.not_eq_false', Bool.not_true, Bool.not_false, List.length_map, Decidable.not_not] at k5
            obtain ⟨m, rfl⟩ : ∃ m : Nat, a = m := Int.eq_ofNat_of_zero_le (by omega)
            obtain ⟨k, rfl⟩ : ∃ k : Nat, b = k := Int.eq_ofNat_of_zero_le (by omega)
            have hmn : m * N ≤ 6 * 7 := Nat.mul_le_mul (by omega) (by omega)
            refine s_skip ?_
            refine s_seq ?_
            refine s_region ?_
            refine o_q (q_mv (v_raw rfl)) rfl rfl rfl ?_
            refine o_q (q_mv ((by first | exact v_raw rfl | exact v_sptr rfl))) rfl rfl rfl ?_
            refine o_q (q_nil rfl) rfl rfl rfl ?_
            refine o_q (q_fr fo54_0 rfl) rfl rfl rfl ?_
            refine o_q (q_ldm ag3 sz3 rfl (by repeat first | exact Mem.upd_self _ _ _ | assumption | refine Mem.upd_ne (by assumption) ?_) rfl (v_raw rfl)) rfl rfl rfl ?_
            refine o_q (q_mul rfl rfl (wrap64 (by omega) (by omega))) rfl rfl rfl ?_
            refine o_q (q_mv (v_raw rfl)) rfl rfl rfl ?_
            refine o_q (q_add rfl rfl (wrap64 (by omega) (by omega))) rfl rfl rfl ?_
            refine o_q (q_as (v_raw rfl)) rfl rfl rfl ?_
            refine o_nil ?_
            refine s_ret ?_
            refine s_end ?_
            first
            | exact ⟨congrArg int (by unfold atR; rw [if_neg (fun h => by unfold okR inN at h; simp only [Bool.and_eq_true, decide_eq_true_eq] at h; omega)]), rfl⟩
            | exact ⟨congrArg int (by unfold atR; rw [if_pos (by unfold okR inN; simp only [Bool.and_eq_true, decide_eq_true_eq]; omega)]), rfl⟩
        · have k4 := h4; try simp only [decide_eq_true_eq, decide_eq_false_iff_not, Bool.not_eq_true', Bool.not_eq_false', Bool.not_true, Bool.not_false, List.length_map, Decidable.not_not] at k4
          refine o_no rfl rfl rfl rfl h4 ?_
          refine o_no rfl rfl rfl rfl h4 ?_
          refine o_no rfl rfl rfl rfl h4 ?_
          refine o_q (q_pick_c (t := true) rfl h4 (v_raw rfl)) rfl rfl rfl ?_
          refine o_nil ?_
          refine s_then rfl rfl ?_
          refine s_seq ?_
          refine s_region ?_
          refine o_q (q_as (v_raw rfl)) rfl rfl rfl ?_
          refine o_nil ?_
          refine s_ret ?_
          refine s_code_ret ?_
          refine s_end ?_
          first
          | exact ⟨congrArg int (by unfold atR; rw [if_neg (fun h => by unfold okR inN at h; simp only [Bool.and_eq_true, decide_eq_true_eq] at h; omega)]), rfl⟩
          | exact ⟨congrArg int (by unfold atR; rw [if_pos (by unfold okR inN; simp only [Bool.and_eq_true, decide_eq_true_eq]; omega)]), rfl⟩
      · have k3 := h3; try simp only [decide_eq_true_eq, decide_eq_false_iff_not, Bool.not_eq_true', Bool.not_eq_false', Bool.not_true, Bool.not_false, List.length_map, Decidable.not_not] at k3
        refine o_no rfl rfl rfl rfl h3 ?_
        refine o_no rfl rfl rfl rfl h3 ?_
        refine o_no rfl rfl rfl rfl h3 ?_
        refine o_no rfl rfl rfl rfl h3 ?_
        refine o_no rfl rfl rfl rfl h3 ?_
        refine o_no rfl rfl rfl rfl h3 ?_
        refine o_q (q_pick_c (t := true) rfl h3 (v_raw rfl)) rfl rfl rfl ?_
        refine o_q (q_mv (v_raw rfl)) rfl rfl rfl ?_
        refine o_no rfl rfl rfl rfl rfl ?_
        refine o_no rfl rfl rfl rfl rfl ?_
        refine o_no rfl rfl rfl rfl rfl ?_
        refine o_q (q_pick_c (t := true) rfl rfl (v_raw rfl)) rfl rfl rfl ?_
        refine o_nil ?_
        refine s_then rfl rfl ?_
        refine s_seq ?_
        refine s_region ?_
        refine o_q (q_as (v_raw rfl)) rfl rfl rfl ?_
        refine o_nil ?_
        refine s_ret ?_
        refine s_code_ret ?_
        refine s_end ?_
        first
        | exact ⟨congrArg int (by unfold atR; rw [if_neg (fun h => by unfold okR inN at h; simp only [Bool.and_eq_true, decide_eq_true_eq] at h; omega)]), rfl⟩
        | exact ⟨congrArg int (by unfold atR; rw [if_pos (by unfold okR inN; simp only [Bool.and_eq_true, decide_eq_true_eq]; omega)]), rfl⟩
    · have k2 := h2; try simp only [decide_eq_true_eq, decide_eq_false_iff_not, Bool.not_eq_true', Bool.not_eq_false', Bool.not_true, Bool.not_false, List.length_map, Decidable.not_not] at k2
      refine o_no rfl rfl rfl rfl h2 ?_
      refine o_no rfl rfl rfl rfl h2 ?_
      refine o_q (q_pick_c (t := true) rfl h2 (v_raw rfl)) rfl rfl rfl ?_
      refine o_q (q_mv (v_raw rfl)) rfl rfl rfl ?_
      refine o_no rfl rfl rfl rfl rfl ?_
      refine o_no rfl rfl rfl rfl rfl ?_
      refine o_no rfl rfl rfl rfl rfl ?_
      refine o_no rfl rfl rfl rfl rfl ?_
      refine o_no rfl rfl rfl rfl rfl ?_
      refine o_no rfl rfl rfl rfl rfl ?_
      refine o_q (q_pick_c (t := true) rfl rfl (v_raw rfl)) rfl rfl rfl ?_
      refine o_q (q_mv (v_raw rfl)) rfl rfl rfl ?_
      refine o_no rfl rfl rfl rfl rfl ?_
      refine o_no rfl rfl rfl rfl rfl ?_
      refine o_no rfl rfl rfl rfl rfl ?_
      refine o_q (q_pick_c (t := true) rfl rfl (v_raw rfl)) rfl rfl rfl ?_
      refine o_nil ?_
      refine s_then rfl rfl ?_
      refine s_seq ?_
      refine s_region ?_
      refine o_q (q_as (v_raw rfl)) rfl rfl rfl ?_
      refine o_nil ?_
      refine s_ret ?_
      refine s_code_ret ?_
      refine s_end ?_
      first
      | exact ⟨congrArg int (by unfold atR; rw [if_neg (fun h => by unfold okR inN at h; simp only [Bool.and_eq_true, decide_eq_true_eq] at h; omega)]), rfl⟩
      | exact ⟨congrArg int (by unfold atR; rw [if_pos (by unfold okR inN; simp only [Bool.and_eq_true, decide_eq_true_eq]; omega)]), rfl⟩
  · have k1 := h1; try simp only [decide_eq_true_eq, decide_eq_false_iff_not, Bool.not_eq_true', Bool.not_eq_false', Bool.not_true, Bool.not_false, List.length_map, Decidable.not_not] at k1
    refine o_no rfl rfl rfl rfl h1 ?_
    refine o_no rfl rfl rfl rfl h1 ?_
    refine o_no rfl rfl rfl rfl h1 ?_
    refine o_no rfl rfl rfl rfl h1 ?_
    refine o_no rfl rfl rfl rfl h1 ?_
    refine o_no rfl rfl rfl rfl h1 ?_
    refine o_q (q_pick_c (t := true) rfl h1 (v_raw rfl)) rfl rfl rfl ?_
    refine o_q (q_mv (v_raw rfl)) rfl rfl rfl ?_
    refine o_no rfl rfl rfl rfl rfl ?_
    refine o_no rfl rfl rfl rfl rfl ?_
    refine o_q (q_pick_c (t := true) rfl rfl (v_raw rfl)) rfl rfl rfl ?_
    refine o_q (q_mv (v_raw rfl)) rfl rfl rfl ?_
    refine o_no rfl rfl rfl rfl rfl ?_
    refine o_no rfl rfl rfl rfl rfl ?_
    refine o_no rfl rfl rfl rfl rfl ?_
    refine o_no rfl rfl rfl rfl rfl ?_
    refine o_no rfl rfl rfl rfl rfl ?_
    refine o_no rfl rfl rfl rfl rfl ?_
    refine o_q (q_pick_c (t := true) rfl rfl (v_raw rfl)) rfl rfl rfl ?_
    refine o_q (q_mv (v_raw rfl)) rfl rfl rfl ?_
    refine o_no rfl rfl rfl rfl rfl ?_
    refine o_no rfl rfl rfl rfl rfl ?_
    refine o_no rfl rfl rfl rfl rfl ?_
    refine o_q (q_pick_c (t := true) rfl rfl (v_raw rfl)) rfl rfl rfl ?_
    refine o_nil ?_
    refine s_then rfl rfl ?_
    refine s_seq ?_
    refine s_region ?_
    refine o_q (q_as (v_raw rfl)) rfl rfl rfl ?_
    refine o_nil ?_
    refine s_ret ?_
    refine s_code_ret ?_
    refine s_end ?_
    first
    | exact ⟨congrArg int (by unfold atR; rw [if_neg (fun h => by unfold okR inN at h; simp only [Bool.and_eq_true, decide_eq_true_eq] at h; omega)]), rfl⟩
    | exact ⟨congrArg int (by unfold atR; rw [if_pos (by unfold okR inN; simp only [Bool.and_eq_true, decide_eq_true_eq]; omega)]), rfl⟩

def tk26 : Nat → Nat → Option Nat := fun _ _ => none
def pl26 : Nat → List PStep
  | 3 => [.q 0, .q 1, .q 2, .q 3, .q 4, .q 5, .q 6, .q 7, .q 8, .q 9, .q 10, .q 11, .q 12, .q 13, .q 14, .q 15]
  | _ => []
theorem cb26 : Try.f26.body.map (codeB Try.prog Try.f26.ntmps tk26 pl26) = some true := by kernel_rfl
theorem goes26 : goesB Try.prog 26 = true := by kernel_rfl
-- (*carillon/carillonref05.Net).Joined params ['*carillonref05.Net', 'int', 'int'] results [['t', 6]] own [] names ['0:x', '1:a', '2:b', '3:x', '4:a', '5:b'] calls [] paths 5
set_option maxHeartbeats 4000000 in
set_option maxRecDepth 20000 in
theorem snd26 (y L N side : Nat) (q : K2 → List ByteArray) (M : Mem) (hR : RefAt M y L N side q) (a b : Int) : SoundCall Try.prog 26 [ptr y, int a, int b] M fun r M' => r = bool (joined N side a b) ∧ M' = M := by
  obtain ⟨hy, hL, yL, ⟨n1, n7⟩, hz, hql, hs63⟩ := id hR
  have Ly := yL.symm
  refine SoundCall.go tk26 pl26 mixed Try.func26 cb26 rfl (Nat.le_of_ble_eq_true rfl) ?_
  refine s_seq ?_
  refine s_region ?_
  refine o_q (q_as (v_raw rfl)) rfl rfl rfl ?_
  refine o_nil ?_
  refine s_seq ?_
  refine s_seq ?_
  refine s_region ?_
  refine o_q (q_mv (v_raw rfl)) rfl rfl rfl ?_
  refine o_q (q_lss rfl rfl) rfl rfl rfl ?_
  refine o_q (q_mv (v_raw rfl)) rfl rfl rfl ?_
  refine o_cases (want := false) (j := 2) rfl rfl (fun h1 => ?_) (fun h1 => ?_)
  · have k1 := h1; try simp only [decide_eq_true_eq, decide_eq_false_iff_not, Bool.not_eq_true', Bool.not_eq_false', Bool.not_true, Bool.not_false, List.length_map, Decidable.not_not] at k1
    refine o_yes rfl rfl rfl h1 ?_
    refine o_q (q_mv (v_raw rfl)) rfl rfl rfl ?_
    refine o_yes rfl rfl rfl h1 ?_
    refine o_q (q_mv ((by first | exact v_raw rfl | exact v_sptr rfl))) rfl rfl rfl ?_
    refine o_yes rfl rfl rfl h1 ?_
    refine o_q (q_nil rfl) rfl rfl rfl ?_
    refine o_yes rfl rfl rfl h1 ?_
    refine o_q (q_fr fo54_0 rfl) rfl rfl rfl ?_
    refine o_yes rfl rfl rfl h1 ?_
    refine o_q (q_ldm ag3 sz3 rfl (by repeat first | exact Mem.upd_self _ _ _ | assumption | refine Mem.upd_ne (by assumption) ?_) rfl (v_raw rfl)) rfl rfl rfl ?_
    refine o_yes rfl rfl rfl h1 ?_
    refine o_q (q_geq rfl rfl) rfl rfl rfl ?_
    refine o_q (q_pick_c (t := false) rfl h1 (v_raw rfl)) rfl rfl rfl ?_
    refine o_q (q_mv (v_raw rfl)) rfl rfl rfl ?_
    refine o_cases (want := false) (j := 10) rfl rfl (fun h2 => ?_) (fun h2 => ?_)
    · have k2 := h2; try simp only [decide_eq_true_eq, decide_eq_false_iff_not, Bool.not_eq_true', Bool.not_eq_false', Bool.not_true, Bool.not_false, List.length_map, Decidable.not_not] at k2
      refine o_yes rfl rfl rfl h2 ?_
      refine o_q (q_mv (v_raw rfl)) rfl rfl rfl ?_
      refine o_yes rfl rfl rfl h2 ?_
      refine o_q (q_lss rfl rfl) rfl rfl rfl ?_
      refine o_q (q_pick_c (t := false) rfl h2 (v_raw rfl)) rfl rfl rfl ?_
      refine o_q (q_mv (v_raw rfl)) rfl rfl rfl ?_
      refine o_cases (want := false) (j := 14) rfl rfl (fun h3 => ?_) (fun h3 => ?_)
      · have k3 := h3; try simp only [decide_eq_true_eq, decide_eq_false_iff_not, Bool.not_eq_true', Bool.not_eq_false', Bool.not_true, Bool.not_false, List.length_map, Decidable.not_not] at k3
        refine o_yes rfl rfl rfl h3 ?_
        refine o_q (q_mv (v_raw rfl)) rfl rfl rfl ?_
        refine o_yes rfl rfl rfl h3 ?_
        refine o_q (q_mv ((by first | exact v_raw rfl | exact v_sptr rfl))) rfl rfl rfl ?_
        refine o_yes rfl rfl rfl h3 ?_
        refine o_q (q_nil rfl) rfl rfl rfl ?_
        refine o_yes rfl rfl rfl h3 ?_
        refine o_q (q_fr fo54_0 rfl) rfl rfl rfl ?_
        refine o_yes rfl rfl rfl h3 ?_
        refine o_q (q_ldm ag3 sz3 rfl (by repeat first | exact Mem.upd_self _ _ _ | assumption | refine Mem.upd_ne (by assumption) ?_) rfl (v_raw rfl)) rfl rfl rfl ?_
        refine o_yes rfl rfl rfl h3 ?_
        refine o_q (q_geq rfl rfl) rfl rfl rfl ?_
        refine o_q (q_pick_c (t := false) rfl h3 (v_raw rfl)) rfl rfl rfl ?_
        refine o_nil ?_
        refine s_cond rfl (fun h4 => ?_) (fun h4 => ?_)
        · have k4 := h4; try simp only [decide_eq_true_eq, decide_eq_false_iff_not, Bool.not_eq_true', Bool.not_eq_false', Bool.not_true, Bool.not_false, List.length_map, Decidable.not_not] at k4
          refine s_seq ?_
          refine s_region ?_
          refine o_q (q_as (v_raw rfl)) rfl rfl rfl ?_
          refine o_nil ?_
          refine s_ret ?_
          refine s_code_ret ?_
          refine s_end ?_
          first
          | exact ⟨congrArg bool (by unfold joined; rw [eq_comm]; simp only [Bool.and_eq_false_iff, decide_eq_false_iff_not]; omega), rfl⟩
          | exact ⟨congrArg bool ((joined_law (N := N) ⟨by omega, by omega⟩ ⟨by omega, by omega⟩).1.symm), rfl⟩
        · have k4 := h4; try simp only [decide_eq_true_eq, decide_eq_false_iff_not, Bool.not_eq_true', Bool.not_eq_false', Bool.not_true, Bool.not_false, List.length_map, Decidable.not_not] at k4
          refine s_skip ?_
          refine s_seq ?_
          refine s_draw rfl ?_
          refine d_q rfl (q_mv ((by first | exact v_raw rfl | exact v_sptr rfl))) rfl rfl rfl ?_
          refine d_q rfl (q_nil rfl) rfl rfl rfl ?_
          refine d_q rfl (q_fr fo54_2 rfl) rfl rfl rfl ?_
          refine d_q rfl (q_ldm ag3 sz3 rfl (by repeat first | exact Mem.upd_self _ _ _ | assumption | refine Mem.upd_ne (by assumption) ?_) rfl (v_raw rfl)) rfl rfl rfl ?_
          refine d_q rfl (q_mv (v_raw rfl)) rfl rfl rfl ?_
          refine d_q rfl (q_shrn rfl rfl (by omega) (by omega)) rfl rfl rfl ?_
          refine d_q rfl (q_rem rfl rfl (by decide)) rfl rfl rfl ?_
          refine d_q rfl (q_mv ((by first | exact v_raw rfl | exact v_sptr rfl))) rfl rfl rfl ?_
          refine d_q rfl (q_nil rfl) rfl rfl rfl ?_
          refine d_q rfl (q_fr fo54_2 rfl) rfl rfl rfl ?_
          refine d_q rfl (q_ldm ag3 sz3 rfl (by repeat first | exact Mem.upd_self _ _ _ | assumption | refine Mem.upd_ne (by assumption) ?_) rfl (v_raw rfl)) rfl rfl rfl ?_
          refine d_q rfl (q_mv (v_raw rfl)) rfl rfl rfl ?_
          refine d_q rfl (q_shrn rfl rfl (by omega) (by omega)) rfl rfl rfl ?_
          refine d_q rfl (q_rem rfl rfl (by decide)) rfl rfl rfl ?_
          refine d_q rfl (q_eql rfl rfl) rfl rfl rfl ?_
          refine d_q rfl (q_as (v_raw rfl)) rfl rfl rfl ?_
          refine d_nil ?_
          refine s_ret ?_
          refine s_end ?_
          first
          | exact ⟨congrArg bool (by unfold joined; rw [eq_comm]; simp only [Bool.and_eq_false_iff, decide_eq_false_iff_not]; omega), rfl⟩
          | exact ⟨congrArg bool ((joined_law (N := N) ⟨by omega, by omega⟩ ⟨by omega, by omega⟩).1.symm), rfl⟩
      · have k3 := h3; try simp only [decide_eq_true_eq, decide_eq_false_iff_not, Bool.not_eq_true', Bool.not_eq_false', Bool.not_true, Bool.not_false, List.length_map, Decidable.not_not] at k3
        refine o_no rfl rfl rfl rfl h3 ?_
        refine o_no rfl rfl rfl rfl h3 ?_
        refine o_no rfl rfl rfl rfl h3 ?_
        refine o_no rfl rfl rfl rfl h3 ?_
        refine o_no rfl rfl rfl rfl h3 ?_
        refine o_no rfl rfl rfl rfl h3 ?_
        refine o_q (q_pick_c (t := true) rfl h3 (v_raw rfl)) rfl rfl rfl ?_
        refine o_nil ?_
        refine s_then rfl rfl ?_
        refine s_seq ?_
        refine s_region ?_
        refine o_q (q_as (v_raw rfl)) rfl rfl rfl ?_
        refine o_nil ?_
        refine s_ret ?_
        refine s_code_ret ?_
        refine s_end ?_
        first
        | exact ⟨congrArg bool (by unfold joined; rw [eq_comm]; simp only [Bool.and_eq_false_iff, decide_eq_false_iff_not]; omega), rfl⟩
        | exact ⟨congrArg bool ((joined_law (N := N) ⟨by omega, by omega⟩ ⟨by omega, by omega⟩).1.symm), rfl⟩
    · have k2 := h2; try simp only [decide_eq_true_eq, decide_eq_false_iff_not, Bool.not_eq_true', Bool.not_eq_false', Bool.not_true, Bool.not_false, List.length_map, Decidable.not_not] at k2
      refine o_no rfl rfl rfl rfl h2 ?_
      refine o_no rfl rfl rfl rfl h2 ?_
      refine o_q (q_pick_c (t := true) rfl h2 (v_raw rfl)) rfl rfl rfl ?_
      refine o_q (q_mv (v_raw rfl)) rfl rfl rfl ?_
      refine o_no rfl rfl rfl rfl rfl ?_
      refine o_no rfl rfl rfl rfl rfl ?_
      refine o_no rfl rfl rfl rfl rfl ?_
      refine o_no rfl rfl rfl rfl rfl ?_
      refine o_no rfl rfl rfl rfl rfl ?_
      refine o_no rfl rfl rfl rfl rfl ?_
      refine o_q (q_pick_c (t := true) rfl rfl (v_raw rfl)) rfl rfl rfl ?_
      refine o_nil ?_
      refine s_then rfl rfl ?_
      refine s_seq ?_
      refine s_region ?_
      refine o_q (q_as (v_raw rfl)) rfl rfl rfl ?_
      refine o_nil ?_
      refine s_ret ?_
      refine s_code_ret ?_
      refine s_end ?_
      first
      | exact ⟨congrArg bool (by unfold joined; rw [eq_comm]; simp only [Bool.and_eq_false_iff, decide_eq_false_iff_not]; omega), rfl⟩
      | exact ⟨congrArg bool ((joined_law (N := N) ⟨by omega, by omega⟩ ⟨by omega, by omega⟩).1.symm), rfl⟩
  · have k1 := h1; try simp only [decide_eq_true_eq, decide_eq_false_iff_not, Bool.not_eq_true', Bool.not_eq_false', Bool.not_true, Bool.not_false, List.length_map, Decidable.not_not] at k1
    refine o_no rfl rfl rfl rfl h1 ?_
    refine o_no rfl rfl rfl rfl h1 ?_
    refine o_no rfl rfl rfl rfl h1 ?_
    refine o_no rfl rfl rfl rfl h1 ?_
    refine o_no rfl rfl rfl rfl h1 ?_
    refine o_no rfl rfl rfl rfl h1 ?_
    refine o_q (q_pick_c (t := true) rfl h1 (v_raw rfl)) rfl rfl rfl ?_
    refine o_q (q_mv (v_raw rfl)) rfl rfl rfl ?_
    refine o_no rfl rfl rfl rfl rfl ?_
    refine o_no rfl rfl rfl rfl rfl ?_
    refine o_q (q_pick_c (t := true) rfl rfl (v_raw rfl)) rfl rfl rfl ?_
    refine o_q (q_mv (v_raw rfl)) rfl rfl rfl ?_
    refine o_no rfl rfl rfl rfl rfl ?_
    refine o_no rfl rfl rfl rfl rfl ?_
    refine o_no rfl rfl rfl rfl rfl ?_
    refine o_no rfl rfl rfl rfl rfl ?_
    refine o_no rfl rfl rfl rfl rfl ?_
    refine o_no rfl rfl rfl rfl rfl ?_
    refine o_q (q_pick_c (t := true) rfl rfl (v_raw rfl)) rfl rfl rfl ?_
    refine o_nil ?_
    refine s_then rfl rfl ?_
    refine s_seq ?_
    refine s_region ?_
    refine o_q (q_as (v_raw rfl)) rfl rfl rfl ?_
    refine o_nil ?_
    refine s_ret ?_
    refine s_code_ret ?_
    refine s_end ?_
    first
    | exact ⟨congrArg bool (by unfold joined; rw [eq_comm]; simp only [Bool.and_eq_false_iff, decide_eq_false_iff_not]; omega), rfl⟩
    | exact ⟨congrArg bool ((joined_law (N := N) ⟨by omega, by omega⟩ ⟨by omega, by omega⟩).1.symm), rfl⟩

def tk27 : Nat → Nat → Option Nat := fun _ _ => none
def pl27 : Nat → List PStep := fun _ => []
theorem cb27 : Try.f27.body.map (codeB Try.prog Try.f27.ntmps tk27 pl27) = some true := by kernel_rfl
theorem goes27 : goesB Try.prog 27 = true := by kernel_rfl
-- (*carillon/carillonref05.Net).Len params ['*carillonref05.Net', 'int', 'int'] results [['t', 6]] own [] names ['0:x', '1:a', '2:b', '3:x', '4:a', '5:b', '7:k'] calls [30] paths 2
set_option maxHeartbeats 4000000 in
set_option maxRecDepth 20000 in
theorem snd27 (y L N side : Nat) (q : K2 → List ByteArray) (M : Mem) (hR : RefAt M y L N side q) (a b : Int) : SoundCall Try.prog 27 [ptr y, int a, int b] M fun r M' => r = int (q (a, b)).length ∧ M' = M := by
  obtain ⟨hy, hL, yL, ⟨n1, n7⟩, hz, hql, hs63⟩ := id hR
  have Ly := yL.symm
  refine SoundCall.go tk27 pl27 mixed Try.func27 cb27 rfl (Nat.le_of_ble_eq_true rfl) ?_
  refine s_seq ?_
  refine s_region ?_
  refine o_q (q_as (v_raw rfl)) rfl rfl rfl ?_
  refine o_nil ?_
  refine s_seq ?_
  refine s_region ?_
  refine o_q (q_mv ((by first | exact v_raw rfl | exact v_sptr rfl))) rfl rfl rfl ?_
  refine o_q (q_mv (v_raw rfl)) rfl rfl rfl ?_
  refine o_q (q_mv (v_raw rfl)) rfl rfl rfl ?_
  refine o_call ((snd30 y L N side q _ hR a b)) goes30 (ac ((by first | exact v_raw rfl | exact v_sptr rfl)) (ac (v_raw rfl) (ac (v_raw rfl) ac_nil))) rfl ?_
  refine o_q (q_as (v_raw rfl)) rfl rfl rfl ?_
  refine o_nil ?_
  refine s_seq ?_
  refine s_seq ?_
  refine s_region ?_
  refine o_q (q_mv (v_raw rfl)) rfl rfl rfl ?_
  refine o_q (q_lss rfl rfl) rfl rfl rfl ?_
  refine o_nil ?_
  refine s_cond rfl (fun h1 => ?_) (fun h1 => ?_)
  · have k1 := h1; try simp only [decide_eq_true_eq, decide_eq_false_iff_not, Bool.not_eq_true', Bool.not_eq_false', Bool.not_true, Bool.not_false, List.length_map, Decidable.not_not] at k1
    have hok := atR_neg k1
    refine s_seq ?_
    refine s_region ?_
    refine o_q (q_as (v_raw rfl)) rfl rfl rfl ?_
    refine o_nil ?_
    refine s_ret ?_
    refine s_code_ret ?_
    refine s_end ?_
    exact ⟨congrArg int (by rw [hz a b hok]; rfl), rfl⟩
  · have k1 := h1; try simp only [decide_eq_true_eq, decide_eq_false_iff_not, Bool.not_eq_true', Bool.not_eq_false', Bool.not_true, Bool.not_false, List.length_map, Decidable.not_not] at k1
    obtain ⟨hok, m, k, rfl, rfl, hm, hk, hne, hat, hbd⟩ := atR_pos k1
    have hql0 := hql ((m : Int), (k : Int))
    refine s_skip ?_
    refine s_seq ?_
    refine s_region ?_
    refine o_q (q_mv ((by first | exact v_raw rfl | exact v_sptr rfl))) rfl rfl rfl ?_
    refine o_q (q_nil rfl) rfl rfl rfl ?_
    refine o_q (q_fr fo54_1 rfl) rfl rfl rfl ?_
    refine o_q (q_ldm ag52 sz52 rfl (by repeat first | exact Mem.upd_self _ _ _ | assumption | refine Mem.upd_ne (by assumption) ?_) rfl ((by first | exact v_raw rfl | exact v_sl rfl))) rfl rfl rfl ?_
    refine o_q (q_mv (v_raw rfl)) rfl rfl rfl ?_
    refine o_q (q_idxr und52 sz40 rfl rfl (by omega) (by omega)) rfl rfl rfl ?_
    refine o_q (q_ldm ag40 sz40 rfl (by repeat first | exact Mem.upd_self _ _ _ | assumption | refine Mem.upd_ne (by assumption) ?_) (lk_piece hat hm hk hbd) (v_sl rfl)) rfl rfl rfl ?_
    refine o_q (q_len rfl und40 rfl) rfl rfl rfl ?_
    refine o_q (q_as (v_raw rfl)) rfl rfl rfl ?_
    refine o_nil ?_
    refine s_ret ?_
    refine s_end ?_
    exact ⟨congrArg int (by simp), rfl⟩
end C05
