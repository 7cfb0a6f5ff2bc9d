import Derived.Test.YtolgmcamchdfbaaAm36
import Derived.Test.YtolgmcamchdfbaaProg
/-! Chapter 8: what its functions compute. -/
open Go Go.Proofs Go.Am
set_option linter.unusedVariables false
set_option linter.unusedSimpArgs false
namespace C08
theorem ag3 : aggT Try.prog 3 = some false := by kernel_rfl
theorem ag9 : aggT Try.prog 9 = some false := by kernel_rfl
theorem ag30 : aggT Try.prog 30 = some true := by kernel_rfl
theorem bz30 : (zeroT Try.prog 30).map (fun z => z.cells.toList.map AVal.raw) = some [.raw (.int .i64 0), .raw (.string { data := #[] }), .raw (.int .i64 0), .raw (.string { data := #[] }), .raw (.string { data := #[] })] := by kernel_rfl
theorem bp30 : (aPlaces Try.prog 30).isSome = true := by kernel_rfl
theorem fo30_0 : fo Try.prog 30 0 = some (0, 1) := by kernel_rfl
theorem fo30_3 : fo Try.prog 30 3 = some (3, 1) := by kernel_rfl
theorem kt9 : KeyT Try.prog 9 Value.string := keyT_str (by kernel_rfl)
theorem slt22 : SlT Try.prog 22 30 5 64 := ⟨by kernel_rfl, by kernel_rfl, by kernel_rfl, by kernel_rfl, by decide⟩
theorem slt25 : SlT Try.prog 25 3 1 8 := ⟨by kernel_rfl, by kernel_rfl, by kernel_rfl, by kernel_rfl, by decide⟩
theorem sz3 : sizeT Try.prog 3 = some 1 := by kernel_rfl
theorem sz9 : sizeT Try.prog 9 = some 1 := by kernel_rfl
theorem sz30 : sizeT Try.prog 30 = some 5 := by kernel_rfl
theorem und22 : Try.prog.underlying 22 = some (.slice 30) := by kernel_rfl
theorem und25 : Try.prog.underlying 25 = some (.slice 3) := by kernel_rfl
theorem und34 : Try.prog.underlying 34 = some (.map 9 3) := by kernel_rfl
theorem z3 : zeroT Try.prog 3 = some (.int .i64 0) := by kernel_rfl
theorem zc30 : zeroCellsT Try.prog 30 = some [.raw (.int .i64 0), .raw (.string { data := #[] }), .raw (.int .i64 0), .raw (.string { data := #[] }), .raw (.string { data := #[] })] := by kernel_rfl
theorem und3 : Try.prog.underlying 3 = some (.int .i64) := by kernel_rfl
theorem und9 : Try.prog.underlying 9 = some .string := by kernel_rfl
theorem mixed : Try.prog.follows .mixedOrders = true := by kernel_rfl
structure Rec where
  off : Int
  prod : ByteArray
  seq : Int
  key : ByteArray
  val : ByteArray
  deriving DecidableEq, Inhabited
def enc (r : Rec) : AVal := .agg [.raw (.int .i64 r.off), .raw (.string r.prod), .raw (.int .i64 r.seq), .raw (.string r.key), .raw (.string r.val)]
def raw (r : Rec) : Value := .agg #[.int .i64 r.off, .string r.prod, .int .i64 r.seq, .string r.key, .string r.val]
def encI (n : Int) : AVal := .raw (.int .i64 n)
theorem eqg : Try.prog.eqGuardType Try.prog.depth 30 = false := by kernel_rfl
theorem stood : Try.prog.stoodInHeld 30 = false := by kernel_rfl
theorem recEq (r r' : Rec) : pr Try.prog (Op.equal 30 (raw r) (raw r')) = some (decide (r = r')) := by
  refine eqStruct Try.underlying30 stood ?_
  simp only [List.forIn_cons, List.forIn_nil]
  refine fldEq' (by decide) (part_one (v := .int .i64 r.off) ag3 rfl) (part_one (v := .int .i64 r'.off) ag3 rfl) (eq_int und3 _ _) (fun _ => rfl) rfl (congrArg Rec.off) (fun h1 => ?_)
  refine fldEq' (by decide) (part_one (v := .string r.prod) ag9 rfl) (part_one (v := .string r'.prod) ag9 rfl) (eq_str und9 _ _) (fun _ => rfl) rfl (congrArg Rec.prod) (fun h2 => ?_)
  refine fldEq' (by decide) (part_one (v := .int .i64 r.seq) ag3 rfl) (part_one (v := .int .i64 r'.seq) ag3 rfl) (eq_int und3 _ _) (fun _ => rfl) rfl (congrArg Rec.seq) (fun h3 => ?_)
  refine fldEq' (by decide) (part_one (v := .string r.key) ag9 rfl) (part_one (v := .string r'.key) ag9 rfl) (eq_str und9 _ _) (fun _ => rfl) rfl (congrArg Rec.key) (fun h4 => ?_)
  refine fldEq' (by decide) (part_one (v := .string r.val) ag9 rfl) (part_one (v := .string r'.val) ag9 rfl) (eq_str und9 _ _) (fun _ => rfl) rfl (congrArg Rec.val) (fun h5 => ?_)
  have : r = r' := by cases r; cases r'; simp at h1 h2 h3 h4 h5; simp [*]
  simp only [this, decide_true]; rfl
theorem binNeq (x y : Operand) (r r' : Rec) : aBin Try.prog .neq 30 x y (enc r) (enc r') = some (.raw (.bool (!decide (r = r')))) :=
  aBin_structNeq eqg rfl rfl (fun _ _ h => by cases h) (recEq r r')
theorem elsR {l : List Rec} : Els 5 (l.map enc) := Els.map fun _ => ⟨rfl, rfl⟩
theorem elsI {l : List Int} : Els 1 (l.map encI) := Els.map fun _ => ⟨rfl, rfl⟩

def emp : ByteArray := { data := #[] }
/-- Is the i-th record superseded? -/
def superB (l : List Rec) (i : Nat) : Bool := decide ((l.getD i default).key ≠ emp) && (l.drop (i + 1)).any fun r => decide (r.key = (l.getD i default).key)
theorem superB_iff {l : List Rec} {i : Nat} (hi : i < l.length) : superB l i = true ↔ l[i].key ≠ emp ∧ ∃ j, ∃ h : j < l.length, i < j ∧ l[j].key = l[i].key := by
  unfold superB
  have e : l.getD i default = l[i] := by simp [List.getD, hi]
  rw [e]
  simp only [Bool.and_eq_true, decide_eq_true_eq, List.any_eq_true, List.mem_drop_iff_getElem]
  constructor
  · rintro ⟨h1, r, ⟨k, hk, rfl⟩, h2⟩
    exact ⟨h1, i + 1 + k, by omega, by omega, h2⟩
  · rintro ⟨h1, j, hj, h2, h3⟩
    refine ⟨h1, l[j], ⟨j - (i + 1), by omega, ?_⟩, h3⟩
    congr 1
    omega
/-- The records that stay, of the first n. -/
def keepN (l : List Rec) (upto : Int) (n : Nat) : List Rec := ((List.range n).filter fun i => !superB l i || decide (upto ≤ (l.getD i default).off)).map fun i => l.getD i default
def goneN (l : List Rec) (upto : Int) (n : Nat) : List Int := ((List.range n).filter fun i => superB l i && decide ((l.getD i default).off < upto)).map fun i => (l.getD i default).off
theorem keepN_succ (l : List Rec) (upto : Int) {n : Nat} (h : n < l.length) : keepN l upto (n + 1) = keepN l upto n ++ if !superB l n || decide (upto ≤ l[n].off) then [l[n]] else [] := by
  have e : l.getD n default = l[n] := by simp [List.getD, h]
  unfold keepN
  rw [List.range_succ, List.filter_append, List.map_append]
  congr 1
  simp only [List.filter_cons, List.filter_nil, e]
  split <;> simp [List.getD, h]
theorem goneN_succ (l : List Rec) (upto : Int) {n : Nat} (h : n < l.length) : goneN l upto (n + 1) = goneN l upto n ++ if superB l n && decide (l[n].off < upto) then [l[n].off] else [] := by
  have e : l.getD n default = l[n] := by simp [List.getD, h]
  unfold goneN
  rw [List.range_succ, List.filter_append, List.map_append]
  congr 1
  simp only [List.filter_cons, List.filter_nil, e]
  split <;> simp [List.getD, h]
theorem keepN_len (l : List Rec) (upto : Int) (n : Nat) : (keepN l upto n).length ≤ n := by
  unfold keepN; rw [List.length_map]; exact Nat.le_trans (List.length_filter_le _ _) (by simp)
theorem goneN_len (l : List Rec) (upto : Int) (n : Nat) : (goneN l upto n).length ≤ n := by
  unfold goneN; rw [List.length_map]; exact Nat.le_trans (List.length_filter_le _ _) (by simp)
theorem app_map {α : Type} {f : α → AVal} {l : List α} {x : α} {l' : List α} (h : l' = l ++ [x]) : (AVal.sl (l.map f ++ [f x]) true) = .sl (l'.map f) true := by subst h; simp


def encN (n : Nat) : AVal := .raw (.int .i64 n)
/-- The last place below n that has this key. -/
def lastN (l : List Rec) (key : ByteArray) : Nat → Option Nat
  | 0 => none
  | n + 1 => if (l.getD n default).key = key then some n else lastN l key n
theorem getD_lt {l : List Rec} {n : Nat} (h : n < l.length) : l.getD n default = l[n] := by simp [List.getD, h]
theorem lastN_spec (l : List Rec) (key : ByteArray) : ∀ n, (∀ m, lastN l key n = some m → m < n ∧ (l.getD m default).key = key ∧ ∀ j, m < j → j < n → (l.getD j default).key ≠ key) ∧ (lastN l key n = none → ∀ j < n, (l.getD j default).key ≠ key)
  | 0 => ⟨fun m h => by simp [lastN] at h, fun _ j h => by omega⟩
  | n + 1 => by
    obtain ⟨h1, h2⟩ := lastN_spec l key n
    unfold lastN
    by_cases h : (l.getD n default).key = key
    · rw [if_pos h]
      exact ⟨fun m e => by obtain rfl := Option.some.inj e; exact ⟨by omega, h, fun j _ _ => by omega⟩, fun e => by cases e⟩
    · rw [if_neg h]
      refine ⟨fun m e => ?_, fun e j hj => ?_⟩
      · obtain ⟨h3, h4, h5⟩ := h1 m e
        exact ⟨by omega, h4, fun j h6 h7 => by by_cases e : j = n; · subst e; exact h
                                               · exact h5 j h6 (by omega)⟩
      · by_cases e' : j = n
        · subst e'; exact h
        · exact h2 e j (by omega)
theorem last_gt {l : List Rec} {i : Nat} (hi : i < l.length) (hk : l[i].key ≠ emp) : ((i : Int) < (((lastN l l[i].key l.length).getD 0 : Nat) : Int)) ↔ superB l i = true := by
  rw [superB_iff hi]
  obtain ⟨h1, h2⟩ := lastN_spec l l[i].key l.length
  cases h : lastN l l[i].key l.length with
  | none => exact absurd rfl (by have := h2 h i hi; rw [getD_lt hi] at this; exact this)
  | some m =>
    obtain ⟨h3, h4, h5⟩ := h1 m h
    rw [getD_lt h3] at h4
    simp only [Option.getD_some]
    constructor
    · intro h6; exact ⟨hk, m, h3, by omega, h4⟩
    · rintro ⟨-, j, hj, h6, h7⟩
      rcases Nat.lt_or_ge m j with h8 | h8
      · exact absurd h7 (by have := h5 j h8 hj; rw [getD_lt hj] at this; exact this)
      · omega
theorem lookN (o : Option Nat) : ((o.map encN).getD (ofConst (.int .i64 0))).shut = .raw (.int .i64 ((o.getD 0 : Nat) : Int)) := by
  cases o <;> rfl
theorem ne_fresh {M : Mem} {b c : Nat} {o : AObj} (h : M b = none) (h' : M c = some o) : c ≠ b := fun e => by subst e; rw [h] at h'; cases h'
def tk13 : Nat → Nat → Option Nat := fun _ _ => none
def pl13 : Nat → List PStep
  | 4 => [.q 0, .q 1, .q 2, .q 3, .q 4, .q 5, .q 6, .q 7, .q 8, .q 9, .q 10, .q 11, .q 12, .q 13, .q 14, .q 15, .q 16, .q 17, .q 18]
  | _ => []
theorem cb13 : Try.f13.body.map (codeB Try.prog Try.f13.ntmps tk13 pl13) = some true := by kernel_rfl
theorem goes13 : goesB Try.prog 13 = true := by kernel_rfl
-- carillon/carillonref08.superseded params ['[]api.Record', 'int'] results [['t', 4]] own [] names ['0:l', '1:i', '2:l', '3:i', '5:k'] calls [] paths 4
theorem snd13 (l : List Rec) (i : Nat) (o : Bool) (M : Mem) (hl : l.length * 64 ≤ 2 ^ 47) (hi : i < l.length) : SoundCall Try.prog 13 [.sl (l.map enc) o, .raw (.int .i64 i)] M fun r M' => r = .raw (.bool (superB l i)) ∧ M' = M := by
  refine SoundCall.go tk13 pl13 mixed Try.func13 cb13 rfl (Nat.le_of_ble_eq_true rfl) ?_
  refine s_seq ?_
  refine s_region ?_
  refine o_q (q_as (v_raw rfl)) rfl rfl rfl ?_
  refine o_nil ?_
  refine s_seq ?_
  refine s_seq ?_
  refine s_region ?_
  refine o_q (q_mv (v_raw rfl)) rfl rfl rfl ?_
  refine o_q (q_add rfl rfl (wrap64 (by omega) (by omega))) rfl rfl rfl ?_
  refine o_q (q_as (v_raw rfl)) rfl rfl rfl ?_
  refine o_nil ?_
  refine s_block ?_
  refine s_loop (fun m S => ∃ T, ∃ k : Nat, S = ⟨setT (setT (setT T 0 (.sl (l.map enc) o)) 1 (.raw (.int .i64 i))) 5 (.raw (.int .i64 k)), M⟩ ∧ i < k ∧ k ≤ l.length ∧ m = l.length - k ∧ ∀ j, ∀ h : j < l.length, i < j → j < k → ¬ (l[i].key ≠ emp ∧ l[j].key = l[i].key)) (l.length - (i + 1)) ?_ ?_
  · exact ⟨_, i + 1, St.mkT (kp (kp (kp rfl rfl) rfl) rfl).symm, by omega, by omega, rfl, fun j _ h1 h2 => by omega⟩
  rintro m S ⟨T, k, rfl, hk1, hk2, rfl, hk⟩
  refine s_seq ?_
  refine s_seq ?_
  refine s_region ?_
  refine o_q (q_mv (v_raw rfl)) rfl rfl rfl ?_
  refine o_q (q_mv (v_sl rfl)) rfl rfl rfl ?_
  refine o_q (q_len rfl und22 rfl) rfl rfl rfl ?_
  refine o_q (q_lss rfl rfl) rfl rfl rfl ?_
  refine o_nil ?_
  refine s_cond rfl (fun h1 => ?_) (fun h1 => ?_)
  · have k1 := h1; try simp only [decide_eq_true_eq, decide_eq_false_iff_not, Bool.not_eq_true', Bool.not_eq_false', Bool.not_true, Bool.not_false, List.length_map, Decidable.not_not] at k1
    refine s_skip ?_
    refine s_seq ?_
    refine s_block ?_
    refine s_seq ?_
    refine s_draw _ rfl ?_
    refine d_q rfl (q_mv (v_sl rfl)) rfl rfl rfl ?_
    refine d_q rfl (q_mv (v_raw rfl)) rfl rfl rfl ?_
    refine d_q rfl (q_idx und22 sz30 rfl rfl (by omega) (gm i (by first | omega | simp)) rfl) rfl rfl rfl ?_
    refine d_q rfl (q_f fo30_3 rfl) rfl rfl rfl ?_
    refine d_q rfl (q_ld ag9 sz9 rfl (gm i (by first | omega | simp)) rfl (v_raw rfl)) rfl rfl rfl ?_
    refine d_q rfl (q_sneq rfl rfl) rfl rfl rfl ?_
    refine d_q rfl (q_mv (v_raw rfl)) rfl rfl rfl ?_
    refine d_gq rfl rfl rfl rfl rfl (fun h2 => ?_) (fun h2 => ?_)
    · have k2 := h2; try simp only [decide_eq_true_eq, decide_eq_false_iff_not, Bool.not_eq_true', Bool.not_eq_false', Bool.not_true, Bool.not_false, List.length_map, Decidable.not_not] at k2
      refine ⟨_, _, (q_mv (v_sl rfl)), ?_⟩
      refine d_yes rfl (q_mv (v_raw rfl)) rfl rfl rfl h2 rfl rfl ?_
      refine d_yes rfl (q_idx und22 sz30 rfl rfl (by omega) (gm k (by first | omega | simp)) rfl) rfl rfl rfl h2 rfl rfl ?_
      refine d_yes rfl (q_f fo30_3 rfl) rfl rfl rfl h2 rfl rfl ?_
      refine d_yes rfl (q_ld ag9 sz9 rfl (gm k (by first | omega | simp)) rfl (v_raw rfl)) rfl rfl rfl h2 rfl rfl ?_
      refine d_yes rfl (q_mv (v_sl rfl)) rfl rfl rfl h2 rfl rfl ?_
      refine d_yes rfl (q_mv (v_raw rfl)) rfl rfl rfl h2 rfl rfl ?_
      refine d_yes rfl (q_idx und22 sz30 rfl rfl (by omega) (gm i (by first | omega | simp)) rfl) rfl rfl rfl h2 rfl rfl ?_
      refine d_yes rfl (q_f fo30_3 rfl) rfl rfl rfl h2 rfl rfl ?_
      refine d_yes rfl (q_ld ag9 sz9 rfl (gm i (by first | omega | simp)) rfl (v_raw rfl)) rfl rfl rfl h2 rfl rfl ?_
      refine d_yes rfl (q_seql rfl rfl) rfl rfl rfl h2 rfl rfl ?_
      refine d_q rfl (q_pick_c rfl h2 (v_raw rfl)) rfl rfl rfl ?_
      refine d_nil ?_
      refine s_cond rfl (fun h3 => ?_) (fun h3 => ?_)
      · have k3 := h3; try simp only [decide_eq_true_eq, decide_eq_false_iff_not, Bool.not_eq_true', Bool.not_eq_false', Bool.not_true, Bool.not_false, List.length_map, Decidable.not_not] at k3
        refine s_seq ?_
        refine s_region ?_
        refine o_q (q_as (v_raw rfl)) rfl rfl rfl ?_
        refine o_nil ?_
        refine s_ret ?_
        refine s_blk_ret ?_
        refine s_code_ret ?_
        refine s_inv_ret ?_
        refine s_blk_ret ?_
        refine s_code_ret ?_
        refine s_end ?_
        refine ⟨?_, rfl⟩
        rw [(superB_iff hi).2 ⟨k2, k, by omega, hk1, k3⟩]; rfl
      · have k3 := h3; try simp only [decide_eq_true_eq, decide_eq_false_iff_not, Bool.not_eq_true', Bool.not_eq_false', Bool.not_true, Bool.not_false, List.length_map, Decidable.not_not] at k3
        refine s_skip ?_
        refine s_blk_normal ?_
        refine s_region ?_
        refine o_q (q_mv (v_raw rfl)) rfl rfl rfl ?_
        refine o_q (q_add rfl rfl (wrap64 (by omega) (by omega))) rfl rfl rfl ?_
        refine o_q (q_as (v_raw rfl)) rfl rfl rfl ?_
        refine o_nil ?_
        refine s_inv ?_
        refine ⟨l.length - (k + 1), by omega, _, k + 1, St.mkT (kp (kp (kp rfl rfl) rfl) rfl).symm, by omega, by omega, rfl, fun j h h1 h2 => ?_⟩
        by_cases e : j = k
        · subst e; exact fun hh => k3 hh.2
        · exact hk j h h1 (by omega)
    · have k2 := h2; try simp only [decide_eq_true_eq, decide_eq_false_iff_not, Bool.not_eq_true', Bool.not_eq_false', Bool.not_true, Bool.not_false, List.length_map, Decidable.not_not] at k2
      refine d_no rfl rfl rfl rfl h2 rfl ?_
      refine d_no rfl rfl rfl rfl h2 rfl ?_
      refine d_no rfl rfl rfl rfl h2 rfl ?_
      refine d_no rfl rfl rfl rfl h2 rfl ?_
      refine d_no rfl rfl rfl rfl h2 rfl ?_
      refine d_no rfl rfl rfl rfl h2 rfl ?_
      refine d_no rfl rfl rfl rfl h2 rfl ?_
      refine d_no rfl rfl rfl rfl h2 rfl ?_
      refine d_no rfl rfl rfl rfl h2 rfl ?_
      refine d_no rfl rfl rfl rfl h2 rfl ?_
      refine d_q rfl (q_pick_c rfl h2 (v_raw rfl)) rfl rfl rfl ?_
      refine d_nil ?_
      refine s_else rfl rfl ?_
      refine s_skip ?_
      refine s_blk_normal ?_
      refine s_region ?_
      refine o_q (q_mv (v_raw rfl)) rfl rfl rfl ?_
      refine o_q (q_add rfl rfl (wrap64 (by omega) (by omega))) rfl rfl rfl ?_
      refine o_q (q_as (v_raw rfl)) rfl rfl rfl ?_
      refine o_nil ?_
      refine s_inv ?_
      refine ⟨l.length - (k + 1), by omega, _, k + 1, St.mkT (kp (kp (kp rfl rfl) rfl) rfl).symm, by omega, by omega, rfl, fun j h h1 h2 => ?_⟩
      exact fun hh => hh.1 k2
  · have k1 := h1; try simp only [decide_eq_true_eq, decide_eq_false_iff_not, Bool.not_eq_true', Bool.not_eq_false', Bool.not_true, Bool.not_false, List.length_map, Decidable.not_not] at k1
    refine s_exit ?_
    refine s_code_exit ?_
    refine s_inv_exit ?_
    refine s_blk_here ?_
    refine s_seq ?_
    refine s_region ?_
    refine o_q (q_as (v_raw rfl)) rfl rfl rfl ?_
    refine o_nil ?_
    refine s_ret ?_
    refine s_end ?_
    refine ⟨?_, rfl⟩
    have : superB l i = false := by
      rw [Bool.eq_false_iff]; intro h; obtain ⟨h1, j, h2, h3, h4⟩ := (superB_iff hi).1 h; exact hk j h2 h3 (by omega) ⟨h1, h4⟩
    rw [this]; rfl

def tk10 : Nat → Nat → Option Nat
  | 1, 0 => some 0
  | 7, 0 => some 0
  | 7, 7 => some 0
  | _, _ => none
def pl10 : Nat → List PStep := fun _ => []
theorem cb10 : Try.f10.body.map (codeB Try.prog Try.f10.ntmps tk10 pl10) = some true := by kernel_rfl
theorem goes10 : goesB Try.prog 10 = true := by kernel_rfl
-- carillon/carillonref08.Keep params ['[]api.Record', 'int'] results [['t', 4]] own [28, 5, 34] names ['0:l', '1:upto', '2:l', '3:upto', '5:out', '6:i', '7:s'] calls [13] paths 4
theorem snd10 (l : List Rec) (upto : Int) (o : Bool) (M : Mem) (hl : l.length * 64 ≤ 2 ^ 47) : SoundCall Try.prog 10 [.sl (l.map enc) o, .raw (.int .i64 upto)] M fun r M' => r = .sl ((keepN l upto l.length).map enc) false ∧ M' = M := by
  refine SoundCall.go tk10 pl10 mixed Try.func10 cb10 rfl (Nat.le_of_ble_eq_true rfl) ?_
  refine s_seq ?_
  refine s_region ?_
  refine o_q (q_as (v_sl rfl)) rfl rfl rfl ?_
  refine o_nil ?_
  refine s_seq ?_
  refine s_region ?_
  refine o_q (q_as_const rfl) rfl rfl rfl ?_
  refine o_nil ?_
  refine s_seq ?_
  refine s_seq ?_
  refine s_region ?_
  refine o_q (q_as (v_raw rfl)) rfl rfl rfl ?_
  refine o_nil ?_
  refine s_block ?_
  refine s_loop (fun m S => ∃ T, ∃ i : Nat, S = ⟨setT (setT (setT (setT T 0 (.sl (l.map enc) o)) 1 (.raw (.int .i64 upto))) 5 (.sl ((keepN l upto i).map enc) true)) 6 (.raw (.int .i64 i)), M⟩ ∧ i ≤ l.length ∧ m = l.length - i) l.length ?_ ?_
  · exact ⟨_, 0, St.mkT (kp (kp (kp (kp rfl rfl) rfl) rfl) rfl).symm, by omega, rfl⟩
  rintro m S ⟨T, i, rfl, hi, rfl⟩
  have hlen := keepN_len l upto i
  refine s_seq ?_
  refine s_seq ?_
  refine s_region ?_
  refine o_q (q_mv (v_raw rfl)) rfl rfl rfl ?_
  refine o_q (q_mv (v_sl rfl)) rfl rfl rfl ?_
  refine o_q (q_len rfl und22 rfl) rfl rfl rfl ?_
  refine o_q (q_lss rfl rfl) rfl rfl rfl ?_
  refine o_nil ?_
  refine s_cond rfl (fun h1 => ?_) (fun h1 => ?_)
  · have k1 := h1; try simp only [decide_eq_true_eq, decide_eq_false_iff_not, Bool.not_eq_true', Bool.not_eq_false', Bool.not_true, Bool.not_false, List.length_map, Decidable.not_not] at k1
    refine s_skip ?_
    refine s_seq ?_
    refine s_block ?_
    refine s_seq ?_
    refine s_region ?_
    refine o_q (q_mv (v_sl rfl)) rfl rfl rfl ?_
    refine o_q (q_mv (v_raw rfl)) rfl rfl rfl ?_
    refine o_call (snd13 l i false M hl (by omega)) goes13 (ac (v_sl rfl) (ac (v_raw rfl) ac_nil)) rfl ?_
    refine o_q (q_as (v_raw rfl)) rfl rfl rfl ?_
    refine o_nil ?_
    refine s_seq ?_
    refine s_region ?_
    refine o_q (q_mv (v_raw rfl)) rfl rfl rfl ?_
    refine o_q (q_not rfl) rfl rfl rfl ?_
    refine o_q (q_mv (v_raw rfl)) rfl rfl rfl ?_
    refine o_guard rfl rfl rfl rfl (fun h2 => ?_) (fun h2 => ?_)
    · have k2 := h2; try simp only [decide_eq_true_eq, decide_eq_false_iff_not, Bool.not_eq_true', Bool.not_eq_false', Bool.not_true, Bool.not_false, List.length_map, Decidable.not_not] at k2
      refine o_q (q_mv (v_sl rfl)) rfl rfl rfl ?_
      refine o_yes rfl rfl rfl h2 ?_
      refine o_q (q_mv (v_raw rfl)) rfl rfl rfl ?_
      refine o_yes rfl rfl rfl h2 ?_
      refine o_q (q_idx und22 sz30 rfl rfl (by omega) (gm i (by first | omega | simp)) rfl) rfl rfl rfl ?_
      refine o_yes rfl rfl rfl h2 ?_
      refine o_q (q_f fo30_0 rfl) rfl rfl rfl ?_
      refine o_yes rfl rfl rfl h2 ?_
      refine o_q (q_ld ag3 sz3 rfl (gm i (by first | omega | simp)) rfl (v_raw rfl)) rfl rfl rfl ?_
      refine o_yes rfl rfl rfl h2 ?_
      refine o_q (q_mv (v_raw rfl)) rfl rfl rfl ?_
      refine o_yes rfl rfl rfl h2 ?_
      refine o_q (q_geq rfl rfl) rfl rfl rfl ?_
      refine o_q (q_pick_c rfl h2 (v_raw rfl)) rfl rfl rfl ?_
      refine o_nil ?_
      refine s_cond rfl (fun h3 => ?_) (fun h3 => ?_)
      · have k3 := h3; try simp only [decide_eq_true_eq, decide_eq_false_iff_not, Bool.not_eq_true', Bool.not_eq_false', Bool.not_true, Bool.not_false, List.length_map, Decidable.not_not] at k3
        refine s_region ?_
        refine o_qs (q_mv_own rfl) rfl rfl rfl rfl ?_
        refine o_q (q_mv (v_sl rfl)) rfl rfl rfl ?_
        refine o_q (q_mv (v_raw rfl)) rfl rfl rfl ?_
        refine o_q (q_idx und22 sz30 rfl rfl (by omega) (gm i (by first | omega | simp)) rfl) rfl rfl rfl ?_
        refine o_q (q_lde ag30 sz30 rfl (gm i (by first | omega | simp)) rfl rfl) rfl rfl rfl ?_
        refine o_q (q_bs slt22 (pc (v_agg rfl) pn) rfl (Els.cons rfl rfl Els.nil) (by decide)) rfl rfl rfl ?_
        refine o_qs (q_app slt22 rfl rfl rfl rfl elsR (by first | exact elsR | exact Els.cons rfl rfl Els.nil) (by simp; omega)) rfl rfl rfl rfl ?_
        refine o_qs (q_as_own rfl) rfl rfl rfl rfl ?_
        refine o_nil ?_
        refine s_blk_normal ?_
        refine s_region ?_
        refine o_q (q_mv (v_raw rfl)) rfl rfl rfl ?_
        refine o_q (q_add rfl rfl (wrap64 (by omega) (by omega))) rfl rfl rfl ?_
        refine o_q (q_as (v_raw rfl)) rfl rfl rfl ?_
        refine o_nil ?_
        refine s_inv ?_
        refine ⟨l.length - (i + 1), by omega, _, i + 1, St.mkT (kp (kp (kp (kp rfl rfl) rfl) (app_map (by rw [keepN_succ l upto (by omega), if_pos (by simp [k3])]))) rfl).symm, by omega, rfl⟩
      · have k3 := h3; try simp only [decide_eq_true_eq, decide_eq_false_iff_not, Bool.not_eq_true', Bool.not_eq_false', Bool.not_true, Bool.not_false, List.length_map, Decidable.not_not] at k3
        refine s_skip ?_
        refine s_blk_normal ?_
        refine s_region ?_
        refine o_q (q_mv (v_raw rfl)) rfl rfl rfl ?_
        refine o_q (q_add rfl rfl (wrap64 (by omega) (by omega))) rfl rfl rfl ?_
        refine o_q (q_as (v_raw rfl)) rfl rfl rfl ?_
        refine o_nil ?_
        refine s_inv ?_
        refine ⟨l.length - (i + 1), by omega, _, i + 1, St.mkT (kp (kp (kp (kp rfl rfl) rfl) (by show _ = AVal.sl _ true; rw [keepN_succ l upto (by omega), if_neg (by simp_all), List.append_nil]; rfl)) rfl).symm, by omega, rfl⟩
    · have k2 := h2; try simp only [decide_eq_true_eq, decide_eq_false_iff_not, Bool.not_eq_true', Bool.not_eq_false', Bool.not_true, Bool.not_false, List.length_map, Decidable.not_not] at k2
      refine o_no rfl rfl rfl rfl h2 ?_
      refine o_no rfl rfl rfl rfl h2 ?_
      refine o_no rfl rfl rfl rfl h2 ?_
      refine o_no rfl rfl rfl rfl h2 ?_
      refine o_no rfl rfl rfl rfl h2 ?_
      refine o_no rfl rfl rfl rfl h2 ?_
      refine o_q (q_pick_c rfl h2 (v_raw rfl)) rfl rfl rfl ?_
      refine o_nil ?_
      refine s_then rfl rfl ?_
      refine s_region ?_
      refine o_qs (q_mv_own rfl) rfl rfl rfl rfl ?_
      refine o_q (q_mv (v_sl rfl)) rfl rfl rfl ?_
      refine o_q (q_mv (v_raw rfl)) rfl rfl rfl ?_
      refine o_q (q_idx und22 sz30 rfl rfl (by omega) (gm i (by first | omega | simp)) rfl) rfl rfl rfl ?_
      refine o_q (q_lde ag30 sz30 rfl (gm i (by first | omega | simp)) rfl rfl) rfl rfl rfl ?_
      refine o_q (q_bs slt22 (pc (v_agg rfl) pn) rfl (Els.cons rfl rfl Els.nil) (by decide)) rfl rfl rfl ?_
      refine o_qs (q_app slt22 rfl rfl rfl rfl elsR (by first | exact elsR | exact Els.cons rfl rfl Els.nil) (by simp; omega)) rfl rfl rfl rfl ?_
      refine o_qs (q_as_own rfl) rfl rfl rfl rfl ?_
      refine o_nil ?_
      refine s_blk_normal ?_
      refine s_region ?_
      refine o_q (q_mv (v_raw rfl)) rfl rfl rfl ?_
      refine o_q (q_add rfl rfl (wrap64 (by omega) (by omega))) rfl rfl rfl ?_
      refine o_q (q_as (v_raw rfl)) rfl rfl rfl ?_
      refine o_nil ?_
      refine s_inv ?_
      refine ⟨l.length - (i + 1), by omega, _, i + 1, St.mkT (kp (kp (kp (kp rfl rfl) rfl) (app_map (by rw [keepN_succ l upto (by omega), if_pos (by simp_all)]))) rfl).symm, by omega, rfl⟩
  · have k1 := h1; try simp only [decide_eq_true_eq, decide_eq_false_iff_not, Bool.not_eq_true', Bool.not_eq_false', Bool.not_true, Bool.not_false, List.length_map, Decidable.not_not] at k1
    refine s_exit ?_
    refine s_code_exit ?_
    refine s_inv_exit ?_
    refine s_blk_here ?_
    refine s_seq ?_
    refine s_region ?_
    refine o_q (q_mv (v_sl rfl)) rfl rfl rfl ?_
    refine o_q (q_as (v_sl rfl)) rfl rfl rfl ?_
    refine o_nil ?_
    refine s_ret ?_
    refine s_end ?_
    refine ⟨?_, rfl⟩
    have : i = l.length := by omega
    subst this; rfl

def tk8 : Nat → Nat → Option Nat
  | 1, 0 => some 0
  | 7, 0 => some 0
  | 7, 8 => some 0
  | _, _ => none
def pl8 : Nat → List PStep := fun _ => []
theorem cb8 : Try.f8.body.map (codeB Try.prog Try.f8.ntmps tk8 pl8) = some true := by kernel_rfl
theorem goes8 : goesB Try.prog 8 = true := by kernel_rfl
-- carillon/carillonref08.Gone params ['[]api.Record', 'int'] results [['t', 4]] own [27, 5, 34] names ['0:l', '1:upto', '2:l', '3:upto', '5:out', '6:i', '7:s'] calls [13] paths 4
theorem snd8 (l : List Rec) (upto : Int) (o : Bool) (M : Mem) (hl : l.length * 64 ≤ 2 ^ 47) : SoundCall Try.prog 8 [.sl (l.map enc) o, .raw (.int .i64 upto)] M fun r M' => r = .sl ((goneN l upto l.length).map encI) false ∧ M' = M := by
  refine SoundCall.go tk8 pl8 mixed Try.func8 cb8 rfl (Nat.le_of_ble_eq_true rfl) ?_
  refine s_seq ?_
  refine s_region ?_
  refine o_q (q_as (v_sl rfl)) rfl rfl rfl ?_
  refine o_nil ?_
  refine s_seq ?_
  refine s_region ?_
  refine o_q (q_as_const rfl) rfl rfl rfl ?_
  refine o_nil ?_
  refine s_seq ?_
  refine s_seq ?_
  refine s_region ?_
  refine o_q (q_as (v_raw rfl)) rfl rfl rfl ?_
  refine o_nil ?_
  refine s_block ?_
  refine s_loop (fun m S => ∃ T, ∃ i : Nat, S = ⟨setT (setT (setT (setT T 0 (.sl (l.map enc) o)) 1 (.raw (.int .i64 upto))) 5 (.sl ((goneN l upto i).map encI) true)) 6 (.raw (.int .i64 i)), M⟩ ∧ i ≤ l.length ∧ m = l.length - i) l.length ?_ ?_
  · exact ⟨_, 0, St.mkT (kp (kp (kp (kp rfl rfl) rfl) rfl) rfl).symm, by omega, rfl⟩
  rintro m S ⟨T, i, rfl, hi, rfl⟩
  have hlen := goneN_len l upto i
  refine s_seq ?_
  refine s_seq ?_
  refine s_region ?_
  refine o_q (q_mv (v_raw rfl)) rfl rfl rfl ?_
  refine o_q (q_mv (v_sl rfl)) rfl rfl rfl ?_
  refine o_q (q_len rfl und22 rfl) rfl rfl rfl ?_
  refine o_q (q_lss rfl rfl) rfl rfl rfl ?_
  refine o_nil ?_
  refine s_cond rfl (fun h1 => ?_) (fun h1 => ?_)
  · have k1 := h1; try simp only [decide_eq_true_eq, decide_eq_false_iff_not, Bool.not_eq_true', Bool.not_eq_false', Bool.not_true, Bool.not_false, List.length_map, Decidable.not_not] at k1
    refine s_skip ?_
    refine s_seq ?_
    refine s_block ?_
    refine s_seq ?_
    refine s_region ?_
    refine o_q (q_mv (v_sl rfl)) rfl rfl rfl ?_
    refine o_q (q_mv (v_raw rfl)) rfl rfl rfl ?_
    refine o_call (snd13 l i false M hl (by omega)) goes13 (ac (v_sl rfl) (ac (v_raw rfl) ac_nil)) rfl ?_
    refine o_q (q_as (v_raw rfl)) rfl rfl rfl ?_
    refine o_nil ?_
    refine s_seq ?_
    refine s_region ?_
    refine o_q (q_mv (v_raw rfl)) rfl rfl rfl ?_
    refine o_q (q_mv (v_raw rfl)) rfl rfl rfl ?_
    refine o_guard rfl rfl rfl rfl (fun h2 => ?_) (fun h2 => ?_)
    · have k2 := h2; try simp only [decide_eq_true_eq, decide_eq_false_iff_not, Bool.not_eq_true', Bool.not_eq_false', Bool.not_true, Bool.not_false, List.length_map, Decidable.not_not] at k2
      refine o_q (q_mv (v_sl rfl)) rfl rfl rfl ?_
      refine o_yes rfl rfl rfl h2 ?_
      refine o_q (q_mv (v_raw rfl)) rfl rfl rfl ?_
      refine o_yes rfl rfl rfl h2 ?_
      refine o_q (q_idx und22 sz30 rfl rfl (by omega) (gm i (by first | omega | simp)) rfl) rfl rfl rfl ?_
      refine o_yes rfl rfl rfl h2 ?_
      refine o_q (q_f fo30_0 rfl) rfl rfl rfl ?_
      refine o_yes rfl rfl rfl h2 ?_
      refine o_q (q_ld ag3 sz3 rfl (gm i (by first | omega | simp)) rfl (v_raw rfl)) rfl rfl rfl ?_
      refine o_yes rfl rfl rfl h2 ?_
      refine o_q (q_mv (v_raw rfl)) rfl rfl rfl ?_
      refine o_yes rfl rfl rfl h2 ?_
      refine o_q (q_lss rfl rfl) rfl rfl rfl ?_
      refine o_q (q_pick_c rfl h2 (v_raw rfl)) rfl rfl rfl ?_
      refine o_nil ?_
      refine s_cond rfl (fun h3 => ?_) (fun h3 => ?_)
      · have k3 := h3; try simp only [decide_eq_true_eq, decide_eq_false_iff_not, Bool.not_eq_true', Bool.not_eq_false', Bool.not_true, Bool.not_false, List.length_map, Decidable.not_not] at k3
        refine s_region ?_
        refine o_qs (q_mv_own rfl) rfl rfl rfl rfl ?_
        refine o_q (q_mv (v_sl rfl)) rfl rfl rfl ?_
        refine o_q (q_mv (v_raw rfl)) rfl rfl rfl ?_
        refine o_q (q_idx und22 sz30 rfl rfl (by omega) (gm i (by first | omega | simp)) rfl) rfl rfl rfl ?_
        refine o_q (q_f fo30_0 rfl) rfl rfl rfl ?_
        refine o_q (q_ld ag3 sz3 rfl (gm i (by first | omega | simp)) rfl (v_raw rfl)) rfl rfl rfl ?_
        refine o_q (q_bs slt25 (pc (v_raw rfl) pn) rfl (Els.cons rfl rfl Els.nil) (by decide)) rfl rfl rfl ?_
        refine o_qs (q_app slt25 rfl rfl rfl rfl elsI (by first | exact elsI | exact Els.cons rfl rfl Els.nil) (by simp; omega)) rfl rfl rfl rfl ?_
        refine o_qs (q_as_own rfl) rfl rfl rfl rfl ?_
        refine o_nil ?_
        refine s_blk_normal ?_
        refine s_region ?_
        refine o_q (q_mv (v_raw rfl)) rfl rfl rfl ?_
        refine o_q (q_add rfl rfl (wrap64 (by omega) (by omega))) rfl rfl rfl ?_
        refine o_q (q_as (v_raw rfl)) rfl rfl rfl ?_
        refine o_nil ?_
        refine s_inv ?_
        refine ⟨l.length - (i + 1), by omega, _, i + 1, St.mkT (kp (kp (kp (kp rfl rfl) rfl) (app_map (f := encI) (by rw [goneN_succ l upto (by omega), if_pos (by simp_all)]))) rfl).symm, by omega, rfl⟩
      · have k3 := h3; try simp only [decide_eq_true_eq, decide_eq_false_iff_not, Bool.not_eq_true', Bool.not_eq_false', Bool.not_true, Bool.not_false, List.length_map, Decidable.not_not] at k3
        refine s_skip ?_
        refine s_blk_normal ?_
        refine s_region ?_
        refine o_q (q_mv (v_raw rfl)) rfl rfl rfl ?_
        refine o_q (q_add rfl rfl (wrap64 (by omega) (by omega))) rfl rfl rfl ?_
        refine o_q (q_as (v_raw rfl)) rfl rfl rfl ?_
        refine o_nil ?_
        refine s_inv ?_
        refine ⟨l.length - (i + 1), by omega, _, i + 1, St.mkT (kp (kp (kp (kp rfl rfl) rfl) (by show _ = AVal.sl _ true; rw [goneN_succ l upto (by omega), if_neg (by simp_all), List.append_nil]; rfl)) rfl).symm, by omega, rfl⟩
    · have k2 := h2; try simp only [decide_eq_true_eq, decide_eq_false_iff_not, Bool.not_eq_true', Bool.not_eq_false', Bool.not_true, Bool.not_false, List.length_map, Decidable.not_not] at k2
      refine o_no rfl rfl rfl rfl h2 ?_
      refine o_no rfl rfl rfl rfl h2 ?_
      refine o_no rfl rfl rfl rfl h2 ?_
      refine o_no rfl rfl rfl rfl h2 ?_
      refine o_no rfl rfl rfl rfl h2 ?_
      refine o_no rfl rfl rfl rfl h2 ?_
      refine o_q (q_pick_c rfl h2 (v_raw rfl)) rfl rfl rfl ?_
      refine o_nil ?_
      refine s_else rfl rfl ?_
      refine s_skip ?_
      refine s_blk_normal ?_
      refine s_region ?_
      refine o_q (q_mv (v_raw rfl)) rfl rfl rfl ?_
      refine o_q (q_add rfl rfl (wrap64 (by omega) (by omega))) rfl rfl rfl ?_
      refine o_q (q_as (v_raw rfl)) rfl rfl rfl ?_
      refine o_nil ?_
      refine s_inv ?_
      refine ⟨l.length - (i + 1), by omega, _, i + 1, St.mkT (kp (kp (kp (kp rfl rfl) rfl) (by show _ = AVal.sl _ true; rw [goneN_succ l upto (by omega), if_neg (by simp_all), List.append_nil]; rfl)) rfl).symm, by omega, rfl⟩
  · have k1 := h1; try simp only [decide_eq_true_eq, decide_eq_false_iff_not, Bool.not_eq_true', Bool.not_eq_false', Bool.not_true, Bool.not_false, List.length_map, Decidable.not_not] at k1
    refine s_exit ?_
    refine s_code_exit ?_
    refine s_inv_exit ?_
    refine s_blk_here ?_
    refine s_seq ?_
    refine s_region ?_
    refine o_q (q_mv (v_sl rfl)) rfl rfl rfl ?_
    refine o_q (q_as (v_sl rfl)) rfl rfl rfl ?_
    refine o_nil ?_
    refine s_ret ?_
    refine s_end ?_
    refine ⟨?_, rfl⟩
    have : i = l.length := by omega
    subst this; rfl

def tk12 : Nat → Nat → Option Nat
  | 0, 0 => some 0
  | 0, 1 => some 0
  | 11, 0 => some 0
  | 11, 5 => some 0
  | 12, 0 => some 0
  | 12, 4 => some 0
  | 14, 0 => some 0
  | 14, 1 => some 0
  | 14, 2 => some 0
  | 14, 3 => some 0
  | _, _ => none
def pl12 : Nat → List PStep := fun _ => []
theorem cb12 : Try.f12.body.map (codeB Try.prog Try.f12.ntmps tk12 pl12) = some true := by kernel_rfl
theorem goes12 : goesB Try.prog 12 = true := by kernel_rfl
-- carillon/compact.parted params ['[]api.Record', 'int'] results [['t', 4], ['t', 5]] own [48, 53, 5, 4, 52, 56, 58, 59] names ['0:l', '1:upto', '2:l', '3:upto', '4:stay', '5:gone', '6:last', '7:i', '8:r', '9:i', '10:r'] calls [] paths 6
theorem snd12 (l : List Rec) (upto : Int) (o : Bool) (M : Mem) (hl : l.length * 64 ≤ 2 ^ 47) : SoundCall Try.prog 12 [.sl (l.map enc) o, .raw (.int .i64 upto)] M fun r M' => r = .tup [.sl ((keepN l upto l.length).map enc) true, .sl ((goneN l upto l.length).map encI) true] ∧ M.le M' := by
  refine SoundCall.go tk12 pl12 mixed Try.func12 cb12 rfl (Nat.le_of_ble_eq_true rfl) ?_
  refine s_seq ?_
  refine s_region ?_
  refine o_q (q_as_const rfl) rfl rfl rfl ?_
  refine o_q (q_as_const rfl) rfl rfl rfl ?_
  refine o_nil ?_
  refine s_seq ?_
  refine s_region ?_
  refine o_makeMap (fun B1 hB1 => ?_)
  refine o_q (q_as (v_raw rfl)) rfl rfl rfl ?_
  refine o_nil ?_
  refine s_seq ?_
  refine s_seq ?_
  refine s_region ?_
  refine o_q (q_mv (v_sl rfl)) rfl rfl rfl ?_
  refine o_q (q_len rfl und22 rfl) rfl rfl rfl ?_
  refine o_q (q_mv (v_raw rfl)) rfl rfl rfl ?_
  refine o_nil ?_
  refine s_block ?_
  refine s_loop (fun m S => ∃ T, ∃ M' : Mem, ∃ kvs, ∃ i : Nat, S = ⟨setT (setT (setT (setT (setT (setT (setT (setT T 0 (.sl (l.map enc) o)) 1 (.raw (.int .i64 upto))) 4 (.sl [] true)) 5 (.sl [] true)) 6 (.raw (.map (some B1)))) 12 (.sl (l.map enc) false)) 13 (.raw (.int .i64 l.length))) 14 (.raw (.int .i64 i)), M'⟩ ∧ M.le M' ∧ M' B1 = some (.map (ents Value.string encN kvs)) ∧ (∀ key, kget kvs key = lastN l key i) ∧ i ≤ l.length ∧ m = l.length - i) l.length ?_ ?_
  · exact ⟨_, _, [], 0, St.mkT (kp (kp (kp (kp (kp (kp (kp (kp rfl rfl) rfl) rfl) rfl) rfl) rfl) (by show AVal.raw (.int .i64 ((l.map enc).length : Int)) = _; rw [List.length_map])) rfl).symm, Mem.le_upd (Mem.le_refl M) hB1, Mem.upd_self _ _ _, fun _ => rfl, by omega, rfl⟩
  rintro m S ⟨T, M', kvs, i, rfl, hle, hB, hkvs, hi, rfl⟩
  refine s_seq ?_
  refine s_region ?_
  refine o_q (q_lss rfl rfl) rfl rfl rfl ?_
  refine o_nil ?_
  refine s_seq ?_
  refine s_cond rfl (fun h1 => ?_) (fun h1 => ?_)
  · have k1 := h1; try simp only [decide_eq_true_eq, decide_eq_false_iff_not, Bool.not_eq_true', Bool.not_eq_false', Bool.not_true, Bool.not_false, List.length_map, Decidable.not_not] at k1
    refine s_skip ?_
    refine s_seq ?_
    refine s_block ?_
    refine s_seq ?_
    refine s_region ?_
    refine o_q (q_mv (v_raw rfl)) rfl rfl rfl ?_
    refine o_q (q_idx und22 sz30 rfl rfl (by omega) (gm i (by first | omega | simp)) rfl) rfl rfl rfl ?_
    refine o_q (q_lde ag30 sz30 rfl (gm i (by first | omega | simp)) rfl rfl) rfl rfl rfl ?_
    refine o_alloc zc30 (fun B2 hB2 => ?_)
    have n2 : B1 ≠ B2 := ne_fresh hB2 hB
    refine o_q (q_as (v_raw rfl)) rfl rfl rfl ?_
    refine o_storew rfl (by repeat first | exact Mem.upd_self _ _ _ | assumption | refine Mem.upd_ne (by assumption) ?_) (by first | exact e_agg rfl | rfl) rfl sz30 rfl rfl rfl rfl ?_
    refine o_nil ?_
    refine s_region ?_
    refine o_q (q_mv (v_raw rfl)) rfl rfl rfl ?_
    refine o_q (q_fr fo30_3 rfl) rfl rfl rfl ?_
    refine o_q (q_ldm ag9 sz9 rfl (by repeat first | exact Mem.upd_self _ _ _ | assumption | refine Mem.upd_ne (by assumption) ?_) rfl (v_raw rfl)) rfl rfl rfl ?_
    refine o_q (q_mv (v_raw rfl)) rfl rfl rfl ?_
    refine o_mput und34 kt9 rfl rfl (by repeat first | exact Mem.upd_self _ _ _ | assumption | refine Mem.upd_ne (by assumption) ?_) (v := i) (f := encN) (v_raw rfl) ?_
    refine o_nil ?_
    refine s_blk_normal ?_
    refine s_region ?_
    refine o_q (q_add rfl rfl (wrap64 (by omega) (by omega))) rfl rfl rfl ?_
    refine o_q (q_mv (v_raw rfl)) rfl rfl rfl ?_
    refine o_nil ?_
    refine s_inv ?_
    refine ⟨l.length - (i + 1), by omega, _, _, kput kvs l[i].key i, i + 1, St.mkT (kp (kp (kp (kp (kp (kp (kp (kp rfl rfl) rfl) rfl) rfl) rfl) rfl) rfl) rfl).symm, Mem.le_upd (Mem.le_upd (Mem.le_upd hle (Mem.none_of_le hle hB2)) (Mem.none_of_le hle hB2)) hB1, Mem.upd_self _ _ _, fun key => ?_, by omega, rfl⟩
    rw [kget_kput, hkvs]
    show _ = if (l.getD i default).key = key then some i else lastN l key i
    rw [getD_lt (by omega)]
    by_cases e : key = l[i].key
    · rw [if_pos e, if_pos e.symm]
    · rw [if_neg e, if_neg fun h => e h.symm]
  · have k1 := h1; try simp only [decide_eq_true_eq, decide_eq_false_iff_not, Bool.not_eq_true', Bool.not_eq_false', Bool.not_true, Bool.not_false, List.length_map, Decidable.not_not] at k1
    refine s_exit ?_
    refine s_code_exit ?_
    refine s_inv_exit ?_
    refine s_blk_here ?_
    refine s_seq ?_
    refine s_seq ?_
    refine s_region ?_
    refine o_q (q_mv (v_sl rfl)) rfl rfl rfl ?_
    refine o_q (q_len rfl und22 rfl) rfl rfl rfl ?_
    refine o_q (q_mv (v_raw rfl)) rfl rfl rfl ?_
    refine o_nil ?_
    refine s_block ?_
    refine s_loop (fun m S => ∃ T, ∃ M' : Mem, ∃ kvs, ∃ i : Nat, S = ⟨setT (setT (setT (setT (setT (setT (setT (setT T 0 (.sl (l.map enc) o)) 1 (.raw (.int .i64 upto))) 4 (.sl ((keepN l upto i).map enc) true)) 5 (.sl ((goneN l upto i).map encI) true)) 6 (.raw (.map (some B1)))) 24 (.sl (l.map enc) false)) 25 (.raw (.int .i64 l.length))) 26 (.raw (.int .i64 i)), M'⟩ ∧ M.le M' ∧ M' B1 = some (.map (ents Value.string encN kvs)) ∧ (∀ key, kget kvs key = lastN l key l.length) ∧ i ≤ l.length ∧ m = l.length - i) l.length ?_ ?_
    · have hil : i = l.length := by omega
      subst hil
      exact ⟨_, _, kvs, 0, St.mkT (kp (kp (kp (kp (kp (kp (kp (kp rfl rfl) rfl) rfl) rfl) rfl) rfl) (by show AVal.raw (.int .i64 ((l.map enc).length : Int)) = _; rw [List.length_map])) rfl).symm, hle, hB, hkvs, by omega, rfl⟩
    rintro m S ⟨T, M', kvs, i, rfl, hle, hB, hkvs, hi, rfl⟩
    have hlen := keepN_len l upto i
    have hlen2 := goneN_len l upto i
    refine s_seq ?_
    refine s_region ?_
    refine o_q (q_lss rfl rfl) rfl rfl rfl ?_
    refine o_nil ?_
    refine s_seq ?_
    refine s_cond rfl (fun h2 => ?_) (fun h2 => ?_)
    · have k2 := h2; try simp only [decide_eq_true_eq, decide_eq_false_iff_not, Bool.not_eq_true', Bool.not_eq_false', Bool.not_true, Bool.not_false, List.length_map, Decidable.not_not] at k2
      refine s_skip ?_
      refine s_seq ?_
      refine s_block ?_
      refine s_seq ?_
      refine s_region ?_
      refine o_q (q_mv (v_raw rfl)) rfl rfl rfl ?_
      refine o_q (q_idx und22 sz30 rfl rfl (by omega) (gm i (by first | omega | simp)) rfl) rfl rfl rfl ?_
      refine o_q (q_lde ag30 sz30 rfl (gm i (by first | omega | simp)) rfl rfl) rfl rfl rfl ?_
      refine o_alloc zc30 (fun B3 hB3 => ?_)
      have n3 : B1 ≠ B3 := ne_fresh hB3 hB
      refine o_q (q_as (v_raw rfl)) rfl rfl rfl ?_
      refine o_storew rfl (by repeat first | exact Mem.upd_self _ _ _ | assumption | refine Mem.upd_ne (by assumption) ?_) (by first | exact e_agg rfl | rfl) rfl sz30 rfl rfl rfl rfl ?_
      refine o_nil ?_
      refine s_seq ?_
      refine s_seq ?_
      refine s_region ?_
      refine o_q (q_fr fo30_3 rfl) rfl rfl rfl ?_
      refine o_q (q_ldm ag9 sz9 rfl (by repeat first | exact Mem.upd_self _ _ _ | assumption | refine Mem.upd_ne (by assumption) ?_) rfl (v_raw rfl)) rfl rfl rfl ?_
      refine o_q (q_sneq rfl rfl) rfl rfl rfl ?_
      refine o_q (q_mv (v_raw rfl)) rfl rfl rfl ?_
      refine o_guard rfl rfl rfl rfl (fun h3 => ?_) (fun h3 => ?_)
      · have k3 := h3; try simp only [decide_eq_true_eq, decide_eq_false_iff_not, Bool.not_eq_true', Bool.not_eq_false', Bool.not_true, Bool.not_false, List.length_map, Decidable.not_not] at k3
        refine o_q (q_mv (v_raw rfl)) rfl rfl rfl ?_
        refine o_yes rfl rfl rfl h3 ?_
        refine o_q (q_fr fo30_3 rfl) rfl rfl rfl ?_
        refine o_yes rfl rfl rfl h3 ?_
        refine o_q (q_ldm ag9 sz9 rfl (by repeat first | exact Mem.upd_self _ _ _ | assumption | refine Mem.upd_ne (by assumption) ?_) rfl (v_raw rfl)) rfl rfl rfl ?_
        refine o_yes rfl rfl rfl h3 ?_
        refine o_q (q_mget und34 kt9 z3 rfl rfl (by repeat first | exact Mem.upd_self _ _ _ | assumption | refine Mem.upd_ne (by assumption) ?_) (show _ = AVal.raw (.int .i64 (((lastN l l[i].key l.length).getD 0 : Nat) : Int)) by rw [hkvs]; exact lookN _)) rfl rfl rfl ?_
        refine o_yes rfl rfl rfl h3 ?_
        refine o_q (q_mv (v_raw rfl)) rfl rfl rfl ?_
        refine o_yes rfl rfl rfl h3 ?_
        refine o_q (q_gtr rfl rfl) rfl rfl rfl ?_
        refine o_q (q_pick_c rfl h3 (v_raw rfl)) rfl rfl rfl ?_
        refine o_q (q_mv (v_raw rfl)) rfl rfl rfl ?_
        refine o_guard rfl rfl rfl rfl (fun h4 => ?_) (fun h4 => ?_)
        · have k4 := h4; try simp only [decide_eq_true_eq, decide_eq_false_iff_not, Bool.not_eq_true', Bool.not_eq_false', Bool.not_true, Bool.not_false, List.length_map, Decidable.not_not] at k4
          refine o_q (q_fr fo30_0 rfl) rfl rfl rfl ?_
          refine o_yes rfl rfl rfl h4 ?_
          refine o_q (q_ldm ag3 sz3 rfl (by repeat first | exact Mem.upd_self _ _ _ | assumption | refine Mem.upd_ne (by assumption) ?_) rfl (v_raw rfl)) rfl rfl rfl ?_
          refine o_yes rfl rfl rfl h4 ?_
          refine o_q (q_mv (v_raw rfl)) rfl rfl rfl ?_
          refine o_yes rfl rfl rfl h4 ?_
          refine o_q (q_lss rfl rfl) rfl rfl rfl ?_
          refine o_q (q_pick_c rfl h4 (v_raw rfl)) rfl rfl rfl ?_
          refine o_nil ?_
          refine s_cond rfl (fun h5 => ?_) (fun h5 => ?_)
          · have k5 := h5; try simp only [decide_eq_true_eq, decide_eq_false_iff_not, Bool.not_eq_true', Bool.not_eq_false', Bool.not_true, Bool.not_false, List.length_map, Decidable.not_not] at k5
            refine s_seq ?_
            refine s_region ?_
            refine o_qs (q_mv_own rfl) rfl rfl rfl rfl ?_
            refine o_q (q_fr fo30_0 rfl) rfl rfl rfl ?_
            refine o_q (q_ldm ag3 sz3 rfl (by repeat first | exact Mem.upd_self _ _ _ | assumption | refine Mem.upd_ne (by assumption) ?_) rfl (v_raw rfl)) rfl rfl rfl ?_
            refine o_q (q_bs slt25 (pc (v_raw rfl) pn) rfl (Els.cons rfl rfl Els.nil) (by decide)) rfl rfl rfl ?_
            refine o_qs (q_app slt25 rfl rfl rfl rfl elsI (by first | exact elsI | exact Els.cons rfl rfl Els.nil) (by simp; omega)) rfl rfl rfl rfl ?_
            refine o_qs (q_as_own rfl) rfl rfl rfl rfl ?_
            refine o_nil ?_
            refine s_exit ?_
            refine s_code_exit ?_
            refine s_blk_here ?_
            refine s_region ?_
            refine o_q (q_add rfl rfl (wrap64 (by omega) (by omega))) rfl rfl rfl ?_
            refine o_q (q_mv (v_raw rfl)) rfl rfl rfl ?_
            refine o_nil ?_
            refine s_inv ?_
            have hs := (last_gt (by omega) k3).1 k4
            refine ⟨l.length - (i + 1), by omega, _, _, _, i + 1, St.mkT (kp (kp (kp (kp (kp (kp (kp (kp rfl rfl) rfl) (by show _ = AVal.sl _ true; rw [keepN_succ l upto (by omega), if_neg (by simp [hs]; omega), List.append_nil]; rfl)) (app_map (f := encI) (by rw [goneN_succ l upto (by omega), if_pos (by simp [hs]; omega)]))) rfl) rfl) rfl) rfl).symm, Mem.le_upd (Mem.le_upd hle (Mem.none_of_le hle hB3)) (Mem.none_of_le hle hB3), by repeat first | exact Mem.upd_self _ _ _ | assumption | refine Mem.upd_ne (by assumption) ?_, hkvs, by omega, rfl⟩
          · have k5 := h5; try simp only [decide_eq_true_eq, decide_eq_false_iff_not, Bool.not_eq_true', Bool.not_eq_false', Bool.not_true, Bool.not_false, List.length_map, Decidable.not_not] at k5
            refine s_skip ?_
            refine s_region ?_
            refine o_qs (q_mv_own rfl) rfl rfl rfl rfl ?_
            refine o_q (q_ldmw ag30 sz30 rfl (by repeat first | exact Mem.upd_self _ _ _ | assumption | refine Mem.upd_ne (by assumption) ?_) rfl rfl) rfl rfl rfl ?_
            refine o_q (q_bs slt22 (pc (v_agg rfl) pn) rfl (Els.cons rfl rfl Els.nil) (by decide)) rfl rfl rfl ?_
            refine o_qs (q_app slt22 rfl rfl rfl rfl elsR (by first | exact elsR | exact Els.cons rfl rfl Els.nil) (by simp; omega)) rfl rfl rfl rfl ?_
            refine o_qs (q_as_own rfl) rfl rfl rfl rfl ?_
            refine o_nil ?_
            refine s_blk_normal ?_
            refine s_region ?_
            refine o_q (q_add rfl rfl (wrap64 (by omega) (by omega))) rfl rfl rfl ?_
            refine o_q (q_mv (v_raw rfl)) rfl rfl rfl ?_
            refine o_nil ?_
            refine s_inv ?_
            refine ⟨l.length - (i + 1), by omega, _, _, _, i + 1, St.mkT (kp (kp (kp (kp (kp (kp (kp (kp rfl rfl) rfl) (app_map (by rw [keepN_succ l upto (by omega), if_pos (by simp; right; omega)]))) (by show _ = AVal.sl _ true; rw [goneN_succ l upto (by omega), if_neg (by simp; intro _; omega), List.append_nil]; rfl)) rfl) rfl) rfl) rfl).symm, Mem.le_upd (Mem.le_upd hle (Mem.none_of_le hle hB3)) (Mem.none_of_le hle hB3), by repeat first | exact Mem.upd_self _ _ _ | assumption | refine Mem.upd_ne (by assumption) ?_, hkvs, by omega, rfl⟩
        · have k4 := h4; try simp only [decide_eq_true_eq, decide_eq_false_iff_not, Bool.not_eq_true', Bool.not_eq_false', Bool.not_true, Bool.not_false, List.length_map, Decidable.not_not] at k4
          refine o_no rfl rfl rfl rfl h4 ?_
          refine o_no rfl rfl rfl rfl h4 ?_
          refine o_no rfl rfl rfl rfl h4 ?_
          refine o_q (q_pick_c rfl h4 (v_raw rfl)) rfl rfl rfl ?_
          refine o_nil ?_
          refine s_else rfl rfl ?_
          refine s_skip ?_
          refine s_region ?_
          refine o_qs (q_mv_own rfl) rfl rfl rfl rfl ?_
          refine o_q (q_ldmw ag30 sz30 rfl (by repeat first | exact Mem.upd_self _ _ _ | assumption | refine Mem.upd_ne (by assumption) ?_) rfl rfl) rfl rfl rfl ?_
          refine o_q (q_bs slt22 (pc (v_agg rfl) pn) rfl (Els.cons rfl rfl Els.nil) (by decide)) rfl rfl rfl ?_
          refine o_qs (q_app slt22 rfl rfl rfl rfl elsR (by first | exact elsR | exact Els.cons rfl rfl Els.nil) (by simp; omega)) rfl rfl rfl rfl ?_
          refine o_qs (q_as_own rfl) rfl rfl rfl rfl ?_
          refine o_nil ?_
          refine s_blk_normal ?_
          refine s_region ?_
          refine o_q (q_add rfl rfl (wrap64 (by omega) (by omega))) rfl rfl rfl ?_
          refine o_q (q_mv (v_raw rfl)) rfl rfl rfl ?_
          refine o_nil ?_
          refine s_inv ?_
          have hs : superB l i = false := by rw [Bool.eq_false_iff]; exact fun h => k4 ((last_gt (by omega) k3).2 h)
          refine ⟨l.length - (i + 1), by omega, _, _, _, i + 1, St.mkT (kp (kp (kp (kp (kp (kp (kp (kp rfl rfl) rfl) (app_map (by rw [keepN_succ l upto (by omega), if_pos (by simp [hs])]))) (by show _ = AVal.sl _ true; rw [goneN_succ l upto (by omega), if_neg (by simp [hs]), List.append_nil]; rfl)) rfl) rfl) rfl) rfl).symm, Mem.le_upd (Mem.le_upd hle (Mem.none_of_le hle hB3)) (Mem.none_of_le hle hB3), by repeat first | exact Mem.upd_self _ _ _ | assumption | refine Mem.upd_ne (by assumption) ?_, hkvs, by omega, rfl⟩
      · have k3 := h3; try simp only [decide_eq_true_eq, decide_eq_false_iff_not, Bool.not_eq_true', Bool.not_eq_false', Bool.not_true, Bool.not_false, List.length_map, Decidable.not_not] at k3
        refine o_no rfl rfl rfl rfl h3 ?_
        refine o_no rfl rfl rfl rfl h3 ?_
        refine o_no rfl rfl rfl rfl h3 ?_
        refine o_no rfl rfl rfl rfl h3 ?_
        refine o_no rfl rfl rfl rfl h3 ?_
        refine o_q (q_pick_c rfl h3 (v_raw rfl)) rfl rfl rfl ?_
        refine o_q (q_mv (v_raw rfl)) rfl rfl rfl ?_
        refine o_no rfl rfl rfl rfl rfl ?_
        refine o_no rfl rfl rfl rfl rfl ?_
        refine o_no rfl rfl rfl rfl rfl ?_
        refine o_no rfl rfl rfl rfl rfl ?_
        refine o_q (q_pick_c rfl rfl (v_raw rfl)) rfl rfl rfl ?_
        refine o_nil ?_
        refine s_else rfl rfl ?_
        refine s_skip ?_
        refine s_region ?_
        refine o_qs (q_mv_own rfl) rfl rfl rfl rfl ?_
        refine o_q (q_ldmw ag30 sz30 rfl (by repeat first | exact Mem.upd_self _ _ _ | assumption | refine Mem.upd_ne (by assumption) ?_) rfl rfl) rfl rfl rfl ?_
        refine o_q (q_bs slt22 (pc (v_agg rfl) pn) rfl (Els.cons rfl rfl Els.nil) (by decide)) rfl rfl rfl ?_
        refine o_qs (q_app slt22 rfl rfl rfl rfl elsR (by first | exact elsR | exact Els.cons rfl rfl Els.nil) (by simp; omega)) rfl rfl rfl rfl ?_
        refine o_qs (q_as_own rfl) rfl rfl rfl rfl ?_
        refine o_nil ?_
        refine s_blk_normal ?_
        refine s_region ?_
        refine o_q (q_add rfl rfl (wrap64 (by omega) (by omega))) rfl rfl rfl ?_
        refine o_q (q_mv (v_raw rfl)) rfl rfl rfl ?_
        refine o_nil ?_
        refine s_inv ?_
        have hs : superB l i = false := by rw [Bool.eq_false_iff]; exact fun h => ((superB_iff (by omega)).1 h).1 k3
        refine ⟨l.length - (i + 1), by omega, _, _, _, i + 1, St.mkT (kp (kp (kp (kp (kp (kp (kp (kp rfl rfl) rfl) (app_map (by rw [keepN_succ l upto (by omega), if_pos (by simp [hs])]))) (by show _ = AVal.sl _ true; rw [goneN_succ l upto (by omega), if_neg (by simp [hs]), List.append_nil]; rfl)) rfl) rfl) rfl) rfl).symm, Mem.le_upd (Mem.le_upd hle (Mem.none_of_le hle hB3)) (Mem.none_of_le hle hB3), by repeat first | exact Mem.upd_self _ _ _ | assumption | refine Mem.upd_ne (by assumption) ?_, hkvs, by omega, rfl⟩
    · have k2 := h2; try simp only [decide_eq_true_eq, decide_eq_false_iff_not, Bool.not_eq_true', Bool.not_eq_false', Bool.not_true, Bool.not_false, List.length_map, Decidable.not_not] at k2
      refine s_exit ?_
      refine s_code_exit ?_
      refine s_inv_exit ?_
      refine s_blk_here ?_
      refine s_seq ?_
      refine s_region ?_
      refine o_qs (q_mv_own rfl) rfl rfl rfl rfl ?_
      refine o_qs (q_mv_own rfl) rfl rfl rfl rfl ?_
      refine o_qs (q_as_own rfl) rfl rfl rfl rfl ?_
      refine o_qs (q_as_own rfl) rfl rfl rfl rfl ?_
      refine o_nil ?_
      refine s_ret ?_
      refine s_end ?_
      have hil : i = l.length := by omega
      subst hil
      exact ⟨rfl, hle⟩

def tk9 : Nat → Nat → Option Nat := fun _ _ => none
def pl9 : Nat → List PStep
  | 6 => [.q 0, .q 1, .q 2, .q 3, .q 4, .q 5, .q 6, .q 7, .q 8]
  | _ => []
theorem cb9 : Try.f9.body.map (codeB Try.prog Try.f9.ntmps tk9 pl9) = some true := by kernel_rfl
theorem goes9 : goesB Try.prog 9 = true := by kernel_rfl
-- carillon/carillonlaw08.records params ['[]api.Record', '[]api.Record'] results [['t', 4]] own [] names ['0:a', '1:b', '2:a', '3:b', '5:i'] calls [] paths 4
theorem snd9 (a b : List Rec) (o1 o2 : Bool) (M : Mem) (hl : a.length < 2 ^ 42) : SoundCall Try.prog 9 [.sl (a.map enc) o1, .sl (b.map enc) o2] M fun r M' => r = .raw (.bool (decide (a = b))) ∧ M' = M := by
  refine SoundCall.go tk9 pl9 mixed Try.func9 cb9 rfl (Nat.le_of_ble_eq_true rfl) ?_
  refine s_seq ?_
  refine s_region ?_
  refine o_q (q_as (v_raw rfl)) rfl rfl rfl ?_
  refine o_nil ?_
  refine s_seq ?_
  refine s_seq ?_
  refine s_region ?_
  refine o_q (q_mv (v_sl rfl)) rfl rfl rfl ?_
  refine o_q (q_len rfl und22 rfl) rfl rfl rfl ?_
  refine o_q (q_mv (v_sl rfl)) rfl rfl rfl ?_
  refine o_q (q_len rfl und22 rfl) rfl rfl rfl ?_
  refine o_q (q_neq rfl rfl) rfl rfl rfl ?_
  refine o_nil ?_
  refine s_cond rfl (fun h1 => ?_) (fun h1 => ?_)
  · have k1 := h1; try simp only [decide_eq_true_eq, decide_eq_false_iff_not, Bool.not_eq_true', Bool.not_eq_false', Bool.not_true, Bool.not_false, List.length_map, Decidable.not_not] at k1
    refine s_seq ?_
    refine s_region ?_
    refine o_q (q_as (v_raw rfl)) rfl rfl rfl ?_
    refine o_nil ?_
    refine s_ret ?_
    refine s_code_ret ?_
    refine s_end ?_
    refine ⟨?_, rfl⟩
    have hn : a ≠ b := fun e => by simp [e] at k1
    rw [decide_eq_false hn]; rfl
  · have k1 := h1; try simp only [decide_eq_true_eq, decide_eq_false_iff_not, Bool.not_eq_true', Bool.not_eq_false', Bool.not_true, Bool.not_false, List.length_map, Decidable.not_not] at k1
    refine s_skip ?_
    refine s_seq ?_
    refine s_seq ?_
    refine s_region ?_
    refine o_q (q_as (v_raw rfl)) rfl rfl rfl ?_
    refine o_nil ?_
    refine s_block ?_
    refine s_loop (fun m S => ∃ T, ∃ i : Nat, S = ⟨setT (setT (setT T 0 (.sl (a.map enc) o1)) 1 (.sl (b.map enc) o2)) 5 (.raw (.int .i64 i)), M⟩ ∧ i ≤ a.length ∧ m = a.length - i ∧ ∀ j < i, a[j]? = b[j]?) a.length ?_ ?_
    · exact ⟨_, 0, St.mkT (kp (kp (kp rfl rfl) rfl) rfl).symm, by omega, by omega, by simp⟩
    rintro m S ⟨T, i, rfl, hi, rfl, hj⟩
    have hlen : a.length = b.length := by omega
    refine s_seq ?_
    refine s_seq ?_
    refine s_region ?_
    refine o_q (q_mv (v_raw rfl)) rfl rfl rfl ?_
    refine o_q (q_mv (v_sl rfl)) rfl rfl rfl ?_
    refine o_q (q_len rfl und22 rfl) rfl rfl rfl ?_
    refine o_q (q_lss rfl rfl) rfl rfl rfl ?_
    refine o_nil ?_
    refine s_cond rfl (fun h2 => ?_) (fun h2 => ?_)
    · have k2 := h2; try simp only [decide_eq_true_eq, decide_eq_false_iff_not, Bool.not_eq_true', Bool.not_eq_false', Bool.not_true, Bool.not_false, List.length_map, Decidable.not_not] at k2
      refine s_skip ?_
      refine s_seq ?_
      refine s_block ?_
      refine s_seq ?_
      refine s_draw _ rfl ?_
      refine d_q rfl (q_mv (v_sl rfl)) rfl rfl rfl ?_
      refine d_q rfl (q_mv (v_raw rfl)) rfl rfl rfl ?_
      refine d_q rfl (q_idx und22 sz30 rfl rfl (by omega) (gm i (by first | omega | simp)) rfl) rfl rfl rfl ?_
      refine d_q rfl (q_lde ag30 sz30 rfl (gm i (by first | omega | simp)) rfl rfl) rfl rfl rfl ?_
      refine d_q rfl (q_mv (v_sl rfl)) rfl rfl rfl ?_
      refine d_q rfl (q_mv (v_raw rfl)) rfl rfl rfl ?_
      refine d_q rfl (q_idx und22 sz30 rfl rfl (by omega) (gm i (by first | omega | simp)) rfl) rfl rfl rfl ?_
      refine d_q rfl (q_lde ag30 sz30 rfl (gm i (by first | omega | simp)) rfl rfl) rfl rfl rfl ?_
      refine d_q rfl (q_bin' rfl rfl (binNeq _ _ _ _)) rfl rfl rfl ?_
      refine d_nil ?_
      refine s_cond rfl (fun h3 => ?_) (fun h3 => ?_)
      · have k3 := h3; try simp only [decide_eq_true_eq, decide_eq_false_iff_not, Bool.not_eq_true', Bool.not_eq_false', Bool.not_true, Bool.not_false, List.length_map, Decidable.not_not] at k3
        refine s_seq ?_
        refine s_region ?_
        refine o_q (q_as (v_raw rfl)) rfl rfl rfl ?_
        refine o_nil ?_
        refine s_ret ?_
        refine s_blk_ret ?_
        refine s_code_ret ?_
        refine s_inv_ret ?_
        refine s_blk_ret ?_
        refine s_code_ret ?_
        refine s_end ?_
        refine ⟨?_, rfl⟩
        have hn : a ≠ b := fun e => by subst e; simp at k3
        rw [decide_eq_false hn]; rfl
      · have k3 := h3; try simp only [decide_eq_true_eq, decide_eq_false_iff_not, Bool.not_eq_true', Bool.not_eq_false', Bool.not_true, Bool.not_false, List.length_map, Decidable.not_not] at k3
        refine s_skip ?_
        refine s_blk_normal ?_
        refine s_region ?_
        refine o_q (q_mv (v_raw rfl)) rfl rfl rfl ?_
        refine o_q (q_add rfl rfl (wrap64 (by omega) (by omega))) rfl rfl rfl ?_
        refine o_q (q_as (v_raw rfl)) rfl rfl rfl ?_
        refine o_nil ?_
        refine s_inv ?_
        refine ⟨a.length - (i + 1), by omega, _, i + 1, St.mkT (kp (kp (kp rfl rfl) rfl) rfl).symm, by omega, rfl, fun j hj' => ?_⟩
        rcases Nat.lt_or_ge j i with h4 | h4
        · exact hj j h4
        · have : j = i := by omega
          subst this
          rw [List.getElem?_eq_getElem (by omega), List.getElem?_eq_getElem (by omega), k3]
    · have k2 := h2; try simp only [decide_eq_true_eq, decide_eq_false_iff_not, Bool.not_eq_true', Bool.not_eq_false', Bool.not_true, Bool.not_false, List.length_map, Decidable.not_not] at k2
      refine s_exit ?_
      refine s_code_exit ?_
      refine s_inv_exit ?_
      refine s_blk_here ?_
      refine s_seq ?_
      refine s_region ?_
      refine o_q (q_as (v_raw rfl)) rfl rfl rfl ?_
      refine o_nil ?_
      refine s_ret ?_
      refine s_end ?_
      refine ⟨?_, rfl⟩
      have hn : a = b := by
        refine List.ext_getElem? fun j => ?_
        rcases Nat.lt_or_ge j i with h4 | h4
        · exact hj j h4
        · rw [List.getElem?_eq_none (by omega), List.getElem?_eq_none (by omega)]
      rw [decide_eq_true hn]; rfl

def tk11 : Nat → Nat → Option Nat := fun _ _ => none
def pl11 : Nat → List PStep := fun _ => []
theorem cb11 : Try.f11.body.map (codeB Try.prog Try.f11.ntmps tk11 pl11) = some true := by kernel_rfl
theorem goes11 : goesB Try.prog 11 = true := by kernel_rfl
-- carillon/carillonlaw08.rec params ['int', 'string'] results [['cell', 4, 30]] own [] names ['0:n', '1:key', '2:n', '3:key'] calls [] paths 1
theorem snd11 (n : Int) (key : ByteArray) (M : Mem) : SoundCall Try.prog 11 [.raw (.int .i64 n), .raw (.string key)] M fun r M' => r = enc ⟨n, emp, 0, key, emp⟩ ∧ M.le M' := by
  refine SoundCall.go tk11 pl11 mixed Try.func11 cb11 rfl (Nat.le_of_ble_eq_true rfl) ?_
  refine s_seq ?_
  refine s_region ?_
  refine o_alloc zc30 (fun B1 hB1 => ?_)
  refine o_nil ?_
  refine s_seq ?_
  refine s_region ?_
  refine o_q (q_mv (v_raw rfl)) rfl rfl rfl ?_
  refine o_q (q_mv (v_raw rfl)) rfl rfl rfl ?_
  refine o_q (q_b (cs := [_, .raw (.string { data := #[] }), .raw (.int .i64 0), _, .raw (.string { data := #[] })]) bz30 bp30 (bf fo30_0 (e_raw rfl) rfl rfl (Nat.le_of_ble_eq_true rfl) rfl (bf fo30_3 (e_raw rfl) rfl rfl (Nat.le_of_ble_eq_true rfl) rfl bf_nil))) rfl rfl rfl ?_
  refine o_storew rfl (by repeat first | exact Mem.upd_self _ _ _ | assumption | refine Mem.upd_ne (by assumption) ?_) (by first | exact e_agg rfl | rfl) rfl sz30 rfl rfl rfl rfl ?_
  refine o_nil ?_
  refine s_ret ?_
  refine s_end ?_
  exact ret_cell (.inl rfl) rfl rfl (Mem.upd_self _ _ _) (loadP_w ag30 sz30 rfl rfl) ⟨rfl, Mem.le_upd (Mem.le_upd (Mem.le_refl M) hB1) hB1⟩

def tk6 : Nat → Nat → Option Nat := fun _ _ => none
def pl6 : Nat → List PStep := fun _ => []
theorem cb6 : Try.f6.body.map (codeB Try.prog Try.f6.ntmps tk6 pl6) = some true := by kernel_rfl
theorem goes6 : goesB Try.prog 6 = true := by kernel_rfl
-- carillon/compact.Keep params ['[]api.Record', 'int'] results [['t', 4]] own [] names ['0:l', '1:upto', '2:l', '3:upto', '5:stay', '6:_'] calls [12] paths 1
theorem snd6 (l : List Rec) (upto : Int) (o : Bool) (M : Mem) (hl : l.length * 64 ≤ 2 ^ 47) : SoundCall Try.prog 6 [.sl (l.map enc) o, .raw (.int .i64 upto)] M fun r M' => r = .sl ((keepN l upto l.length).map enc) false ∧ M' = M := by
  refine SoundCall.go tk6 pl6 mixed Try.func6 cb6 rfl (Nat.le_of_ble_eq_true rfl) ?_
  refine s_seq ?_
  refine s_region ?_
  refine o_q (q_as (v_sl rfl)) rfl rfl rfl ?_
  refine o_nil ?_
  refine s_seq ?_
  refine s_region ?_
  refine o_q (q_mv (v_sl rfl)) rfl rfl rfl ?_
  refine o_q (q_mv (v_raw rfl)) rfl rfl rfl ?_
  refine o_call ((snd12 l upto false M hl).det) goes12 (ac (v_sl rfl) (ac (v_raw rfl) ac_nil)) rfl ?_
  refine o_q (q_mv (v_tup rfl)) rfl rfl rfl ?_
  refine o_q (q_ext rfl rfl (v_sl rfl)) rfl rfl rfl ?_
  refine o_q (q_ext rfl rfl (v_sl rfl)) rfl rfl rfl ?_
  refine o_q (q_as (v_sl rfl)) rfl rfl rfl ?_
  refine o_q (q_as (v_sl rfl)) rfl rfl rfl ?_
  refine o_nil ?_
  refine s_seq ?_
  refine s_region ?_
  refine o_q (q_mv (v_sl rfl)) rfl rfl rfl ?_
  refine o_q (q_as (v_sl rfl)) rfl rfl rfl ?_
  refine o_nil ?_
  refine s_ret ?_
  refine s_end ?_
  exact ⟨rfl, rfl⟩

def tk7 : Nat → Nat → Option Nat := fun _ _ => none
def pl7 : Nat → List PStep := fun _ => []
theorem cb7 : Try.f7.body.map (codeB Try.prog Try.f7.ntmps tk7 pl7) = some true := by kernel_rfl
theorem goes7 : goesB Try.prog 7 = true := by kernel_rfl
-- carillon/compact.Gone params ['[]api.Record', 'int'] results [['t', 4]] own [] names ['0:l', '1:upto', '2:l', '3:upto', '5:_', '6:gone'] calls [12] paths 1
theorem snd7 (l : List Rec) (upto : Int) (o : Bool) (M : Mem) (hl : l.length * 64 ≤ 2 ^ 47) : SoundCall Try.prog 7 [.sl (l.map enc) o, .raw (.int .i64 upto)] M fun r M' => r = .sl ((goneN l upto l.length).map encI) false ∧ M' = M := by
  refine SoundCall.go tk7 pl7 mixed Try.func7 cb7 rfl (Nat.le_of_ble_eq_true rfl) ?_
  refine s_seq ?_
  refine s_region ?_
  refine o_q (q_as (v_sl rfl)) rfl rfl rfl ?_
  refine o_nil ?_
  refine s_seq ?_
  refine s_region ?_
  refine o_q (q_mv (v_sl rfl)) rfl rfl rfl ?_
  refine o_q (q_mv (v_raw rfl)) rfl rfl rfl ?_
  refine o_call ((snd12 l upto false M hl).det) goes12 (ac (v_sl rfl) (ac (v_raw rfl) ac_nil)) rfl ?_
  refine o_q (q_mv (v_tup rfl)) rfl rfl rfl ?_
  refine o_q (q_ext rfl rfl (v_sl rfl)) rfl rfl rfl ?_
  refine o_q (q_ext rfl rfl (v_sl rfl)) rfl rfl rfl ?_
  refine o_q (q_as (v_sl rfl)) rfl rfl rfl ?_
  refine o_q (q_as (v_sl rfl)) rfl rfl rfl ?_
  refine o_nil ?_
  refine s_seq ?_
  refine s_region ?_
  refine o_q (q_mv (v_sl rfl)) rfl rfl rfl ?_
  refine o_q (q_as (v_sl rfl)) rfl rfl rfl ?_
  refine o_nil ?_
  refine s_ret ?_
  refine s_end ?_
  exact ⟨rfl, rfl⟩

def tk5 : Nat → Nat → Option Nat := fun _ _ => none
def pl5 : Nat → List PStep := fun _ => []
theorem cb5 : Try.f5.body.map (codeB Try.prog Try.f5.ntmps tk5 pl5) = some true := by kernel_rfl
theorem goes5 : goesB Try.prog 5 = true := by kernel_rfl
-- carillon/carillonlaw08.examples params [] results [['t', 0]] own [] names ['1:l', '2:a', '3:b', '4:c'] calls [6, 7, 11] paths 1

def bA : ByteArray := { data := #[97] }
def bB : ByteArray := { data := #[98] }
def exL : List Rec := [⟨0, emp, 0, bA, emp⟩, ⟨1, emp, 0, bB, emp⟩, ⟨2, emp, 0, bA, emp⟩]
def exM : List Rec := [⟨0, emp, 0, bA, emp⟩, ⟨1, emp, 0, bA, emp⟩, ⟨2, emp, 0, bA, emp⟩]
theorem ex6 (M : Mem) : SoundCall Try.prog 6 [.sl (exL.map enc) false, .raw (.int .i64 9)] M fun r M' => r = .sl (([⟨1, emp, 0, bB, emp⟩, ⟨2, emp, 0, bA, emp⟩] : List Rec).map enc) false ∧ M' = M := by
  have h := snd6 exL 9 false M (by decide)
  rw [show keepN exL 9 exL.length = [⟨1, emp, 0, bB, emp⟩, ⟨2, emp, 0, bA, emp⟩] from by kernel_rfl] at h
  exact h
theorem ex7 (M : Mem) : SoundCall Try.prog 7 [.sl (exL.map enc) false, .raw (.int .i64 9)] M fun r M' => r = .sl (([0] : List Int).map encI) false ∧ M' = M := by
  have h := snd7 exL 9 false M (by decide)
  rw [show goneN exL 9 exL.length = [0] from by kernel_rfl] at h
  exact h
theorem ex6' (M : Mem) : SoundCall Try.prog 6 [.sl (exM.map enc) false, .raw (.int .i64 1)] M fun r M' => r = .sl (([⟨1, emp, 0, bA, emp⟩, ⟨2, emp, 0, bA, emp⟩] : List Rec).map enc) false ∧ M' = M := by
  have h := snd6 exM 1 false M (by decide)
  rw [show keepN exM 1 exM.length = [⟨1, emp, 0, bA, emp⟩, ⟨2, emp, 0, bA, emp⟩] from by kernel_rfl] at h
  exact h
theorem snd5 (M : Mem) : SoundCall Try.prog 5 [] M fun r M' => r = .raw (.bool true) ∧ M' = M := by
  refine SoundCall.go tk5 pl5 mixed Try.func5 cb5 rfl (Nat.le_of_ble_eq_true rfl) ?_
  refine s_seq ?_
  refine s_region ?_
  refine o_q (q_as (v_raw rfl)) rfl rfl rfl ?_
  refine o_nil ?_
  refine s_seq ?_
  refine s_region ?_
  refine o_call ((snd11 _ _ _).det) goes11 (ac (v_raw rfl) (ac (v_raw rfl) ac_nil)) rfl ?_
  refine o_call ((snd11 _ _ _).det) goes11 (ac (v_raw rfl) (ac (v_raw rfl) ac_nil)) rfl ?_
  refine o_call ((snd11 _ _ _).det) goes11 (ac (v_raw rfl) (ac (v_raw rfl) ac_nil)) rfl ?_
  refine o_q (q_bs slt22 (pc (v_agg rfl) (pc (v_agg rfl) (pc (v_agg rfl) pn))) rfl (Els.cons rfl rfl (Els.cons rfl rfl (Els.cons rfl rfl Els.nil))) (by decide)) rfl rfl rfl ?_
  refine o_q (q_as (v_sl rfl)) rfl rfl rfl ?_
  refine o_nil ?_
  refine s_seq ?_
  refine s_region ?_
  refine o_q (q_mv (v_sl rfl)) rfl rfl rfl ?_
  refine o_call (ex6 M) goes6 (ac (v_sl rfl) (ac (v_raw rfl) ac_nil)) rfl ?_
  refine o_q (q_as (v_sl rfl)) rfl rfl rfl ?_
  refine o_nil ?_
  refine s_seq ?_
  refine s_region ?_
  refine o_q (q_mv (v_sl rfl)) rfl rfl rfl ?_
  refine o_call (ex7 M) goes7 (ac (v_sl rfl) (ac (v_raw rfl) ac_nil)) rfl ?_
  refine o_q (q_as (v_sl rfl)) rfl rfl rfl ?_
  refine o_nil ?_
  refine s_seq ?_
  refine s_region ?_
  refine o_call ((snd11 _ _ _).det) goes11 (ac (v_raw rfl) (ac (v_raw rfl) ac_nil)) rfl ?_
  refine o_call ((snd11 _ _ _).det) goes11 (ac (v_raw rfl) (ac (v_raw rfl) ac_nil)) rfl ?_
  refine o_call ((snd11 _ _ _).det) goes11 (ac (v_raw rfl) (ac (v_raw rfl) ac_nil)) rfl ?_
  refine o_q (q_bs slt22 (pc (v_agg rfl) (pc (v_agg rfl) (pc (v_agg rfl) pn))) rfl (Els.cons rfl rfl (Els.cons rfl rfl (Els.cons rfl rfl Els.nil))) (by decide)) rfl rfl rfl ?_
  refine o_call (ex6' M) goes6 (ac (v_sl rfl) (ac (v_raw rfl) ac_nil)) rfl ?_
  refine o_q (q_as (v_sl rfl)) rfl rfl rfl ?_
  refine o_nil ?_
  refine s_seq ?_
  refine s_region ?_
  refine o_q (q_mv (v_sl rfl)) rfl rfl rfl ?_
  refine o_q (q_len rfl und22 rfl) rfl rfl rfl ?_
  refine o_q (q_eql rfl rfl) rfl rfl rfl ?_
  refine o_q (q_mv (v_raw rfl)) rfl rfl rfl ?_
  refine o_guard rfl rfl rfl rfl (fun h1 => ?_) (fun h1 => ?_)
  · have k1 := h1; try simp only [decide_eq_true_eq, decide_eq_false_iff_not, Bool.not_eq_true', Bool.not_eq_false', Bool.not_true, Bool.not_false, List.length_map, Decidable.not_not] at k1
    refine o_q (q_mv (v_sl rfl)) rfl rfl rfl ?_
    refine o_yes rfl rfl rfl h1 ?_
    refine o_q (q_idx und22 sz30 rfl rfl (by omega) (gm 0 (by first | omega | simp)) rfl) rfl rfl rfl ?_
    refine o_yes rfl rfl rfl h1 ?_
    refine o_q (q_f fo30_0 rfl) rfl rfl rfl ?_
    refine o_yes rfl rfl rfl h1 ?_
    refine o_q (q_ld ag3 sz3 rfl (gm 0 (by first | omega | simp)) rfl (v_raw rfl)) rfl rfl rfl ?_
    refine o_yes rfl rfl rfl h1 ?_
    refine o_q (q_eql rfl rfl) rfl rfl rfl ?_
    refine o_q (q_pick_c rfl h1 (v_raw rfl)) rfl rfl rfl ?_
    refine o_q (q_mv (v_raw rfl)) rfl rfl rfl ?_
    refine o_guard rfl rfl rfl rfl (fun h2 => ?_) (fun h2 => ?_)
    · have k2 := h2; try simp only [decide_eq_true_eq, decide_eq_false_iff_not, Bool.not_eq_true', Bool.not_eq_false', Bool.not_true, Bool.not_false, List.length_map, Decidable.not_not] at k2
      refine o_q (q_mv (v_sl rfl)) rfl rfl rfl ?_
      refine o_yes rfl rfl rfl h2 ?_
      refine o_q (q_len rfl und25 rfl) rfl rfl rfl ?_
      refine o_yes rfl rfl rfl h2 ?_
      refine o_q (q_eql rfl rfl) rfl rfl rfl ?_
      refine o_q (q_pick_c rfl h2 (v_raw rfl)) rfl rfl rfl ?_
      refine o_q (q_mv (v_raw rfl)) rfl rfl rfl ?_
      refine o_guard rfl rfl rfl rfl (fun h3 => ?_) (fun h3 => ?_)
      · have k3 := h3; try simp only [decide_eq_true_eq, decide_eq_false_iff_not, Bool.not_eq_true', Bool.not_eq_false', Bool.not_true, Bool.not_false, List.length_map, Decidable.not_not] at k3
        refine o_q (q_mv (v_sl rfl)) rfl rfl rfl ?_
        refine o_yes rfl rfl rfl h3 ?_
        refine o_q (q_idx und25 sz3 rfl rfl (by omega) (gm 0 (by first | omega | simp)) rfl) rfl rfl rfl ?_
        refine o_yes rfl rfl rfl h3 ?_
        refine o_q (q_ld ag3 sz3 rfl (gm 0 (by first | omega | simp)) rfl (v_raw rfl)) rfl rfl rfl ?_
        refine o_yes rfl rfl rfl h3 ?_
        refine o_q (q_eql rfl rfl) rfl rfl rfl ?_
        refine o_q (q_pick_c rfl h3 (v_raw rfl)) rfl rfl rfl ?_
        refine o_q (q_mv (v_raw rfl)) rfl rfl rfl ?_
        refine o_guard rfl rfl rfl rfl (fun h4 => ?_) (fun h4 => ?_)
        · have k4 := h4; try simp only [decide_eq_true_eq, decide_eq_false_iff_not, Bool.not_eq_true', Bool.not_eq_false', Bool.not_true, Bool.not_false, List.length_map, Decidable.not_not] at k4
          refine o_q (q_mv (v_sl rfl)) rfl rfl rfl ?_
          refine o_yes rfl rfl rfl h4 ?_
          refine o_q (q_len rfl und22 rfl) rfl rfl rfl ?_
          refine o_yes rfl rfl rfl h4 ?_
          refine o_q (q_eql rfl rfl) rfl rfl rfl ?_
          refine o_q (q_pick_c rfl h4 (v_raw rfl)) rfl rfl rfl ?_
          refine o_q (q_mv (v_raw rfl)) rfl rfl rfl ?_
          refine o_guard rfl rfl rfl rfl (fun h5 => ?_) (fun h5 => ?_)
          · have k5 := h5; try simp only [decide_eq_true_eq, decide_eq_false_iff_not, Bool.not_eq_true', Bool.not_eq_false', Bool.not_true, Bool.not_false, List.length_map, Decidable.not_not] at k5
            refine o_q (q_mv (v_sl rfl)) rfl rfl rfl ?_
            refine o_yes rfl rfl rfl h5 ?_
            refine o_q (q_idx und22 sz30 rfl rfl (by omega) (gm 0 (by first | omega | simp)) rfl) rfl rfl rfl ?_
            refine o_yes rfl rfl rfl h5 ?_
            refine o_q (q_f fo30_0 rfl) rfl rfl rfl ?_
            refine o_yes rfl rfl rfl h5 ?_
            refine o_q (q_ld ag3 sz3 rfl (gm 0 (by first | omega | simp)) rfl (v_raw rfl)) rfl rfl rfl ?_
            refine o_yes rfl rfl rfl h5 ?_
            refine o_q (q_eql rfl rfl) rfl rfl rfl ?_
            refine o_q (q_pick_c rfl h5 (v_raw rfl)) rfl rfl rfl ?_
            refine o_q (q_as (v_raw rfl)) rfl rfl rfl ?_
            refine o_nil ?_
            refine s_ret ?_
            refine s_end ?_
            exact ⟨rfl, rfl⟩
          · have k5 := h5; try simp only [decide_eq_true_eq, decide_eq_false_iff_not, Bool.not_eq_true', Bool.not_eq_false', Bool.not_true, Bool.not_false, List.length_map, Decidable.not_not] at k5
            first | exact absurd h5 (by decide) | (simp at h5; done) | (simp at h5; omega)
        · have k4 := h4; try simp only [decide_eq_true_eq, decide_eq_false_iff_not, Bool.not_eq_true', Bool.not_eq_false', Bool.not_true, Bool.not_false, List.length_map, Decidable.not_not] at k4
          first | exact absurd h4 (by decide) | (simp at h4; done) | (simp at h4; omega)
      · have k3 := h3; try simp only [decide_eq_true_eq, decide_eq_false_iff_not, Bool.not_eq_true', Bool.not_eq_false', Bool.not_true, Bool.not_false, List.length_map, Decidable.not_not] at k3
        first | exact absurd h3 (by decide) | (simp at h3; done) | (simp at h3; omega)
    · have k2 := h2; try simp only [decide_eq_true_eq, decide_eq_false_iff_not, Bool.not_eq_true', Bool.not_eq_false', Bool.not_true, Bool.not_false, List.length_map, Decidable.not_not] at k2
      first | exact absurd h2 (by decide) | (simp at h2; done) | (simp at h2; omega)
  · have k1 := h1; try simp only [decide_eq_true_eq, decide_eq_false_iff_not, Bool.not_eq_true', Bool.not_eq_false', Bool.not_true, Bool.not_false, List.length_map, Decidable.not_not] at k1
    first | exact absurd h1 (by decide) | (simp at h1; done) | (simp at h1; omega)

def tk3 : Nat → Nat → Option Nat := fun _ _ => none
def pl3 : Nat → List PStep
  | 13 => [.q 0, .q 1, .q 2, .q 3, .q 4, .q 5, .q 6, .q 7, .q 8]
  | _ => []
theorem cb3 : Try.f3.body.map (codeB Try.prog Try.f3.ntmps tk3 pl3) = some true := by kernel_rfl
theorem goes3 : goesB Try.prog 3 = true := by kernel_rfl
-- carillon/carillonlaw08.CompactKeeps params ['[]api.Record', 'int'] results [['t', 4]] own [] names ['0:l', '1:upto', '2:l', '3:upto', '5:head', '6:own', '7:a', '8:b', '9:c', '10:one', '11:stays', '12:i'] calls [5, 6, 7, 8, 9, 10] paths 2

theorem same9 (a : List Rec) (o1 o2 : Bool) (M : Mem) (hl : a.length < 2 ^ 42) : SoundCall Try.prog 9 [.sl (a.map enc) o1, .sl (a.map enc) o2] M fun r M' => r = .raw (.bool true) ∧ M' = M := by
  have h := snd9 a a o1 o2 M hl
  rw [decide_eq_true rfl] at h
  exact h
theorem snd3 (l : List Rec) (upto : Int) (o : Bool) (M : Mem) (hl : l.length * 64 ≤ 2 ^ 47) : SoundCall Try.prog 3 [.sl (l.map enc) o, .raw (.int .i64 upto)] M fun r M' => r = .raw (.bool true) ∧ M' = M := by
  have hkl := keepN_len l upto l.length
  have hgl := goneN_len l upto l.length
  refine SoundCall.go tk3 pl3 mixed Try.func3 cb3 rfl (Nat.le_of_ble_eq_true rfl) ?_
  refine s_seq ?_
  refine s_region ?_
  refine o_q (q_as (v_raw rfl)) rfl rfl rfl ?_
  refine o_nil ?_
  refine s_seq ?_
  refine s_region ?_
  refine o_call (snd5 M) goes5 ac_nil rfl ?_
  refine o_q (q_as (v_raw rfl)) rfl rfl rfl ?_
  refine o_nil ?_
  refine s_seq ?_
  refine s_region ?_
  refine o_q (q_mv (v_sl rfl)) rfl rfl rfl ?_
  refine o_q (q_app_nil slt22 rfl rfl rfl elsR (by simp; omega)) rfl rfl rfl ?_
  refine o_q (q_as (v_sl rfl)) rfl rfl rfl ?_
  refine o_nil ?_
  refine s_seq ?_
  refine s_region ?_
  refine o_q (q_mv (v_sl rfl)) rfl rfl rfl ?_
  refine o_q (q_mv (v_raw rfl)) rfl rfl rfl ?_
  refine o_call (snd6 l upto false M (by omega)) goes6 (ac (v_sl rfl) (ac (v_raw rfl) ac_nil)) rfl ?_
  refine o_q (q_as (v_sl rfl)) rfl rfl rfl ?_
  refine o_nil ?_
  refine s_seq ?_
  refine s_region ?_
  refine o_q (q_mv (v_sl rfl)) rfl rfl rfl ?_
  refine o_q (q_mv (v_raw rfl)) rfl rfl rfl ?_
  refine o_call (snd7 l upto false M (by omega)) goes7 (ac (v_sl rfl) (ac (v_raw rfl) ac_nil)) rfl ?_
  refine o_q (q_as (v_sl rfl)) rfl rfl rfl ?_
  refine o_nil ?_
  refine s_seq ?_
  refine s_region ?_
  refine o_q (q_mv (v_sl rfl)) rfl rfl rfl ?_
  refine o_q (q_mv (v_raw rfl)) rfl rfl rfl ?_
  refine o_call (snd8 l upto false M (by omega)) goes8 (ac (v_sl rfl) (ac (v_raw rfl) ac_nil)) rfl ?_
  refine o_q (q_as (v_sl rfl)) rfl rfl rfl ?_
  refine o_nil ?_
  refine s_seq ?_
  refine s_region ?_
  refine o_q (q_mv (v_sl rfl)) rfl rfl rfl ?_
  refine o_q (q_mv (v_sl rfl)) rfl rfl rfl ?_
  refine o_q (q_mv (v_raw rfl)) rfl rfl rfl ?_
  refine o_call (snd10 l upto false M (by omega)) goes10 (ac (v_sl rfl) (ac (v_raw rfl) ac_nil)) rfl ?_
  refine o_call (same9 (keepN l upto l.length) false false M (by omega)) goes9 (ac (v_sl rfl) (ac (v_sl rfl) ac_nil)) rfl ?_
  refine o_q (q_as (v_raw rfl)) rfl rfl rfl ?_
  refine o_nil ?_
  refine s_seq ?_
  refine s_region ?_
  refine o_q (q_mv (v_sl rfl)) rfl rfl rfl ?_
  refine o_q (q_mv (v_sl rfl)) rfl rfl rfl ?_
  refine o_call (same9 l false false M (by omega)) goes9 (ac (v_sl rfl) (ac (v_sl rfl) ac_nil)) rfl ?_
  refine o_q (q_as (v_raw rfl)) rfl rfl rfl ?_
  refine o_nil ?_
  refine s_seq ?_
  refine s_seq ?_
  refine s_region ?_
  refine o_q (q_mv (v_raw rfl)) rfl rfl rfl ?_
  refine o_q (q_not rfl) rfl rfl rfl ?_
  refine o_q (q_mv (v_raw rfl)) rfl rfl rfl ?_
  refine o_guard rfl rfl rfl rfl (fun h1 => ?_) (fun h1 => ?_)
  · have k1 := h1; try simp only [decide_eq_true_eq, decide_eq_false_iff_not, Bool.not_eq_true', Bool.not_eq_false', Bool.not_true, Bool.not_false, List.length_map, Decidable.not_not] at k1
    refine o_q (q_mv (v_raw rfl)) rfl rfl rfl ?_
    refine o_yes rfl rfl rfl h1 ?_
    refine o_q (q_not rfl) rfl rfl rfl ?_
    refine o_q (q_pick_c rfl h1 (v_raw rfl)) rfl rfl rfl ?_
    refine o_q (q_mv (v_raw rfl)) rfl rfl rfl ?_
    refine o_guard rfl rfl rfl rfl (fun h2 => ?_) (fun h2 => ?_)
    · have k2 := h2; try simp only [decide_eq_true_eq, decide_eq_false_iff_not, Bool.not_eq_true', Bool.not_eq_false', Bool.not_true, Bool.not_false, List.length_map, Decidable.not_not] at k2
      refine o_q (q_mv (v_sl rfl)) rfl rfl rfl ?_
      refine o_yes rfl rfl rfl h2 ?_
      refine o_q (q_len rfl und25 rfl) rfl rfl rfl ?_
      refine o_yes rfl rfl rfl h2 ?_
      refine o_q (q_mv (v_sl rfl)) rfl rfl rfl ?_
      refine o_yes rfl rfl rfl h2 ?_
      refine o_q (q_len rfl und25 rfl) rfl rfl rfl ?_
      refine o_yes rfl rfl rfl h2 ?_
      refine o_q (q_neq rfl rfl) rfl rfl rfl ?_
      refine o_q (q_pick_c rfl h2 (v_raw rfl)) rfl rfl rfl ?_
      refine o_nil ?_
      refine s_cond rfl (fun h3 => ?_) (fun h3 => ?_)
      · have k3 := h3; try simp only [decide_eq_true_eq, decide_eq_false_iff_not, Bool.not_eq_true', Bool.not_eq_false', Bool.not_true, Bool.not_false, List.length_map, Decidable.not_not] at k3
        first | exact absurd h3 (by decide) | (simp at h3; done) | (simp at h3; omega)
      · have k3 := h3; try simp only [decide_eq_true_eq, decide_eq_false_iff_not, Bool.not_eq_true', Bool.not_eq_false', Bool.not_true, Bool.not_false, List.length_map, Decidable.not_not] at k3
        refine s_skip ?_
        refine s_seq ?_
        refine s_seq ?_
        refine s_region ?_
        refine o_q (q_as (v_raw rfl)) rfl rfl rfl ?_
        refine o_nil ?_
        refine s_block ?_
        refine s_loop (fun m S => ∃ T, ∃ i : Nat, S = ⟨setT (setT (setT (setT T 5 (.raw (.bool true))) 8 (.sl ((goneN l upto l.length).map encI) false)) 9 (.sl ((goneN l upto l.length).map encI) false)) 12 (.raw (.int .i64 i)), M⟩ ∧ i ≤ (goneN l upto l.length).length ∧ m = (goneN l upto l.length).length - i) (goneN l upto l.length).length ?_ ?_
        · exact ⟨_, 0, St.mkT (kp (kp (kp (kp rfl rfl) rfl) rfl) rfl).symm, by omega, rfl⟩
        rintro m S ⟨T, i, rfl, hi, rfl⟩
        refine s_seq ?_
        refine s_seq ?_
        refine s_region ?_
        refine o_q (q_mv (v_raw rfl)) rfl rfl rfl ?_
        refine o_q (q_mv (v_sl rfl)) rfl rfl rfl ?_
        refine o_q (q_len rfl und25 rfl) rfl rfl rfl ?_
        refine o_q (q_lss rfl rfl) rfl rfl rfl ?_
        refine o_nil ?_
        refine s_cond rfl (fun h4 => ?_) (fun h4 => ?_)
        · have k4 := h4; try simp only [decide_eq_true_eq, decide_eq_false_iff_not, Bool.not_eq_true', Bool.not_eq_false', Bool.not_true, Bool.not_false, List.length_map, Decidable.not_not] at k4
          refine s_skip ?_
          refine s_seq ?_
          refine s_block ?_
          refine s_seq ?_
          refine s_draw _ rfl ?_
          refine d_q rfl (q_mv (v_sl rfl)) rfl rfl rfl ?_
          refine d_q rfl (q_mv (v_raw rfl)) rfl rfl rfl ?_
          refine d_q rfl (q_idx und25 sz3 rfl rfl (by omega) (gm i (by first | omega | simp)) rfl) rfl rfl rfl ?_
          refine d_q rfl (q_ld ag3 sz3 rfl (gm i (by first | omega | simp)) rfl (v_raw rfl)) rfl rfl rfl ?_
          refine d_q rfl (q_mv (v_sl rfl)) rfl rfl rfl ?_
          refine d_q rfl (q_mv (v_raw rfl)) rfl rfl rfl ?_
          refine d_q rfl (q_idx und25 sz3 rfl rfl (by omega) (gm i (by first | omega | simp)) rfl) rfl rfl rfl ?_
          refine d_q rfl (q_ld ag3 sz3 rfl (gm i (by first | omega | simp)) rfl (v_raw rfl)) rfl rfl rfl ?_
          refine d_q rfl (q_neq rfl rfl) rfl rfl rfl ?_
          refine d_nil ?_
          refine s_cond rfl (fun h5 => ?_) (fun h5 => ?_)
          · have k5 := h5; try simp only [decide_eq_true_eq, decide_eq_false_iff_not, Bool.not_eq_true', Bool.not_eq_false', Bool.not_true, Bool.not_false, List.length_map, Decidable.not_not] at k5
            first | exact absurd h5 (by decide) | (simp at h5; done) | (simp at h5; omega)
          · have k5 := h5; try simp only [decide_eq_true_eq, decide_eq_false_iff_not, Bool.not_eq_true', Bool.not_eq_false', Bool.not_true, Bool.not_false, List.length_map, Decidable.not_not] at k5
            refine s_skip ?_
            refine s_blk_normal ?_
            refine s_region ?_
            refine o_q (q_mv (v_raw rfl)) rfl rfl rfl ?_
            refine o_q (q_add rfl rfl (wrap64 (by omega) (by omega))) rfl rfl rfl ?_
            refine o_q (q_as (v_raw rfl)) rfl rfl rfl ?_
            refine o_nil ?_
            refine s_inv ?_
            exact ⟨(goneN l upto l.length).length - (i + 1), by omega, _, i + 1, St.mkT (kp (kp (kp (kp rfl rfl) rfl) rfl) rfl).symm, by omega, rfl⟩
        · have k4 := h4; try simp only [decide_eq_true_eq, decide_eq_false_iff_not, Bool.not_eq_true', Bool.not_eq_false', Bool.not_true, Bool.not_false, List.length_map, Decidable.not_not] at k4
          refine s_exit ?_
          refine s_code_exit ?_
          refine s_inv_exit ?_
          refine s_blk_here ?_
          refine s_seq ?_
          refine s_region ?_
          refine o_q (q_mv (v_raw rfl)) rfl rfl rfl ?_
          refine o_q (q_as (v_raw rfl)) rfl rfl rfl ?_
          refine o_nil ?_
          refine s_ret ?_
          refine s_end ?_
          exact ⟨rfl, rfl⟩
    · have k2 := h2; try simp only [decide_eq_true_eq, decide_eq_false_iff_not, Bool.not_eq_true', Bool.not_eq_false', Bool.not_true, Bool.not_false, List.length_map, Decidable.not_not] at k2
      first | exact absurd h2 (by decide) | (simp at h2; done) | (simp at h2; omega)
  · have k1 := h1; try simp only [decide_eq_true_eq, decide_eq_false_iff_not, Bool.not_eq_true', Bool.not_eq_false', Bool.not_true, Bool.not_false, List.length_map, Decidable.not_not] at k1
    first | exact absurd h1 (by decide) | (simp at h1; done) | (simp at h1; omega)

def tk4 : Nat → Nat → Option Nat := fun _ _ => none
def pl4 : Nat → List PStep
  | 11 => [.q 0, .q 1, .q 2, .q 3, .q 4, .q 5, .q 6, .q 7, .q 8, .q 9, .q 10, .q 11, .q 12, .q 13, .q 14]
  | 14 => [.q 0, .q 1, .q 2, .q 3, .q 4, .q 5, .q 6, .q 7, .q 8, .q 9, .q 10, .q 11, .q 12, .q 13, .q 14]
  | _ => []
theorem cb4 : Try.f4.body.map (codeB Try.prog Try.f4.ntmps tk4 pl4) = some true := by kernel_rfl
theorem goes4 : goesB Try.prog 4 = true := by kernel_rfl
-- carillon/carillonlaw08.CompactLast params ['[]api.Record', 'int'] results [['t', 4]] own [] names ['0:l', '1:upto', '2:l', '3:upto', '5:head', '6:a', '7:at', '8:i', '9:later', '10:k', '11:goes', '12:b', '13:again'] calls [5, 6, 9] paths 8

def laterB (l : List Rec) (i k : Nat) : Bool := (List.range k).any fun j => decide (i < j ∧ (l.getD j default).key = (l.getD i default).key)
theorem laterB_succ {l : List Rec} {i k : Nat} (hi : i < l.length) (hk : k < l.length) (hik : i < k) : laterB l i (k + 1) = (laterB l i k || decide (l[k].key = l[i].key)) := by
  unfold laterB
  rw [List.range_succ, List.any_append]
  simp only [List.any_cons, List.any_nil, Bool.or_false, getD_lt hi, getD_lt hk, hik, true_and]
theorem laterB_zero (l : List Rec) (i : Nat) : laterB l i (i + 1) = false := by
  unfold laterB
  rw [List.any_eq_false]
  intro j hj
  have := List.mem_range.1 hj
  simp only [decide_eq_true_eq]
  rintro ⟨h, -⟩
  omega
theorem superB_later {l : List Rec} {i : Nat} (hi : i < l.length) : superB l i = (decide (l[i].key ≠ emp) && laterB l i l.length) := by
  rw [Bool.eq_iff_iff, superB_iff hi]
  simp only [Bool.and_eq_true, decide_eq_true_eq, laterB, List.any_eq_true, List.mem_range, getD_lt hi]
  constructor
  · rintro ⟨h1, j, hj, h2, h3⟩
    exact ⟨h1, j, hj, h2, by rw [getD_lt hj]; exact h3⟩
  · rintro ⟨h1, j, hj, h2, h3⟩
    exact ⟨h1, j, hj, h2, by rw [getD_lt hj] at h3; exact h3⟩
theorem keepN_prefix (l : List Rec) (upto : Int) {i n : Nat} (h : i ≤ n) (hn : n ≤ l.length) : ∃ r, keepN l upto n = keepN l upto i ++ r := by
  induction n with
  | zero => exact ⟨[], by rw [List.append_nil, show i = 0 by omega]⟩
  | succ n ih =>
    rcases Nat.lt_or_ge n i with h1 | h1
    · exact ⟨[], by rw [List.append_nil, show i = n + 1 by omega]⟩
    · obtain ⟨r, hr⟩ := ih h1 (by omega)
      rw [keepN_succ l upto (by omega), hr]
      exact ⟨_, List.append_assoc ..⟩
theorem kept_get {l : List Rec} {upto : Int} {i : Nat} (hi : i < l.length) (hk : (superB l i && decide (l[i].off < upto)) = false) : ((keepN l upto l.length).map enc)[(keepN l upto i).length]? = some (enc l[i]) ∧ (keepN l upto (i + 1)).length = (keepN l upto i).length + 1 ∧ (keepN l upto i).length < (keepN l upto l.length).length := by
  have h1 : keepN l upto (i + 1) = keepN l upto i ++ [l[i]] := by
    rw [keepN_succ l upto hi, if_pos]
    rw [Bool.and_eq_false_iff] at hk
    rw [Bool.or_eq_true, Bool.not_eq_true']
    rcases hk with hk | hk
    · exact .inl hk
    · right; simp at hk; simpa using hk
  obtain ⟨r, hr⟩ := keepN_prefix l upto (i := i + 1) (n := l.length) hi (Nat.le_refl _)
  rw [hr, h1]
  refine ⟨by simp, by simp, by simp⟩
theorem gone_len {l : List Rec} {upto : Int} {i : Nat} (hi : i < l.length) (hk : (superB l i && decide (l[i].off < upto)) = true) : keepN l upto (i + 1) = keepN l upto i := by
  rw [keepN_succ l upto hi, if_neg, List.append_nil]
  rw [Bool.and_eq_true, decide_eq_true_eq] at hk
  rw [hk.1]
  simp only [Bool.not_true, Bool.false_or, decide_eq_true_eq]
  omega
/-- Where the kept ones come from. -/
theorem keepN_from (l : List Rec) (upto : Int) : ∀ n, n ≤ l.length → ∃ p : Nat → Nat, (∀ j, j < (keepN l upto n).length → ∃ h : p j < l.length, p j < n ∧ (keepN l upto n)[j]? = some l[p j] ∧ (superB l (p j) && decide (l[p j].off < upto)) = false) ∧ ∀ j k, j < k → k < (keepN l upto n).length → p j < p k
  | 0, _ => ⟨id, fun j h => absurd h (by simp [keepN]), fun j k _ h => absurd h (by simp [keepN])⟩
  | n + 1, hn => by
    obtain ⟨p, h1, h2⟩ := keepN_from l upto n (by omega)
    cases hc : (superB l n && decide (l[n].off < upto)) with
    | true => rw [gone_len (by omega) hc]; exact ⟨p, fun j hj => by obtain ⟨a, b, c, d⟩ := h1 j hj; exact ⟨a, by omega, c, d⟩, h2⟩
    | false =>
      have e : keepN l upto (n + 1) = keepN l upto n ++ [l[n]] := by
        rw [keepN_succ l upto (by omega), if_pos]
        rw [Bool.and_eq_false_iff] at hc
        rw [Bool.or_eq_true, Bool.not_eq_true']
        rcases hc with hc | hc
        · exact .inl hc
        · right; simp at hc; simpa using hc
      rw [e]
      refine ⟨fun j => if j < (keepN l upto n).length then p j else n, fun j hj => ?_, fun j k hjk hk => ?_⟩
      · by_cases hj' : j < (keepN l upto n).length
        · obtain ⟨a, b, c, d⟩ := h1 j hj'
          simp only [if_pos hj']
          exact ⟨a, by omega, by rw [List.getElem?_append_left hj']; exact c, d⟩
        · simp only [if_neg hj']
          have : j = (keepN l upto n).length := by simp at hj; omega
          subst this
          exact ⟨by omega, by omega, by simp, hc⟩
      · show (if j < (keepN l upto n).length then p j else n) < if k < (keepN l upto n).length then p k else n
        by_cases hk' : k < (keepN l upto n).length
        · rw [if_pos hk', if_pos (by omega)]; exact h2 j k hjk hk'
        · rw [if_neg hk', if_pos (by simp at hk; omega)]
          obtain ⟨a, b, -⟩ := h1 j (by simp at hk; omega)
          exact b
theorem keepN_all (l : List Rec) (upto : Int) (h : ∀ i, ∀ hi : i < l.length, (superB l i && decide (l[i].off < upto)) = false) : ∀ n, n ≤ l.length → keepN l upto n = l.take n
  | 0, _ => by simp [keepN]
  | n + 1, hn => by
    have hc := h n hn
    rw [keepN_succ l upto hn, if_pos, keepN_all l upto h n (by omega), List.take_succ_eq_append_getElem hn]
    rw [Bool.and_eq_false_iff] at hc
    rw [Bool.or_eq_true, Bool.not_eq_true']
    rcases hc with hc | hc
    · exact .inl hc
    · right; simp at hc; simpa using hc
theorem keepN_again (l : List Rec) (upto : Int) : keepN (keepN l upto l.length) upto (keepN l upto l.length).length = keepN l upto l.length := by
  obtain ⟨p, h1, h2⟩ := keepN_from l upto l.length (Nat.le_refl _)
  rw [keepN_all _ upto (fun j hj => ?_) _ (Nat.le_refl _), List.take_length]
  obtain ⟨a, b, c, d⟩ := h1 j hj
  have e : (keepN l upto l.length)[j] = l[p j] := by rw [List.getElem?_eq_getElem hj] at c; exact Option.some.inj c
  rw [Bool.and_eq_false_iff] at d ⊢
  rw [e]
  rcases d with d | d
  · left
    rw [Bool.eq_false_iff] at d ⊢
    intro hs
    obtain ⟨h3, k, hk, h4, h5⟩ := (superB_iff hj).1 hs
    obtain ⟨a', b', c', -⟩ := h1 k hk
    have e' : (keepN l upto l.length)[k] = l[p k] := by rw [List.getElem?_eq_getElem hk] at c'; exact Option.some.inj c'
    rw [e] at h3 h5
    rw [e'] at h5
    exact d ((superB_iff a).2 ⟨h3, p k, a', h2 j k h4 hk, h5⟩)
  · exact .inr d
theorem again6 (l : List Rec) (upto : Int) (o : Bool) (M : Mem) (hl : l.length * 64 ≤ 2 ^ 47) : SoundCall Try.prog 6 [.sl ((keepN l upto l.length).map enc) o, .raw (.int .i64 upto)] M fun r M' => r = .sl ((keepN l upto l.length).map enc) false ∧ M' = M := by
  have h := snd6 (keepN l upto l.length) upto o M (by have := keepN_len l upto l.length; omega)
  rw [keepN_again] at h
  exact h
theorem snd4 (l : List Rec) (upto : Int) (o : Bool) (M : Mem) (hl : l.length * 64 ≤ 2 ^ 47) : SoundCall Try.prog 4 [.sl (l.map enc) o, .raw (.int .i64 upto)] M fun r M' => r = .raw (.bool true) ∧ M' = M := by
  have hkl := keepN_len l upto l.length
  refine SoundCall.go tk4 pl4 mixed Try.func4 cb4 rfl (Nat.le_of_ble_eq_true rfl) ?_
  refine s_seq ?_
  refine s_region ?_
  refine o_q (q_as (v_raw rfl)) rfl rfl rfl ?_
  refine o_nil ?_
  refine s_seq ?_
  refine s_region ?_
  refine o_call (snd5 M) goes5 ac_nil rfl ?_
  refine o_q (q_as (v_raw rfl)) rfl rfl rfl ?_
  refine o_nil ?_
  refine s_seq ?_
  refine s_region ?_
  refine o_q (q_mv (v_sl rfl)) rfl rfl rfl ?_
  refine o_q (q_mv (v_raw rfl)) rfl rfl rfl ?_
  refine o_call (snd6 l upto false M (by omega)) goes6 (ac (v_sl rfl) (ac (v_raw rfl) ac_nil)) rfl ?_
  refine o_q (q_as (v_sl rfl)) rfl rfl rfl ?_
  refine o_nil ?_
  refine s_seq ?_
  refine s_region ?_
  refine o_q (q_as (v_raw rfl)) rfl rfl rfl ?_
  refine o_nil ?_
  refine s_seq ?_
  refine s_seq ?_
  refine s_region ?_
  refine o_q (q_as (v_raw rfl)) rfl rfl rfl ?_
  refine o_nil ?_
  refine s_block ?_
  refine s_loop (fun m S => ∃ T, ∃ i : Nat, S = ⟨setT (setT (setT (setT (setT (setT T 0 (.sl (l.map enc) o)) 1 (.raw (.int .i64 upto))) 5 (.raw (.bool true))) 6 (.sl ((keepN l upto l.length).map enc) false)) 7 (.raw (.int .i64 (keepN l upto i).length))) 8 (.raw (.int .i64 i)), M⟩ ∧ i ≤ l.length ∧ m = l.length - i) l.length ?_ ?_
  · exact ⟨_, 0, St.mkT (kp (kp (kp (kp (kp (kp rfl rfl) rfl) rfl) rfl) rfl) rfl).symm, by omega, rfl⟩
  rintro m S ⟨T, i, rfl, hi, rfl⟩
  have hlen := keepN_len l upto i
  refine s_seq ?_
  refine s_seq ?_
  refine s_region ?_
  refine o_q (q_mv (v_raw rfl)) rfl rfl rfl ?_
  refine o_q (q_mv (v_sl rfl)) rfl rfl rfl ?_
  refine o_q (q_len rfl und22 rfl) rfl rfl rfl ?_
  refine o_q (q_lss rfl rfl) rfl rfl rfl ?_
  refine o_nil ?_
  refine s_cond rfl (fun h1 => ?_) (fun h1 => ?_)
  · have k1 := h1; try simp only [decide_eq_true_eq, decide_eq_false_iff_not, Bool.not_eq_true', Bool.not_eq_false', Bool.not_true, Bool.not_false, List.length_map, Decidable.not_not] at k1
    refine s_skip ?_
    refine s_seq ?_
    refine s_block ?_
    refine s_seq ?_
    refine s_region ?_
    refine o_q (q_as (v_raw rfl)) rfl rfl rfl ?_
    refine o_nil ?_
    refine s_seq ?_
    refine s_seq ?_
    refine s_region ?_
    refine o_q (q_mv (v_raw rfl)) rfl rfl rfl ?_
    refine o_q (q_add rfl rfl (wrap64 (by omega) (by omega))) rfl rfl rfl ?_
    refine o_q (q_as (v_raw rfl)) rfl rfl rfl ?_
    refine o_nil ?_
    refine s_block ?_
    refine s_loop (fun m S => ∃ T, ∃ k : Nat, S = ⟨setT (setT (setT (setT (setT (setT (setT (setT T 0 (.sl (l.map enc) o)) 1 (.raw (.int .i64 upto))) 5 (.raw (.bool true))) 6 (.sl ((keepN l upto l.length).map enc) false)) 7 (.raw (.int .i64 (keepN l upto i).length))) 8 (.raw (.int .i64 i))) 9 (.raw (.bool (laterB l i k)))) 10 (.raw (.int .i64 k)), M⟩ ∧ i < k ∧ k ≤ l.length ∧ m = l.length - k) (l.length - (i + 1)) ?_ ?_
    · exact ⟨_, i + 1, St.mkT (kp (kp (kp (kp (kp (kp (kp (kp rfl rfl) rfl) rfl) rfl) rfl) rfl) (by rw [laterB_zero]; rfl)) rfl).symm, by omega, by omega, rfl⟩
    rintro m S ⟨T, k, rfl, hik, hk, rfl⟩
    refine s_seq ?_
    refine s_seq ?_
    refine s_region ?_
    refine o_q (q_mv (v_raw rfl)) rfl rfl rfl ?_
    refine o_q (q_mv (v_sl rfl)) rfl rfl rfl ?_
    refine o_q (q_len rfl und22 rfl) rfl rfl rfl ?_
    refine o_q (q_lss rfl rfl) rfl rfl rfl ?_
    refine o_nil ?_
    refine s_cond rfl (fun h2 => ?_) (fun h2 => ?_)
    · have k2 := h2; try simp only [decide_eq_true_eq, decide_eq_false_iff_not, Bool.not_eq_true', Bool.not_eq_false', Bool.not_true, Bool.not_false, List.length_map, Decidable.not_not] at k2
      refine s_skip ?_
      refine s_seq ?_
      refine s_block ?_
      refine s_draw _ rfl ?_
      refine d_q rfl (q_mv (v_raw rfl)) rfl rfl rfl ?_
      refine d_q rfl (q_mv (v_raw rfl)) rfl rfl rfl ?_
      refine d_gq rfl rfl rfl rfl rfl (fun h3 => ?_) (fun h3 => ?_)
      · have k3 := h3; try simp only [decide_eq_true_eq, decide_eq_false_iff_not, Bool.not_eq_true', Bool.not_eq_false', Bool.not_true, Bool.not_false, List.length_map, Decidable.not_not] at k3
        refine ⟨_, _, (q_mv (v_sl rfl)), ?_⟩
        refine d_yes rfl (q_mv (v_raw rfl)) rfl rfl rfl h3 rfl rfl ?_
        refine d_yes rfl (q_idx und22 sz30 rfl rfl (by omega) (gm k (by first | omega | simp)) rfl) rfl rfl rfl h3 rfl rfl ?_
        refine d_yes rfl (q_f fo30_3 rfl) rfl rfl rfl h3 rfl rfl ?_
        refine d_yes rfl (q_ld ag9 sz9 rfl (gm k (by first | omega | simp)) rfl (v_raw rfl)) rfl rfl rfl h3 rfl rfl ?_
        refine d_yes rfl (q_mv (v_sl rfl)) rfl rfl rfl h3 rfl rfl ?_
        refine d_yes rfl (q_mv (v_raw rfl)) rfl rfl rfl h3 rfl rfl ?_
        refine d_yes rfl (q_idx und22 sz30 rfl rfl (by omega) (gm i (by first | omega | simp)) rfl) rfl rfl rfl h3 rfl rfl ?_
        refine d_yes rfl (q_f fo30_3 rfl) rfl rfl rfl h3 rfl rfl ?_
        refine d_yes rfl (q_ld ag9 sz9 rfl (gm i (by first | omega | simp)) rfl (v_raw rfl)) rfl rfl rfl h3 rfl rfl ?_
        refine d_yes rfl (q_seql rfl rfl) rfl rfl rfl h3 rfl rfl ?_
        refine d_q rfl (q_pick_c rfl h3 (v_raw rfl)) rfl rfl rfl ?_
        refine d_q rfl (q_as (v_raw rfl)) rfl rfl rfl ?_
        refine d_nil ?_
        refine s_blk_normal ?_
        refine s_region ?_
        refine o_q (q_mv (v_raw rfl)) rfl rfl rfl ?_
        refine o_q (q_add rfl rfl (wrap64 (by omega) (by omega))) rfl rfl rfl ?_
        refine o_q (q_as (v_raw rfl)) rfl rfl rfl ?_
        refine o_nil ?_
        refine s_inv ?_
        exact ⟨l.length - (k + 1), by omega, _, k + 1, St.mkT (kp (kp (kp (kp (kp (kp (kp (kp rfl rfl) rfl) rfl) rfl) rfl) rfl) (by rw [laterB_succ (by omega) (by omega) hik, h3, Bool.false_or]; rfl)) rfl).symm, by omega, by omega, rfl⟩
      · have k3 := h3; try simp only [decide_eq_true_eq, decide_eq_false_iff_not, Bool.not_eq_true', Bool.not_eq_false', Bool.not_true, Bool.not_false, List.length_map, Decidable.not_not] at k3
        refine d_no rfl rfl rfl rfl h3 rfl ?_
        refine d_no rfl rfl rfl rfl h3 rfl ?_
        refine d_no rfl rfl rfl rfl h3 rfl ?_
        refine d_no rfl rfl rfl rfl h3 rfl ?_
        refine d_no rfl rfl rfl rfl h3 rfl ?_
        refine d_no rfl rfl rfl rfl h3 rfl ?_
        refine d_no rfl rfl rfl rfl h3 rfl ?_
        refine d_no rfl rfl rfl rfl h3 rfl ?_
        refine d_no rfl rfl rfl rfl h3 rfl ?_
        refine d_no rfl rfl rfl rfl h3 rfl ?_
        refine d_q rfl (q_pick_c rfl h3 (v_raw rfl)) rfl rfl rfl ?_
        refine d_q rfl (q_as (v_raw rfl)) rfl rfl rfl ?_
        refine d_nil ?_
        refine s_blk_normal ?_
        refine s_region ?_
        refine o_q (q_mv (v_raw rfl)) rfl rfl rfl ?_
        refine o_q (q_add rfl rfl (wrap64 (by omega) (by omega))) rfl rfl rfl ?_
        refine o_q (q_as (v_raw rfl)) rfl rfl rfl ?_
        refine o_nil ?_
        refine s_inv ?_
        exact ⟨l.length - (k + 1), by omega, _, k + 1, St.mkT (kp (kp (kp (kp (kp (kp (kp (kp rfl rfl) rfl) rfl) rfl) rfl) rfl) (by rw [laterB_succ (by omega) (by omega) hik, h3]; rfl)) rfl).symm, by omega, by omega, rfl⟩
    · have k2 := h2; try simp only [decide_eq_true_eq, decide_eq_false_iff_not, Bool.not_eq_true', Bool.not_eq_false', Bool.not_true, Bool.not_false, List.length_map, Decidable.not_not] at k2
      refine s_exit ?_
      refine s_code_exit ?_
      refine s_inv_exit ?_
      refine s_blk_here ?_
      refine s_seq ?_
      refine s_cut (fun S => ∃ T, ∃ hi : i < l.length, S = ⟨setT (setT (setT (setT (setT (setT (setT T 0 (.sl (l.map enc) o)) 1 (.raw (.int .i64 upto))) 5 (.raw (.bool true))) 6 (.sl ((keepN l upto l.length).map enc) false)) 7 (.raw (.int .i64 (keepN l upto i).length))) 8 (.raw (.int .i64 i))) 11 (.raw (.bool (superB l i && decide (l[i].off < upto)))), M⟩) ?_ ?_
      · skip
        refine s_region ?_
        refine o_q (q_mv (v_sl rfl)) rfl rfl rfl ?_
        refine o_q (q_mv (v_raw rfl)) rfl rfl rfl ?_
        refine o_q (q_idx und22 sz30 rfl rfl (by omega) (gm i (by first | omega | simp)) rfl) rfl rfl rfl ?_
        refine o_q (q_f fo30_3 rfl) rfl rfl rfl ?_
        refine o_q (q_ld ag9 sz9 rfl (gm i (by first | omega | simp)) rfl (v_raw rfl)) rfl rfl rfl ?_
        refine o_q (q_sneq rfl rfl) rfl rfl rfl ?_
        refine o_q (q_mv (v_raw rfl)) rfl rfl rfl ?_
        refine o_guard rfl rfl rfl rfl (fun h4 => ?_) (fun h4 => ?_)
        · have k4 := h4; try simp only [decide_eq_true_eq, decide_eq_false_iff_not, Bool.not_eq_true', Bool.not_eq_false', Bool.not_true, Bool.not_false, List.length_map, Decidable.not_not] at k4
          refine o_q (q_mv (v_raw rfl)) rfl rfl rfl ?_
          refine o_q (q_pick_c rfl h4 (v_raw rfl)) rfl rfl rfl ?_
          refine o_q (q_mv (v_raw rfl)) rfl rfl rfl ?_
          refine o_guard rfl rfl rfl rfl (fun h5 => ?_) (fun h5 => ?_)
          · have k5 := h5; try simp only [decide_eq_true_eq, decide_eq_false_iff_not, Bool.not_eq_true', Bool.not_eq_false', Bool.not_true, Bool.not_false, List.length_map, Decidable.not_not] at k5
            refine o_q (q_mv (v_sl rfl)) rfl rfl rfl ?_
            refine o_yes rfl rfl rfl h5 ?_
            refine o_q (q_mv (v_raw rfl)) rfl rfl rfl ?_
            refine o_yes rfl rfl rfl h5 ?_
            refine o_q (q_idx und22 sz30 rfl rfl (by omega) (gm i (by first | omega | simp)) rfl) rfl rfl rfl ?_
            refine o_yes rfl rfl rfl h5 ?_
            refine o_q (q_f fo30_0 rfl) rfl rfl rfl ?_
            refine o_yes rfl rfl rfl h5 ?_
            refine o_q (q_ld ag3 sz3 rfl (gm i (by first | omega | simp)) rfl (v_raw rfl)) rfl rfl rfl ?_
            refine o_yes rfl rfl rfl h5 ?_
            refine o_q (q_mv (v_raw rfl)) rfl rfl rfl ?_
            refine o_yes rfl rfl rfl h5 ?_
            refine o_q (q_lss rfl rfl) rfl rfl rfl ?_
            refine o_q (q_pick_c rfl h5 (v_raw rfl)) rfl rfl rfl ?_
            refine o_q (q_as (v_raw rfl)) rfl rfl rfl ?_
            refine o_nil ?_
            refine s_inv ?_
            obtain rfl : k = l.length := by omega
            have e : superB l i = true := by rw [superB_later (by omega)]; simp_all [emp]
            exact ⟨_, by omega, St.mkT (kp (kp (kp (kp (kp (kp (kp rfl rfl) rfl) rfl) rfl) rfl) rfl) (by rw [e, Bool.true_and]; rfl)).symm⟩
          · have k5 := h5; try simp only [decide_eq_true_eq, decide_eq_false_iff_not, Bool.not_eq_true', Bool.not_eq_false', Bool.not_true, Bool.not_false, List.length_map, Decidable.not_not] at k5
            refine o_no rfl rfl rfl rfl h5 ?_
            refine o_no rfl rfl rfl rfl h5 ?_
            refine o_no rfl rfl rfl rfl h5 ?_
            refine o_no rfl rfl rfl rfl h5 ?_
            refine o_no rfl rfl rfl rfl h5 ?_
            refine o_no rfl rfl rfl rfl h5 ?_
            refine o_q (q_pick_c rfl h5 (v_raw rfl)) rfl rfl rfl ?_
            refine o_q (q_as (v_raw rfl)) rfl rfl rfl ?_
            refine o_nil ?_
            refine s_inv ?_
            obtain rfl : k = l.length := by omega
            have e : superB l i = false := by rw [superB_later (by omega)]; simp_all [emp]
            exact ⟨_, by omega, St.mkT (kp (kp (kp (kp (kp (kp (kp rfl rfl) rfl) rfl) rfl) rfl) rfl) (by rw [e, Bool.false_and]; rfl)).symm⟩
        · have k4 := h4; try simp only [decide_eq_true_eq, decide_eq_false_iff_not, Bool.not_eq_true', Bool.not_eq_false', Bool.not_true, Bool.not_false, List.length_map, Decidable.not_not] at k4
          refine o_q (q_pick_c rfl h4 (v_raw rfl)) rfl rfl rfl ?_
          refine o_q (q_mv (v_raw rfl)) rfl rfl rfl ?_
          refine o_no rfl rfl rfl rfl rfl ?_
          refine o_no rfl rfl rfl rfl rfl ?_
          refine o_no rfl rfl rfl rfl rfl ?_
          refine o_no rfl rfl rfl rfl rfl ?_
          refine o_no rfl rfl rfl rfl rfl ?_
          refine o_no rfl rfl rfl rfl rfl ?_
          refine o_no rfl rfl rfl rfl rfl ?_
          refine o_q (q_pick_c rfl rfl (v_raw rfl)) rfl rfl rfl ?_
          refine o_q (q_as (v_raw rfl)) rfl rfl rfl ?_
          refine o_nil ?_
          refine s_inv ?_
          obtain rfl : k = l.length := by omega
          have e : superB l i = false := by rw [superB_later (by omega)]; simp_all [emp]
          exact ⟨_, by omega, St.mkT (kp (kp (kp (kp (kp (kp (kp rfl rfl) rfl) rfl) rfl) rfl) rfl) (by rw [e, Bool.false_and]; rfl)).symm⟩
      rintro S ⟨T, hi', rfl⟩
      refine s_seq ?_
      refine s_seq ?_
      refine s_region ?_
      refine o_q (q_mv (v_raw rfl)) rfl rfl rfl ?_
      refine o_nil ?_
      refine s_cond rfl (fun h6 => ?_) (fun h6 => ?_)
      · have k6 := h6; try simp only [decide_eq_true_eq, decide_eq_false_iff_not, Bool.not_eq_true', Bool.not_eq_false', Bool.not_true, Bool.not_false, List.length_map, Decidable.not_not] at k6
        refine s_exit ?_
        refine s_code_exit ?_
        refine s_blk_here ?_
        refine s_region ?_
        refine o_q (q_mv (v_raw rfl)) rfl rfl rfl ?_
        refine o_q (q_add rfl rfl (wrap64 (by omega) (by omega))) rfl rfl rfl ?_
        refine o_q (q_as (v_raw rfl)) rfl rfl rfl ?_
        refine o_nil ?_
        refine s_inv ?_
        exact ⟨l.length - (i + 1), by omega, _, i + 1, St.mkT (kp (kp (kp (kp (kp (kp rfl rfl) rfl) rfl) rfl) (by rw [gone_len (by omega) h6]; rfl)) rfl).symm, by omega, rfl⟩
      · have k6 := h6; try simp only [decide_eq_true_eq, decide_eq_false_iff_not, Bool.not_eq_true', Bool.not_eq_false', Bool.not_true, Bool.not_false, List.length_map, Decidable.not_not] at k6
        refine s_skip ?_
        refine s_seq ?_
        refine s_seq ?_
        refine s_draw _ rfl ?_
        refine d_q rfl (q_mv (v_raw rfl)) rfl rfl rfl ?_
        refine d_q rfl (q_mv (v_sl rfl)) rfl rfl rfl ?_
        refine d_q rfl (q_len rfl und22 rfl) rfl rfl rfl ?_
        refine d_q rfl (q_eql rfl rfl) rfl rfl rfl ?_
        refine d_q rfl (q_mv (v_raw rfl)) rfl rfl rfl ?_
        refine d_gq rfl rfl rfl rfl rfl (fun h7 => ?_) (fun h7 => ?_)
        · have k7 := h7; try simp only [decide_eq_true_eq, decide_eq_false_iff_not, Bool.not_eq_true', Bool.not_eq_false', Bool.not_true, Bool.not_false, List.length_map, Decidable.not_not] at k7
          refine ⟨_, _, (q_mv (v_sl rfl)), ?_⟩
          refine d_yes rfl (q_mv (v_raw rfl)) rfl rfl rfl h7 rfl rfl ?_
          refine d_yes rfl (q_idx und22 sz30 rfl rfl (by omega) (kept_get hi' h6).1 rfl) rfl rfl rfl h7 rfl rfl ?_
          refine d_yes rfl (q_lde ag30 sz30 rfl (kept_get hi' h6).1 rfl rfl) rfl rfl rfl h7 rfl rfl ?_
          refine d_yes rfl (q_mv (v_sl rfl)) rfl rfl rfl h7 rfl rfl ?_
          refine d_yes rfl (q_mv (v_raw rfl)) rfl rfl rfl h7 rfl rfl ?_
          refine d_yes rfl (q_idx und22 sz30 rfl rfl (by omega) (gm i (by first | omega | simp)) rfl) rfl rfl rfl h7 rfl rfl ?_
          refine d_yes rfl (q_lde ag30 sz30 rfl (gm i (by first | omega | simp)) rfl rfl) rfl rfl rfl h7 rfl rfl ?_
          refine d_yes rfl (q_bin' rfl rfl (binNeq _ _ _ _)) rfl rfl rfl h7 rfl rfl ?_
          refine d_q rfl (q_pick_c rfl h7 (v_raw rfl)) rfl rfl rfl ?_
          refine d_nil ?_
          refine s_cond rfl (fun h8 => ?_) (fun h8 => ?_)
          · have k8 := h8; try simp only [decide_eq_true_eq, decide_eq_false_iff_not, Bool.not_eq_true', Bool.not_eq_false', Bool.not_true, Bool.not_false, List.length_map, Decidable.not_not] at k8
            first | exact absurd h8 (by decide) | (simp at h8; done) | (simp at h8; omega)
          · have k8 := h8; try simp only [decide_eq_true_eq, decide_eq_false_iff_not, Bool.not_eq_true', Bool.not_eq_false', Bool.not_true, Bool.not_false, List.length_map, Decidable.not_not] at k8
            refine s_skip ?_
            refine s_region ?_
            refine o_q (q_mv (v_raw rfl)) rfl rfl rfl ?_
            refine o_q (q_add rfl rfl (wrap64 (by omega) (by omega))) rfl rfl rfl ?_
            refine o_q (q_as (v_raw rfl)) rfl rfl rfl ?_
            refine o_nil ?_
            refine s_blk_normal ?_
            refine s_region ?_
            refine o_q (q_mv (v_raw rfl)) rfl rfl rfl ?_
            refine o_q (q_add rfl rfl (wrap64 (by omega) (by omega))) rfl rfl rfl ?_
            refine o_q (q_as (v_raw rfl)) rfl rfl rfl ?_
            refine o_nil ?_
            refine s_inv ?_
            exact ⟨l.length - (i + 1), by omega, _, i + 1, St.mkT (kp (kp (kp (kp (kp (kp rfl rfl) rfl) rfl) rfl) (by rw [(kept_get (by omega) h6).2.1]; rfl)) rfl).symm, by omega, rfl⟩
        · have k7 := h7; try simp only [decide_eq_true_eq, decide_eq_false_iff_not, Bool.not_eq_true', Bool.not_eq_false', Bool.not_true, Bool.not_false, List.length_map, Decidable.not_not] at k7
          exfalso; have := (kept_get hi' h6).2.2; simp at h7; omega
  · have k1 := h1; try simp only [decide_eq_true_eq, decide_eq_false_iff_not, Bool.not_eq_true', Bool.not_eq_false', Bool.not_true, Bool.not_false, List.length_map, Decidable.not_not] at k1
    refine s_exit ?_
    refine s_code_exit ?_
    refine s_inv_exit ?_
    refine s_blk_here ?_
    refine s_seq ?_
    refine s_region ?_
    refine o_q (q_mv (v_sl rfl)) rfl rfl rfl ?_
    refine o_q (q_mv (v_raw rfl)) rfl rfl rfl ?_
    refine o_call (again6 l upto false M (by omega)) goes6 (ac (v_sl rfl) (ac (v_raw rfl) ac_nil)) rfl ?_
    refine o_q (q_as (v_sl rfl)) rfl rfl rfl ?_
    refine o_nil ?_
    refine s_seq ?_
    refine s_region ?_
    refine o_q (q_mv (v_sl rfl)) rfl rfl rfl ?_
    refine o_q (q_mv (v_sl rfl)) rfl rfl rfl ?_
    refine o_call (same9 (keepN l upto l.length) false false M (by omega)) goes9 (ac (v_sl rfl) (ac (v_sl rfl) ac_nil)) rfl ?_
    refine o_q (q_as (v_raw rfl)) rfl rfl rfl ?_
    refine o_nil ?_
    refine s_seq ?_
    refine s_region ?_
    refine o_q (q_mv (v_raw rfl)) rfl rfl rfl ?_
    refine o_q (q_mv (v_raw rfl)) rfl rfl rfl ?_
    refine o_guard rfl rfl rfl rfl (fun h9 => ?_) (fun h9 => ?_)
    · have k9 := h9; try simp only [decide_eq_true_eq, decide_eq_false_iff_not, Bool.not_eq_true', Bool.not_eq_false', Bool.not_true, Bool.not_false, List.length_map, Decidable.not_not] at k9
      refine o_q (q_mv (v_raw rfl)) rfl rfl rfl ?_
      refine o_yes rfl rfl rfl h9 ?_
      refine o_q (q_mv (v_sl rfl)) rfl rfl rfl ?_
      refine o_yes rfl rfl rfl h9 ?_
      refine o_q (q_len rfl und22 rfl) rfl rfl rfl ?_
      refine o_yes rfl rfl rfl h9 ?_
      refine o_q (q_eql rfl rfl) rfl rfl rfl ?_
      refine o_q (q_pick_c rfl h9 (v_raw rfl)) rfl rfl rfl ?_
      refine o_q (q_mv (v_raw rfl)) rfl rfl rfl ?_
      refine o_guard rfl rfl rfl rfl (fun h10 => ?_) (fun h10 => ?_)
      · have k10 := h10; try simp only [decide_eq_true_eq, decide_eq_false_iff_not, Bool.not_eq_true', Bool.not_eq_false', Bool.not_true, Bool.not_false, List.length_map, Decidable.not_not] at k10
        refine o_q (q_mv (v_raw rfl)) rfl rfl rfl ?_
        refine o_q (q_pick_c rfl h10 (v_raw rfl)) rfl rfl rfl ?_
        refine o_q (q_as (v_raw rfl)) rfl rfl rfl ?_
        refine o_nil ?_
        refine s_ret ?_
        refine s_end ?_
        exact ⟨rfl, rfl⟩
      · have k10 := h10; try simp only [decide_eq_true_eq, decide_eq_false_iff_not, Bool.not_eq_true', Bool.not_eq_false', Bool.not_true, Bool.not_false, List.length_map, Decidable.not_not] at k10
        exfalso; obtain rfl : i = l.length := by omega
        simp at h10
    · have k9 := h9; try simp only [decide_eq_true_eq, decide_eq_false_iff_not, Bool.not_eq_true', Bool.not_eq_false', Bool.not_true, Bool.not_false, List.length_map, Decidable.not_not] at k9
      first | exact absurd h9 (by decide) | (simp at h9; done) | (simp at h9; omega)
