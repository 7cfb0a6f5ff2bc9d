import Derived.Test.YtikalbdphkmclaaAm39
import Derived.Test.YtikalbdphkmclaaProg
/-! Chapters 15 and 16: topics and subscriptions: what their functions compute. -/
open Go Go.Proofs Go.Am
set_option linter.unusedVariables false
set_option autoImplicit false
set_option linter.unusedSimpArgs false
namespace C15
theorem ag3 : aggT Try.prog 3 = some false := by kernel_rfl
theorem ag9 : aggT Try.prog 9 = some false := by kernel_rfl
theorem ag24 : aggT Try.prog 24 = some false := by kernel_rfl
theorem ag28 : aggT Try.prog 28 = some false := by kernel_rfl
theorem ag30 : aggT Try.prog 30 = some true := by kernel_rfl
theorem ag35 : aggT Try.prog 35 = some true := by kernel_rfl
theorem ag76 : aggT Try.prog 76 = some false := by kernel_rfl
theorem bz35 : (zeroT Try.prog 35).map (fun z => z.cells.toList.map AVal.raw) = some [.raw (.int .i64 0), .raw (.string { data := #[] }), .raw (.int .i64 0), .raw (.string { data := #[] }), .raw (.string { data := #[] })] := by kernel_rfl
theorem bp35 : (aPlaces Try.prog 35).isSome = true := by kernel_rfl
theorem bz78 : (zeroT Try.prog 78).map (fun z => z.cells.toList.map AVal.raw) = some [.raw (.string { data := #[] }), .raw (.int .i64 0), .raw (.int .i64 0), .raw (.map none), .raw (.slice none 0 0)] := by kernel_rfl
theorem bp78 : (aPlaces Try.prog 78).isSome = true := by kernel_rfl
theorem bz81 : (zeroT Try.prog 81).map (fun z => z.cells.toList.map AVal.raw) = some [.raw (.int .i64 0), .raw (.int .i64 0)] := by kernel_rfl
theorem bp81 : (aPlaces Try.prog 81).isSome = true := by kernel_rfl
theorem bz83 : (zeroT Try.prog 83).map (fun z => z.cells.toList.map AVal.raw) = some [.raw (.int .i64 0), .raw (.int .i64 0), .raw (.string { data := #[] })] := by kernel_rfl
theorem bp83 : (aPlaces Try.prog 83).isSome = true := by kernel_rfl
theorem fo30_1 : fo Try.prog 30 1 = some (1, 1) := by kernel_rfl
theorem fo30_2 : fo Try.prog 30 2 = some (2, 1) := by kernel_rfl
theorem fo30_3 : fo Try.prog 30 3 = some (3, 1) := by kernel_rfl
theorem fo30_4 : fo Try.prog 30 4 = some (4, 1) := by kernel_rfl
theorem fo35_0 : fo Try.prog 35 0 = some (0, 1) := by kernel_rfl
theorem fo35_1 : fo Try.prog 35 1 = some (1, 1) := by kernel_rfl
theorem fo35_2 : fo Try.prog 35 2 = some (2, 1) := by kernel_rfl
theorem fo35_3 : fo Try.prog 35 3 = some (3, 1) := by kernel_rfl
theorem fo35_4 : fo Try.prog 35 4 = some (4, 1) := by kernel_rfl
theorem fo78_0 : fo Try.prog 78 0 = some (0, 1) := by kernel_rfl
theorem fo78_1 : fo Try.prog 78 1 = some (1, 1) := by kernel_rfl
theorem fo78_2 : fo Try.prog 78 2 = some (2, 1) := by kernel_rfl
theorem fo78_3 : fo Try.prog 78 3 = some (3, 1) := by kernel_rfl
theorem fo78_4 : fo Try.prog 78 4 = some (4, 1) := by kernel_rfl
theorem fo81_0 : fo Try.prog 81 0 = some (0, 1) := by kernel_rfl
theorem fo81_1 : fo Try.prog 81 1 = some (1, 1) := by kernel_rfl
theorem fo83_0 : fo Try.prog 83 0 = some (0, 2) := by kernel_rfl
theorem fo83_1 : fo Try.prog 83 1 = some (2, 1) := by kernel_rfl
theorem kt9 : KeyT Try.prog 9 Value.string := keyT_str (by kernel_rfl)
theorem slt28 : SlT Try.prog 28 35 5 64 := ⟨by kernel_rfl, by kernel_rfl, by kernel_rfl, by kernel_rfl, by decide⟩
theorem slt42 : SlT Try.prog 42 3 1 8 := ⟨by kernel_rfl, by kernel_rfl, by kernel_rfl, by kernel_rfl, by decide⟩
theorem sz3 : sizeT Try.prog 3 = some 1 := by kernel_rfl
theorem sz9 : sizeT Try.prog 9 = some 1 := by kernel_rfl
theorem sz24 : sizeT Try.prog 24 = some 1 := by kernel_rfl
theorem sz28 : sizeT Try.prog 28 = some 1 := by kernel_rfl
theorem sz30 : sizeT Try.prog 30 = some 7 := by kernel_rfl
theorem sz35 : sizeT Try.prog 35 = some 5 := by kernel_rfl
theorem sz76 : sizeT Try.prog 76 = some 1 := by kernel_rfl
theorem sz83 : sizeT Try.prog 83 = some 3 := by kernel_rfl
theorem und3 : Try.prog.underlying 3 = some (.int .i64) := by kernel_rfl
theorem und4 : Try.prog.underlying 4 = some .bool := by kernel_rfl
theorem und9 : Try.prog.underlying 9 = some .string := by kernel_rfl
theorem und22 : Try.prog.underlying 22 = some (.slice 30) := by kernel_rfl
theorem und24 : Try.prog.underlying 24 = some (.pointer 78) := by kernel_rfl
theorem und28 : Try.prog.underlying 28 = some (.slice 35) := by kernel_rfl
theorem und76 : Try.prog.underlying 76 = some (.map 9 83) := by kernel_rfl
theorem und110 : Try.prog.underlying 110 = some (.int .u64) := by kernel_rfl
theorem und111 : Try.prog.underlying 111 = some (.map 9 3) := by kernel_rfl
theorem z3 : zeroT Try.prog 3 = some (.int .i64 0) := by kernel_rfl
theorem z83 : zeroT Try.prog 83 = some (.agg #[(.int .i64 0), (.int .i64 0), (.string { data := #[] })]) := by kernel_rfl
theorem zc30 : zeroCellsT Try.prog 30 = some [.raw (.int .i64 0), .raw (.string { data := #[] }), .raw (.int .i64 0), .raw (.string { data := #[] }), .raw (.string { data := #[] }), .raw (.int .i64 0), .raw (.int .i64 0)] := by kernel_rfl
theorem zc35 : zeroCellsT Try.prog 35 = some [.raw (.int .i64 0), .raw (.string { data := #[] }), .raw (.int .i64 0), .raw (.string { data := #[] }), .raw (.string { data := #[] })] := by kernel_rfl
theorem zc83 : zeroCellsT Try.prog 83 = some [.raw (.int .i64 0), .raw (.int .i64 0), .raw (.string { data := #[] })] := by kernel_rfl
theorem mixed : Try.prog.follows .mixedOrders = true := by kernel_rfl
structure Rec where
  off : Int
  prod : ByteArray
  seq : Int
  key : ByteArray
  val : ByteArray
  deriving DecidableEq, Inhabited
def enc (r : Rec) : AVal := .agg [.raw (.int .i64 r.off), .raw (.string r.prod), .raw (.int .i64 r.seq), .raw (.string r.key), .raw (.string r.val)]
def raw (r : Rec) : Value := .agg #[.int .i64 r.off, .string r.prod, .int .i64 r.seq, .string r.key, .string r.val]
def encI (n : Int) : AVal := .raw (.int .i64 n)
theorem eqg : Try.prog.eqGuardType Try.prog.depth 35 = false := by kernel_rfl
theorem stood : Try.prog.stoodInHeld 35 = false := by kernel_rfl
theorem recEq (r r' : Rec) : pr Try.prog (Op.equal 35 (raw r) (raw r')) = some (decide (r = r')) := by
  refine eqStruct Try.underlying35 stood ?_
  simp only [List.forIn_cons, List.forIn_nil]
  refine fldEq' (by decide) (part_one (v := .int .i64 r.off) ag3 rfl) (part_one (v := .int .i64 r'.off) ag3 rfl) (eq_int und3 _ _) (fun _ => rfl) rfl (congrArg Rec.off) (fun h1 => ?_)
  refine fldEq' (by decide) (part_one (v := .string r.prod) ag9 rfl) (part_one (v := .string r'.prod) ag9 rfl) (eq_str und9 _ _) (fun _ => rfl) rfl (congrArg Rec.prod) (fun h2 => ?_)
  refine fldEq' (by decide) (part_one (v := .int .i64 r.seq) ag3 rfl) (part_one (v := .int .i64 r'.seq) ag3 rfl) (eq_int und3 _ _) (fun _ => rfl) rfl (congrArg Rec.seq) (fun h3 => ?_)
  refine fldEq' (by decide) (part_one (v := .string r.key) ag9 rfl) (part_one (v := .string r'.key) ag9 rfl) (eq_str und9 _ _) (fun _ => rfl) rfl (congrArg Rec.key) (fun h4 => ?_)
  refine fldEq' (by decide) (part_one (v := .string r.val) ag9 rfl) (part_one (v := .string r'.val) ag9 rfl) (eq_str und9 _ _) (fun _ => rfl) rfl (congrArg Rec.val) (fun h5 => ?_)
  have : r = r' := by cases r; cases r'; simp at h1 h2 h3 h4 h5; simp [*]
  simp only [this, decide_true]; rfl
theorem binNeq (x y : Operand) (r r' : Rec) : aBin Try.prog .neq 35 x y (enc r) (enc r') = some (.raw (.bool (!decide (r = r')))) :=
  aBin_structNeq eqg rfl rfl (fun _ _ h => by cases h) (recEq r r')
theorem elsR {l : List Rec} : Els 5 (l.map enc) := Els.map fun _ => ⟨rfl, rfl⟩
theorem elsI {l : List Int} : Els 1 (l.map encI) := Els.map fun _ => ⟨rfl, rfl⟩

def emp : ByteArray := { data := #[] }
/-- Is the i-th record superseded? -/
def superB (l : List Rec) (i : Nat) : Bool := decide ((l.getD i default).key ≠ emp) && (l.drop (i + 1)).any fun r => decide (r.key = (l.getD i default).key)
theorem superB_iff {l : List Rec} {i : Nat} (hi : i < l.length) : superB l i = true ↔ l[i].key ≠ emp ∧ ∃ j, ∃ h : j < l.length, i < j ∧ l[j].key = l[i].key := by
  unfold superB
  have e : l.getD i default = l[i] := by simp [List.getD, hi]
  rw [e]
  simp only [Bool.and_eq_true, decide_eq_true_eq, List.any_eq_true, List.mem_drop_iff_getElem]
  constructor
  · rintro ⟨h1, r, ⟨k, hk, rfl⟩, h2⟩
    exact ⟨h1, i + 1 + k, by omega, by omega, h2⟩
  · rintro ⟨h1, j, hj, h2, h3⟩
    refine ⟨h1, l[j], ⟨j - (i + 1), by omega, ?_⟩, h3⟩
    congr 1
    omega
/-- The records that stay, of the first n. -/
def keepN (l : List Rec) (upto : Int) (n : Nat) : List Rec := ((List.range n).filter fun i => !superB l i || decide (upto ≤ (l.getD i default).off)).map fun i => l.getD i default
def goneN (l : List Rec) (upto : Int) (n : Nat) : List Int := ((List.range n).filter fun i => superB l i && decide ((l.getD i default).off < upto)).map fun i => (l.getD i default).off
theorem keepN_succ (l : List Rec) (upto : Int) {n : Nat} (h : n < l.length) : keepN l upto (n + 1) = keepN l upto n ++ if !superB l n || decide (upto ≤ l[n].off) then [l[n]] else [] := by
  have e : l.getD n default = l[n] := by simp [List.getD, h]
  unfold keepN
  rw [List.range_succ, List.filter_append, List.map_append]
  congr 1
  simp only [List.filter_cons, List.filter_nil, e]
  split <;> simp [List.getD, h]
theorem goneN_succ (l : List Rec) (upto : Int) {n : Nat} (h : n < l.length) : goneN l upto (n + 1) = goneN l upto n ++ if superB l n && decide (l[n].off < upto) then [l[n].off] else [] := by
  have e : l.getD n default = l[n] := by simp [List.getD, h]
  unfold goneN
  rw [List.range_succ, List.filter_append, List.map_append]
  congr 1
  simp only [List.filter_cons, List.filter_nil, e]
  split <;> simp [List.getD, h]
theorem keepN_len (l : List Rec) (upto : Int) (n : Nat) : (keepN l upto n).length ≤ n := by
  unfold keepN; rw [List.length_map]; exact Nat.le_trans (List.length_filter_le _ _) (by simp)
theorem goneN_len (l : List Rec) (upto : Int) (n : Nat) : (goneN l upto n).length ≤ n := by
  unfold goneN; rw [List.length_map]; exact Nat.le_trans (List.length_filter_le _ _) (by simp)
theorem app_map {α : Type} {f : α → AVal} {l : List α} {x : α} {l' : List α} (h : l' = l ++ [x]) : (AVal.sl (l.map f ++ [f x]) true) = .sl (l'.map f) true := by subst h; simp


def encN (n : Nat) : AVal := .raw (.int .i64 n)
/-- The last place below n that has this key. -/
def lastN (l : List Rec) (key : ByteArray) : Nat → Option Nat
  | 0 => none
  | n + 1 => if (l.getD n default).key = key then some n else lastN l key n
theorem getD_lt {l : List Rec} {n : Nat} (h : n < l.length) : l.getD n default = l[n] := by simp [List.getD, h]
theorem lastN_spec (l : List Rec) (key : ByteArray) : ∀ n, (∀ m, lastN l key n = some m → m < n ∧ (l.getD m default).key = key ∧ ∀ j, m < j → j < n → (l.getD j default).key ≠ key) ∧ (lastN l key n = none → ∀ j < n, (l.getD j default).key ≠ key)
  | 0 => ⟨fun m h => by simp [lastN] at h, fun _ j h => by omega⟩
  | n + 1 => by
    obtain ⟨h1, h2⟩ := lastN_spec l key n
    unfold lastN
    by_cases h : (l.getD n default).key = key
    · rw [if_pos h]
      exact ⟨fun m e => by obtain rfl := Option.some.inj e; exact ⟨by omega, h, fun j _ _ => by omega⟩, fun e => by cases e⟩
    · rw [if_neg h]
      refine ⟨fun m e => ?_, fun e j hj => ?_⟩
      · obtain ⟨h3, h4, h5⟩ := h1 m e
        exact ⟨by omega, h4, fun j h6 h7 => by by_cases e : j = n; · subst e; exact h
                                               · exact h5 j h6 (by omega)⟩
      · by_cases e' : j = n
        · subst e'; exact h
        · exact h2 e j (by omega)
theorem last_gt {l : List Rec} {i : Nat} (hi : i < l.length) (hk : l[i].key ≠ emp) : ((i : Int) < (((lastN l l[i].key l.length).getD 0 : Nat) : Int)) ↔ superB l i = true := by
  rw [superB_iff hi]
  obtain ⟨h1, h2⟩ := lastN_spec l l[i].key l.length
  cases h : lastN l l[i].key l.length with
  | none => exact absurd rfl (by have := h2 h i hi; rw [getD_lt hi] at this; exact this)
  | some m =>
    obtain ⟨h3, h4, h5⟩ := h1 m h
    rw [getD_lt h3] at h4
    simp only [Option.getD_some]
    constructor
    · intro h6; exact ⟨hk, m, h3, by omega, h4⟩
    · rintro ⟨-, j, hj, h6, h7⟩
      rcases Nat.lt_or_ge m j with h8 | h8
      · exact absurd h7 (by have := h5 j h8 hj; rw [getD_lt hj] at this; exact this)
      · omega
theorem lookN (o : Option Nat) : ((o.map encN).getD (ofConst (.int .i64 0))).shut = .raw (.int .i64 ((o.getD 0 : Nat) : Int)) := by
  cases o <;> rfl
theorem ne_fresh {M : Mem} {b c : Nat} {o : AObj} (h : M b = none) (h' : M c = some o) : c ≠ b := fun e => by subst e; rw [h] at h'; cases h'

def int (n : Int) : AVal := .raw (.int .i64 n)
def str (s : ByteArray) : AVal := .raw (.string s)
def ptr (b : Nat) : AVal := .raw (.pointer (some ⟨b, 0, none⟩))
def bool (b : Bool) : AVal := .raw (.bool b)
def wordC (n : Int) : Bool := decide (97 ≤ n) && decide (n ≤ 122) || decide (48 ≤ n) && decide (n ≤ 57)
/-- A word. -/
def word (s : ByteArray) : Bool := decide (s ≠ emp) && decide (s.size ≤ 20) && s.data.toList.all fun b => wordC b.toNat
theorem decode_low {s : ByteArray} {p : Nat} (h : p < s.size) : ((s.data[p]'h).toNat < 128 → Utf8.decode s p = ((s.data[p]'h).toNat, 1)) ∧ (128 ≤ (s.data[p]'h).toNat → 128 ≤ (Utf8.decode s p).1) := by
  have e : (s.get! (p + 0)).toNat = (s.data[p]'h).toNat := by
    have h' : p < s.data.size := h
    show (s.data[p]!).toNat = _
    rw [getElem!_pos s.data p h']
  unfold Utf8.decode
  simp only [e]
  constructor
  · intro h1; rw [if_pos h1]
  · intro h1
    rw [if_neg (by omega)]
    have hr : 128 ≤ Utf8.runeError := by decide
    split
    · split
      · rename_i hc; exact hc
      · exact hr
    · split
      · split
        · rename_i hc; simp only [Bool.and_eq_true, decide_eq_true_eq] at hc; dsimp only; omega
        · exact hr
      · split
        · split
          · rename_i hc; simp only [Bool.and_eq_true, decide_eq_true_eq] at hc; dsimp only; omega
          · exact hr
        · exact hr
theorem wordC_lt {n : Int} (h : wordC n = true) : n < 128 := by
  simp [wordC] at h; omega
def right (r : Rec) : Bool := decide (0 ≤ min r.off r.seq) && decide (max r.off r.seq ≤ 9007199254740991) && decide (r.prod.size ≤ 20) && decide (r.key.size ≤ 100) && decide (r.val.size ≤ 1000)
theorem right_spec {r : Rec} : right r = true ↔ 0 ≤ r.off ∧ 0 ≤ r.seq ∧ r.off ≤ 9007199254740991 ∧ r.seq ≤ 9007199254740991 ∧ r.prod.size ≤ 20 ∧ r.key.size ≤ 100 ∧ r.val.size ≤ 1000 := by
  unfold right
  simp only [Bool.and_eq_true, decide_eq_true_eq]
  constructor
  · rintro ⟨⟨⟨⟨h1, h2⟩, h3⟩, h4⟩, h5⟩; omega
  · rintro ⟨h1, h2, h3, h4, h5, h6, h7⟩; omega
theorem ok_succ {s : ByteArray} {p : Nat} (hok : ∀ j, ∀ hj : j < s.size, j < p → wordC (s.data[j]'hj).toNat = true) (hp : p < s.size) (hw : wordC ((s.data[p]'hp).toNat : Int) = true) : ∀ j, ∀ hj : j < s.size, j < p + 1 → wordC (s.data[j]'hj).toNat = true := fun j hj hlt => by
  rcases Nat.lt_or_ge j p with h | h
  · exact hok j hj h
  · obtain rfl : j = p := by omega
    exact hw
theorem allT {s : ByteArray} {p : Nat} (h : ∀ j, ∀ hj : j < s.size, j < p → wordC (s.data[j]'hj).toNat = true) (hp : s.size ≤ p) : s.data.toList.all (fun b => wordC b.toNat) = true := by
  rw [List.all_eq_true]
  intro b hb
  obtain ⟨j, hj, rfl⟩ := List.mem_iff_getElem.1 hb
  have hj' : j < s.size := by simpa using hj
  exact h j hj' (by omega)
theorem allF {s : ByteArray} {p : Nat} (hp : p < s.size) (h : wordC (s.data[p]'hp).toNat = false) : s.data.toList.all (fun b => wordC b.toNat) = false := by
  rw [List.all_eq_false]
  refine ⟨(s.data[p]'hp), ?_, by rw [h]; decide⟩
  exact Array.mem_toList_iff.2 (Array.getElem_mem _)

def tk56 : Nat → Nat → Option Nat := fun _ _ => none
def pl56 : Nat → List PStep := fun _ => []
theorem cb56 : Try.f56.body.map (codeB Try.prog Try.f56.ntmps tk56 pl56) = some true := by kernel_rfl
theorem goes56 : goesB Try.prog 56 = true := by kernel_rfl
-- carillon/command.Word$1 params ['int32'] results [['t', 2]] own [] names ['0:r', '1:r'] calls [] paths 5
set_option maxHeartbeats 4000000 in
set_option maxRecDepth 20000 in
theorem snd56 (n : Int) (M : Mem) : SoundCall Try.prog 56 [.raw (.int .i32 n)] M fun r M' => r = bool (!wordC n) ∧ M.le M' := by
  refine SoundCall.go tk56 pl56 mixed Try.func56 cb56 rfl (Nat.le_of_ble_eq_true rfl) ?_
  refine s_seq ?_
  refine s_region ?_
  refine o_q (q_as (v_raw rfl)) rfl rfl rfl ?_
  refine o_nil ?_
  refine s_seq ?_
  refine s_region ?_
  refine o_q (q_mv (v_raw rfl)) rfl rfl rfl ?_
  refine o_q (q_geq rfl rfl) rfl rfl rfl ?_
  refine o_q (q_mv (v_raw rfl)) rfl rfl rfl ?_
  refine o_cases (want := true) (j := 2) rfl rfl (fun h1 => ?_) (fun h1 => ?_)
  · have k1 := h1; try simp only [decide_eq_true_eq, decide_eq_false_iff_not, Bool.not_eq_true', Bool.not_eq_false', Bool.not_true, Bool.not_false, List.length_map, Decidable.not_not] at k1
    refine o_yes rfl rfl rfl h1 ?_
    refine o_q (q_mv (v_raw rfl)) rfl rfl rfl ?_
    refine o_yes rfl rfl rfl h1 ?_
    refine o_q (q_leq rfl rfl) rfl rfl rfl ?_
    refine o_q (q_pick_c (t := true) rfl h1 (v_raw rfl)) rfl rfl rfl ?_
    refine o_q (q_mv (v_raw rfl)) rfl rfl rfl ?_
    refine o_cases (want := false) (j := 6) rfl rfl (fun h2 => ?_) (fun h2 => ?_)
    · have k2 := h2; try simp only [decide_eq_true_eq, decide_eq_false_iff_not, Bool.not_eq_true', Bool.not_eq_false', Bool.not_true, Bool.not_false, List.length_map, Decidable.not_not] at k2
      refine o_yes rfl rfl rfl h2 ?_
      refine o_q (q_mv (v_raw rfl)) rfl rfl rfl ?_
      refine o_yes rfl rfl rfl h2 ?_
      refine o_q (q_geq rfl rfl) rfl rfl rfl ?_
      refine o_yes rfl rfl rfl h2 ?_
      refine o_q (q_mv (v_raw rfl)) rfl rfl rfl ?_
      refine o_cases (want := true) (j := 9) rfl rfl (fun h3 => ?_) (fun h3 => ?_)
      · have k3 := h3; try simp only [decide_eq_true_eq, decide_eq_false_iff_not, Bool.not_eq_true', Bool.not_eq_false', Bool.not_true, Bool.not_false, List.length_map, Decidable.not_not] at k3
        refine o_yes rfl rfl rfl h3 ?_
        refine o_q (q_mv (v_raw rfl)) rfl rfl rfl ?_
        refine o_yes rfl rfl rfl h3 ?_
        refine o_q (q_leq rfl rfl) rfl rfl rfl ?_
        refine o_yes rfl rfl rfl h2 ?_
        refine o_q (q_pick_c (t := true) rfl h3 (v_raw rfl)) rfl rfl rfl ?_
        refine o_q (q_pick_c (t := false) rfl h2 (v_raw rfl)) rfl rfl rfl ?_
        refine o_q (q_not rfl) rfl rfl rfl ?_
        refine o_q (q_as (v_raw rfl)) rfl rfl rfl ?_
        refine o_nil ?_
        refine s_ret ?_
        refine s_end ?_
        refine ⟨congrArg (fun b => AVal.raw (.bool b)) ?_, (by repeat first | exact hle | exact Mem.le_refl M | assumption | exact Mem.none_of_le hle (by assumption) | refine Mem.le_upd ?_ ?_)⟩
        simp_all [wordC]
      · have k3 := h3; try simp only [decide_eq_true_eq, decide_eq_false_iff_not, Bool.not_eq_true', Bool.not_eq_false', Bool.not_true, Bool.not_false, List.length_map, Decidable.not_not] at k3
        refine o_no rfl rfl rfl rfl h3 ?_
        refine o_no rfl rfl rfl rfl h3 ?_
        refine o_yes rfl rfl rfl h2 ?_
        refine o_q (q_pick_c (t := false) rfl h3 (v_raw rfl)) rfl rfl rfl ?_
        refine o_q (q_pick_c (t := false) rfl h2 (v_raw rfl)) rfl rfl rfl ?_
        refine o_q (q_not rfl) rfl rfl rfl ?_
        refine o_q (q_as (v_raw rfl)) rfl rfl rfl ?_
        refine o_nil ?_
        refine s_ret ?_
        refine s_end ?_
        refine ⟨congrArg (fun b => AVal.raw (.bool b)) ?_, (by repeat first | exact hle | exact Mem.le_refl M | assumption | exact Mem.none_of_le hle (by assumption) | refine Mem.le_upd ?_ ?_)⟩
        simp_all [wordC]
    · have k2 := h2; try simp only [decide_eq_true_eq, decide_eq_false_iff_not, Bool.not_eq_true', Bool.not_eq_false', Bool.not_true, Bool.not_false, List.length_map, Decidable.not_not] at k2
      refine o_no rfl rfl rfl rfl h2 ?_
      refine o_no rfl rfl rfl rfl h2 ?_
      refine o_no rfl rfl rfl rfl h2 ?_
      refine o_skip rfl rfl rfl rfl ?_
      refine o_skip rfl rfl rfl rfl ?_
      refine o_no rfl rfl rfl rfl h2 ?_
      refine o_q (q_pick_c (t := true) rfl h2 (v_raw rfl)) rfl rfl rfl ?_
      refine o_q (q_not rfl) rfl rfl rfl ?_
      refine o_q (q_as (v_raw rfl)) rfl rfl rfl ?_
      refine o_nil ?_
      refine s_ret ?_
      refine s_end ?_
      refine ⟨congrArg (fun b => AVal.raw (.bool b)) ?_, (by repeat first | exact hle | exact Mem.le_refl M | assumption | exact Mem.none_of_le hle (by assumption) | refine Mem.le_upd ?_ ?_)⟩
      simp_all [wordC]
  · have k1 := h1; try simp only [decide_eq_true_eq, decide_eq_false_iff_not, Bool.not_eq_true', Bool.not_eq_false', Bool.not_true, Bool.not_false, List.length_map, Decidable.not_not] at k1
    refine o_no rfl rfl rfl rfl h1 ?_
    refine o_no rfl rfl rfl rfl h1 ?_
    refine o_q (q_pick_c (t := false) rfl h1 (v_raw rfl)) rfl rfl rfl ?_
    refine o_q (q_mv (v_raw rfl)) rfl rfl rfl ?_
    refine o_yes rfl rfl rfl rfl ?_
    refine o_q (q_mv (v_raw rfl)) rfl rfl rfl ?_
    refine o_yes rfl rfl rfl rfl ?_
    refine o_q (q_geq rfl rfl) rfl rfl rfl ?_
    refine o_yes rfl rfl rfl rfl ?_
    refine o_q (q_mv (v_raw rfl)) rfl rfl rfl ?_
    refine o_cases (want := true) (j := 9) rfl rfl (fun h4 => ?_) (fun h4 => ?_)
    · have k4 := h4; try simp only [decide_eq_true_eq, decide_eq_false_iff_not, Bool.not_eq_true', Bool.not_eq_false', Bool.not_true, Bool.not_false, List.length_map, Decidable.not_not] at k4
      refine o_yes rfl rfl rfl h4 ?_
      refine o_q (q_mv (v_raw rfl)) rfl rfl rfl ?_
      refine o_yes rfl rfl rfl h4 ?_
      refine o_q (q_leq rfl rfl) rfl rfl rfl ?_
      refine o_yes rfl rfl rfl rfl ?_
      refine o_q (q_pick_c (t := true) rfl h4 (v_raw rfl)) rfl rfl rfl ?_
      refine o_q (q_pick_c (t := false) rfl rfl (v_raw rfl)) rfl rfl rfl ?_
      refine o_q (q_not rfl) rfl rfl rfl ?_
      refine o_q (q_as (v_raw rfl)) rfl rfl rfl ?_
      refine o_nil ?_
      refine s_ret ?_
      refine s_end ?_
      refine ⟨congrArg (fun b => AVal.raw (.bool b)) ?_, (by repeat first | exact hle | exact Mem.le_refl M | assumption | exact Mem.none_of_le hle (by assumption) | refine Mem.le_upd ?_ ?_)⟩
      simp_all [wordC]
    · have k4 := h4; try simp only [decide_eq_true_eq, decide_eq_false_iff_not, Bool.not_eq_true', Bool.not_eq_false', Bool.not_true, Bool.not_false, List.length_map, Decidable.not_not] at k4
      refine o_no rfl rfl rfl rfl h4 ?_
      refine o_no rfl rfl rfl rfl h4 ?_
      refine o_yes rfl rfl rfl rfl ?_
      refine o_q (q_pick_c (t := false) rfl h4 (v_raw rfl)) rfl rfl rfl ?_
      refine o_q (q_pick_c (t := false) rfl rfl (v_raw rfl)) rfl rfl rfl ?_
      refine o_q (q_not rfl) rfl rfl rfl ?_
      refine o_q (q_as (v_raw rfl)) rfl rfl rfl ?_
      refine o_nil ?_
      refine s_ret ?_
      refine s_end ?_
      refine ⟨congrArg (fun b => AVal.raw (.bool b)) ?_, (by repeat first | exact hle | exact Mem.le_refl M | assumption | exact Mem.none_of_le hle (by assumption) | refine Mem.le_upd ?_ ?_)⟩
      simp_all [wordC]

def tk60 : Nat → Nat → Option Nat := fun _ _ => none
def pl60 : Nat → List PStep := fun _ => []
theorem cb60 : Try.f60.body.map (codeB Try.prog Try.f60.ntmps tk60 pl60) = some true := by kernel_rfl
theorem goes60 : goesB Try.prog 60 = true := by kernel_rfl
-- strings.indexFunc params ['string', 'func(int32) bool', 'bool'] results [['t', 6]] own [] names ['0:s', '1:f', '2:truth', '3:s', '4:f', '5:truth', '7:i', '8:r'] calls [] paths 3
set_option maxHeartbeats 4000000 in
set_option maxRecDepth 20000 in
theorem snd60 (s : ByteArray) (M : Mem) : SoundCall Try.prog 60 [str s, .raw (.func (.func 56) #[] #[]), bool true] M fun r M' => ∃ n : Int, r = int n ∧ decide (n < 0) = s.data.toList.all (fun b => wordC b.toNat) ∧ M.le M' := by
  refine SoundCall.go tk60 pl60 mixed Try.func60 cb60 rfl (Nat.le_of_ble_eq_true rfl) ?_
  refine s_seq ?_
  refine s_region ?_
  refine o_q (q_as (v_raw rfl)) rfl rfl rfl ?_
  refine o_nil ?_
  refine s_seq ?_
  refine s_seq ?_
  refine s_region ?_
  refine o_q (q_mv (v_raw rfl)) rfl rfl rfl ?_
  refine o_range und9 rfl (fun B1 hB1 => ?_)
  refine o_nil ?_
  refine s_block ?_
  refine s_loop (fun m S => ∃ T, ∃ M' : Mem, ∃ p : Nat, S = ⟨setT (setT (setT (setT T 0 (str s)) 1 (.raw (.func (.func 56) #[] #[]))) 2 (bool true)) 10 (ptr B1), M'⟩ ∧ M.le M' ∧ M' B1 = some (.it (.stringIter s p)) ∧ (∀ j, ∀ hj : j < s.size, j < p → wordC (s.data[j]'hj).toNat = true) ∧ m = s.size - p) s.size ?_ ?_
  · exact ⟨_, _, 0, St.mkT (kp (kp (kp (kp rfl rfl) rfl) rfl) rfl).symm, (by repeat first | exact hle | exact Mem.le_refl M | assumption | exact Mem.none_of_le hle (by assumption) | refine Mem.le_upd ?_ ?_), (by repeat first | exact Mem.upd_self _ _ _ | assumption | refine Mem.upd_ne (by assumption) ?_), fun j _ h => by omega, rfl⟩
  rintro m S ⟨T, M', p, rfl, hle, hB, hok, rfl⟩
  refine s_seq ?_
  refine s_region ?_
  refine o_next rfl (by repeat first | exact Mem.upd_self _ _ _ | assumption | refine Mem.upd_ne (by assumption) ?_) (fun h1 => ?_) (fun h1 => ?_)
  · skip
    obtain ⟨d1, d2⟩ := decode_low h1
    refine o_q (q_extr rfl rfl) rfl rfl rfl ?_
    refine o_nil ?_
    refine s_seq ?_
    refine s_then rfl rfl ?_
    refine s_skip ?_
    refine s_block ?_
    refine s_seq ?_
    refine s_region ?_
    refine o_q (q_extr rfl rfl) rfl rfl rfl ?_
    refine o_q (q_extr rfl rfl) rfl rfl rfl ?_
    refine o_q (q_as (v_raw rfl)) rfl rfl rfl ?_
    refine o_q (q_as (v_raw rfl)) rfl rfl rfl ?_
    refine o_nil ?_
    refine s_seq ?_
    refine s_region ?_
    refine o_q (q_mv (v_raw rfl)) rfl rfl rfl ?_
    refine o_q (q_mv (v_raw rfl)) rfl rfl rfl ?_
    refine o_callv rfl ((snd56 ((Utf8.decode s p).1 : Int) _).det) goes56 (ac (v_raw rfl) ac_nil) rfl rfl ?_
    rintro r M'' ⟨rfl, rfl⟩
    refine o_q (q_mv (v_raw rfl)) rfl rfl rfl ?_
    refine o_q (q_beql und4 rfl rfl) rfl rfl rfl ?_
    refine o_nil ?_
    refine s_cond rfl (fun h2 => ?_) (fun h2 => ?_)
    · have k2 := h2; try simp only [decide_eq_true_eq, decide_eq_false_iff_not, Bool.not_eq_true', Bool.not_eq_false', Bool.not_true, Bool.not_false, List.length_map, Decidable.not_not] at k2
      refine s_seq ?_
      refine s_region ?_
      refine o_q (q_mv (v_raw rfl)) rfl rfl rfl ?_
      refine o_q (q_as (v_raw rfl)) rfl rfl rfl ?_
      refine o_nil ?_
      refine s_ret ?_
      refine s_blk_ret ?_
      refine s_inv_ret ?_
      refine s_blk_ret ?_
      refine s_code_ret ?_
      refine s_end ?_
      refine ⟨p, rfl, ?_, (by repeat first | exact hle | exact Mem.le_refl M | assumption | exact Mem.none_of_le hle (by assumption) | refine Mem.le_upd ?_ ?_)⟩
      have hw : wordC ((Utf8.decode s p).1 : Int) = false := by simpa using k2
      rw [allF h1 (by
        by_cases hlt : (s.data[p]'h1).toNat < 128
        · rw [d1 hlt] at hw; exact hw
        · rw [Bool.eq_false_iff]; intro hc; have := wordC_lt hc; omega)]
      simp
    · have k2 := h2; try simp only [decide_eq_true_eq, decide_eq_false_iff_not, Bool.not_eq_true', Bool.not_eq_false', Bool.not_true, Bool.not_false, List.length_map, Decidable.not_not] at k2
      refine s_skip ?_
      refine s_blk_normal ?_
      refine s_inv ?_
      have hw : wordC ((Utf8.decode s p).1 : Int) = true := by simpa using k2
      have hlt : (s.data[p]'h1).toNat < 128 := by
        rcases Nat.lt_or_ge (s.data[p]'h1).toNat 128 with h | h
        · exact h
        · have := d2 h; have := wordC_lt hw; omega
      rw [d1 hlt] at hw ⊢
      exact ⟨s.size - (p + 1), by omega, _, _, p + 1, St.mkT (kp (kp (kp (kp rfl rfl) rfl) rfl) rfl).symm, (by repeat first | exact hle | exact Mem.le_refl M | assumption | exact Mem.none_of_le hle (by assumption) | refine Mem.le_upd ?_ ?_), (by repeat first | exact Mem.upd_self _ _ _ | assumption | refine Mem.upd_ne (by assumption) ?_), ok_succ hok h1 hw, rfl⟩
  · skip
    refine o_q (q_extr rfl rfl) rfl rfl rfl ?_
    refine o_nil ?_
    refine s_seq ?_
    refine s_else rfl rfl ?_
    refine s_exit ?_
    refine s_code_exit ?_
    refine s_inv_exit ?_
    refine s_blk_here ?_
    refine s_seq ?_
    refine s_region ?_
    refine o_q (q_as (v_raw rfl)) rfl rfl rfl ?_
    refine o_nil ?_
    refine s_ret ?_
    refine s_end ?_
    refine ⟨-1, rfl, ?_, (by repeat first | exact hle | exact Mem.le_refl M | assumption | exact Mem.none_of_le hle (by assumption) | refine Mem.le_upd ?_ ?_)⟩
    rw [allT hok (by omega)]; decide

def tk55 : Nat → Nat → Option Nat := fun _ _ => none
def pl55 : Nat → List PStep := fun _ => []
theorem cb55 : Try.f55.body.map (codeB Try.prog Try.f55.ntmps tk55 pl55) = some true := by kernel_rfl
theorem goes55 : goesB Try.prog 55 = true := by kernel_rfl
-- strings.IndexFunc params ['string', 'func(int32) bool'] results [['t', 4]] own [] names ['0:s', '1:f', '2:s', '3:f'] calls [60] paths 1
set_option maxHeartbeats 4000000 in
set_option maxRecDepth 20000 in
theorem snd55 (s : ByteArray) (M : Mem) : SoundCall Try.prog 55 [str s, .raw (.func (.func 56) #[] #[])] M fun r M' => ∃ n : Int, r = int n ∧ decide (n < 0) = s.data.toList.all (fun b => wordC b.toNat) ∧ M.le M' := by
  refine SoundCall.go tk55 pl55 mixed Try.func55 cb55 rfl (Nat.le_of_ble_eq_true rfl) ?_
  refine s_seq ?_
  refine s_region ?_
  refine o_q (q_as (v_raw rfl)) rfl rfl rfl ?_
  refine o_nil ?_
  refine s_seq ?_
  refine s_region ?_
  refine o_q (q_mv (v_raw rfl)) rfl rfl rfl ?_
  refine o_q (q_mv (v_raw rfl)) rfl rfl rfl ?_
  refine o_callx (snd60 s _) goes60 (ac (v_raw rfl) (ac (v_raw rfl) (ac (v_raw rfl) ac_nil))) rfl ?_
  rintro r M' ⟨n, rfl, hn, hle⟩
  refine o_q (q_as (v_raw rfl)) rfl rfl rfl ?_
  refine o_nil ?_
  refine s_ret ?_
  refine s_end ?_
  exact ⟨n, rfl, hn, hle⟩

def tk40 : Nat → Nat → Option Nat := fun _ _ => none
def pl40 : Nat → List PStep := fun _ => []
theorem cb40 : Try.f40.body.map (codeB Try.prog Try.f40.ntmps tk40 pl40) = some true := by kernel_rfl
theorem goes40 : goesB Try.prog 40 = true := by kernel_rfl
-- carillon/command.Word params ['string'] results [['t', 2]] own [] names ['0:s', '1:s'] calls [55] paths 3
set_option maxHeartbeats 4000000 in
set_option maxRecDepth 20000 in
theorem snd40 (s : ByteArray) (M : Mem) : SoundCall Try.prog 40 [str s] M fun r M' => r = bool (word s) ∧ M.le M' := by
  refine SoundCall.go tk40 pl40 mixed Try.func40 cb40 rfl (Nat.le_of_ble_eq_true rfl) ?_
  refine s_seq ?_
  refine s_region ?_
  refine o_q (q_as (v_raw rfl)) rfl rfl rfl ?_
  refine o_nil ?_
  refine s_seq ?_
  refine s_region ?_
  refine o_q (q_mv (v_raw rfl)) rfl rfl rfl ?_
  refine o_q (q_sneq rfl rfl) rfl rfl rfl ?_
  refine o_q (q_mv (v_raw rfl)) rfl rfl rfl ?_
  refine o_cases (want := true) (j := 2) rfl rfl (fun h1 => ?_) (fun h1 => ?_)
  · have k1 := h1; try simp only [decide_eq_true_eq, decide_eq_false_iff_not, Bool.not_eq_true', Bool.not_eq_false', Bool.not_true, Bool.not_false, List.length_map, Decidable.not_not] at k1
    refine o_yes rfl rfl rfl h1 ?_
    refine o_q (q_mv (v_raw rfl)) rfl rfl rfl ?_
    refine o_yes rfl rfl rfl h1 ?_
    refine o_q (q_lens rfl und9 rfl) rfl rfl rfl ?_
    refine o_yes rfl rfl rfl h1 ?_
    refine o_q (q_leq rfl rfl) rfl rfl rfl ?_
    refine o_q (q_pick_c (t := true) rfl h1 (v_raw rfl)) rfl rfl rfl ?_
    refine o_q (q_mv (v_raw rfl)) rfl rfl rfl ?_
    refine o_cases (want := true) (j := 7) rfl rfl (fun h2 => ?_) (fun h2 => ?_)
    · have k2 := h2; try simp only [decide_eq_true_eq, decide_eq_false_iff_not, Bool.not_eq_true', Bool.not_eq_false', Bool.not_true, Bool.not_false, List.length_map, Decidable.not_not] at k2
      refine o_yes rfl rfl rfl h2 ?_
      refine o_q (q_mv (v_raw rfl)) rfl rfl rfl ?_
      refine o_yes rfl rfl rfl h2 ?_
      refine o_callx (snd55 s _) goes55 (ac (v_raw rfl) (ac (v_raw rfl) ac_nil)) rfl ?_
      rintro r M' ⟨n, rfl, hn, hle⟩
      refine o_yes rfl rfl rfl h2 ?_
      refine o_q (q_lss rfl rfl) rfl rfl rfl ?_
      refine o_q (q_pick_c (t := true) rfl h2 (v_raw rfl)) rfl rfl rfl ?_
      refine o_q (q_as (v_raw rfl)) rfl rfl rfl ?_
      refine o_nil ?_
      refine s_ret ?_
      refine s_end ?_
      refine ⟨congrArg (fun b => AVal.raw (.bool b)) ?_, (by repeat first | exact hle | exact Mem.le_refl M | assumption | exact Mem.none_of_le hle (by assumption) | refine Mem.le_upd ?_ ?_)⟩
      simp_all [word, emp] <;> (intros; omega)
    · have k2 := h2; try simp only [decide_eq_true_eq, decide_eq_false_iff_not, Bool.not_eq_true', Bool.not_eq_false', Bool.not_true, Bool.not_false, List.length_map, Decidable.not_not] at k2
      refine o_no rfl rfl rfl rfl h2 ?_
      refine o_no rfl rfl rfl rfl h2 ?_
      refine o_no rfl rfl rfl rfl h2 ?_
      refine o_q (q_pick_c (t := false) rfl h2 (v_raw rfl)) rfl rfl rfl ?_
      refine o_q (q_as (v_raw rfl)) rfl rfl rfl ?_
      refine o_nil ?_
      refine s_ret ?_
      refine s_end ?_
      refine ⟨congrArg (fun b => AVal.raw (.bool b)) ?_, (by repeat first | exact hle | exact Mem.le_refl M | assumption | exact Mem.none_of_le hle (by assumption) | refine Mem.le_upd ?_ ?_)⟩
      simp_all [word, emp] <;> (intros; omega)
  · have k1 := h1; try simp only [decide_eq_true_eq, decide_eq_false_iff_not, Bool.not_eq_true', Bool.not_eq_false', Bool.not_true, Bool.not_false, List.length_map, Decidable.not_not] at k1
    refine o_no rfl rfl rfl rfl h1 ?_
    refine o_no rfl rfl rfl rfl h1 ?_
    refine o_no rfl rfl rfl rfl h1 ?_
    refine o_q (q_pick_c (t := false) rfl h1 (v_raw rfl)) rfl rfl rfl ?_
    refine o_q (q_mv (v_raw rfl)) rfl rfl rfl ?_
    refine o_no rfl rfl rfl rfl rfl ?_
    refine o_no rfl rfl rfl rfl rfl ?_
    refine o_no rfl rfl rfl rfl rfl ?_
    refine o_q (q_pick_c (t := false) rfl rfl (v_raw rfl)) rfl rfl rfl ?_
    refine o_q (q_as (v_raw rfl)) rfl rfl rfl ?_
    refine o_nil ?_
    refine s_ret ?_
    refine s_end ?_
    refine ⟨congrArg (fun b => AVal.raw (.bool b)) ?_, (by repeat first | exact hle | exact Mem.le_refl M | assumption | exact Mem.none_of_le hle (by assumption) | refine Mem.le_upd ?_ ?_)⟩
    simp_all [word, emp] <;> (intros; omega)

def tk41 : Nat → Nat → Option Nat := fun _ _ => none
def pl41 : Nat → List PStep := fun _ => []
theorem cb41 : Try.f41.body.map (codeB Try.prog Try.f41.ntmps tk41 pl41) = some true := by kernel_rfl
theorem goes41 : goesB Try.prog 41 = true := by kernel_rfl
-- carillon/segment.Right params ['api.Record'] results [['t', 2]] own [] names ['0:r', '1:r'] calls [] paths 5
set_option maxHeartbeats 4000000 in
set_option maxRecDepth 20000 in
theorem snd41 (r : Rec) (M : Mem) : SoundCall Try.prog 41 [enc r] M fun t M' => t = bool (right r) ∧ M.le M' := by
  refine SoundCall.go tk41 pl41 mixed Try.func41 cb41 rfl (Nat.le_of_ble_eq_true rfl) ?_
  refine s_seq ?_
  refine s_region ?_
  refine o_box (by first | exact e_raw rfl | exact e_agg rfl | exact e_sl rfl) rfl rfl (fun B1 hB1 => ?_)
  have m1 : M B1 = none := by have h := hB1; repeat (first | exact h | exact Mem.none_of_le hle h | replace h := (Mem.upd_none h).2)
  refine o_q (q_as (v_raw rfl)) rfl rfl rfl ?_
  refine o_nil ?_
  refine s_seq ?_
  refine s_region ?_
  refine o_q (q_fr fo35_0 rfl) rfl rfl rfl ?_
  refine o_q (q_ldm ag3 sz3 rfl (by repeat first | exact Mem.upd_self _ _ _ | assumption | refine Mem.upd_ne (by assumption) ?_) rfl (v_raw rfl)) rfl rfl rfl ?_
  refine o_q (q_fr fo35_2 rfl) rfl rfl rfl ?_
  refine o_q (q_ldm ag3 sz3 rfl (by repeat first | exact Mem.upd_self _ _ _ | assumption | refine Mem.upd_ne (by assumption) ?_) rfl (v_raw rfl)) rfl rfl rfl ?_
  refine o_q (q_min rfl rfl) rfl rfl rfl ?_
  refine o_q (q_geq rfl rfl) rfl rfl rfl ?_
  refine o_q (q_mv (v_raw rfl)) rfl rfl rfl ?_
  refine o_cases (want := true) (j := 6) rfl rfl (fun h1 => ?_) (fun h1 => ?_)
  · have k1 := h1; try simp only [decide_eq_true_eq, decide_eq_false_iff_not, Bool.not_eq_true', Bool.not_eq_false', Bool.not_true, Bool.not_false, List.length_map, Decidable.not_not] at k1
    refine o_yes rfl rfl rfl h1 ?_
    refine o_q (q_fr fo35_0 rfl) rfl rfl rfl ?_
    refine o_yes rfl rfl rfl h1 ?_
    refine o_q (q_ldm ag3 sz3 rfl (by repeat first | exact Mem.upd_self _ _ _ | assumption | refine Mem.upd_ne (by assumption) ?_) rfl (v_raw rfl)) rfl rfl rfl ?_
    refine o_yes rfl rfl rfl h1 ?_
    refine o_q (q_fr fo35_2 rfl) rfl rfl rfl ?_
    refine o_yes rfl rfl rfl h1 ?_
    refine o_q (q_ldm ag3 sz3 rfl (by repeat first | exact Mem.upd_self _ _ _ | assumption | refine Mem.upd_ne (by assumption) ?_) rfl (v_raw rfl)) rfl rfl rfl ?_
    refine o_yes rfl rfl rfl h1 ?_
    refine o_q (q_max rfl rfl) rfl rfl rfl ?_
    refine o_yes rfl rfl rfl h1 ?_
    refine o_q (q_leq rfl rfl) rfl rfl rfl ?_
    refine o_q (q_pick_c (t := true) rfl h1 (v_raw rfl)) rfl rfl rfl ?_
    refine o_q (q_mv (v_raw rfl)) rfl rfl rfl ?_
    refine o_cases (want := true) (j := 14) rfl rfl (fun h2 => ?_) (fun h2 => ?_)
    · have k2 := h2; try simp only [decide_eq_true_eq, decide_eq_false_iff_not, Bool.not_eq_true', Bool.not_eq_false', Bool.not_true, Bool.not_false, List.length_map, Decidable.not_not] at k2
      refine o_yes rfl rfl rfl h2 ?_
      refine o_q (q_fr fo35_1 rfl) rfl rfl rfl ?_
      refine o_yes rfl rfl rfl h2 ?_
      refine o_q (q_ldm ag9 sz9 rfl (by repeat first | exact Mem.upd_self _ _ _ | assumption | refine Mem.upd_ne (by assumption) ?_) rfl (v_raw rfl)) rfl rfl rfl ?_
      refine o_yes rfl rfl rfl h2 ?_
      refine o_q (q_lens rfl und9 rfl) rfl rfl rfl ?_
      refine o_yes rfl rfl rfl h2 ?_
      refine o_q (q_leq rfl rfl) rfl rfl rfl ?_
      refine o_q (q_pick_c (t := true) rfl h2 (v_raw rfl)) rfl rfl rfl ?_
      refine o_q (q_mv (v_raw rfl)) rfl rfl rfl ?_
      refine o_cases (want := true) (j := 20) rfl rfl (fun h3 => ?_) (fun h3 => ?_)
      · have k3 := h3; try simp only [decide_eq_true_eq, decide_eq_false_iff_not, Bool.not_eq_true', Bool.not_eq_false', Bool.not_true, Bool.not_false, List.length_map, Decidable.not_not] at k3
        refine o_yes rfl rfl rfl h3 ?_
        refine o_q (q_fr fo35_3 rfl) rfl rfl rfl ?_
        refine o_yes rfl rfl rfl h3 ?_
        refine o_q (q_ldm ag9 sz9 rfl (by repeat first | exact Mem.upd_self _ _ _ | assumption | refine Mem.upd_ne (by assumption) ?_) rfl (v_raw rfl)) rfl rfl rfl ?_
        refine o_yes rfl rfl rfl h3 ?_
        refine o_q (q_lens rfl und9 rfl) rfl rfl rfl ?_
        refine o_yes rfl rfl rfl h3 ?_
        refine o_q (q_leq rfl rfl) rfl rfl rfl ?_
        refine o_q (q_pick_c (t := true) rfl h3 (v_raw rfl)) rfl rfl rfl ?_
        refine o_q (q_mv (v_raw rfl)) rfl rfl rfl ?_
        refine o_cases (want := true) (j := 26) rfl rfl (fun h4 => ?_) (fun h4 => ?_)
        · have k4 := h4; try simp only [decide_eq_true_eq, decide_eq_false_iff_not, Bool.not_eq_true', Bool.not_eq_false', Bool.not_true, Bool.not_false, List.length_map, Decidable.not_not] at k4
          refine o_yes rfl rfl rfl h4 ?_
          refine o_q (q_fr fo35_4 rfl) rfl rfl rfl ?_
          refine o_yes rfl rfl rfl h4 ?_
          refine o_q (q_ldm ag9 sz9 rfl (by repeat first | exact Mem.upd_self _ _ _ | assumption | refine Mem.upd_ne (by assumption) ?_) rfl (v_raw rfl)) rfl rfl rfl ?_
          refine o_yes rfl rfl rfl h4 ?_
          refine o_q (q_lens rfl und9 rfl) rfl rfl rfl ?_
          refine o_yes rfl rfl rfl h4 ?_
          refine o_q (q_leq rfl rfl) rfl rfl rfl ?_
          refine o_q (q_pick_c (t := true) rfl h4 (v_raw rfl)) rfl rfl rfl ?_
          refine o_q (q_as (v_raw rfl)) rfl rfl rfl ?_
          refine o_nil ?_
          refine s_ret ?_
          refine s_end ?_
          refine ⟨congrArg (fun b => AVal.raw (.bool b)) ?_, (by repeat first | exact hle | exact Mem.le_refl M | assumption | exact Mem.none_of_le hle (by assumption) | refine Mem.le_upd ?_ ?_)⟩
          rw [Bool.eq_iff_iff, right_spec]
          try simp only [decide_eq_true_eq, Bool.false_eq_true, false_iff]
          omega
        · have k4 := h4; try simp only [decide_eq_true_eq, decide_eq_false_iff_not, Bool.not_eq_true', Bool.not_eq_false', Bool.not_true, Bool.not_false, List.length_map, Decidable.not_not] at k4
          refine o_no rfl rfl rfl rfl h4 ?_
          refine o_no rfl rfl rfl rfl h4 ?_
          refine o_no rfl rfl rfl rfl h4 ?_
          refine o_no rfl rfl rfl rfl h4 ?_
          refine o_q (q_pick_c (t := false) rfl h4 (v_raw rfl)) rfl rfl rfl ?_
          refine o_q (q_as (v_raw rfl)) rfl rfl rfl ?_
          refine o_nil ?_
          refine s_ret ?_
          refine s_end ?_
          refine ⟨congrArg (fun b => AVal.raw (.bool b)) ?_, (by repeat first | exact hle | exact Mem.le_refl M | assumption | exact Mem.none_of_le hle (by assumption) | refine Mem.le_upd ?_ ?_)⟩
          rw [Bool.eq_iff_iff, right_spec]
          try simp only [decide_eq_true_eq, Bool.false_eq_true, false_iff]
          omega
      · have k3 := h3; try simp only [decide_eq_true_eq, decide_eq_false_iff_not, Bool.not_eq_true', Bool.not_eq_false', Bool.not_true, Bool.not_false, List.length_map, Decidable.not_not] at k3
        refine o_no rfl rfl rfl rfl h3 ?_
        refine o_no rfl rfl rfl rfl h3 ?_
        refine o_no rfl rfl rfl rfl h3 ?_
        refine o_no rfl rfl rfl rfl h3 ?_
        refine o_q (q_pick_c (t := false) rfl h3 (v_raw rfl)) rfl rfl rfl ?_
        refine o_q (q_mv (v_raw rfl)) rfl rfl rfl ?_
        refine o_no rfl rfl rfl rfl rfl ?_
        refine o_no rfl rfl rfl rfl rfl ?_
        refine o_no rfl rfl rfl rfl rfl ?_
        refine o_no rfl rfl rfl rfl rfl ?_
        refine o_q (q_pick_c (t := false) rfl rfl (v_raw rfl)) rfl rfl rfl ?_
        refine o_q (q_as (v_raw rfl)) rfl rfl rfl ?_
        refine o_nil ?_
        refine s_ret ?_
        refine s_end ?_
        refine ⟨congrArg (fun b => AVal.raw (.bool b)) ?_, (by repeat first | exact hle | exact Mem.le_refl M | assumption | exact Mem.none_of_le hle (by assumption) | refine Mem.le_upd ?_ ?_)⟩
        rw [Bool.eq_iff_iff, right_spec]
        try simp only [decide_eq_true_eq, Bool.false_eq_true, false_iff]
        omega
    · have k2 := h2; try simp only [decide_eq_true_eq, decide_eq_false_iff_not, Bool.not_eq_true', Bool.not_eq_false', Bool.not_true, Bool.not_false, List.length_map, Decidable.not_not] at k2
      refine o_no rfl rfl rfl rfl h2 ?_
      refine o_no rfl rfl rfl rfl h2 ?_
      refine o_no rfl rfl rfl rfl h2 ?_
      refine o_no rfl rfl rfl rfl h2 ?_
      refine o_q (q_pick_c (t := false) rfl h2 (v_raw rfl)) rfl rfl rfl ?_
      refine o_q (q_mv (v_raw rfl)) rfl rfl rfl ?_
      refine o_no rfl rfl rfl rfl rfl ?_
      refine o_no rfl rfl rfl rfl rfl ?_
      refine o_no rfl rfl rfl rfl rfl ?_
      refine o_no rfl rfl rfl rfl rfl ?_
      refine o_q (q_pick_c (t := false) rfl rfl (v_raw rfl)) rfl rfl rfl ?_
      refine o_q (q_mv (v_raw rfl)) rfl rfl rfl ?_
      refine o_no rfl rfl rfl rfl rfl ?_
      refine o_no rfl rfl rfl rfl rfl ?_
      refine o_no rfl rfl rfl rfl rfl ?_
      refine o_no rfl rfl rfl rfl rfl ?_
      refine o_q (q_pick_c (t := false) rfl rfl (v_raw rfl)) rfl rfl rfl ?_
      refine o_q (q_as (v_raw rfl)) rfl rfl rfl ?_
      refine o_nil ?_
      refine s_ret ?_
      refine s_end ?_
      refine ⟨congrArg (fun b => AVal.raw (.bool b)) ?_, (by repeat first | exact hle | exact Mem.le_refl M | assumption | exact Mem.none_of_le hle (by assumption) | refine Mem.le_upd ?_ ?_)⟩
      rw [Bool.eq_iff_iff, right_spec]
      try simp only [decide_eq_true_eq, Bool.false_eq_true, false_iff]
      omega
  · have k1 := h1; try simp only [decide_eq_true_eq, decide_eq_false_iff_not, Bool.not_eq_true', Bool.not_eq_false', Bool.not_true, Bool.not_false, List.length_map, Decidable.not_not] at k1
    refine o_no rfl rfl rfl rfl h1 ?_
    refine o_no rfl rfl rfl rfl h1 ?_
    refine o_no rfl rfl rfl rfl h1 ?_
    refine o_no rfl rfl rfl rfl h1 ?_
    refine o_no rfl rfl rfl rfl h1 ?_
    refine o_no rfl rfl rfl rfl h1 ?_
    refine o_q (q_pick_c (t := false) rfl h1 (v_raw rfl)) rfl rfl rfl ?_
    refine o_q (q_mv (v_raw rfl)) rfl rfl rfl ?_
    refine o_no rfl rfl rfl rfl rfl ?_
    refine o_no rfl rfl rfl rfl rfl ?_
    refine o_no rfl rfl rfl rfl rfl ?_
    refine o_no rfl rfl rfl rfl rfl ?_
    refine o_q (q_pick_c (t := false) rfl rfl (v_raw rfl)) rfl rfl rfl ?_
    refine o_q (q_mv (v_raw rfl)) rfl rfl rfl ?_
    refine o_no rfl rfl rfl rfl rfl ?_
    refine o_no rfl rfl rfl rfl rfl ?_
    refine o_no rfl rfl rfl rfl rfl ?_
    refine o_no rfl rfl rfl rfl rfl ?_
    refine o_q (q_pick_c (t := false) rfl rfl (v_raw rfl)) rfl rfl rfl ?_
    refine o_q (q_mv (v_raw rfl)) rfl rfl rfl ?_
    refine o_no rfl rfl rfl rfl rfl ?_
    refine o_no rfl rfl rfl rfl rfl ?_
    refine o_no rfl rfl rfl rfl rfl ?_
    refine o_no rfl rfl rfl rfl rfl ?_
    refine o_q (q_pick_c (t := false) rfl rfl (v_raw rfl)) rfl rfl rfl ?_
    refine o_q (q_as (v_raw rfl)) rfl rfl rfl ?_
    refine o_nil ?_
    refine s_ret ?_
    refine s_end ?_
    refine ⟨congrArg (fun b => AVal.raw (.bool b)) ?_, (by repeat first | exact hle | exact Mem.le_refl M | assumption | exact Mem.none_of_le hle (by assumption) | refine Mem.le_upd ?_ ?_)⟩
    rw [Bool.eq_iff_iff, right_spec]
    try simp only [decide_eq_true_eq, Bool.false_eq_true, false_iff]
    omega

def tk12 : Nat → Nat → Option Nat := fun _ _ => none
def pl12 : Nat → List PStep := fun _ => []
theorem cb12 : Try.f12.body.map (codeB Try.prog Try.f12.ntmps tk12 pl12) = some true := by kernel_rfl
theorem goes12 : goesB Try.prog 12 = true := by kernel_rfl
-- carillon/topic.New params ['string'] results [['t', 2], ['t', 3]] own [] names ['0:name', '1:name'] calls [40] paths 2

def encL (v : Int × Int × ByteArray) : AVal := .agg [int v.1, int v.2.1, str v.2.2]
structure Tp where
  name : ByteArray
  low : Int
  en : Int
  kvs : List (ByteArray × (Int × Int × ByteArray))
  recs : List Rec
def tpC (m : Nat) (x : Tp) : List AVal := [str x.name, int x.low, int x.en, .raw (.map (some m)), .sl (x.recs.map enc) true]
abbrev tpK (x : Tp) : AObj := .map (ents Value.string encL x.kvs)
abbrev setTp (M : Mem) (t m : Nat) (x : Tp) : Mem := (M.upd m (tpK x)).upd t (.cells (tpC m x))
def newR (x : Tp) (p : ByteArray) (seq : Int) (k v : ByteArray) : Rec := ⟨x.en, p, seq, k, v⟩
/-- What a publish comes to. -/
def pub (x : Tp) (p : ByteArray) (seq : Int) (k v : ByteArray) : Tp × Int × Int :=
  if word p && right (newR x p seq k v) then
    match kget x.kvs p with
    | some l => if seq < l.1 then (x, 0, 6) else if seq = l.1 then (x, l.2.1, 0) else (⟨x.name, x.low, x.en + 1, kput x.kvs p (seq, x.en, p), x.recs ++ [newR x p seq k v]⟩, x.en, 0)
    | none => (⟨x.name, x.low, x.en + 1, kput x.kvs p (seq, x.en, p), x.recs ++ [newR x p seq k v]⟩, x.en, 0)
  else (x, 0, 7)
theorem Mem.ne_none {M : Mem} {b c : Nat} {o : AObj} (h : M c = some o) (h' : M b = none) : c ≠ b := fun e => by subst e; rw [h] at h'; cases h'
theorem le_tp {M M' : Mem} {t m : Nat} {x : Tp} {l : List AVal} (h1 : M' t = some (.cells l)) (h2 : M' m = some (tpK x)) (h3 : ∀ c o, c ≠ t → c ≠ m → M c = some o → M' c = some o) (hl : l = tpC m x) : (setTp M t m x).le M' := fun c o hc => by
  subst hl
  unfold setTp Mem.upd at hc
  by_cases e : c = t
  · rw [if_pos e] at hc; cases hc; rw [e]; exact h1
  · rw [if_neg e] at hc
    by_cases e' : c = m
    · rw [if_pos e'] at hc; cases hc; rw [e']; exact h2
    · rw [if_neg e'] at hc; exact h3 c o e e' hc
theorem setTp_same {M : Mem} {t m : Nat} {x : Tp} (h1 : M t = some (.cells (tpC m x))) (h2 : M m = some (tpK x)) (d : t ≠ m) : setTp M t m x = M := by
  unfold setTp
  rw [Mem.upd_same h2, Mem.upd_same h1]
set_option maxHeartbeats 4000000 in
set_option maxRecDepth 20000 in
theorem snd12 (s : ByteArray) (M : Mem) : SoundCall Try.prog 12 [str s] M fun r M' => (word s = false ∧ r = .tup [.raw (.pointer none), int 5] ∧ M.le M') ∨ (word s = true ∧ ∃ t m l, M t = none ∧ M m = none ∧ t ≠ m ∧ r = .tup [ptr t, int 0] ∧ l.map nilOwn = tpC m ⟨s, 0, 0, [], []⟩ ∧ M' t = some (.cells l) ∧ M' m = some (.map []) ∧ M.le M') := by
  refine SoundCall.go tk12 pl12 mixed Try.func12 cb12 rfl (Nat.le_of_ble_eq_true rfl) ?_
  refine s_seq ?_
  refine s_region ?_
  refine o_q (q_as ((by first | exact v_raw rfl | exact v_sptr rfl))) rfl rfl rfl ?_
  refine o_q (q_as (v_raw rfl)) rfl rfl rfl ?_
  refine o_nil ?_
  refine s_seq ?_
  refine s_seq ?_
  refine s_region ?_
  refine o_q (q_mv (v_raw rfl)) rfl rfl rfl ?_
  refine o_call ((snd40 s _).det) goes40 (ac (v_raw rfl) ac_nil) rfl ?_
  refine o_q (q_not rfl) rfl rfl rfl ?_
  refine o_nil ?_
  refine s_cond rfl (fun h1 => ?_) (fun h1 => ?_)
  · have k1 := h1; try simp only [decide_eq_true_eq, decide_eq_false_iff_not, Bool.not_eq_true', Bool.not_eq_false', Bool.not_true, Bool.not_false, List.length_map, Decidable.not_not] at k1
    refine s_seq ?_
    refine s_region ?_
    refine o_q (q_as ((by first | exact v_raw rfl | exact v_sptr rfl))) rfl rfl rfl ?_
    refine o_q (q_as (v_raw rfl)) rfl rfl rfl ?_
    refine o_nil ?_
    refine s_ret ?_
    refine s_code_ret ?_
    refine s_end ?_
    exact ret_many (.inl rfl) rfl (rl_t rfl (rl_t rfl rl_nil)) rfl (.inl ⟨by simpa using h1, rfl, (by repeat first | exact hle | exact Mem.le_refl M | assumption | exact Mem.none_of_le hle (by assumption) | refine Mem.le_upd ?_ ?_)⟩)
  · have k1 := h1; try simp only [decide_eq_true_eq, decide_eq_false_iff_not, Bool.not_eq_true', Bool.not_eq_false', Bool.not_true, Bool.not_false, List.length_map, Decidable.not_not] at k1
    refine s_skip ?_
    refine s_seq ?_
    refine s_region ?_
    refine o_q (q_mv (v_raw rfl)) rfl rfl rfl ?_
    refine o_makeMap (fun B1 hB1 => ?_)
    have m1 : M B1 = none := by have h := hB1; repeat (first | exact h | exact Mem.none_of_le hle h | replace h := (Mem.upd_none h).2)
    refine o_q (q_b (cs := [_, .raw (.int .i64 0), .raw (.int .i64 0), _, .raw (.slice none 0 0)]) bz78 bp78 (bf fo78_0 (e_raw rfl) rfl rfl (Nat.le_of_ble_eq_true rfl) rfl (bf fo78_3 (e_raw rfl) rfl rfl (Nat.le_of_ble_eq_true rfl) rfl bf_nil))) rfl rfl rfl ?_
    refine o_box (by first | exact e_raw rfl | exact e_agg rfl | exact e_sl rfl) rfl rfl (fun B2 hB2 => ?_)
    have f1_2 : B1 ≠ B2 := Mem.fresh_ne hB2 (by repeat first | exact Mem.upd_self _ _ _ | assumption | refine Mem.upd_ne (by assumption) ?_)
    have g2_1 : B2 ≠ B1 := f1_2.symm
    have m2 : M B2 = none := by have h := hB2; repeat (first | exact h | exact Mem.none_of_le hle h | replace h := (Mem.upd_none h).2)
    refine o_q (q_as ((by first | exact v_raw rfl | exact v_sptr rfl))) rfl rfl rfl ?_
    refine o_q (q_as (v_raw rfl)) rfl rfl rfl ?_
    refine o_nil ?_
    refine s_ret ?_
    refine s_end ?_
    exact ret_many (.inl rfl) rfl (rl_t rfl (rl_t rfl rl_nil)) rfl (.inr ⟨by simpa using h1, B2, B1, _, m2, m1, g2_1, rfl, rfl, (by repeat first | exact Mem.upd_self _ _ _ | assumption | refine Mem.upd_ne (by assumption) ?_), (by repeat first | exact Mem.upd_self _ _ _ | assumption | refine Mem.upd_ne (by assumption) ?_), (by repeat first | exact hle | exact Mem.le_refl M | assumption | exact Mem.none_of_le hle (by assumption) | refine Mem.le_upd ?_ ?_)⟩)

def tk13 : Nat → Nat → Option Nat := fun _ _ => none
def pl13 : Nat → List PStep := fun _ => []
theorem cb13 : Try.f13.body.map (codeB Try.prog Try.f13.ntmps tk13 pl13) = some true := by kernel_rfl
theorem goes13 : goesB Try.prog 13 = true := by kernel_rfl
-- (*carillon/topic.Topic).End params ['*topic.Topic'] results [['t', 2]] own [] names ['0:t', '1:t'] calls [] paths 1

theorem newT (s : ByteArray) (M : Mem) (hw : word s = true) : SoundCall Try.prog 12 [str s] M fun r M' => ∃ t m, M t = none ∧ M m = none ∧ t ≠ m ∧ r = .tup [ptr t, int 0] ∧ M' = setTp M t m ⟨s, 0, 0, [], []⟩ :=
  (snd12 s M).recast fun r M' h => by
    rcases h with ⟨h, -⟩ | ⟨-, t, m, l, h1, h2, h3, h4, h5, h6, h7, h8⟩
    · rw [hw] at h; cases h
    · refine ⟨_, Mem.imp_trans (Mem.imp_nil h6) (M'' := setTp M t m ⟨s, 0, 0, [], []⟩) ?_, t, m, h1, h2, h3, h4, rfl⟩
      intro b o hb
      unfold setTp Mem.upd at hb
      unfold Mem.upd
      by_cases e : b = t
      · rw [if_pos e] at hb ⊢
        rw [h5]; exact ⟨_, rfl, by cases hb; exact fun _ _ _ h => h⟩
      · rw [if_neg e] at hb ⊢
        by_cases e' : b = m
        · rw [if_pos e'] at hb
          subst e'
          exact ⟨_, h7, by cases hb; exact fun _ _ _ h => h⟩
        · rw [if_neg e'] at hb
          exact ⟨_, h8 b o hb, fun _ _ _ h => h⟩
theorem newF (s : ByteArray) (M : Mem) (hw : word s = false) : SoundCall Try.prog 12 [str s] M fun r M' => r = .tup [.raw (.pointer none), int 5] ∧ M' = M :=
  SoundCall.det (X := .tup [.raw (.pointer none), int 5]) ((snd12 s M).mono fun r M' h => by
    rcases h with ⟨-, h2, h3⟩ | ⟨h, -⟩
    · exact ⟨h2, h3⟩
    · rw [hw] at h; cases h)
set_option maxHeartbeats 4000000 in
set_option maxRecDepth 20000 in
theorem snd13 (t m : Nat) (x : Tp) (M : Mem) (ht : M t = some (.cells (tpC m x))) (hm : M m = some (tpK x)) (htm : t ≠ m) : SoundCall Try.prog 13 [ptr t] M fun r M' => r = int x.en ∧ M.le M' := by
  refine SoundCall.go tk13 pl13 mixed Try.func13 cb13 rfl (Nat.le_of_ble_eq_true rfl) ?_
  refine s_seq ?_
  refine s_region ?_
  refine o_q (q_as (v_raw rfl)) rfl rfl rfl ?_
  refine o_nil ?_
  refine s_seq ?_
  refine s_region ?_
  refine o_q (q_mv ((by first | exact v_raw rfl | exact v_sptr rfl))) rfl rfl rfl ?_
  refine o_q (q_nil rfl) rfl rfl rfl ?_
  refine o_q (q_fr fo78_2 rfl) rfl rfl rfl ?_
  refine o_q (q_ldm ag3 sz3 rfl (by repeat first | exact Mem.upd_self _ _ _ | assumption | refine Mem.upd_ne (by assumption) ?_) rfl (v_raw rfl)) rfl rfl rfl ?_
  refine o_q (q_as (v_raw rfl)) rfl rfl rfl ?_
  refine o_nil ?_
  refine s_ret ?_
  refine s_end ?_
  exact ⟨rfl, (by repeat first | exact hle | exact Mem.le_refl M | assumption | exact Mem.none_of_le hle (by assumption) | refine Mem.le_upd ?_ ?_)⟩

def tk20 : Nat → Nat → Option Nat := fun _ _ => none
def pl20 : Nat → List PStep := fun _ => []
theorem cb20 : Try.f20.body.map (codeB Try.prog Try.f20.ntmps tk20 pl20) = some true := by kernel_rfl
theorem goes20 : goesB Try.prog 20 = true := by kernel_rfl
-- (*carillon/topic.Topic).Low params ['*topic.Topic'] results [['t', 2]] own [] names ['0:t', '1:t'] calls [] paths 1
set_option maxHeartbeats 4000000 in
set_option maxRecDepth 20000 in
theorem snd20 (t m : Nat) (x : Tp) (M : Mem) (ht : M t = some (.cells (tpC m x))) (hm : M m = some (tpK x)) (htm : t ≠ m) : SoundCall Try.prog 20 [ptr t] M fun r M' => r = int x.low ∧ M.le M' := by
  refine SoundCall.go tk20 pl20 mixed Try.func20 cb20 rfl (Nat.le_of_ble_eq_true rfl) ?_
  refine s_seq ?_
  refine s_region ?_
  refine o_q (q_as (v_raw rfl)) rfl rfl rfl ?_
  refine o_nil ?_
  refine s_seq ?_
  refine s_region ?_
  refine o_q (q_mv ((by first | exact v_raw rfl | exact v_sptr rfl))) rfl rfl rfl ?_
  refine o_q (q_nil rfl) rfl rfl rfl ?_
  refine o_q (q_fr fo78_1 rfl) rfl rfl rfl ?_
  refine o_q (q_ldm ag3 sz3 rfl (by repeat first | exact Mem.upd_self _ _ _ | assumption | refine Mem.upd_ne (by assumption) ?_) rfl (v_raw rfl)) rfl rfl rfl ?_
  refine o_q (q_as (v_raw rfl)) rfl rfl rfl ?_
  refine o_nil ?_
  refine s_ret ?_
  refine s_end ?_
  exact ⟨rfl, (by repeat first | exact hle | exact Mem.le_refl M | assumption | exact Mem.none_of_le hle (by assumption) | refine Mem.le_upd ?_ ?_)⟩

def tk45 : Nat → Nat → Option Nat := fun _ _ => none
def pl45 : Nat → List PStep := fun _ => []
theorem cb45 : Try.f45.body.map (codeB Try.prog Try.f45.ntmps tk45 pl45) = some true := by kernel_rfl
theorem goes45 : goesB Try.prog 45 = true := by kernel_rfl
-- (*carillon/topic.Topic).Name params ['*topic.Topic'] results [['t', 2]] own [] names ['0:t', '1:t'] calls [] paths 1
set_option maxHeartbeats 4000000 in
set_option maxRecDepth 20000 in
theorem snd45 (t m : Nat) (x : Tp) (M : Mem) (ht : M t = some (.cells (tpC m x))) (hm : M m = some (tpK x)) (htm : t ≠ m) : SoundCall Try.prog 45 [ptr t] M fun r M' => r = str x.name ∧ M.le M' := by
  refine SoundCall.go tk45 pl45 mixed Try.func45 cb45 rfl (Nat.le_of_ble_eq_true rfl) ?_
  refine s_seq ?_
  refine s_region ?_
  refine o_q (q_as (v_raw rfl)) rfl rfl rfl ?_
  refine o_nil ?_
  refine s_seq ?_
  refine s_region ?_
  refine o_q (q_mv ((by first | exact v_raw rfl | exact v_sptr rfl))) rfl rfl rfl ?_
  refine o_q (q_nil rfl) rfl rfl rfl ?_
  refine o_q (q_fr fo78_0 rfl) rfl rfl rfl ?_
  refine o_q (q_ldm ag9 sz9 rfl (by repeat first | exact Mem.upd_self _ _ _ | assumption | refine Mem.upd_ne (by assumption) ?_) rfl (v_raw rfl)) rfl rfl rfl ?_
  refine o_q (q_as (v_raw rfl)) rfl rfl rfl ?_
  refine o_nil ?_
  refine s_ret ?_
  refine s_end ?_
  exact ⟨rfl, (by repeat first | exact hle | exact Mem.le_refl M | assumption | exact Mem.none_of_le hle (by assumption) | refine Mem.le_upd ?_ ?_)⟩

def tk14 : Nat → Nat → Option Nat
  | 10, 4 => some 0
  | _, _ => none
def pl14 : Nat → List PStep
  | 9 => [.q 0, .q 1, .q 2, .q 3, .q 4, .q 5, .q 6, .q 7, .q 8, .q 9, .q 10, .q 11, .q 12, .s 13 []]
  | 10 => [.q 0, .q 1, .q 2, .q 3, .q 5, .q 6, .s 4 [6, 5, 2, 1, 0], .q 7, .q 8, .q 9, .s 10 [8]]
  | _ => []
theorem cb14 : Try.f14.body.map (codeB Try.prog Try.f14.ntmps tk14 pl14) = some true := by kernel_rfl
theorem goes14 : goesB Try.prog 14 = true := by kernel_rfl
-- (*carillon/topic.Topic).Publish params ['*topic.Topic', 'string', 'int', 'string', 'string'] results [['t', 10], ['t', 11]] own [74] names ['0:t', '1:producer', '2:seq', '3:key', '4:value', '5:t', '6:producer', '7:seq', '8:key', '9:value', '12:r', '13:p', '14:ok'] calls [40, 41] paths 2
set_option maxHeartbeats 4000000 in
set_option maxRecDepth 20000 in
theorem snd14a (t m : Nat) (x : Tp) (p : ByteArray) (seq : Int) (k v : ByteArray) (M : Mem) (ht : M t = some (.cells (tpC m x))) (hm : M m = some (tpK x)) (htm : t ≠ m) (hen : 0 ≤ x.en ∧ x.en < 2 ^ 62) (hlen : x.recs.length < 2 ^ 40) (hb : (word p && right (newR x p seq k v)) = false) : SoundCall Try.prog 14 [ptr t, str p, int seq, str k, str v] M fun r M' => r = .tup [int 0, int 7] ∧ M.le M' := by
  refine SoundCall.go tk14 pl14 mixed Try.func14 cb14 rfl (Nat.le_of_ble_eq_true rfl) ?_
  refine s_seq ?_
  refine s_region ?_
  refine o_q (q_as (v_raw rfl)) rfl rfl rfl ?_
  refine o_q (q_as (v_raw rfl)) rfl rfl rfl ?_
  refine o_nil ?_
  refine s_seq ?_
  refine s_region ?_
  refine o_q (q_mv ((by first | exact v_raw rfl | exact v_sptr rfl))) rfl rfl rfl ?_
  refine o_q (q_nil rfl) rfl rfl rfl ?_
  refine o_q (q_fr fo78_2 rfl) rfl rfl rfl ?_
  refine o_q (q_ldm ag3 sz3 rfl (by repeat first | exact Mem.upd_self _ _ _ | assumption | refine Mem.upd_ne (by assumption) ?_) rfl (v_raw rfl)) rfl rfl rfl ?_
  refine o_q (q_mv (v_raw rfl)) rfl rfl rfl ?_
  refine o_q (q_mv (v_raw rfl)) rfl rfl rfl ?_
  refine o_q (q_mv (v_raw rfl)) rfl rfl rfl ?_
  refine o_q (q_mv (v_raw rfl)) rfl rfl rfl ?_
  refine o_q (q_b (cs := [_, _, _, _, _]) bz35 bp35 (bf fo35_0 (e_raw rfl) rfl rfl (Nat.le_of_ble_eq_true rfl) rfl (bf fo35_1 (e_raw rfl) rfl rfl (Nat.le_of_ble_eq_true rfl) rfl (bf fo35_2 (e_raw rfl) rfl rfl (Nat.le_of_ble_eq_true rfl) rfl (bf fo35_3 (e_raw rfl) rfl rfl (Nat.le_of_ble_eq_true rfl) rfl (bf fo35_4 (e_raw rfl) rfl rfl (Nat.le_of_ble_eq_true rfl) rfl bf_nil)))))) rfl rfl rfl ?_
  refine o_alloc zc35 (fun B1 hB1 => ?_)
  have htm' := htm.symm
  have n1 : t ≠ B1 := Mem.fresh_ne hB1 ht
  have n1' := n1.symm
  have n2 : m ≠ B1 := Mem.fresh_ne hB1 hm
  have n2' := n2.symm
  have m1 : M B1 = none := by have h := hB1; repeat (first | exact h | exact Mem.none_of_le hle h | replace h := (Mem.upd_none h).2)
  refine o_storew rfl (by repeat first | exact Mem.upd_self _ _ _ | assumption | refine Mem.upd_ne (by assumption) ?_) (by first | exact e_agg rfl | rfl) rfl sz35 rfl rfl rfl rfl ?_
  refine o_nil ?_
  refine s_seq ?_
  refine s_seq ?_
  refine s_region ?_
  refine o_q (q_mv (v_raw rfl)) rfl rfl rfl ?_
  refine o_call ((snd40 p _).det) goes40 (ac (v_raw rfl) ac_nil) rfl ?_
  refine o_q (q_not rfl) rfl rfl rfl ?_
  refine o_q (q_mv (v_raw rfl)) rfl rfl rfl ?_
  refine o_cases (want := false) (j := 3) rfl rfl (fun h1 => ?_) (fun h1 => ?_)
  · have k1 := h1; try simp only [decide_eq_true_eq, decide_eq_false_iff_not, Bool.not_eq_true', Bool.not_eq_false', Bool.not_true, Bool.not_false, List.length_map, Decidable.not_not] at k1
    refine o_yes rfl rfl rfl h1 ?_
    refine o_q (q_ldmw ag35 sz35 rfl (by repeat first | exact Mem.upd_self _ _ _ | assumption | refine Mem.upd_ne (by assumption) ?_) rfl rfl) rfl rfl rfl ?_
    refine o_yes rfl rfl rfl h1 ?_
    refine o_call ((snd41 (newR x p seq k v) _).det) goes41 (ac (v_agg rfl) ac_nil) rfl ?_
    refine o_yes rfl rfl rfl h1 ?_
    refine o_q (q_not rfl) rfl rfl rfl ?_
    refine o_q (q_pick_c (t := false) rfl h1 (v_raw rfl)) rfl rfl rfl ?_
    refine o_nil ?_
    refine s_cond rfl (fun h2 => ?_) (fun h2 => ?_)
    · have k2 := h2; try simp only [decide_eq_true_eq, decide_eq_false_iff_not, Bool.not_eq_true', Bool.not_eq_false', Bool.not_true, Bool.not_false, List.length_map, Decidable.not_not] at k2
      refine s_seq ?_
      refine s_region ?_
      refine o_q (q_as (v_raw rfl)) rfl rfl rfl ?_
      refine o_q (q_as (v_raw rfl)) rfl rfl rfl ?_
      refine o_nil ?_
      refine s_ret ?_
      refine s_code_ret ?_
      refine s_end ?_
      exact ret_many (.inl rfl) rfl (rl_t rfl (rl_t rfl rl_nil)) rfl ⟨rfl, (by repeat first | exact hle | exact Mem.le_refl M | assumption | exact Mem.none_of_le hle (by assumption) | refine Mem.le_upd ?_ ?_)⟩
    · have k2 := h2; try simp only [decide_eq_true_eq, decide_eq_false_iff_not, Bool.not_eq_true', Bool.not_eq_false', Bool.not_true, Bool.not_false, List.length_map, Decidable.not_not] at k2
      exfalso
      simp_all
  · have k1 := h1; try simp only [decide_eq_true_eq, decide_eq_false_iff_not, Bool.not_eq_true', Bool.not_eq_false', Bool.not_true, Bool.not_false, List.length_map, Decidable.not_not] at k1
    refine o_no rfl rfl rfl rfl h1 ?_
    refine o_no rfl rfl rfl rfl h1 ?_
    refine o_no rfl rfl rfl rfl h1 ?_
    refine o_q (q_pick_c (t := true) rfl h1 (v_raw rfl)) rfl rfl rfl ?_
    refine o_nil ?_
    refine s_then rfl rfl ?_
    refine s_seq ?_
    refine s_region ?_
    refine o_q (q_as (v_raw rfl)) rfl rfl rfl ?_
    refine o_q (q_as (v_raw rfl)) rfl rfl rfl ?_
    refine o_nil ?_
    refine s_ret ?_
    refine s_code_ret ?_
    refine s_end ?_
    exact ret_many (.inl rfl) rfl (rl_t rfl (rl_t rfl rl_nil)) rfl ⟨rfl, (by repeat first | exact hle | exact Mem.le_refl M | assumption | exact Mem.none_of_le hle (by assumption) | refine Mem.le_upd ?_ ?_)⟩

-- (*carillon/topic.Topic).Publish params ['*topic.Topic', 'string', 'int', 'string', 'string'] results [['t', 10], ['t', 11]] own [74] names ['0:t', '1:producer', '2:seq', '3:key', '4:value', '5:t', '6:producer', '7:seq', '8:key', '9:value', '12:r', '13:p', '14:ok'] calls [40, 41] paths 1
set_option maxHeartbeats 4000000 in
set_option maxRecDepth 20000 in
theorem snd14b (t m : Nat) (x : Tp) (p : ByteArray) (seq : Int) (k v : ByteArray) (M : Mem) (ht : M t = some (.cells (tpC m x))) (hm : M m = some (tpK x)) (htm : t ≠ m) (hen : 0 ≤ x.en ∧ x.en < 2 ^ 62) (hlen : x.recs.length < 2 ^ 40) (hw : word p = true) (hr : right (newR x p seq k v) = true) (hg : kget x.kvs p = none) : SoundCall Try.prog 14 [ptr t, str p, int seq, str k, str v] M fun r M' => r = .tup [int x.en, int 0] ∧ (setTp M t m ⟨x.name, x.low, x.en + 1, kput x.kvs p (seq, x.en, p), x.recs ++ [newR x p seq k v]⟩).le M' := by
  refine SoundCall.go tk14 pl14 mixed Try.func14 cb14 rfl (Nat.le_of_ble_eq_true rfl) ?_
  refine s_seq ?_
  refine s_region ?_
  refine o_q (q_as (v_raw rfl)) rfl rfl rfl ?_
  refine o_q (q_as (v_raw rfl)) rfl rfl rfl ?_
  refine o_nil ?_
  refine s_seq ?_
  refine s_region ?_
  refine o_q (q_mv ((by first | exact v_raw rfl | exact v_sptr rfl))) rfl rfl rfl ?_
  refine o_q (q_nil rfl) rfl rfl rfl ?_
  refine o_q (q_fr fo78_2 rfl) rfl rfl rfl ?_
  refine o_q (q_ldm ag3 sz3 rfl (by repeat first | exact Mem.upd_self _ _ _ | assumption | refine Mem.upd_ne (by assumption) ?_) rfl (v_raw rfl)) rfl rfl rfl ?_
  refine o_q (q_mv (v_raw rfl)) rfl rfl rfl ?_
  refine o_q (q_mv (v_raw rfl)) rfl rfl rfl ?_
  refine o_q (q_mv (v_raw rfl)) rfl rfl rfl ?_
  refine o_q (q_mv (v_raw rfl)) rfl rfl rfl ?_
  refine o_q (q_b (cs := [_, _, _, _, _]) bz35 bp35 (bf fo35_0 (e_raw rfl) rfl rfl (Nat.le_of_ble_eq_true rfl) rfl (bf fo35_1 (e_raw rfl) rfl rfl (Nat.le_of_ble_eq_true rfl) rfl (bf fo35_2 (e_raw rfl) rfl rfl (Nat.le_of_ble_eq_true rfl) rfl (bf fo35_3 (e_raw rfl) rfl rfl (Nat.le_of_ble_eq_true rfl) rfl (bf fo35_4 (e_raw rfl) rfl rfl (Nat.le_of_ble_eq_true rfl) rfl bf_nil)))))) rfl rfl rfl ?_
  refine o_alloc zc35 (fun B1 hB1 => ?_)
  have htm' := htm.symm
  have n1 : t ≠ B1 := Mem.fresh_ne hB1 ht
  have n1' := n1.symm
  have n2 : m ≠ B1 := Mem.fresh_ne hB1 hm
  have n2' := n2.symm
  have m1 : M B1 = none := by have h := hB1; repeat (first | exact h | exact Mem.none_of_le hle h | replace h := (Mem.upd_none h).2)
  refine o_storew rfl (by repeat first | exact Mem.upd_self _ _ _ | assumption | refine Mem.upd_ne (by assumption) ?_) (by first | exact e_agg rfl | rfl) rfl sz35 rfl rfl rfl rfl ?_
  refine o_nil ?_
  refine s_seq ?_
  refine s_seq ?_
  refine s_region ?_
  refine o_q (q_mv (v_raw rfl)) rfl rfl rfl ?_
  refine o_call ((snd40 p _).det) goes40 (ac (v_raw rfl) ac_nil) rfl ?_
  refine o_q (q_not rfl) rfl rfl rfl ?_
  refine o_q (q_mv (v_raw rfl)) rfl rfl rfl ?_
  refine o_yes rfl rfl rfl (by simp [hw]) ?_
  refine o_q (q_ldmw ag35 sz35 rfl (by repeat first | exact Mem.upd_self _ _ _ | assumption | refine Mem.upd_ne (by assumption) ?_) rfl rfl) rfl rfl rfl ?_
  refine o_yes rfl rfl rfl (by simp [hw]) ?_
  refine o_call ((snd41 (newR x p seq k v) _).det) goes41 (ac (v_agg rfl) ac_nil) rfl ?_
  refine o_yes rfl rfl rfl (by simp [hw]) ?_
  refine o_q (q_not rfl) rfl rfl rfl ?_
  refine o_q (q_pick_c (t := false) rfl (by simp [hw]) (v_raw rfl)) rfl rfl rfl ?_
  refine o_nil ?_
  refine s_else rfl (by simp [hr]) ?_
  refine s_skip ?_
  refine s_seq ?_
  refine s_seq ?_
  refine s_region ?_
  refine o_q (q_mv ((by first | exact v_raw rfl | exact v_sptr rfl))) rfl rfl rfl ?_
  refine o_q (q_nil rfl) rfl rfl rfl ?_
  refine o_q (q_fr fo78_3 rfl) rfl rfl rfl ?_
  refine o_q (q_ldm ag76 sz76 rfl (by repeat first | exact Mem.upd_self _ _ _ | assumption | refine Mem.upd_ne (by assumption) ?_) rfl (v_raw rfl)) rfl rfl rfl ?_
  refine o_q (q_mv (v_raw rfl)) rfl rfl rfl ?_
  refine o_q (q_mget2 und76 kt9 z83 rfl rfl (by repeat first | exact Mem.upd_self _ _ _ | assumption | refine Mem.upd_ne (by assumption) ?_) (show _ = encL (0, 0, emp) by rw [hg]; rfl)) rfl rfl rfl ?_
  refine o_q (q_mv (v_tup rfl)) rfl rfl rfl ?_
  refine o_q (q_ext rfl rfl (v_agg rfl)) rfl rfl rfl ?_
  refine o_q (q_ext rfl rfl (v_raw rfl)) rfl rfl rfl ?_
  refine o_alloc zc83 (fun B2 hB2 => ?_)
  have n3 : t ≠ B2 := Mem.fresh_ne hB2 (by repeat first | exact Mem.upd_self _ _ _ | assumption | refine Mem.upd_ne (by assumption) ?_)
  have n3' := n3.symm
  have n4 : m ≠ B2 := Mem.fresh_ne hB2 (by repeat first | exact Mem.upd_self _ _ _ | assumption | refine Mem.upd_ne (by assumption) ?_)
  have n4' := n4.symm
  have f1_2 : B1 ≠ B2 := Mem.fresh_ne hB2 (by repeat first | exact Mem.upd_self _ _ _ | assumption | refine Mem.upd_ne (by assumption) ?_)
  have g2_1 : B2 ≠ B1 := f1_2.symm
  have m2 : M B2 = none := by have h := hB2; repeat (first | exact h | exact Mem.none_of_le hle h | replace h := (Mem.upd_none h).2)
  refine o_storew rfl (by repeat first | exact Mem.upd_self _ _ _ | assumption | refine Mem.upd_ne (by assumption) ?_) (by first | exact e_agg rfl | rfl) rfl sz83 rfl rfl rfl rfl ?_
  refine o_q (q_as (v_raw rfl)) rfl rfl rfl ?_
  refine o_nil ?_
  refine s_seq ?_
  refine s_region ?_
  refine o_q (q_mv (v_raw rfl)) rfl rfl rfl ?_
  refine o_q (q_mv (v_raw rfl)) rfl rfl rfl ?_
  refine o_no rfl rfl rfl rfl (by rw [hg]; rfl) ?_
  refine o_no rfl rfl rfl rfl (by rw [hg]; rfl) ?_
  refine o_no rfl rfl rfl rfl (by rw [hg]; rfl) ?_
  refine o_no rfl rfl rfl rfl (by rw [hg]; rfl) ?_
  refine o_no rfl rfl rfl rfl (by rw [hg]; rfl) ?_
  refine o_q (q_pick_c (t := false) rfl (by rw [hg]; rfl) (v_raw rfl)) rfl rfl rfl ?_
  refine o_nil ?_
  refine s_else rfl rfl ?_
  refine s_skip ?_
  refine s_seq ?_
  refine s_draw rfl ?_
  refine d_q rfl (q_mv ((by first | exact v_raw rfl | exact v_sptr rfl))) rfl rfl rfl ?_
  refine d_q rfl (q_nil rfl) rfl rfl rfl ?_
  refine d_q rfl (q_fr fo78_3 rfl) rfl rfl rfl ?_
  refine d_q rfl (q_ldm ag76 sz76 rfl (by repeat first | exact Mem.upd_self _ _ _ | assumption | refine Mem.upd_ne (by assumption) ?_) rfl (v_raw rfl)) rfl rfl rfl ?_
  refine d_q rfl (q_mv (v_raw rfl)) rfl rfl rfl ?_
  refine d_q rfl (q_mv (v_raw rfl)) rfl rfl rfl ?_
  refine d_q rfl (q_mv ((by first | exact v_raw rfl | exact v_sptr rfl))) rfl rfl rfl ?_
  refine d_q rfl (q_nil rfl) rfl rfl rfl ?_
  refine d_q rfl (q_fr fo78_2 rfl) rfl rfl rfl ?_
  refine d_q rfl (q_ldm ag3 sz3 rfl (by repeat first | exact Mem.upd_self _ _ _ | assumption | refine Mem.upd_ne (by assumption) ?_) rfl (v_raw rfl)) rfl rfl rfl ?_
  refine d_q rfl (q_b (cs := [_, _]) bz81 bp81 (bf fo81_0 (e_raw rfl) rfl rfl (Nat.le_of_ble_eq_true rfl) rfl (bf fo81_1 (e_raw rfl) rfl rfl (Nat.le_of_ble_eq_true rfl) rfl bf_nil))) rfl rfl rfl ?_
  refine d_q rfl (q_mv (v_raw rfl)) rfl rfl rfl ?_
  refine d_q rfl (q_b (cs := [_, _, _]) bz83 bp83 (bf fo83_0 (e_agg rfl) rfl rfl (Nat.le_of_ble_eq_true rfl) rfl (bf fo83_1 (e_raw rfl) rfl rfl (Nat.le_of_ble_eq_true rfl) rfl bf_nil))) rfl rfl rfl ?_
  refine d_s rfl ?_
  refine o_mput und76 kt9 rfl rfl (by repeat first | exact Mem.upd_self _ _ _ | assumption | refine Mem.upd_ne (by assumption) ?_) (f := encL) (v := (seq, x.en, p)) (v_agg rfl) ?_
  refine o_nil ⟨(by simp [Mem.upd, *]), ?_⟩
  refine d_nil ?_
  refine s_seq ?_
  refine s_draw rfl ?_
  refine d_q rfl (q_mv ((by first | exact v_raw rfl | exact v_sptr rfl))) rfl rfl rfl ?_
  refine d_q rfl (q_mv ((by first | exact v_raw rfl | exact v_sptr rfl))) rfl rfl rfl ?_
  refine d_q rfl (q_nil rfl) rfl rfl rfl ?_
  refine d_q rfl (q_fr fo78_4 rfl) rfl rfl rfl ?_
  refine d_q rfl (q_ldmw ag35 sz35 rfl (by repeat first | exact Mem.upd_self _ _ _ | assumption | refine Mem.upd_ne (by assumption) ?_) rfl rfl) rfl rfl rfl ?_
  refine d_q rfl (q_bs slt28 (pc (v_agg rfl) pn) rfl (Els.cons rfl rfl Els.nil) (by decide)) rfl rfl rfl ?_
  refine d_s rfl ?_
  refine o_take rfl rfl (by repeat first | exact Mem.upd_self _ _ _ | assumption | refine Mem.upd_ne (by assumption) ?_) rfl ag28 sz28 ?_
  refine o_nil ⟨(by simp [Mem.upd, *]), ?_⟩
  refine d_qs rfl (q_app slt28 rfl rfl rfl rfl elsR (by first | exact elsR | exact Els.cons rfl rfl Els.nil) (by simp; omega)) rfl rfl rfl rfl ?_
  refine d_q rfl (q_nil rfl) rfl rfl rfl ?_
  refine d_q rfl (q_fr fo78_4 rfl) rfl rfl rfl ?_
  refine d_s rfl ?_
  refine o_store_own rfl (by repeat first | exact Mem.upd_self _ _ _ | assumption | refine Mem.upd_ne (by assumption) ?_) rfl sz28 (Nat.le_of_ble_eq_true rfl) ?_
  refine o_nil ⟨(by simp [Mem.upd, *]), ?_⟩
  refine d_nil ?_
  refine s_seq ?_
  refine s_region ?_
  refine o_q (q_mv ((by first | exact v_raw rfl | exact v_sptr rfl))) rfl rfl rfl ?_
  refine o_q (q_nil rfl) rfl rfl rfl ?_
  refine o_q (q_fr fo78_2 rfl) rfl rfl rfl ?_
  refine o_q (q_ldm ag3 sz3 rfl (by repeat first | exact Mem.upd_self _ _ _ | assumption | refine Mem.upd_ne (by assumption) ?_) rfl (v_raw rfl)) rfl rfl rfl ?_
  refine o_q (q_add rfl rfl (wrap64 (by omega) (by omega))) rfl rfl rfl ?_
  refine o_q (q_nil rfl) rfl rfl rfl ?_
  refine o_q (q_fr fo78_2 rfl) rfl rfl rfl ?_
  refine o_store rfl (by repeat first | exact Mem.upd_self _ _ _ | assumption | refine Mem.upd_ne (by assumption) ?_) (by first | exact e_raw rfl | exact e_agg rfl | exact e_sl rfl | rfl) rfl sz3 rfl (Nat.le_of_ble_eq_true rfl) rfl rfl ?_
  refine o_nil ?_
  refine s_seq ?_
  refine s_region ?_
  refine o_q (q_fr fo35_0 rfl) rfl rfl rfl ?_
  refine o_q (q_ldm ag3 sz3 rfl (by repeat first | exact Mem.upd_self _ _ _ | assumption | refine Mem.upd_ne (by assumption) ?_) rfl (v_raw rfl)) rfl rfl rfl ?_
  refine o_q (q_as (v_raw rfl)) rfl rfl rfl ?_
  refine o_q (q_as (v_raw rfl)) rfl rfl rfl ?_
  refine o_nil ?_
  refine s_ret ?_
  refine s_end ?_
  exact ret_many (.inl rfl) rfl (rl_t rfl (rl_t rfl rl_nil)) rfl ⟨rfl, le_tp (h1 := (by repeat first | exact Mem.upd_self _ _ _ | assumption | refine Mem.upd_ne (by assumption) ?_)) (by repeat first | exact Mem.upd_self _ _ _ | assumption | refine Mem.upd_ne (by assumption) ?_) (fun c o e1 e2 hc => by repeat first | exact hc | refine Mem.upd_ne (by first | exact e1 | exact e2 | exact Mem.ne_none hc (by assumption)) ?_) (by show _ = tpC m _; simp [tpC]; rfl)⟩

-- (*carillon/topic.Topic).Publish params ['*topic.Topic', 'string', 'int', 'string', 'string'] results [['t', 10], ['t', 11]] own [74] names ['0:t', '1:producer', '2:seq', '3:key', '4:value', '5:t', '6:producer', '7:seq', '8:key', '9:value', '12:r', '13:p', '14:ok'] calls [40, 41] paths 1
set_option maxHeartbeats 4000000 in
set_option maxRecDepth 20000 in
theorem snd14c (t m : Nat) (x : Tp) (p : ByteArray) (seq : Int) (k v : ByteArray) (M : Mem) (ht : M t = some (.cells (tpC m x))) (hm : M m = some (tpK x)) (htm : t ≠ m) (hen : 0 ≤ x.en ∧ x.en < 2 ^ 62) (hlen : x.recs.length < 2 ^ 40) (hw : word p = true) (hr : right (newR x p seq k v) = true) (l : Int × Int × ByteArray) (hg : kget x.kvs p = some l) (hlt : l.1 < seq) : SoundCall Try.prog 14 [ptr t, str p, int seq, str k, str v] M fun r M' => r = .tup [int x.en, int 0] ∧ (setTp M t m ⟨x.name, x.low, x.en + 1, kput x.kvs p (seq, x.en, p), x.recs ++ [newR x p seq k v]⟩).le M' := by
  refine SoundCall.go tk14 pl14 mixed Try.func14 cb14 rfl (Nat.le_of_ble_eq_true rfl) ?_
  refine s_seq ?_
  refine s_region ?_
  refine o_q (q_as (v_raw rfl)) rfl rfl rfl ?_
  refine o_q (q_as (v_raw rfl)) rfl rfl rfl ?_
  refine o_nil ?_
  refine s_seq ?_
  refine s_region ?_
  refine o_q (q_mv ((by first | exact v_raw rfl | exact v_sptr rfl))) rfl rfl rfl ?_
  refine o_q (q_nil rfl) rfl rfl rfl ?_
  refine o_q (q_fr fo78_2 rfl) rfl rfl rfl ?_
  refine o_q (q_ldm ag3 sz3 rfl (by repeat first | exact Mem.upd_self _ _ _ | assumption | refine Mem.upd_ne (by assumption) ?_) rfl (v_raw rfl)) rfl rfl rfl ?_
  refine o_q (q_mv (v_raw rfl)) rfl rfl rfl ?_
  refine o_q (q_mv (v_raw rfl)) rfl rfl rfl ?_
  refine o_q (q_mv (v_raw rfl)) rfl rfl rfl ?_
  refine o_q (q_mv (v_raw rfl)) rfl rfl rfl ?_
  refine o_q (q_b (cs := [_, _, _, _, _]) bz35 bp35 (bf fo35_0 (e_raw rfl) rfl rfl (Nat.le_of_ble_eq_true rfl) rfl (bf fo35_1 (e_raw rfl) rfl rfl (Nat.le_of_ble_eq_true rfl) rfl (bf fo35_2 (e_raw rfl) rfl rfl (Nat.le_of_ble_eq_true rfl) rfl (bf fo35_3 (e_raw rfl) rfl rfl (Nat.le_of_ble_eq_true rfl) rfl (bf fo35_4 (e_raw rfl) rfl rfl (Nat.le_of_ble_eq_true rfl) rfl bf_nil)))))) rfl rfl rfl ?_
  refine o_alloc zc35 (fun B1 hB1 => ?_)
  have htm' := htm.symm
  have n1 : t ≠ B1 := Mem.fresh_ne hB1 ht
  have n1' := n1.symm
  have n2 : m ≠ B1 := Mem.fresh_ne hB1 hm
  have n2' := n2.symm
  have m1 : M B1 = none := by have h := hB1; repeat (first | exact h | exact Mem.none_of_le hle h | replace h := (Mem.upd_none h).2)
  refine o_storew rfl (by repeat first | exact Mem.upd_self _ _ _ | assumption | refine Mem.upd_ne (by assumption) ?_) (by first | exact e_agg rfl | rfl) rfl sz35 rfl rfl rfl rfl ?_
  refine o_nil ?_
  refine s_seq ?_
  refine s_seq ?_
  refine s_region ?_
  refine o_q (q_mv (v_raw rfl)) rfl rfl rfl ?_
  refine o_call ((snd40 p _).det) goes40 (ac (v_raw rfl) ac_nil) rfl ?_
  refine o_q (q_not rfl) rfl rfl rfl ?_
  refine o_q (q_mv (v_raw rfl)) rfl rfl rfl ?_
  refine o_yes rfl rfl rfl (by simp [hw]) ?_
  refine o_q (q_ldmw ag35 sz35 rfl (by repeat first | exact Mem.upd_self _ _ _ | assumption | refine Mem.upd_ne (by assumption) ?_) rfl rfl) rfl rfl rfl ?_
  refine o_yes rfl rfl rfl (by simp [hw]) ?_
  refine o_call ((snd41 (newR x p seq k v) _).det) goes41 (ac (v_agg rfl) ac_nil) rfl ?_
  refine o_yes rfl rfl rfl (by simp [hw]) ?_
  refine o_q (q_not rfl) rfl rfl rfl ?_
  refine o_q (q_pick_c (t := false) rfl (by simp [hw]) (v_raw rfl)) rfl rfl rfl ?_
  refine o_nil ?_
  refine s_else rfl (by simp [hr]) ?_
  refine s_skip ?_
  refine s_seq ?_
  refine s_seq ?_
  refine s_region ?_
  refine o_q (q_mv ((by first | exact v_raw rfl | exact v_sptr rfl))) rfl rfl rfl ?_
  refine o_q (q_nil rfl) rfl rfl rfl ?_
  refine o_q (q_fr fo78_3 rfl) rfl rfl rfl ?_
  refine o_q (q_ldm ag76 sz76 rfl (by repeat first | exact Mem.upd_self _ _ _ | assumption | refine Mem.upd_ne (by assumption) ?_) rfl (v_raw rfl)) rfl rfl rfl ?_
  refine o_q (q_mv (v_raw rfl)) rfl rfl rfl ?_
  refine o_q (q_mget2 und76 kt9 z83 rfl rfl (by repeat first | exact Mem.upd_self _ _ _ | assumption | refine Mem.upd_ne (by assumption) ?_) (show _ = encL l by rw [hg]; rfl)) rfl rfl rfl ?_
  refine o_q (q_mv (v_tup rfl)) rfl rfl rfl ?_
  refine o_q (q_ext rfl rfl (v_agg rfl)) rfl rfl rfl ?_
  refine o_q (q_ext rfl rfl (v_raw rfl)) rfl rfl rfl ?_
  refine o_alloc zc83 (fun B2 hB2 => ?_)
  have n3 : t ≠ B2 := Mem.fresh_ne hB2 (by repeat first | exact Mem.upd_self _ _ _ | assumption | refine Mem.upd_ne (by assumption) ?_)
  have n3' := n3.symm
  have n4 : m ≠ B2 := Mem.fresh_ne hB2 (by repeat first | exact Mem.upd_self _ _ _ | assumption | refine Mem.upd_ne (by assumption) ?_)
  have n4' := n4.symm
  have f1_2 : B1 ≠ B2 := Mem.fresh_ne hB2 (by repeat first | exact Mem.upd_self _ _ _ | assumption | refine Mem.upd_ne (by assumption) ?_)
  have g2_1 : B2 ≠ B1 := f1_2.symm
  have m2 : M B2 = none := by have h := hB2; repeat (first | exact h | exact Mem.none_of_le hle h | replace h := (Mem.upd_none h).2)
  refine o_storew rfl (by repeat first | exact Mem.upd_self _ _ _ | assumption | refine Mem.upd_ne (by assumption) ?_) (by first | exact e_agg rfl | rfl) rfl sz83 rfl rfl rfl rfl ?_
  refine o_q (q_as (v_raw rfl)) rfl rfl rfl ?_
  refine o_nil ?_
  refine s_seq ?_
  refine s_region ?_
  refine o_q (q_mv (v_raw rfl)) rfl rfl rfl ?_
  refine o_q (q_mv (v_raw rfl)) rfl rfl rfl ?_
  refine o_yes rfl rfl rfl (by rw [hg]; rfl) ?_
  refine o_q (q_fr fo83_0 rfl) rfl rfl rfl ?_
  refine o_yes rfl rfl rfl (by rw [hg]; rfl) ?_
  refine o_q (q_fr fo81_0 rfl) rfl rfl rfl ?_
  refine o_yes rfl rfl rfl (by rw [hg]; rfl) ?_
  refine o_q (q_ldm ag3 sz3 rfl (by repeat first | exact Mem.upd_self _ _ _ | assumption | refine Mem.upd_ne (by assumption) ?_) rfl (v_raw rfl)) rfl rfl rfl ?_
  refine o_yes rfl rfl rfl (by rw [hg]; rfl) ?_
  refine o_q (q_mv (v_raw rfl)) rfl rfl rfl ?_
  refine o_yes rfl rfl rfl (by rw [hg]; rfl) ?_
  refine o_q (q_geq rfl rfl) rfl rfl rfl ?_
  refine o_q (q_pick_c (t := true) rfl (by rw [hg]; rfl) (v_raw rfl)) rfl rfl rfl ?_
  refine o_nil ?_
  refine s_else rfl (decide_eq_false (by omega)) ?_
  refine s_skip ?_
  refine s_seq ?_
  refine s_draw rfl ?_
  refine d_q rfl (q_mv ((by first | exact v_raw rfl | exact v_sptr rfl))) rfl rfl rfl ?_
  refine d_q rfl (q_nil rfl) rfl rfl rfl ?_
  refine d_q rfl (q_fr fo78_3 rfl) rfl rfl rfl ?_
  refine d_q rfl (q_ldm ag76 sz76 rfl (by repeat first | exact Mem.upd_self _ _ _ | assumption | refine Mem.upd_ne (by assumption) ?_) rfl (v_raw rfl)) rfl rfl rfl ?_
  refine d_q rfl (q_mv (v_raw rfl)) rfl rfl rfl ?_
  refine d_q rfl (q_mv (v_raw rfl)) rfl rfl rfl ?_
  refine d_q rfl (q_mv ((by first | exact v_raw rfl | exact v_sptr rfl))) rfl rfl rfl ?_
  refine d_q rfl (q_nil rfl) rfl rfl rfl ?_
  refine d_q rfl (q_fr fo78_2 rfl) rfl rfl rfl ?_
  refine d_q rfl (q_ldm ag3 sz3 rfl (by repeat first | exact Mem.upd_self _ _ _ | assumption | refine Mem.upd_ne (by assumption) ?_) rfl (v_raw rfl)) rfl rfl rfl ?_
  refine d_q rfl (q_b (cs := [_, _]) bz81 bp81 (bf fo81_0 (e_raw rfl) rfl rfl (Nat.le_of_ble_eq_true rfl) rfl (bf fo81_1 (e_raw rfl) rfl rfl (Nat.le_of_ble_eq_true rfl) rfl bf_nil))) rfl rfl rfl ?_
  refine d_q rfl (q_mv (v_raw rfl)) rfl rfl rfl ?_
  refine d_q rfl (q_b (cs := [_, _, _]) bz83 bp83 (bf fo83_0 (e_agg rfl) rfl rfl (Nat.le_of_ble_eq_true rfl) rfl (bf fo83_1 (e_raw rfl) rfl rfl (Nat.le_of_ble_eq_true rfl) rfl bf_nil))) rfl rfl rfl ?_
  refine d_s rfl ?_
  refine o_mput und76 kt9 rfl rfl (by repeat first | exact Mem.upd_self _ _ _ | assumption | refine Mem.upd_ne (by assumption) ?_) (f := encL) (v := (seq, x.en, p)) (v_agg rfl) ?_
  refine o_nil ⟨(by simp [Mem.upd, *]), ?_⟩
  refine d_nil ?_
  refine s_seq ?_
  refine s_draw rfl ?_
  refine d_q rfl (q_mv ((by first | exact v_raw rfl | exact v_sptr rfl))) rfl rfl rfl ?_
  refine d_q rfl (q_mv ((by first | exact v_raw rfl | exact v_sptr rfl))) rfl rfl rfl ?_
  refine d_q rfl (q_nil rfl) rfl rfl rfl ?_
  refine d_q rfl (q_fr fo78_4 rfl) rfl rfl rfl ?_
  refine d_q rfl (q_ldmw ag35 sz35 rfl (by repeat first | exact Mem.upd_self _ _ _ | assumption | refine Mem.upd_ne (by assumption) ?_) rfl rfl) rfl rfl rfl ?_
  refine d_q rfl (q_bs slt28 (pc (v_agg rfl) pn) rfl (Els.cons rfl rfl Els.nil) (by decide)) rfl rfl rfl ?_
  refine d_s rfl ?_
  refine o_take rfl rfl (by repeat first | exact Mem.upd_self _ _ _ | assumption | refine Mem.upd_ne (by assumption) ?_) rfl ag28 sz28 ?_
  refine o_nil ⟨(by simp [Mem.upd, *]), ?_⟩
  refine d_qs rfl (q_app slt28 rfl rfl rfl rfl elsR (by first | exact elsR | exact Els.cons rfl rfl Els.nil) (by simp; omega)) rfl rfl rfl rfl ?_
  refine d_q rfl (q_nil rfl) rfl rfl rfl ?_
  refine d_q rfl (q_fr fo78_4 rfl) rfl rfl rfl ?_
  refine d_s rfl ?_
  refine o_store_own rfl (by repeat first | exact Mem.upd_self _ _ _ | assumption | refine Mem.upd_ne (by assumption) ?_) rfl sz28 (Nat.le_of_ble_eq_true rfl) ?_
  refine o_nil ⟨(by simp [Mem.upd, *]), ?_⟩
  refine d_nil ?_
  refine s_seq ?_
  refine s_region ?_
  refine o_q (q_mv ((by first | exact v_raw rfl | exact v_sptr rfl))) rfl rfl rfl ?_
  refine o_q (q_nil rfl) rfl rfl rfl ?_
  refine o_q (q_fr fo78_2 rfl) rfl rfl rfl ?_
  refine o_q (q_ldm ag3 sz3 rfl (by repeat first | exact Mem.upd_self _ _ _ | assumption | refine Mem.upd_ne (by assumption) ?_) rfl (v_raw rfl)) rfl rfl rfl ?_
  refine o_q (q_add rfl rfl (wrap64 (by omega) (by omega))) rfl rfl rfl ?_
  refine o_q (q_nil rfl) rfl rfl rfl ?_
  refine o_q (q_fr fo78_2 rfl) rfl rfl rfl ?_
  refine o_store rfl (by repeat first | exact Mem.upd_self _ _ _ | assumption | refine Mem.upd_ne (by assumption) ?_) (by first | exact e_raw rfl | exact e_agg rfl | exact e_sl rfl | rfl) rfl sz3 rfl (Nat.le_of_ble_eq_true rfl) rfl rfl ?_
  refine o_nil ?_
  refine s_seq ?_
  refine s_region ?_
  refine o_q (q_fr fo35_0 rfl) rfl rfl rfl ?_
  refine o_q (q_ldm ag3 sz3 rfl (by repeat first | exact Mem.upd_self _ _ _ | assumption | refine Mem.upd_ne (by assumption) ?_) rfl (v_raw rfl)) rfl rfl rfl ?_
  refine o_q (q_as (v_raw rfl)) rfl rfl rfl ?_
  refine o_q (q_as (v_raw rfl)) rfl rfl rfl ?_
  refine o_nil ?_
  refine s_ret ?_
  refine s_end ?_
  exact ret_many (.inl rfl) rfl (rl_t rfl (rl_t rfl rl_nil)) rfl ⟨rfl, le_tp (h1 := (by repeat first | exact Mem.upd_self _ _ _ | assumption | refine Mem.upd_ne (by assumption) ?_)) (by repeat first | exact Mem.upd_self _ _ _ | assumption | refine Mem.upd_ne (by assumption) ?_) (fun c o e1 e2 hc => by repeat first | exact hc | refine Mem.upd_ne (by first | exact e1 | exact e2 | exact Mem.ne_none hc (by assumption)) ?_) (by show _ = tpC m _; simp [tpC]; rfl)⟩

-- (*carillon/topic.Topic).Publish params ['*topic.Topic', 'string', 'int', 'string', 'string'] results [['t', 10], ['t', 11]] own [74] names ['0:t', '1:producer', '2:seq', '3:key', '4:value', '5:t', '6:producer', '7:seq', '8:key', '9:value', '12:r', '13:p', '14:ok'] calls [40, 41] paths 2
set_option maxHeartbeats 4000000 in
set_option maxRecDepth 20000 in
theorem snd14d (t m : Nat) (x : Tp) (p : ByteArray) (seq : Int) (k v : ByteArray) (M : Mem) (ht : M t = some (.cells (tpC m x))) (hm : M m = some (tpK x)) (htm : t ≠ m) (hen : 0 ≤ x.en ∧ x.en < 2 ^ 62) (hlen : x.recs.length < 2 ^ 40) (hw : word p = true) (hr : right (newR x p seq k v) = true) (l : Int × Int × ByteArray) (hg : kget x.kvs p = some l) (hle' : seq ≤ l.1) : SoundCall Try.prog 14 [ptr t, str p, int seq, str k, str v] M fun r M' => r = .tup [int (if seq = l.1 then l.2.1 else 0), int (if seq = l.1 then 0 else 6)] ∧ M.le M' := by
  refine SoundCall.go tk14 pl14 mixed Try.func14 cb14 rfl (Nat.le_of_ble_eq_true rfl) ?_
  refine s_seq ?_
  refine s_region ?_
  refine o_q (q_as (v_raw rfl)) rfl rfl rfl ?_
  refine o_q (q_as (v_raw rfl)) rfl rfl rfl ?_
  refine o_nil ?_
  refine s_seq ?_
  refine s_region ?_
  refine o_q (q_mv ((by first | exact v_raw rfl | exact v_sptr rfl))) rfl rfl rfl ?_
  refine o_q (q_nil rfl) rfl rfl rfl ?_
  refine o_q (q_fr fo78_2 rfl) rfl rfl rfl ?_
  refine o_q (q_ldm ag3 sz3 rfl (by repeat first | exact Mem.upd_self _ _ _ | assumption | refine Mem.upd_ne (by assumption) ?_) rfl (v_raw rfl)) rfl rfl rfl ?_
  refine o_q (q_mv (v_raw rfl)) rfl rfl rfl ?_
  refine o_q (q_mv (v_raw rfl)) rfl rfl rfl ?_
  refine o_q (q_mv (v_raw rfl)) rfl rfl rfl ?_
  refine o_q (q_mv (v_raw rfl)) rfl rfl rfl ?_
  refine o_q (q_b (cs := [_, _, _, _, _]) bz35 bp35 (bf fo35_0 (e_raw rfl) rfl rfl (Nat.le_of_ble_eq_true rfl) rfl (bf fo35_1 (e_raw rfl) rfl rfl (Nat.le_of_ble_eq_true rfl) rfl (bf fo35_2 (e_raw rfl) rfl rfl (Nat.le_of_ble_eq_true rfl) rfl (bf fo35_3 (e_raw rfl) rfl rfl (Nat.le_of_ble_eq_true rfl) rfl (bf fo35_4 (e_raw rfl) rfl rfl (Nat.le_of_ble_eq_true rfl) rfl bf_nil)))))) rfl rfl rfl ?_
  refine o_alloc zc35 (fun B1 hB1 => ?_)
  have htm' := htm.symm
  have n1 : t ≠ B1 := Mem.fresh_ne hB1 ht
  have n1' := n1.symm
  have n2 : m ≠ B1 := Mem.fresh_ne hB1 hm
  have n2' := n2.symm
  have m1 : M B1 = none := by have h := hB1; repeat (first | exact h | exact Mem.none_of_le hle h | replace h := (Mem.upd_none h).2)
  refine o_storew rfl (by repeat first | exact Mem.upd_self _ _ _ | assumption | refine Mem.upd_ne (by assumption) ?_) (by first | exact e_agg rfl | rfl) rfl sz35 rfl rfl rfl rfl ?_
  refine o_nil ?_
  refine s_seq ?_
  refine s_seq ?_
  refine s_region ?_
  refine o_q (q_mv (v_raw rfl)) rfl rfl rfl ?_
  refine o_call ((snd40 p _).det) goes40 (ac (v_raw rfl) ac_nil) rfl ?_
  refine o_q (q_not rfl) rfl rfl rfl ?_
  refine o_q (q_mv (v_raw rfl)) rfl rfl rfl ?_
  refine o_yes rfl rfl rfl (by simp [hw]) ?_
  refine o_q (q_ldmw ag35 sz35 rfl (by repeat first | exact Mem.upd_self _ _ _ | assumption | refine Mem.upd_ne (by assumption) ?_) rfl rfl) rfl rfl rfl ?_
  refine o_yes rfl rfl rfl (by simp [hw]) ?_
  refine o_call ((snd41 (newR x p seq k v) _).det) goes41 (ac (v_agg rfl) ac_nil) rfl ?_
  refine o_yes rfl rfl rfl (by simp [hw]) ?_
  refine o_q (q_not rfl) rfl rfl rfl ?_
  refine o_q (q_pick_c (t := false) rfl (by simp [hw]) (v_raw rfl)) rfl rfl rfl ?_
  refine o_nil ?_
  refine s_else rfl (by simp [hr]) ?_
  refine s_skip ?_
  refine s_seq ?_
  refine s_seq ?_
  refine s_region ?_
  refine o_q (q_mv ((by first | exact v_raw rfl | exact v_sptr rfl))) rfl rfl rfl ?_
  refine o_q (q_nil rfl) rfl rfl rfl ?_
  refine o_q (q_fr fo78_3 rfl) rfl rfl rfl ?_
  refine o_q (q_ldm ag76 sz76 rfl (by repeat first | exact Mem.upd_self _ _ _ | assumption | refine Mem.upd_ne (by assumption) ?_) rfl (v_raw rfl)) rfl rfl rfl ?_
  refine o_q (q_mv (v_raw rfl)) rfl rfl rfl ?_
  refine o_q (q_mget2 und76 kt9 z83 rfl rfl (by repeat first | exact Mem.upd_self _ _ _ | assumption | refine Mem.upd_ne (by assumption) ?_) (show _ = encL l by rw [hg]; rfl)) rfl rfl rfl ?_
  refine o_q (q_mv (v_tup rfl)) rfl rfl rfl ?_
  refine o_q (q_ext rfl rfl (v_agg rfl)) rfl rfl rfl ?_
  refine o_q (q_ext rfl rfl (v_raw rfl)) rfl rfl rfl ?_
  refine o_alloc zc83 (fun B2 hB2 => ?_)
  have n3 : t ≠ B2 := Mem.fresh_ne hB2 (by repeat first | exact Mem.upd_self _ _ _ | assumption | refine Mem.upd_ne (by assumption) ?_)
  have n3' := n3.symm
  have n4 : m ≠ B2 := Mem.fresh_ne hB2 (by repeat first | exact Mem.upd_self _ _ _ | assumption | refine Mem.upd_ne (by assumption) ?_)
  have n4' := n4.symm
  have f1_2 : B1 ≠ B2 := Mem.fresh_ne hB2 (by repeat first | exact Mem.upd_self _ _ _ | assumption | refine Mem.upd_ne (by assumption) ?_)
  have g2_1 : B2 ≠ B1 := f1_2.symm
  have m2 : M B2 = none := by have h := hB2; repeat (first | exact h | exact Mem.none_of_le hle h | replace h := (Mem.upd_none h).2)
  refine o_storew rfl (by repeat first | exact Mem.upd_self _ _ _ | assumption | refine Mem.upd_ne (by assumption) ?_) (by first | exact e_agg rfl | rfl) rfl sz83 rfl rfl rfl rfl ?_
  refine o_q (q_as (v_raw rfl)) rfl rfl rfl ?_
  refine o_nil ?_
  refine s_seq ?_
  refine s_region ?_
  refine o_q (q_mv (v_raw rfl)) rfl rfl rfl ?_
  refine o_q (q_mv (v_raw rfl)) rfl rfl rfl ?_
  refine o_yes rfl rfl rfl (by rw [hg]; rfl) ?_
  refine o_q (q_fr fo83_0 rfl) rfl rfl rfl ?_
  refine o_yes rfl rfl rfl (by rw [hg]; rfl) ?_
  refine o_q (q_fr fo81_0 rfl) rfl rfl rfl ?_
  refine o_yes rfl rfl rfl (by rw [hg]; rfl) ?_
  refine o_q (q_ldm ag3 sz3 rfl (by repeat first | exact Mem.upd_self _ _ _ | assumption | refine Mem.upd_ne (by assumption) ?_) rfl (v_raw rfl)) rfl rfl rfl ?_
  refine o_yes rfl rfl rfl (by rw [hg]; rfl) ?_
  refine o_q (q_mv (v_raw rfl)) rfl rfl rfl ?_
  refine o_yes rfl rfl rfl (by rw [hg]; rfl) ?_
  refine o_q (q_geq rfl rfl) rfl rfl rfl ?_
  refine o_q (q_pick_c (t := true) rfl (by rw [hg]; rfl) (v_raw rfl)) rfl rfl rfl ?_
  refine o_nil ?_
  refine s_then rfl (decide_eq_true (by omega)) ?_
  refine s_seq ?_
  refine s_seq ?_
  refine s_region ?_
  refine o_q (q_fr fo83_0 rfl) rfl rfl rfl ?_
  refine o_q (q_fr fo81_0 rfl) rfl rfl rfl ?_
  refine o_q (q_ldm ag3 sz3 rfl (by repeat first | exact Mem.upd_self _ _ _ | assumption | refine Mem.upd_ne (by assumption) ?_) rfl (v_raw rfl)) rfl rfl rfl ?_
  refine o_q (q_mv (v_raw rfl)) rfl rfl rfl ?_
  refine o_q (q_gtr rfl rfl) rfl rfl rfl ?_
  refine o_nil ?_
  refine s_cond rfl (fun h1 => ?_) (fun h1 => ?_)
  · have k1 := h1; try simp only [decide_eq_true_eq, decide_eq_false_iff_not, Bool.not_eq_true', Bool.not_eq_false', Bool.not_true, Bool.not_false, List.length_map, Decidable.not_not] at k1
    refine s_seq ?_
    refine s_region ?_
    refine o_q (q_as (v_raw rfl)) rfl rfl rfl ?_
    refine o_q (q_as (v_raw rfl)) rfl rfl rfl ?_
    refine o_nil ?_
    refine s_ret ?_
    refine s_code_ret ?_
    refine s_code_ret ?_
    refine s_end ?_
    exact ret_many (.inl rfl) rfl (rl_t rfl (rl_t rfl rl_nil)) rfl ⟨by rw [if_neg (show ¬ seq = l.1 by omega), if_neg (show ¬ seq = l.1 by omega)]; rfl, (by repeat first | exact hle | exact Mem.le_refl M | assumption | exact Mem.none_of_le hle (by assumption) | refine Mem.le_upd ?_ ?_)⟩
  · have k1 := h1; try simp only [decide_eq_true_eq, decide_eq_false_iff_not, Bool.not_eq_true', Bool.not_eq_false', Bool.not_true, Bool.not_false, List.length_map, Decidable.not_not] at k1
    refine s_skip ?_
    refine s_seq ?_
    refine s_region ?_
    refine o_q (q_fr fo83_0 rfl) rfl rfl rfl ?_
    refine o_q (q_fr fo81_1 rfl) rfl rfl rfl ?_
    refine o_q (q_ldm ag3 sz3 rfl (by repeat first | exact Mem.upd_self _ _ _ | assumption | refine Mem.upd_ne (by assumption) ?_) rfl (v_raw rfl)) rfl rfl rfl ?_
    refine o_q (q_as (v_raw rfl)) rfl rfl rfl ?_
    refine o_q (q_as (v_raw rfl)) rfl rfl rfl ?_
    refine o_nil ?_
    refine s_ret ?_
    refine s_code_ret ?_
    refine s_end ?_
    exact ret_many (.inl rfl) rfl (rl_t rfl (rl_t rfl rl_nil)) rfl ⟨by rw [if_pos (show seq = l.1 by omega), if_pos (show seq = l.1 by omega)]; rfl, (by repeat first | exact hle | exact Mem.le_refl M | assumption | exact Mem.none_of_le hle (by assumption) | refine Mem.le_upd ?_ ?_)⟩

def tk58 : Nat → Nat → Option Nat := fun _ _ => none
def pl58 : Nat → List PStep
  | 1 => [.q 0, .q 1, .q 2, .q 3, .q 4, .q 5, .q 6, .q 7, .q 8, .q 9, .q 10]
  | _ => []
theorem cb58 : Try.f58.body.map (codeB Try.prog Try.f58.ntmps tk58 pl58) = some true := by kernel_rfl
theorem goes58 : goesB Try.prog 58 = true := by kernel_rfl
-- (*carillon/topic.Topic).at$1 params ['int'] results [['t', 4]] own [] names ['0:i', '3:i'] calls [] paths 1

theorem pub14 (t m : Nat) (x : Tp) (p : ByteArray) (seq : Int) (k v : ByteArray) (M : Mem) (ht : M t = some (.cells (tpC m x))) (hm : M m = some (tpK x)) (htm : t ≠ m) (hen : 0 ≤ x.en ∧ x.en < 2 ^ 62) (hlen : x.recs.length < 2 ^ 40) : SoundCall Try.prog 14 [ptr t, str p, int seq, str k, str v] M fun r M' => r = .tup [int (pub x p seq k v).2.1, int (pub x p seq k v).2.2] ∧ M' = setTp M t m (pub x p seq k v).1 := by
  have same : setTp M t m x = M := setTp_same ht hm htm
  cases hc : (word p && right (newR x p seq k v)) with
  | false =>
    have e : pub x p seq k v = (x, 0, 7) := by unfold pub; rw [hc]; rfl
    rw [e]; dsimp only; rw [same]
    exact (snd14a t m x p seq k v M ht hm htm hen hlen hc).det
  | true =>
    have hw : word p = true := by simp at hc; exact hc.1
    have hr : right (newR x p seq k v) = true := by simp at hc; exact hc.2
    cases hg : kget x.kvs p with
    | none =>
      have e : pub x p seq k v = (⟨x.name, x.low, x.en + 1, kput x.kvs p (seq, x.en, p), x.recs ++ [newR x p seq k v]⟩, x.en, 0) := by unfold pub; rw [hc, hg]; rfl
      rw [e]
      exact (snd14b t m x p seq k v M ht hm htm hen hlen hw hr hg).leaves
    | some l =>
      by_cases h1 : l.1 < seq
      · have e : pub x p seq k v = (⟨x.name, x.low, x.en + 1, kput x.kvs p (seq, x.en, p), x.recs ++ [newR x p seq k v]⟩, x.en, 0) := by
          unfold pub; rw [hc, hg]
          simp only [if_true]
          rw [if_neg (by omega), if_neg (by omega)]
        rw [e]
        exact (snd14c t m x p seq k v M ht hm htm hen hlen hw hr l hg h1).leaves
      · have h := (snd14d t m x p seq k v M ht hm htm hen hlen hw hr l hg (by omega)).det
        by_cases h2 : seq = l.1
        · have e : pub x p seq k v = (x, l.2.1, 0) := by
            unfold pub; rw [hc, hg]
            simp only [if_true]
            rw [if_neg (by omega), if_pos h2]
          rw [e]; dsimp only; rw [same]
          rw [if_pos h2, if_pos h2] at h; exact h
        · have e : pub x p seq k v = (x, 0, 6) := by
            unfold pub; rw [hc, hg]
            simp only [if_true]
            rw [if_pos (by omega)]
          rw [e]; dsimp only; rw [same]
          rw [if_neg h2, if_neg h2] at h; exact h
set_option maxHeartbeats 4000000 in
set_option maxRecDepth 20000 in
theorem snd58 (i : Nat) (c1 c2 t m : Nat) (x : Tp) (off : Int) (M : Mem) (h1 : M c1 = some (.cells [ptr t])) (h2 : M c2 = some (.cells [int off])) (ht : M t = some (.cells (tpC m x))) (hi : i < x.recs.length) : SoundCall Try.prog 58 [int i, ptr c1, ptr c2] M fun r M' => r = bool (decide (off ≤ x.recs[i].off)) ∧ M.le M' := by
  refine SoundCall.go tk58 pl58 mixed Try.func58 cb58 rfl (Nat.le_of_ble_eq_true rfl) ?_
  refine s_seq ?_
  refine s_region ?_
  refine o_q (q_as (v_raw rfl)) rfl rfl rfl ?_
  refine o_nil ?_
  refine s_seq ?_
  refine s_draw rfl ?_
  refine d_q rfl (q_ldm ag24 sz24 rfl (by repeat first | exact Mem.upd_self _ _ _ | assumption | refine Mem.upd_ne (by assumption) ?_) rfl ((by first | exact v_raw rfl | exact v_sptr rfl))) rfl rfl rfl ?_
  refine d_q rfl (q_nil rfl) rfl rfl rfl ?_
  refine d_q rfl (q_fr fo78_4 rfl) rfl rfl rfl ?_
  refine d_q rfl (q_ldm ag28 sz28 rfl (by repeat first | exact Mem.upd_self _ _ _ | assumption | refine Mem.upd_ne (by assumption) ?_) rfl (v_sl rfl)) rfl rfl rfl ?_
  refine d_q rfl (q_mv (v_raw rfl)) rfl rfl rfl ?_
  refine d_q rfl (q_idx und28 sz35 rfl rfl (by omega) (gm i (by first | omega | simp)) rfl) rfl rfl rfl ?_
  refine d_q rfl (q_f fo35_0 rfl) rfl rfl rfl ?_
  refine d_q rfl (q_ld ag3 sz3 rfl (gm i (by first | omega | simp)) rfl (v_raw rfl)) rfl rfl rfl ?_
  refine d_q rfl (q_ldm ag3 sz3 rfl (by repeat first | exact Mem.upd_self _ _ _ | assumption | refine Mem.upd_ne (by assumption) ?_) rfl (v_raw rfl)) rfl rfl rfl ?_
  refine d_q rfl (q_geq rfl rfl) rfl rfl rfl ?_
  refine d_q rfl (q_as (v_raw rfl)) rfl rfl rfl ?_
  refine d_nil ?_
  refine s_ret ?_
  refine s_end ?_
  exact ⟨rfl, (by repeat first | exact hle | exact Mem.le_refl M | assumption | exact Mem.none_of_le hle (by assumption) | refine Mem.le_upd ?_ ?_)⟩

def tk57 : Nat → Nat → Option Nat := fun _ _ => none
def pl57 : Nat → List PStep := fun _ => []
theorem cb57 : Try.f57.body.map (codeB Try.prog Try.f57.ntmps tk57 pl57) = some true := by kernel_rfl
theorem goes57 : goesB Try.prog 57 = true := by kernel_rfl
-- sort.Search params ['int', 'func(int) bool'] results [['t', 4]] own [] names ['0:n', '1:f', '2:n', '3:f', '5:i', '6:j', '7:h'] calls [] paths 3

theorem le_of_eq_le {a b c : Int} (h : a = b) (h' : c ≤ b) : c ≤ a := by omega
theorem lt_of_eq_lt {a b c : Int} (h : a = b) (h' : b < c) : a < c := by omega
theorem wrapu64 {a : Int} (h1 : 0 ≤ a) (h2 : a < 2 ^ 64) : IntKind.u64.wrap a = a := by
  simp only [IntKind.wrap, IntKind.signed, IntKind.bits]
  simp
  omega
set_option maxHeartbeats 4000000 in
set_option maxRecDepth 20000 in
theorem snd57 (c1 c2 n r : Nat) (p : Nat → Bool) (M : Mem) (hn : n < 2 ^ 60) (hf : ∀ i, i < n → SoundCall Try.prog 58 [int i, ptr c1, ptr c2] M fun q M' => q = bool (p i) ∧ M' = M) (hr : r ≤ n) (h0 : ∀ i, i < r → p i = false) (h1' : ∀ i, r ≤ i → i < n → p i = true) : SoundCall Try.prog 57 [int n, .raw (.func (.func 58) #[] #[.pointer (some ⟨c1, 0, none⟩), .pointer (some ⟨c2, 0, none⟩)])] M fun q M' => q = int r ∧ M.le M' := by
  refine SoundCall.go tk57 pl57 mixed Try.func57 cb57 rfl (Nat.le_of_ble_eq_true rfl) ?_
  refine s_seq ?_
  refine s_region ?_
  refine o_q (q_as (v_raw rfl)) rfl rfl rfl ?_
  refine o_nil ?_
  refine s_seq ?_
  refine s_region ?_
  refine o_q (q_mv (v_raw rfl)) rfl rfl rfl ?_
  refine o_q (q_as (v_raw rfl)) rfl rfl rfl ?_
  refine o_q (q_as (v_raw rfl)) rfl rfl rfl ?_
  refine o_nil ?_
  refine s_seq ?_
  refine s_block ?_
  refine s_loop (fun m S => ∃ T, ∃ i j : Nat, S = ⟨setT (setT (setT T 1 (.raw (.func (.func 58) #[] #[.pointer (some ⟨c1, 0, none⟩), .pointer (some ⟨c2, 0, none⟩)]))) 5 (int i)) 6 (int j), M⟩ ∧ i ≤ r ∧ r ≤ j ∧ j ≤ n ∧ m = j - i) n ?_ ?_
  · exact ⟨_, 0, n, St.mkT (kp (kp (kp rfl rfl) rfl) rfl).symm, by omega, hr, by omega, by omega⟩
  rintro m S ⟨T, i, j, rfl, hi, hj, hjn, rfl⟩
  refine s_seq ?_
  refine s_seq ?_
  refine s_region ?_
  refine o_q (q_mv (v_raw rfl)) rfl rfl rfl ?_
  refine o_q (q_mv (v_raw rfl)) rfl rfl rfl ?_
  refine o_q (q_lss rfl rfl) rfl rfl rfl ?_
  refine o_nil ?_
  refine s_cond rfl (fun h1 => ?_) (fun h1 => ?_)
  · have k1 := h1; try simp only [decide_eq_true_eq, decide_eq_false_iff_not, Bool.not_eq_true', Bool.not_eq_false', Bool.not_true, Bool.not_false, List.length_map, Decidable.not_not] at k1
    have e2 : (2 : Int) ^ 1 = 2 := rfl
    have hh : ((i : Int) + (j : Int)) / 2 ^ 1 = (((i + j) / 2 : Nat) : Int) := by rw [e2]; omega
    have hb1 : 0 ≤ ((i : Int) + (j : Int)) / 2 ^ 1 := by rw [hh]; omega
    have hb2 : ((i : Int) + (j : Int)) / 2 ^ 1 < 2 ^ 61 := by rw [hh]; omega
    have hh1 : i ≤ (i + j) / 2 := by omega
    have hh2 : (i + j) / 2 < j := by omega
    refine s_skip ?_
    refine s_block ?_
    refine s_seq ?_
    refine s_region ?_
    refine o_q (q_mv (v_raw rfl)) rfl rfl rfl ?_
    refine o_q (q_mv (v_raw rfl)) rfl rfl rfl ?_
    refine o_q (q_add rfl rfl (wrap64 (by omega) (by omega))) rfl rfl rfl ?_
    refine o_q (q_i2i und3 und110 rfl (wrapu64 (by omega) (by omega))) rfl rfl rfl ?_
    refine o_q (q_shr rfl rfl (by decide)) rfl rfl rfl ?_
    refine o_q (q_i2i und110 und3 rfl (wrap64 (le_of_eq_le hh (by omega)) (lt_of_eq_lt hh (by omega)))) rfl rfl rfl ?_
    refine o_q (q_as (v_raw rfl)) rfl rfl rfl ?_
    refine o_nil ?_
    refine s_seq ?_
    refine s_region ?_
    refine o_q (q_mv (v_raw rfl)) rfl rfl rfl ?_
    refine o_q (q_mv (v_raw rfl)) rfl rfl rfl ?_
    refine o_callv rfl ((by rw [hh]; exact hf ((i + j) / 2) (by omega))) goes58 (ac (v_raw rfl) ac_nil) rfl rfl ?_
    rintro q M'' ⟨rfl, rfl⟩
    refine o_q (q_not rfl) rfl rfl rfl ?_
    refine o_nil ?_
    refine s_cond rfl (fun h2 => ?_) (fun h2 => ?_)
    · have k2 := h2; try simp only [decide_eq_true_eq, decide_eq_false_iff_not, Bool.not_eq_true', Bool.not_eq_false', Bool.not_true, Bool.not_false, List.length_map, Decidable.not_not] at k2
      refine s_region ?_
      refine o_q (q_mv (v_raw rfl)) rfl rfl rfl ?_
      refine o_q (q_add rfl rfl (wrap64 (by rw [show _ / _ = _ from hh]; omega) (by rw [show _ / _ = _ from hh]; omega))) rfl rfl rfl ?_
      refine o_q (q_as (v_raw rfl)) rfl rfl rfl ?_
      refine o_nil ?_
      refine s_blk_normal ?_
      refine s_inv ?_
      have hp : p ((i + j) / 2) = false := by simpa using k2
      have hlt : (i + j) / 2 < r := by
        rcases Nat.lt_or_ge ((i + j) / 2) r with h | h
        · exact h
        · rw [h1' _ h (by omega)] at hp; cases hp
      exact ⟨j - ((i + j) / 2 + 1), by omega, _, (i + j) / 2 + 1, j, St.mkT (kp (kp (kp rfl rfl) (show _ = int (((i + j) / 2 + 1 : Nat) : Int) from congrArg int (by rw [hh]; rfl))) rfl).symm, by omega, hj, hjn, rfl⟩
    · have k2 := h2; try simp only [decide_eq_true_eq, decide_eq_false_iff_not, Bool.not_eq_true', Bool.not_eq_false', Bool.not_true, Bool.not_false, List.length_map, Decidable.not_not] at k2
      refine s_region ?_
      refine o_q (q_mv (v_raw rfl)) rfl rfl rfl ?_
      refine o_q (q_as (v_raw rfl)) rfl rfl rfl ?_
      refine o_nil ?_
      refine s_blk_normal ?_
      refine s_inv ?_
      have hp : p ((i + j) / 2) = true := by simpa using k2
      have hge : r ≤ (i + j) / 2 := by
        rcases Nat.lt_or_ge ((i + j) / 2) r with h | h
        · rw [h0 _ h] at hp; cases hp
        · exact h
      exact ⟨(i + j) / 2 - i, by omega, _, i, (i + j) / 2, St.mkT (kp (kp (kp rfl rfl) rfl) (show _ = int (((i + j) / 2 : Nat) : Int) from congrArg int hh)).symm, hi, hge, by omega, rfl⟩
  · have k1 := h1; try simp only [decide_eq_true_eq, decide_eq_false_iff_not, Bool.not_eq_true', Bool.not_eq_false', Bool.not_true, Bool.not_false, List.length_map, Decidable.not_not] at k1
    refine s_exit ?_
    refine s_code_exit ?_
    refine s_inv_exit ?_
    refine s_blk_here ?_
    refine s_seq ?_
    refine s_region ?_
    refine o_q (q_mv (v_raw rfl)) rfl rfl rfl ?_
    refine o_q (q_as (v_raw rfl)) rfl rfl rfl ?_
    refine o_nil ?_
    refine s_ret ?_
    refine s_end ?_
    obtain rfl : i = r := by omega
    exact ⟨rfl, (by repeat first | exact hle | exact Mem.le_refl M | assumption | exact Mem.none_of_le hle (by assumption) | refine Mem.le_upd ?_ ?_)⟩

def tk42 : Nat → Nat → Option Nat := fun _ _ => none
def pl42 : Nat → List PStep := fun _ => []
theorem cb42 : Try.f42.body.map (codeB Try.prog Try.f42.ntmps tk42 pl42) = some true := by kernel_rfl
theorem goes42 : goesB Try.prog 42 = true := by kernel_rfl
-- (*carillon/topic.Topic).at params ['*topic.Topic', 'int'] results [['t', 4]] own [] names ['0:t', '1:offset', '2:t', '3:offset'] calls [57] paths 1

/-- The records lie by their offsets. -/
def Sorted (l : List Rec) : Prop := l.Pairwise fun a b => a.off < b.off
def atN (l : List Rec) (off : Int) : Nat := (l.takeWhile fun r => decide (r.off < off)).length
theorem atN_le (l : List Rec) (off : Int) : atN l off ≤ l.length := List.Sublist.length_le (List.takeWhile_sublist _)
theorem atN_lt {l : List Rec} {off : Int} {i : Nat} (h : i < atN l off) : ∃ hi : i < l.length, l[i].off < off := by
  have hi := Nat.lt_of_lt_of_le h (atN_le l off)
  refine ⟨hi, ?_⟩
  unfold atN at h
  have h1 : (l.takeWhile fun r => decide (r.off < off))[i] = l[i] := by
    have := (List.takeWhile_prefix (l := l) (fun r => decide (r.off < off)))
    exact List.IsPrefix.getElem this h
  have h2 : (l.takeWhile fun r => decide (r.off < off))[i] ∈ l.takeWhile fun r => decide (r.off < off) := List.getElem_mem _
  have h3 := List.all_takeWhile (l := l) (p := fun r => decide (r.off < off))
  have h4 := List.all_eq_true.1 h3 _ h2
  rw [h1] at h4
  exact of_decide_eq_true h4
theorem atN_ge {l : List Rec} {off : Int} (hs : Sorted l) {i : Nat} (h : atN l off ≤ i) (hi : i < l.length) : off ≤ l[i].off := by
  have ha : atN l off < l.length := by omega
  have h1 : ¬ l[atN l off].off < off := by
    intro hlt
    have e : l = l.take (atN l off) ++ l[atN l off] :: l.drop (atN l off + 1) := by rw [List.getElem_cons_drop, List.take_append_drop]
    have htw : l.takeWhile (fun r => decide (r.off < off)) = l.take (atN l off) := by
      have := List.takeWhile_prefix (l := l) (fun r => decide (r.off < off))
      exact (List.prefix_iff_eq_take.1 this)
    have h2 : (l.takeWhile fun r => decide (r.off < off)).length > atN l off := by
      rw [e, List.takeWhile_append_of_pos]
      · rw [List.takeWhile_cons_of_pos (by simpa using hlt)]
        simp; omega
      · intro a ha'
        rw [← htw] at ha'
        exact List.all_eq_true.1 (List.all_takeWhile (l := l) (p := fun r => decide (r.off < off))) a ha'
    unfold atN at h2
    omega
  rcases Nat.eq_or_lt_of_le h with e | e
  · subst e; omega
  · have := List.pairwise_iff_getElem.1 hs (atN l off) i ha hi e
    omega
set_option maxHeartbeats 4000000 in
set_option maxRecDepth 20000 in
theorem snd42 (t m : Nat) (x : Tp) (off : Int) (M : Mem) (ht : M t = some (.cells (tpC m x))) (hs : Sorted x.recs) (hlen : x.recs.length < 2 ^ 40) : SoundCall Try.prog 42 [ptr t, int off] M fun r M' => r = int (atN x.recs off) ∧ M.le M' := by
  refine SoundCall.go tk42 pl42 mixed Try.func42 cb42 rfl (Nat.le_of_ble_eq_true rfl) ?_
  refine s_seq ?_
  refine s_region ?_
  refine o_box (by first | exact e_raw rfl | exact e_agg rfl | exact e_sl rfl) rfl rfl (fun B1 hB1 => ?_)
  have ct1 : t ≠ B1 := Mem.fresh_ne hB1 (by repeat first | exact Mem.upd_self _ _ _ | assumption | refine Mem.upd_ne (by assumption) ?_)
  have ct1' := ct1.symm
  have m1 : M B1 = none := by have h := hB1; repeat (first | exact h | exact Mem.none_of_le hle h | replace h := (Mem.upd_none h).2)
  refine o_box (by first | exact e_raw rfl | exact e_agg rfl | exact e_sl rfl) rfl rfl (fun B2 hB2 => ?_)
  have ct2 : t ≠ B2 := Mem.fresh_ne hB2 (by repeat first | exact Mem.upd_self _ _ _ | assumption | refine Mem.upd_ne (by assumption) ?_)
  have ct2' := ct2.symm
  have f1_2 : B1 ≠ B2 := Mem.fresh_ne hB2 (by repeat first | exact Mem.upd_self _ _ _ | assumption | refine Mem.upd_ne (by assumption) ?_)
  have g2_1 : B2 ≠ B1 := f1_2.symm
  have m2 : M B2 = none := by have h := hB2; repeat (first | exact h | exact Mem.none_of_le hle h | replace h := (Mem.upd_none h).2)
  refine o_q (q_as (v_raw rfl)) rfl rfl rfl ?_
  refine o_nil ?_
  refine s_seq ?_
  refine s_region ?_
  refine o_q (q_ldm ag24 sz24 rfl (by repeat first | exact Mem.upd_self _ _ _ | assumption | refine Mem.upd_ne (by assumption) ?_) rfl ((by first | exact v_raw rfl | exact v_sptr rfl))) rfl rfl rfl ?_
  refine o_q (q_nil rfl) rfl rfl rfl ?_
  refine o_q (q_fr fo78_4 rfl) rfl rfl rfl ?_
  refine o_q (q_ldm ag28 sz28 rfl (by repeat first | exact Mem.upd_self _ _ _ | assumption | refine Mem.upd_ne (by assumption) ?_) rfl (v_sl rfl)) rfl rfl rfl ?_
  refine o_q (q_len rfl und28 rfl) rfl rfl rfl ?_
  refine o_q (q_mkf2 rfl rfl) rfl rfl rfl ?_
  refine o_call ((snd57 B1 B2 (x.recs.map enc).length (atN x.recs off) (fun i => if h : i < x.recs.length then decide (off ≤ x.recs[i].off) else false) _ (by rw [List.length_map]; omega) (fun i hi => by rw [List.length_map] at hi; simp only [hi, dif_pos]; exact (snd58 i B1 B2 t m x off _ (by repeat first | exact Mem.upd_self _ _ _ | assumption | refine Mem.upd_ne (by assumption) ?_) (by repeat first | exact Mem.upd_self _ _ _ | assumption | refine Mem.upd_ne (by assumption) ?_) (by repeat first | exact Mem.upd_self _ _ _ | assumption | refine Mem.upd_ne (by assumption) ?_) hi).det) (by rw [List.length_map]; exact atN_le _ _) (fun i hi => by obtain ⟨h1, h2⟩ := atN_lt hi; simp only [h1, dif_pos]; exact decide_eq_false (by omega)) (fun i hi h => by rw [List.length_map] at h; simp only [h, dif_pos]; exact decide_eq_true (atN_ge hs hi h))).det) goes57 (ac (v_raw rfl) (ac (v_raw rfl) ac_nil)) rfl ?_
  refine o_q (q_as (v_raw rfl)) rfl rfl rfl ?_
  refine o_nil ?_
  refine s_ret ?_
  refine s_end ?_
  exact ⟨rfl, (by repeat first | exact hle | exact Mem.le_refl M | assumption | exact Mem.none_of_le hle (by assumption) | refine Mem.le_upd ?_ ?_)⟩

def tk43 : Nat → Nat → Option Nat
  | 0, 0 => some 0
  | 2, 0 => some 0
  | 3, 3 => some 0
  | _, _ => none
def pl43 : Nat → List PStep := fun _ => []
theorem cb43 : Try.f43.body.map (codeB Try.prog Try.f43.ntmps tk43 pl43) = some true := by kernel_rfl
theorem goes43 : goesB Try.prog 43 = true := by kernel_rfl
-- slices.Clone[[]carillon/api.Record,carillon/api.Record] params ['[]api.Record'] results [['t', 2]] own [5] names ['0:s', '1:s'] calls [] paths 2
set_option maxHeartbeats 4000000 in
set_option maxRecDepth 20000 in
theorem snd43 (l : List Rec) (o : Bool) (M : Mem) (hl : l.length < 2 ^ 40) : SoundCall Try.prog 43 [.sl (l.map enc) o] M fun r M' => r = .sl (l.map enc) true ∧ M' = M := by
  refine SoundCall.go tk43 pl43 mixed Try.func43 cb43 rfl (Nat.le_of_ble_eq_true rfl) ?_
  refine s_seq ?_
  refine s_region ?_
  refine o_q (q_as_const rfl) rfl rfl rfl ?_
  refine o_nil ?_
  refine s_seq ?_
  refine s_seq ?_
  refine s_region ?_
  refine o_q (q_mv (v_sl rfl)) rfl rfl rfl ?_
  refine o_nilcmp und28 rfl rfl (.inl rfl) (fun nh1 h1n => ?_)
  refine o_nil ?_
  refine s_cond rfl (fun h2 => ?_) (fun h2 => ?_)
  · have k2 := h2; try simp only [decide_eq_true_eq, decide_eq_false_iff_not, Bool.not_eq_true', Bool.not_eq_false', Bool.not_true, Bool.not_false, List.length_map, Decidable.not_not] at k2
    obtain rfl : l = [] := by
      rcases l with _ | ⟨a, l⟩
      · rfl
      · have := h1n (by simp); subst this; cases h2
    refine s_seq ?_
    refine s_region ?_
    refine o_q (q_as_const rfl) rfl rfl rfl ?_
    refine o_nil ?_
    refine s_ret ?_
    refine s_code_ret ?_
    refine s_end ?_
    exact ⟨rfl, rfl⟩
  · have k2 := h2; try simp only [decide_eq_true_eq, decide_eq_false_iff_not, Bool.not_eq_true', Bool.not_eq_false', Bool.not_true, Bool.not_false, List.length_map, Decidable.not_not] at k2
    refine s_skip ?_
    refine s_seq ?_
    refine s_region ?_
    refine o_q (q_bs slt28 pn rfl Els.nil (by decide)) rfl rfl rfl ?_
    refine o_q (q_mv (v_sl rfl)) rfl rfl rfl ?_
    refine o_qs (q_app slt28 rfl rfl rfl rfl (by first | exact Els.nil | exact elsR) (by first | exact (by first | exact Els.nil | exact elsR) | exact Els.cons rfl rfl Els.nil) (by simp; omega)) rfl rfl rfl rfl ?_
    refine o_qs (q_as_own rfl) rfl rfl rfl rfl ?_
    refine o_nil ?_
    refine s_ret ?_
    refine s_end ?_
    exact ⟨rfl, rfl⟩

def tk15 : Nat → Nat → Option Nat
  | 0, 0 => some 0
  | 2, 8 => some 0
  | _, _ => none
def pl15 : Nat → List PStep
  | 1 => [.q 0, .q 1, .q 2, .q 3, .q 4, .q 5, .s 6 [3, 2, 1, 0], .q 7, .q 8]
  | _ => []
theorem cb15 : Try.f15.body.map (codeB Try.prog Try.f15.ntmps tk15 pl15) = some true := by kernel_rfl
theorem goes15 : goesB Try.prog 15 = true := by kernel_rfl
-- (*carillon/topic.Topic).Read params ['*topic.Topic', 'int', 'int'] results [['t', 6]] own [] names ['0:t', '1:offset', '2:most', '3:t', '4:offset', '5:most', '7:l'] calls [42, 43] paths 1

def readL (l : List Rec) (off most : Int) : List Rec := (l.drop (atN l off)).take (max most 0).toNat
theorem q_sl_lo {T : Nat → AVal} {M : Mem} {x y : Operand} {dst : Option Nat} {ty : TypeId} {pos : String} {af : Array Edge} {g : Option (Nat × Bool)} {α : Type} {f : α → AVal} {st e : TypeId} {sz n : Nat} {l : List α} {own : Bool} (hu : Try.prog.underlying st = some (.slice e)) (hs : sizeT Try.prog e = some sz) (hx : ev T x = .sl (l.map f) own) (hl : Els sz (l.map f))
    (hlo : aBound T 0 (some y) = some n) (h1 : n ≤ l.length) : qstep Try.prog none (mkO dst (.slice st x (some y) none none) ty pos af g) T M = some (⟨none, .sl ((l.drop n).map f) false⟩, []) := by
  have h := q_slice (dst := dst) (ty := ty) (pos := pos) (af := af) (g := g) (M := M) hu hs hx hl hlo ab_none (by rw [List.length_map]; exact h1) (Nat.le_refl _)
  rw [List.take_length, ← List.map_drop] at h
  exact h
theorem q_sl_hi {T : Nat → AVal} {M : Mem} {x y : Operand} {dst : Option Nat} {ty : TypeId} {pos : String} {af : Array Edge} {g : Option (Nat × Bool)} {α : Type} {f : α → AVal} {st e : TypeId} {sz n : Nat} {l : List α} {own : Bool} (hu : Try.prog.underlying st = some (.slice e)) (hs : sizeT Try.prog e = some sz) (hx : ev T x = .sl (l.map f) own) (hl : Els sz (l.map f))
    (hhi : aBound T (l.map f).length (some y) = some n) (h1 : n ≤ l.length) : qstep Try.prog none (mkO dst (.slice st x none (some y) none) ty pos af g) T M = some (⟨none, .sl ((l.take n).map f) false⟩, []) := by
  have h := q_slice (dst := dst) (ty := ty) (pos := pos) (af := af) (g := g) (M := M) hu hs hx hl ab_none hhi (Nat.zero_le _) (by rw [List.length_map]; exact h1)
  rw [List.drop_zero, ← List.map_take] at h
  exact h
theorem take_len {α β : Type} (f : α → β) (l : List α) : l.take (l.map f).length = l := by rw [List.length_map, List.take_length]
theorem take_min (l : List Rec) (n : Int) : l.take (min (max n 0) (l.length : Int)).toNat = l.take (max n 0).toNat := by
  rcases Nat.lt_or_ge (max n 0).toNat l.length with h | h
  · congr 1; omega
  · rw [List.take_of_length_le h, List.take_of_length_le (by omega)]
theorem readL_len (l : List Rec) (off most : Int) : (readL l off most).length ≤ l.length := by
  unfold readL
  rw [List.length_take, List.length_drop]
  omega
theorem readL_most (l : List Rec) (off most : Int) : ((readL l off most).length : Int) ≤ max most 0 := by
  unfold readL
  rw [List.length_take]
  omega
set_option maxHeartbeats 4000000 in
set_option maxRecDepth 20000 in
theorem snd15 (t m : Nat) (x : Tp) (off most : Int) (M : Mem) (ht : M t = some (.cells (tpC m x))) (hs : Sorted x.recs) (hlen : x.recs.length < 2 ^ 40) : SoundCall Try.prog 15 [ptr t, int off, int most] M fun r M' => r = .sl ((readL x.recs off most).map enc) true ∧ M' = M := by
  have hat := atN_le x.recs off
  refine SoundCall.go tk15 pl15 mixed Try.func15 cb15 rfl (Nat.le_of_ble_eq_true rfl) ?_
  refine s_seq ?_
  refine s_region ?_
  refine o_q (q_as_const rfl) rfl rfl rfl ?_
  refine o_nil ?_
  refine s_seq ?_
  refine s_draw rfl ?_
  refine d_q rfl (q_mv ((by first | exact v_raw rfl | exact v_sptr rfl))) rfl rfl rfl ?_
  refine d_q rfl (q_nil rfl) rfl rfl rfl ?_
  refine d_q rfl (q_fr fo78_4 rfl) rfl rfl rfl ?_
  refine d_q rfl (q_ldm ag28 sz28 rfl (by repeat first | exact Mem.upd_self _ _ _ | assumption | refine Mem.upd_ne (by assumption) ?_) rfl (v_sl rfl)) rfl rfl rfl ?_
  refine d_q rfl (q_mv ((by first | exact v_raw rfl | exact v_sptr rfl))) rfl rfl rfl ?_
  refine d_q rfl (q_mv (v_raw rfl)) rfl rfl rfl ?_
  refine d_s rfl ?_
  refine o_call ((snd42 t m x off _ ht hs hlen).det) goes42 (ac ((by first | exact v_raw rfl | exact v_sptr rfl)) (ac (v_raw rfl) ac_nil)) rfl ?_
  refine o_nil ⟨(by simp [Mem.upd, *]), ?_⟩
  refine d_q rfl (q_sl_lo und28 sz35 rfl elsR (ab rfl rfl) (by omega)) rfl rfl rfl ?_
  refine d_q rfl (q_as (v_sl rfl)) rfl rfl rfl ?_
  refine d_nil ?_
  refine s_seq ?_
  refine s_region ?_
  refine o_q (q_mv (v_sl rfl)) rfl rfl rfl ?_
  refine o_q (q_mv (v_raw rfl)) rfl rfl rfl ?_
  refine o_q (q_max rfl rfl) rfl rfl rfl ?_
  refine o_q (q_mv (v_sl rfl)) rfl rfl rfl ?_
  refine o_q (q_len rfl und28 rfl) rfl rfl rfl ?_
  refine o_q (q_min rfl rfl) rfl rfl rfl ?_
  refine o_q (q_sl_hi (n := (min (max most 0) ((x.recs.drop (atN x.recs off)).length : Int)).toNat) und28 sz35 rfl elsR (ab rfl (by rw [List.length_map]; omega)) (by simp; omega)) rfl rfl rfl ?_
  refine o_call ((snd43 _ false _ (by simp; omega))) goes43 (ac (v_sl rfl) ac_nil) rfl ?_
  refine o_qs (q_as_own rfl) rfl rfl rfl rfl ?_
  refine o_nil ?_
  refine s_ret ?_
  refine s_end ?_
  exact ⟨congrArg (fun l => AVal.sl (List.map enc l) true) (take_min _ _), rfl⟩

def tk18 : Nat → Nat → Option Nat := fun _ _ => none
def pl18 : Nat → List PStep
  | 4 => [.q 0, .q 1, .q 2, .q 3, .q 4, .q 5, .q 6, .s 7 [4, 3, 2, 1, 0], .q 8, .s 9 [6, 5, 4, 3, 2, 1, 0], .q 10, .q 11, .s 12 [10]]
  | _ => []
theorem cb18 : Try.f18.body.map (codeB Try.prog Try.f18.ntmps tk18 pl18) = some true := by kernel_rfl
theorem goes18 : goesB Try.prog 18 = true := by kernel_rfl
-- (*carillon/topic.Topic).Trim params ['*topic.Topic', 'int'] results [['t', 4]] own [] names ['0:t', '1:n', '2:t', '3:n'] calls [42, 43] paths 3

def trimT (x : Tp) (n : Int) : Tp × Int := if x.en < n then (x, 7) else if x.low < n then (⟨x.name, n, x.en, x.kvs, x.recs.drop (atN x.recs n)⟩, 0) else (x, 0)
set_option maxHeartbeats 4000000 in
set_option maxRecDepth 20000 in
theorem snd18 (t m : Nat) (x : Tp) (n : Int) (M : Mem) (ht : M t = some (.cells (tpC m x))) (hm : M m = some (tpK x)) (htm : t ≠ m) (hs : Sorted x.recs) (hlen : x.recs.length < 2 ^ 40) : SoundCall Try.prog 18 [ptr t, int n] M fun r M' => r = int (trimT x n).2 ∧ (setTp M t m (trimT x n).1).le M' := by
  have hat := atN_le x.recs n
  have htm' := htm.symm
  have same : setTp M t m x = M := setTp_same ht hm htm
  refine SoundCall.go tk18 pl18 mixed Try.func18 cb18 rfl (Nat.le_of_ble_eq_true rfl) ?_
  refine s_seq ?_
  refine s_region ?_
  refine o_q (q_as (v_raw rfl)) rfl rfl rfl ?_
  refine o_nil ?_
  refine s_seq ?_
  refine s_seq ?_
  refine s_region ?_
  refine o_q (q_mv (v_raw rfl)) rfl rfl rfl ?_
  refine o_q (q_mv ((by first | exact v_raw rfl | exact v_sptr rfl))) rfl rfl rfl ?_
  refine o_q (q_nil rfl) rfl rfl rfl ?_
  refine o_q (q_fr fo78_2 rfl) rfl rfl rfl ?_
  refine o_q (q_ldm ag3 sz3 rfl (by repeat first | exact Mem.upd_self _ _ _ | assumption | refine Mem.upd_ne (by assumption) ?_) rfl (v_raw rfl)) rfl rfl rfl ?_
  refine o_q (q_gtr rfl rfl) rfl rfl rfl ?_
  refine o_nil ?_
  refine s_cond rfl (fun h1 => ?_) (fun h1 => ?_)
  · have k1 := h1; try simp only [decide_eq_true_eq, decide_eq_false_iff_not, Bool.not_eq_true', Bool.not_eq_false', Bool.not_true, Bool.not_false, List.length_map, Decidable.not_not] at k1
    refine s_seq ?_
    refine s_region ?_
    refine o_q (q_as (v_raw rfl)) rfl rfl rfl ?_
    refine o_nil ?_
    refine s_ret ?_
    refine s_code_ret ?_
    refine s_end ?_
    unfold trimT
    rw [if_pos (by omega), same]
    exact ⟨rfl, Mem.le_refl _⟩
  · have k1 := h1; try simp only [decide_eq_true_eq, decide_eq_false_iff_not, Bool.not_eq_true', Bool.not_eq_false', Bool.not_true, Bool.not_false, List.length_map, Decidable.not_not] at k1
    refine s_skip ?_
    refine s_seq ?_
    refine s_seq ?_
    refine s_region ?_
    refine o_q (q_mv (v_raw rfl)) rfl rfl rfl ?_
    refine o_q (q_mv ((by first | exact v_raw rfl | exact v_sptr rfl))) rfl rfl rfl ?_
    refine o_q (q_nil rfl) rfl rfl rfl ?_
    refine o_q (q_fr fo78_1 rfl) rfl rfl rfl ?_
    refine o_q (q_ldm ag3 sz3 rfl (by repeat first | exact Mem.upd_self _ _ _ | assumption | refine Mem.upd_ne (by assumption) ?_) rfl (v_raw rfl)) rfl rfl rfl ?_
    refine o_q (q_gtr rfl rfl) rfl rfl rfl ?_
    refine o_nil ?_
    refine s_cond rfl (fun h2 => ?_) (fun h2 => ?_)
    · have k2 := h2; try simp only [decide_eq_true_eq, decide_eq_false_iff_not, Bool.not_eq_true', Bool.not_eq_false', Bool.not_true, Bool.not_false, List.length_map, Decidable.not_not] at k2
      refine s_seq ?_
      refine s_draw rfl ?_
      refine d_q rfl (q_mv ((by first | exact v_raw rfl | exact v_sptr rfl))) rfl rfl rfl ?_
      refine d_q rfl (q_mv ((by first | exact v_raw rfl | exact v_sptr rfl))) rfl rfl rfl ?_
      refine d_q rfl (q_nil rfl) rfl rfl rfl ?_
      refine d_q rfl (q_fr fo78_4 rfl) rfl rfl rfl ?_
      refine d_q rfl (q_ldm ag28 sz28 rfl (by repeat first | exact Mem.upd_self _ _ _ | assumption | refine Mem.upd_ne (by assumption) ?_) rfl (v_sl rfl)) rfl rfl rfl ?_
      refine d_q rfl (q_mv ((by first | exact v_raw rfl | exact v_sptr rfl))) rfl rfl rfl ?_
      refine d_q rfl (q_mv (v_raw rfl)) rfl rfl rfl ?_
      refine d_s rfl ?_
      refine o_call ((snd42 t m x n _ ht hs hlen).det) goes42 (ac ((by first | exact v_raw rfl | exact v_sptr rfl)) (ac (v_raw rfl) ac_nil)) rfl ?_
      refine o_nil ⟨(by simp [Mem.upd, *]), ?_⟩
      refine d_q rfl (q_sl_lo und28 sz35 rfl elsR (ab rfl rfl) (by omega)) rfl rfl rfl ?_
      refine d_s rfl ?_
      refine o_call ((snd43 _ false _ (by simp; omega))) goes43 (ac (v_sl rfl) ac_nil) rfl ?_
      refine o_nil ⟨(by simp [Mem.upd, *]), ?_⟩
      refine d_q rfl (q_nil rfl) rfl rfl rfl ?_
      refine d_q rfl (q_fr fo78_4 rfl) rfl rfl rfl ?_
      refine d_s rfl ?_
      refine o_store_own rfl (by repeat first | exact Mem.upd_self _ _ _ | assumption | refine Mem.upd_ne (by assumption) ?_) rfl sz28 (Nat.le_of_ble_eq_true rfl) ?_
      refine o_nil ⟨(by simp [Mem.upd, *]), ?_⟩
      refine d_nil ?_
      refine s_region ?_
      refine o_q (q_mv ((by first | exact v_raw rfl | exact v_sptr rfl))) rfl rfl rfl ?_
      refine o_q (q_mv (v_raw rfl)) rfl rfl rfl ?_
      refine o_q (q_nil rfl) rfl rfl rfl ?_
      refine o_q (q_fr fo78_1 rfl) rfl rfl rfl ?_
      refine o_store rfl (by repeat first | exact Mem.upd_self _ _ _ | assumption | refine Mem.upd_ne (by assumption) ?_) (by first | exact e_raw rfl | exact e_agg rfl | exact e_sl rfl | rfl) rfl sz3 rfl (Nat.le_of_ble_eq_true rfl) rfl rfl ?_
      refine o_nil ?_
      refine s_seq ?_
      refine s_region ?_
      refine o_q (q_as (v_raw rfl)) rfl rfl rfl ?_
      refine o_nil ?_
      refine s_ret ?_
      refine s_end ?_
      unfold trimT
      rw [if_neg (by omega), if_pos (by omega)]
      exact ⟨rfl, le_tp (h1 := (by repeat first | exact Mem.upd_self _ _ _ | assumption | refine Mem.upd_ne (by assumption) ?_)) (by repeat first | exact Mem.upd_self _ _ _ | assumption | refine Mem.upd_ne (by assumption) ?_) (fun c o e1 e2 hc => by repeat first | exact hc | refine Mem.upd_ne (by first | exact e1 | exact e2 | exact Mem.ne_none hc (by assumption)) ?_) rfl⟩
    · have k2 := h2; try simp only [decide_eq_true_eq, decide_eq_false_iff_not, Bool.not_eq_true', Bool.not_eq_false', Bool.not_true, Bool.not_false, List.length_map, Decidable.not_not] at k2
      refine s_skip ?_
      refine s_seq ?_
      refine s_region ?_
      refine o_q (q_as (v_raw rfl)) rfl rfl rfl ?_
      refine o_nil ?_
      refine s_ret ?_
      refine s_end ?_
      unfold trimT
      rw [if_neg (by omega), if_neg (by omega), same]
      exact ⟨rfl, Mem.le_refl _⟩

def tk59 : Nat → Nat → Option Nat
  | 0, 0 => some 0
  | 0, 1 => some 0
  | 11, 0 => some 0
  | 11, 5 => some 0
  | 12, 0 => some 0
  | 12, 4 => some 0
  | 14, 0 => some 0
  | 14, 1 => some 0
  | 14, 2 => some 0
  | 14, 3 => some 0
  | _, _ => none
def pl59 : Nat → List PStep := fun _ => []
theorem cb59 : Try.f59.body.map (codeB Try.prog Try.f59.ntmps tk59 pl59) = some true := by kernel_rfl
theorem goes59 : goesB Try.prog 59 = true := by kernel_rfl
-- carillon/compact.parted params ['[]api.Record', 'int'] results [['t', 4], ['t', 5]] own [48, 53, 5, 4, 52, 56, 58, 59] names ['0:l', '1:upto', '2:l', '3:upto', '4:stay', '5:gone', '6:last', '7:i', '8:r', '9:i', '10:r'] calls [] paths 6
set_option maxHeartbeats 4000000 in
set_option maxRecDepth 20000 in
theorem snd59 (l : List Rec) (upto : Int) (o : Bool) (M : Mem) (hl : l.length * 64 ≤ 2 ^ 47) : SoundCall Try.prog 59 [.sl (l.map enc) o, .raw (.int .i64 upto)] M fun r M' => r = .tup [.sl ((keepN l upto l.length).map enc) true, .sl ((goneN l upto l.length).map encI) true] ∧ M.le M' := by
  refine SoundCall.go tk59 pl59 mixed Try.func59 cb59 rfl (Nat.le_of_ble_eq_true rfl) ?_
  refine s_seq ?_
  refine s_region ?_
  refine o_q (q_as_const rfl) rfl rfl rfl ?_
  refine o_q (q_as_const rfl) rfl rfl rfl ?_
  refine o_nil ?_
  refine s_seq ?_
  refine s_region ?_
  refine o_makeMap (fun B1 hB1 => ?_)
  refine o_q (q_as (v_raw rfl)) rfl rfl rfl ?_
  refine o_nil ?_
  refine s_seq ?_
  refine s_seq ?_
  refine s_region ?_
  refine o_q (q_mv (v_sl rfl)) rfl rfl rfl ?_
  refine o_q (q_len rfl und28 rfl) rfl rfl rfl ?_
  refine o_q (q_mv (v_raw rfl)) rfl rfl rfl ?_
  refine o_nil ?_
  refine s_block ?_
  refine s_loop (fun m S => ∃ T, ∃ M' : Mem, ∃ kvs, ∃ i : Nat, S = ⟨setT (setT (setT (setT (setT (setT (setT (setT T 0 (.sl (l.map enc) o)) 1 (.raw (.int .i64 upto))) 4 (.sl [] true)) 5 (.sl [] true)) 6 (.raw (.map (some B1)))) 12 (.sl (l.map enc) false)) 13 (.raw (.int .i64 l.length))) 14 (.raw (.int .i64 i)), M'⟩ ∧ M.le M' ∧ M' B1 = some (.map (ents Value.string encN kvs)) ∧ (∀ key, kget kvs key = lastN l key i) ∧ i ≤ l.length ∧ m = l.length - i) l.length ?_ ?_
  · exact ⟨_, _, [], 0, St.mkT (kp (kp (kp (kp (kp (kp (kp (kp rfl rfl) rfl) rfl) rfl) rfl) rfl) (by show AVal.raw (.int .i64 ((l.map enc).length : Int)) = _; rw [List.length_map])) rfl).symm, Mem.le_upd (Mem.le_refl M) hB1, Mem.upd_self _ _ _, fun _ => rfl, by omega, rfl⟩
  rintro m S ⟨T, M', kvs, i, rfl, hle, hB, hkvs, hi, rfl⟩
  refine s_seq ?_
  refine s_region ?_
  refine o_q (q_lss rfl rfl) rfl rfl rfl ?_
  refine o_nil ?_
  refine s_seq ?_
  refine s_cond rfl (fun h1 => ?_) (fun h1 => ?_)
  · have k1 := h1; try simp only [decide_eq_true_eq, decide_eq_false_iff_not, Bool.not_eq_true', Bool.not_eq_false', Bool.not_true, Bool.not_false, List.length_map, Decidable.not_not] at k1
    refine s_skip ?_
    refine s_seq ?_
    refine s_block ?_
    refine s_seq ?_
    refine s_region ?_
    refine o_q (q_mv (v_raw rfl)) rfl rfl rfl ?_
    refine o_q (q_idx und28 sz35 rfl rfl (by omega) (gm i (by first | omega | simp)) rfl) rfl rfl rfl ?_
    refine o_q (q_lde ag35 sz35 rfl (gm i (by first | omega | simp)) rfl rfl) rfl rfl rfl ?_
    refine o_alloc zc35 (fun B2 hB2 => ?_)
    have n2 : B1 ≠ B2 := ne_fresh hB2 hB
    refine o_q (q_as (v_raw rfl)) rfl rfl rfl ?_
    refine o_storew rfl (by repeat first | exact Mem.upd_self _ _ _ | assumption | refine Mem.upd_ne (by assumption) ?_) (by first | exact e_agg rfl | rfl) rfl sz35 rfl rfl rfl rfl ?_
    refine o_nil ?_
    refine s_region ?_
    refine o_q (q_mv (v_raw rfl)) rfl rfl rfl ?_
    refine o_q (q_fr fo35_3 rfl) rfl rfl rfl ?_
    refine o_q (q_ldm ag9 sz9 rfl (by repeat first | exact Mem.upd_self _ _ _ | assumption | refine Mem.upd_ne (by assumption) ?_) rfl (v_raw rfl)) rfl rfl rfl ?_
    refine o_q (q_mv (v_raw rfl)) rfl rfl rfl ?_
    refine o_mput und111 kt9 rfl rfl (by repeat first | exact Mem.upd_self _ _ _ | assumption | refine Mem.upd_ne (by assumption) ?_) (v := i) (f := encN) (v_raw rfl) ?_
    refine o_nil ?_
    refine s_blk_normal ?_
    refine s_region ?_
    refine o_q (q_add rfl rfl (wrap64 (by omega) (by omega))) rfl rfl rfl ?_
    refine o_q (q_mv (v_raw rfl)) rfl rfl rfl ?_
    refine o_nil ?_
    refine s_inv ?_
    refine ⟨l.length - (i + 1), by omega, _, _, kput kvs l[i].key i, i + 1, St.mkT (kp (kp (kp (kp (kp (kp (kp (kp rfl rfl) rfl) rfl) rfl) rfl) rfl) rfl) rfl).symm, Mem.le_upd (Mem.le_upd (Mem.le_upd hle (Mem.none_of_le hle hB2)) (Mem.none_of_le hle hB2)) hB1, Mem.upd_self _ _ _, fun key => ?_, by omega, rfl⟩
    rw [kget_kput, hkvs]
    show _ = if (l.getD i default).key = key then some i else lastN l key i
    rw [getD_lt (by omega)]
    by_cases e : key = l[i].key
    · rw [if_pos e, if_pos e.symm]
    · rw [if_neg e, if_neg fun h => e h.symm]
  · have k1 := h1; try simp only [decide_eq_true_eq, decide_eq_false_iff_not, Bool.not_eq_true', Bool.not_eq_false', Bool.not_true, Bool.not_false, List.length_map, Decidable.not_not] at k1
    refine s_exit ?_
    refine s_code_exit ?_
    refine s_inv_exit ?_
    refine s_blk_here ?_
    refine s_seq ?_
    refine s_seq ?_
    refine s_region ?_
    refine o_q (q_mv (v_sl rfl)) rfl rfl rfl ?_
    refine o_q (q_len rfl und28 rfl) rfl rfl rfl ?_
    refine o_q (q_mv (v_raw rfl)) rfl rfl rfl ?_
    refine o_nil ?_
    refine s_block ?_
    refine s_loop (fun m S => ∃ T, ∃ M' : Mem, ∃ kvs, ∃ i : Nat, S = ⟨setT (setT (setT (setT (setT (setT (setT (setT T 0 (.sl (l.map enc) o)) 1 (.raw (.int .i64 upto))) 4 (.sl ((keepN l upto i).map enc) true)) 5 (.sl ((goneN l upto i).map encI) true)) 6 (.raw (.map (some B1)))) 24 (.sl (l.map enc) false)) 25 (.raw (.int .i64 l.length))) 26 (.raw (.int .i64 i)), M'⟩ ∧ M.le M' ∧ M' B1 = some (.map (ents Value.string encN kvs)) ∧ (∀ key, kget kvs key = lastN l key l.length) ∧ i ≤ l.length ∧ m = l.length - i) l.length ?_ ?_
    · have hil : i = l.length := by omega
      subst hil
      exact ⟨_, _, kvs, 0, St.mkT (kp (kp (kp (kp (kp (kp (kp (kp rfl rfl) rfl) rfl) rfl) rfl) rfl) (by show AVal.raw (.int .i64 ((l.map enc).length : Int)) = _; rw [List.length_map])) rfl).symm, hle, hB, hkvs, by omega, rfl⟩
    rintro m S ⟨T, M', kvs, i, rfl, hle, hB, hkvs, hi, rfl⟩
    have hlen := keepN_len l upto i
    have hlen2 := goneN_len l upto i
    refine s_seq ?_
    refine s_region ?_
    refine o_q (q_lss rfl rfl) rfl rfl rfl ?_
    refine o_nil ?_
    refine s_seq ?_
    refine s_cond rfl (fun h2 => ?_) (fun h2 => ?_)
    · have k2 := h2; try simp only [decide_eq_true_eq, decide_eq_false_iff_not, Bool.not_eq_true', Bool.not_eq_false', Bool.not_true, Bool.not_false, List.length_map, Decidable.not_not] at k2
      refine s_skip ?_
      refine s_seq ?_
      refine s_block ?_
      refine s_seq ?_
      refine s_region ?_
      refine o_q (q_mv (v_raw rfl)) rfl rfl rfl ?_
      refine o_q (q_idx und28 sz35 rfl rfl (by omega) (gm i (by first | omega | simp)) rfl) rfl rfl rfl ?_
      refine o_q (q_lde ag35 sz35 rfl (gm i (by first | omega | simp)) rfl rfl) rfl rfl rfl ?_
      refine o_alloc zc35 (fun B3 hB3 => ?_)
      have n3 : B1 ≠ B3 := ne_fresh hB3 hB
      refine o_q (q_as (v_raw rfl)) rfl rfl rfl ?_
      refine o_storew rfl (by repeat first | exact Mem.upd_self _ _ _ | assumption | refine Mem.upd_ne (by assumption) ?_) (by first | exact e_agg rfl | rfl) rfl sz35 rfl rfl rfl rfl ?_
      refine o_nil ?_
      refine s_seq ?_
      refine s_seq ?_
      refine s_region ?_
      refine o_q (q_fr fo35_3 rfl) rfl rfl rfl ?_
      refine o_q (q_ldm ag9 sz9 rfl (by repeat first | exact Mem.upd_self _ _ _ | assumption | refine Mem.upd_ne (by assumption) ?_) rfl (v_raw rfl)) rfl rfl rfl ?_
      refine o_q (q_sneq rfl rfl) rfl rfl rfl ?_
      refine o_q (q_mv (v_raw rfl)) rfl rfl rfl ?_
      refine o_cases (want := true) (j := 3) rfl rfl (fun h3 => ?_) (fun h3 => ?_)
      · have k3 := h3; try simp only [decide_eq_true_eq, decide_eq_false_iff_not, Bool.not_eq_true', Bool.not_eq_false', Bool.not_true, Bool.not_false, List.length_map, Decidable.not_not] at k3
        refine o_yes rfl rfl rfl h3 ?_
        refine o_q (q_mv (v_raw rfl)) rfl rfl rfl ?_
        refine o_yes rfl rfl rfl h3 ?_
        refine o_q (q_fr fo35_3 rfl) rfl rfl rfl ?_
        refine o_yes rfl rfl rfl h3 ?_
        refine o_q (q_ldm ag9 sz9 rfl (by repeat first | exact Mem.upd_self _ _ _ | assumption | refine Mem.upd_ne (by assumption) ?_) rfl (v_raw rfl)) rfl rfl rfl ?_
        refine o_yes rfl rfl rfl h3 ?_
        refine o_q (q_mget und111 kt9 z3 rfl rfl (by repeat first | exact Mem.upd_self _ _ _ | assumption | refine Mem.upd_ne (by assumption) ?_) (show _ = AVal.raw (.int .i64 (((lastN l l[i].key l.length).getD 0 : Nat) : Int)) by rw [hkvs]; exact lookN _)) rfl rfl rfl ?_
        refine o_yes rfl rfl rfl h3 ?_
        refine o_q (q_mv (v_raw rfl)) rfl rfl rfl ?_
        refine o_yes rfl rfl rfl h3 ?_
        refine o_q (q_gtr rfl rfl) rfl rfl rfl ?_
        refine o_q (q_pick_c (t := true) rfl h3 (v_raw rfl)) rfl rfl rfl ?_
        refine o_q (q_mv (v_raw rfl)) rfl rfl rfl ?_
        refine o_cases (want := true) (j := 11) rfl rfl (fun h4 => ?_) (fun h4 => ?_)
        · have k4 := h4; try simp only [decide_eq_true_eq, decide_eq_false_iff_not, Bool.not_eq_true', Bool.not_eq_false', Bool.not_true, Bool.not_false, List.length_map, Decidable.not_not] at k4
          refine o_yes rfl rfl rfl h4 ?_
          refine o_q (q_fr fo35_0 rfl) rfl rfl rfl ?_
          refine o_yes rfl rfl rfl h4 ?_
          refine o_q (q_ldm ag3 sz3 rfl (by repeat first | exact Mem.upd_self _ _ _ | assumption | refine Mem.upd_ne (by assumption) ?_) rfl (v_raw rfl)) rfl rfl rfl ?_
          refine o_yes rfl rfl rfl h4 ?_
          refine o_q (q_mv (v_raw rfl)) rfl rfl rfl ?_
          refine o_yes rfl rfl rfl h4 ?_
          refine o_q (q_lss rfl rfl) rfl rfl rfl ?_
          refine o_q (q_pick_c (t := true) rfl h4 (v_raw rfl)) rfl rfl rfl ?_
          refine o_nil ?_
          refine s_cond rfl (fun h5 => ?_) (fun h5 => ?_)
          · have k5 := h5; try simp only [decide_eq_true_eq, decide_eq_false_iff_not, Bool.not_eq_true', Bool.not_eq_false', Bool.not_true, Bool.not_false, List.length_map, Decidable.not_not] at k5
            refine s_seq ?_
            refine s_region ?_
            refine o_qs (q_mv_own rfl) rfl rfl rfl rfl ?_
            refine o_q (q_fr fo35_0 rfl) rfl rfl rfl ?_
            refine o_q (q_ldm ag3 sz3 rfl (by repeat first | exact Mem.upd_self _ _ _ | assumption | refine Mem.upd_ne (by assumption) ?_) rfl (v_raw rfl)) rfl rfl rfl ?_
            refine o_q (q_bs slt42 (pc (v_raw rfl) pn) rfl (Els.cons rfl rfl Els.nil) (by decide)) rfl rfl rfl ?_
            refine o_qs (q_app slt42 rfl rfl rfl rfl elsI (by first | exact elsI | exact Els.cons rfl rfl Els.nil) (by simp; omega)) rfl rfl rfl rfl ?_
            refine o_qs (q_as_own rfl) rfl rfl rfl rfl ?_
            refine o_nil ?_
            refine s_exit ?_
            refine s_code_exit ?_
            refine s_blk_here ?_
            refine s_region ?_
            refine o_q (q_add rfl rfl (wrap64 (by omega) (by omega))) rfl rfl rfl ?_
            refine o_q (q_mv (v_raw rfl)) rfl rfl rfl ?_
            refine o_nil ?_
            refine s_inv ?_
            have hs := (last_gt (by omega) k3).1 k4
            refine ⟨l.length - (i + 1), by omega, _, _, _, i + 1, St.mkT (kp (kp (kp (kp (kp (kp (kp (kp rfl rfl) rfl) (by show _ = AVal.sl _ true; rw [keepN_succ l upto (by omega), if_neg (by simp [hs]; omega), List.append_nil]; rfl)) (app_map (f := encI) (by rw [goneN_succ l upto (by omega), if_pos (by simp [hs]; omega)]))) rfl) rfl) rfl) rfl).symm, Mem.le_upd (Mem.le_upd hle (Mem.none_of_le hle hB3)) (Mem.none_of_le hle hB3), by repeat first | exact Mem.upd_self _ _ _ | assumption | refine Mem.upd_ne (by assumption) ?_, hkvs, by omega, rfl⟩
          · have k5 := h5; try simp only [decide_eq_true_eq, decide_eq_false_iff_not, Bool.not_eq_true', Bool.not_eq_false', Bool.not_true, Bool.not_false, List.length_map, Decidable.not_not] at k5
            refine s_skip ?_
            refine s_region ?_
            refine o_qs (q_mv_own rfl) rfl rfl rfl rfl ?_
            refine o_q (q_ldmw ag35 sz35 rfl (by repeat first | exact Mem.upd_self _ _ _ | assumption | refine Mem.upd_ne (by assumption) ?_) rfl rfl) rfl rfl rfl ?_
            refine o_q (q_bs slt28 (pc (v_agg rfl) pn) rfl (Els.cons rfl rfl Els.nil) (by decide)) rfl rfl rfl ?_
            refine o_qs (q_app slt28 rfl rfl rfl rfl elsR (by first | exact elsR | exact Els.cons rfl rfl Els.nil) (by simp; omega)) rfl rfl rfl rfl ?_
            refine o_qs (q_as_own rfl) rfl rfl rfl rfl ?_
            refine o_nil ?_
            refine s_blk_normal ?_
            refine s_region ?_
            refine o_q (q_add rfl rfl (wrap64 (by omega) (by omega))) rfl rfl rfl ?_
            refine o_q (q_mv (v_raw rfl)) rfl rfl rfl ?_
            refine o_nil ?_
            refine s_inv ?_
            refine ⟨l.length - (i + 1), by omega, _, _, _, i + 1, St.mkT (kp (kp (kp (kp (kp (kp (kp (kp rfl rfl) rfl) (app_map (by rw [keepN_succ l upto (by omega), if_pos (by simp; right; omega)]))) (by show _ = AVal.sl _ true; rw [goneN_succ l upto (by omega), if_neg (by simp; intro _; omega), List.append_nil]; rfl)) rfl) rfl) rfl) rfl).symm, Mem.le_upd (Mem.le_upd hle (Mem.none_of_le hle hB3)) (Mem.none_of_le hle hB3), by repeat first | exact Mem.upd_self _ _ _ | assumption | refine Mem.upd_ne (by assumption) ?_, hkvs, by omega, rfl⟩
        · have k4 := h4; try simp only [decide_eq_true_eq, decide_eq_false_iff_not, Bool.not_eq_true', Bool.not_eq_false', Bool.not_true, Bool.not_false, List.length_map, Decidable.not_not] at k4
          refine o_no rfl rfl rfl rfl h4 ?_
          refine o_no rfl rfl rfl rfl h4 ?_
          refine o_no rfl rfl rfl rfl h4 ?_
          refine o_no rfl rfl rfl rfl h4 ?_
          refine o_q (q_pick_c (t := false) rfl h4 (v_raw rfl)) rfl rfl rfl ?_
          refine o_nil ?_
          refine s_else rfl rfl ?_
          refine s_skip ?_
          refine s_region ?_
          refine o_qs (q_mv_own rfl) rfl rfl rfl rfl ?_
          refine o_q (q_ldmw ag35 sz35 rfl (by repeat first | exact Mem.upd_self _ _ _ | assumption | refine Mem.upd_ne (by assumption) ?_) rfl rfl) rfl rfl rfl ?_
          refine o_q (q_bs slt28 (pc (v_agg rfl) pn) rfl (Els.cons rfl rfl Els.nil) (by decide)) rfl rfl rfl ?_
          refine o_qs (q_app slt28 rfl rfl rfl rfl elsR (by first | exact elsR | exact Els.cons rfl rfl Els.nil) (by simp; omega)) rfl rfl rfl rfl ?_
          refine o_qs (q_as_own rfl) rfl rfl rfl rfl ?_
          refine o_nil ?_
          refine s_blk_normal ?_
          refine s_region ?_
          refine o_q (q_add rfl rfl (wrap64 (by omega) (by omega))) rfl rfl rfl ?_
          refine o_q (q_mv (v_raw rfl)) rfl rfl rfl ?_
          refine o_nil ?_
          refine s_inv ?_
          have hs : superB l i = false := by rw [Bool.eq_false_iff]; exact fun h => k4 ((last_gt (by omega) k3).2 h)
          refine ⟨l.length - (i + 1), by omega, _, _, _, i + 1, St.mkT (kp (kp (kp (kp (kp (kp (kp (kp rfl rfl) rfl) (app_map (by rw [keepN_succ l upto (by omega), if_pos (by simp [hs])]))) (by show _ = AVal.sl _ true; rw [goneN_succ l upto (by omega), if_neg (by simp [hs]), List.append_nil]; rfl)) rfl) rfl) rfl) rfl).symm, Mem.le_upd (Mem.le_upd hle (Mem.none_of_le hle hB3)) (Mem.none_of_le hle hB3), by repeat first | exact Mem.upd_self _ _ _ | assumption | refine Mem.upd_ne (by assumption) ?_, hkvs, by omega, rfl⟩
      · have k3 := h3; try simp only [decide_eq_true_eq, decide_eq_false_iff_not, Bool.not_eq_true', Bool.not_eq_false', Bool.not_true, Bool.not_false, List.length_map, Decidable.not_not] at k3
        refine o_no rfl rfl rfl rfl h3 ?_
        refine o_no rfl rfl rfl rfl h3 ?_
        refine o_no rfl rfl rfl rfl h3 ?_
        refine o_no rfl rfl rfl rfl h3 ?_
        refine o_no rfl rfl rfl rfl h3 ?_
        refine o_no rfl rfl rfl rfl h3 ?_
        refine o_q (q_pick_c (t := false) rfl h3 (v_raw rfl)) rfl rfl rfl ?_
        refine o_q (q_mv (v_raw rfl)) rfl rfl rfl ?_
        refine o_no rfl rfl rfl rfl rfl ?_
        refine o_no rfl rfl rfl rfl rfl ?_
        refine o_no rfl rfl rfl rfl rfl ?_
        refine o_no rfl rfl rfl rfl rfl ?_
        refine o_q (q_pick_c (t := false) rfl rfl (v_raw rfl)) rfl rfl rfl ?_
        refine o_nil ?_
        refine s_else rfl rfl ?_
        refine s_skip ?_
        refine s_region ?_
        refine o_qs (q_mv_own rfl) rfl rfl rfl rfl ?_
        refine o_q (q_ldmw ag35 sz35 rfl (by repeat first | exact Mem.upd_self _ _ _ | assumption | refine Mem.upd_ne (by assumption) ?_) rfl rfl) rfl rfl rfl ?_
        refine o_q (q_bs slt28 (pc (v_agg rfl) pn) rfl (Els.cons rfl rfl Els.nil) (by decide)) rfl rfl rfl ?_
        refine o_qs (q_app slt28 rfl rfl rfl rfl elsR (by first | exact elsR | exact Els.cons rfl rfl Els.nil) (by simp; omega)) rfl rfl rfl rfl ?_
        refine o_qs (q_as_own rfl) rfl rfl rfl rfl ?_
        refine o_nil ?_
        refine s_blk_normal ?_
        refine s_region ?_
        refine o_q (q_add rfl rfl (wrap64 (by omega) (by omega))) rfl rfl rfl ?_
        refine o_q (q_mv (v_raw rfl)) rfl rfl rfl ?_
        refine o_nil ?_
        refine s_inv ?_
        have hs : superB l i = false := by rw [Bool.eq_false_iff]; exact fun h => ((superB_iff (by omega)).1 h).1 k3
        refine ⟨l.length - (i + 1), by omega, _, _, _, i + 1, St.mkT (kp (kp (kp (kp (kp (kp (kp (kp rfl rfl) rfl) (app_map (by rw [keepN_succ l upto (by omega), if_pos (by simp [hs])]))) (by show _ = AVal.sl _ true; rw [goneN_succ l upto (by omega), if_neg (by simp [hs]), List.append_nil]; rfl)) rfl) rfl) rfl) rfl).symm, Mem.le_upd (Mem.le_upd hle (Mem.none_of_le hle hB3)) (Mem.none_of_le hle hB3), by repeat first | exact Mem.upd_self _ _ _ | assumption | refine Mem.upd_ne (by assumption) ?_, hkvs, by omega, rfl⟩
    · have k2 := h2; try simp only [decide_eq_true_eq, decide_eq_false_iff_not, Bool.not_eq_true', Bool.not_eq_false', Bool.not_true, Bool.not_false, List.length_map, Decidable.not_not] at k2
      refine s_exit ?_
      refine s_code_exit ?_
      refine s_inv_exit ?_
      refine s_blk_here ?_
      refine s_seq ?_
      refine s_region ?_
      refine o_qs (q_mv_own rfl) rfl rfl rfl rfl ?_
      refine o_qs (q_mv_own rfl) rfl rfl rfl rfl ?_
      refine o_qs (q_as_own rfl) rfl rfl rfl rfl ?_
      refine o_qs (q_as_own rfl) rfl rfl rfl rfl ?_
      refine o_nil ?_
      refine s_ret ?_
      refine s_end ?_
      have hil : i = l.length := by omega
      subst hil
      exact ⟨rfl, hle⟩

def tk44 : Nat → Nat → Option Nat
  | 0, 0 => some 0
  | 1, 3 => some 0
  | 1, 4 => some 0
  | 1, 6 => some 0
  | 2, 0 => some 0
  | 2, 1 => some 0
  | _, _ => none
def pl44 : Nat → List PStep := fun _ => []
theorem cb44 : Try.f44.body.map (codeB Try.prog Try.f44.ntmps tk44 pl44) = some true := by kernel_rfl
theorem goes44 : goesB Try.prog 44 = true := by kernel_rfl
-- carillon/compact.Keep params ['[]api.Record', 'int'] results [['t', 4]] own [] names ['0:l', '1:upto', '2:l', '3:upto', '5:stay', '6:_'] calls [59] paths 1
set_option maxHeartbeats 4000000 in
set_option maxRecDepth 20000 in
theorem snd44 (l : List Rec) (upto : Int) (o : Bool) (M : Mem) (hl : l.length * 64 ≤ 2 ^ 47) : SoundCall Try.prog 44 [.sl (l.map enc) o, int upto] M fun r M' => r = .sl ((keepN l upto l.length).map enc) true ∧ M' = M := by
  refine SoundCall.go tk44 pl44 mixed Try.func44 cb44 rfl (Nat.le_of_ble_eq_true rfl) ?_
  refine s_seq ?_
  refine s_region ?_
  refine o_q (q_as_const rfl) rfl rfl rfl ?_
  refine o_nil ?_
  refine s_seq ?_
  refine s_region ?_
  refine o_q (q_mv (v_sl rfl)) rfl rfl rfl ?_
  refine o_q (q_mv (v_raw rfl)) rfl rfl rfl ?_
  refine o_call ((snd59 l upto false M hl).det) goes59 (ac (v_sl rfl) (ac (v_raw rfl) ac_nil)) rfl ?_
  refine o_qs (q_mv_own rfl) rfl rfl rfl rfl ?_
  refine o_ext rfl rfl rfl rfl ?_
  refine o_q (q_ext rfl rfl (v_sl rfl)) rfl rfl rfl ?_
  refine o_qs (q_as_own rfl) rfl rfl rfl rfl ?_
  refine o_q (q_as (v_sl rfl)) rfl rfl rfl ?_
  refine o_nil ?_
  refine s_seq ?_
  refine s_region ?_
  refine o_qs (q_mv_own rfl) rfl rfl rfl rfl ?_
  refine o_qs (q_as_own rfl) rfl rfl rfl rfl ?_
  refine o_nil ?_
  refine s_ret ?_
  refine s_end ?_
  exact ⟨rfl, rfl⟩

def tk19 : Nat → Nat → Option Nat := fun _ _ => none
def pl19 : Nat → List PStep := fun _ => []
theorem cb19 : Try.f19.body.map (codeB Try.prog Try.f19.ntmps tk19 pl19) = some true := by kernel_rfl
theorem goes19 : goesB Try.prog 19 = true := by kernel_rfl
-- (*carillon/topic.Topic).Compact params ['*topic.Topic', 'int'] results [['t', 4]] own [] names ['0:t', '1:upto', '2:t', '3:upto'] calls [44] paths 1

def compT (x : Tp) (n : Int) : Tp := ⟨x.name, x.low, x.en, x.kvs, keepN x.recs n x.recs.length⟩
set_option maxHeartbeats 4000000 in
set_option maxRecDepth 20000 in
theorem snd19 (t m : Nat) (x : Tp) (n : Int) (M : Mem) (ht : M t = some (.cells (tpC m x))) (hm : M m = some (tpK x)) (htm : t ≠ m) (hlen : x.recs.length < 2 ^ 40) : SoundCall Try.prog 19 [ptr t, int n] M fun r M' => r = int 0 ∧ (setTp M t m (compT x n)).le M' := by
  have htm' := htm.symm
  refine SoundCall.go tk19 pl19 mixed Try.func19 cb19 rfl (Nat.le_of_ble_eq_true rfl) ?_
  refine s_seq ?_
  refine s_region ?_
  refine o_q (q_as (v_raw rfl)) rfl rfl rfl ?_
  refine o_nil ?_
  refine s_seq ?_
  refine s_region ?_
  refine o_q (q_mv ((by first | exact v_raw rfl | exact v_sptr rfl))) rfl rfl rfl ?_
  refine o_q (q_mv ((by first | exact v_raw rfl | exact v_sptr rfl))) rfl rfl rfl ?_
  refine o_q (q_nil rfl) rfl rfl rfl ?_
  refine o_q (q_fr fo78_4 rfl) rfl rfl rfl ?_
  refine o_q (q_ldm ag28 sz28 rfl (by repeat first | exact Mem.upd_self _ _ _ | assumption | refine Mem.upd_ne (by assumption) ?_) rfl (v_sl rfl)) rfl rfl rfl ?_
  refine o_q (q_mv (v_raw rfl)) rfl rfl rfl ?_
  refine o_call ((snd44 x.recs n false M (by omega))) goes44 (ac (v_sl rfl) (ac (v_raw rfl) ac_nil)) rfl ?_
  refine o_q (q_nil rfl) rfl rfl rfl ?_
  refine o_q (q_fr fo78_4 rfl) rfl rfl rfl ?_
  refine o_store_own rfl (by repeat first | exact Mem.upd_self _ _ _ | assumption | refine Mem.upd_ne (by assumption) ?_) rfl sz28 (Nat.le_of_ble_eq_true rfl) ?_
  refine o_nil ?_
  refine s_seq ?_
  refine s_region ?_
  refine o_q (q_as (v_raw rfl)) rfl rfl rfl ?_
  refine o_nil ?_
  refine s_ret ?_
  refine s_end ?_
  exact ⟨rfl, le_tp (h1 := (by repeat first | exact Mem.upd_self _ _ _ | assumption | refine Mem.upd_ne (by assumption) ?_)) (by repeat first | exact Mem.upd_self _ _ _ | assumption | refine Mem.upd_ne (by assumption) ?_) (fun c o e1 e2 hc => by repeat first | exact hc | refine Mem.upd_ne (by first | exact e1 | exact e2 | exact Mem.ne_none hc (by assumption)) ?_) rfl⟩

def tk16 : Nat → Nat → Option Nat := fun _ _ => none
def pl16 : Nat → List PStep
  | 6 => [.q 0, .q 1, .q 2, .q 3, .q 4, .q 5, .q 6, .q 7, .q 8]
  | _ => []
theorem cb16 : Try.f16.body.map (codeB Try.prog Try.f16.ntmps tk16 pl16) = some true := by kernel_rfl
theorem goes16 : goesB Try.prog 16 = true := by kernel_rfl
-- carillon/carillonlaw15.records params ['[]api.Record', '[]api.Record'] results [['t', 4]] own [] names ['0:a', '1:b', '2:a', '3:b', '5:i'] calls [] paths 4
set_option maxHeartbeats 4000000 in
set_option maxRecDepth 20000 in
theorem snd16 (a b : List Rec) (o1 o2 : Bool) (M : Mem) (hl : a.length < 2 ^ 42) : SoundCall Try.prog 16 [.sl (a.map enc) o1, .sl (b.map enc) o2] M fun r M' => r = .raw (.bool (decide (a = b))) ∧ M' = M := by
  refine SoundCall.go tk16 pl16 mixed Try.func16 cb16 rfl (Nat.le_of_ble_eq_true rfl) ?_
  refine s_seq ?_
  refine s_region ?_
  refine o_q (q_as (v_raw rfl)) rfl rfl rfl ?_
  refine o_nil ?_
  refine s_seq ?_
  refine s_seq ?_
  refine s_region ?_
  refine o_q (q_mv (v_sl rfl)) rfl rfl rfl ?_
  refine o_q (q_len rfl und28 rfl) rfl rfl rfl ?_
  refine o_q (q_mv (v_sl rfl)) rfl rfl rfl ?_
  refine o_q (q_len rfl und28 rfl) rfl rfl rfl ?_
  refine o_q (q_neq rfl rfl) rfl rfl rfl ?_
  refine o_nil ?_
  refine s_cond rfl (fun h1 => ?_) (fun h1 => ?_)
  · have k1 := h1; try simp only [decide_eq_true_eq, decide_eq_false_iff_not, Bool.not_eq_true', Bool.not_eq_false', Bool.not_true, Bool.not_false, List.length_map, Decidable.not_not] at k1
    refine s_seq ?_
    refine s_region ?_
    refine o_q (q_as (v_raw rfl)) rfl rfl rfl ?_
    refine o_nil ?_
    refine s_ret ?_
    refine s_code_ret ?_
    refine s_end ?_
    refine ⟨?_, rfl⟩
    have hn : a ≠ b := fun e => by simp [e] at k1
    rw [decide_eq_false hn]; rfl
  · have k1 := h1; try simp only [decide_eq_true_eq, decide_eq_false_iff_not, Bool.not_eq_true', Bool.not_eq_false', Bool.not_true, Bool.not_false, List.length_map, Decidable.not_not] at k1
    refine s_skip ?_
    refine s_seq ?_
    refine s_seq ?_
    refine s_region ?_
    refine o_q (q_as (v_raw rfl)) rfl rfl rfl ?_
    refine o_nil ?_
    refine s_block ?_
    refine s_loop (fun m S => ∃ T, ∃ i : Nat, S = ⟨setT (setT (setT T 0 (.sl (a.map enc) o1)) 1 (.sl (b.map enc) o2)) 5 (.raw (.int .i64 i)), M⟩ ∧ i ≤ a.length ∧ m = a.length - i ∧ ∀ j < i, a[j]? = b[j]?) a.length ?_ ?_
    · exact ⟨_, 0, St.mkT (kp (kp (kp rfl rfl) rfl) rfl).symm, by omega, by omega, by simp⟩
    rintro m S ⟨T, i, rfl, hi, rfl, hj⟩
    have hlen : a.length = b.length := by omega
    refine s_seq ?_
    refine s_seq ?_
    refine s_region ?_
    refine o_q (q_mv (v_raw rfl)) rfl rfl rfl ?_
    refine o_q (q_mv (v_sl rfl)) rfl rfl rfl ?_
    refine o_q (q_len rfl und28 rfl) rfl rfl rfl ?_
    refine o_q (q_lss rfl rfl) rfl rfl rfl ?_
    refine o_nil ?_
    refine s_cond rfl (fun h2 => ?_) (fun h2 => ?_)
    · have k2 := h2; try simp only [decide_eq_true_eq, decide_eq_false_iff_not, Bool.not_eq_true', Bool.not_eq_false', Bool.not_true, Bool.not_false, List.length_map, Decidable.not_not] at k2
      refine s_skip ?_
      refine s_seq ?_
      refine s_block ?_
      refine s_seq ?_
      refine s_draw rfl ?_
      refine d_q rfl (q_mv (v_sl rfl)) rfl rfl rfl ?_
      refine d_q rfl (q_mv (v_raw rfl)) rfl rfl rfl ?_
      refine d_q rfl (q_idx und28 sz35 rfl rfl (by omega) (gm i (by first | omega | simp)) rfl) rfl rfl rfl ?_
      refine d_q rfl (q_lde ag35 sz35 rfl (gm i (by first | omega | simp)) rfl rfl) rfl rfl rfl ?_
      refine d_q rfl (q_mv (v_sl rfl)) rfl rfl rfl ?_
      refine d_q rfl (q_mv (v_raw rfl)) rfl rfl rfl ?_
      refine d_q rfl (q_idx und28 sz35 rfl rfl (by omega) (gm i (by first | omega | simp)) rfl) rfl rfl rfl ?_
      refine d_q rfl (q_lde ag35 sz35 rfl (gm i (by first | omega | simp)) rfl rfl) rfl rfl rfl ?_
      refine d_q rfl (q_bin' rfl rfl (binNeq _ _ _ _)) rfl rfl rfl ?_
      refine d_nil ?_
      refine s_cond rfl (fun h3 => ?_) (fun h3 => ?_)
      · have k3 := h3; try simp only [decide_eq_true_eq, decide_eq_false_iff_not, Bool.not_eq_true', Bool.not_eq_false', Bool.not_true, Bool.not_false, List.length_map, Decidable.not_not] at k3
        refine s_seq ?_
        refine s_region ?_
        refine o_q (q_as (v_raw rfl)) rfl rfl rfl ?_
        refine o_nil ?_
        refine s_ret ?_
        refine s_blk_ret ?_
        refine s_code_ret ?_
        refine s_inv_ret ?_
        refine s_blk_ret ?_
        refine s_code_ret ?_
        refine s_end ?_
        refine ⟨?_, rfl⟩
        have hn : a ≠ b := fun e => by subst e; simp at k3
        rw [decide_eq_false hn]; rfl
      · have k3 := h3; try simp only [decide_eq_true_eq, decide_eq_false_iff_not, Bool.not_eq_true', Bool.not_eq_false', Bool.not_true, Bool.not_false, List.length_map, Decidable.not_not] at k3
        refine s_skip ?_
        refine s_blk_normal ?_
        refine s_region ?_
        refine o_q (q_mv (v_raw rfl)) rfl rfl rfl ?_
        refine o_q (q_add rfl rfl (wrap64 (by omega) (by omega))) rfl rfl rfl ?_
        refine o_q (q_as (v_raw rfl)) rfl rfl rfl ?_
        refine o_nil ?_
        refine s_inv ?_
        refine ⟨a.length - (i + 1), by omega, _, i + 1, St.mkT (kp (kp (kp rfl rfl) rfl) rfl).symm, by omega, rfl, fun j hj' => ?_⟩
        rcases Nat.lt_or_ge j i with h4 | h4
        · exact hj j h4
        · have : j = i := by omega
          subst this
          rw [List.getElem?_eq_getElem (by omega), List.getElem?_eq_getElem (by omega), k3]
    · have k2 := h2; try simp only [decide_eq_true_eq, decide_eq_false_iff_not, Bool.not_eq_true', Bool.not_eq_false', Bool.not_true, Bool.not_false, List.length_map, Decidable.not_not] at k2
      refine s_exit ?_
      refine s_code_exit ?_
      refine s_inv_exit ?_
      refine s_blk_here ?_
      refine s_seq ?_
      refine s_region ?_
      refine o_q (q_as (v_raw rfl)) rfl rfl rfl ?_
      refine o_nil ?_
      refine s_ret ?_
      refine s_end ?_
      refine ⟨?_, rfl⟩
      have hn : a = b := by
        refine List.ext_getElem? fun j => ?_
        rcases Nat.lt_or_ge j i with h4 | h4
        · exact hj j h4
        · rw [List.getElem?_eq_none (by omega), List.getElem?_eq_none (by omega)]
      rw [decide_eq_true hn]; rfl

def tk37 : Nat → Nat → Option Nat := fun _ _ => none
def pl37 : Nat → List PStep
  | 6 => [.q 0, .q 1, .q 2, .q 3, .q 4, .q 5, .q 6, .q 7, .q 8]
  | _ => []
theorem cb37 : Try.f37.body.map (codeB Try.prog Try.f37.ntmps tk37 pl37) = some true := by kernel_rfl
theorem goes37 : goesB Try.prog 37 = true := by kernel_rfl
-- carillon/carillonlaw16.records params ['[]api.Record', '[]api.Record'] results [['t', 4]] own [] names ['0:a', '1:b', '2:a', '3:b', '5:i'] calls [] paths 4
set_option maxHeartbeats 4000000 in
set_option maxRecDepth 20000 in
theorem snd37 (a b : List Rec) (o1 o2 : Bool) (M : Mem) (hl : a.length < 2 ^ 42) : SoundCall Try.prog 37 [.sl (a.map enc) o1, .sl (b.map enc) o2] M fun r M' => r = .raw (.bool (decide (a = b))) ∧ M' = M := by
  refine SoundCall.go tk37 pl37 mixed Try.func37 cb37 rfl (Nat.le_of_ble_eq_true rfl) ?_
  refine s_seq ?_
  refine s_region ?_
  refine o_q (q_as (v_raw rfl)) rfl rfl rfl ?_
  refine o_nil ?_
  refine s_seq ?_
  refine s_seq ?_
  refine s_region ?_
  refine o_q (q_mv (v_sl rfl)) rfl rfl rfl ?_
  refine o_q (q_len rfl und28 rfl) rfl rfl rfl ?_
  refine o_q (q_mv (v_sl rfl)) rfl rfl rfl ?_
  refine o_q (q_len rfl und28 rfl) rfl rfl rfl ?_
  refine o_q (q_neq rfl rfl) rfl rfl rfl ?_
  refine o_nil ?_
  refine s_cond rfl (fun h1 => ?_) (fun h1 => ?_)
  · have k1 := h1; try simp only [decide_eq_true_eq, decide_eq_false_iff_not, Bool.not_eq_true', Bool.not_eq_false', Bool.not_true, Bool.not_false, List.length_map, Decidable.not_not] at k1
    refine s_seq ?_
    refine s_region ?_
    refine o_q (q_as (v_raw rfl)) rfl rfl rfl ?_
    refine o_nil ?_
    refine s_ret ?_
    refine s_code_ret ?_
    refine s_end ?_
    refine ⟨?_, rfl⟩
    have hn : a ≠ b := fun e => by simp [e] at k1
    rw [decide_eq_false hn]; rfl
  · have k1 := h1; try simp only [decide_eq_true_eq, decide_eq_false_iff_not, Bool.not_eq_true', Bool.not_eq_false', Bool.not_true, Bool.not_false, List.length_map, Decidable.not_not] at k1
    refine s_skip ?_
    refine s_seq ?_
    refine s_seq ?_
    refine s_region ?_
    refine o_q (q_as (v_raw rfl)) rfl rfl rfl ?_
    refine o_nil ?_
    refine s_block ?_
    refine s_loop (fun m S => ∃ T, ∃ i : Nat, S = ⟨setT (setT (setT T 0 (.sl (a.map enc) o1)) 1 (.sl (b.map enc) o2)) 5 (.raw (.int .i64 i)), M⟩ ∧ i ≤ a.length ∧ m = a.length - i ∧ ∀ j < i, a[j]? = b[j]?) a.length ?_ ?_
    · exact ⟨_, 0, St.mkT (kp (kp (kp rfl rfl) rfl) rfl).symm, by omega, by omega, by simp⟩
    rintro m S ⟨T, i, rfl, hi, rfl, hj⟩
    have hlen : a.length = b.length := by omega
    refine s_seq ?_
    refine s_seq ?_
    refine s_region ?_
    refine o_q (q_mv (v_raw rfl)) rfl rfl rfl ?_
    refine o_q (q_mv (v_sl rfl)) rfl rfl rfl ?_
    refine o_q (q_len rfl und28 rfl) rfl rfl rfl ?_
    refine o_q (q_lss rfl rfl) rfl rfl rfl ?_
    refine o_nil ?_
    refine s_cond rfl (fun h2 => ?_) (fun h2 => ?_)
    · have k2 := h2; try simp only [decide_eq_true_eq, decide_eq_false_iff_not, Bool.not_eq_true', Bool.not_eq_false', Bool.not_true, Bool.not_false, List.length_map, Decidable.not_not] at k2
      refine s_skip ?_
      refine s_seq ?_
      refine s_block ?_
      refine s_seq ?_
      refine s_draw rfl ?_
      refine d_q rfl (q_mv (v_sl rfl)) rfl rfl rfl ?_
      refine d_q rfl (q_mv (v_raw rfl)) rfl rfl rfl ?_
      refine d_q rfl (q_idx und28 sz35 rfl rfl (by omega) (gm i (by first | omega | simp)) rfl) rfl rfl rfl ?_
      refine d_q rfl (q_lde ag35 sz35 rfl (gm i (by first | omega | simp)) rfl rfl) rfl rfl rfl ?_
      refine d_q rfl (q_mv (v_sl rfl)) rfl rfl rfl ?_
      refine d_q rfl (q_mv (v_raw rfl)) rfl rfl rfl ?_
      refine d_q rfl (q_idx und28 sz35 rfl rfl (by omega) (gm i (by first | omega | simp)) rfl) rfl rfl rfl ?_
      refine d_q rfl (q_lde ag35 sz35 rfl (gm i (by first | omega | simp)) rfl rfl) rfl rfl rfl ?_
      refine d_q rfl (q_bin' rfl rfl (binNeq _ _ _ _)) rfl rfl rfl ?_
      refine d_nil ?_
      refine s_cond rfl (fun h3 => ?_) (fun h3 => ?_)
      · have k3 := h3; try simp only [decide_eq_true_eq, decide_eq_false_iff_not, Bool.not_eq_true', Bool.not_eq_false', Bool.not_true, Bool.not_false, List.length_map, Decidable.not_not] at k3
        refine s_seq ?_
        refine s_region ?_
        refine o_q (q_as (v_raw rfl)) rfl rfl rfl ?_
        refine o_nil ?_
        refine s_ret ?_
        refine s_blk_ret ?_
        refine s_code_ret ?_
        refine s_inv_ret ?_
        refine s_blk_ret ?_
        refine s_code_ret ?_
        refine s_end ?_
        refine ⟨?_, rfl⟩
        have hn : a ≠ b := fun e => by subst e; simp at k3
        rw [decide_eq_false hn]; rfl
      · have k3 := h3; try simp only [decide_eq_true_eq, decide_eq_false_iff_not, Bool.not_eq_true', Bool.not_eq_false', Bool.not_true, Bool.not_false, List.length_map, Decidable.not_not] at k3
        refine s_skip ?_
        refine s_blk_normal ?_
        refine s_region ?_
        refine o_q (q_mv (v_raw rfl)) rfl rfl rfl ?_
        refine o_q (q_add rfl rfl (wrap64 (by omega) (by omega))) rfl rfl rfl ?_
        refine o_q (q_as (v_raw rfl)) rfl rfl rfl ?_
        refine o_nil ?_
        refine s_inv ?_
        refine ⟨a.length - (i + 1), by omega, _, i + 1, St.mkT (kp (kp (kp rfl rfl) rfl) rfl).symm, by omega, rfl, fun j hj' => ?_⟩
        rcases Nat.lt_or_ge j i with h4 | h4
        · exact hj j h4
        · have : j = i := by omega
          subst this
          rw [List.getElem?_eq_getElem (by omega), List.getElem?_eq_getElem (by omega), k3]
    · have k2 := h2; try simp only [decide_eq_true_eq, decide_eq_false_iff_not, Bool.not_eq_true', Bool.not_eq_false', Bool.not_true, Bool.not_false, List.length_map, Decidable.not_not] at k2
      refine s_exit ?_
      refine s_code_exit ?_
      refine s_inv_exit ?_
      refine s_blk_here ?_
      refine s_seq ?_
      refine s_region ?_
      refine o_q (q_as (v_raw rfl)) rfl rfl rfl ?_
      refine o_nil ?_
      refine s_ret ?_
      refine s_end ?_
      refine ⟨?_, rfl⟩
      have hn : a = b := by
        refine List.ext_getElem? fun j => ?_
        rcases Nat.lt_or_ge j i with h4 | h4
        · exact hj j h4
        · rw [List.getElem?_eq_none (by omega), List.getElem?_eq_none (by omega)]
      rw [decide_eq_true hn]; rfl

def tk17 : Nat → Nat → Option Nat := fun _ _ => none
def pl17 : Nat → List PStep := fun _ => []
theorem cb17 : Try.f17.body.map (codeB Try.prog Try.f17.ntmps tk17 pl17) = some true := by kernel_rfl
theorem goes17 : goesB Try.prog 17 = true := by kernel_rfl
-- carillon/carillonlaw15.pick params ['int', 'int'] results [['t', 4]] own [] names ['0:c', '1:n', '2:c', '3:n'] calls [] paths 2

def pick (c n : Int) : Int := if c < 0 then (-(c + 1)) % n else c % n
theorem pick_lt {c n : Int} (hn : 0 < n) : 0 ≤ pick c n ∧ pick c n < n := by
  unfold pick
  split
  · exact ⟨Int.emod_nonneg _ (by omega), Int.emod_lt_of_pos _ hn⟩
  · exact ⟨Int.emod_nonneg _ (by omega), Int.emod_lt_of_pos _ hn⟩
set_option maxHeartbeats 4000000 in
set_option maxRecDepth 20000 in
theorem snd17 (c n : Int) (M : Mem) (hn : 0 < n) (hn2 : n < 2 ^ 62) (hc : -2 ^ 63 ≤ c ∧ c < 2 ^ 63) : SoundCall Try.prog 17 [int c, int n] M fun r M' => r = int (pick c n) ∧ M' = M := by
  refine SoundCall.go tk17 pl17 mixed Try.func17 cb17 rfl (Nat.le_of_ble_eq_true rfl) ?_
  refine s_seq ?_
  refine s_region ?_
  refine o_q (q_as (v_raw rfl)) rfl rfl rfl ?_
  refine o_nil ?_
  refine s_seq ?_
  refine s_seq ?_
  refine s_region ?_
  refine o_q (q_mv (v_raw rfl)) rfl rfl rfl ?_
  refine o_q (q_lss rfl rfl) rfl rfl rfl ?_
  refine o_nil ?_
  refine s_cond rfl (fun h1 => ?_) (fun h1 => ?_)
  · have k1 := h1; try simp only [decide_eq_true_eq, decide_eq_false_iff_not, Bool.not_eq_true', Bool.not_eq_false', Bool.not_true, Bool.not_false, List.length_map, Decidable.not_not] at k1
    refine s_region ?_
    refine o_q (q_mv (v_raw rfl)) rfl rfl rfl ?_
    refine o_q (q_add rfl rfl (wrap64 (by omega) (by omega))) rfl rfl rfl ?_
    refine o_q (q_neg rfl (wrap64 (by omega) (by omega))) rfl rfl rfl ?_
    refine o_q (q_as (v_raw rfl)) rfl rfl rfl ?_
    refine o_nil ?_
    refine s_seq ?_
    refine s_region ?_
    refine o_q (q_mv (v_raw rfl)) rfl rfl rfl ?_
    refine o_q (q_mv (v_raw rfl)) rfl rfl rfl ?_
    refine o_q (q_rem rfl rfl (by omega)) rfl rfl rfl ?_
    refine o_q (q_as (v_raw rfl)) rfl rfl rfl ?_
    refine o_nil ?_
    refine s_ret ?_
    refine s_end ?_
    unfold pick
    rw [if_pos (by omega)]
    exact ⟨congrArg int (Int.tmod_eq_emod_of_nonneg (by omega)), rfl⟩
  · have k1 := h1; try simp only [decide_eq_true_eq, decide_eq_false_iff_not, Bool.not_eq_true', Bool.not_eq_false', Bool.not_true, Bool.not_false, List.length_map, Decidable.not_not] at k1
    refine s_skip ?_
    refine s_seq ?_
    refine s_region ?_
    refine o_q (q_mv (v_raw rfl)) rfl rfl rfl ?_
    refine o_q (q_mv (v_raw rfl)) rfl rfl rfl ?_
    refine o_q (q_rem rfl rfl (by omega)) rfl rfl rfl ?_
    refine o_q (q_as (v_raw rfl)) rfl rfl rfl ?_
    refine o_nil ?_
    refine s_ret ?_
    refine s_end ?_
    unfold pick
    rw [if_neg (by omega)]
    exact ⟨congrArg int (Int.tmod_eq_emod_of_nonneg (by omega)), rfl⟩

def tk22 : Nat → Nat → Option Nat := fun _ _ => none
def pl22 : Nat → List PStep := fun _ => []
theorem cb22 : Try.f22.body.map (codeB Try.prog Try.f22.ntmps tk22 pl22) = some true := by kernel_rfl
theorem goes22 : goesB Try.prog 22 = true := by kernel_rfl
-- carillon/carillonlaw16.pick params ['int', 'int'] results [['t', 4]] own [] names ['0:c', '1:n', '2:c', '3:n'] calls [] paths 2
set_option maxHeartbeats 4000000 in
set_option maxRecDepth 20000 in
theorem snd22 (c n : Int) (M : Mem) (hn : 0 < n) (hn2 : n < 2 ^ 62) (hc : -2 ^ 63 ≤ c ∧ c < 2 ^ 63) : SoundCall Try.prog 22 [int c, int n] M fun r M' => r = int (pick c n) ∧ M' = M := by
  refine SoundCall.go tk22 pl22 mixed Try.func22 cb22 rfl (Nat.le_of_ble_eq_true rfl) ?_
  refine s_seq ?_
  refine s_region ?_
  refine o_q (q_as (v_raw rfl)) rfl rfl rfl ?_
  refine o_nil ?_
  refine s_seq ?_
  refine s_seq ?_
  refine s_region ?_
  refine o_q (q_mv (v_raw rfl)) rfl rfl rfl ?_
  refine o_q (q_lss rfl rfl) rfl rfl rfl ?_
  refine o_nil ?_
  refine s_cond rfl (fun h1 => ?_) (fun h1 => ?_)
  · have k1 := h1; try simp only [decide_eq_true_eq, decide_eq_false_iff_not, Bool.not_eq_true', Bool.not_eq_false', Bool.not_true, Bool.not_false, List.length_map, Decidable.not_not] at k1
    refine s_region ?_
    refine o_q (q_mv (v_raw rfl)) rfl rfl rfl ?_
    refine o_q (q_add rfl rfl (wrap64 (by omega) (by omega))) rfl rfl rfl ?_
    refine o_q (q_neg rfl (wrap64 (by omega) (by omega))) rfl rfl rfl ?_
    refine o_q (q_as (v_raw rfl)) rfl rfl rfl ?_
    refine o_nil ?_
    refine s_seq ?_
    refine s_region ?_
    refine o_q (q_mv (v_raw rfl)) rfl rfl rfl ?_
    refine o_q (q_mv (v_raw rfl)) rfl rfl rfl ?_
    refine o_q (q_rem rfl rfl (by omega)) rfl rfl rfl ?_
    refine o_q (q_as (v_raw rfl)) rfl rfl rfl ?_
    refine o_nil ?_
    refine s_ret ?_
    refine s_end ?_
    unfold pick
    rw [if_pos (by omega)]
    exact ⟨congrArg int (Int.tmod_eq_emod_of_nonneg (by omega)), rfl⟩
  · have k1 := h1; try simp only [decide_eq_true_eq, decide_eq_false_iff_not, Bool.not_eq_true', Bool.not_eq_false', Bool.not_true, Bool.not_false, List.length_map, Decidable.not_not] at k1
    refine s_skip ?_
    refine s_seq ?_
    refine s_region ?_
    refine o_q (q_mv (v_raw rfl)) rfl rfl rfl ?_
    refine o_q (q_mv (v_raw rfl)) rfl rfl rfl ?_
    refine o_q (q_rem rfl rfl (by omega)) rfl rfl rfl ?_
    refine o_q (q_as (v_raw rfl)) rfl rfl rfl ?_
    refine o_nil ?_
    refine s_ret ?_
    refine s_end ?_
    unfold pick
    rw [if_neg (by omega)]
    exact ⟨congrArg int (Int.tmod_eq_emod_of_nonneg (by omega)), rfl⟩

def tk11 : Nat → Nat → Option Nat := fun _ _ => none
def pl11 : Nat → List PStep := fun _ => []
theorem cb11 : Try.f11.body.map (codeB Try.prog Try.f11.ntmps tk11 pl11) = some true := by kernel_rfl
theorem goes11 : goesB Try.prog 11 = true := by kernel_rfl
-- carillon/carillonlaw15.examples params [] results [['t', 0]] own [] names ['1:t', '2:e', '3:_', '4:f', '5:a', '6:b', '7:c', '8:d', '9:_', '10:g', '11:h', '12:i', '13:l', '14:j', '15:k'] calls [12, 13, 14, 15, 18, 19, 20] paths 1

def bs (n : UInt8) : ByteArray := { data := #[n] }
def e0 : Tp := ⟨bs 116, 0, 0, [], []⟩
def e1 : Tp := ⟨bs 116, 0, 1, [(bs 112, (1, 0, bs 112))], [⟨0, bs 112, 1, bs 107, bs 118⟩]⟩
def e4 : Tp := ⟨bs 116, 0, 2, [(bs 112, (5, 1, bs 112))], [⟨0, bs 112, 1, bs 107, bs 118⟩, ⟨1, bs 112, 5, bs 107, bs 120⟩]⟩
def e5 : Tp := ⟨bs 116, 0, 2, [(bs 112, (5, 1, bs 112))], [⟨1, bs 112, 5, bs 107, bs 120⟩]⟩
def e6 : Tp := ⟨bs 116, 2, 2, [(bs 112, (5, 1, bs 112))], []⟩
theorem sort5 : Sorted e5.recs := by simp [Sorted, e5]
theorem pubE {x y : Tp} {p : ByteArray} {seq : Int} {k v : ByteArray} {a b : Int} (t m : Nat) (M : Mem) (h : pub x p seq k v = (y, a, b)) (ht : M t = some (.cells (tpC m x))) (hm : M m = some (tpK x)) (htm : t ≠ m) (hen : 0 ≤ x.en ∧ x.en < 2 ^ 62) (hlen : x.recs.length < 2 ^ 40) : SoundCall Try.prog 14 [ptr t, str p, int seq, str k, str v] M fun r M' => r = .tup [int a, int b] ∧ M' = setTp M t m y := by
  have := pub14 t m x p seq k v M ht hm htm hen hlen
  rw [h] at this
  exact this
theorem trimE {x y : Tp} {n a : Int} (t m : Nat) (M : Mem) (h : trimT x n = (y, a)) (ht : M t = some (.cells (tpC m x))) (hm : M m = some (tpK x)) (htm : t ≠ m) (hs : Sorted x.recs) (hlen : x.recs.length < 2 ^ 40) : SoundCall Try.prog 18 [ptr t, int n] M fun r M' => r = int a ∧ M' = setTp M t m y := by
  have := (snd18 t m x n M ht hm htm hs hlen).leaves
  rw [h] at this
  exact this
theorem compE {x y : Tp} {n : Int} (t m : Nat) (M : Mem) (h : compT x n = y) (ht : M t = some (.cells (tpC m x))) (hm : M m = some (tpK x)) (htm : t ≠ m) (hlen : x.recs.length < 2 ^ 40) : SoundCall Try.prog 19 [ptr t, int n] M fun r M' => r = int 0 ∧ M' = setTp M t m y := by
  have := (snd19 t m x n M ht hm htm hlen).leaves
  rw [h] at this
  exact this
theorem readE {x : Tp} {l : List Rec} {off most : Int} (t m : Nat) (M : Mem) (h : readL x.recs off most = l) (ht : M t = some (.cells (tpC m x))) (hs : Sorted x.recs) (hlen : x.recs.length < 2 ^ 40) : SoundCall Try.prog 15 [ptr t, int off, int most] M fun r M' => r = .sl (l.map enc) true ∧ M' = M := by
  have := snd15 t m x off most M ht hs hlen
  rw [h] at this
  exact this
set_option maxHeartbeats 4000000 in
set_option maxRecDepth 20000 in
theorem snd11 (M : Mem) : SoundCall Try.prog 11 [] M fun r M' => r = bool true ∧ M.le M' := by
  refine SoundCall.go tk11 pl11 mixed Try.func11 cb11 rfl (Nat.le_of_ble_eq_true rfl) ?_
  refine s_seq ?_
  refine s_region ?_
  refine o_q (q_as (v_raw rfl)) rfl rfl rfl ?_
  refine o_nil ?_
  refine s_seq ?_
  refine s_region ?_
  refine o_callx (newT (bs 116) _ (by kernel_rfl)) goes12 (ac (v_raw rfl) ac_nil) rfl ?_
  rintro r M' ⟨t, m, ht0, hm0, htm, rfl, rfl⟩
  have htm' := htm.symm
  refine o_q (q_mv (v_tup rfl)) rfl rfl rfl ?_
  refine o_q (q_ext rfl rfl ((by first | exact v_raw rfl | exact v_sptr rfl))) rfl rfl rfl ?_
  refine o_q (q_ext rfl rfl (v_raw rfl)) rfl rfl rfl ?_
  refine o_q (q_as ((by first | exact v_raw rfl | exact v_sptr rfl))) rfl rfl rfl ?_
  refine o_q (q_as (v_raw rfl)) rfl rfl rfl ?_
  refine o_nil ?_
  refine s_seq ?_
  refine s_region ?_
  refine o_callx (newF (bs 84) _ (by kernel_rfl)) goes12 (ac (v_raw rfl) ac_nil) rfl ?_
  rintro r M' ⟨rfl, rfl⟩
  refine o_q (q_mv (v_tup rfl)) rfl rfl rfl ?_
  refine o_q (q_ext rfl rfl ((by first | exact v_raw rfl | exact v_sptr rfl))) rfl rfl rfl ?_
  refine o_q (q_ext rfl rfl (v_raw rfl)) rfl rfl rfl ?_
  refine o_q (q_as ((by first | exact v_raw rfl | exact v_sptr rfl))) rfl rfl rfl ?_
  refine o_q (q_as (v_raw rfl)) rfl rfl rfl ?_
  refine o_nil ?_
  refine s_seq ?_
  refine s_seq ?_
  refine s_region ?_
  refine o_q (q_mv ((by first | exact v_raw rfl | exact v_sptr rfl))) rfl rfl rfl ?_
  refine o_q (q_peql und24 rfl rfl) rfl rfl rfl ?_
  refine o_q (q_mv (v_raw rfl)) rfl rfl rfl ?_
  refine o_yes rfl rfl rfl rfl ?_
  refine o_q (q_mv (v_raw rfl)) rfl rfl rfl ?_
  refine o_yes rfl rfl rfl rfl ?_
  refine o_q (q_neq rfl rfl) rfl rfl rfl ?_
  refine o_q (q_pick_c (t := false) rfl rfl (v_raw rfl)) rfl rfl rfl ?_
  refine o_q (q_mv (v_raw rfl)) rfl rfl rfl ?_
  refine o_yes rfl rfl rfl (by decide) ?_
  refine o_q (q_mv (v_raw rfl)) rfl rfl rfl ?_
  refine o_yes rfl rfl rfl (by decide) ?_
  refine o_q (q_neq rfl rfl) rfl rfl rfl ?_
  refine o_q (q_pick_c (t := false) rfl (by decide) (v_raw rfl)) rfl rfl rfl ?_
  refine o_nil ?_
  refine s_else rfl (by decide) ?_
  refine s_skip ?_
  refine s_seq ?_
  refine s_region ?_
  refine o_q (q_mv ((by first | exact v_raw rfl | exact v_sptr rfl))) rfl rfl rfl ?_
  refine o_callx ((pubE (x := e0) (y := e1) (p := bs 112) (seq := 1) (k := bs 107) (v := bs 118) (a := 0) (b := 0) t m _ (by kernel_rfl) (by repeat first | exact Mem.upd_self _ _ _ | assumption | refine Mem.upd_ne (by assumption) ?_) (by repeat first | exact Mem.upd_self _ _ _ | assumption | refine Mem.upd_ne (by assumption) ?_) htm (by decide) (by decide))) goes14 (ac ((by first | exact v_raw rfl | exact v_sptr rfl)) (ac (v_raw rfl) (ac (v_raw rfl) (ac (v_raw rfl) (ac (v_raw rfl) ac_nil))))) rfl ?_
  rintro r M' ⟨rfl, rfl⟩
  refine o_q (q_mv (v_tup rfl)) rfl rfl rfl ?_
  refine o_q (q_ext rfl rfl (v_raw rfl)) rfl rfl rfl ?_
  refine o_q (q_ext rfl rfl (v_raw rfl)) rfl rfl rfl ?_
  refine o_q (q_as (v_raw rfl)) rfl rfl rfl ?_
  refine o_q (q_as (v_raw rfl)) rfl rfl rfl ?_
  refine o_nil ?_
  refine s_seq ?_
  refine s_region ?_
  refine o_q (q_mv ((by first | exact v_raw rfl | exact v_sptr rfl))) rfl rfl rfl ?_
  refine o_callx ((pubE (x := e1) (y := e1) (p := bs 112) (seq := 1) (k := bs 107) (v := bs 119) (a := 0) (b := 0) t m _ (by kernel_rfl) (by repeat first | exact Mem.upd_self _ _ _ | assumption | refine Mem.upd_ne (by assumption) ?_) (by repeat first | exact Mem.upd_self _ _ _ | assumption | refine Mem.upd_ne (by assumption) ?_) htm (by decide) (by decide))) goes14 (ac ((by first | exact v_raw rfl | exact v_sptr rfl)) (ac (v_raw rfl) (ac (v_raw rfl) (ac (v_raw rfl) (ac (v_raw rfl) ac_nil))))) rfl ?_
  rintro r M' ⟨rfl, rfl⟩
  refine o_q (q_mv (v_tup rfl)) rfl rfl rfl ?_
  refine o_q (q_ext rfl rfl (v_raw rfl)) rfl rfl rfl ?_
  refine o_q (q_ext rfl rfl (v_raw rfl)) rfl rfl rfl ?_
  refine o_q (q_as (v_raw rfl)) rfl rfl rfl ?_
  refine o_q (q_as (v_raw rfl)) rfl rfl rfl ?_
  refine o_nil ?_
  refine s_seq ?_
  refine s_region ?_
  refine o_q (q_mv ((by first | exact v_raw rfl | exact v_sptr rfl))) rfl rfl rfl ?_
  refine o_callx ((pubE (x := e1) (y := e1) (p := bs 112) (seq := 0) (k := bs 107) (v := bs 119) (a := 0) (b := 6) t m _ (by kernel_rfl) (by repeat first | exact Mem.upd_self _ _ _ | assumption | refine Mem.upd_ne (by assumption) ?_) (by repeat first | exact Mem.upd_self _ _ _ | assumption | refine Mem.upd_ne (by assumption) ?_) htm (by decide) (by decide))) goes14 (ac ((by first | exact v_raw rfl | exact v_sptr rfl)) (ac (v_raw rfl) (ac (v_raw rfl) (ac (v_raw rfl) (ac (v_raw rfl) ac_nil))))) rfl ?_
  rintro r M' ⟨rfl, rfl⟩
  refine o_q (q_mv (v_tup rfl)) rfl rfl rfl ?_
  refine o_q (q_ext rfl rfl (v_raw rfl)) rfl rfl rfl ?_
  refine o_q (q_ext rfl rfl (v_raw rfl)) rfl rfl rfl ?_
  refine o_q (q_as (v_raw rfl)) rfl rfl rfl ?_
  refine o_q (q_as (v_raw rfl)) rfl rfl rfl ?_
  refine o_nil ?_
  refine s_seq ?_
  refine s_region ?_
  refine o_q (q_mv ((by first | exact v_raw rfl | exact v_sptr rfl))) rfl rfl rfl ?_
  refine o_callx ((pubE (x := e1) (y := e4) (p := bs 112) (seq := 5) (k := bs 107) (v := bs 120) (a := 1) (b := 0) t m _ (by kernel_rfl) (by repeat first | exact Mem.upd_self _ _ _ | assumption | refine Mem.upd_ne (by assumption) ?_) (by repeat first | exact Mem.upd_self _ _ _ | assumption | refine Mem.upd_ne (by assumption) ?_) htm (by decide) (by decide))) goes14 (ac ((by first | exact v_raw rfl | exact v_sptr rfl)) (ac (v_raw rfl) (ac (v_raw rfl) (ac (v_raw rfl) (ac (v_raw rfl) ac_nil))))) rfl ?_
  rintro r M' ⟨rfl, rfl⟩
  refine o_q (q_mv (v_tup rfl)) rfl rfl rfl ?_
  refine o_q (q_ext rfl rfl (v_raw rfl)) rfl rfl rfl ?_
  refine o_q (q_ext rfl rfl (v_raw rfl)) rfl rfl rfl ?_
  refine o_q (q_as (v_raw rfl)) rfl rfl rfl ?_
  refine o_q (q_as (v_raw rfl)) rfl rfl rfl ?_
  refine o_nil ?_
  refine s_seq ?_
  refine s_region ?_
  refine o_q (q_mv ((by first | exact v_raw rfl | exact v_sptr rfl))) rfl rfl rfl ?_
  refine o_callx ((compE (x := e4) (y := e5) t m _ (by kernel_rfl) (by repeat first | exact Mem.upd_self _ _ _ | assumption | refine Mem.upd_ne (by assumption) ?_) (by repeat first | exact Mem.upd_self _ _ _ | assumption | refine Mem.upd_ne (by assumption) ?_) htm (by decide))) goes19 (ac ((by first | exact v_raw rfl | exact v_sptr rfl)) (ac (v_raw rfl) ac_nil)) rfl ?_
  rintro r M' ⟨rfl, rfl⟩
  refine o_nil ?_
  refine s_seq ?_
  refine s_region ?_
  refine o_q (q_mv ((by first | exact v_raw rfl | exact v_sptr rfl))) rfl rfl rfl ?_
  refine o_call ((readE (x := e5) (l := [⟨1, bs 112, 5, bs 107, bs 120⟩]) t m _ (by kernel_rfl) (by repeat first | exact Mem.upd_self _ _ _ | assumption | refine Mem.upd_ne (by assumption) ?_) sort5 (by decide))) goes15 (ac ((by first | exact v_raw rfl | exact v_sptr rfl)) (ac (v_raw rfl) (ac (v_raw rfl) ac_nil))) rfl ?_
  refine o_q (q_as (v_sl rfl)) rfl rfl rfl ?_
  refine o_nil ?_
  refine s_seq ?_
  refine s_region ?_
  refine o_q (q_mv ((by first | exact v_raw rfl | exact v_sptr rfl))) rfl rfl rfl ?_
  refine o_callx ((trimE (a := 7) (x := e5) (y := e5) t m _ (by kernel_rfl) (by repeat first | exact Mem.upd_self _ _ _ | assumption | refine Mem.upd_ne (by assumption) ?_) (by repeat first | exact Mem.upd_self _ _ _ | assumption | refine Mem.upd_ne (by assumption) ?_) htm sort5 (by decide))) goes18 (ac ((by first | exact v_raw rfl | exact v_sptr rfl)) (ac (v_raw rfl) ac_nil)) rfl ?_
  rintro r M' ⟨rfl, rfl⟩
  refine o_q (q_as (v_raw rfl)) rfl rfl rfl ?_
  refine o_nil ?_
  refine s_seq ?_
  refine s_region ?_
  refine o_q (q_mv ((by first | exact v_raw rfl | exact v_sptr rfl))) rfl rfl rfl ?_
  refine o_callx ((trimE (a := 0) (x := e5) (y := e6) t m _ (by kernel_rfl) (by repeat first | exact Mem.upd_self _ _ _ | assumption | refine Mem.upd_ne (by assumption) ?_) (by repeat first | exact Mem.upd_self _ _ _ | assumption | refine Mem.upd_ne (by assumption) ?_) htm sort5 (by decide))) goes18 (ac ((by first | exact v_raw rfl | exact v_sptr rfl)) (ac (v_raw rfl) ac_nil)) rfl ?_
  rintro r M' ⟨rfl, rfl⟩
  refine o_q (q_as (v_raw rfl)) rfl rfl rfl ?_
  refine o_nil ?_
  refine s_seq ?_
  refine s_region ?_
  refine o_q (q_mv (v_raw rfl)) rfl rfl rfl ?_
  refine o_q (q_eql rfl rfl) rfl rfl rfl ?_
  refine o_q (q_mv (v_raw rfl)) rfl rfl rfl ?_
  refine o_yes rfl rfl rfl (by decide) ?_
  refine o_q (q_mv (v_raw rfl)) rfl rfl rfl ?_
  refine o_yes rfl rfl rfl (by decide) ?_
  refine o_q (q_eql rfl rfl) rfl rfl rfl ?_
  refine o_q (q_pick_c (t := true) rfl (by decide) (v_raw rfl)) rfl rfl rfl ?_
  refine o_q (q_mv (v_raw rfl)) rfl rfl rfl ?_
  refine o_yes rfl rfl rfl (by decide) ?_
  refine o_q (q_mv (v_raw rfl)) rfl rfl rfl ?_
  refine o_yes rfl rfl rfl (by decide) ?_
  refine o_q (q_eql rfl rfl) rfl rfl rfl ?_
  refine o_q (q_pick_c (t := true) rfl (by decide) (v_raw rfl)) rfl rfl rfl ?_
  refine o_q (q_mv (v_raw rfl)) rfl rfl rfl ?_
  refine o_yes rfl rfl rfl (by decide) ?_
  refine o_q (q_mv (v_raw rfl)) rfl rfl rfl ?_
  refine o_yes rfl rfl rfl (by decide) ?_
  refine o_q (q_eql rfl rfl) rfl rfl rfl ?_
  refine o_q (q_pick_c (t := true) rfl (by decide) (v_raw rfl)) rfl rfl rfl ?_
  refine o_q (q_mv (v_raw rfl)) rfl rfl rfl ?_
  refine o_yes rfl rfl rfl (by decide) ?_
  refine o_q (q_mv (v_raw rfl)) rfl rfl rfl ?_
  refine o_yes rfl rfl rfl (by decide) ?_
  refine o_q (q_eql rfl rfl) rfl rfl rfl ?_
  refine o_q (q_pick_c (t := true) rfl (by decide) (v_raw rfl)) rfl rfl rfl ?_
  refine o_q (q_mv (v_raw rfl)) rfl rfl rfl ?_
  refine o_yes rfl rfl rfl (by decide) ?_
  refine o_q (q_mv (v_raw rfl)) rfl rfl rfl ?_
  refine o_yes rfl rfl rfl (by decide) ?_
  refine o_q (q_eql rfl rfl) rfl rfl rfl ?_
  refine o_q (q_pick_c (t := true) rfl (by decide) (v_raw rfl)) rfl rfl rfl ?_
  refine o_q (q_mv (v_raw rfl)) rfl rfl rfl ?_
  refine o_yes rfl rfl rfl (by decide) ?_
  refine o_q (q_mv (v_raw rfl)) rfl rfl rfl ?_
  refine o_yes rfl rfl rfl (by decide) ?_
  refine o_q (q_eql rfl rfl) rfl rfl rfl ?_
  refine o_q (q_pick_c (t := true) rfl (by decide) (v_raw rfl)) rfl rfl rfl ?_
  refine o_q (q_mv (v_raw rfl)) rfl rfl rfl ?_
  refine o_yes rfl rfl rfl (by decide) ?_
  refine o_q (q_mv (v_sl rfl)) rfl rfl rfl ?_
  refine o_yes rfl rfl rfl (by decide) ?_
  refine o_q (q_len rfl und28 rfl) rfl rfl rfl ?_
  refine o_yes rfl rfl rfl (by decide) ?_
  refine o_q (q_eql rfl rfl) rfl rfl rfl ?_
  refine o_q (q_pick_c (t := true) rfl (by decide) (v_raw rfl)) rfl rfl rfl ?_
  refine o_q (q_mv (v_raw rfl)) rfl rfl rfl ?_
  refine o_yes rfl rfl rfl (by decide) ?_
  refine o_q (q_mv (v_sl rfl)) rfl rfl rfl ?_
  refine o_yes rfl rfl rfl (by decide) ?_
  refine o_q (q_idx und28 sz35 rfl rfl (by omega) (gm 0 (by first | omega | simp)) rfl) rfl rfl rfl ?_
  refine o_yes rfl rfl rfl (by decide) ?_
  refine o_q (q_f fo35_0 rfl) rfl rfl rfl ?_
  refine o_yes rfl rfl rfl (by decide) ?_
  refine o_q (q_ld ag3 sz3 rfl (gm 0 (by first | omega | simp)) rfl (v_raw rfl)) rfl rfl rfl ?_
  refine o_yes rfl rfl rfl (by decide) ?_
  refine o_q (q_eql rfl rfl) rfl rfl rfl ?_
  refine o_q (q_pick_c (t := true) rfl (by decide) (v_raw rfl)) rfl rfl rfl ?_
  refine o_q (q_mv (v_raw rfl)) rfl rfl rfl ?_
  refine o_yes rfl rfl rfl (by decide) ?_
  refine o_q (q_mv (v_raw rfl)) rfl rfl rfl ?_
  refine o_yes rfl rfl rfl (by decide) ?_
  refine o_q (q_eql rfl rfl) rfl rfl rfl ?_
  refine o_q (q_pick_c (t := true) rfl (by decide) (v_raw rfl)) rfl rfl rfl ?_
  refine o_q (q_mv (v_raw rfl)) rfl rfl rfl ?_
  refine o_yes rfl rfl rfl (by decide) ?_
  refine o_q (q_mv (v_raw rfl)) rfl rfl rfl ?_
  refine o_yes rfl rfl rfl (by decide) ?_
  refine o_q (q_eql rfl rfl) rfl rfl rfl ?_
  refine o_q (q_pick_c (t := true) rfl (by decide) (v_raw rfl)) rfl rfl rfl ?_
  refine o_q (q_mv (v_raw rfl)) rfl rfl rfl ?_
  refine o_yes rfl rfl rfl (by decide) ?_
  refine o_q (q_mv ((by first | exact v_raw rfl | exact v_sptr rfl))) rfl rfl rfl ?_
  refine o_yes rfl rfl rfl (by decide) ?_
  refine o_call (((snd20 t m e6 _ (by repeat first | exact Mem.upd_self _ _ _ | assumption | refine Mem.upd_ne (by assumption) ?_) (by repeat first | exact Mem.upd_self _ _ _ | assumption | refine Mem.upd_ne (by assumption) ?_) htm).det)) goes20 (ac ((by first | exact v_raw rfl | exact v_sptr rfl)) ac_nil) rfl ?_
  refine o_yes rfl rfl rfl (by decide) ?_
  refine o_q (q_eql rfl rfl) rfl rfl rfl ?_
  refine o_q (q_pick_c (t := true) rfl (by decide) (v_raw rfl)) rfl rfl rfl ?_
  refine o_q (q_mv (v_raw rfl)) rfl rfl rfl ?_
  refine o_yes rfl rfl rfl (by decide) ?_
  refine o_q (q_mv ((by first | exact v_raw rfl | exact v_sptr rfl))) rfl rfl rfl ?_
  refine o_yes rfl rfl rfl (by decide) ?_
  refine o_call (((snd13 t m e6 _ (by repeat first | exact Mem.upd_self _ _ _ | assumption | refine Mem.upd_ne (by assumption) ?_) (by repeat first | exact Mem.upd_self _ _ _ | assumption | refine Mem.upd_ne (by assumption) ?_) htm).det)) goes13 (ac ((by first | exact v_raw rfl | exact v_sptr rfl)) ac_nil) rfl ?_
  refine o_yes rfl rfl rfl (by decide) ?_
  refine o_q (q_eql rfl rfl) rfl rfl rfl ?_
  refine o_q (q_pick_c (t := true) rfl (by decide) (v_raw rfl)) rfl rfl rfl ?_
  refine o_q (q_as (v_raw rfl)) rfl rfl rfl ?_
  refine o_nil ?_
  refine s_ret ?_
  refine s_end ?_
  exact ⟨rfl, (by repeat first | exact hle | exact Mem.le_refl M | assumption | exact Mem.none_of_le hle (by assumption) | refine Mem.le_upd ?_ ?_)⟩

def tk3 : Nat → Nat → Option Nat
  | 5, 0 => some 0
  | 22, 0 => some 0
  | 22, 4 => some 0
  | _, _ => none
def pl3 : Nat → List PStep
  | 20 => [.q 0, .q 1, .q 2, .q 3, .q 4, .q 5, .q 6, .q 7, .q 8, .q 9, .q 10, .q 11, .q 12, .q 13, .q 14, .q 15, .q 16, .q 17]
  | 23 => [.q 0, .q 2, .s 1 [2], .q 3, .q 4, .q 5, .q 6, .q 7, .q 8, .q 9, .q 10, .q 11, .q 12, .q 13, .q 14, .q 15, .q 16, .q 17, .q 18, .q 19, .q 20, .q 21, .q 22, .q 23, .q 24, .q 25, .q 26, .q 27, .q 28, .q 29, .q 30, .q 31, .q 32, .q 33]
  | _ => []
theorem cb3 : Try.f3.body.map (codeB Try.prog Try.f3.ntmps tk3 pl3) = some true := by kernel_rfl
theorem goes3 : goesB Try.prog 3 = true := by kernel_rfl
-- carillon/carillonlaw15.TopicOnce params ['[]carillonlaw15.Deed'] results [['t', 2]] own [106, 6, 109] names ['0:deeds', '1:deeds', '3:head', '4:t', '5:_', '6:told', '7:i', '8:d', '9:end', '10:n', '11:code', '12:r', '13:k', '14:l', '15:same'] calls [11, 12, 13, 14, 15, 16] paths 8

structure De where
  kind : Int
  prod : ByteArray
  seq : Int
  key : ByteArray
  val : ByteArray
  n : Int
  most : Int
  deriving Inhabited
def encDe (d : De) : AVal := .agg [int d.kind, str d.prod, int d.seq, str d.key, str d.val, int d.n, int d.most]
theorem elsD {l : List De} : Els 7 (l.map encDe) := Els.map fun _ => ⟨rfl, rfl⟩
/-- Each record lies at its offset; each producer's last one is known. -/
structure Once (x : Tp) : Prop where
  en : x.en = x.recs.length
  off : ∀ i, ∀ h : i < x.recs.length, x.recs[i].off = i
  none : ∀ p, kget x.kvs p = none → ∀ r ∈ x.recs, r.prod ≠ p
  some : ∀ p l, kget x.kvs p = some l → ∃ i, ∃ h : i < x.recs.length, l.2.1 = i ∧ x.recs[i].prod = p ∧ x.recs[i].seq = l.1 ∧ ∀ r ∈ x.recs, r.prod = p → r.seq ≤ l.1
abbrev px (x : Tp) (p : ByteArray) (seq : Int) (k v : ByteArray) : Tp := ⟨x.name, x.low, x.en + 1, kput x.kvs p (seq, x.en, p), x.recs ++ [newR x p seq k v]⟩
theorem once_new (s : ByteArray) : Once ⟨s, 0, 0, [], []⟩ := ⟨rfl, fun i h => absurd h (Nat.not_lt_zero i), fun p _ r hr => absurd hr List.not_mem_nil, fun p l h => by cases h⟩
theorem once_px {x : Tp} {p : ByteArray} {seq : Int} {k v : ByteArray} (h : Once x) (hp : ∀ r ∈ x.recs, r.prod = p → r.seq < seq) : Once (px x p seq k v) := by
  have hl : (px x p seq k v).recs.length = x.recs.length + 1 := by simp [px]
  refine ⟨by rw [hl]; show x.en + 1 = _; rw [h.en]; omega, fun i hi => ?_, fun q hq r hr => ?_, fun q l hq => ?_⟩
  · show ((x.recs ++ [newR x p seq k v])[i]'hi).off = i
    rw [List.getElem_append]
    split
    · exact h.off i _
    · rw [List.getElem_singleton]
      show x.en = i
      have hl' : (x.recs ++ [newR x p seq k v]).length = x.recs.length + 1 := hl
      have := h.en
      omega
  · have hq' : kget (kput x.kvs p (seq, x.en, p)) q = none := hq
    rw [kget_kput] at hq'
    have hne : q ≠ p := fun e => by rw [if_pos e] at hq'; cases hq'
    rw [if_neg hne] at hq'
    have hr' : r ∈ x.recs ++ [newR x p seq k v] := hr
    rcases List.mem_append.1 hr' with hr' | hr'
    · exact h.none q hq' r hr'
    · rw [List.mem_singleton.1 hr']; exact fun e => hne e.symm
  · have hq' : kget (kput x.kvs p (seq, x.en, p)) q = Option.some l := hq
    rw [kget_kput] at hq'
    by_cases e : q = p
    · rw [if_pos e] at hq'
      obtain rfl := Option.some.inj hq'
      refine ⟨x.recs.length, by rw [hl]; omega, h.en, ?_, ?_, fun r hr hrp => ?_⟩
      · show ((x.recs ++ [newR x p seq k v])[x.recs.length]'(by simp)).prod = q
        rw [List.getElem_concat_length rfl]; exact e.symm
      · show ((x.recs ++ [newR x p seq k v])[x.recs.length]'(by simp)).seq = _
        rw [List.getElem_concat_length rfl]; rfl
      · have hr' : r ∈ x.recs ++ [newR x p seq k v] := hr
        rcases List.mem_append.1 hr' with hr' | hr'
        · exact Int.le_of_lt (hp r hr' (hrp.trans e))
        · rw [List.mem_singleton.1 hr']; exact Int.le_refl _
    · rw [if_neg e] at hq'
      obtain ⟨i, hi, h1, h2, h3, h4⟩ := h.some q l hq'
      refine ⟨i, by rw [hl]; omega, h1, ?_, ?_, fun r hr hrp => ?_⟩
      · show ((x.recs ++ [newR x p seq k v])[i]'(by simp; omega)).prod = q
        rw [List.getElem_append_left hi]; exact h2
      · show ((x.recs ++ [newR x p seq k v])[i]'(by simp; omega)).seq = _
        rw [List.getElem_append_left hi]; exact h3
      · have hr' : r ∈ x.recs ++ [newR x p seq k v] := hr
        rcases List.mem_append.1 hr' with hr' | hr'
        · exact h4 r hr' hrp
        · rw [List.mem_singleton.1 hr'] at hrp; exact absurd hrp.symm e
theorem once_pub {x y : Tp} {p : ByteArray} {seq : Int} {k v : ByteArray} {n c : Int} (h : Once x) (hy : pub x p seq k v = (y, n, c)) : Once y ∧ ((c ≠ 0 ∧ y = x ∧ n = 0) ∨ (c = 0 ∧ y = px x p seq k v ∧ n = x.en ∧ ∀ r ∈ x.recs, r.prod = p → r.seq < seq) ∨ (c = 0 ∧ y = x ∧ ∃ i, ∃ hi : i < x.recs.length, n = i ∧ x.recs[i].prod = p ∧ x.recs[i].seq = seq)) := by
  unfold pub at hy
  split at hy
  · split at hy
    · rename_i l hl
      obtain ⟨i, hi, h1, h2, h3, h4⟩ := h.some p l hl
      split at hy
      · cases hy; exact ⟨h, .inl ⟨by decide, rfl, rfl⟩⟩
      · split at hy
        · rename_i hs
          cases hy
          exact ⟨h, .inr (.inr ⟨rfl, rfl, i, hi, h1, h2, by rw [h3, hs]⟩)⟩
        · cases hy
          have hp : ∀ r ∈ x.recs, r.prod = p → r.seq < seq := fun r hr hrp => by have := h4 r hr hrp; omega
          exact ⟨once_px h hp, .inr (.inl ⟨rfl, rfl, rfl, hp⟩)⟩
    · rename_i hl
      cases hy
      have hp : ∀ r ∈ x.recs, r.prod = p → r.seq < seq := fun r hr hrp => absurd hrp (h.none p hl r hr)
      exact ⟨once_px h hp, .inr (.inl ⟨rfl, rfl, rfl, hp⟩)⟩
  · cases hy; exact ⟨h, .inl ⟨by decide, rfl, rfl⟩⟩
theorem once_sorted {x : Tp} (h : Once x) : Sorted x.recs := List.pairwise_iff_getElem.2 fun i j hi hj hij => by rw [h.off i hi, h.off j hj]; omega
theorem atN_of_le {l : List Rec} {o : Int} (h : ∀ r ∈ l, o ≤ r.off) : atN l o = 0 := by
  unfold atN
  cases l with
  | nil => rfl
  | cons r l =>
    rw [List.takeWhile_cons_of_neg]; · rfl
    have := h r (by simp)
    simp; omega
theorem readL_all {l : List Rec} {o n : Int} (h : ∀ r ∈ l, o ≤ r.off) (hn : (l.length : Int) ≤ n) : readL l o n = l := by
  unfold readL
  rw [atN_of_le h, List.drop_zero, List.take_of_length_le (by omega)]
theorem once_off {x : Tp} (h : Once x) : ∀ r ∈ x.recs, 0 ≤ r.off := fun r hr => by
  obtain ⟨i, hi, rfl⟩ := List.mem_iff_getElem.1 hr
  rw [h.off i hi]; omega
set_option maxHeartbeats 4000000 in
set_option maxRecDepth 20000 in
theorem snd3 (l : List De) (o : Bool) (M : Mem) (hl : l.length < 2 ^ 60) : SoundCall Try.prog 3 [.sl (l.map encDe) o] M fun r M' => r = bool true ∧ M.le M' := by
  have hnew : Once ⟨bs 116, 0, 0, [], []⟩ := once_new _
  refine SoundCall.go tk3 pl3 mixed Try.func3 cb3 rfl (Nat.le_of_ble_eq_true rfl) ?_
  refine s_seq ?_
  refine s_region ?_
  refine o_q (q_as (v_raw rfl)) rfl rfl rfl ?_
  refine o_nil ?_
  refine s_seq ?_
  refine s_region ?_
  refine o_callx (snd11 _) goes11 ac_nil rfl ?_
  rintro r M0 ⟨rfl, hle⟩
  refine o_q (q_as (v_raw rfl)) rfl rfl rfl ?_
  refine o_nil ?_
  refine s_seq ?_
  refine s_region ?_
  refine o_callx (newT (bs 116) _ (by kernel_rfl)) goes12 (ac (v_raw rfl) ac_nil) rfl ?_
  rintro r M' ⟨t, w, ht0, hw0, htw, rfl, rfl⟩
  have htw' := htw.symm
  have ht0' := Mem.none_of_le hle ht0
  have hw0' := Mem.none_of_le hle hw0
  refine o_q (q_mv (v_tup rfl)) rfl rfl rfl ?_
  refine o_q (q_ext rfl rfl ((by first | exact v_raw rfl | exact v_sptr rfl))) rfl rfl rfl ?_
  refine o_q (q_ext rfl rfl (v_raw rfl)) rfl rfl rfl ?_
  refine o_q (q_as ((by first | exact v_raw rfl | exact v_sptr rfl))) rfl rfl rfl ?_
  refine o_q (q_as (v_raw rfl)) rfl rfl rfl ?_
  refine o_nil ?_
  refine s_seq ?_
  refine s_seq ?_
  refine s_region ?_
  refine o_q (q_mv ((by first | exact v_raw rfl | exact v_sptr rfl))) rfl rfl rfl ?_
  refine o_q (q_peql und24 rfl rfl) rfl rfl rfl ?_
  refine o_nil ?_
  refine s_else rfl rfl ?_
  refine s_skip ?_
  refine s_seq ?_
  refine s_region ?_
  refine o_q (q_as_const rfl) rfl rfl rfl ?_
  refine o_nil ?_
  refine s_seq ?_
  refine s_seq ?_
  refine s_region ?_
  refine o_q (q_as (v_raw rfl)) rfl rfl rfl ?_
  refine o_nil ?_
  refine s_cut (fun S => ∃ T, ∃ M' : Mem, ∃ x : Tp, S = ⟨setT (setT (setT T 3 (bool true)) 4 (ptr t)) 6 (.sl (x.recs.map enc) true), M'⟩ ∧ M.le M' ∧ M' t = some (.cells (tpC w x)) ∧ M' w = some (tpK x) ∧ Once x ∧ x.recs.length ≤ 80) ?_ ?_
  · skip
    refine s_block ?_
    refine s_loop (fun m S => ∃ T, ∃ M' : Mem, ∃ x : Tp, ∃ i : Nat, S = ⟨setT (setT (setT (setT (setT T 0 (.sl (l.map encDe) o)) 3 (bool true)) 4 (ptr t)) 6 (.sl (x.recs.map enc) true)) 7 (int i), M'⟩ ∧ M.le M' ∧ M' t = some (.cells (tpC w x)) ∧ M' w = some (tpK x) ∧ Once x ∧ x.recs.length ≤ i ∧ i ≤ 80 ∧ i ≤ l.length ∧ m = l.length - i) l.length ?_ ?_
    · exact ⟨_, _, ⟨bs 116, 0, 0, [], []⟩, 0, St.mkT (kp (kp (kp (kp (kp rfl rfl) rfl) rfl) rfl) rfl).symm, (by repeat first | exact hle | exact Mem.le_refl M | assumption | exact Mem.none_of_le hle (by assumption) | refine Mem.le_upd ?_ ?_), (by repeat first | exact Mem.upd_self _ _ _ | assumption | refine Mem.upd_ne (by assumption) ?_), (by repeat first | exact Mem.upd_self _ _ _ | assumption | refine Mem.upd_ne (by assumption) ?_), hnew, by simp, by omega, by omega, rfl⟩
    rintro m S ⟨T, M', x, i, rfl, hle, ht, hw, hO, hri, hi80, hil, rfl⟩
    refine s_seq ?_
    refine s_seq ?_
    refine s_region ?_
    refine o_q (q_mv (v_raw rfl)) rfl rfl rfl ?_
    refine o_q (q_mv (v_sl rfl)) rfl rfl rfl ?_
    refine o_q (q_len rfl und22 rfl) rfl rfl rfl ?_
    refine o_q (q_lss rfl rfl) rfl rfl rfl ?_
    refine o_q (q_mv (v_raw rfl)) rfl rfl rfl ?_
    refine o_cases (want := true) (j := 4) rfl rfl (fun h1 => ?_) (fun h1 => ?_)
    · have k1 := h1; try simp only [decide_eq_true_eq, decide_eq_false_iff_not, Bool.not_eq_true', Bool.not_eq_false', Bool.not_true, Bool.not_false, List.length_map, Decidable.not_not] at k1
      refine o_yes rfl rfl rfl h1 ?_
      refine o_q (q_mv (v_raw rfl)) rfl rfl rfl ?_
      refine o_yes rfl rfl rfl h1 ?_
      refine o_q (q_lss rfl rfl) rfl rfl rfl ?_
      refine o_q (q_pick_c (t := true) rfl h1 (v_raw rfl)) rfl rfl rfl ?_
      refine o_nil ?_
      refine s_cond rfl (fun h2 => ?_) (fun h2 => ?_)
      · have k2 := h2; try simp only [decide_eq_true_eq, decide_eq_false_iff_not, Bool.not_eq_true', Bool.not_eq_false', Bool.not_true, Bool.not_false, List.length_map, Decidable.not_not] at k2
        refine s_skip ?_
        refine s_seq ?_
        refine s_block ?_
        refine s_seq ?_
        refine s_region ?_
        refine o_q (q_mv (v_sl rfl)) rfl rfl rfl ?_
        refine o_q (q_mv (v_raw rfl)) rfl rfl rfl ?_
        refine o_q (q_idx und22 sz30 rfl rfl (by omega) (gm i (by first | omega | simp)) rfl) rfl rfl rfl ?_
        refine o_q (q_lde ag30 sz30 rfl (gm i (by first | omega | simp)) rfl rfl) rfl rfl rfl ?_
        refine o_alloc zc30 (fun B1 hB1 => ?_)
        have n1 : t ≠ B1 := Mem.fresh_ne hB1 ht
        have n1' := n1.symm
        have n2 : w ≠ B1 := Mem.fresh_ne hB1 hw
        have n2' := n2.symm
        obtain ⟨y, n, c, hy⟩ : ∃ y n c, pub x l[i].prod l[i].seq l[i].key l[i].val = (y, n, c) := ⟨_, _, _, rfl⟩
        have hP := once_pub hO hy
        have hxe := hO.en
        have m1 : M B1 = none := by have h := hB1; repeat (first | exact h | exact Mem.none_of_le hle h | replace h := (Mem.upd_none h).2)
        refine o_storew rfl (by repeat first | exact Mem.upd_self _ _ _ | assumption | refine Mem.upd_ne (by assumption) ?_) (by first | exact e_agg rfl | rfl) rfl sz30 rfl rfl rfl rfl ?_
        refine o_nil ?_
        refine s_seq ?_
        refine s_region ?_
        refine o_q (q_mv ((by first | exact v_raw rfl | exact v_sptr rfl))) rfl rfl rfl ?_
        refine o_call (((snd13 t w x _ (by repeat first | exact Mem.upd_self _ _ _ | assumption | refine Mem.upd_ne (by assumption) ?_) (by repeat first | exact Mem.upd_self _ _ _ | assumption | refine Mem.upd_ne (by assumption) ?_) htw).det)) goes13 (ac ((by first | exact v_raw rfl | exact v_sptr rfl)) ac_nil) rfl ?_
        refine o_q (q_as (v_raw rfl)) rfl rfl rfl ?_
        refine o_nil ?_
        refine s_seq ?_
        refine s_region ?_
        refine o_q (q_mv ((by first | exact v_raw rfl | exact v_sptr rfl))) rfl rfl rfl ?_
        refine o_q (q_fr fo30_1 rfl) rfl rfl rfl ?_
        refine o_q (q_ldm ag9 sz9 rfl (by repeat first | exact Mem.upd_self _ _ _ | assumption | refine Mem.upd_ne (by assumption) ?_) rfl (v_raw rfl)) rfl rfl rfl ?_
        refine o_q (q_fr fo30_2 rfl) rfl rfl rfl ?_
        refine o_q (q_ldm ag3 sz3 rfl (by repeat first | exact Mem.upd_self _ _ _ | assumption | refine Mem.upd_ne (by assumption) ?_) rfl (v_raw rfl)) rfl rfl rfl ?_
        refine o_q (q_fr fo30_3 rfl) rfl rfl rfl ?_
        refine o_q (q_ldm ag9 sz9 rfl (by repeat first | exact Mem.upd_self _ _ _ | assumption | refine Mem.upd_ne (by assumption) ?_) rfl (v_raw rfl)) rfl rfl rfl ?_
        refine o_q (q_fr fo30_4 rfl) rfl rfl rfl ?_
        refine o_q (q_ldm ag9 sz9 rfl (by repeat first | exact Mem.upd_self _ _ _ | assumption | refine Mem.upd_ne (by assumption) ?_) rfl (v_raw rfl)) rfl rfl rfl ?_
        refine o_callx ((pubE t w _ hy (by repeat first | exact Mem.upd_self _ _ _ | assumption | refine Mem.upd_ne (by assumption) ?_) (by repeat first | exact Mem.upd_self _ _ _ | assumption | refine Mem.upd_ne (by assumption) ?_) htw (by omega) (by omega))) goes14 (ac ((by first | exact v_raw rfl | exact v_sptr rfl)) (ac (v_raw rfl) (ac (v_raw rfl) (ac (v_raw rfl) (ac (v_raw rfl) ac_nil))))) rfl ?_
        rintro r M' ⟨rfl, rfl⟩
        refine o_q (q_mv (v_tup rfl)) rfl rfl rfl ?_
        refine o_q (q_ext rfl rfl (v_raw rfl)) rfl rfl rfl ?_
        refine o_q (q_ext rfl rfl (v_raw rfl)) rfl rfl rfl ?_
        refine o_q (q_as (v_raw rfl)) rfl rfl rfl ?_
        refine o_q (q_as (v_raw rfl)) rfl rfl rfl ?_
        refine o_nil ?_
        refine s_seq ?_
        refine s_seq ?_
        refine s_region ?_
        refine o_q (q_mv (v_raw rfl)) rfl rfl rfl ?_
        refine o_q (q_neq rfl rfl) rfl rfl rfl ?_
        refine o_nil ?_
        refine s_cond rfl (fun h3 => ?_) (fun h3 => ?_)
        · have k3 := h3; try simp only [decide_eq_true_eq, decide_eq_false_iff_not, Bool.not_eq_true', Bool.not_eq_false', Bool.not_true, Bool.not_false, List.length_map, Decidable.not_not] at k3
          obtain ⟨hO', hyx, hn⟩ : Once y ∧ y = x ∧ n = 0 := by
            rcases hP with ⟨h, ⟨a, b, d⟩ | ⟨a, -⟩ | ⟨a, -⟩⟩
            · exact ⟨h, b, d⟩
            · exact absurd a k3
            · exact absurd a k3
          subst hyx; subst hn
          refine s_seq ?_
          refine s_seq ?_
          refine s_region ?_
          refine o_q (q_mv ((by first | exact v_raw rfl | exact v_sptr rfl))) rfl rfl rfl ?_
          refine o_call (((snd13 t w y _ (by repeat first | exact Mem.upd_self _ _ _ | assumption | refine Mem.upd_ne (by assumption) ?_) (by repeat first | exact Mem.upd_self _ _ _ | assumption | refine Mem.upd_ne (by assumption) ?_) htw).det)) goes13 (ac ((by first | exact v_raw rfl | exact v_sptr rfl)) ac_nil) rfl ?_
          refine o_q (q_mv (v_raw rfl)) rfl rfl rfl ?_
          refine o_q (q_neq rfl rfl) rfl rfl rfl ?_
          refine o_q (q_mv (v_raw rfl)) rfl rfl rfl ?_
          refine o_cases (want := false) (j := 4) rfl rfl (fun h4 => ?_) (fun h4 => ?_)
          · have k4 := h4; try simp only [decide_eq_true_eq, decide_eq_false_iff_not, Bool.not_eq_true', Bool.not_eq_false', Bool.not_true, Bool.not_false, List.length_map, Decidable.not_not] at k4
            refine o_yes rfl rfl rfl h4 ?_
            refine o_q (q_mv (v_raw rfl)) rfl rfl rfl ?_
            refine o_yes rfl rfl rfl h4 ?_
            refine o_q (q_neq rfl rfl) rfl rfl rfl ?_
            refine o_q (q_pick_c (t := false) rfl h4 (v_raw rfl)) rfl rfl rfl ?_
            refine o_nil ?_
            refine s_cond rfl (fun h5 => ?_) (fun h5 => ?_)
            · have k5 := h5; try simp only [decide_eq_true_eq, decide_eq_false_iff_not, Bool.not_eq_true', Bool.not_eq_false', Bool.not_true, Bool.not_false, List.length_map, Decidable.not_not] at k5
              first | exact absurd h5 (by decide) | (simp at h5; done) | (simp at h5; omega)
            · have k5 := h5; try simp only [decide_eq_true_eq, decide_eq_false_iff_not, Bool.not_eq_true', Bool.not_eq_false', Bool.not_true, Bool.not_false, List.length_map, Decidable.not_not] at k5
              refine s_skip ?_
              refine s_exit ?_
              refine s_code_exit ?_
              refine s_blk_here ?_
              refine s_region ?_
              refine o_q (q_mv (v_raw rfl)) rfl rfl rfl ?_
              refine o_q (q_add rfl rfl (wrap64 (by omega) (by omega))) rfl rfl rfl ?_
              refine o_q (q_as (v_raw rfl)) rfl rfl rfl ?_
              refine o_nil ?_
              refine s_inv ?_
              exact ⟨l.length - (i + 1), by omega, _, _, y, i + 1, St.mkT (kp (kp (kp (kp (kp rfl rfl) rfl) rfl) rfl) rfl).symm, (by repeat first | exact hle | exact Mem.le_refl M | assumption | exact Mem.none_of_le hle (by assumption) | refine Mem.le_upd ?_ ?_), (by repeat first | exact Mem.upd_self _ _ _ | assumption | refine Mem.upd_ne (by assumption) ?_), (by repeat first | exact Mem.upd_self _ _ _ | assumption | refine Mem.upd_ne (by assumption) ?_), hO', by omega, by omega, by omega, rfl⟩
          · have k4 := h4; try simp only [decide_eq_true_eq, decide_eq_false_iff_not, Bool.not_eq_true', Bool.not_eq_false', Bool.not_true, Bool.not_false, List.length_map, Decidable.not_not] at k4
            first | exact absurd h4 (by decide) | (simp at h4; done) | (simp at h4; omega)
        · have k3 := h3; try simp only [decide_eq_true_eq, decide_eq_false_iff_not, Bool.not_eq_true', Bool.not_eq_false', Bool.not_true, Bool.not_false, List.length_map, Decidable.not_not] at k3
          obtain ⟨hO', hP'⟩ : Once y ∧ _ := ⟨hP.1, hP.2.resolve_left (fun h => h.1 k3)⟩
          refine s_skip ?_
          refine s_seq ?_
          refine s_region ?_
          refine o_q (q_mv (v_raw rfl)) rfl rfl rfl ?_
          refine o_q (q_fr fo30_1 rfl) rfl rfl rfl ?_
          refine o_q (q_ldm ag9 sz9 rfl (by repeat first | exact Mem.upd_self _ _ _ | assumption | refine Mem.upd_ne (by assumption) ?_) rfl (v_raw rfl)) rfl rfl rfl ?_
          refine o_q (q_fr fo30_2 rfl) rfl rfl rfl ?_
          refine o_q (q_ldm ag3 sz3 rfl (by repeat first | exact Mem.upd_self _ _ _ | assumption | refine Mem.upd_ne (by assumption) ?_) rfl (v_raw rfl)) rfl rfl rfl ?_
          refine o_q (q_fr fo30_3 rfl) rfl rfl rfl ?_
          refine o_q (q_ldm ag9 sz9 rfl (by repeat first | exact Mem.upd_self _ _ _ | assumption | refine Mem.upd_ne (by assumption) ?_) rfl (v_raw rfl)) rfl rfl rfl ?_
          refine o_q (q_fr fo30_4 rfl) rfl rfl rfl ?_
          refine o_q (q_ldm ag9 sz9 rfl (by repeat first | exact Mem.upd_self _ _ _ | assumption | refine Mem.upd_ne (by assumption) ?_) rfl (v_raw rfl)) rfl rfl rfl ?_
          refine o_q (q_b (cs := [_, _, _, _, _]) bz35 bp35 (bf fo35_0 (e_raw rfl) rfl rfl (Nat.le_of_ble_eq_true rfl) rfl (bf fo35_1 (e_raw rfl) rfl rfl (Nat.le_of_ble_eq_true rfl) rfl (bf fo35_2 (e_raw rfl) rfl rfl (Nat.le_of_ble_eq_true rfl) rfl (bf fo35_3 (e_raw rfl) rfl rfl (Nat.le_of_ble_eq_true rfl) rfl (bf fo35_4 (e_raw rfl) rfl rfl (Nat.le_of_ble_eq_true rfl) rfl bf_nil)))))) rfl rfl rfl ?_
          refine o_alloc zc35 (fun B2 hB2 => ?_)
          have n3 : t ≠ B2 := Mem.fresh_ne hB2 (by repeat first | exact Mem.upd_self _ _ _ | assumption | refine Mem.upd_ne (by assumption) ?_)
          have n3' := n3.symm
          have n4 : w ≠ B2 := Mem.fresh_ne hB2 (by repeat first | exact Mem.upd_self _ _ _ | assumption | refine Mem.upd_ne (by assumption) ?_)
          have n4' := n4.symm
          have f1_2 : B1 ≠ B2 := Mem.fresh_ne hB2 (by repeat first | exact Mem.upd_self _ _ _ | assumption | refine Mem.upd_ne (by assumption) ?_)
          have g2_1 : B2 ≠ B1 := f1_2.symm
          have m2 : M B2 = none := by have h := hB2; repeat (first | exact h | exact Mem.none_of_le hle h | replace h := (Mem.upd_none h).2)
          refine o_storew rfl (by repeat first | exact Mem.upd_self _ _ _ | assumption | refine Mem.upd_ne (by assumption) ?_) (by first | exact e_agg rfl | rfl) rfl sz35 rfl rfl rfl rfl ?_
          refine o_nil ?_
          refine s_seq ?_
          refine s_region ?_
          refine o_q (q_mv (v_raw rfl)) rfl rfl rfl ?_
          refine o_q (q_mv (v_raw rfl)) rfl rfl rfl ?_
          refine o_q (q_eql rfl rfl) rfl rfl rfl ?_
          refine o_q (q_mv (v_raw rfl)) rfl rfl rfl ?_
          refine o_cases (want := true) (j := 3) rfl rfl (fun h6 => ?_) (fun h6 => ?_)
          · have k6 := h6; try simp only [decide_eq_true_eq, decide_eq_false_iff_not, Bool.not_eq_true', Bool.not_eq_false', Bool.not_true, Bool.not_false, List.length_map, Decidable.not_not] at k6
            obtain ⟨hyp, hnx, hpr⟩ : y = px x l[i].prod l[i].seq l[i].key l[i].val ∧ n = x.en ∧ ∀ r ∈ x.recs, r.prod = l[i].prod → r.seq < l[i].seq := by
              rcases hP' with ⟨-, h⟩ | ⟨-, -, j, hj, hn, -⟩
              · exact h
              · exfalso; omega
            subst hnx
            have hyr : y.recs = x.recs ++ [newR x l[i].prod l[i].seq l[i].key l[i].val] := by rw [hyp]
            have hye : y.en = x.en + 1 := by rw [hyp]
            have hyl : y.recs.length = x.recs.length + 1 := by rw [hyr]; simp
            refine o_yes rfl rfl rfl h6 ?_
            refine o_q (q_mv ((by first | exact v_raw rfl | exact v_sptr rfl))) rfl rfl rfl ?_
            refine o_yes rfl rfl rfl h6 ?_
            refine o_call (((snd13 t w y _ (by repeat first | exact Mem.upd_self _ _ _ | assumption | refine Mem.upd_ne (by assumption) ?_) (by repeat first | exact Mem.upd_self _ _ _ | assumption | refine Mem.upd_ne (by assumption) ?_) htw).det)) goes13 (ac ((by first | exact v_raw rfl | exact v_sptr rfl)) ac_nil) rfl ?_
            refine o_yes rfl rfl rfl h6 ?_
            refine o_q (q_mv (v_raw rfl)) rfl rfl rfl ?_
            refine o_yes rfl rfl rfl h6 ?_
            refine o_q (q_add rfl rfl (wrap64 (by omega) (by omega))) rfl rfl rfl ?_
            refine o_yes rfl rfl rfl h6 ?_
            refine o_q (q_eql rfl rfl) rfl rfl rfl ?_
            refine o_q (q_pick_c (t := true) rfl h6 (v_raw rfl)) rfl rfl rfl ?_
            refine o_nil ?_
            refine s_cond rfl (fun h7 => ?_) (fun h7 => ?_)
            · have k7 := h7; try simp only [decide_eq_true_eq, decide_eq_false_iff_not, Bool.not_eq_true', Bool.not_eq_false', Bool.not_true, Bool.not_false, List.length_map, Decidable.not_not] at k7
              refine s_seq ?_
              refine s_seq ?_
              refine s_region ?_
              refine o_q (q_as (v_raw rfl)) rfl rfl rfl ?_
              refine o_nil ?_
              refine s_block ?_
              refine s_loop (fun m S => ∃ T, ∃ M' : Mem, ∃ k : Nat, S = ⟨setT (setT (setT (setT (setT (setT (setT (setT (setT T 0 (.sl (l.map encDe) o)) 3 (bool true)) 4 (ptr t)) 6 (.sl (x.recs.map enc) true)) 7 (int i)) 9 (int x.en)) 10 (int x.en)) 12 (ptr B2)) 13 (int k), M'⟩ ∧ M.le M' ∧ M' t = some (.cells (tpC w y)) ∧ M' w = some (tpK y) ∧ M' B2 = some (.cells [int x.en, str l[i].prod, int l[i].seq, str l[i].key, str l[i].val]) ∧ k ≤ x.recs.length ∧ m = x.recs.length - k) x.recs.length ?_ ?_
              · exact ⟨_, _, 0, St.mkT (kp (kp (kp (kp (kp (kp (kp (kp (kp rfl rfl) rfl) rfl) rfl) rfl) rfl) rfl) rfl) rfl).symm, (by repeat first | exact hle | exact Mem.le_refl M | assumption | exact Mem.none_of_le hle (by assumption) | refine Mem.le_upd ?_ ?_), (by repeat first | exact Mem.upd_self _ _ _ | assumption | refine Mem.upd_ne (by assumption) ?_), (by repeat first | exact Mem.upd_self _ _ _ | assumption | refine Mem.upd_ne (by assumption) ?_), (by repeat first | exact Mem.upd_self _ _ _ | assumption | refine Mem.upd_ne (by assumption) ?_), by omega, rfl⟩
              rintro m S ⟨T, M', k, rfl, hle, ht, hw, hB2, hk, rfl⟩
              refine s_seq ?_
              refine s_seq ?_
              refine s_region ?_
              refine o_q (q_mv (v_raw rfl)) rfl rfl rfl ?_
              refine o_q (q_mv (v_sl rfl)) rfl rfl rfl ?_
              refine o_q (q_len rfl und28 rfl) rfl rfl rfl ?_
              refine o_q (q_lss rfl rfl) rfl rfl rfl ?_
              refine o_nil ?_
              refine s_cond rfl (fun h8 => ?_) (fun h8 => ?_)
              · have k8 := h8; try simp only [decide_eq_true_eq, decide_eq_false_iff_not, Bool.not_eq_true', Bool.not_eq_false', Bool.not_true, Bool.not_false, List.length_map, Decidable.not_not] at k8
                refine s_skip ?_
                refine s_seq ?_
                refine s_block ?_
                refine s_seq ?_
                refine s_draw rfl ?_
                refine d_q rfl (q_mv (v_sl rfl)) rfl rfl rfl ?_
                refine d_q rfl (q_mv (v_raw rfl)) rfl rfl rfl ?_
                refine d_q rfl (q_idx und28 sz35 rfl rfl (by omega) (gm k (by first | omega | simp)) rfl) rfl rfl rfl ?_
                refine d_q rfl (q_f fo35_1 rfl) rfl rfl rfl ?_
                refine d_q rfl (q_ld ag9 sz9 rfl (gm k (by first | omega | simp)) rfl (v_raw rfl)) rfl rfl rfl ?_
                refine d_q rfl (q_fr fo35_1 rfl) rfl rfl rfl ?_
                refine d_q rfl (q_ldm ag9 sz9 rfl (by repeat first | exact Mem.upd_self _ _ _ | assumption | refine Mem.upd_ne (by assumption) ?_) rfl (v_raw rfl)) rfl rfl rfl ?_
                refine d_q rfl (q_seql rfl rfl) rfl rfl rfl ?_
                refine d_q rfl (q_mv (v_raw rfl)) rfl rfl rfl ?_
                refine d_cases (want := true) (j := 8) rfl rfl (fun h9 => ?_) (fun h9 => ?_)
                · have k9 := h9; try simp only [decide_eq_true_eq, decide_eq_false_iff_not, Bool.not_eq_true', Bool.not_eq_false', Bool.not_true, Bool.not_false, List.length_map, Decidable.not_not] at k9
                  refine d_yes rfl (q_mv (v_sl rfl)) rfl rfl rfl h9 rfl rfl ?_
                  refine d_yes rfl (q_mv (v_raw rfl)) rfl rfl rfl h9 rfl rfl ?_
                  refine d_yes rfl (q_idx und28 sz35 rfl rfl (by omega) (gm k (by first | omega | simp)) rfl) rfl rfl rfl h9 rfl rfl ?_
                  refine d_yes rfl (q_f fo35_2 rfl) rfl rfl rfl h9 rfl rfl ?_
                  refine d_yes rfl (q_ld ag3 sz3 rfl (gm k (by first | omega | simp)) rfl (v_raw rfl)) rfl rfl rfl h9 rfl rfl ?_
                  refine d_yes rfl (q_fr fo35_2 rfl) rfl rfl rfl h9 rfl rfl ?_
                  refine d_yes rfl (q_ldm ag3 sz3 rfl (by repeat first | exact Mem.upd_self _ _ _ | assumption | refine Mem.upd_ne (by assumption) ?_) rfl (v_raw rfl)) rfl rfl rfl h9 rfl rfl ?_
                  refine d_yes rfl (q_geq rfl rfl) rfl rfl rfl h9 rfl rfl ?_
                  refine d_q rfl (q_pick_c (t := true) rfl h9 (v_raw rfl)) rfl rfl rfl ?_
                  refine d_nil ?_
                  refine s_cond rfl (fun h10 => ?_) (fun h10 => ?_)
                  · have k10 := h10; try simp only [decide_eq_true_eq, decide_eq_false_iff_not, Bool.not_eq_true', Bool.not_eq_false', Bool.not_true, Bool.not_false, List.length_map, Decidable.not_not] at k10
                    exfalso; have := hpr x.recs[k] (List.getElem_mem _) (by assumption); simp at h10; omega
                  · have k10 := h10; try simp only [decide_eq_true_eq, decide_eq_false_iff_not, Bool.not_eq_true', Bool.not_eq_false', Bool.not_true, Bool.not_false, List.length_map, Decidable.not_not] at k10
                    refine s_skip ?_
                    refine s_blk_normal ?_
                    refine s_region ?_
                    refine o_q (q_mv (v_raw rfl)) rfl rfl rfl ?_
                    refine o_q (q_add rfl rfl (wrap64 (by omega) (by omega))) rfl rfl rfl ?_
                    refine o_q (q_as (v_raw rfl)) rfl rfl rfl ?_
                    refine o_nil ?_
                    refine s_inv ?_
                    exact ⟨x.recs.length - (k + 1), by omega, _, _, k + 1, St.mkT (kp (kp (kp (kp (kp (kp (kp (kp (kp rfl rfl) rfl) rfl) rfl) rfl) rfl) rfl) rfl) rfl).symm, hle, ht, hw, hB2, by omega, rfl⟩
                · have k9 := h9; try simp only [decide_eq_true_eq, decide_eq_false_iff_not, Bool.not_eq_true', Bool.not_eq_false', Bool.not_true, Bool.not_false, List.length_map, Decidable.not_not] at k9
                  refine d_no rfl rfl rfl rfl h9 rfl ?_
                  refine d_no rfl rfl rfl rfl h9 rfl ?_
                  refine d_no rfl rfl rfl rfl h9 rfl ?_
                  refine d_no rfl rfl rfl rfl h9 rfl ?_
                  refine d_no rfl rfl rfl rfl h9 rfl ?_
                  refine d_no rfl rfl rfl rfl h9 rfl ?_
                  refine d_no rfl rfl rfl rfl h9 rfl ?_
                  refine d_no rfl rfl rfl rfl h9 rfl ?_
                  refine d_q rfl (q_pick_c (t := false) rfl h9 (v_raw rfl)) rfl rfl rfl ?_
                  refine d_nil ?_
                  refine s_else rfl rfl ?_
                  refine s_skip ?_
                  refine s_blk_normal ?_
                  refine s_region ?_
                  refine o_q (q_mv (v_raw rfl)) rfl rfl rfl ?_
                  refine o_q (q_add rfl rfl (wrap64 (by omega) (by omega))) rfl rfl rfl ?_
                  refine o_q (q_as (v_raw rfl)) rfl rfl rfl ?_
                  refine o_nil ?_
                  refine s_inv ?_
                  exact ⟨x.recs.length - (k + 1), by omega, _, _, k + 1, St.mkT (kp (kp (kp (kp (kp (kp (kp (kp (kp rfl rfl) rfl) rfl) rfl) rfl) rfl) rfl) rfl) rfl).symm, hle, ht, hw, hB2, by omega, rfl⟩
              · have k8 := h8; try simp only [decide_eq_true_eq, decide_eq_false_iff_not, Bool.not_eq_true', Bool.not_eq_false', Bool.not_true, Bool.not_false, List.length_map, Decidable.not_not] at k8
                refine s_exit ?_
                refine s_code_exit ?_
                refine s_inv_exit ?_
                refine s_blk_here ?_
                refine s_region ?_
                refine o_qs (q_mv_own rfl) rfl rfl rfl rfl ?_
                refine o_q (q_ldmw ag35 sz35 rfl (by repeat first | exact Mem.upd_self _ _ _ | assumption | refine Mem.upd_ne (by assumption) ?_) rfl rfl) rfl rfl rfl ?_
                refine o_q (q_bs slt28 (pc (v_agg rfl) pn) rfl (Els.cons rfl rfl Els.nil) (by decide)) rfl rfl rfl ?_
                refine o_qs (q_app slt28 rfl rfl rfl rfl elsR (by first | exact elsR | exact Els.cons rfl rfl Els.nil) (by simp; omega)) rfl rfl rfl rfl ?_
                refine o_qs (q_as_own rfl) rfl rfl rfl rfl ?_
                refine o_nil ?_
                refine s_blk_normal ?_
                refine s_region ?_
                refine o_q (q_mv (v_raw rfl)) rfl rfl rfl ?_
                refine o_q (q_add rfl rfl (wrap64 (by omega) (by omega))) rfl rfl rfl ?_
                refine o_q (q_as (v_raw rfl)) rfl rfl rfl ?_
                refine o_nil ?_
                refine s_inv ?_
                exact ⟨l.length - (i + 1), by omega, _, _, y, i + 1, St.mkT (kp (kp (kp (kp (kp rfl rfl) rfl) rfl) (app_map (f := enc) (x := newR x l[i].prod l[i].seq l[i].key l[i].val) hyr)) rfl).symm, (by repeat first | exact hle | exact Mem.le_refl M | assumption | exact Mem.none_of_le hle (by assumption) | refine Mem.le_upd ?_ ?_), (by repeat first | exact Mem.upd_self _ _ _ | assumption | refine Mem.upd_ne (by assumption) ?_), (by repeat first | exact Mem.upd_self _ _ _ | assumption | refine Mem.upd_ne (by assumption) ?_), hO', by omega, by omega, by omega, rfl⟩
            · have k7 := h7; try simp only [decide_eq_true_eq, decide_eq_false_iff_not, Bool.not_eq_true', Bool.not_eq_false', Bool.not_true, Bool.not_false, List.length_map, Decidable.not_not] at k7
              exfalso; simp at h7; omega
          · have k6 := h6; try simp only [decide_eq_true_eq, decide_eq_false_iff_not, Bool.not_eq_true', Bool.not_eq_false', Bool.not_true, Bool.not_false, List.length_map, Decidable.not_not] at k6
            obtain ⟨hyx, j, hj, hnj, hj1, hj2⟩ : y = x ∧ ∃ j, ∃ hj : j < x.recs.length, n = j ∧ x.recs[j].prod = l[i].prod ∧ x.recs[j].seq = l[i].seq := by
              rcases hP' with ⟨-, -, h, -⟩ | ⟨-, h⟩
              · exact absurd h k6
              · exact h
            subst hyx; subst hnj
            refine o_no rfl rfl rfl rfl h6 ?_
            refine o_no rfl rfl rfl rfl h6 ?_
            refine o_no rfl rfl rfl rfl h6 ?_
            refine o_no rfl rfl rfl rfl h6 ?_
            refine o_no rfl rfl rfl rfl h6 ?_
            refine o_q (q_pick_c (t := false) rfl h6 (v_raw rfl)) rfl rfl rfl ?_
            refine o_nil ?_
            refine s_else rfl rfl ?_
            refine s_seq ?_
            refine s_draw rfl ?_
            refine d_q rfl (q_mv ((by first | exact v_raw rfl | exact v_sptr rfl))) rfl rfl rfl ?_
            refine d_q rfl (q_mv (v_raw rfl)) rfl rfl rfl ?_
            refine d_s rfl ?_
            refine o_call (((snd13 t w y _ (by repeat first | exact Mem.upd_self _ _ _ | assumption | refine Mem.upd_ne (by assumption) ?_) (by repeat first | exact Mem.upd_self _ _ _ | assumption | refine Mem.upd_ne (by assumption) ?_) htw).det)) goes13 (ac ((by first | exact v_raw rfl | exact v_sptr rfl)) ac_nil) rfl ?_
            refine o_nil ⟨(by simp [Mem.upd, *]), ?_⟩
            refine d_q rfl (q_neq rfl rfl) rfl rfl rfl ?_
            refine d_q rfl (q_mv (v_raw rfl)) rfl rfl rfl ?_
            refine d_cases (want := false) (j := 4) rfl rfl (fun h11 => ?_) (fun h11 => ?_)
            · have k11 := h11; try simp only [decide_eq_true_eq, decide_eq_false_iff_not, Bool.not_eq_true', Bool.not_eq_false', Bool.not_true, Bool.not_false, List.length_map, Decidable.not_not] at k11
              refine d_yes rfl (q_mv (v_raw rfl)) rfl rfl rfl h11 rfl rfl ?_
              refine d_yes rfl (q_lss rfl rfl) rfl rfl rfl h11 rfl rfl ?_
              refine d_q rfl (q_pick_c (t := false) rfl h11 (v_raw rfl)) rfl rfl rfl ?_
              refine d_q rfl (q_mv (v_raw rfl)) rfl rfl rfl ?_
              refine d_cases (want := false) (j := 8) rfl rfl (fun h12 => ?_) (fun h12 => ?_)
              · have k12 := h12; try simp only [decide_eq_true_eq, decide_eq_false_iff_not, Bool.not_eq_true', Bool.not_eq_false', Bool.not_true, Bool.not_false, List.length_map, Decidable.not_not] at k12
                refine d_yes rfl (q_mv (v_raw rfl)) rfl rfl rfl h12 rfl rfl ?_
                refine d_yes rfl (q_mv (v_sl rfl)) rfl rfl rfl h12 rfl rfl ?_
                refine d_yes rfl (q_len rfl und28 rfl) rfl rfl rfl h12 rfl rfl ?_
                refine d_yes rfl (q_geq rfl rfl) rfl rfl rfl h12 rfl rfl ?_
                refine d_q rfl (q_pick_c (t := false) rfl h12 (v_raw rfl)) rfl rfl rfl ?_
                refine d_q rfl (q_mv (v_raw rfl)) rfl rfl rfl ?_
                refine d_cases (want := false) (j := 14) rfl rfl (fun h13 => ?_) (fun h13 => ?_)
                · have k13 := h13; try simp only [decide_eq_true_eq, decide_eq_false_iff_not, Bool.not_eq_true', Bool.not_eq_false', Bool.not_true, Bool.not_false, List.length_map, Decidable.not_not] at k13
                  refine d_yes rfl (q_mv (v_sl rfl)) rfl rfl rfl h13 rfl rfl ?_
                  refine d_yes rfl (q_mv (v_raw rfl)) rfl rfl rfl h13 rfl rfl ?_
                  refine d_yes rfl (q_idx und28 sz35 rfl rfl (by omega) (gm j (by first | omega | simp)) rfl) rfl rfl rfl h13 rfl rfl ?_
                  refine d_yes rfl (q_f fo35_1 rfl) rfl rfl rfl h13 rfl rfl ?_
                  refine d_yes rfl (q_ld ag9 sz9 rfl (gm j (by first | omega | simp)) rfl (v_raw rfl)) rfl rfl rfl h13 rfl rfl ?_
                  refine d_yes rfl (q_fr fo35_1 rfl) rfl rfl rfl h13 rfl rfl ?_
                  refine d_yes rfl (q_ldm ag9 sz9 rfl (by repeat first | exact Mem.upd_self _ _ _ | assumption | refine Mem.upd_ne (by assumption) ?_) rfl (v_raw rfl)) rfl rfl rfl h13 rfl rfl ?_
                  refine d_yes rfl (q_sneq rfl rfl) rfl rfl rfl h13 rfl rfl ?_
                  refine d_q rfl (q_pick_c (t := false) rfl h13 (v_raw rfl)) rfl rfl rfl ?_
                  refine d_q rfl (q_mv (v_raw rfl)) rfl rfl rfl ?_
                  refine d_cases (want := false) (j := 24) rfl rfl (fun h14 => ?_) (fun h14 => ?_)
                  · have k14 := h14; try simp only [decide_eq_true_eq, decide_eq_false_iff_not, Bool.not_eq_true', Bool.not_eq_false', Bool.not_true, Bool.not_false, List.length_map, Decidable.not_not] at k14
                    refine d_yes rfl (q_mv (v_sl rfl)) rfl rfl rfl h14 rfl rfl ?_
                    refine d_yes rfl (q_mv (v_raw rfl)) rfl rfl rfl h14 rfl rfl ?_
                    refine d_yes rfl (q_idx und28 sz35 rfl rfl (by omega) (gm j (by first | omega | simp)) rfl) rfl rfl rfl h14 rfl rfl ?_
                    refine d_yes rfl (q_f fo35_2 rfl) rfl rfl rfl h14 rfl rfl ?_
                    refine d_yes rfl (q_ld ag3 sz3 rfl (gm j (by first | omega | simp)) rfl (v_raw rfl)) rfl rfl rfl h14 rfl rfl ?_
                    refine d_yes rfl (q_fr fo35_2 rfl) rfl rfl rfl h14 rfl rfl ?_
                    refine d_yes rfl (q_ldm ag3 sz3 rfl (by repeat first | exact Mem.upd_self _ _ _ | assumption | refine Mem.upd_ne (by assumption) ?_) rfl (v_raw rfl)) rfl rfl rfl h14 rfl rfl ?_
                    refine d_yes rfl (q_neq rfl rfl) rfl rfl rfl h14 rfl rfl ?_
                    refine d_q rfl (q_pick_c (t := false) rfl h14 (v_raw rfl)) rfl rfl rfl ?_
                    refine d_nil ?_
                    refine s_cond rfl (fun h15 => ?_) (fun h15 => ?_)
                    · have k15 := h15; try simp only [decide_eq_true_eq, decide_eq_false_iff_not, Bool.not_eq_true', Bool.not_eq_false', Bool.not_true, Bool.not_false, List.length_map, Decidable.not_not] at k15
                      simp [hj2] at h15
                    · have k15 := h15; try simp only [decide_eq_true_eq, decide_eq_false_iff_not, Bool.not_eq_true', Bool.not_eq_false', Bool.not_true, Bool.not_false, List.length_map, Decidable.not_not] at k15
                      refine s_skip ?_
                      refine s_blk_normal ?_
                      refine s_region ?_
                      refine o_q (q_mv (v_raw rfl)) rfl rfl rfl ?_
                      refine o_q (q_add rfl rfl (wrap64 (by omega) (by omega))) rfl rfl rfl ?_
                      refine o_q (q_as (v_raw rfl)) rfl rfl rfl ?_
                      refine o_nil ?_
                      refine s_inv ?_
                      exact ⟨l.length - (i + 1), by omega, _, _, y, i + 1, St.mkT (kp (kp (kp (kp (kp rfl rfl) rfl) rfl) rfl) rfl).symm, (by repeat first | exact hle | exact Mem.le_refl M | assumption | exact Mem.none_of_le hle (by assumption) | refine Mem.le_upd ?_ ?_), (by repeat first | exact Mem.upd_self _ _ _ | assumption | refine Mem.upd_ne (by assumption) ?_), (by repeat first | exact Mem.upd_self _ _ _ | assumption | refine Mem.upd_ne (by assumption) ?_), hO', by omega, by omega, by omega, rfl⟩
                  · have k14 := h14; try simp only [decide_eq_true_eq, decide_eq_false_iff_not, Bool.not_eq_true', Bool.not_eq_false', Bool.not_true, Bool.not_false, List.length_map, Decidable.not_not] at k14
                    simp [hj1] at h14
                · have k13 := h13; try simp only [decide_eq_true_eq, decide_eq_false_iff_not, Bool.not_eq_true', Bool.not_eq_false', Bool.not_true, Bool.not_false, List.length_map, Decidable.not_not] at k13
                  first | exact absurd h13 (by decide) | (simp at h13; done) | (simp at h13; omega)
              · have k12 := h12; try simp only [decide_eq_true_eq, decide_eq_false_iff_not, Bool.not_eq_true', Bool.not_eq_false', Bool.not_true, Bool.not_false, List.length_map, Decidable.not_not] at k12
                first | exact absurd h12 (by decide) | (simp at h12; done) | (simp at h12; omega)
            · have k11 := h11; try simp only [decide_eq_true_eq, decide_eq_false_iff_not, Bool.not_eq_true', Bool.not_eq_false', Bool.not_true, Bool.not_false, List.length_map, Decidable.not_not] at k11
              first | exact absurd h11 (by decide) | (simp at h11; done) | (simp at h11; omega)
      · have k2 := h2; try simp only [decide_eq_true_eq, decide_eq_false_iff_not, Bool.not_eq_true', Bool.not_eq_false', Bool.not_true, Bool.not_false, List.length_map, Decidable.not_not] at k2
        refine s_exit ?_
        refine s_code_exit ?_
        refine s_inv_exit ?_
        refine s_blk_here ?_
        refine s_inv ?_
        exact ⟨_, _, x, St.mkT (kp (kp (kp rfl rfl) rfl) rfl).symm, hle, ht, hw, hO, by omega⟩
    · have k1 := h1; try simp only [decide_eq_true_eq, decide_eq_false_iff_not, Bool.not_eq_true', Bool.not_eq_false', Bool.not_true, Bool.not_false, List.length_map, Decidable.not_not] at k1
      refine o_no rfl rfl rfl rfl h1 ?_
      refine o_no rfl rfl rfl rfl h1 ?_
      refine o_q (q_pick_c (t := false) rfl h1 (v_raw rfl)) rfl rfl rfl ?_
      refine o_nil ?_
      refine s_else rfl rfl ?_
      refine s_exit ?_
      refine s_code_exit ?_
      refine s_inv_exit ?_
      refine s_blk_here ?_
      refine s_inv ?_
      exact ⟨_, _, x, St.mkT (kp (kp (kp rfl rfl) rfl) rfl).symm, hle, ht, hw, hO, by omega⟩
  rintro S ⟨T, M', x, rfl, hle, ht, hw, hO, hr80⟩
  have hxe := hO.en
  refine s_seq ?_
  refine s_region ?_
  refine o_q (q_mv ((by first | exact v_raw rfl | exact v_sptr rfl))) rfl rfl rfl ?_
  refine o_call ((readE (l := x.recs) t w _ (readL_all (once_off hO) (by omega)) (by assumption) (once_sorted hO) (by omega))) goes15 (ac ((by first | exact v_raw rfl | exact v_sptr rfl)) (ac (v_raw rfl) (ac (v_raw rfl) ac_nil))) rfl ?_
  refine o_q (q_as (v_sl rfl)) rfl rfl rfl ?_
  refine o_nil ?_
  refine s_seq ?_
  refine s_region ?_
  refine o_q (q_mv (v_sl rfl)) rfl rfl rfl ?_
  refine o_q (q_mv (v_sl rfl)) rfl rfl rfl ?_
  refine o_call ((snd16 x.recs x.recs _ _ _ (by omega))) goes16 (ac (v_sl rfl) (ac (v_sl rfl) ac_nil)) rfl ?_
  refine o_q (q_as (v_raw rfl)) rfl rfl rfl ?_
  refine o_nil ?_
  refine s_seq ?_
  refine s_region ?_
  refine o_q (q_mv (v_raw rfl)) rfl rfl rfl ?_
  refine o_q (q_mv (v_raw rfl)) rfl rfl rfl ?_
  refine o_yes rfl rfl rfl rfl ?_
  refine o_q (q_mv (v_raw rfl)) rfl rfl rfl ?_
  refine o_q (q_pick_c (t := true) rfl rfl (v_raw rfl)) rfl rfl rfl ?_
  refine o_q (q_mv (v_raw rfl)) rfl rfl rfl ?_
  refine o_yes rfl rfl rfl (by simp) ?_
  refine o_q (q_mv ((by first | exact v_raw rfl | exact v_sptr rfl))) rfl rfl rfl ?_
  refine o_yes rfl rfl rfl (by simp) ?_
  refine o_call (((snd13 t w x _ (by repeat first | exact Mem.upd_self _ _ _ | assumption | refine Mem.upd_ne (by assumption) ?_) (by repeat first | exact Mem.upd_self _ _ _ | assumption | refine Mem.upd_ne (by assumption) ?_) htw).det)) goes13 (ac ((by first | exact v_raw rfl | exact v_sptr rfl)) ac_nil) rfl ?_
  refine o_yes rfl rfl rfl (by simp) ?_
  refine o_q (q_mv (v_sl rfl)) rfl rfl rfl ?_
  refine o_yes rfl rfl rfl (by simp) ?_
  refine o_q (q_len rfl und28 rfl) rfl rfl rfl ?_
  refine o_yes rfl rfl rfl (by simp) ?_
  refine o_q (q_eql rfl rfl) rfl rfl rfl ?_
  refine o_q (q_pick_c (t := true) rfl (by simp) (v_raw rfl)) rfl rfl rfl ?_
  refine o_q (q_as (v_raw rfl)) rfl rfl rfl ?_
  refine o_nil ?_
  refine s_ret ?_
  refine s_end ?_
  refine ⟨congrArg (fun b => AVal.raw (.bool b)) ?_, (by repeat first | exact hle | exact Mem.le_refl M | assumption | exact Mem.none_of_le hle (by assumption) | refine Mem.le_upd ?_ ?_)⟩
  rw [List.length_map]; simp [hxe]
end C15
