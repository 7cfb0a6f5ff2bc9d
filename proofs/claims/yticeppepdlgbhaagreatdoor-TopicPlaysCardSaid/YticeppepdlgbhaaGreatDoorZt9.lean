import Derived.Test.YticeppepdlgbhaaGreatDoorZt8
import Derived.Test.YticeppepdlgbhaaGreatDoorProg
/-! Chapters 15 and 16: topics and subscriptions: what their functions compute. -/
open Go Go.Proofs Go.Am
set_option linter.unusedVariables false
set_option autoImplicit false
set_option linter.unusedSimpArgs false
namespace C17

def tk11 : Nat → Nat → Option Nat := fun _ _ => none
def pl11 : Nat → List PStep := fun _ => []
theorem cb11 : Tryz.f11.body.map (codeB Tryz.prog Tryz.f11.ntmps tk11 pl11) = some true := by kernel_rfl
theorem goes11 : goesB Tryz.prog 11 = true := by kernel_rfl

def pick (c n : Int) : Int := if c < 0 then (-(c + 1)) % n else c % n
set_option maxHeartbeats 4000000 in
set_option maxRecDepth 20000 in
theorem snd11 (c n : Int) (M : Mem) (hn : 0 < n) (hn2 : n < 2 ^ 62) (hc : -2 ^ 63 ≤ c ∧ c < 2 ^ 63) : SoundCall Tryz.prog 11 [int c, int n] M fun r M' => r = int (pick c n) ∧ M' = M := by
 refine SoundCall.go tk11 pl11 mixed Tryz.func11 cb11 rfl (Nat.le_of_ble_eq_true rfl) ?_
 refine s_seq ?_
 refine s_region ?_
 refine o_q (q_as (v_raw rfl)) rfl rfl rfl ?_
 refine o_nil ?_
 refine s_seq ?_
 refine s_seq ?_
 refine s_region ?_
 refine o_q (q_mv (v_raw rfl)) rfl rfl rfl ?_
 refine o_q (q_lss rfl rfl) rfl rfl rfl ?_
 refine o_nil ?_
 refine s_cond rfl (fun h1 => ?_) (fun h1 => ?_)
 ·have k1 := h1; try simp only [decide_eq_true_eq, decide_eq_false_iff_not, Bool.not_eq_true', Bool.not_eq_false', Bool.not_true, Bool.not_false, List.length_map, Decidable.not_not] at k1
  refine s_region ?_
  refine o_q (q_mv (v_raw rfl)) rfl rfl rfl ?_
  refine o_q (q_add rfl rfl (wrap64 (by omega) (by omega))) rfl rfl rfl ?_
  refine o_q (q_neg rfl (wrap64 (by omega) (by omega))) rfl rfl rfl ?_
  refine o_q (q_as (v_raw rfl)) rfl rfl rfl ?_
  refine o_nil ?_
  refine s_seq ?_
  refine s_region ?_
  refine o_q (q_mv (v_raw rfl)) rfl rfl rfl ?_
  refine o_q (q_mv (v_raw rfl)) rfl rfl rfl ?_
  refine o_q (q_rem rfl rfl (by omega)) rfl rfl rfl ?_
  refine o_q (q_as (v_raw rfl)) rfl rfl rfl ?_
  refine o_nil ?_
  refine s_ret ?_
  refine s_end ?_
  unfold pick
  rw [if_pos (by omega)]
  exact ⟨congrArg int (Int.tmod_eq_emod_of_nonneg (by omega)), rfl⟩
 ·have k1 := h1; try simp only [decide_eq_true_eq, decide_eq_false_iff_not, Bool.not_eq_true', Bool.not_eq_false', Bool.not_true, Bool.not_false, List.length_map, Decidable.not_not] at k1
  refine s_skip ?_
  refine s_seq ?_
  refine s_region ?_
  refine o_q (q_mv (v_raw rfl)) rfl rfl rfl ?_
  refine o_q (q_mv (v_raw rfl)) rfl rfl rfl ?_
  refine o_q (q_rem rfl rfl (by omega)) rfl rfl rfl ?_
  refine o_q (q_as (v_raw rfl)) rfl rfl rfl ?_
  refine o_nil ?_
  refine s_ret ?_
  refine s_end ?_
  unfold pick
  rw [if_neg (by omega)]
  exact ⟨congrArg int (Int.tmod_eq_emod_of_nonneg (by omega)), rfl⟩

def tk8 : Nat → Nat → Option Nat := fun _ _ => none
def pl8 : Nat → List PStep := fun _ => []
theorem cb8 : Tryz.f8.body.map (codeB Tryz.prog Tryz.f8.ntmps tk8 pl8) = some true := by kernel_rfl
theorem goes8 : goesB Tryz.prog 8 = true := by kernel_rfl

def bs (n : UInt8) : ByteArray := { data := #[n] }
def e0 : Tp := ⟨bs 116, 0, 0, [], []⟩
def e1 : Tp := ⟨bs 116, 0, 1, [(bs 112, (1, 0, bs 112))], [⟨0, bs 112, 1, bs 107, bs 118⟩]⟩
def e4 : Tp := ⟨bs 116, 0, 2, [(bs 112, (5, 1, bs 112))], [⟨0, bs 112, 1, bs 107, bs 118⟩, ⟨1, bs 112, 5, bs 107, bs 120⟩]⟩
def e5 : Tp := ⟨bs 116, 0, 2, [(bs 112, (5, 1, bs 112))], [⟨1, bs 112, 5, bs 107, bs 120⟩]⟩
def e6 : Tp := ⟨bs 116, 2, 2, [(bs 112, (5, 1, bs 112))], []⟩
theorem sort5 : Sorted e5.recs := by simp [Sorted, e5]
theorem pubE {x y : Tp} {p : ByteArray} {seq : Int} {k v : ByteArray} {a b : Int} (t m : Nat) (M : Mem) (h : pub x p seq k v = (y, a, b)) (ht : M t = some (.cells (tpC m x))) (hm : M m = some (tpK x)) (htm : t ≠ m) (hen : 0 ≤ x.en ∧ x.en < 2 ^ 62) (hlen : x.recs.length < 2 ^ 40) : SoundCall Tryz.prog 12 [ptr t, str p, int seq, str k, str v] M fun r M' => r = .tup [int a, int b] ∧ M' = setTp M t m y := by
 have := pub14 t m x p seq k v M ht hm htm hen hlen
 rw [h] at this
 exact this
theorem trimE {x y : Tp} {n a : Int} (t m : Nat) (M : Mem) (h : trimT x n = (y, a)) (ht : M t = some (.cells (tpC m x))) (hm : M m = some (tpK x)) (htm : t ≠ m) (hs : Sorted x.recs) (hlen : x.recs.length < 2 ^ 40) : SoundCall Tryz.prog 17 [ptr t, int n] M fun r M' => r = int a ∧ M' = setTp M t m y := by
 have := (snd17 t m x n M ht hm htm hs hlen).leaves
 rw [h] at this
 exact this
theorem compE {x y : Tp} {n : Int} (t m : Nat) (M : Mem) (h : compT x n = y) (ht : M t = some (.cells (tpC m x))) (hm : M m = some (tpK x)) (htm : t ≠ m) (hlen : x.recs.length < 2 ^ 40) : SoundCall Tryz.prog 19 [ptr t, int n] M fun r M' => r = int 0 ∧ M' = setTp M t m y := by
 have := (snd19 t m x n M ht hm htm hlen).leaves
 rw [h] at this
 exact this
theorem readE {x : Tp} {l : List Rec} {off most : Int} (t m : Nat) (M : Mem) (h : readL x.recs off most = l) (ht : M t = some (.cells (tpC m x))) (hs : Sorted x.recs) (hlen : x.recs.length < 2 ^ 40) : SoundCall Tryz.prog 14 [ptr t, int off, int most] M fun r M' => r = .sl (l.map enc) true ∧ M' = M := by
 have := snd14 t m x off most M ht hs hlen
 rw [h] at this
 exact this
set_option maxHeartbeats 4000000 in
set_option maxRecDepth 20000 in
theorem snd8 (M : Mem) : SoundCall Tryz.prog 8 [] M fun r M' => r = bool true ∧ M.le M' := by
 refine SoundCall.go tk8 pl8 mixed Tryz.func8 cb8 rfl (Nat.le_of_ble_eq_true rfl) ?_
 refine s_seq ?_
 refine s_region ?_
 refine o_q (q_as (v_raw rfl)) rfl rfl rfl ?_
 refine o_nil ?_
 refine s_seq ?_
 refine s_region ?_
 refine o_callx (newT (bs 116) _ (by kernel_rfl)) goes9 (ac (v_raw rfl) ac_nil) rfl ?_
 rintro r M' ⟨t, m, ht0, hm0, htm, rfl, rfl⟩
 have htm' := htm.symm
 refine o_q (q_mv (v_tup rfl)) rfl rfl rfl ?_
 refine o_q (q_ext rfl rfl (mvQ)) rfl rfl rfl ?_
 refine o_q (q_ext rfl rfl (v_raw rfl)) rfl rfl rfl ?_
 refine o_q (q_as (mvQ)) rfl rfl rfl ?_
 refine o_q (q_as (v_raw rfl)) rfl rfl rfl ?_
 refine o_nil ?_
 refine s_seq ?_
 refine s_region ?_
 refine o_callx (newF (bs 84) _ (by kernel_rfl)) goes9 (ac (v_raw rfl) ac_nil) rfl ?_
 rintro r M' ⟨rfl, rfl⟩
 refine o_q (q_mv (v_tup rfl)) rfl rfl rfl ?_
 refine o_q (q_ext rfl rfl (mvQ)) rfl rfl rfl ?_
 refine o_q (q_ext rfl rfl (v_raw rfl)) rfl rfl rfl ?_
 refine o_q (q_as (mvQ)) rfl rfl rfl ?_
 refine o_q (q_as (v_raw rfl)) rfl rfl rfl ?_
 refine o_nil ?_
 refine s_seq ?_
 refine s_seq ?_
 refine s_region ?_
 refine o_q (q_mv (mvQ)) rfl rfl rfl ?_
 refine o_q (q_peql und24 rfl rfl) rfl rfl rfl ?_
 refine o_q (q_mv (v_raw rfl)) rfl rfl rfl ?_
 refine o_yes rfl rfl rfl rfl ?_
 refine o_q (q_mv (v_raw rfl)) rfl rfl rfl ?_
 refine o_yes rfl rfl rfl rfl ?_
 refine o_q (q_neq rfl rfl) rfl rfl rfl ?_
 refine o_q (q_pick_c (t := false) rfl rfl (v_raw rfl)) rfl rfl rfl ?_
 refine o_q (q_mv (v_raw rfl)) rfl rfl rfl ?_
 refine o_yes rfl rfl rfl (by decide) ?_
 refine o_q (q_mv (v_raw rfl)) rfl rfl rfl ?_
 refine o_yes rfl rfl rfl (by decide) ?_
 refine o_q (q_neq rfl rfl) rfl rfl rfl ?_
 refine o_q (q_pick_c (t := false) rfl (by decide) (v_raw rfl)) rfl rfl rfl ?_
 refine o_nil ?_
 refine s_else rfl (by decide) ?_
 refine s_skip ?_
 refine s_seq ?_
 refine s_region ?_
 refine o_q (q_mv (mvQ)) rfl rfl rfl ?_
 refine o_callx ((pubE (x := e0) (y := e1) (p := bs 112) (seq := 1) (k := bs 107) (v := bs 118) (a := 0) (b := 0) t m _ (by kernel_rfl) mmQ mmQ htm (by decide) (by decide))) goes12 (ac (mvQ) (ac (v_raw rfl) (ac (v_raw rfl) (ac (v_raw rfl) (ac (v_raw rfl) ac_nil))))) rfl ?_
 rintro r M' ⟨rfl, rfl⟩
 refine o_q (q_mv (v_tup rfl)) rfl rfl rfl ?_
 refine o_q (q_ext rfl rfl (v_raw rfl)) rfl rfl rfl ?_
 refine o_q (q_ext rfl rfl (v_raw rfl)) rfl rfl rfl ?_
 refine o_q (q_as (v_raw rfl)) rfl rfl rfl ?_
 refine o_q (q_as (v_raw rfl)) rfl rfl rfl ?_
 refine o_nil ?_
 refine s_seq ?_
 refine s_region ?_
 refine o_q (q_mv (mvQ)) rfl rfl rfl ?_
 refine o_callx ((pubE (x := e1) (y := e1) (p := bs 112) (seq := 1) (k := bs 107) (v := bs 119) (a := 0) (b := 0) t m _ (by kernel_rfl) mmQ mmQ htm (by decide) (by decide))) goes12 (ac (mvQ) (ac (v_raw rfl) (ac (v_raw rfl) (ac (v_raw rfl) (ac (v_raw rfl) ac_nil))))) rfl ?_
 rintro r M' ⟨rfl, rfl⟩
 refine o_q (q_mv (v_tup rfl)) rfl rfl rfl ?_
 refine o_q (q_ext rfl rfl (v_raw rfl)) rfl rfl rfl ?_
 refine o_q (q_ext rfl rfl (v_raw rfl)) rfl rfl rfl ?_
 refine o_q (q_as (v_raw rfl)) rfl rfl rfl ?_
 refine o_q (q_as (v_raw rfl)) rfl rfl rfl ?_
 refine o_nil ?_
 refine s_seq ?_
 refine s_region ?_
 refine o_q (q_mv (mvQ)) rfl rfl rfl ?_
 refine o_callx ((pubE (x := e1) (y := e1) (p := bs 112) (seq := 0) (k := bs 107) (v := bs 119) (a := 0) (b := 6) t m _ (by kernel_rfl) mmQ mmQ htm (by decide) (by decide))) goes12 (ac (mvQ) (ac (v_raw rfl) (ac (v_raw rfl) (ac (v_raw rfl) (ac (v_raw rfl) ac_nil))))) rfl ?_
 rintro r M' ⟨rfl, rfl⟩
 refine o_q (q_mv (v_tup rfl)) rfl rfl rfl ?_
 refine o_q (q_ext rfl rfl (v_raw rfl)) rfl rfl rfl ?_
 refine o_q (q_ext rfl rfl (v_raw rfl)) rfl rfl rfl ?_
 refine o_q (q_as (v_raw rfl)) rfl rfl rfl ?_
 refine o_q (q_as (v_raw rfl)) rfl rfl rfl ?_
 refine o_nil ?_
 refine s_seq ?_
 refine s_region ?_
 refine o_q (q_mv (mvQ)) rfl rfl rfl ?_
 refine o_callx ((pubE (x := e1) (y := e4) (p := bs 112) (seq := 5) (k := bs 107) (v := bs 120) (a := 1) (b := 0) t m _ (by kernel_rfl) mmQ mmQ htm (by decide) (by decide))) goes12 (ac (mvQ) (ac (v_raw rfl) (ac (v_raw rfl) (ac (v_raw rfl) (ac (v_raw rfl) ac_nil))))) rfl ?_
 rintro r M' ⟨rfl, rfl⟩
 refine o_q (q_mv (v_tup rfl)) rfl rfl rfl ?_
 refine o_q (q_ext rfl rfl (v_raw rfl)) rfl rfl rfl ?_
 refine o_q (q_ext rfl rfl (v_raw rfl)) rfl rfl rfl ?_
 refine o_q (q_as (v_raw rfl)) rfl rfl rfl ?_
 refine o_q (q_as (v_raw rfl)) rfl rfl rfl ?_
 refine o_nil ?_
 refine s_seq ?_
 refine s_region ?_
 refine o_q (q_mv (mvQ)) rfl rfl rfl ?_
 refine o_callx ((compE (x := e4) (y := e5) t m _ (by kernel_rfl) mmQ mmQ htm (by decide))) goes19 (ac (mvQ) (ac (v_raw rfl) ac_nil)) rfl ?_
 rintro r M' ⟨rfl, rfl⟩
 refine o_nil ?_
 refine s_seq ?_
 refine s_region ?_
 refine o_q (q_mv (mvQ)) rfl rfl rfl ?_
 refine o_call ((readE (x := e5) (l := [⟨1, bs 112, 5, bs 107, bs 120⟩]) t m _ (by kernel_rfl) mmQ sort5 (by decide))) goes14 (ac (mvQ) (ac (v_raw rfl) (ac (v_raw rfl) ac_nil))) rfl ?_
 refine o_q (q_as (v_sl rfl)) rfl rfl rfl ?_
 refine o_nil ?_
 refine s_seq ?_
 refine s_region ?_
 refine o_q (q_mv (mvQ)) rfl rfl rfl ?_
 refine o_callx ((trimE (a := 7) (x := e5) (y := e5) t m _ (by kernel_rfl) mmQ mmQ htm sort5 (by decide))) goes17 (ac (mvQ) (ac (v_raw rfl) ac_nil)) rfl ?_
 rintro r M' ⟨rfl, rfl⟩
 refine o_q (q_as (v_raw rfl)) rfl rfl rfl ?_
 refine o_nil ?_
 refine s_seq ?_
 refine s_region ?_
 refine o_q (q_mv (mvQ)) rfl rfl rfl ?_
 refine o_callx ((trimE (a := 0) (x := e5) (y := e6) t m _ (by kernel_rfl) mmQ mmQ htm sort5 (by decide))) goes17 (ac (mvQ) (ac (v_raw rfl) ac_nil)) rfl ?_
 rintro r M' ⟨rfl, rfl⟩
 refine o_q (q_as (v_raw rfl)) rfl rfl rfl ?_
 refine o_nil ?_
 refine s_seq ?_
 refine s_region ?_
 refine o_q (q_mv (v_raw rfl)) rfl rfl rfl ?_
 refine o_q (q_eql rfl rfl) rfl rfl rfl ?_
 refine o_q (q_mv (v_raw rfl)) rfl rfl rfl ?_
 refine o_yes rfl rfl rfl (by decide) ?_
 refine o_q (q_mv (v_raw rfl)) rfl rfl rfl ?_
 refine o_yes rfl rfl rfl (by decide) ?_
 refine o_q (q_eql rfl rfl) rfl rfl rfl ?_
 refine o_q (q_pick_c (t := true) rfl (by decide) (v_raw rfl)) rfl rfl rfl ?_
 refine o_q (q_mv (v_raw rfl)) rfl rfl rfl ?_
 refine o_yes rfl rfl rfl (by decide) ?_
 refine o_q (q_mv (v_raw rfl)) rfl rfl rfl ?_
 refine o_yes rfl rfl rfl (by decide) ?_
 refine o_q (q_eql rfl rfl) rfl rfl rfl ?_
 refine o_q (q_pick_c (t := true) rfl (by decide) (v_raw rfl)) rfl rfl rfl ?_
 refine o_q (q_mv (v_raw rfl)) rfl rfl rfl ?_
 refine o_yes rfl rfl rfl (by decide) ?_
 refine o_q (q_mv (v_raw rfl)) rfl rfl rfl ?_
 refine o_yes rfl rfl rfl (by decide) ?_
 refine o_q (q_eql rfl rfl) rfl rfl rfl ?_
 refine o_q (q_pick_c (t := true) rfl (by decide) (v_raw rfl)) rfl rfl rfl ?_
 refine o_q (q_mv (v_raw rfl)) rfl rfl rfl ?_
 refine o_yes rfl rfl rfl (by decide) ?_
 refine o_q (q_mv (v_raw rfl)) rfl rfl rfl ?_
 refine o_yes rfl rfl rfl (by decide) ?_
 refine o_q (q_eql rfl rfl) rfl rfl rfl ?_
 refine o_q (q_pick_c (t := true) rfl (by decide) (v_raw rfl)) rfl rfl rfl ?_
 refine o_q (q_mv (v_raw rfl)) rfl rfl rfl ?_
 refine o_yes rfl rfl rfl (by decide) ?_
 refine o_q (q_mv (v_raw rfl)) rfl rfl rfl ?_
 refine o_yes rfl rfl rfl (by decide) ?_
 refine o_q (q_eql rfl rfl) rfl rfl rfl ?_
 refine o_q (q_pick_c (t := true) rfl (by decide) (v_raw rfl)) rfl rfl rfl ?_
 refine o_q (q_mv (v_raw rfl)) rfl rfl rfl ?_
 refine o_yes rfl rfl rfl (by decide) ?_
 refine o_q (q_mv (v_raw rfl)) rfl rfl rfl ?_
 refine o_yes rfl rfl rfl (by decide) ?_
 refine o_q (q_eql rfl rfl) rfl rfl rfl ?_
 refine o_q (q_pick_c (t := true) rfl (by decide) (v_raw rfl)) rfl rfl rfl ?_
 refine o_q (q_mv (v_raw rfl)) rfl rfl rfl ?_
 refine o_yes rfl rfl rfl (by decide) ?_
 refine o_q (q_mv (v_sl rfl)) rfl rfl rfl ?_
 refine o_yes rfl rfl rfl (by decide) ?_
 refine o_q (q_len rfl und35 rfl) rfl rfl rfl ?_
 refine o_yes rfl rfl rfl (by decide) ?_
 refine o_q (q_eql rfl rfl) rfl rfl rfl ?_
 refine o_q (q_pick_c (t := true) rfl (by decide) (v_raw rfl)) rfl rfl rfl ?_
 refine o_q (q_mv (v_raw rfl)) rfl rfl rfl ?_
 refine o_yes rfl rfl rfl (by decide) ?_
 refine o_q (q_mv (v_sl rfl)) rfl rfl rfl ?_
 refine o_yes rfl rfl rfl (by decide) ?_
 refine o_q (q_idx und35 sz39 rfl rfl (by omega) (gm 0 (by first | omega | simp)) rfl) rfl rfl rfl ?_
 refine o_yes rfl rfl rfl (by decide) ?_
 refine o_q (q_f fo39_0 rfl) rfl rfl rfl ?_
 refine o_yes rfl rfl rfl (by decide) ?_
 refine o_q (q_ld ag3 sz3 rfl (gm 0 (by first | omega | simp)) rfl (v_raw rfl)) rfl rfl rfl ?_
 refine o_yes rfl rfl rfl (by decide) ?_
 refine o_q (q_eql rfl rfl) rfl rfl rfl ?_
 refine o_q (q_pick_c (t := true) rfl (by decide) (v_raw rfl)) rfl rfl rfl ?_
 refine o_q (q_mv (v_raw rfl)) rfl rfl rfl ?_
 refine o_yes rfl rfl rfl (by decide) ?_
 refine o_q (q_mv (v_raw rfl)) rfl rfl rfl ?_
 refine o_yes rfl rfl rfl (by decide) ?_
 refine o_q (q_eql rfl rfl) rfl rfl rfl ?_
 refine o_q (q_pick_c (t := true) rfl (by decide) (v_raw rfl)) rfl rfl rfl ?_
 refine o_q (q_mv (v_raw rfl)) rfl rfl rfl ?_
 refine o_yes rfl rfl rfl (by decide) ?_
 refine o_q (q_mv (v_raw rfl)) rfl rfl rfl ?_
 refine o_yes rfl rfl rfl (by decide) ?_
 refine o_q (q_eql rfl rfl) rfl rfl rfl ?_
 refine o_q (q_pick_c (t := true) rfl (by decide) (v_raw rfl)) rfl rfl rfl ?_
 refine o_q (q_mv (v_raw rfl)) rfl rfl rfl ?_
 refine o_yes rfl rfl rfl (by decide) ?_
 refine o_q (q_mv (mvQ)) rfl rfl rfl ?_
 refine o_yes rfl rfl rfl (by decide) ?_
 refine o_call (((snd25 t m e6 _ mmQ mmQ htm).det)) goes25 (ac (mvQ) ac_nil) rfl ?_
 refine o_yes rfl rfl rfl (by decide) ?_
 refine o_q (q_eql rfl rfl) rfl rfl rfl ?_
 refine o_q (q_pick_c (t := true) rfl (by decide) (v_raw rfl)) rfl rfl rfl ?_
 refine o_q (q_mv (v_raw rfl)) rfl rfl rfl ?_
 refine o_yes rfl rfl rfl (by decide) ?_
 refine o_q (q_mv (mvQ)) rfl rfl rfl ?_
 refine o_yes rfl rfl rfl (by decide) ?_
 refine o_call (((snd26 t m e6 _ mmQ mmQ htm).det)) goes26 (ac (mvQ) ac_nil) rfl ?_
 refine o_yes rfl rfl rfl (by decide) ?_
 refine o_q (q_eql rfl rfl) rfl rfl rfl ?_
 refine o_q (q_pick_c (t := true) rfl (by decide) (v_raw rfl)) rfl rfl rfl ?_
 refine o_q (q_as (v_raw rfl)) rfl rfl rfl ?_
 refine o_nil ?_
 refine s_ret ?_
 refine s_end ?_
 exact ⟨rfl, (by repeat first | exact hle | exact Mem.le_refl M | assumption | exact Mem.none_of_le hle (by assumption) | refine Mem.le_upd ?_ ?_)⟩
end C17
