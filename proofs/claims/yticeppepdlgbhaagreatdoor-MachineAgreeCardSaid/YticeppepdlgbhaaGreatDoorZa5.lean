import Derived.Test.YticeppepdlgbhaaGreatDoorZa2
import Derived.Test.YticeppepdlgbhaaGreatDoorZa3
import Derived.Test.YticeppepdlgbhaaGreatDoorZa4
import Derived.Test.YticeppepdlgbhaaGreatDoorAmF
/-! Chapter 17: the machine: what its functions compute. -/
open Go Go.Proofs Go.Am
set_option linter.unusedVariables false
set_option linter.unusedSimpArgs false
set_option autoImplicit false
namespace C17
theorem ag56 : aggT Tryz.prog 56 = some true := by kernel_rfl
theorem ag120 : aggT Tryz.prog 120 = some false := by kernel_rfl
theorem ag121 : aggT Tryz.prog 121 = some false := by kernel_rfl
theorem ag122 : aggT Tryz.prog 122 = some true := by kernel_rfl
theorem bz56 : (zeroT Tryz.prog 56).map (fun z => z.cells.toList.map AVal.raw) = some [.raw (.int .i64 0), .raw (.int .i64 0), .raw (.slice none 0 0)] := by kernel_rfl
theorem bp56 : (aPlaces Tryz.prog 56).isSome = true := by kernel_rfl
theorem bz122 : (zeroT Tryz.prog 122).map (fun z => z.cells.toList.map AVal.raw) = some [.raw (.bool false), .raw (.bool false), .raw (.bool false), .raw (.bool false), .raw (.bool false), .raw (.bool false), .raw (.bool false)] := by kernel_rfl
theorem bp122 : (aPlaces Tryz.prog 122).isSome = true := by kernel_rfl
theorem bz124 : (zeroT Tryz.prog 124).map (fun z => z.cells.toList.map AVal.raw) = some [.raw (.map none), .raw (.map none), .raw (.bool false), .raw (.bool false), .raw (.bool false), .raw (.bool false), .raw (.bool false), .raw (.bool false), .raw (.bool false), .raw (.int .i64 0), .raw (.int .i64 0), .raw (.int .i64 0)] := by kernel_rfl
theorem bp124 : (aPlaces Tryz.prog 124).isSome = true := by kernel_rfl
theorem fo56_0 : fo Tryz.prog 56 0 = some (0, 1) := by kernel_rfl
theorem fo56_1 : fo Tryz.prog 56 1 = some (1, 1) := by kernel_rfl
theorem fo56_2 : fo Tryz.prog 56 2 = some (2, 1) := by kernel_rfl
theorem fo124_0 : fo Tryz.prog 124 0 = some (0, 1) := by kernel_rfl
theorem fo124_1 : fo Tryz.prog 124 1 = some (1, 1) := by kernel_rfl
theorem fo124_2 : fo Tryz.prog 124 2 = some (2, 7) := by kernel_rfl
theorem fo124_3 : fo Tryz.prog 124 3 = some (9, 1) := by kernel_rfl
theorem fo124_4 : fo Tryz.prog 124 4 = some (10, 2) := by kernel_rfl
theorem sz56 : sizeT Tryz.prog 56 = some 3 := by kernel_rfl
theorem sz120 : sizeT Tryz.prog 120 = some 1 := by kernel_rfl
theorem sz121 : sizeT Tryz.prog 121 = some 1 := by kernel_rfl
theorem sz122 : sizeT Tryz.prog 122 = some 7 := by kernel_rfl
theorem und24 : Tryz.prog.underlying 24 = some (.pointer 87) := by kernel_rfl
theorem und118 : Tryz.prog.underlying 118 = some (.slice 3) := by kernel_rfl
theorem und120 : Tryz.prog.underlying 120 = some (.map 9 24) := by kernel_rfl
theorem und121 : Tryz.prog.underlying 121 = some (.map 9 142) := by kernel_rfl
theorem und122 : Tryz.prog.underlying 122 = some (.array 7 4) := by kernel_rfl
theorem z142 : zeroT Tryz.prog 142 = some (.agg #[(.string { data := #[] }), (.string { data := #[] }), (.int .i64 0), (.int .i64 0)]) := by kernel_rfl
theorem z24 : zeroT Tryz.prog 24 = some (.pointer none) := by kernel_rfl
theorem zc56 : zeroCellsT Tryz.prog 56 = some [.raw (.int .i64 0), .raw (.int .i64 0), .sl [] true] := by kernel_rfl
theorem zc122 : zeroCellsT Tryz.prog 122 = some [.raw (.bool false), .raw (.bool false), .raw (.bool false), .raw (.bool false), .raw (.bool false), .raw (.bool false), .raw (.bool false)] := by kernel_rfl
def tk69 : Nat → Nat → Option Nat := fun _ _ => none
def pl69 : Nat → List PStep := fun _ => []
theorem cb69 : Tryz.f69.body.map (codeB Tryz.prog Tryz.f69.ntmps tk69 pl69) = some true := by kernel_rfl
theorem goes69 : goesB Tryz.prog 69 = true := by kernel_rfl

def mapV (r : Nat) : AVal := .raw (.map (some r))
structure W7 where
 a : Bool
 b : Bool
 c : Bool
 d : Bool
 e : Bool
 f : Bool
 g : Bool
 deriving DecidableEq
def W7.set (w : W7) (n : Nat) (v : Bool) : W7 := match n with
 | 0 => ⟨v, w.b, w.c, w.d, w.e, w.f, w.g⟩
 | 1 => ⟨w.a, v, w.c, w.d, w.e, w.f, w.g⟩
 | 2 => ⟨w.a, w.b, v, w.d, w.e, w.f, w.g⟩
 | 3 => ⟨w.a, w.b, w.c, v, w.e, w.f, w.g⟩
 | 4 => ⟨w.a, w.b, w.c, w.d, v, w.f, w.g⟩
 | 5 => ⟨w.a, w.b, w.c, w.d, w.e, v, w.g⟩
 | 6 => ⟨w.a, w.b, w.c, w.d, w.e, w.f, v⟩
 | _ => w
def wL (w : W7) : List AVal := [bool w.a, bool w.b, bool w.c, bool w.d, bool w.e, bool w.f, bool w.g]
theorem wL_set {w : W7} {n : Nat} {v : Bool} (h : n < 7) : splice (wL w) n [bool v] = wL (w.set n v) := by
 have : n = 0 ∨ n = 1 ∨ n = 2 ∨ n = 3 ∨ n = 4 ∨ n = 5 ∨ n = 6 := by omega
 rcases this with rfl | rfl | rfl | rfl | rfl | rfl | rfl <;> rfl
/-- A machine. -/
structure Mc where
 tps : List (ByteArray × Tp)
 sbs : List (ByteArray × Sb)
 want : W7
 cnt : Int
 dig : C3.Pr
def mcC (mt ms : Nat) (x : Mc) : List AVal := [mapV mt, mapV ms, bool x.want.a, bool x.want.b, bool x.want.c, bool x.want.d, bool x.want.e, bool x.want.f, bool x.want.g, int x.cnt, int x.dig.re, int x.dig.im]
abbrev sbK (l : List (ByteArray × Sb)) : AObj := .map (ents Value.string encSb l)
def rpV (c n : Int) (l : List Rec) (o : Bool) : AVal := .agg [int c, int n, .sl (l.map enc) o]
theorem upd_other {M : Mem} {b c : Nat} {o : AObj} (h : c ≠ b) : M.upd b o c = M c := if_neg h
theorem map_cells {M : Mem} {r : Nat} {dir : List (ByteArray × Nat)} {l : List AVal} (h : MapAt ptrV M r dir) (hc : M r = some (.cells l)) : False := by
 obtain ⟨clk, lf, h⟩ := h
 rw [h.hM] at hc; cases hc
theorem mem_put {M : Mem} {b c : Nat} (h : M b = none) (hc : M c ≠ none) : c ≠ b := fun e => hc (by rw [e]; exact h)
set_option maxHeartbeats 4000000 in
set_option maxRecDepth 20000 in
theorem snd69 (c n : Int) (M : Mem) : SoundCall Tryz.prog 69 [int c, int n] M fun r M' => r = .agg [int c, int (if c = 0 then n else 0), .raw (.slice none 0 0)] ∧ M.le M' := by
 refine SoundCall.go tk69 pl69 mixed Tryz.func69 cb69 rfl (Nat.le_of_ble_eq_true rfl) ?_
 refine s_seq ?_
 refine s_region ?_
 refine o_alloc zc56 (fun B1 hB1 => ?_)
 have m1 : M B1 = none := by have h := hB1; repeat (first | exact h | exact Mem.none_of_le hle h | replace h := (Mem.upd_none h).2)
 refine o_nil ?_
 refine s_seq ?_
 refine s_seq ?_
 refine s_region ?_
 refine o_q (q_mv (v_raw rfl)) rfl rfl rfl ?_
 refine o_q (q_neq rfl rfl) rfl rfl rfl ?_
 refine o_nil ?_
 refine s_cond rfl (fun h1 => ?_) (fun h1 => ?_)
 ·have k1 := h1; try simp only [decide_eq_true_eq, decide_eq_false_iff_not, Bool.not_eq_true', Bool.not_eq_false', Bool.not_true, Bool.not_false, List.length_map, Decidable.not_not] at k1
  refine s_region ?_
  refine o_q (q_as (v_raw rfl)) rfl rfl rfl ?_
  refine o_nil ?_
  refine s_seq ?_
  refine s_region ?_
  refine o_q (q_mv (v_raw rfl)) rfl rfl rfl ?_
  refine o_q (q_mv (v_raw rfl)) rfl rfl rfl ?_
  refine o_q (q_b (cs := [_, _, .raw (.slice none 0 0)]) bz56 bp56 (bf fo56_0 (e_raw rfl) rfl rfl (Nat.le_of_ble_eq_true rfl) rfl (bf fo56_1 (e_raw rfl) rfl rfl (Nat.le_of_ble_eq_true rfl) rfl bf_nil))) rfl rfl rfl ?_
  refine o_storew rfl mm mf rfl sz56 rfl rfl rfl rfl ?_
  refine o_nil ?_
  refine s_ret ?_
  refine s_end ?_
  exact ret_cell (.inl rfl) rfl rfl mm (loadP_w ag56 sz56 rfl rfl) ⟨by rw [if_neg k1]; rfl, (by repeat first | exact hle | exact Mem.le_refl M | assumption | exact Mem.none_of_le hle (by assumption) | refine Mem.le_upd ?_ ?_)⟩
 ·have k1 := h1; try simp only [decide_eq_true_eq, decide_eq_false_iff_not, Bool.not_eq_true', Bool.not_eq_false', Bool.not_true, Bool.not_false, List.length_map, Decidable.not_not] at k1
  refine s_skip ?_
  refine s_seq ?_
  refine s_region ?_
  refine o_q (q_mv (v_raw rfl)) rfl rfl rfl ?_
  refine o_q (q_mv (v_raw rfl)) rfl rfl rfl ?_
  refine o_q (q_b (cs := [_, _, .raw (.slice none 0 0)]) bz56 bp56 (bf fo56_0 (e_raw rfl) rfl rfl (Nat.le_of_ble_eq_true rfl) rfl (bf fo56_1 (e_raw rfl) rfl rfl (Nat.le_of_ble_eq_true rfl) rfl bf_nil))) rfl rfl rfl ?_
  refine o_storew rfl mm mf rfl sz56 rfl rfl rfl rfl ?_
  refine o_nil ?_
  refine s_ret ?_
  refine s_end ?_
  exact ret_cell (.inl rfl) rfl rfl mm (loadP_w ag56 sz56 rfl rfl) ⟨by rw [if_pos k1]; rfl, (by repeat first | exact hle | exact Mem.le_refl M | assumption | exact Mem.none_of_le hle (by assumption) | refine Mem.le_upd ?_ ?_)⟩
theorem code61 (c n : Int) (M : Mem) : SoundCall Tryz.prog 69 [int c, int n] M fun r M' => r = rpV c (if c = 0 then n else 0) [] false ∧ M' = M :=
 SoundCall.det (SoundCall.nilret (snd69 c n M) fun r M' h => .inr ⟨_, h.1, rfl, h.2⟩)


def tk117 : Nat → Nat → Option Nat := fun _ _ => none
def pl117 : Nat → List PStep
 | 1 => [.q 0, .q 1, .q 2, .q 3, .q 4, .q 5, .s 6 [0, 1, 2, 3, 4, 5], .q 7]
 | 5 => [.q 0, .q 1, .q 2, .q 3, .q 4, .q 5, .q 6, .q 7, .s 8 [0, 1, 2, 3, 4, 5, 6, 7], .q 9, .q 10, .q 11, .s 12 [0, 1, 2, 3, 4, 5, 6, 7, 9, 10, 11]]
 | _ => []
theorem cb117 : Tryz.f117.body.map (codeB Tryz.prog Tryz.f117.ntmps tk117 pl117) = some true := by kernel_rfl
set_option maxHeartbeats 4000000 in
set_option maxRecDepth 20000 in
theorem snd117a (b mt ms : Nat) (x : Mc) (dir : List (ByteArray × Nat)) (c : Cmd) (M : Mem) (hb : M b = some (.cells (mcC mt ms x))) (hm : MapAt ptrV M mt dir) (hs : M ms = some (sbK x.sbs)) (hbs : b ≠ ms) (t : Nat) (hg : gets dir c.topic = some t) : SoundCall Tryz.prog 117 [ptr b, encC c] M fun r M' => r = rpV 4 0 [] false ∧ M.le M' := by
 have hbm : b ≠ mt := fun e => map_cells hm (by rw [← e]; exact hb)
 have hbm' := hbm.symm
 have hr : ∀ {B : Nat}, M B = none → mt ≠ B := fun h e => hm.some (by rw [← e] at h; exact h)
 refine SoundCall.go tk117 pl117 mixed Tryz.func117 cb117 rfl (Nat.le_of_ble_eq_true rfl) ?_
 refine s_seq ?_
 refine s_region ?_
 refine o_box (by first | exact e_raw rfl | exact e_agg rfl | exact e_sl rfl) rfl rfl (fun B1 hB1 => ?_)
 have cbF1 : b ≠ B1 := Mem.fresh_ne hB1 mm
 have cbF1' := cbF1.symm
 have cms1 : ms ≠ B1 := Mem.fresh_ne hB1 mm
 have cms1' := cms1.symm
 have m1 : M B1 = none := by have h := hB1; repeat (first | exact h | exact Mem.none_of_le hle h | replace h := (Mem.upd_none h).2)
 refine o_alloc zc56 (fun B2 hB2 => ?_)
 have cb2 : b ≠ B2 := Mem.fresh_ne hB2 mm
 have cb2' := cb2.symm
 have cms2 : ms ≠ B2 := Mem.fresh_ne hB2 mm
 have cms2' := cms2.symm
 have f1_2 : B1 ≠ B2 := Mem.fresh_ne hB2 mm
 have g2_1 : B2 ≠ B1 := f1_2.symm
 have m2 : M B2 = none := by have h := hB2; repeat (first | exact h | exact Mem.none_of_le hle h | replace h := (Mem.upd_none h).2)
 refine o_nil ?_
 refine s_seq ?_
 refine s_seq ?_
 refine s_draw rfl ?_
 refine d_q rfl (q_mv (mv)) rfl rfl rfl ?_
 refine d_q rfl (q_nil rfl) rfl rfl rfl ?_
 refine d_q rfl (q_fr fo124_0 rfl) rfl rfl rfl ?_
 refine d_q rfl (q_ldm ag120 sz120 rfl mm rfl (v_raw rfl)) rfl rfl rfl ?_
 refine d_q rfl (q_fr fo49_1 rfl) rfl rfl rfl ?_
 refine d_q rfl (q_ldm ag9 sz9 rfl mm rfl (v_raw rfl)) rfl rfl rfl ?_
 refine d_s rfl ?_
 refine m_get (k := c.topic) und120 kt9 z24 rfl rfl (hm.keep (by repeat first | rfl | refine (upd_other (hr (by assumption))).trans ?_)) ?_
 rw [hg]
 refine o_nil ⟨(by simp [Mem.upd, *]), ?_⟩
 refine d_q rfl (q_pneq und24 rfl rfl) rfl rfl rfl ?_
 refine d_nil ?_
 refine s_then rfl rfl ?_
 refine s_seq ?_
 refine s_region ?_
 refine o_call (((code61 (4) (0) _))) goes69 (ac (v_raw rfl) (ac (v_raw rfl) ac_nil)) rfl ?_
 refine o_storew rfl mm mf rfl sz56 rfl rfl rfl rfl ?_
 refine o_nil ?_
 refine s_ret ?_
 refine s_code_ret ?_
 refine s_end ?_
 exact ret_cell (.inl rfl) rfl rfl mm (loadP_w ag56 sz56 rfl rfl) ⟨rfl, (by repeat first | exact hle | exact Mem.le_refl M | assumption | exact Mem.none_of_le hle (by assumption) | refine Mem.le_upd ?_ ?_)⟩

set_option maxHeartbeats 4000000 in
set_option maxRecDepth 20000 in
theorem snd117b (b mt ms : Nat) (x : Mc) (dir : List (ByteArray × Nat)) (c : Cmd) (M : Mem) (hb : M b = some (.cells (mcC mt ms x))) (hm : MapAt ptrV M mt dir) (hs : M ms = some (sbK x.sbs)) (hbs : b ≠ ms) (hg : gets dir c.topic = none) (hl : 20 ≤ dir.length) : SoundCall Tryz.prog 117 [ptr b, encC c] M fun r M' => r = rpV 3 0 [] false ∧ M.le M' := by
 have hbm : b ≠ mt := fun e => map_cells hm (by rw [← e]; exact hb)
 have hbm' := hbm.symm
 have hr : ∀ {B : Nat}, M B = none → mt ≠ B := fun h e => hm.some (by rw [← e] at h; exact h)
 refine SoundCall.go tk117 pl117 mixed Tryz.func117 cb117 rfl (Nat.le_of_ble_eq_true rfl) ?_
 refine s_seq ?_
 refine s_region ?_
 refine o_box (by first | exact e_raw rfl | exact e_agg rfl | exact e_sl rfl) rfl rfl (fun B1 hB1 => ?_)
 have cbF1 : b ≠ B1 := Mem.fresh_ne hB1 mm
 have cbF1' := cbF1.symm
 have cms1 : ms ≠ B1 := Mem.fresh_ne hB1 mm
 have cms1' := cms1.symm
 have m1 : M B1 = none := by have h := hB1; repeat (first | exact h | exact Mem.none_of_le hle h | replace h := (Mem.upd_none h).2)
 refine o_alloc zc56 (fun B2 hB2 => ?_)
 have cb2 : b ≠ B2 := Mem.fresh_ne hB2 mm
 have cb2' := cb2.symm
 have cms2 : ms ≠ B2 := Mem.fresh_ne hB2 mm
 have cms2' := cms2.symm
 have f1_2 : B1 ≠ B2 := Mem.fresh_ne hB2 mm
 have g2_1 : B2 ≠ B1 := f1_2.symm
 have m2 : M B2 = none := by have h := hB2; repeat (first | exact h | exact Mem.none_of_le hle h | replace h := (Mem.upd_none h).2)
 refine o_nil ?_
 refine s_seq ?_
 refine s_seq ?_
 refine s_draw rfl ?_
 refine d_q rfl (q_mv (mv)) rfl rfl rfl ?_
 refine d_q rfl (q_nil rfl) rfl rfl rfl ?_
 refine d_q rfl (q_fr fo124_0 rfl) rfl rfl rfl ?_
 refine d_q rfl (q_ldm ag120 sz120 rfl mm rfl (v_raw rfl)) rfl rfl rfl ?_
 refine d_q rfl (q_fr fo49_1 rfl) rfl rfl rfl ?_
 refine d_q rfl (q_ldm ag9 sz9 rfl mm rfl (v_raw rfl)) rfl rfl rfl ?_
 refine d_s rfl ?_
 refine m_get (k := c.topic) und120 kt9 z24 rfl rfl (hm.keep (by repeat first | rfl | refine (upd_other (hr (by assumption))).trans ?_)) ?_
 rw [hg]
 refine o_nil ⟨(by simp [Mem.upd, *]), ?_⟩
 refine d_q rfl (q_pneq und24 rfl rfl) rfl rfl rfl ?_
 refine d_nil ?_
 refine s_else rfl rfl ?_
 refine s_skip ?_
 refine s_seq ?_
 refine s_seq ?_
 refine s_region ?_
 refine o_q (q_mv (mv)) rfl rfl rfl ?_
 refine o_q (q_nil rfl) rfl rfl rfl ?_
 refine o_q (q_fr fo124_0 rfl) rfl rfl rfl ?_
 refine o_q (q_ldm ag120 sz120 rfl mm rfl (v_raw rfl)) rfl rfl rfl ?_
 refine m_len rfl und120 rfl (hm.keep (by repeat first | rfl | refine (upd_other (hr (by assumption))).trans ?_)) ?_
 refine o_q (q_geq rfl rfl) rfl rfl rfl ?_
 refine o_nil ?_
 refine s_then rfl (decide_eq_true (by omega)) ?_
 refine s_seq ?_
 refine s_region ?_
 refine o_call (((code61 (3) (0) _))) goes69 (ac (v_raw rfl) (ac (v_raw rfl) ac_nil)) rfl ?_
 refine o_storew rfl mm mf rfl sz56 rfl rfl rfl rfl ?_
 refine o_nil ?_
 refine s_ret ?_
 refine s_code_ret ?_
 refine s_end ?_
 exact ret_cell (.inl rfl) rfl rfl mm (loadP_w ag56 sz56 rfl rfl) ⟨rfl, (by repeat first | exact hle | exact Mem.le_refl M | assumption | exact Mem.none_of_le hle (by assumption) | refine Mem.le_upd ?_ ?_)⟩

set_option maxHeartbeats 4000000 in
set_option maxRecDepth 20000 in
theorem snd117c (b mt ms : Nat) (x : Mc) (dir : List (ByteArray × Nat)) (c : Cmd) (M : Mem) (hb : M b = some (.cells (mcC mt ms x))) (hm : MapAt ptrV M mt dir) (hs : M ms = some (sbK x.sbs)) (hbs : b ≠ ms) (hg : gets dir c.topic = none) (hl : dir.length < 20) (hw : word c.topic = true) : SoundCall Tryz.prog 117 [ptr b, encC c] M fun r M' => r = rpV 0 0 [] false ∧ ∃ t w, M t = none ∧ M w = none ∧ t ≠ w ∧ M' t = some (.cells (tpC w ⟨c.topic, 0, 0, [], []⟩)) ∧ M' w = some (tpK ⟨c.topic, 0, 0, [], []⟩) ∧ MapAt ptrV M' mt (ins dir c.topic t) ∧ ∀ d, d ≠ mt → M d ≠ none → M' d = M d := by
 have hbm : b ≠ mt := fun e => map_cells hm (by rw [← e]; exact hb)
 have hbm' := hbm.symm
 have hr : ∀ {B : Nat}, M B = none → mt ≠ B := fun h e => hm.some (by rw [← e] at h; exact h)
 refine SoundCall.go tk117 pl117 mixed Tryz.func117 cb117 rfl (Nat.le_of_ble_eq_true rfl) ?_
 refine s_seq ?_
 refine s_region ?_
 refine o_box (by first | exact e_raw rfl | exact e_agg rfl | exact e_sl rfl) rfl rfl (fun B1 hB1 => ?_)
 have cbF1 : b ≠ B1 := Mem.fresh_ne hB1 (by (try unfold setTp); repeat first | exact Mem.upd_self _ _ _ | assumption | refine Mem.upd_ne (by first | assumption | exact Ne.symm (by assumption)) ?_)
 have cbF1' := cbF1.symm
 have cms1 : ms ≠ B1 := Mem.fresh_ne hB1 (by (try unfold setTp); repeat first | exact Mem.upd_self _ _ _ | assumption | refine Mem.upd_ne (by first | assumption | exact Ne.symm (by assumption)) ?_)
 have cms1' := cms1.symm
 have m1 : M B1 = none := by have h := hB1; repeat (first | exact h | exact Mem.none_of_le hle h | replace h := (Mem.upd_none h).2)
 refine o_alloc zc56 (fun B2 hB2 => ?_)
 have cb2 : b ≠ B2 := Mem.fresh_ne hB2 (by (try unfold setTp); repeat first | exact Mem.upd_self _ _ _ | assumption | refine Mem.upd_ne (by first | assumption | exact Ne.symm (by assumption)) ?_)
 have cb2' := cb2.symm
 have cms2 : ms ≠ B2 := Mem.fresh_ne hB2 (by (try unfold setTp); repeat first | exact Mem.upd_self _ _ _ | assumption | refine Mem.upd_ne (by first | assumption | exact Ne.symm (by assumption)) ?_)
 have cms2' := cms2.symm
 have f1_2 : B1 ≠ B2 := Mem.fresh_ne hB2 (by (try unfold setTp); repeat first | exact Mem.upd_self _ _ _ | assumption | refine Mem.upd_ne (by first | assumption | exact Ne.symm (by assumption)) ?_)
 have g2_1 : B2 ≠ B1 := f1_2.symm
 have m2 : M B2 = none := by have h := hB2; repeat (first | exact h | exact Mem.none_of_le hle h | replace h := (Mem.upd_none h).2)
 refine o_nil ?_
 refine s_seq ?_
 refine s_seq ?_
 refine s_draw rfl ?_
 refine d_q rfl (q_mv (mv)) rfl rfl rfl ?_
 refine d_q rfl (q_nil rfl) rfl rfl rfl ?_
 refine d_q rfl (q_fr fo124_0 rfl) rfl rfl rfl ?_
 refine d_q rfl (q_ldm ag120 sz120 rfl (by (try unfold setTp); repeat first | exact Mem.upd_self _ _ _ | assumption | refine Mem.upd_ne (by first | assumption | exact Ne.symm (by assumption)) ?_) rfl (v_raw rfl)) rfl rfl rfl ?_
 refine d_q rfl (q_fr fo49_1 rfl) rfl rfl rfl ?_
 refine d_q rfl (q_ldm ag9 sz9 rfl (by (try unfold setTp); repeat first | exact Mem.upd_self _ _ _ | assumption | refine Mem.upd_ne (by first | assumption | exact Ne.symm (by assumption)) ?_) rfl (v_raw rfl)) rfl rfl rfl ?_
 refine d_s rfl ?_
 refine m_get (k := c.topic) und120 kt9 z24 rfl rfl (hm.keep (by repeat first | rfl | refine (upd_other (hr (by assumption))).trans ?_)) ?_
 rw [hg]
 refine o_nil ⟨(by simp [setTp, Mem.upd, *]), ?_⟩
 refine d_q rfl (q_pneq und24 rfl rfl) rfl rfl rfl ?_
 refine d_nil ?_
 refine s_else rfl rfl ?_
 refine s_skip ?_
 refine s_seq ?_
 refine s_seq ?_
 refine s_region ?_
 refine o_q (q_mv (mv)) rfl rfl rfl ?_
 refine o_q (q_nil rfl) rfl rfl rfl ?_
 refine o_q (q_fr fo124_0 rfl) rfl rfl rfl ?_
 refine o_q (q_ldm ag120 sz120 rfl (by (try unfold setTp); repeat first | exact Mem.upd_self _ _ _ | assumption | refine Mem.upd_ne (by first | assumption | exact Ne.symm (by assumption)) ?_) rfl (v_raw rfl)) rfl rfl rfl ?_
 refine m_len rfl und120 rfl (hm.keep (by repeat first | rfl | refine (upd_other (hr (by assumption))).trans ?_)) ?_
 refine o_q (q_geq rfl rfl) rfl rfl rfl ?_
 refine o_nil ?_
 refine s_else rfl (decide_eq_false (by omega)) ?_
 refine s_skip ?_
 refine s_seq ?_
 refine s_draw rfl ?_
 refine d_q rfl (q_mv (mv)) rfl rfl rfl ?_
 refine d_q rfl (q_nil rfl) rfl rfl rfl ?_
 refine d_q rfl (q_fr fo124_0 rfl) rfl rfl rfl ?_
 refine d_q rfl (q_ldm ag120 sz120 rfl (by (try unfold setTp); repeat first | exact Mem.upd_self _ _ _ | assumption | refine Mem.upd_ne (by first | assumption | exact Ne.symm (by assumption)) ?_) rfl (v_raw rfl)) rfl rfl rfl ?_
 refine d_q rfl (q_fr fo49_1 rfl) rfl rfl rfl ?_
 refine d_q rfl (q_ldm ag9 sz9 rfl (by (try unfold setTp); repeat first | exact Mem.upd_self _ _ _ | assumption | refine Mem.upd_ne (by first | assumption | exact Ne.symm (by assumption)) ?_) rfl (v_raw rfl)) rfl rfl rfl ?_
 refine d_q rfl (q_fr fo49_1 rfl) rfl rfl rfl ?_
 refine d_q rfl (q_ldm ag9 sz9 rfl (by (try unfold setTp); repeat first | exact Mem.upd_self _ _ _ | assumption | refine Mem.upd_ne (by first | assumption | exact Ne.symm (by assumption)) ?_) rfl (v_raw rfl)) rfl rfl rfl ?_
 refine d_s rfl ?_
 refine o_callx ((newT c.topic _ hw)) goes9 (ac (v_raw rfl) ac_nil) rfl ?_
 rintro r M1 ⟨t, w, ht0, hw0, htw, rfl, rfl⟩
 have mt0 : M t = none := (Mem.upd_none (Mem.upd_none ht0).2).2
 have mw0 : M w = none := (Mem.upd_none (Mem.upd_none hw0).2).2
 have t1 := (Mem.upd_none (Mem.upd_none ht0).2).1
 have t2 := (Mem.upd_none ht0).1
 have w1 := (Mem.upd_none (Mem.upd_none hw0).2).1
 have w2 := (Mem.upd_none hw0).1
 have tm := (hr mt0).symm
 have wm := (hr mw0).symm
 have bt : b ≠ t := mem_put mt0 (by rw [hb]; exact fun h => by cases h)
 have bw : b ≠ w := mem_put mw0 (by rw [hb]; exact fun h => by cases h)
 have b1m := (hr m1).symm
 have b2m := (hr m2).symm
 have t1' := t1.symm
 have t2' := t2.symm
 have w1' := w1.symm
 have w2' := w2.symm
 refine o_nil ⟨(by simp [setTp, Mem.upd, *]), ?_⟩
 refine d_q rfl (q_mv (v_tup rfl)) rfl rfl rfl ?_
 refine d_q rfl (q_ext rfl rfl (mv)) rfl rfl rfl ?_
 refine d_q rfl (q_ext rfl rfl (v_raw rfl)) rfl rfl rfl ?_
 refine d_s rfl ?_
 refine m_put (k := c.topic) (v := t) und120 kt9 rfl rfl rfl (hm.keep (by unfold setTp; repeat first | rfl | refine (upd_other (hr (by assumption))).trans ?_)) (fun o1 hM1 => ?_)
 refine o_nil ⟨(by simp [setTp, Mem.upd, *]), ?_⟩
 refine d_nil ?_
 refine s_seq ?_
 refine s_region ?_
 refine o_call (((code61 (0) (0) _))) goes69 (ac (v_raw rfl) (ac (v_raw rfl) ac_nil)) rfl ?_
 refine o_storew rfl (by (try unfold setTp); repeat first | exact Mem.upd_self _ _ _ | assumption | refine Mem.upd_ne (by first | assumption | exact Ne.symm (by assumption)) ?_) mf rfl sz56 rfl rfl rfl rfl ?_
 refine o_nil ?_
 refine s_ret ?_
 refine s_end ?_
 exact ret_cell (.inl rfl) rfl rfl (by (try unfold setTp); repeat first | exact Mem.upd_self _ _ _ | assumption | refine Mem.upd_ne (by first | assumption | exact Ne.symm (by assumption)) ?_) (loadP_w ag56 sz56 rfl rfl) ⟨rfl, t, w, mt0, mw0, htw, (by unfold setTp; repeat first | exact Mem.upd_self _ _ _ | assumption | refine Mem.upd_ne (by first | assumption | exact Ne.symm (by assumption)) ?_), (by unfold setTp; repeat first | exact Mem.upd_self _ _ _ | assumption | refine Mem.upd_ne (by first | assumption | exact Ne.symm (by assumption)) ?_), hM1.keep (upd_other (hr m2)), fun d h1 h2 => by unfold setTp; rw [upd_other (mem_put m2 h2), upd_other h1, upd_other (mem_put mt0 h2), upd_other (mem_put mw0 h2), upd_other (mem_put m2 h2), upd_other (mem_put m1 h2)]⟩

def tk118 : Nat → Nat → Option Nat := fun _ _ => none
def pl118 : Nat → List PStep
 | 1 => [.q 0, .q 1, .q 2, .q 3, .q 4, .q 5, .s 6 [0, 1, 2, 3, 4, 5], .q 7]
 | 4 => [.q 0, .q 1, .q 2, .q 3, .q 4, .q 5, .q 6, .q 7, .q 8, .q 9, .s 10 [9, 8, 7, 6, 5, 4, 3, 2, 1, 0], .s 11 [9], .q 12]
 | 11 => [.q 0, .q 1, .q 2, .q 3, .q 4, .q 5, .q 6, .s 7 []]
 | _ => []
theorem cb118 : Tryz.f118.body.map (codeB Tryz.prog Tryz.f118.ntmps tk118 pl118) = some true := by kernel_rfl
set_option maxHeartbeats 4000000 in
set_option maxRecDepth 20000 in
theorem snd118a (b mt ms : Nat) (x : Mc) (dir : List (ByteArray × Nat)) (c : Cmd) (M : Mem) (hb : M b = some (.cells (mcC mt ms x))) (hm : MapAt ptrV M mt dir) (hs : M ms = some (sbK x.sbs)) (hbs : b ≠ ms) (hg : gets dir c.topic = none) : SoundCall Tryz.prog 118 [ptr b, encC c] M fun r M' => r = rpV 5 0 [] false ∧ M.le M' := by
 have hbm : b ≠ mt := fun e => map_cells hm (by rw [← e]; exact hb)
 have hbm' := hbm.symm
 have hr : ∀ {B : Nat}, M B = none → mt ≠ B := fun h e => hm.some (by rw [← e] at h; exact h)
 refine SoundCall.go tk118 pl118 mixed Tryz.func118 cb118 rfl (Nat.le_of_ble_eq_true rfl) ?_
 refine s_seq ?_
 refine s_region ?_
 refine o_box (by first | exact e_raw rfl | exact e_agg rfl | exact e_sl rfl) rfl rfl (fun B1 hB1 => ?_)
 have cbF1 : b ≠ B1 := Mem.fresh_ne hB1 mm
 have cbF1' := cbF1.symm
 have cms1 : ms ≠ B1 := Mem.fresh_ne hB1 mm
 have cms1' := cms1.symm
 have m1 : M B1 = none := by have h := hB1; repeat (first | exact h | exact Mem.none_of_le hle h | replace h := (Mem.upd_none h).2)
 refine o_alloc zc56 (fun B2 hB2 => ?_)
 have cb2 : b ≠ B2 := Mem.fresh_ne hB2 mm
 have cb2' := cb2.symm
 have cms2 : ms ≠ B2 := Mem.fresh_ne hB2 mm
 have cms2' := cms2.symm
 have f1_2 : B1 ≠ B2 := Mem.fresh_ne hB2 mm
 have g2_1 : B2 ≠ B1 := f1_2.symm
 have m2 : M B2 = none := by have h := hB2; repeat (first | exact h | exact Mem.none_of_le hle h | replace h := (Mem.upd_none h).2)
 refine o_nil ?_
 refine s_seq ?_
 refine s_draw rfl ?_
 refine d_q rfl (q_mv (mv)) rfl rfl rfl ?_
 refine d_q rfl (q_nil rfl) rfl rfl rfl ?_
 refine d_q rfl (q_fr fo124_0 rfl) rfl rfl rfl ?_
 refine d_q rfl (q_ldm ag120 sz120 rfl mm rfl (v_raw rfl)) rfl rfl rfl ?_
 refine d_q rfl (q_fr fo49_1 rfl) rfl rfl rfl ?_
 refine d_q rfl (q_ldm ag9 sz9 rfl mm rfl (v_raw rfl)) rfl rfl rfl ?_
 refine d_s rfl ?_
 refine m_get (k := c.topic) und120 kt9 z24 rfl rfl (hm.keep (by repeat first | rfl | refine (upd_other (hr (by assumption))).trans ?_)) ?_
 rw [hg]
 refine o_nil ⟨(by simp [Mem.upd, *]), ?_⟩
 refine d_q rfl (q_as (mv)) rfl rfl rfl ?_
 refine d_nil ?_
 refine s_seq ?_
 refine s_seq ?_
 refine s_region ?_
 refine o_q (q_mv (mv)) rfl rfl rfl ?_
 refine o_q (q_peql und24 rfl rfl) rfl rfl rfl ?_
 refine o_nil ?_
 refine s_then rfl rfl ?_
 refine s_seq ?_
 refine s_region ?_
 refine o_call (((code61 (5) (0) _))) goes69 (ac (v_raw rfl) (ac (v_raw rfl) ac_nil)) rfl ?_
 refine o_storew rfl mm mf rfl sz56 rfl rfl rfl rfl ?_
 refine o_nil ?_
 refine s_ret ?_
 refine s_code_ret ?_
 refine s_end ?_
 exact ret_cell (.inl rfl) rfl rfl mm (loadP_w ag56 sz56 rfl rfl) ⟨rfl, (by repeat first | exact hle | exact Mem.le_refl M | assumption | exact Mem.none_of_le hle (by assumption) | refine Mem.le_upd ?_ ?_)⟩

set_option maxHeartbeats 4000000 in
set_option maxRecDepth 20000 in
theorem snd118b (b mt ms : Nat) (x : Mc) (dir : List (ByteArray × Nat)) (c : Cmd) (M : Mem) (hb : M b = some (.cells (mcC mt ms x))) (hm : MapAt ptrV M mt dir) (hs : M ms = some (sbK x.sbs)) (hbs : b ≠ ms) (t w : Nat) (y : Tp) (hg : gets dir c.topic = some t) (ht : M t = some (.cells (tpC w y))) (hw : M w = some (tpK y)) (htw : t ≠ w) (s : Sb) (hn : kget x.sbs c.name = some s) : SoundCall Tryz.prog 118 [ptr b, encC c] M fun r M' => r = rpV 4 0 [] false ∧ M.le M' := by
 have hbm : b ≠ mt := fun e => map_cells hm (by rw [← e]; exact hb)
 have hbm' := hbm.symm
 have hr : ∀ {B : Nat}, M B = none → mt ≠ B := fun h e => hm.some (by rw [← e] at h; exact h)
 have htw' := htw.symm
 have hbt : b ≠ t := fun e => by rw [← e, hb] at ht; cases ht
 have hbt' := hbt.symm
 have hbw : b ≠ w := fun e => by rw [← e, hb] at hw; cases hw
 have hbw' := hbw.symm
 have hst : ms ≠ t := fun e => by rw [← e, hs] at ht; cases ht
 have hst' := hst.symm
 have hbs' := hbs.symm
 have hmt : mt ≠ t := fun e => map_cells hm (by rw [e]; exact ht)
 have hmt' := hmt.symm
 refine SoundCall.go tk118 pl118 mixed Tryz.func118 cb118 rfl (Nat.le_of_ble_eq_true rfl) ?_
 refine s_seq ?_
 refine s_region ?_
 refine o_box (by first | exact e_raw rfl | exact e_agg rfl | exact e_sl rfl) rfl rfl (fun B1 hB1 => ?_)
 have cbF1 : b ≠ B1 := Mem.fresh_ne hB1 mm
 have cbF1' := cbF1.symm
 have cms1 : ms ≠ B1 := Mem.fresh_ne hB1 mm
 have cms1' := cms1.symm
 have m1 : M B1 = none := by have h := hB1; repeat (first | exact h | exact Mem.none_of_le hle h | replace h := (Mem.upd_none h).2)
 refine o_alloc zc56 (fun B2 hB2 => ?_)
 have cb2 : b ≠ B2 := Mem.fresh_ne hB2 mm
 have cb2' := cb2.symm
 have cms2 : ms ≠ B2 := Mem.fresh_ne hB2 mm
 have cms2' := cms2.symm
 have f1_2 : B1 ≠ B2 := Mem.fresh_ne hB2 mm
 have g2_1 : B2 ≠ B1 := f1_2.symm
 have m2 : M B2 = none := by have h := hB2; repeat (first | exact h | exact Mem.none_of_le hle h | replace h := (Mem.upd_none h).2)
 refine o_nil ?_
 refine s_seq ?_
 refine s_draw rfl ?_
 refine d_q rfl (q_mv (mv)) rfl rfl rfl ?_
 refine d_q rfl (q_nil rfl) rfl rfl rfl ?_
 refine d_q rfl (q_fr fo124_0 rfl) rfl rfl rfl ?_
 refine d_q rfl (q_ldm ag120 sz120 rfl mm rfl (v_raw rfl)) rfl rfl rfl ?_
 refine d_q rfl (q_fr fo49_1 rfl) rfl rfl rfl ?_
 refine d_q rfl (q_ldm ag9 sz9 rfl mm rfl (v_raw rfl)) rfl rfl rfl ?_
 refine d_s rfl ?_
 refine m_get (k := c.topic) und120 kt9 z24 rfl rfl (hm.keep (by repeat first | rfl | refine (upd_other (hr (by assumption))).trans ?_)) ?_
 rw [hg]
 refine o_nil ⟨(by simp [Mem.upd, *]), ?_⟩
 refine d_q rfl (q_as (mv)) rfl rfl rfl ?_
 refine d_nil ?_
 refine s_seq ?_
 refine s_seq ?_
 refine s_region ?_
 refine o_q (q_mv (mv)) rfl rfl rfl ?_
 refine o_q (q_peql und24 rfl rfl) rfl rfl rfl ?_
 refine o_nil ?_
 refine s_else rfl rfl ?_
 refine s_skip ?_
 refine s_seq ?_
 refine s_seq ?_
 refine s_draw rfl ?_
 refine d_q rfl (q_mv (mv)) rfl rfl rfl ?_
 refine d_q rfl (q_nil rfl) rfl rfl rfl ?_
 refine d_q rfl (q_fr fo124_1 rfl) rfl rfl rfl ?_
 refine d_q rfl (q_ldm ag121 sz121 rfl mm rfl (v_raw rfl)) rfl rfl rfl ?_
 refine d_q rfl (q_fr fo49_2 rfl) rfl rfl rfl ?_
 refine d_q rfl (q_ldm ag9 sz9 rfl mm rfl (v_raw rfl)) rfl rfl rfl ?_
 refine d_q rfl (q_mget2 und121 kt9 z142 rfl rfl mm (show _ = encSb s by rw [hn]; rfl)) rfl rfl rfl ?_
 refine d_q rfl (q_mv (v_tup rfl)) rfl rfl rfl ?_
 refine d_q rfl (q_ext rfl rfl (v_agg rfl)) rfl rfl rfl ?_
 refine d_q rfl (q_ext rfl rfl (v_raw rfl)) rfl rfl rfl ?_
 refine d_s rfl ?_
 refine o_alloc zc142 (fun B3 hB3 => ?_)
 have cbF3 : b ≠ B3 := Mem.fresh_ne hB3 mm
 have cbF3' := cbF3.symm
 have cms3 : ms ≠ B3 := Mem.fresh_ne hB3 mm
 have cms3' := cms3.symm
 have f1_3 : B1 ≠ B3 := Mem.fresh_ne hB3 mm
 have g3_1 : B3 ≠ B1 := f1_3.symm
 have f2_3 : B2 ≠ B3 := Mem.fresh_ne hB3 mm
 have g3_2 : B3 ≠ B2 := f2_3.symm
 have m3 : M B3 = none := by have h := hB3; repeat (first | exact h | exact Mem.none_of_le hle h | replace h := (Mem.upd_none h).2)
 refine o_nil ⟨(by simp [Mem.upd, *]), ?_⟩
 refine d_s rfl ?_
 refine o_storew rfl mm mf rfl sz142 rfl rfl rfl rfl ?_
 refine o_nil ⟨(by simp [Mem.upd, *]), ?_⟩
 refine d_q rfl (q_as (v_raw rfl)) rfl rfl rfl ?_
 refine d_nil ?_
 refine s_seq ?_
 refine s_region ?_
 refine o_q (q_mv (v_raw rfl)) rfl rfl rfl ?_
 refine o_nil ?_
 refine s_then rfl (by rw [hn]; rfl) ?_
 refine s_seq ?_
 refine s_region ?_
 refine o_call (((code61 (4) (0) _))) goes69 (ac (v_raw rfl) (ac (v_raw rfl) ac_nil)) rfl ?_
 refine o_storew rfl mm mf rfl sz56 rfl rfl rfl rfl ?_
 refine o_nil ?_
 refine s_ret ?_
 refine s_code_ret ?_
 refine s_end ?_
 exact ret_cell (.inl rfl) rfl rfl mm (loadP_w ag56 sz56 rfl rfl) ⟨rfl, (by repeat first | exact hle | exact Mem.le_refl M | assumption | exact Mem.none_of_le hle (by assumption) | refine Mem.le_upd ?_ ?_)⟩

set_option maxHeartbeats 4000000 in
set_option maxRecDepth 20000 in
theorem snd118c (b mt ms : Nat) (x : Mc) (dir : List (ByteArray × Nat)) (c : Cmd) (M : Mem) (hb : M b = some (.cells (mcC mt ms x))) (hm : MapAt ptrV M mt dir) (hs : M ms = some (sbK x.sbs)) (hbs : b ≠ ms) (t w : Nat) (y : Tp) (hg : gets dir c.topic = some t) (ht : M t = some (.cells (tpC w y))) (hw : M w = some (tpK y)) (htw : t ≠ w) (hn : kget x.sbs c.name = none) (hl : 50 ≤ x.sbs.length) : SoundCall Tryz.prog 118 [ptr b, encC c] M fun r M' => r = rpV 3 0 [] false ∧ M.le M' := by
 have hbm : b ≠ mt := fun e => map_cells hm (by rw [← e]; exact hb)
 have hbm' := hbm.symm
 have hr : ∀ {B : Nat}, M B = none → mt ≠ B := fun h e => hm.some (by rw [← e] at h; exact h)
 have htw' := htw.symm
 have hbt : b ≠ t := fun e => by rw [← e, hb] at ht; cases ht
 have hbt' := hbt.symm
 have hbw : b ≠ w := fun e => by rw [← e, hb] at hw; cases hw
 have hbw' := hbw.symm
 have hst : ms ≠ t := fun e => by rw [← e, hs] at ht; cases ht
 have hst' := hst.symm
 have hbs' := hbs.symm
 have hmt : mt ≠ t := fun e => map_cells hm (by rw [e]; exact ht)
 have hmt' := hmt.symm
 refine SoundCall.go tk118 pl118 mixed Tryz.func118 cb118 rfl (Nat.le_of_ble_eq_true rfl) ?_
 refine s_seq ?_
 refine s_region ?_
 refine o_box (by first | exact e_raw rfl | exact e_agg rfl | exact e_sl rfl) rfl rfl (fun B1 hB1 => ?_)
 have cbF1 : b ≠ B1 := Mem.fresh_ne hB1 mm
 have cbF1' := cbF1.symm
 have cms1 : ms ≠ B1 := Mem.fresh_ne hB1 mm
 have cms1' := cms1.symm
 have m1 : M B1 = none := by have h := hB1; repeat (first | exact h | exact Mem.none_of_le hle h | replace h := (Mem.upd_none h).2)
 refine o_alloc zc56 (fun B2 hB2 => ?_)
 have cb2 : b ≠ B2 := Mem.fresh_ne hB2 mm
 have cb2' := cb2.symm
 have cms2 : ms ≠ B2 := Mem.fresh_ne hB2 mm
 have cms2' := cms2.symm
 have f1_2 : B1 ≠ B2 := Mem.fresh_ne hB2 mm
 have g2_1 : B2 ≠ B1 := f1_2.symm
 have m2 : M B2 = none := by have h := hB2; repeat (first | exact h | exact Mem.none_of_le hle h | replace h := (Mem.upd_none h).2)
 refine o_nil ?_
 refine s_seq ?_
 refine s_draw rfl ?_
 refine d_q rfl (q_mv (mv)) rfl rfl rfl ?_
 refine d_q rfl (q_nil rfl) rfl rfl rfl ?_
 refine d_q rfl (q_fr fo124_0 rfl) rfl rfl rfl ?_
 refine d_q rfl (q_ldm ag120 sz120 rfl mm rfl (v_raw rfl)) rfl rfl rfl ?_
 refine d_q rfl (q_fr fo49_1 rfl) rfl rfl rfl ?_
 refine d_q rfl (q_ldm ag9 sz9 rfl mm rfl (v_raw rfl)) rfl rfl rfl ?_
 refine d_s rfl ?_
 refine m_get (k := c.topic) und120 kt9 z24 rfl rfl (hm.keep (by repeat first | rfl | refine (upd_other (hr (by assumption))).trans ?_)) ?_
 rw [hg]
 refine o_nil ⟨(by simp [Mem.upd, *]), ?_⟩
 refine d_q rfl (q_as (mv)) rfl rfl rfl ?_
 refine d_nil ?_
 refine s_seq ?_
 refine s_seq ?_
 refine s_region ?_
 refine o_q (q_mv (mv)) rfl rfl rfl ?_
 refine o_q (q_peql und24 rfl rfl) rfl rfl rfl ?_
 refine o_nil ?_
 refine s_else rfl rfl ?_
 refine s_skip ?_
 refine s_seq ?_
 refine s_seq ?_
 refine s_draw rfl ?_
 refine d_q rfl (q_mv (mv)) rfl rfl rfl ?_
 refine d_q rfl (q_nil rfl) rfl rfl rfl ?_
 refine d_q rfl (q_fr fo124_1 rfl) rfl rfl rfl ?_
 refine d_q rfl (q_ldm ag121 sz121 rfl mm rfl (v_raw rfl)) rfl rfl rfl ?_
 refine d_q rfl (q_fr fo49_2 rfl) rfl rfl rfl ?_
 refine d_q rfl (q_ldm ag9 sz9 rfl mm rfl (v_raw rfl)) rfl rfl rfl ?_
 refine d_q rfl (q_mget2 und121 kt9 z142 rfl rfl mm (show _ = encSb ⟨emp, emp, 0, 0⟩ by rw [hn]; rfl)) rfl rfl rfl ?_
 refine d_q rfl (q_mv (v_tup rfl)) rfl rfl rfl ?_
 refine d_q rfl (q_ext rfl rfl (v_agg rfl)) rfl rfl rfl ?_
 refine d_q rfl (q_ext rfl rfl (v_raw rfl)) rfl rfl rfl ?_
 refine d_s rfl ?_
 refine o_alloc zc142 (fun B3 hB3 => ?_)
 have cbF3 : b ≠ B3 := Mem.fresh_ne hB3 mm
 have cbF3' := cbF3.symm
 have cms3 : ms ≠ B3 := Mem.fresh_ne hB3 mm
 have cms3' := cms3.symm
 have f1_3 : B1 ≠ B3 := Mem.fresh_ne hB3 mm
 have g3_1 : B3 ≠ B1 := f1_3.symm
 have f2_3 : B2 ≠ B3 := Mem.fresh_ne hB3 mm
 have g3_2 : B3 ≠ B2 := f2_3.symm
 have m3 : M B3 = none := by have h := hB3; repeat (first | exact h | exact Mem.none_of_le hle h | replace h := (Mem.upd_none h).2)
 refine o_nil ⟨(by simp [Mem.upd, *]), ?_⟩
 refine d_s rfl ?_
 refine o_storew rfl mm mf rfl sz142 rfl rfl rfl rfl ?_
 refine o_nil ⟨(by simp [Mem.upd, *]), ?_⟩
 refine d_q rfl (q_as (v_raw rfl)) rfl rfl rfl ?_
 refine d_nil ?_
 refine s_seq ?_
 refine s_region ?_
 refine o_q (q_mv (v_raw rfl)) rfl rfl rfl ?_
 refine o_nil ?_
 refine s_else rfl (by rw [hn]; rfl) ?_
 refine s_skip ?_
 refine s_seq ?_
 refine s_seq ?_
 refine s_region ?_
 refine o_q (q_mv (mv)) rfl rfl rfl ?_
 refine o_q (q_nil rfl) rfl rfl rfl ?_
 refine o_q (q_fr fo124_1 rfl) rfl rfl rfl ?_
 refine o_q (q_ldm ag121 sz121 rfl mm rfl (v_raw rfl)) rfl rfl rfl ?_
 refine o_q (q_lenm rfl und121 rfl mm) rfl rfl rfl ?_
 refine o_q (q_geq rfl rfl) rfl rfl rfl ?_
 refine o_nil ?_
 refine s_then rfl (decide_eq_true (by simp only [ents, List.length_map]; omega)) ?_
 refine s_seq ?_
 refine s_region ?_
 refine o_call (((code61 (3) (0) _))) goes69 (ac (v_raw rfl) (ac (v_raw rfl) ac_nil)) rfl ?_
 refine o_storew rfl mm mf rfl sz56 rfl rfl rfl rfl ?_
 refine o_nil ?_
 refine s_ret ?_
 refine s_code_ret ?_
 refine s_end ?_
 exact ret_cell (.inl rfl) rfl rfl mm (loadP_w ag56 sz56 rfl rfl) ⟨rfl, (by repeat first | exact hle | exact Mem.le_refl M | assumption | exact Mem.none_of_le hle (by assumption) | refine Mem.le_upd ?_ ?_)⟩

set_option maxHeartbeats 4000000 in
set_option maxRecDepth 20000 in
theorem snd118d (b mt ms : Nat) (x : Mc) (dir : List (ByteArray × Nat)) (c : Cmd) (M : Mem) (hb : M b = some (.cells (mcC mt ms x))) (hm : MapAt ptrV M mt dir) (hs : M ms = some (sbK x.sbs)) (hbs : b ≠ ms) (t w : Nat) (y : Tp) (hg : gets dir c.topic = some t) (ht : M t = some (.cells (tpC w y))) (hw : M w = some (tpK y)) (htw : t ≠ w) (hn : kget x.sbs c.name = none) (hl : x.sbs.length < 50) : SoundCall Tryz.prog 118 [ptr b, encC c] M fun r M' => r = rpV (newS c.name y c.n).2 (if (newS c.name y c.n).2 = 0 then (newS c.name y c.n).1.cur else 0) [] false ∧ M' ms = some (sbK (if (newS c.name y c.n).2 = 0 then kput x.sbs c.name (newS c.name y c.n).1 else x.sbs)) ∧ ∀ d, d ≠ ms → M d ≠ none → M' d = M d := by
 have hbm : b ≠ mt := fun e => map_cells hm (by rw [← e]; exact hb)
 have hbm' := hbm.symm
 have hr : ∀ {B : Nat}, M B = none → mt ≠ B := fun h e => hm.some (by rw [← e] at h; exact h)
 have htw' := htw.symm
 have hbt : b ≠ t := fun e => by rw [← e, hb] at ht; cases ht
 have hbt' := hbt.symm
 have hbw : b ≠ w := fun e => by rw [← e, hb] at hw; cases hw
 have hbw' := hbw.symm
 have hst : ms ≠ t := fun e => by rw [← e, hs] at ht; cases ht
 have hst' := hst.symm
 have hbs' := hbs.symm
 have hmt : mt ≠ t := fun e => map_cells hm (by rw [e]; exact ht)
 have hmt' := hmt.symm
 refine SoundCall.go tk118 pl118 mixed Tryz.func118 cb118 rfl (Nat.le_of_ble_eq_true rfl) ?_
 refine s_seq ?_
 refine s_region ?_
 refine o_box (by first | exact e_raw rfl | exact e_agg rfl | exact e_sl rfl) rfl rfl (fun B1 hB1 => ?_)
 have cbF1 : b ≠ B1 := Mem.fresh_ne hB1 mm
 have cbF1' := cbF1.symm
 have cms1 : ms ≠ B1 := Mem.fresh_ne hB1 mm
 have cms1' := cms1.symm
 have ct1 : t ≠ B1 := Mem.fresh_ne hB1 mm
 have ct1' := ct1.symm
 have cw1 : w ≠ B1 := Mem.fresh_ne hB1 mm
 have cw1' := cw1.symm
 have m1 : M B1 = none := by have h := hB1; repeat (first | exact h | exact Mem.none_of_le hle h | replace h := (Mem.upd_none h).2)
 refine o_alloc zc56 (fun B2 hB2 => ?_)
 have cb2 : b ≠ B2 := Mem.fresh_ne hB2 mm
 have cb2' := cb2.symm
 have cms2 : ms ≠ B2 := Mem.fresh_ne hB2 mm
 have cms2' := cms2.symm
 have ct2 : t ≠ B2 := Mem.fresh_ne hB2 mm
 have ct2' := ct2.symm
 have cw2 : w ≠ B2 := Mem.fresh_ne hB2 mm
 have cw2' := cw2.symm
 have f1_2 : B1 ≠ B2 := Mem.fresh_ne hB2 mm
 have g2_1 : B2 ≠ B1 := f1_2.symm
 have m2 : M B2 = none := by have h := hB2; repeat (first | exact h | exact Mem.none_of_le hle h | replace h := (Mem.upd_none h).2)
 refine o_nil ?_
 refine s_seq ?_
 refine s_draw rfl ?_
 refine d_q rfl (q_mv (mv)) rfl rfl rfl ?_
 refine d_q rfl (q_nil rfl) rfl rfl rfl ?_
 refine d_q rfl (q_fr fo124_0 rfl) rfl rfl rfl ?_
 refine d_q rfl (q_ldm ag120 sz120 rfl mm rfl (v_raw rfl)) rfl rfl rfl ?_
 refine d_q rfl (q_fr fo49_1 rfl) rfl rfl rfl ?_
 refine d_q rfl (q_ldm ag9 sz9 rfl mm rfl (v_raw rfl)) rfl rfl rfl ?_
 refine d_s rfl ?_
 refine m_get (k := c.topic) und120 kt9 z24 rfl rfl (hm.keep (by repeat first | rfl | refine (upd_other (hr (by assumption))).trans ?_)) ?_
 rw [hg]
 refine o_nil ⟨(by simp [Mem.upd, *]), ?_⟩
 refine d_q rfl (q_as (mv)) rfl rfl rfl ?_
 refine d_nil ?_
 refine s_seq ?_
 refine s_seq ?_
 refine s_region ?_
 refine o_q (q_mv (mv)) rfl rfl rfl ?_
 refine o_q (q_peql und24 rfl rfl) rfl rfl rfl ?_
 refine o_nil ?_
 refine s_else rfl rfl ?_
 refine s_skip ?_
 refine s_seq ?_
 refine s_seq ?_
 refine s_draw rfl ?_
 refine d_q rfl (q_mv (mv)) rfl rfl rfl ?_
 refine d_q rfl (q_nil rfl) rfl rfl rfl ?_
 refine d_q rfl (q_fr fo124_1 rfl) rfl rfl rfl ?_
 refine d_q rfl (q_ldm ag121 sz121 rfl mm rfl (v_raw rfl)) rfl rfl rfl ?_
 refine d_q rfl (q_fr fo49_2 rfl) rfl rfl rfl ?_
 refine d_q rfl (q_ldm ag9 sz9 rfl mm rfl (v_raw rfl)) rfl rfl rfl ?_
 refine d_q rfl (q_mget2 und121 kt9 z142 rfl rfl mm (show _ = encSb ⟨emp, emp, 0, 0⟩ by rw [hn]; rfl)) rfl rfl rfl ?_
 refine d_q rfl (q_mv (v_tup rfl)) rfl rfl rfl ?_
 refine d_q rfl (q_ext rfl rfl (v_agg rfl)) rfl rfl rfl ?_
 refine d_q rfl (q_ext rfl rfl (v_raw rfl)) rfl rfl rfl ?_
 refine d_s rfl ?_
 refine o_alloc zc142 (fun B3 hB3 => ?_)
 have cbF3 : b ≠ B3 := Mem.fresh_ne hB3 mm
 have cbF3' := cbF3.symm
 have cms3 : ms ≠ B3 := Mem.fresh_ne hB3 mm
 have cms3' := cms3.symm
 have ct3 : t ≠ B3 := Mem.fresh_ne hB3 mm
 have ct3' := ct3.symm
 have cw3 : w ≠ B3 := Mem.fresh_ne hB3 mm
 have cw3' := cw3.symm
 have f1_3 : B1 ≠ B3 := Mem.fresh_ne hB3 mm
 have g3_1 : B3 ≠ B1 := f1_3.symm
 have f2_3 : B2 ≠ B3 := Mem.fresh_ne hB3 mm
 have g3_2 : B3 ≠ B2 := f2_3.symm
 have m3 : M B3 = none := by have h := hB3; repeat (first | exact h | exact Mem.none_of_le hle h | replace h := (Mem.upd_none h).2)
 refine o_nil ⟨(by simp [Mem.upd, *]), ?_⟩
 refine d_s rfl ?_
 refine o_storew rfl mm mf rfl sz142 rfl rfl rfl rfl ?_
 refine o_nil ⟨(by simp [Mem.upd, *]), ?_⟩
 refine d_q rfl (q_as (v_raw rfl)) rfl rfl rfl ?_
 refine d_nil ?_
 refine s_seq ?_
 refine s_region ?_
 refine o_q (q_mv (v_raw rfl)) rfl rfl rfl ?_
 refine o_nil ?_
 refine s_else rfl (by rw [hn]; rfl) ?_
 refine s_skip ?_
 refine s_seq ?_
 refine s_seq ?_
 refine s_region ?_
 refine o_q (q_mv (mv)) rfl rfl rfl ?_
 refine o_q (q_nil rfl) rfl rfl rfl ?_
 refine o_q (q_fr fo124_1 rfl) rfl rfl rfl ?_
 refine o_q (q_ldm ag121 sz121 rfl mm rfl (v_raw rfl)) rfl rfl rfl ?_
 refine o_q (q_lenm rfl und121 rfl mm) rfl rfl rfl ?_
 refine o_q (q_geq rfl rfl) rfl rfl rfl ?_
 refine o_nil ?_
 refine s_else rfl (decide_eq_false (by simp only [ents, List.length_map]; omega)) ?_
 refine s_skip ?_
 refine s_seq ?_
 refine s_region ?_
 refine o_q (q_fr fo49_2 rfl) rfl rfl rfl ?_
 refine o_q (q_ldm ag9 sz9 rfl mm rfl (v_raw rfl)) rfl rfl rfl ?_
 refine o_q (q_mv (mv)) rfl rfl rfl ?_
 refine o_q (q_fr fo49_6 rfl) rfl rfl rfl ?_
 refine o_q (q_ldm ag3 sz3 rfl mm rfl (v_raw rfl)) rfl rfl rfl ?_
 refine o_call (((snd175 c.name t w y c.n _ mm mm htw).det)) goes175 (ac (v_raw rfl) (ac (mv) (ac (v_raw rfl) ac_nil))) rfl ?_
 refine o_q (q_mv (v_tup rfl)) rfl rfl rfl ?_
 refine o_q (q_ext rfl rfl (v_agg rfl)) rfl rfl rfl ?_
 refine o_q (q_ext rfl rfl (v_raw rfl)) rfl rfl rfl ?_
 refine o_alloc zc142 (fun B4 hB4 => ?_)
 have cbF4 : b ≠ B4 := Mem.fresh_ne hB4 mm
 have cbF4' := cbF4.symm
 have cms4 : ms ≠ B4 := Mem.fresh_ne hB4 mm
 have cms4' := cms4.symm
 have ct4 : t ≠ B4 := Mem.fresh_ne hB4 mm
 have ct4' := ct4.symm
 have cw4 : w ≠ B4 := Mem.fresh_ne hB4 mm
 have cw4' := cw4.symm
 have f1_4 : B1 ≠ B4 := Mem.fresh_ne hB4 mm
 have g4_1 : B4 ≠ B1 := f1_4.symm
 have f2_4 : B2 ≠ B4 := Mem.fresh_ne hB4 mm
 have g4_2 : B4 ≠ B2 := f2_4.symm
 have f3_4 : B3 ≠ B4 := Mem.fresh_ne hB4 mm
 have g4_3 : B4 ≠ B3 := f3_4.symm
 have m4 : M B4 = none := by have h := hB4; repeat (first | exact h | exact Mem.none_of_le hle h | replace h := (Mem.upd_none h).2)
 refine o_storew rfl mm mf rfl sz142 rfl rfl rfl rfl ?_
 refine o_q (q_as (v_raw rfl)) rfl rfl rfl ?_
 refine o_nil ?_
 refine s_seq ?_
 refine s_seq ?_
 refine s_region ?_
 refine o_q (q_mv (v_raw rfl)) rfl rfl rfl ?_
 refine o_q (q_eql rfl rfl) rfl rfl rfl ?_
 refine o_nil ?_
 refine s_cond rfl (fun h1 => ?_) (fun h1 => ?_)
 ·have k1 := h1; try simp only [decide_eq_true_eq, decide_eq_false_iff_not, Bool.not_eq_true', Bool.not_eq_false', Bool.not_true, Bool.not_false, List.length_map, Decidable.not_not] at k1
  refine s_draw rfl ?_
  refine d_q rfl (q_mv (mv)) rfl rfl rfl ?_
  refine d_q rfl (q_nil rfl) rfl rfl rfl ?_
  refine d_q rfl (q_fr fo124_1 rfl) rfl rfl rfl ?_
  refine d_q rfl (q_ldm ag121 sz121 rfl mm rfl (v_raw rfl)) rfl rfl rfl ?_
  refine d_q rfl (q_fr fo49_2 rfl) rfl rfl rfl ?_
  refine d_q rfl (q_ldm ag9 sz9 rfl mm rfl (v_raw rfl)) rfl rfl rfl ?_
  refine d_q rfl (q_ldmw ag142 sz142 rfl mm rfl rfl) rfl rfl rfl ?_
  refine d_s rfl ?_
  refine o_mput und121 kt9 rfl rfl mm (f := encSb) (v := (newS c.name y c.n).1) (v_agg rfl) ?_
  refine o_nil ⟨(by simp [Mem.upd, *]), ?_⟩
  refine d_nil ?_
  refine s_seq ?_
  refine s_region ?_
  refine o_q (q_mv (v_raw rfl)) rfl rfl rfl ?_
  refine o_q (q_fr fo142_2 rfl) rfl rfl rfl ?_
  refine o_q (q_ldm ag3 sz3 rfl mm rfl (v_raw rfl)) rfl rfl rfl ?_
  refine o_call (((code61 ((newS c.name y c.n).2) ((newS c.name y c.n).1.cur) _))) goes69 (ac (v_raw rfl) (ac (v_raw rfl) ac_nil)) rfl ?_
  refine o_storew rfl mm mf rfl sz56 rfl rfl rfl rfl ?_
  refine o_nil ?_
  refine s_ret ?_
  refine s_end ?_
  exact ret_cell (.inl rfl) rfl rfl mm (loadP_w ag56 sz56 rfl rfl) ⟨rfl, (by rw [show (if (newS c.name y c.n).2 = 0 then kput x.sbs c.name (newS c.name y c.n).1 else x.sbs) = kput x.sbs c.name (newS c.name y c.n).1 from if_pos k1]; repeat first | exact Mem.upd_self _ _ _ | assumption | refine Mem.upd_ne (by assumption) ?_), (by intro d h1 h2; repeat (first | rfl | refine (upd_other (by first | assumption | exact mem_put (by assumption) h2)).trans ?_))⟩
 ·have k1 := h1; try simp only [decide_eq_true_eq, decide_eq_false_iff_not, Bool.not_eq_true', Bool.not_eq_false', Bool.not_true, Bool.not_false, List.length_map, Decidable.not_not] at k1
  refine s_skip ?_
  refine s_seq ?_
  refine s_region ?_
  refine o_q (q_mv (v_raw rfl)) rfl rfl rfl ?_
  refine o_q (q_fr fo142_2 rfl) rfl rfl rfl ?_
  refine o_q (q_ldm ag3 sz3 rfl mm rfl (v_raw rfl)) rfl rfl rfl ?_
  refine o_call (((code61 ((newS c.name y c.n).2) ((newS c.name y c.n).1.cur) _))) goes69 (ac (v_raw rfl) (ac (v_raw rfl) ac_nil)) rfl ?_
  refine o_storew rfl mm mf rfl sz56 rfl rfl rfl rfl ?_
  refine o_nil ?_
  refine s_ret ?_
  refine s_end ?_
  exact ret_cell (.inl rfl) rfl rfl mm (loadP_w ag56 sz56 rfl rfl) ⟨rfl, (by rw [show (if (newS c.name y c.n).2 = 0 then kput x.sbs c.name (newS c.name y c.n).1 else x.sbs) = x.sbs from if_neg k1]; repeat first | exact Mem.upd_self _ _ _ | assumption | refine Mem.upd_ne (by assumption) ?_), (by intro d h1 h2; repeat (first | rfl | refine (upd_other (by first | assumption | exact mem_put (by assumption) h2)).trans ?_))⟩

def tk119 : Nat → Nat → Option Nat := fun _ _ => none
def pl119 : Nat → List PStep
 | 1 => [.q 0, .q 1, .q 2, .q 3, .q 4, .q 5, .s 6 [0, 1, 2, 3, 4, 5], .q 7]
 | _ => []
theorem cb119 : Tryz.f119.body.map (codeB Tryz.prog Tryz.f119.ntmps tk119 pl119) = some true := by kernel_rfl
set_option maxHeartbeats 4000000 in
set_option maxRecDepth 20000 in
theorem snd119a (b mt ms : Nat) (x : Mc) (dir : List (ByteArray × Nat)) (c : Cmd) (M : Mem) (hb : M b = some (.cells (mcC mt ms x))) (hm : MapAt ptrV M mt dir) (hs : M ms = some (sbK x.sbs)) (hbs : b ≠ ms) (hg : gets dir c.topic = none) : SoundCall Tryz.prog 119 [ptr b, encC c] M fun r M' => r = rpV 5 0 [] false ∧ M.le M' := by
 have hbm : b ≠ mt := fun e => map_cells hm (by rw [← e]; exact hb)
 have hbm' := hbm.symm
 have hr : ∀ {B : Nat}, M B = none → mt ≠ B := fun h e => hm.some (by rw [← e] at h; exact h)
 refine SoundCall.go tk119 pl119 mixed Tryz.func119 cb119 rfl (Nat.le_of_ble_eq_true rfl) ?_
 refine s_seq ?_
 refine s_region ?_
 refine o_box (by first | exact e_raw rfl | exact e_agg rfl | exact e_sl rfl) rfl rfl (fun B1 hB1 => ?_)
 have cbF1 : b ≠ B1 := Mem.fresh_ne hB1 mm
 have cbF1' := cbF1.symm
 have cms1 : ms ≠ B1 := Mem.fresh_ne hB1 mm
 have cms1' := cms1.symm
 have m1 : M B1 = none := by have h := hB1; repeat (first | exact h | exact Mem.none_of_le hle h | replace h := (Mem.upd_none h).2)
 refine o_alloc zc56 (fun B2 hB2 => ?_)
 have cb2 : b ≠ B2 := Mem.fresh_ne hB2 mm
 have cb2' := cb2.symm
 have cms2 : ms ≠ B2 := Mem.fresh_ne hB2 mm
 have cms2' := cms2.symm
 have f1_2 : B1 ≠ B2 := Mem.fresh_ne hB2 mm
 have g2_1 : B2 ≠ B1 := f1_2.symm
 have m2 : M B2 = none := by have h := hB2; repeat (first | exact h | exact Mem.none_of_le hle h | replace h := (Mem.upd_none h).2)
 refine o_nil ?_
 refine s_seq ?_
 refine s_draw rfl ?_
 refine d_q rfl (q_mv (mv)) rfl rfl rfl ?_
 refine d_q rfl (q_nil rfl) rfl rfl rfl ?_
 refine d_q rfl (q_fr fo124_0 rfl) rfl rfl rfl ?_
 refine d_q rfl (q_ldm ag120 sz120 rfl mm rfl (v_raw rfl)) rfl rfl rfl ?_
 refine d_q rfl (q_fr fo49_1 rfl) rfl rfl rfl ?_
 refine d_q rfl (q_ldm ag9 sz9 rfl mm rfl (v_raw rfl)) rfl rfl rfl ?_
 refine d_s rfl ?_
 refine m_get (k := c.topic) und120 kt9 z24 rfl rfl (hm.keep (by repeat first | rfl | refine (upd_other (hr (by assumption))).trans ?_)) ?_
 rw [hg]
 refine o_nil ⟨(by simp [Mem.upd, *]), ?_⟩
 refine d_q rfl (q_as (mv)) rfl rfl rfl ?_
 refine d_nil ?_
 refine s_seq ?_
 refine s_block ?_
 refine s_seq ?_
 refine s_region ?_
 refine o_q (q_mv (mv)) rfl rfl rfl ?_
 refine o_q (q_peql und24 rfl rfl) rfl rfl rfl ?_
 refine o_q (q_as (v_raw rfl)) rfl rfl rfl ?_
 refine o_nil ?_
 refine s_then rfl rfl ?_
 refine s_seq ?_
 refine s_region ?_
 refine o_call (((code61 (5) (0) _))) goes69 (ac (v_raw rfl) (ac (v_raw rfl) ac_nil)) rfl ?_
 refine o_storew rfl mm mf rfl sz56 rfl rfl rfl rfl ?_
 refine o_nil ?_
 refine s_ret ?_
 refine s_blk_ret ?_
 refine s_code_ret ?_
 refine s_end ?_
 exact ret_cell (.inl rfl) rfl rfl mm (loadP_w ag56 sz56 rfl rfl) ⟨rfl, (by repeat first | exact hle | exact Mem.le_refl M | assumption | exact Mem.none_of_le hle (by assumption) | refine Mem.le_upd ?_ ?_)⟩

set_option maxHeartbeats 4000000 in
set_option maxRecDepth 20000 in
theorem snd119p (b mt ms : Nat) (x : Mc) (dir : List (ByteArray × Nat)) (c : Cmd) (M : Mem) (hb : M b = some (.cells (mcC mt ms x))) (hm : MapAt ptrV M mt dir) (hs : M ms = some (sbK x.sbs)) (hbs : b ≠ ms) (t w : Nat) (y : Tp) (hg : gets dir c.topic = some t) (ht : M t = some (.cells (tpC w y))) (hw : M w = some (tpK y)) (htw : t ≠ w) (hen : 0 ≤ y.en ∧ y.en < 2 ^ 62) (hlen : y.recs.length < 2 ^ 40) (hso : Sorted y.recs) (hk : c.kind = 2) : SoundCall Tryz.prog 119 [ptr b, encC c] M fun r M' => r = rpV (pub y c.name c.seq c.key c.val).2.2 (if (pub y c.name c.seq c.key c.val).2.2 = 0 then (pub y c.name c.seq c.key c.val).2.1 else 0) [] false ∧ M' t = some (.cells (tpC w (pub y c.name c.seq c.key c.val).1)) ∧ M' w = some (tpK (pub y c.name c.seq c.key c.val).1) ∧ ∀ d, d ≠ t → d ≠ w → M d ≠ none → M' d = M d := by
 have hbm : b ≠ mt := fun e => map_cells hm (by rw [← e]; exact hb)
 have hbm' := hbm.symm
 have hr : ∀ {B : Nat}, M B = none → mt ≠ B := fun h e => hm.some (by rw [← e] at h; exact h)
 have htw' := htw.symm
 have hbt : b ≠ t := fun e => by rw [← e, hb] at ht; cases ht
 have hbt' := hbt.symm
 have hbw : b ≠ w := fun e => by rw [← e, hb] at hw; cases hw
 have hbw' := hbw.symm
 have hst : ms ≠ t := fun e => by rw [← e, hs] at ht; cases ht
 have hst' := hst.symm
 have hbs' := hbs.symm
 have hmt : mt ≠ t := fun e => map_cells hm (by rw [e]; exact ht)
 have hmt' := hmt.symm
 refine SoundCall.go tk119 pl119 mixed Tryz.func119 cb119 rfl (Nat.le_of_ble_eq_true rfl) ?_
 refine s_seq ?_
 refine s_region ?_
 refine o_box (by first | exact e_raw rfl | exact e_agg rfl | exact e_sl rfl) rfl rfl (fun B1 hB1 => ?_)
 have cbF1 : b ≠ B1 := Mem.fresh_ne hB1 (by (try unfold setTp); repeat first | exact Mem.upd_self _ _ _ | assumption | refine Mem.upd_ne (by first | assumption | exact Ne.symm (by assumption)) ?_)
 have cbF1' := cbF1.symm
 have cms1 : ms ≠ B1 := Mem.fresh_ne hB1 (by (try unfold setTp); repeat first | exact Mem.upd_self _ _ _ | assumption | refine Mem.upd_ne (by first | assumption | exact Ne.symm (by assumption)) ?_)
 have cms1' := cms1.symm
 have ct1 : t ≠ B1 := Mem.fresh_ne hB1 (by (try unfold setTp); repeat first | exact Mem.upd_self _ _ _ | assumption | refine Mem.upd_ne (by first | assumption | exact Ne.symm (by assumption)) ?_)
 have ct1' := ct1.symm
 have cw1 : w ≠ B1 := Mem.fresh_ne hB1 (by (try unfold setTp); repeat first | exact Mem.upd_self _ _ _ | assumption | refine Mem.upd_ne (by first | assumption | exact Ne.symm (by assumption)) ?_)
 have cw1' := cw1.symm
 have m1 : M B1 = none := by have h := hB1; repeat (first | exact h | exact Mem.none_of_le hle h | replace h := (Mem.upd_none h).2)
 refine o_alloc zc56 (fun B2 hB2 => ?_)
 have cb2 : b ≠ B2 := Mem.fresh_ne hB2 (by (try unfold setTp); repeat first | exact Mem.upd_self _ _ _ | assumption | refine Mem.upd_ne (by first | assumption | exact Ne.symm (by assumption)) ?_)
 have cb2' := cb2.symm
 have cms2 : ms ≠ B2 := Mem.fresh_ne hB2 (by (try unfold setTp); repeat first | exact Mem.upd_self _ _ _ | assumption | refine Mem.upd_ne (by first | assumption | exact Ne.symm (by assumption)) ?_)
 have cms2' := cms2.symm
 have ct2 : t ≠ B2 := Mem.fresh_ne hB2 (by (try unfold setTp); repeat first | exact Mem.upd_self _ _ _ | assumption | refine Mem.upd_ne (by first | assumption | exact Ne.symm (by assumption)) ?_)
 have ct2' := ct2.symm
 have cw2 : w ≠ B2 := Mem.fresh_ne hB2 (by (try unfold setTp); repeat first | exact Mem.upd_self _ _ _ | assumption | refine Mem.upd_ne (by first | assumption | exact Ne.symm (by assumption)) ?_)
 have cw2' := cw2.symm
 have f1_2 : B1 ≠ B2 := Mem.fresh_ne hB2 (by (try unfold setTp); repeat first | exact Mem.upd_self _ _ _ | assumption | refine Mem.upd_ne (by first | assumption | exact Ne.symm (by assumption)) ?_)
 have g2_1 : B2 ≠ B1 := f1_2.symm
 have m2 : M B2 = none := by have h := hB2; repeat (first | exact h | exact Mem.none_of_le hle h | replace h := (Mem.upd_none h).2)
 refine o_nil ?_
 refine s_seq ?_
 refine s_draw rfl ?_
 refine d_q rfl (q_mv (mv)) rfl rfl rfl ?_
 refine d_q rfl (q_nil rfl) rfl rfl rfl ?_
 refine d_q rfl (q_fr fo124_0 rfl) rfl rfl rfl ?_
 refine d_q rfl (q_ldm ag120 sz120 rfl (by (try unfold setTp); repeat first | exact Mem.upd_self _ _ _ | assumption | refine Mem.upd_ne (by first | assumption | exact Ne.symm (by assumption)) ?_) rfl (v_raw rfl)) rfl rfl rfl ?_
 refine d_q rfl (q_fr fo49_1 rfl) rfl rfl rfl ?_
 refine d_q rfl (q_ldm ag9 sz9 rfl (by (try unfold setTp); repeat first | exact Mem.upd_self _ _ _ | assumption | refine Mem.upd_ne (by first | assumption | exact Ne.symm (by assumption)) ?_) rfl (v_raw rfl)) rfl rfl rfl ?_
 refine d_s rfl ?_
 refine m_get (k := c.topic) und120 kt9 z24 rfl rfl (hm.keep (by repeat first | rfl | refine (upd_other (hr (by assumption))).trans ?_)) ?_
 rw [hg]
 refine o_nil ⟨(by simp [setTp, Mem.upd, *]), ?_⟩
 refine d_q rfl (q_as (mv)) rfl rfl rfl ?_
 refine d_nil ?_
 refine s_seq ?_
 refine s_block ?_
 refine s_seq ?_
 refine s_region ?_
 refine o_q (q_mv (mv)) rfl rfl rfl ?_
 refine o_q (q_peql und24 rfl rfl) rfl rfl rfl ?_
 refine o_q (q_as (v_raw rfl)) rfl rfl rfl ?_
 refine o_nil ?_
 refine s_else rfl rfl ?_
 refine s_seq ?_
 refine s_region ?_
 refine o_q (q_fr fo49_0 rfl) rfl rfl rfl ?_
 refine o_q (q_ldm ag3 sz3 rfl (by (try unfold setTp); repeat first | exact Mem.upd_self _ _ _ | assumption | refine Mem.upd_ne (by first | assumption | exact Ne.symm (by assumption)) ?_) rfl (v_raw rfl)) rfl rfl rfl ?_
 refine o_q (q_eql rfl rfl) rfl rfl rfl ?_
 refine o_q (q_as (v_raw rfl)) rfl rfl rfl ?_
 refine o_nil ?_
 refine s_then rfl (decide_eq_true hk) ?_
 refine s_seq ?_
 refine s_region ?_
 refine o_q (q_mv (mv)) rfl rfl rfl ?_
 refine o_q (q_fr fo49_2 rfl) rfl rfl rfl ?_
 refine o_q (q_ldm ag9 sz9 rfl (by (try unfold setTp); repeat first | exact Mem.upd_self _ _ _ | assumption | refine Mem.upd_ne (by first | assumption | exact Ne.symm (by assumption)) ?_) rfl (v_raw rfl)) rfl rfl rfl ?_
 refine o_q (q_fr fo49_3 rfl) rfl rfl rfl ?_
 refine o_q (q_ldm ag3 sz3 rfl (by (try unfold setTp); repeat first | exact Mem.upd_self _ _ _ | assumption | refine Mem.upd_ne (by first | assumption | exact Ne.symm (by assumption)) ?_) rfl (v_raw rfl)) rfl rfl rfl ?_
 refine o_q (q_fr fo49_4 rfl) rfl rfl rfl ?_
 refine o_q (q_ldm ag9 sz9 rfl (by (try unfold setTp); repeat first | exact Mem.upd_self _ _ _ | assumption | refine Mem.upd_ne (by first | assumption | exact Ne.symm (by assumption)) ?_) rfl (v_raw rfl)) rfl rfl rfl ?_
 refine o_q (q_fr fo49_5 rfl) rfl rfl rfl ?_
 refine o_q (q_ldm ag9 sz9 rfl (by (try unfold setTp); repeat first | exact Mem.upd_self _ _ _ | assumption | refine Mem.upd_ne (by first | assumption | exact Ne.symm (by assumption)) ?_) rfl (v_raw rfl)) rfl rfl rfl ?_
 refine o_callx ((pub14 t w y c.name c.seq c.key c.val _ (by (try unfold setTp); repeat first | exact Mem.upd_self _ _ _ | assumption | refine Mem.upd_ne (by first | assumption | exact Ne.symm (by assumption)) ?_) (by (try unfold setTp); repeat first | exact Mem.upd_self _ _ _ | assumption | refine Mem.upd_ne (by first | assumption | exact Ne.symm (by assumption)) ?_) htw hen hlen)) goes12 (ac (mv) (ac (v_raw rfl) (ac (v_raw rfl) (ac (v_raw rfl) (ac (v_raw rfl) ac_nil))))) rfl ?_
 rintro r M' ⟨rfl, rfl⟩
 refine o_q (q_mv (v_tup rfl)) rfl rfl rfl ?_
 refine o_q (q_ext rfl rfl (v_raw rfl)) rfl rfl rfl ?_
 refine o_q (q_ext rfl rfl (v_raw rfl)) rfl rfl rfl ?_
 refine o_q (q_as (v_raw rfl)) rfl rfl rfl ?_
 refine o_q (q_as (v_raw rfl)) rfl rfl rfl ?_
 refine o_nil ?_
 refine s_seq ?_
 refine s_region ?_
 refine o_q (q_mv (v_raw rfl)) rfl rfl rfl ?_
 refine o_q (q_mv (v_raw rfl)) rfl rfl rfl ?_
 refine o_call (((code61 ((pub y c.name c.seq c.key c.val).2.2) ((pub y c.name c.seq c.key c.val).2.1) _))) goes69 (ac (v_raw rfl) (ac (v_raw rfl) ac_nil)) rfl ?_
 refine o_storew rfl (by (try unfold setTp); repeat first | exact Mem.upd_self _ _ _ | assumption | refine Mem.upd_ne (by first | assumption | exact Ne.symm (by assumption)) ?_) mf rfl sz56 rfl rfl rfl rfl ?_
 refine o_nil ?_
 refine s_ret ?_
 refine s_blk_ret ?_
 refine s_code_ret ?_
 refine s_end ?_
 exact ret_cell (.inl rfl) rfl rfl (by (try unfold setTp); repeat first | exact Mem.upd_self _ _ _ | assumption | refine Mem.upd_ne (by first | assumption | exact Ne.symm (by assumption)) ?_) (loadP_w ag56 sz56 rfl rfl) ⟨rfl, (by (try unfold setTp); repeat first | exact Mem.upd_self _ _ _ | assumption | refine Mem.upd_ne (by first | assumption | exact Ne.symm (by assumption)) ?_), (by (try unfold setTp); repeat first | exact Mem.upd_self _ _ _ | assumption | refine Mem.upd_ne (by first | assumption | exact Ne.symm (by assumption)) ?_), (by intro d h1 h3 h2; unfold setTp; repeat (first | rfl | refine (upd_other (by first | assumption | exact mem_put (by assumption) h2)).trans ?_))⟩

set_option maxHeartbeats 4000000 in
set_option maxRecDepth 20000 in
theorem snd119t (b mt ms : Nat) (x : Mc) (dir : List (ByteArray × Nat)) (c : Cmd) (M : Mem) (hb : M b = some (.cells (mcC mt ms x))) (hm : MapAt ptrV M mt dir) (hs : M ms = some (sbK x.sbs)) (hbs : b ≠ ms) (t w : Nat) (y : Tp) (hg : gets dir c.topic = some t) (ht : M t = some (.cells (tpC w y))) (hw : M w = some (tpK y)) (htw : t ≠ w) (hen : 0 ≤ y.en ∧ y.en < 2 ^ 62) (hlen : y.recs.length < 2 ^ 40) (hso : Sorted y.recs) (hk : c.kind = 8) : SoundCall Tryz.prog 119 [ptr b, encC c] M fun r M' => r = rpV (trimT y c.n).2 (if (trimT y c.n).2 = 0 then (trimT y c.n).1.low else 0) [] false ∧ M' t = some (.cells (tpC w (trimT y c.n).1)) ∧ M' w = some (tpK (trimT y c.n).1) ∧ ∀ d, d ≠ t → d ≠ w → M d ≠ none → M' d = M d := by
 have hbm : b ≠ mt := fun e => map_cells hm (by rw [← e]; exact hb)
 have hbm' := hbm.symm
 have hr : ∀ {B : Nat}, M B = none → mt ≠ B := fun h e => hm.some (by rw [← e] at h; exact h)
 have htw' := htw.symm
 have hbt : b ≠ t := fun e => by rw [← e, hb] at ht; cases ht
 have hbt' := hbt.symm
 have hbw : b ≠ w := fun e => by rw [← e, hb] at hw; cases hw
 have hbw' := hbw.symm
 have hst : ms ≠ t := fun e => by rw [← e, hs] at ht; cases ht
 have hst' := hst.symm
 have hbs' := hbs.symm
 have hmt : mt ≠ t := fun e => map_cells hm (by rw [e]; exact ht)
 have hmt' := hmt.symm
 refine SoundCall.go tk119 pl119 mixed Tryz.func119 cb119 rfl (Nat.le_of_ble_eq_true rfl) ?_
 refine s_seq ?_
 refine s_region ?_
 refine o_box (by first | exact e_raw rfl | exact e_agg rfl | exact e_sl rfl) rfl rfl (fun B1 hB1 => ?_)
 have cbF1 : b ≠ B1 := Mem.fresh_ne hB1 (by (try unfold setTp); repeat first | exact Mem.upd_self _ _ _ | assumption | refine Mem.upd_ne (by first | assumption | exact Ne.symm (by assumption)) ?_)
 have cbF1' := cbF1.symm
 have cms1 : ms ≠ B1 := Mem.fresh_ne hB1 (by (try unfold setTp); repeat first | exact Mem.upd_self _ _ _ | assumption | refine Mem.upd_ne (by first | assumption | exact Ne.symm (by assumption)) ?_)
 have cms1' := cms1.symm
 have ct1 : t ≠ B1 := Mem.fresh_ne hB1 (by (try unfold setTp); repeat first | exact Mem.upd_self _ _ _ | assumption | refine Mem.upd_ne (by first | assumption | exact Ne.symm (by assumption)) ?_)
 have ct1' := ct1.symm
 have cw1 : w ≠ B1 := Mem.fresh_ne hB1 (by (try unfold setTp); repeat first | exact Mem.upd_self _ _ _ | assumption | refine Mem.upd_ne (by first | assumption | exact Ne.symm (by assumption)) ?_)
 have cw1' := cw1.symm
 have m1 : M B1 = none := by have h := hB1; repeat (first | exact h | exact Mem.none_of_le hle h | replace h := (Mem.upd_none h).2)
 refine o_alloc zc56 (fun B2 hB2 => ?_)
 have cb2 : b ≠ B2 := Mem.fresh_ne hB2 (by (try unfold setTp); repeat first | exact Mem.upd_self _ _ _ | assumption | refine Mem.upd_ne (by first | assumption | exact Ne.symm (by assumption)) ?_)
 have cb2' := cb2.symm
 have cms2 : ms ≠ B2 := Mem.fresh_ne hB2 (by (try unfold setTp); repeat first | exact Mem.upd_self _ _ _ | assumption | refine Mem.upd_ne (by first | assumption | exact Ne.symm (by assumption)) ?_)
 have cms2' := cms2.symm
 have ct2 : t ≠ B2 := Mem.fresh_ne hB2 (by (try unfold setTp); repeat first | exact Mem.upd_self _ _ _ | assumption | refine Mem.upd_ne (by first | assumption | exact Ne.symm (by assumption)) ?_)
 have ct2' := ct2.symm
 have cw2 : w ≠ B2 := Mem.fresh_ne hB2 (by (try unfold setTp); repeat first | exact Mem.upd_self _ _ _ | assumption | refine Mem.upd_ne (by first | assumption | exact Ne.symm (by assumption)) ?_)
 have cw2' := cw2.symm
 have f1_2 : B1 ≠ B2 := Mem.fresh_ne hB2 (by (try unfold setTp); repeat first | exact Mem.upd_self _ _ _ | assumption | refine Mem.upd_ne (by first | assumption | exact Ne.symm (by assumption)) ?_)
 have g2_1 : B2 ≠ B1 := f1_2.symm
 have m2 : M B2 = none := by have h := hB2; repeat (first | exact h | exact Mem.none_of_le hle h | replace h := (Mem.upd_none h).2)
 refine o_nil ?_
 refine s_seq ?_
 refine s_draw rfl ?_
 refine d_q rfl (q_mv (mv)) rfl rfl rfl ?_
 refine d_q rfl (q_nil rfl) rfl rfl rfl ?_
 refine d_q rfl (q_fr fo124_0 rfl) rfl rfl rfl ?_
 refine d_q rfl (q_ldm ag120 sz120 rfl (by (try unfold setTp); repeat first | exact Mem.upd_self _ _ _ | assumption | refine Mem.upd_ne (by first | assumption | exact Ne.symm (by assumption)) ?_) rfl (v_raw rfl)) rfl rfl rfl ?_
 refine d_q rfl (q_fr fo49_1 rfl) rfl rfl rfl ?_
 refine d_q rfl (q_ldm ag9 sz9 rfl (by (try unfold setTp); repeat first | exact Mem.upd_self _ _ _ | assumption | refine Mem.upd_ne (by first | assumption | exact Ne.symm (by assumption)) ?_) rfl (v_raw rfl)) rfl rfl rfl ?_
 refine d_s rfl ?_
 refine m_get (k := c.topic) und120 kt9 z24 rfl rfl (hm.keep (by repeat first | rfl | refine (upd_other (hr (by assumption))).trans ?_)) ?_
 rw [hg]
 refine o_nil ⟨(by simp [setTp, Mem.upd, *]), ?_⟩
 refine d_q rfl (q_as (mv)) rfl rfl rfl ?_
 refine d_nil ?_
 refine s_seq ?_
 refine s_block ?_
 refine s_seq ?_
 refine s_region ?_
 refine o_q (q_mv (mv)) rfl rfl rfl ?_
 refine o_q (q_peql und24 rfl rfl) rfl rfl rfl ?_
 refine o_q (q_as (v_raw rfl)) rfl rfl rfl ?_
 refine o_nil ?_
 refine s_else rfl rfl ?_
 refine s_seq ?_
 refine s_region ?_
 refine o_q (q_fr fo49_0 rfl) rfl rfl rfl ?_
 refine o_q (q_ldm ag3 sz3 rfl (by (try unfold setTp); repeat first | exact Mem.upd_self _ _ _ | assumption | refine Mem.upd_ne (by first | assumption | exact Ne.symm (by assumption)) ?_) rfl (v_raw rfl)) rfl rfl rfl ?_
 refine o_q (q_eql rfl rfl) rfl rfl rfl ?_
 refine o_q (q_as (v_raw rfl)) rfl rfl rfl ?_
 refine o_nil ?_
 refine s_else rfl (decide_eq_false (by omega)) ?_
 refine s_seq ?_
 refine s_region ?_
 refine o_q (q_fr fo49_0 rfl) rfl rfl rfl ?_
 refine o_q (q_ldm ag3 sz3 rfl (by (try unfold setTp); repeat first | exact Mem.upd_self _ _ _ | assumption | refine Mem.upd_ne (by first | assumption | exact Ne.symm (by assumption)) ?_) rfl (v_raw rfl)) rfl rfl rfl ?_
 refine o_q (q_eql rfl rfl) rfl rfl rfl ?_
 refine o_q (q_as (v_raw rfl)) rfl rfl rfl ?_
 refine o_nil ?_
 refine s_then rfl (decide_eq_true hk) ?_
 refine s_seq ?_
 refine s_region ?_
 refine o_q (q_mv (mv)) rfl rfl rfl ?_
 refine o_q (q_fr fo49_6 rfl) rfl rfl rfl ?_
 refine o_q (q_ldm ag3 sz3 rfl (by (try unfold setTp); repeat first | exact Mem.upd_self _ _ _ | assumption | refine Mem.upd_ne (by first | assumption | exact Ne.symm (by assumption)) ?_) rfl (v_raw rfl)) rfl rfl rfl ?_
 refine o_callx (((snd17 t w y c.n _ (by (try unfold setTp); repeat first | exact Mem.upd_self _ _ _ | assumption | refine Mem.upd_ne (by first | assumption | exact Ne.symm (by assumption)) ?_) (by (try unfold setTp); repeat first | exact Mem.upd_self _ _ _ | assumption | refine Mem.upd_ne (by first | assumption | exact Ne.symm (by assumption)) ?_) htw hso hlen).leaves)) goes17 (ac (mv) (ac (v_raw rfl) ac_nil)) rfl ?_
 rintro r M' ⟨rfl, rfl⟩
 refine o_q (q_as (v_raw rfl)) rfl rfl rfl ?_
 refine o_nil ?_
 refine s_seq ?_
 refine s_region ?_
 refine o_q (q_mv (v_raw rfl)) rfl rfl rfl ?_
 refine o_q (q_mv (mv)) rfl rfl rfl ?_
 refine o_call (((snd25 t w (trimT y c.n).1 _ (by (try unfold setTp); repeat first | exact Mem.upd_self _ _ _ | assumption | refine Mem.upd_ne (by first | assumption | exact Ne.symm (by assumption)) ?_) (by (try unfold setTp); repeat first | exact Mem.upd_self _ _ _ | assumption | refine Mem.upd_ne (by first | assumption | exact Ne.symm (by assumption)) ?_) htw).det)) goes25 (ac (mv) ac_nil) rfl ?_
 refine o_call (((code61 ((trimT y c.n).2) ((trimT y c.n).1.low) _))) goes69 (ac (v_raw rfl) (ac (v_raw rfl) ac_nil)) rfl ?_
 refine o_storew rfl (by (try unfold setTp); repeat first | exact Mem.upd_self _ _ _ | assumption | refine Mem.upd_ne (by first | assumption | exact Ne.symm (by assumption)) ?_) mf rfl sz56 rfl rfl rfl rfl ?_
 refine o_nil ?_
 refine s_ret ?_
 refine s_blk_ret ?_
 refine s_code_ret ?_
 refine s_end ?_
 exact ret_cell (.inl rfl) rfl rfl (by (try unfold setTp); repeat first | exact Mem.upd_self _ _ _ | assumption | refine Mem.upd_ne (by first | assumption | exact Ne.symm (by assumption)) ?_) (loadP_w ag56 sz56 rfl rfl) ⟨rfl, (by (try unfold setTp); repeat first | exact Mem.upd_self _ _ _ | assumption | refine Mem.upd_ne (by first | assumption | exact Ne.symm (by assumption)) ?_), (by (try unfold setTp); repeat first | exact Mem.upd_self _ _ _ | assumption | refine Mem.upd_ne (by first | assumption | exact Ne.symm (by assumption)) ?_), (by intro d h1 h3 h2; unfold setTp; repeat (first | rfl | refine (upd_other (by first | assumption | exact mem_put (by assumption) h2)).trans ?_))⟩

set_option maxHeartbeats 4000000 in
set_option maxRecDepth 20000 in
theorem snd119c (b mt ms : Nat) (x : Mc) (dir : List (ByteArray × Nat)) (c : Cmd) (M : Mem) (hb : M b = some (.cells (mcC mt ms x))) (hm : MapAt ptrV M mt dir) (hs : M ms = some (sbK x.sbs)) (hbs : b ≠ ms) (t w : Nat) (y : Tp) (hg : gets dir c.topic = some t) (ht : M t = some (.cells (tpC w y))) (hw : M w = some (tpK y)) (htw : t ≠ w) (hen : 0 ≤ y.en ∧ y.en < 2 ^ 62) (hlen : y.recs.length < 2 ^ 40) (hso : Sorted y.recs) (hk : c.kind = 9) : SoundCall Tryz.prog 119 [ptr b, encC c] M fun r M' => r = rpV 0 (if 0 = 0 then (compT y c.n).low else 0) [] false ∧ M' t = some (.cells (tpC w (compT y c.n))) ∧ M' w = some (tpK (compT y c.n)) ∧ ∀ d, d ≠ t → d ≠ w → M d ≠ none → M' d = M d := by
 have hbm : b ≠ mt := fun e => map_cells hm (by rw [← e]; exact hb)
 have hbm' := hbm.symm
 have hr : ∀ {B : Nat}, M B = none → mt ≠ B := fun h e => hm.some (by rw [← e] at h; exact h)
 have htw' := htw.symm
 have hbt : b ≠ t := fun e => by rw [← e, hb] at ht; cases ht
 have hbt' := hbt.symm
 have hbw : b ≠ w := fun e => by rw [← e, hb] at hw; cases hw
 have hbw' := hbw.symm
 have hst : ms ≠ t := fun e => by rw [← e, hs] at ht; cases ht
 have hst' := hst.symm
 have hbs' := hbs.symm
 have hmt : mt ≠ t := fun e => map_cells hm (by rw [e]; exact ht)
 have hmt' := hmt.symm
 refine SoundCall.go tk119 pl119 mixed Tryz.func119 cb119 rfl (Nat.le_of_ble_eq_true rfl) ?_
 refine s_seq ?_
 refine s_region ?_
 refine o_box (by first | exact e_raw rfl | exact e_agg rfl | exact e_sl rfl) rfl rfl (fun B1 hB1 => ?_)
 have cbF1 : b ≠ B1 := Mem.fresh_ne hB1 (by (try unfold setTp); repeat first | exact Mem.upd_self _ _ _ | assumption | refine Mem.upd_ne (by first | assumption | exact Ne.symm (by assumption)) ?_)
 have cbF1' := cbF1.symm
 have cms1 : ms ≠ B1 := Mem.fresh_ne hB1 (by (try unfold setTp); repeat first | exact Mem.upd_self _ _ _ | assumption | refine Mem.upd_ne (by first | assumption | exact Ne.symm (by assumption)) ?_)
 have cms1' := cms1.symm
 have ct1 : t ≠ B1 := Mem.fresh_ne hB1 (by (try unfold setTp); repeat first | exact Mem.upd_self _ _ _ | assumption | refine Mem.upd_ne (by first | assumption | exact Ne.symm (by assumption)) ?_)
 have ct1' := ct1.symm
 have cw1 : w ≠ B1 := Mem.fresh_ne hB1 (by (try unfold setTp); repeat first | exact Mem.upd_self _ _ _ | assumption | refine Mem.upd_ne (by first | assumption | exact Ne.symm (by assumption)) ?_)
 have cw1' := cw1.symm
 have m1 : M B1 = none := by have h := hB1; repeat (first | exact h | exact Mem.none_of_le hle h | replace h := (Mem.upd_none h).2)
 refine o_alloc zc56 (fun B2 hB2 => ?_)
 have cb2 : b ≠ B2 := Mem.fresh_ne hB2 (by (try unfold setTp); repeat first | exact Mem.upd_self _ _ _ | assumption | refine Mem.upd_ne (by first | assumption | exact Ne.symm (by assumption)) ?_)
 have cb2' := cb2.symm
 have cms2 : ms ≠ B2 := Mem.fresh_ne hB2 (by (try unfold setTp); repeat first | exact Mem.upd_self _ _ _ | assumption | refine Mem.upd_ne (by first | assumption | exact Ne.symm (by assumption)) ?_)
 have cms2' := cms2.symm
 have ct2 : t ≠ B2 := Mem.fresh_ne hB2 (by (try unfold setTp); repeat first | exact Mem.upd_self _ _ _ | assumption | refine Mem.upd_ne (by first | assumption | exact Ne.symm (by assumption)) ?_)
 have ct2' := ct2.symm
 have cw2 : w ≠ B2 := Mem.fresh_ne hB2 (by (try unfold setTp); repeat first | exact Mem.upd_self _ _ _ | assumption | refine Mem.upd_ne (by first | assumption | exact Ne.symm (by assumption)) ?_)
 have cw2' := cw2.symm
 have f1_2 : B1 ≠ B2 := Mem.fresh_ne hB2 (by (try unfold setTp); repeat first | exact Mem.upd_self _ _ _ | assumption | refine Mem.upd_ne (by first | assumption | exact Ne.symm (by assumption)) ?_)
 have g2_1 : B2 ≠ B1 := f1_2.symm
 have m2 : M B2 = none := by have h := hB2; repeat (first | exact h | exact Mem.none_of_le hle h | replace h := (Mem.upd_none h).2)
 refine o_nil ?_
 refine s_seq ?_
 refine s_draw rfl ?_
 refine d_q rfl (q_mv (mv)) rfl rfl rfl ?_
 refine d_q rfl (q_nil rfl) rfl rfl rfl ?_
 refine d_q rfl (q_fr fo124_0 rfl) rfl rfl rfl ?_
 refine d_q rfl (q_ldm ag120 sz120 rfl (by (try unfold setTp); repeat first | exact Mem.upd_self _ _ _ | assumption | refine Mem.upd_ne (by first | assumption | exact Ne.symm (by assumption)) ?_) rfl (v_raw rfl)) rfl rfl rfl ?_
 refine d_q rfl (q_fr fo49_1 rfl) rfl rfl rfl ?_
 refine d_q rfl (q_ldm ag9 sz9 rfl (by (try unfold setTp); repeat first | exact Mem.upd_self _ _ _ | assumption | refine Mem.upd_ne (by first | assumption | exact Ne.symm (by assumption)) ?_) rfl (v_raw rfl)) rfl rfl rfl ?_
 refine d_s rfl ?_
 refine m_get (k := c.topic) und120 kt9 z24 rfl rfl (hm.keep (by repeat first | rfl | refine (upd_other (hr (by assumption))).trans ?_)) ?_
 rw [hg]
 refine o_nil ⟨(by simp [setTp, Mem.upd, *]), ?_⟩
 refine d_q rfl (q_as (mv)) rfl rfl rfl ?_
 refine d_nil ?_
 refine s_seq ?_
 refine s_block ?_
 refine s_seq ?_
 refine s_region ?_
 refine o_q (q_mv (mv)) rfl rfl rfl ?_
 refine o_q (q_peql und24 rfl rfl) rfl rfl rfl ?_
 refine o_q (q_as (v_raw rfl)) rfl rfl rfl ?_
 refine o_nil ?_
 refine s_else rfl rfl ?_
 refine s_seq ?_
 refine s_region ?_
 refine o_q (q_fr fo49_0 rfl) rfl rfl rfl ?_
 refine o_q (q_ldm ag3 sz3 rfl (by (try unfold setTp); repeat first | exact Mem.upd_self _ _ _ | assumption | refine Mem.upd_ne (by first | assumption | exact Ne.symm (by assumption)) ?_) rfl (v_raw rfl)) rfl rfl rfl ?_
 refine o_q (q_eql rfl rfl) rfl rfl rfl ?_
 refine o_q (q_as (v_raw rfl)) rfl rfl rfl ?_
 refine o_nil ?_
 refine s_else rfl (decide_eq_false (by omega)) ?_
 refine s_seq ?_
 refine s_region ?_
 refine o_q (q_fr fo49_0 rfl) rfl rfl rfl ?_
 refine o_q (q_ldm ag3 sz3 rfl (by (try unfold setTp); repeat first | exact Mem.upd_self _ _ _ | assumption | refine Mem.upd_ne (by first | assumption | exact Ne.symm (by assumption)) ?_) rfl (v_raw rfl)) rfl rfl rfl ?_
 refine o_q (q_eql rfl rfl) rfl rfl rfl ?_
 refine o_q (q_as (v_raw rfl)) rfl rfl rfl ?_
 refine o_nil ?_
 refine s_else rfl (decide_eq_false (by omega)) ?_
 refine s_skip ?_
 refine s_blk_normal ?_
 refine s_seq ?_
 refine s_region ?_
 refine o_q (q_mv (mv)) rfl rfl rfl ?_
 refine o_q (q_fr fo49_6 rfl) rfl rfl rfl ?_
 refine o_q (q_ldm ag3 sz3 rfl (by (try unfold setTp); repeat first | exact Mem.upd_self _ _ _ | assumption | refine Mem.upd_ne (by first | assumption | exact Ne.symm (by assumption)) ?_) rfl (v_raw rfl)) rfl rfl rfl ?_
 refine o_callx (((snd19 t w y c.n _ (by (try unfold setTp); repeat first | exact Mem.upd_self _ _ _ | assumption | refine Mem.upd_ne (by first | assumption | exact Ne.symm (by assumption)) ?_) (by (try unfold setTp); repeat first | exact Mem.upd_self _ _ _ | assumption | refine Mem.upd_ne (by first | assumption | exact Ne.symm (by assumption)) ?_) htw hlen).leaves)) goes19 (ac (mv) (ac (v_raw rfl) ac_nil)) rfl ?_
 rintro r M' ⟨rfl, rfl⟩
 refine o_q (q_as (v_raw rfl)) rfl rfl rfl ?_
 refine o_nil ?_
 refine s_seq ?_
 refine s_region ?_
 refine o_q (q_mv (v_raw rfl)) rfl rfl rfl ?_
 refine o_q (q_mv (mv)) rfl rfl rfl ?_
 refine o_call (((snd25 t w (compT y c.n) _ (by (try unfold setTp); repeat first | exact Mem.upd_self _ _ _ | assumption | refine Mem.upd_ne (by first | assumption | exact Ne.symm (by assumption)) ?_) (by (try unfold setTp); repeat first | exact Mem.upd_self _ _ _ | assumption | refine Mem.upd_ne (by first | assumption | exact Ne.symm (by assumption)) ?_) htw).det)) goes25 (ac (mv) ac_nil) rfl ?_
 refine o_call (((code61 (0) ((compT y c.n).low) _))) goes69 (ac (v_raw rfl) (ac (v_raw rfl) ac_nil)) rfl ?_
 refine o_storew rfl (by (try unfold setTp); repeat first | exact Mem.upd_self _ _ _ | assumption | refine Mem.upd_ne (by first | assumption | exact Ne.symm (by assumption)) ?_) mf rfl sz56 rfl rfl rfl rfl ?_
 refine o_nil ?_
 refine s_ret ?_
 refine s_end ?_
 exact ret_cell (.inl rfl) rfl rfl (by (try unfold setTp); repeat first | exact Mem.upd_self _ _ _ | assumption | refine Mem.upd_ne (by first | assumption | exact Ne.symm (by assumption)) ?_) (loadP_w ag56 sz56 rfl rfl) ⟨rfl, (by (try unfold setTp); repeat first | exact Mem.upd_self _ _ _ | assumption | refine Mem.upd_ne (by first | assumption | exact Ne.symm (by assumption)) ?_), (by (try unfold setTp); repeat first | exact Mem.upd_self _ _ _ | assumption | refine Mem.upd_ne (by first | assumption | exact Ne.symm (by assumption)) ?_), (by intro d h1 h3 h2; unfold setTp; repeat (first | rfl | refine (upd_other (by first | assumption | exact mem_put (by assumption) h2)).trans ?_))⟩

def tk120 : Nat → Nat → Option Nat := fun _ _ => none
def pl120 : Nat → List PStep
 | 1 => [.q 0, .q 1, .q 2, .q 3, .q 4, .q 5, .q 6, .q 7, .q 8, .q 9, .s 10 [9, 8, 7, 6, 5, 4, 3, 2, 1, 0], .s 11 [9], .q 12]
 | 4 => [.q 0, .q 1, .q 2, .q 3, .q 4, .q 5, .s 6 [0, 1, 2, 3, 4, 5], .q 7, .q 8]
 | 17 => [.q 0, .q 1, .q 2, .q 3, .q 4, .q 5, .q 6, .s 7 []]
 | _ => []
theorem cb120 : Tryz.f120.body.map (codeB Tryz.prog Tryz.f120.ntmps tk120 pl120) = some true := by kernel_rfl
theorem poll_nil {s : Sb} {x : Tp} {m : Int} (h : (pollS s x m).2.2 ≠ 0) : (pollS s x m).2.1 = [] := by
 unfold pollS at h ⊢
 split
 ·rename_i hc; rw [if_pos hc] at h; exact absurd rfl h
 ·rfl
set_option maxHeartbeats 4000000 in
set_option maxRecDepth 20000 in
theorem snd120a (b mt ms : Nat) (x : Mc) (dir : List (ByteArray × Nat)) (c : Cmd) (M : Mem) (hb : M b = some (.cells (mcC mt ms x))) (hm : MapAt ptrV M mt dir) (hs : M ms = some (sbK x.sbs)) (hbs : b ≠ ms) (hn : kget x.sbs c.name = none) : SoundCall Tryz.prog 120 [ptr b, encC c] M fun r M' => r = rpV 5 0 [] false ∧ M.le M' := by
 have hbm : b ≠ mt := fun e => map_cells hm (by rw [← e]; exact hb)
 have hbm' := hbm.symm
 have hr : ∀ {B : Nat}, M B = none → mt ≠ B := fun h e => hm.some (by rw [← e] at h; exact h)
 refine SoundCall.go tk120 pl120 mixed Tryz.func120 cb120 rfl (Nat.le_of_ble_eq_true rfl) ?_
 refine s_seq ?_
 refine s_region ?_
 refine o_box (by first | exact e_raw rfl | exact e_agg rfl | exact e_sl rfl) rfl rfl (fun B1 hB1 => ?_)
 have cbF1 : b ≠ B1 := Mem.fresh_ne hB1 mm
 have cbF1' := cbF1.symm
 have cms1 : ms ≠ B1 := Mem.fresh_ne hB1 mm
 have cms1' := cms1.symm
 have m1 : M B1 = none := by have h := hB1; repeat (first | exact h | exact Mem.none_of_le hle h | replace h := (Mem.upd_none h).2)
 refine o_alloc zc56 (fun B2 hB2 => ?_)
 have cb2 : b ≠ B2 := Mem.fresh_ne hB2 mm
 have cb2' := cb2.symm
 have cms2 : ms ≠ B2 := Mem.fresh_ne hB2 mm
 have cms2' := cms2.symm
 have f1_2 : B1 ≠ B2 := Mem.fresh_ne hB2 mm
 have g2_1 : B2 ≠ B1 := f1_2.symm
 have m2 : M B2 = none := by have h := hB2; repeat (first | exact h | exact Mem.none_of_le hle h | replace h := (Mem.upd_none h).2)
 refine o_nil ?_
 refine s_seq ?_
 refine s_draw rfl ?_
 refine d_q rfl (q_mv (mv)) rfl rfl rfl ?_
 refine d_q rfl (q_nil rfl) rfl rfl rfl ?_
 refine d_q rfl (q_fr fo124_1 rfl) rfl rfl rfl ?_
 refine d_q rfl (q_ldm ag121 sz121 rfl mm rfl (v_raw rfl)) rfl rfl rfl ?_
 refine d_q rfl (q_fr fo49_2 rfl) rfl rfl rfl ?_
 refine d_q rfl (q_ldm ag9 sz9 rfl mm rfl (v_raw rfl)) rfl rfl rfl ?_
 refine d_q rfl (q_mget2 und121 kt9 z142 rfl rfl mm (show _ = encSb ⟨emp, emp, 0, 0⟩ by rw [hn]; rfl)) rfl rfl rfl ?_
 refine d_q rfl (q_mv (v_tup rfl)) rfl rfl rfl ?_
 refine d_q rfl (q_ext rfl rfl (v_agg rfl)) rfl rfl rfl ?_
 refine d_q rfl (q_ext rfl rfl (v_raw rfl)) rfl rfl rfl ?_
 refine d_s rfl ?_
 refine o_alloc zc142 (fun B3 hB3 => ?_)
 have cbF3 : b ≠ B3 := Mem.fresh_ne hB3 mm
 have cbF3' := cbF3.symm
 have cms3 : ms ≠ B3 := Mem.fresh_ne hB3 mm
 have cms3' := cms3.symm
 have f1_3 : B1 ≠ B3 := Mem.fresh_ne hB3 mm
 have g3_1 : B3 ≠ B1 := f1_3.symm
 have f2_3 : B2 ≠ B3 := Mem.fresh_ne hB3 mm
 have g3_2 : B3 ≠ B2 := f2_3.symm
 have m3 : M B3 = none := by have h := hB3; repeat (first | exact h | exact Mem.none_of_le hle h | replace h := (Mem.upd_none h).2)
 refine o_nil ⟨(by simp [Mem.upd, *]), ?_⟩
 refine d_s rfl ?_
 refine o_storew rfl mm mf rfl sz142 rfl rfl rfl rfl ?_
 refine o_nil ⟨(by simp [Mem.upd, *]), ?_⟩
 refine d_q rfl (q_as (v_raw rfl)) rfl rfl rfl ?_
 refine d_nil ?_
 refine s_seq ?_
 refine s_seq ?_
 refine s_region ?_
 refine o_q (q_mv (v_raw rfl)) rfl rfl rfl ?_
 refine o_q (q_not rfl) rfl rfl rfl ?_
 refine o_nil ?_
 refine s_then rfl (by rw [hn]; rfl) ?_
 refine s_seq ?_
 refine s_region ?_
 refine o_call (((code61 (5) (0) _))) goes69 (ac (v_raw rfl) (ac (v_raw rfl) ac_nil)) rfl ?_
 refine o_storew rfl mm mf rfl sz56 rfl rfl rfl rfl ?_
 refine o_nil ?_
 refine s_ret ?_
 refine s_code_ret ?_
 refine s_end ?_
 exact ret_cell (.inl rfl) rfl rfl mm (loadP_w ag56 sz56 rfl rfl) ⟨rfl, (by repeat first | exact hle | exact Mem.le_refl M | assumption | exact Mem.none_of_le hle (by assumption) | refine Mem.le_upd ?_ ?_)⟩

set_option maxHeartbeats 4000000 in
set_option maxRecDepth 20000 in
theorem snd120t (b mt ms : Nat) (x : Mc) (dir : List (ByteArray × Nat)) (c : Cmd) (M : Mem) (hb : M b = some (.cells (mcC mt ms x))) (hm : MapAt ptrV M mt dir) (hs : M ms = some (sbK x.sbs)) (hbs : b ≠ ms) (s : Sb) (hn : kget x.sbs c.name = some s) (t w : Nat) (y : Tp) (hg : gets dir s.topic = some t) (ht : M t = some (.cells (tpC w y))) (hw : M w = some (tpK y)) (htw : t ≠ w) (hk : c.kind = 4) : SoundCall Tryz.prog 120 [ptr b, encC c] M fun r M' => r = rpV 0 (if 0 = 0 then (attS s).cur else 0) [] false ∧ M' ms = some (sbK (if 0 = 0 then kput x.sbs c.name (attS s) else x.sbs)) ∧ ∀ d, d ≠ ms → M d ≠ none → M' d = M d := by
 have hbm : b ≠ mt := fun e => map_cells hm (by rw [← e]; exact hb)
 have hbm' := hbm.symm
 have hr : ∀ {B : Nat}, M B = none → mt ≠ B := fun h e => hm.some (by rw [← e] at h; exact h)
 have htw' := htw.symm
 have hbt : b ≠ t := fun e => by rw [← e, hb] at ht; cases ht
 have hbt' := hbt.symm
 have hbw : b ≠ w := fun e => by rw [← e, hb] at hw; cases hw
 have hbw' := hbw.symm
 have hst : ms ≠ t := fun e => by rw [← e, hs] at ht; cases ht
 have hst' := hst.symm
 have hbs' := hbs.symm
 have hmt : mt ≠ t := fun e => map_cells hm (by rw [e]; exact ht)
 have hmt' := hmt.symm
 refine SoundCall.go tk120 pl120 mixed Tryz.func120 cb120 rfl (Nat.le_of_ble_eq_true rfl) ?_
 refine s_seq ?_
 refine s_region ?_
 refine o_box (by first | exact e_raw rfl | exact e_agg rfl | exact e_sl rfl) rfl rfl (fun B1 hB1 => ?_)
 have cbF1 : b ≠ B1 := Mem.fresh_ne hB1 mm
 have cbF1' := cbF1.symm
 have cms1 : ms ≠ B1 := Mem.fresh_ne hB1 mm
 have cms1' := cms1.symm
 have ct1 : t ≠ B1 := Mem.fresh_ne hB1 mm
 have ct1' := ct1.symm
 have cw1 : w ≠ B1 := Mem.fresh_ne hB1 mm
 have cw1' := cw1.symm
 have m1 : M B1 = none := by have h := hB1; repeat (first | exact h | exact Mem.none_of_le hle h | replace h := (Mem.upd_none h).2)
 refine o_alloc zc56 (fun B2 hB2 => ?_)
 have cb2 : b ≠ B2 := Mem.fresh_ne hB2 mm
 have cb2' := cb2.symm
 have cms2 : ms ≠ B2 := Mem.fresh_ne hB2 mm
 have cms2' := cms2.symm
 have ct2 : t ≠ B2 := Mem.fresh_ne hB2 mm
 have ct2' := ct2.symm
 have cw2 : w ≠ B2 := Mem.fresh_ne hB2 mm
 have cw2' := cw2.symm
 have f1_2 : B1 ≠ B2 := Mem.fresh_ne hB2 mm
 have g2_1 : B2 ≠ B1 := f1_2.symm
 have m2 : M B2 = none := by have h := hB2; repeat (first | exact h | exact Mem.none_of_le hle h | replace h := (Mem.upd_none h).2)
 refine o_nil ?_
 refine s_seq ?_
 refine s_draw rfl ?_
 refine d_q rfl (q_mv (mv)) rfl rfl rfl ?_
 refine d_q rfl (q_nil rfl) rfl rfl rfl ?_
 refine d_q rfl (q_fr fo124_1 rfl) rfl rfl rfl ?_
 refine d_q rfl (q_ldm ag121 sz121 rfl mm rfl (v_raw rfl)) rfl rfl rfl ?_
 refine d_q rfl (q_fr fo49_2 rfl) rfl rfl rfl ?_
 refine d_q rfl (q_ldm ag9 sz9 rfl mm rfl (v_raw rfl)) rfl rfl rfl ?_
 refine d_q rfl (q_mget2 und121 kt9 z142 rfl rfl mm (show _ = encSb s by rw [hn]; rfl)) rfl rfl rfl ?_
 refine d_q rfl (q_mv (v_tup rfl)) rfl rfl rfl ?_
 refine d_q rfl (q_ext rfl rfl (v_agg rfl)) rfl rfl rfl ?_
 refine d_q rfl (q_ext rfl rfl (v_raw rfl)) rfl rfl rfl ?_
 refine d_s rfl ?_
 refine o_alloc zc142 (fun B3 hB3 => ?_)
 have cbF3 : b ≠ B3 := Mem.fresh_ne hB3 mm
 have cbF3' := cbF3.symm
 have cms3 : ms ≠ B3 := Mem.fresh_ne hB3 mm
 have cms3' := cms3.symm
 have ct3 : t ≠ B3 := Mem.fresh_ne hB3 mm
 have ct3' := ct3.symm
 have cw3 : w ≠ B3 := Mem.fresh_ne hB3 mm
 have cw3' := cw3.symm
 have f1_3 : B1 ≠ B3 := Mem.fresh_ne hB3 mm
 have g3_1 : B3 ≠ B1 := f1_3.symm
 have f2_3 : B2 ≠ B3 := Mem.fresh_ne hB3 mm
 have g3_2 : B3 ≠ B2 := f2_3.symm
 have m3 : M B3 = none := by have h := hB3; repeat (first | exact h | exact Mem.none_of_le hle h | replace h := (Mem.upd_none h).2)
 refine o_nil ⟨(by simp [Mem.upd, *]), ?_⟩
 refine d_s rfl ?_
 refine o_storew rfl mm mf rfl sz142 rfl rfl rfl rfl ?_
 refine o_nil ⟨(by simp [Mem.upd, *]), ?_⟩
 refine d_q rfl (q_as (v_raw rfl)) rfl rfl rfl ?_
 refine d_nil ?_
 refine s_seq ?_
 refine s_seq ?_
 refine s_region ?_
 refine o_q (q_mv (v_raw rfl)) rfl rfl rfl ?_
 refine o_q (q_not rfl) rfl rfl rfl ?_
 refine o_nil ?_
 refine s_else rfl (by rw [hn]; rfl) ?_
 refine s_skip ?_
 refine s_seq ?_
 refine s_draw rfl ?_
 refine d_q rfl (q_mv (mv)) rfl rfl rfl ?_
 refine d_q rfl (q_nil rfl) rfl rfl rfl ?_
 refine d_q rfl (q_fr fo124_0 rfl) rfl rfl rfl ?_
 refine d_q rfl (q_ldm ag120 sz120 rfl mm rfl (v_raw rfl)) rfl rfl rfl ?_
 refine d_q rfl (q_fr fo142_1 rfl) rfl rfl rfl ?_
 refine d_q rfl (q_ldm ag9 sz9 rfl mm rfl (v_raw rfl)) rfl rfl rfl ?_
 refine d_s rfl ?_
 refine m_get (k := s.topic) und120 kt9 z24 rfl rfl (hm.keep (by repeat first | rfl | refine (upd_other (hr (by assumption))).trans ?_)) ?_
 rw [hg]
 refine o_nil ⟨(by simp [Mem.upd, *]), ?_⟩
 refine d_q rfl (q_as (mv)) rfl rfl rfl ?_
 refine d_q rfl (q_as (v_raw rfl)) rfl rfl rfl ?_
 refine d_nil ?_
 refine s_seq ?_
 refine s_region ?_
 refine o_q (q_as (v_sl rfl)) rfl rfl rfl ?_
 refine o_nil ?_
 refine s_seq ?_
 refine s_seq ?_
 refine s_region ?_
 refine o_q (q_fr fo49_0 rfl) rfl rfl rfl ?_
 refine o_q (q_ldm ag3 sz3 rfl mm rfl (v_raw rfl)) rfl rfl rfl ?_
 refine o_nil ?_
 refine s_block ?_
 refine s_seq ?_
 refine s_region ?_
 refine o_q (q_eql rfl rfl) rfl rfl rfl ?_
 refine o_q (q_as (v_raw rfl)) rfl rfl rfl ?_
 refine o_nil ?_
 refine s_then rfl (decide_eq_true (by omega)) ?_
 refine s_region ?_
 refine o_q (q_ldmw ag142 sz142 rfl mm rfl rfl) rfl rfl rfl ?_
 refine o_call (((snd176 s _).det)) goes176 (ac (v_agg rfl) ac_nil) rfl ?_
 refine o_storew rfl mm mf rfl sz142 rfl rfl rfl rfl ?_
 refine o_nil ?_
 refine s_blk_normal ?_
 refine s_seq ?_
 refine s_seq ?_
 refine s_region ?_
 refine o_q (q_mv (v_raw rfl)) rfl rfl rfl ?_
 refine o_q (q_neq rfl rfl) rfl rfl rfl ?_
 refine o_nil ?_
 refine s_else rfl rfl ?_
 refine s_skip ?_
 refine s_seq ?_
 refine s_draw rfl ?_
 refine d_q rfl (q_mv (mv)) rfl rfl rfl ?_
 refine d_q rfl (q_nil rfl) rfl rfl rfl ?_
 refine d_q rfl (q_fr fo124_1 rfl) rfl rfl rfl ?_
 refine d_q rfl (q_ldm ag121 sz121 rfl mm rfl (v_raw rfl)) rfl rfl rfl ?_
 refine d_q rfl (q_fr fo49_2 rfl) rfl rfl rfl ?_
 refine d_q rfl (q_ldm ag9 sz9 rfl mm rfl (v_raw rfl)) rfl rfl rfl ?_
 refine d_q rfl (q_ldmw ag142 sz142 rfl mm rfl rfl) rfl rfl rfl ?_
 refine d_s rfl ?_
 refine o_mput und121 kt9 rfl rfl mm (f := encSb) (v := (attS s)) (v_agg rfl) ?_
 refine o_nil ⟨(by simp [Mem.upd, *]), ?_⟩
 refine d_nil ?_
 refine s_seq ?_
 refine s_seq ?_
 refine s_region ?_
 refine o_q (q_fr fo49_0 rfl) rfl rfl rfl ?_
 refine o_q (q_ldm ag3 sz3 rfl mm rfl (v_raw rfl)) rfl rfl rfl ?_
 refine o_q (q_eql rfl rfl) rfl rfl rfl ?_
 refine o_nil ?_
 refine s_else rfl (decide_eq_false (by omega)) ?_
 refine s_skip ?_
 refine s_seq ?_
 refine s_region ?_
 refine o_q (q_mv (v_raw rfl)) rfl rfl rfl ?_
 refine o_q (q_fr fo142_2 rfl) rfl rfl rfl ?_
 refine o_q (q_ldm ag3 sz3 rfl mm rfl (v_raw rfl)) rfl rfl rfl ?_
 refine o_call (((code61 (0) ((attS s).cur) _))) goes69 (ac (v_raw rfl) (ac (v_raw rfl) ac_nil)) rfl ?_
 refine o_storew rfl mm mf rfl sz56 rfl rfl rfl rfl ?_
 refine o_nil ?_
 refine s_ret ?_
 refine s_end ?_
 exact ret_cell (.inl rfl) rfl rfl mm (loadP_w ag56 sz56 rfl rfl) ⟨rfl, mm, (by intro d h1 h2; repeat (first | rfl | refine (upd_other (by first | assumption | exact mem_put (by assumption) h2)).trans ?_))⟩

set_option maxHeartbeats 4000000 in
set_option maxRecDepth 20000 in
theorem snd120p (b mt ms : Nat) (x : Mc) (dir : List (ByteArray × Nat)) (c : Cmd) (M : Mem) (hb : M b = some (.cells (mcC mt ms x))) (hm : MapAt ptrV M mt dir) (hs : M ms = some (sbK x.sbs)) (hbs : b ≠ ms) (s : Sb) (hn : kget x.sbs c.name = some s) (t w : Nat) (y : Tp) (hg : gets dir s.topic = some t) (ht : M t = some (.cells (tpC w y))) (hw : M w = some (tpK y)) (htw : t ≠ w) (hso : Sorted y.recs) (hlen : y.recs.length < 2 ^ 40) (hoff : ∀ r ∈ y.recs, 0 ≤ r.off ∧ r.off < 2 ^ 60) (hlow : 0 ≤ y.low ∧ y.low < 2 ^ 60) (hk : c.kind = 5) : SoundCall Tryz.prog 120 [ptr b, encC c] M fun r M' => r = rpV (pollS s y c.n).2.2 (if (pollS s y c.n).2.2 = 0 then (pollS s y c.n).1.nxt else 0) (pollS s y c.n).2.1 false ∧ M' ms = some (sbK (if (pollS s y c.n).2.2 = 0 then kput x.sbs c.name (pollS s y c.n).1 else x.sbs)) ∧ ∀ d, d ≠ ms → M d ≠ none → M' d = M d := by
 have hbm : b ≠ mt := fun e => map_cells hm (by rw [← e]; exact hb)
 have hbm' := hbm.symm
 have hr : ∀ {B : Nat}, M B = none → mt ≠ B := fun h e => hm.some (by rw [← e] at h; exact h)
 have htw' := htw.symm
 have hbt : b ≠ t := fun e => by rw [← e, hb] at ht; cases ht
 have hbt' := hbt.symm
 have hbw : b ≠ w := fun e => by rw [← e, hb] at hw; cases hw
 have hbw' := hbw.symm
 have hst : ms ≠ t := fun e => by rw [← e, hs] at ht; cases ht
 have hst' := hst.symm
 have hbs' := hbs.symm
 have hmt : mt ≠ t := fun e => map_cells hm (by rw [e]; exact ht)
 have hmt' := hmt.symm
 refine SoundCall.go tk120 pl120 mixed Tryz.func120 cb120 rfl (Nat.le_of_ble_eq_true rfl) ?_
 refine s_seq ?_
 refine s_region ?_
 refine o_box (by first | exact e_raw rfl | exact e_agg rfl | exact e_sl rfl) rfl rfl (fun B1 hB1 => ?_)
 have cbF1 : b ≠ B1 := Mem.fresh_ne hB1 mm
 have cbF1' := cbF1.symm
 have cms1 : ms ≠ B1 := Mem.fresh_ne hB1 mm
 have cms1' := cms1.symm
 have ct1 : t ≠ B1 := Mem.fresh_ne hB1 mm
 have ct1' := ct1.symm
 have cw1 : w ≠ B1 := Mem.fresh_ne hB1 mm
 have cw1' := cw1.symm
 have m1 : M B1 = none := by have h := hB1; repeat (first | exact h | exact Mem.none_of_le hle h | replace h := (Mem.upd_none h).2)
 refine o_alloc zc56 (fun B2 hB2 => ?_)
 have cb2 : b ≠ B2 := Mem.fresh_ne hB2 mm
 have cb2' := cb2.symm
 have cms2 : ms ≠ B2 := Mem.fresh_ne hB2 mm
 have cms2' := cms2.symm
 have ct2 : t ≠ B2 := Mem.fresh_ne hB2 mm
 have ct2' := ct2.symm
 have cw2 : w ≠ B2 := Mem.fresh_ne hB2 mm
 have cw2' := cw2.symm
 have f1_2 : B1 ≠ B2 := Mem.fresh_ne hB2 mm
 have g2_1 : B2 ≠ B1 := f1_2.symm
 have m2 : M B2 = none := by have h := hB2; repeat (first | exact h | exact Mem.none_of_le hle h | replace h := (Mem.upd_none h).2)
 refine o_nil ?_
 refine s_seq ?_
 refine s_draw rfl ?_
 refine d_q rfl (q_mv (mv)) rfl rfl rfl ?_
 refine d_q rfl (q_nil rfl) rfl rfl rfl ?_
 refine d_q rfl (q_fr fo124_1 rfl) rfl rfl rfl ?_
 refine d_q rfl (q_ldm ag121 sz121 rfl mm rfl (v_raw rfl)) rfl rfl rfl ?_
 refine d_q rfl (q_fr fo49_2 rfl) rfl rfl rfl ?_
 refine d_q rfl (q_ldm ag9 sz9 rfl mm rfl (v_raw rfl)) rfl rfl rfl ?_
 refine d_q rfl (q_mget2 und121 kt9 z142 rfl rfl mm (show _ = encSb s by rw [hn]; rfl)) rfl rfl rfl ?_
 refine d_q rfl (q_mv (v_tup rfl)) rfl rfl rfl ?_
 refine d_q rfl (q_ext rfl rfl (v_agg rfl)) rfl rfl rfl ?_
 refine d_q rfl (q_ext rfl rfl (v_raw rfl)) rfl rfl rfl ?_
 refine d_s rfl ?_
 refine o_alloc zc142 (fun B3 hB3 => ?_)
 have cbF3 : b ≠ B3 := Mem.fresh_ne hB3 mm
 have cbF3' := cbF3.symm
 have cms3 : ms ≠ B3 := Mem.fresh_ne hB3 mm
 have cms3' := cms3.symm
 have ct3 : t ≠ B3 := Mem.fresh_ne hB3 mm
 have ct3' := ct3.symm
 have cw3 : w ≠ B3 := Mem.fresh_ne hB3 mm
 have cw3' := cw3.symm
 have f1_3 : B1 ≠ B3 := Mem.fresh_ne hB3 mm
 have g3_1 : B3 ≠ B1 := f1_3.symm
 have f2_3 : B2 ≠ B3 := Mem.fresh_ne hB3 mm
 have g3_2 : B3 ≠ B2 := f2_3.symm
 have m3 : M B3 = none := by have h := hB3; repeat (first | exact h | exact Mem.none_of_le hle h | replace h := (Mem.upd_none h).2)
 refine o_nil ⟨(by simp [Mem.upd, *]), ?_⟩
 refine d_s rfl ?_
 refine o_storew rfl mm mf rfl sz142 rfl rfl rfl rfl ?_
 refine o_nil ⟨(by simp [Mem.upd, *]), ?_⟩
 refine d_q rfl (q_as (v_raw rfl)) rfl rfl rfl ?_
 refine d_nil ?_
 refine s_seq ?_
 refine s_seq ?_
 refine s_region ?_
 refine o_q (q_mv (v_raw rfl)) rfl rfl rfl ?_
 refine o_q (q_not rfl) rfl rfl rfl ?_
 refine o_nil ?_
 refine s_else rfl (by rw [hn]; rfl) ?_
 refine s_skip ?_
 refine s_seq ?_
 refine s_draw rfl ?_
 refine d_q rfl (q_mv (mv)) rfl rfl rfl ?_
 refine d_q rfl (q_nil rfl) rfl rfl rfl ?_
 refine d_q rfl (q_fr fo124_0 rfl) rfl rfl rfl ?_
 refine d_q rfl (q_ldm ag120 sz120 rfl mm rfl (v_raw rfl)) rfl rfl rfl ?_
 refine d_q rfl (q_fr fo142_1 rfl) rfl rfl rfl ?_
 refine d_q rfl (q_ldm ag9 sz9 rfl mm rfl (v_raw rfl)) rfl rfl rfl ?_
 refine d_s rfl ?_
 refine m_get (k := s.topic) und120 kt9 z24 rfl rfl (hm.keep (by repeat first | rfl | refine (upd_other (hr (by assumption))).trans ?_)) ?_
 rw [hg]
 refine o_nil ⟨(by simp [Mem.upd, *]), ?_⟩
 refine d_q rfl (q_as (mv)) rfl rfl rfl ?_
 refine d_q rfl (q_as (v_raw rfl)) rfl rfl rfl ?_
 refine d_nil ?_
 refine s_seq ?_
 refine s_region ?_
 refine o_q (q_as (v_sl rfl)) rfl rfl rfl ?_
 refine o_nil ?_
 refine s_seq ?_
 refine s_seq ?_
 refine s_region ?_
 refine o_q (q_fr fo49_0 rfl) rfl rfl rfl ?_
 refine o_q (q_ldm ag3 sz3 rfl mm rfl (v_raw rfl)) rfl rfl rfl ?_
 refine o_nil ?_
 refine s_block ?_
 refine s_seq ?_
 refine s_region ?_
 refine o_q (q_eql rfl rfl) rfl rfl rfl ?_
 refine o_q (q_as (v_raw rfl)) rfl rfl rfl ?_
 refine o_nil ?_
 refine s_else rfl (decide_eq_false (by omega)) ?_
 refine s_seq ?_
 refine s_region ?_
 refine o_q (q_eql rfl rfl) rfl rfl rfl ?_
 refine o_q (q_as (v_raw rfl)) rfl rfl rfl ?_
 refine o_nil ?_
 refine s_then rfl (decide_eq_true (by omega)) ?_
 refine s_region ?_
 refine o_q (q_ldmw ag142 sz142 rfl mm rfl rfl) rfl rfl rfl ?_
 refine o_q (q_mv (mv)) rfl rfl rfl ?_
 refine o_q (q_fr fo49_6 rfl) rfl rfl rfl ?_
 refine o_q (q_ldm ag3 sz3 rfl mm rfl (v_raw rfl)) rfl rfl rfl ?_
 refine o_call (((snd177 s t w y c.n _ mm mm htw hso hlen hoff hlow).det)) goes177 (ac (v_agg rfl) (ac (mv) (ac (v_raw rfl) ac_nil))) rfl ?_
 refine o_q (q_mv (v_tup rfl)) rfl rfl rfl ?_
 refine o_q (q_ext rfl rfl (v_agg rfl)) rfl rfl rfl ?_
 refine o_q (q_ext rfl rfl (v_sl rfl)) rfl rfl rfl ?_
 refine o_q (q_ext rfl rfl (v_raw rfl)) rfl rfl rfl ?_
 refine o_storew rfl mm mf rfl sz142 rfl rfl rfl rfl ?_
 refine o_q (q_as (v_sl rfl)) rfl rfl rfl ?_
 refine o_q (q_as (v_raw rfl)) rfl rfl rfl ?_
 refine o_nil ?_
 refine s_blk_normal ?_
 refine s_seq ?_
 refine s_seq ?_
 refine s_region ?_
 refine o_q (q_mv (v_raw rfl)) rfl rfl rfl ?_
 refine o_q (q_neq rfl rfl) rfl rfl rfl ?_
 refine o_nil ?_
 refine s_cond rfl (fun h1 => ?_) (fun h1 => ?_)
 ·have k1 := h1; try simp only [decide_eq_true_eq, decide_eq_false_iff_not, Bool.not_eq_true', Bool.not_eq_false', Bool.not_true, Bool.not_false, List.length_map, Decidable.not_not] at k1
  refine s_seq ?_
  refine s_region ?_
  refine o_q (q_mv (v_raw rfl)) rfl rfl rfl ?_
  refine o_call (((code61 ((pollS s y c.n).2.2) (0) _))) goes69 (ac (v_raw rfl) (ac (v_raw rfl) ac_nil)) rfl ?_
  refine o_storew rfl mm mf rfl sz56 rfl rfl rfl rfl ?_
  refine o_nil ?_
  refine s_ret ?_
  refine s_code_ret ?_
  refine s_end ?_
  exact ret_cell (.inl rfl) rfl rfl mm (loadP_w ag56 sz56 rfl rfl) ⟨(by rw [if_neg k1, if_neg k1, poll_nil k1]; rfl), (by rw [show (if (pollS s y c.n).2.2 = 0 then kput x.sbs c.name (pollS s y c.n).1 else x.sbs) = x.sbs from if_neg k1]; repeat first | exact Mem.upd_self _ _ _ | assumption | refine Mem.upd_ne (by assumption) ?_), (by intro d h1 h2; repeat (first | rfl | refine (upd_other (by first | assumption | exact mem_put (by assumption) h2)).trans ?_))⟩
 ·have k1 := h1; try simp only [decide_eq_true_eq, decide_eq_false_iff_not, Bool.not_eq_true', Bool.not_eq_false', Bool.not_true, Bool.not_false, List.length_map, Decidable.not_not] at k1
  refine s_skip ?_
  refine s_seq ?_
  refine s_draw rfl ?_
  refine d_q rfl (q_mv (mv)) rfl rfl rfl ?_
  refine d_q rfl (q_nil rfl) rfl rfl rfl ?_
  refine d_q rfl (q_fr fo124_1 rfl) rfl rfl rfl ?_
  refine d_q rfl (q_ldm ag121 sz121 rfl mm rfl (v_raw rfl)) rfl rfl rfl ?_
  refine d_q rfl (q_fr fo49_2 rfl) rfl rfl rfl ?_
  refine d_q rfl (q_ldm ag9 sz9 rfl mm rfl (v_raw rfl)) rfl rfl rfl ?_
  refine d_q rfl (q_ldmw ag142 sz142 rfl mm rfl rfl) rfl rfl rfl ?_
  refine d_s rfl ?_
  refine o_mput und121 kt9 rfl rfl mm (f := encSb) (v := (pollS s y c.n).1) (v_agg rfl) ?_
  refine o_nil ⟨(by simp [Mem.upd, *]), ?_⟩
  refine d_nil ?_
  refine s_seq ?_
  refine s_seq ?_
  refine s_region ?_
  refine o_q (q_fr fo49_0 rfl) rfl rfl rfl ?_
  refine o_q (q_ldm ag3 sz3 rfl mm rfl (v_raw rfl)) rfl rfl rfl ?_
  refine o_q (q_eql rfl rfl) rfl rfl rfl ?_
  refine o_nil ?_
  refine s_then rfl (decide_eq_true (by omega)) ?_
  refine s_seq ?_
  refine s_region ?_
  refine o_q (q_fr fo142_3 rfl) rfl rfl rfl ?_
  refine o_q (q_ldm ag3 sz3 rfl mm rfl (v_raw rfl)) rfl rfl rfl ?_
  refine o_q (q_mv (v_sl rfl)) rfl rfl rfl ?_
  refine o_q (q_b (cs := [.raw (.int .i64 0), _, _]) bz56 bp56 (bf fo56_1 (e_raw rfl) rfl rfl (Nat.le_of_ble_eq_true rfl) rfl (bf fo56_2 (e_sl rfl) rfl rfl (Nat.le_of_ble_eq_true rfl) rfl bf_nil))) rfl rfl rfl ?_
  refine o_storew rfl mm mf rfl sz56 rfl rfl rfl rfl ?_
  refine o_nil ?_
  refine s_ret ?_
  refine s_code_ret ?_
  refine s_end ?_
  exact ret_cell (.inl rfl) rfl rfl mm (loadP_w ag56 sz56 rfl rfl) ⟨(by rw [if_pos k1]; rw [k1]; rfl), (by rw [show (if (pollS s y c.n).2.2 = 0 then kput x.sbs c.name (pollS s y c.n).1 else x.sbs) = kput x.sbs c.name (pollS s y c.n).1 from if_pos k1]; repeat first | exact Mem.upd_self _ _ _ | assumption | refine Mem.upd_ne (by assumption) ?_), (by intro d h1 h2; repeat (first | rfl | refine (upd_other (by first | assumption | exact mem_put (by assumption) h2)).trans ?_))⟩

set_option maxHeartbeats 4000000 in
set_option maxRecDepth 20000 in
theorem snd120k (b mt ms : Nat) (x : Mc) (dir : List (ByteArray × Nat)) (c : Cmd) (M : Mem) (hb : M b = some (.cells (mcC mt ms x))) (hm : MapAt ptrV M mt dir) (hs : M ms = some (sbK x.sbs)) (hbs : b ≠ ms) (s : Sb) (hn : kget x.sbs c.name = some s) (t w : Nat) (y : Tp) (hg : gets dir s.topic = some t) (ht : M t = some (.cells (tpC w y))) (hw : M w = some (tpK y)) (htw : t ≠ w) (hk : c.kind = 6) : SoundCall Tryz.prog 120 [ptr b, encC c] M fun r M' => r = rpV (ackS s c.n).2 (if (ackS s c.n).2 = 0 then (ackS s c.n).1.cur else 0) [] false ∧ M' ms = some (sbK (if (ackS s c.n).2 = 0 then kput x.sbs c.name (ackS s c.n).1 else x.sbs)) ∧ ∀ d, d ≠ ms → M d ≠ none → M' d = M d := by
 have hbm : b ≠ mt := fun e => map_cells hm (by rw [← e]; exact hb)
 have hbm' := hbm.symm
 have hr : ∀ {B : Nat}, M B = none → mt ≠ B := fun h e => hm.some (by rw [← e] at h; exact h)
 have htw' := htw.symm
 have hbt : b ≠ t := fun e => by rw [← e, hb] at ht; cases ht
 have hbt' := hbt.symm
 have hbw : b ≠ w := fun e => by rw [← e, hb] at hw; cases hw
 have hbw' := hbw.symm
 have hst : ms ≠ t := fun e => by rw [← e, hs] at ht; cases ht
 have hst' := hst.symm
 have hbs' := hbs.symm
 have hmt : mt ≠ t := fun e => map_cells hm (by rw [e]; exact ht)
 have hmt' := hmt.symm
 refine SoundCall.go tk120 pl120 mixed Tryz.func120 cb120 rfl (Nat.le_of_ble_eq_true rfl) ?_
 refine s_seq ?_
 refine s_region ?_
 refine o_box (by first | exact e_raw rfl | exact e_agg rfl | exact e_sl rfl) rfl rfl (fun B1 hB1 => ?_)
 have cbF1 : b ≠ B1 := Mem.fresh_ne hB1 mm
 have cbF1' := cbF1.symm
 have cms1 : ms ≠ B1 := Mem.fresh_ne hB1 mm
 have cms1' := cms1.symm
 have ct1 : t ≠ B1 := Mem.fresh_ne hB1 mm
 have ct1' := ct1.symm
 have cw1 : w ≠ B1 := Mem.fresh_ne hB1 mm
 have cw1' := cw1.symm
 have m1 : M B1 = none := by have h := hB1; repeat (first | exact h | exact Mem.none_of_le hle h | replace h := (Mem.upd_none h).2)
 refine o_alloc zc56 (fun B2 hB2 => ?_)
 have cb2 : b ≠ B2 := Mem.fresh_ne hB2 mm
 have cb2' := cb2.symm
 have cms2 : ms ≠ B2 := Mem.fresh_ne hB2 mm
 have cms2' := cms2.symm
 have ct2 : t ≠ B2 := Mem.fresh_ne hB2 mm
 have ct2' := ct2.symm
 have cw2 : w ≠ B2 := Mem.fresh_ne hB2 mm
 have cw2' := cw2.symm
 have f1_2 : B1 ≠ B2 := Mem.fresh_ne hB2 mm
 have g2_1 : B2 ≠ B1 := f1_2.symm
 have m2 : M B2 = none := by have h := hB2; repeat (first | exact h | exact Mem.none_of_le hle h | replace h := (Mem.upd_none h).2)
 refine o_nil ?_
 refine s_seq ?_
 refine s_draw rfl ?_
 refine d_q rfl (q_mv (mv)) rfl rfl rfl ?_
 refine d_q rfl (q_nil rfl) rfl rfl rfl ?_
 refine d_q rfl (q_fr fo124_1 rfl) rfl rfl rfl ?_
 refine d_q rfl (q_ldm ag121 sz121 rfl mm rfl (v_raw rfl)) rfl rfl rfl ?_
 refine d_q rfl (q_fr fo49_2 rfl) rfl rfl rfl ?_
 refine d_q rfl (q_ldm ag9 sz9 rfl mm rfl (v_raw rfl)) rfl rfl rfl ?_
 refine d_q rfl (q_mget2 und121 kt9 z142 rfl rfl mm (show _ = encSb s by rw [hn]; rfl)) rfl rfl rfl ?_
 refine d_q rfl (q_mv (v_tup rfl)) rfl rfl rfl ?_
 refine d_q rfl (q_ext rfl rfl (v_agg rfl)) rfl rfl rfl ?_
 refine d_q rfl (q_ext rfl rfl (v_raw rfl)) rfl rfl rfl ?_
 refine d_s rfl ?_
 refine o_alloc zc142 (fun B3 hB3 => ?_)
 have cbF3 : b ≠ B3 := Mem.fresh_ne hB3 mm
 have cbF3' := cbF3.symm
 have cms3 : ms ≠ B3 := Mem.fresh_ne hB3 mm
 have cms3' := cms3.symm
 have ct3 : t ≠ B3 := Mem.fresh_ne hB3 mm
 have ct3' := ct3.symm
 have cw3 : w ≠ B3 := Mem.fresh_ne hB3 mm
 have cw3' := cw3.symm
 have f1_3 : B1 ≠ B3 := Mem.fresh_ne hB3 mm
 have g3_1 : B3 ≠ B1 := f1_3.symm
 have f2_3 : B2 ≠ B3 := Mem.fresh_ne hB3 mm
 have g3_2 : B3 ≠ B2 := f2_3.symm
 have m3 : M B3 = none := by have h := hB3; repeat (first | exact h | exact Mem.none_of_le hle h | replace h := (Mem.upd_none h).2)
 refine o_nil ⟨(by simp [Mem.upd, *]), ?_⟩
 refine d_s rfl ?_
 refine o_storew rfl mm mf rfl sz142 rfl rfl rfl rfl ?_
 refine o_nil ⟨(by simp [Mem.upd, *]), ?_⟩
 refine d_q rfl (q_as (v_raw rfl)) rfl rfl rfl ?_
 refine d_nil ?_
 refine s_seq ?_
 refine s_seq ?_
 refine s_region ?_
 refine o_q (q_mv (v_raw rfl)) rfl rfl rfl ?_
 refine o_q (q_not rfl) rfl rfl rfl ?_
 refine o_nil ?_
 refine s_else rfl (by rw [hn]; rfl) ?_
 refine s_skip ?_
 refine s_seq ?_
 refine s_draw rfl ?_
 refine d_q rfl (q_mv (mv)) rfl rfl rfl ?_
 refine d_q rfl (q_nil rfl) rfl rfl rfl ?_
 refine d_q rfl (q_fr fo124_0 rfl) rfl rfl rfl ?_
 refine d_q rfl (q_ldm ag120 sz120 rfl mm rfl (v_raw rfl)) rfl rfl rfl ?_
 refine d_q rfl (q_fr fo142_1 rfl) rfl rfl rfl ?_
 refine d_q rfl (q_ldm ag9 sz9 rfl mm rfl (v_raw rfl)) rfl rfl rfl ?_
 refine d_s rfl ?_
 refine m_get (k := s.topic) und120 kt9 z24 rfl rfl (hm.keep (by repeat first | rfl | refine (upd_other (hr (by assumption))).trans ?_)) ?_
 rw [hg]
 refine o_nil ⟨(by simp [Mem.upd, *]), ?_⟩
 refine d_q rfl (q_as (mv)) rfl rfl rfl ?_
 refine d_q rfl (q_as (v_raw rfl)) rfl rfl rfl ?_
 refine d_nil ?_
 refine s_seq ?_
 refine s_region ?_
 refine o_q (q_as (v_sl rfl)) rfl rfl rfl ?_
 refine o_nil ?_
 refine s_seq ?_
 refine s_seq ?_
 refine s_region ?_
 refine o_q (q_fr fo49_0 rfl) rfl rfl rfl ?_
 refine o_q (q_ldm ag3 sz3 rfl mm rfl (v_raw rfl)) rfl rfl rfl ?_
 refine o_nil ?_
 refine s_block ?_
 refine s_seq ?_
 refine s_region ?_
 refine o_q (q_eql rfl rfl) rfl rfl rfl ?_
 refine o_q (q_as (v_raw rfl)) rfl rfl rfl ?_
 refine o_nil ?_
 refine s_else rfl (decide_eq_false (by omega)) ?_
 refine s_seq ?_
 refine s_region ?_
 refine o_q (q_eql rfl rfl) rfl rfl rfl ?_
 refine o_q (q_as (v_raw rfl)) rfl rfl rfl ?_
 refine o_nil ?_
 refine s_else rfl (decide_eq_false (by omega)) ?_
 refine s_seq ?_
 refine s_region ?_
 refine o_q (q_eql rfl rfl) rfl rfl rfl ?_
 refine o_q (q_as (v_raw rfl)) rfl rfl rfl ?_
 refine o_nil ?_
 refine s_then rfl (decide_eq_true (by omega)) ?_
 refine s_region ?_
 refine o_q (q_ldmw ag142 sz142 rfl mm rfl rfl) rfl rfl rfl ?_
 refine o_q (q_fr fo49_6 rfl) rfl rfl rfl ?_
 refine o_q (q_ldm ag3 sz3 rfl mm rfl (v_raw rfl)) rfl rfl rfl ?_
 refine o_call (((snd178 s c.n _).det)) goes178 (ac (v_agg rfl) (ac (v_raw rfl) ac_nil)) rfl ?_
 refine o_q (q_mv (v_tup rfl)) rfl rfl rfl ?_
 refine o_q (q_ext rfl rfl (v_agg rfl)) rfl rfl rfl ?_
 refine o_q (q_ext rfl rfl (v_raw rfl)) rfl rfl rfl ?_
 refine o_storew rfl mm mf rfl sz142 rfl rfl rfl rfl ?_
 refine o_q (q_as (v_raw rfl)) rfl rfl rfl ?_
 refine o_nil ?_
 refine s_blk_normal ?_
 refine s_seq ?_
 refine s_seq ?_
 refine s_region ?_
 refine o_q (q_mv (v_raw rfl)) rfl rfl rfl ?_
 refine o_q (q_neq rfl rfl) rfl rfl rfl ?_
 refine o_nil ?_
 refine s_cond rfl (fun h1 => ?_) (fun h1 => ?_)
 ·have k1 := h1; try simp only [decide_eq_true_eq, decide_eq_false_iff_not, Bool.not_eq_true', Bool.not_eq_false', Bool.not_true, Bool.not_false, List.length_map, Decidable.not_not] at k1
  refine s_seq ?_
  refine s_region ?_
  refine o_q (q_mv (v_raw rfl)) rfl rfl rfl ?_
  refine o_call (((code61 ((ackS s c.n).2) (0) _))) goes69 (ac (v_raw rfl) (ac (v_raw rfl) ac_nil)) rfl ?_
  refine o_storew rfl mm mf rfl sz56 rfl rfl rfl rfl ?_
  refine o_nil ?_
  refine s_ret ?_
  refine s_code_ret ?_
  refine s_end ?_
  exact ret_cell (.inl rfl) rfl rfl mm (loadP_w ag56 sz56 rfl rfl) ⟨(by rw [if_neg k1, if_neg k1]; rfl), (by rw [show (if (ackS s c.n).2 = 0 then kput x.sbs c.name (ackS s c.n).1 else x.sbs) = x.sbs from if_neg k1]; repeat first | exact Mem.upd_self _ _ _ | assumption | refine Mem.upd_ne (by assumption) ?_), (by intro d h1 h2; repeat (first | rfl | refine (upd_other (by first | assumption | exact mem_put (by assumption) h2)).trans ?_))⟩
 ·have k1 := h1; try simp only [decide_eq_true_eq, decide_eq_false_iff_not, Bool.not_eq_true', Bool.not_eq_false', Bool.not_true, Bool.not_false, List.length_map, Decidable.not_not] at k1
  refine s_skip ?_
  refine s_seq ?_
  refine s_draw rfl ?_
  refine d_q rfl (q_mv (mv)) rfl rfl rfl ?_
  refine d_q rfl (q_nil rfl) rfl rfl rfl ?_
  refine d_q rfl (q_fr fo124_1 rfl) rfl rfl rfl ?_
  refine d_q rfl (q_ldm ag121 sz121 rfl mm rfl (v_raw rfl)) rfl rfl rfl ?_
  refine d_q rfl (q_fr fo49_2 rfl) rfl rfl rfl ?_
  refine d_q rfl (q_ldm ag9 sz9 rfl mm rfl (v_raw rfl)) rfl rfl rfl ?_
  refine d_q rfl (q_ldmw ag142 sz142 rfl mm rfl rfl) rfl rfl rfl ?_
  refine d_s rfl ?_
  refine o_mput und121 kt9 rfl rfl mm (f := encSb) (v := (ackS s c.n).1) (v_agg rfl) ?_
  refine o_nil ⟨(by simp [Mem.upd, *]), ?_⟩
  refine d_nil ?_
  refine s_seq ?_
  refine s_seq ?_
  refine s_region ?_
  refine o_q (q_fr fo49_0 rfl) rfl rfl rfl ?_
  refine o_q (q_ldm ag3 sz3 rfl mm rfl (v_raw rfl)) rfl rfl rfl ?_
  refine o_q (q_eql rfl rfl) rfl rfl rfl ?_
  refine o_nil ?_
  refine s_else rfl (decide_eq_false (by omega)) ?_
  refine s_skip ?_
  refine s_seq ?_
  refine s_region ?_
  refine o_q (q_mv (v_raw rfl)) rfl rfl rfl ?_
  refine o_q (q_fr fo142_2 rfl) rfl rfl rfl ?_
  refine o_q (q_ldm ag3 sz3 rfl mm rfl (v_raw rfl)) rfl rfl rfl ?_
  refine o_call (((code61 ((ackS s c.n).2) ((ackS s c.n).1.cur) _))) goes69 (ac (v_raw rfl) (ac (v_raw rfl) ac_nil)) rfl ?_
  refine o_storew rfl mm mf rfl sz56 rfl rfl rfl rfl ?_
  refine o_nil ?_
  refine s_ret ?_
  refine s_end ?_
  exact ret_cell (.inl rfl) rfl rfl mm (loadP_w ag56 sz56 rfl rfl) ⟨(by rw [if_pos k1]; rfl), (by rw [show (if (ackS s c.n).2 = 0 then kput x.sbs c.name (ackS s c.n).1 else x.sbs) = kput x.sbs c.name (ackS s c.n).1 from if_pos k1]; repeat first | exact Mem.upd_self _ _ _ | assumption | refine Mem.upd_ne (by assumption) ?_), (by intro d h1 h2; repeat (first | rfl | refine (upd_other (by first | assumption | exact mem_put (by assumption) h2)).trans ?_))⟩

set_option maxHeartbeats 4000000 in
set_option maxRecDepth 20000 in
theorem snd120s (b mt ms : Nat) (x : Mc) (dir : List (ByteArray × Nat)) (c : Cmd) (M : Mem) (hb : M b = some (.cells (mcC mt ms x))) (hm : MapAt ptrV M mt dir) (hs : M ms = some (sbK x.sbs)) (hbs : b ≠ ms) (s : Sb) (hn : kget x.sbs c.name = some s) (t w : Nat) (y : Tp) (hg : gets dir s.topic = some t) (ht : M t = some (.cells (tpC w y))) (hw : M w = some (tpK y)) (htw : t ≠ w) (hk : c.kind = 7) : SoundCall Tryz.prog 120 [ptr b, encC c] M fun r M' => r = rpV (seekS s y c.n).2 (if (seekS s y c.n).2 = 0 then (seekS s y c.n).1.cur else 0) [] false ∧ M' ms = some (sbK (if (seekS s y c.n).2 = 0 then kput x.sbs c.name (seekS s y c.n).1 else x.sbs)) ∧ ∀ d, d ≠ ms → M d ≠ none → M' d = M d := by
 have hbm : b ≠ mt := fun e => map_cells hm (by rw [← e]; exact hb)
 have hbm' := hbm.symm
 have hr : ∀ {B : Nat}, M B = none → mt ≠ B := fun h e => hm.some (by rw [← e] at h; exact h)
 have htw' := htw.symm
 have hbt : b ≠ t := fun e => by rw [← e, hb] at ht; cases ht
 have hbt' := hbt.symm
 have hbw : b ≠ w := fun e => by rw [← e, hb] at hw; cases hw
 have hbw' := hbw.symm
 have hst : ms ≠ t := fun e => by rw [← e, hs] at ht; cases ht
 have hst' := hst.symm
 have hbs' := hbs.symm
 have hmt : mt ≠ t := fun e => map_cells hm (by rw [e]; exact ht)
 have hmt' := hmt.symm
 refine SoundCall.go tk120 pl120 mixed Tryz.func120 cb120 rfl (Nat.le_of_ble_eq_true rfl) ?_
 refine s_seq ?_
 refine s_region ?_
 refine o_box (by first | exact e_raw rfl | exact e_agg rfl | exact e_sl rfl) rfl rfl (fun B1 hB1 => ?_)
 have cbF1 : b ≠ B1 := Mem.fresh_ne hB1 mm
 have cbF1' := cbF1.symm
 have cms1 : ms ≠ B1 := Mem.fresh_ne hB1 mm
 have cms1' := cms1.symm
 have ct1 : t ≠ B1 := Mem.fresh_ne hB1 mm
 have ct1' := ct1.symm
 have cw1 : w ≠ B1 := Mem.fresh_ne hB1 mm
 have cw1' := cw1.symm
 have m1 : M B1 = none := by have h := hB1; repeat (first | exact h | exact Mem.none_of_le hle h | replace h := (Mem.upd_none h).2)
 refine o_alloc zc56 (fun B2 hB2 => ?_)
 have cb2 : b ≠ B2 := Mem.fresh_ne hB2 mm
 have cb2' := cb2.symm
 have cms2 : ms ≠ B2 := Mem.fresh_ne hB2 mm
 have cms2' := cms2.symm
 have ct2 : t ≠ B2 := Mem.fresh_ne hB2 mm
 have ct2' := ct2.symm
 have cw2 : w ≠ B2 := Mem.fresh_ne hB2 mm
 have cw2' := cw2.symm
 have f1_2 : B1 ≠ B2 := Mem.fresh_ne hB2 mm
 have g2_1 : B2 ≠ B1 := f1_2.symm
 have m2 : M B2 = none := by have h := hB2; repeat (first | exact h | exact Mem.none_of_le hle h | replace h := (Mem.upd_none h).2)
 refine o_nil ?_
 refine s_seq ?_
 refine s_draw rfl ?_
 refine d_q rfl (q_mv (mv)) rfl rfl rfl ?_
 refine d_q rfl (q_nil rfl) rfl rfl rfl ?_
 refine d_q rfl (q_fr fo124_1 rfl) rfl rfl rfl ?_
 refine d_q rfl (q_ldm ag121 sz121 rfl mm rfl (v_raw rfl)) rfl rfl rfl ?_
 refine d_q rfl (q_fr fo49_2 rfl) rfl rfl rfl ?_
 refine d_q rfl (q_ldm ag9 sz9 rfl mm rfl (v_raw rfl)) rfl rfl rfl ?_
 refine d_q rfl (q_mget2 und121 kt9 z142 rfl rfl mm (show _ = encSb s by rw [hn]; rfl)) rfl rfl rfl ?_
 refine d_q rfl (q_mv (v_tup rfl)) rfl rfl rfl ?_
 refine d_q rfl (q_ext rfl rfl (v_agg rfl)) rfl rfl rfl ?_
 refine d_q rfl (q_ext rfl rfl (v_raw rfl)) rfl rfl rfl ?_
 refine d_s rfl ?_
 refine o_alloc zc142 (fun B3 hB3 => ?_)
 have cbF3 : b ≠ B3 := Mem.fresh_ne hB3 mm
 have cbF3' := cbF3.symm
 have cms3 : ms ≠ B3 := Mem.fresh_ne hB3 mm
 have cms3' := cms3.symm
 have ct3 : t ≠ B3 := Mem.fresh_ne hB3 mm
 have ct3' := ct3.symm
 have cw3 : w ≠ B3 := Mem.fresh_ne hB3 mm
 have cw3' := cw3.symm
 have f1_3 : B1 ≠ B3 := Mem.fresh_ne hB3 mm
 have g3_1 : B3 ≠ B1 := f1_3.symm
 have f2_3 : B2 ≠ B3 := Mem.fresh_ne hB3 mm
 have g3_2 : B3 ≠ B2 := f2_3.symm
 have m3 : M B3 = none := by have h := hB3; repeat (first | exact h | exact Mem.none_of_le hle h | replace h := (Mem.upd_none h).2)
 refine o_nil ⟨(by simp [Mem.upd, *]), ?_⟩
 refine d_s rfl ?_
 refine o_storew rfl mm mf rfl sz142 rfl rfl rfl rfl ?_
 refine o_nil ⟨(by simp [Mem.upd, *]), ?_⟩
 refine d_q rfl (q_as (v_raw rfl)) rfl rfl rfl ?_
 refine d_nil ?_
 refine s_seq ?_
 refine s_seq ?_
 refine s_region ?_
 refine o_q (q_mv (v_raw rfl)) rfl rfl rfl ?_
 refine o_q (q_not rfl) rfl rfl rfl ?_
 refine o_nil ?_
 refine s_else rfl (by rw [hn]; rfl) ?_
 refine s_skip ?_
 refine s_seq ?_
 refine s_draw rfl ?_
 refine d_q rfl (q_mv (mv)) rfl rfl rfl ?_
 refine d_q rfl (q_nil rfl) rfl rfl rfl ?_
 refine d_q rfl (q_fr fo124_0 rfl) rfl rfl rfl ?_
 refine d_q rfl (q_ldm ag120 sz120 rfl mm rfl (v_raw rfl)) rfl rfl rfl ?_
 refine d_q rfl (q_fr fo142_1 rfl) rfl rfl rfl ?_
 refine d_q rfl (q_ldm ag9 sz9 rfl mm rfl (v_raw rfl)) rfl rfl rfl ?_
 refine d_s rfl ?_
 refine m_get (k := s.topic) und120 kt9 z24 rfl rfl (hm.keep (by repeat first | rfl | refine (upd_other (hr (by assumption))).trans ?_)) ?_
 rw [hg]
 refine o_nil ⟨(by simp [Mem.upd, *]), ?_⟩
 refine d_q rfl (q_as (mv)) rfl rfl rfl ?_
 refine d_q rfl (q_as (v_raw rfl)) rfl rfl rfl ?_
 refine d_nil ?_
 refine s_seq ?_
 refine s_region ?_
 refine o_q (q_as (v_sl rfl)) rfl rfl rfl ?_
 refine o_nil ?_
 refine s_seq ?_
 refine s_seq ?_
 refine s_region ?_
 refine o_q (q_fr fo49_0 rfl) rfl rfl rfl ?_
 refine o_q (q_ldm ag3 sz3 rfl mm rfl (v_raw rfl)) rfl rfl rfl ?_
 refine o_nil ?_
 refine s_block ?_
 refine s_seq ?_
 refine s_region ?_
 refine o_q (q_eql rfl rfl) rfl rfl rfl ?_
 refine o_q (q_as (v_raw rfl)) rfl rfl rfl ?_
 refine o_nil ?_
 refine s_else rfl (decide_eq_false (by omega)) ?_
 refine s_seq ?_
 refine s_region ?_
 refine o_q (q_eql rfl rfl) rfl rfl rfl ?_
 refine o_q (q_as (v_raw rfl)) rfl rfl rfl ?_
 refine o_nil ?_
 refine s_else rfl (decide_eq_false (by omega)) ?_
 refine s_seq ?_
 refine s_region ?_
 refine o_q (q_eql rfl rfl) rfl rfl rfl ?_
 refine o_q (q_as (v_raw rfl)) rfl rfl rfl ?_
 refine o_nil ?_
 refine s_else rfl (decide_eq_false (by omega)) ?_
 refine s_seq ?_
 refine s_region ?_
 refine o_q (q_eql rfl rfl) rfl rfl rfl ?_
 refine o_q (q_as (v_raw rfl)) rfl rfl rfl ?_
 refine o_nil ?_
 refine s_then rfl (decide_eq_true (by omega)) ?_
 refine s_region ?_
 refine o_q (q_ldmw ag142 sz142 rfl mm rfl rfl) rfl rfl rfl ?_
 refine o_q (q_mv (mv)) rfl rfl rfl ?_
 refine o_q (q_fr fo49_6 rfl) rfl rfl rfl ?_
 refine o_q (q_ldm ag3 sz3 rfl mm rfl (v_raw rfl)) rfl rfl rfl ?_
 refine o_call (((snd179 s t w y c.n _ mm mm htw).det)) goes179 (ac (v_agg rfl) (ac (mv) (ac (v_raw rfl) ac_nil))) rfl ?_
 refine o_q (q_mv (v_tup rfl)) rfl rfl rfl ?_
 refine o_q (q_ext rfl rfl (v_agg rfl)) rfl rfl rfl ?_
 refine o_q (q_ext rfl rfl (v_raw rfl)) rfl rfl rfl ?_
 refine o_storew rfl mm mf rfl sz142 rfl rfl rfl rfl ?_
 refine o_q (q_as (v_raw rfl)) rfl rfl rfl ?_
 refine o_nil ?_
 refine s_blk_normal ?_
 refine s_seq ?_
 refine s_seq ?_
 refine s_region ?_
 refine o_q (q_mv (v_raw rfl)) rfl rfl rfl ?_
 refine o_q (q_neq rfl rfl) rfl rfl rfl ?_
 refine o_nil ?_
 refine s_cond rfl (fun h1 => ?_) (fun h1 => ?_)
 ·have k1 := h1; try simp only [decide_eq_true_eq, decide_eq_false_iff_not, Bool.not_eq_true', Bool.not_eq_false', Bool.not_true, Bool.not_false, List.length_map, Decidable.not_not] at k1
  refine s_seq ?_
  refine s_region ?_
  refine o_q (q_mv (v_raw rfl)) rfl rfl rfl ?_
  refine o_call (((code61 ((seekS s y c.n).2) (0) _))) goes69 (ac (v_raw rfl) (ac (v_raw rfl) ac_nil)) rfl ?_
  refine o_storew rfl mm mf rfl sz56 rfl rfl rfl rfl ?_
  refine o_nil ?_
  refine s_ret ?_
  refine s_code_ret ?_
  refine s_end ?_
  exact ret_cell (.inl rfl) rfl rfl mm (loadP_w ag56 sz56 rfl rfl) ⟨(by rw [if_neg k1, if_neg k1]; rfl), (by rw [show (if (seekS s y c.n).2 = 0 then kput x.sbs c.name (seekS s y c.n).1 else x.sbs) = x.sbs from if_neg k1]; repeat first | exact Mem.upd_self _ _ _ | assumption | refine Mem.upd_ne (by assumption) ?_), (by intro d h1 h2; repeat (first | rfl | refine (upd_other (by first | assumption | exact mem_put (by assumption) h2)).trans ?_))⟩
 ·have k1 := h1; try simp only [decide_eq_true_eq, decide_eq_false_iff_not, Bool.not_eq_true', Bool.not_eq_false', Bool.not_true, Bool.not_false, List.length_map, Decidable.not_not] at k1
  refine s_skip ?_
  refine s_seq ?_
  refine s_draw rfl ?_
  refine d_q rfl (q_mv (mv)) rfl rfl rfl ?_
  refine d_q rfl (q_nil rfl) rfl rfl rfl ?_
  refine d_q rfl (q_fr fo124_1 rfl) rfl rfl rfl ?_
  refine d_q rfl (q_ldm ag121 sz121 rfl mm rfl (v_raw rfl)) rfl rfl rfl ?_
  refine d_q rfl (q_fr fo49_2 rfl) rfl rfl rfl ?_
  refine d_q rfl (q_ldm ag9 sz9 rfl mm rfl (v_raw rfl)) rfl rfl rfl ?_
  refine d_q rfl (q_ldmw ag142 sz142 rfl mm rfl rfl) rfl rfl rfl ?_
  refine d_s rfl ?_
  refine o_mput und121 kt9 rfl rfl mm (f := encSb) (v := (seekS s y c.n).1) (v_agg rfl) ?_
  refine o_nil ⟨(by simp [Mem.upd, *]), ?_⟩
  refine d_nil ?_
  refine s_seq ?_
  refine s_seq ?_
  refine s_region ?_
  refine o_q (q_fr fo49_0 rfl) rfl rfl rfl ?_
  refine o_q (q_ldm ag3 sz3 rfl mm rfl (v_raw rfl)) rfl rfl rfl ?_
  refine o_q (q_eql rfl rfl) rfl rfl rfl ?_
  refine o_nil ?_
  refine s_else rfl (decide_eq_false (by omega)) ?_
  refine s_skip ?_
  refine s_seq ?_
  refine s_region ?_
  refine o_q (q_mv (v_raw rfl)) rfl rfl rfl ?_
  refine o_q (q_fr fo142_2 rfl) rfl rfl rfl ?_
  refine o_q (q_ldm ag3 sz3 rfl mm rfl (v_raw rfl)) rfl rfl rfl ?_
  refine o_call (((code61 ((seekS s y c.n).2) ((seekS s y c.n).1.cur) _))) goes69 (ac (v_raw rfl) (ac (v_raw rfl) ac_nil)) rfl ?_
  refine o_storew rfl mm mf rfl sz56 rfl rfl rfl rfl ?_
  refine o_nil ?_
  refine s_ret ?_
  refine s_end ?_
  exact ret_cell (.inl rfl) rfl rfl mm (loadP_w ag56 sz56 rfl rfl) ⟨(by rw [if_pos k1]; rfl), (by rw [show (if (seekS s y c.n).2 = 0 then kput x.sbs c.name (seekS s y c.n).1 else x.sbs) = kput x.sbs c.name (seekS s y c.n).1 from if_pos k1]; repeat first | exact Mem.upd_self _ _ _ | assumption | refine Mem.upd_ne (by assumption) ?_), (by intro d h1 h2; repeat (first | rfl | refine (upd_other (by first | assumption | exact mem_put (by assumption) h2)).trans ?_))⟩

def tk70 : Nat → Nat → Option Nat := fun _ _ => none
def pl70 : Nat → List PStep := fun _ => []
theorem cb70 : Tryz.f70.body.map (codeB Tryz.prog Tryz.f70.ntmps tk70 pl70) = some true := by kernel_rfl
theorem goes70 : goesB Tryz.prog 70 = true := by kernel_rfl

def fnK (k : Int) : Nat := if k = 1 then 117 else if k = 3 then 118 else if k = 2 ∨ k = 8 ∨ k = 9 then 119 else if k = 4 ∨ k = 5 ∨ k = 6 ∨ k = 7 then 120 else 121
def W7.get (w : W7) (n : Nat) : Bool := match n with
 | 0 => w.a
 | 1 => w.b
 | 2 => w.c
 | 3 => w.d
 | 4 => w.e
 | 5 => w.f
 | 6 => w.g
 | _ => false
theorem wL_get {w : W7} {n o : Nat} (h : n < 7) (ho : o = n) : piece false (wL w) o 1 = some (bool (w.get n)) := by
 subst ho
 have : o = 0 ∨ o = 1 ∨ o = 2 ∨ o = 3 ∨ o = 4 ∨ o = 5 ∨ o = 6 := by omega
 rcases this with rfl | rfl | rfl | rfl | rfl | rfl | rfl <;> rfl
def W7.idx (w : W7) (n : Nat) : List Nat := (List.range n).filter w.get
theorem idx_succ (w : W7) (n : Nat) : w.idx (n + 1) = w.idx n ++ if w.get n then [n] else [] := by
 unfold W7.idx
 rw [List.range_succ, List.filter_append]
 cases h : w.get n <;> simp [List.filter_cons, h]
theorem idx_len (w : W7) (n : Nat) : (w.idx n).length ≤ n := by
 have := List.length_filter_le w.get (List.range n)
 rw [List.length_range] at this; exact this
def natV (n : Nat) : AVal := int (n : Int)
theorem elsNat {l : List Nat} : Els 1 (l.map natV) := Els.map fun _ => ⟨rfl, rfl⟩
def W7.zero : W7 := ⟨false, false, false, false, false, false, false⟩
set_option maxHeartbeats 4000000 in
set_option maxRecDepth 20000 in
theorem snd70 (k : Int) (M : Mem) : SoundCall Tryz.prog 70 [int k] M fun r M' => r = .raw (.func (.func (fnK k)) #[] #[]) ∧ M' = M := by
 refine SoundCall.go tk70 pl70 mixed Tryz.func70 cb70 rfl (Nat.le_of_ble_eq_true rfl) ?_
 refine s_seq ?_
 refine s_region ?_
 refine o_q (q_as (v_raw rfl)) rfl rfl rfl ?_
 refine o_nil ?_
 refine s_seq ?_
 refine s_seq ?_
 refine s_region ?_
 refine o_q (q_mv (v_raw rfl)) rfl rfl rfl ?_
 refine o_nil ?_
 refine s_block ?_
 refine s_seq ?_
 refine s_region ?_
 refine o_q (q_eql rfl rfl) rfl rfl rfl ?_
 refine o_q (q_as (v_raw rfl)) rfl rfl rfl ?_
 refine o_nil ?_
 refine s_cond rfl (fun h1 => ?_) (fun h1 => ?_)
 ·have k1 := h1; try simp only [decide_eq_true_eq, decide_eq_false_iff_not, Bool.not_eq_true', Bool.not_eq_false', Bool.not_true, Bool.not_false, List.length_map, Decidable.not_not] at k1
  refine s_seq ?_
  refine s_region ?_
  refine o_q (q_as (v_raw rfl)) rfl rfl rfl ?_
  refine o_nil ?_
  refine s_ret ?_
  refine s_blk_ret ?_
  refine s_code_ret ?_
  refine s_end ?_
  refine ⟨Eq.trans (b := AVal.raw (.func (.func _) #[] #[])) rfl ?_, rfl⟩
  simp only [decide_eq_true_eq, decide_eq_false_iff_not] at *
  simp_all [fnK]
 ·have k1 := h1; try simp only [decide_eq_true_eq, decide_eq_false_iff_not, Bool.not_eq_true', Bool.not_eq_false', Bool.not_true, Bool.not_false, List.length_map, Decidable.not_not] at k1
  refine s_seq ?_
  refine s_region ?_
  refine o_q (q_eql rfl rfl) rfl rfl rfl ?_
  refine o_q (q_as (v_raw rfl)) rfl rfl rfl ?_
  refine o_nil ?_
  refine s_cond rfl (fun h2 => ?_) (fun h2 => ?_)
  ·have k2 := h2; try simp only [decide_eq_true_eq, decide_eq_false_iff_not, Bool.not_eq_true', Bool.not_eq_false', Bool.not_true, Bool.not_false, List.length_map, Decidable.not_not] at k2
   refine s_seq ?_
   refine s_region ?_
   refine o_q (q_as (v_raw rfl)) rfl rfl rfl ?_
   refine o_nil ?_
   refine s_ret ?_
   refine s_blk_ret ?_
   refine s_code_ret ?_
   refine s_end ?_
   refine ⟨Eq.trans (b := AVal.raw (.func (.func _) #[] #[])) rfl ?_, rfl⟩
   simp only [decide_eq_true_eq, decide_eq_false_iff_not] at *
   simp_all [fnK]
  ·have k2 := h2; try simp only [decide_eq_true_eq, decide_eq_false_iff_not, Bool.not_eq_true', Bool.not_eq_false', Bool.not_true, Bool.not_false, List.length_map, Decidable.not_not] at k2
   refine s_seq ?_
   refine s_seq ?_
   refine s_region ?_
   refine o_q (q_eql rfl rfl) rfl rfl rfl ?_
   refine o_q (q_as (v_raw rfl)) rfl rfl rfl ?_
   refine o_nil ?_
   refine s_cond rfl (fun h3 => ?_) (fun h3 => ?_)
   ·have k3 := h3; try simp only [decide_eq_true_eq, decide_eq_false_iff_not, Bool.not_eq_true', Bool.not_eq_false', Bool.not_true, Bool.not_false, List.length_map, Decidable.not_not] at k3
    refine s_skip ?_
    refine s_then rfl h3 ?_
    refine s_seq ?_
    refine s_region ?_
    refine o_q (q_as (v_raw rfl)) rfl rfl rfl ?_
    refine o_nil ?_
    refine s_ret ?_
    refine s_blk_ret ?_
    refine s_code_ret ?_
    refine s_end ?_
    refine ⟨Eq.trans (b := AVal.raw (.func (.func _) #[] #[])) rfl ?_, rfl⟩
    simp only [decide_eq_true_eq, decide_eq_false_iff_not] at *
    simp_all [fnK]
   ·have k3 := h3; try simp only [decide_eq_true_eq, decide_eq_false_iff_not, Bool.not_eq_true', Bool.not_eq_false', Bool.not_true, Bool.not_false, List.length_map, Decidable.not_not] at k3
    refine s_seq ?_
    refine s_region ?_
    refine o_q (q_eql rfl rfl) rfl rfl rfl ?_
    refine o_q (q_as (v_raw rfl)) rfl rfl rfl ?_
    refine o_nil ?_
    refine s_cond rfl (fun h4 => ?_) (fun h4 => ?_)
    ·have k4 := h4; try simp only [decide_eq_true_eq, decide_eq_false_iff_not, Bool.not_eq_true', Bool.not_eq_false', Bool.not_true, Bool.not_false, List.length_map, Decidable.not_not] at k4
     refine s_skip ?_
     refine s_then rfl h4 ?_
     refine s_seq ?_
     refine s_region ?_
     refine o_q (q_as (v_raw rfl)) rfl rfl rfl ?_
     refine o_nil ?_
     refine s_ret ?_
     refine s_blk_ret ?_
     refine s_code_ret ?_
     refine s_end ?_
     refine ⟨Eq.trans (b := AVal.raw (.func (.func _) #[] #[])) rfl ?_, rfl⟩
     simp only [decide_eq_true_eq, decide_eq_false_iff_not] at *
     simp_all [fnK]
    ·have k4 := h4; try simp only [decide_eq_true_eq, decide_eq_false_iff_not, Bool.not_eq_true', Bool.not_eq_false', Bool.not_true, Bool.not_false, List.length_map, Decidable.not_not] at k4
     refine s_region ?_
     refine o_q (q_eql rfl rfl) rfl rfl rfl ?_
     refine o_q (q_as (v_raw rfl)) rfl rfl rfl ?_
     refine o_nil ?_
     refine s_cond rfl (fun h5 => ?_) (fun h5 => ?_)
     ·have k5 := h5; try simp only [decide_eq_true_eq, decide_eq_false_iff_not, Bool.not_eq_true', Bool.not_eq_false', Bool.not_true, Bool.not_false, List.length_map, Decidable.not_not] at k5
      refine s_seq ?_
      refine s_region ?_
      refine o_q (q_as (v_raw rfl)) rfl rfl rfl ?_
      refine o_nil ?_
      refine s_ret ?_
      refine s_blk_ret ?_
      refine s_code_ret ?_
      refine s_end ?_
      refine ⟨Eq.trans (b := AVal.raw (.func (.func _) #[] #[])) rfl ?_, rfl⟩
      simp only [decide_eq_true_eq, decide_eq_false_iff_not] at *
      simp_all [fnK]
     ·have k5 := h5; try simp only [decide_eq_true_eq, decide_eq_false_iff_not, Bool.not_eq_true', Bool.not_eq_false', Bool.not_true, Bool.not_false, List.length_map, Decidable.not_not] at k5
      refine s_seq ?_
      refine s_seq ?_
      refine s_region ?_
      refine o_q (q_eql rfl rfl) rfl rfl rfl ?_
      refine o_q (q_as (v_raw rfl)) rfl rfl rfl ?_
      refine o_nil ?_
      refine s_cond rfl (fun h6 => ?_) (fun h6 => ?_)
      ·have k6 := h6; try simp only [decide_eq_true_eq, decide_eq_false_iff_not, Bool.not_eq_true', Bool.not_eq_false', Bool.not_true, Bool.not_false, List.length_map, Decidable.not_not] at k6
       refine s_skip ?_
       refine s_then rfl h6 ?_
       refine s_seq ?_
       refine s_region ?_
       refine o_q (q_as (v_raw rfl)) rfl rfl rfl ?_
       refine o_nil ?_
       refine s_ret ?_
       refine s_blk_ret ?_
       refine s_code_ret ?_
       refine s_end ?_
       refine ⟨Eq.trans (b := AVal.raw (.func (.func _) #[] #[])) rfl ?_, rfl⟩
       simp only [decide_eq_true_eq, decide_eq_false_iff_not] at *
       simp_all [fnK]
      ·have k6 := h6; try simp only [decide_eq_true_eq, decide_eq_false_iff_not, Bool.not_eq_true', Bool.not_eq_false', Bool.not_true, Bool.not_false, List.length_map, Decidable.not_not] at k6
       refine s_seq ?_
       refine s_region ?_
       refine o_q (q_eql rfl rfl) rfl rfl rfl ?_
       refine o_q (q_as (v_raw rfl)) rfl rfl rfl ?_
       refine o_nil ?_
       refine s_cond rfl (fun h7 => ?_) (fun h7 => ?_)
       ·have k7 := h7; try simp only [decide_eq_true_eq, decide_eq_false_iff_not, Bool.not_eq_true', Bool.not_eq_false', Bool.not_true, Bool.not_false, List.length_map, Decidable.not_not] at k7
        refine s_skip ?_
        refine s_then rfl h7 ?_
        refine s_seq ?_
        refine s_region ?_
        refine o_q (q_as (v_raw rfl)) rfl rfl rfl ?_
        refine o_nil ?_
        refine s_ret ?_
        refine s_blk_ret ?_
        refine s_code_ret ?_
        refine s_end ?_
        refine ⟨Eq.trans (b := AVal.raw (.func (.func _) #[] #[])) rfl ?_, rfl⟩
        simp only [decide_eq_true_eq, decide_eq_false_iff_not] at *
        simp_all [fnK]
       ·have k7 := h7; try simp only [decide_eq_true_eq, decide_eq_false_iff_not, Bool.not_eq_true', Bool.not_eq_false', Bool.not_true, Bool.not_false, List.length_map, Decidable.not_not] at k7
        refine s_seq ?_
        refine s_region ?_
        refine o_q (q_eql rfl rfl) rfl rfl rfl ?_
        refine o_q (q_as (v_raw rfl)) rfl rfl rfl ?_
        refine o_nil ?_
        refine s_cond rfl (fun h8 => ?_) (fun h8 => ?_)
        ·have k8 := h8; try simp only [decide_eq_true_eq, decide_eq_false_iff_not, Bool.not_eq_true', Bool.not_eq_false', Bool.not_true, Bool.not_false, List.length_map, Decidable.not_not] at k8
         refine s_skip ?_
         refine s_then rfl h8 ?_
         refine s_seq ?_
         refine s_region ?_
         refine o_q (q_as (v_raw rfl)) rfl rfl rfl ?_
         refine o_nil ?_
         refine s_ret ?_
         refine s_blk_ret ?_
         refine s_code_ret ?_
         refine s_end ?_
         refine ⟨Eq.trans (b := AVal.raw (.func (.func _) #[] #[])) rfl ?_, rfl⟩
         simp only [decide_eq_true_eq, decide_eq_false_iff_not] at *
         simp_all [fnK]
        ·have k8 := h8; try simp only [decide_eq_true_eq, decide_eq_false_iff_not, Bool.not_eq_true', Bool.not_eq_false', Bool.not_true, Bool.not_false, List.length_map, Decidable.not_not] at k8
         refine s_region ?_
         refine o_q (q_eql rfl rfl) rfl rfl rfl ?_
         refine o_q (q_as (v_raw rfl)) rfl rfl rfl ?_
         refine o_nil ?_
         refine s_cond rfl (fun h9 => ?_) (fun h9 => ?_)
         ·have k9 := h9; try simp only [decide_eq_true_eq, decide_eq_false_iff_not, Bool.not_eq_true', Bool.not_eq_false', Bool.not_true, Bool.not_false, List.length_map, Decidable.not_not] at k9
          refine s_seq ?_
          refine s_region ?_
          refine o_q (q_as (v_raw rfl)) rfl rfl rfl ?_
          refine o_nil ?_
          refine s_ret ?_
          refine s_blk_ret ?_
          refine s_code_ret ?_
          refine s_end ?_
          refine ⟨Eq.trans (b := AVal.raw (.func (.func _) #[] #[])) rfl ?_, rfl⟩
          simp only [decide_eq_true_eq, decide_eq_false_iff_not] at *
          simp_all [fnK]
         ·have k9 := h9; try simp only [decide_eq_true_eq, decide_eq_false_iff_not, Bool.not_eq_true', Bool.not_eq_false', Bool.not_true, Bool.not_false, List.length_map, Decidable.not_not] at k9
          refine s_skip ?_
          refine s_blk_normal ?_
          refine s_seq ?_
          refine s_region ?_
          refine o_q (q_as (v_raw rfl)) rfl rfl rfl ?_
          refine o_nil ?_
          refine s_ret ?_
          refine s_end ?_
          refine ⟨Eq.trans (b := AVal.raw (.func (.func _) #[] #[])) rfl ?_, rfl⟩
          simp only [decide_eq_true_eq, decide_eq_false_iff_not] at *
          simp_all [fnK]

def tk65 : Nat → Nat → Option Nat
 | 1, 0 => some 0
 | 6, 0 => some 0
 | 6, 4 => some 0
 | _, _ => none
def pl65 : Nat → List PStep := fun _ => []
theorem cb65 : Tryz.f65.body.map (codeB Tryz.prog Tryz.f65.ntmps tk65 pl65) = some true := by kernel_rfl
theorem goes65 : goesB Tryz.prog 65 = true := by kernel_rfl
set_option maxHeartbeats 4000000 in
set_option maxRecDepth 20000 in
theorem snd65 (b mt ms : Nat) (x : Mc) (M : Mem) (hb : M b = some (.cells (mcC mt ms x))) : SoundCall Tryz.prog 65 [ptr b] M fun r M' => r = .sl ((x.want.idx 7).map natV) false ∧ M' = M := by
 have hil : ∀ i, (x.want.idx i).length ≤ i := idx_len x.want
 refine SoundCall.go tk65 pl65 mixed Tryz.func65 cb65 rfl (Nat.le_of_ble_eq_true rfl) ?_
 refine s_seq ?_
 refine s_region ?_
 refine o_q (q_as (v_sl rfl)) rfl rfl rfl ?_
 refine o_nil ?_
 refine s_seq ?_
 refine s_region ?_
 refine o_q (q_as_const rfl) rfl rfl rfl ?_
 refine o_nil ?_
 refine s_seq ?_
 refine s_seq ?_
 refine s_region ?_
 refine o_q (q_mv (mv)) rfl rfl rfl ?_
 refine o_q (q_nil rfl) rfl rfl rfl ?_
 refine o_q (q_fr fo124_2 rfl) rfl rfl rfl ?_
 refine o_q (q_ldm ag122 sz122 rfl mm rfl (v_agg rfl)) rfl rfl rfl ?_
 refine o_q (q_mv (v_raw rfl)) rfl rfl rfl ?_
 refine o_nil ?_
 refine s_block ?_
 refine s_loop (fun m S => ∃ T, ∃ i : Nat, S = ⟨setT (setT (setT T 3 (.sl ((x.want.idx i).map natV) true)) 9 (.agg (wL x.want))) 10 (int (i : Nat)), M⟩ ∧ i ≤ 7 ∧ m = 7 - i) 7 ?_ ?_
 ·exact ⟨_, 0, St.mkT (kp (kp (kp rfl rfl) rfl) rfl).symm, by omega, rfl⟩
 rintro m S ⟨T, i, rfl, hi, rfl⟩
 refine s_seq ?_
 refine s_region ?_
 refine o_q (q_lss rfl rfl) rfl rfl rfl ?_
 refine o_nil ?_
 refine s_seq ?_
 refine s_cond rfl (fun h1 => ?_) (fun h1 => ?_)
 ·have k1 := h1; try simp only [decide_eq_true_eq, decide_eq_false_iff_not, Bool.not_eq_true', Bool.not_eq_false', Bool.not_true, Bool.not_false, List.length_map, Decidable.not_not] at k1
  have hi7 : i < 7 := by omega
  have hil2 := hil i
  refine s_skip ?_
  refine s_seq ?_
  refine s_block ?_
  refine s_seq ?_
  refine s_region ?_
  refine o_q (q_mv (v_raw rfl)) rfl rfl rfl ?_
  refine o_q (q_ix und122 sz4 ag4 rfl rfl (by omega) (by omega) (wL_get hi7 (by omega)) (v_raw rfl)) rfl rfl rfl ?_
  refine o_q (q_as (v_raw rfl)) rfl rfl rfl ?_
  refine o_q (q_as (v_raw rfl)) rfl rfl rfl ?_
  refine o_nil ?_
  refine s_seq ?_
  refine s_region ?_
  refine o_q (q_mv (v_raw rfl)) rfl rfl rfl ?_
  refine o_nil ?_
  refine s_cond rfl (fun h2 => ?_) (fun h2 => ?_)
  ·have k2 := h2; try simp only [decide_eq_true_eq, decide_eq_false_iff_not, Bool.not_eq_true', Bool.not_eq_false', Bool.not_true, Bool.not_false, List.length_map, Decidable.not_not] at k2
   refine s_region ?_
   refine o_qs (q_mv_own rfl) rfl rfl rfl rfl ?_
   refine o_q (q_mv (v_raw rfl)) rfl rfl rfl ?_
   refine o_q (q_bs slt118 (pc (v_raw rfl) pn) rfl (Els.cons rfl rfl Els.nil) (by decide)) rfl rfl rfl ?_
   refine o_qs (q_app slt118 rfl rfl rfl rfl elsNat (by first | exact elsNat | exact Els.cons rfl rfl Els.nil) (by simp; omega)) rfl rfl rfl rfl ?_
   refine o_qs (q_as_own rfl) rfl rfl rfl rfl ?_
   refine o_nil ?_
   refine s_blk_normal ?_
   refine s_region ?_
   refine o_q (q_add rfl rfl (wrap64 (by omega) (by omega))) rfl rfl rfl ?_
   refine o_q (q_mv (v_raw rfl)) rfl rfl rfl ?_
   refine o_nil ?_
   refine s_inv ?_
   exact ⟨7 - (i + 1), by omega, _, i + 1, St.mkT (kp (kp (kp rfl (congrArg (fun l => AVal.sl l true) (by rw [idx_succ, if_pos h2, List.map_append]; rfl))) rfl) rfl).symm, by omega, rfl⟩
  ·have k2 := h2; try simp only [decide_eq_true_eq, decide_eq_false_iff_not, Bool.not_eq_true', Bool.not_eq_false', Bool.not_true, Bool.not_false, List.length_map, Decidable.not_not] at k2
   refine s_skip ?_
   refine s_blk_normal ?_
   refine s_region ?_
   refine o_q (q_add rfl rfl (wrap64 (by omega) (by omega))) rfl rfl rfl ?_
   refine o_q (q_mv (v_raw rfl)) rfl rfl rfl ?_
   refine o_nil ?_
   refine s_inv ?_
   exact ⟨7 - (i + 1), by omega, _, i + 1, St.mkT (kp (kp (kp rfl (congrArg (fun l => AVal.sl l true) (by rw [idx_succ, if_neg (by rw [show x.want.get i = false from h2]; decide), List.append_nil]))) rfl) rfl).symm, by omega, rfl⟩
 ·have k1 := h1; try simp only [decide_eq_true_eq, decide_eq_false_iff_not, Bool.not_eq_true', Bool.not_eq_false', Bool.not_true, Bool.not_false, List.length_map, Decidable.not_not] at k1
  refine s_exit ?_
  refine s_code_exit ?_
  refine s_inv_exit ?_
  refine s_blk_here ?_
  refine s_seq ?_
  refine s_region ?_
  refine o_q (q_mv (v_sl rfl)) rfl rfl rfl ?_
  refine o_q (q_as (v_sl rfl)) rfl rfl rfl ?_
  refine o_nil ?_
  refine s_ret ?_
  refine s_end ?_
  obtain rfl : i = 7 := by omega
  exact ⟨rfl, rfl⟩

def tk33 : Nat → Nat → Option Nat := fun _ _ => none
def pl33 : Nat → List PStep := fun _ => []
theorem cb33 : Tryz.f33.body.map (codeB Tryz.prog Tryz.f33.ntmps tk33 pl33) = some true := by kernel_rfl
theorem goes33 : goesB Tryz.prog 33 = true := by kernel_rfl
set_option maxHeartbeats 4000000 in
set_option maxRecDepth 20000 in
theorem snd33 (b mt ms : Nat) (x : Mc) (M : Mem) (hb : M b = some (.cells (mcC mt ms x))) : SoundCall Tryz.prog 33 [ptr b] M fun r M' => r = int x.cnt ∧ M' = M := by
 refine SoundCall.go tk33 pl33 mixed Tryz.func33 cb33 rfl (Nat.le_of_ble_eq_true rfl) ?_
 refine s_seq ?_
 refine s_region ?_
 refine o_q (q_as (v_raw rfl)) rfl rfl rfl ?_
 refine o_nil ?_
 refine s_seq ?_
 refine s_region ?_
 refine o_q (q_mv (mv)) rfl rfl rfl ?_
 refine o_q (q_nil rfl) rfl rfl rfl ?_
 refine o_q (q_fr fo124_3 rfl) rfl rfl rfl ?_
 refine o_q (q_ldm ag3 sz3 rfl mm rfl (v_raw rfl)) rfl rfl rfl ?_
 refine o_q (q_as (v_raw rfl)) rfl rfl rfl ?_
 refine o_nil ?_
 refine s_ret ?_
 refine s_end ?_
 exact ⟨rfl, rfl⟩

def tk64 : Nat → Nat → Option Nat := fun _ _ => none
def pl64 : Nat → List PStep := fun _ => []
theorem cb64 : Tryz.f64.body.map (codeB Tryz.prog Tryz.f64.ntmps tk64 pl64) = some true := by kernel_rfl
theorem goes64 : goesB Tryz.prog 64 = true := by kernel_rfl
set_option maxHeartbeats 4000000 in
set_option maxRecDepth 20000 in
theorem snd64 (b mt ms : Nat) (x : Mc) (dir : List (ByteArray × Nat)) (k : ByteArray) (M : Mem) (hb : M b = some (.cells (mcC mt ms x))) (hm : MapAt ptrV M mt dir) : SoundCall Tryz.prog 64 [ptr b, str k] M fun r M' => r = .tup [.raw (((gets dir k).map ptrV).getD (.pointer none)), bool (gets dir k).isSome] ∧ M' = M := by
 refine SoundCall.go tk64 pl64 mixed Tryz.func64 cb64 rfl (Nat.le_of_ble_eq_true rfl) ?_
 refine s_seq ?_
 refine s_region ?_
 refine o_q (q_as (mv)) rfl rfl rfl ?_
 refine o_q (q_as (v_raw rfl)) rfl rfl rfl ?_
 refine o_nil ?_
 refine s_seq ?_
 refine s_region ?_
 refine o_q (q_mv (mv)) rfl rfl rfl ?_
 refine o_q (q_nil rfl) rfl rfl rfl ?_
 refine o_q (q_fr fo124_0 rfl) rfl rfl rfl ?_
 refine o_q (q_ldm ag120 sz120 rfl mm rfl (v_raw rfl)) rfl rfl rfl ?_
 refine o_q (q_mv (v_raw rfl)) rfl rfl rfl ?_
 refine m_get2 (k := k) und120 kt9 z24 rfl rfl hm ?_
 refine o_q (q_mv (v_tup rfl)) rfl rfl rfl ?_
 refine o_q (q_ext rfl rfl (mv)) rfl rfl rfl ?_
 refine o_q (q_ext rfl rfl (v_raw rfl)) rfl rfl rfl ?_
 refine o_q (q_as (mv)) rfl rfl rfl ?_
 refine o_q (q_as (v_raw rfl)) rfl rfl rfl ?_
 refine o_nil ?_
 refine s_seq ?_
 refine s_region ?_
 refine o_q (q_mv (mv)) rfl rfl rfl ?_
 refine o_q (q_mv (v_raw rfl)) rfl rfl rfl ?_
 refine o_q (q_as (mv)) rfl rfl rfl ?_
 refine o_q (q_as (v_raw rfl)) rfl rfl rfl ?_
 refine o_nil ?_
 refine s_ret ?_
 refine s_end ?_
 exact ret_many (.inl rfl) rfl (rl_t rfl (rl_t rfl rl_nil)) rfl ⟨rfl, rfl⟩

def tk121 : Nat → Nat → Option Nat := fun _ _ => none
def pl121 : Nat → List PStep := fun _ => []
theorem cb121 : Tryz.f121.body.map (codeB Tryz.prog Tryz.f121.ntmps tk121 pl121) = some true := by kernel_rfl
theorem w7eq (x y : Operand) (w : W7) : aBin Tryz.prog .eql 122 x y (.agg (wL w)) (.agg (wL .zero)) = some (.raw (.bool (decide (w = .zero)))) := by
 obtain ⟨a, b, c, d, e, f, g⟩ := w
 cases a <;> cases b <;> cases c <;> cases d <;> cases e <;> cases f <;> cases g <;> kernel_rfl
set_option maxHeartbeats 4000000 in
set_option maxRecDepth 20000 in
theorem snd121 (b mt ms : Nat) (x : Mc) (c : Cmd) (M : Mem) (hb : M b = some (.cells (mcC mt ms x))) (hn : 0 ≤ c.n ∧ c.n < 7) : SoundCall Tryz.prog 121 [ptr b, encC c] M fun r M' => r = rpV (if (x.want.set c.n.toNat (decide (c.kind = 10))) = .zero then 7 else 0) (if (x.want.set c.n.toNat (decide (c.kind = 10))) = .zero then 0 else (((x.want.set c.n.toNat (decide (c.kind = 10))).idx 7).length : Int)) [] false ∧ (if (x.want.set c.n.toNat (decide (c.kind = 10))) = .zero then M else M.upd b (.cells (mcC mt ms ⟨x.tps, x.sbs, (x.want.set c.n.toNat (decide (c.kind = 10))), x.cnt, x.dig⟩))).le M' := by
 have hnn : (c.n.toNat : Int) = c.n := Int.toNat_of_nonneg hn.1
 refine SoundCall.go tk121 pl121 mixed Tryz.func121 cb121 rfl (Nat.le_of_ble_eq_true rfl) ?_
 refine s_seq ?_
 refine s_region ?_
 refine o_box (by first | exact e_raw rfl | exact e_agg rfl | exact e_sl rfl) rfl rfl (fun B1 hB1 => ?_)
 have cbF1 : b ≠ B1 := Mem.fresh_ne hB1 mm
 have cbF1' := cbF1.symm
 have m1 : M B1 = none := by have h := hB1; repeat (first | exact h | exact Mem.none_of_le hle h | replace h := (Mem.upd_none h).2)
 refine o_alloc zc56 (fun B2 hB2 => ?_)
 have cb2 : b ≠ B2 := Mem.fresh_ne hB2 mm
 have cb2' := cb2.symm
 have f1_2 : B1 ≠ B2 := Mem.fresh_ne hB2 mm
 have g2_1 : B2 ≠ B1 := f1_2.symm
 have m2 : M B2 = none := by have h := hB2; repeat (first | exact h | exact Mem.none_of_le hle h | replace h := (Mem.upd_none h).2)
 refine o_nil ?_
 refine s_seq ?_
 refine s_region ?_
 refine o_q (q_mv (mv)) rfl rfl rfl ?_
 refine o_q (q_nil rfl) rfl rfl rfl ?_
 refine o_q (q_fr fo124_2 rfl) rfl rfl rfl ?_
 refine o_q (q_ldm ag122 sz122 rfl mm rfl (v_agg rfl)) rfl rfl rfl ?_
 refine o_alloc zc122 (fun B3 hB3 => ?_)
 have cbF3 : b ≠ B3 := Mem.fresh_ne hB3 mm
 have cbF3' := cbF3.symm
 have f1_3 : B1 ≠ B3 := Mem.fresh_ne hB3 mm
 have g3_1 : B3 ≠ B1 := f1_3.symm
 have f2_3 : B2 ≠ B3 := Mem.fresh_ne hB3 mm
 have g3_2 : B3 ≠ B2 := f2_3.symm
 have m3 : M B3 = none := by have h := hB3; repeat (first | exact h | exact Mem.none_of_le hle h | replace h := (Mem.upd_none h).2)
 refine o_store rfl mm me rfl sz122 rfl (Nat.le_of_ble_eq_true rfl) rfl rfl ?_
 refine o_nil ?_
 refine s_seq ?_
 refine s_region ?_
 refine o_q (q_fr fo49_6 rfl) rfl rfl rfl ?_
 refine o_q (q_ldm ag3 sz3 rfl mm rfl (v_raw rfl)) rfl rfl rfl ?_
 refine o_q (q_fr fo49_0 rfl) rfl rfl rfl ?_
 refine o_q (q_ldm ag3 sz3 rfl mm rfl (v_raw rfl)) rfl rfl rfl ?_
 refine o_q (q_eql rfl rfl) rfl rfl rfl ?_
 refine o_q (q_idxa und122 sz4 rfl rfl (by omega) (by omega)) rfl rfl rfl ?_
 refine o_store rfl mm me rfl sz4 rfl (by show 0 + c.n.toNat * 1 + 1 ≤ 7; omega) rfl (Eq.trans (congrArg (fun q => splice _ q _) (show 0 + c.n.toNat * 1 = c.n.toNat by omega)) (wL_set (w := x.want) (n := c.n.toNat) (v := decide (c.kind = 10)) (by omega))) ?_
 refine o_nil ?_
 refine s_seq ?_
 refine s_seq ?_
 refine s_region ?_
 refine o_q (q_ldm ag122 sz122 rfl mm rfl (v_agg rfl)) rfl rfl rfl ?_
 refine o_q (q_b (cs := [.raw (.bool false), .raw (.bool false), .raw (.bool false), .raw (.bool false), .raw (.bool false), .raw (.bool false), .raw (.bool false)]) bz122 bp122 bf_nil) rfl rfl rfl ?_
 refine o_q (q_bin' rfl rfl (w7eq _ _ (x.want.set c.n.toNat (decide (c.kind = 10))))) rfl rfl rfl ?_
 refine o_nil ?_
 refine s_cond rfl (fun h1 => ?_) (fun h1 => ?_)
 ·have k1 := h1; try simp only [decide_eq_true_eq, decide_eq_false_iff_not, Bool.not_eq_true', Bool.not_eq_false', Bool.not_true, Bool.not_false, List.length_map, Decidable.not_not] at k1
  refine s_seq ?_
  refine s_region ?_
  refine o_call (((code61 (7) (0) _))) goes69 (ac (v_raw rfl) (ac (v_raw rfl) ac_nil)) rfl ?_
  refine o_storew rfl mm mf rfl sz56 rfl rfl rfl rfl ?_
  refine o_nil ?_
  refine s_ret ?_
  refine s_code_ret ?_
  refine s_end ?_
  exact ret_cell (.inl rfl) rfl rfl mm (loadP_w ag56 sz56 rfl rfl) ⟨by rw [if_pos k1, if_pos k1]; rfl, by rw [if_pos k1]; exact (by repeat first | exact hle | exact Mem.le_refl M | assumption | exact Mem.none_of_le hle (by assumption) | refine Mem.le_upd ?_ ?_)⟩
 ·have k1 := h1; try simp only [decide_eq_true_eq, decide_eq_false_iff_not, Bool.not_eq_true', Bool.not_eq_false', Bool.not_true, Bool.not_false, List.length_map, Decidable.not_not] at k1
  refine s_skip ?_
  refine s_seq ?_
  refine s_region ?_
  refine o_q (q_mv (mv)) rfl rfl rfl ?_
  refine o_q (q_ldm ag122 sz122 rfl mm rfl (v_agg rfl)) rfl rfl rfl ?_
  refine o_q (q_nil rfl) rfl rfl rfl ?_
  refine o_q (q_fr fo124_2 rfl) rfl rfl rfl ?_
  refine o_store rfl mm me rfl sz122 rfl (Nat.le_of_ble_eq_true rfl) rfl rfl ?_
  refine o_nil ?_
  refine s_seq ?_
  refine s_region ?_
  refine o_q (q_mv (mv)) rfl rfl rfl ?_
  refine o_call ((snd65 b mt ms ⟨x.tps, x.sbs, (x.want.set c.n.toNat (decide (c.kind = 10))), x.cnt, x.dig⟩ _ mm)) goes65 (ac (mv) ac_nil) rfl ?_
  refine o_q (q_len rfl und118 rfl) rfl rfl rfl ?_
  refine o_call (((code61 (0) ((((x.want.set c.n.toNat (decide (c.kind = 10))).idx 7).map natV).length) _))) goes69 (ac (v_raw rfl) (ac (v_raw rfl) ac_nil)) rfl ?_
  refine o_storew rfl mm mf rfl sz56 rfl rfl rfl rfl ?_
  refine o_nil ?_
  refine s_ret ?_
  refine s_end ?_
  exact ret_cell (.inl rfl) rfl rfl mm (loadP_w ag56 sz56 rfl rfl) ⟨by rw [if_neg k1, if_neg k1]; exact congrArg (fun n : Nat => rpV 0 (n : Int) [] false) (List.length_map _), by rw [if_neg k1]; exact leB (fun c q hc h => by repeat first | exact h | exact hle c q h | refine Mem.upd_ne (by first | exact hc | exact Mem.ne_none h (by assumption)) ?_) mm⟩

def tk28 : Nat → Nat → Option Nat := fun _ _ => none
def pl28 : Nat → List PStep := fun _ => []
theorem cb28 : Tryz.f28.body.map (codeB Tryz.prog Tryz.f28.ntmps tk28 pl28) = some true := by kernel_rfl
theorem goes28 : goesB Tryz.prog 28 = true := by kernel_rfl

def W7.pre : Nat → W7
 | 0 => .zero
 | n + 1 => (W7.pre n).set n true
def newM (n : Nat) : Mc := ⟨[], [], W7.pre n, 0, ⟨1, 0⟩⟩
theorem mc_set {mt ms : Nat} {x : Mc} {n o : Nat} {v : Bool} (h : n < 7) (ho : o = 2 + n) : splice (mcC mt ms x) o [bool v] = mcC mt ms ⟨x.tps, x.sbs, x.want.set n v, x.cnt, x.dig⟩ := by
 subst ho
 have : n = 0 ∨ n = 1 ∨ n = 2 ∨ n = 3 ∨ n = 4 ∨ n = 5 ∨ n = 6 := by omega
 rcases this with rfl | rfl | rfl | rfl | rfl | rfl | rfl <;> rfl
set_option maxHeartbeats 4000000 in
set_option maxRecDepth 20000 in
theorem snd28 (nodes : Int) (M : Mem) : SoundCall Tryz.prog 28 [int nodes] M fun r M' => ((nodes < 1 ∨ 7 < nodes) ∧ r = .tup [.raw (.pointer none), int 1] ∧ M' = M) ∨ (1 ≤ nodes ∧ nodes ≤ 7 ∧ ∃ b mt ms, M b = none ∧ M mt = none ∧ M ms = none ∧ b ≠ ms ∧ r = .tup [ptr b, int 0] ∧ M' b = some (.cells (mcC mt ms (newM nodes.toNat))) ∧ MapAt ptrV M' mt ([] : List (ByteArray × Nat)) ∧ M' ms = some (sbK []) ∧ ∀ d, M d ≠ none → M' d = M d) := by
 refine SoundCall.go tk28 pl28 mixed Tryz.func28 cb28 rfl (Nat.le_of_ble_eq_true rfl) ?_
 refine s_seq ?_
 refine s_region ?_
 refine o_q (q_as (mv)) rfl rfl rfl ?_
 refine o_q (q_as (v_raw rfl)) rfl rfl rfl ?_
 refine o_nil ?_
 refine s_seq ?_
 refine s_seq ?_
 refine s_region ?_
 refine o_q (q_mv (v_raw rfl)) rfl rfl rfl ?_
 refine o_q (q_lss rfl rfl) rfl rfl rfl ?_
 refine o_q (q_mv (v_raw rfl)) rfl rfl rfl ?_
 refine o_cases (want := false) (j := 2) rfl rfl (fun h1 => ?_) (fun h1 => ?_)
 ·have k1 := h1; try simp only [decide_eq_true_eq, decide_eq_false_iff_not, Bool.not_eq_true', Bool.not_eq_false', Bool.not_true, Bool.not_false, List.length_map, Decidable.not_not] at k1
  refine o_yes rfl rfl rfl h1 ?_
  refine o_q (q_mv (v_raw rfl)) rfl rfl rfl ?_
  refine o_yes rfl rfl rfl h1 ?_
  refine o_q (q_gtr rfl rfl) rfl rfl rfl ?_
  refine o_q (q_pick_c (t := false) rfl h1 (v_raw rfl)) rfl rfl rfl ?_
  refine o_nil ?_
  refine s_cond rfl (fun h2 => ?_) (fun h2 => ?_)
  ·have k2 := h2; try simp only [decide_eq_true_eq, decide_eq_false_iff_not, Bool.not_eq_true', Bool.not_eq_false', Bool.not_true, Bool.not_false, List.length_map, Decidable.not_not] at k2
   refine s_seq ?_
   refine s_region ?_
   refine o_q (q_as (mv)) rfl rfl rfl ?_
   refine o_q (q_as (v_raw rfl)) rfl rfl rfl ?_
   refine o_nil ?_
   refine s_ret ?_
   refine s_code_ret ?_
   refine s_end ?_
   exact ret_many (.inl rfl) rfl (rl_t rfl (rl_t rfl rl_nil)) rfl (.inl ⟨by omega, rfl, rfl⟩)
  ·have k2 := h2; try simp only [decide_eq_true_eq, decide_eq_false_iff_not, Bool.not_eq_true', Bool.not_eq_false', Bool.not_true, Bool.not_false, List.length_map, Decidable.not_not] at k2
   refine s_skip ?_
   refine s_seq ?_
   refine s_region ?_
   refine m_make (g := ptrV) (fun BT oT hBT hMT => ?_)
   refine o_makeMap (fun B1 hB1 => ?_)
   have cT1 := (Mem.upd_none hB1).1
   have m1 : M B1 = none := by have h := hB1; repeat (first | exact h | exact Mem.none_of_le hle h | replace h := (Mem.upd_none h).2)
   refine o_call (((C3.snd66 _).det)) C3.goes66 ac_nil rfl ?_
   refine o_q (q_b (cs := [_, _, .raw (.bool false), .raw (.bool false), .raw (.bool false), .raw (.bool false), .raw (.bool false), .raw (.bool false), .raw (.bool false), .raw (.int .i64 0), _, _]) bz124 bp124 (bf fo124_0 (e_raw rfl) rfl rfl (Nat.le_of_ble_eq_true rfl) rfl (bf fo124_1 (e_raw rfl) rfl rfl (Nat.le_of_ble_eq_true rfl) rfl (bf fo124_4 (e_agg rfl) rfl rfl (Nat.le_of_ble_eq_true rfl) rfl bf_nil)))) rfl rfl rfl ?_
   refine o_box (by first | exact e_raw rfl | exact e_agg rfl | exact e_sl rfl) rfl rfl (fun B2 hB2 => ?_)
   have cT2 := (Mem.upd_none (Mem.upd_none hB2).2).1
   have f1_2 : B1 ≠ B2 := Mem.fresh_ne hB2 mm
   have g2_1 : B2 ≠ B1 := f1_2.symm
   have m2 : M B2 = none := by have h := hB2; repeat (first | exact h | exact Mem.none_of_le hle h | replace h := (Mem.upd_none h).2)
   refine o_q (q_as (mv)) rfl rfl rfl ?_
   refine o_nil ?_
   refine s_seq ?_
   refine s_seq ?_
   refine s_region ?_
   refine o_q (q_mv (v_raw rfl)) rfl rfl rfl ?_
   refine o_q (q_mv (v_raw rfl)) rfl rfl rfl ?_
   refine o_nil ?_
   refine s_block ?_
   refine s_loop (fun m S => ∃ T, ∃ M' : Mem, ∃ i : Nat, S = ⟨setT (setT (setT T 4 (ptr B2)) 17 (int nodes)) 18 (int (i : Nat)), M'⟩ ∧ M' B2 = some (.cells (mcC BT B1 (newM i))) ∧ MapAt ptrV M' BT ([] : List (ByteArray × Nat)) ∧ M' B1 = some (sbK []) ∧ (∀ d, M d ≠ none → M' d = M d) ∧ i ≤ nodes.toNat ∧ m = nodes.toNat - i) nodes.toNat ?_ ?_
   ·exact ⟨_, _, 0, St.mkT (kp (kp (kp rfl rfl) rfl) rfl).symm, mm, (hMT.keep ((upd_other cT2.symm).trans (upd_other cT1.symm))), mm, (fun d h2 => (upd_other (mem_put (by assumption) h2)).trans ((upd_other (mem_put (by assumption) h2)).trans (upd_other (mem_put hBT h2)))), by omega, rfl⟩
   rintro m S ⟨T, M', i, rfl, hb, hm, hs, hk, hi, rfl⟩
   refine s_seq ?_
   refine s_region ?_
   refine o_q (q_lss rfl rfl) rfl rfl rfl ?_
   refine o_nil ?_
   refine s_seq ?_
   refine s_cond rfl (fun h3 => ?_) (fun h3 => ?_)
   ·have k3 := h3; try simp only [decide_eq_true_eq, decide_eq_false_iff_not, Bool.not_eq_true', Bool.not_eq_false', Bool.not_true, Bool.not_false, List.length_map, Decidable.not_not] at k3
    refine s_skip ?_
    refine s_seq ?_
    refine s_block ?_
    refine s_seq ?_
    refine s_region ?_
    refine o_q (q_mv (v_raw rfl)) rfl rfl rfl ?_
    refine o_q (q_as (v_raw rfl)) rfl rfl rfl ?_
    refine o_nil ?_
    refine s_region ?_
    refine o_q (q_mv (mv)) rfl rfl rfl ?_
    refine o_q (q_mv (v_raw rfl)) rfl rfl rfl ?_
    refine o_q (q_nil rfl) rfl rfl rfl ?_
    refine o_q (q_fr fo124_2 rfl) rfl rfl rfl ?_
    refine o_q (q_idxa und122 sz4 rfl rfl (by omega) (by omega)) rfl rfl rfl ?_
    refine o_store rfl mm me rfl sz4 rfl (by show 0 + 2 + i * 1 + 1 ≤ 12; omega) rfl (mc_set (x := newM i) (n := i) (o := 0 + 2 + i * 1) (v := true) (by omega) (by omega)) ?_
    refine o_nil ?_
    refine s_blk_normal ?_
    refine s_region ?_
    refine o_q (q_add rfl rfl (wrap64 (by omega) (by omega))) rfl rfl rfl ?_
    refine o_q (q_mv (v_raw rfl)) rfl rfl rfl ?_
    refine o_nil ?_
    refine s_inv ?_
    exact ⟨nodes.toNat - (i + 1), by omega, _, _, i + 1, St.mkT (kp (kp (kp rfl rfl) rfl) rfl).symm, Mem.upd_self _ _ _, hm.keep (upd_other cT2.symm), (upd_other f1_2).trans hs, (fun d h2 => (upd_other (mem_put m2 h2)).trans (hk d h2)), by omega, rfl⟩
   ·have k3 := h3; try simp only [decide_eq_true_eq, decide_eq_false_iff_not, Bool.not_eq_true', Bool.not_eq_false', Bool.not_true, Bool.not_false, List.length_map, Decidable.not_not] at k3
    refine s_exit ?_
    refine s_code_exit ?_
    refine s_inv_exit ?_
    refine s_blk_here ?_
    refine s_seq ?_
    refine s_region ?_
    refine o_q (q_mv (mv)) rfl rfl rfl ?_
    refine o_q (q_as (mv)) rfl rfl rfl ?_
    refine o_q (q_as (v_raw rfl)) rfl rfl rfl ?_
    refine o_nil ?_
    refine s_ret ?_
    refine s_end ?_
    obtain rfl : i = nodes.toNat := by omega
    exact ret_many (.inl rfl) rfl (rl_t rfl (rl_t rfl rl_nil)) rfl (.inr ⟨by omega, by omega, B2, BT, B1, m2, hBT, m1, g2_1, rfl, hb, hm, hs, hk⟩)
 ·have k1 := h1; try simp only [decide_eq_true_eq, decide_eq_false_iff_not, Bool.not_eq_true', Bool.not_eq_false', Bool.not_true, Bool.not_false, List.length_map, Decidable.not_not] at k1
  refine o_no rfl rfl rfl rfl h1 ?_
  refine o_no rfl rfl rfl rfl h1 ?_
  refine o_q (q_pick_c (t := true) rfl h1 (v_raw rfl)) rfl rfl rfl ?_
  refine o_nil ?_
  refine s_then rfl rfl ?_
  refine s_seq ?_
  refine s_region ?_
  refine o_q (q_as (mv)) rfl rfl rfl ?_
  refine o_q (q_as (v_raw rfl)) rfl rfl rfl ?_
  refine o_nil ?_
  refine s_ret ?_
  refine s_code_ret ?_
  refine s_end ?_
  exact ret_many (.inl rfl) rfl (rl_t rfl (rl_t rfl rl_nil)) rfl (.inl ⟨by omega, rfl, rfl⟩)

def tk31 : Nat → Nat → Option Nat := fun _ _ => none
def pl31 : Nat → List PStep
 | 6 => [.q 0, .q 1, .q 2, .q 3, .q 4, .q 5, .q 6, .q 7, .q 8, .q 9, .q 10]
 | _ => []
theorem cb31 : Tryz.f31.body.map (codeB Tryz.prog Tryz.f31.ntmps tk31 pl31) = some true := by kernel_rfl
theorem goes31 : goesB Tryz.prog 31 = true := by kernel_rfl
set_option maxHeartbeats 4000000 in
set_option maxRecDepth 20000 in
theorem snd31 (c1 n1 c2 n2 : Int) (l1 l2 : List Rec) (o1 o2 : Bool) (M : Mem) (hl : l1.length < 2 ^ 60) : SoundCall Tryz.prog 31 [rpV c1 n1 l1 o1, rpV c2 n2 l2 o2] M fun r M' => r = bool (decide (c1 = c2) && decide (n1 = n2) && decide (l1 = l2)) ∧ M.le M' := by
 have hm1 : (l1.map enc).length = l1.length := List.length_map _
 have hm2 : (l2.map enc).length = l2.length := List.length_map _
 refine SoundCall.go tk31 pl31 mixed Tryz.func31 cb31 rfl (Nat.le_of_ble_eq_true rfl) ?_
 refine s_seq ?_
 refine s_region ?_
 refine o_box (by first | exact e_raw rfl | exact e_agg rfl | exact e_sl rfl) rfl rfl (fun B1 hB1 => ?_)
 have m1 : M B1 = none := by have h := hB1; repeat (first | exact h | exact Mem.none_of_le hle h | replace h := (Mem.upd_none h).2)
 refine o_box (by first | exact e_raw rfl | exact e_agg rfl | exact e_sl rfl) rfl rfl (fun B2 hB2 => ?_)
 have f1_2 : B1 ≠ B2 := Mem.fresh_ne hB2 mm
 have g2_1 : B2 ≠ B1 := f1_2.symm
 have m2 : M B2 = none := by have h := hB2; repeat (first | exact h | exact Mem.none_of_le hle h | replace h := (Mem.upd_none h).2)
 refine o_q (q_as (v_raw rfl)) rfl rfl rfl ?_
 refine o_nil ?_
 refine s_seq ?_
 refine s_seq ?_
 refine s_region ?_
 refine o_q (q_fr fo56_0 rfl) rfl rfl rfl ?_
 refine o_q (q_ldm ag3 sz3 rfl mm rfl (v_raw rfl)) rfl rfl rfl ?_
 refine o_q (q_fr fo56_0 rfl) rfl rfl rfl ?_
 refine o_q (q_ldm ag3 sz3 rfl mm rfl (v_raw rfl)) rfl rfl rfl ?_
 refine o_q (q_neq rfl rfl) rfl rfl rfl ?_
 refine o_q (q_mv (v_raw rfl)) rfl rfl rfl ?_
 refine o_cases (want := false) (j := 5) rfl rfl (fun h1 => ?_) (fun h1 => ?_)
 ·have k1 := h1; try simp only [decide_eq_true_eq, decide_eq_false_iff_not, Bool.not_eq_true', Bool.not_eq_false', Bool.not_true, Bool.not_false, List.length_map, Decidable.not_not] at k1
  refine o_yes rfl rfl rfl h1 ?_
  refine o_q (q_fr fo56_1 rfl) rfl rfl rfl ?_
  refine o_yes rfl rfl rfl h1 ?_
  refine o_q (q_ldm ag3 sz3 rfl mm rfl (v_raw rfl)) rfl rfl rfl ?_
  refine o_yes rfl rfl rfl h1 ?_
  refine o_q (q_fr fo56_1 rfl) rfl rfl rfl ?_
  refine o_yes rfl rfl rfl h1 ?_
  refine o_q (q_ldm ag3 sz3 rfl mm rfl (v_raw rfl)) rfl rfl rfl ?_
  refine o_yes rfl rfl rfl h1 ?_
  refine o_q (q_neq rfl rfl) rfl rfl rfl ?_
  refine o_q (q_pick_c (t := false) rfl h1 (v_raw rfl)) rfl rfl rfl ?_
  refine o_q (q_mv (v_raw rfl)) rfl rfl rfl ?_
  refine o_cases (want := false) (j := 12) rfl rfl (fun h2 => ?_) (fun h2 => ?_)
  ·have k2 := h2; try simp only [decide_eq_true_eq, decide_eq_false_iff_not, Bool.not_eq_true', Bool.not_eq_false', Bool.not_true, Bool.not_false, List.length_map, Decidable.not_not] at k2
   refine o_yes rfl rfl rfl h2 ?_
   refine o_q (q_fr fo56_2 rfl) rfl rfl rfl ?_
   refine o_yes rfl rfl rfl h2 ?_
   refine o_q (q_ldm ag35 sz35 rfl mm rfl (v_sl rfl)) rfl rfl rfl ?_
   refine o_yes rfl rfl rfl h2 ?_
   refine o_q (q_len rfl und35 rfl) rfl rfl rfl ?_
   refine o_yes rfl rfl rfl h2 ?_
   refine o_q (q_fr fo56_2 rfl) rfl rfl rfl ?_
   refine o_yes rfl rfl rfl h2 ?_
   refine o_q (q_ldm ag35 sz35 rfl mm rfl (v_sl rfl)) rfl rfl rfl ?_
   refine o_yes rfl rfl rfl h2 ?_
   refine o_q (q_len rfl und35 rfl) rfl rfl rfl ?_
   refine o_yes rfl rfl rfl h2 ?_
   refine o_q (q_neq rfl rfl) rfl rfl rfl ?_
   refine o_q (q_pick_c (t := false) rfl h2 (v_raw rfl)) rfl rfl rfl ?_
   refine o_nil ?_
   refine s_cond rfl (fun h3 => ?_) (fun h3 => ?_)
   ·have k3 := h3; try simp only [decide_eq_true_eq, decide_eq_false_iff_not, Bool.not_eq_true', Bool.not_eq_false', Bool.not_true, Bool.not_false, List.length_map, Decidable.not_not] at k3
    refine s_seq ?_
    refine s_region ?_
    refine o_q (q_as (v_raw rfl)) rfl rfl rfl ?_
    refine o_nil ?_
    refine s_ret ?_
    refine s_code_ret ?_
    refine s_end ?_
    refine ⟨congrArg bool ?_, (by repeat first | exact hle | exact Mem.le_refl M | assumption | exact Mem.none_of_le hle (by assumption) | refine Mem.le_upd ?_ ?_)⟩
    rw [Bool.eq_iff_iff]; simp; intros; intro e; subst e; omega
   ·have k3 := h3; try simp only [decide_eq_true_eq, decide_eq_false_iff_not, Bool.not_eq_true', Bool.not_eq_false', Bool.not_true, Bool.not_false, List.length_map, Decidable.not_not] at k3
    refine s_skip ?_
    refine s_seq ?_
    refine s_seq ?_
    refine s_region ?_
    refine o_q (q_as (v_raw rfl)) rfl rfl rfl ?_
    refine o_nil ?_
    refine s_block ?_
    refine s_loop (fun m S => ∃ T, ∃ M' : Mem, ∃ i : Nat, S = ⟨setT (setT (setT T 2 (ptr B1)) 3 (ptr B2)) 5 (int (i : Nat)), M'⟩ ∧ M.le M' ∧ M' B1 = some (.cells [int c1, int n1, .sl (l1.map enc) false]) ∧ M' B2 = some (.cells [int c2, int n2, .sl (l2.map enc) false]) ∧ i ≤ l1.length ∧ l1.take i = l2.take i ∧ m = l1.length - i) l1.length ?_ ?_
    ·exact ⟨_, _, 0, St.mkT (kp (kp (kp rfl rfl) rfl) rfl).symm, (by repeat first | exact hle | exact Mem.le_refl M | assumption | exact Mem.none_of_le hle (by assumption) | refine Mem.le_upd ?_ ?_), mm, mm, by omega, rfl, rfl⟩
    rintro m S ⟨T, M', i, rfl, hle, hb1, hb2, hi, htk, rfl⟩
    refine s_seq ?_
    refine s_seq ?_
    refine s_region ?_
    refine o_q (q_mv (v_raw rfl)) rfl rfl rfl ?_
    refine o_q (q_fr fo56_2 rfl) rfl rfl rfl ?_
    refine o_q (q_ldm ag35 sz35 rfl mm rfl (v_sl rfl)) rfl rfl rfl ?_
    refine o_q (q_len rfl und35 rfl) rfl rfl rfl ?_
    refine o_q (q_lss rfl rfl) rfl rfl rfl ?_
    refine o_nil ?_
    refine s_cond rfl (fun h4 => ?_) (fun h4 => ?_)
    ·have k4 := h4; try simp only [decide_eq_true_eq, decide_eq_false_iff_not, Bool.not_eq_true', Bool.not_eq_false', Bool.not_true, Bool.not_false, List.length_map, Decidable.not_not] at k4
     have hi1 : i < l1.length := by omega
     have hi2 : i < l2.length := by omega
     refine s_skip ?_
     refine s_seq ?_
     refine s_block ?_
     refine s_seq ?_
     refine s_draw rfl ?_
     refine d_q rfl (q_fr fo56_2 rfl) rfl rfl rfl ?_
     refine d_q rfl (q_ldm ag35 sz35 rfl mm rfl (v_sl rfl)) rfl rfl rfl ?_
     refine d_q rfl (q_mv (v_raw rfl)) rfl rfl rfl ?_
     refine d_q rfl (q_idx und35 sz39 rfl rfl (by omega) (gm i (by first | omega | simp)) rfl) rfl rfl rfl ?_
     refine d_q rfl (q_lde ag39 sz39 rfl (gm i (by first | omega | simp)) rfl rfl) rfl rfl rfl ?_
     refine d_q rfl (q_fr fo56_2 rfl) rfl rfl rfl ?_
     refine d_q rfl (q_ldm ag35 sz35 rfl mm rfl (v_sl rfl)) rfl rfl rfl ?_
     refine d_q rfl (q_mv (v_raw rfl)) rfl rfl rfl ?_
     refine d_q rfl (q_idx und35 sz39 rfl rfl (by omega) (gm i (by first | omega | simp)) rfl) rfl rfl rfl ?_
     refine d_q rfl (q_lde ag39 sz39 rfl (gm i (by first | omega | simp)) rfl rfl) rfl rfl rfl ?_
     refine d_q rfl (q_bin' rfl rfl (binNeq _ _ l1[i] l2[i])) rfl rfl rfl ?_
     refine d_nil ?_
     refine s_cond rfl (fun h5 => ?_) (fun h5 => ?_)
     ·have k5 := h5; try simp only [decide_eq_true_eq, decide_eq_false_iff_not, Bool.not_eq_true', Bool.not_eq_false', Bool.not_true, Bool.not_false, List.length_map, Decidable.not_not] at k5
      refine s_seq ?_
      refine s_region ?_
      refine o_q (q_as (v_raw rfl)) rfl rfl rfl ?_
      refine o_nil ?_
      refine s_ret ?_
      refine s_blk_ret ?_
      refine s_code_ret ?_
      refine s_inv_ret ?_
      refine s_blk_ret ?_
      refine s_code_ret ?_
      refine s_end ?_
      refine ⟨congrArg bool ?_, (by repeat first | exact hle | exact Mem.le_refl M | assumption | exact Mem.none_of_le hle (by assumption) | refine Mem.le_upd ?_ ?_)⟩
      rw [Bool.eq_iff_iff]; simp; intros; intro e; subst e; simp at h5
     ·have k5 := h5; try simp only [decide_eq_true_eq, decide_eq_false_iff_not, Bool.not_eq_true', Bool.not_eq_false', Bool.not_true, Bool.not_false, List.length_map, Decidable.not_not] at k5
      refine s_skip ?_
      refine s_blk_normal ?_
      refine s_region ?_
      refine o_q (q_mv (v_raw rfl)) rfl rfl rfl ?_
      refine o_q (q_add rfl rfl (wrap64 (by omega) (by omega))) rfl rfl rfl ?_
      refine o_q (q_as (v_raw rfl)) rfl rfl rfl ?_
      refine o_nil ?_
      refine s_inv ?_
      exact ⟨l1.length - (i + 1), by omega, _, _, i + 1, St.mkT (kp (kp (kp rfl rfl) rfl) rfl).symm, hle, hb1, hb2, by omega, by rw [List.take_succ_eq_append_getElem hi1, List.take_succ_eq_append_getElem hi2, htk, show l1[i] = l2[i] by simpa using h5], rfl⟩
    ·have k4 := h4; try simp only [decide_eq_true_eq, decide_eq_false_iff_not, Bool.not_eq_true', Bool.not_eq_false', Bool.not_true, Bool.not_false, List.length_map, Decidable.not_not] at k4
     refine s_exit ?_
     refine s_code_exit ?_
     refine s_inv_exit ?_
     refine s_blk_here ?_
     refine s_seq ?_
     refine s_region ?_
     refine o_q (q_as (v_raw rfl)) rfl rfl rfl ?_
     refine o_nil ?_
     refine s_ret ?_
     refine s_end ?_
     refine ⟨congrArg bool ?_, (by repeat first | exact hle | exact Mem.le_refl M | assumption | exact Mem.none_of_le hle (by assumption) | refine Mem.le_upd ?_ ?_)⟩
     have e : l1 = l2 := by
      have e1 : l1.take i = l1 := List.take_of_length_le (by omega)
      have e2 : l2.take i = l2 := List.take_of_length_le (by omega)
      rw [← e1, htk, e2]
     simp_all
  ·have k2 := h2; try simp only [decide_eq_true_eq, decide_eq_false_iff_not, Bool.not_eq_true', Bool.not_eq_false', Bool.not_true, Bool.not_false, List.length_map, Decidable.not_not] at k2
   refine o_no rfl rfl rfl rfl h2 ?_
   refine o_no rfl rfl rfl rfl h2 ?_
   refine o_no rfl rfl rfl rfl h2 ?_
   refine o_no rfl rfl rfl rfl h2 ?_
   refine o_no rfl rfl rfl rfl h2 ?_
   refine o_no rfl rfl rfl rfl h2 ?_
   refine o_no rfl rfl rfl rfl h2 ?_
   refine o_q (q_pick_c (t := true) rfl h2 (v_raw rfl)) rfl rfl rfl ?_
   refine o_nil ?_
   refine s_then rfl rfl ?_
   refine s_seq ?_
   refine s_region ?_
   refine o_q (q_as (v_raw rfl)) rfl rfl rfl ?_
   refine o_nil ?_
   refine s_ret ?_
   refine s_code_ret ?_
   refine s_end ?_
   refine ⟨congrArg bool ?_, (by repeat first | exact hle | exact Mem.le_refl M | assumption | exact Mem.none_of_le hle (by assumption) | refine Mem.le_upd ?_ ?_)⟩
   simp_all
 ·have k1 := h1; try simp only [decide_eq_true_eq, decide_eq_false_iff_not, Bool.not_eq_true', Bool.not_eq_false', Bool.not_true, Bool.not_false, List.length_map, Decidable.not_not] at k1
  refine o_no rfl rfl rfl rfl h1 ?_
  refine o_no rfl rfl rfl rfl h1 ?_
  refine o_no rfl rfl rfl rfl h1 ?_
  refine o_no rfl rfl rfl rfl h1 ?_
  refine o_no rfl rfl rfl rfl h1 ?_
  refine o_q (q_pick_c (t := true) rfl h1 (v_raw rfl)) rfl rfl rfl ?_
  refine o_q (q_mv (v_raw rfl)) rfl rfl rfl ?_
  refine o_no rfl rfl rfl rfl rfl ?_
  refine o_no rfl rfl rfl rfl rfl ?_
  refine o_no rfl rfl rfl rfl rfl ?_
  refine o_no rfl rfl rfl rfl rfl ?_
  refine o_no rfl rfl rfl rfl rfl ?_
  refine o_no rfl rfl rfl rfl rfl ?_
  refine o_no rfl rfl rfl rfl rfl ?_
  refine o_q (q_pick_c (t := true) rfl rfl (v_raw rfl)) rfl rfl rfl ?_
  refine o_nil ?_
  refine s_then rfl rfl ?_
  refine s_seq ?_
  refine s_region ?_
  refine o_q (q_as (v_raw rfl)) rfl rfl rfl ?_
  refine o_nil ?_
  refine s_ret ?_
  refine s_code_ret ?_
  refine s_end ?_
  refine ⟨congrArg bool ?_, (by repeat first | exact hle | exact Mem.le_refl M | assumption | exact Mem.none_of_le hle (by assumption) | refine Mem.le_upd ?_ ?_)⟩
  simp_all
end C17
