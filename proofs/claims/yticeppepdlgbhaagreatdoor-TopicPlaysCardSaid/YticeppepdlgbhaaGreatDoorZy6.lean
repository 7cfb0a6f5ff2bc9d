import Derived.Test.YticeppepdlgbhaaGreatDoorZy5
import Derived.Test.YticeppepdlgbhaaGreatDoorZy1
/-! The document's topic (chapter 15), walked. -/
open Go Go.Proofs Go.Am
set_option linter.unusedVariables false
set_option linter.unusedSimpArgs false
set_option autoImplicit false
namespace C17

def tk51r : Nat → Nat → Option Nat := fun _ _ => none
def pl51r : Nat → List PStep := fun _ => []
theorem cb51r : Tryz.f51.body.map (codeB Tryz.prog Tryz.f51.ntmps tk51r pl51r) = some true := by kernel_rfl

theorem encW : ∀ a : Rec, (enc a).ok = true ∧ (enc a).cells.length = 5 ∧ (enc a).cells.map AVal.shut = (enc a).cells := fun a => ⟨rfl, rfl, rfl⟩
def zR : List AVal := [int 0, str emp, int 0, str emp, str emp]
theorem zRu : ∀ z ∈ zR, z.unit = true := fun z hz => by
 simp only [zR, List.mem_cons, List.not_mem_nil, or_false] at hz
 rcases hz with rfl | rfl | rfl | rfl | rfl <;> rfl
set_option maxHeartbeats 4000000 in
set_option maxRecDepth 20000 in
theorem snd51r (l : List Rec) (o : Bool) (M : Mem) (hl : l.length < 2 ^ 40) : SoundCall Tryz.prog 51 [.sl (l.map enc) o] M fun r M' => ∃ base c, r = .raw (.slice base l.length c) ∧ FrW enc zR M M' base c l := by
 refine SoundCall.go tk51r pl51r mixed Tryz.func51 cb51r rfl (Nat.le_of_ble_eq_true rfl) ?_
 refine s_seq ?_
 refine s_region ?_
 refine o_q (q_as (v_sl rfl)) rfl rfl rfl ?_
 refine o_nil ?_
 refine s_seq ?_
 refine s_seq ?_
 refine s_region ?_
 refine o_q (q_mv (v_sl rfl)) rfl rfl rfl ?_
 refine o_nilcmp und35 rfl rfl (.inl rfl) (fun nh1 h1n => ?_)
 refine o_nil ?_
 refine s_cond rfl (fun h2 => ?_) (fun h2 => ?_)
 ·have k2 := h2; try simp only [decide_eq_true_eq, decide_eq_false_iff_not, Bool.not_eq_true', Bool.not_eq_false', Bool.not_true, Bool.not_false, List.length_map, Decidable.not_not] at k2
  have hl0 : l = [] := by
   by_cases e : l = []
   ·exact e
   ·exfalso
    have h9 := h1n (by simpa using e)
    have h8 : nh1 = true := h2
    rw [h8] at h9
    exact absurd h9 (by decide)
  refine s_seq ?_
  refine s_region ?_
  refine o_asnil ?_
  refine o_nil ?_
  refine s_ret ?_
  refine s_code_ret ?_
  refine s_end ?_
  subst hl0
  exact ⟨none, 0, rfl, ⟨fun _ => ⟨rfl, rfl, .inl rfl⟩, fun h => absurd rfl h⟩⟩
 ·have k2 := h2; try simp only [decide_eq_true_eq, decide_eq_false_iff_not, Bool.not_eq_true', Bool.not_eq_false', Bool.not_true, Bool.not_false, List.length_map, Decidable.not_not] at k2
  refine s_skip ?_
  refine s_seq ?_
  refine s_region ?_
  refine o_q (q_bs slt35 pn rfl Els.nil (by decide)) rfl rfl rfl ?_
  refine o_q (q_mv (v_sl rfl)) rfl rfl rfl ?_
  refine o_appw (l := l) (f := enc) (zs := zR) (sz := 5) slt35 rfl rfl zc39 zRu (by decide) encW (.inl rfl) (src_sl rfl) (by omega) (fun base c M1 hF => ?_)
  refine o_q (q_as (v_raw rfl)) rfl rfl rfl ?_
  refine o_nil ?_
  refine s_ret ?_
  refine s_end ?_
  exact ⟨base, c, rfl, hF⟩

def tk14r : Nat → Nat → Option Nat := fun _ _ => none
def pl14r : Nat → List PStep
 | 1 => [.q 0, .q 1, .q 2, .q 3, .q 4, .q 5, .s 6 [3, 2, 1, 0], .q 7, .q 8]
 | _ => []
theorem cb14r : Tryz.f14.body.map (codeB Tryz.prog Tryz.f14.ntmps tk14r pl14r) = some true := by kernel_rfl
set_option maxHeartbeats 4000000 in
set_option maxRecDepth 20000 in
theorem snd14r (t m : Nat) (x : Tp) (off most : Int) (M : Mem) (ht : M t = some (.cells (tpC m x))) (hs : Sorted x.recs) (hlen : x.recs.length < 2 ^ 40) : SoundCall Tryz.prog 14 [ptr t, int off, int most] M fun r M' => ∃ base c, r = .raw (.slice base (readL x.recs off most).length c) ∧ FrW enc zR M M' base c (readL x.recs off most) := by
 have hat := atN_le x.recs off
 refine SoundCall.go tk14r pl14r mixed Tryz.func14 cb14r rfl (Nat.le_of_ble_eq_true rfl) ?_
 refine s_seq ?_
 refine s_region ?_
 refine o_q (q_as (v_sl rfl)) rfl rfl rfl ?_
 refine o_nil ?_
 refine s_seq ?_
 refine s_draw rfl ?_
 refine d_q rfl (q_mv (mvQ)) rfl rfl rfl ?_
 refine d_q rfl (q_nil rfl) rfl rfl rfl ?_
 refine d_q rfl (q_fr fo87_4 rfl) rfl rfl rfl ?_
 refine d_q rfl (q_ldm ag35 sz35 rfl mmQ rfl (v_sl rfl)) rfl rfl rfl ?_
 refine d_q rfl (q_mv (mvQ)) rfl rfl rfl ?_
 refine d_q rfl (q_mv (v_raw rfl)) rfl rfl rfl ?_
 refine d_s rfl ?_
 refine o_call (((snd50 t m x off _ ht hs hlen).det)) goes50 (ac (mvQ) (ac (v_raw rfl) ac_nil)) rfl ?_
 refine o_nil ⟨(by simp [Mem.upd, *]), ?_⟩
 refine d_q rfl (q_sl_lo und35 sz39 rfl elsR (ab rfl rfl) (by omega)) rfl rfl rfl ?_
 refine d_q rfl (q_as (v_sl rfl)) rfl rfl rfl ?_
 refine d_nil ?_
 refine s_seq ?_
 refine s_region ?_
 refine o_q (q_mv (v_sl rfl)) rfl rfl rfl ?_
 refine o_q (q_mv (v_raw rfl)) rfl rfl rfl ?_
 refine o_q (q_max rfl rfl) rfl rfl rfl ?_
 refine o_q (q_mv (v_sl rfl)) rfl rfl rfl ?_
 refine o_q (q_len rfl und35 rfl) rfl rfl rfl ?_
 refine o_q (q_min rfl rfl) rfl rfl rfl ?_
 refine o_q (q_sl_hi (n := (min (max most 0) ((x.recs.drop (atN x.recs off)).length : Int)).toNat) und35 sz39 rfl elsR (ab rfl (by rw [List.length_map]; omega)) (by simp; omega)) rfl rfl rfl ?_
 refine o_callx ((snd51r ((x.recs.drop (atN x.recs off)).take (min (max most 0) ((x.recs.drop (atN x.recs off)).length : Int)).toNat) false _ (by rw [List.length_take, List.length_drop]; omega))) goes51 (ac (v_sl rfl) ac_nil) rfl ?_
 rintro r M1 ⟨base, c, rfl, hF⟩
 refine o_q (q_as (v_raw rfl)) rfl rfl rfl ?_
 refine o_nil ?_
 refine s_ret ?_
 refine s_end ?_
 have e : ((x.recs.drop (atN x.recs off)).take (min (max most 0) ((x.recs.drop (atN x.recs off)).length : Int)).toNat) = readL x.recs off most := take_min _ _
 exact ⟨base, c, congrArg (fun l : List Rec => AVal.raw (.slice base l.length c)) e, e ▸ hF⟩

def tk15 : Nat → Nat → Option Nat := fun _ _ => none
def pl15 : Nat → List PStep
 | 6 => [.q 0, .q 1, .q 2, .q 3, .q 4, .q 5, .q 6, .q 7, .q 8]
 | _ => []
theorem cb15 : Tryz.f15.body.map (codeB Tryz.prog Tryz.f15.ntmps tk15 pl15) = some true := by kernel_rfl
theorem goes15 : goesB Tryz.prog 15 = true := by kernel_rfl

theorem piece_w {l : List Rec} {k i o : Nat} (hi : i < l.length) (ho : o = i * 5) : piece true (wcells enc zR l k) o 5 = some (enc l[i]) := by
 subst ho
 have hw := wcells_len (f := enc) (zs := zR) (sz := 5) (fun _ => rfl) rfl l k
 have hg := wcells_get (f := enc) (zs := zR) (sz := 5) (fun _ => rfl) l k hi
 unfold piece
 rw [if_pos rfl, if_pos (by rw [hw]; have := Nat.mul_le_mul_right 5 (show i + 1 ≤ l.length + k by omega); omega), hg]
 rfl
set_option maxHeartbeats 4000000 in
set_option maxRecDepth 20000 in
theorem snd15r (l : List Rec) (o2 : Bool) (base : Option Addr) (c : Nat) (M0 M : Mem) (hF : FrW enc zR M0 M base c l) (hl : l.length < 2 ^ 40) : SoundCall Tryz.prog 15 [.raw (.slice base l.length c), .sl (l.map enc) o2] M fun r M' => r = bool true ∧ M' = M := by
 have hml : (l.map enc).length = l.length := List.length_map _
 refine SoundCall.go tk15 pl15 mixed Tryz.func15 cb15 rfl (Nat.le_of_ble_eq_true rfl) ?_
 refine s_seq ?_
 refine s_region ?_
 refine o_q (q_as (v_raw rfl)) rfl rfl rfl ?_
 refine o_nil ?_
 refine s_seq ?_
 refine s_seq ?_
 refine s_region ?_
 refine o_q (q_mv (v_raw rfl)) rfl rfl rfl ?_
 refine o_q (q_lenr rfl und35 rfl) rfl rfl rfl ?_
 refine o_q (q_mv (v_sl rfl)) rfl rfl rfl ?_
 refine o_q (q_len rfl und35 rfl) rfl rfl rfl ?_
 refine o_q (q_neq rfl rfl) rfl rfl rfl ?_
 refine o_nil ?_
 refine s_cond rfl (fun h1 => ?_) (fun h1 => ?_)
 ·have k1 := h1; try simp only [decide_eq_true_eq, decide_eq_false_iff_not, Bool.not_eq_true', Bool.not_eq_false', Bool.not_true, Bool.not_false, List.length_map, Decidable.not_not] at k1
  exfalso
  rw [hml] at h1
  simp at h1
 ·have k1 := h1; try simp only [decide_eq_true_eq, decide_eq_false_iff_not, Bool.not_eq_true', Bool.not_eq_false', Bool.not_true, Bool.not_false, List.length_map, Decidable.not_not] at k1
  refine s_skip ?_
  refine s_seq ?_
  refine s_seq ?_
  refine s_region ?_
  refine o_q (q_as (v_raw rfl)) rfl rfl rfl ?_
  refine o_nil ?_
  refine s_block ?_
  refine s_loop (fun m S => ∃ T, ∃ i : Nat, S = ⟨setT (setT (setT T 0 (.raw (.slice base l.length c))) 1 (.sl (l.map enc) o2)) 5 (int (i : Nat)), M⟩ ∧ i ≤ l.length ∧ m = l.length - i) l.length ?_ ?_
  ·exact ⟨_, 0, St.mkT (kp (kp (kp rfl rfl) rfl) rfl).symm, by omega, rfl⟩
  rintro m S ⟨T, i, rfl, hi, rfl⟩
  refine s_seq ?_
  refine s_seq ?_
  refine s_region ?_
  refine o_q (q_mv (v_raw rfl)) rfl rfl rfl ?_
  refine o_q (q_mv (v_raw rfl)) rfl rfl rfl ?_
  refine o_q (q_lenr rfl und35 rfl) rfl rfl rfl ?_
  refine o_q (q_lss rfl rfl) rfl rfl rfl ?_
  refine o_nil ?_
  refine s_cond rfl (fun h2 => ?_) (fun h2 => ?_)
  ·have k2 := h2; try simp only [decide_eq_true_eq, decide_eq_false_iff_not, Bool.not_eq_true', Bool.not_eq_false', Bool.not_true, Bool.not_false, List.length_map, Decidable.not_not] at k2
   have hi2 : i < l.length := by omega
   obtain ⟨b, k, rfl, -, -, hM⟩ := hF.new (fun e => by rw [e] at hi2; exact absurd hi2 (Nat.not_lt_zero i))
   have hb : M b = some (.cells (wcells enc zR l k)) := by rw [hM]; exact Mem.upd_self _ _ _
   refine s_skip ?_
   refine s_seq ?_
   refine s_block ?_
   refine s_seq ?_
   refine s_draw rfl ?_
   refine d_q rfl (q_mv (v_raw rfl)) rfl rfl rfl ?_
   refine d_q rfl (q_mv (v_raw rfl)) rfl rfl rfl ?_
   refine d_q rfl (q_idxr und35 sz39 rfl rfl (by omega) (by omega)) rfl rfl rfl ?_
   refine d_q rfl (q_ldm ag39 sz39 rfl hb (piece_w (i := i) (by omega) (by show 0 + ((i : Int)).toNat * 5 = _; omega)) (v_agg rfl)) rfl rfl rfl ?_
   refine d_q rfl (q_mv (v_sl rfl)) rfl rfl rfl ?_
   refine d_q rfl (q_mv (v_raw rfl)) rfl rfl rfl ?_
   refine d_q rfl (q_idx und35 sz39 rfl rfl (by omega) (gm i (by first | omega | simp)) rfl) rfl rfl rfl ?_
   refine d_q rfl (q_lde ag39 sz39 rfl (gm i (by first | omega | simp)) rfl rfl) rfl rfl rfl ?_
   refine d_q rfl (q_bin' rfl rfl (binNeq _ _ l[i] l[i])) rfl rfl rfl ?_
   refine d_nil ?_
   refine s_cond rfl (fun h3 => ?_) (fun h3 => ?_)
   ·have k3 := h3; try simp only [decide_eq_true_eq, decide_eq_false_iff_not, Bool.not_eq_true', Bool.not_eq_false', Bool.not_true, Bool.not_false, List.length_map, Decidable.not_not] at k3
    first | exact absurd h3 (by decide) | (simp at h3; done) | (simp at h3; omega)
   ·have k3 := h3; try simp only [decide_eq_true_eq, decide_eq_false_iff_not, Bool.not_eq_true', Bool.not_eq_false', Bool.not_true, Bool.not_false, List.length_map, Decidable.not_not] at k3
    refine s_skip ?_
    refine s_blk_normal ?_
    refine s_region ?_
    refine o_q (q_mv (v_raw rfl)) rfl rfl rfl ?_
    refine o_q (q_add rfl rfl (wrap64 (by omega) (by omega))) rfl rfl rfl ?_
    refine o_q (q_as (v_raw rfl)) rfl rfl rfl ?_
    refine o_nil ?_
    refine s_inv ?_
    exact ⟨l.length - (i + 1), by omega, _, i + 1, St.mkT (kp (kp (kp rfl rfl) rfl) rfl).symm, by omega, rfl⟩
  ·have k2 := h2; try simp only [decide_eq_true_eq, decide_eq_false_iff_not, Bool.not_eq_true', Bool.not_eq_false', Bool.not_true, Bool.not_false, List.length_map, Decidable.not_not] at k2
   refine s_exit ?_
   refine s_code_exit ?_
   refine s_inv_exit ?_
   refine s_blk_here ?_
   refine s_seq ?_
   refine s_region ?_
   refine o_q (q_as (v_raw rfl)) rfl rfl rfl ?_
   refine o_nil ?_
   refine s_ret ?_
   refine s_end ?_
   exact ⟨rfl, rfl⟩

end C17
