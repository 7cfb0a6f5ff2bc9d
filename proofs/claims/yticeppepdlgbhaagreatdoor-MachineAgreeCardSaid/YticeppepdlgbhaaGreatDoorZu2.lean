import Derived.Test.YticeppepdlgbhaaGreatDoorZu1
/-! Chapter 17: MachineAgree. -/
open Go Go.Proofs Go.Am
set_option linter.unusedVariables false
set_option linter.unusedSimpArgs false
set_option autoImplicit false
namespace C17
theorem ag51 : aggT Tryz.prog 51 = some true := by kernel_rfl
theorem fo51_0 : fo Tryz.prog 51 0 = some (0, 9) := by kernel_rfl
theorem fo51_1 : fo Tryz.prog 51 1 = some (9, 1) := by kernel_rfl
theorem sz51 : sizeT Tryz.prog 51 = some 10 := by kernel_rfl
theorem und47 : Tryz.prog.underlying 47 = some (.slice 51) := by kernel_rfl
theorem und62 : Tryz.prog.underlying 62 = some (.slice 9) := by kernel_rfl
def tk30 : Nat → Nat → Option Nat := fun _ _ => none
def pl30 : Nat → List PStep := fun _ => []
theorem cb30 : Tryz.f30.body.map (codeB Tryz.prog Tryz.f30.ntmps tk30 pl30) = some true := by kernel_rfl
theorem goes30 : goesB Tryz.prog 30 = true := by kernel_rfl
set_option maxHeartbeats 4000000 in
set_option maxRecDepth 20000 in
theorem snd30 (d : MDe) (hs : d.c.topic.size < 2 ^ 62 ∧ d.c.name.size < 2 ^ 62) (M : Mem) : SoundCall Tryz.prog 30 [encMD d] M fun r M' => r = str (txD d) ∧ M.le M' := by
 refine SoundCall.go tk30 pl30 mixed Tryz.func30 cb30 rfl (Nat.le_of_ble_eq_true rfl) ?_
 refine s_seq ?_
 refine s_region ?_
 refine o_box (by first | exact e_raw rfl | exact e_agg rfl | exact e_sl rfl) rfl rfl (fun B1 hB1 => ?_)
 refine o_q (q_as (v_raw rfl)) rfl rfl rfl ?_
 refine o_nil ?_
 refine s_seq ?_
 refine s_region ?_
 refine o_q (q_fr fo51_0 rfl) rfl rfl rfl ?_
 refine o_q (q_ldm ag49 sz49 rfl mm rfl (v_agg rfl)) rfl rfl rfl ?_
 refine o_callx ((snd71 d.c hs _)) goes71 (ac (v_agg rfl) ac_nil) rfl ?_
 rintro r M' ⟨rfl, hle⟩
 have hb1 := hle B1 _ (Mem.upd_self _ _ _)
 refine o_q (q_mv (v_tup rfl)) rfl rfl rfl ?_
 refine o_q (q_ext rfl rfl (v_raw rfl)) rfl rfl rfl ?_
 refine o_q (q_ext rfl rfl (v_raw rfl)) rfl rfl rfl ?_
 refine o_q (q_as (v_raw rfl)) rfl rfl rfl ?_
 refine o_q (q_as (v_raw rfl)) rfl rfl rfl ?_
 refine o_nil ?_
 refine s_seq ?_
 refine s_seq ?_
 refine s_region ?_
 refine o_q (q_mv (v_raw rfl)) rfl rfl rfl ?_
 refine o_nil ?_
 refine s_cond rfl (fun h1 => ?_) (fun h1 => ?_)
 ·have k1 := h1; try simp only [decide_eq_true_eq, decide_eq_false_iff_not, Bool.not_eq_true', Bool.not_eq_false', Bool.not_true, Bool.not_false, List.length_map, Decidable.not_not] at k1
  refine s_seq ?_
  refine s_region ?_
  refine o_q (q_mv (v_raw rfl)) rfl rfl rfl ?_
  refine o_q (q_as (v_raw rfl)) rfl rfl rfl ?_
  refine o_nil ?_
  refine s_ret ?_
  refine s_code_ret ?_
  refine s_end ?_
  exact ⟨show str (if rightC d.c = true then bytC d.c else emp) = str (txD d) by unfold txD; rw [if_pos k1, if_pos k1], fun b o h => hle b o (Mem.le_upd (Mem.le_refl M) hB1 b o h)⟩
 ·have k1 := h1; try simp only [decide_eq_true_eq, decide_eq_false_iff_not, Bool.not_eq_true', Bool.not_eq_false', Bool.not_true, Bool.not_false, List.length_map, Decidable.not_not] at k1
  refine s_skip ?_
  refine s_seq ?_
  refine s_region ?_
  refine o_q (q_fr fo51_1 rfl) rfl rfl rfl ?_
  refine o_q (q_ldm ag9 sz9 rfl mm rfl (v_raw rfl)) rfl rfl rfl ?_
  refine o_q (q_as (v_raw rfl)) rfl rfl rfl ?_
  refine o_nil ?_
  refine s_ret ?_
  refine s_end ?_
  exact ⟨show str d.s = str (txD d) by unfold txD; rw [if_neg (by rw [k1]; exact Bool.false_ne_true)], fun b o h => hle b o (Mem.le_upd (Mem.le_refl M) hB1 b o h)⟩

def tk32 : Nat → Nat → Option Nat := fun _ _ => none
def pl32 : Nat → List PStep := fun _ => []
theorem cb32 : Tryz.f32.body.map (codeB Tryz.prog Tryz.f32.ntmps tk32 pl32) = some true := by kernel_rfl
theorem goes32 : goesB Tryz.prog 32 = true := by kernel_rfl
set_option maxHeartbeats 4000000 in
set_option maxRecDepth 20000 in
theorem snd32 (b mt ms : Nat) (x : Mc) (M : Mem) (hb : M b = some (.cells (mcC mt ms x))) : SoundCall Tryz.prog 32 [ptr b] M fun r M' => r = prV x.dig ∧ M.le M' := by
 refine SoundCall.go tk32 pl32 mixed Tryz.func32 cb32 rfl (Nat.le_of_ble_eq_true rfl) ?_
 refine s_seq ?_
 refine s_region ?_
 refine o_alloc zc60 (fun B1 hB1 => ?_)
 have fb : b ≠ B1 := Mem.fresh_ne hB1 hb
 have fb1 := fb.symm
 refine o_nil ?_
 refine s_seq ?_
 refine s_region ?_
 refine o_q (q_mv (mv)) rfl rfl rfl ?_
 refine o_q (q_nil rfl) rfl rfl rfl ?_
 refine o_q (q_fr fo124_4 rfl) rfl rfl rfl ?_
 refine o_q (q_ldm ag60 sz60 rfl mm rfl (v_agg rfl)) rfl rfl rfl ?_
 refine o_storew rfl mm mf rfl sz60 rfl rfl rfl rfl ?_
 refine o_nil ?_
 refine s_ret ?_
 refine s_end ?_
 exact ret_cell (.inl rfl) rfl rfl mm (loadP_w ag60 sz60 rfl rfl) ⟨rfl, (by repeat first | exact hle | exact Mem.le_refl M | assumption | exact Mem.none_of_le hle (by assumption) | refine Mem.le_upd ?_ ?_)⟩
theorem digest_m {M : Mem} {b : Nat} {x : Mc} {O : Nat → Prop} (h : McAt M b x O) : SoundCall Tryz.prog 32 [ptr b] M fun r M' => r = prV x.dig ∧ M' = M := by
 obtain ⟨mt, ms, ad, h⟩ := h
 exact (snd32 b mt ms x M h.hb).det


def tk72 : Nat → Nat → Option Nat := fun _ _ => none
def pl72 : Nat → List PStep := fun _ => []
theorem cb72 : Tryz.f72.body.map (codeB Tryz.prog Tryz.f72.ntmps tk72 pl72) = some true := by kernel_rfl
theorem goes72 : goesB Tryz.prog 72 = true := by kernel_rfl
set_option maxHeartbeats 4000000 in
set_option maxRecDepth 20000 in
theorem snd72 (M : Mem) (r : Nat) : SoundCall Tryz.prog 72 [mapV r] M fun q M' => ∃ b, M b = none ∧ q = .raw (.func (.func 126) #[] #[.pointer (some ⟨b, 0, none⟩)]) ∧ M' = M.upd b (.cells [mapV r]) := by
 refine SoundCall.go tk72 pl72 mixed Tryz.func72 cb72 rfl (Nat.le_of_ble_eq_true rfl) ?_
 refine s_seq ?_
 refine s_region ?_
 refine o_box (by first | exact e_raw rfl | exact e_agg rfl | exact e_sl rfl) rfl rfl (fun B1 hB1 => ?_)
 skip
 refine o_q (q_as (v_raw rfl)) rfl rfl rfl ?_
 refine o_nil ?_
 refine s_seq ?_
 refine s_region ?_
 refine o_q (q_mkf1 rfl) rfl rfl rfl ?_
 refine o_q (q_as (v_raw rfl)) rfl rfl rfl ?_
 refine o_nil ?_
 refine s_ret ?_
 refine s_end ?_
 exact ⟨B1, hB1, rfl, rfl⟩

def tk34 : Nat → Nat → Option Nat := fun _ _ => none
def pl34 : Nat → List PStep := fun _ => []
theorem cb34 : Tryz.f34.body.map (codeB Tryz.prog Tryz.f34.ntmps tk34 pl34) = some true := by kernel_rfl
theorem goes34 : goesB Tryz.prog 34 = true := by kernel_rfl
theorem goes56 : goesB Tryz.prog 56 = true := by kernel_rfl
set_option maxHeartbeats 4000000 in
set_option maxRecDepth 20000 in
theorem snd34 (b mt ms clk : Nat) (ad : ByteArray → Nat × Nat) (lf : List (En ByteArray)) (x : Mc) (O : Nat → Prop) (M : Mem) (h : McIs M b mt ms ad x O) (hm : MapIs ptrV M mt clk lf (x.tps.map fun p => (p.1, (ad p.1).1))) (hn : NmOk x) : SoundCall Tryz.prog 34 [ptr b] M fun r M' => r = .sl ((sortS (x.tps.map (·.1))).map str) false ∧ M.le M' := by
 have hb := h.hb
 have hk : lf.map En.k = x.tps.map (·.1) := by rw [hm.keys, List.map_map]; rfl
 have hll : lf.length = x.tps.length := by rw [hm.len, List.length_map]
 have hl20 := hn.len
 have hml : maxLen = 2 ^ 63 - 1 := rfl
 have hnm : ∀ e ∈ lf, e.k.size ≤ maxLen := fun e he => by
  have h1 : e.k ∈ x.tps.map (·.1) := by rw [← hk]; exact List.mem_map.2 ⟨e, he, rfl⟩
  obtain ⟨p, hp, e2⟩ := List.mem_map.1 h1
  have := hn.nm p hp
  rw [← e2]; omega
 refine SoundCall.go tk34 pl34 mixed Tryz.func34 cb34 rfl (Nat.le_of_ble_eq_true rfl) ?_
 refine s_seq ?_
 refine s_region ?_
 refine o_q (q_as (v_sl rfl)) rfl rfl rfl ?_
 refine o_nil ?_
 refine s_seq ?_
 refine s_region ?_
 refine o_q (q_mv (mv)) rfl rfl rfl ?_
 refine o_q (q_nil rfl) rfl rfl rfl ?_
 refine o_q (q_fr fo124_0 rfl) rfl rfl rfl ?_
 refine o_q (q_ldm ag120 sz120 rfl mm rfl (v_raw rfl)) rfl rfl rfl ?_
 refine o_callx ((snd72 _ mt)) goes72 (ac (v_raw rfl) ac_nil) rfl ?_
 rintro q M1 ⟨B1, hB1, rfl, rfl⟩
 refine o_callx ((C17k.sorted56 B1 mt clk lf _ (Mem.upd_self _ _ _) ((upd_other (fun e => by have h2 := hm.hM; rw [e, hB1] at h2; cases h2)).trans hm.hM) (by omega) hnm hm.st hm.sn (by rw [hm.keys]; exact hm.nd))) goes56 (ac (v_raw rfl) ac_nil) rfl ?_
 rintro q M2 ⟨rfl, rfl⟩
 refine o_q (q_as (v_sl rfl)) rfl rfl rfl ?_
 refine o_nil ?_
 refine s_ret ?_
 refine s_end ?_
 exact ⟨by rw [hk]; rfl, Mem.le_upd (Mem.le_refl M) hB1⟩
theorem topics_m {M : Mem} {b : Nat} {x : Mc} {O : Nat → Prop} (h : McAt M b x O) (hn : NmOk x) : SoundCall Tryz.prog 34 [ptr b] M fun r M' => r = .sl ((sortS (x.tps.map (·.1))).map str) false ∧ M' = M := by
 obtain ⟨mt, ms, ad, h⟩ := h
 obtain ⟨clk, lf, hm⟩ := h.hm
 exact (snd34 b mt ms clk ad lf x O M h hm hn).det
abbrev mdC (d : MDe) : List AVal := [int d.c.kind, str d.c.topic, str d.c.name, int d.c.seq, str d.c.key, str d.c.val, int d.c.n, int d.c.node, int d.c.ask, str d.s]
theorem sortS_len (l : List ByteArray) : (sortS l).length = l.length := List.length_mergeSort l


def tk4 : Nat → Nat → Option Nat := fun _ _ => none
def pl4 : Nat → List PStep := fun _ => []
theorem cb4 : Tryz.f4.body.map (codeB Tryz.prog Tryz.f4.ntmps tk4 pl4) = some true := by kernel_rfl
set_option maxHeartbeats 4000000 in
set_option maxRecDepth 20000 in
theorem snd4a (ge : TypeId) (gf : Nat × Nat) (nodes : Int) (deeds : List MDe) (more : MDe) (o1 : Bool) (M : Mem) (hG : M 0 = some (szO ge gf)) (hno : nodes < 1 ∨ 7 < nodes) (hdl : deeds.length < 2 ^ 60) (hds : ∀ d ∈ deeds, (d.c.topic.size < 2 ^ 62 ∧ d.c.name.size < 2 ^ 62) ∧ d.s.size < 2 ^ 62) (hms : (more.c.topic.size < 2 ^ 62 ∧ more.c.name.size < 2 ^ 62) ∧ more.s.size < 2 ^ 62) : SoundCall Tryz.prog 4 [int nodes, .sl (deeds.map encMD) o1, encMD more] M fun r M' => r = bool true ∧ M.le M' := by
 refine SoundCall.go tk4 pl4 mixed Tryz.func4 cb4 rfl (Nat.le_of_ble_eq_true rfl) ?_
 refine s_seq ?_
 refine s_region ?_
 refine o_box (by first | exact e_raw rfl | exact e_agg rfl | exact e_sl rfl) rfl rfl (fun B1 hB1 => ?_)
 have c01 : (0 : Nat) ≠ B1 := Mem.fresh_ne hB1 hG
 refine o_q (q_as (v_raw rfl)) rfl rfl rfl ?_
 refine o_nil ?_
 refine s_seq ?_
 refine s_region ?_
 refine o_call ((snd27 ge gf _ ((upd_other c01).trans hG)).det) goes27 ac_nil rfl ?_
 refine o_q (q_as (v_raw rfl)) rfl rfl rfl ?_
 refine o_nil ?_
 refine s_seq ?_
 refine s_region ?_
 refine o_q (q_mv (v_raw rfl)) rfl rfl rfl ?_
 refine o_call ((new_no hno)) goes28 (ac (v_raw rfl) ac_nil) rfl ?_
 refine o_q (q_mv (v_tup rfl)) rfl rfl rfl ?_
 refine o_q (q_ext rfl rfl (mv)) rfl rfl rfl ?_
 refine o_q (q_ext rfl rfl (v_raw rfl)) rfl rfl rfl ?_
 refine o_q (q_as (mv)) rfl rfl rfl ?_
 refine o_q (q_as (v_raw rfl)) rfl rfl rfl ?_
 refine o_nil ?_
 refine s_seq ?_
 refine s_region ?_
 refine o_q (q_mv (v_raw rfl)) rfl rfl rfl ?_
 refine o_call ((new_no hno)) goes28 (ac (v_raw rfl) ac_nil) rfl ?_
 refine o_q (q_mv (v_tup rfl)) rfl rfl rfl ?_
 refine o_q (q_ext rfl rfl (mv)) rfl rfl rfl ?_
 refine o_q (q_ext rfl rfl (v_raw rfl)) rfl rfl rfl ?_
 refine o_q (q_as (mv)) rfl rfl rfl ?_
 refine o_q (q_as (v_raw rfl)) rfl rfl rfl ?_
 refine o_nil ?_
 refine s_seq ?_
 refine s_seq ?_
 refine s_region ?_
 refine o_q (q_mv (v_raw rfl)) rfl rfl rfl ?_
 refine o_q (q_neq rfl rfl) rfl rfl rfl ?_
 refine o_q (q_mv (v_raw rfl)) rfl rfl rfl ?_
 refine o_no rfl rfl rfl rfl rfl ?_
 refine o_no rfl rfl rfl rfl rfl ?_
 refine o_q (q_pick_c (t := true) rfl rfl (v_raw rfl)) rfl rfl rfl ?_
 refine o_q (q_mv (v_raw rfl)) rfl rfl rfl ?_
 refine o_no rfl rfl rfl rfl rfl ?_
 refine o_no rfl rfl rfl rfl rfl ?_
 refine o_q (q_pick_c (t := true) rfl rfl (v_raw rfl)) rfl rfl rfl ?_
 refine o_q (q_mv (v_raw rfl)) rfl rfl rfl ?_
 refine o_no rfl rfl rfl rfl rfl ?_
 refine o_no rfl rfl rfl rfl rfl ?_
 refine o_q (q_pick_c (t := true) rfl rfl (v_raw rfl)) rfl rfl rfl ?_
 refine o_nil ?_
 refine s_then rfl rfl ?_
 refine s_seq ?_
 refine s_region ?_
 refine o_q (q_mv (v_raw rfl)) rfl rfl rfl ?_
 refine o_q (q_mv (v_raw rfl)) rfl rfl rfl ?_
 refine o_g (G := true) rfl rfl rfl rfl rfl (fun hG hc => (q_mv (v_raw rfl))) ?_
 refine o_g (G := true) rfl rfl rfl rfl rfl (fun hG hc => (q_mv (v_raw rfl))) ?_
 refine o_g (G := true) rfl rfl rfl rfl rfl (fun hG hc => (q_eql (gv_on (gv_and hG hc) rfl) (gv_on (gv_and hG hc) rfl))) ?_
 refine o_q (q_pand (c := _) (b := _) rfl rfl rfl) rfl rfl rfl ?_
 refine o_q (q_as (v_raw rfl)) rfl rfl rfl ?_
 refine o_nil ?_
 refine s_ret ?_
 refine s_code_ret ?_
 refine s_end ?_
 exact ⟨rfl, Mem.le_upd (Mem.le_refl M) hB1⟩

set_option maxHeartbeats 4000000 in
set_option maxRecDepth 20000 in
theorem snd4b (ge : TypeId) (gf : Nat × Nat) (nodes : Int) (deeds : List MDe) (more : MDe) (o1 : Bool) (M : Mem) (hG : M 0 = some (szO ge gf)) (hno : 1 ≤ nodes ∧ nodes ≤ 7) (hdl : deeds.length < 2 ^ 60) (hds : ∀ d ∈ deeds, (d.c.topic.size < 2 ^ 62 ∧ d.c.name.size < 2 ^ 62) ∧ d.s.size < 2 ^ 62) (hms : (more.c.topic.size < 2 ^ 62 ∧ more.c.name.size < 2 ^ 62) ∧ more.s.size < 2 ^ 62) : SoundCall Tryz.prog 4 [int nodes, .sl (deeds.map encMD) o1, encMD more] M fun r M' => r = bool true ∧ M.le M' := by
 have hlw : (deeds.map encMD).length = deeds.length := List.length_map _
 refine SoundCall.go tk4 pl4 mixed Tryz.func4 cb4 rfl (Nat.le_of_ble_eq_true rfl) ?_
 refine s_seq ?_
 refine s_region ?_
 refine o_box (by first | exact e_raw rfl | exact e_agg rfl | exact e_sl rfl) rfl rfl (fun B1 hB1 => ?_)
 have c01 : (0 : Nat) ≠ B1 := Mem.fresh_ne hB1 hG
 refine o_q (q_as (v_raw rfl)) rfl rfl rfl ?_
 refine o_nil ?_
 refine s_seq ?_
 refine s_region ?_
 refine o_callx ((snd27 ge gf _ ((upd_other c01).trans hG)).det) goes27 ac_nil rfl ?_
 rintro r M' ⟨rfl, rfl⟩
 refine o_q (q_as (v_raw rfl)) rfl rfl rfl ?_
 refine o_nil ?_
 refine s_seq ?_
 refine s_region ?_
 refine o_q (q_mv (v_raw rfl)) rfl rfl rfl ?_
 refine o_callx ((new_m ((upd_other c01).trans hG) hno.1 hno.2)) goes28 (ac (v_raw rfl) ac_nil) rfl ?_
 rintro r M0 ⟨b1, O1, rfl, hX0, hO0⟩
 refine o_q (q_mv (v_tup rfl)) rfl rfl rfl ?_
 refine o_q (q_ext rfl rfl (mv)) rfl rfl rfl ?_
 refine o_q (q_ext rfl rfl (v_raw rfl)) rfl rfl rfl ?_
 refine o_q (q_as (mv)) rfl rfl rfl ?_
 refine o_q (q_as (v_raw rfl)) rfl rfl rfl ?_
 refine o_nil ?_
 refine s_seq ?_
 refine s_region ?_
 refine o_q (q_mv (v_raw rfl)) rfl rfl rfl ?_
 refine o_callx ((new_m hX0.g hno.1 hno.2)) goes28 (ac (v_raw rfl) ac_nil) rfl ?_
 rintro r M1 ⟨b2, O2, rfl, hZ0, hO1⟩
 have hD0 : Duo ge gf (M.upd B1 (.cells (mdC more))) M1 b1 b2 ((4 * 0 : Nat) : Int) (newM nodes.toNat) (newM nodes.toNat) O1 O2 := ⟨hX0.fr (fun c hc => (hO1 c (hX0.at'.ok c hc)).1) (hO1 0 (nn hX0.g)).1, hZ0, fun d hd => (hO1 d (hX0.at'.ok d hd)).2, fun d hd => ⟨((hO1 d (by rw [(hO0 d hd).1]; exact hd)).1).trans (hO0 d hd).1, (hO0 d hd).2⟩, fun d hd => ⟨((hO1 d (by rw [(hO0 d hd).1]; exact hd)).1).trans (hO0 d hd).1, (hO1 d (by rw [(hO0 d hd).1]; exact hd)).2⟩⟩
 refine o_q (q_mv (v_tup rfl)) rfl rfl rfl ?_
 refine o_q (q_ext rfl rfl (mv)) rfl rfl rfl ?_
 refine o_q (q_ext rfl rfl (v_raw rfl)) rfl rfl rfl ?_
 refine o_q (q_as (mv)) rfl rfl rfl ?_
 refine o_q (q_as (v_raw rfl)) rfl rfl rfl ?_
 refine o_nil ?_
 refine s_seq ?_
 refine s_seq ?_
 refine s_region ?_
 refine o_q (q_mv (v_raw rfl)) rfl rfl rfl ?_
 refine o_q (q_neq rfl rfl) rfl rfl rfl ?_
 refine o_q (q_mv (v_raw rfl)) rfl rfl rfl ?_
 refine o_g (G := true) rfl rfl rfl rfl rfl (fun hG hc => (q_mv (v_raw rfl))) ?_
 refine o_g (G := true) rfl rfl rfl rfl rfl (fun hG hc => (q_neq (gv_on (gv_and hG hc) rfl) rfl)) ?_
 refine o_q (q_por (c := _) (b := _) rfl rfl rfl) rfl rfl rfl ?_
 refine o_q (q_mv (v_raw rfl)) rfl rfl rfl ?_
 refine o_g (G := true) rfl rfl rfl rfl rfl (fun hG hc => (q_mv (mv))) ?_
 refine o_g (G := true) rfl rfl rfl rfl rfl (fun hG hc => (q_peql und52 (gv_on (gv_and hG hc) rfl) rfl)) ?_
 refine o_q (q_por (c := _) (b := _) rfl rfl rfl) rfl rfl rfl ?_
 refine o_q (q_mv (v_raw rfl)) rfl rfl rfl ?_
 refine o_g (G := true) rfl rfl rfl rfl rfl (fun hG hc => (q_mv (mv))) ?_
 refine o_g (G := true) rfl rfl rfl rfl rfl (fun hG hc => (q_peql und52 (gv_on (gv_and hG hc) rfl) rfl)) ?_
 refine o_q (q_por (c := _) (b := _) rfl rfl rfl) rfl rfl rfl ?_
 refine o_nil ?_
 refine s_else rfl rfl ?_
 refine s_skip ?_
 refine s_seq ?_
 refine s_seq ?_
 refine s_region ?_
 refine o_q (q_as (v_raw rfl)) rfl rfl rfl ?_
 refine o_nil ?_
 refine s_block ?_
 refine s_loop (fun m S => ∃ T, ∃ M' : Mem, ∃ x : Mc, ∃ O1 O2 : Nat → Prop, ∃ i : Nat, S = ⟨setT (setT (setT (setT (setT (setT T 1 (.sl (deeds.map encMD) o1)) 5 (ptr B1)) 7 (bool true)) 8 (ptr b1)) 10 (ptr b2)) 12 (int (i : Nat)), M'⟩ ∧ Duo ge gf (M.upd B1 (.cells (mdC more))) M' b1 b2 ((4 * i : Nat) : Int) x x O1 O2 ∧ NmOk x ∧ i ≤ deeds.length ∧ i ≤ 80 ∧ m = deeds.length - i) deeds.length ?_ ?_
 ·exact ⟨_, _, newM nodes.toNat, O1, O2, 0, St.mkT (kp (kp (kp (kp (kp (kp rfl rfl) rfl) rfl) rfl) rfl) rfl).symm, hD0, nm_new _, by omega, by omega, rfl⟩
 rintro m S ⟨T, M', x, O1, O2, i, rfl, hD, hN, hi, hi80, rfl⟩
 have hb1 : M' B1 = some (.cells (mdC more)) := (hD.oa B1 (nn (Mem.upd_self _ _ _))).1.trans (Mem.upd_self _ _ _)
 have hcn := hD.a.ok.cnt
 refine s_seq ?_
 refine s_seq ?_
 refine s_region ?_
 refine o_q (q_mv (v_raw rfl)) rfl rfl rfl ?_
 refine o_q (q_mv (v_sl rfl)) rfl rfl rfl ?_
 refine o_q (q_len rfl und47 rfl) rfl rfl rfl ?_
 refine o_q (q_lss rfl rfl) rfl rfl rfl ?_
 refine o_q (q_mv (v_raw rfl)) rfl rfl rfl ?_
 refine o_g (G := true) rfl rfl rfl rfl rfl (fun hG hc => (q_mv (v_raw rfl))) ?_
 refine o_g (G := true) rfl rfl rfl rfl rfl (fun hG hc => (q_lss (gv_on (gv_and hG hc) rfl) rfl)) ?_
 refine o_q (q_pand (c := _) (b := _) rfl rfl rfl) rfl rfl rfl ?_
 refine o_nil ?_
 refine s_cond rfl (fun h1 => ?_) (fun h1 => ?_)
 ·have k1 := h1; try simp only [decide_eq_true_eq, decide_eq_false_iff_not, Bool.not_eq_true', Bool.not_eq_false', Bool.not_true, Bool.not_false, List.length_map, Decidable.not_not] at k1
  have hi2 : i < deeds.length := by
   simp only [Bool.and_eq_true, decide_eq_true_eq, List.length_map] at h1
   omega
  have hi8 : i < 80 := by
   simp only [Bool.and_eq_true, decide_eq_true_eq, List.length_map] at h1
   omega
  have hsl := step_len hD.a.ok (txD deeds[i])
  refine s_skip ?_
  refine s_seq ?_
  refine s_block ?_
  refine s_seq ?_
  refine s_region ?_
  refine o_q (q_mv (mv)) rfl rfl rfl ?_
  refine o_q (q_mv (v_sl rfl)) rfl rfl rfl ?_
  refine o_q (q_mv (v_raw rfl)) rfl rfl rfl ?_
  refine o_q (q_idx und47 sz51 rfl rfl (by omega) (gm i (by first | omega | simp)) rfl) rfl rfl rfl ?_
  refine o_q (q_lde ag51 sz51 rfl (gm i (by first | omega | simp)) rfl rfl) rfl rfl rfl ?_
  refine o_call (((snd30 deeds[i] (hds _ (List.getElem_mem hi2)).1 _).det)) goes30 (ac (v_agg rfl) ac_nil) rfl ?_
  refine o_callx ((apply_m hD.a (by omega) (txD_size (hds _ (List.getElem_mem hi2)).2) rfl)) goes29 (ac (mv) (ac (v_raw rfl) ac_nil)) rfl ?_
  rintro r M3 ⟨rfl, O3, hX3, hC3⟩
  have hD3 := hD.stepA (by omega) hX3 hC3
  refine o_alloc zc56 (fun B2 hB2 => ?_)
  have na2 := hD3.a.nof hB2
  have nb2 := hD3.b.nof hB2
  have m2 := hD3.oa.none hB2
  have c2 : B2 ≠ 0 := fun e => nn hD3.a.g (by rw [← e]; exact hB2)
  refine o_storew rfl mm mf rfl sz56 rfl rfl rfl rfl ?_
  refine o_nil ?_
  refine s_seq ?_
  refine s_region ?_
  refine o_q (q_mv (mv)) rfl rfl rfl ?_
  refine o_q (q_mv (v_sl rfl)) rfl rfl rfl ?_
  refine o_q (q_mv (v_raw rfl)) rfl rfl rfl ?_
  refine o_q (q_idx und47 sz51 rfl rfl (by omega) (gm i (by first | omega | simp)) rfl) rfl rfl rfl ?_
  refine o_q (q_lde ag51 sz51 rfl (gm i (by first | omega | simp)) rfl rfl) rfl rfl rfl ?_
  refine o_call (((snd30 deeds[i] (hds _ (List.getElem_mem hi2)).1 _).det)) goes30 (ac (v_agg rfl) ac_nil) rfl ?_
  refine o_callx ((apply_m ((hD3.upd m2 na2 nb2 c2).upd m2 na2 nb2 c2).b (by omega) (txD_size (hds _ (List.getElem_mem hi2)).2) rfl)) goes29 (ac (mv) (ac (v_raw rfl) ac_nil)) rfl ?_
  rintro r M4 ⟨rfl, O4, hX4, hC4⟩
  have hD4 := ((hD3.upd m2 na2 nb2 c2).upd m2 na2 nb2 c2).stepB (by omega) hX4 hC4
  have q2 := hC4.keep (Mem.upd_self _ _ _) nb2
  have w2 := hC4.nO (Mem.upd_self _ _ _) nb2
  refine o_alloc zc56 (fun B3 hB3 => ?_)
  have na3 := hD4.a.nof hB3
  have nb3 := hD4.b.nof hB3
  have m3 := hD4.oa.none hB3
  have c3 : B3 ≠ 0 := fun e => nn hD4.a.g (by rw [← e]; exact hB3)
  have f2_3 : B2 ≠ B3 := Mem.fresh_ne hB3 q2
  have f3_2 := f2_3.symm
  refine o_storew rfl mm mf rfl sz56 rfl rfl rfl rfl ?_
  refine o_nil ?_
  refine s_seq ?_
  refine s_region ?_
  refine o_q (q_ldmw ag56 sz56 rfl mm rfl rfl) rfl rfl rfl ?_
  refine o_q (q_ldmw ag56 sz56 rfl mm rfl rfl) rfl rfl rfl ?_
  refine o_call (((same31 (c := (stepM x (txD deeds[i])).2.code) (n := (stepM x (txD deeds[i])).2.n) (l := (stepM x (txD deeds[i])).2.recs) (by omega)).det)) goes31 (ac (v_agg rfl) (ac (v_agg rfl) ac_nil)) rfl ?_
  refine o_q (q_as (v_raw rfl)) rfl rfl rfl ?_
  refine o_nil ?_
  refine s_seq ?_
  refine s_region ?_
  refine o_q (q_mv (v_raw rfl)) rfl rfl rfl ?_
  refine o_q (q_not rfl) rfl rfl rfl ?_
  refine o_q (q_mv (v_raw rfl)) rfl rfl rfl ?_
  refine o_g (G := true) rfl rfl rfl rfl rfl (fun hG hc => (q_mv (mv))) ?_
  refine o_gw (G := true) rfl rfl rfl rfl (fun hG hc h => o_call ((digest_m ((hD4.upd m3 na3 nb3 c3).upd m3 na3 nb3 c3).a.at')) goes32 (ac ((by first | exact v_raw (gv_on (gv_and hG hc) rfl) | exact v_sptr rfl)) ac_nil) rfl h) ?_
  refine o_g (G := true) rfl rfl rfl rfl rfl (fun hG hc => (q_mv (mv))) ?_
  refine o_gw (G := true) rfl rfl rfl rfl (fun hG hc h => o_call ((digest_m ((hD4.upd m3 na3 nb3 c3).upd m3 na3 nb3 c3).b.at')) goes32 (ac ((by first | exact v_raw (gv_on (gv_and hG hc) rfl) | exact v_sptr rfl)) ac_nil) rfl h) ?_
  refine o_g (G := true) rfl rfl rfl rfl rfl (fun hG hc => (q_bin' (gv_on (gv_and hG hc) rfl) (gv_on (gv_and hG hc) rfl) (binNeSame _ _ _))) ?_
  refine o_q (q_por (c := _) (b := _) rfl rfl rfl) rfl rfl rfl ?_
  refine o_nil ?_
  refine s_else rfl rfl ?_
  refine s_skip ?_
  refine s_blk_normal ?_
  refine s_region ?_
  refine o_q (q_mv (v_raw rfl)) rfl rfl rfl ?_
  refine o_q (q_add rfl rfl (wrap64 (by omega) (by omega))) rfl rfl rfl ?_
  refine o_q (q_as (v_raw rfl)) rfl rfl rfl ?_
  refine o_nil ?_
  refine s_inv ?_
  exact ⟨deeds.length - (i + 1), by omega, _, _, (stepM x (txD deeds[i])).1, O3, O4, i + 1, St.mkT (kp (kp (kp (kp (kp (kp rfl rfl) rfl) rfl) rfl) rfl) rfl).symm, ((hD4.upd m3 na3 nb3 c3).upd m3 na3 nb3 c3).mono (by omega), (step_nm hN).1, by omega, by omega, rfl⟩
 ·have k1 := h1; try simp only [decide_eq_true_eq, decide_eq_false_iff_not, Bool.not_eq_true', Bool.not_eq_false', Bool.not_true, Bool.not_false, List.length_map, Decidable.not_not] at k1
  refine s_exit ?_
  refine s_code_exit ?_
  refine s_inv_exit ?_
  refine s_blk_here ?_
  refine s_seq ?_
  refine s_region ?_
  refine o_q (q_mv (mv)) rfl rfl rfl ?_
  refine o_q (q_ldm ag51 sz51 rfl mm rfl (v_agg rfl)) rfl rfl rfl ?_
  refine o_call (((snd30 more hms.1 _).det)) goes30 (ac (v_agg rfl) ac_nil) rfl ?_
  refine o_callx ((apply_m hD.a (by omega) (txD_size hms.2) rfl)) goes29 (ac (mv) (ac (v_raw rfl) ac_nil)) rfl ?_
  rintro r M5 ⟨rfl, O5, hX5, hC5⟩
  have hD5 := hD.stepA (by omega) hX5 hC5
  have hc5 := hD5.a.ok.cnt
  refine o_nil ?_
  refine s_seq ?_
  refine s_region ?_
  refine o_q (q_mv (v_raw rfl)) rfl rfl rfl ?_
  refine o_q (q_mv (v_raw rfl)) rfl rfl rfl ?_
  refine o_g (G := true) rfl rfl rfl rfl rfl (fun hG hc => (q_mv (mv))) ?_
  refine o_gw (G := true) rfl rfl rfl rfl (fun hG hc h => o_call ((count41 hD5.a.at')) goes33 (ac ((by first | exact v_raw (gv_on (gv_and hG hc) rfl) | exact v_sptr rfl)) ac_nil) rfl h) ?_
  refine o_g (G := true) rfl rfl rfl rfl rfl (fun hG hc => (q_mv (mv))) ?_
  refine o_gw (G := true) rfl rfl rfl rfl (fun hG hc h => o_call ((count41 hD5.b.at')) goes33 (ac ((by first | exact v_raw (gv_on (gv_and hG hc) rfl) | exact v_sptr rfl)) ac_nil) rfl h) ?_
  refine o_g (G := true) rfl rfl rfl rfl rfl (fun hG hc => (q_add (gv_on (gv_and hG hc) rfl) rfl (wrap64 (by omega) (by omega)))) ?_
  refine o_g (G := true) rfl rfl rfl rfl rfl (fun hG hc => (q_eql (gv_on (gv_and hG hc) rfl) (gv_on (gv_and hG hc) rfl))) ?_
  refine o_q (q_pand (c := _) (b := _) rfl rfl rfl) rfl rfl rfl ?_
  refine o_q (q_mv (v_raw rfl)) rfl rfl rfl ?_
  refine o_g (G := true) rfl rfl rfl rfl rfl (fun hG hc => (q_mv (mv))) ?_
  refine o_gw (G := true) rfl rfl rfl rfl (fun hG hc h => o_call ((topics_m hD5.a.at' (step_nm hN).1)) goes34 (ac ((by first | exact v_raw (gv_on (gv_and hG hc) rfl) | exact v_sptr rfl)) ac_nil) rfl h) ?_
  refine o_g (G := true) rfl rfl rfl rfl rfl (fun hG hc => (q_len rfl und62 (gv_on (gv_and hG hc) rfl))) ?_
  refine o_g (G := true) rfl rfl rfl rfl rfl (fun hG hc => (q_mv (mv))) ?_
  refine o_gw (G := true) rfl rfl rfl rfl (fun hG hc h => o_call ((topics_m hD5.b.at' hN)) goes34 (ac ((by first | exact v_raw (gv_on (gv_and hG hc) rfl) | exact v_sptr rfl)) ac_nil) rfl h) ?_
  refine o_g (G := true) rfl rfl rfl rfl rfl (fun hG hc => (q_len rfl und62 (gv_on (gv_and hG hc) rfl))) ?_
  refine o_g (G := true) rfl rfl rfl rfl rfl (fun hG hc => (q_geq (gv_on (gv_and hG hc) rfl) (gv_on (gv_and hG hc) rfl))) ?_
  refine o_q (q_pand (c := _) (b := _) rfl rfl rfl) rfl rfl rfl ?_
  refine o_q (q_as (v_raw rfl)) rfl rfl rfl ?_
  refine o_nil ?_
  refine s_ret ?_
  refine s_end ?_
  exact ⟨congrArg bool (by rw [step_cnt]; simp [sortS_len, (step_nm hN).2]), fun b o h => hD5.oa.le b o (Mem.le_upd (Mem.le_refl M) hB1 b o h)⟩
theorem agree4 (ge : TypeId) (gf : Nat × Nat) (nodes : Int) (deeds : List MDe) (more : MDe) (o1 : Bool) (M : Mem) (hG : M 0 = some (szO ge gf)) (hdl : deeds.length < 2 ^ 60) (hds : ∀ d ∈ deeds, (d.c.topic.size < 2 ^ 62 ∧ d.c.name.size < 2 ^ 62) ∧ d.s.size < 2 ^ 62) (hms : (more.c.topic.size < 2 ^ 62 ∧ more.c.name.size < 2 ^ 62) ∧ more.s.size < 2 ^ 62) : SoundCall Tryz.prog 4 [int nodes, .sl (deeds.map encMD) o1, encMD more] M fun r M' => r = bool true ∧ M.le M' := by
 by_cases h : 1 ≤ nodes ∧ nodes ≤ 7
 ·exact snd4b ge gf nodes deeds more o1 M hG h hdl hds hms
 ·exact snd4a ge gf nodes deeds more o1 M hG (by omega) hdl hds hms

end C17
