import Derived.Test.YticeppepdlgbhaaGreatDoorZa7
/-! Chapter 17: the machine: Apply. -/
open Go Go.Proofs Go.Am
set_option linter.unusedVariables false
set_option linter.unusedSimpArgs false
set_option autoImplicit false
namespace C17

def tk29 : Nat → Nat → Option Nat := fun _ _ => none
def pl29 : Nat → List PStep
 | 6 => [.q 0, .q 1, .q 3, .q 4, .s 2 [4, 3, 0], .s 5 [1, 0], .s 6 []]
 | _ => []
theorem cb29 : Tryz.f29.body.map (codeB Tryz.prog Tryz.f29.ntmps tk29 pl29) = some true := by kernel_rfl
theorem goes29 : goesB Tryz.prog 29 = true := by kernel_rfl

/-- The next thing, counted and digested. -/
def cntM (x : Mc) (s : ByteArray) : Mc := ⟨x.tps, x.sbs, x.want, x.cnt + 1, C3.onP x.dig s⟩
/-- What a text does. -/
def stepM (x : Mc) (s : ByteArray) : Mc × Rp := if (decC s).2 ≠ 0 then (cntM x s, ⟨1, 0, []⟩) else doC (cntM x s) (decC s).1
theorem decC_right {s : ByteArray} (h : (decC s).2 = 0) : rightC (decC s).1 = true := by
 unfold decC at h ⊢
 split at h
 ·rename_i h1; exact absurd h h1
 ·rename_i h1
  rw [if_neg h1]
  split at h
  ·rename_i h2
   split at h
   ·rename_i h3
    split at h
    ·rename_i h4
     rw [if_pos h3, if_pos h4]; exact h4
    ·exact absurd h (by decide)
   ·exact absurd h (by decide)
  ·exact absurd h (by decide)
theorem cnt_ok {n : Int} {x : Mc} {s : ByteArray} (h : McOk n x) : McOk (n + 1) (cntM x s) :=
 ⟨fun k y e => ⟨(h.tp k y e).1, tpok_mono (h.tp k y e).2 (by omega)⟩, h.sb, C3.md_right _, ⟨by have := h.cnt; show 0 ≤ x.cnt + 1; omega, by have := h.cnt; show x.cnt + 1 ≤ _; omega⟩⟩
theorem step_ok {n : Int} {x : Mc} {s : ByteArray} (h : McOk n x) : McOk (n + 2) (stepM x s).1 := by
 unfold stepM
 split
 ·exact (cnt_ok h).mono (by omega)
 ·exact (doC_ok (cnt_ok h)).mono (by omega)
theorem on59 (d : C3.Pr) (s : ByteArray) (M : Mem) (hs : s.size < 2 ^ 62) (hd : C3.right d = true) : SoundCall Tryz.prog 67 [.agg [int d.re, int d.im], str s] M fun r M' => r = .tup [.agg [int (C3.onP d s).re, int (C3.onP d s).im], int 0] ∧ M' = M := by
 have h := C3.snd67 d s M hs
 rw [hd] at h
 exact h.det
theorem Aft.wrap {M M3 M' Mf : Mem} {O : Nat → Prop} {b B : Nat} {x' : Mc} (h : Aft M3 M' b x' O) (hOb : O b) (hb3 : M3 b ≠ none) (hk : ∀ d, d ≠ b → M d ≠ none → M3 d = M d) (m1 : M B = none) (hB3 : M3 B ≠ none) (hok : ∀ c, O c → M c ≠ none) (hf : ∀ d, d ≠ B → M' d ≠ none → Mf d = M' d) : Aft M Mf b x' O := by
 obtain ⟨O', h1, h2⟩ := h
 have nB : ¬ O' B := fun hc => (h2.new B hc).elim (fun hc => hok B hc m1) hB3
 have e3 : ∀ d, M d ≠ none → ¬ O d → M' d = M d := fun d hd hno => by
  have hdb : d ≠ b := fun e => hno (by rw [e]; exact hOb)
  have h4 := hk d hdb hd
  rw [h2.eq d (by rw [h4]; exact hd) hno, h4]
 refine ⟨O', h1.fr fun c hc => hf c (fun e => nB (by rw [← e]; exact hc)) (h1.ok c hc), ⟨fun d hd hno => ?_, fun d hd => ?_, h2.up⟩⟩
 ·rw [hf d (mem_put m1 hd) (by rw [e3 d hd hno]; exact hd)]; exact e3 d hd hno
 ·rcases h2.new d hd with h4 | h4
  ·exact .inl h4
  ·refine .inr ?_
   by_cases hd2 : d = b
   ·rw [hd2] at h4; exact absurd h4 hb3
   ·cases e : M d with
    | none => rfl
    | some o => rw [hk d hd2 (by rw [e]; exact fun h => by cases h), e] at h4; cases h4
theorem Aft.keep {M3 M' : Mem} {O : Nat → Prop} {b d : Nat} {x' : Mc} {o : AObj} (h : Aft M3 M' b x' O) (hd : M3 d = some o) (hno : ¬ O d) : M' d = some o := by
 obtain ⟨O', h1, h2⟩ := h
 rw [h2.eq d (by rw [hd]; exact fun h => by cases h) hno]; exact hd
theorem nn {M : Mem} {c : Nat} {o : AObj} (h : M c = some o) : M c ≠ none := by rw [h]; exact fun h => by cases h
set_option maxHeartbeats 4000000 in
set_option maxRecDepth 20000 in
theorem snd29a (b mt ms : Nat) (ad : ByteArray → Nat × Nat) (x : Mc) (O : Nat → Prop) (n : Int) (s : ByteArray) (ge : TypeId) (gf : Nat × Nat) (M : Mem) (h : McIs M b mt ms ad x O) (ho : McOk n x) (hn : n + 1 < 2 ^ 40) (hs : s.size < 2 ^ 62) (hG : M 0 = some (szO ge gf)) (he : (decC s).2 ≠ 0) : SoundCall Tryz.prog 29 [ptr b, str s] M fun r M' => r = rpO (stepM x s).2 ∧ Aft M M' b (stepM x s).1 O := by
 have hb := h.hb
 have hcnt := ho.cnt
 have h0b : (0 : Nat) ≠ b := fun e => by rw [← e, hG] at hb; cases hb
 refine SoundCall.go tk29 pl29 mixed Tryz.func29 cb29 rfl (Nat.le_of_ble_eq_true rfl) ?_
 refine s_seq ?_
 refine s_region ?_
 refine o_alloc zc56 (fun B1 hB1 => ?_)
 have cbF1 : b ≠ B1 := Mem.fresh_ne hB1 mm
 have cbF1' := cbF1.symm
 have c01 : (0 : Nat) ≠ B1 := Mem.fresh_ne hB1 mm
 have m1 : M B1 = none := by have h := hB1; repeat (first | exact h | exact Mem.none_of_le hle h | replace h := (Mem.upd_none h).2)
 refine o_nil ?_
 refine s_seq ?_
 refine s_region ?_
 refine o_q (q_mv (mv)) rfl rfl rfl ?_
 refine o_q (q_nil rfl) rfl rfl rfl ?_
 refine o_q (q_fr fo124_3 rfl) rfl rfl rfl ?_
 refine o_q (q_ldm ag3 sz3 rfl mm rfl (v_raw rfl)) rfl rfl rfl ?_
 refine o_q (q_add rfl rfl (wrap64 (by omega) (by omega))) rfl rfl rfl ?_
 refine o_q (q_nil rfl) rfl rfl rfl ?_
 refine o_q (q_fr fo124_3 rfl) rfl rfl rfl ?_
 refine o_store rfl mm me rfl sz3 rfl (Nat.le_of_ble_eq_true rfl) rfl rfl ?_
 refine o_nil ?_
 refine s_seq ?_
 refine s_region ?_
 refine o_q (q_mv (mv)) rfl rfl rfl ?_
 refine o_q (q_mv (mv)) rfl rfl rfl ?_
 refine o_q (q_nil rfl) rfl rfl rfl ?_
 refine o_q (q_fr fo124_4 rfl) rfl rfl rfl ?_
 refine o_q (q_ldm C3.ag60 C3.sz60 rfl mm rfl (v_agg rfl)) rfl rfl rfl ?_
 refine o_q (q_mv (v_raw rfl)) rfl rfl rfl ?_
 refine o_call ((on59 x.dig s _ hs ho.dig)) C3.goes67 (ac (v_agg rfl) (ac (v_raw rfl) ac_nil)) rfl ?_
 refine o_q (q_mv (v_tup rfl)) rfl rfl rfl ?_
 refine o_q (q_ext rfl rfl (v_agg rfl)) rfl rfl rfl ?_
 refine o_q (q_ext rfl rfl (v_raw rfl)) rfl rfl rfl ?_
 refine o_q (q_nil rfl) rfl rfl rfl ?_
 refine o_q (q_fr fo124_4 rfl) rfl rfl rfl ?_
 refine o_store rfl mm me rfl C3.sz60 rfl (Nat.le_of_ble_eq_true rfl) rfl rfl ?_
 refine o_nil ?_
 refine s_seq ?_
 refine s_region ?_
 refine o_q (q_mv (v_raw rfl)) rfl rfl rfl ?_
 refine o_call (((dec60 s hs ge gf _ mm).det)) goes68 (ac (v_raw rfl) ac_nil) rfl ?_
 refine o_q (q_mv (v_tup rfl)) rfl rfl rfl ?_
 refine o_q (q_ext rfl rfl (v_agg rfl)) rfl rfl rfl ?_
 refine o_q (q_ext rfl rfl (v_raw rfl)) rfl rfl rfl ?_
 refine o_alloc zc49 (fun B2 hB2 => ?_)
 have cb2 : b ≠ B2 := Mem.fresh_ne hB2 mm
 have cb2' := cb2.symm
 have c02 : (0 : Nat) ≠ B2 := Mem.fresh_ne hB2 mm
 have f1_2 : B1 ≠ B2 := Mem.fresh_ne hB2 mm
 have g2_1 : B2 ≠ B1 := f1_2.symm
 have m2 : M B2 = none := by have h := hB2; repeat (first | exact h | exact Mem.none_of_le hle h | replace h := (Mem.upd_none h).2)
 refine o_storew rfl mm mf rfl sz49 rfl rfl rfl rfl ?_
 refine o_q (q_as (v_raw rfl)) rfl rfl rfl ?_
 refine o_nil ?_
 refine s_seq ?_
 refine s_seq ?_
 refine s_region ?_
 refine o_q (q_mv (v_raw rfl)) rfl rfl rfl ?_
 refine o_q (q_neq rfl rfl) rfl rfl rfl ?_
 refine o_nil ?_
 refine s_then rfl (by rw [decide_eq_false he]; rfl) ?_
 refine s_seq ?_
 refine s_region ?_
 refine o_call (((code61 (1) (0) _))) goes69 (ac (v_raw rfl) (ac (v_raw rfl) ac_nil)) rfl ?_
 refine o_storew rfl mm mf rfl sz56 rfl rfl rfl rfl ?_
 refine o_nil ?_
 refine s_ret ?_
 refine s_code_ret ?_
 refine s_end ?_
 have e1 : stepM x s = ((cntM x s), ⟨1, 0, []⟩) := by unfold stepM; rw [if_pos he]
 rw [e1]
 exact ret_cell (.inl rfl) rfl rfl mm (loadP_w ag56 sz56 rfl rfl) ⟨rfl, O, ⟨mt, ms, ad, (h.setB mm (by intro d h1 h2; repeat (first | rfl | refine (upd_other (by first | assumption | exact mem_put (by assumption) h2)).trans ?_))).1⟩, (h.setB (W := x.want) (n := x.cnt + 1) (g := C3.onP x.dig s) mm (by intro d h1 h2; repeat (first | rfl | refine (upd_other (by first | assumption | exact mem_put (by assumption) h2)).trans ?_))).2⟩

set_option maxHeartbeats 4000000 in
set_option maxRecDepth 20000 in
theorem snd29b (b mt ms : Nat) (ad : ByteArray → Nat × Nat) (x : Mc) (O : Nat → Prop) (n : Int) (s : ByteArray) (ge : TypeId) (gf : Nat × Nat) (M : Mem) (h : McIs M b mt ms ad x O) (ho : McOk n x) (hn : n + 1 < 2 ^ 40) (hs : s.size < 2 ^ 62) (hG : M 0 = some (szO ge gf)) (he : (decC s).2 = 0) : SoundCall Tryz.prog 29 [ptr b, str s] M fun r M' => r = rpO (stepM x s).2 ∧ Aft M M' b (stepM x s).1 O := by
 have hb := h.hb
 have hcnt := ho.cnt
 have h0b : (0 : Nat) ≠ b := fun e => by rw [← e, hG] at hb; cases hb
 refine SoundCall.go tk29 pl29 mixed Tryz.func29 cb29 rfl (Nat.le_of_ble_eq_true rfl) ?_
 refine s_seq ?_
 refine s_region ?_
 refine o_alloc zc56 (fun B1 hB1 => ?_)
 have cbF1 : b ≠ B1 := Mem.fresh_ne hB1 mm
 have cbF1' := cbF1.symm
 have c01 : (0 : Nat) ≠ B1 := Mem.fresh_ne hB1 mm
 have m1 : M B1 = none := by have h := hB1; repeat (first | exact h | exact Mem.none_of_le hle h | replace h := (Mem.upd_none h).2)
 refine o_nil ?_
 refine s_seq ?_
 refine s_region ?_
 refine o_q (q_mv (mv)) rfl rfl rfl ?_
 refine o_q (q_nil rfl) rfl rfl rfl ?_
 refine o_q (q_fr fo124_3 rfl) rfl rfl rfl ?_
 refine o_q (q_ldm ag3 sz3 rfl mm rfl (v_raw rfl)) rfl rfl rfl ?_
 refine o_q (q_add rfl rfl (wrap64 (by omega) (by omega))) rfl rfl rfl ?_
 refine o_q (q_nil rfl) rfl rfl rfl ?_
 refine o_q (q_fr fo124_3 rfl) rfl rfl rfl ?_
 refine o_store rfl mm me rfl sz3 rfl (Nat.le_of_ble_eq_true rfl) rfl rfl ?_
 refine o_nil ?_
 refine s_seq ?_
 refine s_region ?_
 refine o_q (q_mv (mv)) rfl rfl rfl ?_
 refine o_q (q_mv (mv)) rfl rfl rfl ?_
 refine o_q (q_nil rfl) rfl rfl rfl ?_
 refine o_q (q_fr fo124_4 rfl) rfl rfl rfl ?_
 refine o_q (q_ldm C3.ag60 C3.sz60 rfl mm rfl (v_agg rfl)) rfl rfl rfl ?_
 refine o_q (q_mv (v_raw rfl)) rfl rfl rfl ?_
 refine o_call ((on59 x.dig s _ hs ho.dig)) C3.goes67 (ac (v_agg rfl) (ac (v_raw rfl) ac_nil)) rfl ?_
 refine o_q (q_mv (v_tup rfl)) rfl rfl rfl ?_
 refine o_q (q_ext rfl rfl (v_agg rfl)) rfl rfl rfl ?_
 refine o_q (q_ext rfl rfl (v_raw rfl)) rfl rfl rfl ?_
 refine o_q (q_nil rfl) rfl rfl rfl ?_
 refine o_q (q_fr fo124_4 rfl) rfl rfl rfl ?_
 refine o_store rfl mm me rfl C3.sz60 rfl (Nat.le_of_ble_eq_true rfl) rfl rfl ?_
 refine o_nil ?_
 refine s_seq ?_
 refine s_region ?_
 refine o_q (q_mv (v_raw rfl)) rfl rfl rfl ?_
 refine o_call (((dec60 s hs ge gf _ mm).det)) goes68 (ac (v_raw rfl) ac_nil) rfl ?_
 refine o_q (q_mv (v_tup rfl)) rfl rfl rfl ?_
 refine o_q (q_ext rfl rfl (v_agg rfl)) rfl rfl rfl ?_
 refine o_q (q_ext rfl rfl (v_raw rfl)) rfl rfl rfl ?_
 refine o_alloc zc49 (fun B2 hB2 => ?_)
 have cb2 : b ≠ B2 := Mem.fresh_ne hB2 mm
 have cb2' := cb2.symm
 have c02 : (0 : Nat) ≠ B2 := Mem.fresh_ne hB2 mm
 have f1_2 : B1 ≠ B2 := Mem.fresh_ne hB2 mm
 have g2_1 : B2 ≠ B1 := f1_2.symm
 have m2 : M B2 = none := by have h := hB2; repeat (first | exact h | exact Mem.none_of_le hle h | replace h := (Mem.upd_none h).2)
 refine o_storew rfl mm mf rfl sz49 rfl rfl rfl rfl ?_
 refine o_q (q_as (v_raw rfl)) rfl rfl rfl ?_
 refine o_nil ?_
 refine s_seq ?_
 refine s_seq ?_
 refine s_region ?_
 refine o_q (q_mv (v_raw rfl)) rfl rfl rfl ?_
 refine o_q (q_neq rfl rfl) rfl rfl rfl ?_
 refine o_nil ?_
 refine s_else rfl (by rw [decide_eq_true he]; rfl) ?_
 refine s_skip ?_
 refine s_seq ?_
 refine s_draw rfl ?_
 refine d_q rfl (q_fr fo49_0 rfl) rfl rfl rfl ?_
 refine d_q rfl (q_ldm ag3 sz3 rfl mm rfl (v_raw rfl)) rfl rfl rfl ?_
 refine d_q rfl (q_mv (mv)) rfl rfl rfl ?_
 refine d_q rfl (q_ldmw ag49 sz49 rfl mm rfl rfl) rfl rfl rfl ?_
 refine d_s rfl ?_
 refine o_call ((snd70 (decC s).1.kind _)) goes70 (ac (v_raw rfl) ac_nil) rfl ?_
 refine o_nil ⟨(by simp [Mem.upd, *]), ?_⟩
 refine d_s rfl ?_
 refine o_callv rfl ((does_at (x := (cntM x s)) (n := n + 1) (O := O) ⟨mt, ms, ad, (h.setB mm (by intro d h1 h2; repeat (first | rfl | refine (upd_other (by first | assumption | exact mem_put (by assumption) h2)).trans ?_))).1⟩ (cnt_ok ho) hn (decC_right he))) (by unfold fnK; split <;> (try split) <;> (try split) <;> (try split) <;> kernel_rfl) (ac (mv) (ac (v_agg rfl) ac_nil)) rfl rfl ?_
 rintro r M' ⟨rfl, hA⟩
 have q1 := hA.keep (d := B1) mm (fun hc => h.ok B1 hc m1)
 have q2 := hA.keep (d := B2) mm (fun hc => h.ok B2 hc m2)
 refine o_nil ⟨(by simp [Mem.upd, *]), ?_⟩
 refine d_s rfl ?_
 refine o_storew rfl mm mf rfl sz56 rfl rfl rfl rfl ?_
 refine o_nil ⟨(by simp [Mem.upd, *]), ?_⟩
 refine d_nil ?_
 refine s_ret ?_
 refine s_end ?_
 have e1 : stepM x s = doC (cntM x s) (decC s).1 := by unfold stepM; rw [if_neg (fun h => h he)]
 rw [e1]
 exact ret_cell (.inl rfl) rfl rfl mm (loadP_w ag56 sz56 rfl rfl) ⟨rfl, hA.wrap (B := B1) h.ob.1 (nn mm) (by intro d h1 h2; repeat (first | rfl | refine (upd_other (by first | assumption | exact mem_put (by assumption) h2)).trans ?_)) m1 (nn mm) h.ok (fun d hd _ => upd_other hd)⟩
end C17
