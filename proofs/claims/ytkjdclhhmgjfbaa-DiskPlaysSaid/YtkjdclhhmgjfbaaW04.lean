import Derived.Test.YtkjdclhhmgjfbaaV04
import Derived.Test.YtkjdclhhmgjfbaaK04
/-! Chapter 4: the disk: what its functions compute. -/
open Go Go.Proofs Go.Am
set_option linter.unusedVariables false
set_option linter.unusedSimpArgs false
set_option autoImplicit false
namespace C04
theorem slt22 : SlT Try.prog 22 3 1 8 := ⟨by kernel_rfl, by kernel_rfl, by kernel_rfl, by kernel_rfl, by decide⟩
theorem und24 : Try.prog.underlying 24 = some (.pointer 61) := by kernel_rfl
def tk9 : Nat → Nat → Option Nat := fun _ _ => none
def pl9 : Nat → List PStep := fun _ => []
theorem cb9 : Try.f9.body.map (codeB Try.prog Try.f9.ntmps tk9 pl9) = some true := by kernel_rfl
theorem goes9 : goesB Try.prog 9 = true := by kernel_rfl

section
variable {M : Mem} {O W : Nat → Prop} {d n : Nat} {s s' : DS} {nm b tx : ByteArray} {k : Int}
theorem create_at (h : DiskAt M d n s O W) (hn : n < BIG) (e : s.create nm = (k, s')) : SoundCall Try.prog 11 [ptr d, str nm] M fun r M' => r = int k ∧ Aft M M' d (n + 1) s' O W := by
  obtain ⟨rf, rl, adr, chs, h⟩ := h
  have := snd11 M d n rf rl adr s O W chs h hn nm
  rwa [e] at this
theorem append_at (h : DiskAt M d n s O W) (hn : n < BIG) (e : s.append nm tx = (k, s')) : SoundCall Try.prog 12 [ptr d, str nm, str tx] M fun r M' => r = int k ∧ Aft M M' d (n + 1) s' O W := by
  obtain ⟨rf, rl, adr, chs, h⟩ := h
  have := snd12 M d n rf rl adr s O W chs h hn nm tx
  rwa [e] at this
theorem sync_at (h : DiskAt M d n s O W) (hn : n < BIG) (e : s.sync nm = (k, s')) : SoundCall Try.prog 13 [ptr d, str nm] M fun r M' => r = int k ∧ Aft M M' d (n + 1) s' O W := by
  obtain ⟨rf, rl, adr, chs, h⟩ := h
  have := snd13 M d n rf rl adr s O W chs h hn nm
  rwa [e] at this
theorem dirsync_at (h : DiskAt M d n s O W) (hn : n < BIG) (e : s.dirsync = (k, s')) : SoundCall Try.prog 14 [ptr d] M fun r M' => r = int k ∧ Aft M M' d (n + 1) s' O W := by
  obtain ⟨rf, rl, adr, chs, h⟩ := h
  have := snd14 M d n rf rl adr s O W chs h hn
  rwa [e] at this
theorem rename_at (h : DiskAt M d n s O W) (hn : n < BIG) (e : s.rename nm b = (k, s')) : SoundCall Try.prog 19 [ptr d, str nm, str b] M fun r M' => r = int k ∧ Aft M M' d (n + 1) s' O W := by
  obtain ⟨rf, rl, adr, chs, h⟩ := h
  have := snd19 M d n rf rl adr s O W chs h hn nm b
  rwa [e] at this
theorem trunc_at (h : DiskAt M d n s O W) (hn : n < BIG) {z : Int} (e : s.trunc nm z = (k, s')) : SoundCall Try.prog 26 [ptr d, str nm, int z] M fun r M' => r = int k ∧ Aft M M' d (n + 1) s' O W := by
  obtain ⟨rf, rl, adr, chs, h⟩ := h
  have := snd26 M d n rf rl adr s O W chs h hn nm z
  rwa [e] at this
theorem remove_at (h : DiskAt M d n s O W) (hn : n < BIG) (e : s.remove nm = (k, s')) : SoundCall Try.prog 27 [ptr d, str nm] M fun r M' => r = int k ∧ Aft M M' d (n + 1) s' O W := by
  obtain ⟨rf, rl, adr, chs, h⟩ := h
  have := snd27 M d n rf rl adr s O W chs h hn nm
  rwa [e] at this
theorem crash_at (h : DiskAt M d n s O W) (hn : n < BIG) {dirs : Int} {keeps : List Int} {own : Bool} (hd : -2 ^ 63 ≤ dirs ∧ dirs < 2 ^ 63) (hk : ∀ z ∈ keeps, -2 ^ 63 ≤ z ∧ z < 2 ^ 63) (e : s.crash dirs keeps = s') : SoundCall Try.prog 15 [ptr d, int dirs, .sl (keeps.map int) own] M fun r M' => Aft M M' d n s' O W := by
  obtain ⟨rf, rl, adr, chs, h⟩ := h
  subst e
  exact snd15 M d n rf rl adr s O W chs h hn dirs keeps own hd hk
theorem fuse_at (h : DiskAt M d n s O W) {z : Int} (hz : -2 ^ 63 ≤ z ∧ z < 2 ^ 63) (e : s.setfuse z = s') : SoundCall Try.prog 17 [ptr d, int z] M fun r M' => r = .tup [] ∧ Aft M M' d n s' O W := by
  obtain ⟨rf, rl, adr, chs, h⟩ := h
  subst e
  exact snd17 M d n rf rl adr s O W chs h z hz
theorem read_at (h : DiskAt M d n s O W) (e : s.read nm = (tx, k)) : SoundCall Try.prog 16 [ptr d, str nm] M fun r M' => r = .tup [str tx, int k] ∧ M' = M := by
  obtain ⟨rf, rl, adr, chs, h⟩ := h
  have := snd16 M d n rf rl adr s O W chs h nm
  rwa [e] at this
theorem list_at (h : DiskAt M d n s O W) {l : List ByteArray} (e : s.list = (l, k)) : SoundCall Try.prog 28 [ptr d] M fun r M' => r = .tup [.sl (l.map str) false, int k] ∧ M' = M := by
  obtain ⟨rf, rl, adr, chs, h⟩ := h
  have := (snd28 M d n rf rl adr s O W chs h).det
  rwa [e] at this
theorem down_at (h : DiskAt M d n s O W) : SoundCall Try.prog 29 [ptr d] M fun r M' => r = bool s.down ∧ M' = M := by
  obtain ⟨rf, rl, adr, chs, h⟩ := h
  exact snd29 M d n rf rl adr s O W chs h
theorem used_at (h : DiskAt M d n s O W) : SoundCall Try.prog 32 [ptr d] M fun r M' => r = int (s.used : Nat) ∧ M' = M := by
  obtain ⟨rf, rl, adr, chs, h⟩ := h
  exact (snd32 M d n rf rl adr s O W chs h).det
theorem free_at (h : DiskAt M d n s O W) : SoundCall Try.prog 33 [ptr d] M fun r M' => r = int (s.room - (s.used : Nat)) ∧ M' = M := by
  obtain ⟨rf, rl, adr, chs, h⟩ := h
  exact snd33 M d n rf rl adr s O W chs h
end
abbrev M0 : Mem := fun _ => none
def sA : ByteArray := ⟨#[97]⟩
def sB : ByteArray := ⟨#[98]⟩
def sC : ByteArray := ⟨#[99]⟩
def y0 : DS := DS.new 100
def y1 : DS := (y0.create sA).2
def y2 : DS := (y1.append sA ⟨#[120, 121, 122]⟩).2
def y3 : DS := y2.dirsync.2
def y4 : DS := y3.crash 0 [2]
def y5 : DS := (y4.append sA ⟨#[122]⟩).2
def y6 : DS := (y5.sync sA).2
def y7 : DS := (y6.rename sA sB).2
def y8 : DS := y7.crash 1 []
def y9 : DS := y8.setfuse 1
def y10 : DS := (y9.remove sB).2
def y11 : DS := (y10.create sC).2
theorem nW : ∀ c, (fun _ : Nat => False) c → M0 c ≠ none := fun _ h => h.elim
theorem le0 (M : Mem) : M0.le M := fun _ _ h => by cases h
set_option maxHeartbeats 4000000 in
set_option maxRecDepth 20000 in
theorem snd9 (M : Mem) (hM : M = M0) : SoundCall Try.prog 9 [] M fun r M' => r = bool true ∧ M0.le M' := by
  subst hM
  refine SoundCall.go tk9 pl9 mixed Try.func9 cb9 rfl (Nat.le_of_ble_eq_true rfl) ?_
  refine s_seq ?_
  refine s_region ?_
  refine o_q (q_as (v_raw rfl)) rfl rfl rfl ?_
  refine o_nil ?_
  refine s_seq ?_
  refine s_region ?_
  refine o_callx ((newOk M0 100 (by decide) (by decide) _ nW)) goes10 (ac (v_raw rfl) ac_nil) rfl ?_
  rintro r0 M1 ⟨d, O0, W0, rfl, hA0, -⟩
  refine o_q (q_mv (v_tup rfl)) rfl rfl rfl ?_
  refine o_q (q_ext rfl rfl ((by first | exact v_raw rfl | exact v_sptr rfl))) rfl rfl rfl ?_
  refine o_q (q_ext rfl rfl (v_raw rfl)) rfl rfl rfl ?_
  refine o_q (q_as ((by first | exact v_raw rfl | exact v_sptr rfl))) rfl rfl rfl ?_
  refine o_q (q_as (v_raw rfl)) rfl rfl rfl ?_
  refine o_nil ?_
  refine s_seq ?_
  refine s_seq ?_
  refine s_region ?_
  refine o_q (q_mv ((by first | exact v_raw rfl | exact v_sptr rfl))) rfl rfl rfl ?_
  refine o_q (q_peql und24 rfl rfl) rfl rfl rfl ?_
  refine o_q (q_mv (v_raw rfl)) rfl rfl rfl ?_
  refine o_yes rfl rfl rfl rfl ?_
  refine o_q (q_mv (v_raw rfl)) rfl rfl rfl ?_
  refine o_yes rfl rfl rfl rfl ?_
  refine o_q (q_neq rfl rfl) rfl rfl rfl ?_
  refine o_q (q_pick_c (t := false) rfl rfl (v_raw rfl)) rfl rfl rfl ?_
  refine o_nil ?_
  refine s_else rfl rfl ?_
  refine s_skip ?_
  refine s_seq ?_
  refine s_region ?_
  refine o_q (q_mv ((by first | exact v_raw rfl | exact v_sptr rfl))) rfl rfl rfl ?_
  refine o_callx ((create_at (s := y0) (nm := sA) hA0 (by decide) (show _ = ((0 : Int), y1) by kernel_rfl))) goes11 (ac ((by first | exact v_raw rfl | exact v_sptr rfl)) (ac (v_raw rfl) ac_nil)) rfl ?_
  rintro r1 M1 ⟨rfl, O1, W1, hA1, -⟩
  refine o_nil ?_
  refine s_seq ?_
  refine s_region ?_
  refine o_q (q_mv ((by first | exact v_raw rfl | exact v_sptr rfl))) rfl rfl rfl ?_
  refine o_callx ((append_at (s := y1) (nm := sA) (tx := ⟨#[120, 121, 122]⟩) hA1 (by decide) (show _ = ((0 : Int), y2) by kernel_rfl))) goes12 (ac ((by first | exact v_raw rfl | exact v_sptr rfl)) (ac (v_raw rfl) (ac (v_raw rfl) ac_nil))) rfl ?_
  rintro r2 M2 ⟨rfl, O2, W2, hA2, -⟩
  refine o_nil ?_
  refine s_seq ?_
  refine s_region ?_
  refine o_q (q_mv ((by first | exact v_raw rfl | exact v_sptr rfl))) rfl rfl rfl ?_
  refine o_callx ((dirsync_at (s := y2) hA2 (by decide) (show _ = ((0 : Int), y3) by kernel_rfl))) goes14 (ac ((by first | exact v_raw rfl | exact v_sptr rfl)) ac_nil) rfl ?_
  rintro r3 M3 ⟨rfl, O3, W3, hA3, -⟩
  refine o_nil ?_
  refine s_seq ?_
  refine s_region ?_
  refine o_q (q_mv ((by first | exact v_raw rfl | exact v_sptr rfl))) rfl rfl rfl ?_
  refine o_q (q_bs slt22 (pc (v_raw rfl) pn) rfl (Els.cons rfl rfl Els.nil) (by decide)) rfl rfl rfl ?_
  refine o_callx ((crash_at (s := y3) (dirs := 0) (keeps := [2]) hA3 (by decide) (by decide) (by decide) rfl)) goes15 (ac ((by first | exact v_raw rfl | exact v_sptr rfl)) (ac (v_raw rfl) (ac (v_sl rfl) ac_nil))) rfl ?_
  rintro r4 M4 ⟨O4, W4, hA4, -⟩
  refine o_nil ?_
  refine s_seq ?_
  refine s_region ?_
  refine o_q (q_mv ((by first | exact v_raw rfl | exact v_sptr rfl))) rfl rfl rfl ?_
  refine o_call ((read_at (s := y4) (nm := sA) (tx := ⟨#[120, 121]⟩) (k := 0) hA4 (by kernel_rfl))) goes16 (ac ((by first | exact v_raw rfl | exact v_sptr rfl)) (ac (v_raw rfl) ac_nil)) rfl ?_
  refine o_q (q_mv (v_tup rfl)) rfl rfl rfl ?_
  refine o_q (q_ext rfl rfl (v_raw rfl)) rfl rfl rfl ?_
  refine o_q (q_ext rfl rfl (v_raw rfl)) rfl rfl rfl ?_
  refine o_q (q_as (v_raw rfl)) rfl rfl rfl ?_
  refine o_q (q_as (v_raw rfl)) rfl rfl rfl ?_
  refine o_nil ?_
  refine s_seq ?_
  refine s_region ?_
  refine o_q (q_mv ((by first | exact v_raw rfl | exact v_sptr rfl))) rfl rfl rfl ?_
  refine o_callx ((append_at (s := y4) (nm := sA) (tx := ⟨#[122]⟩) hA4 (by decide) (show _ = ((0 : Int), y5) by kernel_rfl))) goes12 (ac ((by first | exact v_raw rfl | exact v_sptr rfl)) (ac (v_raw rfl) (ac (v_raw rfl) ac_nil))) rfl ?_
  rintro r5 M5 ⟨rfl, O5, W5, hA5, -⟩
  refine o_nil ?_
  refine s_seq ?_
  refine s_region ?_
  refine o_q (q_mv ((by first | exact v_raw rfl | exact v_sptr rfl))) rfl rfl rfl ?_
  refine o_callx ((sync_at (s := y5) (nm := sA) hA5 (by decide) (show _ = ((0 : Int), y6) by kernel_rfl))) goes13 (ac ((by first | exact v_raw rfl | exact v_sptr rfl)) (ac (v_raw rfl) ac_nil)) rfl ?_
  rintro r6 M6 ⟨rfl, O6, W6, hA6, -⟩
  refine o_nil ?_
  refine s_seq ?_
  refine s_region ?_
  refine o_q (q_mv ((by first | exact v_raw rfl | exact v_sptr rfl))) rfl rfl rfl ?_
  refine o_callx ((rename_at (s := y6) (nm := sA) (b := sB) hA6 (by decide) (show _ = ((0 : Int), y7) by kernel_rfl))) goes19 (ac ((by first | exact v_raw rfl | exact v_sptr rfl)) (ac (v_raw rfl) (ac (v_raw rfl) ac_nil))) rfl ?_
  rintro r7 M7 ⟨rfl, O7, W7, hA7, -⟩
  refine o_nil ?_
  refine s_seq ?_
  refine s_region ?_
  refine o_q (q_mv ((by first | exact v_raw rfl | exact v_sptr rfl))) rfl rfl rfl ?_
  refine o_callx ((crash_at (s := y7) (dirs := 1) (keeps := []) hA7 (by decide) (by decide) (by decide) rfl)) goes15 (ac ((by first | exact v_raw rfl | exact v_sptr rfl)) (ac (v_raw rfl) (ac (v_sl rfl) ac_nil))) rfl ?_
  rintro r8 M8 ⟨O8, W8, hA8, -⟩
  refine o_nil ?_
  refine s_seq ?_
  refine s_region ?_
  refine o_q (q_mv ((by first | exact v_raw rfl | exact v_sptr rfl))) rfl rfl rfl ?_
  refine o_call ((list_at (s := y8) (l := [sB]) (k := 0) hA8 (by kernel_rfl))) goes28 (ac ((by first | exact v_raw rfl | exact v_sptr rfl)) ac_nil) rfl ?_
  refine o_q (q_mv (v_tup rfl)) rfl rfl rfl ?_
  refine o_q (q_ext rfl rfl (v_sl rfl)) rfl rfl rfl ?_
  refine o_q (q_ext rfl rfl (v_raw rfl)) rfl rfl rfl ?_
  refine o_q (q_as (v_sl rfl)) rfl rfl rfl ?_
  refine o_q (q_as (v_raw rfl)) rfl rfl rfl ?_
  refine o_nil ?_
  refine s_seq ?_
  refine s_region ?_
  refine o_q (q_mv ((by first | exact v_raw rfl | exact v_sptr rfl))) rfl rfl rfl ?_
  refine o_call ((read_at (s := y8) (nm := sB) (tx := ⟨#[120, 121, 122]⟩) (k := 0) hA8 (by kernel_rfl))) goes16 (ac ((by first | exact v_raw rfl | exact v_sptr rfl)) (ac (v_raw rfl) ac_nil)) rfl ?_
  refine o_q (q_mv (v_tup rfl)) rfl rfl rfl ?_
  refine o_q (q_ext rfl rfl (v_raw rfl)) rfl rfl rfl ?_
  refine o_q (q_ext rfl rfl (v_raw rfl)) rfl rfl rfl ?_
  refine o_q (q_as (v_raw rfl)) rfl rfl rfl ?_
  refine o_q (q_as (v_raw rfl)) rfl rfl rfl ?_
  refine o_nil ?_
  refine s_seq ?_
  refine s_region ?_
  refine o_q (q_mv ((by first | exact v_raw rfl | exact v_sptr rfl))) rfl rfl rfl ?_
  refine o_callx ((fuse_at (s := y8) (z := 1) hA8 (by decide) rfl)) goes17 (ac ((by first | exact v_raw rfl | exact v_sptr rfl)) (ac (v_raw rfl) ac_nil)) rfl ?_
  rintro r9 M9 ⟨rfl, O9, W9, hA9, -⟩
  refine o_nil ?_
  refine s_seq ?_
  refine s_region ?_
  refine o_q (q_mv ((by first | exact v_raw rfl | exact v_sptr rfl))) rfl rfl rfl ?_
  refine o_callx ((remove_at (s := y9) (nm := sB) hA9 (by decide) (show _ = ((0 : Int), y10) by kernel_rfl))) goes27 (ac ((by first | exact v_raw rfl | exact v_sptr rfl)) (ac (v_raw rfl) ac_nil)) rfl ?_
  rintro r10 M10 ⟨rfl, O10, W10, hA10, -⟩
  refine o_q (q_as (v_raw rfl)) rfl rfl rfl ?_
  refine o_nil ?_
  refine s_seq ?_
  refine s_region ?_
  refine o_q (q_mv ((by first | exact v_raw rfl | exact v_sptr rfl))) rfl rfl rfl ?_
  refine o_callx ((create_at (s := y10) (nm := sC) (k := 9) (s' := y11) hA10 (by decide) (by kernel_rfl))) goes11 (ac ((by first | exact v_raw rfl | exact v_sptr rfl)) (ac (v_raw rfl) ac_nil)) rfl ?_
  rintro r11 M11 ⟨rfl, O11, W11, hA11, -⟩
  refine o_q (q_as (v_raw rfl)) rfl rfl rfl ?_
  refine o_nil ?_
  refine s_seq ?_
  refine s_region ?_
  refine o_q (q_mv (v_raw rfl)) rfl rfl rfl ?_
  refine o_q (q_seql rfl rfl) rfl rfl rfl ?_
  refine o_q (q_mv (v_raw rfl)) rfl rfl rfl ?_
  refine o_yes rfl rfl rfl (by decide +kernel) ?_
  refine o_q (q_mv (v_raw rfl)) rfl rfl rfl ?_
  refine o_yes rfl rfl rfl (by decide +kernel) ?_
  refine o_q (q_eql rfl rfl) rfl rfl rfl ?_
  refine o_q (q_pick_c (t := true) rfl (by decide +kernel) (v_raw rfl)) rfl rfl rfl ?_
  refine o_q (q_mv (v_raw rfl)) rfl rfl rfl ?_
  refine o_yes rfl rfl rfl (by decide +kernel) ?_
  refine o_q (q_mv (v_sl rfl)) rfl rfl rfl ?_
  refine o_yes rfl rfl rfl (by decide +kernel) ?_
  refine o_q (q_len rfl und49 rfl) rfl rfl rfl ?_
  refine o_yes rfl rfl rfl (by decide +kernel) ?_
  refine o_q (q_eql rfl rfl) rfl rfl rfl ?_
  refine o_q (q_pick_c (t := true) rfl (by decide +kernel) (v_raw rfl)) rfl rfl rfl ?_
  refine o_q (q_mv (v_raw rfl)) rfl rfl rfl ?_
  refine o_yes rfl rfl rfl (by decide +kernel) ?_
  refine o_q (q_mv (v_sl rfl)) rfl rfl rfl ?_
  refine o_yes rfl rfl rfl (by decide +kernel) ?_
  refine o_q (q_idx und49 sz9 rfl rfl (by omega) (gm 0 (by first | omega | simp)) rfl) rfl rfl rfl ?_
  refine o_yes rfl rfl rfl (by decide +kernel) ?_
  refine o_q (q_ld ag9 sz9 rfl (gm 0 (by first | omega | simp)) rfl (v_raw rfl)) rfl rfl rfl ?_
  refine o_yes rfl rfl rfl (by decide +kernel) ?_
  refine o_q (q_seql rfl rfl) rfl rfl rfl ?_
  refine o_q (q_pick_c (t := true) rfl (by decide +kernel) (v_raw rfl)) rfl rfl rfl ?_
  refine o_q (q_mv (v_raw rfl)) rfl rfl rfl ?_
  refine o_yes rfl rfl rfl (by decide +kernel) ?_
  refine o_q (q_mv (v_raw rfl)) rfl rfl rfl ?_
  refine o_yes rfl rfl rfl (by decide +kernel) ?_
  refine o_q (q_eql rfl rfl) rfl rfl rfl ?_
  refine o_q (q_pick_c (t := true) rfl (by decide +kernel) (v_raw rfl)) rfl rfl rfl ?_
  refine o_q (q_mv (v_raw rfl)) rfl rfl rfl ?_
  refine o_yes rfl rfl rfl (by decide +kernel) ?_
  refine o_q (q_mv (v_raw rfl)) rfl rfl rfl ?_
  refine o_yes rfl rfl rfl (by decide +kernel) ?_
  refine o_q (q_seql rfl rfl) rfl rfl rfl ?_
  refine o_q (q_pick_c (t := true) rfl (by decide +kernel) (v_raw rfl)) rfl rfl rfl ?_
  refine o_q (q_mv (v_raw rfl)) rfl rfl rfl ?_
  refine o_yes rfl rfl rfl (by decide +kernel) ?_
  refine o_q (q_mv (v_raw rfl)) rfl rfl rfl ?_
  refine o_yes rfl rfl rfl (by decide +kernel) ?_
  refine o_q (q_eql rfl rfl) rfl rfl rfl ?_
  refine o_q (q_pick_c (t := true) rfl (by decide +kernel) (v_raw rfl)) rfl rfl rfl ?_
  refine o_q (q_mv (v_raw rfl)) rfl rfl rfl ?_
  refine o_yes rfl rfl rfl (by decide +kernel) ?_
  refine o_q (q_mv (v_raw rfl)) rfl rfl rfl ?_
  refine o_yes rfl rfl rfl (by decide +kernel) ?_
  refine o_q (q_eql rfl rfl) rfl rfl rfl ?_
  refine o_q (q_pick_c (t := true) rfl (by decide +kernel) (v_raw rfl)) rfl rfl rfl ?_
  refine o_q (q_mv (v_raw rfl)) rfl rfl rfl ?_
  refine o_yes rfl rfl rfl (by decide +kernel) ?_
  refine o_q (q_mv ((by first | exact v_raw rfl | exact v_sptr rfl))) rfl rfl rfl ?_
  refine o_yes rfl rfl rfl (by decide +kernel) ?_
  refine o_call ((down_at hA11)) goes29 (ac ((by first | exact v_raw rfl | exact v_sptr rfl)) ac_nil) rfl ?_
  refine o_q (q_pick_c (t := true) rfl (by decide +kernel) (v_raw rfl)) rfl rfl rfl ?_
  refine o_q (q_as (v_raw rfl)) rfl rfl rfl ?_
  refine o_nil ?_
  refine s_ret ?_
  refine s_end ?_
  exact ⟨by kernel_rfl, le0 _⟩
theorem ex9 : SoundCall Try.prog 9 [] M0 fun r M' => r = bool true ∧ M' = M0 := (snd9 M0 rfl).det

end C04
