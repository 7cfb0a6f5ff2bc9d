import Derived.Test.YtkjdclhhmgjfbaaV04
import Derived.Test.YtkjdclhhmgjfbaaK04
/-! Chapter 4: the disk: what its functions compute. -/
open Go Go.Proofs Go.Am
set_option linter.unusedVariables false
set_option linter.unusedSimpArgs false
set_option autoImplicit false
namespace C04
theorem slt22 : SlT Try.prog 22 3 1 8 := ⟨by kernel_rfl, by kernel_rfl, by kernel_rfl, by kernel_rfl, by decide⟩
theorem und24 : Try.prog.underlying 24 = some (.pointer 61) := by kernel_rfl
def tk9 : Nat → Nat → Option Nat := fun _ _ => none
def pl9 : Nat → List PStep := fun _ => []
theorem cb9 : Try.f9.body.map (codeB Try.prog Try.f9.ntmps tk9 pl9) = some true := by kernel_rfl
theorem goes9 : goesB Try.prog 9 = true := by kernel_rfl
-- carillon/carillonlaw04.examples params [] results [['t', 0]] own [] names ['1:d', '2:e', '3:s', '4:f', '5:l', '6:g', '7:t', '8:_', '9:h', '10:i'] calls [10, 11, 12, 13, 14, 15, 16, 17, 19, 27, 28, 29] paths 1

section
variable {M : Mem} {O W : Nat → Prop} {d n : Nat} {s s' : DS} {nm b tx : ByteArray} {k : Int}
theorem create_at (h : DiskAt M d n s O W) (hn : n < BIG) (e : s.create nm = (k, s')) : SoundCall Try.prog 11 [ptr d, str nm] M fun r M' => r = int k ∧ Aft M M' d (n + 1) s' O W := by
  obtain ⟨rf, rl, adr, chs, h⟩ := h
  have := snd11 M d n rf rl adr s O W chs h hn nm
  rwa [e] at this
theorem append_at (h : DiskAt M d n s O W) (hn : n < BIG) (e : s.append nm tx = (k, s')) : SoundCall Try.prog 12 [ptr d, str nm, str tx] M fun r M' => r = int k ∧ Aft M M' d (n + 1) s' O W := by
  obtain ⟨rf, rl, adr, chs, h⟩ := h
  have := snd12 M d n rf rl adr s O W chs h hn nm tx
  rwa [e] at this
theorem sync_at (h : DiskAt M d n s O W) (hn : n < BIG) (e : s.sync nm = (k, s')) : SoundCall Try.prog 13 [ptr d, str nm] M fun r M' => r = int k ∧ Aft M M' d (n + 1) s' O W := by
  obtain ⟨rf, rl, adr, chs, h⟩ := h
  have := snd13 M d n rf rl adr s O W chs h hn nm
  rwa [e] at this
theorem dirsync_at (h : DiskAt M d n s O W) (hn : n < BIG) (e : s.dirsync = (k, s')) : SoundCall Try.prog 14 [ptr d] M fun r M' => r = int k ∧ Aft M M' d (n + 1) s' O W := by
  obtain ⟨rf, rl, adr, chs, h⟩ := h
  have := snd14 M d n rf rl adr s O W chs h hn
  rwa [e] at this
theorem rename_at (h : DiskAt M d n s O W) (hn : n < BIG) (e : s.rename nm b = (k, s')) : SoundCall Try.prog 19 [ptr d, str nm, str b] M fun r M' => r = int k ∧ Aft M M' d (n + 1) s' O W := by
  obtain ⟨rf, rl, adr, chs, h⟩ := h
  have := snd19 M d n rf rl adr s O W chs h hn nm b
  rwa [e] at this
theorem trunc_at (h : DiskAt M d n s O W) (hn : n < BIG) {z : Int} (e : s.trunc nm z = (k, s')) : SoundCall Try.prog 26 [ptr d, str nm, int z] M fun r M' => r = int k ∧ Aft M M' d (n + 1) s' O W := by
  obtain ⟨rf, rl, adr, chs, h⟩ := h
  have := snd26 M d n rf rl adr s O W chs h hn nm z
  rwa [e] at this
theorem remove_at (h : DiskAt M d n s O W) (hn : n < BIG) (e : s.remove nm = (k, s')) : SoundCall Try.prog 27 [ptr d, str nm] M fun r M' => r = int k ∧ Aft M M' d (n + 1) s' O W := by
  obtain ⟨rf, rl, adr, chs, h⟩ := h
  have := snd27 M d n rf rl adr s O W chs h hn nm
  rwa [e] at this
theorem crash_at (h : DiskAt M d n s O W) (hn : n < BIG) {dirs : Int} {keeps : List Int} {own : Bool} (hd : -2 ^ 63 ≤ dirs ∧ dirs < 2 ^ 63) (hk : ∀ z ∈ keeps, -2 ^ 63 ≤ z ∧ z < 2 ^ 63) (e : s.crash dirs keeps = s') : SoundCall Try.prog 15 [ptr d, int dirs, .sl (keeps.map int) own] M fun r M' => Aft M M' d n s' O W := by
  obtain ⟨rf, rl, adr, chs, h⟩ := h
  subst e
  exact snd15 M d n rf rl adr s O W chs h hn dirs keeps own hd hk
theorem fuse_at (h : DiskAt M d n s O W) {z : Int} (hz : -2 ^ 63 ≤ z ∧ z < 2 ^ 63) (e : s.setfuse z = s') : SoundCall Try.prog 17 [ptr d, int z] M fun r M' => r = .tup [] ∧ Aft M M' d n s' O W := by
  obtain ⟨rf, rl, adr, chs, h⟩ := h
  subst e
  exact snd17 M d n rf rl adr s O W chs h z hz
theorem read_at (h : DiskAt M d n s O W) (e : s.read nm = (tx, k)) : SoundCall Try.prog 16 [ptr d, str nm] M fun r M' => r = .tup [str tx, int k] ∧ M' = M := by
  obtain ⟨rf, rl, adr, chs, h⟩ := h
  have := snd16 M d n rf rl adr s O W chs h nm
  rwa [e] at this
theorem list_at (h : DiskAt M d n s O W) {l : List ByteArray} (e : s.list = (l, k)) : SoundCall Try.prog 28 [ptr d] M fun r M' => r = .tup [.sl (l.map str) false, int k] ∧ M' = M := by
  obtain ⟨rf, rl, adr, chs, h⟩ := h
  have := (snd28 M d n rf rl adr s O W chs h).det
  rwa [e] at this
theorem down_at (h : DiskAt M d n s O W) : SoundCall Try.prog 29 [ptr d] M fun r M' => r = bool s.down ∧ M' = M := by
  obtain ⟨rf, rl, adr, chs, h⟩ := h
  exact snd29 M d n rf rl adr s O W chs h
theorem used_at (h : DiskAt M d n s O W) : SoundCall Try.prog 32 [ptr d] M fun r M' => r = int (s.used : Nat) ∧ M' = M := by
  obtain ⟨rf, rl, adr, chs, h⟩ := h
  exact (snd32 M d n rf rl adr s O W chs h).det
theorem free_at (h : DiskAt M d n s O W) : SoundCall Try.prog 33 [ptr d] M fun r M' => r = int (s.room - (s.used : Nat)) ∧ M' = M := by
  obtain ⟨rf, rl, adr, chs, h⟩ := h
  exact snd33 M d n rf rl adr s O W chs h
end
abbrev M0 : Mem := fun _ => none
def sA : ByteArray := ⟨#[97]⟩
def sB : ByteArray := ⟨#[98]⟩
def sC : ByteArray := ⟨#[99]⟩
def y0 : DS := DS.new 100
def y1 : DS := (y0.create sA).2
def y2 : DS := (y1.append sA ⟨#[120, 121, 122]⟩).2
def y3 : DS := y2.dirsync.2
def y4 : DS := y3.crash 0 [2]
def y5 : DS := (y4.append sA ⟨#[122]⟩).2
def y6 : DS := (y5.sync sA).2
def y7 : DS := (y6.rename sA sB).2
def y8 : DS := y7.crash 1 []
def y9 : DS := y8.setfuse 1
def y10 : DS := (y9.remove sB).2
def y11 : DS := (y10.create sC).2
theorem nW : ∀ c, (fun _ : Nat => False) c → M0 c ≠ none := fun _ h => h.elim
theorem le0 (M : Mem) : M0.le M := fun _ _ h => by cases h
set_option maxHeartbeats 4000000 in
set_option maxRecDepth 20000 in
theorem snd9 (M : Mem) (hM : M = M0) : SoundCall Try.prog 9 [] M fun r M' => r = bool true ∧ M0.le M' := by
  subst hM
  refine SoundCall.go tk9 pl9 mixed Try.func9 cb9 rfl (Nat.le_of_ble_eq_true rfl) ?_
  refine s_seq ?_
  refine s_region ?_
  refine o_q (q_as (v_raw rfl)) rfl rfl rfl ?_
  refine o_nil ?_
  refine s_seq ?_
  refine s_region ?_
  refine o_callx ((newOk M0 100 (by decide) (by decide) _ nW)) goes10 (ac (v_raw rfl) ac_nil) rfl ?_
  rintro r0 M1 ⟨d, O0, W0, rfl, hA0, -⟩
  refine o_q (q_mv (v_tup rfl)) rfl rfl rfl ?_
  refine o_q (q_ext rfl rfl ((by first | exact v_raw rfl | exact v_sptr rfl))) rfl rfl rfl ?_
  refine o_q (q_ext rfl rfl (v_raw rfl)) rfl rfl rfl ?_
  refine o_q (q_as ((by first | exact v_raw rfl | exact v_sptr rfl))) rfl rfl rfl ?_
  refine o_q (q_as (v_raw rfl)) rfl rfl rfl ?_
  refine o_nil ?_
  refine s_seq ?_
  refine s_seq ?_
  refine s_region ?_
  refine o_q (q_mv ((by first | exact v_raw rfl | exact v_sptr rfl))) rfl rfl rfl ?_
  refine o_q (q_peql und24 rfl rfl) rfl rfl rfl ?_
  refine o_q (q_mv (v_raw rfl)) rfl rfl rfl ?_
  refine o_yes rfl rfl rfl rfl ?_
  refine o_q (q_mv (v_raw rfl)) rfl rfl rfl ?_
  refine o_yes rfl rfl rfl rfl ?_
  refine o_q (q_neq rfl rfl) rfl rfl rfl ?_
  refine o_q (q_pick_c (t := false) rfl rfl (v_raw rfl)) rfl rfl rfl ?_
  refine o_nil ?_
  refine s_else rfl rfl ?_
  refine s_skip ?_
  refine s_seq ?_
  refine s_region ?_
  refine o_q (q_mv ((by first | exact v_raw rfl | exact v_sptr rfl))) rfl rfl rfl ?_
  refine o_callx ((create_at (s := y0) (nm := sA) hA0 (by decide) (show _ = ((0 : Int), y1) by kernel_rfl))) goes11 (ac ((by first | exact v_raw rfl | exact v_sptr rfl)) (ac (v_raw rfl) ac_nil)) rfl ?_
  rintro r1 M1 ⟨rfl, O1, W1, hA1, -⟩
  refine o_nil ?_
  refine s_seq ?_
  refine s_region ?_
  refine o_q (q_mv ((by first | exact v_raw rfl | exact v_sptr rfl))) rfl rfl rfl ?_
  refine o_callx ((append_at (s := y1) (nm := sA) (tx := ⟨#[120, 121, 122]⟩) hA1 (by decide) (show _ = ((0 : Int), y2) by kernel_rfl))) goes12 (ac ((by first | exact v_raw rfl | exact v_sptr rfl)) (ac (v_raw rfl) (ac (v_raw rfl) ac_nil))) rfl ?_
  rintro r2 M2 ⟨rfl, O2, W2, hA2, -⟩
  refine o_nil ?_
  refine s_seq ?_
  refine s_region ?_
  refine o_q (q_mv ((by first | exact v_raw rfl | exact v_sptr rfl))) rfl rfl rfl ?_
  refine o_callx ((dirsync_at (s := y2) hA2 (by decide) (show _ = ((0 : Int), y3) by kernel_rfl))) goes14 (ac ((by first | exact v_raw rfl | exact v_sptr rfl)) ac_nil) rfl ?_
  rintro r3 M3 ⟨rfl, O3, W3, hA3, -⟩
  refine o_nil ?_
  refine s_seq ?_
  refine s_region ?_
  refine o_q (q_mv ((by first | exact v_raw rfl | exact v_sptr rfl))) rfl rfl rfl ?_
  refine o_q (q_bs slt22 (pc (v_raw rfl) pn) rfl (Els.cons rfl rfl Els.nil) (by decide)) rfl rfl rfl ?_
  refine o_callx ((crash_at (s := y3) (dirs := 0) (keeps := [2]) hA3 (by decide) (by decide) (by decide) rfl)) goes15 (ac ((by first | exact v_raw rfl | exact v_sptr rfl)) (ac (v_raw rfl) (ac (v_sl rfl) ac_nil))) rfl ?_
  rintro r4 M4 ⟨O4, W4, hA4, -⟩
  refine o_nil ?_
  refine s_seq ?_
  refine s_region ?_
  refine o_q (q_mv ((by first | exact v_raw rfl | exact v_sptr rfl))) rfl rfl rfl ?_
  refine o_call ((read_at (s := y4) (nm := sA) (tx := ⟨#[120, 121]⟩) (k := 0) hA4 (by kernel_rfl))) goes16 (ac ((by first | exact v_raw rfl | exact v_sptr rfl)) (ac (v_raw rfl) ac_nil)) rfl ?_
  refine o_q (q_mv (v_tup rfl)) rfl rfl rfl ?_
  refine o_q (q_ext rfl rfl (v_raw rfl)) rfl rfl rfl ?_
  refine o_q (q_ext rfl rfl (v_raw rfl)) rfl rfl rfl ?_
  refine o_q (q_as (v_raw rfl)) rfl rfl rfl ?_
  refine o_q (q_as (v_raw rfl)) rfl rfl rfl ?_
  refine o_nil ?_
  refine s_seq ?_
  refine s_region ?_
  refine o_q (q_mv ((by first | exact v_raw rfl | exact v_sptr rfl))) rfl rfl rfl ?_
  refine o_callx ((append_at (s := y4) (nm := sA) (tx := ⟨#[122]⟩) hA4 (by decide) (show _ = ((0 : Int), y5) by kernel_rfl))) goes12 (ac ((by first | exact v_raw rfl | exact v_sptr rfl)) (ac (v_raw rfl) (ac (v_raw rfl) ac_nil))) rfl ?_
  rintro r5 M5 ⟨rfl, O5, W5, hA5, -⟩
  refine o_nil ?_
  refine s_seq ?_
  refine s_region ?_
  refine o_q (q_mv ((by first | exact v_raw rfl | exact v_sptr rfl))) rfl rfl rfl ?_
  refine o_callx ((sync_at (s := y5) (nm := sA) hA5 (by decide) (show _ = ((0 : Int), y6) by kernel_rfl))) goes13 (ac ((by first | exact v_raw rfl | exact v_sptr rfl)) (ac (v_raw rfl) ac_nil)) rfl ?_
  rintro r6 M6 ⟨rfl, O6, W6, hA6, -⟩
  refine o_nil ?_
  refine s_seq ?_
  refine s_region ?_
  refine o_q (q_mv ((by first | exact v_raw rfl | exact v_sptr rfl))) rfl rfl rfl ?_
  refine o_callx ((rename_at (s := y6) (nm := sA) (b := sB) hA6 (by decide) (show _ = ((0 : Int), y7) by kernel_rfl))) goes19 (ac ((by first | exact v_raw rfl | exact v_sptr rfl)) (ac (v_raw rfl) (ac (v_raw rfl) ac_nil))) rfl ?_
  rintro r7 M7 ⟨rfl, O7, W7, hA7, -⟩
  refine o_nil ?_
  refine s_seq ?_
  refine s_region ?_
  refine o_q (q_mv ((by first | exact v_raw rfl | exact v_sptr rfl))) rfl rfl rfl ?_
  refine o_callx ((crash_at (s := y7) (dirs := 1) (keeps := []) hA7 (by decide) (by decide) (by decide) rfl)) goes15 (ac ((by first | exact v_raw rfl | exact v_sptr rfl)) (ac (v_raw rfl) (ac (v_sl rfl) ac_nil))) rfl ?_
  rintro r8 M8 ⟨O8, W8, hA8, -⟩
  refine o_nil ?_
  refine s_seq ?_
  refine s_region ?_
  refine o_q (q_mv ((by first | exact v_raw rfl | exact v_sptr rfl))) rfl rfl rfl ?_
  refine o_call ((list_at (s := y8) (l := [sB]) (k := 0) hA8 (by kernel_rfl))) goes28 (ac ((by first | exact v_raw rfl | exact v_sptr rfl)) ac_nil) rfl ?_
  refine o_q (q_mv (v_tup rfl)) rfl rfl rfl ?_
  refine o_q (q_ext rfl rfl (v_sl rfl)) rfl rfl rfl ?_
  refine o_q (q_ext rfl rfl (v_raw rfl)) rfl rfl rfl ?_
  refine o_q (q_as (v_sl rfl)) rfl rfl rfl ?_
  refine o_q (q_as (v_raw rfl)) rfl rfl rfl ?_
  refine o_nil ?_
  refine s_seq ?_
  refine s_region ?_
  refine o_q (q_mv ((by first | exact v_raw rfl | exact v_sptr rfl))) rfl rfl rfl ?_
  refine o_call ((read_at (s := y8) (nm := sB) (tx := ⟨#[120, 121, 122]⟩) (k := 0) hA8 (by kernel_rfl))) goes16 (ac ((by first | exact v_raw rfl | exact v_sptr rfl)) (ac (v_raw rfl) ac_nil)) rfl ?_
  refine o_q (q_mv (v_tup rfl)) rfl rfl rfl ?_
  refine o_q (q_ext rfl rfl (v_raw rfl)) rfl rfl rfl ?_
  refine o_q (q_ext rfl rfl (v_raw rfl)) rfl rfl rfl ?_
  refine o_q (q_as (v_raw rfl)) rfl rfl rfl ?_
  refine o_q (q_as (v_raw rfl)) rfl rfl rfl ?_
  refine o_nil ?_
  refine s_seq ?_
  refine s_region ?_
  refine o_q (q_mv ((by first | exact v_raw rfl | exact v_sptr rfl))) rfl rfl rfl ?_
  refine o_callx ((fuse_at (s := y8) (z := 1) hA8 (by decide) rfl)) goes17 (ac ((by first | exact v_raw rfl | exact v_sptr rfl)) (ac (v_raw rfl) ac_nil)) rfl ?_
  rintro r9 M9 ⟨rfl, O9, W9, hA9, -⟩
  refine o_nil ?_
  refine s_seq ?_
  refine s_region ?_
  refine o_q (q_mv ((by first | exact v_raw rfl | exact v_sptr rfl))) rfl rfl rfl ?_
  refine o_callx ((remove_at (s := y9) (nm := sB) hA9 (by decide) (show _ = ((0 : Int), y10) by kernel_rfl))) goes27 (ac ((by first | exact v_raw rfl | exact v_sptr rfl)) (ac (v_raw rfl) ac_nil)) rfl ?_
  rintro r10 M10 ⟨rfl, O10, W10, hA10, -⟩
  refine o_q (q_as (v_raw rfl)) rfl rfl rfl ?_
  refine o_nil ?_
  refine s_seq ?_
  refine s_region ?_
  refine o_q (q_mv ((by first | exact v_raw rfl | exact v_sptr rfl))) rfl rfl rfl ?_
  refine o_callx ((create_at (s := y10) (nm := sC) (k := 9) (s' := y11) hA10 (by decide) (by kernel_rfl))) goes11 (ac ((by first | exact v_raw rfl | exact v_sptr rfl)) (ac (v_raw rfl) ac_nil)) rfl ?_
  rintro r11 M11 ⟨rfl, O11, W11, hA11, -⟩
  refine o_q (q_as (v_raw rfl)) rfl rfl rfl ?_
  refine o_nil ?_
  refine s_seq ?_
  refine s_region ?_
  refine o_q (q_mv (v_raw rfl)) rfl rfl rfl ?_
  refine o_q (q_seql rfl rfl) rfl rfl rfl ?_
  refine o_q (q_mv (v_raw rfl)) rfl rfl rfl ?_
  refine o_yes rfl rfl rfl (by decide +kernel) ?_
  refine o_q (q_mv (v_raw rfl)) rfl rfl rfl ?_
  refine o_yes rfl rfl rfl (by decide +kernel) ?_
  refine o_q (q_eql rfl rfl) rfl rfl rfl ?_
  refine o_q (q_pick_c (t := true) rfl (by decide +kernel) (v_raw rfl)) rfl rfl rfl ?_
  refine o_q (q_mv (v_raw rfl)) rfl rfl rfl ?_
  refine o_yes rfl rfl rfl (by decide +kernel) ?_
  refine o_q (q_mv (v_sl rfl)) rfl rfl rfl ?_
  refine o_yes rfl rfl rfl (by decide +kernel) ?_
  refine o_q (q_len rfl und49 rfl) rfl rfl rfl ?_
  refine o_yes rfl rfl rfl (by decide +kernel) ?_
  refine o_q (q_eql rfl rfl) rfl rfl rfl ?_
  refine o_q (q_pick_c (t := true) rfl (by decide +kernel) (v_raw rfl)) rfl rfl rfl ?_
  refine o_q (q_mv (v_raw rfl)) rfl rfl rfl ?_
  refine o_yes rfl rfl rfl (by decide +kernel) ?_
  refine o_q (q_mv (v_sl rfl)) rfl rfl rfl ?_
  refine o_yes rfl rfl rfl (by decide +kernel) ?_
  refine o_q (q_idx und49 sz9 rfl rfl (by omega) (gm 0 (by first | omega | simp)) rfl) rfl rfl rfl ?_
  refine o_yes rfl rfl rfl (by decide +kernel) ?_
  refine o_q (q_ld ag9 sz9 rfl (gm 0 (by first | omega | simp)) rfl (v_raw rfl)) rfl rfl rfl ?_
  refine o_yes rfl rfl rfl (by decide +kernel) ?_
  refine o_q (q_seql rfl rfl) rfl rfl rfl ?_
  refine o_q (q_pick_c (t := true) rfl (by decide +kernel) (v_raw rfl)) rfl rfl rfl ?_
  refine o_q (q_mv (v_raw rfl)) rfl rfl rfl ?_
  refine o_yes rfl rfl rfl (by decide +kernel) ?_
  refine o_q (q_mv (v_raw rfl)) rfl rfl rfl ?_
  refine o_yes rfl rfl rfl (by decide +kernel) ?_
  refine o_q (q_eql rfl rfl) rfl rfl rfl ?_
  refine o_q (q_pick_c (t := true) rfl (by decide +kernel) (v_raw rfl)) rfl rfl rfl ?_
  refine o_q (q_mv (v_raw rfl)) rfl rfl rfl ?_
  refine o_yes rfl rfl rfl (by decide +kernel) ?_
  refine o_q (q_mv (v_raw rfl)) rfl rfl rfl ?_
  refine o_yes rfl rfl rfl (by decide +kernel) ?_
  refine o_q (q_seql rfl rfl) rfl rfl rfl ?_
  refine o_q (q_pick_c (t := true) rfl (by decide +kernel) (v_raw rfl)) rfl rfl rfl ?_
  refine o_q (q_mv (v_raw rfl)) rfl rfl rfl ?_
  refine o_yes rfl rfl rfl (by decide +kernel) ?_
  refine o_q (q_mv (v_raw rfl)) rfl rfl rfl ?_
  refine o_yes rfl rfl rfl (by decide +kernel) ?_
  refine o_q (q_eql rfl rfl) rfl rfl rfl ?_
  refine o_q (q_pick_c (t := true) rfl (by decide +kernel) (v_raw rfl)) rfl rfl rfl ?_
  refine o_q (q_mv (v_raw rfl)) rfl rfl rfl ?_
  refine o_yes rfl rfl rfl (by decide +kernel) ?_
  refine o_q (q_mv (v_raw rfl)) rfl rfl rfl ?_
  refine o_yes rfl rfl rfl (by decide +kernel) ?_
  refine o_q (q_eql rfl rfl) rfl rfl rfl ?_
  refine o_q (q_pick_c (t := true) rfl (by decide +kernel) (v_raw rfl)) rfl rfl rfl ?_
  refine o_q (q_mv (v_raw rfl)) rfl rfl rfl ?_
  refine o_yes rfl rfl rfl (by decide +kernel) ?_
  refine o_q (q_mv ((by first | exact v_raw rfl | exact v_sptr rfl))) rfl rfl rfl ?_
  refine o_yes rfl rfl rfl (by decide +kernel) ?_
  refine o_call ((down_at hA11)) goes29 (ac ((by first | exact v_raw rfl | exact v_sptr rfl)) ac_nil) rfl ?_
  refine o_q (q_pick_c (t := true) rfl (by decide +kernel) (v_raw rfl)) rfl rfl rfl ?_
  refine o_q (q_as (v_raw rfl)) rfl rfl rfl ?_
  refine o_nil ?_
  refine s_ret ?_
  refine s_end ?_
  exact ⟨by kernel_rfl, le0 _⟩
theorem ex9 : SoundCall Try.prog 9 [] M0 fun r M' => r = bool true ∧ M' = M0 := (snd9 M0 rfl).det

end C04

/-! Chapter 4, the plain law: what a disk does. -/
open Go Go.Proofs Go.Am
set_option linter.unusedVariables false
set_option linter.unusedSimpArgs false
set_option autoImplicit false
namespace C04
section
variable {s s' : DS} {nm a b tx : ByteArray} {i : Nat} {k : Int}
theorem act_ok {t : DS → DS} (h : s.fuse ≠ 0) : s.act t = (0, t { s with fuse := tick s.fuse }) := if_neg h
theorem act_no {t : DS → DS} (h : s.fuse = 0) : s.act t = (9, { s with down := true }) := if_pos h
theorem onf_at {f : Nat → Int × DS} (hd : s.down = false) (hg : gets s.dir nm = some i) : s.onf nm f = f i := by
  unfold DS.onf; rw [hd, hg]; rfl
theorem gets_one (a : ByteArray) (i : Nat) : gets [(a, i)] a = some i := by simp [gets]
theorem tick_neg : tick (-1) = -1 := rfl
theorem onf_dn {f : Nat → Int × DS} (hd : s.down = true) : s.onf nm f = (9, s) := by
  unfold DS.onf; rw [hd]; rfl
end
theorem keepI_out {fs : List Fl} {x : Dir} {ks : List Int} {j : Nat} : ∀ (i : Nat), (∀ p ∈ x.take i, p.2 ≠ j) → (keepI fs x ks i).getD j fl0 = fs.getD j fl0
  | 0, _ => rfl
  | i + 1, h => by
    rw [keepI]
    cases hx : x[i]? with
    | none => exact keepI_out i fun p hp => h p (List.mem_of_mem_take (i := i) (by rw [List.take_take, Nat.min_eq_left (Nat.le_succ i)]; exact hp))
    | some p =>
      have hm : p ∈ x.take (i + 1) := by
        rw [List.take_add_one, hx]; simp
      have hne := h p hm
      dsimp only
      rw [List.getD_eq_getElem?_getD, List.getElem?_set_ne hne, ← List.getD_eq_getElem?_getD]
      exact keepI_out i fun q hq => h q (by rw [List.take_add_one]; exact List.mem_append_left _ hq)
theorem nodup_getElem {x : Dir} (hn : (x.map (·.2)).Nodup) {i j : Nat} (hi : i < x.length) (hj : j < x.length) (h : x[i].2 = x[j].2) : i = j := by
  have := (List.getElem_inj (i := i) (j := j) (h₀ := by simpa using hi) (h₁ := by simpa using hj) hn).1 (by simpa using h)
  exact this
/-- What a crash leaves of a file. -/
theorem keepI_at {fs : List Fl} {x : Dir} {ks : List Int} (hn : (x.map (·.2)).Nodup) {p : Nat} (hp : p < x.length) (hl : x[p].2 < fs.length) : ∀ (i : Nat), p < i → (keepI fs x ks i).getD x[p].2 fl0 = keepF (fs.getD x[p].2 fl0) (ks.getD p 0)
  | i + 1, h => by
    rw [keepI]
    cases hx : x[i]? with
    | none => exact keepI_at hn hp hl i (by have := List.getElem?_eq_none_iff.1 hx; omega)
    | some q =>
      obtain ⟨hi, rfl⟩ := List.getElem?_eq_some_iff.1 hx
      dsimp only
      by_cases e : i = p
      · subst e
        rw [List.getD_eq_getElem?_getD, List.getElem?_set_self (by rw [keepI_len]; exact hl)]
        show keepF _ _ = _
        rw [keepI_out (j := x[i].2) i fun q hq e2 => by
          obtain ⟨j, hj, rfl⟩ := List.mem_iff_getElem.1 hq
          rw [List.length_take] at hj
          rw [List.getElem_take] at e2
          have := nodup_getElem hn (by omega) hi e2
          omega]
      · rw [List.getD_eq_getElem?_getD, List.getElem?_set_ne (fun e2 => e (nodup_getElem hn hi hp e2)), ← List.getD_eq_getElem?_getD]
        exact keepI_at hn hp hl i (by omega)
/-- What is read behind a crash. -/
theorem crash_read {s : DS} {dirs : Int} {keeps : List Int} {nm : ByteArray} {i : Nat} {F : Fl} (hs : Srtd (runAll s.lst (s.since.take dirs.toNat))) (hn : ((runAll s.lst (s.since.take dirs.toNat)).map (·.2)).Nodup) (hg : gets (runAll s.lst (s.since.take dirs.toNat)) nm = some i) (hF : s.files[i]? = some F) :
    ∃ n, (s.crash dirs keeps).read nm = (⟨(keepR F.lasts F.acts n).toArray⟩, 0) := by
  obtain ⟨x, hx⟩ : ∃ x, runAll s.lst (s.since.take dirs.toNat) = x := ⟨_, rfl⟩
  rw [hx] at hs hn hg
  obtain ⟨p, hp, hpe⟩ := List.mem_iff_getElem.1 ((gets_iff hs.nd).1 hg)
  have hi : i < s.files.length := (List.getElem?_eq_some_iff.1 hF).1
  have hk := keepI_at (fs := s.files) (ks := keeps) hn hp (by rw [hpe]; exact hi) x.length hp
  rw [hpe] at hk
  refine ⟨keeps.getD p 0, ?_⟩
  have hg' : gets (s.crash dirs keeps).dir nm = some i := by unfold DS.crash; rw [hx]; exact hg
  unfold DS.read
  rw [show (s.crash dirs keeps).down = false from rfl, hg']
  have hnow : (s.crash dirs keeps).now i = keepR F.lasts F.acts (keeps.getD p 0) := by
    show ((keepI s.files (runAll s.lst (s.since.take dirs.toNat)) keeps (runAll s.lst (s.since.take dirs.toNat)).length).getD i fl0).now = _
    rw [hx, hk, List.getD_eq_getElem?_getD, hF]; rfl
  show ((⟨((s.crash dirs keeps).now i).toArray⟩ : ByteArray), (0 : Int)) = _
  rw [hnow]
/-- DiskLasts. -/
theorem lasts_law {nm syn more tx : ByteArray} {dirs : Int} {keeps : List Int} {k1 k2 k3 k4 k5 k7 : Int} {z1 z2 z3 z4 z5 z6 : DS} (e1 : (DS.new 1000000).create nm = (k1, z1)) (e2 : z1.append nm syn = (k2, z2)) (e3 : z2.sync nm = (k3, z3)) (e4 : z3.dirsync = (k4, z4)) (e5 : z4.append nm more = (k5, z5)) (e6 : z5.crash dirs keeps = z6) (e7 : z6.read nm = (tx, k7)) :
    (k1 ≠ 0 → k1 = 5) ∧ (k1 = 0 → (k2 ≠ 0 → k2 = 8) ∧ (k2 = 0 → k7 = 0 ∧ (k5 ≠ 0 → tx = syn) ∧ ∃ j, tx.data.toList = syn.data.toList ++ more.data.toList.take j)) := by
  by_cases hk : okN nm = true
  · have c1 : (DS.new 1000000).create nm = (0, ⟨1000000, [fl0], [(nm, 0)], [], [.mk nm 0], -1, false⟩) := by
      unfold DS.create
      rw [if_neg (by exact Bool.false_ne_true), if_neg (by simp [hk]), if_neg (by simp [DS.new, gets]), if_neg (by simp [DS.new]), act_ok (show (-1 : Int) ≠ 0 by decide)]; rfl
    rw [c1] at e1
    obtain ⟨rfl, rfl⟩ := Prod.mk.inj e1
    refine ⟨fun h => absurd rfl h, fun _ => ?_⟩
    have hg : ∀ i : Nat, gets [(nm, i)] nm = some i := fun i => by simp [gets]
    have c2 : ∀ (F : Fl) lst since tx, (⟨1000000, [F], [(nm, 0)], lst, since, -1, false⟩ : DS).append nm tx = if (1000000 : Int) - (F.now.length : Nat) < tx.size then (8, ⟨1000000, [F], [(nm, 0)], lst, since, -1, false⟩) else (0, ⟨1000000, [F.did (.app tx)], [(nm, 0)], lst, since, -1, false⟩) := fun F lst since tx => by
      unfold DS.append
      rw [onf_at rfl (hg 0)]
      have hu : (⟨1000000, [F], [(nm, 0)], lst, since, -1, false⟩ : DS).used = F.now.length := by simp [DS.used, DS.now]
      rw [hu]
      split
      · rfl
      · rw [act_ok (show (-1 : Int) ≠ 0 by decide)]; rfl
    rw [c2] at e2
    by_cases hr : (1000000 : Int) - ((fl0.now.length : Nat)) < syn.size
    · rw [if_pos hr] at e2
      obtain ⟨rfl, rfl⟩ := Prod.mk.inj e2
      exact ⟨fun _ => rfl, fun h => by cases h⟩
    · rw [if_neg hr] at e2
      obtain ⟨rfl, rfl⟩ := Prod.mk.inj e2
      refine ⟨fun h => absurd rfl h, fun _ => ?_⟩
      have hnow : (fl0.did (.app syn)).now = syn.data.toList := by
        show [] ++ syn.data.toList.take syn.size = _
        rw [List.nil_append, List.take_of_length_le]; exact Nat.le_of_eq Array.length_toList
      have c3 : (⟨1000000, [fl0.did (.app syn)], [(nm, 0)], [], [.mk nm 0], -1, false⟩ : DS).sync nm = (0, ⟨1000000, [⟨syn.data.toList, syn.data.toList, []⟩], [(nm, 0)], [], [.mk nm 0], -1, false⟩) := by
        unfold DS.sync
        rw [onf_at rfl (hg 0), act_ok (show (-1 : Int) ≠ 0 by decide)]
        show ((0 : Int), (⟨1000000, [⟨(fl0.did (.app syn)).now, (fl0.did (.app syn)).now, []⟩], [(nm, 0)], [], [.mk nm 0], tick (-1), false⟩ : DS)) = _
        rw [hnow]; rfl
      rw [c3] at e3
      obtain ⟨rfl, rfl⟩ := Prod.mk.inj e3
      have c4 : (⟨1000000, [⟨syn.data.toList, syn.data.toList, []⟩], [(nm, 0)], [], [.mk nm 0], -1, false⟩ : DS).dirsync = (0, ⟨1000000, [⟨syn.data.toList, syn.data.toList, []⟩], [(nm, 0)], [(nm, 0)], [], -1, false⟩) := by
        unfold DS.dirsync
        rw [if_neg Bool.false_ne_true, act_ok (show (-1 : Int) ≠ 0 by decide)]; rfl
      rw [c4] at e4
      obtain ⟨rfl, rfl⟩ := Prod.mk.inj e4
      rw [c2] at e5
      have hfin : ∀ F : Fl, ∃ n, ((⟨1000000, [F], [(nm, 0)], [(nm, 0)], [], -1, false⟩ : DS).crash dirs keeps).read nm = (⟨(keepR F.lasts F.acts n).toArray⟩, 0) := fun F =>
        crash_read (i := 0) (by simp [runAll, Srtd]) (by simp [runAll]) (by simp [runAll, gets]) rfl
      split at e5
      · obtain ⟨rfl, rfl⟩ := Prod.mk.inj e5
        obtain ⟨n, hn⟩ := hfin ⟨syn.data.toList, syn.data.toList, []⟩
        rw [← e6, hn] at e7
        obtain ⟨rfl, rfl⟩ := Prod.mk.inj e7
        exact ⟨rfl, fun _ => by simp [keepR], 0, by simp [keepR]⟩
      · obtain ⟨rfl, rfl⟩ := Prod.mk.inj e5
        obtain ⟨n, hn⟩ := hfin ((⟨syn.data.toList, syn.data.toList, []⟩ : Fl).did (.app more))
        rw [← e6, hn] at e7
        obtain ⟨rfl, rfl⟩ := Prod.mk.inj e7
        refine ⟨rfl, fun h => absurd rfl h, ?_⟩
        show ∃ j, keepR syn.data.toList [A.app more] n = _
        unfold keepR
        split
        · exact ⟨0, by simp⟩
        · split
          · exact ⟨_, rfl⟩
          · exact ⟨_, rfl⟩
  · have c1 : (DS.new 1000000).create nm = (5, DS.new 1000000) := by
      unfold DS.create
      rw [if_neg (by exact Bool.false_ne_true), if_pos (by simpa using hk)]
    rw [c1] at e1
    obtain ⟨rfl, rfl⟩ := Prod.mk.inj e1
    exact ⟨fun _ => rfl, fun h => by cases h⟩

/-! DiskRoom -/
def U (fs : List Fl) (dir : Dir) : Nat := (dir.map fun p => (fs.getD p.2 fl0).now.length).sum
theorem used_eq (s : DS) : s.used = U s.files s.dir := rfl
theorem U_cons (fs : List Fl) (p : ByteArray × Nat) (dir : Dir) : U fs (p :: dir) = (fs.getD p.2 fl0).now.length + U fs dir := by simp [U]
theorem U_perm {fs : List Fl} {l l' : Dir} (h : l.Perm l') : U fs l = U fs l' := (h.map _).sum_nat
theorem U_del (fs : List Fl) (dir : Dir) (k : ByteArray) : U fs (delS dir k) ≤ U fs dir := by
  induction dir with
  | nil => simp [delS]
  | cons p dir ih =>
    rw [U_cons]
    unfold delS at ih ⊢
    rw [List.filter_cons]
    split
    · rw [U_cons]; omega
    · omega
theorem U_delAt {fs : List Fl} : ∀ {dir : Dir} {a : ByteArray} {i : Nat}, (a, i) ∈ dir → U fs (delS dir a) + (fs.getD i fl0).now.length ≤ U fs dir
  | p :: dir, a, i, h => by
    rw [U_cons]
    unfold delS
    rw [List.filter_cons]
    rcases List.mem_cons.1 h with rfl | h
    · rw [if_neg (by simp)]
      have := U_del fs dir a
      unfold delS at this
      dsimp only
      omega
    · have := U_delAt (fs := fs) h
      unfold delS at this
      split
      · rw [U_cons]; omega
      · omega
theorem U_congr {fs fs' : List Fl} {dir : Dir} (h : ∀ p ∈ dir, (fs'.getD p.2 fl0).now.length = (fs.getD p.2 fl0).now.length) : U fs' dir = U fs dir := by
  unfold U
  rw [List.map_congr_left h]
theorem U_set {fs : List Fl} {F : Fl} : ∀ {dir : Dir} {a : ByteArray} {i : Nat}, (a, i) ∈ dir → (dir.map (·.2)).Nodup → i < fs.length → U (fs.set i F) dir + (fs.getD i fl0).now.length = U fs dir + F.now.length
  | p :: dir, a, i, h, hn, hi => by
    rw [U_cons, U_cons]
    rw [List.map_cons, List.nodup_cons] at hn
    have hself : ((fs.set i F).getD i fl0) = F := by rw [List.getD_eq_getElem?_getD, List.getElem?_set_self hi]; rfl
    have hoth : ∀ j, j ≠ i → (fs.set i F).getD j fl0 = fs.getD j fl0 := fun j hj => by rw [List.getD_eq_getElem?_getD, List.getElem?_set_ne (Ne.symm hj), ← List.getD_eq_getElem?_getD]
    rcases List.mem_cons.1 h with rfl | h
    · rw [hself, U_congr (fs := fs) fun q hq => by rw [hoth _ fun e => hn.1 (List.mem_map.2 ⟨q, hq, e⟩)]]
      dsimp only
      omega
    · have := U_set (F := F) h hn.2 hi
      rw [hoth p.2 fun e => hn.1 (List.mem_map.2 ⟨(a, i), h, e.symm⟩)]
      omega
theorem delS_no {dir : Dir} {k : ByteArray} (h : gets dir k = none) : delS dir k = dir := List.filter_eq_self.2 fun p hp => by simpa using gets_none.1 h p hp
def pick (c n : Int) : Int := if c < 0 then (-(c + 1)) % n else c % n
theorem pick_lt {c n : Int} (hn : 0 < n) : 0 ≤ pick c n ∧ pick c n < n := by
  unfold pick
  split
  · exact ⟨Int.emod_nonneg _ (by omega), Int.emod_lt_of_pos _ hn⟩
  · exact ⟨Int.emod_nonneg _ (by omega), Int.emod_lt_of_pos _ hn⟩
structure De where
  kind : Int
  a : ByteArray
  b : ByteArray
  n : Int
  kb : Option Addr
  kn : Nat
  kc : Nat
def encDe (o : De) : AVal := .agg [int o.kind, str o.a, str o.b, int o.n, .raw (.slice o.kb o.kn o.kc)]
def okDe (o : De) : Prop := (-2 ^ 63 ≤ o.kind ∧ o.kind < 2 ^ 63) ∧ (-2 ^ 63 ≤ o.n ∧ o.n < 2 ^ 63)
def DS.one (s : DS) (o : De) : Int × DS :=
  if pick o.kind 7 = 0 then s.create o.a else if pick o.kind 7 = 1 then s.append o.a o.b else if pick o.kind 7 = 2 then s.sync o.a else if pick o.kind 7 = 3 then s.rename o.a o.b
  else if pick o.kind 7 = 4 then s.trunc o.a o.n else if pick o.kind 7 = 5 then s.remove o.a else s.dirsync
/-- An act. -/
inductive Ak where
  | mk (nm : ByteArray)
  | ap (nm : ByteArray) (i : Nat) (tx : ByteArray)
  | sy (nm : ByteArray) (i : Nat)
  | mv (a b : ByteArray) (i : Nat)
  | cut (nm : ByteArray) (i n : Nat)
  | rm (a : ByteArray) (i : Nat)
  | ds
def Ak.run : Ak → DS → DS
  | .mk nm, t => t.made.chg (.mk nm t.files.length)
  | .ap _ i tx, t => t.did i (.app tx)
  | .sy _ i, t => t.synced i
  | .mv a b _, t => t.chg (.mv a b)
  | .cut _ i n, t => t.did i (.cut n)
  | .rm a _, t => t.chg (.rm a)
  | .ds, t => { t with lst := t.dir, since := [] }
def Ak.ok (s : DS) : Ak → Prop
  | .mk nm => okN nm = true ∧ gets s.dir nm = none ∧ s.dir.length < 200
  | .ap nm i tx => gets s.dir nm = some i ∧ (s.used : Int) + tx.size ≤ s.room
  | .sy nm i => gets s.dir nm = some i
  | .mv a b i => gets s.dir a = some i ∧ okN b = true
  | .cut nm i n => gets s.dir nm = some i ∧ n ≤ (s.now i).length
  | .rm a i => gets s.dir a = some i
  | .ds => True
def DS.onp (s : DS) (nm : ByteArray) (f : Nat → Except Int Ak) : Except Int Ak := match gets s.dir nm with | none => .error 7 | some i => f i
def DS.pcreate (s : DS) (nm : ByteArray) : Except Int Ak := if okN nm = false then .error 5 else if (gets s.dir nm).isSome then .error 6 else if 200 ≤ s.dir.length then .error 8 else .ok (.mk nm)
def DS.pappend (s : DS) (nm tx : ByteArray) : Except Int Ak := s.onp nm fun i => if s.room - s.used < tx.size then .error 8 else .ok (.ap nm i tx)
def DS.psync (s : DS) (nm : ByteArray) : Except Int Ak := s.onp nm fun i => .ok (.sy nm i)
def DS.prename (s : DS) (a b : ByteArray) : Except Int Ak := s.onp a fun i => if okN b = false then .error 5 else .ok (.mv a b i)
def DS.ptrunc (s : DS) (nm : ByteArray) (n : Int) : Except Int Ak := s.onp nm fun i => if n < 0 ∨ ((s.now i).length : Int) < n then .error 1 else .ok (.cut nm i n.toNat)
def DS.premove (s : DS) (a : ByteArray) : Except Int Ak := s.onp a fun i => .ok (.rm a i)
/-- A plan is done. -/
def DS.go (s : DS) : Except Int Ak → Int × DS
  | .error k => (if s.down then 9 else k, s)
  | .ok e => if s.down then (9, s) else s.act e.run
section
variable {s : DS} {a b nm tx : ByteArray} {n : Int}
theorem go_onf {f : Nat → Int × DS} {g : Nat → Except Int Ak} (h : ∀ i, s.down = false → f i = s.go (g i)) : s.onf nm f = s.go (s.onp nm g) := by
  unfold DS.onf DS.onp
  cases hd : s.down
  · cases hg : gets s.dir nm with
    | none => simp [DS.go, hd]
    | some i => exact h i hd
  · cases hg : gets s.dir nm with
    | none => simp [DS.go, hd]
    | some i =>
      dsimp only
      cases g i <;> simp [DS.go, hd]
theorem go_ok {e : Ak} (hd : s.down = false) : s.go (.ok e) = s.act e.run := by
  show (if s.down = true then (9, s) else s.act e.run) = _
  rw [if_neg (by rw [hd]; exact Bool.false_ne_true)]
theorem go_err {k : Int} (hd : s.down = false) : s.go (.error k) = (k, s) := by
  show ((if s.down = true then 9 else k), s) = _
  rw [if_neg (by rw [hd]; exact Bool.false_ne_true)]
theorem create_go : s.create nm = s.go (s.pcreate nm) := by
  unfold DS.create DS.pcreate
  cases hd : s.down
  · rw [if_neg Bool.false_ne_true]
    split
    · rw [go_err hd]
    · split
      · rw [go_err hd]
      · split
        · rw [go_err hd]
        · rw [go_ok hd]; rfl
  · rw [if_pos rfl]
    split
    · simp [DS.go, hd]
    · split
      · simp [DS.go, hd]
      · split <;> simp [DS.go, hd]
theorem append_go : s.append nm tx = s.go (s.pappend nm tx) := go_onf fun i hd => by
  split
  · rw [go_err hd]
  · rw [go_ok hd]; rfl
theorem sync_go : s.sync nm = s.go (s.psync nm) := go_onf fun i hd => by rw [go_ok hd]; rfl
theorem rename_go : s.rename a b = s.go (s.prename a b) := go_onf fun i hd => by
  split
  · rw [go_err hd]
  · rw [go_ok hd]; rfl
theorem trunc_go : s.trunc nm n = s.go (s.ptrunc nm n) := go_onf fun i hd => by
  split
  · rw [go_err hd]
  · rw [go_ok hd]; rfl
theorem remove_go : s.remove a = s.go (s.premove a) := go_onf fun i hd => by rw [go_ok hd]; rfl
theorem dirsync_go : s.dirsync = s.go (.ok .ds) := rfl
/-- A plan is right. -/
structure PlanOk (s : DS) (p : Except Int Ak) : Prop where
  ok : ∀ e, p = .ok e → e.ok s
  er : ∀ k, p = .error k → k ≠ 0 ∧ k ≠ 9
theorem plan_onp {g : Nat → Except Int Ak} (h : ∀ i, gets s.dir nm = some i → PlanOk s (g i)) : PlanOk s (s.onp nm g) := by
  unfold DS.onp
  cases hg : gets s.dir nm with
  | none => exact ⟨fun e h => (by cases h), fun k h => (by cases h; exact ⟨by decide, by decide⟩)⟩
  | some i => exact h i hg
theorem plan_er {k : Int} (hk : k ≠ 0 ∧ k ≠ 9) : PlanOk s (.error k) := ⟨fun e h => (by cases h), fun k' h => (by cases h; exact hk)⟩
theorem plan_ok {e : Ak} (he : e.ok s) : PlanOk s (.ok e) := ⟨fun e' h => (by cases h; exact he), fun k h => (by cases h)⟩
theorem pcreate_ok : PlanOk s (s.pcreate nm) := by
  unfold DS.pcreate
  split
  · exact plan_er (by decide)
  · split
    · exact plan_er (by decide)
    · split
      · exact plan_er (by decide)
      · rename_i h1 h2 h3
        exact plan_ok ⟨by simpa using h1, by simpa using h2, by omega⟩
theorem pappend_ok : PlanOk s (s.pappend nm tx) := plan_onp fun i hg => by
  split
  · exact plan_er (by decide)
  · exact plan_ok ⟨hg, by omega⟩
theorem psync_ok : PlanOk s (s.psync nm) := plan_onp fun i hg => plan_ok hg
theorem prename_ok : PlanOk s (s.prename a b) := plan_onp fun i hg => by
  split
  · exact plan_er (by decide)
  · rename_i h; exact plan_ok ⟨hg, by simpa using h⟩
theorem ptrunc_ok : PlanOk s (s.ptrunc nm n) := plan_onp fun i hg => by
  split
  · exact plan_er (by decide)
  · rename_i h; exact plan_ok ⟨hg, by omega⟩
theorem premove_ok : PlanOk s (s.premove a) := plan_onp fun i hg => plan_ok hg
end
def DS.plan (s : DS) (o : De) : Except Int Ak :=
  if pick o.kind 7 = 0 then s.pcreate o.a else if pick o.kind 7 = 1 then s.pappend o.a o.b else if pick o.kind 7 = 2 then s.psync o.a else if pick o.kind 7 = 3 then s.prename o.a o.b
  else if pick o.kind 7 = 4 then s.ptrunc o.a o.n else if pick o.kind 7 = 5 then s.premove o.a else .ok .ds
theorem one_go (s : DS) (o : De) : s.one o = s.go (s.plan o) := by
  unfold DS.one DS.plan
  split
  · exact create_go
  · split
    · exact append_go
    · split
      · exact sync_go
      · split
        · exact rename_go
        · split
          · exact trunc_go
          · split
            · exact remove_go
            · exact dirsync_go
theorem plan_right (s : DS) (o : De) : PlanOk s (s.plan o) := by
  unfold DS.plan
  split
  · exact pcreate_ok
  · split
    · exact pappend_ok
    · split
      · exact psync_ok
      · split
        · exact prename_ok
        · split
          · exact ptrunc_ok
          · split
            · exact premove_ok
            · exact plan_ok trivial
/-- What is right of the files of a disk. -/
theorem run_used {s : DS} {e : Ak} (hg : Gd s.files.length s.dir) (he : e.ok s) (hr : (s.used : Int) ≤ s.room) : (((e.run s).used : Nat) : Int) ≤ s.room := by
  cases e with
  | mk nm =>
    have h : U (s.files ++ [fl0]) (insS s.dir nm s.files.length) = U s.files s.dir := by
      rw [U_perm (insS_perm _ _ _), U_cons, delS_no he.2.1, U_congr (fs := s.files) fun p hp => by
        rw [List.getD_eq_getElem?_getD, List.getElem?_append_left (hg.nm p hp).2.2, ← List.getD_eq_getElem?_getD]]
      rw [List.getD_eq_getElem?_getD, List.getElem?_append_right (Nat.le_refl _), Nat.sub_self]
      show 0 + _ = _
      omega
    show ((U (s.files ++ [fl0]) (insS s.dir nm s.files.length) : Nat) : Int) ≤ s.room
    rw [h]; exact hr
  | ap nm i tx =>
    have hm := (gets_iff hg.srt.nd).1 he.1
    have h := U_set (F := (s.files.getD i fl0).did (.app tx)) hm hg.ni (hg.nm _ hm).2.2
    have h2 : ((s.files.getD i fl0).did (.app tx)).now.length = (s.files.getD i fl0).now.length + tx.size := by
      show ((s.files.getD i fl0).now ++ tx.data.toList.take tx.size).length = _
      rw [List.length_append, List.length_take, Array.length_toList]
      have : tx.data.size = tx.size := rfl
      omega
    have h3 := he.2
    rw [used_eq] at h3
    show ((U (s.files.set i ((s.files.getD i fl0).did (.app tx))) s.dir : Nat) : Int) ≤ s.room
    omega
  | sy nm i =>
    have hm := (gets_iff hg.srt.nd).1 he
    have h := U_set (F := ⟨s.now i, s.now i, []⟩) hm hg.ni (hg.nm _ hm).2.2
    rw [used_eq] at hr
    show ((U (s.files.set i ⟨s.now i, s.now i, []⟩) s.dir : Nat) : Int) ≤ s.room
    have h2 : (⟨s.now i, s.now i, []⟩ : Fl).now.length = (s.files.getD i fl0).now.length := rfl
    omega
  | mv a b i =>
    have hm := (gets_iff hg.srt.nd).1 he.1
    have h1 := U_delAt (fs := s.files) hm
    have h2 := U_del s.files (delS s.dir a) b
    have h : U s.files (insS (delS s.dir a) b i) = (s.files.getD i fl0).now.length + U s.files (delS (delS s.dir a) b) := by rw [U_perm (insS_perm _ _ _), U_cons]
    rw [used_eq] at hr
    show ((U s.files (insS (delS s.dir a) b ((gets s.dir a).getD 0)) : Nat) : Int) ≤ s.room
    rw [he.1]
    show ((U s.files (insS (delS s.dir a) b i) : Nat) : Int) ≤ s.room
    omega
  | cut nm i n =>
    have hm := (gets_iff hg.srt.nd).1 he.1
    have h := U_set (F := (s.files.getD i fl0).did (.cut n)) hm hg.ni (hg.nm _ hm).2.2
    have h2 : ((s.files.getD i fl0).did (.cut n)).now.length ≤ (s.files.getD i fl0).now.length := by
      show ((s.files.getD i fl0).now.take n).length ≤ _
      rw [List.length_take]; omega
    rw [used_eq] at hr
    show ((U (s.files.set i ((s.files.getD i fl0).did (.cut n))) s.dir : Nat) : Int) ≤ s.room
    omega
  | rm a i =>
    have h := U_del s.files s.dir a
    rw [used_eq] at hr
    show ((U s.files (delS s.dir a) : Nat) : Int) ≤ s.room
    omega
  | ds => exact hr
theorem Ak.tick {s : DS} {e : Ak} (h : e.ok s) (f : Int) : e.ok { s with fuse := f } := by
  cases e <;> exact h
theorem run_room (s : DS) (e : Ak) : (e.run s).room = s.room := by cases e <;> rfl
/-- One step of DiskRoom. -/
theorem room_step {s s' : DS} {k : Int} {p : Except Int Ak} (hg : Gd s.files.length s.dir) (hp : PlanOk s p) (hr : (s.used : Int) ≤ s.room) (e : s.go p = (k, s')) : (s'.used : Int) ≤ s.room ∧ s'.room = s.room ∧ (k ≠ 0 → s'.used = s.used) := by
  cases hd : s.down
  · cases p with
    | error k' =>
      rw [go_err hd] at e
      obtain ⟨rfl, rfl⟩ := Prod.mk.inj e
      exact ⟨hr, rfl, fun _ => rfl⟩
    | ok a =>
      rw [go_ok hd] at e
      by_cases hf : s.fuse = 0
      · rw [act_no hf] at e
        obtain ⟨rfl, rfl⟩ := Prod.mk.inj e
        exact ⟨hr, rfl, fun _ => rfl⟩
      · rw [act_ok hf] at e
        obtain ⟨rfl, rfl⟩ := Prod.mk.inj e
        exact ⟨run_used (s := { s with fuse := C04.tick s.fuse }) hg (Ak.tick (hp.ok a rfl) _) hr, run_room _ a, fun h => absurd rfl h⟩
  · have : s.go p = (9, s) := by cases p <;> simp [DS.go, hd]
    rw [this] at e
    obtain ⟨rfl, rfl⟩ := Prod.mk.inj e
    exact ⟨hr, rfl, fun _ => rfl⟩

/-! DiskSwaps -/
theorem take_all (s : ByteArray) : s.data.toList.take s.size = s.data.toList := List.take_of_length_le (Nat.le_of_eq Array.length_toList)
def sM : ByteArray := ⟨#[109]⟩
def sT : ByteArray := ⟨#[116]⟩
/-- How far it came. -/
def Sw (old anew : List UInt8) (k : Nat) (z : DS) : Prop :=
  z.room = 1000000 ∧ match k with
  | 0 => z.files = [⟨old, old, []⟩] ∧ z.dir = [(sM, 0)] ∧ z.lst = [(sM, 0)] ∧ z.since = []
  | 1 => z.files = [⟨old, old, []⟩, fl0] ∧ z.dir = [(sM, 0), (sT, 1)] ∧ z.lst = [(sM, 0)] ∧ z.since = [.mk sT 1]
  | 2 => (∃ F : Fl, F.now = anew ∧ z.files = [⟨old, old, []⟩, F]) ∧ z.dir = [(sM, 0), (sT, 1)] ∧ z.lst = [(sM, 0)] ∧ z.since = [.mk sT 1]
  | 3 => z.files = [⟨old, old, []⟩, ⟨anew, anew, []⟩] ∧ z.dir = [(sM, 0), (sT, 1)] ∧ z.lst = [(sM, 0)] ∧ z.since = [.mk sT 1]
  | 4 => z.files = [⟨old, old, []⟩, ⟨anew, anew, []⟩] ∧ z.dir = [(sM, 1)] ∧ z.lst = [(sM, 0)] ∧ z.since = [.mk sT 1, .mv sT sM]
  | _ => z.files = [⟨old, old, []⟩, ⟨anew, anew, []⟩] ∧ z.dir = [(sM, 1)] ∧ z.lst = [(sM, 1)] ∧ z.since = []
section
variable {old anew : List UInt8} {k : Nat} {z z' : DS} {c : Int}
theorem Sw.fd (h : Sw old anew k z) (f : Int) (d : Bool) : Sw old anew k { z with fuse := f, down := d } := h
theorem sw_step {m : Nat} {p : Except Int Ak} {e : Ak} (hs : Sw old anew k z) (h1 : p = .ok e) (h2 : ∀ f, Sw old anew m (e.run { z with fuse := f })) (h : z.go p = (c, z')) : (c = 0 ∧ Sw old anew m z') ∨ (c ≠ 0 ∧ Sw old anew k z') := by
  subst h1
  cases hd : z.down
  · rw [go_ok hd] at h
    by_cases hf : z.fuse = 0
    · rw [act_no hf] at h
      obtain ⟨rfl, rfl⟩ := Prod.mk.inj h
      exact .inr ⟨by decide, hs⟩
    · rw [act_ok hf] at h
      obtain ⟨rfl, rfl⟩ := Prod.mk.inj h
      exact .inl ⟨rfl, h2 _⟩
  · have : z.go (.ok e) = (9, z) := by simp [DS.go, hd]
    rw [this] at h
    obtain ⟨rfl, rfl⟩ := Prod.mk.inj h
    exact .inr ⟨by decide, hs⟩
theorem sw1 (hs : Sw old anew 0 z) (h : z.create sT = (c, z')) : (c = 0 ∧ Sw old anew 1 z') ∨ (c ≠ 0 ∧ Sw old anew 0 z') := by
  rw [create_go] at h
  obtain ⟨h0, h1, h2, h3, h4⟩ := id hs
  refine sw_step (e := .mk sT) hs ?_ (fun f => ?_) h
  · unfold DS.pcreate
    rw [if_neg (by decide), h2, if_neg (by decide), if_neg (by decide)]
  · refine ⟨h0, ?_⟩
    show z.files ++ [fl0] = _ ∧ insS z.dir sT z.files.length = _ ∧ z.lst = _ ∧ z.since ++ [.mk sT z.files.length] = _
    rw [h1, h2, h3, h4]
    exact ⟨rfl, (show insS [(sM, 0)] sT 1 = _ by decide), rfl, rfl⟩
theorem sw2 {tx : ByteArray} (ha : tx.data.toList = anew) (hl : old.length + tx.size ≤ 500000) (hs : Sw old anew 1 z) (h : z.append sT tx = (c, z')) : (c = 0 ∧ Sw old anew 2 z') ∨ (c ≠ 0 ∧ Sw old anew 1 z') := by
  rw [append_go] at h
  obtain ⟨h0, h1, h2, h3, h4⟩ := id hs
  have hg : gets z.dir sT = some 1 := by rw [h2]; decide
  refine sw_step (e := .ap sT 1 tx) hs ?_ (fun f => ?_) h
  · unfold DS.pappend DS.onp
    rw [hg]
    dsimp only
    have hu : z.used = old.length := by
      rw [used_eq, h1, h2]
      show old.length + (0 + 0) = _
      omega
    rw [if_neg (by rw [hu, h0]; omega)]
  · refine ⟨h0, ⟨fl0.did (.app tx), ?_, ?_⟩, h2, h3, h4⟩
    · show [] ++ tx.data.toList.take tx.size = anew
      rw [List.nil_append, take_all]; exact ha
    · show z.files.set 1 ((z.files.getD 1 fl0).did (.app tx)) = _
      rw [h1]; rfl
theorem sw3 (hs : Sw old anew 2 z) (h : z.sync sT = (c, z')) : (c = 0 ∧ Sw old anew 3 z') ∨ (c ≠ 0 ∧ Sw old anew 2 z') := by
  rw [sync_go] at h
  obtain ⟨h0, ⟨F, hF, h1⟩, h2, h3, h4⟩ := id hs
  have hg : gets z.dir sT = some 1 := by rw [h2]; decide
  refine sw_step (e := .sy sT 1) hs ?_ (fun f => ?_) h
  · unfold DS.psync DS.onp
    rw [hg]
  · refine ⟨h0, ?_, h2, h3, h4⟩
    show z.files.set 1 ⟨(z.files.getD 1 fl0).now, (z.files.getD 1 fl0).now, []⟩ = _
    rw [h1]
    show [_, (⟨F.now, F.now, []⟩ : Fl)] = _
    rw [hF]
theorem sw4 (hs : Sw old anew 3 z) (h : z.rename sT sM = (c, z')) : (c = 0 ∧ Sw old anew 4 z') ∨ (c ≠ 0 ∧ Sw old anew 3 z') := by
  rw [rename_go] at h
  obtain ⟨h0, h1, h2, h3, h4⟩ := id hs
  have hg : gets z.dir sT = some 1 := by rw [h2]; decide
  refine sw_step (e := .mv sT sM 1) hs ?_ (fun f => ?_) h
  · unfold DS.prename DS.onp
    rw [hg]
    dsimp only
    rw [if_neg (by decide)]
  · refine ⟨h0, h1, ?_, h3, ?_⟩
    · show insS (delS z.dir sT) sM ((gets z.dir sT).getD 0) = _
      rw [hg, h2]; decide
    · show z.since ++ [.mv sT sM] = _
      rw [h4]; rfl
theorem sw5 (hs : Sw old anew 4 z) (h : z.dirsync = (c, z')) : (c = 0 ∧ Sw old anew 5 z') ∨ (c ≠ 0 ∧ Sw old anew 4 z') := by
  rw [dirsync_go] at h
  obtain ⟨h0, h1, h2, h3, h4⟩ := id hs
  exact sw_step (e := .ds) hs rfl (fun f => ⟨h0, h1, h2, h2, rfl⟩) h
theorem take1 {α : Type} (a : α) : ∀ j, [a].take j = [] ∨ [a].take j = [a]
  | 0 => .inl rfl
  | j + 1 => .inr (by simp)
theorem take2 {α : Type} (a b : α) : ∀ j, [a, b].take j = [] ∨ [a, b].take j = [a] ∨ [a, b].take j = [a, b]
  | 0 => .inl rfl
  | 1 => .inr (.inl rfl)
  | j + 2 => .inr (.inr (by simp))
theorem sw_read (hk : k ≤ 5) (hs : Sw old anew k z) (dirs : Int) (keeps : List Int) : ((z.crash dirs keeps).read sM).2 = 0 ∧ (((z.crash dirs keeps).read sM).1.data.toList = old ∨ ((z.crash dirs keeps).read sM).1.data.toList = anew) := by
  have key : ∀ (x : Dir) (i : Nat) (l : List UInt8), (runAll z.lst (z.since.take dirs.toNat)) = x → (x = [(sM, 0)] ∨ x = [(sM, 0), (sT, 1)] ∨ x = [(sM, 1)]) → gets x sM = some i → z.files[i]? = some ⟨l, l, []⟩ → (l = old ∨ l = anew) → ((z.crash dirs keeps).read sM).2 = 0 ∧ (((z.crash dirs keeps).read sM).1.data.toList = old ∨ ((z.crash dirs keeps).read sM).1.data.toList = anew) := by
    intro x i l hx hx2 hg hf hl
    have h1 : Srtd x ∧ (x.map (·.2)).Nodup := by
      rcases hx2 with rfl | rfl | rfl
      · exact ⟨by simp [Srtd], by simp⟩
      · exact ⟨by unfold Srtd; decide, by decide⟩
      · exact ⟨by simp [Srtd], by simp⟩
    obtain ⟨n, hn⟩ := crash_read (s := z) (dirs := dirs) (keeps := keeps) (nm := sM) (by rw [hx]; exact h1.1) (by rw [hx]; exact h1.2) (by rw [hx]; exact hg) hf
    rw [hn]
    refine ⟨rfl, ?_⟩
    show (keepR l [] n).toArray.toList = old ∨ (keepR l [] n).toArray.toList = anew
    rw [List.toList_toArray]; exact hl
  match k, hk, hs with
  | 0, _, ⟨_, h1, h2, h3, h4⟩ => exact key [(sM, 0)] 0 old (by rw [h3, h4]; simp [runAll]) (.inl rfl) (by decide) (by rw [h1]; rfl) (.inl rfl)
  | 1, _, ⟨_, h1, h2, h3, h4⟩ =>
    rcases take1 (Dc.mk sT 1) dirs.toNat with e | e
    · exact key [(sM, 0)] 0 old (by rw [h3, h4, e]; rfl) (.inl rfl) (by decide) (by rw [h1]; rfl) (.inl rfl)
    · exact key [(sM, 0), (sT, 1)] 0 old (by rw [h3, h4, e]; decide) (.inr (.inl rfl)) (by decide) (by rw [h1]; rfl) (.inl rfl)
  | 2, _, ⟨_, ⟨F, _, h1⟩, h2, h3, h4⟩ =>
    rcases take1 (Dc.mk sT 1) dirs.toNat with e | e
    · exact key [(sM, 0)] 0 old (by rw [h3, h4, e]; rfl) (.inl rfl) (by decide) (by rw [h1]; rfl) (.inl rfl)
    · exact key [(sM, 0), (sT, 1)] 0 old (by rw [h3, h4, e]; decide) (.inr (.inl rfl)) (by decide) (by rw [h1]; rfl) (.inl rfl)
  | 3, _, ⟨_, h1, h2, h3, h4⟩ =>
    rcases take1 (Dc.mk sT 1) dirs.toNat with e | e
    · exact key [(sM, 0)] 0 old (by rw [h3, h4, e]; rfl) (.inl rfl) (by decide) (by rw [h1]; rfl) (.inl rfl)
    · exact key [(sM, 0), (sT, 1)] 0 old (by rw [h3, h4, e]; decide) (.inr (.inl rfl)) (by decide) (by rw [h1]; rfl) (.inl rfl)
  | 4, _, ⟨_, h1, h2, h3, h4⟩ =>
    rcases take2 (Dc.mk sT 1) (Dc.mv sT sM) dirs.toNat with e | e | e
    · exact key [(sM, 0)] 0 old (by rw [h3, h4, e]; rfl) (.inl rfl) (by decide) (by rw [h1]; rfl) (.inl rfl)
    · exact key [(sM, 0), (sT, 1)] 0 old (by rw [h3, h4, e]; decide) (.inr (.inl rfl)) (by decide) (by rw [h1]; rfl) (.inl rfl)
    · exact key [(sM, 1)] 1 anew (by rw [h3, h4, e]; decide) (.inr (.inr rfl)) (by decide) (by rw [h1]; rfl) (.inr rfl)
  | 5, _, ⟨_, h1, h2, h3, h4⟩ => exact key [(sM, 1)] 1 anew (by rw [h3, h4]; simp [runAll]) (.inr (.inr rfl)) (by decide) (by rw [h1]; rfl) (.inr rfl)
/-- What stands ahead of it. -/
theorem sw_setup {old : ByteArray} {anew : List UInt8} {f k1 k2 k3 k4 : Int} {z1 z2 z3 z4 z5 : DS} (hl : old.size ≤ 500000) (e1 : (DS.new 1000000).create sM = (k1, z1)) (e2 : z1.append sM old = (k2, z2)) (e3 : z2.sync sM = (k3, z3)) (e4 : z3.dirsync = (k4, z4)) (e5 : z4.setfuse f = z5) : Sw old.data.toList anew 0 z5 := by
  have c1 : (DS.new 1000000).create sM = (0, ⟨1000000, [fl0], [(sM, 0)], [], [.mk sM 0], -1, false⟩) := by
    unfold DS.create
    rw [if_neg (by exact Bool.false_ne_true), if_neg (by decide), if_neg (by simp [DS.new, gets]), if_neg (by simp [DS.new]), act_ok (show (-1 : Int) ≠ 0 by decide)]; rfl
  rw [c1] at e1
  obtain ⟨rfl, rfl⟩ := Prod.mk.inj e1
  have hnow : (fl0.did (.app old)).now = old.data.toList := by
    show [] ++ old.data.toList.take old.size = _
    rw [List.nil_append, take_all]
  have c2 : (⟨1000000, [fl0], [(sM, 0)], [], [.mk sM 0], -1, false⟩ : DS).append sM old = (0, ⟨1000000, [fl0.did (.app old)], [(sM, 0)], [], [.mk sM 0], -1, false⟩) := by
    unfold DS.append
    rw [onf_at (i := 0) rfl (show gets [(sM, 0)] sM = some 0 by decide)]
    have hu : (⟨1000000, [fl0], [(sM, 0)], [], [.mk sM 0], -1, false⟩ : DS).used = 0 := rfl
    rw [hu, if_neg (by show ¬ ((1000000 : Int) - ((0 : Nat) : Int) < old.size); omega), act_ok (show (-1 : Int) ≠ 0 by decide)]; rfl
  rw [c2] at e2
  obtain ⟨rfl, rfl⟩ := Prod.mk.inj e2
  have c3 : (⟨1000000, [fl0.did (.app old)], [(sM, 0)], [], [.mk sM 0], -1, false⟩ : DS).sync sM = (0, ⟨1000000, [⟨old.data.toList, old.data.toList, []⟩], [(sM, 0)], [], [.mk sM 0], -1, false⟩) := by
    unfold DS.sync
    rw [onf_at (i := 0) rfl (show gets [(sM, 0)] sM = some 0 by decide), act_ok (show (-1 : Int) ≠ 0 by decide)]
    show ((0 : Int), (⟨1000000, [⟨(fl0.did (.app old)).now, (fl0.did (.app old)).now, []⟩], [(sM, 0)], [], [.mk sM 0], tick (-1), false⟩ : DS)) = _
    rw [hnow]; rfl
  rw [c3] at e3
  obtain ⟨rfl, rfl⟩ := Prod.mk.inj e3
  have c4 : (⟨1000000, [⟨old.data.toList, old.data.toList, []⟩], [(sM, 0)], [], [.mk sM 0], -1, false⟩ : DS).dirsync = (0, ⟨1000000, [⟨old.data.toList, old.data.toList, []⟩], [(sM, 0)], [(sM, 0)], [], -1, false⟩) := by
    unfold DS.dirsync
    rw [if_neg Bool.false_ne_true, act_ok (show (-1 : Int) ≠ 0 by decide)]; rfl
  rw [c4] at e4
  obtain ⟨rfl, rfl⟩ := Prod.mk.inj e4
  subst e5
  exact ⟨rfl, rfl, rfl, rfl, rfl⟩
end
end C04
