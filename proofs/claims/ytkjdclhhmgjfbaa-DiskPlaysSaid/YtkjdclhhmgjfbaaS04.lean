import Derived.Test.YtkjdclhhmgjfbaaR04
import Derived.Test.YtkjdclhhmgjfbaaK04
/-! Chapter 4: the disk: what its functions compute. -/
open Go Go.Proofs Go.Am
set_option linter.unusedVariables false
set_option linter.unusedSimpArgs false
set_option autoImplicit false
namespace C04
theorem ag4 : aggT Try.prog 4 = some false := by kernel_rfl
theorem ag58 : aggT Try.prog 58 = some false := by kernel_rfl
theorem b2s65_9 : b2s Try.prog 65 9 = true := by kernel_rfl
theorem fo61_0 : fo Try.prog 61 0 = some (0, 1) := by kernel_rfl
theorem fo61_1 : fo Try.prog 61 1 = some (1, 1) := by kernel_rfl
theorem fo61_4 : fo Try.prog 61 4 = some (4, 1) := by kernel_rfl
theorem fo61_5 : fo Try.prog 61 5 = some (5, 1) := by kernel_rfl
theorem sz4 : sizeT Try.prog 4 = some 1 := by kernel_rfl
theorem sz58 : sizeT Try.prog 58 = some 1 := by kernel_rfl
theorem und5 : Try.prog.underlying 5 = some (.int .u8) := by kernel_rfl
theorem zc62 : zeroCellsT Try.prog 62 = some [.raw (.pointer none)] := by kernel_rfl
def tk34 : Nat → Nat → Option Nat := fun _ _ => none
def pl34 : Nat → List PStep := fun _ => []
theorem cb34 : Try.f34.body.map (codeB Try.prog Try.f34.ntmps tk34 pl34) = some true := by kernel_rfl
theorem goes34 : goesB Try.prog 34 = true := by kernel_rfl
set_option maxHeartbeats 4000000 in
set_option maxRecDepth 20000 in
theorem snd34 (nm : ByteArray) (M : Mem) : SoundCall Try.prog 34 [str nm] M fun r M' => r = bool (okN nm) ∧ M' = M := by
  refine SoundCall.go tk34 pl34 mixed Try.func34 cb34 rfl (Nat.le_of_ble_eq_true rfl) ?_
  refine s_seq ?_
  refine s_region ?_
  refine o_q (q_as (v_raw rfl)) rfl rfl rfl ?_
  refine o_nil ?_
  refine s_seq ?_
  refine s_region ?_
  refine o_q (q_mv (v_raw rfl)) rfl rfl rfl ?_
  refine o_q (q_sneq rfl rfl) rfl rfl rfl ?_
  refine o_q (q_mv (v_raw rfl)) rfl rfl rfl ?_
  refine o_cases (want := true) (j := 2) rfl rfl (fun h1 => ?_) (fun h1 => ?_)
  · have k1 := h1; try simp only [decide_eq_true_eq, decide_eq_false_iff_not, Bool.not_eq_true', Bool.not_eq_false', Bool.not_true, Bool.not_false, List.length_map, Decidable.not_not] at k1
    refine o_yes rfl rfl rfl h1 ?_
    refine o_q (q_mv (v_raw rfl)) rfl rfl rfl ?_
    refine o_yes rfl rfl rfl h1 ?_
    refine o_q (q_lens rfl und9 rfl) rfl rfl rfl ?_
    refine o_yes rfl rfl rfl h1 ?_
    refine o_q (q_leq rfl rfl) rfl rfl rfl ?_
    refine o_q (q_pick_c (t := true) rfl h1 (v_raw rfl)) rfl rfl rfl ?_
    refine o_q (q_as (v_raw rfl)) rfl rfl rfl ?_
    refine o_nil ?_
    refine s_ret ?_
    refine s_end ?_
    exact ⟨congrArg bool (by unfold okN; simp [k1]), rfl⟩
  · have k1 := h1; try simp only [decide_eq_true_eq, decide_eq_false_iff_not, Bool.not_eq_true', Bool.not_eq_false', Bool.not_true, Bool.not_false, List.length_map, Decidable.not_not] at k1
    refine o_no rfl rfl rfl rfl h1 ?_
    refine o_no rfl rfl rfl rfl h1 ?_
    refine o_no rfl rfl rfl rfl h1 ?_
    refine o_q (q_pick_c (t := false) rfl h1 (v_raw rfl)) rfl rfl rfl ?_
    refine o_q (q_as (v_raw rfl)) rfl rfl rfl ?_
    refine o_nil ?_
    refine s_ret ?_
    refine s_end ?_
    exact ⟨congrArg bool (by unfold okN; simp [k1]), rfl⟩

def tk29 : Nat → Nat → Option Nat := fun _ _ => none
def pl29 : Nat → List PStep := fun _ => []
theorem cb29 : Try.f29.body.map (codeB Try.prog Try.f29.ntmps tk29 pl29) = some true := by kernel_rfl
theorem goes29 : goesB Try.prog 29 = true := by kernel_rfl
set_option maxHeartbeats 4000000 in
set_option maxRecDepth 20000 in
theorem snd29 (M : Mem) (d n rf rl : Nat) (adr : Nat → Nat) (s : DS) (O W : Nat → Prop) (chs : List Ch) (hD : DiskIs M d n rf rl adr s O W chs) : SoundCall Try.prog 29 [ptr d] M fun r M' => r = bool s.down ∧ M' = M := by
  have hd := hD.hd
  unfold dC at hd
  refine SoundCall.go tk29 pl29 mixed Try.func29 cb29 rfl (Nat.le_of_ble_eq_true rfl) ?_
  refine s_seq ?_
  refine s_region ?_
  refine o_q (q_as (v_raw rfl)) rfl rfl rfl ?_
  refine o_nil ?_
  refine s_seq ?_
  refine s_region ?_
  refine o_q (q_mv ((by first | exact v_raw rfl | exact v_sptr rfl))) rfl rfl rfl ?_
  refine o_q (q_nil rfl) rfl rfl rfl ?_
  refine o_q (q_fr fo61_5 rfl) rfl rfl rfl ?_
  refine o_q (q_ldm ag4 sz4 rfl (by repeat first | exact Mem.upd_self _ _ _ | assumption | refine Mem.upd_ne (by assumption) ?_) rfl (v_raw rfl)) rfl rfl rfl ?_
  refine o_q (q_as (v_raw rfl)) rfl rfl rfl ?_
  refine o_nil ?_
  refine s_ret ?_
  refine s_end ?_
  exact ⟨rfl, rfl⟩

def tk37 : Nat → Nat → Option Nat := fun _ _ => none
def pl37 : Nat → List PStep := fun _ => []
theorem cb37 : Try.f37.body.map (codeB Try.prog Try.f37.ntmps tk37 pl37) = some true := by kernel_rfl
theorem goes37 : goesB Try.prog 37 = true := by kernel_rfl
def fptr (s : DS) (adr : Nat → Nat) (nm : ByteArray) : Value := match (if s.down then none else gets s.dir nm) with | some i => ptrV (adr i) | none => .pointer none
def DS.find (s : DS) (nm : ByteArray) : Int := if s.down then 9 else match gets s.dir nm with | some _ => 0 | none => 7
set_option maxHeartbeats 4000000 in
set_option maxRecDepth 20000 in
theorem snd37 (M : Mem) (d n rf rl : Nat) (adr : Nat → Nat) (s : DS) (O W : Nat → Prop) (chs : List Ch) (hD : DiskIs M d n rf rl adr s O W chs) (nm : ByteArray) : SoundCall Try.prog 37 [ptr d, str nm] M fun r M' => r = .tup [.raw (fptr s adr nm), int (s.find nm)] ∧ M' = M := by
  have hd := hD.hd
  unfold dC at hd
  obtain ⟨dm, hm, hp⟩ := hD.mf
  have hgd := (okC_gd hD.oc).2
  have hg := perm_gets hp hgd.srt nm
  refine SoundCall.go tk37 pl37 mixed Try.func37 cb37 rfl (Nat.le_of_ble_eq_true rfl) ?_
  refine s_seq ?_
  refine s_region ?_
  refine o_q (q_as ((by first | exact v_raw rfl | exact v_sptr rfl))) rfl rfl rfl ?_
  refine o_q (q_as (v_raw rfl)) rfl rfl rfl ?_
  refine o_nil ?_
  refine s_seq ?_
  refine s_seq ?_
  refine s_region ?_
  refine o_q (q_mv ((by first | exact v_raw rfl | exact v_sptr rfl))) rfl rfl rfl ?_
  refine o_q (q_nil rfl) rfl rfl rfl ?_
  refine o_q (q_fr fo61_5 rfl) rfl rfl rfl ?_
  refine o_q (q_ldm ag4 sz4 rfl (by repeat first | exact Mem.upd_self _ _ _ | assumption | refine Mem.upd_ne (by assumption) ?_) rfl (v_raw rfl)) rfl rfl rfl ?_
  refine o_nil ?_
  refine s_cond rfl (fun h1 => ?_) (fun h1 => ?_)
  · have k1 := h1; try simp only [decide_eq_true_eq, decide_eq_false_iff_not, Bool.not_eq_true', Bool.not_eq_false', Bool.not_true, Bool.not_false, List.length_map, Decidable.not_not] at k1
    refine s_seq ?_
    refine s_region ?_
    refine o_q (q_as ((by first | exact v_raw rfl | exact v_sptr rfl))) rfl rfl rfl ?_
    refine o_q (q_as (v_raw rfl)) rfl rfl rfl ?_
    refine o_nil ?_
    refine s_ret ?_
    refine s_code_ret ?_
    refine s_end ?_
    exact ret_many (.inl rfl) rfl (rl_t rfl (rl_t rfl rl_nil)) rfl ⟨(by unfold fptr DS.find; rw [h1]; rfl), rfl⟩
  · have k1 := h1; try simp only [decide_eq_true_eq, decide_eq_false_iff_not, Bool.not_eq_true', Bool.not_eq_false', Bool.not_true, Bool.not_false, List.length_map, Decidable.not_not] at k1
    refine s_skip ?_
    refine s_seq ?_
    refine s_seq ?_
    refine s_region ?_
    refine o_q (q_mv ((by first | exact v_raw rfl | exact v_sptr rfl))) rfl rfl rfl ?_
    refine o_q (q_nil rfl) rfl rfl rfl ?_
    refine o_q (q_fr fo61_1 rfl) rfl rfl rfl ?_
    refine o_q (q_ldm ag58 sz58 rfl (by repeat first | exact Mem.upd_self _ _ _ | assumption | refine Mem.upd_ne (by assumption) ?_) rfl (v_raw rfl)) rfl rfl rfl ?_
    refine o_q (q_mv (v_raw rfl)) rfl rfl rfl ?_
    refine m_get2 (k := nm) und58 kt9 z62 rfl rfl hm ?_
    refine o_q (q_mv (v_tup rfl)) rfl rfl rfl ?_
    refine o_q (q_ext rfl rfl ((by first | exact v_raw rfl | exact v_sptr rfl))) rfl rfl rfl ?_
    refine o_q (q_ext rfl rfl (v_raw rfl)) rfl rfl rfl ?_
    refine o_q (q_as ((by first | exact v_raw rfl | exact v_sptr rfl))) rfl rfl rfl ?_
    refine o_q (q_as (v_raw rfl)) rfl rfl rfl ?_
    refine o_nil ?_
    refine s_seq ?_
    refine s_region ?_
    refine o_q (q_mv (v_raw rfl)) rfl rfl rfl ?_
    refine o_nil ?_
    refine s_cond rfl (fun h2 => ?_) (fun h2 => ?_)
    · have k2 := h2; try simp only [decide_eq_true_eq, decide_eq_false_iff_not, Bool.not_eq_true', Bool.not_eq_false', Bool.not_true, Bool.not_false, List.length_map, Decidable.not_not] at k2
      refine s_seq ?_
      refine s_region ?_
      refine o_q (q_mv ((by first | exact v_raw rfl | exact v_sptr rfl))) rfl rfl rfl ?_
      refine o_q (q_as ((by first | exact v_raw rfl | exact v_sptr rfl))) rfl rfl rfl ?_
      refine o_q (q_as (v_raw rfl)) rfl rfl rfl ?_
      refine o_nil ?_
      refine s_ret ?_
      refine s_code_ret ?_
      refine s_end ?_
      cases hgs : gets s.dir nm with
      | none => rw [hg, hgs] at h2; cases h2
      | some i => exact ret_many (.inl rfl) rfl (rl_t rfl (rl_t rfl rl_nil)) rfl ⟨(by unfold fptr DS.find; rw [h1, hg, hgs]; rfl), rfl⟩
    · have k2 := h2; try simp only [decide_eq_true_eq, decide_eq_false_iff_not, Bool.not_eq_true', Bool.not_eq_false', Bool.not_true, Bool.not_false, List.length_map, Decidable.not_not] at k2
      refine s_skip ?_
      refine s_seq ?_
      refine s_region ?_
      refine o_q (q_as ((by first | exact v_raw rfl | exact v_sptr rfl))) rfl rfl rfl ?_
      refine o_q (q_as (v_raw rfl)) rfl rfl rfl ?_
      refine o_nil ?_
      refine s_ret ?_
      refine s_end ?_
      cases hgs : gets s.dir nm with
      | some i => rw [hg, hgs] at h2; cases h2
      | none => exact ret_many (.inl rfl) rfl (rl_t rfl (rl_t rfl rl_nil)) rfl ⟨(by unfold fptr DS.find; rw [h1, hgs]; rfl), rfl⟩

def tk38 : Nat → Nat → Option Nat := fun _ _ => none
def pl38 : Nat → List PStep := fun _ => []
theorem cb38 : Try.f38.body.map (codeB Try.prog Try.f38.ntmps tk38 pl38) = some true := by kernel_rfl
theorem goes38 : goesB Try.prog 38 = true := by kernel_rfl
set_option maxHeartbeats 4000000 in
set_option maxRecDepth 20000 in
theorem snd38 (M : Mem) (d : Nat) (c0 c1 c2 c3 : AVal) (fuse : Int) (down : Bool) (hd : M d = some (.cells [c0, c1, c2, c3, int fuse, bool down])) (hfu : -1 ≤ fuse ∧ fuse < 2 ^ 63) (g : Nat) (first caps : Array Value) (Q : Mem → Prop) (hg : goesB Try.prog g = true) (hc : fuse ≠ 0 → SoundCall Try.prog g (first.toList.map .raw ++ [] ++ caps.toList.map .raw) (M.upd d (.cells [c0, c1, c2, c3, int (tick fuse), bool down])) fun _ M' => Q M') : SoundCall Try.prog 38 [ptr d, .raw (.func (.func g) first caps)] M fun r M' => (fuse = 0 ∧ r = int 9 ∧ M' = M.upd d (.cells [c0, c1, c2, c3, int fuse, bool true])) ∨ (fuse ≠ 0 ∧ r = int 0 ∧ Q M') := by
  refine SoundCall.go tk38 pl38 mixed Try.func38 cb38 rfl (Nat.le_of_ble_eq_true rfl) ?_
  refine s_seq ?_
  refine s_region ?_
  refine o_q (q_as (v_raw rfl)) rfl rfl rfl ?_
  refine o_nil ?_
  refine s_seq ?_
  refine s_seq ?_
  refine s_region ?_
  refine o_q (q_mv ((by first | exact v_raw rfl | exact v_sptr rfl))) rfl rfl rfl ?_
  refine o_q (q_nil rfl) rfl rfl rfl ?_
  refine o_q (q_fr fo61_4 rfl) rfl rfl rfl ?_
  refine o_q (q_ldm ag3 sz3 rfl (by repeat first | exact Mem.upd_self _ _ _ | assumption | refine Mem.upd_ne (by assumption) ?_) rfl (v_raw rfl)) rfl rfl rfl ?_
  refine o_q (q_eql rfl rfl) rfl rfl rfl ?_
  refine o_nil ?_
  refine s_cond rfl (fun h1 => ?_) (fun h1 => ?_)
  · have k1 := h1; try simp only [decide_eq_true_eq, decide_eq_false_iff_not, Bool.not_eq_true', Bool.not_eq_false', Bool.not_true, Bool.not_false, List.length_map, Decidable.not_not] at k1
    refine s_seq ?_
    refine s_region ?_
    refine o_q (q_mv ((by first | exact v_raw rfl | exact v_sptr rfl))) rfl rfl rfl ?_
    refine o_q (q_nil rfl) rfl rfl rfl ?_
    refine o_q (q_fr fo61_5 rfl) rfl rfl rfl ?_
    refine o_store rfl (by repeat first | exact Mem.upd_self _ _ _ | assumption | refine Mem.upd_ne (by assumption) ?_) (by first | exact e_raw rfl | exact e_agg rfl | exact e_sl rfl | rfl) rfl sz4 rfl (Nat.le_of_ble_eq_true rfl) rfl rfl ?_
    refine o_nil ?_
    refine s_seq ?_
    refine s_region ?_
    refine o_q (q_as (v_raw rfl)) rfl rfl rfl ?_
    refine o_nil ?_
    refine s_ret ?_
    refine s_code_ret ?_
    refine s_end ?_
    exact .inl ⟨by omega, rfl, rfl⟩
  · have k1 := h1; try simp only [decide_eq_true_eq, decide_eq_false_iff_not, Bool.not_eq_true', Bool.not_eq_false', Bool.not_true, Bool.not_false, List.length_map, Decidable.not_not] at k1
    refine s_skip ?_
    refine s_seq ?_
    refine s_seq ?_
    refine s_region ?_
    refine o_q (q_mv ((by first | exact v_raw rfl | exact v_sptr rfl))) rfl rfl rfl ?_
    refine o_q (q_nil rfl) rfl rfl rfl ?_
    refine o_q (q_fr fo61_4 rfl) rfl rfl rfl ?_
    refine o_q (q_ldm ag3 sz3 rfl (by repeat first | exact Mem.upd_self _ _ _ | assumption | refine Mem.upd_ne (by assumption) ?_) rfl (v_raw rfl)) rfl rfl rfl ?_
    refine o_q (q_gtr rfl rfl) rfl rfl rfl ?_
    refine o_nil ?_
    refine s_cond rfl (fun h2 => ?_) (fun h2 => ?_)
    · have k2 := h2; try simp only [decide_eq_true_eq, decide_eq_false_iff_not, Bool.not_eq_true', Bool.not_eq_false', Bool.not_true, Bool.not_false, List.length_map, Decidable.not_not] at k2
      have hc2 := hc (by omega)
      rw [show tick fuse = fuse - 1 from if_pos k2] at hc2
      refine s_region ?_
      refine o_q (q_mv ((by first | exact v_raw rfl | exact v_sptr rfl))) rfl rfl rfl ?_
      refine o_q (q_nil rfl) rfl rfl rfl ?_
      refine o_q (q_fr fo61_4 rfl) rfl rfl rfl ?_
      refine o_q (q_ldm ag3 sz3 rfl (by repeat first | exact Mem.upd_self _ _ _ | assumption | refine Mem.upd_ne (by assumption) ?_) rfl (v_raw rfl)) rfl rfl rfl ?_
      refine o_q (q_sub rfl rfl (wrap64 (by omega) (by omega))) rfl rfl rfl ?_
      refine o_q (q_nil rfl) rfl rfl rfl ?_
      refine o_q (q_fr fo61_4 rfl) rfl rfl rfl ?_
      refine o_store rfl (by repeat first | exact Mem.upd_self _ _ _ | assumption | refine Mem.upd_ne (by assumption) ?_) (by first | exact e_raw rfl | exact e_agg rfl | exact e_sl rfl | rfl) rfl sz3 rfl (Nat.le_of_ble_eq_true rfl) rfl rfl ?_
      refine o_nil ?_
      refine s_seq ?_
      refine s_region ?_
      refine o_q (q_mv (v_raw rfl)) rfl rfl rfl ?_
      refine o_callv rfl (hc2) hg ac_nil rfl rfl ?_
      rintro r' M' hq
      refine o_nil ?_
      refine s_seq ?_
      refine s_region ?_
      refine o_q (q_as (v_raw rfl)) rfl rfl rfl ?_
      refine o_nil ?_
      refine s_ret ?_
      refine s_end ?_
      exact .inr ⟨by omega, rfl, hq⟩
    · have k2 := h2; try simp only [decide_eq_true_eq, decide_eq_false_iff_not, Bool.not_eq_true', Bool.not_eq_false', Bool.not_true, Bool.not_false, List.length_map, Decidable.not_not] at k2
      have hc2 := hc (by omega)
      rw [show tick fuse = fuse from if_neg k2, Mem.upd_same hd] at hc2
      refine s_skip ?_
      refine s_seq ?_
      refine s_region ?_
      refine o_q (q_mv (v_raw rfl)) rfl rfl rfl ?_
      refine o_callv rfl (hc2) hg ac_nil rfl rfl ?_
      rintro r' M' hq
      refine o_nil ?_
      refine s_seq ?_
      refine s_region ?_
      refine o_q (q_as (v_raw rfl)) rfl rfl rfl ?_
      refine o_nil ?_
      refine s_ret ?_
      refine s_end ?_
      exact .inr ⟨by omega, rfl, hq⟩

def tk32 : Nat → Nat → Option Nat := fun _ _ => none
def pl32 : Nat → List PStep := fun _ => []
theorem cb32 : Try.f32.body.map (codeB Try.prog Try.f32.ntmps tk32 pl32) = some true := by kernel_rfl
theorem goes32 : goesB Try.prog 32 = true := by kernel_rfl
theorem used_sum {lf : List (En ByteArray)} {s : DS} (hp : (lf.map En.k).Perm (s.dir.map (·.1))) (hs : Srtd s.dir) : (lf.map fun e => (s.now ((gets s.dir e.k).getD 0)).length).sum = s.used := by
  have h1 := (hp.map fun k => (s.now ((gets s.dir k).getD 0)).length).sum_nat
  rw [List.map_map, List.map_map] at h1
  refine h1.trans (congrArg List.sum (List.map_congr_left fun p hp => ?_))
  show (s.now ((gets s.dir p.1).getD 0)).length = _
  rw [(gets_iff hs.nd).2 hp]; rfl
set_option maxHeartbeats 4000000 in
set_option maxRecDepth 20000 in
theorem snd32 (M : Mem) (d n rf rl : Nat) (adr : Nat → Nat) (s : DS) (O W : Nat → Prop) (chs : List Ch) (hD : DiskIs M d n rf rl adr s O W chs) : SoundCall Try.prog 32 [ptr d] M fun r M' => r = int (s.used : Nat) ∧ M.le M' := by
  have hd := hD.hd
  unfold dC at hd
  obtain ⟨clk, lf, hr, hst, hsn, hkn, hkp, hen, hlen⟩ := hD.ents
  have hub := hD.used_le
  have hbig : BIG = 2 ^ 40 := rfl
  have husd : (lf.map fun e => (s.now ((gets s.dir e.k).getD 0)).length).sum = s.used := used_sum hkp (okC_gd hD.oc).2.srt
  refine SoundCall.go tk32 pl32 mixed Try.func32 cb32 rfl (Nat.le_of_ble_eq_true rfl) ?_
  refine s_seq ?_
  refine s_region ?_
  refine o_q (q_as (v_raw rfl)) rfl rfl rfl ?_
  refine o_nil ?_
  refine s_seq ?_
  refine s_region ?_
  refine o_q (q_as (v_raw rfl)) rfl rfl rfl ?_
  refine o_nil ?_
  refine s_seq ?_
  refine s_seq ?_
  refine s_region ?_
  refine o_q (q_mv ((by first | exact v_raw rfl | exact v_sptr rfl))) rfl rfl rfl ?_
  refine o_q (q_nil rfl) rfl rfl rfl ?_
  refine o_q (q_fr fo61_1 rfl) rfl rfl rfl ?_
  refine o_q (q_ldm ag58 sz58 rfl (by repeat first | exact Mem.upd_self _ _ _ | assumption | refine Mem.upd_ne (by assumption) ?_) rfl (v_raw rfl)) rfl rfl rfl ?_
  refine x_range (ek := Value.string) und58 rfl hr (fun B0 hB0 => ?_)
  refine o_nil ?_
  refine s_block ?_
  refine s_loop (fun m S => ∃ T seen, ∃ a : Nat, S = ⟨setT (setT (setT T 0 (ptr d)) 3 (int (a : Nat))) 10 (ptr B0), M.upd B0 (.it (.mapIter (some rf) clk seen clk))⟩ ∧ a = sumE (fun e : En ByteArray => (s.now ((gets s.dir e.k).getD 0)).length) lf seen ∧ m = leftE lf seen) (leftE lf #[]) ?_ ?_
  · exact ⟨_, #[], 0, St.mkT (kp (kp (kp rfl rfl) rfl) rfl).symm, sumE_nil.symm, rfl⟩
  rintro m S ⟨T, seen, a, rfl, ha, rfl⟩
  refine s_seq ?_
  refine s_region ?_
  refine x_next (ek := Value.string) rfl (Mem.upd_self _ _ _) ((upd_other (fun e => by rw [e, hB0] at hr; cases hr)).trans hr) (fun e he => ⟨hst e he, hst e he⟩) ?_ ?_
  · skip
    intro hov
    refine o_q (q_ext rfl rfl (v_raw rfl)) rfl rfl rfl ?_
    refine o_nil ?_
    refine s_seq ?_
    refine s_else rfl rfl ?_
    refine s_exit ?_
    refine s_code_exit ?_
    refine s_inv_exit ?_
    refine s_blk_here ?_
    refine s_seq ?_
    refine s_region ?_
    refine o_q (q_mv (v_raw rfl)) rfl rfl rfl ?_
    refine o_q (q_as (v_raw rfl)) rfl rfl rfl ?_
    refine o_nil ?_
    refine s_ret ?_
    refine s_end ?_
    exact ⟨by rw [ha, sumE_all hov, husd]; rfl, Mem.le_upd (Mem.le_refl M) hB0⟩
  · skip
    rintro ⟨ek0, ev0, es0⟩ he hes
    obtain ⟨i, hi, hig, hev⟩ := hen _ he
    dsimp only at hev hig hes
    subst hev
    obtain ⟨vl, vn, acs, hF⟩ := hD.fa i _ (getD_at hi)
    obtain ⟨b0, c0, hvn⟩ := hF.bn.bs.len
    subst hvn
    have hfn : adr i ≠ B0 := fun e => by have := hF.hf; rw [e, hB0] at this; cases this
    have hf := hF.hf
    have hgs : sumE (fun e : En ByteArray => (s.now ((gets s.dir e.k).getD 0)).length) lf (seen.push es0) = sumE (fun e : En ByteArray => (s.now ((gets s.dir e.k).getD 0)).length) lf seen + (s.files.getD i fl0).now.length := (sumE_push hsn he hes).trans (by rw [hig]; rfl)
    have hgb := sumE_le (fun e : En ByteArray => (s.now ((gets s.dir e.k).getD 0)).length) lf (seen.push es0)
    rw [husd] at hgb
    rw [Mem.upd_upd]
    refine o_q (q_ext rfl rfl (v_raw rfl)) rfl rfl rfl ?_
    refine o_nil ?_
    refine s_seq ?_
    refine s_then rfl rfl ?_
    refine s_skip ?_
    refine s_block ?_
    refine s_seq ?_
    refine s_region ?_
    refine x_entry (e := ⟨ek0, ptrV (adr i), es0⟩) (KA := .raw (.string ek0)) rfl (Mem.upd_self _ _ _) ((upd_other (fun e => by rw [e, hB0] at hr; cases hr)).trans hr) (findE hsn he) (Fixed.raw _) (fun _ _ h => by cases h) ?_
    refine o_q (q_ext rfl rfl ((by first | exact v_raw rfl | exact v_sptr rfl))) rfl rfl rfl ?_
    refine o_q (q_as ((by first | exact v_raw rfl | exact v_sptr rfl))) rfl rfl rfl ?_
    refine o_nil ?_
    refine s_region ?_
    refine o_q (q_mv (v_raw rfl)) rfl rfl rfl ?_
    refine o_q (q_mv ((by first | exact v_raw rfl | exact v_sptr rfl))) rfl rfl rfl ?_
    refine o_q (q_nil rfl) rfl rfl rfl ?_
    refine o_q (q_fr fo68_1 rfl) rfl rfl rfl ?_
    refine o_q (q_ldm ag65 sz65 rfl (by repeat first | exact Mem.upd_self _ _ _ | assumption | refine Mem.upd_ne (by assumption) ?_) rfl ((by first | exact v_raw rfl | exact v_sl rfl))) rfl rfl rfl ?_
    refine o_q (q_lenr rfl und65 rfl) rfl rfl rfl ?_
    refine o_q (q_add rfl rfl (wrap64 (by omega) (by omega))) rfl rfl rfl ?_
    refine o_q (q_as (v_raw rfl)) rfl rfl rfl ?_
    refine o_nil ?_
    refine s_blk_normal ?_
    refine s_inv ?_
    exact ⟨_, leftE_lt he hes, _, _, a + (s.files.getD i fl0).now.length, St.mkT (kp (kp (kp rfl rfl) (congrArg int (by simp))) rfl).symm, by rw [ha]; exact hgs.symm, rfl⟩

def tk33 : Nat → Nat → Option Nat := fun _ _ => none
def pl33 : Nat → List PStep
  | 1 => [.q 0, .q 1, .q 2, .q 3, .q 4, .s 5 [3, 2, 1, 0], .q 6, .q 7]
  | _ => []
theorem cb33 : Try.f33.body.map (codeB Try.prog Try.f33.ntmps tk33 pl33) = some true := by kernel_rfl
theorem goes33 : goesB Try.prog 33 = true := by kernel_rfl
set_option maxHeartbeats 4000000 in
set_option maxRecDepth 20000 in
theorem snd33 (M : Mem) (d n rf rl : Nat) (adr : Nat → Nat) (s : DS) (O W : Nat → Prop) (chs : List Ch) (hD : DiskIs M d n rf rl adr s O W chs) : SoundCall Try.prog 33 [ptr d] M fun r M' => r = int (s.room - (s.used : Nat)) ∧ M' = M := by
  have hd := hD.hd
  unfold dC at hd
  have hub := hD.used_le
  have hbig : BIG = 2 ^ 40 := rfl
  have hrm := hD.room
  refine SoundCall.go tk33 pl33 mixed Try.func33 cb33 rfl (Nat.le_of_ble_eq_true rfl) ?_
  refine s_seq ?_
  refine s_region ?_
  refine o_q (q_as (v_raw rfl)) rfl rfl rfl ?_
  refine o_nil ?_
  refine s_seq ?_
  refine s_draw rfl ?_
  refine d_q rfl (q_mv ((by first | exact v_raw rfl | exact v_sptr rfl))) rfl rfl rfl ?_
  refine d_q rfl (q_nil rfl) rfl rfl rfl ?_
  refine d_q rfl (q_fr fo61_0 rfl) rfl rfl rfl ?_
  refine d_q rfl (q_ldm ag3 sz3 rfl (by repeat first | exact Mem.upd_self _ _ _ | assumption | refine Mem.upd_ne (by assumption) ?_) rfl (v_raw rfl)) rfl rfl rfl ?_
  refine d_q rfl (q_mv ((by first | exact v_raw rfl | exact v_sptr rfl))) rfl rfl rfl ?_
  refine d_s rfl ?_
  refine o_call ((snd32 M d n rf rl adr s O W chs hD).det) goes32 (ac ((by first | exact v_raw rfl | exact v_sptr rfl)) ac_nil) rfl ?_
  refine o_nil ⟨(by simp [Mem.upd, *]), ?_⟩
  refine d_q rfl (q_sub rfl rfl (wrap64 (by omega) (by omega))) rfl rfl rfl ?_
  refine d_q rfl (q_as (v_raw rfl)) rfl rfl rfl ?_
  refine d_nil ?_
  refine s_ret ?_
  refine s_end ?_
  exact ⟨rfl, rfl⟩

def tk12 : Nat → Nat → Option Nat := fun _ _ => none
def pl12 : Nat → List PStep
  | 4 => [.q 0, .q 1, .q 2, .s 3 [1, 0], .q 4]
  | _ => []
theorem cb12 : Try.f12.body.map (codeB Try.prog Try.f12.ntmps tk12 pl12) = some true := by kernel_rfl
theorem goes12 : goesB Try.prog 12 = true := by kernel_rfl

theorem did_len (F : Fl) (a : A) : (F.did a).acts.length = F.acts.length + 1 := by simp [Fl.did]
theorem fptr_ok (s : DS) (adr : Nat → Nat) (nm : ByteArray) : (AVal.raw (fptr s adr nm)).ok = true := by
  unfold fptr
  split <;> rfl
section
variable {M M' M2 Mx : Mem} {O W : Nat → Prop} {d n m rf rl : Nat} {s s' : DS} {adr : Nat → Nat} {chs : List Ch}
theorem onf_no {nm : ByteArray} (h : s.find nm ≠ 0) (f : Nat → Int × DS) : s.onf nm f = (s.find nm, s) := by
  unfold DS.onf DS.find at *
  cases hd : s.down
  · rw [hd] at h
    cases hg : gets s.dir nm with
    | none => rfl
    | some i => rw [hg] at h; exact absurd rfl h
  · rfl
theorem onf_yes {nm : ByteArray} (h : s.find nm = 0) : ∃ i, gets s.dir nm = some i ∧ s.down = false ∧ (∀ adr, fptr s adr nm = ptrV (adr i)) ∧ ∀ f : Nat → Int × DS, s.onf nm f = f i := by
  unfold DS.find at h
  cases hd : s.down
  · rw [hd] at h
    cases hg : gets s.dir nm with
    | none => rw [hg] at h; cases h
    | some i => exact ⟨i, rfl, rfl, fun adr => by unfold fptr; rw [hd, hg]; rfl, fun f => by unfold DS.onf; rw [hd, hg]; rfl⟩
  · rw [hd] at h; cases h
theorem tick_bd {n : Int} (h : -1 ≤ n ∧ n < 2 ^ 63) : -1 ≤ tick n ∧ tick n < 2 ^ 63 := by
  unfold tick; split <;> omega
theorem Aft.pre (hD : DiskIs M d n rf rl adr s O W chs) (hle : M.le M2) (hx : ∀ c, M2 c ≠ none → ¬ O c → Mx c = M2 c) (hy : ∀ c, Mx c = none → M2 c = none) (h : Aft Mx M' d m s' O W) : Aft M M' d m s' O W := by
  obtain ⟨O', W', h1, h2, h3, h4⟩ := h
  have hn : ∀ c, Mx c = none → M c = none := fun c hc => le_none hle (hy c hc)
  refine ⟨O', W', h1, ⟨fun c k1 k2 => ?_, fun c hc => (h2.new c hc).imp id (hn c), h2.up⟩, fun c hc => (h3 c hc).imp id (hn c), h4⟩
  have e1 : M2 c = M c := leK hle k1
  have e2 : Mx c = M2 c := hx c (by rw [e1]; exact k1) k2
  rw [h2.eq c (by rw [e2, e1]; exact k1) k2, e2, e1]
theorem do_end {r' : AVal} {Q : Prop} {t : DS → DS} (hD : DiskIs M d n rf rl adr s O W chs) (hle : M.le M2) (hnm : n ≤ m)
    (h : (s.fuse = 0 ∧ r' = int 9 ∧ M' = M2.upd d (.cells [int s.room, mapV rf, mapV rl, .sl (chs.map fun c => .raw c.val) true, int s.fuse, bool true])) ∨ (s.fuse ≠ 0 ∧ r' = int 0 ∧ Q))
    (hQ : Q → Aft (M2.upd d (.cells (dC rf rl { s with fuse := tick s.fuse } chs))) M' d m (t { s with fuse := tick s.fuse }) O W) : r' = int (s.act t).1 ∧ Aft M M' d m (s.act t).2 O W := by
  have hD2 := hD.le hle
  have hdn : ∀ (o : AObj) c, (M2.upd d o) c = none → M2 c = none := fun o c hc => (Mem.upd_none hc).2
  have hx : ∀ (o : AObj) c, M2 c ≠ none → ¬ O c → (M2.upd d o) c = M2 c := fun o c _ h2 => upd_other fun e => h2 (by rw [e]; exact hD.od)
  rcases h with ⟨h1, rfl, rfl⟩ | ⟨h1, rfl, hq⟩
  · unfold DS.act
    rw [if_pos h1]
    refine ⟨rfl, Aft.pre hD hle (hx _) (hdn _) (Aft.of ((hD2.setd s.fuse true hD.fuse).up hnm) Chg.refl)⟩
  · unfold DS.act
    rw [if_neg h1]
    exact ⟨rfl, Aft.pre hD hle (hx _) (hdn _) (hQ hq)⟩
theorem file_end {i : Nat} {F' : Fl} {nm : ByteArray} (hD : DiskIs M d n rf rl adr s O W chs) (hg : gets s.dir nm = some i) (hq : (∀ c, M c ≠ none → c ≠ adr i → M' c = M c) ∧ FileAt M' W (adr i) F') (hnm : n ≤ m) (hm : F'.acts.length ≤ m) : Aft M M' d m { s with files := s.files.set i F' } O W :=
  Aft.of (hD.file (hD.at hg).1 hq.1 hq.2 hnm hm) ⟨fun c h1 h2 => hq.1 c h1 fun e => h2 (by rw [e]; exact hD.oi _ (hD.at hg).1), fun c hc => .inl hc, fun c hc => hc⟩
end
set_option maxHeartbeats 4000000 in
set_option maxRecDepth 20000 in
theorem snd12 (M : Mem) (d n rf rl : Nat) (adr : Nat → Nat) (s : DS) (O W : Nat → Prop) (chs : List Ch) (hD : DiskIs M d n rf rl adr s O W chs) (hn : n < BIG) (nm tx : ByteArray) : SoundCall Try.prog 12 [ptr d, str nm, str tx] M fun r M' => r = int (s.append nm tx).1 ∧ Aft M M' d (n + 1) (s.append nm tx).2 O W := by
  have hd := hD.hd
  unfold dC at hd
  have hub := hD.used_le
  have hbig : BIG = 2 ^ 40 := rfl
  have hrm := hD.room
  refine SoundCall.go tk12 pl12 mixed Try.func12 cb12 rfl (Nat.le_of_ble_eq_true rfl) ?_
  refine s_seq ?_
  refine s_region ?_
  refine o_box (by first | exact e_raw rfl | exact e_agg rfl | exact e_sl rfl) rfl rfl (fun B1 hB1 => ?_)
  have hm1 : M B1 = none := le_none (by repeat first | exact Mem.le_refl _ | refine leU ?_ (by assumption)) hB1
  have hdB1 : d ≠ B1 := fun e => by rw [e, hm1] at hd; cases hd
  refine o_q (q_as (v_raw rfl)) rfl rfl rfl ?_
  refine o_nil ?_
  refine s_seq ?_
  refine s_region ?_
  refine o_q (q_mv ((by first | exact v_raw rfl | exact v_sptr rfl))) rfl rfl rfl ?_
  refine o_q (q_mv (v_raw rfl)) rfl rfl rfl ?_
  refine o_call ((snd37 _ d n rf rl adr s O W chs (hD.le (by repeat first | exact Mem.le_refl _ | refine leU ?_ (by assumption))) nm)) goes37 (ac ((by first | exact v_raw rfl | exact v_sptr rfl)) (ac (v_raw rfl) ac_nil)) rfl ?_
  refine o_q (q_mv (v_tup rfl)) rfl rfl rfl ?_
  refine o_q (q_ext rfl rfl ((by first | exact v_raw rfl | exact v_sptr rfl))) rfl rfl rfl ?_
  refine o_q (q_ext rfl rfl (v_raw rfl)) rfl rfl rfl ?_
  refine o_alloc zc62 (fun B2 hB2 => ?_)
  have hm2 : M B2 = none := le_none (by repeat first | exact Mem.le_refl _ | refine leU ?_ (by assumption)) hB2
  have hdB2 : d ≠ B2 := fun e => by rw [e, hm2] at hd; cases hd
  have f1_2 : B1 ≠ B2 := Mem.fresh_ne hB2 (by repeat first | exact Mem.upd_self _ _ _ | assumption | refine Mem.upd_ne (by assumption) ?_)
  refine o_store rfl (Mem.upd_self _ _ _) (e_raw rfl) (fptr_ok s adr nm) sz62 rfl (Nat.le_of_ble_eq_true rfl) rfl rfl ?_
  refine o_q (q_as (v_raw rfl)) rfl rfl rfl ?_
  refine o_nil ?_
  refine s_seq ?_
  refine s_seq ?_
  refine s_region ?_
  refine o_q (q_mv (v_raw rfl)) rfl rfl rfl ?_
  refine o_q (q_neq rfl rfl) rfl rfl rfl ?_
  refine o_nil ?_
  refine s_cond rfl (fun h1 => ?_) (fun h1 => ?_)
  · have k1 := h1; try simp only [decide_eq_true_eq, decide_eq_false_iff_not, Bool.not_eq_true', Bool.not_eq_false', Bool.not_true, Bool.not_false, List.length_map, Decidable.not_not] at k1
    refine s_seq ?_
    refine s_region ?_
    refine o_q (q_mv (v_raw rfl)) rfl rfl rfl ?_
    refine o_q (q_as (v_raw rfl)) rfl rfl rfl ?_
    refine o_nil ?_
    refine s_ret ?_
    refine s_code_ret ?_
    refine s_end ?_
    have e : s.append nm tx = (s.find nm, s) := onf_no k1 _
    exact ⟨by rw [e]; rfl, by rw [e]; exact Aft.same hD (Nat.le_succ n) (by repeat first | exact Mem.le_refl _ | refine leU ?_ (by assumption))⟩
  · have k1 := h1; try simp only [decide_eq_true_eq, decide_eq_false_iff_not, Bool.not_eq_true', Bool.not_eq_false', Bool.not_true, Bool.not_false, List.length_map, Decidable.not_not] at k1
    obtain ⟨i, hgi, hdn, hfp, hon⟩ := onf_yes k1
    rw [hfp adr]
    obtain ⟨hil, hFi⟩ := hD.at hgi
    have hnu : (s.files.getD i fl0).now.length ≤ s.used := hD.now_used hgi
    have hOi := hD.oi _ hil
    have hWi := hD.ow _ hOi
    have hna : (s.files.getD i fl0).acts.length ≤ n := hD.na _ (List.mem_of_getElem? (getD_at hil))
    refine s_skip ?_
    refine s_seq ?_
    refine s_seq ?_
    refine s_draw rfl ?_
    refine d_q rfl (q_ldm ag9 sz9 rfl (by repeat first | exact Mem.upd_self _ _ _ | assumption | refine Mem.upd_ne (by assumption) ?_) rfl (v_raw rfl)) rfl rfl rfl ?_
    refine d_q rfl (q_lens rfl und9 rfl) rfl rfl rfl ?_
    refine d_q rfl (q_mv ((by first | exact v_raw rfl | exact v_sptr rfl))) rfl rfl rfl ?_
    refine d_s rfl ?_
    refine o_call ((snd33 _ d n rf rl adr s O W chs (hD.le (by repeat first | exact Mem.le_refl _ | refine leU ?_ (by assumption))))) goes33 (ac ((by first | exact v_raw rfl | exact v_sptr rfl)) ac_nil) rfl ?_
    refine o_nil ⟨(by simp [Mem.upd, *]), ?_⟩
    refine d_q rfl (q_gtr rfl rfl) rfl rfl rfl ?_
    refine d_nil ?_
    refine s_cond rfl (fun h2 => ?_) (fun h2 => ?_)
    · have k2 := h2; try simp only [decide_eq_true_eq, decide_eq_false_iff_not, Bool.not_eq_true', Bool.not_eq_false', Bool.not_true, Bool.not_false, List.length_map, Decidable.not_not] at k2
      refine s_seq ?_
      refine s_region ?_
      refine o_q (q_as (v_raw rfl)) rfl rfl rfl ?_
      refine o_nil ?_
      refine s_ret ?_
      refine s_code_ret ?_
      refine s_end ?_
      have e : s.append nm tx = (8, s) := (hon _).trans (if_pos (by omega))
      exact ⟨by rw [e]; rfl, by rw [e]; exact Aft.same hD (Nat.le_succ n) (by repeat first | exact Mem.le_refl _ | refine leU ?_ (by assumption))⟩
    · have k2 := h2; try simp only [decide_eq_true_eq, decide_eq_false_iff_not, Bool.not_eq_true', Bool.not_eq_false', Bool.not_true, Bool.not_false, List.length_map, Decidable.not_not] at k2
      refine s_skip ?_
      refine s_seq ?_
      refine s_region ?_
      refine o_q (q_mv ((by first | exact v_raw rfl | exact v_sptr rfl))) rfl rfl rfl ?_
      refine o_q (q_mkf2 rfl rfl) rfl rfl rfl ?_
      refine o_callx ((snd38 _ d (int s.room) (mapV rf) (mapV rl) (.sl (chs.map fun c : Ch => AVal.raw c.val) true) s.fuse s.down (by repeat first | exact hd | refine Mem.upd_ne (by assumption) ?_) hD.fuse 39 #[] #[ptrV B2, ptrV B1] _ goes39 (fun hfz => snd39 _ W (adr i) (s.files.getD i fl0) (((hD.le (by repeat first | exact Mem.le_refl _ | refine leU ?_ (by assumption))).setd (tick s.fuse) s.down (tick_bd hD.fuse)).at hgi).2 hWi ((hD.le (by repeat first | exact Mem.le_refl _ | refine leU ?_ (by assumption))).setd (tick s.fuse) s.down (tick_bd hD.fuse)).ok (by omega) B2 (by repeat first | exact Mem.upd_self _ _ _ | assumption | refine Mem.upd_ne (by first | assumption | exact Ne.symm (by assumption)) ?_) B1 tx (by repeat first | exact Mem.upd_self _ _ _ | assumption | refine Mem.upd_ne (by first | assumption | exact Ne.symm (by assumption)) ?_) (fun h => hD.ok _ h hm1) (by omega)))) goes38 (ac ((by first | exact v_raw rfl | exact v_sptr rfl)) (ac (v_raw rfl) ac_nil)) rfl ?_
      rintro r' M' h38
      obtain ⟨rk, rfl⟩ : ∃ rk, r' = int rk := by rcases h38 with ⟨_, h, _⟩ | ⟨_, h, _⟩ <;> exact ⟨_, h⟩
      refine o_q (q_as (v_raw rfl)) rfl rfl rfl ?_
      refine o_nil ?_
      refine s_ret ?_
      refine s_end ?_
      have e : s.append nm tx = s.act fun t => t.did i (.app tx) := (hon _).trans (if_neg (by omega))
      have hr := do_end (t := fun t => t.did i (.app tx)) hD (by repeat first | exact Mem.le_refl _ | refine leU ?_ (by assumption)) (Nat.le_succ n) h38 (fun hq => file_end ((hD.le (by repeat first | exact Mem.le_refl _ | refine leU ?_ (by assumption))).setd (tick s.fuse) s.down (tick_bd hD.fuse)) (nm := nm) hgi hq (Nat.le_succ n) (by rw [did_len]; exact Nat.succ_le_succ hna))
      exact ⟨by rw [e]; exact hr.1, by rw [e]; exact hr.2⟩

def tk46 : Nat → Nat → Option Nat := fun _ _ => none
def pl46 : Nat → List PStep := fun _ => []
theorem cb46 : Try.f46.body.map (codeB Try.prog Try.f46.ntmps tk46 pl46) = some true := by kernel_rfl
theorem goes46 : goesB Try.prog 46 = true := by kernel_rfl
set_option maxHeartbeats 4000000 in
set_option maxRecDepth 20000 in
theorem snd46 (M : Mem) (r : Nat) : SoundCall Try.prog 46 [mapV r] M fun q M' => ∃ b, M b = none ∧ q = .raw (.func (.func 72) #[] #[ptrV b]) ∧ M' = M.upd b (.cells [mapV r]) := by
  refine SoundCall.go tk46 pl46 mixed Try.func46 cb46 rfl (Nat.le_of_ble_eq_true rfl) ?_
  refine s_seq ?_
  refine s_region ?_
  refine o_box (by first | exact e_raw rfl | exact e_agg rfl | exact e_sl rfl) rfl rfl (fun B1 hB1 => ?_)
  skip
  refine o_q (q_as (v_raw rfl)) rfl rfl rfl ?_
  refine o_nil ?_
  refine s_seq ?_
  refine s_region ?_
  refine o_q (q_mkf1 rfl) rfl rfl rfl ?_
  refine o_q (q_as (v_raw rfl)) rfl rfl rfl ?_
  refine o_nil ?_
  refine s_ret ?_
  refine s_end ?_
  exact ⟨B1, hB1, rfl, rfl⟩

def tk13 : Nat → Nat → Option Nat := fun _ _ => none
def pl13 : Nat → List PStep := fun _ => []
theorem cb13 : Try.f13.body.map (codeB Try.prog Try.f13.ntmps tk13 pl13) = some true := by kernel_rfl
theorem goes13 : goesB Try.prog 13 = true := by kernel_rfl
set_option maxHeartbeats 4000000 in
set_option maxRecDepth 20000 in
theorem snd13 (M : Mem) (d n rf rl : Nat) (adr : Nat → Nat) (s : DS) (O W : Nat → Prop) (chs : List Ch) (hD : DiskIs M d n rf rl adr s O W chs) (hn : n < BIG) (nm : ByteArray) : SoundCall Try.prog 13 [ptr d, str nm] M fun r M' => r = int (s.sync nm).1 ∧ Aft M M' d (n + 1) (s.sync nm).2 O W := by
  have hd := hD.hd
  unfold dC at hd
  have hub := hD.used_le
  have hbig : BIG = 2 ^ 40 := rfl
  have hrm := hD.room
  refine SoundCall.go tk13 pl13 mixed Try.func13 cb13 rfl (Nat.le_of_ble_eq_true rfl) ?_
  refine s_seq ?_
  refine s_region ?_
  refine o_q (q_as (v_raw rfl)) rfl rfl rfl ?_
  refine o_nil ?_
  refine s_seq ?_
  refine s_region ?_
  refine o_q (q_mv ((by first | exact v_raw rfl | exact v_sptr rfl))) rfl rfl rfl ?_
  refine o_q (q_mv (v_raw rfl)) rfl rfl rfl ?_
  refine o_call ((snd37 _ d n rf rl adr s O W chs (hD.le (by repeat first | exact Mem.le_refl _ | refine leU ?_ (by assumption))) nm)) goes37 (ac ((by first | exact v_raw rfl | exact v_sptr rfl)) (ac (v_raw rfl) ac_nil)) rfl ?_
  refine o_q (q_mv (v_tup rfl)) rfl rfl rfl ?_
  refine o_q (q_ext rfl rfl ((by first | exact v_raw rfl | exact v_sptr rfl))) rfl rfl rfl ?_
  refine o_q (q_ext rfl rfl (v_raw rfl)) rfl rfl rfl ?_
  refine o_q (q_as ((by first | exact v_raw rfl | exact v_sptr rfl))) rfl rfl rfl ?_
  refine o_q (q_as (v_raw rfl)) rfl rfl rfl ?_
  refine o_nil ?_
  refine s_seq ?_
  refine s_seq ?_
  refine s_region ?_
  refine o_q (q_mv (v_raw rfl)) rfl rfl rfl ?_
  refine o_q (q_neq rfl rfl) rfl rfl rfl ?_
  refine o_nil ?_
  refine s_cond rfl (fun h1 => ?_) (fun h1 => ?_)
  · have k1 := h1; try simp only [decide_eq_true_eq, decide_eq_false_iff_not, Bool.not_eq_true', Bool.not_eq_false', Bool.not_true, Bool.not_false, List.length_map, Decidable.not_not] at k1
    refine s_seq ?_
    refine s_region ?_
    refine o_q (q_mv (v_raw rfl)) rfl rfl rfl ?_
    refine o_q (q_as (v_raw rfl)) rfl rfl rfl ?_
    refine o_nil ?_
    refine s_ret ?_
    refine s_code_ret ?_
    refine s_end ?_
    have e : s.sync nm = (s.find nm, s) := onf_no k1 _
    exact ⟨by rw [e]; rfl, by rw [e]; exact Aft.same hD (Nat.le_succ n) (by repeat first | exact Mem.le_refl _ | refine leU ?_ (by assumption))⟩
  · have k1 := h1; try simp only [decide_eq_true_eq, decide_eq_false_iff_not, Bool.not_eq_true', Bool.not_eq_false', Bool.not_true, Bool.not_false, List.length_map, Decidable.not_not] at k1
    obtain ⟨i, hgi, hdn, hfp, hon⟩ := onf_yes k1
    rw [hfp adr]
    obtain ⟨hil, hFi⟩ := hD.at hgi
    have hnu : (s.files.getD i fl0).now.length ≤ s.used := hD.now_used hgi
    have hOi := hD.oi _ hil
    have hWi := hD.ow _ hOi
    have hna : (s.files.getD i fl0).acts.length ≤ n := hD.na _ (List.mem_of_getElem? (getD_at hil))
    obtain ⟨vl, vn, acs, hF⟩ := hFi
    refine s_skip ?_
    refine s_seq ?_
    refine s_region ?_
    refine o_q (q_mv ((by first | exact v_raw rfl | exact v_sptr rfl))) rfl rfl rfl ?_
    refine o_q (q_mv ((by first | exact v_raw rfl | exact v_sptr rfl))) rfl rfl rfl ?_
    refine o_q (q_mkfb rfl) rfl rfl rfl ?_
    refine o_callx ((snd38 _ d (int s.room) (mapV rf) (mapV rl) (.sl (chs.map fun c : Ch => AVal.raw c.val) true) s.fuse s.down (by repeat first | exact hd | refine Mem.upd_ne (by assumption) ?_) hD.fuse 42 #[ptrV (adr i)] #[] _ goes42 (fun hfz => snd42 (M.upd d (.cells (dC rf rl { s with fuse := tick s.fuse } chs))) W (adr i) hWi vl vn (acs.map encAc) (s.files.getD i fl0).now ((upd_other (hD.dn.2.2 i hil).1).trans hF.hf) (hF.bn.keep (fun c _ h2 => upd_other fun e => h2 (by rw [e]; exact hD.ow _ hD.od)) fun c h => .inl h) (okA_len hF.ok).2))) goes38 (ac ((by first | exact v_raw rfl | exact v_sptr rfl)) (ac (v_raw rfl) ac_nil)) rfl ?_
    rintro r' M' h38
    obtain ⟨rk, rfl⟩ : ∃ rk, r' = int rk := by rcases h38 with ⟨_, h, _⟩ | ⟨_, h, _⟩ <;> exact ⟨_, h⟩
    refine o_q (q_as (v_raw rfl)) rfl rfl rfl ?_
    refine o_nil ?_
    refine s_ret ?_
    refine s_end ?_
    have e : s.sync nm = s.act fun t => t.synced i := (hon _).trans (rfl)
    have hr := do_end (t := fun t => t.synced i) hD (by repeat first | exact Mem.le_refl _ | refine leU ?_ (by assumption)) (Nat.le_succ n) h38 (fun hq => file_end ((hD.le (by repeat first | exact Mem.le_refl _ | refine leU ?_ (by assumption))).setd (tick s.fuse) s.down (tick_bd hD.fuse)) (nm := nm) hgi hq (Nat.le_succ n) (Nat.zero_le _))
    exact ⟨by rw [e]; exact hr.1, by rw [e]; exact hr.2⟩

def tk16 : Nat → Nat → Option Nat := fun _ _ => none
def pl16 : Nat → List PStep := fun _ => []
theorem cb16 : Try.f16.body.map (codeB Try.prog Try.f16.ntmps tk16 pl16) = some true := by kernel_rfl
theorem goes16 : goesB Try.prog 16 = true := by kernel_rfl
theorem read_no {s : DS} {nm : ByteArray} (h : s.find nm ≠ 0) : s.read nm = (⟨#[]⟩, s.find nm) := by
  unfold DS.read DS.find at *
  cases hd : s.down
  · rw [hd] at h
    cases hg : gets s.dir nm with
    | none => rfl
    | some i => rw [hg] at h; exact absurd rfl h
  · rfl
set_option maxHeartbeats 4000000 in
set_option maxRecDepth 20000 in
theorem snd16 (M : Mem) (d n rf rl : Nat) (adr : Nat → Nat) (s : DS) (O W : Nat → Prop) (chs : List Ch) (hD : DiskIs M d n rf rl adr s O W chs) (nm : ByteArray) : SoundCall Try.prog 16 [ptr d, str nm] M fun r M' => r = .tup [str (s.read nm).1, int (s.read nm).2] ∧ M' = M := by
  have hd := hD.hd
  unfold dC at hd
  refine SoundCall.go tk16 pl16 mixed Try.func16 cb16 rfl (Nat.le_of_ble_eq_true rfl) ?_
  refine s_seq ?_
  refine s_region ?_
  refine o_q (q_as (v_raw rfl)) rfl rfl rfl ?_
  refine o_q (q_as (v_raw rfl)) rfl rfl rfl ?_
  refine o_nil ?_
  refine s_seq ?_
  refine s_region ?_
  refine o_q (q_mv ((by first | exact v_raw rfl | exact v_sptr rfl))) rfl rfl rfl ?_
  refine o_q (q_mv (v_raw rfl)) rfl rfl rfl ?_
  refine o_call ((snd37 _ d n rf rl adr s O W chs (hD.le (by repeat first | exact Mem.le_refl _ | refine leU ?_ (by assumption))) nm)) goes37 (ac ((by first | exact v_raw rfl | exact v_sptr rfl)) (ac (v_raw rfl) ac_nil)) rfl ?_
  refine o_q (q_mv (v_tup rfl)) rfl rfl rfl ?_
  refine o_q (q_ext rfl rfl ((by first | exact v_raw rfl | exact v_sptr rfl))) rfl rfl rfl ?_
  refine o_q (q_ext rfl rfl (v_raw rfl)) rfl rfl rfl ?_
  refine o_q (q_as ((by first | exact v_raw rfl | exact v_sptr rfl))) rfl rfl rfl ?_
  refine o_q (q_as (v_raw rfl)) rfl rfl rfl ?_
  refine o_nil ?_
  refine s_seq ?_
  refine s_seq ?_
  refine s_region ?_
  refine o_q (q_mv (v_raw rfl)) rfl rfl rfl ?_
  refine o_q (q_neq rfl rfl) rfl rfl rfl ?_
  refine o_nil ?_
  refine s_cond rfl (fun h1 => ?_) (fun h1 => ?_)
  · have k1 := h1; try simp only [decide_eq_true_eq, decide_eq_false_iff_not, Bool.not_eq_true', Bool.not_eq_false', Bool.not_true, Bool.not_false, List.length_map, Decidable.not_not] at k1
    refine s_seq ?_
    refine s_region ?_
    refine o_q (q_mv (v_raw rfl)) rfl rfl rfl ?_
    refine o_q (q_as (v_raw rfl)) rfl rfl rfl ?_
    refine o_q (q_as (v_raw rfl)) rfl rfl rfl ?_
    refine o_nil ?_
    refine s_ret ?_
    refine s_code_ret ?_
    refine s_end ?_
    have e : s.read nm = (⟨#[]⟩, s.find nm) := read_no k1
    exact ret_many (.inl rfl) rfl (rl_t rfl (rl_t rfl rl_nil)) rfl ⟨by rw [e]; rfl, rfl⟩
  · have k1 := h1; try simp only [decide_eq_true_eq, decide_eq_false_iff_not, Bool.not_eq_true', Bool.not_eq_false', Bool.not_true, Bool.not_false, List.length_map, Decidable.not_not] at k1
    obtain ⟨i, hgi, hdn, hfp, hon⟩ := onf_yes k1
    rw [hfp adr]
    obtain ⟨hil, hFi⟩ := hD.at hgi
    obtain ⟨vl, vn, acs, hF⟩ := hFi
    obtain ⟨b0, c0, hvn⟩ := hF.bn.bs.len
    have hf := hF.hf
    have hbs := hF.bn.bs
    rw [hvn] at hf hbs
    refine s_skip ?_
    refine s_seq ?_
    refine s_region ?_
    refine o_q (q_mv ((by first | exact v_raw rfl | exact v_sptr rfl))) rfl rfl rfl ?_
    refine o_q (q_nil rfl) rfl rfl rfl ?_
    refine o_q (q_fr fo68_1 rfl) rfl rfl rfl ?_
    refine o_q (q_ldm ag65 sz65 rfl (by repeat first | exact Mem.upd_self _ _ _ | assumption | refine Mem.upd_ne (by assumption) ?_) rfl ((by first | exact v_raw rfl | exact v_sl rfl))) rfl rfl rfl ?_
    refine o_b2sB und65 und9 und5 b2s65_9 rfl hbs rfl ?_
    refine o_q (q_as (v_raw rfl)) rfl rfl rfl ?_
    refine o_q (q_as (v_raw rfl)) rfl rfl rfl ?_
    refine o_nil ?_
    refine s_ret ?_
    refine s_end ?_
    have e : s.read nm = (⟨(s.now i).toArray⟩, 0) := by unfold DS.read; rw [hdn, hgi]; rfl
    exact ret_many (.inl rfl) rfl (rl_t rfl (rl_t rfl rl_nil)) rfl ⟨by rw [e]; rfl, rfl⟩

def tk17 : Nat → Nat → Option Nat := fun _ _ => none
def pl17 : Nat → List PStep := fun _ => []
theorem cb17 : Try.f17.body.map (codeB Try.prog Try.f17.ntmps tk17 pl17) = some true := by kernel_rfl
theorem goes17 : goesB Try.prog 17 = true := by kernel_rfl
set_option maxHeartbeats 4000000 in
set_option maxRecDepth 20000 in
theorem snd17 (M : Mem) (d n rf rl : Nat) (adr : Nat → Nat) (s : DS) (O W : Nat → Prop) (chs : List Ch) (hD : DiskIs M d n rf rl adr s O W chs) (k : Int) (hk : -2 ^ 63 ≤ k ∧ k < 2 ^ 63) : SoundCall Try.prog 17 [ptr d, int k] M fun r M' => r = .tup [] ∧ Aft M M' d n (s.setfuse k) O W := by
  have hd := hD.hd
  unfold dC at hd
  refine SoundCall.go tk17 pl17 mixed Try.func17 cb17 rfl (Nat.le_of_ble_eq_true rfl) ?_
  refine s_region ?_
  refine o_q (q_mv ((by first | exact v_raw rfl | exact v_sptr rfl))) rfl rfl rfl ?_
  refine o_q (q_mv (v_raw rfl)) rfl rfl rfl ?_
  refine o_q (q_max rfl rfl) rfl rfl rfl ?_
  refine o_q (q_nil rfl) rfl rfl rfl ?_
  refine o_q (q_fr fo61_4 rfl) rfl rfl rfl ?_
  refine o_store rfl (by repeat first | exact Mem.upd_self _ _ _ | assumption | refine Mem.upd_ne (by assumption) ?_) (by first | exact e_raw rfl | exact e_agg rfl | exact e_sl rfl | rfl) rfl sz3 rfl (Nat.le_of_ble_eq_true rfl) rfl rfl ?_
  refine o_nil ?_
  refine s_end ?_
  exact ⟨rfl, Aft.of (hD.setd (max k (-1)) s.down (by omega)) ⟨fun c _ h2 => upd_other fun e => h2 (by rw [e]; exact hD.od), fun c hc => .inl hc, fun c hc => hc⟩⟩

def tk28 : Nat → Nat → Option Nat := fun _ _ => none
def pl28 : Nat → List PStep := fun _ => []
theorem cb28 : Try.f28.body.map (codeB Try.prog Try.f28.ntmps tk28 pl28) = some true := by kernel_rfl
theorem goes28 : goesB Try.prog 28 = true := by kernel_rfl
theorem goes45 : goesB Try.prog 45 = true := by kernel_rfl
set_option maxHeartbeats 4000000 in
set_option maxRecDepth 20000 in
theorem snd28 (M : Mem) (d n rf rl : Nat) (adr : Nat → Nat) (s : DS) (O W : Nat → Prop) (chs : List Ch) (hD : DiskIs M d n rf rl adr s O W chs) : SoundCall Try.prog 28 [ptr d] M fun r M' => r = .tup [.sl (s.list.1.map str) false, int s.list.2] ∧ M.le M' := by
  have hd := hD.hd
  unfold dC at hd
  obtain ⟨clk, lf, hr, hst, hsn, hkn, hkp, hen, hlen⟩ := hD.ents
  have hgd := (okC_gd hD.oc).2
  have hml : maxLen = 2 ^ 63 - 1 := rfl
  refine SoundCall.go tk28 pl28 mixed Try.func28 cb28 rfl (Nat.le_of_ble_eq_true rfl) ?_
  refine s_seq ?_
  refine s_region ?_
  refine o_q (q_as (v_sl rfl)) rfl rfl rfl ?_
  refine o_q (q_as (v_raw rfl)) rfl rfl rfl ?_
  refine o_nil ?_
  refine s_seq ?_
  refine s_seq ?_
  refine s_region ?_
  refine o_q (q_mv ((by first | exact v_raw rfl | exact v_sptr rfl))) rfl rfl rfl ?_
  refine o_q (q_nil rfl) rfl rfl rfl ?_
  refine o_q (q_fr fo61_5 rfl) rfl rfl rfl ?_
  refine o_q (q_ldm ag4 sz4 rfl (by repeat first | exact Mem.upd_self _ _ _ | assumption | refine Mem.upd_ne (by assumption) ?_) rfl (v_raw rfl)) rfl rfl rfl ?_
  refine o_nil ?_
  refine s_cond rfl (fun h1 => ?_) (fun h1 => ?_)
  · have k1 := h1; try simp only [decide_eq_true_eq, decide_eq_false_iff_not, Bool.not_eq_true', Bool.not_eq_false', Bool.not_true, Bool.not_false, List.length_map, Decidable.not_not] at k1
    refine s_seq ?_
    refine s_region ?_
    refine o_q (q_as (v_sl rfl)) rfl rfl rfl ?_
    refine o_q (q_as (v_raw rfl)) rfl rfl rfl ?_
    refine o_nil ?_
    refine s_ret ?_
    refine s_code_ret ?_
    refine s_end ?_
    exact ret_many (.inl rfl) rfl (rl_t rfl (rl_t rfl rl_nil)) rfl ⟨by unfold DS.list; rw [h1]; rfl, Mem.le_refl M⟩
  · have k1 := h1; try simp only [decide_eq_true_eq, decide_eq_false_iff_not, Bool.not_eq_true', Bool.not_eq_false', Bool.not_true, Bool.not_false, List.length_map, Decidable.not_not] at k1
    refine s_skip ?_
    refine s_seq ?_
    refine s_region ?_
    refine o_q (q_mv ((by first | exact v_raw rfl | exact v_sptr rfl))) rfl rfl rfl ?_
    refine o_q (q_nil rfl) rfl rfl rfl ?_
    refine o_q (q_fr fo61_1 rfl) rfl rfl rfl ?_
    refine o_q (q_ldm ag58 sz58 rfl (by repeat first | exact Mem.upd_self _ _ _ | assumption | refine Mem.upd_ne (by assumption) ?_) rfl (v_raw rfl)) rfl rfl rfl ?_
    refine o_callx (snd46 _ rf) goes46 (ac (v_raw rfl) ac_nil) rfl ?_
    rintro q M1 ⟨B1, hB1, rfl, rfl⟩
    refine o_callx (sorted45 B1 rf clk lf _ (Mem.upd_self _ _ _) ((upd_other (fun e => by rw [e, hB1] at hr; cases hr)).trans hr) (by rw [hlen]; have := hgd.len; omega) (fun e he => by have h1 := hkp.mem_iff.1 (List.mem_map.2 ⟨e, he, rfl⟩); obtain ⟨p, hp, e2⟩ := List.mem_map.1 h1; have := (hgd.nm p hp).2.1; rw [← e2]; omega) hst hsn hkn) goes45 (ac (v_raw rfl) ac_nil) rfl ?_
    rintro q M2 ⟨rfl, rfl⟩
    refine o_q (q_as (v_sl rfl)) rfl rfl rfl ?_
    refine o_q (q_as (v_raw rfl)) rfl rfl rfl ?_
    refine o_nil ?_
    refine s_ret ?_
    refine s_end ?_
    exact ret_many (.inl rfl) rfl (rl_t rfl (rl_t rfl rl_nil)) rfl ⟨by unfold DS.list; rw [h1, ← sortS_names hkp hgd.srt]; rfl, Mem.le_upd (Mem.le_refl M) hB1⟩

def tk26 : Nat → Nat → Option Nat := fun _ _ => none
def pl26 : Nat → List PStep
  | 4 => [.q 0, .q 1, .q 2, .q 3, .q 4, .q 5, .q 6, .q 7, .q 8, .q 9, .q 10]
  | _ => []
theorem cb26 : Try.f26.body.map (codeB Try.prog Try.f26.ntmps tk26 pl26) = some true := by kernel_rfl
theorem goes26 : goesB Try.prog 26 = true := by kernel_rfl
set_option maxHeartbeats 4000000 in
set_option maxRecDepth 20000 in
theorem snd26 (M : Mem) (d n rf rl : Nat) (adr : Nat → Nat) (s : DS) (O W : Nat → Prop) (chs : List Ch) (hD : DiskIs M d n rf rl adr s O W chs) (hn : n < BIG) (nm : ByteArray) (k : Int) : SoundCall Try.prog 26 [ptr d, str nm, int k] M fun r M' => r = int (s.trunc nm k).1 ∧ Aft M M' d (n + 1) (s.trunc nm k).2 O W := by
  have hd := hD.hd
  unfold dC at hd
  have hub := hD.used_le
  have hbig : BIG = 2 ^ 40 := rfl
  have hrm := hD.room
  refine SoundCall.go tk26 pl26 mixed Try.func26 cb26 rfl (Nat.le_of_ble_eq_true rfl) ?_
  refine s_seq ?_
  refine s_region ?_
  refine o_box (by first | exact e_raw rfl | exact e_agg rfl | exact e_sl rfl) rfl rfl (fun B1 hB1 => ?_)
  have hm1 : M B1 = none := le_none (by repeat first | exact Mem.le_refl _ | refine leU ?_ (by assumption)) hB1
  have hdB1 : d ≠ B1 := fun e => by rw [e, hm1] at hd; cases hd
  refine o_q (q_as (v_raw rfl)) rfl rfl rfl ?_
  refine o_nil ?_
  refine s_seq ?_
  refine s_region ?_
  refine o_q (q_mv ((by first | exact v_raw rfl | exact v_sptr rfl))) rfl rfl rfl ?_
  refine o_q (q_mv (v_raw rfl)) rfl rfl rfl ?_
  refine o_call ((snd37 _ d n rf rl adr s O W chs (hD.le (by repeat first | exact Mem.le_refl _ | refine leU ?_ (by assumption))) nm)) goes37 (ac ((by first | exact v_raw rfl | exact v_sptr rfl)) (ac (v_raw rfl) ac_nil)) rfl ?_
  refine o_q (q_mv (v_tup rfl)) rfl rfl rfl ?_
  refine o_q (q_ext rfl rfl ((by first | exact v_raw rfl | exact v_sptr rfl))) rfl rfl rfl ?_
  refine o_q (q_ext rfl rfl (v_raw rfl)) rfl rfl rfl ?_
  refine o_alloc zc62 (fun B2 hB2 => ?_)
  have hm2 : M B2 = none := le_none (by repeat first | exact Mem.le_refl _ | refine leU ?_ (by assumption)) hB2
  have hdB2 : d ≠ B2 := fun e => by rw [e, hm2] at hd; cases hd
  have f1_2 : B1 ≠ B2 := Mem.fresh_ne hB2 (by repeat first | exact Mem.upd_self _ _ _ | assumption | refine Mem.upd_ne (by assumption) ?_)
  refine o_store rfl (Mem.upd_self _ _ _) (e_raw rfl) (fptr_ok s adr nm) sz62 rfl (Nat.le_of_ble_eq_true rfl) rfl rfl ?_
  refine o_q (q_as (v_raw rfl)) rfl rfl rfl ?_
  refine o_nil ?_
  refine s_seq ?_
  refine s_seq ?_
  refine s_region ?_
  refine o_q (q_mv (v_raw rfl)) rfl rfl rfl ?_
  refine o_q (q_neq rfl rfl) rfl rfl rfl ?_
  refine o_nil ?_
  refine s_cond rfl (fun h1 => ?_) (fun h1 => ?_)
  · have k1 := h1; try simp only [decide_eq_true_eq, decide_eq_false_iff_not, Bool.not_eq_true', Bool.not_eq_false', Bool.not_true, Bool.not_false, List.length_map, Decidable.not_not] at k1
    refine s_seq ?_
    refine s_region ?_
    refine o_q (q_mv (v_raw rfl)) rfl rfl rfl ?_
    refine o_q (q_as (v_raw rfl)) rfl rfl rfl ?_
    refine o_nil ?_
    refine s_ret ?_
    refine s_code_ret ?_
    refine s_end ?_
    have e : s.trunc nm k = (s.find nm, s) := onf_no k1 _
    exact ⟨by rw [e]; rfl, by rw [e]; exact Aft.same hD (Nat.le_succ n) (by repeat first | exact Mem.le_refl _ | refine leU ?_ (by assumption))⟩
  · have k1 := h1; try simp only [decide_eq_true_eq, decide_eq_false_iff_not, Bool.not_eq_true', Bool.not_eq_false', Bool.not_true, Bool.not_false, List.length_map, Decidable.not_not] at k1
    obtain ⟨i, hgi, hdn, hfp, hon⟩ := onf_yes k1
    rw [hfp adr]
    obtain ⟨hil, hFi⟩ := hD.at hgi
    have hnu : (s.files.getD i fl0).now.length ≤ s.used := hD.now_used hgi
    have hOi := hD.oi _ hil
    have hWi := hD.ow _ hOi
    have hna : (s.files.getD i fl0).acts.length ≤ n := hD.na _ (List.mem_of_getElem? (getD_at hil))
    obtain ⟨vl, vn, acs, hF⟩ := id hFi
    obtain ⟨b0, c0, hvn⟩ := hF.bn.bs.len
    have hf := hF.hf
    rw [hvn] at hf
    have hfa : adr i ≠ B1 := fun e => by rw [e, hm1] at hf; cases hf
    have hfb : adr i ≠ B2 := fun e => by rw [e, hm2] at hf; cases hf
    have hnB := (okA_len hF.ok).2
    refine s_skip ?_
    refine s_seq ?_
    refine s_seq ?_
    refine s_draw rfl ?_
    refine d_q rfl (q_ldm ag3 sz3 rfl (by repeat first | exact Mem.upd_self _ _ _ | assumption | refine Mem.upd_ne (by assumption) ?_) rfl (v_raw rfl)) rfl rfl rfl ?_
    refine d_q rfl (q_lss rfl rfl) rfl rfl rfl ?_
    refine d_q rfl (q_mv (v_raw rfl)) rfl rfl rfl ?_
    refine d_cases (want := false) (j := 2) rfl rfl (fun h2 => ?_) (fun h2 => ?_)
    · have k2 := h2; try simp only [decide_eq_true_eq, decide_eq_false_iff_not, Bool.not_eq_true', Bool.not_eq_false', Bool.not_true, Bool.not_false, List.length_map, Decidable.not_not] at k2
      refine d_yes rfl (q_ldm ag3 sz3 rfl (by repeat first | exact Mem.upd_self _ _ _ | assumption | refine Mem.upd_ne (by assumption) ?_) rfl (v_raw rfl)) rfl rfl rfl h2 rfl rfl ?_
      refine d_yes rfl (q_ldm ag62 sz62 rfl (by repeat first | exact Mem.upd_self _ _ _ | assumption | refine Mem.upd_ne (by assumption) ?_) rfl ((by first | exact v_raw rfl | exact v_sptr rfl))) rfl rfl rfl h2 rfl rfl ?_
      refine d_yes rfl (q_nil rfl) rfl rfl rfl h2 rfl rfl ?_
      refine d_yes rfl (q_fr fo68_1 rfl) rfl rfl rfl h2 rfl rfl ?_
      refine d_yes rfl (q_ldm ag65 sz65 rfl (by repeat first | exact Mem.upd_self _ _ _ | assumption | refine Mem.upd_ne (by assumption) ?_) rfl ((by first | exact v_raw rfl | exact v_sl rfl))) rfl rfl rfl h2 rfl rfl ?_
      refine d_yes rfl (q_lenr rfl und65 rfl) rfl rfl rfl h2 rfl rfl ?_
      refine d_yes rfl (q_gtr rfl rfl) rfl rfl rfl h2 rfl rfl ?_
      refine d_q rfl (q_pick_c (t := false) rfl h2 (v_raw rfl)) rfl rfl rfl ?_
      refine d_nil ?_
      refine s_cond rfl (fun h3 => ?_) (fun h3 => ?_)
      · have k3 := h3; try simp only [decide_eq_true_eq, decide_eq_false_iff_not, Bool.not_eq_true', Bool.not_eq_false', Bool.not_true, Bool.not_false, List.length_map, Decidable.not_not] at k3
        refine s_seq ?_
        refine s_region ?_
        refine o_q (q_as (v_raw rfl)) rfl rfl rfl ?_
        refine o_nil ?_
        refine s_ret ?_
        refine s_code_ret ?_
        refine s_end ?_
        have e : s.trunc nm k = (1, s) := (hon _).trans (if_pos (.inr (show ((s.files.getD i fl0).now.length : Int) < k by omega)))
        exact ⟨by rw [e]; rfl, by rw [e]; exact Aft.same hD (Nat.le_succ n) (by repeat first | exact Mem.le_refl _ | refine leU ?_ (by assumption))⟩
      · have k3 := h3; try simp only [decide_eq_true_eq, decide_eq_false_iff_not, Bool.not_eq_true', Bool.not_eq_false', Bool.not_true, Bool.not_false, List.length_map, Decidable.not_not] at k3
        refine s_skip ?_
        refine s_seq ?_
        refine s_region ?_
        refine o_q (q_mv ((by first | exact v_raw rfl | exact v_sptr rfl))) rfl rfl rfl ?_
        refine o_q (q_mkf2 rfl rfl) rfl rfl rfl ?_
        refine o_callx ((snd38 _ d (int s.room) (mapV rf) (mapV rl) (.sl (chs.map fun c : Ch => AVal.raw c.val) true) s.fuse s.down (by repeat first | exact hd | refine Mem.upd_ne (by assumption) ?_) hD.fuse 64 #[] #[ptrV B2, ptrV B1] _ goes64 (fun hfz => snd64 _ W (adr i) (s.files.getD i fl0) (((hD.le (by repeat first | exact Mem.le_refl _ | refine leU ?_ (by assumption))).setd (tick s.fuse) s.down (tick_bd hD.fuse)).at hgi).2 hWi ((hD.le (by repeat first | exact Mem.le_refl _ | refine leU ?_ (by assumption))).setd (tick s.fuse) s.down (tick_bd hD.fuse)).ok (by omega) B2 (by repeat first | exact Mem.upd_self _ _ _ | assumption | refine Mem.upd_ne (by first | assumption | exact Ne.symm (by assumption)) ?_) B1 k.toNat (show _ = some (AObj.cells [AVal.raw (Value.int .i64 (k.toNat : Int))]) by rw [show ((k.toNat : Nat) : Int) = k by omega]; exact (by repeat first | exact Mem.upd_self _ _ _ | assumption | refine Mem.upd_ne (by first | assumption | exact Ne.symm (by assumption)) ?_)) (fun h => hD.ok _ h hm1) (by omega)))) goes38 (ac ((by first | exact v_raw rfl | exact v_sptr rfl)) (ac (v_raw rfl) ac_nil)) rfl ?_
        rintro r' M' h38
        obtain ⟨rk, rfl⟩ : ∃ rk, r' = int rk := by rcases h38 with ⟨_, h, _⟩ | ⟨_, h, _⟩ <;> exact ⟨_, h⟩
        refine o_q (q_as (v_raw rfl)) rfl rfl rfl ?_
        refine o_nil ?_
        refine s_ret ?_
        refine s_end ?_
        have e : s.trunc nm k = s.act fun t => t.did i (.cut k.toNat) := (hon _).trans (if_neg (fun h => by have h2 : k < 0 ∨ ((s.files.getD i fl0).now.length : Int) < k := h; omega))
        have hr := do_end (t := fun t => t.did i (.cut k.toNat)) hD (by repeat first | exact Mem.le_refl _ | refine leU ?_ (by assumption)) (Nat.le_succ n) h38 (fun hq => file_end ((hD.le (by repeat first | exact Mem.le_refl _ | refine leU ?_ (by assumption))).setd (tick s.fuse) s.down (tick_bd hD.fuse)) (nm := nm) hgi hq (Nat.le_succ n) (by rw [did_len]; exact Nat.succ_le_succ hna))
        exact ⟨by rw [e]; exact hr.1, by rw [e]; exact hr.2⟩
    · have k2 := h2; try simp only [decide_eq_true_eq, decide_eq_false_iff_not, Bool.not_eq_true', Bool.not_eq_false', Bool.not_true, Bool.not_false, List.length_map, Decidable.not_not] at k2
      refine d_no rfl rfl rfl rfl h2 rfl ?_
      refine d_no rfl rfl rfl rfl h2 rfl ?_
      refine d_no rfl rfl rfl rfl h2 rfl ?_
      refine d_no rfl rfl rfl rfl h2 rfl ?_
      refine d_no rfl rfl rfl rfl h2 rfl ?_
      refine d_no rfl rfl rfl rfl h2 rfl ?_
      refine d_no rfl rfl rfl rfl h2 rfl ?_
      refine d_q rfl (q_pick_c (t := true) rfl h2 (v_raw rfl)) rfl rfl rfl ?_
      refine d_nil ?_
      refine s_then rfl rfl ?_
      refine s_seq ?_
      refine s_region ?_
      refine o_q (q_as (v_raw rfl)) rfl rfl rfl ?_
      refine o_nil ?_
      refine s_ret ?_
      refine s_code_ret ?_
      refine s_end ?_
      have e : s.trunc nm k = (1, s) := (hon _).trans (if_pos (.inl (by omega)))
      exact ⟨by rw [e]; rfl, by rw [e]; exact Aft.same hD (Nat.le_succ n) (by repeat first | exact Mem.le_refl _ | refine leU ?_ (by assumption))⟩
end C04
