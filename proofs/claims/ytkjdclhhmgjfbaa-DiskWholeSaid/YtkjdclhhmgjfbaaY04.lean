import Derived.Test.YtkjdclhhmgjfbaaX04
import Derived.Test.YtkjdclhhmgjfbaaL05
import Derived.Test.YtkjdclhhmgjfbaaK04
/-! Chapter 4: the disk: what its functions compute. -/
open Go Go.Proofs Go.Am
set_option linter.unusedVariables false
set_option linter.unusedSimpArgs false
set_option autoImplicit false
namespace C04
theorem by3 : bytesT Try.prog 3 = some 8 := by kernel_rfl
theorem und4 : Try.prog.underlying 4 = some .bool := by kernel_rfl
theorem zc3 : zeroCellsT Try.prog 3 = some [.raw (.int .i64 0)] := by kernel_rfl
theorem zc42 : zeroCellsT Try.prog 42 = some [.raw (.int .i64 0), .raw (.string { data := #[] }), .raw (.string { data := #[] }), .raw (.int .i64 0), .sl [] true] := by kernel_rfl
def tk31 : Nat → Nat → Option Nat := fun _ _ => none
def pl31 : Nat → List PStep
  | 6 => [.q 0, .q 1, .q 2, .q 3, .q 4, .q 5, .q 6, .q 7, .q 8]
  | _ => []
theorem cb31 : Try.f31.body.map (codeB Try.prog Try.f31.ntmps tk31 pl31) = some true := by kernel_rfl
theorem goes31 : goesB Try.prog 31 = true := by kernel_rfl
-- carillon/carillonlaw04.texts params ['[]string', '[]string'] results [['t', 4]] own [] names ['0:a', '1:b', '2:a', '3:b', '5:i'] calls [] paths 4
set_option maxHeartbeats 4000000 in
set_option maxRecDepth 20000 in
theorem snd31 (a b : List ByteArray) (o1 o2 : Bool) (M : Mem) (hl : a.length < 2 ^ 60) (hl2 : b.length < 2 ^ 60) : SoundCall Try.prog 31 [.sl (a.map str) o1, .sl (b.map str) o2] M fun r M' => r = bool (decide (a = b)) ∧ M' = M := by
  refine SoundCall.go tk31 pl31 mixed Try.func31 cb31 rfl (Nat.le_of_ble_eq_true rfl) ?_
  refine s_seq ?_
  refine s_region ?_
  refine o_q (q_as (v_raw rfl)) rfl rfl rfl ?_
  refine o_nil ?_
  refine s_seq ?_
  refine s_seq ?_
  refine s_region ?_
  refine o_q (q_mv (v_sl rfl)) rfl rfl rfl ?_
  refine o_q (q_len rfl und49 rfl) rfl rfl rfl ?_
  refine o_q (q_mv (v_sl rfl)) rfl rfl rfl ?_
  refine o_q (q_len rfl und49 rfl) rfl rfl rfl ?_
  refine o_q (q_neq rfl rfl) rfl rfl rfl ?_
  refine o_nil ?_
  refine s_cond rfl (fun h1 => ?_) (fun h1 => ?_)
  · have k1 := h1; try simp only [decide_eq_true_eq, decide_eq_false_iff_not, Bool.not_eq_true', Bool.not_eq_false', Bool.not_true, Bool.not_false, List.length_map, Decidable.not_not] at k1
    refine s_seq ?_
    refine s_region ?_
    refine o_q (q_as (v_raw rfl)) rfl rfl rfl ?_
    refine o_nil ?_
    refine s_ret ?_
    refine s_code_ret ?_
    refine s_end ?_
    exact ⟨congrArg bool (decide_eq_false fun e => by rw [e] at k1; simp at k1).symm, rfl⟩
  · have k1 := h1; try simp only [decide_eq_true_eq, decide_eq_false_iff_not, Bool.not_eq_true', Bool.not_eq_false', Bool.not_true, Bool.not_false, List.length_map, Decidable.not_not] at k1
    refine s_skip ?_
    refine s_seq ?_
    refine s_seq ?_
    refine s_region ?_
    refine o_q (q_as (v_raw rfl)) rfl rfl rfl ?_
    refine o_nil ?_
    refine s_block ?_
    refine s_loop (fun m S => ∃ T, ∃ i : Nat, S = ⟨setT (setT (setT T 0 (.sl (a.map str) o1)) 1 (.sl (b.map str) o2)) 5 (int (i : Nat)), M⟩ ∧ i ≤ a.length ∧ (∀ j, j < i → a[j]? = b[j]?) ∧ m = a.length - i) a.length ?_ ?_
    · have hlen : a.length = b.length := by omega
      exact ⟨_, 0, St.mkT (kp (kp (kp rfl rfl) rfl) rfl).symm, Nat.zero_le _, (fun j hj => absurd hj (Nat.not_lt_zero j)), rfl⟩
    rintro m S ⟨T, i, rfl, hi, hp, rfl⟩
    have hlen : a.length = b.length := by omega
    refine s_seq ?_
    refine s_seq ?_
    refine s_region ?_
    refine o_q (q_mv (v_raw rfl)) rfl rfl rfl ?_
    refine o_q (q_mv (v_sl rfl)) rfl rfl rfl ?_
    refine o_q (q_len rfl und49 rfl) rfl rfl rfl ?_
    refine o_q (q_lss rfl rfl) rfl rfl rfl ?_
    refine o_nil ?_
    refine s_cond rfl (fun h2 => ?_) (fun h2 => ?_)
    · have k2 := h2; try simp only [decide_eq_true_eq, decide_eq_false_iff_not, Bool.not_eq_true', Bool.not_eq_false', Bool.not_true, Bool.not_false, List.length_map, Decidable.not_not] at k2
      have hi1 : i < a.length := by omega
      have hi2 : i < b.length := by omega
      refine s_skip ?_
      refine s_seq ?_
      refine s_block ?_
      refine s_seq ?_
      refine s_draw rfl ?_
      refine d_q rfl (q_mv (v_sl rfl)) rfl rfl rfl ?_
      refine d_q rfl (q_mv (v_raw rfl)) rfl rfl rfl ?_
      refine d_q rfl (q_idx und49 sz9 rfl rfl (by omega) (gm i (by first | omega | simp)) rfl) rfl rfl rfl ?_
      refine d_q rfl (q_ld ag9 sz9 rfl (gm i (by first | omega | simp)) rfl (v_raw rfl)) rfl rfl rfl ?_
      refine d_q rfl (q_mv (v_sl rfl)) rfl rfl rfl ?_
      refine d_q rfl (q_mv (v_raw rfl)) rfl rfl rfl ?_
      refine d_q rfl (q_idx und49 sz9 rfl rfl (by omega) (gm i (by first | omega | simp)) rfl) rfl rfl rfl ?_
      refine d_q rfl (q_ld ag9 sz9 rfl (gm i (by first | omega | simp)) rfl (v_raw rfl)) rfl rfl rfl ?_
      refine d_q rfl (q_sneq rfl rfl) rfl rfl rfl ?_
      refine d_nil ?_
      refine s_cond rfl (fun h3 => ?_) (fun h3 => ?_)
      · have k3 := h3; try simp only [decide_eq_true_eq, decide_eq_false_iff_not, Bool.not_eq_true', Bool.not_eq_false', Bool.not_true, Bool.not_false, List.length_map, Decidable.not_not] at k3
        refine s_seq ?_
        refine s_region ?_
        refine o_q (q_as (v_raw rfl)) rfl rfl rfl ?_
        refine o_nil ?_
        refine s_ret ?_
        refine s_blk_ret ?_
        refine s_code_ret ?_
        refine s_inv_ret ?_
        refine s_blk_ret ?_
        refine s_code_ret ?_
        refine s_end ?_
        exact ⟨congrArg bool (decide_eq_false fun e => k3 (by subst e; rfl)).symm, rfl⟩
      · have k3 := h3; try simp only [decide_eq_true_eq, decide_eq_false_iff_not, Bool.not_eq_true', Bool.not_eq_false', Bool.not_true, Bool.not_false, List.length_map, Decidable.not_not] at k3
        refine s_skip ?_
        refine s_blk_normal ?_
        refine s_region ?_
        refine o_q (q_mv (v_raw rfl)) rfl rfl rfl ?_
        refine o_q (q_add rfl rfl (wrap64 (by omega) (by omega))) rfl rfl rfl ?_
        refine o_q (q_as (v_raw rfl)) rfl rfl rfl ?_
        refine o_nil ?_
        refine s_inv ?_
        exact ⟨a.length - (i + 1), by omega, _, i + 1, St.mkT (kp (kp (kp rfl rfl) rfl) rfl).symm, by omega, (fun j hj => (Nat.lt_succ_iff_lt_or_eq.1 hj).elim (fun h => hp j h) fun e => by subst e; rw [List.getElem?_eq_getElem hi1, List.getElem?_eq_getElem hi2, k3]), rfl⟩
    · have k2 := h2; try simp only [decide_eq_true_eq, decide_eq_false_iff_not, Bool.not_eq_true', Bool.not_eq_false', Bool.not_true, Bool.not_false, List.length_map, Decidable.not_not] at k2
      refine s_exit ?_
      refine s_code_exit ?_
      refine s_inv_exit ?_
      refine s_blk_here ?_
      refine s_seq ?_
      refine s_region ?_
      refine o_q (q_as (v_raw rfl)) rfl rfl rfl ?_
      refine o_nil ?_
      refine s_ret ?_
      refine s_end ?_
      have hab : a = b := List.ext_getElem? fun j => (Nat.lt_or_ge j i).elim (fun e => hp j e) fun e => by rw [List.getElem?_eq_none (by omega), List.getElem?_eq_none (by omega)]
      exact ⟨congrArg bool (decide_eq_true hab).symm, rfl⟩
theorem texts_same (a : List ByteArray) (o1 o2 : Bool) (M : Mem) (hl : a.length < 2 ^ 60) : SoundCall Try.prog 31 [.sl (a.map str) o1, .sl (a.map str) o2] M fun r M' => r = bool true ∧ M' = M := by
  have := snd31 a a o1 o2 M hl hl
  rwa [decide_eq_true rfl] at this


def tk7 : Nat → Nat → Option Nat := fun _ _ => none
def pl7 : Nat → List PStep := fun _ => []
theorem cb7 : Try.f7.body.map (codeB Try.prog Try.f7.ntmps tk7 pl7) = some true := by kernel_rfl
theorem goes7 : goesB Try.prog 7 = true := by kernel_rfl
-- carillon/carillonlaw04.DiskFuse params ['int', '[]carillonlaw04.Deed'] results [['t', 4]] own [] names ['0:fuse', '1:deeds', '2:fuse', '3:deeds', '5:head', '6:a', '7:_', '8:b', '9:_', '10:done', '11:i', '12:o', '13:down', '14:e', '15:keeps', '16:i', '17:l', '18:e', '19:m', '20:f', '21:same', '22:i', '23:s', '24:_', '25:t', '26:_'] calls [9, 10, 15, 16, 17, 18, 28, 29, 30, 31] paths 12

def cutD (o : De) : De := ⟨o.kind, o.a, o.b.extract 0 (min o.b.size 1000), o.n, o.kb, o.kn, o.kc⟩
/-- Two disks. -/
structure Two (M : Mem) (da db n : Nat) (sa sb : DS) (OA OB W : Nat → Prop) : Prop where
  a : DiskAt M da n sa OA W
  b : DiskAt M db n sb OB W
  dj : ∀ c, OA c → OB c → False
section
variable {M M' : Mem} {da db n m : Nat} {sa sb s' : DS} {OA OB W : Nat → Prop}
theorem Two.swap (h : Two M da db n sa sb OA OB W) : Two M db da n sb sa OB OA W := ⟨h.b, h.a, fun c h1 h2 => h.dj c h2 h1⟩
theorem DiskAt.own {d : Nat} {s : DS} {O : Nat → Prop} (h : DiskAt M d n s O W) : (∀ c, O c → W c) ∧ ∀ c, W c → M c ≠ none := by
  obtain ⟨rf, rl, adr, chs, h⟩ := h
  exact ⟨h.ow, h.ok⟩
theorem DiskAt.up {d : Nat} {s : DS} {O : Nat → Prop} (h : DiskAt M d n s O W) (hm : n ≤ m) : DiskAt M d m s O W := by
  obtain ⟨rf, rl, adr, chs, h⟩ := h
  exact ⟨rf, rl, adr, chs, h.up hm⟩
theorem Two.le (h : Two M da db n sa sb OA OB W) (hle : M.le M') : Two M' da db n sa sb OA OB W := ⟨h.a.le hle, h.b.le hle, h.dj⟩
theorem Two.up (h : Two M da db n sa sb OA OB W) (hm : n ≤ m) : Two M da db m sa sb OA OB W := ⟨h.a.up hm, h.b.up hm, h.dj⟩
theorem Two.stepA (h : Two M da db n sa sb OA OB W) (hm : n ≤ m) (h2 : Aft M M' da m s' OA W) : ∃ O' W', Two M' da db m s' sb O' OB W' := by
  obtain ⟨O', W', h3, h4, h5, h6⟩ := h2
  have hA := h.a.own
  have hB := h.b.own
  refine ⟨O', W', h3, (h.b.up hm).fr (fun c h1 h2 => h4.eq c h1 fun ho => h2.elim (h.dj c ho) fun h => h (hA.1 c ho)) h5 h6 h3.own.2, fun c h1 h2 => ?_⟩
  rcases h4.new c h1 with h7 | h7
  · exact h.dj c h7 h2
  · exact hA.2 c (hB.1 c h2) h7
theorem Two.stepB (h : Two M da db n sa sb OA OB W) (hm : n ≤ m) (h2 : Aft M M' db m s' OB W) : ∃ O' W', Two M' da db m sa s' OA O' W' := by
  obtain ⟨O', W', h3⟩ := h.swap.stepA hm h2
  exact ⟨O', W', h3.swap⟩
end
theorem del_upd {M : Mem} {b : Nat} {o : AObj} (h : M b = none) : (M.upd b o).del b = M := by
  funext c
  unfold Mem.del Mem.upd
  by_cases e : c = b
  · rw [if_pos e, e, h]
  · rw [if_neg e, if_neg e]
def kL (i : Nat) : List Int := List.replicate i 1000000 ++ List.replicate (60 - i) 0
theorem kL_set {i : Nat} (h : i < 60) : (kL i).set i 1000000 = kL (i + 1) := by
  unfold kL
  rw [List.set_append, if_neg (by simp), List.length_replicate, Nat.sub_self, show 60 - i = (60 - (i + 1)) + 1 by omega, List.replicate_succ, List.set_cons_zero, List.replicate_succ', List.append_assoc]; rfl
theorem spK {j : Nat} (h : j < 60) : splice ((kL j).map int) (0 + (j : Int).toNat * 1) ((AVal.raw (.int .i64 1000000)).cells.map AVal.shut) = (kL (j + 1)).map int := by
  rw [← kL_set h, Nat.zero_add, Nat.mul_one, Int.toNat_natCast, List.map_set]
  unfold splice
  rw [List.set_eq_take_append_cons_drop, if_pos (by rw [List.length_map]; unfold kL; simp; omega)]
  show _ ++ [int 1000000] ++ _ = _
  rw [List.append_assoc]; rfl
theorem Aft.keep {M M' : Mem} {d n : Nat} {s : DS} {O W : Nat → Prop} (h : Aft M M' d n s O W) {c : Nat} (h1 : M c ≠ none) (h2 : ¬ O c) : M' c = M c := by
  obtain ⟨O', W', -, h3, -⟩ := h
  exact h3.eq c h1 h2
theorem kL60 : kL 60 = K60 := by unfold kL K60; simp
theorem kL_bd : ∀ z ∈ kL 60, (-2 : Int) ^ 63 ≤ z ∧ z < 2 ^ 63 := fun z hz => by
  rw [kL60] at hz
  rw [List.eq_of_mem_replicate hz]; decide
theorem read_up {s : DS} {nm : ByteArray} {i : Nat} (h : gets s.dir nm = some i) : ({ s with fuse := -1, down := false } : DS).read nm = (⟨(s.now i).toArray⟩, 0) := by
  unfold DS.read
  rw [if_neg Bool.false_ne_true]
  show (match gets s.dir nm with | none => _ | some i => _) = _
  rw [h]; rfl
theorem kL_len {i : Nat} (h : i ≤ 60) : (kL i).length = 60 := by unfold kL; simp; omega
set_option maxHeartbeats 4000000 in
set_option maxRecDepth 20000 in
theorem snd7 (fuse : Int) (deeds : List De) (own : Bool) (hfu : -2 ^ 63 ≤ fuse ∧ fuse < 2 ^ 63) (hdl : deeds.length < 2 ^ 60) (hde : ∀ o ∈ deeds, okDe o) (hdz : ∀ o ∈ deeds, o.b.size < 2 ^ 60) (M : Mem) (hM : M = M0) : SoundCall Try.prog 7 [int fuse, .sl (deeds.map encDe) own] M fun r M' => r = bool true ∧ M0.le M' := by
  subst hM
  have hpk := pick_lt (c := fuse) (n := 40) (by decide)
  obtain ⟨fu, hfue⟩ : ∃ fu, pick fuse 40 = fu := ⟨_, rfl⟩
  rw [hfue] at hpk
  have hbig : BIG = 2 ^ 40 := rfl
  refine SoundCall.go tk7 pl7 mixed Try.func7 cb7 rfl (Nat.le_of_ble_eq_true rfl) ?_
  refine s_seq ?_
  refine s_region ?_
  refine o_q (q_as (v_raw rfl)) rfl rfl rfl ?_
  refine o_nil ?_
  refine s_seq ?_
  refine s_region ?_
  refine o_call (ex9) goes9 ac_nil rfl ?_
  refine o_q (q_as (v_raw rfl)) rfl rfl rfl ?_
  refine o_nil ?_
  refine s_seq ?_
  refine s_region ?_
  refine o_callx ((newOk M0 1000000 (by decide) (by decide) _ nW)) goes10 (ac (v_raw rfl) ac_nil) rfl ?_
  rintro r0 M1 ⟨da, O0, W0, rfl, hA0, -⟩
  refine o_q (q_mv (v_tup rfl)) rfl rfl rfl ?_
  refine o_q (q_ext rfl rfl ((by first | exact v_raw rfl | exact v_sptr rfl))) rfl rfl rfl ?_
  refine o_q (q_ext rfl rfl (v_raw rfl)) rfl rfl rfl ?_
  refine o_q (q_as ((by first | exact v_raw rfl | exact v_sptr rfl))) rfl rfl rfl ?_
  refine o_q (q_as (v_raw rfl)) rfl rfl rfl ?_
  refine o_nil ?_
  refine s_seq ?_
  refine s_region ?_
  refine o_callx ((newOk M1 1000000 (by decide) (by decide) _ hA0.own.2)) goes10 (ac (v_raw rfl) ac_nil) rfl ?_
  rintro r0 M2 ⟨db, O1, W1, rfl, hB0, hle1, hn1, hw1, hv1⟩
  have hT0 : Two M2 da db 0 (DS.new 1000000) (DS.new 1000000) O0 O1 W1 := ⟨hA0.fr (fun c h1 _ => leK hle1 h1) (fun c hc => (hw1 c hc).imp id (hn1 c)) hv1 hB0.own.2, hB0, fun c h1 h2 => hA0.own.2 c (hA0.own.1 c h1) (hn1 c h2)⟩
  refine o_q (q_mv (v_tup rfl)) rfl rfl rfl ?_
  refine o_q (q_ext rfl rfl ((by first | exact v_raw rfl | exact v_sptr rfl))) rfl rfl rfl ?_
  refine o_q (q_ext rfl rfl (v_raw rfl)) rfl rfl rfl ?_
  refine o_q (q_as ((by first | exact v_raw rfl | exact v_sptr rfl))) rfl rfl rfl ?_
  refine o_q (q_as (v_raw rfl)) rfl rfl rfl ?_
  refine o_nil ?_
  refine s_seq ?_
  refine s_seq ?_
  refine s_region ?_
  refine o_q (q_mv ((by first | exact v_raw rfl | exact v_sptr rfl))) rfl rfl rfl ?_
  refine o_q (q_peql und24 rfl rfl) rfl rfl rfl ?_
  refine o_q (q_mv (v_raw rfl)) rfl rfl rfl ?_
  refine o_yes rfl rfl rfl rfl ?_
  refine o_q (q_mv ((by first | exact v_raw rfl | exact v_sptr rfl))) rfl rfl rfl ?_
  refine o_yes rfl rfl rfl rfl ?_
  refine o_q (q_peql und24 rfl rfl) rfl rfl rfl ?_
  refine o_q (q_pick_c (t := false) rfl rfl (v_raw rfl)) rfl rfl rfl ?_
  refine o_nil ?_
  refine s_else rfl rfl ?_
  refine s_skip ?_
  refine s_seq ?_
  refine s_region ?_
  refine o_q (q_mv (v_raw rfl)) rfl rfl rfl ?_
  refine o_call ((show SoundCall Try.prog 18 [int fuse, int 40] _ fun r M' => r = int fu ∧ M' = _ by rw [← hfue]; exact snd18 fuse 40 _ (by decide) (by decide) hfu)) goes18 (ac (v_raw rfl) (ac (v_raw rfl) ac_nil)) rfl ?_
  refine o_q (q_as (v_raw rfl)) rfl rfl rfl ?_
  refine o_nil ?_
  refine s_seq ?_
  refine s_region ?_
  refine o_q (q_mv ((by first | exact v_raw rfl | exact v_sptr rfl))) rfl rfl rfl ?_
  refine o_q (q_mv (v_raw rfl)) rfl rfl rfl ?_
  refine o_callx ((fuse_at hT0.a (by omega) rfl)) goes17 (ac ((by first | exact v_raw rfl | exact v_sptr rfl)) (ac (v_raw rfl) ac_nil)) rfl ?_
  rintro r3 M3 ⟨rfl, hAf⟩
  obtain ⟨O2, W2, hT2⟩ := hT0.stepA (Nat.le_refl 0) hAf
  have hF0 : FR ((DS.new 1000000).setfuse fu) (DS.new 1000000) fu 0 0 := ⟨rfl, fun _ => (show max fu (-1) = fu - 0 by omega), (fun h => by cases h), by omega, (fun F h => by cases h), Nat.le_refl 0⟩
  refine o_nil ?_
  refine s_seq ?_
  refine s_region ?_
  refine o_q (q_as (v_raw rfl)) rfl rfl rfl ?_
  refine o_nil ?_
  refine s_seq ?_
  refine s_seq ?_
  refine s_region ?_
  refine o_q (q_as (v_raw rfl)) rfl rfl rfl ?_
  refine o_nil ?_
  refine s_cut (fun S => ∃ T Mc sa sb OA OB W dn, ∃ i : Nat, S = ⟨setT (setT (setT (setT (setT (setT (setT T 0 (int fu)) 1 (.sl (deeds.map encDe) own)) 5 (bool true)) 6 (ptr da)) 8 (ptr db)) 10 (int dn)) 11 (int (i : Nat)), Mc⟩ ∧ Two Mc da db (2 * i) sa sb OA OB W ∧ FR sa sb fu dn i ∧ i ≤ 50) ?_ ?_
  · skip
    refine s_block ?_
    refine s_loop (fun m S => ∃ T Mc sa sb OA OB W dn, ∃ i : Nat, S = ⟨setT (setT (setT (setT (setT (setT (setT T 0 (int fu)) 1 (.sl (deeds.map encDe) own)) 5 (bool true)) 6 (ptr da)) 8 (ptr db)) 10 (int dn)) 11 (int (i : Nat)), Mc⟩ ∧ Two Mc da db (2 * i) sa sb OA OB W ∧ FR sa sb fu dn i ∧ i ≤ 50 ∧ m = 50 - i) 50 ?_ ?_
    · exact ⟨_, _, _, _, _, _, _, 0, 0, St.mkT (kp (kp (kp (kp (kp (kp (kp rfl rfl) rfl) rfl) rfl) rfl) rfl) rfl).symm, hT2, hF0, by decide, rfl⟩
    rintro m S ⟨T, Mc, sa, sb, OA, OB, W, dn, i, rfl, hT, hF, hi, rfl⟩
    refine s_seq ?_
    refine s_seq ?_
    refine s_region ?_
    refine o_q (q_mv (v_raw rfl)) rfl rfl rfl ?_
    refine o_q (q_mv (v_sl rfl)) rfl rfl rfl ?_
    refine o_q (q_len rfl und38 rfl) rfl rfl rfl ?_
    refine o_q (q_lss rfl rfl) rfl rfl rfl ?_
    refine o_q (q_mv (v_raw rfl)) rfl rfl rfl ?_
    refine o_cases (want := true) (j := 4) rfl rfl (fun h1 => ?_) (fun h1 => ?_)
    · have k1 := h1; try simp only [decide_eq_true_eq, decide_eq_false_iff_not, Bool.not_eq_true', Bool.not_eq_false', Bool.not_true, Bool.not_false, List.length_map, Decidable.not_not] at k1
      refine o_yes rfl rfl rfl h1 ?_
      refine o_q (q_mv (v_raw rfl)) rfl rfl rfl ?_
      refine o_yes rfl rfl rfl h1 ?_
      refine o_q (q_lss rfl rfl) rfl rfl rfl ?_
      refine o_q (q_pick_c (t := true) rfl h1 (v_raw rfl)) rfl rfl rfl ?_
      refine o_nil ?_
      refine s_cond rfl (fun h2 => ?_) (fun h2 => ?_)
      · have k2 := h2; try simp only [decide_eq_true_eq, decide_eq_false_iff_not, Bool.not_eq_true', Bool.not_eq_false', Bool.not_true, Bool.not_false, List.length_map, Decidable.not_not] at k2
        have hil : i < deeds.length := by omega
        have hi60 : i < 50 := by omega
        have hdzi := hdz _ (List.getElem_mem hil)
        have hmn : min (deeds[i].b.size : Int) 1000 = ((min deeds[i].b.size 1000 : Nat) : Int) := by omega
        have hob : (cutD deeds[i]).b.size ≤ 1000 := by show (deeds[i].b.extract 0 _).size ≤ 1000; rw [ByteArray.size_extract]; omega
        obtain ⟨c, z, e⟩ : ∃ k z, sa.one (cutD deeds[i]) = (k, z) := ⟨_, _, rfl⟩
        obtain ⟨hs1, hs2, hs3⟩ := hF.step hT.a.gd hob e
        have hle := hF.le
        refine s_skip ?_
        refine s_seq ?_
        refine s_block ?_
        refine s_seq ?_
        refine s_region ?_
        refine o_q (q_mv (v_sl rfl)) rfl rfl rfl ?_
        refine o_q (q_mv (v_raw rfl)) rfl rfl rfl ?_
        refine o_q (q_idx und38 sz42 rfl rfl (by omega) (gm i (by first | omega | simp)) rfl) rfl rfl rfl ?_
        refine o_q (q_lde ag42 sz42 rfl (gm i (by first | omega | simp)) rfl rfl) rfl rfl rfl ?_
        refine o_alloc zc42 (fun B1 hB1 => ?_)
        skip
        refine o_storew rfl (by repeat first | exact Mem.upd_self _ _ _ | assumption | refine Mem.upd_ne (by assumption) ?_) (by first | exact e_agg rfl | rfl) rfl sz42 rfl rfl rfl rfl ?_
        refine o_nil ?_
        refine s_seq ?_
        refine s_region ?_
        refine o_q (q_fr fo42_2 rfl) rfl rfl rfl ?_
        refine o_q (q_ldm ag9 sz9 rfl (by repeat first | exact Mem.upd_self _ _ _ | assumption | refine Mem.upd_ne (by assumption) ?_) rfl (v_raw rfl)) rfl rfl rfl ?_
        refine o_q (q_fr fo42_2 rfl) rfl rfl rfl ?_
        refine o_q (q_ldm ag9 sz9 rfl (by repeat first | exact Mem.upd_self _ _ _ | assumption | refine Mem.upd_ne (by assumption) ?_) rfl (v_raw rfl)) rfl rfl rfl ?_
        refine o_q (q_lens rfl und9 rfl) rfl rfl rfl ?_
        refine o_q (q_min rfl rfl) rfl rfl rfl ?_
        rw [hmn]
        refine o_q (q_slstr und9 rfl rfl (Nat.min_le_left _ _)) rfl rfl rfl ?_
        refine o_q (q_fr fo42_2 rfl) rfl rfl rfl ?_
        refine o_store rfl (by repeat first | exact Mem.upd_self _ _ _ | assumption | refine Mem.upd_ne (by assumption) ?_) (by first | exact e_raw rfl | exact e_agg rfl | exact e_sl rfl | rfl) rfl sz9 rfl (Nat.le_of_ble_eq_true rfl) rfl rfl ?_
        refine o_nil ?_
        refine s_seq ?_
        refine s_region ?_
        refine o_q (q_mv ((by first | exact v_raw rfl | exact v_sptr rfl))) rfl rfl rfl ?_
        refine o_call ((down_at (hT.a.le (leU (leU (leU (Mem.le_refl Mc) hB1) hB1) hB1)))) goes29 (ac ((by first | exact v_raw rfl | exact v_sptr rfl)) ac_nil) rfl ?_
        refine o_q (q_as (v_raw rfl)) rfl rfl rfl ?_
        refine o_nil ?_
        refine s_seq ?_
        refine s_region ?_
        refine o_q (q_mv ((by first | exact v_raw rfl | exact v_sptr rfl))) rfl rfl rfl ?_
        refine o_q (q_ldmw ag42 sz42 rfl (by repeat first | exact Mem.upd_self _ _ _ | assumption | refine Mem.upd_ne (by assumption) ?_) rfl rfl) rfl rfl rfl ?_
        refine o_callx ((snd30 _ da (2 * i) sa OA W (hT.a.le (leU (leU (leU (Mem.le_refl Mc) hB1) hB1) hB1)) (by omega) (cutD deeds[i]) (show okDe (cutD deeds[i]) from hde deeds[i] (List.getElem_mem hil)) c z e)) goes30 (ac ((by first | exact v_raw rfl | exact v_sptr rfl)) (ac (v_agg rfl) ac_nil)) rfl ?_
        rintro r4 M4 ⟨rfl, hA4⟩
        obtain ⟨OA4, W4, hT4⟩ := (hT.le (leU (leU (leU (Mem.le_refl Mc) hB1) hB1) hB1)).stepA (Nat.le_succ _) hA4
        have hM4 : M4 B1 = some (.cells [int deeds[i].kind, str deeds[i].a, str (deeds[i].b.extract 0 (min deeds[i].b.size 1000)), int deeds[i].n, .raw (.slice deeds[i].kb deeds[i].kn deeds[i].kc)]) := (hA4.keep (by rw [Mem.upd_self]; exact fun h => by cases h) (fun h => hT.a.own.2 B1 (hT.a.own.1 B1 h) hB1)).trans (Mem.upd_self _ _ _)
        refine o_q (q_as (v_raw rfl)) rfl rfl rfl ?_
        refine o_nil ?_
        refine s_seq ?_
        refine s_seq ?_
        refine s_cut (fun S => ∃ T, S = ⟨setT (setT (setT (setT (setT (setT (setT (setT (setT (setT T 0 (int fu)) 1 (.sl (deeds.map encDe) own)) 5 (bool true)) 6 (ptr da)) 8 (ptr db)) 10 (int dn)) 11 (int (i : Nat))) 12 (ptr B1)) 14 (int c)) 82 (bool false), M4⟩) ?_ ?_
        · skip
          refine s_region ?_
          refine o_q (q_mv (v_raw rfl)) rfl rfl rfl ?_
          refine o_q (q_mv (v_raw rfl)) rfl rfl rfl ?_
          refine o_q (q_eql rfl rfl) rfl rfl rfl ?_
          refine o_q (q_bneq und4 rfl rfl) rfl rfl rfl ?_
          refine o_q (q_mv (v_raw rfl)) rfl rfl rfl ?_
          refine o_cases (want := true) (j := 4) rfl rfl (fun h3 => ?_) (fun h3 => ?_)
          · have k3 := h3; try simp only [decide_eq_true_eq, decide_eq_false_iff_not, Bool.not_eq_true', Bool.not_eq_false', Bool.not_true, Bool.not_false, List.length_map, Decidable.not_not] at k3
            refine o_yes rfl rfl rfl h3 ?_
            refine o_q (q_mv (v_raw rfl)) rfl rfl rfl ?_
            refine o_yes rfl rfl rfl h3 ?_
            refine o_q (q_mv (v_raw rfl)) rfl rfl rfl ?_
            refine o_yes rfl rfl rfl h3 ?_
            refine o_q (q_lss rfl rfl) rfl rfl rfl ?_
            refine o_q (q_pick_c (t := true) rfl h3 (v_raw rfl)) rfl rfl rfl ?_
            refine o_nil ?_
            refine s_inv ?_
            exact ⟨_, St.mkT (kp (kp (kp (kp (kp (kp (kp (kp (kp (kp rfl rfl) rfl) rfl) rfl) rfl) rfl) rfl) rfl) rfl) (congrArg bool (by rcases hs1 with ⟨q1, q2⟩ | ⟨q1, q2⟩ | q3 <;> first | exact decide_eq_false (by omega) | (exfalso; simp_all)))).symm⟩
          · have k3 := h3; try simp only [decide_eq_true_eq, decide_eq_false_iff_not, Bool.not_eq_true', Bool.not_eq_false', Bool.not_true, Bool.not_false, List.length_map, Decidable.not_not] at k3
            refine o_no rfl rfl rfl rfl h3 ?_
            refine o_no rfl rfl rfl rfl h3 ?_
            refine o_no rfl rfl rfl rfl h3 ?_
            refine o_q (q_pick_c (t := false) rfl h3 (v_raw rfl)) rfl rfl rfl ?_
            refine o_nil ?_
            refine s_inv ?_
            exact ⟨_, St.mkT (kp (kp (kp (kp (kp (kp (kp (kp (kp (kp rfl rfl) rfl) rfl) rfl) rfl) rfl) rfl) rfl) rfl) rfl).symm⟩
        rintro S ⟨T, rfl⟩
        refine s_cond rfl (fun h4 => ?_) (fun h4 => ?_)
        · have k4 := h4; try simp only [decide_eq_true_eq, decide_eq_false_iff_not, Bool.not_eq_true', Bool.not_eq_false', Bool.not_true, Bool.not_false, List.length_map, Decidable.not_not] at k4
          cases h4
        · have k4 := h4; try simp only [decide_eq_true_eq, decide_eq_false_iff_not, Bool.not_eq_true', Bool.not_eq_false', Bool.not_true, Bool.not_false, List.length_map, Decidable.not_not] at k4
          refine s_skip ?_
          refine s_seq ?_
          refine s_region ?_
          refine o_q (q_mv (v_raw rfl)) rfl rfl rfl ?_
          refine o_q (q_eql rfl rfl) rfl rfl rfl ?_
          refine o_nil ?_
          refine s_cond rfl (fun h5 => ?_) (fun h5 => ?_)
          · have k5 := h5; try simp only [decide_eq_true_eq, decide_eq_false_iff_not, Bool.not_eq_true', Bool.not_eq_false', Bool.not_true, Bool.not_false, List.length_map, Decidable.not_not] at k5
            obtain ⟨zb, eb, hF2⟩ := hs3 k5
            refine s_seq ?_
            refine s_region ?_
            refine o_q (q_mv (v_raw rfl)) rfl rfl rfl ?_
            refine o_q (q_add rfl rfl (wrap64 (by omega) (by omega))) rfl rfl rfl ?_
            refine o_q (q_as (v_raw rfl)) rfl rfl rfl ?_
            refine o_nil ?_
            refine s_seq ?_
            refine s_region ?_
            refine o_q (q_mv ((by first | exact v_raw rfl | exact v_sptr rfl))) rfl rfl rfl ?_
            refine o_q (q_ldm ag42 sz42 rfl (by repeat first | exact Mem.upd_self _ _ _ | assumption | refine Mem.upd_ne (by assumption) ?_) rfl (v_agg rfl)) rfl rfl rfl ?_
            refine o_callx ((snd30 _ db (2 * i + 1) sb OB W4 hT4.b (by omega) (cutD deeds[i]) (show okDe (cutD deeds[i]) from hde deeds[i] (List.getElem_mem hil)) 0 zb eb)) goes30 (ac ((by first | exact v_raw rfl | exact v_sptr rfl)) (ac (v_agg rfl) ac_nil)) rfl ?_
            rintro r5 M5 ⟨rfl, hA5⟩
            obtain ⟨OB5, W5, hT5⟩ := hT4.stepB (Nat.le_succ _) hA5
            refine o_q (q_neq rfl rfl) rfl rfl rfl ?_
            refine o_nil ?_
            refine s_cond rfl (fun h6 => ?_) (fun h6 => ?_)
            · have k6 := h6; try simp only [decide_eq_true_eq, decide_eq_false_iff_not, Bool.not_eq_true', Bool.not_eq_false', Bool.not_true, Bool.not_false, List.length_map, Decidable.not_not] at k6
              cases h6
            · have k6 := h6; try simp only [decide_eq_true_eq, decide_eq_false_iff_not, Bool.not_eq_true', Bool.not_eq_false', Bool.not_true, Bool.not_false, List.length_map, Decidable.not_not] at k6
              refine s_skip ?_
              refine s_blk_normal ?_
              refine s_region ?_
              refine o_q (q_mv (v_raw rfl)) rfl rfl rfl ?_
              refine o_q (q_add rfl rfl (wrap64 (by omega) (by omega))) rfl rfl rfl ?_
              refine o_q (q_as (v_raw rfl)) rfl rfl rfl ?_
              refine o_nil ?_
              refine s_inv ?_
              exact ⟨50 - (i + 1), by omega, _, M5, z, zb, OA4, OB5, W5, dn + 1, i + 1, St.mkT (kp (kp (kp (kp (kp (kp (kp rfl rfl) rfl) rfl) rfl) rfl) rfl) rfl).symm, hT5.up (by omega), hF2, by omega, rfl⟩
          · have k5 := h5; try simp only [decide_eq_true_eq, decide_eq_false_iff_not, Bool.not_eq_true', Bool.not_eq_false', Bool.not_true, Bool.not_false, List.length_map, Decidable.not_not] at k5
            refine s_skip ?_
            refine s_blk_normal ?_
            refine s_region ?_
            refine o_q (q_mv (v_raw rfl)) rfl rfl rfl ?_
            refine o_q (q_add rfl rfl (wrap64 (by omega) (by omega))) rfl rfl rfl ?_
            refine o_q (q_as (v_raw rfl)) rfl rfl rfl ?_
            refine o_nil ?_
            refine s_inv ?_
            exact ⟨50 - (i + 1), by omega, _, M4, z, sb, OA4, OB, W4, dn, i + 1, St.mkT (kp (kp (kp (kp (kp (kp (kp rfl rfl) rfl) rfl) rfl) rfl) rfl) rfl).symm, hT4.up (by omega), hs2 (by assumption), by omega, rfl⟩
      · have k2 := h2; try simp only [decide_eq_true_eq, decide_eq_false_iff_not, Bool.not_eq_true', Bool.not_eq_false', Bool.not_true, Bool.not_false, List.length_map, Decidable.not_not] at k2
        refine s_exit ?_
        refine s_code_exit ?_
        refine s_inv_exit ?_
        refine s_blk_here ?_
        refine s_inv ?_
        exact ⟨_, Mc, sa, sb, OA, OB, W, dn, i, St.mkT (kp (kp (kp (kp (kp (kp (kp rfl rfl) rfl) rfl) rfl) rfl) rfl) rfl).symm, hT, hF, hi⟩
    · have k1 := h1; try simp only [decide_eq_true_eq, decide_eq_false_iff_not, Bool.not_eq_true', Bool.not_eq_false', Bool.not_true, Bool.not_false, List.length_map, Decidable.not_not] at k1
      refine o_no rfl rfl rfl rfl h1 ?_
      refine o_no rfl rfl rfl rfl h1 ?_
      refine o_q (q_pick_c (t := false) rfl h1 (v_raw rfl)) rfl rfl rfl ?_
      refine o_nil ?_
      refine s_else rfl rfl ?_
      refine s_exit ?_
      refine s_code_exit ?_
      refine s_inv_exit ?_
      refine s_blk_here ?_
      refine s_inv ?_
      exact ⟨_, Mc, sa, sb, OA, OB, W, dn, i, St.mkT (kp (kp (kp (kp (kp (kp (kp rfl rfl) rfl) rfl) rfl) rfl) rfl) rfl).symm, hT, hF, hi⟩
  rintro S ⟨T, Mc, sa, sb, OA, OB, W, dn, i, rfl, hT, hF, hi⟩
  have hle := hF.le
  have hup := hF.up
  have hdn := hF.dn
  refine s_seq ?_
  refine s_seq ?_
  refine s_cut (fun S => ∃ T, S = ⟨setT (setT (setT (setT T 5 (bool true)) 6 (ptr da)) 8 (ptr db)) 102 (bool false), Mc⟩) ?_ ?_
  · skip
    refine s_region ?_
    refine o_q (q_mv (v_raw rfl)) rfl rfl rfl ?_
    refine o_q (q_mv (v_raw rfl)) rfl rfl rfl ?_
    refine o_q (q_gtr rfl rfl) rfl rfl rfl ?_
    refine o_q (q_mv (v_raw rfl)) rfl rfl rfl ?_
    refine o_cases (want := false) (j := 3) rfl rfl (fun h7 => ?_) (fun h7 => ?_)
    · have k7 := h7; try simp only [decide_eq_true_eq, decide_eq_false_iff_not, Bool.not_eq_true', Bool.not_eq_false', Bool.not_true, Bool.not_false, List.length_map, Decidable.not_not] at k7
      refine o_yes rfl rfl rfl h7 ?_
      refine o_q (q_mv ((by first | exact v_raw rfl | exact v_sptr rfl))) rfl rfl rfl ?_
      refine o_yes rfl rfl rfl h7 ?_
      refine o_call ((down_at hT.a)) goes29 (ac ((by first | exact v_raw rfl | exact v_sptr rfl)) ac_nil) rfl ?_
      refine o_yes rfl rfl rfl h7 ?_
      refine o_q (q_mv (v_raw rfl)) rfl rfl rfl ?_
      refine o_cases (want := true) (j := 6) rfl rfl (fun h8 => ?_) (fun h8 => ?_)
      · have k8 := h8; try simp only [decide_eq_true_eq, decide_eq_false_iff_not, Bool.not_eq_true', Bool.not_eq_false', Bool.not_true, Bool.not_false, List.length_map, Decidable.not_not] at k8
        refine o_yes rfl rfl rfl h8 ?_
        refine o_q (q_mv (v_raw rfl)) rfl rfl rfl ?_
        refine o_yes rfl rfl rfl h8 ?_
        refine o_q (q_mv (v_raw rfl)) rfl rfl rfl ?_
        refine o_yes rfl rfl rfl h8 ?_
        refine o_q (q_neq rfl rfl) rfl rfl rfl ?_
        refine o_yes rfl rfl rfl h7 ?_
        refine o_q (q_pick_c (t := true) rfl h8 (v_raw rfl)) rfl rfl rfl ?_
        refine o_q (q_pick_c (t := false) rfl h7 (v_raw rfl)) rfl rfl rfl ?_
        refine o_nil ?_
        refine s_inv ?_
        exact ⟨_, St.mkT (kp (kp (kp (kp rfl rfl) rfl) rfl) (congrArg bool (by first | rfl | (rw [hdn (by assumption)]; simp)))).symm⟩
      · have k8 := h8; try simp only [decide_eq_true_eq, decide_eq_false_iff_not, Bool.not_eq_true', Bool.not_eq_false', Bool.not_true, Bool.not_false, List.length_map, Decidable.not_not] at k8
        refine o_no rfl rfl rfl rfl h8 ?_
        refine o_no rfl rfl rfl rfl h8 ?_
        refine o_no rfl rfl rfl rfl h8 ?_
        refine o_yes rfl rfl rfl h7 ?_
        refine o_q (q_pick_c (t := false) rfl h8 (v_raw rfl)) rfl rfl rfl ?_
        refine o_q (q_pick_c (t := false) rfl h7 (v_raw rfl)) rfl rfl rfl ?_
        refine o_nil ?_
        refine s_inv ?_
        exact ⟨_, St.mkT (kp (kp (kp (kp rfl rfl) rfl) rfl) (congrArg bool (by first | rfl | (rw [hdn (by assumption)]; simp)))).symm⟩
    · have k7 := h7; try simp only [decide_eq_true_eq, decide_eq_false_iff_not, Bool.not_eq_true', Bool.not_eq_false', Bool.not_true, Bool.not_false, List.length_map, Decidable.not_not] at k7
      omega
  rintro S ⟨T, rfl⟩
  refine s_cond rfl (fun h9 => ?_) (fun h9 => ?_)
  · have k9 := h9; try simp only [decide_eq_true_eq, decide_eq_false_iff_not, Bool.not_eq_true', Bool.not_eq_false', Bool.not_true, Bool.not_false, List.length_map, Decidable.not_not] at k9
    cases h9
  · have k9 := h9; try simp only [decide_eq_true_eq, decide_eq_false_iff_not, Bool.not_eq_true', Bool.not_eq_false', Bool.not_true, Bool.not_false, List.length_map, Decidable.not_not] at k9
    refine s_skip ?_
    refine s_seq ?_
    refine s_region ?_
    refine o_makeSlice und22 sz3 by3 zc3 rfl (by decide) rfl rfl (by omega) (by omega) (by omega) (by omega) (fun B2 hB2 => ?_)
    refine o_q (q_as (v_raw rfl)) rfl rfl rfl ?_
    refine o_nil ?_
    refine s_seq ?_
    refine s_seq ?_
    refine s_region ?_
    refine o_q (q_as (v_raw rfl)) rfl rfl rfl ?_
    refine o_nil ?_
    refine s_block ?_
    refine s_loop (fun m S => ∃ T Mk, ∃ j : Nat, S = ⟨setT (setT (setT (setT (setT T 5 (bool true)) 6 (ptr da)) 8 (ptr db)) 15 (.raw (.slice (some ⟨B2, 0, none⟩) 60 60))) 16 (int (j : Nat)), Mk⟩ ∧ Mk = Mc.upd B2 (.cells ((kL j).map int)) ∧ j ≤ 60 ∧ m = 60 - j) 60 ?_ ?_
    · exact ⟨_, _, 0, St.mkT (kp (kp (kp (kp (kp rfl rfl) rfl) rfl) rfl) rfl).symm, rfl, by decide, rfl⟩
    rintro m S ⟨T, Mk, j, rfl, rfl, hj, rfl⟩
    refine s_seq ?_
    refine s_seq ?_
    refine s_region ?_
    refine o_q (q_mv (v_raw rfl)) rfl rfl rfl ?_
    refine o_q (q_lss rfl rfl) rfl rfl rfl ?_
    refine o_nil ?_
    refine s_cond rfl (fun h10 => ?_) (fun h10 => ?_)
    · have k10 := h10; try simp only [decide_eq_true_eq, decide_eq_false_iff_not, Bool.not_eq_true', Bool.not_eq_false', Bool.not_true, Bool.not_false, List.length_map, Decidable.not_not] at k10
      refine s_skip ?_
      refine s_seq ?_
      refine s_block ?_
      refine s_region ?_
      refine o_q (q_mv (v_raw rfl)) rfl rfl rfl ?_
      refine o_q (q_mv (v_raw rfl)) rfl rfl rfl ?_
      refine o_q (q_idxr und22 sz3 rfl rfl (by omega) (by omega)) rfl rfl rfl ?_
      refine o_store rfl (by repeat first | exact Mem.upd_self _ _ _ | assumption | refine Mem.upd_ne (by assumption) ?_) (by first | exact e_raw rfl | exact e_agg rfl | exact e_sl rfl | rfl) rfl sz3 rfl (by rw [List.length_map, kL_len hj]; omega) rfl (spK (by omega)) ?_
      refine o_nil ?_
      refine s_blk_normal ?_
      refine s_region ?_
      refine o_q (q_mv (v_raw rfl)) rfl rfl rfl ?_
      refine o_q (q_add rfl rfl (wrap64 (by omega) (by omega))) rfl rfl rfl ?_
      refine o_q (q_as (v_raw rfl)) rfl rfl rfl ?_
      refine o_nil ?_
      refine s_inv ?_
      exact ⟨60 - (j + 1), by omega, _, _, j + 1, St.mkT (kp (kp (kp (kp (kp rfl rfl) rfl) rfl) rfl) rfl).symm, Mem.upd_upd _ _ _ _, by omega, rfl⟩
    · have k10 := h10; try simp only [decide_eq_true_eq, decide_eq_false_iff_not, Bool.not_eq_true', Bool.not_eq_false', Bool.not_true, Bool.not_false, List.length_map, Decidable.not_not] at k10
      have hj60 : j = 60 := by omega
      subst hj60
      refine s_exit ?_
      refine s_code_exit ?_
      refine s_inv_exit ?_
      refine s_blk_here ?_
      refine s_seq ?_
      refine s_region ?_
      refine o_q (q_mv ((by first | exact v_raw rfl | exact v_sptr rfl))) rfl rfl rfl ?_
      refine o_q (q_mv (v_raw rfl)) rfl rfl rfl ?_
      refine o_callx ((SoundCall.freeze (a1 := [ptr da, int 1000]) (a2 := []) (l := (kL 60).map int) (Mem.upd_self _ _ _) (fun X hX => by obtain ⟨z, -, rfl⟩ := List.mem_map.1 hX; rfl) (by rw [List.length_map, kL_len (Nat.le_refl 60)]; exact Nat.le_refl 60) (by rw [del_upd hB2]; exact crash_at hT.a (by omega) (by decide) kL_bd (show sa.crash 1000 (kL 60) = sa.crash 1000 K60 by rw [kL60])))) goes15 (ac ((by first | exact v_raw rfl | exact v_sptr rfl)) (ac (v_raw rfl) (ac (v_raw rfl) ac_nil))) rfl ?_
      rintro r6 M6 hA6
      obtain ⟨OA6, W6, hT6⟩ := hT.stepA (Nat.le_refl _) hA6
      obtain ⟨hfl, hfr⟩ := fuse_fin hT.a (by omega) ⟨hF.sm.un, Nat.le_trans hF.sm.nd hi⟩
      have hdl := hT.a.gd.len
      refine o_nil ?_
      refine s_seq ?_
      refine s_region ?_
      refine o_q (q_mv ((by first | exact v_raw rfl | exact v_sptr rfl))) rfl rfl rfl ?_
      refine o_call ((list_at hT6.a hfl)) goes28 (ac ((by first | exact v_raw rfl | exact v_sptr rfl)) ac_nil) rfl ?_
      refine o_q (q_mv (v_tup rfl)) rfl rfl rfl ?_
      refine o_q (q_ext rfl rfl (v_sl rfl)) rfl rfl rfl ?_
      refine o_q (q_ext rfl rfl (v_raw rfl)) rfl rfl rfl ?_
      refine o_q (q_as (v_sl rfl)) rfl rfl rfl ?_
      refine o_q (q_as (v_raw rfl)) rfl rfl rfl ?_
      refine o_nil ?_
      refine s_seq ?_
      refine s_region ?_
      refine o_q (q_mv ((by first | exact v_raw rfl | exact v_sptr rfl))) rfl rfl rfl ?_
      refine o_call ((list_at hT6.b (show sb.list = (sa.dir.map (·.1), 0) by rw [hF.eb]; rfl))) goes28 (ac ((by first | exact v_raw rfl | exact v_sptr rfl)) ac_nil) rfl ?_
      refine o_q (q_mv (v_tup rfl)) rfl rfl rfl ?_
      refine o_q (q_ext rfl rfl (v_sl rfl)) rfl rfl rfl ?_
      refine o_q (q_ext rfl rfl (v_raw rfl)) rfl rfl rfl ?_
      refine o_q (q_as (v_sl rfl)) rfl rfl rfl ?_
      refine o_q (q_as (v_raw rfl)) rfl rfl rfl ?_
      refine o_nil ?_
      refine s_seq ?_
      refine s_region ?_
      refine o_q (q_mv (v_sl rfl)) rfl rfl rfl ?_
      refine o_q (q_mv (v_sl rfl)) rfl rfl rfl ?_
      refine o_call ((texts_same (sa.dir.map (·.1)) false false _ (by rw [List.length_map]; omega))) goes31 (ac (v_sl rfl) (ac (v_sl rfl) ac_nil)) rfl ?_
      refine o_q (q_as (v_raw rfl)) rfl rfl rfl ?_
      refine o_nil ?_
      refine s_seq ?_
      refine s_seq ?_
      refine s_cut (fun S => ∃ T, S = ⟨setT (setT (setT (setT (setT T 5 (bool true)) 6 (ptr da)) 8 (ptr db)) 17 (.sl ((sa.dir.map (·.1)).map str) false)) 136 (bool false), M6⟩) ?_ ?_
      · skip
        refine s_region ?_
        refine o_q (q_mv (v_raw rfl)) rfl rfl rfl ?_
        refine o_q (q_not rfl) rfl rfl rfl ?_
        refine o_q (q_mv (v_raw rfl)) rfl rfl rfl ?_
        refine o_yes rfl rfl rfl rfl ?_
        refine o_q (q_mv (v_raw rfl)) rfl rfl rfl ?_
        refine o_yes rfl rfl rfl rfl ?_
        refine o_q (q_neq rfl rfl) rfl rfl rfl ?_
        refine o_q (q_pick_c (t := false) rfl rfl (v_raw rfl)) rfl rfl rfl ?_
        refine o_q (q_mv (v_raw rfl)) rfl rfl rfl ?_
        refine o_yes rfl rfl rfl rfl ?_
        refine o_q (q_mv (v_raw rfl)) rfl rfl rfl ?_
        refine o_yes rfl rfl rfl rfl ?_
        refine o_q (q_neq rfl rfl) rfl rfl rfl ?_
        refine o_q (q_pick_c (t := false) rfl rfl (v_raw rfl)) rfl rfl rfl ?_
        refine o_nil ?_
        refine s_inv ?_
        exact ⟨_, St.mkT (kp (kp (kp (kp (kp rfl rfl) rfl) rfl) rfl) (congrArg bool (by first | rfl | decide))).symm⟩
      rintro S ⟨T, rfl⟩
      refine s_else rfl rfl ?_
      refine s_skip ?_
      refine s_seq ?_
      refine s_seq ?_
      refine s_region ?_
      refine o_q (q_as (v_raw rfl)) rfl rfl rfl ?_
      refine o_nil ?_
      refine s_block ?_
      refine s_loop (fun m S => ∃ T, ∃ p : Nat, S = ⟨setT (setT (setT (setT (setT T 5 (bool true)) 6 (ptr da)) 8 (ptr db)) 17 (.sl ((sa.dir.map (·.1)).map str) false)) 22 (int (p : Nat)), M6⟩ ∧ p ≤ sa.dir.length ∧ m = sa.dir.length - p) sa.dir.length ?_ ?_
      · exact ⟨_, 0, St.mkT (kp (kp (kp (kp (kp rfl rfl) rfl) rfl) rfl) rfl).symm, Nat.zero_le _, rfl⟩
      rintro m S ⟨T, p, rfl, hpl, rfl⟩
      refine s_seq ?_
      refine s_seq ?_
      refine s_region ?_
      refine o_q (q_mv (v_raw rfl)) rfl rfl rfl ?_
      refine o_q (q_mv (v_sl rfl)) rfl rfl rfl ?_
      refine o_q (q_len rfl und49 rfl) rfl rfl rfl ?_
      refine o_q (q_lss rfl rfl) rfl rfl rfl ?_
      refine o_nil ?_
      refine s_cond rfl (fun h11 => ?_) (fun h11 => ?_)
      · have k11 := h11; try simp only [decide_eq_true_eq, decide_eq_false_iff_not, Bool.not_eq_true', Bool.not_eq_false', Bool.not_true, Bool.not_false, List.length_map, Decidable.not_not] at k11
        have hp2 : p < sa.dir.length := by omega
        have hpm : p < (sa.dir.map (·.1)).length := by rw [List.length_map]; exact hp2
        have hgp : gets sa.dir ((sa.dir.map (·.1))[p]'hpm) = some sa.dir[p].2 := by rw [List.getElem_map]; exact (gets_iff hT.a.gd.srt.nd).2 (List.getElem_mem hp2)
        refine s_skip ?_
        refine s_seq ?_
        refine s_block ?_
        refine s_seq ?_
        refine s_region ?_
        refine o_q (q_mv ((by first | exact v_raw rfl | exact v_sptr rfl))) rfl rfl rfl ?_
        refine o_q (q_mv (v_sl rfl)) rfl rfl rfl ?_
        refine o_q (q_mv (v_raw rfl)) rfl rfl rfl ?_
        refine o_q (q_idx und49 sz9 rfl rfl (by omega) (gm p (by first | omega | simp)) rfl) rfl rfl rfl ?_
        refine o_q (q_ld ag9 sz9 rfl (gm p (by first | omega | simp)) rfl (v_raw rfl)) rfl rfl rfl ?_
        refine o_call ((read_at hT6.a (hfr _ _ hgp))) goes16 (ac ((by first | exact v_raw rfl | exact v_sptr rfl)) (ac (v_raw rfl) ac_nil)) rfl ?_
        refine o_q (q_mv (v_tup rfl)) rfl rfl rfl ?_
        refine o_q (q_ext rfl rfl (v_raw rfl)) rfl rfl rfl ?_
        refine o_q (q_ext rfl rfl (v_raw rfl)) rfl rfl rfl ?_
        refine o_q (q_as (v_raw rfl)) rfl rfl rfl ?_
        refine o_q (q_as (v_raw rfl)) rfl rfl rfl ?_
        refine o_nil ?_
        refine s_seq ?_
        refine s_region ?_
        refine o_q (q_mv ((by first | exact v_raw rfl | exact v_sptr rfl))) rfl rfl rfl ?_
        refine o_q (q_mv (v_sl rfl)) rfl rfl rfl ?_
        refine o_q (q_mv (v_raw rfl)) rfl rfl rfl ?_
        refine o_q (q_idx und49 sz9 rfl rfl (by omega) (gm p (by first | omega | simp)) rfl) rfl rfl rfl ?_
        refine o_q (q_ld ag9 sz9 rfl (gm p (by first | omega | simp)) rfl (v_raw rfl)) rfl rfl rfl ?_
        refine o_call ((read_at (tx := ⟨(sa.now sa.dir[p].2).toArray⟩) (k := 0) hT6.b (by rw [hF.eb]; exact read_up hgp))) goes16 (ac ((by first | exact v_raw rfl | exact v_sptr rfl)) (ac (v_raw rfl) ac_nil)) rfl ?_
        refine o_q (q_mv (v_tup rfl)) rfl rfl rfl ?_
        refine o_q (q_ext rfl rfl (v_raw rfl)) rfl rfl rfl ?_
        refine o_q (q_ext rfl rfl (v_raw rfl)) rfl rfl rfl ?_
        refine o_q (q_as (v_raw rfl)) rfl rfl rfl ?_
        refine o_q (q_as (v_raw rfl)) rfl rfl rfl ?_
        refine o_nil ?_
        refine s_seq ?_
        refine s_region ?_
        refine o_q (q_mv (v_raw rfl)) rfl rfl rfl ?_
        refine o_q (q_mv (v_raw rfl)) rfl rfl rfl ?_
        refine o_q (q_sneq rfl rfl) rfl rfl rfl ?_
        refine o_nil ?_
        refine s_cond rfl (fun h12 => ?_) (fun h12 => ?_)
        · have k12 := h12; try simp only [decide_eq_true_eq, decide_eq_false_iff_not, Bool.not_eq_true', Bool.not_eq_false', Bool.not_true, Bool.not_false, List.length_map, Decidable.not_not] at k12
          first | exact absurd rfl k12 | exact absurd trivial k12
        · have k12 := h12; try simp only [decide_eq_true_eq, decide_eq_false_iff_not, Bool.not_eq_true', Bool.not_eq_false', Bool.not_true, Bool.not_false, List.length_map, Decidable.not_not] at k12
          refine s_skip ?_
          refine s_blk_normal ?_
          refine s_region ?_
          refine o_q (q_mv (v_raw rfl)) rfl rfl rfl ?_
          refine o_q (q_add rfl rfl (wrap64 (by omega) (by omega))) rfl rfl rfl ?_
          refine o_q (q_as (v_raw rfl)) rfl rfl rfl ?_
          refine o_nil ?_
          refine s_inv ?_
          exact ⟨sa.dir.length - (p + 1), by omega, _, p + 1, St.mkT (kp (kp (kp (kp (kp rfl rfl) rfl) rfl) rfl) rfl).symm, by omega, rfl⟩
      · have k11 := h11; try simp only [decide_eq_true_eq, decide_eq_false_iff_not, Bool.not_eq_true', Bool.not_eq_false', Bool.not_true, Bool.not_false, List.length_map, Decidable.not_not] at k11
        refine s_exit ?_
        refine s_code_exit ?_
        refine s_inv_exit ?_
        refine s_blk_here ?_
        refine s_seq ?_
        refine s_region ?_
        refine o_q (q_mv (v_raw rfl)) rfl rfl rfl ?_
        refine o_q (q_as (v_raw rfl)) rfl rfl rfl ?_
        refine o_nil ?_
        refine s_ret ?_
        refine s_end ?_
        exact ⟨rfl, le0 _⟩
end C04
