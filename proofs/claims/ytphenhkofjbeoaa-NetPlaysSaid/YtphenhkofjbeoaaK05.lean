import Derived.Test.YtphenhkofjbeoaaJ05
import Derived.Test.YtphenhkofjbeoaaProg
/-! Chapter 5: the net: what its functions compute. -/
open Go Go.Proofs Go.Am
set_option linter.unusedVariables false
set_option linter.unusedSimpArgs false
set_option autoImplicit false
namespace C05
theorem ag38 : aggT Try.prog 38 = some true := by kernel_rfl
theorem fo38_0 : fo Try.prog 38 0 = some (0, 1) := by kernel_rfl
theorem fo38_3 : fo Try.prog 38 3 = some (3, 1) := by kernel_rfl
theorem und42 : Try.prog.underlying 42 = some (.pointer 54) := by kernel_rfl
theorem zc38 : zeroCellsT Try.prog 38 = some [.raw (.int .i64 0), .raw (.int .i64 0), .raw (.int .i64 0), .raw (.int .i64 0), .raw (.string { data := #[] })] := by kernel_rfl
def tk6 : Nat → Nat → Option Nat := fun _ _ => none
def pl6 : Nat → List PStep
  | 14 => [.q 0, .q 1, .q 2, .q 3, .q 4, .q 6, .q 7, .q 8, .q 9, .q 10, .s 5 [10, 9, 8, 7, 6, 3, 1], .s 11 [9, 7, 4, 3, 2, 1, 0], .q 12, .q 13]
  | 16 => [.q 0, .q 1, .q 2, .q 3, .q 4, .q 5, .q 6, .q 8, .q 9, .q 10, .q 11, .q 12, .q 13, .q 14, .s 7 [14, 13, 12, 11, 10, 9, 8, 5, 3, 1], .s 15 [13, 11, 9, 6, 5, 4, 3, 2, 1, 0], .q 16, .q 17]
  | 22 => [.q 0, .q 1, .q 2, .q 3, .q 4, .q 5, .q 6, .q 8, .q 9, .q 10, .q 11, .q 12, .q 13, .q 14, .s 7 [14, 13, 12, 11, 10, 9, 8, 5, 3, 1], .s 15 [13, 11, 9, 6, 5, 4, 3, 2, 1, 0], .q 16, .q 17]
  | 24 => [.q 0, .q 1, .q 2, .q 3, .q 4, .q 5, .q 6, .q 8, .q 9, .q 10, .q 11, .q 12, .q 13, .q 14, .s 7 [14, 13, 12, 11, 10, 9, 8, 5, 3, 1], .s 15 [13, 11, 9, 6, 5, 4, 3, 2, 1, 0], .q 16, .q 17]
  | 31 => [.q 0, .q 1, .q 2, .q 3, .q 4, .q 5, .q 6, .q 7, .q 9, .q 10, .q 11, .q 12, .q 13, .s 8 [13, 12, 11, 10, 9, 6, 4, 1, 0], .s 14 [12, 10, 7, 6, 5, 4, 3, 1, 0], .q 15, .q 16]
  | _ => []
theorem cb6 : Try.f6.body.map (codeB Try.prog Try.f6.ntmps tk6 pl6) = some true := by kernel_rfl
theorem goes6 : goesB Try.prog 6 = true := by kernel_rfl
-- carillon/carillonlaw05.NetPlays params ['int', '[]carillonlaw05.Deed'] results [['t', 4]] own [] names ['0:n', '1:deeds', '2:n', '3:deeds', '5:head', '6:x', '7:e', '8:y', '9:i', '10:d', '11:good', '12:s', '13:ok', '14:t', '15:is'] calls [7, 9, 18] paths 1

theorem ref18 (N : Nat) (M : Mem) (hn : 1 ≤ N ∧ N ≤ 7) : SoundCall Try.prog 18 [int (N : Int)] M (fun r' M' => ∃ y L, r' = ptr y ∧ RefAt M' y L N 0 (fun _ => []) ∧ M.le M' ∧ M y = none ∧ M L = none) :=
  (snd18 (N : Int) M).mono fun r M' h => by
    rcases h with ⟨h, -⟩ | ⟨N', e, h⟩
    · exact absurd ⟨by omega, by omega⟩ h
    · obtain rfl : N = N' := by omega
      exact h
theorem ref18n (n : Int) (M : Mem) (hn : ¬ (1 ≤ n ∧ n ≤ 7)) : SoundCall Try.prog 18 [int n] M (fun r' M' => r' = .raw (.pointer none) ∧ M' = M) :=
  (snd18 n M).mono fun r M' h => by
    rcases h with ⟨-, h⟩ | ⟨N', e, y, L, -, h, -⟩
    · exact h
    · have := h.n7; exact absurd ⟨by omega, by omega⟩ hn
theorem NetO.le {M M' : Mem} {x : Nat} {n : Int} {side : Nat} {q : K2 → List ByteArray} {O : Nat → Prop} (h : NetO M x n side q O) (hle : M.le M') : NetO M' x n side q O := by
  obtain ⟨r, clk, l, hN, rfl⟩ := h
  refine ⟨r, clk, l, hN.keep fun c hc => ?_, rfl⟩
  cases hm : M c with
  | none => exact absurd hm (hN.own hc)
  | some o => exact hle c o hm
theorem RefAt.keep {M M' : Mem} {y L N side : Nat} {q : K2 → List ByteArray} (h : RefAt M y L N side q) (hy : M' y = M y) (hL : M' L = M L) : RefAt M' y L N side q :=
  { h with hy := by rw [hy]; exact h.hy
           hL := by rw [hL]; exact h.hL }
structure PlI (M Mc : Mem) (x y L N side : Nat) (q : K2 → List ByteArray) (O : Nat → Prop) : Prop where
  net : NetO Mc x (N : Int) side q O
  ref : RefAt Mc y L N side q
  oy : ¬ O y
  oL : ¬ O L
  out : ∀ c, O c → M c = none
  le : M.le Mc
  my : M y = none
  mL : M L = none
section
variable {M Mc M' : Mem} {x y L N side : Nat} {q q' : K2 → List ByteArray} {O O1 : Nat → Prop}
theorem PlI.ref1 (h : PlI M Mc x y L N side q O) (hC : Chg Mc M' O O1) : RefAt M' y L N side q :=
  h.ref.keep (hC.same y (by rw [h.ref.hy]; exact fun h => by cases h) h.oy) (hC.same L (by rw [h.ref.hL]; exact fun h => by cases h) h.oL)
theorem PlI.fin (h : PlI M Mc x y L N side q O) (hN : NetO M' x (N : Int) side q' O1) (hC : Chg Mc M' O O1) (hz : ∀ a b, okR N a b = false → q' (a, b) = []) : PlI M (M'.upd L (.cells (lk N q'))) x y L N side q' O1 :=
  have hy' : ¬ O1 y := (hC.keep h.ref.hy h.oy).2
  have hL' : ¬ O1 L := (hC.keep h.ref.hL h.oL).2
  ⟨hN.upd hL', (h.ref1 hC).setq hz hN.ql, hy', hL', hC.out h.le h.out, fun c o hc => (upd_other (fun e => by rw [e, h.mL] at hc; cases hc)).trans (hC.le h.le h.out c o hc), h.my, h.mL⟩
theorem PlI.cut (h : PlI M Mc x y L N side q O) {s : Nat} (hN : NetO M' x (N : Int) s q O1) (hC : Chg Mc M' O O1) (hs : s < 2 ^ 63) : PlI M (M'.upd y (.cells [int (N : Int), rsl L (N * N) (N * N), int (s : Int)])) x y L N s q O1 :=
  have hy' : ¬ O1 y := (hC.keep h.ref.hy h.oy).2
  have hL' : ¬ O1 L := (hC.keep h.ref.hL h.oL).2
  ⟨hN.upd hy', ⟨Mem.upd_self _ _ _, (upd_other h.ref.yL.symm).trans (h.ref1 hC).hL, h.ref.yL, h.ref.n7, h.ref.hz, h.ref.ql, hs⟩, hy', hL', hC.out h.le h.out, fun c o hc => (upd_other (fun e => by rw [e, h.my] at hc; cases hc)).trans (hC.le h.le h.out c o hc), h.my, h.mL⟩
theorem PlI.fresh2 (h : PlI M Mc x y L N side q O) {b : Nat} {o o' : AObj} (hb : Mc b = none) : PlI M ((Mc.upd b o).upd b o') x y L N side q O ∧ ¬ O b ∧ b ≠ y ∧ b ≠ L := by
  have h1 : ¬ O b := fun hO => h.net.own hO hb
  have h2 : b ≠ y := fun e => by have := h.ref.hy; rw [← e, hb] at this; cases this
  have h3 : b ≠ L := fun e => by have := h.ref.hL; rw [← e, hb] at this; cases this
  refine ⟨⟨(h.net.upd h1).upd h1, h.ref.keep ((upd_other h2.symm).trans (upd_other h2.symm)) ((upd_other h3.symm).trans (upd_other h3.symm)), h.oy, h.oL, h.out, fun c o2 hc => ?_, h.my, h.mL⟩, h1, h2, h3⟩
  have : c ≠ b := fun e => by rw [e] at hc; rw [h.le b o2 hc] at hb; cases hb
  rw [upd_other this, upd_other this]; exact h.le c o2 hc
theorem hz_send (hz : ∀ a b, okR N a b = false → q (a, b) = []) (a b : Int) (s : ByteArray) : ∀ a' b', okR N a' b' = false → sendQ N q a b s (a', b') = [] := fun a' b' h => by
  unfold sendQ
  split
  · rename_i hok
    unfold setQ
    rw [if_neg (fun e => by
      rw [Prod.mk.injEq] at e
      rw [okS_R, ← e.1, ← e.2, h] at hok
      cases hok)]
    exact hz a' b' h
  · exact hz a' b' h
theorem hz_at (hz : ∀ a b, okR N a b = false → q (a, b) = []) (a b i : Int) (f : Bool) : ∀ a' b', okR N a' b' = false → atQ q a b i f (a', b') = [] := fun a' b' h => by
  unfold atQ
  split
  · unfold setQ
    split
    · rename_i e
      rw [Prod.mk.injEq] at e
      rw [← e.1, ← e.2, hz a' b' h]; rfl
    · exact hz a' b' h
  · exact hz a' b' h
theorem hz_if (c : Bool) (h1 : ∀ a b, okR N a b = false → q (a, b) = []) (h2 : ∀ a b, okR N a b = false → q' (a, b) = []) : ∀ a b, okR N a b = false → (if c then q else q') (a, b) = [] := fun a b h => by
  cases c
  · exact h2 a b h
  · exact h1 a b h
theorem hz_clear (hz : ∀ a b, okR N a b = false → q (a, b) = []) (node : Int) : ∀ a b, okR N a b = false → clearQ q node (a, b) = [] := fun a b h => by
  unfold clearQ
  split
  · rfl
  · exact hz a b h
end
set_option maxHeartbeats 4000000 in
set_option maxRecDepth 20000 in
theorem snd6a (n : Int) (l : List De) (o : Bool) (M : Mem) (hl : l.length < 2 ^ 60) (hd : ∀ d ∈ l, okDe d) (hn : ¬ (1 ≤ n ∧ n ≤ 7)) : SoundCall Try.prog 6 [int n, .sl (l.map encDe) o] M fun r M' => r = bool true ∧ M.le M' := by
  refine SoundCall.go tk6 pl6 mixed Try.func6 cb6 rfl (Nat.le_of_ble_eq_true rfl) ?_
  refine s_seq ?_
  refine s_region ?_
  refine o_q (q_as (v_raw rfl)) rfl rfl rfl ?_
  refine o_nil ?_
  refine s_seq ?_
  refine s_region ?_
  refine o_call ((ex7 _)) goes7 ac_nil rfl ?_
  refine o_q (q_as (v_raw rfl)) rfl rfl rfl ?_
  refine o_nil ?_
  refine s_seq ?_
  refine s_region ?_
  refine o_q (q_mv (v_raw rfl)) rfl rfl rfl ?_
  refine o_callx ((new9n n _ hn)) goes9 (ac (v_raw rfl) ac_nil) rfl ?_
  rintro r' M' ⟨rfl, rfl⟩
  refine o_q (q_mv (v_tup rfl)) rfl rfl rfl ?_
  refine o_q (q_ext rfl rfl ((by first | exact v_raw rfl | exact v_sptr rfl))) rfl rfl rfl ?_
  refine o_q (q_ext rfl rfl (v_raw rfl)) rfl rfl rfl ?_
  refine o_q (q_as ((by first | exact v_raw rfl | exact v_sptr rfl))) rfl rfl rfl ?_
  refine o_q (q_as (v_raw rfl)) rfl rfl rfl ?_
  refine o_nil ?_
  refine s_seq ?_
  refine s_region ?_
  refine o_q (q_mv (v_raw rfl)) rfl rfl rfl ?_
  refine o_callx ((ref18n n _ hn)) goes18 (ac (v_raw rfl) ac_nil) rfl ?_
  rintro r' M' ⟨rfl, rfl⟩
  refine o_q (q_as ((by first | exact v_raw rfl | exact v_sptr rfl))) rfl rfl rfl ?_
  refine o_nil ?_
  refine s_seq ?_
  refine s_seq ?_
  refine s_region ?_
  refine o_q (q_mv ((by first | exact v_raw rfl | exact v_sptr rfl))) rfl rfl rfl ?_
  refine o_q (q_peql und42 rfl rfl) rfl rfl rfl ?_
  refine o_nil ?_
  refine s_then rfl rfl ?_
  refine s_seq ?_
  refine s_region ?_
  refine o_q (q_mv (v_raw rfl)) rfl rfl rfl ?_
  refine o_q (q_mv (v_raw rfl)) rfl rfl rfl ?_
  refine o_yes rfl rfl rfl rfl ?_
  refine o_q (q_mv ((by first | exact v_raw rfl | exact v_sptr rfl))) rfl rfl rfl ?_
  refine o_yes rfl rfl rfl rfl ?_
  refine o_q (q_peql und24 rfl rfl) rfl rfl rfl ?_
  refine o_q (q_pick_c (t := true) rfl rfl (v_raw rfl)) rfl rfl rfl ?_
  refine o_q (q_mv (v_raw rfl)) rfl rfl rfl ?_
  refine o_yes rfl rfl rfl rfl ?_
  refine o_q (q_mv (v_raw rfl)) rfl rfl rfl ?_
  refine o_yes rfl rfl rfl rfl ?_
  refine o_q (q_eql rfl rfl) rfl rfl rfl ?_
  refine o_q (q_pick_c (t := true) rfl rfl (v_raw rfl)) rfl rfl rfl ?_
  refine o_q (q_as (v_raw rfl)) rfl rfl rfl ?_
  refine o_nil ?_
  refine s_ret ?_
  refine s_code_ret ?_
  refine s_end ?_
  exact ⟨rfl, Mem.le_refl _⟩

-- carillon/carillonlaw05.NetPlays params ['int', '[]carillonlaw05.Deed'] results [['t', 4]] own [] names ['0:n', '1:deeds', '2:n', '3:deeds', '5:head', '6:x', '7:e', '8:y', '9:i', '10:d', '11:good', '12:s', '13:ok', '14:t', '15:is'] calls [7, 8, 9, 10, 11, 12, 13, 14, 15, 16, 17, 18, 19, 20, 21, 22, 23, 24, 25, 26, 27] paths 11
set_option maxHeartbeats 4000000 in
set_option maxRecDepth 20000 in
theorem snd6b (N : Nat) (l : List De) (o : Bool) (M : Mem) (hl : l.length < 2 ^ 60) (hd : ∀ d ∈ l, okDe d) (hn : 1 ≤ N ∧ N ≤ 7) : SoundCall Try.prog 6 [int (N : Int), .sl (l.map encDe) o] M fun r M' => r = bool true ∧ M.le M' := by
  refine SoundCall.go tk6 pl6 mixed Try.func6 cb6 rfl (Nat.le_of_ble_eq_true rfl) ?_
  refine s_seq ?_
  refine s_region ?_
  refine o_q (q_as (v_raw rfl)) rfl rfl rfl ?_
  refine o_nil ?_
  refine s_seq ?_
  refine s_region ?_
  refine o_call ((ex7 _)) goes7 ac_nil rfl ?_
  refine o_q (q_as (v_raw rfl)) rfl rfl rfl ?_
  refine o_nil ?_
  refine s_seq ?_
  refine s_region ?_
  refine o_q (q_mv (v_raw rfl)) rfl rfl rfl ?_
  refine o_callx ((new9 (N : Int) _ ⟨by omega, by omega⟩)) goes9 (ac (v_raw rfl) ac_nil) rfl ?_
  rintro r' M1 ⟨x, O0, rfl, hN0, hle0, hO0⟩
  refine o_q (q_mv (v_tup rfl)) rfl rfl rfl ?_
  refine o_q (q_ext rfl rfl ((by first | exact v_raw rfl | exact v_sptr rfl))) rfl rfl rfl ?_
  refine o_q (q_ext rfl rfl (v_raw rfl)) rfl rfl rfl ?_
  refine o_q (q_as ((by first | exact v_raw rfl | exact v_sptr rfl))) rfl rfl rfl ?_
  refine o_q (q_as (v_raw rfl)) rfl rfl rfl ?_
  refine o_nil ?_
  refine s_seq ?_
  refine s_region ?_
  refine o_q (q_mv (v_raw rfl)) rfl rfl rfl ?_
  refine o_callx ((ref18 N _ hn)) goes18 (ac (v_raw rfl) ac_nil) rfl ?_
  rintro r' M2 ⟨y, L, rfl, hR0, hle1, hy0, hL0⟩
  have hN0' : NetO M2 x (N : Int) 0 (fun _ => []) O0 := NetO.le hN0 hle1
  have hy1 : ¬ O0 y := fun h => hN0.own h hy0
  have hL1 : ¬ O0 L := fun h => hN0.own h hL0
  have nn : ∀ {b}, M1 b = none → M b = none := fun {b} h => by
    cases h2 : M b with
    | none => rfl
    | some o => rw [hle0 b o h2] at h; cases h
  have hP0 : PlI M M2 x y L N 0 (fun _ => []) O0 := ⟨hN0', hR0, hy1, hL1, hO0, Mem.le_trans hle0 hle1, nn hy0, nn hL0⟩
  refine o_q (q_as ((by first | exact v_raw rfl | exact v_sptr rfl))) rfl rfl rfl ?_
  refine o_nil ?_
  refine s_seq ?_
  refine s_seq ?_
  refine s_region ?_
  refine o_q (q_mv ((by first | exact v_raw rfl | exact v_sptr rfl))) rfl rfl rfl ?_
  refine o_q (q_peql und42 rfl rfl) rfl rfl rfl ?_
  refine o_nil ?_
  refine s_else rfl rfl ?_
  refine s_skip ?_
  refine s_seq ?_
  refine s_seq ?_
  refine s_region ?_
  refine o_q (q_mv ((by first | exact v_raw rfl | exact v_sptr rfl))) rfl rfl rfl ?_
  refine o_q (q_peql und24 rfl rfl) rfl rfl rfl ?_
  refine o_q (q_mv (v_raw rfl)) rfl rfl rfl ?_
  refine o_yes rfl rfl rfl rfl ?_
  refine o_q (q_mv (v_raw rfl)) rfl rfl rfl ?_
  refine o_yes rfl rfl rfl rfl ?_
  refine o_q (q_neq rfl rfl) rfl rfl rfl ?_
  refine o_q (q_pick_c (t := false) rfl rfl (v_raw rfl)) rfl rfl rfl ?_
  refine o_q (q_mv (v_raw rfl)) rfl rfl rfl ?_
  refine o_yes rfl rfl rfl rfl ?_
  refine o_q (q_mv ((by first | exact v_raw rfl | exact v_sptr rfl))) rfl rfl rfl ?_
  refine o_yes rfl rfl rfl rfl ?_
  refine o_call ((nodes19 hN0')) goes19 (ac ((by first | exact v_raw rfl | exact v_sptr rfl)) ac_nil) rfl ?_
  refine o_yes rfl rfl rfl rfl ?_
  refine o_q (q_mv (v_raw rfl)) rfl rfl rfl ?_
  refine o_yes rfl rfl rfl rfl ?_
  refine o_q (q_neq rfl rfl) rfl rfl rfl ?_
  refine o_q (q_pick_c (t := false) rfl rfl (v_raw rfl)) rfl rfl rfl ?_
  refine o_nil ?_
  refine s_else rfl (by simp) ?_
  refine s_skip ?_
  refine s_seq ?_
  refine s_seq ?_
  refine s_region ?_
  refine o_q (q_as (v_raw rfl)) rfl rfl rfl ?_
  refine o_nil ?_
  refine s_block ?_
  refine s_loop (fun m S => ∃ T Mc side q O, ∃ i : Nat, S = ⟨setT (setT (setT (setT (setT T 1 (.sl (l.map encDe) o)) 5 (bool true)) 6 (ptr x)) 8 (ptr y)) 9 (int (i : Nat)), Mc⟩ ∧ PlI M Mc x y L N side q O ∧ i ≤ l.length ∧ m = l.length - i) l.length ?_ ?_
  · exact ⟨_, _, 0, (fun _ => []), O0, 0, St.mkT (kp (kp (kp (kp (kp rfl rfl) rfl) rfl) rfl) rfl).symm, hP0, by omega, rfl⟩
  rintro m S ⟨T, Mc, side, q, O, i, rfl, hP1, hi, rfl⟩
  refine s_seq ?_
  refine s_seq ?_
  refine s_region ?_
  refine o_q (q_mv (v_raw rfl)) rfl rfl rfl ?_
  refine o_q (q_mv (v_sl rfl)) rfl rfl rfl ?_
  refine o_q (q_len rfl und35 rfl) rfl rfl rfl ?_
  refine o_q (q_lss rfl rfl) rfl rfl rfl ?_
  refine o_q (q_mv (v_raw rfl)) rfl rfl rfl ?_
  refine o_cases (want := true) (j := 4) rfl rfl (fun h1 => ?_) (fun h1 => ?_)
  · have k1 := h1; try simp only [decide_eq_true_eq, decide_eq_false_iff_not, Bool.not_eq_true', Bool.not_eq_false', Bool.not_true, Bool.not_false, List.length_map, Decidable.not_not] at k1
    refine o_yes rfl rfl rfl h1 ?_
    refine o_q (q_mv (v_raw rfl)) rfl rfl rfl ?_
    refine o_yes rfl rfl rfl h1 ?_
    refine o_q (q_lss rfl rfl) rfl rfl rfl ?_
    refine o_q (q_pick_c (t := true) rfl h1 (v_raw rfl)) rfl rfl rfl ?_
    refine o_nil ?_
    refine s_cond rfl (fun h2 => ?_) (fun h2 => ?_)
    · have k2 := h2; try simp only [decide_eq_true_eq, decide_eq_false_iff_not, Bool.not_eq_true', Bool.not_eq_false', Bool.not_true, Bool.not_false, List.length_map, Decidable.not_not] at k2
      have hdi := hd l[i] (List.getElem_mem _)
      refine s_skip ?_
      refine s_seq ?_
      refine s_block ?_
      refine s_seq ?_
      refine s_region ?_
      refine o_q (q_mv (v_sl rfl)) rfl rfl rfl ?_
      refine o_q (q_mv (v_raw rfl)) rfl rfl rfl ?_
      refine o_q (q_idx und35 sz38 rfl rfl (by omega) (gm i (by first | omega | simp)) rfl) rfl rfl rfl ?_
      refine o_q (q_lde ag38 sz38 rfl (gm i (by first | omega | simp)) rfl rfl) rfl rfl rfl ?_
      refine o_alloc zc38 (fun B1 hB1 => ?_)
      refine o_storew rfl (by repeat first | exact Mem.upd_self _ _ _ | assumption | refine Mem.upd_ne (by assumption) ?_) (by first | exact e_agg rfl | rfl) rfl sz38 rfl rfl rfl rfl ?_
      refine o_nil ?_
      refine s_seq ?_
      refine s_cut (fun S => ∃ T Md kd f t I s, S = ⟨setT (setT (setT (setT (setT (setT (setT T 1 (.sl (l.map encDe) o)) 5 (bool true)) 6 (ptr x)) 8 (ptr y)) 9 (int (i : Nat))) 10 (ptr B1)) 11 (bool true), Md⟩ ∧ PlI M Md x y L N side q O ∧ Md B1 = some (.cells [int kd, int f, int t, int I, str s]) ∧ ¬ O B1 ∧ B1 ≠ y ∧ B1 ≠ L ∧ (i64 kd ∧ i64 f ∧ i64 t ∧ i64 I)) ?_ ?_
      · skip
        refine s_region ?_
        refine o_q (q_as (v_raw rfl)) rfl rfl rfl ?_
        refine o_nil ?_
        refine s_inv ?_
        obtain ⟨g1, g2, g3, g4⟩ := hP1.fresh2 hB1
        exact ⟨_, _, l[i].kind, l[i].frm, l[i].to, l[i].i, l[i].s, St.mkT (kp (kp (kp (kp (kp (kp (kp rfl rfl) rfl) rfl) rfl) rfl) rfl) rfl).symm, g1, Mem.upd_self _ _ _, g2, g3, g4, hdi⟩
      rintro S ⟨T, Md, kd, f, t, I, s, rfl, hP, hB, hOB, hBy, hBL, hi4⟩
      have hyB := hBy.symm
      have hLB := hBL.symm
      refine s_seq ?_
      refine s_seq ?_
      refine s_region ?_
      refine o_q (q_fr fo38_0 rfl) rfl rfl rfl ?_
      refine o_q (q_ldm ag3 sz3 rfl (by repeat first | exact Mem.upd_self _ _ _ | assumption | refine Mem.upd_ne (by assumption) ?_) rfl (v_raw rfl)) rfl rfl rfl ?_
      refine o_call ((snd8 _ 7 _ (by decide) (by decide) hi4.1)) goes8 (ac (v_raw rfl) (ac (v_raw rfl) ac_nil)) rfl ?_
      refine o_nil ?_
      refine s_cut (fun S => ∃ T Md side' q' O', S = ⟨setT (setT (setT (setT (setT (setT (setT T 1 (.sl (l.map encDe) o)) 5 (bool true)) 6 (ptr x)) 8 (ptr y)) 9 (int (i : Nat))) 10 (ptr B1)) 11 (bool true), Md⟩ ∧ PlI M Md x y L N side' q' O' ∧ Md B1 = some (.cells [int kd, int f, int t, int I, str s])) ?_ ?_
      · skip
        refine s_block ?_
        refine s_seq ?_
        refine s_region ?_
        refine o_q (q_eql rfl rfl) rfl rfl rfl ?_
        refine o_q (q_as (v_raw rfl)) rfl rfl rfl ?_
        refine o_nil ?_
        refine s_cond rfl (fun h3 => ?_) (fun h3 => ?_)
        · have k3 := h3; try simp only [decide_eq_true_eq, decide_eq_false_iff_not, Bool.not_eq_true', Bool.not_eq_false', Bool.not_true, Bool.not_false, List.length_map, Decidable.not_not] at k3
          refine s_draw rfl ?_
          refine d_q rfl (q_mv ((by first | exact v_raw rfl | exact v_sptr rfl))) rfl rfl rfl ?_
          refine d_q rfl (q_fr fo38_1 rfl) rfl rfl rfl ?_
          refine d_q rfl (q_ldm ag3 sz3 rfl (by repeat first | exact Mem.upd_self _ _ _ | assumption | refine Mem.upd_ne (by assumption) ?_) rfl (v_raw rfl)) rfl rfl rfl ?_
          refine d_q rfl (q_fr fo38_2 rfl) rfl rfl rfl ?_
          refine d_q rfl (q_ldm ag3 sz3 rfl (by repeat first | exact Mem.upd_self _ _ _ | assumption | refine Mem.upd_ne (by assumption) ?_) rfl (v_raw rfl)) rfl rfl rfl ?_
          refine d_q rfl (q_fr fo38_4 rfl) rfl rfl rfl ?_
          refine d_q rfl (q_ldm ag9 sz9 rfl (by repeat first | exact Mem.upd_self _ _ _ | assumption | refine Mem.upd_ne (by assumption) ?_) rfl (v_raw rfl)) rfl rfl rfl ?_
          refine d_q rfl (q_mv ((by first | exact v_raw rfl | exact v_sptr rfl))) rfl rfl rfl ?_
          refine d_q rfl (q_fr fo38_1 rfl) rfl rfl rfl ?_
          refine d_q rfl (q_ldm ag3 sz3 rfl (by repeat first | exact Mem.upd_self _ _ _ | assumption | refine Mem.upd_ne (by assumption) ?_) rfl (v_raw rfl)) rfl rfl rfl ?_
          refine d_q rfl (q_fr fo38_2 rfl) rfl rfl rfl ?_
          refine d_q rfl (q_ldm ag3 sz3 rfl (by repeat first | exact Mem.upd_self _ _ _ | assumption | refine Mem.upd_ne (by assumption) ?_) rfl (v_raw rfl)) rfl rfl rfl ?_
          refine d_q rfl (q_fr fo38_4 rfl) rfl rfl rfl ?_
          refine d_q rfl (q_ldm ag9 sz9 rfl (by repeat first | exact Mem.upd_self _ _ _ | assumption | refine Mem.upd_ne (by assumption) ?_) rfl (v_raw rfl)) rfl rfl rfl ?_
          refine d_s rfl ?_
          refine o_callx ((send11 hP.net f t s)) goes11 (ac ((by first | exact v_raw rfl | exact v_sptr rfl)) (ac (v_raw rfl) (ac (v_raw rfl) (ac (v_raw rfl) ac_nil)))) rfl ?_
          rintro r' M' ⟨O1, rfl, hN1, hC1⟩
          obtain ⟨hB', hOB'⟩ := hC1.keep hB hOB
          have hR1 := hP.ref1 hC1
          refine o_nil ⟨(by simp [Mem.upd, *]), ?_⟩
          refine d_s rfl ?_
          refine o_callx ((snd20 y L N side q _ hR1 f t s)) goes20 (ac ((by first | exact v_raw rfl | exact v_sptr rfl)) (ac (v_raw rfl) (ac (v_raw rfl) (ac (v_raw rfl) ac_nil)))) rfl ?_
          rintro r' M'' ⟨rfl, rfl⟩
          refine o_nil ⟨(by simp [Mem.upd, *]), ?_⟩
          refine d_q rfl (q_beql und4 rfl rfl) rfl rfl rfl ?_
          refine d_q rfl (q_as (v_raw rfl)) rfl rfl rfl ?_
          refine d_nil ?_
          refine s_blk_normal ?_
          refine s_inv ?_
          exact ⟨_, _, _, _, _, St.mkT (kp (kp (kp (kp (kp (kp (kp rfl rfl) rfl) rfl) rfl) rfl) rfl) (congrArg bool (by simp))).symm, hP.fin hN1 hC1 (hz_send hP.ref.hz f t s), by rw [upd_other hBL]; exact hB'⟩
        · have k3 := h3; try simp only [decide_eq_true_eq, decide_eq_false_iff_not, Bool.not_eq_true', Bool.not_eq_false', Bool.not_true, Bool.not_false, List.length_map, Decidable.not_not] at k3
          refine s_seq ?_
          refine s_region ?_
          refine o_q (q_eql rfl rfl) rfl rfl rfl ?_
          refine o_q (q_as (v_raw rfl)) rfl rfl rfl ?_
          refine o_nil ?_
          refine s_cond rfl (fun h4 => ?_) (fun h4 => ?_)
          · have k4 := h4; try simp only [decide_eq_true_eq, decide_eq_false_iff_not, Bool.not_eq_true', Bool.not_eq_false', Bool.not_true, Bool.not_false, List.length_map, Decidable.not_not] at k4
            refine s_seq ?_
            refine s_region ?_
            refine o_q (q_mv ((by first | exact v_raw rfl | exact v_sptr rfl))) rfl rfl rfl ?_
            refine o_q (q_fr fo38_1 rfl) rfl rfl rfl ?_
            refine o_q (q_ldm ag3 sz3 rfl (by repeat first | exact Mem.upd_self _ _ _ | assumption | refine Mem.upd_ne (by assumption) ?_) rfl (v_raw rfl)) rfl rfl rfl ?_
            refine o_q (q_fr fo38_2 rfl) rfl rfl rfl ?_
            refine o_q (q_ldm ag3 sz3 rfl (by repeat first | exact Mem.upd_self _ _ _ | assumption | refine Mem.upd_ne (by assumption) ?_) rfl (v_raw rfl)) rfl rfl rfl ?_
            refine o_q (q_fr fo38_3 rfl) rfl rfl rfl ?_
            refine o_q (q_ldm ag3 sz3 rfl (by repeat first | exact Mem.upd_self _ _ _ | assumption | refine Mem.upd_ne (by assumption) ?_) rfl (v_raw rfl)) rfl rfl rfl ?_
            refine o_callx ((take13 hP.net f t I)) goes13 (ac ((by first | exact v_raw rfl | exact v_sptr rfl)) (ac (v_raw rfl) (ac (v_raw rfl) (ac (v_raw rfl) ac_nil)))) rfl ?_
            rintro r' M' ⟨O1, rfl, hN1, hC1⟩
            obtain ⟨hB', hOB'⟩ := hC1.keep hB hOB
            have hR1 := hP.ref1 hC1
            refine o_q (q_mv (v_tup rfl)) rfl rfl rfl ?_
            refine o_q (q_ext rfl rfl (v_raw rfl)) rfl rfl rfl ?_
            refine o_q (q_ext rfl rfl (v_raw rfl)) rfl rfl rfl ?_
            refine o_q (q_as (v_raw rfl)) rfl rfl rfl ?_
            refine o_q (q_as (v_raw rfl)) rfl rfl rfl ?_
            refine o_nil ?_
            refine s_seq ?_
            refine s_region ?_
            refine o_q (q_mv ((by first | exact v_raw rfl | exact v_sptr rfl))) rfl rfl rfl ?_
            refine o_q (q_fr fo38_1 rfl) rfl rfl rfl ?_
            refine o_q (q_ldm ag3 sz3 rfl (by repeat first | exact Mem.upd_self _ _ _ | assumption | refine Mem.upd_ne (by assumption) ?_) rfl (v_raw rfl)) rfl rfl rfl ?_
            refine o_q (q_fr fo38_2 rfl) rfl rfl rfl ?_
            refine o_q (q_ldm ag3 sz3 rfl (by repeat first | exact Mem.upd_self _ _ _ | assumption | refine Mem.upd_ne (by assumption) ?_) rfl (v_raw rfl)) rfl rfl rfl ?_
            refine o_q (q_fr fo38_3 rfl) rfl rfl rfl ?_
            refine o_q (q_ldm ag3 sz3 rfl (by repeat first | exact Mem.upd_self _ _ _ | assumption | refine Mem.upd_ne (by assumption) ?_) rfl (v_raw rfl)) rfl rfl rfl ?_
            refine o_callx ((snd21 y L N side q _ hR1 f t I)) goes21 (ac ((by first | exact v_raw rfl | exact v_sptr rfl)) (ac (v_raw rfl) (ac (v_raw rfl) (ac (v_raw rfl) ac_nil)))) rfl ?_
            rintro r' M'' ⟨rfl, rfl⟩
            refine o_q (q_mv (v_tup rfl)) rfl rfl rfl ?_
            refine o_q (q_ext rfl rfl (v_raw rfl)) rfl rfl rfl ?_
            refine o_q (q_ext rfl rfl (v_raw rfl)) rfl rfl rfl ?_
            refine o_q (q_as (v_raw rfl)) rfl rfl rfl ?_
            refine o_q (q_as (v_raw rfl)) rfl rfl rfl ?_
            refine o_nil ?_
            refine s_region ?_
            refine o_q (q_mv (v_raw rfl)) rfl rfl rfl ?_
            refine o_q (q_mv (v_raw rfl)) rfl rfl rfl ?_
            refine o_q (q_seql rfl rfl) rfl rfl rfl ?_
            refine o_q (q_mv (v_raw rfl)) rfl rfl rfl ?_
            refine o_yes rfl rfl rfl (by simp) ?_
            refine o_q (q_mv (v_raw rfl)) rfl rfl rfl ?_
            refine o_yes rfl rfl rfl (by simp) ?_
            refine o_q (q_mv (v_raw rfl)) rfl rfl rfl ?_
            refine o_yes rfl rfl rfl (by simp) ?_
            refine o_q (q_beql und4 rfl rfl) rfl rfl rfl ?_
            refine o_q (q_pick_c (t := true) rfl (by simp) (v_raw rfl)) rfl rfl rfl ?_
            refine o_q (q_as (v_raw rfl)) rfl rfl rfl ?_
            refine o_nil ?_
            refine s_blk_normal ?_
            refine s_inv ?_
            exact ⟨_, _, _, _, _, St.mkT (kp (kp (kp (kp (kp (kp (kp rfl rfl) rfl) rfl) rfl) rfl) rfl) (congrArg bool (by simp))).symm, hP.fin hN1 hC1 (hz_if _ (hz_at hP.ref.hz f t I true) hP.ref.hz), by rw [upd_other hBL]; exact hB'⟩
          · have k4 := h4; try simp only [decide_eq_true_eq, decide_eq_false_iff_not, Bool.not_eq_true', Bool.not_eq_false', Bool.not_true, Bool.not_false, List.length_map, Decidable.not_not] at k4
            refine s_seq ?_
            refine s_region ?_
            refine o_q (q_eql rfl rfl) rfl rfl rfl ?_
            refine o_q (q_as (v_raw rfl)) rfl rfl rfl ?_
            refine o_nil ?_
            refine s_cond rfl (fun h5 => ?_) (fun h5 => ?_)
            · have k5 := h5; try simp only [decide_eq_true_eq, decide_eq_false_iff_not, Bool.not_eq_true', Bool.not_eq_false', Bool.not_true, Bool.not_false, List.length_map, Decidable.not_not] at k5
              refine s_draw rfl ?_
              refine d_q rfl (q_mv ((by first | exact v_raw rfl | exact v_sptr rfl))) rfl rfl rfl ?_
              refine d_q rfl (q_fr fo38_1 rfl) rfl rfl rfl ?_
              refine d_q rfl (q_ldm ag3 sz3 rfl (by repeat first | exact Mem.upd_self _ _ _ | assumption | refine Mem.upd_ne (by assumption) ?_) rfl (v_raw rfl)) rfl rfl rfl ?_
              refine d_q rfl (q_fr fo38_2 rfl) rfl rfl rfl ?_
              refine d_q rfl (q_ldm ag3 sz3 rfl (by repeat first | exact Mem.upd_self _ _ _ | assumption | refine Mem.upd_ne (by assumption) ?_) rfl (v_raw rfl)) rfl rfl rfl ?_
              refine d_q rfl (q_fr fo38_3 rfl) rfl rfl rfl ?_
              refine d_q rfl (q_ldm ag3 sz3 rfl (by repeat first | exact Mem.upd_self _ _ _ | assumption | refine Mem.upd_ne (by assumption) ?_) rfl (v_raw rfl)) rfl rfl rfl ?_
              refine d_q rfl (q_mv ((by first | exact v_raw rfl | exact v_sptr rfl))) rfl rfl rfl ?_
              refine d_q rfl (q_fr fo38_1 rfl) rfl rfl rfl ?_
              refine d_q rfl (q_ldm ag3 sz3 rfl (by repeat first | exact Mem.upd_self _ _ _ | assumption | refine Mem.upd_ne (by assumption) ?_) rfl (v_raw rfl)) rfl rfl rfl ?_
              refine d_q rfl (q_fr fo38_2 rfl) rfl rfl rfl ?_
              refine d_q rfl (q_ldm ag3 sz3 rfl (by repeat first | exact Mem.upd_self _ _ _ | assumption | refine Mem.upd_ne (by assumption) ?_) rfl (v_raw rfl)) rfl rfl rfl ?_
              refine d_q rfl (q_fr fo38_3 rfl) rfl rfl rfl ?_
              refine d_q rfl (q_ldm ag3 sz3 rfl (by repeat first | exact Mem.upd_self _ _ _ | assumption | refine Mem.upd_ne (by assumption) ?_) rfl (v_raw rfl)) rfl rfl rfl ?_
              refine d_s rfl ?_
              refine o_callx ((drop17 hP.net f t I)) goes17 (ac ((by first | exact v_raw rfl | exact v_sptr rfl)) (ac (v_raw rfl) (ac (v_raw rfl) (ac (v_raw rfl) ac_nil)))) rfl ?_
              rintro r' M' ⟨O1, rfl, hN1, hC1⟩
              obtain ⟨hB', hOB'⟩ := hC1.keep hB hOB
              have hR1 := hP.ref1 hC1
              refine o_nil ⟨(by simp [Mem.upd, *]), ?_⟩
              refine d_s rfl ?_
              refine o_callx ((snd22 y L N side q _ hR1 f t I)) goes22 (ac ((by first | exact v_raw rfl | exact v_sptr rfl)) (ac (v_raw rfl) (ac (v_raw rfl) (ac (v_raw rfl) ac_nil)))) rfl ?_
              rintro r' M'' ⟨rfl, rfl⟩
              refine o_nil ⟨(by simp [Mem.upd, *]), ?_⟩
              refine d_q rfl (q_beql und4 rfl rfl) rfl rfl rfl ?_
              refine d_q rfl (q_as (v_raw rfl)) rfl rfl rfl ?_
              refine d_nil ?_
              refine s_blk_normal ?_
              refine s_inv ?_
              exact ⟨_, _, _, _, _, St.mkT (kp (kp (kp (kp (kp (kp (kp rfl rfl) rfl) rfl) rfl) rfl) rfl) (congrArg bool (by simp))).symm, hP.fin hN1 hC1 (hz_at hP.ref.hz f t I true), by rw [upd_other hBL]; exact hB'⟩
            · have k5 := h5; try simp only [decide_eq_true_eq, decide_eq_false_iff_not, Bool.not_eq_true', Bool.not_eq_false', Bool.not_true, Bool.not_false, List.length_map, Decidable.not_not] at k5
              refine s_seq ?_
              refine s_region ?_
              refine o_q (q_eql rfl rfl) rfl rfl rfl ?_
              refine o_q (q_as (v_raw rfl)) rfl rfl rfl ?_
              refine o_nil ?_
              refine s_cond rfl (fun h6 => ?_) (fun h6 => ?_)
              · have k6 := h6; try simp only [decide_eq_true_eq, decide_eq_false_iff_not, Bool.not_eq_true', Bool.not_eq_false', Bool.not_true, Bool.not_false, List.length_map, Decidable.not_not] at k6
                refine s_draw rfl ?_
                refine d_q rfl (q_mv ((by first | exact v_raw rfl | exact v_sptr rfl))) rfl rfl rfl ?_
                refine d_q rfl (q_fr fo38_1 rfl) rfl rfl rfl ?_
                refine d_q rfl (q_ldm ag3 sz3 rfl (by repeat first | exact Mem.upd_self _ _ _ | assumption | refine Mem.upd_ne (by assumption) ?_) rfl (v_raw rfl)) rfl rfl rfl ?_
                refine d_q rfl (q_fr fo38_2 rfl) rfl rfl rfl ?_
                refine d_q rfl (q_ldm ag3 sz3 rfl (by repeat first | exact Mem.upd_self _ _ _ | assumption | refine Mem.upd_ne (by assumption) ?_) rfl (v_raw rfl)) rfl rfl rfl ?_
                refine d_q rfl (q_fr fo38_3 rfl) rfl rfl rfl ?_
                refine d_q rfl (q_ldm ag3 sz3 rfl (by repeat first | exact Mem.upd_self _ _ _ | assumption | refine Mem.upd_ne (by assumption) ?_) rfl (v_raw rfl)) rfl rfl rfl ?_
                refine d_q rfl (q_mv ((by first | exact v_raw rfl | exact v_sptr rfl))) rfl rfl rfl ?_
                refine d_q rfl (q_fr fo38_1 rfl) rfl rfl rfl ?_
                refine d_q rfl (q_ldm ag3 sz3 rfl (by repeat first | exact Mem.upd_self _ _ _ | assumption | refine Mem.upd_ne (by assumption) ?_) rfl (v_raw rfl)) rfl rfl rfl ?_
                refine d_q rfl (q_fr fo38_2 rfl) rfl rfl rfl ?_
                refine d_q rfl (q_ldm ag3 sz3 rfl (by repeat first | exact Mem.upd_self _ _ _ | assumption | refine Mem.upd_ne (by assumption) ?_) rfl (v_raw rfl)) rfl rfl rfl ?_
                refine d_q rfl (q_fr fo38_3 rfl) rfl rfl rfl ?_
                refine d_q rfl (q_ldm ag3 sz3 rfl (by repeat first | exact Mem.upd_self _ _ _ | assumption | refine Mem.upd_ne (by assumption) ?_) rfl (v_raw rfl)) rfl rfl rfl ?_
                refine d_s rfl ?_
                refine o_callx ((dbl12 hP.net f t I)) goes12 (ac ((by first | exact v_raw rfl | exact v_sptr rfl)) (ac (v_raw rfl) (ac (v_raw rfl) (ac (v_raw rfl) ac_nil)))) rfl ?_
                rintro r' M' ⟨O1, rfl, hN1, hC1⟩
                obtain ⟨hB', hOB'⟩ := hC1.keep hB hOB
                have hR1 := hP.ref1 hC1
                refine o_nil ⟨(by simp [Mem.upd, *]), ?_⟩
                refine d_s rfl ?_
                refine o_callx ((snd23 y L N side q _ hR1 f t I)) goes23 (ac ((by first | exact v_raw rfl | exact v_sptr rfl)) (ac (v_raw rfl) (ac (v_raw rfl) (ac (v_raw rfl) ac_nil)))) rfl ?_
                rintro r' M'' ⟨rfl, rfl⟩
                refine o_nil ⟨(by simp [Mem.upd, *]), ?_⟩
                refine d_q rfl (q_beql und4 rfl rfl) rfl rfl rfl ?_
                refine d_q rfl (q_as (v_raw rfl)) rfl rfl rfl ?_
                refine d_nil ?_
                refine s_blk_normal ?_
                refine s_inv ?_
                exact ⟨_, _, _, _, _, St.mkT (kp (kp (kp (kp (kp (kp (kp rfl rfl) rfl) rfl) rfl) rfl) rfl) (congrArg bool (by simp))).symm, hP.fin hN1 hC1 (hz_if _ (hz_send hP.ref.hz f t _) hP.ref.hz), by rw [upd_other hBL]; exact hB'⟩
              · have k6 := h6; try simp only [decide_eq_true_eq, decide_eq_false_iff_not, Bool.not_eq_true', Bool.not_eq_false', Bool.not_true, Bool.not_false, List.length_map, Decidable.not_not] at k6
                refine s_seq ?_
                refine s_region ?_
                refine o_q (q_eql rfl rfl) rfl rfl rfl ?_
                refine o_q (q_as (v_raw rfl)) rfl rfl rfl ?_
                refine o_nil ?_
                refine s_cond rfl (fun h7 => ?_) (fun h7 => ?_)
                · have k7 := h7; try simp only [decide_eq_true_eq, decide_eq_false_iff_not, Bool.not_eq_true', Bool.not_eq_false', Bool.not_true, Bool.not_false, List.length_map, Decidable.not_not] at k7
                  refine s_seq ?_
                  refine s_region ?_
                  refine o_q (q_mv ((by first | exact v_raw rfl | exact v_sptr rfl))) rfl rfl rfl ?_
                  refine o_q (q_fr fo38_3 rfl) rfl rfl rfl ?_
                  refine o_q (q_ldm ag3 sz3 rfl (by repeat first | exact Mem.upd_self _ _ _ | assumption | refine Mem.upd_ne (by assumption) ?_) rfl (v_raw rfl)) rfl rfl rfl ?_
                  refine o_callx ((cut10 hP.net I hi4.2.2.2)) goes10 (ac ((by first | exact v_raw rfl | exact v_sptr rfl)) (ac (v_raw rfl) ac_nil)) rfl ?_
                  rintro r' M' ⟨O1, hN1, hC1⟩
                  obtain ⟨hB', hOB'⟩ := hC1.keep hB hOB
                  have hR1 := hP.ref1 hC1
                  refine o_nil ?_
                  refine s_region ?_
                  refine o_q (q_mv ((by first | exact v_raw rfl | exact v_sptr rfl))) rfl rfl rfl ?_
                  refine o_q (q_fr fo38_3 rfl) rfl rfl rfl ?_
                  refine o_q (q_ldm ag3 sz3 rfl (by repeat first | exact Mem.upd_self _ _ _ | assumption | refine Mem.upd_ne (by assumption) ?_) rfl (v_raw rfl)) rfl rfl rfl ?_
                  refine o_callx ((snd24 y L N side q _ hR1 I)) goes24 (ac ((by first | exact v_raw rfl | exact v_sptr rfl)) (ac (v_raw rfl) ac_nil)) rfl ?_
                  rintro r' M'' rfl
                  refine o_nil ?_
                  refine s_blk_normal ?_
                  refine s_inv ?_
                  exact ⟨_, _, _, _, _, St.mkT (kp (kp (kp (kp (kp (kp (kp rfl rfl) rfl) rfl) rfl) rfl) rfl) (congrArg bool (by simp))).symm, hP.cut hN1 hC1 (by have := hi4.2.2.2.2; omega), by rw [upd_other hBy]; exact hB'⟩
                · have k7 := h7; try simp only [decide_eq_true_eq, decide_eq_false_iff_not, Bool.not_eq_true', Bool.not_eq_false', Bool.not_true, Bool.not_false, List.length_map, Decidable.not_not] at k7
                  refine s_seq ?_
                  refine s_region ?_
                  refine o_q (q_eql rfl rfl) rfl rfl rfl ?_
                  refine o_q (q_as (v_raw rfl)) rfl rfl rfl ?_
                  refine o_nil ?_
                  refine s_cond rfl (fun h8 => ?_) (fun h8 => ?_)
                  · have k8 := h8; try simp only [decide_eq_true_eq, decide_eq_false_iff_not, Bool.not_eq_true', Bool.not_eq_false', Bool.not_true, Bool.not_false, List.length_map, Decidable.not_not] at k8
                    refine s_seq ?_
                    refine s_region ?_
                    refine o_q (q_mv ((by first | exact v_raw rfl | exact v_sptr rfl))) rfl rfl rfl ?_
                    refine o_q (q_fr fo38_1 rfl) rfl rfl rfl ?_
                    refine o_q (q_ldm ag3 sz3 rfl (by repeat first | exact Mem.upd_self _ _ _ | assumption | refine Mem.upd_ne (by assumption) ?_) rfl (v_raw rfl)) rfl rfl rfl ?_
                    refine o_callx ((clear15 hP.net f)) goes15 (ac ((by first | exact v_raw rfl | exact v_sptr rfl)) (ac (v_raw rfl) ac_nil)) rfl ?_
                    rintro r' M' ⟨O1, hN1, hC1⟩
                    obtain ⟨hB', hOB'⟩ := hC1.keep hB hOB
                    have hR1 := hP.ref1 hC1
                    refine o_nil ?_
                    refine s_region ?_
                    refine o_q (q_mv ((by first | exact v_raw rfl | exact v_sptr rfl))) rfl rfl rfl ?_
                    refine o_q (q_fr fo38_1 rfl) rfl rfl rfl ?_
                    refine o_q (q_ldm ag3 sz3 rfl (by repeat first | exact Mem.upd_self _ _ _ | assumption | refine Mem.upd_ne (by assumption) ?_) rfl (v_raw rfl)) rfl rfl rfl ?_
                    refine o_callx ((snd25 y L N side q _ hR1 f)) goes25 (ac ((by first | exact v_raw rfl | exact v_sptr rfl)) (ac (v_raw rfl) ac_nil)) rfl ?_
                    rintro r' M'' rfl
                    refine o_nil ?_
                    refine s_blk_normal ?_
                    refine s_inv ?_
                    exact ⟨_, _, _, _, _, St.mkT (kp (kp (kp (kp (kp (kp (kp rfl rfl) rfl) rfl) rfl) rfl) rfl) (congrArg bool (by simp))).symm, hP.fin hN1 hC1 (hz_clear hP.ref.hz f), by rw [upd_other hBL]; exact hB'⟩
                  · have k8 := h8; try simp only [decide_eq_true_eq, decide_eq_false_iff_not, Bool.not_eq_true', Bool.not_eq_false', Bool.not_true, Bool.not_false, List.length_map, Decidable.not_not] at k8
                    refine s_draw rfl ?_
                    refine d_q rfl (q_mv ((by first | exact v_raw rfl | exact v_sptr rfl))) rfl rfl rfl ?_
                    refine d_q rfl (q_fr fo38_1 rfl) rfl rfl rfl ?_
                    refine d_q rfl (q_ldm ag3 sz3 rfl (by repeat first | exact Mem.upd_self _ _ _ | assumption | refine Mem.upd_ne (by assumption) ?_) rfl (v_raw rfl)) rfl rfl rfl ?_
                    refine d_q rfl (q_fr fo38_2 rfl) rfl rfl rfl ?_
                    refine d_q rfl (q_ldm ag3 sz3 rfl (by repeat first | exact Mem.upd_self _ _ _ | assumption | refine Mem.upd_ne (by assumption) ?_) rfl (v_raw rfl)) rfl rfl rfl ?_
                    refine d_q rfl (q_mv ((by first | exact v_raw rfl | exact v_sptr rfl))) rfl rfl rfl ?_
                    refine d_q rfl (q_fr fo38_1 rfl) rfl rfl rfl ?_
                    refine d_q rfl (q_ldm ag3 sz3 rfl (by repeat first | exact Mem.upd_self _ _ _ | assumption | refine Mem.upd_ne (by assumption) ?_) rfl (v_raw rfl)) rfl rfl rfl ?_
                    refine d_q rfl (q_fr fo38_2 rfl) rfl rfl rfl ?_
                    refine d_q rfl (q_ldm ag3 sz3 rfl (by repeat first | exact Mem.upd_self _ _ _ | assumption | refine Mem.upd_ne (by assumption) ?_) rfl (v_raw rfl)) rfl rfl rfl ?_
                    refine d_s rfl ?_
                    refine o_call ((joined14 hP.net f t)) goes14 (ac ((by first | exact v_raw rfl | exact v_sptr rfl)) (ac (v_raw rfl) (ac (v_raw rfl) ac_nil))) rfl ?_
                    refine o_nil ⟨(by simp [Mem.upd, *]), ?_⟩
                    refine d_s rfl ?_
                    refine o_call ((snd26 y L N side q _ hP.ref f t)) goes26 (ac ((by first | exact v_raw rfl | exact v_sptr rfl)) (ac (v_raw rfl) (ac (v_raw rfl) ac_nil))) rfl ?_
                    refine o_nil ⟨(by simp [Mem.upd, *]), ?_⟩
                    refine d_q rfl (q_beql und4 rfl rfl) rfl rfl rfl ?_
                    refine d_q rfl (q_as (v_raw rfl)) rfl rfl rfl ?_
                    refine d_nil ?_
                    refine s_blk_normal ?_
                    refine s_inv ?_
                    exact ⟨_, _, _, _, _, St.mkT (kp (kp (kp (kp (kp (kp (kp rfl rfl) rfl) rfl) rfl) rfl) rfl) (congrArg bool (by simp))).symm, hP, hB⟩
      rintro S ⟨T, Md2, side2, q2, O2, rfl, hP2, hB2⟩
      refine s_seq ?_
      refine s_draw rfl ?_
      refine d_q rfl (q_mv (v_raw rfl)) rfl rfl rfl ?_
      refine d_q rfl (q_not rfl) rfl rfl rfl ?_
      refine d_q rfl (q_mv (v_raw rfl)) rfl rfl rfl ?_
      refine d_yes rfl (q_mv ((by first | exact v_raw rfl | exact v_sptr rfl))) rfl rfl rfl rfl rfl rfl ?_
      refine d_yes rfl (q_fr fo38_1 rfl) rfl rfl rfl rfl rfl rfl ?_
      refine d_yes rfl (q_ldm ag3 sz3 rfl (by repeat first | exact Mem.upd_self _ _ _ | assumption | refine Mem.upd_ne (by assumption) ?_) rfl (v_raw rfl)) rfl rfl rfl rfl rfl rfl ?_
      refine d_yes rfl (q_fr fo38_2 rfl) rfl rfl rfl rfl rfl rfl ?_
      refine d_yes rfl (q_ldm ag3 sz3 rfl (by repeat first | exact Mem.upd_self _ _ _ | assumption | refine Mem.upd_ne (by assumption) ?_) rfl (v_raw rfl)) rfl rfl rfl rfl rfl rfl ?_
      refine d_yes rfl (q_mv ((by first | exact v_raw rfl | exact v_sptr rfl))) rfl rfl rfl rfl rfl rfl ?_
      refine d_yes rfl (q_fr fo38_1 rfl) rfl rfl rfl rfl rfl rfl ?_
      refine d_yes rfl (q_ldm ag3 sz3 rfl (by repeat first | exact Mem.upd_self _ _ _ | assumption | refine Mem.upd_ne (by assumption) ?_) rfl (v_raw rfl)) rfl rfl rfl rfl rfl rfl ?_
      refine d_yes rfl (q_fr fo38_2 rfl) rfl rfl rfl rfl rfl rfl ?_
      refine d_yes rfl (q_ldm ag3 sz3 rfl (by repeat first | exact Mem.upd_self _ _ _ | assumption | refine Mem.upd_ne (by assumption) ?_) rfl (v_raw rfl)) rfl rfl rfl rfl rfl rfl ?_
      refine d_s rfl ?_
      refine o_yes rfl rfl rfl rfl ?_
      refine o_call ((len16 hP2.net f t)) goes16 (ac ((by first | exact v_raw rfl | exact v_sptr rfl)) (ac (v_raw rfl) (ac (v_raw rfl) ac_nil))) rfl ?_
      refine o_nil ⟨(by simp [Mem.upd, *]), ?_⟩
      refine d_s rfl ?_
      refine o_yes rfl rfl rfl rfl ?_
      refine o_call ((snd27 y L N side2 q2 _ hP2.ref f t)) goes27 (ac ((by first | exact v_raw rfl | exact v_sptr rfl)) (ac (v_raw rfl) (ac (v_raw rfl) ac_nil))) rfl ?_
      refine o_nil ⟨(by simp [Mem.upd, *]), ?_⟩
      refine d_yes rfl (q_neq rfl rfl) rfl rfl rfl rfl rfl rfl ?_
      refine d_q rfl (q_pick_c (t := false) rfl rfl (v_raw rfl)) rfl rfl rfl ?_
      refine d_nil ?_
      refine s_else rfl (by simp) ?_
      refine s_skip ?_
      refine s_blk_normal ?_
      refine s_region ?_
      refine o_q (q_mv (v_raw rfl)) rfl rfl rfl ?_
      refine o_q (q_add rfl rfl (wrap64 (by omega) (by omega))) rfl rfl rfl ?_
      refine o_q (q_as (v_raw rfl)) rfl rfl rfl ?_
      refine o_nil ?_
      refine s_inv ?_
      exact ⟨l.length - (i + 1), by omega, _, _, _, _, _, i + 1, St.mkT (kp (kp (kp (kp (kp rfl rfl) rfl) rfl) rfl) rfl).symm, hP2, by omega, rfl⟩
    · have k2 := h2; try simp only [decide_eq_true_eq, decide_eq_false_iff_not, Bool.not_eq_true', Bool.not_eq_false', Bool.not_true, Bool.not_false, List.length_map, Decidable.not_not] at k2
      refine s_exit ?_
      refine s_code_exit ?_
      refine s_inv_exit ?_
      refine s_blk_here ?_
      refine s_seq ?_
      refine s_region ?_
      refine o_q (q_mv (v_raw rfl)) rfl rfl rfl ?_
      refine o_q (q_as (v_raw rfl)) rfl rfl rfl ?_
      refine o_nil ?_
      refine s_ret ?_
      refine s_end ?_
      exact ⟨rfl, hP1.le⟩
  · have k1 := h1; try simp only [decide_eq_true_eq, decide_eq_false_iff_not, Bool.not_eq_true', Bool.not_eq_false', Bool.not_true, Bool.not_false, List.length_map, Decidable.not_not] at k1
    refine o_no rfl rfl rfl rfl h1 ?_
    refine o_no rfl rfl rfl rfl h1 ?_
    refine o_q (q_pick_c (t := false) rfl h1 (v_raw rfl)) rfl rfl rfl ?_
    refine o_nil ?_
    refine s_else rfl rfl ?_
    refine s_exit ?_
    refine s_code_exit ?_
    refine s_inv_exit ?_
    refine s_blk_here ?_
    refine s_seq ?_
    refine s_region ?_
    refine o_q (q_mv (v_raw rfl)) rfl rfl rfl ?_
    refine o_q (q_as (v_raw rfl)) rfl rfl rfl ?_
    refine o_nil ?_
    refine s_ret ?_
    refine s_end ?_
    exact ⟨rfl, hP1.le⟩
theorem snd6 (n : Int) (l : List De) (o : Bool) (M : Mem) (hl : l.length < 2 ^ 60) (hd : ∀ d ∈ l, okDe d) : SoundCall Try.prog 6 [int n, .sl (l.map encDe) o] M fun r M' => r = bool true ∧ M.le M' := by
  by_cases hn : 1 ≤ n ∧ n ≤ 7
  · obtain ⟨N, rfl⟩ : ∃ N : Nat, n = N := Int.eq_ofNat_of_zero_le (by omega)
    exact snd6b N l o M hl hd ⟨by omega, by omega⟩
  · exact snd6a n l o M hl hd hn
end C05
