import Derived.Test.YtphenhkofjbeoaaF05
import Derived.Test.YtphenhkofjbeoaaG05
import Derived.Test.YtphenhkofjbeoaaProg
/-! Chapter 5: the net: what its functions compute. -/
open Go Go.Proofs Go.Am
set_option linter.unusedVariables false
set_option linter.unusedSimpArgs false
set_option autoImplicit false
namespace C05
theorem ag38 : aggT Try.prog 38 = some true := by kernel_rfl
theorem fo38_0 : fo Try.prog 38 0 = some (0, 1) := by kernel_rfl
theorem fo38_3 : fo Try.prog 38 3 = some (3, 1) := by kernel_rfl
theorem zc38 : zeroCellsT Try.prog 38 = some [.raw (.int .i64 0), .raw (.int .i64 0), .raw (.int .i64 0), .raw (.int .i64 0), .raw (.string { data := #[] })] := by kernel_rfl
def tk5 : Nat → Nat → Option Nat
  | 5, 0 => some 0
  | 16, 11 => some 0
  | 22, 0 => some 0
  | 22, 5 => some 0
  | 29, 11 => some 0
  | 33, 0 => some 0
  | 33, 8 => some 0
  | _, _ => none
def pl5 : Nat → List PStep
  | 16 => [.q 0, .q 1, .q 2, .q 3, .q 4, .q 5, .q 6, .q 7, .q 8, .q 9, .q 10, .q 11]
  | 29 => [.q 0, .q 1, .q 2, .q 3, .q 4, .q 5, .q 6, .q 7, .q 8, .q 9, .q 10, .q 11]
  | _ => []
theorem cb5 : Try.f5.body.map (codeB Try.prog Try.f5.ntmps tk5 pl5) = some true := by kernel_rfl
theorem goes5 : goesB Try.prog 5 = true := by kernel_rfl
-- carillon/carillonlaw05.NetApart params ['[]carillonlaw05.Deed'] results [['t', 2]] own [94, 141, 160, 67, 6, 98, 147, 167, 73] names ['0:deeds', '1:deeds', '3:head', '4:x', '5:_', '6:on', '7:i', '8:d', '9:from', '10:to', '11:own', '12:ok', '13:s', '14:ok', '15:ok', '16:ok'] calls [7, 8, 9, 11, 12, 13, 16, 17] paths 19

structure ApI (M Mc : Mem) (x : Nat) (q : K2 → List ByteArray) (O : Nat → Prop) : Prop where
  net : NetO Mc x 3 0 q O
  out : ∀ c, O c → M c = none
  le : M.le Mc
theorem ApI.next {M Mc M' : Mem} {x : Nat} {q q' : K2 → List ByteArray} {O O1 : Nat → Prop} (h : ApI M Mc x q O) (hN : NetO M' x 3 0 q' O1) (hC : Chg Mc M' O O1) : ApI M M' x q' O1 :=
  ⟨hN, hC.out h.le h.out, hC.le h.le h.out⟩
theorem ApI.fresh2 {M Mc : Mem} {x b : Nat} {o o' : AObj} {q : K2 → List ByteArray} {O : Nat → Prop} (h : ApI M Mc x q O) (hb : Mc b = none) : ApI M ((Mc.upd b o).upd b o') x q O := by
  have hbO : ¬ O b := fun hO => h.net.own hO hb
  refine ⟨(h.net.upd hbO).upd hbO, h.out, fun c o2 hc => ?_⟩
  have : c ≠ b := fun e => by rw [e] at hc; rw [h.le b o2 hc] at hb; cases hb
  rw [upd_other this, upd_other this]; exact h.le c o2 hc
theorem takeA {M : Mem} {x : Nat} {q : K2 → List ByteArray} {O : Nat → Prop} (h : NetO M x 3 0 q O) {a b : Int} (ha : 0 ≤ a ∧ a < 3) (hb : 0 ≤ b ∧ b < 3) (i : Int) : SoundCall Try.prog 13 [ptr x, int a, int b, int i] M fun r M' => ∃ O', r = .tup [str (atS q a b i), bool (atB q a b i)] ∧ NetO M' x 3 0 (atQ q a b i true) O' ∧ Chg M M' O O' :=
  (take13 h a b i).mono fun r M' ⟨O', e, h', c⟩ => ⟨O', e.trans (by rw [joined0 ha hb]; rfl), by rw [if_pos (joined0 ha hb)] at h'; exact h', c⟩
theorem q_other {q : K2 → List ByteArray} {a b : Int} {l : List ByteArray} (h : ¬ (a = 0 ∧ b = 1)) : setQ q (a, b) l (0, 1) = q (0, 1) := by
  unfold setQ
  rw [if_neg (fun e => h (by rw [Prod.mk.injEq] at e; exact ⟨e.1.symm, e.2.symm⟩))]
theorem send_other {q : K2 → List ByteArray} {a b : Int} {s : ByteArray} (h : ¬ (a = 0 ∧ b = 1)) : sendQ 3 q a b s (0, 1) = q (0, 1) := by
  unfold sendQ
  split
  · exact q_other h
  · rfl
theorem at_other {q : K2 → List ByteArray} {a b i : Int} {f : Bool} (h : ¬ (a = 0 ∧ b = 1)) : atQ q a b i f (0, 1) = q (0, 1) := by
  unfold atQ
  split
  · exact q_other h
  · rfl
theorem dbl_other {q : K2 → List ByteArray} {a b i : Int} {s : ByteArray} (h : ¬ (a = 0 ∧ b = 1)) : (if atB q a b i then sendQ 3 q a b s else q) (0, 1) = q (0, 1) := by
  split
  · exact send_other h
  · rfl
theorem at_no {q : K2 → List ByteArray} {i : Int} (h : atB q 0 1 i = false) : atQ q 0 1 i true = q := by unfold atQ; rw [h]; rfl
theorem at_yes {q : K2 → List ByteArray} {j : Nat} (h : atB q 0 1 (j : Int) = true) : ((q (0, 1)).take j ++ (q (0, 1)).drop (j + 1)).map str = (atQ q 0 1 (j : Int) true (0, 1)).map str := by
  unfold atQ
  rw [h, Bool.and_self, if_pos rfl, setQ_at, Int.toNat_natCast, List.eraseIdx_eq_take_drop_succ]
theorem atS_in {q : K2 → List ByteArray} {j : Nat} (h : j < (q (0, 1)).length) : atS q 0 1 (j : Int) = (q (0, 1))[j] := by
  unfold atS
  rw [atB_pos h, if_pos rfl, Int.toNat_natCast]
  simp [List.getD, h]
theorem okS_01 {q : K2 → List ByteArray} : okS 3 q 0 1 = decide (((q (0, 1)).length : Int) < 64) := okS_ne (by decide) (by decide) (by decide)
theorem send_yes {q : K2 → List ByteArray} {s : ByteArray} (h : okS 3 q 0 1 = true) : (q (0, 1)).map str ++ [str s] = (sendQ 3 q 0 1 s (0, 1)).map str := by
  rw [okS_yes h, setQ_at, List.map_append]; rfl
theorem els_str {l : List ByteArray} : Els 1 (l.map str) := Els.map fun _ => ⟨rfl, rfl⟩
theorem er_eq {l : List ByteArray} {j n m : Nat} (hn : n = j + 1) (hm : m = (l.map str).length) : ((l.map str).take j).drop 0 ++ ((l.map str).take m).drop n = (l.take j ++ l.drop (j + 1)).map str := by
  subst hn hm
  rw [List.take_length, List.drop_zero, List.map_append, List.map_take, List.map_drop]
theorem els_take {sz n : Nat} {l : List AVal} (h : Els sz l) : Els sz (l.take n) := fun W hW => h W (List.mem_of_mem_take hW)
theorem els_drop {sz n : Nat} {l : List AVal} (h : Els sz l) : Els sz (l.drop n) := fun W hW => h W (List.mem_of_mem_drop hW)
theorem dbl_no {q : K2 → List ByteArray} {i : Int} {s : ByteArray} (h : (atB q 0 1 i && okS 3 q 0 1) = false) : (if atB q 0 1 i then sendQ 3 q 0 1 s else q) = q := by
  by_cases h1 : atB q 0 1 i = true
  · rw [if_pos h1]
    rw [h1, Bool.true_and] at h
    exact okS_no h
  · rw [if_neg h1]
theorem dbl_yes {q : K2 → List ByteArray} {j : Nat} (hj : j < (q (0, 1)).length) (h1 : atB q 0 1 (j : Int) = true) (h2 : okS 3 q 0 1 = true) : (q (0, 1)).map str ++ [str (q (0, 1))[j]] = ((if atB q 0 1 (j : Int) then sendQ 3 q 0 1 (atS q 0 1 (j : Int)) else q) (0, 1)).map str := by
  rw [if_pos h1, atS_in hj]; exact send_yes h2
set_option maxHeartbeats 4000000 in
set_option maxRecDepth 20000 in
theorem snd5 (l : List De) (o : Bool) (M : Mem) (hl : l.length < 2 ^ 60) (hd : ∀ d ∈ l, okDe d) : SoundCall Try.prog 5 [.sl (l.map encDe) o] M fun r M' => r = bool true ∧ M.le M' := by
  refine SoundCall.go tk5 pl5 mixed Try.func5 cb5 rfl (Nat.le_of_ble_eq_true rfl) ?_
  refine s_seq ?_
  refine s_region ?_
  refine o_q (q_as (v_raw rfl)) rfl rfl rfl ?_
  refine o_nil ?_
  refine s_seq ?_
  refine s_region ?_
  refine o_call ((ex7 _)) goes7 ac_nil rfl ?_
  refine o_q (q_as (v_raw rfl)) rfl rfl rfl ?_
  refine o_nil ?_
  refine s_seq ?_
  refine s_region ?_
  refine o_callx ((new9 3 _ (by decide))) goes9 (ac (v_raw rfl) ac_nil) rfl ?_
  rintro r' M1 ⟨x, O0, rfl, hN0, hle0, hO0⟩
  refine o_q (q_mv (v_tup rfl)) rfl rfl rfl ?_
  refine o_q (q_ext rfl rfl ((by first | exact v_raw rfl | exact v_sptr rfl))) rfl rfl rfl ?_
  refine o_q (q_ext rfl rfl (v_raw rfl)) rfl rfl rfl ?_
  refine o_q (q_as ((by first | exact v_raw rfl | exact v_sptr rfl))) rfl rfl rfl ?_
  refine o_q (q_as (v_raw rfl)) rfl rfl rfl ?_
  refine o_nil ?_
  refine s_seq ?_
  refine s_seq ?_
  refine s_region ?_
  refine o_q (q_mv ((by first | exact v_raw rfl | exact v_sptr rfl))) rfl rfl rfl ?_
  refine o_q (q_peql und24 rfl rfl) rfl rfl rfl ?_
  refine o_nil ?_
  refine s_else rfl rfl ?_
  refine s_skip ?_
  refine s_seq ?_
  refine s_region ?_
  refine o_q (q_as_const rfl) rfl rfl rfl ?_
  refine o_nil ?_
  refine s_seq ?_
  refine s_seq ?_
  refine s_region ?_
  refine o_q (q_as (v_raw rfl)) rfl rfl rfl ?_
  refine o_nil ?_
  refine s_block ?_
  refine s_loop (fun m S => ∃ T Mc q O, ∃ i : Nat, S = ⟨setT (setT (setT (setT (setT T 0 (.sl (l.map encDe) o)) 3 (bool true)) 4 (ptr x)) 6 (.sl ((q (0, 1)).map str) true)) 7 (int (i : Nat)), Mc⟩ ∧ ApI M Mc x q O ∧ i ≤ l.length ∧ m = l.length - i) l.length ?_ ?_
  · exact ⟨_, _, (fun _ => []), O0, 0, St.mkT (kp (kp (kp (kp (kp rfl rfl) rfl) rfl) rfl) rfl).symm, ⟨hN0, hO0, hle0⟩, by omega, rfl⟩
  rintro m S ⟨T, Mc, q, O, i, rfl, hA, hi, rfl⟩
  refine s_seq ?_
  refine s_seq ?_
  refine s_region ?_
  refine o_q (q_mv (v_raw rfl)) rfl rfl rfl ?_
  refine o_q (q_mv (v_sl rfl)) rfl rfl rfl ?_
  refine o_q (q_len rfl und35 rfl) rfl rfl rfl ?_
  refine o_q (q_lss rfl rfl) rfl rfl rfl ?_
  refine o_q (q_mv (v_raw rfl)) rfl rfl rfl ?_
  refine o_cases (want := true) (j := 4) rfl rfl (fun h1 => ?_) (fun h1 => ?_)
  · have k1 := h1; try simp only [decide_eq_true_eq, decide_eq_false_iff_not, Bool.not_eq_true', Bool.not_eq_false', Bool.not_true, Bool.not_false, List.length_map, Decidable.not_not] at k1
    refine o_yes rfl rfl rfl h1 ?_
    refine o_q (q_mv (v_raw rfl)) rfl rfl rfl ?_
    refine o_yes rfl rfl rfl h1 ?_
    refine o_q (q_lss rfl rfl) rfl rfl rfl ?_
    refine o_q (q_pick_c (t := true) rfl h1 (v_raw rfl)) rfl rfl rfl ?_
    refine o_nil ?_
    refine s_cond rfl (fun h2 => ?_) (fun h2 => ?_)
    · have k2 := h2; try simp only [decide_eq_true_eq, decide_eq_false_iff_not, Bool.not_eq_true', Bool.not_eq_false', Bool.not_true, Bool.not_false, List.length_map, Decidable.not_not] at k2
      have hdi := hd l[i] (List.getElem_mem _)
      have hql := hA.net.ql (0, 1)
      refine s_skip ?_
      refine s_seq ?_
      refine s_block ?_
      refine s_seq ?_
      refine s_region ?_
      refine o_q (q_mv (v_sl rfl)) rfl rfl rfl ?_
      refine o_q (q_mv (v_raw rfl)) rfl rfl rfl ?_
      refine o_q (q_idx und35 sz38 rfl rfl (by omega) (gm i (by first | omega | simp)) rfl) rfl rfl rfl ?_
      refine o_q (q_lde ag38 sz38 rfl (gm i (by first | omega | simp)) rfl rfl) rfl rfl rfl ?_
      refine o_alloc zc38 (fun B1 hB1 => ?_)
      refine o_storew rfl (by repeat first | exact Mem.upd_self _ _ _ | assumption | refine Mem.upd_ne (by assumption) ?_) (by first | exact e_agg rfl | rfl) rfl sz38 rfl rfl rfl rfl ?_
      refine o_nil ?_
      refine s_seq ?_
      refine s_region ?_
      refine o_q (q_fr fo38_1 rfl) rfl rfl rfl ?_
      refine o_q (q_ldm ag3 sz3 rfl (by repeat first | exact Mem.upd_self _ _ _ | assumption | refine Mem.upd_ne (by assumption) ?_) rfl (v_raw rfl)) rfl rfl rfl ?_
      refine o_call ((snd8 _ 3 _ (by decide) (by decide) hdi.2.1)) goes8 (ac (v_raw rfl) (ac (v_raw rfl) ac_nil)) rfl ?_
      refine o_q (q_as (v_raw rfl)) rfl rfl rfl ?_
      refine o_nil ?_
      refine s_seq ?_
      refine s_region ?_
      refine o_q (q_fr fo38_2 rfl) rfl rfl rfl ?_
      refine o_q (q_ldm ag3 sz3 rfl (by repeat first | exact Mem.upd_self _ _ _ | assumption | refine Mem.upd_ne (by assumption) ?_) rfl (v_raw rfl)) rfl rfl rfl ?_
      refine o_call ((snd8 _ 3 _ (by decide) (by decide) hdi.2.2.1)) goes8 (ac (v_raw rfl) (ac (v_raw rfl) ac_nil)) rfl ?_
      refine o_q (q_as (v_raw rfl)) rfl rfl rfl ?_
      refine o_nil ?_
      refine s_seq ?_
      refine s_cut (fun S => ∃ T Md a b kd f t I s, S = ⟨setT (setT (setT (setT (setT (setT (setT (setT (setT T 0 (.sl (l.map encDe) o)) 3 (bool true)) 4 (ptr x)) 6 (.sl ((q (0, 1)).map str) true)) 7 (int (i : Nat))) 8 (ptr B1)) 9 (int a)) 10 (int b)) 11 (bool (decide (a = 0 ∧ b = 1))), Md⟩ ∧ ApI M Md x q O ∧ Md B1 = some (.cells [int kd, int f, int t, int I, str s]) ∧ ¬ O B1 ∧ (0 ≤ a ∧ a < 3) ∧ (0 ≤ b ∧ b < 3) ∧ i64 kd) ?_ ?_
      · skip
        refine s_region ?_
        refine o_q (q_mv (v_raw rfl)) rfl rfl rfl ?_
        refine o_q (q_eql rfl rfl) rfl rfl rfl ?_
        refine o_q (q_mv (v_raw rfl)) rfl rfl rfl ?_
        refine o_cases (want := true) (j := 2) rfl rfl (fun h3 => ?_) (fun h3 => ?_)
        · have k3 := h3; try simp only [decide_eq_true_eq, decide_eq_false_iff_not, Bool.not_eq_true', Bool.not_eq_false', Bool.not_true, Bool.not_false, List.length_map, Decidable.not_not] at k3
          refine o_yes rfl rfl rfl h3 ?_
          refine o_q (q_mv (v_raw rfl)) rfl rfl rfl ?_
          refine o_yes rfl rfl rfl h3 ?_
          refine o_q (q_eql rfl rfl) rfl rfl rfl ?_
          refine o_q (q_pick_c (t := true) rfl h3 (v_raw rfl)) rfl rfl rfl ?_
          refine o_q (q_as (v_raw rfl)) rfl rfl rfl ?_
          refine o_nil ?_
          refine s_inv ?_
          exact ⟨_, _, pick l[i].frm 3, pick l[i].to 3, l[i].kind, l[i].frm, l[i].to, l[i].i, l[i].s, St.mkT (kp (kp (kp (kp (kp (kp (kp (kp (kp rfl rfl) rfl) rfl) rfl) rfl) rfl) rfl) rfl) (congrArg bool (by simp [*]))).symm, hA.fresh2 hB1, Mem.upd_self _ _ _, (fun h => hA.net.own h hB1), pick_lt (by decide), pick_lt (by decide), hdi.1⟩
        · have k3 := h3; try simp only [decide_eq_true_eq, decide_eq_false_iff_not, Bool.not_eq_true', Bool.not_eq_false', Bool.not_true, Bool.not_false, List.length_map, Decidable.not_not] at k3
          refine o_no rfl rfl rfl rfl h3 ?_
          refine o_no rfl rfl rfl rfl h3 ?_
          refine o_q (q_pick_c (t := false) rfl h3 (v_raw rfl)) rfl rfl rfl ?_
          refine o_q (q_as (v_raw rfl)) rfl rfl rfl ?_
          refine o_nil ?_
          refine s_inv ?_
          exact ⟨_, _, pick l[i].frm 3, pick l[i].to 3, l[i].kind, l[i].frm, l[i].to, l[i].i, l[i].s, St.mkT (kp (kp (kp (kp (kp (kp (kp (kp (kp rfl rfl) rfl) rfl) rfl) rfl) rfl) rfl) rfl) (congrArg bool (by simp [*]))).symm, hA.fresh2 hB1, Mem.upd_self _ _ _, (fun h => hA.net.own h hB1), pick_lt (by decide), pick_lt (by decide), hdi.1⟩
      rintro S ⟨T, Md, a, b, kd, f, t, I, s, rfl, hA1, hB, hOB, ha, hb, hkd⟩
      refine s_seq ?_
      refine s_seq ?_
      refine s_region ?_
      refine o_q (q_fr fo38_0 rfl) rfl rfl rfl ?_
      refine o_q (q_ldm ag3 sz3 rfl (by repeat first | exact Mem.upd_self _ _ _ | assumption | refine Mem.upd_ne (by assumption) ?_) rfl (v_raw rfl)) rfl rfl rfl ?_
      refine o_call ((snd8 _ 4 _ (by decide) (by decide) hkd)) goes8 (ac (v_raw rfl) (ac (v_raw rfl) ac_nil)) rfl ?_
      refine o_nil ?_
      refine s_cut (fun S => ∃ T Md q' O', S = ⟨setT (setT (setT (setT (setT T 0 (.sl (l.map encDe) o)) 3 (bool true)) 4 (ptr x)) 6 (.sl ((q' (0, 1)).map str) true)) 7 (int (i : Nat)), Md⟩ ∧ ApI M Md x q' O') ?_ ?_
      · skip
        refine s_block ?_
        refine s_seq ?_
        refine s_region ?_
        refine o_q (q_eql rfl rfl) rfl rfl rfl ?_
        refine o_q (q_as (v_raw rfl)) rfl rfl rfl ?_
        refine o_nil ?_
        refine s_cond rfl (fun h4 => ?_) (fun h4 => ?_)
        · have k4 := h4; try simp only [decide_eq_true_eq, decide_eq_false_iff_not, Bool.not_eq_true', Bool.not_eq_false', Bool.not_true, Bool.not_false, List.length_map, Decidable.not_not] at k4
          refine s_seq ?_
          refine s_region ?_
          refine o_q (q_mv ((by first | exact v_raw rfl | exact v_sptr rfl))) rfl rfl rfl ?_
          refine o_q (q_mv (v_raw rfl)) rfl rfl rfl ?_
          refine o_q (q_mv (v_raw rfl)) rfl rfl rfl ?_
          refine o_q (q_fr fo38_4 rfl) rfl rfl rfl ?_
          refine o_q (q_ldm ag9 sz9 rfl (by repeat first | exact Mem.upd_self _ _ _ | assumption | refine Mem.upd_ne (by assumption) ?_) rfl (v_raw rfl)) rfl rfl rfl ?_
          refine o_callx ((send11 hA1.net a b s)) goes11 (ac ((by first | exact v_raw rfl | exact v_sptr rfl)) (ac (v_raw rfl) (ac (v_raw rfl) (ac (v_raw rfl) ac_nil)))) rfl ?_
          rintro r' M' ⟨O1, rfl, hN1, hC1⟩
          obtain ⟨hB', hOB'⟩ := hC1.keep hB hOB
          refine o_q (q_as (v_raw rfl)) rfl rfl rfl ?_
          refine o_nil ?_
          refine s_seq ?_
          refine s_seq ?_
          refine s_region ?_
          refine o_q (q_mv (v_raw rfl)) rfl rfl rfl ?_
          refine o_q (q_mv (v_raw rfl)) rfl rfl rfl ?_
          refine o_cases (want := true) (j := 1) rfl rfl (fun h5 => ?_) (fun h5 => ?_)
          · have k5 := h5; try simp only [decide_eq_true_eq, decide_eq_false_iff_not, Bool.not_eq_true', Bool.not_eq_false', Bool.not_true, Bool.not_false, List.length_map, Decidable.not_not] at k5
            obtain ⟨rfl, rfl⟩ : a = 0 ∧ b = 1 := by simpa using h5
            refine o_yes rfl rfl rfl h5 ?_
            refine o_q (q_mv (v_raw rfl)) rfl rfl rfl ?_
            refine o_yes rfl rfl rfl h5 ?_
            refine o_q (q_mv (v_sl rfl)) rfl rfl rfl ?_
            refine o_yes rfl rfl rfl h5 ?_
            refine o_q (q_len rfl und40 rfl) rfl rfl rfl ?_
            refine o_yes rfl rfl rfl h5 ?_
            refine o_q (q_lss rfl rfl) rfl rfl rfl ?_
            refine o_yes rfl rfl rfl h5 ?_
            refine o_q (q_bneq und4 rfl rfl) rfl rfl rfl ?_
            refine o_q (q_pick_c (t := true) rfl h5 (v_raw rfl)) rfl rfl rfl ?_
            refine o_nil ?_
            refine s_else rfl (by rw [okS_01]; simp) ?_
            refine s_skip ?_
            refine s_seq ?_
            refine s_region ?_
            refine o_q (q_mv (v_raw rfl)) rfl rfl rfl ?_
            refine o_q (q_mv (v_raw rfl)) rfl rfl rfl ?_
            refine o_yes rfl rfl rfl h5 ?_
            refine o_q (q_mv (v_raw rfl)) rfl rfl rfl ?_
            refine o_q (q_pick_c (t := true) rfl h5 (v_raw rfl)) rfl rfl rfl ?_
            refine o_nil ?_
            refine s_cond rfl (fun h6 => ?_) (fun h6 => ?_)
            · have k6 := h6; try simp only [decide_eq_true_eq, decide_eq_false_iff_not, Bool.not_eq_true', Bool.not_eq_false', Bool.not_true, Bool.not_false, List.length_map, Decidable.not_not] at k6
              refine s_region ?_
              refine o_qs (q_mv_own rfl) rfl rfl rfl rfl ?_
              refine o_q (q_fr fo38_4 rfl) rfl rfl rfl ?_
              refine o_q (q_ldm ag9 sz9 rfl (by repeat first | exact Mem.upd_self _ _ _ | assumption | refine Mem.upd_ne (by assumption) ?_) rfl (v_raw rfl)) rfl rfl rfl ?_
              refine o_q (q_bs slt40 (pc (v_raw rfl) pn) rfl (Els.cons rfl rfl Els.nil) (by decide)) rfl rfl rfl ?_
              refine o_qs (q_app slt40 rfl rfl rfl rfl (by first | exact els_str | exact els_drop (els_take els_str) | exact Els.cons rfl rfl Els.nil) (by first | exact (by first | exact els_str | exact els_drop (els_take els_str) | exact Els.cons rfl rfl Els.nil) | exact Els.cons rfl rfl Els.nil) (by simp; omega)) rfl rfl rfl rfl ?_
              refine o_qs (q_as_own rfl) rfl rfl rfl rfl ?_
              refine o_nil ?_
              refine s_blk_normal ?_
              refine s_inv ?_
              first
              | exact (nomatch (hat.symm.trans hk : true = false))
              | exact ⟨_, _, _, _, St.mkT (kp (kp (kp (kp (kp rfl rfl) rfl) rfl) (congrArg (fun l => AVal.sl l true) (send_yes (by assumption)))) rfl).symm, hA1.next hN1 hC1⟩
              | exact ⟨_, _, _, _, St.mkT (kp (kp (kp (kp (kp rfl rfl) rfl) rfl) (congrArg (fun l => AVal.sl l true) (by rw [okS_no (by assumption)]))) rfl).symm, hA1.next hN1 hC1⟩
              | exact ⟨_, _, _, _, St.mkT (kp (kp (kp (kp (kp rfl rfl) rfl) rfl) (congrArg (fun l => AVal.sl l true) (by rw [send_other hnw]))) rfl).symm, hA1.next hN1 hC1⟩
              | exact ⟨_, _, _, _, St.mkT (kp (kp (kp (kp (kp rfl rfl) rfl) rfl) (congrArg (fun l => AVal.sl l true) (by rw [at_other hnw]))) rfl).symm, hA1.next hN1 hC1⟩
              | exact ⟨_, _, _, _, St.mkT (kp (kp (kp (kp (kp rfl rfl) rfl) rfl) (congrArg (fun l => AVal.sl l true) (by rw [dbl_other hnw]))) rfl).symm, hA1.next hN1 hC1⟩
              | exact ⟨_, _, _, _, St.mkT (kp (kp (kp (kp (kp rfl rfl) rfl) rfl) (congrArg (fun l => AVal.sl l true) (by rw [at_no (by assumption)]))) rfl).symm, hA1.next hN1 hC1⟩
              | exact ⟨_, _, _, _, St.mkT (kp (kp (kp (kp (kp rfl rfl) rfl) rfl) (congrArg (fun l => AVal.sl l true) (by rw [dbl_no (by assumption)]))) rfl).symm, hA1.next hN1 hC1⟩
              | exact ⟨_, _, _, _, St.mkT (kp (kp (kp (kp (kp rfl rfl) rfl) rfl) (congrArg (fun l => AVal.sl l true) (dbl_yes hjl hat hok))) rfl).symm, hA1.next hN1 hC1⟩
              | exact ⟨_, _, _, _, St.mkT (kp (kp (kp (kp (kp rfl rfl) rfl) rfl) (congrArg (fun l => AVal.sl l true) (Eq.trans (er_eq (j := j) (by first | rfl | omega | simp) (by first | rfl | simp)) (at_yes hat)))) rfl).symm, hA1.next hN1 hC1⟩
            · have k6 := h6; try simp only [decide_eq_true_eq, decide_eq_false_iff_not, Bool.not_eq_true', Bool.not_eq_false', Bool.not_true, Bool.not_false, List.length_map, Decidable.not_not] at k6
              refine s_skip ?_
              refine s_blk_normal ?_
              refine s_inv ?_
              first
              | exact (nomatch (hat.symm.trans hk : true = false))
              | exact ⟨_, _, _, _, St.mkT (kp (kp (kp (kp (kp rfl rfl) rfl) rfl) (congrArg (fun l => AVal.sl l true) (send_yes (by assumption)))) rfl).symm, hA1.next hN1 hC1⟩
              | exact ⟨_, _, _, _, St.mkT (kp (kp (kp (kp (kp rfl rfl) rfl) rfl) (congrArg (fun l => AVal.sl l true) (by rw [okS_no (by assumption)]))) rfl).symm, hA1.next hN1 hC1⟩
              | exact ⟨_, _, _, _, St.mkT (kp (kp (kp (kp (kp rfl rfl) rfl) rfl) (congrArg (fun l => AVal.sl l true) (by rw [send_other hnw]))) rfl).symm, hA1.next hN1 hC1⟩
              | exact ⟨_, _, _, _, St.mkT (kp (kp (kp (kp (kp rfl rfl) rfl) rfl) (congrArg (fun l => AVal.sl l true) (by rw [at_other hnw]))) rfl).symm, hA1.next hN1 hC1⟩
              | exact ⟨_, _, _, _, St.mkT (kp (kp (kp (kp (kp rfl rfl) rfl) rfl) (congrArg (fun l => AVal.sl l true) (by rw [dbl_other hnw]))) rfl).symm, hA1.next hN1 hC1⟩
              | exact ⟨_, _, _, _, St.mkT (kp (kp (kp (kp (kp rfl rfl) rfl) rfl) (congrArg (fun l => AVal.sl l true) (by rw [at_no (by assumption)]))) rfl).symm, hA1.next hN1 hC1⟩
              | exact ⟨_, _, _, _, St.mkT (kp (kp (kp (kp (kp rfl rfl) rfl) rfl) (congrArg (fun l => AVal.sl l true) (by rw [dbl_no (by assumption)]))) rfl).symm, hA1.next hN1 hC1⟩
              | exact ⟨_, _, _, _, St.mkT (kp (kp (kp (kp (kp rfl rfl) rfl) rfl) (congrArg (fun l => AVal.sl l true) (dbl_yes hjl hat hok))) rfl).symm, hA1.next hN1 hC1⟩
              | exact ⟨_, _, _, _, St.mkT (kp (kp (kp (kp (kp rfl rfl) rfl) rfl) (congrArg (fun l => AVal.sl l true) (Eq.trans (er_eq (j := j) (by first | rfl | omega | simp) (by first | rfl | simp)) (at_yes hat)))) rfl).symm, hA1.next hN1 hC1⟩
          · have k5 := h5; try simp only [decide_eq_true_eq, decide_eq_false_iff_not, Bool.not_eq_true', Bool.not_eq_false', Bool.not_true, Bool.not_false, List.length_map, Decidable.not_not] at k5
            have hnw : ¬ (a = 0 ∧ b = 1) := fun hh => by simp [hh] at h5
            refine o_no rfl rfl rfl rfl h5 ?_
            refine o_no rfl rfl rfl rfl h5 ?_
            refine o_no rfl rfl rfl rfl h5 ?_
            refine o_no rfl rfl rfl rfl h5 ?_
            refine o_no rfl rfl rfl rfl h5 ?_
            refine o_q (q_pick_c (t := false) rfl h5 (v_raw rfl)) rfl rfl rfl ?_
            refine o_nil ?_
            refine s_else rfl rfl ?_
            refine s_skip ?_
            refine s_seq ?_
            refine s_region ?_
            refine o_q (q_mv (v_raw rfl)) rfl rfl rfl ?_
            refine o_q (q_mv (v_raw rfl)) rfl rfl rfl ?_
            refine o_no rfl rfl rfl rfl h5 ?_
            refine o_q (q_pick_c (t := false) rfl h5 (v_raw rfl)) rfl rfl rfl ?_
            refine o_nil ?_
            refine s_else rfl rfl ?_
            refine s_skip ?_
            refine s_blk_normal ?_
            refine s_inv ?_
            first
            | exact (nomatch (hat.symm.trans hk : true = false))
            | exact ⟨_, _, _, _, St.mkT (kp (kp (kp (kp (kp rfl rfl) rfl) rfl) (congrArg (fun l => AVal.sl l true) (send_yes (by assumption)))) rfl).symm, hA1.next hN1 hC1⟩
            | exact ⟨_, _, _, _, St.mkT (kp (kp (kp (kp (kp rfl rfl) rfl) rfl) (congrArg (fun l => AVal.sl l true) (by rw [okS_no (by assumption)]))) rfl).symm, hA1.next hN1 hC1⟩
            | exact ⟨_, _, _, _, St.mkT (kp (kp (kp (kp (kp rfl rfl) rfl) rfl) (congrArg (fun l => AVal.sl l true) (by rw [send_other hnw]))) rfl).symm, hA1.next hN1 hC1⟩
            | exact ⟨_, _, _, _, St.mkT (kp (kp (kp (kp (kp rfl rfl) rfl) rfl) (congrArg (fun l => AVal.sl l true) (by rw [at_other hnw]))) rfl).symm, hA1.next hN1 hC1⟩
            | exact ⟨_, _, _, _, St.mkT (kp (kp (kp (kp (kp rfl rfl) rfl) rfl) (congrArg (fun l => AVal.sl l true) (by rw [dbl_other hnw]))) rfl).symm, hA1.next hN1 hC1⟩
            | exact ⟨_, _, _, _, St.mkT (kp (kp (kp (kp (kp rfl rfl) rfl) rfl) (congrArg (fun l => AVal.sl l true) (by rw [at_no (by assumption)]))) rfl).symm, hA1.next hN1 hC1⟩
            | exact ⟨_, _, _, _, St.mkT (kp (kp (kp (kp (kp rfl rfl) rfl) rfl) (congrArg (fun l => AVal.sl l true) (by rw [dbl_no (by assumption)]))) rfl).symm, hA1.next hN1 hC1⟩
            | exact ⟨_, _, _, _, St.mkT (kp (kp (kp (kp (kp rfl rfl) rfl) rfl) (congrArg (fun l => AVal.sl l true) (dbl_yes hjl hat hok))) rfl).symm, hA1.next hN1 hC1⟩
            | exact ⟨_, _, _, _, St.mkT (kp (kp (kp (kp (kp rfl rfl) rfl) rfl) (congrArg (fun l => AVal.sl l true) (Eq.trans (er_eq (j := j) (by first | rfl | omega | simp) (by first | rfl | simp)) (at_yes hat)))) rfl).symm, hA1.next hN1 hC1⟩
        · have k4 := h4; try simp only [decide_eq_true_eq, decide_eq_false_iff_not, Bool.not_eq_true', Bool.not_eq_false', Bool.not_true, Bool.not_false, List.length_map, Decidable.not_not] at k4
          refine s_seq ?_
          refine s_region ?_
          refine o_q (q_eql rfl rfl) rfl rfl rfl ?_
          refine o_q (q_as (v_raw rfl)) rfl rfl rfl ?_
          refine o_nil ?_
          refine s_cond rfl (fun h7 => ?_) (fun h7 => ?_)
          · have k7 := h7; try simp only [decide_eq_true_eq, decide_eq_false_iff_not, Bool.not_eq_true', Bool.not_eq_false', Bool.not_true, Bool.not_false, List.length_map, Decidable.not_not] at k7
            refine s_seq ?_
            refine s_region ?_
            refine o_q (q_mv ((by first | exact v_raw rfl | exact v_sptr rfl))) rfl rfl rfl ?_
            refine o_q (q_mv (v_raw rfl)) rfl rfl rfl ?_
            refine o_q (q_mv (v_raw rfl)) rfl rfl rfl ?_
            refine o_q (q_fr fo38_3 rfl) rfl rfl rfl ?_
            refine o_q (q_ldm ag3 sz3 rfl (by repeat first | exact Mem.upd_self _ _ _ | assumption | refine Mem.upd_ne (by assumption) ?_) rfl (v_raw rfl)) rfl rfl rfl ?_
            refine o_callx ((takeA hA1.net ha hb I)) goes13 (ac ((by first | exact v_raw rfl | exact v_sptr rfl)) (ac (v_raw rfl) (ac (v_raw rfl) (ac (v_raw rfl) ac_nil)))) rfl ?_
            rintro r' M' ⟨O1, rfl, hN1, hC1⟩
            obtain ⟨hB', hOB'⟩ := hC1.keep hB hOB
            refine o_q (q_mv (v_tup rfl)) rfl rfl rfl ?_
            refine o_q (q_ext rfl rfl (v_raw rfl)) rfl rfl rfl ?_
            refine o_q (q_ext rfl rfl (v_raw rfl)) rfl rfl rfl ?_
            refine o_q (q_as (v_raw rfl)) rfl rfl rfl ?_
            refine o_q (q_as (v_raw rfl)) rfl rfl rfl ?_
            refine o_nil ?_
            refine s_seq ?_
            refine s_seq ?_
            refine s_region ?_
            refine o_q (q_mv (v_raw rfl)) rfl rfl rfl ?_
            refine o_q (q_not rfl) rfl rfl rfl ?_
            refine o_nil ?_
            refine s_cond rfl (fun h8 => ?_) (fun h8 => ?_)
            · have k8 := h8; try simp only [decide_eq_true_eq, decide_eq_false_iff_not, Bool.not_eq_true', Bool.not_eq_false', Bool.not_true, Bool.not_false, List.length_map, Decidable.not_not] at k8
              have hnw : ¬ (a = 0 ∧ b = 1) := fun hh => by simp [hh] at h8
              refine s_exit ?_
              refine s_code_exit ?_
              refine s_blk_exit rfl ?_
              refine s_inv_exit ?_
              refine s_code_exit ?_
              refine s_blk_here ?_
              refine s_region ?_
              refine o_q (q_mv (v_raw rfl)) rfl rfl rfl ?_
              refine o_q (q_add rfl rfl (wrap64 (by omega) (by omega))) rfl rfl rfl ?_
              refine o_q (q_as (v_raw rfl)) rfl rfl rfl ?_
              refine o_nil ?_
              refine s_inv ?_
              first
              | exact ⟨l.length - (i + 1), by omega, _, _, _, _, i + 1, St.mkT (kp (kp (kp (kp (kp rfl rfl) rfl) rfl) rfl) rfl).symm, hA2, by omega, rfl⟩
              | exact ⟨l.length - (i + 1), by omega, _, _, _, _, i + 1, St.mkT (kp (kp (kp (kp (kp rfl rfl) rfl) rfl) (congrArg (fun l => AVal.sl l true) (by rw [at_other hnw]))) rfl).symm, hA1.next hN1 hC1, by omega, rfl⟩
            · have k8 := h8; try simp only [decide_eq_true_eq, decide_eq_false_iff_not, Bool.not_eq_true', Bool.not_eq_false', Bool.not_true, Bool.not_false, List.length_map, Decidable.not_not] at k8
              obtain ⟨rfl, rfl⟩ : a = 0 ∧ b = 1 := by simpa using h8
              refine s_skip ?_
              refine s_seq ?_
              refine s_seq ?_
              refine s_region ?_
              refine o_q (q_mv (v_raw rfl)) rfl rfl rfl ?_
              refine o_q (q_fr fo38_3 rfl) rfl rfl rfl ?_
              refine o_q (q_ldm ag3 sz3 rfl (by repeat first | exact Mem.upd_self _ _ _ | assumption | refine Mem.upd_ne (by assumption) ?_) rfl (v_raw rfl)) rfl rfl rfl ?_
              refine o_q (q_geq rfl rfl) rfl rfl rfl ?_
              refine o_q (q_mv (v_raw rfl)) rfl rfl rfl ?_
              refine o_cases (want := true) (j := 4) rfl rfl (fun h9 => ?_) (fun h9 => ?_)
              · have k9 := h9; try simp only [decide_eq_true_eq, decide_eq_false_iff_not, Bool.not_eq_true', Bool.not_eq_false', Bool.not_true, Bool.not_false, List.length_map, Decidable.not_not] at k9
                have hk : atB q 0 1 I = decide (I < ((q (0, 1)).length : Int)) := by unfold atB; rw [decide_eq_decide]; omega
                refine o_yes rfl rfl rfl h9 ?_
                refine o_q (q_fr fo38_3 rfl) rfl rfl rfl ?_
                refine o_yes rfl rfl rfl h9 ?_
                refine o_q (q_ldm ag3 sz3 rfl (by repeat first | exact Mem.upd_self _ _ _ | assumption | refine Mem.upd_ne (by assumption) ?_) rfl (v_raw rfl)) rfl rfl rfl ?_
                refine o_yes rfl rfl rfl h9 ?_
                refine o_q (q_mv (v_sl rfl)) rfl rfl rfl ?_
                refine o_yes rfl rfl rfl h9 ?_
                refine o_q (q_len rfl und40 rfl) rfl rfl rfl ?_
                refine o_yes rfl rfl rfl h9 ?_
                refine o_q (q_lss rfl rfl) rfl rfl rfl ?_
                refine o_q (q_pick_c (t := true) rfl h9 (v_raw rfl)) rfl rfl rfl ?_
                refine o_q (q_bneq und4 rfl rfl) rfl rfl rfl ?_
                refine o_q (q_mv (v_raw rfl)) rfl rfl rfl ?_
                refine o_yes rfl rfl rfl (by rw [hk]; simp) ?_
                refine o_q (q_mv (v_raw rfl)) rfl rfl rfl ?_
                refine o_yes rfl rfl rfl (by rw [hk]; simp) ?_
                refine o_q (q_mv (v_raw rfl)) rfl rfl rfl ?_
                refine o_cases (want := true) (j := 14) rfl rfl (fun h10 => ?_) (fun h10 => ?_)
                · have k10 := h10; try simp only [decide_eq_true_eq, decide_eq_false_iff_not, Bool.not_eq_true', Bool.not_eq_false', Bool.not_true, Bool.not_false, List.length_map, Decidable.not_not] at k10
                  have hat : atB q 0 1 I = true := h10
                  obtain ⟨hI0, hI1⟩ := of_decide_eq_true hat
                  obtain ⟨j, rfl⟩ : ∃ j : Nat, I = j := Int.eq_ofNat_of_zero_le hI0
                  have hjl : j < (q (0, 1)).length := by omega
                  refine o_yes rfl rfl rfl h10 ?_
                  refine o_q (q_mv (v_raw rfl)) rfl rfl rfl ?_
                  refine o_yes rfl rfl rfl h10 ?_
                  refine o_q (q_mv (v_sl rfl)) rfl rfl rfl ?_
                  refine o_yes rfl rfl rfl h10 ?_
                  refine o_q (q_fr fo38_3 rfl) rfl rfl rfl ?_
                  refine o_yes rfl rfl rfl h10 ?_
                  refine o_q (q_ldm ag3 sz3 rfl (by repeat first | exact Mem.upd_self _ _ _ | assumption | refine Mem.upd_ne (by assumption) ?_) rfl (v_raw rfl)) rfl rfl rfl ?_
                  refine o_yes rfl rfl rfl h10 ?_
                  refine o_q (q_idx und40 sz9 rfl rfl (by omega) (gm j (by first | omega | simp)) rfl) rfl rfl rfl ?_
                  refine o_yes rfl rfl rfl h10 ?_
                  refine o_q (q_ld ag9 sz9 rfl (gm j (by first | omega | simp)) rfl (v_raw rfl)) rfl rfl rfl ?_
                  refine o_yes rfl rfl rfl h10 ?_
                  refine o_q (q_sneq rfl rfl) rfl rfl rfl ?_
                  refine o_yes rfl rfl rfl (by rw [hk]; simp) ?_
                  refine o_q (q_pick_c (t := true) rfl h10 (v_raw rfl)) rfl rfl rfl ?_
                  refine o_q (q_pick_c (t := false) rfl (by rw [hk]; simp) (v_raw rfl)) rfl rfl rfl ?_
                  refine o_nil ?_
                  refine s_else rfl (by rw [atS_in hjl]; simp) ?_
                  refine s_skip ?_
                  refine s_seq ?_
                  refine s_region ?_
                  refine o_q (q_mv (v_raw rfl)) rfl rfl rfl ?_
                  refine o_nil ?_
                  refine s_then rfl h10 ?_
                  refine s_draw rfl ?_
                  refine d_q rfl (q_mv (v_sl rfl)) rfl rfl rfl ?_
                  refine d_q rfl (q_fr fo38_3 rfl) rfl rfl rfl ?_
                  refine d_q rfl (q_ldm ag3 sz3 rfl (by repeat first | exact Mem.upd_self _ _ _ | assumption | refine Mem.upd_ne (by assumption) ?_) rfl (v_raw rfl)) rfl rfl rfl ?_
                  refine d_q rfl (q_slice und40 sz9 rfl (by first | exact els_str | exact els_drop (els_take els_str) | exact Els.cons rfl rfl Els.nil) ab_none (ab rfl rfl) (by first | omega | (simp; omega)) (by first | omega | (simp; omega))) rfl rfl rfl ?_
                  refine d_q rfl (q_app_nil slt40 rfl rfl rfl (by first | exact els_str | exact els_drop (els_take els_str) | exact Els.cons rfl rfl Els.nil) (by simp; omega)) rfl rfl rfl ?_
                  refine d_q rfl (q_mv (v_sl rfl)) rfl rfl rfl ?_
                  refine d_q rfl (q_fr fo38_3 rfl) rfl rfl rfl ?_
                  refine d_q rfl (q_ldm ag3 sz3 rfl (by repeat first | exact Mem.upd_self _ _ _ | assumption | refine Mem.upd_ne (by assumption) ?_) rfl (v_raw rfl)) rfl rfl rfl ?_
                  refine d_q rfl (q_add rfl rfl (wrap64 (by omega) (by omega))) rfl rfl rfl ?_
                  refine d_q rfl (q_slice und40 sz9 rfl (by first | exact els_str | exact els_drop (els_take els_str) | exact Els.cons rfl rfl Els.nil) (ab rfl rfl) ab_none (by first | omega | (simp; omega)) (by first | omega | (simp; omega))) rfl rfl rfl ?_
                  refine d_qs rfl (q_app slt40 rfl rfl rfl rfl (by first | exact els_str | exact els_drop (els_take els_str) | exact Els.cons rfl rfl Els.nil) (by first | exact (by first | exact els_str | exact els_drop (els_take els_str) | exact Els.cons rfl rfl Els.nil) | exact Els.cons rfl rfl Els.nil) (by simp; omega)) rfl rfl rfl rfl ?_
                  refine d_qs rfl (q_as_own rfl) rfl rfl rfl rfl ?_
                  refine d_nil ?_
                  refine s_blk_normal ?_
                  refine s_inv ?_
                  first
                  | exact (nomatch (hat.symm.trans hk : true = false))
                  | exact ⟨_, _, _, _, St.mkT (kp (kp (kp (kp (kp rfl rfl) rfl) rfl) (congrArg (fun l => AVal.sl l true) (send_yes (by assumption)))) rfl).symm, hA1.next hN1 hC1⟩
                  | exact ⟨_, _, _, _, St.mkT (kp (kp (kp (kp (kp rfl rfl) rfl) rfl) (congrArg (fun l => AVal.sl l true) (by rw [okS_no (by assumption)]))) rfl).symm, hA1.next hN1 hC1⟩
                  | exact ⟨_, _, _, _, St.mkT (kp (kp (kp (kp (kp rfl rfl) rfl) rfl) (congrArg (fun l => AVal.sl l true) (by rw [send_other hnw]))) rfl).symm, hA1.next hN1 hC1⟩
                  | exact ⟨_, _, _, _, St.mkT (kp (kp (kp (kp (kp rfl rfl) rfl) rfl) (congrArg (fun l => AVal.sl l true) (by rw [at_other hnw]))) rfl).symm, hA1.next hN1 hC1⟩
                  | exact ⟨_, _, _, _, St.mkT (kp (kp (kp (kp (kp rfl rfl) rfl) rfl) (congrArg (fun l => AVal.sl l true) (by rw [dbl_other hnw]))) rfl).symm, hA1.next hN1 hC1⟩
                  | exact ⟨_, _, _, _, St.mkT (kp (kp (kp (kp (kp rfl rfl) rfl) rfl) (congrArg (fun l => AVal.sl l true) (by rw [at_no (by assumption)]))) rfl).symm, hA1.next hN1 hC1⟩
                  | exact ⟨_, _, _, _, St.mkT (kp (kp (kp (kp (kp rfl rfl) rfl) rfl) (congrArg (fun l => AVal.sl l true) (by rw [dbl_no (by assumption)]))) rfl).symm, hA1.next hN1 hC1⟩
                  | exact ⟨_, _, _, _, St.mkT (kp (kp (kp (kp (kp rfl rfl) rfl) rfl) (congrArg (fun l => AVal.sl l true) (dbl_yes hjl hat hok))) rfl).symm, hA1.next hN1 hC1⟩
                  | exact ⟨_, _, _, _, St.mkT (kp (kp (kp (kp (kp rfl rfl) rfl) rfl) (congrArg (fun l => AVal.sl l true) (Eq.trans (er_eq (j := j) (by first | rfl | omega | simp) (by first | rfl | simp)) (at_yes hat)))) rfl).symm, hA1.next hN1 hC1⟩
                · have k10 := h10; try simp only [decide_eq_true_eq, decide_eq_false_iff_not, Bool.not_eq_true', Bool.not_eq_false', Bool.not_true, Bool.not_false, List.length_map, Decidable.not_not] at k10
                  have hat : atB q 0 1 I = false := h10
                  refine o_no rfl rfl rfl rfl h10 ?_
                  refine o_no rfl rfl rfl rfl h10 ?_
                  refine o_no rfl rfl rfl rfl h10 ?_
                  refine o_no rfl rfl rfl rfl h10 ?_
                  refine o_no rfl rfl rfl rfl h10 ?_
                  refine o_no rfl rfl rfl rfl h10 ?_
                  refine o_no rfl rfl rfl rfl h10 ?_
                  refine o_yes rfl rfl rfl (by rw [hk]; simp) ?_
                  refine o_q (q_pick_c (t := false) rfl h10 (v_raw rfl)) rfl rfl rfl ?_
                  refine o_q (q_pick_c (t := false) rfl (by rw [hk]; simp) (v_raw rfl)) rfl rfl rfl ?_
                  refine o_nil ?_
                  refine s_else rfl rfl ?_
                  refine s_skip ?_
                  refine s_seq ?_
                  refine s_region ?_
                  refine o_q (q_mv (v_raw rfl)) rfl rfl rfl ?_
                  refine o_nil ?_
                  refine s_else rfl h10 ?_
                  refine s_skip ?_
                  refine s_blk_normal ?_
                  refine s_inv ?_
                  first
                  | exact (nomatch (hat.symm.trans hk : true = false))
                  | exact ⟨_, _, _, _, St.mkT (kp (kp (kp (kp (kp rfl rfl) rfl) rfl) (congrArg (fun l => AVal.sl l true) (send_yes (by assumption)))) rfl).symm, hA1.next hN1 hC1⟩
                  | exact ⟨_, _, _, _, St.mkT (kp (kp (kp (kp (kp rfl rfl) rfl) rfl) (congrArg (fun l => AVal.sl l true) (by rw [okS_no (by assumption)]))) rfl).symm, hA1.next hN1 hC1⟩
                  | exact ⟨_, _, _, _, St.mkT (kp (kp (kp (kp (kp rfl rfl) rfl) rfl) (congrArg (fun l => AVal.sl l true) (by rw [send_other hnw]))) rfl).symm, hA1.next hN1 hC1⟩
                  | exact ⟨_, _, _, _, St.mkT (kp (kp (kp (kp (kp rfl rfl) rfl) rfl) (congrArg (fun l => AVal.sl l true) (by rw [at_other hnw]))) rfl).symm, hA1.next hN1 hC1⟩
                  | exact ⟨_, _, _, _, St.mkT (kp (kp (kp (kp (kp rfl rfl) rfl) rfl) (congrArg (fun l => AVal.sl l true) (by rw [dbl_other hnw]))) rfl).symm, hA1.next hN1 hC1⟩
                  | exact ⟨_, _, _, _, St.mkT (kp (kp (kp (kp (kp rfl rfl) rfl) rfl) (congrArg (fun l => AVal.sl l true) (by rw [at_no (by assumption)]))) rfl).symm, hA1.next hN1 hC1⟩
                  | exact ⟨_, _, _, _, St.mkT (kp (kp (kp (kp (kp rfl rfl) rfl) rfl) (congrArg (fun l => AVal.sl l true) (by rw [dbl_no (by assumption)]))) rfl).symm, hA1.next hN1 hC1⟩
                  | exact ⟨_, _, _, _, St.mkT (kp (kp (kp (kp (kp rfl rfl) rfl) rfl) (congrArg (fun l => AVal.sl l true) (dbl_yes hjl hat hok))) rfl).symm, hA1.next hN1 hC1⟩
                  | exact ⟨_, _, _, _, St.mkT (kp (kp (kp (kp (kp rfl rfl) rfl) rfl) (congrArg (fun l => AVal.sl l true) (Eq.trans (er_eq (j := j) (by first | rfl | omega | simp) (by first | rfl | simp)) (at_yes hat)))) rfl).symm, hA1.next hN1 hC1⟩
              · have k9 := h9; try simp only [decide_eq_true_eq, decide_eq_false_iff_not, Bool.not_eq_true', Bool.not_eq_false', Bool.not_true, Bool.not_false, List.length_map, Decidable.not_not] at k9
                have hk : atB q 0 1 I = false := decide_eq_false (by omega)
                refine o_no rfl rfl rfl rfl h9 ?_
                refine o_no rfl rfl rfl rfl h9 ?_
                refine o_no rfl rfl rfl rfl h9 ?_
                refine o_no rfl rfl rfl rfl h9 ?_
                refine o_no rfl rfl rfl rfl h9 ?_
                refine o_q (q_pick_c (t := false) rfl h9 (v_raw rfl)) rfl rfl rfl ?_
                refine o_q (q_bneq und4 rfl rfl) rfl rfl rfl ?_
                refine o_q (q_mv (v_raw rfl)) rfl rfl rfl ?_
                refine o_yes rfl rfl rfl (by rw [hk]; simp) ?_
                refine o_q (q_mv (v_raw rfl)) rfl rfl rfl ?_
                refine o_yes rfl rfl rfl (by rw [hk]; simp) ?_
                refine o_q (q_mv (v_raw rfl)) rfl rfl rfl ?_
                refine o_cases (want := true) (j := 14) rfl rfl (fun h11 => ?_) (fun h11 => ?_)
                · have k11 := h11; try simp only [decide_eq_true_eq, decide_eq_false_iff_not, Bool.not_eq_true', Bool.not_eq_false', Bool.not_true, Bool.not_false, List.length_map, Decidable.not_not] at k11
                  have hat : atB q 0 1 I = true := h11
                  obtain ⟨hI0, hI1⟩ := of_decide_eq_true hat
                  obtain ⟨j, rfl⟩ : ∃ j : Nat, I = j := Int.eq_ofNat_of_zero_le hI0
                  have hjl : j < (q (0, 1)).length := by omega
                  refine o_yes rfl rfl rfl h11 ?_
                  refine o_q (q_mv (v_raw rfl)) rfl rfl rfl ?_
                  refine o_yes rfl rfl rfl h11 ?_
                  refine o_q (q_mv (v_sl rfl)) rfl rfl rfl ?_
                  refine o_yes rfl rfl rfl h11 ?_
                  refine o_q (q_fr fo38_3 rfl) rfl rfl rfl ?_
                  refine o_yes rfl rfl rfl h11 ?_
                  refine o_q (q_ldm ag3 sz3 rfl (by repeat first | exact Mem.upd_self _ _ _ | assumption | refine Mem.upd_ne (by assumption) ?_) rfl (v_raw rfl)) rfl rfl rfl ?_
                  refine o_yes rfl rfl rfl h11 ?_
                  refine o_q (q_idx und40 sz9 rfl rfl (by omega) (gm j (by first | omega | simp)) rfl) rfl rfl rfl ?_
                  refine o_yes rfl rfl rfl h11 ?_
                  refine o_q (q_ld ag9 sz9 rfl (gm j (by first | omega | simp)) rfl (v_raw rfl)) rfl rfl rfl ?_
                  refine o_yes rfl rfl rfl h11 ?_
                  refine o_q (q_sneq rfl rfl) rfl rfl rfl ?_
                  refine o_yes rfl rfl rfl (by rw [hk]; simp) ?_
                  refine o_q (q_pick_c (t := true) rfl h11 (v_raw rfl)) rfl rfl rfl ?_
                  refine o_q (q_pick_c (t := false) rfl (by rw [hk]; simp) (v_raw rfl)) rfl rfl rfl ?_
                  refine o_nil ?_
                  refine s_else rfl (by rw [atS_in hjl]; simp) ?_
                  refine s_skip ?_
                  refine s_seq ?_
                  refine s_region ?_
                  refine o_q (q_mv (v_raw rfl)) rfl rfl rfl ?_
                  refine o_nil ?_
                  refine s_then rfl h11 ?_
                  refine s_draw rfl ?_
                  refine d_q rfl (q_mv (v_sl rfl)) rfl rfl rfl ?_
                  refine d_q rfl (q_fr fo38_3 rfl) rfl rfl rfl ?_
                  refine d_q rfl (q_ldm ag3 sz3 rfl (by repeat first | exact Mem.upd_self _ _ _ | assumption | refine Mem.upd_ne (by assumption) ?_) rfl (v_raw rfl)) rfl rfl rfl ?_
                  refine d_q rfl (q_slice und40 sz9 rfl (by first | exact els_str | exact els_drop (els_take els_str) | exact Els.cons rfl rfl Els.nil) ab_none (ab rfl rfl) (by first | omega | (simp; omega)) (by first | omega | (simp; omega))) rfl rfl rfl ?_
                  refine d_q rfl (q_app_nil slt40 rfl rfl rfl (by first | exact els_str | exact els_drop (els_take els_str) | exact Els.cons rfl rfl Els.nil) (by simp; omega)) rfl rfl rfl ?_
                  refine d_q rfl (q_mv (v_sl rfl)) rfl rfl rfl ?_
                  refine d_q rfl (q_fr fo38_3 rfl) rfl rfl rfl ?_
                  refine d_q rfl (q_ldm ag3 sz3 rfl (by repeat first | exact Mem.upd_self _ _ _ | assumption | refine Mem.upd_ne (by assumption) ?_) rfl (v_raw rfl)) rfl rfl rfl ?_
                  refine d_q rfl (q_add rfl rfl (wrap64 (by omega) (by omega))) rfl rfl rfl ?_
                  refine d_q rfl (q_slice und40 sz9 rfl (by first | exact els_str | exact els_drop (els_take els_str) | exact Els.cons rfl rfl Els.nil) (ab rfl rfl) ab_none (by first | omega | (simp; omega)) (by first | omega | (simp; omega))) rfl rfl rfl ?_
                  refine d_qs rfl (q_app slt40 rfl rfl rfl rfl (by first | exact els_str | exact els_drop (els_take els_str) | exact Els.cons rfl rfl Els.nil) (by first | exact (by first | exact els_str | exact els_drop (els_take els_str) | exact Els.cons rfl rfl Els.nil) | exact Els.cons rfl rfl Els.nil) (by simp; omega)) rfl rfl rfl rfl ?_
                  refine d_qs rfl (q_as_own rfl) rfl rfl rfl rfl ?_
                  refine d_nil ?_
                  refine s_blk_normal ?_
                  refine s_inv ?_
                  first
                  | exact (nomatch (hat.symm.trans hk : true = false))
                  | exact ⟨_, _, _, _, St.mkT (kp (kp (kp (kp (kp rfl rfl) rfl) rfl) (congrArg (fun l => AVal.sl l true) (send_yes (by assumption)))) rfl).symm, hA1.next hN1 hC1⟩
                  | exact ⟨_, _, _, _, St.mkT (kp (kp (kp (kp (kp rfl rfl) rfl) rfl) (congrArg (fun l => AVal.sl l true) (by rw [okS_no (by assumption)]))) rfl).symm, hA1.next hN1 hC1⟩
                  | exact ⟨_, _, _, _, St.mkT (kp (kp (kp (kp (kp rfl rfl) rfl) rfl) (congrArg (fun l => AVal.sl l true) (by rw [send_other hnw]))) rfl).symm, hA1.next hN1 hC1⟩
                  | exact ⟨_, _, _, _, St.mkT (kp (kp (kp (kp (kp rfl rfl) rfl) rfl) (congrArg (fun l => AVal.sl l true) (by rw [at_other hnw]))) rfl).symm, hA1.next hN1 hC1⟩
                  | exact ⟨_, _, _, _, St.mkT (kp (kp (kp (kp (kp rfl rfl) rfl) rfl) (congrArg (fun l => AVal.sl l true) (by rw [dbl_other hnw]))) rfl).symm, hA1.next hN1 hC1⟩
                  | exact ⟨_, _, _, _, St.mkT (kp (kp (kp (kp (kp rfl rfl) rfl) rfl) (congrArg (fun l => AVal.sl l true) (by rw [at_no (by assumption)]))) rfl).symm, hA1.next hN1 hC1⟩
                  | exact ⟨_, _, _, _, St.mkT (kp (kp (kp (kp (kp rfl rfl) rfl) rfl) (congrArg (fun l => AVal.sl l true) (by rw [dbl_no (by assumption)]))) rfl).symm, hA1.next hN1 hC1⟩
                  | exact ⟨_, _, _, _, St.mkT (kp (kp (kp (kp (kp rfl rfl) rfl) rfl) (congrArg (fun l => AVal.sl l true) (dbl_yes hjl hat hok))) rfl).symm, hA1.next hN1 hC1⟩
                  | exact ⟨_, _, _, _, St.mkT (kp (kp (kp (kp (kp rfl rfl) rfl) rfl) (congrArg (fun l => AVal.sl l true) (Eq.trans (er_eq (j := j) (by first | rfl | omega | simp) (by first | rfl | simp)) (at_yes hat)))) rfl).symm, hA1.next hN1 hC1⟩
                · have k11 := h11; try simp only [decide_eq_true_eq, decide_eq_false_iff_not, Bool.not_eq_true', Bool.not_eq_false', Bool.not_true, Bool.not_false, List.length_map, Decidable.not_not] at k11
                  have hat : atB q 0 1 I = false := h11
                  refine o_no rfl rfl rfl rfl h11 ?_
                  refine o_no rfl rfl rfl rfl h11 ?_
                  refine o_no rfl rfl rfl rfl h11 ?_
                  refine o_no rfl rfl rfl rfl h11 ?_
                  refine o_no rfl rfl rfl rfl h11 ?_
                  refine o_no rfl rfl rfl rfl h11 ?_
                  refine o_no rfl rfl rfl rfl h11 ?_
                  refine o_yes rfl rfl rfl (by rw [hk]; simp) ?_
                  refine o_q (q_pick_c (t := false) rfl h11 (v_raw rfl)) rfl rfl rfl ?_
                  refine o_q (q_pick_c (t := false) rfl (by rw [hk]; simp) (v_raw rfl)) rfl rfl rfl ?_
                  refine o_nil ?_
                  refine s_else rfl rfl ?_
                  refine s_skip ?_
                  refine s_seq ?_
                  refine s_region ?_
                  refine o_q (q_mv (v_raw rfl)) rfl rfl rfl ?_
                  refine o_nil ?_
                  refine s_else rfl h11 ?_
                  refine s_skip ?_
                  refine s_blk_normal ?_
                  refine s_inv ?_
                  first
                  | exact (nomatch (hat.symm.trans hk : true = false))
                  | exact ⟨_, _, _, _, St.mkT (kp (kp (kp (kp (kp rfl rfl) rfl) rfl) (congrArg (fun l => AVal.sl l true) (send_yes (by assumption)))) rfl).symm, hA1.next hN1 hC1⟩
                  | exact ⟨_, _, _, _, St.mkT (kp (kp (kp (kp (kp rfl rfl) rfl) rfl) (congrArg (fun l => AVal.sl l true) (by rw [okS_no (by assumption)]))) rfl).symm, hA1.next hN1 hC1⟩
                  | exact ⟨_, _, _, _, St.mkT (kp (kp (kp (kp (kp rfl rfl) rfl) rfl) (congrArg (fun l => AVal.sl l true) (by rw [send_other hnw]))) rfl).symm, hA1.next hN1 hC1⟩
                  | exact ⟨_, _, _, _, St.mkT (kp (kp (kp (kp (kp rfl rfl) rfl) rfl) (congrArg (fun l => AVal.sl l true) (by rw [at_other hnw]))) rfl).symm, hA1.next hN1 hC1⟩
                  | exact ⟨_, _, _, _, St.mkT (kp (kp (kp (kp (kp rfl rfl) rfl) rfl) (congrArg (fun l => AVal.sl l true) (by rw [dbl_other hnw]))) rfl).symm, hA1.next hN1 hC1⟩
                  | exact ⟨_, _, _, _, St.mkT (kp (kp (kp (kp (kp rfl rfl) rfl) rfl) (congrArg (fun l => AVal.sl l true) (by rw [at_no (by assumption)]))) rfl).symm, hA1.next hN1 hC1⟩
                  | exact ⟨_, _, _, _, St.mkT (kp (kp (kp (kp (kp rfl rfl) rfl) rfl) (congrArg (fun l => AVal.sl l true) (by rw [dbl_no (by assumption)]))) rfl).symm, hA1.next hN1 hC1⟩
                  | exact ⟨_, _, _, _, St.mkT (kp (kp (kp (kp (kp rfl rfl) rfl) rfl) (congrArg (fun l => AVal.sl l true) (dbl_yes hjl hat hok))) rfl).symm, hA1.next hN1 hC1⟩
                  | exact ⟨_, _, _, _, St.mkT (kp (kp (kp (kp (kp rfl rfl) rfl) rfl) (congrArg (fun l => AVal.sl l true) (Eq.trans (er_eq (j := j) (by first | rfl | omega | simp) (by first | rfl | simp)) (at_yes hat)))) rfl).symm, hA1.next hN1 hC1⟩
          · have k7 := h7; try simp only [decide_eq_true_eq, decide_eq_false_iff_not, Bool.not_eq_true', Bool.not_eq_false', Bool.not_true, Bool.not_false, List.length_map, Decidable.not_not] at k7
            refine s_seq ?_
            refine s_region ?_
            refine o_q (q_eql rfl rfl) rfl rfl rfl ?_
            refine o_q (q_as (v_raw rfl)) rfl rfl rfl ?_
            refine o_nil ?_
            refine s_cond rfl (fun h12 => ?_) (fun h12 => ?_)
            · have k12 := h12; try simp only [decide_eq_true_eq, decide_eq_false_iff_not, Bool.not_eq_true', Bool.not_eq_false', Bool.not_true, Bool.not_false, List.length_map, Decidable.not_not] at k12
              refine s_seq ?_
              refine s_region ?_
              refine o_q (q_mv ((by first | exact v_raw rfl | exact v_sptr rfl))) rfl rfl rfl ?_
              refine o_q (q_mv (v_raw rfl)) rfl rfl rfl ?_
              refine o_q (q_mv (v_raw rfl)) rfl rfl rfl ?_
              refine o_q (q_fr fo38_3 rfl) rfl rfl rfl ?_
              refine o_q (q_ldm ag3 sz3 rfl (by repeat first | exact Mem.upd_self _ _ _ | assumption | refine Mem.upd_ne (by assumption) ?_) rfl (v_raw rfl)) rfl rfl rfl ?_
              refine o_callx ((dbl12 hA1.net a b I)) goes12 (ac ((by first | exact v_raw rfl | exact v_sptr rfl)) (ac (v_raw rfl) (ac (v_raw rfl) (ac (v_raw rfl) ac_nil)))) rfl ?_
              rintro r' M' ⟨O1, rfl, hN1, hC1⟩
              obtain ⟨hB', hOB'⟩ := hC1.keep hB hOB
              refine o_q (q_as (v_raw rfl)) rfl rfl rfl ?_
              refine o_nil ?_
              refine s_seq ?_
              refine s_region ?_
              refine o_q (q_mv (v_raw rfl)) rfl rfl rfl ?_
              refine o_q (q_mv (v_raw rfl)) rfl rfl rfl ?_
              refine o_cases (want := true) (j := 1) rfl rfl (fun h13 => ?_) (fun h13 => ?_)
              · have k13 := h13; try simp only [decide_eq_true_eq, decide_eq_false_iff_not, Bool.not_eq_true', Bool.not_eq_false', Bool.not_true, Bool.not_false, List.length_map, Decidable.not_not] at k13
                obtain ⟨rfl, rfl⟩ : a = 0 ∧ b = 1 := by simpa using h13
                refine o_yes rfl rfl rfl h13 ?_
                refine o_q (q_mv (v_raw rfl)) rfl rfl rfl ?_
                refine o_q (q_pick_c (t := true) rfl h13 (v_raw rfl)) rfl rfl rfl ?_
                refine o_nil ?_
                refine s_cond rfl (fun h14 => ?_) (fun h14 => ?_)
                · have k14 := h14; try simp only [decide_eq_true_eq, decide_eq_false_iff_not, Bool.not_eq_true', Bool.not_eq_false', Bool.not_true, Bool.not_false, List.length_map, Decidable.not_not] at k14
                  have hao : (atB q 0 1 I && okS 3 q 0 1) = true := h14
                  obtain ⟨hat, hok⟩ := Bool.and_eq_true_iff.1 hao
                  obtain ⟨hI0, hI1⟩ := of_decide_eq_true hat
                  obtain ⟨j, rfl⟩ : ∃ j : Nat, I = j := Int.eq_ofNat_of_zero_le hI0
                  have hjl : j < (q (0, 1)).length := by omega
                  refine s_region ?_
                  refine o_qs (q_mv_own rfl) rfl rfl rfl rfl ?_
                  refine o_q (q_mv (v_sl rfl)) rfl rfl rfl ?_
                  refine o_q (q_fr fo38_3 rfl) rfl rfl rfl ?_
                  refine o_q (q_ldm ag3 sz3 rfl (by repeat first | exact Mem.upd_self _ _ _ | assumption | refine Mem.upd_ne (by assumption) ?_) rfl (v_raw rfl)) rfl rfl rfl ?_
                  refine o_q (q_idx und40 sz9 rfl rfl (by omega) (gm j (by first | omega | simp)) rfl) rfl rfl rfl ?_
                  refine o_q (q_ld ag9 sz9 rfl (gm j (by first | omega | simp)) rfl (v_raw rfl)) rfl rfl rfl ?_
                  refine o_q (q_bs slt40 (pc (v_raw rfl) pn) rfl (Els.cons rfl rfl Els.nil) (by decide)) rfl rfl rfl ?_
                  refine o_qs (q_app slt40 rfl rfl rfl rfl (by first | exact els_str | exact els_drop (els_take els_str) | exact Els.cons rfl rfl Els.nil) (by first | exact (by first | exact els_str | exact els_drop (els_take els_str) | exact Els.cons rfl rfl Els.nil) | exact Els.cons rfl rfl Els.nil) (by simp; omega)) rfl rfl rfl rfl ?_
                  refine o_qs (q_as_own rfl) rfl rfl rfl rfl ?_
                  refine o_nil ?_
                  refine s_blk_normal ?_
                  refine s_inv ?_
                  first
                  | exact (nomatch (hat.symm.trans hk : true = false))
                  | exact ⟨_, _, _, _, St.mkT (kp (kp (kp (kp (kp rfl rfl) rfl) rfl) (congrArg (fun l => AVal.sl l true) (send_yes (by assumption)))) rfl).symm, hA1.next hN1 hC1⟩
                  | exact ⟨_, _, _, _, St.mkT (kp (kp (kp (kp (kp rfl rfl) rfl) rfl) (congrArg (fun l => AVal.sl l true) (by rw [okS_no (by assumption)]))) rfl).symm, hA1.next hN1 hC1⟩
                  | exact ⟨_, _, _, _, St.mkT (kp (kp (kp (kp (kp rfl rfl) rfl) rfl) (congrArg (fun l => AVal.sl l true) (by rw [send_other hnw]))) rfl).symm, hA1.next hN1 hC1⟩
                  | exact ⟨_, _, _, _, St.mkT (kp (kp (kp (kp (kp rfl rfl) rfl) rfl) (congrArg (fun l => AVal.sl l true) (by rw [at_other hnw]))) rfl).symm, hA1.next hN1 hC1⟩
                  | exact ⟨_, _, _, _, St.mkT (kp (kp (kp (kp (kp rfl rfl) rfl) rfl) (congrArg (fun l => AVal.sl l true) (by rw [dbl_other hnw]))) rfl).symm, hA1.next hN1 hC1⟩
                  | exact ⟨_, _, _, _, St.mkT (kp (kp (kp (kp (kp rfl rfl) rfl) rfl) (congrArg (fun l => AVal.sl l true) (by rw [at_no (by assumption)]))) rfl).symm, hA1.next hN1 hC1⟩
                  | exact ⟨_, _, _, _, St.mkT (kp (kp (kp (kp (kp rfl rfl) rfl) rfl) (congrArg (fun l => AVal.sl l true) (by rw [dbl_no (by assumption)]))) rfl).symm, hA1.next hN1 hC1⟩
                  | exact ⟨_, _, _, _, St.mkT (kp (kp (kp (kp (kp rfl rfl) rfl) rfl) (congrArg (fun l => AVal.sl l true) (dbl_yes hjl hat hok))) rfl).symm, hA1.next hN1 hC1⟩
                  | exact ⟨_, _, _, _, St.mkT (kp (kp (kp (kp (kp rfl rfl) rfl) rfl) (congrArg (fun l => AVal.sl l true) (Eq.trans (er_eq (j := j) (by first | rfl | omega | simp) (by first | rfl | simp)) (at_yes hat)))) rfl).symm, hA1.next hN1 hC1⟩
                · have k14 := h14; try simp only [decide_eq_true_eq, decide_eq_false_iff_not, Bool.not_eq_true', Bool.not_eq_false', Bool.not_true, Bool.not_false, List.length_map, Decidable.not_not] at k14
                  have hao : (atB q 0 1 I && okS 3 q 0 1) = false := h14
                  refine s_skip ?_
                  refine s_blk_normal ?_
                  refine s_inv ?_
                  first
                  | exact (nomatch (hat.symm.trans hk : true = false))
                  | exact ⟨_, _, _, _, St.mkT (kp (kp (kp (kp (kp rfl rfl) rfl) rfl) (congrArg (fun l => AVal.sl l true) (send_yes (by assumption)))) rfl).symm, hA1.next hN1 hC1⟩
                  | exact ⟨_, _, _, _, St.mkT (kp (kp (kp (kp (kp rfl rfl) rfl) rfl) (congrArg (fun l => AVal.sl l true) (by rw [okS_no (by assumption)]))) rfl).symm, hA1.next hN1 hC1⟩
                  | exact ⟨_, _, _, _, St.mkT (kp (kp (kp (kp (kp rfl rfl) rfl) rfl) (congrArg (fun l => AVal.sl l true) (by rw [send_other hnw]))) rfl).symm, hA1.next hN1 hC1⟩
                  | exact ⟨_, _, _, _, St.mkT (kp (kp (kp (kp (kp rfl rfl) rfl) rfl) (congrArg (fun l => AVal.sl l true) (by rw [at_other hnw]))) rfl).symm, hA1.next hN1 hC1⟩
                  | exact ⟨_, _, _, _, St.mkT (kp (kp (kp (kp (kp rfl rfl) rfl) rfl) (congrArg (fun l => AVal.sl l true) (by rw [dbl_other hnw]))) rfl).symm, hA1.next hN1 hC1⟩
                  | exact ⟨_, _, _, _, St.mkT (kp (kp (kp (kp (kp rfl rfl) rfl) rfl) (congrArg (fun l => AVal.sl l true) (by rw [at_no (by assumption)]))) rfl).symm, hA1.next hN1 hC1⟩
                  | exact ⟨_, _, _, _, St.mkT (kp (kp (kp (kp (kp rfl rfl) rfl) rfl) (congrArg (fun l => AVal.sl l true) (by rw [dbl_no (by assumption)]))) rfl).symm, hA1.next hN1 hC1⟩
                  | exact ⟨_, _, _, _, St.mkT (kp (kp (kp (kp (kp rfl rfl) rfl) rfl) (congrArg (fun l => AVal.sl l true) (dbl_yes hjl hat hok))) rfl).symm, hA1.next hN1 hC1⟩
                  | exact ⟨_, _, _, _, St.mkT (kp (kp (kp (kp (kp rfl rfl) rfl) rfl) (congrArg (fun l => AVal.sl l true) (Eq.trans (er_eq (j := j) (by first | rfl | omega | simp) (by first | rfl | simp)) (at_yes hat)))) rfl).symm, hA1.next hN1 hC1⟩
              · have k13 := h13; try simp only [decide_eq_true_eq, decide_eq_false_iff_not, Bool.not_eq_true', Bool.not_eq_false', Bool.not_true, Bool.not_false, List.length_map, Decidable.not_not] at k13
                have hnw : ¬ (a = 0 ∧ b = 1) := fun hh => by simp [hh] at h13
                refine o_no rfl rfl rfl rfl h13 ?_
                refine o_q (q_pick_c (t := false) rfl h13 (v_raw rfl)) rfl rfl rfl ?_
                refine o_nil ?_
                refine s_else rfl rfl ?_
                refine s_skip ?_
                refine s_blk_normal ?_
                refine s_inv ?_
                first
                | exact (nomatch (hat.symm.trans hk : true = false))
                | exact ⟨_, _, _, _, St.mkT (kp (kp (kp (kp (kp rfl rfl) rfl) rfl) (congrArg (fun l => AVal.sl l true) (send_yes (by assumption)))) rfl).symm, hA1.next hN1 hC1⟩
                | exact ⟨_, _, _, _, St.mkT (kp (kp (kp (kp (kp rfl rfl) rfl) rfl) (congrArg (fun l => AVal.sl l true) (by rw [okS_no (by assumption)]))) rfl).symm, hA1.next hN1 hC1⟩
                | exact ⟨_, _, _, _, St.mkT (kp (kp (kp (kp (kp rfl rfl) rfl) rfl) (congrArg (fun l => AVal.sl l true) (by rw [send_other hnw]))) rfl).symm, hA1.next hN1 hC1⟩
                | exact ⟨_, _, _, _, St.mkT (kp (kp (kp (kp (kp rfl rfl) rfl) rfl) (congrArg (fun l => AVal.sl l true) (by rw [at_other hnw]))) rfl).symm, hA1.next hN1 hC1⟩
                | exact ⟨_, _, _, _, St.mkT (kp (kp (kp (kp (kp rfl rfl) rfl) rfl) (congrArg (fun l => AVal.sl l true) (by rw [dbl_other hnw]))) rfl).symm, hA1.next hN1 hC1⟩
                | exact ⟨_, _, _, _, St.mkT (kp (kp (kp (kp (kp rfl rfl) rfl) rfl) (congrArg (fun l => AVal.sl l true) (by rw [at_no (by assumption)]))) rfl).symm, hA1.next hN1 hC1⟩
                | exact ⟨_, _, _, _, St.mkT (kp (kp (kp (kp (kp rfl rfl) rfl) rfl) (congrArg (fun l => AVal.sl l true) (by rw [dbl_no (by assumption)]))) rfl).symm, hA1.next hN1 hC1⟩
                | exact ⟨_, _, _, _, St.mkT (kp (kp (kp (kp (kp rfl rfl) rfl) rfl) (congrArg (fun l => AVal.sl l true) (dbl_yes hjl hat hok))) rfl).symm, hA1.next hN1 hC1⟩
                | exact ⟨_, _, _, _, St.mkT (kp (kp (kp (kp (kp rfl rfl) rfl) rfl) (congrArg (fun l => AVal.sl l true) (Eq.trans (er_eq (j := j) (by first | rfl | omega | simp) (by first | rfl | simp)) (at_yes hat)))) rfl).symm, hA1.next hN1 hC1⟩
            · have k12 := h12; try simp only [decide_eq_true_eq, decide_eq_false_iff_not, Bool.not_eq_true', Bool.not_eq_false', Bool.not_true, Bool.not_false, List.length_map, Decidable.not_not] at k12
              refine s_seq ?_
              refine s_region ?_
              refine o_q (q_mv ((by first | exact v_raw rfl | exact v_sptr rfl))) rfl rfl rfl ?_
              refine o_q (q_mv (v_raw rfl)) rfl rfl rfl ?_
              refine o_q (q_mv (v_raw rfl)) rfl rfl rfl ?_
              refine o_q (q_fr fo38_3 rfl) rfl rfl rfl ?_
              refine o_q (q_ldm ag3 sz3 rfl (by repeat first | exact Mem.upd_self _ _ _ | assumption | refine Mem.upd_ne (by assumption) ?_) rfl (v_raw rfl)) rfl rfl rfl ?_
              refine o_callx ((drop17 hA1.net a b I)) goes17 (ac ((by first | exact v_raw rfl | exact v_sptr rfl)) (ac (v_raw rfl) (ac (v_raw rfl) (ac (v_raw rfl) ac_nil)))) rfl ?_
              rintro r' M' ⟨O1, rfl, hN1, hC1⟩
              obtain ⟨hB', hOB'⟩ := hC1.keep hB hOB
              refine o_q (q_as (v_raw rfl)) rfl rfl rfl ?_
              refine o_nil ?_
              refine s_seq ?_
              refine s_region ?_
              refine o_q (q_mv (v_raw rfl)) rfl rfl rfl ?_
              refine o_q (q_mv (v_raw rfl)) rfl rfl rfl ?_
              refine o_cases (want := true) (j := 1) rfl rfl (fun h15 => ?_) (fun h15 => ?_)
              · have k15 := h15; try simp only [decide_eq_true_eq, decide_eq_false_iff_not, Bool.not_eq_true', Bool.not_eq_false', Bool.not_true, Bool.not_false, List.length_map, Decidable.not_not] at k15
                obtain ⟨rfl, rfl⟩ : a = 0 ∧ b = 1 := by simpa using h15
                refine o_yes rfl rfl rfl h15 ?_
                refine o_q (q_mv (v_raw rfl)) rfl rfl rfl ?_
                refine o_q (q_pick_c (t := true) rfl h15 (v_raw rfl)) rfl rfl rfl ?_
                refine o_nil ?_
                refine s_cond rfl (fun h16 => ?_) (fun h16 => ?_)
                · have k16 := h16; try simp only [decide_eq_true_eq, decide_eq_false_iff_not, Bool.not_eq_true', Bool.not_eq_false', Bool.not_true, Bool.not_false, List.length_map, Decidable.not_not] at k16
                  have hat : atB q 0 1 I = true := h16
                  obtain ⟨hI0, hI1⟩ := of_decide_eq_true hat
                  obtain ⟨j, rfl⟩ : ∃ j : Nat, I = j := Int.eq_ofNat_of_zero_le hI0
                  have hjl : j < (q (0, 1)).length := by omega
                  refine s_draw rfl ?_
                  refine d_q rfl (q_mv (v_sl rfl)) rfl rfl rfl ?_
                  refine d_q rfl (q_fr fo38_3 rfl) rfl rfl rfl ?_
                  refine d_q rfl (q_ldm ag3 sz3 rfl (by repeat first | exact Mem.upd_self _ _ _ | assumption | refine Mem.upd_ne (by assumption) ?_) rfl (v_raw rfl)) rfl rfl rfl ?_
                  refine d_q rfl (q_slice und40 sz9 rfl (by first | exact els_str | exact els_drop (els_take els_str) | exact Els.cons rfl rfl Els.nil) ab_none (ab rfl rfl) (by first | omega | (simp; omega)) (by first | omega | (simp; omega))) rfl rfl rfl ?_
                  refine d_q rfl (q_app_nil slt40 rfl rfl rfl (by first | exact els_str | exact els_drop (els_take els_str) | exact Els.cons rfl rfl Els.nil) (by simp; omega)) rfl rfl rfl ?_
                  refine d_q rfl (q_mv (v_sl rfl)) rfl rfl rfl ?_
                  refine d_q rfl (q_fr fo38_3 rfl) rfl rfl rfl ?_
                  refine d_q rfl (q_ldm ag3 sz3 rfl (by repeat first | exact Mem.upd_self _ _ _ | assumption | refine Mem.upd_ne (by assumption) ?_) rfl (v_raw rfl)) rfl rfl rfl ?_
                  refine d_q rfl (q_add rfl rfl (wrap64 (by omega) (by omega))) rfl rfl rfl ?_
                  refine d_q rfl (q_slice und40 sz9 rfl (by first | exact els_str | exact els_drop (els_take els_str) | exact Els.cons rfl rfl Els.nil) (ab rfl rfl) ab_none (by first | omega | (simp; omega)) (by first | omega | (simp; omega))) rfl rfl rfl ?_
                  refine d_qs rfl (q_app slt40 rfl rfl rfl rfl (by first | exact els_str | exact els_drop (els_take els_str) | exact Els.cons rfl rfl Els.nil) (by first | exact (by first | exact els_str | exact els_drop (els_take els_str) | exact Els.cons rfl rfl Els.nil) | exact Els.cons rfl rfl Els.nil) (by simp; omega)) rfl rfl rfl rfl ?_
                  refine d_qs rfl (q_as_own rfl) rfl rfl rfl rfl ?_
                  refine d_nil ?_
                  refine s_blk_normal ?_
                  refine s_inv ?_
                  first
                  | exact (nomatch (hat.symm.trans hk : true = false))
                  | exact ⟨_, _, _, _, St.mkT (kp (kp (kp (kp (kp rfl rfl) rfl) rfl) (congrArg (fun l => AVal.sl l true) (send_yes (by assumption)))) rfl).symm, hA1.next hN1 hC1⟩
                  | exact ⟨_, _, _, _, St.mkT (kp (kp (kp (kp (kp rfl rfl) rfl) rfl) (congrArg (fun l => AVal.sl l true) (by rw [okS_no (by assumption)]))) rfl).symm, hA1.next hN1 hC1⟩
                  | exact ⟨_, _, _, _, St.mkT (kp (kp (kp (kp (kp rfl rfl) rfl) rfl) (congrArg (fun l => AVal.sl l true) (by rw [send_other hnw]))) rfl).symm, hA1.next hN1 hC1⟩
                  | exact ⟨_, _, _, _, St.mkT (kp (kp (kp (kp (kp rfl rfl) rfl) rfl) (congrArg (fun l => AVal.sl l true) (by rw [at_other hnw]))) rfl).symm, hA1.next hN1 hC1⟩
                  | exact ⟨_, _, _, _, St.mkT (kp (kp (kp (kp (kp rfl rfl) rfl) rfl) (congrArg (fun l => AVal.sl l true) (by rw [dbl_other hnw]))) rfl).symm, hA1.next hN1 hC1⟩
                  | exact ⟨_, _, _, _, St.mkT (kp (kp (kp (kp (kp rfl rfl) rfl) rfl) (congrArg (fun l => AVal.sl l true) (by rw [at_no (by assumption)]))) rfl).symm, hA1.next hN1 hC1⟩
                  | exact ⟨_, _, _, _, St.mkT (kp (kp (kp (kp (kp rfl rfl) rfl) rfl) (congrArg (fun l => AVal.sl l true) (by rw [dbl_no (by assumption)]))) rfl).symm, hA1.next hN1 hC1⟩
                  | exact ⟨_, _, _, _, St.mkT (kp (kp (kp (kp (kp rfl rfl) rfl) rfl) (congrArg (fun l => AVal.sl l true) (dbl_yes hjl hat hok))) rfl).symm, hA1.next hN1 hC1⟩
                  | exact ⟨_, _, _, _, St.mkT (kp (kp (kp (kp (kp rfl rfl) rfl) rfl) (congrArg (fun l => AVal.sl l true) (Eq.trans (er_eq (j := j) (by first | rfl | omega | simp) (by first | rfl | simp)) (at_yes hat)))) rfl).symm, hA1.next hN1 hC1⟩
                · have k16 := h16; try simp only [decide_eq_true_eq, decide_eq_false_iff_not, Bool.not_eq_true', Bool.not_eq_false', Bool.not_true, Bool.not_false, List.length_map, Decidable.not_not] at k16
                  try have hat : atB q 0 1 I = false := h16
                  refine s_skip ?_
                  refine s_blk_normal ?_
                  refine s_inv ?_
                  first
                  | exact (nomatch (hat.symm.trans hk : true = false))
                  | exact ⟨_, _, _, _, St.mkT (kp (kp (kp (kp (kp rfl rfl) rfl) rfl) (congrArg (fun l => AVal.sl l true) (send_yes (by assumption)))) rfl).symm, hA1.next hN1 hC1⟩
                  | exact ⟨_, _, _, _, St.mkT (kp (kp (kp (kp (kp rfl rfl) rfl) rfl) (congrArg (fun l => AVal.sl l true) (by rw [okS_no (by assumption)]))) rfl).symm, hA1.next hN1 hC1⟩
                  | exact ⟨_, _, _, _, St.mkT (kp (kp (kp (kp (kp rfl rfl) rfl) rfl) (congrArg (fun l => AVal.sl l true) (by rw [send_other hnw]))) rfl).symm, hA1.next hN1 hC1⟩
                  | exact ⟨_, _, _, _, St.mkT (kp (kp (kp (kp (kp rfl rfl) rfl) rfl) (congrArg (fun l => AVal.sl l true) (by rw [at_other hnw]))) rfl).symm, hA1.next hN1 hC1⟩
                  | exact ⟨_, _, _, _, St.mkT (kp (kp (kp (kp (kp rfl rfl) rfl) rfl) (congrArg (fun l => AVal.sl l true) (by rw [dbl_other hnw]))) rfl).symm, hA1.next hN1 hC1⟩
                  | exact ⟨_, _, _, _, St.mkT (kp (kp (kp (kp (kp rfl rfl) rfl) rfl) (congrArg (fun l => AVal.sl l true) (by rw [at_no (by assumption)]))) rfl).symm, hA1.next hN1 hC1⟩
                  | exact ⟨_, _, _, _, St.mkT (kp (kp (kp (kp (kp rfl rfl) rfl) rfl) (congrArg (fun l => AVal.sl l true) (by rw [dbl_no (by assumption)]))) rfl).symm, hA1.next hN1 hC1⟩
                  | exact ⟨_, _, _, _, St.mkT (kp (kp (kp (kp (kp rfl rfl) rfl) rfl) (congrArg (fun l => AVal.sl l true) (dbl_yes hjl hat hok))) rfl).symm, hA1.next hN1 hC1⟩
                  | exact ⟨_, _, _, _, St.mkT (kp (kp (kp (kp (kp rfl rfl) rfl) rfl) (congrArg (fun l => AVal.sl l true) (Eq.trans (er_eq (j := j) (by first | rfl | omega | simp) (by first | rfl | simp)) (at_yes hat)))) rfl).symm, hA1.next hN1 hC1⟩
              · have k15 := h15; try simp only [decide_eq_true_eq, decide_eq_false_iff_not, Bool.not_eq_true', Bool.not_eq_false', Bool.not_true, Bool.not_false, List.length_map, Decidable.not_not] at k15
                have hnw : ¬ (a = 0 ∧ b = 1) := fun hh => by simp [hh] at h15
                refine o_no rfl rfl rfl rfl h15 ?_
                refine o_q (q_pick_c (t := false) rfl h15 (v_raw rfl)) rfl rfl rfl ?_
                refine o_nil ?_
                refine s_else rfl rfl ?_
                refine s_skip ?_
                refine s_blk_normal ?_
                refine s_inv ?_
                first
                | exact (nomatch (hat.symm.trans hk : true = false))
                | exact ⟨_, _, _, _, St.mkT (kp (kp (kp (kp (kp rfl rfl) rfl) rfl) (congrArg (fun l => AVal.sl l true) (send_yes (by assumption)))) rfl).symm, hA1.next hN1 hC1⟩
                | exact ⟨_, _, _, _, St.mkT (kp (kp (kp (kp (kp rfl rfl) rfl) rfl) (congrArg (fun l => AVal.sl l true) (by rw [okS_no (by assumption)]))) rfl).symm, hA1.next hN1 hC1⟩
                | exact ⟨_, _, _, _, St.mkT (kp (kp (kp (kp (kp rfl rfl) rfl) rfl) (congrArg (fun l => AVal.sl l true) (by rw [send_other hnw]))) rfl).symm, hA1.next hN1 hC1⟩
                | exact ⟨_, _, _, _, St.mkT (kp (kp (kp (kp (kp rfl rfl) rfl) rfl) (congrArg (fun l => AVal.sl l true) (by rw [at_other hnw]))) rfl).symm, hA1.next hN1 hC1⟩
                | exact ⟨_, _, _, _, St.mkT (kp (kp (kp (kp (kp rfl rfl) rfl) rfl) (congrArg (fun l => AVal.sl l true) (by rw [dbl_other hnw]))) rfl).symm, hA1.next hN1 hC1⟩
                | exact ⟨_, _, _, _, St.mkT (kp (kp (kp (kp (kp rfl rfl) rfl) rfl) (congrArg (fun l => AVal.sl l true) (by rw [at_no (by assumption)]))) rfl).symm, hA1.next hN1 hC1⟩
                | exact ⟨_, _, _, _, St.mkT (kp (kp (kp (kp (kp rfl rfl) rfl) rfl) (congrArg (fun l => AVal.sl l true) (by rw [dbl_no (by assumption)]))) rfl).symm, hA1.next hN1 hC1⟩
                | exact ⟨_, _, _, _, St.mkT (kp (kp (kp (kp (kp rfl rfl) rfl) rfl) (congrArg (fun l => AVal.sl l true) (dbl_yes hjl hat hok))) rfl).symm, hA1.next hN1 hC1⟩
                | exact ⟨_, _, _, _, St.mkT (kp (kp (kp (kp (kp rfl rfl) rfl) rfl) (congrArg (fun l => AVal.sl l true) (Eq.trans (er_eq (j := j) (by first | rfl | omega | simp) (by first | rfl | simp)) (at_yes hat)))) rfl).symm, hA1.next hN1 hC1⟩
      rintro S ⟨T, Md2, q2, O2, rfl, hA2⟩
      refine s_seq ?_
      refine s_region ?_
      refine o_q (q_mv ((by first | exact v_raw rfl | exact v_sptr rfl))) rfl rfl rfl ?_
      refine o_call ((len16 hA2.net 0 1)) goes16 (ac ((by first | exact v_raw rfl | exact v_sptr rfl)) (ac (v_raw rfl) (ac (v_raw rfl) ac_nil))) rfl ?_
      refine o_q (q_mv (v_sl rfl)) rfl rfl rfl ?_
      refine o_q (q_len rfl und40 rfl) rfl rfl rfl ?_
      refine o_q (q_neq rfl rfl) rfl rfl rfl ?_
      refine o_nil ?_
      refine s_else rfl (by simp) ?_
      refine s_skip ?_
      refine s_blk_normal ?_
      refine s_region ?_
      refine o_q (q_mv (v_raw rfl)) rfl rfl rfl ?_
      refine o_q (q_add rfl rfl (wrap64 (by omega) (by omega))) rfl rfl rfl ?_
      refine o_q (q_as (v_raw rfl)) rfl rfl rfl ?_
      refine o_nil ?_
      refine s_inv ?_
      first
      | exact ⟨l.length - (i + 1), by omega, _, _, _, _, i + 1, St.mkT (kp (kp (kp (kp (kp rfl rfl) rfl) rfl) rfl) rfl).symm, hA2, by omega, rfl⟩
      | exact ⟨l.length - (i + 1), by omega, _, _, _, _, i + 1, St.mkT (kp (kp (kp (kp (kp rfl rfl) rfl) rfl) (congrArg (fun l => AVal.sl l true) (by rw [at_other hnw]))) rfl).symm, hA1.next hN1 hC1, by omega, rfl⟩
    · have k2 := h2; try simp only [decide_eq_true_eq, decide_eq_false_iff_not, Bool.not_eq_true', Bool.not_eq_false', Bool.not_true, Bool.not_false, List.length_map, Decidable.not_not] at k2
      refine s_exit ?_
      refine s_code_exit ?_
      refine s_inv_exit ?_
      refine s_blk_here ?_
      refine s_seq ?_
      refine s_region ?_
      refine o_q (q_mv (v_raw rfl)) rfl rfl rfl ?_
      refine o_q (q_as (v_raw rfl)) rfl rfl rfl ?_
      refine o_nil ?_
      refine s_ret ?_
      refine s_end ?_
      exact ⟨rfl, hA.le⟩
  · have k1 := h1; try simp only [decide_eq_true_eq, decide_eq_false_iff_not, Bool.not_eq_true', Bool.not_eq_false', Bool.not_true, Bool.not_false, List.length_map, Decidable.not_not] at k1
    refine o_no rfl rfl rfl rfl h1 ?_
    refine o_no rfl rfl rfl rfl h1 ?_
    refine o_q (q_pick_c (t := false) rfl h1 (v_raw rfl)) rfl rfl rfl ?_
    refine o_nil ?_
    refine s_else rfl rfl ?_
    refine s_exit ?_
    refine s_code_exit ?_
    refine s_inv_exit ?_
    refine s_blk_here ?_
    refine s_seq ?_
    refine s_region ?_
    refine o_q (q_mv (v_raw rfl)) rfl rfl rfl ?_
    refine o_q (q_as (v_raw rfl)) rfl rfl rfl ?_
    refine o_nil ?_
    refine s_ret ?_
    refine s_end ?_
    exact ⟨rfl, hA.le⟩
end C05
