import Derived.Test.YtphenhkofjbeoaaE05
import Derived.Test.YtphenhkofjbeoaaProg
/-! Chapter 5: the net: what its functions compute. -/
open Go Go.Proofs Go.Am
set_option linter.unusedVariables false
set_option linter.unusedSimpArgs false
set_option autoImplicit false
namespace C05
theorem by3 : bytesT Try.prog 3 = some 8 := by kernel_rfl
theorem fo38_1 : fo Try.prog 38 1 = some (1, 1) := by kernel_rfl
theorem fo38_2 : fo Try.prog 38 2 = some (2, 1) := by kernel_rfl
theorem fo38_4 : fo Try.prog 38 4 = some (4, 1) := by kernel_rfl
theorem sz38 : sizeT Try.prog 38 = some 5 := by kernel_rfl
theorem und4 : Try.prog.underlying 4 = some .bool := by kernel_rfl
theorem und35 : Try.prog.underlying 35 = some (.slice 38) := by kernel_rfl
theorem und36 : Try.prog.underlying 36 = some (.slice 3) := by kernel_rfl
theorem zc3 : zeroCellsT Try.prog 3 = some [.raw (.int .i64 0)] := by kernel_rfl
def tk4 : Nat → Nat → Option Nat := fun _ _ => none
def pl4 : Nat → List PStep := fun _ => []
theorem cb4 : Try.f4.body.map (codeB Try.prog Try.f4.ntmps tk4 pl4) = some true := by kernel_rfl
theorem goes4 : goesB Try.prog 4 = true := by kernel_rfl
-- carillon/carillonlaw05.NetRoom params ['int', '[]carillonlaw05.Deed', 'int'] results [['t', 6]] own [] names ['0:n', '1:deeds', '2:node', '3:n', '4:deeds', '5:node', '7:head', '8:x', '9:_', '10:sent', '11:i', '12:a', '13:b', '14:ok', '15:a', '16:b', '17:want'] calls [7, 8, 9, 11, 15, 16] paths 11

structure De where
  kind : Int
  frm : Int
  to : Int
  i : Int
  s : ByteArray
  deriving Inhabited
def encDe (d : De) : AVal := .agg [int d.kind, int d.frm, int d.to, int d.i, str d.s]
theorem elsDe {l : List De} : Els 5 (l.map encDe) := Els.map fun _ => ⟨rfl, rfl⟩
def i64 (n : Int) : Prop := -2 ^ 63 ≤ n ∧ n < 2 ^ 63
def okDe (d : De) : Prop := i64 d.kind ∧ i64 d.frm ∧ i64 d.to ∧ i64 d.i
theorem pickN {c n : Int} (hn : 0 < n) : ∃ k : Nat, pick c n = k ∧ (k : Int) < n := by
  have h := pick_lt (c := c) (n := n) hn
  exact ⟨(pick c n).toNat, by omega, by omega⟩
theorem pickE {c n : Int} {r : Nat} (M : Mem) (h : pick c n = r) (hn : 0 < n) (hn2 : n < 2 ^ 62) (hc : i64 c) : SoundCall Try.prog 8 [int c, int n] M fun q M' => q = int r ∧ M' = M := by
  have := snd8 c n M hn hn2 hc
  rwa [h] at this
theorem NetO.upd {M : Mem} {x b : Nat} {n : Int} {side : Nat} {q : K2 → List ByteArray} {O : Nat → Prop} {o : AObj} (h : NetO M x n side q O) (hb : ¬ O b) : NetO (M.upd b o) x n side q O := by
  obtain ⟨r, clk, l, hN, rfl⟩ := h
  exact ⟨r, clk, l, hN.keep fun c hc => upd_other fun e => hb (by rw [← e]; exact hc), rfl⟩
theorem NetO.own {M : Mem} {x c : Nat} {n : Int} {side : Nat} {q : K2 → List ByteArray} {O : Nat → Prop} (h : NetO M x n side q O) (hc : O c) : M c ≠ none := by
  obtain ⟨r, clk, l, hN, rfl⟩ := h
  exact hN.own hc
theorem NetO.ql {M : Mem} {x : Nat} {n : Int} {side : Nat} {q : K2 → List ByteArray} {O : Nat → Prop} (h : NetO M x n side q O) (k : K2) : (q k).length ≤ 64 := by
  obtain ⟨r, clk, l, hN, rfl⟩ := h
  exact hN.ql k
theorem Chg.keep {M M' : Mem} {O O' : Nat → Prop} {b : Nat} {o : AObj} (h : Chg M M' O O') (hb : M b = some o) (hO : ¬ O b) : M' b = some o ∧ ¬ O' b :=
  ⟨by rw [h.same b (by rw [hb]; exact fun h => by cases h) hO, hb], fun h' => (h.sub b h').elim hO fun h2 => by rw [hb] at h2; cases h2⟩

def sentL (q : K2 → List ByteArray) : List Int := (List.range 49).map fun k => ((q (((k / 7 : Nat) : Int), ((k % 7 : Nat) : Int))).length : Int)
theorem sent_get {q : K2 → List ByteArray} {a b : Nat} (ha : a < 7) (hb : b < 7) : (sentL q)[7 * a + b]? = some ((q ((a : Int), (b : Int))).length : Int) := by
  unfold sentL
  rw [List.getElem?_map, List.getElem?_range (by omega), Option.map_some]
  rw [show (7 * a + b) / 7 = a by omega, show (7 * a + b) % 7 = b by omega]
theorem off_ab {a b : Nat} : 0 + (7 * (a : Int) + b).toNat * 1 = 7 * a + b := by omega
theorem pcN {q : K2 → List ByteArray} {a b : Nat} (ha : a < 7) (hb : b < 7) : piece false ((sentL q).map int) (0 + (7 * (a : Int) + b).toNat * 1) 1 = some (int (q ((a : Int), (b : Int))).length) := by
  rw [off_ab]
  show ((sentL q).map int)[7 * a + b]? = _
  rw [List.getElem?_map, sent_get ha hb]; rfl
theorem sent_set {q : K2 → List ByteArray} {a b : Nat} {s : ByteArray} (ha : a < 7) (hb : b < 7) : splice ((sentL q).map int) (0 + (7 * (a : Int) + b).toNat * 1) ((AVal.raw (.int .i64 ((q ((a : Int), (b : Int))).length + 1))).cells.map AVal.shut) = (sentL (setQ q ((a : Int), (b : Int)) (q ((a : Int), (b : Int)) ++ [s]))).map int := by
  rw [off_ab]
  have hlen : ∀ q, (sentL q).length = 49 := fun q => by simp [sentL]
  have e1 : splice ((sentL q).map int) (7 * a + b) ((AVal.raw (.int .i64 ((q ((a : Int), (b : Int))).length + 1))).cells.map AVal.shut) = ((sentL q).map int).set (7 * a + b) (int ((q ((a : Int), (b : Int))).length + 1)) := by
    rw [List.set_eq_take_append_cons_drop, if_pos (by simp [hlen]; omega)]
    unfold splice
    simp [AVal.cells, AVal.shut, AVal.shut1, int]
  rw [e1]
  apply List.ext_getElem?
  intro k
  rw [List.getElem?_set]
  by_cases hk : 7 * a + b = k
  · subst hk
    rw [if_pos rfl, if_pos (by simp [hlen]; omega), List.getElem?_map, sent_get ha hb]
    unfold setQ
    rw [if_pos rfl]
    simp
  · rw [if_neg hk, List.getElem?_map, List.getElem?_map]
    congr 1
    unfold sentL
    rw [List.getElem?_map, List.getElem?_map]
    by_cases h49 : k < 49
    · rw [List.getElem?_range h49, Option.map_some, Option.map_some]
      unfold setQ
      rw [if_neg (fun h => by
        rw [Prod.mk.injEq] at h
        omega)]
    · rw [List.getElem?_eq_none (by simp; omega)]; rfl
structure RoomI (M Mc : Mem) (x : Nat) (n : Int) (q : K2 → List ByteArray) (O : Nat → Prop) (bs : Nat) : Prop where
  net : NetO Mc x n 0 q O
  hb : Mc bs = some (.cells ((sentL q).map int))
  bo : ¬ O bs
  out : ∀ c, O c → M c = none
  le : M.le Mc
  bn : M bs = none
theorem RoomI.none {M Mc M' : Mem} {x : Nat} {n : Int} {q : K2 → List ByteArray} {O O1 : Nat → Prop} {bs : Nat} (h : RoomI M Mc x n q O bs) (hN : NetO M' x n 0 q O1) (hC : Chg Mc M' O O1) : RoomI M M' x n q O1 bs :=
  ⟨hN, (hC.keep h.hb h.bo).1, (hC.keep h.hb h.bo).2, hC.out h.le h.out, hC.le h.le h.out, h.bn⟩
theorem RoomI.one {M Mc M' : Mem} {x : Nat} {n : Int} {q q' : K2 → List ByteArray} {O O1 : Nat → Prop} {bs : Nat} (h : RoomI M Mc x n q O bs) (hN : NetO M' x n 0 q' O1) (hC : Chg Mc M' O O1) : RoomI M (M'.upd bs (.cells ((sentL q').map int))) x n q' O1 bs :=
  ⟨hN.upd (hC.keep h.hb h.bo).2, Mem.upd_self _ _ _, (hC.keep h.hb h.bo).2, hC.out h.le h.out, fun c o hc => (upd_other (fun e => by rw [e, h.bn] at hc; cases hc)).trans (hC.le h.le h.out c o hc), h.bn⟩
theorem okS_no {n : Int} {q : K2 → List ByteArray} {a b : Int} {s : ByteArray} (h : okS n q a b = false) : sendQ n q a b s = q := by unfold sendQ; rw [h]; rfl
theorem okS_yes {n : Int} {q : K2 → List ByteArray} {a b : Int} {s : ByteArray} (h : okS n q a b = true) : sendQ n q a b s = setQ q (a, b) (q (a, b) ++ [s]) := by unfold sendQ; rw [h]; rfl
theorem okS_ne {n : Int} {q : K2 → List ByteArray} {a b : Int} (ha : 0 ≤ a ∧ a < n) (hb : 0 ≤ b ∧ b < n) (h : a ≠ b) : okS n q a b = decide (((q (a, b)).length : Int) < 64) := by
  unfold okS inN; rw [decide_eq_true ha, decide_eq_true hb, decide_eq_true h]
  simp only [Bool.true_and, decide_eq_decide]; omega
theorem okS_eq0 {n : Int} {q : K2 → List ByteArray} {a b : Int} (h : a = b) : okS n q a b = false := by
  unfold okS; simp [h]
theorem sentL_nil : (List.replicate 49 (AVal.raw (.int .i64 0))) = (sentL fun _ => []).map int := rfl
set_option maxHeartbeats 4000000 in
set_option maxRecDepth 20000 in
theorem snd4 (n : Int) (l : List De) (o : Bool) (node : Int) (M : Mem) (hn : i64 n) (hl : l.length < 2 ^ 60) (hd : ∀ d ∈ l, okDe d) (hnd : i64 node) : SoundCall Try.prog 4 [int n, .sl (l.map encDe) o, int node] M fun r M' => r = bool true ∧ M.le M' := by
  obtain ⟨p, hp, hp6⟩ := pickN (c := n) (n := 6) (by decide)
  obtain ⟨nd, hnd1, hnd2⟩ := pickN (c := node) (n := 2 + (p : Int)) (by omega)
  refine SoundCall.go tk4 pl4 mixed Try.func4 cb4 rfl (Nat.le_of_ble_eq_true rfl) ?_
  refine s_seq ?_
  refine s_region ?_
  refine o_q (q_as (v_raw rfl)) rfl rfl rfl ?_
  refine o_nil ?_
  refine s_seq ?_
  refine s_region ?_
  refine o_call ((ex7 _)) goes7 ac_nil rfl ?_
  refine o_q (q_as (v_raw rfl)) rfl rfl rfl ?_
  refine o_nil ?_
  refine s_seq ?_
  refine s_region ?_
  refine o_q (q_mv (v_raw rfl)) rfl rfl rfl ?_
  refine o_call ((pickE _ hp (by decide) (by decide) hn)) goes8 (ac (v_raw rfl) (ac (v_raw rfl) ac_nil)) rfl ?_
  refine o_q (q_add rfl rfl (wrap64 (by omega) (by omega))) rfl rfl rfl ?_
  refine o_q (q_as (v_raw rfl)) rfl rfl rfl ?_
  refine o_nil ?_
  refine s_seq ?_
  refine s_region ?_
  refine o_q (q_mv (v_raw rfl)) rfl rfl rfl ?_
  refine o_q (q_mv (v_raw rfl)) rfl rfl rfl ?_
  refine o_call ((pickE _ hnd1 (by omega) (by omega) hnd)) goes8 (ac (v_raw rfl) (ac (v_raw rfl) ac_nil)) rfl ?_
  refine o_q (q_as (v_raw rfl)) rfl rfl rfl ?_
  refine o_nil ?_
  refine s_seq ?_
  refine s_region ?_
  refine o_q (q_mv (v_raw rfl)) rfl rfl rfl ?_
  refine o_callx ((new9 (2 + (p : Int)) _ ⟨by omega, by omega⟩)) goes9 (ac (v_raw rfl) ac_nil) rfl ?_
  rintro r' M1 ⟨x, O0, rfl, hN0, hle0, hO0⟩
  refine o_q (q_mv (v_tup rfl)) rfl rfl rfl ?_
  refine o_q (q_ext rfl rfl ((by first | exact v_raw rfl | exact v_sptr rfl))) rfl rfl rfl ?_
  refine o_q (q_ext rfl rfl (v_raw rfl)) rfl rfl rfl ?_
  refine o_q (q_as ((by first | exact v_raw rfl | exact v_sptr rfl))) rfl rfl rfl ?_
  refine o_q (q_as (v_raw rfl)) rfl rfl rfl ?_
  refine o_nil ?_
  refine s_seq ?_
  refine s_seq ?_
  refine s_region ?_
  refine o_q (q_mv ((by first | exact v_raw rfl | exact v_sptr rfl))) rfl rfl rfl ?_
  refine o_q (q_peql und24 rfl rfl) rfl rfl rfl ?_
  refine o_nil ?_
  refine s_else rfl rfl ?_
  refine s_skip ?_
  refine s_seq ?_
  refine s_region ?_
  refine o_makeSlice und36 sz3 by3 zc3 rfl (by decide) rfl rfl (by omega) (by omega) (by omega) (by omega) (fun B1 hB1 => ?_)
  have n1 : ∀ {b}, M1 b = none → M b = none := fun {b} h => by
    cases h2 : M b with
    | none => rfl
    | some o => rw [hle0 b o h2] at h; cases h
  refine o_q (q_as (v_raw rfl)) rfl rfl rfl ?_
  refine o_nil ?_
  refine s_seq ?_
  refine s_seq ?_
  refine s_region ?_
  refine o_q (q_as (v_raw rfl)) rfl rfl rfl ?_
  refine o_nil ?_
  refine s_cut (fun S => ∃ T Mc q O, S = ⟨setT (setT (setT (setT (setT (setT T 0 (int (2 + (p : Int)))) 1 (.sl (l.map encDe) o)) 2 (int (nd : Int))) 7 (bool true)) 8 (ptr x)) 10 (rsl B1 49 49), Mc⟩ ∧ RoomI M Mc x (2 + (p : Int)) q O B1) ?_ ?_
  · skip
    refine s_block ?_
    refine s_loop (fun m S => ∃ T Mc q O, ∃ i : Nat, S = ⟨setT (setT (setT (setT (setT (setT (setT T 0 (int (2 + (p : Int)))) 1 (.sl (l.map encDe) o)) 2 (int (nd : Int))) 7 (bool true)) 8 (ptr x)) 10 (rsl B1 49 49)) 11 (int (i : Nat)), Mc⟩ ∧ RoomI M Mc x (2 + (p : Int)) q O B1 ∧ i ≤ l.length ∧ m = l.length - i) l.length ?_ ?_
    · exact ⟨_, _, _, O0, 0, St.mkT (kp (kp (kp (kp (kp (kp (kp rfl rfl) rfl) rfl) rfl) rfl) rfl) rfl).symm, ⟨hN0.upd (fun h => hN0.own h hB1), (Mem.upd_self _ _ _).trans (congrArg (fun l => some (AObj.cells l)) sentL_nil), (fun h => hN0.own h hB1), hO0, Mem.le_upd hle0 (n1 hB1), n1 hB1⟩, by omega, rfl⟩
    rintro m S ⟨T, Mc, q, O, i, rfl, hR, hi, rfl⟩
    refine s_seq ?_
    refine s_seq ?_
    refine s_region ?_
    refine o_q (q_mv (v_raw rfl)) rfl rfl rfl ?_
    refine o_q (q_mv (v_sl rfl)) rfl rfl rfl ?_
    refine o_q (q_len rfl und35 rfl) rfl rfl rfl ?_
    refine o_q (q_lss rfl rfl) rfl rfl rfl ?_
    refine o_q (q_mv (v_raw rfl)) rfl rfl rfl ?_
    refine o_cases (want := true) (j := 4) rfl rfl (fun h1 => ?_) (fun h1 => ?_)
    · have k1 := h1; try simp only [decide_eq_true_eq, decide_eq_false_iff_not, Bool.not_eq_true', Bool.not_eq_false', Bool.not_true, Bool.not_false, List.length_map, Decidable.not_not] at k1
      refine o_yes rfl rfl rfl h1 ?_
      refine o_q (q_mv (v_raw rfl)) rfl rfl rfl ?_
      refine o_yes rfl rfl rfl h1 ?_
      refine o_q (q_lss rfl rfl) rfl rfl rfl ?_
      refine o_q (q_pick_c (t := true) rfl h1 (v_raw rfl)) rfl rfl rfl ?_
      refine o_nil ?_
      refine s_cond rfl (fun h2 => ?_) (fun h2 => ?_)
      · have k2 := h2; try simp only [decide_eq_true_eq, decide_eq_false_iff_not, Bool.not_eq_true', Bool.not_eq_false', Bool.not_true, Bool.not_false, List.length_map, Decidable.not_not] at k2
        have hdi := hd l[i] (List.getElem_mem _)
        obtain ⟨a, ha, ha7⟩ := pickN (c := l[i].frm) (n := 2 + (p : Int)) (by omega)
        obtain ⟨b, hb, hb7⟩ := pickN (c := l[i].to) (n := 2 + (p : Int)) (by omega)
        have hlen := hR.net.ql (a, b)
        have hbs := hR.hb
        refine s_skip ?_
        refine s_seq ?_
        refine s_block ?_
        refine s_seq ?_
        refine s_region ?_
        refine o_q (q_mv (v_sl rfl)) rfl rfl rfl ?_
        refine o_q (q_mv (v_raw rfl)) rfl rfl rfl ?_
        refine o_q (q_idx und35 sz38 rfl rfl (by omega) (gm i (by first | omega | simp)) rfl) rfl rfl rfl ?_
        refine o_q (q_f fo38_1 rfl) rfl rfl rfl ?_
        refine o_q (q_ld ag3 sz3 rfl (gm i (by first | omega | simp)) rfl (v_raw rfl)) rfl rfl rfl ?_
        refine o_q (q_mv (v_raw rfl)) rfl rfl rfl ?_
        refine o_call ((pickE _ ha (by omega) (by omega) hdi.2.1)) goes8 (ac (v_raw rfl) (ac (v_raw rfl) ac_nil)) rfl ?_
        refine o_q (q_as (v_raw rfl)) rfl rfl rfl ?_
        refine o_nil ?_
        refine s_seq ?_
        refine s_region ?_
        refine o_q (q_mv (v_sl rfl)) rfl rfl rfl ?_
        refine o_q (q_mv (v_raw rfl)) rfl rfl rfl ?_
        refine o_q (q_idx und35 sz38 rfl rfl (by omega) (gm i (by first | omega | simp)) rfl) rfl rfl rfl ?_
        refine o_q (q_f fo38_2 rfl) rfl rfl rfl ?_
        refine o_q (q_ld ag3 sz3 rfl (gm i (by first | omega | simp)) rfl (v_raw rfl)) rfl rfl rfl ?_
        refine o_q (q_mv (v_raw rfl)) rfl rfl rfl ?_
        refine o_call ((pickE _ hb (by omega) (by omega) hdi.2.2.1)) goes8 (ac (v_raw rfl) (ac (v_raw rfl) ac_nil)) rfl ?_
        refine o_q (q_as (v_raw rfl)) rfl rfl rfl ?_
        refine o_nil ?_
        refine s_seq ?_
        refine s_region ?_
        refine o_q (q_mv ((by first | exact v_raw rfl | exact v_sptr rfl))) rfl rfl rfl ?_
        refine o_q (q_mv (v_raw rfl)) rfl rfl rfl ?_
        refine o_q (q_mv (v_raw rfl)) rfl rfl rfl ?_
        refine o_q (q_mv (v_sl rfl)) rfl rfl rfl ?_
        refine o_q (q_mv (v_raw rfl)) rfl rfl rfl ?_
        refine o_q (q_idx und35 sz38 rfl rfl (by omega) (gm i (by first | omega | simp)) rfl) rfl rfl rfl ?_
        refine o_q (q_f fo38_4 rfl) rfl rfl rfl ?_
        refine o_q (q_ld ag9 sz9 rfl (gm i (by first | omega | simp)) rfl (v_raw rfl)) rfl rfl rfl ?_
        refine o_callx ((send11 hR.net a b l[i].s)) goes11 (ac ((by first | exact v_raw rfl | exact v_sptr rfl)) (ac (v_raw rfl) (ac (v_raw rfl) (ac (v_raw rfl) ac_nil)))) rfl ?_
        rintro r' M' ⟨O1, rfl, hN1, hC1⟩
        have hbs1 := (hC1.keep hR.hb hR.bo).1
        refine o_q (q_as (v_raw rfl)) rfl rfl rfl ?_
        refine o_nil ?_
        refine s_seq ?_
        refine s_seq ?_
        refine s_region ?_
        refine o_q (q_mv (v_raw rfl)) rfl rfl rfl ?_
        refine o_q (q_mv (v_raw rfl)) rfl rfl rfl ?_
        refine o_q (q_mv (v_raw rfl)) rfl rfl rfl ?_
        refine o_q (q_neq rfl rfl) rfl rfl rfl ?_
        refine o_q (q_mv (v_raw rfl)) rfl rfl rfl ?_
        refine o_cases (want := true) (j := 4) rfl rfl (fun h3 => ?_) (fun h3 => ?_)
        · have k3 := h3; try simp only [decide_eq_true_eq, decide_eq_false_iff_not, Bool.not_eq_true', Bool.not_eq_false', Bool.not_true, Bool.not_false, List.length_map, Decidable.not_not] at k3
          have hk := okS_ne (q := q) (a := a) (b := b) ⟨Int.natCast_nonneg _, ha7⟩ ⟨Int.natCast_nonneg _, hb7⟩ (by simpa using h3)
          refine o_yes rfl rfl rfl h3 ?_
          refine o_q (q_mv (v_raw rfl)) rfl rfl rfl ?_
          refine o_yes rfl rfl rfl h3 ?_
          refine o_q (q_mv (v_raw rfl)) rfl rfl rfl ?_
          refine o_yes rfl rfl rfl h3 ?_
          refine o_q (q_mul rfl rfl (wrap64 (by omega) (by omega))) rfl rfl rfl ?_
          refine o_yes rfl rfl rfl h3 ?_
          refine o_q (q_mv (v_raw rfl)) rfl rfl rfl ?_
          refine o_yes rfl rfl rfl h3 ?_
          refine o_q (q_add rfl rfl (wrap64 (by omega) (by omega))) rfl rfl rfl ?_
          refine o_yes rfl rfl rfl h3 ?_
          refine o_q (q_idxr und36 sz3 rfl rfl (by omega) (by omega)) rfl rfl rfl ?_
          refine o_yes rfl rfl rfl h3 ?_
          refine o_q (q_ldm ag3 sz3 rfl (by repeat first | exact Mem.upd_self _ _ _ | assumption | refine Mem.upd_ne (by assumption) ?_) (pcN (by omega) (by omega)) (v_raw rfl)) rfl rfl rfl ?_
          refine o_yes rfl rfl rfl h3 ?_
          refine o_q (q_lss rfl rfl) rfl rfl rfl ?_
          refine o_q (q_pick_c (t := true) rfl h3 (v_raw rfl)) rfl rfl rfl ?_
          refine o_q (q_bneq und4 rfl rfl) rfl rfl rfl ?_
          refine o_nil ?_
          refine s_else rfl (by rw [hk]; simp) ?_
          refine s_skip ?_
          refine s_seq ?_
          refine s_region ?_
          refine o_q (q_mv (v_raw rfl)) rfl rfl rfl ?_
          refine o_nil ?_
          refine s_cond rfl (fun h4 => ?_) (fun h4 => ?_)
          · have k4 := h4; try simp only [decide_eq_true_eq, decide_eq_false_iff_not, Bool.not_eq_true', Bool.not_eq_false', Bool.not_true, Bool.not_false, List.length_map, Decidable.not_not] at k4
            refine s_region ?_
            refine o_q (q_mv (v_raw rfl)) rfl rfl rfl ?_
            refine o_q (q_mv (v_raw rfl)) rfl rfl rfl ?_
            refine o_q (q_mul rfl rfl (wrap64 (by omega) (by omega))) rfl rfl rfl ?_
            refine o_q (q_mv (v_raw rfl)) rfl rfl rfl ?_
            refine o_q (q_add rfl rfl (wrap64 (by omega) (by omega))) rfl rfl rfl ?_
            refine o_q (q_idxr und36 sz3 rfl rfl (by omega) (by omega)) rfl rfl rfl ?_
            refine o_q (q_ldm ag3 sz3 rfl (by repeat first | exact Mem.upd_self _ _ _ | assumption | refine Mem.upd_ne (by assumption) ?_) (pcN (by omega) (by omega)) (v_raw rfl)) rfl rfl rfl ?_
            refine o_q (q_add rfl rfl (wrap64 (by omega) (by omega))) rfl rfl rfl ?_
            refine o_q (q_idxr und36 sz3 rfl rfl (by omega) (by omega)) rfl rfl rfl ?_
            refine o_store rfl (by repeat first | exact Mem.upd_self _ _ _ | assumption | refine Mem.upd_ne (by assumption) ?_) (by first | exact e_raw rfl | exact e_agg rfl | exact e_sl rfl | rfl) rfl sz3 rfl (by simp [sentL]; omega) rfl (sent_set (s := l[i].s) (by omega) (by omega)) ?_
            refine o_nil ?_
            refine s_blk_normal ?_
            refine s_region ?_
            refine o_q (q_mv (v_raw rfl)) rfl rfl rfl ?_
            refine o_q (q_add rfl rfl (wrap64 (by omega) (by omega))) rfl rfl rfl ?_
            refine o_q (q_as (v_raw rfl)) rfl rfl rfl ?_
            refine o_nil ?_
            refine s_inv ?_
            exact ⟨l.length - (i + 1), by omega, _, _, _, _, i + 1, St.mkT (kp (kp (kp (kp (kp (kp (kp rfl rfl) rfl) rfl) rfl) rfl) rfl) rfl).symm, (by rw [okS_yes (by assumption)] at hN1; exact hR.one hN1 hC1), by omega, rfl⟩
          · have k4 := h4; try simp only [decide_eq_true_eq, decide_eq_false_iff_not, Bool.not_eq_true', Bool.not_eq_false', Bool.not_true, Bool.not_false, List.length_map, Decidable.not_not] at k4
            refine s_skip ?_
            refine s_blk_normal ?_
            refine s_region ?_
            refine o_q (q_mv (v_raw rfl)) rfl rfl rfl ?_
            refine o_q (q_add rfl rfl (wrap64 (by omega) (by omega))) rfl rfl rfl ?_
            refine o_q (q_as (v_raw rfl)) rfl rfl rfl ?_
            refine o_nil ?_
            refine s_inv ?_
            exact ⟨l.length - (i + 1), by omega, _, _, _, _, i + 1, St.mkT (kp (kp (kp (kp (kp (kp (kp rfl rfl) rfl) rfl) rfl) rfl) rfl) rfl).symm, (by rw [okS_no (by assumption)] at hN1; exact hR.none hN1 hC1), by omega, rfl⟩
        · have k3 := h3; try simp only [decide_eq_true_eq, decide_eq_false_iff_not, Bool.not_eq_true', Bool.not_eq_false', Bool.not_true, Bool.not_false, List.length_map, Decidable.not_not] at k3
          have hk := okS_eq0 (n := 2 + (p : Int)) (q := q) (a := a) (b := b) (by simpa using h3)
          refine o_no rfl rfl rfl rfl h3 ?_
          refine o_no rfl rfl rfl rfl h3 ?_
          refine o_no rfl rfl rfl rfl h3 ?_
          refine o_no rfl rfl rfl rfl h3 ?_
          refine o_no rfl rfl rfl rfl h3 ?_
          refine o_no rfl rfl rfl rfl h3 ?_
          refine o_no rfl rfl rfl rfl h3 ?_
          refine o_no rfl rfl rfl rfl h3 ?_
          refine o_q (q_pick_c (t := false) rfl h3 (v_raw rfl)) rfl rfl rfl ?_
          refine o_q (q_bneq und4 rfl rfl) rfl rfl rfl ?_
          refine o_nil ?_
          refine s_else rfl (by rw [hk]; simp) ?_
          refine s_skip ?_
          refine s_seq ?_
          refine s_region ?_
          refine o_q (q_mv (v_raw rfl)) rfl rfl rfl ?_
          refine o_nil ?_
          refine s_cond rfl (fun h5 => ?_) (fun h5 => ?_)
          · have k5 := h5; try simp only [decide_eq_true_eq, decide_eq_false_iff_not, Bool.not_eq_true', Bool.not_eq_false', Bool.not_true, Bool.not_false, List.length_map, Decidable.not_not] at k5
            refine s_region ?_
            refine o_q (q_mv (v_raw rfl)) rfl rfl rfl ?_
            refine o_q (q_mv (v_raw rfl)) rfl rfl rfl ?_
            refine o_q (q_mul rfl rfl (wrap64 (by omega) (by omega))) rfl rfl rfl ?_
            refine o_q (q_mv (v_raw rfl)) rfl rfl rfl ?_
            refine o_q (q_add rfl rfl (wrap64 (by omega) (by omega))) rfl rfl rfl ?_
            refine o_q (q_idxr und36 sz3 rfl rfl (by omega) (by omega)) rfl rfl rfl ?_
            refine o_q (q_ldm ag3 sz3 rfl (by repeat first | exact Mem.upd_self _ _ _ | assumption | refine Mem.upd_ne (by assumption) ?_) (pcN (by omega) (by omega)) (v_raw rfl)) rfl rfl rfl ?_
            refine o_q (q_add rfl rfl (wrap64 (by omega) (by omega))) rfl rfl rfl ?_
            refine o_q (q_idxr und36 sz3 rfl rfl (by omega) (by omega)) rfl rfl rfl ?_
            refine o_store rfl (by repeat first | exact Mem.upd_self _ _ _ | assumption | refine Mem.upd_ne (by assumption) ?_) (by first | exact e_raw rfl | exact e_agg rfl | exact e_sl rfl | rfl) rfl sz3 rfl (by simp [sentL]; omega) rfl (sent_set (s := l[i].s) (by omega) (by omega)) ?_
            refine o_nil ?_
            refine s_blk_normal ?_
            refine s_region ?_
            refine o_q (q_mv (v_raw rfl)) rfl rfl rfl ?_
            refine o_q (q_add rfl rfl (wrap64 (by omega) (by omega))) rfl rfl rfl ?_
            refine o_q (q_as (v_raw rfl)) rfl rfl rfl ?_
            refine o_nil ?_
            refine s_inv ?_
            exact ⟨l.length - (i + 1), by omega, _, _, _, _, i + 1, St.mkT (kp (kp (kp (kp (kp (kp (kp rfl rfl) rfl) rfl) rfl) rfl) rfl) rfl).symm, (by rw [okS_yes (by assumption)] at hN1; exact hR.one hN1 hC1), by omega, rfl⟩
          · have k5 := h5; try simp only [decide_eq_true_eq, decide_eq_false_iff_not, Bool.not_eq_true', Bool.not_eq_false', Bool.not_true, Bool.not_false, List.length_map, Decidable.not_not] at k5
            refine s_skip ?_
            refine s_blk_normal ?_
            refine s_region ?_
            refine o_q (q_mv (v_raw rfl)) rfl rfl rfl ?_
            refine o_q (q_add rfl rfl (wrap64 (by omega) (by omega))) rfl rfl rfl ?_
            refine o_q (q_as (v_raw rfl)) rfl rfl rfl ?_
            refine o_nil ?_
            refine s_inv ?_
            exact ⟨l.length - (i + 1), by omega, _, _, _, _, i + 1, St.mkT (kp (kp (kp (kp (kp (kp (kp rfl rfl) rfl) rfl) rfl) rfl) rfl) rfl).symm, (by rw [okS_no (by assumption)] at hN1; exact hR.none hN1 hC1), by omega, rfl⟩
      · have k2 := h2; try simp only [decide_eq_true_eq, decide_eq_false_iff_not, Bool.not_eq_true', Bool.not_eq_false', Bool.not_true, Bool.not_false, List.length_map, Decidable.not_not] at k2
        refine s_exit ?_
        refine s_code_exit ?_
        refine s_inv_exit ?_
        refine s_blk_here ?_
        refine s_inv ?_
        exact ⟨_, _, _, _, St.mkT (kp (kp (kp (kp (kp (kp rfl rfl) rfl) rfl) rfl) rfl) rfl).symm, hR⟩
    · have k1 := h1; try simp only [decide_eq_true_eq, decide_eq_false_iff_not, Bool.not_eq_true', Bool.not_eq_false', Bool.not_true, Bool.not_false, List.length_map, Decidable.not_not] at k1
      refine o_no rfl rfl rfl rfl h1 ?_
      refine o_no rfl rfl rfl rfl h1 ?_
      refine o_q (q_pick_c (t := false) rfl h1 (v_raw rfl)) rfl rfl rfl ?_
      refine o_nil ?_
      refine s_else rfl rfl ?_
      refine s_exit ?_
      refine s_code_exit ?_
      refine s_inv_exit ?_
      refine s_blk_here ?_
      refine s_inv ?_
      exact ⟨_, _, _, _, St.mkT (kp (kp (kp (kp (kp (kp rfl rfl) rfl) rfl) rfl) rfl) rfl).symm, hR⟩
  rintro S ⟨T, Mc, q, O, rfl, hR⟩
  refine s_seq ?_
  refine s_region ?_
  refine o_q (q_mv ((by first | exact v_raw rfl | exact v_sptr rfl))) rfl rfl rfl ?_
  refine o_q (q_mv (v_raw rfl)) rfl rfl rfl ?_
  refine o_callx ((clear15 hR.net nd)) goes15 (ac ((by first | exact v_raw rfl | exact v_sptr rfl)) (ac (v_raw rfl) ac_nil)) rfl ?_
  rintro r' M2 ⟨O2, hN2, hC2⟩
  have hbs2 := (hC2.keep hR.hb hR.bo).1
  have hle2 := hC2.le hR.le hR.out
  refine o_nil ?_
  refine s_seq ?_
  refine s_seq ?_
  refine s_region ?_
  refine o_q (q_as (v_raw rfl)) rfl rfl rfl ?_
  refine o_nil ?_
  refine s_block ?_
  refine s_loop (fun m S => ∃ T, ∃ a : Nat, S = ⟨setT (setT (setT (setT (setT (setT (setT T 0 (int (2 + (p : Int)))) 1 (.sl (l.map encDe) o)) 2 (int (nd : Int))) 7 (bool true)) 8 (ptr x)) 10 (rsl B1 49 49)) 15 (int (a : Nat)), M2⟩ ∧ a ≤ 2 + p ∧ m = 2 + p - a) (2 + p) ?_ ?_
  · exact ⟨_, 0, St.mkT (kp (kp (kp (kp (kp (kp (kp rfl rfl) rfl) rfl) rfl) rfl) rfl) rfl).symm, by omega, rfl⟩
  rintro m S ⟨T, a, rfl, ha, rfl⟩
  refine s_seq ?_
  refine s_seq ?_
  refine s_region ?_
  refine o_q (q_mv (v_raw rfl)) rfl rfl rfl ?_
  refine o_q (q_mv (v_raw rfl)) rfl rfl rfl ?_
  refine o_q (q_lss rfl rfl) rfl rfl rfl ?_
  refine o_nil ?_
  refine s_cond rfl (fun h6 => ?_) (fun h6 => ?_)
  · have k6 := h6; try simp only [decide_eq_true_eq, decide_eq_false_iff_not, Bool.not_eq_true', Bool.not_eq_false', Bool.not_true, Bool.not_false, List.length_map, Decidable.not_not] at k6
    refine s_skip ?_
    refine s_seq ?_
    refine s_block ?_
    refine s_seq ?_
    refine s_region ?_
    refine o_q (q_as (v_raw rfl)) rfl rfl rfl ?_
    refine o_nil ?_
    refine s_block ?_
    refine s_loop (fun m S => ∃ T, ∃ b : Nat, S = ⟨setT (setT (setT (setT (setT (setT (setT (setT T 0 (int (2 + (p : Int)))) 1 (.sl (l.map encDe) o)) 2 (int (nd : Int))) 7 (bool true)) 8 (ptr x)) 10 (rsl B1 49 49)) 15 (int (a : Nat))) 16 (int (b : Nat)), M2⟩ ∧ b ≤ 2 + p ∧ m = 2 + p - b) (2 + p) ?_ ?_
    · exact ⟨_, 0, St.mkT (kp (kp (kp (kp (kp (kp (kp (kp rfl rfl) rfl) rfl) rfl) rfl) rfl) rfl) rfl).symm, by omega, rfl⟩
    rintro m S ⟨T, b, rfl, hb, rfl⟩
    refine s_seq ?_
    refine s_seq ?_
    refine s_region ?_
    refine o_q (q_mv (v_raw rfl)) rfl rfl rfl ?_
    refine o_q (q_mv (v_raw rfl)) rfl rfl rfl ?_
    refine o_q (q_lss rfl rfl) rfl rfl rfl ?_
    refine o_nil ?_
    refine s_cond rfl (fun h7 => ?_) (fun h7 => ?_)
    · have k7 := h7; try simp only [decide_eq_true_eq, decide_eq_false_iff_not, Bool.not_eq_true', Bool.not_eq_false', Bool.not_true, Bool.not_false, List.length_map, Decidable.not_not] at k7
      refine s_skip ?_
      refine s_seq ?_
      refine s_block ?_
      refine s_seq ?_
      refine s_region ?_
      refine o_q (q_mv (v_raw rfl)) rfl rfl rfl ?_
      refine o_q (q_mv (v_raw rfl)) rfl rfl rfl ?_
      refine o_q (q_mul rfl rfl (wrap64 (by omega) (by omega))) rfl rfl rfl ?_
      refine o_q (q_mv (v_raw rfl)) rfl rfl rfl ?_
      refine o_q (q_add rfl rfl (wrap64 (by omega) (by omega))) rfl rfl rfl ?_
      refine o_q (q_idxr und36 sz3 rfl rfl (by omega) (by omega)) rfl rfl rfl ?_
      refine o_q (q_ldm ag3 sz3 rfl (by repeat first | exact Mem.upd_self _ _ _ | assumption | refine Mem.upd_ne (by assumption) ?_) (pcN (by omega) (by omega)) (v_raw rfl)) rfl rfl rfl ?_
      refine o_q (q_as (v_raw rfl)) rfl rfl rfl ?_
      refine o_nil ?_
      refine s_seq ?_
      refine s_seq ?_
      refine s_region ?_
      refine o_q (q_mv (v_raw rfl)) rfl rfl rfl ?_
      refine o_q (q_mv (v_raw rfl)) rfl rfl rfl ?_
      refine o_q (q_eql rfl rfl) rfl rfl rfl ?_
      refine o_q (q_mv (v_raw rfl)) rfl rfl rfl ?_
      refine o_cases (want := false) (j := 3) rfl rfl (fun h8 => ?_) (fun h8 => ?_)
      · have k8 := h8; try simp only [decide_eq_true_eq, decide_eq_false_iff_not, Bool.not_eq_true', Bool.not_eq_false', Bool.not_true, Bool.not_false, List.length_map, Decidable.not_not] at k8
        refine o_yes rfl rfl rfl h8 ?_
        refine o_q (q_mv (v_raw rfl)) rfl rfl rfl ?_
        refine o_yes rfl rfl rfl h8 ?_
        refine o_q (q_mv (v_raw rfl)) rfl rfl rfl ?_
        refine o_yes rfl rfl rfl h8 ?_
        refine o_q (q_eql rfl rfl) rfl rfl rfl ?_
        refine o_q (q_pick_c (t := false) rfl h8 (v_raw rfl)) rfl rfl rfl ?_
        refine o_nil ?_
        refine s_cond rfl (fun h9 => ?_) (fun h9 => ?_)
        · have k9 := h9; try simp only [decide_eq_true_eq, decide_eq_false_iff_not, Bool.not_eq_true', Bool.not_eq_false', Bool.not_true, Bool.not_false, List.length_map, Decidable.not_not] at k9
          refine s_region ?_
          refine o_q (q_as (v_raw rfl)) rfl rfl rfl ?_
          refine o_nil ?_
          refine s_seq ?_
          refine s_region ?_
          refine o_q (q_mv ((by first | exact v_raw rfl | exact v_sptr rfl))) rfl rfl rfl ?_
          refine o_q (q_mv (v_raw rfl)) rfl rfl rfl ?_
          refine o_q (q_mv (v_raw rfl)) rfl rfl rfl ?_
          refine o_call ((len16 hN2 a b)) goes16 (ac ((by first | exact v_raw rfl | exact v_sptr rfl)) (ac (v_raw rfl) (ac (v_raw rfl) ac_nil))) rfl ?_
          refine o_q (q_mv (v_raw rfl)) rfl rfl rfl ?_
          refine o_q (q_neq rfl rfl) rfl rfl rfl ?_
          refine o_nil ?_
          refine s_else rfl (by simp [clearQ, touch, *]) ?_
          refine s_skip ?_
          refine s_blk_normal ?_
          refine s_region ?_
          refine o_q (q_mv (v_raw rfl)) rfl rfl rfl ?_
          refine o_q (q_add rfl rfl (wrap64 (by omega) (by omega))) rfl rfl rfl ?_
          refine o_q (q_as (v_raw rfl)) rfl rfl rfl ?_
          refine o_nil ?_
          refine s_inv ?_
          exact ⟨2 + p - (b + 1), by omega, _, b + 1, St.mkT (kp (kp (kp (kp (kp (kp (kp (kp rfl rfl) rfl) rfl) rfl) rfl) rfl) rfl) rfl).symm, by omega, rfl⟩
        · have k9 := h9; try simp only [decide_eq_true_eq, decide_eq_false_iff_not, Bool.not_eq_true', Bool.not_eq_false', Bool.not_true, Bool.not_false, List.length_map, Decidable.not_not] at k9
          refine s_skip ?_
          refine s_seq ?_
          refine s_region ?_
          refine o_q (q_mv ((by first | exact v_raw rfl | exact v_sptr rfl))) rfl rfl rfl ?_
          refine o_q (q_mv (v_raw rfl)) rfl rfl rfl ?_
          refine o_q (q_mv (v_raw rfl)) rfl rfl rfl ?_
          refine o_call ((len16 hN2 a b)) goes16 (ac ((by first | exact v_raw rfl | exact v_sptr rfl)) (ac (v_raw rfl) (ac (v_raw rfl) ac_nil))) rfl ?_
          refine o_q (q_mv (v_raw rfl)) rfl rfl rfl ?_
          refine o_q (q_neq rfl rfl) rfl rfl rfl ?_
          refine o_nil ?_
          refine s_else rfl (by simp [clearQ, touch, *]) ?_
          refine s_skip ?_
          refine s_blk_normal ?_
          refine s_region ?_
          refine o_q (q_mv (v_raw rfl)) rfl rfl rfl ?_
          refine o_q (q_add rfl rfl (wrap64 (by omega) (by omega))) rfl rfl rfl ?_
          refine o_q (q_as (v_raw rfl)) rfl rfl rfl ?_
          refine o_nil ?_
          refine s_inv ?_
          exact ⟨2 + p - (b + 1), by omega, _, b + 1, St.mkT (kp (kp (kp (kp (kp (kp (kp (kp rfl rfl) rfl) rfl) rfl) rfl) rfl) rfl) rfl).symm, by omega, rfl⟩
      · have k8 := h8; try simp only [decide_eq_true_eq, decide_eq_false_iff_not, Bool.not_eq_true', Bool.not_eq_false', Bool.not_true, Bool.not_false, List.length_map, Decidable.not_not] at k8
        refine o_no rfl rfl rfl rfl h8 ?_
        refine o_no rfl rfl rfl rfl h8 ?_
        refine o_no rfl rfl rfl rfl h8 ?_
        refine o_q (q_pick_c (t := true) rfl h8 (v_raw rfl)) rfl rfl rfl ?_
        refine o_nil ?_
        refine s_then rfl rfl ?_
        refine s_region ?_
        refine o_q (q_as (v_raw rfl)) rfl rfl rfl ?_
        refine o_nil ?_
        refine s_seq ?_
        refine s_region ?_
        refine o_q (q_mv ((by first | exact v_raw rfl | exact v_sptr rfl))) rfl rfl rfl ?_
        refine o_q (q_mv (v_raw rfl)) rfl rfl rfl ?_
        refine o_q (q_mv (v_raw rfl)) rfl rfl rfl ?_
        refine o_call ((len16 hN2 a b)) goes16 (ac ((by first | exact v_raw rfl | exact v_sptr rfl)) (ac (v_raw rfl) (ac (v_raw rfl) ac_nil))) rfl ?_
        refine o_q (q_mv (v_raw rfl)) rfl rfl rfl ?_
        refine o_q (q_neq rfl rfl) rfl rfl rfl ?_
        refine o_nil ?_
        refine s_else rfl (by simp [clearQ, touch, *]) ?_
        refine s_skip ?_
        refine s_blk_normal ?_
        refine s_region ?_
        refine o_q (q_mv (v_raw rfl)) rfl rfl rfl ?_
        refine o_q (q_add rfl rfl (wrap64 (by omega) (by omega))) rfl rfl rfl ?_
        refine o_q (q_as (v_raw rfl)) rfl rfl rfl ?_
        refine o_nil ?_
        refine s_inv ?_
        exact ⟨2 + p - (b + 1), by omega, _, b + 1, St.mkT (kp (kp (kp (kp (kp (kp (kp (kp rfl rfl) rfl) rfl) rfl) rfl) rfl) rfl) rfl).symm, by omega, rfl⟩
    · have k7 := h7; try simp only [decide_eq_true_eq, decide_eq_false_iff_not, Bool.not_eq_true', Bool.not_eq_false', Bool.not_true, Bool.not_false, List.length_map, Decidable.not_not] at k7
      refine s_exit ?_
      refine s_code_exit ?_
      refine s_inv_exit ?_
      refine s_blk_here ?_
      refine s_blk_normal ?_
      refine s_region ?_
      refine o_q (q_mv (v_raw rfl)) rfl rfl rfl ?_
      refine o_q (q_add rfl rfl (wrap64 (by omega) (by omega))) rfl rfl rfl ?_
      refine o_q (q_as (v_raw rfl)) rfl rfl rfl ?_
      refine o_nil ?_
      refine s_inv ?_
      exact ⟨2 + p - (a + 1), by omega, _, a + 1, St.mkT (kp (kp (kp (kp (kp (kp (kp rfl rfl) rfl) rfl) rfl) rfl) rfl) rfl).symm, by omega, rfl⟩
  · have k6 := h6; try simp only [decide_eq_true_eq, decide_eq_false_iff_not, Bool.not_eq_true', Bool.not_eq_false', Bool.not_true, Bool.not_false, List.length_map, Decidable.not_not] at k6
    refine s_exit ?_
    refine s_code_exit ?_
    refine s_inv_exit ?_
    refine s_blk_here ?_
    refine s_seq ?_
    refine s_region ?_
    refine o_q (q_mv (v_raw rfl)) rfl rfl rfl ?_
    refine o_q (q_as (v_raw rfl)) rfl rfl rfl ?_
    refine o_nil ?_
    refine s_ret ?_
    refine s_end ?_
    exact ⟨rfl, hle2⟩
end C05
