import Derived.Test.YtphenhkofjbeoaaB05
import Derived.Test.YtphenhkofjbeoaaProg
/-! Chapter 5: the net: what its functions compute. -/
open Go Go.Proofs Go.Am
set_option linter.unusedVariables false
set_option linter.unusedSimpArgs false
set_option autoImplicit false
namespace C05
theorem ag9 : aggT Try.prog 9 = some false := by kernel_rfl
theorem ag49 : aggT Try.prog 49 = some true := by kernel_rfl
theorem sz49 : sizeT Try.prog 49 = some 2 := by kernel_rfl
theorem zc49 : zeroCellsT Try.prog 49 = some [.raw (.int .i64 0), .raw (.int .i64 0)] := by kernel_rfl
def tk29 : Nat → Nat → Option Nat := fun _ _ => none
def pl29 : Nat → List PStep
  | 2 => [.q 0, .q 1, .q 2, .q 3, .q 4, .s 5 [0, 1, 2, 3, 4], .q 6]
  | 7 => [.q 0, .q 1, .q 2, .q 3, .q 4, .q 5, .q 7, .q 8, .q 9, .s 6 [0, 1, 2, 3, 4, 5, 7, 8, 9], .s 10 [0, 1, 2, 3, 4, 5, 7, 8, 9], .s 11 [0, 1, 2, 3, 4, 5, 7, 8, 9]]
  | _ => []
theorem cb29 : Try.f29.body.map (codeB Try.prog Try.f29.ntmps tk29 pl29) = some true := by kernel_rfl
theorem goes29 : goesB Try.prog 29 = true := by kernel_rfl
-- (*carillon/net.Net).at params ['*net.Net', 'int', 'int', 'int', 'bool'] results [['t', 10], ['t', 11]] own [] names ['0:x', '1:from', '2:to', '3:i', '4:off', '5:x', '6:from', '7:to', '8:i', '9:off', '12:k', '13:l', '14:s'] calls [32, 33] paths 4

def atB (q : K2 → List ByteArray) (a b i : Int) : Bool := decide (0 ≤ i ∧ i < (q (a, b)).length)
def atS (q : K2 → List ByteArray) (a b i : Int) : ByteArray := if atB q a b i then (q (a, b)).getD i.toNat "".toUTF8 else "".toUTF8
def atQ (q : K2 → List ByteArray) (a b i : Int) (off : Bool) : K2 → List ByteArray := if off && atB q a b i then setQ q (a, b) ((q (a, b)).eraseIdx i.toNat) else q

theorem NetAt.fin {M M' : Mem} {x r : Nat} {n : Int} {side clk : Nat} {l : List (En K2)} {q : K2 → List ByteArray} {l' : List (En K2)} {clk' : Nat} {k : K2} {v : Value} {ts : List ByteArray} {B : Nat} {o o' : AObj} (hN : NetAt M x r n side clk l q) (hB : M B = none) (hp : Put l clk l' clk' k v)
    (hr : M' r = some (.it (.map (entsX keyV l') clk'))) (hv : Slb M' v ts) (hts : ts.length ≤ 64) (hb : ∀ b, bk v = some b → ((M.upd B o).upd B o') b = none ∨ ∃ e ∈ l, e.k = k ∧ bk e.v = some b)
    (hs : ∀ c, ((M.upd B o).upd B o') c ≠ none → c ≠ r → (∀ e ∈ l, e.k = k → bk e.v ≠ some c) → M' c = ((M.upd B o).upd B o') c) {R : Prop} (hR : R) {O : Nat → Prop} (hO : O = Own x r l) : ∃ O', R ∧ NetO M' x n side (setQ q k ts) O' ∧ Chg M M' O O' := by
  subst hO
  have h1 : NetAt ((M.upd B o).upd B o') x r n side clk l q := hN.fresh2 hB
  obtain ⟨g1, g2⟩ := h1.put hp (hs x (h1.own (.inl rfl)) h1.xr fun e he _ hb' => (h1.bx e he x hb').1 rfl) hr hv hts hb (fun e he hne b hb' => hs b (h1.own (.inr (.inr ⟨e, he, hb'⟩))) (h1.bx e he b hb').2 fun e' he' hk hb2 => hne ((h1.bd e he e' he' b hb' hb2).trans hk))
  refine ⟨Own x r l', hR, ⟨r, clk', l', g1, rfl⟩, ⟨fun c hc ho => ?_, fun c hc => ?_⟩⟩
  · have hcB : c ≠ B := fun e => hc (by rw [e]; exact hB)
    have e1 : ((M.upd B o).upd B o') c = M c := (upd_other hcB).trans (upd_other hcB)
    rw [hs c (by rw [e1]; exact hc) (fun e => ho (.inr (.inl e))) (fun e he _ hb' => ho (.inr (.inr ⟨e, he, hb'⟩))), e1]
  · rcases g2 c hc with h2 | h2
    · exact .inl h2
    · exact .inr (Mem.upd_none (Mem.upd_none h2).2).2
theorem NetAt.entry {M : Mem} {x r : Nat} {n : Int} {side clk : Nat} {l : List (En K2)} {q : K2 → List ByteArray} (h : NetAt M x r n side clk l q) {k : K2} {j : Nat} (hj : enIdx l k = some j) : ∃ e bb kk, l[j]? = some e ∧ e ∈ l ∧ e.k = k ∧ enGet l k = some e ∧ e.v = .slice (some ⟨bb, 0, none⟩) (q k).length ((q k).length + kk) ∧ M bb = some (.cells ((q k ++ List.replicate kk "".toUTF8).map str)) ∧ bb ≠ x ∧ bb ≠ r := by
  obtain ⟨e, h1, h2, h3⟩ := enIdx_some hj
  have he := List.mem_of_getElem? h1
  obtain ⟨bb, kk, h4, h5⟩ := h.q1 e he
  have hbx := h.bx e he bb (by rw [h4]; rfl)
  rw [h2] at h4 h5
  exact ⟨e, bb, kk, h1, he, h2, h3, h4, h5, hbx.1, hbx.2⟩
theorem NetAt.has {M : Mem} {x r : Nat} {n : Int} {side clk : Nat} {l : List (En K2)} {q : K2 → List ByteArray} (h : NetAt M x r n side clk l q) {k : K2} (hq : q k ≠ []) : ∃ j, enIdx l k = some j := by
  cases hj : enIdx l k with
  | none => exact absurd (h.q0 k (enIdx_no hj)) hq
  | some j => exact ⟨j, rfl⟩
theorem pcS {ts : List ByteArray} {j k : Nat} (h : j < ts.length) : piece false ((ts ++ List.replicate k "".toUTF8).map str) (0 + ((j : Nat) : Int).toNat * 1) 1 = some (str (ts.getD j "".toUTF8)) := by
  show ((ts ++ List.replicate k "".toUTF8).map str)[0 + ((j : Nat) : Int).toNat * 1]? = _
  rw [show 0 + ((j : Nat) : Int).toNat * 1 = j by simp, List.getElem?_map, List.getElem?_append_left h, List.getElem?_eq_getElem h]
  simp [List.getD, List.getElem?_eq_getElem h]
theorem atB_pos {q : K2 → List ByteArray} {a b : Int} {m : Nat} (h : m < (q (a, b)).length) : atB q a b m = true := decide_eq_true ⟨by omega, by omega⟩
set_option maxHeartbeats 4000000 in
set_option maxRecDepth 20000 in
theorem snd29 (x r clk side : Nat) (n : Int) (l : List (En K2)) (q : K2 → List ByteArray) (M : Mem) (hN : NetAt M x r n side clk l q) (O : Nat → Prop) (hO : O = Own x r l) (a b i : Int) (off : Bool) : SoundCall Try.prog 29 [ptr x, int a, int b, int i, bool off] M fun r' M' => ∃ O', r' = .tup [str (atS q a b i), bool (atB q a b i)] ∧ NetO M' x n side (atQ q a b i off) O' ∧ Chg M M' O O' := by
  obtain ⟨hx, hr, xr, hnd, hst, hsn, hq0, hq1, hbx, hbd, hql, ⟨hn1, hn7⟩, hs63⟩ := id hN
  have rx := xr.symm
  obtain ⟨base, c, hlk, hat⟩ := hN.look (a, b)
  refine SoundCall.go tk29 pl29 mixed Try.func29 cb29 rfl (Nat.le_of_ble_eq_true rfl) ?_
  refine s_seq ?_
  refine s_region ?_
  refine o_q (q_as (v_raw rfl)) rfl rfl rfl ?_
  refine o_q (q_as (v_raw rfl)) rfl rfl rfl ?_
  refine o_nil ?_
  refine s_seq ?_
  refine s_region ?_
  refine o_q (q_mv (v_raw rfl)) rfl rfl rfl ?_
  refine o_q (q_mv (v_raw rfl)) rfl rfl rfl ?_
  refine o_q (q_b (cs := [_, _]) bz49 bp49 (bfa und49 sz3 (e_raw rfl) rfl rfl (Nat.le_of_ble_eq_true rfl) rfl (bfa und49 sz3 (e_raw rfl) rfl rfl (Nat.le_of_ble_eq_true rfl) rfl bf_nil))) rfl rfl rfl ?_
  refine o_alloc zc49 (fun B1 hB1 => ?_)
  have n1 := hN.ne hB1
  obtain ⟨n1a, n1b, n1c, n1d⟩ := id n1
  refine o_store rfl (by repeat first | exact Mem.upd_self _ _ _ | assumption | refine Mem.upd_ne (by assumption) ?_) (by first | exact e_raw rfl | exact e_agg rfl | exact e_sl rfl | rfl) rfl sz49 rfl (Nat.le_of_ble_eq_true rfl) rfl rfl ?_
  refine o_nil ?_
  refine s_seq ?_
  refine s_draw rfl ?_
  refine d_q rfl (q_mv ((by first | exact v_raw rfl | exact v_sptr rfl))) rfl rfl rfl ?_
  refine d_q rfl (q_nil rfl) rfl rfl rfl ?_
  refine d_q rfl (q_fr fo48_1 rfl) rfl rfl rfl ?_
  refine d_q rfl (q_ldm ag46 sz46 rfl (by repeat first | exact Mem.upd_self _ _ _ | assumption | refine Mem.upd_ne (by assumption) ?_) rfl (v_raw rfl)) rfl rfl rfl ?_
  refine d_q rfl (q_ldm ag49 sz49 rfl (by repeat first | exact Mem.upd_self _ _ _ | assumption | refine Mem.upd_ne (by assumption) ?_) rfl (v_agg rfl)) rfl rfl rfl ?_
  refine d_s rfl ?_
  refine x_lookup (k := (a, b)) und46 kt49 z40 rfl rfl ((upd_other n1.2.2.2).trans ((upd_other n1.2.2.2).trans hr)) ?_
  rw [hlk]
  refine o_nil ⟨(by simp [Mem.upd, *]), ?_⟩
  refine d_q rfl (q_as (v_raw rfl)) rfl rfl rfl ?_
  refine d_nil ?_
  refine s_seq ?_
  refine s_seq ?_
  refine s_region ?_
  refine o_q (q_mv (v_raw rfl)) rfl rfl rfl ?_
  refine o_q (q_lss rfl rfl) rfl rfl rfl ?_
  refine o_q (q_mv (v_raw rfl)) rfl rfl rfl ?_
  refine o_cases (want := false) (j := 2) rfl rfl (fun h1 => ?_) (fun h1 => ?_)
  · have k1 := h1; try simp only [decide_eq_true_eq, decide_eq_false_iff_not, Bool.not_eq_true', Bool.not_eq_false', Bool.not_true, Bool.not_false, List.length_map, Decidable.not_not] at k1
    refine o_yes rfl rfl rfl h1 ?_
    refine o_q (q_mv (v_raw rfl)) rfl rfl rfl ?_
    refine o_yes rfl rfl rfl h1 ?_
    refine o_q (q_mv (v_raw rfl)) rfl rfl rfl ?_
    refine o_yes rfl rfl rfl h1 ?_
    refine o_q (q_lenr rfl und40 rfl) rfl rfl rfl ?_
    refine o_yes rfl rfl rfl h1 ?_
    refine o_q (q_geq rfl rfl) rfl rfl rfl ?_
    refine o_q (q_pick_c (t := false) rfl h1 (v_raw rfl)) rfl rfl rfl ?_
    refine o_nil ?_
    refine s_cond rfl (fun h2 => ?_) (fun h2 => ?_)
    · have k2 := h2; try simp only [decide_eq_true_eq, decide_eq_false_iff_not, Bool.not_eq_true', Bool.not_eq_false', Bool.not_true, Bool.not_false, List.length_map, Decidable.not_not] at k2
      refine s_seq ?_
      refine s_region ?_
      refine o_q (q_as (v_raw rfl)) rfl rfl rfl ?_
      refine o_q (q_as (v_raw rfl)) rfl rfl rfl ?_
      refine o_nil ?_
      refine s_ret ?_
      refine s_code_ret ?_
      refine s_end ?_
      have hno : atB q a b i = false := decide_eq_false (by omega)
      refine ⟨O, ?_, ⟨r, clk, l, ?_, hO⟩, ?_⟩
      · unfold atS; rw [hno]; rfl
      · unfold atQ; rw [hno, Bool.and_false]; exact hN.fresh2 hB1
      · exact Chg.fresh2 O hB1
    · have k2 := h2; try simp only [decide_eq_true_eq, decide_eq_false_iff_not, Bool.not_eq_true', Bool.not_eq_false', Bool.not_true, Bool.not_false, List.length_map, Decidable.not_not] at k2
      obtain ⟨m, rfl⟩ : ∃ m : Nat, i = m := Int.eq_ofNat_of_zero_le (by omega)
      have hm : m < (q (a, b)).length := by omega
      obtain ⟨j, hj⟩ := hN.has (k := (a, b)) (fun e => by rw [e] at hm; exact absurd hm (by simp))
      obtain ⟨e, bb, kk, he, hel, hek, hget, hev, hbb, hbbx, hbbr⟩ := hN.entry hj
      rw [hget] at hlk
      have hlk' := hev.symm.trans hlk
      have hle0 := hql (a, b)
      cases hlk'
      have hbB : bb ≠ B1 := Mem.fresh_ne hB1 hbb
      have hatB := atB_pos hm
      have hatS : atS q a b m = (q (a, b)).getD m "".toUTF8 := by unfold atS; rw [if_pos hatB]; rfl
      refine s_skip ?_
      refine s_seq ?_
      refine s_region ?_
      refine o_q (q_mv (v_raw rfl)) rfl rfl rfl ?_
      refine o_q (q_mv (v_raw rfl)) rfl rfl rfl ?_
      refine o_q (q_idxr und40 sz9 rfl rfl (by omega) (by omega)) rfl rfl rfl ?_
      refine o_q (q_ldm ag9 sz9 rfl (by repeat first | exact Mem.upd_self _ _ _ | assumption | refine Mem.upd_ne (by assumption) ?_) (pcS hm) (v_raw rfl)) rfl rfl rfl ?_
      refine o_q (q_as (v_raw rfl)) rfl rfl rfl ?_
      refine o_nil ?_
      refine s_seq ?_
      refine s_seq ?_
      refine s_region ?_
      refine o_q (q_mv (v_raw rfl)) rfl rfl rfl ?_
      refine o_nil ?_
      refine s_cond rfl (fun h3 => ?_) (fun h3 => ?_)
      · have k3 := h3; try simp only [decide_eq_true_eq, decide_eq_false_iff_not, Bool.not_eq_true', Bool.not_eq_false', Bool.not_true, Bool.not_false, List.length_map, Decidable.not_not] at k3
        refine s_draw rfl ?_
        refine d_q rfl (q_mv ((by first | exact v_raw rfl | exact v_sptr rfl))) rfl rfl rfl ?_
        refine d_q rfl (q_nil rfl) rfl rfl rfl ?_
        refine d_q rfl (q_fr fo48_1 rfl) rfl rfl rfl ?_
        refine d_q rfl (q_ldm ag46 sz46 rfl (by repeat first | exact Mem.upd_self _ _ _ | assumption | refine Mem.upd_ne (by assumption) ?_) rfl (v_raw rfl)) rfl rfl rfl ?_
        refine d_q rfl (q_ldm ag49 sz49 rfl (by repeat first | exact Mem.upd_self _ _ _ | assumption | refine Mem.upd_ne (by assumption) ?_) rfl (v_agg rfl)) rfl rfl rfl ?_
        refine d_q rfl (q_mv (v_raw rfl)) rfl rfl rfl ?_
        refine d_q rfl (q_mv (v_raw rfl)) rfl rfl rfl ?_
        refine d_q rfl (q_mv (v_raw rfl)) rfl rfl rfl ?_
        refine d_q rfl (q_add rfl rfl (wrap64 (by omega) (by omega))) rfl rfl rfl ?_
        refine d_s rfl ?_
        refine o_callx ((snd33 (some ⟨bb, 0, none⟩) (q (a, b)) _ _ ⟨fun _ => ⟨bb, kk, rfl, (by repeat first | exact Mem.upd_self _ _ _ | assumption | refine Mem.upd_ne (by assumption) ?_)⟩⟩ ⟨by omega, hql _⟩)) goes33 (ac (v_raw rfl) ac_nil) rfl ?_
        rintro r' M' ⟨bc, kc, rfl, hbc, rfl⟩
        obtain ⟨nc1, nc2, nc3, nc4⟩ := (hN.fresh2 hB1).ne hbc
        have nc5 : B1 ≠ bc := Mem.fresh_ne hbc (Mem.upd_self _ _ _)
        have nc6 := nc5.symm
        refine o_nil ⟨(by simp [Mem.upd, *]), ?_⟩
        refine d_s rfl ?_
        refine o_callx ((snd32 bc kc m (q (a, b)) _ (Mem.upd_self _ _ _) hm (hql _))) goes32 (ac (v_raw rfl) (ac (v_raw rfl) (ac (v_raw rfl) ac_nil))) rfl ?_
        rintro r' M' ⟨rfl, rfl⟩
        refine o_nil ⟨(by simp [Mem.upd, *]), ?_⟩
        refine d_s rfl ?_
        refine x_updOld (k := (a, b)) (j := j) (e := e) und46 kt49 rfl rfl rfl (by repeat first | exact Mem.upd_self _ _ _ | assumption | refine Mem.upd_ne (by assumption) ?_) hj he ?_
        refine o_nil ⟨(by simp [Mem.upd, *]), ?_⟩
        refine d_nil ?_
        refine s_seq ?_
        refine s_region ?_
        refine o_q (q_mv (v_raw rfl)) rfl rfl rfl ?_
        refine o_q (q_as (v_raw rfl)) rfl rfl rfl ?_
        refine o_q (q_as (v_raw rfl)) rfl rfl rfl ?_
        refine o_nil ?_
        refine s_ret ?_
        refine s_end ?_
        have k3' : off = true := h3
        subst k3'
        have hq' : atQ q a b m true = setQ q (a, b) ((q (a, b)).eraseIdx m) := by unfold atQ; rw [hatB]; rfl
        have hlen : ((q (a, b)).eraseIdx m).length = (q (a, b)).length - 1 := List.length_eraseIdx_of_lt hm
        have hle := hql (a, b)
        rw [hq']
        refine hN.fin hB1 (Put.old hnd hsn hst he hek) (Mem.upd_self _ _ _) (ts := (q (a, b)).eraseIdx m) ⟨bc, kc + 1, by rw [hlen, show (q (a, b)).length - 1 + (kc + 1) = (q (a, b)).length + kc by omega], (upd_other nc3).trans (Mem.upd_self _ _ _)⟩ (by omega) (fun b' hb' => by cases hb'; exact .inl hbc) (fun c hc hcr hcb => ?_) (by rw [hatS, hatB]; rfl) hO
        have hcc : c ≠ bc := fun e => hc (by rw [e]; exact hbc)
        exact (upd_other hcr).trans ((upd_other hcc).trans (upd_other hcc))
      · have k3 := h3; try simp only [decide_eq_true_eq, decide_eq_false_iff_not, Bool.not_eq_true', Bool.not_eq_false', Bool.not_true, Bool.not_false, List.length_map, Decidable.not_not] at k3
        refine s_skip ?_
        refine s_seq ?_
        refine s_region ?_
        refine o_q (q_mv (v_raw rfl)) rfl rfl rfl ?_
        refine o_q (q_as (v_raw rfl)) rfl rfl rfl ?_
        refine o_q (q_as (v_raw rfl)) rfl rfl rfl ?_
        refine o_nil ?_
        refine s_ret ?_
        refine s_end ?_
        have k3' : off = false := h3
        subst k3'
        refine ⟨O, ?_, ⟨r, clk, l, ?_, hO⟩, ?_⟩
        · rw [hatS, hatB]; rfl
        · exact hN.fresh2 hB1
        · exact Chg.fresh2 O hB1
  · have k1 := h1; try simp only [decide_eq_true_eq, decide_eq_false_iff_not, Bool.not_eq_true', Bool.not_eq_false', Bool.not_true, Bool.not_false, List.length_map, Decidable.not_not] at k1
    refine o_no rfl rfl rfl rfl h1 ?_
    refine o_no rfl rfl rfl rfl h1 ?_
    refine o_no rfl rfl rfl rfl h1 ?_
    refine o_no rfl rfl rfl rfl h1 ?_
    refine o_q (q_pick_c (t := true) rfl h1 (v_raw rfl)) rfl rfl rfl ?_
    refine o_nil ?_
    refine s_then rfl rfl ?_
    refine s_seq ?_
    refine s_region ?_
    refine o_q (q_as (v_raw rfl)) rfl rfl rfl ?_
    refine o_q (q_as (v_raw rfl)) rfl rfl rfl ?_
    refine o_nil ?_
    refine s_ret ?_
    refine s_code_ret ?_
    refine s_end ?_
    have hno : atB q a b i = false := decide_eq_false (by omega)
    refine ⟨O, ?_, ⟨r, clk, l, ?_, hO⟩, ?_⟩
    · unfold atS; rw [hno]; rfl
    · unfold atQ; rw [hno, Bool.and_false]; exact hN.fresh2 hB1
    · exact Chg.fresh2 O hB1

def tk11 : Nat → Nat → Option Nat := fun _ _ => none
def pl11 : Nat → List PStep
  | 2 => [.q 0, .q 1, .s 2 [0, 1], .q 3, .q 4, .q 5, .q 6, .s 7 [0, 1, 3, 4, 5, 6], .q 8, .q 9, .q 10, .q 11, .q 12, .q 13, .q 14, .q 15, .q 16, .q 17, .q 18, .q 19, .q 20, .s 21 [0, 1, 3, 4, 5, 6, 8, 9, 10, 11, 12, 13, 14, 15, 16, 17, 18, 19, 20], .q 22, .q 23, .q 24]
  | 4 => [.q 0, .q 1, .q 2, .q 3, .q 4, .q 5, .q 6, .s 7 [0, 1, 2, 3, 4, 5, 6], .q 8, .q 10, .s 9 [0, 1, 2, 3, 4, 5, 6, 8, 10], .s 11 [0, 1, 2, 3, 4, 5, 6, 8, 10]]
  | _ => []
theorem cb11 : Try.f11.body.map (codeB Try.prog Try.f11.ntmps tk11 pl11) = some true := by kernel_rfl
theorem goes11 : goesB Try.prog 11 = true := by kernel_rfl
-- (*carillon/net.Net).Send params ['*net.Net', 'int', 'int', 'string'] results [['t', 8]] own [43] names ['0:x', '1:from', '2:to', '3:s', '4:x', '5:from', '6:to', '7:s', '9:k'] calls [28] paths 7

def inN (n k : Int) : Bool := decide (0 ≤ k ∧ k < n)
def okS (n : Int) (q : K2 → List ByteArray) (a b : Int) : Bool := inN n a && inN n b && decide (a ≠ b) && decide ((q (a, b)).length < 64)
def sendQ (n : Int) (q : K2 → List ByteArray) (a b : Int) (s : ByteArray) : K2 → List ByteArray := if okS n q a b then setQ q (a, b) (q (a, b) ++ [s]) else q
theorem find_stamp {l : List (En K2)} {j : Nat} {e : En K2} (hsn : (l.map En.s).Nodup) (he : l[j]? = some e) : l.findIdx? (fun e' => e'.s = e.s) = some j := by
  obtain ⟨hj, rfl⟩ := List.getElem?_eq_some_iff.1 he
  refine List.findIdx?_eq_some_iff_getElem.2 ⟨hj, by simp, fun i hi => ?_⟩
  simp only [decide_eq_true_eq]
  intro h
  exact List.pairwise_iff_getElem.1 hsn i j (by simp; omega) (by simpa using hj) hi (by simpa using h)
theorem set_last {α : Type} {l : List α} {a b : α} : (l ++ [a]).set l.length b = l ++ [b] := by simp
theorem get_last {α : Type} {l : List α} {a : α} : (l ++ [a])[l.length]? = some a := by simp
theorem in_place {α : Type} {ts : List α} {z s : α} {k : Nat} (h : ts.length + [s].length ≤ ts.length + k) : (ts ++ List.replicate k z).take ts.length ++ [s] ++ (ts ++ List.replicate k z).drop (ts.length + [s].length) = (ts ++ [s]) ++ List.replicate (k - 1) z := by
  rw [List.take_left, ← List.drop_drop, List.drop_left, List.drop_replicate]
  rfl
theorem grown {α : Type} {ts : List α} {z s : α} {k q : Nat} : (ts ++ List.replicate k z).take ts.length ++ [s] ++ List.replicate q z = (ts ++ [s]) ++ List.replicate q z := by rw [List.take_left]
set_option maxHeartbeats 4000000 in
set_option maxRecDepth 20000 in
theorem snd11 (x r clk side : Nat) (n : Int) (l : List (En K2)) (q : K2 → List ByteArray) (M : Mem) (hN : NetAt M x r n side clk l q) (O : Nat → Prop) (hO : O = Own x r l) (a b : Int) (s : ByteArray) : SoundCall Try.prog 11 [ptr x, int a, int b, str s] M fun r' M' => ∃ O', r' = bool (okS n q a b) ∧ NetO M' x n side (sendQ n q a b s) O' ∧ Chg M M' O O' := by
  obtain ⟨hx, hr, xr, hnd, hst, hsn, hq0, hq1, hbx, hbd, hql, ⟨hn1, hn7⟩, hs63⟩ := id hN
  have rx := xr.symm
  obtain ⟨base, c, hlk, hat⟩ := hN.look (a, b)
  have hle := hql (a, b)
  have hfs : ∀ a, (str a).shut = str a ∧ (str a).cells = [str a] ∧ (str a).ok = true ∧ (str a).unit = true := fun _ => ⟨rfl, rfl, rfl, rfl⟩
  refine SoundCall.go tk11 pl11 mixed Try.func11 cb11 rfl (Nat.le_of_ble_eq_true rfl) ?_
  refine s_seq ?_
  refine s_region ?_
  refine o_q (q_as (v_raw rfl)) rfl rfl rfl ?_
  refine o_nil ?_
  refine s_seq ?_
  refine s_region ?_
  refine o_q (q_mv (v_raw rfl)) rfl rfl rfl ?_
  refine o_q (q_mv (v_raw rfl)) rfl rfl rfl ?_
  refine o_q (q_b (cs := [_, _]) bz49 bp49 (bfa und49 sz3 (e_raw rfl) rfl rfl (Nat.le_of_ble_eq_true rfl) rfl (bfa und49 sz3 (e_raw rfl) rfl rfl (Nat.le_of_ble_eq_true rfl) rfl bf_nil))) rfl rfl rfl ?_
  refine o_alloc zc49 (fun B1 hB1 => ?_)
  have n1 := hN.ne hB1
  obtain ⟨n1a, n1b, n1c, n1d⟩ := id n1
  refine o_store rfl (by repeat first | exact Mem.upd_self _ _ _ | assumption | refine Mem.upd_ne (by assumption) ?_) (by first | exact e_raw rfl | exact e_agg rfl | exact e_sl rfl | rfl) rfl sz49 rfl (Nat.le_of_ble_eq_true rfl) rfl rfl ?_
  refine o_nil ?_
  refine s_seq ?_
  refine s_seq ?_
  refine s_draw rfl ?_
  refine d_q rfl (q_mv ((by first | exact v_raw rfl | exact v_sptr rfl))) rfl rfl rfl ?_
  refine d_q rfl (q_mv (v_raw rfl)) rfl rfl rfl ?_
  refine d_s rfl ?_
  refine o_call ((snd28 x r clk side n l q _ (hN.fresh2 hB1) a)) goes28 (ac ((by first | exact v_raw rfl | exact v_sptr rfl)) (ac (v_raw rfl) ac_nil)) rfl ?_
  refine o_nil ⟨(by simp [Mem.upd, *]), ?_⟩
  refine d_q rfl (q_not rfl) rfl rfl rfl ?_
  refine d_q rfl (q_mv (v_raw rfl)) rfl rfl rfl ?_
  refine d_cases (want := false) (j := 4) rfl rfl (fun h1 => ?_) (fun h1 => ?_)
  · have k1 := h1; try simp only [decide_eq_true_eq, decide_eq_false_iff_not, Bool.not_eq_true', Bool.not_eq_false', Bool.not_true, Bool.not_false, List.length_map, Decidable.not_not] at k1
    refine d_yes rfl (q_mv ((by first | exact v_raw rfl | exact v_sptr rfl))) rfl rfl rfl h1 rfl rfl ?_
    refine d_yes rfl (q_mv (v_raw rfl)) rfl rfl rfl h1 rfl rfl ?_
    refine d_s rfl ?_
    refine o_yes rfl rfl rfl h1 ?_
    refine o_call ((snd28 x r clk side n l q _ (hN.fresh2 hB1) b)) goes28 (ac ((by first | exact v_raw rfl | exact v_sptr rfl)) (ac (v_raw rfl) ac_nil)) rfl ?_
    refine o_nil ⟨(by simp [Mem.upd, *]), ?_⟩
    refine d_yes rfl (q_not rfl) rfl rfl rfl h1 rfl rfl ?_
    refine d_q rfl (q_pick_c (t := false) rfl h1 (v_raw rfl)) rfl rfl rfl ?_
    refine d_q rfl (q_mv (v_raw rfl)) rfl rfl rfl ?_
    refine d_cases (want := false) (j := 10) rfl rfl (fun h2 => ?_) (fun h2 => ?_)
    · have k2 := h2; try simp only [decide_eq_true_eq, decide_eq_false_iff_not, Bool.not_eq_true', Bool.not_eq_false', Bool.not_true, Bool.not_false, List.length_map, Decidable.not_not] at k2
      refine d_yes rfl (q_mv (v_raw rfl)) rfl rfl rfl h2 rfl rfl ?_
      refine d_yes rfl (q_mv (v_raw rfl)) rfl rfl rfl h2 rfl rfl ?_
      refine d_yes rfl (q_eql rfl rfl) rfl rfl rfl h2 rfl rfl ?_
      refine d_q rfl (q_pick_c (t := false) rfl h2 (v_raw rfl)) rfl rfl rfl ?_
      refine d_q rfl (q_mv (v_raw rfl)) rfl rfl rfl ?_
      refine d_cases (want := false) (j := 15) rfl rfl (fun h3 => ?_) (fun h3 => ?_)
      · have k3 := h3; try simp only [decide_eq_true_eq, decide_eq_false_iff_not, Bool.not_eq_true', Bool.not_eq_false', Bool.not_true, Bool.not_false, List.length_map, Decidable.not_not] at k3
        refine d_yes rfl (q_mv ((by first | exact v_raw rfl | exact v_sptr rfl))) rfl rfl rfl h3 rfl rfl ?_
        refine d_yes rfl (q_nil rfl) rfl rfl rfl h3 rfl rfl ?_
        refine d_yes rfl (q_fr fo48_1 rfl) rfl rfl rfl h3 rfl rfl ?_
        refine d_yes rfl (q_ldm ag46 sz46 rfl (by repeat first | exact Mem.upd_self _ _ _ | assumption | refine Mem.upd_ne (by assumption) ?_) rfl (v_raw rfl)) rfl rfl rfl h3 rfl rfl ?_
        refine d_yes rfl (q_ldm ag49 sz49 rfl (by repeat first | exact Mem.upd_self _ _ _ | assumption | refine Mem.upd_ne (by assumption) ?_) rfl (v_agg rfl)) rfl rfl rfl h3 rfl rfl ?_
        refine d_s rfl ?_
        refine o_yes rfl rfl rfl h3 ?_
        refine x_lookup (k := (a, b)) und46 kt49 z40 rfl rfl ((upd_other n1d).trans ((upd_other n1d).trans hr)) ?_
        rw [hlk]
        refine o_nil ⟨(by simp [Mem.upd, *]), ?_⟩
        refine d_yes rfl (q_lenr rfl und40 rfl) rfl rfl rfl h3 rfl rfl ?_
        refine d_yes rfl (q_geq rfl rfl) rfl rfl rfl h3 rfl rfl ?_
        refine d_q rfl (q_pick_c (t := false) rfl h3 (v_raw rfl)) rfl rfl rfl ?_
        refine d_nil ?_
        refine s_cond rfl (fun h4 => ?_) (fun h4 => ?_)
        · have k4 := h4; try simp only [decide_eq_true_eq, decide_eq_false_iff_not, Bool.not_eq_true', Bool.not_eq_false', Bool.not_true, Bool.not_false, List.length_map, Decidable.not_not] at k4
          refine s_seq ?_
          refine s_region ?_
          refine o_q (q_as (v_raw rfl)) rfl rfl rfl ?_
          refine o_nil ?_
          refine s_ret ?_
          refine s_code_ret ?_
          refine s_end ?_
          have hok : okS n q a b = false := by unfold okS inN; simp only [Bool.and_eq_false_iff, decide_eq_false_iff_not]; omega
          refine ⟨O, by rw [hok]; rfl, ⟨r, clk, l, ?_, hO⟩, Chg.fresh2 O hB1⟩
          unfold sendQ; rw [hok]; exact hN.fresh2 hB1
        · have k4 := h4; try simp only [decide_eq_true_eq, decide_eq_false_iff_not, Bool.not_eq_true', Bool.not_eq_false', Bool.not_true, Bool.not_false, List.length_map, Decidable.not_not] at k4
          refine s_skip ?_
          refine s_seq ?_
          refine s_draw rfl ?_
          refine d_q rfl (q_mv ((by first | exact v_raw rfl | exact v_sptr rfl))) rfl rfl rfl ?_
          refine d_q rfl (q_nil rfl) rfl rfl rfl ?_
          refine d_q rfl (q_fr fo48_1 rfl) rfl rfl rfl ?_
          refine d_q rfl (q_ldm ag46 sz46 rfl (by repeat first | exact Mem.upd_self _ _ _ | assumption | refine Mem.upd_ne (by assumption) ?_) rfl (v_raw rfl)) rfl rfl rfl ?_
          refine d_q rfl (q_ldm ag49 sz49 rfl (by repeat first | exact Mem.upd_self _ _ _ | assumption | refine Mem.upd_ne (by assumption) ?_) rfl (v_agg rfl)) rfl rfl rfl ?_
          refine d_q rfl (q_mv (v_raw rfl)) rfl rfl rfl ?_
          refine d_q rfl (q_bs slt40 (pc (v_raw rfl) pn) rfl (Els.cons rfl rfl Els.nil) (by decide)) rfl rfl rfl ?_
          refine d_s rfl ?_
          cases hj : enIdx l (a, b)
          · skip
            have hno := enIdx_no hj
            have hq00 : q (a, b) = [] := hq0 _ hno
            refine x_entryNew (k := (a, b)) und46 kt49 z40 rfl rfl ((upd_other n1d).trans ((upd_other n1d).trans hr)) hj ?_
            refine o_nil ⟨(by simp [Mem.upd, *]), ?_⟩
            refine d_q rfl (q_extr rfl rfl) rfl rfl rfl ?_
            refine d_q rfl (q_extr rfl rfl) rfl rfl rfl ?_
            refine d_s rfl ?_
            refine o_appf (f := str) (z0 := "".toUTF8) (l := [s]) slt40 rfl rfl zc9 hfs (.inr rfl) (src_sl rfl) (by simp) (fun P2 C2 N2 hF2 => ?_)
            obtain ⟨bc, kc, e1, hbc, e3, e4⟩ := hF2.new (by simp)
            subst e1 e3 e4
            have nc3 : r ≠ bc := (Mem.upd_none hbc).1.symm
            have hbc1 := (Mem.upd_none hbc).2
            obtain ⟨nd1, nd2, nd3, nd4⟩ := (hN.fresh2 hB1).ne hbc1
            have nc5 : B1 ≠ bc := Mem.fresh_ne hbc1 (Mem.upd_self _ _ _)
            refine o_nil ⟨(by simp [Mem.upd, *]), ?_⟩
            refine d_s rfl ?_
            refine x_entryStore (s := clk) rfl rfl rfl ((upd_other nc3).trans (Mem.upd_self _ _ _)) (find_stamp (Put.new hnd hsn hst hno).sn get_last) get_last ?_
            rw [set_last]
            refine o_nil ⟨(by simp [Mem.upd, *]), ?_⟩
            refine d_nil ?_
            refine s_seq ?_
            refine s_region ?_
            refine o_q (q_as (v_raw rfl)) rfl rfl rfl ?_
            refine o_nil ?_
            refine s_ret ?_
            refine s_end ?_
            have hok : okS n q a b = true := by unfold okS inN; simp only [Bool.and_eq_true, decide_eq_true_eq]; omega
            have hq' : sendQ n q a b s = setQ q (a, b) (q (a, b) ++ [s]) := by unfold sendQ; rw [hok]; rfl
            rw [hq', hq00]
            refine hN.fin hB1 (Put.new hnd hsn hst hno) (Mem.upd_self _ _ _) (ts := [s]) ⟨bc, kc, rfl, (upd_other nc3.symm).trans (Mem.upd_self _ _ _)⟩ (by simp) (fun b' hb' => by cases hb'; exact .inl hbc1) (fun c hc hcr hcb => ?_) (by rw [hok]; rfl) hO
            have hcc : c ≠ bc := fun e => hc (by rw [e]; exact hbc1)
            exact (upd_other hcr).trans ((upd_other hcc).trans (upd_other hcr))
          · skip
            rename_i j
            obtain ⟨e, bb, kk, he, hel, hek, hget, hev, hbb, hbbx, hbbr⟩ := hN.entry hj
            have hbB : bb ≠ B1 := Mem.fresh_ne hB1 hbb
            have hrb := hbbr.symm
            have hxb := hbbx.symm
            have hBb := hbB.symm
            refine x_entryOld (k := (a, b)) und46 kt49 rfl rfl ((upd_other n1d).trans ((upd_other n1d).trans hr)) hj he ?_
            rw [hev]
            refine o_nil ⟨(by simp [Mem.upd, *]), ?_⟩
            refine d_q rfl (q_extr rfl rfl) rfl rfl rfl ?_
            refine d_q rfl (q_extr rfl rfl) rfl rfl rfl ?_
            refine d_s rfl ?_
            refine o_appr (b := bb) (n := (q (a, b)).length) (c := (q (a, b)).length + kk) (l := q (a, b) ++ List.replicate kk "".toUTF8) (m := [s]) (f := str) (z0 := "".toUTF8) slt40 rfl rfl zc9 hfs rfl (by repeat first | exact Mem.upd_self _ _ _ | assumption | refine Mem.upd_ne (by assumption) ?_) (by simp) (by omega) (src_sl rfl) (by simp; omega) (fun hroom => ?_) (fun hno b' q' hb' => ?_)
            · skip
              rw [in_place hroom]
              refine o_nil ⟨(by simp [Mem.upd, *]), ?_⟩
              refine d_s rfl ?_
              refine x_entryStore rfl rfl rfl ((upd_other hrb).trans ((upd_other n1d).trans ((upd_other n1d).trans hr))) (find_stamp hsn he) he ?_
              refine o_nil ⟨(by simp [Mem.upd, *]), ?_⟩
              refine d_nil ?_
              refine s_seq ?_
              refine s_region ?_
              refine o_q (q_as (v_raw rfl)) rfl rfl rfl ?_
              refine o_nil ?_
              refine s_ret ?_
              refine s_end ?_
              have hok : okS n q a b = true := by unfold okS inN; simp only [Bool.and_eq_true, decide_eq_true_eq]; omega
              have hq' : sendQ n q a b s = setQ q (a, b) (q (a, b) ++ [s]) := by unfold sendQ; rw [hok]; rfl
              rw [hq']
              refine hN.fin (o := .cells [int 0, int 0]) (o' := .cells [int a, int b]) hB1 (Put.old hnd hsn hst he hek) (Mem.upd_self _ _ _) (ts := q (a, b) ++ [s]) ⟨bb, kk - 1, by rw [List.length_append]; congr 1; simp only [List.length_singleton] at hroom ⊢; omega, (upd_other hbbr).trans (Mem.upd_self _ _ _)⟩ (by simp only [List.length_append, List.length_singleton]; omega) (fun b' hb' => by cases hb'; exact .inr ⟨e, hel, hek, by rw [hev]; rfl⟩) (fun c hc hcr hcb => ?_) (by rw [hok]; rfl) hO
              have hcc : c ≠ bb := fun e2 => hcb e hel hek (by rw [hev, e2]; rfl)
              exact (upd_other hcr).trans (upd_other hcc)
            · skip
              rw [grown]
              have nb := (hN.fresh2 hB1).ne hb'
              obtain ⟨nb1, nb2, nb3, nb4⟩ := id nb
              have nb5 : B1 ≠ b' := Mem.fresh_ne hb' (Mem.upd_self _ _ _)
              refine o_nil ⟨(by simp [Mem.upd, *]), ?_⟩
              refine d_s rfl ?_
              refine x_entryStore rfl rfl rfl ((upd_other nb4).trans ((upd_other n1d).trans ((upd_other n1d).trans hr))) (find_stamp hsn he) he ?_
              refine o_nil ⟨(by simp [Mem.upd, *]), ?_⟩
              refine d_nil ?_
              refine s_seq ?_
              refine s_region ?_
              refine o_q (q_as (v_raw rfl)) rfl rfl rfl ?_
              refine o_nil ?_
              refine s_ret ?_
              refine s_end ?_
              have hok : okS n q a b = true := by unfold okS inN; simp only [Bool.and_eq_true, decide_eq_true_eq]; omega
              have hq' : sendQ n q a b s = setQ q (a, b) (q (a, b) ++ [s]) := by unfold sendQ; rw [hok]; rfl
              rw [hq']
              refine hN.fin hB1 (Put.old hnd hsn hst he hek) (Mem.upd_self _ _ _) (ts := q (a, b) ++ [s]) ⟨b', q', by rw [List.length_append], (upd_other nb.2.2.1).trans (Mem.upd_self _ _ _)⟩ (by simp only [List.length_append, List.length_singleton]; omega) (fun b2 hb2 => by cases hb2; exact .inl hb') (fun c hc hcr hcb => ?_) (by rw [hok]; rfl) hO
              have hcc : c ≠ b' := fun e2 => hc (by rw [e2]; exact hb')
              exact (upd_other hcr).trans (upd_other hcc)
      · have k3 := h3; try simp only [decide_eq_true_eq, decide_eq_false_iff_not, Bool.not_eq_true', Bool.not_eq_false', Bool.not_true, Bool.not_false, List.length_map, Decidable.not_not] at k3
        refine d_no rfl rfl rfl rfl h3 rfl ?_
        refine d_no rfl rfl rfl rfl h3 rfl ?_
        refine d_no rfl rfl rfl rfl h3 rfl ?_
        refine d_no rfl rfl rfl rfl h3 rfl ?_
        refine d_no rfl rfl rfl rfl h3 rfl ?_
        refine d_s rfl ?_
        refine o_no rfl rfl rfl rfl h3 ?_
        refine o_nil ⟨(by simp [Mem.upd, *]), ?_⟩
        refine d_no rfl rfl rfl rfl h3 rfl ?_
        refine d_no rfl rfl rfl rfl h3 rfl ?_
        refine d_q rfl (q_pick_c (t := true) rfl h3 (v_raw rfl)) rfl rfl rfl ?_
        refine d_nil ?_
        refine s_then rfl rfl ?_
        refine s_seq ?_
        refine s_region ?_
        refine o_q (q_as (v_raw rfl)) rfl rfl rfl ?_
        refine o_nil ?_
        refine s_ret ?_
        refine s_code_ret ?_
        refine s_end ?_
        have hok : okS n q a b = false := by unfold okS inN; simp only [Bool.and_eq_false_iff, decide_eq_false_iff_not]; omega
        refine ⟨O, by rw [hok]; rfl, ⟨r, clk, l, ?_, hO⟩, Chg.fresh2 O hB1⟩
        unfold sendQ; rw [hok]; exact hN.fresh2 hB1
    · have k2 := h2; try simp only [decide_eq_true_eq, decide_eq_false_iff_not, Bool.not_eq_true', Bool.not_eq_false', Bool.not_true, Bool.not_false, List.length_map, Decidable.not_not] at k2
      refine d_no rfl rfl rfl rfl h2 rfl ?_
      refine d_no rfl rfl rfl rfl h2 rfl ?_
      refine d_no rfl rfl rfl rfl h2 rfl ?_
      refine d_q rfl (q_pick_c (t := true) rfl h2 (v_raw rfl)) rfl rfl rfl ?_
      refine d_q rfl (q_mv (v_raw rfl)) rfl rfl rfl ?_
      refine d_no rfl rfl rfl rfl rfl rfl ?_
      refine d_no rfl rfl rfl rfl rfl rfl ?_
      refine d_no rfl rfl rfl rfl rfl rfl ?_
      refine d_no rfl rfl rfl rfl rfl rfl ?_
      refine d_no rfl rfl rfl rfl rfl rfl ?_
      refine d_s rfl ?_
      refine o_no rfl rfl rfl rfl rfl ?_
      refine o_nil ⟨(by simp [Mem.upd, *]), ?_⟩
      refine d_no rfl rfl rfl rfl rfl rfl ?_
      refine d_no rfl rfl rfl rfl rfl rfl ?_
      refine d_q rfl (q_pick_c (t := true) rfl rfl (v_raw rfl)) rfl rfl rfl ?_
      refine d_nil ?_
      refine s_then rfl rfl ?_
      refine s_seq ?_
      refine s_region ?_
      refine o_q (q_as (v_raw rfl)) rfl rfl rfl ?_
      refine o_nil ?_
      refine s_ret ?_
      refine s_code_ret ?_
      refine s_end ?_
      have hok : okS n q a b = false := by unfold okS inN; simp only [Bool.and_eq_false_iff, decide_eq_false_iff_not]; omega
      refine ⟨O, by rw [hok]; rfl, ⟨r, clk, l, ?_, hO⟩, Chg.fresh2 O hB1⟩
      unfold sendQ; rw [hok]; exact hN.fresh2 hB1
  · have k1 := h1; try simp only [decide_eq_true_eq, decide_eq_false_iff_not, Bool.not_eq_true', Bool.not_eq_false', Bool.not_true, Bool.not_false, List.length_map, Decidable.not_not] at k1
    refine d_no rfl rfl rfl rfl h1 rfl ?_
    refine d_no rfl rfl rfl rfl h1 rfl ?_
    refine d_s rfl ?_
    refine o_no rfl rfl rfl rfl h1 ?_
    refine o_nil ⟨(by simp [Mem.upd, *]), ?_⟩
    refine d_no rfl rfl rfl rfl h1 rfl ?_
    refine d_q rfl (q_pick_c (t := true) rfl h1 (v_raw rfl)) rfl rfl rfl ?_
    refine d_q rfl (q_mv (v_raw rfl)) rfl rfl rfl ?_
    refine d_no rfl rfl rfl rfl rfl rfl ?_
    refine d_no rfl rfl rfl rfl rfl rfl ?_
    refine d_no rfl rfl rfl rfl rfl rfl ?_
    refine d_q rfl (q_pick_c (t := true) rfl rfl (v_raw rfl)) rfl rfl rfl ?_
    refine d_q rfl (q_mv (v_raw rfl)) rfl rfl rfl ?_
    refine d_no rfl rfl rfl rfl rfl rfl ?_
    refine d_no rfl rfl rfl rfl rfl rfl ?_
    refine d_no rfl rfl rfl rfl rfl rfl ?_
    refine d_no rfl rfl rfl rfl rfl rfl ?_
    refine d_no rfl rfl rfl rfl rfl rfl ?_
    refine d_s rfl ?_
    refine o_no rfl rfl rfl rfl rfl ?_
    refine o_nil ⟨(by simp [Mem.upd, *]), ?_⟩
    refine d_no rfl rfl rfl rfl rfl rfl ?_
    refine d_no rfl rfl rfl rfl rfl rfl ?_
    refine d_q rfl (q_pick_c (t := true) rfl rfl (v_raw rfl)) rfl rfl rfl ?_
    refine d_nil ?_
    refine s_then rfl rfl ?_
    refine s_seq ?_
    refine s_region ?_
    refine o_q (q_as (v_raw rfl)) rfl rfl rfl ?_
    refine o_nil ?_
    refine s_ret ?_
    refine s_code_ret ?_
    refine s_end ?_
    have hok : okS n q a b = false := by unfold okS inN; simp only [Bool.and_eq_false_iff, decide_eq_false_iff_not]; omega
    refine ⟨O, by rw [hok]; rfl, ⟨r, clk, l, ?_, hO⟩, Chg.fresh2 O hB1⟩
    unfold sendQ; rw [hok]; exact hN.fresh2 hB1
end C05
