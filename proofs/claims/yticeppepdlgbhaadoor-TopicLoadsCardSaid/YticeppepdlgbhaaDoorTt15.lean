import Derived.Test.YticeppepdlgbhaaDoorTt14
import Derived.Test.YticeppepdlgbhaaDoorTt13
/-! The document's reading of bytes (chapters 1, 15), walked. -/
open Go Go.Proofs Go.Am
set_option linter.unusedVariables false
set_option linter.unusedSimpArgs false
set_option autoImplicit false
namespace C17
theorem ag32 : aggT Tryd.prog 32 = some false := by kernel_rfl
theorem bz34 : (zeroT Tryd.prog 34).map (fun z => z.cells.toList.map AVal.raw) = some [.raw (.string { data := #[] }), .raw (.int .i64 0), .raw (.int .i64 0), .raw (.slice none 0 0), .raw (.slice none 0 0)] := by kernel_rfl
theorem bp34 : (aPlaces Tryd.prog 34).isSome = true := by kernel_rfl
theorem bz121 : (zeroT Tryd.prog 121).map (fun z => z.cells.toList.map AVal.raw) = some [.raw (.string { data := #[] }), .raw (.int .i64 0), .raw (.int .i64 0)] := by kernel_rfl
theorem bp121 : (aPlaces Tryd.prog 121).isSome = true := by kernel_rfl
theorem fo34_0 : fo Tryd.prog 34 0 = some (0, 1) := by kernel_rfl
theorem fo34_1 : fo Tryd.prog 34 1 = some (1, 1) := by kernel_rfl
theorem fo34_2 : fo Tryd.prog 34 2 = some (2, 1) := by kernel_rfl
theorem fo34_3 : fo Tryd.prog 34 3 = some (3, 1) := by kernel_rfl
theorem fo34_4 : fo Tryd.prog 34 4 = some (4, 1) := by kernel_rfl
theorem fo121_0 : fo Tryd.prog 121 0 = some (0, 1) := by kernel_rfl
theorem fo121_1 : fo Tryd.prog 121 1 = some (1, 1) := by kernel_rfl
theorem fo121_2 : fo Tryd.prog 121 2 = some (2, 1) := by kernel_rfl
theorem slt32 : SlT Tryd.prog 32 121 3 32 := ⟨by kernel_rfl, by kernel_rfl, by kernel_rfl, by kernel_rfl, by decide⟩
theorem sz32 : sizeT Tryd.prog 32 = some 1 := by kernel_rfl
theorem sz121 : sizeT Tryd.prog 121 = some 3 := by kernel_rfl
theorem und32 : Tryd.prog.underlying 32 = some (.slice 121) := by kernel_rfl
def tk32 : Nat → Nat → Option Nat
 | 12, 4 => some 0
 | 21, 4 => some 0
 | _, _ => none
def pl32 : Nat → List PStep
 | 2 => [.q 0, .q 1, .q 2, .q 3, .q 4, .q 5, .q 6, .q 7, .q 8, .q 9, .q 10, .q 11, .q 12, .q 13, .q 14, .q 15, .q 16, .q 17, .q 18, .q 19]
 | 4 => [.q 0, .q 1, .q 2, .q 3, .q 4, .q 5, .q 6, .q 7, .q 8, .q 9, .q 10, .q 11, .q 12, .q 13, .q 14, .s 15 [13, 12, 11, 10, 9, 8, 7, 6, 5, 4, 3, 2, 1, 0], .q 16]
 | 10 => [.q 0, .q 1, .q 2, .q 3, .q 4, .q 5, .q 6, .q 7, .q 8, .q 9, .q 10, .q 11, .q 12, .q 13, .q 14, .q 15, .q 16, .q 17, .q 18, .q 19, .q 20, .q 21, .q 22, .q 23, .q 24, .q 25, .q 26, .q 27, .q 28, .q 29, .q 30, .q 31, .q 32, .q 33, .q 34, .q 35, .q 36, .q 37, .q 38, .q 39, .q 40, .q 41, .q 42, .q 43, .q 44]
 | 12 => [.q 0, .q 1, .q 2, .q 3, .q 5, .q 6, .q 7, .q 8, .q 9, .q 10, .q 11, .q 12, .q 13, .q 14, .q 15, .q 16, .q 17, .q 18, .q 19, .q 20, .q 21, .q 22, .q 23, .q 24, .q 25, .s 4 [25, 24, 23, 22, 21, 20, 19, 18, 17, 16, 15, 14, 13, 12, 11, 10, 9, 8, 7, 6, 5, 2, 1, 0], .q 26, .q 27, .q 28, .s 29 [27]]
 | 17 => [.q 0, .q 1, .q 2, .q 3, .q 4, .q 5, .q 6, .q 7, .q 8, .q 9, .q 10, .q 11, .q 12, .q 13, .q 14, .q 15, .q 16, .q 17, .q 18, .q 19, .q 20, .q 21, .q 22, .q 23, .q 24, .q 25, .q 26, .q 27, .q 28, .q 29, .q 30, .q 31, .s 32 [31, 30, 29, 28, 27, 26, 25, 24, 23, 22, 21, 20, 19, 18, 17, 16, 15, 14, 13, 12, 11, 10, 9, 8, 7, 6, 5, 4, 3, 2, 1, 0], .s 33 []]
 | 19 => [.q 0, .q 1, .q 2, .q 3, .q 4, .q 5, .q 6, .q 7, .q 8, .q 9, .q 10, .q 11, .q 12, .q 13, .q 14, .q 15, .q 16, .q 17, .q 18, .q 19, .q 20, .q 21, .q 22, .q 23, .q 24, .q 25, .q 26, .q 27, .q 28, .q 29, .q 30, .q 31, .q 32, .q 33, .q 34, .q 35, .q 36, .q 37, .q 38, .q 39, .q 40, .q 41, .q 42, .q 43, .q 44, .q 45]
 | 21 => [.q 0, .q 1, .q 2, .q 3, .q 5, .q 6, .s 4 [6, 5, 2, 1, 0], .q 7, .q 8, .q 9, .s 10 [8]]
 | _ => []
theorem cb32 : Tryd.f32.body.map (codeB Tryd.prog Tryd.f32.ntmps tk32 pl32) = some true := by kernel_rfl
theorem goes32 : goesB Tryd.prog 32 = true := by kernel_rfl

theorem loadT_no {l : List Itm} {n : Nat} (h : 4 ≤ l.length) (hk : okH (l[0]'(by omega)) (l[1]'(by omega)) (l[2]'(by omega)) = false) : loadT l n = none := by
 match l, h, hk with
 | a :: b :: c :: d :: R, _, hk => exact load_no hk
theorem loadT_yes {l : List Itm} {n : Nat} (h : 4 ≤ l.length) (hk : okH (l[0]'(by omega)) (l[1]'(by omega)) (l[2]'(by omega)) = true) : loadT l n = (prodsT (l[2]'(by omega)).n n (l.drop 4) emp []).bind fun kv => (recsT (l[2]'(by omega)).n (l.drop (4 + 3 * n)) (l[1]'(by omega)).n []).map fun rs => ⟨(l[0]'(by omega)).s, (l[1]'(by omega)).n, (l[2]'(by omega)).n, kv, rs⟩ := by
 match l, h, hk with
 | a :: b :: c :: d :: R, _, hk =>
  have hk' : okH a b c = true := hk
  rw [load_yes hk', show (a :: b :: c :: d :: R).drop (4 + 3 * n) = R.drop (3 * n) by rw [Nat.add_comm]; rfl]
  rfl
theorem prods_no' {en : Int} {k p : Nat} {l : List Itm} {nm : ByteArray} {kv : List (ByteArray × (Int × Int × ByteArray))} (h : p + 3 ≤ l.length) (hk : okP en nm (l[p]'(by omega)) (l[p + 1]'(by omega)) (l[p + 2]'(by omega)) = false) : prodsT en (k + 1) (l.drop p) nm kv = none := by
 rw [List.drop_eq_getElem_cons (show p < l.length by omega), List.drop_eq_getElem_cons (show p + 1 < l.length by omega), List.drop_eq_getElem_cons (show p + 1 + 1 < l.length by omega)]
 exact prods_no hk
theorem prods_yes' {en : Int} {k p : Nat} {l : List Itm} {nm : ByteArray} {kv : List (ByteArray × (Int × Int × ByteArray))} (h : p + 3 ≤ l.length) (hk : okP en nm (l[p]'(by omega)) (l[p + 1]'(by omega)) (l[p + 2]'(by omega)) = true) : prodsT en (k + 1) (l.drop p) nm kv = prodsT en k (l.drop (p + 3)) (l[p]'(by omega)).s (kput kv (l[p]'(by omega)).s (((l[p + 1]'(by omega)).n : Int), ((l[p + 2]'(by omega)).n : Int), (l[p]'(by omega)).s)) := by
 rw [List.drop_eq_getElem_cons (show p < l.length by omega), List.drop_eq_getElem_cons (show p + 1 < l.length by omega), List.drop_eq_getElem_cons (show p + 1 + 1 < l.length by omega)]
 exact prods_yes hk
theorem recs_no' {en lo : Int} {p : Nat} {l : List Itm} {acc : List Rec} (h : p + 5 ≤ l.length) (hk : okR en lo (l[p]'(by omega)) (l[p + 1]'(by omega)) (l[p + 2]'(by omega)) (l[p + 3]'(by omega)) (l[p + 4]'(by omega)) = false) : recsT en (l.drop p) lo acc = none := by
 rw [List.drop_eq_getElem_cons (show p < l.length by omega), List.drop_eq_getElem_cons (show p + 1 < l.length by omega), List.drop_eq_getElem_cons (show p + 1 + 1 < l.length by omega), List.drop_eq_getElem_cons (show p + 1 + 1 + 1 < l.length by omega), List.drop_eq_getElem_cons (show p + 1 + 1 + 1 + 1 < l.length by omega)]
 exact recs_no hk
theorem recs_yes' {en lo : Int} {p : Nat} {l : List Itm} {acc : List Rec} (h : p + 5 ≤ l.length) (hk : okR en lo (l[p]'(by omega)) (l[p + 1]'(by omega)) (l[p + 2]'(by omega)) (l[p + 3]'(by omega)) (l[p + 4]'(by omega)) = true) : recsT en (l.drop p) lo acc = recsT en (l.drop (p + 5)) (((l[p]'(by omega)).n : Int) + 1) (acc ++ [recO (l[p]'(by omega)) (l[p + 1]'(by omega)) (l[p + 2]'(by omega)) (l[p + 3]'(by omega)) (l[p + 4]'(by omega))]) := by
 rw [List.drop_eq_getElem_cons (show p < l.length by omega), List.drop_eq_getElem_cons (show p + 1 < l.length by omega), List.drop_eq_getElem_cons (show p + 1 + 1 < l.length by omega), List.drop_eq_getElem_cons (show p + 1 + 1 + 1 < l.length by omega), List.drop_eq_getElem_cons (show p + 1 + 1 + 1 + 1 < l.length by omega)]
 exact recs_yes hk
/-- A producer, as the document's topic has it. -/
def prE (p : ByteArray × (Int × Int × ByteArray)) : AVal := .agg [str p.1, int p.2.1, int p.2.2.1]
theorem elsPrE {l : List (ByteArray × (Int × Int × ByteArray))} : Els 3 (l.map prE) := Els.map fun _ => ⟨rfl, rfl⟩
/-- From which offset on the next record must be. -/
def lastO (acc : List Rec) (low : Int) : Int := match acc.getLast? with | none => low | some r => r.off + 1
theorem lastO_snoc (acc : List Rec) (r : Rec) (low : Int) : lastO (acc ++ [r]) low = r.off + 1 := by unfold lastO; rw [List.getLast?_append, List.getLast?_singleton]; rfl
theorem lastO_get {acc : List Rec} (h : 0 < acc.length) (low : Int) : lastO acc low = (acc[acc.length - 1]'(by omega)).off + 1 := by
 unfold lastO
 rw [List.getLast?_eq_getElem?, List.getElem?_eq_getElem (show acc.length - 1 < acc.length by omega)]
theorem word_ownW (s : ByteArray) (hs : s.size < 2 ^ 63) (M : Mem) (B : Nat) (l : List AVal) (hb : M B = some (.cells l)) : SoundCall Tryd.prog 51 [str s] M fun t M' => t = bool (word s) ∧ M' B = some (.cells (l.map nilOwn)) ∧ ∀ c o, c ≠ B → M c = some o → M' c = some o :=
 (snd51 s M hs).recast fun t M' h => ⟨M.upd B (.cells (l.map nilOwn)), by rw [h.2]; exact Mem.imp_nil hb, h.1, Mem.upd_self _ _ _, fun c o hc ho => (upd_other hc).trans ho⟩
theorem right_ownR (r : Rec) (M : Mem) (B : Nat) (l : List AVal) (hb : M B = some (.cells l)) : SoundCall Tryd.prog 52 [enc r] M fun t M' => t = bool (right r) ∧ M' B = some (.cells (l.map nilOwn)) ∧ ∀ c o, c ≠ B → M c = some o → M' c = some o :=
 (snd52 r M).recast fun t M' h => ⟨M'.upd B (.cells (l.map nilOwn)), Mem.imp_nil (h.2 B _ hb), h.1, Mem.upd_self _ _ _, fun c o hc ho => (upd_other hc).trans (h.2 c o ho)⟩

theorem kput_end {kv : List (ByteArray × (Int × Int × ByteArray))} {nm s : ByteArray} {v : Int × Int × ByteArray} (h : ∀ q ∈ kv, q.1.data.toList ≤ nm.data.toList) (h2 : nm.data.toList < s.data.toList) : kput kv s v = kv ++ [(s, v)] := kput_new fun hm => by
 obtain ⟨q, hq, e⟩ := List.mem_map.1 hm
 have := h q hq
 rw [e] at this
 exact List.lt_irrefl _ (List.lt_of_le_of_lt this h2)
theorem okP_lt {en : Int} {nm : ByteArray} {a b c : Itm} (h : okP en nm a b c = true) : nm.data.toList < a.s.data.toList := by
 unfold okP at h
 simp only [Bool.and_eq_true, decide_eq_true_eq] at h
 exact h.2.1
theorem kv_le {kv : List (ByteArray × (Int × Int × ByteArray))} {nm s : ByteArray} {v : Int × Int × ByteArray} (h : ∀ q ∈ kv, q.1.data.toList ≤ nm.data.toList) (h2 : nm.data.toList < s.data.toList) : ∀ q ∈ kv ++ [(s, v)], q.1.data.toList ≤ s.data.toList := fun q hq => by
 rcases List.mem_append.1 hq with hq | hq
 ·exact List.le_of_lt (List.lt_of_le_of_lt (h q hq) h2)
 ·rw [List.mem_singleton.1 hq]; exact List.le_refl _
theorem kv_last {kv : List (ByteArray × (Int × Int × ByteArray))} {i : Nat} (hkl : kv.length = i) {s : ByteArray} {v : Int × Int × ByteArray} (h : i + 1 - 1 < (kv ++ [(s, v)]).length) : ((kv ++ [(s, v)])[i + 1 - 1]'h).1 = s := by
 have : (kv ++ [(s, v)])[i + 1 - 1]? = some (s, v) := by rw [Nat.add_sub_cancel, List.getElem?_append_right (by omega), hkl, Nat.sub_self]; rfl
 rw [List.getElem?_eq_getElem h] at this
 rw [Option.some.inj this]
set_option maxHeartbeats 4000000 in
set_option maxRecDepth 20000 in
theorem snd32 (l : List Itm) (o : Bool) (n j : Nat) (M : Mem) (hL : l.length = 4 + 3 * n + 5 * j) (hL2 : l.length ≤ 1000) (hsz : ∀ x ∈ l, x.s.size < 2 ^ 63) : SoundCall Tryd.prog 32 [.sl (l.map encIt) o, int (n : Nat)] M fun r M' => ∃ p b, r = .tup [.raw (.pointer p), bool b] ∧ M.le M' ∧ ((b = false ∧ loadT l n = none) ∨ (b = true ∧ ∃ x, loadT l n = some x ∧ ∃ t V W, M t = none ∧ p = some ⟨t, 0, none⟩ ∧ M' t = some (.cells [str x.name, int x.low, int x.en, V, W]) ∧ nilOwn W = .sl (x.recs.map enc) true)) := by
 have hml : (l.map encIt).length = l.length := List.length_map _
 have hle := Mem.le_refl M
 refine SoundCall.go tk32 pl32 mixed Tryd.func32 cb32 rfl (Nat.le_of_ble_eq_true rfl) ?_
 refine s_seq ?_
 refine s_region ?_
 refine o_q (q_as (mvQ)) rfl rfl rfl ?_
 refine o_q (q_as (v_raw rfl)) rfl rfl rfl ?_
 refine o_nil ?_
 refine s_seq ?_
 refine s_region ?_
 refine o_q (q_mv (v_sl rfl)) rfl rfl rfl ?_
 refine o_q (q_idx und69 sz74 rfl rfl (by omega) (gm (0) (by first | omega | simp)) rfl) rfl rfl rfl ?_
 refine o_q (q_f fo74_2 rfl) rfl rfl rfl ?_
 refine o_q (q_ld ag9 sz9 rfl (gm (0) (by first | omega | simp)) rfl (v_raw rfl)) rfl rfl rfl ?_
 refine o_callx ((snd51 l[0].s _ (hsz _ (List.getElem_mem _)))) goes51 (ac (v_raw rfl) ac_nil) rfl ?_
 rintro r M1 ⟨rfl, hM1⟩
 obtain rfl : M = M1 := hM1.symm
 refine o_q (q_as (v_raw rfl)) rfl rfl rfl ?_
 refine o_nil ?_
 refine s_seq ?_
 refine s_seq ?_
 refine s_draw rfl ?_
 refine d_q rfl (q_mv (v_raw rfl)) rfl rfl rfl ?_
 refine d_q rfl (q_not rfl) rfl rfl rfl ?_
 refine d_q rfl (q_mv (v_raw rfl)) rfl rfl rfl ?_
 refine d_cases (want := false) (j := 2) rfl rfl (fun h1 => ?_) (fun h1 => ?_)
 ·have k1 := h1; try simp only [decide_eq_true_eq, decide_eq_false_iff_not, Bool.not_eq_true', Bool.not_eq_false', Bool.not_true, Bool.not_false, List.length_map, Decidable.not_not] at k1
  have hw : word l[0].s = true := by simpa using h1
  refine d_yes rfl (q_mv (v_sl rfl)) rfl rfl rfl h1 rfl rfl ?_
  refine d_yes rfl (q_idx und69 sz74 rfl rfl (by omega) (gm (1) (by first | omega | simp)) rfl) rfl rfl rfl h1 rfl rfl ?_
  refine d_yes rfl (q_f fo74_1 rfl) rfl rfl rfl h1 rfl rfl ?_
  refine d_yes rfl (q_ld ag72 sz72 rfl (gm (1) (by first | omega | simp)) rfl (v_raw rfl)) rfl rfl rfl h1 rfl rfl ?_
  refine d_yes rfl (q_mv (v_sl rfl)) rfl rfl rfl h1 rfl rfl ?_
  refine d_yes rfl (q_idx und69 sz74 rfl rfl (by omega) (gm (2) (by first | omega | simp)) rfl) rfl rfl rfl h1 rfl rfl ?_
  refine d_yes rfl (q_f fo74_1 rfl) rfl rfl rfl h1 rfl rfl ?_
  refine d_yes rfl (q_ld ag72 sz72 rfl (gm (2) (by first | omega | simp)) rfl (v_raw rfl)) rfl rfl rfl h1 rfl rfl ?_
  refine d_yes rfl (q_gtr rfl rfl) rfl rfl rfl h1 rfl rfl ?_
  refine d_q rfl (q_pick_c (t := false) rfl h1 (v_raw rfl)) rfl rfl rfl ?_
  refine d_q rfl (q_mv (v_raw rfl)) rfl rfl rfl ?_
  refine d_cases (want := false) (j := 13) rfl rfl (fun h2 => ?_) (fun h2 => ?_)
  ·have k2 := h2; try simp only [decide_eq_true_eq, decide_eq_false_iff_not, Bool.not_eq_true', Bool.not_eq_false', Bool.not_true, Bool.not_false, List.length_map, Decidable.not_not] at k2
   have hbc : l[1].n ≤ l[2].n := by have := of_decide_eq_false h2; omega
   refine d_yes rfl (q_mv (v_sl rfl)) rfl rfl rfl h2 rfl rfl ?_
   refine d_yes rfl (q_idx und69 sz74 rfl rfl (by omega) (gm (2) (by first | omega | simp)) rfl) rfl rfl rfl h2 rfl rfl ?_
   refine d_yes rfl (q_f fo74_1 rfl) rfl rfl rfl h2 rfl rfl ?_
   refine d_yes rfl (q_ld ag72 sz72 rfl (gm (2) (by first | omega | simp)) rfl (v_raw rfl)) rfl rfl rfl h2 rfl rfl ?_
   refine d_yes rfl (q_gtr rfl rfl) rfl rfl rfl h2 rfl rfl ?_
   refine d_q rfl (q_pick_c (t := false) rfl h2 (v_raw rfl)) rfl rfl rfl ?_
   refine d_nil ?_
   refine s_cond rfl (fun h3 => ?_) (fun h3 => ?_)
   ·have k3 := h3; try simp only [decide_eq_true_eq, decide_eq_false_iff_not, Bool.not_eq_true', Bool.not_eq_false', Bool.not_true, Bool.not_false, List.length_map, Decidable.not_not] at k3
    have hno : okH l[0] l[1] l[2] = false := okH_c (by show ¬ l[2].n ≤ 9007199254740991; have := of_decide_eq_true h3; omega)
    refine s_seq ?_
    refine s_region ?_
    refine o_q (q_as (mvQ)) rfl rfl rfl ?_
    refine o_q (q_as (v_raw rfl)) rfl rfl rfl ?_
    refine o_nil ?_
    refine s_ret ?_
    refine s_code_ret ?_
    refine s_end ?_
    exact ret_many (.inl rfl) rfl (rl_t rfl (rl_t rfl (rl_nil))) rfl (⟨none, false, rfl, hle, .inl ⟨rfl, loadT_no (by omega) hno⟩⟩)
   ·have k3 := h3; try simp only [decide_eq_true_eq, decide_eq_false_iff_not, Bool.not_eq_true', Bool.not_eq_false', Bool.not_true, Bool.not_false, List.length_map, Decidable.not_not] at k3
    have hcg2 : l[2].n ≤ 9007199254740991 := by have := of_decide_eq_false h3; omega
    have hcg : l[2].n ≤ great := hcg2
    have hyes := loadT_yes (n := n) (show 4 ≤ l.length by omega) (okH_y hw hbc hcg)
    refine s_skip ?_
    refine s_seq ?_
    refine s_draw rfl ?_
    refine d_q rfl (q_mv (v_sl rfl)) rfl rfl rfl ?_
    refine d_q rfl (q_idx und69 sz74 rfl rfl (by omega) (gm (0) (by first | omega | simp)) rfl) rfl rfl rfl ?_
    refine d_q rfl (q_f fo74_2 rfl) rfl rfl rfl ?_
    refine d_q rfl (q_ld ag9 sz9 rfl (gm (0) (by first | omega | simp)) rfl (v_raw rfl)) rfl rfl rfl ?_
    refine d_q rfl (q_mv (v_sl rfl)) rfl rfl rfl ?_
    refine d_q rfl (q_idx und69 sz74 rfl rfl (by omega) (gm (1) (by first | omega | simp)) rfl) rfl rfl rfl ?_
    refine d_q rfl (q_f fo74_1 rfl) rfl rfl rfl ?_
    refine d_q rfl (q_ld ag72 sz72 rfl (gm (1) (by first | omega | simp)) rfl (v_raw rfl)) rfl rfl rfl ?_
    refine d_q rfl (q_i2i und72 und3 rfl (wrap64 (by omega) (by omega))) rfl rfl rfl ?_
    refine d_q rfl (q_mv (v_sl rfl)) rfl rfl rfl ?_
    refine d_q rfl (q_idx und69 sz74 rfl rfl (by omega) (gm (2) (by first | omega | simp)) rfl) rfl rfl rfl ?_
    refine d_q rfl (q_f fo74_1 rfl) rfl rfl rfl ?_
    refine d_q rfl (q_ld ag72 sz72 rfl (gm (2) (by first | omega | simp)) rfl (v_raw rfl)) rfl rfl rfl ?_
    refine d_q rfl (q_i2i und72 und3 rfl (wrap64 (by omega) (by omega))) rfl rfl rfl ?_
    refine d_q rfl (q_b (cs := [_, _, _, .raw (.slice none 0 0), .raw (.slice none 0 0)]) bz34 bp34 (bf fo34_0 (e_raw rfl) rfl rfl (Nat.le_of_ble_eq_true rfl) rfl (bf fo34_1 (e_raw rfl) rfl rfl (Nat.le_of_ble_eq_true rfl) rfl (bf fo34_2 (e_raw rfl) rfl rfl (Nat.le_of_ble_eq_true rfl) rfl bf_nil)))) rfl rfl rfl ?_
    refine d_s rfl ?_
    refine o_box (by first | exact e_raw rfl | exact e_agg rfl | exact e_sl rfl) rfl rfl (fun B1 hB1 => ?_)
    have m1 : M B1 = none := by have h := hB1; repeat (first | exact h | exact Mem.none_of_le hle h | replace h := (Mem.upd_none h).2)
    refine o_nil ⟨(by simp [Mem.upd, *]), ?_⟩
    refine d_q rfl (q_as (mvQ)) rfl rfl rfl ?_
    refine d_nil ?_
    refine s_seq ?_
    refine s_region ?_
    refine o_q (q_as (v_raw rfl)) rfl rfl rfl ?_
    refine o_nil ?_
    refine s_seq ?_
    refine s_seq ?_
    refine s_region ?_
    refine o_q (q_as (v_raw rfl)) rfl rfl rfl ?_
    refine o_nil ?_
    refine s_block ?_
    refine s_loop (fun m S => ∃ T, ∃ M' : Mem, ∃ i k : Nat, ∃ nm : ByteArray, ∃ kv : List (ByteArray × (Int × Int × ByteArray)), ∃ V W : AVal, S = ⟨setT (setT (setT (setT (setT T 0 (.sl (l.map encIt) o)) 1 (int (n : Nat))) 7 (ptr B1)) 8 (int ((4 + 3 * i) : Nat))) 9 (int (i : Nat)), M'⟩ ∧ M' B1 = some (.cells [str l[0].s, int l[1].n, int l[2].n, V, W]) ∧ nilOwn V = .sl (kv.map prE) true ∧ nilOwn W = .sl [] true ∧ prodsT l[2].n n (l.drop 4) emp [] = prodsT l[2].n k (l.drop (4 + 3 * i)) nm kv ∧ i + k = n ∧ kv.length = i ∧ ((∀ h : i - 1 < kv.length, (kv[i - 1]'h).1 = nm) ∧ (i = 0 → nm = emp)) ∧ (∀ q ∈ kv, q.1.data.toList ≤ nm.data.toList) ∧ M.le M' ∧ m = k + 0) n ?_ ?_
    ·exact ⟨_, _, 0, n, emp, [], _, _, St.mkT (kp (kp (kp (kp (kp rfl rfl) rfl) rfl) rfl) rfl).symm, Mem.upd_self _ _ _, rfl, rfl, rfl, by omega, rfl, ⟨fun h => absurd h (Nat.not_lt_zero _), fun _ => rfl⟩, (fun q hq => absurd hq List.not_mem_nil), (by repeat first | exact hle | exact Mem.le_refl _ | assumption | exact Mem.none_of_le hle (by assumption) | refine Mem.le_upd ?_ ?_), rfl⟩
    rintro m S ⟨T, M', i, k, nm, kv, V, W, rfl, hb, hV, hW, hp, hik, hkl, hnm, hkn, hle, hmk⟩
    refine s_seq ?_
    refine s_seq ?_
    refine s_region ?_
    refine o_q (q_mv (v_raw rfl)) rfl rfl rfl ?_
    refine o_q (q_mv (v_raw rfl)) rfl rfl rfl ?_
    refine o_q (q_lss rfl rfl) rfl rfl rfl ?_
    refine o_nil ?_
    refine s_cond rfl (fun h4 => ?_) (fun h4 => ?_)
    ·have k4 := h4; try simp only [decide_eq_true_eq, decide_eq_false_iff_not, Bool.not_eq_true', Bool.not_eq_false', Bool.not_true, Bool.not_false, List.length_map, Decidable.not_not] at k4
     obtain ⟨k, rfl⟩ : ∃ k', k = k' + 1 := ⟨k - 1, by omega⟩
     refine s_skip ?_
     refine s_seq ?_
     refine s_block ?_
     refine s_seq ?_
     refine s_region ?_
     refine o_q (q_mv (v_sl rfl)) rfl rfl rfl ?_
     refine o_q (q_mv (v_raw rfl)) rfl rfl rfl ?_
     refine o_q (q_idx und69 sz74 rfl rfl (by omega) (gm ((4 + 3 * i)) (by first | omega | simp)) rfl) rfl rfl rfl ?_
     refine o_q (q_f fo74_2 rfl) rfl rfl rfl ?_
     refine o_q (q_ld ag9 sz9 rfl (gm ((4 + 3 * i)) (by first | omega | simp)) rfl (v_raw rfl)) rfl rfl rfl ?_
     refine o_callx ((word_ownW l[(4 + 3 * i)].s (hsz _ (List.getElem_mem _)) _ B1 _ hb)) goes51 (ac (v_raw rfl) ac_nil) rfl ?_
     rintro r M2 ⟨rfl, hb2, hk2⟩
     have hb2 : M2 B1 = some (.cells [str l[0].s, int l[1].n, int l[2].n, .sl (kv.map prE) true, .sl [] true]) := by rw [hb2, ← hV, ← hW]; rfl
     have hle2 : M.le M2 := fun c x hc => hk2 c x (fun e => by rw [e, m1] at hc; cases hc) (hle c x hc)
     refine o_q (q_as (v_raw rfl)) rfl rfl rfl ?_
     refine o_nil ?_
     refine s_seq ?_
     refine s_seq ?_
     refine s_draw rfl ?_
     refine d_q rfl (q_mv (v_raw rfl)) rfl rfl rfl ?_
     refine d_q rfl (q_not rfl) rfl rfl rfl ?_
     refine d_q rfl (q_mv (v_raw rfl)) rfl rfl rfl ?_
     refine d_cases (want := false) (j := 2) rfl rfl (fun h5 => ?_) (fun h5 => ?_)
     ·have k5 := h5; try simp only [decide_eq_true_eq, decide_eq_false_iff_not, Bool.not_eq_true', Bool.not_eq_false', Bool.not_true, Bool.not_false, List.length_map, Decidable.not_not] at k5
      have hw1 : word l[(4 + 3 * i)].s = true := by simpa using h5
      refine d_yes rfl (q_mv (v_sl rfl)) rfl rfl rfl h5 rfl rfl ?_
      refine d_yes rfl (q_mv (v_raw rfl)) rfl rfl rfl h5 rfl rfl ?_
      refine d_yes rfl (q_add rfl rfl (wrap64 (by omega) (by omega))) rfl rfl rfl h5 rfl rfl ?_
      refine d_yes rfl (q_idx und69 sz74 rfl rfl (by omega) (gm ((4 + 3 * i) + 1) (by first | omega | simp)) rfl) rfl rfl rfl h5 rfl rfl ?_
      refine d_yes rfl (q_f fo74_1 rfl) rfl rfl rfl h5 rfl rfl ?_
      refine d_yes rfl (q_ld ag72 sz72 rfl (gm ((4 + 3 * i) + 1) (by first | omega | simp)) rfl (v_raw rfl)) rfl rfl rfl h5 rfl rfl ?_
      refine d_yes rfl (q_gtr rfl rfl) rfl rfl rfl h5 rfl rfl ?_
      refine d_q rfl (q_pick_c (t := false) rfl h5 (v_raw rfl)) rfl rfl rfl ?_
      refine d_q rfl (q_mv (v_raw rfl)) rfl rfl rfl ?_
      refine d_cases (want := false) (j := 11) rfl rfl (fun h6 => ?_) (fun h6 => ?_)
      ·have k6 := h6; try simp only [decide_eq_true_eq, decide_eq_false_iff_not, Bool.not_eq_true', Bool.not_eq_false', Bool.not_true, Bool.not_false, List.length_map, Decidable.not_not] at k6
       have hbg2 : l[(4 + 3 * i) + 1].n ≤ 9007199254740991 := by have := of_decide_eq_false h6; omega
       have hbg : l[(4 + 3 * i) + 1].n ≤ great := hbg2
       refine d_yes rfl (q_mv (v_sl rfl)) rfl rfl rfl h6 rfl rfl ?_
       refine d_yes rfl (q_mv (v_raw rfl)) rfl rfl rfl h6 rfl rfl ?_
       refine d_yes rfl (q_add rfl rfl (wrap64 (by omega) (by omega))) rfl rfl rfl h6 rfl rfl ?_
       refine d_yes rfl (q_idx und69 sz74 rfl rfl (by omega) (gm ((4 + 3 * i) + 2) (by first | omega | simp)) rfl) rfl rfl rfl h6 rfl rfl ?_
       refine d_yes rfl (q_f fo74_1 rfl) rfl rfl rfl h6 rfl rfl ?_
       refine d_yes rfl (q_ld ag72 sz72 rfl (gm ((4 + 3 * i) + 2) (by first | omega | simp)) rfl (v_raw rfl)) rfl rfl rfl h6 rfl rfl ?_
       refine d_yes rfl (q_mv (v_sl rfl)) rfl rfl rfl h6 rfl rfl ?_
       refine d_yes rfl (q_idx und69 sz74 rfl rfl (by omega) (gm (2) (by first | omega | simp)) rfl) rfl rfl rfl h6 rfl rfl ?_
       refine d_yes rfl (q_f fo74_1 rfl) rfl rfl rfl h6 rfl rfl ?_
       refine d_yes rfl (q_ld ag72 sz72 rfl (gm (2) (by first | omega | simp)) rfl (v_raw rfl)) rfl rfl rfl h6 rfl rfl ?_
       refine d_yes rfl (q_geq rfl rfl) rfl rfl rfl h6 rfl rfl ?_
       refine d_q rfl (q_pick_c (t := false) rfl h6 (v_raw rfl)) rfl rfl rfl ?_
       refine d_q rfl (q_mv (v_raw rfl)) rfl rfl rfl ?_
       refine d_cases (want := false) (j := 24) rfl rfl (fun h7 => ?_) (fun h7 => ?_)
       ·have k7 := h7; try simp only [decide_eq_true_eq, decide_eq_false_iff_not, Bool.not_eq_true', Bool.not_eq_false', Bool.not_true, Bool.not_false, List.length_map, Decidable.not_not] at k7
        have hce : (l[(4 + 3 * i) + 2].n : Int) < l[2].n := by have := of_decide_eq_false h7; omega
        refine d_yes rfl (q_mv (v_raw rfl)) rfl rfl rfl h7 rfl rfl ?_
        refine d_yes rfl (q_gtr rfl rfl) rfl rfl rfl h7 rfl rfl ?_
        refine d_yes rfl (q_mv (v_raw rfl)) rfl rfl rfl h7 rfl rfl ?_
        refine d_cases (want := true) (j := 27) rfl rfl (fun h8 => ?_) (fun h8 => ?_)
        ·have k8 := h8; try simp only [decide_eq_true_eq, decide_eq_false_iff_not, Bool.not_eq_true', Bool.not_eq_false', Bool.not_true, Bool.not_false, List.length_map, Decidable.not_not] at k8
         have hi0 : 0 < i := by have := of_decide_eq_true h8; omega
         have hnm2 := hnm.1 (by omega)
         refine d_yes rfl (q_mv (v_sl rfl)) rfl rfl rfl h8 rfl rfl ?_
         refine d_yes rfl (q_mv (v_raw rfl)) rfl rfl rfl h8 rfl rfl ?_
         refine d_yes rfl (q_idx und69 sz74 rfl rfl (by omega) (gm ((4 + 3 * i)) (by first | omega | simp)) rfl) rfl rfl rfl h8 rfl rfl ?_
         refine d_yes rfl (q_f fo74_2 rfl) rfl rfl rfl h8 rfl rfl ?_
         refine d_yes rfl (q_ld ag9 sz9 rfl (gm ((4 + 3 * i)) (by first | omega | simp)) rfl (v_raw rfl)) rfl rfl rfl h8 rfl rfl ?_
         refine d_yes rfl (q_mv (mvQ)) rfl rfl rfl h8 rfl rfl ?_
         refine d_yes rfl (q_nil rfl) rfl rfl rfl h8 rfl rfl ?_
         refine d_yes rfl (q_fr fo34_3 rfl) rfl rfl rfl h8 rfl rfl ?_
         refine d_yes rfl (q_ldm ag32 sz32 rfl mmQ rfl (v_sl rfl)) rfl rfl rfl h8 rfl rfl ?_
         refine d_yes rfl (q_mv (v_raw rfl)) rfl rfl rfl h8 rfl rfl ?_
         refine d_yes rfl (q_subn (r := i - 1) (n := 1) rfl rfl (by omega) (by omega)) rfl rfl rfl h8 rfl rfl ?_
         refine d_yes rfl (q_idx und32 sz121 rfl rfl (by omega) (gm ((i - 1)) (by first | omega | simp)) rfl) rfl rfl rfl h8 rfl rfl ?_
         refine d_yes rfl (q_f fo121_0 rfl) rfl rfl rfl h8 rfl rfl ?_
         refine d_yes rfl (q_ld ag9 sz9 rfl (gm ((i - 1)) (by first | omega | simp)) rfl (v_raw rfl)) rfl rfl rfl h8 rfl rfl ?_
         refine d_yes rfl (q_sleq rfl rfl) rfl rfl rfl h8 rfl rfl ?_
         refine d_yes rfl (q_pick_c (t := true) rfl h8 (v_raw rfl)) rfl rfl rfl h7 rfl rfl ?_
         refine d_q rfl (q_pick_c (t := false) rfl h7 (v_raw rfl)) rfl rfl rfl ?_
         refine d_nil ?_
         refine s_cond rfl (fun h9 => ?_) (fun h9 => ?_)
         ·have k9 := h9; try simp only [decide_eq_true_eq, decide_eq_false_iff_not, Bool.not_eq_true', Bool.not_eq_false', Bool.not_true, Bool.not_false, List.length_map, Decidable.not_not] at k9
          have hno : okP l[2].n nm l[(4 + 3 * i)] l[(4 + 3 * i) + 1] l[(4 + 3 * i) + 2] = false := okP_no fun hh => by
           simp only [Bool.not_eq_true', decide_eq_false_iff_not] at h9
           exact h9 (by rw [hnm2]; exact hh.1)
          refine s_seq ?_
          refine s_region ?_
          refine o_q (q_as (mvQ)) rfl rfl rfl ?_
          refine o_q (q_as (v_raw rfl)) rfl rfl rfl ?_
          refine o_nil ?_
          refine s_ret ?_
          refine s_code_ret ?_
          refine s_blk_ret ?_
          refine s_code_ret ?_
          refine s_inv_ret ?_
          refine s_blk_ret ?_
          refine s_code_ret ?_
          refine s_end ?_
          exact ret_many (.inl rfl) rfl (rl_t rfl (rl_t rfl (rl_nil))) rfl (⟨none, false, rfl, hle2, .inl ⟨rfl, (by rw [hyes, hp, prods_no' (by omega) hno]; rfl)⟩⟩)
         ·have k9 := h9; try simp only [decide_eq_true_eq, decide_eq_false_iff_not, Bool.not_eq_true', Bool.not_eq_false', Bool.not_true, Bool.not_false, List.length_map, Decidable.not_not] at k9
          have hok : okP l[2].n nm l[(4 + 3 * i)] l[(4 + 3 * i) + 1] l[(4 + 3 * i) + 2] = true := okP_yes hw1 (by simp only [Bool.not_eq_false', decide_eq_true_eq] at h9; rw [← hnm2]; exact h9) hbg hce
          refine s_skip ?_
          refine s_seq ?_
          refine s_draw rfl ?_
          refine d_q rfl (q_mv (mvQ)) rfl rfl rfl ?_
          refine d_q rfl (q_mv (mvQ)) rfl rfl rfl ?_
          refine d_q rfl (q_nil rfl) rfl rfl rfl ?_
          refine d_q rfl (q_fr fo34_3 rfl) rfl rfl rfl ?_
          refine d_q rfl (q_mv (v_sl rfl)) rfl rfl rfl ?_
          refine d_q rfl (q_mv (v_raw rfl)) rfl rfl rfl ?_
          refine d_q rfl (q_idx und69 sz74 rfl rfl (by omega) (gm ((4 + 3 * i)) (by first | omega | simp)) rfl) rfl rfl rfl ?_
          refine d_q rfl (q_f fo74_2 rfl) rfl rfl rfl ?_
          refine d_q rfl (q_ld ag9 sz9 rfl (gm ((4 + 3 * i)) (by first | omega | simp)) rfl (v_raw rfl)) rfl rfl rfl ?_
          refine d_q rfl (q_mv (v_sl rfl)) rfl rfl rfl ?_
          refine d_q rfl (q_mv (v_raw rfl)) rfl rfl rfl ?_
          refine d_q rfl (q_add rfl rfl (wrap64 (by omega) (by omega))) rfl rfl rfl ?_
          refine d_q rfl (q_idx und69 sz74 rfl rfl (by omega) (gm ((4 + 3 * i) + 1) (by first | omega | simp)) rfl) rfl rfl rfl ?_
          refine d_q rfl (q_f fo74_1 rfl) rfl rfl rfl ?_
          refine d_q rfl (q_ld ag72 sz72 rfl (gm ((4 + 3 * i) + 1) (by first | omega | simp)) rfl (v_raw rfl)) rfl rfl rfl ?_
          refine d_q rfl (q_i2i und72 und3 rfl (wrap64 (by omega) (by omega))) rfl rfl rfl ?_
          refine d_q rfl (q_mv (v_sl rfl)) rfl rfl rfl ?_
          refine d_q rfl (q_mv (v_raw rfl)) rfl rfl rfl ?_
          refine d_q rfl (q_add rfl rfl (wrap64 (by omega) (by omega))) rfl rfl rfl ?_
          refine d_q rfl (q_idx und69 sz74 rfl rfl (by omega) (gm ((4 + 3 * i) + 2) (by first | omega | simp)) rfl) rfl rfl rfl ?_
          refine d_q rfl (q_f fo74_1 rfl) rfl rfl rfl ?_
          refine d_q rfl (q_ld ag72 sz72 rfl (gm ((4 + 3 * i) + 2) (by first | omega | simp)) rfl (v_raw rfl)) rfl rfl rfl ?_
          refine d_q rfl (q_i2i und72 und3 rfl (wrap64 (by omega) (by omega))) rfl rfl rfl ?_
          refine d_q rfl (q_b (cs := [_, _, _]) bz121 bp121 (bf fo121_0 (e_raw rfl) rfl rfl (Nat.le_of_ble_eq_true rfl) rfl (bf fo121_1 (e_raw rfl) rfl rfl (Nat.le_of_ble_eq_true rfl) rfl (bf fo121_2 (e_raw rfl) rfl rfl (Nat.le_of_ble_eq_true rfl) rfl bf_nil)))) rfl rfl rfl ?_
          refine d_q rfl (q_bs slt32 (pc (v_agg rfl) pn) rfl (Els.cons rfl rfl Els.nil) (by decide)) rfl rfl rfl ?_
          refine d_s rfl ?_
          refine o_take rfl rfl mmQ rfl ag32 sz32 ?_
          refine o_nil ⟨(by simp [Mem.upd, *]), ?_⟩
          refine d_qs rfl (q_app slt32 rfl rfl rfl rfl elsPrE (by first | exact elsPrE | exact Els.cons rfl rfl Els.nil) (by simp; omega)) rfl rfl rfl rfl ?_
          refine d_q rfl (q_nil rfl) rfl rfl rfl ?_
          refine d_q rfl (q_fr fo34_3 rfl) rfl rfl rfl ?_
          refine d_s rfl ?_
          refine o_store_own rfl mmQ rfl sz32 (Nat.le_of_ble_eq_true rfl) ?_
          refine o_nil ⟨(by simp [Mem.upd, *]), ?_⟩
          refine d_nil ?_
          refine s_region ?_
          refine o_q (q_mv (v_raw rfl)) rfl rfl rfl ?_
          refine o_q (q_add rfl rfl (wrap64 (by omega) (by omega))) rfl rfl rfl ?_
          refine o_q (q_as (v_raw rfl)) rfl rfl rfl ?_
          refine o_nil ?_
          refine s_blk_normal ?_
          refine s_region ?_
          refine o_q (q_mv (v_raw rfl)) rfl rfl rfl ?_
          refine o_q (q_add rfl rfl (wrap64 (by omega) (by omega))) rfl rfl rfl ?_
          refine o_q (q_as (v_raw rfl)) rfl rfl rfl ?_
          refine o_nil ?_
          refine s_inv ?_
          have hlt := okP_lt hok
          exact ⟨k, by omega, _, _, i + 1, k, l[(4 + 3 * i)].s, kv ++ [(l[(4 + 3 * i)].s, ((l[(4 + 3 * i) + 1].n : Int), (l[(4 + 3 * i) + 2].n : Int), l[(4 + 3 * i)].s))], _, _, St.mkT (kp (kp (kp (kp (kp rfl rfl) rfl) rfl) (congrArg int (by push_cast; omega))) rfl).symm, Mem.upd_self _ _ _, (by show AVal.sl _ true = _; rw [List.map_append]; rfl), rfl, (hp.trans ((prods_yes' (by omega) hok).trans (congrArg (prodsT _ k _ _) (kput_end hkn hlt)))), by omega, (by rw [List.length_append, List.length_singleton]; omega), ⟨fun h => kv_last hkl h, fun h => absurd h (Nat.succ_ne_zero i)⟩, kv_le hkn hlt, leN (leN hle2 m1) m1, rfl⟩
        ·have k8 := h8; try simp only [decide_eq_true_eq, decide_eq_false_iff_not, Bool.not_eq_true', Bool.not_eq_false', Bool.not_true, Bool.not_false, List.length_map, Decidable.not_not] at k8
         have hi0 : i = 0 := by have := of_decide_eq_false h8; omega
         have hok : okP l[2].n nm l[(4 + 3 * i)] l[(4 + 3 * i) + 1] l[(4 + 3 * i) + 2] = true := okP_yes hw1 (by rw [hnm.2 hi0]; exact word_lt_emp hw1) hbg hce
         refine d_no rfl rfl rfl rfl h8 rfl ?_
         refine d_no rfl rfl rfl rfl h8 rfl ?_
         refine d_no rfl rfl rfl rfl h8 rfl ?_
         refine d_no rfl rfl rfl rfl h8 rfl ?_
         refine d_no rfl rfl rfl rfl h8 rfl ?_
         refine d_no rfl rfl rfl rfl h8 rfl ?_
         refine d_no rfl rfl rfl rfl h8 rfl ?_
         refine d_no rfl rfl rfl rfl h8 rfl ?_
         refine d_no rfl rfl rfl rfl h8 rfl ?_
         refine d_no rfl rfl rfl rfl h8 rfl ?_
         refine d_no rfl rfl rfl rfl h8 rfl ?_
         refine d_no rfl rfl rfl rfl h8 rfl ?_
         refine d_no rfl rfl rfl rfl h8 rfl ?_
         refine d_no rfl rfl rfl rfl h8 rfl ?_
         refine d_no rfl rfl rfl rfl h8 rfl ?_
         refine d_yes rfl (q_pick_c (t := false) rfl h8 (v_raw rfl)) rfl rfl rfl h7 rfl rfl ?_
         refine d_q rfl (q_pick_c (t := false) rfl h7 (v_raw rfl)) rfl rfl rfl ?_
         refine d_nil ?_
         refine s_else rfl rfl ?_
         refine s_skip ?_
         refine s_seq ?_
         refine s_draw rfl ?_
         refine d_q rfl (q_mv (mvQ)) rfl rfl rfl ?_
         refine d_q rfl (q_mv (mvQ)) rfl rfl rfl ?_
         refine d_q rfl (q_nil rfl) rfl rfl rfl ?_
         refine d_q rfl (q_fr fo34_3 rfl) rfl rfl rfl ?_
         refine d_q rfl (q_mv (v_sl rfl)) rfl rfl rfl ?_
         refine d_q rfl (q_mv (v_raw rfl)) rfl rfl rfl ?_
         refine d_q rfl (q_idx und69 sz74 rfl rfl (by omega) (gm ((4 + 3 * i)) (by first | omega | simp)) rfl) rfl rfl rfl ?_
         refine d_q rfl (q_f fo74_2 rfl) rfl rfl rfl ?_
         refine d_q rfl (q_ld ag9 sz9 rfl (gm ((4 + 3 * i)) (by first | omega | simp)) rfl (v_raw rfl)) rfl rfl rfl ?_
         refine d_q rfl (q_mv (v_sl rfl)) rfl rfl rfl ?_
         refine d_q rfl (q_mv (v_raw rfl)) rfl rfl rfl ?_
         refine d_q rfl (q_add rfl rfl (wrap64 (by omega) (by omega))) rfl rfl rfl ?_
         refine d_q rfl (q_idx und69 sz74 rfl rfl (by omega) (gm ((4 + 3 * i) + 1) (by first | omega | simp)) rfl) rfl rfl rfl ?_
         refine d_q rfl (q_f fo74_1 rfl) rfl rfl rfl ?_
         refine d_q rfl (q_ld ag72 sz72 rfl (gm ((4 + 3 * i) + 1) (by first | omega | simp)) rfl (v_raw rfl)) rfl rfl rfl ?_
         refine d_q rfl (q_i2i und72 und3 rfl (wrap64 (by omega) (by omega))) rfl rfl rfl ?_
         refine d_q rfl (q_mv (v_sl rfl)) rfl rfl rfl ?_
         refine d_q rfl (q_mv (v_raw rfl)) rfl rfl rfl ?_
         refine d_q rfl (q_add rfl rfl (wrap64 (by omega) (by omega))) rfl rfl rfl ?_
         refine d_q rfl (q_idx und69 sz74 rfl rfl (by omega) (gm ((4 + 3 * i) + 2) (by first | omega | simp)) rfl) rfl rfl rfl ?_
         refine d_q rfl (q_f fo74_1 rfl) rfl rfl rfl ?_
         refine d_q rfl (q_ld ag72 sz72 rfl (gm ((4 + 3 * i) + 2) (by first | omega | simp)) rfl (v_raw rfl)) rfl rfl rfl ?_
         refine d_q rfl (q_i2i und72 und3 rfl (wrap64 (by omega) (by omega))) rfl rfl rfl ?_
         refine d_q rfl (q_b (cs := [_, _, _]) bz121 bp121 (bf fo121_0 (e_raw rfl) rfl rfl (Nat.le_of_ble_eq_true rfl) rfl (bf fo121_1 (e_raw rfl) rfl rfl (Nat.le_of_ble_eq_true rfl) rfl (bf fo121_2 (e_raw rfl) rfl rfl (Nat.le_of_ble_eq_true rfl) rfl bf_nil)))) rfl rfl rfl ?_
         refine d_q rfl (q_bs slt32 (pc (v_agg rfl) pn) rfl (Els.cons rfl rfl Els.nil) (by decide)) rfl rfl rfl ?_
         refine d_s rfl ?_
         refine o_take rfl rfl mmQ rfl ag32 sz32 ?_
         refine o_nil ⟨(by simp [Mem.upd, *]), ?_⟩
         refine d_qs rfl (q_app slt32 rfl rfl rfl rfl elsPrE (by first | exact elsPrE | exact Els.cons rfl rfl Els.nil) (by simp; omega)) rfl rfl rfl rfl ?_
         refine d_q rfl (q_nil rfl) rfl rfl rfl ?_
         refine d_q rfl (q_fr fo34_3 rfl) rfl rfl rfl ?_
         refine d_s rfl ?_
         refine o_store_own rfl mmQ rfl sz32 (Nat.le_of_ble_eq_true rfl) ?_
         refine o_nil ⟨(by simp [Mem.upd, *]), ?_⟩
         refine d_nil ?_
         refine s_region ?_
         refine o_q (q_mv (v_raw rfl)) rfl rfl rfl ?_
         refine o_q (q_add rfl rfl (wrap64 (by omega) (by omega))) rfl rfl rfl ?_
         refine o_q (q_as (v_raw rfl)) rfl rfl rfl ?_
         refine o_nil ?_
         refine s_blk_normal ?_
         refine s_region ?_
         refine o_q (q_mv (v_raw rfl)) rfl rfl rfl ?_
         refine o_q (q_add rfl rfl (wrap64 (by omega) (by omega))) rfl rfl rfl ?_
         refine o_q (q_as (v_raw rfl)) rfl rfl rfl ?_
         refine o_nil ?_
         refine s_inv ?_
         have hlt := okP_lt hok
         exact ⟨k, by omega, _, _, i + 1, k, l[(4 + 3 * i)].s, kv ++ [(l[(4 + 3 * i)].s, ((l[(4 + 3 * i) + 1].n : Int), (l[(4 + 3 * i) + 2].n : Int), l[(4 + 3 * i)].s))], _, _, St.mkT (kp (kp (kp (kp (kp rfl rfl) rfl) rfl) (congrArg int (by push_cast; omega))) rfl).symm, Mem.upd_self _ _ _, (by show AVal.sl _ true = _; rw [List.map_append]; rfl), rfl, (hp.trans ((prods_yes' (by omega) hok).trans (congrArg (prodsT _ k _ _) (kput_end hkn hlt)))), by omega, (by rw [List.length_append, List.length_singleton]; omega), ⟨fun h => kv_last hkl h, fun h => absurd h (Nat.succ_ne_zero i)⟩, kv_le hkn hlt, leN (leN hle2 m1) m1, rfl⟩
       ·have k7 := h7; try simp only [decide_eq_true_eq, decide_eq_false_iff_not, Bool.not_eq_true', Bool.not_eq_false', Bool.not_true, Bool.not_false, List.length_map, Decidable.not_not] at k7
        have hno : okP l[2].n nm l[(4 + 3 * i)] l[(4 + 3 * i) + 1] l[(4 + 3 * i) + 2] = false := okP_no fun hh => by
         have h2 := of_decide_eq_true h7
         have h3 := hh.2.2
         omega
        refine d_no rfl rfl rfl rfl h7 rfl ?_
        refine d_no rfl rfl rfl rfl h7 rfl ?_
        refine d_no rfl rfl rfl rfl h7 rfl ?_
        refine d_skip rfl rfl rfl rfl rfl ?_
        refine d_skip rfl rfl rfl rfl rfl ?_
        refine d_skip rfl rfl rfl rfl rfl ?_
        refine d_skip rfl rfl rfl rfl rfl ?_
        refine d_skip rfl rfl rfl rfl rfl ?_
        refine d_skip rfl rfl rfl rfl rfl ?_
        refine d_skip rfl rfl rfl rfl rfl ?_
        refine d_skip rfl rfl rfl rfl rfl ?_
        refine d_skip rfl rfl rfl rfl rfl ?_
        refine d_skip rfl rfl rfl rfl rfl ?_
        refine d_skip rfl rfl rfl rfl rfl ?_
        refine d_skip rfl rfl rfl rfl rfl ?_
        refine d_skip rfl rfl rfl rfl rfl ?_
        refine d_skip rfl rfl rfl rfl rfl ?_
        refine d_skip rfl rfl rfl rfl rfl ?_
        refine d_no rfl rfl rfl rfl h7 rfl ?_
        refine d_q rfl (q_pick_c (t := true) rfl h7 (v_raw rfl)) rfl rfl rfl ?_
        refine d_nil ?_
        refine s_then rfl rfl ?_
        refine s_seq ?_
        refine s_region ?_
        refine o_q (q_as (mvQ)) rfl rfl rfl ?_
        refine o_q (q_as (v_raw rfl)) rfl rfl rfl ?_
        refine o_nil ?_
        refine s_ret ?_
        refine s_code_ret ?_
        refine s_blk_ret ?_
        refine s_code_ret ?_
        refine s_inv_ret ?_
        refine s_blk_ret ?_
        refine s_code_ret ?_
        refine s_end ?_
        exact ret_many (.inl rfl) rfl (rl_t rfl (rl_t rfl (rl_nil))) rfl (⟨none, false, rfl, hle2, .inl ⟨rfl, (by rw [hyes, hp, prods_no' (by omega) hno]; rfl)⟩⟩)
      ·have k6 := h6; try simp only [decide_eq_true_eq, decide_eq_false_iff_not, Bool.not_eq_true', Bool.not_eq_false', Bool.not_true, Bool.not_false, List.length_map, Decidable.not_not] at k6
       have hno : okP l[2].n nm l[(4 + 3 * i)] l[(4 + 3 * i) + 1] l[(4 + 3 * i) + 2] = false := okP_no fun hh => by
        have h2 := of_decide_eq_true h6
        have h3 : l[(4 + 3 * i) + 1].n ≤ 9007199254740991 := hh.2.1
        omega
       refine d_no rfl rfl rfl rfl h6 rfl ?_
       refine d_no rfl rfl rfl rfl h6 rfl ?_
       refine d_no rfl rfl rfl rfl h6 rfl ?_
       refine d_no rfl rfl rfl rfl h6 rfl ?_
       refine d_no rfl rfl rfl rfl h6 rfl ?_
       refine d_no rfl rfl rfl rfl h6 rfl ?_
       refine d_no rfl rfl rfl rfl h6 rfl ?_
       refine d_no rfl rfl rfl rfl h6 rfl ?_
       refine d_no rfl rfl rfl rfl h6 rfl ?_
       refine d_no rfl rfl rfl rfl h6 rfl ?_
       refine d_no rfl rfl rfl rfl h6 rfl ?_
       refine d_q rfl (q_pick_c (t := true) rfl h6 (v_raw rfl)) rfl rfl rfl ?_
       refine d_q rfl (q_mv (v_raw rfl)) rfl rfl rfl ?_
       refine d_no rfl rfl rfl rfl rfl rfl ?_
       refine d_no rfl rfl rfl rfl rfl rfl ?_
       refine d_no rfl rfl rfl rfl rfl rfl ?_
       refine d_skip rfl rfl rfl rfl rfl ?_
       refine d_skip rfl rfl rfl rfl rfl ?_
       refine d_skip rfl rfl rfl rfl rfl ?_
       refine d_skip rfl rfl rfl rfl rfl ?_
       refine d_skip rfl rfl rfl rfl rfl ?_
       refine d_skip rfl rfl rfl rfl rfl ?_
       refine d_skip rfl rfl rfl rfl rfl ?_
       refine d_skip rfl rfl rfl rfl rfl ?_
       refine d_skip rfl rfl rfl rfl rfl ?_
       refine d_skip rfl rfl rfl rfl rfl ?_
       refine d_skip rfl rfl rfl rfl rfl ?_
       refine d_skip rfl rfl rfl rfl rfl ?_
       refine d_skip rfl rfl rfl rfl rfl ?_
       refine d_skip rfl rfl rfl rfl rfl ?_
       refine d_skip rfl rfl rfl rfl rfl ?_
       refine d_no rfl rfl rfl rfl rfl rfl ?_
       refine d_q rfl (q_pick_c (t := true) rfl rfl (v_raw rfl)) rfl rfl rfl ?_
       refine d_nil ?_
       refine s_then rfl rfl ?_
       refine s_seq ?_
       refine s_region ?_
       refine o_q (q_as (mvQ)) rfl rfl rfl ?_
       refine o_q (q_as (v_raw rfl)) rfl rfl rfl ?_
       refine o_nil ?_
       refine s_ret ?_
       refine s_code_ret ?_
       refine s_blk_ret ?_
       refine s_code_ret ?_
       refine s_inv_ret ?_
       refine s_blk_ret ?_
       refine s_code_ret ?_
       refine s_end ?_
       exact ret_many (.inl rfl) rfl (rl_t rfl (rl_t rfl (rl_nil))) rfl (⟨none, false, rfl, hle2, .inl ⟨rfl, (by rw [hyes, hp, prods_no' (by omega) hno]; rfl)⟩⟩)
     ·have k5 := h5; try simp only [decide_eq_true_eq, decide_eq_false_iff_not, Bool.not_eq_true', Bool.not_eq_false', Bool.not_true, Bool.not_false, List.length_map, Decidable.not_not] at k5
      have hno : okP l[2].n nm l[(4 + 3 * i)] l[(4 + 3 * i) + 1] l[(4 + 3 * i) + 2] = false := okP_no1 (by simpa using h5)
      refine d_no rfl rfl rfl rfl h5 rfl ?_
      refine d_no rfl rfl rfl rfl h5 rfl ?_
      refine d_no rfl rfl rfl rfl h5 rfl ?_
      refine d_no rfl rfl rfl rfl h5 rfl ?_
      refine d_no rfl rfl rfl rfl h5 rfl ?_
      refine d_no rfl rfl rfl rfl h5 rfl ?_
      refine d_no rfl rfl rfl rfl h5 rfl ?_
      refine d_q rfl (q_pick_c (t := true) rfl h5 (v_raw rfl)) rfl rfl rfl ?_
      refine d_q rfl (q_mv (v_raw rfl)) rfl rfl rfl ?_
      refine d_no rfl rfl rfl rfl rfl rfl ?_
      refine d_no rfl rfl rfl rfl rfl rfl ?_
      refine d_no rfl rfl rfl rfl rfl rfl ?_
      refine d_no rfl rfl rfl rfl rfl rfl ?_
      refine d_no rfl rfl rfl rfl rfl rfl ?_
      refine d_no rfl rfl rfl rfl rfl rfl ?_
      refine d_no rfl rfl rfl rfl rfl rfl ?_
      refine d_no rfl rfl rfl rfl rfl rfl ?_
      refine d_no rfl rfl rfl rfl rfl rfl ?_
      refine d_no rfl rfl rfl rfl rfl rfl ?_
      refine d_no rfl rfl rfl rfl rfl rfl ?_
      refine d_q rfl (q_pick_c (t := true) rfl rfl (v_raw rfl)) rfl rfl rfl ?_
      refine d_q rfl (q_mv (v_raw rfl)) rfl rfl rfl ?_
      refine d_no rfl rfl rfl rfl rfl rfl ?_
      refine d_no rfl rfl rfl rfl rfl rfl ?_
      refine d_no rfl rfl rfl rfl rfl rfl ?_
      refine d_skip rfl rfl rfl rfl rfl ?_
      refine d_skip rfl rfl rfl rfl rfl ?_
      refine d_skip rfl rfl rfl rfl rfl ?_
      refine d_skip rfl rfl rfl rfl rfl ?_
      refine d_skip rfl rfl rfl rfl rfl ?_
      refine d_skip rfl rfl rfl rfl rfl ?_
      refine d_skip rfl rfl rfl rfl rfl ?_
      refine d_skip rfl rfl rfl rfl rfl ?_
      refine d_skip rfl rfl rfl rfl rfl ?_
      refine d_skip rfl rfl rfl rfl rfl ?_
      refine d_skip rfl rfl rfl rfl rfl ?_
      refine d_skip rfl rfl rfl rfl rfl ?_
      refine d_skip rfl rfl rfl rfl rfl ?_
      refine d_skip rfl rfl rfl rfl rfl ?_
      refine d_skip rfl rfl rfl rfl rfl ?_
      refine d_no rfl rfl rfl rfl rfl rfl ?_
      refine d_q rfl (q_pick_c (t := true) rfl rfl (v_raw rfl)) rfl rfl rfl ?_
      refine d_nil ?_
      refine s_then rfl rfl ?_
      refine s_seq ?_
      refine s_region ?_
      refine o_q (q_as (mvQ)) rfl rfl rfl ?_
      refine o_q (q_as (v_raw rfl)) rfl rfl rfl ?_
      refine o_nil ?_
      refine s_ret ?_
      refine s_code_ret ?_
      refine s_blk_ret ?_
      refine s_code_ret ?_
      refine s_inv_ret ?_
      refine s_blk_ret ?_
      refine s_code_ret ?_
      refine s_end ?_
      exact ret_many (.inl rfl) rfl (rl_t rfl (rl_t rfl (rl_nil))) rfl (⟨none, false, rfl, hle2, .inl ⟨rfl, (by rw [hyes, hp, prods_no' (by omega) hno]; rfl)⟩⟩)
    ·have k4 := h4; try simp only [decide_eq_true_eq, decide_eq_false_iff_not, Bool.not_eq_true', Bool.not_eq_false', Bool.not_true, Bool.not_false, List.length_map, Decidable.not_not] at k4
     obtain rfl : k = 0 := by omega
     obtain rfl : n = i := by omega
     have hp2 : prodsT l[2].n n (l.drop 4) emp [] = some kv := hp
     refine s_exit ?_
     refine s_code_exit ?_
     refine s_inv_exit ?_
     refine s_blk_here ?_
     refine s_seq ?_
     refine s_block ?_
     refine s_loop (fun m S => ∃ T, ∃ M' : Mem, ∃ q e : Nat, ∃ lo : Int, ∃ acc : List Rec, ∃ V W : AVal, S = ⟨setT (setT (setT T 0 (.sl (l.map encIt) o)) 7 (ptr B1)) 8 (int (q : Nat)), M'⟩ ∧ M' B1 = some (.cells [str l[0].s, int l[1].n, int l[2].n, V, W]) ∧ nilOwn W = .sl (acc.map enc) true ∧ recsT l[2].n (l.drop (4 + 3 * n)) l[1].n [] = recsT l[2].n (l.drop q) lo acc ∧ q + 5 * e = l.length ∧ acc.length + e = j ∧ lo = lastO acc l[1].n ∧ (l[1].n : Int) ≤ lo ∧ M.le M' ∧ m = e + 0) j ?_ ?_
     ·exact ⟨_, _, 4 + 3 * n, j, l[1].n, [], V, W, St.mkT (kp (kp (kp rfl rfl) rfl) rfl).symm, hb, hW, rfl, by omega, Nat.zero_add j, rfl, Int.le_refl _, hle, rfl⟩
     rintro m S ⟨T, M', q, e, lo, acc, V, W, rfl, hb, hW, hr, hqe, hac, hlo, hlo2, hle, hme⟩
     refine s_seq ?_
     refine s_seq ?_
     refine s_region ?_
     refine o_q (q_mv (v_raw rfl)) rfl rfl rfl ?_
     refine o_q (q_mv (v_sl rfl)) rfl rfl rfl ?_
     refine o_q (q_len rfl und69 rfl) rfl rfl rfl ?_
     refine o_q (q_lss rfl rfl) rfl rfl rfl ?_
     refine o_nil ?_
     refine s_cond rfl (fun h10 => ?_) (fun h10 => ?_)
     ·have k10 := h10; try simp only [decide_eq_true_eq, decide_eq_false_iff_not, Bool.not_eq_true', Bool.not_eq_false', Bool.not_true, Bool.not_false, List.length_map, Decidable.not_not] at k10
      obtain ⟨e, rfl⟩ : ∃ e', e = e' + 1 := ⟨e - 1, by omega⟩
      have hal : (acc.map enc).length = acc.length := List.length_map _
      refine s_skip ?_
      refine s_block ?_
      refine s_seq ?_
      refine s_seq ?_
      refine s_region ?_
      refine o_q (q_mv (v_sl rfl)) rfl rfl rfl ?_
      refine o_q (q_mv (v_raw rfl)) rfl rfl rfl ?_
      refine o_q (q_idx und69 sz74 rfl rfl (by omega) (gm (q) (by first | omega | simp)) rfl) rfl rfl rfl ?_
      refine o_q (q_f fo74_1 rfl) rfl rfl rfl ?_
      refine o_q (q_ld ag72 sz72 rfl (gm (q) (by first | omega | simp)) rfl (v_raw rfl)) rfl rfl rfl ?_
      refine o_q (q_gtr rfl rfl) rfl rfl rfl ?_
      refine o_q (q_mv (v_raw rfl)) rfl rfl rfl ?_
      refine o_cases (want := false) (j := 6) rfl rfl (fun h11 => ?_) (fun h11 => ?_)
      ·have k11 := h11; try simp only [decide_eq_true_eq, decide_eq_false_iff_not, Bool.not_eq_true', Bool.not_eq_false', Bool.not_true, Bool.not_false, List.length_map, Decidable.not_not] at k11
       have hag : l[q].n ≤ 9007199254740991 := by have := of_decide_eq_false h11; omega
       refine o_yes rfl rfl rfl h11 ?_
       refine o_q (q_mv (v_sl rfl)) rfl rfl rfl ?_
       refine o_yes rfl rfl rfl h11 ?_
       refine o_q (q_mv (v_raw rfl)) rfl rfl rfl ?_
       refine o_yes rfl rfl rfl h11 ?_
       refine o_q (q_add rfl rfl (wrap64 (by omega) (by omega))) rfl rfl rfl ?_
       refine o_yes rfl rfl rfl h11 ?_
       refine o_q (q_idx und69 sz74 rfl rfl (by omega) (gm (q + 2) (by first | omega | simp)) rfl) rfl rfl rfl ?_
       refine o_yes rfl rfl rfl h11 ?_
       refine o_q (q_f fo74_1 rfl) rfl rfl rfl ?_
       refine o_yes rfl rfl rfl h11 ?_
       refine o_q (q_ld ag72 sz72 rfl (gm (q + 2) (by first | omega | simp)) rfl (v_raw rfl)) rfl rfl rfl ?_
       refine o_yes rfl rfl rfl h11 ?_
       refine o_q (q_gtr rfl rfl) rfl rfl rfl ?_
       refine o_q (q_pick_c (t := false) rfl h11 (v_raw rfl)) rfl rfl rfl ?_
       refine o_nil ?_
       refine s_cond rfl (fun h12 => ?_) (fun h12 => ?_)
       ·have k12 := h12; try simp only [decide_eq_true_eq, decide_eq_false_iff_not, Bool.not_eq_true', Bool.not_eq_false', Bool.not_true, Bool.not_false, List.length_map, Decidable.not_not] at k12
        have hno : okR l[2].n lo l[q] l[q + 1] l[q + 2] l[q + 3] l[q + 4] = false := okR_no fun hh => by
         have h2 := of_decide_eq_true h12
         have h3 : l[q + 2].n ≤ 9007199254740991 := hh.2.1
         omega
        refine s_seq ?_
        refine s_region ?_
        refine o_q (q_as (mvQ)) rfl rfl rfl ?_
        refine o_q (q_as (v_raw rfl)) rfl rfl rfl ?_
        refine o_nil ?_
        refine s_ret ?_
        refine s_code_ret ?_
        refine s_blk_ret ?_
        refine s_inv_ret ?_
        refine s_blk_ret ?_
        refine s_code_ret ?_
        refine s_end ?_
        exact ret_many (.inl rfl) rfl (rl_t rfl (rl_t rfl (rl_nil))) rfl (⟨none, false, rfl, hle, .inl ⟨rfl, (by rw [hyes, hp2, Option.bind_some, hr, recs_no' (by omega) hno]; rfl)⟩⟩)
       ·have k12 := h12; try simp only [decide_eq_true_eq, decide_eq_false_iff_not, Bool.not_eq_true', Bool.not_eq_false', Bool.not_true, Bool.not_false, List.length_map, Decidable.not_not] at k12
        have hsg : l[q + 2].n ≤ 9007199254740991 := by have := of_decide_eq_false h12; omega
        refine s_skip ?_
        refine s_seq ?_
        refine s_draw rfl ?_
        refine d_q rfl (q_mv (v_sl rfl)) rfl rfl rfl ?_
        refine d_q rfl (q_mv (v_raw rfl)) rfl rfl rfl ?_
        refine d_q rfl (q_idx und69 sz74 rfl rfl (by omega) (gm (q) (by first | omega | simp)) rfl) rfl rfl rfl ?_
        refine d_q rfl (q_f fo74_1 rfl) rfl rfl rfl ?_
        refine d_q rfl (q_ld ag72 sz72 rfl (gm (q) (by first | omega | simp)) rfl (v_raw rfl)) rfl rfl rfl ?_
        refine d_q rfl (q_i2i und72 und3 rfl (wrap64 (by omega) (by omega))) rfl rfl rfl ?_
        refine d_q rfl (q_mv (v_sl rfl)) rfl rfl rfl ?_
        refine d_q rfl (q_mv (v_raw rfl)) rfl rfl rfl ?_
        refine d_q rfl (q_add rfl rfl (wrap64 (by omega) (by omega))) rfl rfl rfl ?_
        refine d_q rfl (q_idx und69 sz74 rfl rfl (by omega) (gm (q + 1) (by first | omega | simp)) rfl) rfl rfl rfl ?_
        refine d_q rfl (q_f fo74_2 rfl) rfl rfl rfl ?_
        refine d_q rfl (q_ld ag9 sz9 rfl (gm (q + 1) (by first | omega | simp)) rfl (v_raw rfl)) rfl rfl rfl ?_
        refine d_q rfl (q_mv (v_sl rfl)) rfl rfl rfl ?_
        refine d_q rfl (q_mv (v_raw rfl)) rfl rfl rfl ?_
        refine d_q rfl (q_add rfl rfl (wrap64 (by omega) (by omega))) rfl rfl rfl ?_
        refine d_q rfl (q_idx und69 sz74 rfl rfl (by omega) (gm (q + 2) (by first | omega | simp)) rfl) rfl rfl rfl ?_
        refine d_q rfl (q_f fo74_1 rfl) rfl rfl rfl ?_
        refine d_q rfl (q_ld ag72 sz72 rfl (gm (q + 2) (by first | omega | simp)) rfl (v_raw rfl)) rfl rfl rfl ?_
        refine d_q rfl (q_i2i und72 und3 rfl (wrap64 (by omega) (by omega))) rfl rfl rfl ?_
        refine d_q rfl (q_mv (v_sl rfl)) rfl rfl rfl ?_
        refine d_q rfl (q_mv (v_raw rfl)) rfl rfl rfl ?_
        refine d_q rfl (q_add rfl rfl (wrap64 (by omega) (by omega))) rfl rfl rfl ?_
        refine d_q rfl (q_idx und69 sz74 rfl rfl (by omega) (gm (q + 3) (by first | omega | simp)) rfl) rfl rfl rfl ?_
        refine d_q rfl (q_f fo74_2 rfl) rfl rfl rfl ?_
        refine d_q rfl (q_ld ag9 sz9 rfl (gm (q + 3) (by first | omega | simp)) rfl (v_raw rfl)) rfl rfl rfl ?_
        refine d_q rfl (q_mv (v_sl rfl)) rfl rfl rfl ?_
        refine d_q rfl (q_mv (v_raw rfl)) rfl rfl rfl ?_
        refine d_q rfl (q_add rfl rfl (wrap64 (by omega) (by omega))) rfl rfl rfl ?_
        refine d_q rfl (q_idx und69 sz74 rfl rfl (by omega) (gm (q + 4) (by first | omega | simp)) rfl) rfl rfl rfl ?_
        refine d_q rfl (q_f fo74_2 rfl) rfl rfl rfl ?_
        refine d_q rfl (q_ld ag9 sz9 rfl (gm (q + 4) (by first | omega | simp)) rfl (v_raw rfl)) rfl rfl rfl ?_
        refine d_q rfl (q_b (cs := [_, _, _, _, _]) bz60 bp60 (bf fo60_0 (e_raw rfl) rfl rfl (Nat.le_of_ble_eq_true rfl) rfl (bf fo60_1 (e_raw rfl) rfl rfl (Nat.le_of_ble_eq_true rfl) rfl (bf fo60_2 (e_raw rfl) rfl rfl (Nat.le_of_ble_eq_true rfl) rfl (bf fo60_3 (e_raw rfl) rfl rfl (Nat.le_of_ble_eq_true rfl) rfl (bf fo60_4 (e_raw rfl) rfl rfl (Nat.le_of_ble_eq_true rfl) rfl bf_nil)))))) rfl rfl rfl ?_
        refine d_s rfl ?_
        refine o_alloc zc60 (fun B2 hB2 => ?_)
        have g1 : B1 ≠ B2 := Mem.fresh_ne hB2 hb
        have g2 := g1.symm
        have n2 := Mem.none_of_le hle hB2
        have m2 : M B2 = none := by have h := hB2; repeat (first | exact h | exact Mem.none_of_le hle h | replace h := (Mem.upd_none h).2)
        refine o_nil ⟨(by simp [Mem.upd, *]), ?_⟩
        refine d_s rfl ?_
        refine o_storew rfl mmQ mfQ rfl sz60 rfl rfl rfl rfl ?_
        refine o_nil ⟨(by simp [Mem.upd, *]), ?_⟩
        refine d_nil ?_
        refine s_seq ?_
        refine s_region ?_
        refine o_q (q_ldmw ag60 sz60 rfl mmQ rfl rfl) rfl rfl rfl ?_
        refine o_callx ((right_ownR (recO l[q] l[q + 1] l[q + 2] l[q + 3] l[q + 4]) _ B1 [str l[0].s, int l[1].n, int l[2].n, V, W] ((upd_other g1).trans ((upd_other g1).trans hb)))) goes52 (ac (v_agg rfl) ac_nil) rfl ?_
        rintro r M4 ⟨rfl, hb4, hk4⟩
        have hb4 : M4 B1 = some (.cells [str l[0].s, int l[1].n, int l[2].n, nilOwn V, .sl (acc.map enc) true]) := by rw [hb4, ← hW]; rfl
        have hx4 := hk4 B2 _ g2 (Mem.upd_self _ _ _)
        have hle4 : M.le M4 := fun c x hc => hk4 c x (fun e => by rw [e, m1] at hc; cases hc) (leU2 hle hB2 c x hc)
        refine o_q (q_as (v_raw rfl)) rfl rfl rfl ?_
        refine o_nil ?_
        refine s_seq ?_
        refine s_seq ?_
        refine s_draw rfl ?_
        refine d_q rfl (q_mv (v_raw rfl)) rfl rfl rfl ?_
        refine d_q rfl (q_not rfl) rfl rfl rfl ?_
        refine d_q rfl (q_mv (v_raw rfl)) rfl rfl rfl ?_
        refine d_cases (want := false) (j := 2) rfl rfl (fun h13 => ?_) (fun h13 => ?_)
        ·have k13 := h13; try simp only [decide_eq_true_eq, decide_eq_false_iff_not, Bool.not_eq_true', Bool.not_eq_false', Bool.not_true, Bool.not_false, List.length_map, Decidable.not_not] at k13
         have hrt : right (recO l[q] l[q + 1] l[q + 2] l[q + 3] l[q + 4]) = true := by simpa using h13
         refine d_yes rfl (q_fr fo60_0 rfl) rfl rfl rfl h13 rfl rfl ?_
         refine d_yes rfl (q_ldm ag3 sz3 rfl mmQ rfl (v_raw rfl)) rfl rfl rfl h13 rfl rfl ?_
         refine d_yes rfl (q_mv (mvQ)) rfl rfl rfl h13 rfl rfl ?_
         refine d_yes rfl (q_nil rfl) rfl rfl rfl h13 rfl rfl ?_
         refine d_yes rfl (q_fr fo34_1 rfl) rfl rfl rfl h13 rfl rfl ?_
         refine d_yes rfl (q_ldm ag3 sz3 rfl mmQ rfl (v_raw rfl)) rfl rfl rfl h13 rfl rfl ?_
         refine d_yes rfl (q_lss rfl rfl) rfl rfl rfl h13 rfl rfl ?_
         refine d_q rfl (q_pick_c (t := false) rfl h13 (v_raw rfl)) rfl rfl rfl ?_
         refine d_q rfl (q_mv (v_raw rfl)) rfl rfl rfl ?_
         refine d_cases (want := false) (j := 11) rfl rfl (fun h14 => ?_) (fun h14 => ?_)
         ·have k14 := h14; try simp only [decide_eq_true_eq, decide_eq_false_iff_not, Bool.not_eq_true', Bool.not_eq_false', Bool.not_true, Bool.not_false, List.length_map, Decidable.not_not] at k14
          have hlw : (l[1].n : Int) ≤ l[q].n := by have h2 : ¬ (l[q].n : Int) < l[1].n := of_decide_eq_false h14; omega
          refine d_yes rfl (q_fr fo60_0 rfl) rfl rfl rfl h14 rfl rfl ?_
          refine d_yes rfl (q_ldm ag3 sz3 rfl mmQ rfl (v_raw rfl)) rfl rfl rfl h14 rfl rfl ?_
          refine d_yes rfl (q_mv (mvQ)) rfl rfl rfl h14 rfl rfl ?_
          refine d_yes rfl (q_nil rfl) rfl rfl rfl h14 rfl rfl ?_
          refine d_yes rfl (q_fr fo34_2 rfl) rfl rfl rfl h14 rfl rfl ?_
          refine d_yes rfl (q_ldm ag3 sz3 rfl mmQ rfl (v_raw rfl)) rfl rfl rfl h14 rfl rfl ?_
          refine d_yes rfl (q_geq rfl rfl) rfl rfl rfl h14 rfl rfl ?_
          refine d_q rfl (q_pick_c (t := false) rfl h14 (v_raw rfl)) rfl rfl rfl ?_
          refine d_q rfl (q_mv (v_raw rfl)) rfl rfl rfl ?_
          refine d_cases (want := false) (j := 20) rfl rfl (fun h15 => ?_) (fun h15 => ?_)
          ·have k15 := h15; try simp only [decide_eq_true_eq, decide_eq_false_iff_not, Bool.not_eq_true', Bool.not_eq_false', Bool.not_true, Bool.not_false, List.length_map, Decidable.not_not] at k15
           have hae : (l[q].n : Int) < l[2].n := by have h2 : ¬ (l[2].n : Int) ≤ l[q].n := of_decide_eq_false h15; omega
           refine d_yes rfl (q_mv (mvQ)) rfl rfl rfl h15 rfl rfl ?_
           refine d_yes rfl (q_nil rfl) rfl rfl rfl h15 rfl rfl ?_
           refine d_yes rfl (q_fr fo34_4 rfl) rfl rfl rfl h15 rfl rfl ?_
           refine d_yes rfl (q_ldm ag30 sz30 rfl mmQ rfl (v_sl rfl)) rfl rfl rfl h15 rfl rfl ?_
           refine d_yes rfl (q_len rfl und30 rfl) rfl rfl rfl h15 rfl rfl ?_
           refine d_yes rfl (q_gtr rfl rfl) rfl rfl rfl h15 rfl rfl ?_
           refine d_yes rfl (q_mv (v_raw rfl)) rfl rfl rfl h15 rfl rfl ?_
           refine d_cases (want := true) (j := 27) rfl rfl (fun h16 => ?_) (fun h16 => ?_)
           ·have k16 := h16; try simp only [decide_eq_true_eq, decide_eq_false_iff_not, Bool.not_eq_true', Bool.not_eq_false', Bool.not_true, Bool.not_false, List.length_map, Decidable.not_not] at k16
            have hac0 : 0 < acc.length := by have h2 := of_decide_eq_true h16; omega
            have hlg := lastO_get hac0 l[1].n
            refine d_yes rfl (q_fr fo60_0 rfl) rfl rfl rfl h16 rfl rfl ?_
            refine d_yes rfl (q_ldm ag3 sz3 rfl mmQ rfl (v_raw rfl)) rfl rfl rfl h16 rfl rfl ?_
            refine d_yes rfl (q_mv (mvQ)) rfl rfl rfl h16 rfl rfl ?_
            refine d_yes rfl (q_nil rfl) rfl rfl rfl h16 rfl rfl ?_
            refine d_yes rfl (q_fr fo34_4 rfl) rfl rfl rfl h16 rfl rfl ?_
            refine d_yes rfl (q_ldm ag30 sz30 rfl mmQ rfl (v_sl rfl)) rfl rfl rfl h16 rfl rfl ?_
            refine d_yes rfl (q_mv (mvQ)) rfl rfl rfl h16 rfl rfl ?_
            refine d_yes rfl (q_nil rfl) rfl rfl rfl h16 rfl rfl ?_
            refine d_yes rfl (q_fr fo34_4 rfl) rfl rfl rfl h16 rfl rfl ?_
            refine d_yes rfl (q_ldm ag30 sz30 rfl mmQ rfl (v_sl rfl)) rfl rfl rfl h16 rfl rfl ?_
            refine d_yes rfl (q_len rfl und30 rfl) rfl rfl rfl h16 rfl rfl ?_
            refine d_yes rfl (q_subn (r := acc.length - 1) (n := 1) rfl rfl (by rw [hal]; omega) (by omega)) rfl rfl rfl h16 rfl rfl ?_
            refine d_yes rfl (q_idx und30 sz60 rfl rfl (by omega) (gm (acc.length - 1) (by first | omega | simp)) rfl) rfl rfl rfl h16 rfl rfl ?_
            refine d_yes rfl (q_f fo60_0 rfl) rfl rfl rfl h16 rfl rfl ?_
            refine d_yes rfl (q_ld ag3 sz3 rfl (gm (acc.length - 1) (by first | omega | simp)) rfl (v_raw rfl)) rfl rfl rfl h16 rfl rfl ?_
            refine d_yes rfl (q_leq rfl rfl) rfl rfl rfl h16 rfl rfl ?_
            refine d_yes rfl (q_pick_c (t := true) rfl h16 (v_raw rfl)) rfl rfl rfl h15 rfl rfl ?_
            refine d_q rfl (q_pick_c (t := false) rfl h15 (v_raw rfl)) rfl rfl rfl ?_
            refine d_nil ?_
            refine s_cond rfl (fun h17 => ?_) (fun h17 => ?_)
            ·have k17 := h17; try simp only [decide_eq_true_eq, decide_eq_false_iff_not, Bool.not_eq_true', Bool.not_eq_false', Bool.not_true, Bool.not_false, List.length_map, Decidable.not_not] at k17
             have hno : okR l[2].n lo l[q] l[q + 1] l[q + 2] l[q + 3] l[q + 4] = false := okR_no fun hh => by
              have h2 : (l[q].n : Int) ≤ acc[acc.length - 1].off := of_decide_eq_true h17
              have h3 := hh.2.2.2
              omega
             refine s_seq ?_
             refine s_region ?_
             refine o_q (q_as (mvQ)) rfl rfl rfl ?_
             refine o_q (q_as (v_raw rfl)) rfl rfl rfl ?_
             refine o_nil ?_
             refine s_ret ?_
             refine s_code_ret ?_
             refine s_blk_ret ?_
             refine s_inv_ret ?_
             refine s_blk_ret ?_
             refine s_code_ret ?_
             refine s_end ?_
             exact ret_many (.inl rfl) rfl (rl_t rfl (rl_t rfl (rl_nil))) rfl (⟨none, false, rfl, hle4, .inl ⟨rfl, (by rw [hyes, hp2, Option.bind_some, hr, recs_no' (by omega) hno]; rfl)⟩⟩)
            ·have k17 := h17; try simp only [decide_eq_true_eq, decide_eq_false_iff_not, Bool.not_eq_true', Bool.not_eq_false', Bool.not_true, Bool.not_false, List.length_map, Decidable.not_not] at k17
             have hok : okR l[2].n lo l[q] l[q + 1] l[q + 2] l[q + 3] l[q + 4] = true := okR_yes ⟨hae, hsg, hrt, by have h2 : ¬ (l[q].n : Int) ≤ acc[acc.length - 1].off := of_decide_eq_false h17; omega⟩
             refine s_skip ?_
             refine s_seq ?_
             refine s_draw rfl ?_
             refine d_q rfl (q_mv (mvQ)) rfl rfl rfl ?_
             refine d_q rfl (q_mv (mvQ)) rfl rfl rfl ?_
             refine d_q rfl (q_nil rfl) rfl rfl rfl ?_
             refine d_q rfl (q_fr fo34_4 rfl) rfl rfl rfl ?_
             refine d_q rfl (q_ldmw ag60 sz60 rfl mmQ rfl rfl) rfl rfl rfl ?_
             refine d_q rfl (q_bs slt30 (pc (v_agg rfl) pn) rfl (Els.cons rfl rfl Els.nil) (by decide)) rfl rfl rfl ?_
             refine d_s rfl ?_
             refine o_take rfl rfl mmQ rfl ag30 sz30 ?_
             refine o_nil ⟨(by simp [Mem.upd, *]), ?_⟩
             refine d_qs rfl (q_app slt30 rfl rfl rfl rfl elsR (by first | exact elsR | exact Els.cons rfl rfl Els.nil) (by simp; omega)) rfl rfl rfl rfl ?_
             refine d_q rfl (q_nil rfl) rfl rfl rfl ?_
             refine d_q rfl (q_fr fo34_4 rfl) rfl rfl rfl ?_
             refine d_s rfl ?_
             refine o_store_own rfl mmQ rfl sz30 (Nat.le_of_ble_eq_true rfl) ?_
             refine o_nil ⟨(by simp [Mem.upd, *]), ?_⟩
             refine d_nil ?_
             refine s_region ?_
             refine o_q (q_mv (v_raw rfl)) rfl rfl rfl ?_
             refine o_q (q_add rfl rfl (wrap64 (by omega) (by omega))) rfl rfl rfl ?_
             refine o_q (q_as (v_raw rfl)) rfl rfl rfl ?_
             refine o_nil ?_
             refine s_blk_normal ?_
             refine s_inv ?_
             exact ⟨e, by omega, _, _, q + 5, e, (l[q].n : Int) + 1, acc ++ [(recO l[q] l[q + 1] l[q + 2] l[q + 3] l[q + 4])], _, _, St.mkT (kp (kp (kp rfl rfl) rfl) rfl).symm, Mem.upd_self _ _ _, (by show AVal.sl _ true = _; rw [List.map_append]; rfl), hr.trans (recs_yes' (by omega) hok), by omega, (by rw [List.length_append, List.length_singleton]; omega), (by rw [lastO_snoc]; rfl), by omega, leN (leN hle4 m1) m1, rfl⟩
           ·have k16 := h16; try simp only [decide_eq_true_eq, decide_eq_false_iff_not, Bool.not_eq_true', Bool.not_eq_false', Bool.not_true, Bool.not_false, List.length_map, Decidable.not_not] at k16
            have hac0 : acc = [] := List.eq_nil_of_length_eq_zero (by have h2 := of_decide_eq_false h16; omega)
            have hok : okR l[2].n lo l[q] l[q + 1] l[q + 2] l[q + 3] l[q + 4] = true := okR_yes ⟨hae, hsg, hrt, by rw [hlo, hac0]; exact hlw⟩
            refine d_no rfl rfl rfl rfl h16 rfl ?_
            refine d_no rfl rfl rfl rfl h16 rfl ?_
            refine d_no rfl rfl rfl rfl h16 rfl ?_
            refine d_no rfl rfl rfl rfl h16 rfl ?_
            refine d_no rfl rfl rfl rfl h16 rfl ?_
            refine d_no rfl rfl rfl rfl h16 rfl ?_
            refine d_no rfl rfl rfl rfl h16 rfl ?_
            refine d_no rfl rfl rfl rfl h16 rfl ?_
            refine d_no rfl rfl rfl rfl h16 rfl ?_
            refine d_no rfl rfl rfl rfl h16 rfl ?_
            refine d_no rfl rfl rfl rfl h16 rfl ?_
            refine d_no rfl rfl rfl rfl h16 rfl ?_
            refine d_no rfl rfl rfl rfl h16 rfl ?_
            refine d_no rfl rfl rfl rfl h16 rfl ?_
            refine d_no rfl rfl rfl rfl h16 rfl ?_
            refine d_no rfl rfl rfl rfl h16 rfl ?_
            refine d_yes rfl (q_pick_c (t := false) rfl h16 (v_raw rfl)) rfl rfl rfl h15 rfl rfl ?_
            refine d_q rfl (q_pick_c (t := false) rfl h15 (v_raw rfl)) rfl rfl rfl ?_
            refine d_nil ?_
            refine s_else rfl rfl ?_
            refine s_skip ?_
            refine s_seq ?_
            refine s_draw rfl ?_
            refine d_q rfl (q_mv (mvQ)) rfl rfl rfl ?_
            refine d_q rfl (q_mv (mvQ)) rfl rfl rfl ?_
            refine d_q rfl (q_nil rfl) rfl rfl rfl ?_
            refine d_q rfl (q_fr fo34_4 rfl) rfl rfl rfl ?_
            refine d_q rfl (q_ldmw ag60 sz60 rfl mmQ rfl rfl) rfl rfl rfl ?_
            refine d_q rfl (q_bs slt30 (pc (v_agg rfl) pn) rfl (Els.cons rfl rfl Els.nil) (by decide)) rfl rfl rfl ?_
            refine d_s rfl ?_
            refine o_take rfl rfl mmQ rfl ag30 sz30 ?_
            refine o_nil ⟨(by simp [Mem.upd, *]), ?_⟩
            refine d_qs rfl (q_app slt30 rfl rfl rfl rfl elsR (by first | exact elsR | exact Els.cons rfl rfl Els.nil) (by simp; omega)) rfl rfl rfl rfl ?_
            refine d_q rfl (q_nil rfl) rfl rfl rfl ?_
            refine d_q rfl (q_fr fo34_4 rfl) rfl rfl rfl ?_
            refine d_s rfl ?_
            refine o_store_own rfl mmQ rfl sz30 (Nat.le_of_ble_eq_true rfl) ?_
            refine o_nil ⟨(by simp [Mem.upd, *]), ?_⟩
            refine d_nil ?_
            refine s_region ?_
            refine o_q (q_mv (v_raw rfl)) rfl rfl rfl ?_
            refine o_q (q_add rfl rfl (wrap64 (by omega) (by omega))) rfl rfl rfl ?_
            refine o_q (q_as (v_raw rfl)) rfl rfl rfl ?_
            refine o_nil ?_
            refine s_blk_normal ?_
            refine s_inv ?_
            exact ⟨e, by omega, _, _, q + 5, e, (l[q].n : Int) + 1, acc ++ [(recO l[q] l[q + 1] l[q + 2] l[q + 3] l[q + 4])], _, _, St.mkT (kp (kp (kp rfl rfl) rfl) rfl).symm, Mem.upd_self _ _ _, (by show AVal.sl _ true = _; rw [List.map_append]; rfl), hr.trans (recs_yes' (by omega) hok), by omega, (by rw [List.length_append, List.length_singleton]; omega), (by rw [lastO_snoc]; rfl), by omega, leN (leN hle4 m1) m1, rfl⟩
          ·have k15 := h15; try simp only [decide_eq_true_eq, decide_eq_false_iff_not, Bool.not_eq_true', Bool.not_eq_false', Bool.not_true, Bool.not_false, List.length_map, Decidable.not_not] at k15
           have hno : okR l[2].n lo l[q] l[q + 1] l[q + 2] l[q + 3] l[q + 4] = false := okR_no fun hh => by
            have h2 : (l[2].n : Int) ≤ l[q].n := of_decide_eq_true h15
            have h3 := hh.1
            omega
           refine d_no rfl rfl rfl rfl h15 rfl ?_
           refine d_no rfl rfl rfl rfl h15 rfl ?_
           refine d_no rfl rfl rfl rfl h15 rfl ?_
           refine d_no rfl rfl rfl rfl h15 rfl ?_
           refine d_no rfl rfl rfl rfl h15 rfl ?_
           refine d_no rfl rfl rfl rfl h15 rfl ?_
           refine d_no rfl rfl rfl rfl h15 rfl ?_
           refine d_skip rfl rfl rfl rfl rfl ?_
           refine d_skip rfl rfl rfl rfl rfl ?_
           refine d_skip rfl rfl rfl rfl rfl ?_
           refine d_skip rfl rfl rfl rfl rfl ?_
           refine d_skip rfl rfl rfl rfl rfl ?_
           refine d_skip rfl rfl rfl rfl rfl ?_
           refine d_skip rfl rfl rfl rfl rfl ?_
           refine d_skip rfl rfl rfl rfl rfl ?_
           refine d_skip rfl rfl rfl rfl rfl ?_
           refine d_skip rfl rfl rfl rfl rfl ?_
           refine d_skip rfl rfl rfl rfl rfl ?_
           refine d_skip rfl rfl rfl rfl rfl ?_
           refine d_skip rfl rfl rfl rfl rfl ?_
           refine d_skip rfl rfl rfl rfl rfl ?_
           refine d_skip rfl rfl rfl rfl rfl ?_
           refine d_skip rfl rfl rfl rfl rfl ?_
           refine d_no rfl rfl rfl rfl h15 rfl ?_
           refine d_q rfl (q_pick_c (t := true) rfl h15 (v_raw rfl)) rfl rfl rfl ?_
           refine d_nil ?_
           refine s_then rfl rfl ?_
           refine s_seq ?_
           refine s_region ?_
           refine o_q (q_as (mvQ)) rfl rfl rfl ?_
           refine o_q (q_as (v_raw rfl)) rfl rfl rfl ?_
           refine o_nil ?_
           refine s_ret ?_
           refine s_code_ret ?_
           refine s_blk_ret ?_
           refine s_inv_ret ?_
           refine s_blk_ret ?_
           refine s_code_ret ?_
           refine s_end ?_
           exact ret_many (.inl rfl) rfl (rl_t rfl (rl_t rfl (rl_nil))) rfl (⟨none, false, rfl, hle4, .inl ⟨rfl, (by rw [hyes, hp2, Option.bind_some, hr, recs_no' (by omega) hno]; rfl)⟩⟩)
         ·have k14 := h14; try simp only [decide_eq_true_eq, decide_eq_false_iff_not, Bool.not_eq_true', Bool.not_eq_false', Bool.not_true, Bool.not_false, List.length_map, Decidable.not_not] at k14
          have hno : okR l[2].n lo l[q] l[q + 1] l[q + 2] l[q + 3] l[q + 4] = false := okR_no fun hh => by
           have h2 : (l[q].n : Int) < l[1].n := of_decide_eq_true h14
           have h3 := hh.2.2.2
           omega
          refine d_no rfl rfl rfl rfl h14 rfl ?_
          refine d_no rfl rfl rfl rfl h14 rfl ?_
          refine d_no rfl rfl rfl rfl h14 rfl ?_
          refine d_no rfl rfl rfl rfl h14 rfl ?_
          refine d_no rfl rfl rfl rfl h14 rfl ?_
          refine d_no rfl rfl rfl rfl h14 rfl ?_
          refine d_no rfl rfl rfl rfl h14 rfl ?_
          refine d_q rfl (q_pick_c (t := true) rfl h14 (v_raw rfl)) rfl rfl rfl ?_
          refine d_q rfl (q_mv (v_raw rfl)) rfl rfl rfl ?_
          refine d_no rfl rfl rfl rfl rfl rfl ?_
          refine d_no rfl rfl rfl rfl rfl rfl ?_
          refine d_no rfl rfl rfl rfl rfl rfl ?_
          refine d_no rfl rfl rfl rfl rfl rfl ?_
          refine d_no rfl rfl rfl rfl rfl rfl ?_
          refine d_no rfl rfl rfl rfl rfl rfl ?_
          refine d_no rfl rfl rfl rfl rfl rfl ?_
          refine d_skip rfl rfl rfl rfl rfl ?_
          refine d_skip rfl rfl rfl rfl rfl ?_
          refine d_skip rfl rfl rfl rfl rfl ?_
          refine d_skip rfl rfl rfl rfl rfl ?_
          refine d_skip rfl rfl rfl rfl rfl ?_
          refine d_skip rfl rfl rfl rfl rfl ?_
          refine d_skip rfl rfl rfl rfl rfl ?_
          refine d_skip rfl rfl rfl rfl rfl ?_
          refine d_skip rfl rfl rfl rfl rfl ?_
          refine d_skip rfl rfl rfl rfl rfl ?_
          refine d_skip rfl rfl rfl rfl rfl ?_
          refine d_skip rfl rfl rfl rfl rfl ?_
          refine d_skip rfl rfl rfl rfl rfl ?_
          refine d_skip rfl rfl rfl rfl rfl ?_
          refine d_skip rfl rfl rfl rfl rfl ?_
          refine d_skip rfl rfl rfl rfl rfl ?_
          refine d_no rfl rfl rfl rfl rfl rfl ?_
          refine d_q rfl (q_pick_c (t := true) rfl rfl (v_raw rfl)) rfl rfl rfl ?_
          refine d_nil ?_
          refine s_then rfl rfl ?_
          refine s_seq ?_
          refine s_region ?_
          refine o_q (q_as (mvQ)) rfl rfl rfl ?_
          refine o_q (q_as (v_raw rfl)) rfl rfl rfl ?_
          refine o_nil ?_
          refine s_ret ?_
          refine s_code_ret ?_
          refine s_blk_ret ?_
          refine s_inv_ret ?_
          refine s_blk_ret ?_
          refine s_code_ret ?_
          refine s_end ?_
          exact ret_many (.inl rfl) rfl (rl_t rfl (rl_t rfl (rl_nil))) rfl (⟨none, false, rfl, hle4, .inl ⟨rfl, (by rw [hyes, hp2, Option.bind_some, hr, recs_no' (by omega) hno]; rfl)⟩⟩)
        ·have k13 := h13; try simp only [decide_eq_true_eq, decide_eq_false_iff_not, Bool.not_eq_true', Bool.not_eq_false', Bool.not_true, Bool.not_false, List.length_map, Decidable.not_not] at k13
         have hno : okR l[2].n lo l[q] l[q + 1] l[q + 2] l[q + 3] l[q + 4] = false := okR_no fun hh => by
          have h3 := hh.2.2.1
          rw [h3] at h13
          cases h13
         refine d_no rfl rfl rfl rfl h13 rfl ?_
         refine d_no rfl rfl rfl rfl h13 rfl ?_
         refine d_no rfl rfl rfl rfl h13 rfl ?_
         refine d_no rfl rfl rfl rfl h13 rfl ?_
         refine d_no rfl rfl rfl rfl h13 rfl ?_
         refine d_no rfl rfl rfl rfl h13 rfl ?_
         refine d_no rfl rfl rfl rfl h13 rfl ?_
         refine d_q rfl (q_pick_c (t := true) rfl h13 (v_raw rfl)) rfl rfl rfl ?_
         refine d_q rfl (q_mv (v_raw rfl)) rfl rfl rfl ?_
         refine d_no rfl rfl rfl rfl rfl rfl ?_
         refine d_no rfl rfl rfl rfl rfl rfl ?_
         refine d_no rfl rfl rfl rfl rfl rfl ?_
         refine d_no rfl rfl rfl rfl rfl rfl ?_
         refine d_no rfl rfl rfl rfl rfl rfl ?_
         refine d_no rfl rfl rfl rfl rfl rfl ?_
         refine d_no rfl rfl rfl rfl rfl rfl ?_
         refine d_q rfl (q_pick_c (t := true) rfl rfl (v_raw rfl)) rfl rfl rfl ?_
         refine d_q rfl (q_mv (v_raw rfl)) rfl rfl rfl ?_
         refine d_no rfl rfl rfl rfl rfl rfl ?_
         refine d_no rfl rfl rfl rfl rfl rfl ?_
         refine d_no rfl rfl rfl rfl rfl rfl ?_
         refine d_no rfl rfl rfl rfl rfl rfl ?_
         refine d_no rfl rfl rfl rfl rfl rfl ?_
         refine d_no rfl rfl rfl rfl rfl rfl ?_
         refine d_no rfl rfl rfl rfl rfl rfl ?_
         refine d_skip rfl rfl rfl rfl rfl ?_
         refine d_skip rfl rfl rfl rfl rfl ?_
         refine d_skip rfl rfl rfl rfl rfl ?_
         refine d_skip rfl rfl rfl rfl rfl ?_
         refine d_skip rfl rfl rfl rfl rfl ?_
         refine d_skip rfl rfl rfl rfl rfl ?_
         refine d_skip rfl rfl rfl rfl rfl ?_
         refine d_skip rfl rfl rfl rfl rfl ?_
         refine d_skip rfl rfl rfl rfl rfl ?_
         refine d_skip rfl rfl rfl rfl rfl ?_
         refine d_skip rfl rfl rfl rfl rfl ?_
         refine d_skip rfl rfl rfl rfl rfl ?_
         refine d_skip rfl rfl rfl rfl rfl ?_
         refine d_skip rfl rfl rfl rfl rfl ?_
         refine d_skip rfl rfl rfl rfl rfl ?_
         refine d_skip rfl rfl rfl rfl rfl ?_
         refine d_no rfl rfl rfl rfl rfl rfl ?_
         refine d_q rfl (q_pick_c (t := true) rfl rfl (v_raw rfl)) rfl rfl rfl ?_
         refine d_nil ?_
         refine s_then rfl rfl ?_
         refine s_seq ?_
         refine s_region ?_
         refine o_q (q_as (mvQ)) rfl rfl rfl ?_
         refine o_q (q_as (v_raw rfl)) rfl rfl rfl ?_
         refine o_nil ?_
         refine s_ret ?_
         refine s_code_ret ?_
         refine s_blk_ret ?_
         refine s_inv_ret ?_
         refine s_blk_ret ?_
         refine s_code_ret ?_
         refine s_end ?_
         exact ret_many (.inl rfl) rfl (rl_t rfl (rl_t rfl (rl_nil))) rfl (⟨none, false, rfl, hle4, .inl ⟨rfl, (by rw [hyes, hp2, Option.bind_some, hr, recs_no' (by omega) hno]; rfl)⟩⟩)
      ·have k11 := h11; try simp only [decide_eq_true_eq, decide_eq_false_iff_not, Bool.not_eq_true', Bool.not_eq_false', Bool.not_true, Bool.not_false, List.length_map, Decidable.not_not] at k11
       have hno : okR l[2].n lo l[q] l[q + 1] l[q + 2] l[q + 3] l[q + 4] = false := okR_no fun hh => by
        have h2 := of_decide_eq_true h11
        have h3 := hh.1
        omega
       refine o_no rfl rfl rfl rfl h11 ?_
       refine o_no rfl rfl rfl rfl h11 ?_
       refine o_no rfl rfl rfl rfl h11 ?_
       refine o_no rfl rfl rfl rfl h11 ?_
       refine o_no rfl rfl rfl rfl h11 ?_
       refine o_no rfl rfl rfl rfl h11 ?_
       refine o_no rfl rfl rfl rfl h11 ?_
       refine o_q (q_pick_c (t := true) rfl h11 (v_raw rfl)) rfl rfl rfl ?_
       refine o_nil ?_
       refine s_then rfl rfl ?_
       refine s_seq ?_
       refine s_region ?_
       refine o_q (q_as (mvQ)) rfl rfl rfl ?_
       refine o_q (q_as (v_raw rfl)) rfl rfl rfl ?_
       refine o_nil ?_
       refine s_ret ?_
       refine s_code_ret ?_
       refine s_blk_ret ?_
       refine s_inv_ret ?_
       refine s_blk_ret ?_
       refine s_code_ret ?_
       refine s_end ?_
       exact ret_many (.inl rfl) rfl (rl_t rfl (rl_t rfl (rl_nil))) rfl (⟨none, false, rfl, hle, .inl ⟨rfl, (by rw [hyes, hp2, Option.bind_some, hr, recs_no' (by omega) hno]; rfl)⟩⟩)
     ·have k10 := h10; try simp only [decide_eq_true_eq, decide_eq_false_iff_not, Bool.not_eq_true', Bool.not_eq_false', Bool.not_true, Bool.not_false, List.length_map, Decidable.not_not] at k10
      obtain rfl : e = 0 := by omega
      rw [List.drop_of_length_le (show l.length ≤ q by omega), recsT] at hr
      refine s_exit ?_
      refine s_code_exit ?_
      refine s_inv_exit ?_
      refine s_blk_here ?_
      refine s_seq ?_
      refine s_region ?_
      refine o_q (q_mv (mvQ)) rfl rfl rfl ?_
      refine o_q (q_as (mvQ)) rfl rfl rfl ?_
      refine o_q (q_as (v_raw rfl)) rfl rfl rfl ?_
      refine o_nil ?_
      refine s_ret ?_
      refine s_end ?_
      exact ret_many (.inl rfl) rfl (rl_t rfl (rl_t rfl (rl_nil))) rfl (⟨_, true, rfl, hle, .inr ⟨rfl, ⟨l[0].s, l[1].n, l[2].n, kv, acc⟩, (by rw [hyes, hp2, Option.bind_some, hr]; rfl), B1, V, W, m1, rfl, hb, hW⟩⟩)
  ·have k2 := h2; try simp only [decide_eq_true_eq, decide_eq_false_iff_not, Bool.not_eq_true', Bool.not_eq_false', Bool.not_true, Bool.not_false, List.length_map, Decidable.not_not] at k2
   have hno : okH l[0] l[1] l[2] = false := okH_b (by have := of_decide_eq_true h2; omega)
   refine d_no rfl rfl rfl rfl h2 rfl ?_
   refine d_no rfl rfl rfl rfl h2 rfl ?_
   refine d_no rfl rfl rfl rfl h2 rfl ?_
   refine d_no rfl rfl rfl rfl h2 rfl ?_
   refine d_no rfl rfl rfl rfl h2 rfl ?_
   refine d_q rfl (q_pick_c (t := true) rfl h2 (v_raw rfl)) rfl rfl rfl ?_
   refine d_nil ?_
   refine s_then rfl rfl ?_
   refine s_seq ?_
   refine s_region ?_
   refine o_q (q_as (mvQ)) rfl rfl rfl ?_
   refine o_q (q_as (v_raw rfl)) rfl rfl rfl ?_
   refine o_nil ?_
   refine s_ret ?_
   refine s_code_ret ?_
   refine s_end ?_
   exact ret_many (.inl rfl) rfl (rl_t rfl (rl_t rfl (rl_nil))) rfl (⟨none, false, rfl, hle, .inl ⟨rfl, loadT_no (by omega) hno⟩⟩)
 ·have k1 := h1; try simp only [decide_eq_true_eq, decide_eq_false_iff_not, Bool.not_eq_true', Bool.not_eq_false', Bool.not_true, Bool.not_false, List.length_map, Decidable.not_not] at k1
  have hno : okH l[0] l[1] l[2] = false := okH_w (by simpa using h1)
  refine d_no rfl rfl rfl rfl h1 rfl ?_
  refine d_no rfl rfl rfl rfl h1 rfl ?_
  refine d_no rfl rfl rfl rfl h1 rfl ?_
  refine d_no rfl rfl rfl rfl h1 rfl ?_
  refine d_no rfl rfl rfl rfl h1 rfl ?_
  refine d_no rfl rfl rfl rfl h1 rfl ?_
  refine d_no rfl rfl rfl rfl h1 rfl ?_
  refine d_no rfl rfl rfl rfl h1 rfl ?_
  refine d_no rfl rfl rfl rfl h1 rfl ?_
  refine d_q rfl (q_pick_c (t := true) rfl h1 (v_raw rfl)) rfl rfl rfl ?_
  refine d_q rfl (q_mv (v_raw rfl)) rfl rfl rfl ?_
  refine d_no rfl rfl rfl rfl rfl rfl ?_
  refine d_no rfl rfl rfl rfl rfl rfl ?_
  refine d_no rfl rfl rfl rfl rfl rfl ?_
  refine d_no rfl rfl rfl rfl rfl rfl ?_
  refine d_no rfl rfl rfl rfl rfl rfl ?_
  refine d_q rfl (q_pick_c (t := true) rfl rfl (v_raw rfl)) rfl rfl rfl ?_
  refine d_nil ?_
  refine s_then rfl rfl ?_
  refine s_seq ?_
  refine s_region ?_
  refine o_q (q_as (mvQ)) rfl rfl rfl ?_
  refine o_q (q_as (v_raw rfl)) rfl rfl rfl ?_
  refine o_nil ?_
  refine s_ret ?_
  refine s_code_ret ?_
  refine s_end ?_
  exact ret_many (.inl rfl) rfl (rl_t rfl (rl_t rfl (rl_nil))) rfl (⟨none, false, rfl, hle, .inl ⟨rfl, loadT_no (by omega) hno⟩⟩)

def tk10 : Nat → Nat → Option Nat := fun _ _ => none
def pl10 : Nat → List PStep
 | 3 => [.q 0, .q 1, .q 2, .q 3, .q 4, .q 5, .q 6, .q 7, .q 8, .q 9, .q 10, .q 11, .q 12, .q 13, .q 14, .q 15, .q 16, .q 17, .q 18]
 | _ => []
theorem cb10 : Tryd.f10.body.map (codeB Tryd.prog Tryd.f10.ntmps tk10 pl10) = some true := by kernel_rfl
theorem goes10 : goesB Tryd.prog 10 = true := by kernel_rfl

theorem kinds_tl : ∀ (n : Nat) (a b : List Int) (rest : List UInt8), kindsF (tl3 n ++ rest) false a b = kindsF rest false (a ++ (List.replicate n [(4 : Int), 3, 3]).flatten) b
 | 0, a, b, rest => by
  rw [show (List.replicate 0 [(4 : Int), 3, 3]).flatten = [] from rfl, List.append_nil]; rfl
 | n + 1, a, b, rest => by
  have e : tl3 (n + 1) ++ rest = 116 :: 108 :: 108 :: (tl3 n ++ rest) := rfl
  have s4 : ∀ (l : List UInt8) (a b : List Int), kindsF (116 :: l) false a b = kindsF l false (a ++ [4]) b := fun l a b => by
   rw [kindsF, if_neg (by decide), kB116, if_neg (by decide), if_neg (by decide)]
  have s3 : ∀ (l : List UInt8) (a b : List Int), kindsF (108 :: l) false a b = kindsF l false (a ++ [3]) b := fun l a b => by
   rw [kindsF, if_neg (by decide), kB108, if_neg (by decide), if_neg (by decide)]
  rw [e, s4, s3, s3, kinds_tl n, List.replicate_succ, List.flatten_cons]
  simp only [List.append_assoc, List.cons_append, List.nil_append]
theorem kinds_shN (n : Nat) : kindsF (shN n).data.toList false [] [] = ((aN n, bN), true) := by
 rw [shN_list, List.append_assoc]
 have h1 : ∀ rest, kindsF ([116, 108, 108, 108] ++ rest) false [] [] = kindsF rest false [4, 3, 3, 3] [] := fun rest => by
  show kindsF (116 :: 108 :: 108 :: 108 :: rest) false [] [] = _
  rw [kindsF, if_neg (by decide), kB116, if_neg (by decide), if_neg (by decide), kindsF, if_neg (by decide), kB108, if_neg (by decide), if_neg (by decide), kindsF, if_neg (by decide), kB108, if_neg (by decide), if_neg (by decide), kindsF, if_neg (by decide), kB108, if_neg (by decide), if_neg (by decide)]
  rfl
 rw [h1, kinds_tl]
 show kindsF [42, 108, 116, 108, 116, 116] false (aN n) [] = _
 rw [kindsF, if_pos (by decide), kindsF, if_neg (by decide), kB108, if_neg (by decide), if_pos rfl, kindsF, if_neg (by decide), kB116, if_neg (by decide), if_pos rfl, kindsF, if_neg (by decide), kB108, if_neg (by decide), if_pos rfl, kindsF, if_neg (by decide), kB116, if_neg (by decide), if_pos rfl, kindsF, if_neg (by decide), kB116, if_neg (by decide), if_pos rfl, kindsF]
 rfl
def tlll : ByteArray := { data := #[116, 108, 108, 108] }
theorem kinds_tlll : kindsF tlll.data.toList false [] [] = (([4, 3, 3, 3], []), true) := by
 show kindsF [116, 108, 108, 108] false [] [] = _
 rw [kindsF, if_neg (by decide), kB116, if_neg (by decide), if_neg (by decide), kindsF, if_neg (by decide), kB108, if_neg (by decide), if_neg (by decide), kindsF, if_neg (by decide), kB108, if_neg (by decide), if_neg (by decide), kindsF, if_neg (by decide), kB108, if_neg (by decide), if_neg (by decide), kindsF]
 rfl
theorem dec4 (s : ByteArray) (M : Mem) (hs : s.size < 2 ^ 62) (h1 : sizeN s ≤ 20) (h2 : 28 + sizeN s ≤ s.size) : SoundCall Tryd.prog 30 [str tlll, str (s.extract 0 (28 + sizeN s))] M fun r M' => (∃ o, r = .tup [.sl ((four s).map encIt) o, int 0]) ∧ M.le M' := by
 have e : rdecF tlll (s.extract 0 (28 + sizeN s)) = (four s, 0) := by
  unfold rdecF
  rw [kinds_tlll, if_pos rfl]
  exact four_ext h1 h2
 have := snd30 tlll (s.extract 0 (28 + sizeN s)) M (by rw [ByteArray.size_extract]; omega) (by decide)
 rwa [e] at this
theorem decN (n : Nat) (s : ByteArray) (M : Mem) (hs : s.size < 2 ^ 62) (hn : n ≤ 1000) : SoundCall Tryd.prog 30 [str (shN n), str s] M fun r M' => (∃ o, r = .tup [.sl ((decF (shN n) s).1.map encIt) o, int (decF (shN n) s).2]) ∧ M.le M' := by
 have e : rdecF (shN n) s = decF (shN n) s := by
  unfold rdecF
  rw [kinds_shN, if_pos rfl]
  exact rdec_decF n s
 have := snd30 (shN n) s M hs (by rw [shN_size]; omega)
 rwa [e] at this
theorem size4 {s : ByteArray} (h : 4 ≤ s.size) : sizeN s = (s.data[0]'(by have : s.data.size = s.size := rfl; omega)).toNat * 2 ^ 24 + (s.data[1]'(by have : s.data.size = s.size := rfl; omega)).toNat * 2 ^ 16 + (s.data[2]'(by have : s.data.size = s.size := rfl; omega)).toNat * 2 ^ 8 + (s.data[3]'(by have : s.data.size = s.size := rfl; omega)).toNat := by
 unfold sizeN
 rw [be_take (show 3 < s.size by omega), be_take (show 2 < s.size by omega), be_take (show 1 < s.size by omega), be_take (show 0 < s.size by omega)]
 have : beN (s.data.toList.take 0) = 0 := rfl
 rw [this]
 omega
theorem dec_ss {n : Nat} {s : ByteArray} (h : (decF (shN n) s).2 = 0) : ∀ x ∈ (decF (shN n) s).1, x.s.size < 2 ^ 63 := fun x hx => by
 obtain ⟨i, hi, e⟩ := List.getElem_of_mem hx
 have := (decF_kinds h i x (by rw [List.getElem?_eq_getElem hi, e])).2.2.2.2
 omega
set_option maxHeartbeats 4000000 in
set_option maxRecDepth 20000 in
theorem snd10 (s : ByteArray) (M : Mem) (hs : s.size < 2 ^ 62) : SoundCall Tryd.prog 10 [str s] M fun r M' => ∃ p, r = .raw (.pointer p) ∧ M.le M' ∧ ((p = none ∧ docLoad s = none) ∨ ∃ x, docLoad s = some x ∧ ∃ t V W, M t = none ∧ p = some ⟨t, 0, none⟩ ∧ M' t = some (.cells [str x.name, int x.low, int x.en, V, W]) ∧ nilOwn W = .sl (x.recs.map enc) true) := by
 have hf4 : (four s).length = 4 := rfl
 have hml : ((four s).map encIt).length = 4 := rfl
 have hd3 : (four s).getD 3 zI = (four s)[3] := rfl
 have hle := Mem.le_refl M
 refine SoundCall.go tk10 pl10 mixed Tryd.func10 cb10 rfl (Nat.le_of_ble_eq_true rfl) ?_
 refine s_seq ?_
 refine s_region ?_
 refine o_q (q_as (mvQ)) rfl rfl rfl ?_
 refine o_nil ?_
 refine s_seq ?_
 refine s_seq ?_
 refine s_region ?_
 refine o_q (q_mv (v_raw rfl)) rfl rfl rfl ?_
 refine o_q (q_lens rfl und9 rfl) rfl rfl rfl ?_
 refine o_q (q_lss rfl rfl) rfl rfl rfl ?_
 refine o_nil ?_
 refine s_cond rfl (fun h1 => ?_) (fun h1 => ?_)
 ·have k1 := h1; try simp only [decide_eq_true_eq, decide_eq_false_iff_not, Bool.not_eq_true', Bool.not_eq_false', Bool.not_true, Bool.not_false, List.length_map, Decidable.not_not] at k1
  have hdoc : docLoad s = none := by
   unfold docLoad
   rw [if_pos (by omega)]
  refine s_seq ?_
  refine s_region ?_
  refine o_q (q_as (mvQ)) rfl rfl rfl ?_
  refine o_nil ?_
  refine s_ret ?_
  refine s_code_ret ?_
  refine s_end ?_
  exact ⟨none, rfl, hle, .inl ⟨rfl, hdoc⟩⟩
 ·have k1 := h1; try simp only [decide_eq_true_eq, decide_eq_false_iff_not, Bool.not_eq_true', Bool.not_eq_false', Bool.not_true, Bool.not_false, List.length_map, Decidable.not_not] at k1
  have h4s : 4 ≤ s.size := by omega
  have hds : s.data.size = s.size := rfl
  have hz4 := size4 h4s
  have hc0 := (s.data[0]).toNat_lt
  have hc1 := (s.data[1]).toNat_lt
  have hc2 := (s.data[2]).toNat_lt
  have hc3 := (s.data[3]).toNat_lt
  refine s_skip ?_
  refine s_seq ?_
  refine s_cut (fun S => ∃ T, S = ⟨setT (setT T 0 (str s)) 3 (int (sizeN s : Nat)), M⟩) ?_ ?_
  ·skip
   refine s_draw rfl ?_
   refine d_q rfl (q_mv (v_raw rfl)) rfl rfl rfl ?_
   refine d_q rfl (q_stri (n := 0) und9 rfl rfl rfl (by omega)) rfl rfl rfl ?_
   refine d_q rfl (q_i2i und5 und3 rfl (wrap64 (by omega) (by omega))) rfl rfl rfl ?_
   refine d_q rfl (q_shli (m := (s.data[0]).toNat) (n := 24) rfl rfl (by decide) (by omega)) rfl rfl rfl ?_
   refine d_q rfl (q_mv (v_raw rfl)) rfl rfl rfl ?_
   refine d_q rfl (q_stri (n := 1) und9 rfl rfl rfl (by omega)) rfl rfl rfl ?_
   refine d_q rfl (q_i2i und5 und3 rfl (wrap64 (by omega) (by omega))) rfl rfl rfl ?_
   refine d_q rfl (q_shli (m := (s.data[1]).toNat) (n := 16) rfl rfl (by decide) (by omega)) rfl rfl rfl ?_
   refine d_q rfl (q_add rfl rfl (wrap64 (by omega) (by omega))) rfl rfl rfl ?_
   refine d_q rfl (q_mv (v_raw rfl)) rfl rfl rfl ?_
   refine d_q rfl (q_stri (n := 2) und9 rfl rfl rfl (by omega)) rfl rfl rfl ?_
   refine d_q rfl (q_i2i und5 und3 rfl (wrap64 (by omega) (by omega))) rfl rfl rfl ?_
   refine d_q rfl (q_shli (m := (s.data[2]).toNat) (n := 8) rfl rfl (by decide) (by omega)) rfl rfl rfl ?_
   refine d_q rfl (q_add rfl rfl (wrap64 (by omega) (by omega))) rfl rfl rfl ?_
   refine d_q rfl (q_mv (v_raw rfl)) rfl rfl rfl ?_
   refine d_q rfl (q_stri (n := 3) und9 rfl rfl rfl (by omega)) rfl rfl rfl ?_
   refine d_q rfl (q_i2i und5 und3 rfl (wrap64 (by omega) (by omega))) rfl rfl rfl ?_
   refine d_q rfl (q_add rfl rfl (wrap64 (by omega) (by omega))) rfl rfl rfl ?_
   refine d_q rfl (q_as (v_raw rfl)) rfl rfl rfl ?_
   refine d_nil ?_
   refine s_inv ?_
   exact ⟨_, St.mkT (kp (kp rfl rfl) (congrArg int (by omega))).symm⟩
  rintro S ⟨T, rfl⟩
  refine s_seq ?_
  refine s_seq ?_
  refine s_region ?_
  refine o_q (q_mv (v_raw rfl)) rfl rfl rfl ?_
  refine o_q (q_gtr rfl rfl) rfl rfl rfl ?_
  refine o_q (q_mv (v_raw rfl)) rfl rfl rfl ?_
  refine o_g (G := true) rfl rfl rfl rfl rfl (fun hG hc => (q_mv (v_raw rfl))) ?_
  refine o_g (G := true) rfl rfl rfl rfl rfl (fun hG hc => (q_lens rfl und9 (gv_on (gv_and hG hc) rfl))) ?_
  refine o_g (G := true) rfl rfl rfl rfl rfl (fun hG hc => (q_mv (v_raw rfl))) ?_
  refine o_g (G := true) rfl rfl rfl rfl rfl (fun hG hc => (q_add rfl (gv_on (gv_and hG hc) rfl) (wrap64 (by omega) (by omega)))) ?_
  refine o_g (G := true) rfl rfl rfl rfl rfl (fun hG hc => (q_add (gv_on (gv_and hG hc) rfl) rfl (wrap64 (by omega) (by omega)))) ?_
  refine o_g (G := true) rfl rfl rfl rfl rfl (fun hG hc => (q_lss (gv_on (gv_and hG hc) rfl) (gv_on (gv_and hG hc) rfl))) ?_
  refine o_q (q_por (c := _) (b := _) rfl rfl rfl) rfl rfl rfl ?_
  refine o_nil ?_
  refine s_cond rfl (fun h2 => ?_) (fun h2 => ?_)
  ·have k2 := h2; try simp only [decide_eq_true_eq, decide_eq_false_iff_not, Bool.not_eq_true', Bool.not_eq_false', Bool.not_true, Bool.not_false, List.length_map, Decidable.not_not] at k2
   have hdoc : docLoad s = none := by
    unfold docLoad
    simp only [Bool.or_eq_true, decide_eq_true_eq] at h2
    rw [if_neg (by omega), if_pos (by omega)]
   refine s_seq ?_
   refine s_region ?_
   refine o_q (q_as (mvQ)) rfl rfl rfl ?_
   refine o_nil ?_
   refine s_ret ?_
   refine s_code_ret ?_
   refine s_end ?_
   exact ⟨none, rfl, hle, .inl ⟨rfl, hdoc⟩⟩
  ·have k2 := h2; try simp only [decide_eq_true_eq, decide_eq_false_iff_not, Bool.not_eq_true', Bool.not_eq_false', Bool.not_true, Bool.not_false, List.length_map, Decidable.not_not] at k2
   have hz1 : sizeN s ≤ 20 ∧ 28 + sizeN s ≤ s.size := by
    simp only [Bool.or_eq_false_iff, decide_eq_false_iff_not] at h2
    omega
   refine s_skip ?_
   refine s_seq ?_
   refine s_region ?_
   refine o_q (q_mv (v_raw rfl)) rfl rfl rfl ?_
   refine o_q (q_mv (v_raw rfl)) rfl rfl rfl ?_
   refine o_q (q_addn (m := 4) (n := sizeN s) (r := 4 + sizeN s) rfl rfl rfl (by omega)) rfl rfl rfl ?_
   refine o_q (q_addn (m := 4 + sizeN s) (n := 24) (r := 28 + sizeN s) rfl rfl (by omega) (by omega)) rfl rfl rfl ?_
   refine o_q (q_slstr (n := 28 + sizeN s) und9 rfl rfl (by omega)) rfl rfl rfl ?_
   refine o_callx ((dec4 s _ hs hz1.1 hz1.2)) goes30 (ac (v_raw rfl) (ac (v_raw rfl) ac_nil)) rfl ?_
   rintro r M1 ⟨⟨o1, rfl⟩, hle1⟩
   refine o_q (q_mv (v_tup rfl)) rfl rfl rfl ?_
   refine o_q (q_ext rfl rfl (v_sl rfl)) rfl rfl rfl ?_
   refine o_q (q_ext rfl rfl (v_raw rfl)) rfl rfl rfl ?_
   refine o_q (q_as (v_sl rfl)) rfl rfl rfl ?_
   refine o_q (q_as (v_raw rfl)) rfl rfl rfl ?_
   refine o_nil ?_
   refine s_seq ?_
   refine s_seq ?_
   refine s_region ?_
   refine o_q (q_mv (v_raw rfl)) rfl rfl rfl ?_
   refine o_q (q_neq rfl rfl) rfl rfl rfl ?_
   refine o_q (q_mv (v_raw rfl)) rfl rfl rfl ?_
   refine o_g (G := true) rfl rfl rfl rfl rfl (fun hG hc => (q_mv (v_sl rfl))) ?_
   refine o_g (G := true) rfl rfl rfl rfl rfl (fun hG hc => (q_idx und69 sz74 (gv_on (gv_and hG hc) rfl) rfl (by omega) (gm 3 (by first | omega | simp)) rfl)) ?_
   refine o_g (G := true) rfl rfl rfl rfl rfl (fun hG hc => (q_f fo74_1 (gv_on (gv_and hG hc) rfl))) ?_
   refine o_g (G := true) rfl rfl rfl rfl rfl (fun hG hc => (q_ld ag72 sz72 (gv_on (gv_and hG hc) rfl) (gm 3 (by first | omega | simp)) rfl (v_raw rfl))) ?_
   refine o_g (G := true) rfl rfl rfl rfl rfl (fun hG hc => (q_gtr (gv_on (gv_and hG hc) rfl) rfl)) ?_
   refine o_q (q_por (c := _) (b := _) rfl rfl rfl) rfl rfl rfl ?_
   refine o_nil ?_
   refine s_cond rfl (fun h3 => ?_) (fun h3 => ?_)
   ·have k3 := h3; try simp only [decide_eq_true_eq, decide_eq_false_iff_not, Bool.not_eq_true', Bool.not_eq_false', Bool.not_true, Bool.not_false, List.length_map, Decidable.not_not] at k3
    have hN : 333 < (four s)[3].n := by
     rcases Bool.or_eq_true_iff.1 h3 with h | h
     ·cases h
     ·have := of_decide_eq_true h
      omega
    have hdoc : docLoad s = none := by
     unfold docLoad
     rw [if_neg (by omega), if_neg (by omega), hd3, if_pos hN]
    refine s_seq ?_
    refine s_region ?_
    refine o_q (q_as (mvQ)) rfl rfl rfl ?_
    refine o_nil ?_
    refine s_ret ?_
    refine s_code_ret ?_
    refine s_end ?_
    exact ⟨none, rfl, hle1, .inl ⟨rfl, hdoc⟩⟩
   ·have k3 := h3; try simp only [decide_eq_true_eq, decide_eq_false_iff_not, Bool.not_eq_true', Bool.not_eq_false', Bool.not_true, Bool.not_false, List.length_map, Decidable.not_not] at k3
    have hN : (four s)[3].n ≤ 333 := by
     simp only [Bool.or_eq_false_iff, decide_eq_false_iff_not] at h3
     omega
    have hdoc : docLoad s = if (decF (shN (four s)[3].n) s).2 ≠ 0 then none else loadT (decF (shN (four s)[3].n) s).1 (four s)[3].n := by
     unfold docLoad
     rw [if_neg (by omega), if_neg (by omega), hd3, if_neg (by omega)]
    refine s_skip ?_
    refine s_seq ?_
    refine s_region ?_
    refine o_q (q_mv (v_sl rfl)) rfl rfl rfl ?_
    refine o_q (q_idx und69 sz74 rfl rfl (by omega) (gm 3 (by first | omega | simp)) rfl) rfl rfl rfl ?_
    refine o_q (q_f fo74_1 rfl) rfl rfl rfl ?_
    refine o_q (q_ld ag72 sz72 rfl (gm 3 (by first | omega | simp)) rfl (v_raw rfl)) rfl rfl rfl ?_
    refine o_q (q_i2i und72 und3 rfl (wrap64 (by omega) (by omega))) rfl rfl rfl ?_
    refine o_q (q_as (v_raw rfl)) rfl rfl rfl ?_
    refine o_nil ?_
    refine s_seq ?_
    refine s_region ?_
    refine o_q (q_mv (v_raw rfl)) rfl rfl rfl ?_
    refine o_call ((snd31 (four s)[3].n _ (by omega))) goes31 (ac (v_raw rfl) (ac (v_raw rfl) ac_nil)) rfl ?_
    refine o_q (q_sadd rfl rfl (by rw [repB_size]; show 4 + 3 * _ ≤ 2 ^ 62; omega)) rfl rfl rfl ?_
    refine o_q (q_sadd rfl rfl (by rw [ByteArray.size_append, repB_size]; show 4 + 3 * _ + 6 ≤ 2 ^ 62; omega)) rfl rfl rfl ?_
    refine o_q (q_mv (v_raw rfl)) rfl rfl rfl ?_
    refine o_callx ((decN (four s)[3].n s _ hs (by omega))) goes30 (ac (v_raw rfl) (ac (v_raw rfl) ac_nil)) rfl ?_
    rintro r M2 ⟨⟨o2, rfl⟩, hle2⟩
    refine o_q (q_mv (v_tup rfl)) rfl rfl rfl ?_
    refine o_q (q_ext rfl rfl (v_sl rfl)) rfl rfl rfl ?_
    refine o_q (q_ext rfl rfl (v_raw rfl)) rfl rfl rfl ?_
    refine o_q (q_as (v_sl rfl)) rfl rfl rfl ?_
    refine o_q (q_as (v_raw rfl)) rfl rfl rfl ?_
    refine o_nil ?_
    refine s_seq ?_
    refine s_seq ?_
    refine s_region ?_
    refine o_q (q_mv (v_raw rfl)) rfl rfl rfl ?_
    refine o_q (q_neq rfl rfl) rfl rfl rfl ?_
    refine o_nil ?_
    refine s_cond rfl (fun h4 => ?_) (fun h4 => ?_)
    ·have k4 := h4; try simp only [decide_eq_true_eq, decide_eq_false_iff_not, Bool.not_eq_true', Bool.not_eq_false', Bool.not_true, Bool.not_false, List.length_map, Decidable.not_not] at k4
     have hbad : (decF (shN (four s)[3].n) s).2 ≠ 0 := by simpa using h4
     refine s_seq ?_
     refine s_region ?_
     refine o_q (q_as (mvQ)) rfl rfl rfl ?_
     refine o_nil ?_
     refine s_ret ?_
     refine s_code_ret ?_
     refine s_end ?_
     exact ⟨none, rfl, (fun c x h => hle2 c x (hle1 c x h)), .inl ⟨rfl, by rw [hdoc, if_pos hbad]⟩⟩
    ·have k4 := h4; try simp only [decide_eq_true_eq, decide_eq_false_iff_not, Bool.not_eq_true', Bool.not_eq_false', Bool.not_true, Bool.not_false, List.length_map, Decidable.not_not] at k4
     have hgood : (decF (shN (four s)[3].n) s).2 = 0 := by simpa using h4
     obtain ⟨j, hj⟩ := dec_len hgood
     refine s_skip ?_
     refine s_seq ?_
     refine s_region ?_
     refine o_q (q_mv (v_sl rfl)) rfl rfl rfl ?_
     refine o_q (q_mv (v_raw rfl)) rfl rfl rfl ?_
     refine o_callx ((snd32 (decF (shN (four s)[3].n) s).1 _ (four s)[3].n j _ hj (decF_1000 _ s) (dec_ss hgood))) goes32 (ac (v_sl rfl) (ac (v_raw rfl) ac_nil)) rfl ?_
     rintro r M3 ⟨p, b, rfl, hle3, hcase⟩
     have hl2 : M.le M2 := fun c x h => hle2 c x (hle1 c x h)
     have hl3 : M.le M3 := fun c x h => hle3 c x (hl2 c x h)
     refine o_q (q_mv (v_tup rfl)) rfl rfl rfl ?_
     refine o_q (q_ext rfl rfl (mvQ)) rfl rfl rfl ?_
     refine o_q (q_ext rfl rfl (v_raw rfl)) rfl rfl rfl ?_
     refine o_q (q_as (mvQ)) rfl rfl rfl ?_
     refine o_q (q_as (v_raw rfl)) rfl rfl rfl ?_
     refine o_nil ?_
     refine s_seq ?_
     refine s_seq ?_
     refine s_region ?_
     refine o_q (q_mv (v_raw rfl)) rfl rfl rfl ?_
     refine o_q (q_not rfl) rfl rfl rfl ?_
     refine o_nil ?_
     refine s_cond rfl (fun h5 => ?_) (fun h5 => ?_)
     ·have k5 := h5; try simp only [decide_eq_true_eq, decide_eq_false_iff_not, Bool.not_eq_true', Bool.not_eq_false', Bool.not_true, Bool.not_false, List.length_map, Decidable.not_not] at k5
      refine s_seq ?_
      refine s_region ?_
      refine o_q (q_as (mvQ)) rfl rfl rfl ?_
      refine o_nil ?_
      refine s_ret ?_
      refine s_code_ret ?_
      refine s_end ?_
      have hb0 : b = false := by simpa using h5
      rcases hcase with ⟨-, hno⟩ | ⟨h1, -⟩
      ·exact ⟨none, rfl, hl3, .inl ⟨rfl, by rw [hdoc, if_neg (fun h => h hgood), hno]⟩⟩
      ·rw [hb0] at h1; cases h1
     ·have k5 := h5; try simp only [decide_eq_true_eq, decide_eq_false_iff_not, Bool.not_eq_true', Bool.not_eq_false', Bool.not_true, Bool.not_false, List.length_map, Decidable.not_not] at k5
      refine s_skip ?_
      refine s_seq ?_
      refine s_region ?_
      refine o_q (q_mv (mvQ)) rfl rfl rfl ?_
      refine o_q (q_as (mvQ)) rfl rfl rfl ?_
      refine o_nil ?_
      refine s_ret ?_
      refine s_end ?_
      have hb0 : b = true := by simpa using h5
      rcases hcase with ⟨h1, -⟩ | ⟨-, x, hx, t, V, W, g1, g2, g3, g4⟩
      ·rw [hb0] at h1; cases h1
      ·exact ⟨_, rfl, hl3, .inr ⟨x, by rw [hdoc, if_neg (fun h => h hgood), hx], t, V, W, Mem.none_of_le hl2 g1, g2, g3, g4⟩⟩

end C17
