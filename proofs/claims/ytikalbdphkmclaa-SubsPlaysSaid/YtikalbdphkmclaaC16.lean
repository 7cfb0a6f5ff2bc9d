import Derived.Test.YtikalbdphkmclaaC15
/-! Chapter 16: subscriptions: what their functions compute; the laws of both chapters, walked. -/
open Go Go.Proofs Go.Am
set_option linter.unusedVariables false
set_option linter.unusedSimpArgs false
set_option autoImplicit false
namespace C15
theorem ag45 : aggT Try.prog 45 = some true := by kernel_rfl
theorem ag93 : aggT Try.prog 93 = some true := by kernel_rfl
theorem bz45 : (zeroT Try.prog 45).map (fun z => z.cells.toList.map AVal.raw) = some [.raw (.string { data := #[] }), .raw (.string { data := #[] }), .raw (.int .i64 0), .raw (.int .i64 0)] := by kernel_rfl
theorem bp45 : (aPlaces Try.prog 45).isSome = true := by kernel_rfl
theorem bz93 : (zeroT Try.prog 93).map (fun z => z.cells.toList.map AVal.raw) = some [.raw (.int .i64 0), .raw (.int .i64 0)] := by kernel_rfl
theorem bp93 : (aPlaces Try.prog 93).isSome = true := by kernel_rfl
theorem fo45_0 : fo Try.prog 45 0 = some (0, 1) := by kernel_rfl
theorem fo45_1 : fo Try.prog 45 1 = some (1, 1) := by kernel_rfl
theorem fo45_2 : fo Try.prog 45 2 = some (2, 1) := by kernel_rfl
theorem fo45_3 : fo Try.prog 45 3 = some (3, 1) := by kernel_rfl
theorem fo93_0 : fo Try.prog 93 0 = some (0, 1) := by kernel_rfl
theorem fo93_1 : fo Try.prog 93 1 = some (1, 1) := by kernel_rfl
theorem sz45 : sizeT Try.prog 45 = some 4 := by kernel_rfl
theorem sz93 : sizeT Try.prog 93 = some 2 := by kernel_rfl
theorem zc45 : zeroCellsT Try.prog 45 = some [.raw (.string { data := #[] }), .raw (.string { data := #[] }), .raw (.int .i64 0), .raw (.int .i64 0)] := by kernel_rfl
theorem zc93 : zeroCellsT Try.prog 93 = some [.raw (.int .i64 0), .raw (.int .i64 0)] := by kernel_rfl

def tk48 : Nat → Nat → Option Nat := fun _ _ => none
def pl48 : Nat → List PStep := fun _ => []
theorem cb48 : Try.f48.body.map (codeB Try.prog Try.f48.ntmps tk48 pl48) = some true := by kernel_rfl
theorem goes48 : goesB Try.prog 48 = true := by kernel_rfl
-- (carillon/subs.marks).polled params ['subs.marks', 'int'] results [['cell', 4, 93]] own [] names ['0:m', '1:last', '2:m', '3:last'] calls [] paths 1

structure Sb where
  name : ByteArray
  topic : ByteArray
  cur : Int
  nxt : Int
def encSb (s : Sb) : AVal := .agg [str s.name, str s.topic, int s.cur, int s.nxt]
def mk (a b : Int) : AVal := .agg [int a, int b]
def rightS (s : Sb) : Bool := word s.name && word s.topic && decide (0 ≤ s.cur) && decide (s.cur ≤ s.nxt) && decide (s.nxt ≤ 9007199254740991)
def ofS (s : Sb) (x : Tp) : Bool := rightS s && decide (s.topic = x.name)
def newS (n : ByteArray) (x : Tp) (first : Int) : Sb × Int := if word n && decide ((if first < 0 then x.en else first) ≤ x.en) then (⟨n, x.name, (if first < 0 then x.en else first), (if first < 0 then x.en else first)⟩, 0) else (⟨emp, emp, 0, 0⟩, 7)
def ackS (s : Sb) (o : Int) : Sb × Int := if rightS s && decide (0 ≤ o) && decide (o < s.nxt) then (⟨s.name, s.topic, max s.cur (o + 1), s.nxt⟩, 0) else (s, 7)
def attS (s : Sb) : Sb := ⟨s.name, s.topic, s.cur, s.cur⟩
def seekS (s : Sb) (x : Tp) (o : Int) : Sb × Int := if ofS s x && decide (0 ≤ o) && decide (o ≤ x.en) then (⟨s.name, s.topic, o, o⟩, 0) else (s, 7)
def edge (s : Sb) (x : Tp) : Int := max s.cur x.low + 100
def pollL (s : Sb) (x : Tp) (many : Int) : List Rec := (readL x.recs s.nxt many).take (atN (readL x.recs s.nxt many) (edge s x))
def pollS (s : Sb) (x : Tp) (many : Int) : Sb × List Rec × Int :=
  if ofS s x && decide (s.nxt ≤ x.en) && decide (1 ≤ many) && decide (many ≤ 50) then (⟨s.name, s.topic, s.cur, match (pollL s x many).getLast? with | none => s.nxt | some r => r.off + 1⟩, pollL s x many, 0) else (s, [], 7)
theorem sorted_sub {a b : List Rec} (h : Sorted b) (hs : List.Sublist a b) : Sorted a := List.Pairwise.sublist hs h
theorem readL_sub (l : List Rec) (a b : Int) : List.Sublist (readL l a b) l := (List.take_sublist _ _).trans (List.drop_sublist _ _)
theorem rightS_le {s : Sb} (h : rightS s = true) : 0 ≤ s.cur ∧ s.cur ≤ s.nxt ∧ s.nxt ≤ 9007199254740991 := by
  unfold rightS at h; simp at h; omega
set_option maxHeartbeats 4000000 in
set_option maxRecDepth 20000 in
theorem snd48 (a b n : Int) (M : Mem) (hn : 0 ≤ n ∧ n < 2 ^ 62) : SoundCall Try.prog 48 [mk a b, int n] M fun r M' => r = mk a (n + 1) ∧ M.le M' := by
  refine SoundCall.go tk48 pl48 mixed Try.func48 cb48 rfl (Nat.le_of_ble_eq_true rfl) ?_
  refine s_seq ?_
  refine s_region ?_
  refine o_box (by first | exact e_raw rfl | exact e_agg rfl | exact e_sl rfl) rfl rfl (fun B1 hB1 => ?_)
  have m1 : M B1 = none := by have h := hB1; repeat (first | exact h | exact Mem.none_of_le hle h | replace h := (Mem.upd_none h).2)
  refine o_alloc zc93 (fun B2 hB2 => ?_)
  have f1_2 : B1 ≠ B2 := Mem.fresh_ne hB2 (by repeat first | exact Mem.upd_self _ _ _ | assumption | refine Mem.upd_ne (by assumption) ?_)
  have g2_1 : B2 ≠ B1 := f1_2.symm
  have m2 : M B2 = none := by have h := hB2; repeat (first | exact h | exact Mem.none_of_le hle h | replace h := (Mem.upd_none h).2)
  refine o_nil ?_
  refine s_seq ?_
  refine s_region ?_
  refine o_q (q_fr fo93_0 rfl) rfl rfl rfl ?_
  refine o_q (q_ldm ag3 sz3 rfl (by repeat first | exact Mem.upd_self _ _ _ | assumption | refine Mem.upd_ne (by assumption) ?_) rfl (v_raw rfl)) rfl rfl rfl ?_
  refine o_q (q_mv (v_raw rfl)) rfl rfl rfl ?_
  refine o_q (q_add rfl rfl (wrap64 (by omega) (by omega))) rfl rfl rfl ?_
  refine o_q (q_b (cs := [_, _]) bz93 bp93 (bf fo93_0 (e_raw rfl) rfl rfl (Nat.le_of_ble_eq_true rfl) rfl (bf fo93_1 (e_raw rfl) rfl rfl (Nat.le_of_ble_eq_true rfl) rfl bf_nil))) rfl rfl rfl ?_
  refine o_storew rfl (by repeat first | exact Mem.upd_self _ _ _ | assumption | refine Mem.upd_ne (by assumption) ?_) (by first | exact e_agg rfl | rfl) rfl sz93 rfl rfl rfl rfl ?_
  refine o_nil ?_
  refine s_ret ?_
  refine s_end ?_
  exact ret_cell (.inl rfl) rfl rfl (by repeat first | exact Mem.upd_self _ _ _ | assumption | refine Mem.upd_ne (by assumption) ?_) (loadP_w ag93 sz93 rfl rfl) ⟨rfl, (by repeat first | exact hle | exact Mem.le_refl M | assumption | exact Mem.none_of_le hle (by assumption) | refine Mem.le_upd ?_ ?_)⟩

def tk49 : Nat → Nat → Option Nat := fun _ _ => none
def pl49 : Nat → List PStep := fun _ => []
theorem cb49 : Try.f49.body.map (codeB Try.prog Try.f49.ntmps tk49 pl49) = some true := by kernel_rfl
theorem goes49 : goesB Try.prog 49 = true := by kernel_rfl
-- (carillon/subs.marks).acked params ['subs.marks', 'int'] results [['cell', 4, 93]] own [] names ['0:m', '1:offset', '2:m', '3:offset'] calls [] paths 1
set_option maxHeartbeats 4000000 in
set_option maxRecDepth 20000 in
theorem snd49 (a b n : Int) (M : Mem) (hn : 0 ≤ n ∧ n < 2 ^ 62) : SoundCall Try.prog 49 [mk a b, int n] M fun r M' => r = mk (max a (n + 1)) b ∧ M.le M' := by
  refine SoundCall.go tk49 pl49 mixed Try.func49 cb49 rfl (Nat.le_of_ble_eq_true rfl) ?_
  refine s_seq ?_
  refine s_region ?_
  refine o_box (by first | exact e_raw rfl | exact e_agg rfl | exact e_sl rfl) rfl rfl (fun B1 hB1 => ?_)
  have m1 : M B1 = none := by have h := hB1; repeat (first | exact h | exact Mem.none_of_le hle h | replace h := (Mem.upd_none h).2)
  refine o_alloc zc93 (fun B2 hB2 => ?_)
  have f1_2 : B1 ≠ B2 := Mem.fresh_ne hB2 (by repeat first | exact Mem.upd_self _ _ _ | assumption | refine Mem.upd_ne (by assumption) ?_)
  have g2_1 : B2 ≠ B1 := f1_2.symm
  have m2 : M B2 = none := by have h := hB2; repeat (first | exact h | exact Mem.none_of_le hle h | replace h := (Mem.upd_none h).2)
  refine o_nil ?_
  refine s_seq ?_
  refine s_region ?_
  refine o_q (q_fr fo93_0 rfl) rfl rfl rfl ?_
  refine o_q (q_ldm ag3 sz3 rfl (by repeat first | exact Mem.upd_self _ _ _ | assumption | refine Mem.upd_ne (by assumption) ?_) rfl (v_raw rfl)) rfl rfl rfl ?_
  refine o_q (q_mv (v_raw rfl)) rfl rfl rfl ?_
  refine o_q (q_add rfl rfl (wrap64 (by omega) (by omega))) rfl rfl rfl ?_
  refine o_q (q_max rfl rfl) rfl rfl rfl ?_
  refine o_q (q_fr fo93_1 rfl) rfl rfl rfl ?_
  refine o_q (q_ldm ag3 sz3 rfl (by repeat first | exact Mem.upd_self _ _ _ | assumption | refine Mem.upd_ne (by assumption) ?_) rfl (v_raw rfl)) rfl rfl rfl ?_
  refine o_q (q_b (cs := [_, _]) bz93 bp93 (bf fo93_0 (e_raw rfl) rfl rfl (Nat.le_of_ble_eq_true rfl) rfl (bf fo93_1 (e_raw rfl) rfl rfl (Nat.le_of_ble_eq_true rfl) rfl bf_nil))) rfl rfl rfl ?_
  refine o_storew rfl (by repeat first | exact Mem.upd_self _ _ _ | assumption | refine Mem.upd_ne (by assumption) ?_) (by first | exact e_agg rfl | rfl) rfl sz93 rfl rfl rfl rfl ?_
  refine o_nil ?_
  refine s_ret ?_
  refine s_end ?_
  exact ret_cell (.inl rfl) rfl rfl (by repeat first | exact Mem.upd_self _ _ _ | assumption | refine Mem.upd_ne (by assumption) ?_) (loadP_w ag93 sz93 rfl rfl) ⟨rfl, (by repeat first | exact hle | exact Mem.le_refl M | assumption | exact Mem.none_of_le hle (by assumption) | refine Mem.le_upd ?_ ?_)⟩

def tk51 : Nat → Nat → Option Nat := fun _ _ => none
def pl51 : Nat → List PStep := fun _ => []
theorem cb51 : Try.f51.body.map (codeB Try.prog Try.f51.ntmps tk51 pl51) = some true := by kernel_rfl
theorem goes51 : goesB Try.prog 51 = true := by kernel_rfl
-- (carillon/subs.marks).back params ['subs.marks'] results [['cell', 2, 93]] own [] names ['0:m', '1:m'] calls [] paths 1
set_option maxHeartbeats 4000000 in
set_option maxRecDepth 20000 in
theorem snd51 (a b : Int) (M : Mem) : SoundCall Try.prog 51 [mk a b] M fun r M' => r = mk a a ∧ M.le M' := by
  refine SoundCall.go tk51 pl51 mixed Try.func51 cb51 rfl (Nat.le_of_ble_eq_true rfl) ?_
  refine s_seq ?_
  refine s_region ?_
  refine o_box (by first | exact e_raw rfl | exact e_agg rfl | exact e_sl rfl) rfl rfl (fun B1 hB1 => ?_)
  have m1 : M B1 = none := by have h := hB1; repeat (first | exact h | exact Mem.none_of_le hle h | replace h := (Mem.upd_none h).2)
  refine o_alloc zc93 (fun B2 hB2 => ?_)
  have f1_2 : B1 ≠ B2 := Mem.fresh_ne hB2 (by repeat first | exact Mem.upd_self _ _ _ | assumption | refine Mem.upd_ne (by assumption) ?_)
  have g2_1 : B2 ≠ B1 := f1_2.symm
  have m2 : M B2 = none := by have h := hB2; repeat (first | exact h | exact Mem.none_of_le hle h | replace h := (Mem.upd_none h).2)
  refine o_nil ?_
  refine s_seq ?_
  refine s_region ?_
  refine o_q (q_fr fo93_0 rfl) rfl rfl rfl ?_
  refine o_q (q_ldm ag3 sz3 rfl (by repeat first | exact Mem.upd_self _ _ _ | assumption | refine Mem.upd_ne (by assumption) ?_) rfl (v_raw rfl)) rfl rfl rfl ?_
  refine o_q (q_fr fo93_0 rfl) rfl rfl rfl ?_
  refine o_q (q_ldm ag3 sz3 rfl (by repeat first | exact Mem.upd_self _ _ _ | assumption | refine Mem.upd_ne (by assumption) ?_) rfl (v_raw rfl)) rfl rfl rfl ?_
  refine o_q (q_b (cs := [_, _]) bz93 bp93 (bf fo93_0 (e_raw rfl) rfl rfl (Nat.le_of_ble_eq_true rfl) rfl (bf fo93_1 (e_raw rfl) rfl rfl (Nat.le_of_ble_eq_true rfl) rfl bf_nil))) rfl rfl rfl ?_
  refine o_storew rfl (by repeat first | exact Mem.upd_self _ _ _ | assumption | refine Mem.upd_ne (by assumption) ?_) (by first | exact e_agg rfl | rfl) rfl sz93 rfl rfl rfl rfl ?_
  refine o_nil ?_
  refine s_ret ?_
  refine s_end ?_
  exact ret_cell (.inl rfl) rfl rfl (by repeat first | exact Mem.upd_self _ _ _ | assumption | refine Mem.upd_ne (by assumption) ?_) (loadP_w ag93 sz93 rfl rfl) ⟨rfl, (by repeat first | exact hle | exact Mem.le_refl M | assumption | exact Mem.none_of_le hle (by assumption) | refine Mem.le_upd ?_ ?_)⟩

def tk50 : Nat → Nat → Option Nat := fun _ _ => none
def pl50 : Nat → List PStep := fun _ => []
theorem cb50 : Try.f50.body.map (codeB Try.prog Try.f50.ntmps tk50 pl50) = some true := by kernel_rfl
theorem goes50 : goesB Try.prog 50 = true := by kernel_rfl
-- carillon/subs.Attach$1 params ['subs.marks', 'int'] results [['cell', 4, 93]] own [] names ['0:m', '1:_', '2:m', '3:_'] calls [51] paths 1
set_option maxHeartbeats 4000000 in
set_option maxRecDepth 20000 in
theorem snd50 (a b n : Int) (M : Mem) : SoundCall Try.prog 50 [mk a b, int n] M fun r M' => r = mk a a ∧ M.le M' := by
  refine SoundCall.go tk50 pl50 mixed Try.func50 cb50 rfl (Nat.le_of_ble_eq_true rfl) ?_
  refine s_seq ?_
  refine s_region ?_
  refine o_box (by first | exact e_raw rfl | exact e_agg rfl | exact e_sl rfl) rfl rfl (fun B1 hB1 => ?_)
  have m1 : M B1 = none := by have h := hB1; repeat (first | exact h | exact Mem.none_of_le hle h | replace h := (Mem.upd_none h).2)
  refine o_alloc zc93 (fun B2 hB2 => ?_)
  have f1_2 : B1 ≠ B2 := Mem.fresh_ne hB2 (by repeat first | exact Mem.upd_self _ _ _ | assumption | refine Mem.upd_ne (by assumption) ?_)
  have g2_1 : B2 ≠ B1 := f1_2.symm
  have m2 : M B2 = none := by have h := hB2; repeat (first | exact h | exact Mem.none_of_le hle h | replace h := (Mem.upd_none h).2)
  refine o_nil ?_
  refine s_seq ?_
  refine s_region ?_
  refine o_q (q_ldmw ag93 sz93 rfl (by repeat first | exact Mem.upd_self _ _ _ | assumption | refine Mem.upd_ne (by assumption) ?_) rfl rfl) rfl rfl rfl ?_
  refine o_call (((snd51 a b _).det)) goes51 (ac (v_agg rfl) ac_nil) rfl ?_
  refine o_storew rfl (by repeat first | exact Mem.upd_self _ _ _ | assumption | refine Mem.upd_ne (by assumption) ?_) (by first | exact e_agg rfl | rfl) rfl sz93 rfl rfl rfl rfl ?_
  refine o_nil ?_
  refine s_ret ?_
  refine s_end ?_
  exact ret_cell (.inl rfl) rfl rfl (by repeat first | exact Mem.upd_self _ _ _ | assumption | refine Mem.upd_ne (by assumption) ?_) (loadP_w ag93 sz93 rfl rfl) ⟨rfl, (by repeat first | exact hle | exact Mem.le_refl M | assumption | exact Mem.none_of_le hle (by assumption) | refine Mem.le_upd ?_ ?_)⟩

def tk47 : Nat → Nat → Option Nat := fun _ _ => none
def pl47 : Nat → List PStep
  | 2 => [.q 0, .q 1, .q 2, .q 3, .q 4, .s 5 [3, 2], .q 6, .s 7 []]
  | _ => []
theorem cb47 : Try.f47.body.map (codeB Try.prog Try.f47.ntmps tk47 pl47) = some true := by kernel_rfl
theorem goes47 : goesB Try.prog 47 = true := by kernel_rfl
-- carillon/subs.with params ['subs.Sub', 'int', 'func(subs.marks, int) subs.marks'] results [['cell', 6, 45]] own [] names ['0:s', '1:n', '2:f', '3:s', '4:n', '5:f', '7:m'] calls [] paths 1
set_option maxHeartbeats 4000000 in
set_option maxRecDepth 20000 in
theorem snd47 (s : Sb) (n c d : Int) (f : Nat) (M : Mem) (hf : ∀ M, SoundCall Try.prog f [mk s.cur s.nxt, int n] M fun r M' => r = mk c d ∧ M' = M) (hg : goesB Try.prog f = true) : SoundCall Try.prog 47 [encSb s, int n, .raw (.func (.func f) #[] #[])] M fun r M' => r = encSb ⟨s.name, s.topic, c, d⟩ ∧ M.le M' := by
  refine SoundCall.go tk47 pl47 mixed Try.func47 cb47 rfl (Nat.le_of_ble_eq_true rfl) ?_
  refine s_seq ?_
  refine s_region ?_
  refine o_box (by first | exact e_raw rfl | exact e_agg rfl | exact e_sl rfl) rfl rfl (fun B1 hB1 => ?_)
  have m1 : M B1 = none := by have h := hB1; repeat (first | exact h | exact Mem.none_of_le hle h | replace h := (Mem.upd_none h).2)
  refine o_alloc zc45 (fun B2 hB2 => ?_)
  have f1_2 : B1 ≠ B2 := Mem.fresh_ne hB2 (by repeat first | exact Mem.upd_self _ _ _ | assumption | refine Mem.upd_ne (by assumption) ?_)
  have g2_1 : B2 ≠ B1 := f1_2.symm
  have m2 : M B2 = none := by have h := hB2; repeat (first | exact h | exact Mem.none_of_le hle h | replace h := (Mem.upd_none h).2)
  refine o_nil ?_
  refine s_seq ?_
  refine s_region ?_
  refine o_q (q_mv (v_raw rfl)) rfl rfl rfl ?_
  refine o_q (q_fr fo45_2 rfl) rfl rfl rfl ?_
  refine o_q (q_ldm ag3 sz3 rfl (by repeat first | exact Mem.upd_self _ _ _ | assumption | refine Mem.upd_ne (by assumption) ?_) rfl (v_raw rfl)) rfl rfl rfl ?_
  refine o_q (q_fr fo45_3 rfl) rfl rfl rfl ?_
  refine o_q (q_ldm ag3 sz3 rfl (by repeat first | exact Mem.upd_self _ _ _ | assumption | refine Mem.upd_ne (by assumption) ?_) rfl (v_raw rfl)) rfl rfl rfl ?_
  refine o_q (q_b (cs := [_, _]) bz93 bp93 (bf fo93_0 (e_raw rfl) rfl rfl (Nat.le_of_ble_eq_true rfl) rfl (bf fo93_1 (e_raw rfl) rfl rfl (Nat.le_of_ble_eq_true rfl) rfl bf_nil))) rfl rfl rfl ?_
  refine o_q (q_mv (v_raw rfl)) rfl rfl rfl ?_
  refine o_callv rfl ((hf _)) hg (ac (v_agg rfl) (ac (v_raw rfl) ac_nil)) rfl rfl ?_
  rintro q M'' ⟨rfl, rfl⟩
  refine o_alloc zc93 (fun B3 hB3 => ?_)
  have f1_3 : B1 ≠ B3 := Mem.fresh_ne hB3 (by repeat first | exact Mem.upd_self _ _ _ | assumption | refine Mem.upd_ne (by assumption) ?_)
  have g3_1 : B3 ≠ B1 := f1_3.symm
  have f2_3 : B2 ≠ B3 := Mem.fresh_ne hB3 (by repeat first | exact Mem.upd_self _ _ _ | assumption | refine Mem.upd_ne (by assumption) ?_)
  have g3_2 : B3 ≠ B2 := f2_3.symm
  have m3 : M B3 = none := by have h := hB3; repeat (first | exact h | exact Mem.none_of_le hle h | replace h := (Mem.upd_none h).2)
  refine o_storew rfl (by repeat first | exact Mem.upd_self _ _ _ | assumption | refine Mem.upd_ne (by assumption) ?_) (by first | exact e_agg rfl | rfl) rfl sz93 rfl rfl rfl rfl ?_
  refine o_nil ?_
  refine s_seq ?_
  refine s_draw rfl ?_
  refine d_q rfl (q_fr fo93_0 rfl) rfl rfl rfl ?_
  refine d_q rfl (q_ldm ag3 sz3 rfl (by repeat first | exact Mem.upd_self _ _ _ | assumption | refine Mem.upd_ne (by assumption) ?_) rfl (v_raw rfl)) rfl rfl rfl ?_
  refine d_q rfl (q_fr fo93_1 rfl) rfl rfl rfl ?_
  refine d_q rfl (q_ldm ag3 sz3 rfl (by repeat first | exact Mem.upd_self _ _ _ | assumption | refine Mem.upd_ne (by assumption) ?_) rfl (v_raw rfl)) rfl rfl rfl ?_
  refine d_q rfl (q_fr fo45_2 rfl) rfl rfl rfl ?_
  refine d_s rfl ?_
  refine o_store rfl (by repeat first | exact Mem.upd_self _ _ _ | assumption | refine Mem.upd_ne (by assumption) ?_) (by first | exact e_raw rfl | exact e_agg rfl | exact e_sl rfl | rfl) rfl sz3 rfl (Nat.le_of_ble_eq_true rfl) rfl rfl ?_
  refine o_nil ⟨(by simp [Mem.upd, *]), ?_⟩
  refine d_q rfl (q_fr fo45_3 rfl) rfl rfl rfl ?_
  refine d_s rfl ?_
  refine o_store rfl (by repeat first | exact Mem.upd_self _ _ _ | assumption | refine Mem.upd_ne (by assumption) ?_) (by first | exact e_raw rfl | exact e_agg rfl | exact e_sl rfl | rfl) rfl sz3 rfl (Nat.le_of_ble_eq_true rfl) rfl rfl ?_
  refine o_nil ⟨(by simp [Mem.upd, *]), ?_⟩
  refine d_nil ?_
  refine s_seq ?_
  refine s_region ?_
  refine o_q (q_ldmw ag45 sz45 rfl (by repeat first | exact Mem.upd_self _ _ _ | assumption | refine Mem.upd_ne (by assumption) ?_) rfl rfl) rfl rfl rfl ?_
  refine o_storew rfl (by repeat first | exact Mem.upd_self _ _ _ | assumption | refine Mem.upd_ne (by assumption) ?_) (by first | exact e_agg rfl | rfl) rfl sz45 rfl rfl rfl rfl ?_
  refine o_nil ?_
  refine s_ret ?_
  refine s_end ?_
  exact ret_cell (.inl rfl) rfl rfl (by repeat first | exact Mem.upd_self _ _ _ | assumption | refine Mem.upd_ne (by assumption) ?_) (loadP_w ag45 sz45 rfl rfl) ⟨rfl, (by repeat first | exact hle | exact Mem.le_refl M | assumption | exact Mem.none_of_le hle (by assumption) | refine Mem.le_upd ?_ ?_)⟩

def tk38 : Nat → Nat → Option Nat := fun _ _ => none
def pl38 : Nat → List PStep := fun _ => []
theorem cb38 : Try.f38.body.map (codeB Try.prog Try.f38.ntmps tk38 pl38) = some true := by kernel_rfl
theorem goes38 : goesB Try.prog 38 = true := by kernel_rfl
-- carillon/subs.Right params ['subs.Sub'] results [['t', 2]] own [] names ['0:s', '1:s'] calls [40] paths 5
set_option maxHeartbeats 4000000 in
set_option maxRecDepth 20000 in
theorem snd38 (s : Sb) (M : Mem) : SoundCall Try.prog 38 [encSb s] M fun r M' => r = bool (rightS s) ∧ M.le M' := by
  refine SoundCall.go tk38 pl38 mixed Try.func38 cb38 rfl (Nat.le_of_ble_eq_true rfl) ?_
  refine s_seq ?_
  refine s_region ?_
  refine o_box (by first | exact e_raw rfl | exact e_agg rfl | exact e_sl rfl) rfl rfl (fun B1 hB1 => ?_)
  have m1 : M B1 = none := by have h := hB1; repeat (first | exact h | exact Mem.none_of_le hle h | replace h := (Mem.upd_none h).2)
  refine o_q (q_as (v_raw rfl)) rfl rfl rfl ?_
  refine o_nil ?_
  refine s_seq ?_
  refine s_region ?_
  refine o_q (q_fr fo45_0 rfl) rfl rfl rfl ?_
  refine o_q (q_ldm ag9 sz9 rfl (by repeat first | exact Mem.upd_self _ _ _ | assumption | refine Mem.upd_ne (by assumption) ?_) rfl (v_raw rfl)) rfl rfl rfl ?_
  refine o_call (((snd40 s.name _).det)) goes40 (ac (v_raw rfl) ac_nil) rfl ?_
  refine o_q (q_mv (v_raw rfl)) rfl rfl rfl ?_
  refine o_cases (want := true) (j := 3) rfl rfl (fun h1 => ?_) (fun h1 => ?_)
  · have k1 := h1; try simp only [decide_eq_true_eq, decide_eq_false_iff_not, Bool.not_eq_true', Bool.not_eq_false', Bool.not_true, Bool.not_false, List.length_map, Decidable.not_not] at k1
    refine o_yes rfl rfl rfl h1 ?_
    refine o_q (q_fr fo45_1 rfl) rfl rfl rfl ?_
    refine o_yes rfl rfl rfl h1 ?_
    refine o_q (q_ldm ag9 sz9 rfl (by repeat first | exact Mem.upd_self _ _ _ | assumption | refine Mem.upd_ne (by assumption) ?_) rfl (v_raw rfl)) rfl rfl rfl ?_
    refine o_yes rfl rfl rfl h1 ?_
    refine o_call (((snd40 s.topic _).det)) goes40 (ac (v_raw rfl) ac_nil) rfl ?_
    refine o_q (q_pick_c (t := true) rfl h1 (v_raw rfl)) rfl rfl rfl ?_
    refine o_q (q_mv (v_raw rfl)) rfl rfl rfl ?_
    refine o_cases (want := true) (j := 8) rfl rfl (fun h2 => ?_) (fun h2 => ?_)
    · have k2 := h2; try simp only [decide_eq_true_eq, decide_eq_false_iff_not, Bool.not_eq_true', Bool.not_eq_false', Bool.not_true, Bool.not_false, List.length_map, Decidable.not_not] at k2
      refine o_yes rfl rfl rfl h2 ?_
      refine o_q (q_fr fo45_2 rfl) rfl rfl rfl ?_
      refine o_yes rfl rfl rfl h2 ?_
      refine o_q (q_ldm ag3 sz3 rfl (by repeat first | exact Mem.upd_self _ _ _ | assumption | refine Mem.upd_ne (by assumption) ?_) rfl (v_raw rfl)) rfl rfl rfl ?_
      refine o_yes rfl rfl rfl h2 ?_
      refine o_q (q_geq rfl rfl) rfl rfl rfl ?_
      refine o_q (q_pick_c (t := true) rfl h2 (v_raw rfl)) rfl rfl rfl ?_
      refine o_q (q_mv (v_raw rfl)) rfl rfl rfl ?_
      refine o_cases (want := true) (j := 13) rfl rfl (fun h3 => ?_) (fun h3 => ?_)
      · have k3 := h3; try simp only [decide_eq_true_eq, decide_eq_false_iff_not, Bool.not_eq_true', Bool.not_eq_false', Bool.not_true, Bool.not_false, List.length_map, Decidable.not_not] at k3
        refine o_yes rfl rfl rfl h3 ?_
        refine o_q (q_fr fo45_2 rfl) rfl rfl rfl ?_
        refine o_yes rfl rfl rfl h3 ?_
        refine o_q (q_ldm ag3 sz3 rfl (by repeat first | exact Mem.upd_self _ _ _ | assumption | refine Mem.upd_ne (by assumption) ?_) rfl (v_raw rfl)) rfl rfl rfl ?_
        refine o_yes rfl rfl rfl h3 ?_
        refine o_q (q_fr fo45_3 rfl) rfl rfl rfl ?_
        refine o_yes rfl rfl rfl h3 ?_
        refine o_q (q_ldm ag3 sz3 rfl (by repeat first | exact Mem.upd_self _ _ _ | assumption | refine Mem.upd_ne (by assumption) ?_) rfl (v_raw rfl)) rfl rfl rfl ?_
        refine o_yes rfl rfl rfl h3 ?_
        refine o_q (q_leq rfl rfl) rfl rfl rfl ?_
        refine o_q (q_pick_c (t := true) rfl h3 (v_raw rfl)) rfl rfl rfl ?_
        refine o_q (q_mv (v_raw rfl)) rfl rfl rfl ?_
        refine o_cases (want := true) (j := 20) rfl rfl (fun h4 => ?_) (fun h4 => ?_)
        · have k4 := h4; try simp only [decide_eq_true_eq, decide_eq_false_iff_not, Bool.not_eq_true', Bool.not_eq_false', Bool.not_true, Bool.not_false, List.length_map, Decidable.not_not] at k4
          refine o_yes rfl rfl rfl h4 ?_
          refine o_q (q_fr fo45_3 rfl) rfl rfl rfl ?_
          refine o_yes rfl rfl rfl h4 ?_
          refine o_q (q_ldm ag3 sz3 rfl (by repeat first | exact Mem.upd_self _ _ _ | assumption | refine Mem.upd_ne (by assumption) ?_) rfl (v_raw rfl)) rfl rfl rfl ?_
          refine o_yes rfl rfl rfl h4 ?_
          refine o_q (q_leq rfl rfl) rfl rfl rfl ?_
          refine o_q (q_pick_c (t := true) rfl h4 (v_raw rfl)) rfl rfl rfl ?_
          refine o_q (q_as (v_raw rfl)) rfl rfl rfl ?_
          refine o_nil ?_
          refine s_ret ?_
          refine s_end ?_
          refine ⟨congrArg (fun b => AVal.raw (.bool b)) ?_, (by repeat first | exact hle | exact Mem.le_refl M | assumption | exact Mem.none_of_le hle (by assumption) | refine Mem.le_upd ?_ ?_)⟩
          simp_all [rightS] <;> (intros; omega)
        · have k4 := h4; try simp only [decide_eq_true_eq, decide_eq_false_iff_not, Bool.not_eq_true', Bool.not_eq_false', Bool.not_true, Bool.not_false, List.length_map, Decidable.not_not] at k4
          refine o_no rfl rfl rfl rfl h4 ?_
          refine o_no rfl rfl rfl rfl h4 ?_
          refine o_no rfl rfl rfl rfl h4 ?_
          refine o_q (q_pick_c (t := false) rfl h4 (v_raw rfl)) rfl rfl rfl ?_
          refine o_q (q_as (v_raw rfl)) rfl rfl rfl ?_
          refine o_nil ?_
          refine s_ret ?_
          refine s_end ?_
          refine ⟨congrArg (fun b => AVal.raw (.bool b)) ?_, (by repeat first | exact hle | exact Mem.le_refl M | assumption | exact Mem.none_of_le hle (by assumption) | refine Mem.le_upd ?_ ?_)⟩
          simp_all [rightS] <;> (intros; omega)
      · have k3 := h3; try simp only [decide_eq_true_eq, decide_eq_false_iff_not, Bool.not_eq_true', Bool.not_eq_false', Bool.not_true, Bool.not_false, List.length_map, Decidable.not_not] at k3
        refine o_no rfl rfl rfl rfl h3 ?_
        refine o_no rfl rfl rfl rfl h3 ?_
        refine o_no rfl rfl rfl rfl h3 ?_
        refine o_no rfl rfl rfl rfl h3 ?_
        refine o_no rfl rfl rfl rfl h3 ?_
        refine o_q (q_pick_c (t := false) rfl h3 (v_raw rfl)) rfl rfl rfl ?_
        refine o_q (q_mv (v_raw rfl)) rfl rfl rfl ?_
        refine o_no rfl rfl rfl rfl rfl ?_
        refine o_no rfl rfl rfl rfl rfl ?_
        refine o_no rfl rfl rfl rfl rfl ?_
        refine o_q (q_pick_c (t := false) rfl rfl (v_raw rfl)) rfl rfl rfl ?_
        refine o_q (q_as (v_raw rfl)) rfl rfl rfl ?_
        refine o_nil ?_
        refine s_ret ?_
        refine s_end ?_
        refine ⟨congrArg (fun b => AVal.raw (.bool b)) ?_, (by repeat first | exact hle | exact Mem.le_refl M | assumption | exact Mem.none_of_le hle (by assumption) | refine Mem.le_upd ?_ ?_)⟩
        simp_all [rightS] <;> (intros; omega)
    · have k2 := h2; try simp only [decide_eq_true_eq, decide_eq_false_iff_not, Bool.not_eq_true', Bool.not_eq_false', Bool.not_true, Bool.not_false, List.length_map, Decidable.not_not] at k2
      refine o_no rfl rfl rfl rfl h2 ?_
      refine o_no rfl rfl rfl rfl h2 ?_
      refine o_no rfl rfl rfl rfl h2 ?_
      refine o_q (q_pick_c (t := false) rfl h2 (v_raw rfl)) rfl rfl rfl ?_
      refine o_q (q_mv (v_raw rfl)) rfl rfl rfl ?_
      refine o_no rfl rfl rfl rfl rfl ?_
      refine o_no rfl rfl rfl rfl rfl ?_
      refine o_no rfl rfl rfl rfl rfl ?_
      refine o_no rfl rfl rfl rfl rfl ?_
      refine o_no rfl rfl rfl rfl rfl ?_
      refine o_q (q_pick_c (t := false) rfl rfl (v_raw rfl)) rfl rfl rfl ?_
      refine o_q (q_mv (v_raw rfl)) rfl rfl rfl ?_
      refine o_no rfl rfl rfl rfl rfl ?_
      refine o_no rfl rfl rfl rfl rfl ?_
      refine o_no rfl rfl rfl rfl rfl ?_
      refine o_q (q_pick_c (t := false) rfl rfl (v_raw rfl)) rfl rfl rfl ?_
      refine o_q (q_as (v_raw rfl)) rfl rfl rfl ?_
      refine o_nil ?_
      refine s_ret ?_
      refine s_end ?_
      refine ⟨congrArg (fun b => AVal.raw (.bool b)) ?_, (by repeat first | exact hle | exact Mem.le_refl M | assumption | exact Mem.none_of_le hle (by assumption) | refine Mem.le_upd ?_ ?_)⟩
      simp_all [rightS] <;> (intros; omega)
  · have k1 := h1; try simp only [decide_eq_true_eq, decide_eq_false_iff_not, Bool.not_eq_true', Bool.not_eq_false', Bool.not_true, Bool.not_false, List.length_map, Decidable.not_not] at k1
    refine o_no rfl rfl rfl rfl h1 ?_
    refine o_no rfl rfl rfl rfl h1 ?_
    refine o_no rfl rfl rfl rfl h1 ?_
    refine o_q (q_pick_c (t := false) rfl h1 (v_raw rfl)) rfl rfl rfl ?_
    refine o_q (q_mv (v_raw rfl)) rfl rfl rfl ?_
    refine o_no rfl rfl rfl rfl rfl ?_
    refine o_no rfl rfl rfl rfl rfl ?_
    refine o_no rfl rfl rfl rfl rfl ?_
    refine o_q (q_pick_c (t := false) rfl rfl (v_raw rfl)) rfl rfl rfl ?_
    refine o_q (q_mv (v_raw rfl)) rfl rfl rfl ?_
    refine o_no rfl rfl rfl rfl rfl ?_
    refine o_no rfl rfl rfl rfl rfl ?_
    refine o_no rfl rfl rfl rfl rfl ?_
    refine o_no rfl rfl rfl rfl rfl ?_
    refine o_no rfl rfl rfl rfl rfl ?_
    refine o_q (q_pick_c (t := false) rfl rfl (v_raw rfl)) rfl rfl rfl ?_
    refine o_q (q_mv (v_raw rfl)) rfl rfl rfl ?_
    refine o_no rfl rfl rfl rfl rfl ?_
    refine o_no rfl rfl rfl rfl rfl ?_
    refine o_no rfl rfl rfl rfl rfl ?_
    refine o_q (q_pick_c (t := false) rfl rfl (v_raw rfl)) rfl rfl rfl ?_
    refine o_q (q_as (v_raw rfl)) rfl rfl rfl ?_
    refine o_nil ?_
    refine s_ret ?_
    refine s_end ?_
    refine ⟨congrArg (fun b => AVal.raw (.bool b)) ?_, (by repeat first | exact hle | exact Mem.le_refl M | assumption | exact Mem.none_of_le hle (by assumption) | refine Mem.le_upd ?_ ?_)⟩
    simp_all [rightS] <;> (intros; omega)

def tk46 : Nat → Nat → Option Nat := fun _ _ => none
def pl46 : Nat → List PStep
  | 1 => [.q 0, .s 1 [], .q 2, .q 3, .q 4, .q 5, .s 6 [4, 3, 0], .q 7, .q 8, .q 9]
  | _ => []
theorem cb46 : Try.f46.body.map (codeB Try.prog Try.f46.ntmps tk46 pl46) = some true := by kernel_rfl
theorem goes46 : goesB Try.prog 46 = true := by kernel_rfl
-- carillon/subs.of params ['subs.Sub', '*topic.Topic'] results [['t', 4]] own [] names ['0:s', '1:t', '2:s', '3:t'] calls [38, 45] paths 2
set_option maxHeartbeats 4000000 in
set_option maxRecDepth 20000 in
theorem snd46 (s : Sb) (t m : Nat) (x : Tp) (M : Mem) (ht : M t = some (.cells (tpC m x))) (hm : M m = some (tpK x)) (htm : t ≠ m) : SoundCall Try.prog 46 [encSb s, ptr t] M fun r M' => r = bool (ofS s x) ∧ M.le M' := by
  refine SoundCall.go tk46 pl46 mixed Try.func46 cb46 rfl (Nat.le_of_ble_eq_true rfl) ?_
  refine s_seq ?_
  refine s_region ?_
  refine o_box (by first | exact e_raw rfl | exact e_agg rfl | exact e_sl rfl) rfl rfl (fun B1 hB1 => ?_)
  have htm' := htm.symm
  have n1 : t ≠ B1 := Mem.fresh_ne hB1 ht
  have n1' := n1.symm
  have n2 : m ≠ B1 := Mem.fresh_ne hB1 hm
  have n2' := n2.symm
  have m1 : M B1 = none := by have h := hB1; repeat (first | exact h | exact Mem.none_of_le hle h | replace h := (Mem.upd_none h).2)
  refine o_q (q_as (v_raw rfl)) rfl rfl rfl ?_
  refine o_nil ?_
  refine s_seq ?_
  refine s_draw rfl ?_
  refine d_q rfl (q_ldmw ag45 sz45 rfl (by repeat first | exact Mem.upd_self _ _ _ | assumption | refine Mem.upd_ne (by assumption) ?_) rfl rfl) rfl rfl rfl ?_
  refine d_s rfl ?_
  refine o_call (((snd38 s _).det)) goes38 (ac (v_agg rfl) ac_nil) rfl ?_
  refine o_nil ⟨(by simp [Mem.upd, *]), ?_⟩
  refine d_q rfl (q_mv (v_raw rfl)) rfl rfl rfl ?_
  refine d_cases (want := true) (j := 2) rfl rfl (fun h1 => ?_) (fun h1 => ?_)
  · have k1 := h1; try simp only [decide_eq_true_eq, decide_eq_false_iff_not, Bool.not_eq_true', Bool.not_eq_false', Bool.not_true, Bool.not_false, List.length_map, Decidable.not_not] at k1
    refine d_yes rfl (q_fr fo45_1 rfl) rfl rfl rfl h1 rfl rfl ?_
    refine d_yes rfl (q_ldm ag9 sz9 rfl (by repeat first | exact Mem.upd_self _ _ _ | assumption | refine Mem.upd_ne (by assumption) ?_) rfl (v_raw rfl)) rfl rfl rfl h1 rfl rfl ?_
    refine d_yes rfl (q_mv ((by first | exact v_raw rfl | exact v_sptr rfl))) rfl rfl rfl h1 rfl rfl ?_
    refine d_s rfl ?_
    refine o_yes rfl rfl rfl h1 ?_
    refine o_call (((snd45 t m x _ (by repeat first | exact Mem.upd_self _ _ _ | assumption | refine Mem.upd_ne (by assumption) ?_) (by repeat first | exact Mem.upd_self _ _ _ | assumption | refine Mem.upd_ne (by assumption) ?_) htm).det)) goes45 (ac ((by first | exact v_raw rfl | exact v_sptr rfl)) ac_nil) rfl ?_
    refine o_nil ⟨(by simp [Mem.upd, *]), ?_⟩
    refine d_yes rfl (q_seql rfl rfl) rfl rfl rfl h1 rfl rfl ?_
    refine d_q rfl (q_pick_c (t := true) rfl h1 (v_raw rfl)) rfl rfl rfl ?_
    refine d_q rfl (q_as (v_raw rfl)) rfl rfl rfl ?_
    refine d_nil ?_
    refine s_ret ?_
    refine s_end ?_
    refine ⟨congrArg (fun b => AVal.raw (.bool b)) ?_, (by repeat first | exact hle | exact Mem.le_refl M | assumption | exact Mem.none_of_le hle (by assumption) | refine Mem.le_upd ?_ ?_)⟩
    simp_all [ofS]
  · have k1 := h1; try simp only [decide_eq_true_eq, decide_eq_false_iff_not, Bool.not_eq_true', Bool.not_eq_false', Bool.not_true, Bool.not_false, List.length_map, Decidable.not_not] at k1
    refine d_no rfl rfl rfl rfl h1 rfl ?_
    refine d_no rfl rfl rfl rfl h1 rfl ?_
    refine d_no rfl rfl rfl rfl h1 rfl ?_
    refine d_s rfl ?_
    refine o_no rfl rfl rfl rfl h1 ?_
    refine o_nil ⟨(by simp [Mem.upd, *]), ?_⟩
    refine d_no rfl rfl rfl rfl h1 rfl ?_
    refine d_q rfl (q_pick_c (t := false) rfl h1 (v_raw rfl)) rfl rfl rfl ?_
    refine d_q rfl (q_as (v_raw rfl)) rfl rfl rfl ?_
    refine d_nil ?_
    refine s_ret ?_
    refine s_end ?_
    refine ⟨congrArg (fun b => AVal.raw (.bool b)) ?_, (by repeat first | exact hle | exact Mem.le_refl M | assumption | exact Mem.none_of_le hle (by assumption) | refine Mem.le_upd ?_ ?_)⟩
    simp_all [ofS]

def tk25 : Nat → Nat → Option Nat := fun _ _ => none
def pl25 : Nat → List PStep := fun _ => []
theorem cb25 : Try.f25.body.map (codeB Try.prog Try.f25.ntmps tk25 pl25) = some true := by kernel_rfl
theorem goes25 : goesB Try.prog 25 = true := by kernel_rfl
-- carillon/subs.Ack params ['subs.Sub', 'int'] results [['cell', 4, 45], ['t', 5]] own [] names ['0:s', '1:offset', '2:s', '3:offset'] calls [38, 47] paths 4
set_option maxHeartbeats 4000000 in
set_option maxRecDepth 20000 in
theorem snd25 (s : Sb) (o : Int) (M : Mem) : SoundCall Try.prog 25 [encSb s, int o] M fun r M' => r = .tup [encSb (ackS s o).1, int (ackS s o).2] ∧ M.le M' := by
  refine SoundCall.go tk25 pl25 mixed Try.func25 cb25 rfl (Nat.le_of_ble_eq_true rfl) ?_
  refine s_seq ?_
  refine s_region ?_
  refine o_box (by first | exact e_raw rfl | exact e_agg rfl | exact e_sl rfl) rfl rfl (fun B1 hB1 => ?_)
  have m1 : M B1 = none := by have h := hB1; repeat (first | exact h | exact Mem.none_of_le hle h | replace h := (Mem.upd_none h).2)
  refine o_alloc zc45 (fun B2 hB2 => ?_)
  have f1_2 : B1 ≠ B2 := Mem.fresh_ne hB2 (by repeat first | exact Mem.upd_self _ _ _ | assumption | refine Mem.upd_ne (by assumption) ?_)
  have g2_1 : B2 ≠ B1 := f1_2.symm
  have m2 : M B2 = none := by have h := hB2; repeat (first | exact h | exact Mem.none_of_le hle h | replace h := (Mem.upd_none h).2)
  refine o_q (q_as (v_raw rfl)) rfl rfl rfl ?_
  refine o_nil ?_
  refine s_seq ?_
  refine s_seq ?_
  refine s_region ?_
  refine o_q (q_ldmw ag45 sz45 rfl (by repeat first | exact Mem.upd_self _ _ _ | assumption | refine Mem.upd_ne (by assumption) ?_) rfl rfl) rfl rfl rfl ?_
  refine o_call (((snd38 s _).det)) goes38 (ac (v_agg rfl) ac_nil) rfl ?_
  refine o_q (q_not rfl) rfl rfl rfl ?_
  refine o_q (q_mv (v_raw rfl)) rfl rfl rfl ?_
  refine o_cases (want := false) (j := 3) rfl rfl (fun h1 => ?_) (fun h1 => ?_)
  · have k1 := h1; try simp only [decide_eq_true_eq, decide_eq_false_iff_not, Bool.not_eq_true', Bool.not_eq_false', Bool.not_true, Bool.not_false, List.length_map, Decidable.not_not] at k1
    refine o_yes rfl rfl rfl h1 ?_
    refine o_q (q_mv (v_raw rfl)) rfl rfl rfl ?_
    refine o_yes rfl rfl rfl h1 ?_
    refine o_q (q_lss rfl rfl) rfl rfl rfl ?_
    refine o_q (q_pick_c (t := false) rfl h1 (v_raw rfl)) rfl rfl rfl ?_
    refine o_q (q_mv (v_raw rfl)) rfl rfl rfl ?_
    refine o_cases (want := false) (j := 7) rfl rfl (fun h2 => ?_) (fun h2 => ?_)
    · have k2 := h2; try simp only [decide_eq_true_eq, decide_eq_false_iff_not, Bool.not_eq_true', Bool.not_eq_false', Bool.not_true, Bool.not_false, List.length_map, Decidable.not_not] at k2
      refine o_yes rfl rfl rfl h2 ?_
      refine o_q (q_mv (v_raw rfl)) rfl rfl rfl ?_
      refine o_yes rfl rfl rfl h2 ?_
      refine o_q (q_fr fo45_3 rfl) rfl rfl rfl ?_
      refine o_yes rfl rfl rfl h2 ?_
      refine o_q (q_ldm ag3 sz3 rfl (by repeat first | exact Mem.upd_self _ _ _ | assumption | refine Mem.upd_ne (by assumption) ?_) rfl (v_raw rfl)) rfl rfl rfl ?_
      refine o_yes rfl rfl rfl h2 ?_
      refine o_q (q_geq rfl rfl) rfl rfl rfl ?_
      refine o_q (q_pick_c (t := false) rfl h2 (v_raw rfl)) rfl rfl rfl ?_
      refine o_nil ?_
      refine s_cond rfl (fun h3 => ?_) (fun h3 => ?_)
      · have k3 := h3; try simp only [decide_eq_true_eq, decide_eq_false_iff_not, Bool.not_eq_true', Bool.not_eq_false', Bool.not_true, Bool.not_false, List.length_map, Decidable.not_not] at k3
        refine s_seq ?_
        refine s_region ?_
        refine o_q (q_ldmw ag45 sz45 rfl (by repeat first | exact Mem.upd_self _ _ _ | assumption | refine Mem.upd_ne (by assumption) ?_) rfl rfl) rfl rfl rfl ?_
        refine o_storew rfl (by repeat first | exact Mem.upd_self _ _ _ | assumption | refine Mem.upd_ne (by assumption) ?_) (by first | exact e_agg rfl | rfl) rfl sz45 rfl rfl rfl rfl ?_
        refine o_q (q_as (v_raw rfl)) rfl rfl rfl ?_
        refine o_nil ?_
        refine s_ret ?_
        refine s_code_ret ?_
        refine s_end ?_
        exact ret_many (.inl rfl) rfl (rl_c rfl (by repeat first | exact Mem.upd_self _ _ _ | assumption | refine Mem.upd_ne (by assumption) ?_) (loadP_w ag45 sz45 rfl rfl) rfl (rl_t rfl rl_nil)) rfl ⟨by unfold ackS; split <;> first | rfl | (exfalso; simp_all; done) | (exfalso; simp_all; omega), (by repeat first | exact hle | exact Mem.le_refl M | assumption | exact Mem.none_of_le hle (by assumption) | refine Mem.le_upd ?_ ?_)⟩
      · have k3 := h3; try simp only [decide_eq_true_eq, decide_eq_false_iff_not, Bool.not_eq_true', Bool.not_eq_false', Bool.not_true, Bool.not_false, List.length_map, Decidable.not_not] at k3
        have hle := (rightS_le (by simp_all : rightS s = true))
        refine s_skip ?_
        refine s_seq ?_
        refine s_region ?_
        refine o_q (q_ldmw ag45 sz45 rfl (by repeat first | exact Mem.upd_self _ _ _ | assumption | refine Mem.upd_ne (by assumption) ?_) rfl rfl) rfl rfl rfl ?_
        refine o_q (q_mv (v_raw rfl)) rfl rfl rfl ?_
        refine o_call (((snd47 s o (max s.cur (o + 1)) s.nxt 49 _ (fun M => (snd49 _ _ _ M (by omega)).det) goes49).det)) goes47 (ac (v_agg rfl) (ac (v_raw rfl) (ac (v_raw rfl) ac_nil))) rfl ?_
        refine o_storew rfl (by repeat first | exact Mem.upd_self _ _ _ | assumption | refine Mem.upd_ne (by assumption) ?_) (by first | exact e_agg rfl | rfl) rfl sz45 rfl rfl rfl rfl ?_
        refine o_q (q_as (v_raw rfl)) rfl rfl rfl ?_
        refine o_nil ?_
        refine s_ret ?_
        refine s_end ?_
        exact ret_many (.inl rfl) rfl (rl_c rfl (by repeat first | exact Mem.upd_self _ _ _ | assumption | refine Mem.upd_ne (by assumption) ?_) (loadP_w ag45 sz45 rfl rfl) rfl (rl_t rfl rl_nil)) rfl ⟨by unfold ackS; split <;> first | rfl | (exfalso; simp_all; done) | (exfalso; simp_all; omega), (by repeat first | exact hle | exact Mem.le_refl M | assumption | exact Mem.none_of_le hle (by assumption) | refine Mem.le_upd ?_ ?_)⟩
    · have k2 := h2; try simp only [decide_eq_true_eq, decide_eq_false_iff_not, Bool.not_eq_true', Bool.not_eq_false', Bool.not_true, Bool.not_false, List.length_map, Decidable.not_not] at k2
      refine o_no rfl rfl rfl rfl h2 ?_
      refine o_no rfl rfl rfl rfl h2 ?_
      refine o_no rfl rfl rfl rfl h2 ?_
      refine o_no rfl rfl rfl rfl h2 ?_
      refine o_q (q_pick_c (t := true) rfl h2 (v_raw rfl)) rfl rfl rfl ?_
      refine o_nil ?_
      refine s_then rfl rfl ?_
      refine s_seq ?_
      refine s_region ?_
      refine o_q (q_ldmw ag45 sz45 rfl (by repeat first | exact Mem.upd_self _ _ _ | assumption | refine Mem.upd_ne (by assumption) ?_) rfl rfl) rfl rfl rfl ?_
      refine o_storew rfl (by repeat first | exact Mem.upd_self _ _ _ | assumption | refine Mem.upd_ne (by assumption) ?_) (by first | exact e_agg rfl | rfl) rfl sz45 rfl rfl rfl rfl ?_
      refine o_q (q_as (v_raw rfl)) rfl rfl rfl ?_
      refine o_nil ?_
      refine s_ret ?_
      refine s_code_ret ?_
      refine s_end ?_
      exact ret_many (.inl rfl) rfl (rl_c rfl (by repeat first | exact Mem.upd_self _ _ _ | assumption | refine Mem.upd_ne (by assumption) ?_) (loadP_w ag45 sz45 rfl rfl) rfl (rl_t rfl rl_nil)) rfl ⟨by unfold ackS; split <;> first | rfl | (exfalso; simp_all; done) | (exfalso; simp_all; omega), (by repeat first | exact hle | exact Mem.le_refl M | assumption | exact Mem.none_of_le hle (by assumption) | refine Mem.le_upd ?_ ?_)⟩
  · have k1 := h1; try simp only [decide_eq_true_eq, decide_eq_false_iff_not, Bool.not_eq_true', Bool.not_eq_false', Bool.not_true, Bool.not_false, List.length_map, Decidable.not_not] at k1
    refine o_no rfl rfl rfl rfl h1 ?_
    refine o_no rfl rfl rfl rfl h1 ?_
    refine o_q (q_pick_c (t := true) rfl h1 (v_raw rfl)) rfl rfl rfl ?_
    refine o_q (q_mv (v_raw rfl)) rfl rfl rfl ?_
    refine o_no rfl rfl rfl rfl rfl ?_
    refine o_no rfl rfl rfl rfl rfl ?_
    refine o_no rfl rfl rfl rfl rfl ?_
    refine o_no rfl rfl rfl rfl rfl ?_
    refine o_q (q_pick_c (t := true) rfl rfl (v_raw rfl)) rfl rfl rfl ?_
    refine o_nil ?_
    refine s_then rfl rfl ?_
    refine s_seq ?_
    refine s_region ?_
    refine o_q (q_ldmw ag45 sz45 rfl (by repeat first | exact Mem.upd_self _ _ _ | assumption | refine Mem.upd_ne (by assumption) ?_) rfl rfl) rfl rfl rfl ?_
    refine o_storew rfl (by repeat first | exact Mem.upd_self _ _ _ | assumption | refine Mem.upd_ne (by assumption) ?_) (by first | exact e_agg rfl | rfl) rfl sz45 rfl rfl rfl rfl ?_
    refine o_q (q_as (v_raw rfl)) rfl rfl rfl ?_
    refine o_nil ?_
    refine s_ret ?_
    refine s_code_ret ?_
    refine s_end ?_
    exact ret_many (.inl rfl) rfl (rl_c rfl (by repeat first | exact Mem.upd_self _ _ _ | assumption | refine Mem.upd_ne (by assumption) ?_) (loadP_w ag45 sz45 rfl rfl) rfl (rl_t rfl rl_nil)) rfl ⟨by unfold ackS; split <;> first | rfl | (exfalso; simp_all; done) | (exfalso; simp_all; omega), (by repeat first | exact hle | exact Mem.le_refl M | assumption | exact Mem.none_of_le hle (by assumption) | refine Mem.le_upd ?_ ?_)⟩

def tk26 : Nat → Nat → Option Nat := fun _ _ => none
def pl26 : Nat → List PStep := fun _ => []
theorem cb26 : Try.f26.body.map (codeB Try.prog Try.f26.ntmps tk26 pl26) = some true := by kernel_rfl
theorem goes26 : goesB Try.prog 26 = true := by kernel_rfl
-- carillon/subs.Attach params ['subs.Sub'] results [['cell', 2, 45]] own [] names ['0:s', '1:s'] calls [47] paths 1
set_option maxHeartbeats 4000000 in
set_option maxRecDepth 20000 in
theorem snd26 (s : Sb) (M : Mem) : SoundCall Try.prog 26 [encSb s] M fun r M' => r = encSb (attS s) ∧ M.le M' := by
  refine SoundCall.go tk26 pl26 mixed Try.func26 cb26 rfl (Nat.le_of_ble_eq_true rfl) ?_
  refine s_seq ?_
  refine s_region ?_
  refine o_box (by first | exact e_raw rfl | exact e_agg rfl | exact e_sl rfl) rfl rfl (fun B1 hB1 => ?_)
  have m1 : M B1 = none := by have h := hB1; repeat (first | exact h | exact Mem.none_of_le hle h | replace h := (Mem.upd_none h).2)
  refine o_alloc zc45 (fun B2 hB2 => ?_)
  have f1_2 : B1 ≠ B2 := Mem.fresh_ne hB2 (by repeat first | exact Mem.upd_self _ _ _ | assumption | refine Mem.upd_ne (by assumption) ?_)
  have g2_1 : B2 ≠ B1 := f1_2.symm
  have m2 : M B2 = none := by have h := hB2; repeat (first | exact h | exact Mem.none_of_le hle h | replace h := (Mem.upd_none h).2)
  refine o_nil ?_
  refine s_seq ?_
  refine s_region ?_
  refine o_q (q_ldmw ag45 sz45 rfl (by repeat first | exact Mem.upd_self _ _ _ | assumption | refine Mem.upd_ne (by assumption) ?_) rfl rfl) rfl rfl rfl ?_
  refine o_call (((snd47 s 0 s.cur s.cur 50 _ (fun M => (snd50 _ _ _ M).det) goes50).det)) goes47 (ac (v_agg rfl) (ac (v_raw rfl) (ac (v_raw rfl) ac_nil))) rfl ?_
  refine o_storew rfl (by repeat first | exact Mem.upd_self _ _ _ | assumption | refine Mem.upd_ne (by assumption) ?_) (by first | exact e_agg rfl | rfl) rfl sz45 rfl rfl rfl rfl ?_
  refine o_nil ?_
  refine s_ret ?_
  refine s_end ?_
  exact ret_cell (.inl rfl) rfl rfl (by repeat first | exact Mem.upd_self _ _ _ | assumption | refine Mem.upd_ne (by assumption) ?_) (loadP_w ag45 sz45 rfl rfl) ⟨rfl, (by repeat first | exact hle | exact Mem.le_refl M | assumption | exact Mem.none_of_le hle (by assumption) | refine Mem.le_upd ?_ ?_)⟩

def tk27 : Nat → Nat → Option Nat := fun _ _ => none
def pl27 : Nat → List PStep := fun _ => []
theorem cb27 : Try.f27.body.map (codeB Try.prog Try.f27.ntmps tk27 pl27) = some true := by kernel_rfl
theorem goes27 : goesB Try.prog 27 = true := by kernel_rfl
-- carillon/subs.Seek params ['subs.Sub', '*topic.Topic', 'int'] results [['cell', 6, 45], ['t', 7]] own [] names ['0:s', '1:t', '2:offset', '3:s', '4:t', '5:offset'] calls [13, 46] paths 4
set_option maxHeartbeats 4000000 in
set_option maxRecDepth 20000 in
theorem snd27 (s : Sb) (t m : Nat) (x : Tp) (o : Int) (M : Mem) (ht : M t = some (.cells (tpC m x))) (hm : M m = some (tpK x)) (htm : t ≠ m) : SoundCall Try.prog 27 [encSb s, ptr t, int o] M fun r M' => r = .tup [encSb (seekS s x o).1, int (seekS s x o).2] ∧ M.le M' := by
  refine SoundCall.go tk27 pl27 mixed Try.func27 cb27 rfl (Nat.le_of_ble_eq_true rfl) ?_
  refine s_seq ?_
  refine s_region ?_
  refine o_box (by first | exact e_raw rfl | exact e_agg rfl | exact e_sl rfl) rfl rfl (fun B1 hB1 => ?_)
  have htm' := htm.symm
  have n1 : t ≠ B1 := Mem.fresh_ne hB1 ht
  have n1' := n1.symm
  have n2 : m ≠ B1 := Mem.fresh_ne hB1 hm
  have n2' := n2.symm
  have m1 : M B1 = none := by have h := hB1; repeat (first | exact h | exact Mem.none_of_le hle h | replace h := (Mem.upd_none h).2)
  refine o_alloc zc45 (fun B2 hB2 => ?_)
  have n3 : t ≠ B2 := Mem.fresh_ne hB2 (by repeat first | exact Mem.upd_self _ _ _ | assumption | refine Mem.upd_ne (by assumption) ?_)
  have n3' := n3.symm
  have n4 : m ≠ B2 := Mem.fresh_ne hB2 (by repeat first | exact Mem.upd_self _ _ _ | assumption | refine Mem.upd_ne (by assumption) ?_)
  have n4' := n4.symm
  have f1_2 : B1 ≠ B2 := Mem.fresh_ne hB2 (by repeat first | exact Mem.upd_self _ _ _ | assumption | refine Mem.upd_ne (by assumption) ?_)
  have g2_1 : B2 ≠ B1 := f1_2.symm
  have m2 : M B2 = none := by have h := hB2; repeat (first | exact h | exact Mem.none_of_le hle h | replace h := (Mem.upd_none h).2)
  refine o_q (q_as (v_raw rfl)) rfl rfl rfl ?_
  refine o_nil ?_
  refine s_seq ?_
  refine s_seq ?_
  refine s_region ?_
  refine o_q (q_ldmw ag45 sz45 rfl (by repeat first | exact Mem.upd_self _ _ _ | assumption | refine Mem.upd_ne (by assumption) ?_) rfl rfl) rfl rfl rfl ?_
  refine o_q (q_mv ((by first | exact v_raw rfl | exact v_sptr rfl))) rfl rfl rfl ?_
  refine o_call (((snd46 s t m x _ (by repeat first | exact Mem.upd_self _ _ _ | assumption | refine Mem.upd_ne (by assumption) ?_) (by repeat first | exact Mem.upd_self _ _ _ | assumption | refine Mem.upd_ne (by assumption) ?_) htm).det)) goes46 (ac (v_agg rfl) (ac ((by first | exact v_raw rfl | exact v_sptr rfl)) ac_nil)) rfl ?_
  refine o_q (q_not rfl) rfl rfl rfl ?_
  refine o_q (q_mv (v_raw rfl)) rfl rfl rfl ?_
  refine o_cases (want := false) (j := 4) rfl rfl (fun h1 => ?_) (fun h1 => ?_)
  · have k1 := h1; try simp only [decide_eq_true_eq, decide_eq_false_iff_not, Bool.not_eq_true', Bool.not_eq_false', Bool.not_true, Bool.not_false, List.length_map, Decidable.not_not] at k1
    refine o_yes rfl rfl rfl h1 ?_
    refine o_q (q_mv (v_raw rfl)) rfl rfl rfl ?_
    refine o_yes rfl rfl rfl h1 ?_
    refine o_q (q_lss rfl rfl) rfl rfl rfl ?_
    refine o_q (q_pick_c (t := false) rfl h1 (v_raw rfl)) rfl rfl rfl ?_
    refine o_q (q_mv (v_raw rfl)) rfl rfl rfl ?_
    refine o_cases (want := false) (j := 8) rfl rfl (fun h2 => ?_) (fun h2 => ?_)
    · have k2 := h2; try simp only [decide_eq_true_eq, decide_eq_false_iff_not, Bool.not_eq_true', Bool.not_eq_false', Bool.not_true, Bool.not_false, List.length_map, Decidable.not_not] at k2
      refine o_yes rfl rfl rfl h2 ?_
      refine o_q (q_mv (v_raw rfl)) rfl rfl rfl ?_
      refine o_yes rfl rfl rfl h2 ?_
      refine o_q (q_mv ((by first | exact v_raw rfl | exact v_sptr rfl))) rfl rfl rfl ?_
      refine o_yes rfl rfl rfl h2 ?_
      refine o_call (((snd13 t m x _ (by repeat first | exact Mem.upd_self _ _ _ | assumption | refine Mem.upd_ne (by assumption) ?_) (by repeat first | exact Mem.upd_self _ _ _ | assumption | refine Mem.upd_ne (by assumption) ?_) htm).det)) goes13 (ac ((by first | exact v_raw rfl | exact v_sptr rfl)) ac_nil) rfl ?_
      refine o_yes rfl rfl rfl h2 ?_
      refine o_q (q_gtr rfl rfl) rfl rfl rfl ?_
      refine o_q (q_pick_c (t := false) rfl h2 (v_raw rfl)) rfl rfl rfl ?_
      refine o_nil ?_
      refine s_cond rfl (fun h3 => ?_) (fun h3 => ?_)
      · have k3 := h3; try simp only [decide_eq_true_eq, decide_eq_false_iff_not, Bool.not_eq_true', Bool.not_eq_false', Bool.not_true, Bool.not_false, List.length_map, Decidable.not_not] at k3
        refine s_seq ?_
        refine s_region ?_
        refine o_q (q_ldmw ag45 sz45 rfl (by repeat first | exact Mem.upd_self _ _ _ | assumption | refine Mem.upd_ne (by assumption) ?_) rfl rfl) rfl rfl rfl ?_
        refine o_storew rfl (by repeat first | exact Mem.upd_self _ _ _ | assumption | refine Mem.upd_ne (by assumption) ?_) (by first | exact e_agg rfl | rfl) rfl sz45 rfl rfl rfl rfl ?_
        refine o_q (q_as (v_raw rfl)) rfl rfl rfl ?_
        refine o_nil ?_
        refine s_ret ?_
        refine s_code_ret ?_
        refine s_end ?_
        exact ret_many (.inl rfl) rfl (rl_c rfl (by repeat first | exact Mem.upd_self _ _ _ | assumption | refine Mem.upd_ne (by assumption) ?_) (loadP_w ag45 sz45 rfl rfl) rfl (rl_t rfl rl_nil)) rfl ⟨by unfold seekS; split <;> first | rfl | (exfalso; simp_all; done) | (exfalso; simp_all; omega), (by repeat first | exact hle | exact Mem.le_refl M | assumption | exact Mem.none_of_le hle (by assumption) | refine Mem.le_upd ?_ ?_)⟩
      · have k3 := h3; try simp only [decide_eq_true_eq, decide_eq_false_iff_not, Bool.not_eq_true', Bool.not_eq_false', Bool.not_true, Bool.not_false, List.length_map, Decidable.not_not] at k3
        refine s_skip ?_
        refine s_seq ?_
        refine s_region ?_
        refine o_q (q_mv (v_raw rfl)) rfl rfl rfl ?_
        refine o_q (q_mv (v_raw rfl)) rfl rfl rfl ?_
        refine o_q (q_fr fo45_2 rfl) rfl rfl rfl ?_
        refine o_store rfl (by repeat first | exact Mem.upd_self _ _ _ | assumption | refine Mem.upd_ne (by assumption) ?_) (by first | exact e_raw rfl | exact e_agg rfl | exact e_sl rfl | rfl) rfl sz3 rfl (Nat.le_of_ble_eq_true rfl) rfl rfl ?_
        refine o_q (q_fr fo45_3 rfl) rfl rfl rfl ?_
        refine o_store rfl (by repeat first | exact Mem.upd_self _ _ _ | assumption | refine Mem.upd_ne (by assumption) ?_) (by first | exact e_raw rfl | exact e_agg rfl | exact e_sl rfl | rfl) rfl sz3 rfl (Nat.le_of_ble_eq_true rfl) rfl rfl ?_
        refine o_nil ?_
        refine s_seq ?_
        refine s_region ?_
        refine o_q (q_ldmw ag45 sz45 rfl (by repeat first | exact Mem.upd_self _ _ _ | assumption | refine Mem.upd_ne (by assumption) ?_) rfl rfl) rfl rfl rfl ?_
        refine o_storew rfl (by repeat first | exact Mem.upd_self _ _ _ | assumption | refine Mem.upd_ne (by assumption) ?_) (by first | exact e_agg rfl | rfl) rfl sz45 rfl rfl rfl rfl ?_
        refine o_q (q_as (v_raw rfl)) rfl rfl rfl ?_
        refine o_nil ?_
        refine s_ret ?_
        refine s_end ?_
        exact ret_many (.inl rfl) rfl (rl_c rfl (by repeat first | exact Mem.upd_self _ _ _ | assumption | refine Mem.upd_ne (by assumption) ?_) (loadP_w ag45 sz45 rfl rfl) rfl (rl_t rfl rl_nil)) rfl ⟨by unfold seekS; split <;> first | rfl | (exfalso; simp_all; done) | (exfalso; simp_all; omega), (by repeat first | exact hle | exact Mem.le_refl M | assumption | exact Mem.none_of_le hle (by assumption) | refine Mem.le_upd ?_ ?_)⟩
    · have k2 := h2; try simp only [decide_eq_true_eq, decide_eq_false_iff_not, Bool.not_eq_true', Bool.not_eq_false', Bool.not_true, Bool.not_false, List.length_map, Decidable.not_not] at k2
      refine o_no rfl rfl rfl rfl h2 ?_
      refine o_no rfl rfl rfl rfl h2 ?_
      refine o_no rfl rfl rfl rfl h2 ?_
      refine o_no rfl rfl rfl rfl h2 ?_
      refine o_q (q_pick_c (t := true) rfl h2 (v_raw rfl)) rfl rfl rfl ?_
      refine o_nil ?_
      refine s_then rfl rfl ?_
      refine s_seq ?_
      refine s_region ?_
      refine o_q (q_ldmw ag45 sz45 rfl (by repeat first | exact Mem.upd_self _ _ _ | assumption | refine Mem.upd_ne (by assumption) ?_) rfl rfl) rfl rfl rfl ?_
      refine o_storew rfl (by repeat first | exact Mem.upd_self _ _ _ | assumption | refine Mem.upd_ne (by assumption) ?_) (by first | exact e_agg rfl | rfl) rfl sz45 rfl rfl rfl rfl ?_
      refine o_q (q_as (v_raw rfl)) rfl rfl rfl ?_
      refine o_nil ?_
      refine s_ret ?_
      refine s_code_ret ?_
      refine s_end ?_
      exact ret_many (.inl rfl) rfl (rl_c rfl (by repeat first | exact Mem.upd_self _ _ _ | assumption | refine Mem.upd_ne (by assumption) ?_) (loadP_w ag45 sz45 rfl rfl) rfl (rl_t rfl rl_nil)) rfl ⟨by unfold seekS; split <;> first | rfl | (exfalso; simp_all; done) | (exfalso; simp_all; omega), (by repeat first | exact hle | exact Mem.le_refl M | assumption | exact Mem.none_of_le hle (by assumption) | refine Mem.le_upd ?_ ?_)⟩
  · have k1 := h1; try simp only [decide_eq_true_eq, decide_eq_false_iff_not, Bool.not_eq_true', Bool.not_eq_false', Bool.not_true, Bool.not_false, List.length_map, Decidable.not_not] at k1
    refine o_no rfl rfl rfl rfl h1 ?_
    refine o_no rfl rfl rfl rfl h1 ?_
    refine o_q (q_pick_c (t := true) rfl h1 (v_raw rfl)) rfl rfl rfl ?_
    refine o_q (q_mv (v_raw rfl)) rfl rfl rfl ?_
    refine o_no rfl rfl rfl rfl rfl ?_
    refine o_no rfl rfl rfl rfl rfl ?_
    refine o_no rfl rfl rfl rfl rfl ?_
    refine o_no rfl rfl rfl rfl rfl ?_
    refine o_q (q_pick_c (t := true) rfl rfl (v_raw rfl)) rfl rfl rfl ?_
    refine o_nil ?_
    refine s_then rfl rfl ?_
    refine s_seq ?_
    refine s_region ?_
    refine o_q (q_ldmw ag45 sz45 rfl (by repeat first | exact Mem.upd_self _ _ _ | assumption | refine Mem.upd_ne (by assumption) ?_) rfl rfl) rfl rfl rfl ?_
    refine o_storew rfl (by repeat first | exact Mem.upd_self _ _ _ | assumption | refine Mem.upd_ne (by assumption) ?_) (by first | exact e_agg rfl | rfl) rfl sz45 rfl rfl rfl rfl ?_
    refine o_q (q_as (v_raw rfl)) rfl rfl rfl ?_
    refine o_nil ?_
    refine s_ret ?_
    refine s_code_ret ?_
    refine s_end ?_
    exact ret_many (.inl rfl) rfl (rl_c rfl (by repeat first | exact Mem.upd_self _ _ _ | assumption | refine Mem.upd_ne (by assumption) ?_) (loadP_w ag45 sz45 rfl rfl) rfl (rl_t rfl rl_nil)) rfl ⟨by unfold seekS; split <;> first | rfl | (exfalso; simp_all; done) | (exfalso; simp_all; omega), (by repeat first | exact hle | exact Mem.le_refl M | assumption | exact Mem.none_of_le hle (by assumption) | refine Mem.le_upd ?_ ?_)⟩

def tk23 : Nat → Nat → Option Nat := fun _ _ => none
def pl23 : Nat → List PStep := fun _ => []
theorem cb23 : Try.f23.body.map (codeB Try.prog Try.f23.ntmps tk23 pl23) = some true := by kernel_rfl
theorem goes23 : goesB Try.prog 23 = true := by kernel_rfl
-- carillon/subs.New params ['string', '*topic.Topic', 'int'] results [['cell', 6, 45], ['t', 7]] own [] names ['0:name', '1:t', '2:first', '3:name', '4:t', '5:first'] calls [13, 40, 45] paths 6
set_option maxHeartbeats 4000000 in
set_option maxRecDepth 20000 in
theorem snd23 (n : ByteArray) (t m : Nat) (x : Tp) (o : Int) (M : Mem) (ht : M t = some (.cells (tpC m x))) (hm : M m = some (tpK x)) (htm : t ≠ m) : SoundCall Try.prog 23 [str n, ptr t, int o] M fun r M' => r = .tup [encSb (newS n x o).1, int (newS n x o).2] ∧ M.le M' := by
  refine SoundCall.go tk23 pl23 mixed Try.func23 cb23 rfl (Nat.le_of_ble_eq_true rfl) ?_
  refine s_seq ?_
  refine s_region ?_
  refine o_alloc zc45 (fun B1 hB1 => ?_)
  have htm' := htm.symm
  have n1 : t ≠ B1 := Mem.fresh_ne hB1 ht
  have n1' := n1.symm
  have n2 : m ≠ B1 := Mem.fresh_ne hB1 hm
  have n2' := n2.symm
  have m1 : M B1 = none := by have h := hB1; repeat (first | exact h | exact Mem.none_of_le hle h | replace h := (Mem.upd_none h).2)
  refine o_q (q_as (v_raw rfl)) rfl rfl rfl ?_
  refine o_nil ?_
  refine s_seq ?_
  refine s_seq ?_
  refine s_region ?_
  refine o_q (q_mv (v_raw rfl)) rfl rfl rfl ?_
  refine o_q (q_lss rfl rfl) rfl rfl rfl ?_
  refine o_nil ?_
  refine s_cond rfl (fun h1 => ?_) (fun h1 => ?_)
  · have k1 := h1; try simp only [decide_eq_true_eq, decide_eq_false_iff_not, Bool.not_eq_true', Bool.not_eq_false', Bool.not_true, Bool.not_false, List.length_map, Decidable.not_not] at k1
    have e : (if o < 0 then x.en else o) = x.en := if_pos k1
    refine s_region ?_
    refine o_q (q_mv ((by first | exact v_raw rfl | exact v_sptr rfl))) rfl rfl rfl ?_
    refine o_call (((snd13 t m x _ (by repeat first | exact Mem.upd_self _ _ _ | assumption | refine Mem.upd_ne (by assumption) ?_) (by repeat first | exact Mem.upd_self _ _ _ | assumption | refine Mem.upd_ne (by assumption) ?_) htm).det)) goes13 (ac ((by first | exact v_raw rfl | exact v_sptr rfl)) ac_nil) rfl ?_
    refine o_q (q_as (v_raw rfl)) rfl rfl rfl ?_
    refine o_nil ?_
    refine s_seq ?_
    refine s_seq ?_
    refine s_region ?_
    refine o_q (q_mv (v_raw rfl)) rfl rfl rfl ?_
    refine o_call (((snd40 n _).det)) goes40 (ac (v_raw rfl) ac_nil) rfl ?_
    refine o_q (q_not rfl) rfl rfl rfl ?_
    refine o_q (q_mv (v_raw rfl)) rfl rfl rfl ?_
    refine o_cases (want := false) (j := 3) rfl rfl (fun h2 => ?_) (fun h2 => ?_)
    · have k2 := h2; try simp only [decide_eq_true_eq, decide_eq_false_iff_not, Bool.not_eq_true', Bool.not_eq_false', Bool.not_true, Bool.not_false, List.length_map, Decidable.not_not] at k2
      refine o_yes rfl rfl rfl h2 ?_
      refine o_q (q_mv (v_raw rfl)) rfl rfl rfl ?_
      refine o_yes rfl rfl rfl h2 ?_
      refine o_q (q_mv ((by first | exact v_raw rfl | exact v_sptr rfl))) rfl rfl rfl ?_
      refine o_yes rfl rfl rfl h2 ?_
      refine o_call (((snd13 t m x _ (by repeat first | exact Mem.upd_self _ _ _ | assumption | refine Mem.upd_ne (by assumption) ?_) (by repeat first | exact Mem.upd_self _ _ _ | assumption | refine Mem.upd_ne (by assumption) ?_) htm).det)) goes13 (ac ((by first | exact v_raw rfl | exact v_sptr rfl)) ac_nil) rfl ?_
      refine o_yes rfl rfl rfl h2 ?_
      refine o_q (q_gtr rfl rfl) rfl rfl rfl ?_
      refine o_q (q_pick_c (t := false) rfl h2 (v_raw rfl)) rfl rfl rfl ?_
      refine o_nil ?_
      refine s_cond rfl (fun h3 => ?_) (fun h3 => ?_)
      · have k3 := h3; try simp only [decide_eq_true_eq, decide_eq_false_iff_not, Bool.not_eq_true', Bool.not_eq_false', Bool.not_true, Bool.not_false, List.length_map, Decidable.not_not] at k3
        refine s_seq ?_
        refine s_region ?_
        refine o_q (q_b (cs := [.raw (.string { data := #[] }), .raw (.string { data := #[] }), .raw (.int .i64 0), .raw (.int .i64 0)]) bz45 bp45 bf_nil) rfl rfl rfl ?_
        refine o_storew rfl (by repeat first | exact Mem.upd_self _ _ _ | assumption | refine Mem.upd_ne (by assumption) ?_) (by first | exact e_agg rfl | rfl) rfl sz45 rfl rfl rfl rfl ?_
        refine o_q (q_as (v_raw rfl)) rfl rfl rfl ?_
        refine o_nil ?_
        refine s_ret ?_
        refine s_code_ret ?_
        refine s_end ?_
        exact ret_many (.inl rfl) rfl (rl_c rfl (by repeat first | exact Mem.upd_self _ _ _ | assumption | refine Mem.upd_ne (by assumption) ?_) (loadP_w ag45 sz45 rfl rfl) rfl (rl_t rfl rl_nil)) rfl ⟨by unfold newS; simp only [e]; split <;> first | rfl | (exfalso; simp_all; done) | (exfalso; simp_all; omega), (by repeat first | exact hle | exact Mem.le_refl M | assumption | exact Mem.none_of_le hle (by assumption) | refine Mem.le_upd ?_ ?_)⟩
      · have k3 := h3; try simp only [decide_eq_true_eq, decide_eq_false_iff_not, Bool.not_eq_true', Bool.not_eq_false', Bool.not_true, Bool.not_false, List.length_map, Decidable.not_not] at k3
        refine s_skip ?_
        refine s_seq ?_
        refine s_region ?_
        refine o_q (q_mv (v_raw rfl)) rfl rfl rfl ?_
        refine o_q (q_mv ((by first | exact v_raw rfl | exact v_sptr rfl))) rfl rfl rfl ?_
        refine o_call (((snd45 t m x _ (by repeat first | exact Mem.upd_self _ _ _ | assumption | refine Mem.upd_ne (by assumption) ?_) (by repeat first | exact Mem.upd_self _ _ _ | assumption | refine Mem.upd_ne (by assumption) ?_) htm).det)) goes45 (ac ((by first | exact v_raw rfl | exact v_sptr rfl)) ac_nil) rfl ?_
        refine o_q (q_mv (v_raw rfl)) rfl rfl rfl ?_
        refine o_q (q_mv (v_raw rfl)) rfl rfl rfl ?_
        refine o_q (q_b (cs := [_, _, _, _]) bz45 bp45 (bf fo45_0 (e_raw rfl) rfl rfl (Nat.le_of_ble_eq_true rfl) rfl (bf fo45_1 (e_raw rfl) rfl rfl (Nat.le_of_ble_eq_true rfl) rfl (bf fo45_2 (e_raw rfl) rfl rfl (Nat.le_of_ble_eq_true rfl) rfl (bf fo45_3 (e_raw rfl) rfl rfl (Nat.le_of_ble_eq_true rfl) rfl bf_nil))))) rfl rfl rfl ?_
        refine o_storew rfl (by repeat first | exact Mem.upd_self _ _ _ | assumption | refine Mem.upd_ne (by assumption) ?_) (by first | exact e_agg rfl | rfl) rfl sz45 rfl rfl rfl rfl ?_
        refine o_q (q_as (v_raw rfl)) rfl rfl rfl ?_
        refine o_nil ?_
        refine s_ret ?_
        refine s_end ?_
        exact ret_many (.inl rfl) rfl (rl_c rfl (by repeat first | exact Mem.upd_self _ _ _ | assumption | refine Mem.upd_ne (by assumption) ?_) (loadP_w ag45 sz45 rfl rfl) rfl (rl_t rfl rl_nil)) rfl ⟨by unfold newS; simp only [e]; split <;> first | rfl | (exfalso; simp_all; done) | (exfalso; simp_all; omega), (by repeat first | exact hle | exact Mem.le_refl M | assumption | exact Mem.none_of_le hle (by assumption) | refine Mem.le_upd ?_ ?_)⟩
    · have k2 := h2; try simp only [decide_eq_true_eq, decide_eq_false_iff_not, Bool.not_eq_true', Bool.not_eq_false', Bool.not_true, Bool.not_false, List.length_map, Decidable.not_not] at k2
      refine o_no rfl rfl rfl rfl h2 ?_
      refine o_no rfl rfl rfl rfl h2 ?_
      refine o_no rfl rfl rfl rfl h2 ?_
      refine o_no rfl rfl rfl rfl h2 ?_
      refine o_q (q_pick_c (t := true) rfl h2 (v_raw rfl)) rfl rfl rfl ?_
      refine o_nil ?_
      refine s_then rfl rfl ?_
      refine s_seq ?_
      refine s_region ?_
      refine o_q (q_b (cs := [.raw (.string { data := #[] }), .raw (.string { data := #[] }), .raw (.int .i64 0), .raw (.int .i64 0)]) bz45 bp45 bf_nil) rfl rfl rfl ?_
      refine o_storew rfl (by repeat first | exact Mem.upd_self _ _ _ | assumption | refine Mem.upd_ne (by assumption) ?_) (by first | exact e_agg rfl | rfl) rfl sz45 rfl rfl rfl rfl ?_
      refine o_q (q_as (v_raw rfl)) rfl rfl rfl ?_
      refine o_nil ?_
      refine s_ret ?_
      refine s_code_ret ?_
      refine s_end ?_
      exact ret_many (.inl rfl) rfl (rl_c rfl (by repeat first | exact Mem.upd_self _ _ _ | assumption | refine Mem.upd_ne (by assumption) ?_) (loadP_w ag45 sz45 rfl rfl) rfl (rl_t rfl rl_nil)) rfl ⟨by unfold newS; simp only [e]; split <;> first | rfl | (exfalso; simp_all; done) | (exfalso; simp_all; omega), (by repeat first | exact hle | exact Mem.le_refl M | assumption | exact Mem.none_of_le hle (by assumption) | refine Mem.le_upd ?_ ?_)⟩
  · have k1 := h1; try simp only [decide_eq_true_eq, decide_eq_false_iff_not, Bool.not_eq_true', Bool.not_eq_false', Bool.not_true, Bool.not_false, List.length_map, Decidable.not_not] at k1
    have e : (if o < 0 then x.en else o) = o := if_neg k1
    refine s_skip ?_
    refine s_seq ?_
    refine s_seq ?_
    refine s_region ?_
    refine o_q (q_mv (v_raw rfl)) rfl rfl rfl ?_
    refine o_call (((snd40 n _).det)) goes40 (ac (v_raw rfl) ac_nil) rfl ?_
    refine o_q (q_not rfl) rfl rfl rfl ?_
    refine o_q (q_mv (v_raw rfl)) rfl rfl rfl ?_
    refine o_cases (want := false) (j := 3) rfl rfl (fun h4 => ?_) (fun h4 => ?_)
    · have k4 := h4; try simp only [decide_eq_true_eq, decide_eq_false_iff_not, Bool.not_eq_true', Bool.not_eq_false', Bool.not_true, Bool.not_false, List.length_map, Decidable.not_not] at k4
      refine o_yes rfl rfl rfl h4 ?_
      refine o_q (q_mv (v_raw rfl)) rfl rfl rfl ?_
      refine o_yes rfl rfl rfl h4 ?_
      refine o_q (q_mv ((by first | exact v_raw rfl | exact v_sptr rfl))) rfl rfl rfl ?_
      refine o_yes rfl rfl rfl h4 ?_
      refine o_call (((snd13 t m x _ (by repeat first | exact Mem.upd_self _ _ _ | assumption | refine Mem.upd_ne (by assumption) ?_) (by repeat first | exact Mem.upd_self _ _ _ | assumption | refine Mem.upd_ne (by assumption) ?_) htm).det)) goes13 (ac ((by first | exact v_raw rfl | exact v_sptr rfl)) ac_nil) rfl ?_
      refine o_yes rfl rfl rfl h4 ?_
      refine o_q (q_gtr rfl rfl) rfl rfl rfl ?_
      refine o_q (q_pick_c (t := false) rfl h4 (v_raw rfl)) rfl rfl rfl ?_
      refine o_nil ?_
      refine s_cond rfl (fun h5 => ?_) (fun h5 => ?_)
      · have k5 := h5; try simp only [decide_eq_true_eq, decide_eq_false_iff_not, Bool.not_eq_true', Bool.not_eq_false', Bool.not_true, Bool.not_false, List.length_map, Decidable.not_not] at k5
        refine s_seq ?_
        refine s_region ?_
        refine o_q (q_b (cs := [.raw (.string { data := #[] }), .raw (.string { data := #[] }), .raw (.int .i64 0), .raw (.int .i64 0)]) bz45 bp45 bf_nil) rfl rfl rfl ?_
        refine o_storew rfl (by repeat first | exact Mem.upd_self _ _ _ | assumption | refine Mem.upd_ne (by assumption) ?_) (by first | exact e_agg rfl | rfl) rfl sz45 rfl rfl rfl rfl ?_
        refine o_q (q_as (v_raw rfl)) rfl rfl rfl ?_
        refine o_nil ?_
        refine s_ret ?_
        refine s_code_ret ?_
        refine s_end ?_
        exact ret_many (.inl rfl) rfl (rl_c rfl (by repeat first | exact Mem.upd_self _ _ _ | assumption | refine Mem.upd_ne (by assumption) ?_) (loadP_w ag45 sz45 rfl rfl) rfl (rl_t rfl rl_nil)) rfl ⟨by unfold newS; simp only [e]; split <;> first | rfl | (exfalso; simp_all; done) | (exfalso; simp_all; omega), (by repeat first | exact hle | exact Mem.le_refl M | assumption | exact Mem.none_of_le hle (by assumption) | refine Mem.le_upd ?_ ?_)⟩
      · have k5 := h5; try simp only [decide_eq_true_eq, decide_eq_false_iff_not, Bool.not_eq_true', Bool.not_eq_false', Bool.not_true, Bool.not_false, List.length_map, Decidable.not_not] at k5
        refine s_skip ?_
        refine s_seq ?_
        refine s_region ?_
        refine o_q (q_mv (v_raw rfl)) rfl rfl rfl ?_
        refine o_q (q_mv ((by first | exact v_raw rfl | exact v_sptr rfl))) rfl rfl rfl ?_
        refine o_call (((snd45 t m x _ (by repeat first | exact Mem.upd_self _ _ _ | assumption | refine Mem.upd_ne (by assumption) ?_) (by repeat first | exact Mem.upd_self _ _ _ | assumption | refine Mem.upd_ne (by assumption) ?_) htm).det)) goes45 (ac ((by first | exact v_raw rfl | exact v_sptr rfl)) ac_nil) rfl ?_
        refine o_q (q_mv (v_raw rfl)) rfl rfl rfl ?_
        refine o_q (q_mv (v_raw rfl)) rfl rfl rfl ?_
        refine o_q (q_b (cs := [_, _, _, _]) bz45 bp45 (bf fo45_0 (e_raw rfl) rfl rfl (Nat.le_of_ble_eq_true rfl) rfl (bf fo45_1 (e_raw rfl) rfl rfl (Nat.le_of_ble_eq_true rfl) rfl (bf fo45_2 (e_raw rfl) rfl rfl (Nat.le_of_ble_eq_true rfl) rfl (bf fo45_3 (e_raw rfl) rfl rfl (Nat.le_of_ble_eq_true rfl) rfl bf_nil))))) rfl rfl rfl ?_
        refine o_storew rfl (by repeat first | exact Mem.upd_self _ _ _ | assumption | refine Mem.upd_ne (by assumption) ?_) (by first | exact e_agg rfl | rfl) rfl sz45 rfl rfl rfl rfl ?_
        refine o_q (q_as (v_raw rfl)) rfl rfl rfl ?_
        refine o_nil ?_
        refine s_ret ?_
        refine s_end ?_
        exact ret_many (.inl rfl) rfl (rl_c rfl (by repeat first | exact Mem.upd_self _ _ _ | assumption | refine Mem.upd_ne (by assumption) ?_) (loadP_w ag45 sz45 rfl rfl) rfl (rl_t rfl rl_nil)) rfl ⟨by unfold newS; simp only [e]; split <;> first | rfl | (exfalso; simp_all; done) | (exfalso; simp_all; omega), (by repeat first | exact hle | exact Mem.le_refl M | assumption | exact Mem.none_of_le hle (by assumption) | refine Mem.le_upd ?_ ?_)⟩
    · have k4 := h4; try simp only [decide_eq_true_eq, decide_eq_false_iff_not, Bool.not_eq_true', Bool.not_eq_false', Bool.not_true, Bool.not_false, List.length_map, Decidable.not_not] at k4
      refine o_no rfl rfl rfl rfl h4 ?_
      refine o_no rfl rfl rfl rfl h4 ?_
      refine o_no rfl rfl rfl rfl h4 ?_
      refine o_no rfl rfl rfl rfl h4 ?_
      refine o_q (q_pick_c (t := true) rfl h4 (v_raw rfl)) rfl rfl rfl ?_
      refine o_nil ?_
      refine s_then rfl rfl ?_
      refine s_seq ?_
      refine s_region ?_
      refine o_q (q_b (cs := [.raw (.string { data := #[] }), .raw (.string { data := #[] }), .raw (.int .i64 0), .raw (.int .i64 0)]) bz45 bp45 bf_nil) rfl rfl rfl ?_
      refine o_storew rfl (by repeat first | exact Mem.upd_self _ _ _ | assumption | refine Mem.upd_ne (by assumption) ?_) (by first | exact e_agg rfl | rfl) rfl sz45 rfl rfl rfl rfl ?_
      refine o_q (q_as (v_raw rfl)) rfl rfl rfl ?_
      refine o_nil ?_
      refine s_ret ?_
      refine s_code_ret ?_
      refine s_end ?_
      exact ret_many (.inl rfl) rfl (rl_c rfl (by repeat first | exact Mem.upd_self _ _ _ | assumption | refine Mem.upd_ne (by assumption) ?_) (loadP_w ag45 sz45 rfl rfl) rfl (rl_t rfl rl_nil)) rfl ⟨by unfold newS; simp only [e]; split <;> first | rfl | (exfalso; simp_all; done) | (exfalso; simp_all; omega), (by repeat first | exact hle | exact Mem.le_refl M | assumption | exact Mem.none_of_le hle (by assumption) | refine Mem.le_upd ?_ ?_)⟩

def tk24 : Nat → Nat → Option Nat := fun _ _ => none
def pl24 : Nat → List PStep
  | 1 => [.q 0, .q 1, .s 2 [], .q 3, .q 4, .q 5, .q 6, .q 7, .s 8 [6, 5, 3, 1, 0], .q 9, .q 10, .q 11, .q 12, .q 13, .q 14, .q 15, .q 16, .q 17, .q 18]
  | 4 => [.q 0, .q 1, .q 2, .s 3 [1, 0], .q 4, .q 5, .q 6]
  | 8 => [.q 0, .q 1, .q 2, .q 3, .q 4, .q 5, .q 6, .q 7, .s 8 [6, 5, 4, 3, 2, 1], .s 9 []]
  | _ => []
theorem cb24 : Try.f24.body.map (codeB Try.prog Try.f24.ntmps tk24 pl24) = some true := by kernel_rfl
theorem goes24 : goesB Try.prog 24 = true := by kernel_rfl
-- carillon/subs.Poll params ['subs.Sub', '*topic.Topic', 'int'] results [['cell', 6, 45], ['t', 7], ['t', 8]] own [] names ['0:s', '1:t', '2:many', '3:s', '4:t', '5:many', '9:l', '10:edge'] calls [13, 15, 20, 46, 47] paths 9

theorem last_take {L : List Rec} {k i : Nat} (h : i < (L.take k).length) (hk : k ≤ L.length) (hi : i = k - 1) (hk0 : 0 < k) : (L.take k)[i] = L[k - 1]'(by omega) := by
  subst hi
  rw [List.getElem_take]
theorem nxt_last {l : List Rec} {j : Nat} (hj' : j < l.length) (hj : j = l.length - 1) (n : Int) : (match l.getLast? with | none => n | some r => r.off + 1) = l[j].off + 1 := by
  subst hj
  rw [List.getLast?_eq_getElem?, List.getElem?_eq_getElem hj']
theorem pollL_sub (s : Sb) (x : Tp) (many : Int) : List.Sublist (pollL s x many) x.recs := (List.take_sublist _ _).trans (readL_sub _ _ _)
set_option maxHeartbeats 4000000 in
set_option maxRecDepth 20000 in
theorem snd24 (s : Sb) (t m : Nat) (x : Tp) (many : Int) (M : Mem) (ht : M t = some (.cells (tpC m x))) (hm : M m = some (tpK x)) (htm : t ≠ m) (hs : Sorted x.recs) (hlen : x.recs.length < 2 ^ 40) (hoff : ∀ r ∈ x.recs, 0 ≤ r.off ∧ r.off < 2 ^ 60) (hlow : 0 ≤ x.low ∧ x.low < 2 ^ 60) : SoundCall Try.prog 24 [encSb s, ptr t, int many] M fun r M' => r = .tup [encSb (pollS s x many).1, .sl ((pollS s x many).2.1.map enc) false, int (pollS s x many).2.2] ∧ M.le M' := by
  have hrl := readL_len x.recs s.nxt many
  have hsL : Sorted (readL x.recs s.nxt many) := sorted_sub hs (readL_sub _ _ _)
  have hpl := (pollL_sub s x many).length_le
  refine SoundCall.go tk24 pl24 mixed Try.func24 cb24 rfl (Nat.le_of_ble_eq_true rfl) ?_
  refine s_seq ?_
  refine s_region ?_
  refine o_box (by first | exact e_raw rfl | exact e_agg rfl | exact e_sl rfl) rfl rfl (fun B1 hB1 => ?_)
  have htm' := htm.symm
  have n1 : t ≠ B1 := Mem.fresh_ne hB1 ht
  have n1' := n1.symm
  have n2 : m ≠ B1 := Mem.fresh_ne hB1 hm
  have n2' := n2.symm
  have m1 : M B1 = none := by have h := hB1; repeat (first | exact h | exact Mem.none_of_le hle h | replace h := (Mem.upd_none h).2)
  refine o_alloc zc45 (fun B2 hB2 => ?_)
  have n3 : t ≠ B2 := Mem.fresh_ne hB2 (by repeat first | exact Mem.upd_self _ _ _ | assumption | refine Mem.upd_ne (by assumption) ?_)
  have n3' := n3.symm
  have n4 : m ≠ B2 := Mem.fresh_ne hB2 (by repeat first | exact Mem.upd_self _ _ _ | assumption | refine Mem.upd_ne (by assumption) ?_)
  have n4' := n4.symm
  have f1_2 : B1 ≠ B2 := Mem.fresh_ne hB2 (by repeat first | exact Mem.upd_self _ _ _ | assumption | refine Mem.upd_ne (by assumption) ?_)
  have g2_1 : B2 ≠ B1 := f1_2.symm
  have m2 : M B2 = none := by have h := hB2; repeat (first | exact h | exact Mem.none_of_le hle h | replace h := (Mem.upd_none h).2)
  refine o_q (q_as (v_sl rfl)) rfl rfl rfl ?_
  refine o_q (q_as (v_raw rfl)) rfl rfl rfl ?_
  refine o_nil ?_
  refine s_seq ?_
  refine s_seq ?_
  refine s_draw rfl ?_
  refine d_q rfl (q_ldmw ag45 sz45 rfl (by repeat first | exact Mem.upd_self _ _ _ | assumption | refine Mem.upd_ne (by assumption) ?_) rfl rfl) rfl rfl rfl ?_
  refine d_q rfl (q_mv ((by first | exact v_raw rfl | exact v_sptr rfl))) rfl rfl rfl ?_
  refine d_s rfl ?_
  refine o_call (((snd46 s t m x _ (by repeat first | exact Mem.upd_self _ _ _ | assumption | refine Mem.upd_ne (by assumption) ?_) (by repeat first | exact Mem.upd_self _ _ _ | assumption | refine Mem.upd_ne (by assumption) ?_) htm).det)) goes46 (ac (v_agg rfl) (ac ((by first | exact v_raw rfl | exact v_sptr rfl)) ac_nil)) rfl ?_
  refine o_nil ⟨(by simp [Mem.upd, *]), ?_⟩
  refine d_q rfl (q_not rfl) rfl rfl rfl ?_
  refine d_q rfl (q_mv (v_raw rfl)) rfl rfl rfl ?_
  refine d_cases (want := false) (j := 4) rfl rfl (fun h1 => ?_) (fun h1 => ?_)
  · have k1 := h1; try simp only [decide_eq_true_eq, decide_eq_false_iff_not, Bool.not_eq_true', Bool.not_eq_false', Bool.not_true, Bool.not_false, List.length_map, Decidable.not_not] at k1
    refine d_yes rfl (q_fr fo45_3 rfl) rfl rfl rfl h1 rfl rfl ?_
    refine d_yes rfl (q_ldm ag3 sz3 rfl (by repeat first | exact Mem.upd_self _ _ _ | assumption | refine Mem.upd_ne (by assumption) ?_) rfl (v_raw rfl)) rfl rfl rfl h1 rfl rfl ?_
    refine d_yes rfl (q_mv ((by first | exact v_raw rfl | exact v_sptr rfl))) rfl rfl rfl h1 rfl rfl ?_
    refine d_s rfl ?_
    refine o_yes rfl rfl rfl h1 ?_
    refine o_call (((snd13 t m x _ (by repeat first | exact Mem.upd_self _ _ _ | assumption | refine Mem.upd_ne (by assumption) ?_) (by repeat first | exact Mem.upd_self _ _ _ | assumption | refine Mem.upd_ne (by assumption) ?_) htm).det)) goes13 (ac ((by first | exact v_raw rfl | exact v_sptr rfl)) ac_nil) rfl ?_
    refine o_nil ⟨(by simp [Mem.upd, *]), ?_⟩
    refine d_yes rfl (q_gtr rfl rfl) rfl rfl rfl h1 rfl rfl ?_
    refine d_q rfl (q_pick_c (t := false) rfl h1 (v_raw rfl)) rfl rfl rfl ?_
    refine d_q rfl (q_mv (v_raw rfl)) rfl rfl rfl ?_
    refine d_cases (want := false) (j := 11) rfl rfl (fun h2 => ?_) (fun h2 => ?_)
    · have k2 := h2; try simp only [decide_eq_true_eq, decide_eq_false_iff_not, Bool.not_eq_true', Bool.not_eq_false', Bool.not_true, Bool.not_false, List.length_map, Decidable.not_not] at k2
      refine d_yes rfl (q_mv (v_raw rfl)) rfl rfl rfl h2 rfl rfl ?_
      refine d_yes rfl (q_lss rfl rfl) rfl rfl rfl h2 rfl rfl ?_
      refine d_q rfl (q_pick_c (t := false) rfl h2 (v_raw rfl)) rfl rfl rfl ?_
      refine d_q rfl (q_mv (v_raw rfl)) rfl rfl rfl ?_
      refine d_cases (want := false) (j := 15) rfl rfl (fun h3 => ?_) (fun h3 => ?_)
      · have k3 := h3; try simp only [decide_eq_true_eq, decide_eq_false_iff_not, Bool.not_eq_true', Bool.not_eq_false', Bool.not_true, Bool.not_false, List.length_map, Decidable.not_not] at k3
        refine d_yes rfl (q_mv (v_raw rfl)) rfl rfl rfl h3 rfl rfl ?_
        refine d_yes rfl (q_gtr rfl rfl) rfl rfl rfl h3 rfl rfl ?_
        refine d_q rfl (q_pick_c (t := false) rfl h3 (v_raw rfl)) rfl rfl rfl ?_
        refine d_nil ?_
        refine s_cond rfl (fun h4 => ?_) (fun h4 => ?_)
        · have k4 := h4; try simp only [decide_eq_true_eq, decide_eq_false_iff_not, Bool.not_eq_true', Bool.not_eq_false', Bool.not_true, Bool.not_false, List.length_map, Decidable.not_not] at k4
          refine s_seq ?_
          refine s_region ?_
          refine o_q (q_ldmw ag45 sz45 rfl (by repeat first | exact Mem.upd_self _ _ _ | assumption | refine Mem.upd_ne (by assumption) ?_) rfl rfl) rfl rfl rfl ?_
          refine o_storew rfl (by repeat first | exact Mem.upd_self _ _ _ | assumption | refine Mem.upd_ne (by assumption) ?_) (by first | exact e_agg rfl | rfl) rfl sz45 rfl rfl rfl rfl ?_
          refine o_q (q_as (v_sl rfl)) rfl rfl rfl ?_
          refine o_q (q_as (v_raw rfl)) rfl rfl rfl ?_
          refine o_nil ?_
          refine s_ret ?_
          refine s_code_ret ?_
          refine s_end ?_
          exact ret_many (.inl rfl) rfl (rl_c rfl (by repeat first | exact Mem.upd_self _ _ _ | assumption | refine Mem.upd_ne (by assumption) ?_) (loadP_w ag45 sz45 rfl rfl) rfl (rl_t rfl (rl_t rfl rl_nil))) rfl ⟨by unfold pollS; split <;> first | rfl | (exfalso; simp_all; done) | (exfalso; simp_all; omega), (by repeat first | exact hle | exact Mem.le_refl M | assumption | exact Mem.none_of_le hle (by assumption) | refine Mem.le_upd ?_ ?_)⟩
        · have k4 := h4; try simp only [decide_eq_true_eq, decide_eq_false_iff_not, Bool.not_eq_true', Bool.not_eq_false', Bool.not_true, Bool.not_false, List.length_map, Decidable.not_not] at k4
          have hc : (ofS s x && decide (s.nxt ≤ x.en) && decide (1 ≤ many) && decide (many ≤ 50)) = true := by simp_all <;> omega
          have hri : rightS s = true := by simp_all [ofS]
          have hrl := rightS_le hri
          refine s_skip ?_
          refine s_seq ?_
          refine s_region ?_
          refine o_q (q_mv ((by first | exact v_raw rfl | exact v_sptr rfl))) rfl rfl rfl ?_
          refine o_q (q_fr fo45_3 rfl) rfl rfl rfl ?_
          refine o_q (q_ldm ag3 sz3 rfl (by repeat first | exact Mem.upd_self _ _ _ | assumption | refine Mem.upd_ne (by assumption) ?_) rfl (v_raw rfl)) rfl rfl rfl ?_
          refine o_q (q_mv (v_raw rfl)) rfl rfl rfl ?_
          refine o_call ((snd15 t m x s.nxt many _ (by repeat first | exact Mem.upd_self _ _ _ | assumption | refine Mem.upd_ne (by assumption) ?_) hs hlen)) goes15 (ac ((by first | exact v_raw rfl | exact v_sptr rfl)) (ac (v_raw rfl) (ac (v_raw rfl) ac_nil))) rfl ?_
          refine o_q (q_as (v_sl rfl)) rfl rfl rfl ?_
          refine o_nil ?_
          refine s_seq ?_
          refine s_draw rfl ?_
          refine d_q rfl (q_fr fo45_2 rfl) rfl rfl rfl ?_
          refine d_q rfl (q_ldm ag3 sz3 rfl (by repeat first | exact Mem.upd_self _ _ _ | assumption | refine Mem.upd_ne (by assumption) ?_) rfl (v_raw rfl)) rfl rfl rfl ?_
          refine d_q rfl (q_mv ((by first | exact v_raw rfl | exact v_sptr rfl))) rfl rfl rfl ?_
          refine d_s rfl ?_
          refine o_call (((snd20 t m x _ (by repeat first | exact Mem.upd_self _ _ _ | assumption | refine Mem.upd_ne (by assumption) ?_) (by repeat first | exact Mem.upd_self _ _ _ | assumption | refine Mem.upd_ne (by assumption) ?_) htm).det)) goes20 (ac ((by first | exact v_raw rfl | exact v_sptr rfl)) ac_nil) rfl ?_
          refine o_nil ⟨(by simp [Mem.upd, *]), ?_⟩
          refine d_q rfl (q_max rfl rfl) rfl rfl rfl ?_
          refine d_q rfl (q_add rfl rfl (wrap64 (by omega) (by omega))) rfl rfl rfl ?_
          refine d_q rfl (q_as (v_raw rfl)) rfl rfl rfl ?_
          refine d_nil ?_
          refine s_seq ?_
          refine s_cut (fun S => ∃ T, ∃ M' : Mem, S = ⟨setT (setT (setT (setT T 3 (ptr B1)) 6 (ptr B2)) 8 (int 0)) 9 (.sl ((pollL s x many).map enc) false), M'⟩ ∧ M.le M' ∧ M' B1 = some (.cells [str s.name, str s.topic, int s.cur, int s.nxt]) ∧ M' B2 = some (.cells [str emp, str emp, int 0, int 0])) ?_ ?_
          · skip
            refine s_block ?_
            refine s_loop (fun m S => ∃ T, ∃ M' : Mem, ∃ k : Nat, S = ⟨setT (setT (setT (setT (setT T 3 (ptr B1)) 6 (ptr B2)) 8 (int 0)) 9 (.sl (((readL x.recs s.nxt many).take k).map enc) false)) 10 (int (edge s x)), M'⟩ ∧ M.le M' ∧ M' B1 = some (.cells [str s.name, str s.topic, int s.cur, int s.nxt]) ∧ M' B2 = some (.cells [str emp, str emp, int 0, int 0]) ∧ atN (readL x.recs s.nxt many) (edge s x) ≤ k ∧ k ≤ (readL x.recs s.nxt many).length ∧ k = m) (readL x.recs s.nxt many).length ?_ ?_
            · exact ⟨_, _, (readL x.recs s.nxt many).length, St.mkT (kp (kp (kp (kp (kp rfl rfl) rfl) rfl) (congrArg (fun l => AVal.sl (List.map enc l) false) (List.take_length).symm)) rfl).symm, (by repeat first | exact hle | exact Mem.le_refl M | assumption | exact Mem.none_of_le hle (by assumption) | refine Mem.le_upd ?_ ?_), (by repeat first | exact Mem.upd_self _ _ _ | assumption | refine Mem.upd_ne (by assumption) ?_), (by repeat first | exact Mem.upd_self _ _ _ | assumption | refine Mem.upd_ne (by assumption) ?_), atN_le _ _, Nat.le_refl _, rfl⟩
            rintro m S ⟨T, M', k, rfl, hle, hB1, hB2, hak, hkl, rfl⟩
            have hlk2 : ((readL x.recs s.nxt many).take k).length = k := by rw [List.length_take]; omega
            have hlk : (List.map enc ((readL x.recs s.nxt many).take k)).length = k := by rw [List.length_map, hlk2]
            refine s_seq ?_
            refine s_seq ?_
            refine s_region ?_
            refine o_q (q_mv (v_sl rfl)) rfl rfl rfl ?_
            refine o_q (q_len rfl und28 rfl) rfl rfl rfl ?_
            refine o_q (q_gtr rfl rfl) rfl rfl rfl ?_
            refine o_q (q_mv (v_raw rfl)) rfl rfl rfl ?_
            refine o_cases (want := true) (j := 3) rfl rfl (fun h5 => ?_) (fun h5 => ?_)
            · have k5 := h5; try simp only [decide_eq_true_eq, decide_eq_false_iff_not, Bool.not_eq_true', Bool.not_eq_false', Bool.not_true, Bool.not_false, List.length_map, Decidable.not_not] at k5
              refine o_yes rfl rfl rfl h5 ?_
              refine o_q (q_mv (v_sl rfl)) rfl rfl rfl ?_
              refine o_yes rfl rfl rfl h5 ?_
              refine o_q (q_mv (v_sl rfl)) rfl rfl rfl ?_
              refine o_yes rfl rfl rfl h5 ?_
              refine o_q (q_len rfl und28 rfl) rfl rfl rfl ?_
              refine o_yes rfl rfl rfl h5 ?_
              refine o_q (q_sub rfl rfl (wrap64 (by omega) (by omega))) rfl rfl rfl ?_
              refine o_yes rfl rfl rfl h5 ?_
              refine o_q (q_idx und28 sz35 rfl rfl (by omega) (gm _ (by first | omega | simp)) rfl) rfl rfl rfl ?_
              refine o_yes rfl rfl rfl h5 ?_
              refine o_q (q_f fo35_0 rfl) rfl rfl rfl ?_
              refine o_yes rfl rfl rfl h5 ?_
              refine o_q (q_ld ag3 sz3 rfl (gm _ (by first | omega | simp)) rfl (v_raw rfl)) rfl rfl rfl ?_
              refine o_yes rfl rfl rfl h5 ?_
              refine o_q (q_mv (v_raw rfl)) rfl rfl rfl ?_
              refine o_yes rfl rfl rfl h5 ?_
              refine o_q (q_geq rfl rfl) rfl rfl rfl ?_
              refine o_q (q_pick_c (t := true) rfl h5 (v_raw rfl)) rfl rfl rfl ?_
              refine o_nil ?_
              refine s_cond rfl (fun h6 => ?_) (fun h6 => ?_)
              · have k6 := h6; try simp only [decide_eq_true_eq, decide_eq_false_iff_not, Bool.not_eq_true', Bool.not_eq_false', Bool.not_true, Bool.not_false, List.length_map, Decidable.not_not] at k6
                refine s_skip ?_
                refine s_block ?_
                refine s_region ?_
                refine o_q (q_mv (v_sl rfl)) rfl rfl rfl ?_
                refine o_q (q_mv (v_sl rfl)) rfl rfl rfl ?_
                refine o_q (q_len rfl und28 rfl) rfl rfl rfl ?_
                refine o_q (q_sub rfl rfl (wrap64 (by omega) (by omega))) rfl rfl rfl ?_
                refine o_q (q_sl_hi (n := k - 1) und28 sz35 rfl elsR (ab rfl (by omega)) (by simp; omega)) rfl rfl rfl ?_
                refine o_q (q_as (v_sl rfl)) rfl rfl rfl ?_
                refine o_nil ?_
                refine s_blk_normal ?_
                refine s_inv ?_
                refine ⟨k - 1, by omega, _, _, k - 1, St.mkT (kp (kp (kp (kp (kp rfl rfl) rfl) rfl) (congrArg (fun l => AVal.sl (List.map enc l) false) ((List.take_take).trans (congrArg (fun n => List.take n _) (by omega))))) rfl).symm, hle, hB1, hB2, ?_, by omega, rfl⟩
                rcases Nat.lt_or_ge (k - 1) (atN (readL x.recs s.nxt many) (edge s x)) with h | h
                · exfalso
                  obtain ⟨hi, h9⟩ := atN_lt h
                  rw [last_take (by omega) hkl (by omega) (by omega)] at k6
                  omega
                · exact h
              · have k6 := h6; try simp only [decide_eq_true_eq, decide_eq_false_iff_not, Bool.not_eq_true', Bool.not_eq_false', Bool.not_true, Bool.not_false, List.length_map, Decidable.not_not] at k6
                refine s_exit ?_
                refine s_code_exit ?_
                refine s_inv_exit ?_
                refine s_blk_here ?_
                refine s_inv ?_
                have hk : k = atN (readL x.recs s.nxt many) (edge s x) := by
                  rcases Nat.lt_or_ge (atN (readL x.recs s.nxt many) (edge s x)) k with h | h
                  · exfalso
                    have h9 := atN_ge (off := edge s x) hsL (i := k - 1) (by omega) (by omega)
                    rw [last_take (by omega) hkl (by omega) (by omega)] at k6
                    omega
                  · omega
                subst hk
                exact ⟨_, _, St.mkT (kp (kp (kp (kp rfl rfl) rfl) rfl) rfl).symm, hle, hB1, hB2⟩
            · have k5 := h5; try simp only [decide_eq_true_eq, decide_eq_false_iff_not, Bool.not_eq_true', Bool.not_eq_false', Bool.not_true, Bool.not_false, List.length_map, Decidable.not_not] at k5
              refine o_no rfl rfl rfl rfl h5 ?_
              refine o_no rfl rfl rfl rfl h5 ?_
              refine o_no rfl rfl rfl rfl h5 ?_
              refine o_no rfl rfl rfl rfl h5 ?_
              refine o_no rfl rfl rfl rfl h5 ?_
              refine o_no rfl rfl rfl rfl h5 ?_
              refine o_no rfl rfl rfl rfl h5 ?_
              refine o_no rfl rfl rfl rfl h5 ?_
              refine o_no rfl rfl rfl rfl h5 ?_
              refine o_q (q_pick_c (t := false) rfl h5 (v_raw rfl)) rfl rfl rfl ?_
              refine o_nil ?_
              refine s_else rfl rfl ?_
              refine s_exit ?_
              refine s_code_exit ?_
              refine s_inv_exit ?_
              refine s_blk_here ?_
              refine s_inv ?_
              have hk : k = atN (readL x.recs s.nxt many) (edge s x) := by omega
              subst hk
              exact ⟨_, _, St.mkT (kp (kp (kp (kp rfl rfl) rfl) rfl) rfl).symm, hle, hB1, hB2⟩
          rintro S ⟨T, M', rfl, hle, hB1, hB2⟩
          have hlm : (List.map enc (pollL s x many)).length = (pollL s x many).length := List.length_map _
          refine s_seq ?_
          refine s_seq ?_
          refine s_region ?_
          refine o_q (q_mv (v_sl rfl)) rfl rfl rfl ?_
          refine o_q (q_len rfl und28 rfl) rfl rfl rfl ?_
          refine o_q (q_gtr rfl rfl) rfl rfl rfl ?_
          refine o_nil ?_
          refine s_cond rfl (fun h7 => ?_) (fun h7 => ?_)
          · have k7 := h7; try simp only [decide_eq_true_eq, decide_eq_false_iff_not, Bool.not_eq_true', Bool.not_eq_false', Bool.not_true, Bool.not_false, List.length_map, Decidable.not_not] at k7
            have hj : (((List.map enc (pollL s x many)).length : Int) - 1).toNat < (pollL s x many).length := by omega
            have hjo := hoff _ ((pollL_sub s x many).subset (List.getElem_mem hj))
            refine s_draw rfl ?_
            refine d_q rfl (q_ldmw ag45 sz45 rfl (by repeat first | exact Mem.upd_self _ _ _ | assumption | refine Mem.upd_ne (by assumption) ?_) rfl rfl) rfl rfl rfl ?_
            refine d_q rfl (q_mv (v_sl rfl)) rfl rfl rfl ?_
            refine d_q rfl (q_mv (v_sl rfl)) rfl rfl rfl ?_
            refine d_q rfl (q_len rfl und28 rfl) rfl rfl rfl ?_
            refine d_q rfl (q_sub rfl rfl (wrap64 (by omega) (by omega))) rfl rfl rfl ?_
            refine d_q rfl (q_idx und28 sz35 rfl rfl (by omega) (gm _ (by first | omega | simp)) rfl) rfl rfl rfl ?_
            refine d_q rfl (q_f fo35_0 rfl) rfl rfl rfl ?_
            refine d_q rfl (q_ld ag3 sz3 rfl (gm _ (by first | omega | simp)) rfl (v_raw rfl)) rfl rfl rfl ?_
            refine d_s rfl ?_
            refine o_call (((snd47 s ((pollL s x many)[(((List.map enc (pollL s x many)).length : Int) - 1).toNat]'hj).off s.cur (((pollL s x many)[(((List.map enc (pollL s x many)).length : Int) - 1).toNat]'hj).off + 1) 48 _ (fun M => (snd48 _ _ _ M ⟨hjo.1, by omega⟩).det) goes48).det)) goes47 (ac (v_agg rfl) (ac (v_raw rfl) (ac (v_raw rfl) ac_nil))) rfl ?_
            refine o_nil ⟨(by simp [Mem.upd, *]), ?_⟩
            refine d_s rfl ?_
            refine o_storew rfl (by repeat first | exact Mem.upd_self _ _ _ | assumption | refine Mem.upd_ne (by assumption) ?_) (by first | exact e_agg rfl | rfl) rfl sz45 rfl rfl rfl rfl ?_
            refine o_nil ⟨(by simp [Mem.upd, *]), ?_⟩
            refine d_nil ?_
            refine s_seq ?_
            refine s_region ?_
            refine o_q (q_ldmw ag45 sz45 rfl (by repeat first | exact Mem.upd_self _ _ _ | assumption | refine Mem.upd_ne (by assumption) ?_) rfl rfl) rfl rfl rfl ?_
            refine o_q (q_mv (v_sl rfl)) rfl rfl rfl ?_
            refine o_storew rfl (by repeat first | exact Mem.upd_self _ _ _ | assumption | refine Mem.upd_ne (by assumption) ?_) (by first | exact e_agg rfl | rfl) rfl sz45 rfl rfl rfl rfl ?_
            refine o_q (q_as (v_sl rfl)) rfl rfl rfl ?_
            refine o_q (q_as (v_raw rfl)) rfl rfl rfl ?_
            refine o_nil ?_
            refine s_ret ?_
            refine s_end ?_
            exact ret_many (.inl rfl) rfl (rl_c rfl (by repeat first | exact Mem.upd_self _ _ _ | assumption | refine Mem.upd_ne (by assumption) ?_) (loadP_w ag45 sz45 rfl rfl) rfl (rl_t rfl (rl_t rfl rl_nil))) rfl ⟨by unfold pollS; rw [if_pos hc]; exact congrArg (fun n => AVal.tup [encSb ⟨s.name, s.topic, s.cur, n⟩, .sl ((pollL s x many).map enc) false, int 0]) (nxt_last (by omega) (by omega) _).symm, (by repeat first | exact hle | exact Mem.le_refl M | assumption | exact Mem.none_of_le hle (by assumption) | refine Mem.le_upd ?_ ?_)⟩
          · have k7 := h7; try simp only [decide_eq_true_eq, decide_eq_false_iff_not, Bool.not_eq_true', Bool.not_eq_false', Bool.not_true, Bool.not_false, List.length_map, Decidable.not_not] at k7
            refine s_skip ?_
            refine s_seq ?_
            refine s_region ?_
            refine o_q (q_ldmw ag45 sz45 rfl (by repeat first | exact Mem.upd_self _ _ _ | assumption | refine Mem.upd_ne (by assumption) ?_) rfl rfl) rfl rfl rfl ?_
            refine o_q (q_mv (v_sl rfl)) rfl rfl rfl ?_
            refine o_storew rfl (by repeat first | exact Mem.upd_self _ _ _ | assumption | refine Mem.upd_ne (by assumption) ?_) (by first | exact e_agg rfl | rfl) rfl sz45 rfl rfl rfl rfl ?_
            refine o_q (q_as (v_sl rfl)) rfl rfl rfl ?_
            refine o_q (q_as (v_raw rfl)) rfl rfl rfl ?_
            refine o_nil ?_
            refine s_ret ?_
            refine s_end ?_
            exact ret_many (.inl rfl) rfl (rl_c rfl (by repeat first | exact Mem.upd_self _ _ _ | assumption | refine Mem.upd_ne (by assumption) ?_) (loadP_w ag45 sz45 rfl rfl) rfl (rl_t rfl (rl_t rfl rl_nil))) rfl ⟨by unfold pollS; rw [if_pos hc]; have e : pollL s x many = [] := List.eq_nil_of_length_eq_zero (by omega); rw [e]; rfl, (by repeat first | exact hle | exact Mem.le_refl M | assumption | exact Mem.none_of_le hle (by assumption) | refine Mem.le_upd ?_ ?_)⟩
      · have k3 := h3; try simp only [decide_eq_true_eq, decide_eq_false_iff_not, Bool.not_eq_true', Bool.not_eq_false', Bool.not_true, Bool.not_false, List.length_map, Decidable.not_not] at k3
        refine d_no rfl rfl rfl rfl h3 rfl ?_
        refine d_no rfl rfl rfl rfl h3 rfl ?_
        refine d_q rfl (q_pick_c (t := true) rfl h3 (v_raw rfl)) rfl rfl rfl ?_
        refine d_nil ?_
        refine s_then rfl rfl ?_
        refine s_seq ?_
        refine s_region ?_
        refine o_q (q_ldmw ag45 sz45 rfl (by repeat first | exact Mem.upd_self _ _ _ | assumption | refine Mem.upd_ne (by assumption) ?_) rfl rfl) rfl rfl rfl ?_
        refine o_storew rfl (by repeat first | exact Mem.upd_self _ _ _ | assumption | refine Mem.upd_ne (by assumption) ?_) (by first | exact e_agg rfl | rfl) rfl sz45 rfl rfl rfl rfl ?_
        refine o_q (q_as (v_sl rfl)) rfl rfl rfl ?_
        refine o_q (q_as (v_raw rfl)) rfl rfl rfl ?_
        refine o_nil ?_
        refine s_ret ?_
        refine s_code_ret ?_
        refine s_end ?_
        exact ret_many (.inl rfl) rfl (rl_c rfl (by repeat first | exact Mem.upd_self _ _ _ | assumption | refine Mem.upd_ne (by assumption) ?_) (loadP_w ag45 sz45 rfl rfl) rfl (rl_t rfl (rl_t rfl rl_nil))) rfl ⟨by unfold pollS; split <;> first | rfl | (exfalso; simp_all; done) | (exfalso; simp_all; omega), (by repeat first | exact hle | exact Mem.le_refl M | assumption | exact Mem.none_of_le hle (by assumption) | refine Mem.le_upd ?_ ?_)⟩
    · have k2 := h2; try simp only [decide_eq_true_eq, decide_eq_false_iff_not, Bool.not_eq_true', Bool.not_eq_false', Bool.not_true, Bool.not_false, List.length_map, Decidable.not_not] at k2
      refine d_no rfl rfl rfl rfl h2 rfl ?_
      refine d_no rfl rfl rfl rfl h2 rfl ?_
      refine d_q rfl (q_pick_c (t := true) rfl h2 (v_raw rfl)) rfl rfl rfl ?_
      refine d_q rfl (q_mv (v_raw rfl)) rfl rfl rfl ?_
      refine d_no rfl rfl rfl rfl rfl rfl ?_
      refine d_no rfl rfl rfl rfl rfl rfl ?_
      refine d_q rfl (q_pick_c (t := true) rfl rfl (v_raw rfl)) rfl rfl rfl ?_
      refine d_nil ?_
      refine s_then rfl rfl ?_
      refine s_seq ?_
      refine s_region ?_
      refine o_q (q_ldmw ag45 sz45 rfl (by repeat first | exact Mem.upd_self _ _ _ | assumption | refine Mem.upd_ne (by assumption) ?_) rfl rfl) rfl rfl rfl ?_
      refine o_storew rfl (by repeat first | exact Mem.upd_self _ _ _ | assumption | refine Mem.upd_ne (by assumption) ?_) (by first | exact e_agg rfl | rfl) rfl sz45 rfl rfl rfl rfl ?_
      refine o_q (q_as (v_sl rfl)) rfl rfl rfl ?_
      refine o_q (q_as (v_raw rfl)) rfl rfl rfl ?_
      refine o_nil ?_
      refine s_ret ?_
      refine s_code_ret ?_
      refine s_end ?_
      exact ret_many (.inl rfl) rfl (rl_c rfl (by repeat first | exact Mem.upd_self _ _ _ | assumption | refine Mem.upd_ne (by assumption) ?_) (loadP_w ag45 sz45 rfl rfl) rfl (rl_t rfl (rl_t rfl rl_nil))) rfl ⟨by unfold pollS; split <;> first | rfl | (exfalso; simp_all; done) | (exfalso; simp_all; omega), (by repeat first | exact hle | exact Mem.le_refl M | assumption | exact Mem.none_of_le hle (by assumption) | refine Mem.le_upd ?_ ?_)⟩
  · have k1 := h1; try simp only [decide_eq_true_eq, decide_eq_false_iff_not, Bool.not_eq_true', Bool.not_eq_false', Bool.not_true, Bool.not_false, List.length_map, Decidable.not_not] at k1
    refine d_no rfl rfl rfl rfl h1 rfl ?_
    refine d_no rfl rfl rfl rfl h1 rfl ?_
    refine d_no rfl rfl rfl rfl h1 rfl ?_
    refine d_s rfl ?_
    refine o_no rfl rfl rfl rfl h1 ?_
    refine o_nil ⟨(by simp [Mem.upd, *]), ?_⟩
    refine d_no rfl rfl rfl rfl h1 rfl ?_
    refine d_q rfl (q_pick_c (t := true) rfl h1 (v_raw rfl)) rfl rfl rfl ?_
    refine d_q rfl (q_mv (v_raw rfl)) rfl rfl rfl ?_
    refine d_no rfl rfl rfl rfl rfl rfl ?_
    refine d_no rfl rfl rfl rfl rfl rfl ?_
    refine d_q rfl (q_pick_c (t := true) rfl rfl (v_raw rfl)) rfl rfl rfl ?_
    refine d_q rfl (q_mv (v_raw rfl)) rfl rfl rfl ?_
    refine d_no rfl rfl rfl rfl rfl rfl ?_
    refine d_no rfl rfl rfl rfl rfl rfl ?_
    refine d_q rfl (q_pick_c (t := true) rfl rfl (v_raw rfl)) rfl rfl rfl ?_
    refine d_nil ?_
    refine s_then rfl rfl ?_
    refine s_seq ?_
    refine s_region ?_
    refine o_q (q_ldmw ag45 sz45 rfl (by repeat first | exact Mem.upd_self _ _ _ | assumption | refine Mem.upd_ne (by assumption) ?_) rfl rfl) rfl rfl rfl ?_
    refine o_storew rfl (by repeat first | exact Mem.upd_self _ _ _ | assumption | refine Mem.upd_ne (by assumption) ?_) (by first | exact e_agg rfl | rfl) rfl sz45 rfl rfl rfl rfl ?_
    refine o_q (q_as (v_sl rfl)) rfl rfl rfl ?_
    refine o_q (q_as (v_raw rfl)) rfl rfl rfl ?_
    refine o_nil ?_
    refine s_ret ?_
    refine s_code_ret ?_
    refine s_end ?_
    exact ret_many (.inl rfl) rfl (rl_c rfl (by repeat first | exact Mem.upd_self _ _ _ | assumption | refine Mem.upd_ne (by assumption) ?_) (loadP_w ag45 sz45 rfl rfl) rfl (rl_t rfl (rl_t rfl rl_nil))) rfl ⟨by unfold pollS; split <;> first | rfl | (exfalso; simp_all; done) | (exfalso; simp_all; omega), (by repeat first | exact hle | exact Mem.le_refl M | assumption | exact Mem.none_of_le hle (by assumption) | refine Mem.le_upd ?_ ?_)⟩

def tk21 : Nat → Nat → Option Nat := fun _ _ => none
def pl21 : Nat → List PStep := fun _ => []
theorem cb21 : Try.f21.body.map (codeB Try.prog Try.f21.ntmps tk21 pl21) = some true := by kernel_rfl
theorem goes21 : goesB Try.prog 21 = true := by kernel_rfl
-- carillon/carillonlaw16.examples params [] results [['t', 0]] own [] names ['1:t', '2:_', '3:i', '4:s', '5:a', '6:l', '7:b', '8:m', '9:_', '10:c', '11:n', '12:_', '13:_', '14:d', '15:_', '16:e'] calls [12, 14, 23, 24, 25, 26, 27, 38] paths 2

def recP (i : Nat) : Rec := ⟨i, bs 112, i, emp, emp⟩
def topN (n : Nat) : Tp := ⟨bs 116, 0, n, (match n with | 0 => [] | k + 1 => [(bs 112, ((k : Int), (k : Int), bs 112))]), (List.range n).map recP⟩
theorem top_len (n : Nat) : (topN n).recs.length = n := by simp [topN]
theorem top_get (n i : Nat) (h : i < (topN n).recs.length) : (topN n).recs[i] = recP i := by simp [topN]
theorem pub_top (i : Nat) (h : i < 2 ^ 40) : pub (topN i) (bs 112) (i : Int) emp emp = (topN (i + 1), (i : Int), (0 : Int)) := by
  have hw : word (bs 112) = true := by kernel_rfl
  have hr : right (newR (topN i) (bs 112) i emp emp) = true := right_spec.2 ⟨by simp [newR, topN], by simp [newR], by simp [newR, topN]; omega, by simp [newR]; omega, by simp [newR]; decide, by simp [newR]; decide, by simp [newR]; decide⟩
  have hl : (topN i).recs ++ [newR (topN i) (bs 112) i emp emp] = (topN (i + 1)).recs := by
    show (List.range i).map recP ++ [recP i] = (List.range (i + 1)).map recP
    rw [List.range_succ, List.map_append]; rfl
  unfold pub
  rw [hw, hr]
  simp only [Bool.and_self, if_true]
  have e2 : (kget (topN i).kvs (bs 112) = none ∨ ∃ l, kget (topN i).kvs (bs 112) = some l ∧ l.1 < i) := by
    cases i with
    | zero => exact .inl rfl
    | succ k => exact .inr ⟨((k : Int), (k : Int), bs 112), by show kget [(bs 112, ((k : Int), (k : Int), bs 112))] (bs 112) = _; rw [kget_cons, if_pos rfl], by show (k : Int) < ((k + 1 : Nat) : Int); omega⟩
  have e3 : kput (topN i).kvs (bs 112) ((i : Int), (topN i).en, bs 112) = (topN (i + 1)).kvs := by
    cases i with
    | zero => rfl
    | succ k =>
      show kput [(bs 112, ((k : Int), (k : Int), bs 112))] (bs 112) _ = _
      rw [kput_cons, if_pos rfl]; rfl
  have e4 : (⟨(topN i).name, (topN i).low, (topN i).en + 1, kput (topN i).kvs (bs 112) ((i : Int), (topN i).en, bs 112), (topN i).recs ++ [newR (topN i) (bs 112) i emp emp]⟩ : Tp) = topN (i + 1) := by
    rw [e3, hl]; rfl
  rcases e2 with e | ⟨l, e, hlt⟩
  · rw [e]; simp only; rw [e4]; rfl
  · rw [e]; simp only; rw [if_neg (by omega), if_neg (by omega), e4]; rfl
theorem top_sorted (n : Nat) : Sorted (topN n).recs := List.pairwise_iff_getElem.2 fun i j hi hj hij => by rw [top_get, top_get]; show (i : Int) < j; omega
theorem top_off (n : Nat) (h : n < 2 ^ 40) : ∀ r ∈ (topN n).recs, 0 ≤ r.off ∧ r.off < 2 ^ 60 := fun r hr => by
  obtain ⟨i, hi, rfl⟩ := List.mem_iff_getElem.1 hr
  rw [top_get]
  rw [top_len] at hi
  show 0 ≤ (i : Int) ∧ (i : Int) < 2 ^ 60
  omega
theorem atN_range (o L : Nat) (e : Int) : atN ((List.range' o L).map recP) e = min L (e - o).toNat := by
  have hs : Sorted ((List.range' o L).map recP) := List.pairwise_iff_getElem.2 fun i j hi hj hij => by
    simp only [List.getElem_map, List.getElem_range']
    show ((o + 1 * i : Nat) : Int) < (o + 1 * j : Nat); omega
  have hg : ∀ i, ∀ h : i < ((List.range' o L).map recP).length, ((List.range' o L).map recP)[i].off = ((o + i : Nat) : Int) := fun i h => by
    simp only [List.getElem_map, List.getElem_range', recP]; omega
  have hl : ((List.range' o L).map recP).length = L := by simp
  have h1 := atN_le ((List.range' o L).map recP) e
  rcases Nat.lt_trichotomy (atN ((List.range' o L).map recP) e) (min L (e - o).toNat) with h | h | h
  · exfalso
    have h2 := atN_ge (off := e) hs (i := atN ((List.range' o L).map recP) e) (Nat.le_refl _) (by omega)
    rw [hg] at h2
    omega
  · exact h
  · exfalso
    obtain ⟨hi, h2⟩ := atN_lt (l := (List.range' o L).map recP) (off := e) (i := min L (e - o).toNat) h
    rw [hg] at h2
    omega
theorem top_range (n : Nat) : (topN n).recs = (List.range' 0 n).map recP := by show (List.range n).map recP = _; rw [List.range_eq_range']
theorem readL_top {n o : Nat} (ho : o ≤ n) (k : Int) : readL (topN n).recs o k = (List.range' o (min (max k 0).toNat (n - o))).map recP := by
  unfold readL
  rw [top_range, atN_range]
  refine List.ext_getElem ?_ fun i h1 h2 => ?_
  · simp; omega
  · simp only [List.getElem_take, List.getElem_drop, List.getElem_map, List.getElem_range']
    congr 1; omega
theorem pollL_top {n : Nat} (s : Sb) (h0 : 0 ≤ s.nxt) (ho : s.nxt ≤ n) (k : Int) : pollL s (topN n) k = (List.range' s.nxt.toNat (min (min (max k 0).toNat (n - s.nxt.toNat)) (max s.cur 0 + 100 - s.nxt).toNat)).map recP := by
  have e : readL (topN n).recs s.nxt k = (List.range' s.nxt.toNat (min (max k 0).toNat (n - s.nxt.toNat))).map recP := by
    have h := readL_top (n := n) (o := s.nxt.toNat) (by omega) k
    rw [Int.toNat_of_nonneg h0] at h
    exact h
  unfold pollL
  rw [e, atN_range]
  have e' : edge s (topN n) = max s.cur 0 + 100 := rfl
  rw [e']
  refine List.ext_getElem ?_ fun i h1 h2 => ?_
  · simp; omega
  · simp only [List.getElem_take, List.getElem_map, List.getElem_range']
theorem last_range {o L : Nat} {z : Int} (h0 : z = (o : Nat)) : (match ((List.range' o L).map recP).getLast? with | none => z | some r => r.off + 1) = z + L := by
  cases L with
  | zero => simp
  | succ L =>
    refine Eq.trans (nxt_last (l := (List.range' o (L + 1)).map recP) (j := L) (by simp) (by simp) z) ?_
    simp only [List.getElem_map, List.getElem_range', recP]
    omega
theorem poll_top {n : Nat} (s : Sb) (k : Int) (hr : rightS s = true) (ht : s.topic = bs 116) (hn : s.nxt ≤ n) (hk : 1 ≤ k ∧ k ≤ 50) : ∃ L : Nat, (L : Int) = min (min k (n - s.nxt)) (max 0 (s.cur + 100 - s.nxt)) ∧ pollS s (topN n) k = (⟨s.name, s.topic, s.cur, s.nxt + L⟩, (List.range' s.nxt.toNat L).map recP, 0) := by
  have hri := rightS_le hr
  refine ⟨min (min (max k 0).toNat (n - s.nxt.toNat)) (max s.cur 0 + 100 - s.nxt).toNat, by omega, ?_⟩
  have hc : (ofS s (topN n) && decide (s.nxt ≤ (topN n).en) && decide (1 ≤ k) && decide (k ≤ 50)) = true := by
    have : (topN n).en = n := rfl
    have : (topN n).name = bs 116 := rfl
    simp [ofS, hr, ht, this, hk]; omega
  unfold pollS
  rw [if_pos hc, pollL_top s (by omega) hn k]
  exact congrArg (fun z => ((⟨s.name, s.topic, s.cur, z⟩ : Sb), (List.range' s.nxt.toNat (min (min (max k 0).toNat (n - s.nxt.toNat)) (max s.cur 0 + 100 - s.nxt).toNat)).map recP, (0 : Int))) (last_range (by omega))
theorem pubT (t w i : Nat) (M : Mem) (hi : i < 2 ^ 40) (ht : M t = some (.cells (tpC w (topN i)))) (hw : M w = some (tpK (topN i))) (htw : t ≠ w) : SoundCall Try.prog 14 [ptr t, str (bs 112), int i, str emp, str emp] M fun r M' => r = .tup [int i, int 0] ∧ M' = setTp M t w (topN (i + 1)) :=
  pubE t w M (pub_top i hi) ht hw htw (by show 0 ≤ (i : Int) ∧ (i : Int) < 2 ^ 62; omega) (by rw [top_len]; exact hi)
theorem pollE {x : Tp} {s s' : Sb} {l : List Rec} {many c : Int} (t m : Nat) (M : Mem) (h : pollS s x many = (s', l, c)) (ht : M t = some (.cells (tpC m x))) (hm : M m = some (tpK x)) (htm : t ≠ m) (hs : Sorted x.recs) (hlen : x.recs.length < 2 ^ 40) (hoff : ∀ r ∈ x.recs, 0 ≤ r.off ∧ r.off < 2 ^ 60) (hlow : 0 ≤ x.low ∧ x.low < 2 ^ 60) : SoundCall Try.prog 24 [encSb s, ptr t, int many] M fun r M' => r = .tup [encSb s', .sl (l.map enc) false, int c] ∧ M' = M := by
  have := (snd24 s t m x many M ht hm htm hs hlen hoff hlow).det
  rw [h] at this
  exact this
theorem pollT {n : Nat} {s s' : Sb} {l : List Rec} {many c : Int} (t m : Nat) (M : Mem) (hn : n < 2 ^ 40) (h : pollS s (topN n) many = (s', l, c)) (ht : M t = some (.cells (tpC m (topN n)))) (hm : M m = some (tpK (topN n))) (htm : t ≠ m) : SoundCall Try.prog 24 [encSb s, ptr t, int many] M fun r M' => r = .tup [encSb s', .sl (l.map enc) false, int c] ∧ M' = M :=
  pollE t m M h ht hm htm (top_sorted n) (by rw [top_len]; exact hn) (top_off n hn) ⟨Int.le_refl _, by show (0 : Int) < _; decide⟩
theorem ackE {s s' : Sb} {o c : Int} (M : Mem) (h : ackS s o = (s', c)) : SoundCall Try.prog 25 [encSb s, int o] M fun r M' => r = .tup [encSb s', int c] ∧ M' = M := by
  have := (snd25 s o M).det
  rw [h] at this
  exact this
theorem seekE {x : Tp} {s s' : Sb} {o c : Int} (t m : Nat) (M : Mem) (h : seekS s x o = (s', c)) (ht : M t = some (.cells (tpC m x))) (hm : M m = some (tpK x)) (htm : t ≠ m) : SoundCall Try.prog 27 [encSb s, ptr t, int o] M fun r M' => r = .tup [encSb s', int c] ∧ M' = M := by
  have := (snd27 s t m x o M ht hm htm).det
  rw [h] at this
  exact this
theorem newE {x : Tp} {n : ByteArray} {s' : Sb} {o c : Int} (t m : Nat) (M : Mem) (h : newS n x o = (s', c)) (ht : M t = some (.cells (tpC m x))) (hm : M m = some (tpK x)) (htm : t ≠ m) : SoundCall Try.prog 23 [str n, ptr t, int o] M fun r M' => r = .tup [encSb s', int c] ∧ M' = M := by
  have := (snd23 n t m x o M ht hm htm).det
  rw [h] at this
  exact this
def sb (c n : Int) : Sb := ⟨bs 115, bs 116, c, n⟩
set_option maxHeartbeats 4000000 in
set_option maxRecDepth 20000 in
theorem snd21 (M : Mem) : SoundCall Try.prog 21 [] M fun r M' => r = bool true ∧ M.le M' := by
  refine SoundCall.go tk21 pl21 mixed Try.func21 cb21 rfl (Nat.le_of_ble_eq_true rfl) ?_
  refine s_seq ?_
  refine s_region ?_
  refine o_q (q_as (v_raw rfl)) rfl rfl rfl ?_
  refine o_nil ?_
  refine s_seq ?_
  refine s_region ?_
  refine o_callx (newT (bs 116) _ (by kernel_rfl)) goes12 (ac (v_raw rfl) ac_nil) rfl ?_
  rintro r M' ⟨t, w, ht0, hw0, htw, rfl, rfl⟩
  have htw' := htw.symm
  refine o_q (q_mv (v_tup rfl)) rfl rfl rfl ?_
  refine o_q (q_ext rfl rfl ((by first | exact v_raw rfl | exact v_sptr rfl))) rfl rfl rfl ?_
  refine o_q (q_ext rfl rfl (v_raw rfl)) rfl rfl rfl ?_
  refine o_q (q_as ((by first | exact v_raw rfl | exact v_sptr rfl))) rfl rfl rfl ?_
  refine o_q (q_as (v_raw rfl)) rfl rfl rfl ?_
  refine o_nil ?_
  refine s_seq ?_
  refine s_seq ?_
  refine s_region ?_
  refine o_q (q_mv ((by first | exact v_raw rfl | exact v_sptr rfl))) rfl rfl rfl ?_
  refine o_q (q_peql und24 rfl rfl) rfl rfl rfl ?_
  refine o_nil ?_
  refine s_else rfl rfl ?_
  refine s_skip ?_
  refine s_seq ?_
  refine s_seq ?_
  refine s_region ?_
  refine o_q (q_as (v_raw rfl)) rfl rfl rfl ?_
  refine o_nil ?_
  refine s_block ?_
  refine s_loop (fun m S => ∃ T, ∃ M' : Mem, ∃ i : Nat, S = ⟨setT (setT T 1 (ptr t)) 3 (int (i : Nat)), M'⟩ ∧ M.le M' ∧ M' t = some (.cells (tpC w (topN i))) ∧ M' w = some (tpK (topN i)) ∧ i ≤ 10 ∧ m = 10 - i) 10 ?_ ?_
  · exact ⟨_, _, 0, St.mkT (kp (kp rfl rfl) rfl).symm, (by repeat first | exact hle | exact Mem.le_refl M | assumption | exact Mem.none_of_le hle (by assumption) | refine Mem.le_upd ?_ ?_), (by repeat first | exact Mem.upd_self _ _ _ | assumption | refine Mem.upd_ne (by assumption) ?_), (by repeat first | exact Mem.upd_self _ _ _ | assumption | refine Mem.upd_ne (by assumption) ?_), by omega, rfl⟩
  rintro m S ⟨T, M', i, rfl, hle, ht, hw, hi, rfl⟩
  refine s_seq ?_
  refine s_seq ?_
  refine s_region ?_
  refine o_q (q_mv (v_raw rfl)) rfl rfl rfl ?_
  refine o_q (q_lss rfl rfl) rfl rfl rfl ?_
  refine o_nil ?_
  refine s_cond rfl (fun h1 => ?_) (fun h1 => ?_)
  · have k1 := h1; try simp only [decide_eq_true_eq, decide_eq_false_iff_not, Bool.not_eq_true', Bool.not_eq_false', Bool.not_true, Bool.not_false, List.length_map, Decidable.not_not] at k1
    refine s_skip ?_
    refine s_seq ?_
    refine s_block ?_
    refine s_region ?_
    refine o_q (q_mv ((by first | exact v_raw rfl | exact v_sptr rfl))) rfl rfl rfl ?_
    refine o_q (q_mv (v_raw rfl)) rfl rfl rfl ?_
    refine o_callx ((pubT t w i _ (by omega) (by repeat first | exact Mem.upd_self _ _ _ | assumption | refine Mem.upd_ne (by assumption) ?_) (by repeat first | exact Mem.upd_self _ _ _ | assumption | refine Mem.upd_ne (by assumption) ?_) htw)) goes14 (ac ((by first | exact v_raw rfl | exact v_sptr rfl)) (ac (v_raw rfl) (ac (v_raw rfl) (ac (v_raw rfl) (ac (v_raw rfl) ac_nil))))) rfl ?_
    rintro r M' ⟨rfl, rfl⟩
    refine o_nil ?_
    refine s_blk_normal ?_
    refine s_region ?_
    refine o_q (q_mv (v_raw rfl)) rfl rfl rfl ?_
    refine o_q (q_add rfl rfl (wrap64 (by omega) (by omega))) rfl rfl rfl ?_
    refine o_q (q_as (v_raw rfl)) rfl rfl rfl ?_
    refine o_nil ?_
    refine s_inv ?_
    exact ⟨10 - (i + 1), by omega, _, _, i + 1, St.mkT (kp (kp rfl rfl) rfl).symm, (by repeat first | exact hle | exact Mem.le_refl M | assumption | exact Mem.none_of_le hle (by assumption) | refine Mem.le_upd ?_ ?_), (by repeat first | exact Mem.upd_self _ _ _ | assumption | refine Mem.upd_ne (by assumption) ?_), (by repeat first | exact Mem.upd_self _ _ _ | assumption | refine Mem.upd_ne (by assumption) ?_), by omega, rfl⟩
  · have k1 := h1; try simp only [decide_eq_true_eq, decide_eq_false_iff_not, Bool.not_eq_true', Bool.not_eq_false', Bool.not_true, Bool.not_false, List.length_map, Decidable.not_not] at k1
    obtain rfl : i = 10 := by omega
    refine s_exit ?_
    refine s_code_exit ?_
    refine s_inv_exit ?_
    refine s_blk_here ?_
    refine s_seq ?_
    refine s_region ?_
    refine o_q (q_mv ((by first | exact v_raw rfl | exact v_sptr rfl))) rfl rfl rfl ?_
    refine o_call ((newE (x := topN 10) (s' := sb 2 2) (c := 0) t w _ (by kernel_rfl) (by repeat first | exact Mem.upd_self _ _ _ | assumption | refine Mem.upd_ne (by assumption) ?_) (by repeat first | exact Mem.upd_self _ _ _ | assumption | refine Mem.upd_ne (by assumption) ?_) htw)) goes23 (ac (v_raw rfl) (ac ((by first | exact v_raw rfl | exact v_sptr rfl)) (ac (v_raw rfl) ac_nil))) rfl ?_
    refine o_q (q_mv (v_tup rfl)) rfl rfl rfl ?_
    refine o_q (q_ext rfl rfl (v_agg rfl)) rfl rfl rfl ?_
    refine o_q (q_ext rfl rfl (v_raw rfl)) rfl rfl rfl ?_
    refine o_alloc zc45 (fun B1 hB1 => ?_)
    have n1 : t ≠ B1 := Mem.fresh_ne hB1 ht
    have n1' := n1.symm
    have n2 : w ≠ B1 := Mem.fresh_ne hB1 hw
    have n2' := n2.symm
    have m1 : M B1 = none := by have h := hB1; repeat (first | exact h | exact Mem.none_of_le hle h | replace h := (Mem.upd_none h).2)
    refine o_storew rfl (by repeat first | exact Mem.upd_self _ _ _ | assumption | refine Mem.upd_ne (by assumption) ?_) (by first | exact e_agg rfl | rfl) rfl sz45 rfl rfl rfl rfl ?_
    refine o_q (q_as (v_raw rfl)) rfl rfl rfl ?_
    refine o_nil ?_
    refine s_seq ?_
    refine s_region ?_
    refine o_q (q_ldmw ag45 sz45 rfl (by repeat first | exact Mem.upd_self _ _ _ | assumption | refine Mem.upd_ne (by assumption) ?_) rfl rfl) rfl rfl rfl ?_
    refine o_q (q_mv ((by first | exact v_raw rfl | exact v_sptr rfl))) rfl rfl rfl ?_
    refine o_call ((pollT (n := 10) (s := sb 2 2) (s' := sb 2 5) (l := [recP 2, recP 3, recP 4]) (many := 3) (c := 0) t w _ (by decide) (by kernel_rfl) (by repeat first | exact Mem.upd_self _ _ _ | assumption | refine Mem.upd_ne (by assumption) ?_) (by repeat first | exact Mem.upd_self _ _ _ | assumption | refine Mem.upd_ne (by assumption) ?_) htw)) goes24 (ac (v_agg rfl) (ac ((by first | exact v_raw rfl | exact v_sptr rfl)) (ac (v_raw rfl) ac_nil))) rfl ?_
    refine o_q (q_mv (v_tup rfl)) rfl rfl rfl ?_
    refine o_q (q_ext rfl rfl (v_agg rfl)) rfl rfl rfl ?_
    refine o_q (q_ext rfl rfl (v_sl rfl)) rfl rfl rfl ?_
    refine o_q (q_ext rfl rfl (v_raw rfl)) rfl rfl rfl ?_
    refine o_storew rfl (by repeat first | exact Mem.upd_self _ _ _ | assumption | refine Mem.upd_ne (by assumption) ?_) (by first | exact e_agg rfl | rfl) rfl sz45 rfl rfl rfl rfl ?_
    refine o_q (q_as (v_sl rfl)) rfl rfl rfl ?_
    refine o_q (q_as (v_raw rfl)) rfl rfl rfl ?_
    refine o_nil ?_
    refine s_seq ?_
    refine s_region ?_
    refine o_q (q_ldmw ag45 sz45 rfl (by repeat first | exact Mem.upd_self _ _ _ | assumption | refine Mem.upd_ne (by assumption) ?_) rfl rfl) rfl rfl rfl ?_
    refine o_q (q_mv ((by first | exact v_raw rfl | exact v_sptr rfl))) rfl rfl rfl ?_
    refine o_call ((pollT (n := 10) (s := sb 2 5) (s' := sb 2 6) (l := [recP 5]) (many := 1) (c := 0) t w _ (by decide) (by kernel_rfl) (by repeat first | exact Mem.upd_self _ _ _ | assumption | refine Mem.upd_ne (by assumption) ?_) (by repeat first | exact Mem.upd_self _ _ _ | assumption | refine Mem.upd_ne (by assumption) ?_) htw)) goes24 (ac (v_agg rfl) (ac ((by first | exact v_raw rfl | exact v_sptr rfl)) (ac (v_raw rfl) ac_nil))) rfl ?_
    refine o_q (q_mv (v_tup rfl)) rfl rfl rfl ?_
    refine o_q (q_ext rfl rfl (v_agg rfl)) rfl rfl rfl ?_
    refine o_q (q_ext rfl rfl (v_sl rfl)) rfl rfl rfl ?_
    refine o_q (q_ext rfl rfl (v_raw rfl)) rfl rfl rfl ?_
    refine o_storew rfl (by repeat first | exact Mem.upd_self _ _ _ | assumption | refine Mem.upd_ne (by assumption) ?_) (by first | exact e_agg rfl | rfl) rfl sz45 rfl rfl rfl rfl ?_
    refine o_q (q_as (v_sl rfl)) rfl rfl rfl ?_
    refine o_q (q_as (v_raw rfl)) rfl rfl rfl ?_
    refine o_nil ?_
    refine s_seq ?_
    refine s_region ?_
    refine o_q (q_ldmw ag45 sz45 rfl (by repeat first | exact Mem.upd_self _ _ _ | assumption | refine Mem.upd_ne (by assumption) ?_) rfl rfl) rfl rfl rfl ?_
    refine o_call ((ackE (s := sb 2 6) (s' := sb 4 6) (c := 0) _ (by kernel_rfl))) goes25 (ac (v_agg rfl) (ac (v_raw rfl) ac_nil)) rfl ?_
    refine o_q (q_mv (v_tup rfl)) rfl rfl rfl ?_
    refine o_q (q_ext rfl rfl (v_agg rfl)) rfl rfl rfl ?_
    refine o_q (q_ext rfl rfl (v_raw rfl)) rfl rfl rfl ?_
    refine o_storew rfl (by repeat first | exact Mem.upd_self _ _ _ | assumption | refine Mem.upd_ne (by assumption) ?_) (by first | exact e_agg rfl | rfl) rfl sz45 rfl rfl rfl rfl ?_
    refine o_q (q_as (v_raw rfl)) rfl rfl rfl ?_
    refine o_nil ?_
    refine s_seq ?_
    refine s_region ?_
    refine o_q (q_ldmw ag45 sz45 rfl (by repeat first | exact Mem.upd_self _ _ _ | assumption | refine Mem.upd_ne (by assumption) ?_) rfl rfl) rfl rfl rfl ?_
    refine o_call (((snd26 (sb 4 6) _).det)) goes26 (ac (v_agg rfl) ac_nil) rfl ?_
    refine o_storew rfl (by repeat first | exact Mem.upd_self _ _ _ | assumption | refine Mem.upd_ne (by assumption) ?_) (by first | exact e_agg rfl | rfl) rfl sz45 rfl rfl rfl rfl ?_
    refine o_nil ?_
    refine s_seq ?_
    refine s_region ?_
    refine o_q (q_ldmw ag45 sz45 rfl (by repeat first | exact Mem.upd_self _ _ _ | assumption | refine Mem.upd_ne (by assumption) ?_) rfl rfl) rfl rfl rfl ?_
    refine o_q (q_mv ((by first | exact v_raw rfl | exact v_sptr rfl))) rfl rfl rfl ?_
    refine o_call ((pollT (n := 10) (s := sb 4 4) (s' := sb 4 5) (l := [recP 4]) (many := 1) (c := 0) t w _ (by decide) (by kernel_rfl) (by repeat first | exact Mem.upd_self _ _ _ | assumption | refine Mem.upd_ne (by assumption) ?_) (by repeat first | exact Mem.upd_self _ _ _ | assumption | refine Mem.upd_ne (by assumption) ?_) htw)) goes24 (ac (v_agg rfl) (ac ((by first | exact v_raw rfl | exact v_sptr rfl)) (ac (v_raw rfl) ac_nil))) rfl ?_
    refine o_q (q_mv (v_tup rfl)) rfl rfl rfl ?_
    refine o_q (q_ext rfl rfl (v_agg rfl)) rfl rfl rfl ?_
    refine o_q (q_ext rfl rfl (v_sl rfl)) rfl rfl rfl ?_
    refine o_q (q_ext rfl rfl (v_raw rfl)) rfl rfl rfl ?_
    refine o_storew rfl (by repeat first | exact Mem.upd_self _ _ _ | assumption | refine Mem.upd_ne (by assumption) ?_) (by first | exact e_agg rfl | rfl) rfl sz45 rfl rfl rfl rfl ?_
    refine o_q (q_as (v_sl rfl)) rfl rfl rfl ?_
    refine o_q (q_as (v_raw rfl)) rfl rfl rfl ?_
    refine o_nil ?_
    refine s_seq ?_
    refine s_region ?_
    refine o_q (q_ldmw ag45 sz45 rfl (by repeat first | exact Mem.upd_self _ _ _ | assumption | refine Mem.upd_ne (by assumption) ?_) rfl rfl) rfl rfl rfl ?_
    refine o_call ((ackE (s := sb 4 5) (s' := sb 4 5) (c := 7) _ (by kernel_rfl))) goes25 (ac (v_agg rfl) (ac (v_raw rfl) ac_nil)) rfl ?_
    refine o_q (q_mv (v_tup rfl)) rfl rfl rfl ?_
    refine o_q (q_ext rfl rfl (v_agg rfl)) rfl rfl rfl ?_
    refine o_q (q_ext rfl rfl (v_raw rfl)) rfl rfl rfl ?_
    refine o_alloc zc45 (fun B2 hB2 => ?_)
    have n3 : t ≠ B2 := Mem.fresh_ne hB2 (by repeat first | exact Mem.upd_self _ _ _ | assumption | refine Mem.upd_ne (by assumption) ?_)
    have n3' := n3.symm
    have n4 : w ≠ B2 := Mem.fresh_ne hB2 (by repeat first | exact Mem.upd_self _ _ _ | assumption | refine Mem.upd_ne (by assumption) ?_)
    have n4' := n4.symm
    have f1_2 : B1 ≠ B2 := Mem.fresh_ne hB2 (by repeat first | exact Mem.upd_self _ _ _ | assumption | refine Mem.upd_ne (by assumption) ?_)
    have g2_1 : B2 ≠ B1 := f1_2.symm
    have m2 : M B2 = none := by have h := hB2; repeat (first | exact h | exact Mem.none_of_le hle h | replace h := (Mem.upd_none h).2)
    refine o_storew rfl (by repeat first | exact Mem.upd_self _ _ _ | assumption | refine Mem.upd_ne (by assumption) ?_) (by first | exact e_agg rfl | rfl) rfl sz45 rfl rfl rfl rfl ?_
    refine o_q (q_as (v_raw rfl)) rfl rfl rfl ?_
    refine o_nil ?_
    refine s_seq ?_
    refine s_region ?_
    refine o_q (q_ldmw ag45 sz45 rfl (by repeat first | exact Mem.upd_self _ _ _ | assumption | refine Mem.upd_ne (by assumption) ?_) rfl rfl) rfl rfl rfl ?_
    refine o_q (q_mv ((by first | exact v_raw rfl | exact v_sptr rfl))) rfl rfl rfl ?_
    refine o_call ((seekE (x := topN 10) (s := sb 4 5) (s' := sb 4 5) (c := 7) t w _ (by kernel_rfl) (by repeat first | exact Mem.upd_self _ _ _ | assumption | refine Mem.upd_ne (by assumption) ?_) (by repeat first | exact Mem.upd_self _ _ _ | assumption | refine Mem.upd_ne (by assumption) ?_) htw)) goes27 (ac (v_agg rfl) (ac ((by first | exact v_raw rfl | exact v_sptr rfl)) (ac (v_raw rfl) ac_nil))) rfl ?_
    refine o_q (q_mv (v_tup rfl)) rfl rfl rfl ?_
    refine o_q (q_ext rfl rfl (v_agg rfl)) rfl rfl rfl ?_
    refine o_q (q_ext rfl rfl (v_raw rfl)) rfl rfl rfl ?_
    refine o_alloc zc45 (fun B3 hB3 => ?_)
    have n5 : t ≠ B3 := Mem.fresh_ne hB3 (by repeat first | exact Mem.upd_self _ _ _ | assumption | refine Mem.upd_ne (by assumption) ?_)
    have n5' := n5.symm
    have n6 : w ≠ B3 := Mem.fresh_ne hB3 (by repeat first | exact Mem.upd_self _ _ _ | assumption | refine Mem.upd_ne (by assumption) ?_)
    have n6' := n6.symm
    have f1_3 : B1 ≠ B3 := Mem.fresh_ne hB3 (by repeat first | exact Mem.upd_self _ _ _ | assumption | refine Mem.upd_ne (by assumption) ?_)
    have g3_1 : B3 ≠ B1 := f1_3.symm
    have f2_3 : B2 ≠ B3 := Mem.fresh_ne hB3 (by repeat first | exact Mem.upd_self _ _ _ | assumption | refine Mem.upd_ne (by assumption) ?_)
    have g3_2 : B3 ≠ B2 := f2_3.symm
    have m3 : M B3 = none := by have h := hB3; repeat (first | exact h | exact Mem.none_of_le hle h | replace h := (Mem.upd_none h).2)
    refine o_storew rfl (by repeat first | exact Mem.upd_self _ _ _ | assumption | refine Mem.upd_ne (by assumption) ?_) (by first | exact e_agg rfl | rfl) rfl sz45 rfl rfl rfl rfl ?_
    refine o_q (q_as (v_raw rfl)) rfl rfl rfl ?_
    refine o_nil ?_
    refine s_seq ?_
    refine s_region ?_
    refine o_q (q_mv (v_raw rfl)) rfl rfl rfl ?_
    refine o_q (q_eql rfl rfl) rfl rfl rfl ?_
    refine o_q (q_mv (v_raw rfl)) rfl rfl rfl ?_
    refine o_yes rfl rfl rfl (by decide) ?_
    refine o_q (q_mv (v_raw rfl)) rfl rfl rfl ?_
    refine o_yes rfl rfl rfl (by decide) ?_
    refine o_q (q_eql rfl rfl) rfl rfl rfl ?_
    refine o_q (q_pick_c (t := true) rfl (by decide) (v_raw rfl)) rfl rfl rfl ?_
    refine o_q (q_mv (v_raw rfl)) rfl rfl rfl ?_
    refine o_yes rfl rfl rfl (by decide) ?_
    refine o_q (q_mv (v_sl rfl)) rfl rfl rfl ?_
    refine o_yes rfl rfl rfl (by decide) ?_
    refine o_q (q_len rfl und28 rfl) rfl rfl rfl ?_
    refine o_yes rfl rfl rfl (by decide) ?_
    refine o_q (q_eql rfl rfl) rfl rfl rfl ?_
    refine o_q (q_pick_c (t := true) rfl (by decide) (v_raw rfl)) rfl rfl rfl ?_
    refine o_q (q_mv (v_raw rfl)) rfl rfl rfl ?_
    refine o_yes rfl rfl rfl (by decide) ?_
    refine o_q (q_mv (v_sl rfl)) rfl rfl rfl ?_
    refine o_yes rfl rfl rfl (by decide) ?_
    refine o_q (q_idx und28 sz35 rfl rfl (by omega) (gm 0 (by first | omega | simp)) rfl) rfl rfl rfl ?_
    refine o_yes rfl rfl rfl (by decide) ?_
    refine o_q (q_f fo35_0 rfl) rfl rfl rfl ?_
    refine o_yes rfl rfl rfl (by decide) ?_
    refine o_q (q_ld ag3 sz3 rfl (gm 0 (by first | omega | simp)) rfl (v_raw rfl)) rfl rfl rfl ?_
    refine o_yes rfl rfl rfl (by decide) ?_
    refine o_q (q_eql rfl rfl) rfl rfl rfl ?_
    refine o_q (q_pick_c (t := true) rfl (by decide) (v_raw rfl)) rfl rfl rfl ?_
    refine o_q (q_mv (v_raw rfl)) rfl rfl rfl ?_
    refine o_yes rfl rfl rfl (by decide) ?_
    refine o_q (q_mv (v_sl rfl)) rfl rfl rfl ?_
    refine o_yes rfl rfl rfl (by decide) ?_
    refine o_q (q_len rfl und28 rfl) rfl rfl rfl ?_
    refine o_yes rfl rfl rfl (by decide) ?_
    refine o_q (q_eql rfl rfl) rfl rfl rfl ?_
    refine o_q (q_pick_c (t := true) rfl (by decide) (v_raw rfl)) rfl rfl rfl ?_
    refine o_q (q_mv (v_raw rfl)) rfl rfl rfl ?_
    refine o_yes rfl rfl rfl (by decide) ?_
    refine o_q (q_mv (v_sl rfl)) rfl rfl rfl ?_
    refine o_yes rfl rfl rfl (by decide) ?_
    refine o_q (q_idx und28 sz35 rfl rfl (by omega) (gm 0 (by first | omega | simp)) rfl) rfl rfl rfl ?_
    refine o_yes rfl rfl rfl (by decide) ?_
    refine o_q (q_f fo35_0 rfl) rfl rfl rfl ?_
    refine o_yes rfl rfl rfl (by decide) ?_
    refine o_q (q_ld ag3 sz3 rfl (gm 0 (by first | omega | simp)) rfl (v_raw rfl)) rfl rfl rfl ?_
    refine o_yes rfl rfl rfl (by decide) ?_
    refine o_q (q_eql rfl rfl) rfl rfl rfl ?_
    refine o_q (q_pick_c (t := true) rfl (by decide) (v_raw rfl)) rfl rfl rfl ?_
    refine o_q (q_mv (v_raw rfl)) rfl rfl rfl ?_
    refine o_yes rfl rfl rfl (by decide) ?_
    refine o_q (q_mv (v_raw rfl)) rfl rfl rfl ?_
    refine o_yes rfl rfl rfl (by decide) ?_
    refine o_q (q_eql rfl rfl) rfl rfl rfl ?_
    refine o_q (q_pick_c (t := true) rfl (by decide) (v_raw rfl)) rfl rfl rfl ?_
    refine o_q (q_mv (v_raw rfl)) rfl rfl rfl ?_
    refine o_yes rfl rfl rfl (by decide) ?_
    refine o_q (q_mv (v_sl rfl)) rfl rfl rfl ?_
    refine o_yes rfl rfl rfl (by decide) ?_
    refine o_q (q_len rfl und28 rfl) rfl rfl rfl ?_
    refine o_yes rfl rfl rfl (by decide) ?_
    refine o_q (q_eql rfl rfl) rfl rfl rfl ?_
    refine o_q (q_pick_c (t := true) rfl (by decide) (v_raw rfl)) rfl rfl rfl ?_
    refine o_q (q_mv (v_raw rfl)) rfl rfl rfl ?_
    refine o_yes rfl rfl rfl (by decide) ?_
    refine o_q (q_mv (v_sl rfl)) rfl rfl rfl ?_
    refine o_yes rfl rfl rfl (by decide) ?_
    refine o_q (q_idx und28 sz35 rfl rfl (by omega) (gm 0 (by first | omega | simp)) rfl) rfl rfl rfl ?_
    refine o_yes rfl rfl rfl (by decide) ?_
    refine o_q (q_f fo35_0 rfl) rfl rfl rfl ?_
    refine o_yes rfl rfl rfl (by decide) ?_
    refine o_q (q_ld ag3 sz3 rfl (gm 0 (by first | omega | simp)) rfl (v_raw rfl)) rfl rfl rfl ?_
    refine o_yes rfl rfl rfl (by decide) ?_
    refine o_q (q_eql rfl rfl) rfl rfl rfl ?_
    refine o_q (q_pick_c (t := true) rfl (by decide) (v_raw rfl)) rfl rfl rfl ?_
    refine o_q (q_mv (v_raw rfl)) rfl rfl rfl ?_
    refine o_yes rfl rfl rfl (by decide) ?_
    refine o_q (q_mv (v_raw rfl)) rfl rfl rfl ?_
    refine o_yes rfl rfl rfl (by decide) ?_
    refine o_q (q_eql rfl rfl) rfl rfl rfl ?_
    refine o_q (q_pick_c (t := true) rfl (by decide) (v_raw rfl)) rfl rfl rfl ?_
    refine o_q (q_mv (v_raw rfl)) rfl rfl rfl ?_
    refine o_yes rfl rfl rfl (by decide) ?_
    refine o_q (q_mv (v_raw rfl)) rfl rfl rfl ?_
    refine o_yes rfl rfl rfl (by decide) ?_
    refine o_q (q_eql rfl rfl) rfl rfl rfl ?_
    refine o_q (q_pick_c (t := true) rfl (by decide) (v_raw rfl)) rfl rfl rfl ?_
    refine o_q (q_mv (v_raw rfl)) rfl rfl rfl ?_
    refine o_yes rfl rfl rfl (by decide) ?_
    refine o_q (q_ldmw ag45 sz45 rfl (by repeat first | exact Mem.upd_self _ _ _ | assumption | refine Mem.upd_ne (by assumption) ?_) rfl rfl) rfl rfl rfl ?_
    refine o_yes rfl rfl rfl (by decide) ?_
    refine o_call (((snd38 (sb 4 5) _).det)) goes38 (ac (v_agg rfl) ac_nil) rfl ?_
    refine o_q (q_pick_c (t := true) rfl (by decide) (v_raw rfl)) rfl rfl rfl ?_
    refine o_q (q_as (v_raw rfl)) rfl rfl rfl ?_
    refine o_nil ?_
    refine s_ret ?_
    refine s_end ?_
    exact ⟨by rfl, (by repeat first | exact hle | exact Mem.le_refl M | assumption | exact Mem.none_of_le hle (by assumption) | refine Mem.le_upd ?_ ?_)⟩

def tk6 : Nat → Nat → Option Nat := fun _ _ => none
def pl6 : Nat → List PStep
  | 18 => [.q 0, .q 1, .q 2, .s 3 [1, 0], .q 4, .s 5 [2], .q 6, .q 7, .q 8, .q 9, .s 10 [9, 8], .q 11, .q 12]
  | _ => []
theorem cb6 : Try.f6.body.map (codeB Try.prog Try.f6.ntmps tk6 pl6) = some true := by kernel_rfl
theorem goes6 : goesB Try.prog 6 = true := by kernel_rfl
-- carillon/carillonlaw16.SubsAll params ['int', 'int', 'int'] results [['t', 6]] own [] names ['0:many', '1:first', '2:each', '3:many', '4:first', '5:each', '7:head', '8:t', '9:_', '10:n', '11:i', '12:s', '13:_', '14:at', '15:round', '16:l', '17:code', '18:k'] calls [12, 14, 21, 22, 23, 24, 25] paths 5

theorem i64_of {n : Int} (h : (Lit.int .i64 n).wf = true) : -2 ^ 63 ≤ n ∧ n < 2 ^ 63 := by
  simp [Lit.wf, IntKind.min, IntKind.max, IntKind.signed, IntKind.bits] at h
  omega
abbrev sbC (s : Sb) : List AVal := [str s.name, str s.topic, int s.cur, int s.nxt]
theorem pickN (c : Int) (k : Nat) (hk : 0 < k) : ∃ n : Nat, pick c k = n ∧ n < k := by
  have h := pick_lt (c := c) (n := k) (by omega)
  exact ⟨(pick c k).toNat, by omega, by omega⟩
theorem pickE {c n : Int} {r : Nat} (M : Mem) (h : pick c n = r) (hn : 0 < n) (hn2 : n < 2 ^ 62) (hc : -2 ^ 63 ≤ c ∧ c < 2 ^ 63) : SoundCall Try.prog 22 [int c, int n] M fun q M' => q = int r ∧ M' = M := by
  have := snd22 c n M hn hn2 hc
  rw [h] at this
  exact this
theorem right_sb {c n : Int} (h : 0 ≤ c ∧ c ≤ n ∧ n ≤ 9007199254740991) : rightS (sb c n) = true := by
  have h1 : word (bs 115) = true := by kernel_rfl
  have h2 : word (bs 116) = true := by kernel_rfl
  simp [rightS, sb, h1, h2, h]
theorem new_top {f n : Nat} (h : f ≤ n) : newS (bs 115) (topN n) f = (sb f f, 0) := by
  have h1 : word (bs 115) = true := by kernel_rfl
  have h2 : (if (f : Int) < 0 then (topN n).en else (f : Int)) = f := if_neg (by omega)
  unfold newS
  simp only [h2]
  rw [if_pos]
  · rfl
  · rw [h1]
    exact decide_eq_true (show (f : Int) ≤ (n : Int) by omega)
theorem ack_sb {c n o : Int} (h : 0 ≤ c ∧ c ≤ n ∧ n ≤ 9007199254740991) (ho : 0 ≤ o ∧ o < n) : ackS (sb c n) o = (sb (max c (o + 1)) n, 0) := by
  unfold ackS
  rw [if_pos]
  · rfl
  · rw [right_sb h]
    simp only [Bool.true_and, Bool.and_eq_true, decide_eq_true_eq]
    exact ⟨ho.1, ho.2⟩
theorem poll_sb {n : Nat} {c a : Int} (k : Int) (h : 0 ≤ c ∧ c ≤ a) (hn : a ≤ n) (hn2 : n < 2 ^ 40) (hk : 1 ≤ k ∧ k ≤ 50) : ∃ L : Nat, (L : Int) = min (min k (n - a)) (max 0 (c + 100 - a)) ∧ pollS (sb c a) (topN n) k = (sb c (a + L), (List.range' a.toNat L).map recP, 0) :=
  poll_top (sb c a) k (right_sb ⟨h.1, h.2, by omega⟩) rfl hn hk
theorem rng_off {o L k : Nat} (h : k < ((List.range' o L).map recP).length) : ((List.range' o L).map recP)[k].off = ((o + k : Nat) : Int) := by
  simp only [List.getElem_map, List.getElem_range', recP]; omega
theorem seek_sb {n : Nat} {c a o : Int} (h : rightS (sb c a) = true) (ho : 0 ≤ o ∧ o ≤ n) : seekS (sb c a) (topN n) o = (sb o o, 0) := by
  unfold seekS ofS
  rw [if_pos]
  · rfl
  · rw [h]
    have : (sb c a).topic = (topN n).name := rfl
    have h3 : (topN n).en = n := rfl
    simp [this, h3, ho]
set_option maxHeartbeats 4000000 in
set_option maxRecDepth 20000 in
theorem snd6 (many : Int) (first : Int) (each : Int) (M : Mem) (hmany : -2 ^ 63 ≤ many ∧ many < 2 ^ 63) (hfirst : -2 ^ 63 ≤ first ∧ first < 2 ^ 63) (heach : -2 ^ 63 ≤ each ∧ each < 2 ^ 63) : SoundCall Try.prog 6 [int many, int first, int each] M fun r M' => r = bool true ∧ M.le M' := by
  obtain ⟨n, hn, hn2⟩ := pickN many 301 (by decide)
  obtain ⟨f, hf, hf2⟩ := pickN first (n + 1) (by omega)
  obtain ⟨e, he, he2⟩ := pickN each 50 (by decide)
  refine SoundCall.go tk6 pl6 mixed Try.func6 cb6 rfl (Nat.le_of_ble_eq_true rfl) ?_
  refine s_seq ?_
  refine s_region ?_
  refine o_q (q_as (v_raw rfl)) rfl rfl rfl ?_
  refine o_nil ?_
  refine s_seq ?_
  refine s_region ?_
  refine o_callx (snd21 _) goes21 ac_nil rfl ?_
  rintro r M0 ⟨rfl, hle⟩
  refine o_q (q_as (v_raw rfl)) rfl rfl rfl ?_
  refine o_nil ?_
  refine s_seq ?_
  refine s_region ?_
  refine o_callx (newT (bs 116) _ (by kernel_rfl)) goes12 (ac (v_raw rfl) ac_nil) rfl ?_
  rintro r M' ⟨t, w, ht0, hw0, htw, rfl, rfl⟩
  have htw' := htw.symm
  have ht0' := Mem.none_of_le hle ht0
  have hw0' := Mem.none_of_le hle hw0
  refine o_q (q_mv (v_tup rfl)) rfl rfl rfl ?_
  refine o_q (q_ext rfl rfl ((by first | exact v_raw rfl | exact v_sptr rfl))) rfl rfl rfl ?_
  refine o_q (q_ext rfl rfl (v_raw rfl)) rfl rfl rfl ?_
  refine o_q (q_as ((by first | exact v_raw rfl | exact v_sptr rfl))) rfl rfl rfl ?_
  refine o_q (q_as (v_raw rfl)) rfl rfl rfl ?_
  refine o_nil ?_
  refine s_seq ?_
  refine s_seq ?_
  refine s_region ?_
  refine o_q (q_mv ((by first | exact v_raw rfl | exact v_sptr rfl))) rfl rfl rfl ?_
  refine o_q (q_peql und24 rfl rfl) rfl rfl rfl ?_
  refine o_nil ?_
  refine s_else rfl rfl ?_
  refine s_skip ?_
  refine s_seq ?_
  refine s_region ?_
  refine o_q (q_mv (v_raw rfl)) rfl rfl rfl ?_
  refine o_call ((pickE _ hn (by decide) (by decide) hmany)) goes22 (ac (v_raw rfl) (ac (v_raw rfl) ac_nil)) rfl ?_
  refine o_q (q_as (v_raw rfl)) rfl rfl rfl ?_
  refine o_nil ?_
  refine s_seq ?_
  refine s_seq ?_
  refine s_region ?_
  refine o_q (q_as (v_raw rfl)) rfl rfl rfl ?_
  refine o_nil ?_
  refine s_block ?_
  refine s_loop (fun m S => ∃ T, ∃ M' : Mem, ∃ i : Nat, S = ⟨setT (setT (setT (setT (setT (setT T 8 (ptr t)) 11 (int (i : Nat))) 1 (int first)) 2 (int each)) 7 (bool true)) 10 (int (n : Nat)), M'⟩ ∧ M.le M' ∧ M' t = some (.cells (tpC w (topN i))) ∧ M' w = some (tpK (topN i)) ∧ i ≤ n ∧ m = n - i) n ?_ ?_
  · exact ⟨_, _, 0, St.mkT (kp (kp (kp (kp (kp (kp rfl rfl) rfl) rfl) rfl) rfl) rfl).symm, (by repeat first | exact hle | exact Mem.le_refl M | assumption | exact Mem.none_of_le hle (by assumption) | refine Mem.le_upd ?_ ?_), (by repeat first | exact Mem.upd_self _ _ _ | assumption | refine Mem.upd_ne (by assumption) ?_), (by repeat first | exact Mem.upd_self _ _ _ | assumption | refine Mem.upd_ne (by assumption) ?_), by omega, rfl⟩
  rintro m S ⟨T, M', i, rfl, hle, ht, hw, hi, rfl⟩
  refine s_seq ?_
  refine s_seq ?_
  refine s_region ?_
  refine o_q (q_mv (v_raw rfl)) rfl rfl rfl ?_
  refine o_q (q_mv (v_raw rfl)) rfl rfl rfl ?_
  refine o_q (q_lss rfl rfl) rfl rfl rfl ?_
  refine o_nil ?_
  refine s_cond rfl (fun h1 => ?_) (fun h1 => ?_)
  · have k1 := h1; try simp only [decide_eq_true_eq, decide_eq_false_iff_not, Bool.not_eq_true', Bool.not_eq_false', Bool.not_true, Bool.not_false, List.length_map, Decidable.not_not] at k1
    refine s_skip ?_
    refine s_seq ?_
    refine s_block ?_
    refine s_region ?_
    refine o_q (q_mv ((by first | exact v_raw rfl | exact v_sptr rfl))) rfl rfl rfl ?_
    refine o_q (q_mv (v_raw rfl)) rfl rfl rfl ?_
    refine o_callx ((pubT t w i _ (by omega) (by repeat first | exact Mem.upd_self _ _ _ | assumption | refine Mem.upd_ne (by assumption) ?_) (by repeat first | exact Mem.upd_self _ _ _ | assumption | refine Mem.upd_ne (by assumption) ?_) htw)) goes14 (ac ((by first | exact v_raw rfl | exact v_sptr rfl)) (ac (v_raw rfl) (ac (v_raw rfl) (ac (v_raw rfl) (ac (v_raw rfl) ac_nil))))) rfl ?_
    rintro r M' ⟨rfl, rfl⟩
    refine o_nil ?_
    refine s_blk_normal ?_
    refine s_region ?_
    refine o_q (q_mv (v_raw rfl)) rfl rfl rfl ?_
    refine o_q (q_add rfl rfl (wrap64 (by omega) (by omega))) rfl rfl rfl ?_
    refine o_q (q_as (v_raw rfl)) rfl rfl rfl ?_
    refine o_nil ?_
    refine s_inv ?_
    exact ⟨n - (i + 1), by omega, _, _, i + 1, St.mkT (kp (kp (kp (kp (kp (kp rfl rfl) rfl) rfl) rfl) rfl) rfl).symm, (by repeat first | exact hle | exact Mem.le_refl M | assumption | exact Mem.none_of_le hle (by assumption) | refine Mem.le_upd ?_ ?_), (by repeat first | exact Mem.upd_self _ _ _ | assumption | refine Mem.upd_ne (by assumption) ?_), (by repeat first | exact Mem.upd_self _ _ _ | assumption | refine Mem.upd_ne (by assumption) ?_), by omega, rfl⟩
  · have k1 := h1; try simp only [decide_eq_true_eq, decide_eq_false_iff_not, Bool.not_eq_true', Bool.not_eq_false', Bool.not_true, Bool.not_false, List.length_map, Decidable.not_not] at k1
    obtain rfl : n = i := by omega
    refine s_exit ?_
    refine s_code_exit ?_
    refine s_inv_exit ?_
    refine s_blk_here ?_
    refine s_seq ?_
    refine s_region ?_
    refine o_q (q_mv (v_raw rfl)) rfl rfl rfl ?_
    refine o_q (q_mv (v_raw rfl)) rfl rfl rfl ?_
    refine o_q (q_add rfl rfl (wrap64 (by omega) (by omega))) rfl rfl rfl ?_
    refine o_call ((pickE _ hf (by omega) (by omega) hfirst)) goes22 (ac (v_raw rfl) (ac (v_raw rfl) ac_nil)) rfl ?_
    refine o_q (q_as (v_raw rfl)) rfl rfl rfl ?_
    refine o_nil ?_
    refine s_seq ?_
    refine s_region ?_
    refine o_q (q_mv ((by first | exact v_raw rfl | exact v_sptr rfl))) rfl rfl rfl ?_
    refine o_q (q_mv (v_raw rfl)) rfl rfl rfl ?_
    refine o_call ((newE (x := topN n) t w _ (new_top (by omega)) (by repeat first | exact Mem.upd_self _ _ _ | assumption | refine Mem.upd_ne (by assumption) ?_) (by repeat first | exact Mem.upd_self _ _ _ | assumption | refine Mem.upd_ne (by assumption) ?_) htw)) goes23 (ac (v_raw rfl) (ac ((by first | exact v_raw rfl | exact v_sptr rfl)) (ac (v_raw rfl) ac_nil))) rfl ?_
    refine o_q (q_mv (v_tup rfl)) rfl rfl rfl ?_
    refine o_q (q_ext rfl rfl (v_agg rfl)) rfl rfl rfl ?_
    refine o_q (q_ext rfl rfl (v_raw rfl)) rfl rfl rfl ?_
    refine o_alloc zc45 (fun B1 hB1 => ?_)
    have n1 : t ≠ B1 := Mem.fresh_ne hB1 ht
    have n1' := n1.symm
    have n2 : w ≠ B1 := Mem.fresh_ne hB1 hw
    have n2' := n2.symm
    have m1 : M B1 = none := by have h := hB1; repeat (first | exact h | exact Mem.none_of_le hle h | replace h := (Mem.upd_none h).2)
    refine o_storew rfl (by repeat first | exact Mem.upd_self _ _ _ | assumption | refine Mem.upd_ne (by assumption) ?_) (by first | exact e_agg rfl | rfl) rfl sz45 rfl rfl rfl rfl ?_
    refine o_q (q_as (v_raw rfl)) rfl rfl rfl ?_
    refine o_nil ?_
    refine s_seq ?_
    refine s_region ?_
    refine o_q (q_mv (v_raw rfl)) rfl rfl rfl ?_
    refine o_q (q_as (v_raw rfl)) rfl rfl rfl ?_
    refine o_nil ?_
    refine s_seq ?_
    refine s_seq ?_
    refine s_region ?_
    refine o_q (q_as (v_raw rfl)) rfl rfl rfl ?_
    refine o_nil ?_
    refine s_block ?_
    refine s_loop (fun m S => ∃ T, ∃ M' : Mem, ∃ a r : Nat, S = ⟨setT (setT (setT (setT (setT (setT (setT T 2 (int each)) 7 (bool true)) 8 (ptr t)) 10 (int (n : Nat))) 12 (ptr B1)) 14 (int (a : Nat))) 15 (int (r : Nat)), M'⟩ ∧ M.le M' ∧ M' t = some (.cells (tpC w (topN n))) ∧ M' w = some (tpK (topN n)) ∧ M' B1 = some (.cells (sbC (sb a a))) ∧ a ≤ n ∧ r ≤ a ∧ m = n + 2 - r) (n + 2) ?_ ?_
    · exact ⟨_, _, f, 0, St.mkT (kp (kp (kp (kp (kp (kp (kp rfl rfl) rfl) rfl) rfl) rfl) rfl) rfl).symm, (by repeat first | exact hle | exact Mem.le_refl M | assumption | exact Mem.none_of_le hle (by assumption) | refine Mem.le_upd ?_ ?_), (by repeat first | exact Mem.upd_self _ _ _ | assumption | refine Mem.upd_ne (by assumption) ?_), (by repeat first | exact Mem.upd_self _ _ _ | assumption | refine Mem.upd_ne (by assumption) ?_), (by repeat first | exact Mem.upd_self _ _ _ | assumption | refine Mem.upd_ne (by assumption) ?_), by omega, by omega, by omega⟩
    rintro m S ⟨T, M', a, r, rfl, hle, ht, hw, hB, han, hra, rfl⟩
    obtain ⟨L, hL, hp⟩ := poll_sb (n := n) (c := a) (a := a) (1 + e) (by omega) (by omega) (by omega) (by omega)
    rw [Int.toNat_natCast] at hp
    have hll3 : ((List.range' a L).map recP).length = L := by simp
    have hll : (List.map enc ((List.range' a L).map recP)).length = L := by simp
    have hll2 : (List.range' a L).length = L := by simp
    refine s_seq ?_
    refine s_seq ?_
    refine s_region ?_
    refine o_q (q_mv (v_raw rfl)) rfl rfl rfl ?_
    refine o_q (q_mv (v_raw rfl)) rfl rfl rfl ?_
    refine o_q (q_add rfl rfl (wrap64 (by omega) (by omega))) rfl rfl rfl ?_
    refine o_q (q_leq rfl rfl) rfl rfl rfl ?_
    refine o_nil ?_
    refine s_cond rfl (fun h2 => ?_) (fun h2 => ?_)
    · have k2 := h2; try simp only [decide_eq_true_eq, decide_eq_false_iff_not, Bool.not_eq_true', Bool.not_eq_false', Bool.not_true, Bool.not_false, List.length_map, Decidable.not_not] at k2
      refine s_skip ?_
      refine s_seq ?_
      refine s_block ?_
      refine s_seq ?_
      refine s_region ?_
      refine o_q (q_as (v_sl rfl)) rfl rfl rfl ?_
      refine o_nil ?_
      refine s_seq ?_
      refine s_region ?_
      refine o_q (q_as (v_raw rfl)) rfl rfl rfl ?_
      refine o_nil ?_
      refine s_seq ?_
      refine s_draw rfl ?_
      refine d_q rfl (q_ldmw ag45 sz45 rfl (by repeat first | exact Mem.upd_self _ _ _ | assumption | refine Mem.upd_ne (by assumption) ?_) rfl rfl) rfl rfl rfl ?_
      refine d_q rfl (q_mv ((by first | exact v_raw rfl | exact v_sptr rfl))) rfl rfl rfl ?_
      refine d_q rfl (q_mv (v_raw rfl)) rfl rfl rfl ?_
      refine d_s rfl ?_
      refine o_call ((pickE _ he (by decide) (by decide) heach)) goes22 (ac (v_raw rfl) (ac (v_raw rfl) ac_nil)) rfl ?_
      refine o_nil ⟨(by simp [Mem.upd, *]), ?_⟩
      refine d_q rfl (q_add rfl rfl (wrap64 (by omega) (by omega))) rfl rfl rfl ?_
      refine d_s rfl ?_
      refine o_call ((pollT t w _ (by omega) hp (by repeat first | exact Mem.upd_self _ _ _ | assumption | refine Mem.upd_ne (by assumption) ?_) (by repeat first | exact Mem.upd_self _ _ _ | assumption | refine Mem.upd_ne (by assumption) ?_) htw)) goes24 (ac (v_agg rfl) (ac ((by first | exact v_raw rfl | exact v_sptr rfl)) (ac (v_raw rfl) ac_nil))) rfl ?_
      refine o_nil ⟨(by simp [Mem.upd, *]), ?_⟩
      refine d_q rfl (q_mv (v_tup rfl)) rfl rfl rfl ?_
      refine d_q rfl (q_ext rfl rfl (v_agg rfl)) rfl rfl rfl ?_
      refine d_q rfl (q_ext rfl rfl (v_sl rfl)) rfl rfl rfl ?_
      refine d_q rfl (q_ext rfl rfl (v_raw rfl)) rfl rfl rfl ?_
      refine d_s rfl ?_
      refine o_storew rfl (by repeat first | exact Mem.upd_self _ _ _ | assumption | refine Mem.upd_ne (by assumption) ?_) (by first | exact e_agg rfl | rfl) rfl sz45 rfl rfl rfl rfl ?_
      refine o_nil ⟨(by simp [Mem.upd, *]), ?_⟩
      refine d_q rfl (q_as (v_sl rfl)) rfl rfl rfl ?_
      refine d_q rfl (q_as (v_raw rfl)) rfl rfl rfl ?_
      refine d_nil ?_
      refine s_seq ?_
      refine s_seq ?_
      refine s_region ?_
      refine o_q (q_mv (v_raw rfl)) rfl rfl rfl ?_
      refine o_q (q_neq rfl rfl) rfl rfl rfl ?_
      refine o_nil ?_
      refine s_cond rfl (fun h3 => ?_) (fun h3 => ?_)
      · have k3 := h3; try simp only [decide_eq_true_eq, decide_eq_false_iff_not, Bool.not_eq_true', Bool.not_eq_false', Bool.not_true, Bool.not_false, List.length_map, Decidable.not_not] at k3
        first | exact absurd h3 (by decide) | (simp at h3; done) | (simp at h3; omega)
      · have k3 := h3; try simp only [decide_eq_true_eq, decide_eq_false_iff_not, Bool.not_eq_true', Bool.not_eq_false', Bool.not_true, Bool.not_false, List.length_map, Decidable.not_not] at k3
        refine s_skip ?_
        refine s_seq ?_
        refine s_seq ?_
        refine s_region ?_
        refine o_q (q_mv (v_sl rfl)) rfl rfl rfl ?_
        refine o_q (q_len rfl und28 rfl) rfl rfl rfl ?_
        refine o_q (q_eql rfl rfl) rfl rfl rfl ?_
        refine o_nil ?_
        refine s_cond rfl (fun h4 => ?_) (fun h4 => ?_)
        · have k4 := h4; try simp only [decide_eq_true_eq, decide_eq_false_iff_not, Bool.not_eq_true', Bool.not_eq_false', Bool.not_true, Bool.not_false, List.length_map, Decidable.not_not] at k4
          refine s_seq ?_
          refine s_region ?_
          refine o_q (q_mv (v_raw rfl)) rfl rfl rfl ?_
          refine o_q (q_mv (v_raw rfl)) rfl rfl rfl ?_
          refine o_yes rfl rfl rfl rfl ?_
          refine o_q (q_mv (v_raw rfl)) rfl rfl rfl ?_
          refine o_yes rfl rfl rfl rfl ?_
          refine o_q (q_mv (v_raw rfl)) rfl rfl rfl ?_
          refine o_yes rfl rfl rfl rfl ?_
          refine o_q (q_eql rfl rfl) rfl rfl rfl ?_
          refine o_q (q_pick_c (t := true) rfl rfl (v_raw rfl)) rfl rfl rfl ?_
          refine o_q (q_mv (v_raw rfl)) rfl rfl rfl ?_
          refine o_cases (want := true) (j := 6) rfl rfl (fun h5 => ?_) (fun h5 => ?_)
          · have k5 := h5; try simp only [decide_eq_true_eq, decide_eq_false_iff_not, Bool.not_eq_true', Bool.not_eq_false', Bool.not_true, Bool.not_false, List.length_map, Decidable.not_not] at k5
            refine o_yes rfl rfl rfl h5 ?_
            refine o_q (q_fr fo45_3 rfl) rfl rfl rfl ?_
            refine o_yes rfl rfl rfl h5 ?_
            refine o_q (q_ldm ag3 sz3 rfl (by repeat first | exact Mem.upd_self _ _ _ | assumption | refine Mem.upd_ne (by assumption) ?_) rfl (v_raw rfl)) rfl rfl rfl ?_
            refine o_yes rfl rfl rfl h5 ?_
            refine o_q (q_mv (v_raw rfl)) rfl rfl rfl ?_
            refine o_yes rfl rfl rfl h5 ?_
            refine o_q (q_eql rfl rfl) rfl rfl rfl ?_
            refine o_q (q_pick_c (t := true) rfl h5 (v_raw rfl)) rfl rfl rfl ?_
            refine o_q (q_as (v_raw rfl)) rfl rfl rfl ?_
            refine o_nil ?_
            refine s_ret ?_
            refine s_code_ret ?_
            refine s_blk_ret ?_
            refine s_code_ret ?_
            refine s_inv_ret ?_
            refine s_blk_ret ?_
            refine s_code_ret ?_
            refine s_end ?_
            refine ⟨congrArg (fun b => AVal.raw (.bool b)) ?_, (by repeat first | exact hle | exact Mem.le_refl M | assumption | exact Mem.none_of_le hle (by assumption) | refine Mem.le_upd ?_ ?_)⟩
            first | (exfalso; omega) | (exact decide_eq_true (show (a : Int) + L = n by omega))
          · have k5 := h5; try simp only [decide_eq_true_eq, decide_eq_false_iff_not, Bool.not_eq_true', Bool.not_eq_false', Bool.not_true, Bool.not_false, List.length_map, Decidable.not_not] at k5
            refine o_no rfl rfl rfl rfl h5 ?_
            refine o_no rfl rfl rfl rfl h5 ?_
            refine o_no rfl rfl rfl rfl h5 ?_
            refine o_no rfl rfl rfl rfl h5 ?_
            refine o_q (q_pick_c (t := false) rfl h5 (v_raw rfl)) rfl rfl rfl ?_
            refine o_q (q_as (v_raw rfl)) rfl rfl rfl ?_
            refine o_nil ?_
            refine s_ret ?_
            refine s_code_ret ?_
            refine s_blk_ret ?_
            refine s_code_ret ?_
            refine s_inv_ret ?_
            refine s_blk_ret ?_
            refine s_code_ret ?_
            refine s_end ?_
            refine ⟨congrArg (fun b => AVal.raw (.bool b)) ?_, (by repeat first | exact hle | exact Mem.le_refl M | assumption | exact Mem.none_of_le hle (by assumption) | refine Mem.le_upd ?_ ?_)⟩
            first | (exfalso; omega) | (exact decide_eq_true (show (a : Int) + L = n by omega))
        · have k4 := h4; try simp only [decide_eq_true_eq, decide_eq_false_iff_not, Bool.not_eq_true', Bool.not_eq_false', Bool.not_true, Bool.not_false, List.length_map, Decidable.not_not] at k4
          refine s_skip ?_
          refine s_seq ?_
          refine s_seq ?_
          refine s_region ?_
          refine o_q (q_as (v_raw rfl)) rfl rfl rfl ?_
          refine o_nil ?_
          refine s_block ?_
          refine s_loop (fun m S => ∃ T, ∃ M' : Mem, ∃ k : Nat, S = ⟨setT (setT (setT (setT (setT (setT (setT (setT (setT (setT T 2 (int each)) 7 (bool true)) 8 (ptr t)) 10 (int (n : Nat))) 12 (ptr B1)) 14 (int ((a + k : Nat) : Int))) 15 (int (r : Nat))) 16 (.sl (((List.range' a L).map recP).map enc) false)) 17 (int 0)) 18 (int (k : Nat)), M'⟩ ∧ M.le M' ∧ M' t = some (.cells (tpC w (topN n))) ∧ M' w = some (tpK (topN n)) ∧ M' B1 = some (.cells (sbC (sb a (a + L)))) ∧ k ≤ L ∧ m = L - k) L ?_ ?_
          · exact ⟨_, _, 0, St.mkT (kp (kp (kp (kp (kp (kp (kp (kp (kp (kp rfl rfl) rfl) rfl) rfl) rfl) rfl) rfl) rfl) rfl) rfl).symm, (by repeat first | exact hle | exact Mem.le_refl M | assumption | exact Mem.none_of_le hle (by assumption) | refine Mem.le_upd ?_ ?_), (by repeat first | exact Mem.upd_self _ _ _ | assumption | refine Mem.upd_ne (by assumption) ?_), (by repeat first | exact Mem.upd_self _ _ _ | assumption | refine Mem.upd_ne (by assumption) ?_), (by repeat first | exact Mem.upd_self _ _ _ | assumption | refine Mem.upd_ne (by assumption) ?_), by omega, rfl⟩
          rintro m S ⟨T, M', k, rfl, hle, ht, hw, hB, hk, rfl⟩
          refine s_seq ?_
          refine s_seq ?_
          refine s_region ?_
          refine o_q (q_mv (v_raw rfl)) rfl rfl rfl ?_
          refine o_q (q_mv (v_sl rfl)) rfl rfl rfl ?_
          refine o_q (q_len rfl und28 rfl) rfl rfl rfl ?_
          refine o_q (q_lss rfl rfl) rfl rfl rfl ?_
          refine o_nil ?_
          refine s_cond rfl (fun h6 => ?_) (fun h6 => ?_)
          · have k6 := h6; try simp only [decide_eq_true_eq, decide_eq_false_iff_not, Bool.not_eq_true', Bool.not_eq_false', Bool.not_true, Bool.not_false, List.length_map, Decidable.not_not] at k6
            refine s_skip ?_
            refine s_seq ?_
            refine s_block ?_
            refine s_seq ?_
            refine s_seq ?_
            refine s_region ?_
            refine o_q (q_mv (v_sl rfl)) rfl rfl rfl ?_
            refine o_q (q_mv (v_raw rfl)) rfl rfl rfl ?_
            refine o_q (q_idx und28 sz35 rfl rfl (by omega) (gm (l := (List.range' a L).map recP) k (by first | omega | simp)) rfl) rfl rfl rfl ?_
            refine o_q (q_f fo35_0 rfl) rfl rfl rfl ?_
            refine o_q (q_ld ag3 sz3 rfl (gm (l := (List.range' a L).map recP) k (by first | omega | simp)) rfl (v_raw rfl)) rfl rfl rfl ?_
            refine o_q (q_mv (v_raw rfl)) rfl rfl rfl ?_
            refine o_q (q_neq rfl rfl) rfl rfl rfl ?_
            refine o_nil ?_
            refine s_cond rfl (fun h7 => ?_) (fun h7 => ?_)
            · have k7 := h7; try simp only [decide_eq_true_eq, decide_eq_false_iff_not, Bool.not_eq_true', Bool.not_eq_false', Bool.not_true, Bool.not_false, List.length_map, Decidable.not_not] at k7
              exact absurd (rng_off _) k7
            · have k7 := h7; try simp only [decide_eq_true_eq, decide_eq_false_iff_not, Bool.not_eq_true', Bool.not_eq_false', Bool.not_true, Bool.not_false, List.length_map, Decidable.not_not] at k7
              refine s_skip ?_
              refine s_region ?_
              refine o_q (q_mv (v_raw rfl)) rfl rfl rfl ?_
              refine o_q (q_add rfl rfl (wrap64 (by omega) (by omega))) rfl rfl rfl ?_
              refine o_q (q_as (v_raw rfl)) rfl rfl rfl ?_
              refine o_nil ?_
              refine s_blk_normal ?_
              refine s_region ?_
              refine o_q (q_mv (v_raw rfl)) rfl rfl rfl ?_
              refine o_q (q_add rfl rfl (wrap64 (by omega) (by omega))) rfl rfl rfl ?_
              refine o_q (q_as (v_raw rfl)) rfl rfl rfl ?_
              refine o_nil ?_
              refine s_inv ?_
              exact ⟨L - (k + 1), by omega, _, _, k + 1, St.mkT (kp (kp (kp (kp (kp (kp (kp (kp (kp (kp rfl rfl) rfl) rfl) rfl) rfl) rfl) rfl) rfl) rfl) rfl).symm, hle, ht, hw, hB, by omega, rfl⟩
          · have k6 := h6; try simp only [decide_eq_true_eq, decide_eq_false_iff_not, Bool.not_eq_true', Bool.not_eq_false', Bool.not_true, Bool.not_false, List.length_map, Decidable.not_not] at k6
            obtain rfl : L = k := by omega
            have e1 : max (a : Int) (((a + L : Nat) : Int) - 1 + 1) = ((a + L : Nat) : Int) := by omega
            have e2 : (a : Int) + L = ((a + L : Nat) : Int) := by omega
            have hak : ackS (sb a (a + L)) (((a + L : Nat) : Int) - 1) = (sb ((a + L : Nat) : Int) ((a + L : Nat) : Int), 0) := by rw [ack_sb (by omega) (by omega), e1, e2]
            refine s_exit ?_
            refine s_code_exit ?_
            refine s_inv_exit ?_
            refine s_blk_here ?_
            refine s_seq ?_
            refine s_region ?_
            refine o_q (q_ldmw ag45 sz45 rfl (by repeat first | exact Mem.upd_self _ _ _ | assumption | refine Mem.upd_ne (by assumption) ?_) rfl rfl) rfl rfl rfl ?_
            refine o_q (q_mv (v_raw rfl)) rfl rfl rfl ?_
            refine o_q (q_sub rfl rfl (wrap64 (by omega) (by omega))) rfl rfl rfl ?_
            refine o_call ((ackE _ hak)) goes25 (ac (v_agg rfl) (ac (v_raw rfl) ac_nil)) rfl ?_
            refine o_q (q_mv (v_tup rfl)) rfl rfl rfl ?_
            refine o_q (q_ext rfl rfl (v_agg rfl)) rfl rfl rfl ?_
            refine o_q (q_ext rfl rfl (v_raw rfl)) rfl rfl rfl ?_
            refine o_storew rfl (by repeat first | exact Mem.upd_self _ _ _ | assumption | refine Mem.upd_ne (by assumption) ?_) (by first | exact e_agg rfl | rfl) rfl sz45 rfl rfl rfl rfl ?_
            refine o_q (q_as (v_raw rfl)) rfl rfl rfl ?_
            refine o_nil ?_
            refine s_seq ?_
            refine s_region ?_
            refine o_q (q_mv (v_raw rfl)) rfl rfl rfl ?_
            refine o_q (q_neq rfl rfl) rfl rfl rfl ?_
            refine o_q (q_mv (v_raw rfl)) rfl rfl rfl ?_
            refine o_cases (want := false) (j := 2) rfl rfl (fun h8 => ?_) (fun h8 => ?_)
            · have k8 := h8; try simp only [decide_eq_true_eq, decide_eq_false_iff_not, Bool.not_eq_true', Bool.not_eq_false', Bool.not_true, Bool.not_false, List.length_map, Decidable.not_not] at k8
              refine o_yes rfl rfl rfl h8 ?_
              refine o_q (q_fr fo45_2 rfl) rfl rfl rfl ?_
              refine o_yes rfl rfl rfl h8 ?_
              refine o_q (q_ldm ag3 sz3 rfl (by repeat first | exact Mem.upd_self _ _ _ | assumption | refine Mem.upd_ne (by assumption) ?_) rfl (v_raw rfl)) rfl rfl rfl ?_
              refine o_yes rfl rfl rfl h8 ?_
              refine o_q (q_mv (v_raw rfl)) rfl rfl rfl ?_
              refine o_yes rfl rfl rfl h8 ?_
              refine o_q (q_neq rfl rfl) rfl rfl rfl ?_
              refine o_q (q_pick_c (t := false) rfl h8 (v_raw rfl)) rfl rfl rfl ?_
              refine o_nil ?_
              refine s_cond rfl (fun h9 => ?_) (fun h9 => ?_)
              · have k9 := h9; try simp only [decide_eq_true_eq, decide_eq_false_iff_not, Bool.not_eq_true', Bool.not_eq_false', Bool.not_true, Bool.not_false, List.length_map, Decidable.not_not] at k9
                exact absurd rfl k9
              · have k9 := h9; try simp only [decide_eq_true_eq, decide_eq_false_iff_not, Bool.not_eq_true', Bool.not_eq_false', Bool.not_true, Bool.not_false, List.length_map, Decidable.not_not] at k9
                refine s_skip ?_
                refine s_blk_normal ?_
                refine s_region ?_
                refine o_q (q_mv (v_raw rfl)) rfl rfl rfl ?_
                refine o_q (q_add rfl rfl (wrap64 (by omega) (by omega))) rfl rfl rfl ?_
                refine o_q (q_as (v_raw rfl)) rfl rfl rfl ?_
                refine o_nil ?_
                refine s_inv ?_
                exact ⟨n + 2 - (r + 1), by omega, _, _, a + L, r + 1, St.mkT (kp (kp (kp (kp (kp (kp (kp rfl rfl) rfl) rfl) rfl) rfl) rfl) rfl).symm, (by repeat first | exact hle | exact Mem.le_refl M | assumption | exact Mem.none_of_le hle (by assumption) | refine Mem.le_upd ?_ ?_), (by repeat first | exact Mem.upd_self _ _ _ | assumption | refine Mem.upd_ne (by assumption) ?_), (by repeat first | exact Mem.upd_self _ _ _ | assumption | refine Mem.upd_ne (by assumption) ?_), (by repeat first | exact Mem.upd_self _ _ _ | assumption | refine Mem.upd_ne (by assumption) ?_), by omega, by omega, rfl⟩
            · have k8 := h8; try simp only [decide_eq_true_eq, decide_eq_false_iff_not, Bool.not_eq_true', Bool.not_eq_false', Bool.not_true, Bool.not_false, List.length_map, Decidable.not_not] at k8
              first | exact absurd h8 (by decide) | (simp at h8; done) | (simp at h8; omega)
    · have k2 := h2; try simp only [decide_eq_true_eq, decide_eq_false_iff_not, Bool.not_eq_true', Bool.not_eq_false', Bool.not_true, Bool.not_false, List.length_map, Decidable.not_not] at k2
      exfalso; omega
end C15
