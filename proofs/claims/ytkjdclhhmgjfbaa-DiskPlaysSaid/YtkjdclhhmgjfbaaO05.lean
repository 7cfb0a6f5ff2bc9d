import Derived.Test.YtkjdclhhmgjfbaaO04
import Derived.Test.YtkjdclhhmgjfbaaY04
import Derived.Test.YtkjdclhhmgjfbaaM04
/-! Chapter 4: the reference's disk, walked. -/
open Go Go.Proofs Go.Am
set_option linter.unusedVariables false
set_option linter.unusedSimpArgs false
set_option autoImplicit false
namespace C04
theorem ag83 : aggT Try.prog 83 = some false := by kernel_rfl
theorem ag84 : aggT Try.prog 84 = some false := by kernel_rfl
theorem ag85 : aggT Try.prog 85 = some false := by kernel_rfl
theorem ag92 : aggT Try.prog 92 = some true := by kernel_rfl
theorem ag93 : aggT Try.prog 93 = some false := by kernel_rfl
theorem ag95 : aggT Try.prog 95 = some true := by kernel_rfl
theorem bz92 : (zeroT Try.prog 92).map (fun z => z.cells.toList.map AVal.raw) = some [.raw (.int .i64 0), .raw (.string { data := #[] }), .raw (.string { data := #[] }), .raw (.int .i64 0)] := by kernel_rfl
theorem bp92 : (aPlaces Try.prog 92).isSome = true := by kernel_rfl
theorem bz95 : (zeroT Try.prog 95).map (fun z => z.cells.toList.map AVal.raw) = some [.raw (.string { data := #[] }), .raw (.slice none 0 0)] := by kernel_rfl
theorem bp95 : (aPlaces Try.prog 95).isSome = true := by kernel_rfl
theorem bz111 : (zeroT Try.prog 111).map (fun z => z.cells.toList.map AVal.raw) = some [.raw (.string { data := #[] }), .raw (.int .i64 0)] := by kernel_rfl
theorem bp111 : (aPlaces Try.prog 111).isSome = true := by kernel_rfl
theorem fo87_1 : fo Try.prog 87 1 = some (1, 1) := by kernel_rfl
theorem fo87_2 : fo Try.prog 87 2 = some (2, 1) := by kernel_rfl
theorem fo87_3 : fo Try.prog 87 3 = some (3, 1) := by kernel_rfl
theorem fo87_4 : fo Try.prog 87 4 = some (4, 1) := by kernel_rfl
theorem fo87_6 : fo Try.prog 87 6 = some (6, 1) := by kernel_rfl
theorem fo95_0 : fo Try.prog 95 0 = some (0, 1) := by kernel_rfl
theorem fo95_1 : fo Try.prog 95 1 = some (1, 1) := by kernel_rfl
theorem slt49 : SlT Try.prog 49 9 1 16 := ⟨by kernel_rfl, by kernel_rfl, by kernel_rfl, by kernel_rfl, by decide⟩
theorem slt83 : SlT Try.prog 83 95 2 40 := ⟨by kernel_rfl, by kernel_rfl, by kernel_rfl, by kernel_rfl, by decide⟩
theorem slt85 : SlT Try.prog 85 92 4 48 := ⟨by kernel_rfl, by kernel_rfl, by kernel_rfl, by kernel_rfl, by decide⟩
theorem sz83 : sizeT Try.prog 83 = some 1 := by kernel_rfl
theorem sz84 : sizeT Try.prog 84 = some 1 := by kernel_rfl
theorem sz85 : sizeT Try.prog 85 = some 1 := by kernel_rfl
theorem sz92 : sizeT Try.prog 92 = some 4 := by kernel_rfl
theorem sz93 : sizeT Try.prog 93 = some 1 := by kernel_rfl
theorem sz95 : sizeT Try.prog 95 = some 2 := by kernel_rfl
theorem und83 : Try.prog.underlying 83 = some (.slice 95) := by kernel_rfl
theorem und85 : Try.prog.underlying 85 = some (.slice 92) := by kernel_rfl
theorem zc92 : zeroCellsT Try.prog 92 = some [.raw (.int .i64 0), .raw (.string { data := #[] }), .raw (.string { data := #[] }), .raw (.int .i64 0)] := by kernel_rfl
theorem zc95 : zeroCellsT Try.prog 95 = some [.raw (.string { data := #[] }), .sl [] true] := by kernel_rfl
def tk52r : Nat → Nat → Option Nat := fun _ _ => none
def pl52r : Nat → List PStep := fun _ => []
theorem cb52r : Try.f52.body.map (codeB Try.prog Try.f52.ntmps tk52r pl52r) = some true := by kernel_rfl
set_option maxHeartbeats 4000000 in
set_option maxRecDepth 20000 in
theorem snd52r (s : ByteArray) (la : List A) (base : Option Addr) (cp : Nat) (now : List UInt8) (M : Mem) (h : okA s.data.toList la now) (hl : la.length ≤ 2 ^ 41) (hw : Ws encU 2 M (.slice base la.length cp) la) : SoundCall Try.prog 52 [str s, .raw (.slice base la.length cp)] M fun r M' => r = str ⟨now.toArray⟩ ∧ M' = M := by
  have hml : (la.map encU).length = la.length := List.length_map _
  have hbig : BIG = 2 ^ 40 := rfl
  refine SoundCall.go tk52r pl52r mixed Try.func52 cb52r rfl (Nat.le_of_ble_eq_true rfl) ?_
  refine s_seq ?_
  refine s_region ?_
  refine o_q (q_as (v_raw rfl)) rfl rfl rfl ?_
  refine o_nil ?_
  refine s_seq ?_
  refine s_seq ?_
  refine s_region ?_
  refine o_q (q_as (v_raw rfl)) rfl rfl rfl ?_
  refine o_nil ?_
  refine s_block ?_
  refine s_loop (fun m S => ∃ T, ∃ z : ByteArray, ∃ i : Nat, S = ⟨setT (setT (setT T 0 (str z)) 1 (.raw (.slice base la.length cp))) 5 (int (i : Nat)), M⟩ ∧ okA z.data.toList (la.drop i) now ∧ i ≤ la.length ∧ m = la.length - i) la.length ?_ ?_
  · exact ⟨_, s, 0, St.mkT (kp (kp (kp rfl rfl) rfl) rfl).symm, h, by omega, rfl⟩
  rintro m S ⟨T, z, i, rfl, hz, hi, rfl⟩
  refine s_seq ?_
  refine s_seq ?_
  refine s_region ?_
  refine o_q (q_mv (v_raw rfl)) rfl rfl rfl ?_
  refine o_q (q_mv (v_raw rfl)) rfl rfl rfl ?_
  refine o_q (q_lenr rfl und93 rfl) rfl rfl rfl ?_
  refine o_q (q_lss rfl rfl) rfl rfl rfl ?_
  refine o_nil ?_
  refine s_cond rfl (fun h1 => ?_) (fun h1 => ?_)
  · have k1 := h1; try simp only [decide_eq_true_eq, decide_eq_false_iff_not, Bool.not_eq_true', Bool.not_eq_false', Bool.not_true, Bool.not_false, List.length_map, Decidable.not_not] at k1
    have hi2 : i < la.length := by omega
    rw [List.drop_eq_getElem_cons hi2] at hz
    obtain ⟨hz1, hz2, hz3⟩ := hz
    have hz4 := (okA_len hz3).1
    have hzs : z.data.toList.length = z.size := by simp
    obtain ⟨bb, kk, R, hv, hR, hb⟩ := hw.get (by omega)
    cases hv
    refine s_skip ?_
    refine s_seq ?_
    refine s_block ?_
    refine s_seq ?_
    refine s_region ?_
    refine o_q (q_mv (v_raw rfl)) rfl rfl rfl ?_
    refine o_q (q_mv (v_raw rfl)) rfl rfl rfl ?_
    refine o_q (q_idxr und93 sz111 rfl rfl (by omega) (by omega)) rfl rfl rfl ?_
    refine o_q (q_fr fo111_1 rfl) rfl rfl rfl ?_
    refine o_q (q_ldm ag3 sz3 rfl hb (piece_f1 uwU.len (l := la) (j := i) (q := 1) hi2 (by decide) (by show 0 + ((i : Int)).toNat * 2 + 1 = _; omega) rfl) (v_raw rfl)) rfl rfl rfl ?_
    refine o_q (q_lss rfl rfl) rfl rfl rfl ?_
    refine o_nil ?_
    refine s_cond rfl (fun h2 => ?_) (fun h2 => ?_)
    · have k2 := h2; try simp only [decide_eq_true_eq, decide_eq_false_iff_not, Bool.not_eq_true', Bool.not_eq_false', Bool.not_true, Bool.not_false, List.length_map, Decidable.not_not] at k2
      obtain ⟨tx, hx⟩ : ∃ tx, la[i] = .app tx := by
        cases e : la[i] with
        | app tx => exact ⟨tx, rfl⟩
        | cut n => rw [e] at k2; exact absurd k2 (by show ¬ ((n : Int) < 0); omega)
      have hus : la[i].us = tx := by rw [hx]; rfl
      have hrn : A.run z.data.toList la[i] la[i].units = z.data.toList ++ tx.data.toList := by rw [hx]; show _ ++ tx.data.toList.take tx.size = _; rw [List.take_of_length_le (by simp)]
      rw [hrn] at hz3 hz4
      have hts : tx.data.toList.length = tx.size := by simp
      rw [List.length_append] at hz4
      have hus2 : la[i].us.size = tx.size := by rw [hus]
      refine s_region ?_
      refine o_q (q_mv (v_raw rfl)) rfl rfl rfl ?_
      refine o_q (q_mv (v_raw rfl)) rfl rfl rfl ?_
      refine o_q (q_mv (v_raw rfl)) rfl rfl rfl ?_
      refine o_q (q_idxr und93 sz111 rfl rfl (by omega) (by omega)) rfl rfl rfl ?_
      refine o_q (q_fr fo111_0 rfl) rfl rfl rfl ?_
      refine o_q (q_ldm ag9 sz9 rfl hb (piece_f1 uwU.len (l := la) (j := i) (q := 0) hi2 (by decide) (by show 0 + ((i : Int)).toNat * 2 + 0 = _; omega) rfl) (v_raw rfl)) rfl rfl rfl ?_
      refine o_q (q_sadd rfl rfl (by omega)) rfl rfl rfl ?_
      refine o_q (q_as (v_raw rfl)) rfl rfl rfl ?_
      refine o_nil ?_
      refine s_blk_normal ?_
      refine s_region ?_
      refine o_q (q_mv (v_raw rfl)) rfl rfl rfl ?_
      refine o_q (q_add rfl rfl (wrap64 (by omega) (by omega))) rfl rfl rfl ?_
      refine o_q (q_as (v_raw rfl)) rfl rfl rfl ?_
      refine o_nil ?_
      refine s_inv ?_
      exact ⟨la.length - (i + 1), by omega, _, z ++ la[i].us, i + 1, St.mkT (kp (kp (kp rfl rfl) rfl) rfl).symm, (by rw [hus]; simpa using hz3), by omega, rfl⟩
    · have k2 := h2; try simp only [decide_eq_true_eq, decide_eq_false_iff_not, Bool.not_eq_true', Bool.not_eq_false', Bool.not_true, Bool.not_false, List.length_map, Decidable.not_not] at k2
      obtain ⟨n, hx⟩ : ∃ n, la[i] = .cut n := by
        cases e : la[i] with
        | app tx => rw [e] at k2; exact absurd (show (-1 : Int) < 0 by decide) k2
        | cut n => exact ⟨n, rfl⟩
      have hun : la[i].un = (n : Int) := by rw [hx]; rfl
      have hnz : n ≤ z.size := by rw [hx] at hz2; rw [← hzs]; exact hz2
      have hrn : A.run z.data.toList la[i] la[i].units = z.data.toList.take n := by rw [hx]; rfl
      rw [hrn] at hz3
      refine s_region ?_
      refine o_q (q_mv (v_raw rfl)) rfl rfl rfl ?_
      refine o_q (q_mv (v_raw rfl)) rfl rfl rfl ?_
      refine o_q (q_mv (v_raw rfl)) rfl rfl rfl ?_
      refine o_q (q_idxr und93 sz111 rfl rfl (by omega) (by omega)) rfl rfl rfl ?_
      refine o_q (q_fr fo111_1 rfl) rfl rfl rfl ?_
      refine o_q (q_ldm ag3 sz3 rfl hb (piece_f1 uwU.len (l := la) (j := i) (q := 1) hi2 (by decide) (by show 0 + ((i : Int)).toNat * 2 + 1 = _; omega) rfl) (v_raw rfl)) rfl rfl rfl ?_
      refine o_q (q_slstr (n := n) und9 rfl (by show some (some (Value.int .i64 la[i].un)) = _; rw [hun]) hnz) rfl rfl rfl ?_
      refine o_q (q_as (v_raw rfl)) rfl rfl rfl ?_
      refine o_nil ?_
      refine s_blk_normal ?_
      refine s_region ?_
      refine o_q (q_mv (v_raw rfl)) rfl rfl rfl ?_
      refine o_q (q_add rfl rfl (wrap64 (by omega) (by omega))) rfl rfl rfl ?_
      refine o_q (q_as (v_raw rfl)) rfl rfl rfl ?_
      refine o_nil ?_
      refine s_inv ?_
      exact ⟨la.length - (i + 1), by omega, _, z.extract 0 n, i + 1, St.mkT (kp (kp (kp rfl rfl) rfl) rfl).symm, (by rw [ext_list]; exact hz3), by omega, rfl⟩
  · have k1 := h1; try simp only [decide_eq_true_eq, decide_eq_false_iff_not, Bool.not_eq_true', Bool.not_eq_false', Bool.not_true, Bool.not_false, List.length_map, Decidable.not_not] at k1
    refine s_exit ?_
    refine s_code_exit ?_
    refine s_inv_exit ?_
    refine s_blk_here ?_
    refine s_seq ?_
    refine s_region ?_
    refine o_q (q_mv (v_raw rfl)) rfl rfl rfl ?_
    refine o_q (q_as (v_raw rfl)) rfl rfl rfl ?_
    refine o_nil ?_
    refine s_ret ?_
    refine s_end ?_
    have : z = ⟨now.toArray⟩ := by
      rw [List.drop_of_length_le (by omega)] at hz
      exact ba_ext (by rw [hz.1])
    exact ⟨congrArg str this, rfl⟩

def tk53r : Nat → Nat → Option Nat
  | 1, 0 => some 0
  | 10, 0 => some 0
  | 10, 4 => some 0
  | _, _ => none
def pl53r : Nat → List PStep := fun _ => []
theorem cb53r : Try.f53.body.map (codeB Try.prog Try.f53.ntmps tk53r pl53r) = some true := by kernel_rfl
theorem okA_us : ∀ {l : List UInt8} {la : List A} {now : List UInt8}, okA l la now → ∀ a ∈ la, a.us.size ≤ BIG
  | l, [], now, h, a, ha => by cases ha
  | l, b :: r, now, h, a, ha => by
    rcases List.mem_cons.1 ha with rfl | ha
    · cases a with
      | app s =>
        have h1 := (okA_len h.2.2).1
        have h2 : A.run l (A.app s) (A.app s).units = l ++ s.data.toList := by show l ++ s.data.toList.take s.size = _; rw [List.take_of_length_le (by simp)]
        rw [h2, List.length_append] at h1
        have h3 : s.data.toList.length = s.size := by simp
        show s.size ≤ BIG
        omega
      | cut n => exact Nat.zero_le _
    · exact okA_us h.2.2 a ha
theorem Ws.le {α : Type} {f : α → AVal} {sz : Nat} {M M' : Mem} {v : Value} {l : List α} (h : Ws f sz M v l) (hle : M.le M') (hz : 0 < sz) : Ws f sz M' v l := h.keep (fun b hb hm => leK hle hm) hz
set_option maxHeartbeats 4000000 in
set_option maxRecDepth 20000 in
theorem snd53r (la : List A) (base : Option Addr) (cp : Nat) (n : Int) (M : Mem) (hl : la.length ≤ 2 ^ 40) (hn : -2 ^ 63 ≤ n ∧ n < 2 ^ 63) (hs : ∀ a ∈ la, a.us.size ≤ 2 ^ 62) (hw : Ws encU 2 M (.slice base la.length cp) la) : SoundCall Try.prog 53 [.raw (.slice base la.length cp), int n] M fun r M' => r = .sl ((keptA la n).map encU) false ∧ M.le M' := by
  have hle := Mem.le_refl M
  have hml : (la.map encU).length = la.length := List.length_map _
  refine SoundCall.go tk53r pl53r mixed Try.func53 cb53r rfl (Nat.le_of_ble_eq_true rfl) ?_
  refine s_seq ?_
  refine s_region ?_
  refine o_q (q_as (v_sl rfl)) rfl rfl rfl ?_
  refine o_nil ?_
  refine s_seq ?_
  refine s_region ?_
  refine o_q (q_as_const rfl) rfl rfl rfl ?_
  refine o_nil ?_
  refine s_seq ?_
  refine s_seq ?_
  refine s_region ?_
  refine o_q (q_as (v_raw rfl)) rfl rfl rfl ?_
  refine o_nil ?_
  refine s_block ?_
  refine s_loop (fun m S => ∃ T, ∃ M1 : Mem, ∃ lb : List A, ∃ n2 : Int, ∃ i : Nat, S = ⟨setT (setT (setT (setT T 0 (.raw (.slice base la.length cp))) 1 (int n2)) 5 (.sl (lb.map encU) true)) 6 (int (i : Nat)), M1⟩ ∧ M.le M1 ∧ (-2 ^ 63 ≤ n2 ∧ n2 < 2 ^ 63) ∧ keptA la n = lb ++ keptA (la.drop i) n2 ∧ lb.length = i ∧ i ≤ la.length ∧ m = la.length - i) la.length ?_ ?_
  · exact ⟨_, _, [], n, 0, St.mkT (kp (kp (kp (kp rfl rfl) rfl) rfl) rfl).symm, hle, hn, rfl, rfl, by omega, rfl⟩
  rintro m S ⟨T, M1, lb, n2, i, rfl, hle, hn2, hkp, hlb, hi, rfl⟩
  have hmb : (lb.map encU).length = lb.length := List.length_map _
  refine s_seq ?_
  refine s_seq ?_
  refine s_region ?_
  refine o_q (q_mv (v_raw rfl)) rfl rfl rfl ?_
  refine o_q (q_mv (v_raw rfl)) rfl rfl rfl ?_
  refine o_q (q_lenr rfl und93 rfl) rfl rfl rfl ?_
  refine o_q (q_lss rfl rfl) rfl rfl rfl ?_
  refine o_q (q_mv (v_raw rfl)) rfl rfl rfl ?_
  refine o_cases (want := true) (j := 4) rfl rfl (fun h1 => ?_) (fun h1 => ?_)
  · have k1 := h1; try simp only [decide_eq_true_eq, decide_eq_false_iff_not, Bool.not_eq_true', Bool.not_eq_false', Bool.not_true, Bool.not_false, List.length_map, Decidable.not_not] at k1
    have hi2 : i < la.length := by omega
    obtain ⟨bb, kk, R, hv, hR, hb⟩ := hw.get (by omega)
    cases hv
    have hb1 := hle bb _ hb
    refine o_yes rfl rfl rfl h1 ?_
    refine o_q (q_mv (v_raw rfl)) rfl rfl rfl ?_
    refine o_yes rfl rfl rfl h1 ?_
    refine o_q (q_gtr rfl rfl) rfl rfl rfl ?_
    refine o_q (q_pick_c (t := true) rfl h1 (v_raw rfl)) rfl rfl rfl ?_
    refine o_nil ?_
    refine s_cond rfl (fun h2 => ?_) (fun h2 => ?_)
    · have k2 := h2; try simp only [decide_eq_true_eq, decide_eq_false_iff_not, Bool.not_eq_true', Bool.not_eq_false', Bool.not_true, Bool.not_false, List.length_map, Decidable.not_not] at k2
      have hn0 : 0 < n2 := by omega
      have hsz := hs _ (List.getElem_mem hi2)
      refine s_skip ?_
      refine s_seq ?_
      refine s_block ?_
      refine s_seq ?_
      refine s_region ?_
      refine o_q (q_mv (v_raw rfl)) rfl rfl rfl ?_
      refine o_q (q_mv (v_raw rfl)) rfl rfl rfl ?_
      refine o_q (q_idxr und93 sz111 rfl rfl (by omega) (by omega)) rfl rfl rfl ?_
      refine o_q (q_ldm ag111 sz111 rfl hb1 (piece_fl uwU.len (l := la) (j := i) hi2 (by show 0 + ((i : Int)).toNat * 2 = _; omega)) (v_agg rfl)) rfl rfl rfl ?_
      refine o_alloc zc111 (fun B1 hB1 => ?_)
      have m1 : M B1 = none := by have h := hB1; repeat (first | exact h | exact Mem.none_of_le hle h | replace h := (Mem.upd_none h).2)
      refine o_storew rfl (by repeat first | exact Mem.upd_self _ _ _ | assumption | refine Mem.upd_ne (by assumption) ?_) (by first | exact e_agg rfl | rfl) rfl sz111 rfl rfl rfl rfl ?_
      refine o_nil ?_
      refine s_seq ?_
      refine s_region ?_
      refine o_q (q_as (v_raw rfl)) rfl rfl rfl ?_
      refine o_nil ?_
      refine s_seq ?_
      refine s_seq ?_
      refine s_region ?_
      refine o_q (q_fr fo111_1 rfl) rfl rfl rfl ?_
      refine o_q (q_ldm ag3 sz3 rfl (by repeat first | exact Mem.upd_self _ _ _ | assumption | refine Mem.upd_ne (by assumption) ?_) rfl (v_raw rfl)) rfl rfl rfl ?_
      refine o_q (q_lss rfl rfl) rfl rfl rfl ?_
      refine o_nil ?_
      refine s_cond rfl (fun h3 => ?_) (fun h3 => ?_)
      · have k3 := h3; try simp only [decide_eq_true_eq, decide_eq_false_iff_not, Bool.not_eq_true', Bool.not_eq_false', Bool.not_true, Bool.not_false, List.length_map, Decidable.not_not] at k3
        obtain ⟨tx, hx⟩ : ∃ tx, la[i] = .app tx := by
          cases e : la[i] with
          | app tx => exact ⟨tx, rfl⟩
          | cut n => rw [e] at k3; exact absurd k3 (by show ¬ ((n : Int) < 0); omega)
        have hus : la[i].us = tx := by rw [hx]; rfl
        have hun : la[i].un = -1 := by rw [hx]; rfl
        obtain ⟨q, hq⟩ : ∃ q : Nat, min n2 ((la[i].us.size : Nat) : Int) = (q : Int) := ⟨(min n2 ((la[i].us.size : Nat) : Int)).toNat, by omega⟩
        have hq1 : q ≤ la[i].us.size := by omega
        have hqz : (la[i].us.extract 0 q).size = q := by simp [ByteArray.size_extract]; omega
        have hkp2 : keptA la n = (lb ++ [A.app (la[i].us.extract 0 q)]) ++ keptA (la.drop (i + 1)) (n2 - ((la[i].us.extract 0 q).size : Nat)) := by
          rw [hqz, hkp, List.drop_eq_getElem_cons hi2, List.append_assoc]
          congr 1
          have hq3 : min n2 ((tx.size : Nat) : Int) = (q : Int) := by rw [← hus]; exact hq
          rw [hus, hx, keptA_app hn0, hq3]; rfl
        refine s_seq ?_
        refine s_region ?_
        refine o_q (q_fr fo111_0 rfl) rfl rfl rfl ?_
        refine o_q (q_ldm ag9 sz9 rfl (by repeat first | exact Mem.upd_self _ _ _ | assumption | refine Mem.upd_ne (by assumption) ?_) rfl (v_raw rfl)) rfl rfl rfl ?_
        refine o_q (q_mv (v_raw rfl)) rfl rfl rfl ?_
        refine o_q (q_fr fo111_0 rfl) rfl rfl rfl ?_
        refine o_q (q_ldm ag9 sz9 rfl (by repeat first | exact Mem.upd_self _ _ _ | assumption | refine Mem.upd_ne (by assumption) ?_) rfl (v_raw rfl)) rfl rfl rfl ?_
        refine o_q (q_lens rfl und9 rfl) rfl rfl rfl ?_
        refine o_q (q_min rfl rfl) rfl rfl rfl ?_
        refine o_q (q_slstr (n := q) und9 rfl (by show some (some (Value.int .i64 (min n2 ((la[i].us.size : Nat) : Int)))) = _; rw [hq]) hq1) rfl rfl rfl ?_
        refine o_q (q_fr fo111_0 rfl) rfl rfl rfl ?_
        refine o_store rfl (by repeat first | exact Mem.upd_self _ _ _ | assumption | refine Mem.upd_ne (by assumption) ?_) (by first | exact e_raw rfl | exact e_agg rfl | exact e_sl rfl | rfl) rfl sz9 rfl (Nat.le_of_ble_eq_true rfl) rfl rfl ?_
        refine o_nil ?_
        refine s_region ?_
        refine o_q (q_fr fo111_0 rfl) rfl rfl rfl ?_
        refine o_q (q_ldm ag9 sz9 rfl (by repeat first | exact Mem.upd_self _ _ _ | assumption | refine Mem.upd_ne (by assumption) ?_) rfl (v_raw rfl)) rfl rfl rfl ?_
        refine o_q (q_lens rfl und9 rfl) rfl rfl rfl ?_
        refine o_q (q_as (v_raw rfl)) rfl rfl rfl ?_
        refine o_nil ?_
        refine s_seq ?_
        refine s_region ?_
        refine o_qs (q_mv_own rfl) rfl rfl rfl rfl ?_
        refine o_q (q_ldmw ag111 sz111 rfl (by repeat first | exact Mem.upd_self _ _ _ | assumption | refine Mem.upd_ne (by assumption) ?_) rfl rfl) rfl rfl rfl ?_
        refine o_q (q_bs slt93 (pc (v_agg rfl) pn) rfl (Els.cons rfl rfl Els.nil) (by decide)) rfl rfl rfl ?_
        refine o_qs (q_app slt93 rfl rfl rfl rfl elsU (by first | exact elsU | exact Els.cons rfl rfl Els.nil) (by simp; omega)) rfl rfl rfl rfl ?_
        refine o_qs (q_as_own rfl) rfl rfl rfl rfl ?_
        refine o_nil ?_
        refine s_region ?_
        refine o_q (q_mv (v_raw rfl)) rfl rfl rfl ?_
        refine o_q (q_mv (v_raw rfl)) rfl rfl rfl ?_
        refine o_q (q_sub rfl rfl (wrap64 (by omega) (by omega))) rfl rfl rfl ?_
        refine o_q (q_as (v_raw rfl)) rfl rfl rfl ?_
        refine o_nil ?_
        refine s_blk_normal ?_
        refine s_region ?_
        refine o_q (q_mv (v_raw rfl)) rfl rfl rfl ?_
        refine o_q (q_add rfl rfl (wrap64 (by omega) (by omega))) rfl rfl rfl ?_
        refine o_q (q_as (v_raw rfl)) rfl rfl rfl ?_
        refine o_nil ?_
        refine s_inv ?_
        exact ⟨la.length - (i + 1), by omega, _, _, lb ++ [A.app (la[i].us.extract 0 q)], _, i + 1, St.mkT (kp (kp (kp (kp rfl rfl) rfl) (congrArg (fun w => AVal.sl w true) (by rw [List.map_append]; show _ ++ [AVal.agg [str (la[i].us.extract 0 q), int la[i].un]] = _; rw [hun]; rfl))) rfl).symm, leU2 hle hB1, ⟨by omega, by omega⟩, hkp2, by simp [hlb], by omega, rfl⟩
      · have k3 := h3; try simp only [decide_eq_true_eq, decide_eq_false_iff_not, Bool.not_eq_true', Bool.not_eq_false', Bool.not_true, Bool.not_false, List.length_map, Decidable.not_not] at k3
        obtain ⟨q, hx⟩ : ∃ q, la[i] = .cut q := by
          cases e : la[i] with
          | app tx => rw [e] at k3; exact absurd (show (-1 : Int) < 0 by decide) k3
          | cut n => exact ⟨n, rfl⟩
        have hkp2 : keptA la n = (lb ++ [la[i]]) ++ keptA (la.drop (i + 1)) (n2 - 1) := by
          rw [hkp, List.drop_eq_getElem_cons hi2, List.append_assoc]
          congr 1
          rw [hx, keptA_cut hn0]; rfl
        refine s_skip ?_
        refine s_seq ?_
        refine s_region ?_
        refine o_qs (q_mv_own rfl) rfl rfl rfl rfl ?_
        refine o_q (q_ldmw ag111 sz111 rfl (by repeat first | exact Mem.upd_self _ _ _ | assumption | refine Mem.upd_ne (by assumption) ?_) rfl rfl) rfl rfl rfl ?_
        refine o_q (q_bs slt93 (pc (v_agg rfl) pn) rfl (Els.cons rfl rfl Els.nil) (by decide)) rfl rfl rfl ?_
        refine o_qs (q_app slt93 rfl rfl rfl rfl elsU (by first | exact elsU | exact Els.cons rfl rfl Els.nil) (by simp; omega)) rfl rfl rfl rfl ?_
        refine o_qs (q_as_own rfl) rfl rfl rfl rfl ?_
        refine o_nil ?_
        refine s_region ?_
        refine o_q (q_mv (v_raw rfl)) rfl rfl rfl ?_
        refine o_q (q_mv (v_raw rfl)) rfl rfl rfl ?_
        refine o_q (q_sub rfl rfl (wrap64 (by omega) (by omega))) rfl rfl rfl ?_
        refine o_q (q_as (v_raw rfl)) rfl rfl rfl ?_
        refine o_nil ?_
        refine s_blk_normal ?_
        refine s_region ?_
        refine o_q (q_mv (v_raw rfl)) rfl rfl rfl ?_
        refine o_q (q_add rfl rfl (wrap64 (by omega) (by omega))) rfl rfl rfl ?_
        refine o_q (q_as (v_raw rfl)) rfl rfl rfl ?_
        refine o_nil ?_
        refine s_inv ?_
        exact ⟨la.length - (i + 1), by omega, _, _, lb ++ [la[i]], _, i + 1, St.mkT (kp (kp (kp (kp rfl rfl) rfl) (congrArg (fun w => AVal.sl w true) (by rw [List.map_append]; rfl))) rfl).symm, leU1 hle hB1, ⟨by omega, by omega⟩, hkp2, by simp [hlb], by omega, rfl⟩
    · have k2 := h2; try simp only [decide_eq_true_eq, decide_eq_false_iff_not, Bool.not_eq_true', Bool.not_eq_false', Bool.not_true, Bool.not_false, List.length_map, Decidable.not_not] at k2
      refine s_exit ?_
      refine s_code_exit ?_
      refine s_inv_exit ?_
      refine s_blk_here ?_
      refine s_seq ?_
      refine s_region ?_
      refine o_q (q_mv (v_sl rfl)) rfl rfl rfl ?_
      refine o_q (q_as (v_sl rfl)) rfl rfl rfl ?_
      refine o_nil ?_
      refine s_ret ?_
      refine s_end ?_
      have hf : keptA la n = lb := by rw [hkp, keptA_zero (by omega), List.append_nil]
      exact ⟨congrArg (fun q : List A => AVal.sl (q.map encU) false) hf.symm, hle⟩
  · have k1 := h1; try simp only [decide_eq_true_eq, decide_eq_false_iff_not, Bool.not_eq_true', Bool.not_eq_false', Bool.not_true, Bool.not_false, List.length_map, Decidable.not_not] at k1
    refine o_no rfl rfl rfl rfl h1 ?_
    refine o_no rfl rfl rfl rfl h1 ?_
    refine o_q (q_pick_c (t := false) rfl h1 (v_raw rfl)) rfl rfl rfl ?_
    refine o_nil ?_
    refine s_else rfl rfl ?_
    refine s_exit ?_
    refine s_code_exit ?_
    refine s_inv_exit ?_
    refine s_blk_here ?_
    refine s_seq ?_
    refine s_region ?_
    refine o_q (q_mv (v_sl rfl)) rfl rfl rfl ?_
    refine o_q (q_as (v_sl rfl)) rfl rfl rfl ?_
    refine o_nil ?_
    refine s_ret ?_
    refine s_end ?_
    have hf : keptA la n = lb := by rw [hkp, List.drop_of_length_le (by omega), keptA_nil, List.append_nil]
    exact ⟨congrArg (fun q : List A => AVal.sl (q.map encU) false) hf.symm, hle⟩
theorem kept53 {F : Fl} {f : Fs} {z : Int} {M M2 : Mem} (hok : okA F.lasts F.acts F.now) (hnl : F.acts.length ≤ BIG) (hz : -2 ^ 63 ≤ z ∧ z < 2 ^ 63) (hfw : Ws encU 2 M2 (.slice f.base F.acts.length f.c) F.acts) (hfn : f.n = F.acts.length) (hle : M2.le M) : SoundCall Try.prog 53 [.raw (.slice f.base f.n f.c), int z] M fun r M' => r = .sl ((keptA F.acts z).map encU) false ∧ M' = M := by
  have hbig : BIG = 2 ^ 40 := rfl
  rw [hfn]
  exact (snd53r F.acts f.base f.c z M (by omega) hz (fun a ha => Nat.le_trans (okA_us hok a ha) (by rw [hbig]; decide)) (C04.Ws.le hfw hle (by decide))).det


def tk50 : Nat → Nat → Option Nat := fun _ _ => none
def pl50 : Nat → List PStep
  | 1 => [.q 0, .q 1, .q 2, .q 3, .q 4, .q 5, .q 6, .q 7, .q 8, .q 9, .q 10, .q 11, .q 12, .q 13, .q 14, .q 15, .s 16 [14, 13, 12, 11, 10, 9, 8, 6, 5, 4, 3, 2, 1, 0], .q 17]
  | _ => []
theorem cb50 : Try.f50.body.map (codeB Try.prog Try.f50.ntmps tk50 pl50) = some true := by kernel_rfl
theorem goes50 : goesB Try.prog 50 = true := by kernel_rfl
set_option maxHeartbeats 4000000 in
set_option maxRecDepth 20000 in
theorem snd50 (M : Mem) (x n : Nat) (s : DS) (vf : Value) (L : List Fs) (O : Nat → Prop) (h : RdIs M x s vf L O) (hp : POk n s) (hn : n < BIG) (i : Nat) (hi : i < s.files.length) : SoundCall Try.prog 50 [ptr x, int (i : Nat)] M fun r M' => r = str ⟨(s.now i).toArray⟩ ∧ M' = M := by
  have hbig : BIG = 2 ^ 40 := rfl
  obtain ⟨o1, o2, hd⟩ := h.hd
  have hgd := (okC_gd hp.oc).2
  have hdl := hgd.len
  obtain ⟨base, cp, rfl⟩ := h.hw.len
  have hln := h.ln
  have hnf := hp.nf
  obtain ⟨hil, hfl, hfw, hfn⟩ := h.at hi
  obtain ⟨hok, hnl⟩ := hp.at hi
  obtain ⟨b, k, R, hv, hR, hb⟩ := h.hw.get (by omega)
  cases hv
  rw [← hfn] at hfw
  refine SoundCall.go tk50 pl50 mixed Try.func50 cb50 rfl (Nat.le_of_ble_eq_true rfl) ?_
  refine s_seq ?_
  refine s_region ?_
  refine o_q (q_as (v_raw rfl)) rfl rfl rfl ?_
  refine o_nil ?_
  refine s_seq ?_
  refine s_draw rfl ?_
  refine d_q rfl (q_mv ((by first | exact v_raw rfl | exact v_sptr rfl))) rfl rfl rfl ?_
  refine d_q rfl (q_nil rfl) rfl rfl rfl ?_
  refine d_q rfl (q_fr fo87_1 rfl) rfl rfl rfl ?_
  refine d_q rfl (q_ldm ag83 sz83 rfl (by repeat first | exact Mem.upd_self _ _ _ | assumption | refine Mem.upd_ne (by assumption) ?_) rfl ((by first | exact v_raw rfl | exact v_sl rfl))) rfl rfl rfl ?_
  refine d_q rfl (q_mv (v_raw rfl)) rfl rfl rfl ?_
  refine d_q rfl (q_idxr und83 sz95 rfl rfl (by omega) (by omega)) rfl rfl rfl ?_
  refine d_q rfl (q_fr fo95_0 rfl) rfl rfl rfl ?_
  refine d_q rfl (q_ldm ag9 sz9 rfl hb (piece_f1 uwF.len (l := L) (j := i) (q := 0) hil (by decide) (by show 0 + ((i : Int)).toNat * 2 + 0 = _; omega) rfl) (v_raw rfl)) rfl rfl rfl ?_
  refine d_q rfl (q_mv ((by first | exact v_raw rfl | exact v_sptr rfl))) rfl rfl rfl ?_
  refine d_q rfl (q_nil rfl) rfl rfl rfl ?_
  refine d_q rfl (q_fr fo87_1 rfl) rfl rfl rfl ?_
  refine d_q rfl (q_ldm ag83 sz83 rfl (by repeat first | exact Mem.upd_self _ _ _ | assumption | refine Mem.upd_ne (by assumption) ?_) rfl ((by first | exact v_raw rfl | exact v_sl rfl))) rfl rfl rfl ?_
  refine d_q rfl (q_mv (v_raw rfl)) rfl rfl rfl ?_
  refine d_q rfl (q_idxr und83 sz95 rfl rfl (by omega) (by omega)) rfl rfl rfl ?_
  refine d_q rfl (q_fr fo95_1 rfl) rfl rfl rfl ?_
  refine d_q rfl (q_ldm ag93 sz93 rfl hb (piece_f1 uwF.len (l := L) (j := i) (q := 1) hil (by decide) (by show 0 + ((i : Int)).toNat * 2 + 1 = _; omega) rfl) (v_raw rfl)) rfl rfl rfl ?_
  refine d_s rfl ?_
  refine o_call ((by have h9 := snd52r L[i].l (s.files.getD i fl0).acts L[i].base L[i].c (s.files.getD i fl0).now M (by rw [hfl]; exact hok) (by omega) (by rw [← hfn]; exact hfw); rw [← hfn] at h9; exact h9)) goes52 (ac (v_raw rfl) (ac (v_raw rfl) ac_nil)) rfl ?_
  refine o_nil ⟨(by simp [Mem.upd, *]), ?_⟩
  refine d_q rfl (q_as (v_raw rfl)) rfl rfl rfl ?_
  refine d_nil ?_
  refine s_ret ?_
  refine s_end ?_
  exact ⟨rfl, rfl⟩

def tk62 : Nat → Nat → Option Nat := fun _ _ => none
def pl62 : Nat → List PStep := fun _ => []
theorem cb62 : Try.f62.body.map (codeB Try.prog Try.f62.ntmps tk62 pl62) = some true := by kernel_rfl
theorem goes62 : goesB Try.prog 62 = true := by kernel_rfl
theorem sum_take {l : Dir} {g : ByteArray × Nat → Nat} {i : Nat} (hi : i < l.length) : ((l.take (i + 1)).map g).sum = ((l.take i).map g).sum + g l[i] := by
  rw [List.take_succ_eq_append_getElem hi, List.map_append, List.sum_append]; simp
theorem sum_bd {l : Dir} {g : ByteArray × Nat → Nat} {m : Nat} (hl : l.length ≤ 200) (h : ∀ p ∈ l, g p ≤ m) (i : Nat) : ((l.take i).map g).sum ≤ 200 * m := by
  refine Nat.le_trans (sum_le_of g m _ fun p hp => h p (List.mem_of_mem_take hp)) ?_
  exact Nat.mul_le_mul_right _ (by rw [List.length_take]; omega)
set_option maxHeartbeats 4000000 in
set_option maxRecDepth 20000 in
theorem snd62 (M : Mem) (x n : Nat) (s : DS) (vf : Value) (L : List Fs) (O : Nat → Prop) (h : RdIs M x s vf L O) (hp : POk n s) (hn : n < BIG) : SoundCall Try.prog 62 [ptr x] M fun r M' => r = int (s.used : Nat) ∧ M' = M := by
  have hbig : BIG = 2 ^ 40 := rfl
  obtain ⟨o1, o2, hd⟩ := h.hd
  have hgd := (okC_gd hp.oc).2
  have hdl := hgd.len
  obtain ⟨base, cp, rfl⟩ := h.hw.len
  have hln := h.ln
  have hnf := hp.nf
  have hml : (s.dir.map encN).length = s.dir.length := List.length_map _
  have hbd := sum_bd (g := fun p => (s.now p.2).length) (m := BIG) hdl fun p hq => hp.now_le (hgd.nm p hq).2.2
  refine SoundCall.go tk62 pl62 mixed Try.func62 cb62 rfl (Nat.le_of_ble_eq_true rfl) ?_
  refine s_seq ?_
  refine s_region ?_
  refine o_q (q_as (v_raw rfl)) rfl rfl rfl ?_
  refine o_nil ?_
  refine s_seq ?_
  refine s_region ?_
  refine o_q (q_as (v_raw rfl)) rfl rfl rfl ?_
  refine o_nil ?_
  refine s_seq ?_
  refine s_seq ?_
  refine s_region ?_
  refine o_q (q_as (v_raw rfl)) rfl rfl rfl ?_
  refine o_nil ?_
  refine s_block ?_
  refine s_loop (fun m S => ∃ T, ∃ i : Nat, S = ⟨setT (setT (setT T 0 (ptr x)) 3 (int ((((s.dir.take i).map fun p => (s.now p.2).length).sum : Nat) : Int))) 4 (int (i : Nat)), M⟩ ∧ i ≤ s.dir.length ∧ m = s.dir.length - i) s.dir.length ?_ ?_
  · exact ⟨_, 0, St.mkT (kp (kp (kp rfl rfl) rfl) rfl).symm, by omega, rfl⟩
  rintro m S ⟨T, i, rfl, hi, rfl⟩
  refine s_seq ?_
  refine s_seq ?_
  refine s_region ?_
  refine o_q (q_mv (v_raw rfl)) rfl rfl rfl ?_
  refine o_q (q_mv ((by first | exact v_raw rfl | exact v_sptr rfl))) rfl rfl rfl ?_
  refine o_q (q_nil rfl) rfl rfl rfl ?_
  refine o_q (q_fr fo87_2 rfl) rfl rfl rfl ?_
  refine o_q (q_ldm ag84 sz84 rfl (by repeat first | exact Mem.upd_self _ _ _ | assumption | refine Mem.upd_ne (by assumption) ?_) rfl (v_sl rfl)) rfl rfl rfl ?_
  refine o_q (q_len rfl und84 rfl) rfl rfl rfl ?_
  refine o_q (q_lss rfl rfl) rfl rfl rfl ?_
  refine o_nil ?_
  refine s_cond rfl (fun h1 => ?_) (fun h1 => ?_)
  · have k1 := h1; try simp only [decide_eq_true_eq, decide_eq_false_iff_not, Bool.not_eq_true', Bool.not_eq_false', Bool.not_true, Bool.not_false, List.length_map, Decidable.not_not] at k1
    have hi2 : i < s.dir.length := by omega
    have hif := (hgd.nm _ (List.getElem_mem hi2)).2.2
    have hb1 := hbd i
    have hb2 := hbd (i + 1)
    rw [sum_take hi2] at hb2
    have hsz : ByteArray.size ⟨(s.now s.dir[i].2).toArray⟩ = (s.now s.dir[i].2).length := by simp [ByteArray.size]
    refine s_skip ?_
    refine s_seq ?_
    refine s_block ?_
    refine s_region ?_
    refine o_q (q_mv (v_raw rfl)) rfl rfl rfl ?_
    refine o_q (q_mv ((by first | exact v_raw rfl | exact v_sptr rfl))) rfl rfl rfl ?_
    refine o_q (q_mv ((by first | exact v_raw rfl | exact v_sptr rfl))) rfl rfl rfl ?_
    refine o_q (q_nil rfl) rfl rfl rfl ?_
    refine o_q (q_fr fo87_2 rfl) rfl rfl rfl ?_
    refine o_q (q_ldm ag84 sz84 rfl (by repeat first | exact Mem.upd_self _ _ _ | assumption | refine Mem.upd_ne (by assumption) ?_) rfl (v_sl rfl)) rfl rfl rfl ?_
    refine o_q (q_mv (v_raw rfl)) rfl rfl rfl ?_
    refine o_q (q_idx und84 sz97 rfl rfl (by omega) (gm i (by first | omega | simp)) rfl) rfl rfl rfl ?_
    refine o_q (q_f fo97_1 rfl) rfl rfl rfl ?_
    refine o_q (q_ld ag3 sz3 rfl (gm i (by first | omega | simp)) rfl (v_raw rfl)) rfl rfl rfl ?_
    refine o_call ((snd50 M x n s _ L O h hp hn s.dir[i].2 hif)) goes50 (ac ((by first | exact v_raw rfl | exact v_sptr rfl)) (ac (v_raw rfl) ac_nil)) rfl ?_
    refine o_q (q_lens rfl und9 rfl) rfl rfl rfl ?_
    refine o_q (q_add rfl rfl (wrap64 (by omega) (by omega))) rfl rfl rfl ?_
    refine o_q (q_as (v_raw rfl)) rfl rfl rfl ?_
    refine o_nil ?_
    refine s_blk_normal ?_
    refine s_region ?_
    refine o_q (q_mv (v_raw rfl)) rfl rfl rfl ?_
    refine o_q (q_add rfl rfl (wrap64 (by omega) (by omega))) rfl rfl rfl ?_
    refine o_q (q_as (v_raw rfl)) rfl rfl rfl ?_
    refine o_nil ?_
    refine s_inv ?_
    exact ⟨s.dir.length - (i + 1), by omega, _, i + 1, St.mkT (kp (kp (kp rfl rfl) (congrArg int (by rw [sum_take hi2, hsz]; push_cast; rfl))) rfl).symm, by omega, rfl⟩
  · have k1 := h1; try simp only [decide_eq_true_eq, decide_eq_false_iff_not, Bool.not_eq_true', Bool.not_eq_false', Bool.not_true, Bool.not_false, List.length_map, Decidable.not_not] at k1
    refine s_exit ?_
    refine s_code_exit ?_
    refine s_inv_exit ?_
    refine s_blk_here ?_
    refine s_seq ?_
    refine s_region ?_
    refine o_q (q_mv (v_raw rfl)) rfl rfl rfl ?_
    refine o_q (q_as (v_raw rfl)) rfl rfl rfl ?_
    refine o_nil ?_
    refine s_ret ?_
    refine s_end ?_
    exact ⟨by rw [List.take_of_length_le (by omega)]; rfl, rfl⟩

def tk63 : Nat → Nat → Option Nat := fun _ _ => none
def pl63 : Nat → List PStep
  | 1 => [.q 0, .q 1, .q 2, .q 3, .q 4, .s 5 [3, 2, 1, 0], .q 6, .q 7]
  | _ => []
theorem cb63 : Try.f63.body.map (codeB Try.prog Try.f63.ntmps tk63 pl63) = some true := by kernel_rfl
theorem goes63 : goesB Try.prog 63 = true := by kernel_rfl
set_option maxHeartbeats 4000000 in
set_option maxRecDepth 20000 in
theorem snd63 (M : Mem) (x n : Nat) (s : DS) (vf : Value) (L : List Fs) (O : Nat → Prop) (h : RdIs M x s vf L O) (hp : POk n s) (hn : n < BIG) : SoundCall Try.prog 63 [ptr x] M fun r M' => r = int (s.room - (s.used : Nat)) ∧ M' = M := by
  have hbig : BIG = 2 ^ 40 := rfl
  obtain ⟨o1, o2, hd⟩ := h.hd
  have hgd := (okC_gd hp.oc).2
  have hdl := hgd.len
  obtain ⟨base, cp, rfl⟩ := h.hw.len
  have hln := h.ln
  have hnf := hp.nf
  have hub : s.used ≤ 200 * BIG := by
    have := sum_bd (g := fun p => (s.now p.2).length) (m := BIG) hdl (fun p hq => hp.now_le (hgd.nm p hq).2.2) s.dir.length
    rw [List.take_length] at this; exact this
  have hrm := hp.room
  refine SoundCall.go tk63 pl63 mixed Try.func63 cb63 rfl (Nat.le_of_ble_eq_true rfl) ?_
  refine s_seq ?_
  refine s_region ?_
  refine o_q (q_as (v_raw rfl)) rfl rfl rfl ?_
  refine o_nil ?_
  refine s_seq ?_
  refine s_draw rfl ?_
  refine d_q rfl (q_mv ((by first | exact v_raw rfl | exact v_sptr rfl))) rfl rfl rfl ?_
  refine d_q rfl (q_nil rfl) rfl rfl rfl ?_
  refine d_q rfl (q_fr fo87_0 rfl) rfl rfl rfl ?_
  refine d_q rfl (q_ldm ag3 sz3 rfl (by repeat first | exact Mem.upd_self _ _ _ | assumption | refine Mem.upd_ne (by assumption) ?_) rfl (v_raw rfl)) rfl rfl rfl ?_
  refine d_q rfl (q_mv ((by first | exact v_raw rfl | exact v_sptr rfl))) rfl rfl rfl ?_
  refine d_s rfl ?_
  refine o_call ((snd62 M x n s _ L O h hp hn)) goes62 (ac ((by first | exact v_raw rfl | exact v_sptr rfl)) ac_nil) rfl ?_
  refine o_nil ⟨(by simp [Mem.upd, *]), ?_⟩
  refine d_q rfl (q_sub rfl rfl (wrap64 (by omega) (by omega))) rfl rfl rfl ?_
  refine d_q rfl (q_as (v_raw rfl)) rfl rfl rfl ?_
  refine d_nil ?_
  refine s_ret ?_
  refine s_end ?_
  exact ⟨rfl, rfl⟩

def tk76 : Nat → Nat → Option Nat := fun _ _ => none
def pl76 : Nat → List PStep := fun _ => []
theorem cb76 : Try.f76.body.map (codeB Try.prog Try.f76.ntmps tk76 pl76) = some true := by kernel_rfl
theorem goes76 : goesB Try.prog 76 = true := by kernel_rfl
theorem upd_same {M : Mem} {b : Nat} {o : AObj} (h : M b = some o) : M.upd b o = M := by
  funext c
  by_cases e : c = b
  · rw [e, Mem.upd_self, h]
  · exact upd_other e
set_option maxHeartbeats 4000000 in
set_option maxRecDepth 20000 in
theorem snd76 (M : Mem) (x : Nat) (s : DS) (vf : Value) (o1 o2 : Bool) (hd : M x = some (.cells (rdC s vf o1 o2))) (hf : -1 ≤ s.fuse ∧ s.fuse < 2 ^ 63) : SoundCall Try.prog 76 [ptr x] M fun r M' => r = bool (decide (¬ s.fuse = 0)) ∧ M' = M.upd x (.cells (rdT s vf o1 o2)) := by
  refine SoundCall.go tk76 pl76 mixed Try.func76 cb76 rfl (Nat.le_of_ble_eq_true rfl) ?_
  refine s_seq ?_
  refine s_region ?_
  refine o_q (q_as (v_raw rfl)) rfl rfl rfl ?_
  refine o_nil ?_
  refine s_seq ?_
  refine s_seq ?_
  refine s_region ?_
  refine o_q (q_mv ((by first | exact v_raw rfl | exact v_sptr rfl))) rfl rfl rfl ?_
  refine o_q (q_nil rfl) rfl rfl rfl ?_
  refine o_q (q_fr fo87_5 rfl) rfl rfl rfl ?_
  refine o_q (q_ldm ag3 sz3 rfl (by repeat first | exact Mem.upd_self _ _ _ | assumption | refine Mem.upd_ne (by assumption) ?_) rfl (v_raw rfl)) rfl rfl rfl ?_
  refine o_q (q_eql rfl rfl) rfl rfl rfl ?_
  refine o_nil ?_
  refine s_cond rfl (fun h1 => ?_) (fun h1 => ?_)
  · have k1 := h1; try simp only [decide_eq_true_eq, decide_eq_false_iff_not, Bool.not_eq_true', Bool.not_eq_false', Bool.not_true, Bool.not_false, List.length_map, Decidable.not_not] at k1
    refine s_seq ?_
    refine s_region ?_
    refine o_q (q_mv ((by first | exact v_raw rfl | exact v_sptr rfl))) rfl rfl rfl ?_
    refine o_q (q_nil rfl) rfl rfl rfl ?_
    refine o_q (q_fr fo87_6 rfl) rfl rfl rfl ?_
    refine o_store rfl (by repeat first | exact Mem.upd_self _ _ _ | assumption | refine Mem.upd_ne (by assumption) ?_) (by first | exact e_raw rfl | exact e_agg rfl | exact e_sl rfl | rfl) rfl sz4 rfl (Nat.le_of_ble_eq_true rfl) rfl rfl ?_
    refine o_nil ?_
    refine s_seq ?_
    refine s_region ?_
    refine o_q (q_as (v_raw rfl)) rfl rfl rfl ?_
    refine o_nil ?_
    refine s_ret ?_
    refine s_code_ret ?_
    refine s_end ?_
    exact ⟨congrArg bool (by simp [k1]), by unfold rdT; rw [if_pos k1, if_pos k1, ← k1]; rfl⟩
  · have k1 := h1; try simp only [decide_eq_true_eq, decide_eq_false_iff_not, Bool.not_eq_true', Bool.not_eq_false', Bool.not_true, Bool.not_false, List.length_map, Decidable.not_not] at k1
    refine s_skip ?_
    refine s_seq ?_
    refine s_seq ?_
    refine s_region ?_
    refine o_q (q_mv ((by first | exact v_raw rfl | exact v_sptr rfl))) rfl rfl rfl ?_
    refine o_q (q_nil rfl) rfl rfl rfl ?_
    refine o_q (q_fr fo87_5 rfl) rfl rfl rfl ?_
    refine o_q (q_ldm ag3 sz3 rfl (by repeat first | exact Mem.upd_self _ _ _ | assumption | refine Mem.upd_ne (by assumption) ?_) rfl (v_raw rfl)) rfl rfl rfl ?_
    refine o_q (q_gtr rfl rfl) rfl rfl rfl ?_
    refine o_nil ?_
    refine s_cond rfl (fun h2 => ?_) (fun h2 => ?_)
    · have k2 := h2; try simp only [decide_eq_true_eq, decide_eq_false_iff_not, Bool.not_eq_true', Bool.not_eq_false', Bool.not_true, Bool.not_false, List.length_map, Decidable.not_not] at k2
      refine s_region ?_
      refine o_q (q_mv ((by first | exact v_raw rfl | exact v_sptr rfl))) rfl rfl rfl ?_
      refine o_q (q_nil rfl) rfl rfl rfl ?_
      refine o_q (q_fr fo87_5 rfl) rfl rfl rfl ?_
      refine o_q (q_ldm ag3 sz3 rfl (by repeat first | exact Mem.upd_self _ _ _ | assumption | refine Mem.upd_ne (by assumption) ?_) rfl (v_raw rfl)) rfl rfl rfl ?_
      refine o_q (q_sub rfl rfl (wrap64 (by omega) (by omega))) rfl rfl rfl ?_
      refine o_q (q_nil rfl) rfl rfl rfl ?_
      refine o_q (q_fr fo87_5 rfl) rfl rfl rfl ?_
      refine o_store rfl (by repeat first | exact Mem.upd_self _ _ _ | assumption | refine Mem.upd_ne (by assumption) ?_) (by first | exact e_raw rfl | exact e_agg rfl | exact e_sl rfl | rfl) rfl sz3 rfl (Nat.le_of_ble_eq_true rfl) rfl rfl ?_
      refine o_nil ?_
      refine s_seq ?_
      refine s_region ?_
      refine o_q (q_as (v_raw rfl)) rfl rfl rfl ?_
      refine o_nil ?_
      refine s_ret ?_
      refine s_end ?_
      exact ⟨congrArg bool (by simp [k1]), by unfold rdT; rw [if_neg k1, if_neg k1]; unfold tick; rw [if_pos k2]; rfl⟩
    · have k2 := h2; try simp only [decide_eq_true_eq, decide_eq_false_iff_not, Bool.not_eq_true', Bool.not_eq_false', Bool.not_true, Bool.not_false, List.length_map, Decidable.not_not] at k2
      refine s_skip ?_
      refine s_seq ?_
      refine s_region ?_
      refine o_q (q_as (v_raw rfl)) rfl rfl rfl ?_
      refine o_nil ?_
      refine s_ret ?_
      refine s_end ?_
      exact ⟨congrArg bool (by simp [k1]), by unfold rdT; rw [if_neg k1, if_neg k1]; unfold tick; rw [if_neg k2]; exact (upd_same hd).symm⟩

def tk22 : Nat → Nat → Option Nat := fun _ _ => none
def pl22 : Nat → List PStep := fun _ => []
theorem cb22 : Try.f22.body.map (codeB Try.prog Try.f22.ntmps tk22 pl22) = some true := by kernel_rfl
theorem goes22 : goesB Try.prog 22 = true := by kernel_rfl
set_option maxHeartbeats 4000000 in
set_option maxRecDepth 20000 in
theorem snd22 (M : Mem) (x n : Nat) (s : DS) (vf : Value) (L : List Fs) (O : Nat → Prop) (h : RdIs M x s vf L O) (hp : POk n s) (hn : n < BIG) (k : Int) (hk : -2 ^ 63 ≤ k ∧ k < 2 ^ 63) : SoundCall Try.prog 22 [ptr x, int k] M fun r M' => RAft M M' x (s.setfuse k) O := by
  have hbig : BIG = 2 ^ 40 := rfl
  obtain ⟨o1, o2, hd⟩ := h.hd
  have hgd := (okC_gd hp.oc).2
  have hdl := hgd.len
  obtain ⟨base, cp, rfl⟩ := h.hw.len
  have hln := h.ln
  have hnf := hp.nf
  refine SoundCall.go tk22 pl22 mixed Try.func22 cb22 rfl (Nat.le_of_ble_eq_true rfl) ?_
  refine s_region ?_
  refine o_q (q_mv ((by first | exact v_raw rfl | exact v_sptr rfl))) rfl rfl rfl ?_
  refine o_q (q_mv (v_raw rfl)) rfl rfl rfl ?_
  refine o_q (q_max rfl rfl) rfl rfl rfl ?_
  refine o_q (q_nil rfl) rfl rfl rfl ?_
  refine o_q (q_fr fo87_5 rfl) rfl rfl rfl ?_
  refine o_store rfl (by repeat first | exact Mem.upd_self _ _ _ | assumption | refine Mem.upd_ne (by assumption) ?_) (by first | exact e_raw rfl | exact e_agg rfl | exact e_sl rfl | rfl) rfl sz3 rfl (Nat.le_of_ble_eq_true rfl) rfl rfl ?_
  refine o_nil ?_
  refine s_end ?_
  exact RAft.of (h.cells (s' := s.setfuse k) rfl (Mem.upd_self _ _ _) fun c hc _ => upd_other hc) fun c hc _ => upd_other hc

def tk21 : Nat → Nat → Option Nat := fun _ _ => none
def pl21 : Nat → List PStep := fun _ => []
theorem cb21 : Try.f21.body.map (codeB Try.prog Try.f21.ntmps tk21 pl21) = some true := by kernel_rfl
theorem goes21 : goesB Try.prog 21 = true := by kernel_rfl
theorem findI_lt {l : Dir} {k : ByteArray} (h : findI l k < 0) : gets l k = none := by
  cases e : gets l k with
  | none => rfl
  | some i => rw [findI_some e] at h; omega
theorem findI_ge {l : Dir} {k : ByteArray} (h : ¬ findI l k < 0) : ∃ i, gets l k = some i := by
  cases e : gets l k with
  | none => rw [findI_none e] at h; exact absurd (by decide) h
  | some i => exact ⟨i, rfl⟩
theorem dir_lt {n : Nat} {s : DS} {nm : ByteArray} {i : Nat} (hp : POk n s) (hg : gets s.dir nm = some i) : i < s.files.length :=
  ((okC_gd hp.oc).2.nm _ ((gets_iff (okC_gd hp.oc).2.srt.nd).1 hg)).2.2
set_option maxHeartbeats 4000000 in
set_option maxRecDepth 20000 in
theorem snd21 (M : Mem) (x n : Nat) (s : DS) (vf : Value) (L : List Fs) (O : Nat → Prop) (h : RdIs M x s vf L O) (hp : POk n s) (hn : n < BIG) (nm : ByteArray) : SoundCall Try.prog 21 [ptr x, str nm] M fun r M' => r = .tup [str (s.read nm).1, int (s.read nm).2] ∧ M' = M := by
  have hbig : BIG = 2 ^ 40 := rfl
  obtain ⟨o1, o2, hd⟩ := h.hd
  have hgd := (okC_gd hp.oc).2
  have hdl := hgd.len
  obtain ⟨base, cp, rfl⟩ := h.hw.len
  have hln := h.ln
  have hnf := hp.nf
  refine SoundCall.go tk21 pl21 mixed Try.func21 cb21 rfl (Nat.le_of_ble_eq_true rfl) ?_
  refine s_seq ?_
  refine s_region ?_
  refine o_q (q_as (v_raw rfl)) rfl rfl rfl ?_
  refine o_q (q_as (v_raw rfl)) rfl rfl rfl ?_
  refine o_nil ?_
  refine s_seq ?_
  refine s_region ?_
  refine o_q (q_mv ((by first | exact v_raw rfl | exact v_sptr rfl))) rfl rfl rfl ?_
  refine o_q (q_nil rfl) rfl rfl rfl ?_
  refine o_q (q_fr fo87_2 rfl) rfl rfl rfl ?_
  refine o_q (q_ldm ag84 sz84 rfl (by repeat first | exact Mem.upd_self _ _ _ | assumption | refine Mem.upd_ne (by assumption) ?_) rfl (v_sl rfl)) rfl rfl rfl ?_
  refine o_q (q_mv (v_raw rfl)) rfl rfl rfl ?_
  refine o_call ((snd49 s.dir false nm _ (by omega))) goes49 (ac (v_sl rfl) (ac (v_raw rfl) ac_nil)) rfl ?_
  refine o_q (q_as (v_raw rfl)) rfl rfl rfl ?_
  refine o_nil ?_
  refine s_seq ?_
  refine s_block ?_
  refine s_seq ?_
  refine s_region ?_
  refine o_q (q_mv ((by first | exact v_raw rfl | exact v_sptr rfl))) rfl rfl rfl ?_
  refine o_q (q_nil rfl) rfl rfl rfl ?_
  refine o_q (q_fr fo87_6 rfl) rfl rfl rfl ?_
  refine o_q (q_ldm ag4 sz4 rfl (by repeat first | exact Mem.upd_self _ _ _ | assumption | refine Mem.upd_ne (by assumption) ?_) rfl (v_raw rfl)) rfl rfl rfl ?_
  refine o_q (q_as (v_raw rfl)) rfl rfl rfl ?_
  refine o_nil ?_
  refine s_cond rfl (fun h1 => ?_) (fun h1 => ?_)
  · have k1 := h1; try simp only [decide_eq_true_eq, decide_eq_false_iff_not, Bool.not_eq_true', Bool.not_eq_false', Bool.not_true, Bool.not_false, List.length_map, Decidable.not_not] at k1
    refine s_seq ?_
    refine s_region ?_
    refine o_q (q_as (v_raw rfl)) rfl rfl rfl ?_
    refine o_q (q_as (v_raw rfl)) rfl rfl rfl ?_
    refine o_nil ?_
    refine s_ret ?_
    refine s_blk_ret ?_
    refine s_code_ret ?_
    refine s_end ?_
    exact ⟨by unfold DS.read; rw [if_pos h1]; rfl, rfl⟩
  · have k1 := h1; try simp only [decide_eq_true_eq, decide_eq_false_iff_not, Bool.not_eq_true', Bool.not_eq_false', Bool.not_true, Bool.not_false, List.length_map, Decidable.not_not] at k1
    refine s_seq ?_
    refine s_region ?_
    refine o_q (q_mv (v_raw rfl)) rfl rfl rfl ?_
    refine o_q (q_lss rfl rfl) rfl rfl rfl ?_
    refine o_q (q_as (v_raw rfl)) rfl rfl rfl ?_
    refine o_nil ?_
    refine s_cond rfl (fun h2 => ?_) (fun h2 => ?_)
    · have k2 := h2; try simp only [decide_eq_true_eq, decide_eq_false_iff_not, Bool.not_eq_true', Bool.not_eq_false', Bool.not_true, Bool.not_false, List.length_map, Decidable.not_not] at k2
      refine s_seq ?_
      refine s_region ?_
      refine o_q (q_as (v_raw rfl)) rfl rfl rfl ?_
      refine o_q (q_as (v_raw rfl)) rfl rfl rfl ?_
      refine o_nil ?_
      refine s_ret ?_
      refine s_blk_ret ?_
      refine s_code_ret ?_
      refine s_end ?_
      exact ⟨by unfold DS.read; rw [if_neg (by rw [h1]; exact Bool.false_ne_true), findI_lt k2]; rfl, rfl⟩
    · have k2 := h2; try simp only [decide_eq_true_eq, decide_eq_false_iff_not, Bool.not_eq_true', Bool.not_eq_false', Bool.not_true, Bool.not_false, List.length_map, Decidable.not_not] at k2
      obtain ⟨i, hg⟩ := findI_ge k2
      have hif := dir_lt hp hg
      have h50 := snd50 M x n s _ L O h hp hn i hif
      rw [← findI_some hg] at h50
      refine s_skip ?_
      refine s_blk_normal ?_
      refine s_seq ?_
      refine s_region ?_
      refine o_q (q_mv ((by first | exact v_raw rfl | exact v_sptr rfl))) rfl rfl rfl ?_
      refine o_q (q_mv (v_raw rfl)) rfl rfl rfl ?_
      refine o_call (h50) goes50 (ac ((by first | exact v_raw rfl | exact v_sptr rfl)) (ac (v_raw rfl) ac_nil)) rfl ?_
      refine o_q (q_as (v_raw rfl)) rfl rfl rfl ?_
      refine o_q (q_as (v_raw rfl)) rfl rfl rfl ?_
      refine o_nil ?_
      refine s_ret ?_
      refine s_end ?_
      exact ⟨by unfold DS.read; rw [if_neg (by rw [h1]; exact Bool.false_ne_true), hg]; rfl, rfl⟩

def tk61 : Nat → Nat → Option Nat
  | 3, 0 => some 0
  | 7, 0 => some 0
  | 7, 11 => some 0
  | _, _ => none
def pl61 : Nat → List PStep := fun _ => []
theorem cb61 : Try.f61.body.map (codeB Try.prog Try.f61.ntmps tk61 pl61) = some true := by kernel_rfl
theorem goes61 : goesB Try.prog 61 = true := by kernel_rfl
set_option maxHeartbeats 4000000 in
set_option maxRecDepth 20000 in
theorem snd61 (M : Mem) (x n : Nat) (s : DS) (vf : Value) (L : List Fs) (O : Nat → Prop) (h : RdIs M x s vf L O) (hp : POk n s) (hn : n < BIG) : SoundCall Try.prog 61 [ptr x] M fun r M' => r = .tup [.sl (s.list.1.map str) false, int s.list.2] ∧ M' = M := by
  have hbig : BIG = 2 ^ 40 := rfl
  obtain ⟨o1, o2, hd⟩ := h.hd
  have hgd := (okC_gd hp.oc).2
  have hdl := hgd.len
  obtain ⟨base, cp, rfl⟩ := h.hw.len
  have hln := h.ln
  have hnf := hp.nf
  have hml : (s.dir.map encN).length = s.dir.length := List.length_map _
  refine SoundCall.go tk61 pl61 mixed Try.func61 cb61 rfl (Nat.le_of_ble_eq_true rfl) ?_
  refine s_seq ?_
  refine s_region ?_
  refine o_q (q_as (v_sl rfl)) rfl rfl rfl ?_
  refine o_q (q_as (v_raw rfl)) rfl rfl rfl ?_
  refine o_nil ?_
  refine s_seq ?_
  refine s_seq ?_
  refine s_region ?_
  refine o_q (q_mv ((by first | exact v_raw rfl | exact v_sptr rfl))) rfl rfl rfl ?_
  refine o_q (q_nil rfl) rfl rfl rfl ?_
  refine o_q (q_fr fo87_6 rfl) rfl rfl rfl ?_
  refine o_q (q_ldm ag4 sz4 rfl (by repeat first | exact Mem.upd_self _ _ _ | assumption | refine Mem.upd_ne (by assumption) ?_) rfl (v_raw rfl)) rfl rfl rfl ?_
  refine o_nil ?_
  refine s_cond rfl (fun h1 => ?_) (fun h1 => ?_)
  · have k1 := h1; try simp only [decide_eq_true_eq, decide_eq_false_iff_not, Bool.not_eq_true', Bool.not_eq_false', Bool.not_true, Bool.not_false, List.length_map, Decidable.not_not] at k1
    refine s_seq ?_
    refine s_region ?_
    refine o_q (q_as (v_sl rfl)) rfl rfl rfl ?_
    refine o_q (q_as (v_raw rfl)) rfl rfl rfl ?_
    refine o_nil ?_
    refine s_ret ?_
    refine s_code_ret ?_
    refine s_end ?_
    exact ⟨by unfold DS.list; rw [if_pos h1]; rfl, rfl⟩
  · have k1 := h1; try simp only [decide_eq_true_eq, decide_eq_false_iff_not, Bool.not_eq_true', Bool.not_eq_false', Bool.not_true, Bool.not_false, List.length_map, Decidable.not_not] at k1
    refine s_skip ?_
    refine s_seq ?_
    refine s_region ?_
    refine o_q (q_as_const rfl) rfl rfl rfl ?_
    refine o_nil ?_
    refine s_seq ?_
    refine s_seq ?_
    refine s_region ?_
    refine o_q (q_as (v_raw rfl)) rfl rfl rfl ?_
    refine o_nil ?_
    refine s_block ?_
    refine s_loop (fun m S => ∃ T, ∃ i : Nat, S = ⟨setT (setT (setT T 0 (ptr x)) 4 (.sl (((s.dir.take i).map (·.1)).map str) true)) 5 (int (i : Nat)), M⟩ ∧ i ≤ s.dir.length ∧ m = s.dir.length - i) s.dir.length ?_ ?_
    · exact ⟨_, 0, St.mkT (kp (kp (kp rfl rfl) rfl) rfl).symm, by omega, rfl⟩
    rintro m S ⟨T, i, rfl, hi, rfl⟩
    refine s_seq ?_
    refine s_seq ?_
    refine s_region ?_
    refine o_q (q_mv (v_raw rfl)) rfl rfl rfl ?_
    refine o_q (q_mv ((by first | exact v_raw rfl | exact v_sptr rfl))) rfl rfl rfl ?_
    refine o_q (q_nil rfl) rfl rfl rfl ?_
    refine o_q (q_fr fo87_2 rfl) rfl rfl rfl ?_
    refine o_q (q_ldm ag84 sz84 rfl (by repeat first | exact Mem.upd_self _ _ _ | assumption | refine Mem.upd_ne (by assumption) ?_) rfl (v_sl rfl)) rfl rfl rfl ?_
    refine o_q (q_len rfl und84 rfl) rfl rfl rfl ?_
    refine o_q (q_lss rfl rfl) rfl rfl rfl ?_
    refine o_nil ?_
    refine s_cond rfl (fun h2 => ?_) (fun h2 => ?_)
    · have k2 := h2; try simp only [decide_eq_true_eq, decide_eq_false_iff_not, Bool.not_eq_true', Bool.not_eq_false', Bool.not_true, Bool.not_false, List.length_map, Decidable.not_not] at k2
      have hi2 : i < s.dir.length := by omega
      have hlt : ((s.dir.take i).map (·.1)).length = i := by rw [List.length_map, List.length_take]; omega
      refine s_skip ?_
      refine s_seq ?_
      refine s_block ?_
      refine s_region ?_
      refine o_qs (q_mv_own rfl) rfl rfl rfl rfl ?_
      refine o_q (q_mv ((by first | exact v_raw rfl | exact v_sptr rfl))) rfl rfl rfl ?_
      refine o_q (q_nil rfl) rfl rfl rfl ?_
      refine o_q (q_fr fo87_2 rfl) rfl rfl rfl ?_
      refine o_q (q_ldm ag84 sz84 rfl (by repeat first | exact Mem.upd_self _ _ _ | assumption | refine Mem.upd_ne (by assumption) ?_) rfl (v_sl rfl)) rfl rfl rfl ?_
      refine o_q (q_mv (v_raw rfl)) rfl rfl rfl ?_
      refine o_q (q_idx und84 sz97 rfl rfl (by omega) (gm i (by first | omega | simp)) rfl) rfl rfl rfl ?_
      refine o_q (q_f fo97_0 rfl) rfl rfl rfl ?_
      refine o_q (q_ld ag9 sz9 rfl (gm i (by first | omega | simp)) rfl (v_raw rfl)) rfl rfl rfl ?_
      refine o_q (q_bs slt49 (pc (v_raw rfl) pn) rfl (Els.cons rfl rfl Els.nil) (by decide)) rfl rfl rfl ?_
      refine o_qs (q_app slt49 rfl rfl rfl rfl elsStr (by first | exact elsStr | exact Els.cons rfl rfl Els.nil) (by simp; omega)) rfl rfl rfl rfl ?_
      refine o_qs (q_as_own rfl) rfl rfl rfl rfl ?_
      refine o_nil ?_
      refine s_blk_normal ?_
      refine s_region ?_
      refine o_q (q_mv (v_raw rfl)) rfl rfl rfl ?_
      refine o_q (q_add rfl rfl (wrap64 (by omega) (by omega))) rfl rfl rfl ?_
      refine o_q (q_as (v_raw rfl)) rfl rfl rfl ?_
      refine o_nil ?_
      refine s_inv ?_
      exact ⟨s.dir.length - (i + 1), by omega, _, i + 1, St.mkT (kp (kp (kp rfl rfl) (congrArg (fun q => AVal.sl q true) (by rw [List.take_succ_eq_append_getElem hi2, List.map_append, List.map_append]; rfl))) rfl).symm, by omega, rfl⟩
    · have k2 := h2; try simp only [decide_eq_true_eq, decide_eq_false_iff_not, Bool.not_eq_true', Bool.not_eq_false', Bool.not_true, Bool.not_false, List.length_map, Decidable.not_not] at k2
      refine s_exit ?_
      refine s_code_exit ?_
      refine s_inv_exit ?_
      refine s_blk_here ?_
      refine s_seq ?_
      refine s_region ?_
      refine o_q (q_mv (v_sl rfl)) rfl rfl rfl ?_
      refine o_q (q_as (v_sl rfl)) rfl rfl rfl ?_
      refine o_q (q_as (v_raw rfl)) rfl rfl rfl ?_
      refine o_nil ?_
      refine s_ret ?_
      refine s_end ?_
      exact ⟨by unfold DS.list; rw [if_neg (by rw [h1]; exact Bool.false_ne_true), List.take_of_length_le (by omega)]; rfl, rfl⟩

def tk54 : Nat → Nat → Option Nat
  | 14, 4 => some 0
  | _, _ => none
def pl54 : Nat → List PStep
  | 13 => [.q 0, .q 1, .q 2, .q 3, .q 4, .q 5, .s 6 [3, 2, 1, 0], .q 7, .q 8, .s 9 [7]]
  | 14 => [.q 0, .q 1, .q 2, .q 3, .q 5, .q 6, .s 4 [6, 5, 2, 1, 0], .q 7, .q 8, .q 9, .s 10 [8]]
  | _ => []
theorem cb54 : Try.f54.body.map (codeB Try.prog Try.f54.ntmps tk54 pl54) = some true := by kernel_rfl
theorem goes54 : goesB Try.prog 54 = true := by kernel_rfl
set_option maxHeartbeats 4000000 in
set_option maxRecDepth 20000 in
theorem snd54 (M : Mem) (x n : Nat) (s : DS) (vf : Value) (L : List Fs) (O : Nat → Prop) (h : RdIs M x s vf L O) (hp : POk n s) (hn : n < BIG) (nm : ByteArray) : SoundCall Try.prog 54 [ptr x, str nm] M fun r M' => r = int (s.create nm).1 ∧ RAft M M' x (s.create nm).2 O := by
  have hbig : BIG = 2 ^ 40 := rfl
  obtain ⟨o1, o2, hd⟩ := h.hd
  have hgd := (okC_gd hp.oc).2
  have hdl := hgd.len
  obtain ⟨base, cp, rfl⟩ := h.hw.len
  have hln := h.ln
  have hnf := hp.nf
  have hns := hp.ns
  have hml : (s.dir.map encN).length = s.dir.length := List.length_map _
  have hms : (s.since.map encS).length = s.since.length := List.length_map _
  refine SoundCall.go tk54 pl54 mixed Try.func54 cb54 rfl (Nat.le_of_ble_eq_true rfl) ?_
  refine s_seq ?_
  refine s_region ?_
  refine o_q (q_as (v_raw rfl)) rfl rfl rfl ?_
  refine o_nil ?_
  refine s_seq ?_
  refine s_block ?_
  refine s_seq ?_
  refine s_region ?_
  refine o_q (q_mv ((by first | exact v_raw rfl | exact v_sptr rfl))) rfl rfl rfl ?_
  refine o_q (q_nil rfl) rfl rfl rfl ?_
  refine o_q (q_fr fo87_6 rfl) rfl rfl rfl ?_
  refine o_q (q_ldm ag4 sz4 rfl (by repeat first | exact Mem.upd_self _ _ _ | assumption | refine Mem.upd_ne (by assumption) ?_) rfl (v_raw rfl)) rfl rfl rfl ?_
  refine o_q (q_as (v_raw rfl)) rfl rfl rfl ?_
  refine o_nil ?_
  refine s_cond rfl (fun h1 => ?_) (fun h1 => ?_)
  · have k1 := h1; try simp only [decide_eq_true_eq, decide_eq_false_iff_not, Bool.not_eq_true', Bool.not_eq_false', Bool.not_true, Bool.not_false, List.length_map, Decidable.not_not] at k1
    refine s_seq ?_
    refine s_region ?_
    refine o_q (q_as (v_raw rfl)) rfl rfl rfl ?_
    refine o_nil ?_
    refine s_ret ?_
    refine s_blk_ret ?_
    refine s_code_ret ?_
    refine s_end ?_
    have e : s.create nm = (9, s) := by unfold DS.create; rw [if_pos k1]
    exact ⟨by rw [e]; rfl, by rw [e]; exact RAft.of (h.le (Mem.le_refl M)) fun _ _ _ => rfl⟩
  · have k1 := h1; try simp only [decide_eq_true_eq, decide_eq_false_iff_not, Bool.not_eq_true', Bool.not_eq_false', Bool.not_true, Bool.not_false, List.length_map, Decidable.not_not] at k1
    refine s_seq ?_
    refine s_region ?_
    refine o_q (q_mv (v_raw rfl)) rfl rfl rfl ?_
    refine o_call ((snd75 nm _)) goes75 (ac (v_raw rfl) ac_nil) rfl ?_
    refine o_q (q_not rfl) rfl rfl rfl ?_
    refine o_q (q_as (v_raw rfl)) rfl rfl rfl ?_
    refine o_nil ?_
    refine s_cond rfl (fun h2 => ?_) (fun h2 => ?_)
    · have k2 := h2; try simp only [decide_eq_true_eq, decide_eq_false_iff_not, Bool.not_eq_true', Bool.not_eq_false', Bool.not_true, Bool.not_false, List.length_map, Decidable.not_not] at k2
      refine s_seq ?_
      refine s_region ?_
      refine o_q (q_as (v_raw rfl)) rfl rfl rfl ?_
      refine o_nil ?_
      refine s_ret ?_
      refine s_blk_ret ?_
      refine s_code_ret ?_
      refine s_end ?_
      have e : s.create nm = (5, s) := by unfold DS.create; rw [if_neg (by rw [h1]; exact Bool.false_ne_true), if_pos k2]
      exact ⟨by rw [e]; rfl, by rw [e]; exact RAft.of (h.le (Mem.le_refl M)) fun _ _ _ => rfl⟩
    · have k2 := h2; try simp only [decide_eq_true_eq, decide_eq_false_iff_not, Bool.not_eq_true', Bool.not_eq_false', Bool.not_true, Bool.not_false, List.length_map, Decidable.not_not] at k2
      refine s_seq ?_
      refine s_region ?_
      refine o_q (q_mv ((by first | exact v_raw rfl | exact v_sptr rfl))) rfl rfl rfl ?_
      refine o_q (q_nil rfl) rfl rfl rfl ?_
      refine o_q (q_fr fo87_2 rfl) rfl rfl rfl ?_
      refine o_q (q_ldm ag84 sz84 rfl (by repeat first | exact Mem.upd_self _ _ _ | assumption | refine Mem.upd_ne (by assumption) ?_) rfl (v_sl rfl)) rfl rfl rfl ?_
      refine o_q (q_mv (v_raw rfl)) rfl rfl rfl ?_
      refine o_call ((snd49 s.dir false nm _ (by omega))) goes49 (ac (v_sl rfl) (ac (v_raw rfl) ac_nil)) rfl ?_
      refine o_q (q_geq rfl rfl) rfl rfl rfl ?_
      refine o_q (q_as (v_raw rfl)) rfl rfl rfl ?_
      refine o_nil ?_
      refine s_cond rfl (fun h3 => ?_) (fun h3 => ?_)
      · have k3 := h3; try simp only [decide_eq_true_eq, decide_eq_false_iff_not, Bool.not_eq_true', Bool.not_eq_false', Bool.not_true, Bool.not_false, List.length_map, Decidable.not_not] at k3
        refine s_seq ?_
        refine s_region ?_
        refine o_q (q_as (v_raw rfl)) rfl rfl rfl ?_
        refine o_nil ?_
        refine s_ret ?_
        refine s_blk_ret ?_
        refine s_code_ret ?_
        refine s_end ?_
        have e : s.create nm = (6, s) := by unfold DS.create; rw [if_neg (by rw [h1]; exact Bool.false_ne_true), if_neg (by rw [k2]; decide), if_pos (by obtain ⟨i, hg⟩ := findI_ge (show ¬ findI s.dir nm < 0 by omega); rw [hg]; rfl)]
        exact ⟨by rw [e]; rfl, by rw [e]; exact RAft.of (h.le (Mem.le_refl M)) fun _ _ _ => rfl⟩
      · have k3 := h3; try simp only [decide_eq_true_eq, decide_eq_false_iff_not, Bool.not_eq_true', Bool.not_eq_false', Bool.not_true, Bool.not_false, List.length_map, Decidable.not_not] at k3
        have hg0 : (gets s.dir nm).isSome = false := by
          cases e : gets s.dir nm with
          | none => rfl
          | some i => rw [findI_some e] at k3; exact absurd (Int.natCast_nonneg i) k3
        refine s_seq ?_
        refine s_region ?_
        refine o_q (q_mv ((by first | exact v_raw rfl | exact v_sptr rfl))) rfl rfl rfl ?_
        refine o_q (q_nil rfl) rfl rfl rfl ?_
        refine o_q (q_fr fo87_2 rfl) rfl rfl rfl ?_
        refine o_q (q_ldm ag84 sz84 rfl (by repeat first | exact Mem.upd_self _ _ _ | assumption | refine Mem.upd_ne (by assumption) ?_) rfl (v_sl rfl)) rfl rfl rfl ?_
        refine o_q (q_len rfl und84 rfl) rfl rfl rfl ?_
        refine o_q (q_geq rfl rfl) rfl rfl rfl ?_
        refine o_q (q_as (v_raw rfl)) rfl rfl rfl ?_
        refine o_nil ?_
        refine s_cond rfl (fun h4 => ?_) (fun h4 => ?_)
        · have k4 := h4; try simp only [decide_eq_true_eq, decide_eq_false_iff_not, Bool.not_eq_true', Bool.not_eq_false', Bool.not_true, Bool.not_false, List.length_map, Decidable.not_not] at k4
          refine s_seq ?_
          refine s_region ?_
          refine o_q (q_as (v_raw rfl)) rfl rfl rfl ?_
          refine o_nil ?_
          refine s_ret ?_
          refine s_blk_ret ?_
          refine s_code_ret ?_
          refine s_end ?_
          have e : s.create nm = (8, s) := by unfold DS.create; rw [if_neg (by rw [h1]; exact Bool.false_ne_true), if_neg (by rw [k2]; decide), if_neg (by rw [hg0]; decide), if_pos (by omega)]
          exact ⟨by rw [e]; rfl, by rw [e]; exact RAft.of (h.le (Mem.le_refl M)) fun _ _ _ => rfl⟩
        · have k4 := h4; try simp only [decide_eq_true_eq, decide_eq_false_iff_not, Bool.not_eq_true', Bool.not_eq_false', Bool.not_true, Bool.not_false, List.length_map, Decidable.not_not] at k4
          have hlt2 : ¬ 200 ≤ s.dir.length := by omega
          refine s_seq ?_
          refine s_region ?_
          refine o_q (q_mv ((by first | exact v_raw rfl | exact v_sptr rfl))) rfl rfl rfl ?_
          refine o_callx ((snd76 M x s _ o1 o2 hd hp.fuse)) goes76 (ac ((by first | exact v_raw rfl | exact v_sptr rfl)) ac_nil) rfl ?_
          rintro r M1 ⟨rfl, rfl⟩
          refine o_q (q_not rfl) rfl rfl rfl ?_
          refine o_q (q_as (v_raw rfl)) rfl rfl rfl ?_
          refine o_nil ?_
          refine s_cond rfl (fun h5 => ?_) (fun h5 => ?_)
          · have k5 := h5; try simp only [decide_eq_true_eq, decide_eq_false_iff_not, Bool.not_eq_true', Bool.not_eq_false', Bool.not_true, Bool.not_false, List.length_map, Decidable.not_not] at k5
            refine s_seq ?_
            refine s_region ?_
            refine o_q (q_as (v_raw rfl)) rfl rfl rfl ?_
            refine o_nil ?_
            refine s_ret ?_
            refine s_blk_ret ?_
            refine s_code_ret ?_
            refine s_end ?_
            have e : s.create nm = s.act fun t => t.made.chg (.mk nm t.files.length) := by
              unfold DS.create
              rw [if_neg (by rw [h1]; exact Bool.false_ne_true), if_neg (by rw [k2]; decide), if_neg (by rw [hg0]; decide), if_neg hlt2]
            have hf0 : s.fuse = 0 := by simpa using k5
            have e2 : s.create nm = (9, { s with down := true }) := by rw [e]; exact if_pos hf0
            exact ⟨by rw [e2]; rfl, by rw [e2]; exact h.actN hf0 (Mem.upd_self _ _ _) fun c hc _ => upd_other hc⟩
          · have k5 := h5; try simp only [decide_eq_true_eq, decide_eq_false_iff_not, Bool.not_eq_true', Bool.not_eq_false', Bool.not_true, Bool.not_false, List.length_map, Decidable.not_not] at k5
            have hf0 : ¬ s.fuse = 0 := k5
            have hY := h.actY (M' := M.upd x (.cells (rdT s _ o1 o2))) hf0 (Mem.upd_self _ _ _) (fun c hc _ => upd_other hc)
            refine s_skip ?_
            refine s_blk_normal ?_
            refine s_seq ?_
            refine s_region ?_
            refine o_q (q_mv ((by first | exact v_raw rfl | exact v_sptr rfl))) rfl rfl rfl ?_
            refine o_q (q_mv ((by first | exact v_raw rfl | exact v_sptr rfl))) rfl rfl rfl ?_
            refine o_q (q_nil rfl) rfl rfl rfl ?_
            refine o_q (q_fr fo87_1 rfl) rfl rfl rfl ?_
            refine o_q (q_ldm ag83 sz83 rfl (by repeat first | exact Mem.upd_self _ _ _ | assumption | refine Mem.upd_ne (by assumption) ?_) rfl ((by first | exact v_raw rfl | exact v_sl rfl))) rfl rfl rfl ?_
            refine o_q (q_b (cs := [.raw (.string { data := #[] }), .raw (.slice none 0 0)]) bz95 bp95 bf_nil) rfl rfl rfl ?_
            refine o_q (q_bs slt83 (pc (v_agg rfl) pn) rfl (Els.cons rfl rfl Els.nil) (by decide)) rfl rfl rfl ?_
            have hw1 := hY.hw
            refine o_appx slt83 rfl rfl zc95 (fun z hz => by simp only [List.mem_cons, List.not_mem_nil, or_false] at hz; rcases hz with rfl | rfl <;> rfl) (by decide) rfl uwF rfl hw1 (m := [(⟨⟨#[]⟩, none, 0, 0⟩ : Fs)]) (src_sl rfl) (by simp) (by rw [List.length_singleton]; omega) (fun b k R hR hbb => ?_)
            have bx : x ≠ b := hbb.elim (fun h3 e => hY.ok x hY.od (by rw [← e] at h3; exact h3)) fun h3 e => (hY.ob b h3).2 e.symm
            have bxb := bx.symm
            refine o_q (q_nil rfl) rfl rfl rfl ?_
            refine o_q (q_fr fo87_1 rfl) rfl rfl rfl ?_
            refine o_store rfl (by repeat first | exact Mem.upd_self _ _ _ | assumption | refine Mem.upd_ne (by assumption) ?_) (by first | exact e_raw rfl | exact e_agg rfl | exact e_sl rfl | rfl) rfl sz83 rfl (Nat.le_of_ble_eq_true rfl) rfl rfl ?_
            refine o_nil ?_
            refine s_seq ?_
            refine s_region ?_
            refine o_q (q_mv (v_raw rfl)) rfl rfl rfl ?_
            refine o_q (q_mv ((by first | exact v_raw rfl | exact v_sptr rfl))) rfl rfl rfl ?_
            refine o_q (q_nil rfl) rfl rfl rfl ?_
            refine o_q (q_fr fo87_1 rfl) rfl rfl rfl ?_
            refine o_q (q_ldm ag83 sz83 rfl (by repeat first | exact Mem.upd_self _ _ _ | assumption | refine Mem.upd_ne (by assumption) ?_) rfl ((by first | exact v_raw rfl | exact v_sl rfl))) rfl rfl rfl ?_
            refine o_q (q_lenr rfl und83 rfl) rfl rfl rfl ?_
            refine o_q (q_subn (r := s.files.length) (n := 1) rfl rfl (by rw [List.length_singleton]; omega) (by rw [List.length_singleton]; omega)) rfl rfl rfl ?_
            refine o_q (q_b (cs := [_, _, _, _]) bz92 bp92 (bf fo92_0 (e_raw rfl) rfl rfl (Nat.le_of_ble_eq_true rfl) rfl (bf fo92_1 (e_raw rfl) rfl rfl (Nat.le_of_ble_eq_true rfl) rfl (bf fo92_2 (e_raw rfl) rfl rfl (Nat.le_of_ble_eq_true rfl) rfl (bf fo92_3 (e_raw rfl) rfl rfl (Nat.le_of_ble_eq_true rfl) rfl bf_nil))))) rfl rfl rfl ?_
            refine o_alloc zc92 (fun B1 hB1 => ?_)
            have nb1 : b ≠ B1 := Mem.fresh_ne hB1 (by repeat first | exact Mem.upd_self _ _ _ | refine Mem.upd_ne (by assumption) ?_)
            have nb1b := nb1.symm
            have nx1 : x ≠ B1 := Mem.fresh_ne hB1 (Mem.upd_self _ _ _)
            have nx1b := nx1.symm
            have m1 : (M.upd x (.cells (rdT s (.slice base L.length cp) o1 o2))) B1 = none := (upd_other nb1b).symm.trans ((upd_other nx1b).symm.trans hB1)
            refine o_storew rfl (by repeat first | exact Mem.upd_self _ _ _ | assumption | refine Mem.upd_ne (by assumption) ?_) (by first | exact e_agg rfl | rfl) rfl sz92 rfl rfl rfl rfl ?_
            refine o_nil ?_
            refine s_seq ?_
            refine s_draw rfl ?_
            refine d_q rfl (q_mv ((by first | exact v_raw rfl | exact v_sptr rfl))) rfl rfl rfl ?_
            refine d_q rfl (q_mv ((by first | exact v_raw rfl | exact v_sptr rfl))) rfl rfl rfl ?_
            refine d_q rfl (q_nil rfl) rfl rfl rfl ?_
            refine d_q rfl (q_fr fo87_2 rfl) rfl rfl rfl ?_
            refine d_q rfl (q_ldm ag84 sz84 rfl (by repeat first | exact Mem.upd_self _ _ _ | assumption | refine Mem.upd_ne (by assumption) ?_) rfl (v_sl rfl)) rfl rfl rfl ?_
            refine d_q rfl (q_ldmw ag92 sz92 rfl (by repeat first | exact Mem.upd_self _ _ _ | assumption | refine Mem.upd_ne (by assumption) ?_) rfl rfl) rfl rfl rfl ?_
            refine d_s rfl ?_
            refine o_call ((snd51 s.dir false (.mk nm s.files.length) _ (by omega) trivial).det) goes51 (ac (v_sl rfl) (ac (v_agg rfl) ac_nil)) rfl ?_
            refine o_nil ⟨(by simp [Mem.upd, *]), ?_⟩
            refine d_q rfl (q_nil rfl) rfl rfl rfl ?_
            refine d_q rfl (q_fr fo87_2 rfl) rfl rfl rfl ?_
            refine d_s rfl ?_
            refine o_store rfl (by repeat first | exact Mem.upd_self _ _ _ | assumption | refine Mem.upd_ne (by assumption) ?_) (by first | exact e_raw rfl | exact e_agg rfl | exact e_sl rfl | rfl) rfl sz84 rfl (Nat.le_of_ble_eq_true rfl) rfl rfl ?_
            refine o_nil ⟨(by simp [Mem.upd, *]), ?_⟩
            refine d_nil ?_
            refine s_seq ?_
            refine s_draw rfl ?_
            refine d_q rfl (q_mv ((by first | exact v_raw rfl | exact v_sptr rfl))) rfl rfl rfl ?_
            refine d_q rfl (q_mv ((by first | exact v_raw rfl | exact v_sptr rfl))) rfl rfl rfl ?_
            refine d_q rfl (q_nil rfl) rfl rfl rfl ?_
            refine d_q rfl (q_fr fo87_4 rfl) rfl rfl rfl ?_
            refine d_q rfl (q_ldmw ag92 sz92 rfl (by repeat first | exact Mem.upd_self _ _ _ | assumption | refine Mem.upd_ne (by assumption) ?_) rfl rfl) rfl rfl rfl ?_
            refine d_q rfl (q_bs slt85 (pc (v_agg rfl) pn) rfl (Els.cons rfl rfl Els.nil) (by decide)) rfl rfl rfl ?_
            refine d_s rfl ?_
            refine o_take rfl rfl (by repeat first | exact Mem.upd_self _ _ _ | assumption | refine Mem.upd_ne (by assumption) ?_) rfl ag85 sz85 ?_
            refine o_nil ⟨(by simp [Mem.upd, *]), ?_⟩
            refine d_qs rfl (q_app slt85 rfl rfl rfl rfl elsS (by first | exact elsS | exact Els.cons rfl rfl Els.nil) (by simp; omega)) rfl rfl rfl rfl ?_
            refine d_q rfl (q_nil rfl) rfl rfl rfl ?_
            refine d_q rfl (q_fr fo87_4 rfl) rfl rfl rfl ?_
            refine d_s rfl ?_
            refine o_store_own rfl (by repeat first | exact Mem.upd_self _ _ _ | assumption | refine Mem.upd_ne (by assumption) ?_) rfl sz85 (Nat.le_of_ble_eq_true rfl) ?_
            refine o_nil ⟨(by simp [Mem.upd, *]), ?_⟩
            refine d_nil ?_
            refine s_seq ?_
            refine s_region ?_
            refine o_q (q_as (v_raw rfl)) rfl rfl rfl ?_
            refine o_nil ?_
            refine s_ret ?_
            refine s_end ?_
            have e : s.create nm = s.act fun t => t.made.chg (.mk nm t.files.length) := by
              unfold DS.create
              rw [if_neg (by rw [h1]; exact Bool.false_ne_true), if_neg (by rw [k2]; decide), if_neg (by rw [hg0]; decide), if_neg hlt2]
            have e2 : s.create nm = (0, ({ s with fuse := tick s.fuse } : DS).made.chg (.mk nm s.files.length)) := by rw [e]; exact if_neg hf0
            exact ⟨by rw [e2]; rfl, by rw [e2]; exact RAft.pre h.od (fun c hc _ => upd_other hc) (by rw [Mem.upd_self]; exact fun h => by cases h) (hY.new hR hbb rfl (by repeat first | exact Mem.upd_self _ _ _ | refine Mem.upd_ne (by assumption) ?_) ((Mem.upd_self _ _ _).trans (congrArg (fun l => some (AObj.cells l)) (by show [int s.room, .raw _, .sl ((Dc.run (Dc.mk nm s.files.length) s.dir).map encN) false, .sl (s.lst.map encN) o2, .sl (s.since.map encS ++ [encS (Dc.mk nm s.files.length)]) true, int (if s.fuse = 0 then 0 else tick s.fuse), bool (if s.fuse = 0 then true else s.down)] = _; rw [if_neg hf0, if_neg hf0]; show _ = [int s.room, _, _, _, AVal.sl ((s.since ++ [(Dc.mk nm s.files.length)]).map encS) true, _, _]; rw [List.map_append]; rfl)) ) (fun c h1 h2 h3 => by repeat first | rfl | refine (upd_other (by first | assumption | exact fun e => h3 (by rw [e]; exact m1))).trans ?_))⟩

def tk57 : Nat → Nat → Option Nat
  | 11, 4 => some 0
  | _, _ => none
def pl57 : Nat → List PStep
  | 10 => [.q 0, .q 1, .q 2, .q 3, .q 4, .q 5, .s 6 [3, 2, 1, 0], .q 7, .q 8, .s 9 [7]]
  | 11 => [.q 0, .q 1, .q 2, .q 3, .q 5, .q 6, .s 4 [6, 5, 2, 1, 0], .q 7, .q 8, .q 9, .s 10 [8]]
  | _ => []
theorem cb57 : Try.f57.body.map (codeB Try.prog Try.f57.ntmps tk57 pl57) = some true := by kernel_rfl
theorem goes57 : goesB Try.prog 57 = true := by kernel_rfl
set_option maxHeartbeats 4000000 in
set_option maxRecDepth 20000 in
theorem snd57 (M : Mem) (x n : Nat) (s : DS) (vf : Value) (L : List Fs) (O : Nat → Prop) (h : RdIs M x s vf L O) (hp : POk n s) (hn : n < BIG) (a b : ByteArray) : SoundCall Try.prog 57 [ptr x, str a, str b] M fun r M' => r = int (s.rename a b).1 ∧ RAft M M' x (s.rename a b).2 O := by
  have hbig : BIG = 2 ^ 40 := rfl
  obtain ⟨o1, o2, hd⟩ := h.hd
  have hgd := (okC_gd hp.oc).2
  have hdl := hgd.len
  obtain ⟨base, cp, rfl⟩ := h.hw.len
  have hln := h.ln
  have hnf := hp.nf
  have hns := hp.ns
  have hml : (s.dir.map encN).length = s.dir.length := List.length_map _
  have hms : (s.since.map encS).length = s.since.length := List.length_map _
  refine SoundCall.go tk57 pl57 mixed Try.func57 cb57 rfl (Nat.le_of_ble_eq_true rfl) ?_
  refine s_seq ?_
  refine s_region ?_
  refine o_q (q_as (v_raw rfl)) rfl rfl rfl ?_
  refine o_nil ?_
  refine s_seq ?_
  refine s_block ?_
  refine s_seq ?_
  refine s_region ?_
  refine o_q (q_mv ((by first | exact v_raw rfl | exact v_sptr rfl))) rfl rfl rfl ?_
  refine o_q (q_nil rfl) rfl rfl rfl ?_
  refine o_q (q_fr fo87_6 rfl) rfl rfl rfl ?_
  refine o_q (q_ldm ag4 sz4 rfl (by repeat first | exact Mem.upd_self _ _ _ | assumption | refine Mem.upd_ne (by assumption) ?_) rfl (v_raw rfl)) rfl rfl rfl ?_
  refine o_q (q_as (v_raw rfl)) rfl rfl rfl ?_
  refine o_nil ?_
  refine s_cond rfl (fun h1 => ?_) (fun h1 => ?_)
  · have k1 := h1; try simp only [decide_eq_true_eq, decide_eq_false_iff_not, Bool.not_eq_true', Bool.not_eq_false', Bool.not_true, Bool.not_false, List.length_map, Decidable.not_not] at k1
    refine s_seq ?_
    refine s_region ?_
    refine o_q (q_as (v_raw rfl)) rfl rfl rfl ?_
    refine o_nil ?_
    refine s_ret ?_
    refine s_blk_ret ?_
    refine s_code_ret ?_
    refine s_end ?_
    have e : s.rename a b = (9, s) := by show s.onf a _ = _; unfold DS.onf; rw [if_pos h1]
    exact ⟨by rw [e]; rfl, by rw [e]; exact RAft.of (h.le (Mem.le_refl M)) fun _ _ _ => rfl⟩
  · have k1 := h1; try simp only [decide_eq_true_eq, decide_eq_false_iff_not, Bool.not_eq_true', Bool.not_eq_false', Bool.not_true, Bool.not_false, List.length_map, Decidable.not_not] at k1
    refine s_seq ?_
    refine s_region ?_
    refine o_q (q_mv ((by first | exact v_raw rfl | exact v_sptr rfl))) rfl rfl rfl ?_
    refine o_q (q_nil rfl) rfl rfl rfl ?_
    refine o_q (q_fr fo87_2 rfl) rfl rfl rfl ?_
    refine o_q (q_ldm ag84 sz84 rfl (by repeat first | exact Mem.upd_self _ _ _ | assumption | refine Mem.upd_ne (by assumption) ?_) rfl (v_sl rfl)) rfl rfl rfl ?_
    refine o_q (q_mv (v_raw rfl)) rfl rfl rfl ?_
    refine o_call ((snd49 s.dir false a _ (by omega))) goes49 (ac (v_sl rfl) (ac (v_raw rfl) ac_nil)) rfl ?_
    refine o_q (q_lss rfl rfl) rfl rfl rfl ?_
    refine o_q (q_as (v_raw rfl)) rfl rfl rfl ?_
    refine o_nil ?_
    refine s_cond rfl (fun h2 => ?_) (fun h2 => ?_)
    · have k2 := h2; try simp only [decide_eq_true_eq, decide_eq_false_iff_not, Bool.not_eq_true', Bool.not_eq_false', Bool.not_true, Bool.not_false, List.length_map, Decidable.not_not] at k2
      refine s_seq ?_
      refine s_region ?_
      refine o_q (q_as (v_raw rfl)) rfl rfl rfl ?_
      refine o_nil ?_
      refine s_ret ?_
      refine s_blk_ret ?_
      refine s_code_ret ?_
      refine s_end ?_
      have e : s.rename a b = (7, s) := by show s.onf a _ = _; unfold DS.onf; rw [if_neg (by rw [h1]; exact Bool.false_ne_true), findI_lt k2]
      exact ⟨by rw [e]; rfl, by rw [e]; exact RAft.of (h.le (Mem.le_refl M)) fun _ _ _ => rfl⟩
    · have k2 := h2; try simp only [decide_eq_true_eq, decide_eq_false_iff_not, Bool.not_eq_true', Bool.not_eq_false', Bool.not_true, Bool.not_false, List.length_map, Decidable.not_not] at k2
      obtain ⟨i, hg⟩ := findI_ge k2
      have hon : ∀ f, s.onf a f = f i := fun f => by unfold DS.onf; rw [if_neg (by rw [h1]; exact Bool.false_ne_true), hg]
      refine s_seq ?_
      refine s_region ?_
      refine o_q (q_mv (v_raw rfl)) rfl rfl rfl ?_
      refine o_call ((snd75 b _)) goes75 (ac (v_raw rfl) ac_nil) rfl ?_
      refine o_q (q_not rfl) rfl rfl rfl ?_
      refine o_q (q_as (v_raw rfl)) rfl rfl rfl ?_
      refine o_nil ?_
      refine s_cond rfl (fun h3 => ?_) (fun h3 => ?_)
      · have k3 := h3; try simp only [decide_eq_true_eq, decide_eq_false_iff_not, Bool.not_eq_true', Bool.not_eq_false', Bool.not_true, Bool.not_false, List.length_map, Decidable.not_not] at k3
        refine s_seq ?_
        refine s_region ?_
        refine o_q (q_as (v_raw rfl)) rfl rfl rfl ?_
        refine o_nil ?_
        refine s_ret ?_
        refine s_blk_ret ?_
        refine s_code_ret ?_
        refine s_end ?_
        have e : s.rename a b = (5, s) := by show s.onf a _ = _; rw [hon, if_pos k3]
        exact ⟨by rw [e]; rfl, by rw [e]; exact RAft.of (h.le (Mem.le_refl M)) fun _ _ _ => rfl⟩
      · have k3 := h3; try simp only [decide_eq_true_eq, decide_eq_false_iff_not, Bool.not_eq_true', Bool.not_eq_false', Bool.not_true, Bool.not_false, List.length_map, Decidable.not_not] at k3
        refine s_seq ?_
        refine s_region ?_
        refine o_q (q_mv ((by first | exact v_raw rfl | exact v_sptr rfl))) rfl rfl rfl ?_
        refine o_callx ((snd76 M x s _ o1 o2 hd hp.fuse)) goes76 (ac ((by first | exact v_raw rfl | exact v_sptr rfl)) ac_nil) rfl ?_
        rintro r M1 ⟨rfl, rfl⟩
        refine o_q (q_not rfl) rfl rfl rfl ?_
        refine o_q (q_as (v_raw rfl)) rfl rfl rfl ?_
        refine o_nil ?_
        refine s_cond rfl (fun h4 => ?_) (fun h4 => ?_)
        · have k4 := h4; try simp only [decide_eq_true_eq, decide_eq_false_iff_not, Bool.not_eq_true', Bool.not_eq_false', Bool.not_true, Bool.not_false, List.length_map, Decidable.not_not] at k4
          refine s_seq ?_
          refine s_region ?_
          refine o_q (q_as (v_raw rfl)) rfl rfl rfl ?_
          refine o_nil ?_
          refine s_ret ?_
          refine s_blk_ret ?_
          refine s_code_ret ?_
          refine s_end ?_
          have hf0 : s.fuse = 0 := by simpa using k4
          have e : s.rename a b = (9, { s with down := true }) := by show s.onf a _ = _; rw [hon, if_neg (by rw [k3]; decide)]; exact if_pos hf0
          exact ⟨by rw [e]; rfl, by rw [e]; exact h.actN hf0 (Mem.upd_self _ _ _) fun c hc _ => upd_other hc⟩
        · have k4 := h4; try simp only [decide_eq_true_eq, decide_eq_false_iff_not, Bool.not_eq_true', Bool.not_eq_false', Bool.not_true, Bool.not_false, List.length_map, Decidable.not_not] at k4
          have hf0 : ¬ s.fuse = 0 := k4
          refine s_skip ?_
          refine s_blk_normal ?_
          refine s_seq ?_
          refine s_region ?_
          refine o_q (q_mv (v_raw rfl)) rfl rfl rfl ?_
          refine o_q (q_mv (v_raw rfl)) rfl rfl rfl ?_
          refine o_q (q_b (cs := [_, _, _, _]) bz92 bp92 (bf fo92_0 (e_raw rfl) rfl rfl (Nat.le_of_ble_eq_true rfl) rfl (bf fo92_1 (e_raw rfl) rfl rfl (Nat.le_of_ble_eq_true rfl) rfl (bf fo92_2 (e_raw rfl) rfl rfl (Nat.le_of_ble_eq_true rfl) rfl (bf fo92_3 (e_raw rfl) rfl rfl (Nat.le_of_ble_eq_true rfl) rfl bf_nil))))) rfl rfl rfl ?_
          refine o_alloc zc92 (fun B1 hB1 => ?_)
          have nx1 : x ≠ B1 := Mem.fresh_ne hB1 (Mem.upd_self _ _ _)
          have nx1b := nx1.symm
          have m1 : M B1 = none := (upd_other nx1b).symm.trans hB1
          refine o_storew rfl (by repeat first | exact Mem.upd_self _ _ _ | assumption | refine Mem.upd_ne (by assumption) ?_) (by first | exact e_agg rfl | rfl) rfl sz92 rfl rfl rfl rfl ?_
          refine o_nil ?_
          refine s_seq ?_
          refine s_draw rfl ?_
          refine d_q rfl (q_mv ((by first | exact v_raw rfl | exact v_sptr rfl))) rfl rfl rfl ?_
          refine d_q rfl (q_mv ((by first | exact v_raw rfl | exact v_sptr rfl))) rfl rfl rfl ?_
          refine d_q rfl (q_nil rfl) rfl rfl rfl ?_
          refine d_q rfl (q_fr fo87_2 rfl) rfl rfl rfl ?_
          refine d_q rfl (q_ldm ag84 sz84 rfl (by repeat first | exact Mem.upd_self _ _ _ | assumption | refine Mem.upd_ne (by assumption) ?_) rfl (v_sl rfl)) rfl rfl rfl ?_
          refine d_q rfl (q_ldmw ag92 sz92 rfl (by repeat first | exact Mem.upd_self _ _ _ | assumption | refine Mem.upd_ne (by assumption) ?_) rfl rfl) rfl rfl rfl ?_
          refine d_s rfl ?_
          refine o_call ((snd51 s.dir false (Dc.mv a b) _ (by omega) (by show (gets s.dir a).isSome = true; rw [hg]; rfl)).det) goes51 (ac (v_sl rfl) (ac (v_agg rfl) ac_nil)) rfl ?_
          refine o_nil ⟨(by simp [Mem.upd, *]), ?_⟩
          refine d_q rfl (q_nil rfl) rfl rfl rfl ?_
          refine d_q rfl (q_fr fo87_2 rfl) rfl rfl rfl ?_
          refine d_s rfl ?_
          refine o_store rfl (by repeat first | exact Mem.upd_self _ _ _ | assumption | refine Mem.upd_ne (by assumption) ?_) (by first | exact e_raw rfl | exact e_agg rfl | exact e_sl rfl | rfl) rfl sz84 rfl (Nat.le_of_ble_eq_true rfl) rfl rfl ?_
          refine o_nil ⟨(by simp [Mem.upd, *]), ?_⟩
          refine d_nil ?_
          refine s_seq ?_
          refine s_draw rfl ?_
          refine d_q rfl (q_mv ((by first | exact v_raw rfl | exact v_sptr rfl))) rfl rfl rfl ?_
          refine d_q rfl (q_mv ((by first | exact v_raw rfl | exact v_sptr rfl))) rfl rfl rfl ?_
          refine d_q rfl (q_nil rfl) rfl rfl rfl ?_
          refine d_q rfl (q_fr fo87_4 rfl) rfl rfl rfl ?_
          refine d_q rfl (q_ldmw ag92 sz92 rfl (by repeat first | exact Mem.upd_self _ _ _ | assumption | refine Mem.upd_ne (by assumption) ?_) rfl rfl) rfl rfl rfl ?_
          refine d_q rfl (q_bs slt85 (pc (v_agg rfl) pn) rfl (Els.cons rfl rfl Els.nil) (by decide)) rfl rfl rfl ?_
          refine d_s rfl ?_
          refine o_take rfl rfl (by repeat first | exact Mem.upd_self _ _ _ | assumption | refine Mem.upd_ne (by assumption) ?_) rfl ag85 sz85 ?_
          refine o_nil ⟨(by simp [Mem.upd, *]), ?_⟩
          refine d_qs rfl (q_app slt85 rfl rfl rfl rfl elsS (by first | exact elsS | exact Els.cons rfl rfl Els.nil) (by simp; omega)) rfl rfl rfl rfl ?_
          refine d_q rfl (q_nil rfl) rfl rfl rfl ?_
          refine d_q rfl (q_fr fo87_4 rfl) rfl rfl rfl ?_
          refine d_s rfl ?_
          refine o_store_own rfl (by repeat first | exact Mem.upd_self _ _ _ | assumption | refine Mem.upd_ne (by assumption) ?_) rfl sz85 (Nat.le_of_ble_eq_true rfl) ?_
          refine o_nil ⟨(by simp [Mem.upd, *]), ?_⟩
          refine d_nil ?_
          refine s_seq ?_
          refine s_region ?_
          refine o_q (q_as (v_raw rfl)) rfl rfl rfl ?_
          refine o_nil ?_
          refine s_ret ?_
          refine s_end ?_
          have e : s.rename a b = (0, ({ s with fuse := tick s.fuse } : DS).chg (Dc.mv a b)) := by show s.onf a _ = _; rw [hon, if_neg (by rw [k3]; decide)]; exact if_neg hf0
          exact ⟨by rw [e]; rfl, by rw [e]; exact RAft.of (h.cells (s' := ({ s with fuse := tick s.fuse } : DS).chg (Dc.mv a b)) rfl ((Mem.upd_self _ _ _).trans (congrArg (fun l => some (AObj.cells l)) (by show [int s.room, .raw _, .sl ((Dc.run (Dc.mv a b) s.dir).map encN) false, .sl (s.lst.map encN) o2, .sl (s.since.map encS ++ [encS (Dc.mv a b)]) true, int (if s.fuse = 0 then 0 else tick s.fuse), bool (if s.fuse = 0 then true else s.down)] = _; rw [if_neg hf0, if_neg hf0]; show _ = [int s.room, _, _, _, AVal.sl ((s.since ++ [(Dc.mv a b)]).map encS) true, _, _]; rw [List.map_append]; rfl))) (fun c hc hn => by repeat first | rfl | refine (upd_other (by first | assumption | exact fun e => hn (by rw [e]; exact m1))).trans ?_)) (fun c hc hn => by repeat first | rfl | refine (upd_other (by first | assumption | exact fun e => hn (by rw [e]; exact m1))).trans ?_)⟩

def tk59 : Nat → Nat → Option Nat
  | 9, 4 => some 0
  | _, _ => none
def pl59 : Nat → List PStep
  | 8 => [.q 0, .q 1, .q 2, .q 3, .q 4, .q 5, .s 6 [3, 2, 1, 0], .q 7, .q 8, .s 9 [7]]
  | 9 => [.q 0, .q 1, .q 2, .q 3, .q 5, .q 6, .s 4 [6, 5, 2, 1, 0], .q 7, .q 8, .q 9, .s 10 [8]]
  | _ => []
theorem cb59 : Try.f59.body.map (codeB Try.prog Try.f59.ntmps tk59 pl59) = some true := by kernel_rfl
theorem goes59 : goesB Try.prog 59 = true := by kernel_rfl
set_option maxHeartbeats 4000000 in
set_option maxRecDepth 20000 in
theorem snd59 (M : Mem) (x n : Nat) (s : DS) (vf : Value) (L : List Fs) (O : Nat → Prop) (h : RdIs M x s vf L O) (hp : POk n s) (hn : n < BIG) (a : ByteArray) : SoundCall Try.prog 59 [ptr x, str a] M fun r M' => r = int (s.remove a).1 ∧ RAft M M' x (s.remove a).2 O := by
  have hbig : BIG = 2 ^ 40 := rfl
  obtain ⟨o1, o2, hd⟩ := h.hd
  have hgd := (okC_gd hp.oc).2
  have hdl := hgd.len
  obtain ⟨base, cp, rfl⟩ := h.hw.len
  have hln := h.ln
  have hnf := hp.nf
  have hns := hp.ns
  have hml : (s.dir.map encN).length = s.dir.length := List.length_map _
  have hms : (s.since.map encS).length = s.since.length := List.length_map _
  refine SoundCall.go tk59 pl59 mixed Try.func59 cb59 rfl (Nat.le_of_ble_eq_true rfl) ?_
  refine s_seq ?_
  refine s_region ?_
  refine o_q (q_as (v_raw rfl)) rfl rfl rfl ?_
  refine o_nil ?_
  refine s_seq ?_
  refine s_block ?_
  refine s_seq ?_
  refine s_region ?_
  refine o_q (q_mv ((by first | exact v_raw rfl | exact v_sptr rfl))) rfl rfl rfl ?_
  refine o_q (q_nil rfl) rfl rfl rfl ?_
  refine o_q (q_fr fo87_6 rfl) rfl rfl rfl ?_
  refine o_q (q_ldm ag4 sz4 rfl (by repeat first | exact Mem.upd_self _ _ _ | assumption | refine Mem.upd_ne (by assumption) ?_) rfl (v_raw rfl)) rfl rfl rfl ?_
  refine o_q (q_as (v_raw rfl)) rfl rfl rfl ?_
  refine o_nil ?_
  refine s_cond rfl (fun h1 => ?_) (fun h1 => ?_)
  · have k1 := h1; try simp only [decide_eq_true_eq, decide_eq_false_iff_not, Bool.not_eq_true', Bool.not_eq_false', Bool.not_true, Bool.not_false, List.length_map, Decidable.not_not] at k1
    refine s_seq ?_
    refine s_region ?_
    refine o_q (q_as (v_raw rfl)) rfl rfl rfl ?_
    refine o_nil ?_
    refine s_ret ?_
    refine s_blk_ret ?_
    refine s_code_ret ?_
    refine s_end ?_
    have e : s.remove a = (9, s) := by show s.onf a _ = _; unfold DS.onf; rw [if_pos h1]
    exact ⟨by rw [e]; rfl, by rw [e]; exact RAft.of (h.le (Mem.le_refl M)) fun _ _ _ => rfl⟩
  · have k1 := h1; try simp only [decide_eq_true_eq, decide_eq_false_iff_not, Bool.not_eq_true', Bool.not_eq_false', Bool.not_true, Bool.not_false, List.length_map, Decidable.not_not] at k1
    refine s_seq ?_
    refine s_region ?_
    refine o_q (q_mv ((by first | exact v_raw rfl | exact v_sptr rfl))) rfl rfl rfl ?_
    refine o_q (q_nil rfl) rfl rfl rfl ?_
    refine o_q (q_fr fo87_2 rfl) rfl rfl rfl ?_
    refine o_q (q_ldm ag84 sz84 rfl (by repeat first | exact Mem.upd_self _ _ _ | assumption | refine Mem.upd_ne (by assumption) ?_) rfl (v_sl rfl)) rfl rfl rfl ?_
    refine o_q (q_mv (v_raw rfl)) rfl rfl rfl ?_
    refine o_call ((snd49 s.dir false a _ (by omega))) goes49 (ac (v_sl rfl) (ac (v_raw rfl) ac_nil)) rfl ?_
    refine o_q (q_lss rfl rfl) rfl rfl rfl ?_
    refine o_q (q_as (v_raw rfl)) rfl rfl rfl ?_
    refine o_nil ?_
    refine s_cond rfl (fun h2 => ?_) (fun h2 => ?_)
    · have k2 := h2; try simp only [decide_eq_true_eq, decide_eq_false_iff_not, Bool.not_eq_true', Bool.not_eq_false', Bool.not_true, Bool.not_false, List.length_map, Decidable.not_not] at k2
      refine s_seq ?_
      refine s_region ?_
      refine o_q (q_as (v_raw rfl)) rfl rfl rfl ?_
      refine o_nil ?_
      refine s_ret ?_
      refine s_blk_ret ?_
      refine s_code_ret ?_
      refine s_end ?_
      have e : s.remove a = (7, s) := by show s.onf a _ = _; unfold DS.onf; rw [if_neg (by rw [h1]; exact Bool.false_ne_true), findI_lt k2]
      exact ⟨by rw [e]; rfl, by rw [e]; exact RAft.of (h.le (Mem.le_refl M)) fun _ _ _ => rfl⟩
    · have k2 := h2; try simp only [decide_eq_true_eq, decide_eq_false_iff_not, Bool.not_eq_true', Bool.not_eq_false', Bool.not_true, Bool.not_false, List.length_map, Decidable.not_not] at k2
      obtain ⟨i, hg⟩ := findI_ge k2
      have hon : ∀ f, s.onf a f = f i := fun f => by unfold DS.onf; rw [if_neg (by rw [h1]; exact Bool.false_ne_true), hg]
      refine s_seq ?_
      refine s_region ?_
      refine o_q (q_mv ((by first | exact v_raw rfl | exact v_sptr rfl))) rfl rfl rfl ?_
      refine o_callx ((snd76 M x s _ o1 o2 hd hp.fuse)) goes76 (ac ((by first | exact v_raw rfl | exact v_sptr rfl)) ac_nil) rfl ?_
      rintro r M1 ⟨rfl, rfl⟩
      refine o_q (q_not rfl) rfl rfl rfl ?_
      refine o_q (q_as (v_raw rfl)) rfl rfl rfl ?_
      refine o_nil ?_
      refine s_cond rfl (fun h3 => ?_) (fun h3 => ?_)
      · have k3 := h3; try simp only [decide_eq_true_eq, decide_eq_false_iff_not, Bool.not_eq_true', Bool.not_eq_false', Bool.not_true, Bool.not_false, List.length_map, Decidable.not_not] at k3
        refine s_seq ?_
        refine s_region ?_
        refine o_q (q_as (v_raw rfl)) rfl rfl rfl ?_
        refine o_nil ?_
        refine s_ret ?_
        refine s_blk_ret ?_
        refine s_code_ret ?_
        refine s_end ?_
        have hf0 : s.fuse = 0 := by simpa using k3
        have e : s.remove a = (9, { s with down := true }) := by show s.onf a _ = _; rw [hon]; exact if_pos hf0
        exact ⟨by rw [e]; rfl, by rw [e]; exact h.actN hf0 (Mem.upd_self _ _ _) fun c hc _ => upd_other hc⟩
      · have k3 := h3; try simp only [decide_eq_true_eq, decide_eq_false_iff_not, Bool.not_eq_true', Bool.not_eq_false', Bool.not_true, Bool.not_false, List.length_map, Decidable.not_not] at k3
        have hf0 : ¬ s.fuse = 0 := k3
        refine s_skip ?_
        refine s_blk_normal ?_
        refine s_seq ?_
        refine s_region ?_
        refine o_q (q_mv (v_raw rfl)) rfl rfl rfl ?_
        refine o_q (q_b (cs := [_, _, _, _]) bz92 bp92 (bf fo92_0 (e_raw rfl) rfl rfl (Nat.le_of_ble_eq_true rfl) rfl (bf fo92_1 (e_raw rfl) rfl rfl (Nat.le_of_ble_eq_true rfl) rfl (bf fo92_2 (e_raw rfl) rfl rfl (Nat.le_of_ble_eq_true rfl) rfl (bf fo92_3 (e_raw rfl) rfl rfl (Nat.le_of_ble_eq_true rfl) rfl bf_nil))))) rfl rfl rfl ?_
        refine o_alloc zc92 (fun B1 hB1 => ?_)
        have nx1 : x ≠ B1 := Mem.fresh_ne hB1 (Mem.upd_self _ _ _)
        have nx1b := nx1.symm
        have m1 : M B1 = none := (upd_other nx1b).symm.trans hB1
        refine o_storew rfl (by repeat first | exact Mem.upd_self _ _ _ | assumption | refine Mem.upd_ne (by assumption) ?_) (by first | exact e_agg rfl | rfl) rfl sz92 rfl rfl rfl rfl ?_
        refine o_nil ?_
        refine s_seq ?_
        refine s_draw rfl ?_
        refine d_q rfl (q_mv ((by first | exact v_raw rfl | exact v_sptr rfl))) rfl rfl rfl ?_
        refine d_q rfl (q_mv ((by first | exact v_raw rfl | exact v_sptr rfl))) rfl rfl rfl ?_
        refine d_q rfl (q_nil rfl) rfl rfl rfl ?_
        refine d_q rfl (q_fr fo87_2 rfl) rfl rfl rfl ?_
        refine d_q rfl (q_ldm ag84 sz84 rfl (by repeat first | exact Mem.upd_self _ _ _ | assumption | refine Mem.upd_ne (by assumption) ?_) rfl (v_sl rfl)) rfl rfl rfl ?_
        refine d_q rfl (q_ldmw ag92 sz92 rfl (by repeat first | exact Mem.upd_self _ _ _ | assumption | refine Mem.upd_ne (by assumption) ?_) rfl rfl) rfl rfl rfl ?_
        refine d_s rfl ?_
        refine o_call ((snd51 s.dir false (Dc.rm a) _ (by omega) trivial).det) goes51 (ac (v_sl rfl) (ac (v_agg rfl) ac_nil)) rfl ?_
        refine o_nil ⟨(by simp [Mem.upd, *]), ?_⟩
        refine d_q rfl (q_nil rfl) rfl rfl rfl ?_
        refine d_q rfl (q_fr fo87_2 rfl) rfl rfl rfl ?_
        refine d_s rfl ?_
        refine o_store rfl (by repeat first | exact Mem.upd_self _ _ _ | assumption | refine Mem.upd_ne (by assumption) ?_) (by first | exact e_raw rfl | exact e_agg rfl | exact e_sl rfl | rfl) rfl sz84 rfl (Nat.le_of_ble_eq_true rfl) rfl rfl ?_
        refine o_nil ⟨(by simp [Mem.upd, *]), ?_⟩
        refine d_nil ?_
        refine s_seq ?_
        refine s_draw rfl ?_
        refine d_q rfl (q_mv ((by first | exact v_raw rfl | exact v_sptr rfl))) rfl rfl rfl ?_
        refine d_q rfl (q_mv ((by first | exact v_raw rfl | exact v_sptr rfl))) rfl rfl rfl ?_
        refine d_q rfl (q_nil rfl) rfl rfl rfl ?_
        refine d_q rfl (q_fr fo87_4 rfl) rfl rfl rfl ?_
        refine d_q rfl (q_ldmw ag92 sz92 rfl (by repeat first | exact Mem.upd_self _ _ _ | assumption | refine Mem.upd_ne (by assumption) ?_) rfl rfl) rfl rfl rfl ?_
        refine d_q rfl (q_bs slt85 (pc (v_agg rfl) pn) rfl (Els.cons rfl rfl Els.nil) (by decide)) rfl rfl rfl ?_
        refine d_s rfl ?_
        refine o_take rfl rfl (by repeat first | exact Mem.upd_self _ _ _ | assumption | refine Mem.upd_ne (by assumption) ?_) rfl ag85 sz85 ?_
        refine o_nil ⟨(by simp [Mem.upd, *]), ?_⟩
        refine d_qs rfl (q_app slt85 rfl rfl rfl rfl elsS (by first | exact elsS | exact Els.cons rfl rfl Els.nil) (by simp; omega)) rfl rfl rfl rfl ?_
        refine d_q rfl (q_nil rfl) rfl rfl rfl ?_
        refine d_q rfl (q_fr fo87_4 rfl) rfl rfl rfl ?_
        refine d_s rfl ?_
        refine o_store_own rfl (by repeat first | exact Mem.upd_self _ _ _ | assumption | refine Mem.upd_ne (by assumption) ?_) rfl sz85 (Nat.le_of_ble_eq_true rfl) ?_
        refine o_nil ⟨(by simp [Mem.upd, *]), ?_⟩
        refine d_nil ?_
        refine s_seq ?_
        refine s_region ?_
        refine o_q (q_as (v_raw rfl)) rfl rfl rfl ?_
        refine o_nil ?_
        refine s_ret ?_
        refine s_end ?_
        have e : s.remove a = (0, ({ s with fuse := tick s.fuse } : DS).chg (Dc.rm a)) := by show s.onf a _ = _; rw [hon]; exact if_neg hf0
        exact ⟨by rw [e]; rfl, by rw [e]; exact RAft.of (h.cells (s' := ({ s with fuse := tick s.fuse } : DS).chg (Dc.rm a)) rfl ((Mem.upd_self _ _ _).trans (congrArg (fun l => some (AObj.cells l)) (by show [int s.room, .raw _, .sl ((Dc.run (Dc.rm a) s.dir).map encN) false, .sl (s.lst.map encN) o2, .sl (s.since.map encS ++ [encS (Dc.rm a)]) true, int (if s.fuse = 0 then 0 else tick s.fuse), bool (if s.fuse = 0 then true else s.down)] = _; rw [if_neg hf0, if_neg hf0]; show _ = [int s.room, _, _, _, AVal.sl ((s.since ++ [(Dc.rm a)]).map encS) true, _, _]; rw [List.map_append]; rfl))) (fun c hc hn => by repeat first | rfl | refine (upd_other (by first | assumption | exact fun e => hn (by rw [e]; exact m1))).trans ?_)) (fun c hc hn => by repeat first | rfl | refine (upd_other (by first | assumption | exact fun e => hn (by rw [e]; exact m1))).trans ?_)⟩

def tk60 : Nat → Nat → Option Nat := fun _ _ => none
def pl60 : Nat → List PStep := fun _ => []
theorem cb60 : Try.f60.body.map (codeB Try.prog Try.f60.ntmps tk60 pl60) = some true := by kernel_rfl
theorem goes60 : goesB Try.prog 60 = true := by kernel_rfl
set_option maxHeartbeats 4000000 in
set_option maxRecDepth 20000 in
theorem snd60 (M : Mem) (x n : Nat) (s : DS) (vf : Value) (L : List Fs) (O : Nat → Prop) (h : RdIs M x s vf L O) (hp : POk n s) (hn : n < BIG) : SoundCall Try.prog 60 [ptr x] M fun r M' => r = int s.dirsync.1 ∧ RAft M M' x s.dirsync.2 O := by
  have hbig : BIG = 2 ^ 40 := rfl
  obtain ⟨o1, o2, hd⟩ := h.hd
  have hgd := (okC_gd hp.oc).2
  have hdl := hgd.len
  obtain ⟨base, cp, rfl⟩ := h.hw.len
  have hln := h.ln
  have hnf := hp.nf
  refine SoundCall.go tk60 pl60 mixed Try.func60 cb60 rfl (Nat.le_of_ble_eq_true rfl) ?_
  refine s_seq ?_
  refine s_region ?_
  refine o_q (q_as (v_raw rfl)) rfl rfl rfl ?_
  refine o_nil ?_
  refine s_seq ?_
  refine s_block ?_
  refine s_seq ?_
  refine s_region ?_
  refine o_q (q_mv ((by first | exact v_raw rfl | exact v_sptr rfl))) rfl rfl rfl ?_
  refine o_q (q_nil rfl) rfl rfl rfl ?_
  refine o_q (q_fr fo87_6 rfl) rfl rfl rfl ?_
  refine o_q (q_ldm ag4 sz4 rfl (by repeat first | exact Mem.upd_self _ _ _ | assumption | refine Mem.upd_ne (by assumption) ?_) rfl (v_raw rfl)) rfl rfl rfl ?_
  refine o_q (q_as (v_raw rfl)) rfl rfl rfl ?_
  refine o_nil ?_
  refine s_cond rfl (fun h1 => ?_) (fun h1 => ?_)
  · have k1 := h1; try simp only [decide_eq_true_eq, decide_eq_false_iff_not, Bool.not_eq_true', Bool.not_eq_false', Bool.not_true, Bool.not_false, List.length_map, Decidable.not_not] at k1
    refine s_seq ?_
    refine s_region ?_
    refine o_q (q_as (v_raw rfl)) rfl rfl rfl ?_
    refine o_nil ?_
    refine s_ret ?_
    refine s_blk_ret ?_
    refine s_code_ret ?_
    refine s_end ?_
    have e : s.dirsync = (9, s) := by unfold DS.dirsync; rw [if_pos h1]
    exact ⟨by rw [e]; rfl, by rw [e]; exact RAft.of (h.le (Mem.le_refl M)) fun _ _ _ => rfl⟩
  · have k1 := h1; try simp only [decide_eq_true_eq, decide_eq_false_iff_not, Bool.not_eq_true', Bool.not_eq_false', Bool.not_true, Bool.not_false, List.length_map, Decidable.not_not] at k1
    refine s_seq ?_
    refine s_region ?_
    refine o_q (q_mv ((by first | exact v_raw rfl | exact v_sptr rfl))) rfl rfl rfl ?_
    refine o_callx ((snd76 M x s _ o1 o2 hd hp.fuse)) goes76 (ac ((by first | exact v_raw rfl | exact v_sptr rfl)) ac_nil) rfl ?_
    rintro r M1 ⟨rfl, rfl⟩
    refine o_q (q_not rfl) rfl rfl rfl ?_
    refine o_q (q_as (v_raw rfl)) rfl rfl rfl ?_
    refine o_nil ?_
    refine s_cond rfl (fun h2 => ?_) (fun h2 => ?_)
    · have k2 := h2; try simp only [decide_eq_true_eq, decide_eq_false_iff_not, Bool.not_eq_true', Bool.not_eq_false', Bool.not_true, Bool.not_false, List.length_map, Decidable.not_not] at k2
      refine s_seq ?_
      refine s_region ?_
      refine o_q (q_as (v_raw rfl)) rfl rfl rfl ?_
      refine o_nil ?_
      refine s_ret ?_
      refine s_blk_ret ?_
      refine s_code_ret ?_
      refine s_end ?_
      have hf0 : s.fuse = 0 := by simpa using k2
      have e : s.dirsync = (9, { s with down := true }) := by unfold DS.dirsync; rw [if_neg (by rw [h1]; exact Bool.false_ne_true)]; exact if_pos hf0
      exact ⟨by rw [e]; rfl, by rw [e]; exact h.actN hf0 (Mem.upd_self _ _ _) fun c hc _ => upd_other hc⟩
    · have k2 := h2; try simp only [decide_eq_true_eq, decide_eq_false_iff_not, Bool.not_eq_true', Bool.not_eq_false', Bool.not_true, Bool.not_false, List.length_map, Decidable.not_not] at k2
      have hf0 : ¬ s.fuse = 0 := k2
      refine s_skip ?_
      refine s_blk_normal ?_
      refine s_seq ?_
      refine s_region ?_
      refine o_q (q_mv ((by first | exact v_raw rfl | exact v_sptr rfl))) rfl rfl rfl ?_
      refine o_q (q_mv ((by first | exact v_raw rfl | exact v_sptr rfl))) rfl rfl rfl ?_
      refine o_q (q_nil rfl) rfl rfl rfl ?_
      refine o_q (q_fr fo87_2 rfl) rfl rfl rfl ?_
      refine o_q (q_ldm ag84 sz84 rfl (by repeat first | exact Mem.upd_self _ _ _ | assumption | refine Mem.upd_ne (by assumption) ?_) rfl (v_sl rfl)) rfl rfl rfl ?_
      refine o_q (q_nil rfl) rfl rfl rfl ?_
      refine o_q (q_fr fo87_3 rfl) rfl rfl rfl ?_
      refine o_store rfl (by repeat first | exact Mem.upd_self _ _ _ | assumption | refine Mem.upd_ne (by assumption) ?_) (by first | exact e_raw rfl | exact e_agg rfl | exact e_sl rfl | rfl) rfl sz84 rfl (Nat.le_of_ble_eq_true rfl) rfl rfl ?_
      refine o_nil ?_
      refine s_seq ?_
      refine s_region ?_
      refine o_q (q_mv ((by first | exact v_raw rfl | exact v_sptr rfl))) rfl rfl rfl ?_
      refine o_q (q_nil rfl) rfl rfl rfl ?_
      refine o_q (q_fr fo87_4 rfl) rfl rfl rfl ?_
      refine o_store_nil rfl (Mem.upd_self _ _ _) sz85 (Nat.le_of_ble_eq_true rfl) ?_
      refine o_nil ?_
      refine s_seq ?_
      refine s_region ?_
      refine o_q (q_as (v_raw rfl)) rfl rfl rfl ?_
      refine o_nil ?_
      refine s_ret ?_
      refine s_end ?_
      have e : s.dirsync = (0, { s with fuse := tick s.fuse, lst := s.dir, since := [] }) := by unfold DS.dirsync; rw [if_neg (by rw [h1]; exact Bool.false_ne_true)]; exact if_neg hf0
      exact ⟨by rw [e]; rfl, by rw [e]; exact RAft.of (h.cells (s' := { s with fuse := tick s.fuse, lst := s.dir, since := [] }) rfl ((Mem.upd_self _ _ _).trans (congrArg (fun l => some (AObj.cells l)) (by show [int s.room, .raw _, .sl (s.dir.map encN) _, .sl (s.dir.map encN) _, .sl [] true, int (if s.fuse = 0 then 0 else tick s.fuse), bool (if s.fuse = 0 then true else s.down)] = _; rw [if_neg hf0, if_neg hf0]; rfl))) (fun c hc hn => by repeat first | rfl | refine (upd_other (by assumption)).trans ?_)) (fun c hc hn => by repeat first | rfl | refine (upd_other (by assumption)).trans ?_)⟩

def tk55n : Nat → Nat → Option Nat
  | 10, 12 => some 0
  | _, _ => none
def pl55n : Nat → List PStep
  | 6 => [.q 0, .q 2, .q 3, .q 5, .q 6, .q 7, .q 8, .s 1 [8, 7, 6, 5, 3, 2], .q 4, .q 9, .q 10]
  | 10 => [.q 0, .q 1, .q 2, .q 3, .q 4, .q 5, .q 6, .q 7, .q 8, .q 9, .q 10, .q 11, .q 13, .q 14, .q 15, .s 12 [15, 14, 13, 10, 9, 8, 7, 6, 5, 4, 3, 2, 1, 0], .q 16, .q 17, .q 18, .s 19 [17]]
  | _ => []
theorem cb55n : Try.f55.body.map (codeB Try.prog Try.f55.ntmps tk55n pl55n) = some true := by kernel_rfl
set_option maxHeartbeats 4000000 in
set_option maxRecDepth 20000 in
theorem snd55n (M : Mem) (x n : Nat) (s : DS) (vf : Value) (L : List Fs) (O : Nat → Prop) (h : RdIs M x s vf L O) (hp : POk n s) (hn : n < BIG) (a tx : ByteArray) (htx : tx.size ≤ 2 ^ 62) (hg : gets s.dir a = none) : SoundCall Try.prog 55 [ptr x, str a, str tx] M fun r M' => r = int (s.append a tx).1 ∧ RAft M M' x (s.append a tx).2 O := by
  have hbig : BIG = 2 ^ 40 := rfl
  obtain ⟨o1, o2, hd⟩ := h.hd
  have hgd := (okC_gd hp.oc).2
  have hdl := hgd.len
  obtain ⟨base, cp, rfl⟩ := h.hw.len
  have hln := h.ln
  have hnf := hp.nf
  refine SoundCall.go tk55n pl55n mixed Try.func55 cb55n rfl (Nat.le_of_ble_eq_true rfl) ?_
  refine s_seq ?_
  refine s_region ?_
  refine o_q (q_as (v_raw rfl)) rfl rfl rfl ?_
  refine o_nil ?_
  refine s_seq ?_
  refine s_region ?_
  refine o_q (q_mv ((by first | exact v_raw rfl | exact v_sptr rfl))) rfl rfl rfl ?_
  refine o_q (q_nil rfl) rfl rfl rfl ?_
  refine o_q (q_fr fo87_2 rfl) rfl rfl rfl ?_
  refine o_q (q_ldm ag84 sz84 rfl (by repeat first | exact Mem.upd_self _ _ _ | assumption | refine Mem.upd_ne (by assumption) ?_) rfl (v_sl rfl)) rfl rfl rfl ?_
  refine o_q (q_mv (v_raw rfl)) rfl rfl rfl ?_
  refine o_call ((find_no (by omega) hg)) goes49 (ac (v_sl rfl) (ac (v_raw rfl) ac_nil)) rfl ?_
  refine o_q (q_as (v_raw rfl)) rfl rfl rfl ?_
  refine o_nil ?_
  refine s_seq ?_
  refine s_block ?_
  refine s_seq ?_
  refine s_region ?_
  refine o_q (q_mv ((by first | exact v_raw rfl | exact v_sptr rfl))) rfl rfl rfl ?_
  refine o_q (q_nil rfl) rfl rfl rfl ?_
  refine o_q (q_fr fo87_6 rfl) rfl rfl rfl ?_
  refine o_q (q_ldm ag4 sz4 rfl (by repeat first | exact Mem.upd_self _ _ _ | assumption | refine Mem.upd_ne (by assumption) ?_) rfl (v_raw rfl)) rfl rfl rfl ?_
  refine o_q (q_as (v_raw rfl)) rfl rfl rfl ?_
  refine o_nil ?_
  refine s_cond rfl (fun h1 => ?_) (fun h1 => ?_)
  · have k1 := h1; try simp only [decide_eq_true_eq, decide_eq_false_iff_not, Bool.not_eq_true', Bool.not_eq_false', Bool.not_true, Bool.not_false, List.length_map, Decidable.not_not] at k1
    refine s_seq ?_
    refine s_region ?_
    refine o_q (q_as (v_raw rfl)) rfl rfl rfl ?_
    refine o_nil ?_
    refine s_ret ?_
    refine s_blk_ret ?_
    refine s_code_ret ?_
    refine s_end ?_
    have e : s.append a tx = (9, s) := by show s.onf a _ = _; unfold DS.onf; rw [if_pos h1]
    exact ⟨by rw [e]; rfl, by rw [e]; exact RAft.of (h.le (Mem.le_refl M)) fun _ _ _ => rfl⟩
  · have k1 := h1; try simp only [decide_eq_true_eq, decide_eq_false_iff_not, Bool.not_eq_true', Bool.not_eq_false', Bool.not_true, Bool.not_false, List.length_map, Decidable.not_not] at k1
    refine s_seq ?_
    refine s_region ?_
    refine o_q (q_mv (v_raw rfl)) rfl rfl rfl ?_
    refine o_q (q_lss rfl rfl) rfl rfl rfl ?_
    refine o_q (q_as (v_raw rfl)) rfl rfl rfl ?_
    refine o_nil ?_
    refine s_then rfl rfl ?_
    refine s_seq ?_
    refine s_region ?_
    refine o_q (q_as (v_raw rfl)) rfl rfl rfl ?_
    refine o_nil ?_
    refine s_ret ?_
    refine s_blk_ret ?_
    refine s_code_ret ?_
    refine s_end ?_
    have e : s.append a tx = (7, s) := by show s.onf a _ = _; unfold DS.onf; rw [if_neg (by rw [h1]; exact Bool.false_ne_true), hg]
    exact ⟨by rw [e]; rfl, by rw [e]; exact RAft.of (h.le (Mem.le_refl M)) fun _ _ _ => rfl⟩

def tk55s : Nat → Nat → Option Nat := fun _ _ => none
def pl55s : Nat → List PStep
  | 6 => [.q 0, .q 2, .q 3, .q 5, .q 6, .q 7, .q 8, .s 1 [8, 7, 6, 5, 3, 2], .q 4, .q 9, .q 10]
  | 10 => [.q 0, .q 1, .q 2, .q 3, .q 4, .q 5, .q 6, .q 7, .q 8, .q 9, .q 10, .q 11, .q 13, .q 14, .q 15, .s 12 [0, 1, 2, 3, 4, 5, 6, 7, 8, 9, 10, 11, 13, 14, 15], .s 16 [0, 1, 2, 3, 4, 5, 6, 7, 8, 9, 10, 11, 13, 14, 15], .q 17, .q 18, .s 19 [0, 1, 2, 3, 4, 5, 6, 7, 8, 9, 10, 11, 13, 14, 15, 17, 18]]
  | _ => []
theorem cb55s : Try.f55.body.map (codeB Try.prog Try.f55.ntmps tk55s pl55s) = some true := by kernel_rfl
set_option maxHeartbeats 4000000 in
set_option maxRecDepth 20000 in
theorem snd55s (M : Mem) (x n : Nat) (s : DS) (vf : Value) (L : List Fs) (O : Nat → Prop) (h : RdIs M x s vf L O) (hp : POk n s) (hn : n < BIG) (a tx : ByteArray) (htx : tx.size ≤ 2 ^ 62) (i : Nat) (hg : gets s.dir a = some i) : SoundCall Try.prog 55 [ptr x, str a, str tx] M fun r M' => r = int (s.append a tx).1 ∧ RAft M M' x (s.append a tx).2 O := by
  have hbig : BIG = 2 ^ 40 := rfl
  obtain ⟨o1, o2, hd⟩ := h.hd
  have hgd := (okC_gd hp.oc).2
  have hdl := hgd.len
  have hif := dir_lt hp hg
  obtain ⟨hil, hfl, hfw, hfn⟩ := h.at hif
  obtain ⟨hok, hnl⟩ := hp.at hif
  obtain ⟨b, k, R, rfl, hR, hb⟩ := h.hw.get (by omega)
  rw [← hfn] at hfw
  have hln := h.ln
  have hnf := hp.nf
  have hns := hp.ns
  have hbb : bOf (.slice (some ⟨b, 0, none⟩) L.length (L.length + k)) b := ⟨_, _, rfl, by omega⟩
  have hbx := (h.ob b hbb).2
  have hxb := hbx.symm
  have hLi : L[i]? = some L[i] := List.getElem?_eq_getElem hil
  have hub : s.used ≤ 200 * BIG := by
    have := sum_bd (g := fun p => (s.now p.2).length) (m := BIG) hdl (fun p hq => hp.now_le (hgd.nm p hq).2.2) s.dir.length
    rw [List.take_length] at this; exact this
  have hfll : (Go.Am.fl encF L ++ R).length = (L.length + k) * 2 := by rw [List.length_append, fl_len uwF.len, hR]; omega
  refine SoundCall.go tk55s pl55s mixed Try.func55 cb55s rfl (Nat.le_of_ble_eq_true rfl) ?_
  refine s_seq ?_
  refine s_region ?_
  refine o_q (q_as (v_raw rfl)) rfl rfl rfl ?_
  refine o_nil ?_
  refine s_seq ?_
  refine s_region ?_
  refine o_q (q_mv ((by first | exact v_raw rfl | exact v_sptr rfl))) rfl rfl rfl ?_
  refine o_q (q_nil rfl) rfl rfl rfl ?_
  refine o_q (q_fr fo87_2 rfl) rfl rfl rfl ?_
  refine o_q (q_ldm ag84 sz84 rfl (by repeat first | exact Mem.upd_self _ _ _ | assumption | refine Mem.upd_ne (by assumption) ?_) rfl (v_sl rfl)) rfl rfl rfl ?_
  refine o_q (q_mv (v_raw rfl)) rfl rfl rfl ?_
  refine o_call ((find_at (by omega) hg)) goes49 (ac (v_sl rfl) (ac (v_raw rfl) ac_nil)) rfl ?_
  refine o_q (q_as (v_raw rfl)) rfl rfl rfl ?_
  refine o_nil ?_
  refine s_seq ?_
  refine s_block ?_
  refine s_seq ?_
  refine s_region ?_
  refine o_q (q_mv ((by first | exact v_raw rfl | exact v_sptr rfl))) rfl rfl rfl ?_
  refine o_q (q_nil rfl) rfl rfl rfl ?_
  refine o_q (q_fr fo87_6 rfl) rfl rfl rfl ?_
  refine o_q (q_ldm ag4 sz4 rfl (by repeat first | exact Mem.upd_self _ _ _ | assumption | refine Mem.upd_ne (by assumption) ?_) rfl (v_raw rfl)) rfl rfl rfl ?_
  refine o_q (q_as (v_raw rfl)) rfl rfl rfl ?_
  refine o_nil ?_
  refine s_cond rfl (fun h1 => ?_) (fun h1 => ?_)
  · have k1 := h1; try simp only [decide_eq_true_eq, decide_eq_false_iff_not, Bool.not_eq_true', Bool.not_eq_false', Bool.not_true, Bool.not_false, List.length_map, Decidable.not_not] at k1
    refine s_seq ?_
    refine s_region ?_
    refine o_q (q_as (v_raw rfl)) rfl rfl rfl ?_
    refine o_nil ?_
    refine s_ret ?_
    refine s_blk_ret ?_
    refine s_code_ret ?_
    refine s_end ?_
    have e : s.append a tx = (9, s) := by show s.onf a _ = _; unfold DS.onf; rw [if_pos h1]
    exact ⟨by rw [e]; rfl, by rw [e]; exact RAft.of (h.le (Mem.le_refl M)) fun _ _ _ => rfl⟩
  · have k1 := h1; try simp only [decide_eq_true_eq, decide_eq_false_iff_not, Bool.not_eq_true', Bool.not_eq_false', Bool.not_true, Bool.not_false, List.length_map, Decidable.not_not] at k1
    refine s_seq ?_
    refine s_region ?_
    refine o_q (q_mv (v_raw rfl)) rfl rfl rfl ?_
    refine o_q (q_lss rfl rfl) rfl rfl rfl ?_
    refine o_q (q_as (v_raw rfl)) rfl rfl rfl ?_
    refine o_nil ?_
    refine s_else rfl (decide_eq_false (by omega)) ?_
    refine s_seq ?_
    refine s_draw rfl ?_
    refine d_q rfl (q_mv ((by first | exact v_raw rfl | exact v_sptr rfl))) rfl rfl rfl ?_
    refine d_q rfl (q_mv (v_raw rfl)) rfl rfl rfl ?_
    refine d_q rfl (q_lens rfl und9 rfl) rfl rfl rfl ?_
    refine d_q rfl (q_mv ((by first | exact v_raw rfl | exact v_sptr rfl))) rfl rfl rfl ?_
    refine d_q rfl (q_nil rfl) rfl rfl rfl ?_
    refine d_q rfl (q_fr fo87_0 rfl) rfl rfl rfl ?_
    refine d_q rfl (q_ldm ag3 sz3 rfl (by repeat first | exact Mem.upd_self _ _ _ | assumption | refine Mem.upd_ne (by assumption) ?_) rfl (v_raw rfl)) rfl rfl rfl ?_
    refine d_s rfl ?_
    refine o_call ((snd62 M x n s _ L O h hp hn)) goes62 (ac ((by first | exact v_raw rfl | exact v_sptr rfl)) ac_nil) rfl ?_
    refine o_nil ⟨(by simp [Mem.upd, *]), ?_⟩
    refine d_q rfl (q_add rfl rfl (wrap64 (by omega) (by omega))) rfl rfl rfl ?_
    refine d_q rfl (q_gtr rfl rfl) rfl rfl rfl ?_
    refine d_q rfl (q_as (v_raw rfl)) rfl rfl rfl ?_
    refine d_nil ?_
    refine s_cond rfl (fun h2 => ?_) (fun h2 => ?_)
    · have k2 := h2; try simp only [decide_eq_true_eq, decide_eq_false_iff_not, Bool.not_eq_true', Bool.not_eq_false', Bool.not_true, Bool.not_false, List.length_map, Decidable.not_not] at k2
      refine s_seq ?_
      refine s_region ?_
      refine o_q (q_as (v_raw rfl)) rfl rfl rfl ?_
      refine o_nil ?_
      refine s_ret ?_
      refine s_blk_ret ?_
      refine s_code_ret ?_
      refine s_end ?_
      have e : s.append a tx = (8, s) := by show s.onf a _ = _; unfold DS.onf; rw [if_neg (by rw [h1]; exact Bool.false_ne_true), hg]; exact if_pos (by omega)
      exact ⟨by rw [e]; rfl, by rw [e]; exact RAft.of (h.le (Mem.le_refl M)) fun _ _ _ => rfl⟩
    · have k2 := h2; try simp only [decide_eq_true_eq, decide_eq_false_iff_not, Bool.not_eq_true', Bool.not_eq_false', Bool.not_true, Bool.not_false, List.length_map, Decidable.not_not] at k2
      refine s_seq ?_
      refine s_region ?_
      refine o_q (q_mv ((by first | exact v_raw rfl | exact v_sptr rfl))) rfl rfl rfl ?_
      refine o_callx ((snd76 M x s _ o1 o2 hd hp.fuse)) goes76 (ac ((by first | exact v_raw rfl | exact v_sptr rfl)) ac_nil) rfl ?_
      rintro r M1 ⟨rfl, rfl⟩
      have hb1 : (M.upd x (.cells (rdT s (.slice (some ⟨b, 0, none⟩) L.length (L.length + k)) o1 o2))) b = some (.cells (Go.Am.fl encF L ++ R)) := (upd_other hbx).trans hb
      have hon : ∀ f, s.onf a f = f i := fun f => by unfold DS.onf; rw [if_neg (by rw [h1]; exact Bool.false_ne_true), hg]
      refine o_q (q_not rfl) rfl rfl rfl ?_
      refine o_q (q_as (v_raw rfl)) rfl rfl rfl ?_
      refine o_nil ?_
      refine s_cond rfl (fun h3 => ?_) (fun h3 => ?_)
      · have k3 := h3; try simp only [decide_eq_true_eq, decide_eq_false_iff_not, Bool.not_eq_true', Bool.not_eq_false', Bool.not_true, Bool.not_false, List.length_map, Decidable.not_not] at k3
        refine s_seq ?_
        refine s_region ?_
        refine o_q (q_as (v_raw rfl)) rfl rfl rfl ?_
        refine o_nil ?_
        refine s_ret ?_
        refine s_blk_ret ?_
        refine s_code_ret ?_
        refine s_end ?_
        have hf0 : s.fuse = 0 := by simpa using k3
        have e : s.append a tx = (9, { s with down := true }) := by show s.onf a _ = _; rw [hon, if_neg (by omega)]; exact if_pos hf0
        exact ⟨by rw [e]; rfl, by rw [e]; exact h.actN hf0 (Mem.upd_self _ _ _) fun c hc _ => upd_other hc⟩
      · have k3 := h3; try simp only [decide_eq_true_eq, decide_eq_false_iff_not, Bool.not_eq_true', Bool.not_eq_false', Bool.not_true, Bool.not_false, List.length_map, Decidable.not_not] at k3
        have hf0 : ¬ s.fuse = 0 := k3
        have hY := h.actY (M' := M.upd x (.cells (rdT s _ o1 o2))) hf0 (Mem.upd_self _ _ _) (fun c hc _ => upd_other hc)
        have hfwY : Ws encU 2 (M.upd x (.cells (rdT s (.slice (some ⟨b, 0, none⟩) L.length (L.length + k)) o1 o2))) (.slice L[i].base (s.files.getD i fl0).acts.length L[i].c) (s.files.getD i fl0).acts := by
          have h9 := (hY.fl i _ _ (getD_at hif) hLi).2
          have h8 : L[i].v = .slice L[i].base (s.files.getD i fl0).acts.length L[i].c := by show Value.slice _ L[i].n _ = _; rw [hfn]
          rw [h8] at h9
          exact h9
        refine s_skip ?_
        refine s_blk_normal ?_
        refine s_seq ?_
        refine s_draw rfl ?_
        refine d_q rfl (q_mv ((by first | exact v_raw rfl | exact v_sptr rfl))) rfl rfl rfl ?_
        refine d_q rfl (q_nil rfl) rfl rfl rfl ?_
        refine d_q rfl (q_fr fo87_1 rfl) rfl rfl rfl ?_
        refine d_q rfl (q_ldm ag83 sz83 rfl (by repeat first | exact Mem.upd_self _ _ _ | assumption | refine Mem.upd_ne (by assumption) ?_) rfl ((by first | exact v_raw rfl | exact v_sl rfl))) rfl rfl rfl ?_
        refine d_q rfl (q_mv (v_raw rfl)) rfl rfl rfl ?_
        refine d_q rfl (q_mv ((by first | exact v_raw rfl | exact v_sptr rfl))) rfl rfl rfl ?_
        refine d_q rfl (q_nil rfl) rfl rfl rfl ?_
        refine d_q rfl (q_fr fo87_1 rfl) rfl rfl rfl ?_
        refine d_q rfl (q_ldm ag83 sz83 rfl (by repeat first | exact Mem.upd_self _ _ _ | assumption | refine Mem.upd_ne (by assumption) ?_) rfl ((by first | exact v_raw rfl | exact v_sl rfl))) rfl rfl rfl ?_
        refine d_q rfl (q_mv (v_raw rfl)) rfl rfl rfl ?_
        refine d_q rfl (q_idxr und83 sz95 rfl rfl (by omega) (by omega)) rfl rfl rfl ?_
        refine d_q rfl (q_fr fo95_1 rfl) rfl rfl rfl ?_
        refine d_q rfl (q_mv (v_raw rfl)) rfl rfl rfl ?_
        refine d_q rfl (q_b (cs := [_, _]) bz111 bp111 (bf fo111_0 (e_raw rfl) rfl rfl (Nat.le_of_ble_eq_true rfl) rfl (bf fo111_1 (e_raw rfl) rfl rfl (Nat.le_of_ble_eq_true rfl) rfl bf_nil))) rfl rfl rfl ?_
        refine d_q rfl (q_bs slt93 (pc (v_agg rfl) pn) rfl (Els.cons rfl rfl Els.nil) (by decide)) rfl rfl rfl ?_
        refine d_s rfl ?_
        refine o_q (q_ldm ag93 sz93 rfl hb1 (piece_f1 uwF.len (l := L) (j := i) (q := 1) hil (by decide) (by show 0 + ((i : Int)).toNat * 2 + 1 = _; omega) rfl) (v_raw rfl)) rfl rfl rfl ?_
        refine o_nil ⟨(by simp [Mem.upd, *]), ?_⟩
        refine d_s rfl ?_
        refine o_appx slt93 rfl rfl zc111 (fun z hz => by simp only [List.mem_cons, List.not_mem_nil, or_false] at hz; rcases hz with rfl | rfl <;> rfl) (by decide) rfl uwU rfl (show Ws encU 2 _ (.slice L[i].base L[i].n L[i].c) (s.files.getD i fl0).acts from by rw [hfn]; exact hfwY) (m := [(A.app tx)]) (src_sl rfl) (by simp) (by rw [List.length_singleton]; omega) (fun b2 k2 R2 hR2 hbb2 => ?_)
        have x2 : x ≠ b2 := hbb2.elim (fun h3 e => hY.ok x hY.od (by rw [← e] at h3; exact h3)) fun h3 e => (h.oa i _ hLi b2 h3).2.1 e.symm
        have x2b := x2.symm
        have n2 : b ≠ b2 := hbb2.elim (fun h3 e => hY.hw.ok hbb (by rw [← e] at h3; exact h3)) fun h3 e => (h.oa i _ hLi b2 h3).2.2 (by rw [← e]; exact hbb)
        have n2b := n2.symm
        have hb2 : bOf (Fs.v ⟨L[i].l, some ⟨b2, 0, none⟩, (s.files.getD i fl0).acts.length + 1, (s.files.getD i fl0).acts.length + 1 + k2⟩) b2 := ⟨_, (s.files.getD i fl0).acts.length + 1 + k2, rfl, by omega⟩
        have hbv : ∀ c, bOf (Fs.v ⟨L[i].l, some ⟨b2, 0, none⟩, (s.files.getD i fl0).acts.length + 1, (s.files.getD i fl0).acts.length + 1 + k2⟩) c → c = b2 := fun c ⟨q, w, e, _⟩ => by cases e; rfl
        refine o_nil ⟨(by simp [Mem.upd, *]), ?_⟩
        refine d_q rfl (q_idxr und83 sz95 rfl rfl (by omega) (by omega)) rfl rfl rfl ?_
        refine d_q rfl (q_fr fo95_1 rfl) rfl rfl rfl ?_
        refine d_s rfl ?_
        refine o_store rfl (by repeat first | exact Mem.upd_self _ _ _ | assumption | refine Mem.upd_ne (by assumption) ?_) (e_raw rfl) rfl sz93 rfl (by rw [hfll]; show 0 + ((i : Nat) : Int).toNat * 2 + 1 + 1 ≤ _; omega) rfl rfl ?_
        refine o_nil ⟨(by simp [Mem.upd, *]), ?_⟩
        refine d_nil ?_
        refine s_seq ?_
        refine s_region ?_
        refine o_q (q_as (v_raw rfl)) rfl rfl rfl ?_
        refine o_nil ?_
        refine s_ret ?_
        refine s_end ?_
        have e : s.append a tx = (0, ({ s with fuse := tick s.fuse } : DS).did i (.app tx)) := by show s.onf a _ = _; rw [hon, if_neg (by omega)]; exact if_neg hf0
        exact ⟨by rw [e]; rfl, by rw [e]; exact RAft.pre h.od (fun c hc _ => upd_other hc) (by rw [Mem.upd_self]; exact fun h => by cases h) (hY.file hil (f' := ⟨L[i].l, some ⟨b2, 0, none⟩, (s.files.getD i fl0).acts.length + 1, (s.files.getD i fl0).acts.length + 1 + k2⟩) (F' := (s.files.getD i fl0).did (A.app tx)) rfl hR ((Mem.upd_self _ _ _).trans (congrArg (fun l => some (AObj.cells l)) (by rw [show 0 + ((i : Nat) : Int).toNat * 2 + 1 = i * 2 + 1 by omega]; exact fl_set1 L R hil _ _ _))) hfl (.inr ⟨b2, k2, R2, by have e9 : ((s.files.getD i fl0).acts ++ [(A.app tx)]).length = (s.files.getD i fl0).acts.length + 1 := List.length_append; show Value.slice _ _ _ = Value.slice _ ((s.files.getD i fl0).acts ++ [(A.app tx)]).length (((s.files.getD i fl0).acts ++ [(A.app tx)]).length + k2); rw [e9], hR2, (upd_other n2b).trans (Mem.upd_self _ _ _)⟩) (fun c hc => by rw [hbv c hc]; exact hbb2) (fun c h3 h4 _ => (upd_other h3).trans (upd_other fun e => h4 (by rw [e]; exact hb2))))⟩
theorem snd55 (M : Mem) (x n : Nat) (s : DS) (vf : Value) (L : List Fs) (O : Nat → Prop) (h : RdIs M x s vf L O) (hp : POk n s) (hn : n < BIG) (a tx : ByteArray) (htx : tx.size ≤ 2 ^ 62) : SoundCall Try.prog 55 [ptr x, str a, str tx] M (fun r M' => r = int (s.append a tx).1 ∧ RAft M M' x (s.append a tx).2 O) := by
  cases hg : gets s.dir a with
  | none => exact snd55n M x n s vf L O h hp hn a tx htx hg
  | some i => exact snd55s M x n s vf L O h hp hn a tx htx i hg


def tk56n : Nat → Nat → Option Nat := fun _ _ => none
def pl56n : Nat → List PStep
  | 8 => [.q 0, .q 1, .q 2, .q 3, .q 4, .q 5, .q 6, .s 7 [4, 3, 2, 1, 0], .q 8, .q 9, .s 10 []]
  | _ => []
theorem cb56n : Try.f56.body.map (codeB Try.prog Try.f56.ntmps tk56n pl56n) = some true := by kernel_rfl
set_option maxHeartbeats 4000000 in
set_option maxRecDepth 20000 in
theorem snd56n (M : Mem) (x n : Nat) (s : DS) (vf : Value) (L : List Fs) (O : Nat → Prop) (h : RdIs M x s vf L O) (hp : POk n s) (hn : n < BIG) (a : ByteArray) (hg : gets s.dir a = none) : SoundCall Try.prog 56 [ptr x, str a] M fun r M' => r = int (s.sync a).1 ∧ RAft M M' x (s.sync a).2 O := by
  have hbig : BIG = 2 ^ 40 := rfl
  obtain ⟨o1, o2, hd⟩ := h.hd
  have hgd := (okC_gd hp.oc).2
  have hdl := hgd.len
  obtain ⟨base, cp, rfl⟩ := h.hw.len
  have hln := h.ln
  have hnf := hp.nf
  refine SoundCall.go tk56n pl56n mixed Try.func56 cb56n rfl (Nat.le_of_ble_eq_true rfl) ?_
  refine s_seq ?_
  refine s_region ?_
  refine o_q (q_as (v_raw rfl)) rfl rfl rfl ?_
  refine o_nil ?_
  refine s_seq ?_
  refine s_region ?_
  refine o_q (q_mv ((by first | exact v_raw rfl | exact v_sptr rfl))) rfl rfl rfl ?_
  refine o_q (q_nil rfl) rfl rfl rfl ?_
  refine o_q (q_fr fo87_2 rfl) rfl rfl rfl ?_
  refine o_q (q_ldm ag84 sz84 rfl (by repeat first | exact Mem.upd_self _ _ _ | assumption | refine Mem.upd_ne (by assumption) ?_) rfl (v_sl rfl)) rfl rfl rfl ?_
  refine o_q (q_mv (v_raw rfl)) rfl rfl rfl ?_
  refine o_call ((find_no (by omega) hg)) goes49 (ac (v_sl rfl) (ac (v_raw rfl) ac_nil)) rfl ?_
  refine o_q (q_as (v_raw rfl)) rfl rfl rfl ?_
  refine o_nil ?_
  refine s_seq ?_
  refine s_block ?_
  refine s_seq ?_
  refine s_region ?_
  refine o_q (q_mv ((by first | exact v_raw rfl | exact v_sptr rfl))) rfl rfl rfl ?_
  refine o_q (q_nil rfl) rfl rfl rfl ?_
  refine o_q (q_fr fo87_6 rfl) rfl rfl rfl ?_
  refine o_q (q_ldm ag4 sz4 rfl (by repeat first | exact Mem.upd_self _ _ _ | assumption | refine Mem.upd_ne (by assumption) ?_) rfl (v_raw rfl)) rfl rfl rfl ?_
  refine o_q (q_as (v_raw rfl)) rfl rfl rfl ?_
  refine o_nil ?_
  refine s_cond rfl (fun h1 => ?_) (fun h1 => ?_)
  · have k1 := h1; try simp only [decide_eq_true_eq, decide_eq_false_iff_not, Bool.not_eq_true', Bool.not_eq_false', Bool.not_true, Bool.not_false, List.length_map, Decidable.not_not] at k1
    refine s_seq ?_
    refine s_region ?_
    refine o_q (q_as (v_raw rfl)) rfl rfl rfl ?_
    refine o_nil ?_
    refine s_ret ?_
    refine s_blk_ret ?_
    refine s_code_ret ?_
    refine s_end ?_
    have e : s.sync a = (9, s) := by show s.onf a _ = _; unfold DS.onf; rw [if_pos h1]
    exact ⟨by rw [e]; rfl, by rw [e]; exact RAft.of (h.le (Mem.le_refl M)) fun _ _ _ => rfl⟩
  · have k1 := h1; try simp only [decide_eq_true_eq, decide_eq_false_iff_not, Bool.not_eq_true', Bool.not_eq_false', Bool.not_true, Bool.not_false, List.length_map, Decidable.not_not] at k1
    refine s_seq ?_
    refine s_region ?_
    refine o_q (q_mv (v_raw rfl)) rfl rfl rfl ?_
    refine o_q (q_lss rfl rfl) rfl rfl rfl ?_
    refine o_q (q_as (v_raw rfl)) rfl rfl rfl ?_
    refine o_nil ?_
    refine s_then rfl rfl ?_
    refine s_seq ?_
    refine s_region ?_
    refine o_q (q_as (v_raw rfl)) rfl rfl rfl ?_
    refine o_nil ?_
    refine s_ret ?_
    refine s_blk_ret ?_
    refine s_code_ret ?_
    refine s_end ?_
    have e : s.sync a = (7, s) := by show s.onf a _ = _; unfold DS.onf; rw [if_neg (by rw [h1]; exact Bool.false_ne_true), hg]
    exact ⟨by rw [e]; rfl, by rw [e]; exact RAft.of (h.le (Mem.le_refl M)) fun _ _ _ => rfl⟩

def tk56s : Nat → Nat → Option Nat := fun _ _ => none
def pl56s : Nat → List PStep
  | 8 => [.q 0, .q 1, .q 2, .q 3, .q 4, .q 5, .q 6, .s 7 [4, 3, 2, 1, 0], .q 8, .q 9, .s 10 []]
  | _ => []
theorem cb56s : Try.f56.body.map (codeB Try.prog Try.f56.ntmps tk56s pl56s) = some true := by kernel_rfl
set_option maxHeartbeats 4000000 in
set_option maxRecDepth 20000 in
theorem snd56s (M : Mem) (x n : Nat) (s : DS) (vf : Value) (L : List Fs) (O : Nat → Prop) (h : RdIs M x s vf L O) (hp : POk n s) (hn : n < BIG) (a : ByteArray) (i : Nat) (hg : gets s.dir a = some i) : SoundCall Try.prog 56 [ptr x, str a] M fun r M' => r = int (s.sync a).1 ∧ RAft M M' x (s.sync a).2 O := by
  have hbig : BIG = 2 ^ 40 := rfl
  obtain ⟨o1, o2, hd⟩ := h.hd
  have hgd := (okC_gd hp.oc).2
  have hdl := hgd.len
  have hif := dir_lt hp hg
  obtain ⟨hil, hfl, hfw, hfn⟩ := h.at hif
  obtain ⟨hok, hnl⟩ := hp.at hif
  obtain ⟨b, k, R, rfl, hR, hb⟩ := h.hw.get (by omega)
  rw [← hfn] at hfw
  have hln := h.ln
  have hnf := hp.nf
  have hns := hp.ns
  have hbb : bOf (.slice (some ⟨b, 0, none⟩) L.length (L.length + k)) b := ⟨_, _, rfl, by omega⟩
  have hbx := (h.ob b hbb).2
  have hxb := hbx.symm
  have hLi : L[i]? = some L[i] := List.getElem?_eq_getElem hil
  have hub : s.used ≤ 200 * BIG := by
    have := sum_bd (g := fun p => (s.now p.2).length) (m := BIG) hdl (fun p hq => hp.now_le (hgd.nm p hq).2.2) s.dir.length
    rw [List.take_length] at this; exact this
  have hfll : (Go.Am.fl encF L ++ R).length = (L.length + k) * 2 := by rw [List.length_append, fl_len uwF.len, hR]; omega
  refine SoundCall.go tk56s pl56s mixed Try.func56 cb56s rfl (Nat.le_of_ble_eq_true rfl) ?_
  refine s_seq ?_
  refine s_region ?_
  refine o_q (q_as (v_raw rfl)) rfl rfl rfl ?_
  refine o_nil ?_
  refine s_seq ?_
  refine s_region ?_
  refine o_q (q_mv ((by first | exact v_raw rfl | exact v_sptr rfl))) rfl rfl rfl ?_
  refine o_q (q_nil rfl) rfl rfl rfl ?_
  refine o_q (q_fr fo87_2 rfl) rfl rfl rfl ?_
  refine o_q (q_ldm ag84 sz84 rfl (by repeat first | exact Mem.upd_self _ _ _ | assumption | refine Mem.upd_ne (by assumption) ?_) rfl (v_sl rfl)) rfl rfl rfl ?_
  refine o_q (q_mv (v_raw rfl)) rfl rfl rfl ?_
  refine o_call ((find_at (by omega) hg)) goes49 (ac (v_sl rfl) (ac (v_raw rfl) ac_nil)) rfl ?_
  refine o_q (q_as (v_raw rfl)) rfl rfl rfl ?_
  refine o_nil ?_
  refine s_seq ?_
  refine s_block ?_
  refine s_seq ?_
  refine s_region ?_
  refine o_q (q_mv ((by first | exact v_raw rfl | exact v_sptr rfl))) rfl rfl rfl ?_
  refine o_q (q_nil rfl) rfl rfl rfl ?_
  refine o_q (q_fr fo87_6 rfl) rfl rfl rfl ?_
  refine o_q (q_ldm ag4 sz4 rfl (by repeat first | exact Mem.upd_self _ _ _ | assumption | refine Mem.upd_ne (by assumption) ?_) rfl (v_raw rfl)) rfl rfl rfl ?_
  refine o_q (q_as (v_raw rfl)) rfl rfl rfl ?_
  refine o_nil ?_
  refine s_cond rfl (fun h1 => ?_) (fun h1 => ?_)
  · have k1 := h1; try simp only [decide_eq_true_eq, decide_eq_false_iff_not, Bool.not_eq_true', Bool.not_eq_false', Bool.not_true, Bool.not_false, List.length_map, Decidable.not_not] at k1
    refine s_seq ?_
    refine s_region ?_
    refine o_q (q_as (v_raw rfl)) rfl rfl rfl ?_
    refine o_nil ?_
    refine s_ret ?_
    refine s_blk_ret ?_
    refine s_code_ret ?_
    refine s_end ?_
    have e : s.sync a = (9, s) := by show s.onf a _ = _; unfold DS.onf; rw [if_pos h1]
    exact ⟨by rw [e]; rfl, by rw [e]; exact RAft.of (h.le (Mem.le_refl M)) fun _ _ _ => rfl⟩
  · have k1 := h1; try simp only [decide_eq_true_eq, decide_eq_false_iff_not, Bool.not_eq_true', Bool.not_eq_false', Bool.not_true, Bool.not_false, List.length_map, Decidable.not_not] at k1
    refine s_seq ?_
    refine s_region ?_
    refine o_q (q_mv (v_raw rfl)) rfl rfl rfl ?_
    refine o_q (q_lss rfl rfl) rfl rfl rfl ?_
    refine o_q (q_as (v_raw rfl)) rfl rfl rfl ?_
    refine o_nil ?_
    refine s_else rfl (decide_eq_false (by omega)) ?_
    refine s_seq ?_
    refine s_region ?_
    refine o_q (q_mv ((by first | exact v_raw rfl | exact v_sptr rfl))) rfl rfl rfl ?_
    refine o_callx ((snd76 M x s _ o1 o2 hd hp.fuse)) goes76 (ac ((by first | exact v_raw rfl | exact v_sptr rfl)) ac_nil) rfl ?_
    rintro r M1 ⟨rfl, rfl⟩
    have hb1 : (M.upd x (.cells (rdT s (.slice (some ⟨b, 0, none⟩) L.length (L.length + k)) o1 o2))) b = some (.cells (Go.Am.fl encF L ++ R)) := (upd_other hbx).trans hb
    have hon : ∀ f, s.onf a f = f i := fun f => by unfold DS.onf; rw [if_neg (by rw [h1]; exact Bool.false_ne_true), hg]
    refine o_q (q_not rfl) rfl rfl rfl ?_
    refine o_q (q_as (v_raw rfl)) rfl rfl rfl ?_
    refine o_nil ?_
    refine s_cond rfl (fun h2 => ?_) (fun h2 => ?_)
    · have k2 := h2; try simp only [decide_eq_true_eq, decide_eq_false_iff_not, Bool.not_eq_true', Bool.not_eq_false', Bool.not_true, Bool.not_false, List.length_map, Decidable.not_not] at k2
      refine s_seq ?_
      refine s_region ?_
      refine o_q (q_as (v_raw rfl)) rfl rfl rfl ?_
      refine o_nil ?_
      refine s_ret ?_
      refine s_blk_ret ?_
      refine s_code_ret ?_
      refine s_end ?_
      have hf0 : s.fuse = 0 := by simpa using k2
      have e : s.sync a = (9, { s with down := true }) := by show s.onf a _ = _; rw [hon]; exact if_pos hf0
      exact ⟨by rw [e]; rfl, by rw [e]; exact h.actN hf0 (Mem.upd_self _ _ _) fun c hc _ => upd_other hc⟩
    · have k2 := h2; try simp only [decide_eq_true_eq, decide_eq_false_iff_not, Bool.not_eq_true', Bool.not_eq_false', Bool.not_true, Bool.not_false, List.length_map, Decidable.not_not] at k2
      have hf0 : ¬ s.fuse = 0 := k2
      have hY := h.actY (M' := M.upd x (.cells (rdT s _ o1 o2))) hf0 (Mem.upd_self _ _ _) (fun c hc _ => upd_other hc)
      have hfwY : Ws encU 2 (M.upd x (.cells (rdT s (.slice (some ⟨b, 0, none⟩) L.length (L.length + k)) o1 o2))) (.slice L[i].base (s.files.getD i fl0).acts.length L[i].c) (s.files.getD i fl0).acts := by
        have h9 := (hY.fl i _ _ (getD_at hif) hLi).2
        have h8 : L[i].v = .slice L[i].base (s.files.getD i fl0).acts.length L[i].c := by show Value.slice _ L[i].n _ = _; rw [hfn]
        rw [h8] at h9
        exact h9
      refine s_skip ?_
      refine s_blk_normal ?_
      refine s_seq ?_
      refine s_draw rfl ?_
      refine d_q rfl (q_mv ((by first | exact v_raw rfl | exact v_sptr rfl))) rfl rfl rfl ?_
      refine d_q rfl (q_nil rfl) rfl rfl rfl ?_
      refine d_q rfl (q_fr fo87_1 rfl) rfl rfl rfl ?_
      refine d_q rfl (q_ldm ag83 sz83 rfl (by repeat first | exact Mem.upd_self _ _ _ | assumption | refine Mem.upd_ne (by assumption) ?_) rfl ((by first | exact v_raw rfl | exact v_sl rfl))) rfl rfl rfl ?_
      refine d_q rfl (q_mv (v_raw rfl)) rfl rfl rfl ?_
      refine d_q rfl (q_mv ((by first | exact v_raw rfl | exact v_sptr rfl))) rfl rfl rfl ?_
      refine d_q rfl (q_mv (v_raw rfl)) rfl rfl rfl ?_
      refine d_s rfl ?_
      refine o_call ((snd50 _ x n _ _ L O hY hp.tick hn i hif)) goes50 (ac ((by first | exact v_raw rfl | exact v_sptr rfl)) (ac (v_raw rfl) ac_nil)) rfl ?_
      refine o_nil ⟨(by simp [Mem.upd, *]), ?_⟩
      refine d_q rfl (q_b (cs := [_, .raw (.slice none 0 0)]) bz95 bp95 (bf fo95_0 (e_raw rfl) rfl rfl (Nat.le_of_ble_eq_true rfl) rfl bf_nil)) rfl rfl rfl ?_
      refine d_q rfl (q_idxr und83 sz95 rfl rfl (by omega) (by omega)) rfl rfl rfl ?_
      refine d_s rfl ?_
      refine o_store rfl (by repeat first | exact Mem.upd_self _ _ _ | assumption | refine Mem.upd_ne (by assumption) ?_) (e_agg rfl) rfl sz95 rfl (by rw [hfll]; show 0 + ((i : Nat) : Int).toNat * 2 + 2 ≤ _; omega) rfl rfl ?_
      refine o_nil ⟨(by simp [Mem.upd, *]), ?_⟩
      refine d_nil ?_
      refine s_seq ?_
      refine s_region ?_
      refine o_q (q_as (v_raw rfl)) rfl rfl rfl ?_
      refine o_nil ?_
      refine s_ret ?_
      refine s_end ?_
      have e : s.sync a = (0, ({ s with fuse := tick s.fuse } : DS).synced i) := by show s.onf a _ = _; rw [hon]; exact if_neg hf0
      have hnb : ∀ c, ¬ bOf (Fs.v ⟨⟨(s.now i).toArray⟩, none, 0, 0⟩) c := fun c ⟨q, w, e, _⟩ => by cases e
      exact ⟨by rw [e]; rfl, by rw [e]; exact RAft.pre h.od (fun c hc _ => upd_other hc) (by rw [Mem.upd_self]; exact fun h => by cases h) (hY.file hil (f' := ⟨⟨(s.now i).toArray⟩, none, 0, 0⟩) (F' := ⟨s.now i, s.now i, []⟩) rfl hR ((Mem.upd_self _ _ _).trans (congrArg (fun l => some (AObj.cells l)) (by rw [show 0 + ((i : Nat) : Int).toNat * 2 = i * 2 by omega]; exact fl_set uwF.len L R ⟨⟨(s.now i).toArray⟩, none, 0, 0⟩ hil))) rfl (.inl ⟨none, rfl, .inl rfl, rfl⟩) (fun c hc => absurd hc (hnb c)) (fun c h3 h4 _ => upd_other h3))⟩
theorem snd56 (M : Mem) (x n : Nat) (s : DS) (vf : Value) (L : List Fs) (O : Nat → Prop) (h : RdIs M x s vf L O) (hp : POk n s) (hn : n < BIG) (a : ByteArray) : SoundCall Try.prog 56 [ptr x, str a] M (fun r M' => r = int (s.sync a).1 ∧ RAft M M' x (s.sync a).2 O) := by
  cases hg : gets s.dir a with
  | none => exact snd56n M x n s vf L O h hp hn a hg
  | some i => exact snd56s M x n s vf L O h hp hn a i hg


def tk58n : Nat → Nat → Option Nat
  | 10, 12 => some 0
  | _, _ => none
def pl58n : Nat → List PStep
  | 10 => [.q 0, .q 1, .q 2, .q 3, .q 4, .q 5, .q 6, .q 7, .q 8, .q 9, .q 10, .q 11, .q 13, .q 14, .q 15, .s 12 [15, 14, 13, 10, 9, 8, 7, 6, 5, 4, 3, 2, 1, 0], .q 16, .q 17, .q 18, .s 19 [17]]
  | _ => []
theorem cb58n : Try.f58.body.map (codeB Try.prog Try.f58.ntmps tk58n pl58n) = some true := by kernel_rfl
set_option maxHeartbeats 4000000 in
set_option maxRecDepth 20000 in
theorem snd58n (M : Mem) (x n : Nat) (s : DS) (vf : Value) (L : List Fs) (O : Nat → Prop) (h : RdIs M x s vf L O) (hp : POk n s) (hn : n < BIG) (a : ByteArray) (z : Int) (hg : gets s.dir a = none) : SoundCall Try.prog 58 [ptr x, str a, int z] M fun r M' => r = int (s.trunc a z).1 ∧ RAft M M' x (s.trunc a z).2 O := by
  have hbig : BIG = 2 ^ 40 := rfl
  obtain ⟨o1, o2, hd⟩ := h.hd
  have hgd := (okC_gd hp.oc).2
  have hdl := hgd.len
  obtain ⟨base, cp, rfl⟩ := h.hw.len
  have hln := h.ln
  have hnf := hp.nf
  refine SoundCall.go tk58n pl58n mixed Try.func58 cb58n rfl (Nat.le_of_ble_eq_true rfl) ?_
  refine s_seq ?_
  refine s_region ?_
  refine o_q (q_as (v_raw rfl)) rfl rfl rfl ?_
  refine o_nil ?_
  refine s_seq ?_
  refine s_region ?_
  refine o_q (q_mv ((by first | exact v_raw rfl | exact v_sptr rfl))) rfl rfl rfl ?_
  refine o_q (q_nil rfl) rfl rfl rfl ?_
  refine o_q (q_fr fo87_2 rfl) rfl rfl rfl ?_
  refine o_q (q_ldm ag84 sz84 rfl (by repeat first | exact Mem.upd_self _ _ _ | assumption | refine Mem.upd_ne (by assumption) ?_) rfl (v_sl rfl)) rfl rfl rfl ?_
  refine o_q (q_mv (v_raw rfl)) rfl rfl rfl ?_
  refine o_call ((find_no (by omega) hg)) goes49 (ac (v_sl rfl) (ac (v_raw rfl) ac_nil)) rfl ?_
  refine o_q (q_as (v_raw rfl)) rfl rfl rfl ?_
  refine o_nil ?_
  refine s_seq ?_
  refine s_block ?_
  refine s_seq ?_
  refine s_region ?_
  refine o_q (q_mv ((by first | exact v_raw rfl | exact v_sptr rfl))) rfl rfl rfl ?_
  refine o_q (q_nil rfl) rfl rfl rfl ?_
  refine o_q (q_fr fo87_6 rfl) rfl rfl rfl ?_
  refine o_q (q_ldm ag4 sz4 rfl (by repeat first | exact Mem.upd_self _ _ _ | assumption | refine Mem.upd_ne (by assumption) ?_) rfl (v_raw rfl)) rfl rfl rfl ?_
  refine o_q (q_as (v_raw rfl)) rfl rfl rfl ?_
  refine o_nil ?_
  refine s_cond rfl (fun h1 => ?_) (fun h1 => ?_)
  · have k1 := h1; try simp only [decide_eq_true_eq, decide_eq_false_iff_not, Bool.not_eq_true', Bool.not_eq_false', Bool.not_true, Bool.not_false, List.length_map, Decidable.not_not] at k1
    refine s_seq ?_
    refine s_region ?_
    refine o_q (q_as (v_raw rfl)) rfl rfl rfl ?_
    refine o_nil ?_
    refine s_ret ?_
    refine s_blk_ret ?_
    refine s_code_ret ?_
    refine s_end ?_
    have e : s.trunc a z = (9, s) := by show s.onf a _ = _; unfold DS.onf; rw [if_pos h1]
    exact ⟨by rw [e]; rfl, by rw [e]; exact RAft.of (h.le (Mem.le_refl M)) fun _ _ _ => rfl⟩
  · have k1 := h1; try simp only [decide_eq_true_eq, decide_eq_false_iff_not, Bool.not_eq_true', Bool.not_eq_false', Bool.not_true, Bool.not_false, List.length_map, Decidable.not_not] at k1
    refine s_seq ?_
    refine s_region ?_
    refine o_q (q_mv (v_raw rfl)) rfl rfl rfl ?_
    refine o_q (q_lss rfl rfl) rfl rfl rfl ?_
    refine o_q (q_as (v_raw rfl)) rfl rfl rfl ?_
    refine o_nil ?_
    refine s_then rfl rfl ?_
    refine s_seq ?_
    refine s_region ?_
    refine o_q (q_as (v_raw rfl)) rfl rfl rfl ?_
    refine o_nil ?_
    refine s_ret ?_
    refine s_blk_ret ?_
    refine s_code_ret ?_
    refine s_end ?_
    have e : s.trunc a z = (7, s) := by show s.onf a _ = _; unfold DS.onf; rw [if_neg (by rw [h1]; exact Bool.false_ne_true), hg]
    exact ⟨by rw [e]; rfl, by rw [e]; exact RAft.of (h.le (Mem.le_refl M)) fun _ _ _ => rfl⟩

def tk58s : Nat → Nat → Option Nat := fun _ _ => none
def pl58s : Nat → List PStep
  | 10 => [.q 0, .q 1, .q 2, .q 3, .q 4, .q 5, .q 6, .q 7, .q 8, .q 9, .q 10, .q 11, .q 13, .q 14, .q 15, .s 12 [0, 1, 2, 3, 4, 5, 6, 7, 8, 9, 10, 11, 13, 14, 15], .s 16 [0, 1, 2, 3, 4, 5, 6, 7, 8, 9, 10, 11, 13, 14, 15], .q 17, .q 18, .s 19 [0, 1, 2, 3, 4, 5, 6, 7, 8, 9, 10, 11, 13, 14, 15, 17, 18]]
  | _ => []
theorem cb58s : Try.f58.body.map (codeB Try.prog Try.f58.ntmps tk58s pl58s) = some true := by kernel_rfl
set_option maxHeartbeats 4000000 in
set_option maxRecDepth 20000 in
theorem snd58s (M : Mem) (x n : Nat) (s : DS) (vf : Value) (L : List Fs) (O : Nat → Prop) (h : RdIs M x s vf L O) (hp : POk n s) (hn : n < BIG) (a : ByteArray) (z : Int) (i : Nat) (hg : gets s.dir a = some i) : SoundCall Try.prog 58 [ptr x, str a, int z] M fun r M' => r = int (s.trunc a z).1 ∧ RAft M M' x (s.trunc a z).2 O := by
  have hbig : BIG = 2 ^ 40 := rfl
  obtain ⟨o1, o2, hd⟩ := h.hd
  have hgd := (okC_gd hp.oc).2
  have hdl := hgd.len
  have hif := dir_lt hp hg
  obtain ⟨hil, hfl, hfw, hfn⟩ := h.at hif
  obtain ⟨hok, hnl⟩ := hp.at hif
  obtain ⟨b, k, R, rfl, hR, hb⟩ := h.hw.get (by omega)
  rw [← hfn] at hfw
  have hln := h.ln
  have hnf := hp.nf
  have hns := hp.ns
  have hbb : bOf (.slice (some ⟨b, 0, none⟩) L.length (L.length + k)) b := ⟨_, _, rfl, by omega⟩
  have hbx := (h.ob b hbb).2
  have hxb := hbx.symm
  have hLi : L[i]? = some L[i] := List.getElem?_eq_getElem hil
  have hub : s.used ≤ 200 * BIG := by
    have := sum_bd (g := fun p => (s.now p.2).length) (m := BIG) hdl (fun p hq => hp.now_le (hgd.nm p hq).2.2) s.dir.length
    rw [List.take_length] at this; exact this
  have hfll : (Go.Am.fl encF L ++ R).length = (L.length + k) * 2 := by rw [List.length_append, fl_len uwF.len, hR]; omega
  refine SoundCall.go tk58s pl58s mixed Try.func58 cb58s rfl (Nat.le_of_ble_eq_true rfl) ?_
  refine s_seq ?_
  refine s_region ?_
  refine o_q (q_as (v_raw rfl)) rfl rfl rfl ?_
  refine o_nil ?_
  refine s_seq ?_
  refine s_region ?_
  refine o_q (q_mv ((by first | exact v_raw rfl | exact v_sptr rfl))) rfl rfl rfl ?_
  refine o_q (q_nil rfl) rfl rfl rfl ?_
  refine o_q (q_fr fo87_2 rfl) rfl rfl rfl ?_
  refine o_q (q_ldm ag84 sz84 rfl (by repeat first | exact Mem.upd_self _ _ _ | assumption | refine Mem.upd_ne (by assumption) ?_) rfl (v_sl rfl)) rfl rfl rfl ?_
  refine o_q (q_mv (v_raw rfl)) rfl rfl rfl ?_
  refine o_call ((find_at (by omega) hg)) goes49 (ac (v_sl rfl) (ac (v_raw rfl) ac_nil)) rfl ?_
  refine o_q (q_as (v_raw rfl)) rfl rfl rfl ?_
  refine o_nil ?_
  refine s_seq ?_
  refine s_block ?_
  refine s_seq ?_
  refine s_region ?_
  refine o_q (q_mv ((by first | exact v_raw rfl | exact v_sptr rfl))) rfl rfl rfl ?_
  refine o_q (q_nil rfl) rfl rfl rfl ?_
  refine o_q (q_fr fo87_6 rfl) rfl rfl rfl ?_
  refine o_q (q_ldm ag4 sz4 rfl (by repeat first | exact Mem.upd_self _ _ _ | assumption | refine Mem.upd_ne (by assumption) ?_) rfl (v_raw rfl)) rfl rfl rfl ?_
  refine o_q (q_as (v_raw rfl)) rfl rfl rfl ?_
  refine o_nil ?_
  refine s_cond rfl (fun h1 => ?_) (fun h1 => ?_)
  · have k1 := h1; try simp only [decide_eq_true_eq, decide_eq_false_iff_not, Bool.not_eq_true', Bool.not_eq_false', Bool.not_true, Bool.not_false, List.length_map, Decidable.not_not] at k1
    refine s_seq ?_
    refine s_region ?_
    refine o_q (q_as (v_raw rfl)) rfl rfl rfl ?_
    refine o_nil ?_
    refine s_ret ?_
    refine s_blk_ret ?_
    refine s_code_ret ?_
    refine s_end ?_
    have e : s.trunc a z = (9, s) := by show s.onf a _ = _; unfold DS.onf; rw [if_pos h1]
    exact ⟨by rw [e]; rfl, by rw [e]; exact RAft.of (h.le (Mem.le_refl M)) fun _ _ _ => rfl⟩
  · have k1 := h1; try simp only [decide_eq_true_eq, decide_eq_false_iff_not, Bool.not_eq_true', Bool.not_eq_false', Bool.not_true, Bool.not_false, List.length_map, Decidable.not_not] at k1
    refine s_seq ?_
    refine s_region ?_
    refine o_q (q_mv (v_raw rfl)) rfl rfl rfl ?_
    refine o_q (q_lss rfl rfl) rfl rfl rfl ?_
    refine o_q (q_as (v_raw rfl)) rfl rfl rfl ?_
    refine o_nil ?_
    refine s_else rfl (decide_eq_false (by omega)) ?_
    refine s_seq ?_
    refine s_region ?_
    refine o_q (q_mv (v_raw rfl)) rfl rfl rfl ?_
    refine o_q (q_lss rfl rfl) rfl rfl rfl ?_
    refine o_q (q_mv (v_raw rfl)) rfl rfl rfl ?_
    refine o_cases (want := false) (j := 2) rfl rfl (fun h2 => ?_) (fun h2 => ?_)
    · have k2 := h2; try simp only [decide_eq_true_eq, decide_eq_false_iff_not, Bool.not_eq_true', Bool.not_eq_false', Bool.not_true, Bool.not_false, List.length_map, Decidable.not_not] at k2
      refine o_yes rfl rfl rfl h2 ?_
      refine o_q (q_mv (v_raw rfl)) rfl rfl rfl ?_
      refine o_yes rfl rfl rfl h2 ?_
      refine o_q (q_mv ((by first | exact v_raw rfl | exact v_sptr rfl))) rfl rfl rfl ?_
      refine o_yes rfl rfl rfl h2 ?_
      refine o_q (q_mv (v_raw rfl)) rfl rfl rfl ?_
      refine o_yes rfl rfl rfl h2 ?_
      refine o_call ((snd50 M x n s _ L O h hp hn i hif)) goes50 (ac ((by first | exact v_raw rfl | exact v_sptr rfl)) (ac (v_raw rfl) ac_nil)) rfl ?_
      refine o_yes rfl rfl rfl h2 ?_
      refine o_q (q_lens rfl und9 rfl) rfl rfl rfl ?_
      refine o_yes rfl rfl rfl h2 ?_
      refine o_q (q_gtr rfl rfl) rfl rfl rfl ?_
      refine o_q (q_pick_c (t := false) rfl h2 (v_raw rfl)) rfl rfl rfl ?_
      refine o_q (q_as (v_raw rfl)) rfl rfl rfl ?_
      refine o_nil ?_
      refine s_cond rfl (fun h3 => ?_) (fun h3 => ?_)
      · have k3 := h3; try simp only [decide_eq_true_eq, decide_eq_false_iff_not, Bool.not_eq_true', Bool.not_eq_false', Bool.not_true, Bool.not_false, List.length_map, Decidable.not_not] at k3
        refine s_seq ?_
        refine s_region ?_
        refine o_q (q_as (v_raw rfl)) rfl rfl rfl ?_
        refine o_nil ?_
        refine s_ret ?_
        refine s_blk_ret ?_
        refine s_code_ret ?_
        refine s_end ?_
        have hsz : ByteArray.size ⟨(s.now i).toArray⟩ = (s.now i).length := by simp [ByteArray.size]
        have e : s.trunc a z = (1, s) := by show s.onf a _ = _; unfold DS.onf; rw [if_neg (by rw [h1]; exact Bool.false_ne_true), hg]; exact if_pos (.inr (by omega))
        exact ⟨by rw [e]; rfl, by rw [e]; exact RAft.of (h.le (Mem.le_refl M)) fun _ _ _ => rfl⟩
      · have k3 := h3; try simp only [decide_eq_true_eq, decide_eq_false_iff_not, Bool.not_eq_true', Bool.not_eq_false', Bool.not_true, Bool.not_false, List.length_map, Decidable.not_not] at k3
        have hz0 : 0 ≤ z := by omega
        obtain ⟨m, rfl⟩ := Int.eq_ofNat_of_zero_le hz0
        have hsz : ByteArray.size ⟨(s.now i).toArray⟩ = (s.now i).length := by simp [ByteArray.size]
        refine s_seq ?_
        refine s_region ?_
        refine o_q (q_mv ((by first | exact v_raw rfl | exact v_sptr rfl))) rfl rfl rfl ?_
        refine o_callx ((snd76 M x s _ o1 o2 hd hp.fuse)) goes76 (ac ((by first | exact v_raw rfl | exact v_sptr rfl)) ac_nil) rfl ?_
        rintro r M1 ⟨rfl, rfl⟩
        have hb1 : (M.upd x (.cells (rdT s (.slice (some ⟨b, 0, none⟩) L.length (L.length + k)) o1 o2))) b = some (.cells (Go.Am.fl encF L ++ R)) := (upd_other hbx).trans hb
        have hon : ∀ f, s.onf a f = f i := fun f => by unfold DS.onf; rw [if_neg (by rw [h1]; exact Bool.false_ne_true), hg]
        refine o_q (q_not rfl) rfl rfl rfl ?_
        refine o_q (q_as (v_raw rfl)) rfl rfl rfl ?_
        refine o_nil ?_
        refine s_cond rfl (fun h4 => ?_) (fun h4 => ?_)
        · have k4 := h4; try simp only [decide_eq_true_eq, decide_eq_false_iff_not, Bool.not_eq_true', Bool.not_eq_false', Bool.not_true, Bool.not_false, List.length_map, Decidable.not_not] at k4
          refine s_seq ?_
          refine s_region ?_
          refine o_q (q_as (v_raw rfl)) rfl rfl rfl ?_
          refine o_nil ?_
          refine s_ret ?_
          refine s_blk_ret ?_
          refine s_code_ret ?_
          refine s_end ?_
          have hf0 : s.fuse = 0 := by simpa using k4
          have e : s.trunc a (m : Int) = (9, { s with down := true }) := by show s.onf a _ = _; rw [hon, if_neg (by omega)]; exact if_pos hf0
          exact ⟨by rw [e]; rfl, by rw [e]; exact h.actN hf0 (Mem.upd_self _ _ _) fun c hc _ => upd_other hc⟩
        · have k4 := h4; try simp only [decide_eq_true_eq, decide_eq_false_iff_not, Bool.not_eq_true', Bool.not_eq_false', Bool.not_true, Bool.not_false, List.length_map, Decidable.not_not] at k4
          have hf0 : ¬ s.fuse = 0 := k4
          have hY := h.actY (M' := M.upd x (.cells (rdT s _ o1 o2))) hf0 (Mem.upd_self _ _ _) (fun c hc _ => upd_other hc)
          have hfwY : Ws encU 2 (M.upd x (.cells (rdT s (.slice (some ⟨b, 0, none⟩) L.length (L.length + k)) o1 o2))) (.slice L[i].base (s.files.getD i fl0).acts.length L[i].c) (s.files.getD i fl0).acts := by
            have h9 := (hY.fl i _ _ (getD_at hif) hLi).2
            have h8 : L[i].v = .slice L[i].base (s.files.getD i fl0).acts.length L[i].c := by show Value.slice _ L[i].n _ = _; rw [hfn]
            rw [h8] at h9
            exact h9
          refine s_skip ?_
          refine s_blk_normal ?_
          refine s_seq ?_
          refine s_draw rfl ?_
          refine d_q rfl (q_mv ((by first | exact v_raw rfl | exact v_sptr rfl))) rfl rfl rfl ?_
          refine d_q rfl (q_nil rfl) rfl rfl rfl ?_
          refine d_q rfl (q_fr fo87_1 rfl) rfl rfl rfl ?_
          refine d_q rfl (q_ldm ag83 sz83 rfl (by repeat first | exact Mem.upd_self _ _ _ | assumption | refine Mem.upd_ne (by assumption) ?_) rfl ((by first | exact v_raw rfl | exact v_sl rfl))) rfl rfl rfl ?_
          refine d_q rfl (q_mv (v_raw rfl)) rfl rfl rfl ?_
          refine d_q rfl (q_mv ((by first | exact v_raw rfl | exact v_sptr rfl))) rfl rfl rfl ?_
          refine d_q rfl (q_nil rfl) rfl rfl rfl ?_
          refine d_q rfl (q_fr fo87_1 rfl) rfl rfl rfl ?_
          refine d_q rfl (q_ldm ag83 sz83 rfl (by repeat first | exact Mem.upd_self _ _ _ | assumption | refine Mem.upd_ne (by assumption) ?_) rfl ((by first | exact v_raw rfl | exact v_sl rfl))) rfl rfl rfl ?_
          refine d_q rfl (q_mv (v_raw rfl)) rfl rfl rfl ?_
          refine d_q rfl (q_idxr und83 sz95 rfl rfl (by omega) (by omega)) rfl rfl rfl ?_
          refine d_q rfl (q_fr fo95_1 rfl) rfl rfl rfl ?_
          refine d_q rfl (q_mv (v_raw rfl)) rfl rfl rfl ?_
          refine d_q rfl (q_b (cs := [_, _]) bz111 bp111 (bf fo111_0 (e_raw rfl) rfl rfl (Nat.le_of_ble_eq_true rfl) rfl (bf fo111_1 (e_raw rfl) rfl rfl (Nat.le_of_ble_eq_true rfl) rfl bf_nil))) rfl rfl rfl ?_
          refine d_q rfl (q_bs slt93 (pc (v_agg rfl) pn) rfl (Els.cons rfl rfl Els.nil) (by decide)) rfl rfl rfl ?_
          refine d_s rfl ?_
          refine o_q (q_ldm ag93 sz93 rfl hb1 (piece_f1 uwF.len (l := L) (j := i) (q := 1) hil (by decide) (by show 0 + ((i : Int)).toNat * 2 + 1 = _; omega) rfl) (v_raw rfl)) rfl rfl rfl ?_
          refine o_nil ⟨(by simp [Mem.upd, *]), ?_⟩
          refine d_s rfl ?_
          refine o_appx slt93 rfl rfl zc111 (fun z hz => by simp only [List.mem_cons, List.not_mem_nil, or_false] at hz; rcases hz with rfl | rfl <;> rfl) (by decide) rfl uwU rfl (show Ws encU 2 _ (.slice L[i].base L[i].n L[i].c) (s.files.getD i fl0).acts from by rw [hfn]; exact hfwY) (m := [(A.cut m)]) (src_sl rfl) (by simp) (by rw [List.length_singleton]; omega) (fun b2 k2 R2 hR2 hbb2 => ?_)
          have x2 : x ≠ b2 := hbb2.elim (fun h3 e => hY.ok x hY.od (by rw [← e] at h3; exact h3)) fun h3 e => (h.oa i _ hLi b2 h3).2.1 e.symm
          have x2b := x2.symm
          have n2 : b ≠ b2 := hbb2.elim (fun h3 e => hY.hw.ok hbb (by rw [← e] at h3; exact h3)) fun h3 e => (h.oa i _ hLi b2 h3).2.2 (by rw [← e]; exact hbb)
          have n2b := n2.symm
          have hb2 : bOf (Fs.v ⟨L[i].l, some ⟨b2, 0, none⟩, (s.files.getD i fl0).acts.length + 1, (s.files.getD i fl0).acts.length + 1 + k2⟩) b2 := ⟨_, (s.files.getD i fl0).acts.length + 1 + k2, rfl, by omega⟩
          have hbv : ∀ c, bOf (Fs.v ⟨L[i].l, some ⟨b2, 0, none⟩, (s.files.getD i fl0).acts.length + 1, (s.files.getD i fl0).acts.length + 1 + k2⟩) c → c = b2 := fun c ⟨q, w, e, _⟩ => by cases e; rfl
          refine o_nil ⟨(by simp [Mem.upd, *]), ?_⟩
          refine d_q rfl (q_idxr und83 sz95 rfl rfl (by omega) (by omega)) rfl rfl rfl ?_
          refine d_q rfl (q_fr fo95_1 rfl) rfl rfl rfl ?_
          refine d_s rfl ?_
          refine o_store rfl (by repeat first | exact Mem.upd_self _ _ _ | assumption | refine Mem.upd_ne (by assumption) ?_) (e_raw rfl) rfl sz93 rfl (by rw [hfll]; show 0 + ((i : Nat) : Int).toNat * 2 + 1 + 1 ≤ _; omega) rfl rfl ?_
          refine o_nil ⟨(by simp [Mem.upd, *]), ?_⟩
          refine d_nil ?_
          refine s_seq ?_
          refine s_region ?_
          refine o_q (q_as (v_raw rfl)) rfl rfl rfl ?_
          refine o_nil ?_
          refine s_ret ?_
          refine s_end ?_
          have e : s.trunc a (m : Int) = (0, ({ s with fuse := tick s.fuse } : DS).did i (.cut m)) := by show s.onf a _ = _; rw [hon, if_neg (by omega)]; exact if_neg hf0
          exact ⟨by rw [e]; rfl, by rw [e]; exact RAft.pre h.od (fun c hc _ => upd_other hc) (by rw [Mem.upd_self]; exact fun h => by cases h) (hY.file hil (f' := ⟨L[i].l, some ⟨b2, 0, none⟩, (s.files.getD i fl0).acts.length + 1, (s.files.getD i fl0).acts.length + 1 + k2⟩) (F' := (s.files.getD i fl0).did (A.cut m)) rfl hR ((Mem.upd_self _ _ _).trans (congrArg (fun l => some (AObj.cells l)) (by rw [show 0 + ((i : Nat) : Int).toNat * 2 + 1 = i * 2 + 1 by omega]; exact fl_set1 L R hil _ _ _))) hfl (.inr ⟨b2, k2, R2, by have e9 : ((s.files.getD i fl0).acts ++ [(A.cut m)]).length = (s.files.getD i fl0).acts.length + 1 := List.length_append; show Value.slice _ _ _ = Value.slice _ ((s.files.getD i fl0).acts ++ [(A.cut m)]).length (((s.files.getD i fl0).acts ++ [(A.cut m)]).length + k2); rw [e9], hR2, (upd_other n2b).trans (Mem.upd_self _ _ _)⟩) (fun c hc => by rw [hbv c hc]; exact hbb2) (fun c h3 h4 _ => (upd_other h3).trans (upd_other fun e => h4 (by rw [e]; exact hb2))))⟩
    · have k2 := h2; try simp only [decide_eq_true_eq, decide_eq_false_iff_not, Bool.not_eq_true', Bool.not_eq_false', Bool.not_true, Bool.not_false, List.length_map, Decidable.not_not] at k2
      refine o_no rfl rfl rfl rfl h2 ?_
      refine o_no rfl rfl rfl rfl h2 ?_
      refine o_no rfl rfl rfl rfl h2 ?_
      refine o_no rfl rfl rfl rfl h2 ?_
      refine o_no rfl rfl rfl rfl h2 ?_
      refine o_no rfl rfl rfl rfl h2 ?_
      refine o_q (q_pick_c (t := true) rfl h2 (v_raw rfl)) rfl rfl rfl ?_
      refine o_q (q_as (v_raw rfl)) rfl rfl rfl ?_
      refine o_nil ?_
      refine s_then rfl rfl ?_
      refine s_seq ?_
      refine s_region ?_
      refine o_q (q_as (v_raw rfl)) rfl rfl rfl ?_
      refine o_nil ?_
      refine s_ret ?_
      refine s_blk_ret ?_
      refine s_code_ret ?_
      refine s_end ?_
      have e : s.trunc a z = (1, s) := by show s.onf a _ = _; unfold DS.onf; rw [if_neg (by rw [h1]; exact Bool.false_ne_true), hg]; exact if_pos (.inl (by omega))
      exact ⟨by rw [e]; rfl, by rw [e]; exact RAft.of (h.le (Mem.le_refl M)) fun _ _ _ => rfl⟩
theorem snd58 (M : Mem) (x n : Nat) (s : DS) (vf : Value) (L : List Fs) (O : Nat → Prop) (h : RdIs M x s vf L O) (hp : POk n s) (hn : n < BIG) (a : ByteArray) (z : Int) : SoundCall Try.prog 58 [ptr x, str a, int z] M (fun r M' => r = int (s.trunc a z).1 ∧ RAft M M' x (s.trunc a z).2 O) := by
  cases hg : gets s.dir a with
  | none => exact snd58n M x n s vf L O h hp hn a z hg
  | some i => exact snd58s M x n s vf L O h hp hn a z i hg


def tk23 : Nat → Nat → Option Nat := fun _ _ => none
def pl23 : Nat → List PStep
  | 14 => [.q 0, .q 1, .q 2, .q 3, .q 4, .q 5, .q 6, .q 7, .q 8, .q 9, .q 10, .s 11 [10, 9, 8, 7, 6, 5, 4, 3, 2, 1, 0], .s 12 []]
  | 15 => [.q 0, .q 1, .q 2, .q 3, .q 4, .q 5, .q 6, .q 7, .q 8, .q 9, .q 10, .q 11, .q 12, .q 13, .s 14 [11, 10, 9, 8, 7, 6, 5, 4, 3, 2, 1, 0], .s 15 [13, 12, 11, 9, 8, 7, 6, 5, 4, 3, 2, 1, 0], .q 16, .q 17, .s 18 []]
  | _ => []
theorem cb23 : Try.f23.body.map (codeB Try.prog Try.f23.ntmps tk23 pl23) = some true := by kernel_rfl
theorem goes23 : goesB Try.prog 23 = true := by kernel_rfl
theorem keepI_ok {n : Nat} {fs : List Fl} {x : Dir} {ks : List Int} (h : ∀ F ∈ fs, okA F.lasts F.acts F.now ∧ F.acts.length ≤ n) : ∀ i, i ≤ x.length → (∀ p ∈ x, p.2 < fs.length) → ∀ F ∈ keepI fs x ks i, okA F.lasts F.acts F.now ∧ F.acts.length ≤ n
  | 0, _, _ => h
  | i + 1, hi, hx => fun F hF => by
    rw [keepI_succ (by omega)] at hF
    rcases List.mem_or_eq_of_mem_set hF with h1 | rfl
    · exact keepI_ok h i (by omega) hx F h1
    · have hl : x[i].2 < (keepI fs x ks i).length := by rw [keepI_len]; exact hx _ (List.getElem_mem _)
      have h2 := keepI_ok h i (by omega) hx _ (List.mem_of_getElem? (getD_at hl))
      exact ⟨⟨rfl, keepR_len _ h2.1⟩, Nat.zero_le _⟩
set_option maxHeartbeats 4000000 in
set_option maxRecDepth 20000 in
theorem snd23 (M : Mem) (x n : Nat) (s : DS) (vf : Value) (L : List Fs) (O : Nat → Prop) (h : RdIs M x s vf L O) (hp : POk n s) (hn : n < BIG) (dirs : Int) (keeps : List Int) (own : Bool) (hdi : -2 ^ 63 ≤ dirs ∧ dirs < 2 ^ 63) (hks : ∀ z ∈ keeps, -2 ^ 63 ≤ z ∧ z < 2 ^ 63) : SoundCall Try.prog 23 [ptr x, int dirs, .sl (keeps.map int) own] M fun r M' => RAft M M' x (s.crash dirs keeps) O := by
  have hbig : BIG = 2 ^ 40 := rfl
  obtain ⟨o1, o2, hd⟩ := h.hd
  have hns := hp.ns
  have hnf := hp.nf
  have hms : (s.since.map encS).length = s.since.length := List.length_map _
  have hmk : (keeps.map int).length = keeps.length := List.length_map _
  refine SoundCall.go tk23 pl23 mixed Try.func23 cb23 rfl (Nat.le_of_ble_eq_true rfl) ?_
  refine s_seq ?_
  refine s_region ?_
  refine o_q (q_mv ((by first | exact v_raw rfl | exact v_sptr rfl))) rfl rfl rfl ?_
  refine o_q (q_nil rfl) rfl rfl rfl ?_
  refine o_q (q_fr fo87_3 rfl) rfl rfl rfl ?_
  refine o_q (q_ldm ag84 sz84 rfl (by repeat first | exact Mem.upd_self _ _ _ | assumption | refine Mem.upd_ne (by assumption) ?_) rfl (v_sl rfl)) rfl rfl rfl ?_
  refine o_q (q_as (v_sl rfl)) rfl rfl rfl ?_
  refine o_nil ?_
  refine s_seq ?_
  refine s_seq ?_
  refine s_region ?_
  refine o_q (q_as (v_raw rfl)) rfl rfl rfl ?_
  refine o_nil ?_
  refine s_block ?_
  refine s_loop (fun m S => ∃ T, ∃ j : Nat, S = ⟨setT (setT (setT (setT (setT T 0 (ptr x)) 1 (int dirs)) 2 (.sl (keeps.map int) own)) 6 (.sl ((runAll s.lst (s.since.take j)).map encN) false)) 7 (int (j : Nat)), M⟩ ∧ j ≤ s.since.length ∧ ((j : Int) ≤ max dirs 0) ∧ m = s.since.length - j) s.since.length ?_ ?_
  · exact ⟨_, 0, St.mkT (kp (kp (kp (kp (kp rfl rfl) rfl) rfl) rfl) rfl).symm, by omega, by omega, rfl⟩
  rintro m S ⟨T, j, rfl, hj, hjd, rfl⟩
  refine s_seq ?_
  refine s_seq ?_
  refine s_region ?_
  refine o_q (q_mv (v_raw rfl)) rfl rfl rfl ?_
  refine o_q (q_mv ((by first | exact v_raw rfl | exact v_sptr rfl))) rfl rfl rfl ?_
  refine o_q (q_nil rfl) rfl rfl rfl ?_
  refine o_q (q_fr fo87_4 rfl) rfl rfl rfl ?_
  refine o_q (q_ldm ag85 sz85 rfl (by repeat first | exact Mem.upd_self _ _ _ | assumption | refine Mem.upd_ne (by assumption) ?_) rfl (v_sl rfl)) rfl rfl rfl ?_
  refine o_q (q_len rfl und85 rfl) rfl rfl rfl ?_
  refine o_q (q_lss rfl rfl) rfl rfl rfl ?_
  refine o_q (q_mv (v_raw rfl)) rfl rfl rfl ?_
  refine o_g (G := true) rfl rfl rfl rfl rfl (fun hG hc => (q_mv (v_raw rfl))) ?_
  refine o_g (G := true) rfl rfl rfl rfl rfl (fun hG hc => (q_mv (v_raw rfl))) ?_
  refine o_g (G := true) rfl rfl rfl rfl rfl (fun hG hc => (q_lss (gv_on (gv_and hG hc) rfl) (gv_on (gv_and hG hc) rfl))) ?_
  refine o_q (q_pand (c := _) (b := _) rfl rfl rfl) rfl rfl rfl ?_
  refine o_nil ?_
  refine s_cond rfl (fun h1 => ?_) (fun h1 => ?_)
  · have k1 := h1; try simp only [decide_eq_true_eq, decide_eq_false_iff_not, Bool.not_eq_true', Bool.not_eq_false', Bool.not_true, Bool.not_false, List.length_map, Decidable.not_not] at k1
    simp only [Bool.and_eq_true, decide_eq_true_eq, List.length_map] at h1
    have hj2 : j < s.since.length := by omega
    have hgj := okC_run j hp.oc
    have hgl := hgj.1.len
    refine s_skip ?_
    refine s_seq ?_
    refine s_block ?_
    refine s_region ?_
    refine o_q (q_mv (v_sl rfl)) rfl rfl rfl ?_
    refine o_q (q_mv ((by first | exact v_raw rfl | exact v_sptr rfl))) rfl rfl rfl ?_
    refine o_q (q_nil rfl) rfl rfl rfl ?_
    refine o_q (q_fr fo87_4 rfl) rfl rfl rfl ?_
    refine o_q (q_ldm ag85 sz85 rfl (by repeat first | exact Mem.upd_self _ _ _ | assumption | refine Mem.upd_ne (by assumption) ?_) rfl (v_sl rfl)) rfl rfl rfl ?_
    refine o_q (q_mv (v_raw rfl)) rfl rfl rfl ?_
    refine o_q (q_idx und85 sz92 rfl rfl (by omega) (gm j (by first | omega | simp)) rfl) rfl rfl rfl ?_
    refine o_q (q_lde ag92 sz92 rfl (gm j (by first | omega | simp)) rfl rfl) rfl rfl rfl ?_
    refine o_call ((snd51 (runAll s.lst (s.since.take j)) false s.since[j] _ (by omega) (hgj.2 hj2)).det) goes51 (ac (v_sl rfl) (ac (v_agg rfl) ac_nil)) rfl ?_
    refine o_q (q_as (v_sl rfl)) rfl rfl rfl ?_
    refine o_nil ?_
    refine s_blk_normal ?_
    refine s_region ?_
    refine o_q (q_mv (v_raw rfl)) rfl rfl rfl ?_
    refine o_q (q_add rfl rfl (wrap64 (by omega) (by omega))) rfl rfl rfl ?_
    refine o_q (q_as (v_raw rfl)) rfl rfl rfl ?_
    refine o_nil ?_
    refine s_inv ?_
    exact ⟨s.since.length - (j + 1), by omega, _, j + 1, St.mkT (kp (kp (kp (kp (kp rfl rfl) rfl) rfl) (congrArg (fun q : Dir => AVal.sl (q.map encN) false) (runAll_succ hj2).symm)) rfl).symm, by omega, by omega, rfl⟩
  · have k1 := h1; try simp only [decide_eq_true_eq, decide_eq_false_iff_not, Bool.not_eq_true', Bool.not_eq_false', Bool.not_true, Bool.not_false, List.length_map, Decidable.not_not] at k1
    have hje : s.since.take j = s.since.take dirs.toNat := List.take_eq_take_iff.2 (by
      rcases Bool.and_eq_false_iff.1 h1 with h9 | h9 <;> simp only [decide_eq_false_iff_not, List.length_map] at h9 <;> omega)
    have hgX := (okC_run j hp.oc).1
    obtain ⟨X, hX⟩ : ∃ X, runAll s.lst (s.since.take j) = X := ⟨_, rfl⟩
    rw [hX] at hgX
    have hXl := hgX.len
    have hmX : (X.map encN).length = X.length := List.length_map _
    have hcr : s.crash dirs keeps = { s with dir := X, lst := X, since := [], fuse := -1, down := false, files := keepI s.files X keeps X.length } := by
      unfold DS.crash
      rw [← hje, hX]
    refine s_exit ?_
    refine s_code_exit ?_
    refine s_inv_exit ?_
    refine s_blk_here ?_
    refine s_seq ?_
    refine s_region ?_
    refine o_q (q_mv ((by first | exact v_raw rfl | exact v_sptr rfl))) rfl rfl rfl ?_
    refine o_q (q_mv (v_sl rfl)) rfl rfl rfl ?_
    refine o_q (q_nil rfl) rfl rfl rfl ?_
    refine o_q (q_fr fo87_2 rfl) rfl rfl rfl ?_
    refine o_store rfl (by repeat first | exact Mem.upd_self _ _ _ | assumption | refine Mem.upd_ne (by assumption) ?_) (by first | exact e_raw rfl | exact e_agg rfl | exact e_sl rfl | rfl) rfl sz84 rfl (Nat.le_of_ble_eq_true rfl) rfl rfl ?_
    refine o_nil ?_
    refine s_seq ?_
    refine s_region ?_
    refine o_q (q_mv ((by first | exact v_raw rfl | exact v_sptr rfl))) rfl rfl rfl ?_
    refine o_q (q_mv (v_sl rfl)) rfl rfl rfl ?_
    refine o_q (q_nil rfl) rfl rfl rfl ?_
    refine o_q (q_fr fo87_3 rfl) rfl rfl rfl ?_
    refine o_store rfl (by repeat first | exact Mem.upd_self _ _ _ | assumption | refine Mem.upd_ne (by assumption) ?_) (by first | exact e_raw rfl | exact e_agg rfl | exact e_sl rfl | rfl) rfl sz84 rfl (Nat.le_of_ble_eq_true rfl) rfl rfl ?_
    refine o_nil ?_
    refine s_seq ?_
    refine s_region ?_
    refine o_q (q_mv ((by first | exact v_raw rfl | exact v_sptr rfl))) rfl rfl rfl ?_
    refine o_q (q_nil rfl) rfl rfl rfl ?_
    refine o_q (q_fr fo87_4 rfl) rfl rfl rfl ?_
    refine o_store_nil rfl (Mem.upd_self _ _ _) sz85 (Nat.le_of_ble_eq_true rfl) ?_
    refine o_nil ?_
    refine s_seq ?_
    refine s_seq ?_
    refine s_region ?_
    refine o_q (q_as (v_raw rfl)) rfl rfl rfl ?_
    refine o_nil ?_
    refine s_block ?_
    refine s_loop (fun m S => ∃ T, ∃ M2 : Mem, ∃ O2 : Nat → Prop, ∃ vf2 : Value, ∃ L2 : List Fs, ∃ i : Nat, S = ⟨setT (setT (setT (setT T 0 (ptr x)) 2 (.sl (keeps.map int) own)) 6 (.sl (X.map encN) false)) 8 (int (i : Nat)), M2⟩ ∧ RdIs M2 x ({ s with dir := X, lst := X, since := [], files := keepI s.files X keeps i } : DS) vf2 L2 O2 ∧ Chg M M2 O O2 ∧ i ≤ X.length ∧ m = X.length - i) X.length ?_ ?_
    · exact ⟨_, _, O, vf, L, 0, St.mkT (kp (kp (kp (kp rfl rfl) rfl) (congrArg (fun q : Dir => AVal.sl (q.map encN) false) hX)) rfl).symm, h.cells (s' := ({ s with dir := X, lst := X, since := [], files := keepI s.files X keeps 0 } : DS)) (o1 := false) (o2 := false) rfl ((Mem.upd_self _ _ _).trans (congrArg (fun l => some (AObj.cells l)) (by rw [hX]; rfl))) (fun c hc _ => by repeat first | rfl | refine (upd_other (by assumption)).trans ?_), ⟨fun c e1 e2 => by have hc : c ≠ x := (fun e => e2 (by rw [e]; exact h.od)); repeat first | rfl | refine (upd_other (by assumption)).trans ?_, fun c hc => .inl hc, fun c hc => hc⟩, by omega, rfl⟩
    rintro m S ⟨T, M2, O2, vf2, L2, i, rfl, hI, hC, hi, rfl⟩
    refine s_seq ?_
    refine s_seq ?_
    refine s_region ?_
    refine o_q (q_mv (v_raw rfl)) rfl rfl rfl ?_
    refine o_q (q_mv (v_sl rfl)) rfl rfl rfl ?_
    refine o_q (q_len rfl und84 rfl) rfl rfl rfl ?_
    refine o_q (q_lss rfl rfl) rfl rfl rfl ?_
    refine o_nil ?_
    refine s_cond rfl (fun h2 => ?_) (fun h2 => ?_)
    · have k2 := h2; try simp only [decide_eq_true_eq, decide_eq_false_iff_not, Bool.not_eq_true', Bool.not_eq_false', Bool.not_true, Bool.not_false, List.length_map, Decidable.not_not] at k2
      have hi2 : i < X.length := by omega
      have hpi := (hgX.nm _ (List.getElem_mem hi2)).2.2
      have hpi2 : X[i].2 < (keepI s.files X keeps i).length := by rw [keepI_len]; exact hpi
      obtain ⟨F, hF⟩ : ∃ F, (keepI s.files X keeps i).getD X[i].2 fl0 = F := ⟨_, rfl⟩
      obtain ⟨hil, hfl, hfw, hfn⟩ : ∃ hl : X[i].2 < L2.length, L2[X[i].2].l.data.toList = F.lasts ∧ Ws encU 2 M2 (.slice L2[X[i].2].base F.acts.length L2[X[i].2].c) F.acts ∧ L2[X[i].2].n = F.acts.length := by rw [← hF]; exact hI.at hpi2
      obtain ⟨hok, hnl⟩ : okA F.lasts F.acts F.now ∧ F.acts.length ≤ n := by rw [← hF]; exact keepI_ok hp.fo i (by omega) (fun p hp => (hgX.nm p hp).2.2) _ (List.mem_of_getElem? (getD_at hpi2))
      obtain ⟨b, k, R, rfl, hR, hb⟩ := hI.hw.get (by omega)
      obtain ⟨q1, q2, hd2⟩ := hI.hd
      have hbb : bOf (.slice (some ⟨b, 0, none⟩) L2.length (L2.length + k)) b := ⟨_, L2.length + k, rfl, by omega⟩
      have hbx := (hI.ob b hbb).2
      have hxb := hbx.symm
      have hfll : (Go.Am.fl encF L2 ++ R).length = (L2.length + k) * 2 := by rw [List.length_append, fl_len uwF.len, hR]; omega
      refine s_skip ?_
      refine s_seq ?_
      refine s_block ?_
      refine s_seq ?_
      refine s_region ?_
      refine o_q (q_as (v_raw rfl)) rfl rfl rfl ?_
      refine o_nil ?_
      refine s_seq ?_
      refine s_seq ?_
      refine s_region ?_
      refine o_q (q_mv (v_raw rfl)) rfl rfl rfl ?_
      refine o_q (q_mv (v_sl rfl)) rfl rfl rfl ?_
      refine o_q (q_len rfl und22 rfl) rfl rfl rfl ?_
      refine o_q (q_lss rfl rfl) rfl rfl rfl ?_
      refine o_nil ?_
      refine s_cond rfl (fun h3 => ?_) (fun h3 => ?_)
      · have k3 := h3; try simp only [decide_eq_true_eq, decide_eq_false_iff_not, Bool.not_eq_true', Bool.not_eq_false', Bool.not_true, Bool.not_false, List.length_map, Decidable.not_not] at k3
        have hik : i < keeps.length := by omega
        have hz := hks _ (List.getElem_mem hik)
        have hzd : keeps.getD i 0 = keeps[i] := by rw [List.getD_eq_getElem?_getD, List.getElem?_eq_getElem hik]; rfl
        refine s_region ?_
        refine o_q (q_mv (v_sl rfl)) rfl rfl rfl ?_
        refine o_q (q_mv (v_raw rfl)) rfl rfl rfl ?_
        refine o_q (q_idx und22 sz3 rfl rfl (by omega) (gm i (by first | omega | simp)) rfl) rfl rfl rfl ?_
        refine o_q (q_ld ag3 sz3 rfl (gm i (by first | omega | simp)) rfl (v_raw rfl)) rfl rfl rfl ?_
        refine o_q (q_as (v_raw rfl)) rfl rfl rfl ?_
        refine o_nil ?_
        refine s_seq ?_
        refine s_draw rfl ?_
        refine d_q rfl (q_mv ((by first | exact v_raw rfl | exact v_sptr rfl))) rfl rfl rfl ?_
        refine d_q rfl (q_nil rfl) rfl rfl rfl ?_
        refine d_q rfl (q_fr fo87_1 rfl) rfl rfl rfl ?_
        refine d_q rfl (q_ldm ag83 sz83 rfl (by repeat first | exact Mem.upd_self _ _ _ | assumption | refine Mem.upd_ne (by assumption) ?_) rfl ((by first | exact v_raw rfl | exact v_sl rfl))) rfl rfl rfl ?_
        refine d_q rfl (q_mv (v_sl rfl)) rfl rfl rfl ?_
        refine d_q rfl (q_mv (v_raw rfl)) rfl rfl rfl ?_
        refine d_q rfl (q_idx und84 sz97 rfl rfl (by omega) (gm i (by first | omega | simp)) rfl) rfl rfl rfl ?_
        refine d_q rfl (q_f fo97_1 rfl) rfl rfl rfl ?_
        refine d_q rfl (q_ld ag3 sz3 rfl (gm i (by first | omega | simp)) rfl (v_raw rfl)) rfl rfl rfl ?_
        refine d_q rfl (q_idxr und83 sz95 rfl rfl (by omega) (by omega)) rfl rfl rfl ?_
        refine d_q rfl (q_ldm ag95 sz95 rfl hb (piece_fl uwF.len (l := L2) (j := X[i].2) hil (by show 0 + ((X[i].2 : Nat) : Int).toNat * 2 = _; omega)) (v_agg rfl)) rfl rfl rfl ?_
        refine d_s rfl ?_
        refine o_alloc zc95 (fun B1 hB1 => ?_)
        have nb1 : b ≠ B1 := Mem.fresh_ne hB1 hb
        have nb1b := nb1.symm
        have nx1 : x ≠ B1 := Mem.fresh_ne hB1 hd2
        have nx1b := nx1.symm
        refine o_nil ⟨(by simp [Mem.upd, *]), ?_⟩
        refine d_s rfl ?_
        refine o_storew rfl (by repeat first | exact Mem.upd_self _ _ _ | assumption | refine Mem.upd_ne (by assumption) ?_) (by first | exact e_agg rfl | rfl) rfl sz95 rfl rfl rfl rfl ?_
        refine o_nil ⟨(by simp [Mem.upd, *]), ?_⟩
        refine d_nil ?_
        refine s_draw rfl ?_
        refine d_q rfl (q_mv ((by first | exact v_raw rfl | exact v_sptr rfl))) rfl rfl rfl ?_
        refine d_q rfl (q_nil rfl) rfl rfl rfl ?_
        refine d_q rfl (q_fr fo87_1 rfl) rfl rfl rfl ?_
        refine d_q rfl (q_ldm ag83 sz83 rfl (by repeat first | exact Mem.upd_self _ _ _ | assumption | refine Mem.upd_ne (by assumption) ?_) rfl ((by first | exact v_raw rfl | exact v_sl rfl))) rfl rfl rfl ?_
        refine d_q rfl (q_mv (v_sl rfl)) rfl rfl rfl ?_
        refine d_q rfl (q_mv (v_raw rfl)) rfl rfl rfl ?_
        refine d_q rfl (q_idx und84 sz97 rfl rfl (by omega) (gm i (by first | omega | simp)) rfl) rfl rfl rfl ?_
        refine d_q rfl (q_f fo97_1 rfl) rfl rfl rfl ?_
        refine d_q rfl (q_ld ag3 sz3 rfl (gm i (by first | omega | simp)) rfl (v_raw rfl)) rfl rfl rfl ?_
        refine d_q rfl (q_fr fo95_0 rfl) rfl rfl rfl ?_
        refine d_q rfl (q_ldm ag9 sz9 rfl (by repeat first | exact Mem.upd_self _ _ _ | assumption | refine Mem.upd_ne (by assumption) ?_) rfl (v_raw rfl)) rfl rfl rfl ?_
        refine d_q rfl (q_fr fo95_1 rfl) rfl rfl rfl ?_
        refine d_q rfl (q_ldm ag93 sz93 rfl (by repeat first | exact Mem.upd_self _ _ _ | assumption | refine Mem.upd_ne (by assumption) ?_) rfl ((by first | exact v_raw rfl | exact v_sl rfl))) rfl rfl rfl ?_
        refine d_q rfl (q_mv (v_raw rfl)) rfl rfl rfl ?_
        refine d_s rfl ?_
        refine o_call ((kept53 (z := keeps[i]) hok (by omega) hz hfw hfn (leU1 (Mem.le_refl _) hB1))) goes53 (ac (v_raw rfl) (ac (v_raw rfl) ac_nil)) rfl ?_
        refine o_nil ⟨(by simp [Mem.upd, *]), ?_⟩
        refine d_s rfl ?_
        refine o_call ((snd52 L2[X[i].2].l (keptA F.acts keeps[i]) false (keepR F.lasts F.acts keeps[i]) _ (by rw [hfl]; exact kept_ok hok) (Nat.le_trans (keptA_len _ _) (by omega)))) goes52 (ac (v_raw rfl) (ac ((by first | exact v_raw rfl | exact v_sl rfl)) ac_nil)) rfl ?_
        refine o_nil ⟨(by simp [Mem.upd, *]), ?_⟩
        refine d_q rfl (q_b (cs := [_, .raw (.slice none 0 0)]) bz95 bp95 (bf fo95_0 (e_raw rfl) rfl rfl (Nat.le_of_ble_eq_true rfl) rfl bf_nil)) rfl rfl rfl ?_
        refine d_q rfl (q_idxr und83 sz95 rfl rfl (by omega) (by omega)) rfl rfl rfl ?_
        refine d_s rfl ?_
        refine o_store rfl (by repeat first | exact Mem.upd_self _ _ _ | assumption | refine Mem.upd_ne (by assumption) ?_) (e_agg rfl) rfl sz95 rfl (by rw [hfll]; show 0 + ((X[i].2 : Nat) : Int).toNat * 2 + 2 ≤ _; omega) rfl rfl ?_
        refine o_nil ⟨(by simp [Mem.upd, *]), ?_⟩
        refine d_nil ?_
        refine s_blk_normal ?_
        refine s_region ?_
        refine o_q (q_mv (v_raw rfl)) rfl rfl rfl ?_
        refine o_q (q_add rfl rfl (wrap64 (by omega) (by omega))) rfl rfl rfl ?_
        refine o_q (q_as (v_raw rfl)) rfl rfl rfl ?_
        refine o_nil ?_
        refine s_inv ?_
        have hnb : ∀ c, ¬ bOf (Fs.v ⟨⟨(keepR F.lasts F.acts keeps[i]).toArray⟩, none, 0, 0⟩) c := fun c ⟨q, w, e, _⟩ => by cases e
        have hst := hI.file hil (M' := ((M2.upd B1 (.cells [.raw (.string ⟨#[]⟩), .sl [] true])).upd B1 (.cells (AVal.agg (encF L2[X[i].2]).cells).cells)).upd b (.cells (splice (Go.Am.fl encF L2 ++ R) (0 + ((X[i].2 : Nat) : Int).toNat * 2) [str ⟨(keepR F.lasts F.acts keeps[i]).toArray⟩, .raw (.slice none 0 0)]))) (f' := ⟨⟨(keepR F.lasts F.acts keeps[i]).toArray⟩, none, 0, 0⟩) (F' := keepF F keeps[i]) rfl hR ((Mem.upd_self _ _ _).trans (congrArg (fun l => some (AObj.cells l)) (by rw [show 0 + ((X[i].2 : Nat) : Int).toNat * 2 = X[i].2 * 2 by omega]; exact fl_set uwF.len L2 R ⟨⟨(keepR F.lasts F.acts keeps[i]).toArray⟩, none, 0, 0⟩ hil))) rfl (.inl ⟨none, rfl, .inl rfl, rfl⟩) (fun c hc => absurd hc (hnb c)) (fun c e3 e4 e5 => (upd_other e3).trans ((upd_other fun e => e5 (by rw [e]; exact hB1)).trans (upd_other fun e => e5 (by rw [e]; exact hB1))))
        obtain ⟨O3, ⟨vf3, L3, h3'⟩, hC3⟩ := hst
        exact ⟨X.length - (i + 1), by omega, _, _, O3, vf3, L3, i + 1, St.mkT (kp (kp (kp (kp rfl rfl) rfl) rfl) rfl).symm, (by rw [keepI_succ hi2, hF, hzd]; exact h3'), hC.trans hC3 h.ok, by omega, rfl⟩
      · have k3 := h3; try simp only [decide_eq_true_eq, decide_eq_false_iff_not, Bool.not_eq_true', Bool.not_eq_false', Bool.not_true, Bool.not_false, List.length_map, Decidable.not_not] at k3
        have hzd : keeps.getD i 0 = 0 := by rw [List.getD_eq_getElem?_getD, List.getElem?_eq_none (by omega)]; rfl
        have hz : -2 ^ 63 ≤ (0 : Int) ∧ (0 : Int) < 2 ^ 63 := by decide
        refine s_skip ?_
        refine s_seq ?_
        refine s_draw rfl ?_
        refine d_q rfl (q_mv ((by first | exact v_raw rfl | exact v_sptr rfl))) rfl rfl rfl ?_
        refine d_q rfl (q_nil rfl) rfl rfl rfl ?_
        refine d_q rfl (q_fr fo87_1 rfl) rfl rfl rfl ?_
        refine d_q rfl (q_ldm ag83 sz83 rfl (by repeat first | exact Mem.upd_self _ _ _ | assumption | refine Mem.upd_ne (by assumption) ?_) rfl ((by first | exact v_raw rfl | exact v_sl rfl))) rfl rfl rfl ?_
        refine d_q rfl (q_mv (v_sl rfl)) rfl rfl rfl ?_
        refine d_q rfl (q_mv (v_raw rfl)) rfl rfl rfl ?_
        refine d_q rfl (q_idx und84 sz97 rfl rfl (by omega) (gm i (by first | omega | simp)) rfl) rfl rfl rfl ?_
        refine d_q rfl (q_f fo97_1 rfl) rfl rfl rfl ?_
        refine d_q rfl (q_ld ag3 sz3 rfl (gm i (by first | omega | simp)) rfl (v_raw rfl)) rfl rfl rfl ?_
        refine d_q rfl (q_idxr und83 sz95 rfl rfl (by omega) (by omega)) rfl rfl rfl ?_
        refine d_q rfl (q_ldm ag95 sz95 rfl hb (piece_fl uwF.len (l := L2) (j := X[i].2) hil (by show 0 + ((X[i].2 : Nat) : Int).toNat * 2 = _; omega)) (v_agg rfl)) rfl rfl rfl ?_
        refine d_s rfl ?_
        refine o_alloc zc95 (fun B2 hB2 => ?_)
        have nb2 : b ≠ B2 := Mem.fresh_ne hB2 hb
        have nb2b := nb2.symm
        have nx2 : x ≠ B2 := Mem.fresh_ne hB2 hd2
        have nx2b := nx2.symm
        refine o_nil ⟨(by simp [Mem.upd, *]), ?_⟩
        refine d_s rfl ?_
        refine o_storew rfl (by repeat first | exact Mem.upd_self _ _ _ | assumption | refine Mem.upd_ne (by assumption) ?_) (by first | exact e_agg rfl | rfl) rfl sz95 rfl rfl rfl rfl ?_
        refine o_nil ⟨(by simp [Mem.upd, *]), ?_⟩
        refine d_nil ?_
        refine s_draw rfl ?_
        refine d_q rfl (q_mv ((by first | exact v_raw rfl | exact v_sptr rfl))) rfl rfl rfl ?_
        refine d_q rfl (q_nil rfl) rfl rfl rfl ?_
        refine d_q rfl (q_fr fo87_1 rfl) rfl rfl rfl ?_
        refine d_q rfl (q_ldm ag83 sz83 rfl (by repeat first | exact Mem.upd_self _ _ _ | assumption | refine Mem.upd_ne (by assumption) ?_) rfl ((by first | exact v_raw rfl | exact v_sl rfl))) rfl rfl rfl ?_
        refine d_q rfl (q_mv (v_sl rfl)) rfl rfl rfl ?_
        refine d_q rfl (q_mv (v_raw rfl)) rfl rfl rfl ?_
        refine d_q rfl (q_idx und84 sz97 rfl rfl (by omega) (gm i (by first | omega | simp)) rfl) rfl rfl rfl ?_
        refine d_q rfl (q_f fo97_1 rfl) rfl rfl rfl ?_
        refine d_q rfl (q_ld ag3 sz3 rfl (gm i (by first | omega | simp)) rfl (v_raw rfl)) rfl rfl rfl ?_
        refine d_q rfl (q_fr fo95_0 rfl) rfl rfl rfl ?_
        refine d_q rfl (q_ldm ag9 sz9 rfl (by repeat first | exact Mem.upd_self _ _ _ | assumption | refine Mem.upd_ne (by assumption) ?_) rfl (v_raw rfl)) rfl rfl rfl ?_
        refine d_q rfl (q_fr fo95_1 rfl) rfl rfl rfl ?_
        refine d_q rfl (q_ldm ag93 sz93 rfl (by repeat first | exact Mem.upd_self _ _ _ | assumption | refine Mem.upd_ne (by assumption) ?_) rfl ((by first | exact v_raw rfl | exact v_sl rfl))) rfl rfl rfl ?_
        refine d_q rfl (q_mv (v_raw rfl)) rfl rfl rfl ?_
        refine d_s rfl ?_
        refine o_call ((kept53 (z := 0) hok (by omega) hz hfw hfn (leU1 (Mem.le_refl _) hB2))) goes53 (ac (v_raw rfl) (ac (v_raw rfl) ac_nil)) rfl ?_
        refine o_nil ⟨(by simp [Mem.upd, *]), ?_⟩
        refine d_s rfl ?_
        refine o_call ((snd52 L2[X[i].2].l (keptA F.acts 0) false (keepR F.lasts F.acts 0) _ (by rw [hfl]; exact kept_ok hok) (Nat.le_trans (keptA_len _ _) (by omega)))) goes52 (ac (v_raw rfl) (ac ((by first | exact v_raw rfl | exact v_sl rfl)) ac_nil)) rfl ?_
        refine o_nil ⟨(by simp [Mem.upd, *]), ?_⟩
        refine d_q rfl (q_b (cs := [_, .raw (.slice none 0 0)]) bz95 bp95 (bf fo95_0 (e_raw rfl) rfl rfl (Nat.le_of_ble_eq_true rfl) rfl bf_nil)) rfl rfl rfl ?_
        refine d_q rfl (q_idxr und83 sz95 rfl rfl (by omega) (by omega)) rfl rfl rfl ?_
        refine d_s rfl ?_
        refine o_store rfl (by repeat first | exact Mem.upd_self _ _ _ | assumption | refine Mem.upd_ne (by assumption) ?_) (e_agg rfl) rfl sz95 rfl (by rw [hfll]; show 0 + ((X[i].2 : Nat) : Int).toNat * 2 + 2 ≤ _; omega) rfl rfl ?_
        refine o_nil ⟨(by simp [Mem.upd, *]), ?_⟩
        refine d_nil ?_
        refine s_blk_normal ?_
        refine s_region ?_
        refine o_q (q_mv (v_raw rfl)) rfl rfl rfl ?_
        refine o_q (q_add rfl rfl (wrap64 (by omega) (by omega))) rfl rfl rfl ?_
        refine o_q (q_as (v_raw rfl)) rfl rfl rfl ?_
        refine o_nil ?_
        refine s_inv ?_
        have hnb : ∀ c, ¬ bOf (Fs.v ⟨⟨(keepR F.lasts F.acts 0).toArray⟩, none, 0, 0⟩) c := fun c ⟨q, w, e, _⟩ => by cases e
        have hst := hI.file hil (M' := ((M2.upd B2 (.cells [.raw (.string ⟨#[]⟩), .sl [] true])).upd B2 (.cells (AVal.agg (encF L2[X[i].2]).cells).cells)).upd b (.cells (splice (Go.Am.fl encF L2 ++ R) (0 + ((X[i].2 : Nat) : Int).toNat * 2) [str ⟨(keepR F.lasts F.acts 0).toArray⟩, .raw (.slice none 0 0)]))) (f' := ⟨⟨(keepR F.lasts F.acts 0).toArray⟩, none, 0, 0⟩) (F' := keepF F 0) rfl hR ((Mem.upd_self _ _ _).trans (congrArg (fun l => some (AObj.cells l)) (by rw [show 0 + ((X[i].2 : Nat) : Int).toNat * 2 = X[i].2 * 2 by omega]; exact fl_set uwF.len L2 R ⟨⟨(keepR F.lasts F.acts 0).toArray⟩, none, 0, 0⟩ hil))) rfl (.inl ⟨none, rfl, .inl rfl, rfl⟩) (fun c hc => absurd hc (hnb c)) (fun c e3 e4 e5 => (upd_other e3).trans ((upd_other fun e => e5 (by rw [e]; exact hB2)).trans (upd_other fun e => e5 (by rw [e]; exact hB2))))
        obtain ⟨O3, ⟨vf3, L3, h3'⟩, hC3⟩ := hst
        exact ⟨X.length - (i + 1), by omega, _, _, O3, vf3, L3, i + 1, St.mkT (kp (kp (kp (kp rfl rfl) rfl) rfl) rfl).symm, (by rw [keepI_succ hi2, hF, hzd]; exact h3'), hC.trans hC3 h.ok, by omega, rfl⟩
    · have k2 := h2; try simp only [decide_eq_true_eq, decide_eq_false_iff_not, Bool.not_eq_true', Bool.not_eq_false', Bool.not_true, Bool.not_false, List.length_map, Decidable.not_not] at k2
      have hi3 : i = X.length := by omega
      subst hi3
      obtain ⟨q1, q2, hd2⟩ := hI.hd
      refine s_exit ?_
      refine s_code_exit ?_
      refine s_inv_exit ?_
      refine s_blk_here ?_
      refine s_seq ?_
      refine s_region ?_
      refine o_q (q_mv ((by first | exact v_raw rfl | exact v_sptr rfl))) rfl rfl rfl ?_
      refine o_q (q_nil rfl) rfl rfl rfl ?_
      refine o_q (q_fr fo87_5 rfl) rfl rfl rfl ?_
      refine o_store rfl (by repeat first | exact Mem.upd_self _ _ _ | assumption | refine Mem.upd_ne (by assumption) ?_) (by first | exact e_raw rfl | exact e_agg rfl | exact e_sl rfl | rfl) rfl sz3 rfl (Nat.le_of_ble_eq_true rfl) rfl rfl ?_
      refine o_nil ?_
      refine s_region ?_
      refine o_q (q_mv ((by first | exact v_raw rfl | exact v_sptr rfl))) rfl rfl rfl ?_
      refine o_q (q_nil rfl) rfl rfl rfl ?_
      refine o_q (q_fr fo87_6 rfl) rfl rfl rfl ?_
      refine o_store rfl (by repeat first | exact Mem.upd_self _ _ _ | assumption | refine Mem.upd_ne (by assumption) ?_) (by first | exact e_raw rfl | exact e_agg rfl | exact e_sl rfl | rfl) rfl sz4 rfl (Nat.le_of_ble_eq_true rfl) rfl rfl ?_
      refine o_nil ?_
      refine s_end ?_
      exact (show RAft M _ x (s.crash dirs keeps) O by
        rw [hcr]
        exact ⟨O2, ⟨vf2, L2, hI.cells (s' := { s with dir := X, lst := X, since := [], fuse := -1, down := false, files := keepI s.files X keeps X.length }) (o1 := q1) (o2 := q2) rfl (Mem.upd_self _ _ _) (fun c hc _ => by repeat first | rfl | refine (upd_other (by assumption)).trans ?_)⟩, hC.trans ⟨fun c e1 e2 => by have hc : c ≠ x := (fun e => e2 (by rw [e]; exact hI.od)); repeat first | rfl | refine (upd_other (by assumption)).trans ?_, fun c hc => .inl hc, fun c hc => hc⟩ h.ok⟩)
end C04
