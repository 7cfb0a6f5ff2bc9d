import Derived.Test.YticeppepdlgbhaaGreatDoorZy6
import Derived.Test.YticeppepdlgbhaaGreatDoorZy1
/-! The document's topic (chapter 15), walked. -/
open Go Go.Proofs Go.Am
set_option linter.unusedVariables false
set_option linter.unusedSimpArgs false
set_option autoImplicit false
namespace C17
theorem und28 : Tryz.prog.underlying 28 = some (.pointer 44) := by kernel_rfl
def tk3 : Nat → Nat → Option Nat := fun _ _ => none
def pl3 : Nat → List PStep
 | 32 => [.q 0, .q 1, .q 2, .q 4, .q 5, .q 6, .s 3 [6, 5, 4, 1], .s 7 [5, 2, 1, 0], .q 8, .q 9]
 | 34 => [.q 0, .q 1, .q 2, .q 4, .q 5, .q 6, .s 3 [6, 5, 4, 1], .s 7 [5, 2, 1, 0], .q 8, .q 9]
 | 35 => [.q 0, .q 1, .q 2, .q 3, .q 5, .q 6, .q 7, .q 8, .s 4 [8, 7, 6, 5, 1, 0], .q 9, .q 10, .q 11, .q 12, .q 14, .q 15, .q 16, .q 17, .s 13 [17, 16, 15, 14, 10, 9, 8, 7, 6, 5, 3, 2, 1, 0], .q 18, .q 19, .q 20, .q 21, .q 23, .q 24, .q 25, .q 26, .s 22 [26, 25, 24, 23, 19, 18, 17, 16, 15, 14, 12, 11, 10, 9, 8, 7, 6, 5, 3, 2, 1, 0], .q 27, .q 28]
 | _ => []
theorem cb3 : Tryz.f3.body.map (codeB Tryz.prog Tryz.f3.ntmps tk3 pl3) = some true := by kernel_rfl
structure BDe where
 kind : Int
 prod : ByteArray
 seq : Int
 key : ByteArray
 val : ByteArray
 n : Int
 most : Int
 deriving Inhabited
def encBD (d : BDe) : AVal := .agg [int d.kind, str d.prod, int d.seq, str d.key, str d.val, int d.n, int d.most]
theorem dump_ne (x : Tp) : encAll (dumpL x) ≠ emp := by
 have hdl : dumpL x = tI x.name :: (lI x.low :: lI x.en :: lI x.kvs.length :: ((namesL x).flatMap (fun k => prodL (kvOf x k)) ++ x.recs.flatMap recL)) := by
  unfold dumpL
  rw [List.append_assoc]; rfl
 rw [hdl, encAll_cons]
 intro e
 have h1 := congrArg ByteArray.size e
 have h2 : (bytI (tI x.name)).size = 4 + x.name.size := by
  unfold bytI
  rw [if_pos (show (tI x.name).kind = 4 from rfl), ByteArray.size_append, numB_size]; rfl
 rw [ByteArray.size_append, h2] at h1
 have h3 : (emp : ByteArray).size = 0 := rfl
 omega
theorem i64_of {n : Int} (h : (Lit.int .i64 n).wf = true) : -2 ^ 63 ≤ n ∧ n < 2 ^ 63 := by
 simp [Lit.wf, IntKind.min, IntKind.max, IntKind.signed, IntKind.bits] at h
 omega
def okBD (a : BDe) : Prop := (-2 ^ 63 ≤ a.kind ∧ a.kind < 2 ^ 63) ∧ a.prod.size < 2 ^ 63

theorem readD {y : Nat} {x : Tp} {P : List KV} {o1 o2 : Bool} {off most : Int} {M : Mem} (hR : x.recs.length < 2 ^ 40) (hso : Sorted x.recs) (hy : M y = some (.cells (ryC x P o1 o2))) : SoundCall Tryz.prog 16 [ptr y, int off, int most] M fun r M' => r = .sl ((readL x.recs off most).map enc) false ∧ M' = M := by
 have := snd16 y x P o1 o2 off most M hR hy
 rwa [readF_eq hso] at this
theorem trim_kvs (x : Tp) (n : Int) : (trimT x n).1.kvs = x.kvs := by
 unfold trimT
 split
 ·rfl
 ·split <;> rfl
theorem back_trim' {n : Nat} {x : Tp} (h : BackOk n x) (k : Int) : BackOk n (trimT x k).1 := by
 by_cases h0 : 0 ≤ k
 ·exact back_trim h k h0
 ·have hl := h.ok.low
  unfold trimT
  rw [if_neg (by omega), if_neg (by omega)]
  exact h
theorem keepN_sub (l : List Rec) (upto : Int) : (keepN l upto l.length).Sublist l := by
 have h1 : (List.range l.length).map (fun i => l.getD i default) = l := by
  apply List.ext_getElem
  ·simp
  ·intro i h1 h2
   rw [List.getElem_map, List.getElem_range, List.getD_eq_getElem?_getD, List.getElem?_eq_getElem h2]; rfl
 unfold keepN
 conv => rhs; rw [← h1]
 exact List.Sublist.map _ List.filter_sublist
theorem back_comp {n : Nat} {x : Tp} (h : BackOk n x) (k : Int) : BackOk n (compT x k) := by
 have hs := keepN_sub x.recs k
 exact ⟨⟨h.ok.name, h.ok.low, h.ok.nd, h.ok.kv, fun r hr => h.ok.rc r (hs.subset hr), List.Pairwise.sublist hs h.ok.so⟩, h.kn, Nat.le_trans hs.length_le h.rn, h.en⟩
/-- A slice in memory that is written over. -/
def ClrAt (M1 M4 : Mem) (base : Option Addr) (n : Nat) : Prop := (n = 0 ∧ M4 = M1) ∨ ∃ b C k, base = some ⟨b, 0, none⟩ ∧ M1 b = none ∧ C.length = (n + k) * 5 ∧ M4 = M1.upd b (.cells C)
theorem clr_of {M1 M2 : Mem} {base : Option Addr} {c : Nat} {l : List Rec} (h : FrW enc zR M1 M2 base c l) : ClrAt M1 M2 base l.length := by
 by_cases e : l = []
 ·exact .inl ⟨by rw [e]; rfl, (h.nil e).1⟩
 ·obtain ⟨b, k, h1, h2, h3, h4⟩ := h.new e
  exact .inr ⟨b, _, k, h1, h2, wcells_len (sz := 5) (fun _ => rfl) rfl l k, h4⟩
theorem ClrAt.le {M1 M4 : Mem} {base : Option Addr} {n : Nat} (h : ClrAt M1 M4 base n) : M1.le M4 := by
 rcases h with ⟨-, rfl⟩ | ⟨b, C, k, -, h2, -, rfl⟩
 ·exact Mem.le_refl _
 ·exact leN (Mem.le_refl _) h2
theorem upd2 {M : Mem} {b : Nat} {o o' : AObj} : (M.upd b o).upd b o' = M.upd b o' := by
 funext c
 unfold Mem.upd
 split <;> rfl
theorem clr_store {M1 : Mem} {b k i : Nat} {n : Nat} {C vs : List AVal} (h2 : M1 b = none) (hC : C.length = (n + k) * 5) (hi : i < n) (hv : vs.length = 5) : ClrAt M1 ((M1.upd b (.cells C)).upd b (.cells (splice C (0 + ((i : Int)).toNat * 5) vs))) (some ⟨b, 0, none⟩) n := by
 refine .inr ⟨b, _, k, rfl, h2, ?_, upd2⟩
 unfold splice
 rw [List.length_append, List.length_append, List.length_take, List.length_drop, hv]
 omega
theorem read_all' {x : Tp} (h : LoadOk x) (hl : x.recs.length ≤ 1000) : readL x.recs 0 1000 = x.recs := by
 have h0 : atN x.recs 0 = 0 := by
  unfold atN
  cases hr : x.recs with
  | nil => rfl
  | cons r l =>
   have := (h.rc r (by rw [hr]; exact List.mem_cons_self ..)).2.1.1
   rw [List.takeWhile_cons, if_neg (by simp; omega)]; rfl
 unfold readL
 rw [h0, List.drop_zero, List.take_of_length_le (by show x.recs.length ≤ 1000; exact hl)]
theorem readD0 {y : Nat} {x : Tp} {P : List KV} {o1 o2 : Bool} {M : Mem} (h : LoadOk x) (hl : x.recs.length ≤ 1000) (hy : M y = some (.cells (ryC x P o1 o2))) : SoundCall Tryz.prog 16 [ptr y, int 0, int 1000] M fun r M' => r = .sl (x.recs.map enc) false ∧ M' = M := by
 have h9 := readD (off := 0) (most := 1000) (by omega) h.so hy
 rwa [read_all' h hl] at h9
set_option maxHeartbeats 4000000 in
set_option maxRecDepth 20000 in
theorem snd3a (ge : TypeId) (gf : Nat × Nat) (nm : ByteArray) (ds : List BDe) (o : Bool) (M : Mem) (hG : M 0 = some (szO ge gf)) (hs : nm.size < 2 ^ 63) (hdl : ds.length < 2 ^ 60) (hds : ∀ d ∈ ds, (-2 ^ 63 ≤ d.kind ∧ d.kind < 2 ^ 63) ∧ d.prod.size < 2 ^ 63) (hw : word nm = false) : SoundCall Tryz.prog 3 [str nm, .sl (ds.map encBD) o] M fun r M' => r = bool true ∧ M.le M' := by
 refine SoundCall.go tk3 pl3 mixed Tryz.func3 cb3 rfl (Nat.le_of_ble_eq_true rfl) ?_
 refine s_seq ?_
 refine s_region ?_
 refine o_q (q_as (v_raw rfl)) rfl rfl rfl ?_
 refine o_nil ?_
 refine s_seq ?_
 refine s_region ?_
 refine o_call (((snd8 _).det)) goes8 ac_nil rfl ?_
 refine o_q (q_as (v_raw rfl)) rfl rfl rfl ?_
 refine o_nil ?_
 refine s_seq ?_
 refine s_region ?_
 refine o_q (q_mv (v_raw rfl)) rfl rfl rfl ?_
 refine o_callx ((snd9 nm _)) goes9 (ac (v_raw rfl) ac_nil) rfl ?_
 rintro r M1 hr
 obtain ⟨rfl, hle⟩ : r = .tup [.raw (.pointer none), int 5] ∧ M.le M1 := by
  rcases hr with ⟨-, h1, h2⟩ | ⟨h1, -⟩
  ·exact ⟨h1, h2⟩
  ·rw [hw] at h1; cases h1
 refine o_q (q_mv (v_tup rfl)) rfl rfl rfl ?_
 refine o_q (q_ext rfl rfl (mvQ)) rfl rfl rfl ?_
 refine o_q (q_ext rfl rfl (v_raw rfl)) rfl rfl rfl ?_
 refine o_q (q_as (mvQ)) rfl rfl rfl ?_
 refine o_q (q_as (v_raw rfl)) rfl rfl rfl ?_
 refine o_nil ?_
 refine s_seq ?_
 refine s_region ?_
 refine o_q (q_mv (v_raw rfl)) rfl rfl rfl ?_
 refine o_call ((snd10b nm _ hw hs)) goes10 (ac (v_raw rfl) ac_nil) rfl ?_
 refine o_q (q_as (mvQ)) rfl rfl rfl ?_
 refine o_nil ?_
 refine s_seq ?_
 refine s_seq ?_
 refine s_region ?_
 refine o_q (q_mv (mvQ)) rfl rfl rfl ?_
 refine o_q (q_peql und28 rfl rfl) rfl rfl rfl ?_
 refine o_nil ?_
 refine s_then rfl rfl ?_
 refine s_seq ?_
 refine s_region ?_
 refine o_q (q_mv (v_raw rfl)) rfl rfl rfl ?_
 refine o_q (q_mv (v_raw rfl)) rfl rfl rfl ?_
 refine o_g (G := true) rfl rfl rfl rfl rfl (fun hG hc => (q_mv (mvQ))) ?_
 refine o_g (G := true) rfl rfl rfl rfl rfl (fun hG hc => (q_peql und24 (gv_on (gv_and hG hc) rfl) rfl)) ?_
 refine o_q (q_pand (c := _) (b := _) rfl rfl rfl) rfl rfl rfl ?_
 refine o_q (q_mv (v_raw rfl)) rfl rfl rfl ?_
 refine o_g (G := true) rfl rfl rfl rfl rfl (fun hG hc => (q_mv (v_raw rfl))) ?_
 refine o_g (G := true) rfl rfl rfl rfl rfl (fun hG hc => (q_eql (gv_on (gv_and hG hc) rfl) rfl)) ?_
 refine o_q (q_pand (c := _) (b := _) rfl rfl rfl) rfl rfl rfl ?_
 refine o_q (q_as (v_raw rfl)) rfl rfl rfl ?_
 refine o_nil ?_
 refine s_ret ?_
 refine s_code_ret ?_
 refine s_end ?_
 exact ⟨rfl, hle⟩

end C17
