import Derived.Test.YticeppepdlgbhaaGreatDoorZt10
/-! topic.Load of what topic.Dump told. -/
open Go Go.Proofs Go.Am
set_option linter.unusedVariables false
set_option autoImplicit false
namespace C17
def loadX (x : Tp) : Tp := ⟨x.name, x.low, x.en, (namesL x).map fun k => (k, kvOf x k), x.recs⟩
theorem dump_size {x : Tp} (h : DumpOk x) : (encAll (dumpL x)).size < 2 ^ 62 := by
 have h1 := encAll_size (dumpL x) (dumpL_ok h) (dumpL x).length (Nat.le_refl _)
 rw [List.take_length] at h1
 have h2 := dumpL_len x
 have h3 := h.len
 omega
theorem itemsE {x : Tp} (h : DumpOk x) (ge : TypeId) (gf : Nat × Nat) (M : Mem) (hG : M 0 = some (szO ge gf)) : SoundCall Tryz.prog 59 [str (encAll (dumpL x))] M fun r M' => (∃ o, r = .tup [.sl ((dumpL x).map encIt) o, int (x.kvs.length : Nat), bool true]) ∧ M.le M' := by
 refine (snd59 (encAll (dumpL x)) ge gf M hG (dump_size h) (dec_len4 _)).mono fun r M' hp => ⟨?_, hp.2⟩
 obtain ⟨h1, h2⟩ := dump_hit h
 have hk := h.len
 rcases hp.1 with ⟨n, hn, hh, hno, o, rfl⟩ | ⟨hno, -⟩
 ·have e : n = x.kvs.length := by
   rcases Nat.lt_trichotomy n x.kvs.length with g | g | g
   ·exact absurd hh (h2 n g)
   ·exact g
   ·exact absurd h1 (hno _ g)
  subst e
  rw [dec_dump h]
  exact ⟨o, rfl⟩
 ·exact absurd h1 (hno _ (by omega))
theorem loadE {x : Tp} {n : Nat} (h : BackOk n x) (hn : n ≤ 120) (ge : TypeId) (gf : Nat × Nat) (M : Mem) (hG : M 0 = some (szO ge gf)) : SoundCall Tryz.prog 22 [str (encAll (dumpL x))] M fun r M' => ∃ t m, M t = none ∧ M m = none ∧ t ≠ m ∧ r = .tup [ptr t, int 0] ∧ M' = setTp M t m (loadX x) := by
 have hd := back_dump h hn
 have hl := hd.len
 have hdl : dumpL x = tI x.name :: lI x.low :: lI x.en :: lI x.kvs.length :: ((namesL x).flatMap (fun k => prodL (kvOf x k)) ++ x.recs.flatMap recL) := by
  unfold dumpL
  rw [List.append_assoc]; rfl
 have h27 := itemsE hd ge gf M hG
 have hld := load_dump h.ok
 rw [hdl] at h27 hld
 have hR : ((namesL x).flatMap (fun k => prodL (kvOf x k)) ++ x.recs.flatMap recL).length = 3 * x.kvs.length + 5 * x.recs.length := by
  rw [List.length_append, flat_len (c := 3) (fun a => rfl), flat_len (c := 5) (fun a => rfl), namesL_len]
 rw [hdl]
 refine (snd22 _ _ _ _ _ _ x.kvs.length x.recs.length M hR (by omega) (by omega) h27).recast fun r M' hp => ?_
 rcases hp with ⟨hno, -⟩ | ⟨y, hy, t, m, l, h1, h2, h3, h4, h5, h6, h7, h8⟩
 ·rw [hld] at hno; cases hno
 ·have e : y = loadX x := Option.some.inj (hy.symm.trans hld)
  subst e
  refine ⟨_, Mem.imp_trans (Mem.imp_nil h6) (M'' := setTp M t m (loadX x)) ?_, t, m, h1, h2, h3, h4, rfl⟩
  refine Mem.imp_of_le (le_tp (M' := M'.upd t (.cells (l.map nilOwn))) (l := l.map nilOwn) (Mem.upd_self _ _ _) ((upd_other h3.symm).trans h7) (fun c o hc _ ho => (upd_other hc).trans (h8 c o ho)) h5)
end C17
