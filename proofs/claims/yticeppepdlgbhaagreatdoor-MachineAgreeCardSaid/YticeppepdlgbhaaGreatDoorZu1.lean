import Derived.Test.YticeppepdlgbhaaGreatDoorZa10
import Derived.Test.YticeppepdlgbhaaGreatDoorZr7
import Derived.Test.YticeppepdlgbhaaGreatDoorZk17
/-! Chapter 17: two machines; pairs; a deed's text; names of topics. -/
open Go Go.Proofs Go.Am
set_option linter.unusedVariables false
set_option linter.unusedSimpArgs false
set_option autoImplicit false
namespace C17
/-- A deed. -/
structure MDe where
 c : Cmd
 s : ByteArray
 deriving Inhabited
def encMD (d : MDe) : AVal := .agg [int d.c.kind, str d.c.topic, str d.c.name, int d.c.seq, str d.c.key, str d.c.val, int d.c.n, int d.c.node, int d.c.ask, str d.s]
/-- Two machines that have no memory in common. -/
structure Duo (ge : TypeId) (gf : Nat × Nat) (M0 M : Mem) (b1 b2 : Nat) (n : Int) (x z : Mc) (O1 O2 : Nat → Prop) : Prop where
 a : Mch ge gf M b1 n x O1
 b : Mch ge gf M b2 n z O2
 dj : ∀ d, O1 d → ¬ O2 d
 oa : Out M0 M O1
 ob : Out M0 M O2
section
variable {ge : TypeId} {gf : Nat × Nat} {M0 M M' : Mem} {b1 b2 B : Nat} {n m : Int} {x z x' z' : Mc} {O1 O2 O' : Nat → Prop}
theorem Mch.mono (h : Mch ge gf M b1 n x O1) (hm : n ≤ m) : Mch ge gf M b1 m x O1 := ⟨h.at', h.ok.mono hm, h.no, h.g⟩
theorem Duo.fr (h : Duo ge gf M0 M b1 b2 n x z O1 O2) (hB : M0 B = none) (h1 : ¬ O1 B) (h2 : ¬ O2 B) (h0 : B ≠ 0) (hk : ∀ d, d ≠ B → M' d = M d) : Duo ge gf M0 M' b1 b2 n x z O1 O2 where
 a := h.a.fr (fun c hc => hk c fun e => h1 (by rw [← e]; exact hc)) (hk 0 (Ne.symm h0))
 b := h.b.fr (fun c hc => hk c fun e => h2 (by rw [← e]; exact hc)) (hk 0 (Ne.symm h0))
 dj := h.dj
 oa := fun d hd => ⟨(hk d (mem_put hB hd)).trans (h.oa d hd).1, (h.oa d hd).2⟩
 ob := fun d hd => ⟨(hk d (mem_put hB hd)).trans (h.ob d hd).1, (h.ob d hd).2⟩
theorem Duo.upd {o : AObj} (h : Duo ge gf M0 M b1 b2 n x z O1 O2) (hB : M0 B = none) (h1 : ¬ O1 B) (h2 : ¬ O2 B) (h0 : B ≠ 0) : Duo ge gf M0 (M.upd B o) b1 b2 n x z O1 O2 := h.fr hB h1 h2 h0 fun d hd => upd_other hd
theorem Duo.mono (h : Duo ge gf M0 M b1 b2 n x z O1 O2) (hm : n ≤ m) : Duo ge gf M0 M b1 b2 m x z O1 O2 := ⟨h.a.mono hm, h.b.mono hm, h.dj, h.oa, h.ob⟩
theorem Duo.stepA (h : Duo ge gf M0 M b1 b2 n x z O1 O2) (hm : n ≤ m) (hX : Mch ge gf M' b1 m x' O') (hC : Chg M M' O1 O') : Duo ge gf M0 M' b1 b2 m x' z O' O2 where
 a := hX
 b := (h.b.fr (fun c hc => hC.eq c (h.b.at'.ok c hc) fun h1 => h.dj c h1 hc) (hC.eq 0 (nn h.a.g) h.a.no)).mono hm
 dj := fun d hd h2 => (hC.new d hd).elim (fun h1 => h.dj d h1 h2) (h.b.at'.ok d h2)
 oa := h.oa.chg hC
 ob := fun d hd => ⟨(hC.eq d (by rw [(h.ob d hd).1]; exact hd) (h.oa d hd).2).trans (h.ob d hd).1, (h.ob d hd).2⟩
theorem Duo.stepB (h : Duo ge gf M0 M b1 b2 n x z O1 O2) (hm : n ≤ m) (hX : Mch ge gf M' b2 m z' O') (hC : Chg M M' O2 O') : Duo ge gf M0 M' b1 b2 m x z' O1 O' where
 a := (h.a.fr (fun c hc => hC.eq c (h.a.at'.ok c hc) (h.dj c hc)) (hC.eq 0 (nn h.b.g) h.b.no)).mono hm
 b := hX
 dj := fun d hd h2 => (hC.new d h2).elim (h.dj d hd) (h.a.at'.ok d hd)
 oa := fun d hd => ⟨(hC.eq d (by rw [(h.oa d hd).1]; exact hd) (h.ob d hd).2).trans (h.oa d hd).1, (h.oa d hd).2⟩
 ob := h.ob.chg hC

end
theorem und3' : Tryz.prog.underlying 3 = some (.int .i64) := by kernel_rfl
theorem agi3 : aggT Tryz.prog 3 = some false := by kernel_rfl
theorem zc60 : zeroCellsT Tryz.prog 60 = some [.raw (.int .i64 0), .raw (.int .i64 0)] := C3.zc60
theorem ag60 : aggT Tryz.prog 60 = some true := C3.ag60
theorem sz60 : sizeT Tryz.prog 60 = some 2 := C3.sz60
theorem eqg60 : Tryz.prog.eqGuardType Tryz.prog.depth 60 = false := by kernel_rfl
theorem stood60 : Tryz.prog.stoodInHeld 60 = false := by kernel_rfl
def prV (p : C3.Pr) : AVal := .agg [int p.re, int p.im]
def rawPr (m : C3.Pr) : Value := .agg #[.int .i64 m.re, .int .i64 m.im]
theorem prEq (r r' : C3.Pr) : pr Tryz.prog (Op.equal 60 (rawPr r) (rawPr r')) = some (decide (r = r')) := by
 refine eqStruct Tryz.underlying60 stood60 ?_
 simp only [List.forIn_cons, List.forIn_nil]
 refine fldEq' (by decide) (part_one (v := .int .i64 r.re) agi3 rfl) (part_one (v := .int .i64 r'.re) agi3 rfl) (eq_int und3' _ _) (fun _ => rfl) rfl (congrArg C3.Pr.re) (fun h1 => ?_)
 refine fldEq' (by decide) (part_one (v := .int .i64 r.im) agi3 rfl) (part_one (v := .int .i64 r'.im) agi3 rfl) (eq_int und3' _ _) (fun _ => rfl) rfl (congrArg C3.Pr.im) (fun h2 => ?_)
 have : r = r' := by cases r; cases r'; simp at h1 h2; simp [*]
 simp only [this, decide_true]; rfl
theorem binNePr (x y : Operand) (r r' : C3.Pr) : aBin Tryz.prog .neq 60 x y (prV r) (prV r') = some (.raw (.bool (!decide (r = r')))) :=
 aBin_structNeq eqg60 rfl rfl (fun _ _ h => by cases h) (prEq r r')
theorem binNeSame (x y : Operand) (r : C3.Pr) : aBin Tryz.prog .neq 60 x y (prV r) (prV r) = some (.raw (.bool false)) := by rw [binNePr, decide_eq_true rfl]; rfl
/-- What a deed's text is. -/
def txD (d : MDe) : ByteArray := if rightC d.c then bytC d.c else d.s
theorem txD_size {d : MDe} (h : d.s.size < 2 ^ 62) : (txD d).size < 2 ^ 62 := by
 unfold txD
 by_cases hr : rightC d.c = true
 ·rw [if_pos hr]
  have := txt_size d.c
  unfold txt at this
  rw [if_pos hr] at this
  omega
 ·rw [if_neg hr]; exact h
/-- Names are few and short. -/
structure NmOk (x : Mc) : Prop where
 len : x.tps.length ≤ 20
 nm : ∀ p ∈ x.tps, p.1.size ≤ 2 ^ 40
theorem nm_new (z : Nat) : NmOk (newM z) := ⟨Nat.zero_le _, fun p h => absurd h List.not_mem_nil⟩
theorem ins_mem {β : Type} {l : List (ByteArray × β)} {k : ByteArray} {v : β} {p : ByteArray × β} (h : p ∈ ins l k v) : p = (k, v) ∨ p ∈ l := by
 unfold ins at h
 split at h
 ·rcases List.mem_or_eq_of_mem_set h with h | h
  ·exact .inr h
  ·exact .inl h
 ·rcases List.mem_append.1 h with h | h
  ·exact .inr h
  ·exact .inl (List.mem_singleton.1 h)
theorem doC_cnt (x : Mc) (c : Cmd) : (doC x c).1.cnt = x.cnt := by
 unfold doC creM subM chgM folM wanM
 repeat' split
 all_goals rfl
theorem step_cnt (x : Mc) (s : ByteArray) : (stepM x s).1.cnt = x.cnt + 1 := by
 unfold stepM
 split
 ·rfl
 ·exact doC_cnt _ _
theorem doC_nm {x : Mc} {c : Cmd} (h : NmOk x) (hr : rightC c = true) : NmOk (doC x c).1 ∧ x.tps.length ≤ (doC x c).1.tps.length := by
 have same : ∀ {y : Mc}, y.tps = x.tps → NmOk y ∧ x.tps.length ≤ y.tps.length := fun {y} e => ⟨⟨by rw [e]; exact h.len, by rw [e]; exact h.nm⟩, by rw [e]; exact Nat.le_refl _⟩
 unfold doC
 split
 ·rename_i hk
  unfold creM
  split
  ·exact same rfl
  ·rename_i hg
   split
   ·exact same rfl
   ·rename_i hl
    have e : (ins x.tps c.topic (⟨c.topic, 0, 0, [], []⟩ : Tp)).length = x.tps.length + 1 := by rw [ins_new hg, List.length_append]; rfl
    have hw : word c.topic = true := right_word hr (by rw [hk]; rfl)
    refine ⟨⟨by show (ins x.tps c.topic _).length ≤ 20; rw [e]; omega, fun p hp => ?_⟩, by show _ ≤ (ins x.tps c.topic _).length; rw [e]; omega⟩
    rcases ins_mem hp with rfl | hp
    ·have := word_le hw; show c.topic.size ≤ _; omega
    ·exact h.nm p hp
 ·split
  ·unfold subM
   split
   ·exact same rfl
   ·split
    ·exact same rfl
    ·split
     ·exact same rfl
     ·exact same rfl
  ·split
   ·unfold chgM
    split
    ·exact same rfl
    ·rename_i y hy
     have e := ins_len_some (v := (chgT y c).1) hy
     refine ⟨⟨by show (ins x.tps c.topic _).length ≤ 20; rw [e]; exact h.len, fun p hp => ?_⟩, by show _ ≤ (ins x.tps c.topic _).length; rw [e]; exact Nat.le_refl _⟩
     rcases ins_mem hp with rfl | hp
     ·exact h.nm (c.topic, y) (gets_mem hy)
     ·exact h.nm p hp
   ·split
    ·unfold folM
     split
     ·exact same rfl
     ·split
      ·exact same rfl
      ·exact same rfl
    ·unfold wanM
     split
     ·exact same rfl
     ·exact same rfl
theorem step_nm {x : Mc} {s : ByteArray} (h : NmOk x) : NmOk (stepM x s).1 ∧ x.tps.length ≤ (stepM x s).1.tps.length := by
 have h1 : NmOk (cntM x s) := ⟨h.len, h.nm⟩
 unfold stepM
 split
 ·exact ⟨h1, Nat.le_refl _⟩
 ·rename_i he
  exact doC_nm h1 (decC_right (Decidable.of_not_not he))
theorem fol_len (s : Sb) (y : Tp) (c : Cmd) : (folS s y c).2.2.2.length ≤ y.recs.length := by
 unfold folS
 split
 ·exact Nat.zero_le _
 ·split
  ·show (pollS s y c.n).2.1.length ≤ _
   unfold pollS
   split
   ·exact (pollL_sub s y c.n).length_le
   ·exact Nat.zero_le _
  ·split <;> exact Nat.zero_le _
theorem doC_len {n : Int} {x : Mc} (h : McOk n x) (c : Cmd) : ((doC x c).2.recs.length : Int) ≤ n := by
 have hp := h.pos
 unfold doC
 split
 ·unfold creM
  split
  ·exact hp
  ·split <;> exact hp
 ·split
  ·unfold subM
   split
   ·exact hp
   ·split
    ·exact hp
    ·split <;> exact hp
  ·split
   ·unfold chgM
    split <;> exact hp
   ·split
    ·unfold folM
     split
     ·exact hp
     ·split
      ·exact hp
      ·rename_i s hs _ y hy
       have h1 := fol_len s y c
       have h2 := (h.tp _ y hy).2.len
       dsimp only
       omega
    ·unfold wanM
     split <;> exact hp
theorem step_len {n : Int} {x : Mc} (h : McOk n x) (s : ByteArray) : ((stepM x s).2.recs.length : Int) ≤ n + 1 := by
 have hp := h.pos
 unfold stepM
 split
 ·show ((0 : Nat) : Int) ≤ n + 1; omega
 ·exact doC_len (cnt_ok h) _
theorem same31 {c n : Int} {l : List Rec} {M : Mem} (h : l.length < 2 ^ 60) : SoundCall Tryz.prog 31 [rpV c n l false, rpV c n l false] M fun r M' => r = bool true ∧ M.le M' :=
 (snd31 c n c n l l false false M h).mono fun r M' h => ⟨by rw [h.1]; simp, h.2⟩
end C17
