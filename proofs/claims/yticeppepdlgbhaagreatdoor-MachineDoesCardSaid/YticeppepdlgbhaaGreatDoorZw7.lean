import Derived.Test.YticeppepdlgbhaaGreatDoorHz
import Derived.Test.YticeppepdlgbhaaGreatDoorZw6
open Go Go.Proofs Go.Am
set_option linter.unusedVariables false
set_option linter.unusedSimpArgs false
set_option autoImplicit false
set_option maxHeartbeats 4000000
set_option maxRecDepth 20000
namespace C17
def tk77:Nat->Nat->Option Nat:=fun _ _=>none
def pl77:Nat->List PStep:=fun _=>[]
theorem cb77:Tryz.f77.body.map (codeB Tryz.prog Tryz.f77.ntmps tk77 pl77)=some true:=by kernel_rfl
theorem goes77:goesB Tryz.prog 77=true:=by kernel_rfl
theorem snd77a (d:Nat)(yd:ByteArray->Nat)(x:Mc)(vs:Value)(o1 o3:Bool)(c:Cmd)(M:Mem)(hd:M d=some (.cells (rmC yd x vs o1 o3)))(ht:Tps M yd x)(hL:(nmL x).length<=20)(hin:c.topic ∉ nmL x):SoundCall Tryz.prog 77 [ptr d,encC c] M fun r M'=>r = .agg [int 5,int 0,.raw (.slice none 0 0)]/\M.le M':=by
 have hle:=Mem.le_refl M;refine SoundCall.go tk77 pl77 mixed Tryz.func77 cb77 rfl (Nat.le_of_ble_eq_true rfl) ?_;refine Q0 ?_;refine o_box zbx rfl rfl (fun B1 hB1=>?_);have cd1:d≠B1:=Mem.fresh_ne hB1 hd;have cd1b:=cd1.symm;have m1:M B1=none:=zm hB1;refine o_alloc zc56 (fun B2 hB2=>?_);have cd2:d≠B2:=Mem.fresh_ne hB2 (Mem.upd_ne cd1 hd);have cd2b:=cd2.symm;have f1_2:B1≠B2:=Mem.fresh_ne hB2 mmQ;have g2_1:B2≠B1:=f1_2.symm;have m2:M B2=none:=zm hB2;refine Q52 ?_;refine Q12 fo49_1 ag9 sz9 ?_;refine Q236 ?_;refine Q31 ?_;refine Q11 ?_;refine Q113 und28 ?_;refine Q71 ?_;refine Q0 ?_;refine Q135 bz56 bp56 fo56_0 ?_;refine Q64 sz56 ?_;exact ret_cell (.inl rfl) rfl rfl mmQ (loadP_w ag56 sz56 rfl rfl) (⟨rfl,leN (leN (leN (Mem.le_refl M) m1) m2) m2⟩)
def tk77b:Nat->Nat->Option Nat:=fun _ _=>none
def pl77b:Nat->List PStep:=fun _=>[]
theorem cb77b:Tryz.f77.body.map (codeB Tryz.prog Tryz.f77.ntmps tk77b pl77b)=some true:=by kernel_rfl
theorem pub_n0 (x:Tp)(nm:ByteArray)(seq:Int)(ky vl:ByteArray)(h:¬ (pub x nm seq ky vl).2.2=0):(pub x nm seq ky vl).2.1=0:=by
 unfold pub at h ⊢;split
 ·rename_i hc;rw [if_pos hc] at h
  revert h
  cases kget x.kvs nm with
  | none=>exact fun h=>absurd rfl h
  | some l =>
   dsimp only;split
   ·exact fun _=>rfl
   ·split
    ·exact fun h=>absurd rfl h
    ·exact fun h=>absurd rfl h
 ·rfl
theorem chg_inj {q:Tp×Int×Int}{z z':Tp}{a a' b b':Int}(h:q=(z,a,b))(h':q=(z',a',b')):z'=z/\a'=a/\b'=b:=by
 have:=h'.symm.trans h;simp only [Prod.mk.injEq] at this;exact this
theorem chg2 {y:Tp}{c:Cmd}(h:c.kind=2):chgT y c=((pub y c.name c.seq c.key c.val).1,(pub y c.name c.seq c.key c.val).2.2,(pub y c.name c.seq c.key c.val).2.1):=by
 unfold chgT;rw [if_pos h]
theorem chg8 {y:Tp}{c:Cmd}(h:c.kind=8):chgT y c=((trimT y c.n).1,(trimT y c.n).2,(trimT y c.n).1.low):=by
 unfold chgT;rw [if_neg (by omega),if_pos h]
theorem chg9 {y:Tp}{c:Cmd}(h2:c.kind≠2)(h8:c.kind≠8):chgT y c=(compT y c.n,0,(compT y c.n).low):=by
 unfold chgT;rw [if_neg h2,if_neg h8]
theorem snd77b (d:Nat)(yd:ByteArray->Nat)(x:Mc)(vs:Value)(o1 o3:Bool)(c:Cmd)(M:Mem)(hd:M d=some (.cells (rmC yd x vs o1 o3)))(ht:Tps M yd x)(hL:(nmL x).length<=20)(y:Tp)(p1 p2:Bool)(hy:M (yd c.topic)=some (.cells (ryC y (ksL y) p1 p2)))(n:Nat)(hB:BackOk n y)(hn:n<2^30)(hs:c.name.size<2^63)(hin:c.topic∈nmL x)(z:Tp)(a b:Int)(hz:chgT y c=(z,a,b)):SoundCall Tryz.prog 77 [ptr d,encC c] M fun r M'=>r = .agg [int a,int (if a=0 then b else 0),.raw (.slice none 0 0)]/\∃ q1 q2,M' (yd c.topic)=some (.cells (ryC z (ksL z) q1 q2))/\Kept M M' (yd c.topic):=by
 have hle:=Mem.le_refl M;have hen:=hB.ok.low;have hen2:=hB.en;have hrn:=hB.rn;have hkn:=hB.kn;have hkl:=ksL_len y;refine SoundCall.go tk77b pl77b mixed Tryz.func77 cb77b rfl (Nat.le_of_ble_eq_true rfl) ?_;refine Q0 ?_;refine o_box zbx rfl rfl (fun B1 hB1=>?_);have cd1:d≠B1:=Mem.fresh_ne hB1 hd;have cd1b:=cd1.symm;have cy1:yd c.topic≠B1:=Mem.fresh_ne hB1 hy;have cy1b:=cy1.symm;have m1:M B1=none:=zm hB1;refine o_alloc zc56 (fun B2 hB2=>?_);have cd2:d≠B2:=Mem.fresh_ne hB2 (Mem.upd_ne cd1 hd);have cd2b:=cd2.symm;have cy2:yd c.topic≠B2:=Mem.fresh_ne hB2 (Mem.upd_ne cy1 hy);have cy2b:=cy2.symm;have f1_2:B1≠B2:=Mem.fresh_ne hB2 mmQ;have g2_1:B2≠B1:=f1_2.symm;have m2:M B2=none:=zm hB2;refine Q52 ?_;refine Q12 fo49_1 ag9 sz9 ?_;refine Q268 ?_;refine Q31 ?_;refine Q11 ?_;refine Q113 und28 ?_;refine Q141 ?_;refine Q6 fo49_0 ag3 sz3 ?_;refine Q117 ?_;refine s_cond rfl (fun h1=>?_) (fun h1=>?_)
 ·have k1:=h1;try simp only [zs] at k1
  have hkd:c.kind=2:=of_decide_eq_true h1;obtain⟨rfl,rfl,rfl⟩:=chg_inj hz (chg2 hkd);refine Q17 ?_;refine Q12 fo49_2 ag9 sz9 ?_;refine Q12 fo49_3 ag3 sz3 ?_;refine Q12 fo49_4 ag9 sz9 ?_;refine Q12 fo49_5 ag9 sz9 ?_;refine o_callx ((pubD (y:=yd c.topic) (x:=y) (o1:=p1) (o2:=p2) mmQ hB.ok ⟨by omega,by omega⟩ (by omega) (by omega) hs)) goes13 (ac (mvQ) (ac (v_raw rfl) (ac (v_raw rfl) (ac (v_raw rfl) (ac (v_raw rfl) ac_nil))))) rfl ?_;rintro r M3 ⟨q1,q2,rfl,rfl⟩;refine Q96 ?_;refine Q30 ?_;refine Q30 ?_;refine Q27 ?_;refine Q46 ?_;refine Q1 ?_;refine Q254 bz56 bp56 fo56_0 fo56_1 ?_;refine Q64 sz56 ?_;have hp0:=pub_n0 y c.name c.seq c.key c.val;have hif:(pub y c.name c.seq c.key c.val).2.1=if (pub y c.name c.seq c.key c.val).2.2=0 then (pub y c.name c.seq c.key c.val).2.1 else 0:=by
   split
   ·rfl
   ·rename_i hq;exact hp0 hq
  exact ret_cell (.inl rfl) rfl rfl mmQ (loadP_w ag56 sz56 rfl rfl) (⟨by rw [← hif];rfl,_,_,(Mem.upd_ne cy2 (Mem.upd_self _ _ _)),fun c0 o0 hc0 ho0=>Mem.upd_ne (Mem.ne_none ho0 m2) (Mem.upd_ne hc0 ((leN (leN (Mem.le_refl M) m1) m2) c0 o0 ho0))⟩)
 ·have k1:=h1;try simp only [zs] at k1
  have hk2:¬ c.kind=2:=of_decide_eq_false h1;refine s_skip ?_;refine Q18 ?_;refine s_seq ?_;refine Q6 fo49_0 ag3 sz3 ?_;refine Q117 ?_;refine s_cond rfl (fun h2=>?_) (fun h2=>?_)
  ·have k2:=h2;try simp only [zs] at k2
   have hkd:c.kind=8:=of_decide_eq_true h2;obtain⟨rfl,rfl,rfl⟩:=chg_inj hz (chg8 hkd);have hks:=ksL_same (trim_kvs y c.n);refine Q15 ?_;refine Q22 ?_;refine Q12 fo49_6 ag3 sz3 ?_;refine o_callx ((trimD (y:=yd c.topic) (x:=y) (P:=ksL y) (o1:=p1) (o2:=p2) mmQ hB.ok.so (by omega))) goes18 (ac (mvQ) (ac (v_raw rfl) ac_nil)) rfl ?_;rintro r M3 ⟨q1,q2,rfl,rfl⟩;refine Q20 ?_;refine Q106 ?_;refine s_cond rfl (fun h3=>?_) (fun h3=>?_)
   ·have k3:=h3;try simp only [zs] at k3
    refine Q7 ?_;refine Q135 bz56 bp56 fo56_0 ?_;refine Q64 sz56 ?_;have hq3:¬ (trimT y c.n).2=0:=by simpa using h3
    exact ret_cell (.inl rfl) rfl rfl mmQ (loadP_w ag56 sz56 rfl rfl) (⟨by rw [if_neg hq3];rfl,_,_,(by rw [hks];exact (Mem.upd_ne cy2 (Mem.upd_self _ _ _))),fun c0 o0 hc0 ho0=>Mem.upd_ne (Mem.ne_none ho0 m2) (Mem.upd_ne hc0 ((leN (leN (Mem.le_refl M) m1) m2) c0 o0 ho0))⟩)
   ·have k3:=h3;try simp only [zs] at k3
    refine s_skip ?_;refine Q70 fo44_1 ag3 sz3 ?_;refine Q189 bz56 bp56 fo56_1 ?_;refine Q58 sz56 ?_;have hq3:(trimT y c.n).2=0:=by simpa using h3
    exact ret_cell (.inl rfl) rfl rfl mmQ (loadP_w ag56 sz56 rfl rfl) (⟨by rw [if_pos hq3,hq3];rfl,_,_,(by rw [hks];exact (Mem.upd_ne cy2 (Mem.upd_self _ _ _))),fun c0 o0 hc0 ho0=>Mem.upd_ne (Mem.ne_none ho0 m2) (Mem.upd_ne hc0 ((leN (leN (Mem.le_refl M) m1) m2) c0 o0 ho0))⟩)
  ·have k2:=h2;try simp only [zs] at k2
   have hk8:¬ c.kind=8:=of_decide_eq_false h2;obtain⟨rfl,rfl,rfl⟩:=chg_inj hz (chg9 hk2 hk8);refine Q15 ?_;refine Q22 ?_;refine Q12 fo49_6 ag3 sz3 ?_;refine o_callx ((compD (y:=yd c.topic) (x:=y) (P:=ksL y) (o1:=p1) (o2:=p2) mmQ (by omega))) goes20 (ac (mvQ) (ac (v_raw rfl) ac_nil)) rfl ?_;rintro r M3 ⟨q1,q2,rfl,rfl⟩;refine Q20 ?_;refine Q106 ?_;refine s_cond rfl (fun h4=>?_) (fun h4=>?_)
   ·have k4:=h4;try simp only [zs] at k4
    refine Q7 ?_;refine Q135 bz56 bp56 fo56_0 ?_;refine Q64 sz56 ?_;exact absurd h4 (by decide)
   ·have k4:=h4;try simp only [zs] at k4
    refine s_skip ?_;refine Q70 fo44_1 ag3 sz3 ?_;refine Q189 bz56 bp56 fo56_1 ?_;refine Q58 sz56 ?_;exact ret_cell (.inl rfl) rfl rfl mmQ (loadP_w ag56 sz56 rfl rfl) (⟨rfl,_,_,(Mem.upd_ne cy2 (Mem.upd_self _ _ _)),fun c0 o0 hc0 ho0=>Mem.upd_ne (Mem.ne_none ho0 m2) (Mem.upd_ne hc0 ((leN (leN (Mem.le_refl M) m1) m2) c0 o0 ho0))⟩)
end C17
