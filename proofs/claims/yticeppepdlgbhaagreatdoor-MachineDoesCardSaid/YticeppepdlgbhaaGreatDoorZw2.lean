import Derived.Test.YticeppepdlgbhaaGreatDoorHz
import Derived.Test.YticeppepdlgbhaaGreatDoorZw1
open Go Go.Proofs Go.Am
set_option linter.unusedVariables false
set_option linter.unusedSimpArgs false
set_option autoImplicit false
set_option maxHeartbeats 4000000
set_option maxRecDepth 20000
namespace C17
def tk75:Nat->Nat->Option Nat:=fun _ _=>none
def pl75:Nat->List PStep
 | 6=>[.q 0,.q 1,.q 2,.q 3,.q 4,.q 5,.q 6,.q 7,.q 8,.q 9,.q 10,.q 11,.q 12,.q 13,.q 14,.q 15,.q 16,.q 17,.q 18,.q 19,.q 20,.q 21,.q 22,.q 23,.q 24,.q 25,.q 26,.q 27,.q 28,.q 29,.q 30,.q 31,.q 32,.q 33,.q 34,.q 35,.q 36,.q 37,.q 38,.q 39,.q 40,.q 41,.q 42,.s 43 [42,41,40,39,38,37,36,35,34,33,32,31,30,29,28,27,26,25,24,23,22,21,20,19,18,17,16,15,14,13,12,11,10,9,8,7,6,5,4,3,2,1,0],.s 44 []]
 | _=>[]
theorem cb75:Tryz.f75.body.map (codeB Tryz.prog Tryz.f75.ntmps tk75 pl75)=some true:=by kernel_rfl
theorem goes75:goesB Tryz.prog 75=true:=by kernel_rfl
theorem rdec_ns {sh:ByteArray}{a:List Int}(hsz:sh.size=a.length)(hk:∀ i,i<a.length->kindB (sh.data[i]!)=a.getD i 0/\1<=a.getD i 0/\a.getD i 0<=4):∀ (f i:Nat) (s:ByteArray) (out:List Itm),i<=a.length →
 rdec a [] f i s out=decL sh (-1) f (i:Int) s out
 | 0,i,s,out,hi=>rfl
 | f+1,i,s,out,hi=>by
  rw [rdec,decL_succ];have c0:¬ ((i:Int)=sh.size/\(0:Int)<=-1):=fun h=>absurd h.2 (by decide)
  have c1:¬ ((i:Int) = -1/\(0:Int)<=-1/\s=emp):=fun h=>absurd h.2.1 (by decide)
  have c2:¬ ((i:Int) = -1/\(0:Int)<=-1):=fun h=>absurd h.2 (by decide)
  simp only [if_neg c0,if_neg c1,if_neg c2,Int.toNat_natCast];have e0:([]:List Int).length=0:=rfl;by_cases h1:i<a.length
  ·rw [if_pos (.inl h1),if_neg (fun h:(a.length<=i/\_)/\_=>absurd h.1.1 (by omega)),if_pos (show (i:Int)<sh.size by rw [hsz];omega)];obtain⟨g1,g2⟩:=hk i h1;have hkd:kdOf a [] i=a.getD i 0:=by unfold kdOf;rw [if_pos h1]
   obtain⟨h3,h4⟩:=take_item g1 g2 s;rw [hkd,h3];by_cases h5:out.length=1000
   ·rw [if_pos h5,if_pos h5]
   ·rw [if_neg h5,if_neg h5];by_cases h6:(itemF (sh.data[i]!) s).2.2=0
    ·rw [if_neg (fun h=>h h6),if_neg (fun h=>h h6)];obtain⟨h7,h8,-⟩:=h4 h6;rw [h7,h8];exact rdec_ns hsz hk f (i+1) _ _ (by omega)
    ·rw [if_pos h6,if_pos h6]
  ·rw [if_neg (fun h=>by rcases h with h|h;exact h1 h;rw [e0] at h;exact absurd h (by decide)),if_neg (show ¬ (i:Int)<sh.size by rw [hsz];omega)]
theorem decN9 {s:ByteArray}{l:List Itm}{e:Int}(hl:decF shape9 s=(l,e))(M:Mem)(hs:s.size<2^62):SoundCall Tryz.prog 93 [str shape9,str s] M fun r M'=>(∃ o,r = .tup [.sl (l.map encIt) o,int e])/\M.le M':=by
 have e9:kindsF shape9.data.toList false [] []=(([1,4,4,3,4,4,3,1,3],[]),true):=by kernel_rfl
 have e1:idxB shape9 42 = -1:=by kernel_rfl
 have e2:rightS shape9=true:=by kernel_rfl
 have e:rdecF shape9 s=decF shape9 s:=by
  unfold rdecF decF;rw [e9,if_pos rfl,if_pos e2,e1];exact rdec_ns (sh:=shape9) rfl (fun i hi=>by
   have:i=0\/i=1\/i=2\/i=3\/i=4\/i=5\/i=6\/i=7\/i=8:=by simp at hi;omega
   rcases this with rfl|rfl|rfl|rfl|rfl|rfl|rfl|rfl|rfl<;>exact⟨by kernel_rfl,by decide,by decide⟩) 1001 0 s [] (Nat.zero_le _)
 have:=snd93 shape9 s M hs (by decide);rwa [e,hl] at this
theorem len9 {l:List Itm}(h:l.length=9):∃ x0 x1 x2 x3 x4 x5 x6 x7 x8,l=[x0,x1,x2,x3,x4,x5,x6,x7,x8]:=by
 match l,h with
 | [x0,x1,x2,x3,x4,x5,x6,x7,x8],_=>exact⟨x0,x1,x2,x3,x4,x5,x6,x7,x8,rfl⟩
theorem decC_err {s:ByteArray}{l:List Itm}{e:Int}(hl:decF shape9 s=(l,e))(h:e≠0):decC s=(zeroC,e):=by
 unfold decC;rw [hl,if_pos h]
theorem decC_bad {s:ByteArray}{x0 x1 x2 x3 x4 x5 x6 x7 x8:Itm}(hl:decF shape9 s=([x0,x1,x2,x3,x4,x5,x6,x7,x8],0))(h:¬ (x3.n<=9007199254740991/\x6.n<=9007199254740992/\x8.n<=9007199254740991)):decC s=(zeroC,10):=by
 unfold decC;rw [hl,if_neg (fun h=>h rfl)];dsimp only;rw [if_neg h]
theorem decC_nr {s:ByteArray}{x0 x1 x2 x3 x4 x5 x6 x7 x8:Itm}(hl:decF shape9 s=([x0,x1,x2,x3,x4,x5,x6,x7,x8],0))(h:x3.n<=9007199254740991/\x6.n<=9007199254740992/\x8.n<=9007199254740991)(hr:rightC (cmdOf x0 x1 x2 x3 x4 x5 x6 x7 x8)=false):decC s=(zeroC,10):=by
 unfold decC;rw [hl,if_neg (fun h=>h rfl)];dsimp only;rw [if_pos h,if_neg (by rw [hr];decide)]
theorem decC_yes {s:ByteArray}{x0 x1 x2 x3 x4 x5 x6 x7 x8:Itm}(hl:decF shape9 s=([x0,x1,x2,x3,x4,x5,x6,x7,x8],0))(h:x3.n<=9007199254740991/\x6.n<=9007199254740992/\x8.n<=9007199254740991)(hr:rightC (cmdOf x0 x1 x2 x3 x4 x5 x6 x7 x8)=true):decC s=(cmdOf x0 x1 x2 x3 x4 x5 x6 x7 x8,0):=by
 unfold decC;rw [hl,if_neg (fun h=>h rfl)];dsimp only;rw [if_pos h,if_pos hr]
theorem snd75 (s:ByteArray)(c:Cmd)(f:Int)(hd:decC s=(c,f))(M:Mem)(hs:s.size<2^62):SoundCall Tryz.prog 75 [str s] M fun r M'=>∃ e,r = .tup [encC c,int e]/\(e=0↔f=0)/\M.le M':=by
 obtain⟨l,e0,hl⟩ : ∃ l e0,decF shape9 s=(l,e0):=⟨_,_,rfl⟩;refine SoundCall.go tk75 pl75 mixed Tryz.func75 cb75 rfl (Nat.le_of_ble_eq_true rfl) ?_;refine Q0 ?_;refine o_alloc zc49 (fun B1 hB1=>?_);have m1:M B1=none:=zm hB1;refine Q46 ?_;refine o_callx ((decN9 hl _ hs)) goes93 (ac (v_raw rfl) (ac (v_raw rfl) ac_nil)) rfl ?_;rintro r M1 ⟨⟨o1,rfl⟩,hle1⟩;have hb1:=hle1 B1 _ (Mem.upd_self _ _ _);have hle:M.le M1:=fun c0 o0 h0=>hle1 c0 o0 (leN (Mem.le_refl M) hB1 c0 o0 h0)
 refine Q96 ?_;refine Q177 ?_;refine Q30 ?_;refine Q23 ?_;refine Q20 ?_;refine Q106 ?_;refine s_cond rfl (fun h1=>?_) (fun h1=>?_)
 ·have k1:=h1;try simp only [zs] at k1
  have he0:e0≠0:=by simpa using h1
  obtain⟨rfl,rfl⟩:=Prod.mk.inj (hd.symm.trans (decC_err hl he0));refine Q0 ?_;refine Q180 bz49 bp49 ?_;refine Q1 ?_;refine Q13 sz49 ?_;refine Q10 ?_;refine ret_many (.inl rfl) rfl (rl_c rfl mmQ (loadP_w ag49 sz49 rfl rfl) rfl (rl_t rfl rl_nil)) rfl ⟨f,rfl,Iff.rfl,zle⟩
 ·have k1:=h1;try simp only [zs] at k1
  have he0:e0=0:=by simpa using h1
  subst he0;obtain⟨hln,hok⟩:=decF9 hl;obtain⟨x0,x1,x2,x3,x4,x5,x6,x7,x8,rfl⟩:=len9 hln;have y0 : [x0,x1,x2,x3,x4,x5,x6,x7,x8][0].n=x0.n:=rfl;have y3 : [x0,x1,x2,x3,x4,x5,x6,x7,x8][3].n=x3.n:=rfl;have y6 : [x0,x1,x2,x3,x4,x5,x6,x7,x8][6].n=x6.n:=rfl;have y7 : [x0,x1,x2,x3,x4,x5,x6,x7,x8][7].n=x7.n:=rfl;have y8 : [x0,x1,x2,x3,x4,x5,x6,x7,x8][8].n=x8.n:=rfl;have z0:x0.n<256:=Nat.lt_of_lt_of_eq (hok 0 (by simp)).1 (by kernel_rfl);have z7:x7.n<256:=Nat.lt_of_lt_of_eq (hok 7 (by simp)).1 (by kernel_rfl);have z3:x3.n<2^64:=Nat.lt_of_lt_of_eq (hok 3 (by simp)).1 (by kernel_rfl);have z6:x6.n<2^64:=Nat.lt_of_lt_of_eq (hok 6 (by simp)).1 (by kernel_rfl);have z8:x8.n<2^64:=Nat.lt_of_lt_of_eq (hok 8 (by simp)).1 (by kernel_rfl);have t1:x1.s.size<=100000:=(hok 1 (by simp)).2;have t2:x2.s.size<=100000:=(hok 2 (by simp)).2;refine Q35 ?_;refine Q63 ?_;refine o_q (q_idx und105 sz102 rfl rfl (by omega) (gm 3 (by first|omega|simp)) rfl) rfl rfl rfl ?_;refine Q160 fo102_1 ?_;refine o_q (q_ld ag100 sz100 rfl (gm 3 (by first|omega|simp)) rfl (v_raw rfl)) rfl rfl rfl ?_;refine Q61 ?_;refine Q1 ?_;refine o_cases (want:=false) (j:=5) rfl rfl (fun h2=>?_) (fun h2=>?_)
  ·have k2:=h2;try simp only [zs] at k2
   have g3:¬ (9007199254740991:Int)<(x3.n:Int):=of_decide_eq_false h2;refine Q14 h2 ?_;refine Q76 ?_;refine Q14 h2 ?_;refine o_q (q_idx und105 sz102 rfl rfl (by omega) (gm 6 (by first|omega|simp)) rfl) rfl rfl rfl ?_;refine Q14 h2 ?_;refine Q160 fo102_1 ?_;refine Q14 h2 ?_;refine o_q (q_ld ag100 sz100 rfl (gm 6 (by first|omega|simp)) rfl (v_raw rfl)) rfl rfl rfl ?_;refine Q14 h2 ?_;refine Q61 ?_;refine Q33 h2 ?_;refine Q1 ?_;refine o_cases (want:=false) (j:=12) rfl rfl (fun h3=>?_) (fun h3=>?_)
   ·have k3:=h3;try simp only [zs] at k3
    have g6:¬ (9007199254740992:Int)<(x6.n:Int):=of_decide_eq_false h3;refine Q14 h3 ?_;refine Q76 ?_;refine Q14 h3 ?_;refine o_q (q_idx und105 sz102 rfl rfl (by omega) (gm 8 (by first|omega|simp)) rfl) rfl rfl rfl ?_;refine Q14 h3 ?_;refine Q160 fo102_1 ?_;refine Q14 h3 ?_;refine o_q (q_ld ag100 sz100 rfl (gm 8 (by first|omega|simp)) rfl (v_raw rfl)) rfl rfl rfl ?_;refine Q14 h3 ?_;refine Q61 ?_;refine Q33 h3 ?_;refine o_nil ?_;refine s_cond rfl (fun h4=>?_) (fun h4=>?_)
    ·have k4:=h4;try simp only [zs] at k4
     have g8:(9007199254740991:Int)<(x8.n:Int):=of_decide_eq_true h4;obtain⟨rfl,rfl⟩:=Prod.mk.inj (hd.symm.trans (decC_bad hl (by omega)));refine Q0 ?_;refine Q180 bz49 bp49 ?_;refine Q13 sz49 ?_;refine Q10 ?_;refine ret_many (.inl rfl) rfl (rl_c rfl mmQ (loadP_w ag49 sz49 rfl rfl) rfl (rl_t rfl rl_nil)) rfl ⟨10,rfl,Iff.rfl,zle⟩
    ·have k4:=h4;try simp only [zs] at k4
     have g8:¬ (9007199254740991:Int)<(x8.n:Int):=of_decide_eq_false h4;refine Q35 ?_;refine s_draw rfl ?_;refine Q83 ?_;refine d_q rfl (q_idx und105 sz102 rfl rfl (by omega) (gm 0 (by first|omega|simp)) rfl) rfl rfl rfl ?_;refine Q93 fo102_1 ?_;refine d_q rfl (q_ld ag100 sz100 rfl (gm 0 (by first|omega|simp)) rfl (v_raw rfl)) rfl rfl rfl ?_;refine Q166 und100 und3 ?_;refine Q83 ?_;refine d_q rfl (q_idx und105 sz102 rfl rfl (by omega) (gm 1 (by first|omega|simp)) rfl) rfl rfl rfl ?_;refine Q93 fo102_2 ?_;refine d_q rfl (q_ld ag9 sz9 rfl (gm 1 (by first|omega|simp)) rfl (v_raw rfl)) rfl rfl rfl ?_;refine Q83 ?_;refine d_q rfl (q_idx und105 sz102 rfl rfl (by omega) (gm 2 (by first|omega|simp)) rfl) rfl rfl rfl ?_;refine Q93 fo102_2 ?_;refine d_q rfl (q_ld ag9 sz9 rfl (gm 2 (by first|omega|simp)) rfl (v_raw rfl)) rfl rfl rfl ?_;refine Q83 ?_;refine d_q rfl (q_idx und105 sz102 rfl rfl (by omega) (gm 3 (by first|omega|simp)) rfl) rfl rfl rfl ?_;refine Q93 fo102_1 ?_;refine d_q rfl (q_ld ag100 sz100 rfl (gm 3 (by first|omega|simp)) rfl (v_raw rfl)) rfl rfl rfl ?_;refine Q166 und100 und3 ?_;refine Q83 ?_;refine d_q rfl (q_idx und105 sz102 rfl rfl (by omega) (gm 4 (by first|omega|simp)) rfl) rfl rfl rfl ?_;refine Q93 fo102_2 ?_;refine d_q rfl (q_ld ag9 sz9 rfl (gm 4 (by first|omega|simp)) rfl (v_raw rfl)) rfl rfl rfl ?_;refine Q83 ?_;refine d_q rfl (q_idx und105 sz102 rfl rfl (by omega) (gm 5 (by first|omega|simp)) rfl) rfl rfl rfl ?_;refine Q93 fo102_2 ?_;refine d_q rfl (q_ld ag9 sz9 rfl (gm 5 (by first|omega|simp)) rfl (v_raw rfl)) rfl rfl rfl ?_;refine Q83 ?_;refine d_q rfl (q_idx und105 sz102 rfl rfl (by omega) (gm 6 (by first|omega|simp)) rfl) rfl rfl rfl ?_;refine Q93 fo102_1 ?_;refine d_q rfl (q_ld ag100 sz100 rfl (gm 6 (by first|omega|simp)) rfl (v_raw rfl)) rfl rfl rfl ?_;refine Q166 und100 und3 ?_;refine Q253 ?_;refine Q83 ?_;refine d_q rfl (q_idx und105 sz102 rfl rfl (by omega) (gm 7 (by first|omega|simp)) rfl) rfl rfl rfl ?_;refine Q93 fo102_1 ?_;refine d_q rfl (q_ld ag100 sz100 rfl (gm 7 (by first|omega|simp)) rfl (v_raw rfl)) rfl rfl rfl ?_;refine Q166 und100 und3 ?_;refine Q83 ?_;refine d_q rfl (q_idx und105 sz102 rfl rfl (by omega) (gm 8 (by first|omega|simp)) rfl) rfl rfl rfl ?_;refine Q93 fo102_1 ?_;refine d_q rfl (q_ld ag100 sz100 rfl (gm 8 (by first|omega|simp)) rfl (v_raw rfl)) rfl rfl rfl ?_;refine Q166 und100 und3 ?_;refine Q276 bz49 bp49 fo49_0 fo49_1 fo49_2 fo49_3 fo49_4 fo49_5 fo49_6 fo49_7 fo49_8 ?_;refine Q3 ?_;refine o_alloc zc49 (fun B2 hB2=>?_);have f1_2:B1≠B2:=Mem.fresh_ne hB2 mmQ;have g2_1:B2≠B1:=f1_2.symm;have m2:M B2=none:=zm hB2;refine o_nil ⟨(by simp [Mem.upd, *]),?_⟩;refine Q118 sz49 ?_;refine o_nil ⟨(by simp [Mem.upd, *]),?_⟩;refine d_nil ?_;refine Q89 ag49 sz49 ?_;refine o_call (((snd122 (cmdOf x0 x1 x2 x3 x4 x5 x6 x7 x8) ⟨by show x1.s.size<2^62;omega,by show x2.s.size<2^62;omega⟩ _).det)) goes122 (ac (v_agg rfl) ac_nil) rfl ?_;refine Q20 ?_;refine Q107 ?_;refine s_cond rfl (fun h5=>?_) (fun h5=>?_)
     ·have k5:=h5;try simp only [zs] at k5
      have hr:rightC (cmdOf x0 x1 x2 x3 x4 x5 x6 x7 x8)=false:=by simpa using h5
      obtain⟨rfl,rfl⟩:=Prod.mk.inj (hd.symm.trans (decC_nr hl (by omega) hr));refine Q0 ?_;refine Q180 bz49 bp49 ?_;refine Q13 sz49 ?_;refine Q10 ?_;refine ret_many (.inl rfl) rfl (rl_c rfl mmQ (loadP_w ag49 sz49 rfl rfl) rfl (rl_t rfl rl_nil)) rfl ⟨10,rfl,Iff.rfl,zle⟩
     ·have k5:=h5;try simp only [zs] at k5
      have hr:rightC (cmdOf x0 x1 x2 x3 x4 x5 x6 x7 x8)=true:=by simpa using h5
      obtain⟨rfl,rfl⟩:=Prod.mk.inj (hd.symm.trans (decC_yes hl (by omega) hr));refine s_skip ?_;refine Q51 ag49 sz49 sz49 ?_;refine Q2 ?_;refine ret_many (.inl rfl) rfl (rl_c rfl mmQ (loadP_w ag49 sz49 rfl rfl) rfl (rl_t rfl rl_nil)) rfl ⟨0,rfl,Iff.rfl,zle⟩
   ·have k3:=h3;try simp only [zs] at k3
    have g6:(9007199254740992:Int)<(x6.n:Int):=of_decide_eq_true h3;obtain⟨rfl,rfl⟩:=Prod.mk.inj (hd.symm.trans (decC_bad hl (by omega)));refine Q48 h3 h3 h3 h3 ?_;refine Q155 h3 ?_;refine Q19 h3 ?_;refine Q71 ?_;refine Q0 ?_;refine Q180 bz49 bp49 ?_;refine Q13 sz49 ?_;refine Q10 ?_;refine ret_many (.inl rfl) rfl (rl_c rfl mmQ (loadP_w ag49 sz49 rfl rfl) rfl (rl_t rfl rl_nil)) rfl ⟨10,rfl,Iff.rfl,zle⟩
  ·have k2:=h2;try simp only [zs] at k2
   have g3:(9007199254740991:Int)<(x3.n:Int):=of_decide_eq_true h2;obtain⟨rfl,rfl⟩:=Prod.mk.inj (hd.symm.trans (decC_bad hl (by omega)));refine Q48 h2 h2 h2 h2 ?_;refine Q155 h2 ?_;refine Q19 h2 ?_;refine Q28 ?_;refine Q65 ?_;refine o_no rfl rfl rfl rfl rfl ?_;refine Q45 ?_;refine Q71 ?_;refine Q0 ?_;refine Q180 bz49 bp49 ?_;refine Q13 sz49 ?_;refine Q10 ?_;refine ret_many (.inl rfl) rfl (rl_c rfl mmQ (loadP_w ag49 sz49 rfl rfl) rfl (rl_t rfl rl_nil)) rfl ⟨10,rfl,Iff.rfl,zle⟩
end C17
