import Derived.Test.YticeppepdlgbhaaGreatDoorHz
import Derived.Test.YticeppepdlgbhaaGreatDoorZw13
open Go Go.Proofs Go.Am
set_option linter.unusedVariables false
set_option linter.unusedSimpArgs false
set_option autoImplicit false
set_option maxHeartbeats 4000000
set_option maxRecDepth 20000
namespace C17
theorem fo136_3:fo Tryz.prog 136 3=some (3,1):=by kernel_rfl
def tk36:Nat->Nat->Option Nat:=fun _ _=>none
def pl36:Nat->List PStep:=fun _=>[]
theorem cb36:Tryz.f36.body.map (codeB Tryz.prog Tryz.f36.ntmps tk36 pl36)=some true:=by kernel_rfl
theorem goes36:goesB Tryz.prog 36=true:=by kernel_rfl
theorem dec75 {s:ByteArray}{c:Cmd}{f:Int}(hd:decC s=(c,f))(M:Mem)(hs:s.size<2^62):SoundCall Tryz.prog 75 [str s] M fun r M'=>(∃ e,r = .tup [encC c,int e]/\(e=0↔f=0))/\M'=M :=
 ((snd75 s c f hd M hs).trim fun _ _ ⟨_,_,_,h⟩=>h).mono fun r M' ⟨⟨_,e,h1,h2,_⟩,h3⟩=>⟨⟨e,h1,h2⟩,h3⟩
theorem right_name {c:Cmd}(h:rightC c=true):c.name.size<=20:=by
 unfold rightC namesC at h;simp only [Bool.and_eq_true] at h;have h2:=h.1.1.2.2;split at h2
 ·exact word_le h2
 ·rw [of_decide_eq_true h2];exact Nat.zero_le _
theorem right_kind {c:Cmd}(h:rightC c=true):1<=c.kind/\c.kind<=11:=by
 unfold rightC rangeC nOk at h;simp only [Bool.and_eq_true,Bool.or_eq_true,decide_eq_true_eq] at h;omega
theorem step_err {x:Mc}{s:ByteArray}{c:Cmd}{f:Int}{p:Mc×Rp}(hd:decC s=(c,f))(hp:stepM x s=p)(hf:f≠0):p=(cntM x s,⟨1,0,[]⟩):=by
 rw [← hp];unfold stepM;rw [hd,if_pos hf]
theorem step_do {x:Mc}{s:ByteArray}{c:Cmd}{f:Int}{p:Mc×Rp}(hd:decC s=(c,f))(hp:stepM x s=p)(hf:f=0):p=doC (cntM x s) c/\rightC c=true:=by
 subst hf;refine⟨?_,?_⟩
 ·rw [← hp];unfold stepM;rw [hd,if_neg (fun h=>h rfl)]
 ·have:=decC_right (s:=s) (by rw [hd]);rwa [hd] at this
theorem snd36 (d:Nat)(yd:ByteArray->Nat)(vs:Value)(x:Mc)(O:Nat->Prop)(n:Nat)(s:ByteArray)(c:Cmd)(f:Int)(o1 o3:Bool)(M:Mem)(hr:RmIs M d yd vs x O)(hd:M d=some (.cells (rmC yd x vs o1 o3)))(ho:DcOk n x)(hn:n+1<2^30)(hs:s.size<2^62)(hdc:decC s=(c,f))(p:Mc×Rp)(hp:stepM x s=p):SoundCall Tryz.prog 36 [ptr d,str s] M fun r M'=>(RP r p.2\/(p.2.recs=[]/\r = .agg [int p.2.code,int p.2.n,.raw (.slice none 0 0)]))/\RAft M M' d p.1 O:=by
 have hle:=Mem.le_refl M;have hcn:=ho.cnt;have hod:=hr.od;have ho2:=dc_cnt ho s;refine SoundCall.go tk36 pl36 mixed Tryz.func36 cb36 rfl (Nat.le_of_ble_eq_true rfl) ?_;refine Q0 ?_;refine o_alloc zc56 (fun B1 hB1=>?_);have cd1:d≠B1:=Mem.fresh_ne hB1 hd;have cd1b:=cd1.symm;have m1:M B1=none:=zm hB1;refine Q52 ?_;refine Q81 fo136_3 ag3 sz3 ?_;refine Q43 ?_;refine Q44 fo136_3 ?_;refine Q82 sz3 ?_;refine Q52 ?_;refine Q62 fo136_4 ?_;refine Q230 ?_;refine Q1 ?_;refine o_call (((C3.snd74 x.dig s _ hs ho.dig).det)) goes74 (ac (v_agg rfl) (ac (v_raw rfl) ac_nil)) rfl ?_;refine Q44 fo136_4 ?_;refine Q231 ?_;refine o_nil ?_;refine Q7 ?_;refine o_callx ((dec75 hdc _ hs)) goes75 (ac (v_raw rfl) ac_nil) rfl ?_;rintro r M5 ⟨⟨e,rfl,he⟩,rfl⟩;refine Q80 ?_;refine o_alloc zc49 (fun B2 hB2=>?_);have cd2:d≠B2:=Mem.fresh_ne hB2 (Mem.upd_self _ _ _);have cd2b:=cd2.symm;have f1_2:B1≠B2:=Mem.fresh_ne hB2 mmQ;have g2_1:B2≠B1:=f1_2.symm;have m2:M B2=none:=zm hB2;refine Q13 sz49 ?_;refine Q20 ?_;refine Q106 ?_;refine s_cond rfl (fun h1=>?_) (fun h1=>?_)
 ·have k1:=h1;try simp only [zs] at k1
  obtain rfl:=step_err hdc hp (fun hf=>absurd (he.2 hf) (by simpa using h1));refine Q0 ?_;refine Q135 bz56 bp56 fo56_0 ?_;refine Q64 sz56 ?_;exact ret_cell (.inl rfl) rfl rfl mmQ (loadP_w ag56 sz56 rfl rfl) (⟨.inr ⟨rfl,rfl⟩,hr.cntA (o1:=o1) (o3:=o3) (m:=x.cnt+1) (g:=C3.onP x.dig s) mmQ (fun c0 h1 h2=>by have n1:c0≠B1:=(fun e=>h2 (by rw [e];exact m1));have n2:c0≠B2:=(fun e=>h2 (by rw [e];exact m2));simp only [Mem.upd,if_neg n1,if_neg n2,if_neg h1])⟩)
 ·have k1:=h1;try simp only [zs] at k1
  obtain⟨hpd,hrc⟩:=step_do hdc hp (he.1 (by simpa using h1));have hnm:=right_name hrc;have hkk:=right_kind hrc;have hnB:¬ O B1:=fun hc=>hr.ok B1 hc m1
  refine Q35 ?_;refine Q6 fo49_0 ag3 sz3 ?_;refine Q68 ?_;refine Q16 ?_;refine s_cond rfl (fun h2=>?_) (fun h2=>?_)
  ·have k2:=h2;try simp only [zs] at k2
   have hk:=of_decide_eq_true h2;obtain rfl:p=creM (cntM x s) c:=by
    rw [hpd];unfold doC;rw [if_pos (by omega)]
   refine Q17 ?_;refine Q50 ag49 sz49 ?_;refine o_callx ((creD ⟨yd,vs,hr.cnt (o1:=o1) (o3:=o3) (m:=x.cnt+1) (g:=C3.onP x.dig s) mmQ (fun c0 h1 h2=>by have n1:c0≠B1:=(fun e=>h2 (by rw [e];exact m1));have n2:c0≠B2:=(fun e=>h2 (by rw [e];exact m2));simp only [Mem.upd,if_neg n1,if_neg n2,if_neg h1])⟩ ho2 (right_word hrc (by unfold nTopic;simp [hk])))) goes76 (ac (mvQ) (ac (v_agg rfl) ac_nil)) rfl ?_;rintro r M4 ⟨rfl,hA⟩;have hB4:=hA.keep (B:=B1) mmQ hnB;refine Q161 sz56 ?_;refine Q77 ?_;exact ret_cell (.inl rfl) rfl rfl mmQ (loadP_w ag56 sz56 rfl rfl) (⟨.inl rfl,hA.wrap hr.od (nn mmQ) (fun c0 h1 h2=>by have n1:c0≠B1:=(fun e=>h2 (by rw [e];exact m1));have n2:c0≠B2:=(fun e=>h2 (by rw [e];exact m2));simp only [Mem.upd,if_neg n1,if_neg n2,if_neg h1]) m1 (nn mmQ) hr.ok (fun c0 h0 _=>upd_other h0)⟩)
  ·have k2:=h2;try simp only [zs] at k2
   have gh2:=of_decide_eq_false h2;refine s_seq ?_;refine Q16 ?_;refine s_cond rfl (fun h3=>?_) (fun h3=>?_)
   ·have k3:=h3;try simp only [zs] at k3
    have hk:=of_decide_eq_true h3;obtain rfl:p=chgM (cntM x s) c:=by
     rw [hpd];unfold doC;rw [if_neg (by omega),if_neg (by omega),if_pos (by omega)]
    refine Q127 h3 ?_;refine Q17 ?_;refine Q50 ag49 sz49 ?_;refine o_callx ((chgD ⟨yd,vs,hr.cnt (o1:=o1) (o3:=o3) (m:=x.cnt+1) (g:=C3.onP x.dig s) mmQ (fun c0 h1 h2=>by have n1:c0≠B1:=(fun e=>h2 (by rw [e];exact m1));have n2:c0≠B2:=(fun e=>h2 (by rw [e];exact m2));simp only [Mem.upd,if_neg n1,if_neg n2,if_neg h1])⟩ ho2 (by omega) (by omega))) goes77 (ac (mvQ) (ac (v_agg rfl) ac_nil)) rfl ?_;rintro r M4 ⟨rfl,hA⟩;have hB4:=hA.keep (B:=B1) mmQ hnB;refine Q161 sz56 ?_;refine Q77 ?_;exact ret_cell (.inl rfl) rfl rfl mmQ (loadP_w ag56 sz56 rfl rfl) (⟨.inl rfl,hA.wrap hr.od (nn mmQ) (fun c0 h1 h2=>by have n1:c0≠B1:=(fun e=>h2 (by rw [e];exact m1));have n2:c0≠B2:=(fun e=>h2 (by rw [e];exact m2));simp only [Mem.upd,if_neg n1,if_neg n2,if_neg h1]) m1 (nn mmQ) hr.ok (fun c0 h0 _=>upd_other h0)⟩)
   ·have k3:=h3;try simp only [zs] at k3
    have gh3:=of_decide_eq_false h3;refine Q16 ?_;refine s_cond rfl (fun h4=>?_) (fun h4=>?_)
    ·have k4:=h4;try simp only [zs] at k4
     have hk:=of_decide_eq_true h4;obtain rfl:p=chgM (cntM x s) c:=by
      rw [hpd];unfold doC;rw [if_neg (by omega),if_neg (by omega),if_pos (by omega)]
     refine Q127 h4 ?_;refine Q17 ?_;refine Q50 ag49 sz49 ?_;refine o_callx ((chgD ⟨yd,vs,hr.cnt (o1:=o1) (o3:=o3) (m:=x.cnt+1) (g:=C3.onP x.dig s) mmQ (fun c0 h1 h2=>by have n1:c0≠B1:=(fun e=>h2 (by rw [e];exact m1));have n2:c0≠B2:=(fun e=>h2 (by rw [e];exact m2));simp only [Mem.upd,if_neg n1,if_neg n2,if_neg h1])⟩ ho2 (by omega) (by omega))) goes77 (ac (mvQ) (ac (v_agg rfl) ac_nil)) rfl ?_;rintro r M4 ⟨rfl,hA⟩;have hB4:=hA.keep (B:=B1) mmQ hnB;refine Q161 sz56 ?_;refine Q77 ?_;exact ret_cell (.inl rfl) rfl rfl mmQ (loadP_w ag56 sz56 rfl rfl) (⟨.inl rfl,hA.wrap hr.od (nn mmQ) (fun c0 h1 h2=>by have n1:c0≠B1:=(fun e=>h2 (by rw [e];exact m1));have n2:c0≠B2:=(fun e=>h2 (by rw [e];exact m2));simp only [Mem.upd,if_neg n1,if_neg n2,if_neg h1]) m1 (nn mmQ) hr.ok (fun c0 h0 _=>upd_other h0)⟩)
    ·have k4:=h4;try simp only [zs] at k4
     have gh4:=of_decide_eq_false h4;refine Q15 ?_;refine Q105 ?_;refine s_cond rfl (fun h5=>?_) (fun h5=>?_)
     ·have k5:=h5;try simp only [zs] at k5
      have hk:=of_decide_eq_true h5;obtain rfl:p=chgM (cntM x s) c:=by
       rw [hpd];unfold doC;rw [if_neg (by omega),if_neg (by omega),if_pos (by omega)]
      refine Q17 ?_;refine Q50 ag49 sz49 ?_;refine o_callx ((chgD ⟨yd,vs,hr.cnt (o1:=o1) (o3:=o3) (m:=x.cnt+1) (g:=C3.onP x.dig s) mmQ (fun c0 h1 h2=>by have n1:c0≠B1:=(fun e=>h2 (by rw [e];exact m1));have n2:c0≠B2:=(fun e=>h2 (by rw [e];exact m2));simp only [Mem.upd,if_neg n1,if_neg n2,if_neg h1])⟩ ho2 (by omega) (by omega))) goes77 (ac (mvQ) (ac (v_agg rfl) ac_nil)) rfl ?_;rintro r M4 ⟨rfl,hA⟩;have hB4:=hA.keep (B:=B1) mmQ hnB;refine Q161 sz56 ?_;refine Q77 ?_;exact ret_cell (.inl rfl) rfl rfl mmQ (loadP_w ag56 sz56 rfl rfl) (⟨.inl rfl,hA.wrap hr.od (nn mmQ) (fun c0 h1 h2=>by have n1:c0≠B1:=(fun e=>h2 (by rw [e];exact m1));have n2:c0≠B2:=(fun e=>h2 (by rw [e];exact m2));simp only [Mem.upd,if_neg n1,if_neg n2,if_neg h1]) m1 (nn mmQ) hr.ok (fun c0 h0 _=>upd_other h0)⟩)
     ·have k5:=h5;try simp only [zs] at k5
      have gh5:=of_decide_eq_false h5;refine Q16 ?_;refine s_cond rfl (fun h6=>?_) (fun h6=>?_)
      ·have k6:=h6;try simp only [zs] at k6
       have hk:=of_decide_eq_true h6;obtain rfl:p=subM (cntM x s) c:=by
        rw [hpd];unfold doC;rw [if_neg (by omega),if_pos (by omega)]
       refine Q17 ?_;refine Q50 ag49 sz49 ?_;refine o_callx ((subD ⟨yd,vs,hr.cnt (o1:=o1) (o3:=o3) (m:=x.cnt+1) (g:=C3.onP x.dig s) mmQ (fun c0 h1 h2=>by have n1:c0≠B1:=(fun e=>h2 (by rw [e];exact m1));have n2:c0≠B2:=(fun e=>h2 (by rw [e];exact m2));simp only [Mem.upd,if_neg n1,if_neg n2,if_neg h1])⟩ ho2 (by omega))) goes78 (ac (mvQ) (ac (v_agg rfl) ac_nil)) rfl ?_;rintro r M4 ⟨rfl,hA⟩;have hB4:=hA.keep (B:=B1) mmQ hnB;refine Q161 sz56 ?_;refine Q77 ?_;exact ret_cell (.inl rfl) rfl rfl mmQ (loadP_w ag56 sz56 rfl rfl) (⟨.inl rfl,hA.wrap hr.od (nn mmQ) (fun c0 h1 h2=>by have n1:c0≠B1:=(fun e=>h2 (by rw [e];exact m1));have n2:c0≠B2:=(fun e=>h2 (by rw [e];exact m2));simp only [Mem.upd,if_neg n1,if_neg n2,if_neg h1]) m1 (nn mmQ) hr.ok (fun c0 h0 _=>upd_other h0)⟩)
      ·have k6:=h6;try simp only [zs] at k6
       have gh6:=of_decide_eq_false h6;refine s_seq ?_;refine Q16 ?_;refine s_cond rfl (fun h7=>?_) (fun h7=>?_)
       ·have k7:=h7;try simp only [zs] at k7
        have hk:=of_decide_eq_true h7;obtain rfl:p=wanM (cntM x s) c:=by
         rw [hpd];unfold doC;rw [if_neg (by omega),if_neg (by omega),if_neg (by omega),if_neg (by omega)]
        refine Q127 h7 ?_;refine Q17 ?_;refine Q50 ag49 sz49 ?_;refine o_callx ((wanD ⟨yd,vs,hr.cnt (o1:=o1) (o3:=o3) (m:=x.cnt+1) (g:=C3.onP x.dig s) mmQ (fun c0 h1 h2=>by have n1:c0≠B1:=(fun e=>h2 (by rw [e];exact m1));have n2:c0≠B2:=(fun e=>h2 (by rw [e];exact m2));simp only [Mem.upd,if_neg n1,if_neg n2,if_neg h1])⟩ (right_want hrc (by omega)))) goes79 (ac (mvQ) (ac (v_agg rfl) ac_nil)) rfl ?_;rintro r M4 ⟨rfl,hA⟩;have hB4:=hA.keep (B:=B1) mmQ hnB;refine Q161 sz56 ?_;refine Q77 ?_;exact ret_cell (.inl rfl) rfl rfl mmQ (loadP_w ag56 sz56 rfl rfl) (⟨.inl rfl,hA.wrap hr.od (nn mmQ) (fun c0 h1 h2=>by have n1:c0≠B1:=(fun e=>h2 (by rw [e];exact m1));have n2:c0≠B2:=(fun e=>h2 (by rw [e];exact m2));simp only [Mem.upd,if_neg n1,if_neg n2,if_neg h1]) m1 (nn mmQ) hr.ok (fun c0 h0 _=>upd_other h0)⟩)
       ·have k7:=h7;try simp only [zs] at k7
        have gh7:=of_decide_eq_false h7;refine Q15 ?_;refine Q105 ?_;refine s_cond rfl (fun h8=>?_) (fun h8=>?_)
        ·have k8:=h8;try simp only [zs] at k8
         have hk:=of_decide_eq_true h8;obtain rfl:p=wanM (cntM x s) c:=by
          rw [hpd];unfold doC;rw [if_neg (by omega),if_neg (by omega),if_neg (by omega),if_neg (by omega)]
         refine Q17 ?_;refine Q50 ag49 sz49 ?_;refine o_callx ((wanD ⟨yd,vs,hr.cnt (o1:=o1) (o3:=o3) (m:=x.cnt+1) (g:=C3.onP x.dig s) mmQ (fun c0 h1 h2=>by have n1:c0≠B1:=(fun e=>h2 (by rw [e];exact m1));have n2:c0≠B2:=(fun e=>h2 (by rw [e];exact m2));simp only [Mem.upd,if_neg n1,if_neg n2,if_neg h1])⟩ (right_want hrc (by omega)))) goes79 (ac (mvQ) (ac (v_agg rfl) ac_nil)) rfl ?_;rintro r M4 ⟨rfl,hA⟩;have hB4:=hA.keep (B:=B1) mmQ hnB;refine Q161 sz56 ?_;refine Q77 ?_;exact ret_cell (.inl rfl) rfl rfl mmQ (loadP_w ag56 sz56 rfl rfl) (⟨.inl rfl,hA.wrap hr.od (nn mmQ) (fun c0 h1 h2=>by have n1:c0≠B1:=(fun e=>h2 (by rw [e];exact m1));have n2:c0≠B2:=(fun e=>h2 (by rw [e];exact m2));simp only [Mem.upd,if_neg n1,if_neg n2,if_neg h1]) m1 (nn mmQ) hr.ok (fun c0 h0 _=>upd_other h0)⟩)
        ·have k8:=h8;try simp only [zs] at k8
         have gh8:=of_decide_eq_false h8;refine Q47 ?_;refine Q17 ?_;refine Q50 ag49 sz49 ?_;refine o_callx ((folD ⟨yd,vs,hr.cnt (o1:=o1) (o3:=o3) (m:=x.cnt+1) (g:=C3.onP x.dig s) mmQ (fun c0 h1 h2=>by have n1:c0≠B1:=(fun e=>h2 (by rw [e];exact m1));have n2:c0≠B2:=(fun e=>h2 (by rw [e];exact m2));simp only [Mem.upd,if_neg n1,if_neg n2,if_neg h1])⟩ ho2 (by omega) (by omega))) goes80 (ac (mvQ) (ac (v_agg rfl) ac_nil)) rfl ?_;obtain rfl:p=folM (cntM x s) c:=by
          rw [hpd];unfold doC;rw [if_neg (by omega),if_neg (by omega),if_neg (by omega),if_pos (by omega)]
         rintro r M4 ⟨rfl,hA⟩;have hB4:=hA.keep (B:=B1) mmQ hnB;refine Q58 sz56 ?_;exact ret_cell (.inl rfl) rfl rfl mmQ (loadP_w ag56 sz56 rfl rfl) (⟨.inl rfl,hA.wrap hr.od (nn mmQ) (fun c0 h1 h2=>by have n1:c0≠B1:=(fun e=>h2 (by rw [e];exact m1));have n2:c0≠B2:=(fun e=>h2 (by rw [e];exact m2));simp only [Mem.upd,if_neg n1,if_neg n2,if_neg h1]) m1 (nn mmQ) hr.ok (fun c0 h0 _=>upd_other h0)⟩)
end C17
open Go Go.Proofs Go.Am
set_option linter.unusedVariables false
set_option linter.unusedSimpArgs false
set_option autoImplicit false
namespace C17
section
variable {M M':Mem}{d:Nat}{x:Mc}{O:Nat->Prop}{n:Nat}{s:ByteArray}
theorem applyD (h:RmAt M d x O)(ho:DcOk n x)(hn:n+1<2^30)(hs:s.size<2^62){p:Mc×Rp}(hp:stepM x s=p):SoundCall Tryz.prog 36 [ptr d,str s] M fun r M'=>RP r p.2/\RAft M M' d p.1 O:=by
 obtain⟨yd,vs,h⟩:=h;obtain⟨o1,o3,hd⟩:=h.hd;exact rnRP (snd36 d yd vs x O n s _ _ o1 o3 M h hd ho hn hs rfl p hp) fun r M' h=>h
theorem pre_idx:∀ N:Nat,N<=7->(W7.pre N).idx 7=List.range N:=by
 intro N h;have:N=0\/N=1\/N=2\/N=3\/N=4\/N=5\/N=6\/N=7:=by omega
 rcases this with rfl|rfl|rfl|rfl|rfl|rfl|rfl|rfl<;>rfl
theorem fl_nat:∀ l:List Nat,fl natV l=l.map natV
 | []=>rfl
 | a::l=>by
  show natV a::fl natV l=_
  rw [fl_nat l];rfl
theorem newX (N:Int)(M:Mem)(h:N<1\/7<N):SoundCall Tryz.prog 35 [int N] M fun r M'=>r = .raw (.pointer none)/\M'=M :=
 (snd35 N M).mono fun r M' hq=>hq.elim (fun h=>h.2) fun ⟨h1,h2,_⟩=>by omega
theorem newD17 (N:Int)(M:Mem)(h1:1<=N)(h7:N<=7):SoundCall Tryz.prog 35 [int N] M fun r M'=>∃ d,M d=none/\r=ptr d/\RmAt M' d (newM N.toNat) (· = d)/\M.le M':=by
 have key:SoundCall Tryz.prog 35 [int N] M fun r M'=>∃ y v,M y=none/\r=ptr y/\M' y=some (.cells [.sl [] true,.raw (.slice none 0 0),.raw v,int 0,int 1,int 0])/\Ws natV 1 M' v (List.range N.toNat)/\(∀ b,bOf v b->M b=none/\b≠y)/\M.le M':=by
  refine (snd35 N M).nilout fun r M' hq=>.inr ?_
  rcases hq with ⟨h,_⟩|⟨_,_,y,v,g1,g2,g3,g4,g5,g6⟩
  ·omega
  ·refine⟨y,_,0,g3,rfl,y,v,g1,g2,Mem.upd_self _ _ _,g4.keep (fun b hb _=>upd_other (g5 b hb).2) (by decide),g5,leN g6 g1⟩
 refine key.freezeout fun r M' hq=>?_
 obtain⟨y,v,g1,g2,g3,g4,g5,g6⟩:=hq;obtain⟨b,k,R,rfl,hR,hb⟩:=g4.get (by rw [List.length_range];omega);have hln:(List.range N.toNat).length=N.toNat:=List.length_range;have hbo:=g5 b ⟨_,_,rfl,by omega⟩;have hfl:fl natV (List.range N.toNat)=(List.range N.toNat).map natV:=fl_nat _;have htk:(fl natV (List.range N.toNat)++R).take (List.range N.toNat).length=(List.range N.toNat).map natV:=by
  rw [hfl,List.take_left' (by rw [List.length_map])]
 refine⟨y,_,2,b,_,_,_,Ne.symm hbo.2,g3,rfl,hb,?_,?_,?_,hbo.1,y,g1,g2,?_,?_⟩
 ·rw [htk];intro X hX;obtain⟨a,-,rfl⟩:=List.mem_map.1 hX;rfl
 ·rw [hfl,List.length_append,List.length_map];omega
 ·omega
 ·rw [htk];refine⟨fun _=>y,.slice none 0 0,⟨⟨true,false,?_⟩,.inl ⟨none,rfl,.inl rfl,rfl⟩,fun k w e=>absurd (show (none:Option Tp)=some w from e) (by simp),rfl,fun k w e=>absurd (show (none:Option Tp)=some w from e) (by simp),fun b ⟨q,c,e,hc⟩=>(by cases e),fun k k' w w' e=>absurd (show (none:Option Tp)=some w from e) (by simp),fun c hc=>?_⟩⟩
  ·rw [Mem.upd_self];unfold rmC;rw [show (newM N.toNat).want=W7.pre N.toNat from rfl,pre_idx _ (by omega),show nmL (newM N.toNat)=[] from by unfold nmL sortS;simp [newM]];rfl
  ·rw [hc,Mem.upd_self];exact fun h=>by cases h
 ·refine leN (fun c o hc=>?_) g1;rw [Mem.del_ne (fun e=>by rw [e,hbo.1] at hc;cases hc)];exact g6 c o hc
end
end C17
