import Derived.Test.YticeppepdlgbhaaGreatDoorHz
import Derived.Test.YticeppepdlgbhaaGreatDoorZw19
import Derived.Test.YticeppepdlgbhaaGreatDoorAmG
open Go Go.Proofs Go.Am
set_option linter.unusedVariables false
set_option linter.unusedSimpArgs false
set_option autoImplicit false
set_option maxHeartbeats 4000000
set_option maxRecDepth 20000
namespace C17
theorem snd120r (b mt ms:Nat)(x:Mc)(dir:List (ByteArray×Nat))(c:Cmd)(M:Mem)(hb:M b=some (.cells (mcC mt ms x)))(hm:MapAt ptrV M mt dir)(hs:M ms=some (sbK x.sbs))(hbs:b≠ms)(s:Sb)(hn:kget x.sbs c.name=some s)(t w:Nat)(y:Tp)(hg:gets dir s.topic=some t)(ht:M t=some (.cells (tpC w y)))(hw:M w=some (tpK y))(htw:t≠w)(hso:Sorted y.recs)(hlen:y.recs.length<2^40)(hoff:∀ r∈y.recs,0<=r.off/\r.off<2^60)(hlow:0<=y.low/\y.low<2^60)(hk:c.kind=5)(hc:(ofS s y && decide (s.nxt<=y.en) && decide (1<=c.n) && decide (c.n<=50))=true):SoundCall Tryz.prog 120 [ptr b,encC c] M fun r M'=>∃ base cp,r = .agg [int 0,int (pollS s y c.n).1.nxt,.raw (.slice base (pollL s y c.n).length cp)]/\Ws enc 5 M' (.slice base (pollL s y c.n).length cp) (pollL s y c.n)/\(∀ b n,bOf (.slice base n cp) b->M b=none)/\M' ms=some (sbK (kput x.sbs c.name (pollS s y c.n).1))/\∀ d,d≠ms->M d≠none->M' d=M d:=by
 have hbm:b≠mt:=fun e=>map_cells hm (by rw [← e];exact hb)
 have hbm':=hbm.symm;have hr:∀ {B:Nat},M B=none->mt≠B:=fun h e=>hm.some (by rw [← e] at h;exact h)
 have htw':=htw.symm;have hbt:b≠t:=fun e=>by rw [← e,hb] at ht;cases ht
 have hbt':=hbt.symm;have hbw:b≠w:=fun e=>by rw [← e,hb] at hw;cases hw
 have hbw':=hbw.symm;have hst:ms≠t:=fun e=>by rw [← e,hs] at ht;cases ht
 have hst':=hst.symm;have hbs':=hbs.symm;have hmt:mt≠t:=fun e=>map_cells hm (by rw [e];exact ht)
 have hmt':=hmt.symm;refine Q202 ?_;refine Q0 ?_;refine o_box zbx rfl rfl (fun B1 hB1=>?_);have cbF1:b≠B1:=Mem.fresh_ne hB1 mmQ;have cbF1':=cbF1.symm;have cms1:ms≠B1:=Mem.fresh_ne hB1 mmQ;have cms1':=cms1.symm;have ct1:t≠B1:=Mem.fresh_ne hB1 mmQ;have ct1':=ct1.symm;have cw1:w≠B1:=Mem.fresh_ne hB1 mmQ;have cw1':=cw1.symm;have m1:M B1=none:=zm hB1;refine o_alloc zc56 (fun B2 hB2=>?_);have cb2:b≠B2:=Mem.fresh_ne hB2 mmQ;have cb2':=cb2.symm;have cms2:ms≠B2:=Mem.fresh_ne hB2 mmQ;have cms2':=cms2.symm;have ct2:t≠B2:=Mem.fresh_ne hB2 mmQ;have ct2':=ct2.symm;have cw2:w≠B2:=Mem.fresh_ne hB2 mmQ;have cw2':=cw2.symm;have f1_2:B1≠B2:=Mem.fresh_ne hB2 mmQ;have g2_1:B2≠B1:=f1_2.symm;have m2:M B2=none:=zm hB2;refine Q11 ?_;refine Q29 ?_;refine Q34 fo124_1 ag121 sz121 fo49_2 ag9 sz9 ?_;refine Q200 und121 kt9 ?_;refine Q158 ?_;refine Q172 ?_;refine Q152 ?_;refine Q3 ?_;refine o_alloc zc142 (fun B3 hB3=>?_);have cbF3:b≠B3:=Mem.fresh_ne hB3 mmQ;have cbF3':=cbF3.symm;have cms3:ms≠B3:=Mem.fresh_ne hB3 mmQ;have cms3':=cms3.symm;have ct3:t≠B3:=Mem.fresh_ne hB3 mmQ;have ct3':=ct3.symm;have cw3:w≠B3:=Mem.fresh_ne hB3 mmQ;have cw3':=cw3.symm;have f1_3:B1≠B3:=Mem.fresh_ne hB3 mmQ;have g3_1:B3≠B1:=f1_3.symm;have f2_3:B2≠B3:=Mem.fresh_ne hB3 mmQ;have g3_2:B3≠B2:=f2_3.symm;have m3:M B3=none:=zm hB3;refine o_nil ⟨(by simp [Mem.upd, *]),?_⟩;refine Q118 sz142 ?_;refine o_nil ⟨(by simp [Mem.upd, *]),?_⟩;refine Q60 ?_;refine Q4 ?_;refine Q107 ?_;refine Q187 ?_;refine Q35 ?_;refine Q29 ?_;refine Q34 fo124_0 ag120 sz120 fo142_1 ag9 sz9 ?_;refine Q3 ?_;refine m_get (k:=s.topic) und120 kt9 z24 rfl rfl (hm.keep (by repeat first|rfl|refine (upd_other (hr (by assumption))).trans ?_)) ?_;rw [hg];refine o_nil ⟨(by simp [Mem.upd, *]),?_⟩;refine Q146 ?_;refine Q60 ?_;refine Q67 ?_;refine Q11 ?_;refine Q6 fo49_0 ag3 sz3 ?_;refine Q68 ?_;refine Q16 ?_;refine Q49 ?_;refine Q16 ?_;refine Q148 ?_;refine Q15 ?_;refine Q50 ag142 sz142 ?_;refine Q22 ?_;refine Q12 fo49_6 ag3 sz3 ?_;refine o_callx (snd177r s t w y c.n _ mmQ mmQ htw hso hlen hoff hlow hc) goes177 (ac (v_agg rfl) (ac (mvQ) (ac (v_raw rfl) ac_nil))) rfl ?_;rintro r M3 ⟨base,cp,rfl,hW,hbo,hle3⟩;have hq1:=hle3 B1 _ (show _=some (.cells [int c.kind,str c.topic,str c.name,int c.seq,str c.key,str c.val,int c.n,int c.node,int c.ask]) from mmQ);have hq2:=hle3 B2 _ (show _=some (.cells [int 0,int 0,.sl [] true]) from mmQ);have hq3:=hle3 B3 _ (show _=some (.cells [str s.name,str s.topic,int s.cur,int s.nxt]) from mmQ);have hqb:=hle3 b _ (show _=some (.cells (mcC mt ms x)) from mmQ);have hqs:=hle3 ms _ (show _=some (sbK x.sbs) from mmQ);have hleM:M.le M3:=fun c0 o0 h0=>hle3 c0 o0 ((leN (leN (leN (leN (Mem.le_refl M) m1) m2) m3) m3) c0 o0 h0)
 have hbM:∀ b0 n,bOf (.slice base n cp) b0->M b0=none:=fun b0 n h=>Mem.none_of_le (leN (leN (leN (leN (Mem.le_refl M) m1) m2) m3) m3) (hbo b0 n h)
 have hb2:∀ b0 n,bOf (.slice base n cp) b0->b0≠B2/\b0≠B3/\b0≠ms:=fun b0 n h=>by
  have h9:=hbo b0 n h;refine⟨fun e=>?_,fun e=>?_,fun e=>?_⟩
  ·rw [e] at h9;exact absurd (h9.symm.trans (show _=some (.cells [int 0,int 0,.sl [] true]) from mmQ)) (by simp)
  ·rw [e] at h9;exact absurd (h9.symm.trans (show _=some (.cells [str s.name,str s.topic,int s.cur,int s.nxt]) from mmQ)) (by simp)
  ·rw [e] at h9;exact absurd (h9.symm.trans (show _=some (sbK x.sbs) from mmQ)) (by simp)
 have hps:(pollS s y c.n).2.2=0:=by unfold pollS;rw [if_pos hc]
 refine Q80 ?_;refine Q30 ?_;refine Q13 sz142 ?_;refine Q27 ?_;refine Q94 ?_;refine Q4 ?_;refine Q106 ?_;refine s_cond rfl (fun h1=>?_) (fun h1=>?_)
 ·exact absurd h1 (by decide)
 ·have k1:=h1;try simp only [zs] at k1
  refine Q35 ?_;refine Q29 ?_;refine Q34 fo124_1 ag121 sz121 fo49_2 ag9 sz9 ?_;refine Q85 ag142 sz142 ?_;refine Q3 ?_;refine o_mput und121 kt9 rfl rfl mmQ (f:=encSb) (v:=(pollS s y c.n).1) (v_agg rfl) ?_;refine o_nil ⟨(by simp [Mem.upd, *]),?_⟩;refine Q110 ?_;refine Q6 fo49_0 ag3 sz3 ?_;refine Q117 ?_;refine Q148 ?_;refine Q6 fo142_3 ag3 sz3 ?_;refine Q1 ?_;refine o_q (q_b (cs:=[.raw (.int .i64 0),_,_]) bz56 bp56 (bf fo56_1 (e_raw rfl) rfl rfl (Nat.le_of_ble_eq_true rfl) rfl (bf fo56_2 (e_raw rfl) rfl rfl (Nat.le_of_ble_eq_true rfl) rfl bf_nil))) rfl rfl rfl ?_;refine Q64 sz56 ?_;exact ret_cell (.inl rfl) rfl rfl mmQ (loadP_w ag56 sz56 rfl rfl) ⟨base,cp,rfl,hW.keep (fun b0 hb0 _=>by obtain⟨e2,e3,e4⟩:=hb2 b0 _ hb0;simp only [Mem.upd,if_neg e2,if_neg e3,if_neg e4]) (by decide),hbM,mmQ,fun d h1 h2=>by have n2:d≠B2:=(fun e=>h2 (by rw [e];exact m2));have n3:d≠B3:=(fun e=>h2 (by rw [e];exact m3));simp only [Mem.upd,if_neg n2,if_neg n3,if_neg h1];exact leK hleM h2⟩
end C17
open Go Go.Proofs Go.Am
set_option linter.unusedVariables false
set_option linter.unusedSimpArgs false
set_option autoImplicit false
namespace C17
def RW (M M':Mem)(O':Nat->Prop)(r:AVal)(p:Rp):Prop:=∃ base cp,r = .agg [int p.code,int p.n,.raw (.slice base p.recs.length cp)]/\(p.recs=[]\/(Ws enc 5 M' (.slice base p.recs.length cp) p.recs/\∀ b n,bOf (.slice base n cp) b->M b=none/\¬ O' b))
section
variable {M M':Mem}{b:Nat}{x:Mc}{O:Nat->Prop}{n:Int}{c:Cmd}
theorem poll_case (h:(doC x c).2.recs≠[]):c.kind=5/\∃ s y,kget x.sbs c.name=some s/\gets x.tps s.topic=some y/\(ofS s y && decide (s.nxt<=y.en) && decide (1<=c.n) && decide (c.n<=50))=true:=by
 unfold doC at h;split at h
 ·unfold creM at h;split at h
  ·exact absurd rfl h
  ·split at h<;>exact absurd rfl h
 ·split at h
  ·unfold subM at h;split at h
   ·exact absurd rfl h
   ·split at h
    ·exact absurd rfl h
    ·split at h<;>exact absurd rfl h
  ·split at h
   ·unfold chgM at h;split at h<;>exact absurd rfl h
   ·split at h
    ·unfold folM at h;cases hs:kget x.sbs c.name with
     | none=>rw [hs] at h;exact absurd rfl h
     | some s =>
      rw [hs] at h;dsimp only at h;cases hg:gets x.tps s.topic with
      | none=>rw [hg] at h;exact absurd rfl h
      | some y =>
       rw [hg] at h;dsimp only at h;unfold folS at h;split at h
       ·exact absurd rfl h
       ·split at h
        ·rename_i h5;refine⟨h5,s,y,rfl,hg,?_⟩;dsimp only at h;unfold pollS at h;split at h
         ·rename_i hc;exact hc
         ·exact absurd rfl h
        ·split at h<;>exact absurd rfl h
    ·unfold wanM at h;split at h<;>exact absurd rfl h
theorem does_atR (h:McAt M b x O)(ho:McOk n x)(hn:n<2^40)(hr:rightC c=true):SoundCall Tryz.prog (fnK c.kind) [ptr b,encC c] M fun r M'=>∃ O',McAt M' b (doC x c).1 O'/\Chg M M' O O'/\RW M M' O' r (doC x c).2:=by
 by_cases hrec:(doC x c).2.recs=[]
 ·refine (does_at h ho hn hr).rawagg fun r M' ⟨h1,O',h2,h3⟩=>.inr ⟨_,_,false,?_,fun base cp=>⟨O',h2,h3,base,cp,by rw [hrec];rfl,.inl hrec⟩⟩
  rw [h1];show rpV _ _ _ false=_
  rw [hrec];rfl
 ·obtain⟨hk,s,y,hs,hg,hc⟩:=poll_case hrec;have hok:=h.ok;obtain⟨mt,ms,ad,h⟩:=h;have hg':gets (x.tps.map fun p=>(p.1,(ad p.1).1)) s.topic=some (ad s.topic).1:=by rw [gdir,hg];rfl
  obtain⟨t1,t2⟩:=h.tp _ y hg;have hy:=(ho.tp _ y hg).2;have b1:=hy.en;have b2:=hy.len;have b3:=hy.low;have hps:pollS s y c.n=((pollS s y c.n).1,pollL s y c.n,0):=by unfold pollS;rw [if_pos hc]
  have hd:doC x c=(⟨x.tps,kput x.sbs c.name (pollS s y c.n).1,x.want,x.cnt,x.dig⟩,⟨0,(pollS s y c.n).1.nxt,pollL s y c.n⟩):=by
   have hf:folS s y c=((pollS s y c.n).1,0,(pollS s y c.n).1.nxt,pollL s y c.n):=by
    unfold folS;rw [if_neg (by omega),if_pos hk];rw [hps]
   unfold doC;rw [if_neg (by omega),if_neg (by omega),if_neg (by omega),if_pos (by omega)];unfold folM;rw [hs];dsimp only;rw [hg];dsimp only;rw [hf,if_pos rfl,if_pos rfl]
  have hfk:fnK c.kind=120:=by
   unfold fnK;rw [if_neg (by omega),if_neg (by omega),if_neg (by omega),if_pos (by omega)]
  rw [hd,hfk];refine (snd120r b mt ms x _ c M h.hb h.hm h.hs h.bs.1 s hs _ _ y hg' t1 t2 (kbs t1 t2) hy.srt (by omega) (fun r hr=>by have:=hy.off r hr;omega) (by omega) hk hc).mono fun r M' hq=>?_
  obtain⟨base,cp,h1,h2,h3,h4,h5⟩:=hq;obtain⟨h6,h7⟩:=h.setS h4 h5;exact⟨O,⟨mt,ms,ad,h6⟩,h7,base,cp,h1,.inr ⟨h2,fun b0 n0 hb0=>⟨h3 b0 n0 hb0,fun ho=>hok b0 ho (h3 b0 n0 hb0)⟩⟩⟩
end
end C17
open Go Go.Proofs Go.Am
set_option linter.unusedVariables false
set_option linter.unusedSimpArgs false
set_option autoImplicit false
namespace C17
theorem wrapR {M M3 M' Mf:Mem}{O O':Nat->Prop}{b B:Nat}{x':Mc}{r:AVal}{p:Rp}{base:Option Addr}{cp:Nat}(h1:McAt M' b x' O')(h2:Chg M3 M' O O')(hr:r = .agg [int p.code,int p.n,.raw (.slice base p.recs.length cp)])(hw:p.recs=[]\/(Ws enc 5 M' (.slice base p.recs.length cp) p.recs/\∀ b n,bOf (.slice base n cp) b->M3 b=none/\¬ O' b))(hOb:O b)(hb3:M3 b≠none)(hk:∀ d,d≠b->M d≠none->M3 d=M d)(m1:M B=none)(hB3:M3 B≠none)(hok:∀ c,O c->M c≠none)(hf:∀ d,d≠B->M' d≠none->Mf d=M' d):∃ O',McAt Mf b x' O'/\Chg M Mf O O'/\RW M Mf O' r p:=by
 have nB:¬ O' B:=fun hc=>(h2.new B hc).elim (fun hc=>hok B hc m1) hB3
 have e3:∀ d,M d≠none->¬ O d->M' d=M d:=fun d hd hno=>by
  have hdb:d≠b:=fun e=>hno (by rw [e];exact hOb)
  have h4:=hk d hdb hd;rw [h2.eq d (by rw [h4];exact hd) hno,h4]
 have hn3:∀ d,M3 d=none->M d=none:=fun d h4=>by
  cases e:M d with
  | none=>rfl
  | some o =>
   exfalso;by_cases hdb:d=b
   ·rw [hdb] at h4;exact hb3 h4
   ·rw [hk d hdb (by rw [e];exact fun h=>by cases h),e] at h4;cases h4
 refine⟨O',h1.fr fun c hc=>hf c (fun e=>nB (by rw [← e];exact hc)) (h1.ok c hc),⟨fun d hd hno=>?_,fun d hd=>(h2.new d hd).imp id (hn3 d),h2.up⟩,base,cp,hr,hw.imp id fun ⟨g1,g2⟩=>⟨?_,fun b0 n0 hb0=>⟨hn3 b0 (g2 b0 n0 hb0).1,(g2 b0 n0 hb0).2⟩⟩⟩
 ·rw [hf d (fun e=>hd (by rw [e];exact m1)) (by rw [e3 d hd hno];exact hd)];exact e3 d hd hno
 ·exact g1.keep (fun b0 hb0 hn=>hf b0 (fun e=>hB3 (by rw [← e];exact (g2 b0 _ hb0).1)) hn) (by decide)
theorem snd29r (b mt ms:Nat)(ad:ByteArray->Nat×Nat)(x:Mc)(O:Nat->Prop)(n:Int)(s:ByteArray)(ge:TypeId)(gf:Nat×Nat)(M:Mem)(h:McIs M b mt ms ad x O)(ho:McOk n x)(hn:n+1<2^40)(hs:s.size<2^62)(hG:M 0=some (szO ge gf))(he:(decC s).2=0):SoundCall Tryz.prog 29 [ptr b,str s] M fun r M'=>∃ O',McAt M' b (stepM x s).1 O'/\Chg M M' O O'/\RW M M' O' r (stepM x s).2:=by
 have hb:=h.hb;have hcnt:=ho.cnt;have h0b:(0:Nat)≠b:=fun e=>by rw [← e,hG] at hb;cases hb
 refine Q258 ?_;refine Q0 ?_;refine o_alloc zc56 (fun B1 hB1=>?_);have cbF1:b≠B1:=Mem.fresh_ne hB1 mmQ;have cbF1':=cbF1.symm;have c01:(0:Nat)≠B1:=Mem.fresh_ne hB1 mmQ;have m1:M B1=none:=zm hB1;refine Q52 ?_;refine Q81 fo124_3 ag3 sz3 ?_;refine Q43 ?_;refine Q44 fo124_3 ?_;refine Q82 sz3 ?_;refine Q52 ?_;refine Q62 fo124_4 ?_;refine Q230 ?_;refine Q1 ?_;refine Q259 ?_;refine Q80 ?_;refine Q44 fo124_4 ?_;refine Q231 ?_;refine o_nil ?_;refine Q7 ?_;refine Q260 ?_;refine Q80 ?_;refine o_alloc zc49 (fun B2 hB2=>?_);have cb2:b≠B2:=Mem.fresh_ne hB2 mmQ;have cb2':=cb2.symm;have c02:(0:Nat)≠B2:=Mem.fresh_ne hB2 mmQ;have f1_2:B1≠B2:=Mem.fresh_ne hB2 mmQ;have g2_1:B2≠B1:=f1_2.symm;have m2:M B2=none:=zm hB2;refine Q13 sz49 ?_;refine Q20 ?_;refine Q106 ?_;refine s_else rfl (by rw [decide_eq_true he];rfl) ?_;refine Q35 ?_;refine s_draw rfl ?_;refine Q122 fo49_0 ag3 sz3 ?_;refine Q136 ?_;refine Q85 ag49 sz49 ?_;refine Q3 ?_;refine o_call ((snd70 (decC s).1.kind _)) goes70 (ac (v_raw rfl) ac_nil) rfl ?_;refine o_nil ⟨(by simp [Mem.upd, *]),?_⟩;refine Q3 ?_;refine o_callv rfl ((does_atR (x:=(cntM x s)) (n:=n+1) (O:=O) ⟨mt,ms,ad,(h.setB mmQ (by intro d h1 h2;repeat (first|rfl|refine (upd_other (by first|assumption|exact mem_put (by assumption) h2)).trans ?_))).1⟩ (cnt_ok ho) hn (decC_right he))) (by unfold fnK;split<;>(try split)<;>(try split)<;>(try split)<;>kernel_rfl) (ac (mvQ) (ac (v_agg rfl) ac_nil)) rfl rfl ?_;rintro r M' ⟨O',hM4,hC4,base,cp,rfl,hrw⟩;have hA:Aft _ M' b _ O:=⟨O',hM4,hC4⟩;have q1:=hA.keep (d:=B1) mmQ (fun hc=>h.ok B1 hc m1);have q2:=hA.keep (d:=B2) mmQ (fun hc=>h.ok B2 hc m2);refine o_nil ⟨(by simp [Mem.upd, *]),?_⟩;refine Q118 sz56 ?_;refine o_nil ⟨(by simp [Mem.upd, *]),?_⟩;refine d_nil ?_;refine Q104 ?_;have e1:stepM x s=doC (cntM x s) (decC s).1:=by unfold stepM;rw [if_neg (fun h=>h he)]
 rw [e1];exact ret_cell (.inl rfl) rfl rfl mmQ (loadP_w ag56 sz56 rfl rfl) (wrapR (B:=B1) hM4 hC4 rfl hrw h.ob.1 (nn mmQ) (by intro d h1 h2;repeat (first|rfl|refine (upd_other (by first|assumption|exact mem_put (by assumption) h2)).trans ?_)) m1 (nn mmQ) h.ok (fun d hd _=>upd_other hd))
end C17
open Go Go.Proofs Go.Am
set_option linter.unusedVariables false
set_option linter.unusedSimpArgs false
set_option autoImplicit false
namespace C17
section
variable {ge:TypeId}{gf:Nat×Nat}{M M':Mem}{b:Nat}{n:Int}{x:Mc}{O:Nat->Prop}{s:ByteArray}
theorem apply_mR (h:Mch ge gf M b n x O)(hn:n+1<2^40)(hs:s.size<2^62){p:Mc×Rp}(e:stepM x s=p):SoundCall Tryz.prog 29 [ptr b,str s] M fun r M'=>∃ O',Mch ge gf M' b (n+2) p.1 O'/\Chg M M' O O'/\RW M M' O' r p.2:=by
 subst e;have hok:=step_ok (s:=s) h.ok;have hfin:∀ {r:AVal} {M':Mem} {O':Nat->Prop},McAt M' b (stepM x s).1 O'->Chg M M' O O'->RW M M' O' r (stepM x s).2->∃ O',Mch ge gf M' b (n+2) (stepM x s).1 O'/\Chg M M' O O'/\RW M M' O' r (stepM x s).2:=fun {r M' O'} h1 h2 h3 =>
  ⟨O',⟨h1,hok,h2.nO h.g h.no,h2.keep h.g h.no⟩,h2,h3⟩
 by_cases he:(decC s).2=0
 ·have hA:=h.at';obtain⟨mt,ms,ad,hA⟩:=hA;exact (snd29r b mt ms ad x O n s ge gf M hA h.ok hn hs h.g he).mono fun r M' ⟨O',h1,h2,h3⟩=>hfin h1 h2 h3
 ·have hrec:(stepM x s).2.recs=[]:=by unfold stepM;rw [if_pos he]
  refine (apply40 h hn hs).rawagg fun r M' ⟨h1,O',h2,h3⟩=>.inr ⟨_,_,false,?_,fun base cp=>hfin h2 h3 ⟨base,cp,by rw [hrec];rfl,.inl hrec⟩⟩
  rw [h1];show rpV _ _ _ false=_
  rw [hrec];rfl
end
end C17
