import Derived.Test.YthmhdhmfkegpiaaGreatDoorHz
import Derived.Test.YthmhdhmfkegpiaaGreatDoorNa7
open Go Go.Proofs Go.Am
set_option linter.unusedVariables false
set_option linter.unusedSimpArgs false
set_option autoImplicit false
set_option maxHeartbeats 4000000
set_option maxRecDepth 20000
namespace C17
def tk124:Nat->Nat->Option Nat:=fun _ _=>none
def pl124:Nat->List PStep
 | 6=>[.q 0,.q 1,.q 3,.q 4,.s 2 [4,3,0],.s 5 [1,0],.s 6 []]
 | _=>[]
theorem cb124:Tryz.f124.body.map (codeB Tryz.prog Tryz.f124.ntmps tk124 pl124)=some true:=by kernel_rfl
theorem goes124:goesB Tryz.prog 124=true:=by kernel_rfl
def cntM (x:Mc)(s:ByteArray):Mc:=⟨x.tps,x.sbs,x.want,x.cnt+1,C3.onP x.dig s⟩
def stepM (x:Mc)(s:ByteArray):Mc×Rp:=if (decC s).2≠0 then (cntM x s,⟨1,0,[]⟩) else doC (cntM x s) (decC s).1
theorem decC_right {s:ByteArray}(h:(decC s).2=0):rightC (decC s).1=true:=by
 unfold decC at h ⊢;split at h
 ·rename_i h1;exact absurd h h1
 ·rename_i h1;rw [if_neg h1];split at h
  ·rename_i h2;split at h
   ·rename_i h3;split at h
    ·rename_i h4;rw [if_pos h3,if_pos h4];exact h4
    ·exact absurd h (by decide)
   ·exact absurd h (by decide)
  ·exact absurd h (by decide)
theorem cnt_ok {n:Int}{x:Mc}{s:ByteArray}(h:McOk n x):McOk (n+1) (cntM x s) :=
 ⟨fun k y e=>⟨(h.tp k y e).1,tpok_mono (h.tp k y e).2 (by omega)⟩,h.sb,C3.md_right _,⟨by have:=h.cnt;show 0<=x.cnt+1;omega,by have:=h.cnt;show x.cnt+1<=_;omega⟩⟩
theorem step_ok {n:Int}{x:Mc}{s:ByteArray}(h:McOk n x):McOk (n+2) (stepM x s).1:=by
 unfold stepM;split
 ·exact (cnt_ok h).mono (by omega)
 ·exact (doC_ok (cnt_ok h)).mono (by omega)
theorem on59 (d:C3.Pr)(s:ByteArray)(M:Mem)(hs:s.size<2^62)(hd:C3.right d=true):SoundCall Tryz.prog 182 [.agg [int d.re,int d.im],str s] M fun r M'=>r = .tup [.agg [int (C3.onP d s).re,int (C3.onP d s).im],int 0]/\M'=M:=by
 have h:=C3.snd182 d s M hs;rw [hd] at h;exact h.det
theorem Aft.wrap {M M3 M' Mf:Mem}{O:Nat->Prop}{b B:Nat}{x':Mc}(h:Aft M3 M' b x' O)(hOb:O b)(hb3:M3 b≠none)(hk:∀ d,d≠b->M d≠none->M3 d=M d)(m1:M B=none)(hB3:M3 B≠none)(hok:∀ c,O c->M c≠none)(hf:∀ d,d≠B->M' d≠none->Mf d=M' d):Aft M Mf b x' O:=by
 obtain⟨O',h1,h2⟩:=h;have nB:¬ O' B:=fun hc=>(h2.new B hc).elim (fun hc=>hok B hc m1) hB3
 have e3:∀ d,M d≠none->¬ O d->M' d=M d:=fun d hd hno=>by
  have hdb:d≠b:=fun e=>hno (by rw [e];exact hOb)
  have h4:=hk d hdb hd;rw [h2.eq d (by rw [h4];exact hd) hno,h4]
 refine⟨O',h1.fr fun c hc=>hf c (fun e=>nB (by rw [← e];exact hc)) (h1.ok c hc),⟨fun d hd hno=>?_,fun d hd=>?_,h2.up⟩⟩
 ·rw [hf d (mem_put m1 hd) (by rw [e3 d hd hno];exact hd)];exact e3 d hd hno
 ·rcases h2.new d hd with h4|h4
  ·exact .inl h4
  ·refine .inr ?_;by_cases hd2:d=b
   ·rw [hd2] at h4;exact absurd h4 hb3
   ·cases e:M d with
    | none=>rfl
    | some o=>rw [hk d hd2 (by rw [e];exact fun h=>by cases h),e] at h4;cases h4
theorem Aft.keep {M3 M':Mem}{O:Nat->Prop}{b d:Nat}{x':Mc}{o:AObj}(h:Aft M3 M' b x' O)(hd:M3 d=some o)(hno:¬ O d):M' d=some o:=by
 obtain⟨O',h1,h2⟩:=h;rw [h2.eq d (by rw [hd];exact fun h=>by cases h) hno];exact hd
theorem nn {M:Mem}{c:Nat}{o:AObj}(h:M c=some o):M c≠none:=by rw [h];exact fun h=>by cases h
theorem snd124a (b mt ms:Nat)(ad:ByteArray->Nat×Nat)(x:Mc)(O:Nat->Prop)(n:Int)(s:ByteArray)(ge:TypeId)(gf:Nat×Nat)(M:Mem)(h:McIs M b mt ms ad x O)(ho:McOk n x)(hn:n+1<2^40)(hs:s.size<2^62)(hG:M 0=some (szO ge gf))(he:(decC s).2≠0):SoundCall Tryz.prog 124 [ptr b,str s] M fun r M'=>r=rpO (stepM x s).2/\Aft M M' b (stepM x s).1 O:=by
 have hb:=h.hb;have hcnt:=ho.cnt;have h0b:(0:Nat)≠b:=fun e=>by rw [← e,hG] at hb;cases hb
 refine SoundCall.go tk124 pl124 mixed Tryz.func124 cb124 rfl (Nat.le_of_ble_eq_true rfl) ?_;refine Q0 ?_;refine o_alloc zc81 (fun B1 hB1=>?_);have cbF1:b≠B1:=Mem.fresh_ne hB1 mmQ;have cbF1':=cbF1.symm;have c01:(0:Nat)≠B1:=Mem.fresh_ne hB1 mmQ;have m1:M B1=none:=zm hB1;refine Q1 ?_;refine Q18 ?_;refine Q56 fo175_3 ag3 sz3 ?_;refine Q113 ?_;refine Q25 fo175_3 ?_;refine Q62 sz3 ?_;refine Q18 ?_;refine Q10 ?_;refine Q25 fo175_4 ?_;refine o_q (q_ldm C3.ag87 C3.sz87 rfl mmQ rfl (v_agg rfl)) rfl rfl rfl ?_;refine Q2 ?_;refine o_call ((on59 x.dig s _ hs ho.dig)) C3.goes182 (ac (v_agg rfl) (ac (v_raw rfl) ac_nil)) rfl ?_;refine Q100 ?_;refine Q25 fo175_4 ?_;refine o_store rfl mmQ meQ rfl C3.sz87 rfl (Nat.le_of_ble_eq_true rfl) rfl rfl ?_;refine Q1 ?_;refine Q5 ?_;refine o_call (((dec60 s hs ge gf _ mmQ).det)) goes144 (ac (v_raw rfl) ac_nil) rfl ?_;refine Q100 ?_;refine o_alloc zc58 (fun B2 hB2=>?_);have cb2:b≠B2:=Mem.fresh_ne hB2 mmQ;have cb2':=cb2.symm;have c02:(0:Nat)≠B2:=Mem.fresh_ne hB2 mmQ;have f1_2:B1≠B2:=Mem.fresh_ne hB2 mmQ;have g2_1:B2≠B1:=f1_2.symm;have m2:M B2=none:=zm hB2;refine Q6 sz58 ?_;refine Q40 ?_;refine Q122 ?_;refine s_then rfl (by rw [decide_eq_false he];rfl) ?_;refine Q0 ?_;refine o_call (((code61 (1) (0) _))) goes183 (ac (v_raw rfl) (ac (v_raw rfl) ac_nil)) rfl ?_;refine Q6 sz81 ?_;refine Q114 ?_;have e1:stepM x s=((cntM x s),⟨1,0,[]⟩):=by unfold stepM;rw [if_pos he]
 rw [e1];exact ret_cell (.inl rfl) rfl rfl mmQ (loadP_w ag81 sz81 rfl rfl) ⟨rfl,O,⟨mt,ms,ad,(h.setB mmQ (by intro d h1 h2;repeat (first|rfl|refine (upd_other (by first|assumption|exact mem_put (by assumption) h2)).trans ?_))).1⟩,(h.setB (W:=x.want) (n:=x.cnt+1) (g:=C3.onP x.dig s) mmQ (by intro d h1 h2;repeat (first|rfl|refine (upd_other (by first|assumption|exact mem_put (by assumption) h2)).trans ?_))).2⟩
theorem snd124b (b mt ms:Nat)(ad:ByteArray->Nat×Nat)(x:Mc)(O:Nat->Prop)(n:Int)(s:ByteArray)(ge:TypeId)(gf:Nat×Nat)(M:Mem)(h:McIs M b mt ms ad x O)(ho:McOk n x)(hn:n+1<2^40)(hs:s.size<2^62)(hG:M 0=some (szO ge gf))(he:(decC s).2=0):SoundCall Tryz.prog 124 [ptr b,str s] M fun r M'=>r=rpO (stepM x s).2/\Aft M M' b (stepM x s).1 O:=by
 have hb:=h.hb;have hcnt:=ho.cnt;have h0b:(0:Nat)≠b:=fun e=>by rw [← e,hG] at hb;cases hb
 refine SoundCall.go tk124 pl124 mixed Tryz.func124 cb124 rfl (Nat.le_of_ble_eq_true rfl) ?_;refine Q0 ?_;refine o_alloc zc81 (fun B1 hB1=>?_);have cbF1:b≠B1:=Mem.fresh_ne hB1 mmQ;have cbF1':=cbF1.symm;have c01:(0:Nat)≠B1:=Mem.fresh_ne hB1 mmQ;have m1:M B1=none:=zm hB1;refine Q1 ?_;refine Q18 ?_;refine Q56 fo175_3 ag3 sz3 ?_;refine Q113 ?_;refine Q25 fo175_3 ?_;refine Q62 sz3 ?_;refine Q18 ?_;refine Q10 ?_;refine Q25 fo175_4 ?_;refine o_q (q_ldm C3.ag87 C3.sz87 rfl mmQ rfl (v_agg rfl)) rfl rfl rfl ?_;refine Q2 ?_;refine o_call ((on59 x.dig s _ hs ho.dig)) C3.goes182 (ac (v_agg rfl) (ac (v_raw rfl) ac_nil)) rfl ?_;refine Q100 ?_;refine Q25 fo175_4 ?_;refine o_store rfl mmQ meQ rfl C3.sz87 rfl (Nat.le_of_ble_eq_true rfl) rfl rfl ?_;refine Q1 ?_;refine Q5 ?_;refine o_call (((dec60 s hs ge gf _ mmQ).det)) goes144 (ac (v_raw rfl) ac_nil) rfl ?_;refine Q100 ?_;refine o_alloc zc58 (fun B2 hB2=>?_);have cb2:b≠B2:=Mem.fresh_ne hB2 mmQ;have cb2':=cb2.symm;have c02:(0:Nat)≠B2:=Mem.fresh_ne hB2 mmQ;have f1_2:B1≠B2:=Mem.fresh_ne hB2 mmQ;have g2_1:B2≠B1:=f1_2.symm;have m2:M B2=none:=zm hB2;refine Q6 sz58 ?_;refine Q40 ?_;refine Q122 ?_;refine s_else rfl (by rw [decide_eq_true he];rfl) ?_;refine Q76 ?_;refine s_draw rfl ?_;refine Q77 fo58_0 ag3 sz3 ?_;refine Q123 ?_;refine Q124 ag58 sz58 ?_;refine Q3 ?_;refine o_call ((snd184 (decC s).1.kind _)) goes184 (ac (v_raw rfl) ac_nil) rfl ?_;refine o_nil ⟨(by simp [Mem.upd, *]),?_⟩;refine Q3 ?_;refine o_callv rfl ((does_at (x:=(cntM x s)) (n:=n+1) (O:=O) ⟨mt,ms,ad,(h.setB mmQ (by intro d h1 h2;repeat (first|rfl|refine (upd_other (by first|assumption|exact mem_put (by assumption) h2)).trans ?_))).1⟩ (cnt_ok ho) hn (decC_right he))) (by unfold fnK;split<;>(try split)<;>(try split)<;>(try split)<;>kernel_rfl) (ac (mvQ) (ac (v_agg rfl) ac_nil)) rfl rfl ?_;rintro r M' ⟨rfl,hA⟩;have q1:=hA.keep (d:=B1) mmQ (fun hc=>h.ok B1 hc m1);have q2:=hA.keep (d:=B2) mmQ (fun hc=>h.ok B2 hc m2);refine o_nil ⟨(by simp [Mem.upd, *]),?_⟩;refine Q3 ?_;refine Q6 sz81 ?_;refine o_nil ⟨(by simp [Mem.upd, *]),?_⟩;refine d_nil ?_;refine s_ret ?_;refine s_end ?_;have e1:stepM x s=doC (cntM x s) (decC s).1:=by unfold stepM;rw [if_neg (fun h=>h he)]
 rw [e1];exact ret_cell (.inl rfl) rfl rfl mmQ (loadP_w ag81 sz81 rfl rfl) ⟨rfl,hA.wrap (B:=B1) h.ob.1 (nn mmQ) (by intro d h1 h2;repeat (first|rfl|refine (upd_other (by first|assumption|exact mem_put (by assumption) h2)).trans ?_)) m1 (nn mmQ) h.ok (fun d hd _=>upd_other hd)⟩
end C17
