import Derived.Test.YthmhdhmfkegpiaaGreatDoorHz
import Derived.Test.YthmhdhmfkegpiaaGreatDoorNn23
import Derived.Test.YthmhdhmfkegpiaaGreatDoorAmH
open Go Go.Proofs Go.Am
set_option linter.unusedVariables false
set_option linter.unusedSimpArgs false
set_option autoImplicit false
set_option maxHeartbeats 4000000
set_option maxRecDepth 20000
namespace C17
theorem snd19b (self:Mb)(nodes:Nat)(sv:Bool)(ge:TypeId)(gf:Nat×Nat)(M:Mem)(hG:M 0=some (szO ge gf))(hself:rightMb self=true)(h7:nodes<=7)(hn:self.node<(nodes:Nat))(hlife:self.life≠1):SoundCall Tryz.prog 19 [encMb self,int (nodes:Nat),.sl [] sv] M fun r M'=>∃ b bm s,r = .tup [ptr b,int 0]/\M' b=some (.cells (ndC (newX self (nodes:Nat)) nilp (ptr bm) (ptr s) nilp))/\(∀ d,M d≠none->M' d=M d)/\M b=none:=by
 have hr:=rightMb_spec.1 hself;have hle:=Mem.le_refl M;have hml:=firstMs_len nodes;refine Q261 ?_;refine Q0 ?_;refine o_box zbx rfl rfl (fun B1 hB1=>?_);have f10:B1≠0:=(Mem.fresh_ne hB1 hG).symm;refine Q55 ?_;refine Q127 ?_;refine Q45 ag45 sz45 ?_;refine o_call (((snd51 self _).det)) goes51 (ac (v_agg rfl) ac_nil) rfl ?_;refine Q119 ?_;refine Q97 ?_;refine Q105 ?_;refine Q44 ?_;refine Q2 ?_;refine Q97 ?_;refine Q68 ?_;refine Q17 fo45_0 ag3 sz3 ?_;refine Q97 ?_;refine Q262 ?_;refine Q44 ?_;refine Q1 ?_;refine s_else rfl (by rw [hself];simp;omega) ?_;refine Q13 ?_;refine Q34 ag45 sz45 ?_;refine Q2 ?_;refine Q277 bz134 bp134 fo134_2 fo134_3 ?_;refine o_box zbx rfl rfl (fun B2 hB2=>?_);have f12:B1≠B2:=Mem.fresh_ne hB2 (Mem.upd_self _ _ _);have f21:=f12.symm;have n2:M B2=none:=(Mem.upd_none hB2).2;have f20:B2≠0:=(Mem.fresh_ne n2 hG).symm;refine Q55 ?_;refine Q1 ?_;refine Q18 ?_;refine Q2 ?_;refine Q278 ?_;rintro r Ma ⟨bm,O,rfl,hmm,hout⟩;have h1a:Ma B1=some (.cells [int self.node,int self.life]):=hout.le B1 _ mmQ;have h2a:Ma B2=some (.cells (ndR self (nodes:Nat) nilp nilp)):=hout.le B2 _ (Mem.upd_self _ _ _);have hO1:¬ O B1:=(hout B1 (fun h=>by rw [upd_other f12,Mem.upd_self] at h;cases h)).2;have hO2:¬ O B2:=(hout B2 (fun h=>by rw [Mem.upd_self] at h;cases h)).2;have hfa:∀ d,M d≠none->Ma d=M d/\¬ O d:=fun d hd=>by
  have e1:d≠B1:=fun e=>hd (by rw [e];exact hB1)
  have e2:d≠B2:=fun e=>hd (by rw [e];exact n2)
  have h:=hout d (by rw [upd_other e2,upd_other e1];exact hd);rw [upd_other e2,upd_other e1] at h;exact h
 have hfn:∀ d,Ma d=none->M d=none:=fun d hd=>Classical.byContradiction fun h=>h ((hfa d h).1.symm.trans hd)
 refine Q37 ?_;refine Q176 ?_;refine Q80 ?_;refine Q25 fo134_8 ?_;refine Q62 sz84 ?_;refine Q18 ?_;refine Q45 ag45 sz45 ?_;refine o_callx ((new7 self _ hself)) goes53 (ac (v_agg rfl) ac_nil) rfl ?_;rintro r Ms ⟨s,c,hs0,hc0,hsc,rfl,rfl⟩;have fcs:=hsc.symm;have hsa:Ma s=none:=(Mem.upd_none hs0).2;have hca:Ma c=none:=(Mem.upd_none hc0).2;have fs2:s≠B2:=(Mem.upd_none hs0).1;have fc2:c≠B2:=(Mem.upd_none hc0).1;have f2s:=fs2.symm;have f2c:=fc2.symm;have f1s:B1≠s:=Mem.fresh_ne hsa h1a;have f1c:B1≠c:=Mem.fresh_ne hca h1a;have hOs:=hmm.nof hsa;have hOc:=hmm.nof hca;have fs0:s≠0:=(Mem.fresh_ne hsa hmm.g).symm;have fc0:c≠0:=(Mem.fresh_ne hca hmm.g).symm;have ns:=hfn s hsa;have nc:=hfn c hca;refine Q37 ?_;refine Q176 ?_;refine Q80 ?_;refine Q25 fo134_9 ?_;refine Q98 sz131 ?_;refine Q48 ?_;refine Q12 fo45_1 ag3 sz3 ?_;refine Q129 ?_;refine s_else rfl (decide_eq_false hlife) ?_;refine Q82 ?_;refine Q41 und24 ?_;refine Q52 ?_;refine s_loop (fun m S=>∃ T,∃ Mc:Mem,S=⟨setT (setT (setT (setT T 8 (ptr B2)) 77 (.sl [] false)) 78 (int 0)) 79 (int 0),Mc⟩/\Mc B2=some (.cells (ndR self (nodes:Nat) (ptr bm) (ptr s)))/\(∀ d,M d≠none->Mc d=M d)/\m=0) 0 ?_ ?_
 ·exact⟨_,_,St.mkT (kp (kp (kp (kp rfl rfl) rfl) rfl) rfl).symm,mmQ,fun d hd=>by
   have e1:d≠B1:=fun e=>hd (by rw [e];exact hB1)
   have e2:d≠B2:=fun e=>hd (by rw [e];exact n2)
   have es:d≠s:=fun e=>hd (by rw [e];exact ns)
   have ec:d≠c:=fun e=>hd (by rw [e];exact nc)
   try dsimp only
   repeat first|exact (hfa d hd).1|rw [upd_other e1]|rw [upd_other e2]|rw [upd_other es]|rw [upd_other ec],rfl⟩
 rintro m S ⟨T,Mc,rfl,hc2,hfr,rfl⟩;refine Q50 ?_;refine s_cond rfl (fun h1=>?_) (fun h1=>?_)
 ·have k1:=h1;try simp only [zs] at k1
  first|exact absurd h1 (by decide)|(simp at h1;done)|(simp at h1;omega)
 ·have k1:=h1;try simp only [zs] at k1
  refine Q35 ?_;refine Q18 ?_;refine o_callx ((SoundCall.nilsin hc2 (ndR_ndC self (nodes:Nat) (ptr bm) (ptr s)) (snd57n B2 (newX self (nodes:Nat)) (ptr bm) (ptr s) nilp _ (Mem.upd_self _ _ _)))) goes57 (ac (mvQ) ac_nil) rfl ?_;rintro r Me ⟨rfl,hbe,hfe⟩;refine Q1 ?_;refine Q18 ?_;refine Q55 ?_;refine Q4 ?_;exact ret_many (.inl rfl) rfl (rl_t rfl (rl_t rfl (rl_nil))) rfl (⟨B2,bm,s,rfl,hbe,(fun d hd=>by
   have e2:d≠B2:=fun e=>hd (by rw [e];exact n2)
   have h1:=hfe d (by rw [upd_other e2,hfr d hd];exact hd) e2;rw [upd_other e2] at h1;exact h1.trans (hfr d hd)),n2⟩)
end C17
