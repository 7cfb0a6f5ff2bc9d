import Derived.Test.YthmhdhmfkegpiaaGreatDoorHz
import Derived.Test.YthmhdhmfkegpiaaGreatDoorNn22
import Derived.Test.YthmhdhmfkegpiaaGreatDoorAmH
open Go Go.Proofs Go.Am
set_option linter.unusedVariables false
set_option linter.unusedSimpArgs false
set_option autoImplicit false
set_option maxHeartbeats 4000000
set_option maxRecDepth 20000
namespace C17
theorem bz134:(zeroT Tryz.prog 134).map (fun z=>z.cells.toList.map AVal.raw)=some [.raw (.slice none 0 0),.raw (.slice none 0 0),.raw (.slice none 0 0),.raw (.int .i64 0),.raw (.int .i64 0),.raw (.int .i64 0),.raw (.int .i64 0),.raw (.int .i64 0),.raw (.int .i64 0),.raw (.int .i64 0),.raw (.int .i64 0),.raw (.int .i64 0),.raw (.int .i64 0),.raw (.int .i64 0),.raw (.int .i64 0),.raw (.int .i64 0),.raw (.int .i64 0),.raw (.int .i64 0),.raw (.int .i64 0),.raw (.int .i64 0),.raw (.int .i64 0),.raw (.int .i64 0),.raw (.int .i64 0),.raw (.int .i64 0),.raw (.int .i64 0),.raw (.int .i64 0),.raw (.int .i64 0),.raw (.int .i64 0),.raw (.int .i64 0),.raw (.slice none 0 0),.raw (.string { data:=#[] }),.raw (.pointer none),.raw (.int .i64 0),.raw (.int .i64 0),.raw (.int .i64 0),.raw (.int .i64 0),.raw (.string { data:=#[] }),.raw (.pointer none),.raw (.pointer none),.raw (.pointer none)]:=by kernel_rfl
theorem bp134:(aPlaces Tryz.prog 134).isSome=true:=by kernel_rfl
theorem fo134_3:fo Tryz.prog 134 3=some (27,1):=by kernel_rfl
def tk19e:Nat->Nat->Option Nat
 | 11,1=>some 0
 | _,_=>none
def pl19e:Nat->List PStep:=fun _=>[]
theorem cb19e:Tryz.f19.body.map (codeB Tryz.prog Tryz.f19.ntmps tk19e pl19e)=some true:=by kernel_rfl
theorem snd19e (self:Mb)(nodes:Int)(saved:AVal)(M:Mem)(hbad:(rightMb self && decide (1<=nodes) && decide (nodes<=7) && decide (self.node<nodes))=false):SoundCall Tryz.prog 19 [encMb self,int nodes,saved] M fun r M'=>r = .tup [nilp,int 1]/\M.le M':=by
 have hle:=Mem.le_refl M;refine Q261 ?_;refine Q0 ?_;refine o_box zbx rfl rfl (fun B1 hB1=>?_);refine Q55 ?_;refine Q127 ?_;refine Q45 ag45 sz45 ?_;refine o_call (((snd51 self _).det)) goes51 (ac (v_agg rfl) ac_nil) rfl ?_;refine Q119 ?_;refine Q97 ?_;refine Q105 ?_;refine Q44 ?_;refine Q2 ?_;refine Q97 ?_;refine Q68 ?_;refine Q17 fo45_0 ag3 sz3 ?_;refine Q97 ?_;refine Q262 ?_;refine Q44 ?_;refine Q1 ?_;refine s_then rfl (by revert hbad;cases rightMb self<;>simp<;>omega) ?_;refine Q0 ?_;refine Q55 ?_;refine Q11 ?_;exact ret_many (.inl rfl) rfl (rl_t rfl (rl_t rfl (rl_nil))) rfl (⟨rfl,(by repeat first|exact hle|exact Mem.le_refl _|assumption|exact Mem.none_of_le hle (by assumption)|exact n2|exact n3|exact n4|refine Mem.le_upd ?_ ?_)⟩)
def firstMs (n:Nat):List Mb:=(List.range n).map fun (i:Nat)=>(⟨(i:Int),1⟩ : Mb)
theorem firstMs_succ (n:Nat):(firstMs n).map encMb++[.agg [int (n:Nat),int 1]]=(firstMs (n+1)).map encMb:=by
 unfold firstMs;rw [List.range_succ,List.map_append,List.map_append];rfl
theorem firstMs_len (n:Nat):(firstMs n).length=n:=by unfold firstMs;simp
def newX (self:Mb)(nodes:Int):Nd:=⟨[],[],[],fun _=>bal0,fun _=>0,0,self,nodes,0,[],emp,bal0,bal0,emp⟩
theorem firstMs_mem {n:Nat}{m:Mb}(h0:0<=m.node)(h1:m.node<(n:Nat))(h2:m.life=1):m∈firstMs n:=by
 unfold firstMs;refine List.mem_map.2 ⟨m.node.toNat,List.mem_range.2 (by omega),?_⟩;cases m with
 | mk a b =>
  have e:((a.toNat:Nat):Int)=a:=Int.toNat_of_nonneg h0;show Mb.mk (a.toNat:Nat) 1=Mb.mk a b
  rw [e,show b=1 from h2]
theorem rise_first:∀ (k n:Nat),k+n<=7->rise ((k:Int) - 1) (((List.range' k n).map fun i=>(⟨(i:Nat),1⟩ : Mb)).map Mb.node)=true
 | k,0,_=>rfl
 | k,n+1,h=>by
  have h1:=rise_first (k+1) n (by omega);rw [List.range'_succ,List.map_cons,List.map_cons];have e:((k+1:Nat):Int) - 1=(k:Nat):=by omega
  rw [e] at h1;show (decide ((k:Int) - 1<(k:Nat)) && decide (((k:Nat):Int)<7) && rise ((k:Nat):Int) _)=true
  rw [h1,decide_eq_true (by omega),decide_eq_true (by omega)];rfl
theorem okFirst {self:Mb}{n:Nat}(h7:n<=7)(h0:0<=self.node)(h1:self.node<(n:Nat)):okNew self.node ((firstMs n).map Mb.node)=true:=by
 unfold okNew;rw [Bool.and_eq_true];refine⟨?_,decide_eq_true ?_⟩
 ·have h:=rise_first 0 n (by omega);unfold firstMs;rw [List.range_eq_range'];exact h
 ·exact List.mem_map.2 ⟨⟨self.node,1⟩,firstMs_mem h0 h1 rfl,rfl⟩
def ndR (self:Mb)(nodes:Int)(pm ps:AVal):List AVal:=[.raw (.slice none 0 0),.raw (.slice none 0 0),.raw (.slice none 0 0),int 0,int 0,int 0,int 0,int 0,int 0,int 0,int 0,int 0,int 0,int 0,int 0,int 0,int 0,int 0,int 0,int 0,int 0,int 0,int 0,int 0,int 0,int self.node,int self.life,int nodes,int 0,.raw (.slice none 0 0),str emp,nilp,int 0,int 0,int 0,int 0,str emp,pm,ps,nilp]
theorem ndR_ndC (self:Mb)(nodes:Int)(pm ps:AVal):NilF (ndR self nodes pm ps) (ndC (newX self nodes) nilp pm ps nilp):=by
 refine .conv true (.conv true (.conv true ?_));repeat' first|exact .nil|refine .same _ ?_|refine .conv false ?_
structure NdAt (ge:TypeId)(gf:Nat×Nat)(M:Mem)(b bo bm s c:Nat)(x:Nd)(o:Od)(mc:Mc)(n:Int)(f:Nat->Int×Int)(now:Int)(pp:AVal)(O:Nat->Prop):Prop where
 hb:M b=some (.cells (ndC x (ptr bo) (ptr bm) (ptr s) pp))
 ho:M bo=some (.cells (odC o))
 hm:Mch ge gf M bm n mc O
 hs:M s=some (.cells (sus x.self f c))
 hc:M c=some (.cells [int now])
 nO:(¬ O b/\¬ O bo)/\¬ O s/\¬ O c
 ne:(b≠bo/\b≠s/\b≠c)/\(bo≠s/\bo≠c)/\s≠c
theorem snd19a (self:Mb)(nodes:Nat)(sv:Bool)(ge:TypeId)(gf:Nat×Nat)(M:Mem)(hG:M 0=some (szO ge gf))(hself:rightMb self=true)(h7:nodes<=7)(hn:self.node<(nodes:Nat))(hlife:self.life=1):SoundCall Tryz.prog 19 [encMb self,int (nodes:Nat),.sl [] sv] M fun r M'=>∃ b bo bm s c O,r = .tup [ptr b,int 0]/\NdAt ge gf M' b bo bm s c (begX (newX self nodes) ⟨1,firstMs nodes⟩ (encF ⟨1,firstMs nodes⟩ []).1) (newO self.node ((firstMs nodes).map Mb.node) []) (newM nodes) 0 (fun _=>(0,0)) 0 nilp O/\(∀ d,M d≠none->M' d=M d)/\(∀ d,O d->M d=none)/\M b=none/\M bo=none/\M s=none/\M c=none:=by
 have hr:=rightMb_spec.1 hself;have hle:=Mem.le_refl M;have hml:=firstMs_len nodes;refine Q261 ?_;refine Q0 ?_;refine o_box zbx rfl rfl (fun B1 hB1=>?_);have f10:B1≠0:=(Mem.fresh_ne hB1 hG).symm;refine Q55 ?_;refine Q127 ?_;refine Q45 ag45 sz45 ?_;refine o_call (((snd51 self _).det)) goes51 (ac (v_agg rfl) ac_nil) rfl ?_;refine Q119 ?_;refine Q97 ?_;refine Q105 ?_;refine Q44 ?_;refine Q2 ?_;refine Q97 ?_;refine Q68 ?_;refine Q17 fo45_0 ag3 sz3 ?_;refine Q97 ?_;refine Q262 ?_;refine Q44 ?_;refine Q1 ?_;refine s_else rfl (by rw [hself];simp;omega) ?_;refine Q13 ?_;refine Q34 ag45 sz45 ?_;refine Q2 ?_;refine Q277 bz134 bp134 fo134_2 fo134_3 ?_;refine o_box zbx rfl rfl (fun B2 hB2=>?_);have f12:B1≠B2:=Mem.fresh_ne hB2 (Mem.upd_self _ _ _);have f21:=f12.symm;have n2:M B2=none:=(Mem.upd_none hB2).2;have f20:B2≠0:=(Mem.fresh_ne n2 hG).symm;refine Q55 ?_;refine Q1 ?_;refine Q18 ?_;refine Q2 ?_;refine Q278 ?_;rintro r Ma ⟨bm,O,rfl,hmm,hout⟩;have h1a:Ma B1=some (.cells [int self.node,int self.life]):=hout.le B1 _ mmQ;have h2a:Ma B2=some (.cells (ndR self (nodes:Nat) nilp nilp)):=hout.le B2 _ (Mem.upd_self _ _ _);have hO1:¬ O B1:=(hout B1 (fun h=>by rw [upd_other f12,Mem.upd_self] at h;cases h)).2;have hO2:¬ O B2:=(hout B2 (fun h=>by rw [Mem.upd_self] at h;cases h)).2;have hfa:∀ d,M d≠none->Ma d=M d/\¬ O d:=fun d hd=>by
  have e1:d≠B1:=fun e=>hd (by rw [e];exact hB1)
  have e2:d≠B2:=fun e=>hd (by rw [e];exact n2)
  have h:=hout d (by rw [upd_other e2,upd_other e1];exact hd);rw [upd_other e2,upd_other e1] at h;exact h
 have hfn:∀ d,Ma d=none->M d=none:=fun d hd=>Classical.byContradiction fun h=>h ((hfa d h).1.symm.trans hd)
 refine Q37 ?_;refine Q176 ?_;refine Q80 ?_;refine Q25 fo134_8 ?_;refine Q62 sz84 ?_;refine Q18 ?_;refine Q45 ag45 sz45 ?_;refine o_callx ((new7 self _ hself)) goes53 (ac (v_agg rfl) ac_nil) rfl ?_;rintro r Ms ⟨s,c,hs0,hc0,hsc,rfl,rfl⟩;have fcs:=hsc.symm;have hsa:Ma s=none:=(Mem.upd_none hs0).2;have hca:Ma c=none:=(Mem.upd_none hc0).2;have fs2:s≠B2:=(Mem.upd_none hs0).1;have fc2:c≠B2:=(Mem.upd_none hc0).1;have f2s:=fs2.symm;have f2c:=fc2.symm;have f1s:B1≠s:=Mem.fresh_ne hsa h1a;have f1c:B1≠c:=Mem.fresh_ne hca h1a;have hOs:=hmm.nof hsa;have hOc:=hmm.nof hca;have fs0:s≠0:=(Mem.fresh_ne hsa hmm.g).symm;have fc0:c≠0:=(Mem.fresh_ne hca hmm.g).symm;have ns:=hfn s hsa;have nc:=hfn c hca;refine Q37 ?_;refine Q176 ?_;refine Q80 ?_;refine Q25 fo134_9 ?_;refine Q98 sz131 ?_;refine Q48 ?_;refine Q12 fo45_1 ag3 sz3 ?_;refine Q129 ?_;refine s_then rfl (decide_eq_true hlife) ?_;refine Q0 ?_;refine o_q (q_b (cs:=[_,.raw (.slice none 0 0)]) bz53 bp53 (bf fo53_0 (e_raw rfl) rfl rfl (Nat.le_of_ble_eq_true rfl) rfl bf_nil)) rfl rfl rfl ?_;refine o_alloc zc53 (fun B3 hB3=>?_);have h3a:Ma B3=none:=by
  have h:=hB3;repeat first|exact h|replace h:=(Mem.upd_none h).2
 have hO3:=hmm.nof h3a;have f30:B3≠0:=(Mem.fresh_ne h3a hmm.g).symm;have n3:=hfn B3 h3a;have f13:B1≠B3:=Mem.fresh_ne h3a h1a;have f23:B2≠B3:=Mem.fresh_ne h3a h2a;have f32:=f23.symm;have fs3:s≠B3:=Mem.fresh_ne (o:=.cells (sus self (fun _=>(0,0)) c)) hB3 mmQ;have fc3:c≠B3:=Mem.fresh_ne (o:=.cells [int 0]) hB3 mmQ;refine o_storewN rfl mmQ mfQ rfl sz53 rfl rfl rfl rfl rfl ?_;refine Q1 ?_;refine Q9 ?_;refine Q52 ?_;refine s_loop (fun m S=>∃ T,∃ Mc:Mem,∃ i:Nat,S=⟨setT (setT (setT (setT (setT (setT T 2 (.sl [] sv)) 3 (ptr B1)) 8 (ptr B2)) 9 (ptr B3)) 56 (int (nodes:Nat))) 57 (int (i:Nat)),Mc⟩/\Mc B3=some (.cells [int 1,.sl ((firstMs i).map encMb) true])/\Mc B2=some (.cells (ndR self (nodes:Nat) (ptr bm) (ptr s)))/\Mc s=some (.cells (sus self (fun _=>(0,0)) c))/\Mc c=some (.cells [int 0])/\Mch ge gf Mc bm 0 (newM nodes) O/\(∀ d,M d≠none->Mc d=M d)/\i<=nodes/\m=nodes - i) nodes ?_ ?_
 ·exact⟨_,_,0,St.mkT (kp (kp (kp (kp (kp (kp rfl rfl) rfl) rfl) rfl) rfl) rfl).symm,mmQ,mmQ,mmQ,mmQ,(by repeat first|exact hmm|refine Mch.upd ?_ (by assumption) (by assumption)),fun d hd=>by
   have e1:d≠B1:=fun e=>hd (by rw [e];exact hB1)
   have e2:d≠B2:=fun e=>hd (by rw [e];exact n2)
   have es:d≠s:=fun e=>hd (by rw [e];exact ns)
   have ec:d≠c:=fun e=>hd (by rw [e];exact nc)
   try dsimp only
   repeat first|exact (hfa d hd).1|rw [upd_other e1]|rw [upd_other e2]|rw [upd_other es]|rw [upd_other ec]|rw [upd_other (show d≠B3 from fun e=>hd (by rw [e];exact n3))],Nat.zero_le _,rfl⟩
 rintro m S ⟨T,Mc,i,rfl,hc3,hc2,hcs,hcc,hmc,hfr,hi,rfl⟩;refine Q50 ?_;refine s_cond rfl (fun h1=>?_) (fun h1=>?_)
 ·have k1:=h1;try simp only [zs] at k1
  have hfl:=firstMs_len i;refine Q78 ?_;refine Q5 ?_;refine Q7 ?_;refine Q19 ?_;refine Q29 fo53_1 ?_;refine Q137 ag51 sz51 ?_;refine Q2 ?_;refine Q179 bz45 bp45 fo45_0 fo45_1 ?_;refine Q107 slt51 ?_;refine o_qs (q_app slt51 rfl rfl rfl rfl (by first|exact elsMb|exact Els.cons rfl rfl Els.nil) (by first|exact (by first|exact elsMb|exact Els.cons rfl rfl Els.nil)|exact Els.cons rfl rfl Els.nil) (by simp;omega)) rfl rfl rfl rfl ?_;refine Q29 fo53_1 ?_;refine Q112 sz51 ?_;refine Q1 ?_;refine Q36 ?_;exact⟨nodes - (i+1),by omega,_,_,i+1,St.mkT (kp (kp (kp (kp (kp (kp rfl rfl) rfl) rfl) rfl) rfl) rfl).symm,(by rw [← firstMs_succ];exact Mem.upd_self _ _ _),mmQ,mmQ,mmQ,(by repeat first|exact hmc|refine Mch.upd ?_ (by assumption) (by assumption)),(fun d hd=>(upd_other (fun e=>hd (by rw [e];exact n3))).trans ((upd_other (fun e=>hd (by rw [e];exact n3))).trans (hfr d hd))),by omega,rfl⟩
 ·have k1:=h1;try simp only [zs] at k1
  have hin:nodes=i:=by omega
  subst hin;refine Q117 ?_;refine Q87 ag53 sz53 ?_;refine o_call (((SoundCall.deep (args:=[.agg [int 1,.sl ((firstMs nodes).map encMb) true],.sl [] false]) (snd54 ⟨1,firstMs nodes⟩ [] false ge gf _ hmc.g (by show (firstMs nodes).length<_;omega) (by decide) (fun s hs=>absurd hs List.not_mem_nil))).det)) goes54 (ac (v_agg rfl) (ac (v_sl rfl) ac_nil)) rfl ?_;refine Q37 ?_;refine Q79 ?_;refine Q26 ?_;refine Q19 ?_;refine Q10 ?_;refine Q87 ag53 sz53 ?_;refine Q2 ?_;refine o_callx ((SoundCall.deep (args:=[ptr B2,.agg [int 1,.sl ((firstMs nodes).map encMb) true],.sl [] false,str (encF ⟨1,firstMs nodes⟩ []).1]) (SoundCall.nilsin hc2 (ndR_ndC self (nodes:Nat) (ptr bm) (ptr s)) (snd55 B2 (newX self nodes) nilp (ptr bm) (ptr s) nilp ⟨1,firstMs nodes⟩ [] false (encF ⟨1,firstMs nodes⟩ []).1 _ (Mem.upd_self _ _ _) (okFirst h7 hr.1 hn) (by show (firstMs nodes).length<_;omega) (by decide) (fun s hs=>absurd hs List.not_mem_nil))))) goes55 (ac (mvQ) (ac (v_agg rfl) (ac (v_sl rfl) (ac (v_raw rfl) ac_nil)))) rfl ?_;rintro r Mq ⟨rfl,bo,hbo0,hbb,hboo,hfb⟩;have hfb':∀ d,Mc d≠none->d≠B2->Mq d=Mc d:=fun d hd h2=>(hfb d (by rw [upd_other h2];exact hd) h2).trans (upd_other h2)
  have hcbo:Mc bo=none:=(Mem.upd_none hbo0).2;have fo2:bo≠B2:=(Mem.upd_none hbo0).1;have f2o:=fo2.symm;have nbo:M bo=none:=Classical.byContradiction fun h=>h ((hfr bo h).symm.trans hcbo)
  have hmb:Mch ge gf Mq bm 0 (newM nodes) O:=hmc.fr (fun d hd=>hfb' d (hmc.at'.ok d hd) (fun e=>hO2 (by rw [← e];exact hd))) (hfb' 0 (nnS hmc.g) f20.symm);have hOo:=hmc.nof hcbo;have hsb:=(hfb' s (nnS hcs) fs2).trans hcs;have hcb:=(hfb' c (nnS hcc) fc2).trans hcc;have fso:s≠bo:=Mem.fresh_ne hcbo hcs;have fco:c≠bo:=Mem.fresh_ne hcbo hcc;refine Q48 ?_;refine Q41 und24 ?_;refine Q52 ?_;refine s_loop (fun m S=>∃ T,S=⟨setT (setT (setT (setT T 8 (ptr B2)) 77 (.sl [] false)) 78 (int 0)) 79 (int 0),Mq⟩/\m=0) 0 ?_ ?_
  ·exact⟨_,St.mkT (kp (kp (kp (kp rfl rfl) rfl) rfl) rfl).symm,rfl⟩
  rintro m S ⟨T,rfl,rfl⟩;refine Q50 ?_;refine s_cond rfl (fun h2=>?_) (fun h2=>?_)
  ·have k2:=h2;try simp only [zs] at k2
   first|exact absurd h2 (by decide)|(simp at h2;done)|(simp at h2;omega)
  ·have k2:=h2;try simp only [zs] at k2
   refine Q35 ?_;refine Q18 ?_;refine o_callx ((snd57 B2 bo bm (begX (newX self nodes) ⟨1,firstMs nodes⟩ (encF ⟨1,firstMs nodes⟩ []).1) (newO self.node ((firstMs nodes).map Mb.node) []) (ptr s) nilp ge gf 0 (newM nodes) O [] [] [] Mq hbb hboo hmb hO2 hOo f2o f20 rfl rfl (.inl rfl) (by show 0+2<=2^36;decide) (by decide) (fun s hs=>absurd hs List.not_mem_nil) (Nat.zero_le _))) goes57 (ac (mvQ) ac_nil) rfl ?_;rintro r Me ⟨rfl,hbe,Oe,hme,hfe⟩;have e0:(0:Int)+2*((([]:List ByteArray).length:Nat):Int)=0:=by decide
   rw [e0] at hme;have hnO:∀ d,¬ O d->Mq d≠none->¬ Oe d:=fun d h1 h2 h=>(hfe.new d h).elim h1 h2
   have hMb:∀ d,M d≠none->Mq d=M d:=fun d hd=>(hfb' d (by rw [hfr d hd];exact hd) (fun e=>hd (by rw [e];exact n2))).trans (hfr d hd)
   refine Q1 ?_;refine Q18 ?_;refine Q55 ?_;refine Q4 ?_;exact ret_many (.inl rfl) rfl (rl_t rfl (rl_t rfl (rl_nil))) rfl (⟨B2,bo,bm,s,c,Oe,rfl,⟨hbe,(hfe.eq bo (nnS hboo) hOo fo2).trans hboo,hme,(hfe.eq s (nnS hsb) hOs fs2).trans hsb,(hfe.eq c (nnS hcb) hOc fc2).trans hcb,⟨⟨hnO B2 hO2 (nnS hbb),hnO bo hOo (nnS hboo)⟩,hnO s hOs (nnS hsb),hnO c hOc (nnS hcb)⟩,⟨⟨f2o,f2s,f2c⟩,⟨fso.symm,fco.symm⟩,hsc⟩⟩,(fun d hd=>(hfe.eq d (by rw [hMb d hd];exact hd) (hfa d hd).2 (fun e=>hd (by rw [e];exact n2))).trans (hMb d hd)),(fun d hd=>Classical.byContradiction fun h=>(hfe.new d hd).elim (hfa d h).2 (fun h2=>h ((hMb d h).symm.trans h2))),n2,nbo,ns,nc⟩)
def tk57n:Nat->Nat->Option Nat
 | 6,6=>some 0
 | _,_=>none
def pl57n:Nat->List PStep
 | 6=>[.q 0,.q 1,.q 2,.q 3,.q 4,.q 5,.q 7,.q 8,.q 9,.q 10,.q 11,.q 12,.q 13,.q 14,.q 16,.q 17,.q 18,.q 19,.a [6,15,20,21,22,23,24,25,26,27,28],.q 0,.q 0,.q 0,.q 0,.q 0,.q 0,.q 0,.q 0,.q 0,.q 0]
 | _=>[]
theorem cb57n:Tryz.f57.body.map (codeB Tryz.prog Tryz.f57.ntmps tk57n pl57n)=some true:=by kernel_rfl
theorem snd57n (b:Nat)(x:Nd)(pm ps pp:AVal)(M:Mem)(hb:M b=some (.cells (ndC x nilp pm ps pp))):SoundCall Tryz.prog 57 [ptr b] M fun r M'=>r=effV x/\M' b=some (.cells (ndC { x with saves:=[],sends:=[],done:=[] } nilp pm ps pp))/\∀ d,M d≠none->d≠b->M' d=M d:=by
 refine SoundCall.go tk57n pl57n mixed Tryz.func57 cb57n rfl (Nat.le_of_ble_eq_true rfl) ?_;refine Q0 ?_;refine o_alloc zc49 (fun B1 hB1=>?_);have fb1:b≠B1:=Mem.fresh_ne hB1 hb;have f1b:=fb1.symm;refine Q48 ?_;refine Q10 ?_;refine o_call ((snd22n b x pm ps pp _ mmQ)) goes22 (ac (mvQ) ac_nil) rfl ?_;refine Q42 ?_;refine Q1 ?_;refine Q95 fo134_6 ?_;refine Q126 ag128 sz128 ?_;refine o_q (q_pneq und128 rfl rfl) rfl rfl rfl ?_;refine Q83 ?_;refine Q13 ?_;refine Q95 fo134_0 ?_;refine Q29 fo123_0 ?_;refine Q87 ag49 sz49 ?_;refine o_alloc zc49 (fun B2 hB2=>?_);have fb2:b≠B2:=Mem.fresh_ne hB2 mmQ;have f2b:=fb2.symm;have f12:B1≠B2:=Mem.fresh_ne hB2 (Mem.upd_self _ _ _);have f21:=f12.symm;have n2:M B2=none:=(Mem.upd_none hB2).2;refine Q62 sz49 ?_;refine Q18 ?_;refine o_q (q_b (cs:=[.raw (.slice none 0 0),.raw (.slice none 0 0),.raw (.slice none 0 0)]) bz49 bp49 bf_nil) rfl rfl rfl ?_;refine Q25 fo134_0 ?_;refine Q29 fo123_0 ?_;refine o_storeN rfl mmQ meQ rfl sz49 rfl (Nat.le_of_ble_eq_true rfl) rfl rfl ?_;refine Q1 ?_;refine Q34 ag49 sz49 ?_;refine Q98 sz49 ?_;refine Q103 ?_;exact ret_cell (.inl rfl) rfl rfl mmQ (loadP_w ag49 sz49 rfl rfl) ⟨rfl,mmQ,fun d hd hdb=>by
  have e1:d≠B1:=fun e=>hd (by rw [e];exact hB1)
  have e2:d≠B2:=fun e=>hd (by rw [e];exact n2)
  try dsimp only
  repeat first|rfl|rw [upd_other hdb]|rw [upd_other e1]|rw [upd_other e2]⟩
end C17
