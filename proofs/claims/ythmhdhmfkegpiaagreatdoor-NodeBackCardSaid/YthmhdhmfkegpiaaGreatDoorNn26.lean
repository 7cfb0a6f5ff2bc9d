import Derived.Test.YthmhdhmfkegpiaaGreatDoorHz
import Derived.Test.YthmhdhmfkegpiaaGreatDoorNn25
import Derived.Test.YthmhdhmfkegpiaaGreatDoorAmH
open Go Go.Proofs Go.Am
set_option linter.unusedVariables false
set_option linter.unusedSimpArgs false
set_option autoImplicit false
set_option maxHeartbeats 4000000
set_option maxRecDepth 20000
namespace C17
def tk27:Nat->Nat->Option Nat:=fun _ _=>none
def pl27:Nat->List PStep:=fun _=>[]
theorem cb27:Tryz.f27.body.map (codeB Tryz.prog Tryz.f27.ntmps tk27 pl27)=some true:=by kernel_rfl
theorem goes27:goesB Tryz.prog 27=true:=by kernel_rfl
theorem NdAt.b0 {ge:TypeId}{gf:Nat×Nat}{M:Mem}{b bo bm s c:Nat}{x:Nd}{o:Od}{mc:Mc}{n:Int}{f:Nat->Int×Int}{now:Int}{pp:AVal}{O:Nat->Prop}(h:NdAt ge gf M b bo bm s c x o mc n f now pp O):b≠0/\bo≠0/\s≠0/\c≠0:=by
 have hg:=h.hm.g;refine⟨fun e=>?_,fun e=>?_,fun e=>?_,fun e=>?_⟩
 ·have:=h.hb;rw [e,hg] at this;cases this
 ·have:=h.ho;rw [e,hg] at this;cases this
 ·have:=h.hs;rw [e,hg] at this;cases this
 ·have:=h.hc;rw [e,hg] at this;cases this
theorem snd27n (ge:TypeId)(gf:Nat×Nat)(b bo bm s c:Nat)(x:Nd)(o:Od)(mc:Mc)(n:Int)(f:Nat->Int×Int)(now:Int)(pp:AVal)(O:Nat->Prop)(pre ts rest:List ByteArray)(t:ByteArray)(M:Mem)(hN:NdAt ge gf M b bo bm s c x o mc n f now pp O)(hw:0<=now/\now<2^60)(hf:∀ i,0<=(f i).2/\(f i).2<=now)(hl:x.vm.length<2^60)(hlog:o.log=pre++(ts++rest))(hcnt:mc.cnt=(pre.length:Nat))(hsu:o.sure=(pre.length:Nat)+(ts.length:Nat)\/(ts=[]/\o.sure<=(pre.length:Nat)))(hlg:o.log.length+2<=2^36)(hn:n+2*(ts.length:Nat)+2<2^40)(hsz:∀ s∈o.log,s.size<2^62)(hdl:x.done.length<=2^36)(hts:t.size<2^62)(hdt:(decC t).2=0)(hp:primN x f now=false):SoundCall Tryz.prog 27 [ptr b,str t] M fun r M'=>r = .tup [int 2,effV { x with done:=x.done++(doneN mc.cnt mc ts).2 }]/\∃ O',NdAt ge gf M' b bo bm s c { x with saves:=[],sends:=[],done:=[] } o (doneN mc.cnt mc ts).1 (n+2*(ts.length:Nat)) f now pp O'/\(∀ d,M d≠none->¬ O d->d≠b->d≠bo->M' d=M d)/\(∀ d,O' d->O d\/M d=none)/\∀ d,O d->O' d:=by
 have hle:=Mem.le_refl M;obtain⟨hb,ho,hm,hs,hc',⟨⟨nOb,nOo⟩,nOs,nOc⟩,⟨⟨fbo,fbs,fbc⟩,⟨fos,foc⟩,hsc⟩⟩:=id hN;obtain⟨hb0,ho0,hs0,hc0⟩:=hN.b0;have fob:=fbo.symm;have fsb:=fbs.symm;have fcb:=fbc.symm;have fso:=fos.symm;have fco:=foc.symm;have hG:=hm.g;refine SoundCall.go tk27 pl27 mixed Tryz.func27 cb27 rfl (Nat.le_of_ble_eq_true rfl) ?_;refine Q47 ?_;refine o_alloc zc49 (fun B1 hB1=>?_);have fb1:b≠B1:=Mem.fresh_ne hB1 hb;have f1b:=fb1.symm;have fs1:s≠B1:=Mem.fresh_ne hB1 hs;have fc1:c≠B1:=Mem.fresh_ne hB1 hc';have fo1:bo≠B1:=Mem.fresh_ne hB1 ho;have f1o:=fo1.symm;have f1s:=fs1.symm;have f1c:=fc1.symm;have f10:B1≠0:=(Mem.fresh_ne hB1 hG).symm;have f01:=f10.symm;have hO1:=hm.nof hB1;refine Q1 ?_;refine Q18 ?_;refine Q2 ?_;refine o_call (((snd79n b bo bm s c x o pp f now t ge gf _ mmQ mmQ mmQ mmQ hsc hw hf hl hts hdt hp).det)) goes79 (ac (mvQ) (ac (v_raw rfl) ac_nil)) rfl ?_;refine Q51 ?_;refine Q10 ?_;refine o_callx ((snd57 b bo bm x o (ptr s) pp ge gf n mc O pre ts rest _ mmQ mmQ (hm.upd hO1 f10) nOb nOo fbo hb0 hlog hcnt hsu hlg hn hsz hdl)) goes57 (ac (mvQ) ac_nil) rfl ?_;rintro r Me ⟨rfl,hbe,Oe,hme,hfe⟩;have hM1:∀ d,M d≠none->(M.upd B1 (.cells [.sl [] true,.sl [] true,.sl [] true])) d=M d:=fun d hd=>upd_other (fun e=>hd (by rw [e];exact hB1))
 have hMe:∀ d,M d≠none->¬ O d->d≠b->Me d=M d:=fun d h1 h2 h3=>(hfe.eq d (by rw [hM1 d h1];exact h1) h2 h3).trans (hM1 d h1)
 have hOn:∀ d,Oe d->O d\/M d=none:=fun d hd=>(hfe.new d hd).imp id fun h=>Classical.byContradiction fun h1=>h1 ((hM1 d h1).symm.trans h)
 have hnO:∀ d,¬ O d->M d≠none->¬ Oe d:=fun d h1 h2 h=>(hOn d h).elim h1 h2
 have he1:Me B1=some (.cells [.sl [] true,.sl [] true,.sl [] true]):=(hfe.eq B1 (nnS (Mem.upd_self _ _ _)) hO1 f1b).trans (Mem.upd_self _ _ _);have hOe1:¬ Oe B1:=fun h=>(hfe.new B1 h).elim hO1 (nnS (Mem.upd_self _ _ _))
 refine Q28 ?_;refine Q75 sz49 ?_;exact ret_many (.inl rfl) rfl (rl_t rfl (rl_c rfl mmQ (loadP_w ag49 sz49 rfl rfl) rfl rl_nil)) rfl ⟨rfl,Oe,⟨(upd_other fb1).trans hbe,(upd_other fo1).trans ((hMe bo (nnS ho) nOo fob).trans ho),hme.upd hOe1 f10,(upd_other fs1).trans ((hMe s (nnS hs) nOs fsb).trans hs),(upd_other fc1).trans ((hMe c (nnS hc') nOc fcb).trans hc'),⟨⟨hnO b nOb (nnS hb),hnO bo nOo (nnS ho)⟩,hnO s nOs (nnS hs),hnO c nOc (nnS hc')⟩,⟨⟨fbo,fbs,fbc⟩,⟨fos,foc⟩,hsc⟩⟩,(fun d h1 h2 h3 h4=>(upd_other (fun e=>h1 (by rw [e];exact hB1))).trans (hMe d h1 h2 h3)),hOn,hfe.up⟩
def tk27s:Nat->Nat->Option Nat:=fun _ _=>none
def pl27s:Nat->List PStep:=fun _=>[]
theorem cb27s:Tryz.f27.body.map (codeB Tryz.prog Tryz.f27.ntmps tk27s pl27s)=some true:=by kernel_rfl
theorem snd27s (ge:TypeId)(gf:Nat×Nat)(b bo bm s c:Nat)(x:Nd)(o:Od)(mc:Mc)(n:Int)(f:Nat->Int×Int)(now:Int)(pp:AVal)(O:Nat->Prop)(o':Od)(at':Int)(pre ts rest:List ByteArray)(t:ByteArray)(M:Mem)(hN:NdAt ge gf M b bo bm s c x o mc n f now pp O)(hw:0<=now/\now<2^60)(hf:∀ i,0<=(f i).2/\(f i).2<=now)(hl:x.vm.length<2^60)(hlog:o'.log=pre++(ts++rest))(hcnt:mc.cnt=(pre.length:Nat))(hsu:o'.sure=(pre.length:Nat)+(ts.length:Nat)\/(ts=[]/\o'.sure<=(pre.length:Nat)))(hlg:o'.log.length+2<=2^36)(hn:n+2*(ts.length:Nat)+2<2^40)(hsz:∀ s∈o'.log,s.size<2^62)(hdl:x.done.length<=2^36)(hts:t.size<=100000)(hdt:(decC t).2=0)(hp:primN x f now=true)(hfs:firstN x=true)(hok:OK o)(hlo:o.log.length+2<=2^40)(hnew:hasS o.log t=false)(hls:x.saves.length<=2^40)(hpo:propO o t=(o',at',0))(hat:0<=at'/\at'<2^60):SoundCall Tryz.prog 27 [ptr b,str t] M fun r M'=>r = .tup [int 0,effV { x with saves:=x.saves++[savedN 3 t at'],done:=x.done++(doneN mc.cnt mc ts).2 }]/\∃ O',NdAt ge gf M' b bo bm s c { x with saves:=[],sends:=[],done:=[] } o' (doneN mc.cnt mc ts).1 (n+2*(ts.length:Nat)) f now pp O'/\(∀ d,M d≠none->¬ O d->d≠b->d≠bo->M' d=M d)/\(∀ d,O' d->O d\/M d=none)/\∀ d,O d->O' d:=by
 have hle:=Mem.le_refl M;obtain⟨hb,ho,hm,hs,hc',⟨⟨nOb,nOo⟩,nOs,nOc⟩,⟨⟨fbo,fbs,fbc⟩,⟨fos,foc⟩,hsc⟩⟩:=id hN;obtain⟨hb0,ho0,hs0,hc0⟩:=hN.b0;have fob:=fbo.symm;have fsb:=fbs.symm;have fcb:=fbc.symm;have fso:=fos.symm;have fco:=foc.symm;have hG:=hm.g;refine SoundCall.go tk27s pl27s mixed Tryz.func27 cb27s rfl (Nat.le_of_ble_eq_true rfl) ?_;refine Q47 ?_;refine o_alloc zc49 (fun B1 hB1=>?_);have fb1:b≠B1:=Mem.fresh_ne hB1 hb;have f1b:=fb1.symm;have fs1:s≠B1:=Mem.fresh_ne hB1 hs;have fc1:c≠B1:=Mem.fresh_ne hB1 hc';have fo1:bo≠B1:=Mem.fresh_ne hB1 ho;have f1o:=fo1.symm;have f1s:=fs1.symm;have f1c:=fc1.symm;have f10:B1≠0:=(Mem.fresh_ne hB1 hG).symm;have f01:=f10.symm;have hO1:=hm.nof hB1;refine Q1 ?_;refine Q18 ?_;refine Q2 ?_;refine o_callx ((snd79s b bo bm s c x o pp f now t ge gf _ mmQ mmQ mmQ mmQ mmQ hsc hw hf hok hb0 hl hlo hts hls hdt hp hfs hnew o' at' hpo hat)) goes79 (ac (mvQ) (ac (v_raw rfl) ac_nil)) rfl ?_;rintro r Mp ⟨rfl,hbp,hop,hfp⟩;have hM0:∀ d,M d≠none->(M.upd B1 (.cells [.sl [] true,.sl [] true,.sl [] true])) d=M d:=fun d hd=>upd_other (fun e=>hd (by rw [e];exact hB1))
 have hM1:∀ d,M d≠none->d≠b->d≠bo->Mp d=M d:=fun d hd h1 h2=>(hfp d (by rw [hM0 d hd];exact hd) h1 h2).trans (hM0 d hd)
 have hp1:Mp B1=some (.cells [.sl [] true,.sl [] true,.sl [] true]):=(hfp B1 (nnS (Mem.upd_self _ _ _)) f1b f1o).trans (Mem.upd_self _ _ _);have hmp:Mch ge gf Mp bm n mc O:=hm.fr (fun d hd=>hM1 d (hm.at'.ok d hd) (fun e=>nOb (by rw [← e];exact hd)) (fun e=>nOo (by rw [← e];exact hd))) (hM1 0 (nnS hG) hb0.symm ho0.symm);have hnp:∀ d,Mp d=none->M d=none:=fun d hd=>Classical.byContradiction fun h=>by
  by_cases e1:d=b
  ·rw [e1,hbp] at hd;cases hd
  ·by_cases e2:d=bo
   ·rw [e2,hop] at hd;cases hd
   ·rw [hM1 d h e1 e2] at hd;exact h hd
 refine Q51 ?_;refine Q10 ?_;refine o_callx ((snd57 b bo bm { x with saves:=x.saves++[savedN 3 t at'] } o' (ptr s) pp ge gf n mc O pre ts rest _ hbp hop hmp nOb nOo fbo hb0 hlog hcnt hsu hlg hn hsz hdl)) goes57 (ac (mvQ) ac_nil) rfl ?_;rintro r Me ⟨rfl,hbe,Oe,hme,hfe⟩;have hMe:∀ d,M d≠none->¬ O d->d≠b->d≠bo->Me d=M d:=fun d h1 h2 h3 h4=>(hfe.eq d (by rw [hM1 d h1 h3 h4];exact h1) h2 h3).trans (hM1 d h1 h3 h4)
 have hOn:∀ d,Oe d->O d\/M d=none:=fun d hd=>(hfe.new d hd).imp id (hnp d)
 have hnO:∀ d,¬ O d->M d≠none->¬ Oe d:=fun d h1 h2 h=>(hOn d h).elim h1 h2
 have he1:Me B1=some (.cells [.sl [] true,.sl [] true,.sl [] true]):=(hfe.eq B1 (nnS hp1) hO1 f1b).trans hp1;have hOe1:¬ Oe B1:=fun h=>(hfe.new B1 h).elim hO1 (nnS hp1)
 refine Q28 ?_;refine Q75 sz49 ?_;exact ret_many (.inl rfl) rfl (rl_t rfl (rl_c rfl mmQ (loadP_w ag49 sz49 rfl rfl) rfl rl_nil)) rfl ⟨rfl,Oe,⟨(upd_other fb1).trans hbe,(upd_other fo1).trans ((hfe.eq bo (nnS hop) nOo fob).trans hop),hme.upd hOe1 f10,(upd_other fs1).trans ((hMe s (nnS hs) nOs fsb fso).trans hs),(upd_other fc1).trans ((hMe c (nnS hc') nOc fcb fco).trans hc'),⟨⟨hnO b nOb (nnS hb),hnO bo nOo (nnS ho)⟩,hnO s nOs (nnS hs),hnO c nOc (nnS hc')⟩,⟨⟨fbo,fbs,fbc⟩,⟨fos,foc⟩,hsc⟩⟩,(fun d h1 h2 h3 h4=>(upd_other (fun e=>h1 (by rw [e];exact hB1))).trans (hMe d h1 h2 h3 h4)),hOn,hfe.up⟩
end C17
