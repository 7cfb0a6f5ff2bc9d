import Derived.Test.YthmhdhmfkegpiaaGreatDoorHz
import Derived.Test.YthmhdhmfkegpiaaGreatDoorNn20
import Derived.Test.YthmhdhmfkegpiaaGreatDoorAmH
open Go Go.Proofs Go.Am
set_option linter.unusedVariables false
set_option linter.unusedSimpArgs false
set_option autoImplicit false
set_option maxHeartbeats 4000000
set_option maxRecDepth 20000
namespace C17
theorem ag47:aggT Tryz.prog 47=some false:=by kernel_rfl
theorem ag49:aggT Tryz.prog 49=some true:=by kernel_rfl
theorem bz49:(zeroT Tryz.prog 49).map (fun z=>z.cells.toList.map AVal.raw)=some [.raw (.slice none 0 0),.raw (.slice none 0 0),.raw (.slice none 0 0)]:=by kernel_rfl
theorem bp49:(aPlaces Tryz.prog 49).isSome=true:=by kernel_rfl
theorem bz83:(zeroT Tryz.prog 83).map (fun z=>z.cells.toList.map AVal.raw)=some [.raw (.int .i64 0),.raw (.string { data:=#[] }),.raw (.int .i64 0),.raw (.int .i64 0),.raw (.slice none 0 0)]:=by kernel_rfl
theorem bp83:(aPlaces Tryz.prog 83).isSome=true:=by kernel_rfl
theorem fo49_2:fo Tryz.prog 49 2=some (2,1):=by kernel_rfl
theorem fo83_0:fo Tryz.prog 83 0=some (0,1):=by kernel_rfl
theorem fo83_1:fo Tryz.prog 83 1=some (1,1):=by kernel_rfl
theorem fo83_2:fo Tryz.prog 83 2=some (2,3):=by kernel_rfl
theorem slt47:SlT Tryz.prog 47 83 5 64:=⟨by kernel_rfl,by kernel_rfl,by kernel_rfl,by kernel_rfl,by decide⟩
theorem sz47:sizeT Tryz.prog 47=some 1:=by kernel_rfl
theorem sz49:sizeT Tryz.prog 49=some 3:=by kernel_rfl
theorem zc49:zeroCellsT Tryz.prog 49=some [.sl [] true,.sl [] true,.sl [] true]:=by kernel_rfl
def tk57:Nat->Nat->Option Nat
 | 6,6=>some 0
 | _,_=>none
def pl57:Nat->List PStep
 | 6=>[.q 0,.q 1,.q 2,.q 3,.q 4,.q 5,.q 7,.q 8,.q 9,.q 10,.q 11,.q 12,.q 13,.q 14,.q 16,.q 17,.q 18,.q 19,.a [6,15,20,21,22,23,24,25,26,27,28],.q 0,.q 0,.q 0,.q 0,.q 0,.q 0,.q 0,.q 0,.q 0,.q 0]
 | _=>[]
theorem cb57:Tryz.f57.body.map (codeB Tryz.prog Tryz.f57.ntmps tk57 pl57)=some true:=by kernel_rfl
theorem goes57:goesB Tryz.prog 57=true:=by kernel_rfl
def doneN:Int->Mc->List ByteArray->Mc×List Dn
 | _,m,[]=>(m,[])
 | p,m,t::ts=>((doneN (p+1) (stepM m t).1 ts).1,⟨p,t,(stepM m t).2⟩::(doneN (p+1) (stepM m t).1 ts).2)
theorem doneN_snoc (t:ByteArray):∀ (ts:List ByteArray) (p:Int) (m:Mc),doneN p m (ts++[t])=((stepM (doneN p m ts).1 t).1,(doneN p m ts).2++[⟨p+ts.length,t,(stepM (doneN p m ts).1 t).2⟩])
 | [],p,m=>by
  show _=((stepM m t).1,[Dn.mk (p+((0:Nat):Int)) t (stepM m t).2])
  rw [Int.natCast_zero,Int.add_zero];rfl
 | a::ts,p,m=>by
  have h:=doneN_snoc t ts (p+1) (stepM m a).1;show ((doneN (p+1) (stepM m a).1 (ts++[t])).1,_::(doneN (p+1) (stepM m a).1 (ts++[t])).2)=_
  rw [h];have e:p+1+(ts.length:Int)=p+((a::ts).length:Nat):=by rw [List.length_cons];omega
  rw [e];rfl
theorem doneN_len:∀ (ts:List ByteArray) (p:Int) (m:Mc),(doneN p m ts).2.length=ts.length
 | [],_,_=>rfl
 | a::ts,p,m=>by show _+1=_+1;rw [doneN_len ts (p+1)]
def effV (x:Nd):AVal:=.agg [.sl (x.saves.map str) false,.sl (x.sends.map sndV) false,.sl (x.done.map dnV) false]
structure Fr (M M':Mem)(b:Nat)(O O':Nat->Prop):Prop where
 eq:∀ d,M d≠none->¬ O d->d≠b->M' d=M d
 new:∀ d,O' d->O d\/M d=none
 up:∀ d,O d->O' d
theorem Fr.refl (M:Mem)(b:Nat)(O:Nat->Prop):Fr M M b O O:=⟨fun _ _ _ _=>rfl,fun _ h=>.inl h,fun _ h=>h⟩
theorem Fr.fresh {M M':Mem}{b d:Nat}{O O':Nat->Prop}(h:Fr M M' b O O')(hd:M' d=none)(hO:¬ O' d)(hb:M' b≠none):M d=none:=by
 by_cases hM:M d=none
 ·exact hM
 ·exfalso;by_cases hdb:d=b
  ·rw [hdb] at hd;exact hb hd
  ·have e:=h.eq d hM (fun hc=>hO (h.up d hc)) hdb;rw [e] at hd;exact hM hd
theorem Fr.upd {M M':Mem}{b d:Nat}{O O':Nat->Prop}{o:AObj}(h:Fr M M' b O O')(hd:d=b\/M d=none):Fr M (M'.upd d o) b O O' :=
 ⟨fun c hc hO hcb=>(upd_other (fun e=>by
  subst e;rcases hd with h1|h1
  ·exact hcb h1
  ·exact hc h1)).trans (h.eq c hc hO hcb),h.new,h.up⟩
theorem Fr.step {M Mc Mp Ma Mf:Mem}{b:Nat}{O Ok Oa:Nat->Prop}(h:Fr M Mc b O Ok)(h1:Chg Mp Ma Ok Oa)(hp:∀ d,Mc d≠none->d≠b->Mp d=Mc d)(hf:∀ d,Mc d≠none->d≠b->Mf d=Ma d)(hb:Mp b≠none):Fr M Mf b O Oa:=by
 refine⟨fun d hd hO hdb=>?_,fun d hO=>?_,fun d hO=>h1.up _ (h.up d hO)⟩
 ·have e1:=h.eq d hd hO hdb;have e0:Mc d≠none:=by rw [e1];exact hd
  have e2:=hp d e0 hdb;have e3:¬ Ok d:=fun hk=>(h.new d hk).elim hO hd
  rw [hf d e0 hdb,h1.eq d (by rw [e2];exact e0) e3,e2,e1]
 ·rcases h1.new d hO with h2|h2
  ·exact h.new d h2
  ·by_cases hM:M d=none
   ·exact .inr hM
   ·by_cases hOd:O d
    ·exact .inl hOd
    ·exfalso;by_cases hdb:d=b
     ·rw [hdb] at h2;exact hb h2
     ·have e1:=h.eq d hM hOd hdb;have e0:Mc d≠none:=by rw [e1];exact hM
      rw [hp d e0 hdb] at h2;exact e0 h2
def xk (x:Nd)(mc:Mc)(ts:List ByteArray)(k:Nat):Nd:={ x with done:=x.done++(doneN mc.cnt mc (ts.take k)).2 }
theorem xk_all (x:Nd)(mc:Mc)(ts:List ByteArray):xk x mc ts ts.length = { x with done:=x.done++(doneN mc.cnt mc ts).2 }:=by unfold xk;rw [List.take_length]
theorem xk_zero (x:Nd)(mc:Mc)(ts:List ByteArray):xk x mc ts 0=x:=by
 unfold xk;rw [List.take_zero];show { x with done:=x.done++[] }=x
 rw [List.append_nil]
theorem xk_succ {x:Nd}{mc:Mc}{ts:List ByteArray}{k:Nat}(h:k<ts.length){p:Int}(hp:mc.cnt+(k:Nat)=p){t:ByteArray}(ht:ts[k]=t):(xk x mc ts (k+1)).done.map dnV=(xk x mc ts k).done.map dnV++[dnV ⟨p,t,(stepM (doneN mc.cnt mc (ts.take k)).1 t).2⟩]/\(doneN mc.cnt mc (ts.take (k+1))).1=(stepM (doneN mc.cnt mc (ts.take k)).1 t).1:=by
 subst hp;subst ht;have h1:(ts.take k).length=k:=by rw [List.length_take];omega
 rw [List.take_succ_eq_append_getElem h,doneN_snoc,h1];refine⟨?_,rfl⟩;unfold xk;rw [List.take_succ_eq_append_getElem h,doneN_snoc,h1];simp only [List.map_append,List.append_assoc];rfl
theorem nnS {M:Mem}{d:Nat}{o:AObj}(h:M d=some o):M d≠none:=by rw [h];exact fun h=>by cases h
theorem snd57 (b bo bm:Nat)(x:Nd)(o:Od)(ps pp:AVal)(ge:TypeId)(gf:Nat×Nat)(n:Int)(mc:Mc)(O:Nat->Prop)(pre ts rest:List ByteArray)(M:Mem)(hb:M b=some (.cells (ndC x (ptr bo) (ptr bm) ps pp)))(ho:M bo=some (.cells (odC o)))(hm:Mch ge gf M bm n mc O)(hOb:¬ O b)(hOo:¬ O bo)(hbo:b≠bo)(hb0:b≠0)(hlog:o.log=pre++(ts++rest))(hcnt:mc.cnt=(pre.length:Nat))(hsu:o.sure=(pre.length:Nat)+(ts.length:Nat)\/(ts=[]/\o.sure<=(pre.length:Nat)))(hlg:o.log.length+2<=2^36)(hn:n+2*(ts.length:Nat)+2<2^40)(hsz:∀ s∈o.log,s.size<2^62)(hdl:x.done.length<=2^36):SoundCall Tryz.prog 57 [ptr b] M fun r M'=>r=effV { x with done:=x.done++(doneN mc.cnt mc ts).2 }/\M' b=some (.cells (ndC { x with saves:=[],sends:=[],done:=[] } (ptr bo) (ptr bm) ps pp))/\∃ O',Mch ge gf M' bm (n+2*(ts.length:Nat)) (doneN mc.cnt mc ts).1 O'/\Fr M M' b O O':=by
 have hle:=Mem.le_refl M;have hlm:(o.log.map str).length=o.log.length:=List.length_map _;have hll:o.log.length=pre.length+(ts.length+rest.length):=by rw [hlog,List.length_append,List.length_append]
 obtain⟨mt,ms,ad,hA⟩:=hm.at';have hAb:=hA.hb;have hM0:=hm.g;refine SoundCall.go tk57 pl57 mixed Tryz.func57 cb57 rfl (Nat.le_of_ble_eq_true rfl) ?_;refine Q0 ?_;refine o_alloc zc49 (fun B1 hB1=>?_);have fb1:b≠B1:=Mem.fresh_ne hB1 hb;have f1b:=fb1.symm;have fo1:bo≠B1:=Mem.fresh_ne hB1 ho;have f1o:=fo1.symm;have fm1:bm≠B1:=Mem.fresh_ne hB1 hAb;have hO1:=hm.nof hB1;have f10:B1≠0:=(Mem.fresh_ne hB1 hM0).symm;have fob:=hbo.symm;refine Q48 ?_;refine Q10 ?_;refine o_call ((snd22s b bo x o (ptr bm) ps pp _ mmQ mmQ (by omega))) goes22 (ac (mvQ) ac_nil) rfl ?_;refine Q42 ?_;refine Q1 ?_;refine Q95 fo134_6 ?_;refine Q126 ag128 sz128 ?_;refine o_q (q_pneq und128 rfl rfl) rfl rfl rfl ?_;refine Q149 ?_;refine Q95 fo134_8 ?_;refine Q126 ag84 sz84 ?_;refine o_call ((snd35 bm mt ms mc _ mmQ)) goes35 (ac (mvQ) ac_nil) rfl ?_;refine Q130 ?_;refine s_loop (fun m S=>∃ T,∃ Mc:Mem,∃ Ok:Nat->Prop,∃ k:Nat,S=⟨setT (setT (setT (setT T 0 (ptr b)) 2 (ptr B1)) 3 (.sl (o.log.map str) false)) 4 (int ((pre.length+k:Nat):Int)),Mc⟩/\Mc B1=some (.cells [.sl [] true,.sl [] true,.sl [] true])/\Mc b=some (.cells (ndC (xk x mc ts k) (ptr bo) (ptr bm) ps pp))/\Mc bo=some (.cells (odC o))/\Mch ge gf Mc bm (n+2*(k:Nat)) (doneN mc.cnt mc (ts.take k)).1 Ok/\¬ Ok b/\¬ Ok bo/\¬ Ok B1/\Fr M Mc b O Ok/\k<=ts.length/\m=ts.length - k) ts.length ?_ ?_
 ·exact⟨_,_,O,0,St.mkT (kp (kp (kp (kp rfl rfl) rfl) rfl) (congrArg int (show mc.cnt=((pre.length+0:Nat):Int) by rw [hcnt];rfl))).symm,Mem.upd_self _ _ _,(by rw [xk_zero];exact mmQ),mmQ,(by rw [show n+2*((0:Nat):Int)=n by omega];exact hm.upd hO1 f10),hOb,hOo,hO1,(Fr.refl M b O).upd (.inr hB1),Nat.zero_le _,rfl⟩
 rintro m S ⟨T,Mc,Ok,k,rfl,hc1,hcb,hco,hmk,hOkb,hOko,hOk1,hfr,hk,rfl⟩;refine Q9 ?_;refine Q10 ?_;refine Q25 fo134_6 ?_;refine Q126 ag128 sz128 ?_;refine o_call ((snd77 bo o _ hco)) goes77 (ac (mvQ) ac_nil) rfl ?_;refine Q84 ?_;refine s_cond rfl (fun h1=>?_) (fun h1=>?_)
 ·have k1:=h1;try simp only [zs] at k1
  have hk2:k<ts.length:=by
   rcases hsu with h|⟨h,h'⟩
   ·omega
   ·omega
  have hlt:pre.length+k<o.log.length:=by omega
  have hget:o.log[pre.length+k]=ts[k]:=by
   have h1:o.log[pre.length+k]? = some ts[k]:=by
    rw [hlog,List.getElem?_append_right (by omega),List.getElem?_append_left (by omega)];have e:pre.length+k - pre.length=k:=by omega
    rw [e,List.getElem?_eq_getElem hk2]
   exact (List.getElem?_eq_some_iff.1 h1).2
  obtain⟨hxd,hdm⟩:=xk_succ (x:=x) (mc:=mc) hk2 (p:=((pre.length+k:Nat):Int)) (by rw [hcnt];omega) hget.symm;have hdk:(xk x mc ts k).done.length<=2^37:=by
   show (x.done++(doneN mc.cnt mc (ts.take k)).2).length<=_
   rw [List.length_append,doneN_len,List.length_take];omega
  refine Q78 ?_;refine s_draw rfl ?_;refine Q123 ?_;refine Q136 ?_;refine Q22 fo134_0 ?_;refine Q22 fo123_0 ?_;refine Q22 fo49_2 ?_;refine Q14 ?_;refine Q58 ?_;refine Q14 ?_;refine d_q rfl (q_idx und24 sz9 rfl rfl (by omega) (gm (pre.length+k) (by first|omega|simp)) rfl) rfl rfl rfl ?_;refine d_q rfl (q_ld ag9 sz9 rfl (gm (pre.length+k) (by first|omega|simp)) rfl (v_raw rfl)) rfl rfl rfl ?_;refine Q136 ?_;refine Q22 fo134_8 ?_;refine Q58 ?_;refine Q14 ?_;refine d_q rfl (q_idx und24 sz9 rfl rfl (by omega) (gm (pre.length+k) (by first|omega|simp)) rfl) rfl rfl rfl ?_;refine d_q rfl (q_ld ag9 sz9 rfl (gm (pre.length+k) (by first|omega|simp)) rfl (v_raw rfl)) rfl rfl rfl ?_;refine d_any (l:=#[true,true,true,true,true,true,false,true,true,true,true,true,true,true,true,false,true,true,true,true,false,false,false,false,false,false,false,false,false]) (n:=11) rfl (by kernel_rfl) ?_;refine any_step (r:=[6,15]) (by kernel_rfl) (by decide) ?_;intro j hj;simp only [List.mem_cons,List.not_mem_nil,or_false] at hj;rcases hj with rfl|rfl
  ·refine Q39 ?_;refine Q137 ag47 sz47 ?_;refine Q1 ?_;refine any_step (r:=[15]) (by kernel_rfl) (by decide) ?_;intro j hj;simp only [List.mem_cons,List.not_mem_nil,or_false] at hj;rcases hj with rfl
   ·refine Q39 ?_;refine Q126 ag84 sz84 ?_;refine Q1 ?_;refine any_step (r:=[20]) (by kernel_rfl) (by decide) ?_;intro j hj;simp only [List.mem_cons,List.not_mem_nil,or_false] at hj;rcases hj with rfl
    ·refine Q39 ?_;refine Q260 ?_;rintro r Ma ⟨rfl,Oa,hma,hca⟩;have hba:=hca.keep (by first|exact Mem.upd_self _ _ _|exact hcb) hOkb;have hoa:=hca.keep (by first|exact hco|exact (upd_other fob).trans hco) hOko;have h1a:=hca.keep (by first|exact hc1|exact (upd_other f1b).trans hc1) hOk1;have hOab:=hca.nO (by first|exact Mem.upd_self _ _ _|exact hcb) hOkb;have hOao:=hca.nO (by first|exact hco|exact (upd_other fob).trans hco) hOko;have hOa1:=hca.nO (by first|exact hc1|exact (upd_other f1b).trans hc1) hOk1;refine Q1 ?_;refine any_step (r:=[21]) (by kernel_rfl) (by decide) ?_;intro j hj;simp only [List.mem_cons,List.not_mem_nil,or_false] at hj;rcases hj with rfl
     ·refine Q39 ?_;refine Q240 bz83 bp83 fo83_0 fo83_1 fo83_2 ?_;refine Q1 ?_;refine Q241 ?_;intro j hj;simp only [List.mem_cons,List.not_mem_nil,or_false] at hj;rcases hj with rfl
      ·refine Q39 ?_;refine Q107 slt47 ?_;refine Q1 ?_;refine Q211 ?_;intro j hj;simp only [List.mem_cons,List.not_mem_nil,or_false] at hj;rcases hj with rfl
       ·refine Q39 ?_;refine Q212 slt47 ?_;refine Q1 ?_;refine Q213 ?_;intro j hj;simp only [List.mem_cons,List.not_mem_nil,or_false] at hj;rcases hj with rfl
        ·refine Q39 ?_;refine o_q (q_nil rfl) rfl rfl rfl ?_;refine Q1 ?_;refine Q214 ?_;intro j hj;simp only [List.mem_cons,List.not_mem_nil,or_false] at hj;rcases hj with rfl
         ·refine Q135 fo134_0 ?_;refine Q215 ?_;intro j hj;simp only [List.mem_cons,List.not_mem_nil,or_false] at hj;rcases hj with rfl
          ·refine Q135 fo123_0 ?_;refine Q216 ?_;intro j hj;simp only [List.mem_cons,List.not_mem_nil,or_false] at hj;rcases hj with rfl
           ·refine Q135 fo49_2 ?_;refine Q217 ?_;intro j hj;simp only [List.mem_cons,List.not_mem_nil,or_false] at hj;rcases hj with rfl
            ·refine Q39 ?_;refine Q112 sz47 ?_;refine Q1 ?_;refine any_done (by kernel_rfl) ?_;refine Q88 ?_;refine Q57 ?_;exact⟨ts.length - (k+1),by omega,_,_,Oa,k+1,St.mkT (kp (kp (kp (kp rfl rfl) rfl) rfl) rfl).symm,mmQ,(Mem.upd_self _ _ _).trans (congrArg (fun q=>some (AObj.cells q)) (by unfold ndC;rw [hxd];rfl)),mmQ,(by rw [hdm,show n+2*((k+1:Nat):Int)=n+2*(k:Nat)+2 by omega];first|exact (hma.upd hOab hb0).upd hOab hb0|exact hma.upd hOab hb0),hOab,hOao,hOa1,hfr.step hca (fun d _ hdb=>by first|rfl|exact upd_other hdb) (fun d _ hdb=>by first|exact upd_other hdb|exact (upd_other hdb).trans (upd_other hdb)) (by first|exact nnS (Mem.upd_self _ _ _)|exact nnS hcb),by omega,rfl⟩
  ·refine Q39 ?_;refine Q126 ag84 sz84 ?_;refine Q1 ?_;refine any_step (r:=[6,20]) (by kernel_rfl) (by decide) ?_;intro j hj;simp only [List.mem_cons,List.not_mem_nil,or_false] at hj;rcases hj with rfl|rfl
   ·refine Q39 ?_;refine Q137 ag47 sz47 ?_;refine Q1 ?_;refine any_step (r:=[20]) (by kernel_rfl) (by decide) ?_;intro j hj;simp only [List.mem_cons,List.not_mem_nil,or_false] at hj;rcases hj with rfl
    ·refine Q39 ?_;refine Q260 ?_;rintro r Ma ⟨rfl,Oa,hma,hca⟩;have hba:=hca.keep (by first|exact Mem.upd_self _ _ _|exact hcb) hOkb;have hoa:=hca.keep (by first|exact hco|exact (upd_other fob).trans hco) hOko;have h1a:=hca.keep (by first|exact hc1|exact (upd_other f1b).trans hc1) hOk1;have hOab:=hca.nO (by first|exact Mem.upd_self _ _ _|exact hcb) hOkb;have hOao:=hca.nO (by first|exact hco|exact (upd_other fob).trans hco) hOko;have hOa1:=hca.nO (by first|exact hc1|exact (upd_other f1b).trans hc1) hOk1;refine Q1 ?_;refine any_step (r:=[21]) (by kernel_rfl) (by decide) ?_;intro j hj;simp only [List.mem_cons,List.not_mem_nil,or_false] at hj;rcases hj with rfl
     ·refine Q39 ?_;refine Q240 bz83 bp83 fo83_0 fo83_1 fo83_2 ?_;refine Q1 ?_;refine Q241 ?_;intro j hj;simp only [List.mem_cons,List.not_mem_nil,or_false] at hj;rcases hj with rfl
      ·refine Q39 ?_;refine Q107 slt47 ?_;refine Q1 ?_;refine Q211 ?_;intro j hj;simp only [List.mem_cons,List.not_mem_nil,or_false] at hj;rcases hj with rfl
       ·refine Q39 ?_;refine Q212 slt47 ?_;refine Q1 ?_;refine Q213 ?_;intro j hj;simp only [List.mem_cons,List.not_mem_nil,or_false] at hj;rcases hj with rfl
        ·refine Q39 ?_;refine o_q (q_nil rfl) rfl rfl rfl ?_;refine Q1 ?_;refine Q214 ?_;intro j hj;simp only [List.mem_cons,List.not_mem_nil,or_false] at hj;rcases hj with rfl
         ·refine Q135 fo134_0 ?_;refine Q215 ?_;intro j hj;simp only [List.mem_cons,List.not_mem_nil,or_false] at hj;rcases hj with rfl
          ·refine Q135 fo123_0 ?_;refine Q216 ?_;intro j hj;simp only [List.mem_cons,List.not_mem_nil,or_false] at hj;rcases hj with rfl
           ·refine Q135 fo49_2 ?_;refine Q217 ?_;intro j hj;simp only [List.mem_cons,List.not_mem_nil,or_false] at hj;rcases hj with rfl
            ·refine Q39 ?_;refine Q112 sz47 ?_;refine Q1 ?_;refine any_done (by kernel_rfl) ?_;refine Q88 ?_;refine Q57 ?_;exact⟨ts.length - (k+1),by omega,_,_,Oa,k+1,St.mkT (kp (kp (kp (kp rfl rfl) rfl) rfl) rfl).symm,mmQ,(Mem.upd_self _ _ _).trans (congrArg (fun q=>some (AObj.cells q)) (by unfold ndC;rw [hxd];rfl)),mmQ,(by rw [hdm,show n+2*((k+1:Nat):Int)=n+2*(k:Nat)+2 by omega];first|exact (hma.upd hOab hb0).upd hOab hb0|exact hma.upd hOab hb0),hOab,hOao,hOa1,hfr.step hca (fun d _ hdb=>by first|rfl|exact upd_other hdb) (fun d _ hdb=>by first|exact upd_other hdb|exact (upd_other hdb).trans (upd_other hdb)) (by first|exact nnS (Mem.upd_self _ _ _)|exact nnS hcb),by omega,rfl⟩
   ·refine Q39 ?_;refine Q260 ?_;rintro r Ma ⟨rfl,Oa,hma,hca⟩;have hba:=hca.keep (by first|exact Mem.upd_self _ _ _|exact hcb) hOkb;have hoa:=hca.keep (by first|exact hco|exact (upd_other fob).trans hco) hOko;have h1a:=hca.keep (by first|exact hc1|exact (upd_other f1b).trans hc1) hOk1;have hOab:=hca.nO (by first|exact Mem.upd_self _ _ _|exact hcb) hOkb;have hOao:=hca.nO (by first|exact hco|exact (upd_other fob).trans hco) hOko;have hOa1:=hca.nO (by first|exact hc1|exact (upd_other f1b).trans hc1) hOk1;refine Q1 ?_;refine any_step (r:=[6,21]) (by kernel_rfl) (by decide) ?_;intro j hj;simp only [List.mem_cons,List.not_mem_nil,or_false] at hj;rcases hj with rfl|rfl
    ·refine Q39 ?_;refine Q137 ag47 sz47 ?_;refine Q1 ?_;refine any_step (r:=[21]) (by kernel_rfl) (by decide) ?_;intro j hj;simp only [List.mem_cons,List.not_mem_nil,or_false] at hj;rcases hj with rfl
     ·refine Q39 ?_;refine Q240 bz83 bp83 fo83_0 fo83_1 fo83_2 ?_;refine Q1 ?_;refine Q241 ?_;intro j hj;simp only [List.mem_cons,List.not_mem_nil,or_false] at hj;rcases hj with rfl
      ·refine Q39 ?_;refine Q107 slt47 ?_;refine Q1 ?_;refine Q211 ?_;intro j hj;simp only [List.mem_cons,List.not_mem_nil,or_false] at hj;rcases hj with rfl
       ·refine Q39 ?_;refine Q212 slt47 ?_;refine Q1 ?_;refine Q213 ?_;intro j hj;simp only [List.mem_cons,List.not_mem_nil,or_false] at hj;rcases hj with rfl
        ·refine Q39 ?_;refine o_q (q_nil rfl) rfl rfl rfl ?_;refine Q1 ?_;refine Q214 ?_;intro j hj;simp only [List.mem_cons,List.not_mem_nil,or_false] at hj;rcases hj with rfl
         ·refine Q135 fo134_0 ?_;refine Q215 ?_;intro j hj;simp only [List.mem_cons,List.not_mem_nil,or_false] at hj;rcases hj with rfl
          ·refine Q135 fo123_0 ?_;refine Q216 ?_;intro j hj;simp only [List.mem_cons,List.not_mem_nil,or_false] at hj;rcases hj with rfl
           ·refine Q135 fo49_2 ?_;refine Q217 ?_;intro j hj;simp only [List.mem_cons,List.not_mem_nil,or_false] at hj;rcases hj with rfl
            ·refine Q39 ?_;refine Q112 sz47 ?_;refine Q1 ?_;refine any_done (by kernel_rfl) ?_;refine Q88 ?_;refine Q57 ?_;exact⟨ts.length - (k+1),by omega,_,_,Oa,k+1,St.mkT (kp (kp (kp (kp rfl rfl) rfl) rfl) rfl).symm,mmQ,(Mem.upd_self _ _ _).trans (congrArg (fun q=>some (AObj.cells q)) (by unfold ndC;rw [hxd];rfl)),mmQ,(by rw [hdm,show n+2*((k+1:Nat):Int)=n+2*(k:Nat)+2 by omega];first|exact (hma.upd hOab hb0).upd hOab hb0|exact hma.upd hOab hb0),hOab,hOao,hOa1,hfr.step hca (fun d _ hdb=>by first|rfl|exact upd_other hdb) (fun d _ hdb=>by first|exact upd_other hdb|exact (upd_other hdb).trans (upd_other hdb)) (by first|exact nnS (Mem.upd_self _ _ _)|exact nnS hcb),by omega,rfl⟩
    ·refine Q39 ?_;refine Q240 bz83 bp83 fo83_0 fo83_1 fo83_2 ?_;refine Q1 ?_;refine any_step (r:=[6,22]) (by kernel_rfl) (by decide) ?_;intro j hj;simp only [List.mem_cons,List.not_mem_nil,or_false] at hj;rcases hj with rfl|rfl
     ·refine Q39 ?_;refine Q137 ag47 sz47 ?_;refine Q1 ?_;refine Q241 ?_;intro j hj;simp only [List.mem_cons,List.not_mem_nil,or_false] at hj;rcases hj with rfl
      ·refine Q39 ?_;refine Q107 slt47 ?_;refine Q1 ?_;refine Q211 ?_;intro j hj;simp only [List.mem_cons,List.not_mem_nil,or_false] at hj;rcases hj with rfl
       ·refine Q39 ?_;refine Q212 slt47 ?_;refine Q1 ?_;refine Q213 ?_;intro j hj;simp only [List.mem_cons,List.not_mem_nil,or_false] at hj;rcases hj with rfl
        ·refine Q39 ?_;refine o_q (q_nil rfl) rfl rfl rfl ?_;refine Q1 ?_;refine Q214 ?_;intro j hj;simp only [List.mem_cons,List.not_mem_nil,or_false] at hj;rcases hj with rfl
         ·refine Q135 fo134_0 ?_;refine Q215 ?_;intro j hj;simp only [List.mem_cons,List.not_mem_nil,or_false] at hj;rcases hj with rfl
          ·refine Q135 fo123_0 ?_;refine Q216 ?_;intro j hj;simp only [List.mem_cons,List.not_mem_nil,or_false] at hj;rcases hj with rfl
           ·refine Q135 fo49_2 ?_;refine Q217 ?_;intro j hj;simp only [List.mem_cons,List.not_mem_nil,or_false] at hj;rcases hj with rfl
            ·refine Q39 ?_;refine Q112 sz47 ?_;refine Q1 ?_;refine any_done (by kernel_rfl) ?_;refine Q88 ?_;refine Q57 ?_;exact⟨ts.length - (k+1),by omega,_,_,Oa,k+1,St.mkT (kp (kp (kp (kp rfl rfl) rfl) rfl) rfl).symm,mmQ,(Mem.upd_self _ _ _).trans (congrArg (fun q=>some (AObj.cells q)) (by unfold ndC;rw [hxd];rfl)),mmQ,(by rw [hdm,show n+2*((k+1:Nat):Int)=n+2*(k:Nat)+2 by omega];first|exact (hma.upd hOab hb0).upd hOab hb0|exact hma.upd hOab hb0),hOab,hOao,hOa1,hfr.step hca (fun d _ hdb=>by first|rfl|exact upd_other hdb) (fun d _ hdb=>by first|exact upd_other hdb|exact (upd_other hdb).trans (upd_other hdb)) (by first|exact nnS (Mem.upd_self _ _ _)|exact nnS hcb),by omega,rfl⟩
     ·refine Q39 ?_;refine Q107 slt47 ?_;refine Q1 ?_;refine any_step (r:=[6]) (by kernel_rfl) (by decide) ?_;intro j hj;simp only [List.mem_cons,List.not_mem_nil,or_false] at hj;rcases hj with rfl
      ·refine Q39 ?_;refine Q137 ag47 sz47 ?_;refine Q1 ?_;refine Q211 ?_;intro j hj;simp only [List.mem_cons,List.not_mem_nil,or_false] at hj;rcases hj with rfl
       ·refine Q39 ?_;refine Q212 slt47 ?_;refine Q1 ?_;refine Q213 ?_;intro j hj;simp only [List.mem_cons,List.not_mem_nil,or_false] at hj;rcases hj with rfl
        ·refine Q39 ?_;refine o_q (q_nil rfl) rfl rfl rfl ?_;refine Q1 ?_;refine Q214 ?_;intro j hj;simp only [List.mem_cons,List.not_mem_nil,or_false] at hj;rcases hj with rfl
         ·refine Q135 fo134_0 ?_;refine Q215 ?_;intro j hj;simp only [List.mem_cons,List.not_mem_nil,or_false] at hj;rcases hj with rfl
          ·refine Q135 fo123_0 ?_;refine Q216 ?_;intro j hj;simp only [List.mem_cons,List.not_mem_nil,or_false] at hj;rcases hj with rfl
           ·refine Q135 fo49_2 ?_;refine Q217 ?_;intro j hj;simp only [List.mem_cons,List.not_mem_nil,or_false] at hj;rcases hj with rfl
            ·refine Q39 ?_;refine Q112 sz47 ?_;refine Q1 ?_;refine any_done (by kernel_rfl) ?_;refine Q88 ?_;refine Q57 ?_;exact⟨ts.length - (k+1),by omega,_,_,Oa,k+1,St.mkT (kp (kp (kp (kp rfl rfl) rfl) rfl) rfl).symm,mmQ,(Mem.upd_self _ _ _).trans (congrArg (fun q=>some (AObj.cells q)) (by unfold ndC;rw [hxd];rfl)),mmQ,(by rw [hdm,show n+2*((k+1:Nat):Int)=n+2*(k:Nat)+2 by omega];first|exact (hma.upd hOab hb0).upd hOab hb0|exact hma.upd hOab hb0),hOab,hOao,hOa1,hfr.step hca (fun d _ hdb=>by first|rfl|exact upd_other hdb) (fun d _ hdb=>by first|exact upd_other hdb|exact (upd_other hdb).trans (upd_other hdb)) (by first|exact nnS (Mem.upd_self _ _ _)|exact nnS hcb),by omega,rfl⟩
 ·have k1:=h1;try simp only [zs] at k1
  have hkk:k=ts.length:=by
   rcases hsu with h|⟨h,h'⟩
   ·omega
   ·have:ts.length=0:=by rw [h];rfl
    omega
  subst hkk;refine Q35 ?_;refine Q95 fo134_0 ?_;refine Q29 fo123_0 ?_;refine Q87 ag49 sz49 ?_;refine o_alloc zc49 (fun B2 hB2=>?_);have fb2:b≠B2:=Mem.fresh_ne hB2 hcb;have f2b:=fb2.symm;have f12:B1≠B2:=Mem.fresh_ne hB2 hc1;have f21:=f12.symm;have hO2:=hmk.nof hB2;have f20:B2≠0:=(Mem.fresh_ne hB2 hmk.g).symm;have hM2:M B2=none:=hfr.fresh hB2 hO2 (nnS hcb);refine Q62 sz49 ?_;refine Q18 ?_;refine o_q (q_b (cs:=[.raw (.slice none 0 0),.raw (.slice none 0 0),.raw (.slice none 0 0)]) bz49 bp49 bf_nil) rfl rfl rfl ?_;refine Q25 fo134_0 ?_;refine Q29 fo123_0 ?_;refine o_storeN rfl mmQ meQ rfl sz49 rfl (Nat.le_of_ble_eq_true rfl) rfl rfl ?_;refine Q1 ?_;refine Q34 ag49 sz49 ?_;refine Q98 sz49 ?_;refine Q103 ?_;rw [List.take_length] at hmk;exact ret_cell (.inl rfl) rfl rfl mmQ (loadP_w ag49 sz49 rfl rfl) ⟨(show _=effV (xk x mc ts ts.length) from rfl).trans (by rw [xk_all]),mmQ,Ok,(by repeat first|exact hmk|refine Mch.upd ?_ (by assumption) (by assumption)),(by repeat first|exact hfr|refine Fr.upd ?_ (by first|exact .inl rfl|exact .inr (by assumption)))⟩
end C17
