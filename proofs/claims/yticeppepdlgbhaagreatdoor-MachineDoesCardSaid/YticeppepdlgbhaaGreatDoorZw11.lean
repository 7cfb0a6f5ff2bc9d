import Derived.Test.YticeppepdlgbhaaGreatDoorHz
import Derived.Test.YticeppepdlgbhaaGreatDoorZw10
open Go Go.Proofs Go.Am
set_option linter.unusedVariables false
set_option linter.unusedSimpArgs false
set_option autoImplicit false
set_option maxHeartbeats 4000000
set_option maxRecDepth 20000
namespace C17
theorem bz136:(zeroT Tryz.prog 136).map (fun z=>z.cells.toList.map AVal.raw)=some [.raw (.slice none 0 0),.raw (.slice none 0 0),.raw (.slice none 0 0),.raw (.int .i64 0),.raw (.int .i64 0),.raw (.int .i64 0)]:=by kernel_rfl
theorem bp136:(aPlaces Tryz.prog 136).isSome=true:=by kernel_rfl
theorem fo136_4:fo Tryz.prog 136 4=some (4,2):=by kernel_rfl
theorem zc3:zeroCellsT Tryz.prog 3=some [.raw (.int .i64 0)]:=by kernel_rfl
def tk35:Nat->Nat->Option Nat:=fun _ _=>none
def pl35:Nat->List PStep:=fun _=>[]
theorem cb35:Tryz.f35.body.map (codeB Tryz.prog Tryz.f35.ntmps tk35 pl35)=some true:=by kernel_rfl
theorem goes35:goesB Tryz.prog 35=true:=by kernel_rfl
theorem uwNat:Uw natV 1:=⟨fun _=>rfl,fun _=>rfl,fun _=>rfl,fun a X hX=>by
 rcases List.mem_singleton.1 (show X∈[natV a] from hX) with rfl;rfl⟩
theorem snd35 (N:Int)(M:Mem):SoundCall Tryz.prog 35 [int N] M fun r M'=>((N<1\/7<N)/\r = .raw (.pointer none)/\M'=M)\/(1<=N/\N<=7/\∃ y v,M y=none/\r=ptr y/\M' y=some (.cells [.raw (.slice none 0 0),.raw (.slice none 0 0),.raw v,int 0,int 1,int 0])/\Ws natV 1 M' v (List.range N.toNat)/\(∀ b,bOf v b->M b=none/\b≠y)/\M.le M'):=by
 have hle:=Mem.le_refl M;refine SoundCall.go tk35 pl35 mixed Tryz.func35 cb35 rfl (Nat.le_of_ble_eq_true rfl) ?_;refine Q0 ?_;refine Q31 ?_;refine o_nil ?_;refine Q4 ?_;refine Q59 ?_;refine Q1 ?_;refine Q97 ?_;refine Q128 ?_;refine Q145 ?_;refine o_nil ?_;refine s_cond rfl (fun h1=>?_) (fun h1=>?_)
 ·have k1:=h1;try simp only [zs] at k1
  refine Q0 ?_;refine Q31 ?_;refine o_nil ?_;refine s_ret ?_;refine Q156 ?_;exact Or.inl ⟨by simpa using h1,rfl,rfl⟩
 ·have k1:=h1;try simp only [zs] at k1
  have hN:1<=N/\N<=7:=by
   have:=h1;simp at this;omega
  refine Q142 ?_;refine o_call (((C3.snd73 _).det)) goes73 ac_nil rfl ?_;refine o_q (q_b (cs:=[.raw (.slice none 0 0),.raw (.slice none 0 0),.raw (.slice none 0 0),.raw (.int .i64 0),_,_]) bz136 bp136 (bf fo136_4 (e_agg rfl) rfl rfl (Nat.le_of_ble_eq_true rfl) rfl bf_nil)) rfl rfl rfl ?_;refine o_box zbx rfl rfl (fun B1 hB1=>?_);have m1:M B1=none:=zm hB1;refine Q31 ?_;refine Q11 ?_;refine Q109 ?_;refine s_loop (fun m S=>∃ T,∃ M1:Mem,∃ n:Nat,∃ v:Value,S=⟨setT (setT (setT T 0 (int N)) 3 (ptr B1)) 4 (int (n:Nat)),M1⟩/\M1 B1=some (.cells [.raw (.slice none 0 0),.raw (.slice none 0 0),.raw v,int 0,int 1,int 0])/\Ws natV 1 M1 v (List.range n)/\(∀ b,bOf v b->M b=none/\b≠B1)/\M.le M1/\(n:Int)<=N/\m=N.toNat - n) N.toNat ?_ ?_
  ·exact⟨_,_,0,.slice none 0 0,St.mkT (kp (kp (kp rfl rfl) rfl) rfl).symm,Mem.upd_self _ _ _,.inl ⟨none,rfl,.inl rfl,rfl⟩,(fun b ⟨q,c,e,hc⟩=>by cases e),leN (Mem.le_refl M) m1,by omega,rfl⟩
  rintro m S ⟨T,M1,n,v,rfl,hb1,hWn,hbo,hle1,hn,rfl⟩;have hrn:(List.range n).length=n:=List.length_range;refine Q4 ?_;refine Q1 ?_;refine Q41 ?_;refine s_cond rfl (fun h2=>?_) (fun h2=>?_)
  ·have k2:=h2;try simp only [zs] at k2
   refine Q55 ?_;refine Q15 ?_;refine Q22 ?_;refine Q62 fo136_2 ?_;refine Q140 ag118 sz118 ?_;refine Q1 ?_;refine Q183 slt118 ?_;refine o_appx slt118 rfl rfl zc3 (fun z hz=>by simp only [List.mem_cons,List.not_mem_nil,or_false] at hz;rcases hz with rfl;rfl) (by decide) rfl uwNat rfl (by exact hWn) (m:=[n]) (src_sl rfl) (by simp) (by simp;omega) (fun b kk R hR hbb=>?_);have hbM:M b=none:=hbb.elim (fun h=>Mem.none_of_le hle1 h) fun h=>(hbo b h).1
   have b1:B1≠b:=hbb.elim (fun h=>Mem.fresh_ne h hb1) fun h=>((hbo b h).2).symm
   have b1b:=b1.symm;refine Q44 fo136_2 ?_;refine Q103 sz118 ?_;refine Q72 ?_;refine Q39 ?_;exact⟨N.toNat - (n+1),by omega,_,_,n+1,_,St.mkT (kp (kp (kp rfl rfl) rfl) rfl).symm,Mem.upd_self _ _ _,.inr ⟨b,kk,R,by simp,by rw [hR],(by rw [List.range_succ];exact mmQ)⟩,(fun b0 ⟨q,c,e,hc⟩=>by cases e;exact⟨hbM,b1b⟩),leN (leN hle1 hbM) m1,by omega,rfl⟩
  ·have k2:=h2;try simp only [zs] at k2
   refine Q26 ?_;refine Q17 ?_;refine Q31 ?_;refine Q154 ?_;obtain rfl:(n:Int)=N:=by omega
   exact Or.inr ⟨by omega,by omega,B1,v,m1,rfl,hb1,by rw [Int.toNat_natCast];exact hWn,hbo,hle1⟩
end C17
open Go Go.Proofs Go.Am
set_option linter.unusedVariables false
set_option linter.unusedSimpArgs false
set_option autoImplicit false
namespace C17
abbrev RP (r:AVal)(p:Rp):Prop:=r=rpV p.code p.n p.recs false
theorem rnRP {f:FuncId}{args:List AVal}{M:Mem}{Post:AVal->Mem->Prop}{p:Rp}{Q:Mem->Prop}(h:SoundCall Tryz.prog f args M Post)(hp:∀ r M',Post r M'->(RP r p\/(p.recs=[]/\r = .agg [int p.code,int p.n,.raw (.slice none 0 0)]))/\Q M'):SoundCall Tryz.prog f args M fun r M'=>RP r p/\Q M' :=
 h.nilret fun r M' hq=>by
  obtain⟨h1,h2⟩:=hp r M' hq;rcases h1 with h1|⟨e,rfl⟩
  ·exact .inl ⟨h1,h2⟩
  ·exact .inr ⟨_,rfl,⟨by show _=rpV p.code p.n p.recs false;rw [e];rfl,h2⟩⟩
section
variable {M M':Mem}{d:Nat}{yd:ByteArray->Nat}{vs:Value}{x:Mc}{O:Nat->Prop}{n:Nat}{c:Cmd}{k:ByteArray}{y z:Tp}
theorem RmIs.fr (h:RmIs M d yd vs x O)(hk:∀ c,O c->M' c=M c):RmIs M' d yd vs x O where
 hd:=by rw [hk d h.od];exact h.hd
 hw:=h.hw.keep (fun b hb _=>hk b (h.ob b hb).1) (by decide)
 tp:=fun k y e=>by rw [hk _ (h.oa k y e).1];exact h.tp k y e
 od:=h.od
 oa:=h.oa
 ob:=h.ob
 inj:=h.inj
 ok:=fun c hc=>by rw [hk c hc];exact h.ok c hc
theorem RmIs.le (h:RmIs M d yd vs x O)(hle:M.le M'):RmIs M' d yd vs x O:=h.fr fun c hc=>leK hle (h.ok c hc)
def RAft (M M':Mem)(d:Nat)(x:Mc)(O:Nat->Prop):Prop:=∃ O',RmAt M' d x O'/\Chg M M' O O'
theorem RAft.same (h:RmIs M d yd vs x O)(hle:M.le M'):RAft M M' d x O:=⟨O,⟨_,_,h.le hle⟩,Chg.le hle⟩
theorem RmIs.tps (h:RmIs M d yd vs x O)(ho:DcOk n x):Tps M yd x:=fun k hk=>by
 obtain⟨y,hy⟩:=Option.ne_none_iff_exists'.1 (nmL_mem.1 hk);obtain⟨q1,q2,e⟩:=h.tp k y hy;exact⟨y,_,q1,q2,(ho.tp k y hy).1,e⟩
theorem DcOk.nl (ho:DcOk n x):(nmL x).length<=20:=by rw [nmL_len];exact ho.lt
theorem DcOk.sl (ho:DcOk n x):(sbL x).length<=50:=by
 unfold sbL;rw [List.length_map];exact ho.ls
theorem kept_eq {b c:Nat}(h:Kept M M' b)(hc:c≠b)(hn:M c≠none):M' c=M c:=by
 cases e:M c with
 | none=>exact absurd e hn
 | some o=>exact h c o hc e
theorem RmIs.addT (h:RmIs M d yd vs x O)(ho:DcOk n x){o1 o3:Bool}{a:Nat}(hg:gets x.tps k=none)(ha:M a=none)(h2:M' a=some (.cells (ryC ⟨k,0,0,[],[]⟩ [] true true)))(h3:M' d=some (.cells (.sl (((nmL x).take (findN (nP x) k)).map (fun k=>ptr (yd k))++ptr a::((nmL x).drop (findN (nP x) k)).map (fun k=>ptr (yd k))) true::(rmC yd x vs o1 o3).drop 1)))(h4:Kept M M' d) :
 RAft M M' d ⟨ins x.tps k ⟨k,0,0,[],[]⟩,x.sbs,x.want,x.cnt,x.dig⟩ O:=by
 have hk:∀ c,O c->c≠d->M' c=M c:=fun c hc hd=>kept_eq h4 hd (h.ok c hc)
 have hnm:k ∉ nmL x:=fun hm=>nmL_mem.1 hm hg
 have hna:∀ c,O c->c≠a:=fun c hc e=>h.ok c hc (by rw [e];exact ha)
 have hk0:ksL (⟨k,0,0,[],[]⟩ : Tp)=[]:=ksL_eq (x:=⟨k,0,0,[],[]⟩) List.nodup_nil List.Pairwise.nil fun q=>rfl
 have hgi:∀ q w,gets (ins x.tps k ⟨k,0,0,[],[]⟩) q=some w->(q=k/\w=⟨k,0,0,[],[]⟩)\/(q≠k/\gets x.tps q=some w):=fun q w e=>by
  rw [gets_ins] at e;split at e
  ·rename_i hq;exact .inl ⟨hq,(Option.some.inj e).symm⟩
  ·rename_i hq;exact .inr ⟨hq,e⟩
 refine⟨fun c=>O c\/c=a,⟨fun q=>if q=k then a else yd q,vs,?_⟩,⟨fun c hc hno=>?_,fun c hc=>?_,fun c hc=>.inl hc⟩⟩
 ·refine⟨⟨true,o3,?_⟩,?_,fun q w e=>?_,.inl h.od,fun q w e=>?_,fun b hb=>⟨.inl (h.ob b hb).1,(h.ob b hb).2⟩,fun q q' w w' e e' hq=>?_,fun c hc=>?_⟩
  ·rw [h3];have hm:∀ l:List ByteArray,k ∉ l->l.map (fun q=>ptr (if q=k then a else yd q))=l.map fun q=>ptr (yd q):=fun l hl=>List.map_congr_left fun q hq=>by
    rw [if_neg (fun e=>hl (by rw [← e];exact hq))]
   have e1:((nmL ⟨ins x.tps k ⟨k,0,0,[],[]⟩,x.sbs,x.want,x.cnt,x.dig⟩).map fun q=>ptr (if q=k then a else yd q))=((nmL x).take (findN (nP x) k)).map (fun k=>ptr (yd k))++ptr a::((nmL x).drop (findN (nP x) k)).map (fun k=>ptr (yd k)):=by
    rw [nmL_ins ho.nt hg _ rfl,List.map_append,List.map_cons,if_pos rfl,hm _ (fun hh=>hnm (List.mem_of_mem_take hh)),hm _ (fun hh=>hnm (List.mem_of_mem_drop hh))]
   show some (AObj.cells (_::_))=some (AObj.cells [.sl _ true,_,_,_,_,_])
   rw [e1];rfl
  ·exact h.hw.keep (fun b hb _=>hk b (h.ob b hb).1 (h.ob b hb).2) (by decide)
  ·rcases hgi q w e with ⟨rfl,rfl⟩|⟨hq,e2⟩
   ·rw [if_pos rfl];exact⟨true,true,by rw [h2,hk0]⟩
   ·rw [if_neg hq,hk _ (h.oa q w e2).1 (h.oa q w e2).2.1];exact h.tp q w e2
  ·rcases hgi q w e with ⟨rfl,rfl⟩|⟨hq,e2⟩
   ·rw [if_pos rfl];exact⟨.inr rfl,fun e=>hna d h.od e.symm,fun hb=>hna a (h.ob a hb).1 rfl⟩
   ·rw [if_neg hq];exact⟨.inl (h.oa q w e2).1,(h.oa q w e2).2⟩
  ·rcases hgi q w e with ⟨rfl,rfl⟩|⟨h5,e2⟩
   ·rcases hgi q' w' e' with ⟨rfl,rfl⟩|⟨h6,e3⟩
    ·exact absurd rfl hq
    ·rw [if_pos rfl,if_neg h6];exact fun e=>hna _ (h.oa q' w' e3).1 e.symm
   ·rcases hgi q' w' e' with ⟨rfl,rfl⟩|⟨h6,e3⟩
    ·rw [if_pos rfl,if_neg h5];exact fun e=>hna _ (h.oa q w e2).1 e
    ·rw [if_neg h5,if_neg h6];exact h.inj q q' w w' e2 e3 hq
  ·rcases hc with hc|rfl
   ·by_cases hd:c=d
    ·rw [hd,h3];exact fun h=>by cases h
    ·rw [hk c hc hd];exact h.ok c hc
   ·rw [h2];exact fun h=>by cases h
 ·exact kept_eq h4 (fun e=>hno (by rw [e];exact h.od)) hc
 ·rcases hc with hc|rfl
  ·exact .inl hc
  ·exact .inr ha
theorem RmIs.setT (h:RmIs M d yd vs x O){q1 q2:Bool}(hg:gets x.tps k=some y)(h2:M' (yd k)=some (.cells (ryC z (ksL z) q1 q2)))(h4:Kept M M' (yd k)):RAft M M' d ⟨ins x.tps k z,x.sbs,x.want,x.cnt,x.dig⟩ O:=by
 obtain⟨oy,hyd,hyb⟩:=h.oa k y hg;have hk:∀ c,O c->c≠yd k->M' c=M c:=fun c hc hd=>kept_eq h4 hd (h.ok c hc)
 have hgi:∀ q w,gets (ins x.tps k z) q=some w->(q=k/\w=z)\/(q≠k/\gets x.tps q=some w):=fun q w e=>by
  rw [gets_ins] at e;split at e
  ·rename_i hq;exact .inl ⟨hq,(Option.some.inj e).symm⟩
  ·rename_i hq;exact .inr ⟨hq,e⟩
 have hgs:∀ q w,gets (ins x.tps k z) q=some w->∃ w',gets x.tps q=some w':=fun q w e=>by
  rcases hgi q w e with ⟨rfl,-⟩|⟨-,e2⟩
  ·exact⟨y,hg⟩
  ·exact⟨w,e2⟩
 refine⟨O,⟨yd,vs,?_⟩,⟨fun c hc hno=>kept_eq h4 (fun e=>hno (by rw [e];exact oy)) hc,fun c hc=>.inl hc,fun c hc=>hc⟩⟩;obtain⟨o1,o3,hd⟩:=h.hd;refine⟨⟨o1,o3,?_⟩,h.hw.keep (fun b hb _=>hk b (h.ob b hb).1 fun e=>hyb (by rw [← e];exact hb)) (by decide),fun q w e=>?_,h.od,fun q w e=>?_,h.ob,fun q q' w w' e e' hq=>?_,fun c hc=>?_⟩
 ·rw [hk d h.od (Ne.symm hyd),hd];unfold rmC;rw [nmL_set hg ⟨ins x.tps k z,x.sbs,x.want,x.cnt,x.dig⟩ rfl]
 ·rcases hgi q w e with ⟨rfl,rfl⟩|⟨hq,e2⟩
  ·exact⟨q1,q2,h2⟩
  ·rw [hk _ (h.oa q w e2).1 (h.inj q k w y e2 hg hq)];exact h.tp q w e2
 ·obtain⟨w',e2⟩:=hgs q w e;exact h.oa q w' e2
 ·obtain⟨v,e2⟩:=hgs q w e;obtain⟨v',e3⟩:=hgs q' w' e';exact h.inj q q' v v' e2 e3 hq
 ·by_cases hy:c=yd k
  ·rw [hy,h2];exact fun h=>by cases h
  ·rw [hk c hc hy];exact h.ok c hc
theorem RmIs.setW (h:RmIs M d yd vs x O){o1 o3:Bool}{W:W7}{m:Int}{g:C3.Pr}(h3:M' d=some (.cells (rmC yd ⟨x.tps,x.sbs,W,m,g⟩ vs o1 o3)))(h4:Kept M M' d):RAft M M' d ⟨x.tps,x.sbs,W,m,g⟩ O:=by
 have hk:∀ c,O c->c≠d->M' c=M c:=fun c hc hd=>kept_eq h4 hd (h.ok c hc)
 exact⟨O,⟨yd,vs,⟨⟨o1,o3,h3⟩,h.hw.keep (fun b hb _=>hk b (h.ob b hb).1 (h.ob b hb).2) (by decide),fun q w e=>by rw [hk _ (h.oa q w e).1 (h.oa q w e).2.1];exact h.tp q w e,h.od,h.oa,h.ob,h.inj,fun c hc=>by
  by_cases hd:c=d
  ·rw [hd,h3];exact fun h=>by cases h
  ·rw [hk c hc hd];exact h.ok c hc⟩⟩,⟨fun c hc hno=>kept_eq h4 (fun e=>hno (by rw [e];exact h.od)) hc,fun c hc=>.inl hc,fun c hc=>hc⟩⟩
theorem RmIs.cnt (h:RmIs M d yd vs x O){o1 o3:Bool}{m:Int}{g:C3.Pr}(h3:M' d=some (.cells (rmC yd ⟨x.tps,x.sbs,x.want,m,g⟩ vs o1 o3)))(h4:∀ c,c≠d->M c≠none->M' c=M c):RmIs M' d yd vs ⟨x.tps,x.sbs,x.want,m,g⟩ O :=
 have hk:∀ c,O c->c≠d->M' c=M c:=fun c hc hd=>h4 c hd (h.ok c hc)
 ⟨⟨o1,o3,h3⟩,h.hw.keep (fun b hb _=>hk b (h.ob b hb).1 (h.ob b hb).2) (by decide),fun q w e=>by rw [hk _ (h.oa q w e).1 (h.oa q w e).2.1];exact h.tp q w e,h.od,h.oa,h.ob,h.inj,fun c hc=>by
  by_cases hd:c=d
  ·rw [hd,h3];exact fun h=>by cases h
  ·rw [hk c hc hd];exact h.ok c hc⟩
theorem RmIs.cntA (h:RmIs M d yd vs x O){o1 o3:Bool}{m:Int}{g:C3.Pr}(h3:M' d=some (.cells (rmC yd ⟨x.tps,x.sbs,x.want,m,g⟩ vs o1 o3)))(h4:∀ c,c≠d->M c≠none->M' c=M c):RAft M M' d ⟨x.tps,x.sbs,x.want,m,g⟩ O :=
 ⟨O,⟨yd,vs,h.cnt h3 h4⟩,⟨fun c hc hno=>h4 c (fun e=>hno (by rw [e];exact h.od)) hc,fun c hc=>.inl hc,fun c hc=>hc⟩⟩
theorem RAft.wrap {M3 Mf:Mem}{B:Nat}{x':Mc}(h:RAft M3 M' d x' O)(hOd:O d)(hd3:M3 d≠none)(hk:∀ c,c≠d->M c≠none->M3 c=M c)(m1:M B=none)(hB3:M3 B≠none)(hok:∀ c,O c->M c≠none)(hf:∀ c,c≠B->M' c≠none->Mf c=M' c):RAft M Mf d x' O:=by
 obtain⟨O',⟨yd',vs',h1⟩,h2⟩:=h;have nB:¬ O' B:=fun hc=>(h2.new B hc).elim (fun hc=>hok B hc m1) hB3
 refine⟨O',⟨yd',vs',h1.fr fun c hc=>hf c (fun e=>nB (by rw [← e];exact hc)) (h1.ok c hc)⟩,⟨fun c hc hno=>?_,fun c hc=>?_,h2.up⟩⟩
 ·have hcd:c≠d:=fun e=>hno (by rw [e];exact hOd)
  have e3:=hk c hcd hc;have e4:=h2.eq c (by rw [e3];exact hc) hno;rw [hf c (fun e=>hc (by rw [e];exact m1)) (by rw [e4,e3];exact hc),e4,e3]
 ·rcases h2.new c hc with h4|h4
  ·exact .inl h4
  ·refine .inr ?_;cases e:M c with
   | none=>rfl
   | some o =>
    exfalso;by_cases hcd:c=d
    ·rw [hcd] at h4;exact hd3 h4
    ·rw [hk c hcd (by rw [e];exact fun h=>by cases h),e] at h4;cases h4
theorem RAft.keep {M3:Mem}{B:Nat}{x':Mc}{o:AObj}(h:RAft M3 M' d x' O)(hB:M3 B=some o)(hno:¬ O B):M' B=some o:=by
 obtain⟨O',-,h2⟩:=h;rw [h2.eq B (by rw [hB];exact fun h=>by cases h) hno];exact hB
theorem RmIs.addS (h:RmIs M d yd vs x O){o1 o3:Bool}{l:List (ByteArray×Sb)}{s:Sb}{b kk:Nat}{R:List AVal}(hl:l.map (·.2)=sbL x++[s])(hR:R.length=kk*4)(hb:M b=none\/bOf vs b)(h2:M' b=some (.cells (fl encSb (sbL x++[s])++R)))(h3:M' d=some (.cells (rmC yd x (.slice (some ⟨b,0,none⟩) ((sbL x).length+1) ((sbL x).length+1+kk)) o1 o3)))(h4:∀ c o,c≠d->c≠b->M c=some o->M' c=some o) :
 RAft M M' d ⟨x.tps,l,x.want,x.cnt,x.dig⟩ O:=by
 have hk:∀ c,M c≠none->c≠d->c≠b->M' c=M c:=fun c hc h5 h6=>by
  cases e:M c with
  | none=>exact absurd e hc
  | some o=>exact h4 c o h5 h6 e
 have hyb:∀ q w,gets x.tps q=some w->yd q≠b:=fun q w e e2=>hb.elim (fun hb=>h.ok _ (h.oa q w e).1 (by rw [e2];exact hb)) fun hb=>(h.oa q w e).2.2 (by rw [e2];exact hb)
 have hbd:b≠d:=hb.elim (fun hb e=>h.ok _ h.od (by rw [← e];exact hb)) fun hb=>(h.ob b hb).2
 have hbo:∀ b',bOf (.slice (some ⟨b,0,none⟩) ((sbL x).length+1) ((sbL x).length+1+kk)) b'->b'=b:=fun b' ⟨q,c,e,_⟩=>by cases e;rfl
 refine⟨fun c=>O c\/c=b,⟨yd,_,⟨⟨o1,o3,h3⟩,?_,fun q w e=>?_,.inl h.od,fun q w e=>⟨.inl (h.oa q w e).1,(h.oa q w e).2.1,fun hb'=>hyb q w e (hbo _ hb')⟩,fun b' hb'=>by rw [hbo b' hb'];exact⟨.inr rfl,hbd⟩,h.inj,fun c hc=>?_⟩⟩,⟨fun c hc hno=>?_,fun c hc=>?_,fun c hc=>.inl hc⟩⟩
 ·show Ws encSb 4 M' _ (l.map (·.2))
  rw [hl];exact .inr ⟨b,kk,R,by rw [List.length_append];rfl,hR,h2⟩
 ·rw [hk _ (h.ok _ (h.oa q w e).1) (h.oa q w e).2.1 (hyb q w e)];exact h.tp q w e
 ·by_cases hd:c=d
  ·rw [hd,h3];exact fun h=>by cases h
  ·by_cases hcb:c=b
   ·rw [hcb,h2];exact fun h=>by cases h
   ·have hc':=h.ok c (hc.resolve_right hcb);rw [hk c hc' hd hcb];exact hc'
 ·exact hk c hc (fun e=>hno (by rw [e];exact h.od)) fun e=>hb.elim (fun hb=>hc (by rw [e];exact hb)) fun hb=>hno (by rw [e];exact (h.ob b hb).1)
 ·rcases hc with hc|rfl
  ·exact .inl hc
  ·exact hb.elim .inr fun hb=>.inl (h.ob _ hb).1
theorem RmIs.setS (h:RmIs M d yd vs x O){l:List (ByteArray×Sb)}{L:List Sb}{b kk:Nat}{R:List AVal}(hv:vs = .slice (some ⟨b,0,none⟩) (sbL x).length ((sbL x).length+kk))(h0:(sbL x).length≠0)(hl:l.map (·.2)=L)(hLl:L.length=(sbL x).length)(hR:R.length=kk*4)(h2:M' b=some (.cells (fl encSb L++R)))(h4:∀ c o,c≠b->M c=some o->M' c=some o) :
 RAft M M' d ⟨x.tps,l,x.want,x.cnt,x.dig⟩ O:=by
 have hbb:bOf vs b:=⟨_,_,hv,by omega⟩;have hk:∀ c,M c≠none->c≠b->M' c=M c:=fun c hc h6=>kept_eq h4 h6 hc
 obtain⟨o1,o3,hd⟩:=h.hd;refine⟨O,⟨yd,vs,⟨⟨o1,o3,by rw [hk d (h.ok d h.od) (Ne.symm (h.ob b hbb).2)];exact hd⟩,?_,fun q w e=>?_,h.od,h.oa,h.ob,h.inj,fun c hc=>?_⟩⟩,⟨fun c hc hno=>hk c hc fun e=>hno (by rw [e];exact (h.ob b hbb).1),fun c hc=>.inl hc,fun c hc=>hc⟩⟩
 ·show Ws encSb 4 M' _ (l.map (·.2))
  rw [hl];exact .inr ⟨b,kk,R,by rw [hv,hLl],hR,h2⟩
 ·rw [hk _ (h.ok _ (h.oa q w e).1) (fun e2=>(h.oa q w e).2.2 (by rw [e2];exact hbb))];exact h.tp q w e
 ·by_cases hcb:c=b
  ·rw [hcb,h2];exact fun h=>by cases h
  ·rw [hk c (h.ok c hc) hcb];exact h.ok c hc
end
end C17
