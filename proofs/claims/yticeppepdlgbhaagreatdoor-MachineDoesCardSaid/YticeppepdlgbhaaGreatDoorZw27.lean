import Derived.Test.YticeppepdlgbhaaGreatDoorHz
import Derived.Test.YticeppepdlgbhaaGreatDoorZw26
import Derived.Test.YticeppepdlgbhaaGreatDoorZw24
import Derived.Test.YticeppepdlgbhaaGreatDoorZu2
open Go Go.Proofs Go.Am
set_option linter.unusedVariables false
set_option linter.unusedSimpArgs false
set_option autoImplicit false
set_option maxHeartbeats 4000000
set_option maxRecDepth 20000
namespace C17
structure Tw (ge:TypeId)(gf:Nat×Nat)(M0 M:Mem)(b d:Nat)(n:Int)(k:Nat)(x z:Mc)(O1 O2:Nat->Prop):Prop where
 a:Mch ge gf M b n x O1
 r:RmAt M d z O2
 c:DcOk k z
 dj:∀ c,O1 c->¬ O2 c
 oa:Out M0 M O1
 ob:Out M0 M O2
section
variable {ge:TypeId}{gf:Nat×Nat}{M0 M M':Mem}{b d B:Nat}{n m:Int}{k j:Nat}{x z x' z':Mc}{O1 O2 O':Nat->Prop}
theorem RmAt.fr (h:RmAt M d x O1)(hk:∀ c,O1 c->M' c=M c):RmAt M' d x O1:=by
 obtain⟨yd,vs,h⟩:=h;exact⟨yd,vs,h.fr hk⟩
theorem RmAt.ok (h:RmAt M d x O1):∀ c,O1 c->M c≠none:=by
 obtain⟨yd,vs,h⟩:=h;exact h.ok
theorem Tw.fr (h:Tw ge gf M0 M b d n k x z O1 O2)(hB:M0 B=none)(h1:¬ O1 B)(h2:¬ O2 B)(h0:B≠0)(hk:∀ d,d≠B->M' d=M d):Tw ge gf M0 M' b d n k x z O1 O2 where
 a:=h.a.fr (fun c hc=>hk c fun e=>h1 (by rw [← e];exact hc)) (hk 0 (Ne.symm h0))
 r:=h.r.fr fun c hc=>hk c fun e=>h2 (by rw [← e];exact hc)
 c:=h.c
 dj:=h.dj
 oa:=fun d hd=>⟨(hk d (mem_put hB hd)).trans (h.oa d hd).1,(h.oa d hd).2⟩
 ob:=fun d hd=>⟨(hk d (mem_put hB hd)).trans (h.ob d hd).1,(h.ob d hd).2⟩
theorem Tw.upd {o:AObj}(h:Tw ge gf M0 M b d n k x z O1 O2)(hB:M0 B=none)(h1:¬ O1 B)(h2:¬ O2 B)(h0:B≠0):Tw ge gf M0 (M.upd B o) b d n k x z O1 O2:=h.fr hB h1 h2 h0 fun d hd=>upd_other hd
theorem Tw.mono (h:Tw ge gf M0 M b d n k x z O1 O2)(hm:n<=m)(hj:k<=j):Tw ge gf M0 M b d m j x z O1 O2:=⟨h.a.mono hm,h.r,h.c.mono hj,h.dj,h.oa,h.ob⟩
theorem Tw.stepP (h:Tw ge gf M0 M b d n k x z O1 O2)(hX:Mch ge gf M' b m x' O')(hC:Chg M M' O1 O'):Tw ge gf M0 M' b d m k x' z O' O2 where
 a:=hX
 r:=h.r.fr fun c hc=>hC.eq c (h.r.ok c hc) fun h1=>h.dj c h1 hc
 c:=h.c
 dj:=fun d hd h2=>(hC.new d hd).elim (fun h1=>h.dj d h1 h2) (h.r.ok d h2)
 oa:=h.oa.chg hC
 ob:=fun d hd=>⟨(hC.eq d (by rw [(h.ob d hd).1];exact hd) (h.oa d hd).2).trans (h.ob d hd).1,(h.ob d hd).2⟩
theorem Tw.no0 (h:Tw ge gf M0 M b d n k x z O1 O2)(h0:M0 0≠none):¬ O2 0:=(h.ob 0 h0).2
theorem Tw.stepD (h:Tw ge gf M0 M b d n k x z O1 O2)(h0:M0 0≠none)(hX:RAft M M' d z' O2)(hc:DcOk j z'):∃ O',Tw ge gf M0 M' b d n j x z' O1 O'/\Chg M M' O2 O':=by
 obtain⟨O',hX,hC⟩:=hX;refine⟨O',⟨h.a.fr (fun c hc=>hC.eq c (h.a.at'.ok c hc) (h.dj c hc)) (hC.eq 0 (nn h.a.g) (h.no0 h0)),hX,hc,fun d hd h2=>(hC.new d h2).elim (h.dj d hd) (h.a.at'.ok d hd),fun d hd=>⟨(hC.eq d (by rw [(h.oa d hd).1];exact hd) (h.ob d hd).2).trans (h.oa d hd).1,(h.oa d hd).2⟩,h.ob.chg hC⟩,hC⟩
theorem Tw.new (hX:Mch ge gf M b n x O1)(hO:Out M0 M O1)(hr:RmAt M' d x (· = d))(hd:M d=none)(hle:M.le M')(hc:DcOk k x):Tw ge gf M0 M' b d n k x x O1 (· = d) where
 a:=hX.le hle
 r:=hr
 c:=hc
 dj:=fun c h1 h2=>hX.at'.ok c h1 (by rw [h2];exact hd)
 oa:=fun c h1=>⟨(leK hle (by rw [(hO c h1).1];exact h1)).trans (hO c h1).1,(hO c h1).2⟩
 ob:=fun c h1=>⟨(leK hle (by rw [(hO c h1).1];exact h1)).trans (hO c h1).1,fun e=>h1 (by rw [e];exact hO.none hd)⟩
theorem Tw.state (h:Tw ge gf M0 M b d n k x x O1 O2)(hn:NmOk x)(hk:k<2^30):SoundCall Tryz.prog 37 [ptr b,ptr d] M fun r M'=>r=bool true/\M'=M:=by
 obtain⟨yd,vs,hR⟩:=h.r;obtain⟨base,cp,rfl⟩:=hR.hw.len;obtain⟨o1,o3,hd⟩:=hR.hd;exact (snd37 b d k yd base cp x O1 O2 o1 o3 M h.a.at' hn hR hd h.c hk).det
end
structure RB (M0 M:Mem)(O1 O2:Nat->Prop)(base:Option Addr)(cp:Nat)(l:List Rec):Prop where
 w:l=[]\/Ws enc 5 M (.slice base l.length cp) l
 o:∀ b,0<l.length->bOf (.slice base l.length cp) b->M0 b=none/\¬ O1 b/\¬ O2 b/\b≠0/\M b≠none
section
variable {ge:TypeId}{gf:Nat×Nat}{M0 M M':Mem}{b d B:Nat}{n m:Int}{k j cp:Nat}{x z x' z':Mc}{O1 O2 O':Nat->Prop}{base:Option Addr}{l:List Rec}
theorem RB.of (hT:Tw ge gf M0 M b d n k x z O1 O2)(h2:Tw ge gf M0 M' b d m j x' z' O' O2)(hw:l=[]\/(Ws enc 5 M' (.slice base l.length cp) l/\∀ b n,bOf (.slice base n cp) b->M b=none/\¬ O' b)):RB M0 M' O' O2 base cp l:=by
 refine⟨hw.imp id And.left,fun c hl hc=>?_⟩;obtain⟨h3,h4⟩:=hw.resolve_left (fun e=>by rw [e] at hl;exact absurd hl (Nat.lt_irrefl _));obtain⟨h5,h6⟩:=h4 c _ hc;exact⟨hT.oa.none h5,h6,fun h7=>hT.r.ok c h7 h5,fun e=>nn hT.a.g (by rw [← e];exact h5),h3.ok hc⟩
theorem RB.fr (h:RB M0 M O1 O2 base cp l)(hk:∀ b,M b≠none->¬ O2 b->M' b=M b)(hn:∀ c,O' c->O2 c\/M c=none):RB M0 M' O1 O' base cp l:=by
 refine⟨?_,fun c hl hc=>?_⟩
 ·by_cases hl:0<l.length
  ·exact h.w.imp id fun hw=>hw.keep (fun c hc hm=>hk c hm (h.o c hl hc).2.2.1) (by decide)
  ·exact .inl (List.eq_nil_of_length_eq_zero (by omega))
 ·obtain⟨h1,h2,h3,h4,h5⟩:=h.o c hl hc;exact⟨h1,h2,fun h6=>(hn c h6).elim h3 h5,h4,by rw [hk c h5 h3];exact h5⟩
theorem RB.upd (h:RB M0 M O1 O2 base cp l)(hB:M B=none){o:AObj}:RB M0 (M.upd B o) O1 O2 base cp l:=h.fr (fun c hc _=>upd_other fun e=>hc (by rw [e];exact hB)) fun c hc=>.inl hc
theorem RB.upd2 (h:RB M0 M O1 O2 base cp l)(hB:M B=none){o o':AObj}:RB M0 ((M.upd B o).upd B o') O1 O2 base cp l:=by
 rw [C17.upd2];exact h.upd hB
def Cl (M5 M6:Mem)(base:Option Addr)(n:Nat):Prop:=(n=0/\M6=M5)\/∃ b C k,base=some ⟨b,0,none⟩/\0<n/\C.length=(n+k)*5/\M6=M5.upd b (.cells C)
theorem upd_same {M:Mem}{b:Nat}{o:AObj}(h:M b=some o):M.upd b o=M:=by
 funext c;by_cases e:c=b
 ·rw [e,Mem.upd_self,h]
 ·exact upd_other e
theorem Cl.of (h:RB M0 M O1 O2 base cp l):Cl M M base l.length:=by
 by_cases hl:0<l.length
 ·obtain⟨b,k,R,hv,hR,hb⟩:=(h.w.resolve_left (fun e=>by rw [e] at hl;exact absurd hl (Nat.lt_irrefl _))).get hl;cases hv;refine .inr ⟨b,_,k,rfl,hl,?_,(upd_same hb).symm⟩;rw [List.length_append,fl_len uwR.len,hR,Nat.add_mul]
 ·exact .inl ⟨by omega,rfl⟩
theorem Cl.store {M5:Mem}{b k i n:Nat}{C vs:List AVal}(h0:0<n)(hC:C.length=(n+k)*5)(hi:i<n)(hv:vs.length=5):Cl M5 ((M5.upd b (.cells C)).upd b (.cells (splice C (0+((i:Int)).toNat*5) vs))) (some ⟨b,0,none⟩) n:=by
 refine .inr ⟨b,_,k,rfl,h0,?_,C17.upd2⟩;unfold splice;rw [List.length_append,List.length_append,List.length_take,List.length_drop,hv];omega
theorem Cl.tw {M6:Mem}(h:Cl M M6 base l.length)(hb:RB M0 M O1 O2 base cp l)(hT:Tw ge gf M0 M b d n k x z O1 O2):Tw ge gf M0 M6 b d n k x z O1 O2:=by
 rcases h with ⟨-,rfl⟩|⟨c,C,kk,rfl,h0,hC,rfl⟩
 ·exact hT
 ·obtain⟨b',k',R,hv,hR,hb'⟩:=(hb.w.resolve_left (fun e=>by rw [e] at h0;exact absurd h0 (Nat.lt_irrefl _))).get h0;cases hv;obtain⟨h1,h2,h3,h4,h5⟩:=hb.o _ h0 ⟨_,_,rfl,by omega⟩;exact hT.upd h1 h2 h3 h4
theorem Cl.keep {M6:Mem}{o:AObj}{q:Nat}(h:Cl M M6 base q)(hB:M B=some o)(hne:0<q->base≠some ⟨B,0,none⟩):M6 B=some o:=by
 rcases h with ⟨-,rfl⟩|⟨c,C,kk,rfl,h0,hC,rfl⟩
 ·exact hB
 ·exact (upd_other (fun e=>hne h0 (by rw [e]))).trans hB
theorem RB.ne (h:RB M0 M O1 O2 base cp l)(hB:M B=none)(hl:0<l.length):base≠some ⟨B,0,none⟩:=fun e=>by
 obtain⟨b',k',R,hv,hR,hb'⟩:=(h.w.resolve_left (fun e=>by rw [e] at hl;exact absurd hl (Nat.lt_irrefl _))).get hl;cases hv;cases e;rw [hB] at hb';cases hb'
end
end C17
open Go Go.Proofs Go.Am
set_option linter.unusedVariables false
set_option linter.unusedSimpArgs false
set_option autoImplicit false
namespace C17
theorem und65:Tryz.prog.underlying 65=some (.pointer 136):=by kernel_rfl
def tk5:Nat->Nat->Option Nat:=fun _ _=>none
def pl5:Nat->List PStep:=fun _=>[]
theorem cb5:Tryz.f5.body.map (codeB Tryz.prog Tryz.f5.ntmps tk5 pl5)=some true:=by kernel_rfl
theorem snd5a (ge:TypeId)(gf:Nat×Nat)(nodes:Int)(deeds:List MDe)(o1:Bool)(M:Mem)(hG:M 0=some (szO ge gf))(hdl:deeds.length<2^60)(hds:∀ d∈deeds,(d.c.topic.size<2^62/\d.c.name.size<2^62)/\d.s.size<2^62)(hno:nodes<1\/7<nodes):SoundCall Tryz.prog 5 [int nodes,.sl (deeds.map encMD) o1] M fun r M'=>r=bool true/\M.le M':=by
 refine SoundCall.go tk5 pl5 mixed Tryz.func5 cb5 rfl (Nat.le_of_ble_eq_true rfl) ?_;refine Q18 ?_;refine Q0 ?_;refine o_call (((snd27 ge gf _ hG).det)) goes27 ac_nil rfl ?_;refine Q46 ?_;refine o_call ((new_no hno)) goes28 (ac (v_raw rfl) ac_nil) rfl ?_;refine Q96 ?_;refine Q188 ?_;refine Q30 ?_;refine Q31 ?_;refine Q46 ?_;refine o_call ((newX nodes _ hno)) goes35 (ac (v_raw rfl) ac_nil) rfl ?_;refine Q31 ?_;refine Q11 ?_;refine Q113 und65 ?_;refine Q71 ?_;refine Q7 ?_;refine Q66 ?_;refine Q22 ?_;refine Q9 ?_;refine o_q (q_peql und52 rfl rfl) rfl rfl rfl ?_;refine Q45 ?_;refine Q73 ?_;refine Q56 ?_;refine Q45 ?_;refine Q10 ?_;exact⟨rfl,Mem.le_refl M⟩
theorem snd5b (ge:TypeId)(gf:Nat×Nat)(nodes:Int)(deeds:List MDe)(o1:Bool)(M:Mem)(hG:M 0=some (szO ge gf))(hdl:deeds.length<2^60)(hds:∀ d∈deeds,(d.c.topic.size<2^62/\d.c.name.size<2^62)/\d.s.size<2^62)(hno:1<=nodes/\nodes<=7):SoundCall Tryz.prog 5 [int nodes,.sl (deeds.map encMD) o1] M fun r M'=>r=bool true/\M.le M':=by
 have hlw:(deeds.map encMD).length=deeds.length:=List.length_map _;have h00:=nn hG;refine SoundCall.go tk5 pl5 mixed Tryz.func5 cb5 rfl (Nat.le_of_ble_eq_true rfl) ?_;refine Q18 ?_;refine Q0 ?_;refine o_call (((snd27 ge gf _ hG).det)) goes27 ac_nil rfl ?_;refine Q46 ?_;refine o_callx ((new_m hG hno.1 hno.2)) goes28 (ac (v_raw rfl) ac_nil) rfl ?_;rintro r M1 ⟨b,O1,rfl,hX0,hO0⟩;refine Q96 ?_;refine Q188 ?_;refine Q30 ?_;refine Q31 ?_;refine Q46 ?_;refine o_callx ((newD17 nodes _ hno.1 hno.2)) goes35 (ac (v_raw rfl) ac_nil) rfl ?_;rintro r M2 ⟨d,hd0,rfl,hR0,hle0⟩;have hT0:Tw ge gf M M2 b d ((2*0:Nat):Int) (2*0) (newM nodes.toNat) (newM nodes.toNat) O1 (· = d):=Tw.new hX0 hO0 hR0 hd0 hle0 (new_dc _);refine Q31 ?_;refine Q11 ?_;refine Q113 und65 ?_;refine Q141 ?_;refine Q113 und52 ?_;refine Q73 ?_;refine Q144 ?_;refine Q37 ?_;refine Q141 ?_;refine Q109 ?_;refine s_loop (fun m S=>∃ T,∃ M':Mem,∃ x:Mc,∃ O1 O2:Nat->Prop,∃ i:Nat,S=⟨setT (setT (setT (setT (setT T 1 (.sl (deeds.map encMD) o1)) 5 (bool true)) 6 (ptr b)) 8 (ptr d)) 9 (int (i:Nat)),M'⟩/\Tw ge gf M M' b d ((2*i:Nat):Int) (2*i) x x O1 O2/\NmOk x/\i<=deeds.length/\i<=120/\m=deeds.length - i) deeds.length ?_ ?_
 ·exact⟨_,_,newM nodes.toNat,O1,(· = d),0,St.mkT (kp (kp (kp (kp (kp rfl rfl) rfl) rfl) rfl) rfl).symm,hT0,nm_new _,by omega,by omega,rfl⟩
 rintro m S ⟨T,M',x,O1,O2,i,rfl,hT,hN,hi,hi80,rfl⟩;refine Q4 ?_;refine Q131 und47 ?_;refine Q59 ?_;refine Q1 ?_;refine Q97 ?_;refine Q171 ?_;refine Q157 ?_;refine o_nil ?_;refine s_cond rfl (fun h1=>?_) (fun h1=>?_)
 ·have k1:=h1;try simp only [zs] at k1
  have hi2:i<deeds.length:=by
   simp only [Bool.and_eq_true,decide_eq_true_eq,List.length_map] at h1;omega
  have hi8:i<120:=by
   simp only [Bool.and_eq_true,decide_eq_true_eq,List.length_map] at h1;omega
  have hsl:=step_len hT.a.ok (txD deeds[i]);have hsz:=txD_size (hds _ (List.getElem_mem hi2)).2;refine Q55 ?_;refine Q63 ?_;refine Q1 ?_;refine Q137 und47 sz51 ?_;refine Q176 ag51 sz51 ?_;refine o_call (((snd30 deeds[i] (hds _ (List.getElem_mem hi2)).1 _).det)) goes30 (ac (v_agg rfl) ac_nil) rfl ?_;refine Q8 ?_;refine Q17 ?_;refine Q1 ?_;refine o_callx ((apply_mR hT.a (by omega) hsz rfl)) goes29 (ac (mvQ) (ac (v_raw rfl) ac_nil)) rfl ?_;rintro r M3 ⟨O3,hX3,hC3,base,cp,rfl,hw3⟩;have hT3:=hT.stepP hX3 hC3;have hB3:=RB.of hT hT3 hw3;refine o_alloc zc56 (fun B1 hB1=>?_);have p1:=hT3.oa.none hB1;have p2:¬ O3 B1:=hT3.a.nof hB1;have p3:¬ O2 B1:=fun h=>hT3.r.ok _ h hB1
  have p4:B1≠0:=fun e=>nn hT3.a.g (by rw [← e];exact hB1)
  have hT3b:=fun o o'=>((hT3.upd (o:=o) p1 p2 p3 p4).upd (o:=o') p1 p2 p3 p4)
  have hnb:=hB3.ne hB1;refine Q54 sz56 ?_;refine Q17 ?_;refine Q1 ?_;refine o_callx ((applyD (hT3b _ _).r hT.c (by omega) hsz rfl)) goes36 (ac (mvQ) (ac (v_raw rfl) ac_nil)) rfl ?_;rintro r M4 ⟨rfl,hA4⟩;obtain⟨O4,hT4,hC4⟩:=(hT3b _ _).stepD h00 hA4 (step_dc hT.c (by omega) (txD deeds[i]));have hB4:=(hB3.upd2 hB1).fr hC4.eq hC4.new;have hb1:M4 B1=some (.cells [int (stepM x (txD deeds[i])).2.code,int (stepM x (txD deeds[i])).2.n,.raw (.slice base (stepM x (txD deeds[i])).2.recs.length cp)]):=hC4.keep (Mem.upd_self _ _ _) p3;refine o_alloc zc56 (fun B2 hB2=>?_);have q1:=hT4.oa.none hB2;have q2:¬ O3 B2:=hT4.a.nof hB2;have q3:¬ O4 B2:=fun h=>hT4.r.ok _ h hB2
  have q4:B2≠0:=fun e=>nn hT4.a.g (by rw [← e];exact hB2)
  have hB5:=fun o o'=>hB4.upd2 (o:=o) (o':=o') hB2
  have hT5:=fun o o'=>((hT4.upd (o:=o) q1 q2 q3 q4).upd (o:=o') q1 q2 q3 q4).mono (m:=((2*(i+1):Nat):Int)) (j:=2*(i+1)) (by omega) (by omega)
  have c12:B1≠B2:=Mem.fresh_ne hB2 hb1;refine Q54 sz56 ?_;refine Q89 ag56 sz56 ?_;refine Q50 ag56 sz56 ?_;refine o_call (((snd31r (stepM x (txD deeds[i])).2.code (stepM x (txD deeds[i])).2.n (stepM x (txD deeds[i])).2.recs base cp _ (hB5 _ _).w (by omega)).det)) goes31 (ac (v_agg rfl) (ac (v_agg rfl) ac_nil)) rfl ?_;refine Q8 ?_;refine Q17 ?_;refine Q22 ?_;refine o_callx (((hT5 _ _).state (step_nm hN).1 (by omega))) goes37 (ac (mvQ) (ac (mvQ) ac_nil)) rfl ?_;rintro r M5 ⟨rfl,hM5⟩;have hB5':RB M M5 O3 O4 base cp (stepM x (txD deeds[i])).2.recs:=by rw [hM5];exact hB5 _ _
  have hT5':Tw ge gf M M5 b d ((2*(i+1):Nat):Int) (2*(i+1)) (stepM x (txD deeds[i])).1 (stepM x (txD deeds[i])).1 O3 O4:=by rw [hM5];exact hT5 _ _
  have hb5:M5 B1=some (.cells [int (stepM x (txD deeds[i])).2.code,int (stepM x (txD deeds[i])).2.n,.raw (.slice base (stepM x (txD deeds[i])).2.recs.length cp)]):=by rw [hM5];exact Mem.upd_ne c12 (Mem.upd_ne c12 hb1)
  have hCl0:=Cl.of hB5';refine Q20 ?_;refine Q119 ?_;refine Q73 ?_;refine Q119 ?_;refine Q37 ?_;refine Q115 ?_;refine s_skip ?_;refine Q109 ?_;refine s_loop (fun m S=>∃ T,∃ M6:Mem,∃ q:Nat,S=⟨setT (setT (setT (setT (setT (setT (setT T 1 (.sl (deeds.map encMD) o1)) 5 (bool true)) 6 (ptr b)) 8 (ptr d)) 9 (int (i:Nat))) 11 (ptr B1)) 15 (int (q:Nat)),M6⟩/\Cl M5 M6 base (stepM x (txD deeds[i])).2.recs.length/\q<=(stepM x (txD deeds[i])).2.recs.length/\m=(stepM x (txD deeds[i])).2.recs.length - q) (stepM x (txD deeds[i])).2.recs.length ?_ ?_
  ·exact⟨_,_,0,St.mkT (kp (kp (kp (kp (kp (kp (kp rfl rfl) rfl) rfl) rfl) rfl) rfl) rfl).symm,hCl0,by omega,rfl⟩
  rintro m S ⟨T,M6,q,rfl,hcl,hq,rfl⟩;have hb6:M6 B1=some (.cells [int (stepM x (txD deeds[i])).2.code,int (stepM x (txD deeds[i])).2.n,.raw (.slice base (stepM x (txD deeds[i])).2.recs.length cp)]):=hcl.keep hb5 hnb;refine Q4 ?_;refine Q36 fo56_2 ?_;refine Q140 ag35 sz35 ?_;refine Q138 und35 ?_;refine Q41 ?_;refine s_cond rfl (fun h2=>?_) (fun h2=>?_)
  ·have k2:=h2;try simp only [zs] at k2
   have hq2:q<(stepM x (txD deeds[i])).2.recs.length:=by
    have:=h2;simp at this;omega
   obtain⟨bb,C,kk,rfl,h0,hC,rfl⟩ : ∃ bb C kk,base=some ⟨bb,0,none⟩/\0<(stepM x (txD deeds[i])).2.recs.length/\C.length=((stepM x (txD deeds[i])).2.recs.length+kk)*5/\M6=M5.upd bb (.cells C):=by
    rcases hcl with ⟨h0,-⟩|h1
    ·omega
    ·exact h1
   refine Q55 ?_;refine Q15 ?_;refine Q36 fo56_2 ?_;refine Q140 ag35 sz35 ?_;refine Q1 ?_;refine o_q (q_b (cs:=[.raw (.int .i64 0),.raw (.string { data:=#[] }),.raw (.int .i64 0),.raw (.string { data:=#[] }),.raw (.string { data:=#[] })]) bz39 bp39 bf_nil) rfl rfl rfl ?_;refine Q150 und35 sz39 ?_;refine o_store rfl (Mem.upd_self _ _ _) (e_agg rfl) rfl sz39 rfl (by show 0+((q:Int)).toNat*5+5<=C.length;omega) rfl rfl ?_;refine o_nil ?_;refine Q72 ?_;refine Q39 ?_;exact⟨(stepM x (txD deeds[i])).2.recs.length - (q+1),by omega,_,_,q+1,St.mkT (kp (kp (kp (kp (kp (kp (kp rfl rfl) rfl) rfl) rfl) rfl) rfl) rfl).symm,Cl.store h0 hC (by omega) rfl,by omega,rfl⟩
  ·have k2:=h2;try simp only [zs] at k2
   refine Q26 ?_;refine Q72 ?_;refine Q39 ?_;exact⟨deeds.length - (i+1),by omega,_,_,(stepM x (txD deeds[i])).1,O3,O4,i+1,St.mkT (kp (kp (kp (kp (kp rfl rfl) rfl) rfl) rfl) rfl).symm,hcl.tw hB5' hT5',(step_nm hN).1,by omega,by omega,rfl⟩
 ·have k1:=h1;try simp only [zs] at k1
  refine Q26 ?_;refine Q7 ?_;refine Q2 ?_;exact⟨rfl,hT.oa.le⟩
theorem does5 (ge:TypeId)(gf:Nat×Nat)(nodes:Int)(deeds:List MDe)(o1:Bool)(M:Mem)(hG:M 0=some (szO ge gf))(hdl:deeds.length<2^60)(hds:∀ d∈deeds,(d.c.topic.size<2^62/\d.c.name.size<2^62)/\d.s.size<2^62):SoundCall Tryz.prog 5 [int nodes,.sl (deeds.map encMD) o1] M fun r M'=>r=bool true/\M.le M':=by
 by_cases h:1<=nodes/\nodes<=7
 ·exact snd5b ge gf nodes deeds o1 M hG hdl hds h
 ·exact snd5a ge gf nodes deeds o1 M hG hdl hds (by omega)
end C17
