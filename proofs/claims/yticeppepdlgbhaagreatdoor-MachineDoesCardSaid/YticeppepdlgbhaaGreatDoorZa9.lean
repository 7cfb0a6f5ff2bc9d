import Derived.Test.YticeppepdlgbhaaGreatDoorHz
import Derived.Test.YticeppepdlgbhaaGreatDoorZa8
import Derived.Test.YticeppepdlgbhaaGreatDoorZr7
import Derived.Test.YticeppepdlgbhaaGreatDoorZa7
open Go Go.Proofs Go.Am
set_option linter.unusedVariables false
set_option linter.unusedSimpArgs false
set_option autoImplicit false
set_option maxHeartbeats 4000000
set_option maxRecDepth 20000
namespace C17
def tk63:Nat->Nat->Option Nat:=fun _ _=>none
def pl63:Nat->List PStep:=fun _=>[]
theorem cb63:Tryz.f63.body.map (codeB Tryz.prog Tryz.f63.ntmps tk63 pl63)=some true:=by kernel_rfl
theorem goes63:goesB Tryz.prog 63=true:=by kernel_rfl
def txt (c:Cmd):ByteArray:=if rightC c then bytC c else emp
def doM (x:Mc)(c:Cmd):Mc×Rp:=if rightC c then doC (cntM x (bytC c)) c else (cntM x emp,⟨1,0,[]⟩)
theorem step_txt (x:Mc)(c:Cmd):stepM x (txt c)=doM x c:=by
 unfold stepM txt doM;by_cases h:rightC c=true
 ·rw [if_pos h,if_pos h,decC_cmd h,if_neg (fun h=>h rfl)]
 ·rw [if_neg h,if_neg h,if_pos decC_emp]
theorem txt_size (c:Cmd):(txt c).size<=1000000:=by
 unfold txt;split
 ·rename_i h;have:=encAll_size (itemsC c) (okItems h) 9 (Nat.le_refl _);rw [show (itemsC c).take 9=itemsC c from rfl] at this;exact Nat.le_trans this (by decide)
 ·exact Nat.zero_le _
structure Mch (ge:TypeId)(gf:Nat×Nat)(M:Mem)(b:Nat)(n:Int)(x:Mc)(O:Nat->Prop):Prop where
 at':McAt M b x O
 ok:McOk n x
 no:¬ O 0
 g:M 0=some (szO ge gf)
section
variable {ge:TypeId}{gf:Nat×Nat}{M M' M2:Mem}{b d:Nat}{n:Int}{x x':Mc}{O O':Nat->Prop}{s:ByteArray}{c:Cmd}
theorem Mch.fr (h:Mch ge gf M b n x O)(hk:∀ c,O c->M' c=M c)(h0:M' 0=M 0):Mch ge gf M' b n x O:=⟨h.at'.fr hk,h.ok,h.no,by rw [h0];exact h.g⟩
theorem Mch.le (h:Mch ge gf M b n x O)(hle:M.le M'):Mch ge gf M' b n x O:=h.fr (fun c hc=>leK hle (h.at'.ok c hc)) (leK hle (by rw [h.g];exact fun h=>by cases h))
theorem Mch.nof (h:Mch ge gf M b n x O)(hd:M d=none):¬ O d:=fun hc=>h.at'.ok d hc hd
theorem Mch.upd (h:Mch ge gf M b n x O){o:AObj}(hd:¬ O d)(h0:d≠0):Mch ge gf (M.upd d o) b n x O:=h.fr (fun c hc=>upd_other fun e=>hd (by rw [← e];exact hc)) (upd_other (Ne.symm h0))
theorem Chg.keep (h:Chg M M' O O'){o:AObj}(hd:M d=some o)(hn:¬ O d):M' d=some o:=by rw [h.eq d (nn hd) hn];exact hd
theorem Chg.nO (h:Chg M M' O O'){o:AObj}(hd:M d=some o)(hn:¬ O d):¬ O' d:=fun hc=>(h.new d hc).elim hn (nn hd)
theorem apply40 (h:Mch ge gf M b n x O)(hn:n+1<2^40)(hs:s.size<2^62):SoundCall Tryz.prog 29 [ptr b,str s] M fun r M'=>r=rpO (stepM x s).2/\Aft M M' b (stepM x s).1 O:=by
 obtain⟨⟨mt,ms,ad,hA⟩,ho,h0,hG⟩:=h;by_cases he:(decC s).2=0
 ·exact snd29b b mt ms ad x O n s ge gf M hA ho hn hs hG he
 ·exact snd29a b mt ms ad x O n s ge gf M hA ho hn hs hG he
theorem Mch.aft (h:Mch ge gf M b n x O){m:Int}(hA:Aft M M' b x' O)(ho:McOk m x'):∃ O',Mch ge gf M' b m x' O'/\Chg M M' O O':=by
 obtain⟨O',h1,h2⟩:=hA;exact⟨O',⟨h1,ho,h2.nO h.g h.no,h2.keep h.g h.no⟩,h2⟩
theorem apply_m (h:Mch ge gf M b n x O)(hn:n+1<2^40)(hs:s.size<2^62){p:Mc×Rp}(e:stepM x s=p):SoundCall Tryz.prog 29 [ptr b,str s] M fun r M'=>r=rpO p.2/\∃ O',Mch ge gf M' b (n+2) p.1 O'/\Chg M M' O O':=by
 subst e;exact (apply40 h hn hs).mono fun r M' ⟨h1,h2⟩=>⟨h1,h.aft h2 (step_ok h.ok)⟩
end
theorem snd63 (ge:TypeId)(gf:Nat×Nat)(b:Nat)(n:Int)(x:Mc)(O:Nat->Prop)(c:Cmd)(M:Mem)(h:Mch ge gf M b n x O)(hn:n+1<2^40)(hc:c.topic.size<2^62/\c.name.size<2^62):SoundCall Tryz.prog 63 [ptr b,encC c] M fun r M'=>r=rpO (doM x c).2/\Aft M M' b (doM x c).1 O:=by
 have hG:=h.g;have hok:=h.at'.ok;have hb0:O b:=by obtain⟨mt,ms,ad,hA⟩:=h.at';exact hA.ob.1
 have hts:=txt_size c;have hMb:=hok b hb0;rw [← step_txt];refine SoundCall.go tk63 pl63 mixed Tryz.func63 cb63 rfl (Nat.le_of_ble_eq_true rfl) ?_;refine Q0 ?_;refine o_box zbx rfl rfl (fun B1 hB1=>?_);have c01:(0:Nat)≠B1:=Mem.fresh_ne hB1 mmQ;have m1:M B1=none:=zm hB1;refine o_alloc zc56 (fun B2 hB2=>?_);have c02:(0:Nat)≠B2:=Mem.fresh_ne hB2 mmQ;have f1_2:B1≠B2:=Mem.fresh_ne hB2 mmQ;have g2_1:B2≠B1:=f1_2.symm;have m2:M B2=none:=zm hB2;refine o_nil ?_;refine Q89 ag49 sz49 ?_;refine o_call (((snd71 c hc _).det)) goes71 (ac (v_agg rfl) ac_nil) rfl ?_;refine Q96 ?_;refine Q30 ?_;refine Q30 ?_;refine Q27 ?_;refine Q8 ?_;refine Q17 ?_;refine Q1 ?_;refine o_callx ((apply40 (s:=txt c) (h.le zle) hn (by omega))) goes29 (ac (mvQ) (ac (v_raw rfl) ac_nil)) rfl ?_;rintro r M' ⟨rfl,hA⟩;have q2:=hA.keep (d:=B2) (Mem.upd_self _ _ _) (fun hc=>hok B2 hc m2);refine Q58 sz56 ?_;exact ret_cell (.inl rfl) rfl rfl mmQ (loadP_w ag56 sz56 rfl rfl) ⟨rfl,hA.wrap (B:=B2) hb0 (by rw [upd_other (mem_put m2 hMb),upd_other (mem_put m1 hMb)];exact hMb) (by intro d h1 h2;repeat (first|rfl|refine (upd_other (by first|assumption|exact mem_put (by assumption) h2)).trans ?_)) m2 (nn (Mem.upd_self _ _ _)) hok (fun d hd _=>upd_other hd)⟩
section
variable {ge:TypeId}{gf:Nat×Nat}{M M' M2:Mem}{b d B:Nat}{n:Int}{x x':Mc}{O O':Nat->Prop}{s k:ByteArray}{c:Cmd}{y:Tp}
theorem doM_ok (h:McOk n x):McOk (n+2) (doM x c).1:=by rw [← step_txt];exact step_ok h
theorem do_m (h:Mch ge gf M b n x O)(hn:n+1<2^40)(hc:c.topic.size<2^62/\c.name.size<2^62){p:Mc×Rp}(e:doM x c=p):SoundCall Tryz.prog 63 [ptr b,encC c] M fun r M'=>r=rpO p.2/\∃ O',Mch ge gf M' b (n+2) p.1 O'/\Chg M M' O O':=by
 subst e;exact (snd63 ge gf b n x O c M h hn hc).mono fun r M' ⟨h1,h2⟩=>⟨h1,h.aft h2 (doM_ok h.ok)⟩
theorem wanted25 (h:McAt M b x O):SoundCall Tryz.prog 65 [ptr b] M fun r M'=>r = .sl ((x.want.idx 7).map natV) false/\M'=M:=by
 obtain⟨mt,ms,ad,hA⟩:=h;exact snd65 b mt ms x M hA.hb
theorem count41 (h:McAt M b x O):SoundCall Tryz.prog 33 [ptr b] M fun r M'=>r=int x.cnt/\M'=M:=by
 obtain⟨mt,ms,ad,hA⟩:=h;exact snd33 b mt ms x M hA.hb
theorem McAt.topic (h:McAt M b x O)(hg:gets x.tps k=some y):SoundCall Tryz.prog 64 [ptr b,str k] M fun r M'=>∃ t w,r = .tup [ptr t,bool true]/\M'=M/\M t=some (.cells (tpC w y))/\M w=some (tpK y)/\t≠w/\O t/\O w:=by
 obtain⟨mt,ms,ad,hA⟩:=h;obtain⟨h1,h2⟩:=hA.tp k y hg;obtain⟨h3,h4⟩:=hA.oa k y hg;refine (snd64 b mt ms x _ k M hA.hb hA.hm).mono fun r M' ⟨h5,h6⟩=>⟨_,_,?_,h6,h1,h2,kbs h1 h2,h3,h4⟩
 rw [h5,gdir,hg];rfl
def Out (M Mk:Mem)(O:Nat->Prop):Prop:=∀ d,M d≠none->Mk d=M d/\¬ O d
theorem Out.none (h:Out M M' O)(hB:M' B=none):M B=none:=by
 cases e:M B with
 | none=>rfl
 | some o=>rw [(h B (by rw [e];exact fun h=>by cases h)).1,e] at hB;cases hB
theorem Out.upd {o:AObj}(h:Out M M' O)(hB:M B = .none):Out M (M'.upd B o) O:=fun d hd=>⟨(upd_other (mem_put hB hd)).trans (h d hd).1,(h d hd).2⟩
theorem Out.chg (h:Out M M2 O)(hC:Chg M2 M' O O'):Out M M' O':=fun d hd=>by
 obtain⟨h1,h2⟩:=h d hd;have h3:M2 d ≠ .none:=by rw [h1];exact hd
 exact⟨(hC.eq d h3 h2).trans h1,fun hc=>(hC.new d hc).elim h2 h3⟩
theorem Out.le (h:Out M M' O):M.le M':=fun d o hd=>by rw [(h d (nn hd)).1,hd]
theorem new_m (hG:M 0=some (szO ge gf)){z:Int}(h1:1<=z)(h7:z<=7):SoundCall Tryz.prog 28 [int z] M fun r M'=>∃ b O,r = .tup [ptr b,int 0]/\Mch ge gf M' b 0 (newM z.toNat) O/\Out M M' O:=by
 refine (snd28 z M).mono fun r M' h=>?_
 rcases h with ⟨h,-⟩|⟨-,-,b,mt,ms,m1,m2,m3,hbs,rfl,hb,hm,hs,hk⟩
 ·omega
 ·have hG0:M 0≠none:=nn hG;refine⟨b,fun c=>c=b\/c=mt\/c=ms,rfl,⟨⟨mt,ms,fun _=>(0,0),⟨hb,hm,hs,(fun k y e=>by cases e),⟨.inl rfl,.inr (.inl rfl),.inr (.inr rfl)⟩,(fun k y e=>by cases e),(fun k y e=>by cases e),(fun k k' y y' e=>by cases e),fun c hc=>?_⟩⟩,⟨(fun k y e=>by cases e),(fun k y e=>by cases e),(show C3.right ⟨1,0⟩=true by decide),⟨Int.le_refl _,Int.le_refl _⟩⟩,fun h=>?_,by rw [hk 0 hG0];exact hG⟩,fun d hd=>⟨hk d hd,fun h=>?_⟩⟩
  ·rcases hc with rfl|rfl|rfl
   ·exact nn hb
   ·exact hm.some
   ·exact nn hs
  ·rcases h with h|h|h
   ·exact hG0 (by rw [h];exact m1)
   ·exact hG0 (by rw [h];exact m2)
   ·exact hG0 (by rw [h];exact m3)
  ·rcases h with h|h|h
   ·exact hd (by rw [h];exact m1)
   ·exact hd (by rw [h];exact m2)
   ·exact hd (by rw [h];exact m3)
theorem new_no {z:Int}(h:z<1\/7<z):SoundCall Tryz.prog 28 [int z] M fun r M'=>r = .tup [.raw (.pointer none),int 1]/\M'=M:=by
 refine (snd28 z M).mono fun r M' h2=>?_
 rcases h2 with ⟨-,h2⟩|⟨h3,h4,-⟩
 ·exact h2
 ·omega
end
end C17
