import Derived.Test.YthmhdhmfkegpiaaGreatDoorHz
import Derived.Test.YthmhdhmfkegpiaaGreatDoorNa8
import Derived.Test.YthmhdhmfkegpiaaGreatDoorNr7
import Derived.Test.YthmhdhmfkegpiaaGreatDoorNa7
open Go Go.Proofs Go.Am
set_option linter.unusedVariables false
set_option linter.unusedSimpArgs false
set_option autoImplicit false
namespace C17
def txt (c:Cmd):ByteArray:=if rightC c then bytC c else emp
def doM (x:Mc)(c:Cmd):Mc×Rp:=if rightC c then doC (cntM x (bytC c)) c else (cntM x emp,⟨1,0,[]⟩)
theorem step_txt (x:Mc)(c:Cmd):stepM x (txt c)=doM x c:=by
 unfold stepM txt doM;by_cases h:rightC c=true
 ·rw [if_pos h,if_pos h,decC_cmd h,if_neg (fun h=>h rfl)]
 ·rw [if_neg h,if_neg h,if_pos decC_emp]
structure Mch (ge:TypeId)(gf:Nat×Nat)(M:Mem)(b:Nat)(n:Int)(x:Mc)(O:Nat->Prop):Prop where
 at':McAt M b x O
 ok:McOk n x
 no:¬ O 0
 g:M 0=some (szO ge gf)
section
variable {ge:TypeId}{gf:Nat×Nat}{M M' M2:Mem}{b d:Nat}{n:Int}{x x':Mc}{O O':Nat->Prop}{s:ByteArray}{c:Cmd}
theorem Mch.fr (h:Mch ge gf M b n x O)(hk:∀ c,O c->M' c=M c)(h0:M' 0=M 0):Mch ge gf M' b n x O:=⟨h.at'.fr hk,h.ok,h.no,by rw [h0];exact h.g⟩
theorem Mch.nof (h:Mch ge gf M b n x O)(hd:M d=none):¬ O d:=fun hc=>h.at'.ok d hc hd
theorem Mch.upd (h:Mch ge gf M b n x O){o:AObj}(hd:¬ O d)(h0:d≠0):Mch ge gf (M.upd d o) b n x O:=h.fr (fun c hc=>upd_other fun e=>hd (by rw [← e];exact hc)) (upd_other (Ne.symm h0))
theorem Chg.keep (h:Chg M M' O O'){o:AObj}(hd:M d=some o)(hn:¬ O d):M' d=some o:=by rw [h.eq d (nn hd) hn];exact hd
theorem Chg.nO (h:Chg M M' O O'){o:AObj}(hd:M d=some o)(hn:¬ O d):¬ O' d:=fun hc=>(h.new d hc).elim hn (nn hd)
theorem apply40 (h:Mch ge gf M b n x O)(hn:n+1<2^40)(hs:s.size<2^62):SoundCall Tryz.prog 124 [ptr b,str s] M fun r M'=>r=rpO (stepM x s).2/\Aft M M' b (stepM x s).1 O:=by
 obtain⟨⟨mt,ms,ad,hA⟩,ho,h0,hG⟩:=h;by_cases he:(decC s).2=0
 ·exact snd124b b mt ms ad x O n s ge gf M hA ho hn hs hG he
 ·exact snd124a b mt ms ad x O n s ge gf M hA ho hn hs hG he
theorem Mch.aft (h:Mch ge gf M b n x O){m:Int}(hA:Aft M M' b x' O)(ho:McOk m x'):∃ O',Mch ge gf M' b m x' O'/\Chg M M' O O':=by
 obtain⟨O',h1,h2⟩:=hA;exact⟨O',⟨h1,ho,h2.nO h.g h.no,h2.keep h.g h.no⟩,h2⟩
theorem apply_m (h:Mch ge gf M b n x O)(hn:n+1<2^40)(hs:s.size<2^62){p:Mc×Rp}(e:stepM x s=p):SoundCall Tryz.prog 124 [ptr b,str s] M fun r M'=>r=rpO p.2/\∃ O',Mch ge gf M' b (n+2) p.1 O'/\Chg M M' O O':=by
 subst e;exact (apply40 h hn hs).mono fun r M' ⟨h1,h2⟩=>⟨h1,h.aft h2 (step_ok h.ok)⟩
end
section
variable {ge:TypeId}{gf:Nat×Nat}{M M' M2:Mem}{b d B:Nat}{n:Int}{x x':Mc}{O O':Nat->Prop}{s k:ByteArray}{c:Cmd}{y:Tp}
def Out (M Mk:Mem)(O:Nat->Prop):Prop:=∀ d,M d≠none->Mk d=M d/\¬ O d
theorem Out.le (h:Out M M' O):M.le M':=fun d o hd=>by rw [(h d (nn hd)).1,hd]
theorem new_m (hG:M 0=some (szO ge gf)){z:Int}(h1:1<=z)(h7:z<=7):SoundCall Tryz.prog 52 [int z] M fun r M'=>∃ b O,r = .tup [ptr b,int 0]/\Mch ge gf M' b 0 (newM z.toNat) O/\Out M M' O:=by
 refine (snd52 z M).mono fun r M' h=>?_
 rcases h with ⟨h,-⟩|⟨-,-,b,mt,ms,m1,m2,m3,hbs,rfl,hb,hm,hs,hk⟩
 ·omega
 ·have hG0:M 0≠none:=nn hG;refine⟨b,fun c=>c=b\/c=mt\/c=ms,rfl,⟨⟨mt,ms,fun _=>(0,0),⟨hb,hm,hs,(fun k y e=>by cases e),⟨.inl rfl,.inr (.inl rfl),.inr (.inr rfl)⟩,(fun k y e=>by cases e),(fun k y e=>by cases e),(fun k k' y y' e=>by cases e),fun c hc=>?_⟩⟩,⟨(fun k y e=>by cases e),(fun k y e=>by cases e),(show C3.right ⟨1,0⟩=true by decide),⟨Int.le_refl _,Int.le_refl _⟩⟩,fun h=>?_,by rw [hk 0 hG0];exact hG⟩,fun d hd=>⟨hk d hd,fun h=>?_⟩⟩
  ·rcases hc with rfl|rfl|rfl
   ·exact nn hb
   ·exact hm.some
   ·exact nn hs
  ·rcases h with h|h|h
   ·exact hG0 (by rw [h];exact m1)
   ·exact hG0 (by rw [h];exact m2)
   ·exact hG0 (by rw [h];exact m3)
  ·rcases h with h|h|h
   ·exact hd (by rw [h];exact m1)
   ·exact hd (by rw [h];exact m2)
   ·exact hd (by rw [h];exact m3)
end
end C17
