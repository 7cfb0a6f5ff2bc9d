import Derived.Test.YthmhdhmfkegpiaaGreatDoorHz
import Derived.Test.YthmhdhmfkegpiaaGreatDoorNn24
import Derived.Test.YthmhdhmfkegpiaaGreatDoorAmH
open Go Go.Proofs Go.Am
set_option linter.unusedVariables false
set_option linter.unusedSimpArgs false
set_option autoImplicit false
set_option maxHeartbeats 4000000
set_option maxRecDepth 20000
namespace C17
def tk211:Nat->Nat->Option Nat:=fun _ _=>none
def pl211:Nat->List PStep:=fun _=>[]
theorem cb211:Tryz.f211.body.map (codeB Tryz.prog Tryz.f211.ntmps tk211 pl211)=some true:=by kernel_rfl
theorem goes211:goesB Tryz.prog 211=true:=by kernel_rfl
def hasS (l:List ByteArray)(v:ByteArray):Bool:=l.any fun x=>decide (x=v)
theorem hasS_iff {l:List ByteArray}{v:ByteArray}:hasS l v=true↔v∈l:=by
 unfold hasS;rw [List.any_eq_true];exact⟨fun ⟨x,h1,h2⟩=>by rw [← of_decide_eq_true h2];exact h1,fun h=>⟨v,h,decide_eq_true rfl⟩⟩
theorem hasS_no {l:List ByteArray}{v:ByteArray}(h:v ∉ l):hasS l v=false:=Bool.eq_false_iff.2 fun e=>h (hasS_iff.1 e)
theorem no_succS {l:List ByteArray}{v:ByteArray}{i:Nat}(h:∀ j,∀ hj:j<l.length,j<i->l[j]≠v)(hi:i<l.length)(hv:l[i]≠v):∀ j,∀ hj:j<l.length,j<i+1->l[j]≠v:=fun j hj hji=>by
 rcases Nat.lt_or_ge j i with h1|h1
 ·exact h j hj h1
 ·obtain rfl:j=i:=by omega
  exact hv
theorem snd211 (l:List ByteArray)(o:Bool)(v:ByteArray)(M:Mem)(hl:l.length<2^60):SoundCall Tryz.prog 211 [.sl (l.map str) o,str v] M fun r M'=>∃ k:Int,r=int k/\decide (0<=k)=hasS l v/\M'=M:=by
 have hml:(l.map str).length=l.length:=List.length_map _;refine SoundCall.go tk211 pl211 mixed Tryz.func211 cb211 rfl (Nat.le_of_ble_eq_true rfl) ?_;refine Q15 ?_;refine Q31 ?_;refine Q41 und24 ?_;refine Q52 ?_;refine s_loop (fun m S=>∃ T,∃ i:Nat,S=⟨setT (setT (setT (setT (setT T 0 (.sl (l.map str) o)) 1 (str v)) 6 (.sl (l.map str) false)) 7 (int (l.length:Nat))) 8 (int (i:Nat)),M⟩/\(∀ j,∀ hj:j<l.length,j<i->l[j]≠v)/\i<=l.length/\m=l.length - i) l.length ?_ ?_
 ·exact⟨_,0,St.mkT (kp (kp (kp (kp (kp rfl rfl) rfl) rfl) (congrArg (fun q:Nat=>int (q:Int)) hml)) rfl).symm,fun j hj h=>by omega,by omega,rfl⟩
 rintro m S ⟨T,i,rfl,hno,hi,rfl⟩;refine Q50 ?_;refine s_cond rfl (fun h1=>?_) (fun h1=>?_)
 ·have k1:=h1;try simp only [zs] at k1
  have hi2:i<l.length:=by omega
  refine Q78 ?_;refine Q5 ?_;refine Q51 ?_;refine Q140 ?_;refine Q73 und24 sz9 ?_;refine Q134 ag9 sz9 ?_;refine Q182 ?_;refine Q1 ?_;refine s_cond rfl (fun h2=>?_) (fun h2=>?_)
  ·have k2:=h2;try simp only [zs] at k2
   refine Q5 ?_;refine Q54 ?_;refine Q121 ?_;have e:v=l[i]:=of_decide_eq_true h2;exact⟨(i:Nat),rfl,by rw [decide_eq_true (Int.natCast_nonneg i),hasS_iff.2 (show v∈l by rw [e];exact List.getElem_mem hi2)],rfl⟩
  ·have k2:=h2;try simp only [zs] at k2
   refine Q13 ?_;refine Q36 ?_;exact⟨l.length - (i+1),by omega,_,i+1,St.mkT (kp (kp (kp (kp (kp rfl rfl) rfl) rfl) rfl) rfl).symm,no_succS hno hi2 (fun e=>(of_decide_eq_false h2) e.symm),by omega,rfl⟩
 ·have k1:=h1;try simp only [zs] at k1
  refine Q117 ?_;refine Q4 ?_;have e:v ∉ l:=fun hv=>by
   obtain⟨j,hj,e⟩:=List.mem_iff_getElem.1 hv;exact hno j hj (by omega) e
  exact⟨-1,rfl,by rw [hasS_no e];rfl,rfl⟩
def tk145:Nat->Nat->Option Nat:=fun _ _=>none
def pl145:Nat->List PStep:=fun _=>[]
theorem cb145:Tryz.f145.body.map (codeB Tryz.prog Tryz.f145.ntmps tk145 pl145)=some true:=by kernel_rfl
theorem goes145:goesB Tryz.prog 145=true:=by kernel_rfl
theorem snd145 (l:List ByteArray)(o:Bool)(v:ByteArray)(M:Mem)(hl:l.length<2^60):SoundCall Tryz.prog 145 [.sl (l.map str) o,str v] M fun r M'=>r=bool (hasS l v)/\M'=M:=by
 refine SoundCall.go tk145 pl145 mixed Tryz.func145 cb145 rfl (Nat.le_of_ble_eq_true rfl) ?_;refine Q15 ?_;refine Q0 ?_;refine Q140 ?_;refine o_callx (snd211 l _ v _ hl) goes211 (ac (v_sl rfl) (ac (v_raw rfl) ac_nil)) rfl ?_;rintro r M' ⟨k,rfl,hk,rfl⟩;refine Q23 ?_;refine Q4 ?_;exact⟨congrArg bool hk,rfl⟩
def tk79n:Nat->Nat->Option Nat:=fun _ _=>none
def pl79n:Nat->List PStep:=fun _=>[]
theorem cb79n:Tryz.f79.body.map (codeB Tryz.prog Tryz.f79.ntmps tk79n pl79n)=some true:=by kernel_rfl
theorem snd79n (b bo bm s c:Nat)(x:Nd)(o:Od)(pp:AVal)(f:Nat->Int×Int)(now:Int)(t:ByteArray)(ge:TypeId)(gf:Nat×Nat)(M:Mem)(hG:M 0=some (szO ge gf))(hb:M b=some (.cells (ndC x (ptr bo) (ptr bm) (ptr s) pp)))(hs:M s=some (.cells (sus x.self f c)))(hc':M c=some (.cells [int now]))(hsc:s≠c)(hw:0<=now/\now<2^60)(hf:∀ i,0<=(f i).2/\(f i).2<=now)(hl:x.vm.length<2^60)(hts:t.size<2^62)(hdt:(decC t).2=0)(hp:primN x f now=false):SoundCall Tryz.prog 79 [ptr b,str t] M fun r M'=>r=int 2/\M.le M':=by
 have hle:=Mem.le_refl M;refine SoundCall.go tk79n pl79n mixed Tryz.func79 cb79n rfl (Nat.le_of_ble_eq_true rfl) ?_;refine Q15 ?_;refine Q5 ?_;refine o_call (((dec60 t (by omega) ge gf _ mmQ).det)) goes144 (ac (v_raw rfl) ac_nil) rfl ?_;refine Q100 ?_;refine o_alloc zc58 (fun B1 hB1=>?_);have fb1:b≠B1:=Mem.fresh_ne hB1 hb;have f1b:=fb1.symm;have fs1:s≠B1:=Mem.fresh_ne hB1 hs;have fc1:c≠B1:=Mem.fresh_ne hB1 hc';refine Q6 sz58 ?_;refine Q7 ?_;refine Q150 ?_;refine Q5 ?_;refine Q108 ?_;refine Q7 ?_;refine s_else rfl (by rw [hdt];rfl) ?_;refine Q18 ?_;refine o_call (((snd23 b x (ptr bo) (ptr bm) pp s c f now _ mmQ mmQ mmQ hsc hw hf hl).det)) goes23 (ac (mvQ) ac_nil) rfl ?_;refine Q90 ?_;refine Q7 ?_;refine s_then rfl (by rw [hp];rfl) ?_;refine Q0 ?_;refine Q20 ?_;exact⟨rfl,(by repeat first|exact hle|exact Mem.le_refl _|assumption|exact Mem.none_of_le hle (by assumption)|exact n2|exact n3|exact n4|refine Mem.le_upd ?_ ?_)⟩
def tk79:Nat->Nat->Option Nat:=fun _ _=>none
def pl79:Nat->List PStep:=fun _=>[]
theorem cb79:Tryz.f79.body.map (codeB Tryz.prog Tryz.f79.ntmps tk79 pl79)=some true:=by kernel_rfl
theorem goes79:goesB Tryz.prog 79=true:=by kernel_rfl
theorem snd79s (b bo bm s c:Nat)(x:Nd)(o:Od)(pp:AVal)(f:Nat->Int×Int)(now:Int)(t:ByteArray)(ge:TypeId)(gf:Nat×Nat)(M:Mem)(hG:M 0=some (szO ge gf))(hb:M b=some (.cells (ndC x (ptr bo) (ptr bm) (ptr s) pp)))(ho:M bo=some (.cells (odC o)))(hs:M s=some (.cells (sus x.self f c)))(hc':M c=some (.cells [int now]))(hsc:s≠c)(hw:0<=now/\now<2^60)(hf:∀ i,0<=(f i).2/\(f i).2<=now)(hok:OK o)(hb0:b≠0)(hl:x.vm.length<2^60)(hlg:o.log.length+2<=2^40)(hts:t.size<=100000)(hls:x.saves.length<=2^40)(hdt:(decC t).2=0)(hp:primN x f now=true)(hfs:firstN x=true)(hnew:hasS o.log t=false)(o':Od)(at':Int)(hpo:propO o t=(o',at',0))(hat:0<=at'/\at'<2^60):SoundCall Tryz.prog 79 [ptr b,str t] M fun r M'=>r=int 0/\M' b=some (.cells (ndC { x with saves:=x.saves++[savedN 3 t at'] } (ptr bo) (ptr bm) (ptr s) pp))/\M' bo=some (.cells (odC o'))/\∀ d,M d≠none->d≠b->d≠bo->M' d=M d:=by
 have hle:=Mem.le_refl M;refine SoundCall.go tk79 pl79 mixed Tryz.func79 cb79 rfl (Nat.le_of_ble_eq_true rfl) ?_;refine Q15 ?_;refine Q5 ?_;refine o_call (((dec60 t (by omega) ge gf _ mmQ).det)) goes144 (ac (v_raw rfl) ac_nil) rfl ?_;refine Q100 ?_;refine o_alloc zc58 (fun B1 hB1=>?_);have fb1:b≠B1:=Mem.fresh_ne hB1 hb;have f1b:=fb1.symm;have fs1:s≠B1:=Mem.fresh_ne hB1 hs;have fc1:c≠B1:=Mem.fresh_ne hB1 hc';have fo1:bo≠B1:=Mem.fresh_ne hB1 ho;have f1o:=fo1.symm;have f10:B1≠0:=(Mem.fresh_ne hB1 hG).symm;have f01:=f10.symm;refine Q6 sz58 ?_;refine Q7 ?_;refine Q150 ?_;refine Q5 ?_;refine Q108 ?_;refine Q7 ?_;refine s_else rfl (by rw [hdt];rfl) ?_;refine Q18 ?_;refine o_call (((snd23 b x (ptr bo) (ptr bm) pp s c f now _ mmQ mmQ mmQ hsc hw hf hl).det)) goes23 (ac (mvQ) ac_nil) rfl ?_;refine Q90 ?_;refine Q7 ?_;refine s_else rfl (by rw [hp];rfl) ?_;refine Q95 fo134_6 ?_;refine Q126 ag128 sz128 ?_;refine o_call ((snd61 bo o _ mmQ (by omega))) goes61 (ac (mvQ) ac_nil) rfl ?_;refine Q2 ?_;refine o_call ((snd145 o.log false t _ (by omega))) goes145 (ac (v_sl rfl) (ac (v_raw rfl) ac_nil)) rfl ?_;refine Q7 ?_;refine s_else rfl hnew ?_;refine Q18 ?_;refine o_call ((snd33 b x (ptr bo) (ptr bm) (ptr s) pp _ mmQ hl)) goes33 (ac (mvQ) ac_nil) rfl ?_;refine Q90 ?_;refine Q7 ?_;refine s_else rfl (by rw [hfs];rfl) ?_;refine Q148 ?_;refine Q95 fo134_6 ?_;refine Q126 ag128 sz128 ?_;refine Q2 ?_;refine o_callx ((propE (b:=bo) hpo mmQ hok (by omega) (by omega))) goes122 (ac (mvQ) (ac (v_raw rfl) ac_nil)) rfl ?_;rintro r Mo ⟨rfl,rfl⟩;have fbo:b≠bo:=fun e=>by rw [e,ho] at hb;exact absurd hb (by unfold ndC odC;simp)
 have fob:=fbo.symm;have fo0:bo≠0:=fun e=>by rw [e,hG] at ho;cases ho
 have f0o:=fo0.symm;refine Q37 ?_;refine Q79 ?_;refine Q26 ?_;refine Q9 ?_;refine Q108 ?_;refine Q83 ?_;refine Q13 ?_;refine Q18 ?_;refine Q64 ?_;refine o_callx ((snd146 b x (ptr bo) (ptr bm) (ptr s) pp 3 t at' ge gf _ mmQ mmQ hb0 (by omega) hts (by omega) hls)) goes146 (ac (mvQ) (ac (v_raw rfl) (ac (v_raw rfl) (ac (v_raw rfl) ac_nil)))) rfl ?_;rintro r Mv ⟨rfl,rfl⟩;refine Q1 ?_;refine Q0 ?_;refine Q4 ?_;exact⟨rfl,Mem.upd_self _ _ _,mmQ,fun d hd h1 h2=>by
  have e1:d≠B1:=fun e=>hd (by rw [e];exact hB1)
  try dsimp only
  repeat first|rfl|rw [upd_other h1]|rw [upd_other h2]|rw [upd_other e1]⟩
end C17
