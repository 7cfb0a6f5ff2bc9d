import Derived.Test.YticeppepdlgbhaaGreatDoorHz
import Derived.Test.YticeppepdlgbhaaGreatDoorZw19
import Derived.Test.YticeppepdlgbhaaGreatDoorZw20
open Go Go.Proofs Go.Am
set_option linter.unusedVariables false
set_option linter.unusedSimpArgs false
set_option autoImplicit false
set_option maxHeartbeats 4000000
set_option maxRecDepth 20000
namespace C17
def tk31r:Nat->Nat->Option Nat:=fun _ _=>none
def pl31r:Nat->List PStep
 | 6=>[.q 0,.q 1,.q 2,.q 3,.q 4,.q 5,.q 6,.q 7,.q 8,.q 9,.q 10]
 | _=>[]
theorem cb31r:Tryz.f31.body.map (codeB Tryz.prog Tryz.f31.ntmps tk31r pl31r)=some true:=by kernel_rfl
theorem snd31r (code n:Int)(l:List Rec)(base:Option Addr)(cp:Nat)(M:Mem)(hw:l=[]\/Ws enc 5 M (.slice base l.length cp) l)(hl:l.length<2^40):SoundCall Tryz.prog 31 [.agg [int code,int n,.raw (.slice base l.length cp)],.agg [int code,int n,.sl (l.map enc) false]] M fun r M'=>r=bool true/\M.le M':=by
 have hle:=Mem.le_refl M;have hml:(l.map enc).length=l.length:=List.length_map _;refine SoundCall.go tk31r pl31r mixed Tryz.func31 cb31r rfl (Nat.le_of_ble_eq_true rfl) ?_;refine Q0 ?_;refine o_box zbx rfl rfl (fun B1 hB1=>?_);have m1:M B1=none:=zm hB1;refine o_box zbx rfl rfl (fun B2 hB2=>?_);have f1_2:B1≠B2:=Mem.fresh_ne hB2 mmQ;have g2_1:B2≠B1:=f1_2.symm;have m2:M B2=none:=zm hB2;refine Q123 ?_;refine Q6 fo56_0 ag3 sz3 ?_;refine Q12 fo56_0 ag3 sz3 ?_;refine Q144 ?_;refine Q1 ?_;refine Q57 fo56_1 ag3 sz3 ?_;refine Q57 fo56_1 ag3 sz3 ?_;refine o_g (G:=true) rfl rfl rfl rfl rfl (fun hG hc=>(q_neq (gv_on (gv_and hG hc) rfl) (gv_on (gv_and hG hc) rfl))) ?_;refine Q88 ?_;refine Q57 fo56_2 ag35 sz35 ?_;refine o_g (G:=true) rfl rfl rfl rfl rfl (fun hG hc=>(q_lenr rfl und35 (gv_on (gv_and hG hc) rfl))) ?_;refine o_g (G:=true) rfl rfl rfl rfl rfl (fun hG hc=>(q_fr fo56_2 rfl)) ?_;refine o_g (G:=true) rfl rfl rfl rfl rfl (fun hG hc=>(q_ldm ag35 sz35 (gv_on (gv_and hG hc) rfl) mmQ rfl (v_sl rfl))) ?_;refine Q207 und35 ?_;refine o_g (G:=true) rfl rfl rfl rfl rfl (fun hG hc=>(q_neq (gv_on (gv_and hG hc) rfl) (gv_on (gv_and hG hc) rfl))) ?_;refine Q145 ?_;refine o_nil ?_;refine s_else rfl (by simp) ?_;refine Q35 ?_;refine Q109 ?_;refine s_loop (fun m S=>∃ T,∃ M1:Mem,∃ i:Nat,S=⟨setT (setT (setT T 2 (ptr B1)) 3 (ptr B2)) 5 (int (i:Nat)),M1⟩/\M1 B1=some (.cells [int code,int n,.raw (.slice base l.length cp)])/\M1 B2=some (.cells [int code,int n,.sl (l.map enc) false])/\M.le M1/\i<=l.length/\m=l.length - i) l.length ?_ ?_
 ·exact⟨_,_,0,St.mkT (kp (kp (kp rfl rfl) rfl) rfl).symm,mmQ,mmQ,(leN (leN (Mem.le_refl M) m1) m2),by omega,rfl⟩
 rintro m S ⟨T,M1,i,rfl,hb1,hb2,hle1,hi,rfl⟩;refine Q4 ?_;refine Q12 fo56_2 ag35 sz35 ?_;refine Q138 und35 ?_;refine Q41 ?_;refine s_cond rfl (fun h1=>?_) (fun h1=>?_)
 ·have k1:=h1;try simp only [zs] at k1
  have hi2:i<l.length:=by
   have:=h1;simp at this;omega
  obtain⟨b,kk,R,hv,hR,hb0⟩:=(hw.resolve_left (fun e=>by rw [e] at hi2;exact absurd hi2 (Nat.not_lt_zero i))).get (by omega);cases hv;have hb:=hle1 _ _ hb0;refine Q55 ?_;refine Q84 ?_;refine Q122 fo56_2 ag35 sz35 ?_;refine Q5 ?_;refine Q203 und35 sz39 ?_;refine d_q rfl (q_ldm ag39 sz39 rfl hb (piece_fl uwR.len (j:=i) hi2 (by show 0+((i:Int)).toNat*5=_;omega)) (v_agg rfl)) rfl rfl rfl ?_;refine Q40 fo56_2 ?_;refine Q169 ag35 sz35 ?_;refine Q5 ?_;refine Q205 und35 sz39 ?_;refine d_q rfl (q_lde ag39 sz39 rfl (gm i (by first|omega|simp)) rfl rfl) rfl rfl rfl ?_;refine d_q rfl (q_bin' rfl rfl (binNeq _ _ l[i] l[i])) rfl rfl rfl ?_;refine d_nil ?_;refine s_cond rfl (fun h2=>?_) (fun h2=>?_)
  ·have k2:=h2;try simp only [zs] at k2
   first|exact absurd h2 (by decide)|(simp at h2;done)|(simp at h2;omega)
  ·have k2:=h2;try simp only [zs] at k2
   refine Q47 ?_;refine Q39 ?_;exact⟨l.length - (i+1),by omega,_,M1,i+1,St.mkT (kp (kp (kp rfl rfl) rfl) rfl).symm,hb1,hb2,hle1,by omega,rfl⟩
 ·have k1:=h1;try simp only [zs] at k1
  refine Q26 ?_;refine Q0 ?_;refine Q2 ?_;exact⟨rfl,hle1⟩
end C17
open Go Go.Proofs Go.Am
set_option linter.unusedVariables false
set_option linter.unusedSimpArgs false
set_option autoImplicit false
namespace C17
def tk81:Nat->Nat->Option Nat:=fun _ _=>none
def pl81:Nat->List PStep:=fun _=>[]
theorem cb81:Tryz.f81.body.map (codeB Tryz.prog Tryz.f81.ntmps tk81 pl81)=some true:=by kernel_rfl
theorem goes81:goesB Tryz.prog 81=true:=by kernel_rfl
theorem snd81 (b mt ms:Nat)(x:Mc)(nm:ByteArray)(s:Sb)(M:Mem)(hb:M b=some (.cells (mcC mt ms x)))(hs:M ms=some (sbK x.sbs))(hbs:b≠ms)(hn:kget x.sbs nm=some s):SoundCall Tryz.prog 81 [ptr b,str nm] M fun r M'=>r = .tup [encSb s,bool true]/\M.le M':=by
 have hle:=Mem.le_refl M;refine SoundCall.go tk81 pl81 mixed Tryz.func81 cb81 rfl (Nat.le_of_ble_eq_true rfl) ?_;refine Q0 ?_;refine o_alloc zc142 (fun B1 hB1=>?_);have c1:b≠B1:=Mem.fresh_ne hB1 hb;have c2:ms≠B1:=Mem.fresh_ne hB1 hs;have m1:M B1=none:=zm hB1;refine Q8 ?_;refine Q70 fo124_1 ag121 sz121 ?_;refine Q1 ?_;refine o_q (q_mget2 und121 kt9 z142 rfl rfl mmQ (show _=encSb s by rw [hn];rfl)) rfl rfl rfl ?_;refine Q80 ?_;refine o_alloc zc142 (fun B2 hB2=>?_);have c3:b≠B2:=Mem.fresh_ne hB2 (Mem.upd_ne c1 hb);have c4:ms≠B2:=Mem.fresh_ne hB2 (Mem.upd_ne c2 hs);have f1_2:B1≠B2:=Mem.fresh_ne hB2 mmQ;have g2_1:B2≠B1:=f1_2.symm;have m2:M B2=none:=zm hB2;refine Q13 sz142 ?_;refine Q8 ?_;refine Q89 ag142 sz142 ?_;refine Q1 ?_;refine Q13 sz142 ?_;refine Q2 ?_;exact ret_many (.inl rfl) rfl (rl_c rfl mmQ (loadP_w ag142 sz142 rfl rfl) rfl (rl_t rfl rl_nil)) rfl ⟨by rw [hn];rfl,leN (leN (leN (leN (Mem.le_refl M) m1) m2) m2) m1⟩
end C17
