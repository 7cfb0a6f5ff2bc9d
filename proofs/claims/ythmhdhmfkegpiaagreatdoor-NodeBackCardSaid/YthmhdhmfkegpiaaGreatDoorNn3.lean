import Derived.Test.YthmhdhmfkegpiaaGreatDoorHz
import Derived.Test.YthmhdhmfkegpiaaGreatDoorNn2
import Derived.Test.YthmhdhmfkegpiaaGreatDoorNn1
open Go Go.Proofs Go.Am
set_option linter.unusedVariables false
set_option linter.unusedSimpArgs false
set_option autoImplicit false
set_option maxHeartbeats 4000000
set_option maxRecDepth 20000
namespace C17
theorem ag24:aggT Tryz.prog 24=some false:=by kernel_rfl
theorem fo26_0:fo Tryz.prog 26 0=some (0,1):=by kernel_rfl
theorem fo26_1:fo Tryz.prog 26 1=some (1,1):=by kernel_rfl
theorem fo26_2:fo Tryz.prog 26 2=some (2,1):=by kernel_rfl
theorem fo26_3:fo Tryz.prog 26 3=some (3,1):=by kernel_rfl
theorem fo26_4:fo Tryz.prog 26 4=some (4,1):=by kernel_rfl
theorem fo26_5:fo Tryz.prog 26 5=some (5,1):=by kernel_rfl
theorem fo26_6:fo Tryz.prog 26 6=some (6,2):=by kernel_rfl
theorem fo26_7:fo Tryz.prog 26 7=some (8,2):=by kernel_rfl
theorem fo26_8:fo Tryz.prog 26 8=some (10,1):=by kernel_rfl
theorem fo26_9:fo Tryz.prog 26 9=some (11,1):=by kernel_rfl
theorem sz24:sizeT Tryz.prog 24=some 1:=by kernel_rfl
def tk17:Nat->Nat->Option Nat:=fun _ _=>none
def pl17:Nat->List PStep:=fun _=>[]
theorem cb17:Tryz.f17.body.map (codeB Tryz.prog Tryz.f17.ntmps tk17 pl17)=some true:=by kernel_rfl
theorem goes17:goesB Tryz.prog 17=true:=by kernel_rfl
theorem snd17 (x:Msg)(M:Mem)(hl:x.texts.length<2^60):SoundCall Tryz.prog 17 [encM x] M fun r M'=>r=bool (rightM x)/\M.le M':=by
 have hml:(x.texts.map str).length=x.texts.length:=List.length_map _;refine SoundCall.go tk17 pl17 mixed Tryz.func17 cb17 rfl (Nat.le_of_ble_eq_true rfl) ?_;refine Q0 ?_;refine o_box zbx rfl rfl (fun B1 hB1=>?_);refine Q127 ?_;refine Q12 fo26_0 ag3 sz3 ?_;refine Q109 ?_;refine Q17 fo26_0 ag3 sz3 ?_;refine Q68 ?_;refine Q17 fo26_1 ag3 sz3 ?_;refine Q105 ?_;refine Q44 ?_;refine Q17 fo26_1 ag3 sz3 ?_;refine Q231 ?_;refine Q44 ?_;refine Q17 fo26_2 ag3 sz3 ?_;refine Q105 ?_;refine Q44 ?_;refine Q2 ?_;refine Q169 fo26_6 ?_;refine Q186 ag23 sz23 ?_;refine o_gw (G:=true) rfl rfl rfl rfl (fun hG hc h=>o_call (((snd49 x.bal _).det)) goes49 (ac (v_agg (gv_on (gv_and hG hc) rfl)) ac_nil) rfl h) ?_;refine Q158 ?_;refine Q44 ?_;refine Q2 ?_;refine Q169 fo26_7 ?_;refine Q186 ag23 sz23 ?_;refine o_gw (G:=true) rfl rfl rfl rfl (fun hG hc h=>o_call (((snd49 x.tak _).det)) goes49 (ac (v_agg (gv_on (gv_and hG hc) rfl)) ac_nil) rfl h) ?_;refine Q158 ?_;refine Q44 ?_;refine Q17 fo26_8 ag9 sz9 ?_;refine Q206 und9 ?_;refine Q68 ?_;refine Q2 ?_;refine Q169 fo26_9 ?_;refine Q256 ag24 sz24 ?_;refine Q185 und24 ?_;refine Q68 ?_;refine Q1 ?_;refine s_cond rfl (fun h1=>?_) (fun h1=>?_)
 ·have k1:=h1;try simp only [zs] at k1
  refine Q0 ?_;refine Q11 ?_;have e0:rightM x=false:=by
   rw [Bool.eq_false_iff];intro e;have e3:=e;unfold rightM headM bodyM at e3;simp only [Bool.and_eq_true,decide_eq_true_eq] at e3;obtain⟨⟨⟨e4,e5,e6,e7,e8,e9,e10,e11,e12,e13,e14,e15⟩,⟨⟨e16,e17⟩,e18⟩,e19⟩,e20⟩:=e3;simp only [Bool.or_eq_true,Bool.not_eq_true',decide_eq_true_eq] at h1;rcases h1 with (((((((h1|h1)|h1)|h1)|h1)|h1)|h1)|h1)|h1<;>first|omega|simp_all
  exact⟨congrArg bool e0.symm,Mem.le_upd (Mem.le_refl M) hB1⟩
 ·have k1:=h1;try simp only [zs] at k1
  simp only [Bool.or_eq_false_iff,Bool.not_eq_false',decide_eq_false_iff_not] at h1;obtain⟨⟨⟨⟨⟨⟨⟨⟨e4,e5⟩,e6⟩,e7⟩,e8⟩,e16⟩,e17⟩,e18⟩,e19⟩:=h1;have e18:x.val.size<=100000:=by omega
  have e19:x.texts.length<=980:=by have:=e19;simp at this;omega
  refine Q82 ?_;refine Q133 fo26_9 ag24 sz24 ?_;refine Q85 und24 ?_;refine Q52 ?_;refine s_loop (fun m S=>∃ T,∃ i:Nat,S=⟨setT (setT (setT (setT T 1 (ptr B1)) 53 (.sl (x.texts.map str) false)) 54 (int ((x.texts.map str).length:Nat))) 55 (int (i:Nat)),(M.upd B1 (.cells [int x.kind,int x.frm,int x.life,int x.view,int x.n,int x.sure,int x.bal.round,int x.bal.node,int x.tak.round,int x.tak.node,str x.val,.sl (x.texts.map str) false]))⟩/\i<=x.texts.length/\(∀ j,∀ h:j<x.texts.length,j<i->x.texts[j].size<=100000)/\m=x.texts.length - i) x.texts.length ?_ ?_
  ·exact⟨_,0,St.mkT (kp (kp (kp (kp rfl rfl) rfl) rfl) rfl).symm,Nat.zero_le _,(fun j h h2=>absurd h2 (Nat.not_lt_zero j)),rfl⟩
  rintro m S ⟨T,i,rfl,hi,hlow,rfl⟩;refine Q50 ?_;refine s_cond rfl (fun h2=>?_) (fun h2=>?_)
  ·have k2:=h2;try simp only [zs] at k2
   have hi2:i<x.texts.length:=by omega
   refine Q86 ?_;refine Q73 und24 sz9 ?_;refine Q134 ag9 sz9 ?_;refine Q51 ?_;refine Q61 und9 ?_;refine Q102 ?_;refine s_cond rfl (fun h3=>?_) (fun h3=>?_)
   ·have k3:=h3;try simp only [zs] at k3
    refine Q0 ?_;refine Q54 ?_;refine Q121 ?_;have e0:rightM x=false:=by
     rw [Bool.eq_false_iff];intro e;have e3:=e;unfold rightM headM bodyM at e3;simp only [Bool.and_eq_true,decide_eq_true_eq] at e3;obtain⟨⟨⟨e4,e5,e6,e7,e8,e9,e10,e11,e12,e13,e14,e15⟩,⟨⟨e16,e17⟩,e18⟩,e19⟩,e20⟩:=e3;have:=e20 _ (List.getElem_mem hi2);omega
    exact⟨congrArg bool e0.symm,Mem.le_upd (Mem.le_refl M) hB1⟩
   ·have k3:=h3;try simp only [zs] at k3
    refine Q13 ?_;refine Q36 ?_;exact⟨x.texts.length - (i+1),by omega,_,i+1,St.mkT (kp (kp (kp (kp rfl rfl) rfl) rfl) rfl).symm,by omega,(fun j h h2=>(Nat.lt_succ_iff_lt_or_eq.1 h2).elim (fun h3=>hlow j h h3) fun e=>by subst e;omega),rfl⟩
  ·have k2:=h2;try simp only [zs] at k2
   refine Q35 ?_;refine Q27 fo26_3 ag3 sz3 ?_;refine Q12 fo26_4 ag3 sz3 ?_;refine Q12 fo26_5 ag3 sz3 ?_;refine o_q (q_min3 rfl rfl rfl) rfl rfl rfl ?_;refine Q23 ?_;refine Q17 fo26_2 ag3 sz3 ?_;refine Q132 fo26_3 ag3 sz3 ?_;refine Q132 fo26_4 ag3 sz3 ?_;refine Q132 fo26_5 ag3 sz3 ?_;refine o_g (G:=true) rfl rfl rfl rfl rfl (fun hG hc=>(q_max4 (gv_on (gv_and hG hc) rfl) (gv_on (gv_and hG hc) rfl) (gv_on (gv_and hG hc) rfl) (gv_on (gv_and hG hc) rfl))) ?_;refine Q193 ?_;refine Q53 ?_;refine Q4 ?_;refine⟨congrArg bool ?_,Mem.le_upd (Mem.le_refl M) hB1⟩;have e20:∀ t∈x.texts,t.size<=100000:=fun t ht=>by
    obtain⟨j,hj,rfl⟩:=List.mem_iff_getElem.1 ht;exact hlow j hj (by omega)
   unfold rightM headM bodyM;rw [e16,e17,decide_eq_true e18,decide_eq_true e19,decide_eq_true e20];simp only [Bool.and_true];have h53:top53=9007199254740991:=rfl;rw [← Bool.decide_and];exact decide_eq_decide.2 ⟨fun h=>⟨by omega,by omega,by omega,by omega,by omega,by omega,by omega,by omega,by omega,by omega,by omega,by omega⟩,fun h=>by omega⟩
end C17
