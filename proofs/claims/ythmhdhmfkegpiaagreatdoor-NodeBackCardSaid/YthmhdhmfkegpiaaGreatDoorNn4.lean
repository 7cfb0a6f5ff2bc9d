import Derived.Test.YthmhdhmfkegpiaaGreatDoorHz
import Derived.Test.YthmhdhmfkegpiaaGreatDoorNn3
import Derived.Test.YthmhdhmfkegpiaaGreatDoorNn1
open Go Go.Proofs Go.Am
set_option linter.unusedVariables false
set_option linter.unusedSimpArgs false
set_option autoImplicit false
set_option maxHeartbeats 4000000
set_option maxRecDepth 20000
namespace C17
def tk18:Nat->Nat->Option Nat:=fun _ _=>none
def pl18:Nat->List PStep:=fun _=>[]
theorem cb18:Tryz.f18.body.map (codeB Tryz.prog Tryz.f18.ntmps tk18 pl18)=some true:=by kernel_rfl
theorem goes18:goesB Tryz.prog 18=true:=by kernel_rfl
theorem snd18 (x:Msg)(M:Mem)(hl:x.texts.length<2^60):SoundCall Tryz.prog 18 [encM x] M fun r M'=>r=bool (rightM x)/\M.le M':=by
 have hml:(x.texts.map str).length=x.texts.length:=List.length_map _;have h53:top53=9007199254740991:=rfl;refine SoundCall.go tk18 pl18 mixed Tryz.func18 cb18 rfl (Nat.le_of_ble_eq_true rfl) ?_;refine Q0 ?_;refine o_box zbx rfl rfl (fun B1 hB1=>?_);refine Q127 ?_;refine Q12 fo26_0 ag3 sz3 ?_;refine Q109 ?_;refine Q17 fo26_0 ag3 sz3 ?_;refine Q68 ?_;refine Q17 fo26_1 ag3 sz3 ?_;refine Q105 ?_;refine Q44 ?_;refine Q17 fo26_1 ag3 sz3 ?_;refine Q68 ?_;refine Q17 fo26_2 ag3 sz3 ?_;refine Q105 ?_;refine Q44 ?_;refine Q17 fo26_2 ag3 sz3 ?_;refine Q68 ?_;refine Q17 fo26_3 ag3 sz3 ?_;refine Q105 ?_;refine Q44 ?_;refine Q17 fo26_3 ag3 sz3 ?_;refine Q68 ?_;refine Q17 fo26_4 ag3 sz3 ?_;refine Q105 ?_;refine Q44 ?_;refine Q17 fo26_4 ag3 sz3 ?_;refine Q68 ?_;refine Q17 fo26_5 ag3 sz3 ?_;refine Q105 ?_;refine Q44 ?_;refine Q17 fo26_5 ag3 sz3 ?_;refine Q68 ?_;refine Q1 ?_;refine s_cond rfl (fun h1=>?_) (fun h1=>?_)
 ·have k1:=h1;try simp only [zs] at k1
  refine Q0 ?_;refine Q11 ?_;have e0:rightM x=false:=by
   rw [Bool.eq_false_iff];intro e;have e3:=e;unfold rightM headM bodyM at e3;simp only [Bool.and_eq_true,decide_eq_true_eq] at e3;obtain⟨⟨⟨e4,e5,e6,e7,e8,e9,e10,e11,e12,e13,e14,e15⟩,⟨⟨e16,e17⟩,e18⟩,e19⟩,e20⟩:=e3;simp only [Bool.or_eq_true,decide_eq_true_eq] at h1;omega
  exact⟨congrArg bool e0.symm,Mem.le_upd (Mem.le_refl M) hB1⟩
 ·have k1:=h1;try simp only [zs] at k1
  simp only [Bool.or_eq_false_iff,decide_eq_false_iff_not] at h1;obtain⟨⟨⟨⟨⟨⟨⟨⟨⟨⟨⟨e4,e5⟩,e6⟩,e7⟩,e8⟩,e9⟩,e10⟩,e11⟩,e12⟩,e13⟩,e14⟩,e15⟩:=h1;refine Q92 ?_;refine Q29 fo26_6 ?_;refine Q87 ag23 sz23 ?_;refine o_call (((snd50 x.bal _).det)) goes50 (ac (v_agg rfl) ac_nil) rfl ?_;refine Q138 ?_;refine Q29 fo26_7 ?_;refine Q87 ag23 sz23 ?_;refine o_call (((snd50 x.tak _).det)) goes50 (ac (v_agg rfl) ac_nil) rfl ?_;refine Q40 ?_;refine Q119 ?_;refine Q169 fo26_6 ?_;refine Q186 ag23 sz23 ?_;refine o_g (G:=true) rfl rfl rfl rfl rfl (fun hG hc=>(q_b (cs:=[.raw (.int .i64 0),.raw (.int .i64 0)]) bz23 bp23 bf_nil)) ?_;refine o_g (G:=true) rfl rfl rfl rfl rfl (fun hG hc=>(q_bin' (gv_on (gv_and hG hc) rfl) (gv_on (gv_and hG hc) rfl) (binNeBal _ _ x.bal bal0))) ?_;refine Q53 ?_;refine Q2 ?_;refine Q97 ?_;refine Q158 ?_;refine Q191 ?_;refine Q192 fo26_7 ?_;refine o_g rfl rfl rfl rfl rfl (fun hG hc=>(q_ldm ag23 sz23 (gv_on (gv_and hG hc) rfl) mmQ rfl (v_agg rfl))) ?_;refine o_g rfl rfl rfl rfl rfl (fun hG hc=>(q_b (cs:=[.raw (.int .i64 0),.raw (.int .i64 0)]) bz23 bp23 bf_nil)) ?_;refine o_g rfl rfl rfl rfl rfl (fun hG hc=>(q_bin' (gv_on (gv_and hG hc) rfl) (gv_on (gv_and hG hc) rfl) (binNeBal _ _ x.tak bal0))) ?_;refine Q228 ?_;refine Q44 ?_;refine Q17 fo26_8 ag9 sz9 ?_;refine Q206 und9 ?_;refine Q68 ?_;refine Q2 ?_;refine Q169 fo26_9 ?_;refine Q256 ag24 sz24 ?_;refine Q185 und24 ?_;refine Q68 ?_;refine Q1 ?_;refine s_cond rfl (fun h2=>?_) (fun h2=>?_)
  ·have k2:=h2;try simp only [zs] at k2
   refine Q0 ?_;refine Q11 ?_;have e0:rightM x=false:=by
    rw [Bool.eq_false_iff];intro e;have e3:=e;unfold rightM headM bodyM at e3;simp only [Bool.and_eq_true,decide_eq_true_eq] at e3;obtain⟨⟨⟨e4,e5,e6,e7,e8,e9,e10,e11,e12,e13,e14,e15⟩,⟨⟨e16,e17⟩,e18⟩,e19⟩,e20⟩:=e3;simp only [Bool.or_eq_true,decide_eq_true_eq] at h2;rcases h2 with ((h2|h2)|h2)|h2
    ·unfold mayB at e16;revert h2 e16;cases rightB x.bal<;>simp
    ·unfold mayB at e17;revert h2 e17;cases rightB x.tak<;>simp
    ·omega
    ·simp at h2;omega
   exact⟨congrArg bool e0.symm,Mem.le_upd (Mem.le_refl M) hB1⟩
  ·have k2:=h2;try simp only [zs] at k2
   simp only [Bool.or_eq_false_iff,decide_eq_false_iff_not] at h2;obtain⟨⟨⟨e16,e17⟩,e18⟩,e19⟩:=h2;have e18:x.val.size<=100000:=by omega
   have e19:x.texts.length<=980:=by have:=e19;simp at this;omega
   have e16:mayB x.bal=true:=by
    unfold mayB;revert e16;cases rightB x.bal<;>simp
   have e17:mayB x.tak=true:=by
    unfold mayB;revert e17;cases rightB x.tak<;>simp
   refine Q82 ?_;refine Q130 ?_;refine s_loop (fun m S=>∃ T,∃ i:Nat,S=⟨setT (setT T 1 (ptr B1)) 5 (int (i:Nat)),(M.upd B1 (.cells [int x.kind,int x.frm,int x.life,int x.view,int x.n,int x.sure,int x.bal.round,int x.bal.node,int x.tak.round,int x.tak.node,str x.val,.sl (x.texts.map str) false]))⟩/\i<=x.texts.length/\(∀ j,∀ h:j<x.texts.length,j<i->x.texts[j].size<=100000)/\m=x.texts.length - i) x.texts.length ?_ ?_
   ·exact⟨_,0,St.mkT (kp (kp rfl rfl) rfl).symm,Nat.zero_le _,(fun j h h2=>absurd h2 (Nat.not_lt_zero j)),rfl⟩
   rintro m S ⟨T,i,rfl,hi,hlow,rfl⟩;refine Q9 ?_;refine Q133 fo26_9 ag24 sz24 ?_;refine Q85 und24 ?_;refine Q84 ?_;refine s_cond rfl (fun h3=>?_) (fun h3=>?_)
   ·have k3:=h3;try simp only [zs] at k3
    have hi2:i<x.texts.length:=by omega
    refine Q86 ?_;refine Q133 fo26_9 ag24 sz24 ?_;refine Q2 ?_;refine Q73 und24 sz9 ?_;refine Q134 ag9 sz9 ?_;refine Q61 und9 ?_;refine Q102 ?_;refine s_cond rfl (fun h4=>?_) (fun h4=>?_)
    ·have k4:=h4;try simp only [zs] at k4
     refine Q0 ?_;refine Q54 ?_;refine Q121 ?_;have e0:rightM x=false:=by
      rw [Bool.eq_false_iff];intro e;have e3:=e;unfold rightM headM bodyM at e3;simp only [Bool.and_eq_true,decide_eq_true_eq] at e3;obtain⟨⟨⟨e4,e5,e6,e7,e8,e9,e10,e11,e12,e13,e14,e15⟩,⟨⟨e16,e17⟩,e18⟩,e19⟩,e20⟩:=e3;have:=e20 _ (List.getElem_mem hi2);omega
     exact⟨congrArg bool e0.symm,Mem.le_upd (Mem.le_refl M) hB1⟩
    ·have k4:=h4;try simp only [zs] at k4
     refine Q13 ?_;refine Q88 ?_;refine Q57 ?_;exact⟨x.texts.length - (i+1),by omega,_,i+1,St.mkT (kp (kp rfl rfl) rfl).symm,by omega,(fun j h h2=>(Nat.lt_succ_iff_lt_or_eq.1 h2).elim (fun h3=>hlow j h h3) fun e=>by subst e;omega),rfl⟩
   ·have k3:=h3;try simp only [zs] at k3
    refine Q117 ?_;refine Q4 ?_;refine⟨congrArg bool ?_,Mem.le_upd (Mem.le_refl M) hB1⟩;have e20:∀ t∈x.texts,t.size<=100000:=fun t ht=>by
     obtain⟨j,hj,rfl⟩:=List.mem_iff_getElem.1 ht;exact hlow j hj (by omega)
    unfold rightM headM bodyM;rw [e16,e17,decide_eq_true e18,decide_eq_true e19,decide_eq_true e20];simp only [Bool.and_true];exact (decide_eq_true ⟨by omega,by omega,by omega,by omega,by omega,by omega,by omega,by omega,by omega,by omega,by omega,by omega⟩).symm
end C17
