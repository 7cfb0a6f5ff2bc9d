import Derived.Test.YthmhdhmfkegpiaaGreatDoorHz
import Derived.Test.YthmhdhmfkegpiaaGreatDoorNn1
open Go Go.Proofs Go.Am
set_option linter.unusedVariables false
set_option linter.unusedSimpArgs false
set_option autoImplicit false
set_option maxHeartbeats 4000000
set_option maxRecDepth 20000
namespace C17
theorem ag23:aggT Tryz.prog 23=some true:=by kernel_rfl
theorem bz23:(zeroT Tryz.prog 23).map (fun z=>z.cells.toList.map AVal.raw)=some [.raw (.int .i64 0),.raw (.int .i64 0)]:=by kernel_rfl
theorem bp23:(aPlaces Tryz.prog 23).isSome=true:=by kernel_rfl
theorem fo23_0:fo Tryz.prog 23 0=some (0,1):=by kernel_rfl
theorem fo23_1:fo Tryz.prog 23 1=some (1,1):=by kernel_rfl
theorem sz23:sizeT Tryz.prog 23=some 2:=by kernel_rfl
def tk112:Nat->Nat->Option Nat:=fun _ _=>none
def pl112:Nat->List PStep:=fun _=>[]
theorem cb112:Tryz.f112.body.map (codeB Tryz.prog Tryz.f112.ntmps tk112 pl112)=some true:=by kernel_rfl
theorem goes112:goesB Tryz.prog 112=true:=by kernel_rfl
theorem snd112 (b:Bal)(M:Mem):SoundCall Tryz.prog 112 [balV b] M fun r M'=>r=bool (rightB b)/\M.le M':=by
 refine SoundCall.go tk112 pl112 mixed Tryz.func112 cb112 rfl (Nat.le_of_ble_eq_true rfl) ?_;refine Q0 ?_;refine o_box zbx rfl rfl (fun B1 hB1=>?_);refine Q7 ?_;refine Q27 fo23_0 ag3 sz3 ?_;refine Q23 ?_;refine Q17 fo23_0 ag3 sz3 ?_;refine Q193 ?_;refine Q53 ?_;refine Q17 fo23_1 ag3 sz3 ?_;refine Q231 ?_;refine Q53 ?_;refine Q17 fo23_1 ag3 sz3 ?_;refine Q105 ?_;refine Q53 ?_;refine Q4 ?_;exact⟨rfl,Mem.le_upd (Mem.le_refl M) hB1⟩
def tk50:Nat->Nat->Option Nat:=fun _ _=>none
def pl50:Nat->List PStep:=fun _=>[]
theorem cb50:Tryz.f50.body.map (codeB Tryz.prog Tryz.f50.ntmps tk50 pl50)=some true:=by kernel_rfl
theorem goes50:goesB Tryz.prog 50=true:=by kernel_rfl
theorem snd50 (b:Bal)(M:Mem):SoundCall Tryz.prog 50 [balV b] M fun r M'=>r=bool (rightB b)/\M.le M':=by
 refine SoundCall.go tk50 pl50 mixed Tryz.func50 cb50 rfl (Nat.le_of_ble_eq_true rfl) ?_;refine Q0 ?_;refine o_box zbx rfl rfl (fun B1 hB1=>?_);refine Q7 ?_;refine Q27 fo23_0 ag3 sz3 ?_;refine Q23 ?_;refine Q17 fo23_0 ag3 sz3 ?_;refine Q193 ?_;refine Q53 ?_;refine Q17 fo23_1 ag3 sz3 ?_;refine Q231 ?_;refine Q53 ?_;refine Q17 fo23_1 ag3 sz3 ?_;refine Q105 ?_;refine Q53 ?_;refine Q4 ?_;exact⟨rfl,Mem.le_upd (Mem.le_refl M) hB1⟩
def tk49:Nat->Nat->Option Nat:=fun _ _=>none
def pl49:Nat->List PStep:=fun _=>[]
theorem cb49:Tryz.f49.body.map (codeB Tryz.prog Tryz.f49.ntmps tk49 pl49)=some true:=by kernel_rfl
theorem goes49:goesB Tryz.prog 49=true:=by kernel_rfl
theorem snd49 (b:Bal)(M:Mem):SoundCall Tryz.prog 49 [balV b] M fun r M'=>r=bool (mayB b)/\M.le M':=by
 refine SoundCall.go tk49 pl49 mixed Tryz.func49 cb49 rfl (Nat.le_of_ble_eq_true rfl) ?_;refine Q0 ?_;refine o_box zbx rfl rfl (fun B1 hB1=>?_);refine Q7 ?_;refine Q34 ag23 sz23 ?_;refine o_callx ((snd112 b _)) goes112 (ac (v_agg rfl) ac_nil) rfl ?_;rintro r M1 ⟨rfl,hle1⟩;have hm1:M1 B1=some (.cells (balV b).cells):=hle1 B1 _ (Mem.upd_self _ _ _);refine Q2 ?_;refine o_cases (want:=false) (j:=2) rfl rfl (fun h1=>?_) (fun h1=>?_)
 ·have k1:=h1;try simp only [zs] at k1
  refine Q16 h1 ?_;refine Q45 ag23 sz23 ?_;refine Q16 h1 ?_;refine Q252 bz23 bp23 ?_;refine Q16 h1 ?_;refine o_q (q_bin' rfl rfl (binEqBal _ _ b bal0)) rfl rfl rfl ?_;refine Q30 h1 ?_;refine Q4 ?_;exact⟨congrArg bool (by unfold mayB;simp [*]),Mem.le_trans (Mem.le_upd (Mem.le_refl M) hB1) hle1⟩
 ·have k1:=h1;try simp only [zs] at k1
  refine Q106 h1 h1 h1 ?_;refine Q32 h1 ?_;refine Q4 ?_;exact⟨congrArg bool (by unfold mayB;simp [*]),Mem.le_trans (Mem.le_upd (Mem.le_refl M) hB1) hle1⟩
def tk40:Nat->Nat->Option Nat:=fun _ _=>none
def pl40:Nat->List PStep
 | 6=>[.q 0,.q 1,.q 2,.q 3,.q 4,.q 5,.q 6,.q 7,.q 8]
 | _=>[]
theorem cb40:Tryz.f40.body.map (codeB Tryz.prog Tryz.f40.ntmps tk40 pl40)=some true:=by kernel_rfl
theorem goes40:goesB Tryz.prog 40=true:=by kernel_rfl
theorem snd40 (a b:List ByteArray)(o1 o2:Bool)(M:Mem)(hl:a.length<2^60)(hl2:b.length<2^60):SoundCall Tryz.prog 40 [.sl (a.map str) o1,.sl (b.map str) o2] M fun r M'=>r=bool (decide (a=b))/\M'=M:=by
 refine SoundCall.go tk40 pl40 mixed Tryz.func40 cb40 rfl (Nat.le_of_ble_eq_true rfl) ?_;refine Q15 ?_;refine Q31 ?_;refine Q41 und24 ?_;refine Q41 und24 ?_;refine Q122 ?_;refine s_cond rfl (fun h1=>?_) (fun h1=>?_)
 ·have k1:=h1;try simp only [zs] at k1
  refine Q0 ?_;refine Q11 ?_;exact⟨congrArg bool (decide_eq_false fun e=>by rw [e] at k1;simp at k1).symm,rfl⟩
 ·have k1:=h1;try simp only [zs] at k1
  refine Q82 ?_;refine Q130 ?_;refine s_loop (fun m S=>∃ T,∃ i:Nat,S=⟨setT (setT (setT T 0 (.sl (a.map str) o1)) 1 (.sl (b.map str) o2)) 5 (int (i:Nat)),M⟩/\i<=a.length/\(∀ j,j<i->a[j]? = b[j]?)/\m=a.length - i) a.length ?_ ?_
  ·have hlen:a.length=b.length:=by omega
   exact⟨_,0,St.mkT (kp (kp (kp rfl rfl) rfl) rfl).symm,Nat.zero_le _,(fun j hj=>absurd hj (Nat.not_lt_zero j)),rfl⟩
  rintro m S ⟨T,i,rfl,hi,hp,rfl⟩;have hlen:a.length=b.length:=by omega
  refine Q9 ?_;refine Q41 und24 ?_;refine Q84 ?_;refine s_cond rfl (fun h2=>?_) (fun h2=>?_)
  ·have k2:=h2;try simp only [zs] at k2
   have hi1:i<a.length:=by omega
   have hi2:i<b.length:=by omega
   refine Q78 ?_;refine Q91 ?_;refine Q58 ?_;refine Q14 ?_;refine Q245 und24 sz9 ?_;refine Q246 ag9 sz9 ?_;refine Q58 ?_;refine Q14 ?_;refine Q245 und24 sz9 ?_;refine Q246 ag9 sz9 ?_;refine d_q rfl (q_sneq rfl rfl) rfl rfl rfl ?_;refine d_nil ?_;refine s_cond rfl (fun h3=>?_) (fun h3=>?_)
   ·have k3:=h3;try simp only [zs] at k3
    refine Q0 ?_;refine Q54 ?_;refine Q121 ?_;exact⟨congrArg bool (decide_eq_false fun e=>k3 (by subst e;rfl)).symm,rfl⟩
   ·have k3:=h3;try simp only [zs] at k3
    refine Q13 ?_;refine Q88 ?_;refine Q57 ?_;exact⟨a.length - (i+1),by omega,_,i+1,St.mkT (kp (kp (kp rfl rfl) rfl) rfl).symm,by omega,(fun j hj=>(Nat.lt_succ_iff_lt_or_eq.1 hj).elim (fun h=>hp j h) fun e=>by subst e;rw [List.getElem?_eq_getElem hi1,List.getElem?_eq_getElem hi2,k3]),rfl⟩
  ·have k2:=h2;try simp only [zs] at k2
   refine Q117 ?_;refine Q4 ?_;have hab:a=b:=List.ext_getElem? fun j=>(Nat.lt_or_ge j i).elim (fun e=>hp j e) fun e=>by rw [List.getElem?_eq_none (by omega),List.getElem?_eq_none (by omega)]
   exact⟨congrArg bool (decide_eq_true hab).symm,rfl⟩
end C17
