import Derived.Test.YticeppepdlgbhaaGreatDoorHz
import Derived.Test.YticeppepdlgbhaaGreatDoorZa4
import Derived.Test.YticeppepdlgbhaaGreatDoorAmC
open Go Go.Proofs Go.Am
set_option linter.unusedVariables false
set_option linter.unusedSimpArgs false
set_option autoImplicit false
set_option maxRecDepth 20000
set_option maxHeartbeats 4000000
namespace C3
theorem mul_bound' {u v:Int}(u0:0<=u)(u1:u<33554383)(v0:0<=v)(v1:v<33554383):0<=u*v/\u*v<=1125896551401924:=by
 refine⟨Int.mul_nonneg u0 v0,?_⟩;have h1:u*v<=33554382*33554382:=Int.mul_le_mul (by omega) (by omega) v0 (by decide);omega
def mulP (a b:Pr):Pr:=md (mulZ a b)
theorem g_right:right ⟨2,3⟩=true:=by decide
def tk73:Nat->Nat->Option Nat:=fun _ _=>none
def pl73:Nat->List PStep:=fun _=>[]
theorem cb73:Tryz.f73.body.map (codeB Tryz.prog Tryz.f73.ntmps tk73 pl73)=some true:=by kernel_rfl
theorem goes73:goesB Tryz.prog 73=true:=by kernel_rfl
theorem snd73 (M:Mem):SoundCall Tryz.prog 73 [] M fun r M'=>r=encP ⟨1,0⟩/\M.le M':=by
 refine SoundCall.go tk73 pl73 mixed Tryz.func73 cb73 rfl (Nat.le_of_ble_eq_true rfl) ?_;refine Q0 ?_;refine o_alloc zc60 (fun B1 hB1=>?_);have m1:M B1=none:=by have h:=hB1;repeat (first|exact h|replace h:=(Mem.upd_none h).2)
 refine Q42 ?_;refine Q217 bz60 bp60 fo60_0 ?_;refine Q58 sz60 ?_;exact ret_one (.inl rfl) rfl (rl_c rfl (Mem.upd_self _ _ _) (loadP_w ag60 sz60 rfl rfl) rfl rl_nil) ⟨rfl,zle⟩
def tk129:Nat->Nat->Option Nat:=fun _ _=>none
def pl129:Nat->List PStep:=fun _=>[]
theorem cb129:Tryz.f129.body.map (codeB Tryz.prog Tryz.f129.ntmps tk129 pl129)=some true:=by kernel_rfl
theorem goes129:goesB Tryz.prog 129=true:=by kernel_rfl
theorem snd129 (n:Int)(M:Mem):SoundCall Tryz.prog 129 [int n] M fun r M'=>r=int (n % 33554383)/\M.le M':=by
 have t1:n.tmod 33554383<33554383:=Int.tmod_lt_of_pos n (by decide);have t2 : -33554383<n.tmod 33554383:=by have:=Int.tmod_lt_of_pos (-n) (b:=33554383) (by decide);rw [Int.neg_tmod] at this;omega
 have t3:=Int.mul_tdiv_add_tmod n 33554383;refine SoundCall.go tk129 pl129 mixed Tryz.func129 cb129 rfl (Nat.le_of_ble_eq_true rfl) ?_;refine Q18 ?_;refine Q7 ?_;refine o_q (q_rem rfl rfl (by decide)) rfl rfl rfl ?_;refine Q43 ?_;refine o_q (q_rem rfl rfl (by decide)) rfl rfl rfl ?_;refine Q2 ?_;refine⟨congrArg int (?_:(n.tmod 33554383+33554383).tmod 33554383=n % 33554383),zle⟩;rw [Int.tmod_eq_emod_of_nonneg (by omega)];omega
def tk127:Nat->Nat->Option Nat:=fun _ _=>none
def pl127:Nat->List PStep
 | 1=>[.q 0,.q 1,.q 2,.q 3,.q 4,.q 6,.q 7,.q 8,.q 9,.q 10,.s 5 [10,9,8,7,6,3,2,1,0],.s 11 [9,8,7,6,4,3,2,1,0],.q 12,.s 13 []]
 | _=>[]
theorem cb127:Tryz.f127.body.map (codeB Tryz.prog Tryz.f127.ntmps tk127 pl127)=some true:=by kernel_rfl
theorem goes127:goesB Tryz.prog 127=true:=by kernel_rfl
def addW (x y:Pr):Pr:=⟨IntKind.i64.wrap (x.re+y.re) % 33554383,IntKind.i64.wrap (x.im+y.im) % 33554383⟩
theorem addW_eq {x y:Pr}(hx:right x=true)(h1 : -2^62<=y.re/\y.re<2^62)(h2 : -2^62<=y.im/\y.im<2^62):addW x y=md (addZ x y):=by
 have rx:=right_spec.1 hx;unfold addW;rw [wrap64 (by omega) (by omega),wrap64 (by omega) (by omega)];rfl
theorem snd127 (x y:Pr)(M:Mem):SoundCall Tryz.prog 127 [encP x,encP y] M fun r M'=>r=encP (addW x y)/\M.le M':=by
 refine SoundCall.go tk127 pl127 mixed Tryz.func127 cb127 rfl (Nat.le_of_ble_eq_true rfl) ?_;refine Q0 ?_;refine o_box zbx rfl rfl (fun B1 hB1=>?_);have m1:M B1=none:=by have h:=hB1;repeat (first|exact h|replace h:=(Mem.upd_none h).2)
 refine o_box zbx rfl rfl (fun B2 hB2=>?_);have f1_2:B1≠B2:=Mem.fresh_ne hB2 mmQ;have g2_1:B2≠B1:=f1_2.symm;have m2:M B2=none:=by have h:=hB2;repeat (first|exact h|replace h:=(Mem.upd_none h).2)
 refine o_alloc zc60 (fun B3 hB3=>?_);have f1_3:B1≠B3:=Mem.fresh_ne hB3 mmQ;have g3_1:B3≠B1:=f1_3.symm;have f2_3:B2≠B3:=Mem.fresh_ne hB3 mmQ;have g3_2:B3≠B2:=f2_3.symm;have m3:M B3=none:=by have h:=hB3;repeat (first|exact h|replace h:=(Mem.upd_none h).2)
 refine Q11 ?_;refine s_draw rfl ?_;refine Q34 fo60_0 ag3 sz3 fo60_0 ag3 sz3 ?_;refine d_q rfl (q_addw rfl rfl) rfl rfl rfl ?_;refine Q34 fo60_1 ag3 sz3 fo60_1 ag3 sz3 ?_;refine d_q rfl (q_addw rfl rfl) rfl rfl rfl ?_;refine Q3 ?_;refine o_call ((snd129 (IntKind.i64.wrap (x.re+y.re)) _).det) goes129 (ac (v_raw rfl) ac_nil) rfl ?_;refine o_nil ⟨(by simp [Mem.upd, *]),?_⟩;refine Q3 ?_;refine o_call ((snd129 (IntKind.i64.wrap (x.im+y.im)) _).det) goes129 (ac (v_raw rfl) ac_nil) rfl ?_;refine o_nil ⟨(by simp [Mem.upd, *]),?_⟩;refine Q214 bz60 bp60 fo60_0 fo60_1 ?_;refine Q118 sz60 ?_;refine o_nil ⟨(by simp [Mem.upd, *]),?_⟩;refine d_nil ?_;refine Q104 ?_;exact ret_one (.inl rfl) rfl (rl_c rfl mmQ (loadP_w ag60 sz60 rfl rfl) rfl rl_nil) ⟨rfl,zle⟩
def tk128:Nat->Nat->Option Nat:=fun _ _=>none
def pl128:Nat->List PStep
 | 1=>[.q 0,.q 1,.q 2,.q 3,.q 4,.q 5,.q 6,.q 7,.q 8,.q 9,.q 10,.q 12,.q 13,.q 14,.q 15,.q 16,.q 17,.q 18,.q 19,.q 20,.q 21,.q 22,.s 11 [22,21,20,19,18,17,16,15,14,13,12,9,8,7,6,5,4,3,2,1,0],.s 23 [21,20,19,18,17,16,15,14,13,12,10,9,8,7,6,5,4,3,2,1,0],.q 24,.s 25 []]
 | _=>[]
theorem cb128:Tryz.f128.body.map (codeB Tryz.prog Tryz.f128.ntmps tk128 pl128)=some true:=by kernel_rfl
theorem goes128:goesB Tryz.prog 128=true:=by kernel_rfl
theorem snd128 (x y:Pr)(M:Mem)(hx:right x=true)(hy:right y=true):SoundCall Tryz.prog 128 [encP x,encP y] M fun r M'=>r=encP (mulP x y)/\M.le M':=by
 have rx:=right_spec.1 hx;have ry:=right_spec.1 hy;have b1:=mul_bound' rx.1 rx.2.1 ry.1 ry.2.1;have b2:=mul_bound' rx.2.2.1 rx.2.2.2 ry.2.2.1 ry.2.2.2;have b3:=mul_bound' rx.1 rx.2.1 ry.2.2.1 ry.2.2.2;have b4:=mul_bound' rx.2.2.1 rx.2.2.2 ry.1 ry.2.1;refine SoundCall.go tk128 pl128 mixed Tryz.func128 cb128 rfl (Nat.le_of_ble_eq_true rfl) ?_;refine Q0 ?_;refine o_box zbx rfl rfl (fun B1 hB1=>?_);have m1:M B1=none:=by have h:=hB1;repeat (first|exact h|replace h:=(Mem.upd_none h).2)
 refine o_box zbx rfl rfl (fun B2 hB2=>?_);have f1_2:B1≠B2:=Mem.fresh_ne hB2 mmQ;have g2_1:B2≠B1:=f1_2.symm;have m2:M B2=none:=by have h:=hB2;repeat (first|exact h|replace h:=(Mem.upd_none h).2)
 refine o_alloc zc60 (fun B3 hB3=>?_);have f1_3:B1≠B3:=Mem.fresh_ne hB3 mmQ;have g3_1:B3≠B1:=f1_3.symm;have f2_3:B2≠B3:=Mem.fresh_ne hB3 mmQ;have g3_2:B3≠B2:=f2_3.symm;have m3:M B3=none:=by have h:=hB3;repeat (first|exact h|replace h:=(Mem.upd_none h).2)
 refine Q11 ?_;refine s_draw rfl ?_;refine Q34 fo60_0 ag3 sz3 fo60_0 ag3 sz3 ?_;refine Q235 ?_;refine Q34 fo60_1 ag3 sz3 fo60_1 ag3 sz3 ?_;refine Q235 ?_;refine Q253 ?_;refine Q34 fo60_0 ag3 sz3 fo60_1 ag3 sz3 ?_;refine Q235 ?_;refine Q34 fo60_1 ag3 sz3 fo60_0 ag3 sz3 ?_;refine Q235 ?_;refine Q195 ?_;refine Q3 ?_;refine o_call ((snd129 (mulZ x y).re _).det) goes129 (ac (v_raw rfl) ac_nil) rfl ?_;refine o_nil ⟨(by simp [Mem.upd, *]),?_⟩;refine Q3 ?_;refine o_call ((snd129 (mulZ x y).im _).det) goes129 (ac (v_raw rfl) ac_nil) rfl ?_;refine o_nil ⟨(by simp [Mem.upd, *]),?_⟩;refine Q214 bz60 bp60 fo60_0 fo60_1 ?_;refine Q118 sz60 ?_;refine o_nil ⟨(by simp [Mem.upd, *]),?_⟩;refine d_nil ?_;refine Q104 ?_;exact ret_one (.inl rfl) rfl (rl_c rfl mmQ (loadP_w ag60 sz60 rfl rfl) rfl rl_nil) ⟨rfl,zle⟩
def tk74:Nat->Nat->Option Nat:=fun _ _=>none
def pl74:Nat->List PStep
 | 6=>[.q 0,.q 1,.q 3,.q 4,.q 5,.q 6,.q 7,.q 8,.s 2 [8,7,6,5,4,3],.s 9 [7,6,5,4,3,1,0],.s 10 []]
 | _=>[]
theorem cb74:Tryz.f74.body.map (codeB Tryz.prog Tryz.f74.ntmps tk74 pl74)=some true:=by kernel_rfl
theorem goes74:goesB Tryz.prog 74=true:=by kernel_rfl
theorem ref_begin {d:Pr}(n:Nat)(hd:right d=true)(hn:n<2^62):addW (mulP d ⟨2,3⟩) ⟨(257+(n:Int)) % 33554383,0⟩=md (beginO d n):=by
 rw [show addW (mulP d ⟨2,3⟩) ⟨(257+(n:Int)) % 33554383,0⟩=_ from addW_eq (md_right _) (by dsimp only;omega) (by dsimp only;omega)];have ht:(257+(n:Int)).tmod 33554383=(257+(n:Int)) % 33554383:=Int.tmod_eq_emod_of_nonneg (by omega);unfold beginO;rw [ht];simp only [md,addZ,mulP,mulZ,Pr.mk.injEq];constructor<;>omega
theorem ref_step (z:Pr)(c:Nat)(hc:c<256):addW (mulP (md z) ⟨2,3⟩) ⟨(c:Int)+1,0⟩=md (stepO z c):=by
 rw [show addW (mulP (md z) ⟨2,3⟩) ⟨(c:Int)+1,0⟩=_ from addW_eq (md_right _) (by dsimp only;omega) (by dsimp only;omega)];simp only [md,addZ,mulP,mulZ,stepO,Pr.mk.injEq];constructor<;>omega
theorem snd74 (d:Pr)(s:ByteArray)(M:Mem)(hs:s.size<2^62)(hd:right d=true):SoundCall Tryz.prog 74 [encP d,.raw (.string s)] M fun r M'=>r=encP (onP d s)/\M.le M':=by
 refine SoundCall.go tk74 pl74 mixed Tryz.func74 cb74 rfl (Nat.le_of_ble_eq_true rfl) ?_;refine Q0 ?_;refine o_box zbx rfl rfl (fun B1 hB1=>?_);have m1:M B1=none:=by have h:=hB1;repeat (first|exact h|replace h:=(Mem.upd_none h).2)
 refine o_alloc zc60 (fun B2 hB2=>?_);have f1_2:B1≠B2:=Mem.fresh_ne hB2 mmQ;have g2_1:B2≠B1:=f1_2.symm;have m2:M B2=none:=by have h:=hB2;repeat (first|exact h|replace h:=(Mem.upd_none h).2)
 refine Q42 ?_;refine Q197 bz60 bp60 fo60_0 fo60_1 ?_;refine o_alloc zc60 (fun B3 hB3=>?_);have f1_3:B1≠B3:=Mem.fresh_ne hB3 mmQ;have g3_1:B3≠B1:=f1_3.symm;have f2_3:B2≠B3:=Mem.fresh_ne hB3 mmQ;have g3_2:B3≠B2:=f2_3.symm;have m3:M B3=none:=by have h:=hB3;repeat (first|exact h|replace h:=(Mem.upd_none h).2)
 refine Q54 sz60 ?_;refine Q89 ag60 sz60 ?_;refine Q50 ag60 sz60 ?_;refine o_call ((snd128 d ⟨2,3⟩ _ hd g_right).det) goes128 (ac (v_agg rfl) (ac (v_agg rfl) ac_nil)) rfl ?_;refine Q1 ?_;refine Q78 und9 ?_;refine Q43 ?_;refine o_call ((snd129 (257+(s.size:Int)) _).det) goes129 (ac (v_raw rfl) ac_nil) rfl ?_;refine Q217 bz60 bp60 fo60_0 ?_;refine o_call ((snd127 (mulP d ⟨2,3⟩) ⟨(257+(s.size:Int)) % 33554383,0⟩ _).det) goes127 (ac (v_agg rfl) (ac (v_agg rfl) ac_nil)) rfl ?_;refine Q54 sz60 ?_;refine s_seq ?_;refine Q109 ?_;refine s_loop (fun m S=>∃ T,∃ M':Mem,∃ i:Nat,S=⟨setT (setT (setT (setT (setT T 1 (.raw (.string s))) 2 (ptr B1)) 4 (ptr B2)) 5 (ptr B3)) 6 (int i),M'⟩/\M.le M'/\(M' B1=some (.cells (encP (md (onZ d s.size (s.data.toList.take i)))).cells)/\M' B3=some (.cells (encP ⟨2,3⟩).cells)/\M' B2=some (.cells [int 0,int 0]))/\i<=s.size/\m=s.size - i) s.size ?_ ?_
 ·rw [ref_begin s.size hd hs];exact⟨_,_,0,St.mkT (kp (kp (kp (kp (kp rfl rfl) rfl) rfl) rfl) rfl).symm,zle,⟨mmQ,mmQ,mmQ⟩,by omega,rfl⟩
 rintro m S ⟨T,M',i,rfl,hle,⟨c1,c3,c2⟩,hi,rfl⟩;have hsl:s.data.toList.length=s.size:=Array.length_toList;refine Q4 ?_;refine Q1 ?_;refine Q78 und9 ?_;refine Q41 ?_;refine s_cond rfl (fun h1=>?_) (fun h1=>?_)
 ·have k1:=h1;try simp only [zs] at k1
  have hc8:(s.data[i]'(by have h:i<s.size:=(by omega);exact h)).toNat<256:=UInt8.toNat_lt _;refine Q55 ?_;refine s_draw rfl ?_;refine Q85 ag60 sz60 ?_;refine Q85 ag60 sz60 ?_;refine Q5 ?_;refine Q5 ?_;refine d_q rfl (q_stri und9 rfl rfl rfl (by omega)) rfl rfl rfl ?_;refine Q166 und5 und3 ?_;refine Q195 ?_;refine d_q rfl (q_b (cs:=[_,.raw (.int .i64 0)]) bz60 bp60 (bf fo60_0 (e_raw rfl) rfl rfl (Nat.le_of_ble_eq_true rfl) rfl bf_nil)) rfl rfl rfl ?_;refine Q3 ?_;refine o_call ((snd128 (md (onZ d s.size (s.data.toList.take i))) ⟨2,3⟩ _ (md_right _) g_right).det) goes128 (ac (v_agg rfl) (ac (v_agg rfl) ac_nil)) rfl ?_;refine o_nil ⟨(by simp [Mem.upd, *]),?_⟩;refine Q3 ?_;refine o_call ((snd127 (mulP (md (onZ d s.size (s.data.toList.take i))) ⟨2,3⟩) ⟨((s.data[i]'(by have h:i<s.size:=(by omega);exact h)).toNat:Int)+1,0⟩ _).det) goes127 (ac (v_agg rfl) (ac (v_agg rfl) ac_nil)) rfl ?_;refine o_nil ⟨(by simp [Mem.upd, *]),?_⟩;refine Q118 sz60 ?_;refine o_nil ⟨(by simp [Mem.upd, *]),?_⟩;refine d_nil ?_;refine Q72 ?_;refine Q39 ?_;have est:addW (mulP (md (onZ d s.size (s.data.toList.take i))) ⟨2,3⟩) ⟨((s.data[i]'(by have h:i<s.size:=(by omega);exact h)).toNat:Int)+1,0⟩=md (onZ d s.size (s.data.toList.take (i+1))):=by rw [ref_step _ _ hc8,onZ_succ d s.size s.data.toList (by omega)];rfl
  rw [est];exact⟨s.size - (i+1),by omega,_,_,i+1,St.mkT (kp (kp (kp (kp (kp rfl rfl) rfl) rfl) rfl) rfl).symm,zle,⟨mmQ,mmQ,mmQ⟩,by omega,rfl⟩
 ·have k1:=h1;try simp only [zs] at k1
  refine Q26 ?_;refine Q89 ag60 sz60 ?_;refine Q58 sz60 ?_;obtain rfl:i=s.size:=by omega
  exact ret_one (.inl rfl) rfl (rl_c rfl mmQ (loadP_w ag60 sz60 rfl rfl) rfl rl_nil) ⟨by unfold onP;rw [← hsl,List.take_length];rfl,zle⟩
end C3
