import Derived.Test.YthmhdhmfkegpiaaGreatDoorHz
import Derived.Test.YthmhdhmfkegpiaaGreatDoorNt13
open Go Go.Proofs Go.Am
set_option linter.unusedVariables false
set_option linter.unusedSimpArgs false
set_option autoImplicit false
set_option maxHeartbeats 4000000
set_option maxRecDepth 20000
namespace C17
def tk171:Nat->Nat->Option Nat:=fun _ _=>none
def pl171:Nat->List PStep:=fun _=>[]
theorem cb171:Tryz.f171.body.map (codeB Tryz.prog Tryz.f171.ntmps tk171 pl171)=some true:=by kernel_rfl
theorem goes171:goesB Tryz.prog 171=true:=by kernel_rfl
theorem kindB_nat (c:UInt8):kindB c=if (c.toNat:Int)=98 then 1 else if (c.toNat:Int)=119 then 2 else if (c.toNat:Int)=108 then 3 else if (c.toNat:Int)=116 then 4 else 0:=by
 have key:∀ n:Nat,n<256->kindB (UInt8.ofNat n)=if ((UInt8.ofNat n).toNat:Int)=98 then 1 else if ((UInt8.ofNat n).toNat:Int)=119 then 2 else if ((UInt8.ofNat n).toNat:Int)=108 then 3 else if ((UInt8.ofNat n).toNat:Int)=116 then 4 else 0:=by decide +kernel
 have:=key c.toNat c.toNat_lt;rwa [UInt8.ofNat_toNat] at this
theorem snd171 (c:UInt8)(M:Mem):SoundCall Tryz.prog 171 [.raw (.int .u8 (c.toNat:Int))] M fun r M'=>r=int (kindB c)/\M'=M:=by
 refine SoundCall.go tk171 pl171 mixed Tryz.func171 cb171 rfl (Nat.le_of_ble_eq_true rfl) ?_;refine Q15 ?_;refine Q9 ?_;refine Q147 ?_;refine Q38 ?_;refine s_cond rfl (fun h1=>?_) (fun h1=>?_)
 ·have k1:=h1;try simp only [zs] at k1
  refine Q0 ?_;refine Q20 ?_;refine⟨congrArg int ?_,rfl⟩;rw [kindB_nat];repeat first|rw [if_pos (by omega)]|rw [if_neg (by omega)]
 ·have k1:=h1;try simp only [zs] at k1
  refine Q38 ?_;refine s_cond rfl (fun h2=>?_) (fun h2=>?_)
  ·have k2:=h2;try simp only [zs] at k2
   refine Q0 ?_;refine Q20 ?_;refine⟨congrArg int ?_,rfl⟩;rw [kindB_nat];repeat first|rw [if_pos (by omega)]|rw [if_neg (by omega)]
  ·have k2:=h2;try simp only [zs] at k2
   refine Q38 ?_;refine s_cond rfl (fun h3=>?_) (fun h3=>?_)
   ·have k3:=h3;try simp only [zs] at k3
    refine Q0 ?_;refine Q20 ?_;refine⟨congrArg int ?_,rfl⟩;rw [kindB_nat];repeat first|rw [if_pos (by omega)]|rw [if_neg (by omega)]
   ·have k3:=h3;try simp only [zs] at k3
    refine Q38 ?_;refine s_cond rfl (fun h4=>?_) (fun h4=>?_)
    ·have k4:=h4;try simp only [zs] at k4
     refine Q0 ?_;refine Q20 ?_;refine⟨congrArg int ?_,rfl⟩;rw [kindB_nat];repeat first|rw [if_pos (by omega)]|rw [if_neg (by omega)]
    ·have k4:=h4;try simp only [zs] at k4
     refine Q148 ?_;refine Q0 ?_;refine Q4 ?_;refine⟨congrArg int ?_,rfl⟩;rw [kindB_nat];repeat first|rw [if_pos (by omega)]|rw [if_neg (by omega)]
def tk172:Nat->Nat->Option Nat:=fun _ _=>none
def pl172:Nat->List PStep:=fun _=>[]
theorem cb172:Tryz.f172.body.map (codeB Tryz.prog Tryz.f172.ntmps tk172 pl172)=some true:=by kernel_rfl
theorem goes172:goesB Tryz.prog 172=true:=by kernel_rfl
theorem be_take {s:ByteArray}{i:Nat}(h:i<s.size):beN (s.data.toList.take (i+1))=beN (s.data.toList.take i)*256+(s.data[i]'h).toNat:=by
 have h2:i<s.data.toList.length:=h;rw [List.take_succ_eq_append_getElem h2,beN_snoc,Array.getElem_toList]
theorem be_take_lt {s:ByteArray}{i:Nat}(h:i<=8):beN (s.data.toList.take i)<2^64:=by
 have h1:=beN_lt (s.data.toList.take i);have h2:(s.data.toList.take i).length<=8:=Nat.le_trans (List.length_take_le i _) h;exact Nat.lt_of_lt_of_le h1 (Nat.le_trans (Nat.pow_le_pow_right (by decide) h2) (by decide))
theorem snd172 (s:ByteArray)(M:Mem)(hs:s.size<=8):SoundCall Tryz.prog 172 [str s] M fun r M'=>r=u64 (beN s.data.toList)/\M'=M:=by
 refine SoundCall.go tk172 pl172 mixed Tryz.func172 cb172 rfl (Nat.le_of_ble_eq_true rfl) ?_;refine Q15 ?_;refine Q15 ?_;refine Q31 ?_;refine Q130 ?_;refine s_loop (fun m S=>∃ T,∃ i:Nat,S=⟨setT (setT (setT T 0 (str s)) 3 (u64 (beN (s.data.toList.take i)))) 4 (int (i:Nat)),M⟩/\i<=s.size/\m=s.size - i) s.size ?_ ?_
 ·exact⟨_,0,St.mkT (kp (kp (kp rfl rfl) rfl) rfl).symm,by omega,rfl⟩
 rintro m S ⟨T,i,rfl,hi,rfl⟩;refine Q9 ?_;refine Q2 ?_;refine Q61 und9 ?_;refine Q84 ?_;refine s_cond rfl (fun h1=>?_) (fun h1=>?_)
 ·have k1:=h1;try simp only [zs] at k1
  have hi2:i<s.size:=by omega
  have hb:=be_take hi2;have hb2:=be_take_lt (s:=s) (i:=i+1) (by omega);have hi3:i<s.data.size:=hi2;have hc:=(s.data[i]'hi3).toNat_lt;refine Q78 ?_;refine Q144 ?_;refine o_q (q_mul rfl rfl (u64_wrap (by omega) (by omega))) rfl rfl rfl ?_;refine Q64 ?_;refine Q173 und9 ?_;refine Q141 und5 und104 ?_;refine o_q (q_add rfl rfl (u64_wrap (by omega) (by omega))) rfl rfl rfl ?_;refine Q7 ?_;refine Q88 ?_;refine Q57 ?_;exact⟨s.size - (i+1),by omega,_,i+1,St.mkT (kp (kp (kp rfl rfl) (congrArg (fun n=>AVal.raw (.int .u64 n)) (by rw [hb];push_cast;omega))) rfl).symm,by omega,rfl⟩
 ·have k1:=h1;try simp only [zs] at k1
  obtain rfl:i=s.size:=by omega
  refine Q35 ?_;refine Q5 ?_;refine Q4 ?_;exact⟨congrArg u64 (by rw [List.take_of_length_le (show s.data.toList.length<=s.size from Nat.le_refl _)]),rfl⟩
def tk111:Nat->Nat->Option Nat:=fun _ _=>none
def pl111:Nat->List PStep:=fun _=>[]
theorem cb111:Tryz.f111.body.map (codeB Tryz.prog Tryz.f111.ntmps tk111 pl111)=some true:=by kernel_rfl
theorem goes111:goesB Tryz.prog 111=true:=by kernel_rfl
theorem ext_list (s:ByteArray)(n:Nat):(s.extract 0 n).data.toList=s.data.toList.take n:=by
 rw [ByteArray.data_extract,Array.toList_extract,List.extract_eq_take_drop,List.drop_zero,Nat.sub_zero]
theorem takeF_n1 {kd:Int}{s:ByteArray}(h:0<szK kd)(h2:s.size<szK kd):takeF kd s=(zI,0,2):=by
 unfold takeF;rw [if_pos h,if_pos h2]
theorem takeF_n2 {kd:Int}{s:ByteArray}(h:0<szK kd)(h2:¬ s.size<szK kd):takeF kd s=(⟨kd,beN (s.extract 0 (szK kd)).data.toList,emp⟩,szK kd,0):=by
 unfold takeF;rw [if_pos h,if_neg h2,ext_list]
theorem takeF_t1 {kd:Int}{s:ByteArray}(h:¬ 0<szK kd)(h2:s.size<4):takeF kd s=(zI,0,2):=by
 unfold takeF;rw [if_neg h,if_pos h2]
theorem takeF_t2 {kd:Int}{s:ByteArray}(h:¬ 0<szK kd)(h2:¬ s.size<4)(h3:100000<beN (s.extract 0 4).data.toList):takeF kd s=(zI,0,3):=by
 unfold takeF;rw [ext_list] at h3;rw [if_neg h,if_neg h2,if_pos h3]
theorem takeF_t3 {kd:Int}{s:ByteArray}(h:¬ 0<szK kd)(h2:¬ s.size<4)(h3:¬ 100000<beN (s.extract 0 4).data.toList)(h4:s.size - 4<beN (s.extract 0 4).data.toList):takeF kd s=(zI,0,2):=by
 unfold takeF;rw [ext_list] at h3 h4;rw [if_neg h,if_neg h2,if_neg h3,if_pos h4]
theorem takeF_t4 {kd:Int}{s:ByteArray}(h:¬ 0<szK kd)(h2:¬ s.size<4)(h3:¬ 100000<beN (s.extract 0 4).data.toList)(h4:¬ s.size - 4<beN (s.extract 0 4).data.toList):takeF kd s=(⟨kd,0,s.extract 4 (4+beN (s.extract 0 4).data.toList)⟩,4+beN (s.extract 0 4).data.toList,0):=by
 unfold takeF;rw [ext_list] at h3 h4 ⊢;rw [if_neg h,if_neg h2,if_neg h3,if_neg h4]
theorem snd111 (kd:Int)(s:ByteArray)(M:Mem)(hs:s.size<2^62):SoundCall Tryz.prog 111 [int kd,str s] M fun r M'=>r = .tup [encIt (takeF kd s).1,int ((takeF kd s).2.1:Nat),int (takeF kd s).2.2]/\M.le M':=by
 have hk8:=szK_le kd;have hle:=Mem.le_refl M;refine SoundCall.go tk111 pl111 mixed Tryz.func111 cb111 rfl (Nat.le_of_ble_eq_true rfl) ?_;refine Q0 ?_;refine o_alloc zc106 (fun B1 hB1=>?_);have m1:M B1=none:=zm hB1;refine Q26 ?_;refine Q5 ?_;refine o_call ((snd167 kd _)) goes167 (ac (v_raw rfl) ac_nil) rfl ?_;refine Q40 ?_;refine Q102 ?_;refine s_cond rfl (fun h1=>?_) (fun h1=>?_)
 ·have k1:=h1;try simp only [zs] at k1
  refine Q9 ?_;refine Q61 und9 ?_;refine Q2 ?_;refine Q84 ?_;refine s_cond rfl (fun h2=>?_) (fun h2=>?_)
  ·have k2:=h2;try simp only [zs] at k2
   refine Q0 ?_;refine Q237 bz106 bp106 ?_;refine Q6 sz106 ?_;refine Q28 ?_;refine Q54 ?_;refine s_code_ret ?_;refine Q181 ?_;refine ret_many (.inl rfl) rfl (rl_c rfl mmQ (loadP_w ag106 sz106 rfl rfl) rfl (rl_t rfl (rl_t rfl rl_nil))) rfl ⟨?_,zle⟩;first|rw [takeF_n1 (by omega) (by omega)]|rw [takeF_n2 (by omega) (by omega)]|rw [takeF_t1 (by omega) (by omega)]|rw [takeF_t2 (by omega) (by omega) (by omega)]|rw [takeF_t3 (by omega) (by omega) (by omega) (by omega)]|rw [takeF_t4 (by omega) (by omega) (by omega) (by omega)]
   all_goals rfl
  ·have k2:=h2;try simp only [zs] at k2
   refine Q71 ?_;refine Q64 ?_;refine o_q (q_slstr (n:=szK kd) und9 rfl rfl (by omega)) rfl rfl rfl ?_;refine o_call ((snd172 (s.extract 0 (szK kd)) _ (by rw [ByteArray.size_extract];omega))) goes172 (ac (v_raw rfl) ac_nil) rfl ?_;refine Q159 bz106 bp106 fo106_0 fo106_1 ?_;refine Q2 ?_;refine Q6 sz106 ?_;refine Q28 ?_;refine Q11 ?_;refine ret_many (.inl rfl) rfl (rl_c rfl mmQ (loadP_w ag106 sz106 rfl rfl) rfl (rl_t rfl (rl_t rfl rl_nil))) rfl ⟨?_,zle⟩;first|rw [takeF_n1 (by omega) (by omega)]|rw [takeF_n2 (by omega) (by omega)]|rw [takeF_t1 (by omega) (by omega)]|rw [takeF_t2 (by omega) (by omega) (by omega)]|rw [takeF_t3 (by omega) (by omega) (by omega) (by omega)]|rw [takeF_t4 (by omega) (by omega) (by omega) (by omega)]
   all_goals rfl
 ·have k1:=h1;try simp only [zs] at k1
  refine Q13 ?_;refine Q9 ?_;refine Q61 und9 ?_;refine Q84 ?_;refine s_cond rfl (fun h3=>?_) (fun h3=>?_)
  ·have k3:=h3;try simp only [zs] at k3
   refine Q0 ?_;refine Q237 bz106 bp106 ?_;refine Q6 sz106 ?_;refine Q28 ?_;refine Q11 ?_;refine ret_many (.inl rfl) rfl (rl_c rfl mmQ (loadP_w ag106 sz106 rfl rfl) rfl (rl_t rfl (rl_t rfl rl_nil))) rfl ⟨?_,zle⟩;first|rw [takeF_n1 (by omega) (by omega)]|rw [takeF_n2 (by omega) (by omega)]|rw [takeF_t1 (by omega) (by omega)]|rw [takeF_t2 (by omega) (by omega) (by omega)]|rw [takeF_t3 (by omega) (by omega) (by omega) (by omega)]|rw [takeF_t4 (by omega) (by omega) (by omega) (by omega)]
   all_goals rfl
  ·have k3:=h3;try simp only [zs] at k3
   have hb4:=be_take_lt (s:=s) (i:=4) (by decide);rw [← ext_list] at hb4;refine Q71 ?_;refine o_q (q_slstr (n:=4) und9 rfl rfl (by omega)) rfl rfl rfl ?_;refine o_call ((snd172 (s.extract 0 4) _ (by rw [ByteArray.size_extract];omega))) goes172 (ac (v_raw rfl) ac_nil) rfl ?_;refine Q40 ?_;refine Q102 ?_;refine s_cond rfl (fun h4=>?_) (fun h4=>?_)
   ·have k4:=h4;try simp only [zs] at k4
    refine Q0 ?_;refine Q237 bz106 bp106 ?_;refine Q6 sz106 ?_;refine Q28 ?_;refine Q11 ?_;refine ret_many (.inl rfl) rfl (rl_c rfl mmQ (loadP_w ag106 sz106 rfl rfl) rfl (rl_t rfl (rl_t rfl rl_nil))) rfl ⟨?_,zle⟩;first|rw [takeF_n1 (by omega) (by omega)]|rw [takeF_n2 (by omega) (by omega)]|rw [takeF_t1 (by omega) (by omega)]|rw [takeF_t2 (by omega) (by omega) (by omega)]|rw [takeF_t3 (by omega) (by omega) (by omega) (by omega)]|rw [takeF_t4 (by omega) (by omega) (by omega) (by omega)]
    all_goals rfl
   ·have k4:=h4;try simp only [zs] at k4
    refine Q13 ?_;refine Q9 ?_;refine Q61 und9 ?_;refine Q152 ?_;refine Q141 und3 und104 ?_;refine Q2 ?_;refine Q84 ?_;refine s_cond rfl (fun h5=>?_) (fun h5=>?_)
    ·have k5:=h5;try simp only [zs] at k5
     refine Q0 ?_;refine Q237 bz106 bp106 ?_;refine Q6 sz106 ?_;refine Q28 ?_;refine Q11 ?_;refine ret_many (.inl rfl) rfl (rl_c rfl mmQ (loadP_w ag106 sz106 rfl rfl) rfl (rl_t rfl (rl_t rfl rl_nil))) rfl ⟨?_,zle⟩;first|rw [takeF_n1 (by omega) (by omega)]|rw [takeF_n2 (by omega) (by omega)]|rw [takeF_t1 (by omega) (by omega)]|rw [takeF_t2 (by omega) (by omega) (by omega)]|rw [takeF_t3 (by omega) (by omega) (by omega) (by omega)]|rw [takeF_t4 (by omega) (by omega) (by omega) (by omega)]
     all_goals rfl
    ·have k5:=h5;try simp only [zs] at k5
     refine Q71 ?_;refine Q64 ?_;refine Q232 und104 und3 ?_;refine Q113 ?_;refine o_q (q_slmid (m:=4) (n:=4+beN (s.extract 0 4).data.toList) und9 rfl rfl (show int (4+(beN (s.extract 0 4).data.toList:Int))=_ from congrArg int (by push_cast;rfl)) (by omega) (by omega)) rfl rfl rfl ?_;refine Q194 bz106 bp106 fo106_0 fo106_2 ?_;refine Q2 ?_;refine Q232 und104 und3 ?_;refine Q113 ?_;refine Q6 sz106 ?_;refine Q28 ?_;refine Q4 ?_;refine ret_many (.inl rfl) rfl (rl_c rfl mmQ (loadP_w ag106 sz106 rfl rfl) rfl (rl_t rfl (rl_t rfl rl_nil))) rfl ⟨?_,zle⟩;first|rw [takeF_n1 (by omega) (by omega)]|rw [takeF_n2 (by omega) (by omega)]|rw [takeF_t1 (by omega) (by omega)]|rw [takeF_t2 (by omega) (by omega) (by omega)]|rw [takeF_t3 (by omega) (by omega) (by omega) (by omega)]|rw [takeF_t4 (by omega) (by omega) (by omega) (by omega)]
     all_goals rfl
def tk110:Nat->Nat->Option Nat
 | 1,0=>some 0
 | 2,0=>some 0
 | 8,0=>some 0
 | 8,4=>some 0
 | 14,0=>some 0
 | 14,4=>some 0
 | _,_=>none
def pl110:Nat->List PStep:=fun _=>[]
theorem cb110:Tryz.f110.body.map (codeB Tryz.prog Tryz.f110.ntmps tk110 pl110)=some true:=by kernel_rfl
theorem goes110:goesB Tryz.prog 110=true:=by kernel_rfl
def kindsF:List UInt8->Bool->List Int->List Int->(List Int×List Int)×Bool
 | [],st,a,b=>((a,b),!st || decide ((0:Int)<((b.map int).length:Nat)))
 | c::l,st,a,b=>if (decide ((c.toNat:Int)=42) && !st)=true then kindsF l true a b else if kindB c=0 then (([],[]),false) else if st then kindsF l st a (b++[kindB c]) else kindsF l st (a++[kindB c]) b
theorem drop_get {s:ByteArray}{i:Nat}(h:i<s.size):s.data.toList.drop i=(s.data[i]'h)::s.data.toList.drop (i+1):=by
 have h2:i<s.data.toList.length:=h;rw [List.drop_eq_getElem_cons h2,Array.getElem_toList]
theorem elsInt {l:List Int}:Els 1 (l.map int):=Els.map fun _=>⟨rfl,rfl⟩
theorem kindsF_len:∀ (l:List UInt8) (st:Bool) (a b:List Int),(kindsF l st a b).1.1.length<=a.length+l.length/\(kindsF l st a b).1.2.length<=b.length+l.length
 | [],st,a,b=>⟨Nat.le_refl _,Nat.le_refl _⟩
 | c::l,st,a,b=>by
  unfold kindsF;rw [List.length_cons];split
  ·have:=kindsF_len l true a b;omega
  ·split
   ·exact⟨Nat.zero_le _,Nat.zero_le _⟩
   ·split
    ·have:=kindsF_len l st a (b++[kindB c]);rw [List.length_append,List.length_singleton] at this;omega
    ·have:=kindsF_len l st (a++[kindB c]) b;rw [List.length_append,List.length_singleton] at this;omega
theorem snd110 (s:ByteArray)(M:Mem)(hs:s.size<2^40):SoundCall Tryz.prog 110 [str s] M fun r M'=>∃ o o',r = .tup [.sl ((kindsF s.data.toList false [] []).1.1.map int) o,.sl ((kindsF s.data.toList false [] []).1.2.map int) o',bool (kindsF s.data.toList false [] []).2]/\M'=M:=by
 refine SoundCall.go tk110 pl110 mixed Tryz.func110 cb110 rfl (Nat.le_of_ble_eq_true rfl) ?_;refine Q104 ?_;refine Q42 ?_;refine Q7 ?_;refine Q93 ?_;refine Q1 ?_;refine Q93 ?_;refine Q1 ?_;refine Q15 ?_;refine Q31 ?_;refine Q130 ?_;refine s_loop (fun m S=>∃ T,∃ i:Nat,∃ st:Bool,∃ a b:List Int,S=⟨setT (setT (setT (setT (setT T 0 (str s)) 5 (.sl (a.map int) true)) 6 (.sl (b.map int) true)) 7 (bool st)) 8 (int (i:Nat)),M⟩/\kindsF s.data.toList false [] []=kindsF (s.data.toList.drop i) st a b/\(a.length<=i/\b.length<=i)/\i<=s.size/\m=s.size - i) s.size ?_ ?_
 ·exact⟨_,0,false,[],[],St.mkT (kp (kp (kp (kp (kp rfl rfl) rfl) rfl) rfl) rfl).symm,rfl,⟨Nat.le_refl _,Nat.le_refl _⟩,by omega,rfl⟩
 rintro m S ⟨T,i,st,a,b,rfl,hK,hab,hi,rfl⟩;refine Q9 ?_;refine Q2 ?_;refine Q61 und9 ?_;refine Q84 ?_;refine s_cond rfl (fun h1=>?_) (fun h1=>?_)
 ·have k1:=h1;try simp only [zs] at k1
  have hi2:i<s.size:=by omega
  have hi3:i<s.data.size:=hi2;have hdr:=drop_get hi2;rw [hdr,kindsF] at hK;refine Q78 ?_;refine Q5 ?_;refine Q2 ?_;refine Q173 und9 ?_;refine o_call ((snd171 (s.data[i]'(show i<s.data.size by have:s.data.size=s.size:=rfl;omega)) _)) goes171 (ac (v_raw rfl) ac_nil) rfl ?_;refine Q130 ?_;refine Q5 ?_;refine Q2 ?_;refine Q173 und9 ?_;refine Q63 ?_;refine Q2 ?_;refine Q97 ?_;refine Q158 ?_;refine Q53 ?_;refine Q7 ?_;refine s_cond rfl (fun h2=>?_) (fun h2=>?_)
  ·have k2:=h2;try simp only [zs] at k2
   rw [if_pos h2] at hK;have hst:st=false:=by
    cases st with
    | false=>rfl
    | true=>simp at h2
   subst hst;refine Q19 ?_;refine Q7 ?_;refine s_blk_normal ?_;refine Q88 ?_;refine Q57 ?_;exact⟨s.size - (i+1),by omega,_,i+1,true,a,b,St.mkT (kp (kp (kp (kp (kp rfl rfl) rfl) rfl) rfl) rfl).symm,hK,by omega,by omega,rfl⟩
  ·have k2:=h2;try simp only [zs] at k2
   rw [if_neg (by rw [h2];decide)] at hK;refine Q5 ?_;refine Q65 ?_;refine s_cond rfl (fun h3=>?_) (fun h3=>?_)
   ·have k3:=h3;try simp only [zs] at k3
    have hk0:kindB (s.data[i]'hi3)=0:=of_decide_eq_true h3;rw [if_pos hk0] at hK;refine Q104 ?_;refine Q42 ?_;refine Q54 ?_;refine s_blk_ret ?_;refine Q121 ?_;exact ret_many (.inl rfl) rfl (rl_t rfl (rl_t rfl (rl_t rfl (rl_nil)))) rfl (⟨false,false,by rw [hK];rfl,rfl⟩)
   ·have k3:=h3;try simp only [zs] at k3
    have hk0:¬ kindB (s.data[i]'hi3)=0:=of_decide_eq_false h3;rw [if_neg hk0] at hK;refine Q5 ?_;refine Q7 ?_;refine s_cond rfl (fun h4=>?_) (fun h4=>?_)
    ·have k4:=h4;try simp only [zs] at k4
     rw [if_pos h4] at hK;refine Q19 ?_;refine Q94 ?_;refine Q2 ?_;refine Q165 slt72 ?_;refine Q272 slt72 ?_;refine Q128 ?_;refine s_blk_normal ?_;refine Q88 ?_;refine Q57 ?_;exact⟨s.size - (i+1),by omega,_,i+1,st,a,_,St.mkT (kp (kp (kp (kp (kp rfl rfl) rfl) (congrArg (fun l=>AVal.sl l true) (List.map_append (f:=int) (l₁:=b) (l₂:=[kindB (s.data[i]'hi2)])).symm)) rfl) rfl).symm,hK,by rw [List.length_append,List.length_singleton];omega,by omega,rfl⟩
    ·have k4:=h4;try simp only [zs] at k4
     rw [if_neg (by rw [h4];decide)] at hK;refine Q19 ?_;refine Q94 ?_;refine Q2 ?_;refine Q165 slt72 ?_;refine Q272 slt72 ?_;refine Q128 ?_;refine s_blk_normal ?_;refine Q88 ?_;refine Q57 ?_;exact⟨s.size - (i+1),by omega,_,i+1,st,_,b,St.mkT (kp (kp (kp (kp (kp rfl rfl) (congrArg (fun l=>AVal.sl l true) (List.map_append (f:=int) (l₁:=a) (l₂:=[kindB (s.data[i]'hi2)])).symm)) rfl) rfl) rfl).symm,hK,by rw [List.length_append,List.length_singleton];omega,by omega,rfl⟩
 ·have k1:=h1;try simp only [zs] at k1
  obtain rfl:i=s.size:=by omega
  rw [List.drop_of_length_le (show s.data.toList.length<=s.size from Nat.le_refl _)] at hK;refine Q117 ?_;refine Q49 ?_;refine Q140 ?_;refine Q119 ?_;refine Q195 ?_;refine Q185 und72 ?_;refine Q68 ?_;refine Q42 ?_;refine Q42 ?_;refine Q4 ?_;exact ret_many (.inl rfl) rfl (rl_t rfl (rl_t rfl (rl_t rfl (rl_nil)))) rfl (⟨_,_,by rw [hK];rfl,rfl⟩)
def tk48:Nat->Nat->Option Nat
 | 4,0=>some 0
 | 19,0=>some 0
 | 19,4=>some 0
 | _,_=>none
def pl48:Nat->List PStep:=fun _=>[]
theorem cb48:Tryz.f48.body.map (codeB Tryz.prog Tryz.f48.ntmps tk48 pl48)=some true:=by kernel_rfl
theorem goes48:goesB Tryz.prog 48=true:=by kernel_rfl
def rdecF (sh s:ByteArray):List Itm×Int:=if (kindsF sh.data.toList false [] []).2 then rdec (kindsF sh.data.toList false [] []).1.1 (kindsF sh.data.toList false [] []).1.2 1001 0 s [] else ([],1)
theorem takeF_size (kd:Int)(s:ByteArray):(s.extract (takeF kd s).2.1 s.size).size<=s.size:=by rw [ByteArray.size_extract];omega
theorem takeF_le (kd:Int)(s:ByteArray):(takeF kd s).2.1<=s.size:=by
 unfold takeF;split
 ·split
  ·exact Nat.zero_le _
  ·show szK kd<=s.size;omega
 ·split
  ·exact Nat.zero_le _
  ·split
   ·exact Nat.zero_le _
   ·split
    ·exact Nat.zero_le _
    ·show 4+_<=s.size;omega
theorem snd48 (sh s:ByteArray)(M:Mem)(hs:s.size<2^62)(hsh:sh.size<2^40):SoundCall Tryz.prog 48 [str sh,str s] M fun r M'=>(∃ o,r = .tup [.sl ((rdecF sh s).1.map encIt) o,int (rdecF sh s).2])/\M.le M':=by
 have hkl:=kindsF_len sh.data.toList false [] [];simp only [List.length_nil,Nat.zero_add] at hkl;have hll:sh.data.toList.length=sh.size:=rfl;refine SoundCall.go tk48 pl48 mixed Tryz.func48 cb48 rfl (Nat.le_of_ble_eq_true rfl) ?_;refine Q104 ?_;refine Q51 ?_;refine o_callx ((snd110 sh _ hsh)) goes110 (ac (v_raw rfl) ac_nil) rfl ?_;rintro r M1 ⟨o1,o2,rfl,hM1⟩;obtain rfl:M=M1:=hM1.symm;obtain⟨a,ha⟩ : ∃ a,a=(kindsF sh.data.toList false [] []).1.1:=⟨_,rfl⟩;obtain⟨b,hb⟩ : ∃ b,b=(kindsF sh.data.toList false [] []).1.2:=⟨_,rfl⟩;rw [← ha,← hb];rw [← ha,← hb] at hkl;refine Q37 ?_;refine Q166 ?_;refine Q166 ?_;refine Q80 ?_;refine Q42 ?_;refine Q42 ?_;refine Q40 ?_;refine Q59 ?_;refine s_cond rfl (fun h1=>?_) (fun h1=>?_)
 ·have k1:=h1;try simp only [zs] at k1
  have hok:rdecF sh s=([],1):=by
   unfold rdecF;rw [if_neg (by simpa using h1)]
  have hle:=Mem.le_refl M;refine Q104 ?_;refine Q11 ?_;exact ret_many (.inl rfl) rfl (rl_t rfl (rl_t rfl (rl_nil))) rfl (⟨⟨_,by rw [hok];rfl⟩,zle⟩)
 ·have k1:=h1;try simp only [zs] at k1
  obtain⟨res,hres⟩ : ∃ res,res=rdec a b 1001 0 s []:=⟨_,rfl⟩;have hok:rdecF sh s=res:=by
   unfold rdecF;rw [if_pos (by simpa using h1),hres,ha,hb]
  refine Q92 ?_;refine o_q (q_as_const rfl) rfl rfl rfl ?_;refine Q48 ?_;refine Q130 ?_;refine s_loop (fun m S=>∃ T,∃ M':Mem,∃ s1:ByteArray,∃ out:List Itm,∃ k:Nat,S=⟨setT (setT (setT (setT (setT T 1 (str s1)) 6 (.sl (a.map int) false)) 7 (.sl (b.map int) false)) 9 (.sl (out.map encIt) true)) 10 (int (k:Nat)),M'⟩/\res=rdec a b (1001 - k) k s1 out/\out.length=k/\k<=1000/\s1.size<=s.size/\M.le M'/\m=1001 - k) 1001 ?_ ?_
  ·exact⟨_,_,s,[],0,St.mkT (kp (kp (kp (kp (kp rfl rfl) rfl) rfl) rfl) rfl).symm,hres,rfl,by omega,Nat.le_refl _,Mem.le_refl _,rfl⟩
  rintro m S ⟨T,M',s1,out,k,rfl,hR,hl,hk,hs1,hle,rfl⟩;refine Q9 ?_;refine Q41 und72 ?_;refine Q109 ?_;refine Q2 ?_;refine Q195 ?_;refine Q185 und72 ?_;refine Q68 ?_;refine Q1 ?_;refine s_cond rfl (fun h2=>?_) (fun h2=>?_)
  ·have k2:=h2;try simp only [zs] at k2
   have hal:(a.map int).length=a.length:=List.length_map _;have hbl:(b.map int).length=b.length:=List.length_map _;have hkb:k<a.length\/0<b.length:=by
    simp only [Bool.or_eq_true,decide_eq_true_eq] at h2;omega
   obtain⟨f,hf⟩ : ∃ f,1001 - k=f+1:=⟨1000 - k,by omega⟩;rw [hf,rdec,if_pos hkb] at hR;refine Q78 ?_;refine Q9 ?_;refine Q41 und72 ?_;refine Q23 ?_;refine Q2 ?_;refine Q97 ?_;refine Q195 ?_;refine Q185 und72 ?_;refine o_g (G:=true) rfl rfl rfl rfl rfl (fun hG hc=>(q_sub (gv_on (gv_and hG hc) rfl) (gv_on (gv_and hG hc) rfl) (wrap64 (by omega) (by omega)))) ?_;refine Q195 ?_;refine Q185 und72 ?_;refine o_g (G:=true) rfl rfl rfl rfl rfl (fun hG hc=>(q_remn (m:=k - a.length) (n:=b.length) (Eq.trans (gv_on (gv_and hG hc) rfl) (congrArg int (by have h9:=of_decide_eq_true hc;omega))) (Eq.trans (gv_on (gv_and hG hc) rfl) (congrArg int (by omega))) (by have h9:=of_decide_eq_true hc;omega))) ?_;refine o_g (G:=true) rfl rfl rfl rfl rfl (fun hG hc=>(q_eql (gv_on (gv_and hG hc) rfl) rfl)) ?_;refine Q53 ?_;refine Q2 ?_;refine Q97 ?_;refine o_g (G:=true) rfl rfl rfl rfl rfl (fun hG hc=>(q_seql (gv_on (gv_and hG hc) rfl) rfl)) ?_;refine Q53 ?_;refine Q1 ?_;refine s_cond rfl (fun h3=>?_) (fun h3=>?_)
   ·have k3:=h3;try simp only [zs] at k3
    have hc51:((a.length<=k/\(k - a.length) % b.length=0)/\s1=emp):=by
     simp only [Bool.and_eq_true,decide_eq_true_eq] at h3;exact⟨⟨by omega,by omega⟩,h3.2⟩
    rw [if_pos hc51] at hR;refine Q0 ?_;refine Q49 ?_;refine Q42 ?_;refine Q54 ?_;refine s_code_ret ?_;refine Q121 ?_;exact ret_many (.inl rfl) rfl (rl_t rfl (rl_t rfl (rl_nil))) rfl (⟨⟨_,by rw [hok,hR];rfl⟩,zle⟩)
   ·have k3:=h3;try simp only [zs] at k3
    have hc51:¬ ((a.length<=k/\(k - a.length) % b.length=0)/\s1=emp):=fun hh=>by
     obtain⟨⟨g1,g2⟩,g3⟩:=hh;simp only [Bool.and_eq_false_iff,decide_eq_false_iff_not] at h3;rcases h3 with (h|h)|h
     ·exact h (by omega)
     ·exact h (by omega)
     ·exact h g3
    rw [if_neg hc51] at hR;refine Q13 ?_;refine Q15 ?_;refine Q9 ?_;refine Q41 und72 ?_;refine Q84 ?_;refine s_cut (fun S=>∃ T,S=⟨setT (setT (setT (setT (setT (setT T 1 (str s1)) 6 (.sl (a.map int) false)) 7 (.sl (b.map int) false)) 9 (.sl (out.map encIt) true)) 10 (int (k:Nat))) 11 (int (kdOf a b k)),M'⟩) ?_ ?_
    ·refine s_cond rfl (fun h4=>?_) (fun h4=>?_)
     ·have k4:=h4;try simp only [zs] at k4
      refine Q19 ?_;refine Q140 ?_;refine o_q (q_idx und72 sz3 rfl rfl (by omega) (gm k (by first|omega|simp)) rfl) rfl rfl rfl ?_;refine o_q (q_ld ag3 sz3 rfl (gm k (by first|omega|simp)) rfl (v_raw rfl)) rfl rfl rfl ?_;refine Q57 ?_;exact⟨_,St.mkT (kp (kp (kp (kp (kp (kp rfl rfl) rfl) rfl) rfl) rfl) (congrArg int (by unfold kdOf;rw [if_pos (show k<a.length by omega),List.getD_eq_getElem?_getD,List.getElem?_eq_getElem (show k<a.length by omega)];rfl))).symm⟩
     ·have k4:=h4;try simp only [zs] at k4
      refine Q19 ?_;refine Q140 ?_;refine Q41 und72 ?_;refine Q152 ?_;refine Q41 und72 ?_;refine o_q (q_remn (m:=k - a.length) (n:=b.length) (Eq.trans rfl (congrArg int (by omega))) (Eq.trans rfl (congrArg int (by omega))) (by omega)) rfl rfl rfl ?_;refine o_q (q_idx und72 sz3 rfl rfl (by omega) (gm ((k - a.length) % b.length) (Nat.mod_lt _ (by omega))) rfl) rfl rfl rfl ?_;refine o_q (q_ld ag3 sz3 rfl (gm ((k - a.length) % b.length) (Nat.mod_lt _ (by omega))) rfl (v_raw rfl)) rfl rfl rfl ?_;refine Q57 ?_;exact⟨_,St.mkT (kp (kp (kp (kp (kp (kp rfl rfl) rfl) rfl) rfl) rfl) (congrArg int (by unfold kdOf;rw [if_neg (show ¬ k<a.length by omega),List.getD_eq_getElem?_getD,List.getElem?_eq_getElem (show (k - a.length) % b.length<b.length from Nat.mod_lt _ (by omega))];rfl))).symm⟩
    rintro S ⟨T,rfl⟩;refine Q31 ?_;refine Q41 und103 ?_;refine Q129 ?_;refine s_cond rfl (fun h5=>?_) (fun h5=>?_)
    ·have k5:=h5;try simp only [zs] at k5
     rw [if_pos (show out.length=1000 by omega)] at hR;refine Q104 ?_;refine Q54 ?_;refine s_code_ret ?_;refine Q121 ?_;exact ret_many (.inl rfl) rfl (rl_t rfl (rl_t rfl (rl_nil))) rfl (⟨⟨_,by rw [hok,hR];rfl⟩,zle⟩)
    ·have k5:=h5;try simp only [zs] at k5
     rw [if_neg (show ¬ out.length=1000 by omega)] at hR;refine Q71 ?_;refine Q2 ?_;refine o_call (((snd111 (kdOf a b k) s1 _ (by omega)).det)) goes111 (ac (v_raw rfl) (ac (v_raw rfl) ac_nil)) rfl ?_;refine o_q (q_mv (v_tup rfl)) rfl rfl rfl ?_;refine o_q (q_ext rfl rfl (v_agg rfl)) rfl rfl rfl ?_;refine Q79 ?_;refine o_alloc zc106 (fun B1 hB1=>?_);have m1:M B1=none:=zm hB1;refine Q6 sz106 ?_;refine Q26 ?_;refine Q9 ?_;refine Q122 ?_;refine s_cond rfl (fun h6=>?_) (fun h6=>?_)
     ·have k6:=h6;try simp only [zs] at k6
      have he:(takeF (kdOf a b k) s1).2.2≠0:=by simpa using h6
      rw [if_pos he] at hR;refine Q5 ?_;refine Q42 ?_;refine Q54 ?_;refine s_code_ret ?_;refine Q121 ?_;exact ret_many (.inl rfl) rfl (rl_t rfl (rl_t rfl (rl_nil))) rfl (⟨⟨_,by rw [hok,hR];rfl⟩,zle⟩)
     ·have k6:=h6;try simp only [zs] at k6
      have he:(takeF (kdOf a b k) s1).2.2=0:=by simpa using h6
      rw [if_neg (fun h=>h he)] at hR;refine Q92 ?_;refine Q94 ?_;refine Q45 ag106 sz106 ?_;refine Q107 slt103 ?_;refine Q204 slt103 ?_;refine Q128 ?_;refine Q19 ?_;refine Q64 ?_;refine o_q (q_slslo (n:=(takeF (kdOf a b k) s1).2.1) und9 rfl rfl (takeF_le _ _)) rfl rfl rfl ?_;refine Q7 ?_;refine Q88 ?_;refine Q57 ?_;exact⟨1001 - (k+1),by omega,_,_,_,_,k+1,St.mkT (kp (kp (kp (kp (kp rfl rfl) rfl) rfl) (congrArg (fun l=>AVal.sl l true) (List.map_append (f:=encIt) (l₁:=out) (l₂:=[(takeF (kdOf a b k) s1).1])).symm)) rfl).symm,(by rw [hR,show f=1001 - (k+1) by omega]),(by rw [List.length_append,List.length_singleton];omega),by omega,Nat.le_trans (takeF_size _ _) hs1,zle,rfl⟩
  ·have k2:=h2;try simp only [zs] at k2
   have hal:(a.map int).length=a.length:=List.length_map _;have hbl:(b.map int).length=b.length:=List.length_map _;have hkb:¬ (k<a.length\/0<b.length):=by
    simp only [Bool.or_eq_false_iff,decide_eq_false_iff_not] at h2;omega
   obtain⟨f,hf⟩ : ∃ f,1001 - k=f+1:=⟨1000 - k,by omega⟩;rw [hf,rdec,if_neg hkb] at hR;refine Q35 ?_;refine Q9 ?_;refine Q170 ?_;refine Q1 ?_;refine s_cond rfl (fun h7=>?_) (fun h7=>?_)
   ·have k7:=h7;try simp only [zs] at k7
    have he:s1≠({ data:=#[] }:ByteArray):=by simpa using h7
    have he:s1≠emp:=he;rw [if_pos he] at hR;refine Q104 ?_;refine Q11 ?_;exact ret_many (.inl rfl) rfl (rl_t rfl (rl_t rfl (rl_nil))) rfl (⟨⟨_,by rw [hok,hR];rfl⟩,zle⟩)
   ·have k7:=h7;try simp only [zs] at k7
    have he:s1=({ data:=#[] }:ByteArray):=by simpa using h7
    have he:s1=emp:=he;rw [if_neg (fun h=>h he)] at hR;refine Q92 ?_;refine Q49 ?_;refine Q42 ?_;refine Q4 ?_;exact ret_many (.inl rfl) rfl (rl_t rfl (rl_t rfl (rl_nil))) rfl (⟨⟨_,by rw [hok,hR];rfl⟩,zle⟩)
end C17
