import Derived.Test.YthmhdhmfkegpiaaGreatDoorHz
import Derived.Test.YthmhdhmfkegpiaaGreatDoorNt0
open Go Go.Proofs Go.Am
set_option linter.unusedVariables false
set_option linter.unusedSimpArgs false
set_option autoImplicit false
set_option maxHeartbeats 4000000
set_option maxRecDepth 20000
namespace C17
theorem slt178:SlT Tryz.prog 178 5 1 1:=⟨by kernel_rfl,by kernel_rfl,by kernel_rfl,by kernel_rfl,by decide⟩
theorem und24:Tryz.prog.underlying 24=some (.slice 9):=by kernel_rfl
def tk104:Nat->Nat->Option Nat:=fun _ _=>none
def pl104:Nat->List PStep:=fun _=>[]
theorem cb104:Tryz.f104.body.map (codeB Tryz.prog Tryz.f104.ntmps tk104 pl104)=some true:=by kernel_rfl
theorem goes104:goesB Tryz.prog 104=true:=by kernel_rfl
theorem snd104 (M0 M:Mem)(v:Value)(l:List UInt8)(hB:Bs M v l)(hle:M0.le M)(hfr:Own1 M0 M v)(n size:Nat)(hn:n<2^64)(hs:size<=8)(hl:l.length<=2^40):SoundCall Tryz.prog 104 [.raw v,u64 n,int (size:Nat)] M fun r' M'=>∃ v',r' = .raw v'/\Bs M' v' (l++lowB n size)/\M0.le M'/\Own1 M0 M' v':=by
 have hlo:=lowB_len n size;obtain⟨base,c,hv⟩:=hB.len;subst hv;refine SoundCall.go tk104 pl104 mixed Tryz.func104 cb104 rfl (Nat.le_of_ble_eq_true rfl) ?_;refine Q0 ?_;refine o_q (q_as ((by first|exact v_raw rfl|exact v_sl rfl))) rfl rfl rfl ?_;refine Q1 ?_;refine Q9 ?_;refine Q152 ?_;refine o_q (q_mul rfl rfl (wrap64 (by omega) (by omega))) rfl rfl rfl ?_;refine Q130 ?_;refine s_loop (fun m S=>∃ T,∃ M':Mem,∃ v:Value,∃ l':List UInt8,∃ i:Nat,S=⟨setT (setT (setT (setT T 0 (.raw v)) 1 (u64 n)) 2 (int (size:Nat))) 7 (int (8*((i:Nat):Int) - 8)),M'⟩/\Bs M' v l'/\M0.le M'/\Own1 M0 M' v/\l'++lowB n i=l++lowB n size/\i<=size/\m=i+0) size ?_ ?_
 ·exact⟨_,_,_,l,size,St.mkT (kp (kp (kp (kp rfl rfl) rfl) rfl) (congrArg int (by omega))).symm,hB,hle,hfr,rfl,Nat.le_refl _,rfl⟩
 rintro m S ⟨T,M',v,l',i,rfl,hB',hle',hfr',hll,hi,hmi⟩;have hln:=congrArg List.length hll;rw [List.length_append,List.length_append,lowB_len,lowB_len] at hln;obtain⟨base',c',hv'⟩:=hB'.len;subst hv';refine Q9 ?_;refine Q23 ?_;refine Q1 ?_;refine s_cond rfl (fun h1=>?_) (fun h1=>?_)
 ·have k1:=h1;try simp only [zs] at k1
  obtain⟨j,rfl⟩ : ∃ j,i=j+1:=⟨i - 1,by omega⟩;have hlj:=lowB_len n (j+1);refine Q78 ?_;refine Q19 ?_;refine Q64 ?_;refine Q2 ?_;refine o_q (q_shru (n:=8*j) rfl (show int (8*((j+1:Nat):Int) - 8)=int ((8*j:Nat):Int) from congrArg int (by omega)) (by omega)) rfl rfl rfl ?_;refine o_q (q_i2iw und104 und5 rfl (u8_wrapm _)) rfl rfl rfl ?_;refine Q165 slt178 ?_;refine o_appb (l:=l') (m:=[UInt8.ofNat (n / 256^j % 256)]) (M0:=M0) slt178 rfl zc5 rfl hB' hle' hfr' (srcb_sl slt178 rfl rfl (show AVal.sl [AVal.raw (.int .u8 ((n / 2^(8*j) % 256:Nat):Int))] _=_ by rw [shl8,← ofNat_toNat];rfl)) (by simp;omega) (fun v2 M2 hB2 hle2 hfr2=>?_);refine Q7 ?_;refine s_blk_normal ?_;refine s_region ?_;refine Q2 ?_;refine Q152 ?_;refine Q57 ?_;exact⟨j,(by omega),_,_,v2,_,j,St.mkT (kp (kp (kp (kp rfl rfl) rfl) rfl) (congrArg int (by omega))).symm,hB2,hle2,hfr2,(lowB_one n j l').trans hll,by omega,rfl⟩
 ·have k1:=h1;try simp only [zs] at k1
  obtain rfl:i=0:=by omega
  refine Q35 ?_;refine Q5 ?_;refine Q4 ?_;exact⟨_,rfl,(by rw [← hll];show Bs M' _ (l'++[]);rw [List.append_nil];exact hB'),hle',hfr'⟩
def tk42:Nat->Nat->Option Nat:=fun _ _=>none
def pl42:Nat->List PStep
 | 14=>[.q 0,.q 1,.q 2,.q 3,.q 4,.q 6,.q 7,.s 5 [0,1,2,3,4,6,7],.s 8 [0,1,2,3,4,6,7],.q 9]
 | _=>[]
theorem cb42:Tryz.f42.body.map (codeB Tryz.prog Tryz.f42.ntmps tk42 pl42)=some true:=by kernel_rfl
theorem goes42:goesB Tryz.prog 42=true:=by kernel_rfl
theorem snd42 (l:List Itm)(o:Bool)(ge:TypeId)(gf:Nat×Nat)(M:Mem)(hG:M 0=some (szO ge gf))(hl:l.length<=1000)(h:∀ x∈l,okI x):SoundCall Tryz.prog 42 [.sl (l.map encIt) o] M fun r M'=>r = .tup [str (encAll l),int 0]/\M.le M':=by
 have hlw:(l.map encIt).length=l.length:=List.length_map _;refine SoundCall.go tk42 pl42 mixed Tryz.func42 cb42 rfl (Nat.le_of_ble_eq_true rfl) ?_;refine Q0 ?_;refine Q26 ?_;refine Q31 ?_;refine Q41 und103 ?_;refine Q102 ?_;refine Q101 ?_;refine Q92 ?_;refine o_asnil ?_;refine Q48 ?_;refine Q41 und103 ?_;refine Q52 ?_;refine s_loop (fun m S=>∃ T,∃ M':Mem,∃ v:Value,∃ i:Nat,S=⟨setT (setT (setT (setT T 4 (.raw v)) 11 (.sl (l.map encIt) false)) 12 (int (l.length:Nat))) 13 (int (i:Nat)),M'⟩/\M.le M'/\Bs M' v (encAll (l.take i)).data.toList/\Own1 M M' v/\i<=l.length/\m=l.length - i) l.length ?_ ?_
 ·exact⟨_,_,.slice none 0 0,0,St.mkT (kp (kp (kp (kp rfl rfl) rfl) (congrArg (fun n:Nat=>int (n:Int)) hlw)) rfl).symm,Mem.le_refl M,.inl ⟨none,rfl,.inl rfl,rfl⟩,(fun b ⟨n,c,e,_,_⟩=>by cases e),Nat.zero_le _,rfl⟩
 rintro m S ⟨T,M',v,i,rfl,hle',hB',hfr',hi,rfl⟩;obtain⟨base',c',hv'⟩:=hB'.len;subst hv';refine Q50 ?_;refine s_cond rfl (fun h1=>?_) (fun h1=>?_)
 ·have k1:=h1;try simp only [zs] at k1
  have hi2:i<l.length:=by omega
  have ho:=h l[i] (List.getElem_mem hi2);have hk:=okI_kind ho;have hsz:=encAll_size l h i hi;have hsz2:(encAll (l.take i)).data.toList.length=(encAll (l.take i)).size:=rfl;refine Q86 ?_;refine Q73 und103 sz106 ?_;refine Q177 ag106 sz106 ?_;refine o_alloc zc106 (fun B1 hB1=>?_);have hu:=put_up (B:=B1) (o:=.cells [int l[i].kind,u64 l[i].n,str l[i].s]) (o1:=.cells [int 0,u64 0,str emp]) hB' hle' hfr' hB1;refine Q6 sz106 ?_;refine Q48 ?_;refine Q12 fo106_0 ag3 sz3 ?_;refine Q109 ?_;refine Q17 fo106_0 ag3 sz3 ?_;refine Q68 ?_;refine Q1 ?_;refine s_cond rfl (fun h2=>?_) (fun h2=>?_)
  ·have k2:=h2;try simp only [zs] at k2
   exfalso;simp at h2;omega
  ·have k2:=h2;try simp only [zs] at k2
   refine Q82 ?_;refine Q12 fo106_0 ag3 sz3 ?_;refine Q129 ?_;refine s_cond rfl (fun h3=>?_) (fun h3=>?_)
   ·have k3:=h3;try simp only [zs] at k3
    have ht:=okI_text ho (by simpa using h3);have hk4:l[i].kind=4:=by simpa using h3
    refine Q31 ?_;refine Q12 fo106_1 ag104 sz104 ?_;refine Q122 ?_;refine s_cond rfl (fun h4=>?_) (fun h4=>?_)
    ·have k4:=h4;try simp only [zs] at k4
     exfalso;simp [ht.1] at h4
    ·have k4:=h4;try simp only [zs] at k4
     refine Q82 ?_;refine Q12 fo106_2 ag9 sz9 ?_;refine Q61 und9 ?_;refine Q102 ?_;refine s_cond rfl (fun h5=>?_) (fun h5=>?_)
     ·have k5:=h5;try simp only [zs] at k5
      exfalso;simp at h5;omega
     ·have k5:=h5;try simp only [zs] at k5
      refine Q76 ?_;refine s_draw rfl ?_;refine Q14 ?_;refine Q77 fo106_2 ag9 sz9 ?_;refine d_q rfl (q_lens rfl und9 rfl) rfl rfl rfl ?_;refine d_q rfl (q_i2i und3 und104 rfl (u64_wrap (by omega) (by omega))) rfl rfl rfl ?_;refine Q77 fo106_2 ag9 sz9 ?_;refine Q3 ?_;refine o_callx ((snd104 (M.upd B1 (.cells [int l[i].kind,u64 l[i].n,str l[i].s])) _ _ _ hu.1 hu.2.1 hu.2.2 l[i].s.size 4 (by omega) (by omega) (by omega))) goes104 (ac (v_raw rfl) (ac (v_raw rfl) (ac (v_raw rfl) ac_nil))) rfl ?_;rintro r M3 ⟨v3,rfl,hB3,hle3,hfr3⟩;have hd:=put_down (Mem.none_of_le hle' hB1) hle3 hfr3;have hb1:=hd.2.2;have hln3:=hB3.len;refine o_nil ⟨(by simp [Mem.upd, *];try rfl),?_⟩;refine Q3 ?_;refine o_appb (l:=(encAll (l.take i)).data.toList++lowB l[i].s.size 4) (m:=l[i].s.data.toList) (M0:=M.upd B1 (.cells [int l[i].kind,u64 l[i].n,str l[i].s])) slt178 rfl zc5 rfl hB3 hle3 hfr3 (srcb_str slt178 rfl rfl und9 rfl) (by rw [List.length_append,lowB_len];show _+l[i].s.size<=_;omega) (fun v4 M4 hB4 hle4 hfr4=>?_);have hd4:=put_down (Mem.none_of_le hle' hB1) hle4 hfr4;have hb4:=hd4.2.2;refine o_nil ⟨(by simp [Mem.upd, *];try rfl),?_⟩;refine Q96 ?_;refine s_exit ?_;refine s_code_exit ?_;refine s_blk_here ?_;refine Q19 ?_;refine Q113 ?_;refine o_q (q_mv (v_raw rfl)) rfl rfl rfl ?_;refine o_nil ?_;refine s_inv ?_;exact⟨l.length - (i+1),by omega,_,_,v4,i+1,St.mkT (kp (kp (kp (kp rfl rfl) rfl) rfl) rfl).symm,hd4.1,(by rw [enc_succ hi2,bytI_tx hk4,← List.append_assoc];exact hB4),hd4.2.1,by omega,rfl⟩
   ·have k3:=h3;try simp only [zs] at k3
    have hk4:l[i].kind≠4:=by simpa using h3
    have hnm:=okI_num ho hk4;refine Q13 ?_;refine Q27 fo106_0 ag3 sz3 ?_;refine Q178 und180 sz3 ?_;refine o_q (q_ldg ag3 sz3 rfl (by repeat first|exact hle' 0 _ hG|refine Mem.upd_ne (Mem.ne_none (hle' 0 _ hG) hB1) ?_) (gpiece (k:=l[i].kind) (by omega) (by omega) (by omega)) (v_raw rfl)) rfl rfl rfl ?_;refine Q127 ?_;refine Q12 fo106_2 ag9 sz9 ?_;refine Q170 ?_;refine Q2 ?_;refine Q97 ?_;refine Q105 ?_;refine Q191 ?_;refine Q192 fo106_1 ?_;refine Q205 ag104 sz104 ?_;refine o_g rfl rfl rfl rfl rfl (fun hG hc=>(q_mv (v_raw rfl))) ?_;refine o_g rfl rfl rfl rfl rfl (fun hG hc=>(q_mul rfl (gv_on (gv_and hG hc) rfl) (wrap64 (by omega) (by omega)))) ?_;refine o_g rfl rfl rfl rfl rfl (fun hG hc=>(q_shru (n:=8*szK l[i].kind) (gv_on (gv_and hG hc) rfl) (gv_on (gv_and hG hc) rfl) (by omega))) ?_;refine o_g rfl rfl rfl rfl rfl (fun hG hc=>(q_gtr (gv_on (gv_and hG hc) rfl) rfl)) ?_;refine Q228 ?_;refine Q44 ?_;refine Q1 ?_;refine s_cond rfl (fun h6=>?_) (fun h6=>?_)
    ·have k6:=h6;try simp only [zs] at k6
     exfalso;simp [hnm.1,hnm.2.1] at h6;exact h6 rfl
    ·have k6:=h6;try simp only [zs] at k6
     refine Q13 ?_;refine Q144 ?_;refine Q12 fo106_1 ag104 sz104 ?_;refine Q2 ?_;refine o_callx ((snd104 (M.upd B1 (.cells [int l[i].kind,u64 l[i].n,str l[i].s])) _ _ _ hu.1 hu.2.1 hu.2.2 l[i].n (szK l[i].kind) hnm.2.2.1 hnm.2.2.2 (by omega))) goes104 (ac (v_raw rfl) (ac (v_raw rfl) (ac (v_raw rfl) ac_nil))) rfl ?_;rintro r M3 ⟨v3,rfl,hB3,hle3,hfr3⟩;have hd:=put_down (Mem.none_of_le hle' hB1) hle3 hfr3;have hb1:=hd.2.2;have hln3:=hB3.len;refine o_q (q_as ((by first|exact v_raw rfl|exact v_sl rfl))) rfl rfl rfl ?_;refine Q1 ?_;refine Q36 ?_;exact⟨l.length - (i+1),by omega,_,_,v3,i+1,St.mkT (kp (kp (kp (kp rfl rfl) rfl) rfl) rfl).symm,hd.1,(by rw [enc_succ hi2,bytI_nm hk4];exact hB3),hd.2.1,by omega,rfl⟩
 ·have k1:=h1;try simp only [zs] at k1
  obtain rfl:i=l.length:=by omega
  refine Q35 ?_;refine Q5 ?_;refine o_b2sB und178 und9 und5 b2s178_9 rfl hB' rfl ?_;refine Q28 ?_;refine Q4 ?_;exact ret_many (.inl rfl) rfl (rl_t rfl (rl_t rfl rl_nil)) rfl ⟨by show AVal.tup [str ⟨(encAll (l.take l.length)).data.toList.toArray⟩,_]=_;rw [List.take_length];rfl,hle'⟩
end C17
