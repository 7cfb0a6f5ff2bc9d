import Derived.Test.YthmhdhmfkegpiaaGreatDoorHz
import Derived.Test.YthmhdhmfkegpiaaGreatDoorNn12
import Derived.Test.YthmhdhmfkegpiaaGreatDoorAmH
open Go Go.Proofs Go.Am
set_option linter.unusedVariables false
set_option linter.unusedSimpArgs false
set_option autoImplicit false
set_option maxHeartbeats 4000000
set_option maxRecDepth 20000
namespace C17
theorem und117:Tryz.prog.underlying 117=some (.array 10 3):=by kernel_rfl
theorem zc117:zeroCellsT Tryz.prog 117=some [.raw (.int .i64 0),.raw (.int .i64 0),.raw (.int .i64 0),.raw (.int .i64 0),.raw (.int .i64 0),.raw (.int .i64 0),.raw (.int .i64 0),.raw (.int .i64 0),.raw (.int .i64 0),.raw (.int .i64 0)]:=by kernel_rfl
def nums (l:List Itm)(i:Nat):List AVal:=(List.range 10).map fun q=>if q<i then int (numI l q) else int 0
theorem nums_put {l:List Itm}{i o:Nat}(hi:i<10)(hl:i<l.length)(ho:o=i):splice (nums l i) o [int ((l[i].n:Nat):Int)]=nums l (i+1):=by
 have e:l[i]=l.getD i zIt:=by rw [List.getD_eq_getElem?_getD,List.getElem?_eq_getElem hl];rfl
 rw [e];subst ho;clear hl e;show splice (nums l o) o [int (numI l o)]=_
 match o,hi with
 | 0,_=>rfl
 | 1,_=>rfl
 | 2,_=>rfl
 | 3,_=>rfl
 | 4,_=>rfl
 | 5,_=>rfl
 | 6,_=>rfl
 | 7,_=>rfl
 | 8,_=>rfl
 | 9,_=>rfl
theorem nums_len (l:List Itm)(i:Nat):(nums l i).length=10:=by unfold nums;simp
theorem snd14b (s:ByteArray)(hs:s.size<2^62)(ge:TypeId)(gf:Nat×Nat)(M:Mem)(hG:M 0=some (szO ge gf))(x0 x1 x2 x3 x4 x5 x6 x7 x8 x9 x10:Itm)(r:List Itm)(hd:decF shM s=(x0::x1::x2::x3::x4::x5::x6::x7::x8::x9::x10::r,0))(hr:r.length<=989)(h10:x10.n=0):SoundCall Tryz.prog 14 [str s] M fun r M'=>(r = .tup [encM (decM s).1,int (decM s).2]\/r = .tup [.agg [int 0,int 0,int 0,int 0,int 0,int 0,int 0,int 0,int 0,int 0,str ⟨#[]⟩,.raw (.slice none 0 0)],int (decM s).2]/\(decM s).1=msg0)/\M.le M':=by
 have hlen:(x0::x1::x2::x3::x4::x5::x6::x7::x8::x9::x10::r).length=r.length+11:=rfl;have h53:top53=9007199254740991:=rfl;refine SoundCall.go tk14 pl14 mixed Tryz.func14 cb14 rfl (Nat.le_of_ble_eq_true rfl) ?_;refine Q0 ?_;refine o_alloc zc26 (fun B1 hB1=>?_);refine Q51 ?_;refine o_callx ((dec92l hd hs ge gf _ (Mem.le_upd (Mem.le_refl M) hB1 0 _ hG))) goes47 (ac (v_raw rfl) (ac (v_raw rfl) ac_nil)) rfl ?_;rintro r0 M2 ⟨⟨o,rfl⟩,hq⟩;have hle:M.le M2:=Mem.le_trans (Mem.le_upd (Mem.le_refl M) hB1) hq;have bm1:=hq B1 _ (Mem.upd_self _ _ _);refine Q37 ?_;refine Q166 ?_;refine Q80 ?_;refine Q42 ?_;refine Q40 ?_;refine Q108 ?_;refine Q83 ?_;refine Q92 ?_;refine o_alloc zc117 (fun B2 hB2=>?_);have f12:B1≠B2:=Mem.fresh_ne hB2 bm1;have f21:=f12.symm;have n2:M B2=none:=Mem.none_of_le hle hB2;refine Q1 ?_;refine Q9 ?_;refine Q147 ?_;refine s_loop (fun m S=>∃ T,∃ Mc:Mem,∃ i:Nat,S=⟨setT (setT (setT (setT T 2 (ptr B1)) 4 (.sl ((x0::x1::x2::x3::x4::x5::x6::x7::x8::x9::x10::r).map encIt) false)) 6 (ptr B2)) 20 (int (i:Nat)),Mc⟩/\Mc B1=some (.cells [int 0,int 0,int 0,int 0,int 0,int 0,int 0,int 0,int 0,int 0,str ⟨#[]⟩,.sl [] true])/\Mc B2=some (.cells (nums (x0::x1::x2::x3::x4::x5::x6::x7::x8::x9::x10::r) i))/\M.le Mc/\i<=10/\(∀ q,∀ h:q<(x0::x1::x2::x3::x4::x5::x6::x7::x8::x9::x10::r).length,q<i->((x0::x1::x2::x3::x4::x5::x6::x7::x8::x9::x10::r)[q].n:Int)<=top53)/\m=10 - i) 10 ?_ ?_
 ·exact⟨_,_,0,St.mkT (kp (kp (kp (kp rfl rfl) rfl) rfl) rfl).symm,mmQ,mmQ,(by repeat first|exact hle|exact Mem.le_refl _|assumption|exact Mem.none_of_le hle (by assumption)|exact n2|exact n3|exact n4|refine Mem.le_upd ?_ ?_),Nat.zero_le _,(fun j h h2=>absurd h2 (Nat.not_lt_zero j)),rfl⟩
 rintro m S ⟨T,Mc,i,rfl,hc1,hc2,hle,hi,hlow,rfl⟩;refine Q50 ?_;refine s_cond rfl (fun h1=>?_) (fun h1=>?_)
 ·have k1:=h1;try simp only [zs] at k1
  have hi2:i<(x0::x1::x2::x3::x4::x5::x6::x7::x8::x9::x10::r).length:=by omega
  have hi9:i<10:=by omega
  have hnl:=nums_len (x0::x1::x2::x3::x4::x5::x6::x7::x8::x9::x10::r) i;refine Q78 ?_;refine Q5 ?_;refine Q127 ?_;refine Q140 ?_;refine Q73 und103 sz106 ?_;refine Q184 fo106_1 ?_;refine Q134 ag104 sz104 ?_;refine Q102 ?_;refine s_cond rfl (fun h2=>?_) (fun h2=>?_)
  ·have k2:=h2;try simp only [zs] at k2
   refine Q0 ?_;refine Q198 bz26 bp26 ?_;refine Q98 sz26 ?_;refine Q54 ?_;refine s_code_ret ?_;refine Q121 ?_;have e:=decM_big hd hi9 (fun h=>by
    have e1:(x0::x1::x2::x3::x4::x5::x6::x7::x8::x9::x10::r).getD i zIt=(x0::x1::x2::x3::x4::x5::x6::x7::x8::x9::x10::r)[i]:=by rw [List.getD_eq_getElem?_getD,List.getElem?_eq_getElem hi2];rfl
    unfold numI at h;rw [e1] at h;omega)
   exact ret_many (.inl rfl) rfl (rl_c rfl mmQ (loadP_w ag26 sz26 rfl rfl) rfl (rl_t rfl rl_nil)) rfl ⟨.inr ⟨by rw [e];rfl,by rw [e]⟩,(by repeat first|exact hle|exact Mem.le_refl _|assumption|exact Mem.none_of_le hle (by assumption)|exact n2|exact n3|exact n4|refine Mem.le_upd ?_ ?_)⟩
  ·have k2:=h2;try simp only [zs] at k2
   refine Q13 ?_;refine Q144 ?_;refine Q140 ?_;refine Q73 und103 sz106 ?_;refine Q184 fo106_1 ?_;refine Q134 ag104 sz104 ?_;refine Q232 und104 und3 ?_;refine Q178 und117 sz3 ?_;refine o_store rfl mmQ meQ rfl sz3 rfl (by rw [hnl];simp;omega) rfl (nums_put (o:=0+((i:Nat):Int).toNat*1) hi9 hi2 (by omega)) ?_;refine Q1 ?_;refine Q36 ?_;exact⟨10 - (i+1),by omega,_,_,i+1,St.mkT (kp (kp (kp (kp rfl rfl) rfl) rfl) rfl).symm,mmQ,Mem.upd_self _ _ _,(by repeat first|exact hle|exact Mem.le_refl _|assumption|exact Mem.none_of_le hle (by assumption)|exact n2|exact n3|exact n4|refine Mem.le_upd ?_ ?_),by omega,(fun q h h2'=>(Nat.lt_succ_iff_lt_or_eq.1 h2').elim (fun h3=>hlow q h h3) fun e=>by subst e;omega),rfl⟩
 ·have k1:=h1;try simp only [zs] at k1
  obtain rfl:i=10:=by omega
  have f0':(((x0::x1::x2::x3::x4::x5::x6::x7::x8::x9::x10::r)[0]'(by omega)).n:Int)<=top53:=hlow 0 (by omega) (by omega);have g0:(x0.n:Int)<=top53:=f0';have f1':(((x0::x1::x2::x3::x4::x5::x6::x7::x8::x9::x10::r)[1]'(by omega)).n:Int)<=top53:=hlow 1 (by omega) (by omega);have g1:(x1.n:Int)<=top53:=f1';have f2':(((x0::x1::x2::x3::x4::x5::x6::x7::x8::x9::x10::r)[2]'(by omega)).n:Int)<=top53:=hlow 2 (by omega) (by omega);have g2:(x2.n:Int)<=top53:=f2';have f3':(((x0::x1::x2::x3::x4::x5::x6::x7::x8::x9::x10::r)[3]'(by omega)).n:Int)<=top53:=hlow 3 (by omega) (by omega);have g3:(x3.n:Int)<=top53:=f3';have f4':(((x0::x1::x2::x3::x4::x5::x6::x7::x8::x9::x10::r)[4]'(by omega)).n:Int)<=top53:=hlow 4 (by omega) (by omega);have g4:(x4.n:Int)<=top53:=f4';have f5':(((x0::x1::x2::x3::x4::x5::x6::x7::x8::x9::x10::r)[5]'(by omega)).n:Int)<=top53:=hlow 5 (by omega) (by omega);have g5:(x5.n:Int)<=top53:=f5';have f6':(((x0::x1::x2::x3::x4::x5::x6::x7::x8::x9::x10::r)[6]'(by omega)).n:Int)<=top53:=hlow 6 (by omega) (by omega);have g6:(x6.n:Int)<=top53:=f6';have f7':(((x0::x1::x2::x3::x4::x5::x6::x7::x8::x9::x10::r)[7]'(by omega)).n:Int)<=top53:=hlow 7 (by omega) (by omega);have g7:(x7.n:Int)<=top53:=f7';have f8':(((x0::x1::x2::x3::x4::x5::x6::x7::x8::x9::x10::r)[8]'(by omega)).n:Int)<=top53:=hlow 8 (by omega) (by omega);have g8:(x8.n:Int)<=top53:=f8';have f9':(((x0::x1::x2::x3::x4::x5::x6::x7::x8::x9::x10::r)[9]'(by omega)).n:Int)<=top53:=hlow 9 (by omega) (by omega);have g9:(x9.n:Int)<=top53:=f9';have hfit:=decM_fit hd (fun i hi=>by
   match i,hi with
   | 0,_=>exact g0
   | 1,_=>exact g1
   | 2,_=>exact g2
   | 3,_=>exact g3
   | 4,_=>exact g4
   | 5,_=>exact g5
   | 6,_=>exact g6
   | 7,_=>exact g7
   | 8,_=>exact g8
   | 9,_=>exact g9)
  have hm2:Mc B2=some (.cells [int (x0.n:Nat),int (x1.n:Nat),int (x2.n:Nat),int (x3.n:Nat),int (x4.n:Nat),int (x5.n:Nat),int (x6.n:Nat),int (x7.n:Nat),int (x8.n:Nat),int (x9.n:Nat)]):=hc2;clear hc2;refine Q35 ?_;refine Q91 ?_;refine Q155 und117 sz3 ?_;refine Q157 ag3 sz3 ?_;refine Q155 und117 sz3 ?_;refine Q157 ag3 sz3 ?_;refine Q155 und117 sz3 ?_;refine Q157 ag3 sz3 ?_;refine Q155 und117 sz3 ?_;refine Q157 ag3 sz3 ?_;refine Q155 und117 sz3 ?_;refine Q157 ag3 sz3 ?_;refine Q155 und117 sz3 ?_;refine Q157 ag3 sz3 ?_;refine Q155 und117 sz3 ?_;refine Q157 ag3 sz3 ?_;refine Q155 und117 sz3 ?_;refine Q157 ag3 sz3 ?_;refine Q189 bz23 bp23 fo23_0 fo23_1 ?_;refine Q155 und117 sz3 ?_;refine Q157 ag3 sz3 ?_;refine Q155 und117 sz3 ?_;refine Q157 ag3 sz3 ?_;refine Q189 bz23 bp23 fo23_0 fo23_1 ?_;refine Q58 ?_;refine d_q rfl (q_idx und103 sz106 rfl rfl (by omega) (gm 10 (by first|omega|simp)) rfl) rfl rfl rfl ?_;refine Q72 fo106_2 ?_;refine d_q rfl (q_ld ag9 sz9 rfl (gm 10 (by first|omega|simp)) rfl (v_raw rfl)) rfl rfl rfl ?_;refine Q274 bz26 bp26 fo26_0 fo26_1 fo26_2 fo26_3 fo26_4 fo26_5 fo26_6 fo26_7 fo26_8 ?_;refine Q3 ?_;refine o_alloc zc26 (fun B3 hB3=>?_);have f13:B1≠B3:=Mem.fresh_ne hB3 hc1;have f31:=f13.symm;have f23:B2≠B3:=Mem.fresh_ne hB3 hm2;have f32:=f23.symm;have n3:M B3=none:=Mem.none_of_le hle hB3;refine o_nil ⟨(by simp [Mem.upd, *]),?_⟩;refine Q3 ?_;refine o_storewN rfl mmQ mfQ rfl sz26 rfl rfl rfl rfl rfl ?_;refine o_nil ⟨(by simp [Mem.upd, *]),?_⟩;refine Q153 ?_;refine Q49 ?_;refine o_q (q_slice und103 sz106 rfl (Els.map fun _=>⟨rfl,rfl⟩) (ab rfl rfl) ab_none (by simp) (Nat.le_refl _)) rfl rfl rfl ?_;refine Q85 und103 ?_;refine Q52 ?_;refine s_loop (fun m S=>∃ T,∃ Mc:Mem,∃ j:Nat,S=⟨setT (setT (setT (setT (setT T 2 (ptr B1)) 8 (ptr B3)) 67 (.sl (r.map encIt) false)) 68 (int (r.length:Nat))) 69 (int (j:Nat)),Mc⟩/\Mc B1=some (.cells [int 0,int 0,int 0,int 0,int 0,int 0,int 0,int 0,int 0,int 0,str ⟨#[]⟩,.sl [] true])/\Mc B3=some (.cells [int (x0.n:Nat),int (x1.n:Nat),int (x2.n:Nat),int (x3.n:Nat),int (x4.n:Nat),int (x5.n:Nat),int (x6.n:Nat),int (x7.n:Nat),int (x8.n:Nat),int (x9.n:Nat),str x10.s,.sl (((r.take j).map Itm.s).map str) true])/\M.le Mc/\j<=r.length/\m=r.length - j) r.length ?_ ?_
  ·exact⟨_,_,0,St.mkT (kp (kp (kp (kp (kp rfl rfl) rfl) (congrArg (fun q=>AVal.sl q false) (show _=r.map encIt by rw [List.take_length];rfl))) (congrArg (fun q:Nat=>int (q:Int)) (show _=r.length by rw [List.take_length];simp))) rfl).symm,mmQ,mmQ,(by repeat first|exact hle|exact Mem.le_refl _|assumption|exact Mem.none_of_le hle (by assumption)|exact n2|exact n3|exact n4|refine Mem.le_upd ?_ ?_),Nat.zero_le _,rfl⟩
  rintro m S ⟨T,Mc,j,rfl,hc1,hc3,hle,hj,rfl⟩;refine Q50 ?_;refine s_cond rfl (fun h3=>?_) (fun h3=>?_)
  ·have k3:=h3;try simp only [zs] at k3
   have hj2:j<r.length:=by omega
   refine Q86 ?_;refine o_q (q_idx und103 sz106 rfl rfl (by omega) (gm j (by first|omega|simp)) rfl) rfl rfl rfl ?_;refine o_q (q_lde ag106 sz106 rfl (gm j (by first|omega|simp)) rfl rfl) rfl rfl rfl ?_;refine o_alloc zc106 (fun B4 hB4=>?_);have f14:B1≠B4:=Mem.fresh_ne hB4 hc1;have f41:=f14.symm;have f34:B3≠B4:=Mem.fresh_ne hB4 hc3;have f43:=f34.symm;have n4:M B4=none:=Mem.none_of_le hle hB4;refine Q118 sz106 ?_;refine Q19 ?_;refine Q29 fo26_9 ?_;refine Q137 ag24 sz24 ?_;refine Q12 fo106_2 ag9 sz9 ?_;refine Q165 slt24 ?_;refine Q273 slt24 ?_;refine Q29 fo26_9 ?_;refine Q112 sz24 ?_;refine Q1 ?_;refine Q36 ?_;exact⟨r.length - (j+1),by omega,_,_,j+1,St.mkT (kp (kp (kp (kp (kp rfl rfl) rfl) rfl) rfl) rfl).symm,mmQ,(by rw [← txt_step hj2];exact Mem.upd_self _ _ _),(by repeat first|exact hle|exact Mem.le_refl _|assumption|exact Mem.none_of_le hle (by assumption)|exact n2|exact n3|exact n4|refine Mem.le_upd ?_ ?_),by omega,rfl⟩
  ·have k3:=h3;try simp only [zs] at k3
   have htk:r.take j=r:=List.take_of_length_le (by omega);refine Q35 ?_;refine Q31 ?_;refine Q87 ag26 sz26 ?_;refine o_call ((SoundCall.deep (args:=[.agg [int (x0.n:Nat),int (x1.n:Nat),int (x2.n:Nat),int (x3.n:Nat),int (x4.n:Nat),int (x5.n:Nat),int (x6.n:Nat),int (x7.n:Nat),int (x8.n:Nat),int (x9.n:Nat),str x10.s,.sl (((r.take j).map Itm.s).map str) true]]) (snd17 (msgI (x0::x1::x2::x3::x4::x5::x6::x7::x8::x9::x10::r.take j)) _ (by show ((r.take j).map Itm.s).length<_;rw [List.length_map,List.length_take];omega)).det)) goes17 (ac (v_agg rfl) ac_nil) rfl ?_;refine Q59 ?_;refine s_cond rfl (fun h4=>?_) (fun h4=>?_)
   ·have k4:=h4;try simp only [zs] at k4
    refine Q0 ?_;refine Q198 bz26 bp26 ?_;refine Q98 sz26 ?_;refine Q11 ?_;rw [htk] at h4;have e:decM s=(msg0,10):=by rw [hfit,if_neg (by simpa using h4)]
    exact ret_many (.inl rfl) rfl (rl_c rfl mmQ (loadP_w ag26 sz26 rfl rfl) rfl (rl_t rfl rl_nil)) rfl ⟨.inr ⟨by rw [e];rfl,by rw [e]⟩,(by repeat first|exact hle|exact Mem.le_refl _|assumption|exact Mem.none_of_le hle (by assumption)|exact n2|exact n3|exact n4|refine Mem.le_upd ?_ ?_)⟩
   ·have k4:=h4;try simp only [zs] at k4
    refine Q92 ?_;refine Q87 ag26 sz26 ?_;refine Q98 sz26 ?_;refine Q4 ?_;rw [htk] at h4;have e:decM s=(msgI (x0::x1::x2::x3::x4::x5::x6::x7::x8::x9::x10::r),0):=by rw [hfit,if_pos (by simpa using h4)]
    exact ret_many (.inl rfl) rfl (rl_c rfl mmQ (loadP_w ag26 sz26 rfl rfl) rfl (rl_t rfl rl_nil)) rfl ⟨.inl (by rw [e,htk];rfl),(by repeat first|exact hle|exact Mem.le_refl _|assumption|exact Mem.none_of_le hle (by assumption)|exact n2|exact n3|exact n4|refine Mem.le_upd ?_ ?_)⟩
end C17
