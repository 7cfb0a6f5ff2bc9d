import Derived.Test.YthmhdhmfkegpiaaGreatDoorHz
import Derived.Test.YthmhdhmfkegpiaaGreatDoorNn11
import Derived.Test.YthmhdhmfkegpiaaGreatDoorAmH
import Derived.Test.YthmhdhmfkegpiaaGreatDoorNn1
open Go Go.Proofs Go.Am
set_option linter.unusedVariables false
set_option linter.unusedSimpArgs false
set_option autoImplicit false
set_option maxHeartbeats 4000000
set_option maxRecDepth 20000
namespace C17
theorem dec93l {l:List Itm}{e:Int}{s:ByteArray}(hd:decF shM s=(l,e))(hs:s.size<2^62)(M:Mem):SoundCall Tryz.prog 48 [str shM,str s] M fun r M'=>(∃ o,r = .tup [.sl (l.map encIt) o,int e])/\M.le M':=by
 have h:=dec93 s hs M;rw [hd] at h;exact h
theorem dec92l {l:List Itm}{e:Int}{s:ByteArray}(hd:decF shM s=(l,e))(hs:s.size<2^62)(ge:TypeId)(gf:Nat×Nat)(M:Mem)(hG:M 0=some (szO ge gf)):SoundCall Tryz.prog 47 [str shM,str s] M fun r M'=>(∃ o,r = .tup [.sl (l.map encIt) o,int e])/\M.le M':=by
 have h:=dec92 s hs ge gf M hG;rw [hd] at h;exact h
theorem txt_step {r:List Itm}{j:Nat}(h:j<r.length):((r.take j).map Itm.s).map str++[str r[j].s]=((r.take (j+1)).map Itm.s).map str:=by
 rw [List.take_succ_eq_append_getElem h];simp only [List.map_append];rfl
theorem decM_big {s:ByteArray}{l:List Itm}(hd:decF shM s=(l,0)){i:Nat}(hi:i<10)(h:¬ numI l i<=top53):decM s=(msg0,10):=by
 unfold decM;rw [hd];show (if (0:Int)≠0 then _ else _)=_
 rw [if_neg (fun h=>h rfl)];refine if_neg fun h2=>?_
 have:=List.all_eq_true.1 h2 i (List.mem_range.2 hi);exact h (of_decide_eq_true this)
theorem decM_fit {s:ByteArray}{l:List Itm}(hd:decF shM s=(l,0))(h:∀ i,i<10->numI l i<=top53):decM s=if rightM (msgI l) then (msgI l,0) else (msg0,10):=by
 unfold decM;rw [hd];show (if (0:Int)≠0 then _ else _)=_
 rw [if_neg (fun h=>h rfl)];exact if_pos (List.all_eq_true.2 fun i hi=>decide_eq_true (h i (List.mem_range.1 hi)))
theorem snd15b (s:ByteArray)(hs:s.size<2^62)(M:Mem)(x0 x1 x2 x3 x4 x5 x6 x7 x8 x9 x10:Itm)(r:List Itm)(hd:decF shM s=(x0::x1::x2::x3::x4::x5::x6::x7::x8::x9::x10::r,0))(hr:r.length<=989)(h10:x10.n=0):SoundCall Tryz.prog 15 [str s] M fun r M'=>(r = .tup [encM (decM s).1,int (decM s).2]\/r = .tup [.agg [int 0,int 0,int 0,int 0,int 0,int 0,int 0,int 0,int 0,int 0,str ⟨#[]⟩,.raw (.slice none 0 0)],int (decM s).2]/\(decM s).1=msg0)/\M.le M':=by
 have hlen:(x0::x1::x2::x3::x4::x5::x6::x7::x8::x9::x10::r).length=r.length+11:=rfl;have h53:top53=9007199254740991:=rfl;refine SoundCall.go tk15 pl15 mixed Tryz.func15 cb15 rfl (Nat.le_of_ble_eq_true rfl) ?_;refine Q0 ?_;refine o_alloc zc26 (fun B1 hB1=>?_);refine Q51 ?_;refine o_callx ((dec93l hd hs _)) goes48 (ac (v_raw rfl) (ac (v_raw rfl) ac_nil)) rfl ?_;rintro r0 M2 ⟨⟨o,rfl⟩,hq⟩;have hle:M.le M2:=Mem.le_trans (Mem.le_upd (Mem.le_refl M) hB1) hq;have bm1:=hq B1 _ (Mem.upd_self _ _ _);refine Q37 ?_;refine Q166 ?_;refine Q80 ?_;refine Q42 ?_;refine Q40 ?_;refine Q108 ?_;refine Q83 ?_;refine Q82 ?_;refine Q130 ?_;refine s_loop (fun m S=>∃ T,∃ i:Nat,S=⟨setT (setT (setT T 2 (ptr B1)) 4 (.sl ((x0::x1::x2::x3::x4::x5::x6::x7::x8::x9::x10::r).map encIt) false)) 6 (int (i:Nat)),M2⟩/\i<=11/\(∀ q,∀ h:q<(x0::x1::x2::x3::x4::x5::x6::x7::x8::x9::x10::r).length,q<i->((x0::x1::x2::x3::x4::x5::x6::x7::x8::x9::x10::r)[q].n:Int)<=top53)/\m=11 - i) 11 ?_ ?_
 ·exact⟨_,0,St.mkT (kp (kp (kp rfl rfl) rfl) rfl).symm,Nat.zero_le _,(fun j h h2=>absurd h2 (Nat.not_lt_zero j)),rfl⟩
 rintro m S ⟨T,i,rfl,hi,hlow,rfl⟩;refine Q9 ?_;refine Q84 ?_;refine s_cond rfl (fun h1=>?_) (fun h1=>?_)
 ·have k1:=h1;try simp only [zs] at k1
  have hi2:i<(x0::x1::x2::x3::x4::x5::x6::x7::x8::x9::x10::r).length:=by omega
  refine Q86 ?_;refine Q140 ?_;refine Q73 und103 sz106 ?_;refine Q184 fo106_1 ?_;refine Q134 ag104 sz104 ?_;refine Q102 ?_;refine s_cond rfl (fun h2=>?_) (fun h2=>?_)
  ·have k2:=h2;try simp only [zs] at k2
   refine Q0 ?_;refine Q198 bz26 bp26 ?_;refine Q98 sz26 ?_;refine Q54 ?_;refine Q121 ?_;have hi10:i<10:=by
    rcases Nat.lt_or_ge i 10 with h|h
    ·exact h
    ·exfalso;obtain rfl:i=10:=by omega
     have:(x10.n:Int) > 9007199254740991:=k2;omega
   have e:=decM_big hd hi10 (fun h=>by
    have e1:(x0::x1::x2::x3::x4::x5::x6::x7::x8::x9::x10::r).getD i zIt=(x0::x1::x2::x3::x4::x5::x6::x7::x8::x9::x10::r)[i]:=by rw [List.getD_eq_getElem?_getD,List.getElem?_eq_getElem hi2];rfl
    unfold numI at h;rw [e1] at h;omega)
   exact ret_many (.inl rfl) rfl (rl_c rfl mmQ (loadP_w ag26 sz26 rfl rfl) rfl (rl_t rfl rl_nil)) rfl ⟨.inr ⟨by rw [e];rfl,by rw [e]⟩,(by repeat first|exact hle|exact Mem.le_refl _|assumption|exact Mem.none_of_le hle (by assumption)|exact n2|refine Mem.le_upd ?_ ?_)⟩
  ·have k2:=h2;try simp only [zs] at k2
   refine Q13 ?_;refine Q88 ?_;refine Q57 ?_;exact⟨11 - (i+1),by omega,_,i+1,St.mkT (kp (kp (kp rfl rfl) rfl) rfl).symm,by omega,(fun q h h2'=>(Nat.lt_succ_iff_lt_or_eq.1 h2').elim (fun h3=>hlow q h h3) fun e=>by subst e;omega),rfl⟩
 ·have k1:=h1;try simp only [zs] at k1
  obtain rfl:i=11:=by omega
  have f0':(((x0::x1::x2::x3::x4::x5::x6::x7::x8::x9::x10::r)[0]'(by omega)).n:Int)<=top53:=hlow 0 (by omega) (by omega);have g0:(x0.n:Int)<=top53:=f0';have f1':(((x0::x1::x2::x3::x4::x5::x6::x7::x8::x9::x10::r)[1]'(by omega)).n:Int)<=top53:=hlow 1 (by omega) (by omega);have g1:(x1.n:Int)<=top53:=f1';have f2':(((x0::x1::x2::x3::x4::x5::x6::x7::x8::x9::x10::r)[2]'(by omega)).n:Int)<=top53:=hlow 2 (by omega) (by omega);have g2:(x2.n:Int)<=top53:=f2';have f3':(((x0::x1::x2::x3::x4::x5::x6::x7::x8::x9::x10::r)[3]'(by omega)).n:Int)<=top53:=hlow 3 (by omega) (by omega);have g3:(x3.n:Int)<=top53:=f3';have f4':(((x0::x1::x2::x3::x4::x5::x6::x7::x8::x9::x10::r)[4]'(by omega)).n:Int)<=top53:=hlow 4 (by omega) (by omega);have g4:(x4.n:Int)<=top53:=f4';have f5':(((x0::x1::x2::x3::x4::x5::x6::x7::x8::x9::x10::r)[5]'(by omega)).n:Int)<=top53:=hlow 5 (by omega) (by omega);have g5:(x5.n:Int)<=top53:=f5';have f6':(((x0::x1::x2::x3::x4::x5::x6::x7::x8::x9::x10::r)[6]'(by omega)).n:Int)<=top53:=hlow 6 (by omega) (by omega);have g6:(x6.n:Int)<=top53:=f6';have f7':(((x0::x1::x2::x3::x4::x5::x6::x7::x8::x9::x10::r)[7]'(by omega)).n:Int)<=top53:=hlow 7 (by omega) (by omega);have g7:(x7.n:Int)<=top53:=f7';have f8':(((x0::x1::x2::x3::x4::x5::x6::x7::x8::x9::x10::r)[8]'(by omega)).n:Int)<=top53:=hlow 8 (by omega) (by omega);have g8:(x8.n:Int)<=top53:=f8';have f9':(((x0::x1::x2::x3::x4::x5::x6::x7::x8::x9::x10::r)[9]'(by omega)).n:Int)<=top53:=hlow 9 (by omega) (by omega);have g9:(x9.n:Int)<=top53:=f9';have f10':(((x0::x1::x2::x3::x4::x5::x6::x7::x8::x9::x10::r)[10]'(by omega)).n:Int)<=top53:=hlow 10 (by omega) (by omega);have g10:(x10.n:Int)<=top53:=f10';have hfit:=decM_fit hd (fun i hi=>by
   match i,hi with
   | 0,_=>exact g0
   | 1,_=>exact g1
   | 2,_=>exact g2
   | 3,_=>exact g3
   | 4,_=>exact g4
   | 5,_=>exact g5
   | 6,_=>exact g6
   | 7,_=>exact g7
   | 8,_=>exact g8
   | 9,_=>exact g9)
  refine Q35 ?_;refine Q91 ?_;refine Q58 ?_;refine d_q rfl (q_idx und103 sz106 rfl rfl (by omega) (gm 0 (by first|omega|simp)) rfl) rfl rfl rfl ?_;refine Q72 fo106_1 ?_;refine d_q rfl (q_ld ag104 sz104 rfl (gm 0 (by first|omega|simp)) rfl (v_raw rfl)) rfl rfl rfl ?_;refine Q142 und104 und3 ?_;refine Q58 ?_;refine d_q rfl (q_idx und103 sz106 rfl rfl (by omega) (gm 1 (by first|omega|simp)) rfl) rfl rfl rfl ?_;refine Q72 fo106_1 ?_;refine d_q rfl (q_ld ag104 sz104 rfl (gm 1 (by first|omega|simp)) rfl (v_raw rfl)) rfl rfl rfl ?_;refine Q142 und104 und3 ?_;refine Q58 ?_;refine d_q rfl (q_idx und103 sz106 rfl rfl (by omega) (gm 2 (by first|omega|simp)) rfl) rfl rfl rfl ?_;refine Q72 fo106_1 ?_;refine d_q rfl (q_ld ag104 sz104 rfl (gm 2 (by first|omega|simp)) rfl (v_raw rfl)) rfl rfl rfl ?_;refine Q142 und104 und3 ?_;refine Q58 ?_;refine d_q rfl (q_idx und103 sz106 rfl rfl (by omega) (gm 3 (by first|omega|simp)) rfl) rfl rfl rfl ?_;refine Q72 fo106_1 ?_;refine d_q rfl (q_ld ag104 sz104 rfl (gm 3 (by first|omega|simp)) rfl (v_raw rfl)) rfl rfl rfl ?_;refine Q142 und104 und3 ?_;refine Q58 ?_;refine d_q rfl (q_idx und103 sz106 rfl rfl (by omega) (gm 4 (by first|omega|simp)) rfl) rfl rfl rfl ?_;refine Q72 fo106_1 ?_;refine d_q rfl (q_ld ag104 sz104 rfl (gm 4 (by first|omega|simp)) rfl (v_raw rfl)) rfl rfl rfl ?_;refine Q142 und104 und3 ?_;refine Q58 ?_;refine d_q rfl (q_idx und103 sz106 rfl rfl (by omega) (gm 5 (by first|omega|simp)) rfl) rfl rfl rfl ?_;refine Q72 fo106_1 ?_;refine d_q rfl (q_ld ag104 sz104 rfl (gm 5 (by first|omega|simp)) rfl (v_raw rfl)) rfl rfl rfl ?_;refine Q142 und104 und3 ?_;refine Q58 ?_;refine d_q rfl (q_idx und103 sz106 rfl rfl (by omega) (gm 6 (by first|omega|simp)) rfl) rfl rfl rfl ?_;refine Q72 fo106_1 ?_;refine d_q rfl (q_ld ag104 sz104 rfl (gm 6 (by first|omega|simp)) rfl (v_raw rfl)) rfl rfl rfl ?_;refine Q142 und104 und3 ?_;refine Q58 ?_;refine d_q rfl (q_idx und103 sz106 rfl rfl (by omega) (gm 7 (by first|omega|simp)) rfl) rfl rfl rfl ?_;refine Q72 fo106_1 ?_;refine d_q rfl (q_ld ag104 sz104 rfl (gm 7 (by first|omega|simp)) rfl (v_raw rfl)) rfl rfl rfl ?_;refine Q142 und104 und3 ?_;refine Q189 bz23 bp23 fo23_0 fo23_1 ?_;refine Q58 ?_;refine d_q rfl (q_idx und103 sz106 rfl rfl (by omega) (gm 8 (by first|omega|simp)) rfl) rfl rfl rfl ?_;refine Q72 fo106_1 ?_;refine d_q rfl (q_ld ag104 sz104 rfl (gm 8 (by first|omega|simp)) rfl (v_raw rfl)) rfl rfl rfl ?_;refine Q142 und104 und3 ?_;refine Q58 ?_;refine d_q rfl (q_idx und103 sz106 rfl rfl (by omega) (gm 9 (by first|omega|simp)) rfl) rfl rfl rfl ?_;refine Q72 fo106_1 ?_;refine d_q rfl (q_ld ag104 sz104 rfl (gm 9 (by first|omega|simp)) rfl (v_raw rfl)) rfl rfl rfl ?_;refine Q142 und104 und3 ?_;refine Q189 bz23 bp23 fo23_0 fo23_1 ?_;refine Q58 ?_;refine d_q rfl (q_idx und103 sz106 rfl rfl (by omega) (gm 10 (by first|omega|simp)) rfl) rfl rfl rfl ?_;refine Q72 fo106_2 ?_;refine d_q rfl (q_ld ag9 sz9 rfl (gm 10 (by first|omega|simp)) rfl (v_raw rfl)) rfl rfl rfl ?_;refine Q274 bz26 bp26 fo26_0 fo26_1 fo26_2 fo26_3 fo26_4 fo26_5 fo26_6 fo26_7 fo26_8 ?_;refine Q3 ?_;refine o_alloc zc26 (fun B2 hB2=>?_);have f12:B1≠B2:=Mem.fresh_ne hB2 bm1;have f21:=f12.symm;have n2:M B2=none:=Mem.none_of_le hle hB2;refine o_nil ⟨(by simp [Mem.upd, *]),?_⟩;refine Q3 ?_;refine o_storewN rfl mmQ mfQ rfl sz26 rfl rfl rfl rfl rfl ?_;refine o_nil ⟨(by simp [Mem.upd, *]),?_⟩;refine Q153 ?_;refine Q130 ?_;refine s_loop (fun m S=>∃ T,∃ Mc:Mem,∃ j:Nat,S=⟨setT (setT (setT (setT T 2 (ptr B1)) 4 (.sl ((x0::x1::x2::x3::x4::x5::x6::x7::x8::x9::x10::r).map encIt) false)) 7 (ptr B2)) 8 (int ((j+11:Nat):Int)),Mc⟩/\Mc B1=some (.cells [int 0,int 0,int 0,int 0,int 0,int 0,int 0,int 0,int 0,int 0,str ⟨#[]⟩,.sl [] true])/\Mc B2=some (.cells [int (x0.n:Nat),int (x1.n:Nat),int (x2.n:Nat),int (x3.n:Nat),int (x4.n:Nat),int (x5.n:Nat),int (x6.n:Nat),int (x7.n:Nat),int (x8.n:Nat),int (x9.n:Nat),str x10.s,.sl (((r.take j).map Itm.s).map str) true])/\M.le Mc/\j<=r.length/\m=r.length - j) r.length ?_ ?_
  ·exact⟨_,_,0,St.mkT (kp (kp (kp (kp rfl rfl) rfl) rfl) rfl).symm,mmQ,mmQ,(by repeat first|exact hle|exact Mem.le_refl _|assumption|exact Mem.none_of_le hle (by assumption)|exact n2|refine Mem.le_upd ?_ ?_),Nat.zero_le _,rfl⟩
  rintro m S ⟨T,Mc,j,rfl,hc1,hc2,hle,hj,rfl⟩;refine Q9 ?_;refine Q41 und103 ?_;refine Q84 ?_;refine s_cond rfl (fun h3=>?_) (fun h3=>?_)
  ·have k3:=h3;try simp only [zs] at k3
   have hj2:j<r.length:=by omega
   refine Q78 ?_;refine s_draw rfl ?_;refine Q22 fo26_9 ?_;refine Q58 ?_;refine Q14 ?_;refine d_q rfl (q_idx und103 sz106 rfl rfl (by omega) (gm (j+11) (by first|omega|simp)) rfl) rfl rfl rfl ?_;refine Q72 fo106_2 ?_;refine d_q rfl (q_ld ag9 sz9 rfl (gm (j+11) (by first|omega|simp)) rfl (v_raw rfl)) rfl rfl rfl ?_;refine d_q rfl (q_bs slt24 (pc (v_raw rfl) pn) rfl (Els.cons rfl rfl Els.nil) (by decide)) rfl rfl rfl ?_;refine Q3 ?_;refine Q137 ag24 sz24 ?_;refine o_nil ⟨(by simp [Mem.upd, *]),?_⟩;refine d_qs rfl (q_app slt24 rfl rfl rfl rfl (by first|exact Els.cons rfl rfl Els.nil|exact elsStr|exact Els.map fun _=>⟨rfl,rfl⟩) (by first|exact (by first|exact Els.cons rfl rfl Els.nil|exact elsStr|exact Els.map fun _=>⟨rfl,rfl⟩)|exact Els.cons rfl rfl Els.nil) (by simp;omega)) rfl rfl rfl rfl ?_;refine Q22 fo26_9 ?_;refine Q3 ?_;refine Q112 sz24 ?_;refine o_nil ⟨(by simp [Mem.upd, *]),?_⟩;refine d_nil ?_;refine Q88 ?_;refine Q57 ?_;exact⟨r.length - (j+1),by omega,_,_,j+1,St.mkT (kp (kp (kp (kp rfl rfl) rfl) rfl) rfl).symm,mmQ,(by rw [← txt_step hj2];exact Mem.upd_self _ _ _),(by repeat first|exact hle|exact Mem.le_refl _|assumption|exact Mem.none_of_le hle (by assumption)|exact n2|refine Mem.le_upd ?_ ?_),by omega,rfl⟩
  ·have k3:=h3;try simp only [zs] at k3
   have htk:r.take j=r:=List.take_of_length_le (by omega);refine Q117 ?_;refine Q87 ag26 sz26 ?_;refine o_call ((SoundCall.deep (args:=[.agg [int (x0.n:Nat),int (x1.n:Nat),int (x2.n:Nat),int (x3.n:Nat),int (x4.n:Nat),int (x5.n:Nat),int (x6.n:Nat),int (x7.n:Nat),int (x8.n:Nat),int (x9.n:Nat),str x10.s,.sl (((r.take j).map Itm.s).map str) true]]) (snd18 (msgI (x0::x1::x2::x3::x4::x5::x6::x7::x8::x9::x10::r.take j)) _ (by show ((r.take j).map Itm.s).length<_;rw [List.length_map,List.length_take];omega)).det)) goes18 (ac (v_agg rfl) ac_nil) rfl ?_;refine Q40 ?_;refine Q59 ?_;refine s_cond rfl (fun h4=>?_) (fun h4=>?_)
   ·have k4:=h4;try simp only [zs] at k4
    refine Q0 ?_;refine Q198 bz26 bp26 ?_;refine Q98 sz26 ?_;refine Q11 ?_;rw [htk] at h4;have e:decM s=(msg0,10):=by rw [hfit,if_neg (by simpa using h4)]
    exact ret_many (.inl rfl) rfl (rl_c rfl mmQ (loadP_w ag26 sz26 rfl rfl) rfl (rl_t rfl rl_nil)) rfl ⟨.inr ⟨by rw [e];rfl,by rw [e]⟩,(by repeat first|exact hle|exact Mem.le_refl _|assumption|exact Mem.none_of_le hle (by assumption)|exact n2|refine Mem.le_upd ?_ ?_)⟩
   ·have k4:=h4;try simp only [zs] at k4
    refine Q92 ?_;refine Q87 ag26 sz26 ?_;refine Q98 sz26 ?_;refine Q4 ?_;rw [htk] at h4;have e:decM s=(msgI (x0::x1::x2::x3::x4::x5::x6::x7::x8::x9::x10::r),0):=by rw [hfit,if_pos (by simpa using h4)]
    exact ret_many (.inl rfl) rfl (rl_c rfl mmQ (loadP_w ag26 sz26 rfl rfl) rfl (rl_t rfl rl_nil)) rfl ⟨.inl (by rw [e,htk];rfl),(by repeat first|exact hle|exact Mem.le_refl _|assumption|exact Mem.none_of_le hle (by assumption)|exact n2|refine Mem.le_upd ?_ ?_)⟩
end C17
