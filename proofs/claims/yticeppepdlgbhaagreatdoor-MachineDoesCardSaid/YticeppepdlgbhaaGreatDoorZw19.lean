import Derived.Test.YticeppepdlgbhaaGreatDoorHz
import Derived.Test.YticeppepdlgbhaaGreatDoorZw17
open Go Go.Proofs Go.Am
set_option linter.unusedVariables false
set_option linter.unusedSimpArgs false
set_option autoImplicit false
set_option maxHeartbeats 4000000
set_option maxRecDepth 20000
namespace C17
def tk177r:Nat->Nat->Option Nat:=fun _ _=>none
def pl177r:Nat->List PStep
 | 1=>[.q 0,.q 1,.s 2 [],.q 3,.q 4,.q 5,.q 6,.q 7,.s 8 [6,5,3,1,0],.q 9,.q 10,.q 11,.q 12,.q 13,.q 14,.q 15,.q 16,.q 17,.q 18]
 | 4=>[.q 0,.q 1,.q 2,.s 3 [1,0],.q 4,.q 5,.q 6]
 | 8=>[.q 0,.q 1,.q 2,.q 3,.q 4,.q 5,.q 6,.q 7,.s 8 [6,5,4,3,2,1],.s 9 []]
 | _=>[]
theorem cb177r:Tryz.f177.body.map (codeB Tryz.prog Tryz.f177.ntmps tk177r pl177r)=some true:=by kernel_rfl
theorem uwR:Uw enc 5:=⟨fun _=>rfl,fun _=>rfl,fun _=>rfl,fun a X hX=>by
 simp only [enc,AVal.cells,List.mem_cons,List.not_mem_nil,or_false] at hX;rcases hX with rfl|rfl|rfl|rfl|rfl<;>rfl⟩
theorem ws_of {M M1:Mem}{base:Option Addr}{c:Nat}{l:List Rec}(h:FrW enc zR M M1 base c l):Ws enc 5 M1 (.slice base l.length c) l/\∀ b n,bOf (.slice base n c) b->M b=none:=by
 by_cases e:l=[]
 ·obtain⟨h1,rfl,h3⟩:=h.nil e;exact⟨.inl ⟨base,by rw [e];rfl,h3,e⟩,fun b n ⟨q,c,e2,hc⟩=>by cases e2;exact absurd rfl hc⟩
 ·obtain⟨b,k,rfl,hb,rfl,rfl⟩:=h.new e;exact⟨.inr ⟨b,k,(List.replicate k zR).flatten,rfl,by simp [zR],Mem.upd_self _ _ _⟩,fun b' n ⟨q,c,e2,hc⟩=>by cases e2;exact hb⟩
theorem Ws.take {α:Type}{f:α->AVal}{sz:Nat}{M:Mem}{base:Option Addr}{c j:Nat}{l:List α}(hu:Uw f sz)(h:Ws f sz M (.slice base l.length c) l)(hj:j<=l.length):Ws f sz M (.slice base j c) (l.take j):=by
 rcases h with ⟨base',e,ok,rfl⟩|⟨b,k,R,e,hR,hb⟩
 ·cases e;obtain rfl:j=0:=Nat.le_zero.1 hj;exact .inl ⟨_,rfl,ok,rfl⟩
 ·cases e;refine .inr ⟨b,k+(l.length - j),fl f (l.drop j)++R,?_,?_,?_⟩
  ·rw [List.length_take,Nat.min_eq_left hj];congr 1;omega
  ·rw [List.length_append,fl_len hu.len,List.length_drop,hR,Nat.add_mul];omega
  ·rw [← List.append_assoc,← fl_append,List.take_append_drop];exact hb
theorem snd177r (s:Sb)(t m:Nat)(x:Tp)(many:Int)(M:Mem)(ht:M t=some (.cells (tpC m x)))(hm:M m=some (tpK x))(htm:t≠m)(hs:Sorted x.recs)(hlen:x.recs.length<2^40)(hoff:∀ r∈x.recs,0<=r.off/\r.off<2^60)(hlow:0<=x.low/\x.low<2^60)(hc:(ofS s x && decide (s.nxt<=x.en) && decide (1<=many) && decide (many<=50))=true):SoundCall Tryz.prog 177 [encSb s,ptr t,int many] M fun r M'=>∃ base cp,r = .tup [encSb (pollS s x many).1,.raw (.slice base (pollL s x many).length cp),int 0]/\Ws enc 5 M' (.slice base (pollL s x many).length cp) (pollL s x many)/\(∀ b n,bOf (.slice base n cp) b->M b=none)/\M.le M':=by
 have hrl:=readL_len x.recs s.nxt many;have hsL:Sorted (readL x.recs s.nxt many):=sorted_sub hs (readL_sub _ _ _);have hpl:=(pollL_sub s x many).length_le;have hle:=Mem.le_refl M;refine SoundCall.go tk177r pl177r mixed Tryz.func177 cb177r rfl (Nat.le_of_ble_eq_true rfl) ?_;refine Q0 ?_;refine o_box zbx rfl rfl (fun B1 hB1=>?_);have htm':=htm.symm;have n1:t≠B1:=Mem.fresh_ne hB1 ht;have n2:m≠B1:=Mem.fresh_ne hB1 hm;have n1b:=n1.symm;have n2b:=n2.symm;have m1:M B1=none:=zm hB1;refine o_alloc zc142 (fun B2 hB2=>?_);have n3:t≠B2:=Mem.fresh_ne hB2 (Mem.upd_ne n1 ht);have n4:m≠B2:=Mem.fresh_ne hB2 (Mem.upd_ne n2 hm);have n3b:=n3.symm;have n4b:=n4.symm;have f1_2:B1≠B2:=Mem.fresh_ne hB2 mmQ;have g2_1:B2≠B1:=f1_2.symm;have m2:M B2=none:=zm hB2;refine Q23 ?_;refine Q123 ?_;refine Q84 ?_;refine Q85 ag142 sz142 ?_;refine Q136 ?_;refine Q3 ?_;refine Q252 ?_;refine o_nil ⟨(by simp [Mem.upd, *]),?_⟩;refine Q199 ?_;refine Q5 ?_;refine d_cases (want:=false) (j:=4) rfl rfl (fun h1=>?_) (fun h1=>?_)
 ·have k1:=h1;try simp only [zs] at k1
  refine Q132 fo142_3 h1 ?_;refine Q153 ag3 sz3 h1 ?_;refine Q167 h1 ?_;refine Q3 ?_;refine Q14 h1 ?_;refine Q198 ?_;refine o_nil ⟨(by simp [Mem.upd, *]),?_⟩;refine Q186 h1 ?_;refine Q112 h1 ?_;refine Q5 ?_;refine d_cases (want:=false) (j:=11) rfl rfl (fun h2=>?_) (fun h2=>?_)
  ·have k2:=h2;try simp only [zs] at k2
   refine Q133 h2 ?_;refine Q226 h2 ?_;refine Q112 h2 ?_;refine Q5 ?_;refine d_cases (want:=false) (j:=15) rfl rfl (fun h3=>?_) (fun h3=>?_)
   ·have k3:=h3;try simp only [zs] at k3
    refine Q133 h3 ?_;refine Q186 h3 ?_;refine Q112 h3 ?_;refine d_nil ?_;refine s_cond rfl (fun h4=>?_) (fun h4=>?_)
    ·have k4:=h4;try simp only [zs] at k4
     exfalso;simp_all<;>omega
    ·have k4:=h4;try simp only [zs] at k4
     have hri:rightSb s=true:=by simp_all [ofS]
     have hsl:=rightSb_le hri;refine s_skip ?_;refine Q17 ?_;refine Q12 fo142_3 ag3 sz3 ?_;refine Q1 ?_;refine o_callx ((snd14r t m x s.nxt many _ mmQ hs hlen)) goes14 (ac (mvQ) (ac (v_raw rfl) (ac (v_raw rfl) ac_nil))) rfl ?_;rintro r M3 ⟨base,cp,rfl,hF⟩;obtain⟨hW,hbo⟩:=ws_of hF;have hb1:=hF.le B1 _ (show _=some (.cells [str s.name,str s.topic,int s.cur,int s.nxt]) from mmQ);have hb2:=hF.le B2 _ (show _=some (.cells [str emp,str emp,int 0,int 0]) from mmQ);have ht3:=hF.le t _ (show _=some (.cells (tpC m x)) from mmQ);have hm3:=hF.le m _ (show _=some (tpK x) from mmQ);have hle3:M.le M3:=fun c0 o0 h0=>hF.le c0 o0 ((leN (leN (Mem.le_refl M) m1) m2) c0 o0 h0)
     have hbB:∀ b n,bOf (.slice base n cp) b->b≠B1/\b≠B2/\M b=none:=fun b n hb=>by
      have h:=hbo b n hb;refine⟨fun e=>?_,fun e=>?_,Mem.none_of_le (leN (leN (Mem.le_refl M) m1) m2) h⟩
      ·rw [e] at h;exact absurd (h.symm.trans (show _=some (.cells [str s.name,str s.topic,int s.cur,int s.nxt]) from mmQ)) (by simp)
      ·rw [e] at h;exact absurd (h.symm.trans (show _=some (.cells [str emp,str emp,int 0,int 0]) from mmQ)) (by simp)
     refine Q8 ?_;refine Q84 ?_;refine Q122 fo142_2 ag3 sz3 ?_;refine Q136 ?_;refine Q3 ?_;refine o_call (((snd25 t m x _ mmQ mmQ htm).det)) goes25 (ac (mvQ) ac_nil) rfl ?_;refine o_nil ⟨(by simp [Mem.upd, *]),?_⟩;refine d_q rfl (q_max rfl rfl) rfl rfl rfl ?_;refine Q195 ?_;refine Q60 ?_;refine s_seq ?_;refine s_block ?_;refine s_loop (fun m S=>∃ T,∃ k:Nat,S=⟨setT (setT (setT (setT (setT T 3 (ptr B1)) 6 (ptr B2)) 8 (int 0)) 9 (.raw (.slice base (k:Nat) cp))) 10 (int (edge s x)),M3⟩/\atN (readL x.recs s.nxt many) (edge s x)<=k/\k<=(readL x.recs s.nxt many).length/\k=m) (readL x.recs s.nxt many).length ?_ ?_
     ·exact⟨_,(readL x.recs s.nxt many).length,St.mkT (kp (kp (kp (kp (kp rfl rfl) rfl) rfl) rfl) rfl).symm,atN_le _ _,Nat.le_refl _,rfl⟩
     rintro m S ⟨T,k,rfl,hak,hkl,rfl⟩;refine Q4 ?_;refine Q138 und35 ?_;refine Q61 ?_;refine Q1 ?_;refine o_cases (want:=true) (j:=3) rfl rfl (fun h5=>?_) (fun h5=>?_)
     ·have k5:=h5;try simp only [zs] at k5
      have hk0:0<k:=by have:=of_decide_eq_true h5;omega
      obtain⟨b,kk,R,hv,hR,hb⟩:=hW.get (by omega);cases hv;have hW2:=Ws.take uwR hW hkl;have hpk:=(readL_sub x.recs s.nxt many).subset (List.getElem_mem (show k - 1<(readL x.recs s.nxt many).length by omega));have hjo:=hoff _ hpk;refine Q174 h5 ?_;refine Q32 h5 h5 ?_;refine Q138 und35 ?_;refine Q14 h5 ?_;refine o_q (q_subn (r:=k - 1) (n:=1) rfl rfl (by omega) (by omega)) rfl rfl rfl ?_;refine Q14 h5 ?_;refine Q150 und35 sz39 ?_;refine Q74 h5 fo39_0 h5 ?_;refine o_q (q_ldm ag3 sz3 rfl hb (piece_f1 uwR.len (l:=(readL x.recs s.nxt many)) (j:=k - 1) (q:=0) (by omega) (by decide) (by show 0+(((k - 1:Nat):Int)).toNat*5+0=_;omega) rfl) (v_raw rfl)) rfl rfl rfl ?_;refine Q32 h5 h5 ?_;refine Q24 ?_;refine Q19 h5 ?_;refine o_nil ?_;refine s_cond rfl (fun h6=>?_) (fun h6=>?_)
      ·have k6:=h6;try simp only [zs] at k6
       refine s_skip ?_;refine s_block ?_;refine Q130 ?_;refine Q1 ?_;refine Q138 und35 ?_;refine o_q (q_subn (r:=k - 1) (n:=1) rfl rfl (by omega) (by omega)) rfl rfl rfl ?_;refine o_q (q_slh und35 sz39 rfl rfl (by omega)) rfl rfl rfl ?_;refine Q94 ?_;refine s_inv ?_;refine⟨k - 1,by omega,_,k - 1,St.mkT (kp (kp (kp (kp (kp rfl rfl) rfl) rfl) rfl) rfl).symm,?_,by omega,rfl⟩;rcases Nat.lt_or_ge (k - 1) (atN (readL x.recs s.nxt many) (edge s x)) with h|h
       ·exfalso;obtain⟨hi,h9⟩:=atN_lt h;have h8:=of_decide_eq_true h6;omega
       ·exact h
      ·have k6:=h6;try simp only [zs] at k6
       refine Q26 ?_;refine Q4 ?_;refine Q138 und35 ?_;refine Q149 ?_;refine s_cond rfl (fun h7=>?_) (fun h7=>?_)
       ·have k7:=h7;try simp only [zs] at k7
        refine s_draw rfl ?_;refine d_q rfl (q_ldm ag142 sz142 rfl mmQ rfl (v_agg rfl)) rfl rfl rfl ?_;refine Q5 ?_;refine Q5 ?_;refine d_q rfl (q_lenr rfl und35 rfl) rfl rfl rfl ?_;refine d_q rfl (q_subn (r:=k - 1) (n:=1) rfl rfl (by omega) (by omega)) rfl rfl rfl ?_;refine Q203 und35 sz39 ?_;refine Q40 fo39_0 ?_;refine d_q rfl (q_ldm ag3 sz3 rfl hb (piece_f1 uwR.len (l:=(readL x.recs s.nxt many)) (j:=k - 1) (q:=0) (by omega) (by decide) (by show 0+(((k - 1:Nat):Int)).toNat*5+0=_;omega) rfl) (v_raw rfl)) rfl rfl rfl ?_;refine Q3 ?_;refine o_call (((snd220 s ((readL x.recs s.nxt many)[k - 1]'(by omega)).off s.cur (((readL x.recs s.nxt many)[k - 1]'(by omega)).off+1) 224 _ (fun M=>(snd224 _ _ _ M ⟨hjo.1,by omega⟩).det) goes224).det)) goes220 (ac (v_agg rfl) (ac (v_raw rfl) (ac (v_raw rfl) ac_nil))) rfl ?_;refine o_nil ⟨(by simp [Mem.upd, *]),?_⟩;refine Q3 ?_;refine Q82 sz142 ?_;refine o_nil ⟨(by simp [Mem.upd, *]),?_⟩;refine d_nil ?_;refine Q0 ?_;refine Q165 ag142 sz142 ?_;refine Q1 ?_;refine Q82 sz142 ?_;refine Q27 ?_;refine Q2 ?_;have hka:k=atN (readL x.recs s.nxt many) (edge s x):=by
         rcases Nat.lt_or_ge (atN (readL x.recs s.nxt many) (edge s x)) k with h|h
         ·exfalso;have h9:=atN_ge (off:=edge s x) hsL (i:=k - 1) (by omega) (by omega);have h8:=of_decide_eq_false h6;omega
         ·omega
        have hpl2:pollL s x many=(readL x.recs s.nxt many).take k:=by rw [hka];rfl
        have hpn:(pollL s x many).length=k:=by rw [hpl2,List.length_take];omega
        have hps:pollS s x many=(⟨s.name,s.topic,s.cur,((readL x.recs s.nxt many)[k - 1]'(by omega)).off+1⟩,pollL s x many,0):=by
         unfold pollS;rw [if_pos hc,nxt_last (l:=pollL s x many) (j:=k - 1) (by omega) (by omega)];have:(pollL s x many)[k - 1]'(by omega)=(readL x.recs s.nxt many)[k - 1]'(by omega):=by simp [hpl2]
         rw [this]
        rw [hps,hpn,hpl2];exact ret_many (.inl rfl) rfl (rl_c rfl mmQ (loadP_w ag142 sz142 rfl rfl) rfl (rl_t rfl (rl_t rfl rl_nil))) rfl ⟨_,_,rfl,(Ws.keep hW2 (fun b0 hb0 _=>by obtain⟨e1,e2,-⟩:=hbB b0 _ hb0;simp only [Mem.upd,if_neg e1,if_neg e2]) (by decide)),fun b0 n0 hb0=>(hbB b0 n0 hb0).2.2,(leN (leN hle3 m1) m2)⟩
       ·have k7:=h7;try simp only [zs] at k7
        refine Q142 ?_;refine Q165 ag142 sz142 ?_;refine Q1 ?_;refine Q82 sz142 ?_;refine Q27 ?_;refine Q2 ?_;exfalso;exact absurd h7 (by simp;omega)
     ·have k5:=h5;try simp only [zs] at k5
      have hk0:k=0:=by have:=of_decide_eq_false h5;omega
      refine Q48 h5 h5 h5 h5 ?_;refine Q48 h5 h5 h5 h5 ?_;refine Q120 h5 h5 ?_;refine Q115 ?_;refine Q26 ?_;refine Q4 ?_;refine Q138 und35 ?_;refine Q149 ?_;refine s_cond rfl (fun h8=>?_) (fun h8=>?_)
      ·have k8:=h8;try simp only [zs] at k8
       exfalso;exact absurd (of_decide_eq_true h8) (by omega)
      ·have k8:=h8;try simp only [zs] at k8
       refine Q142 ?_;refine Q165 ag142 sz142 ?_;refine Q1 ?_;refine Q82 sz142 ?_;refine Q27 ?_;refine Q2 ?_;have hka:atN (readL x.recs s.nxt many) (edge s x)=0:=by omega
       have hpl2:pollL s x many=(readL x.recs s.nxt many).take 0:=by unfold pollL;rw [hka]
       have hps:pollS s x many=(s,pollL s x many,0):=by
        unfold pollS;rw [if_pos hc];rw [hpl2];rfl
       rw [hps];subst hk0;have hpn:(pollL s x many).length=0:=by rw [hpl2];rfl
       rw [hpn,hpl2];exact ret_many (.inl rfl) rfl (rl_c rfl mmQ (loadP_w ag142 sz142 rfl rfl) rfl (rl_t rfl (rl_t rfl rl_nil))) rfl ⟨_,_,rfl,(Ws.keep (Ws.take uwR hW (Nat.zero_le _)) (fun b0 hb0 _=>by obtain⟨e1,e2,-⟩:=hbB b0 _ hb0;simp only [Mem.upd,if_neg e2]) (by decide)),fun b0 n0 hb0=>(hbB b0 n0 hb0).2.2,(leN hle3 m2)⟩
   ·have k3:=h3;try simp only [zs] at k3
    refine Q25 h3 h3 ?_;refine Q111 h3 ?_;refine Q139 ?_;refine Q51 ag142 sz142 sz142 ?_;refine Q23 ?_;refine Q10 ?_;exfalso;simp_all<;>omega
  ·have k2:=h2;try simp only [zs] at k2
   refine Q25 h2 h2 ?_;refine Q111 h2 ?_;refine Q5 ?_;refine Q90 ?_;refine Q134 ?_;refine Q139 ?_;refine Q51 ag142 sz142 sz142 ?_;refine Q23 ?_;refine Q10 ?_;exfalso;simp_all<;>omega
 ·have k1:=h1;try simp only [zs] at k1
  refine Q25 h1 h1 ?_;refine Q159 h1 ?_;refine Q3 ?_;refine Q155 h1 ?_;refine o_nil ⟨(by simp [Mem.upd, *]),?_⟩;refine Q159 h1 ?_;refine Q111 h1 ?_;refine Q5 ?_;refine Q90 ?_;refine Q134 ?_;refine Q5 ?_;refine Q90 ?_;refine Q134 ?_;refine Q139 ?_;refine Q51 ag142 sz142 sz142 ?_;refine Q23 ?_;refine Q10 ?_;exfalso;simp_all<;>omega
end C17
