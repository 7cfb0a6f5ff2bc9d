import Derived.Test.YticeppepdlgbhaaGreatDoorHz
import Derived.Test.YticeppepdlgbhaaGreatDoorZw5
open Go Go.Proofs Go.Am
set_option linter.unusedVariables false
set_option linter.unusedSimpArgs false
set_option autoImplicit false
set_option maxHeartbeats 4000000
set_option maxRecDepth 20000
namespace C17
theorem slt133:SlT Tryz.prog 133 28 1 8:=⟨by kernel_rfl,by kernel_rfl,by kernel_rfl,by kernel_rfl,by decide⟩
def tk76:Nat->Nat->Option Nat
 | 8,0=>some 0
 | 9,0=>some 0
 | 9,8=>some 0
 | 10,0=>some 0
 | 10,6=>some 0
 | 11,1=>some 0
 | _,_=>none
def pl76:Nat->List PStep
 | 6=>[.q 0,.q 1,.q 2,.q 3,.q 4,.q 5,.q 6,.q 7,.q 8,.q 9,.q 10,.q 11,.q 12,.q 13,.q 14,.q 15,.q 16,.q 17,.q 18,.q 19,.q 20,.q 21]
 | _=>[]
theorem cb76:Tryz.f76.body.map (codeB Tryz.prog Tryz.f76.ntmps tk76 pl76)=some true:=by kernel_rfl
theorem goes76:goesB Tryz.prog 76=true:=by kernel_rfl
theorem snd76a (d:Nat)(yd:ByteArray->Nat)(x:Mc)(vs:Value)(o1 o3:Bool)(c:Cmd)(M:Mem)(hd:M d=some (.cells (rmC yd x vs o1 o3)))(ht:Tps M yd x)(hL:(nmL x).length<=20)(hin:c.topic∈nmL x):SoundCall Tryz.prog 76 [ptr d,encC c] M fun r M'=>r = .agg [int 4,int 0,.raw (.slice none 0 0)]/\M.le M':=by
 have hle:=Mem.le_refl M;refine SoundCall.go tk76 pl76 mixed Tryz.func76 cb76 rfl (Nat.le_of_ble_eq_true rfl) ?_;refine Q0 ?_;refine o_box zbx rfl rfl (fun B1 hB1=>?_);have cd1:d≠B1:=Mem.fresh_ne hB1 hd;have cd1b:=cd1.symm;have m1:M B1=none:=zm hB1;refine o_alloc zc56 (fun B2 hB2=>?_);have cd2:d≠B2:=Mem.fresh_ne hB2 (Mem.upd_ne cd1 hd);have cd2b:=cd2.symm;have f1_2:B1≠B2:=Mem.fresh_ne hB2 mmQ;have g2_1:B2≠B1:=f1_2.symm;have m2:M B2=none:=zm hB2;refine Q11 ?_;refine Q17 ?_;refine Q12 fo49_1 ag9 sz9 ?_;refine Q268 ?_;refine o_q (q_pneq und28 rfl rfl) rfl rfl rfl ?_;refine Q71 ?_;refine Q0 ?_;refine Q135 bz56 bp56 fo56_0 ?_;refine Q64 sz56 ?_;exact ret_cell (.inl rfl) rfl rfl mmQ (loadP_w ag56 sz56 rfl rfl) (⟨rfl,leN (leN (leN (Mem.le_refl M) m1) m2) m2⟩)
def tk76b:Nat->Nat->Option Nat
 | 8,0=>some 0
 | 9,0=>some 0
 | 9,8=>some 0
 | 10,0=>some 0
 | 10,6=>some 0
 | 11,1=>some 0
 | _,_=>none
def pl76b:Nat->List PStep
 | 6=>[.q 0,.q 1,.q 2,.q 3,.q 4,.q 5,.q 6,.q 7,.q 8,.q 9,.q 10,.q 11,.q 12,.q 13,.q 14,.q 15,.q 16,.q 17,.q 18,.q 19,.q 20,.q 21]
 | _=>[]
theorem cb76b:Tryz.f76.body.map (codeB Tryz.prog Tryz.f76.ntmps tk76b pl76b)=some true:=by kernel_rfl
theorem snd76b (d:Nat)(yd:ByteArray->Nat)(x:Mc)(vs:Value)(o1 o3:Bool)(c:Cmd)(M:Mem)(hd:M d=some (.cells (rmC yd x vs o1 o3)))(ht:Tps M yd x)(hL:(nmL x).length<=20)(hin:c.topic ∉ nmL x)(hn:20<=(nmL x).length):SoundCall Tryz.prog 76 [ptr d,encC c] M fun r M'=>r = .agg [int 3,int 0,.raw (.slice none 0 0)]/\M.le M':=by
 have hle:=Mem.le_refl M;have hml:((nmL x).map fun k=>ptr (yd k)).length=(nmL x).length:=List.length_map _;refine SoundCall.go tk76b pl76b mixed Tryz.func76 cb76b rfl (Nat.le_of_ble_eq_true rfl) ?_;refine Q0 ?_;refine o_box zbx rfl rfl (fun B1 hB1=>?_);have cd1:d≠B1:=Mem.fresh_ne hB1 hd;have cd1b:=cd1.symm;have m1:M B1=none:=zm hB1;refine o_alloc zc56 (fun B2 hB2=>?_);have cd2:d≠B2:=Mem.fresh_ne hB2 (Mem.upd_ne cd1 hd);have cd2b:=cd2.symm;have f1_2:B1≠B2:=Mem.fresh_ne hB2 mmQ;have g2_1:B2≠B1:=f1_2.symm;have m2:M B2=none:=zm hB2;refine Q11 ?_;refine Q17 ?_;refine Q12 fo49_1 ag9 sz9 ?_;refine Q236 ?_;refine o_q (q_pneq und28 rfl rfl) rfl rfl rfl ?_;refine Q141 ?_;refine Q95 fo136_0 ?_;refine Q124 ag133 sz133 ?_;refine Q75 und133 ?_;refine Q24 ?_;refine o_nil ?_;refine Q148 ?_;refine Q0 ?_;refine Q135 bz56 bp56 fo56_0 ?_;refine Q64 sz56 ?_;exact ret_cell (.inl rfl) rfl rfl mmQ (loadP_w ag56 sz56 rfl rfl) (⟨rfl,leN (leN (leN (Mem.le_refl M) m1) m2) m2⟩)
def tk76c:Nat->Nat->Option Nat
 | 8,0=>some 0
 | 9,0=>some 0
 | 9,8=>some 0
 | 10,0=>some 0
 | 10,6=>some 0
 | 11,1=>some 0
 | _,_=>none
def pl76c:Nat->List PStep
 | 6=>[.q 0,.q 1,.q 2,.q 3,.q 4,.q 5,.q 6,.q 7,.q 8,.q 9,.q 10,.q 11,.q 12,.q 13,.q 14,.q 15,.q 16,.q 17,.q 18,.q 19,.q 20,.q 21]
 | _=>[]
theorem cb76c:Tryz.f76.body.map (codeB Tryz.prog Tryz.f76.ntmps tk76c pl76c)=some true:=by kernel_rfl
theorem snd76c (d:Nat)(yd:ByteArray->Nat)(x:Mc)(vs:Value)(o1 o3:Bool)(c:Cmd)(M:Mem)(hd:M d=some (.cells (rmC yd x vs o1 o3)))(ht:Tps M yd x)(hL:(nmL x).length<=20)(hin:c.topic ∉ nmL x)(hn:(nmL x).length<20)(hw:word c.topic=true):SoundCall Tryz.prog 76 [ptr d,encC c] M fun r M'=>∃ y,M y=none/\r = .agg [int 0,int 0,.raw (.slice none 0 0)]/\M' y=some (.cells (ryC ⟨c.topic,0,0,[],[]⟩ [] true true))/\M' d=some (.cells (.sl (((nmL x).take (findN (nP x) c.topic)).map (fun k=>ptr (yd k))++ptr y::((nmL x).drop (findN (nP x) c.topic)).map (fun k=>ptr (yd k))) true::(rmC yd x vs o1 o3).drop 1))/\Kept M M' d:=by
 have hle:=Mem.le_refl M;have hwz:=word_le hw;have hml:((nmL x).map (fun k=>ptr (yd k))).length=(nmL x).length:=List.length_map _;refine SoundCall.go tk76c pl76c mixed Tryz.func76 cb76c rfl (Nat.le_of_ble_eq_true rfl) ?_;refine Q0 ?_;refine o_box zbx rfl rfl (fun B1 hB1=>?_);have cd1:d≠B1:=Mem.fresh_ne hB1 hd;have cd1b:=cd1.symm;have m1:M B1=none:=zm hB1;refine o_alloc zc56 (fun B2 hB2=>?_);have cd2:d≠B2:=Mem.fresh_ne hB2 (Mem.upd_ne cd1 hd);have cd2b:=cd2.symm;have f1_2:B1≠B2:=Mem.fresh_ne hB2 mmQ;have g2_1:B2≠B1:=f1_2.symm;have m2:M B2=none:=zm hB2;refine Q11 ?_;refine Q17 ?_;refine Q12 fo49_1 ag9 sz9 ?_;refine Q236 ?_;refine o_q (q_pneq und28 rfl rfl) rfl rfl rfl ?_;refine Q141 ?_;refine Q95 fo136_0 ?_;refine Q124 ag133 sz133 ?_;refine Q75 und133 ?_;refine Q24 ?_;refine o_nil ?_;refine Q49 ?_;refine s_skip ?_;refine Q18 ?_;refine s_seq ?_;refine s_block ?_;refine s_loop (fun m S=>∃ T,∃ M1:Mem,∃ k:Nat,S=⟨setT (setT (setT (setT T 0 (ptr d)) 3 (ptr B1)) 4 (ptr B2)) 5 (int (k:Nat)),M1⟩/\M1 d=some (.cells (rmC yd x vs o1 o3))/\M1 B1=some (.cells [int c.kind,str c.topic,str c.name,int c.seq,str c.key,str c.val,int c.n,int c.node,int c.ask])/\M1 B2=some (.cells [int 0,int 0,.sl [] true])/\Tps M1 yd x/\M.le M1/\(∀ j,∀ h:j<(nmL x).length,j<k->(nmL x)[j].data.toList<c.topic.data.toList)/\k<=(nmL x).length/\m=(nmL x).length - k) (nmL x).length ?_ ?_
 ·exact⟨_,_,0,St.mkT (kp (kp (kp (kp rfl rfl) rfl) rfl) rfl).symm,mmQ,mmQ,Mem.upd_self _ _ _,tps_le ht (leN (leN (Mem.le_refl M) m1) m2),(leN (leN (Mem.le_refl M) m1) m2),fun j h hj=>absurd hj (Nat.not_lt_zero j),by omega,rfl⟩
 rintro m S ⟨T,M1,k,rfl,hd1,hb1,hb2,ht1,hle1,hlow,hk,rfl⟩;refine s_seq ?_;refine Q84 ?_;refine Q5 ?_;refine Q147 ?_;refine Q40 fo136_0 ?_;refine Q169 ag133 sz133 ?_;refine d_q rfl (q_len rfl und133 rfl) rfl rfl rfl ?_;refine d_q rfl (q_lss rfl rfl) rfl rfl rfl ?_;refine Q5 ?_;refine d_cases (want:=true) (j:=7) rfl rfl (fun h1=>?_) (fun h1=>?_)
 ·have k1:=h1;try simp only [zs] at k1
  have hk2:k<(nmL x).length:=by simpa using h1
  obtain⟨y0,P0,q1,q2,hyn,hy0⟩:=ht1 _ (List.getElem_mem hk2);refine Q167 h1 ?_;refine Q182 h1 ?_;refine Q132 fo136_0 h1 ?_;refine Q261 ag133 sz133 h1 ?_;refine Q133 h1 ?_;refine Q232 und133 sz28 h1 ?_;refine d_yes rfl (q_ld ag28 sz28 rfl (gm k (by first|omega|simp)) rfl (mvQ)) rfl rfl rfl h1 rfl rfl ?_;refine Q182 h1 ?_;refine Q132 fo44_0 h1 ?_;refine Q153 ag9 sz9 h1 ?_;refine Q132 fo49_1 h1 ?_;refine Q153 ag9 sz9 h1 ?_;refine d_yes rfl (q_slss rfl rfl) rfl rfl rfl h1 rfl rfl ?_;refine Q111 h1 ?_;refine d_nil ?_;refine s_cond rfl (fun h2=>?_) (fun h2=>?_)
  ·have k2:=h2;try simp only [zs] at k2
   refine s_skip ?_;refine s_block ?_;refine Q227 ?_;refine Q94 ?_;refine s_inv ?_;exact⟨(nmL x).length - (k+1),by omega,_,M1,k+1,St.mkT (kp (kp (kp (kp rfl rfl) rfl) rfl) rfl).symm,hd1,hb1,hb2,ht1,hle1,(fun j h hj=>by
    rcases Nat.lt_or_ge j k with g|g
    ·exact hlow j h g
    ·obtain rfl:j=k:=by omega
     rw [← hyn];exact of_decide_eq_true h2),by omega,rfl⟩
  ·have k2:=h2;try simp only [zs] at k2
   refine Q26 ?_;refine Q0 ?_;refine Q86 ?_;refine Q42 ?_;refine Q38 ?_;refine Q62 fo136_0 ?_;refine Q116 ag133 sz133 ?_;refine o_q (q_sl_hi (n:=k) und133 sz28 rfl elsPtr (ab rfl rfl) (by omega)) rfl rfl rfl ?_;refine o_qs (q_app slt133 rfl rfl rfl rfl (by repeat first|exact elsPtr|exact Els.nil|exact Els.cons rfl rfl Els.nil|refine Els.append ?_ ?_) (by first|exact (by repeat first|exact elsPtr|exact Els.nil|exact Els.cons rfl rfl Els.nil|refine Els.append ?_ ?_)|exact Els.cons rfl rfl Els.nil) (by simp;omega)) rfl rfl rfl rfl ?_;refine Q164 ?_;refine Q42 ?_;refine Q38 ?_;refine Q12 fo49_1 ag9 sz9 ?_;refine o_callx ((newD _ hw (by omega))) goes10 (ac (v_raw rfl) ac_nil) rfl ?_;rintro r M2 ⟨y,ny0,rfl,rfl⟩;have ny:=Mem.none_of_le hle1 ny0;have hyd:d≠y:=fun e=>by rw [← e,hd1] at ny0;cases ny0
   have hyB1:B1≠y:=fun e=>by rw [← e,hb1] at ny0;cases ny0
   have hyB2:B2≠y:=fun e=>by rw [← e,hb2] at ny0;cases ny0
   have hyd2:=hyd.symm;have hyB22:=hyB2.symm;refine o_q (q_bs slt133 (pc (mvQ) pn) rfl (Els.cons rfl rfl Els.nil) (by decide)) rfl rfl rfl ?_;refine o_qs (q_app slt133 rfl rfl rfl rfl (by repeat first|exact elsPtr|exact Els.nil|exact Els.cons rfl rfl Els.nil|refine Els.append ?_ ?_) (by first|exact (by repeat first|exact elsPtr|exact Els.nil|exact Els.cons rfl rfl Els.nil|refine Els.append ?_ ?_)|exact Els.cons rfl rfl Els.nil) (by simp;omega)) rfl rfl rfl rfl ?_;refine Q164 ?_;refine Q52 ?_;refine Q38 ?_;refine Q62 fo136_0 ?_;refine Q116 ag133 sz133 ?_;refine o_q (q_sl_lo (n:=k) und133 sz28 rfl elsPtr (ab rfl rfl) (by omega)) rfl rfl rfl ?_;refine o_qs (q_app slt133 rfl rfl rfl rfl (by repeat first|exact elsPtr|exact Els.nil|exact Els.cons rfl rfl Els.nil|refine Els.append ?_ ?_) (by first|exact (by repeat first|exact elsPtr|exact Els.nil|exact Els.cons rfl rfl Els.nil|refine Els.append ?_ ?_)|exact Els.cons rfl rfl Els.nil) (by simp;omega)) rfl rfl rfl rfl ?_;refine Q44 fo136_0 ?_;refine Q162 sz133 ?_;refine Q42 ?_;refine o_q (q_b (cs:=[.raw (.int .i64 0),.raw (.int .i64 0),.raw (.slice none 0 0)]) bz56 bp56 bf_nil) rfl rfl rfl ?_;refine Q103 sz56 ?_;refine Q104 ?_;obtain rfl:findN (nP x) c.topic=k:=findN_eq (by rw [nP_len];omega) (fun j h hj=>by rw [nP_get];exact hlow j (by rw [← nP_len];exact h) hj) fun h=>by rw [nP_get,← hyn];exact of_decide_eq_false h2
   have hL0 : [.sl ((([]++((nmL x).take (findN (nP x) c.topic)).map (fun k=>ptr (yd k)))++[ptr y])++((nmL x).drop (findN (nP x) c.topic)).map (fun k=>ptr (yd k))) true,.raw vs,.sl ((x.want.idx 7).map natV) o3,int x.cnt,int x.dig.re,int x.dig.im] = .sl (((nmL x).take (findN (nP x) c.topic)).map (fun k=>ptr (yd k))++ptr y::((nmL x).drop (findN (nP x) c.topic)).map (fun k=>ptr (yd k))) true::(rmC yd x vs o1 o3).drop 1:=by
    unfold rmC;simp
   exact ret_cell (.inl rfl) rfl rfl mmQ (loadP_w ag56 sz56 rfl rfl) (⟨y,ny,rfl,mmQ,(Mem.upd_ne cd2 (Mem.upd_self _ _ _)).trans (congrArg (fun l=>some (AObj.cells l)) hL0),fun c0 o0 hc0 ho0=>Mem.upd_ne (Mem.ne_none ho0 m2) (Mem.upd_ne hc0 (Mem.upd_ne (Mem.ne_none ho0 ny) (hle1 c0 o0 ho0)))⟩)
 ·have k1:=h1;try simp only [zs] at k1
  have hk2:¬ k<(nmL x).length:=fun h=>absurd h1 (by simpa using h)
  iterate 6 refine Q25 h1 h1 ?_
  refine Q159 h1 ?_;refine Q112 h1 ?_;refine d_nil ?_;refine s_else rfl rfl ?_;refine Q26 ?_;refine Q0 ?_;refine Q86 ?_;refine Q42 ?_;refine Q38 ?_;refine Q62 fo136_0 ?_;refine Q116 ag133 sz133 ?_;refine o_q (q_sl_hi (n:=k) und133 sz28 rfl elsPtr (ab rfl rfl) (by omega)) rfl rfl rfl ?_;refine o_qs (q_app slt133 rfl rfl rfl rfl (by repeat first|exact elsPtr|exact Els.nil|exact Els.cons rfl rfl Els.nil|refine Els.append ?_ ?_) (by first|exact (by repeat first|exact elsPtr|exact Els.nil|exact Els.cons rfl rfl Els.nil|refine Els.append ?_ ?_)|exact Els.cons rfl rfl Els.nil) (by simp;omega)) rfl rfl rfl rfl ?_;refine Q164 ?_;refine Q42 ?_;refine Q38 ?_;refine Q12 fo49_1 ag9 sz9 ?_;refine o_callx ((newD _ hw (by omega))) goes10 (ac (v_raw rfl) ac_nil) rfl ?_;rintro r M2 ⟨y,ny0,rfl,rfl⟩;have ny:=Mem.none_of_le hle1 ny0;have hyd:d≠y:=fun e=>by rw [← e,hd1] at ny0;cases ny0
  have hyB1:B1≠y:=fun e=>by rw [← e,hb1] at ny0;cases ny0
  have hyB2:B2≠y:=fun e=>by rw [← e,hb2] at ny0;cases ny0
  have hyd2:=hyd.symm;have hyB22:=hyB2.symm;refine o_q (q_bs slt133 (pc (mvQ) pn) rfl (Els.cons rfl rfl Els.nil) (by decide)) rfl rfl rfl ?_;refine o_qs (q_app slt133 rfl rfl rfl rfl (by repeat first|exact elsPtr|exact Els.nil|exact Els.cons rfl rfl Els.nil|refine Els.append ?_ ?_) (by first|exact (by repeat first|exact elsPtr|exact Els.nil|exact Els.cons rfl rfl Els.nil|refine Els.append ?_ ?_)|exact Els.cons rfl rfl Els.nil) (by simp;omega)) rfl rfl rfl rfl ?_;refine Q164 ?_;refine Q52 ?_;refine Q38 ?_;refine Q62 fo136_0 ?_;refine Q116 ag133 sz133 ?_;refine o_q (q_sl_lo (n:=k) und133 sz28 rfl elsPtr (ab rfl rfl) (by omega)) rfl rfl rfl ?_;refine o_qs (q_app slt133 rfl rfl rfl rfl (by repeat first|exact elsPtr|exact Els.nil|exact Els.cons rfl rfl Els.nil|refine Els.append ?_ ?_) (by first|exact (by repeat first|exact elsPtr|exact Els.nil|exact Els.cons rfl rfl Els.nil|refine Els.append ?_ ?_)|exact Els.cons rfl rfl Els.nil) (by simp;omega)) rfl rfl rfl rfl ?_;refine Q44 fo136_0 ?_;refine Q162 sz133 ?_;refine Q42 ?_;refine o_q (q_b (cs:=[.raw (.int .i64 0),.raw (.int .i64 0),.raw (.slice none 0 0)]) bz56 bp56 bf_nil) rfl rfl rfl ?_;refine Q103 sz56 ?_;refine Q104 ?_;obtain rfl:findN (nP x) c.topic=k:=findN_eq (by rw [nP_len];omega) (fun j h hj=>by rw [nP_get];exact hlow j (by rw [← nP_len];exact h) hj) fun h=>absurd h (by rw [nP_len];exact hk2)
  have hL0 : [.sl ((([]++((nmL x).take (findN (nP x) c.topic)).map (fun k=>ptr (yd k)))++[ptr y])++((nmL x).drop (findN (nP x) c.topic)).map (fun k=>ptr (yd k))) true,.raw vs,.sl ((x.want.idx 7).map natV) o3,int x.cnt,int x.dig.re,int x.dig.im] = .sl (((nmL x).take (findN (nP x) c.topic)).map (fun k=>ptr (yd k))++ptr y::((nmL x).drop (findN (nP x) c.topic)).map (fun k=>ptr (yd k))) true::(rmC yd x vs o1 o3).drop 1:=by
   unfold rmC;simp
  exact ret_cell (.inl rfl) rfl rfl mmQ (loadP_w ag56 sz56 rfl rfl) (⟨y,ny,rfl,mmQ,(Mem.upd_ne cd2 (Mem.upd_self _ _ _)).trans (congrArg (fun l=>some (AObj.cells l)) hL0),fun c0 o0 hc0 ho0=>Mem.upd_ne (Mem.ne_none ho0 m2) (Mem.upd_ne hc0 (Mem.upd_ne (Mem.ne_none ho0 ny) (hle1 c0 o0 ho0)))⟩)
end C17
