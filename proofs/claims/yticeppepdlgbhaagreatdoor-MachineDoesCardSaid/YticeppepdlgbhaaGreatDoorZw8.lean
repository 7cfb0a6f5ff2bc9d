import Derived.Test.YticeppepdlgbhaaGreatDoorHz
import Derived.Test.YticeppepdlgbhaaGreatDoorZw7
open Go Go.Proofs Go.Am
set_option linter.unusedVariables false
set_option linter.unusedSimpArgs false
set_option autoImplicit false
set_option maxHeartbeats 4000000
set_option maxRecDepth 20000
namespace C17
theorem slt134:SlT Tryz.prog 134 145 4 48:=⟨by kernel_rfl,by kernel_rfl,by kernel_rfl,by kernel_rfl,by decide⟩
def tk78:Nat->Nat->Option Nat
 | 11,4=>some 0
 | _,_=>none
def pl78:Nat->List PStep
 | 11=>[.q 0,.q 1,.q 2,.q 3,.q 5,.q 6,.s 4 [6,5,2,1,0],.q 7,.q 8,.q 9,.s 10 [8]]
 | _=>[]
theorem cb78:Tryz.f78.body.map (codeB Tryz.prog Tryz.f78.ntmps tk78 pl78)=some true:=by kernel_rfl
theorem goes78:goesB Tryz.prog 78=true:=by kernel_rfl
theorem snd78a (d:Nat)(yd:ByteArray->Nat)(x:Mc)(vs:Value)(o1 o3:Bool)(c:Cmd)(M:Mem)(hd:M d=some (.cells (rmC yd x vs o1 o3)))(ht:Tps M yd x)(hL:(nmL x).length<=20)(hin:c.topic ∉ nmL x):SoundCall Tryz.prog 78 [ptr d,encC c] M fun r M'=>r = .agg [int 5,int 0,.raw (.slice none 0 0)]/\M.le M':=by
 have hle:=Mem.le_refl M;refine SoundCall.go tk78 pl78 mixed Tryz.func78 cb78 rfl (Nat.le_of_ble_eq_true rfl) ?_;refine Q0 ?_;refine o_box zbx rfl rfl (fun B1 hB1=>?_);have cd1:d≠B1:=Mem.fresh_ne hB1 hd;have cd1b:=cd1.symm;have m1:M B1=none:=zm hB1;refine o_alloc zc56 (fun B2 hB2=>?_);have cd2:d≠B2:=Mem.fresh_ne hB2 (Mem.upd_ne cd1 hd);have cd2b:=cd2.symm;have f1_2:B1≠B2:=Mem.fresh_ne hB2 mmQ;have g2_1:B2≠B1:=f1_2.symm;have m2:M B2=none:=zm hB2;refine Q52 ?_;refine Q12 fo49_1 ag9 sz9 ?_;refine Q236 ?_;refine Q31 ?_;refine Q11 ?_;refine s_block ?_;refine Q113 und28 ?_;refine Q8 ?_;refine s_then rfl rfl ?_;refine Q0 ?_;refine Q135 bz56 bp56 fo56_0 ?_;refine Q161 sz56 ?_;refine Q77 ?_;exact ret_cell (.inl rfl) rfl rfl mmQ (loadP_w ag56 sz56 rfl rfl) (⟨rfl,leN (leN (leN (Mem.le_refl M) m1) m2) m2⟩)
def tk78b:Nat->Nat->Option Nat
 | 11,4=>some 0
 | _,_=>none
def pl78b:Nat->List PStep
 | 11=>[.q 0,.q 1,.q 2,.q 3,.q 5,.q 6,.s 4 [6,5,2,1,0],.q 7,.q 8,.q 9,.s 10 [8]]
 | _=>[]
theorem cb78b:Tryz.f78.body.map (codeB Tryz.prog Tryz.f78.ntmps tk78b pl78b)=some true:=by kernel_rfl
theorem snd78b (d:Nat)(yd:ByteArray->Nat)(x:Mc)(vs:Value)(o1 o3:Bool)(c:Cmd)(M:Mem)(hd:M d=some (.cells (rmC yd x vs o1 o3)))(ht:Tps M yd x)(hL:(nmL x).length<=20)(hW:Ws encSb 4 M vs (sbL x))(hbd:∀ b,bOf vs b->b≠d)(hS:(sbL x).length<=50)(hin:c.topic∈nmL x)(hsu:0<=subI x c.name):SoundCall Tryz.prog 78 [ptr d,encC c] M fun r M'=>r = .agg [int 4,int 0,.raw (.slice none 0 0)]/\M.le M':=by
 have hle:=Mem.le_refl M;refine SoundCall.go tk78b pl78b mixed Tryz.func78 cb78b rfl (Nat.le_of_ble_eq_true rfl) ?_;refine Q0 ?_;refine o_box zbx rfl rfl (fun B1 hB1=>?_);have cd1:d≠B1:=Mem.fresh_ne hB1 hd;have cd1b:=cd1.symm;have m1:M B1=none:=zm hB1;refine o_alloc zc56 (fun B2 hB2=>?_);have cd2:d≠B2:=Mem.fresh_ne hB2 (Mem.upd_ne cd1 hd);have cd2b:=cd2.symm;have f1_2:B1≠B2:=Mem.fresh_ne hB2 mmQ;have g2_1:B2≠B1:=f1_2.symm;have m2:M B2=none:=zm hB2;refine Q52 ?_;refine Q12 fo49_1 ag9 sz9 ?_;refine Q268 ?_;refine Q31 ?_;refine Q11 ?_;refine s_block ?_;refine Q113 und28 ?_;refine Q8 ?_;refine s_else rfl rfl ?_;refine Q17 ?_;refine Q12 fo49_2 ag9 sz9 ?_;refine o_call (((snd131 d yd x vs o1 o3 c.name _ mmQ (hW.keep (fun b _ hb=>leK (leN (leN (Mem.le_refl M) m1) m2) hb) (by decide)) hS))) goes131 (ac (mvQ) (ac (v_raw rfl) ac_nil)) rfl ?_;refine Q24 ?_;refine Q8 ?_;refine s_then rfl (decide_eq_true hsu) ?_;refine Q0 ?_;refine Q135 bz56 bp56 fo56_0 ?_;refine Q161 sz56 ?_;refine Q77 ?_;exact ret_cell (.inl rfl) rfl rfl mmQ (loadP_w ag56 sz56 rfl rfl) (⟨rfl,leN (leN (leN (Mem.le_refl M) m1) m2) m2⟩)
def tk78c:Nat->Nat->Option Nat
 | 11,4=>some 0
 | _,_=>none
def pl78c:Nat->List PStep
 | 11=>[.q 0,.q 1,.q 2,.q 3,.q 5,.q 6,.s 4 [6,5,2,1,0],.q 7,.q 8,.q 9,.s 10 [8]]
 | _=>[]
theorem cb78c:Tryz.f78.body.map (codeB Tryz.prog Tryz.f78.ntmps tk78c pl78c)=some true:=by kernel_rfl
theorem snd78c (d:Nat)(yd:ByteArray->Nat)(x:Mc)(vs:Value)(o1 o3:Bool)(c:Cmd)(M:Mem)(hd:M d=some (.cells (rmC yd x vs o1 o3)))(ht:Tps M yd x)(hL:(nmL x).length<=20)(hW:Ws encSb 4 M vs (sbL x))(hbd:∀ b,bOf vs b->b≠d)(hS:(sbL x).length<=50)(hin:c.topic∈nmL x)(hsu:¬ 0<=subI x c.name)(hfl:50<=(sbL x).length):SoundCall Tryz.prog 78 [ptr d,encC c] M fun r M'=>r = .agg [int 3,int 0,.raw (.slice none 0 0)]/\M.le M':=by
 have hle:=Mem.le_refl M;obtain⟨base,cp,rfl⟩:=hW.len;refine SoundCall.go tk78c pl78c mixed Tryz.func78 cb78c rfl (Nat.le_of_ble_eq_true rfl) ?_;refine Q0 ?_;refine o_box zbx rfl rfl (fun B1 hB1=>?_);have cd1:d≠B1:=Mem.fresh_ne hB1 hd;have cd1b:=cd1.symm;have m1:M B1=none:=zm hB1;refine o_alloc zc56 (fun B2 hB2=>?_);have cd2:d≠B2:=Mem.fresh_ne hB2 (Mem.upd_ne cd1 hd);have cd2b:=cd2.symm;have f1_2:B1≠B2:=Mem.fresh_ne hB2 mmQ;have g2_1:B2≠B1:=f1_2.symm;have m2:M B2=none:=zm hB2;refine Q52 ?_;refine Q12 fo49_1 ag9 sz9 ?_;refine Q282 ?_;refine Q31 ?_;refine Q11 ?_;refine s_block ?_;refine Q113 und28 ?_;refine Q8 ?_;refine s_else rfl rfl ?_;refine Q17 ?_;refine Q12 fo49_2 ag9 sz9 ?_;refine o_call (((snd131 d yd x _ o1 o3 c.name _ mmQ (hW.keep (fun b _ hb=>leK (leN (leN (Mem.le_refl M) m1) m2) hb) (by decide)) hS))) goes131 (ac (mvQ) (ac (v_raw rfl) ac_nil)) rfl ?_;refine Q24 ?_;refine Q8 ?_;refine s_else rfl (decide_eq_false hsu) ?_;refine Q95 fo136_1 ?_;refine Q140 ag134 sz134 ?_;refine Q138 und134 ?_;refine Q24 ?_;refine Q8 ?_;refine Q148 ?_;refine Q0 ?_;refine Q135 bz56 bp56 fo56_0 ?_;refine Q161 sz56 ?_;refine Q77 ?_;exact ret_cell (.inl rfl) rfl rfl mmQ (loadP_w ag56 sz56 rfl rfl) (⟨rfl,leN (leN (leN (Mem.le_refl M) m1) m2) m2⟩)
def tk78d:Nat->Nat->Option Nat:=fun _ _=>none
def pl78d:Nat->List PStep
 | 11=>[.q 0,.q 1,.q 2,.q 3,.q 5,.q 6,.s 4 [0,1,2,3,5,6],.s 7 [0,1,2,3,5,6],.q 8,.q 9,.s 10 [0,1,2,3,5,6,8,9]]
 | _=>[]
theorem cb78d:Tryz.f78.body.map (codeB Tryz.prog Tryz.f78.ntmps tk78d pl78d)=some true:=by kernel_rfl
theorem new16 {n:ByteArray}{y:Nat}{P:List KV}{q1 q2:Bool}{x:Tp}{o:Int}{s:Sb}{e:Int}(hz:newS n x o=(s,e))(M:Mem)(hy:M y=some (.cells (ryC x P q1 q2)))(hs:n.size<2^63):SoundCall Tryz.prog 132 [str n,ptr y,int o] M fun r M'=>r = .tup [encSb s,int e]/\M'=M:=by
 have h:=snd132 n y P q1 q2 x o M hy hs;rw [hz] at h;exact h.det
theorem snd78d (d:Nat)(yd:ByteArray->Nat)(x:Mc)(vs:Value)(o1 o3:Bool)(c:Cmd)(M:Mem)(hd:M d=some (.cells (rmC yd x vs o1 o3)))(ht:Tps M yd x)(hL:(nmL x).length<=20)(hW:Ws encSb 4 M vs (sbL x))(hbd:∀ b,bOf vs b->b≠d)(hS:(sbL x).length<=50)(y:Tp)(p1 p2:Bool)(hy:M (yd c.topic)=some (.cells (ryC y (ksL y) p1 p2)))(hs:c.name.size<2^63)(hin:c.topic∈nmL x)(hsu:¬ 0<=subI x c.name)(hfl:(sbL x).length<50)(s:Sb)(e:Int)(hz:newS c.name y c.n=(s,e)):SoundCall Tryz.prog 78 [ptr d,encC c] M fun r M'=>(e≠0/\r = .agg [int e,int 0,.raw (.slice none 0 0)]/\M.le M')\/(e=0/\r = .agg [int 0,int s.cur,.raw (.slice none 0 0)]/\∃ b k R,R.length=k*4/\(M b=none\/bOf vs b)/\M' b=some (.cells (fl encSb (sbL x++[s])++R))/\M' d=some (.cells (rmC yd x (.slice (some ⟨b,0,none⟩) ((sbL x).length+1) ((sbL x).length+1+k)) o1 o3))/\∀ c o,c≠d->c≠b->M c=some o->M' c=some o):=by
 have hle:=Mem.le_refl M;obtain⟨base,cp,rfl⟩:=hW.len;refine SoundCall.go tk78d pl78d mixed Tryz.func78 cb78d rfl (Nat.le_of_ble_eq_true rfl) ?_;refine Q0 ?_;refine o_box zbx rfl rfl (fun B1 hB1=>?_);have cd1:d≠B1:=Mem.fresh_ne hB1 hd;have cd1b:=cd1.symm;have cy1:yd c.topic≠B1:=Mem.fresh_ne hB1 hy;have cy1b:=cy1.symm;have m1:M B1=none:=zm hB1;refine o_alloc zc56 (fun B2 hB2=>?_);have cd2:d≠B2:=Mem.fresh_ne hB2 (Mem.upd_ne cd1 hd);have cd2b:=cd2.symm;have cy2:yd c.topic≠B2:=Mem.fresh_ne hB2 (Mem.upd_ne cy1 hy);have cy2b:=cy2.symm;have f1_2:B1≠B2:=Mem.fresh_ne hB2 mmQ;have g2_1:B2≠B1:=f1_2.symm;have m2:M B2=none:=zm hB2;refine Q52 ?_;refine Q12 fo49_1 ag9 sz9 ?_;refine Q282 ?_;refine Q31 ?_;refine Q11 ?_;refine s_block ?_;refine Q113 und28 ?_;refine Q8 ?_;refine s_else rfl rfl ?_;refine Q17 ?_;refine Q12 fo49_2 ag9 sz9 ?_;refine o_call (((snd131 d yd x _ o1 o3 c.name _ mmQ (hW.keep (fun b _ hb=>leK (leN (leN (Mem.le_refl M) m1) m2) hb) (by decide)) hS))) goes131 (ac (mvQ) (ac (v_raw rfl) ac_nil)) rfl ?_;refine Q24 ?_;refine Q8 ?_;refine s_else rfl (decide_eq_false hsu) ?_;refine Q95 fo136_1 ?_;refine Q140 ag134 sz134 ?_;refine Q138 und134 ?_;refine Q24 ?_;refine Q8 ?_;refine Q49 ?_;refine Q47 ?_;refine Q6 fo49_2 ag9 sz9 ?_;refine Q22 ?_;refine Q12 fo49_6 ag3 sz3 ?_;refine o_call ((new16 (y:=yd c.topic) (P:=ksL y) (q1:=p1) (q2:=p2) hz _ mmQ hs)) goes132 (ac (v_raw rfl) (ac (mvQ) (ac (v_raw rfl) ac_nil))) rfl ?_;refine Q80 ?_;refine o_alloc zc145 (fun B3 hB3=>?_);have cd3:d≠B3:=Mem.fresh_ne hB3 (Mem.upd_ne cd2 (Mem.upd_ne cd1 hd));have cd3b:=cd3.symm;have f1_3:B1≠B3:=Mem.fresh_ne hB3 mmQ;have g3_1:B3≠B1:=f1_3.symm;have f2_3:B2≠B3:=Mem.fresh_ne hB3 mmQ;have g3_2:B3≠B2:=f2_3.symm;have m3:M B3=none:=zm hB3;refine Q13 sz145 ?_;refine Q20 ?_;refine Q106 ?_;refine s_cond rfl (fun h1=>?_) (fun h1=>?_)
 ·have k1:=h1;try simp only [zs] at k1
  refine Q7 ?_;refine Q135 bz56 bp56 fo56_0 ?_;refine Q64 sz56 ?_;exact ret_cell (.inl rfl) rfl rfl mmQ (loadP_w ag56 sz56 rfl rfl) (.inl ⟨by simpa using h1,rfl,leN (leN (leN (leN (leN (Mem.le_refl M) m1) m2) m3) m3) m2⟩)
 ·have k1:=h1;try simp only [zs] at k1
  refine Q35 ?_;refine s_draw rfl ?_;refine Q136 ?_;refine Q147 ?_;refine Q40 fo136_1 ?_;refine Q85 ag145 sz145 ?_;refine Q244 slt134 ?_;refine Q3 ?_;refine Q140 ag134 sz134 ?_;refine o_nil ⟨(by simp [Mem.upd, *]),?_⟩;refine Q3 ?_;refine o_appx slt134 rfl rfl zc145 (fun z hz=>by simp only [List.mem_cons,List.not_mem_nil,or_false] at hz;rcases hz with rfl|rfl|rfl|rfl<;>rfl) (by decide) rfl uwSb rfl (by exact hW.keep (fun b _ hb=>leK (leN (leN (leN (leN (Mem.le_refl M) m1) m2) m3) m3) hb) (by decide)) (m:=[s]) (src_sl rfl) (by simp) (by simp;omega) (fun b kk R hR hbb=>?_);have hbM:M b=none\/bOf (.slice base (sbL x).length cp) b:=hbb.imp (fun h=>Mem.none_of_le (leN (leN (leN (leN (Mem.le_refl M) m1) m2) m3) m3) h) id;have hMd:=hd;have bd:d≠b:=by
   rcases hbM with h|h
   ·exact fun e=>by rw [← e,hd] at h;cases h
   ·exact (hbd b h).symm
  have bdb:=bd.symm;have nb1:B1≠b:=hbb.elim (fun h=>Mem.fresh_ne h mmQ) fun h e=>hW.ok h (by rw [← e];exact m1)
  have nb2:B2≠b:=hbb.elim (fun h=>Mem.fresh_ne h mmQ) fun h e=>hW.ok h (by rw [← e];exact m2)
  have nb3:B3≠b:=hbb.elim (fun h=>Mem.fresh_ne h mmQ) fun h e=>hW.ok h (by rw [← e];exact m3)
  have nb1b:=nb1.symm;have nb2b:=nb2.symm;have nb3b:=nb3.symm;refine o_nil ⟨(by simp [Mem.upd, *]),?_⟩;refine d_q rfl (q_nil rfl) rfl rfl rfl ?_;refine Q40 fo136_1 ?_;refine Q3 ?_;refine Q82 sz134 ?_;refine o_nil ⟨(by simp [Mem.upd, *]),?_⟩;refine d_nil ?_;refine Q6 fo145_2 ag3 sz3 ?_;refine Q189 bz56 bp56 fo56_1 ?_;refine Q58 sz56 ?_;exact ret_cell (.inl rfl) rfl rfl mmQ (loadP_w ag56 sz56 rfl rfl) (.inr ⟨by simpa using h1,rfl,b,kk,R,hR,hbM,mmQ,Mem.upd_ne cd2 (Mem.upd_self _ _ _),fun c0 o0 hc0 hcb ho0=>Mem.upd_ne (Mem.ne_none ho0 m2) (Mem.upd_ne hc0 (Mem.upd_ne hcb ((leN (leN (leN (leN (Mem.le_refl M) m1) m2) m3) m3) c0 o0 ho0)))⟩)
end C17
