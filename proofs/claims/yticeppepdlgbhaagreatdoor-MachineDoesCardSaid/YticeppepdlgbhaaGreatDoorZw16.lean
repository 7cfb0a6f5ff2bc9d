import Derived.Test.YticeppepdlgbhaaGreatDoorHz
import Derived.Test.YticeppepdlgbhaaGreatDoorZy5
open Go Go.Proofs Go.Am
set_option linter.unusedVariables false
set_option linter.unusedSimpArgs false
set_option autoImplicit false
set_option maxHeartbeats 4000000
set_option maxRecDepth 20000
set_option maxRecDepth 20000
set_option maxHeartbeats 4000000
namespace C17
abbrev sbC (s:Sb):List AVal:=[str s.name,str s.topic,int s.cur,int s.nxt]
def lastF (L:List Rec)(a:Int):Nat->Int
 | 0=>a - 1
 | j+1=>(L.getD j default).off
theorem lastF_end (L:List Rec)(a:Int):(match L.getLast? with|none=>a|some r=>r.off+1)=lastF L a L.length+1:=by
 rcases Nat.eq_zero_or_pos L.length with h|h
 ·obtain rfl:=List.eq_nil_of_length_eq_zero h;show a=a - 1+1
  omega
 ·refine Eq.trans (nxt_last (l:=L) (j:=L.length - 1) (by omega) rfl a) ?_;obtain⟨j,hj⟩ : ∃ j,L.length=j+1:=⟨L.length - 1,by omega⟩;have e:lastF L a L.length=(L.getD j default).off:=by rw [hj];rfl
  have e2:L.length - 1=j:=by omega
  rw [e,getD_lt (by omega)];simp only [e2]
theorem ag145:aggT Tryz.prog 145=some true:=by kernel_rfl
theorem bz145:(zeroT Tryz.prog 145).map (fun z=>z.cells.toList.map AVal.raw)=some [.raw (.string { data:=#[] }),.raw (.string { data:=#[] }),.raw (.int .i64 0),.raw (.int .i64 0)]:=by kernel_rfl
theorem bp145:(aPlaces Tryz.prog 145).isSome=true:=by kernel_rfl
theorem fo145_0:fo Tryz.prog 145 0=some (0,1):=by kernel_rfl
theorem fo145_1:fo Tryz.prog 145 1=some (1,1):=by kernel_rfl
theorem fo145_2:fo Tryz.prog 145 2=some (2,1):=by kernel_rfl
theorem fo145_3:fo Tryz.prog 145 3=some (3,1):=by kernel_rfl
theorem sz145:sizeT Tryz.prog 145=some 4:=by kernel_rfl
theorem zc145:zeroCellsT Tryz.prog 145=some [.raw (.string { data:=#[] }),.raw (.string { data:=#[] }),.raw (.int .i64 0),.raw (.int .i64 0)]:=by kernel_rfl
theorem take_step {l:List Rec}{p i k:Nat}(hi:i<l.length)(hp:p<=i)(hk:i - p<k):(l.drop p).take (min (i+1 - p) k)=(l.drop p).take (min (i - p) k)++[l[i]]:=by
 rw [show min (i+1 - p) k=(i - p)+1 by omega,show min (i - p) k=i - p by omega,List.take_succ_eq_append_getElem (by rw [List.length_drop];omega),List.getElem_drop];congr 3;omega
theorem cut_len {l:List Rec}{p i k:Nat}(hi:i<=l.length):((l.drop p).take (min (i - p) k)).length=min (i - p) k:=by
 rw [List.length_take,List.length_drop];omega
theorem atN_cut {l:List Rec}(hs:Sorted l)(p m:Nat)(e:Int):atN ((l.drop p).take m) e=min (min m (l.length - p)) (atN l e - p):=by
 have hs':Sorted ((l.drop p).take m):=sorted_sub hs ((List.take_sublist _ _).trans (List.drop_sublist _ _));have hl:((l.drop p).take m).length=min m (l.length - p):=by rw [List.length_take,List.length_drop]
 have h1:=atN_le ((l.drop p).take m) e;have hg:∀ i,∀ h:i<((l.drop p).take m).length,((l.drop p).take m)[i]=l[p+i]'(by omega):=fun i h=>by rw [List.getElem_take,List.getElem_drop]
 rcases Nat.lt_trichotomy (atN ((l.drop p).take m) e) (min (min m (l.length - p)) (atN l e - p)) with h|h|h
 ·exfalso;have h2:=atN_ge (off:=e) hs' (i:=atN ((l.drop p).take m) e) (Nat.le_refl _) (by omega);rw [hg] at h2;obtain⟨_,h3⟩:=atN_lt (l:=l) (off:=e) (i:=p+atN ((l.drop p).take m) e) (by omega);omega
 ·exact h
 ·exfalso;obtain⟨hi,h2⟩:=atN_lt (l:=(l.drop p).take m) (off:=e) (i:=min (min m (l.length - p)) (atN l e - p)) h;rw [hg] at h2;have h3:=atN_ge (off:=e) hs (i:=p+min (min m (l.length - p)) (atN l e - p)) (by omega) (by omega);omega
theorem pollL_cut {s:Sb}{x:Tp}{many:Int}(hs:Sorted x.recs):pollL s x many=(x.recs.drop (atN x.recs s.nxt)).take (min (max many 0).toNat (atN x.recs (edge s x) - atN x.recs s.nxt)):=by
 unfold pollL readL;rw [atN_cut hs,List.take_take];have h1:=atN_le x.recs (edge s x);congr 1;omega
def tk181:Nat->Nat->Option Nat:=fun _ _=>none
def pl181:Nat->List PStep:=fun _=>[]
theorem cb181:Tryz.f181.body.map (codeB Tryz.prog Tryz.f181.ntmps tk181 pl181)=some true:=by kernel_rfl
theorem goes181:goesB Tryz.prog 181=true:=by kernel_rfl
theorem snd181 (s:Sb)(M:Mem)(hs1:s.name.size<2^63)(hs2:s.topic.size<2^63):SoundCall Tryz.prog 181 [encSb s] M fun r M'=>r=bool (rightSb s)/\M.le M':=by
 refine SoundCall.go tk181 pl181 mixed Tryz.func181 cb181 rfl (Nat.le_of_ble_eq_true rfl) ?_;refine Q0 ?_;refine o_box zbx rfl rfl (fun B1 hB1=>?_);have m1:M B1=none:=zm hB1;refine Q8 ?_;refine Q6 fo145_0 ag9 sz9 ?_;refine o_call ((snd47 s.name _ hs1)) goes47 (ac (v_raw rfl) ac_nil) rfl ?_;refine Q8 ?_;refine Q6 fo145_1 ag9 sz9 ?_;refine o_call ((snd47 s.topic _ hs2)) goes47 (ac (v_raw rfl) ac_nil) rfl ?_;refine Q46 ?_;refine Q1 ?_;refine o_cases (want:=true) (j:=1) rfl rfl (fun h1=>?_) (fun h1=>?_)
 ·have k1:=h1;try simp only [zs] at k1
  refine Q174 h1 ?_;refine Q19 h1 ?_;refine Q1 ?_;refine o_cases (want:=true) (j:=4) rfl rfl (fun h2=>?_) (fun h2=>?_)
  ·have k2:=h2;try simp only [zs] at k2
   refine Q74 h2 fo145_2 h2 ?_;refine Q121 ag3 sz3 h2 ?_;refine Q24 ?_;refine Q19 h2 ?_;refine Q1 ?_;refine o_cases (want:=true) (j:=9) rfl rfl (fun h3=>?_) (fun h3=>?_)
   ·have k3:=h3;try simp only [zs] at k3
    refine Q74 h3 fo145_2 h3 ?_;refine Q79 ag3 sz3 ?_;refine Q74 h3 fo145_3 h3 ?_;refine Q121 ag3 sz3 h3 ?_;refine Q100 ?_;refine Q19 h3 ?_;refine Q1 ?_;refine o_cases (want:=true) (j:=16) rfl rfl (fun h4=>?_) (fun h4=>?_)
    ·have k4:=h4;try simp only [zs] at k4
     refine Q74 h4 fo145_3 h4 ?_;refine Q121 ag3 sz3 h4 ?_;refine Q100 ?_;refine Q19 h4 ?_;refine Q2 ?_;refine⟨congrArg (fun b=>AVal.raw (.bool b)) ?_,zle⟩;simp_all [rightSb]<;>(intros;omega)
    ·have k4:=h4;try simp only [zs] at k4
     refine Q53 h4 h4 ?_;refine Q120 h4 h4 ?_;refine Q2 ?_;refine⟨congrArg (fun b=>AVal.raw (.bool b)) ?_,zle⟩;simp_all [rightSb]<;>(intros;omega)
   ·have k3:=h3;try simp only [zs] at k3
    refine Q48 h3 h3 h3 h3 ?_;refine Q120 h3 h3 ?_;refine Q28 ?_;refine Q102 ?_;refine Q2 ?_;refine⟨congrArg (fun b=>AVal.raw (.bool b)) ?_,zle⟩;simp_all [rightSb]<;>(intros;omega)
  ·have k2:=h2;try simp only [zs] at k2
   refine Q53 h2 h2 ?_;refine Q120 h2 h2 ?_;refine Q28 ?_;refine Q65 ?_;refine Q102 ?_;refine Q28 ?_;refine Q102 ?_;refine Q2 ?_;refine⟨congrArg (fun b=>AVal.raw (.bool b)) ?_,zle⟩;simp_all [rightSb]<;>(intros;omega)
 ·have k1:=h1;try simp only [zs] at k1
  refine Q120 h1 h1 ?_;refine Q28 ?_;refine Q102 ?_;refine Q28 ?_;refine Q65 ?_;refine Q102 ?_;refine Q28 ?_;refine Q102 ?_;refine Q2 ?_;refine⟨congrArg (fun b=>AVal.raw (.bool b)) ?_,zle⟩;simp_all [rightSb]<;>(intros;omega)
def tk133:Nat->Nat->Option Nat:=fun _ _=>none
def pl133:Nat->List PStep:=fun _=>[]
theorem cb133:Tryz.f133.body.map (codeB Tryz.prog Tryz.f133.ntmps tk133 pl133)=some true:=by kernel_rfl
theorem goes133:goesB Tryz.prog 133=true:=by kernel_rfl
theorem snd133 (s:Sb)(M:Mem):SoundCall Tryz.prog 133 [encSb s] M fun r M'=>r=encSb (attS s)/\M.le M':=by
 refine SoundCall.go tk133 pl133 mixed Tryz.func133 cb133 rfl (Nat.le_of_ble_eq_true rfl) ?_;refine Q0 ?_;refine o_box zbx rfl rfl (fun B1 hB1=>?_);have m1:M B1=none:=zm hB1;refine o_alloc zc145 (fun B2 hB2=>?_);have f1_2:B1≠B2:=Mem.fresh_ne hB2 mmQ;have g2_1:B2≠B1:=f1_2.symm;have m2:M B2=none:=zm hB2;refine o_nil ?_;refine Q6 fo145_2 ag3 sz3 ?_;refine Q36 fo145_3 ?_;refine Q103 sz3 ?_;refine Q89 ag145 sz145 ?_;refine Q58 sz145 ?_;exact ret_cell (.inl rfl) rfl rfl mmQ (loadP_w ag145 sz145 rfl rfl) ⟨rfl,zle⟩
def tk135:Nat->Nat->Option Nat:=fun _ _=>none
def pl135:Nat->List PStep:=fun _=>[]
theorem cb135:Tryz.f135.body.map (codeB Tryz.prog Tryz.f135.ntmps tk135 pl135)=some true:=by kernel_rfl
theorem goes135:goesB Tryz.prog 135=true:=by kernel_rfl
theorem snd135 (s:Sb)(o:Int)(M:Mem)(hs1:s.name.size<2^63)(hs2:s.topic.size<2^63):SoundCall Tryz.prog 135 [encSb s,int o] M fun r M'=>r = .tup [encSb (ackS s o).1,int (ackS s o).2]/\M.le M':=by
 refine SoundCall.go tk135 pl135 mixed Tryz.func135 cb135 rfl (Nat.le_of_ble_eq_true rfl) ?_;refine Q0 ?_;refine o_box zbx rfl rfl (fun B1 hB1=>?_);have m1:M B1=none:=zm hB1;refine o_alloc zc145 (fun B2 hB2=>?_);have f1_2:B1≠B2:=Mem.fresh_ne hB2 mmQ;have g2_1:B2≠B1:=f1_2.symm;have m2:M B2=none:=zm hB2;refine Q8 ?_;refine Q89 ag145 sz145 ?_;refine Q266 ?_;refine Q20 ?_;refine Q92 ?_;refine o_cases (want:=false) (j:=2) rfl rfl (fun h1=>?_) (fun h1=>?_)
 ·have k1:=h1;try simp only [zs] at k1
  refine Q32 h1 h1 ?_;refine Q59 ?_;refine Q33 h1 ?_;refine Q1 ?_;refine o_cases (want:=false) (j:=6) rfl rfl (fun h2=>?_) (fun h2=>?_)
  ·have k2:=h2;try simp only [zs] at k2
   refine Q32 h2 h2 ?_;refine Q246 fo145_3 h2 ?_;refine Q121 ag3 sz3 h2 ?_;refine Q24 ?_;refine Q33 h2 ?_;refine o_nil ?_;refine s_cond rfl (fun h3=>?_) (fun h3=>?_)
   ·have k3:=h3;try simp only [zs] at k3
    refine Q51 ag145 sz145 sz145 ?_;refine Q10 ?_;exact ret_many (.inl rfl) rfl (rl_c rfl mmQ (loadP_w ag145 sz145 rfl rfl) rfl (rl_t rfl rl_nil)) rfl ⟨by unfold ackS;split<;>first|rfl|(exfalso;simp_all;done)|(exfalso;simp_all;omega),zle⟩
   ·have k3:=h3;try simp only [zs] at k3
    have hri:=(rightSb_le (by simp_all:rightSb s=true));refine s_skip ?_;refine Q6 fo145_2 ag3 sz3 ?_;refine Q1 ?_;refine Q43 ?_;refine o_q (q_max rfl rfl) rfl rfl rfl ?_;refine Q36 fo145_2 ?_;refine Q103 sz3 ?_;refine Q51 ag145 sz145 sz145 ?_;refine Q2 ?_;exact ret_many (.inl rfl) rfl (rl_c rfl mmQ (loadP_w ag145 sz145 rfl rfl) rfl (rl_t rfl rl_nil)) rfl ⟨by unfold ackS;split<;>first|rfl|(exfalso;simp_all;done)|(exfalso;simp_all;omega),zle⟩
  ·have k2:=h2;try simp only [zs] at k2
   refine Q48 h2 h2 h2 h2 ?_;refine Q19 h2 ?_;refine Q71 ?_;refine Q51 ag145 sz145 sz145 ?_;refine Q10 ?_;exact ret_many (.inl rfl) rfl (rl_c rfl mmQ (loadP_w ag145 sz145 rfl rfl) rfl (rl_t rfl rl_nil)) rfl ⟨by unfold ackS;split<;>first|rfl|(exfalso;simp_all;done)|(exfalso;simp_all;omega),zle⟩
 ·have k1:=h1;try simp only [zs] at k1
  refine Q53 h1 h1 ?_;refine Q19 h1 ?_;refine Q28 ?_;refine Q65 ?_;refine Q45 ?_;refine Q71 ?_;refine Q51 ag145 sz145 sz145 ?_;refine Q10 ?_;exact ret_many (.inl rfl) rfl (rl_c rfl mmQ (loadP_w ag145 sz145 rfl rfl) rfl (rl_t rfl rl_nil)) rfl ⟨by unfold ackS;split<;>first|rfl|(exfalso;simp_all;done)|(exfalso;simp_all;omega),zle⟩
def tk136:Nat->Nat->Option Nat:=fun _ _=>none
def pl136:Nat->List PStep
 | 2=>[.q 0,.q 1,.q 2,.q 3,.q 4,.q 5,.q 6,.q 7,.q 8,.q 9,.q 10,.q 11,.q 12,.q 13,.q 14,.q 15,.q 16,.q 17,.q 18,.q 19,.q 20,.q 21,.q 22]
 | _=>[]
theorem cb136:Tryz.f136.body.map (codeB Tryz.prog Tryz.f136.ntmps tk136 pl136)=some true:=by kernel_rfl
theorem goes136:goesB Tryz.prog 136=true:=by kernel_rfl
theorem snd136 (s:Sb)(y:Nat)(P:List KV)(q1 q2:Bool)(x:Tp)(o:Int)(M:Mem)(hy:M y=some (.cells (ryC x P q1 q2)))(hs1:s.name.size<2^63)(hs2:s.topic.size<2^63):SoundCall Tryz.prog 136 [encSb s,ptr y,int o] M fun r M'=>r = .tup [encSb (seekS s x o).1,int (seekS s x o).2]/\M.le M':=by
 refine SoundCall.go tk136 pl136 mixed Tryz.func136 cb136 rfl (Nat.le_of_ble_eq_true rfl) ?_;refine Q0 ?_;refine o_box zbx rfl rfl (fun B1 hB1=>?_);have ny1:y≠B1:=Mem.fresh_ne hB1 mmQ;have ny1':=ny1.symm;have m1:M B1=none:=zm hB1;refine o_alloc zc145 (fun B2 hB2=>?_);have ny2:y≠B2:=Mem.fresh_ne hB2 mmQ;have ny2':=ny2.symm;have f1_2:B1≠B2:=Mem.fresh_ne hB2 mmQ;have g2_1:B2≠B1:=f1_2.symm;have m2:M B2=none:=zm hB2;refine Q8 ?_;refine Q89 ag145 sz145 ?_;refine Q266 ?_;refine Q123 ?_;refine Q84 ?_;refine Q5 ?_;refine Q199 ?_;refine Q5 ?_;refine d_cases (want:=false) (j:=2) rfl rfl (fun h1=>?_) (fun h1=>?_)
 ·have k1:=h1;try simp only [zs] at k1
  refine Q132 fo145_1 h1 ?_;refine Q153 ag9 sz9 h1 ?_;refine Q167 h1 ?_;refine Q182 h1 ?_;refine Q132 fo44_0 h1 ?_;refine Q153 ag9 sz9 h1 ?_;refine d_yes rfl (q_sneq rfl rfl) rfl rfl rfl h1 rfl rfl ?_;refine Q112 h1 ?_;refine Q5 ?_;refine d_cases (want:=false) (j:=11) rfl rfl (fun h2=>?_) (fun h2=>?_)
  ·have k2:=h2;try simp only [zs] at k2
   refine Q133 h2 ?_;refine Q226 h2 ?_;refine Q112 h2 ?_;refine Q5 ?_;refine d_cases (want:=false) (j:=15) rfl rfl (fun h3=>?_) (fun h3=>?_)
   ·have k3:=h3;try simp only [zs] at k3
    refine Q133 h3 ?_;refine Q167 h3 ?_;refine Q182 h3 ?_;refine Q132 fo44_2 h3 ?_;refine Q153 ag3 sz3 h3 ?_;refine Q186 h3 ?_;refine Q112 h3 ?_;refine d_nil ?_;refine s_cond rfl (fun h4=>?_) (fun h4=>?_)
    ·have k4:=h4;try simp only [zs] at k4
     refine Q51 ag145 sz145 sz145 ?_;refine Q10 ?_;exact ret_many (.inl rfl) rfl (rl_c rfl mmQ (loadP_w ag145 sz145 rfl rfl) rfl (rl_t rfl rl_nil)) rfl ⟨by unfold seekS;unfold ofS;split<;>first|rfl|(exfalso;simp_all;done)|(exfalso;simp_all;omega),zle⟩
    ·have k4:=h4;try simp only [zs] at k4
     refine Q69 ?_;refine Q36 fo145_2 ?_;refine Q103 sz3 ?_;refine Q7 ?_;refine Q36 fo145_3 ?_;refine Q103 sz3 ?_;refine Q51 ag145 sz145 sz145 ?_;refine Q2 ?_;exact ret_many (.inl rfl) rfl (rl_c rfl mmQ (loadP_w ag145 sz145 rfl rfl) rfl (rl_t rfl rl_nil)) rfl ⟨by unfold seekS;unfold ofS;split<;>first|rfl|(exfalso;simp_all;done)|(exfalso;simp_all;omega),zle⟩
   ·have k3:=h3;try simp only [zs] at k3
    iterate 3 refine Q25 h3 h3 ?_
    refine Q111 h3 ?_;refine Q139 ?_;refine Q51 ag145 sz145 sz145 ?_;refine Q10 ?_;exact ret_many (.inl rfl) rfl (rl_c rfl mmQ (loadP_w ag145 sz145 rfl rfl) rfl (rl_t rfl rl_nil)) rfl ⟨by unfold seekS;unfold ofS;split<;>first|rfl|(exfalso;simp_all;done)|(exfalso;simp_all;omega),zle⟩
  ·have k2:=h2;try simp only [zs] at k2
   refine Q25 h2 h2 ?_;refine Q111 h2 ?_;refine Q5 ?_;iterate 3 refine Q90 ?_
   refine Q134 ?_;refine Q139 ?_;refine Q51 ag145 sz145 sz145 ?_;refine Q10 ?_;exact ret_many (.inl rfl) rfl (rl_c rfl mmQ (loadP_w ag145 sz145 rfl rfl) rfl (rl_t rfl rl_nil)) rfl ⟨by unfold seekS;unfold ofS;split<;>first|rfl|(exfalso;simp_all;done)|(exfalso;simp_all;omega),zle⟩
 ·have k1:=h1;try simp only [zs] at k1
  iterate 3 refine Q25 h1 h1 ?_
  refine Q159 h1 ?_;refine Q111 h1 ?_;refine Q5 ?_;refine Q90 ?_;refine Q134 ?_;refine Q5 ?_;iterate 3 refine Q90 ?_
  refine Q134 ?_;refine Q139 ?_;refine Q51 ag145 sz145 sz145 ?_;refine Q10 ?_;exact ret_many (.inl rfl) rfl (rl_c rfl mmQ (loadP_w ag145 sz145 rfl rfl) rfl (rl_t rfl rl_nil)) rfl ⟨by unfold seekS;unfold ofS;split<;>first|rfl|(exfalso;simp_all;done)|(exfalso;simp_all;omega),zle⟩
def tk132:Nat->Nat->Option Nat:=fun _ _=>none
def pl132:Nat->List PStep:=fun _=>[]
theorem cb132:Tryz.f132.body.map (codeB Tryz.prog Tryz.f132.ntmps tk132 pl132)=some true:=by kernel_rfl
theorem goes132:goesB Tryz.prog 132=true:=by kernel_rfl
theorem snd132 (n:ByteArray)(y:Nat)(P:List KV)(q1 q2:Bool)(x:Tp)(o:Int)(M:Mem)(hy:M y=some (.cells (ryC x P q1 q2)))(hs1:n.size<2^63):SoundCall Tryz.prog 132 [str n,ptr y,int o] M fun r M'=>r = .tup [encSb (newS n x o).1,int (newS n x o).2]/\M.le M':=by
 refine SoundCall.go tk132 pl132 mixed Tryz.func132 cb132 rfl (Nat.le_of_ble_eq_true rfl) ?_;refine Q0 ?_;refine o_alloc zc145 (fun B1 hB1=>?_);have ny1:y≠B1:=Mem.fresh_ne hB1 mmQ;have ny1':=ny1.symm;have m1:M B1=none:=zm hB1;refine Q46 ?_;refine o_call ((snd47 n _ hs1)) goes47 (ac (v_raw rfl) ac_nil) rfl ?_;refine Q20 ?_;refine Q41 ?_;refine s_cond rfl (fun h1=>?_) (fun h1=>?_)
 ·have k1:=h1;try simp only [zs] at k1
  have e:(if o<0 then x.en else o)=x.en:=if_pos k1;refine Q15 ?_;refine Q22 ?_;refine Q81 fo44_2 ag3 sz3 ?_;refine Q20 ?_;refine Q92 ?_;refine o_cases (want:=false) (j:=2) rfl rfl (fun h2=>?_) (fun h2=>?_)
  ·have k2:=h2;try simp only [zs] at k2
   refine Q32 h2 h2 ?_;refine Q22 ?_;refine Q14 h2 ?_;refine o_q (q_nil rfl) rfl rfl rfl ?_;refine Q74 h2 fo44_2 h2 ?_;refine Q121 ag3 sz3 h2 ?_;refine Q61 ?_;refine Q33 h2 ?_;refine o_nil ?_;refine s_cond rfl (fun h3=>?_) (fun h3=>?_)
   ·have k3:=h3;try simp only [zs] at k3
    refine Q0 ?_;refine Q181 bz145 bp145 ?_;refine Q13 sz145 ?_;refine Q10 ?_;exact ret_many (.inl rfl) rfl (rl_c rfl mmQ (loadP_w ag145 sz145 rfl rfl) rfl (rl_t rfl rl_nil)) rfl ⟨by unfold newS;simp only [e];split<;>first|rfl|(exfalso;simp_all;done)|(exfalso;simp_all;omega),zle⟩
   ·have k3:=h3;try simp only [zs] at k3
    refine Q69 ?_;refine Q22 ?_;refine Q81 fo44_0 ag9 sz9 ?_;refine Q91 ?_;refine Q206 bz145 bp145 fo145_0 fo145_1 fo145_2 fo145_3 ?_;refine Q13 sz145 ?_;refine Q2 ?_;exact ret_many (.inl rfl) rfl (rl_c rfl mmQ (loadP_w ag145 sz145 rfl rfl) rfl (rl_t rfl rl_nil)) rfl ⟨by unfold newS;simp only [e];split<;>first|rfl|(exfalso;simp_all;done)|(exfalso;simp_all;omega),zle⟩
  ·have k2:=h2;try simp only [zs] at k2
   refine Q48 h2 h2 h2 h2 ?_;refine Q53 h2 h2 ?_;refine Q19 h2 ?_;refine Q71 ?_;refine Q0 ?_;refine Q181 bz145 bp145 ?_;refine Q13 sz145 ?_;refine Q10 ?_;exact ret_many (.inl rfl) rfl (rl_c rfl mmQ (loadP_w ag145 sz145 rfl rfl) rfl (rl_t rfl rl_nil)) rfl ⟨by unfold newS;simp only [e];split<;>first|rfl|(exfalso;simp_all;done)|(exfalso;simp_all;omega),zle⟩
 ·have k1:=h1;try simp only [zs] at k1
  have e:(if o<0 then x.en else o)=o:=if_neg k1;refine s_skip ?_;refine Q4 ?_;refine Q92 ?_;refine o_cases (want:=false) (j:=2) rfl rfl (fun h4=>?_) (fun h4=>?_)
  ·have k4:=h4;try simp only [zs] at k4
   refine Q32 h4 h4 ?_;refine Q22 ?_;refine Q14 h4 ?_;refine o_q (q_nil rfl) rfl rfl rfl ?_;refine Q74 h4 fo44_2 h4 ?_;refine Q121 ag3 sz3 h4 ?_;refine Q61 ?_;refine Q33 h4 ?_;refine o_nil ?_;refine s_cond rfl (fun h5=>?_) (fun h5=>?_)
   ·have k5:=h5;try simp only [zs] at k5
    refine Q0 ?_;refine Q181 bz145 bp145 ?_;refine Q13 sz145 ?_;refine Q10 ?_;exact ret_many (.inl rfl) rfl (rl_c rfl mmQ (loadP_w ag145 sz145 rfl rfl) rfl (rl_t rfl rl_nil)) rfl ⟨by unfold newS;simp only [e];split<;>first|rfl|(exfalso;simp_all;done)|(exfalso;simp_all;omega),zle⟩
   ·have k5:=h5;try simp only [zs] at k5
    refine Q69 ?_;refine Q22 ?_;refine Q81 fo44_0 ag9 sz9 ?_;refine Q91 ?_;refine Q206 bz145 bp145 fo145_0 fo145_1 fo145_2 fo145_3 ?_;refine Q13 sz145 ?_;refine Q2 ?_;exact ret_many (.inl rfl) rfl (rl_c rfl mmQ (loadP_w ag145 sz145 rfl rfl) rfl (rl_t rfl rl_nil)) rfl ⟨by unfold newS;simp only [e];split<;>first|rfl|(exfalso;simp_all;done)|(exfalso;simp_all;omega),zle⟩
  ·have k4:=h4;try simp only [zs] at k4
   refine Q48 h4 h4 h4 h4 ?_;refine Q53 h4 h4 ?_;refine Q19 h4 ?_;refine Q71 ?_;refine Q0 ?_;refine Q181 bz145 bp145 ?_;refine Q13 sz145 ?_;refine Q10 ?_;exact ret_many (.inl rfl) rfl (rl_c rfl mmQ (loadP_w ag145 sz145 rfl rfl) rfl (rl_t rfl rl_nil)) rfl ⟨by unfold newS;simp only [e];split<;>first|rfl|(exfalso;simp_all;done)|(exfalso;simp_all;omega),zle⟩
def tk134:Nat->Nat->Option Nat
 | 5,0=>some 0
 | 11,0=>some 0
 | 11,4=>some 0
 | _,_=>none
def pl134:Nat->List PStep
 | 2=>[.q 0,.q 1,.q 2,.q 3,.q 4,.q 5,.q 6,.q 7,.q 8,.q 9,.q 10,.q 11,.q 12,.q 13,.q 14,.q 15,.q 16,.q 17,.q 18,.q 19,.q 20,.q 21,.q 22,.q 23,.q 24,.q 25,.q 26,.q 27]
 | 4=>[.q 0,.q 1,.q 2,.q 3,.q 4,.q 5,.q 6,.q 7,.q 8]
 | _=>[]
theorem cb134:Tryz.f134.body.map (codeB Tryz.prog Tryz.f134.ntmps tk134 pl134)=some true:=by kernel_rfl
theorem goes134:goesB Tryz.prog 134=true:=by kernel_rfl
theorem lastF_app {L:List Rec}{r:Rec}{a:Int}:lastF (L++[r]) a (L++[r]).length=r.off:=by
 rw [List.length_append];show ((L++[r]).getD L.length default).off=r.off
 simp [List.getD]
theorem lastF_cut {l:List Rec}(hs:Sorted l){p i k:Nat}{a:Int}(hi:i<l.length)(hp:p<=i)(ha:a<=l[i].off):lastF ((l.drop p).take (min (i - p) k)) a ((l.drop p).take (min (i - p) k)).length+1<=l[i].off:=by
 have hc:=cut_len (l:=l) (p:=p) (k:=k) (i:=i) (by omega);rcases Nat.eq_zero_or_pos (min (i - p) k) with h|h
 ·rw [hc,h];show a - 1+1<=_;omega
 ·obtain⟨j,hj⟩ : ∃ j,min (i - p) k=j+1:=⟨_,(Nat.succ_pred_eq_of_pos h).symm⟩;rw [hc];have e2:∀ n,n=j+1->lastF ((l.drop p).take (min (i - p) k)) a n=(((l.drop p).take (min (i - p) k)).getD j default).off:=fun n hn=>by subst hn;rfl
  have e:=e2 _ hj;rw [e,getD_lt (by rw [hc];omega),List.getElem_take,List.getElem_drop];have:=List.pairwise_iff_getElem.1 hs (p+j) i (by omega) hi (by omega);omega
theorem snd134 (s:Sb)(y:Nat)(P:List KV)(q1 q2:Bool)(x:Tp)(many:Int)(M:Mem)(hy:M y=some (.cells (ryC x P q1 q2)))(hs1:s.name.size<2^63)(hs2:s.topic.size<2^63)(hs:Sorted x.recs)(hlen:x.recs.length<2^40)(hoff:∀ r∈x.recs,0<=r.off/\r.off<2^60)(hlow:0<=x.low/\x.low<2^60):SoundCall Tryz.prog 134 [encSb s,ptr y,int many] M fun r M'=>r = .tup [encSb (pollS s x many).1,.sl ((pollS s x many).2.1.map enc) false,int (pollS s x many).2.2]/\M.le M':=by
 refine SoundCall.go tk134 pl134 mixed Tryz.func134 cb134 rfl (Nat.le_of_ble_eq_true rfl) ?_;refine Q0 ?_;refine o_box zbx rfl rfl (fun B1 hB1=>?_);have ny1:y≠B1:=Mem.fresh_ne hB1 mmQ;have ny1':=ny1.symm;have m1:M B1=none:=zm hB1;refine o_alloc zc145 (fun B2 hB2=>?_);have ny2:y≠B2:=Mem.fresh_ne hB2 mmQ;have ny2':=ny2.symm;have f1_2:B1≠B2:=Mem.fresh_ne hB2 mmQ;have g2_1:B2≠B1:=f1_2.symm;have m2:M B2=none:=zm hB2;refine Q23 ?_;refine Q8 ?_;refine Q89 ag145 sz145 ?_;refine Q266 ?_;refine Q123 ?_;refine Q84 ?_;refine Q5 ?_;refine Q199 ?_;refine Q5 ?_;refine d_cases (want:=false) (j:=2) rfl rfl (fun h1=>?_) (fun h1=>?_)
 ·have k1:=h1;try simp only [zs] at k1
  refine Q132 fo145_1 h1 ?_;refine Q153 ag9 sz9 h1 ?_;refine Q167 h1 ?_;refine Q182 h1 ?_;refine Q132 fo44_0 h1 ?_;refine Q153 ag9 sz9 h1 ?_;refine d_yes rfl (q_sneq rfl rfl) rfl rfl rfl h1 rfl rfl ?_;refine Q112 h1 ?_;refine Q5 ?_;refine d_cases (want:=false) (j:=11) rfl rfl (fun h2=>?_) (fun h2=>?_)
  ·have k2:=h2;try simp only [zs] at k2
   refine Q132 fo145_3 h2 ?_;refine Q153 ag3 sz3 h2 ?_;refine Q167 h2 ?_;refine Q182 h2 ?_;refine Q132 fo44_2 h2 ?_;refine Q153 ag3 sz3 h2 ?_;refine Q186 h2 ?_;refine Q112 h2 ?_;refine Q5 ?_;refine d_cases (want:=false) (j:=20) rfl rfl (fun h3=>?_) (fun h3=>?_)
   ·have k3:=h3;try simp only [zs] at k3
    refine Q133 h3 ?_;refine Q226 h3 ?_;refine Q112 h3 ?_;refine Q5 ?_;refine d_cases (want:=false) (j:=24) rfl rfl (fun h4=>?_) (fun h4=>?_)
    ·have k4:=h4;try simp only [zs] at k4
     refine Q133 h4 ?_;refine Q186 h4 ?_;refine Q112 h4 ?_;refine d_nil ?_;refine s_cond rfl (fun h5=>?_) (fun h5=>?_)
     ·have k5:=h5;try simp only [zs] at k5
      refine Q51 ag145 sz145 sz145 ?_;refine Q23 ?_;refine Q10 ?_;exact ret_many (.inl rfl) rfl (rl_c rfl mmQ (loadP_w ag145 sz145 rfl rfl) rfl (rl_t rfl (rl_t rfl rl_nil))) rfl ⟨by unfold pollS;unfold ofS;split<;>first|rfl|(exfalso;simp_all;done)|(exfalso;simp_all;omega),zle⟩
     ·have k5:=h5;try simp only [zs] at k5
      have hc:(ofS s x && decide (s.nxt<=x.en) && decide (1<=many) && decide (many<=50))=true:=by simp_all [ofS]<;>omega
      have hri:rightSb s=true:=by simp_all [ofS]
      have hrl:=rightSb_le hri;refine Q35 ?_;refine s_draw rfl ?_;refine Q122 fo145_2 ag3 sz3 ?_;refine Q147 ?_;refine Q122 fo44_1 ag3 sz3 ?_;refine d_q rfl (q_max rfl rfl) rfl rfl rfl ?_;refine Q195 ?_;refine Q60 ?_;refine Q0 ?_;refine Q86 ?_;refine Q11 ?_;refine Q18 ?_;refine s_cut (fun S=>∃ T,∃ M':Mem,S=⟨setT (setT (setT T 3 (ptr B1)) 6 (ptr B2)) 11 (.sl ((pollL s x many).map enc) true),M'⟩/\M.le M'/\M' y=some (.cells (ryC x P q1 q2))/\M' B1=some (.cells (sbC ⟨s.name,s.topic,s.cur,lastF (pollL s x many) s.nxt (pollL s x many).length+1⟩))/\M' B2=some (.cells [str emp,str emp,int 0,int 0])) ?_ ?_
      ·refine s_block ?_;refine s_loop (fun m S=>∃ T,∃ M':Mem,∃ i:Nat,S=⟨setT (setT (setT (setT (setT (setT (setT T 1 (ptr y)) 2 (int many)) 3 (ptr B1)) 6 (ptr B2)) 10 (int (edge s x))) 11 (.sl (((x.recs.drop (atN x.recs s.nxt)).take (min (i - atN x.recs s.nxt) (min (max many 0).toNat (atN x.recs (edge s x) - atN x.recs s.nxt)))).map enc) true)) 12 (int (i:Nat)),M'⟩/\M.le M'/\M' y=some (.cells (ryC x P q1 q2))/\M' B1=some (.cells (sbC ⟨s.name,s.topic,s.cur,lastF ((x.recs.drop (atN x.recs s.nxt)).take (min (i - atN x.recs s.nxt) (min (max many 0).toNat (atN x.recs (edge s x) - atN x.recs s.nxt)))) s.nxt ((x.recs.drop (atN x.recs s.nxt)).take (min (i - atN x.recs s.nxt) (min (max many 0).toNat (atN x.recs (edge s x) - atN x.recs s.nxt)))).length+1⟩))/\M' B2=some (.cells [str emp,str emp,int 0,int 0])/\i<=x.recs.length/\m=x.recs.length - i) x.recs.length ?_ ?_
       ·have e0:(x.recs.drop (atN x.recs s.nxt)).take (min (0 - atN x.recs s.nxt) (min (max many 0).toNat (atN x.recs (edge s x) - atN x.recs s.nxt)))=[]:=by rw [Nat.zero_sub,Nat.zero_min];rfl
        exact⟨_,_,0,St.mkT (kp (kp (kp (kp (kp (kp (kp rfl rfl) rfl) rfl) rfl) rfl) (by rw [e0];rfl)) rfl).symm,zle,mmQ,(by rw [e0];show _=some (AObj.cells [str s.name,str s.topic,int s.cur,int (s.nxt - 1+1)]);rw [show s.nxt - 1+1=s.nxt by omega];exact mmQ),mmQ,by omega,rfl⟩
       rintro m S ⟨T,M',i,rfl,hle,hy',hB1',hB2',hi,rfl⟩;have hcl:=cut_len (p:=atN x.recs s.nxt) (k:=(min (max many 0).toNat (atN x.recs (edge s x) - atN x.recs s.nxt))) hi;have hcm:(List.map enc ((x.recs.drop (atN x.recs s.nxt)).take (min (i - atN x.recs s.nxt) (min (max many 0).toNat (atN x.recs (edge s x) - atN x.recs s.nxt))))).length=min (i - atN x.recs s.nxt) (min (max many 0).toNat (atN x.recs (edge s x) - atN x.recs s.nxt)):=by rw [List.length_map,hcl]
       have hE:=atN_le x.recs (edge s x);have hP:=atN_le x.recs s.nxt;refine Q4 ?_;refine Q62 fo44_4 ?_;refine Q124 ag35 sz35 ?_;refine Q75 und35 ?_;refine Q59 ?_;refine Q1 ?_;refine o_cases (want:=true) (j:=7) rfl rfl (fun h6=>?_) (fun h6=>?_)
       ·have k6:=h6;try simp only [zs] at k6
        refine Q14 h6 ?_;refine Q76 ?_;refine Q14 h6 ?_;refine Q75 und35 ?_;refine Q32 h6 h6 ?_;refine Q59 ?_;refine Q19 h6 ?_;refine o_nil ?_;refine s_cond rfl (fun h7=>?_) (fun h7=>?_)
        ·have k7:=h7;try simp only [zs] at k7
         have hir:=hoff x.recs[i] (List.getElem_mem _);have hcase:(i<atN x.recs s.nxt/\x.recs[i].off<lastF ((x.recs.drop (atN x.recs s.nxt)).take (min (i - atN x.recs s.nxt) (min (max many 0).toNat (atN x.recs (edge s x) - atN x.recs s.nxt)))) s.nxt ((x.recs.drop (atN x.recs s.nxt)).take (min (i - atN x.recs s.nxt) (min (max many 0).toNat (atN x.recs (edge s x) - atN x.recs s.nxt)))).length+1)\/(atN x.recs s.nxt<=i/\lastF ((x.recs.drop (atN x.recs s.nxt)).take (min (i - atN x.recs s.nxt) (min (max many 0).toNat (atN x.recs (edge s x) - atN x.recs s.nxt)))) s.nxt ((x.recs.drop (atN x.recs s.nxt)).take (min (i - atN x.recs s.nxt) (min (max many 0).toNat (atN x.recs (edge s x) - atN x.recs s.nxt)))).length+1<=x.recs[i].off):=by
          rcases Nat.lt_or_ge i (atN x.recs s.nxt) with h|h
          ·left;refine⟨h,?_⟩;obtain⟨_,h9⟩:=atN_lt h;have e0:(x.recs.drop (atN x.recs s.nxt)).take (min (i - atN x.recs s.nxt) (min (max many 0).toNat (atN x.recs (edge s x) - atN x.recs s.nxt)))=[]:=by rw [show i - atN x.recs s.nxt=0 by omega,Nat.zero_min];rfl
           rw [e0];show _<s.nxt - 1+1;omega
          ·exact .inr ⟨h,lastF_cut hs (by omega) h (atN_ge hs h (by omega))⟩
         refine Q55 ?_;refine Q95 fo44_4 ?_;refine Q116 ag35 sz35 ?_;refine Q137 und35 sz39 ?_;refine Q176 ag39 sz39 ?_;refine o_alloc zc39 (fun B3 hB3=>?_);have ny3:y≠B3:=Mem.fresh_ne hB3 mmQ;have ny3':=ny3.symm;have f1_3:B1≠B3:=Mem.fresh_ne hB3 mmQ;have g3_1:B3≠B1:=f1_3.symm;have f2_3:B2≠B3:=Mem.fresh_ne hB3 mmQ;have g3_2:B3≠B2:=f2_3.symm;have m3:M B3=none:=zm hB3;refine Q54 sz39 ?_;refine Q6 fo39_0 ag3 sz3 ?_;refine Q12 fo145_3 ag3 sz3 ?_;refine Q24 ?_;refine Q1 ?_;refine o_cases (want:=true) (j:=5) rfl rfl (fun h8=>?_) (fun h8=>?_)
         ·have k8:=h8;try simp only [zs] at k8
          refine Q74 h8 fo39_0 h8 ?_;refine Q79 ag3 sz3 ?_;refine Q32 h8 h8 ?_;refine Q59 ?_;refine Q19 h8 ?_;refine o_nil ?_;refine s_cond rfl (fun h9=>?_) (fun h9=>?_)
          ·have k9:=h9;try simp only [zs] at k9
           refine Q0 ?_;refine Q38 ?_;refine Q50 ag39 sz39 ?_;refine Q143 slt35 ?_;refine o_qs (q_app slt35 rfl rfl rfl rfl (by first|exact elsR|exact Els.cons rfl rfl Els.nil) (by first|exact (by first|exact elsR|exact Els.cons rfl rfl Els.nil)|exact Els.cons rfl rfl Els.nil) (by rw [hcm];simp;omega)) rfl rfl rfl rfl ?_;refine Q87 ?_;refine Q15 ?_;refine Q12 fo39_0 ag3 sz3 ?_;refine Q43 ?_;refine Q36 fo145_3 ?_;refine Q103 sz3 ?_;refine Q72 ?_;refine Q39 ?_;have hiE:i<atN x.recs (edge s x):=by
            rcases Nat.lt_or_ge i (atN x.recs (edge s x)) with h|h
            ·exact h
            ·have:=atN_ge (off:=edge s x) hs h (by omega);omega
           have hp:atN x.recs s.nxt<=i:=by omega
           have e1:=take_step (l:=x.recs) (p:=atN x.recs s.nxt) (i:=i) (k:=(min (max many 0).toNat (atN x.recs (edge s x) - atN x.recs s.nxt))) (by omega) hp (by omega);exact⟨x.recs.length - (i+1),by omega,_,_,i+1,St.mkT (kp (kp (kp (kp (kp (kp (kp rfl rfl) rfl) rfl) rfl) rfl) (app_map (f:=enc) (x:=x.recs[i]) e1)) rfl).symm,zle,mmQ,(by rw [e1,lastF_app];exact mmQ),mmQ,by omega,rfl⟩
          ·have k9:=h9;try simp only [zs] at k9
           refine Q47 ?_;refine Q39 ?_;have hiE:atN x.recs (edge s x)<=i:=by
            rcases Nat.lt_or_ge i (atN x.recs (edge s x)) with h|h
            ·obtain⟨_,h9⟩:=atN_lt h;omega
            ·exact h
           have e1:(x.recs.drop (atN x.recs s.nxt)).take (min (i+1 - atN x.recs s.nxt) (min (max many 0).toNat (atN x.recs (edge s x) - atN x.recs s.nxt)))=(x.recs.drop (atN x.recs s.nxt)).take (min (i - atN x.recs s.nxt) (min (max many 0).toNat (atN x.recs (edge s x) - atN x.recs s.nxt))):=by congr 1;omega
           exact⟨x.recs.length - (i+1),by omega,_,_,i+1,St.mkT (kp (kp (kp (kp (kp (kp (kp rfl rfl) rfl) rfl) rfl) rfl) (by rw [e1];rfl)) rfl).symm,zle,mmQ,(by rw [e1];exact mmQ),mmQ,by omega,rfl⟩
         ·have k8:=h8;try simp only [zs] at k8
          refine Q48 h8 h8 h8 h8 ?_;refine Q33 h8 ?_;refine Q115 ?_;refine Q47 ?_;refine Q39 ?_;have hp:i<atN x.recs s.nxt:=by omega
          have e1:(x.recs.drop (atN x.recs s.nxt)).take (min (i+1 - atN x.recs s.nxt) (min (max many 0).toNat (atN x.recs (edge s x) - atN x.recs s.nxt)))=(x.recs.drop (atN x.recs s.nxt)).take (min (i - atN x.recs s.nxt) (min (max many 0).toNat (atN x.recs (edge s x) - atN x.recs s.nxt))):=by congr 1;omega
          exact⟨x.recs.length - (i+1),by omega,_,_,i+1,St.mkT (kp (kp (kp (kp (kp (kp (kp rfl rfl) rfl) rfl) rfl) rfl) (by rw [e1];rfl)) rfl).symm,zle,mmQ,(by rw [e1];exact mmQ),mmQ,by omega,rfl⟩
        ·have k7:=h7;try simp only [zs] at k7
         refine Q26 ?_;refine s_inv ?_;have e:(x.recs.drop (atN x.recs s.nxt)).take (min (i - atN x.recs s.nxt) (min (max many 0).toNat (atN x.recs (edge s x) - atN x.recs s.nxt)))=pollL s x many:=by
          rw [pollL_cut hs];congr 1;omega
         rw [e] at hB1';exact⟨_,_,St.mkT (kp (kp (kp rfl rfl) rfl) (by rw [← e];rfl)).symm,hle,hy',hB1',hB2'⟩
       ·have k6:=h6;try simp only [zs] at k6
        refine Q48 h6 h6 h6 h6 ?_;refine Q33 h6 ?_;refine Q115 ?_;refine Q26 ?_;refine s_inv ?_;have e:(x.recs.drop (atN x.recs s.nxt)).take (min (i - atN x.recs s.nxt) (min (max many 0).toNat (atN x.recs (edge s x) - atN x.recs s.nxt)))=pollL s x many:=by
         rw [pollL_cut hs];congr 1;omega
        rw [e] at hB1';exact⟨_,_,St.mkT (kp (kp (kp rfl rfl) rfl) (by rw [← e];rfl)).symm,hle,hy',hB1',hB2'⟩
      rintro S ⟨T,M',rfl,hle,hy',hB1',hB2'⟩;refine Q89 ag145 sz145 ?_;refine Q76 ?_;refine Q13 sz145 ?_;refine Q23 ?_;refine Q2 ?_;exact ret_many (.inl rfl) rfl (rl_c rfl mmQ (loadP_w ag145 sz145 rfl rfl) rfl (rl_t rfl (rl_t rfl rl_nil))) rfl ⟨by unfold pollS;rw [if_pos hc];exact congrArg (fun n=>AVal.tup [encSb ⟨s.name,s.topic,s.cur,n⟩,.sl ((pollL s x many).map enc) false,int 0]) (lastF_end _ _).symm,zle⟩
    ·have k4:=h4;try simp only [zs] at k4
     refine Q25 h4 h4 ?_;refine Q111 h4 ?_;refine Q139 ?_;refine Q51 ag145 sz145 sz145 ?_;refine Q23 ?_;refine Q10 ?_;exact ret_many (.inl rfl) rfl (rl_c rfl mmQ (loadP_w ag145 sz145 rfl rfl) rfl (rl_t rfl (rl_t rfl rl_nil))) rfl ⟨by unfold pollS;unfold ofS;split<;>first|rfl|(exfalso;simp_all;done)|(exfalso;simp_all;omega),zle⟩
   ·have k3:=h3;try simp only [zs] at k3
    refine Q25 h3 h3 ?_;refine Q111 h3 ?_;refine Q5 ?_;refine Q90 ?_;refine Q134 ?_;refine Q139 ?_;refine Q51 ag145 sz145 sz145 ?_;refine Q23 ?_;refine Q10 ?_;exact ret_many (.inl rfl) rfl (rl_c rfl mmQ (loadP_w ag145 sz145 rfl rfl) rfl (rl_t rfl (rl_t rfl rl_nil))) rfl ⟨by unfold pollS;unfold ofS;split<;>first|rfl|(exfalso;simp_all;done)|(exfalso;simp_all;omega),zle⟩
  ·have k2:=h2;try simp only [zs] at k2
   iterate 3 refine Q25 h2 h2 ?_
   refine Q159 h2 ?_;refine Q111 h2 ?_;refine Q5 ?_;refine Q90 ?_;refine Q134 ?_;refine Q5 ?_;refine Q90 ?_;refine Q134 ?_;refine Q139 ?_;refine Q51 ag145 sz145 sz145 ?_;refine Q23 ?_;refine Q10 ?_;exact ret_many (.inl rfl) rfl (rl_c rfl mmQ (loadP_w ag145 sz145 rfl rfl) rfl (rl_t rfl (rl_t rfl rl_nil))) rfl ⟨by unfold pollS;unfold ofS;split<;>first|rfl|(exfalso;simp_all;done)|(exfalso;simp_all;omega),zle⟩
 ·have k1:=h1;try simp only [zs] at k1
  iterate 3 refine Q25 h1 h1 ?_
  refine Q159 h1 ?_;refine Q111 h1 ?_;refine Q5 ?_;iterate 3 refine Q90 ?_
  refine d_no rfl rfl rfl rfl rfl rfl ?_;refine Q134 ?_;refine Q5 ?_;refine Q90 ?_;refine Q134 ?_;refine Q5 ?_;refine Q90 ?_;refine Q134 ?_;refine Q139 ?_;refine Q51 ag145 sz145 sz145 ?_;refine Q23 ?_;refine Q10 ?_;exact ret_many (.inl rfl) rfl (rl_c rfl mmQ (loadP_w ag145 sz145 rfl rfl) rfl (rl_t rfl (rl_t rfl rl_nil))) rfl ⟨by unfold pollS;unfold ofS;split<;>first|rfl|(exfalso;simp_all;done)|(exfalso;simp_all;omega),zle⟩
end C17
