import Derived.Test.YthmhdhmfkegpiaaGreatDoorHz
import Derived.Test.YthmhdhmfkegpiaaGreatDoorNa1
open Go Go.Proofs Go.Am
set_option linter.unusedVariables false
set_option linter.unusedSimpArgs false
set_option autoImplicit false
set_option maxHeartbeats 4000000
set_option maxRecDepth 20000
namespace C17
theorem ag343:aggT Tryz.prog 343=some true:=by kernel_rfl
theorem ag392:aggT Tryz.prog 392=some true:=by kernel_rfl
theorem bz343:(zeroT Tryz.prog 343).map (fun z=>z.cells.toList.map AVal.raw)=some [.raw (.string { data:=#[] }),.raw (.string { data:=#[] }),.raw (.int .i64 0),.raw (.int .i64 0)]:=by kernel_rfl
theorem bp343:(aPlaces Tryz.prog 343).isSome=true:=by kernel_rfl
theorem bz392:(zeroT Tryz.prog 392).map (fun z=>z.cells.toList.map AVal.raw)=some [.raw (.int .i64 0),.raw (.int .i64 0)]:=by kernel_rfl
theorem bp392:(aPlaces Tryz.prog 392).isSome=true:=by kernel_rfl
theorem fo343_0:fo Tryz.prog 343 0=some (0,1):=by kernel_rfl
theorem fo343_1:fo Tryz.prog 343 1=some (1,1):=by kernel_rfl
theorem fo343_2:fo Tryz.prog 343 2=some (2,1):=by kernel_rfl
theorem fo343_3:fo Tryz.prog 343 3=some (3,1):=by kernel_rfl
theorem fo392_0:fo Tryz.prog 392 0=some (0,1):=by kernel_rfl
theorem fo392_1:fo Tryz.prog 392 1=some (1,1):=by kernel_rfl
theorem sz343:sizeT Tryz.prog 343=some 4:=by kernel_rfl
theorem sz392:sizeT Tryz.prog 392=some 2:=by kernel_rfl
theorem zc343:zeroCellsT Tryz.prog 343=some [.raw (.string { data:=#[] }),.raw (.string { data:=#[] }),.raw (.int .i64 0),.raw (.int .i64 0)]:=by kernel_rfl
theorem zc392:zeroCellsT Tryz.prog 392=some [.raw (.int .i64 0),.raw (.int .i64 0)]:=by kernel_rfl
def tk340:Nat->Nat->Option Nat:=fun _ _=>none
def pl340:Nat->List PStep:=fun _=>[]
theorem cb340:Tryz.f340.body.map (codeB Tryz.prog Tryz.f340.ntmps tk340 pl340)=some true:=by kernel_rfl
theorem goes340:goesB Tryz.prog 340=true:=by kernel_rfl
structure Sb where
 name:ByteArray
 topic:ByteArray
 cur:Int
 nxt:Int
def encSb (s:Sb):AVal:=.agg [str s.name,str s.topic,int s.cur,int s.nxt]
def mk (a b:Int):AVal:=.agg [int a,int b]
def rightSb (s:Sb):Bool:=word s.name && word s.topic && decide (0<=s.cur) && decide (s.cur<=s.nxt) && decide (s.nxt<=9007199254740991)
def ofS (s:Sb)(x:Tp):Bool:=rightSb s && decide (s.topic=x.name)
def newS (n:ByteArray)(x:Tp)(first:Int):Sb×Int:=if word n && decide ((if first<0 then x.en else first)<=x.en) then (⟨n,x.name,(if first<0 then x.en else first),(if first<0 then x.en else first)⟩,0) else (⟨emp,emp,0,0⟩,7)
def ackS (s:Sb)(o:Int):Sb×Int:=if rightSb s && decide (0<=o) && decide (o<s.nxt) then (⟨s.name,s.topic,max s.cur (o+1),s.nxt⟩,0) else (s,7)
def attS (s:Sb):Sb:=⟨s.name,s.topic,s.cur,s.cur⟩
def seekS (s:Sb)(x:Tp)(o:Int):Sb×Int:=if ofS s x && decide (0<=o) && decide (o<=x.en) then (⟨s.name,s.topic,o,o⟩,0) else (s,7)
def edge (s:Sb)(x:Tp):Int:=max s.cur x.low+100
def pollL (s:Sb)(x:Tp)(many:Int):List Rec:=(readL x.recs s.nxt many).take (atN (readL x.recs s.nxt many) (edge s x))
def pollS (s:Sb)(x:Tp)(many:Int):Sb×List Rec×Int :=
 if ofS s x && decide (s.nxt<=x.en) && decide (1<=many) && decide (many<=50) then (⟨s.name,s.topic,s.cur,match (pollL s x many).getLast? with|none=>s.nxt|some r=>r.off+1⟩,pollL s x many,0) else (s,[],7)
theorem sorted_sub {a b:List Rec}(h:Sorted b)(hs:List.Sublist a b):Sorted a:=List.Pairwise.sublist hs h
theorem readL_sub (l:List Rec)(a b:Int):List.Sublist (readL l a b) l:=(List.take_sublist _ _).trans (List.drop_sublist _ _)
theorem rightSb_le {s:Sb}(h:rightSb s=true):0<=s.cur/\s.cur<=s.nxt/\s.nxt<=9007199254740991:=by
 unfold rightSb at h;simp at h;omega
theorem snd340 (a b n:Int)(M:Mem)(hn:0<=n/\n<2^62):SoundCall Tryz.prog 340 [mk a b,int n] M fun r M'=>r=mk a (n+1)/\M.le M':=by
 refine SoundCall.go tk340 pl340 mixed Tryz.func340 cb340 rfl (Nat.le_of_ble_eq_true rfl) ?_;refine Q0 ?_;refine o_box zbx rfl rfl (fun B1 hB1=>?_);have m1:M B1=none:=zm hB1;refine o_alloc zc392 (fun B2 hB2=>?_);have f1_2:B1≠B2:=Mem.fresh_ne hB2 mmQ;have g2_1:B2≠B1:=f1_2.symm;have m2:M B2=none:=zm hB2;refine Q1 ?_;refine Q27 fo392_0 ag3 sz3 ?_;refine Q190 ?_;refine Q179 bz392 bp392 fo392_0 fo392_1 ?_;refine Q75 sz392 ?_;exact ret_cell (.inl rfl) rfl rfl mmQ (loadP_w ag392 sz392 rfl rfl) ⟨rfl,zle⟩
def tk342:Nat->Nat->Option Nat:=fun _ _=>none
def pl342:Nat->List PStep:=fun _=>[]
theorem cb342:Tryz.f342.body.map (codeB Tryz.prog Tryz.f342.ntmps tk342 pl342)=some true:=by kernel_rfl
theorem goes342:goesB Tryz.prog 342=true:=by kernel_rfl
theorem snd342 (a b n:Int)(M:Mem)(hn:0<=n/\n<2^62):SoundCall Tryz.prog 342 [mk a b,int n] M fun r M'=>r=mk (max a (n+1)) b/\M.le M':=by
 refine SoundCall.go tk342 pl342 mixed Tryz.func342 cb342 rfl (Nat.le_of_ble_eq_true rfl) ?_;refine Q0 ?_;refine o_box zbx rfl rfl (fun B1 hB1=>?_);have m1:M B1=none:=zm hB1;refine o_alloc zc392 (fun B2 hB2=>?_);have f1_2:B1≠B2:=Mem.fresh_ne hB2 mmQ;have g2_1:B2≠B1:=f1_2.symm;have m2:M B2=none:=zm hB2;refine Q1 ?_;refine Q27 fo392_0 ag3 sz3 ?_;refine Q190 ?_;refine o_q (q_max rfl rfl) rfl rfl rfl ?_;refine Q12 fo392_1 ag3 sz3 ?_;refine Q179 bz392 bp392 fo392_0 fo392_1 ?_;refine Q75 sz392 ?_;exact ret_cell (.inl rfl) rfl rfl mmQ (loadP_w ag392 sz392 rfl rfl) ⟨rfl,zle⟩
def tk337:Nat->Nat->Option Nat:=fun _ _=>none
def pl337:Nat->List PStep:=fun _=>[]
theorem cb337:Tryz.f337.body.map (codeB Tryz.prog Tryz.f337.ntmps tk337 pl337)=some true:=by kernel_rfl
theorem goes337:goesB Tryz.prog 337=true:=by kernel_rfl
theorem snd337 (a b:Int)(M:Mem):SoundCall Tryz.prog 337 [mk a b] M fun r M'=>r=mk a a/\M.le M':=by
 refine SoundCall.go tk337 pl337 mixed Tryz.func337 cb337 rfl (Nat.le_of_ble_eq_true rfl) ?_;refine Q0 ?_;refine o_box zbx rfl rfl (fun B1 hB1=>?_);have m1:M B1=none:=zm hB1;refine o_alloc zc392 (fun B2 hB2=>?_);have f1_2:B1≠B2:=Mem.fresh_ne hB2 mmQ;have g2_1:B2≠B1:=f1_2.symm;have m2:M B2=none:=zm hB2;refine Q1 ?_;refine Q27 fo392_0 ag3 sz3 ?_;refine Q12 fo392_0 ag3 sz3 ?_;refine Q179 bz392 bp392 fo392_0 fo392_1 ?_;refine Q75 sz392 ?_;exact ret_cell (.inl rfl) rfl rfl mmQ (loadP_w ag392 sz392 rfl rfl) ⟨rfl,zle⟩
def tk336:Nat->Nat->Option Nat:=fun _ _=>none
def pl336:Nat->List PStep:=fun _=>[]
theorem cb336:Tryz.f336.body.map (codeB Tryz.prog Tryz.f336.ntmps tk336 pl336)=some true:=by kernel_rfl
theorem goes336:goesB Tryz.prog 336=true:=by kernel_rfl
theorem snd336 (a b n:Int)(M:Mem):SoundCall Tryz.prog 336 [mk a b,int n] M fun r M'=>r=mk a a/\M.le M':=by
 refine SoundCall.go tk336 pl336 mixed Tryz.func336 cb336 rfl (Nat.le_of_ble_eq_true rfl) ?_;refine Q0 ?_;refine o_box zbx rfl rfl (fun B1 hB1=>?_);have m1:M B1=none:=zm hB1;refine o_alloc zc392 (fun B2 hB2=>?_);have f1_2:B1≠B2:=Mem.fresh_ne hB2 mmQ;have g2_1:B2≠B1:=f1_2.symm;have m2:M B2=none:=zm hB2;refine Q1 ?_;refine Q34 ag392 sz392 ?_;refine o_call (((snd337 a b _).det)) goes337 (ac (v_agg rfl) ac_nil) rfl ?_;refine Q75 sz392 ?_;exact ret_cell (.inl rfl) rfl rfl mmQ (loadP_w ag392 sz392 rfl rfl) ⟨rfl,zle⟩
def tk335:Nat->Nat->Option Nat:=fun _ _=>none
def pl335:Nat->List PStep
 | 2=>[.q 0,.q 1,.q 2,.q 3,.q 4,.s 5 [3,2],.q 6,.s 7 []]
 | _=>[]
theorem cb335:Tryz.f335.body.map (codeB Tryz.prog Tryz.f335.ntmps tk335 pl335)=some true:=by kernel_rfl
theorem goes335:goesB Tryz.prog 335=true:=by kernel_rfl
theorem snd335 (s:Sb)(n c d:Int)(f:Nat)(M:Mem)(hf:∀ M,SoundCall Tryz.prog f [mk s.cur s.nxt,int n] M fun r M'=>r=mk c d/\M'=M)(hg:goesB Tryz.prog f=true):SoundCall Tryz.prog 335 [encSb s,int n,.raw (.func (.func f) #[] #[])] M fun r M'=>r=encSb ⟨s.name,s.topic,c,d⟩/\M.le M':=by
 refine SoundCall.go tk335 pl335 mixed Tryz.func335 cb335 rfl (Nat.le_of_ble_eq_true rfl) ?_;refine Q0 ?_;refine o_box zbx rfl rfl (fun B1 hB1=>?_);have m1:M B1=none:=zm hB1;refine o_alloc zc343 (fun B2 hB2=>?_);have f1_2:B1≠B2:=Mem.fresh_ne hB2 mmQ;have g2_1:B2≠B1:=f1_2.symm;have m2:M B2=none:=zm hB2;refine Q1 ?_;refine Q5 ?_;refine Q12 fo343_2 ag3 sz3 ?_;refine Q12 fo343_3 ag3 sz3 ?_;refine Q179 bz392 bp392 fo392_0 fo392_1 ?_;refine Q2 ?_;refine o_callv rfl ((hf _)) hg (ac (v_agg rfl) (ac (v_raw rfl) ac_nil)) rfl rfl ?_;rintro q M'' ⟨rfl,rfl⟩;refine o_alloc zc392 (fun B3 hB3=>?_);have f1_3:B1≠B3:=Mem.fresh_ne hB3 mmQ;have g3_1:B3≠B1:=f1_3.symm;have f2_3:B2≠B3:=Mem.fresh_ne hB3 mmQ;have g3_2:B3≠B2:=f2_3.symm;have m3:M B3=none:=zm hB3;refine Q6 sz392 ?_;refine Q70 ?_;refine s_draw rfl ?_;refine Q43 fo392_0 ag3 sz3 fo392_1 ag3 sz3 ?_;refine Q22 fo343_2 ?_;refine Q3 ?_;refine Q98 sz3 ?_;refine o_nil ⟨(by simp [Mem.upd, *]),?_⟩;refine Q22 fo343_3 ?_;refine Q3 ?_;refine Q98 sz3 ?_;refine o_nil ⟨(by simp [Mem.upd, *]),?_⟩;refine d_nil ?_;refine Q34 ag343 sz343 ?_;refine Q75 sz343 ?_;exact ret_cell (.inl rfl) rfl rfl mmQ (loadP_w ag343 sz343 rfl rfl) ⟨rfl,zle⟩
def tk341:Nat->Nat->Option Nat:=fun _ _=>none
def pl341:Nat->List PStep:=fun _=>[]
theorem cb341:Tryz.f341.body.map (codeB Tryz.prog Tryz.f341.ntmps tk341 pl341)=some true:=by kernel_rfl
theorem goes341:goesB Tryz.prog 341=true:=by kernel_rfl
theorem snd341 (s:Sb)(M:Mem):SoundCall Tryz.prog 341 [encSb s] M fun r M'=>r=bool (rightSb s)/\M.le M':=by
 refine SoundCall.go tk341 pl341 mixed Tryz.func341 cb341 rfl (Nat.le_of_ble_eq_true rfl) ?_;refine Q0 ?_;refine o_box zbx rfl rfl (fun B1 hB1=>?_);have m1:M B1=none:=zm hB1;refine Q7 ?_;refine Q27 fo343_0 ag9 sz9 ?_;refine o_call (((snd305 s.name _).det)) goes305 (ac (v_raw rfl) ac_nil) rfl ?_;refine Q2 ?_;refine o_cases (want:=true) (j:=3) rfl rfl (fun h1=>?_) (fun h1=>?_)
 ·have k1:=h1;try simp only [zs] at k1
  refine Q110 h1 fo343_1 h1 ?_;refine Q46 ag9 sz9 ?_;refine Q16 h1 ?_;refine o_call (((snd305 s.topic _).det)) goes305 (ac (v_raw rfl) ac_nil) rfl ?_;refine Q32 h1 ?_;refine Q2 ?_;refine o_cases (want:=true) (j:=8) rfl rfl (fun h2=>?_) (fun h2=>?_)
  ·have k2:=h2;try simp only [zs] at k2
   refine Q110 h2 fo343_2 h2 ?_;refine Q46 ag3 sz3 ?_;refine Q16 h2 ?_;refine Q23 ?_;refine Q32 h2 ?_;refine Q2 ?_;refine o_cases (want:=true) (j:=13) rfl rfl (fun h3=>?_) (fun h3=>?_)
   ·have k3:=h3;try simp only [zs] at k3
    refine Q110 h3 fo343_2 h3 ?_;refine Q46 ag3 sz3 ?_;refine Q110 h3 fo343_3 h3 ?_;refine Q46 ag3 sz3 ?_;refine Q16 h3 ?_;refine Q89 ?_;refine Q32 h3 ?_;refine Q2 ?_;refine o_cases (want:=true) (j:=20) rfl rfl (fun h4=>?_) (fun h4=>?_)
    ·have k4:=h4;try simp only [zs] at k4
     refine Q110 h4 fo343_3 h4 ?_;refine Q46 ag3 sz3 ?_;refine Q16 h4 ?_;refine Q89 ?_;refine Q32 h4 ?_;refine Q4 ?_;refine⟨congrArg (fun b=>AVal.raw (.bool b)) ?_,zle⟩;simp_all [rightSb]<;>(intros;omega)
    ·have k4:=h4;try simp only [zs] at k4
     refine Q106 h4 h4 h4 ?_;refine Q30 h4 ?_;refine Q4 ?_;refine⟨congrArg (fun b=>AVal.raw (.bool b)) ?_,zle⟩;simp_all [rightSb]<;>(intros;omega)
   ·have k3:=h3;try simp only [zs] at k3
    refine Q24 h3 h3 ?_;refine Q106 h3 h3 h3 ?_;refine Q30 h3 ?_;refine Q99 ?_;refine Q21 ?_;refine Q4 ?_;refine⟨congrArg (fun b=>AVal.raw (.bool b)) ?_,zle⟩;simp_all [rightSb]<;>(intros;omega)
  ·have k2:=h2;try simp only [zs] at k2
   refine Q106 h2 h2 h2 ?_;refine Q30 h2 ?_;refine Q111 ?_;refine Q81 ?_;refine o_no rfl rfl rfl rfl rfl ?_;refine Q21 ?_;refine Q99 ?_;refine Q21 ?_;refine Q4 ?_;refine⟨congrArg (fun b=>AVal.raw (.bool b)) ?_,zle⟩;simp_all [rightSb]<;>(intros;omega)
 ·have k1:=h1;try simp only [zs] at k1
  refine Q106 h1 h1 h1 ?_;refine Q30 h1 ?_;refine Q99 ?_;refine Q21 ?_;refine Q111 ?_;refine Q81 ?_;refine o_no rfl rfl rfl rfl rfl ?_;refine Q21 ?_;refine Q99 ?_;refine Q21 ?_;refine Q4 ?_;refine⟨congrArg (fun b=>AVal.raw (.bool b)) ?_,zle⟩;simp_all [rightSb]<;>(intros;omega)
def tk338:Nat->Nat->Option Nat:=fun _ _=>none
def pl338:Nat->List PStep
 | 1=>[.q 0,.s 1 [],.q 2,.q 3,.q 4,.q 5,.s 6 [4,3,0],.q 7,.q 8,.q 9]
 | _=>[]
theorem cb338:Tryz.f338.body.map (codeB Tryz.prog Tryz.f338.ntmps tk338 pl338)=some true:=by kernel_rfl
theorem goes338:goesB Tryz.prog 338=true:=by kernel_rfl
theorem snd338 (s:Sb)(t m:Nat)(x:Tp)(M:Mem)(ht:M t=some (.cells (tpC m x)))(hm:M m=some (tpK x))(htm:t≠m):SoundCall Tryz.prog 338 [encSb s,ptr t] M fun r M'=>r=bool (ofS s x)/\M.le M':=by
 refine SoundCall.go tk338 pl338 mixed Tryz.func338 cb338 rfl (Nat.le_of_ble_eq_true rfl) ?_;refine Q0 ?_;refine o_box zbx rfl rfl (fun B1 hB1=>?_);have htm':=htm.symm;have n1:t≠B1:=Mem.fresh_ne hB1 ht;have n1':=n1.symm;have n2:m≠B1:=Mem.fresh_ne hB1 hm;have n2':=n2.symm;have m1:M B1=none:=zm hB1;refine Q7 ?_;refine Q91 ?_;refine Q124 ag343 sz343 ?_;refine Q3 ?_;refine o_call (((snd341 s _).det)) goes341 (ac (v_agg rfl) ac_nil) rfl ?_;refine o_nil ⟨(by simp [Mem.upd, *]),?_⟩;refine Q14 ?_;refine d_cases (want:=true) (j:=2) rfl rfl (fun h1=>?_) (fun h1=>?_)
 ·have k1:=h1;try simp only [zs] at k1
  refine Q161 fo343_1 h1 ?_;refine d_yes rfl (q_ldm ag9 sz9 rfl mmQ rfl (v_raw rfl)) rfl rfl rfl h1 rfl rfl ?_;refine Q162 h1 ?_;refine Q3 ?_;refine Q16 h1 ?_;refine Q251 ?_;refine o_nil ⟨(by simp [Mem.upd, *]),?_⟩;refine d_yes rfl (q_seql rfl rfl) rfl rfl rfl h1 rfl rfl ?_;refine Q174 h1 ?_;refine Q125 ?_;refine⟨congrArg (fun b=>AVal.raw (.bool b)) ?_,zle⟩;simp_all [ofS]
 ·have k1:=h1;try simp only [zs] at k1
  refine Q66 h1 h1 ?_;refine Q168 h1 ?_;refine Q3 ?_;refine Q156 h1 ?_;refine o_nil ⟨(by simp [Mem.upd, *]),?_⟩;refine Q168 h1 ?_;refine Q175 h1 ?_;refine Q125 ?_;refine⟨congrArg (fun b=>AVal.raw (.bool b)) ?_,zle⟩;simp_all [ofS]
def tk298:Nat->Nat->Option Nat:=fun _ _=>none
def pl298:Nat->List PStep:=fun _=>[]
theorem cb298:Tryz.f298.body.map (codeB Tryz.prog Tryz.f298.ntmps tk298 pl298)=some true:=by kernel_rfl
theorem goes298:goesB Tryz.prog 298=true:=by kernel_rfl
theorem snd298 (s:Sb)(o:Int)(M:Mem):SoundCall Tryz.prog 298 [encSb s,int o] M fun r M'=>r = .tup [encSb (ackS s o).1,int (ackS s o).2]/\M.le M':=by
 refine SoundCall.go tk298 pl298 mixed Tryz.func298 cb298 rfl (Nat.le_of_ble_eq_true rfl) ?_;refine Q0 ?_;refine o_box zbx rfl rfl (fun B1 hB1=>?_);have m1:M B1=none:=zm hB1;refine o_alloc zc343 (fun B2 hB2=>?_);have f1_2:B1≠B2:=Mem.fresh_ne hB2 mmQ;have g2_1:B2≠B1:=f1_2.symm;have m2:M B2=none:=zm hB2;refine Q127 ?_;refine Q45 ag343 sz343 ?_;refine o_call (((snd341 s _).det)) goes341 (ac (v_agg rfl) ac_nil) rfl ?_;refine Q119 ?_;refine o_cases (want:=false) (j:=3) rfl rfl (fun h1=>?_) (fun h1=>?_)
 ·have k1:=h1;try simp only [zs] at k1
  refine Q60 h1 h1 ?_;refine Q109 ?_;refine Q30 h1 ?_;refine Q2 ?_;refine o_cases (want:=false) (j:=7) rfl rfl (fun h2=>?_) (fun h2=>?_)
  ·have k2:=h2;try simp only [zs] at k2
   refine Q60 h2 h2 ?_;refine o_q (q_fr fo343_3 rfl) rfl rfl rfl ?_;refine o_yes rfl rfl rfl h2 ?_;refine Q46 ag3 sz3 ?_;refine Q16 h2 ?_;refine Q23 ?_;refine Q30 h2 ?_;refine Q1 ?_;refine s_cond rfl (fun h3=>?_) (fun h3=>?_)
   ·have k3:=h3;try simp only [zs] at k3
    refine Q34 ag343 sz343 ?_;refine Q6 sz343 ?_;refine Q11 ?_;exact ret_many (.inl rfl) rfl (rl_c rfl mmQ (loadP_w ag343 sz343 rfl rfl) rfl (rl_t rfl rl_nil)) rfl ⟨by unfold ackS;split<;>first|rfl|(exfalso;simp_all;done)|(exfalso;simp_all;omega),zle⟩
   ·have k3:=h3;try simp only [zs] at k3
    have hle:=(rightSb_le (by simp_all:rightSb s=true));refine Q13 ?_;refine Q34 ag343 sz343 ?_;refine Q2 ?_;refine o_call (((snd335 s o (max s.cur (o+1)) s.nxt 342 _ (fun M=>(snd342 _ _ _ M (by omega)).det) goes342).det)) goes335 (ac (v_agg rfl) (ac (v_raw rfl) (ac (v_raw rfl) ac_nil))) rfl ?_;refine Q6 sz343 ?_;refine Q4 ?_;exact ret_many (.inl rfl) rfl (rl_c rfl mmQ (loadP_w ag343 sz343 rfl rfl) rfl (rl_t rfl rl_nil)) rfl ⟨by unfold ackS;split<;>first|rfl|(exfalso;simp_all;done)|(exfalso;simp_all;omega),zle⟩
  ·have k2:=h2;try simp only [zs] at k2
   refine Q24 h2 h2 ?_;refine Q24 h2 h2 ?_;refine Q32 h2 ?_;refine Q149 ?_;refine Q34 ag343 sz343 ?_;refine Q6 sz343 ?_;refine Q11 ?_;exact ret_many (.inl rfl) rfl (rl_c rfl mmQ (loadP_w ag343 sz343 rfl rfl) rfl (rl_t rfl rl_nil)) rfl ⟨by unfold ackS;split<;>first|rfl|(exfalso;simp_all;done)|(exfalso;simp_all;omega),zle⟩
 ·have k1:=h1;try simp only [zs] at k1
  refine Q24 h1 h1 ?_;refine Q32 h1 ?_;refine Q111 ?_;refine Q81 ?_;refine Q67 ?_;refine Q149 ?_;refine Q34 ag343 sz343 ?_;refine Q6 sz343 ?_;refine Q11 ?_;exact ret_many (.inl rfl) rfl (rl_c rfl mmQ (loadP_w ag343 sz343 rfl rfl) rfl (rl_t rfl rl_nil)) rfl ⟨by unfold ackS;split<;>first|rfl|(exfalso;simp_all;done)|(exfalso;simp_all;omega),zle⟩
def tk296:Nat->Nat->Option Nat:=fun _ _=>none
def pl296:Nat->List PStep:=fun _=>[]
theorem cb296:Tryz.f296.body.map (codeB Tryz.prog Tryz.f296.ntmps tk296 pl296)=some true:=by kernel_rfl
theorem goes296:goesB Tryz.prog 296=true:=by kernel_rfl
theorem snd296 (s:Sb)(M:Mem):SoundCall Tryz.prog 296 [encSb s] M fun r M'=>r=encSb (attS s)/\M.le M':=by
 refine SoundCall.go tk296 pl296 mixed Tryz.func296 cb296 rfl (Nat.le_of_ble_eq_true rfl) ?_;refine Q0 ?_;refine o_box zbx rfl rfl (fun B1 hB1=>?_);have m1:M B1=none:=zm hB1;refine o_alloc zc343 (fun B2 hB2=>?_);have f1_2:B1≠B2:=Mem.fresh_ne hB2 mmQ;have g2_1:B2≠B1:=f1_2.symm;have m2:M B2=none:=zm hB2;refine Q1 ?_;refine Q34 ag343 sz343 ?_;refine o_call (((snd335 s 0 s.cur s.cur 336 _ (fun M=>(snd336 _ _ _ M).det) goes336).det)) goes335 (ac (v_agg rfl) (ac (v_raw rfl) (ac (v_raw rfl) ac_nil))) rfl ?_;refine Q75 sz343 ?_;exact ret_cell (.inl rfl) rfl rfl mmQ (loadP_w ag343 sz343 rfl rfl) ⟨rfl,zle⟩
def tk299:Nat->Nat->Option Nat:=fun _ _=>none
def pl299:Nat->List PStep:=fun _=>[]
theorem cb299:Tryz.f299.body.map (codeB Tryz.prog Tryz.f299.ntmps tk299 pl299)=some true:=by kernel_rfl
theorem goes299:goesB Tryz.prog 299=true:=by kernel_rfl
theorem snd299 (s:Sb)(t m:Nat)(x:Tp)(o:Int)(M:Mem)(ht:M t=some (.cells (tpC m x)))(hm:M m=some (tpK x))(htm:t≠m):SoundCall Tryz.prog 299 [encSb s,ptr t,int o] M fun r M'=>r = .tup [encSb (seekS s x o).1,int (seekS s x o).2]/\M.le M':=by
 refine SoundCall.go tk299 pl299 mixed Tryz.func299 cb299 rfl (Nat.le_of_ble_eq_true rfl) ?_;refine Q0 ?_;refine o_box zbx rfl rfl (fun B1 hB1=>?_);have htm':=htm.symm;have n1:t≠B1:=Mem.fresh_ne hB1 ht;have n1':=n1.symm;have n2:m≠B1:=Mem.fresh_ne hB1 hm;have n2':=n2.symm;have m1:M B1=none:=zm hB1;refine o_alloc zc343 (fun B2 hB2=>?_);have n3:t≠B2:=Mem.fresh_ne hB2 mmQ;have n3':=n3.symm;have n4:m≠B2:=Mem.fresh_ne hB2 mmQ;have n4':=n4.symm;have f1_2:B1≠B2:=Mem.fresh_ne hB2 mmQ;have g2_1:B2≠B1:=f1_2.symm;have m2:M B2=none:=zm hB2;refine Q127 ?_;refine Q45 ag343 sz343 ?_;refine Q10 ?_;refine o_call (((snd338 s t m x _ mmQ mmQ htm).det)) goes338 (ac (v_agg rfl) (ac (mvQ) ac_nil)) rfl ?_;refine Q119 ?_;refine o_cases (want:=false) (j:=4) rfl rfl (fun h1=>?_) (fun h1=>?_)
 ·have k1:=h1;try simp only [zs] at k1
  refine Q60 h1 h1 ?_;refine Q109 ?_;refine Q30 h1 ?_;refine Q2 ?_;refine o_cases (want:=false) (j:=8) rfl rfl (fun h2=>?_) (fun h2=>?_)
  ·have k2:=h2;try simp only [zs] at k2
   refine Q60 h2 h2 ?_;refine Q10 ?_;refine Q16 h2 ?_;refine Q207 ?_;refine Q16 h2 ?_;refine Q115 ?_;refine Q30 h2 ?_;refine Q1 ?_;refine s_cond rfl (fun h3=>?_) (fun h3=>?_)
   ·have k3:=h3;try simp only [zs] at k3
    refine Q34 ag343 sz343 ?_;refine Q6 sz343 ?_;refine Q11 ?_;exact ret_many (.inl rfl) rfl (rl_c rfl mmQ (loadP_w ag343 sz343 rfl rfl) rfl (rl_t rfl rl_nil)) rfl ⟨by unfold seekS;split<;>first|rfl|(exfalso;simp_all;done)|(exfalso;simp_all;omega),zle⟩
   ·have k3:=h3;try simp only [zs] at k3
    refine Q71 ?_;refine Q2 ?_;refine Q29 fo343_2 ?_;refine Q98 sz3 ?_;refine Q29 fo343_3 ?_;refine Q62 sz3 ?_;refine Q34 ag343 sz343 ?_;refine Q6 sz343 ?_;refine Q4 ?_;exact ret_many (.inl rfl) rfl (rl_c rfl mmQ (loadP_w ag343 sz343 rfl rfl) rfl (rl_t rfl rl_nil)) rfl ⟨by unfold seekS;split<;>first|rfl|(exfalso;simp_all;done)|(exfalso;simp_all;omega),zle⟩
  ·have k2:=h2;try simp only [zs] at k2
   refine Q24 h2 h2 ?_;refine Q24 h2 h2 ?_;refine Q32 h2 ?_;refine Q149 ?_;refine Q34 ag343 sz343 ?_;refine Q6 sz343 ?_;refine Q11 ?_;exact ret_many (.inl rfl) rfl (rl_c rfl mmQ (loadP_w ag343 sz343 rfl rfl) rfl (rl_t rfl rl_nil)) rfl ⟨by unfold seekS;split<;>first|rfl|(exfalso;simp_all;done)|(exfalso;simp_all;omega),zle⟩
 ·have k1:=h1;try simp only [zs] at k1
  refine Q24 h1 h1 ?_;refine Q32 h1 ?_;refine Q111 ?_;refine Q81 ?_;refine Q67 ?_;refine Q149 ?_;refine Q34 ag343 sz343 ?_;refine Q6 sz343 ?_;refine Q11 ?_;exact ret_many (.inl rfl) rfl (rl_c rfl mmQ (loadP_w ag343 sz343 rfl rfl) rfl (rl_t rfl rl_nil)) rfl ⟨by unfold seekS;split<;>first|rfl|(exfalso;simp_all;done)|(exfalso;simp_all;omega),zle⟩
def tk291:Nat->Nat->Option Nat:=fun _ _=>none
def pl291:Nat->List PStep:=fun _=>[]
theorem cb291:Tryz.f291.body.map (codeB Tryz.prog Tryz.f291.ntmps tk291 pl291)=some true:=by kernel_rfl
theorem goes291:goesB Tryz.prog 291=true:=by kernel_rfl
theorem snd291 (n:ByteArray)(t m:Nat)(x:Tp)(o:Int)(M:Mem)(ht:M t=some (.cells (tpC m x)))(hm:M m=some (tpK x))(htm:t≠m):SoundCall Tryz.prog 291 [str n,ptr t,int o] M fun r M'=>r = .tup [encSb (newS n x o).1,int (newS n x o).2]/\M.le M':=by
 refine SoundCall.go tk291 pl291 mixed Tryz.func291 cb291 rfl (Nat.le_of_ble_eq_true rfl) ?_;refine Q0 ?_;refine o_alloc zc343 (fun B1 hB1=>?_);have htm':=htm.symm;have n1:t≠B1:=Mem.fresh_ne hB1 ht;have n1':=n1.symm;have n2:m≠B1:=Mem.fresh_ne hB1 hm;have n2':=n2.symm;have m1:M B1=none:=zm hB1;refine Q40 ?_;refine Q84 ?_;refine s_cond rfl (fun h1=>?_) (fun h1=>?_)
 ·have k1:=h1;try simp only [zs] at k1
  have e:(if o<0 then x.en else o)=x.en:=if_pos k1;refine Q19 ?_;refine Q10 ?_;refine Q207 ?_;refine Q40 ?_;refine o_call (((snd305 n _).det)) goes305 (ac (v_raw rfl) ac_nil) rfl ?_;refine Q119 ?_;refine o_cases (want:=false) (j:=3) rfl rfl (fun h2=>?_) (fun h2=>?_)
  ·have k2:=h2;try simp only [zs] at k2
   refine Q60 h2 h2 ?_;refine Q10 ?_;refine Q16 h2 ?_;refine Q207 ?_;refine Q16 h2 ?_;refine Q115 ?_;refine Q30 h2 ?_;refine Q1 ?_;refine s_cond rfl (fun h3=>?_) (fun h3=>?_)
   ·have k3:=h3;try simp only [zs] at k3
    refine Q0 ?_;refine Q233 bz343 bp343 ?_;refine Q6 sz343 ?_;refine Q11 ?_;exact ret_many (.inl rfl) rfl (rl_c rfl mmQ (loadP_w ag343 sz343 rfl rfl) rfl (rl_t rfl rl_nil)) rfl ⟨by unfold newS;simp only [e];split<;>first|rfl|(exfalso;simp_all;done)|(exfalso;simp_all;omega),zle⟩
   ·have k3:=h3;try simp only [zs] at k3
    refine Q71 ?_;refine Q10 ?_;refine Q251 ?_;refine Q64 ?_;refine Q249 bz343 bp343 fo343_0 fo343_1 fo343_2 fo343_3 ?_;refine Q6 sz343 ?_;refine Q4 ?_;exact ret_many (.inl rfl) rfl (rl_c rfl mmQ (loadP_w ag343 sz343 rfl rfl) rfl (rl_t rfl rl_nil)) rfl ⟨by unfold newS;simp only [e];split<;>first|rfl|(exfalso;simp_all;done)|(exfalso;simp_all;omega),zle⟩
  ·have k2:=h2;try simp only [zs] at k2
   refine Q24 h2 h2 ?_;refine Q24 h2 h2 ?_;refine Q32 h2 ?_;refine Q149 ?_;refine Q0 ?_;refine Q233 bz343 bp343 ?_;refine Q6 sz343 ?_;refine Q11 ?_;exact ret_many (.inl rfl) rfl (rl_c rfl mmQ (loadP_w ag343 sz343 rfl rfl) rfl (rl_t rfl rl_nil)) rfl ⟨by unfold newS;simp only [e];split<;>first|rfl|(exfalso;simp_all;done)|(exfalso;simp_all;omega),zle⟩
 ·have k1:=h1;try simp only [zs] at k1
  have e:(if o<0 then x.en else o)=o:=if_neg k1;refine Q13 ?_;refine Q9 ?_;refine o_call (((snd305 n _).det)) goes305 (ac (v_raw rfl) ac_nil) rfl ?_;refine Q119 ?_;refine o_cases (want:=false) (j:=3) rfl rfl (fun h4=>?_) (fun h4=>?_)
  ·have k4:=h4;try simp only [zs] at k4
   refine Q60 h4 h4 ?_;refine Q10 ?_;refine Q16 h4 ?_;refine Q207 ?_;refine Q16 h4 ?_;refine Q115 ?_;refine Q30 h4 ?_;refine Q1 ?_;refine s_cond rfl (fun h5=>?_) (fun h5=>?_)
   ·have k5:=h5;try simp only [zs] at k5
    refine Q0 ?_;refine Q233 bz343 bp343 ?_;refine Q6 sz343 ?_;refine Q11 ?_;exact ret_many (.inl rfl) rfl (rl_c rfl mmQ (loadP_w ag343 sz343 rfl rfl) rfl (rl_t rfl rl_nil)) rfl ⟨by unfold newS;simp only [e];split<;>first|rfl|(exfalso;simp_all;done)|(exfalso;simp_all;omega),zle⟩
   ·have k5:=h5;try simp only [zs] at k5
    refine Q71 ?_;refine Q10 ?_;refine Q251 ?_;refine Q64 ?_;refine Q249 bz343 bp343 fo343_0 fo343_1 fo343_2 fo343_3 ?_;refine Q6 sz343 ?_;refine Q4 ?_;exact ret_many (.inl rfl) rfl (rl_c rfl mmQ (loadP_w ag343 sz343 rfl rfl) rfl (rl_t rfl rl_nil)) rfl ⟨by unfold newS;simp only [e];split<;>first|rfl|(exfalso;simp_all;done)|(exfalso;simp_all;omega),zle⟩
  ·have k4:=h4;try simp only [zs] at k4
   refine Q24 h4 h4 ?_;refine Q24 h4 h4 ?_;refine Q32 h4 ?_;refine Q149 ?_;refine Q0 ?_;refine Q233 bz343 bp343 ?_;refine Q6 sz343 ?_;refine Q11 ?_;exact ret_many (.inl rfl) rfl (rl_c rfl mmQ (loadP_w ag343 sz343 rfl rfl) rfl (rl_t rfl rl_nil)) rfl ⟨by unfold newS;simp only [e];split<;>first|rfl|(exfalso;simp_all;done)|(exfalso;simp_all;omega),zle⟩
def tk297:Nat->Nat->Option Nat:=fun _ _=>none
def pl297:Nat->List PStep
 | 1=>[.q 0,.q 1,.s 2 [],.q 3,.q 4,.q 5,.q 6,.q 7,.s 8 [6,5,3,1,0],.q 9,.q 10,.q 11,.q 12,.q 13,.q 14,.q 15,.q 16,.q 17,.q 18]
 | 4=>[.q 0,.q 1,.q 2,.s 3 [1,0],.q 4,.q 5,.q 6]
 | 8=>[.q 0,.q 1,.q 2,.q 3,.q 4,.q 5,.q 6,.q 7,.s 8 [6,5,4,3,2,1],.s 9 []]
 | _=>[]
theorem cb297:Tryz.f297.body.map (codeB Tryz.prog Tryz.f297.ntmps tk297 pl297)=some true:=by kernel_rfl
theorem goes297:goesB Tryz.prog 297=true:=by kernel_rfl
theorem last_take {L:List Rec}{k i:Nat}(h:i<(L.take k).length)(hk:k<=L.length)(hi:i=k - 1)(hk0:0<k):(L.take k)[i]=L[k - 1]'(by omega):=by
 subst hi;rw [List.getElem_take]
theorem nxt_last {l:List Rec}{j:Nat}(hj':j<l.length)(hj:j=l.length - 1)(n:Int):(match l.getLast? with|none=>n|some r=>r.off+1)=l[j].off+1:=by
 subst hj;rw [List.getLast?_eq_getElem?,List.getElem?_eq_getElem hj']
theorem pollL_sub (s:Sb)(x:Tp)(many:Int):List.Sublist (pollL s x many) x.recs:=(List.take_sublist _ _).trans (readL_sub _ _ _)
theorem snd297 (s:Sb)(t m:Nat)(x:Tp)(many:Int)(M:Mem)(ht:M t=some (.cells (tpC m x)))(hm:M m=some (tpK x))(htm:t≠m)(hs:Sorted x.recs)(hlen:x.recs.length<2^40)(hoff:∀ r∈x.recs,0<=r.off/\r.off<2^60)(hlow:0<=x.low/\x.low<2^60):SoundCall Tryz.prog 297 [encSb s,ptr t,int many] M fun r M'=>r = .tup [encSb (pollS s x many).1,.sl ((pollS s x many).2.1.map enc) false,int (pollS s x many).2.2]/\M.le M':=by
 have hrl:=readL_len x.recs s.nxt many;have hsL:Sorted (readL x.recs s.nxt many):=sorted_sub hs (readL_sub _ _ _);have hpl:=(pollL_sub s x many).length_le;refine SoundCall.go tk297 pl297 mixed Tryz.func297 cb297 rfl (Nat.le_of_ble_eq_true rfl) ?_;refine Q0 ?_;refine o_box zbx rfl rfl (fun B1 hB1=>?_);have htm':=htm.symm;have n1:t≠B1:=Mem.fresh_ne hB1 ht;have n1':=n1.symm;have n2:m≠B1:=Mem.fresh_ne hB1 hm;have n2':=n2.symm;have m1:M B1=none:=zm hB1;refine o_alloc zc343 (fun B2 hB2=>?_);have n3:t≠B2:=Mem.fresh_ne hB2 mmQ;have n3':=n3.symm;have n4:m≠B2:=Mem.fresh_ne hB2 mmQ;have n4':=n4.symm;have f1_2:B1≠B2:=Mem.fresh_ne hB2 mmQ;have g2_1:B2≠B1:=f1_2.symm;have m2:M B2=none:=zm hB2;refine Q42 ?_;refine Q7 ?_;refine s_seq ?_;refine Q91 ?_;refine Q124 ag343 sz343 ?_;refine Q123 ?_;refine Q3 ?_;refine o_call (((snd338 s t m x _ mmQ mmQ htm).det)) goes338 (ac (v_agg rfl) (ac (mvQ) ac_nil)) rfl ?_;refine o_nil ⟨(by simp [Mem.upd, *]),?_⟩;refine d_q rfl (q_not rfl) rfl rfl rfl ?_;refine Q14 ?_;refine d_cases (want:=false) (j:=4) rfl rfl (fun h1=>?_) (fun h1=>?_)
 ·have k1:=h1;try simp only [zs] at k1
  refine Q161 fo343_3 h1 ?_;refine d_yes rfl (q_ldm ag3 sz3 rfl mmQ rfl (v_raw rfl)) rfl rfl rfl h1 rfl rfl ?_;refine Q162 h1 ?_;refine Q3 ?_;refine Q16 h1 ?_;refine Q207 ?_;refine o_nil ⟨(by simp [Mem.upd, *]),?_⟩;refine d_yes rfl (q_gtr rfl rfl) rfl rfl rfl h1 rfl rfl ?_;refine Q175 h1 ?_;refine Q14 ?_;refine d_cases (want:=false) (j:=11) rfl rfl (fun h2=>?_) (fun h2=>?_)
  ·have k2:=h2;try simp only [zs] at k2
   refine Q183 h2 ?_;refine d_yes rfl (q_lss rfl rfl) rfl rfl rfl h2 rfl rfl ?_;refine Q175 h2 ?_;refine Q14 ?_;refine d_cases (want:=false) (j:=15) rfl rfl (fun h3=>?_) (fun h3=>?_)
   ·have k3:=h3;try simp only [zs] at k3
    refine Q183 h3 ?_;refine d_yes rfl (q_gtr rfl rfl) rfl rfl rfl h3 rfl rfl ?_;refine Q175 h3 ?_;refine d_nil ?_;refine s_cond rfl (fun h4=>?_) (fun h4=>?_)
    ·have k4:=h4;try simp only [zs] at k4
     refine Q34 ag343 sz343 ?_;refine Q6 sz343 ?_;refine Q42 ?_;refine Q11 ?_;exact ret_many (.inl rfl) rfl (rl_c rfl mmQ (loadP_w ag343 sz343 rfl rfl) rfl (rl_t rfl (rl_t rfl rl_nil))) rfl ⟨by unfold pollS;split<;>first|rfl|(exfalso;simp_all;done)|(exfalso;simp_all;omega),zle⟩
    ·have k4:=h4;try simp only [zs] at k4
     have hc:(ofS s x && decide (s.nxt<=x.en) && decide (1<=many) && decide (many<=50))=true:=by simp_all<;>omega
     have hri:rightSb s=true:=by simp_all [ofS]
     have hrl:=rightSb_le hri;refine Q13 ?_;refine Q18 ?_;refine Q12 fo343_3 ag3 sz3 ?_;refine Q2 ?_;refine o_call ((snd339 t m x s.nxt many _ mmQ hs hlen)) goes339 (ac (mvQ) (ac (v_raw rfl) (ac (v_raw rfl) ac_nil))) rfl ?_;refine Q42 ?_;refine Q70 ?_;refine s_draw rfl ?_;refine Q77 fo343_2 ag3 sz3 ?_;refine Q123 ?_;refine Q3 ?_;refine o_call (((snd294 t m x _ mmQ mmQ htm).det)) goes294 (ac (mvQ) ac_nil) rfl ?_;refine o_nil ⟨(by simp [Mem.upd, *]),?_⟩;refine d_q rfl (q_max rfl rfl) rfl rfl rfl ?_;refine d_q rfl (q_add rfl rfl (wrap64 (by omega) (by omega))) rfl rfl rfl ?_;refine Q96 ?_;refine s_seq ?_;refine s_cut (fun S=>∃ T,∃ M':Mem,S=⟨setT (setT (setT (setT T 3 (ptr B1)) 6 (ptr B2)) 8 (int 0)) 9 (.sl ((pollL s x many).map enc) false),M'⟩/\M.le M'/\M' B1=some (.cells [str s.name,str s.topic,int s.cur,int s.nxt])/\M' B2=some (.cells [str emp,str emp,int 0,int 0])) ?_ ?_
     ·refine s_block ?_;refine s_loop (fun m S=>∃ T,∃ M':Mem,∃ k:Nat,S=⟨setT (setT (setT (setT (setT T 3 (ptr B1)) 6 (ptr B2)) 8 (int 0)) 9 (.sl (((readL x.recs s.nxt many).take k).map enc) false)) 10 (int (edge s x)),M'⟩/\M.le M'/\M' B1=some (.cells [str s.name,str s.topic,int s.cur,int s.nxt])/\M' B2=some (.cells [str emp,str emp,int 0,int 0])/\atN (readL x.recs s.nxt many) (edge s x)<=k/\k<=(readL x.recs s.nxt many).length/\k=m) (readL x.recs s.nxt many).length ?_ ?_
      ·exact⟨_,_,(readL x.recs s.nxt many).length,St.mkT (kp (kp (kp (kp (kp rfl rfl) rfl) rfl) (congrArg (fun l=>AVal.sl (List.map enc l) false) (List.take_length).symm)) rfl).symm,zle,mmQ,mmQ,atN_le _ _,Nat.le_refl _,rfl⟩
      rintro m S ⟨T,M',k,rfl,hle,hB1,hB2,hak,hkl,rfl⟩;have hlk2:((readL x.recs s.nxt many).take k).length=k:=by rw [List.length_take];omega
      have hlk:(List.map enc ((readL x.recs s.nxt many).take k)).length=k:=by rw [List.length_map,hlk2]
      refine Q31 ?_;refine Q41 und79 ?_;refine Q115 ?_;refine Q2 ?_;refine o_cases (want:=true) (j:=3) rfl rfl (fun h5=>?_) (fun h5=>?_)
      ·have k5:=h5;try simp only [zs] at k5
       refine Q16 h5 ?_;refine Q49 ?_;refine Q16 h5 ?_;refine Q49 ?_;refine Q16 h5 ?_;refine Q85 und79 ?_;refine Q16 h5 ?_;refine Q152 ?_;refine Q16 h5 ?_;refine o_q (q_idx und79 sz363 rfl rfl (by omega) (gm _ (by first|omega|simp)) rfl) rfl rfl rfl ?_;refine Q16 h5 ?_;refine Q184 fo363_0 ?_;refine Q16 h5 ?_;refine o_q (q_ld ag3 sz3 rfl (gm _ (by first|omega|simp)) rfl (v_raw rfl)) rfl rfl rfl ?_;refine Q60 h5 h5 ?_;refine Q23 ?_;refine Q32 h5 ?_;refine Q1 ?_;refine s_cond rfl (fun h6=>?_) (fun h6=>?_)
       ·have k6:=h6;try simp only [zs] at k6
        refine Q13 ?_;refine s_block ?_;refine Q19 ?_;refine Q49 ?_;refine Q41 und79 ?_;refine Q152 ?_;refine o_q (q_sl_hi (n:=k - 1) und79 sz363 rfl elsR (ab rfl (by omega)) (by simp;omega)) rfl rfl rfl ?_;refine Q42 ?_;refine Q1 ?_;refine s_blk_normal ?_;refine s_inv ?_;refine⟨k - 1,by omega,_,_,k - 1,St.mkT (kp (kp (kp (kp (kp rfl rfl) rfl) rfl) (congrArg (fun l=>AVal.sl (List.map enc l) false) ((List.take_take).trans (congrArg (fun n=>List.take n _) (by omega))))) rfl).symm,hle,hB1,hB2,?_,by omega,rfl⟩;rcases Nat.lt_or_ge (k - 1) (atN (readL x.recs s.nxt many) (edge s x)) with h|h
        ·exfalso;obtain⟨hi,h9⟩:=atN_lt h;rw [last_take (by omega) hkl (by omega) (by omega)] at k6;omega
        ·exact h
       ·have k6:=h6;try simp only [zs] at k6
        refine Q35 ?_;refine s_inv ?_;have hk:k=atN (readL x.recs s.nxt many) (edge s x):=by
         rcases Nat.lt_or_ge (atN (readL x.recs s.nxt many) (edge s x)) k with h|h
         ·exfalso;have h9:=atN_ge (off:=edge s x) hsL (i:=k - 1) (by omega) (by omega);rw [last_take (by omega) hkl (by omega) (by omega)] at k6;omega
         ·omega
        subst hk;exact⟨_,_,St.mkT (kp (kp (kp (kp rfl rfl) rfl) rfl) rfl).symm,hle,hB1,hB2⟩
      ·have k5:=h5;try simp only [zs] at k5
       iterate 3 refine Q24 h5 h5 ?_
       refine Q106 h5 h5 h5 ?_;refine Q30 h5 ?_;refine Q83 ?_;refine Q35 ?_;refine s_inv ?_;have hk:k=atN (readL x.recs s.nxt many) (edge s x):=by omega
       subst hk;exact⟨_,_,St.mkT (kp (kp (kp (kp rfl rfl) rfl) rfl) rfl).symm,hle,hB1,hB2⟩
     rintro S ⟨T,M',rfl,hle,hB1,hB2⟩;have hlm:(List.map enc (pollL s x many)).length=(pollL s x many).length:=List.length_map _;refine Q31 ?_;refine Q41 und79 ?_;refine Q102 ?_;refine s_cond rfl (fun h7=>?_) (fun h7=>?_)
     ·have k7:=h7;try simp only [zs] at k7
      have hj:(((List.map enc (pollL s x many)).length:Int) - 1).toNat<(pollL s x many).length:=by omega
      have hjo:=hoff _ ((pollL_sub s x many).subset (List.getElem_mem hj));refine s_draw rfl ?_;refine Q124 ag343 sz343 ?_;refine Q58 ?_;refine Q58 ?_;refine d_q rfl (q_len rfl und79 rfl) rfl rfl rfl ?_;refine Q234 ?_;refine d_q rfl (q_idx und79 sz363 rfl rfl (by omega) (gm _ (by first|omega|simp)) rfl) rfl rfl rfl ?_;refine Q72 fo363_0 ?_;refine d_q rfl (q_ld ag3 sz3 rfl (gm _ (by first|omega|simp)) rfl (v_raw rfl)) rfl rfl rfl ?_;refine Q3 ?_;refine o_call (((snd335 s ((pollL s x many)[(((List.map enc (pollL s x many)).length:Int) - 1).toNat]'hj).off s.cur (((pollL s x many)[(((List.map enc (pollL s x many)).length:Int) - 1).toNat]'hj).off+1) 340 _ (fun M=>(snd340 _ _ _ M ⟨hjo.1,by omega⟩).det) goes340).det)) goes335 (ac (v_agg rfl) (ac (v_raw rfl) (ac (v_raw rfl) ac_nil))) rfl ?_;refine o_nil ⟨(by simp [Mem.upd, *]),?_⟩;refine Q3 ?_;refine Q6 sz343 ?_;refine o_nil ⟨(by simp [Mem.upd, *]),?_⟩;refine d_nil ?_;refine Q34 ag343 sz343 ?_;refine Q49 ?_;refine Q6 sz343 ?_;refine Q42 ?_;refine Q4 ?_;exact ret_many (.inl rfl) rfl (rl_c rfl mmQ (loadP_w ag343 sz343 rfl rfl) rfl (rl_t rfl (rl_t rfl rl_nil))) rfl ⟨by unfold pollS;rw [if_pos hc];exact congrArg (fun n=>AVal.tup [encSb ⟨s.name,s.topic,s.cur,n⟩,.sl ((pollL s x many).map enc) false,int 0]) (nxt_last (by omega) (by omega) _).symm,zle⟩
     ·have k7:=h7;try simp only [zs] at k7
      refine Q13 ?_;refine Q34 ag343 sz343 ?_;refine Q49 ?_;refine Q6 sz343 ?_;refine Q42 ?_;refine Q4 ?_;exact ret_many (.inl rfl) rfl (rl_c rfl mmQ (loadP_w ag343 sz343 rfl rfl) rfl (rl_t rfl (rl_t rfl rl_nil))) rfl ⟨by unfold pollS;rw [if_pos hc];have e:pollL s x many=[]:=List.eq_nil_of_length_eq_zero (by omega);rw [e];rfl,zle⟩
   ·have k3:=h3;try simp only [zs] at k3
    refine Q66 h3 h3 ?_;refine Q174 h3 ?_;refine d_nil ?_;refine Q116 ?_;refine Q34 ag343 sz343 ?_;refine Q6 sz343 ?_;refine Q42 ?_;refine Q11 ?_;exact ret_many (.inl rfl) rfl (rl_c rfl mmQ (loadP_w ag343 sz343 rfl rfl) rfl (rl_t rfl (rl_t rfl rl_nil))) rfl ⟨by unfold pollS;split<;>first|rfl|(exfalso;simp_all;done)|(exfalso;simp_all;omega),zle⟩
  ·have k2:=h2;try simp only [zs] at k2
   refine Q66 h2 h2 ?_;refine Q174 h2 ?_;refine Q14 ?_;refine Q154 ?_;refine Q154 ?_;refine Q196 ?_;refine d_nil ?_;refine Q116 ?_;refine Q34 ag343 sz343 ?_;refine Q6 sz343 ?_;refine Q42 ?_;refine Q11 ?_;exact ret_many (.inl rfl) rfl (rl_c rfl mmQ (loadP_w ag343 sz343 rfl rfl) rfl (rl_t rfl (rl_t rfl rl_nil))) rfl ⟨by unfold pollS;split<;>first|rfl|(exfalso;simp_all;done)|(exfalso;simp_all;omega),zle⟩
 ·have k1:=h1;try simp only [zs] at k1
  refine Q66 h1 h1 ?_;refine Q168 h1 ?_;refine Q3 ?_;refine Q156 h1 ?_;refine o_nil ⟨(by simp [Mem.upd, *]),?_⟩;refine Q168 h1 ?_;refine Q174 h1 ?_;refine Q14 ?_;refine Q154 ?_;refine Q154 ?_;refine Q196 ?_;refine Q14 ?_;refine Q154 ?_;refine Q154 ?_;refine Q196 ?_;refine d_nil ?_;refine Q116 ?_;refine Q34 ag343 sz343 ?_;refine Q6 sz343 ?_;refine Q42 ?_;refine Q11 ?_;exact ret_many (.inl rfl) rfl (rl_c rfl mmQ (loadP_w ag343 sz343 rfl rfl) rfl (rl_t rfl (rl_t rfl rl_nil))) rfl ⟨by unfold pollS;split<;>first|rfl|(exfalso;simp_all;done)|(exfalso;simp_all;omega),zle⟩
end C17
