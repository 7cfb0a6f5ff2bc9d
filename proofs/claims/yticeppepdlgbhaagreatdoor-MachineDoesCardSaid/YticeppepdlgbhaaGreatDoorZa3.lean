import Derived.Test.YticeppepdlgbhaaGreatDoorHz
import Derived.Test.YticeppepdlgbhaaGreatDoorZa1
open Go Go.Proofs Go.Am
set_option linter.unusedVariables false
set_option linter.unusedSimpArgs false
set_option autoImplicit false
set_option maxHeartbeats 4000000
set_option maxRecDepth 20000
namespace C17
theorem ag142:aggT Tryz.prog 142=some true:=by kernel_rfl
theorem ag318:aggT Tryz.prog 318=some true:=by kernel_rfl
theorem bz142:(zeroT Tryz.prog 142).map (fun z=>z.cells.toList.map AVal.raw)=some [.raw (.string { data:=#[] }),.raw (.string { data:=#[] }),.raw (.int .i64 0),.raw (.int .i64 0)]:=by kernel_rfl
theorem bp142:(aPlaces Tryz.prog 142).isSome=true:=by kernel_rfl
theorem bz318:(zeroT Tryz.prog 318).map (fun z=>z.cells.toList.map AVal.raw)=some [.raw (.int .i64 0),.raw (.int .i64 0)]:=by kernel_rfl
theorem bp318:(aPlaces Tryz.prog 318).isSome=true:=by kernel_rfl
theorem fo142_0:fo Tryz.prog 142 0=some (0,1):=by kernel_rfl
theorem fo142_1:fo Tryz.prog 142 1=some (1,1):=by kernel_rfl
theorem fo142_2:fo Tryz.prog 142 2=some (2,1):=by kernel_rfl
theorem fo142_3:fo Tryz.prog 142 3=some (3,1):=by kernel_rfl
theorem fo318_0:fo Tryz.prog 318 0=some (0,1):=by kernel_rfl
theorem fo318_1:fo Tryz.prog 318 1=some (1,1):=by kernel_rfl
theorem sz142:sizeT Tryz.prog 142=some 4:=by kernel_rfl
theorem sz318:sizeT Tryz.prog 318=some 2:=by kernel_rfl
theorem zc142:zeroCellsT Tryz.prog 142=some [.raw (.string { data:=#[] }),.raw (.string { data:=#[] }),.raw (.int .i64 0),.raw (.int .i64 0)]:=by kernel_rfl
theorem zc318:zeroCellsT Tryz.prog 318=some [.raw (.int .i64 0),.raw (.int .i64 0)]:=by kernel_rfl
def tk224:Nat->Nat->Option Nat:=fun _ _=>none
def pl224:Nat->List PStep:=fun _=>[]
theorem cb224:Tryz.f224.body.map (codeB Tryz.prog Tryz.f224.ntmps tk224 pl224)=some true:=by kernel_rfl
theorem goes224:goesB Tryz.prog 224=true:=by kernel_rfl
structure Sb where
 name:ByteArray
 topic:ByteArray
 cur:Int
 nxt:Int
def encSb (s:Sb):AVal:=.agg [str s.name,str s.topic,int s.cur,int s.nxt]
def mk (a b:Int):AVal:=.agg [int a,int b]
def rightSb (s:Sb):Bool:=word s.name && word s.topic && decide (0<=s.cur) && decide (s.cur<=s.nxt) && decide (s.nxt<=9007199254740991)
def ofS (s:Sb)(x:Tp):Bool:=rightSb s && decide (s.topic=x.name)
def newS (n:ByteArray)(x:Tp)(first:Int):Sb×Int:=if word n && decide ((if first<0 then x.en else first)<=x.en) then (⟨n,x.name,(if first<0 then x.en else first),(if first<0 then x.en else first)⟩,0) else (⟨emp,emp,0,0⟩,7)
def ackS (s:Sb)(o:Int):Sb×Int:=if rightSb s && decide (0<=o) && decide (o<s.nxt) then (⟨s.name,s.topic,max s.cur (o+1),s.nxt⟩,0) else (s,7)
def attS (s:Sb):Sb:=⟨s.name,s.topic,s.cur,s.cur⟩
def seekS (s:Sb)(x:Tp)(o:Int):Sb×Int:=if ofS s x && decide (0<=o) && decide (o<=x.en) then (⟨s.name,s.topic,o,o⟩,0) else (s,7)
def edge (s:Sb)(x:Tp):Int:=max s.cur x.low+100
def pollL (s:Sb)(x:Tp)(many:Int):List Rec:=(readL x.recs s.nxt many).take (atN (readL x.recs s.nxt many) (edge s x))
def pollS (s:Sb)(x:Tp)(many:Int):Sb×List Rec×Int :=
 if ofS s x && decide (s.nxt<=x.en) && decide (1<=many) && decide (many<=50) then (⟨s.name,s.topic,s.cur,match (pollL s x many).getLast? with|none=>s.nxt|some r=>r.off+1⟩,pollL s x many,0) else (s,[],7)
theorem sorted_sub {a b:List Rec}(h:Sorted b)(hs:List.Sublist a b):Sorted a:=List.Pairwise.sublist hs h
theorem readL_sub (l:List Rec)(a b:Int):List.Sublist (readL l a b) l:=(List.take_sublist _ _).trans (List.drop_sublist _ _)
theorem rightSb_le {s:Sb}(h:rightSb s=true):0<=s.cur/\s.cur<=s.nxt/\s.nxt<=9007199254740991:=by
 unfold rightSb at h;simp at h;omega
theorem snd224 (a b n:Int)(M:Mem)(hn:0<=n/\n<2^62):SoundCall Tryz.prog 224 [mk a b,int n] M fun r M'=>r=mk a (n+1)/\M.le M':=by
 refine SoundCall.go tk224 pl224 mixed Tryz.func224 cb224 rfl (Nat.le_of_ble_eq_true rfl) ?_;refine Q0 ?_;refine o_box zbx rfl rfl (fun B1 hB1=>?_);have m1:M B1=none:=zm hB1;refine o_alloc zc318 (fun B2 hB2=>?_);have f1_2:B1≠B2:=Mem.fresh_ne hB2 mmQ;have g2_1:B2≠B1:=f1_2.symm;have m2:M B2=none:=zm hB2;refine o_nil ?_;refine Q6 fo318_0 ag3 sz3 ?_;refine Q1 ?_;refine Q43 ?_;refine Q197 bz318 bp318 fo318_0 fo318_1 ?_;refine Q58 sz318 ?_;exact ret_cell (.inl rfl) rfl rfl mmQ (loadP_w ag318 sz318 rfl rfl) ⟨rfl,zle⟩
def tk226:Nat->Nat->Option Nat:=fun _ _=>none
def pl226:Nat->List PStep:=fun _=>[]
theorem cb226:Tryz.f226.body.map (codeB Tryz.prog Tryz.f226.ntmps tk226 pl226)=some true:=by kernel_rfl
theorem goes226:goesB Tryz.prog 226=true:=by kernel_rfl
theorem snd226 (a b n:Int)(M:Mem)(hn:0<=n/\n<2^62):SoundCall Tryz.prog 226 [mk a b,int n] M fun r M'=>r=mk (max a (n+1)) b/\M.le M':=by
 refine SoundCall.go tk226 pl226 mixed Tryz.func226 cb226 rfl (Nat.le_of_ble_eq_true rfl) ?_;refine Q0 ?_;refine o_box zbx rfl rfl (fun B1 hB1=>?_);have m1:M B1=none:=zm hB1;refine o_alloc zc318 (fun B2 hB2=>?_);have f1_2:B1≠B2:=Mem.fresh_ne hB2 mmQ;have g2_1:B2≠B1:=f1_2.symm;have m2:M B2=none:=zm hB2;refine o_nil ?_;refine Q6 fo318_0 ag3 sz3 ?_;refine Q1 ?_;refine Q43 ?_;refine o_q (q_max rfl rfl) rfl rfl rfl ?_;refine Q12 fo318_1 ag3 sz3 ?_;refine Q197 bz318 bp318 fo318_0 fo318_1 ?_;refine Q58 sz318 ?_;exact ret_cell (.inl rfl) rfl rfl mmQ (loadP_w ag318 sz318 rfl rfl) ⟨rfl,zle⟩
def tk222:Nat->Nat->Option Nat:=fun _ _=>none
def pl222:Nat->List PStep:=fun _=>[]
theorem cb222:Tryz.f222.body.map (codeB Tryz.prog Tryz.f222.ntmps tk222 pl222)=some true:=by kernel_rfl
theorem goes222:goesB Tryz.prog 222=true:=by kernel_rfl
theorem snd222 (a b:Int)(M:Mem):SoundCall Tryz.prog 222 [mk a b] M fun r M'=>r=mk a a/\M.le M':=by
 refine SoundCall.go tk222 pl222 mixed Tryz.func222 cb222 rfl (Nat.le_of_ble_eq_true rfl) ?_;refine Q0 ?_;refine o_box zbx rfl rfl (fun B1 hB1=>?_);have m1:M B1=none:=zm hB1;refine o_alloc zc318 (fun B2 hB2=>?_);have f1_2:B1≠B2:=Mem.fresh_ne hB2 mmQ;have g2_1:B2≠B1:=f1_2.symm;have m2:M B2=none:=zm hB2;refine o_nil ?_;refine Q6 fo318_0 ag3 sz3 ?_;refine Q12 fo318_0 ag3 sz3 ?_;refine Q197 bz318 bp318 fo318_0 fo318_1 ?_;refine Q58 sz318 ?_;exact ret_cell (.inl rfl) rfl rfl mmQ (loadP_w ag318 sz318 rfl rfl) ⟨rfl,zle⟩
def tk221:Nat->Nat->Option Nat:=fun _ _=>none
def pl221:Nat->List PStep:=fun _=>[]
theorem cb221:Tryz.f221.body.map (codeB Tryz.prog Tryz.f221.ntmps tk221 pl221)=some true:=by kernel_rfl
theorem goes221:goesB Tryz.prog 221=true:=by kernel_rfl
theorem snd221 (a b n:Int)(M:Mem):SoundCall Tryz.prog 221 [mk a b,int n] M fun r M'=>r=mk a a/\M.le M':=by
 refine SoundCall.go tk221 pl221 mixed Tryz.func221 cb221 rfl (Nat.le_of_ble_eq_true rfl) ?_;refine Q0 ?_;refine o_box zbx rfl rfl (fun B1 hB1=>?_);have m1:M B1=none:=zm hB1;refine o_alloc zc318 (fun B2 hB2=>?_);have f1_2:B1≠B2:=Mem.fresh_ne hB2 mmQ;have g2_1:B2≠B1:=f1_2.symm;have m2:M B2=none:=zm hB2;refine o_nil ?_;refine Q89 ag318 sz318 ?_;refine o_call (((snd222 a b _).det)) goes222 (ac (v_agg rfl) ac_nil) rfl ?_;refine Q58 sz318 ?_;exact ret_cell (.inl rfl) rfl rfl mmQ (loadP_w ag318 sz318 rfl rfl) ⟨rfl,zle⟩
def tk220:Nat->Nat->Option Nat:=fun _ _=>none
def pl220:Nat->List PStep
 | 2=>[.q 0,.q 1,.q 2,.q 3,.q 4,.s 5 [3,2],.q 6,.s 7 []]
 | _=>[]
theorem cb220:Tryz.f220.body.map (codeB Tryz.prog Tryz.f220.ntmps tk220 pl220)=some true:=by kernel_rfl
theorem goes220:goesB Tryz.prog 220=true:=by kernel_rfl
theorem snd220 (s:Sb)(n c d:Int)(f:Nat)(M:Mem)(hf:∀ M,SoundCall Tryz.prog f [mk s.cur s.nxt,int n] M fun r M'=>r=mk c d/\M'=M)(hg:goesB Tryz.prog f=true):SoundCall Tryz.prog 220 [encSb s,int n,.raw (.func (.func f) #[] #[])] M fun r M'=>r=encSb ⟨s.name,s.topic,c,d⟩/\M.le M':=by
 refine SoundCall.go tk220 pl220 mixed Tryz.func220 cb220 rfl (Nat.le_of_ble_eq_true rfl) ?_;refine Q0 ?_;refine o_box zbx rfl rfl (fun B1 hB1=>?_);have m1:M B1=none:=zm hB1;refine o_alloc zc142 (fun B2 hB2=>?_);have f1_2:B1≠B2:=Mem.fresh_ne hB2 mmQ;have g2_1:B2≠B1:=f1_2.symm;have m2:M B2=none:=zm hB2;refine o_nil ?_;refine Q7 ?_;refine Q12 fo142_2 ag3 sz3 ?_;refine Q12 fo142_3 ag3 sz3 ?_;refine Q197 bz318 bp318 fo318_0 fo318_1 ?_;refine Q1 ?_;refine o_callv rfl ((hf _)) hg (ac (v_agg rfl) (ac (v_raw rfl) ac_nil)) rfl rfl ?_;rintro q M'' ⟨rfl,rfl⟩;refine o_alloc zc318 (fun B3 hB3=>?_);have f1_3:B1≠B3:=Mem.fresh_ne hB3 mmQ;have g3_1:B3≠B1:=f1_3.symm;have f2_3:B2≠B3:=Mem.fresh_ne hB3 mmQ;have g3_2:B3≠B2:=f2_3.symm;have m3:M B3=none:=zm hB3;refine Q54 sz318 ?_;refine Q84 ?_;refine Q34 fo318_0 ag3 sz3 fo318_1 ag3 sz3 ?_;refine Q40 fo142_2 ?_;refine Q3 ?_;refine Q82 sz3 ?_;refine o_nil ⟨(by simp [Mem.upd, *]),?_⟩;refine Q40 fo142_3 ?_;refine Q3 ?_;refine Q82 sz3 ?_;refine o_nil ⟨(by simp [Mem.upd, *]),?_⟩;refine d_nil ?_;refine Q89 ag142 sz142 ?_;refine Q58 sz142 ?_;exact ret_cell (.inl rfl) rfl rfl mmQ (loadP_w ag142 sz142 rfl rfl) ⟨rfl,zle⟩
def tk225:Nat->Nat->Option Nat:=fun _ _=>none
def pl225:Nat->List PStep:=fun _=>[]
theorem cb225:Tryz.f225.body.map (codeB Tryz.prog Tryz.f225.ntmps tk225 pl225)=some true:=by kernel_rfl
theorem goes225:goesB Tryz.prog 225=true:=by kernel_rfl
theorem snd225 (s:Sb)(M:Mem):SoundCall Tryz.prog 225 [encSb s] M fun r M'=>r=bool (rightSb s)/\M.le M':=by
 refine SoundCall.go tk225 pl225 mixed Tryz.func225 cb225 rfl (Nat.le_of_ble_eq_true rfl) ?_;refine Q0 ?_;refine o_box zbx rfl rfl (fun B1 hB1=>?_);have m1:M B1=none:=zm hB1;refine Q8 ?_;refine Q6 fo142_0 ag9 sz9 ?_;refine o_call (((snd46 s.name _).det)) goes46 (ac (v_raw rfl) ac_nil) rfl ?_;refine Q1 ?_;refine o_cases (want:=true) (j:=3) rfl rfl (fun h1=>?_) (fun h1=>?_)
 ·have k1:=h1;try simp only [zs] at k1
  refine Q74 h1 fo142_1 h1 ?_;refine Q121 ag9 sz9 h1 ?_;refine o_call (((snd46 s.topic _).det)) goes46 (ac (v_raw rfl) ac_nil) rfl ?_;refine Q19 h1 ?_;refine Q1 ?_;refine o_cases (want:=true) (j:=8) rfl rfl (fun h2=>?_) (fun h2=>?_)
  ·have k2:=h2;try simp only [zs] at k2
   refine Q74 h2 fo142_2 h2 ?_;refine Q121 ag3 sz3 h2 ?_;refine Q24 ?_;refine Q19 h2 ?_;refine Q1 ?_;refine o_cases (want:=true) (j:=13) rfl rfl (fun h3=>?_) (fun h3=>?_)
   ·have k3:=h3;try simp only [zs] at k3
    refine Q74 h3 fo142_2 h3 ?_;refine Q79 ag3 sz3 ?_;refine Q74 h3 fo142_3 h3 ?_;refine Q121 ag3 sz3 h3 ?_;refine Q100 ?_;refine Q19 h3 ?_;refine Q1 ?_;refine o_cases (want:=true) (j:=20) rfl rfl (fun h4=>?_) (fun h4=>?_)
    ·have k4:=h4;try simp only [zs] at k4
     refine Q74 h4 fo142_3 h4 ?_;refine Q121 ag3 sz3 h4 ?_;refine Q100 ?_;refine Q19 h4 ?_;refine Q2 ?_;refine⟨congrArg (fun b=>AVal.raw (.bool b)) ?_,zle⟩;simp_all [rightSb]<;>(intros;omega)
    ·have k4:=h4;try simp only [zs] at k4
     refine Q53 h4 h4 ?_;refine Q120 h4 h4 ?_;refine Q2 ?_;refine⟨congrArg (fun b=>AVal.raw (.bool b)) ?_,zle⟩;simp_all [rightSb]<;>(intros;omega)
   ·have k3:=h3;try simp only [zs] at k3
    refine Q48 h3 h3 h3 h3 ?_;refine Q120 h3 h3 ?_;refine Q28 ?_;refine Q102 ?_;refine Q2 ?_;refine⟨congrArg (fun b=>AVal.raw (.bool b)) ?_,zle⟩;simp_all [rightSb]<;>(intros;omega)
  ·have k2:=h2;try simp only [zs] at k2
   refine Q53 h2 h2 ?_;refine Q120 h2 h2 ?_;refine Q28 ?_;refine Q65 ?_;refine Q102 ?_;refine Q28 ?_;refine Q102 ?_;refine Q2 ?_;refine⟨congrArg (fun b=>AVal.raw (.bool b)) ?_,zle⟩;simp_all [rightSb]<;>(intros;omega)
 ·have k1:=h1;try simp only [zs] at k1
  refine Q53 h1 h1 ?_;refine Q120 h1 h1 ?_;refine Q28 ?_;refine Q102 ?_;refine Q28 ?_;refine Q65 ?_;refine Q102 ?_;refine Q28 ?_;refine Q102 ?_;refine Q2 ?_;refine⟨congrArg (fun b=>AVal.raw (.bool b)) ?_,zle⟩;simp_all [rightSb]<;>(intros;omega)
def tk223:Nat->Nat->Option Nat:=fun _ _=>none
def pl223:Nat->List PStep
 | 1=>[.q 0,.s 1 [],.q 2,.q 3,.q 4,.q 5,.s 6 [4,3,0],.q 7,.q 8,.q 9]
 | _=>[]
theorem cb223:Tryz.f223.body.map (codeB Tryz.prog Tryz.f223.ntmps tk223 pl223)=some true:=by kernel_rfl
theorem goes223:goesB Tryz.prog 223=true:=by kernel_rfl
theorem snd223 (s:Sb)(t m:Nat)(x:Tp)(M:Mem)(ht:M t=some (.cells (tpC m x)))(hm:M m=some (tpK x))(htm:t≠m):SoundCall Tryz.prog 223 [encSb s,ptr t] M fun r M'=>r=bool (ofS s x)/\M.le M':=by
 refine SoundCall.go tk223 pl223 mixed Tryz.func223 cb223 rfl (Nat.le_of_ble_eq_true rfl) ?_;refine Q0 ?_;refine o_box zbx rfl rfl (fun B1 hB1=>?_);have htm':=htm.symm;have n1:t≠B1:=Mem.fresh_ne hB1 ht;have n1':=n1.symm;have n2:m≠B1:=Mem.fresh_ne hB1 hm;have n2':=n2.symm;have m1:M B1=none:=zm hB1;refine Q8 ?_;refine Q84 ?_;refine Q85 ag142 sz142 ?_;refine Q3 ?_;refine o_call (((snd225 s _).det)) goes225 (ac (v_agg rfl) ac_nil) rfl ?_;refine o_nil ⟨(by simp [Mem.upd, *]),?_⟩;refine Q5 ?_;refine d_cases (want:=true) (j:=2) rfl rfl (fun h1=>?_) (fun h1=>?_)
 ·have k1:=h1;try simp only [zs] at k1
  refine Q132 fo142_1 h1 ?_;refine Q153 ag9 sz9 h1 ?_;refine Q167 h1 ?_;refine Q3 ?_;refine Q14 h1 ?_;refine Q251 ?_;refine o_nil ⟨(by simp [Mem.upd, *]),?_⟩;refine Q225 h1 ?_;refine Q111 h1 ?_;refine Q60 ?_;refine Q104 ?_;refine⟨congrArg (fun b=>AVal.raw (.bool b)) ?_,zle⟩;simp_all [ofS]
 ·have k1:=h1;try simp only [zs] at k1
  refine Q25 h1 h1 ?_;refine Q159 h1 ?_;refine Q3 ?_;refine Q155 h1 ?_;refine o_nil ⟨(by simp [Mem.upd, *]),?_⟩;refine Q159 h1 ?_;refine Q112 h1 ?_;refine Q60 ?_;refine Q104 ?_;refine⟨congrArg (fun b=>AVal.raw (.bool b)) ?_,zle⟩;simp_all [ofS]
def tk178:Nat->Nat->Option Nat:=fun _ _=>none
def pl178:Nat->List PStep:=fun _=>[]
theorem cb178:Tryz.f178.body.map (codeB Tryz.prog Tryz.f178.ntmps tk178 pl178)=some true:=by kernel_rfl
theorem goes178:goesB Tryz.prog 178=true:=by kernel_rfl
theorem snd178 (s:Sb)(o:Int)(M:Mem):SoundCall Tryz.prog 178 [encSb s,int o] M fun r M'=>r = .tup [encSb (ackS s o).1,int (ackS s o).2]/\M.le M':=by
 refine SoundCall.go tk178 pl178 mixed Tryz.func178 cb178 rfl (Nat.le_of_ble_eq_true rfl) ?_;refine Q0 ?_;refine o_box zbx rfl rfl (fun B1 hB1=>?_);have m1:M B1=none:=zm hB1;refine o_alloc zc142 (fun B2 hB2=>?_);have f1_2:B1≠B2:=Mem.fresh_ne hB2 mmQ;have g2_1:B2≠B1:=f1_2.symm;have m2:M B2=none:=zm hB2;refine Q123 ?_;refine Q89 ag142 sz142 ?_;refine o_call (((snd225 s _).det)) goes225 (ac (v_agg rfl) ac_nil) rfl ?_;refine Q92 ?_;refine o_cases (want:=false) (j:=3) rfl rfl (fun h1=>?_) (fun h1=>?_)
 ·have k1:=h1;try simp only [zs] at k1
  refine Q32 h1 h1 ?_;refine Q59 ?_;refine Q33 h1 ?_;refine Q1 ?_;refine o_cases (want:=false) (j:=7) rfl rfl (fun h2=>?_) (fun h2=>?_)
  ·have k2:=h2;try simp only [zs] at k2
   refine Q32 h2 h2 ?_;refine Q246 fo142_3 h2 ?_;refine Q121 ag3 sz3 h2 ?_;refine Q24 ?_;refine Q33 h2 ?_;refine o_nil ?_;refine s_cond rfl (fun h3=>?_) (fun h3=>?_)
   ·have k3:=h3;try simp only [zs] at k3
    refine Q51 ag142 sz142 sz142 ?_;refine Q10 ?_;exact ret_many (.inl rfl) rfl (rl_c rfl mmQ (loadP_w ag142 sz142 rfl rfl) rfl (rl_t rfl rl_nil)) rfl ⟨by unfold ackS;split<;>first|rfl|(exfalso;simp_all;done)|(exfalso;simp_all;omega),zle⟩
   ·have k3:=h3;try simp only [zs] at k3
    have hle:=(rightSb_le (by simp_all:rightSb s=true));refine s_skip ?_;refine Q89 ag142 sz142 ?_;refine Q1 ?_;refine o_call (((snd220 s o (max s.cur (o+1)) s.nxt 226 _ (fun M=>(snd226 _ _ _ M (by omega)).det) goes226).det)) goes220 (ac (v_agg rfl) (ac (v_raw rfl) (ac (v_raw rfl) ac_nil))) rfl ?_;refine Q13 sz142 ?_;refine Q2 ?_;exact ret_many (.inl rfl) rfl (rl_c rfl mmQ (loadP_w ag142 sz142 rfl rfl) rfl (rl_t rfl rl_nil)) rfl ⟨by unfold ackS;split<;>first|rfl|(exfalso;simp_all;done)|(exfalso;simp_all;omega),zle⟩
  ·have k2:=h2;try simp only [zs] at k2
   refine Q48 h2 h2 h2 h2 ?_;refine Q19 h2 ?_;refine Q71 ?_;refine Q51 ag142 sz142 sz142 ?_;refine Q10 ?_;exact ret_many (.inl rfl) rfl (rl_c rfl mmQ (loadP_w ag142 sz142 rfl rfl) rfl (rl_t rfl rl_nil)) rfl ⟨by unfold ackS;split<;>first|rfl|(exfalso;simp_all;done)|(exfalso;simp_all;omega),zle⟩
 ·have k1:=h1;try simp only [zs] at k1
  refine Q53 h1 h1 ?_;refine Q19 h1 ?_;refine Q28 ?_;refine Q65 ?_;refine Q45 ?_;refine Q71 ?_;refine Q51 ag142 sz142 sz142 ?_;refine Q10 ?_;exact ret_many (.inl rfl) rfl (rl_c rfl mmQ (loadP_w ag142 sz142 rfl rfl) rfl (rl_t rfl rl_nil)) rfl ⟨by unfold ackS;split<;>first|rfl|(exfalso;simp_all;done)|(exfalso;simp_all;omega),zle⟩
def tk176:Nat->Nat->Option Nat:=fun _ _=>none
def pl176:Nat->List PStep:=fun _=>[]
theorem cb176:Tryz.f176.body.map (codeB Tryz.prog Tryz.f176.ntmps tk176 pl176)=some true:=by kernel_rfl
theorem goes176:goesB Tryz.prog 176=true:=by kernel_rfl
theorem snd176 (s:Sb)(M:Mem):SoundCall Tryz.prog 176 [encSb s] M fun r M'=>r=encSb (attS s)/\M.le M':=by
 refine SoundCall.go tk176 pl176 mixed Tryz.func176 cb176 rfl (Nat.le_of_ble_eq_true rfl) ?_;refine Q0 ?_;refine o_box zbx rfl rfl (fun B1 hB1=>?_);have m1:M B1=none:=zm hB1;refine o_alloc zc142 (fun B2 hB2=>?_);have f1_2:B1≠B2:=Mem.fresh_ne hB2 mmQ;have g2_1:B2≠B1:=f1_2.symm;have m2:M B2=none:=zm hB2;refine o_nil ?_;refine Q89 ag142 sz142 ?_;refine o_call (((snd220 s 0 s.cur s.cur 221 _ (fun M=>(snd221 _ _ _ M).det) goes221).det)) goes220 (ac (v_agg rfl) (ac (v_raw rfl) (ac (v_raw rfl) ac_nil))) rfl ?_;refine Q58 sz142 ?_;exact ret_cell (.inl rfl) rfl rfl mmQ (loadP_w ag142 sz142 rfl rfl) ⟨rfl,zle⟩
def tk179:Nat->Nat->Option Nat:=fun _ _=>none
def pl179:Nat->List PStep:=fun _=>[]
theorem cb179:Tryz.f179.body.map (codeB Tryz.prog Tryz.f179.ntmps tk179 pl179)=some true:=by kernel_rfl
theorem goes179:goesB Tryz.prog 179=true:=by kernel_rfl
theorem snd179 (s:Sb)(t m:Nat)(x:Tp)(o:Int)(M:Mem)(ht:M t=some (.cells (tpC m x)))(hm:M m=some (tpK x))(htm:t≠m):SoundCall Tryz.prog 179 [encSb s,ptr t,int o] M fun r M'=>r = .tup [encSb (seekS s x o).1,int (seekS s x o).2]/\M.le M':=by
 refine SoundCall.go tk179 pl179 mixed Tryz.func179 cb179 rfl (Nat.le_of_ble_eq_true rfl) ?_;refine Q0 ?_;refine o_box zbx rfl rfl (fun B1 hB1=>?_);have htm':=htm.symm;have n1:t≠B1:=Mem.fresh_ne hB1 ht;have n1':=n1.symm;have n2:m≠B1:=Mem.fresh_ne hB1 hm;have n2':=n2.symm;have m1:M B1=none:=zm hB1;refine o_alloc zc142 (fun B2 hB2=>?_);have n3:t≠B2:=Mem.fresh_ne hB2 mmQ;have n3':=n3.symm;have n4:m≠B2:=Mem.fresh_ne hB2 mmQ;have n4':=n4.symm;have f1_2:B1≠B2:=Mem.fresh_ne hB2 mmQ;have g2_1:B2≠B1:=f1_2.symm;have m2:M B2=none:=zm hB2;refine Q123 ?_;refine Q89 ag142 sz142 ?_;refine Q22 ?_;refine Q252 ?_;refine Q92 ?_;refine o_cases (want:=false) (j:=4) rfl rfl (fun h1=>?_) (fun h1=>?_)
 ·have k1:=h1;try simp only [zs] at k1
  refine Q32 h1 h1 ?_;refine Q59 ?_;refine Q33 h1 ?_;refine Q1 ?_;refine o_cases (want:=false) (j:=8) rfl rfl (fun h2=>?_) (fun h2=>?_)
  ·have k2:=h2;try simp only [zs] at k2
   refine Q32 h2 h2 ?_;refine Q22 ?_;refine Q14 h2 ?_;refine Q198 ?_;refine Q14 h2 ?_;refine Q61 ?_;refine Q33 h2 ?_;refine o_nil ?_;refine s_cond rfl (fun h3=>?_) (fun h3=>?_)
   ·have k3:=h3;try simp only [zs] at k3
    refine Q51 ag142 sz142 sz142 ?_;refine Q10 ?_;exact ret_many (.inl rfl) rfl (rl_c rfl mmQ (loadP_w ag142 sz142 rfl rfl) rfl (rl_t rfl rl_nil)) rfl ⟨by unfold seekS;split<;>first|rfl|(exfalso;simp_all;done)|(exfalso;simp_all;omega),zle⟩
   ·have k3:=h3;try simp only [zs] at k3
    refine Q69 ?_;refine Q1 ?_;refine Q36 fo142_2 ?_;refine Q82 sz3 ?_;refine Q36 fo142_3 ?_;refine Q103 sz3 ?_;refine Q51 ag142 sz142 sz142 ?_;refine Q2 ?_;exact ret_many (.inl rfl) rfl (rl_c rfl mmQ (loadP_w ag142 sz142 rfl rfl) rfl (rl_t rfl rl_nil)) rfl ⟨by unfold seekS;split<;>first|rfl|(exfalso;simp_all;done)|(exfalso;simp_all;omega),zle⟩
  ·have k2:=h2;try simp only [zs] at k2
   refine Q48 h2 h2 h2 h2 ?_;refine Q19 h2 ?_;refine Q71 ?_;refine Q51 ag142 sz142 sz142 ?_;refine Q10 ?_;exact ret_many (.inl rfl) rfl (rl_c rfl mmQ (loadP_w ag142 sz142 rfl rfl) rfl (rl_t rfl rl_nil)) rfl ⟨by unfold seekS;split<;>first|rfl|(exfalso;simp_all;done)|(exfalso;simp_all;omega),zle⟩
 ·have k1:=h1;try simp only [zs] at k1
  refine Q53 h1 h1 ?_;refine Q19 h1 ?_;refine Q28 ?_;refine Q65 ?_;refine Q45 ?_;refine Q71 ?_;refine Q51 ag142 sz142 sz142 ?_;refine Q10 ?_;exact ret_many (.inl rfl) rfl (rl_c rfl mmQ (loadP_w ag142 sz142 rfl rfl) rfl (rl_t rfl rl_nil)) rfl ⟨by unfold seekS;split<;>first|rfl|(exfalso;simp_all;done)|(exfalso;simp_all;omega),zle⟩
def tk175:Nat->Nat->Option Nat:=fun _ _=>none
def pl175:Nat->List PStep:=fun _=>[]
theorem cb175:Tryz.f175.body.map (codeB Tryz.prog Tryz.f175.ntmps tk175 pl175)=some true:=by kernel_rfl
theorem goes175:goesB Tryz.prog 175=true:=by kernel_rfl
theorem snd175 (n:ByteArray)(t m:Nat)(x:Tp)(o:Int)(M:Mem)(ht:M t=some (.cells (tpC m x)))(hm:M m=some (tpK x))(htm:t≠m):SoundCall Tryz.prog 175 [str n,ptr t,int o] M fun r M'=>r = .tup [encSb (newS n x o).1,int (newS n x o).2]/\M.le M':=by
 refine SoundCall.go tk175 pl175 mixed Tryz.func175 cb175 rfl (Nat.le_of_ble_eq_true rfl) ?_;refine Q0 ?_;refine o_alloc zc142 (fun B1 hB1=>?_);have htm':=htm.symm;have n1:t≠B1:=Mem.fresh_ne hB1 ht;have n1':=n1.symm;have n2:m≠B1:=Mem.fresh_ne hB1 hm;have n2':=n2.symm;have m1:M B1=none:=zm hB1;refine Q20 ?_;refine Q41 ?_;refine s_cond rfl (fun h1=>?_) (fun h1=>?_)
 ·have k1:=h1;try simp only [zs] at k1
  have e:(if o<0 then x.en else o)=x.en:=if_pos k1;refine Q15 ?_;refine Q22 ?_;refine Q198 ?_;refine Q20 ?_;refine o_call (((snd46 n _).det)) goes46 (ac (v_raw rfl) ac_nil) rfl ?_;refine Q92 ?_;refine o_cases (want:=false) (j:=3) rfl rfl (fun h2=>?_) (fun h2=>?_)
  ·have k2:=h2;try simp only [zs] at k2
   refine Q32 h2 h2 ?_;refine Q22 ?_;refine Q14 h2 ?_;refine Q198 ?_;refine Q14 h2 ?_;refine Q61 ?_;refine Q33 h2 ?_;refine o_nil ?_;refine s_cond rfl (fun h3=>?_) (fun h3=>?_)
   ·have k3:=h3;try simp only [zs] at k3
    refine Q0 ?_;refine Q181 bz142 bp142 ?_;refine Q13 sz142 ?_;refine Q10 ?_;exact ret_many (.inl rfl) rfl (rl_c rfl mmQ (loadP_w ag142 sz142 rfl rfl) rfl (rl_t rfl rl_nil)) rfl ⟨by unfold newS;simp only [e];split<;>first|rfl|(exfalso;simp_all;done)|(exfalso;simp_all;omega),zle⟩
   ·have k3:=h3;try simp only [zs] at k3
    refine Q69 ?_;refine Q22 ?_;refine Q251 ?_;refine Q91 ?_;refine Q206 bz142 bp142 fo142_0 fo142_1 fo142_2 fo142_3 ?_;refine Q13 sz142 ?_;refine Q2 ?_;exact ret_many (.inl rfl) rfl (rl_c rfl mmQ (loadP_w ag142 sz142 rfl rfl) rfl (rl_t rfl rl_nil)) rfl ⟨by unfold newS;simp only [e];split<;>first|rfl|(exfalso;simp_all;done)|(exfalso;simp_all;omega),zle⟩
  ·have k2:=h2;try simp only [zs] at k2
   refine Q48 h2 h2 h2 h2 ?_;refine Q19 h2 ?_;refine Q71 ?_;refine Q0 ?_;refine Q181 bz142 bp142 ?_;refine Q13 sz142 ?_;refine Q10 ?_;exact ret_many (.inl rfl) rfl (rl_c rfl mmQ (loadP_w ag142 sz142 rfl rfl) rfl (rl_t rfl rl_nil)) rfl ⟨by unfold newS;simp only [e];split<;>first|rfl|(exfalso;simp_all;done)|(exfalso;simp_all;omega),zle⟩
 ·have k1:=h1;try simp only [zs] at k1
  have e:(if o<0 then x.en else o)=o:=if_neg k1;refine s_skip ?_;refine Q4 ?_;refine o_call (((snd46 n _).det)) goes46 (ac (v_raw rfl) ac_nil) rfl ?_;refine Q92 ?_;refine o_cases (want:=false) (j:=3) rfl rfl (fun h4=>?_) (fun h4=>?_)
  ·have k4:=h4;try simp only [zs] at k4
   refine Q32 h4 h4 ?_;refine Q22 ?_;refine Q14 h4 ?_;refine Q198 ?_;refine Q14 h4 ?_;refine Q61 ?_;refine Q33 h4 ?_;refine o_nil ?_;refine s_cond rfl (fun h5=>?_) (fun h5=>?_)
   ·have k5:=h5;try simp only [zs] at k5
    refine Q0 ?_;refine Q181 bz142 bp142 ?_;refine Q13 sz142 ?_;refine Q10 ?_;exact ret_many (.inl rfl) rfl (rl_c rfl mmQ (loadP_w ag142 sz142 rfl rfl) rfl (rl_t rfl rl_nil)) rfl ⟨by unfold newS;simp only [e];split<;>first|rfl|(exfalso;simp_all;done)|(exfalso;simp_all;omega),zle⟩
   ·have k5:=h5;try simp only [zs] at k5
    refine Q69 ?_;refine Q22 ?_;refine Q251 ?_;refine Q91 ?_;refine Q206 bz142 bp142 fo142_0 fo142_1 fo142_2 fo142_3 ?_;refine Q13 sz142 ?_;refine Q2 ?_;exact ret_many (.inl rfl) rfl (rl_c rfl mmQ (loadP_w ag142 sz142 rfl rfl) rfl (rl_t rfl rl_nil)) rfl ⟨by unfold newS;simp only [e];split<;>first|rfl|(exfalso;simp_all;done)|(exfalso;simp_all;omega),zle⟩
  ·have k4:=h4;try simp only [zs] at k4
   refine Q48 h4 h4 h4 h4 ?_;refine Q19 h4 ?_;refine Q71 ?_;refine Q0 ?_;refine Q181 bz142 bp142 ?_;refine Q13 sz142 ?_;refine Q10 ?_;exact ret_many (.inl rfl) rfl (rl_c rfl mmQ (loadP_w ag142 sz142 rfl rfl) rfl (rl_t rfl rl_nil)) rfl ⟨by unfold newS;simp only [e];split<;>first|rfl|(exfalso;simp_all;done)|(exfalso;simp_all;omega),zle⟩
def tk177:Nat->Nat->Option Nat:=fun _ _=>none
def pl177:Nat->List PStep
 | 1=>[.q 0,.q 1,.s 2 [],.q 3,.q 4,.q 5,.q 6,.q 7,.s 8 [6,5,3,1,0],.q 9,.q 10,.q 11,.q 12,.q 13,.q 14,.q 15,.q 16,.q 17,.q 18]
 | 4=>[.q 0,.q 1,.q 2,.s 3 [1,0],.q 4,.q 5,.q 6]
 | 8=>[.q 0,.q 1,.q 2,.q 3,.q 4,.q 5,.q 6,.q 7,.s 8 [6,5,4,3,2,1],.s 9 []]
 | _=>[]
theorem cb177:Tryz.f177.body.map (codeB Tryz.prog Tryz.f177.ntmps tk177 pl177)=some true:=by kernel_rfl
theorem goes177:goesB Tryz.prog 177=true:=by kernel_rfl
theorem last_take {L:List Rec}{k i:Nat}(h:i<(L.take k).length)(hk:k<=L.length)(hi:i=k - 1)(hk0:0<k):(L.take k)[i]=L[k - 1]'(by omega):=by
 subst hi;rw [List.getElem_take]
theorem nxt_last {l:List Rec}{j:Nat}(hj':j<l.length)(hj:j=l.length - 1)(n:Int):(match l.getLast? with|none=>n|some r=>r.off+1)=l[j].off+1:=by
 subst hj;rw [List.getLast?_eq_getElem?,List.getElem?_eq_getElem hj']
theorem pollL_sub (s:Sb)(x:Tp)(many:Int):List.Sublist (pollL s x many) x.recs:=(List.take_sublist _ _).trans (readL_sub _ _ _)
theorem snd177 (s:Sb)(t m:Nat)(x:Tp)(many:Int)(M:Mem)(ht:M t=some (.cells (tpC m x)))(hm:M m=some (tpK x))(htm:t≠m)(hs:Sorted x.recs)(hlen:x.recs.length<2^40)(hoff:∀ r∈x.recs,0<=r.off/\r.off<2^60)(hlow:0<=x.low/\x.low<2^60):SoundCall Tryz.prog 177 [encSb s,ptr t,int many] M fun r M'=>r = .tup [encSb (pollS s x many).1,.sl ((pollS s x many).2.1.map enc) false,int (pollS s x many).2.2]/\M.le M':=by
 have hrl:=readL_len x.recs s.nxt many;have hsL:Sorted (readL x.recs s.nxt many):=sorted_sub hs (readL_sub _ _ _);have hpl:=(pollL_sub s x many).length_le;refine SoundCall.go tk177 pl177 mixed Tryz.func177 cb177 rfl (Nat.le_of_ble_eq_true rfl) ?_;refine Q0 ?_;refine o_box zbx rfl rfl (fun B1 hB1=>?_);have htm':=htm.symm;have n1:t≠B1:=Mem.fresh_ne hB1 ht;have n1':=n1.symm;have n2:m≠B1:=Mem.fresh_ne hB1 hm;have n2':=n2.symm;have m1:M B1=none:=zm hB1;refine o_alloc zc142 (fun B2 hB2=>?_);have n3:t≠B2:=Mem.fresh_ne hB2 mmQ;have n3':=n3.symm;have n4:m≠B2:=Mem.fresh_ne hB2 mmQ;have n4':=n4.symm;have f1_2:B1≠B2:=Mem.fresh_ne hB2 mmQ;have g2_1:B2≠B1:=f1_2.symm;have m2:M B2=none:=zm hB2;refine Q23 ?_;refine Q123 ?_;refine Q84 ?_;refine Q85 ag142 sz142 ?_;refine Q136 ?_;refine Q3 ?_;refine Q252 ?_;refine o_nil ⟨(by simp [Mem.upd, *]),?_⟩;refine Q199 ?_;refine Q5 ?_;refine d_cases (want:=false) (j:=4) rfl rfl (fun h1=>?_) (fun h1=>?_)
 ·have k1:=h1;try simp only [zs] at k1
  refine Q132 fo142_3 h1 ?_;refine Q153 ag3 sz3 h1 ?_;refine Q167 h1 ?_;refine Q3 ?_;refine Q14 h1 ?_;refine Q198 ?_;refine o_nil ⟨(by simp [Mem.upd, *]),?_⟩;refine Q186 h1 ?_;refine Q112 h1 ?_;refine Q5 ?_;refine d_cases (want:=false) (j:=11) rfl rfl (fun h2=>?_) (fun h2=>?_)
  ·have k2:=h2;try simp only [zs] at k2
   refine Q133 h2 ?_;refine Q226 h2 ?_;refine Q112 h2 ?_;refine Q5 ?_;refine d_cases (want:=false) (j:=15) rfl rfl (fun h3=>?_) (fun h3=>?_)
   ·have k3:=h3;try simp only [zs] at k3
    refine Q133 h3 ?_;refine Q186 h3 ?_;refine Q112 h3 ?_;refine d_nil ?_;refine s_cond rfl (fun h4=>?_) (fun h4=>?_)
    ·have k4:=h4;try simp only [zs] at k4
     refine Q51 ag142 sz142 sz142 ?_;refine Q23 ?_;refine Q10 ?_;exact ret_many (.inl rfl) rfl (rl_c rfl mmQ (loadP_w ag142 sz142 rfl rfl) rfl (rl_t rfl (rl_t rfl rl_nil))) rfl ⟨by unfold pollS;split<;>first|rfl|(exfalso;simp_all;done)|(exfalso;simp_all;omega),zle⟩
    ·have k4:=h4;try simp only [zs] at k4
     have hc:(ofS s x && decide (s.nxt<=x.en) && decide (1<=many) && decide (many<=50))=true:=by simp_all<;>omega
     have hri:rightSb s=true:=by simp_all [ofS]
     have hrl:=rightSb_le hri;refine s_skip ?_;refine Q17 ?_;refine Q12 fo142_3 ag3 sz3 ?_;refine Q1 ?_;refine o_call ((snd14 t m x s.nxt many _ mmQ hs hlen)) goes14 (ac (mvQ) (ac (v_raw rfl) (ac (v_raw rfl) ac_nil))) rfl ?_;refine Q23 ?_;refine Q11 ?_;refine s_draw rfl ?_;refine Q122 fo142_2 ag3 sz3 ?_;refine Q136 ?_;refine Q3 ?_;refine o_call (((snd25 t m x _ mmQ mmQ htm).det)) goes25 (ac (mvQ) ac_nil) rfl ?_;refine o_nil ⟨(by simp [Mem.upd, *]),?_⟩;refine d_q rfl (q_max rfl rfl) rfl rfl rfl ?_;refine Q195 ?_;refine Q60 ?_;refine s_seq ?_;refine s_cut (fun S=>∃ T,∃ M':Mem,S=⟨setT (setT (setT (setT T 3 (ptr B1)) 6 (ptr B2)) 8 (int 0)) 9 (.sl ((pollL s x many).map enc) false),M'⟩/\M.le M'/\M' B1=some (.cells [str s.name,str s.topic,int s.cur,int s.nxt])/\M' B2=some (.cells [str emp,str emp,int 0,int 0])) ?_ ?_
     ·refine s_block ?_;refine s_loop (fun m S=>∃ T,∃ M':Mem,∃ k:Nat,S=⟨setT (setT (setT (setT (setT T 3 (ptr B1)) 6 (ptr B2)) 8 (int 0)) 9 (.sl (((readL x.recs s.nxt many).take k).map enc) false)) 10 (int (edge s x)),M'⟩/\M.le M'/\M' B1=some (.cells [str s.name,str s.topic,int s.cur,int s.nxt])/\M' B2=some (.cells [str emp,str emp,int 0,int 0])/\atN (readL x.recs s.nxt many) (edge s x)<=k/\k<=(readL x.recs s.nxt many).length/\k=m) (readL x.recs s.nxt many).length ?_ ?_
      ·exact⟨_,_,(readL x.recs s.nxt many).length,St.mkT (kp (kp (kp (kp (kp rfl rfl) rfl) rfl) (congrArg (fun l=>AVal.sl (List.map enc l) false) (List.take_length).symm)) rfl).symm,zle,mmQ,mmQ,atN_le _ _,Nat.le_refl _,rfl⟩
      rintro m S ⟨T,M',k,rfl,hle,hB1,hB2,hak,hkl,rfl⟩;have hlk2:((readL x.recs s.nxt many).take k).length=k:=by rw [List.length_take];omega
      have hlk:(List.map enc ((readL x.recs s.nxt many).take k)).length=k:=by rw [List.length_map,hlk2]
      refine s_seq ?_;refine Q63 ?_;refine Q75 und35 ?_;refine Q61 ?_;refine Q1 ?_;refine o_cases (want:=true) (j:=3) rfl rfl (fun h5=>?_) (fun h5=>?_)
      ·have k5:=h5;try simp only [zs] at k5
       refine Q14 h5 ?_;refine Q76 ?_;refine Q14 h5 ?_;refine Q76 ?_;refine Q14 h5 ?_;refine Q75 und35 ?_;refine Q14 h5 ?_;refine Q184 ?_;refine Q14 h5 ?_;refine o_q (q_idx und35 sz39 rfl rfl (by omega) (gm _ (by first|omega|simp)) rfl) rfl rfl rfl ?_;refine Q14 h5 ?_;refine Q160 fo39_0 ?_;refine Q14 h5 ?_;refine o_q (q_ld ag3 sz3 rfl (gm _ (by first|omega|simp)) rfl (v_raw rfl)) rfl rfl rfl ?_;refine Q32 h5 h5 ?_;refine Q24 ?_;refine Q19 h5 ?_;refine o_nil ?_;refine s_cond rfl (fun h6=>?_) (fun h6=>?_)
       ·have k6:=h6;try simp only [zs] at k6
        refine s_skip ?_;refine s_block ?_;refine Q15 ?_;refine Q76 ?_;refine Q131 und35 ?_;refine Q184 ?_;refine o_q (q_sl_hi (n:=k - 1) und35 sz39 rfl elsR (ab rfl (by omega)) (by simp;omega)) rfl rfl rfl ?_;refine Q23 ?_;refine o_nil ?_;refine Q72 ?_;refine s_inv ?_;refine⟨k - 1,by omega,_,_,k - 1,St.mkT (kp (kp (kp (kp (kp rfl rfl) rfl) rfl) (congrArg (fun l=>AVal.sl (List.map enc l) false) ((List.take_take).trans (congrArg (fun n=>List.take n _) (by omega))))) rfl).symm,hle,hB1,hB2,?_,by omega,rfl⟩;rcases Nat.lt_or_ge (k - 1) (atN (readL x.recs s.nxt many) (edge s x)) with h|h
        ·exfalso;obtain⟨hi,h9⟩:=atN_lt h;rw [last_take (by omega) hkl (by omega) (by omega)] at k6;omega
        ·exact h
       ·have k6:=h6;try simp only [zs] at k6
        refine Q26 ?_;refine s_inv ?_;have hk:k=atN (readL x.recs s.nxt many) (edge s x):=by
         rcases Nat.lt_or_ge (atN (readL x.recs s.nxt many) (edge s x)) k with h|h
         ·exfalso;have h9:=atN_ge (off:=edge s x) hsL (i:=k - 1) (by omega) (by omega);rw [last_take (by omega) hkl (by omega) (by omega)] at k6;omega
         ·omega
        subst hk;exact⟨_,_,St.mkT (kp (kp (kp (kp rfl rfl) rfl) rfl) rfl).symm,hle,hB1,hB2⟩
      ·have k5:=h5;try simp only [zs] at k5
       refine Q48 h5 h5 h5 h5 ?_;refine Q48 h5 h5 h5 h5 ?_;refine Q120 h5 h5 ?_;refine Q115 ?_;refine Q26 ?_;refine s_inv ?_;have hk:k=atN (readL x.recs s.nxt many) (edge s x):=by omega
       subst hk;exact⟨_,_,St.mkT (kp (kp (kp (kp rfl rfl) rfl) rfl) rfl).symm,hle,hB1,hB2⟩
     rintro S ⟨T,M',rfl,hle,hB1,hB2⟩;have hlm:(List.map enc (pollL s x many)).length=(pollL s x many).length:=List.length_map _;refine s_seq ?_;refine Q63 ?_;refine Q75 und35 ?_;refine Q149 ?_;refine s_cond rfl (fun h7=>?_) (fun h7=>?_)
     ·have k7:=h7;try simp only [zs] at k7
      have hj:(((List.map enc (pollL s x many)).length:Int) - 1).toNat<(pollL s x many).length:=by omega
      have hjo:=hoff _ ((pollL_sub s x many).subset (List.getElem_mem hj));refine s_draw rfl ?_;refine Q85 ag142 sz142 ?_;refine Q83 ?_;refine Q83 ?_;refine d_q rfl (q_len rfl und35 rfl) rfl rfl rfl ?_;refine Q253 ?_;refine d_q rfl (q_idx und35 sz39 rfl rfl (by omega) (gm _ (by first|omega|simp)) rfl) rfl rfl rfl ?_;refine Q93 fo39_0 ?_;refine d_q rfl (q_ld ag3 sz3 rfl (gm _ (by first|omega|simp)) rfl (v_raw rfl)) rfl rfl rfl ?_;refine Q3 ?_;refine o_call (((snd220 s ((pollL s x many)[(((List.map enc (pollL s x many)).length:Int) - 1).toNat]'hj).off s.cur (((pollL s x many)[(((List.map enc (pollL s x many)).length:Int) - 1).toNat]'hj).off+1) 224 _ (fun M=>(snd224 _ _ _ M ⟨hjo.1,by omega⟩).det) goes224).det)) goes220 (ac (v_agg rfl) (ac (v_raw rfl) (ac (v_raw rfl) ac_nil))) rfl ?_;refine o_nil ⟨(by simp [Mem.upd, *]),?_⟩;refine Q118 sz142 ?_;refine o_nil ⟨(by simp [Mem.upd, *]),?_⟩;refine d_nil ?_;refine Q89 ag142 sz142 ?_;refine Q76 ?_;refine Q13 sz142 ?_;refine Q23 ?_;refine Q2 ?_;exact ret_many (.inl rfl) rfl (rl_c rfl mmQ (loadP_w ag142 sz142 rfl rfl) rfl (rl_t rfl (rl_t rfl rl_nil))) rfl ⟨by unfold pollS;rw [if_pos hc];exact congrArg (fun n=>AVal.tup [encSb ⟨s.name,s.topic,s.cur,n⟩,.sl ((pollL s x many).map enc) false,int 0]) (nxt_last (by omega) (by omega) _).symm,zle⟩
     ·have k7:=h7;try simp only [zs] at k7
      refine s_skip ?_;refine Q89 ag142 sz142 ?_;refine Q76 ?_;refine Q13 sz142 ?_;refine Q23 ?_;refine Q2 ?_;exact ret_many (.inl rfl) rfl (rl_c rfl mmQ (loadP_w ag142 sz142 rfl rfl) rfl (rl_t rfl (rl_t rfl rl_nil))) rfl ⟨by unfold pollS;rw [if_pos hc];have e:pollL s x many=[]:=List.eq_nil_of_length_eq_zero (by omega);rw [e];rfl,zle⟩
   ·have k3:=h3;try simp only [zs] at k3
    refine Q25 h3 h3 ?_;refine Q111 h3 ?_;refine Q139 ?_;refine Q51 ag142 sz142 sz142 ?_;refine Q23 ?_;refine Q10 ?_;exact ret_many (.inl rfl) rfl (rl_c rfl mmQ (loadP_w ag142 sz142 rfl rfl) rfl (rl_t rfl (rl_t rfl rl_nil))) rfl ⟨by unfold pollS;split<;>first|rfl|(exfalso;simp_all;done)|(exfalso;simp_all;omega),zle⟩
  ·have k2:=h2;try simp only [zs] at k2
   refine Q25 h2 h2 ?_;refine Q111 h2 ?_;refine Q5 ?_;refine Q90 ?_;refine Q134 ?_;refine Q139 ?_;refine Q51 ag142 sz142 sz142 ?_;refine Q23 ?_;refine Q10 ?_;exact ret_many (.inl rfl) rfl (rl_c rfl mmQ (loadP_w ag142 sz142 rfl rfl) rfl (rl_t rfl (rl_t rfl rl_nil))) rfl ⟨by unfold pollS;split<;>first|rfl|(exfalso;simp_all;done)|(exfalso;simp_all;omega),zle⟩
 ·have k1:=h1;try simp only [zs] at k1
  refine Q25 h1 h1 ?_;refine Q159 h1 ?_;refine Q3 ?_;refine Q155 h1 ?_;refine o_nil ⟨(by simp [Mem.upd, *]),?_⟩;refine Q159 h1 ?_;refine Q111 h1 ?_;refine Q5 ?_;refine Q90 ?_;refine Q134 ?_;refine Q5 ?_;refine Q90 ?_;refine Q134 ?_;refine Q139 ?_;refine Q51 ag142 sz142 sz142 ?_;refine Q23 ?_;refine Q10 ?_;exact ret_many (.inl rfl) rfl (rl_c rfl mmQ (loadP_w ag142 sz142 rfl rfl) rfl (rl_t rfl (rl_t rfl rl_nil))) rfl ⟨by unfold pollS;split<;>first|rfl|(exfalso;simp_all;done)|(exfalso;simp_all;omega),zle⟩
end C17
