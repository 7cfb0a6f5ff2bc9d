import Derived.Test.YticeppepdlgbhaaGreatDoorHz
import Derived.Test.YticeppepdlgbhaaGreatDoorZy2
import Derived.Test.YticeppepdlgbhaaGreatDoorZy1
open Go Go.Proofs Go.Am
set_option linter.unusedVariables false
set_option linter.unusedSimpArgs false
set_option autoImplicit false
set_option maxHeartbeats 4000000
set_option maxRecDepth 20000
namespace C17
theorem ag97:aggT Tryz.prog 97=some true:=by kernel_rfl
theorem bz97:(zeroT Tryz.prog 97).map (fun z=>z.cells.toList.map AVal.raw)=some [.raw (.string { data:=#[] }),.raw (.int .i64 0),.raw (.int .i64 0)]:=by kernel_rfl
theorem bp97:(aPlaces Tryz.prog 97).isSome=true:=by kernel_rfl
theorem fo44_2:fo Tryz.prog 44 2=some (2,1):=by kernel_rfl
theorem fo44_4:fo Tryz.prog 44 4=some (4,1):=by kernel_rfl
theorem fo97_1:fo Tryz.prog 97 1=some (1,1):=by kernel_rfl
theorem fo97_2:fo Tryz.prog 97 2=some (2,1):=by kernel_rfl
theorem slt42:SlT Tryz.prog 42 97 3 32:=⟨by kernel_rfl,by kernel_rfl,by kernel_rfl,by kernel_rfl,by decide⟩
theorem zc97:zeroCellsT Tryz.prog 97=some [.raw (.string { data:=#[] }),.raw (.int .i64 0),.raw (.int .i64 0)]:=by kernel_rfl
def tk13:Nat->Nat->Option Nat
 | 10,0=>some 0
 | 11,0=>some 0
 | 11,8=>some 0
 | 12,0=>some 0
 | 12,4=>some 0
 | 15,1=>some 0
 | 16,0=>some 0
 | 17,0=>some 0
 | 17,6=>some 0
 | 18,1=>some 0
 | _,_=>none
def pl13:Nat->List PStep:=fun _=>[]
theorem cb13:Tryz.f13.body.map (codeB Tryz.prog Tryz.f13.ntmps tk13 pl13)=some true:=by kernel_rfl
theorem goes13:goesB Tryz.prog 13=true:=by kernel_rfl
theorem snd13t (y:Nat)(x:Tp)(o1 o2:Bool)(nm:ByteArray)(seq:Int)(ky vl:ByteArray)(z:Tp)(a b:Int)(hp:pub x nm seq ky vl=(z,a,b))(M:Mem)(hy:M y=some (.cells (ryC x (ksL x) o1 o2)))(hx:LoadOk x)(hen:0<=x.en/\x.en<=9007199254740990)(hP:(ksL x).length<2^30)(hR:x.recs.length<2^30)(hs:nm.size<2^63)(hth:thereB (ksL x) nm=true):SoundCall Tryz.prog 13 [ptr y,str nm,int seq,str ky,str vl] M fun r M'=>∃ q1 q2,r = .tup [int a,int b]/\M' y=some (.cells (ryC z (ksL z) q1 q2))/\Kept M M' y:=by
 have hle:=Mem.le_refl M;have hml:((ksL x).map prE).length=(ksL x).length:=List.length_map _;have hmr:(x.recs.map enc).length=x.recs.length:=List.length_map _;have hfl:=findN_le (ksL x) nm;obtain⟨hl,hkg⟩:=ksl_there hx.nd hth;refine SoundCall.go tk13 pl13 mixed Tryz.func13 cb13 rfl (Nat.le_of_ble_eq_true rfl) ?_;refine Q129 ?_;refine Q46 ?_;refine o_call ((snd47 nm _ hs)) goes47 (ac (v_raw rfl) ac_nil) rfl ?_;refine Q20 ?_;refine Q92 ?_;refine Q97 ?_;refine Q171 ?_;refine Q88 ?_;refine Q97 ?_;refine Q128 ?_;refine Q88 ?_;refine Q97 ?_;refine Q185 und9 ?_;refine Q128 ?_;refine Q88 ?_;refine Q97 ?_;refine Q185 und9 ?_;refine Q128 ?_;refine Q145 ?_;refine o_nil ?_;refine s_cond rfl (fun h1=>?_) (fun h1=>?_)
 ·have k1:=h1;try simp only [zs] at k1
  have hp1:pub x nm seq ky vl=(x,0,7):=pub_bad fun hh=>by
   obtain⟨g1,g2,g3,g4,g5⟩:=hh;rw [g1] at h1;simp only [Bool.or_eq_true,decide_eq_true_eq,Bool.not_true,Bool.false_eq_true,false_or] at h1;omega
  obtain⟨rfl,rfl,rfl⟩:=pub_inj hp hp1;refine Q129 ?_;refine Q10 ?_;exact ret_many (.inl rfl) rfl (rl_t rfl (rl_t rfl (rl_nil))) rfl (⟨o1,o2,rfl,hy,fun c o _ hc=>hc⟩)
 ·have k1:=h1;try simp only [zs] at k1
  have hgd:(word nm=true/\0<=seq/\seq<=9007199254740991/\ky.size<=100/\vl.size<=1000):=by
   simp only [Bool.or_eq_false_iff,decide_eq_false_iff_not,Bool.not_eq_false'] at h1;obtain⟨⟨⟨⟨g1,g2⟩,g3⟩,g4⟩,g5⟩:=h1;exact⟨g1,by omega,by omega,by omega,by omega⟩
  have hp0:=pub_good (x:=x) (by omega) hgd;rw [hkg] at hp0;refine s_skip ?_;refine Q17 ?_;refine Q1 ?_;refine o_call ((snd49 y x (ksL x) o1 o2 nm _ (by omega) hy)) goes49 (ac (mvQ) (ac (v_raw rfl) ac_nil)) rfl ?_;refine Q96 ?_;refine Q30 ?_;refine Q30 ?_;refine Q27 ?_;refine Q20 ?_;refine Q1 ?_;refine Q98 ?_;refine Q22 ?_;refine Q98 ?_;refine o_q (q_nil rfl) rfl rfl rfl ?_;refine Q98 ?_;refine Q36 fo44_3 ?_;refine Q98 ?_;refine Q124 ag42 sz42 ?_;refine Q98 ?_;refine Q1 ?_;refine Q98 ?_;refine Q263 und42 sz97 ?_;refine Q98 ?_;refine Q160 fo97_1 ?_;refine Q98 ?_;refine Q264 ag3 sz3 ?_;refine Q98 ?_;refine Q1 ?_;refine Q98 ?_;refine Q56 ?_;refine o_q (q_pick_c (t:=true) rfl hth (v_raw rfl)) rfl rfl rfl ?_;refine o_nil ?_;refine s_cond rfl (fun h2=>?_) (fun h2=>?_)
  ·have k2:=h2;try simp only [zs] at k2
   have he:((ksL x)[findN (ksL x) nm]).2.1=seq:=of_decide_eq_true h2;have hp1:pub x nm seq ky vl=(x,((ksL x)[findN (ksL x) nm]).2.2.1,0):=by
    rw [hp0];dsimp only;rw [if_neg (by omega),if_pos he.symm]
   obtain⟨rfl,rfl,rfl⟩:=pub_inj hp hp1;refine Q95 fo44_3 ?_;refine Q116 ag42 sz42 ?_;refine Q263 und42 sz97 ?_;refine Q160 fo97_2 ?_;refine Q264 ag3 sz3 ?_;refine Q27 ?_;refine Q10 ?_;exact ret_many (.inl rfl) rfl (rl_t rfl (rl_t rfl (rl_nil))) rfl (⟨o1,o2,rfl,hy,fun c o _ hc=>hc⟩)
  ·have k2:=h2;try simp only [zs] at k2
   have hne:¬ ((ksL x)[findN (ksL x) nm]).2.1=seq:=of_decide_eq_false h2;refine s_skip ?_;refine Q4 ?_;refine Q1 ?_;refine Q98 ?_;refine Q22 ?_;refine Q98 ?_;refine o_q (q_nil rfl) rfl rfl rfl ?_;refine Q98 ?_;refine Q36 fo44_3 ?_;refine Q98 ?_;refine Q124 ag42 sz42 ?_;refine Q98 ?_;refine Q1 ?_;refine Q98 ?_;refine Q263 und42 sz97 ?_;refine Q98 ?_;refine Q160 fo97_1 ?_;refine Q98 ?_;refine Q264 ag3 sz3 ?_;refine Q98 ?_;refine Q1 ?_;refine Q98 ?_;refine Q61 ?_;refine o_q (q_pick_c (t:=true) rfl hth (v_raw rfl)) rfl rfl rfl ?_;refine o_nil ?_;refine s_cond rfl (fun h3=>?_) (fun h3=>?_)
   ·have k3:=h3;try simp only [zs] at k3
    have hg:seq<((ksL x)[findN (ksL x) nm]).2.1:=of_decide_eq_true h3;have hp1:pub x nm seq ky vl=(x,0,6):=by
     rw [hp0];dsimp only;rw [if_pos hg]
    obtain⟨rfl,rfl,rfl⟩:=pub_inj hp hp1;refine Q129 ?_;refine Q10 ?_;exact ret_many (.inl rfl) rfl (rl_t rfl (rl_t rfl (rl_nil))) rfl (⟨o1,o2,rfl,hy,fun c o _ hc=>hc⟩)
   ·have k3:=h3;try simp only [zs] at k3
    have hng:¬ seq<((ksL x)[findN (ksL x) nm]).2.1:=of_decide_eq_false h3;have hp1:pub x nm seq ky vl=((⟨x.name,x.low,x.en+1,kput x.kvs nm (seq,x.en,nm),x.recs++[newR x nm seq ky vl]⟩ : Tp),x.en,0):=by
     rw [hp0];dsimp only;rw [if_neg hng,if_neg (fun e=>hne e.symm)]
    obtain⟨rfl,rfl,rfl⟩:=pub_inj hp hp1;refine Q69 ?_;refine Q1 ?_;refine Q22 ?_;refine Q81 fo44_2 ag3 sz3 ?_;refine Q280 bz97 bp97 fo97_0 fo97_1 fo97_2 ?_;refine o_alloc zc97 (fun B1 hB1=>?_);have ny1:y≠B1:=Mem.fresh_ne hB1 hy;have ny1b:=ny1.symm;have m1:M B1=none:=zm hB1;refine Q54 sz97 ?_;refine Q0 ?_;refine Q86 ?_;refine Q42 ?_;refine Q38 ?_;refine Q62 fo44_3 ?_;refine Q116 ag42 sz42 ?_;refine o_q (q_sl_hi (n:=findN (ksL x) nm) und42 sz97 rfl elsPrE (ab rfl rfl) (by omega)) rfl rfl rfl ?_;refine o_qs (q_app slt42 rfl rfl rfl rfl (by repeat first|exact elsPrE|exact Els.nil|exact Els.cons rfl rfl Els.nil|refine Els.append ?_ ?_) (by first|exact (by repeat first|exact elsPrE|exact Els.nil|exact Els.cons rfl rfl Els.nil|refine Els.append ?_ ?_)|exact Els.cons rfl rfl Els.nil) (by simp;omega)) rfl rfl rfl rfl ?_;refine Q164 ?_;refine Q42 ?_;refine Q38 ?_;refine Q50 ag97 sz97 ?_;refine Q143 slt42 ?_;refine o_qs (q_app slt42 rfl rfl rfl rfl (by repeat first|exact elsPrE|exact Els.nil|exact Els.cons rfl rfl Els.nil|refine Els.append ?_ ?_) (by first|exact (by repeat first|exact elsPrE|exact Els.nil|exact Els.cons rfl rfl Els.nil|refine Els.append ?_ ?_)|exact Els.cons rfl rfl Els.nil) (by simp;omega)) rfl rfl rfl rfl ?_;refine Q87 ?_;refine Q4 ?_;refine o_nil ?_;refine s_then rfl hth ?_;refine Q227 ?_;refine Q8 ?_;refine Q17 ?_;refine Q38 ?_;refine Q62 fo44_3 ?_;refine Q116 ag42 sz42 ?_;refine o_q (q_sl_lo (n:=findN (ksL x) nm+1) und42 sz97 rfl elsPrE (ab rfl rfl) (by omega)) rfl rfl rfl ?_;refine o_qs (q_app slt42 rfl rfl rfl rfl (by repeat first|exact elsPrE|exact Els.nil|exact Els.cons rfl rfl Els.nil|refine Els.append ?_ ?_) (by first|exact (by repeat first|exact elsPrE|exact Els.nil|exact Els.cons rfl rfl Els.nil|refine Els.append ?_ ?_)|exact Els.cons rfl rfl Els.nil) (by simp;omega)) rfl rfl rfl rfl ?_;refine Q44 fo44_3 ?_;refine Q162 sz42 ?_;refine Q42 ?_;refine Q86 ?_;refine Q42 ?_;refine Q38 ?_;refine Q62 fo44_4 ?_;refine Q124 ag35 sz35 ?_;refine o_qs (q_app slt35 rfl rfl rfl rfl (by repeat first|exact elsR|exact Els.nil|exact Els.cons rfl rfl Els.nil|refine Els.append ?_ ?_) (by first|exact (by repeat first|exact elsR|exact Els.nil|exact Els.cons rfl rfl Els.nil|refine Els.append ?_ ?_)|exact Els.cons rfl rfl Els.nil) (by simp;omega)) rfl rfl rfl rfl ?_;refine Q164 ?_;refine Q52 ?_;refine Q38 ?_;refine Q22 ?_;refine Q81 fo44_2 ag3 sz3 ?_;refine Q91 ?_;refine Q91 ?_;refine Q191 bz39 bp39 fo39_0 fo39_1 fo39_2 fo39_3 fo39_4 ?_;refine Q143 slt35 ?_;refine o_qs (q_app slt35 rfl rfl rfl rfl (by repeat first|exact elsR|exact Els.nil|exact Els.cons rfl rfl Els.nil|refine Els.append ?_ ?_) (by first|exact (by repeat first|exact elsR|exact Els.nil|exact Els.cons rfl rfl Els.nil|refine Els.append ?_ ?_)|exact Els.cons rfl rfl Els.nil) (by simp;omega)) rfl rfl rfl rfl ?_;refine Q44 fo44_4 ?_;refine Q162 sz35 ?_;refine Q52 ?_;refine Q81 fo44_2 ag3 sz3 ?_;refine Q43 ?_;refine Q44 fo44_2 ?_;refine Q103 sz3 ?_;refine Q6 fo97_2 ag3 sz3 ?_;refine Q27 ?_;refine Q2 ?_;have hL : [str x.name,int x.low,int (x.en+1),.sl ((([]++((ksL x).take (findN (ksL x) nm)).map prE)++[prE (nm,(seq,x.en,nm))])++((ksL x).drop (findN (ksL x) nm+1)).map prE) true,.sl (([]++x.recs.map enc)++[enc (newR x nm seq ky vl)]) true]=ryC (⟨x.name,x.low,x.en+1,kput x.kvs nm (seq,x.en,nm),x.recs++[newR x nm seq ky vl]⟩ : Tp) (ksL (⟨x.name,x.low,x.en+1,kput x.kvs nm (seq,x.en,nm),x.recs++[newR x nm seq ky vl]⟩ : Tp)) true true:=by
     rw [ksL_put (x:=x) (y:=(⟨x.name,x.low,x.en+1,kput x.kvs nm (seq,x.en,nm),x.recs++[newR x nm seq ky vl]⟩ : Tp)) hx.nd rfl];unfold ryC insK;rw [hth];simp
    exact ret_many (.inl rfl) rfl (rl_t rfl (rl_t rfl (rl_nil))) rfl (⟨true,true,rfl,(Mem.upd_self _ _ _).trans (congrArg (fun l=>some (AObj.cells l)) hL),(fun c o hc ho=>by repeat first|exact ho|exact (upd_other hc).trans ho|exact Mem.upd_ne (by first|exact hc|exact Mem.ne_none ho (by assumption)) ho|refine Mem.upd_ne (by first|exact hc|exact Mem.ne_none ho (by assumption)) ?_)⟩)
def tk13n:Nat->Nat->Option Nat
 | 10,0=>some 0
 | 11,0=>some 0
 | 11,8=>some 0
 | 12,0=>some 0
 | 12,4=>some 0
 | 15,1=>some 0
 | 16,0=>some 0
 | 17,0=>some 0
 | 17,6=>some 0
 | 18,1=>some 0
 | _,_=>none
def pl13n:Nat->List PStep:=fun _=>[]
theorem cb13n:Tryz.f13.body.map (codeB Tryz.prog Tryz.f13.ntmps tk13n pl13n)=some true:=by kernel_rfl
theorem snd13n (y:Nat)(x:Tp)(o1 o2:Bool)(nm:ByteArray)(seq:Int)(ky vl:ByteArray)(z:Tp)(a b:Int)(hp:pub x nm seq ky vl=(z,a,b))(M:Mem)(hy:M y=some (.cells (ryC x (ksL x) o1 o2)))(hx:LoadOk x)(hen:0<=x.en/\x.en<=9007199254740990)(hP:(ksL x).length<2^30)(hR:x.recs.length<2^30)(hs:nm.size<2^63)(hth:thereB (ksL x) nm=false):SoundCall Tryz.prog 13 [ptr y,str nm,int seq,str ky,str vl] M fun r M'=>∃ q1 q2,r = .tup [int a,int b]/\M' y=some (.cells (ryC z (ksL z) q1 q2))/\Kept M M' y:=by
 have hle:=Mem.le_refl M;have hml:((ksL x).map prE).length=(ksL x).length:=List.length_map _;have hmr:(x.recs.map enc).length=x.recs.length:=List.length_map _;have hfl:=findN_le (ksL x) nm;have hkg:=ksl_not hx.nd hth;refine SoundCall.go tk13n pl13n mixed Tryz.func13 cb13n rfl (Nat.le_of_ble_eq_true rfl) ?_;refine Q129 ?_;refine Q46 ?_;refine o_call ((snd47 nm _ hs)) goes47 (ac (v_raw rfl) ac_nil) rfl ?_;refine Q20 ?_;refine Q92 ?_;refine Q97 ?_;refine Q171 ?_;refine Q88 ?_;refine Q97 ?_;refine Q128 ?_;refine Q88 ?_;refine Q97 ?_;refine Q185 und9 ?_;refine Q128 ?_;refine Q88 ?_;refine Q97 ?_;refine Q185 und9 ?_;refine Q128 ?_;refine Q145 ?_;refine o_nil ?_;refine s_cond rfl (fun h1=>?_) (fun h1=>?_)
 ·have k1:=h1;try simp only [zs] at k1
  have hp1:pub x nm seq ky vl=(x,0,7):=pub_bad fun hh=>by
   obtain⟨g1,g2,g3,g4,g5⟩:=hh;rw [g1] at h1;simp only [Bool.or_eq_true,decide_eq_true_eq,Bool.not_true,Bool.false_eq_true,false_or] at h1;omega
  obtain⟨rfl,rfl,rfl⟩:=pub_inj hp hp1;refine Q129 ?_;refine Q10 ?_;exact ret_many (.inl rfl) rfl (rl_t rfl (rl_t rfl (rl_nil))) rfl (⟨o1,o2,rfl,hy,fun c o _ hc=>hc⟩)
 ·have k1:=h1;try simp only [zs] at k1
  have hgd:(word nm=true/\0<=seq/\seq<=9007199254740991/\ky.size<=100/\vl.size<=1000):=by
   simp only [Bool.or_eq_false_iff,decide_eq_false_iff_not,Bool.not_eq_false'] at h1;obtain⟨⟨⟨⟨g1,g2⟩,g3⟩,g4⟩,g5⟩:=h1;exact⟨g1,by omega,by omega,by omega,by omega⟩
  have hp0:=pub_good (x:=x) (by omega) hgd;rw [hkg] at hp0;obtain⟨rfl,rfl,rfl⟩:=pub_inj hp hp0;refine s_skip ?_;refine Q17 ?_;refine Q1 ?_;refine o_call ((snd49 y x (ksL x) o1 o2 nm _ (by omega) hy)) goes49 (ac (mvQ) (ac (v_raw rfl) ac_nil)) rfl ?_;refine Q96 ?_;refine Q30 ?_;refine Q30 ?_;refine Q27 ?_;refine Q20 ?_;refine Q1 ?_;iterate 10 refine Q99 ?_
  refine o_q (q_pick_c (t:=false) rfl hth (v_raw rfl)) rfl rfl rfl ?_;refine Q115 ?_;refine s_skip ?_;refine Q4 ?_;refine Q1 ?_;iterate 10 refine Q99 ?_
  refine o_q (q_pick_c (t:=false) rfl hth (v_raw rfl)) rfl rfl rfl ?_;refine Q115 ?_;refine Q69 ?_;refine Q1 ?_;refine Q22 ?_;refine Q81 fo44_2 ag3 sz3 ?_;refine Q280 bz97 bp97 fo97_0 fo97_1 fo97_2 ?_;refine o_alloc zc97 (fun B1 hB1=>?_);have ny1:y≠B1:=Mem.fresh_ne hB1 hy;have ny1b:=ny1.symm;have m1:M B1=none:=zm hB1;refine Q54 sz97 ?_;refine Q0 ?_;refine Q86 ?_;refine Q42 ?_;refine Q38 ?_;refine Q62 fo44_3 ?_;refine Q116 ag42 sz42 ?_;refine o_q (q_sl_hi (n:=findN (ksL x) nm) und42 sz97 rfl elsPrE (ab rfl rfl) (by omega)) rfl rfl rfl ?_;refine o_qs (q_app slt42 rfl rfl rfl rfl (by repeat first|exact elsPrE|exact Els.nil|exact Els.cons rfl rfl Els.nil|refine Els.append ?_ ?_) (by first|exact (by repeat first|exact elsPrE|exact Els.nil|exact Els.cons rfl rfl Els.nil|refine Els.append ?_ ?_)|exact Els.cons rfl rfl Els.nil) (by simp;omega)) rfl rfl rfl rfl ?_;refine Q164 ?_;refine Q42 ?_;refine Q38 ?_;refine Q50 ag97 sz97 ?_;refine Q143 slt42 ?_;refine o_qs (q_app slt42 rfl rfl rfl rfl (by repeat first|exact elsPrE|exact Els.nil|exact Els.cons rfl rfl Els.nil|refine Els.append ?_ ?_) (by first|exact (by repeat first|exact elsPrE|exact Els.nil|exact Els.cons rfl rfl Els.nil|refine Els.append ?_ ?_)|exact Els.cons rfl rfl Els.nil) (by simp;omega)) rfl rfl rfl rfl ?_;refine Q87 ?_;refine Q4 ?_;refine o_nil ?_;refine s_else rfl hth ?_;refine s_skip ?_;refine Q17 ?_;refine Q38 ?_;refine Q62 fo44_3 ?_;refine Q116 ag42 sz42 ?_;refine o_q (q_sl_lo (n:=findN (ksL x) nm) und42 sz97 rfl elsPrE (ab rfl rfl) (by omega)) rfl rfl rfl ?_;refine o_qs (q_app slt42 rfl rfl rfl rfl (by repeat first|exact elsPrE|exact Els.nil|exact Els.cons rfl rfl Els.nil|refine Els.append ?_ ?_) (by first|exact (by repeat first|exact elsPrE|exact Els.nil|exact Els.cons rfl rfl Els.nil|refine Els.append ?_ ?_)|exact Els.cons rfl rfl Els.nil) (by simp;omega)) rfl rfl rfl rfl ?_;refine Q44 fo44_3 ?_;refine Q162 sz42 ?_;refine Q42 ?_;refine Q86 ?_;refine Q42 ?_;refine Q38 ?_;refine Q62 fo44_4 ?_;refine Q124 ag35 sz35 ?_;refine o_qs (q_app slt35 rfl rfl rfl rfl (by repeat first|exact elsR|exact Els.nil|exact Els.cons rfl rfl Els.nil|refine Els.append ?_ ?_) (by first|exact (by repeat first|exact elsR|exact Els.nil|exact Els.cons rfl rfl Els.nil|refine Els.append ?_ ?_)|exact Els.cons rfl rfl Els.nil) (by simp;omega)) rfl rfl rfl rfl ?_;refine Q164 ?_;refine Q52 ?_;refine Q38 ?_;refine Q22 ?_;refine Q81 fo44_2 ag3 sz3 ?_;refine Q91 ?_;refine Q91 ?_;refine Q191 bz39 bp39 fo39_0 fo39_1 fo39_2 fo39_3 fo39_4 ?_;refine Q143 slt35 ?_;refine o_qs (q_app slt35 rfl rfl rfl rfl (by repeat first|exact elsR|exact Els.nil|exact Els.cons rfl rfl Els.nil|refine Els.append ?_ ?_) (by first|exact (by repeat first|exact elsR|exact Els.nil|exact Els.cons rfl rfl Els.nil|refine Els.append ?_ ?_)|exact Els.cons rfl rfl Els.nil) (by simp;omega)) rfl rfl rfl rfl ?_;refine Q44 fo44_4 ?_;refine Q162 sz35 ?_;refine Q52 ?_;refine Q81 fo44_2 ag3 sz3 ?_;refine Q43 ?_;refine Q44 fo44_2 ?_;refine Q103 sz3 ?_;refine Q6 fo97_2 ag3 sz3 ?_;refine Q27 ?_;refine Q2 ?_;have hL : [str x.name,int x.low,int (x.en+1),.sl ((([]++((ksL x).take (findN (ksL x) nm)).map prE)++[prE (nm,(seq,x.en,nm))])++((ksL x).drop (findN (ksL x) nm)).map prE) true,.sl (([]++x.recs.map enc)++[enc (newR x nm seq ky vl)]) true]=ryC (⟨x.name,x.low,x.en+1,kput x.kvs nm (seq,x.en,nm),x.recs++[newR x nm seq ky vl]⟩ : Tp) (ksL (⟨x.name,x.low,x.en+1,kput x.kvs nm (seq,x.en,nm),x.recs++[newR x nm seq ky vl]⟩ : Tp)) true true:=by
   rw [ksL_put (x:=x) (y:=(⟨x.name,x.low,x.en+1,kput x.kvs nm (seq,x.en,nm),x.recs++[newR x nm seq ky vl]⟩ : Tp)) hx.nd rfl];unfold ryC insK;rw [hth];simp
  exact ret_many (.inl rfl) rfl (rl_t rfl (rl_t rfl (rl_nil))) rfl (⟨true,true,rfl,(Mem.upd_self _ _ _).trans (congrArg (fun l=>some (AObj.cells l)) hL),(fun c o hc ho=>by repeat first|exact ho|exact (upd_other hc).trans ho|exact Mem.upd_ne (by first|exact hc|exact Mem.ne_none ho (by assumption)) ho|refine Mem.upd_ne (by first|exact hc|exact Mem.ne_none ho (by assumption)) ?_)⟩)
theorem pubD {y:Nat}{x:Tp}{o1 o2:Bool}{nm:ByteArray}{seq:Int}{ky vl:ByteArray}{M:Mem}(hy:M y=some (.cells (ryC x (ksL x) o1 o2)))(hx:LoadOk x)(hen:0<=x.en/\x.en<=9007199254740990)(hP:(ksL x).length<2^30)(hR:x.recs.length<2^30)(hs:nm.size<2^63):SoundCall Tryz.prog 13 [ptr y,str nm,int seq,str ky,str vl] M fun r M'=>∃ q1 q2,r = .tup [int (pub x nm seq ky vl).2.1,int (pub x nm seq ky vl).2.2]/\M'=M.upd y (.cells (ryC (pub x nm seq ky vl).1 (ksL (pub x nm seq ky vl).1) q1 q2)):=by
 have key:SoundCall Tryz.prog 13 [ptr y,str nm,int seq,str ky,str vl] M fun r M'=>∃ q1 q2,r = .tup [int (pub x nm seq ky vl).2.1,int (pub x nm seq ky vl).2.2]/\M' y=some (.cells (ryC (pub x nm seq ky vl).1 (ksL (pub x nm seq ky vl).1) q1 q2))/\Kept M M' y:=by
  cases hth:thereB (ksL x) nm with
  | true=>exact snd13t y x o1 o2 nm seq ky vl _ _ _ rfl M hy hx hen hP hR hs hth
  | false=>exact snd13n y x o1 o2 nm seq ky vl _ _ _ rfl M hy hx hen hP hR hs hth
 refine key.recast fun r M' h=>?_
 obtain⟨q1,q2,h1,h2,h3⟩:=h;refine⟨_,Mem.imp_of_le (le_y h2 h3),q1,q2,h1,rfl⟩
end C17
