import Derived.Test.YticeppepdlgbhaaGreatDoorHz
import Derived.Test.YticeppepdlgbhaaGreatDoorZy3
import Derived.Test.YticeppepdlgbhaaGreatDoorZy1
open Go Go.Proofs Go.Am
set_option linter.unusedVariables false
set_option linter.unusedSimpArgs false
set_option autoImplicit false
set_option maxHeartbeats 4000000
set_option maxRecDepth 20000
namespace C17
theorem fo44_1:fo Tryz.prog 44 1=some (1,1):=by kernel_rfl
def tk16:Nat->Nat->Option Nat
 | 1,0=>some 0
 | 6,0=>some 0
 | 6,10=>some 0
 | _,_=>none
def pl16:Nat->List PStep:=fun _=>[]
theorem cb16:Tryz.f16.body.map (codeB Tryz.prog Tryz.f16.ntmps tk16 pl16)=some true:=by kernel_rfl
theorem goes16:goesB Tryz.prog 16=true:=by kernel_rfl
theorem take_filter {l:List Rec}{i:Nat}(h:i<l.length)(off:Int):(l.take (i+1)).filter (fun r:Rec=>decide (off<=r.off))=(l.take i).filter (fun r:Rec=>decide (off<=r.off))++(if off<=l[i].off then [l[i]] else []):=by
 rw [List.take_succ_eq_append_getElem h,List.filter_append];congr 1;rw [List.filter_cons,List.filter_nil];by_cases h1:off<=l[i].off
 ·rw [if_pos (by simpa using h1),if_pos h1]
 ·rw [if_neg (by simpa using h1),if_neg h1]
theorem read_end {l:List Rec}{i:Nat}{off most:Int}(hi:i<=l.length)(hle:(((l.take i).filter fun r:Rec=>decide (off<=r.off)).length:Int)<=max most 0)(h:i=l.length\/most<=(((l.take i).filter fun r:Rec=>decide (off<=r.off)).length:Int)):(l.take i).filter (fun r:Rec=>decide (off<=r.off))=readF l off most:=by
 unfold readF;rcases h with rfl|h
 ·rw [List.take_length] at hle ⊢;rw [List.take_of_length_le (by omega)]
 ·have hf:l.filter (fun r:Rec=>decide (off<=r.off))=(l.take i).filter (fun r:Rec=>decide (off<=r.off))++(l.drop i).filter (fun r:Rec=>decide (off<=r.off)):=by
   rw [← List.filter_append,List.take_append_drop]
  have g1:(max most 0).toNat<=((l.take i).filter fun r:Rec=>decide (off<=r.off)).length:=by omega
  have g2:((l.take i).filter fun r:Rec=>decide (off<=r.off)).length<=(max most 0).toNat:=by omega
  rw [hf,List.take_append_of_le_length g1,List.take_of_length_le g2]
theorem snd16 (y:Nat)(x:Tp)(P:List KV)(o1 o2:Bool)(off most:Int)(M:Mem)(hR:x.recs.length<2^40)(hy:M y=some (.cells (ryC x P o1 o2))):SoundCall Tryz.prog 16 [ptr y,int off,int most] M fun r M'=>r = .sl ((readF x.recs off most).map enc) false/\M'=M:=by
 have hmr:(x.recs.map enc).length=x.recs.length:=List.length_map _;refine SoundCall.go tk16 pl16 mixed Tryz.func16 cb16 rfl (Nat.le_of_ble_eq_true rfl) ?_;refine Q67 ?_;refine Q42 ?_;refine Q86 ?_;refine Q11 ?_;refine Q109 ?_;refine s_loop (fun m S=>∃ T,∃ i:Nat,S=⟨setT (setT (setT (setT (setT T 0 (ptr y)) 1 (int off)) 2 (int most)) 7 (.sl (((x.recs.take i).filter (fun r:Rec=>decide (off<=r.off))).map enc) true)) 8 (int (i:Nat)),M⟩/\i<=x.recs.length/\((((x.recs.take i).filter (fun r:Rec=>decide (off<=r.off))).length:Nat):Int)<=max most 0/\m=x.recs.length - i) x.recs.length ?_ ?_
 ·exact⟨_,0,St.mkT (kp (kp (kp (kp (kp rfl rfl) rfl) rfl) rfl) rfl).symm,by omega,(by show (0:Int)<=_;omega),rfl⟩
 rintro m S ⟨T,i,rfl,hi,hle,rfl⟩;have hmf:(((x.recs.take i).filter (fun r:Rec=>decide (off<=r.off))).map enc).length=((x.recs.take i).filter (fun r:Rec=>decide (off<=r.off))).length:=List.length_map _;have hfl:((x.recs.take i).filter (fun r:Rec=>decide (off<=r.off))).length<=i:=Nat.le_trans (List.length_filter_le _ _) (by rw [List.length_take];omega);refine Q4 ?_;refine Q62 fo44_4 ?_;refine Q124 ag35 sz35 ?_;refine Q75 und35 ?_;refine Q59 ?_;refine Q1 ?_;refine o_cases (want:=true) (j:=7) rfl rfl (fun h1=>?_) (fun h1=>?_)
 ·have k1:=h1;try simp only [zs] at k1
  have hi2:i<x.recs.length:=by omega
  refine Q14 h1 ?_;refine Q76 ?_;refine Q14 h1 ?_;refine Q75 und35 ?_;refine Q32 h1 h1 ?_;refine Q59 ?_;refine Q19 h1 ?_;refine o_nil ?_;refine s_cond rfl (fun h2=>?_) (fun h2=>?_)
  ·have k2:=h2;try simp only [zs] at k2
   refine Q55 ?_;refine Q95 fo44_4 ?_;refine Q116 ag35 sz35 ?_;refine Q137 und35 sz39 ?_;refine Q160 fo39_0 ?_;refine Q265 ag3 sz3 ?_;refine Q1 ?_;refine Q24 ?_;refine o_nil ?_;refine s_cond rfl (fun h3=>?_) (fun h3=>?_)
   ·have k3:=h3;try simp only [zs] at k3
    refine Q15 ?_;refine Q38 ?_;refine Q62 fo44_4 ?_;refine Q116 ag35 sz35 ?_;refine Q137 und35 sz39 ?_;refine Q176 ag39 sz39 ?_;refine Q143 slt35 ?_;refine Q192 slt35 ?_;refine Q87 ?_;refine Q72 ?_;refine Q39 ?_;have h9:off<=x.recs[i].off:=of_decide_eq_true h3;have e9:(x.recs.take (i+1)).filter (fun r:Rec=>decide (off<=r.off))=((x.recs.take i).filter (fun r:Rec=>decide (off<=r.off)))++[x.recs[i]]:=by rw [take_filter hi2 off,if_pos h9]
    exact⟨x.recs.length - (i+1),by omega,_,i+1,St.mkT (kp (kp (kp (kp (kp rfl rfl) rfl) rfl) ((congrArg (fun l=>AVal.sl l true) (List.map_append (f:=enc)).symm).trans (congrArg (fun l:List Rec=>AVal.sl (l.map enc) true) e9.symm))) rfl).symm,by omega,(by rw [e9,List.length_append,List.length_singleton];push_cast;omega),rfl⟩
   ·have k3:=h3;try simp only [zs] at k3
    refine Q47 ?_;refine Q39 ?_;have h9:¬ off<=x.recs[i].off:=of_decide_eq_false h3;have e9:(x.recs.take (i+1)).filter (fun r:Rec=>decide (off<=r.off))=((x.recs.take i).filter (fun r:Rec=>decide (off<=r.off))):=by rw [take_filter hi2 off,if_neg h9,List.append_nil]
    exact⟨x.recs.length - (i+1),by omega,_,i+1,St.mkT (kp (kp (kp (kp (kp rfl rfl) rfl) rfl) (congrArg (fun l:List Rec=>AVal.sl (l.map enc) true) e9.symm)) rfl).symm,by omega,(by rw [e9];exact hle),rfl⟩
  ·have k2:=h2;try simp only [zs] at k2
   refine Q26 ?_;refine Q63 ?_;refine Q23 ?_;refine Q154 ?_;exact⟨congrArg (fun l:List Rec=>AVal.sl (l.map enc) false) (read_end hi hle (.inr (by omega))),rfl⟩
 ·have k1:=h1;try simp only [zs] at k1
  refine Q48 h1 h1 h1 h1 ?_;refine Q33 h1 ?_;refine Q115 ?_;refine Q26 ?_;refine Q63 ?_;refine Q23 ?_;refine Q154 ?_;exact⟨congrArg (fun l:List Rec=>AVal.sl (l.map enc) false) (read_end hi hle (.inl (by omega))),rfl⟩
def tk18:Nat->Nat->Option Nat:=fun _ _=>none
def pl18:Nat->List PStep:=fun _=>[]
theorem cb18:Tryz.f18.body.map (codeB Tryz.prog Tryz.f18.ntmps tk18 pl18)=some true:=by kernel_rfl
theorem goes18:goesB Tryz.prog 18=true:=by kernel_rfl
theorem readF_all {l:List Rec}(hs:Sorted l)(n:Int):readF l n l.length=l.drop (atN l n):=by
 unfold readF;rw [filter_drop hs,List.take_of_length_le];rw [List.length_drop];omega
theorem snd18 (y:Nat)(x:Tp)(P:List KV)(o1 o2:Bool)(n:Int)(z:Tp)(a:Int)(hp:trimT x n=(z,a))(M:Mem)(hso:Sorted x.recs)(hR:x.recs.length<2^40)(hy:M y=some (.cells (ryC x P o1 o2))):SoundCall Tryz.prog 18 [ptr y,int n] M fun r M'=>∃ q1 q2,r=int a/\M' y=some (.cells (ryC z P q1 q2))/\Kept M M' y:=by
 have hle:=Mem.le_refl M;have hmr:(x.recs.map enc).length=x.recs.length:=List.length_map _;unfold trimT at hp;refine SoundCall.go tk18 pl18 mixed Tryz.func18 cb18 rfl (Nat.le_of_ble_eq_true rfl) ?_;refine Q18 ?_;refine Q4 ?_;refine Q22 ?_;refine Q81 fo44_2 ag3 sz3 ?_;refine Q149 ?_;refine s_cond rfl (fun h1=>?_) (fun h1=>?_)
 ·have k1:=h1;try simp only [zs] at k1
  refine Q0 ?_;refine Q10 ?_;rw [if_pos (show x.en<n by omega)] at hp;obtain⟨rfl,rfl⟩:=Prod.mk.inj hp;exact⟨o1,o2,rfl,hy,fun c o _ hc=>hc⟩
 ·have k1:=h1;try simp only [zs] at k1
  refine s_skip ?_;refine Q4 ?_;refine Q22 ?_;refine Q81 fo44_1 ag3 sz3 ?_;refine Q149 ?_;refine s_cond rfl (fun h2=>?_) (fun h2=>?_)
  ·have k2:=h2;try simp only [zs] at k2
   refine Q17 ?_;refine Q1 ?_;refine Q44 fo44_1 ?_;refine Q103 sz3 ?_;refine Q15 ?_;refine Q22 ?_;refine Q22 ?_;refine Q1 ?_;refine Q62 fo44_4 ?_;refine Q124 ag35 sz35 ?_;refine Q75 und35 ?_;refine o_callx ((snd16 y (⟨x.name,n,x.en,x.kvs,x.recs⟩ : Tp) P o1 o2 n ((x.recs.map enc).length:Nat) _ hR (Mem.upd_self _ _ _))) goes16 (ac (mvQ) (ac (v_raw rfl) (ac (v_raw rfl) ac_nil))) rfl ?_;rintro r M1 ⟨rfl,hM1⟩;subst hM1;refine Q44 fo44_4 ?_;refine Q82 sz35 ?_;refine Q42 ?_;refine Q2 ?_;rw [if_neg (show ¬ x.en<n by omega),if_pos (show x.low<n by omega)] at hp;obtain⟨rfl,rfl⟩:=Prod.mk.inj hp;have hrd:readF x.recs n ((x.recs.map enc).length:Nat)=x.recs.drop (atN x.recs n):=by rw [hmr];exact readF_all hso n
   exact⟨o1,_,rfl,(Mem.upd_self _ _ _).trans (congrArg (fun l:List Rec=>some (AObj.cells [str x.name,int n,int x.en,.sl (P.map prE) o1,.sl (l.map enc) _])) hrd),(fun c o hc ho=>by repeat first|exact ho|exact (upd_other hc).trans ho|exact Mem.upd_ne (by first|exact hc|exact Mem.ne_none ho (by assumption)) ho|refine Mem.upd_ne (by first|exact hc|exact Mem.ne_none ho (by assumption)) ?_)⟩
  ·have k2:=h2;try simp only [zs] at k2
   refine Q142 ?_;refine Q2 ?_;rw [if_neg (show ¬ x.en<n by omega),if_neg (show ¬ x.low<n by omega)] at hp;obtain⟨rfl,rfl⟩:=Prod.mk.inj hp;exact⟨o1,o2,rfl,hy,fun c o _ hc=>hc⟩
def tk102:Nat->Nat->Option Nat:=fun _ _=>none
def pl102:Nat->List PStep
 | 4=>[.q 0,.q 1,.q 2,.q 3,.q 4,.q 5,.q 6,.q 7,.q 8,.q 9,.q 10,.q 11,.q 12,.q 13,.q 14,.q 15,.q 16,.q 17,.q 18]
 | _=>[]
theorem cb102:Tryz.f102.body.map (codeB Tryz.prog Tryz.f102.ntmps tk102 pl102)=some true:=by kernel_rfl
theorem goes102:goesB Tryz.prog 102=true:=by kernel_rfl
theorem snd102 (l:List Rec)(i:Nat)(o:Bool)(M:Mem)(hl:l.length*64<=2^47)(hi:i<l.length):SoundCall Tryz.prog 102 [.sl (l.map enc) o,.raw (.int .i64 i)] M fun r M'=>r = .raw (.bool (superB l i))/\M'=M:=by
 refine SoundCall.go tk102 pl102 mixed Tryz.func102 cb102 rfl (Nat.le_of_ble_eq_true rfl) ?_;refine Q18 ?_;refine Q4 ?_;refine Q43 ?_;refine Q8 ?_;refine s_block ?_;refine s_loop (fun m S=>∃ T,∃ k:Nat,S=⟨setT (setT (setT T 0 (.sl (l.map enc) o)) 1 (.raw (.int .i64 i))) 5 (.raw (.int .i64 k)),M⟩/\i<k/\k<=l.length/\m=l.length - k/\∀ j,∀ h:j<l.length,i<j->j<k->¬ (l[i].key≠emp/\l[j].key=l[i].key)) (l.length - (i+1)) ?_ ?_
 ·exact⟨_,i+1,St.mkT (kp (kp (kp rfl rfl) rfl) rfl).symm,by omega,by omega,rfl,fun j _ h1 h2=>by omega⟩
 rintro m S ⟨T,k,rfl,hk1,hk2,rfl,hk⟩;refine Q4 ?_;refine Q131 und35 ?_;refine Q41 ?_;refine s_cond rfl (fun h1=>?_) (fun h1=>?_)
 ·have k1:=h1;try simp only [zs] at k1
  refine Q55 ?_;refine Q84 ?_;refine Q83 ?_;refine Q5 ?_;refine Q205 und35 sz39 ?_;refine Q93 fo39_3 ?_;refine Q215 ag9 sz9 ?_;refine d_q rfl (q_sneq rfl rfl) rfl rfl rfl ?_;refine Q5 ?_;refine d_cases (want:=true) (j:=6) rfl rfl (fun h2=>?_) (fun h2=>?_)
  ·have k2:=h2;try simp only [zs] at k2
   refine d_yes rfl (q_mv (v_sl rfl)) rfl rfl rfl h2 rfl rfl ?_;refine Q133 h2 ?_;refine Q232 und35 sz39 h2 ?_;refine Q233 fo39_3 h2 ?_;refine Q262 ag9 sz9 h2 ?_;refine d_yes rfl (q_mv (v_sl rfl)) rfl rfl rfl h2 rfl rfl ?_;refine Q133 h2 ?_;refine d_yes rfl (q_idx und35 sz39 rfl rfl (by omega) (gm i (by first|omega|simp)) rfl) rfl rfl rfl h2 rfl rfl ?_;refine Q233 fo39_3 h2 ?_;refine d_yes rfl (q_ld ag9 sz9 rfl (gm i (by first|omega|simp)) rfl (v_raw rfl)) rfl rfl rfl h2 rfl rfl ?_;refine Q225 h2 ?_;refine Q111 h2 ?_;refine d_nil ?_;refine s_cond rfl (fun h3=>?_) (fun h3=>?_)
   ·have k3:=h3;try simp only [zs] at k3
    refine Q0 ?_;refine Q101 ?_;refine Q151 ?_;refine Q77 ?_;refine⟨?_,rfl⟩;rw [(superB_iff hi).2 ⟨k2,k,by omega,hk1,k3⟩];rfl
   ·have k3:=h3;try simp only [zs] at k3
    refine Q47 ?_;refine Q39 ?_;refine⟨l.length - (k+1),by omega,_,k+1,St.mkT (kp (kp (kp rfl rfl) rfl) rfl).symm,by omega,by omega,rfl,fun j h h1 h2=>?_⟩;by_cases e:j=k
    ·subst e;exact fun hh=>k3 hh.2
    ·exact hk j h h1 (by omega)
  ·have k2:=h2;try simp only [zs] at k2
   iterate 5 refine Q25 h2 h2 ?_
   refine Q159 h2 ?_;refine Q112 h2 ?_;refine d_nil ?_;refine s_else rfl rfl ?_;refine Q47 ?_;refine Q39 ?_;refine⟨l.length - (k+1),by omega,_,k+1,St.mkT (kp (kp (kp rfl rfl) rfl) rfl).symm,by omega,by omega,rfl,fun j h h1 h2=>?_⟩;exact fun hh=>hh.1 k2
 ·have k1:=h1;try simp only [zs] at k1
  refine Q26 ?_;refine Q0 ?_;refine Q2 ?_;refine⟨?_,rfl⟩;have:superB l i=false:=by
   rw [Bool.eq_false_iff];intro h;obtain⟨h1,j,h2,h3,h4⟩:=(superB_iff hi).1 h;exact hk j h2 h3 (by omega) ⟨h1,h4⟩
  rw [this];rfl
def tk53:Nat->Nat->Option Nat
 | 1,0=>some 0
 | 7,0=>some 0
 | 7,7=>some 0
 | _,_=>none
def pl53:Nat->List PStep:=fun _=>[]
theorem cb53:Tryz.f53.body.map (codeB Tryz.prog Tryz.f53.ntmps tk53 pl53)=some true:=by kernel_rfl
theorem goes53:goesB Tryz.prog 53=true:=by kernel_rfl
theorem snd53 (l:List Rec)(upto:Int)(o:Bool)(M:Mem)(hl:l.length*64<=2^47):SoundCall Tryz.prog 53 [.sl (l.map enc) o,.raw (.int .i64 upto)] M fun r M'=>r = .sl ((keepN l upto l.length).map enc) false/\M'=M:=by
 refine SoundCall.go tk53 pl53 mixed Tryz.func53 cb53 rfl (Nat.le_of_ble_eq_true rfl) ?_;refine Q67 ?_;refine Q42 ?_;refine Q86 ?_;refine Q11 ?_;refine Q109 ?_;refine s_loop (fun m S=>∃ T,∃ i:Nat,S=⟨setT (setT (setT (setT T 0 (.sl (l.map enc) o)) 1 (.raw (.int .i64 upto))) 5 (.sl ((keepN l upto i).map enc) true)) 6 (.raw (.int .i64 i)),M⟩/\i<=l.length/\m=l.length - i) l.length ?_ ?_
 ·exact⟨_,0,St.mkT (kp (kp (kp (kp rfl rfl) rfl) rfl) rfl).symm,by omega,rfl⟩
 rintro m S ⟨T,i,rfl,hi,rfl⟩;have hlen:=keepN_len l upto i;refine Q4 ?_;refine Q131 und35 ?_;refine Q41 ?_;refine s_cond rfl (fun h1=>?_) (fun h1=>?_)
 ·have k1:=h1;try simp only [zs] at k1
  refine Q55 ?_;refine Q63 ?_;refine Q1 ?_;refine o_call (snd102 l i false M hl (by omega)) goes102 (ac (v_sl rfl) (ac (v_raw rfl) ac_nil)) rfl ?_;refine Q46 ?_;refine Q92 ?_;refine o_cases (want:=false) (j:=2) rfl rfl (fun h2=>?_) (fun h2=>?_)
  ·have k2:=h2;try simp only [zs] at k2
   refine Q14 h2 ?_;refine Q76 ?_;refine Q32 h2 h2 ?_;refine Q137 und35 sz39 ?_;refine Q14 h2 ?_;refine Q160 fo39_0 ?_;refine Q14 h2 ?_;refine Q265 ag3 sz3 ?_;refine Q32 h2 h2 ?_;refine Q24 ?_;refine Q33 h2 ?_;refine o_nil ?_;refine s_cond rfl (fun h3=>?_) (fun h3=>?_)
   ·have k3:=h3;try simp only [zs] at k3
    refine Q15 ?_;refine Q38 ?_;refine Q76 ?_;refine Q1 ?_;refine Q137 und35 sz39 ?_;refine Q176 ag39 sz39 ?_;refine Q143 slt35 ?_;refine Q192 slt35 ?_;refine Q87 ?_;refine Q72 ?_;refine Q39 ?_;refine⟨l.length - (i+1),by omega,_,i+1,St.mkT (kp (kp (kp (kp rfl rfl) rfl) (app_map (by rw [keepN_succ l upto (by omega),if_pos (by simp [k3])]))) rfl).symm,by omega,rfl⟩
   ·have k3:=h3;try simp only [zs] at k3
    refine Q47 ?_;refine Q39 ?_;refine⟨l.length - (i+1),by omega,_,i+1,St.mkT (kp (kp (kp (kp rfl rfl) rfl) (by show _=AVal.sl _ true;rw [keepN_succ l upto (by omega),if_neg (by simp_all),List.append_nil];rfl)) rfl).symm,by omega,rfl⟩
  ·have k2:=h2;try simp only [zs] at k2
   refine Q48 h2 h2 h2 h2 ?_;refine Q53 h2 h2 ?_;refine Q155 h2 ?_;refine Q19 h2 ?_;refine Q71 ?_;refine Q15 ?_;refine Q38 ?_;refine Q76 ?_;refine Q1 ?_;refine Q137 und35 sz39 ?_;refine Q176 ag39 sz39 ?_;refine Q143 slt35 ?_;refine Q192 slt35 ?_;refine Q87 ?_;refine Q72 ?_;refine Q39 ?_;refine⟨l.length - (i+1),by omega,_,i+1,St.mkT (kp (kp (kp (kp rfl rfl) rfl) (app_map (by rw [keepN_succ l upto (by omega),if_pos (by simp_all)]))) rfl).symm,by omega,rfl⟩
 ·have k1:=h1;try simp only [zs] at k1
  refine Q26 ?_;refine Q63 ?_;refine Q23 ?_;refine Q154 ?_;refine⟨?_,rfl⟩;have:i=l.length:=by omega
  subst this;rfl
def tk20:Nat->Nat->Option Nat:=fun _ _=>none
def pl20:Nat->List PStep:=fun _=>[]
theorem cb20:Tryz.f20.body.map (codeB Tryz.prog Tryz.f20.ntmps tk20 pl20)=some true:=by kernel_rfl
theorem goes20:goesB Tryz.prog 20=true:=by kernel_rfl
theorem snd20 (y:Nat)(x:Tp)(P:List KV)(o1 o2:Bool)(n:Int)(M:Mem)(hR:x.recs.length<2^40)(hy:M y=some (.cells (ryC x P o1 o2))):SoundCall Tryz.prog 20 [ptr y,int n] M fun r M'=>∃ q1 q2,r=int 0/\M' y=some (.cells (ryC (compT x n) P q1 q2))/\Kept M M' y:=by
 have hle:=Mem.le_refl M;refine SoundCall.go tk20 pl20 mixed Tryz.func20 cb20 rfl (Nat.le_of_ble_eq_true rfl) ?_;refine Q18 ?_;refine Q17 ?_;refine Q62 fo44_4 ?_;refine Q116 ag35 sz35 ?_;refine o_call ((snd53 x.recs n _ _ (by omega))) goes53 (ac (v_sl rfl) (ac (v_raw rfl) ac_nil)) rfl ?_;refine Q44 fo44_4 ?_;refine Q82 sz35 ?_;refine Q42 ?_;refine Q2 ?_;exact⟨o1,_,rfl,(Mem.upd_self _ _ _),(fun c o hc ho=>by repeat first|exact ho|exact (upd_other hc).trans ho|exact Mem.upd_ne (by first|exact hc|exact Mem.ne_none ho (by assumption)) ho|refine Mem.upd_ne (by first|exact hc|exact Mem.ne_none ho (by assumption)) ?_)⟩
theorem trimD {y:Nat}{x:Tp}{P:List KV}{o1 o2:Bool}{n:Int}{M:Mem}(hy:M y=some (.cells (ryC x P o1 o2)))(hso:Sorted x.recs)(hR:x.recs.length<2^40):SoundCall Tryz.prog 18 [ptr y,int n] M fun r M'=>∃ q1 q2,r=int (trimT x n).2/\M'=M.upd y (.cells (ryC (trimT x n).1 P q1 q2)):=by
 refine (snd18 y x P o1 o2 n _ _ rfl M hso hR hy).recast fun r M' h=>?_
 obtain⟨q1,q2,h1,h2,h3⟩:=h;exact⟨_,Mem.imp_of_le (le_y h2 h3),q1,q2,h1,rfl⟩
theorem compD {y:Nat}{x:Tp}{P:List KV}{o1 o2:Bool}{n:Int}{M:Mem}(hy:M y=some (.cells (ryC x P o1 o2)))(hR:x.recs.length<2^40):SoundCall Tryz.prog 20 [ptr y,int n] M fun r M'=>∃ q1 q2,r=int 0/\M'=M.upd y (.cells (ryC (compT x n) P q1 q2)):=by
 refine (snd20 y x P o1 o2 n M hR hy).recast fun r M' h=>?_
 obtain⟨q1,q2,h1,h2,h3⟩:=h;exact⟨_,Mem.imp_of_le (le_y h2 h3),q1,q2,h1,rfl⟩
end C17
