import Derived.Test.YticeppepdlgbhaaGreatDoorHz
import Derived.Test.YticeppepdlgbhaaGreatDoorZy1
open Go Go.Proofs Go.Am
set_option linter.unusedVariables false
set_option linter.unusedSimpArgs false
set_option autoImplicit false
set_option maxHeartbeats 4000000
set_option maxRecDepth 20000
namespace C17
theorem ag42:aggT Tryz.prog 42=some false:=by kernel_rfl
theorem bz44:(zeroT Tryz.prog 44).map (fun z=>z.cells.toList.map AVal.raw)=some [.raw (.string { data:=#[] }),.raw (.int .i64 0),.raw (.int .i64 0),.raw (.slice none 0 0),.raw (.slice none 0 0)]:=by kernel_rfl
theorem bp44:(aPlaces Tryz.prog 44).isSome=true:=by kernel_rfl
theorem fo44_0:fo Tryz.prog 44 0=some (0,1):=by kernel_rfl
theorem fo44_3:fo Tryz.prog 44 3=some (3,1):=by kernel_rfl
theorem fo97_0:fo Tryz.prog 97 0=some (0,1):=by kernel_rfl
theorem sz42:sizeT Tryz.prog 42=some 1:=by kernel_rfl
theorem sz97:sizeT Tryz.prog 97=some 3:=by kernel_rfl
theorem und42:Tryz.prog.underlying 42=some (.slice 97):=by kernel_rfl
def tk49:Nat->Nat->Option Nat:=fun _ _=>none
def pl49:Nat->List PStep
 | 4=>[.q 0,.q 1,.q 2,.q 3,.q 4,.q 5,.q 6,.q 7,.q 8,.q 9,.q 10,.q 11,.q 12,.q 13,.q 14,.q 15,.q 16,.q 17,.q 18,.q 19,.q 20,.q 21]
 | _=>[]
theorem cb49:Tryz.f49.body.map (codeB Tryz.prog Tryz.f49.ntmps tk49 pl49)=some true:=by kernel_rfl
theorem goes49:goesB Tryz.prog 49=true:=by kernel_rfl
theorem pub_bad {x:Tp}{nm:ByteArray}{seq:Int}{ky vl:ByteArray}(h:¬ (word nm=true/\0<=seq/\seq<=9007199254740991/\ky.size<=100/\vl.size<=1000)):pub x nm seq ky vl=(x,0,7):=by
 unfold pub;rw [if_neg];intro hh;simp only [Bool.and_eq_true] at hh;have h2:=right_spec.1 hh.2;have h3:0<=seq/\seq<=9007199254740991/\ky.size<=100/\vl.size<=1000:=⟨h2.2.1,h2.2.2.2.1,h2.2.2.2.2.2.1,h2.2.2.2.2.2.2⟩;exact h ⟨hh.1,h3⟩
theorem pub_good {x:Tp}{nm:ByteArray}{seq:Int}{ky vl:ByteArray}(hen:0<=x.en/\x.en<=9007199254740991)(h:(word nm=true/\0<=seq/\seq<=9007199254740991/\ky.size<=100/\vl.size<=1000)):pub x nm seq ky vl=match kget x.kvs nm with
 | some l=>if seq<l.1 then (x,0,6) else if seq=l.1 then (x,l.2.1,0) else (⟨x.name,x.low,x.en+1,kput x.kvs nm (seq,x.en,nm),x.recs++[newR x nm seq ky vl]⟩,x.en,0)
 | none=>(⟨x.name,x.low,x.en+1,kput x.kvs nm (seq,x.en,nm),x.recs++[newR x nm seq ky vl]⟩,x.en,0):=by
 have hc:(word nm && right (newR x nm seq ky vl))=true:=by
  simp only [Bool.and_eq_true];exact⟨h.1,right_spec.2 ⟨hen.1,h.2.1,hen.2,h.2.2.1,word_le h.1,h.2.2.2.1,h.2.2.2.2⟩⟩
 unfold pub;rw [if_pos hc];cases kget x.kvs nm<;>rfl
theorem ksl_there {x:Tp}(h:(x.kvs.map (·.1)).Nodup){nm:ByteArray}(ht:thereB (ksL x) nm=true):∃ hl:findN (ksL x) nm<(ksL x).length,kget x.kvs nm=some ((ksL x)[findN (ksL x) nm]'hl).2:=by
 obtain⟨hl,e⟩:=there_get ht;refine⟨hl,?_⟩;have:=kget_pair (rise_names (ksL_rise h)) (List.getElem_mem hl);rw [e,ksL_get h] at this;exact this
theorem ksl_not {x:Tp}(h:(x.kvs.map (·.1)).Nodup){nm:ByteArray}(ht:thereB (ksL x) nm=false):kget x.kvs nm=none:=by
 rw [← ksL_get h];refine kget_none fun hm=>?_
 have:=(there_iff (ksL_rise h)).2 hm;rw [ht] at this;cases this
def Kept (M M':Mem)(y:Nat):Prop:=∀ c o,c≠y->M c=some o->M' c=some o
theorem pub_inj {q:Tp×Int×Int}{z z':Tp}{a a' b b':Int}(h:q=(z,a,b))(h':q=(z',a',b')):z'=z/\a'=a/\b'=b:=by
 have:=h'.symm.trans h;simp only [Prod.mk.injEq] at this;exact this
theorem le_y {M M':Mem}{y:Nat}{l:List AVal}(h1:M' y=some (.cells l))(h3:Kept M M' y):(M.upd y (.cells l)).le M':=fun c o hc=>by
 unfold Mem.upd at hc;by_cases e:c=y
 ·rw [if_pos e] at hc;cases hc;rw [e];exact h1
 ·rw [if_neg e] at hc;exact h3 c o e hc
theorem snd49 (y:Nat)(x:Tp)(P:List KV)(o1 o2:Bool)(nm:ByteArray)(M:Mem)(hP:P.length<2^60)(hy:M y=some (.cells (ryC x P o1 o2))):SoundCall Tryz.prog 49 [ptr y,str nm] M fun r M'=>r = .tup [int (findN P nm:Nat),bool (thereB P nm)]/\M'=M:=by
 have hml:(P.map prE).length=P.length:=List.length_map _;refine SoundCall.go tk49 pl49 mixed Tryz.func49 cb49 rfl (Nat.le_of_ble_eq_true rfl) ?_;refine Q129 ?_;refine Q8 ?_;refine Q18 ?_;refine s_seq ?_;refine s_block ?_;refine s_loop (fun m S=>∃ T,∃ k:Nat,S=⟨setT (setT (setT T 0 (ptr y)) 1 (str nm)) 6 (int (k:Nat)),M⟩/\(∀ i,∀ h:i<P.length,i<k->P[i].1.data.toList<nm.data.toList)/\k<=P.length/\m=P.length - k) P.length ?_ ?_
 ·exact⟨_,0,St.mkT (kp (kp (kp rfl rfl) rfl) rfl).symm,fun i h hi=>absurd hi (Nat.not_lt_zero i),by omega,rfl⟩
 rintro m S ⟨T,k,rfl,hlow,hk,rfl⟩;refine Q4 ?_;refine Q62 fo44_3 ?_;refine Q124 ag42 sz42 ?_;refine Q75 und42 ?_;refine Q59 ?_;refine Q1 ?_;refine o_cases (want:=true) (j:=7) rfl rfl (fun h1=>?_) (fun h1=>?_)
 ·have k1:=h1;try simp only [zs] at k1
  refine Q14 h1 ?_;refine Q22 ?_;refine Q14 h1 ?_;refine o_q (q_nil rfl) rfl rfl rfl ?_;refine Q74 h1 fo44_3 h1 ?_;refine Q124 ag42 sz42 ?_;refine Q32 h1 h1 ?_;refine o_q (q_idx und42 sz97 rfl rfl (by omega) (gm k (by first|omega|simp)) rfl) rfl rfl rfl ?_;refine Q14 h1 ?_;refine Q160 fo97_0 ?_;refine Q14 h1 ?_;refine o_q (q_ld ag9 sz9 rfl (gm k (by first|omega|simp)) rfl (v_raw rfl)) rfl rfl rfl ?_;refine Q32 h1 h1 ?_;refine o_q (q_slss rfl rfl) rfl rfl rfl ?_;refine Q19 h1 ?_;refine o_nil ?_;refine s_cond rfl (fun h2=>?_) (fun h2=>?_)
  ·have k2:=h2;try simp only [zs] at k2
   refine s_skip ?_;refine s_block ?_;refine Q227 ?_;refine Q94 ?_;refine s_inv ?_;exact⟨P.length - (k+1),by omega,_,k+1,St.mkT (kp (kp (kp rfl rfl) rfl) rfl).symm,(fun i h hi=>by
    rcases Nat.lt_or_ge i k with g|g
    ·exact hlow i h g
    ·obtain rfl:i=k:=by omega
     exact of_decide_eq_true h2),by omega,rfl⟩
  ·have k2:=h2;try simp only [zs] at k2
   refine Q26 ?_;refine Q84 ?_;refine Q5 ?_;refine Q5 ?_;refine Q147 ?_;refine Q40 fo44_3 ?_;refine Q169 ag42 sz42 ?_;refine d_q rfl (q_len rfl und42 rfl) rfl rfl rfl ?_;refine d_q rfl (q_lss rfl rfl) rfl rfl rfl ?_;refine Q5 ?_;refine d_cases (want:=true) (j:=8) rfl rfl (fun h3=>?_) (fun h3=>?_)
   ·have k3:=h3;try simp only [zs] at k3
    refine Q167 h3 ?_;refine Q182 h3 ?_;refine Q132 fo44_3 h3 ?_;refine Q261 ag42 sz42 h3 ?_;refine Q133 h3 ?_;refine Q232 und42 sz97 h3 ?_;refine Q233 fo97_0 h3 ?_;refine Q262 ag9 sz9 h3 ?_;refine Q133 h3 ?_;refine Q225 h3 ?_;refine Q111 h3 ?_;refine Q178 ?_;refine Q60 ?_;refine Q104 ?_;have hf:findN P nm=k:=findN_eq (by omega) hlow fun h=>of_decide_eq_false h2
    have ht:thereB P nm=decide ((P[k]'(by omega)).1=nm):=by
     unfold thereB;rw [hf,List.getElem?_eq_getElem (by omega)]
    exact ret_many (.inl rfl) rfl (rl_t rfl (rl_t rfl (rl_nil))) rfl (⟨by rw [hf,ht];rfl,rfl⟩)
   ·have k3:=h3;try simp only [zs] at k3
    iterate 5 refine Q25 h3 h3 ?_
    refine Q112 h3 ?_;refine Q178 ?_;refine Q60 ?_;refine Q104 ?_;exfalso;omega
 ·have k1:=h1;try simp only [zs] at k1
  refine Q48 h1 h1 h1 h1 ?_;refine Q48 h1 h1 h1 h1 ?_;refine Q53 h1 h1 ?_;refine Q33 h1 ?_;refine Q115 ?_;refine Q26 ?_;refine Q84 ?_;refine Q5 ?_;refine Q5 ?_;refine Q147 ?_;refine Q40 fo44_3 ?_;refine Q169 ag42 sz42 ?_;refine d_q rfl (q_len rfl und42 rfl) rfl rfl rfl ?_;refine d_q rfl (q_lss rfl rfl) rfl rfl rfl ?_;refine Q5 ?_;refine d_cases (want:=true) (j:=8) rfl rfl (fun h4=>?_) (fun h4=>?_)
  ·have k4:=h4;try simp only [zs] at k4
   refine Q167 h4 ?_;refine Q182 h4 ?_;refine Q132 fo44_3 h4 ?_;refine Q261 ag42 sz42 h4 ?_;refine Q133 h4 ?_;refine Q232 und42 sz97 h4 ?_;refine Q233 fo97_0 h4 ?_;refine Q262 ag9 sz9 h4 ?_;refine Q133 h4 ?_;refine Q225 h4 ?_;refine Q111 h4 ?_;refine Q178 ?_;refine Q60 ?_;refine Q104 ?_;exfalso;omega
  ·have k4:=h4;try simp only [zs] at k4
   iterate 5 refine Q25 h4 h4 ?_
   refine Q112 h4 ?_;refine Q178 ?_;refine Q60 ?_;refine Q104 ?_;have hf:findN P nm=k:=findN_eq (by omega) hlow fun h=>absurd h (by omega)
   have ht:thereB P nm=false:=by
    unfold thereB;rw [hf,List.getElem?_eq_none (by omega)]
   exact ret_many (.inl rfl) rfl (rl_t rfl (rl_t rfl (rl_nil))) rfl (⟨by rw [hf,ht];rfl,rfl⟩)
def tk10:Nat->Nat->Option Nat:=fun _ _=>none
def pl10:Nat->List PStep:=fun _=>[]
theorem cb10:Tryz.f10.body.map (codeB Tryz.prog Tryz.f10.ntmps tk10 pl10)=some true:=by kernel_rfl
theorem goes10:goesB Tryz.prog 10=true:=by kernel_rfl
theorem snd10a (nm:ByteArray)(M:Mem)(hw:word nm=true)(hs:nm.size<2^63):SoundCall Tryz.prog 10 [str nm] M fun r M'=>∃ y l,M y=none/\r=ptr y/\l.map nilOwn=ryC ⟨nm,0,0,[],[]⟩ [] true true/\M' y=some (.cells l)/\M.le M':=by
 have hle:=Mem.le_refl M;refine SoundCall.go tk10 pl10 mixed Tryz.func10 cb10 rfl (Nat.le_of_ble_eq_true rfl) ?_;refine Q0 ?_;refine Q31 ?_;refine o_nil ?_;refine Q7 ?_;refine o_call ((snd47 nm _ hs)) goes47 (ac (v_raw rfl) ac_nil) rfl ?_;refine Q20 ?_;refine Q107 ?_;refine s_else rfl (by rw [hw];rfl) ?_;refine Q69 ?_;refine o_q (q_b (cs:=[_,.raw (.int .i64 0),.raw (.int .i64 0),.raw (.slice none 0 0),.raw (.slice none 0 0)]) bz44 bp44 (bf fo44_0 (e_raw rfl) rfl rfl (Nat.le_of_ble_eq_true rfl) rfl bf_nil)) rfl rfl rfl ?_;refine o_box zbx rfl rfl (fun B1 hB1=>?_);have m1:M B1=none:=zm hB1;refine Q31 ?_;refine Q154 ?_;exact⟨B1,_,hB1,rfl,rfl,mmQ,zle⟩
theorem newD {nm:ByteArray}(M:Mem)(hw:word nm=true)(hs:nm.size<2^63):SoundCall Tryz.prog 10 [str nm] M fun r M'=>∃ y,M y=none/\r=ptr y/\M'=M.upd y (.cells (ryC ⟨nm,0,0,[],[]⟩ [] true true)) :=
 (snd10a nm M hw hs).recast fun r M' h=>by
  obtain⟨y,l,h1,h4,h5,h6,h8⟩:=h;refine⟨_,Mem.imp_trans (Mem.imp_nil h6) (M'':=M.upd y (.cells (ryC ⟨nm,0,0,[],[]⟩ [] true true))) ?_,y,h1,h4,rfl⟩;refine Mem.imp_of_le fun c o hc=>?_
  by_cases e:c=y
  ·subst e;rw [Mem.upd_self] at hc ⊢;rw [← hc,h5]
  ·rw [upd_other e] at hc ⊢;exact h8 c o hc
end C17
