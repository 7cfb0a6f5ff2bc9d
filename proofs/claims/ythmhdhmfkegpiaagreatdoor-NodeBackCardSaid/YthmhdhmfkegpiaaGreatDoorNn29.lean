import Derived.Test.YthmhdhmfkegpiaaGreatDoorHz
import Derived.Test.YthmhdhmfkegpiaaGreatDoorNn28
import Derived.Test.YthmhdhmfkegpiaaGreatDoorAmH
open Go Go.Proofs Go.Am
set_option linter.unusedVariables false
set_option linter.unusedSimpArgs false
set_option autoImplicit false
set_option maxHeartbeats 4000000
set_option maxRecDepth 20000
namespace C17
def tk4:Nat->Nat->Option Nat:=fun _ _=>none
def pl4:Nat->List PStep:=fun _=>[]
theorem cb4:Tryz.f4.body.map (codeB Tryz.prog Tryz.f4.ntmps tk4 pl4)=some true:=by kernel_rfl
theorem decM_back {s:ByteArray}(h:(decM s).2=0):rightM (decM s).1=true/\bytM (decM s).1=s:=by
 obtain⟨h1,h2,h3⟩:=decM_ok h;refine⟨by rw [h3];exact h2,?_⟩;rw [h3];exact bytM_dec h1
def txM (x:Msg):ByteArray:=if rightM x then bytM x else emp
theorem txM_dec {x:Msg}(h:rightM x=true):decM (txM x)=(x,0):=by unfold txM;rw [if_pos h];exact decM_bytM h
theorem txM_size {x:Msg}(h:rightM x=true):(txM x).size<2^62:=by
 unfold txM;rw [if_pos h];have h1:=encAll_size (itemsM x) (fun y hy=>by
  obtain⟨q,hq,e⟩:=List.mem_iff_getElem.1 hy;rw [← e];exact (kinds_itemsM h q hq).2) _ (Nat.le_refl _)
 rw [List.take_length,itemsM_len] at h1;have:=(rightM_le h).2.2.2.2.2.2.2.2.2.1;show (encAll (itemsM x)).size<_
 omega
theorem snd4r (x:Msg)(s:ByteArray)(ge:TypeId)(gf:Nat×Nat)(M:Mem)(hG:M 0=some (szO ge gf))(hl:x.texts.length<2^60)(hs:s.size<2^62)(hr:rightM x=true):SoundCall Tryz.prog 4 [encM x,str s] M fun r M'=>r=bool true/\M.le M':=by
 have ht:=decM_texts s;have hle:=Mem.le_refl M;have htd:=txM_dec hr;have hts:=txM_size hr;have hsm:sameM (decM (txM x)).1 x=true:=by rw [htd];exact sameM_iff.2 rfl
 have hd2:(decM (txM x)).2=0:=by rw [htd]
 have ht2:=decM_texts (txM x);refine SoundCall.go tk4 pl4 mixed Tryz.func4 cb4 rfl (Nat.le_of_ble_eq_true rfl) ?_;refine Q0 ?_;refine o_box zbx rfl rfl (fun B1 hB1=>?_);have f10:B1≠0:=(Mem.fresh_ne hB1 hG).symm;have f01:=f10.symm;refine Q138 ?_;refine o_call (((snd11 ge gf _ mmQ).det)) goes11 ac_nil rfl ?_;refine Q7 ?_;refine Q34 ag26 sz26 ?_;refine Q264 ?_;refine Q37 ?_;refine Q79 ?_;refine Q26 ?_;refine Q9 ?_;refine Q129 ?_;refine s_then rfl (by rw [hr];rfl) ?_;refine Q5 ?_;refine o_call (((dec14 (txM x) hts ge gf _ mmQ).det)) goes14 (ac (v_raw rfl) ac_nil) rfl ?_;refine Q100 ?_;refine o_alloc zc26 (fun B2 hB2=>?_);have f12:B1≠B2:=Mem.fresh_ne hB2 mmQ;have f21:=f12.symm;have n2:M B2=none:=by
  have h:=hB2;repeat first|exact h|replace h:=(Mem.upd_none h).2
 have f20:B2≠0:=(Mem.fresh_ne n2 hG).symm;have f02:=f20.symm;refine Q6 sz26 ?_;refine Q7 ?_;refine Q34 ag26 sz26 ?_;refine Q45 ag26 sz26 ?_;refine o_call (((snd16 (decM (txM x)).1 x _ ht2 hl).det)) goes16 (ac (v_agg rfl) (ac (v_agg rfl) ac_nil)) rfl ?_;refine Q51 ?_;refine Q119 ?_;refine o_yes rfl rfl rfl (by rw [hsm];rfl) ?_;refine Q2 ?_;refine o_yes rfl rfl rfl (by rw [hsm];rfl) ?_;refine Q108 ?_;refine o_q (q_pick_c (t:=false) rfl (by rw [hsm];rfl) (v_raw rfl)) rfl rfl rfl ?_;refine Q1 ?_;refine s_else rfl (by rw [hd2];rfl) ?_;refine Q71 ?_;refine Q265 ?_;refine Q100 ?_;refine o_alloc zc26 (fun B3 hB3=>?_);have f13:B1≠B3:=Mem.fresh_ne hB3 mmQ;have f31:=f13.symm;have f23:B2≠B3:=Mem.fresh_ne hB3 mmQ;have f32:=f23.symm;have n3:M B3=none:=by
  have h:=hB3;repeat first|exact h|replace h:=(Mem.upd_none h).2
 have f30:B3≠0:=(Mem.fresh_ne n3 hG).symm;have f03:=f30.symm;refine Q6 sz26 ?_;refine Q40 ?_;refine Q122 ?_;refine s_cond rfl (fun h1=>?_) (fun h1=>?_)
 ·have k1:=h1;try simp only [zs] at k1
  have hm0:(decM s).1=msg0:=by
   rcases decM_cases s with ⟨h,-⟩|⟨-,h⟩
   ·exact h
   ·rw [h] at h1;simp at h1
  refine Q5 ?_;refine Q74 ?_;refine Q131 fo26_0 ?_;refine Q46 ag3 sz3 ?_;refine Q8 ?_;refine Q63 ?_;refine Q67 ?_;refine Q11 ?_;exact⟨congrArg bool (decide_eq_true (by rw [hm0];rfl)),(by repeat first|exact hle|exact Mem.le_refl _|assumption|exact Mem.none_of_le hle (by assumption)|exact n2|exact n3|exact n4|refine Mem.le_upd ?_ ?_)⟩
 ·have k1:=h1;try simp only [zs] at k1
  have hbk:=decM_back (s:=s) (by simpa using h1);refine Q13 ?_;refine Q34 ag26 sz26 ?_;refine o_call (((snd12 (decM s).1 ge gf _ mmQ ht).det)) goes12 (ac (v_agg rfl) ac_nil) rfl ?_;refine Q37 ?_;refine Q79 ?_;refine Q26 ?_;refine Q5 ?_;refine Q69 ?_;refine Q63 ?_;refine Q67 ?_;refine Q2 ?_;refine Q201 ?_;refine Q2 ?_;refine Q201 ?_;refine Q2 ?_;refine Q201 ?_;refine Q182 ?_;refine o_q (q_pick_c (t:=true) rfl (by rw [hbk.1];rfl) (v_raw rfl)) rfl rfl rfl ?_;refine Q4 ?_;exact⟨congrArg bool (decide_eq_true (by rw [if_pos hbk.1];exact hbk.2)),(by repeat first|exact hle|exact Mem.le_refl _|assumption|exact Mem.none_of_le hle (by assumption)|exact n2|exact n3|exact n4|refine Mem.le_upd ?_ ?_)⟩
theorem snd4n (x:Msg)(s:ByteArray)(ge:TypeId)(gf:Nat×Nat)(M:Mem)(hG:M 0=some (szO ge gf))(hl:x.texts.length<2^60)(hs:s.size<2^62)(hr:rightM x=false):SoundCall Tryz.prog 4 [encM x,str s] M fun r M'=>r=bool true/\M.le M':=by
 have ht:=decM_texts s;have hle:=Mem.le_refl M;refine SoundCall.go tk4 pl4 mixed Tryz.func4 cb4 rfl (Nat.le_of_ble_eq_true rfl) ?_;refine Q0 ?_;refine o_box zbx rfl rfl (fun B1 hB1=>?_);have f10:B1≠0:=(Mem.fresh_ne hB1 hG).symm;have f01:=f10.symm;refine Q138 ?_;refine o_call (((snd11 ge gf _ mmQ).det)) goes11 ac_nil rfl ?_;refine Q7 ?_;refine Q34 ag26 sz26 ?_;refine Q264 ?_;refine Q37 ?_;refine Q79 ?_;refine Q26 ?_;refine Q9 ?_;refine Q129 ?_;refine s_else rfl (by rw [hr];rfl) ?_;refine Q71 ?_;refine Q265 ?_;refine Q100 ?_;refine o_alloc zc26 (fun B2 hB2=>?_);have f12:B1≠B2:=Mem.fresh_ne hB2 mmQ;have f21:=f12.symm;have n2:M B2=none:=by
  have h:=hB2;repeat first|exact h|replace h:=(Mem.upd_none h).2
 have f20:B2≠0:=(Mem.fresh_ne n2 hG).symm;have f02:=f20.symm;refine Q6 sz26 ?_;refine Q40 ?_;refine Q122 ?_;refine s_cond rfl (fun h1=>?_) (fun h1=>?_)
 ·have k1:=h1;try simp only [zs] at k1
  have hm0:(decM s).1=msg0:=by
   rcases decM_cases s with ⟨h,-⟩|⟨-,h⟩
   ·exact h
   ·rw [h] at h1;simp at h1
  refine Q5 ?_;refine Q74 ?_;refine Q131 fo26_0 ?_;refine Q46 ag3 sz3 ?_;refine Q8 ?_;refine Q63 ?_;refine Q67 ?_;refine Q11 ?_;exact⟨congrArg bool (decide_eq_true (by rw [hm0];rfl)),(by repeat first|exact hle|exact Mem.le_refl _|assumption|exact Mem.none_of_le hle (by assumption)|exact n2|exact n3|exact n4|refine Mem.le_upd ?_ ?_)⟩
 ·have k1:=h1;try simp only [zs] at k1
  have hbk:=decM_back (s:=s) (by simpa using h1);refine Q13 ?_;refine Q34 ag26 sz26 ?_;refine o_call (((snd12 (decM s).1 ge gf _ mmQ ht).det)) goes12 (ac (v_agg rfl) ac_nil) rfl ?_;refine Q37 ?_;refine Q79 ?_;refine Q26 ?_;refine Q5 ?_;refine Q69 ?_;refine Q63 ?_;refine Q67 ?_;refine Q2 ?_;refine Q201 ?_;refine Q2 ?_;refine Q201 ?_;refine Q2 ?_;refine Q201 ?_;refine Q182 ?_;refine o_q (q_pick_c (t:=true) rfl (by rw [hbk.1];rfl) (v_raw rfl)) rfl rfl rfl ?_;refine Q4 ?_;exact⟨congrArg bool (decide_eq_true (by rw [if_pos hbk.1];exact hbk.2)),(by repeat first|exact hle|exact Mem.le_refl _|assumption|exact Mem.none_of_le hle (by assumption)|exact n2|exact n3|exact n4|refine Mem.le_upd ?_ ?_)⟩
theorem snd4 (x:Msg)(s:ByteArray)(ge:TypeId)(gf:Nat×Nat)(M:Mem)(hG:M 0=some (szO ge gf))(hl:x.texts.length<2^60)(hs:s.size<2^62):SoundCall Tryz.prog 4 [encM x,str s] M fun r M'=>r=bool true/\M.le M':=by
 cases hr:rightM x with
 | true=>exact snd4r x s ge gf M hG hl hs hr
 | false=>exact snd4n x s ge gf M hG hl hs hr
end C17
