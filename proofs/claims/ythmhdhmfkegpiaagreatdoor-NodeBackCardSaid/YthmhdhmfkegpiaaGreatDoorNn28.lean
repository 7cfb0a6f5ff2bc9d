import Derived.Test.YthmhdhmfkegpiaaGreatDoorHz
import Derived.Test.YthmhdhmfkegpiaaGreatDoorNn27
import Derived.Test.YthmhdhmfkegpiaaGreatDoorAmH
open Go Go.Proofs Go.Am
set_option linter.unusedVariables false
set_option linter.unusedSimpArgs false
set_option autoImplicit false
set_option maxHeartbeats 4000000
set_option maxRecDepth 20000
namespace C17
def tk3:Nat->Nat->Option Nat:=fun _ _=>none
def pl3:Nat->List PStep
 | 7=>[.q 0,.q 1,.q 2,.q 4,.s 3 [4,0],.s 5 [2,0],.q 6,.q 7,.q 8,.q 9,.q 10,.q 11,.q 12,.q 13,.q 14,.q 15,.q 16,.q 17,.q 18,.q 19,.q 20,.q 21,.q 22,.q 23,.q 24,.q 25,.q 26,.q 27,.q 28,.q 29,.q 30,.q 31,.q 32,.q 33,.q 34]
 | _=>[]
theorem cb3:Tryz.f3.body.map (codeB Tryz.prog Tryz.f3.ntmps tk3 pl3)=some true:=by kernel_rfl
theorem decM_cases (s:ByteArray):((decM s).1=msg0/\(decM s).2≠0)\/(rightM (decM s).1=true/\(decM s).2=0):=by
 by_cases h:(decM s).2=0
 ·obtain⟨h1,h2,h3⟩:=decM_ok h;exact .inr ⟨by rw [h3];exact h2,h⟩
 ·refine .inl ⟨?_,h⟩;unfold decM at h ⊢;split
  ·rfl
  ·rename_i h1;rw [if_neg h1] at h;split
   ·rename_i h2;rw [if_pos h2] at h;split
    ·rename_i h3;rw [if_pos h3] at h;exact absurd rfl h
    ·rfl
   ·rfl
theorem decM_texts (s:ByteArray):(decM s).1.texts.length<2^60:=by
 rcases decM_cases s with ⟨h,-⟩|⟨h,-⟩
 ·rw [h];decide
 ·have:=(rightM_le h).2.2.2.2.2.2.2.2.2.1;omega
theorem snd3 (x:Msg)(s:ByteArray)(ge:TypeId)(gf:Nat×Nat)(M:Mem)(hG:M 0=some (szO ge gf))(hl:x.texts.length<2^60)(hs:s.size<2^62):SoundCall Tryz.prog 3 [encM x,str s] M fun r M'=>r=bool true/\M.le M':=by
 have ht:=decM_texts s;have hle:=Mem.le_refl M;refine SoundCall.go tk3 pl3 mixed Tryz.func3 cb3 rfl (Nat.le_of_ble_eq_true rfl) ?_;refine Q0 ?_;refine o_box zbx rfl rfl (fun B1 hB1=>?_);have f10:B1≠0:=(Mem.fresh_ne hB1 hG).symm;have f01:=f10.symm;refine Q138 ?_;refine o_call (((snd11 ge gf _ mmQ).det)) goes11 ac_nil rfl ?_;refine Q7 ?_;refine Q34 ag26 sz26 ?_;refine Q264 ?_;refine Q37 ?_;refine Q79 ?_;refine Q26 ?_;refine Q34 ag26 sz26 ?_;refine o_call (((snd13 x _ hl).det)) goes13 (ac (v_agg rfl) ac_nil) rfl ?_;refine Q37 ?_;refine Q79 ?_;refine Q26 ?_;refine Q5 ?_;refine Q265 ?_;refine Q100 ?_;refine o_alloc zc26 (fun B2 hB2=>?_);have f12:B1≠B2:=Mem.fresh_ne hB2 (Mem.upd_self _ _ _);have f21:=f12.symm;have n2:M B2=none:=(Mem.upd_none hB2).2;have f20:B2≠0:=(Mem.fresh_ne n2 hG).symm;have f02:=f20.symm;refine Q6 sz26 ?_;refine Q51 ?_;refine o_call (((dec15 s hs _).det)) goes15 (ac (v_raw rfl) ac_nil) rfl ?_;refine Q100 ?_;refine o_alloc zc26 (fun B3 hB3=>?_);have f13:B1≠B3:=Mem.fresh_ne hB3 mmQ;have f31:=f13.symm;have f23:B2≠B3:=Mem.fresh_ne hB3 mmQ;have f32:=f23.symm;have n3:M B3=none:=by
  have h:=hB3;repeat first|exact h|replace h:=(Mem.upd_none h).2
 refine Q6 sz26 ?_;refine Q7 ?_;refine Q34 ag26 sz26 ?_;refine Q45 ag26 sz26 ?_;refine o_call (((snd16 (decM s).1 (decM s).1 _ ht ht).det)) goes16 (ac (v_agg rfl) (ac (v_agg rfl) ac_nil)) rfl ?_;refine Q7 ?_;refine Q91 ?_;refine Q14 ?_;refine Q14 ?_;refine d_yes rfl (q_ldmw ag26 sz26 rfl mmQ rfl rfl) rfl rfl rfl rfl rfl rfl ?_;refine d_yes rfl (q_ldmw ag26 sz26 rfl mmQ rfl rfl) rfl rfl rfl rfl rfl rfl ?_;refine Q3 ?_;refine Q8 ?_;refine o_call (((snd17 x _ hl).det)) goes17 (ac (v_agg rfl) ac_nil) rfl ?_;refine o_nil ⟨(by simp [Mem.upd, *]),?_⟩;refine Q3 ?_;refine Q8 ?_;refine o_call (((snd18 x _ hl).det)) goes18 (ac (v_agg rfl) ac_nil) rfl ?_;refine o_nil ⟨(by simp [Mem.upd, *]),?_⟩;refine d_yes rfl (q_beql und4 rfl rfl) rfl rfl rfl rfl rfl rfl ?_;refine Q196 ?_;refine Q14 ?_;refine Q242 ?_;refine Q242 ?_;refine d_yes rfl (q_seql rfl rfl) rfl rfl rfl (by simp) rfl rfl ?_;refine d_q rfl (q_pick_c (t:=true) rfl (by simp) (v_raw rfl)) rfl rfl rfl ?_;refine Q14 ?_;refine Q242 ?_;refine d_yes rfl (q_eql rfl rfl) rfl rfl rfl (by simp) rfl rfl ?_;refine Q242 ?_;refine d_yes rfl (q_beql und4 rfl rfl) rfl rfl rfl (by simp) rfl rfl ?_;refine d_q rfl (q_pick_c (t:=true) rfl (by simp) (v_raw rfl)) rfl rfl rfl ?_;refine Q14 ?_;refine d_yes rfl (q_mv (v_raw rfl)) rfl rfl rfl (by cases rightM x<;>rfl) rfl rfl ?_;refine d_yes rfl (q_mv (v_raw rfl)) rfl rfl rfl (by cases rightM x<;>rfl) rfl rfl ?_;refine d_cases (want:=false) (j:=21) rfl rfl (fun h1=>?_) (fun h1=>?_)
 ·have k1:=h1;try simp only [zs] at k1
  have hf:rightM x=false:=h1;refine Q183 h1 ?_;refine d_yes rfl (q_eql rfl rfl) rfl rfl rfl h1 rfl rfl ?_;refine d_yes rfl (q_pick_c (t:=false) rfl h1 (v_raw rfl)) rfl rfl rfl (by cases rightM x<;>rfl) rfl rfl ?_;refine d_q rfl (q_pick_c (t:=true) rfl (by cases rightM x<;>rfl) (v_raw rfl)) rfl rfl rfl ?_;refine Q14 ?_;refine d_yes rfl (q_mv (v_raw rfl)) rfl rfl rfl (by rw [hf];rfl) rfl rfl ?_;refine d_q rfl (q_pick_c (t:=true) rfl (by rw [hf];rfl) (v_raw rfl)) rfl rfl rfl ?_;refine Q14 ?_;refine Q243 ?_;refine Q243 ?_;refine d_yes rfl (q_eql rfl rfl) rfl rfl rfl (sameM_iff.2 rfl) rfl rfl ?_;refine d_q rfl (q_pick_c (t:=true) rfl (sameM_iff.2 rfl) (v_raw rfl)) rfl rfl rfl ?_;refine Q125 ?_;exact⟨congrArg bool (by simp),(by repeat first|exact hle|exact Mem.le_refl _|assumption|exact Mem.none_of_le hle (by assumption)|exact n2|exact n3|exact n4|refine Mem.le_upd ?_ ?_)⟩
 ·have k1:=h1;try simp only [zs] at k1
  refine Q66 h1 h1 ?_;refine d_yes rfl (q_pick_c (t:=true) rfl h1 (v_raw rfl)) rfl rfl rfl (by cases rightM x<;>rfl) rfl rfl ?_;refine d_q rfl (q_pick_c (t:=true) rfl (by cases rightM x<;>rfl) (v_raw rfl)) rfl rfl rfl ?_;refine Q14 ?_;refine d_yes rfl (q_mv (v_raw rfl)) rfl rfl rfl rfl rfl rfl ?_;refine Q196 ?_;refine Q14 ?_;refine Q243 ?_;refine Q243 ?_;refine d_yes rfl (q_eql rfl rfl) rfl rfl rfl (sameM_iff.2 rfl) rfl rfl ?_;refine d_q rfl (q_pick_c (t:=true) rfl (sameM_iff.2 rfl) (v_raw rfl)) rfl rfl rfl ?_;refine Q125 ?_;exact⟨congrArg bool (by simp),(by repeat first|exact hle|exact Mem.le_refl _|assumption|exact Mem.none_of_le hle (by assumption)|exact n2|exact n3|exact n4|refine Mem.le_upd ?_ ?_)⟩
end C17
