import Derived.Test.YthmhdhmfkegpiaaGreatDoorHz
import Derived.Test.YthmhdhmfkegpiaaGreatDoorNn10
import Derived.Test.YthmhdhmfkegpiaaGreatDoorNn1
open Go Go.Proofs Go.Am
set_option linter.unusedVariables false
set_option linter.unusedSimpArgs false
set_option autoImplicit false
set_option maxHeartbeats 4000000
set_option maxRecDepth 20000
namespace C17
theorem bz26:(zeroT Tryz.prog 26).map (fun z=>z.cells.toList.map AVal.raw)=some [.raw (.int .i64 0),.raw (.int .i64 0),.raw (.int .i64 0),.raw (.int .i64 0),.raw (.int .i64 0),.raw (.int .i64 0),.raw (.int .i64 0),.raw (.int .i64 0),.raw (.int .i64 0),.raw (.int .i64 0),.raw (.string { data:=#[] }),.raw (.slice none 0 0)]:=by kernel_rfl
theorem bp26:(aPlaces Tryz.prog 26).isSome=true:=by kernel_rfl
theorem zc26:zeroCellsT Tryz.prog 26=some [.raw (.int .i64 0),.raw (.int .i64 0),.raw (.int .i64 0),.raw (.int .i64 0),.raw (.int .i64 0),.raw (.int .i64 0),.raw (.int .i64 0),.raw (.int .i64 0),.raw (.int .i64 0),.raw (.int .i64 0),.raw (.string { data:=#[] }),.sl [] true]:=by kernel_rfl
def tk15:Nat->Nat->Option Nat
 | 13,1=>some 0
 | _,_=>none
def pl15:Nat->List PStep
 | 9=>[.q 0,.q 1,.q 2,.q 3,.q 4,.q 5,.q 6,.q 7,.q 8,.q 9,.q 10,.q 11,.q 12,.q 13,.q 14,.q 15,.q 16,.q 17,.q 18,.q 19,.q 20,.q 21,.q 22,.q 23,.q 24,.q 25,.q 26,.q 27,.q 28,.q 29,.q 30,.q 31,.q 32,.q 33,.q 34,.q 35,.q 36,.q 37,.q 38,.q 39,.q 40,.q 41,.q 42,.q 43,.q 44,.q 45,.q 46,.q 47,.q 48,.q 49,.q 50,.q 51,.q 52,.q 53,.q 54,.q 55,.q 56,.s 57 [56,55,54,53,52,51,50,49,48,47,46,45,44,43,42,41,40,39,38,37,36,35,34,33,32,31,30,29,28,27,26,25,24,23,22,21,20,19,18,17,16,15,14,13,12,11,10,9,8,7,6,5,4,3,2,1,0],.s 58 []]
 | 13=>[.q 0,.q 2,.q 3,.q 4,.q 5,.q 6,.q 7,.s 1 [7,6,5,4,3,2],.q 8,.q 9,.s 10 []]
 | _=>[]
theorem cb15:Tryz.f15.body.map (codeB Tryz.prog Tryz.f15.ntmps tk15 pl15)=some true:=by kernel_rfl
theorem goes15:goesB Tryz.prog 15=true:=by kernel_rfl
theorem dec93 (s:ByteArray)(hs:s.size<2^62)(M:Mem):SoundCall Tryz.prog 48 [str shM,str s] M fun r M'=>(∃ o,r = .tup [.sl ((decF shM s).1.map encIt) o,int (decF shM s).2])/\M.le M':=by
 have h:=snd48 shM s M hs (by decide);rw [rdecF_M] at h;exact h
theorem dec92 (s:ByteArray)(hs:s.size<2^62)(ge:TypeId)(gf:Nat×Nat)(M:Mem)(hG:M 0=some (szO ge gf)):SoundCall Tryz.prog 47 [str shM,str s] M fun r M'=>(∃ o,r = .tup [.sl ((decF shM s).1.map encIt) o,int (decF shM s).2])/\M.le M' :=
 snd47 shM s ge gf M hG (by decide) hs
theorem snd15a (s:ByteArray)(hs:s.size<2^62)(M:Mem)(he:(decF shM s).2≠0):SoundCall Tryz.prog 15 [str s] M fun r M'=>(r = .tup [.agg [int 0,int 0,int 0,int 0,int 0,int 0,int 0,int 0,int 0,int 0,str ⟨#[]⟩,.raw (.slice none 0 0)],int (decF shM s).2])/\M.le M':=by
 refine SoundCall.go tk15 pl15 mixed Tryz.func15 cb15 rfl (Nat.le_of_ble_eq_true rfl) ?_;refine Q0 ?_;refine o_alloc zc26 (fun B1 hB1=>?_);refine Q51 ?_;refine o_callx ((dec93 s hs _)) goes48 (ac (v_raw rfl) (ac (v_raw rfl) ac_nil)) rfl ?_;rintro r M2 ⟨⟨o,rfl⟩,hq⟩;have hle:M.le M2:=Mem.le_trans (Mem.le_upd (Mem.le_refl M) hB1) hq;have bm1:=hq B1 _ (Mem.upd_self _ _ _);refine Q37 ?_;refine Q166 ?_;refine Q80 ?_;refine Q42 ?_;refine Q40 ?_;refine Q122 ?_;refine s_then rfl (by rw [decide_eq_false he];rfl) ?_;refine Q0 ?_;refine Q198 bz26 bp26 ?_;refine Q2 ?_;refine Q6 sz26 ?_;refine Q11 ?_;exact ret_many (.inl rfl) rfl (rl_c rfl mmQ (loadP_w ag26 sz26 rfl rfl) rfl (rl_t rfl rl_nil)) rfl ⟨rfl,(by repeat first|exact hle|exact Mem.le_refl _|assumption|exact Mem.none_of_le hle (by assumption)|exact n2|refine Mem.le_upd ?_ ?_)⟩
def tk14:Nat->Nat->Option Nat
 | 16,1=>some 0
 | _,_=>none
def pl14:Nat->List PStep
 | 12=>[.q 0,.q 1,.q 2,.q 3,.q 4,.q 5,.q 6,.q 7,.q 8,.q 9,.q 10,.q 11,.q 12,.q 13,.q 14,.q 15,.q 16,.q 17,.q 18,.q 19,.q 20,.q 21,.q 22,.q 23,.q 24,.q 25,.q 26,.s 27 [26,25,24,23,22,21,20,19,18,17,16,15,14,13,12,11,10,9,8,7,6,5,4,3,2,1,0],.s 28 []]
 | _=>[]
theorem cb14:Tryz.f14.body.map (codeB Tryz.prog Tryz.f14.ntmps tk14 pl14)=some true:=by kernel_rfl
theorem goes14:goesB Tryz.prog 14=true:=by kernel_rfl
theorem snd14a (s:ByteArray)(hs:s.size<2^62)(ge:TypeId)(gf:Nat×Nat)(M:Mem)(hG:M 0=some (szO ge gf))(he:(decF shM s).2≠0):SoundCall Tryz.prog 14 [str s] M fun r M'=>(r = .tup [.agg [int 0,int 0,int 0,int 0,int 0,int 0,int 0,int 0,int 0,int 0,str ⟨#[]⟩,.raw (.slice none 0 0)],int (decF shM s).2])/\M.le M':=by
 refine SoundCall.go tk14 pl14 mixed Tryz.func14 cb14 rfl (Nat.le_of_ble_eq_true rfl) ?_;refine Q0 ?_;refine o_alloc zc26 (fun B1 hB1=>?_);refine Q51 ?_;refine o_callx ((dec92 s hs ge gf _ (Mem.le_upd (Mem.le_refl M) hB1 0 _ hG))) goes47 (ac (v_raw rfl) (ac (v_raw rfl) ac_nil)) rfl ?_;rintro r M2 ⟨⟨o,rfl⟩,hq⟩;have hle:M.le M2:=Mem.le_trans (Mem.le_upd (Mem.le_refl M) hB1) hq;have bm1:=hq B1 _ (Mem.upd_self _ _ _);refine Q37 ?_;refine Q166 ?_;refine Q80 ?_;refine Q42 ?_;refine Q40 ?_;refine Q122 ?_;refine s_then rfl (by rw [decide_eq_false he];rfl) ?_;refine Q0 ?_;refine Q198 bz26 bp26 ?_;refine Q2 ?_;refine Q6 sz26 ?_;refine Q11 ?_;exact ret_many (.inl rfl) rfl (rl_c rfl mmQ (loadP_w ag26 sz26 rfl rfl) rfl (rl_t rfl rl_nil)) rfl ⟨rfl,(by repeat first|exact hle|exact Mem.le_refl _|assumption|exact Mem.none_of_le hle (by assumption)|exact n2|refine Mem.le_upd ?_ ?_)⟩
end C17
