import Derived.Test.YticeppepdlgbhaaGreatDoorHz
import Derived.Test.YticeppepdlgbhaaGreatDoorZy4
import Derived.Test.YticeppepdlgbhaaGreatDoorZy1
open Go Go.Proofs Go.Am
set_option linter.unusedVariables false
set_option linter.unusedSimpArgs false
set_option autoImplicit false
set_option maxHeartbeats 4000000
set_option maxRecDepth 20000
namespace C17
theorem ksL_len (x:Tp):(ksL x).length=x.kvs.length:=by
 unfold ksL;rw [List.length_map,namesL_len]
end C17
open Go Go.Proofs Go.Am
set_option linter.unusedVariables false
set_option linter.unusedSimpArgs false
set_option autoImplicit false
namespace C17
def tk51r:Nat->Nat->Option Nat:=fun _ _=>none
def pl51r:Nat->List PStep:=fun _=>[]
theorem cb51r:Tryz.f51.body.map (codeB Tryz.prog Tryz.f51.ntmps tk51r pl51r)=some true:=by kernel_rfl
theorem encW:∀ a:Rec,(enc a).ok=true/\(enc a).cells.length=5/\(enc a).cells.map AVal.shut=(enc a).cells:=fun a=>⟨rfl,rfl,rfl⟩
def zR:List AVal:=[int 0,str emp,int 0,str emp,str emp]
theorem zRu:∀ z∈zR,z.unit=true:=fun z hz=>by
 simp only [zR,List.mem_cons,List.not_mem_nil,or_false] at hz;rcases hz with rfl|rfl|rfl|rfl|rfl<;>rfl
theorem snd51r (l:List Rec)(o:Bool)(M:Mem)(hl:l.length<2^40):SoundCall Tryz.prog 51 [.sl (l.map enc) o] M fun r M'=>∃ base c,r = .raw (.slice base l.length c)/\FrW enc zR M M' base c l:=by
 refine SoundCall.go tk51r pl51r mixed Tryz.func51 cb51r rfl (Nat.le_of_ble_eq_true rfl) ?_;refine Q67 ?_;refine Q11 ?_;refine Q63 ?_;refine o_nilcmp und35 rfl rfl (.inl rfl) (fun nh1 h1n=>?_);refine o_nil ?_;refine s_cond rfl (fun h2=>?_) (fun h2=>?_)
 ·have k2:=h2;try simp only [zs] at k2
  have hl0:l=[]:=by
   by_cases e:l=[]
   ·exact e
   ·exfalso;have h9:=h1n (by simpa using e);have h8:nh1=true:=h2;rw [h8] at h9;exact absurd h9 (by decide)
  refine Q0 ?_;refine o_asnil ?_;refine o_nil ?_;refine s_ret ?_;refine Q156 ?_;subst hl0;exact⟨none,0,rfl,⟨fun _=>⟨rfl,rfl,.inl rfl⟩,fun h=>absurd rfl h⟩⟩
 ·have k2:=h2;try simp only [zs] at k2
  refine Q142 ?_;refine o_q (q_bs slt35 pn rfl Els.nil (by decide)) rfl rfl rfl ?_;refine Q76 ?_;refine o_appw (l:=l) (f:=enc) (zs:=zR) (sz:=5) slt35 rfl rfl zc39 zRu (by decide) encW (.inl rfl) (src_sl rfl) (by omega) (fun base c M1 hF=>?_);refine Q2 ?_;exact⟨base,c,rfl,hF⟩
def tk14r:Nat->Nat->Option Nat:=fun _ _=>none
def pl14r:Nat->List PStep
 | 1=>[.q 0,.q 1,.q 2,.q 3,.q 4,.q 5,.s 6 [3,2,1,0],.q 7,.q 8]
 | _=>[]
theorem cb14r:Tryz.f14.body.map (codeB Tryz.prog Tryz.f14.ntmps tk14r pl14r)=some true:=by kernel_rfl
theorem snd14r (t m:Nat)(x:Tp)(off most:Int)(M:Mem)(ht:M t=some (.cells (tpC m x)))(hs:Sorted x.recs)(hlen:x.recs.length<2^40):SoundCall Tryz.prog 14 [ptr t,int off,int most] M fun r M'=>∃ base c,r = .raw (.slice base (readL x.recs off most).length c)/\FrW enc zR M M' base c (readL x.recs off most):=by
 have hat:=atN_le x.recs off;refine SoundCall.go tk14r pl14r mixed Tryz.func14 cb14r rfl (Nat.le_of_ble_eq_true rfl) ?_;refine Q67 ?_;refine Q11 ?_;refine Q29 ?_;refine Q40 fo87_4 ?_;refine Q169 ag35 sz35 ?_;refine Q136 ?_;refine Q5 ?_;refine Q3 ?_;refine o_call (((snd50 t m x off _ ht hs hlen).det)) goes50 (ac (mvQ) (ac (v_raw rfl) ac_nil)) rfl ?_;refine o_nil ⟨(by simp [Mem.upd, *]),?_⟩;refine Q245 und35 sz39 ?_;refine d_q rfl (q_as (v_sl rfl)) rfl rfl rfl ?_;refine d_nil ?_;refine Q63 ?_;refine Q1 ?_;refine o_q (q_max rfl rfl) rfl rfl rfl ?_;refine Q131 und35 ?_;refine o_q (q_min rfl rfl) rfl rfl rfl ?_;refine Q272 und35 sz39 ?_;refine o_callx ((snd51r ((x.recs.drop (atN x.recs off)).take (min (max most 0) ((x.recs.drop (atN x.recs off)).length:Int)).toNat) false _ (by rw [List.length_take,List.length_drop];omega))) goes51 (ac (v_sl rfl) ac_nil) rfl ?_;rintro r M1 ⟨base,c,rfl,hF⟩;refine Q2 ?_;have e:((x.recs.drop (atN x.recs off)).take (min (max most 0) ((x.recs.drop (atN x.recs off)).length:Int)).toNat)=readL x.recs off most:=take_min _ _;exact⟨base,c,congrArg (fun l:List Rec=>AVal.raw (.slice base l.length c)) e,e ▸ hF⟩
end C17
open Go Go.Proofs Go.Am
set_option linter.unusedVariables false
set_option linter.unusedSimpArgs false
set_option autoImplicit false
namespace C17
theorem und28:Tryz.prog.underlying 28=some (.pointer 44):=by kernel_rfl
theorem trim_kvs (x:Tp)(n:Int):(trimT x n).1.kvs=x.kvs:=by
 unfold trimT;split
 ·rfl
 ·split<;>rfl
theorem back_trim' {n:Nat}{x:Tp}(h:BackOk n x)(k:Int):BackOk n (trimT x k).1:=by
 by_cases h0:0<=k
 ·exact back_trim h k h0
 ·have hl:=h.ok.low;unfold trimT;rw [if_neg (by omega),if_neg (by omega)];exact h
theorem keepN_sub (l:List Rec)(upto:Int):(keepN l upto l.length).Sublist l:=by
 have h1:(List.range l.length).map (fun i=>l.getD i default)=l:=by
  apply List.ext_getElem
  ·simp
  ·intro i h1 h2;rw [List.getElem_map,List.getElem_range,List.getD_eq_getElem?_getD,List.getElem?_eq_getElem h2];rfl
 unfold keepN
 conv=>rhs;rw [← h1]
 exact List.Sublist.map _ List.filter_sublist
theorem back_comp {n:Nat}{x:Tp}(h:BackOk n x)(k:Int):BackOk n (compT x k):=by
 have hs:=keepN_sub x.recs k;exact⟨⟨h.ok.name,h.ok.low,h.ok.nd,h.ok.kv,fun r hr=>h.ok.rc r (hs.subset hr),List.Pairwise.sublist hs h.ok.so⟩,h.kn,Nat.le_trans hs.length_le h.rn,h.en⟩
theorem upd2 {M:Mem}{b:Nat}{o o':AObj}:(M.upd b o).upd b o'=M.upd b o':=by
 funext c;unfold Mem.upd;split<;>rfl
end C17
open Go Go.Proofs Go.Am
set_option linter.unusedVariables false
set_option linter.unusedSimpArgs false
set_option autoImplicit false
namespace C17
end C17
