import Derived.Test.YthmhdhmfkegpiaaGreatDoorHz
import Derived.Test.YthmhdhmfkegpiaaGreatDoorNn21
import Derived.Test.YthmhdhmfkegpiaaGreatDoorAmH
open Go Go.Proofs Go.Am
set_option linter.unusedVariables false
set_option linter.unusedSimpArgs false
set_option autoImplicit false
set_option maxHeartbeats 4000000
set_option maxRecDepth 20000
namespace C17
theorem bz127:(zeroT Tryz.prog 127).map (fun z=>z.cells.toList.map AVal.raw)=some [.raw (.int .i64 0),.raw (.int .i64 0),.raw (.int .i64 0),.raw (.int .i64 0),.raw (.int .i64 0),.raw (.int .i64 0),.raw (.int .i64 0),.raw (.int .i64 0),.raw (.int .i64 0),.raw (.int .i64 0),.raw (.int .i64 0),.raw (.int .i64 0),.raw (.int .i64 0),.raw (.int .i64 0),.raw (.int .i64 0),.raw (.int .i64 0),.raw (.int .i64 0),.raw (.int .i64 0),.raw (.int .i64 0),.raw (.int .i64 0),.raw (.int .i64 0),.raw (.int .i64 0)]:=by kernel_rfl
theorem bp127:(aPlaces Tryz.prog 127).isSome=true:=by kernel_rfl
theorem bz130:(zeroT Tryz.prog 130).map (fun z=>z.cells.toList.map AVal.raw)=some [.raw (.int .i64 0),.raw (.int .i64 0),.raw (.int .i64 0),.raw (.int .i64 0),.raw (.string { data:=#[] })]:=by kernel_rfl
theorem bp130:(aPlaces Tryz.prog 130).isSome=true:=by kernel_rfl
theorem fo134_1:fo Tryz.prog 134 1=some (3,22):=by kernel_rfl
theorem fo134_5:fo Tryz.prog 134 5=some (30,1):=by kernel_rfl
theorem fo134_10:fo Tryz.prog 134 10=some (39,1):=by kernel_rfl
theorem sz127:sizeT Tryz.prog 127=some 22:=by kernel_rfl
theorem sz130:sizeT Tryz.prog 130=some 5:=by kernel_rfl
theorem sz132:sizeT Tryz.prog 132=some 1:=by kernel_rfl
def tk55:Nat->Nat->Option Nat
 | 1,0=>some 0
 | 5,0=>some 0
 | 5,5=>some 0
 | _,_=>none
def pl55:Nat->List PStep:=fun _=>[]
theorem cb55:Tryz.f55.body.map (codeB Tryz.prog Tryz.f55.ntmps tk55 pl55)=some true:=by kernel_rfl
theorem goes55:goesB Tryz.prog 55=true:=by kernel_rfl
def begX (x:Nd)(v:Vw)(value:ByteArray):Nd:={ x with vn:=v.n,vm:=v.ms,value:=value,prom:=bal0,tak:=bal0,aval:=emp,said:=fun _=>bal0,by':=fun _=>0,refused:=0 }
theorem elsIn {l:List Int}:Els 1 (l.map int):=Els.map fun _=>⟨rfl,rfl⟩
theorem nodes_step {l:List Mb}{i:Nat}(h:i<l.length):((l.take i).map Mb.node).map int++[int l[i].node]=((l.take (i+1)).map Mb.node).map int:=by
 rw [List.take_succ_eq_append_getElem h,List.map_append,List.map_append];rfl
theorem snd55 (b:Nat)(x:Nd)(po pm ps pp:AVal)(v:Vw)(log:List ByteArray)(ol:Bool)(value:ByteArray)(M:Mem)(hb:M b=some (.cells (ndC x po pm ps pp)))(hok:okNew x.self.node (v.ms.map Mb.node)=true)(hl:v.ms.length<2^40)(hlg:log.length+2<=2^43)(hsz:∀ s∈log,s.size<2^61):SoundCall Tryz.prog 55 [ptr b,encV v,.sl (log.map str) ol,str value] M fun r M'=>r = .tup []/\∃ bo,M bo=none/\M' b=some (.cells (ndC (begX x v value) (ptr bo) pm ps nilp))/\M' bo=some (.cells (odC (newO x.self.node (v.ms.map Mb.node) log)))/\∀ d,M d≠none->d≠b->M' d=M d:=by
 have hle:=Mem.le_refl M;have hml:(v.ms.map encMb).length=v.ms.length:=List.length_map _;have hnl:(v.ms.map Mb.node).length=v.ms.length:=List.length_map _;refine SoundCall.go tk55 pl55 mixed Tryz.func55 cb55 rfl (Nat.le_of_ble_eq_true rfl) ?_;refine Q0 ?_;refine o_box zbx rfl rfl (fun B1 hB1=>?_);have fb1:b≠B1:=Mem.fresh_ne hB1 hb;have f1b:=fb1.symm;refine Q1 ?_;refine Q93 ?_;refine Q48 ?_;refine Q133 fo53_1 ag51 sz51 ?_;refine Q85 und51 ?_;refine Q52 ?_;refine s_loop (fun m S=>∃ T,∃ Mc:Mem,∃ i:Nat,S=⟨setT (setT (setT (setT (setT (setT (setT (setT T 0 (ptr b)) 2 (.sl (log.map str) ol)) 3 (str value)) 5 (ptr B1)) 8 (.sl (((v.ms.take i).map Mb.node).map int) true)) 12 (.sl (v.ms.map encMb) false)) 13 (int (v.ms.length:Nat))) 14 (int (i:Nat)),Mc⟩/\Mc B1=some (.cells (vC v))/\Mc b=some (.cells (ndC x po pm ps pp))/\M.le Mc/\i<=v.ms.length/\m=v.ms.length - i) v.ms.length ?_ ?_
 ·exact⟨_,_,0,St.mkT (kp (kp (kp (kp (kp (kp (kp (kp rfl rfl) rfl) rfl) rfl) rfl) rfl) (congrArg (fun q:Nat=>int (q:Int)) hml)) rfl).symm,mmQ,mmQ,(by repeat first|exact hle|exact Mem.le_refl _|assumption|exact Mem.none_of_le hle (by assumption)|exact n2|exact n3|exact n4|refine Mem.le_upd ?_ ?_),Nat.zero_le _,rfl⟩
 rintro m S ⟨T,Mc,i,rfl,hc1,hcb,hle,hi,rfl⟩;refine Q50 ?_;refine s_cond rfl (fun h1=>?_) (fun h1=>?_)
 ·have k1:=h1;try simp only [zs] at k1
  have hi2:i<v.ms.length:=by omega
  refine Q86 ?_;refine Q73 und51 sz45 ?_;refine Q177 ag45 sz45 ?_;refine o_alloc zc45 (fun B2 hB2=>?_);have f12:B1≠B2:=Mem.fresh_ne hB2 hc1;have f21:=f12.symm;have fb2:b≠B2:=Mem.fresh_ne hB2 hcb;have f2b:=fb2.symm;have n2:M B2=none:=Mem.none_of_le hle hB2;refine Q118 sz45 ?_;refine Q19 ?_;refine Q94 ?_;refine Q12 fo45_0 ag3 sz3 ?_;refine Q165 slt72 ?_;refine o_qs (q_app slt72 rfl rfl rfl rfl (by first|exact elsIn|exact Els.cons rfl rfl Els.nil) (by first|exact (by first|exact elsIn|exact Els.cons rfl rfl Els.nil)|exact Els.cons rfl rfl Els.nil) (by simp;omega)) rfl rfl rfl rfl ?_;refine Q128 ?_;refine Q36 ?_;exact⟨v.ms.length - (i+1),by omega,_,_,i+1,St.mkT (kp (kp (kp (kp (kp (kp (kp (kp rfl rfl) rfl) rfl) rfl) (congrArg (fun q=>AVal.sl q true) (nodes_step hi2))) rfl) rfl) rfl).symm,mmQ,mmQ,(by repeat first|exact hle|exact Mem.le_refl _|assumption|exact Mem.none_of_le hle (by assumption)|exact n2|exact n3|exact n4|refine Mem.le_upd ?_ ?_),by omega,rfl⟩
 ·have k1:=h1;try simp only [zs] at k1
  have htk:v.ms.take i=v.ms:=List.take_of_length_le (by omega);refine Q35 ?_;refine Q18 ?_;refine Q10 ?_;refine Q87 ag53 sz53 ?_;refine Q2 ?_;refine Q25 fo134_4 ?_;refine Q98 sz53 ?_;refine Q25 fo134_5 ?_;refine Q62 sz9 ?_;refine Q18 ?_;refine Q10 ?_;refine Q25 fo134_2 ?_;refine Q12 fo45_0 ag3 sz3 ?_;refine Q49 ?_;refine Q49 ?_;refine o_callx ((newOT false false _ (by rw [htk];exact hok) (by rw [htk,hnl];omega) hlg hsz)) goes117 (ac (v_raw rfl) (ac (v_sl rfl) (ac (v_sl rfl) ac_nil))) rfl ?_;rintro r Mo ⟨bo,hbo,rfl,rfl⟩;have fbo:b≠bo:=Mem.fresh_ne hbo (Mem.upd_self _ _ _);have fob:=fbo.symm;have hMo:M bo=none:=Mem.none_of_le hle (by repeat first|exact hbo|replace hbo:=(Mem.upd_none hbo).2);refine Q37 ?_;refine Q176 ?_;refine Q80 ?_;refine Q25 fo134_6 ?_;refine Q62 sz128 ?_;refine Q19 ?_;iterate 3 refine Q10 ?_
  refine o_q (q_b (cs:=[.raw (.int .i64 0),.raw (.int .i64 0),.raw (.int .i64 0),.raw (.int .i64 0),.raw (.string { data:=#[] })]) bz130 bp130 bf_nil) rfl rfl rfl ?_;refine o_q (q_b (cs:=[.raw (.int .i64 0),.raw (.int .i64 0),.raw (.int .i64 0),.raw (.int .i64 0),.raw (.int .i64 0),.raw (.int .i64 0),.raw (.int .i64 0),.raw (.int .i64 0),.raw (.int .i64 0),.raw (.int .i64 0),.raw (.int .i64 0),.raw (.int .i64 0),.raw (.int .i64 0),.raw (.int .i64 0),.raw (.int .i64 0),.raw (.int .i64 0),.raw (.int .i64 0),.raw (.int .i64 0),.raw (.int .i64 0),.raw (.int .i64 0),.raw (.int .i64 0),.raw (.int .i64 0)]) bz127 bp127 bf_nil) rfl rfl rfl ?_;refine Q25 fo134_7 ?_;refine Q98 sz130 ?_;refine Q25 fo134_10 ?_;refine Q98 sz132 ?_;refine Q25 fo134_1 ?_;refine Q62 sz127 ?_;refine s_end ?_;rw [htk] at *
  exact⟨rfl,bo,hMo,(Mem.upd_self _ _ _).trans (congrArg (fun q=>some (AObj.cells q)) (show _=ndC (begX x v value) (ptr bo) pm ps nilp from rfl)),mmQ,fun d hd hdb=>by
   have hdo:d≠bo:=fun e=>hd (by rw [e];exact hMo)
   dsimp only;repeat first|exact leK hle hd|rw [upd_other hdb]|rw [upd_other hdo]⟩
end C17
