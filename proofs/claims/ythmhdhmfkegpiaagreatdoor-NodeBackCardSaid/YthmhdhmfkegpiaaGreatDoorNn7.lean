import Derived.Test.YthmhdhmfkegpiaaGreatDoorHz
import Derived.Test.YthmhdhmfkegpiaaGreatDoorNn6
import Derived.Test.YthmhdhmfkegpiaaGreatDoorNn1
open Go Go.Proofs Go.Am
set_option linter.unusedVariables false
set_option linter.unusedSimpArgs false
set_option autoImplicit false
set_option maxHeartbeats 4000000
set_option maxRecDepth 20000
namespace C17
theorem ag103:aggT Tryz.prog 103=some false:=by kernel_rfl
theorem sz103:sizeT Tryz.prog 103=some 1:=by kernel_rfl
def tk41:Nat->Nat->Option Nat
 | 0,0=>some 0
 | _,_=>none
def pl41:Nat->List PStep:=fun _=>[]
theorem cb41:Tryz.f41.body.map (codeB Tryz.prog Tryz.f41.ntmps tk41 pl41)=some true:=by kernel_rfl
theorem goes41:goesB Tryz.prog 41=true:=by kernel_rfl
theorem itM_add {l:List Itm}{y:Itm}:l.map encIt++[encIt y]=(l++[y]).map encIt:=by rw [List.map_append];rfl
theorem snd41 (k n:Int)(b:Nat)(l:List Itm)(M:Mem)(h0:0<=n)(h1:n<2^63)(hl:l.length<=1000)(hb:M b=some (.cells [.sl (l.map encIt) true])):SoundCall Tryz.prog 41 [int k,int n,ptr b] M fun r M'=>r = .tup []/\M'=M.upd b (.cells [.sl ((l++[Itm.mk k n.toNat emp]).map encIt) true]):=by
 refine SoundCall.go tk41 pl41 mixed Tryz.func41 cb41 rfl (Nat.le_of_ble_eq_true rfl) ?_;refine Q19 ?_;refine Q137 ag103 sz103 ?_;refine Q64 ?_;refine Q141 und3 und104 ?_;refine Q159 bz106 bp106 fo106_0 fo106_1 ?_;refine Q107 slt103 ?_;refine Q204 slt103 ?_;refine Q112 sz103 ?_;refine Q1 ?_;refine s_end ?_;have e:((n.toNat:Nat):Int)=n:=Int.toNat_of_nonneg h0;have e2:encIt (Itm.mk k n.toNat emp) = .agg [int k,.raw (.int .u64 n),.raw (.string { data:=#[] })]:=by show AVal.agg [int k,.raw (.int .u64 ((n.toNat:Nat):Int)),str emp]=_;rw [e];rfl
 refine⟨rfl,?_⟩;rw [← itM_add,e2];first|exact Mem.upd_upd _ _ _ _|rfl
end C17
