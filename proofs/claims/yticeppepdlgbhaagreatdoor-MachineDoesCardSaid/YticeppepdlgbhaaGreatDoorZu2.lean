import Derived.Test.YticeppepdlgbhaaGreatDoorHz
import Derived.Test.YticeppepdlgbhaaGreatDoorZu1
open Go Go.Proofs Go.Am
set_option linter.unusedVariables false
set_option linter.unusedSimpArgs false
set_option autoImplicit false
set_option maxHeartbeats 4000000
set_option maxRecDepth 20000
namespace C17
theorem ag51:aggT Tryz.prog 51=some true:=by kernel_rfl
theorem fo51_0:fo Tryz.prog 51 0=some (0,9):=by kernel_rfl
theorem fo51_1:fo Tryz.prog 51 1=some (9,1):=by kernel_rfl
theorem sz51:sizeT Tryz.prog 51=some 10:=by kernel_rfl
theorem und47:Tryz.prog.underlying 47=some (.slice 51):=by kernel_rfl
def tk30:Nat->Nat->Option Nat:=fun _ _=>none
def pl30:Nat->List PStep:=fun _=>[]
theorem cb30:Tryz.f30.body.map (codeB Tryz.prog Tryz.f30.ntmps tk30 pl30)=some true:=by kernel_rfl
theorem goes30:goesB Tryz.prog 30=true:=by kernel_rfl
theorem snd30 (d:MDe)(hs:d.c.topic.size<2^62/\d.c.name.size<2^62)(M:Mem):SoundCall Tryz.prog 30 [encMD d] M fun r M'=>r=str (txD d)/\M.le M':=by
 refine SoundCall.go tk30 pl30 mixed Tryz.func30 cb30 rfl (Nat.le_of_ble_eq_true rfl) ?_;refine Q0 ?_;refine o_box zbx rfl rfl (fun B1 hB1=>?_);refine Q8 ?_;refine Q0 ?_;refine Q36 fo51_0 ?_;refine Q165 ag49 sz49 ?_;refine o_callx ((snd71 d.c hs _)) goes71 (ac (v_agg rfl) ac_nil) rfl ?_;rintro r M' ⟨rfl,hle⟩;have hb1:=hle B1 _ (Mem.upd_self _ _ _);refine Q96 ?_;refine Q30 ?_;refine Q30 ?_;refine Q27 ?_;refine Q20 ?_;refine o_nil ?_;refine s_cond rfl (fun h1=>?_) (fun h1=>?_)
 ·have k1:=h1;try simp only [zs] at k1
  refine Q7 ?_;refine Q10 ?_;exact⟨show str (if rightC d.c=true then bytC d.c else emp)=str (txD d) by unfold txD;rw [if_pos k1,if_pos k1],fun b o h=>hle b o (Mem.le_upd (Mem.le_refl M) hB1 b o h)⟩
 ·have k1:=h1;try simp only [zs] at k1
  refine s_skip ?_;refine Q6 fo51_1 ag9 sz9 ?_;refine Q2 ?_;exact⟨show str d.s=str (txD d) by unfold txD;rw [if_neg (by rw [k1];exact Bool.false_ne_true)],fun b o h=>hle b o (Mem.le_upd (Mem.le_refl M) hB1 b o h)⟩
def tk32:Nat->Nat->Option Nat:=fun _ _=>none
def pl32:Nat->List PStep:=fun _=>[]
theorem cb32:Tryz.f32.body.map (codeB Tryz.prog Tryz.f32.ntmps tk32 pl32)=some true:=by kernel_rfl
theorem goes32:goesB Tryz.prog 32=true:=by kernel_rfl
theorem snd32 (b mt ms:Nat)(x:Mc)(M:Mem)(hb:M b=some (.cells (mcC mt ms x))):SoundCall Tryz.prog 32 [ptr b] M fun r M'=>r=prV x.dig/\M.le M':=by
 refine SoundCall.go tk32 pl32 mixed Tryz.func32 cb32 rfl (Nat.le_of_ble_eq_true rfl) ?_;refine Q0 ?_;refine o_alloc zc60 (fun B1 hB1=>?_);have fb:b≠B1:=Mem.fresh_ne hB1 hb;have fb1:=fb.symm;refine Q52 ?_;refine Q44 fo124_4 ?_;refine Q165 ag60 sz60 ?_;refine Q58 sz60 ?_;exact ret_cell (.inl rfl) rfl rfl mmQ (loadP_w ag60 sz60 rfl rfl) ⟨rfl,zle⟩
theorem digest_m {M:Mem}{b:Nat}{x:Mc}{O:Nat->Prop}(h:McAt M b x O):SoundCall Tryz.prog 32 [ptr b] M fun r M'=>r=prV x.dig/\M'=M:=by
 obtain⟨mt,ms,ad,h⟩:=h;exact (snd32 b mt ms x M h.hb).det
def tk72:Nat->Nat->Option Nat:=fun _ _=>none
def pl72:Nat->List PStep:=fun _=>[]
theorem cb72:Tryz.f72.body.map (codeB Tryz.prog Tryz.f72.ntmps tk72 pl72)=some true:=by kernel_rfl
theorem goes72:goesB Tryz.prog 72=true:=by kernel_rfl
theorem snd72 (M:Mem)(r:Nat):SoundCall Tryz.prog 72 [mapV r] M fun q M'=>∃ b,M b=none/\q = .raw (.func (.func 126) #[] #[.pointer (some ⟨b,0,none⟩)])/\M'=M.upd b (.cells [mapV r]):=by
 refine SoundCall.go tk72 pl72 mixed Tryz.func72 cb72 rfl (Nat.le_of_ble_eq_true rfl) ?_;refine Q0 ?_;refine o_box zbx rfl rfl (fun B1 hB1=>?_);skip
 refine Q8 ?_;refine Q0 ?_;refine o_q (q_mkf1 rfl) rfl rfl rfl ?_;refine Q2 ?_;exact⟨B1,hB1,rfl,rfl⟩
def tk34:Nat->Nat->Option Nat:=fun _ _=>none
def pl34:Nat->List PStep:=fun _=>[]
theorem cb34:Tryz.f34.body.map (codeB Tryz.prog Tryz.f34.ntmps tk34 pl34)=some true:=by kernel_rfl
theorem goes34:goesB Tryz.prog 34=true:=by kernel_rfl
theorem goes56u:goesB Tryz.prog 56=true:=by kernel_rfl
theorem snd34 (b mt ms clk:Nat)(ad:ByteArray->Nat×Nat)(lf:List (En ByteArray))(x:Mc)(O:Nat->Prop)(M:Mem)(h:McIs M b mt ms ad x O)(hm:MapIs ptrV M mt clk lf (x.tps.map fun p=>(p.1,(ad p.1).1)))(hn:NmOk x):SoundCall Tryz.prog 34 [ptr b] M fun r M'=>r = .sl ((sortS (x.tps.map (·.1))).map str) false/\M.le M':=by
 have hb:=h.hb;have hk:lf.map En.k=x.tps.map (·.1):=by rw [hm.keys,List.map_map];rfl
 have hll:lf.length=x.tps.length:=by rw [hm.len,List.length_map]
 have hl20:=hn.len;have hml:maxLen=2^63 - 1:=rfl;have hnm:∀ e∈lf,e.k.size<=maxLen:=fun e he=>by
  have h1:e.k∈x.tps.map (·.1):=by rw [← hk];exact List.mem_map.2 ⟨e,he,rfl⟩
  obtain⟨p,hp,e2⟩:=List.mem_map.1 h1;have:=hn.nm p hp;rw [← e2];omega
 refine SoundCall.go tk34 pl34 mixed Tryz.func34 cb34 rfl (Nat.le_of_ble_eq_true rfl) ?_;refine Q67 ?_;refine Q52 ?_;refine Q81 fo124_0 ag120 sz120 ?_;refine o_callx ((snd72 _ mt)) goes72 (ac (v_raw rfl) ac_nil) rfl ?_;rintro q M1 ⟨B1,hB1,rfl,rfl⟩;refine o_callx ((C17m.sorted56 B1 mt clk lf _ (Mem.upd_self _ _ _) ((upd_other (fun e=>by have h2:=hm.hM;rw [e,hB1] at h2;cases h2)).trans hm.hM) (by omega) hnm hm.st hm.sn (by rw [hm.keys];exact hm.nd))) goes56u (ac (v_raw rfl) ac_nil) rfl ?_;rintro q M2 ⟨rfl,rfl⟩;refine Q23 ?_;refine Q154 ?_;exact⟨by rw [hk];rfl,Mem.le_upd (Mem.le_refl M) hB1⟩
theorem topics_m {M:Mem}{b:Nat}{x:Mc}{O:Nat->Prop}(h:McAt M b x O)(hn:NmOk x):SoundCall Tryz.prog 34 [ptr b] M fun r M'=>r = .sl ((sortS (x.tps.map (·.1))).map str) false/\M'=M:=by
 obtain⟨mt,ms,ad,h⟩:=h;obtain⟨clk,lf,hm⟩:=h.hm;exact (snd34 b mt ms clk ad lf x O M h hm hn).det
end C17
