import Derived.Test.YthmhdhmfkegpiaaGreatDoorHz
import Derived.Test.YthmhdhmfkegpiaaGreatDoorNn4
import Derived.Test.YthmhdhmfkegpiaaGreatDoorNn1
open Go Go.Proofs Go.Am
set_option linter.unusedVariables false
set_option linter.unusedSimpArgs false
set_option autoImplicit false
set_option maxHeartbeats 4000000
set_option maxRecDepth 20000
namespace C17
def tk16:Nat->Nat->Option Nat:=fun _ _=>none
def pl16:Nat->List PStep:=fun _=>[]
theorem cb16:Tryz.f16.body.map (codeB Tryz.prog Tryz.f16.ntmps tk16 pl16)=some true:=by kernel_rfl
theorem goes16:goesB Tryz.prog 16=true:=by kernel_rfl
def sameM (a b:Msg):Bool:=decide (a.texts=b.texts) && decide (a.kind=b.kind) && decide (a.frm=b.frm) && decide (a.life=b.life) && decide (a.view=b.view) && decide (a.n=b.n) && decide (a.sure=b.sure) && decide (a.bal=b.bal) && decide (a.tak=b.tak) && decide (a.val=b.val)
theorem sameM_iff {a b:Msg}:sameM a b=true↔a=b:=by
 unfold sameM;simp only [Bool.and_eq_true,decide_eq_true_eq];exact⟨fun ⟨⟨⟨⟨⟨⟨⟨⟨⟨h1,h2⟩,h3⟩,h4⟩,h5⟩,h6⟩,h7⟩,h8⟩,h9⟩,h10⟩=>by cases a;cases b;simp_all,fun h=>by subst h;simp⟩
theorem snd16 (a b:Msg)(M:Mem)(hl:a.texts.length<2^60)(hl2:b.texts.length<2^60):SoundCall Tryz.prog 16 [encM a,encM b] M fun r M'=>r=bool (sameM a b)/\M.le M':=by
 refine SoundCall.go tk16 pl16 mixed Tryz.func16 cb16 rfl (Nat.le_of_ble_eq_true rfl) ?_;refine Q0 ?_;refine o_box zbx rfl rfl (fun B1 hB1=>?_);have m1:M B1=none:=zm hB1;refine o_box zbx rfl rfl (fun B2 hB2=>?_);have f1_2:B1≠B2:=Mem.fresh_ne hB2 mmQ;have g2_1:B2≠B1:=f1_2.symm;have m2:M B2=none:=zm hB2;refine Q138 ?_;refine Q133 fo26_9 ag24 sz24 ?_;refine Q133 fo26_9 ag24 sz24 ?_;refine o_call ((snd40 a.texts b.texts false false _ hl hl2)) goes40 (ac (v_sl rfl) (ac (v_sl rfl) ac_nil)) rfl ?_;refine Q51 ?_;refine Q17 fo26_0 ag3 sz3 ?_;refine Q132 fo26_0 ag3 sz3 ?_;refine Q197 ?_;refine Q53 ?_;refine Q17 fo26_1 ag3 sz3 ?_;refine Q132 fo26_1 ag3 sz3 ?_;refine Q197 ?_;refine Q53 ?_;refine Q17 fo26_2 ag3 sz3 ?_;refine Q132 fo26_2 ag3 sz3 ?_;refine Q197 ?_;refine Q53 ?_;refine Q17 fo26_3 ag3 sz3 ?_;refine Q132 fo26_3 ag3 sz3 ?_;refine Q197 ?_;refine Q53 ?_;refine Q17 fo26_4 ag3 sz3 ?_;refine Q132 fo26_4 ag3 sz3 ?_;refine Q197 ?_;refine Q53 ?_;refine Q17 fo26_5 ag3 sz3 ?_;refine Q132 fo26_5 ag3 sz3 ?_;refine Q197 ?_;refine Q53 ?_;refine Q2 ?_;refine Q169 fo26_6 ?_;refine Q186 ag23 sz23 ?_;refine Q169 fo26_6 ?_;refine Q186 ag23 sz23 ?_;refine o_g (G:=true) rfl rfl rfl rfl rfl (fun hG hc=>(q_bin' (gv_on (gv_and hG hc) rfl) (gv_on (gv_and hG hc) rfl) (binEqBal _ _ a.bal b.bal))) ?_;refine Q53 ?_;refine Q2 ?_;refine Q169 fo26_7 ?_;refine Q186 ag23 sz23 ?_;refine Q169 fo26_7 ?_;refine Q186 ag23 sz23 ?_;refine o_g (G:=true) rfl rfl rfl rfl rfl (fun hG hc=>(q_bin' (gv_on (gv_and hG hc) rfl) (gv_on (gv_and hG hc) rfl) (binEqBal _ _ a.tak b.tak))) ?_;refine Q53 ?_;refine Q17 fo26_8 ag9 sz9 ?_;refine Q132 fo26_8 ag9 sz9 ?_;refine o_g (G:=true) rfl rfl rfl rfl rfl (fun hG hc=>(q_seql (gv_on (gv_and hG hc) rfl) (gv_on (gv_and hG hc) rfl))) ?_;refine Q53 ?_;refine Q4 ?_;exact⟨rfl,Mem.le_upd (Mem.le_upd (Mem.le_refl M) hB1) (Mem.upd_none hB2).2⟩
end C17
