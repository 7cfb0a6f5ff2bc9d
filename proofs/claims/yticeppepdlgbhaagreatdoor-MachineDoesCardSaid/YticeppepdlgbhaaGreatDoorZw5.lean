import Derived.Test.YticeppepdlgbhaaGreatDoorHz
import Derived.Test.YticeppepdlgbhaaGreatDoorZw16
import Derived.Test.YticeppepdlgbhaaGreatDoorZw4
open Go Go.Proofs Go.Am
set_option linter.unusedVariables false
set_option linter.unusedSimpArgs false
set_option autoImplicit false
set_option maxHeartbeats 4000000
set_option maxRecDepth 20000
namespace C17
theorem ag28:aggT Tryz.prog 28=some false:=by kernel_rfl
theorem ag133:aggT Tryz.prog 133=some false:=by kernel_rfl
theorem ag134:aggT Tryz.prog 134=some false:=by kernel_rfl
theorem fo136_0:fo Tryz.prog 136 0=some (0,1):=by kernel_rfl
theorem fo136_1:fo Tryz.prog 136 1=some (1,1):=by kernel_rfl
theorem sz28:sizeT Tryz.prog 28=some 1:=by kernel_rfl
theorem sz133:sizeT Tryz.prog 133=some 1:=by kernel_rfl
theorem sz134:sizeT Tryz.prog 134=some 1:=by kernel_rfl
theorem und133:Tryz.prog.underlying 133=some (.slice 28):=by kernel_rfl
theorem und134:Tryz.prog.underlying 134=some (.slice 145):=by kernel_rfl
def tk130:Nat->Nat->Option Nat:=fun _ _=>none
def pl130:Nat->List PStep:=fun _=>[]
theorem cb130:Tryz.f130.body.map (codeB Tryz.prog Tryz.f130.ntmps tk130 pl130)=some true:=by kernel_rfl
theorem goes130:goesB Tryz.prog 130=true:=by kernel_rfl
theorem snd130 (d:Nat)(yd:ByteArray->Nat)(x:Mc)(vs:Value)(o1 o3:Bool)(nm:ByteArray)(M:Mem)(hd:M d=some (.cells (rmC yd x vs o1 o3)))(ht:∀ k∈nmL x,∃ y P q1 q2,y.name=k/\M (yd k)=some (.cells (ryC y P q1 q2)))(hL:(nmL x).length<=20):SoundCall Tryz.prog 130 [ptr d,str nm] M fun r M'=>((nm∈nmL x->r=ptr (yd nm))/\(nm ∉ nmL x->r = .raw (.pointer none)))/\M'=M:=by
 have hml:((nmL x).map fun k=>ptr (yd k)).length=(nmL x).length:=List.length_map _;refine SoundCall.go tk130 pl130 mixed Tryz.func130 cb130 rfl (Nat.le_of_ble_eq_true rfl) ?_;refine Q0 ?_;refine Q31 ?_;refine Q11 ?_;refine Q109 ?_;refine s_loop (fun m S=>∃ T,∃ i:Nat,S=⟨setT (setT (setT T 0 (ptr d)) 1 (str nm)) 5 (int (i:Nat)),M⟩/\(∀ j,∀ h:j<(nmL x).length,j<i->(nmL x)[j]≠nm)/\i<=(nmL x).length/\m=(nmL x).length - i) (nmL x).length ?_ ?_
 ·exact⟨_,0,St.mkT (kp (kp (kp rfl rfl) rfl) rfl).symm,fun j h hj=>absurd hj (Nat.not_lt_zero j),by omega,rfl⟩
 rintro m S ⟨T,i,rfl,hlow,hi,rfl⟩;refine Q4 ?_;refine Q62 fo136_0 ?_;refine Q124 ag133 sz133 ?_;refine Q75 und133 ?_;refine Q41 ?_;refine s_cond rfl (fun h1=>?_) (fun h1=>?_)
 ·have k1:=h1;try simp only [zs] at k1
  obtain⟨y,P,q1,q2,hyn,hy⟩:=ht _ (List.getElem_mem (show i<(nmL x).length by simpa using h1));refine Q55 ?_;refine Q95 fo136_0 ?_;refine Q116 ag133 sz133 ?_;refine Q137 und133 sz28 ?_;refine Q267 ag28 sz28 ?_;refine Q81 fo44_0 ag9 sz9 ?_;refine Q1 ?_;refine Q193 ?_;refine o_nil ?_;refine s_cond rfl (fun h2=>?_) (fun h2=>?_)
  ·have k2:=h2;try simp only [zs] at k2
   refine Q95 fo136_0 ?_;refine Q116 ag133 sz133 ?_;refine Q137 und133 sz28 ?_;refine Q267 ag28 sz28 ?_;refine Q31 ?_;refine o_nil ?_;refine s_ret ?_;refine Q151 ?_;refine Q77 ?_;have he:(nmL x)[i]=nm:=hyn.symm.trans (of_decide_eq_true h2);exact⟨⟨fun _=>by rw [← he];rfl,fun hn=>absurd (he ▸ List.getElem_mem _) hn⟩,rfl⟩
  ·have k2:=h2;try simp only [zs] at k2
   refine Q47 ?_;refine Q39 ?_;exact⟨(nmL x).length - (i+1),by omega,_,i+1,St.mkT (kp (kp (kp rfl rfl) rfl) rfl).symm,(fun j h hj=>by
    rcases Nat.lt_or_ge j i with g|g
    ·exact hlow j h g
    ·obtain rfl:j=i:=by omega
     exact fun he=>of_decide_eq_false h2 (hyn.trans he)),by omega,rfl⟩
 ·have k1:=h1;try simp only [zs] at k1
  refine Q26 ?_;refine Q0 ?_;refine Q31 ?_;refine Q154 ?_;have hn1:¬ i<(nmL x).length:=fun h=>absurd h1 (by simpa using h)
  exact⟨⟨fun hm=>by
   obtain⟨j,hj,he⟩:=List.mem_iff_getElem.1 hm;exact absurd he (hlow j hj (by omega)),fun _=>rfl⟩,rfl⟩
section
variable {d:Nat}{yd:ByteArray->Nat}{x:Mc}{vs:Value}{o1 o3:Bool}
theorem topY (nm:ByteArray)(M:Mem)(hd:M d=some (.cells (rmC yd x vs o1 o3)))(ht:∀ k∈nmL x,∃ y P q1 q2,y.name=k/\M (yd k)=some (.cells (ryC y P q1 q2)))(hL:(nmL x).length<=20)(hin:nm∈nmL x):SoundCall Tryz.prog 130 [ptr d,str nm] M fun r M'=>r=ptr (yd nm)/\M'=M:=by
 exact (snd130 d yd x vs o1 o3 nm M hd ht hL).mono fun r M' h=>⟨h.1.1 hin,h.2⟩
theorem topN (nm:ByteArray)(M:Mem)(hd:M d=some (.cells (rmC yd x vs o1 o3)))(ht:∀ k∈nmL x,∃ y P q1 q2,y.name=k/\M (yd k)=some (.cells (ryC y P q1 q2)))(hL:(nmL x).length<=20)(hin:nm ∉ nmL x):SoundCall Tryz.prog 130 [ptr d,str nm] M fun r M'=>r = .raw (.pointer none)/\M'=M:=by
 exact (snd130 d yd x vs o1 o3 nm M hd ht hL).mono fun r M' h=>⟨h.1.2 hin,h.2⟩
end
def tk131:Nat->Nat->Option Nat:=fun _ _=>none
def pl131:Nat->List PStep:=fun _=>[]
theorem cb131:Tryz.f131.body.map (codeB Tryz.prog Tryz.f131.ntmps tk131 pl131)=some true:=by kernel_rfl
theorem goes131:goesB Tryz.prog 131=true:=by kernel_rfl
theorem snd131 (d:Nat)(yd:ByteArray->Nat)(x:Mc)(vs:Value)(o1 o3:Bool)(nm:ByteArray)(M:Mem)(hd:M d=some (.cells (rmC yd x vs o1 o3)))(hW:Ws encSb 4 M vs (sbL x))(hL:(sbL x).length<=50):SoundCall Tryz.prog 131 [ptr d,str nm] M fun r M'=>r=int (subI x nm)/\M'=M:=by
 obtain⟨base,cp,rfl⟩:=hW.len;refine SoundCall.go tk131 pl131 mixed Tryz.func131 cb131 rfl (Nat.le_of_ble_eq_true rfl) ?_;refine Q18 ?_;refine s_seq ?_;refine Q109 ?_;refine s_loop (fun m S=>∃ T,∃ i:Nat,S=⟨setT (setT (setT T 0 (ptr d)) 1 (str nm)) 5 (int (i:Nat)),M⟩/\(∀ j,∀ h:j<(sbL x).length,j<i->(sbL x)[j].name≠nm)/\i<=(sbL x).length/\m=(sbL x).length - i) (sbL x).length ?_ ?_
 ·exact⟨_,0,St.mkT (kp (kp (kp rfl rfl) rfl) rfl).symm,fun j h hj=>absurd hj (Nat.not_lt_zero j),by omega,rfl⟩
 rintro m S ⟨T,i,rfl,hlow,hi,rfl⟩;refine Q4 ?_;refine Q62 fo136_1 ?_;refine Q140 ag134 sz134 ?_;refine Q138 und134 ?_;refine Q41 ?_;refine s_cond rfl (fun h1=>?_) (fun h1=>?_)
 ·have k1:=h1;try simp only [zs] at k1
  have hi2:i<(sbL x).length:=by simpa using h1
  obtain⟨B,kk,R,hbv,hR,hb⟩:=hW.get (by omega);cases hbv;refine Q55 ?_;refine Q95 fo136_1 ?_;refine Q140 ag134 sz134 ?_;refine Q1 ?_;refine Q150 und134 sz145 ?_;refine Q36 fo145_0 ?_;refine o_q (q_ldm ag9 sz9 rfl hb (piece_f1 uwSb.len (j:=i) (q:=0) hi2 (by decide) (by show 0+((i:Int)).toNat*4+0=_;omega) rfl) (v_raw rfl)) rfl rfl rfl ?_;refine Q1 ?_;refine Q193 ?_;refine o_nil ?_;refine s_cond rfl (fun h2=>?_) (fun h2=>?_)
  ·have k2:=h2;try simp only [zs] at k2
   refine Q7 ?_;refine Q101 ?_;refine Q151 ?_;refine Q77 ?_;exact⟨by rw [subI_at hi2 hlow (of_decide_eq_true h2)];rfl,rfl⟩
  ·have k2:=h2;try simp only [zs] at k2
   refine Q47 ?_;refine Q39 ?_;exact⟨(sbL x).length - (i+1),by omega,_,i+1,St.mkT (kp (kp (kp rfl rfl) rfl) rfl).symm,(fun j h hj=>by
    rcases Nat.lt_or_ge j i with g|g
    ·exact hlow j h g
    ·obtain rfl:j=i:=by omega
     exact of_decide_eq_false h2),by omega,rfl⟩
 ·have k1:=h1;try simp only [zs] at k1
  refine Q26 ?_;refine Q0 ?_;refine Q2 ?_;have hn1:¬ i<(sbL x).length:=fun h=>absurd h1 (by simpa using h)
  exact⟨by rw [subI_no fun j h=>hlow j h (by omega)];rfl,rfl⟩
end C17
