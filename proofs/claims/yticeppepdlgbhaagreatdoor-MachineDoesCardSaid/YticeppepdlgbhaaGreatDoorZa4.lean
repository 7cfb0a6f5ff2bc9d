import Derived.Test.YticeppepdlgbhaaGreatDoorHz
import Derived.Test.YticeppepdlgbhaaGreatDoorFl
import Derived.Test.YticeppepdlgbhaaGreatDoorProg
open Go Go.Proofs Go.Am Fl
set_option linter.unusedVariables false
set_option linter.unusedSimpArgs false
namespace C3
theorem ag3:aggT Tryz.prog 3=some false:=by kernel_rfl
theorem ag5:aggT Tryz.prog 5=some false:=by kernel_rfl
theorem ag60:aggT Tryz.prog 60=some true:=by kernel_rfl
theorem bz60:(zeroT Tryz.prog 60).map (fun z=>z.cells.toList.map AVal.raw)=some [.raw (.int .i64 0),.raw (.int .i64 0)]:=by kernel_rfl
theorem bp60:(aPlaces Tryz.prog 60).isSome=true:=by kernel_rfl
theorem cc2_3:(AVal.raw (.complex .f64 4611686018427387904 4613937818241073152))=cx 2 3:=by kernel_rfl
theorem fc0:(AVal.raw (.float .f64 0))=fl 0:=by kernel_rfl
theorem fc1:(AVal.raw (.float .f64 4607182418800017408))=fl 1:=by kernel_rfl
theorem fo60_0:fo Tryz.prog 60 0=some (0,1):=by kernel_rfl
theorem fo60_1:fo Tryz.prog 60 1=some (1,1):=by kernel_rfl
theorem s2b9_181:s2b Tryz.prog 9 181=true:=by kernel_rfl
theorem sz3:sizeT Tryz.prog 3=some 1:=by kernel_rfl
theorem sz5:sizeT Tryz.prog 5=some 1:=by kernel_rfl
theorem sz60:sizeT Tryz.prog 60=some 2:=by kernel_rfl
theorem und3:Tryz.prog.underlying 3=some (.int .i64):=by kernel_rfl
theorem und5:Tryz.prog.underlying 5=some (.int .u8):=by kernel_rfl
theorem und9:Tryz.prog.underlying 9=some .string:=by kernel_rfl
theorem und181:Tryz.prog.underlying 181=some (.slice 5):=by kernel_rfl
theorem und189:Tryz.prog.underlying 189=some (.float .f64):=by kernel_rfl
theorem zc60:zeroCellsT Tryz.prog 60=some [.raw (.int .i64 0),.raw (.int .i64 0)]:=by kernel_rfl
theorem mixed:Tryz.prog.follows .mixedOrders=true:=by kernel_rfl
structure Pr where
 re:Int
 im:Int
 deriving DecidableEq,Inhabited
def encP (a:Pr):AVal:=.agg [.raw (.int .i64 a.re),.raw (.int .i64 a.im)]
def ptr (b:Nat):AVal:=.raw (.pointer (some ⟨b,0,none⟩))
def int (n:Int):AVal:=.raw (.int .i64 n)
def right (a:Pr):Bool:=decide (0<=a.re) && decide (a.re<33554383) && decide (0<=a.im) && decide (a.im<33554383)
def md (a:Pr):Pr:=⟨a.re % 33554383,a.im % 33554383⟩
def mulZ (a b:Pr):Pr:=⟨a.re*b.re - a.im*b.im,a.re*b.im+a.im*b.re⟩
def addZ (a b:Pr):Pr:=⟨a.re+b.re,a.im+b.im⟩
def cxp (a:Pr):AVal:=cx a.re a.im
theorem right_spec {a:Pr}:right a=true↔0<=a.re/\a.re<33554383/\0<=a.im/\a.im<33554383:=by
 unfold right;simp [and_assoc]
theorem md_right (a:Pr):right (md a)=true:=right_spec.2 ⟨by show 0<=a.re % 33554383;omega,by show a.re % 33554383<33554383;omega,by show 0<=a.im % 33554383;omega,by show a.im % 33554383<33554383;omega⟩
def resP (r:Bool)(a:Pr):AVal:=.tup [encP (if r then a else ⟨0,0⟩),int (if r then 0 else 1)]
theorem low_of {u:Int}(h0:0<=u)(h1:u<33554383):Low u:=⟨h0,by omega⟩
def tk109:Nat->Nat->Option Nat:=fun _ _=>none
def pl109:Nat->List PStep:=fun _=>[]
theorem cb109:Tryz.f109.body.map (codeB Tryz.prog Tryz.f109.ntmps tk109 pl109)=some true:=by kernel_rfl
theorem goes109:goesB Tryz.prog 109=true:=by kernel_rfl
theorem snd109 (m:Pr)(M:Mem):SoundCall Tryz.prog 109 [encP m] M fun r M'=>r = .raw (.bool (right m))/\M.le M':=by
 refine SoundCall.go tk109 pl109 mixed Tryz.func109 cb109 rfl (Nat.le_of_ble_eq_true rfl) ?_;refine Q0 ?_;refine o_box zbx rfl rfl (fun B1 hB1=>?_);have m1:M B1=none:=zm hB1;refine Q8 ?_;refine Q0 ?_;refine Q36 fo60_0 ?_;refine o_q (q_ldm ag3 sz3 rfl (by repeat first|exact Mem.upd_self _ _ _|assumption|refine Mem.upd_ne (by assumption) ?_) rfl (v_raw rfl)) rfl rfl rfl ?_;refine Q24 ?_;refine Q1 ?_;refine o_cases (want:=true) (j:=3) rfl rfl (fun h1=>?_) (fun h1=>?_)
 ·have k1:=h1;try simp only [zs] at k1
  refine Q74 h1 fo60_0 h1 ?_;refine o_q (q_ldm ag3 sz3 rfl (by repeat first|exact Mem.upd_self _ _ _|assumption|refine Mem.upd_ne (by assumption) ?_) rfl (v_raw rfl)) rfl rfl rfl ?_;refine Q14 h1 ?_;refine Q59 ?_;refine Q19 h1 ?_;refine Q1 ?_;refine o_cases (want:=true) (j:=8) rfl rfl (fun h2=>?_) (fun h2=>?_)
  ·have k2:=h2;try simp only [zs] at k2
   refine Q74 h2 fo60_1 h2 ?_;refine o_q (q_ldm ag3 sz3 rfl (by repeat first|exact Mem.upd_self _ _ _|assumption|refine Mem.upd_ne (by assumption) ?_) rfl (v_raw rfl)) rfl rfl rfl ?_;refine Q14 h2 ?_;refine Q24 ?_;refine Q19 h2 ?_;refine Q1 ?_;refine o_cases (want:=true) (j:=13) rfl rfl (fun h3=>?_) (fun h3=>?_)
   ·have k3:=h3;try simp only [zs] at k3
    refine Q74 h3 fo60_1 h3 ?_;refine o_q (q_ldm ag3 sz3 rfl (by repeat first|exact Mem.upd_self _ _ _|assumption|refine Mem.upd_ne (by assumption) ?_) rfl (v_raw rfl)) rfl rfl rfl ?_;refine Q14 h3 ?_;refine Q59 ?_;refine Q19 h3 ?_;refine Q2 ?_;refine⟨?_,zle⟩;exact congrArg (fun b=>AVal.raw (.bool b)) (by simp_all [right]<;>(intros;omega))
   ·have k3:=h3;try simp only [zs] at k3
    refine Q53 h3 h3 ?_;refine Q120 h3 h3 ?_;refine Q2 ?_;refine⟨?_,zle⟩;exact congrArg (fun b=>AVal.raw (.bool b)) (by simp_all [right]<;>(intros;omega))
  ·have k2:=h2;try simp only [zs] at k2
   refine Q53 h2 h2 ?_;refine Q120 h2 h2 ?_;refine Q28 ?_;refine Q102 ?_;refine Q2 ?_;refine⟨?_,zle⟩;exact congrArg (fun b=>AVal.raw (.bool b)) (by simp_all [right]<;>(intros;omega))
 ·have k1:=h1;try simp only [zs] at k1
  refine Q53 h1 h1 ?_;refine Q120 h1 h1 ?_;refine Q28 ?_;refine Q102 ?_;refine Q28 ?_;refine Q102 ?_;refine Q2 ?_;refine⟨?_,zle⟩;exact congrArg (fun b=>AVal.raw (.bool b)) (by simp_all [right]<;>(intros;omega))
def tk110:Nat->Nat->Option Nat:=fun _ _=>none
def pl110:Nat->List PStep:=fun _=>[]
theorem cb110:Tryz.f110.body.map (codeB Tryz.prog Tryz.f110.ntmps tk110 pl110)=some true:=by kernel_rfl
theorem goes110:goesB Tryz.prog 110=true:=by kernel_rfl
theorem snd110 (a:Pr)(M:Mem):SoundCall Tryz.prog 110 [encP a] M fun r M'=>r=cxp a/\M.le M':=by
 refine SoundCall.go tk110 pl110 mixed Tryz.func110 cb110 rfl (Nat.le_of_ble_eq_true rfl) ?_;refine Q0 ?_;refine o_box zbx rfl rfl (fun B1 hB1=>?_);have m1:M B1=none:=zm hB1;refine Q8 ?_;refine Q0 ?_;refine Q36 fo60_0 ?_;refine o_q (q_ldm ag3 sz3 rfl (by repeat first|exact Mem.upd_self _ _ _|assumption|refine Mem.upd_ne (by assumption) ?_) rfl (v_raw rfl)) rfl rfl rfl ?_;refine o_q (q_i2f und3 und189 rfl) rfl rfl rfl ?_;refine Q36 fo60_1 ?_;refine o_q (q_ldm ag3 sz3 rfl (by repeat first|exact Mem.upd_self _ _ _|assumption|refine Mem.upd_ne (by assumption) ?_) rfl (v_raw rfl)) rfl rfl rfl ?_;refine o_q (q_i2f und3 und189 rfl) rfl rfl rfl ?_;refine o_q (q_complex rfl rfl) rfl rfl rfl ?_;refine Q2 ?_;exact⟨rfl,zle⟩
def tk172:Nat->Nat->Option Nat:=fun _ _=>none
def pl172:Nat->List PStep:=fun _=>[]
theorem cb172:Tryz.f172.body.map (codeB Tryz.prog Tryz.f172.ntmps tk172 pl172)=some true:=by kernel_rfl
theorem goes172:goesB Tryz.prog 172=true:=by kernel_rfl
theorem snd172 (n:Int)(M:Mem)(h:n.natAbs<2^52):SoundCall Tryz.prog 172 [fl n] M fun r M'=>r=int (n % 33554383)/\M.le M':=by
 have t1:n.tmod 33554383<33554383:=Int.tmod_lt_of_pos n (by decide);have t2 : -33554383<n.tmod 33554383:=by have:=Int.tmod_lt_of_pos (-n) (b:=33554383) (by decide);rw [Int.neg_tmod] at this;omega
 have t3:=Int.mul_tdiv_add_tmod n 33554383;refine SoundCall.go tk172 pl172 mixed Tryz.func172 cb172 rfl (Nat.le_of_ble_eq_true rfl) ?_;refine Q18 ?_;refine Q7 ?_;refine o_q (q_f2i und189 und3 rfl (by omega)) rfl rfl rfl ?_;refine o_q (q_rem rfl rfl (by decide)) rfl rfl rfl ?_;refine Q20 ?_;refine Q41 ?_;refine s_cond rfl (fun h1=>?_) (fun h1=>?_)
 ·have k1:=h1;try simp only [zs] at k1
  refine Q227 ?_;refine Q46 ?_;refine Q2 ?_;refine⟨congrArg int (?_:n.tmod 33554383+33554383=n % 33554383),zle⟩;omega
 ·have k1:=h1;try simp only [zs] at k1
  refine Q69 ?_;refine Q2 ?_;refine⟨congrArg int (?_:n.tmod 33554383=n % 33554383),zle⟩;omega
def tk112:Nat->Nat->Option Nat:=fun _ _=>none
def pl112:Nat->List PStep:=fun _=>[]
theorem cb112:Tryz.f112.body.map (codeB Tryz.prog Tryz.f112.ntmps tk112 pl112)=some true:=by kernel_rfl
theorem goes112:goesB Tryz.prog 112=true:=by kernel_rfl
theorem snd112 (z:Pr)(M:Mem)(h1:z.re.natAbs<2^52)(h2:z.im.natAbs<2^52):SoundCall Tryz.prog 112 [cxp z] M fun r M'=>r=encP (md z)/\M.le M':=by
 refine SoundCall.go tk112 pl112 mixed Tryz.func112 cb112 rfl (Nat.le_of_ble_eq_true rfl) ?_;refine Q0 ?_;refine o_alloc zc60 (fun B1 hB1=>?_);have m1:M B1=none:=zm hB1;refine o_nil ?_;refine Q7 ?_;refine o_q (q_real rfl) rfl rfl rfl ?_;refine o_call ((snd172 z.re _ h1).det) goes172 (ac (v_raw rfl) ac_nil) rfl ?_;refine Q1 ?_;refine o_q (q_imag rfl) rfl rfl rfl ?_;refine o_call ((snd172 z.im _ h2).det) goes172 (ac (v_raw rfl) ac_nil) rfl ?_;refine Q197 bz60 bp60 fo60_0 fo60_1 ?_;refine o_storew rfl (by repeat first|exact Mem.upd_self _ _ _|assumption|refine Mem.upd_ne (by assumption) ?_) (by first|exact e_agg rfl|rfl) rfl sz60 rfl rfl rfl rfl ?_;refine Q154 ?_;exact ret_one (.inl rfl) rfl (rl_c rfl (Mem.upd_self _ _ _) (loadP_w ag60 sz60 rfl rfl) rfl rl_nil) ⟨rfl,zle⟩
def tk111:Nat->Nat->Option Nat:=fun _ _=>none
def pl111:Nat->List PStep:=fun _=>[]
theorem cb111:Tryz.f111.body.map (codeB Tryz.prog Tryz.f111.ntmps tk111 pl111)=some true:=by kernel_rfl
theorem goes111:goesB Tryz.prog 111=true:=by kernel_rfl
theorem snd111 (z:Pr)(M:Mem)(h1:z.re.natAbs<2^52)(h2:z.im.natAbs<2^52):SoundCall Tryz.prog 111 [cxp z] M fun r M'=>r=cxp (md z)/\M.le M':=by
 refine SoundCall.go tk111 pl111 mixed Tryz.func111 cb111 rfl (Nat.le_of_ble_eq_true rfl) ?_;refine Q18 ?_;refine Q7 ?_;refine o_call ((snd112 z _ h1 h2).det) goes112 (ac (v_raw rfl) ac_nil) rfl ?_;refine o_call ((snd110 (md z) _).det) goes110 (ac (v_agg rfl) ac_nil) rfl ?_;refine Q2 ?_;exact⟨rfl,zle⟩
def tk66:Nat->Nat->Option Nat:=fun _ _=>none
def pl66:Nat->List PStep:=fun _=>[]
theorem cb66:Tryz.f66.body.map (codeB Tryz.prog Tryz.f66.ntmps tk66 pl66)=some true:=by kernel_rfl
theorem goes66:goesB Tryz.prog 66=true:=by kernel_rfl
theorem snd66 (M:Mem):SoundCall Tryz.prog 66 [] M fun r M'=>r=encP ⟨1,0⟩/\M.le M':=by
 refine SoundCall.go tk66 pl66 mixed Tryz.func66 cb66 rfl (Nat.le_of_ble_eq_true rfl) ?_;refine Q0 ?_;refine o_alloc zc60 (fun B1 hB1=>?_);have m1:M B1=none:=zm hB1;refine Q42 ?_;refine Q217 bz60 bp60 fo60_0 ?_;refine o_storew rfl (by repeat first|exact Mem.upd_self _ _ _|assumption|refine Mem.upd_ne (by assumption) ?_) (by first|exact e_agg rfl|rfl) rfl sz60 rfl rfl rfl rfl ?_;refine Q154 ?_;exact ret_one (.inl rfl) rfl (rl_c rfl (Mem.upd_self _ _ _) (loadP_w ag60 sz60 rfl rfl) rfl rl_nil) ⟨rfl,zle⟩
def tk67:Nat->Nat->Option Nat:=fun _ _=>none
def pl67:Nat->List PStep:=fun _=>[]
theorem cb67:Tryz.f67.body.map (codeB Tryz.prog Tryz.f67.ntmps tk67 pl67)=some true:=by kernel_rfl
theorem goes67:goesB Tryz.prog 67=true:=by kernel_rfl
def stepO (z:Pr)(c:Nat):Pr:=⟨(md z).re*2 - (md z).im*3+((c:Int)+1),(md z).re*3+(md z).im*2+0⟩
def beginO (d:Pr)(n:Nat):Pr:=⟨d.re*2 - d.im*3+(257+(n:Int)).tmod 33554383,d.re*3+d.im*2+0⟩
def onZ (d:Pr)(n:Nat)(bs:List UInt8):Pr:=bs.foldl (fun z c=>stepO z c.toNat) (beginO d n)
def onP (d:Pr)(s:ByteArray):Pr:=md (onZ d s.size s.data.toList)
def Sm (z:Pr):Prop:=z.re.natAbs<2^40/\z.im.natAbs<2^40
theorem stepO_sm (z:Pr){c:Nat}(h:c<256):Sm (stepO z c):=by
 have:=right_spec.1 (md_right z);unfold Sm stepO;dsimp only;omega
theorem beginO_sm {d:Pr}(n:Nat)(h:right d=true):Sm (beginO d n):=by
 have:=right_spec.1 h;have t1:(257+(n:Int)).tmod 33554383<33554383:=Int.tmod_lt_of_pos _ (by decide);have t2:0<=(257+(n:Int)).tmod 33554383:=Int.tmod_nonneg _ (by omega);unfold Sm beginO;dsimp only;omega
theorem onZ_sm {d:Pr}(n:Nat)(h:right d=true):∀ bs:List UInt8,Sm (onZ d n bs):=by
 have:∀ (bs:List UInt8) (z:Pr),Sm z->Sm (bs.foldl (fun z c=>stepO z c.toNat) z):=by
  intro bs
  induction bs with
  | nil=>exact fun z h=>h
  | cons c bs ih=>exact fun z h=>ih _ (stepO_sm z c.toNat_lt)
 exact fun bs=>this bs _ (beginO_sm n h)
theorem onZ_succ (d:Pr)(n:Nat)(bs:List UInt8){i:Nat}(h:i<bs.length):onZ d n (bs.take (i+1))=stepO (onZ d n (bs.take i)) bs[i].toNat:=by
 unfold onZ;rw [List.take_succ_eq_append_getElem h,List.foldl_append];rfl
theorem snd67 (d:Pr)(s:ByteArray)(M:Mem)(hs:s.size<2^62):SoundCall Tryz.prog 67 [encP d,.raw (.string s)] M fun r M'=>r=resP (right d) (onP d s)/\M.le M':=by
 refine SoundCall.go tk67 pl67 mixed Tryz.func67 cb67 rfl (Nat.le_of_ble_eq_true rfl) ?_;refine Q0 ?_;refine o_box zbx rfl rfl (fun B1 hB1=>?_);have m1:M B1=none:=zm hB1;refine o_alloc zc60 (fun B2 hB2=>?_);have f1_2:B1≠B2:=Mem.fresh_ne hB2 (by repeat first|exact Mem.upd_self _ _ _|assumption|refine Mem.upd_ne (by assumption) ?_);have g2_1:B2≠B1:=f1_2.symm;have m2:M B2=none:=zm hB2;refine Q123 ?_;refine Q0 ?_;refine o_q (q_ldmw ag60 sz60 rfl (by repeat first|exact Mem.upd_self _ _ _|assumption|refine Mem.upd_ne (by assumption) ?_) rfl rfl) rfl rfl rfl ?_;refine o_call ((snd109 d _).det) goes109 (ac (v_agg rfl) ac_nil) rfl ?_;refine Q107 ?_;refine s_cond rfl (fun h1=>?_) (fun h1=>?_)
 ·have k1:=h1;try simp only [zs] at k1
  refine Q0 ?_;refine o_q (q_b (cs:=[.raw (.int .i64 0),.raw (.int .i64 0)]) bz60 bp60 bf_nil) rfl rfl rfl ?_;refine o_storew rfl (by repeat first|exact Mem.upd_self _ _ _|assumption|refine Mem.upd_ne (by assumption) ?_) (by first|exact e_agg rfl|rfl) rfl sz60 rfl rfl rfl rfl ?_;refine Q10 ?_;exact ret_many (.inl rfl) rfl (rl_c rfl (by repeat first|exact Mem.upd_self _ _ _|assumption|refine Mem.upd_ne (by assumption) ?_) (loadP_w ag60 sz60 rfl rfl) rfl (rl_t rfl rl_nil)) rfl ⟨by rw [show right d=false by simp_all];rfl,zle⟩
 ·have k1:=h1;try simp only [zs] at k1
  have hd:right d=true:=by simpa using h1
  have rd:=right_spec.1 hd;have w1:Low d.re:=low_of rd.1 rd.2.1;have w2:Low d.im:=low_of rd.2.2.1 rd.2.2.2;have t1:(257+(s.size:Int)).tmod 33554383<33554383:=Int.tmod_lt_of_pos _ (by decide);have t2:0<=(257+(s.size:Int)).tmod 33554383:=Int.tmod_nonneg _ (by omega);refine Q142 ?_;refine o_q (q_ldmw ag60 sz60 rfl (by repeat first|exact Mem.upd_self _ _ _|assumption|refine Mem.upd_ne (by assumption) ?_) rfl rfl) rfl rfl rfl ?_;refine o_call ((snd110 d _).det) goes110 (ac (v_agg rfl) ac_nil) rfl ?_;refine Q277 ?_;refine Q1 ?_;refine Q78 und9 ?_;refine Q43 ?_;refine o_q (q_rem rfl rfl (by decide)) rfl rfl rfl ?_;refine o_q (q_i2f und3 und189 rfl) rfl rfl rfl ?_;refine o_q (q_complex rfl fc0) rfl rfl rfl ?_;refine o_q (q_cadd rfl rfl (by omega) (by omega)) rfl rfl rfl ?_;refine Q20 ?_;refine o_s2b s2b9_181 rfl (fun B3 C3 hB3 hC3=>?_);have f1_3:B1≠B3:=Mem.fresh_ne hB3 (by repeat first|exact Mem.upd_self _ _ _|assumption|refine Mem.upd_ne (by assumption) ?_);have g3_1:B3≠B1:=f1_3.symm;have f2_3:B2≠B3:=Mem.fresh_ne hB3 (by repeat first|exact Mem.upd_self _ _ _|assumption|refine Mem.upd_ne (by assumption) ?_);have g3_2:B3≠B2:=f2_3.symm;have m3:M B3=none:=zm hB3;refine Q138 und181 ?_;refine Q1 ?_;refine Q68 ?_;refine s_loop (fun m S=>∃ T,∃ M':Mem,∃ i:Nat,S=⟨setT (setT (setT (setT (setT (setT T 6 (cxp (onZ d s.size (s.data.toList.take i)))) 24 (.raw (.slice (some ⟨B3,0,none⟩) s.size C3))) 25 (int s.size)) 26 (int i)) 2 (ptr B1)) 4 (ptr B2),M'⟩/\M.le M'/\(M' B2=some (.cells [int 0,int 0])/\M' B3=some (.cells (u8l s++List.replicate (C3 - s.size) (.raw (.int .u8 0)))))/\i<=s.size/\m=s.size - i) s.size ?_ ?_
  ·exact⟨_,_,0,St.mkT (kp (kp (kp (kp (kp (kp rfl rfl) rfl) rfl) rfl) rfl) rfl).symm,zle,⟨(by repeat first|exact Mem.upd_self _ _ _|assumption|refine Mem.upd_ne (by assumption) ?_),(by repeat first|exact Mem.upd_self _ _ _|assumption|refine Mem.upd_ne (by assumption) ?_)⟩,by omega,rfl⟩
  rintro m S ⟨T,M',i,rfl,hle,⟨bm2,bm3⟩,hi,rfl⟩;have hsm:=onZ_sm s.size hd (s.data.toList.take i);have hsl:s.data.toList.length=s.size:=Array.length_toList;have rz:=right_spec.1 (md_right (onZ d s.size (s.data.toList.take i)));have w3:=low_of rz.1 rz.2.1;have w4:=low_of rz.2.2.1 rz.2.2.2;refine Q0 ?_;refine Q59 ?_;refine Q11 ?_;refine s_cond rfl (fun h2=>?_) (fun h2=>?_)
  ·have k2:=h2;try simp only [zs] at k2
   have hc8:(s.data[i]'(by have h:i<s.size:=(by omega);exact h)).toNat<256:=UInt8.toNat_lt _;refine Q55 ?_;refine Q0 ?_;refine Q150 und181 sz5 ?_;refine o_q (q_ldm ag5 sz5 rfl (by repeat first|exact Mem.upd_self _ _ _|assumption|refine Mem.upd_ne (by assumption) ?_) (by simpa [piece] using u8l_get (s:=s) (j:=i) (by omega)) (v_raw rfl)) rfl rfl rfl ?_;refine Q8 ?_;refine Q130 ?_;refine o_call ((snd111 (onZ d s.size (s.data.toList.take i)) _ (by have:=hsm.1;omega) (by have:=hsm.2;omega)).det) goes111 (ac (v_raw rfl) ac_nil) rfl ?_;refine Q277 ?_;refine Q1 ?_;refine o_q (q_i2f und5 und189 rfl) rfl rfl rfl ?_;refine o_q (q_fadd rfl fc1 (by omega)) rfl rfl rfl ?_;refine o_q (q_complex rfl fc0) rfl rfl rfl ?_;refine o_q (q_cadd rfl rfl (by omega) (by omega)) rfl rfl rfl ?_;refine Q94 ?_;refine Q15 ?_;refine Q43 ?_;refine Q1 ?_;refine Q114 ?_;exact⟨s.size - (i+1),by omega,_,_,i+1,St.mkT (kp (kp (kp (kp (kp (kp rfl (show _=cxp (onZ d s.size (s.data.toList.take (i+1))) by rw [onZ_succ d s.size s.data.toList (by omega)];rfl)) rfl) rfl) rfl) rfl) rfl).symm,zle,⟨(by repeat first|exact Mem.upd_self _ _ _|assumption|refine Mem.upd_ne (by assumption) ?_),(by repeat first|exact Mem.upd_self _ _ _|assumption|refine Mem.upd_ne (by assumption) ?_)⟩,by omega,rfl⟩
  ·have k2:=h2;try simp only [zs] at k2
   refine Q26 ?_;refine Q7 ?_;refine o_call ((snd112 (onZ d s.size (s.data.toList.take i)) _ (by have:=hsm.1;omega) (by have:=hsm.2;omega)).det) goes112 (ac (v_raw rfl) ac_nil) rfl ?_;refine o_storew rfl (by repeat first|exact Mem.upd_self _ _ _|assumption|refine Mem.upd_ne (by assumption) ?_) (by first|exact e_agg rfl|rfl) rfl sz60 rfl rfl rfl rfl ?_;refine Q2 ?_;obtain rfl:i=s.size:=by omega
   exact ret_many (.inl rfl) rfl (rl_c rfl (by repeat first|exact Mem.upd_self _ _ _|assumption|refine Mem.upd_ne (by assumption) ?_) (loadP_w ag60 sz60 rfl rfl) rfl (rl_t rfl rl_nil)) rfl ⟨by rw [hd];unfold resP onP;rw [← hsl,List.take_length];rfl,zle⟩
end C3
