import Derived.Test.YthmhdhmfkegpiaaGreatDoorHz
import Derived.Test.YthmhdhmfkegpiaaGreatDoorFl
import Derived.Test.YthmhdhmfkegpiaaGreatDoorProg
open Go Go.Proofs Go.Am Fl
set_option linter.unusedVariables false
set_option linter.unusedSimpArgs false
namespace C3
theorem ag3:aggT Tryz.prog 3=some false:=by kernel_rfl
theorem ag5:aggT Tryz.prog 5=some false:=by kernel_rfl
theorem ag87:aggT Tryz.prog 87=some true:=by kernel_rfl
theorem bz87:(zeroT Tryz.prog 87).map (fun z=>z.cells.toList.map AVal.raw)=some [.raw (.int .i64 0),.raw (.int .i64 0)]:=by kernel_rfl
theorem bp87:(aPlaces Tryz.prog 87).isSome=true:=by kernel_rfl
theorem cc2_3:(AVal.raw (.complex .f64 4611686018427387904 4613937818241073152))=cx 2 3:=by kernel_rfl
theorem fc0:(AVal.raw (.float .f64 0))=fl 0:=by kernel_rfl
theorem fc1:(AVal.raw (.float .f64 4607182418800017408))=fl 1:=by kernel_rfl
theorem fo87_0:fo Tryz.prog 87 0=some (0,1):=by kernel_rfl
theorem fo87_1:fo Tryz.prog 87 1=some (1,1):=by kernel_rfl
theorem s2b9_178:s2b Tryz.prog 9 178=true:=by kernel_rfl
theorem sz3:sizeT Tryz.prog 3=some 1:=by kernel_rfl
theorem sz5:sizeT Tryz.prog 5=some 1:=by kernel_rfl
theorem sz87:sizeT Tryz.prog 87=some 2:=by kernel_rfl
theorem und3:Tryz.prog.underlying 3=some (.int .i64):=by kernel_rfl
theorem und5:Tryz.prog.underlying 5=some (.int .u8):=by kernel_rfl
theorem und9:Tryz.prog.underlying 9=some .string:=by kernel_rfl
theorem und178:Tryz.prog.underlying 178=some (.slice 5):=by kernel_rfl
theorem und295:Tryz.prog.underlying 295=some (.float .f64):=by kernel_rfl
theorem zc87:zeroCellsT Tryz.prog 87=some [.raw (.int .i64 0),.raw (.int .i64 0)]:=by kernel_rfl
theorem mixed:Tryz.prog.follows .mixedOrders=true:=by kernel_rfl
structure Pr where
 re:Int
 im:Int
 deriving DecidableEq,Inhabited
def encP (a:Pr):AVal:=.agg [.raw (.int .i64 a.re),.raw (.int .i64 a.im)]
def ptr (b:Nat):AVal:=.raw (.pointer (some ⟨b,0,none⟩))
def int (n:Int):AVal:=.raw (.int .i64 n)
def right (a:Pr):Bool:=decide (0<=a.re) && decide (a.re<33554383) && decide (0<=a.im) && decide (a.im<33554383)
def md (a:Pr):Pr:=⟨a.re % 33554383,a.im % 33554383⟩
def cxp (a:Pr):AVal:=cx a.re a.im
theorem right_spec {a:Pr}:right a=true↔0<=a.re/\a.re<33554383/\0<=a.im/\a.im<33554383:=by
 unfold right;simp [and_assoc]
theorem md_right (a:Pr):right (md a)=true:=right_spec.2 ⟨by show 0<=a.re % 33554383;omega,by show a.re % 33554383<33554383;omega,by show 0<=a.im % 33554383;omega,by show a.im % 33554383<33554383;omega⟩
def resP (r:Bool)(a:Pr):AVal:=.tup [encP (if r then a else ⟨0,0⟩),int (if r then 0 else 1)]
theorem low_of {u:Int}(h0:0<=u)(h1:u<33554383):Low u:=⟨h0,by omega⟩
def tk238:Nat->Nat->Option Nat:=fun _ _=>none
def pl238:Nat->List PStep:=fun _=>[]
theorem cb238:Tryz.f238.body.map (codeB Tryz.prog Tryz.f238.ntmps tk238 pl238)=some true:=by kernel_rfl
theorem goes238:goesB Tryz.prog 238=true:=by kernel_rfl
theorem snd238 (m:Pr)(M:Mem):SoundCall Tryz.prog 238 [encP m] M fun r M'=>r = .raw (.bool (right m))/\M.le M':=by
 refine SoundCall.go tk238 pl238 mixed Tryz.func238 cb238 rfl (Nat.le_of_ble_eq_true rfl) ?_;refine Q0 ?_;refine o_box zbx rfl rfl (fun B1 hB1=>?_);have m1:M B1=none:=zm hB1;refine Q138 ?_;refine Q29 fo87_0 ?_;refine o_q (q_ldm ag3 sz3 rfl (by repeat first|exact Mem.upd_self _ _ _|assumption|refine Mem.upd_ne (by assumption) ?_) rfl (v_raw rfl)) rfl rfl rfl ?_;refine Q23 ?_;refine Q2 ?_;refine o_cases (want:=true) (j:=3) rfl rfl (fun h1=>?_) (fun h1=>?_)
 ·have k1:=h1;try simp only [zs] at k1
  refine Q110 h1 fo87_0 h1 ?_;refine o_q (q_ldm ag3 sz3 rfl (by repeat first|exact Mem.upd_self _ _ _|assumption|refine Mem.upd_ne (by assumption) ?_) rfl (v_raw rfl)) rfl rfl rfl ?_;refine Q16 h1 ?_;refine Q109 ?_;refine Q32 h1 ?_;refine Q2 ?_;refine o_cases (want:=true) (j:=8) rfl rfl (fun h2=>?_) (fun h2=>?_)
  ·have k2:=h2;try simp only [zs] at k2
   refine Q110 h2 fo87_1 h2 ?_;refine o_q (q_ldm ag3 sz3 rfl (by repeat first|exact Mem.upd_self _ _ _|assumption|refine Mem.upd_ne (by assumption) ?_) rfl (v_raw rfl)) rfl rfl rfl ?_;refine Q16 h2 ?_;refine Q23 ?_;refine Q32 h2 ?_;refine Q2 ?_;refine o_cases (want:=true) (j:=13) rfl rfl (fun h3=>?_) (fun h3=>?_)
   ·have k3:=h3;try simp only [zs] at k3
    refine Q110 h3 fo87_1 h3 ?_;refine o_q (q_ldm ag3 sz3 rfl (by repeat first|exact Mem.upd_self _ _ _|assumption|refine Mem.upd_ne (by assumption) ?_) rfl (v_raw rfl)) rfl rfl rfl ?_;refine Q16 h3 ?_;refine Q109 ?_;refine Q32 h3 ?_;refine Q4 ?_;refine⟨?_,zle⟩;exact congrArg (fun b=>AVal.raw (.bool b)) (by simp_all [right]<;>(intros;omega))
   ·have k3:=h3;try simp only [zs] at k3
    refine Q106 h3 h3 h3 ?_;refine Q30 h3 ?_;refine Q4 ?_;refine⟨?_,zle⟩;exact congrArg (fun b=>AVal.raw (.bool b)) (by simp_all [right]<;>(intros;omega))
  ·have k2:=h2;try simp only [zs] at k2
   refine Q106 h2 h2 h2 ?_;refine Q30 h2 ?_;refine Q99 ?_;refine Q21 ?_;refine Q4 ?_;refine⟨?_,zle⟩;exact congrArg (fun b=>AVal.raw (.bool b)) (by simp_all [right]<;>(intros;omega))
 ·have k1:=h1;try simp only [zs] at k1
  refine Q106 h1 h1 h1 ?_;refine Q30 h1 ?_;refine Q99 ?_;refine Q21 ?_;refine Q99 ?_;refine Q21 ?_;refine Q4 ?_;refine⟨?_,zle⟩;exact congrArg (fun b=>AVal.raw (.bool b)) (by simp_all [right]<;>(intros;omega))
def tk239:Nat->Nat->Option Nat:=fun _ _=>none
def pl239:Nat->List PStep:=fun _=>[]
theorem cb239:Tryz.f239.body.map (codeB Tryz.prog Tryz.f239.ntmps tk239 pl239)=some true:=by kernel_rfl
theorem goes239:goesB Tryz.prog 239=true:=by kernel_rfl
theorem snd239 (a:Pr)(M:Mem):SoundCall Tryz.prog 239 [encP a] M fun r M'=>r=cxp a/\M.le M':=by
 refine SoundCall.go tk239 pl239 mixed Tryz.func239 cb239 rfl (Nat.le_of_ble_eq_true rfl) ?_;refine Q0 ?_;refine o_box zbx rfl rfl (fun B1 hB1=>?_);have m1:M B1=none:=zm hB1;refine Q138 ?_;refine Q29 fo87_0 ?_;refine o_q (q_ldm ag3 sz3 rfl (by repeat first|exact Mem.upd_self _ _ _|assumption|refine Mem.upd_ne (by assumption) ?_) rfl (v_raw rfl)) rfl rfl rfl ?_;refine o_q (q_i2f und3 und295 rfl) rfl rfl rfl ?_;refine Q29 fo87_1 ?_;refine o_q (q_ldm ag3 sz3 rfl (by repeat first|exact Mem.upd_self _ _ _|assumption|refine Mem.upd_ne (by assumption) ?_) rfl (v_raw rfl)) rfl rfl rfl ?_;refine o_q (q_i2f und3 und295 rfl) rfl rfl rfl ?_;refine o_q (q_complex rfl rfl) rfl rfl rfl ?_;refine Q4 ?_;exact⟨rfl,zle⟩
def tk289:Nat->Nat->Option Nat:=fun _ _=>none
def pl289:Nat->List PStep:=fun _=>[]
theorem cb289:Tryz.f289.body.map (codeB Tryz.prog Tryz.f289.ntmps tk289 pl289)=some true:=by kernel_rfl
theorem goes289:goesB Tryz.prog 289=true:=by kernel_rfl
theorem snd289 (n:Int)(M:Mem)(h:n.natAbs<2^52):SoundCall Tryz.prog 289 [fl n] M fun r M'=>r=int (n % 33554383)/\M.le M':=by
 have t1:n.tmod 33554383<33554383:=Int.tmod_lt_of_pos n (by decide);have t2 : -33554383<n.tmod 33554383:=by have:=Int.tmod_lt_of_pos (-n) (b:=33554383) (by decide);rw [Int.neg_tmod] at this;omega
 have t3:=Int.mul_tdiv_add_tmod n 33554383;refine SoundCall.go tk289 pl289 mixed Tryz.func289 cb289 rfl (Nat.le_of_ble_eq_true rfl) ?_;refine Q15 ?_;refine Q5 ?_;refine o_q (q_f2i und295 und3 rfl (by omega)) rfl rfl rfl ?_;refine o_q (q_rem rfl rfl (by decide)) rfl rfl rfl ?_;refine Q40 ?_;refine Q84 ?_;refine s_cond rfl (fun h1=>?_) (fun h1=>?_)
 ·have k1:=h1;try simp only [zs] at k1
  refine Q19 ?_;refine Q190 ?_;refine Q51 ?_;refine Q4 ?_;refine⟨congrArg int (?_:n.tmod 33554383+33554383=n % 33554383),zle⟩;omega
 ·have k1:=h1;try simp only [zs] at k1
  refine Q71 ?_;refine Q4 ?_;refine⟨congrArg int (?_:n.tmod 33554383=n % 33554383),zle⟩;omega
def tk241:Nat->Nat->Option Nat:=fun _ _=>none
def pl241:Nat->List PStep:=fun _=>[]
theorem cb241:Tryz.f241.body.map (codeB Tryz.prog Tryz.f241.ntmps tk241 pl241)=some true:=by kernel_rfl
theorem goes241:goesB Tryz.prog 241=true:=by kernel_rfl
theorem snd241 (z:Pr)(M:Mem)(h1:z.re.natAbs<2^52)(h2:z.im.natAbs<2^52):SoundCall Tryz.prog 241 [cxp z] M fun r M'=>r=encP (md z)/\M.le M':=by
 refine SoundCall.go tk241 pl241 mixed Tryz.func241 cb241 rfl (Nat.le_of_ble_eq_true rfl) ?_;refine Q0 ?_;refine o_alloc zc87 (fun B1 hB1=>?_);have m1:M B1=none:=zm hB1;refine Q1 ?_;refine Q5 ?_;refine o_q (q_real rfl) rfl rfl rfl ?_;refine o_call ((snd289 z.re _ h1).det) goes289 (ac (v_raw rfl) ac_nil) rfl ?_;refine Q2 ?_;refine o_q (q_imag rfl) rfl rfl rfl ?_;refine o_call ((snd289 z.im _ h2).det) goes289 (ac (v_raw rfl) ac_nil) rfl ?_;refine Q179 bz87 bp87 fo87_0 fo87_1 ?_;refine o_storew rfl (by repeat first|exact Mem.upd_self _ _ _|assumption|refine Mem.upd_ne (by assumption) ?_) (by first|exact e_agg rfl|rfl) rfl sz87 rfl rfl rfl rfl ?_;refine Q103 ?_;exact ret_one (.inl rfl) rfl (rl_c rfl (Mem.upd_self _ _ _) (loadP_w ag87 sz87 rfl rfl) rfl rl_nil) ⟨rfl,zle⟩
def tk240:Nat->Nat->Option Nat:=fun _ _=>none
def pl240:Nat->List PStep:=fun _=>[]
theorem cb240:Tryz.f240.body.map (codeB Tryz.prog Tryz.f240.ntmps tk240 pl240)=some true:=by kernel_rfl
theorem goes240:goesB Tryz.prog 240=true:=by kernel_rfl
theorem snd240 (z:Pr)(M:Mem)(h1:z.re.natAbs<2^52)(h2:z.im.natAbs<2^52):SoundCall Tryz.prog 240 [cxp z] M fun r M'=>r=cxp (md z)/\M.le M':=by
 refine SoundCall.go tk240 pl240 mixed Tryz.func240 cb240 rfl (Nat.le_of_ble_eq_true rfl) ?_;refine Q15 ?_;refine Q5 ?_;refine o_call ((snd241 z _ h1 h2).det) goes241 (ac (v_raw rfl) ac_nil) rfl ?_;refine o_call ((snd239 (md z) _).det) goes239 (ac (v_agg rfl) ac_nil) rfl ?_;refine Q4 ?_;exact⟨rfl,zle⟩
def tk113:Nat->Nat->Option Nat:=fun _ _=>none
def pl113:Nat->List PStep:=fun _=>[]
theorem cb113:Tryz.f113.body.map (codeB Tryz.prog Tryz.f113.ntmps tk113 pl113)=some true:=by kernel_rfl
theorem goes113:goesB Tryz.prog 113=true:=by kernel_rfl
theorem snd113 (M:Mem):SoundCall Tryz.prog 113 [] M fun r M'=>r=encP ⟨1,0⟩/\M.le M':=by
 refine SoundCall.go tk113 pl113 mixed Tryz.func113 cb113 rfl (Nat.le_of_ble_eq_true rfl) ?_;refine Q0 ?_;refine o_alloc zc87 (fun B1 hB1=>?_);have m1:M B1=none:=zm hB1;refine Q1 ?_;refine Q0 ?_;refine Q268 bz87 bp87 fo87_0 ?_;refine o_storew rfl (by repeat first|exact Mem.upd_self _ _ _|assumption|refine Mem.upd_ne (by assumption) ?_) (by first|exact e_agg rfl|rfl) rfl sz87 rfl rfl rfl rfl ?_;refine Q103 ?_;exact ret_one (.inl rfl) rfl (rl_c rfl (Mem.upd_self _ _ _) (loadP_w ag87 sz87 rfl rfl) rfl rl_nil) ⟨rfl,zle⟩
def tk182:Nat->Nat->Option Nat:=fun _ _=>none
def pl182:Nat->List PStep:=fun _=>[]
theorem cb182:Tryz.f182.body.map (codeB Tryz.prog Tryz.f182.ntmps tk182 pl182)=some true:=by kernel_rfl
theorem goes182:goesB Tryz.prog 182=true:=by kernel_rfl
def stepO (z:Pr)(c:Nat):Pr:=⟨(md z).re*2 - (md z).im*3+((c:Int)+1),(md z).re*3+(md z).im*2+0⟩
def beginO (d:Pr)(n:Nat):Pr:=⟨d.re*2 - d.im*3+(257+(n:Int)).tmod 33554383,d.re*3+d.im*2+0⟩
def onZ (d:Pr)(n:Nat)(bs:List UInt8):Pr:=bs.foldl (fun z c=>stepO z c.toNat) (beginO d n)
def onP (d:Pr)(s:ByteArray):Pr:=md (onZ d s.size s.data.toList)
def Sm (z:Pr):Prop:=z.re.natAbs<2^40/\z.im.natAbs<2^40
theorem stepO_sm (z:Pr){c:Nat}(h:c<256):Sm (stepO z c):=by
 have:=right_spec.1 (md_right z);unfold Sm stepO;dsimp only;omega
theorem beginO_sm {d:Pr}(n:Nat)(h:right d=true):Sm (beginO d n):=by
 have:=right_spec.1 h;have t1:(257+(n:Int)).tmod 33554383<33554383:=Int.tmod_lt_of_pos _ (by decide);have t2:0<=(257+(n:Int)).tmod 33554383:=Int.tmod_nonneg _ (by omega);unfold Sm beginO;dsimp only;omega
theorem onZ_sm {d:Pr}(n:Nat)(h:right d=true):∀ bs:List UInt8,Sm (onZ d n bs):=by
 have:∀ (bs:List UInt8) (z:Pr),Sm z->Sm (bs.foldl (fun z c=>stepO z c.toNat) z):=by
  intro bs
  induction bs with
  | nil=>exact fun z h=>h
  | cons c bs ih=>exact fun z h=>ih _ (stepO_sm z c.toNat_lt)
 exact fun bs=>this bs _ (beginO_sm n h)
theorem onZ_succ (d:Pr)(n:Nat)(bs:List UInt8){i:Nat}(h:i<bs.length):onZ d n (bs.take (i+1))=stepO (onZ d n (bs.take i)) bs[i].toNat:=by
 unfold onZ;rw [List.take_succ_eq_append_getElem h,List.foldl_append];rfl
theorem snd182 (d:Pr)(s:ByteArray)(M:Mem)(hs:s.size<2^62):SoundCall Tryz.prog 182 [encP d,.raw (.string s)] M fun r M'=>r=resP (right d) (onP d s)/\M.le M':=by
 refine SoundCall.go tk182 pl182 mixed Tryz.func182 cb182 rfl (Nat.le_of_ble_eq_true rfl) ?_;refine Q0 ?_;refine o_box zbx rfl rfl (fun B1 hB1=>?_);have m1:M B1=none:=zm hB1;refine o_alloc zc87 (fun B2 hB2=>?_);have f1_2:B1≠B2:=Mem.fresh_ne hB2 (by repeat first|exact Mem.upd_self _ _ _|assumption|refine Mem.upd_ne (by assumption) ?_);have g2_1:B2≠B1:=f1_2.symm;have m2:M B2=none:=zm hB2;refine Q127 ?_;refine o_q (q_ldmw ag87 sz87 rfl (by repeat first|exact Mem.upd_self _ _ _|assumption|refine Mem.upd_ne (by assumption) ?_) rfl rfl) rfl rfl rfl ?_;refine o_call ((snd238 d _).det) goes238 (ac (v_agg rfl) ac_nil) rfl ?_;refine Q59 ?_;refine s_cond rfl (fun h1=>?_) (fun h1=>?_)
 ·have k1:=h1;try simp only [zs] at k1
  refine Q0 ?_;refine Q252 bz87 bp87 ?_;refine o_storew rfl (by repeat first|exact Mem.upd_self _ _ _|assumption|refine Mem.upd_ne (by assumption) ?_) (by first|exact e_agg rfl|rfl) rfl sz87 rfl rfl rfl rfl ?_;refine Q11 ?_;exact ret_many (.inl rfl) rfl (rl_c rfl (by repeat first|exact Mem.upd_self _ _ _|assumption|refine Mem.upd_ne (by assumption) ?_) (loadP_w ag87 sz87 rfl rfl) rfl (rl_t rfl rl_nil)) rfl ⟨by rw [show right d=false by simp_all];rfl,zle⟩
 ·have k1:=h1;try simp only [zs] at k1
  have hd:right d=true:=by simpa using h1
  have rd:=right_spec.1 hd;have w1:Low d.re:=low_of rd.1 rd.2.1;have w2:Low d.im:=low_of rd.2.2.1 rd.2.2.2;have t1:(257+(s.size:Int)).tmod 33554383<33554383:=Int.tmod_lt_of_pos _ (by decide);have t2:0<=(257+(s.size:Int)).tmod 33554383:=Int.tmod_nonneg _ (by omega);refine Q92 ?_;refine o_q (q_ldmw ag87 sz87 rfl (by repeat first|exact Mem.upd_self _ _ _|assumption|refine Mem.upd_ne (by assumption) ?_) rfl rfl) rfl rfl rfl ?_;refine o_call ((snd239 d _).det) goes239 (ac (v_agg rfl) ac_nil) rfl ?_;refine Q270 ?_;refine Q2 ?_;refine Q61 und9 ?_;refine Q113 ?_;refine o_q (q_rem rfl rfl (by decide)) rfl rfl rfl ?_;refine o_q (q_i2f und3 und295 rfl) rfl rfl rfl ?_;refine o_q (q_complex rfl fc0) rfl rfl rfl ?_;refine o_q (q_cadd rfl rfl (by omega) (by omega)) rfl rfl rfl ?_;refine Q40 ?_;refine o_s2b s2b9_178 rfl (fun B3 C3 hB3 hC3=>?_);have f1_3:B1≠B3:=Mem.fresh_ne hB3 (by repeat first|exact Mem.upd_self _ _ _|assumption|refine Mem.upd_ne (by assumption) ?_);have g3_1:B3≠B1:=f1_3.symm;have f2_3:B2≠B3:=Mem.fresh_ne hB3 (by repeat first|exact Mem.upd_self _ _ _|assumption|refine Mem.upd_ne (by assumption) ?_);have g3_2:B3≠B2:=f2_3.symm;have m3:M B3=none:=zm hB3;refine o_q (q_lenr rfl und178 rfl) rfl rfl rfl ?_;refine Q52 ?_;refine s_loop (fun m S=>∃ T,∃ M':Mem,∃ i:Nat,S=⟨setT (setT (setT (setT (setT (setT T 6 (cxp (onZ d s.size (s.data.toList.take i)))) 24 (.raw (.slice (some ⟨B3,0,none⟩) s.size C3))) 25 (int s.size)) 26 (int i)) 2 (ptr B1)) 4 (ptr B2),M'⟩/\M.le M'/\(M' B2=some (.cells [int 0,int 0])/\M' B3=some (.cells (u8l s++List.replicate (C3 - s.size) (.raw (.int .u8 0)))))/\i<=s.size/\m=s.size - i) s.size ?_ ?_
  ·exact⟨_,_,0,St.mkT (kp (kp (kp (kp (kp (kp rfl rfl) rfl) rfl) rfl) rfl) rfl).symm,zle,⟨(by repeat first|exact Mem.upd_self _ _ _|assumption|refine Mem.upd_ne (by assumption) ?_),(by repeat first|exact Mem.upd_self _ _ _|assumption|refine Mem.upd_ne (by assumption) ?_)⟩,by omega,rfl⟩
  rintro m S ⟨T,M',i,rfl,hle,⟨bm2,bm3⟩,hi,rfl⟩;have hsm:=onZ_sm s.size hd (s.data.toList.take i);have hsl:s.data.toList.length=s.size:=Array.length_toList;have rz:=right_spec.1 (md_right (onZ d s.size (s.data.toList.take i)));have w3:=low_of rz.1 rz.2.1;have w4:=low_of rz.2.2.1 rz.2.2.2;refine Q50 ?_;refine s_cond rfl (fun h2=>?_) (fun h2=>?_)
  ·have k2:=h2;try simp only [zs] at k2
   have hc8:(s.data[i]'(by have h:i<s.size:=(by omega);exact h)).toNat<256:=UInt8.toNat_lt _;refine Q86 ?_;refine Q224 und178 sz5 ?_;refine o_q (q_ldm ag5 sz5 rfl (by repeat first|exact Mem.upd_self _ _ _|assumption|refine Mem.upd_ne (by assumption) ?_) (by simpa [piece] using u8l_get (s:=s) (j:=i) (by omega)) (v_raw rfl)) rfl rfl rfl ?_;refine Q7 ?_;refine Q144 ?_;refine o_call ((snd240 (onZ d s.size (s.data.toList.take i)) _ (by have:=hsm.1;omega) (by have:=hsm.2;omega)).det) goes240 (ac (v_raw rfl) ac_nil) rfl ?_;refine Q270 ?_;refine Q2 ?_;refine o_q (q_i2f und5 und295 rfl) rfl rfl rfl ?_;refine o_q (q_fadd rfl fc1 (by omega)) rfl rfl rfl ?_;refine o_q (q_complex rfl fc0) rfl rfl rfl ?_;refine o_q (q_cadd rfl rfl (by omega) (by omega)) rfl rfl rfl ?_;refine Q7 ?_;refine Q36 ?_;exact⟨s.size - (i+1),by omega,_,_,i+1,St.mkT (kp (kp (kp (kp (kp (kp rfl (show _=cxp (onZ d s.size (s.data.toList.take (i+1))) by rw [onZ_succ d s.size s.data.toList (by omega)];rfl)) rfl) rfl) rfl) rfl) rfl).symm,zle,⟨(by repeat first|exact Mem.upd_self _ _ _|assumption|refine Mem.upd_ne (by assumption) ?_),(by repeat first|exact Mem.upd_self _ _ _|assumption|refine Mem.upd_ne (by assumption) ?_)⟩,by omega,rfl⟩
  ·have k2:=h2;try simp only [zs] at k2
   refine Q35 ?_;refine Q5 ?_;refine o_call ((snd241 (onZ d s.size (s.data.toList.take i)) _ (by have:=hsm.1;omega) (by have:=hsm.2;omega)).det) goes241 (ac (v_raw rfl) ac_nil) rfl ?_;refine o_storew rfl (by repeat first|exact Mem.upd_self _ _ _|assumption|refine Mem.upd_ne (by assumption) ?_) (by first|exact e_agg rfl|rfl) rfl sz87 rfl rfl rfl rfl ?_;refine Q4 ?_;obtain rfl:i=s.size:=by omega
   exact ret_many (.inl rfl) rfl (rl_c rfl (by repeat first|exact Mem.upd_self _ _ _|assumption|refine Mem.upd_ne (by assumption) ?_) (loadP_w ag87 sz87 rfl rfl) rfl (rl_t rfl rl_nil)) rfl ⟨by rw [hd];unfold resP onP;rw [← hsl,List.take_length];rfl,zle⟩
end C3
