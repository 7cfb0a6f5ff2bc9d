import Derived.Test.YthmhdhmfkegpiaaGreatDoorHz
import Derived.Test.YthmhdhmfkegpiaaGreatDoorNn19
open Go Go.Proofs Go.Am
set_option linter.unusedVariables false
set_option linter.unusedSimpArgs false
set_option autoImplicit false
set_option maxHeartbeats 4000000
set_option maxRecDepth 20000
namespace C17
theorem ag84:aggT Tryz.prog 84=some false:=by kernel_rfl
theorem ag128:aggT Tryz.prog 128=some false:=by kernel_rfl
theorem ag131:aggT Tryz.prog 131=some false:=by kernel_rfl
theorem bz53:(zeroT Tryz.prog 53).map (fun z=>z.cells.toList.map AVal.raw)=some [.raw (.int .i64 0),.raw (.slice none 0 0)]:=by kernel_rfl
theorem bp53:(aPlaces Tryz.prog 53).isSome=true:=by kernel_rfl
theorem fo49_0:fo Tryz.prog 49 0=some (0,1):=by kernel_rfl
theorem fo123_0:fo Tryz.prog 123 0=some (0,3):=by kernel_rfl
theorem fo130_0:fo Tryz.prog 130 0=some (0,2):=by kernel_rfl
theorem fo134_0:fo Tryz.prog 134 0=some (0,3):=by kernel_rfl
theorem fo134_2:fo Tryz.prog 134 2=some (25,2):=by kernel_rfl
theorem fo134_4:fo Tryz.prog 134 4=some (28,2):=by kernel_rfl
theorem fo134_6:fo Tryz.prog 134 6=some (31,1):=by kernel_rfl
theorem fo134_7:fo Tryz.prog 134 7=some (32,5):=by kernel_rfl
theorem fo134_8:fo Tryz.prog 134 8=some (37,1):=by kernel_rfl
theorem fo134_9:fo Tryz.prog 134 9=some (38,1):=by kernel_rfl
theorem sz84:sizeT Tryz.prog 84=some 1:=by kernel_rfl
theorem sz128:sizeT Tryz.prog 128=some 1:=by kernel_rfl
theorem sz131:sizeT Tryz.prog 131=some 1:=by kernel_rfl
theorem zc53:zeroCellsT Tryz.prog 53=some [.raw (.int .i64 0),.sl [] true]:=by kernel_rfl
def tk62:Nat->Nat->Option Nat:=fun _ _=>none
def pl62:Nat->List PStep
 | 1=>[.q 0,.q 1,.q 2,.q 3,.q 4,.q 5,.q 6,.q 7,.q 8,.q 9,.q 10,.q 11,.q 12,.q 13,.q 14,.s 15 [13,12,11,9,8,7,5,4,3,2,1,0],.q 16,.q 17]
 | _=>[]
theorem cb62:Tryz.f62.body.map (codeB Tryz.prog Tryz.f62.ntmps tk62 pl62)=some true:=by kernel_rfl
theorem goes62:goesB Tryz.prog 62=true:=by kernel_rfl
theorem goes67:goesB Tryz.prog 67=true:=by kernel_rfl
structure Snd where
 to:Int
 m:Msg
structure Dn where
 place:Int
 text:ByteArray
 rep:Rp
def sndV (s:Snd):AVal:=.agg (int s.to::(encM s.m).cells)
def dnV (d:Dn):AVal:=.agg [int d.place,str d.text,int d.rep.code,int d.rep.n,.sl (d.rep.recs.map enc) false]
theorem elsDn {l:List Dn}:Els 5 (l.map dnV):=Els.map fun _=>⟨rfl,rfl⟩
structure Nd where
 saves:List ByteArray
 sends:List Snd
 done:List Dn
 said:Nat->Bal
 by':Nat->Int
 refused:Int
 self:Mb
 nodes:Int
 vn:Int
 vm:List Mb
 value:ByteArray
 prom:Bal
 tak:Bal
 aval:ByteArray
def ndC (x:Nd)(po pm ps pp:AVal):List AVal:=[.sl (x.saves.map str) true,.sl (x.sends.map sndV) true,.sl (x.done.map dnV) true,
 int (x.said 0).round,int (x.said 0).node,int (x.said 1).round,int (x.said 1).node,int (x.said 2).round,int (x.said 2).node,int (x.said 3).round,int (x.said 3).node,int (x.said 4).round,int (x.said 4).node,int (x.said 5).round,int (x.said 5).node,int (x.said 6).round,int (x.said 6).node,
 int (x.by' 0),int (x.by' 1),int (x.by' 2),int (x.by' 3),int (x.by' 4),int (x.by' 5),int (x.by' 6),int x.refused,
 int x.self.node,int x.self.life,int x.nodes,int x.vn,.sl (x.vm.map encMb) false,str x.value,po,
 int x.prom.round,int x.prom.node,int x.tak.round,int x.tak.node,str x.aval,pm,ps,pp]
abbrev Nd.view (x:Nd):Vw:=⟨x.vn,x.vm⟩
def memN (x:Nd):Bool:=decide (0<x.vn) && decide (x.self∈x.vm)
def flN (x:Nd):Bool:=!decide (x.prom=bal0)
def hdN (x:Nd):Mb:=x.vm.headD ⟨0,0⟩
def firstN (x:Nd):Bool:=memN x && decide (hdN x=x.self)
theorem memN_pos {x:Nd}(h:memN x=true):0<x.vm.length:=by
 unfold memN at h;simp only [Bool.and_eq_true,decide_eq_true_eq] at h;exact List.length_pos_of_mem h.2
theorem hdN_get {x:Nd}(h:0<x.vm.length):x.vm[0]=hdN x:=by
 have key:∀ (l:List Mb) (h:0<l.length),l[0]=l.headD ⟨0,0⟩:=fun l h=>by
  cases l with
  | nil=>exact absurd h (Nat.lt_irrefl _)
  | cons a l=>rfl
 exact key x.vm h
def primN (x:Nd)(f:Nat->Int×Int)(now:Int):Bool:=(memN x && !flN x && isB x.self f now (hdN x)) && decide (x.vm.length / 2+1<=commonN x.vm (aliveN x.self f now 7))
theorem snd62 (b:Nat)(x:Nd)(po pm ps pp:AVal)(M:Mem)(hb:M b=some (.cells (ndC x po pm ps pp)))(hl:x.vm.length<2^60):SoundCall Tryz.prog 62 [ptr b] M fun r M'=>r=bool (memN x)/\M'=M:=by
 refine SoundCall.go tk62 pl62 mixed Tryz.func62 cb62 rfl (Nat.le_of_ble_eq_true rfl) ?_;refine Q15 ?_;refine s_seq ?_;refine Q33 ?_;refine Q22 fo134_4 ?_;refine Q77 fo53_0 ag3 sz3 ?_;refine d_q rfl (q_gtr rfl rfl) rfl rfl rfl ?_;refine Q14 ?_;refine d_cases (want:=true) (j:=6) rfl rfl (fun h1=>?_) (fun h1=>?_)
 ·have k1:=h1;try simp only [zs] at k1
  refine Q162 h1 ?_;refine Q200 h1 ?_;refine Q161 fo134_4 h1 ?_;refine Q259 ag53 sz53 h1 ?_;refine Q162 h1 ?_;refine Q200 h1 ?_;refine Q161 fo134_2 h1 ?_;refine Q259 ag45 sz45 h1 ?_;refine Q3 ?_;refine Q16 h1 ?_;refine o_call (((snd133 x.view x.self _ hl).det)) goes133 (ac (v_agg rfl) (ac (v_agg rfl) ac_nil)) rfl ?_;refine o_nil ⟨(by simp [Mem.upd, *]),?_⟩;refine Q174 h1 ?_;refine Q125 ?_;exact⟨congrArg bool (by unfold memN;rw [h1];rfl),rfl⟩
 ·have k1:=h1;try simp only [zs] at k1
  iterate 4 refine Q66 h1 h1 ?_
  refine Q3 ?_;refine Q156 h1 ?_;refine o_nil ⟨(by simp [Mem.upd, *]),?_⟩;refine Q175 h1 ?_;refine Q125 ?_;exact⟨congrArg bool (by unfold memN;rw [h1];rfl),rfl⟩
def tk63:Nat->Nat->Option Nat:=fun _ _=>none
def pl63:Nat->List PStep:=fun _=>[]
theorem cb63:Tryz.f63.body.map (codeB Tryz.prog Tryz.f63.ntmps tk63 pl63)=some true:=by kernel_rfl
theorem goes63:goesB Tryz.prog 63=true:=by kernel_rfl
theorem snd63 (b:Nat)(x:Nd)(po pm ps pp:AVal)(M:Mem)(hb:M b=some (.cells (ndC x po pm ps pp)))  : SoundCall Tryz.prog 63 [ptr b] M fun r M'=>r=bool (flN x)/\M'=M:=by
 refine SoundCall.go tk63 pl63 mixed Tryz.func63 cb63 rfl (Nat.le_of_ble_eq_true rfl) ?_;refine Q15 ?_;refine Q95 fo134_7 ?_;refine Q29 fo130_0 ?_;refine Q87 ag23 sz23 ?_;refine Q252 bz23 bp23 ?_;refine o_q (q_bin' rfl rfl (binNeBal _ _ x.prom bal0)) rfl rfl rfl ?_;refine Q4 ?_;exact⟨rfl,rfl⟩
def tk65:Nat->Nat->Option Nat:=fun _ _=>none
def pl65:Nat->List PStep:=fun _=>[]
theorem cb65:Tryz.f65.body.map (codeB Tryz.prog Tryz.f65.ntmps tk65 pl65)=some true:=by kernel_rfl
theorem goes65:goesB Tryz.prog 65=true:=by kernel_rfl
theorem snd65 (b:Nat)(x:Nd)(po pm ps pp:AVal)(M:Mem)(hb:M b=some (.cells (ndC x po pm ps pp)))(h0:0<x.vm.length):SoundCall Tryz.prog 65 [ptr b] M fun r M'=>r=encMb (hdN x)/\M.le M':=by
 have hle:=Mem.le_refl M;have hml:(x.vm.map encMb).length=x.vm.length:=List.length_map _;refine SoundCall.go tk65 pl65 mixed Tryz.func65 cb65 rfl (Nat.le_of_ble_eq_true rfl) ?_;refine Q0 ?_;refine o_alloc zc45 (fun B1 hB1=>?_);have fb1:b≠B1:=Mem.fresh_ne hB1 hb;have f1b:=fb1.symm;refine Q1 ?_;refine Q95 fo134_4 ?_;refine Q133 fo53_1 ag51 sz51 ?_;refine o_q (q_idx und51 sz45 rfl rfl (by omega) (gm 0 (by first|omega|simp)) rfl) rfl rfl rfl ?_;refine o_q (q_lde ag45 sz45 rfl (gm 0 (by first|omega|simp)) rfl rfl) rfl rfl rfl ?_;refine Q75 sz45 ?_;exact ret_cell (.inl rfl) rfl rfl mmQ (loadP_w ag45 sz45 rfl rfl) ⟨by rw [← hdN_get h0];rfl,(by repeat first|exact hle|exact Mem.le_refl _|assumption|exact Mem.none_of_le hle (by assumption)|exact n2|exact n3|exact n4|refine Mem.le_upd ?_ ?_)⟩
def tk33:Nat->Nat->Option Nat:=fun _ _=>none
def pl33:Nat->List PStep
 | 1=>[.q 0,.s 1 [],.q 2,.q 3,.q 5,.q 6,.q 7,.q 8,.s 4 [8,7,6,5,0],.q 9,.q 10,.q 11]
 | _=>[]
theorem cb33:Tryz.f33.body.map (codeB Tryz.prog Tryz.f33.ntmps tk33 pl33)=some true:=by kernel_rfl
theorem goes33:goesB Tryz.prog 33=true:=by kernel_rfl
theorem snd33 (b:Nat)(x:Nd)(po pm ps pp:AVal)(M:Mem)(hb:M b=some (.cells (ndC x po pm ps pp)))(hl:x.vm.length<2^60):SoundCall Tryz.prog 33 [ptr b] M fun r M'=>r=bool (firstN x)/\M'=M:=by
 refine SoundCall.go tk33 pl33 mixed Tryz.func33 cb33 rfl (Nat.le_of_ble_eq_true rfl) ?_;refine Q15 ?_;refine Q91 ?_;refine Q123 ?_;refine Q3 ?_;refine o_call ((snd62 b x po pm ps pp _ hb hl)) goes62 (ac (mvQ) ac_nil) rfl ?_;refine o_nil ⟨(by simp [Mem.upd, *]),?_⟩;refine Q14 ?_;refine d_cases (want:=true) (j:=2) rfl rfl (fun h1=>?_) (fun h1=>?_)
 ·have k1:=h1;try simp only [zs] at k1
  refine Q162 h1 ?_;refine Q162 h1 ?_;refine Q200 h1 ?_;refine Q161 fo134_2 h1 ?_;refine Q259 ag45 sz45 h1 ?_;refine Q3 ?_;refine Q16 h1 ?_;refine o_call (((snd65 b x po pm ps pp _ hb (memN_pos h1)).det)) goes65 (ac (mvQ) ac_nil) rfl ?_;refine o_nil ⟨(by simp [Mem.upd, *]),?_⟩;refine d_yes rfl (q_bin' rfl rfl (binEqM _ _ (hdN x) x.self)) rfl rfl rfl h1 rfl rfl ?_;refine Q174 h1 ?_;refine Q125 ?_;exact⟨congrArg bool (by unfold firstN;rw [h1];rfl),rfl⟩
 ·have k1:=h1;try simp only [zs] at k1
  refine Q66 h1 h1 ?_;refine Q66 h1 h1 ?_;refine Q168 h1 ?_;refine Q3 ?_;refine Q156 h1 ?_;refine o_nil ⟨(by simp [Mem.upd, *]),?_⟩;refine Q168 h1 ?_;refine Q175 h1 ?_;refine Q125 ?_;exact⟨congrArg bool (by unfold firstN;rw [h1];rfl),rfl⟩
def tk23:Nat->Nat->Option Nat:=fun _ _=>none
def pl23:Nat->List PStep
 | 1=>[.q 0,.s 1 [],.q 2,.q 3,.q 4,.s 5 [2,0],.q 6,.q 7,.q 8,.q 9,.q 10,.q 11,.q 12,.s 13 [11,10,9,8,6,4,3,2,0],.s 14 [12,10,9,8,6,4,3,2,0],.q 15,.q 16]
 | 4=>[.q 0,.q 1,.q 2,.q 3,.q 4,.q 6,.q 7,.q 8,.q 9,.s 5 [9,8,7,6,2,1,0],.s 10 [8,7,6,4,3,2,1,0],.q 11,.q 12]
 | _=>[]
theorem cb23:Tryz.f23.body.map (codeB Tryz.prog Tryz.f23.ntmps tk23 pl23)=some true:=by kernel_rfl
theorem goes23:goesB Tryz.prog 23=true:=by kernel_rfl
theorem alive_len (self:Mb)(f:Nat->Int×Int)(now:Int):∀ n,(aliveN self f now n).length<=n
 | 0=>Nat.zero_le _
 | n+1=>by
  have:=alive_len self f now n;unfold aliveN;rw [List.length_append];split<;>simp<;>omega
theorem snd23 (b:Nat)(x:Nd)(po pm pp:AVal)(s c:Nat)(f:Nat->Int×Int)(now:Int)(M:Mem)(hb:M b=some (.cells (ndC x po pm (ptr s) pp)))(hs:M s=some (.cells (sus x.self f c)))(hc':M c=some (.cells [int now]))(hsc:s≠c)(hw:0<=now/\now<2^60)(hf:∀ i,0<=(f i).2/\(f i).2<=now)(hl:x.vm.length<2^60):SoundCall Tryz.prog 23 [ptr b] M fun r M'=>r=bool (primN x f now)/\M.le M':=by
 have hle:=Mem.le_refl M;refine SoundCall.go tk23 pl23 mixed Tryz.func23 cb23 rfl (Nat.le_of_ble_eq_true rfl) ?_;refine Q15 ?_;refine s_seq ?_;refine Q91 ?_;refine Q123 ?_;refine Q3 ?_;refine o_call ((snd62 b x po pm (ptr s) pp _ hb hl)) goes62 (ac (mvQ) ac_nil) rfl ?_;refine o_nil ⟨(by simp [Mem.upd, *]),?_⟩;refine d_q rfl (q_not rfl) rfl rfl rfl ?_;refine Q14 ?_;refine d_cases (want:=false) (j:=3) rfl rfl (fun h1=>?_) (fun h1=>?_)
 ·have k1:=h1;try simp only [zs] at k1
  have hmem:memN x=true:=by simpa using h1
  refine Q162 h1 ?_;refine Q3 ?_;refine Q16 h1 ?_;refine o_call ((snd63 b x po pm (ptr s) pp _ hb)) goes63 (ac (mvQ) ac_nil) rfl ?_;refine o_nil ⟨(by simp [Mem.upd, *]),?_⟩;refine Q175 h1 ?_;refine Q14 ?_;refine d_cases (want:=false) (j:=7) rfl rfl (fun h2=>?_) (fun h2=>?_)
  ·have k2:=h2;try simp only [zs] at k2
   have hfl:flN x=false:=by simpa using h2
   refine Q162 h2 ?_;refine Q200 h2 ?_;refine Q161 fo134_9 h2 ?_;refine d_yes rfl (q_ldm ag131 sz131 rfl mmQ rfl (mvQ)) rfl rfl rfl h2 rfl rfl ?_;refine Q162 h2 ?_;refine Q3 ?_;refine Q16 h2 ?_;refine o_call (((snd65 b x po pm (ptr s) pp _ hb (memN_pos hmem)).det)) goes65 (ac (mvQ) ac_nil) rfl ?_;refine o_nil ⟨(by simp [Mem.upd, *]),?_⟩;refine Q3 ?_;refine Q16 h2 ?_;refine o_call (((snd64 s c x.self f now (hdN x) _ hs hc' hsc hw hf).det)) goes64 (ac (mvQ) (ac (v_agg rfl) ac_nil)) rfl ?_;refine o_nil ⟨(by simp [Mem.upd, *]),?_⟩;refine d_yes rfl (q_not rfl) rfl rfl rfl h2 rfl rfl ?_;refine Q175 h2 ?_;refine d_nil ?_;refine s_cond rfl (fun h3=>?_) (fun h3=>?_)
   ·have k3:=h3;try simp only [zs] at k3
    refine Q0 ?_;refine Q11 ?_;have his:isB x.self f now (hdN x)=false:=by simpa using h3
    exact⟨congrArg bool (by unfold primN;rw [his];simp),(by repeat first|exact hle|exact Mem.le_refl _|assumption|exact Mem.none_of_le hle (by assumption)|exact n2|exact n3|exact n4|refine Mem.le_upd ?_ ?_)⟩
   ·have k3:=h3;try simp only [zs] at k3
    have his:isB x.self f now (hdN x)=true:=by simpa using h3
    have hal:=alive_len x.self f now 7;refine Q13 ?_;refine Q95 fo134_9 ?_;refine Q126 ag131 sz131 ?_;refine o_call (((snd66 s c x.self f now _ hs hc' hsc hw hf).det)) goes66 (ac (mvQ) ac_nil) rfl ?_;refine o_q (q_b (cs:=[.raw (.int .i64 0),_]) bz53 bp53 (bf fo53_1 (e_sl rfl) rfl rfl (Nat.le_of_ble_eq_true rfl) rfl bf_nil)) rfl rfl rfl ?_;refine o_alloc zc53 (fun B1 hB1=>?_);have fb1:b≠B1:=Mem.fresh_ne hB1 hb;have f1b:=fb1.symm;refine Q6 sz53 ?_;refine Q70 ?_;refine Q33 ?_;refine Q22 fo134_4 ?_;refine d_q rfl (q_ldm ag53 sz53 rfl mmQ rfl (v_agg rfl)) rfl rfl rfl ?_;refine Q124 ag53 sz53 ?_;refine Q136 ?_;refine Q22 fo134_4 ?_;refine d_q rfl (q_ldm ag53 sz53 rfl mmQ rfl (v_agg rfl)) rfl rfl rfl ?_;refine Q3 ?_;refine o_call ((snd67 x.view ⟨0,aliveN x.self f now 7⟩ _ hl (by show (aliveN x.self f now 7).length<_;omega))) goes67 (ac (v_agg rfl) (ac (v_agg rfl) ac_nil)) rfl ?_;refine o_nil ⟨(by simp [Mem.upd, *]),?_⟩;refine Q3 ?_;refine o_call (((snd68 x.view _ hl).det)) goes68 (ac (v_agg rfl) ac_nil) rfl ?_;refine o_nil ⟨(by simp [Mem.upd, *]),?_⟩;refine d_q rfl (q_geq rfl rfl) rfl rfl rfl ?_;refine Q125 ?_;have e:primN x f now=decide (x.vm.length / 2+1<=commonN x.vm (aliveN x.self f now 7)):=by unfold primN;rw [hmem,hfl,his];rfl
    rw [e];exact⟨congrArg bool (decide_eq_decide.2 Int.ofNat_le),(by repeat first|exact hle|exact Mem.le_refl _|assumption|exact Mem.none_of_le hle (by assumption)|exact n2|exact n3|exact n4|refine Mem.le_upd ?_ ?_)⟩
  ·have k2:=h2;try simp only [zs] at k2
   refine Q66 h2 h2 ?_;refine Q66 h2 h2 ?_;refine Q168 h2 ?_;refine Q3 ?_;refine Q156 h2 ?_;refine o_nil ⟨(by simp [Mem.upd, *]),?_⟩;refine Q3 ?_;refine Q156 h2 ?_;refine o_nil ⟨(by simp [Mem.upd, *]),?_⟩;refine Q168 h2 ?_;refine Q174 h2 ?_;refine d_nil ?_;refine Q116 ?_;refine Q0 ?_;refine Q11 ?_;have hfl:flN x=true:=by simpa using h2
   exact⟨congrArg bool (by unfold primN;rw [hfl];simp),(by repeat first|exact hle|exact Mem.le_refl _|assumption|exact Mem.none_of_le hle (by assumption)|exact n2|exact n3|exact n4|refine Mem.le_upd ?_ ?_)⟩
 ·have k1:=h1;try simp only [zs] at k1
  refine Q168 h1 ?_;refine Q3 ?_;refine Q156 h1 ?_;refine o_nil ⟨(by simp [Mem.upd, *]),?_⟩;refine Q174 h1 ?_;refine Q14 ?_;iterate 5 refine Q154 ?_
  refine Q3 ?_;refine o_no rfl rfl rfl rfl rfl ?_;refine o_nil ⟨(by simp [Mem.upd, *]),?_⟩;refine Q3 ?_;refine o_no rfl rfl rfl rfl rfl ?_;refine o_nil ⟨(by simp [Mem.upd, *]),?_⟩;refine Q154 ?_;refine Q196 ?_;refine d_nil ?_;refine Q116 ?_;refine Q0 ?_;refine Q11 ?_;have hmem:memN x=false:=by simpa using h1
  exact⟨congrArg bool (by unfold primN;rw [hmem];simp),(by repeat first|exact hle|exact Mem.le_refl _|assumption|exact Mem.none_of_le hle (by assumption)|exact n2|exact n3|exact n4|refine Mem.le_upd ?_ ?_)⟩
def tk60:Nat->Nat->Option Nat
 | 0,0=>some 0
 | 2,0=>some 0
 | 3,3=>some 0
 | _,_=>none
def pl60:Nat->List PStep:=fun _=>[]
theorem cb60:Tryz.f60.body.map (codeB Tryz.prog Tryz.f60.ntmps tk60 pl60)=some true:=by kernel_rfl
theorem goes60:goesB Tryz.prog 60=true:=by kernel_rfl
theorem snd60 (l:List Mb)(o:Bool)(M:Mem)(hl:l.length<=2^43):SoundCall Tryz.prog 60 [.sl (l.map encMb) o] M fun r M'=>r = .sl (l.map encMb) true/\M'=M:=by
 refine SoundCall.go tk60 pl60 mixed Tryz.func60 cb60 rfl (Nat.le_of_ble_eq_true rfl) ?_;refine Q93 ?_;refine Q48 ?_;refine Q49 ?_;refine o_nilcmp und51 rfl rfl (.inl rfl) (fun nh1 h1n=>?_);refine Q1 ?_;refine s_cond rfl (fun h2=>?_) (fun h2=>?_)
 ·have k2:=h2;try simp only [zs] at k2
  obtain rfl:l=[]:=by
   rcases l with _|⟨a,l⟩
   ·rfl
   ·have:=h1n (by simp);subst this;cases h2
  refine Q93 ?_;refine Q114 ?_;exact⟨rfl,rfl⟩
 ·have k2:=h2;try simp only [zs] at k2
  refine Q92 ?_;refine Q223 slt51 ?_;refine Q49 ?_;refine o_qs (q_app slt51 rfl rfl rfl rfl (by first|exact Els.nil|exact elsMb) (by first|exact (by first|exact Els.nil|exact elsMb)|exact Els.cons rfl rfl Els.nil) (by simp;omega)) rfl rfl rfl rfl ?_;refine Q151 ?_;refine Q103 ?_;exact⟨rfl,rfl⟩
def tk21:Nat->Nat->Option Nat:=fun _ _=>none
def pl21:Nat->List PStep:=fun _=>[]
theorem cb21:Tryz.f21.body.map (codeB Tryz.prog Tryz.f21.ntmps tk21 pl21)=some true:=by kernel_rfl
theorem goes21:goesB Tryz.prog 21=true:=by kernel_rfl
theorem snd21 (b:Nat)(x:Nd)(po pm ps pp:AVal)(M:Mem)(hb:M b=some (.cells (ndC x po pm ps pp)))(hl:x.vm.length<=2^43):SoundCall Tryz.prog 21 [ptr b] M fun r M'=>r=encV x.view/\M.le M':=by
 have hle:=Mem.le_refl M;refine SoundCall.go tk21 pl21 mixed Tryz.func21 cb21 rfl (Nat.le_of_ble_eq_true rfl) ?_;refine Q0 ?_;refine o_alloc zc53 (fun B1 hB1=>?_);have fb1:b≠B1:=Mem.fresh_ne hB1 hb;have f1b:=fb1.symm;refine Q1 ?_;refine Q95 fo134_4 ?_;refine Q87 ag53 sz53 ?_;refine o_alloc zc53 (fun B2 hB2=>?_);have fb2:b≠B2:=Mem.fresh_ne hB2 mmQ;have f2b:=fb2.symm;have f12:B1≠B2:=Mem.fresh_ne hB2 (Mem.upd_self _ _ _);have f21:=f12.symm;have n2:M B2=none:=(Mem.upd_none hB2).2;refine Q118 sz53 ?_;refine Q0 ?_;refine Q133 fo53_1 ag51 sz51 ?_;refine o_call ((snd60 x.vm false _ hl)) goes60 (ac (v_sl rfl) ac_nil) rfl ?_;refine Q29 fo53_1 ?_;refine Q112 sz51 ?_;refine Q1 ?_;refine Q34 ag53 sz53 ?_;refine Q98 sz53 ?_;refine Q103 ?_;exact ret_cell (.inl rfl) rfl rfl mmQ (loadP_w ag53 sz53 rfl rfl) ⟨rfl,(by repeat first|exact hle|exact Mem.le_refl _|assumption|exact Mem.none_of_le hle (by assumption)|exact n2|exact n3|exact n4|refine Mem.le_upd ?_ ?_)⟩
def tk22:Nat->Nat->Option Nat:=fun _ _=>none
def pl22:Nat->List PStep:=fun _=>[]
theorem cb22:Tryz.f22.body.map (codeB Tryz.prog Tryz.f22.ntmps tk22 pl22)=some true:=by kernel_rfl
theorem goes22:goesB Tryz.prog 22=true:=by kernel_rfl
theorem snd22s (b bo:Nat)(x:Nd)(o:Od)(pm ps pp:AVal)(M:Mem)(hb:M b=some (.cells (ndC x (ptr bo) pm ps pp)))(ho:M bo=some (.cells (odC o)))(hlg:o.log.length+2<=2^43):SoundCall Tryz.prog 22 [ptr b] M fun r M'=>r = .sl (o.log.map str) false/\M'=M:=by
 refine SoundCall.go tk22 pl22 mixed Tryz.func22 cb22 rfl (Nat.le_of_ble_eq_true rfl) ?_;refine Q104 ?_;refine Q48 ?_;refine Q10 ?_;refine Q25 fo134_6 ?_;refine Q126 ag128 sz128 ?_;refine Q143 und128 ?_;refine Q83 ?_;refine Q13 ?_;refine Q95 fo134_6 ?_;refine Q126 ag128 sz128 ?_;refine o_call ((snd61 bo o _ ho hlg)) goes61 (ac (mvQ) ac_nil) rfl ?_;refine Q42 ?_;refine Q103 ?_;exact⟨rfl,rfl⟩
theorem snd22n (b:Nat)(x:Nd)(pm ps pp:AVal)(M:Mem)(hb:M b=some (.cells (ndC x nilp pm ps pp)))  : SoundCall Tryz.prog 22 [ptr b] M fun r M'=>r = .sl [] false/\M'=M:=by
 refine SoundCall.go tk22 pl22 mixed Tryz.func22 cb22 rfl (Nat.le_of_ble_eq_true rfl) ?_;refine Q104 ?_;refine Q48 ?_;refine Q10 ?_;refine Q25 fo134_6 ?_;refine Q126 ag128 sz128 ?_;refine Q143 und128 ?_;refine Q149 ?_;refine Q104 ?_;refine Q114 ?_;exact⟨rfl,rfl⟩
def tk28:Nat->Nat->Option Nat:=fun _ _=>none
def pl28:Nat->List PStep:=fun _=>[]
theorem cb28:Tryz.f28.body.map (codeB Tryz.prog Tryz.f28.ntmps tk28 pl28)=some true:=by kernel_rfl
theorem goes28:goesB Tryz.prog 28=true:=by kernel_rfl
theorem snd28s (b bo:Nat)(x:Nd)(o:Od)(pm ps pp:AVal)(M:Mem)(hb:M b=some (.cells (ndC x (ptr bo) pm ps pp)))(ho:M bo=some (.cells (odC o)))  : SoundCall Tryz.prog 28 [ptr b] M fun r M'=>r=int o.sure/\M'=M:=by
 refine SoundCall.go tk28 pl28 mixed Tryz.func28 cb28 rfl (Nat.le_of_ble_eq_true rfl) ?_;refine Q15 ?_;refine Q31 ?_;refine Q10 ?_;refine Q25 fo134_6 ?_;refine Q126 ag128 sz128 ?_;refine Q143 und128 ?_;refine Q83 ?_;refine Q13 ?_;refine Q95 fo134_6 ?_;refine Q126 ag128 sz128 ?_;refine o_call ((snd77 bo o _ ho)) goes77 (ac (mvQ) ac_nil) rfl ?_;refine Q4 ?_;exact⟨rfl,rfl⟩
def tk212:Nat->Nat->Option Nat:=fun _ _=>none
def pl212:Nat->List PStep:=fun _=>[]
theorem cb212:Tryz.f212.body.map (codeB Tryz.prog Tryz.f212.ntmps tk212 pl212)=some true:=by kernel_rfl
theorem goes212:goesB Tryz.prog 212=true:=by kernel_rfl
def savedN (k:Int)(s:ByteArray)(n:Int):ByteArray:=encAll [⟨1,k.toNat,emp⟩,itT s,⟨3,n.toNat,emp⟩]
theorem savedOk {k n:Int}{s:ByteArray}(hk:0<=k/\k<256)(hs:s.size<=100000)(hn:0<=n/\n<2^63):∀ y∈[(⟨1,k.toNat,emp⟩ : Itm),itT s,⟨3,n.toNat,emp⟩],okI y:=by
 intro y hy;simp only [List.mem_cons,List.not_mem_nil,or_false] at hy;rcases hy with rfl|rfl|rfl
 ·exact .inl ⟨rfl,by show k.toNat<_;omega,rfl⟩
 ·exact .inr (.inr (.inr ⟨rfl,rfl,hs⟩))
 ·exact .inr (.inr (.inl ⟨rfl,by show n.toNat<_;omega,rfl⟩))
theorem snd212 (k:Int)(s:ByteArray)(n:Int)(ge:TypeId)(gf:Nat×Nat)(M:Mem)(hG:M 0=some (szO ge gf))(hk:0<=k/\k<256)(hs:s.size<=100000)(hn:0<=n/\n<2^63):SoundCall Tryz.prog 212 [int k,str s,int n] M fun r M'=>r=str (savedN k s n)/\M'=M:=by
 have e1:=encNn (k:=1) hk.1;have e3:=encNn (k:=3) hn.1;refine SoundCall.go tk212 pl212 mixed Tryz.func212 cb212 rfl (Nat.le_of_ble_eq_true rfl) ?_;refine Q15 ?_;refine Q5 ?_;refine Q141 und3 und104 ?_;refine Q159 bz106 bp106 fo106_0 fo106_1 ?_;refine Q2 ?_;refine Q194 bz106 bp106 fo106_0 fo106_2 ?_;refine Q2 ?_;refine Q141 und3 und104 ?_;refine Q159 bz106 bp106 fo106_0 fo106_1 ?_;refine o_q (q_bs slt103 (pc (v_agg rfl) (pc (v_agg rfl) (pc (v_agg rfl) pn))) rfl (Els.cons rfl rfl (Els.cons rfl rfl (Els.cons rfl rfl Els.nil))) (by decide)) rfl rfl rfl ?_;refine o_call ((by have h:=((snd42 [⟨1,k.toNat,emp⟩,itT s,⟨3,n.toNat,emp⟩] false ge gf _ hG (by show 3<=1000;decide) (savedOk hk hs hn)).det);simp only [List.map,← e1,← e3] at h;exact h)) goes42 (ac (v_sl rfl) ac_nil) rfl ?_;refine Q37 ?_;refine Q79 ?_;refine Q26 ?_;refine Q5 ?_;refine Q4 ?_;exact⟨rfl,rfl⟩
def tk146:Nat->Nat->Option Nat
 | 0,6=>some 0
 | _,_=>none
def pl146:Nat->List PStep
 | 0=>[.q 0,.q 1,.q 2,.q 3,.q 4,.q 5,.q 7,.q 8,.q 9,.c 10,.q 11,.s 6 [11,10,9,8,7,4,3,2,1,0],.q 12,.q 13,.q 14,.q 15,.q 16,.s 17 [15,14,13]]
 | _=>[]
theorem cb146:Tryz.f146.body.map (codeB Tryz.prog Tryz.f146.ntmps tk146 pl146)=some true:=by kernel_rfl
theorem goes146:goesB Tryz.prog 146=true:=by kernel_rfl
theorem snd146 (b:Nat)(x:Nd)(po pm ps pp:AVal)(k:Int)(s:ByteArray)(n:Int)(ge:TypeId)(gf:Nat×Nat)(M:Mem)(hG:M 0=some (szO ge gf))(hb:M b=some (.cells (ndC x po pm ps pp)))(h0:b≠0)(hk:0<=k/\k<256)(hs:s.size<=100000)(hn:0<=n/\n<2^63)(hls:x.saves.length<=2^40):SoundCall Tryz.prog 146 [ptr b,int k,str s,int n] M fun r M'=>r = .tup []/\M'=M.upd b (.cells (ndC { x with saves:=x.saves++[savedN k s n] } po pm ps pp)):=by
 have h0s:=h0.symm;refine SoundCall.go tk146 pl146 mixed Tryz.func146 cb146 rfl (Nat.le_of_ble_eq_true rfl) ?_;refine s_draw rfl ?_;refine Q123 ?_;refine Q136 ?_;refine Q22 fo134_0 ?_;refine Q22 fo123_0 ?_;refine Q22 fo49_0 ?_;iterate 3 refine Q14 ?_
 refine d_cm (0) rfl (fun M' hM'=>(snd212 k s n ge gf M' (hM' ▸ hG) hk hs hn)) goes212 (ac (v_raw rfl) (ac (v_raw rfl) (ac (v_raw rfl) ac_nil))) rfl ?_;refine d_q rfl (q_bs slt24 (pc (v_raw rfl) pn) rfl (Els.cons rfl rfl Els.nil) (by decide)) rfl rfl rfl ?_;refine Q3 ?_;refine Q137 ag24 sz24 ?_;refine o_nil ⟨(by simp [Mem.upd, *]),?_⟩;refine d_qs rfl (q_app slt24 rfl rfl rfl rfl (by first|exact elsStr|exact Els.cons rfl rfl Els.nil) (by first|exact (by first|exact elsStr|exact Els.cons rfl rfl Els.nil)|exact Els.cons rfl rfl Els.nil) (by simp;omega)) rfl rfl rfl rfl ?_;refine Q163 ?_;refine Q22 fo134_0 ?_;refine Q22 fo123_0 ?_;refine Q22 fo49_0 ?_;refine Q3 ?_;refine Q112 sz24 ?_;refine o_nil ⟨(by simp [Mem.upd, *]),?_⟩;refine d_nil ?_;refine s_end ?_;refine⟨rfl,?_⟩;rw [Mem.upd_upd];exact congrArg (fun q=>M.upd b (.cells q)) (by unfold ndC;simp;rfl)
end C17
