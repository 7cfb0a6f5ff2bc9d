import Derived.Test.YthmhdhmfkegpiaaGreatDoorHz
import Derived.Test.YthmhdhmfkegpiaaGreatDoorNn14
import Derived.Test.YthmhdhmfkegpiaaGreatDoorNa9
open Go Go.Proofs Go.Am
set_option linter.unusedVariables false
set_option linter.unusedSimpArgs false
set_option autoImplicit false
set_option maxHeartbeats 4000000
set_option maxRecDepth 20000
namespace C17
theorem ag45:aggT Tryz.prog 45=some true:=by kernel_rfl
theorem ag72:aggT Tryz.prog 72=some false:=by kernel_rfl
theorem ag192:aggT Tryz.prog 192=some false:=by kernel_rfl
theorem ag195:aggT Tryz.prog 195=some true:=by kernel_rfl
theorem ag196:aggT Tryz.prog 196=some true:=by kernel_rfl
theorem bz45:(zeroT Tryz.prog 45).map (fun z=>z.cells.toList.map AVal.raw)=some [.raw (.int .i64 0),.raw (.int .i64 0)]:=by kernel_rfl
theorem bp45:(aPlaces Tryz.prog 45).isSome=true:=by kernel_rfl
theorem bz198:(zeroT Tryz.prog 198).map (fun z=>z.cells.toList.map AVal.raw)=some [.raw (.int .i64 0),.raw (.int .i64 0),.raw (.int .i64 0),.raw (.int .i64 0),.raw (.int .i64 0),.raw (.int .i64 0),.raw (.int .i64 0),.raw (.int .i64 0),.raw (.int .i64 0),.raw (.int .i64 0),.raw (.int .i64 0),.raw (.int .i64 0),.raw (.int .i64 0),.raw (.int .i64 0),.raw (.int .i64 0),.raw (.int .i64 0),.raw .nilFunc]:=by kernel_rfl
theorem bp198:(aPlaces Tryz.prog 198).isSome=true:=by kernel_rfl
theorem fo45_0:fo Tryz.prog 45 0=some (0,1):=by kernel_rfl
theorem fo45_1:fo Tryz.prog 45 1=some (1,1):=by kernel_rfl
theorem fo195_0:fo Tryz.prog 195 0=some (0,1):=by kernel_rfl
theorem fo195_1:fo Tryz.prog 195 1=some (1,1):=by kernel_rfl
theorem fo198_0:fo Tryz.prog 198 0=some (0,2):=by kernel_rfl
theorem fo198_1:fo Tryz.prog 198 1=some (2,14):=by kernel_rfl
theorem fo198_2:fo Tryz.prog 198 2=some (16,1):=by kernel_rfl
theorem slt51:SlT Tryz.prog 51 45 2 16:=⟨by kernel_rfl,by kernel_rfl,by kernel_rfl,by kernel_rfl,by decide⟩
theorem sz45:sizeT Tryz.prog 45=some 2:=by kernel_rfl
theorem sz72:sizeT Tryz.prog 72=some 1:=by kernel_rfl
theorem sz192:sizeT Tryz.prog 192=some 1:=by kernel_rfl
theorem sz195:sizeT Tryz.prog 195=some 2:=by kernel_rfl
theorem sz196:sizeT Tryz.prog 196=some 14:=by kernel_rfl
theorem und51:Tryz.prog.underlying 51=some (.slice 45):=by kernel_rfl
theorem und196:Tryz.prog.underlying 196=some (.array 7 195):=by kernel_rfl
theorem zc3:zeroCellsT Tryz.prog 3=some [.raw (.int .i64 0)]:=by kernel_rfl
theorem zc45:zeroCellsT Tryz.prog 45=some [.raw (.int .i64 0),.raw (.int .i64 0)]:=by kernel_rfl
theorem zc195:zeroCellsT Tryz.prog 195=some [.raw (.int .i64 0),.raw (.int .i64 0)]:=by kernel_rfl
structure Mb where
 node:Int
 life:Int
 deriving DecidableEq,Inhabited
def encMb (m:Mb):AVal:=.agg [.raw (.int .i64 m.node),.raw (.int .i64 m.life)]
def rightMb (m:Mb):Bool:=decide (0<=m.node) && decide (m.node<7) && decide (1<=m.life) && decide (m.life<=9007199254740991)
def clk (c:Nat):AVal:=.raw (.func (.func 173) #[] #[.pointer (some ⟨c,0,none⟩)])
def sus (self:Mb)(f:Nat->Int×Int)(c:Nat):List AVal:=[int self.node,int self.life,int (f 0).1,int (f 0).2,int (f 1).1,int (f 1).2,int (f 2).1,int (f 2).2,int (f 3).1,int (f 3).2,int (f 4).1,int (f 4).2,int (f 5).1,int (f 5).2,int (f 6).1,int (f 6).2,clk c]
theorem sus_pair {self:Mb}{f:Nat->Int×Int}{c:Nat}{n:Int}(h0:0<=n)(h1:n<7):piece true (sus self f c) (0+2+n.toNat*2) 2=some (.agg [int (f n.toNat).1,int (f n.toNat).2]):=by
 obtain⟨k,rfl⟩:=Int.eq_ofNat_of_zero_le h0;have:k=0\/k=1\/k=2\/k=3\/k=4\/k=5\/k=6:=by omega
 rcases this with h|h|h|h|h|h|h<;>subst h<;>rfl
theorem rightMb_spec {m:Mb}:rightMb m=true↔0<=m.node/\m.node<7/\1<=m.life/\m.life<=9007199254740991:=by
 unfold rightMb;simp [and_assoc]
def tk51:Nat->Nat->Option Nat:=fun _ _=>none
def pl51:Nat->List PStep:=fun _=>[]
theorem cb51:Tryz.f51.body.map (codeB Tryz.prog Tryz.f51.ntmps tk51 pl51)=some true:=by kernel_rfl
theorem goes51:goesB Tryz.prog 51=true:=by kernel_rfl
theorem snd51 (m:Mb)(M:Mem):SoundCall Tryz.prog 51 [encMb m] M fun r M'=>r = .raw (.bool (rightMb m))/\M.le M':=by
 refine SoundCall.go tk51 pl51 mixed Tryz.func51 cb51 rfl (Nat.le_of_ble_eq_true rfl) ?_;refine Q0 ?_;refine o_box zbx rfl rfl (fun B1 hB1=>?_);refine Q7 ?_;refine Q27 fo45_0 ag3 sz3 ?_;refine Q23 ?_;refine Q2 ?_;refine o_cases (want:=true) (j:=3) rfl rfl (fun h1=>?_) (fun h1=>?_)
 ·have k1:=h1;try simp only [zs] at k1
  refine Q110 h1 fo45_0 h1 ?_;refine Q46 ag3 sz3 ?_;refine Q16 h1 ?_;refine Q109 ?_;refine Q199 h1 ?_;refine Q2 ?_;refine o_cases (want:=true) (j:=8) rfl rfl (fun h2=>?_) (fun h2=>?_)
  ·have k2:=h2;try simp only [zs] at k2
   refine Q110 h2 fo45_1 h2 ?_;refine Q46 ag3 sz3 ?_;refine Q16 h2 ?_;refine Q23 ?_;refine Q199 h2 ?_;refine Q2 ?_;refine o_cases (want:=true) (j:=13) rfl rfl (fun h3=>?_) (fun h3=>?_)
   ·have k3:=h3;try simp only [zs] at k3
    refine Q110 h3 fo45_1 h3 ?_;refine Q46 ag3 sz3 ?_;refine Q16 h3 ?_;refine Q89 ?_;refine Q199 h3 ?_;refine Q4 ?_;refine⟨?_,Mem.le_upd (Mem.le_refl M) hB1⟩;exact congrArg (fun b=>AVal.raw (.bool b)) (by simp_all [rightMb]<;>(intros;omega))
   ·have k3:=h3;try simp only [zs] at k3
    refine Q106 h3 h3 h3 ?_;refine Q199 h3 ?_;refine Q4 ?_;refine⟨?_,Mem.le_upd (Mem.le_refl M) hB1⟩;exact congrArg (fun b=>AVal.raw (.bool b)) (by simp_all [rightMb]<;>(intros;omega))
  ·have k2:=h2;try simp only [zs] at k2
   refine Q106 h2 h2 h2 ?_;refine Q199 h2 ?_;refine Q99 ?_;refine o_q (q_pick_c rfl rfl (v_raw rfl)) rfl rfl rfl ?_;refine Q4 ?_;refine⟨?_,Mem.le_upd (Mem.le_refl M) hB1⟩;exact congrArg (fun b=>AVal.raw (.bool b)) (by simp_all [rightMb]<;>(intros;omega))
 ·have k1:=h1;try simp only [zs] at k1
  refine Q106 h1 h1 h1 ?_;refine Q199 h1 ?_;refine Q99 ?_;refine o_q (q_pick_c rfl rfl (v_raw rfl)) rfl rfl rfl ?_;refine Q99 ?_;refine o_q (q_pick_c rfl rfl (v_raw rfl)) rfl rfl rfl ?_;refine Q4 ?_;refine⟨?_,Mem.le_upd (Mem.le_refl M) hB1⟩;exact congrArg (fun b=>AVal.raw (.bool b)) (by simp_all [rightMb]<;>(intros;omega))
def tk173:Nat->Nat->Option Nat:=fun _ _=>none
def pl173:Nat->List PStep:=fun _=>[]
theorem cb173:Tryz.f173.body.map (codeB Tryz.prog Tryz.f173.ntmps tk173 pl173)=some true:=by kernel_rfl
theorem goes173:goesB Tryz.prog 173=true:=by kernel_rfl
theorem snd173 (n now:Int)(c:Nat)(M:Mem)(hM:M c=some (.cells [int now]))(h1 : -2^62<=now/\now<2^62)(h2 : -2^62<=n/\n<2^62):SoundCall Tryz.prog 173 [int n,ptr c] M fun r M'=>r=int (now+n)/\M'=M.upd c (.cells [int (now+n)]):=by
 refine SoundCall.go tk173 pl173 mixed Tryz.func173 cb173 rfl (Nat.le_of_ble_eq_true rfl) ?_;refine Q15 ?_;refine Q0 ?_;refine Q46 ag3 sz3 ?_;refine Q190 ?_;refine Q62 sz3 ?_;refine Q0 ?_;refine Q46 ag3 sz3 ?_;refine Q4 ?_;exact⟨rfl,rfl⟩
def tk114:Nat->Nat->Option Nat:=fun _ _=>none
def pl114:Nat->List PStep:=fun _=>[]
theorem cb114:Tryz.f114.body.map (codeB Tryz.prog Tryz.f114.ntmps tk114 pl114)=some true:=by kernel_rfl
theorem goes114:goesB Tryz.prog 114=true:=by kernel_rfl
theorem snd114 (M:Mem):SoundCall Tryz.prog 114 [] M fun r M'=>∃ c,M c=none/\r=clk c/\M'=M.upd c (.cells [int 0]):=by
 refine SoundCall.go tk114 pl114 mixed Tryz.func114 cb114 rfl (Nat.le_of_ble_eq_true rfl) ?_;refine Q15 ?_;refine Q0 ?_;refine o_alloc zc3 (fun B1 hB1=>?_);refine Q62 sz3 ?_;refine Q0 ?_;refine o_q (q_mkf1 rfl) rfl rfl rfl ?_;refine Q4 ?_;exact⟨_,hB1,rfl,Mem.upd_upd ..⟩
def tk53:Nat->Nat->Option Nat:=fun _ _=>none
def pl53:Nat->List PStep
 | 3=>[.q 0,.s 1 [0],.q 2,.s 3 [0],.q 4,.q 5]
 | _=>[]
theorem cb53:Tryz.f53.body.map (codeB Tryz.prog Tryz.f53.ntmps tk53 pl53)=some true:=by kernel_rfl
theorem goes53:goesB Tryz.prog 53=true:=by kernel_rfl
theorem snd53 (self:Mb)(M:Mem):SoundCall Tryz.prog 53 [encMb self] M fun r M'=>(rightMb self=false/\r = .tup [.raw (.pointer none),int 1]/\M.le M')\/(rightMb self=true/\∃ s c,M s=none/\M c=none/\s≠c/\r = .tup [ptr s,int 0]/\((M.upd c (.cells [int 0])).upd s (.cells (sus self (fun _=>(0,0)) c))).le M'):=by
 refine SoundCall.go tk53 pl53 mixed Tryz.func53 cb53 rfl (Nat.le_of_ble_eq_true rfl) ?_;refine Q0 ?_;refine o_box zbx rfl rfl (fun B1 hB1=>?_);refine Q55 ?_;refine Q127 ?_;refine Q45 ag45 sz45 ?_;refine o_call ((snd51 self _).det) goes51 (ac (v_agg rfl) ac_nil) rfl ?_;refine Q59 ?_;refine s_cond rfl (fun h1=>?_) (fun h1=>?_)
 ·have k1:=h1;try simp only [zs] at k1
  refine Q0 ?_;refine Q55 ?_;refine Q11 ?_;exact .inl ⟨by simpa using k1,rfl,Mem.le_upd (Mem.le_refl M) hB1⟩
 ·have k1:=h1;try simp only [zs] at k1
  refine Q76 ?_;refine s_draw rfl ?_;refine Q124 ag45 sz45 ?_;refine Q3 ?_;refine o_callx (snd114 _) goes114 ac_nil rfl ?_;rintro r M' ⟨c,hc,rfl,rfl⟩;have nc:B1≠c:=ne_fresh hc (Mem.upd_self _ _ _);refine o_nil ⟨(by simp [Mem.upd, *]),?_⟩;refine d_q rfl (q_b (cs:=[_,_,.raw (.int .i64 0),.raw (.int .i64 0),.raw (.int .i64 0),.raw (.int .i64 0),.raw (.int .i64 0),.raw (.int .i64 0),.raw (.int .i64 0),.raw (.int .i64 0),.raw (.int .i64 0),.raw (.int .i64 0),.raw (.int .i64 0),.raw (.int .i64 0),.raw (.int .i64 0),.raw (.int .i64 0),_]) bz198 bp198 (bf fo198_0 (e_agg rfl) rfl rfl (Nat.le_of_ble_eq_true rfl) rfl (bf fo198_2 (e_raw rfl) rfl rfl (Nat.le_of_ble_eq_true rfl) rfl bf_nil))) rfl rfl rfl ?_;refine Q3 ?_;refine o_box zbx rfl rfl (fun B2 hB2=>?_);have n2:B1≠B2:=ne_fresh hB2 (Mem.upd_ne nc (Mem.upd_self _ _ _));refine o_nil ⟨(by simp [Mem.upd, *]),?_⟩;refine Q146 ?_;refine Q125 ?_;refine .inr ⟨by simpa using k1,B2,c,(Mem.upd_none (Mem.upd_none hB2).2).2,(Mem.upd_none hc).2,(Mem.upd_none hB2).1,rfl,Mem.le_upds (Mem.le_upds (Mem.le_upd (Mem.le_refl M) hB1))⟩
theorem snd173' (now:Int)(c:Nat)(M:Mem)(hM:M c=some (.cells [int now]))(h1 : -2^62<=now/\now<2^62):SoundCall Tryz.prog 173 [int 0,ptr c] M fun r M'=>r=int now/\M'=M:=by
 have h:=snd173 0 now c M hM h1 (by omega);rw [Int.add_zero,Mem.upd_same hM] at h;exact h
def tk64:Nat->Nat->Option Nat:=fun _ _=>none
def pl64:Nat->List PStep
 | 1=>[.q 0,.q 1,.q 2,.q 3,.q 4,.q 5,.q 6]
 | 3=>[.q 0,.s 1 [],.q 2,.q 3,.q 4,.q 5,.q 6,.q 7,.q 8,.q 9,.q 10,.q 11,.q 12,.q 13]
 | 5=>[.q 0,.q 1,.q 2,.q 3,.q 4,.q 5,.q 6,.s 7 [6,5,4,3,2,1,0],.s 8 []]
 | 6=>[.q 0,.q 1,.q 2,.q 3,.q 4,.q 5,.q 6,.q 7,.q 8,.q 9,.q 11,.q 12,.s 10 [12,11,8,7,6,4,3,2,1,0],.q 13,.q 14,.q 15,.q 16]
 | _=>[]
theorem cb64:Tryz.f64.body.map (codeB Tryz.prog Tryz.f64.ntmps tk64 pl64)=some true:=by kernel_rfl
theorem goes64:goesB Tryz.prog 64=true:=by kernel_rfl
theorem eqg23:Tryz.prog.eqGuardType Tryz.prog.depth 45=false:=by kernel_rfl
theorem stood23:Tryz.prog.stoodInHeld 45=false:=by kernel_rfl
def rawM (m:Mb):Value:=.agg #[.int .i64 m.node,.int .i64 m.life]
theorem mbEq (r r':Mb):pr Tryz.prog (Op.equal 45 (rawM r) (rawM r'))=some (decide (r=r')):=by
 refine eqStruct Tryz.underlying45 stood23 ?_;simp only [List.forIn_cons,List.forIn_nil];refine fldEq' (by decide) (part_one (v:=.int .i64 r.node) ag3 rfl) (part_one (v:=.int .i64 r'.node) ag3 rfl) (eq_int und3 _ _) (fun _=>rfl) rfl (congrArg Mb.node) (fun h1=>?_);refine fldEq' (by decide) (part_one (v:=.int .i64 r.life) ag3 rfl) (part_one (v:=.int .i64 r'.life) ag3 rfl) (eq_int und3 _ _) (fun _=>rfl) rfl (congrArg Mb.life) (fun h2=>?_);have:r=r':=by cases r;cases r';simp at h1 h2;simp [*]
 simp only [this,decide_true];rfl
theorem binEqM (x y:Operand)(r r':Mb):aBin Tryz.prog .eql 45 x y (encMb r) (encMb r')=some (.raw (.bool (decide (r=r')))) :=
 aBin_structEq eqg23 rfl rfl (fun _ _ h=>by cases h) (mbEq r r')
def isB (self:Mb)(f:Nat->Int×Int)(now:Int)(m:Mb):Bool:=decide (m=self) || (rightMb m && !decide (m.node=self.node) && decide ((f m.node.toNat).1=m.life) && decide (now - (f m.node.toNat).2<5))
theorem snd64 (s c:Nat)(self:Mb)(f:Nat->Int×Int)(now:Int)(m:Mb)(M:Mem)(hs:M s=some (.cells (sus self f c)))(hc:M c=some (.cells [int now]))(hsc:s≠c)(hw:0<=now/\now<2^60)(hf:∀ i,0<=(f i).2/\(f i).2<=now):SoundCall Tryz.prog 64 [ptr s,encMb m] M fun r M'=>r = .raw (.bool (isB self f now m))/\M.le M':=by
 have ff:=hf m.node.toNat;refine SoundCall.go tk64 pl64 mixed Tryz.func64 cb64 rfl (Nat.le_of_ble_eq_true rfl) ?_;refine Q0 ?_;refine o_box zbx rfl rfl (fun B1 hB1=>?_);have n1:s≠B1:=ne_fresh hB1 hs;have n2:c≠B1:=ne_fresh hB1 hc;refine Q7 ?_;refine Q150 ?_;refine Q91 ?_;refine Q124 ag45 sz45 ?_;refine Q136 ?_;refine Q22 fo198_0 ?_;refine Q275 ag45 sz45 ?_;refine d_q rfl (q_bin' rfl rfl (binEqM _ _ m self)) rfl rfl rfl ?_;refine Q96 ?_;refine s_cond rfl (fun h1=>?_) (fun h1=>?_)
 ·have k1:=h1;try simp only [zs] at k1
  refine Q0 ?_;refine Q20 ?_;refine⟨congrArg (fun b=>AVal.raw (.bool b)) ?_,Mem.le_upd (Mem.le_refl M) hB1⟩;simp_all [isB]
 ·have k1:=h1;try simp only [zs] at k1
  refine Q91 ?_;refine Q124 ag45 sz45 ?_;refine Q3 ?_;refine o_call ((snd51 m _).det) goes51 (ac (v_agg rfl) ac_nil) rfl ?_;refine o_nil ⟨(by simp [Mem.upd, *]),?_⟩;refine d_q rfl (q_not rfl) rfl rfl rfl ?_;refine Q14 ?_;refine d_cases (want:=false) (j:=3) rfl rfl (fun h2=>?_) (fun h2=>?_)
  ·have k2:=h2;try simp only [zs] at k2
   have rr:=rightMb_spec.1 k2;refine Q161 fo45_0 h2 ?_;refine Q238 ag3 sz3 h2 ?_;refine Q162 h2 ?_;refine Q200 h2 ?_;refine Q161 fo198_0 h2 ?_;refine Q161 fo45_0 h2 ?_;refine Q238 ag3 sz3 h2 ?_;refine d_yes rfl (q_eql rfl rfl) rfl rfl rfl h2 rfl rfl ?_;refine Q239 h2 ?_;refine Q96 ?_;refine s_cond rfl (fun h3=>?_) (fun h3=>?_)
   ·have k3:=h3;try simp only [zs] at k3
    refine Q0 ?_;refine Q20 ?_;refine⟨congrArg (fun b=>AVal.raw (.bool b)) ?_,Mem.le_upd (Mem.le_refl M) hB1⟩;simp_all [isB]
   ·have k3:=h3;try simp only [zs] at k3
    refine Q148 ?_;refine Q91 ?_;refine Q123 ?_;refine Q22 fo45_0 ?_;refine Q257 ag3 sz3 ?_;refine Q163 ?_;refine Q22 fo198_1 ?_;refine Q155 und196 sz195 ?_;refine Q275 ag195 sz195 ?_;refine Q3 ?_;refine o_alloc zc195 (fun B2 hB2=>?_);have n3:s≠B2:=ne_fresh hB2 (Mem.upd_ne n1 hs);have n4:c≠B2:=ne_fresh hB2 (Mem.upd_ne n2 hc);have n5:B1≠B2:=ne_fresh hB2 (Mem.upd_self _ _ _);refine o_nil ⟨(by simp [Mem.upd, *]),?_⟩;refine Q3 ?_;refine Q6 sz195 ?_;refine o_nil ⟨(by simp [Mem.upd, *]),?_⟩;refine d_nil ?_;refine Q91 ?_;refine Q22 fo195_0 ?_;refine Q257 ag3 sz3 ?_;refine Q22 fo45_1 ?_;refine Q257 ag3 sz3 ?_;refine d_q rfl (q_eql rfl rfl) rfl rfl rfl ?_;refine Q14 ?_;refine d_cases (want:=true) (j:=5) rfl rfl (fun h4=>?_) (fun h4=>?_)
    ·have k4:=h4;try simp only [zs] at k4
     refine Q162 h4 ?_;refine Q200 h4 ?_;refine Q161 fo198_2 h4 ?_;refine Q238 ag192 sz192 h4 ?_;refine Q161 fo195_1 h4 ?_;refine Q238 ag3 sz3 h4 ?_;refine Q3 ?_;refine Q16 h4 ?_;refine o_callv rfl (snd173' now c _ mmQ (by omega)) goes173 (ac (v_raw rfl) ac_nil) rfl rfl ?_;rintro r M' ⟨rfl,rfl⟩;refine o_nil ⟨(by simp [Mem.upd, *]),?_⟩;refine d_yes rfl (q_sub rfl rfl (wrap64 (by omega) (by omega))) rfl rfl rfl h4 rfl rfl ?_;refine d_yes rfl (q_lss rfl rfl) rfl rfl rfl h4 rfl rfl ?_;refine Q239 h4 ?_;refine Q125 ?_;refine⟨congrArg (fun b=>AVal.raw (.bool b)) ?_,Mem.le_upd (Mem.le_upd (Mem.le_upd (Mem.le_refl M) hB1) (Mem.upd_none hB2).2) (Mem.upd_none hB2).2⟩;simp_all [isB]
    ·have k4:=h4;try simp only [zs] at k4
     iterate 3 refine Q66 h4 h4 ?_
     refine Q3 ?_;refine Q156 h4 ?_;refine o_nil ⟨(by simp [Mem.upd, *]),?_⟩;refine Q66 h4 h4 ?_;refine Q239 h4 ?_;refine Q125 ?_;refine⟨congrArg (fun b=>AVal.raw (.bool b)) ?_,Mem.le_upd (Mem.le_upd (Mem.le_upd (Mem.le_refl M) hB1) (Mem.upd_none hB2).2) (Mem.upd_none hB2).2⟩;simp_all [isB]
  ·have k2:=h2;try simp only [zs] at k2
   iterate 4 refine Q66 h2 h2 ?_
   refine Q239 h2 ?_;refine Q96 ?_;refine Q116 ?_;refine Q0 ?_;refine Q20 ?_;refine⟨congrArg (fun b=>AVal.raw (.bool b)) ?_,Mem.le_upd (Mem.le_refl M) hB1⟩;simp_all [isB]
def tk66:Nat->Nat->Option Nat
 | 1,0=>some 0
 | 9,0=>some 0
 | 9,4=>some 0
 | _,_=>none
def pl66:Nat->List PStep:=fun _=>[]
theorem cb66:Tryz.f66.body.map (codeB Tryz.prog Tryz.f66.ntmps tk66 pl66)=some true:=by kernel_rfl
theorem goes66:goesB Tryz.prog 66=true:=by kernel_rfl
def arr (f:Nat->Int×Int):List AVal:=[int (f 0).1,int (f 0).2,int (f 1).1,int (f 1).2,int (f 2).1,int (f 2).2,int (f 3).1,int (f 3).2,int (f 4).1,int (f 4).2,int (f 5).1,int (f 5).2,int (f 6).1,int (f 6).2]
theorem arr_pair {f:Nat->Int×Int}{k:Nat}(h:k<7):piece true (arr f) ((k:Int).toNat*2) 2=some (.agg [int (f k).1,int (f k).2]):=by
 have:k=0\/k=1\/k=2\/k=3\/k=4\/k=5\/k=6:=by omega
 rcases this with h|h|h|h|h|h|h<;>subst h<;>rfl
def memAt (self:Mb)(f:Nat->Int×Int)(i:Nat):Mb:=if (i:Int)=self.node then self else ⟨i,(f i).1⟩
def aliveN (self:Mb)(f:Nat->Int×Int)(now:Int):Nat->List Mb
 | 0=>[]
 | n+1=>aliveN self f now n++if isB self f now (memAt self f n) then [memAt self f n] else []
theorem aliveN_succ (self:Mb)(f:Nat->Int×Int)(now:Int)(n:Nat):aliveN self f now (n+1)=aliveN self f now n++if isB self f now (memAt self f n) then [memAt self f n] else []:=rfl
theorem aliveN_len (self:Mb)(f:Nat->Int×Int)(now:Int):∀ n,(aliveN self f now n).length<=n
 | 0=>Nat.le_refl _
 | n+1=>by
  have:=aliveN_len self f now n;rw [aliveN_succ,List.length_append];split<;>simp<;>omega
theorem elsM {l:List Mb}:Els 2 (l.map encMb):=Els.map fun _=>⟨rfl,rfl⟩
theorem snd66 (s c:Nat)(self:Mb)(f:Nat->Int×Int)(now:Int)(M:Mem)(hs:M s=some (.cells (sus self f c)))(hc:M c=some (.cells [int now]))(hsc:s≠c)(hw:0<=now/\now<2^60)(hf:∀ i,0<=(f i).2/\(f i).2<=now):SoundCall Tryz.prog 66 [ptr s] M fun r M'=>r = .sl ((aliveN self f now 7).map encMb) false/\M.le M':=by
 refine SoundCall.go tk66 pl66 mixed Tryz.func66 cb66 rfl (Nat.le_of_ble_eq_true rfl) ?_;refine Q104 ?_;refine Q1 ?_;refine Q93 ?_;refine Q48 ?_;refine Q10 ?_;refine Q25 fo198_1 ?_;refine o_q (q_ldm ag196 sz196 rfl mmQ (by first|rfl|exact arr_pair (by omega)) (v_agg rfl)) rfl rfl rfl ?_;refine Q52 ?_;refine s_loop (fun m S=>∃ T,∃ M':Mem,∃ i:Nat,S=⟨setT (setT (setT (setT T 0 (ptr s)) 3 (.sl ((aliveN self f now i).map encMb) true)) 10 (.agg (arr f))) 11 (int i),M'⟩/\M.le M'/\M' s=some (.cells (sus self f c))/\M' c=some (.cells [int now])/\i<=7/\m=7 - i) 7 ?_ ?_
 ·exact⟨_,_,0,St.mkT (kp (kp (kp (kp rfl rfl) rfl) rfl) rfl).symm,Mem.le_refl M,hs,hc,by omega,rfl⟩
 rintro m S ⟨T,M',i,rfl,hle,hs',hc',hi,rfl⟩;have hlen:=aliveN_len self f now i;refine Q50 ?_;refine s_cond rfl (fun h1=>?_) (fun h1=>?_)
 ·have k1:=h1;try simp only [zs] at k1
  refine Q78 ?_;refine Q5 ?_;refine o_q (q_ix und196 sz195 ag195 rfl rfl (by omega) (by omega) (by first|rfl|exact arr_pair (by omega)) (v_agg rfl)) rfl rfl rfl ?_;refine o_alloc zc195 (fun B1 hB1=>?_);have n1:s≠B1:=ne_fresh hB1 hs';have n2:c≠B1:=ne_fresh hB1 hc';refine Q28 ?_;refine Q118 sz195 ?_;refine Q5 ?_;refine Q29 fo195_0 ?_;refine o_q (q_ldm ag3 sz3 rfl mmQ (by first|rfl|exact arr_pair (by omega)) (v_raw rfl)) rfl rfl rfl ?_;refine Q179 bz45 bp45 fo45_0 fo45_1 ?_;refine o_alloc zc45 (fun B2 hB2=>?_);have n3:s≠B2:=ne_fresh hB2 (Mem.upd_ne n1 (Mem.upd_ne n1 hs'));have n4:c≠B2:=ne_fresh hB2 (Mem.upd_ne n2 (Mem.upd_ne n2 hc'));refine Q118 sz45 ?_;refine Q9 ?_;refine Q10 ?_;refine Q25 fo198_0 ?_;refine Q29 fo45_0 ?_;refine o_q (q_ldm ag3 sz3 rfl mmQ (by first|rfl|exact arr_pair (by omega)) (v_raw rfl)) rfl rfl rfl ?_;refine Q129 ?_;refine s_cond rfl (fun h2=>?_) (fun h2=>?_)
  ·have k2:=h2;try simp only [zs] at k2
   refine Q19 ?_;refine Q10 ?_;refine Q25 fo198_0 ?_;refine o_q (q_ldm ag45 sz45 rfl mmQ (by first|rfl|exact arr_pair (by omega)) (v_agg rfl)) rfl rfl rfl ?_;refine Q118 sz45 ?_;refine Q18 ?_;refine Q45 ag45 sz45 ?_;refine o_call ((snd64 s c self f now self _ mmQ mmQ hsc hw hf).det) goes64 (ac (mvQ) (ac (v_agg rfl) ac_nil)) rfl ?_;refine Q1 ?_;refine s_cond rfl (fun h3=>?_) (fun h3=>?_)
   ·have k3:=h3;try simp only [zs] at k3
    refine Q19 ?_;refine Q94 ?_;refine Q45 ag45 sz45 ?_;refine Q107 slt51 ?_;refine Q276 slt51 ?_;refine Q128 ?_;refine Q36 ?_;refine⟨7 - (i+1),by omega,_,_,i+1,St.mkT (kp (kp (kp (kp rfl rfl) (show _=AVal.sl ((aliveN self f now (i+1)).map encMb) true by rw [aliveN_succ,if_pos (by rw [memAt,if_pos k2];exact k3),List.map_append,memAt];simp only [*,if_true,if_false];rfl)) rfl) rfl).symm,(by repeat first|exact hle|exact Mem.none_of_le hle hB1|exact Mem.none_of_le hle (Mem.upd_none (Mem.upd_none hB2).2).2|refine Mem.le_upd ?_ ?_),mmQ,mmQ,by omega,rfl⟩
   ·have k3:=h3;try simp only [zs] at k3
    refine Q13 ?_;refine Q36 ?_;refine⟨7 - (i+1),by omega,_,_,i+1,St.mkT (kp (kp (kp (kp rfl rfl) (show _=AVal.sl ((aliveN self f now (i+1)).map encMb) true by rw [aliveN_succ,if_neg (by rw [memAt,if_pos k2,k3];decide),List.append_nil];rfl)) rfl) rfl).symm,(by repeat first|exact hle|exact Mem.none_of_le hle hB1|exact Mem.none_of_le hle (Mem.upd_none (Mem.upd_none hB2).2).2|refine Mem.le_upd ?_ ?_),mmQ,mmQ,by omega,rfl⟩
  ·have k2:=h2;try simp only [zs] at k2
   refine Q13 ?_;refine Q18 ?_;refine Q45 ag45 sz45 ?_;refine o_call ((snd64 s c self f now ⟨i,(f i).1⟩ _ mmQ mmQ hsc hw hf).det) goes64 (ac (mvQ) (ac (v_agg rfl) ac_nil)) rfl ?_;refine Q1 ?_;refine s_cond rfl (fun h4=>?_) (fun h4=>?_)
   ·have k4:=h4;try simp only [zs] at k4
    refine Q19 ?_;refine Q94 ?_;refine Q45 ag45 sz45 ?_;refine Q107 slt51 ?_;refine Q276 slt51 ?_;refine Q128 ?_;refine Q36 ?_;refine⟨7 - (i+1),by omega,_,_,i+1,St.mkT (kp (kp (kp (kp rfl rfl) (show _=AVal.sl ((aliveN self f now (i+1)).map encMb) true by rw [aliveN_succ,if_pos (by rw [memAt,if_neg k2];exact k4),List.map_append,memAt];simp only [*,if_true,if_false];rfl)) rfl) rfl).symm,(by repeat first|exact hle|exact Mem.none_of_le hle hB1|exact Mem.none_of_le hle (Mem.upd_none (Mem.upd_none hB2).2).2|refine Mem.le_upd ?_ ?_),mmQ,mmQ,by omega,rfl⟩
   ·have k4:=h4;try simp only [zs] at k4
    refine Q13 ?_;refine Q36 ?_;refine⟨7 - (i+1),by omega,_,_,i+1,St.mkT (kp (kp (kp (kp rfl rfl) (show _=AVal.sl ((aliveN self f now (i+1)).map encMb) true by rw [aliveN_succ,if_neg (by rw [memAt,if_neg k2,k4];decide),List.append_nil];rfl)) rfl) rfl).symm,(by repeat first|exact hle|exact Mem.none_of_le hle hB1|exact Mem.none_of_le hle (Mem.upd_none (Mem.upd_none hB2).2).2|refine Mem.le_upd ?_ ?_),mmQ,mmQ,by omega,rfl⟩
 ·have k1:=h1;try simp only [zs] at k1
  refine Q117 ?_;refine Q49 ?_;refine Q42 ?_;refine Q103 ?_;have e:i=7:=by omega
  subst e;exact⟨rfl,hle⟩
theorem new7 (self:Mb)(M:Mem)(hr:rightMb self=true):SoundCall Tryz.prog 53 [encMb self] M fun r M'=>∃ s c,M s=none/\M c=none/\s≠c/\r = .tup [ptr s,int 0]/\M'=(M.upd c (.cells [int 0])).upd s (.cells (sus self (fun _=>(0,0)) c)):=by
 refine (snd53 self M).forgets fun r M' h=>?_
 rcases h with ⟨h1,-⟩|⟨-,s,c,h1,h2,h3,h4,h5⟩
 ·rw [hr] at h1;cases h1
 ·exact⟨_,h5,s,c,h1,h2,h3,h4,rfl⟩
end C17
