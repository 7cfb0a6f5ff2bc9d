import Derived.Test.YthmhdhmfkegpiaaGreatDoorHz
import Derived.Test.YthmhdhmfkegpiaaGreatDoorNn17
open Go Go.Proofs Go.Am
set_option linter.unusedVariables false
set_option linter.unusedSimpArgs false
set_option autoImplicit false
set_option maxHeartbeats 4000000
set_option maxRecDepth 20000
namespace C17
theorem ag51:aggT Tryz.prog 51=some false:=by kernel_rfl
theorem ag53:aggT Tryz.prog 53=some true:=by kernel_rfl
theorem fo53_0:fo Tryz.prog 53 0=some (0,1):=by kernel_rfl
theorem fo53_1:fo Tryz.prog 53 1=some (1,1):=by kernel_rfl
theorem sz51:sizeT Tryz.prog 51=some 1:=by kernel_rfl
theorem sz53:sizeT Tryz.prog 53=some 2:=by kernel_rfl
def tk133:Nat->Nat->Option Nat:=fun _ _=>none
def pl133:Nat->List PStep:=fun _=>[]
theorem cb133:Tryz.f133.body.map (codeB Tryz.prog Tryz.f133.ntmps tk133 pl133)=some true:=by kernel_rfl
theorem goes133:goesB Tryz.prog 133=true:=by kernel_rfl
structure Vw where
 n:Int
 ms:List Mb
def encV (v:Vw):AVal:=.agg [int v.n,.sl (v.ms.map encMb) false]
def vC (v:Vw):List AVal:=[int v.n,.sl (v.ms.map encMb) false]
theorem elsMb {l:List Mb}:Els 2 (l.map encMb):=Els.map fun _=>⟨rfl,rfl⟩
def riseV:Int->List Mb->Bool
 | _,[]=>true
 | a,m::l=>rightMb m && decide (a<m.node) && riseV m.node l
theorem riseV_drop {l:List Mb}{a:Int}{i:Nat}(hi:i<l.length):riseV a (l.drop i)=(rightMb l[i] && decide (a<l[i].node) && riseV l[i].node (l.drop (i+1))):=by
 rw [List.drop_eq_getElem_cons hi];rfl
theorem riseV_facts:∀ {l:List Mb} {a:Int},riseV a l=true->(∀ m∈l,rightMb m=true/\a<m.node)/\(l.map Mb.node).Pairwise (· < ·)
 | [],a,h=>⟨fun m hm=>absurd hm List.not_mem_nil,List.Pairwise.nil⟩
 | m::l,a,h=>by
  unfold riseV at h;simp only [Bool.and_eq_true,decide_eq_true_eq] at h;obtain⟨h1,h2⟩:=riseV_facts h.2;refine⟨fun x hx=>?_,?_⟩
  ·rcases List.mem_cons.1 hx with rfl|hx
   ·exact h.1
   ·have:=h1 x hx;exact⟨this.1,by omega⟩
  ·rw [List.map_cons];refine List.Pairwise.cons (fun x hx=>?_) h2;obtain⟨y,hy,rfl⟩:=List.mem_map.1 hx;exact (h1 y hy).2
theorem riseV_len:∀ {l:List Mb} {a:Int},riseV a l=true->-1<=a->l.length<=(6 - a).toNat
 | [],a,_,_=>Nat.zero_le _
 | m::l,a,h,ha=>by
  have h0:=h;unfold riseV at h;simp only [Bool.and_eq_true,decide_eq_true_eq] at h;have h3:=riseV_len h.2 (by omega);have h4:=(rightMb_spec.1 h.1.1);rw [List.length_cons];omega
def rightV (v:Vw):Bool:=riseV (-1) v.ms && (decide (1<=v.n) && decide (v.n<=top53) && decide (0<v.ms.length))
theorem rightV_facts {v:Vw}(h:rightV v=true):(1<=v.n/\v.n<=top53)/\(0<v.ms.length/\v.ms.length<=7)/\∀ m∈v.ms,rightMb m=true:=by
 unfold rightV at h;simp only [Bool.and_eq_true,decide_eq_true_eq] at h;have:=riseV_len h.1 (by omega);exact⟨h.2.1,⟨h.2.2,by omega⟩,fun m hm=>((riseV_facts h.1).1 m hm).1⟩
def itMb (m:Mb):List Itm:=[⟨1,m.node.toNat,emp⟩,⟨3,m.life.toNat,emp⟩]
def itV (v:Vw)(i:Nat):List Itm:=⟨3,v.n.toNat,emp⟩::(v.ms.take i).flatMap itMb
def bytV (v:Vw):ByteArray:=encAll (itV v v.ms.length)
theorem itV_step {v:Vw}{i:Nat}(hi:i<v.ms.length):itV v i++itMb v.ms[i]=itV v (i+1):=by
 unfold itV;rw [List.take_succ_eq_append_getElem hi,List.flatMap_append,List.flatMap_singleton];rfl
theorem itV_len (v:Vw)(i:Nat):(itV v i).length<=1+2*i:=by
 unfold itV;rw [List.length_cons];have:∀ l:List Mb,(l.flatMap itMb).length=2*l.length:=fun l=>by
  induction l with
  | nil=>rfl
  | cons a l ih=>rw [List.flatMap_cons,List.length_append,ih,List.length_cons];show 2+_=_;omega
 rw [this,List.length_take];omega
theorem itV_ok {v:Vw}(h:rightV v=true)(i:Nat):∀ x∈itV v i,okI x:=by
 obtain⟨h1,h2,h3⟩:=rightV_facts h;have h53:top53=9007199254740991:=rfl;intro x hx;rcases List.mem_cons.1 hx with rfl|hx
 ·exact .inr (.inr (.inl ⟨rfl,by show v.n.toNat<_;omega,rfl⟩))
 ·obtain⟨m,hm,hx⟩:=List.mem_flatMap.1 hx;have h4:=rightMb_spec.1 (h3 m (List.mem_of_mem_take hm));simp only [itMb,List.mem_cons,List.not_mem_nil,or_false] at hx;rcases hx with rfl|rfl
  ·exact .inl ⟨rfl,by show m.node.toNat<_;omega,rfl⟩
  ·exact .inr (.inr (.inl ⟨rfl,by show m.life.toNat<_;omega,rfl⟩))
theorem encNn {k n:Int}(h:0<=n):AVal.agg [int k,.raw (.int .u64 n),.raw (.string { data:=#[] })]=encIt ⟨k,n.toNat,emp⟩:=by
 have e:((n.toNat:Nat):Int)=n:=Int.toNat_of_nonneg h;show _=AVal.agg [int k,.raw (.int .u64 ((n.toNat:Nat):Int)),str emp]
 rw [e];rfl
theorem snd133 (v:Vw)(x:Mb)(M:Mem)(hl:v.ms.length<2^60):SoundCall Tryz.prog 133 [encV v,encMb x] M fun r M'=>r=bool (decide (x∈v.ms))/\M.le M':=by
 have hml:(v.ms.map encMb).length=v.ms.length:=List.length_map _;have hle:=Mem.le_refl M;refine SoundCall.go tk133 pl133 mixed Tryz.func133 cb133 rfl (Nat.le_of_ble_eq_true rfl) ?_;refine Q0 ?_;refine o_box zbx rfl rfl (fun B1 hB1=>?_);refine o_box zbx rfl rfl (fun B2 hB2=>?_);have f12:B1≠B2:=Mem.fresh_ne hB2 (Mem.upd_self _ _ _);have f21:=f12.symm;have n2:M B2=none:=(Mem.upd_none hB2).2;refine Q127 ?_;refine Q133 fo53_1 ag51 sz51 ?_;refine Q85 und51 ?_;refine Q52 ?_;refine s_loop (fun m S=>∃ T,∃ Mc:Mem,∃ i:Nat, S=⟨setT (setT (setT (setT (setT T 2 (ptr B1)) 3 (ptr B2)) 8 (.sl (v.ms.map encMb) false)) 9 (int (v.ms.length:Nat))) 10 (int (i:Nat)),Mc⟩/\Mc B1=some (.cells (vC v))/\Mc B2=some (.cells [int x.node,int x.life])/\M.le Mc/\(∀ q,∀ h:q<v.ms.length,q<i->v.ms[q]≠x)/\i<=v.ms.length/\m=v.ms.length - i) v.ms.length ?_ ?_
 ·exact⟨_,_,0,St.mkT (kp (kp (kp (kp (kp rfl rfl) rfl) rfl) (congrArg (fun q:Nat=>int (q:Int)) hml)) rfl).symm,mmQ,mmQ,(by repeat first|exact hle|exact Mem.le_refl _|assumption|exact Mem.none_of_le hle (by assumption)|exact n2|exact n3|exact n4|refine Mem.le_upd ?_ ?_),(fun q h h2=>absurd h2 (Nat.not_lt_zero q)),Nat.zero_le _,rfl⟩
 rintro m S ⟨T,Mc,i,rfl,hc1,hc2,hle,hlow,hi,rfl⟩;refine Q50 ?_;refine s_cond rfl (fun h1=>?_) (fun h1=>?_)
 ·have k1:=h1;try simp only [zs] at k1
  have hi2:i<v.ms.length:=by omega
  refine Q86 ?_;refine Q73 und51 sz45 ?_;refine Q177 ag45 sz45 ?_;refine o_alloc zc45 (fun B3 hB3=>?_);have f13:B1≠B3:=Mem.fresh_ne hB3 hc1;have f31:=f13.symm;have f23:B2≠B3:=Mem.fresh_ne hB3 hc2;have f32:=f23.symm;have n3:M B3=none:=Mem.none_of_le hle hB3;refine Q118 sz45 ?_;refine Q34 ag45 sz45 ?_;refine Q87 ag45 sz45 ?_;refine o_q (q_bin' rfl rfl (binEqM _ _ v.ms[i] x)) rfl rfl rfl ?_;refine Q1 ?_;refine s_cond rfl (fun h2=>?_) (fun h2=>?_)
  ·have k2:=h2;try simp only [zs] at k2
   refine Q0 ?_;refine Q54 ?_;refine Q121 ?_;have e:v.ms[i]=x:=by simpa using h2
   exact⟨congrArg bool (decide_eq_true (by rw [← e];exact List.getElem_mem hi2)).symm,(by repeat first|exact hle|exact Mem.le_refl _|assumption|exact Mem.none_of_le hle (by assumption)|exact n2|exact n3|exact n4|refine Mem.le_upd ?_ ?_)⟩
  ·have k2:=h2;try simp only [zs] at k2
   refine Q13 ?_;refine Q36 ?_;exact⟨v.ms.length - (i+1),by omega,_,_,i+1,St.mkT (kp (kp (kp (kp (kp rfl rfl) rfl) rfl) rfl) rfl).symm,mmQ,mmQ,(by repeat first|exact hle|exact Mem.le_refl _|assumption|exact Mem.none_of_le hle (by assumption)|exact n2|exact n3|exact n4|refine Mem.le_upd ?_ ?_),(fun q h h2'=>(Nat.lt_succ_iff_lt_or_eq.1 h2').elim (fun h3=>hlow q h h3) fun e=>by subst e;simpa using h2),by omega,rfl⟩
 ·have k1:=h1;try simp only [zs] at k1
  refine Q117 ?_;refine Q4 ?_;have e:x ∉ v.ms:=fun hx=>by
   obtain⟨q,hq,e⟩:=List.mem_iff_getElem.1 hx;exact hlow q hq (by omega) e
  exact⟨congrArg bool (decide_eq_false e).symm,(by repeat first|exact hle|exact Mem.le_refl _|assumption|exact Mem.none_of_le hle (by assumption)|exact n2|exact n3|exact n4|refine Mem.le_upd ?_ ?_)⟩
def tk174:Nat->Nat->Option Nat:=fun _ _=>none
def pl174:Nat->List PStep:=fun _=>[]
theorem cb174:Tryz.f174.body.map (codeB Tryz.prog Tryz.f174.ntmps tk174 pl174)=some true:=by kernel_rfl
theorem goes174:goesB Tryz.prog 174=true:=by kernel_rfl
theorem snd174 (v:Vw)(M:Mem)(hl:v.ms.length<2^60):SoundCall Tryz.prog 174 [encV v] M fun r M'=>r=bool (rightV v)/\M.le M':=by
 have hml:(v.ms.map encMb).length=v.ms.length:=List.length_map _;have hle:=Mem.le_refl M;refine SoundCall.go tk174 pl174 mixed Tryz.func174 cb174 rfl (Nat.le_of_ble_eq_true rfl) ?_;refine Q0 ?_;refine o_box zbx rfl rfl (fun B1 hB1=>?_);refine Q7 ?_;refine Q15 ?_;refine Q31 ?_;refine Q133 fo53_1 ag51 sz51 ?_;refine Q85 und51 ?_;refine Q52 ?_;refine s_loop (fun m S=>∃ T,∃ Mc:Mem,∃ i:Nat,∃ a:Int,S=⟨setT (setT (setT (setT (setT T 1 (ptr B1)) 3 (int a)) 7 (.sl (v.ms.map encMb) false)) 8 (int (v.ms.length:Nat))) 9 (int (i:Nat)),Mc⟩/\Mc B1=some (.cells (vC v))/\M.le Mc/\riseV a (v.ms.drop i)=riseV (-1) v.ms/\i<=v.ms.length/\m=v.ms.length - i) v.ms.length ?_ ?_
 ·exact⟨_,_,0,-1,St.mkT (kp (kp (kp (kp (kp rfl rfl) rfl) rfl) (congrArg (fun q:Nat=>int (q:Int)) hml)) rfl).symm,mmQ,(by repeat first|exact hle|exact Mem.le_refl _|assumption|exact Mem.none_of_le hle (by assumption)|exact n2|exact n3|exact n4|refine Mem.le_upd ?_ ?_),rfl,Nat.zero_le _,rfl⟩
 rintro m S ⟨T,Mc,i,a,rfl,hc1,hle,hrs,hi,rfl⟩;refine Q50 ?_;refine s_cond rfl (fun h1=>?_) (fun h1=>?_)
 ·have k1:=h1;try simp only [zs] at k1
  have hi2:i<v.ms.length:=by omega
  have hd:=riseV_drop (a:=a) hi2;refine Q86 ?_;refine Q73 und51 sz45 ?_;refine Q177 ag45 sz45 ?_;refine o_alloc zc45 (fun B2 hB2=>?_);have f12:B1≠B2:=Mem.fresh_ne hB2 hc1;have f21:=f12.symm;have n2:M B2=none:=Mem.none_of_le hle hB2;refine Q6 sz45 ?_;refine Q48 ?_;refine Q45 ag45 sz45 ?_;refine o_call (((snd51 v.ms[i] _).det)) goes51 (ac (v_agg rfl) ac_nil) rfl ?_;refine Q90 ?_;refine Q17 fo45_0 ag3 sz3 ?_;refine Q97 ?_;refine o_g (G:=true) rfl rfl rfl rfl rfl (fun hG hc=>(q_leq (gv_on (gv_and hG hc) rfl) (gv_on (gv_and hG hc) rfl))) ?_;refine Q44 ?_;refine Q1 ?_;refine s_cond rfl (fun h2=>?_) (fun h2=>?_)
  ·have k2:=h2;try simp only [zs] at k2
   refine Q0 ?_;refine Q54 ?_;refine s_code_ret ?_;refine Q121 ?_;have h3:rightMb v.ms[i]=false\/v.ms[i].node<=a:=by simpa using h2
   have e:riseV (-1) v.ms=false:=by
    rw [← hrs,hd];rcases h3 with h3|h3
    ·rw [h3];rfl
    ·rw [decide_eq_false (by omega),Bool.and_false,Bool.false_and]
   exact⟨congrArg bool (by unfold rightV;rw [e];rfl),(by repeat first|exact hle|exact Mem.le_refl _|assumption|exact Mem.none_of_le hle (by assumption)|exact n2|exact n3|exact n4|refine Mem.le_upd ?_ ?_)⟩
  ·have k2:=h2;try simp only [zs] at k2
   refine Q13 ?_;refine Q19 ?_;refine Q12 fo45_0 ag3 sz3 ?_;refine Q7 ?_;refine Q36 ?_;have h3:rightMb v.ms[i]=true/\a<v.ms[i].node:=by simpa using h2
   exact⟨v.ms.length - (i+1),by omega,_,_,i+1,v.ms[i].node,St.mkT (kp (kp (kp (kp (kp rfl rfl) rfl) rfl) rfl) rfl).symm,mmQ,(by repeat first|exact hle|exact Mem.le_refl _|assumption|exact Mem.none_of_le hle (by assumption)|exact n2|exact n3|exact n4|refine Mem.le_upd ?_ ?_),(by rw [hd,h3.1,decide_eq_true h3.2] at hrs;simpa using hrs),by omega,rfl⟩
 ·have k1:=h1;try simp only [zs] at k1
  refine Q35 ?_;refine Q27 fo53_0 ag3 sz3 ?_;refine Q23 ?_;refine Q17 fo53_0 ag3 sz3 ?_;refine Q193 ?_;refine Q53 ?_;refine Q2 ?_;refine Q169 fo53_1 ?_;refine Q256 ag51 sz51 ?_;refine Q185 und51 ?_;refine o_g (G:=true) rfl rfl rfl rfl rfl (fun hG hc=>(q_gtr (gv_on (gv_and hG hc) rfl) rfl)) ?_;refine Q53 ?_;refine Q4 ?_;exact⟨congrArg bool (by
   unfold rightV;rw [← hrs,List.drop_of_length_le (by omega)];simp [riseV]),(by repeat first|exact hle|exact Mem.le_refl _|assumption|exact Mem.none_of_le hle (by assumption)|exact n2|exact n3|exact n4|refine Mem.le_upd ?_ ?_)⟩
def tk68:Nat->Nat->Option Nat:=fun _ _=>none
def pl68:Nat->List PStep:=fun _=>[]
theorem cb68:Tryz.f68.body.map (codeB Tryz.prog Tryz.f68.ntmps tk68 pl68)=some true:=by kernel_rfl
theorem goes68:goesB Tryz.prog 68=true:=by kernel_rfl
theorem snd68 (v:Vw)(M:Mem)(hl:v.ms.length<2^60):SoundCall Tryz.prog 68 [encV v] M fun r M'=>r=int ((v.ms.length / 2+1:Nat):Int)/\M.le M':=by
 have hml:(v.ms.map encMb).length=v.ms.length:=List.length_map _;have hle:=Mem.le_refl M;have htd:(((v.ms.map encMb).length:Nat):Int).tdiv 2=((v.ms.length / 2:Nat):Int):=by rw [hml];rfl
 refine SoundCall.go tk68 pl68 mixed Tryz.func68 cb68 rfl (Nat.le_of_ble_eq_true rfl) ?_;refine Q0 ?_;refine o_box zbx rfl rfl (fun B1 hB1=>?_);refine Q138 ?_;refine Q133 fo53_1 ag51 sz51 ?_;refine Q85 und51 ?_;refine o_q (q_quo rfl rfl (by omega) (wrap64 (by omega) (by omega))) rfl rfl rfl ?_;refine Q113 ?_;refine Q4 ?_;exact⟨congrArg int (by omega),(by repeat first|exact hle|exact Mem.le_refl _|assumption|exact Mem.none_of_le hle (by assumption)|exact n2|exact n3|exact n4|refine Mem.le_upd ?_ ?_)⟩
def tk115:Nat->Nat->Option Nat
 | 3,5=>some 0
 | 7,0=>some 0
 | 7,11=>some 0
 | _,_=>none
def pl115:Nat->List PStep:=fun _=>[]
theorem cb115:Tryz.f115.body.map (codeB Tryz.prog Tryz.f115.ntmps tk115 pl115)=some true:=by kernel_rfl
theorem goes115:goesB Tryz.prog 115=true:=by kernel_rfl
theorem itV_put {v:Vw}{i:Nat}(hi:i<v.ms.length)(h1:0<=v.ms[i].node)(h2:0<=v.ms[i].life):(itV v i).map encIt++[.agg [int 1,.raw (.int .u64 v.ms[i].node),.raw (.string { data:=#[] })],.agg [int 3,.raw (.int .u64 v.ms[i].life),.raw (.string { data:=#[] })]]=(itV v (i+1)).map encIt:=by
 rw [encNn h1,encNn h2,← itV_step hi,List.map_append];rfl
theorem snd115 (v:Vw)(ge:TypeId)(gf:Nat×Nat)(M:Mem)(hG:M 0=some (szO ge gf))(hl:v.ms.length<2^60):SoundCall Tryz.prog 115 [encV v] M fun r M'=>r = .tup [str (if rightV v then bytV v else emp),int (if rightV v then 0 else 1)]/\M.le M':=by
 have hml:(v.ms.map encMb).length=v.ms.length:=List.length_map _;have hle:=Mem.le_refl M;have h53:top53=9007199254740991:=rfl;refine SoundCall.go tk115 pl115 mixed Tryz.func115 cb115 rfl (Nat.le_of_ble_eq_true rfl) ?_;refine Q0 ?_;refine o_box zbx rfl rfl (fun B1 hB1=>?_);refine Q26 ?_;refine Q31 ?_;refine Q45 ag53 sz53 ?_;refine o_call (((snd174 v _ hl).det)) goes174 (ac (v_agg rfl) ac_nil) rfl ?_;refine Q59 ?_;refine s_cond rfl (fun h1=>?_) (fun h1=>?_)
 ·have k1:=h1;try simp only [zs] at k1
  refine Q47 ?_;refine Q11 ?_;have hr:rightV v=false:=by simpa using h1
  exact ret_many (.inl rfl) rfl (rl_t rfl (rl_t rfl (rl_nil))) rfl (⟨by rw [hr];rfl,(by repeat first|exact hle|exact Mem.le_refl _|assumption|exact Mem.none_of_le hle (by assumption)|exact n2|exact n3|exact n4|refine Mem.le_upd ?_ ?_)⟩)
 ·have k1:=h1;try simp only [zs] at k1
  have hr:rightV v=true:=by simpa using h1
  obtain⟨b1,b2,b3⟩:=rightV_facts hr;refine Q13 ?_;refine Q27 fo53_0 ag3 sz3 ?_;refine Q141 und3 und104 ?_;refine Q159 bz106 bp106 fo106_0 fo106_1 ?_;refine Q107 slt103 ?_;refine Q151 ?_;refine Q48 ?_;refine Q133 fo53_1 ag51 sz51 ?_;refine Q85 und51 ?_;refine Q52 ?_;refine s_loop (fun m S=>∃ T,∃ Mc:Mem,∃ i:Nat, S=⟨setT (setT (setT (setT (setT T 1 (ptr B1)) 4 (.sl ((itV v i).map encIt) true)) 16 (.sl (v.ms.map encMb) false)) 17 (int (v.ms.length:Nat))) 18 (int (i:Nat)),Mc⟩/\Mc B1=some (.cells (vC v))/\M.le Mc/\True/\i<=v.ms.length/\m=v.ms.length - i) v.ms.length ?_ ?_
  ·exact⟨_,_,0,St.mkT (kp (kp (kp (kp (kp rfl rfl) (congrArg (fun q=>AVal.sl q true) (show [_]=[encIt ⟨3,v.n.toNat,emp⟩] by rw [← encNn (k:=3) (show 0<=v.n by omega)];rfl))) rfl) (congrArg (fun q:Nat=>int (q:Int)) hml)) rfl).symm,mmQ,(by repeat first|exact hle|exact Mem.le_refl _|assumption|exact Mem.none_of_le hle (by assumption)|exact n2|exact n3|exact n4|refine Mem.le_upd ?_ ?_),trivial,Nat.zero_le _,rfl⟩
  rintro m S ⟨T,Mc,i,rfl,hc1,hle,-,hi,rfl⟩;refine Q50 ?_;refine s_cond rfl (fun h2=>?_) (fun h2=>?_)
  ·have k2:=h2;try simp only [zs] at k2
   have hi2:i<v.ms.length:=by omega
   have hm:=rightMb_spec.1 (b3 _ (List.getElem_mem hi2));have hlf:=itV_len v i;refine Q86 ?_;refine Q73 und51 sz45 ?_;refine Q177 ag45 sz45 ?_;refine o_alloc zc45 (fun B2 hB2=>?_);have f12:B1≠B2:=Mem.fresh_ne hB2 hc1;have f21:=f12.symm;have n2:M B2=none:=Mem.none_of_le hle hB2;refine Q118 sz45 ?_;refine Q19 ?_;refine Q94 ?_;refine Q12 fo45_0 ag3 sz3 ?_;refine Q141 und3 und104 ?_;refine Q159 bz106 bp106 fo106_0 fo106_1 ?_;refine Q12 fo45_1 ag3 sz3 ?_;refine Q141 und3 und104 ?_;refine Q159 bz106 bp106 fo106_0 fo106_1 ?_;refine o_q (q_bs slt103 (pc (v_agg rfl) (pc (v_agg rfl) pn)) rfl (Els.cons rfl rfl (Els.cons rfl rfl Els.nil)) (by decide)) rfl rfl rfl ?_;refine Q258 slt103 ?_;refine Q128 ?_;refine Q36 ?_;exact⟨v.ms.length - (i+1),by omega,_,_,i+1,St.mkT (kp (kp (kp (kp (kp rfl rfl) (congrArg (fun q=>AVal.sl q true) (itV_put hi2 (by omega) (by omega)))) rfl) rfl) rfl).symm,mmQ,(by repeat first|exact hle|exact Mem.le_refl _|assumption|exact Mem.none_of_le hle (by assumption)|exact n2|exact n3|exact n4|refine Mem.le_upd ?_ ?_),trivial,by omega,rfl⟩
  ·have k2:=h2;try simp only [zs] at k2
   obtain rfl:i=v.ms.length:=by omega
   refine Q117 ?_;refine Q49 ?_;refine o_call (((snd42 (itV v v.ms.length) false ge gf _ (hle 0 _ hG) (by have:=itV_len v v.ms.length;omega) (itV_ok hr _)).det)) goes42 (ac (v_sl rfl) ac_nil) rfl ?_;refine Q79 ?_;refine Q28 ?_;refine Q4 ?_;exact ret_many (.inl rfl) rfl (rl_t rfl (rl_t rfl (rl_nil))) rfl (⟨by rw [hr];rfl,(by repeat first|exact hle|exact Mem.le_refl _|assumption|exact Mem.none_of_le hle (by assumption)|exact n2|exact n3|exact n4|refine Mem.le_upd ?_ ?_)⟩)
def tk116:Nat->Nat->Option Nat
 | 0,0=>some 0
 | 1,0=>some 0
 | 5,0=>some 0
 | 5,5=>some 0
 | 7,0=>some 0
 | 7,1=>some 0
 | _,_=>none
def pl116:Nat->List PStep:=fun _=>[]
theorem cb116:Tryz.f116.body.map (codeB Tryz.prog Tryz.f116.ntmps tk116 pl116)=some true:=by kernel_rfl
theorem goes116:goesB Tryz.prog 116=true:=by kernel_rfl
theorem itT_put {l:List ByteArray}{i:Nat}(hi:i<l.length):((l.take i).map itT).map encIt++[.agg [int 4,.raw (.int .u64 0),.raw (.string l[i])]]=((l.take (i+1)).map itT).map encIt:=by
 rw [List.take_succ_eq_append_getElem hi,List.map_append,List.map_append];rfl
theorem snd116 (l:List ByteArray)(o:Bool)(M:Mem)(hl:l.length<=1000):SoundCall Tryz.prog 116 [.sl (l.map str) o] M fun r M'=>r = .sl ((l.map itT).map encIt) true/\M'=M:=by
 have hml:(l.map str).length=l.length:=List.length_map _;refine SoundCall.go tk116 pl116 mixed Tryz.func116 cb116 rfl (Nat.le_of_ble_eq_true rfl) ?_;refine Q93 ?_;refine Q1 ?_;refine Q93 ?_;refine Q48 ?_;refine Q41 und24 ?_;refine Q52 ?_;refine s_loop (fun m S=>∃ T,∃ i:Nat,S=⟨setT (setT (setT (setT T 3 (.sl (((l.take i).map itT).map encIt) true)) 6 (.sl (l.map str) false)) 7 (int (l.length:Nat))) 8 (int (i:Nat)),M⟩/\i<=l.length/\m=l.length - i) l.length ?_ ?_
 ·exact⟨_,0,St.mkT (kp (kp (kp (kp rfl rfl) rfl) (congrArg (fun q:Nat=>int (q:Int)) hml)) rfl).symm,Nat.zero_le _,rfl⟩
 rintro m S ⟨T,i,rfl,hi,rfl⟩;refine Q50 ?_;refine s_cond rfl (fun h1=>?_) (fun h1=>?_)
 ·have k1:=h1;try simp only [zs] at k1
  have hi2:i<l.length:=by omega
  refine Q86 ?_;refine Q73 und24 sz9 ?_;refine Q134 ag9 sz9 ?_;refine Q7 ?_;refine Q19 ?_;refine Q94 ?_;refine Q2 ?_;refine Q194 bz106 bp106 fo106_0 fo106_2 ?_;refine Q107 slt103 ?_;refine Q258 slt103 ?_;refine Q128 ?_;refine Q36 ?_;exact⟨l.length - (i+1),by omega,_,i+1,St.mkT (kp (kp (kp (kp rfl (congrArg (fun q=>AVal.sl q true) (itT_put hi2))) rfl) rfl) rfl).symm,by omega,rfl⟩
 ·have k1:=h1;try simp only [zs] at k1
  have htk:l.take i=l:=List.take_of_length_le (by omega);refine Q117 ?_;refine Q94 ?_;refine Q151 ?_;refine Q103 ?_;rw [htk];exact⟨rfl,rfl⟩
def tk54:Nat->Nat->Option Nat:=fun _ _=>none
def pl54:Nat->List PStep:=fun _=>[]
theorem cb54:Tryz.f54.body.map (codeB Tryz.prog Tryz.f54.ntmps tk54 pl54)=some true:=by kernel_rfl
theorem goes54:goesB Tryz.prog 54=true:=by kernel_rfl
def szF (v:Vw)(log:List ByteArray)(i:Nat):Int:=(bytV v).size+4+(((log.take i).map fun s=>s.size+4).sum:Nat)
theorem szF_succ (v:Vw){log:List ByteArray}{i:Nat}(hi:i<log.length):szF v log (i+1)=szF v log i+((log[i].size:Int)+4):=by
 unfold szF;rw [List.take_succ_eq_append_getElem hi,List.map_append,List.sum_append];simp;omega
theorem szF_le {v:Vw}{log:List ByteArray}(hb:(bytV v).size<=2000000)(hsz:∀ s∈log,s.size<=100000)(i:Nat):4<=szF v log i/\szF v log i<=2000004+100004*(i:Nat):=by
 unfold szF;have:∀ l:List ByteArray,(∀ s∈l,s.size<=100000)->(l.map fun s=>s.size+4).sum<=100004*l.length:=fun l=>by
  induction l with
  | nil=>intro _;exact Nat.zero_le _
  | cons a l ih =>
   intro h;have h1:=ih fun s hs=>h s (List.mem_cons_of_mem _ hs)
   have h2:=h a List.mem_cons_self;rw [List.map_cons,List.sum_cons,List.length_cons];omega
 have h2:=this (log.take i) fun s hs=>hsz s (List.mem_of_mem_take hs)
 rw [List.length_take] at h2;omega
theorem bytV_size {v:Vw}(h:rightV v=true):(bytV v).size<=2000000:=by
 have h1:=encAll_size (itV v v.ms.length) (itV_ok h v.ms.length) _ (Nat.le_refl _);rw [List.take_length] at h1;have h2:=itV_len v v.ms.length;have h3:=(rightV_facts h).2.1.2;unfold bytV;omega
def encF (v:Vw)(log:List ByteArray):ByteArray×Int :=
 if rightV v=true then (if log.length<=990 then (if szF v log log.length<=100000 then (encAll (itT (bytV v)::log.map itT),0) else (emp,3)) else (emp,3)) else (emp,1)
theorem okF {h:ByteArray}{log:List ByteArray}(hz:h.size<=100000)(hsz:∀ s∈log,s.size<=100000):∀ x∈itT h::log.map itT,okI x:=fun x hx=>by
 rcases List.mem_cons.1 hx with rfl|hx
 ·exact .inr (.inr (.inr ⟨rfl,rfl,hz⟩))
 ·obtain⟨s,hs,rfl⟩:=List.mem_map.1 hx;exact .inr (.inr (.inr ⟨rfl,rfl,hsz s hs⟩))
theorem snd54 (v:Vw)(log:List ByteArray)(o:Bool)(ge:TypeId)(gf:Nat×Nat)(M:Mem)(hG:M 0=some (szO ge gf))(hl:v.ms.length<2^60)(hlg:log.length<2^60)(hsz:∀ s∈log,s.size<=100000):SoundCall Tryz.prog 54 [encV v,.sl (log.map str) o] M fun r M'=>r = .tup [str (encF v log).1,int (encF v log).2]/\M.le M':=by
 have hml:(log.map str).length=log.length:=List.length_map _;have hle:=Mem.le_refl M;refine SoundCall.go tk54 pl54 mixed Tryz.func54 cb54 rfl (Nat.le_of_ble_eq_true rfl) ?_;refine Q0 ?_;refine o_box zbx rfl rfl (fun B1 hB1=>?_);refine Q26 ?_;refine Q34 ag53 sz53 ?_;refine o_call (((snd115 v ge gf _ (Mem.le_upd (Mem.le_refl M) hB1 0 _ hG) hl).det)) goes115 (ac (v_agg rfl) ac_nil) rfl ?_;refine Q37 ?_;refine Q79 ?_;refine Q26 ?_;refine Q9 ?_;refine Q122 ?_;refine s_cond rfl (fun h1=>?_) (fun h1=>?_)
 ·have k1:=h1;try simp only [zs] at k1
  refine Q47 ?_;refine Q11 ?_;have hr:rightV v=false:=by
   cases h:rightV v
   ·rfl
   ·rw [h] at h1;simp at h1
  exact ret_many (.inl rfl) rfl (rl_t rfl (rl_t rfl (rl_nil))) rfl (⟨by rw [show encF v log=(emp,1) by unfold encF;rw [hr];rfl];rfl,(by repeat first|exact hle|exact Mem.le_refl _|assumption|exact Mem.none_of_le hle (by assumption)|exact n2|exact n3|exact n4|refine Mem.le_upd ?_ ?_)⟩)
 ·have k1:=h1;try simp only [zs] at k1
  have hr:rightV v=true:=by
   cases h:rightV v
   ·rw [h] at h1;simp at h1
   ·rfl
  have hbs:=bytV_size hr;have hbs2:(if rightV v=true then bytV v else emp).size<=2000000:=by rw [if_pos hr];exact hbs
  refine Q82 ?_;refine Q41 und24 ?_;refine Q102 ?_;refine s_cond rfl (fun h2=>?_) (fun h2=>?_)
  ·have k2:=h2;try simp only [zs] at k2
   refine Q47 ?_;refine Q11 ?_;exact ret_many (.inl rfl) rfl (rl_t rfl (rl_t rfl (rl_nil))) rfl (⟨by rw [show encF v log=(emp,3) by unfold encF;rw [if_pos hr,if_neg (show ¬ log.length<=990 by omega)]];rfl,(by repeat first|exact hle|exact Mem.le_refl _|assumption|exact Mem.none_of_le hle (by assumption)|exact n2|exact n3|exact n4|refine Mem.le_upd ?_ ?_)⟩)
  ·have k2:=h2;try simp only [zs] at k2
   have h990:log.length<=990:=by omega
   refine Q71 ?_;refine Q61 und9 ?_;refine Q113 ?_;refine Q127 ?_;refine Q41 und24 ?_;refine Q52 ?_;refine s_loop (fun m S=>∃ T,∃ i:Nat,S=⟨setT (setT (setT (setT (setT (setT (setT T 1 (.sl (log.map str) o)) 2 (ptr B1)) 6 (str (bytV v))) 8 (int (szF v log i))) 24 (.sl (log.map str) false)) 25 (int (log.length:Nat))) 26 (int (i:Nat)),(M.upd B1 (.cells (vC v)))⟩/\i<=log.length/\m=log.length - i) log.length ?_ ?_
   ·exact⟨_,0,St.mkT (kp (kp (kp (kp (kp (kp (kp rfl rfl) rfl) (congrArg str (if_pos hr))) (congrArg int (show _=szF v log 0 by rw [if_pos hr];unfold szF;simp))) rfl) (congrArg (fun q:Nat=>int (q:Int)) hml)) rfl).symm,Nat.zero_le _,rfl⟩
   rintro m S ⟨T,i,rfl,hi,rfl⟩;refine Q50 ?_;refine s_cond rfl (fun h3=>?_) (fun h3=>?_)
   ·have k3:=h3;try simp only [zs] at k3
    have hi2:i<log.length:=by omega
    have hsi:=hsz _ (List.getElem_mem hi2);have hzl:=szF_le hbs hsz i;refine Q86 ?_;refine Q73 und24 sz9 ?_;refine Q134 ag9 sz9 ?_;refine Q7 ?_;refine Q19 ?_;refine Q64 ?_;refine Q61 und9 ?_;refine Q113 ?_;refine Q113 ?_;refine Q7 ?_;refine Q36 ?_;exact⟨log.length - (i+1),by omega,_,i+1,St.mkT (kp (kp (kp (kp (kp (kp (kp rfl rfl) rfl) rfl) (congrArg int (szF_succ v hi2).symm)) rfl) rfl) rfl).symm,by omega,rfl⟩
   ·have k3:=h3;try simp only [zs] at k3
    obtain rfl:i=log.length:=by omega
    refine Q35 ?_;refine Q9 ?_;refine Q102 ?_;refine s_cond rfl (fun h4=>?_) (fun h4=>?_)
    ·have k4:=h4;try simp only [zs] at k4
     refine Q47 ?_;refine Q11 ?_;exact ret_many (.inl rfl) rfl (rl_t rfl (rl_t rfl (rl_nil))) rfl (⟨by rw [show encF v log=(emp,3) by unfold encF;rw [if_pos hr,if_pos h990,if_neg (show ¬ szF v log log.length<=100000 by omega)]];rfl,(by repeat first|exact hle|exact Mem.le_refl _|assumption|exact Mem.none_of_le hle (by assumption)|exact n2|exact n3|exact n4|refine Mem.le_upd ?_ ?_)⟩)
    ·have k4:=h4;try simp only [zs] at k4
     have h100:szF v log log.length<=100000:=by omega
     have hz0:(bytV v).size<=100000:=by unfold szF at h100;omega
     refine Q71 ?_;refine Q165 slt24 ?_;refine o_call ((snd116 [bytV v] false _ (by show 1<=1000;decide))) goes116 (ac (v_sl rfl) ac_nil) rfl ?_;refine Q49 ?_;refine o_call ((snd116 log false _ (by omega))) goes116 (ac (v_sl rfl) ac_nil) rfl ?_;refine Q258 slt103 ?_;refine o_call (((snd42 (itT (bytV v)::log.map itT) false ge gf _ (Mem.le_upd (Mem.le_refl M) hB1 0 _ hG) (by rw [List.length_cons,List.length_map];omega) (okF hz0 hsz)).det)) goes42 (ac (v_sl rfl) ac_nil) rfl ?_;refine Q79 ?_;refine Q28 ?_;refine Q4 ?_;exact ret_many (.inl rfl) rfl (rl_t rfl (rl_t rfl (rl_nil))) rfl (⟨by rw [show encF v log=(encAll (itT (bytV v)::log.map itT),0) by unfold encF;rw [if_pos hr,if_pos h990,if_pos h100]];rfl,(by repeat first|exact hle|exact Mem.le_refl _|assumption|exact Mem.none_of_le hle (by assumption)|exact n2|exact n3|exact n4|refine Mem.le_upd ?_ ?_)⟩)
end C17
