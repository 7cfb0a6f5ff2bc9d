import Derived.Test.YthmhdhmfkegpiaaGreatDoorHz
import Derived.Test.YthmhdhmfkegpiaaGreatDoorNn15
import Derived.Test.YthmhdhmfkegpiaaGreatDoorAmD
open Go Go.Proofs Go.Am
set_option linter.unusedVariables false
set_option linter.unusedSimpArgs false
set_option autoImplicit false
set_option maxHeartbeats 4000000
set_option maxRecDepth 20000
namespace C17
theorem fo213_0:fo Tryz.prog 213 0=some (0,1):=by kernel_rfl
theorem fo213_1:fo Tryz.prog 213 1=some (1,1):=by kernel_rfl
theorem fo213_2:fo Tryz.prog 213 2=some (2,1):=by kernel_rfl
theorem fo213_3:fo Tryz.prog 213 3=some (3,1):=by kernel_rfl
theorem fo213_4:fo Tryz.prog 213 4=some (4,1):=by kernel_rfl
theorem fo213_5:fo Tryz.prog 213 5=some (5,7):=by kernel_rfl
theorem und125:Tryz.prog.underlying 125=some (.array 7 3):=by kernel_rfl
theorem zc125:zeroCellsT Tryz.prog 125=some [.raw (.int .i64 0),.raw (.int .i64 0),.raw (.int .i64 0),.raw (.int .i64 0),.raw (.int .i64 0),.raw (.int .i64 0),.raw (.int .i64 0)]:=by kernel_rfl
def rsl (b n c:Nat):AVal:=.raw (.slice (some ⟨b,0,none⟩) n c)
def tk355:Nat->Nat->Option Nat:=fun _ _=>none
def pl355:Nat->List PStep:=fun _=>[]
theorem cb355:Tryz.f355.body.map (codeB Tryz.prog Tryz.f355.ntmps tk355 pl355)=some true:=by kernel_rfl
theorem goes355:goesB Tryz.prog 355=true:=by kernel_rfl
theorem snd355 (x:Int)(M:Mem):SoundCall Tryz.prog 355 [int x] M fun r M'=>r=bool false/\M'=M:=by
 refine SoundCall.go tk355 pl355 mixed Tryz.func355 cb355 rfl (Nat.le_of_ble_eq_true rfl) ?_;refine Q15 ?_;refine Q5 ?_;refine Q2 ?_;refine Q108 ?_;refine Q4 ?_;exact⟨congrArg bool (by simp),rfl⟩
def tk324:Nat->Nat->Option Nat:=fun _ _=>none
def pl324:Nat->List PStep:=fun _=>[]
theorem cb324:Tryz.f324.body.map (codeB Tryz.prog Tryz.f324.ntmps tk324 pl324)=some true:=by kernel_rfl
theorem goes324:goesB Tryz.prog 324=true:=by kernel_rfl
theorem snd324 (x y:Int)(M:Mem):SoundCall Tryz.prog 324 [int x,int y] M fun r M'=>r=bool (decide (x<y))/\M'=M:=by
 refine SoundCall.go tk324 pl324 mixed Tryz.func324 cb324 rfl (Nat.le_of_ble_eq_true rfl) ?_;refine Q15 ?_;refine Q5 ?_;refine o_call ((snd355 x _)) goes355 (ac (v_raw rfl) ac_nil) rfl ?_;refine Q99 ?_;refine Q21 ?_;refine Q69 ?_;refine Q74 ?_;refine Q109 ?_;refine Q21 ?_;refine Q4 ?_;exact⟨rfl,rfl⟩
def tk318:Nat->Nat->Option Nat:=fun _ _=>none
def pl318:Nat->List PStep
 | 4=>[.q 0,.q 1,.q 2,.q 3,.q 4,.q 5,.q 6,.q 7,.q 8,.q 9,.q 10,.q 11,.q 12,.s 13 [11,10,9,8,6,5,4,2,1,0],.q 14]
 | 6=>[.q 0,.q 1,.q 2,.q 3,.q 4,.q 5,.q 6,.q 7,.q 8,.q 9,.q 10,.q 11,.q 12,.q 13,.q 14,.s 15 [12,11,10,4,3,2],.q 16,.s 17 []]
 | _=>[]
theorem cb318:Tryz.f318.body.map (codeB Tryz.prog Tryz.f318.ntmps tk318 pl318)=some true:=by kernel_rfl
theorem goes318:goesB Tryz.prog 318=true:=by kernel_rfl
def Near (l:List Int)(i j:Nat):Prop:=∀ p q,∀ hq:q<l.length,∀ hpq:p<q,q<=i->q≠j->l[p]<=l[q]
abbrev swp (l:List Int)(j:Nat):List Int:=(l.set j (l.getD (j - 1) 0)).set (j - 1) (l.getD j 0)
theorem swp_len (l:List Int)(j:Nat):(swp l j).length=l.length:=by simp [swp]
theorem swp_get {l:List Int}{j p:Nat}(hj:j<l.length)(h0:0<j)(hp:p<(swp l j).length):(swp l j)[p]=if p=j - 1 then l[j] else if p=j then l[j - 1] else l[p]'(by rw [swp_len] at hp;exact hp):=by
 have hp':p<l.length:=by rw [swp_len] at hp;exact hp
 unfold swp;rw [List.getElem_set];by_cases h1:j - 1=p
 ·rw [if_pos h1,if_pos h1.symm];simp [List.getD,hj]
 ·rw [if_neg h1,if_neg (fun h=>h1 h.symm),List.getElem_set];by_cases h2:j=p
  ·rw [if_pos h2,if_pos h2.symm];simp [List.getD,show j - 1<l.length by omega]
  ·rw [if_neg h2,if_neg (fun h=>h2 h.symm)]
theorem near_swp {l:List Int}{i j:Nat}(h:Near l i j)(hi:i<l.length)(hj:j<=i)(h0:0<j)(hlt:l[j]'(by omega)<l[j - 1]'(by omega)):Near (swp l j) i (j - 1):=by
 intro p q hq hpq hqi hne;have hq':q<l.length:=by rw [swp_len] at hq;exact hq
 rw [swp_get (by omega) h0,swp_get (by omega) h0];by_cases e1:q=j
 ·subst e1;rw [if_neg hne,if_pos rfl];by_cases e2:p=q - 1
  ·rw [if_pos e2];omega
  ·rw [if_neg e2,if_neg (by omega)];exact h p (q - 1) (by omega) (by omega) (by omega) (by omega)
 ·rw [if_neg hne,if_neg e1];by_cases e2:p=j - 1
  ·rw [if_pos e2];subst e2;exact h j q hq' (by omega) hqi e1
  ·rw [if_neg e2];by_cases e3:p=j
   ·rw [if_pos e3];exact h (j - 1) q hq' (by omega) hqi e1
   ·rw [if_neg e3];exact h p q hq' hpq hqi e1
theorem near_done {l:List Int}{i j:Nat}(h:Near l i j)(hi:i<l.length)(hj:j<=i)(hok:j=0\/∃ h0:0<j,l[j - 1]'(by omega)<=l[j]'(by omega)):∀ p q,∀ hq:q<l.length,∀ hpq:p<q,q<=i->l[p]<=l[q]:=by
 intro p q hq hpq hqi;by_cases e:q=j
 ·subst e;rcases hok with h'|⟨h0,h'⟩
  ·omega
  ·by_cases e2:p=q - 1
   ·subst e2;exact h'
   ·exact Int.le_trans (h p (q - 1) (by omega) (by omega) (by omega) (by omega)) h'
 ·exact h p q hq hpq hqi e
theorem swp_perm {l:List Int}{j n:Nat}(hj:j<n)(hn:n<=l.length)(h0:0<j):((swp l j).take n).Perm (l.take n)/\(swp l j).drop n=l.drop n:=by
 have e:(swp l j).take n=((l.take n).set j ((l.take n)[j - 1]'(by rw [List.length_take];omega))).set (j - 1) ((l.take n)[j]'(by rw [List.length_take];omega)):=by
  unfold swp;rw [List.take_set,List.take_set];congr 1
  ·congr 1;rw [List.getElem_take];simp [List.getD,show j - 1<l.length by omega]
  ·rw [List.getElem_take];simp [List.getD,show j<l.length by omega]
 constructor
 ·rw [e];exact List.set_set_perm (by rw [List.length_take];omega) (by rw [List.length_take];omega)
 ·unfold swp;rw [List.drop_set_of_lt (by omega),List.drop_set_of_lt (by omega)]
def Srt (l l':List Int)(n k:Nat):Prop:=l'.length=l.length/\(l'.take n).Perm (l.take n)/\l'.drop n=l.drop n/\∀ p q,∀ hq:q<l'.length,∀ hpq:p<q,q<k->l'[p]<=l'[q]
theorem pcI {l:List Int}{off j:Nat}(h:off=j)(hj:j<l.length):piece false (l.map fun n=>(AVal.raw (.int .i64 n))) off 1=some (.raw (.int .i64 l[j])):=by
 subst h;show (l.map _)[off]? = _
 rw [List.getElem?_map,List.getElem?_eq_getElem hj];rfl
theorem sp_set {l:List Int}{off j:Nat}{v:Int}(h:off=j)(hj:j<l.length):splice (l.map fun n=>(AVal.raw (.int .i64 n))) off ((AVal.raw (.int .i64 v)).cells.map AVal.shut)=(l.set j v).map fun n=>(AVal.raw (.int .i64 n)):=by
 subst h;rw [List.set_eq_take_append_cons_drop,if_pos hj,List.map_append,List.map_cons,List.map_take,List.map_drop];show (l.map _).take off++[AVal.raw (.int .i64 v)]++(l.map _).drop (off+1)=_
 rw [List.append_assoc];rfl
theorem snd318 (b c n:Nat)(l:List Int)(M:Mem)(hb:M b=some (.cells (l.map fun n=>(AVal.raw (.int .i64 n)))))(hn:n<=l.length)(hl:l.length<2^40):SoundCall Tryz.prog 318 [rsl b n c,int 0,int n] M fun r M'=>∃ l',r = .tup []/\M'=M.upd b (.cells ((l').map fun n=>(AVal.raw (.int .i64 n))))/\Srt l l' n n:=by
 refine SoundCall.go tk318 pl318 mixed Tryz.func318 cb318 rfl (Nat.le_of_ble_eq_true rfl) ?_;refine Q5 ?_;refine Q113 ?_;refine Q130 ?_;refine s_loop (fun m S=>∃ T,∃ l':List Int,∃ i:Nat,S=⟨setT (setT (setT (setT T 0 (rsl b n c)) 1 (int 0)) 2 (int n)) 6 (int (i:Nat)),M.upd b (.cells ((l').map fun n=>(AVal.raw (.int .i64 n))))⟩/\Srt l l' n i/\1<=i/\i<=n+1/\m=n+2 - i) (n+1) ?_ ?_
 ·exact⟨_,l,1,(by rw [Mem.upd_same hb];exact St.mkT (kp (kp (kp (kp rfl rfl) rfl) rfl) rfl).symm),⟨rfl,List.Perm.refl _,rfl,fun p q hq hpq h=>by omega⟩,by omega,by omega,by omega⟩
 rintro m S ⟨T,l',i,rfl,⟨hs1,hs2,hs3,hs4⟩,hi1,hin,rfl⟩;refine Q9 ?_;refine Q2 ?_;refine Q84 ?_;refine s_cond rfl (fun h1=>?_) (fun h1=>?_)
 ·have k1:=h1;try simp only [zs] at k1
  refine Q78 ?_;refine Q5 ?_;refine Q130 ?_;refine s_loop (fun m S=>∃ T,∃ k:List Int,∃ j:Nat,S=⟨setT (setT (setT (setT (setT T 0 (rsl b n c)) 1 (int 0)) 2 (int n)) 6 (int (i:Nat))) 7 (int (j:Nat)),M.upd b (.cells ((k).map fun n=>(AVal.raw (.int .i64 n))))⟩/\k.length=l.length/\(k.take n).Perm (l.take n)/\k.drop n=l.drop n/\Near k i j/\j<=i/\m=j) i ?_ ?_
  ·exact⟨_,l',i,St.mkT (kp (kp (kp (kp (kp rfl rfl) rfl) rfl) rfl) rfl).symm,hs1,hs2,hs3,fun p q hq hpq hqi hne=>hs4 p q hq hpq (by omega),Nat.le_refl _,rfl⟩
  rintro m S ⟨T,k,j,rfl,hk1,hk2,hk3,hk4,hji,hmj⟩;subst hmj;refine s_seq ?_;refine Q91 ?_;refine Q14 ?_;refine Q14 ?_;refine d_q rfl (q_gtr rfl rfl) rfl rfl rfl ?_;refine Q14 ?_;refine d_cases (want:=true) (j:=3) rfl rfl (fun h2=>?_) (fun h2=>?_)
  ·have k2:=h2;try simp only [zs] at k2
   refine Q183 h2 ?_;refine Q183 h2 ?_;refine d_yes rfl (q_idxr und72 sz3 rfl rfl (by omega) (by omega)) rfl rfl rfl h2 rfl rfl ?_;refine d_yes rfl (q_ldm ag3 sz3 rfl mmQ (pcI (j:=m) (by omega) (by omega)) (v_raw rfl)) rfl rfl rfl h2 rfl rfl ?_;refine Q183 h2 ?_;refine Q183 h2 ?_;refine d_yes rfl (q_sub rfl rfl (wrap64 (by omega) (by omega))) rfl rfl rfl h2 rfl rfl ?_;refine d_yes rfl (q_idxr und72 sz3 rfl rfl (by omega) (by omega)) rfl rfl rfl h2 rfl rfl ?_;refine d_yes rfl (q_ldm ag3 sz3 rfl mmQ (pcI (j:=m - 1) (by omega) (by omega)) (v_raw rfl)) rfl rfl rfl h2 rfl rfl ?_;refine Q3 ?_;refine Q16 h2 ?_;refine o_call ((snd324 (k[m]) (k[m - 1]) _)) goes324 (ac (v_raw rfl) (ac (v_raw rfl) ac_nil)) rfl ?_;refine o_nil ⟨(by simp [Mem.upd, *]),?_⟩;refine Q174 h2 ?_;refine d_nil ?_;refine s_cond rfl (fun h3=>?_) (fun h3=>?_)
   ·have k3:=h3;try simp only [zs] at k3
    refine Q78 ?_;refine s_draw rfl ?_;iterate 4 refine Q14 ?_
    refine Q234 ?_;refine Q14 ?_;refine Q14 ?_;refine Q234 ?_;refine Q210 und72 sz3 ?_;refine d_q rfl (q_ldm ag3 sz3 rfl mmQ (pcI (j:=m - 1) (by omega) (by omega)) (v_raw rfl)) rfl rfl rfl ?_;refine Q14 ?_;refine Q14 ?_;refine Q210 und72 sz3 ?_;refine d_q rfl (q_ldm ag3 sz3 rfl mmQ (pcI (j:=m) (by omega) (by omega)) (v_raw rfl)) rfl rfl rfl ?_;refine Q210 und72 sz3 ?_;refine Q3 ?_;refine o_store rfl mmQ meQ rfl sz3 rfl (by simp only [List.length_map,List.length_set];omega) rfl (sp_set (j:=m) (by omega) (by omega)) ?_;refine o_nil ⟨(by simp [Mem.upd, *]),?_⟩;refine Q210 und72 sz3 ?_;refine Q3 ?_;refine o_store rfl mmQ meQ rfl sz3 rfl (by simp only [List.length_map,List.length_set];omega) rfl (sp_set (j:=m - 1) (by omega) (by rw [List.length_set];omega)) ?_;refine o_nil ⟨(by simp [Mem.upd, *]),?_⟩;refine d_nil ?_;refine s_blk_normal ?_;refine s_region ?_;refine Q2 ?_;refine Q152 ?_;refine Q57 ?_;have esw:(k.set m k[m - 1]).set (m - 1) k[m]=swp k m:=by simp [swp,List.getD,show m<k.length by omega,show m - 1<k.length by omega]
    have hsp:=swp_perm (l:=k) (j:=m) (n:=n) (by omega) (by omega) (by omega);exact⟨m - 1,by omega,_,swp k m,m - 1,(by rw [Mem.upd_upd,Mem.upd_upd,esw];exact St.mkT (kp (kp (kp (kp (kp rfl rfl) rfl) rfl) rfl) (congrArg int (show (m:Int) - 1=((m - 1:Nat):Int) by omega))).symm),(swp_len _ _).trans hk1,hsp.1.trans hk2,hsp.2.trans hk3,near_swp hk4 (by omega) hji (by omega) (by omega),by omega,rfl⟩
   ·have k3:=h3;try simp only [zs] at k3
    refine Q35 ?_;refine Q88 ?_;refine Q57 ?_;exact⟨n+2 - (i+1),by omega,_,k,i+1,St.mkT (kp (kp (kp (kp rfl rfl) rfl) rfl) rfl).symm,⟨hk1,hk2,hk3,fun p q hq hpq h=>near_done hk4 (by omega) hji (.inr ⟨by omega,by omega⟩) p q hq hpq (by omega)⟩,by omega,by omega,by omega⟩
  ·have k2:=h2;try simp only [zs] at k2
   iterate 4 refine Q66 h2 h2 ?_
   refine Q168 h2 ?_;refine Q3 ?_;refine Q156 h2 ?_;refine o_nil ⟨(by simp [Mem.upd, *]),?_⟩;refine Q175 h2 ?_;refine d_nil ?_;refine s_else rfl rfl ?_;refine Q35 ?_;refine Q88 ?_;refine Q57 ?_;exact⟨n+2 - (i+1),by omega,_,k,i+1,St.mkT (kp (kp (kp (kp rfl rfl) rfl) rfl) rfl).symm,⟨hk1,hk2,hk3,fun p q hq hpq h=>near_done hk4 (by omega) hji (.inl (by omega)) p q hq hpq (by omega)⟩,by omega,by omega,by omega⟩
 ·have k1:=h1;try simp only [zs] at k1
  refine Q35 ?_;refine s_end ?_;exact ret_many (.inr rfl) rfl rl_nil rfl ⟨l',rfl,rfl,hs1,hs2,hs3,fun p q hq hpq h=>hs4 p q hq hpq (by omega)⟩
def tk287:Nat->Nat->Option Nat:=fun _ _=>none
def pl287:Nat->List PStep
 | 17=>[.q 0,.q 1,.q 2,.q 3,.q 4,.q 5,.q 6,.q 7,.q 8,.q 9,.q 10,.q 11,.s 12 [10,9,8,6,5,4,3,1,0],.q 13,.q 14]
 | _=>[]
theorem cb287:Tryz.f287.body.map (codeB Tryz.prog Tryz.f287.ntmps tk287 pl287)=some true:=by kernel_rfl
theorem goes287:goesB Tryz.prog 287=true:=by kernel_rfl
theorem snd287 (b c n:Nat)(l:List Int)(M:Mem)(hb:M b=some (.cells (l.map fun n=>(AVal.raw (.int .i64 n)))))(hn:n<=l.length)(hl:l.length<2^40)(lim:Int)(hn12:n<=12):SoundCall Tryz.prog 287 [rsl b n c,int 0,int n,int lim] M fun r M'=>∃ l',r = .tup []/\M'=M.upd b (.cells ((l').map fun n=>(AVal.raw (.int .i64 n))))/\Srt l l' n n:=by
 refine SoundCall.go tk287 pl287 mixed Tryz.func287 cb287 rfl (Nat.le_of_ble_eq_true rfl) ?_;refine Q15 ?_;refine Q15 ?_;refine s_block ?_;refine s_loop (fun m S=>∃ T,S=⟨setT (setT (setT (setT T 0 (rsl b n c)) 1 (int 0)) 2 (int n)) 3 (int lim),M⟩/\m=0) 0 ?_ ?_
 ·exact⟨_,St.mkT (kp (kp (kp (kp rfl rfl) rfl) rfl) rfl).symm,rfl⟩
 rintro m S ⟨T,rfl,rfl⟩;refine s_block ?_;refine Q5 ?_;refine Q2 ?_;refine Q152 ?_;refine Q40 ?_;refine Q89 ?_;refine Q1 ?_;refine Q172 ?_;refine Q5 ?_;refine Q64 ?_;refine o_callx (snd318 b c n l _ hb hn hl) goes318 (ac (v_raw rfl) (ac (v_raw rfl) (ac (v_raw rfl) ac_nil))) rfl ?_;rintro r M' ⟨l',rfl,rfl,hS⟩;refine o_nil ?_;refine s_ret ?_;refine s_code_ret ?_;refine s_blk_ret ?_;refine s_inv_ret ?_;refine s_blk_ret ?_;refine s_end ?_;exact ret_many (.inl rfl) rfl rl_nil rfl ⟨l',rfl,rfl,hS⟩
def tk328:Nat->Nat->Option Nat:=fun _ _=>none
def pl328:Nat->List PStep:=fun _=>[]
theorem cb328:Tryz.f328.body.map (codeB Tryz.prog Tryz.f328.ntmps tk328 pl328)=some true:=by kernel_rfl
theorem goes328:goesB Tryz.prog 328=true:=by kernel_rfl
theorem wrapu8 {a:Int}(h1:0<=a)(h2:a<2^8):IntKind.u8.wrap a=a:=by
 simp only [IntKind.wrap,IntKind.signed,IntKind.bits];simp;omega
theorem w8 (u:UInt8):IntKind.i64.wrap (u.toNat:Int)=u.toNat:=wrap64 (by omega) (by have:=u.toNat_lt;omega)
theorem w80 (u:UInt8):IntKind.i64.wrap (0+(u.toNat:Int))=0+(u.toNat:Int):=wrap64 (by omega) (by have:=u.toNat_lt;omega)
theorem snd328 (x:Nat)(M:Mem)(hx:x<=12):SoundCall Tryz.prog 328 [.raw (.int .u64 x)] M fun r M'=>∃ k:Int,r=int k/\M'=M:=by
 refine SoundCall.go tk328 pl328 mixed Tryz.func328 cb328 rfl (Nat.le_of_ble_eq_true rfl) ?_;refine Q15 ?_;refine Q9 ?_;refine Q23 ?_;refine Q1 ?_;refine Q101 ?_;refine Q13 ?_;refine Q9 ?_;refine Q23 ?_;refine Q1 ?_;refine Q101 ?_;refine Q13 ?_;refine Q9 ?_;refine Q23 ?_;refine Q1 ?_;refine Q101 ?_;refine Q71 ?_;refine Q2 ?_;refine o_q (q_i2i und104 und5 rfl (wrapu8 (by omega) (by omega))) rfl rfl rfl ?_;refine o_q (q_stri und9 rfl rfl rfl (Nat.lt_of_lt_of_le (m:=256) (by omega) (by decide +kernel))) rfl rfl rfl ?_;refine o_q (q_i2i und5 und3 rfl (w8 _)) rfl rfl rfl ?_;refine o_q (q_add rfl rfl (w80 _)) rfl rfl rfl ?_;refine Q4 ?_;exact⟨_,rfl,rfl⟩
def tk288:Nat->Nat->Option Nat:=fun _ _=>none
def pl288:Nat->List PStep:=fun _=>[]
theorem cb288:Tryz.f288.body.map (codeB Tryz.prog Tryz.f288.ntmps tk288 pl288)=some true:=by kernel_rfl
theorem goes288:goesB Tryz.prog 288=true:=by kernel_rfl
theorem snd288 (x:Nat)(M:Mem)(hx:x<=12):SoundCall Tryz.prog 288 [.raw (.int .u64 x)] M fun r M'=>∃ k:Int,r=int k/\M'=M:=by
 refine SoundCall.go tk288 pl288 mixed Tryz.func288 cb288 rfl (Nat.le_of_ble_eq_true rfl) ?_;refine Q15 ?_;refine s_seq ?_;refine s_else rfl rfl ?_;refine Q71 ?_;refine o_callx (snd328 x _ hx) goes328 (ac (v_raw rfl) ac_nil) rfl ?_;rintro r M' ⟨k,rfl,rfl⟩;refine Q4 ?_;exact⟨_,rfl,rfl⟩
def tk237:Nat->Nat->Option Nat:=fun _ _=>none
def pl237:Nat->List PStep:=fun _=>[]
theorem cb237:Tryz.f237.body.map (codeB Tryz.prog Tryz.f237.ntmps tk237 pl237)=some true:=by kernel_rfl
theorem goes237:goesB Tryz.prog 237=true:=by kernel_rfl
theorem snd237 (b c n:Nat)(l:List Int)(M:Mem)(hb:M b=some (.cells (l.map fun n=>(AVal.raw (.int .i64 n)))))(hn:n<=l.length)(hl:l.length<2^40)(hn12:n<=12):SoundCall Tryz.prog 237 [rsl b n c] M fun r M'=>∃ l',r = .tup []/\M'=M.upd b (.cells ((l').map fun n=>(AVal.raw (.int .i64 n))))/\Srt l l' n n:=by
 refine SoundCall.go tk237 pl237 mixed Tryz.func237 cb237 rfl (Nat.le_of_ble_eq_true rfl) ?_;refine Q5 ?_;refine o_q (q_lenr rfl und72 rfl) rfl rfl rfl ?_;refine Q7 ?_;refine Q19 ?_;refine Q64 ?_;refine Q2 ?_;refine o_q (q_i2i und3 und251 rfl (wrapu64 (by omega) (by omega))) rfl rfl rfl ?_;refine o_callx (snd288 n _ hn12) goes288 (ac (v_raw rfl) ac_nil) rfl ?_;rintro r M' ⟨k,rfl,rfl⟩;refine o_callx (snd287 b c n l _ hb hn hl _ hn12) goes287 (ac (v_raw rfl) (ac (v_raw rfl) (ac (v_raw rfl) (ac (v_raw rfl) ac_nil)))) rfl ?_;rintro r M' ⟨l',rfl,rfl,hS⟩;refine Q1 ?_;refine s_end ?_;exact ret_many (.inr rfl) rfl rl_nil rfl ⟨l',rfl,rfl,hS⟩
structure Od where
 self:Int
 nodes:List Int
 log:List ByteArray
 bytes:Int
 sure:Int
 has:List Int
def odC (o:Od):List AVal:=[int o.self,.sl (o.nodes.map int) false,.sl (o.log.map str) true,int o.bytes,int o.sure]++o.has.map int
def firstO (o:Od):Bool:=decide (o.nodes.head? = some o.self)
def tk77:Nat->Nat->Option Nat:=fun _ _=>none
def pl77:Nat->List PStep:=fun _=>[]
theorem cb77:Tryz.f77.body.map (codeB Tryz.prog Tryz.f77.ntmps tk77 pl77)=some true:=by kernel_rfl
theorem goes77:goesB Tryz.prog 77=true:=by kernel_rfl
theorem snd77 (b:Nat)(o:Od)(M:Mem)(hb:M b=some (.cells (odC o))):SoundCall Tryz.prog 77 [ptr b] M fun r M'=>r=int o.sure/\M'=M:=by
 refine SoundCall.go tk77 pl77 mixed Tryz.func77 cb77 rfl (Nat.le_of_ble_eq_true rfl) ?_;refine Q15 ?_;refine Q18 ?_;refine Q56 fo213_4 ag3 sz3 ?_;refine Q4 ?_;exact⟨by first|rfl|(simp;rfl)|exact congrArg int (by simp),rfl⟩
def tk177:Nat->Nat->Option Nat:=fun _ _=>none
def pl177:Nat->List PStep:=fun _=>[]
theorem cb177:Tryz.f177.body.map (codeB Tryz.prog Tryz.f177.ntmps tk177 pl177)=some true:=by kernel_rfl
theorem goes177:goesB Tryz.prog 177=true:=by kernel_rfl
theorem snd177 (s:ByteArray)(M:Mem)(hs:s.size<2^62):SoundCall Tryz.prog 177 [str s] M fun r M'=>r=int (s.size+4)/\M'=M:=by
 refine SoundCall.go tk177 pl177 mixed Tryz.func177 cb177 rfl (Nat.le_of_ble_eq_true rfl) ?_;refine Q15 ?_;refine Q5 ?_;refine Q61 und9 ?_;refine Q113 ?_;refine Q4 ?_;exact⟨rfl,rfl⟩
def tk121:Nat->Nat->Option Nat:=fun _ _=>none
def pl121:Nat->List PStep
 | 1=>[.q 0,.q 1,.q 2,.q 3,.q 4,.q 5,.q 6,.q 7,.q 8,.q 9,.q 10,.q 11]
 | _=>[]
theorem cb121:Tryz.f121.body.map (codeB Tryz.prog Tryz.f121.ntmps tk121 pl121)=some true:=by kernel_rfl
theorem goes121:goesB Tryz.prog 121=true:=by kernel_rfl
theorem snd121 (b:Nat)(o:Od)(M:Mem)(hb:M b=some (.cells (odC o)))(hn:o.nodes≠[]):SoundCall Tryz.prog 121 [ptr b] M fun r M'=>r=bool (firstO o)/\M'=M:=by
 obtain⟨n0,ns,hns⟩ : ∃ n0 ns,o.nodes=n0::ns:=by cases h:o.nodes with|nil=>exact absurd h hn|cons a l=>exact⟨a,l,rfl⟩
 have hl0:0<o.nodes.length:=by rw [hns];simp
 refine SoundCall.go tk121 pl121 mixed Tryz.func121 cb121 rfl (Nat.le_of_ble_eq_true rfl) ?_;refine Q15 ?_;refine s_seq ?_;refine Q33 ?_;refine Q22 fo213_1 ?_;refine Q203 ag72 sz72 ?_;refine d_q rfl (q_idx und72 sz3 rfl rfl (by omega) (gm 0 (by first|omega|simp)) rfl) rfl rfl rfl ?_;refine d_q rfl (q_ld ag3 sz3 rfl (gm 0 (by first|omega|simp)) rfl (v_raw rfl)) rfl rfl rfl ?_;refine Q136 ?_;refine Q77 fo213_0 ag3 sz3 ?_;refine d_q rfl (q_eql rfl rfl) rfl rfl rfl ?_;refine Q125 ?_;refine⟨congrArg bool ?_,rfl⟩;unfold firstO;rw [decide_eq_decide,List.head?_eq_getElem?,List.getElem?_eq_getElem hl0];simp
def tk234:Nat->Nat->Option Nat:=fun _ _=>none
def pl234:Nat->List PStep:=fun _=>[]
theorem cb234:Tryz.f234.body.map (codeB Tryz.prog Tryz.f234.ntmps tk234 pl234)=some true:=by kernel_rfl
theorem goes234:goesB Tryz.prog 234=true:=by kernel_rfl
theorem no_succ {l:List Int}{v:Int}{i:Nat}(h:∀ j,∀ hj:j<l.length,j<i->l[j]≠v)(hi:i<l.length)(hv:l[i]≠v):∀ j,∀ hj:j<l.length,j<i+1->l[j]≠v:=fun j hj hji=>by
 rcases Nat.lt_or_ge j i with h1|h1
 ·exact h j hj h1
 ·obtain rfl:j=i:=by omega
  exact hv
theorem snd234 (l:List Int)(o:Bool)(v:Int)(M:Mem)(hl:l.length<2^60):SoundCall Tryz.prog 234 [.sl (l.map int) o,int v] M fun r M'=>∃ k:Int,r=int k/\decide (0<=k)=decide (v∈l)/\M'=M:=by
 refine SoundCall.go tk234 pl234 mixed Tryz.func234 cb234 rfl (Nat.le_of_ble_eq_true rfl) ?_;refine Q15 ?_;refine Q31 ?_;refine Q41 und72 ?_;refine Q52 ?_;refine s_loop (fun m S=>∃ T,∃ i:Nat,S=⟨setT (setT (setT (setT T 0 (.sl (l.map int) o)) 1 (int v)) 7 (int l.length)) 8 (int (i:Nat)),M⟩/\(∀ j,∀ hj:j<l.length,j<i->l[j]≠v)/\i<=l.length/\m=l.length - i) l.length ?_ ?_
 ·exact⟨_,0,St.mkT (kp (kp (kp (kp rfl rfl) rfl) (congrArg (fun n:Nat=>AVal.raw (.int .i64 n)) (List.length_map _))) rfl).symm,fun j hj h=>by omega,by omega,rfl⟩
 rintro m S ⟨T,i,rfl,hno,hi,rfl⟩;refine Q50 ?_;refine s_cond rfl (fun h1=>?_) (fun h1=>?_)
 ·have k1:=h1;try simp only [zs] at k1
  refine Q78 ?_;refine Q5 ?_;refine Q51 ?_;refine Q140 ?_;refine Q73 und72 sz3 ?_;refine Q134 ag3 sz3 ?_;refine Q129 ?_;refine s_cond rfl (fun h2=>?_) (fun h2=>?_)
  ·have k2:=h2;try simp only [zs] at k2
   refine Q5 ?_;refine Q54 ?_;refine Q121 ?_;exact⟨i,rfl,by rw [decide_eq_true (show (0:Int)<=i by omega),decide_eq_true (show v∈l from k2 ▸ List.getElem_mem _)],rfl⟩
  ·have k2:=h2;try simp only [zs] at k2
   refine Q13 ?_;refine Q36 ?_;exact⟨l.length - (i+1),by omega,_,i+1,St.mkT (kp (kp (kp (kp rfl rfl) rfl) rfl) rfl).symm,no_succ hno (by omega) (fun e=>k2 e.symm),by omega,rfl⟩
 ·have k1:=h1;try simp only [zs] at k1
  refine Q117 ?_;refine Q4 ?_;exact⟨-1,rfl,by rw [decide_eq_false (by omega),decide_eq_false (fun h=>by obtain⟨j,hj,e⟩:=List.mem_iff_getElem.1 h;exact hno j hj (by omega) e)],rfl⟩
def tk175:Nat->Nat->Option Nat:=fun _ _=>none
def pl175:Nat->List PStep:=fun _=>[]
theorem cb175:Tryz.f175.body.map (codeB Tryz.prog Tryz.f175.ntmps tk175 pl175)=some true:=by kernel_rfl
theorem goes175:goesB Tryz.prog 175=true:=by kernel_rfl
theorem snd175 (l:List Int)(o:Bool)(v:Int)(M:Mem)(hl:l.length<2^60):SoundCall Tryz.prog 175 [.sl (l.map int) o,int v] M fun r M'=>r=bool (decide (v∈l))/\M'=M:=by
 refine SoundCall.go tk175 pl175 mixed Tryz.func175 cb175 rfl (Nat.le_of_ble_eq_true rfl) ?_;refine Q15 ?_;refine Q0 ?_;refine Q140 ?_;refine o_callx (snd234 l _ v _ hl) goes234 (ac (v_sl rfl) (ac (v_raw rfl) ac_nil)) rfl ?_;rintro r M' ⟨k,rfl,hk,rfl⟩;refine Q23 ?_;refine Q4 ?_;exact⟨congrArg bool hk,rfl⟩
def tk180:Nat->Nat->Option Nat
 | 3,4=>some 0
 | _,_=>none
def pl180:Nat->List PStep
 | 1=>[.q 0,.q 1,.q 2,.q 3,.q 4,.s 5 [3,2,1,0],.q 6,.q 7]
 | 4=>[.q 0,.q 1,.q 2,.q 3,.q 4,.s 5 [3,2,1,0],.q 6,.q 7,.q 8,.s 9 [7]]
 | 5=>[.q 0,.q 1,.q 2,.q 3,.q 4,.q 5,.q 6,.q 7,.q 8,.q 9,.q 10,.q 11,.q 12,.s 13 [11,10]]
 | _=>[]
theorem cb180:Tryz.f180.body.map (codeB Tryz.prog Tryz.f180.ntmps tk180 pl180)=some true:=by kernel_rfl
theorem goes180:goesB Tryz.prog 180=true:=by kernel_rfl
def addB (o:Od)(s:ByteArray):Int:=IntKind.i64.wrap (o.bytes+((s.size:Int)+4))
def putO (o:Od)(s:ByteArray):Od×Bool:=if 45000<addB o s then (o,false) else (⟨o.self,o.nodes,o.log++[s],addB o s,o.sure,o.has.set o.self.toNat (o.log.length+1:Nat)⟩,true)
theorem od_set {p:List AVal}{has:List Int}{off n:Nat}{v:Int}(hp:p.length=5)(h:off=5+n)(hn:n<has.length):splice (p++has.map int) off ((AVal.raw (.int .i64 v)).cells.map AVal.shut)=p++(has.set n v).map int:=by
 subst h;unfold splice;have e1:(p++has.map int).take (5+n)=p++(has.map int).take n:=by rw [List.take_append,List.take_of_length_le (by omega),hp,Nat.add_sub_cancel_left]
 have e2:(p++has.map int).drop (5+n+((AVal.raw (.int .i64 v)).cells.map AVal.shut).length)=(has.map int).drop (n+1):=by
  show (p++has.map int).drop (5+n+1)=_
  rw [List.drop_append,List.drop_of_length_le (by omega),hp,List.nil_append,show 5+n+1 - 5=n+1 by omega]
 rw [e1,e2,List.set_eq_take_append_cons_drop,if_pos hn,List.map_append,List.map_cons,List.map_take,List.map_drop,List.append_assoc,List.append_assoc];rfl
theorem snd180 (b:Nat)(o:Od)(s:ByteArray)(M:Mem)(hb:M b=some (.cells (odC o)))(hs:s.size<2^61)(hse:0<=o.self/\o.self<7)(hha:o.has.length=7)(hlg:o.log.length+2<=2^43):SoundCall Tryz.prog 180 [ptr b,str s] M fun r M'=>r=bool (putO o s).2/\M'=M.upd b (.cells (odC (putO o s).1)):=by
 have hpl:(0+5+o.self.toNat*1)+1<=([int o.self,.sl (o.nodes.map int) false,.sl (o.log.map str++[str s]) true,int (addB o s),int o.sure]++o.has.map int).length:=by simp [hha];omega
 refine SoundCall.go tk180 pl180 mixed Tryz.func180 cb180 rfl (Nat.le_of_ble_eq_true rfl) ?_;refine Q15 ?_;refine s_seq ?_;refine s_seq ?_;refine Q33 ?_;refine Q77 fo213_3 ag3 sz3 ?_;refine Q14 ?_;refine Q3 ?_;refine o_call ((snd177 s _ (by omega))) goes177 (ac (v_raw rfl) ac_nil) rfl ?_;refine o_nil ⟨(by simp [Mem.upd, *]),?_⟩;refine d_q rfl (q_addw rfl rfl) rfl rfl rfl ?_;refine d_q rfl (q_gtr rfl rfl) rfl rfl rfl ?_;refine d_nil ?_;refine s_cond rfl (fun h1=>?_) (fun h1=>?_)
 ·have k1:=h1;try simp only [zs] at k1
  refine Q0 ?_;refine Q11 ?_;have hab:addB o s=IntKind.i64.wrap (o.bytes+((s.size:Int)+4)):=rfl;unfold putO;rw [if_pos (by omega)];exact⟨rfl,(Mem.upd_same hb).symm⟩
 ·have k1:=h1;try simp only [zs] at k1
  refine Q13 ?_;refine Q18 ?_;refine Q10 ?_;refine Q25 fo213_2 ?_;refine Q137 ag24 sz24 ?_;refine Q2 ?_;refine Q165 slt24 ?_;refine o_qs (q_app slt24 rfl rfl rfl rfl (by first|exact elsStr|exact Els.cons rfl rfl Els.nil) (by first|exact (by first|exact elsStr|exact Els.cons rfl rfl Els.nil)|exact Els.cons rfl rfl Els.nil) (by simp;omega)) rfl rfl rfl rfl ?_;refine Q25 fo213_2 ?_;refine Q112 sz24 ?_;refine Q70 ?_;refine Q33 ?_;refine Q77 fo213_3 ag3 sz3 ?_;refine Q14 ?_;refine Q3 ?_;refine o_call ((snd177 s _ (by omega))) goes177 (ac (v_raw rfl) ac_nil) rfl ?_;refine o_nil ⟨(by simp [Mem.upd, *]),?_⟩;refine d_q rfl (q_addw rfl rfl) rfl rfl rfl ?_;refine Q163 ?_;refine Q22 fo213_3 ?_;refine Q3 ?_;refine Q98 sz3 ?_;refine o_nil ⟨(by simp [Mem.upd, *]),?_⟩;refine d_nil ?_;refine Q91 ?_;refine Q123 ?_;refine Q136 ?_;refine Q77 fo213_0 ag3 sz3 ?_;refine Q136 ?_;refine Q22 fo213_2 ?_;refine Q203 ag24 sz24 ?_;refine d_q rfl (q_len rfl und24 rfl) rfl rfl rfl ?_;refine Q163 ?_;refine Q22 fo213_5 ?_;refine Q155 und125 sz3 ?_;refine Q3 ?_;refine o_store rfl mmQ meQ rfl sz3 rfl hpl rfl (od_set (p:=[int o.self,.sl (o.nodes.map int) false,.sl (o.log.map str++[str s]) true,int (addB o s),int o.sure]) (has:=o.has) (n:=o.self.toNat) rfl (by omega) (by omega)) ?_;refine o_nil ⟨(by simp [Mem.upd, *]),?_⟩;refine d_nil ?_;refine Q0 ?_;refine Q4 ?_;have hab:addB o s=IntKind.i64.wrap (o.bytes+((s.size:Int)+4)):=rfl;unfold putO;rw [if_neg (by omega)];refine⟨rfl,?_⟩;simp only [Mem.upd_upd];congr 2;simp [odC]
def tk181:Nat->Nat->Option Nat:=fun _ _=>none
def pl181:Nat->List PStep
 | 8=>[.q 0,.q 1,.q 2,.q 3,.q 4,.q 5,.q 6,.q 7,.q 8,.q 9,.q 10,.q 11,.q 12,.q 13,.q 14,.s 15 [13]]
 | _=>[]
theorem cb181:Tryz.f181.body.map (codeB Tryz.prog Tryz.f181.ntmps tk181 pl181)=some true:=by kernel_rfl
theorem goes181:goesB Tryz.prog 181=true:=by kernel_rfl
theorem le_b {M M':Mem}{y:Nat}{l L:List AVal}(h1:M' y=some (.cells l))(h3:∀ c o,c≠y->M c=some o->M' c=some o)(hl:l=L):(M.upd y (.cells L)).le M':=fun c o hc=>by
 subst hl;unfold Mem.upd at hc;by_cases e:c=y
 ·rw [if_pos e] at hc;cases hc;rw [e];exact h1
 ·rw [if_neg e] at hc;exact h3 c o e hc
def insI (a:Int):List Int->List Int
 | []=>[a]
 | b::l=>if a<=b then a::b::l else b::insI a l
def sortI (l:List Int):List Int:=l.foldr insI []
theorem insI_perm (a:Int):∀ l:List Int,(insI a l).Perm (a::l)
 | []=>List.Perm.refl _
 | b::l=>by
  unfold insI;split
  ·exact List.Perm.refl _
  ·exact ((insI_perm a l).cons b).trans (List.Perm.swap a b l)
theorem insI_pair (a:Int):∀ l:List Int,l.Pairwise (·<=·)->(insI a l).Pairwise (·<=·)
 | [],_=>List.pairwise_singleton _ _
 | b::l,h=>by
  unfold insI;obtain⟨h1,h2⟩:=List.pairwise_cons.1 h;split
  ·rename_i hab;exact List.pairwise_cons.2 ⟨fun c hc=>by
    rcases List.mem_cons.1 hc with rfl|hc
    ·exact hab
    ·exact Int.le_trans hab (h1 c hc),h⟩
  ·rename_i hab;exact List.pairwise_cons.2 ⟨fun c hc=>by
    rcases List.mem_cons.1 ((insI_perm a l).mem_iff.1 hc) with rfl|hc
    ·omega
    ·exact h1 c hc,insI_pair a l h2⟩
theorem sortI_perm:∀ l:List Int,(sortI l).Perm l
 | []=>List.Perm.refl _
 | a::l=>(insI_perm a (sortI l)).trans ((sortI_perm l).cons a)
theorem sortI_pair:∀ l:List Int,(sortI l).Pairwise (·<=·)
 | []=>List.Pairwise.nil
 | a::l=>insI_pair a _ (sortI_pair l)
theorem sorted_eq {l l':List Int}(hp:l'.Perm l)(hs:l'.Pairwise (·<=·)):l'=sortI l :=
 (hp.trans (sortI_perm l).symm).eq_of_pairwise (le:=fun a b:Int=>a<=b) (fun a b _ _ h1 h2=>Int.le_antisymm h1 h2) hs (sortI_pair l)
def hv (o:Od)(n:Int):Int:=o.has.getD n.toNat 0
def medO (o:Od):Int:=(sortI (o.nodes.map (hv o))).getD ((o.nodes.length - 1) / 2) 0
def settleO (o:Od):Od:=⟨o.self,o.nodes,o.log,o.bytes,max o.sure (medO o),o.has⟩
def cntO (o:Od)(i:Nat):List Int:=(o.nodes.take i).map (hv o)++List.replicate (7 - i) 0
theorem cnt_len {o:Od}{i:Nat}(hi:i<=o.nodes.length)(h7:o.nodes.length<=7):(cntO o i).length=7:=by
 simp [cntO];omega
theorem cnt_set {o:Od}{i:Nat}(hi:i<o.nodes.length)(h7:o.nodes.length<=7):(cntO o i).set i (hv o o.nodes[i])=cntO o (i+1):=by
 unfold cntO;have hl:((o.nodes.take i).map (hv o)).length=i:=by simp;omega
 rw [List.set_append,if_neg (by omega),hl,Nat.sub_self,show 7 - i=(7 - (i+1))+1 by omega,List.replicate_succ,List.set_cons_zero,List.take_succ_eq_append_getElem hi,List.map_append,List.append_assoc];rfl
theorem cnt_end {o:Od}:(cntO o o.nodes.length).take o.nodes.length=o.nodes.map (hv o):=by
 unfold cntO;rw [List.take_length,List.take_append,List.length_map,Nat.sub_self,List.take_zero,List.append_nil,List.take_of_length_le (by simp)]
theorem med_eq {o:Od}{l':List Int}(h7:o.nodes.length<=7)(h:Srt (cntO o o.nodes.length) l' o.nodes.length o.nodes.length)(hj:(o.nodes.length - 1) / 2<l'.length)(hn:0<o.nodes.length):l'[(o.nodes.length - 1) / 2]=medO o:=by
 obtain⟨h1,h2,h3,h4⟩:=h;rw [cnt_end] at h2;have hl:=cnt_len (o:=o) (Nat.le_refl _) h7;have hs:(l'.take o.nodes.length).Pairwise (·<=·):=List.pairwise_iff_getElem.2 fun p q hp hq hpq=>by
  rw [List.length_take] at hp hq;rw [List.getElem_take,List.getElem_take];exact h4 p q (by omega) hpq (by omega)
 have e:=sorted_eq h2 hs;unfold medO;rw [← e];have hlt:(o.nodes.length - 1) / 2<(l'.take o.nodes.length).length:=by rw [List.length_take];omega
 rw [List.getD_eq_getElem?_getD,List.getElem?_eq_getElem hlt,Option.getD_some,List.getElem_take]
theorem od_get {o:Od}{off:Nat}{n:Int}(h:off=5+n.toNat)(hn:n.toNat<o.has.length):piece false (odC o) off 1=some (.raw (.int .i64 (hv o n))):=by
 subst h;show ([int o.self,.sl (o.nodes.map int) false,.sl (o.log.map str) true,int o.bytes,int o.sure]++o.has.map int)[5+n.toNat]? = _
 rw [List.getElem?_append_right (by simp)];show (o.has.map int)[5+n.toNat - 5]? = _
 rw [Nat.add_sub_cancel_left,List.getElem?_map,List.getElem?_eq_getElem hn,hv,List.getD_eq_getElem?_getD,List.getElem?_eq_getElem hn];rfl
theorem snd181 (b:Nat)(o:Od)(M:Mem)(hb:M b=some (.cells (odC o)))(h7:o.nodes.length<=7)(h0:0<o.nodes.length)(hnr:∀ n∈o.nodes,0<=n/\n<7)(hha:o.has.length=7):SoundCall Tryz.prog 181 [ptr b] M fun r M'=>r = .tup []/\(M.upd b (.cells (odC (settleO o)))).le M':=by
 have hlm:(List.map int o.nodes).length=o.nodes.length:=List.length_map _;have htd:(((List.map int o.nodes).length:Int) - 1).tdiv 2=(((o.nodes.length - 1) / 2:Nat):Int):=by rw [Int.tdiv_eq_ediv_of_nonneg (by omega)];omega
 refine SoundCall.go tk181 pl181 mixed Tryz.func181 cb181 rfl (Nat.le_of_ble_eq_true rfl) ?_;refine Q0 ?_;refine o_alloc zc125 (fun B1 hB1=>?_);have n1:b≠B1:=Mem.fresh_ne hB1 hb;have n1':=n1.symm;have m1:M B1=none:=zm hB1;refine Q48 ?_;refine Q10 ?_;refine Q25 fo213_1 ?_;refine Q139 ag72 sz72 ?_;refine Q85 und72 ?_;refine Q52 ?_;refine s_loop (fun m S=>∃ T,∃ i:Nat,S=⟨setT (setT (setT (setT (setT T 0 (ptr b)) 2 (ptr B1)) 9 (.sl (o.nodes.map int) false)) 10 (int o.nodes.length)) 11 (int (i:Nat)),(M.upd B1 (.cells ((cntO o i).map fun n=>(AVal.raw (.int .i64 n)))))⟩/\i<=o.nodes.length/\m=o.nodes.length - i) o.nodes.length ?_ ?_
 ·exact⟨_,0,St.mkT (kp (kp (kp (kp (kp rfl rfl) rfl) rfl) (congrArg (fun n:Nat=>AVal.raw (.int .i64 n)) (List.length_map _))) rfl).symm,by omega,rfl⟩
 rintro m S ⟨T,i,rfl,hi,rfl⟩;have hcl:=cnt_len hi h7;refine Q50 ?_;refine s_cond rfl (fun h1=>?_) (fun h1=>?_)
 ·have k1:=h1;try simp only [zs] at k1
  have hni:=hnr o.nodes[i] (List.getElem_mem _);refine Q78 ?_;refine Q5 ?_;refine Q73 und72 sz3 ?_;refine Q134 ag3 sz3 ?_;refine Q26 ?_;refine Q144 ?_;refine Q10 ?_;refine Q2 ?_;refine Q25 fo213_5 ?_;refine Q178 und125 sz3 ?_;refine o_q (q_ldm ag3 sz3 rfl mmQ (od_get (n:=o.nodes[i]) (by omega) (by omega)) (v_raw rfl)) rfl rfl rfl ?_;refine Q178 und125 sz3 ?_;refine o_store rfl mmQ meQ rfl sz3 rfl (by simp only [List.length_map];omega) rfl (sp_set (j:=i) (by omega) (by omega)) ?_;refine Q1 ?_;refine Q36 ?_;exact⟨o.nodes.length - (i+1),by omega,_,i+1,(by rw [Mem.upd_upd,cnt_set (by omega) h7];exact St.mkT (kp (kp (kp (kp (kp rfl rfl) rfl) rfl) rfl) rfl).symm),by omega,rfl⟩
 ·have k1:=h1;try simp only [zs] at k1
  obtain rfl:i=o.nodes.length:=by omega
  refine Q35 ?_;refine Q95 fo213_1 ?_;refine Q139 ag72 sz72 ?_;refine Q85 und72 ?_;refine o_q (q_slarr und125 sz3 rfl rfl (by omega)) rfl rfl rfl ?_;refine Q51 ?_;refine o_callx (snd237 B1 7 (List.map int o.nodes).length (cntO o o.nodes.length) _ mmQ (by omega) (by omega) (by omega)) goes237 (ac (v_raw rfl) ac_nil) rfl ?_;rintro r M' ⟨l',rfl,rfl,hS⟩;rw [List.length_map] at hS;have hl7:=hS.1;refine Q1 ?_;refine s_draw rfl ?_;refine Q123 ?_;refine Q136 ?_;refine Q77 fo213_4 ag3 sz3 ?_;refine Q14 ?_;refine Q14 ?_;refine d_q rfl (q_lenr rfl und72 rfl) rfl rfl rfl ?_;refine Q234 ?_;refine d_q rfl (q_quo rfl rfl (by omega) (wrap64 (by omega) (by omega))) rfl rfl rfl ?_;refine Q210 und72 sz3 ?_;refine d_q rfl (q_ldm ag3 sz3 rfl mmQ (pcI (j:=(o.nodes.length - 1) / 2) (by omega) (by omega)) (v_raw rfl)) rfl rfl rfl ?_;refine d_q rfl (q_max rfl rfl) rfl rfl rfl ?_;refine Q163 ?_;refine Q22 fo213_4 ?_;refine Q3 ?_;refine Q98 sz3 ?_;refine o_nil ⟨(by simp [Mem.upd, *]),?_⟩;refine d_nil ?_;refine s_end ?_;refine ret_many (.inr rfl) rfl rl_nil rfl ⟨rfl,le_b (h1:=mmQ) (fun c p e1 hc=>by repeat first|exact hc|refine Mem.upd_ne (by first|exact e1|exact Mem.ne_none hc (by assumption)) ?_) ?_⟩;rw [med_eq h7 hS (by omega) h0];rfl
def tk122:Nat->Nat->Option Nat:=fun _ _=>none
def pl122:Nat->List PStep:=fun _=>[]
theorem cb122:Tryz.f122.body.map (codeB Tryz.prog Tryz.f122.ntmps tk122 pl122)=some true:=by kernel_rfl
theorem goes122:goesB Tryz.prog 122=true:=by kernel_rfl
def propO (o:Od)(s:ByteArray):Od×Int×Int:=if firstO o then (if (putO o s).2 then (settleO (putO o s).1,o.log.length,0) else (o,0,8)) else (o,0,11)
theorem put_no {o:Od}{s:ByteArray}(h:(putO o s).2=false):(putO o s).1=o:=by
 unfold putO at *
 split
 ·rfl
 ·rename_i hc;rw [if_neg hc] at h;cases h
theorem put_nodes (o:Od)(s:ByteArray):(putO o s).1.nodes=o.nodes/\(putO o s).1.has.length=o.has.length:=by
 unfold putO;split<;>simp
theorem put_log {o:Od}{s:ByteArray}(h:(putO o s).2=true):(putO o s).1.log=o.log++[s]:=by
 unfold putO at *
 split
 ·rename_i hc;rw [if_pos hc] at h;cases h
 ·rfl
theorem settle_log (o:Od):(settleO o).log=o.log:=rfl
theorem snd122 (b:Nat)(o:Od)(s:ByteArray)(M:Mem)(hb:M b=some (.cells (odC o)))(h0:0<o.nodes.length)(hs:s.size<2^61)(hse:0<=o.self/\o.self<7)(hha:o.has.length=7)(hlg:o.log.length+2<=2^43)(h7:o.nodes.length<=7)(hnr:∀ n∈o.nodes,0<=n/\n<7):SoundCall Tryz.prog 122 [ptr b,str s] M fun r M'=>r = .tup [int (propO o s).2.1,int (propO o s).2.2]/\M'=M.upd b (.cells (odC (propO o s).1)):=by
 have hn:o.nodes≠[]:=fun h=>by rw [h] at h0;simp at h0
 have same:M.upd b (.cells (odC o))=M:=Mem.upd_same hb;obtain⟨hpn,hph⟩:=put_nodes o s;have hll:((List.map str (settleO (putO o s).1).log).length:Int)<2^44:=by
  rw [List.length_map,settle_log];unfold putO;split<;>simp<;>omega
 refine SoundCall.go tk122 pl122 mixed Tryz.func122 cb122 rfl (Nat.le_of_ble_eq_true rfl) ?_;refine Q0 ?_;refine Q26 ?_;refine Q31 ?_;refine Q10 ?_;refine o_call ((snd121 b o _ hb hn)) goes121 (ac (mvQ) ac_nil) rfl ?_;refine Q59 ?_;refine s_cond rfl (fun h1=>?_) (fun h1=>?_)
 ·have k1:=h1;try simp only [zs] at k1
  refine Q47 ?_;refine Q11 ?_;have e:propO o s=(o,0,11):=by unfold propO;rw [if_neg (by simp [k1])]
  rw [e];exact ret_many (.inl rfl) rfl (rl_t rfl (rl_t rfl rl_nil)) rfl ⟨rfl,same.symm⟩
 ·have k1:=h1;try simp only [zs] at k1
  refine Q82 ?_;refine Q10 ?_;refine Q2 ?_;refine o_callx (snd180 b o s _ hb hs hse hha hlg) goes180 (ac (mvQ) (ac (v_raw rfl) ac_nil)) rfl ?_;rintro r M' ⟨rfl,rfl⟩;refine Q59 ?_;refine s_cond rfl (fun h2=>?_) (fun h2=>?_)
  ·have k2:=h2;try simp only [zs] at k2
   refine Q47 ?_;refine Q11 ?_;have e:propO o s=(o,0,8):=by
    unfold propO;rw [if_pos k1,if_neg (by simp [k2])]
   rw [e];exact ret_many (.inl rfl) rfl (rl_t rfl (rl_t rfl rl_nil)) rfl ⟨rfl,by rw [put_no k2]⟩
  ·have k2:=h2;try simp only [zs] at k2
   refine Q13 ?_;refine Q18 ?_;refine o_callx ((snd181 b (putO o s).1 _ mmQ (by rw [hpn];exact h7) (by rw [hpn];exact h0) (by rw [hpn];exact hnr) (by rw [hph];exact hha)).leaves) goes181 (ac (mvQ) ac_nil) rfl ?_;rintro r M' ⟨rfl,rfl⟩;refine Q1 ?_;refine Q95 fo213_2 ?_;refine Q139 ag24 sz24 ?_;refine Q85 und24 ?_;refine Q152 ?_;refine Q28 ?_;refine Q4 ?_;have e:propO o s=(settleO (putO o s).1,(o.log.length:Int),0):=by
    unfold propO;rw [if_pos k1,if_pos k2]
   rw [e];exact ret_many (.inl rfl) rfl (rl_t rfl (rl_t rfl rl_nil)) rfl ⟨congrArg (fun n=>AVal.tup [int n,int 0]) (by rw [List.length_map,settle_log,put_log k2,List.length_append];simp),by rw [Mem.upd_upd]⟩
def tk176:Nat->Nat->Option Nat
 | 0,0=>some 0
 | 2,0=>some 0
 | 3,3=>some 0
 | _,_=>none
def pl176:Nat->List PStep:=fun _=>[]
theorem cb176:Tryz.f176.body.map (codeB Tryz.prog Tryz.f176.ntmps tk176 pl176)=some true:=by kernel_rfl
theorem goes176:goesB Tryz.prog 176=true:=by kernel_rfl
theorem snd176 (l:List Int)(o:Bool)(M:Mem)(hl:l.length<=2^43):SoundCall Tryz.prog 176 [.sl (l.map int) o] M fun r M'=>r = .sl (l.map int) true/\M'=M:=by
 refine SoundCall.go tk176 pl176 mixed Tryz.func176 cb176 rfl (Nat.le_of_ble_eq_true rfl) ?_;refine Q93 ?_;refine Q48 ?_;refine Q49 ?_;refine o_nilcmp und72 rfl rfl (.inl rfl) (fun nh1 h1n=>?_);refine Q1 ?_;refine s_cond rfl (fun h2=>?_) (fun h2=>?_)
 ·have k2:=h2;try simp only [zs] at k2
  obtain rfl:l=[]:=by
   rcases l with _|⟨a,l⟩
   ·rfl
   ·have:=h1n (by simp);subst this;cases h2
  refine Q93 ?_;refine Q114 ?_;exact⟨rfl,rfl⟩
 ·have k2:=h2;try simp only [zs] at k2
  refine Q92 ?_;refine Q223 slt72 ?_;refine Q49 ?_;refine o_qs (q_app slt72 rfl rfl rfl rfl (by first|exact Els.nil|exact elsInt) (by first|exact (by first|exact Els.nil|exact elsInt)|exact Els.cons rfl rfl Els.nil) (by simp;omega)) rfl rfl rfl rfl ?_;refine Q151 ?_;refine Q103 ?_;exact⟨rfl,rfl⟩
def tk132:Nat->Nat->Option Nat
 | 0,0=>some 0
 | 2,0=>some 0
 | 3,3=>some 0
 | _,_=>none
def pl132:Nat->List PStep:=fun _=>[]
theorem cb132:Tryz.f132.body.map (codeB Tryz.prog Tryz.f132.ntmps tk132 pl132)=some true:=by kernel_rfl
theorem goes132:goesB Tryz.prog 132=true:=by kernel_rfl
theorem snd132 (l:List ByteArray)(o:Bool)(M:Mem)(hl:l.length<=2^43):SoundCall Tryz.prog 132 [.sl (l.map str) o] M fun r M'=>r = .sl (l.map str) true/\M'=M:=by
 refine SoundCall.go tk132 pl132 mixed Tryz.func132 cb132 rfl (Nat.le_of_ble_eq_true rfl) ?_;refine Q93 ?_;refine Q48 ?_;refine Q49 ?_;refine o_nilcmp und24 rfl rfl (.inl rfl) (fun nh1 h1n=>?_);refine Q1 ?_;refine s_cond rfl (fun h2=>?_) (fun h2=>?_)
 ·have k2:=h2;try simp only [zs] at k2
  obtain rfl:l=[]:=by
   rcases l with _|⟨a,l⟩
   ·rfl
   ·have:=h1n (by simp);subst this;cases h2
  refine Q93 ?_;refine Q114 ?_;exact⟨rfl,rfl⟩
 ·have k2:=h2;try simp only [zs] at k2
  refine Q92 ?_;refine Q223 slt24 ?_;refine Q49 ?_;refine o_qs (q_app slt24 rfl rfl rfl rfl (by first|exact Els.nil|exact elsStr) (by first|exact (by first|exact Els.nil|exact elsStr)|exact Els.cons rfl rfl Els.nil) (by simp;omega)) rfl rfl rfl rfl ?_;refine Q151 ?_;refine Q103 ?_;exact⟨rfl,rfl⟩
def tk61:Nat->Nat->Option Nat
 | 0,0=>some 0
 | 1,5=>some 0
 | _,_=>none
def pl61:Nat->List PStep:=fun _=>[]
theorem cb61:Tryz.f61.body.map (codeB Tryz.prog Tryz.f61.ntmps tk61 pl61)=some true:=by kernel_rfl
theorem goes61:goesB Tryz.prog 61=true:=by kernel_rfl
theorem snd61 (b:Nat)(o:Od)(M:Mem)(hb:M b=some (.cells (odC o)))(hlg:o.log.length+2<=2^43):SoundCall Tryz.prog 61 [ptr b] M fun r M'=>r = .sl (o.log.map str) true/\M'=M:=by
 refine SoundCall.go tk61 pl61 mixed Tryz.func61 cb61 rfl (Nat.le_of_ble_eq_true rfl) ?_;refine Q93 ?_;refine Q1 ?_;refine Q95 fo213_2 ?_;refine Q139 ag24 sz24 ?_;refine o_call ((snd132 o.log _ _ (by omega))) goes132 (ac (v_sl rfl) ac_nil) rfl ?_;refine Q151 ?_;refine Q103 ?_;exact⟨rfl,rfl⟩
end C17
