import Derived.Test.YthmhdhmfkegpiaaGreatDoorHz
import Derived.Test.YthmhdhmfkegpiaaGreatDoorNn16
import Derived.Test.YthmhdhmfkegpiaaGreatDoorAmD
open Go Go.Proofs Go.Am
set_option linter.unusedVariables false
set_option linter.unusedSimpArgs false
set_option autoImplicit false
set_option maxHeartbeats 4000000
set_option maxRecDepth 20000
namespace C17
theorem bz213:(zeroT Tryz.prog 213).map (fun z=>z.cells.toList.map AVal.raw)=some [.raw (.int .i64 0),.raw (.slice none 0 0),.raw (.slice none 0 0),.raw (.int .i64 0),.raw (.int .i64 0),.raw (.int .i64 0),.raw (.int .i64 0),.raw (.int .i64 0),.raw (.int .i64 0),.raw (.int .i64 0),.raw (.int .i64 0),.raw (.int .i64 0)]:=by kernel_rfl
theorem bp213:(aPlaces Tryz.prog 213).isSome=true:=by kernel_rfl
theorem und128:Tryz.prog.underlying 128=some (.pointer 213):=by kernel_rfl
def tk117:Nat->Nat->Option Nat:=fun _ _=>none
def pl117:Nat->List PStep
 | 15=>[.q 0,.q 1,.q 2,.q 3,.q 4,.s 5 [3,2,1,0],.q 6,.q 7,.q 8,.s 9 [7]]
 | _=>[]
theorem cb117:Tryz.f117.body.map (codeB Tryz.prog Tryz.f117.ntmps tk117 pl117)=some true:=by kernel_rfl
theorem goes117:goesB Tryz.prog 117=true:=by kernel_rfl
def rise:Int->List Int->Bool
 | _,[]=>true
 | a,n::l=>decide (a<n) && decide (n<7) && rise n l
theorem rise_drop {l:List Int}{a:Int}{i:Nat}(hi:i<l.length):rise a (l.drop i)=(decide (a<l[i]) && decide (l[i]<7) && rise l[i] (l.drop (i+1))):=by
 rw [List.drop_eq_getElem_cons hi];rfl
theorem rise_facts:∀ {l:List Int} {a:Int},rise a l=true->l.Pairwise (· < ·)/\∀ n∈l,a<n/\n<7
 | [],a,_=>⟨List.Pairwise.nil,by simp⟩
 | n::l,a,h=>by
  simp only [rise,Bool.and_eq_true,decide_eq_true_eq] at h;obtain⟨h1,h2⟩:=rise_facts h.2;refine⟨List.pairwise_cons.2 ⟨fun m hm=>(h2 m hm).1,h1⟩,fun m hm=>?_⟩;rcases List.mem_cons.1 hm with rfl|hm
  ·exact h.1
  ·have:=h2 m hm;omega
theorem rise_len:∀ {l:List Int} {a:Int},rise a l=true->-1<=a->l.length<=(6 - a).toNat
 | [],a,_,_=>by simp
 | n::l,a,h,ha=>by
  simp only [rise,Bool.and_eq_true,decide_eq_true_eq] at h;have:=rise_len h.2 (by omega);simp only [List.length_cons];omega
def okNew (self:Int)(nodes:List Int):Bool:=rise (-1) nodes && decide (self∈nodes)
def sumW (a:Int)(l:List ByteArray):Int:=l.foldl (fun a s=>IntKind.i64.wrap (a+((s.size:Int)+4))) a
theorem sumW_succ {a:Int}{l:List ByteArray}{i:Nat}(hi:i<l.length):sumW a (l.take (i+1))=IntKind.i64.wrap (sumW a (l.take i)+((l[i].size:Int)+4)):=by
 rw [List.take_succ_eq_append_getElem hi,sumW,List.foldl_append];rfl
def hasN (nodes:List Int)(n:Int):List Int:=nodes.foldl (fun h v=>h.set v.toNat n) [0,0,0,0,0,0,0]
theorem hasN_succ {l:List Int}{n:Int}{i:Nat}(hi:i<l.length):hasN (l.take (i+1)) n=(hasN (l.take i) n).set l[i].toNat n:=by
 rw [List.take_succ_eq_append_getElem hi,hasN,List.foldl_append];rfl
theorem foldl_set_len {n:Int}:∀ {l h:List Int},(l.foldl (fun h v=>h.set v.toNat n) h).length=h.length
 | [],h=>rfl
 | a::l,h=>by rw [List.foldl_cons,foldl_set_len,List.length_set]
theorem hasN_len {l:List Int}{n:Int}:(hasN l n).length=7:=foldl_set_len
def newO (self:Int)(nodes:List Int)(log:List ByteArray):Od:=⟨self,nodes,log,sumW 0 log,log.length,hasN nodes log.length⟩
def nilp:AVal:=.raw (.pointer none)
theorem snd117 (self:Int)(nodes:List Int)(o1:Bool)(log:List ByteArray)(o2:Bool)(M:Mem)(hnl:nodes.length<2^60)(hlg:log.length+2<=2^43)(hsz:∀ s∈log,s.size<2^61):SoundCall Tryz.prog 117 [int self,.sl (nodes.map int) o1,.sl (log.map str) o2] M fun r M'=>(okNew self nodes=false/\r = .tup [nilp,int 1]/\M'=M)\/(okNew self nodes=true/\∃ b,M b=none/\r = .tup [ptr b,int 0]/\M'=M.upd b (.cells (odC (newO self nodes log)))):=by
 refine SoundCall.go tk117 pl117 mixed Tryz.func117 cb117 rfl (Nat.le_of_ble_eq_true rfl) ?_;refine Q0 ?_;refine Q55 ?_;refine Q7 ?_;refine Q15 ?_;refine Q31 ?_;refine Q41 und72 ?_;refine Q52 ?_;refine s_loop (fun m S=>∃ T,∃ i:Nat,∃ last:Int,S=⟨setT (setT (setT (setT (setT (setT (setT T 0 (int self)) 1 (.sl (nodes.map int) o1)) 2 (.sl (log.map str) o2)) 8 (int last)) 16 (.sl (nodes.map int) false)) 17 (int nodes.length)) 18 (int (i:Nat)),M⟩/\rise (-1) nodes=rise last (nodes.drop i)/\i<=nodes.length/\m=nodes.length - i) nodes.length ?_ ?_
 ·exact⟨_,0,-1,St.mkT (kp (kp (kp (kp (kp (kp (kp rfl rfl) rfl) rfl) rfl) rfl) (congrArg (fun n:Nat=>AVal.raw (.int .i64 n)) (List.length_map _))) rfl).symm,rfl,by omega,rfl⟩
 rintro m S ⟨T,i,last,rfl,hri,hin,rfl⟩;refine Q50 ?_;refine s_cond rfl (fun h1=>?_) (fun h1=>?_)
 ·have k1:=h1;try simp only [zs] at k1
  refine Q86 ?_;refine Q73 und72 sz3 ?_;refine Q134 ag3 sz3 ?_;refine Q40 ?_;refine Q2 ?_;refine Q89 ?_;refine Q2 ?_;refine o_cases (want:=false) (j:=3) rfl rfl (fun h2=>?_) (fun h2=>?_)
  ·have k2:=h2;try simp only [zs] at k2
   refine Q60 h2 h2 ?_;refine Q23 ?_;refine Q30 h2 ?_;refine Q1 ?_;refine s_cond rfl (fun h3=>?_) (fun h3=>?_)
   ·have k3:=h3;try simp only [zs] at k3
    refine Q0 ?_;refine Q55 ?_;refine Q54 ?_;refine s_code_ret ?_;refine Q121 ?_;exact ret_many (.inl rfl) rfl (rl_t rfl (rl_t rfl rl_nil)) rfl (.inl ⟨by unfold okNew;rw [hri,rise_drop (by omega)];simp;intros;omega,rfl,rfl⟩)
   ·have k3:=h3;try simp only [zs] at k3
    refine Q13 ?_;refine Q144 ?_;refine Q7 ?_;refine Q36 ?_;exact⟨nodes.length - (i+1),by omega,_,i+1,nodes[i],St.mkT (kp (kp (kp (kp (kp (kp (kp rfl rfl) rfl) rfl) rfl) rfl) rfl) rfl).symm,by rw [hri,rise_drop (by omega),decide_eq_true (show last<nodes[i] by omega),decide_eq_true (show nodes[i]<7 by omega)];rfl,by omega,rfl⟩
  ·have k2:=h2;try simp only [zs] at k2
   refine Q24 h2 h2 ?_;refine Q32 h2 ?_;refine Q149 ?_;refine Q0 ?_;refine Q55 ?_;refine Q54 ?_;refine s_code_ret ?_;refine Q121 ?_;exact ret_many (.inl rfl) rfl (rl_t rfl (rl_t rfl rl_nil)) rfl (.inl ⟨by unfold okNew;rw [hri,rise_drop (by omega)];simp;intros;omega,rfl,rfl⟩)
 ·have k1:=h1;try simp only [zs] at k1
  have hro:rise (-1) nodes=true:=by rw [hri,List.drop_of_length_le (by omega)];rfl
  have hrf:=rise_facts hro;refine Q35 ?_;refine Q31 ?_;refine Q140 ?_;refine o_call ((snd175 nodes _ self _ (by omega))) goes175 (ac (v_sl rfl) (ac (v_raw rfl) ac_nil)) rfl ?_;refine Q59 ?_;refine s_cond rfl (fun h4=>?_) (fun h4=>?_)
  ·have k4:=h4;try simp only [zs] at k4
   refine Q0 ?_;refine Q55 ?_;refine Q11 ?_;exact ret_many (.inl rfl) rfl (rl_t rfl (rl_t rfl rl_nil)) rfl (.inl ⟨by unfold okNew;simp_all,rfl,rfl⟩)
  ·have k4:=h4;try simp only [zs] at k4
   refine Q76 ?_;refine s_regf 7 39 2 rfl ?_;refine Q2 ?_;refine Q49 ?_;refine o_call ((snd176 nodes _ _ (by have:=rise_len hro (by omega);omega))) goes176 (ac (v_sl rfl) ac_nil) rfl ?_;refine Q49 ?_;refine o_call ((snd132 log _ _ (by omega))) goes132 (ac (v_sl rfl) ac_nil) rfl ?_;refine Q41 und24 ?_;refine Q1 ?_;refine f_bb rfl (by decide) (q_b (cs:=[_,_,_,.raw (.int .i64 0),_,.raw (.int .i64 0),.raw (.int .i64 0),.raw (.int .i64 0),.raw (.int .i64 0),.raw (.int .i64 0),.raw (.int .i64 0),.raw (.int .i64 0)]) bz213 bp213 (bf fo213_0 (e_raw rfl) rfl rfl (Nat.le_of_ble_eq_true rfl) rfl (bf fo213_1 (e_sl rfl) rfl rfl (Nat.le_of_ble_eq_true rfl) rfl (bf fo213_2 (e_sl rfl) rfl rfl (Nat.le_of_ble_eq_true rfl) rfl (bf fo213_4 (e_raw rfl) rfl rfl (Nat.le_of_ble_eq_true rfl) rfl bf_nil))))) (fun v n c=>⟨_,(q_b (cs:=[_,_,_,.raw (.int .i64 0),_,.raw (.int .i64 0),.raw (.int .i64 0),.raw (.int .i64 0),.raw (.int .i64 0),.raw (.int .i64 0),.raw (.int .i64 0),.raw (.int .i64 0)]) bz213 bp213 (bf fo213_0 (e_raw rfl) rfl rfl (Nat.le_of_ble_eq_true rfl) rfl (bf fo213_1 (e_sl rfl) rfl rfl (Nat.le_of_ble_eq_true rfl) rfl (bf fo213_2 (e_raw rfl) rfl rfl (Nat.le_of_ble_eq_true rfl) rfl (bf fo213_4 (e_raw rfl) rfl rfl (Nat.le_of_ble_eq_true rfl) rfl bf_nil))))),rfl⟩) rfl (Nat.le_of_ble_eq_true rfl) rfl (fun B1 hB1=>?_);refine Q55 ?_;refine Q48 ?_;refine Q41 und24 ?_;refine Q52 ?_;refine s_loop (fun m S=>∃ T,∃ i:Nat,S=⟨setT (setT (setT (setT (setT (setT (setT T 0 (int self)) 1 (.sl (nodes.map int) o1)) 2 (.sl (log.map str) o2)) 11 (ptr B1)) 44 (.sl (log.map str) false)) 45 (int log.length)) 46 (int (i:Nat)),M.upd B1 (.cells (odC ⟨self,nodes,log,sumW 0 (log.take i),log.length,[0,0,0,0,0,0,0]⟩))⟩/\i<=log.length/\m=log.length - i) log.length ?_ ?_
   ·exact⟨_,0,(by simp only [List.length_map];exact St.mkT (kp (kp (kp (kp (kp (kp (kp rfl rfl) rfl) rfl) rfl) rfl) rfl) rfl).symm),by omega,rfl⟩
   rintro m S ⟨T,i,rfl,hil,rfl⟩;refine Q50 ?_;refine s_cond rfl (fun h5=>?_) (fun h5=>?_)
   ·have k5:=h5;try simp only [zs] at k5
    have hls:=hsz log[i] (List.getElem_mem _);refine Q86 ?_;refine Q73 und24 sz9 ?_;refine Q134 ag9 sz9 ?_;refine Q7 ?_;refine Q33 ?_;refine Q77 fo213_3 ag3 sz3 ?_;refine Q14 ?_;refine Q3 ?_;refine o_call ((snd177 log[i] _ (by omega))) goes177 (ac (v_raw rfl) ac_nil) rfl ?_;refine o_nil ⟨(by simp [Mem.upd, *]),?_⟩;refine d_q rfl (q_addw rfl rfl) rfl rfl rfl ?_;refine Q163 ?_;refine Q22 fo213_3 ?_;refine Q3 ?_;refine Q98 sz3 ?_;refine o_nil ⟨(by simp [Mem.upd, *]),?_⟩;refine d_nil ?_;refine Q36 ?_;exact⟨log.length - (i+1),by omega,_,i+1,(by rw [Mem.upd_upd,sumW_succ (by omega)];exact St.mkT (kp (kp (kp (kp (kp (kp (kp rfl rfl) rfl) rfl) rfl) rfl) rfl) rfl).symm),by omega,rfl⟩
   ·have k5:=h5;try simp only [zs] at k5
    refine Q35 ?_;refine Q31 ?_;refine Q41 und72 ?_;refine Q52 ?_;refine s_loop (fun m S=>∃ T,∃ i:Nat,S=⟨setT (setT (setT (setT (setT (setT (setT T 0 (int self)) 1 (.sl (nodes.map int) o1)) 2 (.sl (log.map str) o2)) 11 (ptr B1)) 60 (.sl (nodes.map int) false)) 61 (int nodes.length)) 62 (int (i:Nat)),M.upd B1 (.cells (odC ⟨self,nodes,log,sumW 0 log,log.length,hasN (nodes.take i) log.length⟩))⟩/\i<=nodes.length/\m=nodes.length - i) nodes.length ?_ ?_
    ·exact⟨_,0,(by have hie:i=log.length:=(by omega);rw [hie,List.take_length];exact St.mkT (kp (kp (kp (kp (kp (kp (kp rfl rfl) rfl) rfl) rfl) rfl) (congrArg (fun n:Nat=>AVal.raw (.int .i64 n)) (List.length_map _))) rfl).symm),by omega,rfl⟩
    rintro m S ⟨T,i,rfl,hil,rfl⟩;refine Q50 ?_;refine s_cond rfl (fun h6=>?_) (fun h6=>?_)
    ·have k6:=h6;try simp only [zs] at k6
     have hni:=hrf.2 nodes[i] (List.getElem_mem _);have hhl:(hasN (nodes.take i) log.length).length=7:=hasN_len;have hpl:(0+5+nodes[i].toNat*1)+1<=(odC ⟨self,nodes,log,sumW 0 log,log.length,hasN (nodes.take i) log.length⟩).length:=by simp [odC,hhl];omega
     refine Q86 ?_;refine Q73 und72 sz3 ?_;refine Q134 ag3 sz3 ?_;refine Q7 ?_;refine Q19 ?_;refine Q10 ?_;refine Q2 ?_;refine Q41 und24 ?_;refine Q25 fo213_5 ?_;refine Q178 und125 sz3 ?_;refine o_store rfl mmQ meQ rfl sz3 rfl hpl rfl (od_set (p:=[int self,.sl (nodes.map int) false,.sl (log.map str) true,int (sumW 0 log),int log.length]) (has:=hasN (nodes.take i) log.length) (n:=nodes[i].toNat) rfl (by omega) (by omega)) ?_;refine Q1 ?_;refine Q36 ?_;exact⟨nodes.length - (i+1),by omega,_,i+1,(by rw [Mem.upd_upd,hasN_succ (by omega)];simp only [List.length_map];exact St.mkT (kp (kp (kp (kp (kp (kp (kp rfl rfl) rfl) rfl) rfl) rfl) rfl) rfl).symm),by omega,rfl⟩
    ·have k6:=h6;try simp only [zs] at k6
     refine Q35 ?_;refine Q18 ?_;refine Q55 ?_;refine Q4 ?_;exact ret_many (.inl rfl) rfl (rl_t rfl (rl_t rfl rl_nil)) rfl (.inr ⟨by unfold okNew;simp [hro,k4],B1,hB1,rfl,by have hie:i=nodes.length:=(by omega);rw [hie,List.take_length];rfl⟩)
structure OK (o:Od):Prop where
 rise:rise (-1) o.nodes=true
 mem:o.self∈o.nodes
 has:o.has.length=7
 hvb:∀ v∈o.nodes,0<=hv o v/\hv o v<=o.log.length
 sure0:0<=o.sure
 sure1:o.sure<=o.log.length
theorem OK.h7 {o:Od}(h:OK o):o.nodes.length<=7:=by have:=rise_len h.rise (by omega);omega
theorem OK.h0 {o:Od}(h:OK o):0<o.nodes.length:=List.length_pos_of_mem h.mem
theorem OK.hnr {o:Od}(h:OK o):∀ n∈o.nodes,0<=n/\n<7:=fun n hn=>by have:=(rise_facts h.rise).2 n hn;omega
theorem OK.hse {o:Od}(h:OK o):0<=o.self/\o.self<7:=h.hnr _ h.mem
theorem hasN_get {n:Int}:∀ {l h:List Int} {w:Int},(∀ v∈l,0<=v/\v<7)->0<=w->w<7->h.length=7->(l.foldl (fun h v=>h.set v.toNat n) h).getD w.toNat 0=if w∈l then n else h.getD w.toNat 0
 | [],h,w,_,_,_,_=>by simp
 | a::l,h,w,hl,h0,h7,hh=>by
  rw [List.foldl_cons,hasN_get (fun v hv=>hl v (List.mem_cons_of_mem _ hv)) h0 h7 (by rw [List.length_set];exact hh)];have ha:=hl a List.mem_cons_self;by_cases e:w∈l
  ·rw [if_pos e,if_pos (List.mem_cons_of_mem _ e)]
  ·rw [if_neg e,List.getD_eq_getElem?_getD,List.getElem?_set];by_cases e2:w=a
   ·subst e2;rw [if_pos rfl,if_pos (by omega),if_pos List.mem_cons_self];rfl
   ·rw [if_neg (by omega),if_neg (fun hm=>(List.mem_cons.1 hm).elim e2 e),List.getD_eq_getElem?_getD]
theorem okNew_iff {self:Int}{nodes:List Int}(h:okNew self nodes=true):rise (-1) nodes=true/\self∈nodes:=by
 unfold okNew at h;simpa using h
theorem new_hv {self:Int}{nodes:List Int}{log:List ByteArray}(h:okNew self nodes=true){v:Int}(hvm:v∈nodes):hv (newO self nodes log) v=log.length:=by
 have h1:=okNew_iff h;have hr:∀ v∈nodes,0<=v/\v<7:=fun v hv=>by have:=(rise_facts h1.1).2 v hv;omega
 have:=hasN_get (n:=log.length) (l:=nodes) (h:=[0,0,0,0,0,0,0]) (w:=v) hr (hr v hvm).1 (hr v hvm).2 rfl;rw [if_pos hvm] at this;exact this
theorem new_ok {self:Int}{nodes:List Int}{log:List ByteArray}(h:okNew self nodes=true):OK (newO self nodes log):=by
 have h1:=okNew_iff h;refine⟨h1.1,h1.2,hasN_len,fun v hvm=>?_,by show (0:Int)<=log.length;omega,Int.le_refl _⟩;rw [new_hv h hvm];exact⟨by omega,Int.le_refl _⟩
section
variable {b:Nat}{o:Od}{M:Mem}
theorem prop10 (hb:M b=some (.cells (odC o)))(h:OK o){s:ByteArray}(hs:s.size<2^61)(hlg:o.log.length+2<=2^43):SoundCall Tryz.prog 122 [ptr b,str s] M fun r M'=>r = .tup [int (propO o s).2.1,int (propO o s).2.2]/\M'=M.upd b (.cells (odC (propO o s).1)):=snd122 b o s M hb h.h0 hs h.hse h.has hlg h.h7 h.hnr
end
theorem newOT {self:Int}{nodes:List Int}{log:List ByteArray}(o1 o2:Bool)(M:Mem)(h:okNew self nodes=true)(hnl:nodes.length<2^60)(hlg:log.length+2<=2^43)(hsz:∀ s∈log,s.size<2^61) :
 SoundCall Tryz.prog 117 [int self,.sl (nodes.map int) o1,.sl (log.map str) o2] M fun r M'=>∃ b,M b=none/\r = .tup [ptr b,int 0]/\M'=M.upd b (.cells (odC (newO self nodes log))) :=
 (snd117 self nodes o1 log o2 M hnl hlg hsz).mono fun r M' h'=>by
  rcases h' with ⟨h1,-⟩|⟨-,h1⟩
  ·rw [h] at h1;cases h1
  ·exact h1
section
variable {b:Nat}{o o':Od}{M:Mem}
theorem propE {s:ByteArray}{x y:Int}(h:propO o s=(o',x,y))(hb:M b=some (.cells (odC o)))(hok:OK o)(hs:s.size<2^61)(hlg:o.log.length+2<=2^43):SoundCall Tryz.prog 122 [ptr b,str s] M fun r M'=>r = .tup [int x,int y]/\M'=M.upd b (.cells (odC o')):=by
 have:=prop10 hb hok hs hlg;rwa [h] at this
end
end C17
