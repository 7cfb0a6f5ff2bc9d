import Derived.Test.YthmhdhmfkegpiaaGreatDoorHz
import Derived.Test.YthmhdhmfkegpiaaGreatDoorNa7
open Go Go.Proofs Go.Am
set_option autoImplicit false
namespace C17
theorem foldBe (l:List UInt8):∀ a,l.foldl (fun n c=>n*256+c.toNat) a=a*256^l.length+beN l:=by
 induction l with
 | nil=>intro a;simp [beN]
 | cons c l ih =>
  intro a;unfold beN;rw [List.foldl_cons,List.foldl_cons,ih,ih (0*256+c.toNat),List.length_cons,Nat.pow_succ];rw [Nat.add_mul,Nat.zero_mul,Nat.zero_add,Nat.add_assoc,Nat.mul_comm (256^l.length) 256,Nat.mul_assoc]
theorem beN_low (v:Nat):∀ n,beN (lowB v n)=v % 256^n
 | 0=>by rw [Nat.pow_zero,Nat.mod_one];rfl
 | n+1=>by
  have e:lowB v (n+1)=UInt8.ofNat (v / 256^n % 256)::lowB v n:=rfl;unfold beN;rw [e,List.foldl_cons,foldBe,lowB_len,beN_low v n,Nat.zero_mul,Nat.zero_add,Nat.mod_pow_succ];have e2:(UInt8.ofNat (v / 256^n % 256)).toNat=v / 256^n % 256:=by simp
  rw [e2,Nat.mul_comm,Nat.add_comm]
theorem ext_right (a b:ByteArray):(a++b).extract a.size (a++b).size=b:=by
 exact ByteArray.extract_append_eq_right rfl (by rw [ByteArray.size_append])
theorem ext_left (a b:ByteArray):(a++b).extract 0 a.size=a:=ByteArray.extract_append_eq_left rfl
theorem bytI_num {k:Int}{n:Nat}{s:ByteArray}(h:k≠4):bytI ⟨k,n,s⟩=numB n (szK k):=if_neg h
theorem bytI_txt {n:Nat}{s:ByteArray}:bytI ⟨4,n,s⟩=numB s.size 4++s:=rfl
theorem numF_enc {v size:Nat}(h:v<256^size)(rest:ByteArray)(e:Int):numF size (numB v size++rest) e=(v,rest,e):=by
 unfold numF;have hz:(numB v size++rest).size=size+rest.size:=by rw [ByteArray.size_append,numB_size]
 have h1:(numB v size++rest).data.toList.take size=lowB v size:=by
  have:(numB v size++rest).data.toList=lowB v size++rest.data.toList:=by
   rw [ByteArray.data_append,Array.toList_append];rfl
  rw [this,List.take_left' (lowB_len v size)]
 have h2:=ext_right (numB v size) rest;rw [numB_size] at h2;rw [if_neg (by omega),h1,h2,beN_low,Nat.mod_eq_of_lt h]
theorem textF_enc {t:ByteArray}(h:t.size<=100000)(rest:ByteArray):textF ((numB t.size 4++t)++rest) 0=(t,rest,0):=by
 unfold textF;rw [ByteArray.append_assoc,numF_enc (by omega)];rw [if_neg (fun h=>h rfl),if_neg (by omega),if_neg (by rw [ByteArray.size_append];omega),ext_left,ext_right]
theorem itemF_enc {c:UInt8}{x:Itm}(hk:kindB c=x.kind)(hx:okI x)(rest:ByteArray):itemF c (bytI x++rest)=(x,rest,0):=by
 obtain⟨k,n,s⟩:=x;have hk':kindB c=k:=hk;unfold itemF;rw [hk'];rcases hx with ⟨h1,h2,h3⟩|⟨h1,h2,h3⟩|⟨h1,h2,h3⟩|⟨h1,h2,h3⟩<;>dsimp only at h1 h2 h3<;>subst h1
 ·subst h3;rw [bytI_num (by decide),show szK 1=1 from rfl,numF_enc (show n<256^1 by omega)];rfl
 ·subst h3;rw [bytI_num (by decide),show szK 2=4 from rfl,numF_enc (show n<256^4 by omega)];rfl
 ·subst h3;rw [bytI_num (by decide),show szK 3=8 from rfl,numF_enc (show n<256^8 by omega)];rfl
 ·subst h2;rw [bytI_txt,textF_enc h3];rfl
theorem encAll_cons (x:Itm)(l:List Itm):encAll (x::l)=bytI x++encAll l:=by
 have key:∀ (l:List Itm) (a:ByteArray),l.foldl (fun b x=>b++bytI x) a=a++l.foldl (fun b x=>b++bytI x) emp:=by
  intro l
  induction l with
  | nil=>intro a;exact (ByteArray.append_empty).symm
  | cons y l ih =>
   intro a;rw [List.foldl_cons,List.foldl_cons,ih,ih (emp++bytI y),ByteArray.append_assoc];congr 1
 unfold encAll;rw [List.foldl_cons,key];congr 1
theorem decL_enc (sh:ByteArray):∀ (l:List Itm) (f k:Nat) (out:List Itm),k+l.length=sh.size->l.length<f->out.length+l.length<=1000->(∀ i,∀ h:i<l.length,kindB (sh.data[k+i]!)=l[i].kind/\okI l[i]) →
 decL sh (-1) f k (encAll l) out=(out++l,0)
 | [],f,k,out,h1,h2,h3,h4=>by
  obtain⟨f,rfl⟩ : ∃ g,f=g+1:=⟨f - 1,by have:([]:List Itm).length=0:=rfl;omega⟩;have e:k=sh.size:=by simpa using h1
  rw [decL_succ];simp only [show ¬ (0:Int)<=-1 by omega,and_false,if_false,false_and];rw [if_neg (by omega),if_neg (by simp [encAll])];simp
 | x::l,f,k,out,h1,h2,h3,h4=>by
  obtain⟨f,rfl⟩ : ∃ g,f=g+1:=⟨f - 1,by omega⟩;rw [List.length_cons] at h1 h2 h3;obtain⟨hk,hx⟩ : kindB (sh.data[k]!)=x.kind/\okI x:=h4 0 (by simp);rw [decL_succ];simp only [show ¬ (0:Int)<=-1 by omega,and_false,if_false,false_and];rw [if_pos (by omega),if_neg (by omega),Int.toNat_natCast,encAll_cons,itemF_enc hk hx,if_neg (fun h=>h rfl)];have e2:((k:Int)+1)=((k+1:Nat):Int):=rfl;rw [e2,decL_enc sh l f (k+1) (out++[x]) (by omega) (by omega) (by rw [List.length_append,List.length_singleton];omega) fun i hi=>?_]
  ·rw [List.append_assoc];rfl
  ·have:=h4 (i+1) (by rw [List.length_cons];omega);rw [show k+1+i=k+(i+1) by omega];exact this
theorem decF_cmd {c:Cmd}(h:rightC c=true):decF shape9 (bytC c)=(itemsC c,0):=by
 unfold decF;rw [if_pos (show rightS shape9=true by kernel_rfl)];have e:idxB shape9 42 = -1:=by kernel_rfl
 rw [e];refine (decL_enc shape9 (itemsC c) 1001 0 [] rfl (by show 9<1001;omega) (by show 0+9<=1000;omega) fun i hi=>⟨?_,okItems h _ (List.getElem_mem hi)⟩);have hi9:i<9:=hi;have:i=0\/i=1\/i=2\/i=3\/i=4\/i=5\/i=6\/i=7\/i=8:=by omega
 rcases this with rfl|rfl|rfl|rfl|rfl|rfl|rfl|rfl|rfl<;>first|exact (show kindB 98=1 by kernel_rfl)|exact (show kindB 116=4 by kernel_rfl)|exact (show kindB 108=3 by kernel_rfl)
theorem decC_cmd {c:Cmd}(h:rightC c=true):decC (bytC c)=(c,0):=by
 obtain⟨h1,h2,h3,h4,h5,h6,h7,h8,h9⟩:=rightC_le h;have e:cmdOf ⟨1,c.kind.toNat,emp⟩ ⟨4,0,c.topic⟩ ⟨4,0,c.name⟩ ⟨3,c.seq.toNat,emp⟩ ⟨4,0,c.key⟩ ⟨4,0,c.val⟩ ⟨3,(c.n+1).toNat,emp⟩ ⟨1,c.node.toNat,emp⟩ ⟨3,c.ask.toNat,emp⟩=c:=by
  obtain⟨k,t,nm,sq,ky,v,n,nd,a⟩:=c;dsimp only at h1 h2 h3 h4 h5;unfold cmdOf;simp only [Cmd.mk.injEq,true_and];omega
 unfold decC;rw [decF_cmd h,if_neg (fun h=>h rfl)];unfold itemsC;dsimp only;rw [if_pos (by omega),e,if_pos h]
theorem decC_emp:(decC emp).2≠0:=by
 have:(decC emp).2=2:=by kernel_rfl
 rw [this];decide
end C17
