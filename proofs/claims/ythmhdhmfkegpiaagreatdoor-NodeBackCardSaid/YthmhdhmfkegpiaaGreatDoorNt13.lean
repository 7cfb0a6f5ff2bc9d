import Derived.Test.YthmhdhmfkegpiaaGreatDoorHz
import Derived.Test.YthmhdhmfkegpiaaGreatDoorNt1
import Derived.Test.YthmhdhmfkegpiaaGreatDoorAmF
open Go Go.Proofs Go.Am
set_option linter.unusedVariables false
set_option linter.unusedSimpArgs false
set_option autoImplicit false
namespace C17
theorem kB116:kindB 116=4:=by kernel_rfl
theorem lowB_add (a m n:Nat):∀ k,k<=n->lowB (a*256^n+m) k=lowB m k
 | 0,_=>rfl
 | k+1,h=>by
  have e:256^n=256^(n - k - 1)*256*256^k:=by
   rw [Nat.mul_assoc,← Nat.pow_succ',← Nat.pow_add];congr 1;omega
  have e1:(a*256^n+m) / 256^k=m / 256^k+a*256^(n - k - 1)*256:=by
   rw [e,← Nat.mul_assoc,← Nat.mul_assoc,Nat.add_comm,Nat.add_mul_div_right _ _ (Nat.pow_pos (by decide))]
  show UInt8.ofNat ((a*256^n+m) / 256^k % 256)::lowB (a*256^n+m) k=UInt8.ofNat (m / 256^k % 256)::lowB m k
  rw [lowB_add a m n k (by omega),e1,Nat.add_mul_mod_self_right]
theorem low_be:∀ (l:List UInt8),lowB (beN l) l.length=l
 | []=>rfl
 | c::l=>by
  have e:beN (c::l)=c.toNat*256^l.length+beN l:=by
   unfold beN;rw [List.foldl_cons,foldBe,Nat.zero_mul,Nat.zero_add];rfl
  have hlt:=beN_lt l;have hc:c.toNat<256:=c.toNat_lt;show UInt8.ofNat (beN (c::l) / 256^l.length % 256)::lowB (beN (c::l)) l.length=c::l
  rw [e,lowB_add _ _ _ _ (Nat.le_refl _),low_be l,Nat.add_comm,Nat.add_mul_div_right _ _ (Nat.pow_pos (by decide)),Nat.div_eq_of_lt hlt,Nat.zero_add,Nat.mod_eq_of_lt hc];simp
theorem ba_split (s:ByteArray)(n:Nat)(h:n<=s.size):s.extract 0 n++s.extract n s.size=s:=by
 have h2:s.data.size=s.size:=rfl;ext1;rw [ByteArray.data_append,ByteArray.data_extract,ByteArray.data_extract];apply Array.ext';rw [Array.toList_append,Array.toList_extract,Array.toList_extract,List.extract_eq_take_drop,List.extract_eq_take_drop,List.drop_zero,Nat.sub_zero];have h3:List.take (s.size - n) (s.data.toList.drop n)=s.data.toList.drop n:=List.take_of_length_le (by rw [List.length_drop,Array.length_toList];omega);rw [h3,List.take_append_drop]
theorem numB_take (s:ByteArray)(n:Nat)(h:n<=s.size):numB (beN (s.data.toList.take n)) n=s.extract 0 n:=by
 have h2:s.data.size=s.size:=rfl;have h1:(s.data.toList.take n).length=n:=by
  rw [List.length_take,Array.length_toList];omega
 have h3:=low_be (s.data.toList.take n);rw [h1] at h3;show (⟨(lowB (beN (s.data.toList.take n)) n).toArray⟩ : ByteArray)=_
 rw [h3];ext1;rw [ByteArray.data_extract];apply Array.ext';rw [Array.toList_extract,List.extract_eq_take_drop,List.drop_zero,Nat.sub_zero]
theorem numF_inv {n:Nat}{s:ByteArray}(h:(numF n s 0).2.2=0):numB (numF n s 0).1 n++(numF n s 0).2.1=s/\n<=s.size:=by
 unfold numF at h ⊢;split at h
 ·exact absurd h (show ¬ (2:Int)=0 by decide)
 ·rename_i hn;rw [if_neg hn];show numB (beN (s.data.toList.take n)) n++s.extract n s.size=s/\_
  rw [numB_take s n (by omega),ba_split s n (by omega)];exact⟨rfl,by omega⟩
theorem textF_inv {s:ByteArray}(h:(textF s 0).2.2=0):(numB (textF s 0).1.size 4++(textF s 0).1)++(textF s 0).2.1=s:=by
 unfold textF at h ⊢;split at h
 ·rename_i h1;exact absurd h h1
 ·rename_i h1;rw [if_neg h1];split at h
  ·exact absurd h (show ¬ (3:Int)=0 by decide)
  ·rename_i h2;rw [if_neg h2];split at h
   ·exact absurd h (show ¬ (2:Int)=0 by decide)
   ·rename_i h3;rw [if_neg h3];obtain⟨h5,h6⟩:=numF_inv (Decidable.not_not.1 h1);have h7:((numF 4 s 0).2.1.extract 0 (numF 4 s 0).1).size=(numF 4 s 0).1:=by
     rw [ByteArray.size_extract];omega
    show (numB ((numF 4 s 0).2.1.extract 0 (numF 4 s 0).1).size 4++(numF 4 s 0).2.1.extract 0 (numF 4 s 0).1)++(numF 4 s 0).2.1.extract (numF 4 s 0).1 (numF 4 s 0).2.1.size=s
    rw [h7,ByteArray.append_assoc,ba_split _ _ (by omega)];exact h5
theorem itemF_inv {c:UInt8}{s:ByteArray}(h:(itemF c s).2.2=0):bytI (itemF c s).1++(itemF c s).2.1=s:=by
 unfold itemF at h ⊢;split at h
 ·rename_i hk;rw [if_pos hk];exact textF_inv h
 ·rename_i hk;rw [if_neg hk];show bytI ⟨kindB c,(numF (szK (kindB c)) s 0).1,emp⟩++_=s
  rw [bytI_num hk];exact (numF_inv h).1
theorem encAll_snoc (l:List Itm)(x:Itm):encAll (l++[x])=encAll l++bytI x:=by
 unfold encAll;rw [List.foldl_append];rfl
theorem itemF_kind (c:UInt8)(s:ByteArray):(itemF c s).1.kind=kindB c/\(kindB c=4->(itemF c s).1.n=0)/\(kindB c≠4->(itemF c s).1.s=emp):=by
 unfold itemF;split
 ·rename_i hk;exact⟨hk.symm,fun _=>rfl,fun h=>absurd hk h⟩
 ·rename_i hk;exact⟨rfl,fun h=>absurd h hk,fun _=>rfl⟩
def zI:Itm:=⟨0,0,emp⟩
def takeF (kd:Int)(s:ByteArray):Itm×Nat×Int :=
 if 0<szK kd then (if s.size<szK kd then (zI,0,2) else (⟨kd,beN (s.data.toList.take (szK kd)),emp⟩,szK kd,0))
 else if s.size<4 then (zI,0,2) else if 100000<beN (s.data.toList.take 4) then (zI,0,3) else if s.size - 4<beN (s.data.toList.take 4) then (zI,0,2)
 else (⟨kd,0,s.extract 4 (4+beN (s.data.toList.take 4))⟩,4+beN (s.data.toList.take 4),0)
theorem ext_ext (s:ByteArray)(n a b:Nat)(h:n<=s.size):(s.extract n s.size).extract a b=s.extract (n+a) (min (n+b) s.size):=by
 rw [ByteArray.extract_extract]
theorem take_item {c:UInt8}{kd:Int}(hk:kindB c=kd)(h14:1<=kd/\kd<=4)(s:ByteArray):(takeF kd s).2.2=(itemF c s).2.2/\((itemF c s).2.2=0->(takeF kd s).1=(itemF c s).1/\s.extract (takeF kd s).2.1 s.size=(itemF c s).2.1/\(takeF kd s).2.1<=s.size):=by
 unfold takeF itemF;rw [hk];by_cases h4:kd=4
 ·subst h4;rw [if_neg (show ¬ 0<szK 4 by decide),if_pos rfl];unfold textF numF;by_cases h1:s.size<4
  ·rw [if_pos h1,if_pos h1];refine⟨rfl,fun h=>absurd h (show ¬ (2:Int)=0 by decide)⟩
  ·rw [if_neg h1,if_neg h1];dsimp only;rw [if_neg (fun h:¬ ((0:Int)=0)=>h rfl)];by_cases h2:100000<beN (s.data.toList.take 4)
   ·rw [if_pos h2,if_pos h2];exact⟨rfl,fun h=>absurd h (show ¬ (3:Int)=0 by decide)⟩
   ·rw [if_neg h2,if_neg h2];have hz:(s.extract 4 s.size).size=s.size - 4:=by rw [ByteArray.size_extract];omega
    rw [hz];by_cases h3:s.size - 4<beN (s.data.toList.take 4)
    ·rw [if_pos h3,if_pos h3];exact⟨rfl,fun h=>absurd h (show ¬ (2:Int)=0 by decide)⟩
    ·rw [if_neg h3,if_neg h3];refine⟨rfl,fun _=>⟨?_,?_,?_⟩⟩
     ·show (⟨4,0,s.extract 4 (4+beN (s.data.toList.take 4))⟩ : Itm)=⟨4,0,(s.extract 4 s.size).extract 0 (beN (s.data.toList.take 4))⟩
      rw [ext_ext _ _ _ _ (by omega),Nat.min_eq_left (by omega)]
     ·show s.extract (4+beN (s.data.toList.take 4)) s.size=(s.extract 4 s.size).extract (beN (s.data.toList.take 4)) (s.size - 4)
      rw [ext_ext _ _ _ _ (by omega),Nat.min_eq_right (by omega)]
     ·show 4+beN (s.data.toList.take 4)<=s.size
      omega
 ·have hs:0<szK kd:=by
   have:kd=1\/kd=2\/kd=3:=by omega
   rcases this with rfl|rfl|rfl<;>decide
  rw [if_pos hs,if_neg h4];unfold numF;by_cases h1:s.size<szK kd
  ·rw [if_pos h1,if_pos h1];exact⟨rfl,fun h=>absurd h (show ¬ (2:Int)=0 by decide)⟩
  ·rw [if_neg h1,if_neg h1];exact⟨rfl,fun _=>⟨rfl,rfl,by show szK kd<=s.size;omega⟩⟩
def kdOf (a b:List Int)(k:Nat):Int:=if k<a.length then a.getD k 0 else b.getD ((k - a.length) % b.length) 0
def rdec (a b:List Int):Nat->Nat->ByteArray->List Itm->List Itm×Int
 | 0,_,_,_=>([],0)
 | f+1,k,s,out =>
  if k<a.length\/0<b.length then
   if (a.length<=k/\(k - a.length) % b.length=0)/\s=emp then (out,0) else
   if out.length=1000 then ([],3) else
   if (takeF (kdOf a b k) s).2.2≠0 then ([],(takeF (kdOf a b k) s).2.2) else rdec a b f (k+1) (s.extract (takeF (kdOf a b k) s).2.1 s.size) (out++[(takeF (kdOf a b k) s).1])
  else if s≠emp then ([],10) else (out,0)
end C17
