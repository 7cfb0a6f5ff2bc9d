import Derived.Test.YthmhdhmfkegpiaaGreatDoorHz
import Derived.Test.YthmhdhmfkegpiaaGreatDoorNn8
open Go Go.Proofs Go.Am
set_option linter.unusedVariables false
set_option linter.unusedSimpArgs false
set_option autoImplicit false
namespace C17
def shM:ByteArray:=⟨#[98,98,108,108,108,108,108,98,108,98,116,42,116]⟩
def letM (i:Nat):UInt8:=if i<11 then shM.data[i]! else 116
def rd (f i:Nat)(s:ByteArray)(out:List Itm):List Itm×Int :=
 match f with
 | 0=>([],0)
 | f+1=>if 11<=i/\s=emp then (out,0) else if out.length=1000 then ([],3) else if (itemF (letM i) s).2.2≠0 then ([],(itemF (letM i) s).2.2) else rd f (i+1) (itemF (letM i) s).2.1 (out++[(itemF (letM i) s).1])
def kM (i:Nat):Nat:=if i<=11 then i else 13
theorem decL_rd:∀ (f i:Nat) (s:ByteArray) (out:List Itm),decL shM 11 f ((kM i:Nat):Int) s out=rd f i s out
 | 0,i,s,out=>rfl
 | f+1,i,s,out=>by
  have hs:shM.size=13:=rfl;rw [decL_succ];have e1:(if ((kM i:Nat):Int)=(shM.size:Nat)/\(0:Int)<=11 then (11:Int) else (kM i:Nat))=((min i 11:Nat):Int):=by
   unfold kM;rw [hs];by_cases h:i<=11
   ·rw [if_pos h,if_neg (by omega)];omega
   ·rw [if_neg h,if_pos ⟨rfl,by decide⟩];omega
  rw [e1];have e2:(if ((min i 11:Nat):Int)=11/\(0:Int)<=11 then ((min i 11:Nat):Int)+1 else ((min i 11:Nat):Int))=((if i<11 then i else 12:Nat):Int):=by
   by_cases h:i<11
   ·rw [if_neg (by omega),if_pos h];omega
   ·rw [if_pos (by omega),if_neg h];omega
  rw [e2];have e3:(((if i<11 then i else 12:Nat):Int)).toNat=if i<11 then i else 12:=Int.toNat_natCast _
  have e4:shM.data[if i<11 then i else 12]! = letM i:=by
   unfold letM;by_cases h:i<11
   ·rw [if_pos h,if_pos h]
   ·rw [if_neg h,if_neg h];rfl
  have e5:((if i<11 then i else 12:Nat):Int)+1=((kM (i+1):Nat):Int):=by
   unfold kM;by_cases h:i<11
   ·rw [if_pos h,if_pos (by omega)];omega
   ·rw [if_neg h,if_neg (by omega)];rfl
  rw [e3,e4,e5];have e6:((if i<11 then i else 12:Nat):Int)<(shM.size:Nat):=by rw [hs];split<;>omega
  rw [if_pos e6];show _=(if 11<=i/\s=emp then (out,0) else _)
  by_cases hc:11<=i/\s=emp
  ·rw [if_pos hc,if_pos ⟨by omega,by decide,hc.2⟩]
  ·rw [if_neg hc,if_neg fun h=>hc ⟨by omega,h.2.2⟩];by_cases h5:out.length=1000
   ·rw [if_pos h5,if_pos h5]
   ·rw [if_neg h5,if_neg h5];by_cases h6:(itemF (letM i) s).2.2=0
    ·rw [if_neg (fun h=>h h6),if_neg (fun h=>h h6)];exact decL_rd f (i+1) _ _
    ·rw [if_pos h6,if_pos h6]
theorem decF_M (s:ByteArray):decF shM s=rd 1001 0 s []:=by
 have h1:rightS shM=true:=by kernel_rfl
 have h2:idxB shM 42=11:=by kernel_rfl
 unfold decF;rw [if_pos h1,h2];exact decL_rd 1001 0 s []
theorem rd_inv:∀ (f i:Nat) (s:ByteArray) (out:List Itm),f+out.length=1001->out.length<=1000->(rd f i s out).2=0->encAll (rd f i s out).1=encAll out++s
 | 0,i,s,out,h1,h2,h=>by omega
 | f+1,i,s,out,h1,h2,h=>by
  unfold rd at h ⊢;split at h
  ·rename_i hc;rw [if_pos hc,hc.2];exact ByteArray.append_empty.symm
  ·rename_i hc;rw [if_neg hc];split at h
   ·exact absurd h (show ¬ (3:Int)=0 by decide)
   ·rename_i hl;rw [if_neg hl];split at h
    ·rename_i he;exact absurd h he
    ·rename_i he;rw [if_neg he];have he:=Decidable.not_not.1 he;rw [rd_inv f (i+1) _ _ (by rw [List.length_append,List.length_singleton];omega) (by rw [List.length_append,List.length_singleton];omega) h,encAll_snoc,ByteArray.append_assoc,itemF_inv he]
theorem decM_inv {s:ByteArray}(h:(decF shM s).2=0):encAll (decF shM s).1=s:=by
 rw [decF_M] at h ⊢;rw [rd_inv 1001 0 s [] rfl (by decide) h];exact ByteArray.empty_append
def itK (q:Nat)(x:Itm):Prop:=x.kind=kindB (letM q)/\(kindB (letM q)=4->x.n=0)/\(kindB (letM q)≠4->x.s=emp)/\okD (letM q) x
theorem rd_kinds:∀ (f i:Nat) (s:ByteArray) (out:List Itm),f+out.length=1001->out.length<=1000->out.length=i->(rd f i s out).2=0->(∀ q x,out[q]? = some x->itK q x) →
 (11<=(rd f i s out).1.length/\(rd f i s out).1.length<=1000)/\∀ q x,(rd f i s out).1[q]? = some x->itK q x
 | 0,i,s,out,h1,h2,h3,h,ho=>by omega
 | f+1,i,s,out,h1,h2,h3,h,ho=>by
  unfold rd at h ⊢;split at h
  ·rename_i hc;rw [if_pos hc];exact⟨⟨by rw [h3];exact hc.1,h2⟩,ho⟩
  ·rename_i hc;rw [if_neg hc];split at h
   ·exact absurd h (show ¬ (3:Int)=0 by decide)
   ·rename_i hl;rw [if_neg hl];split at h
    ·rename_i he;exact absurd h he
    ·rename_i he;rw [if_neg he];have he:=Decidable.not_not.1 he;refine rd_kinds f (i+1) _ _ (by rw [List.length_append,List.length_singleton];omega) (by rw [List.length_append,List.length_singleton];omega) (by rw [List.length_append,List.length_singleton];omega) h fun q x hq=>?_
     rw [List.getElem?_append] at hq;split at hq
     ·exact ho q x hq
     ·rename_i hlt;have hq0:q=i:=by
       have:=(List.getElem?_eq_some_iff.1 hq).1;rw [List.length_singleton] at this;omega
      subst hq0;rw [h3,Nat.sub_self] at hq;obtain rfl:=(Option.some.inj hq).symm;obtain⟨k1,k2,k3⟩:=itemF_kind (letM q) s;exact⟨k1,k2,k3,itemF_ok he⟩
theorem decM_kinds {s:ByteArray}(h:(decF shM s).2=0):(11<=(decF shM s).1.length/\(decF shM s).1.length<=1000)/\∀ q x,(decF shM s).1[q]? = some x->itK q x:=by
 rw [decF_M] at h ⊢;exact rd_kinds 1001 0 s [] rfl (by decide) rfl h fun q x hq=>by cases hq
def aM:List Int:=[1,1,3,3,3,3,3,1,3,1,4]
theorem kd_M (i:Nat):kindB (letM i)=kdOf aM [4] i/\1<=kdOf aM [4] i/\kdOf aM [4] i<=4:=by
 unfold letM kdOf;by_cases h:i<11
 ·rw [if_pos h,if_pos (show i<aM.length from h)]
  match i,h with
  | 0,_=>exact⟨by kernel_rfl,by decide,by decide⟩
  | 1,_=>exact⟨by kernel_rfl,by decide,by decide⟩
  | 2,_=>exact⟨by kernel_rfl,by decide,by decide⟩
  | 3,_=>exact⟨by kernel_rfl,by decide,by decide⟩
  | 4,_=>exact⟨by kernel_rfl,by decide,by decide⟩
  | 5,_=>exact⟨by kernel_rfl,by decide,by decide⟩
  | 6,_=>exact⟨by kernel_rfl,by decide,by decide⟩
  | 7,_=>exact⟨by kernel_rfl,by decide,by decide⟩
  | 8,_=>exact⟨by kernel_rfl,by decide,by decide⟩
  | 9,_=>exact⟨by kernel_rfl,by decide,by decide⟩
  | 10,_=>exact⟨by kernel_rfl,by decide,by decide⟩
 ·rw [if_neg h,if_neg (show ¬ i<aM.length from h)];have e:(i - aM.length) % ([4]:List Int).length=0:=Nat.mod_one _;rw [e];exact⟨kB116,by decide,by decide⟩
theorem rdec_rd:∀ (f i:Nat) (s:ByteArray) (out:List Itm),rdec aM [4] f i s out=rd f i s out
 | 0,i,s,out=>rfl
 | f+1,i,s,out=>by
  have ha:aM.length=11:=rfl;unfold rdec rd;rw [if_pos (.inr (by decide)),ha];obtain⟨h1,h2⟩:=kd_M i;obtain⟨h3,h4⟩:=take_item h1 h2 s;rw [h3];have hm:(i - 11) % ([4]:List Int).length=0:=Nat.mod_one _;by_cases hc:11<=i/\s=emp
  ·rw [if_pos hc,if_pos ⟨⟨hc.1,hm⟩,hc.2⟩]
  ·rw [if_neg hc,if_neg fun h=>hc ⟨h.1.1,h.2⟩];by_cases h5:out.length=1000
   ·rw [if_pos h5,if_pos h5]
   ·rw [if_neg h5,if_neg h5];by_cases h6:(itemF (letM i) s).2.2=0
    ·rw [if_neg (fun h=>h h6),if_neg (fun h=>h h6)];obtain⟨h7,h8,-⟩:=h4 h6;rw [h7,h8];exact rdec_rd f (i+1) _ _
    ·rw [if_pos h6,if_pos h6]
theorem rdecF_M (s:ByteArray):rdecF shM s=decF shM s:=by
 have h:kindsF shM.data.toList false [] []=((aM,[4]),true):=by kernel_rfl
 unfold rdecF;rw [h,decF_M];exact rdec_rd 1001 0 s []
end C17
