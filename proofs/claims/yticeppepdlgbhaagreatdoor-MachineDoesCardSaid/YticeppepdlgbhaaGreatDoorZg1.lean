import Derived.Test.YticeppepdlgbhaaGreatDoorHz
import Derived.Test.YticeppepdlgbhaaGreatDoorProg
import Derived.RangeFuncGives
import Derived.RangeFuncBound
import Derived.Sort.MapsRangeIn
import Derived.Sort.KeysCollected
import Derived.Sort.OwnSorted
import Derived.WalkKit
import Derived.OwnWalkIn
import Derived.TacticsInMore
import Derived.RegionIn
import Derived.LoopNIn
import Derived.LoopIn
import Derived.Maps.AppendAt
import Derived.Shelf.Abstract
import Derived.Shelf.Sort.Plain
import Derived.Shelf.Slices.In.SortNone
import Derived.Shelf.Strings.Repeat
import Derived.Ground.NamesProg
import Derived.Test.YticeppepdlgbhaaGreatDoorAmF
import Derived.Laws.Externs
import Derived.MapKept
import Derived.Test.YticeppepdlgbhaaGreatDoorZr7
import Derived.Test.YticeppepdlgbhaaGreatDoorAmE
namespace Go.Proofs
open Go.RowKit Go.Maps Go.Sort Go.Shelf
set_option linter.unusedVariables false
set_option linter.unusedSimpArgs false
set_option autoImplicit false
end Go.Proofs
open Go Go.Proofs Go.Am
set_option linter.unusedVariables false
set_option linter.unusedSimpArgs false
set_option autoImplicit false
namespace C17k
end C17k
open Go Go.Proofs Go.Am
set_option linter.unusedVariables false
set_option autoImplicit false
namespace C17
section
variable {P:Program}{T:Nat->AVal}{M:Mem}{dst:Option Nat}{x y:Operand}{ty:TypeId}{pos:String}{af:Array Edge}{g:Option (Nat×Bool)}{k kk:IntKind}{a:Int}
theorem o_asnil {tkr:Nat->Option Nat}{ops:Array Oper}{K:St->Prop}{i d:Nat}{rest:List Oper}(h:aOps P tkr ops K (i+1) rest ⟨setT T d (.raw (.slice none 0 0)),M⟩):aOps P tkr ops K i (mkO (some d) (.assign (.const (.slice none 0 0))) ty pos af none::rest) ⟨T,M⟩:=by
 refine o_xs rfl (.inl fun ρ w h1 h2 h3=>.inl ⟨.slice none 0 0,_,?_,Fixed.raw _,h⟩);refine run_val (s:=pure (ρ (.const (.slice none 0 0)))) ?_;rw [h3.2];rfl
end
def namesL (x:Tp):List ByteArray:=sortS (x.kvs.map (·.1))
def kvOf (x:Tp)(k:ByteArray):Int×Int×ByteArray:=(kget x.kvs k).getD (0,0,emp)
theorem namesL_len (x:Tp):(namesL x).length=x.kvs.length:=by
 unfold namesL;rw [show (sortS (x.kvs.map (·.1))).length=(x.kvs.map (·.1)).length from List.length_mergeSort _,List.length_map]
theorem namesL_perm (x:Tp):(namesL x).Perm (x.kvs.map (·.1)):=List.mergeSort_perm _ _
theorem kvOf_mem {x:Tp}{k:ByteArray}(h:k∈namesL x):(k,kvOf x k)∈x.kvs:=by
 have h1:=(namesL_perm x).mem_iff.1 h;obtain⟨p,hp,e⟩:=List.mem_map.1 h1;have h2:kget x.kvs k≠none:=fun hn=>idx_no (idx_of_none (l:=x.kvs) (k:=k) hn) p hp e
 cases hg:kget x.kvs k with
 | none=>exact absurd hg h2
 | some v =>
  unfold kvOf;rw [hg];exact gets_mem hg
theorem leU2 {M M':Mem}{B:Nat}{o o1:AObj}(h:M.le M')(hB:M' B=none):M.le ((M'.upd B o1).upd B o):=fun c x hx=>by
 have hc:c≠B:=fun e=>by have:=h c x hx;rw [e,hB] at this;cases this
 exact ((upd_other hc).trans (upd_other hc)).trans (h c x hx)
end C17
open Go Go.Proofs Go.Am
set_option linter.unusedVariables false
set_option linter.unusedSimpArgs false
set_option autoImplicit false
namespace C17
theorem und62:Tryz.prog.underlying 62=some (.slice 9):=by kernel_rfl
end C17
open Go Go.Proofs Go.Am
set_option linter.unusedVariables false
set_option autoImplicit false
namespace C17
end C17
open Go Go.Proofs Go.Am
set_option linter.unusedVariables false
set_option linter.unusedSimpArgs false
set_option autoImplicit false
namespace C17
end C17
open Go Go.Proofs Go.Am
set_option linter.unusedVariables false
set_option autoImplicit false
namespace C17
end C17
open Go Go.Proofs Go.Am
set_option linter.unusedVariables false
set_option autoImplicit false
namespace C17
end C17
open Go Go.Proofs Go.Am
set_option linter.unusedVariables false
set_option autoImplicit false
namespace C17
def great:Nat:=9007199254740991
structure LoadOk (x:Tp):Prop where
 name:word x.name=true
 low:0<=x.low/\x.low<=x.en/\x.en<=great
 nd:(x.kvs.map (·.1)).Nodup
 kv:∀ p∈x.kvs,word p.1=true/\p.2.2.2=p.1/\(0<=p.2.1/\p.2.1<=great)/\(0<=p.2.2.1/\p.2.2.1<x.en)
 rc:∀ r∈x.recs,right r=true/\(0<=r.off/\r.off<x.en)/\(0<=r.seq/\r.seq<=great)/\x.low<=r.off
 so:Sorted x.recs
theorem namesL_sorted {x:Tp}(h:(x.kvs.map (·.1)).Nodup):(namesL x).Pairwise fun a b=>a.data.toList<b.data.toList:=by
 have h1:(namesL x).Pairwise fun a b=>decide (a.data.toList<=b.data.toList)=true:=List.pairwise_mergeSort (le:=fun x y:ByteArray=>decide (x.data.toList<=y.data.toList)) (fun a b c h1 h2=>by simp only [decide_eq_true_eq] at *;exact List.le_trans h1 h2) (fun a b=>by simp only [Bool.or_eq_true,decide_eq_true_eq];exact List.le_total _ _) _
 have h2:(namesL x).Nodup:=(namesL_perm x).nodup_iff.2 h;refine (h1.and h2).imp fun {a b} ⟨h3,h4⟩=>?_
 have h3':a.data.toList<=b.data.toList:=by simpa using h3
 refine Decidable.byContradiction fun hn=>h4 ?_
 have h5:=List.le_antisymm h3' (List.not_lt.1 hn);cases a;cases b;simp only [ByteArray.mk.injEq];exact Array.ext' h5
end C17
open Go Go.Proofs Go.Am
set_option linter.unusedVariables false
set_option linter.unusedSimpArgs false
set_option autoImplicit false
namespace C17
theorem leN {M M':Mem}{B:Nat}{o:AObj}(h:M.le M')(hB:M B=none):M.le (M'.upd B o):=fun c x hx=>(upd_other fun e=>by rw [e,hB] at hx;cases hx).trans (h c x hx)
end C17
open Go Go.Proofs Go.Am
set_option linter.unusedVariables false
set_option autoImplicit false
set_option linter.unusedSimpArgs false
namespace C17
end C17
open Go Go.Proofs Go.Am
set_option linter.unusedVariables false
set_option autoImplicit false
namespace C17
structure BackOk (n:Nat)(x:Tp):Prop where
 ok:LoadOk x
 kn:x.kvs.length<=n
 rn:x.recs.length<=n
 en:x.en<=n
theorem back_new {s:ByteArray}(h:word s=true):BackOk 0 ⟨s,0,0,[],[]⟩ where
 ok:={ name:=h,low:=⟨Int.le_refl _,Int.le_refl _,by show (0:Int)<=9007199254740991;omega⟩,nd:=List.nodup_nil,kv:=fun p hp=>absurd hp List.not_mem_nil,rc:=fun r hr=>absurd hr List.not_mem_nil,so:=List.Pairwise.nil }
 kn:=Nat.le_refl _
 rn:=Nat.le_refl _
 en:=Int.le_refl _
theorem BackOk.mono {n m:Nat}{x:Tp}(h:BackOk n x)(hm:n<=m):BackOk m x:=⟨h.ok,Nat.le_trans h.kn hm,Nat.le_trans h.rn hm,by have:=h.en;omega⟩
theorem kput_mem {β:Type}{l:List (ByteArray×β)}{k:ByteArray}{v:β}{p:ByteArray×β}(h:p∈kput l k v):p=(k,v)\/p∈l:=by
 unfold kput at h;split at h
 ·rcases List.mem_or_eq_of_mem_set h with h|h
  ·exact .inr h
  ·exact .inl h
 ·rcases List.mem_append.1 h with h|h
  ·exact .inr h
  ·exact .inl (List.mem_singleton.1 h)
theorem kput_len {β:Type}(l:List (ByteArray×β))(k:ByteArray)(v:β):(kput l k v).length<=l.length+1:=by
 unfold kput;split
 ·rw [List.length_set];omega
 ·rw [List.length_append,List.length_singleton];exact Nat.le_refl _
theorem back_px {n:Nat}{x:Tp}{p:ByteArray}{seq:Int}{k v:ByteArray}(h:BackOk n x)(hn:n<2^40)(hw:word p=true)(hr:right (newR x p seq k v)=true):BackOk (n+1) ⟨x.name,x.low,x.en+1,kput x.kvs p (seq,x.en,p),x.recs++[newR x p seq k v]⟩:=by
 have h1:=h.ok.low;have h2:=h.en;have h3:(0:Int)<=seq/\seq<=9007199254740991:=by
  have:=right_spec.1 hr;exact⟨this.2.1,this.2.2.2.1⟩
 have hg:(great:Int)=9007199254740991:=rfl;refine⟨{ name:=h.ok.name,low:=?_,nd:=ins_nd h.ok.nd p _,kv:=fun q hq=>?_,rc:=fun r hr'=>?_,so:=?_ },?_,?_,?_⟩
 ·show 0<=x.low/\x.low<=x.en+1/\x.en+1<=(great:Int);omega
 ·rcases kput_mem hq with rfl|hq
  ·exact⟨hw,rfl,⟨h3.1,by rw [hg];exact h3.2⟩,by show 0<=x.en;omega,by show x.en<x.en+1;omega⟩
  ·obtain⟨g1,g2,g3,g4⟩:=h.ok.kv q hq;exact⟨g1,g2,g3,g4.1,by have:=g4.2;show q.2.2.1<x.en+1;omega⟩
 ·rcases List.mem_append.1 hr' with hr'|hr'
  ·obtain⟨g1,g2,g3,g4⟩:=h.ok.rc r hr';exact⟨g1,⟨g2.1,by have:=g2.2;show r.off<x.en+1;omega⟩,g3,g4⟩
  ·rw [List.mem_singleton.1 hr'];exact⟨hr,⟨by show 0<=x.en;omega,by show x.en<x.en+1;omega⟩,⟨h3.1,by rw [hg];exact h3.2⟩,h1.2.1⟩
 ·refine List.pairwise_append.2 ⟨h.ok.so,List.pairwise_singleton ..,fun a ha b hb=>?_⟩;rw [List.mem_singleton.1 hb];exact (h.ok.rc a ha).2.1.2
 ·have:=kput_len x.kvs p (seq,x.en,p);have:=h.kn;show (kput x.kvs p _).length<=_;omega
 ·have:=h.rn;show (x.recs++[_]).length<=_;rw [List.length_append,List.length_singleton];omega
 ·show x.en+1<=_;omega
theorem back_pub {n:Nat}{x:Tp}(h:BackOk n x)(hn:n<2^40)(p:ByteArray)(seq:Int)(k v:ByteArray):BackOk (n+1) (pub x p seq k v).1:=by
 have hm:=h.mono (Nat.le_succ n);unfold pub;split
 ·rename_i hc;simp only [Bool.and_eq_true] at hc;split
  ·split
   ·exact hm
   ·split
    ·exact hm
    ·exact back_px h hn hc.1 hc.2
  ·exact back_px h hn hc.1 hc.2
 ·exact hm
theorem back_trim {n:Nat}{x:Tp}(h:BackOk n x)(k:Int)(h0:0<=k):BackOk n (trimT x k).1:=by
 have hl:=h.ok.low;unfold trimT;split
 ·exact h
 ·rename_i hk;split
  ·rename_i hk2;refine⟨{ name:=h.ok.name,low:=⟨h0,by show k<=x.en;omega,hl.2.2⟩,nd:=h.ok.nd,kv:=h.ok.kv,rc:=fun r hr=>?_,so:=?_ },h.kn,?_,h.en⟩
   ·have hr':r∈x.recs.drop (atN x.recs k):=hr;obtain⟨g1,g2,g3,g4⟩:=h.ok.rc r (List.mem_of_mem_drop hr');refine⟨g1,g2,g3,?_⟩;obtain⟨i,hi,rfl⟩:=List.mem_iff_getElem.1 hr';show k<=((x.recs.drop (atN x.recs k))[i]).off
    rw [List.getElem_drop];exact atN_ge h.ok.so (by omega) _
   ·exact sorted_sub h.ok.so (List.drop_sublist _ _)
   ·show (x.recs.drop _).length<=n;rw [List.length_drop];have:=h.rn;omega
  ·exact h
end C17
open Go Go.Proofs Go.Am
set_option linter.unusedVariables false
set_option autoImplicit false
namespace C17
end C17
open Go Go.Proofs Go.Am
set_option linter.unusedVariables false
set_option autoImplicit false
namespace C17
def zI:Itm:=⟨0,0,emp⟩
def takeF (kd:Int)(s:ByteArray):Itm×Nat×Int :=
 if 0<szK kd then (if s.size<szK kd then (zI,0,2) else (⟨kd,beN (s.data.toList.take (szK kd)),emp⟩,szK kd,0))
 else if s.size<4 then (zI,0,2) else if 100000<beN (s.data.toList.take 4) then (zI,0,3) else if s.size - 4<beN (s.data.toList.take 4) then (zI,0,2)
 else (⟨kd,0,s.extract 4 (4+beN (s.data.toList.take 4))⟩,4+beN (s.data.toList.take 4),0)
theorem ext_ext (s:ByteArray)(n a b:Nat)(h:n<=s.size):(s.extract n s.size).extract a b=s.extract (n+a) (min (n+b) s.size):=by
 rw [ByteArray.extract_extract]
theorem take_item {c:UInt8}{kd:Int}(hk:kindB c=kd)(h14:1<=kd/\kd<=4)(s:ByteArray):(takeF kd s).2.2=(itemF c s).2.2/\((itemF c s).2.2=0->(takeF kd s).1=(itemF c s).1/\s.extract (takeF kd s).2.1 s.size=(itemF c s).2.1/\(takeF kd s).2.1<=s.size):=by
 unfold takeF itemF;rw [hk];by_cases h4:kd=4
 ·subst h4;rw [if_neg (show ¬ 0<szK 4 by decide),if_pos rfl];unfold textF numF;by_cases h1:s.size<4
  ·rw [if_pos h1,if_pos h1];refine⟨rfl,fun h=>absurd h (show ¬ (2:Int)=0 by decide)⟩
  ·rw [if_neg h1,if_neg h1];dsimp only;rw [if_neg (fun h:¬ ((0:Int)=0)=>h rfl)];by_cases h2:100000<beN (s.data.toList.take 4)
   ·rw [if_pos h2,if_pos h2];exact⟨rfl,fun h=>absurd h (show ¬ (3:Int)=0 by decide)⟩
   ·rw [if_neg h2,if_neg h2];have hz:(s.extract 4 s.size).size=s.size - 4:=by rw [ByteArray.size_extract];omega
    rw [hz];by_cases h3:s.size - 4<beN (s.data.toList.take 4)
    ·rw [if_pos h3,if_pos h3];exact⟨rfl,fun h=>absurd h (show ¬ (2:Int)=0 by decide)⟩
    ·rw [if_neg h3,if_neg h3];refine⟨rfl,fun _=>⟨?_,?_,?_⟩⟩
     ·show (⟨4,0,s.extract 4 (4+beN (s.data.toList.take 4))⟩ : Itm)=⟨4,0,(s.extract 4 s.size).extract 0 (beN (s.data.toList.take 4))⟩
      rw [ext_ext _ _ _ _ (by omega),Nat.min_eq_left (by omega)]
     ·show s.extract (4+beN (s.data.toList.take 4)) s.size=(s.extract 4 s.size).extract (beN (s.data.toList.take 4)) (s.size - 4)
      rw [ext_ext _ _ _ _ (by omega),Nat.min_eq_right (by omega)]
     ·show 4+beN (s.data.toList.take 4)<=s.size
      omega
 ·have hs:0<szK kd:=by
   have:kd=1\/kd=2\/kd=3:=by omega
   rcases this with rfl|rfl|rfl<;>decide
  rw [if_pos hs,if_neg h4];unfold numF;by_cases h1:s.size<szK kd
  ·rw [if_pos h1,if_pos h1];exact⟨rfl,fun h=>absurd h (show ¬ (2:Int)=0 by decide)⟩
  ·rw [if_neg h1,if_neg h1];exact⟨rfl,fun _=>⟨rfl,rfl,by show szK kd<=s.size;omega⟩⟩
def kdOf (a b:List Int)(k:Nat):Int:=if k<a.length then a.getD k 0 else b.getD ((k - a.length) % b.length) 0
def rdec (a b:List Int):Nat->Nat->ByteArray->List Itm->List Itm×Int
 | 0,_,_,_=>([],0)
 | f+1,k,s,out =>
  if k<a.length\/0<b.length then
   if (a.length<=k/\(k - a.length) % b.length=0)/\s=emp then (out,0) else
   if out.length=1000 then ([],3) else
   if (takeF (kdOf a b k) s).2.2≠0 then ([],(takeF (kdOf a b k) s).2.2) else rdec a b f (k+1) (s.extract (takeF (kdOf a b k) s).2.1 s.size) (out++[(takeF (kdOf a b k) s).1])
  else if s≠emp then ([],10) else (out,0)
theorem kget_pair {β:Type}{l:List (ByteArray×β)}(h:(l.map (·.1)).Nodup){p:ByteArray×β}(hp:p∈l):kget l p.1=some p.2:=by
 have hn:kget l p.1≠none:=fun hn=>idx_no (idx_of_none (l:=l) (k:=p.1) hn) p hp rfl
 cases hg:kget l p.1 with
 | none=>exact absurd hg hn
 | some v =>
  have hm:=gets_mem hg;have:(p.1,v)=p:=by
   have h2:=List.pairwise_iff_getElem.1 (List.nodup_iff_pairwise_ne.1 h);obtain⟨i,hi,ei⟩:=List.getElem_of_mem hm;obtain⟨j,hj,ej⟩:=List.getElem_of_mem hp;have hl:(l.map (·.1)).length=l.length:=List.length_map _;have e:i=j:=by
    rcases Nat.lt_trichotomy i j with g|g|g
    ·exact absurd (by rw [List.getElem_map,List.getElem_map,ei,ej]) (h2 i j (by omega) (by omega) g)
    ·exact g
    ·exact absurd (by rw [List.getElem_map,List.getElem_map,ei,ej]) (h2 j i (by omega) (by omega) g)
   subst e;rw [← ei,← ej]
  rw [← this]
end C17
