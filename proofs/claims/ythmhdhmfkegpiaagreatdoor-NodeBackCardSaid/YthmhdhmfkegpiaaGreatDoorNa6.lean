import Derived.Test.YthmhdhmfkegpiaaGreatDoorHz
import Derived.Test.YthmhdhmfkegpiaaGreatDoorNa5
open Go Go.Proofs Go.Am
set_option linter.unusedVariables false
set_option linter.unusedSimpArgs false
set_option autoImplicit false
namespace C17
section
variable {β:Type}{l:List (ByteArray×β)}{k k':ByteArray}{v:β}
theorem gets_ins:gets (ins l k v) k'=if k'=k then some v else gets l k':=kget_kput l k v k'
theorem gets_cons {p:ByteArray×β}:gets (p::l) k=if p.1=k then some p.2 else gets l k:=kget_cons p l k
theorem gets_map {γ:Type}(f:ByteArray->γ):gets (l.map fun p=>(p.1,f p.1)) k=(gets l k).map fun _=>f k:=by
 induction l with
 | nil=>rfl
 | cons p l ih =>
  rw [List.map_cons,gets_cons,gets_cons,ih];by_cases e:p.1=k
  ·rw [if_pos e,if_pos e,e];rfl
  ·rw [if_neg e,if_neg e]
theorem gets_mem (h:gets l k=some v):(k,v)∈l:=by
 unfold gets at h;obtain⟨p,hp,rfl⟩:=Option.map_eq_some_iff.1 h;have h1:=List.mem_of_find?_eq_some hp;have h2:=List.find?_some hp;have h3:p.1=k:=by simpa using h2
 rw [← h3];exact h1
theorem idx_of_gets (h:gets l k=some v):∃ j,l.findIdx? (fun p=>p.1=k)=some j:=by
 cases hj:l.findIdx? (fun p=>p.1=k) with
 | some j=>exact⟨j,rfl⟩
 | none=>exact absurd rfl (idx_no hj _ (gets_mem h))
theorem idx_of_none (h:gets l k=none):l.findIdx? (fun p=>p.1=k)=none:=by
 cases hj:l.findIdx? (fun p=>p.1=k) with
 | none=>rfl
 | some j =>
  exfalso;obtain⟨hlt,hp,-⟩:=List.findIdx?_eq_some_iff_getElem.1 hj;unfold gets at h;rw [Option.map_eq_none_iff,List.find?_eq_none] at h;exact h _ (List.getElem_mem hlt) hp
theorem ins_new (h:gets l k=none):ins l k v=l++[(k,v)]:=by
 unfold ins;rw [idx_of_none h]
theorem ins_names {w:β}(h:gets l k=some w):(ins l k v).map (·.1)=l.map (·.1):=by
 obtain⟨j,hj⟩:=idx_of_gets h;unfold ins;rw [hj];exact nodup_set hj
theorem map_names {γ:Type}(f:ByteArray->γ):(l.map fun p=>(p.1,f p.1))=(l.map (·.1)).map fun q=>(q,f q):=by
 rw [List.map_map];rfl
theorem ins_dir {γ:Type}{w:β}(f:ByteArray->γ)(h:gets l k=some w):((ins l k v).map fun p=>(p.1,f p.1))=l.map fun p=>(p.1,f p.1):=by
 rw [map_names,map_names,ins_names h]
end
structure TpOk (n:Int)(y:Tp):Prop where
 en:0<=y.en/\y.en<=n
 len:(y.recs.length:Int)<=n
 srt:Sorted y.recs
 off:∀ r∈y.recs,0<=r.off/\r.off<y.en
 low:0<=y.low/\y.low<=y.en
theorem keepN_mem {l:List Rec}{upto:Int}{n:Nat}(hn:n<=l.length){r:Rec}(h:r∈keepN l upto n):r∈l:=by
 unfold keepN at h;obtain⟨i,hi,rfl⟩:=List.mem_map.1 h;have:=List.mem_range.1 (List.mem_filter.1 hi).1;rw [getD_lt (by omega)];exact List.getElem_mem _
theorem keepN_sorted {l:List Rec}{upto:Int}(h:Sorted l):∀ n,n<=l.length->Sorted (keepN l upto n)/\∀ r∈keepN l upto n,∀ j,∀ hj:j<l.length,n<=j->r.off<l[j].off
 | 0,_=>⟨List.Pairwise.nil,fun r hr=>by simp [keepN] at hr⟩
 | n+1,hn=>by
  obtain⟨h1,h2⟩:=keepN_sorted (upto:=upto) h n (by omega);rw [keepN_succ l upto (by omega)];have hlt:∀ j,∀ hj:j<l.length,n+1<=j->l[n].off<l[j].off:=fun j hj hnj=>List.pairwise_iff_getElem.1 h n j (by omega) hj (by omega)
  split
  ·refine⟨List.pairwise_append.2 ⟨h1,List.pairwise_singleton ..,fun a ha b hb=>?_⟩,fun r hr j hj hnj=>?_⟩
   ·rw [List.mem_singleton.1 hb];exact h2 a ha n (by omega) (Nat.le_refl _)
   ·rcases List.mem_append.1 hr with hr|hr
    ·exact h2 r hr j hj (by omega)
    ·rw [List.mem_singleton.1 hr];exact hlt j hj hnj
  ·rw [List.append_nil];exact⟨h1,fun r hr j hj hnj=>h2 r hr j hj (by omega)⟩
theorem tpok_mono {n m:Int}{y:Tp}(h:TpOk n y)(hm:n<=m):TpOk m y:=⟨⟨h.en.1,by have:=h.en.2;omega⟩,by have:=h.len;omega,h.srt,h.off,h.low⟩
theorem tpok_new {n:Int}(s:ByteArray)(h:0<=n):TpOk n ⟨s,0,0,[],[]⟩:=⟨⟨Int.le_refl _,h⟩,h,List.Pairwise.nil,(fun r h=>absurd h List.not_mem_nil),⟨Int.le_refl _,Int.le_refl _⟩⟩
theorem tpok_add {n:Int}{y:Tp}(h:TpOk n y)(p:ByteArray)(seq:Int)(k v:ByteArray)(l:Int×Int×ByteArray):TpOk (n+1) ⟨y.name,y.low,y.en+1,kput y.kvs p l,y.recs++[newR y p seq k v]⟩:=by
 have h1:=h.en;have h2:=h.low;have h3:=h.len;refine⟨⟨by show 0<=y.en+1;omega,by show y.en+1<=_;omega⟩,by show ((y.recs++[_]).length:Int)<=_;rw [List.length_append,List.length_singleton];omega,?_,fun r hr=>?_,⟨h2.1,by show y.low<=y.en+1;omega⟩⟩
 ·refine List.pairwise_append.2 ⟨h.srt,List.pairwise_singleton ..,fun a ha b hb=>?_⟩;rw [List.mem_singleton.1 hb];exact (h.off a ha).2
 ·show 0<=r.off/\r.off<y.en+1
  rcases List.mem_append.1 hr with hr|hr
  ·have:=h.off r hr;omega
  ·rw [List.mem_singleton.1 hr];show 0<=y.en/\y.en<_;omega
theorem tpok_pub {n:Int}{y:Tp}(h:TpOk n y)(p:ByteArray)(seq:Int)(k v:ByteArray):TpOk (n+1) (pub y p seq k v).1/\(pub y p seq k v).1.name=y.name:=by
 have hm:=tpok_mono h (m:=n+1) (by omega);unfold pub;split
 ·split
  ·split
   ·exact⟨hm,rfl⟩
   ·split
    ·exact⟨hm,rfl⟩
    ·exact⟨tpok_add h ..,rfl⟩
  ·exact⟨tpok_add h ..,rfl⟩
 ·exact⟨hm,rfl⟩
theorem tpok_trim {n:Int}{y:Tp}(h:TpOk n y)(k:Int):TpOk n (trimT y k).1/\(trimT y k).1.name=y.name:=by
 unfold trimT;split
 ·exact⟨h,rfl⟩
 ·split
  ·have h2:=h.low;have h3:=h.len;exact⟨⟨h.en,by show ((y.recs.drop _).length:Int)<=_;rw [List.length_drop];omega,sorted_sub h.srt (List.drop_sublist _ _),fun r hr=>h.off r (List.mem_of_mem_drop hr),⟨by show 0<=k;omega,by show k<=y.en;omega⟩⟩,rfl⟩
  ·exact⟨h,rfl⟩
theorem tpok_comp {n:Int}{y:Tp}(h:TpOk n y)(k:Int):TpOk n (compT y k)/\(compT y k).name=y.name :=
 ⟨⟨h.en,by have:=h.len;have:=keepN_len y.recs k y.recs.length;show ((keepN y.recs k y.recs.length).length:Int)<=_;omega,(keepN_sorted h.srt _ (Nat.le_refl _)).1,fun r hr=>h.off r (keepN_mem (Nat.le_refl _) hr),h.low⟩,rfl⟩
structure Rp where
 code:Int
 n:Int
 recs:List Rec
def rpO (r:Rp):AVal:=rpV r.code r.n r.recs false
def creM (x:Mc)(c:Cmd):Mc×Rp:=match gets x.tps c.topic with
 | some _=>(x,⟨4,0,[]⟩)
 | none=>if 20<=x.tps.length then (x,⟨3,0,[]⟩) else (⟨ins x.tps c.topic ⟨c.topic,0,0,[],[]⟩,x.sbs,x.want,x.cnt,x.dig⟩,⟨0,0,[]⟩)
def subM (x:Mc)(c:Cmd):Mc×Rp:=match gets x.tps c.topic with
 | none=>(x,⟨5,0,[]⟩)
 | some y=>match kget x.sbs c.name with
  | some _=>(x,⟨4,0,[]⟩)
  | none=>if 50<=x.sbs.length then (x,⟨3,0,[]⟩) else
   (⟨x.tps,(if (newS c.name y c.n).2=0 then kput x.sbs c.name (newS c.name y c.n).1 else x.sbs),x.want,x.cnt,x.dig⟩,⟨(newS c.name y c.n).2,(if (newS c.name y c.n).2=0 then (newS c.name y c.n).1.cur else 0),[]⟩)
def chgT (y:Tp)(c:Cmd):Tp×Int×Int :=
 if c.kind=2 then ((pub y c.name c.seq c.key c.val).1,(pub y c.name c.seq c.key c.val).2.2,(pub y c.name c.seq c.key c.val).2.1)
 else if c.kind=8 then ((trimT y c.n).1,(trimT y c.n).2,(trimT y c.n).1.low) else (compT y c.n,0,(compT y c.n).low)
def chgM (x:Mc)(c:Cmd):Mc×Rp:=match gets x.tps c.topic with
 | none=>(x,⟨5,0,[]⟩)
 | some y=>(⟨ins x.tps c.topic (chgT y c).1,x.sbs,x.want,x.cnt,x.dig⟩,⟨(chgT y c).2.1,(if (chgT y c).2.1=0 then (chgT y c).2.2 else 0),[]⟩)
def folS (s:Sb)(y:Tp)(c:Cmd):Sb×Int×Int×List Rec :=
 if c.kind=4 then (attS s,0,(attS s).cur,[]) else if c.kind=5 then ((pollS s y c.n).1,(pollS s y c.n).2.2,(pollS s y c.n).1.nxt,(pollS s y c.n).2.1)
 else if c.kind=6 then ((ackS s c.n).1,(ackS s c.n).2,(ackS s c.n).1.cur,[]) else ((seekS s y c.n).1,(seekS s y c.n).2,(seekS s y c.n).1.cur,[])
def folM (x:Mc)(c:Cmd):Mc×Rp:=match kget x.sbs c.name with
 | none=>(x,⟨5,0,[]⟩)
 | some s=>match gets x.tps s.topic with
  | none=>(x,⟨5,0,[]⟩)
  | some y=>(⟨x.tps,(if (folS s y c).2.1=0 then kput x.sbs c.name (folS s y c).1 else x.sbs),x.want,x.cnt,x.dig⟩,⟨(folS s y c).2.1,(if (folS s y c).2.1=0 then (folS s y c).2.2.1 else 0),(folS s y c).2.2.2⟩)
def wanW (x:Mc)(c:Cmd):W7:=x.want.set c.n.toNat (decide (c.kind=10))
def wanM (x:Mc)(c:Cmd):Mc×Rp:=if wanW x c = .zero then (x,⟨7,0,[]⟩) else (⟨x.tps,x.sbs,wanW x c,x.cnt,x.dig⟩,⟨0,((wanW x c).idx 7).length,[]⟩)
def doC (x:Mc)(c:Cmd):Mc×Rp :=
 if c.kind=1 then creM x c else if c.kind=3 then subM x c else if c.kind=2\/c.kind=8\/c.kind=9 then chgM x c
 else if c.kind=4\/c.kind=5\/c.kind=6\/c.kind=7 then folM x c else wanM x c
structure McOk (n:Int)(x:Mc):Prop where
 tp:∀ k y,gets x.tps k=some y->y.name=k/\TpOk n y
 sb:∀ k s,kget x.sbs k=some s->∃ y,gets x.tps s.topic=some y
 dig:C3.right x.dig=true
 cnt:0<=x.cnt/\x.cnt<=n
theorem att_topic (s:Sb):(attS s).topic=s.topic:=rfl
theorem ack_topic (s:Sb)(o:Int):(ackS s o).1.topic=s.topic:=by unfold ackS;split<;>rfl
theorem seek_topic (s:Sb)(y:Tp)(o:Int):(seekS s y o).1.topic=s.topic:=by unfold seekS;split<;>rfl
theorem poll_topic (s:Sb)(y:Tp)(o:Int):(pollS s y o).1.topic=s.topic:=by unfold pollS;split<;>rfl
theorem fol_topic (s:Sb)(y:Tp)(c:Cmd):(folS s y c).1.topic=s.topic:=by
 unfold folS;split
 ·exact att_topic s
 ·split
  ·exact poll_topic ..
  ·split
   ·exact ack_topic ..
   ·exact seek_topic ..
theorem new_topic {n:ByteArray}{y:Tp}{f:Int}(h:(newS n y f).2=0):(newS n y f).1.topic=y.name:=by
 unfold newS at h ⊢;by_cases hc:(word n && decide ((if f<0 then y.en else f)<=y.en))=true
 ·rw [if_pos hc]
 ·rw [if_neg hc] at h;exact absurd (show (7:Int)=0 from h) (by decide)
theorem chg_ok {n:Int}{y:Tp}(c:Cmd)(h:TpOk n y):TpOk (n+1) (chgT y c).1/\(chgT y c).1.name=y.name:=by
 unfold chgT;split
 ·exact tpok_pub h ..
 ·split
  ·exact⟨tpok_mono (tpok_trim h c.n).1 (by omega),(tpok_trim h c.n).2⟩
  ·exact⟨tpok_mono (tpok_comp h c.n).1 (by omega),(tpok_comp h c.n).2⟩
section
variable {n:Int}{x:Mc}{c:Cmd}
theorem McOk.mono {m:Int}(h:McOk n x)(hm:n<=m):McOk m x:=⟨fun k y e=>⟨(h.tp k y e).1,tpok_mono (h.tp k y e).2 hm⟩,h.sb,h.dig,⟨h.cnt.1,by have:=h.cnt.2;omega⟩⟩
theorem McOk.pos (h:McOk n x):0<=n:=by have:=h.cnt;omega
theorem McOk.tps (h:McOk n x){k:ByteArray}{y:Tp}(hy:y.name=k)(ho:TpOk (n+1) y):McOk (n+1) ⟨ins x.tps k y,x.sbs,x.want,x.cnt,x.dig⟩:=by
 refine⟨fun q z e=>?_,fun q s e=>?_,h.dig,⟨h.cnt.1,by have:=h.cnt.2;show x.cnt<=_;omega⟩⟩
 ·have e':gets (ins x.tps k y) q=some z:=e;rw [gets_ins] at e';split at e'
  ·rename_i hq;cases e';rw [hq];exact⟨hy,ho⟩
  ·exact⟨(h.tp q z e').1,tpok_mono (h.tp q z e').2 (by omega)⟩
 ·obtain⟨z,hz⟩:=h.sb q s e;show ∃ z,gets (ins x.tps k y) s.topic=some z
  rw [gets_ins];split
  ·exact⟨_,rfl⟩
  ·exact⟨z,hz⟩
theorem McOk.sbs (h:McOk n x){k:ByteArray}{s:Sb}{y:Tp}(hy:gets x.tps s.topic=some y):McOk n ⟨x.tps,kput x.sbs k s,x.want,x.cnt,x.dig⟩:=by
 refine⟨h.tp,fun q s' e=>?_,h.dig,h.cnt⟩;have e':kget (kput x.sbs k s) q=some s':=e;rw [kget_kput] at e';split at e'
 ·cases e';exact⟨y,hy⟩
 ·exact h.sb q s' e'
theorem doC_ok (h:McOk n x):McOk (n+1) (doC x c).1:=by
 have hm:=h.mono (m:=n+1) (by omega);have hp:=h.pos;unfold doC;split
 ·unfold creM;split
  ·exact hm
  ·split
   ·exact hm
   ·exact h.tps rfl (tpok_new _ (by omega))
 ·split
  ·unfold subM;split
   ·exact hm
   ·rename_i y hy;split
    ·exact hm
    ·split
     ·exact hm
     ·dsimp only;split
      ·rename_i hz;exact hm.sbs (y:=y) (by rw [new_topic hz,(h.tp _ y hy).1];exact hy)
      ·exact hm
  ·split
   ·unfold chgM;split
    ·exact hm
    ·rename_i y hy;exact h.tps ((chg_ok c (h.tp _ y hy).2).2.trans (h.tp _ y hy).1) (chg_ok c (h.tp _ y hy).2).1
   ·split
    ·unfold folM;split
     ·exact hm
     ·rename_i s hs;split
      ·exact hm
      ·rename_i y hy;dsimp only;split
       ·exact hm.sbs (y:=y) (by rw [fol_topic];exact hy)
       ·exact hm
    ·unfold wanM;split
     ·exact hm
     ·exact⟨hm.tp,hm.sb,hm.dig,hm.cnt⟩
end
end C17
