import Derived.Test.YthmhdhmfkegpiaaGreatDoorHz
import Derived.Test.YthmhdhmfkegpiaaGreatDoorNa6
open Go Go.Proofs Go.Am
set_option linter.unusedVariables false
set_option linter.unusedSimpArgs false
set_option autoImplicit false
namespace C17
structure McIs (M:Mem)(b mt ms:Nat)(ad:ByteArray->Nat×Nat)(x:Mc)(O:Nat->Prop):Prop where
 hb:M b=some (.cells (mcC mt ms x))
 hm:MapAt ptrV M mt (x.tps.map fun p=>(p.1,(ad p.1).1))
 hs:M ms=some (sbK x.sbs)
 tp:∀ k y,gets x.tps k=some y->M (ad k).1=some (.cells (tpC (ad k).2 y))/\M (ad k).2=some (tpK y)
 ob:O b/\O mt/\O ms
 oa:∀ k y,gets x.tps k=some y->O (ad k).1/\O (ad k).2
 ns:∀ k y,gets x.tps k=some y->(ad k).2≠ms
 inj:∀ k k' y y',gets x.tps k=some y->gets x.tps k'=some y'->k≠k'->(ad k).1≠(ad k').1/\(ad k).2≠(ad k').2
 ok:∀ c,O c->M c≠none
def McAt (M:Mem)(b:Nat)(x:Mc)(O:Nat->Prop):Prop:=∃ mt ms ad,McIs M b mt ms ad x O
structure Chg (M M':Mem)(O O':Nat->Prop):Prop where
 eq:∀ c,M c≠none->¬ O c->M' c=M c
 new:∀ c,O' c->O c\/M c=none
 up:∀ c,O c->O' c
def Aft (M M':Mem)(b:Nat)(x:Mc)(O:Nat->Prop):Prop:=∃ O',McAt M' b x O'/\Chg M M' O O'
theorem leK {M M':Mem}(h:M.le M'){c:Nat}(hc:M c≠none):M' c=M c:=by
 cases e:M c with
 | none=>exact absurd e hc
 | some o=>rw [h c o e]
theorem kbs {M:Mem}{a b:Nat}{l:List AVal}{e:List (Value×AVal)}(ha:M a=some (.cells l))(hb:M b=some (.map e)):a≠b:=fun h=>by rw [h,hb] at ha;cases ha
theorem kbm {M:Mem}{a b:Nat}{l:List AVal}{dir:List (ByteArray×Nat)}(ha:M a=some (.cells l))(hb:MapAt ptrV M b dir):a≠b:=fun h=>map_cells hb (by rw [← h];exact ha)
theorem kmm {M:Mem}{a b:Nat}{e:List (Value×AVal)}{dir:List (ByteArray×Nat)}(ha:M a=some (.map e))(hb:MapAt ptrV M b dir):a≠b:=fun h=>by
 obtain⟨clk,lf,hb⟩:=hb;have:=hb.hM;rw [← h,ha] at this;cases this
theorem ktb {M:Mem}{a b w mt ms:Nat}{x:Mc}{y:Tp}(ha:M a=some (.cells (mcC mt ms x)))(hb:M b=some (.cells (tpC w y))):a≠b:=fun h=>by rw [h,hb] at ha;cases ha
section
variable {M M' M2:Mem}{O O' O2:Nat->Prop}{b mt ms t w:Nat}{x:Mc}{ad:ByteArray->Nat×Nat}{k:ByteArray}{y y':Tp}
theorem McIs.fr (h:McIs M b mt ms ad x O)(hk:∀ c,O c->M' c=M c):McIs M' b mt ms ad x O where
 hb:=by rw [hk _ h.ob.1];exact h.hb
 hm:=h.hm.keep (hk _ h.ob.2.1)
 hs:=by rw [hk _ h.ob.2.2];exact h.hs
 tp:=fun k y e=>by
  rw [hk _ (h.oa k y e).1,hk _ (h.oa k y e).2];exact h.tp k y e
 ob:=h.ob
 oa:=h.oa
 ns:=h.ns
 inj:=h.inj
 ok:=fun c hc=>by rw [hk c hc];exact h.ok c hc
theorem McAt.fr (h:McAt M b x O)(hk:∀ c,O c->M' c=M c):McAt M' b x O:=by
 obtain⟨mt,ms,ad,h⟩:=h;exact⟨mt,ms,ad,h.fr hk⟩
theorem McAt.ok (h:McAt M b x O):∀ c,O c->M c≠none:=by
 obtain⟨mt,ms,ad,h⟩:=h;exact h.ok
theorem McAt.le (h:McAt M b x O)(hle:M.le M'):McAt M' b x O:=h.fr fun c hc=>leK hle (h.ok c hc)
theorem Chg.le (h:M.le M'):Chg M M' O O:=⟨fun c h1 _=>leK h h1,fun _ h=>.inl h,fun _ h=>h⟩
theorem Aft.same (h:McAt M b x O)(hle:M.le M'):Aft M M' b x O:=⟨O,h.le hle,Chg.le hle⟩
theorem Aft.post {x':Mc}(h:Aft M M2 b x' O)(hle:M2.le M'):Aft M M' b x' O:=by
 obtain⟨O',h1,h2⟩:=h;refine⟨O',h1.le hle,⟨fun c h3 h4=>?_,h2.new,h2.up⟩⟩;have e:=h2.eq c h3 h4;rw [leK hle (by rw [e];exact h3),e]
theorem McIs.distT (h:McIs M b mt ms ad x O)(e:gets x.tps k=some y):b≠(ad k).1/\mt≠(ad k).1/\ms≠(ad k).1/\b≠(ad k).2/\mt≠(ad k).2/\ms≠(ad k).2/\(ad k).1≠(ad k).2 :=
 ⟨ktb h.hb (h.tp k y e).1,fun e2=>kbm (h.tp k y e).1 h.hm e2.symm,(fun e2=>kbs (h.tp k y e).1 h.hs e2.symm),kbs h.hb (h.tp k y e).2,(fun e2=>kmm (h.tp k y e).2 h.hm e2.symm),(fun e2=>h.ns k y e e2.symm),kbs (h.tp k y e).1 (h.tp k y e).2⟩
theorem McIs.bs (h:McIs M b mt ms ad x O):b≠ms/\b≠mt/\ms≠mt:=⟨kbs h.hb h.hs,kbm h.hb h.hm,kmm h.hs h.hm⟩
theorem McIs.setT (h:McIs M b mt ms ad x O)(e:gets x.tps k=some y)(h1:M' (ad k).1=some (.cells (tpC (ad k).2 y')))(h2:M' (ad k).2=some (tpK y'))(hk:∀ d,d≠(ad k).1->d≠(ad k).2->M d≠none->M' d=M d) :
 McIs M' b mt ms ad ⟨ins x.tps k y',x.sbs,x.want,x.cnt,x.dig⟩ O/\Chg M M' O O:=by
 obtain⟨d1,d2,d3,d4,d5,d6,d7⟩:=h.distT e;have hO:=h.oa k y e;have gi:∀ q z,gets (ins x.tps k y') q=some z->(q=k/\z=y')\/(q≠k/\gets x.tps q=some z):=fun q z hq=>by
  rw [gets_ins] at hq;split at hq
  ·rename_i h3;cases hq;exact .inl ⟨h3,rfl⟩
  ·rename_i h3;exact .inr ⟨h3,hq⟩
 have ex:∀ q z,gets (ins x.tps k y') q=some z->∃ z',gets x.tps q=some z':=fun q z hq=>by
  rcases gi q z hq with ⟨rfl,-⟩|⟨-,h3⟩
  ·exact⟨y,e⟩
  ·exact⟨z,h3⟩
 refine⟨{ hb:=?_,hm:=?_,hs:=?_,tp:=fun q z hq=>?_,ob:=h.ob,oa:=fun q z hq=>?_,ns:=fun q z hq=>?_,inj:=fun q q' z z' hq hq' hne=>?_,ok:=fun c hc=>?_ },⟨fun c hc hno=>hk c (fun e2=>hno (by rw [e2];exact hO.1)) (fun e2=>hno (by rw [e2];exact hO.2)) hc,fun c hc=>.inl hc,fun c hc=>hc⟩⟩
 ·rw [hk b d1 d4 (h.ok b h.ob.1)];exact h.hb
 ·rw [ins_dir (fun q=>(ad q).1) e];exact h.hm.keep (hk mt d2 d5 (h.ok mt h.ob.2.1))
 ·rw [hk ms d3 d6 (h.ok ms h.ob.2.2)];exact h.hs
 ·rcases gi q z hq with ⟨rfl,rfl⟩|⟨h3,h4⟩
  ·exact⟨h1,h2⟩
  ·obtain⟨j1,j2⟩:=h.inj q k z y h4 e h3;obtain⟨t1,t2⟩:=h.tp q z h4;obtain⟨s1,s2⟩:=h.tp k y e;rw [hk (ad q).1 j1 (kbs t1 s2) (by rw [t1];exact fun h=>by cases h),hk (ad q).2 (fun e2=>kbs s1 t2 e2.symm) j2 (by rw [t2];exact fun h=>by cases h)];exact⟨t1,t2⟩
 ·obtain⟨z',h3⟩:=ex q z hq;exact h.oa q z' h3
 ·obtain⟨z',h3⟩:=ex q z hq;exact h.ns q z' h3
 ·obtain⟨z1,h3⟩:=ex q z hq;obtain⟨z2,h4⟩:=ex q' z' hq';exact h.inj q q' z1 z2 h3 h4 hne
 ·by_cases e1:c=(ad k).1
  ·rw [e1,h1];exact fun h=>by cases h
  ·by_cases e2:c=(ad k).2
   ·rw [e2,h2];exact fun h=>by cases h
   ·rw [hk c e1 e2 (h.ok c hc)];exact h.ok c hc
theorem McIs.setS (h:McIs M b mt ms ad x O){l:List (ByteArray×Sb)}(h1:M' ms=some (sbK l))(hk:∀ d,d≠ms->M d≠none->M' d=M d):McIs M' b mt ms ad ⟨x.tps,l,x.want,x.cnt,x.dig⟩ O/\Chg M M' O O:=by
 obtain⟨e1,e2,e3⟩:=h.bs;refine⟨{ hb:=?_,hm:=h.hm.keep (hk mt (fun e=>e3 e.symm) (h.ok mt h.ob.2.1)),hs:=h1,tp:=fun q z hq=>?_,ob:=h.ob,oa:=h.oa,ns:=h.ns,inj:=h.inj,ok:=fun c hc=>?_ },⟨fun c hc hno=>hk c (fun e2=>hno (by rw [e2];exact h.ob.2.2)) hc,fun c hc=>.inl hc,fun c hc=>hc⟩⟩
 ·rw [hk b e1 (h.ok b h.ob.1)];exact h.hb
 ·obtain⟨d1,d2,d3,d4,d5,d6,d7⟩:=h.distT hq;obtain⟨o1,o2⟩:=h.oa q z hq;rw [hk _ (Ne.symm d3) (h.ok _ o1),hk _ (Ne.symm d6) (h.ok _ o2)];exact h.tp q z hq
 ·by_cases e1:c=ms
  ·rw [e1,h1];exact fun h=>by cases h
  ·rw [hk c e1 (h.ok c hc)];exact h.ok c hc
theorem McIs.setB (h:McIs M b mt ms ad x O){W:W7}{n:Int}{g:C3.Pr}(h1:M' b=some (.cells (mcC mt ms ⟨x.tps,x.sbs,W,n,g⟩)))(hk:∀ d,d≠b->M d≠none->M' d=M d):McIs M' b mt ms ad ⟨x.tps,x.sbs,W,n,g⟩ O/\Chg M M' O O:=by
 obtain⟨e1,e2,e3⟩:=h.bs;refine⟨{ hb:=h1,hm:=h.hm.keep (hk mt (Ne.symm e2) (h.ok mt h.ob.2.1)),hs:=?_,tp:=fun q z hq=>?_,ob:=h.ob,oa:=h.oa,ns:=h.ns,inj:=h.inj,ok:=fun c hc=>?_ },⟨fun c hc hno=>hk c (fun e2=>hno (by rw [e2];exact h.ob.1)) hc,fun c hc=>.inl hc,fun c hc=>hc⟩⟩
 ·rw [hk ms (Ne.symm e1) (h.ok ms h.ob.2.2)];exact h.hs
 ·obtain⟨d1,d2,d3,d4,d5,d6,d7⟩:=h.distT hq;obtain⟨o1,o2⟩:=h.oa q z hq;rw [hk _ (Ne.symm d1) (h.ok _ o1),hk _ (Ne.symm d4) (h.ok _ o2)];exact h.tp q z hq
 ·by_cases e1:c=b
  ·rw [e1,h1];exact fun h=>by cases h
  ·rw [hk c e1 (h.ok c hc)];exact h.ok c hc
theorem McIs.addT (h:McIs M b mt ms ad x O)(e:gets x.tps k=none)(m1:M t=none)(m2:M w=none)(htw:t≠w)(h1:M' t=some (.cells (tpC w y)))(h2:M' w=some (tpK y))(hm:MapAt ptrV M' mt (ins (x.tps.map fun p=>(p.1,(ad p.1).1)) k t))(hk:∀ d,d≠mt->M d≠none->M' d=M d) :
 ∃ ad' O',McIs M' b mt ms ad' ⟨ins x.tps k y,x.sbs,x.want,x.cnt,x.dig⟩ O'/\Chg M M' O O':=by
 obtain⟨e1,e2,e3⟩:=h.bs;have gi:∀ q z,gets (ins x.tps k y) q=some z->(q=k/\z=y)\/(q≠k/\gets x.tps q=some z):=fun q z hq=>by
  rw [gets_ins] at hq;split at hq
  ·rename_i h3;cases hq;exact .inl ⟨h3,rfl⟩
  ·rename_i h3;exact .inr ⟨h3,hq⟩
 have a1:(if k=k then (t,w) else ad k)=(t,w):=if_pos rfl;have a2:∀ q,q≠k->(if q=k then (t,w) else ad q)=ad q:=fun q hq=>if_neg hq
 have fr:∀ c,O c->c≠t/\c≠w:=fun c hc=>⟨fun e=>h.ok c hc (by rw [e];exact m1),fun e=>h.ok c hc (by rw [e];exact m2)⟩
 refine⟨fun q=>if q=k then (t,w) else ad q,fun c=>O c\/c=t\/c=w,{ hb:=?_,hm:=?_,hs:=?_,tp:=fun q z hq=>?_,ob:=⟨.inl h.ob.1,.inl h.ob.2.1,.inl h.ob.2.2⟩,oa:=fun q z hq=>?_,ns:=fun q z hq=>?_,inj:=fun q q' z z' hq hq' hne=>?_,ok:=fun c hc=>?_ },⟨fun c hc hno=>hk c (fun e2=>hno (by rw [e2];exact h.ob.2.1)) hc,fun c hc=>?_,fun c hc=>.inl hc⟩⟩
 ·rw [hk b e2 (h.ok b h.ob.1)];exact h.hb
 ·have hd:((ins x.tps k y).map fun p=>(p.1,(if p.1=k then (t,w) else ad p.1).1))=ins (x.tps.map fun p=>(p.1,(ad p.1).1)) k t:=by
   rw [ins_new e,ins_new (by rw [gets_map (fun q=>(ad q).1),e];rfl),List.map_append,List.map_cons,List.map_nil,if_pos rfl];refine congrArg (· ++ [(k,t)]) (List.map_congr_left fun p hp=>?_);rw [if_neg (idx_no (idx_of_none e) p hp)]
  show MapAt ptrV M' mt _
  rw [hd];exact hm
 ·rw [hk ms e3 (h.ok ms h.ob.2.2)];exact h.hs
 ·rcases gi q z hq with ⟨rfl,rfl⟩|⟨h3,h4⟩
  ·rw [if_pos rfl];exact⟨h1,h2⟩
  ·rw [if_neg h3];obtain⟨d1,d2,d3,d4,d5,d6,d7⟩:=h.distT h4;obtain⟨o1,o2⟩:=h.oa q z h4;rw [hk _ (Ne.symm d2) (h.ok _ o1),hk _ (Ne.symm d5) (h.ok _ o2)];exact h.tp q z h4
 ·rcases gi q z hq with ⟨rfl,rfl⟩|⟨h3,h4⟩
  ·rw [if_pos rfl];exact⟨.inr (.inl rfl),.inr (.inr rfl)⟩
  ·rw [if_neg h3];exact⟨.inl (h.oa q z h4).1,.inl (h.oa q z h4).2⟩
 ·rcases gi q z hq with ⟨rfl,rfl⟩|⟨h3,h4⟩
  ·rw [if_pos rfl];exact fun e=>(fr ms h.ob.2.2).2 e.symm
  ·rw [if_neg h3];exact h.ns q z h4
 ·rcases gi q z hq with ⟨rfl,rfl⟩|⟨h3,h4⟩
  ·rcases gi q' z' hq' with ⟨rfl,rfl⟩|⟨h5,h6⟩
   ·exact absurd rfl hne
   ·rw [if_pos rfl,if_neg h5];obtain⟨o1,o2⟩:=h.oa q' z' h6;exact⟨fun e=>(fr _ o1).1 e.symm,fun e=>(fr _ o2).2 e.symm⟩
  ·rcases gi q' z' hq' with ⟨rfl,rfl⟩|⟨h5,h6⟩
   ·rw [if_pos rfl,if_neg h3];obtain⟨o1,o2⟩:=h.oa q z h4;exact⟨(fr _ o1).1,(fr _ o2).2⟩
   ·rw [if_neg h3,if_neg h5];exact h.inj q q' z z' h4 h6 hne
 ·rcases hc with hc|rfl|rfl
  ·by_cases e1:c=mt
   ·rw [e1];exact hm.some
   ·rw [hk c e1 (h.ok c hc)];exact h.ok c hc
  ·rw [h1];exact fun h=>by cases h
  ·rw [h2];exact fun h=>by cases h
 ·rcases hc with hc|rfl|rfl
  ·exact .inl hc
  ·exact .inr m1
  ·exact .inr m2
end
section
variable {M:Mem}{O:Nat->Prop}{b:Nat}{x:Mc}{c:Cmd}{n:Int}
abbrev DPost (M:Mem)(b:Nat)(x:Mc)(O:Nat->Prop)(p:Mc×Rp):AVal->Mem->Prop:=fun r M'=>r=rpO p.2/\Aft M M' b p.1 O
theorem gdir (ad:ByteArray->Nat×Nat)(x:Mc)(k:ByteArray):gets (x.tps.map fun p=>(p.1,(ad p.1).1)) k=(gets x.tps k).map fun _=>(ad k).1:=gets_map (fun q=>(ad q).1)
theorem right_word {c:Cmd}(h:rightC c=true)(hn:nTopic c.kind=true):word c.topic=true:=by
 unfold rightC namesC at h;rw [hn] at h;simp only [Bool.and_eq_true,if_true] at h;exact h.1.1.2.1
theorem right_want {c:Cmd}(h:rightC c=true)(hk:c.kind=10\/c.kind=11):0<=c.n/\c.n<7:=by
 unfold rightC at h;simp only [Bool.and_eq_true] at h;have h2:=h.2;unfold numC at h2;have h5:¬ c.kind=5:=by omega
 have hn:nNum c.kind=true:=by rcases hk with e|e<;>rw [e]<;>rfl
 rw [if_pos hn,if_neg h5,if_pos hk] at h2;simpa using h2
theorem cre_at (h:McAt M b x O)(hk:c.kind=1)(hr:rightC c=true):SoundCall Tryz.prog 242 [ptr b,encC c] M (DPost M b x O (creM x c)):=by
 have hA:=h;obtain⟨mt,ms,ad,h⟩:=h;unfold creM;cases hg:gets x.tps c.topic with
 | some y =>
  exact (snd242a b mt ms x _ c M h.hb h.hm h.hs h.bs.1 (ad c.topic).1 (by rw [gdir,hg];rfl)).mono fun r M' ⟨h1,h2⟩=>⟨h1,.same hA h2⟩
 | none =>
  have hg':gets (x.tps.map fun p=>(p.1,(ad p.1).1)) c.topic=none:=by rw [gdir,hg];rfl
  dsimp only;by_cases hl:20<=x.tps.length
  ·rw [if_pos hl];exact (snd242b b mt ms x _ c M h.hb h.hm h.hs h.bs.1 hg' (by rw [List.length_map];exact hl)).mono fun r M' ⟨h1,h2⟩=>⟨h1,.same hA h2⟩
  ·rw [if_neg hl];refine (snd242c b mt ms x _ c M h.hb h.hm h.hs h.bs.1 hg' (by rw [List.length_map];omega) (right_word hr (by rw [hk];rfl))).mono fun r M' ⟨h1,t,w,m1,m2,htw,h2,h3,h4,h5⟩=>⟨h1,?_⟩
   obtain⟨ad',O',h6,h7⟩:=h.addT hg m1 m2 htw h2 h3 h4 h5;exact⟨O',⟨mt,ms,ad',h6⟩,h7⟩
theorem sub_at (h:McAt M b x O)(hk:c.kind=3):SoundCall Tryz.prog 243 [ptr b,encC c] M (DPost M b x O (subM x c)):=by
 have hA:=h;obtain⟨mt,ms,ad,h⟩:=h;unfold subM;cases hg:gets x.tps c.topic with
 | none =>
  exact (snd243a b mt ms x _ c M h.hb h.hm h.hs h.bs.1 (by rw [gdir,hg];rfl)).mono fun r M' ⟨h1,h2⟩=>⟨h1,.same hA h2⟩
 | some y =>
  have hg':gets (x.tps.map fun p=>(p.1,(ad p.1).1)) c.topic=some (ad c.topic).1:=by rw [gdir,hg];rfl
  obtain⟨t1,t2⟩:=h.tp _ y hg;dsimp only;cases hn:kget x.sbs c.name with
  | some s=>exact (snd243b b mt ms x _ c M h.hb h.hm h.hs h.bs.1 _ _ y hg' t1 t2 (kbs t1 t2) s hn).mono fun r M' ⟨h1,h2⟩=>⟨h1,.same hA h2⟩
  | none =>
   dsimp only;by_cases hl:50<=x.sbs.length
   ·rw [if_pos hl];exact (snd243c b mt ms x _ c M h.hb h.hm h.hs h.bs.1 _ _ y hg' t1 t2 (kbs t1 t2) hn hl).mono fun r M' ⟨h1,h2⟩=>⟨h1,.same hA h2⟩
   ·rw [if_neg hl];refine (snd243d b mt ms x _ c M h.hb h.hm h.hs h.bs.1 _ _ y hg' t1 t2 (kbs t1 t2) hn (by omega)).mono fun r M' ⟨h1,h2,h3⟩=>⟨h1,?_⟩
    obtain⟨h4,h5⟩:=h.setS h2 h3;exact⟨O,⟨mt,ms,ad,h4⟩,h5⟩
theorem chg_at (h:McAt M b x O)(ho:McOk n x)(hn:n<2^40)(hk:c.kind=2\/c.kind=8\/c.kind=9):SoundCall Tryz.prog 244 [ptr b,encC c] M (DPost M b x O (chgM x c)):=by
 have hA:=h;obtain⟨mt,ms,ad,h⟩:=h;unfold chgM;cases hg:gets x.tps c.topic with
 | none =>
  exact (snd244a b mt ms x _ c M h.hb h.hm h.hs h.bs.1 (by rw [gdir,hg];rfl)).mono fun r M' ⟨h1,h2⟩=>⟨h1,.same hA h2⟩
 | some y =>
  have hg':gets (x.tps.map fun p=>(p.1,(ad p.1).1)) c.topic=some (ad c.topic).1:=by rw [gdir,hg];rfl
  obtain⟨t1,t2⟩:=h.tp _ y hg;have hy:=(ho.tp _ y hg).2;have b1:=hy.en;have b2:=hy.len;dsimp only;rcases hk with hk|hk|hk
  ·have e:chgT y c=((pub y c.name c.seq c.key c.val).1,(pub y c.name c.seq c.key c.val).2.2,(pub y c.name c.seq c.key c.val).2.1):=by unfold chgT;rw [if_pos hk]
   rw [e];refine (snd244p b mt ms x _ c M h.hb h.hm h.hs h.bs.1 _ _ y hg' t1 t2 (kbs t1 t2) ⟨by omega,by omega⟩ (by omega) hy.srt hk).mono fun r M' ⟨h1,h2,h3,h4⟩=>⟨h1,?_⟩
   obtain⟨h5,h6⟩:=h.setT hg h2 h3 h4;exact⟨O,⟨mt,ms,ad,h5⟩,h6⟩
  ·have e:chgT y c=((trimT y c.n).1,(trimT y c.n).2,(trimT y c.n).1.low):=by unfold chgT;rw [if_neg (by omega),if_pos hk]
   rw [e];refine (snd244t b mt ms x _ c M h.hb h.hm h.hs h.bs.1 _ _ y hg' t1 t2 (kbs t1 t2) ⟨by omega,by omega⟩ (by omega) hy.srt hk).mono fun r M' ⟨h1,h2,h3,h4⟩=>⟨h1,?_⟩
   obtain⟨h5,h6⟩:=h.setT hg h2 h3 h4;exact⟨O,⟨mt,ms,ad,h5⟩,h6⟩
  ·have e:chgT y c=(compT y c.n,0,(compT y c.n).low):=by unfold chgT;rw [if_neg (by omega),if_neg (by omega)]
   rw [e];refine (snd244c b mt ms x _ c M h.hb h.hm h.hs h.bs.1 _ _ y hg' t1 t2 (kbs t1 t2) ⟨by omega,by omega⟩ (by omega) hy.srt hk).mono fun r M' ⟨h1,h2,h3,h4⟩=>⟨h1,?_⟩
   obtain⟨h5,h6⟩:=h.setT hg h2 h3 h4;exact⟨O,⟨mt,ms,ad,h5⟩,h6⟩
theorem fol_at (h:McAt M b x O)(ho:McOk n x)(hn:n<2^40)(hk:c.kind=4\/c.kind=5\/c.kind=6\/c.kind=7):SoundCall Tryz.prog 245 [ptr b,encC c] M (DPost M b x O (folM x c)):=by
 have hA:=h;obtain⟨mt,ms,ad,h⟩:=h;unfold folM;cases hs:kget x.sbs c.name with
 | none =>
  exact (snd245a b mt ms x _ c M h.hb h.hm h.hs h.bs.1 hs).mono fun r M' ⟨h1,h2⟩=>⟨h1,.same hA h2⟩
 | some s =>
  obtain⟨y,hg⟩:=ho.sb _ s hs;have hg':gets (x.tps.map fun p=>(p.1,(ad p.1).1)) s.topic=some (ad s.topic).1:=by rw [gdir,hg];rfl
  obtain⟨t1,t2⟩:=h.tp _ y hg;have hy:=(ho.tp _ y hg).2;have b1:=hy.en;have b2:=hy.len;have b3:=hy.low;dsimp only;rw [hg];dsimp only;have fin:∀ (p:Sb×Int×Int×List Rec),folS s y c=p->SoundCall Tryz.prog 245 [ptr b,encC c] M (fun r M'=>r=rpV p.2.1 (if p.2.1=0 then p.2.2.1 else 0) p.2.2.2 false/\M' ms=some (sbK (if p.2.1=0 then kput x.sbs c.name p.1 else x.sbs))/\∀ d,d≠ms->M d≠none->M' d=M d)->SoundCall Tryz.prog 245 [ptr b,encC c] M (DPost M b x O (⟨x.tps,(if (folS s y c).2.1=0 then kput x.sbs c.name (folS s y c).1 else x.sbs),x.want,x.cnt,x.dig⟩,⟨(folS s y c).2.1,(if (folS s y c).2.1=0 then (folS s y c).2.2.1 else 0),(folS s y c).2.2.2⟩)):=fun p e hp=>by
   rw [e];refine hp.mono fun r M' ⟨h1,h2,h3⟩=>⟨h1,?_⟩
   obtain⟨h4,h5⟩:=h.setS h2 h3;exact⟨O,⟨mt,ms,ad,h4⟩,h5⟩
  rcases hk with hk|hk|hk|hk
  ·exact fin (attS s,0,(attS s).cur,[]) (by unfold folS;rw [if_pos hk]) (snd245t b mt ms x _ c M h.hb h.hm h.hs h.bs.1 s hs _ _ y hg' t1 t2 (kbs t1 t2) hk)
  ·exact fin _ (by unfold folS;rw [if_neg (by omega),if_pos hk]) (snd245p b mt ms x _ c M h.hb h.hm h.hs h.bs.1 s hs _ _ y hg' t1 t2 (kbs t1 t2) hy.srt (by omega) (fun r hr=>by have:=hy.off r hr;omega) (by omega) hk)
  ·exact fin ((ackS s c.n).1,(ackS s c.n).2,(ackS s c.n).1.cur,[]) (by unfold folS;rw [if_neg (by omega),if_neg (by omega),if_pos hk]) (snd245k b mt ms x _ c M h.hb h.hm h.hs h.bs.1 s hs _ _ y hg' t1 t2 (kbs t1 t2) hk)
  ·exact fin ((seekS s y c.n).1,(seekS s y c.n).2,(seekS s y c.n).1.cur,[]) (by unfold folS;rw [if_neg (by omega),if_neg (by omega),if_neg (by omega)]) (snd245s b mt ms x _ c M h.hb h.hm h.hs h.bs.1 s hs _ _ y hg' t1 t2 (kbs t1 t2) hk)
theorem wan_at (h:McAt M b x O)(hn:0<=c.n/\c.n<7):SoundCall Tryz.prog 246 [ptr b,encC c] M (DPost M b x O (wanM x c)):=by
 have hA:=h;obtain⟨mt,ms,ad,h⟩:=h;refine (snd246 b mt ms x c M h.hb hn).mono fun r M' ⟨h1,h2⟩=>?_
 unfold wanM wanW;by_cases hz:x.want.set c.n.toNat (decide (c.kind=10)) = .zero
 ·rw [if_pos hz] at h2 ⊢;rw [if_pos hz,if_pos hz] at h1;exact⟨h1,.same hA h2⟩
 ·rw [if_neg hz] at h2 ⊢;rw [if_neg hz,if_neg hz] at h1;obtain⟨h3,h4⟩:=h.setB (M':=M.upd b (.cells (mcC mt ms ⟨x.tps,x.sbs,x.want.set c.n.toNat (decide (c.kind=10)),x.cnt,x.dig⟩))) (Mem.upd_self _ _ _) (fun d hd _=>upd_other hd);exact⟨h1,Aft.post ⟨O,⟨mt,ms,ad,h3⟩,h4⟩ h2⟩
theorem does_at (h:McAt M b x O)(ho:McOk n x)(hn:n<2^40)(hr:rightC c=true):SoundCall Tryz.prog (fnK c.kind) [ptr b,encC c] M (DPost M b x O (doC x c)):=by
 have hk:=(rightC_le hr).1;unfold doC fnK;by_cases h1:c.kind=1
 ·rw [if_pos h1,if_pos h1];exact cre_at h h1 hr
 ·rw [if_neg h1,if_neg h1];by_cases h3:c.kind=3
  ·rw [if_pos h3,if_pos h3];exact sub_at h h3
  ·rw [if_neg h3,if_neg h3];by_cases h2:c.kind=2\/c.kind=8\/c.kind=9
   ·rw [if_pos h2,if_pos h2];exact chg_at h ho hn h2
   ·rw [if_neg h2,if_neg h2];by_cases h4:c.kind=4\/c.kind=5\/c.kind=6\/c.kind=7
    ·rw [if_pos h4,if_pos h4];exact fol_at h ho hn h4
    ·rw [if_neg h4,if_neg h4];exact wan_at h (right_want hr (by omega))
end
end C17
