import Derived.Test.YthmhdhmfkegpiaaGreatDoorAmB
import Derived.ScopeJumps
import Derived.Laws.Strings
import Derived.Deep.Slices
import Derived.Below
namespace Go.Am
set_option linter.unusedSimpArgs false
inductive PStep where
 | q (i:Nat)
 | c (i:Nat)
 | s (i:Nat) (ks:List Nat)
 | a (un:List Nat)
def readsOf (T:Nat->AVal):Op->List Nat
 | .load _ x=>(match ev T x with | .raw (.pointer (some ⟨b,_,none⟩))=>[b] | _=>[])
 | .convert _ _ x=>(match ev T x with | .raw (.slice (some ⟨b,_,none⟩) _ _)=>[b] | _=>[])
 | .lookup _ m _ _=>(match ev T m with | .raw (.map (some r))=>[r] | _=>[])
 | .call { callee:=.builtin .len,args,.. }=>(match args.toList.map (ev T) with | [.raw (.map (some r))]=>[r] | _=>[])
 | _=>[]
def qBuild (P:Program)(T:Nat->AVal)(t:TypeId)(len:Nat)(parts:List (Nat×Operand)):Option AVal :=
 match P.underlying t with
 | some (.slice e) =>
  (match sizeT P e,zeroT P e,aParts T 0 parts with
  | some sz,some z,some l=>if z.cells.size=sz/\l.length=len/\len*sz<=2^24/\(l.all fun V=>V.ok && V.cells.length == sz)=true then some (.sl l true) else none
  | _,_,_=>none)
 | _=>none
def qstep (P:Program)(tk:Option Nat)(o:Oper)(T:Nat->AVal)(M:Mem):Option (QEff×List Nat) :=
 match o.op with
 | .move x | .assign x=>if tk.isSome then some (⟨tmpOf x,ev T x⟩,[]) else some (⟨none,(ev T x).shut⟩,[])
 | .buildSlice t len parts=>(qBuild P T t len parts.toList).map fun V=>(⟨none,V⟩,[])
 | .call { callee:=.builtin .append,args,argTypes } =>
  (match args.toList with
  | [x,y]=>if o.dst.isSome then (aAppend P argTypes (ev T x) (ev T y)).map fun l=>(⟨tmpOf x,.sl l true⟩,[]) else none
  | _=>none)
 | .extract x i=>if tk.isSome then none else (aop P T M o.type (.extract x i)).map fun V=>(⟨none,V.shut⟩,readsOf T (.extract x i))
 | .load t x=>if tk.isSome then none else (aop P T M o.type (.load t x)).map fun V=>(⟨none,V.shut⟩,readsOf T (.load t x))
 | op=>(aop P T M o.type op).map fun V=>(⟨none,V.shut⟩,readsOf T op)
section
variable {P:Program}{o:Oper}{T T':Nat->AVal}{M M':Mem}
theorem aop_congrM {ty:TypeId}{op:Op}(h:∀ b∈readsOf T op,M b=M' b):aop P T M ty op=aop P T M' ty op:=by
 cases op<;>try rfl
 case load t x =>
  simp only [aop,readsOf] at h ⊢;split at h
  ·rename_i b o he;simp only [he,h b (by simp)]
  ·rename_i hne;split
   ·rename_i b o he;exact absurd he (hne b o)
   ·rfl
   ·rfl
 case convert s d x =>
  simp only [aop,aConvert,readsOf] at h ⊢;split at h
  ·rename_i b o n c he;simp only [he,h b (by simp)]
  ·rename_i hne;split
   ·rfl
   ·rename_i b o n c he;exact absurd he (hne b o n c)
   ·rfl
   ·rfl
 case lookup t m k ok =>
  have key:∀ r,ev T m = .raw (.map r)->entsM M r=entsM M' r:=fun r he=>by
   cases r with
   | none=>rfl
   | some r=>simp only [entsM,h r (by simp [readsOf,he])]
  simp only [aop,aLookup];split
  ·split
   ·rename_i r kv he hk;rw [key r he]
   ·rfl
  ·rfl
 case call c =>
  obtain⟨callee,args,argTypes⟩:=c;cases callee<;>try rfl
  rename_i b;cases b<;>try rfl
  simp only [aop,readsOf,aBuiltin] at h ⊢;split at h
  ·rename_i r he;simp only [he,h r (by simp)]
  ·rename_i hne;split
   ·rfl
   ·rename_i r he;exact absurd he (hne r)
   ·rfl
   ·rfl
theorem readsOf_congr {op:Op}(h:∀ x∈op.operands.toList,ev T x=ev T' x):readsOf T op=readsOf T' op:=by
 cases op<;>try rfl
 case load t x=>simp only [readsOf];rw [h x (by simp [Op.operands])]
 case convert s d x=>simp only [readsOf];rw [h x (by simp [Op.operands])]
 case lookup t m k ok=>simp only [readsOf];rw [h m (by simp [Op.operands])]
 case call c =>
  obtain⟨callee,args,argTypes⟩:=c;cases callee<;>try rfl
  rename_i b;cases b<;>try rfl
  simp only [readsOf];rw [map_ev_congr (xs:=args.toList) fun x hx=>h x (by simp [Op.operands,Call.operands];simpa using hx)]
theorem qstep_congr {tk:Option Nat}{q:QEff}{B:List Nat}(h:qstep P tk o T M=some (q,B))(hT:∀ x∈o.op.operands.toList,ev T x=ev T' x)(hM:∀ b∈B,M b=M' b):qstep P tk o T' M'=some (q,B):=by
 unfold qstep at h ⊢;have dflt:∀ op,o.op=op->((aop P T M o.type op).map fun V=>((⟨none,V.shut⟩ : QEff),readsOf T op))=some (q,B)->((aop P T' M' o.type op).map fun V=>((⟨none,V.shut⟩ : QEff),readsOf T' op))=some (q,B):=fun op hop h=>by
  subst hop;rw [← readsOf_congr hT,← aop_congr hT];rw [aop_congrM (M':=M') (fun b hb=>hM b (by
   simp only [Option.map_eq_some_iff,Prod.mk.injEq] at h;obtain⟨V,-,-,e⟩:=h;rw [← e];exact hb))] at h
  exact h
 cases hop:o.op<;>rw [hop] at h<;>try exact dflt _ hop h
 all_goals (have hT':=hT;rw [hop] at hT';simp only [Op.operands] at hT')
 case move x=>dsimp only at h ⊢;rw [← hT' x (by simp)];exact h
 case assign x=>dsimp only at h ⊢;rw [← hT' x (by simp)];exact h
 case buildSlice t len parts =>
  dsimp only [qBuild] at h ⊢;rw [← aParts_congr (T:=T) (T':=T') parts.toList 0 fun p hp=>hT' p.2 (by simp only [List.mem_map];exact⟨p,hp,rfl⟩)];exact h
 case extract x i =>
  dsimp only at h ⊢;split at h
  ·cases h
  ·rename_i ht;rw [if_neg ht];exact dflt (.extract x i) hop h
 case load t x =>
  dsimp only at h ⊢;split at h
  ·cases h
  ·rename_i ht;rw [if_neg ht];exact dflt (.load t x) hop h
 case call c =>
  obtain⟨callee,args,argTypes⟩:=c;cases callee with
  | value F=>exact dflt (.call ⟨.value F,args,argTypes⟩) hop h
  | invoke r m=>exact dflt (.call ⟨.invoke r m,args,argTypes⟩) hop h
  | builtin b =>
   by_cases hb:b = .append
   ·subst hb;dsimp only at h ⊢;split at h
    ·rename_i x y hargs;rw [← hT' x (by simp [Call.operands,hargs]),← hT' y (by simp [Call.operands,hargs])];exact h
    ·cases h
   ·have e:∀ T M,(match (Op.call ⟨.builtin b,args,argTypes⟩) with
     | .move x | .assign x=>if tk.isSome then some ((⟨tmpOf x,ev T x⟩ : QEff),([]:List Nat)) else some (⟨none,(ev T x).shut⟩,[])
     | .buildSlice t len parts=>(qBuild P T t len parts.toList).map fun V=>(⟨none,V⟩,[])
     | .call { callee:=.builtin .append,args,argTypes } =>
      (match args.toList with
      | [x,y]=>if o.dst.isSome then (aAppend P argTypes (ev T x) (ev T y)).map fun l=>(⟨tmpOf x,.sl l true⟩,[]) else none
      | _=>none)
     | .extract x i=>if tk.isSome then none else (aop P T M o.type (.extract x i)).map fun V=>(⟨none,V.shut⟩,readsOf T (.extract x i))
     | .load t x=>if tk.isSome then none else (aop P T M o.type (.load t x)).map fun V=>(⟨none,V.shut⟩,readsOf T (.load t x))
     | op=>(aop P T M o.type op).map fun V=>(⟨none,V.shut⟩,readsOf T op))=(aop P T M o.type (.call ⟨.builtin b,args,argTypes⟩)).map fun V=>(⟨none,V.shut⟩,readsOf T (.call ⟨.builtin b,args,argTypes⟩)):=fun T M=>by
     cases b<;>first|(exact absurd rfl hb)|rfl
    have h':=(e T M).symm.trans h;exact (e T' M').trans (dflt _ hop h')
theorem qstep_run {tk:Option Nat}{q:QEff}{B:List Nat}(h:qstep P tk o T M=some (q,B)):(q.lz=none\/q.lz=lzOf tk o)/\∀ N:Eff->Prop,N ⟨q.lz,M,q.V⟩->estep P tk o T M N:=by
 unfold qstep at h;unfold estep lzOf;have dflt:∀ op,o.op=op->((aop P T M o.type op).map fun V=>((⟨none,V.shut⟩ : QEff),readsOf T op))=some (q,B)->q.lz=none/\∀ N:Eff->Prop,N ⟨q.lz,M,q.V⟩->(match aop P T M o.type op with|some V=>N ⟨none,M,V.shut⟩|none=>False):=fun op hop h=>by
  simp only [Option.map_eq_some_iff,Prod.mk.injEq] at h;obtain⟨V,h1,h2,-⟩:=h;subst h2;exact⟨rfl,fun N hN=>by rw [h1];exact hN⟩
 cases hop:o.op<;>rw [hop] at h<;>try exact⟨.inl (dflt _ hop h).1,(dflt _ hop h).2⟩
 case move x =>
  dsimp only at h ⊢;split at h
  ·rename_i ht;simp only [Option.some.injEq,Prod.mk.injEq] at h;rw [← h.1];exact⟨.inr (by rw [if_pos ht]),fun N hN=>by rw [if_pos ht];exact hN⟩
  ·rename_i ht;simp only [Option.some.injEq,Prod.mk.injEq] at h;rw [← h.1];exact⟨.inl rfl,fun N hN=>by rw [if_neg ht];exact hN⟩
 case assign x =>
  dsimp only at h ⊢;split at h
  ·rename_i ht;simp only [Option.some.injEq,Prod.mk.injEq] at h;rw [← h.1];exact⟨.inr (by rw [if_pos ht]),fun N hN=>by rw [if_pos ht];exact hN⟩
  ·rename_i ht;simp only [Option.some.injEq,Prod.mk.injEq] at h;rw [← h.1];exact⟨.inl rfl,fun N hN=>by rw [if_neg ht];exact hN⟩
 case buildSlice t len parts =>
  dsimp only [qBuild,eBuildSlice] at h ⊢;simp only [Option.map_eq_some_iff,Prod.mk.injEq] at h;obtain⟨V,h1,h2,-⟩:=h;subst h2;refine⟨.inl rfl,fun N hN=>?_⟩;split at h1
  ·rename_i e hu;split at h1
   ·rename_i sz z l hs hz hl;split at h1
    ·rename_i hc;obtain rfl:=Option.some.inj h1;simp only [hu,hs,hz,hl];exact⟨hc.1,hc.2.1,hc.2.2.1,hc.2.2.2,hN⟩
    ·cases h1
   ·cases h1
  ·cases h1
 case load t x =>
  dsimp only at h ⊢;split at h
  ·cases h
  ·rename_i ht;cases tk with
   | some k=>simp at ht
   | none=>exact⟨.inl (dflt (.load t x) hop h).1,(dflt (.load t x) hop h).2⟩
 case convert s d x=>exact⟨.inl (dflt _ hop h).1,fun N hN=>.inl ((dflt _ hop h).2 N hN)⟩
 case binOp op t x y t'=>exact⟨.inl (dflt _ hop h).1,fun N hN=>.inl ((dflt _ hop h).2 N hN)⟩
 case range t x=>simp [aop] at h
 case next i str=>simp [aop] at h
 case extract x i =>
  dsimp only at h ⊢;split at h
  ·cases h
  ·rename_i ht;refine⟨.inl (dflt (.extract x i) hop h).1,fun N hN=>?_⟩;rw [if_neg ht];exact (dflt (.extract x i) hop h).2 N hN
 case store t p x=>simp [aop] at h
 case alloc t=>simp [aop] at h
 case box t x=>simp [aop] at h
 case makeMap t r=>simp [aop] at h
 case makeSlice t l c=>simp [aop] at h
 case mapUpdate t m k x=>simp [aop] at h
 case insert t m k x=>simp [aop] at h
 case call c =>
  obtain⟨callee,args,argTypes⟩:=c;cases callee with
  | value F=>simp [aop] at h
  | invoke r m=>simp [aop] at h
  | builtin b =>
   by_cases hb:b = .append
   ·subst hb;dsimp only at h ⊢;split at h
    ·rename_i x y hargs;split at h
     ·rename_i hd;simp only [Option.map_eq_some_iff,Prod.mk.injEq] at h;obtain⟨l,h1,h2,-⟩:=h;subst h2;refine⟨.inr (by rw [hargs];rfl),fun N hN=>?_⟩;rw [hargs];exact⟨hd,by rw [h1];exact hN⟩
     ·cases h
    ·cases h
   ·by_cases hb2:b = .delete
    ·subst hb2;simp [aop,aBuiltin] at h
    ·have h':((aop P T M o.type (.call ⟨.builtin b,args,argTypes⟩)).map fun V=>((⟨none,V.shut⟩ : QEff),readsOf T (.call ⟨.builtin b,args,argTypes⟩)))=some (q,B):=by
      revert h
      cases b<;>first|(exact absurd rfl hb)|exact id
     obtain⟨h1,h2⟩:=dflt _ hop h';refine⟨.inl h1,fun N hN=>?_⟩;have h3:=h2 N hN
     revert h3
     cases b<;>first|(exact absurd rfl hb)|(exact absurd rfl hb2)|exact id
theorem quiet_qstep {tk:Option Nat}{q:QEff}{B:List Nat}(h:qstep P tk o T M=some (q,B)):Quiet P tk o T M q B :=
 ⟨(qstep_run h).1,fun _ _ hT hM N hN=>(qstep_run (qstep_congr h hT hM)).2 N hN⟩
end
end Go.Am
namespace Go.Am
set_option linter.unusedSimpArgs false
def freeD (ops:Array Oper)(tk:Nat->Option Nat)(listed:Array Bool)(i:Nat):Bool :=
 match ops[i]? with
 | none=>false
 | some oi=>(List.range ops.size).all fun j=>j == i || listed.getD j true || match ops[j]? with
  | some oj=>waitsOn oj i || apartD ops tk i j oi oj
  | none=>true
def lstd (n:Nat)(un:List Nat):Array Bool:=((List.range n).map fun i=>!un.contains i).toArray
def planB (ops:Array Oper)(tk:Nat->Option Nat):List PStep->Array Bool->List Nat->Bool
 | [],listed,_=>(Region.ready .any ops listed).isEmpty
 | .q i::rest,listed,taken=>(Region.ready .any ops listed).contains i && freeD ops tk listed i && planB ops tk rest (listed.setIfInBounds i true) (i::taken)
 | .c i::rest,listed,taken=>(Region.ready .any ops listed).contains i && freeD ops tk listed i && planB ops tk rest (listed.setIfInBounds i true) (i::taken)
 | .s i ks::rest,listed,taken=>(Region.ready .any ops listed == [i]) && (taken.all fun k=>ks.contains k || match ops[i]? with|some o=>waitsOn o k|none=>false) && planB ops tk rest (listed.setIfInBounds i true) taken
 | .a un::_,listed,_=>listed == lstd ops.size un
def aDraw (P:Program)(tk:Nat->Option Nat)(ops:Array Oper)(Q:St->Prop):List PStep->List (Nat×Nat)->St->Prop
 | [],_,S=>Q S
 | .q i::rest,H,S =>
  (match ops[i]? with
  | some o=>aGuard ops S.T o (match qstep P (tk i) o S.T S.M with|some (q,B)=>aDraw P tk ops Q rest (B.map (fun b=>(i,b))++H) (q.app S o.dst)|none=>False) (aDraw P tk ops Q rest H (S.put o.dst (.raw undef)))
  | none=>False)
 | .c i::rest,H,S =>
  (match ops[i]? with
  | some o=>aGuard ops S.T o (∃ q B,Quiet P (tk i) o S.T S.M q B/\aDraw P tk ops Q rest (B.map (fun b=>(i,b))++H) (q.app S o.dst)) (aDraw P tk ops Q rest H (S.put o.dst (.raw undef)))
  | none=>False)
 | .s i ks::rest,H,S=>aOp P tk ops i S fun S'=>(∀ p∈H,p.1∈ks->S'.M p.2=S.M p.2)/\aDraw P tk ops Q rest H S'
 | .a un::rest,H,S=>aAny P tk ops Q H (rest.length+1) (lstd ops.size un) S
section
variable {P:Program}{ops:Array Oper}{tk:Nat->Option Nat}
theorem aGuard_cases {T:Nat->AVal}{o:Oper}{y n:Prop}(h:aGuard ops T o y n):(y/\∀ y' n':Prop,y'->aGuard ops T o y' n')\/(n/\∀ y' n':Prop,n'->aGuard ops T o y' n'):=by
 unfold aGuard at h ⊢;split at h
 ·exact .inl ⟨h,fun _ _ hy=>hy⟩
 ·rename_i j want hgd;split at h
  ·split at h
   ·rename_i t ht;by_cases e:t=want
    ·exact .inl ⟨h.1 e,fun _ _ hy=>⟨fun _=>hy,fun e'=>by subst e;cases t<;>cases e'⟩⟩
    ·have e':t = !want:=by cases t<;>cases want<;>simp_all
     exact .inr ⟨h.2 e',fun _ _ hn=>⟨fun e''=>absurd e'' e,fun _=>hn⟩⟩
   ·exact .inr ⟨h,fun _ _ hn=>hn⟩
   ·exact h.elim
  ·exact h.elim
theorem freeD_spec {listed:Array Bool}{i:Nat}{oi:Oper}(hi:ops[i]? = some oi)(h:freeD ops tk listed i=true)(j:Nat)(oj:Oper)(hj:ops[j]? = some oj)(hne:j≠i)(hun:listed.getD j true=false)(hw:waitsOn oj i=false) :
 apartD ops tk i j oi oj=true:=by
 unfold freeD at h;rw [hi] at h;have hlt:j<ops.size:=by
  rcases Nat.lt_or_ge j ops.size with h'|h'
  ·exact h'
  ·rw [Array.getElem?_eq_none h'] at hj;cases hj
 have:=List.all_eq_true.1 h j (List.mem_range.2 hlt);rw [hj,hun] at this;simpa [hne,hw] using this
theorem aDraw_any {Q:St->Prop}:∀ (plan:List PStep) (listed:Array Bool) (taken:List Nat) (H:List (Nat×Nat)) (S:St),planB ops tk plan listed taken=true->(∀ p∈H,p.1∈taken)->aDraw P tk ops Q plan H S->aAny P tk ops Q H plan.length listed S
 | [],listed,taken,H,S,hb,_,h=>⟨by simpa [planB] using hb,h⟩
 | .q i::rest,listed,taken,H,S,hb,ht,h=>by
  simp only [planB,Bool.and_eq_true] at hb;obtain⟨⟨hr,hf⟩,hb⟩:=hb;simp only [aDraw] at h;split at h
  ·rename_i o ho;have fin:∀ (q:QEff) (B:List Nat),(q.lz=none\/q.lz=lzOf (tk i) o)->Comes P tk ops i o S q B->aDraw P tk ops Q rest (B.map (fun b=>(i,b))++H) (q.app S o.dst)->aAny P tk ops Q H (PStep.q i::rest).length listed S:=fun q B hq hc hd =>
    aAny_first ho hq rest.length listed S (fun j oj hj hne hun hw=>freeD_spec ho hf j oj hj hne hun hw) (by simpa using hr) hc
     (aDraw_any rest _ (i::taken) _ _ hb (fun p hp=>by
      rcases List.mem_append.1 hp with hp|hp
      ·obtain⟨b,-,rfl⟩:=List.mem_map.1 hp;simp
      ·simp [ht p hp]) hd)
   rcases aGuard_cases h with ⟨hy,hg⟩|⟨hn,hg⟩
   ·split at hy
    ·rename_i q B hq;have hQ:=quiet_qstep hq;exact fin q B hQ.1 (hg _ _ hQ) hy
    ·exact hy.elim
   ·exact fin ⟨none,.raw undef⟩ [] (.inl rfl) (hg _ _ rfl) hn
  ·exact h.elim
 | .c i::rest,listed,taken,H,S,hb,ht,h=>by
  simp only [planB,Bool.and_eq_true] at hb;obtain⟨⟨hr,hf⟩,hb⟩:=hb;simp only [aDraw] at h;split at h
  ·rename_i o ho;have fin:∀ (q:QEff) (B:List Nat),(q.lz=none\/q.lz=lzOf (tk i) o)->Comes P tk ops i o S q B->aDraw P tk ops Q rest (B.map (fun b=>(i,b))++H) (q.app S o.dst)->aAny P tk ops Q H (PStep.c i::rest).length listed S:=fun q B hq hc hd =>
    aAny_first ho hq rest.length listed S (fun j oj hj hne hun hw=>freeD_spec ho hf j oj hj hne hun hw) (by simpa using hr) hc
     (aDraw_any rest _ (i::taken) _ _ hb (fun p hp=>by
      rcases List.mem_append.1 hp with hp|hp
      ·obtain⟨b,-,rfl⟩:=List.mem_map.1 hp;simp
      ·simp [ht p hp]) hd)
   rcases aGuard_cases h with ⟨hy,hg⟩|⟨hn,hg⟩
   ·obtain⟨q,B,hQ,hd⟩:=hy;exact fin q B hQ.1 (hg _ _ hQ) hd
   ·exact fin ⟨none,.raw undef⟩ [] (.inl rfl) (hg _ _ rfl) hn
  ·exact h.elim
 | .s i ks::rest,listed,taken,H,S,hb,ht,h=>by
  simp only [planB,Bool.and_eq_true,beq_iff_eq] at hb;obtain⟨⟨hr,hk⟩,hb⟩:=hb;simp only [aDraw] at h;show aAny P tk ops Q H (rest.length+1) listed S
  refine⟨fun h0=>(by rw [hr] at h0;cases h0),fun j hj=>?_⟩;rw [hr] at hj;obtain rfl:=List.mem_singleton.1 hj;refine aOp_mono (fun S' hS=>⟨fun p hp hw=>?_,aDraw_any rest _ taken H S' hb ht hS.2⟩) h;refine hS.1 p hp ?_;have:=List.all_eq_true.1 hk p.1 (ht p hp);cases ho:ops[j]? with
  | none=>rw [ho] at this;simpa using this
  | some o =>
   rw [ho] at this;have hw':=hw o ho;simpa [hw'] using this
 | .a un::rest,listed,taken,H,S,hb,ht,h=>by
  simp only [planB,beq_iff_eq] at hb;subst hb;exact h
variable {κ:Ghost}{w:World}{a:Act}
theorem aGuard_sound {T:Nat->AVal}{M:Mem}{o:Oper}{yes no:Prop}(h:Holds P κ T (tv a) M w)(hg:aGuard ops T o yes no):(Region.wanted o (yielded ops a.tmps)=true/\yes)\/(Region.wanted o (yielded ops a.tmps)=false/\no):=by
 unfold aGuard at hg;split at hg
 ·rename_i hgd;left;exact⟨by unfold Region.wanted;rw [hgd],hg⟩
 ·rename_i j want hgd;split at hg
  ·rename_i d hd;split at hg
   ·rename_i t ht;have h1:=h.tmp d;rw [ht] at h1;have h2:tv a d = .bool t:=rep_raw h1;have h3:a.tmps[d]? = some (.bool t):=by
     have:a.tmps.getD d undef = .bool t:=h2;rw [Array.getD_eq_getD_getElem?] at this;cases hx:a.tmps[d]? with
     | none=>rw [hx] at this;cases this
     | some v=>rw [hx] at this;simp only [Option.getD_some] at this;rw [this]
    have hy:yielded ops a.tmps j=some t:=by
     unfold yielded;rw [hd];simp only [Option.bind_some,h3]
    have hw:Region.wanted o (yielded ops a.tmps)=(t == want):=by
     unfold Region.wanted;rw [hgd];simp only [hy];cases t<;>cases want<;>rfl
    rw [hw];by_cases e:t=want
    ·exact .inl ⟨by simp [e],hg.1 e⟩
    ·exact .inr ⟨by simp [e],hg.2 (by cases t<;>cases want<;>simp_all)⟩
   ·rename_i v hnb ht;have h1:=h.tmp d;rw [ht] at h1;have h2:tv a d=v:=rep_raw h1;refine .inr ⟨?_,hg⟩;have hy:yielded ops a.tmps j=none:=by
     unfold yielded;rw [hd];simp only [Option.bind_some];cases hx:a.tmps[d]? with
     | none=>rfl
     | some u =>
      have:a.tmps.getD d undef=v:=h2;rw [Array.getD_eq_getD_getElem?,hx] at this;simp only [Option.getD_some] at this;subst this;cases u<;>first|rfl|exact (hnb _ rfl).elim
    unfold Region.wanted;rw [hgd];simp only [hy];rfl
   ·exact hg.elim
  ·exact hg.elim
theorem Next.trans {κ':Ghost}{w':World}{a':Act}{K:St->Prop}{a'':Act}{w'':World}(hk:Keep κ w κ' w')(hs:a'.tmps.size=a.tmps.size)(hd:a'.defers=a.defers)(h:Next P κ' w' a' K a'' w''):Next P κ w a K a'' w'':=by
 obtain⟨κ2,S2,h1,h2,h3,h4,h5⟩:=h;exact⟨κ2,S2,h1,h2,hk.trans h3,h4.trans hs,h5.trans hd⟩
theorem aOp_sound {Q:Exit->Act->World->Prop}{i:Nat}{S:St}{K:St->Prop}(hB:∀ o,ops[i]? = some o->stepB a.tmps.size o=true/\zeroB P o=true)(h:Holds P κ S.T (tv a) S.M w)(hs:aOp P tk ops i S K):wpOp P ops Q i (Next P κ w a K) a w:=by
 unfold aOp at hs;unfold wpOp;split at hs
 ·rename_i ho;rw [ho];exact⟨κ,S,hs,h,Keep.refl κ w,rfl,rfl⟩
 ·rename_i o ho;rw [ho];dsimp only;obtain⟨hb1,hb2⟩:=hB o ho;rcases aGuard_sound h hs with ⟨hw,hy⟩|⟨hw,hn⟩
  ·rw [if_pos hw];exact .inl (dstep_sound h hb1 hb2 hy)
  ·rw [if_neg (by rw [hw];exact Bool.false_ne_true)];have hd:=stepB_dst hb1;refine⟨κ,_,hn,?_,Keep.refl κ w,put_size ..,put_defers ..⟩;cases hdst:o.dst with
   | none=>exact h
   | some d =>
    rw [tv_put undef (hd d hdst)];exact h.put d (.raw _) fun _ _=>Spare.not_free (by simp [AVal.free])
theorem aAny_sound {Q:Exit->Act->World->Prop}{K:St->Prop}{H:List (Nat×Nat)}:∀ (fuel:Nat) (listed:Array Bool) (κ:Ghost) (w:World) (a:Act) (S:St),(∀ (i:Nat) o,ops[i]? = some o->stepB a.tmps.size o=true/\zeroB P o=true) →
 Holds P κ S.T (tv a) S.M w->aAny P tk ops K H fuel listed S->(∀ a' w',Next P κ w a K a' w'->Q .normal a' w')->wpAny P .any ops Q fuel listed a w
 | 0,listed,κ,w,a,S,_,h,hs,hQ=>⟨hs.1,hQ a w ⟨κ,S,hs.2,h,Keep.refl κ w,rfl,rfl⟩⟩
 | fuel+1,listed,κ,w,a,S,hB,h,hs,hQ=>⟨fun h0=>hQ a w ⟨κ,S,hs.1 h0,h,Keep.refl κ w,rfl,rfl⟩,fun i hi=>wpOp_mono (fun a' w' hn=>by
  obtain⟨κ',S',h1,h2,h3,h4,h5⟩:=hn;exact aAny_sound fuel _ κ' w' a' S' (fun i o ho=>by rw [h4];exact hB i o ho) h2 h1.2 fun a'' w'' hx=>hQ a'' w'' (Next.trans h3 h4 h5 hx)) (aOp_sound (hB i) h (hs.2 i hi))⟩
theorem aDraw_sound {id:Nat}{K:Exit->St->Prop}{plan:List PStep}{S:St}(hm:P.follows .mixedOrders=true)(hB:∀ (i:Nat) o,ops[i]? = some o->stepB a.tmps.size o=true/\zeroB P o=true)(hlen:plan.length=ops.size)(hp:planB ops tk plan (Array.replicate ops.size false) []=true)
 (h:Holds P κ S.T (tv a) S.M w) (hs:aDraw P tk ops (K .normal) plan [] S):(Code.region id ops true).wp P (fun e a' w'=>Next P κ w a (K e) a' w') a w:=by
 obtain⟨h1,hk⟩:=h.drawn (w.drawn+1);have hany:=aDraw_any plan (Array.replicate ops.size false) [] [] S hp (fun p hp=>by cases hp) hs;rw [hlen] at hany;exact wp_region_any hm (aAny_sound ops.size _ κ _ a S hB h1 hany fun a' w' hx=>Next.trans hk rfl rfl hx)
end
theorem quiet_call {P:Program}{o:Oper}{T:Nat->AVal}{M:Mem}{F:Operand}{args:Array Operand}{argTypes:Array TypeId}{f:FuncId}{first captured:Array Value}{r:AVal}{B:List Nat}(hop:o.op = .call { callee:=.value F,args,argTypes })(hd:o.dst.isSome=true)(hF:ev T F = .raw (.func (.func f) first captured))
 (hg:goesB P f=true) (hc:∀ M',(∀ b∈B,M b=M' b)->SoundCall P f (first.toList.map .raw++aArgs T none 0 args.toList++captured.toList.map .raw) M' fun r' M''=>r'=r/\M''=M'):Quiet P none o T M ⟨none,r⟩ B:=by
 refine⟨.inl rfl,fun T' M' hT hM N hN=>?_⟩;rw [hop] at hT;simp only [Op.operands] at hT;unfold estep;rw [hop];dsimp only [eCall];rw [← hT F (by simp [Call.operands]),hF];refine⟨hd,hg,trivial,fun r' M''=>r'=r/\M''=M',?_,?_⟩
 ·rw [← aArgs_congr (T:=T) (T':=T') args.toList 0 fun x hx=>hT x (by simp [Call.operands];right;simpa using hx)];exact hc M' hM
 ·rintro r' M'' ⟨rfl,rfl⟩;exact hN
end Go.Am
set_option linter.unusedSimpArgs false
set_option linter.unusedVariables false
namespace Go.Am
section
variable {P:Program}{κ:Ghost}{w:World}{a:Act}{K:St->Prop}{Q:Exit->Act->World->Prop}{S:St}
theorem setCell_same {w:World}{b o:Nat}{x:Value}(h:w.cell? ⟨b,o,none⟩=some x):w.setCell ⟨b,o,none⟩ x=w:=by
 unfold World.cell? at h;unfold World.setCell;have:w.heap.modify b (fun | .cells c elem frozen=>.cells (if (none:Option Nat).isSome then c else c.setIfInBounds o x) elem frozen|o=>o)=w.heap:=by
  apply Array.ext
  ·rw [Array.size_modify]
  ·intro i h1 h2;rw [Array.getElem_modify];split
   ·rename_i e;subst e;rw [Array.getElem?_eq_getElem h2] at h;dsimp only at h;split at h
    ·rename_i c e' fr hc;rw [Option.some.inj hc];simp only [Option.isSome_none,Bool.false_eq_true,↓reduceIte] at h ⊢;congr 1;apply Array.ext
     ·simp
     ·intro j h3 h4;rw [Array.getElem_setIfInBounds];split
      ·rename_i e2;subst e2;rw [Array.getElem?_eq_getElem h4] at h;exact (Option.some.inj h).symm
      ·rfl
    ·cases h
   ·rfl
 show ({ w with heap:=_ }:World)=w
 exact congrArg (fun h=>({ w with heap:=h }:World)) this
theorem Holds.adopt {T:Nat->AVal}{M:Mem}(h:Holds P κ T (tv a) M w){s b off:Nat}{xs l:List AVal}(hV:T s = .sl xs true)(hb:M b=some (.cells l))(hle:off<l.length)(hc:w.cell? ⟨b,off,none⟩=some (tv a s)) :
 ∃ κ',Holds P κ' (setT T s (.sl xs false)) (tv a) (M.upd b (.cells (l.set off (.sl xs true)))) w/\Keep κ w κ' w:=by
 have hk1:Keep κ w (fun b' o'=>match κ b' o' with | .slot t=>if t=s then .mslot b off else .slot t|y=>y) w:=Keep.tags (fun b' o' e=>by simp only [e]) (fun b' o' e=>by simp only [e]);have h1:Holds P (fun b' o'=>match κ b' o' with | .slot t=>if t=s then .mslot b off else .slot t|y=>y) (setT T s (T s).shut) (tv a) M w:=by
  refine⟨fun t=>?_,fun c p hc=>(h.obj c p hc).tags (fun b' o' e=>by simp only [e]) (fun b' o' j e=>by simp only [e]),fun c y hc=>(h.tag c y fun e=>hc (by simp only [e])).imp id fun h=>h.to fun e=>by simp only [e],fun t c y hsp=>?_,fun c y t hc=>?_,fun c y c' j hc=>?_⟩
  ·unfold setT;split
   ·rename_i e;subst e;exact hk1.rep (h.tmp t).shut
   ·exact hk1.rep (h.tmp t)
  ·unfold setT at hsp;split at hsp
   ·exact absurd hsp Spare.not_shut
   ·rename_i e;have:=h.sp t c y hsp;simp only [this,if_neg e]
  ·split at hc
   ·rename_i t' e;exact h.wr c y t' e
   ·exact h.wr c y t hc
  ·split at hc
   ·rename_i t' e;exact h.wr c y t' e
   ·exact h.mwr c y c' j hc
 obtain⟨h2,h3,h4⟩:=h1.setM hb (o:=off) (X:=.sl xs true) (x:=tv a s) hle (by rw [← hV];exact hk1.rep (h.tmp s)) (unit_one (h.tmp s) (by rw [hV];rfl)) (fun b' o' hsp=>by
  rw [← hV] at hsp;have:=h.sp s b' o' hsp;simp only [this,if_true])
 rw [setCell_same hc] at h3 h4;rw [hV] at h3;exact⟨_,h3,hk1.trans h4⟩
def aFuse (P:Program)(s off:Nat)(o o':Oper)(K:St->Prop)(S:St):Prop :=
 ∃ t parts d e cs xs,o.op = .build t parts/\o.dst=some d/\o.guard=none/\o'.op = .box t (.tmp d)/\o'.dst=some e/\o'.guard=none/\s≠d/\S.T s = .sl xs true ∧
  aop P S.T S.M o.type o.op=some (.agg cs)/\(AVal.agg cs).ok=true/\off<cs.length ∧
  (∀ v n c,∃ cv,aop P (setT S.T s (.raw (.slice v n c))) S.M o.type o.op=some (.agg cv)/\cv[off]? = some (.raw (.slice v n c))) ∧
  ∀ b,S.M b=none->K ⟨setT (setT (setT S.T d (.agg cs)) s (.sl xs false)) e (.raw (.pointer (some ⟨b,0,none⟩))),S.M.upd b (.cells ((cs.map AVal.shut).set off (.sl xs true)))⟩
theorem aFuse_mono {s off:Nat}{o o':Oper}{K':St->Prop}(hK:∀ S,K S->K' S)(h:aFuse P s off o o' K S):aFuse P s off o o' K' S:=by
 obtain⟨t,parts,d,e,cs,xs,h1,h2,h3,h4,h5,h6,h7,h8,h9,h10,h11,h12,h13⟩:=h;exact⟨t,parts,d,e,cs,xs,h1,h2,h3,h4,h5,h6,h7,h8,h9,h10,h11,h12,fun b hb=>hK _ (h13 b hb)⟩
theorem aFuse_sound {s off:Nat}{o o':Oper}(h:Holds P κ S.T (tv a) S.M w)(hd:∀ d,o.dst=some d->d<a.tmps.size)(hd':∀ d,o'.dst=some d->d<a.tmps.size)(hf:aFuse P s off o o' K S) :
 o.wp P a w (fun a1 w1=>o'.wp P a1 w1 (Next P κ w a K) Q) Q:=by
 obtain⟨t,parts,d,e,cs,xs,h1,h2,h3,h4,h5,h6,h7,h8,h9,h10,h11,h12,h13⟩:=hf;obtain⟨u,hrun,hrep⟩:=aop_sound (a:=a) h.tmp h.obj h9;have hs:=h.tmp s;rw [h8] at hs;obtain⟨v,n,c,hv⟩ : ∃ v n c,tv a s = .slice v n c:=by
  rcases rep_sl_inv hs with ⟨-,a0,c0,e,-⟩|⟨b,off,cap,sz,cv,e,-⟩
  ·exact⟨_,_,_,e⟩
  ·exact⟨_,_,_,e⟩
 obtain⟨cv,h14,h15⟩:=h12 v n c;obtain⟨u',hrun',hrep'⟩:=aop_sound (a:=a) (T:=setT S.T s (.raw (.slice v n c))) (fun t=>by
  unfold setT;split
  ·rename_i e1;subst e1;have:a.eval (.tmp t) = .slice v n c:=hv;rw [this];exact .raw _
  ·exact h.tmp t) h.obj h14
 have hu:u'=u:=by
  rw [hrun] at hrun';cases hrun';rfl
 subst hu;refine wp_value hrun ?_;cases hrep with
 | agg _ vs hl hr =>
 have hcell:vs[off]? = some (tv a s):=by
  cases hrep' with
  | agg _ _ hl' hr' =>
   have hlt:off<vs.size:=by omega
   have:=hr' off _ vs[off] h15 (by simp [hlt]);have e:=rep_raw this;rw [Array.getElem?_eq_getElem hlt,e,hv]
 have hdlt:=hd d h2;rw [h2];have hh:Holds P κ (setT S.T d (.agg cs)) (tv (a.put (some d) (.agg vs))) S.M w:=by
  rw [tv_put _ hdlt];exact h.put d (.agg _ vs hl hr) fun _ _ hsp=>by
   rcases hsp with ⟨l,o1,c1,e1,-⟩|⟨Vs,vs',i,X,x,e1,-⟩<;>cases e1
 have htd:tv (a.put (some d) (.agg vs)) d = .agg vs:=by rw [tv_put _ hdlt];simp
 have hts:tv (a.put (some d) (.agg vs)) s=tv a s:=by rw [tv_put _ hdlt];simp [h7]
 have hrun2:(execOp (a.put (some d) (.agg vs)).eval o').run P w = .ok (.value (.pointer (some ⟨w.heap.size,0,none⟩))) (push w (.cells vs t)):=by
  unfold execOp;rw [h4];have e1:(a.put (some d) (.agg vs)).eval (.tmp d) = .agg vs:=htd;refine (run_val (s:=Instr.box t ((a.put (some d) (.agg vs)).eval (.tmp d))) rfl).trans ?_;rw [e1];rfl
 obtain⟨hcl,hcu⟩:=ok_cells (P:=P) (κ:=κ) (w:=w) (Rep.agg _ vs hl hr) h10;obtain⟨hn,hk⟩:=hh.newObj (l:=cs.map AVal.shut) (cs:=vs) (e:=t) (fr:=(0,0)) (by rw [List.length_map];exact hl.symm) (fun j X y e1 e2=>by
  simp only [List.getElem?_map,Option.map_eq_some_iff] at e1;obtain⟨Y,e1,rfl⟩:=e1;have:=hcl.2 j Y y e1 e2;exact⟨this.shut,unit_one this (hcu Y (List.mem_of_getElem? e1)),fun _ _=>Spare.not_shut⟩) (fun _ _=>by simp)
 have hTs:setT S.T d (.agg cs) s = .sl xs true:=by unfold setT;rw [if_neg h7,h8]
 obtain⟨κ',hn',hk'⟩:=hn.adopt (s:=s) (b:=w.heap.size) (off:=off) (xs:=xs) hTs (Mem.upd_self _ _ _) (by rw [List.length_map];exact h11) (by
  unfold World.cell?;rw [show (push w (.cells vs t)).heap[w.heap.size]? = some (.cells vs t) from push_new w _];dsimp only;rw [if_neg (by simp),hcell,hts])
 rw [Mem.upd_upd] at hn';have hsz:(a.put (some d) (.agg vs)).tmps.size=a.tmps.size:=put_size ..;have:=wp_value (o:=o') (Q:=Q) hrun2 (next_put (K:=K) (S':=⟨setT (setT S.T d (.agg cs)) s (.sl xs false),_⟩) (fun d hd=>by rw [hsz];exact hd' d hd) (by rw [h5];exact h13 _ h.fresh) (fun d _=>hn'.put d (.raw _) fun _ _=>Spare.not_raw) (fun _=>hn') (hk.trans hk'));exact Oper.wp_mono (fun a' w' hx=>Next.trans (Keep.refl κ w) hsz (put_defers ..) hx) this
end
end Go.Am
set_option linter.unusedSimpArgs false
set_option linter.unusedVariables false
namespace Go.Am
def aOps (P:Program)(tk:Nat->Option Nat)(ops:Array Oper)(K:St->Prop):Nat->List Oper->St->Prop
 | _,[],S=>K S
 | i,o::rest,S=>aGuard ops S.T o (dstep P (tk i) o S (aOps P tk ops K (i+1) rest)) (aOps P tk ops K (i+1) rest (S.put o.dst (.raw undef)))
def aSeg (P:Program)(tk:Nat->Option Nat)(ops:Array Oper)(K:St->Prop):Nat->Nat->List Oper->St->Prop
 | 0,i,l,S=>aOps P tk ops K i l S
 | n+1,i,l,S=>∃ pre o o' rest s off,l=pre++o::o'::rest/\aOps P tk ops (aFuse P s off o o' (aSeg P tk ops K n (i+pre.length+2) rest)) i pre S
def aRounds (F:St->(Exit->St->Prop)->Prop):Nat->St->(Exit->St->Prop)->Prop
 | 0,_,_=>False
 | n+1,S,K=>F S fun e S'=>match e with | .normal=>aRounds F n S' K|e=>K e S'
def aDr (P:Program)(tk:Nat->Option Nat)(ops:Array Oper)(Q:St->Prop)(p:List PStep)(S:St):Prop :=
 match p with
 | []=>aAny P tk ops Q [] ops.size (Array.replicate ops.size false) S
 | a::l=>aDraw P tk ops Q (a::l) [] S
def noG (K:Exit->St->Prop):Exit->St->Prop
 | .goto _,_=>False
 | e,S=>K e S
def aPasses (l:Nat)(F:St->(Exit->St->Prop)->Prop):Nat->St->(Exit->St->Prop)->Prop
 | 0,_,_=>False
 | n+1,S,K=>F S fun e S'=>match e with | .goto l'=>l'=l/\aPasses l F n S' K|e=>K e S'
theorem exists_least {p:Nat->Prop}(h:∃ n,p n):∃ n,p n/\∀ m,p m->n<=m:=by
 obtain⟨n,hn⟩:=h
 induction n using Nat.strongRecOn with
 | _ n ih =>
  by_cases h:∃ m,m<n/\p m
  ·obtain⟨m,h1,h2⟩:=h;exact ih m h1 h2
  ·exact⟨n,hn,fun m hm=>Classical.byContradiction fun h1=>h ⟨m,by omega,hm⟩⟩
open Classical in
noncomputable def least (p:Nat->Prop):Nat:=if h:∃ n,p n then Classical.choose (exists_least h) else 0
theorem least_spec {p:Nat->Prop}(h:∃ n,p n):p (least p)/\∀ m,p m->least p<=m:=by
 unfold least;rw [dif_pos h];exact Classical.choose_spec (exists_least h)
mutual
def aCode (P:Program)(tk:Nat->Nat->Option Nat)(pl:Nat->List PStep):Code->St->(Exit->St->Prop)->Prop
 | .skip,S,K=>K .normal S
 | .region id ops false,S,K=>∃ n,aSeg P (tk id) ops (K .normal) n 0 ops.toList S
 | .region id ops true,S,K=>aDr P (tk id) ops (K .normal) (pl id) S
 | .seq x y,S,K=>aCode P tk pl x S fun e S'=>match e with | .normal=>aCode P tk pl y S' K|e=>K e S'
 | .cond c x y,S,K=>(match ev S.T c with | .raw (.bool t)=>(t=true->aCode P tk pl x S K)/\(t=false->aCode P tk pl y S K) | _=>False)
 | .block id c,S,K=>aCode P tk pl c S fun e S'=>match e with | .exit id'=>if id'=id then K .normal S' else K (.exit id') S'|e=>K e S'
 | .loop c,S,K=>∃ n,aRounds (aCode P tk pl c) n S K
 | .exit id,S,K=>K (.exit id) S
 | .ret,S,K=>K .ret S
 | .label _,S,K=>K .normal S
 | .goto l,S,K=>K (.goto l) S
 | .scope c,S,K=>∃ l,(findLabel c l).isSome=true/\∃ n,aCode P tk pl c S fun e S'=>match e with | .goto l'=>l'=l/\aPasses l (aFrom P tk pl c l) n S' K|e=>K e S'
 | .rangeFunc _ _ _ _,_,_=>False
 | .refuse _,_,_=>False
def aFrom (P:Program)(tk:Nat->Nat->Option Nat)(pl:Nat->List PStep):Code->Nat->St->(Exit->St->Prop)->Prop
 | .seq x y,l,S,K=>if (findLabel x l).isSome then aFrom P tk pl x l S fun e S'=>match e with | .normal=>aCode P tk pl y S' K|e=>K e S' else aFrom P tk pl y l S K
 | .label l',l,S,K=>if l' == l then K .normal S else False
 | .skip,_,_,_=>False
 | .region _ _ _,_,_,_=>False
 | .cond _ _ _,_,_,_=>False
 | .block _ _,_,_,_=>False
 | .loop _,_,_,_=>False
 | .exit _,_,_,_=>False
 | .ret,_,_,_=>False
 | .goto _,_,_,_=>False
 | .scope _,_,_,_=>False
 | .rangeFunc _ _ _ _,_,_,_=>False
 | .refuse _,_,_,_=>False
end
def codeB (P:Program)(n:Nat)(tk:Nat->Nat->Option Nat)(pl:Nat->List PStep):Code->Bool
 | .region id ops draw=>(ops.toList.all fun o=>stepB n o && zeroB P o) && (!draw || (pl id).isEmpty || ((pl id).length == ops.size && planB ops (tk id) (pl id) (Array.replicate ops.size false) []))
 | .seq x y=>codeB P n tk pl x && codeB P n tk pl y
 | .cond _ x y=>codeB P n tk pl x && codeB P n tk pl y
 | .block _ c=>codeB P n tk pl c
 | .loop c=>codeB P n tk pl c
 | .scope c=>codeB P n tk pl c
 | _=>true
theorem aAll_sound {P:Program}{ops:Array Oper}{tk:Nat->Option Nat}{κ:Ghost}{w:World}{a:Act}{id:Nat}{K:Exit->St->Prop}{S:St}(hm:P.follows .mixedOrders=true)(hB:∀ (i:Nat) o,ops[i]? = some o->stepB a.tmps.size o=true/\zeroB P o=true)
 (h:Holds P κ S.T (tv a) S.M w) (hs:aAny P tk ops (K .normal) [] ops.size (Array.replicate ops.size false) S):(Code.region id ops true).wp P (fun e a' w'=>Next P κ w a (K e) a' w') a w:=by
 obtain⟨h1,hk⟩:=h.drawn (w.drawn+1);exact wp_region_any hm (aAny_sound ops.size _ κ _ a S hB h1 hs fun a' w' hx=>Next.trans hk rfl rfl hx)
def Post (P:Program)(κ:Ghost)(w:World)(a:Act)(K:Exit->St->Prop):Exit->Act->World->Prop:=fun e a' w'=>Next P κ w a (K e) a' w'
section
variable {P:Program}{κ:Ghost}{w:World}{a:Act}
theorem aOps_sound {tk:Nat->Option Nat}{ops:Array Oper}{Q:Exit->Act->World->Prop}:∀ (rest:List Oper) (tl:List Nat) (i:Nat) (κ:Ghost) (w:World) (a:Act) (S:St) (K:St->Prop),(∀ j:Nat,j<rest.length->rest[j]? = ops[i+j]?)->(∀ o∈rest,stepB a.tmps.size o=true/\zeroB P o=true) →
 Holds P κ S.T (tv a) S.M w->aOps P tk ops K i rest S->(∀ a' w',Next P κ w a K a' w'->wpOps P ops Q tl a' w')->wpOps P ops Q (List.range' i rest.length++tl) a w
 | [],tl,i,κ,w,a,S,K,_,_,h,hs,hQ=>hQ a w ⟨κ,S,hs,h,Keep.refl κ w,rfl,rfl⟩
 | o::rest,tl,i,κ,w,a,S,K,hops,hB,h,hs,hQ=>by
  have ho:ops[i]? = some o:=by have:=hops 0 (by simp);simpa using this.symm
  have hrest:∀ j:Nat,j<rest.length->rest[j]? = ops[i+1+j]?:=fun j hj=>by
   have:=hops (j+1) (by simp;omega);rw [List.getElem?_cons_succ] at this;rw [this];congr 1;omega
  obtain⟨hb1,hb2⟩:=hB o (by simp);simp only [List.length_cons,List.range'_succ,List.cons_append,wpOps,ho];rcases aGuard_sound h hs with ⟨hw,hy⟩|⟨hw,hn⟩
  ·rw [if_pos hw];left;refine Oper.wp_mono (fun a' w' hn=>?_) (dstep_sound (Q:=Q) h hb1 hb2 hy);obtain⟨κ',S',h1,h2,h3,h4,h5⟩:=hn;exact aOps_sound rest tl (i+1) κ' w' a' S' K hrest (fun o ho=>by rw [h4];exact hB o (by simp [ho])) h2 h1 fun a'' w'' hx=>hQ a'' w'' (Next.trans h3 h4 h5 hx)
  ·rw [if_neg (by rw [hw];exact Bool.false_ne_true)];have hd:=stepB_dst hb1;have h1:Holds P κ (S.put o.dst (.raw undef)).T (tv (a.put o.dst undef)) (S.put o.dst (.raw undef)).M w:=by
    cases hdst:o.dst with
    | none=>exact h
    | some d =>
     rw [tv_put undef (hd d hdst)];exact h.put d (.raw _) fun _ _=>Spare.not_free (by simp [AVal.free])
   exact aOps_sound rest tl (i+1) κ w (a.put o.dst undef) _ K hrest (fun o' ho=>by rw [put_size];exact hB o' (by simp [ho])) h1 hn fun a'' w'' hx=>hQ a'' w'' (Next.trans (Keep.refl κ w) (put_size ..) (put_defers ..) hx)
theorem aSeg_sound {tk:Nat->Option Nat}{ops:Array Oper}{Q:Exit->Act->World->Prop}{K:St->Prop}:∀ (n:Nat) (l:List Oper) (i:Nat) (κ:Ghost) (w:World) (a:Act) (S:St),(∀ j:Nat,j<l.length->l[j]? = ops[i+j]?)->(∀ o∈l,stepB a.tmps.size o=true/\zeroB P o=true) →
 Holds P κ S.T (tv a) S.M w->aSeg P tk ops K n i l S->(∀ a' w',Next P κ w a K a' w'->Q .normal a' w')->wpOps P ops Q (List.range' i l.length) a w
 | 0,l,i,κ,w,a,S,hops,hB,h,hs,hQ=>by
  have:=aOps_sound (Q:=Q) l [] i κ w a S K hops hB h hs fun a' w' hx=>hQ a' w' hx
  rwa [List.append_nil] at this
 | n+1,l,i,κ,w,a,S,hops,hB,h,hs,hQ=>by
  obtain⟨pre,o,o',rest,s,off,rfl,hs⟩:=hs;have hr:List.range' i (pre++o::o'::rest).length=List.range' i pre.length++(i+pre.length)::(i+pre.length+1)::List.range' (i+pre.length+2) rest.length:=by
   rw [List.length_append,List.length_cons,List.length_cons,← List.range'_append_1 (s:=i) (m:=pre.length),List.range'_succ,List.range'_succ]
  rw [hr];have hl:(pre++o::o'::rest).length=pre.length+rest.length+2:=by simp;omega
  refine aOps_sound (Q:=Q) pre _ i κ w a S _ (fun j hj=>by rw [← hops j (by omega),List.getElem?_append_left hj]) (fun o ho=>hB o (by simp [ho])) h hs fun a' w' hx=>?_
  obtain⟨κ',S',h1,h2,h3,h4,h5⟩:=hx;have ho:ops[i+pre.length]? = some o:=by rw [← hops pre.length (by omega),List.getElem?_append_right (Nat.le_refl _),Nat.sub_self];rfl
  have ho':ops[i+pre.length+1]? = some o':=by rw [Nat.add_assoc,← hops (pre.length+1) (by omega),List.getElem?_append_right (by omega),Nat.add_sub_cancel_left];rfl
  have hb:=(hB o (by simp)).1;have hb':=(hB o' (by simp)).1;rw [← h4] at hb hb';obtain⟨t,parts,d,e,cs,xs,g1,g2,g3,g4,g5,g6,-⟩:=id h1;simp only [wpOps,ho,ho'];rw [if_pos (by unfold Region.wanted;rw [g3])];left;have hsz:∀ x:Act,x.tmps.size=x.tmps.size:=fun _=>rfl
  refine Oper.wp_mono (fun a1 w1 hx=>?_) (aFuse_sound (Q:=Q) h2 (stepB_dst hb) (stepB_dst hb') h1);rw [if_pos (by unfold Region.wanted;rw [g6])];left;refine Oper.wp_mono (fun a2 w2 hx=>?_) hx;obtain⟨κ2,S2,k1,k2,k3,k4,k5⟩:=hx;exact aSeg_sound n rest (i+pre.length+2) κ2 w2 a2 S2 (fun j hj=>by
   have:=hops (pre.length+2+j) (by omega);rw [List.getElem?_append_right (by omega),show pre.length+2+j - pre.length=j+1+1 by omega,List.getElem?_cons_succ,List.getElem?_cons_succ] at this;rw [this];congr 1;omega) (fun o ho=>by rw [k4,h4];exact hB o (by simp [ho])) k2 k1 fun a'' w'' hx=>hQ a'' w'' (Next.trans h3 h4 h5 (Next.trans k3 k4 k5 hx))
theorem aBoth_sound (hm:P.follows .mixedOrders=true){tk:Nat->Nat->Option Nat}{pl:Nat->List PStep}:∀ (c:Code),(∀ (κ:Ghost) (w:World) (a:Act) (S:St) (K:Exit->St->Prop),codeB P a.tmps.size tk pl c=true->Holds P κ S.T (tv a) S.M w->aCode P tk pl c S K->c.wp P (Post P κ w a K) a w)/\(∀ (l:Nat) (κ:Ghost) (w:World) (a:Act) (S:St) (K:Exit->St->Prop),codeB P a.tmps.size tk pl c=true->Holds P κ S.T (tv a) S.M w->aFrom P tk pl c l S K->∃ rest,findLabel c l=some rest/\rest.wp P (Post P κ w a K) a w):=by
 intro c
 induction c with
 | skip=>exact⟨fun κ w a S K _ h hs=>Go.wp_skip ⟨κ,S,hs,h,Keep.refl κ w,rfl,rfl⟩,fun l κ w a S K _ _ hs=>hs.elim⟩
 | region id ops draw =>
  refine⟨?_,fun l κ w a S K _ _ hs=>hs.elim⟩;intro κ w a S K hb h hs;simp only [codeB,Bool.and_eq_true] at hb;have hB:∀ o∈ops.toList,stepB a.tmps.size o=true/\zeroB P o=true:=fun o ho=>by
   have:=List.all_eq_true.1 hb.1 o ho;simpa using this
  cases draw with
  | true =>
   have h2:=hb.2;have hs':aDr P (tk id) ops (K .normal) (pl id) S:=hs;cases hp:pl id with
   | nil =>
    rw [hp] at hs';exact aAll_sound (K:=K) hm (fun i o ho=>hB o (Array.mem_toList_iff.2 (Array.mem_of_getElem? ho))) h hs'
   | cons p l =>
    rw [hp] at hs' h2;simp only [Bool.not_true,Bool.false_or,List.isEmpty_cons,Bool.and_eq_true,beq_iff_eq] at h2;exact aDraw_sound (K:=K) hm (fun i o ho=>hB o (Array.mem_toList_iff.2 (Array.mem_of_getElem? ho))) h2.1 h2.2 h hs'
  | false =>
   refine wp_region ?_;obtain⟨n,hs⟩ : ∃ n,aSeg P (tk id) ops (K .normal) n 0 ops.toList S:=hs;have:=aSeg_sound (P:=P) (Q:=Post P κ w a K) (K:=K .normal) n ops.toList 0 κ w a S (fun j _=>by simp) hB h hs (fun a' w' hx=>hx);rw [Array.length_toList,← List.range_eq_range'] at this;exact this
 | seq x y ihx ihy =>
  refine⟨?_,fun l κ w a S K hb h hs=>?_⟩
  rotate_left
  ·simp only [codeB,Bool.and_eq_true] at hb;have hs':if (findLabel x l).isSome then aFrom P tk pl x l S (fun e S'=>match e with | .normal=>aCode P tk pl y S' K|e=>K e S') else aFrom P tk pl y l S K:=hs
   cases hf:findLabel x l with
   | some r =>
    rw [if_pos (by rw [hf];rfl)] at hs';obtain⟨rest,hr,hw⟩:=ihx.2 l κ w a S _ hb.1 h hs';rw [hf] at hr;refine⟨.seq rest y,by simp only [findLabel,hf,hr],?_⟩;refine wp_seq (wp_mono hw fun e a' w' hp=>?_);obtain⟨κ',S',h1,h2,h3,h4,h5⟩:=hp;cases e with
    | normal=>exact wp_mono (ihy.1 κ' w' a' S' K (by rw [h4];exact hb.2) h2 h1) fun e a'' w'' hx=>Next.trans h3 h4 h5 hx
    | _=>exact⟨κ',S',h1,h2,h3,h4,h5⟩
   | none =>
    rw [if_neg (by rw [hf];simp)] at hs';obtain⟨rest,hr,hw⟩:=ihy.2 l κ w a S _ hb.2 h hs';exact⟨rest,by simp only [findLabel,hf,hr],hw⟩
  intro κ w a S K hb h hs;simp only [codeB,Bool.and_eq_true] at hb;refine wp_seq (wp_mono (ihx.1 κ w a S _ hb.1 h hs) fun e a' w' hp=>?_);obtain⟨κ',S',h1,h2,h3,h4,h5⟩:=hp;cases e with
  | normal=>exact wp_mono (ihy.1 κ' w' a' S' K (by rw [h4];exact hb.2) h2 h1) fun e a'' w'' hx=>Next.trans h3 h4 h5 hx
  | _=>exact⟨κ',S',h1,h2,h3,h4,h5⟩
 | cond c x y ihx ihy =>
  refine⟨?_,fun l κ w a S K _ _ hs=>hs.elim⟩;intro κ w a S K hb h hs;simp only [codeB,Bool.and_eq_true] at hb;simp only [aCode] at hs;split at hs
  ·rename_i t ht;have hc:=ev_rep h.tmp c;rw [ht] at hc;exact wp_cond_split (rep_raw hc) (fun e=>ihx.1 κ w a S K hb.1 h (hs.1 e)) (fun e=>ihy.1 κ w a S K hb.2 h (hs.2 e))
  ·exact hs.elim
 | block id c ih =>
  refine⟨?_,fun l κ w a S K _ _ hs=>hs.elim⟩;intro κ w a S K hb h hs;refine wp_block (wp_mono (ih.1 κ w a S _ hb h hs) fun e a' w' hp=>?_);obtain⟨κ',S',h1,h2,h3,h4,h5⟩:=hp;cases e with
  | exit id' =>
   simp only [Exit.inBlock];by_cases e:id'=id
   ·rw [if_pos e];simp only [e,if_true] at h1;exact⟨κ',S',h1,h2,h3,h4,h5⟩
   ·rw [if_neg e];simp only [if_neg e] at h1;exact⟨κ',S',h1,h2,h3,h4,h5⟩
  | _=>exact⟨κ',S',h1,h2,h3,h4,h5⟩
 | loop c ih =>
  refine⟨?_,fun l κ w a S K _ _ hs=>hs.elim⟩;intro κ w a S K hb h hs;obtain⟨n,hn⟩:=hs;refine wp_loop_rounds n ?_;have key:∀ n κ' w' a' S',a'.tmps.size=a.tmps.size->a'.defers=a.defers->Keep κ w κ' w'->Holds P κ' S'.T (tv a') S'.M w'->aRounds (aCode P tk pl c) n S' K->Code.rounds P c (Post P κ w a K) n a' w':=by
   intro n
   induction n with
   | zero=>exact fun _ _ _ _ _ _ _ _ h=>h.elim
   | succ n ihn =>
    intro κ' w' a' S' h1 h2 h3 h4 h5;rw [rounds_succ];refine wp_mono (ih.1 κ' w' a' S' _ (by rw [h1];exact hb) h4 h5) fun e a'' w'' hp=>?_
    obtain⟨κ2,S2,g1,g2,g3,g4,g5⟩:=hp;cases e with
    | normal=>exact ihn κ2 w'' a'' S2 (g4.trans h1) (g5.trans h2) (h3.trans g3) g2 g1
    | _=>exact⟨κ2,S2,g1,g2,h3.trans g3,g4.trans h1,g5.trans h2⟩
  exact key n κ w a S rfl rfl (Keep.refl κ w) h hn
 | exit id=>exact⟨fun κ w a S K _ h hs=>wp_exit ⟨κ,S,hs,h,Keep.refl κ w,rfl,rfl⟩,fun l κ w a S K _ _ hs=>hs.elim⟩
 | ret=>exact⟨fun κ w a S K _ h hs=>wp_ret ⟨κ,S,hs,h,Keep.refl κ w,rfl,rfl⟩,fun l κ w a S K _ _ hs=>hs.elim⟩
 | label l' =>
  refine⟨fun κ w a S K _ h hs=>wp_label ⟨κ,S,hs,h,Keep.refl κ w,rfl,rfl⟩,fun l κ w a S K _ h hs=>?_⟩;have hs':if l' == l then K .normal S else False:=hs
  split at hs'
  ·rename_i e;exact⟨.skip,by simp only [findLabel,e,if_true],Go.wp_skip ⟨κ,S,hs',h,Keep.refl κ w,rfl,rfl⟩⟩
  ·exact hs'.elim
 | goto l=>exact⟨fun κ w a S K _ h hs=>wp_goto ⟨κ,S,hs,h,Keep.refl κ w,rfl,rfl⟩,fun l κ w a S K _ _ hs=>hs.elim⟩
 | rangeFunc f ps x y _ _=>exact⟨fun κ w a S K _ h hs=>hs.elim,fun l κ w a S K _ _ hs=>hs.elim⟩
 | scope c ih =>
  refine⟨?_,fun l κ w a S K _ _ hs=>hs.elim⟩;intro κ w a S K hb h hs;obtain⟨l,hsome,N,hs⟩ : ∃ l,(findLabel c l).isSome=true/\∃ n,aCode P tk pl c S (fun e S'=>match e with | .goto l'=>l'=l/\aPasses l (aFrom P tk pl c l) n S' K|e=>K e S'):=hs;obtain⟨rest,hf⟩:=Option.isSome_iff_exists.1 hsome;obtain⟨Jm,hJm⟩ : ∃ Jm:Act->World->Nat->Prop,Jm=fun a' w' m=>∃ κ' S',aPasses l (aFrom P tk pl c l) m S' K/\Holds P κ' S'.T (tv a') S'.M w'/\Keep κ w κ' w'/\a'.tmps.size=a.tmps.size/\a'.defers=a.defers:=⟨_,rfl⟩
  refine wp_scope_jumps l (fun a' w'=>∃ m,Jm a' w' m) (fun a' w'=>least (Jm a' w')) hf ?_ ?_
  ·refine wp_mono (ih.1 κ w a S _ hb h hs) fun e a' w' hp=>?_
   obtain⟨κ',S',h1,h2,h3,h4,h5⟩:=hp;cases e with
   | goto l'=>exact⟨h1.1,N,by rw [hJm];exact⟨κ',S',h1.2,h2,h3,h4,h5⟩⟩
   | _=>exact⟨κ',S',h1,h2,h3,h4,h5⟩
  ·rintro a1 w1 hJ;have hsp:=(least_spec hJ).1;generalize least (Jm a1 w1)=m at hsp ⊢;rw [hJm] at hsp;obtain⟨κ',S',h1,h2,h3,h4,h5⟩:=hsp;cases m with
   | zero=>exact h1.elim
   | succ m =>
    obtain⟨rest',hr,hw⟩:=ih.2 l κ' w1 a1 S' _ (by rw [h4];exact hb) h2 h1;rw [hf] at hr;cases hr;refine wp_mono hw fun e a'' w'' hx=>?_
    obtain⟨κ2,S2,g1,g2,g3,g4,g5⟩:=hx;cases e with
    | goto l' =>
     have hJ2:Jm a'' w'' m:=by rw [hJm];exact⟨κ2,S2,g1.2,g2,h3.trans g3,g4.trans h4,g5.trans h5⟩
     exact⟨g1.1,⟨m,hJ2⟩,Nat.lt_succ_of_le ((least_spec ⟨m,hJ2⟩).2 m hJ2)⟩
    | _=>exact⟨κ2,S2,g1,g2,h3.trans g3,g4.trans h4,g5.trans h5⟩
 | refuse why=>exact⟨fun κ w a S K _ h hs=>hs.elim,fun l κ w a S K _ _ hs=>hs.elim⟩
theorem aCode_sound (hm:P.follows .mixedOrders=true){tk:Nat->Nat->Option Nat}{pl:Nat->List PStep}(c:Code)(κ:Ghost)(w:World)(a:Act)(S:St)(K:Exit->St->Prop)(hb:codeB P a.tmps.size tk pl c=true)(h:Holds P κ S.T (tv a) S.M w)(hs:aCode P tk pl c S K):c.wp P (Post P κ w a K) a w :=
 (aBoth_sound hm c).1 κ w a S K hb h hs
end
end Go.Am
namespace Go.Am
def aRes1 (P:Program)(S:St):ResultVar->Option AVal
 | .tmp t=>some (S.T t)
 | .cell a t=>(match S.T a with
  | .raw (.pointer (some ⟨b,o,none⟩))=>(match S.M b with|some (.cells l)=>(loadP P t l o).map AVal.shut | _=>none)
  | _=>none)
def aResults (P:Program)(S:St):List ResultVar->Option AVal
 | [x]=>aRes1 P S x
 | xs=>(xs.mapM (aRes1 P S)).map .tup
def aRet (P:Program)(fn:Func)(Post:AVal->Mem->Prop)(e:Exit)(S:St):Prop :=
 match e with
 | .normal | .ret=>(match aResults P S fn.results.toList with|some r=>Post r S.M|none=>False)
 | _=>False
section
variable {P:Program}{κ:Ghost}{w:World}
def retTag (κ:Ghost)(t:Option Nat):Ghost:=fun b o=>match κ b o with
 | .slot t'=>if t=some t' then .slot 0 else .free
 | x=>x
theorem Holds.ret {T:Nat->AVal}{V:Nat->Value}{M:Mem}(h:Holds P κ T V M w){r:AVal}{v:Value}(hr:Rep P κ w r v)(t:Option Nat)(ho:(∃ s,t=some s/\r=T s/\v=V s)\/r.free) :
 Holds P (retTag κ t) (argT [r]) (fun x=>if x=0 then v else undef) M w/\Keep κ w (retTag κ t) w:=by
 have himm:∀ b o,κ b o = .imm->retTag κ t b o = .imm:=fun b o e=>by unfold retTag;rw [e]
 have hframe:∀ b o,κ b o = .frame->retTag κ t b o = .frame:=fun b o e=>by unfold retTag;rw [e]
 have hk:Keep κ w (retTag κ t) w:=Keep.tags himm hframe;have h0:∀ x,x≠0->argT [r] x = .undef:=fun x hx=>by
  unfold argT;rw [List.getD_eq_getElem?_getD,List.getElem?_eq_none (by simp;omega)];rfl
 refine⟨⟨fun x=>?_,fun b o hb=>(h.obj b o hb).tags himm (fun b' o' j e=>by unfold retTag;rw [e]),fun b o hb=>(h.tag b o fun e=>hb (by unfold retTag;rw [e])).imp id fun h=>h.to (himm b o),fun x b o hsp=>?_,fun b o x hb=>?_,fun b o c j hb=>?_⟩,hk⟩
 ·by_cases hx:x=0
  ·subst hx;exact hk.rep hr
  ·rw [h0 x hx];exact .undef _
 ·by_cases hx:x=0
  ·subst hx;rcases ho with ⟨s,h1,h2,h3⟩|hf
   ·have hsp':Spare P w (T s) (V s) b o:=by rw [← h2,← h3];exact hsp
    have:=h.sp s b o hsp';unfold retTag;rw [this,h1];simp
   ·exact absurd hsp (Spare.not_free hf)
  ·rw [h0 x hx] at hsp;exact absurd hsp (Spare.not_free (by simp [AVal.free]))
 ·unfold retTag at hb;split at hb
  ·rename_i t' e;exact h.wr b o t' e
  ·exact h.wr b o x hb
 ·unfold retTag at hb;split at hb
  ·split at hb<;>cases hb
  ·exact h.mwr b o c j hb
def retAll (κ:Ghost):Ghost:=fun b o=>match κ b o with
 | .slot _=>.slot 0
 | x=>x
theorem Holds.retAll {T:Nat->AVal}{V:Nat->Value}{M:Mem}(h:Holds P κ T V M w){r:AVal}{v:Value}(hr:Rep P κ w r v)(ho:∀ b o,Spare P w r v b o->∃ s,κ b o = .slot s) :
 Holds P (retAll κ) (argT [r]) (fun x=>if x=0 then v else undef) M w/\Keep κ w (Am.retAll κ) w:=by
 have himm:∀ b o,κ b o = .imm->Am.retAll κ b o = .imm:=fun b o e=>by unfold Am.retAll;rw [e]
 have hframe:∀ b o,κ b o = .frame->Am.retAll κ b o = .frame:=fun b o e=>by unfold Am.retAll;rw [e]
 have hk:Keep κ w (Am.retAll κ) w:=Keep.tags himm hframe;have h0:∀ x,x≠0->argT [r] x = .undef:=fun x hx=>by
  unfold argT;rw [List.getD_eq_getElem?_getD,List.getElem?_eq_none (by simp;omega)];rfl
 refine⟨⟨fun x=>?_,fun b o hb=>(h.obj b o hb).tags himm (fun b' o' j e=>by unfold Am.retAll;rw [e]),fun b o hb=>(h.tag b o fun e=>hb (by unfold Am.retAll;rw [e])).imp id fun h=>h.to (himm b o),fun x b o hsp=>?_,fun b o x hb=>?_,fun b o c j hb=>?_⟩,hk⟩
 ·by_cases hx:x=0
  ·subst hx;exact hk.rep hr
  ·rw [h0 x hx];exact .undef _
 ·by_cases hx:x=0
  ·subst hx;obtain⟨s,hs⟩:=ho b o hsp;unfold Am.retAll;rw [hs]
  ·rw [h0 x hx] at hsp;exact absurd hsp (Spare.not_free (by simp [AVal.free]))
 ·unfold Am.retAll at hb;split at hb
  ·rename_i t' e;exact h.wr b o t' e
  ·exact h.wr b o x hb
 ·unfold Am.retAll at hb;split at hb
  ·cases hb
  ·exact h.mwr b o c j hb
theorem aRes1_sound {a:Act}{S:St}(h:Holds P κ S.T (tv a) S.M w){x:ResultVar}{X:AVal}(hx:aRes1 P S x=some X) :
 ∃ v,(match x with | .tmp t=>pure (a.tmps.getD t undef) | .cell a' t=>(do loadVar t (← asAddr (a.tmps.getD a' undef))):Sem Value).run P w = .ok v w/\Rep P κ w X v/\((∃ t,x = .tmp t/\X=S.T t/\v=tv a t)\/X.free):=by
 cases x with
 | tmp t =>
  simp only [aRes1,Option.some.injEq] at hx;subst hx;exact⟨tv a t,rfl,h.tmp t,.inl ⟨t,rfl,rfl,rfl⟩⟩
 | cell a' t =>
  simp only [aRes1] at hx;split at hx
  ·rename_i b o hp;have hp':=h.tmp a';rw [hp] at hp';split at hx
   ·rename_i l hb;simp only [Option.map_eq_some_iff] at hx;obtain⟨Y,hY,rfl⟩:=hx;obtain⟨u,h1,h2⟩:=run_loadAt_ptr h.obj hb hY;refine⟨u,?_,h2.shut,.inr (AVal.shut_free _)⟩;show ((asAddr (a.tmps.getD a' undef)) >>= fun q=>loadVar t q).run P w=_
    have:a.tmps.getD a' undef = .pointer (some ⟨b,o,none⟩):=rep_raw hp';rw [this,run_bind_pr (x:=⟨b,o,none⟩) rfl];exact h1
   ·cases hx
  ·cases hx
theorem aResults_sound {a:Act}{S:St}{fn:Func}(h:Holds P κ S.T (tv a) S.M w){r:AVal}(hr:aResults P S fn.results.toList=some r) :
 ∃ v κ',(results fn a.tmps).run P w = .ok v w/\Holds P κ' (argT [r]) (fun x=>if x=0 then v else undef) S.M w/\Keep κ w κ' w:=by
 let g:ResultVar->Sem Value:=fun x=>match x with | .tmp t=>pure (a.tmps.getD t undef) | .cell a' t=>(do loadVar t (← asAddr (a.tmps.getD a' undef)))
 have hres:∀ vs:List Value,(fn.results.toList.mapM g).run P w = .ok vs w->(results fn a.tmps).run P w = .ok (if h:vs.toArray.size=1 then vs.toArray[0] else .tuple vs.toArray) w:=fun vs hv=>by
  unfold results;have e:(fn.results.mapM g)=(fn.results.toList.mapM g) >>= fun l=>pure l.toArray:=by
   rw [Array.mapM_eq_mapM_toList];rfl
  show ((fn.results.mapM g) >>= fun vs=>(pure (if h:vs.size=1 then vs[0] else .tuple vs):Sem Value)).run P w=_
  rw [e,Sem.run_bind,Sem.run_bind,hv];rfl
 have hmap:∀ (xs:List ResultVar) (Xs:List AVal),xs.mapM (aRes1 P S)=some Xs->∃ vs:List Value,(xs.mapM g).run P w = .ok vs w/\Xs.length=vs.length/\∀ (i:Nat) X v,Xs[i]? = some X->vs[i]? = some v->Rep P κ w X v/\((∃ t,X=S.T t/\v=tv a t)\/X.free):=by
  intro xs
  induction xs with
  | nil =>
   intro Xs hx;simp at hx;subst hx;exact⟨[],rfl,rfl,fun i X v e=>by simp at e⟩
  | cons x xs ih =>
   intro Xs hx;rw [List.mapM_cons] at hx;cases h1:aRes1 P S x with
   | none=>rw [h1] at hx;cases hx
   | some X =>
    rw [h1] at hx;simp only [Option.bind_eq_bind,Option.bind_some] at hx;cases h2:xs.mapM (aRes1 P S) with
    | none=>rw [h2] at hx;cases hx
    | some Ys =>
     rw [h2] at hx;obtain rfl:=Option.some.inj hx;obtain⟨vs,h3,h4,h5⟩:=ih Ys h2;obtain⟨v,h6,h7,h8⟩:=aRes1_sound h h1;refine⟨v::vs,?_,by simp [h4],fun i Z z e1 e2=>?_⟩
     ·rw [List.mapM_cons,Sem.run_bind];have:(g x).run P w = .ok v w:=h6;rw [this,Result.andThen_ok,Sem.run_bind,h3];rfl
     ·cases i with
      | zero=>simp at e1 e2;subst e1;subst e2;exact⟨h7,h8.imp (fun ⟨t,_,e1,e2⟩=>⟨t,e1,e2⟩) id⟩
      | succ i=>exact h5 i Z z (by simpa using e1) (by simpa using e2)
 unfold aResults at hr;split at hr
 ·rename_i x hx;obtain⟨v,h1,h2,h3⟩:=aRes1_sound h hr;have hv:=hres [v] (by
   rw [hx,List.mapM_cons,Sem.run_bind];have:(g x).run P w = .ok v w:=h1;rw [this];rfl)
  have hv':(results fn a.tmps).run P w = .ok v w:=by rw [hv];rfl
  rcases h3 with ⟨t,h4,h5,h6⟩|h3
  ·obtain⟨h7,h8⟩:=h.ret h2 (some t) (.inl ⟨t,rfl,h5,h6⟩);exact⟨v,_,hv',h7,h8⟩
  ·obtain⟨h7,h8⟩:=h.ret h2 none (.inr h3);exact⟨v,_,hv',h7,h8⟩
 ·rename_i hne;simp only [Option.map_eq_some_iff] at hr;obtain⟨Xs,h1,rfl⟩:=hr;obtain⟨vs,h2,h3,h4⟩:=hmap _ _ h1;have hlen:vs.length≠1:=fun e=>by
   have h5:fn.results.toList.length=1:=by
    have:∀ (xs:List ResultVar) Xs,xs.mapM (aRes1 P S)=some Xs->Xs.length=xs.length:=by
     intro xs
     induction xs with
     | nil=>intro Xs hx;simp at hx;subst hx;rfl
     | cons x xs ih =>
      intro Xs hx;rw [List.mapM_cons] at hx;cases h1:aRes1 P S x with
      | none=>rw [h1] at hx;cases hx
      | some X =>
       rw [h1] at hx;simp only [Option.bind_eq_bind,Option.bind_some] at hx;cases h2:xs.mapM (aRes1 P S) with
       | none=>rw [h2] at hx;cases hx
       | some Ys=>rw [h2] at hx;obtain rfl:=Option.some.inj hx;simp [ih Ys h2]
    rw [← this _ _ h1,h3,e]
   obtain⟨x,hx⟩:=List.length_eq_one_iff.1 h5;exact hne x hx
  have hv:=hres vs h2;have hv':(results fn a.tmps).run P w = .ok (.tuple vs.toArray) w:=by rw [hv,dif_neg (by simpa using hlen)]
  obtain⟨h7,h8⟩:=h.retAll (r:=.tup Xs) (v:=.tuple vs.toArray) (.tup Xs vs.toArray (by simpa using h3) fun i c v e1 e2=>(h4 i c v e1 (by simpa using e2)).1) (fun b o hsp=>by
   rcases hsp with ⟨_,_,_,e,-⟩|⟨Vs,us,i,X,x,e1,e2,e3,e4,e5⟩
   ·cases e
   ·cases e1;cases e2;rcases (h4 i X x e3 (by simpa using e4)).2 with ⟨t,e6,e7⟩|hf
    ·exact⟨t,h.sp t b o (.inl (by rw [← e6,← e7];exact e5))⟩
    ·exfalso;obtain⟨l,off,cap,e6,-⟩:=e5;subst e6;exact hf)
  exact⟨_,_,hv',h7,h8⟩
theorem SoundCall.of_code {f:FuncId}{fn:Func}{c:Code}{args:List AVal}{M:Mem}{Post:AVal->Mem->Prop}(tk:Nat->Nat->Option Nat)(pl:Nat->List PStep)(hm:P.follows .mixedOrders=true)(hf:P.funcs[f]? = some fn)(hb:fn.body=some c)(hB:codeB P fn.ntmps tk pl c=true)(hlen:args.length<=fn.ntmps)
 (hc:aCode P tk pl c ⟨argT args,M⟩ (aRet P fn Post)):SoundCall P f args M Post:=by
 intro κ w vs hsz h;refine calls_of_wp hf hb ?_;have htv:tv { tmps:=vs++Array.replicate (fn.ntmps - vs.size) undef,defers:=[] }=fun t=>vs.getD t undef:=by
  funext t;show (vs++Array.replicate (fn.ntmps - vs.size) undef).getD t undef=_
  simp only [Array.getD_eq_getD_getElem?];by_cases ht:t<vs.size
  ·rw [Array.getElem?_append_left ht]
  ·rw [Array.getElem?_append_right (by omega),Array.getElem?_eq_none (by omega:vs.size<=t)];cases hx:(Array.replicate (fn.ntmps - vs.size) undef)[t - vs.size]? with
   | none=>rfl
   | some v =>
    have:=Array.mem_of_getElem? hx;rw [Array.mem_replicate] at this;simp [this.2]
 have hsize:({ tmps:=vs++Array.replicate (fn.ntmps - vs.size) undef,defers:=[] }:Act).tmps.size=fn.ntmps:=by
  show (vs++Array.replicate (fn.ntmps - vs.size) undef).size=_
  simp;omega
 refine wp_mono (aCode_sound hm c κ w _ ⟨argT args,M⟩ _ (by rw [hsize];exact hB) (by rw [htv];exact h) hc) fun e a' w' hp=>?_
 obtain⟨κ',S',h1,h2,h3,h4,h5⟩:=hp;have fin:(match aResults P S' fn.results.toList with|some r=>Post r S'.M|none=>False)->a'.defers=[]/\∃ v,(results fn a'.tmps).run P w' = .ok v w' ∧
  ∃ v' κ' r M',Ending.returned v = .returned v'/\Post r M'/\Holds P κ' (argT [r]) (fun t=>if t=0 then v' else undef) M' w'/\Keep κ w κ' w':=fun hm=>by
  split at hm
  ·rename_i r hr;obtain⟨v,κ2,g1,g2,g3⟩:=aResults_sound h2 hr;exact⟨h5,v,g1,v,κ2,r,S'.M,rfl,hm,g2,h3.trans g3⟩
  ·exact hm.elim
 cases e with
 | normal=>exact fin h1
 | ret=>exact fin h1
 | _=>exact h1.elim
end
end Go.Am
set_option linter.unusedVariables false
namespace Go.Am
set_option linter.unusedSimpArgs false
inductive It where
 | code (c:Code)
 | blk (id:Nat)
 | inv (J:St->Prop)
 | scp (l:Nat) (c:Code)
 | scj (l:Nat) (J:St->Prop)
 | nog
section
variable (P:Program)(tk:Nat->Nat->Option Nat)(pl:Nat->List PStep)
def unw:List It->(Exit->St->Prop)->Exit->St->Prop
 | [],R,e,S=>R e S
 | .code c::k,R,.normal,S=>aCode P tk pl c S (unw k R)
 | .code _::k,R,e,S=>unw k R e S
 | .blk id::k,R,.exit id',S=>if id'=id then unw k R .normal S else unw k R (.exit id') S
 | .blk _::k,R,e,S=>unw k R e S
 | .inv J::_,_,.normal,S=>J S
 | .inv _::k,R,e,S=>unw k R e S
 | .scp l c::k,R,.goto l',S=>l'=l/\aFrom P tk pl c l S (noG (unw k R))
 | .scp _ _::k,R,e,S=>unw k R e S
 | .scj l J::_,_,.goto l',S=>l'=l/\J S
 | .scj _ _::k,R,e,S=>unw k R e S
 | .nog::_,_,.goto _,_=>False
 | .nog::k,R,e,S=>unw k R e S
variable {P tk pl}{k:List It}{R:Exit->St->Prop}{S:St}
theorem unw_nil {e:Exit}:unw P tk pl [] R e S=R e S:=by cases e<;>rfl
theorem unw_seq {x y:Code}:unw P tk pl (.code (.seq x y)::k) R .normal S=unw P tk pl (.code x :: .code y::k) R .normal S:=by
 show aCode P tk pl (.seq x y) S (unw P tk pl k R)=aCode P tk pl x S (unw P tk pl (.code y::k) R)
 show aCode P tk pl x S _=aCode P tk pl x S _
 congr 1;funext e S';cases e<;>rfl
theorem unw_block {id:Nat}{c:Code}:unw P tk pl (.code (.block id c)::k) R .normal S=unw P tk pl (.code c :: .blk id::k) R .normal S:=by
 show aCode P tk pl (.block id c) S (unw P tk pl k R)=aCode P tk pl c S (unw P tk pl (.blk id::k) R)
 show aCode P tk pl c S _=aCode P tk pl c S _
 congr 1;funext e S';cases e<;>rfl
theorem aFrom_left {x y:Code}{l:Nat}(hl:(findLabel x l).isSome=true)(h:aFrom P tk pl x l S (unw P tk pl (.code y::k) R)):aFrom P tk pl (.seq x y) l S (unw P tk pl k R):=by
 show if (findLabel x l).isSome then aFrom P tk pl x l S (fun e S'=>match e with | .normal=>aCode P tk pl y S' (unw P tk pl k R)|e=>unw P tk pl k R e S') else _
 rw [if_pos hl];have e:(unw P tk pl (.code y::k) R)=(fun e S'=>match e with | .normal=>aCode P tk pl y S' (unw P tk pl k R)|e=>unw P tk pl k R e S'):=by
  funext e S';cases e<;>rfl
 rw [e] at h;exact h
theorem aFrom_right {x y:Code}{l:Nat}(hl:(findLabel x l).isSome=false)(h:aFrom P tk pl y l S (unw P tk pl k R)):aFrom P tk pl (.seq x y) l S (unw P tk pl k R):=by
 show if (findLabel x l).isSome then _ else aFrom P tk pl y l S _
 rw [if_neg (by rw [hl];exact Bool.false_ne_true)];exact h
theorem aFrom_here {l:Nat}(h:unw P tk pl k R .normal S):aFrom P tk pl (.label l) l S (unw P tk pl k R):=by
 show if l == l then unw P tk pl k R .normal S else False
 rw [if_pos (by simp)];exact h
theorem unw_cond {c:Operand}{x y:Code}{t:Bool}(h:ev S.T c = .raw (.bool t)):unw P tk pl (.code (.cond c x y)::k) R .normal S=((t=true->unw P tk pl (.code x::k) R .normal S)/\(t=false->unw P tk pl (.code y::k) R .normal S)):=by
 show (match ev S.T c with | .raw (.bool t)=>_ | _=>False)=_
 rw [h];rfl
theorem unw_blk_exit {id id':Nat}:unw P tk pl (.blk id::k) R (.exit id') S=if id'=id then unw P tk pl k R .normal S else unw P tk pl k R (.exit id') S:=rfl
theorem aBoth_mono:∀ (c:Code),(∀ (S:St) {K K':Exit->St->Prop},(∀ e S,K e S->K' e S)->aCode P tk pl c S K->aCode P tk pl c S K')/\(∀ (l:Nat) (S:St) {K K':Exit->St->Prop},(∀ e S,K e S->K' e S)->aFrom P tk pl c l S K->aFrom P tk pl c l S K'):=by
 have hops:∀ (tk:Nat->Option Nat) (ops:Array Oper) {K K':St->Prop},(∀ S,K S->K' S)->∀ (rest:List Oper) (i:Nat) (S:St),aOps P tk ops K i rest S->aOps P tk ops K' i rest S:=by
  intro tk ops K K' hK rest
  induction rest with
  | nil=>exact fun i S h=>hK S h
  | cons o rest ih=>exact fun i S h=>aGuard_mono (fun hy=>dstep_mono (fun S' he=>ih _ _ he) hy) (fun hn=>ih _ _ hn) h
 have hseg:∀ (tk:Nat->Option Nat) (ops:Array Oper) {K K':St->Prop},(∀ S,K S->K' S)->∀ (n i:Nat) (l:List Oper) (S:St),aSeg P tk ops K n i l S->aSeg P tk ops K' n i l S:=by
  intro tk ops K K' hK n
  induction n with
  | zero=>exact fun i l S h=>hops tk ops hK l i S h
  | succ n ih =>
   intro i l S h;obtain⟨pre,o,o',rest,s,off,e,h⟩:=h;exact⟨pre,o,o',rest,s,off,e,hops tk ops (fun S' h'=>aFuse_mono (fun S'' h''=>ih _ _ _ h'') h') _ _ _ h⟩
 have hany:∀ (tk:Nat->Option Nat) (ops:Array Oper) {K K':St->Prop},(∀ S,K S->K' S)->∀ (H:List (Nat×Nat)) (fuel:Nat) (l:Array Bool) (S:St),aAny P tk ops K H fuel l S->aAny P tk ops K' H fuel l S:=by
  intro tk ops K K' hK H fuel
  induction fuel with
  | zero=>exact fun l S h=>⟨h.1,hK _ h.2⟩
  | succ n ih=>exact fun l S h=>⟨fun h0=>hK _ (h.1 h0),fun i hi=>aOp_mono (fun S' hx=>⟨hx.1,ih _ _ hx.2⟩) (h.2 i hi)⟩
 have hdraw:∀ (tk:Nat->Option Nat) (ops:Array Oper) {K K':St->Prop},(∀ S,K S->K' S)->∀ (plan:List PStep) (H:List (Nat×Nat)) (S:St),aDraw P tk ops K plan H S->aDraw P tk ops K' plan H S:=by
  intro tk ops K K' hK plan
  induction plan with
  | nil=>exact fun H S h=>hK S h
  | cons p plan ih =>
   intro H S h;cases p with
   | q i =>
    simp only [aDraw] at h ⊢;split at h
    ·refine aGuard_mono (fun hy=>?_) (fun hn=>ih _ _ hn) h;split at hy
     ·exact ih _ _ hy
     ·exact hy
    ·exact h
   | c i =>
    simp only [aDraw] at h ⊢;split at h
    ·exact aGuard_mono (fun ⟨q,B,h1,h2⟩=>⟨q,B,h1,ih _ _ h2⟩) (fun hn=>ih _ _ hn) h
    ·exact h
   | s i ks=>exact aOp_mono (fun S' hS=>⟨hS.1,ih _ _ hS.2⟩) h
   | a un=>exact hany tk ops hK _ _ _ _ h
 intro c
 induction c with
 | skip=>exact⟨fun S K K' hK h=>hK _ _ h,fun l S K K' hK h=>h.elim⟩
 | region id ops draw =>
  refine⟨?_,fun l S K K' hK h=>h.elim⟩;intro S K K' hK h;cases draw with
  | true =>
   have h':aDr P (tk id) ops (K .normal) (pl id) S:=h;show aDr P (tk id) ops (K' .normal) (pl id) S
   cases hp:pl id with
   | nil =>
    rw [hp] at h';exact hany _ _ (fun S h=>hK _ S h) _ _ _ _ h'
   | cons p l =>
    rw [hp] at h';exact hdraw _ _ (fun S h=>hK _ S h) _ _ _ h'
  | false =>
   obtain⟨n,h⟩:=h;exact⟨n,hseg _ _ (fun S h=>hK _ S h) _ _ _ _ h⟩
 | seq x y ihx ihy =>
  refine⟨?_,fun l S K K' hK h=>?_⟩
  rotate_left
  ·have h':if (findLabel x l).isSome then aFrom P tk pl x l S (fun e S'=>match e with | .normal=>aCode P tk pl y S' K|e=>K e S') else aFrom P tk pl y l S K:=h
   show if (findLabel x l).isSome then aFrom P tk pl x l S (fun e S'=>match e with | .normal=>aCode P tk pl y S' K'|e=>K' e S') else aFrom P tk pl y l S K'
   split at h'
   ·rename_i e;rw [if_pos e];refine ihx.2 l S (fun e S' h'=>?_) h';cases e with
    | normal=>exact ihy.1 S' hK h'
    | _=>exact hK _ _ h'
   ·rename_i e;rw [if_neg e];exact ihy.2 l S hK h'
  intro S K K' hK h;refine ihx.1 S (fun e S' h'=>?_) h;cases e with
  | normal=>exact ihy.1 S' hK h'
  | _=>exact hK _ _ h'
 | cond c x y ihx ihy =>
  refine⟨?_,fun l S K K' hK h=>h.elim⟩;intro S K K' hK h;simp only [aCode] at h ⊢;split at h
  ·exact⟨fun e=>ihx.1 S hK (h.1 e),fun e=>ihy.1 S hK (h.2 e)⟩
  ·exact h
 | block id c ih =>
  refine⟨?_,fun l S K K' hK h=>h.elim⟩;intro S K K' hK h;refine ih.1 S (fun e S' h'=>?_) h;cases e with
  | exit id' =>
   simp only at h' ⊢;split at h'
   ·rename_i e;rw [if_pos e];exact hK _ _ h'
   ·rename_i e;rw [if_neg e];exact hK _ _ h'
  | _=>exact hK _ _ h'
 | loop c ih =>
  refine⟨?_,fun l S K K' hK h=>h.elim⟩;rintro S K K' hK ⟨n,h⟩;refine⟨n,?_⟩
  induction n generalizing S with
  | zero=>exact h
  | succ n ihn =>
   refine ih.1 S (fun e S' h'=>?_) h;cases e with
   | normal=>exact ihn S' h'
   | _=>exact hK _ _ h'
 | exit id=>exact⟨fun S K K' hK h=>hK _ _ h,fun l S K K' hK h=>h.elim⟩
 | ret=>exact⟨fun S K K' hK h=>hK _ _ h,fun l S K K' hK h=>h.elim⟩
 | label l' =>
  refine⟨fun S K K' hK h=>hK _ _ h,fun l S K K' hK h=>?_⟩;have h':if l' == l then K .normal S else False:=h
  show if l' == l then K' .normal S else False
  split at h'
  ·rename_i e;rw [if_pos e];exact hK _ _ h'
  ·exact h'.elim
 | goto l=>exact⟨fun S K K' hK h=>hK _ _ h,fun l S K K' hK h=>h.elim⟩
 | rangeFunc f ps x y _ _=>exact⟨fun S K K' hK h=>h,fun l S K K' hK h=>h.elim⟩
 | scope c ih =>
  refine⟨?_,fun l S K K' hK h=>h.elim⟩;rintro S K K' hK ⟨l,hs,n,h⟩;have hp:∀ n S,aPasses l (aFrom P tk pl c l) n S K->aPasses l (aFrom P tk pl c l) n S K':=by
   intro n
   induction n with
   | zero=>exact fun _ h=>h
   | succ n ihn =>
    intro S h;refine ih.2 l S (fun e S'' h''=>?_) h;cases e with
    | goto _=>exact⟨h''.1,ihn _ h''.2⟩
    | _=>exact hK _ _ h''
  refine⟨l,hs,n,ih.1 S (fun e S' h'=>?_) h⟩;cases e with
  | goto l'=>exact⟨h'.1,hp n S' h'.2⟩
  | _=>exact hK _ _ h'
 | refuse why=>exact⟨fun S K K' hK h=>h,fun l S K K' hK h=>h.elim⟩
theorem aCode_mono (c:Code)(S:St){K K':Exit->St->Prop}(hK:∀ e S,K e S->K' e S)(h:aCode P tk pl c S K):aCode P tk pl c S K':=(aBoth_mono c).1 S hK h
theorem unw_loop {c:Code}(I:Nat->St->Prop)(m:Nat)(h0:I m S)(step:∀ m S',I m S'->unw P tk pl (.code c :: .inv (fun S''=>∃ m',m'<m/\I m' S'')::k) R .normal S'):unw P tk pl (.code (.loop c)::k) R .normal S:=by
 show ∃ n,aRounds (aCode P tk pl c) n S (unw P tk pl k R)
 refine⟨m+1,?_⟩;have key:∀ b m S,m<=b->I m S->aRounds (aCode P tk pl c) (b+1) S (unw P tk pl k R):=by
  intro b
  induction b with
  | zero =>
   intro m S hm hI;refine aCode_mono c S (fun e S' h'=>?_) (step m S hI);cases e with
   | normal=>obtain⟨m',h1,-⟩:=h';omega
   | _=>exact h'
  | succ b ih =>
   intro m S hm hI;refine aCode_mono c S (fun e S' h'=>?_) (step m S hI);cases e with
   | normal=>obtain⟨m',h1,h2⟩:=h';exact ih m' S' (by omega) h2
   | _=>exact h'
 exact key m m S (Nat.le_refl _) h0
theorem aFrom_mono (c:Code)(l:Nat)(S:St){K K':Exit->St->Prop}(hK:∀ e S,K e S->K' e S)(h:aFrom P tk pl c l S K):aFrom P tk pl c l S K':=(aBoth_mono c).2 l S hK h
theorem unw_scopej {c:Code}(l:Nat)(I:Nat->St->Prop)(N:Nat)(hl:(findLabel c l).isSome=true)(h1:unw P tk pl (.code c :: .scj l (fun S'=>∃ m,m<N/\I m S')::k) R .normal S)
 (step:∀ m S',I m S'->aFrom P tk pl c l S' (unw P tk pl (.scj l (fun S''=>∃ m',m'<m/\I m' S'')::k) R)):unw P tk pl (.code (.scope c)::k) R .normal S:=by
 have key:∀ n m S',m<n->I m S'->aPasses l (aFrom P tk pl c l) n S' (unw P tk pl k R):=by
  intro n
  induction n with
  | zero=>intro m S' hm;omega
  | succ n ih =>
   intro m S' hm hI;refine aFrom_mono c l S' (fun e S'' h=>?_) (step m S' hI);cases e with
   | goto l' =>
    obtain⟨h2,m',h3,h4⟩:=h;exact⟨h2,ih m' S'' (by omega) h4⟩
   | _=>exact h
 refine⟨l,hl,N,aCode_mono c S (fun e S' h=>?_) h1⟩;cases e with
 | goto l' =>
  obtain⟨h2,m,h3,h4⟩:=h;exact⟨h2,key N m S' h3 h4⟩
 | _=>exact h
theorem SoundCall.walk {f:FuncId}{fn:Func}{c:Code}{args:List AVal}{M:Mem}{Post:AVal->Mem->Prop}(tk:Nat->Nat->Option Nat)(pl:Nat->List PStep)(hm:P.follows .mixedOrders=true)(hf:P.funcs[f]? = some fn)(hb:fn.body=some c)(hB:codeB P fn.ntmps tk pl c=true)(hlen:args.length<=fn.ntmps)
 (hc:unw P tk pl [.code c] (aRet P fn Post) .normal ⟨argT args,M⟩):SoundCall P f args M Post:=by
 refine SoundCall.of_code tk pl hm hf hb hB hlen (aCode_mono c _ (fun e S h=>?_) hc);rw [unw_nil] at h;exact h
end
end Go.Am
set_option linter.unusedVariables false
namespace Go.Am
set_option linter.unusedSimpArgs false
section
variable {P:Program}{tkr:Nat->Option Nat}{ops:Array Oper}{K:St->Prop}{i:Nat}{rest:List Oper}{o:Oper}{d:Nat}{V X:AVal}{B:List Nat}{T:Nat->AVal}{M:Mem}{k:Option Nat}
theorem o_q (hq:qstep P k o T M=some (⟨none,V⟩,B))(hg:o.guard=none)(hd:o.dst=some d)(htk:tkr i=k)(h:aOps P tkr ops K (i+1) rest ⟨setT T d V,M⟩):aOps P tkr ops K i (o::rest) ⟨T,M⟩:=by
 show aGuard ops T o _ _
 unfold aGuard;rw [hg,htk];refine .inl <| (quiet_qstep hq).2 T M (fun _ _=>rfl) (fun _ _=>rfl) _ ?_
 simp only [hd];exact h
theorem o_qs {t:Nat}(hq:qstep P k o T M=some (⟨some t,V⟩,B))(hg:o.guard=none)(hd:o.dst=some d)(htk:tkr i=k)(hX:(T t).shut=X)(h:aOps P tkr ops K (i+1) rest ⟨setT (setT T t X) d V,M⟩):aOps P tkr ops K i (o::rest) ⟨T,M⟩:=by
 show aGuard ops T o _ _
 unfold aGuard;rw [hg,htk];refine .inl <| (quiet_qstep hq).2 T M (fun _ _=>rfl) (fun _ _=>rfl) _ ?_
 simp only [hd];subst hX;exact h
theorem o_x (hg:o.guard=none)(h:estep P (tkr i) o T M fun e=>aOps P tkr ops K (i+1) rest (e.apply ⟨T,M⟩ o.dst)):aOps P tkr ops K i (o::rest) ⟨T,M⟩:=by
 show aGuard ops T o _ _
 unfold aGuard;rw [hg];exact .inl h
theorem o_xs (hg:o.guard=none)(h:xstep P o T M fun M1 V=>aOps P tkr ops K (i+1) rest (Eff.apply ⟨none,M1,V⟩ ⟨T,M⟩ o.dst)):aOps P tkr ops K i (o::rest) ⟨T,M⟩:=by
 show aGuard ops T o _ _
 unfold aGuard;rw [hg];exact .inr h
theorem o_nil {S:St}(h:K S):aOps P tkr ops K i [] S:=h
theorem o_yes {j:Nat}{want t:Bool}{g:Nat}(hg:o.guard=some (j,want))(hj:(ops[j]?).bind (·.dst)=some g)(ht:T g = .raw (.bool t))(e:t=want)
 (yes:aOps P tkr ops K i ({ o with guard:=none }::rest) ⟨T,M⟩):aOps P tkr ops K i (o::rest) ⟨T,M⟩:=by
 show aGuard ops T o _ _
 unfold aGuard;rw [hg];simp only [hj,ht];refine⟨fun _=>yes,fun e'=>?_⟩;rw [e] at e';cases want<;>cases e'
theorem o_no {j:Nat}{want t:Bool}{g d':Nat}(hg:o.guard=some (j,want))(hj:(ops[j]?).bind (·.dst)=some g)(ht:T g = .raw (.bool t))(hd:o.dst=some d')(e:t = !want)
 (no:aOps P tkr ops K (i+1) rest ⟨setT T d' (.raw undef),M⟩):aOps P tkr ops K i (o::rest) ⟨T,M⟩:=by
 show aGuard ops T o _ _
 unfold aGuard;rw [hg];simp only [hj,ht];refine⟨fun e'=>?_,fun _=>?_⟩
 ·rw [e] at e';cases want<;>cases e'
 ·simp only [hd];exact no
variable {plan:List PStep}{H:List (Nat×Nat)}
theorem d_q (ho:ops[i]? = some o)(hq:qstep P k o T M=some (⟨none,V⟩,B))(hg:o.guard=none)(hd:o.dst=some d)(htk:tkr i=k)(h:aDraw P tkr ops K plan (B.map (fun b=>(i,b))++H) ⟨setT T d V,M⟩):aDraw P tkr ops K (.q i::plan) H ⟨T,M⟩:=by
 simp only [aDraw,ho,htk,aGuard,hg,hq];simp only [QEff.app,hd];exact h
theorem d_qs {t:Nat}(ho:ops[i]? = some o)(hq:qstep P k o T M=some (⟨some t,V⟩,B))(hg:o.guard=none)(hd:o.dst=some d)(htk:tkr i=k)(hX:(T t).shut=X)(h:aDraw P tkr ops K plan (B.map (fun b=>(i,b))++H) ⟨setT (setT T t X) d V,M⟩):aDraw P tkr ops K (.q i::plan) H ⟨T,M⟩:=by
 simp only [aDraw,ho,htk,aGuard,hg,hq];simp only [QEff.app,hd];subst hX;exact h
theorem d_gq {j:Nat}{want t:Bool}{g:Nat}(ho:ops[i]? = some o)(hg:o.guard=some (j,want))(hj:(ops[j]?).bind (·.dst)=some g)(ht:T g = .raw (.bool t))(hd:o.dst=some d)
 (hq:t=want->∃ V B,qstep P (tkr i) o T M=some (⟨none,V⟩,B)/\aDraw P tkr ops K plan (B.map (fun b=>(i,b))++H) ⟨setT T d V,M⟩) (no:t = !want->aDraw P tkr ops K plan H ⟨setT T d (.raw undef),M⟩):aDraw P tkr ops K (.q i::plan) H ⟨T,M⟩:=by
 simp only [aDraw,ho,aGuard,hg,hj,ht];refine⟨fun e=>?_,fun e=>?_⟩
 ·obtain⟨V,B,h1,h2⟩:=hq e;simp only [h1,QEff.app,hd];exact h2
 ·simp only [hd];exact no e
theorem d_yes {j:Nat}{want t:Bool}{g:Nat}(ho:ops[i]? = some o)(hq:qstep P k o T M=some (⟨none,V⟩,B))(hg:o.guard=some (j,want))(hj:(ops[j]?).bind (·.dst)=some g)(ht:T g = .raw (.bool t))(e:t=want)(hd:o.dst=some d)(htk:tkr i=k)
 (h:aDraw P tkr ops K plan (B.map (fun b=>(i,b))++H) ⟨setT T d V,M⟩):aDraw P tkr ops K (.q i::plan) H ⟨T,M⟩ :=
 d_gq ho hg hj ht hd (fun _=>⟨V,B,by rw [htk];exact hq,h⟩) fun e'=>by rw [e] at e';cases want<;>cases e'
theorem d_no {j:Nat}{want t:Bool}{g:Nat}(ho:ops[i]? = some o)(hg:o.guard=some (j,want))(hj:(ops[j]?).bind (·.dst)=some g)(ht:T g = .raw (.bool t))(e:t = !want)(hd:o.dst=some d)
 (h:aDraw P tkr ops K plan H ⟨setT T d (.raw undef),M⟩):aDraw P tkr ops K (.q i::plan) H ⟨T,M⟩ :=
 d_gq ho hg hj ht hd (fun e'=>by rw [e] at e';cases want<;>cases e') fun _=>h
theorem d_nil {S:St}(h:K S):aDraw P tkr ops K [] H S:=h
variable {tk:Nat->Nat->Option Nat}{pl:Nat->List PStep}{ks:List It}{R:Exit->St->Prop}{S:St}
theorem s_seq {x y:Code}(h:unw P tk pl (.code x :: .code y::ks) R .normal S):unw P tk pl (.code (.seq x y)::ks) R .normal S:=unw_seq ▸ h
theorem s_block {id:Nat}{c:Code}(h:unw P tk pl (.code c :: .blk id::ks) R .normal S):unw P tk pl (.code (.block id c)::ks) R .normal S:=unw_block ▸ h
theorem s_skip (h:unw P tk pl ks R .normal S):unw P tk pl (.code .skip::ks) R .normal S:=h
theorem s_exit {id:Nat}(h:unw P tk pl ks R (.exit id) S):unw P tk pl (.code (.exit id)::ks) R .normal S:=h
theorem s_ret (h:unw P tk pl ks R .ret S):unw P tk pl (.code .ret::ks) R .normal S:=h
theorem s_cond {c:Operand}{x y:Code}{t:Bool}(hc:ev S.T c = .raw (.bool t))(h1:t=true->unw P tk pl (.code x::ks) R .normal S)(h2:t=false->unw P tk pl (.code y::ks) R .normal S):unw P tk pl (.code (.cond c x y)::ks) R .normal S:=by
 rw [unw_cond hc];exact⟨h1,h2⟩
theorem s_then {c:Operand}{x y:Code}{t:Bool}(hc:ev S.T c = .raw (.bool t))(e:t=true)(h1:unw P tk pl (.code x::ks) R .normal S):unw P tk pl (.code (.cond c x y)::ks) R .normal S :=
 s_cond hc (fun _=>h1) fun e'=>by rw [e] at e';cases e'
theorem s_else {c:Operand}{x y:Code}{t:Bool}(hc:ev S.T c = .raw (.bool t))(e:t=false)(h1:unw P tk pl (.code y::ks) R .normal S):unw P tk pl (.code (.cond c x y)::ks) R .normal S :=
 s_cond hc (fun e'=>by rw [e] at e';cases e') fun _=>h1
theorem s_region {id:Nat}{l:List Oper}(h:aOps P (tk id) l.toArray (unw P tk pl ks R .normal) 0 l S):unw P tk pl (.code (.region id l.toArray false)::ks) R .normal S:=⟨0,h⟩
theorem s_draw {id:Nat}{l:List Oper}{a:PStep}{p:List PStep}(hp:pl id=a::p)(h:aDraw P (tk id) l.toArray (unw P tk pl ks R .normal) (a::p) [] S):unw P tk pl (.code (.region id l.toArray true)::ks) R .normal S:=by
 show aDr P (tk id) l.toArray (unw P tk pl ks R .normal) (pl id) S
 rw [hp];exact h
theorem s_code_ret {c:Code}(h:unw P tk pl ks R .ret S):unw P tk pl (.code c::ks) R .ret S:=h
theorem s_code_exit {c:Code}{id:Nat}(h:unw P tk pl ks R (.exit id) S):unw P tk pl (.code c::ks) R (.exit id) S:=h
theorem s_blk_normal {id:Nat}(h:unw P tk pl ks R .normal S):unw P tk pl (.blk id::ks) R .normal S:=h
theorem s_blk_ret {id:Nat}(h:unw P tk pl ks R .ret S):unw P tk pl (.blk id::ks) R .ret S:=h
theorem s_blk_here {id:Nat}(h:unw P tk pl ks R .normal S):unw P tk pl (.blk id::ks) R (.exit id) S:=by
 rw [unw_blk_exit,if_pos rfl];exact h
theorem s_inv {J:St->Prop}(h:J S):unw P tk pl (.inv J::ks) R .normal S:=h
theorem s_inv_ret {J:St->Prop}(h:unw P tk pl ks R .ret S):unw P tk pl (.inv J::ks) R .ret S:=h
theorem s_inv_exit {J:St->Prop}{id:Nat}(h:unw P tk pl ks R (.exit id) S):unw P tk pl (.inv J::ks) R (.exit id) S:=h
theorem s_scj_here {l:Nat}{J:St->Prop}(h:J S):unw P tk pl (.scj l J::ks) R (.goto l) S:=⟨rfl,h⟩
theorem s_scj_ret {J:St->Prop}{l:Nat}(h:unw P tk pl ks R .ret S):unw P tk pl (.scj l J::ks) R .ret S:=h
theorem s_label {l:Nat}(h:unw P tk pl ks R .normal S):unw P tk pl (.code (.label l)::ks) R .normal S:=h
theorem s_goto {l:Nat}(h:unw P tk pl ks R (.goto l) S):unw P tk pl (.code (.goto l)::ks) R .normal S:=h
theorem s_code_goto {c:Code}{l:Nat}(h:unw P tk pl ks R (.goto l) S):unw P tk pl (.code c::ks) R (.goto l) S:=h
theorem s_end {e:Exit}(h:R e S):unw P tk pl [] R e S:=by rw [unw_nil];exact h
theorem SoundCall.go {f:FuncId}{fn:Func}{c:Code}{args:List AVal}{M:Mem}{Post:AVal->Mem->Prop}(tk:Nat->Nat->Option Nat)(pl:Nat->List PStep)(hm:P.follows .mixedOrders=true)(hf:P.funcs[f]? = some fn)(hB:fn.body.map (codeB P fn.ntmps tk pl)=some true)(hb:fn.body=some c)(hlen:args.length<=fn.ntmps)
 (hc:unw P tk pl [.code c] (aRet P fn Post) .normal ⟨argT args,M⟩):SoundCall P f args M Post :=
 SoundCall.walk tk pl hm hf hb (by rw [hb] at hB;exact Option.some.inj hB) hlen hc
theorem setT_self {T:Nat->AVal}{d:Nat}{V:AVal}(h:T d=V):setT T d V=T:=by
 funext t;unfold setT;split
 ·subst_vars;rfl
 ·rfl
theorem kp {T T':Nat->AVal}{d:Nat}{V:AVal}(h:T'=T)(hd:T d=V):setT T' d V=T:=by
 subst h;exact setT_self hd
theorem s_cut {c:Code}(J:St->Prop)(h1:unw P tk pl (.code c :: .inv J::ks) R .normal S)(h2:∀ S',J S'->unw P tk pl ks R .normal S'):unw P tk pl (.code c::ks) R .normal S:=by
 refine aCode_mono c S (fun e S' h=>?_) h1;cases e with
 | normal=>exact h2 S' h
 | _=>exact h
theorem s_loop {c:Code}(I:Nat->St->Prop)(m:Nat)(h0:I m S)(step:∀ m S',I m S'->unw P tk pl (.code c :: .inv (fun S''=>∃ m',m'<m/\I m' S'')::ks) R .normal S'):unw P tk pl (.code (.loop c)::ks) R .normal S:=unw_loop I m h0 step
theorem St.mkT {T T':Nat->AVal}{M:Mem}(h:T=T'):(⟨T,M⟩ : St)=⟨T',M⟩:=by rw [h]
end
section
variable {P:Program}{T:Nat->AVal}{M:Mem}{dst:Option Nat}{x y z:Operand}{v:Value}{ty ty':TypeId}{pos:String}{af:Array Edge}{g:Option (Nat×Bool)}{cs:List AVal}{own:Bool}{a b:Int}{k:IntKind}{s t:Bool}{V:AVal}
abbrev mkO (dst:Option Nat)(op:Op)(ty:TypeId)(pos:String)(af:Array Edge)(g:Option (Nat×Bool)):Oper:=⟨dst,op,ty,pos,af,g⟩
theorem q_mv (h:(ev T x).shut=V):qstep P none (mkO dst (.move x) ty pos af g) T M=some (⟨none,V⟩,[]):=by subst h;rfl
theorem q_as (h:(ev T x).shut=V):qstep P none (mkO dst (.assign x) ty pos af g) T M=some (⟨none,V⟩,[]):=by subst h;rfl
theorem v_raw {X:AVal}(h:X = .raw v):X.shut = .raw v:=by subst h;rfl
theorem v_sl {X:AVal}(h:X = .sl cs own):X.shut = .sl cs false:=by subst h;rfl
theorem v_agg {X:AVal}(h:X = .agg cs):X.shut = .agg cs:=by subst h;rfl
theorem v_tup {X:AVal}(h:X = .tup cs):X.shut = .tup (cs.map AVal.shut1):=by subst h;rfl
theorem q_mv_own {t n:Nat}(h:T t=V):qstep P (some n) (mkO dst (.move (.tmp t)) ty pos af g) T M=some (⟨some t,V⟩,[]):=by subst h;rfl
theorem q_as_own {t n:Nat}(h:T t=V):qstep P (some n) (mkO dst (.assign (.tmp t)) ty pos af g) T M=some (⟨some t,V⟩,[]):=by subst h;rfl
theorem q_as_const {n:Nat}(h:ofConst v=V):qstep P (some n) (mkO dst (.assign (.const v)) ty pos af g) T M=some (⟨none,V⟩,[]):=by subst h;rfl
theorem q_pick_t (hc:ev T x = .raw (.bool true))(h:(ev T y).shut=V):qstep P none (mkO dst (.pick x y z) ty pos af g) T M=some (⟨none,V⟩,[]):=by
 subst h;simp only [qstep,aop,hc,if_true,Option.map_some,readsOf]
theorem q_pick_f (hc:ev T x = .raw (.bool false))(h:(ev T z).shut=V):qstep P none (mkO dst (.pick x y z) ty pos af g) T M=some (⟨none,V⟩,[]):=by
 subst h;simp [qstep,aop,hc,readsOf]
theorem q_pick_c (hc:ev T x = .raw (.bool s))(e:s=t)(h:(if t then ev T y else ev T z).shut=V):qstep P none (mkO dst (.pick x y z) ty pos af g) T M=some (⟨none,V⟩,[]):=by
 subst e;subst h;simp only [qstep,aop,hc,Option.map_some,readsOf]
end
section
variable {P:Program}{T:Nat->AVal}{M:Mem}{dst:Option Nat}{x y z:Operand}{v:Value}{ty ty₁ ty':TypeId}{pos:String}{af:Array Edge}{g:Option (Nat×Bool)}{cs:List AVal}{own:Bool}{a b:Int}{k:IntKind}{s t:Bool}{V:AVal}{u u':ByteArray}
theorem ba_beq (a b:ByteArray):(a == b)=decide (a=b):=by
 have e:(a == b)=(a.data == b.data):=rfl;have h:(a == b)=true↔a=b:=by
  rw [e];constructor
  ·intro h;cases a;cases b;simpa using h
  ·intro h;subst h;simp
 cases hb:(a == b)
 ·symm;rw [decide_eq_false_iff_not];intro h';rw [← h,hb] at h';cases h'
 ·symm;rw [decide_eq_true_eq];exact h.1 hb
theorem ba_list (a b:ByteArray):(a.toList == b.toList)=decide (a=b):=by
 have h:(a.toList == b.toList)=true↔a=b:=by
  rw [beq_iff_eq,ByteArray.toList_eq,ByteArray.toList_eq];constructor
  ·intro h;cases a;cases b;simpa using h
  ·intro h;subst h;rfl
 cases hb:(a.toList == b.toList)
 ·symm;rw [decide_eq_false_iff_not];intro h';rw [← h,hb] at h';cases h'
 ·symm;rw [decide_eq_true_eq];exact h.1 hb
theorem q_bin' {op:BinOp}{A A':AVal}{V:Value}(hx:ev T x=A)(hy:ev T y=A')(h:aBin P op ty₁ x y A A'=some (.raw V)):qstep P none (mkO dst (.binOp op ty₁ x y ty') ty pos af g) T M=some (⟨none,.raw V⟩,[]):=by
 subst hx;subst hy;simp only [qstep,aop,h,Option.map_some,readsOf,AVal.shut,AVal.shut1]
theorem q_lss (hx:ev T x = .raw (.int k a))(hy:ev T y = .raw (.int k b)):qstep P none (mkO dst (.binOp .lss ty₁ x y ty') ty pos af g) T M=some (⟨none,.raw (.bool (decide (a<b)))⟩,[]):=q_bin' hx hy (by cases k<;>rfl)
theorem q_leq (hx:ev T x = .raw (.int k a))(hy:ev T y = .raw (.int k b)):qstep P none (mkO dst (.binOp .leq ty₁ x y ty') ty pos af g) T M=some (⟨none,.raw (.bool (decide (a<=b)))⟩,[]):=q_bin' hx hy (by cases k<;>rfl)
theorem q_gtr (hx:ev T x = .raw (.int k a))(hy:ev T y = .raw (.int k b)):qstep P none (mkO dst (.binOp .gtr ty₁ x y ty') ty pos af g) T M=some (⟨none,.raw (.bool (decide (b<a)))⟩,[]):=q_bin' hx hy (by cases k<;>rfl)
theorem q_geq (hx:ev T x = .raw (.int k a))(hy:ev T y = .raw (.int k b)):qstep P none (mkO dst (.binOp .geq ty₁ x y ty') ty pos af g) T M=some (⟨none,.raw (.bool (decide (b<=a)))⟩,[]):=q_bin' hx hy (by cases k<;>rfl)
theorem q_eql (hx:ev T x = .raw (.int k a))(hy:ev T y = .raw (.int k b)):qstep P none (mkO dst (.binOp .eql ty₁ x y ty') ty pos af g) T M=some (⟨none,.raw (.bool (decide (a=b)))⟩,[]):=q_bin' hx hy (by cases k<;>rfl)
theorem q_neq (hx:ev T x = .raw (.int k a))(hy:ev T y = .raw (.int k b)):qstep P none (mkO dst (.binOp .neq ty₁ x y ty') ty pos af g) T M=some (⟨none,.raw (.bool (!decide (a=b)))⟩,[]):=q_bin' hx hy (by cases k<;>rfl)
theorem q_seql (hx:ev T x = .raw (.string u))(hy:ev T y = .raw (.string u')):qstep P none (mkO dst (.binOp .eql ty₁ x y ty') ty pos af g) T M=some (⟨none,.raw (.bool (decide (u=u')))⟩,[]):=by rw [← ba_list];exact q_bin' hx hy rfl
theorem q_sneq (hx:ev T x = .raw (.string u))(hy:ev T y = .raw (.string u')):qstep P none (mkO dst (.binOp .neq ty₁ x y ty') ty pos af g) T M=some (⟨none,.raw (.bool (!decide (u=u')))⟩,[]):=by rw [← ba_list];exact q_bin' hx hy rfl
theorem q_arith {op:BinOp}{f:Int}(hx:ev T x = .raw (.int k a))(hy:ev T y = .raw (.int k b))(hop:(op = .add/\f=a+b)\/(op = .sub/\f=a - b)\/(op = .mul/\f=a*b))(hw:k.wrap f=f):qstep P none (mkO dst (.binOp op ty₁ x y ty') ty pos af g) T M=some (⟨none,.raw (.int k f)⟩,[]):=by
 refine q_bin' hx hy ?_;rcases hop with ⟨rfl,rfl⟩|⟨rfl,rfl⟩|⟨rfl,rfl⟩
 ·show _=some (AVal.raw (.int k (a+b)))
  conv=>rhs;rw [← hw]
  cases k<;>rfl
 ·show _=some (AVal.raw (.int k (a - b)))
  conv=>rhs;rw [← hw]
  cases k<;>rfl
 ·show _=some (AVal.raw (.int k (a*b)))
  conv=>rhs;rw [← hw]
  cases k<;>rfl
theorem q_add (hx:ev T x = .raw (.int k a))(hy:ev T y = .raw (.int k b))(hw:k.wrap (a+b)=a+b):qstep P none (mkO dst (.binOp .add ty₁ x y ty') ty pos af g) T M=some (⟨none,.raw (.int k (a+b))⟩,[]):=q_arith hx hy (.inl ⟨rfl,rfl⟩) hw
theorem q_sub (hx:ev T x = .raw (.int k a))(hy:ev T y = .raw (.int k b))(hw:k.wrap (a - b)=a - b):qstep P none (mkO dst (.binOp .sub ty₁ x y ty') ty pos af g) T M=some (⟨none,.raw (.int k (a - b))⟩,[]):=q_arith hx hy (.inr (.inl ⟨rfl,rfl⟩)) hw
theorem q_mul (hx:ev T x = .raw (.int k a))(hy:ev T y = .raw (.int k b))(hw:k.wrap (a*b)=a*b):qstep P none (mkO dst (.binOp .mul ty₁ x y ty') ty pos af g) T M=some (⟨none,.raw (.int k (a*b))⟩,[]):=q_arith hx hy (.inr (.inr ⟨rfl,rfl⟩)) hw
theorem q_not (hx:ev T x = .raw (.bool s)):qstep P none (mkO dst (.unOp .not ty₁ x) ty pos af g) T M=some (⟨none,.raw (.bool (!s))⟩,[]):=by
 simp only [qstep,aop,hx,raw1];rfl
theorem wrap64 {a:Int}(h1 : -2^63<=a)(h2:a<2^63):IntKind.i64.wrap a=a:=by
 simp only [IntKind.wrap,IntKind.signed,IntKind.bits];have e:(2:Int)^(64 - 1)=9223372036854775808:=rfl;simp only [Bool.true_and,decide_eq_true_eq,e];split<;>omega
theorem q_len {st e:TypeId}{ats:Array TypeId}(h0:ats[0]? = some st)(hu:P.underlying st=some (.slice e))(hx:ev T x = .sl cs own):qstep P none (mkO dst (.call { callee:=.builtin .len,args:=#[x],argTypes:=ats }) ty pos af g) T M=some (⟨none,.raw (.int .i64 cs.length)⟩,[]):=by
 have h:aop P T M ty (.call { callee:=.builtin .len,args:=#[x],argTypes:=ats })=some (.raw (.int .i64 cs.length)):=by
  simp only [aop,List.map,aBuiltin,hx,h0,Option.bind_some,hu]
 have:qstep P none (mkO dst (.call { callee:=.builtin .len,args:=#[x],argTypes:=ats }) ty pos af g) T M=(aop P T M ty (.call { callee:=.builtin .len,args:=#[x],argTypes:=ats })).map fun V=>(⟨none,V.shut⟩,readsOf T (.call { callee:=.builtin .len,args:=#[x],argTypes:=ats })):=rfl
 rw [this,h];simp only [readsOf,List.map,hx,Option.map_some,AVal.shut,AVal.shut1]
theorem q_idx {st e:TypeId}{sz:Nat}{W:AVal}(hu:P.underlying st=some (.slice e))(hs:sizeT P e=some sz)(hx:ev T x = .sl cs own)(hy:ev T y = .raw (.int k a))(h0:0<=a)(hV:cs[a.toNat]? = some W)(hW:W.cells.length=sz):qstep P none (mkO dst (.indexAddr st x y) ty pos af g) T M=some (⟨none,.sptr cs a.toNat 0⟩,[]):=by
 have hlt:a<(cs.length:Int):=by
  have:a.toNat<cs.length:=by
   rcases Nat.lt_or_ge a.toNat cs.length with h|h
   ·exact h
   ·rw [List.getElem?_eq_none h] at hV;cases hV
  omega
 simp only [qstep,aop,aIndexAddr,hx,hy,hu,hs,hV,hW,h0,hlt,and_self,if_true,Option.map_some,readsOf,AVal.shut,AVal.shut1,AVal.shut1]
theorem q_fld {i o:Nat}{fd:Field}{n:Nat}(hf:fieldT P ty₁ i=some fd)(hs:sizeT P fd.type=some (n+1)){j:Nat}(hx:ev T x = .sptr cs j o):qstep P none (mkO dst (.fieldAddr ty₁ x i) ty pos af g) T M=some (⟨none,.sptr cs j (o+fd.offset)⟩,[]):=by
 simp only [qstep,aop,aFieldAddr,hx,hf,hs,Option.map_some,readsOf,AVal.shut,AVal.shut1]
theorem q_ld {j o:Nat}{W:AVal}{ag:Bool}{n:Nat}{Y:AVal}(ha:aggT P ty₁=some ag)(hs:sizeT P ty₁=some n)(hx:ev T x = .sptr cs j o)(hV:cs[j]? = some W)(hp:piece ag W.cells o n=some Y)(hY:Y.shut=V):qstep P none (mkO dst (.load ty₁ x) ty pos af g) T M=some (⟨none,V⟩,[]):=by
 subst hY;simp only [qstep,aop,hx,hV,loadP,ha,hs,hp,Option.map_some,readsOf,Option.isSome];rfl
theorem q_ldm {b o:Nat}{l:List AVal}{ag:Bool}{n:Nat}{Y:AVal}(ha:aggT P ty₁=some ag)(hs:sizeT P ty₁=some n)(hx:ev T x = .raw (.pointer (some ⟨b,o,none⟩)))(hM:M b=some (.cells l))(hp:piece ag l o n=some Y)(hY:Y.shut=V):qstep P none (mkO dst (.load ty₁ x) ty pos af g) T M=some (⟨none,V⟩,[b]):=by
 subst hY;simp only [qstep,aop,hx,hM,loadP,ha,hs,hp,Option.map_some,readsOf,Option.isSome];rfl
theorem q_ldg {b o:Nat}{c:Array Value}{e:TypeId}{fr:Nat×Nat}{ag:Bool}{n:Nat}{Y:AVal}(ha:aggT P ty₁=some ag)(hs:sizeT P ty₁=some n)(hx:ev T x = .raw (.pointer (some ⟨b,o,none⟩)))(hM:M b=some (.it (.cells c e fr)))(hp:piece ag (c.toList.map .raw) o n=some Y)(hY:Y.shut=V):qstep P none (mkO dst (.load ty₁ x) ty pos af g) T M=some (⟨none,V⟩,[b]):=by
 subst hY;simp only [qstep,aop,hx,hM,loadP,ha,hs,hp,Option.map_some,readsOf,Option.isSome];rfl
theorem q_ext {i:Nat}{vs:List AVal}{Y:AVal}(hx:ev T x = .tup vs)(hi:vs[i]? = some Y)(hY:Y.shut=V):qstep P none (mkO dst (.extract x i) ty pos af g) T M=some (⟨none,V⟩,[]):=by
 subst hY;simp only [qstep,aop,hx,hi,Option.map_some,readsOf,Option.isSome_none,Bool.false_eq_true,if_false]
theorem q_fldr {b i o:Nat}{fd:Field}{n:Nat}(hf:fieldT P ty₁ i=some fd)(hs:sizeT P fd.type=some (n+1))(hx:ev T x = .raw (.pointer (some ⟨b,o,none⟩))):qstep P none (mkO dst (.fieldAddr ty₁ x i) ty pos af g) T M=some (⟨none,.raw (.pointer (some ⟨b,o+fd.offset,none⟩))⟩,[]):=by
 simp only [qstep,aop,aFieldAddr,hx,hf,hs,Option.map_some,readsOf,AVal.shut,AVal.shut1]
theorem q_build {parts:Array (Nat×Operand)}(h:aBuild P T ty₁ parts.toList=some (.agg cs)):qstep P none (mkO dst (.build ty₁ parts) ty pos af g) T M=some (⟨none,.agg cs⟩,[]):=by
 simp only [qstep,aop,h,Option.map_some,readsOf,AVal.shut,AVal.shut1]
theorem pr_b {P:Program}{α β:Type}(s:Sem α)(f:α->Sem β):pr P (s >>= f)=(pr P s).bind fun a=>pr P (f a):=pr_bind s f
theorem pr_prog {P:Program}:pr P program=some P:=rfl
theorem eq_int {P:Program}{t:TypeId}{k:IntKind}(h:P.underlying t=some (.int k))(a b:Int):pr P (Op.equalIn 9999 t (.int k a) (.int k b))=some (decide (a=b)):=by
 show pr P (underlying t >>= _)=_
 rw [pr_b,pr_underlying h];cases k<;>rfl
theorem eq_bool {P:Program}{t:TypeId}(h:P.underlying t=some .bool)(a b:Bool):pr P (Op.equalIn 9999 t (.bool a) (.bool b))=some (decide (a=b)):=by
 show pr P (underlying t >>= _)=_
 rw [pr_b,pr_underlying h];cases a<;>cases b<;>rfl
theorem part_one {P:Program}{t:TypeId}{cs:Array Value}{o:Nat}{v:Value}(ha:aggT P t=some false)(h:cs[o]? = some v):pr P (part t cs o)=some v:=by
 unfold part;rw [pr_b,pr_aggT ha];simp [h,pr_pure]
theorem fldEq {P : Program} {α : Type} {n : String} {t : TypeId} {xs ys : Array Value} {o d : Nat} {v v' : Value} {b : Bool} {f : ForInStep (Option Bool × Unit) → Sem α} (hn : n ≠ "_") (h1 : pr P (part t xs o) = some v) (h2 : pr P (part t ys o) = some v') (he : pr P (Op.equalIn d t v v') = some b) :
 pr P ((if n ≠ "_" then do
  let x ← part t xs o
  let y ← part t ys o
  let c ← Op.equalIn d t x y
  if (!c)=true then pure (ForInStep.done (some false,())) else pure (ForInStep.yield (none,()))
  else pure (ForInStep.yield (none,()))) >>= f)=pr P (f (if b then .yield (none,()) else .done (some false,()))):=by
 rw [if_pos hn];simp only [pr_b,h1,h2,he,Option.bind_some];cases b<;>rfl
theorem fldEq' {P : Program} {n : String} {t : TypeId} {xs ys : Array Value} {o d : Nat} {v v' : Value} {p : Prop} [Decidable p] {f : ForInStep (Option Bool × Unit) → Sem (Option Bool × Unit)} {g : Option Bool × Unit → Sem Bool} {q : Prop} [Decidable q] (hn : n ≠ "_") (h1 : pr P (part t xs o) = some v) (h2 : pr P (part t ys o) = some v') (he : pr P (Op.equalIn d t v v') = some (decide p))
 (hf:∀ x,f (.done x)=pure x) (hg:g (some false,())=pure false) (hb:q->p) (hR:p->pr P (f (.yield (none,())) >>= g)=some (decide q)) :
 pr P (((if n ≠ "_" then do
  let x ← part t xs o
  let y ← part t ys o
  let c ← Op.equalIn d t x y
  if (!c)=true then pure (ForInStep.done (some false,())) else pure (ForInStep.yield (none,()))
  else pure (ForInStep.yield (none,()))) >>= f) >>= g)=some (decide q):=by
 rw [pr_b,fldEq hn h1 h2 he];by_cases hp:p
 ·simp only [hp,decide_true,if_true];rw [← pr_b];exact hR hp
 ·simp only [hp,decide_false,Bool.false_eq_true,if_false,hf];rw [decide_eq_false fun h=>hp (hb h)];show (some (some false,())).bind _=_
  simp only [Option.bind_some,hg];rfl
theorem eqStruct {P:Program}{t:TypeId}{fs:List Field}{xs ys:Array Value}{b:Bool}(hu:P.underlying t=some (.struct fs.toArray))(hs:P.stoodInHeld t=false)
 (h : pr P ((forIn fs (none, ()) fun (f : Field) (_ : Option Bool × Unit) => (if f.name ≠ "_" then do
  let x ← part f.type xs f.offset
  let y ← part f.type ys f.offset
  let c ← Op.equalIn 9999 f.type x y
  if (!c)=true then pure (ForInStep.done (some false,())) else pure (ForInStep.yield (none,()))
  else pure (ForInStep.yield (none,())):Sem (ForInStep (Option Bool×Unit)))) >>= fun s=>match s.1 with|some r=>pure r|none=>pure true)=some b) :
 pr P (Op.equal t (.agg xs) (.agg ys))=some b:=by
 unfold Op.equal Op.maxDepth;unfold Op.equalIn;rw [pr_b,pr_underlying hu];simp only [Option.bind_some];rw [pr_b,pr_prog];simp only [Option.bind_some,hs];simp only [Bool.false_eq_true,if_false,List.forIn_toArray];refine Eq.trans (congrArg (pr P) ?_) h;congr 1;funext f;rcases f with ⟨_ | _,_⟩<;>rfl
theorem aBin_structNeq {P:Program}{t:TypeId}{x y:Operand}{X Y:AVal}{xs ys:Array Value}{b:Bool}(he:P.eqGuardType P.depth t=false)(hX:rawOf X=some (.agg xs))(hY:rawOf Y=some (.agg ys))(hne:∀ l o,X ≠ .sl l o)(h:pr P (Op.equal t (.agg xs) (.agg ys))=some b):aBin P .neq t x y X Y=some (.raw (.bool (!b))):=by
 unfold aBin;split
 ·rename_i l o;exact absurd rfl (hne l o)
 ·simp only [hX,hY];have e:pr P (eqGuard .neq t x y (.agg xs) (.agg ys))=some ():=by
   show pr P (program >>= _)=_
   rw [pr_b,pr_prog,Option.bind_some];show pr P (program >>= _)=_
   rw [pr_b,pr_prog,Option.bind_some,he];rfl
  rw [e,Option.bind_some];show (pr P (Op.equal t (.agg xs) (.agg ys) >>= _)).map AVal.raw=_
  rw [pr_b,h];rfl
theorem aBin_structEq {P:Program}{t:TypeId}{x y:Operand}{X Y:AVal}{xs ys:Array Value}{b:Bool}(he:P.eqGuardType P.depth t=false)(hX:rawOf X=some (.agg xs))(hY:rawOf Y=some (.agg ys))(hne:∀ l o,X ≠ .sl l o)(h:pr P (Op.equal t (.agg xs) (.agg ys))=some b):aBin P .eql t x y X Y=some (.raw (.bool b)):=by
 unfold aBin;split
 ·rename_i l o;exact absurd rfl (hne l o)
 ·simp only [hX,hY];have e:pr P (eqGuard .eql t x y (.agg xs) (.agg ys))=some ():=by
   show pr P (program >>= _)=_
   rw [pr_b,pr_prog,Option.bind_some];show pr P (program >>= _)=_
   rw [pr_b,pr_prog,Option.bind_some,he];rfl
  rw [e,Option.bind_some];show (pr P (Op.equal t (.agg xs) (.agg ys) >>= _)).map AVal.raw=_
  rw [pr_b,h];rfl
structure SlT (P:Program)(st e:TypeId)(sz by_:Nat):Prop where
 u:P.underlying st=some (.slice e)
 s:sizeT P e=some sz
 b:bytesT P e=some by_
 z':(zeroT P e).map (·.cells.size)=some sz
 one:1<=by_
theorem SlT.zs {P:Program}{st e:TypeId}{sz by_:Nat}(h:SlT P st e sz by_):∃ z,zeroT P e=some z/\z.cells.size=sz:=by
 have:=h.z';simpa [Option.map_eq_some_iff] using this
def Els (sz:Nat)(l:List AVal):Prop:=∀ V∈l,V.ok=true/\V.cells.length=sz
theorem Els.nil {sz:Nat}:Els sz []:=fun _ h=>by cases h
theorem Els.cons {sz:Nat}{l:List AVal}(h1:V.ok=true)(h2:V.cells.length=sz)(h:Els sz l):Els sz (V::l):=fun W hW=>by
 rcases List.mem_cons.1 hW with rfl|hW
 ·exact⟨h1,h2⟩
 ·exact h W hW
theorem Els.map {sz:Nat}{α:Type}{f:α->AVal}{l:List α}(h:∀ a,(f a).ok=true/\(f a).cells.length=sz):Els sz (l.map f):=fun W hW=>by
 obtain⟨a,-,rfl⟩:=List.mem_map.1 hW;exact h a
theorem aAppend_eq {st e:TypeId}{sz by_:Nat}{l ys:List AVal}{own:Bool}{ats:Array TypeId}(ht:SlT P st e sz by_)(h0:ats[0]? = some st)(h1:ats[1]? = some st)(hl:Els sz l)(hy:Els sz ys)(hb:(l.length+ys.length)*by_<=2^47):aAppend P ats (.sl l true) (.sl ys own)=some (l++ys):=by
 obtain⟨z,hz,hzs⟩:=ht.zs;have e1:(l.all fun V=>V.cells.length == sz)=true:=List.all_eq_true.2 fun V hV=>by simp [(hl V hV).2]
 have e2:(ys.all fun V=>V.ok && V.cells.length == sz)=true:=List.all_eq_true.2 fun V hV=>by simp [(hy V hV).1,(hy V hV).2]
 simp only [aAppend,h0,h1,ht.u,isRow,ht.s,ht.b,hz,spread,hzs,ht.one,hb,e1,e2,and_self,if_true];simp
theorem q_app {st e:TypeId}{sz by_:Nat}{t:Nat}{l ys:List AVal}{ats:Array TypeId}{d:Nat}(ht:SlT P st e sz by_)(h0:ats[0]? = some st)(h1:ats[1]? = some st)(hx:T t = .sl l true)(hy:ev T y = .sl ys own)(hl:Els sz l)(hys:Els sz ys)(hb:(l.length+ys.length)*by_<=2^47) :
 qstep P none (mkO (some d) (.call { callee:=.builtin .append,args:=#[.tmp t,y],argTypes:=ats }) ty pos af g) T M=some (⟨some t,.sl (l++ys) true⟩,[]):=by
 simp only [qstep,Option.isSome,if_true];have:ev T (.tmp t) = .sl l true:=hx;rw [this,hy,aAppend_eq ht h0 h1 hl hys hb];rfl
end
end Go.Am
namespace Go.Am
set_option linter.unusedSimpArgs false
section
variable {P:Program}{tkr:Nat->Option Nat}{ops:Array Oper}{K:St->Prop}{i:Nat}{rest:List Oper}{d:Nat}{V X:AVal}{T:Nat->AVal}{M:Mem}{ty ty₁:TypeId}{pos:String}{af:Array Edge}{x y z:Operand}{args:Array Operand}{ats:Array TypeId}{f:FuncId}{avs:List AVal}
 {plan:List PStep} {H:List (Nat×Nat)} {o:Oper}
theorem ac_nil {k:Nat}:aArgs T none k []=[]:=rfl
theorem ac {k:Nat}{xs:List Operand}{Vs:List AVal}(h:(ev T x).shut=V)(hs:aArgs T none (k+1) xs=Vs):aArgs T none k (x::xs)=V::Vs:=by
 subst h;subst hs;rfl
theorem o_call {rT:AVal}(hc:SoundCall P f avs M fun r M'=>r=rT/\M'=M)(hg:goesB P f=true)(ha:aArgs T none 0 args.toList=avs)(htk:tkr i=none)(h:aOps P tkr ops K (i+1) rest ⟨setT T d rT,M⟩) :
 aOps P tkr ops K i (mkO (some d) (.call { callee:=.value (.func f),args,argTypes:=ats }) ty pos af none::rest) ⟨T,M⟩:=by
 refine o_x rfl ?_;rw [htk];show estep P none _ T M _
 unfold estep;dsimp only [eCall,ev];refine⟨rfl,hg,trivial,(fun r M'=>r=rT/\M'=M),?_,?_⟩
 ·show SoundCall P f ([]++aArgs T none 0 args.toList++[]) M fun r M'=>r=rT/\M'=M
  rw [ha];simpa using hc
 ·rintro r M' ⟨rfl,rfl⟩;exact h
theorem o_callx {Post:AVal->Mem->Prop}(hc:SoundCall P f avs M Post)(hg:goesB P f=true)(ha:aArgs T none 0 args.toList=avs)(htk:tkr i=none)(h:∀ r M',Post r M'->aOps P tkr ops K (i+1) rest ⟨setT T d r,M'⟩) :
 aOps P tkr ops K i (mkO (some d) (.call { callee:=.value (.func f),args,argTypes:=ats }) ty pos af none::rest) ⟨T,M⟩:=by
 refine o_x rfl ?_;rw [htk];show estep P none _ T M _
 unfold estep;dsimp only [eCall,ev];refine⟨rfl,hg,trivial,Post,?_,?_⟩
 ·show SoundCall P f ([]++aArgs T none 0 args.toList++[]) M Post
  rw [ha];simpa using hc
 ·intro r M' hp;exact h r M' hp
theorem d_c {rT:AVal}(ho:ops[i]? = some (mkO (some d) (.call { callee:=.value (.func f),args,argTypes:=ats }) ty pos af none))(hc:∀ M',SoundCall P f avs M' fun r M''=>r=rT/\M''=M')(hg:goesB P f=true)(ha:aArgs T none 0 args.toList=avs)(htk:tkr i=none)(h:aDraw P tkr ops K plan H ⟨setT T d rT,M⟩) :
 aDraw P tkr ops K (.c i::plan) H ⟨T,M⟩:=by
 simp only [aDraw,ho,htk,aGuard];refine⟨⟨none,rT⟩,[],quiet_call rfl rfl rfl hg fun M' _=>?_,h⟩;subst ha;simpa using hc M'
theorem o_alloc {zs:List AVal}(hz:zeroCellsT P ty₁=some zs)(h:∀ b,M b=none->aOps P tkr ops K (i+1) rest ⟨setT T d (.raw (.pointer (some ⟨b,0,none⟩))),M.upd b (.cells zs)⟩):aOps P tkr ops K i (mkO (some d) (.alloc ty₁) ty pos af none::rest) ⟨T,M⟩:=by
 refine o_x rfl ?_;show estep P (tkr i) _ T M _
 unfold estep;dsimp only;rw [hz];exact fun b hb=>h b hb
theorem o_box (hV:ev T x=V)(hok:V.ok=true){cs:List AVal}(hc:V.cells.map AVal.shut=cs)(h:∀ b,M b=none->aOps P tkr ops K (i+1) rest ⟨setT T d (.raw (.pointer (some ⟨b,0,none⟩))),M.upd b (.cells cs)⟩):aOps P tkr ops K i (mkO (some d) (.box ty₁ x) ty pos af none::rest) ⟨T,M⟩:=by
 refine o_x rfl ?_;show estep P (tkr i) _ T M _
 unfold estep;dsimp only;subst hV;subst hc;exact⟨hok,fun b hb=>h b hb⟩
def AVal.own:AVal->Bool
 | .sl _ true=>true
 | _=>false
theorem o_store {b off n:Nat}{l l':List AVal}(ha:ev T x = .raw (.pointer (some ⟨b,off,none⟩)))(hM:M b=some (.cells l))(hV:ev T y=V)(hok:V.ok=true)(hs:sizeT P ty₁=some n)(hn:V.cells.length=n)(hl:off+n<=l.length)(hown:V.own=false)(he:splice l off (V.cells.map AVal.shut)=l')
 (h:aOps P tkr ops K (i+1) rest ⟨T,M.upd b (.cells l')⟩):aOps P tkr ops K i (mkO none (.store ty₁ x y) ty pos af none::rest) ⟨T,M⟩:=by
 refine o_x rfl ?_;show estep P (tkr i) _ T M _
 unfold estep;dsimp only;rw [ha,hV];unfold eStore;simp only [hM];refine⟨hok,by rw [hn];exact hs,by rw [hn];exact hl,?_⟩;subst he;split
 ·simp [AVal.own] at hown
 ·exact h
theorem o_store_own {b off t:Nat}{l xs:List AVal}(ha:ev T x = .raw (.pointer (some ⟨b,off,none⟩)))(hM:M b=some (.cells l))(hV:T t = .sl xs true)(hs:sizeT P ty₁=some 1)(hl:off+1<=l.length)
 (h:aOps P tkr ops K (i+1) rest ⟨setT T t (.sl xs false),M.upd b (.cells (l.set off (.sl xs true)))⟩):aOps P tkr ops K i (mkO none (.store ty₁ x (.tmp t)) ty pos af none::rest) ⟨T,M⟩:=by
 refine o_x rfl ?_;show estep P (tkr i) _ T M _
 unfold estep;dsimp only;have hV':ev T (.tmp t) = .sl xs true:=hV;rw [ha,hV'];unfold eStore;simp only [hM];refine⟨rfl,hs,hl,?_⟩;have:Eff.apply ⟨tmpOf (.tmp t),M.upd b (.cells (l.set off (.sl xs true))),.undef⟩ (⟨T,M⟩ : St) none=⟨setT T t (.sl xs false),M.upd b (.cells (l.set off (.sl xs true)))⟩:=by
  show (⟨setT T t (T t).shut,_⟩ : St)=_
  rw [hV];rfl
 rw [this];exact h
theorem o_take {n b off:Nat}{l xs:List AVal}(htk:tkr i=some n)(ha:ev T x = .raw (.pointer (some ⟨b,off,none⟩)))(hM:M b=some (.cells l))(hx:l[off]? = some (.sl xs true))(hag:aggT P ty₁=some false)(hs:sizeT P ty₁=some 1)
 (h:aOps P tkr ops K (i+1) rest ⟨setT T d (.sl xs true),M.upd b (.cells (l.set off (.sl xs false)))⟩):aOps P tkr ops K i (mkO (some d) (.load ty₁ x) ty pos af none::rest) ⟨T,M⟩:=by
 refine o_x rfl ?_;rw [htk];show estep P (some n) _ T M _
 unfold estep;dsimp only;rw [ha];unfold eTake;simp only [hM,hx];exact⟨hag,hs,h⟩
theorem o_makeMap (h:∀ b,M b=none->aOps P tkr ops K (i+1) rest ⟨setT T d (.raw (.map (some b))),M.upd b (.map [])⟩):aOps P tkr ops K i (mkO (some d) (.makeMap ty₁ none) ty pos af none::rest) ⟨T,M⟩:=by
 refine o_x rfl ?_;show estep P (tkr i) _ T M _
 unfold estep;exact fun b hb=>h b hb
theorem o_mapUpdate {kt et:TypeId}{b:Nat}{k:Value}{es:List (Value×AVal)}{u:Unit}{at? : Option Nat}(hu:P.underlying ty₁=some (.map kt et))(hm:ev T x = .raw (.map (some b)))(hk:ev T y = .raw k)(hM:M b=some (.map es))(hc:pr P (Instr.checkKey false 10000 kt k)=some u)(hat:keyAt P kt k (es.map (·.1))=some at?)
 (hsame:∀ j,at? = some j->Instr.sameBits 10000 (((es[j]?).map (·.1)).getD k) k=true) (hV:(ev T z).shut=V) (h:aOps P tkr ops K (i+1) rest ⟨T,M.upd b (.map (putEntry es at? k V))⟩):aOps P tkr ops K i (mkO none (.mapUpdate ty₁ x y z) ty pos af none::rest) ⟨T,M⟩:=by
 refine o_x rfl ?_;show estep P (tkr i) _ T M _
 unfold estep;dsimp only;unfold eMapUpdate;rw [hm,hk,hu];subst hV;simp only [rawOf,hM,hc,hat];exact⟨hsame,h⟩
variable {dst:Option Nat}{g:Option (Nat×Bool)}{cs:List AVal}{own:Bool}{k:IntKind}{a b:Int}
def fo (P:Program)(t:TypeId)(i:Nat):Option (Nat×Nat):=(fieldT P t i).bind fun fd=>(sizeT P fd.type).map fun n=>(fd.offset,n)
theorem fo_spec {t:TypeId}{i off n:Nat}(h:fo P t i=some (off,n)):∃ fd,fieldT P t i=some fd/\sizeT P fd.type=some n/\fd.offset=off:=by
 unfold fo at h;cases hf:fieldT P t i with
 | none=>rw [hf] at h;cases h
 | some fd =>
  rw [hf] at h;simp only [Option.bind_some,Option.map_eq_some_iff,Prod.mk.injEq] at h;obtain⟨m,h1,h2,h3⟩:=h;exact⟨fd,rfl,by rw [h1,h3],h2⟩
theorem q_f {i off n:Nat}{j o:Nat}(hf:fo P ty₁ i=some (off,n+1))(hx:ev T x = .sptr cs j o):qstep P none (mkO dst (.fieldAddr ty₁ x i) ty pos af g) T M=some (⟨none,.sptr cs j (o+off)⟩,[]):=by
 obtain⟨fd,h1,h2,rfl⟩:=fo_spec hf;exact q_fld h1 h2 hx
theorem q_fr {i off n:Nat}{b o:Nat}(hf:fo P ty₁ i=some (off,n+1))(hx:ev T x = .raw (.pointer (some ⟨b,o,none⟩))):qstep P none (mkO dst (.fieldAddr ty₁ x i) ty pos af g) T M=some (⟨none,.raw (.pointer (some ⟨b,o+off,none⟩))⟩,[]):=by
 obtain⟨fd,h1,h2,rfl⟩:=fo_spec hf;exact q_fldr h1 h2 hx
theorem pn {k:Nat}:aParts T k []=some []:=rfl
theorem pc {k:Nat}{l:List AVal}{r:List (Nat×Operand)}(h:(ev T x).shut=V)(hr:aParts T (k+1) r=some l):aParts T k ((k,x)::r)=some (V::l):=by
 subst h;simp only [aParts,if_true,hr,Option.map_some]
theorem q_bs {st e:TypeId}{sz by_ n:Nat}{l:List AVal}{parts:Array (Nat×Operand)}(ht:SlT P st e sz by_)(hp:aParts T 0 parts.toList=some l)(hl:l.length=n)(hall:Els sz l)(hsz:n*sz<=2^24):qstep P none (mkO dst (.buildSlice st n parts) ty pos af g) T M=some (⟨none,.sl l true⟩,[]):=by
 obtain⟨z,hz,hzs⟩:=ht.zs;have e:(l.all fun V=>V.ok && V.cells.length == sz)=true:=List.all_eq_true.2 fun V hV=>by simp [(hall V hV).1,(hall V hV).2]
 simp only [qstep,qBuild,ht.u,ht.s,hz,hp,hzs,hl,hsz,e,and_self,if_true,Option.map_some]
theorem q_ldmw {b n:Nat}{W:AVal}{ws:List AVal}(ha:aggT P ty₁=some true)(hs:sizeT P ty₁=some n)(hx:ev T x = .raw (.pointer (some ⟨b,0,none⟩)))(hM:M b=some (.cells W.cells))(hW:W = .agg ws)(hn:ws.length=n):qstep P none (mkO dst (.load ty₁ x) ty pos af g) T M=some (⟨none,W⟩,[b]):=by
 subst hn;subst hW;exact q_ldm ha hs hx hM (Y:=.agg ws) (by simp [piece,AVal.cells]) rfl
theorem o_storew {b n:Nat}{l:List AVal}{W:AVal}(ha:ev T x = .raw (.pointer (some ⟨b,0,none⟩)))(hM:M b=some (.cells l))(hV:ev T y=W)(hok:W.ok=true)(hs:sizeT P ty₁=some n)(hn:W.cells.length=n)(hl:l.length=n)(hown:W.own=false)(he:W.cells.map AVal.shut=W.cells)
 (h:aOps P tkr ops K (i+1) rest ⟨T,M.upd b (.cells W.cells)⟩):aOps P tkr ops K i (mkO none (.store ty₁ x y) ty pos af none::rest) ⟨T,M⟩:=by
 refine o_store ha hM hV hok hs hn (by omega) hown ?_ h;rw [he];unfold splice;rw [List.drop_eq_nil_of_le (by omega)];simp
theorem o_storewN {b n:Nat}{l ws':List AVal}{W:AVal}(ha:ev T x = .raw (.pointer (some ⟨b,0,none⟩)))(hM:M b=some (.cells l))(hV:ev T y=W)(hok:W.ok=true)(hs:sizeT P ty₁=some n)(hn:W.cells.length=n)(hl:l.length=n)(hown:W.own=false)(he:W.cells.map AVal.shut=W.cells)(hw:W.cells.map nilO=ws')
 (h:aOps P tkr ops K (i+1) rest ⟨T,M.upd b (.cells ws')⟩):aOps P tkr ops K i (mkO none (.store ty₁ x y) ty pos af none::rest) ⟨T,M⟩:=by
 refine o_xs rfl (.inr ?_);show _/\eStore P ty₁ (ev T x) (ev T y) y M _
 rw [ha,hV];unfold eStore;dsimp only;rw [hM];refine⟨rfl,hok,by rw [hn];exact hs,by omega,?_⟩;have e0:splice l 0 (W.cells.map AVal.shut)=W.cells:=by
  rw [he];unfold splice;rw [List.drop_eq_nil_of_le (by omega)];simp
 have key:NilM (M.upd b (.cells (splice l 0 (W.cells.map AVal.shut)))) fun M1 V=>aOps P tkr ops K (i+1) rest (Eff.apply ⟨none,M1,V⟩ ⟨T,M⟩ none):=by
  refine⟨b,W.cells,ws',by rw [e0];exact Mem.upd_self _ _ _,⟨by rw [← hw,List.length_map],fun j c c' h1 h2=>?_⟩,?_⟩
  ·rw [← hw,List.getElem?_map,h1] at h2;obtain rfl:=Option.some.inj h2;rcases nilO_cases c with ⟨h3,h4⟩|h4
   ·exact .inr ⟨h3,h4⟩
   ·exact .inl h4
  ·rw [Mem.upd_upd];exact h
 split
 ·cases hown
 ·exact⟨rfl,key⟩
theorem q_lde {j n:Nat}{W:AVal}{ws:List AVal}(ha:aggT P ty₁=some true)(hs:sizeT P ty₁=some n)(hx:ev T x = .sptr cs j 0)(hV:cs[j]? = some W)(hW:W = .agg ws)(hn:ws.length=n):qstep P none (mkO dst (.load ty₁ x) ty pos af g) T M=some (⟨none,W⟩,[]):=by
 subst hn;subst hW;exact q_ld ha hs hx hV (Y:=.agg ws) (by simp [piece,AVal.cells]) rfl
theorem gm {α:Type}{f:α->AVal}{l:List α}(n:Nat)(h:n<l.length):(l.map f)[n]? = some (f l[n]):=by simp [h]
end
end Go.Am
namespace Go.Am
set_option linter.unusedSimpArgs false
set_option linter.unusedSectionVars false
def Mem.le (M M':Mem):Prop:=∀ b o,M b=some o->M' b=some o
theorem Mem.le_refl (M:Mem):M.le M:=fun _ _ h=>h
theorem Mem.le_trans {M M' M'':Mem}(h:M.le M')(h':M'.le M''):M.le M'':=fun b o hb=>h' b o (h b o hb)
theorem Mem.le_upd {M M':Mem}{b:Nat}{o:AObj}(h:M.le M')(hb:M b=none):M.le (M'.upd b o):=fun c p hc=>by
 unfold Mem.upd;split
 ·subst_vars;rw [hb] at hc;cases hc
 ·exact h c p hc
theorem Mem.none_of_le {M M':Mem}(h:M.le M'){b:Nat}(hb:M' b=none):M b=none:=by
 cases hm:M b with
 | none=>rfl
 | some o=>rw [h b o hm] at hb;cases hb
theorem Mem.upd_ne {M:Mem}{b c:Nat}{o:AObj}{x:Option AObj}(h:b≠c)(hM:M b=x):(M.upd c o) b=x:=by
 unfold Mem.upd;rw [if_neg h];exact hM
theorem Mem.upd_none {M:Mem}{b c:Nat}{o:AObj}(h:(M.upd c o) b=none):b≠c/\M b=none:=by
 unfold Mem.upd at h;split at h
 ·cases h
 ·exact⟨by assumption,h⟩
theorem SoundCall.trim {P:Program}{f:FuncId}{args:List AVal}{M:Mem}{Post:AVal->Mem->Prop}(h:SoundCall P f args M Post)(hp:∀ r M',Post r M'->M.le M'):SoundCall P f args M fun r M'=>(∃ M'',Post r M'')/\M'=M :=
 fun κ w vs hs hh=>(h κ w vs hs hh).mono fun _ _ ⟨v,κ',r,M',e,hq,hH,hK⟩=>⟨v,κ',r,M,e,⟨⟨M',hq⟩,rfl⟩,hH.forget (hp r M' hq),hK⟩
theorem SoundCall.det {P:Program}{f:FuncId}{args:List AVal}{M:Mem}{X:AVal}(h:SoundCall P f args M fun r M'=>r=X/\M.le M'):SoundCall P f args M fun r M'=>r=X/\M'=M :=
 (h.trim fun _ _ h=>h.2).mono fun _ _ ⟨⟨_,h⟩,e⟩=>⟨h.1,e⟩
section
variable {α β:Type}[DecidableEq α]
def kget (l:List (α×β))(k:α):Option β:=(l.find? fun p=>p.1=k).map (·.2)
def kput (l:List (α×β))(k:α)(v:β):List (α×β):=match l.findIdx? (fun p=>p.1=k) with|some i=>l.set i (k,v)|none=>l++[(k,v)]
theorem kget_nil (k:α):kget ([]:List (α×β)) k=none:=rfl
theorem kget_cons (p:α×β)(l:List (α×β))(k:α):kget (p::l) k=if p.1=k then some p.2 else kget l k:=by
 unfold kget;rw [List.find?_cons];by_cases h:p.1=k<;>simp [h]
theorem kput_nil (k:α)(v:β):kput ([]:List (α×β)) k v=[(k,v)]:=rfl
theorem kput_cons (p:α×β)(l:List (α×β))(k:α)(v:β):kput (p::l) k v=if p.1=k then (k,v)::l else p::kput l k v:=by
 unfold kput;rw [List.findIdx?_cons];by_cases h:p.1=k
 ·simp [h]
 ·simp only [h,decide_false,Bool.false_eq_true,if_false];cases l.findIdx? (fun p=>decide (p.1=k))<;>simp
theorem kget_kput (l:List (α×β))(k:α)(v:β)(k':α):kget (kput l k v) k'=if k'=k then some v else kget l k':=by
 induction l with
 | nil=>rw [kput_nil,kget_cons,kget_nil];by_cases h:k=k'<;>simp [h,eq_comm]
 | cons p l ih =>
  rw [kput_cons];split
  ·rename_i h;rw [kget_cons,kget_cons];by_cases h':k=k'
   ·simp [h']
   ·simp [h',h,Ne.symm h']
  ·rename_i h;rw [kget_cons,kget_cons,ih];by_cases h':p.1=k'
   ·subst h';simp [h]
   ·simp [h']
def ents (ek:α->Value)(f:β->AVal)(l:List (α×β)):List (Value×AVal):=l.map fun p=>(ek p.1,f p.2)
theorem ents_keys (ek:α->Value)(f:β->AVal)(l:List (α×β)):(ents ek f l).map (·.1)=(l.map (·.1)).map ek:=by
 unfold ents;simp
structure KeyT (P:Program)(kt:TypeId)(ek:α->Value):Prop where
 check:∀ e k,pr P (Instr.checkKey e 10000 kt (ek k))=some ()
 find:∀ (k:α) (keys:List α),keyAt P kt (ek k) (keys.map ek)=some (keys.findIdx? fun x=>x=k)
 same:∀ k,Instr.sameBits 10000 (ek k) (ek k)=true
theorem findIdx_fst (l:List (α×β))(k:α):(l.map (·.1)).findIdx? (fun x=>x=k)=l.findIdx? fun p=>p.1=k:=by
 rw [List.findIdx?_map];rfl
theorem put_ents (ek:α->Value)(f:β->AVal)(l:List (α×β))(k:α)(v:β):putEntry (ents ek f l) (l.findIdx? fun p=>p.1=k) (ek k) (f v)=ents ek f (kput l k v):=by
 unfold putEntry kput ents;cases l.findIdx? (fun p=>decide (p.1=k))<;>simp [List.map_set]
theorem get_ents (ek:α->Value)(f:β->AVal)(l:List (α×β))(k:α)(z:AVal):((l.findIdx? (fun p=>p.1=k)).map fun i=>(((ents ek f l)[i]?).map (·.2)).getD .undef).getD z=((kget l k).map f).getD z/\(l.findIdx? (fun p=>p.1=k)).isSome=(kget l k).isSome:=by
 induction l with
 | nil=>exact⟨rfl,rfl⟩
 | cons p l ih =>
  rw [List.findIdx?_cons,kget_cons];by_cases h:p.1=k
  ·simp [h,ents]
  ·simp only [h,decide_false,Bool.false_eq_true,if_false];refine⟨?_,?_⟩
   ·rw [← ih.1];cases l.findIdx? (fun p=>decide (p.1=k))<;>simp [ents]
   ·rw [← ih.2];simp
end
theorem findNow_str (k:ByteArray):∀ (keys:List ByteArray) (i:Nat),Instr.findNow .string (.string k) (keys.map fun x=>⟨.string x,undef,0⟩) i=some ((keys.findIdx? fun x=>x=k).map fun j=>(i+j,undef))
 | [],i=>rfl
 | x::keys,i=>by
  rw [List.map_cons,List.findIdx?_cons];show (match Instr.sameNow .string (.string k) (.string x) with|some true=>_|some false=>_|none=>_)=_
  have e:Instr.sameNow .string (.string k) (.string x)=some (decide (k=x)):=by rw [← ba_beq];rfl
  rw [e];by_cases h:k=x
  ·subst h;simp
  ·rw [decide_eq_false h];show Instr.findNow .string (.string k) _ (i+1)=_
   rw [findNow_str k keys (i+1)];have h':¬ x=k:=fun h'=>h h'.symm
   simp only [h',decide_false,Bool.false_eq_true,if_false];cases keys.findIdx? (fun x=>decide (x=k))<;>simp;omega
theorem keyT_str {P:Program}{kt:TypeId}(h:P.underlying kt=some .string):KeyT P kt Value.string where
 check e k:=by
  show pr P (underlying kt >>= _)=_
  rw [pr_b,pr_underlying h];rfl
 find k keys:=by
  unfold keyAt;have e:pr P (Instr.findKey kt (.string k) ((keys.map Value.string).map fun x=>⟨x,undef,0⟩))=some ((keys.findIdx? fun x=>x=k).map fun j=>(j,undef)):=by
   show pr P (underlying kt >>= _)=_
   rw [pr_b,pr_underlying h,Option.bind_some,List.map_map];have:=findNow_str k keys 0;simp only [Nat.zero_add] at this;rw [show ((fun x=>(⟨x,undef,0⟩ : MapEntry)) ∘ Value.string)=fun x=>⟨.string x,undef,0⟩ from rfl,this];rfl
  rw [e];cases keys.findIdx? (fun x=>decide (x=k))<;>rfl
 same k:=by
  show (k == k)=true
  rw [ba_beq];simp
section
variable {α β:Type}[DecidableEq α]{P:Program}{tkr:Nat->Option Nat}{ops:Array Oper}{K:St->Prop}{i:Nat}{rest:List Oper}{d:Nat}{T:Nat->AVal}{M:Mem}{ty ty₁ kt et:TypeId}{pos:String}{af:Array Edge}{x y z:Operand}{ek:α->Value}{f:β->AVal}{k:α}{v:β}{kvs:List (α×β)}{b:Nat}{dst:Option Nat}{g:Option (Nat×Bool)}
theorem o_mput (hu:P.underlying ty₁=some (.map kt et))(hk:KeyT P kt ek)(hm:ev T x = .raw (.map (some b)))(hy:ev T y = .raw (ek k))(hM:M b=some (.map (ents ek f kvs)))(hV:(ev T z).shut=f v)
 (h:aOps P tkr ops K (i+1) rest ⟨T,M.upd b (.map (ents ek f (kput kvs k v)))⟩):aOps P tkr ops K i (mkO none (.mapUpdate ty₁ x y z) ty pos af none::rest) ⟨T,M⟩:=by
 refine o_mapUpdate hu hm hy hM (hk.check false k) (by rw [ents_keys,hk.find,findIdx_fst]) (fun j hj=>?_) hV (by rw [put_ents];exact h);have h1:=List.findIdx?_eq_some_iff_getElem.1 hj;obtain⟨h2,h3,-⟩:=h1;have:(ents ek f kvs)[j]? = some (ek kvs[j].1,f kvs[j].2):=by unfold ents;simp [h2]
 rw [this];simp only [decide_eq_true_eq] at h3;show Instr.sameBits 10000 (ek kvs[j].1) (ek k)=true
 rw [h3];exact hk.same k
theorem aLookup_eq {ok:Bool}{zv:Value}{X Y:AVal}(hu:P.underlying ty₁=some (.map kt et))(hk:KeyT P kt ek)(hz:zeroT P et=some zv)(hm:X = .raw (.map (some b)))(hy:Y = .raw (ek k))(hM:M b=some (.map (ents ek f kvs))) :
 aLookup P M ty₁ X Y ok=some (if ok then .tup [((kget kvs k).map f).getD (ofConst zv),.raw (.bool (kget kvs k).isSome)] else ((kget kvs k).map f).getD (ofConst zv)):=by
 subst hm;subst hy;obtain⟨h1,h2⟩:=get_ents ek f kvs k (ofConst zv);simp only [aLookup,hu,rawOf,entsM,hM,hk.check,ents_keys,hk.find,findIdx_fst,hz];rw [h1,h2]
theorem q_mget {zv:Value}{V:AVal}(hu:P.underlying ty₁=some (.map kt et))(hk:KeyT P kt ek)(hz:zeroT P et=some zv)(hm:ev T x = .raw (.map (some b)))(hy:ev T y = .raw (ek k))(hM:M b=some (.map (ents ek f kvs)))(hV:(((kget kvs k).map f).getD (ofConst zv)).shut=V) :
 qstep P none (mkO dst (.lookup ty₁ x y false) ty pos af g) T M=some (⟨none,V⟩,[b]):=by
 subst hV;simp only [qstep,aop];rw [aLookup_eq hu hk hz hm hy hM];simp only [Option.map_some,readsOf,hm,Bool.false_eq_true,if_false]
theorem q_mget2 {zv:Value}{V:AVal}(hu:P.underlying ty₁=some (.map kt et))(hk:KeyT P kt ek)(hz:zeroT P et=some zv)(hm:ev T x = .raw (.map (some b)))(hy:ev T y = .raw (ek k))(hM:M b=some (.map (ents ek f kvs)))(hV:(((kget kvs k).map f).getD (ofConst zv)).shut1=V) :
 qstep P none (mkO dst (.lookup ty₁ x y true) ty pos af g) T M=some (⟨none,.tup [V,.raw (.bool (kget kvs k).isSome)]⟩,[b]):=by
 subst hV;simp only [qstep,aop];rw [aLookup_eq hu hk hz hm hy hM];simp only [Option.map_some,readsOf,hm,if_true,AVal.shut,List.map_cons,List.map_nil];rfl
end
end Go.Am
namespace Go.Am
set_option linter.unusedSimpArgs false
section
variable {P:Program}{T:Nat->AVal}{M:Mem}{t:TypeId}{x:Operand}{V X:AVal}{cells cells' out:List AVal}{rest:List (Nat×Operand)}{i off n:Nat}
theorem mapM_get {α β:Type}{f:α->Option β}:∀ (l:List α) (r:List β),l.mapM f=some r->∀ (i:Nat) a,l[i]? = some a->∃ b,r[i]? = some b/\f a=some b
 | [],r,h,i,a,ha=>by simp at ha
 | y::l,r,h,i,a,ha=>by
  rw [List.mapM_cons] at h;cases h1:f y with
  | none=>rw [h1] at h;cases h
  | some b =>
   rw [h1] at h;simp only [Option.bind_eq_bind,Option.bind_some] at h;cases h2:l.mapM f with
   | none=>rw [h2] at h;cases h
   | some r' =>
    rw [h2] at h;obtain rfl:=Option.some.inj h;cases i with
    | zero=>simp at ha;subst ha;exact⟨b,rfl,h1⟩
    | succ i=>simpa using mapM_get l r' h2 i a (by simpa using ha)
theorem places_fo {place:Nat->Option (Nat×Nat)}(hp:aPlaces P t=some place)(hf:fo P t i=some (off,n)):place i=some (off,n):=by
 obtain⟨fd,h1,h2,h3⟩:=fo_spec hf;unfold aPlaces at hp;unfold fieldT at h1;cases hu:P.underlying t with
 | none=>rw [hu] at h1;cases h1
 | some d =>
  rw [hu] at h1 hp;cases d<;>simp only at h1 hp<;>try cases h1
  rename_i fs;simp only [Option.map_eq_some_iff] at hp;obtain⟨ps,h4,rfl⟩:=hp;rw [Array.mapM_eq_mapM_toList] at h4;simp only [Option.map_eq_map,Option.map_eq_some_iff] at h4;obtain⟨l,h5,rfl⟩:=h4;obtain⟨b,h6,h7⟩:=mapM_get _ _ h5 i fd (by simpa using h1);simp only [h2,Option.map_some,Option.some.injEq] at h7;show l.toArray[i]? = _
  simp [h6,← h7,h3]
def BF (P:Program)(t:TypeId)(T:Nat->AVal)(cells:List AVal)(parts:List (Nat×Operand))(out:List AVal):Prop :=
 ∀ place,aPlaces P t=some place->aFill place cells (parts.map fun (i,x)=>(i,ev T x))=some out
theorem bf_nil:BF P t T cells [] cells:=fun _ _=>rfl
theorem bf (hf:fo P t i=some (off,n))(hV:ev T x=V)(hok:V.ok=true)(hn:V.cells.length=n)(hl:off+n<=cells.length)(hc:cells.take off++V.cells++cells.drop (off+n)=cells')(h:BF P t T cells' rest out):BF P t T cells ((i,x)::rest) out:=by
 intro place hp;subst hV;subst hc;subst hn;have h1:=h place hp;simp only [List.map_cons,aFill,places_fo hp hf];rw [if_neg (by simp [hok];omega)];exact h1
theorem e_raw {v:Value}(h:X = .raw v):X = .raw v:=h
theorem e_sl {l:List AVal}{o:Bool}(h:X = .sl l o):X = .sl l o:=h
theorem e_agg {l:List AVal}(h:X = .agg l):X = .agg l:=h
variable {dst:Option Nat}{g:Option (Nat×Bool)}{ty:TypeId}{pos:String}{af:Array Edge}{cs zs:List AVal}{parts:Array (Nat×Operand)}
theorem q_b (hz:(zeroT P t).map (fun z=>z.cells.toList.map AVal.raw)=some zs)(hp:(aPlaces P t).isSome=true)(h:BF P t T zs parts.toList cs):qstep P none (mkO dst (.build t parts) ty pos af g) T M=some (⟨none,.agg cs⟩,[]):=by
 refine q_build ?_;obtain⟨place,hpl⟩:=Option.isSome_iff_exists.1 hp;obtain⟨z,h1,h2⟩:=Option.map_eq_some_iff.1 hz;unfold aBuild;simp only [h1,hpl,h2,h place hpl,Option.map_some]
theorem loadP_w {n:Nat}{W:AVal}{ws:List AVal}(ha:aggT P t=some true)(hs:sizeT P t=some n)(hW:W = .agg ws)(hn:ws.length=n):loadP P t W.cells 0=some W:=by
 subst hW;subst hn;simp [loadP,ha,hs,piece,AVal.cells]
theorem ret_cell {fn:Func}{a b o:Nat}{l:List AVal}{Post:AVal->Mem->Prop}{e:Exit}(he:e = .ret\/e = .normal)(hr:fn.results.toList=[.cell a t])(hA:T a = .raw (.pointer (some ⟨b,o,none⟩)))(hM:M b=some (.cells l))(hl:loadP P t l o=some V)(h:Post V.shut M):aRet P fn Post e ⟨T,M⟩:=by
 have:aResults P ⟨T,M⟩ fn.results.toList=some V.shut:=by
  rw [hr];simp only [aResults,aRes1,hA,hM,hl,Option.map_some]
 rcases he with rfl|rfl
 ·show (match aResults P ⟨T,M⟩ fn.results.toList with|some r=>Post r M|none=>False)
  rw [this];exact h
 ·show (match aResults P ⟨T,M⟩ fn.results.toList with|some r=>Post r M|none=>False)
  rw [this];exact h
end
end Go.Am
namespace Go.Am
open Go.Deep Go.WideShapes Go.ChangeShapes Go.RowKit
set_option linter.unusedSimpArgs false
section
variable {H:Type}{enc:TypeId×Value->H}{P:Program}{w:World}{base:Nat}{spare:Nat->Bool}{held:Bool}
def imm0 (w:World):Ghost:=fun b _=>if b<w.heap.size then .imm else .free
theorem imm0_cell {a:Addr}{v:Value}(h:w.cell? a=some v):∀ o,imm0 w a.block o = .imm:=fun o=>by
 unfold imm0;rw [if_pos];unfold World.cell? at h;rcases Nat.lt_or_ge a.block w.heap.size with hb|hb
 ·exact hb
 ·rw [Array.getElem?_eq_none hb] at h;cases h
def Fits (P:Program)(w:World)(X:AVal)(cs:List Value):Prop:=X.cells.length=cs.length/\∀ (j:Nat) Y v,X.cells[j]? = some Y->cs[j]? = some v->Rep P (imm0 w) w Y v
theorem call_of_soundG {f:FuncId}{args:List AVal}{vs:Array Value}{X:Value}{G:Mem}(hG:∀ b o,G b=some o->GlobO o/\RepO P (imm0 w) w b o)(hlen:vs.size=args.length)(hs:SoundCall P f args G fun r _=>r = .raw X)
 (hr:∀ (i:Nat) A v,args[i]? = some A->vs[i]? = some v->Rep P (imm0 w) w A v/\A.free):Calls P f vs w fun e w'=>e = .returned X/\Below w.heap.size w w':=by
 have hT:∀ t,Rep P (imm0 w) w (argT args t) (vs.getD t undef)/\(argT args t).free:=by
  intro t;unfold argT;rw [List.getD_eq_getElem?_getD];rcases Nat.lt_or_ge t args.length with h|h
  ·have h1:args[t]? = some args[t]:=List.getElem?_eq_getElem h;have h2:vs[t]? = some vs[t]:=Array.getElem?_eq_getElem (by omega);rw [h1];have:=hr t _ _ h1 h2;have e:vs.getD t undef=vs[t]:=by simp [Array.getD,show t<vs.size by omega]
   rw [e];exact this
  ·rw [List.getElem?_eq_none h];exact⟨.undef _,by simp [AVal.free]⟩
 refine (hs (imm0 w) w vs hlen ⟨(fun t=>(hT t).1),(fun b o h=>(hG b o h).2),(fun b o h=>?_),(fun t b o hsp=>absurd hsp (Spare.not_free (hT t).2)),(fun b o t h=>?_),(fun b o c j h=>?_)⟩).mono ?_
 ·have hb:b<w.heap.size/\imm0 w b o = .imm:=by
   unfold imm0 at h ⊢;split at h
   ·rename_i e;exact⟨e,if_pos e⟩
   ·exact absurd rfl h
  exact⟨hb.1,fun p hp=>⟨hb.2,(hG b p hp).1⟩⟩
 ·unfold imm0 at h;split at h<;>cases h
 ·unfold imm0 at h;split at h<;>cases h
 ·rintro e w' ⟨v,κ',r,M',rfl,rfl,hH,hK⟩;have h0:=hH.tmp 0;have:Rep P κ' w' (.raw X) v:=by simpa [argT] using h0
  have hv:v=X:=rep_raw this;subst hv;exact⟨rfl,hK.os,hK.tape,hK.output,hK.size,fun k hk=>hK.block k hk fun o=>.inl (by unfold imm0;rw [if_pos hk])⟩
theorem glob_one {g:Nat}{c:Array Value}{e:TypeId}{fr:Nat×Nat}(h:w.heap[g]? = some (.cells c e fr)):∀ b o,(fun b=>if b=g then some (AObj.it (.cells c e fr)) else none:Mem) b=some o->GlobO o/\RepO P (imm0 w) w b o:=fun b o hb=>by
 dsimp only at hb;split at hb
 ·rename_i e;subst e;cases hb;exact⟨trivial,h,trivial⟩
 ·cases hb
end
end Go.Am
namespace Go.Am
set_option linter.unusedSimpArgs false
section
variable {P:Program}{tkr:Nat->Option Nat}{ops:Array Oper}{K:St->Prop}{i:Nat}{rest:List Oper}{d:Nat}{V X:AVal}{T:Nat->AVal}{M:Mem}{ty ty₁ e:TypeId}{pos:String}{af:Array Edge}{x y z:Operand}{args:Array Operand}{ats:Array TypeId}{f:FuncId}{avs:List AVal}
 {plan:List PStep} {H:List (Nat×Nat)} {o:Oper} {dst:Option Nat} {g:Option (Nat×Bool)} {cs:List AVal} {k:IntKind} {a b:Int} {Q:St->Prop}
theorem q_nil {p:Addr}(hx:ev T x = .raw (.pointer (some p))):qstep P none (mkO dst (.nilCheck x) ty pos af g) T M=some (⟨none,.raw (.pointer (some p))⟩,[]):=by
 simp only [qstep,aop,hx,Option.map_some,readsOf,AVal.shut,AVal.shut1]
theorem q_idxa {n sz:Nat}{p off:Nat}(hu:P.underlying ty₁=some (.array n e))(hs:sizeT P e=some sz)(hx:ev T x = .raw (.pointer (some ⟨p,off,none⟩)))(hy:ev T y = .raw (.int k a))(h0:0<=a)(h1:a<(n:Int)):qstep P none (mkO dst (.indexAddr ty₁ x y) ty pos af g) T M=some (⟨none,.raw (.pointer (some ⟨p,off+a.toNat*sz,none⟩))⟩,[]):=by
 simp only [qstep,aop,aIndexAddr,hx,hy,hu,hs,h0,h1,and_self,if_true,Option.map_some,readsOf,AVal.shut,AVal.shut1,AVal.shut1]
theorem q_idxr {sz n cap:Nat}{p off:Nat}(hu:P.underlying ty₁=some (.slice e))(hs:sizeT P e=some sz)(hx:ev T x = .raw (.slice (some ⟨p,off,none⟩) n cap))(hy:ev T y = .raw (.int k a))(h0:0<=a)(h1:a<(n:Int)):qstep P none (mkO dst (.indexAddr ty₁ x y) ty pos af g) T M=some (⟨none,.raw (.pointer (some ⟨p,off+a.toNat*sz,none⟩))⟩,[]):=by
 simp only [qstep,aop,aIndexAddr,hx,hy,hu,hs,h0,h1,and_self,if_true,Option.map_some,readsOf,AVal.shut,AVal.shut1,AVal.shut1]
theorem q_ix {n sz:Nat}{Y:AVal}{ag:Bool}(hu:P.underlying ty₁=some (.array n e))(hs:sizeT P e=some sz)(hag:aggT P e=some ag)(hx:ev T x = .agg cs)(hy:ev T y = .raw (.int k a))(h0:0<=a)(h1:a<(n:Int))(hp:piece ag cs (a.toNat*sz) sz=some Y)(hY:Y.shut=V):qstep P none (mkO dst (.index ty₁ x y) ty pos af g) T M=some (⟨none,V⟩,[]):=by
 subst hY;simp only [qstep,aop,aIndex,hx,hy,hu,hs,h0,h1,and_self,if_true,loadP,hag,hp,Option.map_some,readsOf]
theorem q_mkf1 {fn:Fn}{v:Value}(hx:ev T x = .raw v):qstep P none (mkO dst (.makeFunc fn #[] #[x]) ty pos af g) T M=some (⟨none,.raw (.func fn #[] #[v])⟩,[]):=by
 simp only [qstep,aop,List.map,hx];rfl
theorem q_mkf2 {fn:Fn}{v u:Value}(hx:ev T x = .raw v)(hy:ev T y = .raw u):qstep P none (mkO dst (.makeFunc fn #[] #[x,y]) ty pos af g) T M=some (⟨none,.raw (.func fn #[] #[v,u])⟩,[]):=by
 simp only [qstep,aop,List.map,hx,hy];rfl
theorem o_callv {Post:AVal->Mem->Prop}{first captured:Array Value}{avs':List AVal}(hF:ev T x = .raw (.func (.func f) first captured))(hc:SoundCall P f avs M Post)(hg:goesB P f=true)(ha:aArgs T none 0 args.toList=avs')(hav:first.toList.map .raw++avs'++captured.toList.map .raw=avs)(htk:tkr i=none)(h:∀ r M',Post r M'->aOps P tkr ops K (i+1) rest ⟨setT T d r,M'⟩) :
 aOps P tkr ops K i (mkO (some d) (.call { callee:=.value x,args,argTypes:=ats }) ty pos af none::rest) ⟨T,M⟩:=by
 refine o_x rfl ?_;rw [htk];show estep P none _ T M _
 unfold estep;dsimp only;rw [hF];dsimp only [eCall];refine⟨rfl,hg,trivial,Post,?_,?_⟩
 ·rw [ha,hav];exact hc
 ·intro r M' hp;exact h r M' hp
theorem o_makeSlice {n c:Int}{sz by_:Nat}{zs:List AVal}(hu:P.underlying ty₁=some (.slice e))(hs:sizeT P e=some sz)(hb:bytesT P e=some by_)(hz:zeroCellsT P e=some zs)(hzl:zs.length=sz)(h1:1<=sz)(hx:ev T x = .raw (.int .i64 n))(hy:ev T y = .raw (.int .i64 c))(hn:1<=n)(hc:n<=c)(hbc:by_*c<=2^46)(hc2:c<=2^46)
 (h:∀ b,M b=none->aOps P tkr ops K (i+1) rest ⟨setT T d (.raw (.slice (some ⟨b,0,none⟩) n.toNat c.toNat)),M.upd b (.cells (List.replicate c.toNat zs).flatten)⟩):aOps P tkr ops K i (mkO (some d) (.makeSlice ty₁ x y) ty pos af none::rest) ⟨T,M⟩:=by
 refine o_x rfl ?_;show estep P (tkr i) _ T M _
 unfold estep;dsimp only;rw [hx,hy];unfold eMakeSlice;simp only [hu,hs,hb,hz];exact⟨hzl,h1,hn,hc,hbc,hc2,fun b hb=>h b hb⟩
theorem d_s {ks:List Nat}{S:St}(ho:ops[i]? = some o)(h:aOps P tkr ops (fun S'=>(∀ p∈H,p.1∈ks->S'.M p.2=S.M p.2)/\aDraw P tkr ops Q plan H S') i [o] S):aDraw P tkr ops Q (.s i ks::plan) H S:=by
 show aOp P tkr ops i S _
 unfold aOp;rw [ho];exact h
theorem any_step {fuel:Nat}{l:Array Bool}{S:St}{r:List Nat}(hr:Region.ready .any ops l=r)(hne:r≠[])(h:∀ j∈r,aOp P tkr ops j S fun S'=>aAny P tkr ops Q [] fuel (l.setIfInBounds j true) S'):aAny P tkr ops Q [] (fuel+1) l S:=by
 refine⟨fun h0=>absurd (hr.symm.trans h0) hne,fun j hj=>aOp_mono (fun S' hx=>⟨(fun p hp=>by cases hp),hx⟩) (h j (hr ▸ hj))⟩
theorem d_any {un:List Nat}{rest:List PStep}{S:St}{l:Array Bool}{n:Nat}(hn:rest.length+1=n)(hl:lstd ops.size un=l)(h:aAny P tkr ops Q [] n l S):aDraw P tkr ops Q (.a un::rest) [] S:=by
 subst hn;subst hl;exact h
theorem any_done {fuel:Nat}{l:Array Bool}{S:St}(hr:Region.ready .any ops l=[])(h:Q S):aAny P tkr ops Q [] fuel l S:=by
 cases fuel with
 | zero=>exact⟨hr,h⟩
 | succ n=>exact⟨fun _=>h,fun j hj=>by rw [hr] at hj;cases hj⟩
theorem any_o {j:Nat}{S:St}(ho:ops[j]? = some o)(h:aOps P tkr ops K j [o] S):aOp P tkr ops j S K:=by
 unfold aOp;rw [ho];exact h
theorem Mem.fresh_ne {b c:Nat}{o:AObj}(h:M b=none)(h':M c=some o):c≠b:=fun e=>by subst e;rw [h] at h';cases h'
theorem Mem.upd_same {b:Nat}{o:AObj}(h:M b=some o):M.upd b o=M:=by
 funext c;unfold Mem.upd;split
 ·subst_vars;exact h.symm
 ·rfl
theorem SoundCall.leaves {M₁:Mem}{rT:AVal}(h:SoundCall P f avs M fun r L=>r=rT/\M₁.le L):SoundCall P f avs M fun r M'=>r=rT/\M'=M₁ :=
 fun κ w vs hs hh=>(h κ w vs hs hh).mono fun _ _ ⟨v,κ',r,_,e,hq,hH,hK⟩=>⟨v,κ',r,M₁,e,⟨hq.1,rfl⟩,hH.forget hq.2,hK⟩
theorem SoundCall.forgets {Post Post':AVal->Mem->Prop}(h:SoundCall P f avs M Post)(hp:∀ r M',Post r M'->∃ M₁:Mem,M₁.le M'/\Post' r M₁):SoundCall P f avs M Post' :=
 fun κ w vs hs hh=>(h κ w vs hs hh).mono fun _ _ ⟨v,κ',r,M',e,hq,hH,hK⟩=>by
  obtain⟨M₁,h1,h2⟩:=hp r M' hq;exact⟨v,κ',r,M₁,e,h2,hH.forget h1,hK⟩
theorem Mem.le_upds {M':Mem}{b:Nat}{o:AObj}(h:M.le M'):(M.upd b o).le (M'.upd b o):=fun c p hc=>by
 unfold Mem.upd at hc ⊢;split
 ·rename_i e;rw [if_pos e] at hc;exact hc
 ·rename_i e;rw [if_neg e] at hc;exact h c p hc
theorem aBin_bool {s t:Bool}(hu:P.underlying ty₁=some .bool):aBin P .eql ty₁ x y (.raw (.bool s)) (.raw (.bool t))=some (.raw (.bool (decide (s=t))))/\aBin P .neq ty₁ x y (.raw (.bool s)) (.raw (.bool t))=some (.raw (.bool (!decide (s=t)))):=by
 have h:=eq_bool (P:=P) hu s t;constructor
 ·show (pr P (Op.equal ty₁ (.bool s) (.bool t) >>= _)).map AVal.raw=_
  rw [pr_b];have:pr P (Op.equal ty₁ (.bool s) (.bool t))=some (decide (s=t)):=by
   show pr P (underlying ty₁ >>= _)=_
   rw [pr_b,pr_underlying hu];cases s<;>cases t<;>rfl
  rw [this];rfl
 ·show (pr P (Op.equal ty₁ (.bool s) (.bool t) >>= _)).map AVal.raw=_
  rw [pr_b];have:pr P (Op.equal ty₁ (.bool s) (.bool t))=some (decide (s=t)):=by
   show pr P (underlying ty₁ >>= _)=_
   rw [pr_b,pr_underlying hu];cases s<;>cases t<;>rfl
  rw [this];rfl
theorem q_beql {s t:Bool}{ty':TypeId}(hu:P.underlying ty₁=some .bool)(hx:ev T x = .raw (.bool s))(hy:ev T y = .raw (.bool t)):qstep P none (mkO dst (.binOp .eql ty₁ x y ty') ty pos af g) T M=some (⟨none,.raw (.bool (decide (s=t)))⟩,[]):=q_bin' hx hy (aBin_bool hu).1
theorem q_bneq {s t:Bool}{ty':TypeId}(hu:P.underlying ty₁=some .bool)(hx:ev T x = .raw (.bool s))(hy:ev T y = .raw (.bool t)):qstep P none (mkO dst (.binOp .neq ty₁ x y ty') ty pos af g) T M=some (⟨none,.raw (.bool (!decide (s=t)))⟩,[]):=q_bin' hx hy (aBin_bool hu).2
theorem equal_nil {p:Option Addr}(hu:P.underlying ty₁=some (.pointer e)):pr P (Op.equal ty₁ (.pointer p) (.pointer none))=some p.isNone:=by
 show pr P (underlying ty₁ >>= _)=_
 rw [pr_b,pr_underlying hu];cases p<;>rfl
theorem q_peql {p:Option Addr}{ty':TypeId}(hu:P.underlying ty₁=some (.pointer e))(hx:ev T x = .raw (.pointer p))(hy:ev T y = .raw (.pointer none)):qstep P none (mkO dst (.binOp .eql ty₁ x y ty') ty pos af g) T M=some (⟨none,.raw (.bool p.isNone)⟩,[]):=by
 refine q_bin' hx hy ?_;show (pr P (Op.equal ty₁ (.pointer p) (.pointer none) >>= _)).map AVal.raw=_
 rw [pr_b,equal_nil hu];rfl
theorem q_pneq {p:Option Addr}{ty':TypeId}(hu:P.underlying ty₁=some (.pointer e))(hx:ev T x = .raw (.pointer p))(hy:ev T y = .raw (.pointer none)):qstep P none (mkO dst (.binOp .neq ty₁ x y ty') ty pos af g) T M=some (⟨none,.raw (.bool (!p.isNone))⟩,[]):=by
 refine q_bin' hx hy ?_;show (pr P (Op.equal ty₁ (.pointer p) (.pointer none) >>= _)).map AVal.raw=_
 rw [pr_b,equal_nil hu];rfl
theorem o_cases {j:Nat}{gd:Nat}{t:Bool}{S:St}{want:Bool}{os:List Oper}(_:(ops[j]?).bind (·.dst)=some gd)(_:S.T gd = .raw (.bool t))(h1:t=want->aOps P tkr ops K i os S)(h2:t = !want->aOps P tkr ops K i os S):aOps P tkr ops K i os S:=by
 by_cases h:t=want
 ·exact h1 h
 ·exact h2 (by cases t<;>cases want<;>simp_all)
theorem o_skip {j:Nat}{want:Bool}{gd d':Nat}(hg:o.guard=some (j,want))(hj:(ops[j]?).bind (·.dst)=some gd)(ht:T gd = .raw undef)(hd:o.dst=some d')
 (no:aOps P tkr ops K (i+1) rest ⟨setT T d' (.raw undef),M⟩):aOps P tkr ops K i (o::rest) ⟨T,M⟩:=by
 show aGuard ops T o _ _
 unfold aGuard;rw [hg];simp only [hj,ht,hd];exact no
theorem d_cases {j:Nat}{gd:Nat}{t:Bool}{S:St}{want:Bool}{p:PStep}(_:(ops[j]?).bind (·.dst)=some gd)(_:S.T gd = .raw (.bool t))(h1:t=want->aDraw P tkr ops K (p::plan) H S)(h2:t = !want->aDraw P tkr ops K (p::plan) H S):aDraw P tkr ops K (p::plan) H S:=by
 by_cases h:t=want
 ·exact h1 h
 ·exact h2 (by cases t<;>cases want<;>simp_all)
theorem q_rem {ty':TypeId}(hx:ev T x = .raw (.int k a))(hy:ev T y = .raw (.int k b))(h0:b≠0):qstep P none (mkO dst (.binOp .rem ty₁ x y ty') ty pos af g) T M=some (⟨none,.raw (.int k (a.tmod b))⟩,[]):=by
 refine q_bin' hx hy ?_;have h:pr P (binOp .rem ty₁ (.int k a) (.int k b))=some (.int k (a.tmod b)):=by
  have e:binOp .rem ty₁ (.int k a) (.int k b)=Op.intDiv .rem k a b:=by cases k<;>rfl
  rw [e];unfold Op.intDiv;rw [if_neg h0];rfl
 show (pr P (binOp .rem ty₁ (.int k a) (.int k b))).map AVal.raw=_
 rw [h];rfl
theorem q_quo {ty':TypeId}(hx:ev T x = .raw (.int k a))(hy:ev T y = .raw (.int k b))(h0:b≠0)(hw:k.wrap (a.tdiv b)=a.tdiv b):qstep P none (mkO dst (.binOp .quo ty₁ x y ty') ty pos af g) T M=some (⟨none,.raw (.int k (a.tdiv b))⟩,[]):=by
 refine q_bin' hx hy ?_;have h:pr P (binOp .quo ty₁ (.int k a) (.int k b))=some (.int k (a.tdiv b)):=by
  have e:binOp .quo ty₁ (.int k a) (.int k b)=Op.intDiv .quo k a b:=by cases k<;>rfl
  rw [e];unfold Op.intDiv;rw [if_neg h0];show some (Value.int k (k.wrap (a.tdiv b)))=_
  rw [hw]
 show (pr P (binOp .quo ty₁ (.int k a) (.int k b))).map AVal.raw=_
 rw [h];rfl
end
end Go.Am
namespace Go.Am
set_option linter.unusedSimpArgs false
set_option linter.unusedSectionVars false
section
variable {P:Program}{tkr:Nat->Option Nat}{ops:Array Oper}{K:St->Prop}{i:Nat}{rest:List Oper}{d:Nat}{V X:AVal}{T:Nat->AVal}{M:Mem}{ty t₁ t₂:TypeId}{pos:String}{af:Array Edge}{x y z:Operand}{g:Option (Nat×Bool)}{dst:Option Nat}{a b:Int}{k:IntKind}
def RL (P:Program)(T:Nat->AVal)(M:Mem)(rs:List ResultVar)(Vs:List AVal):Prop:=rs.mapM (aRes1 P ⟨T,M⟩)=some Vs
theorem rl_nil:RL P T M [] []:=rfl
theorem rl_t {t:Nat}{rs:List ResultVar}{Vs:List AVal}(hV:T t=V)(h:RL P T M rs Vs):RL P T M (.tmp t::rs) (V::Vs):=by
 unfold RL at *
 rw [List.mapM_cons,h];subst hV;rfl
theorem rl_c {a' b o:Nat}{t:TypeId}{l:List AVal}{W:AVal}{rs:List ResultVar}{Vs:List AVal}(hA:T a' = .raw (.pointer (some ⟨b,o,none⟩)))(hM:M b=some (.cells l))(hl:loadP P t l o=some W)(hV:W.shut=V)(h:RL P T M rs Vs):RL P T M (.cell a' t::rs) (V::Vs):=by
 unfold RL at *
 rw [List.mapM_cons,h];simp only [aRes1,hA,hM,hl,Option.map_some,hV];rfl
theorem ret_many {fn:Func}{rs:List ResultVar}{Vs:List AVal}{Post:AVal->Mem->Prop}{e:Exit}(he:e = .ret\/e = .normal)(hr:fn.results.toList=rs)(h:RL P T M rs Vs)(hn:Nat.beq rs.length 1=false)(hp:Post (.tup Vs) M):aRet P fn Post e ⟨T,M⟩:=by
 have:aResults P ⟨T,M⟩ fn.results.toList=some (.tup Vs):=by
  rw [hr];unfold RL at h
  match rs,h,hn with
  | [],h,_=>simp only [aResults,h,Option.map_some]
  | x::y::zs,h,_=>simp only [aResults,h,Option.map_some]
 rcases he with rfl|rfl
 ·show (match aResults P ⟨T,M⟩ fn.results.toList with|some r=>Post r M|none=>False)
  rw [this];exact hp
 ·show (match aResults P ⟨T,M⟩ fn.results.toList with|some r=>Post r M|none=>False)
  rw [this];exact hp
theorem ret_one {fn:Func}{rv:ResultVar}{V:AVal}{Post:AVal->Mem->Prop}{e:Exit}(he:e = .ret\/e = .normal)(hr:fn.results.toList=[rv])(h:RL P T M [rv] [V])(hp:Post V M):aRet P fn Post e ⟨T,M⟩:=by
 have:aResults P ⟨T,M⟩ fn.results.toList=some V:=by
  rw [hr];unfold RL at h;rw [List.mapM_cons] at h;simp only [aResults];cases h1:aRes1 P ⟨T,M⟩ rv with
  | none=>rw [h1] at h;cases h
  | some W =>
   rw [h1] at h;simp only [List.mapM_nil,Option.bind_eq_bind,Option.bind_some] at h;have:=Option.some.inj h;simp only [List.cons.injEq,and_true] at this;rw [this]
 rcases he with rfl|rfl
 ·show (match aResults P ⟨T,M⟩ fn.results.toList with|some r=>Post r M|none=>False)
  rw [this];exact hp
 ·show (match aResults P ⟨T,M⟩ fn.results.toList with|some r=>Post r M|none=>False)
  rw [this];exact hp
theorem q_lens {ats:Array TypeId}{t:TypeId}{s:ByteArray}(h0:ats[0]? = some t)(hu:P.underlying t=some .string)(hx:ev T x = .raw (.string s)):qstep P none (mkO dst (.call { callee:=.builtin .len,args:=#[x],argTypes:=ats }) ty pos af g) T M=some (⟨none,.raw (.int .i64 s.size)⟩,[]):=by
 have e:aop P T M ty (.call { callee:=.builtin .len,args:=#[x],argTypes:=ats })=some (.raw (.int .i64 s.size)):=by
  simp only [aop,List.map,aBuiltin,hx];have:pr P (Builtin.len_ ats ty #[.string s])=some (.int .i64 s.size):=by
   unfold Builtin.len_;simp only [h0];show pr P ((underlying t) >>= _)=_
   rw [pr_b,pr_underlying hu];rfl
  rw [this];rfl
 have e2:readsOf T (.call { callee:=.builtin .len,args:=#[x],argTypes:=ats })=[]:=by simp only [readsOf,List.map,hx]
 show (aop P T M ty (.call { callee:=.builtin .len,args:=#[x],argTypes:=ats })).map _=_
 rw [e,Option.map_some,e2];rfl
theorem q_lenr {ats:Array TypeId}{t e:TypeId}{p:Option Addr}{n c:Nat}(h0:ats[0]? = some t)(hu:P.underlying t=some (.slice e))(hx:ev T x = .raw (.slice p n c)):qstep P none (mkO dst (.call { callee:=.builtin .len,args:=#[x],argTypes:=ats }) ty pos af g) T M=some (⟨none,.raw (.int .i64 n)⟩,[]):=by
 have e:aop P T M ty (.call { callee:=.builtin .len,args:=#[x],argTypes:=ats })=some (.raw (.int .i64 n)):=by
  simp only [aop,List.map,aBuiltin,hx];have:pr P (Builtin.len_ ats ty #[.slice p n c])=some (.int .i64 n):=by
   unfold Builtin.len_;simp only [h0];show pr P ((underlying t) >>= _)=_
   rw [pr_b,pr_underlying hu];rfl
  rw [this];rfl
 have e2:readsOf T (.call { callee:=.builtin .len,args:=#[x],argTypes:=ats })=[]:=by simp only [readsOf,List.map,hx]
 show (aop P T M ty (.call { callee:=.builtin .len,args:=#[x],argTypes:=ats })).map _=_
 rw [e,Option.map_some,e2];rfl
theorem q_stri {s:ByteArray}{n:Nat}(hu:P.underlying t₁=some .string)(hx:ev T x = .raw (.string s))(hy:ev T y = .raw (.int k a))(ha:a=(n:Int))(hn:n<s.size):qstep P none (mkO dst (.index t₁ x y) ty pos af g) T M=some (⟨none,.raw (.int .u8 (s.data[n]'hn).toNat)⟩,[]):=by
 subst ha;have e:pr P (Instr.index t₁ (.string s) (.int k n))=some (.int .u8 (s.data[n]'hn).toNat):=by
  unfold Instr.index;show pr P ((underlying t₁) >>= _)=_
  rw [pr_b,pr_underlying hu];simp only [Option.bind_some,Int.toNat_natCast];have h0:(0:Int)<=n:=Int.natCast_nonneg n;rw [if_pos h0];have hn':n<s.data.size:=hn;have h1:s[n]? = some (s.data[n]'hn):=by
   have:s[n]? = some s[n]:=getElem?_pos s n hn;rw [this];rfl
  rw [h1];rfl
 show (aop P T M ty (.index t₁ x y)).map _=_
 have e2:aop P T M ty (.index t₁ x y)=some (.raw (.int .u8 (s.data[n]'hn).toNat)):=by
  simp only [aop,aIndex,hx,hy,e,Option.map_some]
 rw [e2];rfl
theorem conv_i2i {s d':TypeId}{ts:TypeDesc}{kk:IntKind}(hs:P.underlying s=some ts)(hd:P.underlying d'=some (.int kk))(n:Int):pr P (convert s d' (.int k n))=some (.int kk (kk.wrap n)):=by
 show pr P ((underlying s) >>= _)=_
 rw [pr_b,pr_underlying hs,Option.bind_some,pr_b,pr_underlying hd];cases ts<;>rfl
theorem q_i2i {s d':TypeId}{ts:TypeDesc}{kk:IntKind}(hs:P.underlying s=some ts)(hd:P.underlying d'=some (.int kk))(hx:ev T x = .raw (.int k a))(hw:kk.wrap a=a):qstep P none (mkO dst (.convert s d' x) ty pos af g) T M=some (⟨none,.raw (.int kk a)⟩,[]):=by
 simp only [qstep,aop,hx,aConvert,conv_i2i hs hd,Option.map_some,readsOf,AVal.shut,AVal.shut1,hw]
theorem q_addw (hx:ev T x = .raw (.int k a))(hy:ev T y = .raw (.int k b)):qstep P none (mkO dst (.binOp .add t₁ x y t₂) ty pos af g) T M=some (⟨none,.raw (.int k (k.wrap (a+b)))⟩,[]):=by
 refine q_bin' hx hy ?_;cases k<;>rfl
theorem o_s2b {s' d':TypeId}{str:ByteArray}(hb:s2b P s' d'=true)(hx:ev T x = .raw (.string str))(h:∀ b cap,M b=none->str.size<=cap->aOps P tkr ops K (i+1) rest ⟨setT T d (.raw (.slice (some ⟨b,0,none⟩) str.size cap)),M.upd b (.cells (u8l str++List.replicate (cap - str.size) (.raw (.int .u8 0))))⟩) :
 aOps P tkr ops K i (mkO (some d) (.convert s' d' x) ty pos af none::rest) ⟨T,M⟩:=by
 refine o_x rfl ?_;show estep P (tkr i) _ T M _
 unfold estep;refine .inr ?_;unfold eS2B;rw [hx];exact⟨hb,fun b cap h1 h2=>h b cap h1 h2⟩
theorem q_b2s {s' d':TypeId}{b o n c:Nat}{l:List AVal}{W:AVal}(hb:b2s P s' d'=true)(hx:ev T x = .raw (.slice (some ⟨b,o,none⟩) n c))(hM:M b=some (.cells l))(hl:o+n<=l.length)(hs:aStr ((l.drop o).take n)=some W)(hW:W.shut=V) :
 qstep P none (mkO dst (.convert s' d' x) ty pos af g) T M=some (⟨none,V⟩,[b]):=by
 subst hW;simp only [qstep,aop,hx,aConvert,hM,hb,hl,and_self,if_true,hs,Option.map_some,readsOf]
theorem mapM_u8l:∀ bs:List UInt8,(bs.map fun b=>AVal.raw (.int .u8 b.toNat)).mapM u8of=some bs
 | []=>rfl
 | b::bs=>by
  rw [List.map_cons,List.mapM_cons,mapM_u8l bs];have:u8of (.raw (.int .u8 (b.toNat:Int)))=some b:=by
   show some (UInt8.ofNat ((b.toNat:Int).toNat))=_
   simp
  rw [this];rfl
theorem aStr_u8l (s:ByteArray):aStr (u8l s)=some (.raw (.string s)):=by
 unfold aStr u8l;rw [mapM_u8l];rfl
theorem u8l_length (s:ByteArray):(u8l s).length=s.size:=by
 unfold u8l;rw [List.length_map,Array.length_toList];rfl
theorem u8l_get {s:ByteArray}{j:Nat}{rest:List AVal}(h:j<s.size):(u8l s++rest)[j]? = some (.raw (.int .u8 (s.data[j]'h).toNat)):=by
 rw [List.getElem?_append_left (by rw [u8l_length];exact h)];unfold u8l;have h':j<s.data.size:=h;rw [List.getElem?_map,Array.getElem?_toList,Array.getElem?_eq_getElem h'];rfl
theorem q_shr {kk:IntKind}{n:Nat}(hx:ev T x = .raw (.int k a))(hy:ev T y = .raw (.int kk n))(hn:n<=k.bits):qstep P none (mkO dst (.binOp .shr t₁ x y t₂) ty pos af g) T M=some (⟨none,.raw (.int k (a / 2^n))⟩,[]):=by
 refine q_bin' hx hy ?_;have e:pr P (binOp .shr t₁ (.int k a) (.int kk n))=some (.int k (a / 2^n)):=by
  show pr P (Op.shift .shr k a kk n)=_
  unfold Op.shift;rw [if_neg (by omega)];simp only [Int.toNat_natCast,Nat.min_eq_left hn];show some (Value.int k (a.fdiv (2^n)))=_
  rw [Int.fdiv_eq_ediv_of_nonneg _ (Int.le_of_lt (Int.pow_pos (by decide)))]
 show (pr P (binOp .shr t₁ (.int k a) (.int kk n))).map AVal.raw=_
 rw [e];rfl
theorem bv_nat {n:Nat}{w:Nat}(h:n<2^w):(BitVec.ofInt w (n:Int)).toNat=n:=by
 rw [BitVec.toNat_ofInt];have:(n:Int) % (2^w:Nat)=n:=Int.emod_eq_of_lt (by omega) (by exact_mod_cast h);rw [this];rfl
theorem pr_bits {op:BinOp}{m n r:Nat}(hm:m<2^k.bits)(hn:n<2^k.bits)(hop:(op = .and/\r=m &&& n)\/(op = .or/\r=m ||| n)\/(op = .xor/\r=m ^^^ n))(hr:k.wrap r=r):pr P (binOp op t₁ (.int k m) (.int k n))=some (.int k r):=by
 have e:binOp op t₁ (.int k m) (.int k n)=Op.intBits op k m n:=by
  rcases hop with ⟨rfl,-⟩|⟨rfl,-⟩|⟨rfl,-⟩<;>cases k<;>rfl
 rw [e];unfold Op.intBits;rcases hop with ⟨rfl,rfl⟩|⟨rfl,rfl⟩|⟨rfl,rfl⟩
 ·show some (Value.int k (k.wrap (BitVec.ofInt k.bits m &&& BitVec.ofInt k.bits n).toNat))=_
  rw [BitVec.toNat_and,bv_nat hm,bv_nat hn,hr]
 ·show some (Value.int k (k.wrap (BitVec.ofInt k.bits m ||| BitVec.ofInt k.bits n).toNat))=_
  rw [BitVec.toNat_or,bv_nat hm,bv_nat hn,hr]
 ·show some (Value.int k (k.wrap (BitVec.ofInt k.bits m ^^^ BitVec.ofInt k.bits n).toNat))=_
  rw [BitVec.toNat_xor,bv_nat hm,bv_nat hn,hr]
theorem q_bits {op:BinOp}{m n r:Nat}(hx:ev T x = .raw (.int k m))(hy:ev T y = .raw (.int k n))(hm:m<2^k.bits)(hn:n<2^k.bits)(hop:(op = .and/\r=m &&& n)\/(op = .or/\r=m ||| n)\/(op = .xor/\r=m ^^^ n))(hr:k.wrap r=r) :
 qstep P none (mkO dst (.binOp op t₁ x y t₂) ty pos af g) T M=some (⟨none,.raw (.int k r)⟩,[]):=by
 refine q_bin' hx hy ?_;have e:aBin P op t₁ x y (.raw (.int k m)) (.raw (.int k n))=(pr P (binOp op t₁ (.int k m) (.int k n))).map AVal.raw:=by
  rcases hop with ⟨rfl,-⟩|⟨rfl,-⟩|⟨rfl,-⟩<;>rfl
 rw [e,pr_bits hm hn hop hr];rfl
theorem u8_wrap {n:Nat}(h:n<256):IntKind.u8.wrap (n:Int)=n:=by
 simp only [IntKind.wrap,IntKind.signed,IntKind.bits];simp;omega
end
end Go.Am
namespace Go.Am
set_option linter.unusedSimpArgs false
set_option linter.unusedVariables false
set_option linter.unusedSectionVars false
section
variable {P:Program}{tkr:Nat->Option Nat}{ops:Array Oper}{K:St->Prop}{i:Nat}{rest:List Oper}{d:Nat}{V X:AVal}{T:Nat->AVal}{M:Mem}{ty t₁ t₂:TypeId}{pos:String}{af:Array Edge}{x y z:Operand}{g:Option (Nat×Bool)}{dst:Option Nat}{a b:Int}{k:IntKind}
theorem o_nilcmp {op:BinOp}{e:TypeId}{l:List AVal}{own:Bool}(hu:P.underlying t₁=some (.slice e))(hx:ev T x = .sl l own)(hy:isNilSlice y=true)(hop:op = .eql\/op = .neq)
 (h:∀ b,(l≠[]->b=decide (op = .neq))->aOps P tkr ops K (i+1) rest ⟨setT T d (.raw (.bool b)),M⟩):aOps P tkr ops K i (mkO (some d) (.binOp op t₁ x y t₂) ty pos af none::rest) ⟨T,M⟩:=by
 refine o_x rfl ?_;show estep P (tkr i) _ T M _
 unfold estep;refine .inr ?_;unfold eNil;rw [hx,hu];exact⟨hy,hop,fun b hb=>h b hb⟩
theorem o_range {s:ByteArray}(hu:P.underlying t₁=some .string)(hx:ev T x = .raw (.string s))(h:∀ b,M b=none->aOps P tkr ops K (i+1) rest ⟨setT T d (.raw (.pointer (some ⟨b,0,none⟩))),M.upd b (.it (.stringIter s 0))⟩) :
 aOps P tkr ops K i (mkO (some d) (.range t₁ x) ty pos af none::rest) ⟨T,M⟩:=by
 refine o_x rfl ?_;show estep P (tkr i) _ T M _
 unfold estep;dsimp only;unfold eRange;rw [hx,hu];exact fun b hb=>h b hb
theorem o_next {s:ByteArray}{p r:Nat}(hx:ev T x = .raw (.pointer (some ⟨r,0,none⟩)))(hM:M r=some (.it (.stringIter s p)))
 (h1:p<s.size->aOps P tkr ops K (i+1) rest ⟨setT T d (.raw (.tuple #[.bool true,goInt p,.int .i32 (Utf8.decode s p).1])),M.upd r (.it (.stringIter s (p+(Utf8.decode s p).2)))⟩)
 (h2:¬ p<s.size->aOps P tkr ops K (i+1) rest ⟨setT T d (.raw (.tuple #[.bool false])),M⟩) :
 aOps P tkr ops K i (mkO (some d) (.next x true) ty pos af none::rest) ⟨T,M⟩:=by
 refine o_x rfl ?_;show estep P (tkr i) _ T M _
 unfold estep;dsimp only;unfold eNext;rw [hx];simp only [hM];split
 ·rename_i h;exact h1 h
 ·rename_i h;exact h2 h
theorem q_extr {n:Nat}{vs:Array Value}{v:Value}(hx:ev T x = .raw (.tuple vs))(hi:vs[n]? = some v):qstep P none (mkO dst (.extract x n) ty pos af g) T M=some (⟨none,.raw v⟩,[]):=by
 simp only [qstep,aop,hx,hi,Option.map_some,readsOf,Option.isSome_none,Bool.false_eq_true,if_false];rfl
theorem o_ext {n t j:Nat}{vs l:List AVal}{own:Bool}(htk:tkr i=some n)(hx:T t = .tup vs)(hi:vs[j]? = some (.sl l own))(hX:(T t).shut=X)(h:aOps P tkr ops K (i+1) rest ⟨setT (setT T t X) d (.sl l own),M⟩) :
 aOps P tkr ops K i (mkO (some d) (.extract (.tmp t) j) ty pos af none::rest) ⟨T,M⟩:=by
 refine o_x rfl ?_;rw [htk];show estep P (some n) _ T M _
 unfold estep;have hx':ev T (.tmp t) = .tup vs:=hx;simp only [Option.isSome_some,if_true,hx',hi];subst hX;exact h
theorem q_max {ats:Array TypeId}(hx:ev T x = .raw (.int k a))(hy:ev T y = .raw (.int k b)):qstep P none (mkO dst (.call { callee:=.builtin .max,args:=#[x,y],argTypes:=ats }) ty pos af g) T M=some (⟨none,.raw (.int k (max a b))⟩,[]):=by
 have e:aop P T M ty (.call { callee:=.builtin .max,args:=#[x,y],argTypes:=ats })=some (.raw (.int k (max a b))):=by
  have h:pr P (Builtin.max_ ats ty #[.int k a,.int k b])=some (.int k (if b > a then b else a)):=rfl;have hm:(if b > a then b else a)=max a b:=by split<;>omega
  rw [hm] at h;simp only [aop,List.map,aBuiltin,hx,hy,rawsOf,List.mapM_cons,List.mapM_nil,rawOf,Option.bind_eq_bind,Option.bind_some,Option.pure_def,h,Option.map_some]
 show (aop P T M ty (.call { callee:=.builtin .max,args:=#[x,y],argTypes:=ats })).map _=_
 rw [e];rfl
theorem q_min {ats:Array TypeId}(hx:ev T x = .raw (.int k a))(hy:ev T y = .raw (.int k b)):qstep P none (mkO dst (.call { callee:=.builtin .min,args:=#[x,y],argTypes:=ats }) ty pos af g) T M=some (⟨none,.raw (.int k (min a b))⟩,[]):=by
 have e:aop P T M ty (.call { callee:=.builtin .min,args:=#[x,y],argTypes:=ats })=some (.raw (.int k (min a b))):=by
  have h:pr P (Builtin.min_ ats ty #[.int k a,.int k b])=some (.int k (if b<a then b else a)):=rfl;have hm:(if b<a then b else a)=min a b:=by split<;>omega
  rw [hm] at h;simp only [aop,List.map,aBuiltin,hx,hy,rawsOf,List.mapM_cons,List.mapM_nil,rawOf,Option.bind_eq_bind,Option.bind_some,Option.pure_def,h,Option.map_some]
 show (aop P T M ty (.call { callee:=.builtin .min,args:=#[x,y],argTypes:=ats })).map _=_
 rw [e];rfl
theorem q_slice {st e:TypeId}{sz n m:Nat}{l:List AVal}{own:Bool}{lo hi:Option Operand}(hu:P.underlying st=some (.slice e))(hs:sizeT P e=some sz)(hx:ev T x = .sl l own)(hl:Els sz l)
 (hlo:aBound T 0 lo=some n) (hhi:aBound T l.length hi=some m) (h1:n<=m) (h2:m<=l.length):qstep P none (mkO dst (.slice st x lo hi none) ty pos af g) T M=some (⟨none,.sl ((l.take m).drop n) false⟩,[]):=by
 have e1:(l.all fun V=>V.cells.length == sz)=true:=List.all_eq_true.2 fun V hV=>by simp [(hl V hV).2]
 have e:aop P T M ty (.slice st x lo hi none)=some (.sl ((l.take m).drop n) false):=by
  have hm:aBound T l.length none=some l.length:=rfl;simp only [aop,hx,aSlice,hu,hs,e1,if_true,hlo,hhi,hm];simp [h1,h2]
 show (aop P T M ty (.slice st x lo hi none)).map _=_
 rw [e];rfl
theorem ab_none {d:Nat}:aBound T d none=some d:=rfl
theorem ab {d n:Nat}(hx:ev T x = .raw (.int k a))(ha:a=(n:Int)):aBound T d (some x)=some n:=by
 subst ha;simp only [aBound,hx];rw [if_pos (Int.natCast_nonneg n)];simp
def Mem.imp (M M':Mem):Prop:=∀ b o',M' b=some o'->∃ o,M b=some o/\(GlobO o->GlobO o')/\∀ (P:Program) (κ:Ghost) (w:World),RepO P κ w b o->RepO P κ w b o'
theorem Mem.imp_trans {M M' M'':Mem}(h:M.imp M')(h':M'.imp M''):M.imp M'':=fun b o hb=>by
 obtain⟨o1,h1,g1,h2⟩:=h' b o hb;obtain⟨o2,h3,g2,h4⟩:=h b o1 h1;exact⟨o2,h3,fun h=>g1 (g2 h),fun P κ w hr=>h2 P κ w (h4 P κ w hr)⟩
theorem Holds.imp {P:Program}{κ:Ghost}{w:World}{T:Nat->AVal}{V:Nat->Value}{M M':Mem}(h:Holds P κ T V M w)(hi:M.imp M'):Holds P κ T V M' w where
 tmp:=h.tmp
 obj b o' hb:=by
  obtain⟨o,h1,-,h2⟩:=hi b o' hb;exact h2 P κ w (h.obj b o h1)
 tag b x hx:=by
  obtain⟨h1,h2⟩:=h.tag b x hx;refine⟨h1,fun p hp=>?_⟩;obtain⟨o,h3,h4,-⟩:=hi b p hp;exact⟨(h2 o h3).1,h4 (h2 o h3).2⟩
 sp:=h.sp
 wr:=h.wr
 mwr:=h.mwr
theorem SoundCall.recast {f:FuncId}{avs:List AVal}{Post Post':AVal->Mem->Prop}(h:SoundCall P f avs M Post)(hp:∀ r M',Post r M'->∃ M₁:Mem,M'.imp M₁/\Post' r M₁):SoundCall P f avs M Post' :=
 fun κ w vs hs hh=>(h κ w vs hs hh).mono fun _ _ ⟨v,κ',r,M',e,hq,hH,hK⟩=>by
  obtain⟨M₁,h1,h2⟩:=hp r M' hq;exact⟨v,κ',r,M₁,e,h2,hH.imp h1,hK⟩
def nilOwn:AVal->AVal
 | .raw (.slice none 0 0)=>.sl [] true
 | V=>V
theorem rep_nilOwn {P:Program}{κ:Ghost}{w:World}{V:AVal}{v:Value}(h:Rep P κ w V v):Rep P κ w (nilOwn V) v:=by
 unfold nilOwn;split
 ·rw [rep_raw h];exact .nil true
 ·exact h
theorem spare_nilOwn {P:Program}{w:World}{V:AVal}{v:Value}{b o:Nat}{κ:Ghost}(hr:Rep P κ w V v)(h:Spare P w (nilOwn V) v b o):Spare P w V v b o:=by
 unfold nilOwn at h;split at h
 ·have:=rep_raw hr;subst this;obtain⟨_,_,_,_,e,_⟩:=h.sl;cases e
 ·exact h
theorem Mem.imp_nil {M:Mem}{b:Nat}{l:List AVal}(hM:M b=some (.cells l)):M.imp (M.upd b (.cells (l.map nilOwn))):=fun c o' hc=>by
 unfold Mem.upd at hc;split at hc
 ·rename_i e;subst e;cases hc;refine⟨_,hM,fun h=>h.elim,fun P κ w hr=>?_⟩;obtain⟨cs,e,fr,a1,a2,a3,a4⟩:=hr;refine⟨cs,e,fr,a1,by rw [List.length_map];exact a2,a3,fun j V v e1 e2=>?_⟩;rw [List.getElem?_map] at e1;simp only [Option.map_eq_some_iff] at e1;obtain⟨W,e1,rfl⟩:=e1;obtain⟨h1,h2,h3⟩:=a4 j W v e1 e2;exact⟨rep_nilOwn h1,h2,fun b' o' hs=>h3 b' o' (spare_nilOwn h1 hs)⟩
 ·exact⟨o',hc,id,fun _ _ _ h=>h⟩
end
end Go.Am
