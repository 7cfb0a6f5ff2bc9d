import Derived.Test.YthmhdhmfkegpiaaGreatDoorAmG
import Derived.Below
import Derived.Test.YthmhdhmfkegpiaaGreatDoorAmC
namespace Go.Am
set_option linter.unusedVariables false
set_option linter.unusedSimpArgs false
section
variable {P:Program}{κ:Ghost}{w:World}{f:FuncId}{args:List AVal}{M:Mem}{Post Post':AVal->Mem->Prop}
theorem Holds.reres {A B:AVal}{v:Value}(h:Holds P κ (argT [A]) (fun t=>if t=0 then v else undef) M w)(hr:Rep P κ w B v)(hno:∀ b o,¬ Spare P w B v b o):Holds P κ (argT [B]) (fun t=>if t=0 then v else undef) M w:=by
 have key:∀ t,t≠0->argT [B] t=argT [A] t:=fun t ht=>by
  cases t with
  | zero=>exact absurd rfl ht
  | succ t=>simp [argT]
 refine { h with tmp:=fun t=>?_,sp:=?_ }
 ·by_cases ht:t=0
  ·subst ht;have e1:argT [B] 0=B:=rfl;rw [e1];simp only [if_true];exact hr
  ·rw [key t ht];exact h.tmp t
 ·intro t;by_cases ht:t=0
  ·subst ht;intro b o hs;exact absurd hs (hno _ _)
  ·rw [key t ht];exact h.sp t
theorem SoundCall.reres (h:SoundCall P f args M Post)(hp:∀ r M',Post r M'->∃ B,Post' B M'/\(∀ κ w v,Rep P κ w r v->Rep P κ w B v)/\∀ w v b o,¬ Spare P w B v b o):SoundCall P f args M Post':=fun κ w vs hs hh=>(h κ w vs hs hh).mono fun _ w' ⟨v,κ',r,M',e,hq,hH,hK⟩=>by
 obtain⟨B,h1,h2,h3⟩:=hp r M' hq;exact⟨v,κ',B,M',e,h1,hH.reres (h2 _ _ _ (hH.tmp 0)) (h3 _ _),hK⟩
theorem no_spare_pair {cs:List AVal}{u:Value}(w:World)(v:Value)(b o:Nat):¬ Spare P w (.tup [.agg cs,.raw u]) v b o:=fun hs=>by
 rcases hs with ⟨_,_,_,e,_⟩|⟨Vs,vs,i,X,x,e,e2,e3,e4,⟨_,_,_,e5,_⟩⟩
 ·cases e
 ·cases e
  match i,e3 with
  | 0,e3=>cases e3;cases e5
  | 1,e3=>cases e3;cases e5
  | i+2,e3=>simp at e3
theorem rep_nil_last {cs:List AVal}{u:Value}{v:Value}(h:Rep P κ w (.tup [.agg (cs++[.raw (.slice none 0 0)]),.raw u]) v):Rep P κ w (.tup [.agg (cs++[.sl [] false]),.raw u]) v:=by
 cases h with
 | tup _ vs hl hr =>
  refine .tup _ vs (by simpa using hl) fun i c x g1 g2=>?_
  match i,g1,g2 with
  | 0,g1,g2 =>
   obtain rfl:=Option.some.inj g1;have h0:=hr 0 _ x rfl g2;cases h0 with
   | agg _ us hl2 hr2 =>
    refine .agg _ us (by simpa using hl2) fun j c y g3 g4=>?_
    rw [List.getElem?_append] at g3;split at g3
    ·rename_i hj;exact hr2 j c y (by rw [List.getElem?_append_left hj];exact g3) g4
    ·rename_i hj;have hj0:j - cs.length=0:=by
      have:=(List.getElem?_eq_some_iff.1 g3).1;rw [List.length_singleton] at this;omega
     rw [hj0] at g3;obtain rfl:=Option.some.inj g3;have h5:=hr2 j (.raw (.slice none 0 0)) y (by rw [List.getElem?_append_right (by omega),hj0];rfl) g4;obtain rfl:=rep_raw h5;exact .nil false
  | 1,g1,g2=>exact hr 1 _ x (by simpa using g1) g2
  | i+2,g1,_=>simp at g1
end
end Go.Am
namespace Go.Am
set_option linter.unusedVariables false
set_option linter.unusedSimpArgs false
set_option autoImplicit false
def AVal.deep:AVal->AVal
 | .agg cs=>.agg (cs.map AVal.shut1)
 | v=>v
section
variable {P:Program}{κ:Ghost}{w:World}{f:FuncId}{args:List AVal}{M:Mem}{Post:AVal->Mem->Prop}
theorem Rep.deep {X:AVal}{v:Value}(h:Rep P κ w X v):Rep P κ w X.deep v:=by
 cases X with
 | agg cs =>
  cases h with
  | agg _ vs hl hr =>
   refine .agg _ vs (by rw [List.length_map];exact hl) fun i c x h1 h2=>?_
   rw [List.getElem?_map] at h1;cases hc:cs[i]? with
   | none=>rw [hc] at h1;cases h1
   | some d =>
    rw [hc] at h1;obtain rfl:=Option.some.inj h1;exact (hr i d x hc h2).shut1
 | _=>exact h
theorem Spare.of_deep {X:AVal}{v:Value}{b o:Nat}(h:Spare P w X.deep v b o):Spare P w X v b o:=by
 cases X with
 | agg cs=>rcases h with ⟨_,_,_,e,_⟩|⟨Vs,vs,i,Y,y,e,_⟩<;>cases e
 | _=>exact h
theorem argT_deep (t:Nat):argT (args.map AVal.deep) t=(argT args t).deep:=by
 unfold argT;rw [List.getD_eq_getElem?_getD,List.getD_eq_getElem?_getD,List.getElem?_map];cases args[t]?<;>rfl
theorem SoundCall.deep (h:SoundCall P f (args.map AVal.deep) M Post):SoundCall P f args M Post:=fun κ w vs hs hh =>
 h κ w vs (by rw [List.length_map];exact hs) { hh with
  tmp:=fun t=>by rw [argT_deep];exact (hh.tmp t).deep
  sp:=fun t b o hsp=>hh.sp t b o (by rw [argT_deep] at hsp;exact hsp.of_deep) }
end
end Go.Am
namespace Go.Am
open Go.RowKit Go.Proofs
set_option linter.unusedVariables false
set_option linter.unusedSimpArgs false
set_option autoImplicit false
section
variable {P:Program}{κ:Ghost}{w w':World}{T:Nat->AVal}{V:Nat->Value}{M:Mem}
theorem Holds.belowW (h:Holds P κ T V M w)(hB:Below w.heap.size w w'):Holds P κ T V M w'/\Keep κ w κ w':=by
 have hb':∀ b,b<w.heap.size->w'.heap[b]? = w.heap[b]?:=hB.block
 have hk:Keep κ w κ w':={
  os:=hB.os
  tape:=hB.tape
  output:=hB.output
  size:=hB.size
  shape:=fun b hb=>shape_of_block (hb' b hb)
  imm:=fun b x hx=>⟨hx,cell_of_block (hb' b (h.tag b x (by rw [hx];simp)).1)⟩
  frame:=fun b x hx=>⟨hx,cell_of_block (hb' b (h.tag b x (by rw [hx];simp)).1),frozen_of_block (hb' b (h.tag b x (by rw [hx];simp)).1)⟩
  block:=fun b hb _=>hb' b hb }
 refine⟨⟨fun t=>hk.rep (h.tmp t),fun b o hb=>?_,fun b o hb=>⟨Nat.lt_of_lt_of_le (h.tag b o hb).1 hk.size,(h.tag b o hb).2⟩,fun t b o hsp=>h.sp t b o (hsp.keep (h.tmp t) hk.shape),fun b o t hb=>?_,fun b o c j hb=>?_⟩,hk⟩
 ·have hlt':=h.lt hb;have:=h.obj b o hb;cases o with
  | it o=>exact⟨(hb' b hlt').trans this.1,this.2⟩
  | cells l =>
   obtain⟨c,e,fr,a1,a2,a3,a4⟩:=this;exact⟨c,e,fr,(hb' b hlt').trans a1,a2,fun x hx=>(frozen_of_block (hb' b hlt')).trans (a3 x hx),fun j X x e1 e2=>⟨hk.rep (a4 j X x e1 e2).1,(a4 j X x e1 e2).2.1,fun b' o' hs=>(a4 j X x e1 e2).2.2 b' o' (hs.keep (a4 j X x e1 e2).1 hk.shape)⟩⟩
  | map es =>
   obtain⟨ents,clock,a1,a2,a3,a4,a5⟩:=this;exact⟨ents,clock,(hb' b hlt').trans a1,a2,fun j e ent e1 e2=>⟨(a3 j e ent e1 e2).1,hk.rep (a3 j e ent e1 e2).2.1,fun b' o' hs=>(a3 j e ent e1 e2).2.2 b' o' (hs.keep (a3 j e ent e1 e2).2.1 hk.shape)⟩,a4,a5⟩
 ·have:=h.wr b o t hb;have hlt':=(h.tag b o (by rw [hb];simp)).1;exact⟨by rw [cell_of_block (hb' b hlt')];exact this.1,by rw [frozen_of_block (hb' b hlt')];exact this.2⟩
 ·have:=h.mwr b o c j hb;have hlt':=(h.tag b o (by rw [hb];simp)).1;exact⟨by rw [cell_of_block (hb' b hlt')];exact this.1,by rw [frozen_of_block (hb' b hlt')];exact this.2⟩
theorem Holds.backW (h:Holds P κ T V M w)(hB:Below w.heap.size w w')(v:Value):∃ κ',Holds P κ' (argT [.raw v]) (fun t=>if t=0 then v else undef) M w'/\Keep κ w κ' w':=by
 obtain⟨h1,h2⟩:=h.belowW hB;obtain⟨h3,h4⟩:=h1.ret (r:=.raw v) (.raw v) none (.inr trivial);exact⟨_,h3,h2.trans h4⟩
end
end Go.Am
namespace Go.Am
set_option linter.unusedVariables false
set_option linter.unusedSimpArgs false
set_option autoImplicit false
theorem NilL.append {a a' b b':List AVal}(h1:NilL a a')(h2:NilL b b'):NilL (a++b) (a'++b'):=by
 refine⟨by rw [List.length_append,List.length_append,h1.1,h2.1],fun j c c' e1 e2=>?_⟩;rw [List.getElem?_append] at e1 e2;rw [h1.1] at e2;split at e1
 ·rename_i hj;rw [if_pos hj] at e2;exact h1.2 j c c' e1 e2
 ·rename_i hj;rw [if_neg hj] at e2;exact h2.2 _ c c' e1 e2
theorem NilL.refl (l:List AVal):NilL l l:=⟨rfl,fun j c c' h1 h2=>.inl (by rw [h1] at h2;exact (Option.some.inj h2).symm)⟩
theorem NilL.nilO (l:List AVal):NilL l (l.map Am.nilO):=⟨List.length_map _,fun j c c' h1 h2=>by
 rw [List.getElem?_map,h1] at h2;obtain rfl:=Option.some.inj h2;rcases nilO_cases c with ⟨h3,h4⟩|h4
 ·exact .inr ⟨h3,h4⟩
 ·exact .inl h4⟩
section
variable {P:Program}{T:Nat->AVal}{M:Mem}{x y:Operand}{ty ty₁:TypeId}{pos:String}{af:Array Edge}{tkr:Nat->Option Nat}{ops:Array Oper}{K:St->Prop}{i:Nat}{rest:List Oper}
theorem o_storeN {b off n:Nat}{l l':List AVal}{V:AVal}(ha:ev T x = .raw (.pointer (some ⟨b,off,none⟩)))(hM:M b=some (.cells l))(hV:ev T y=V)(hok:V.ok=true)(hs:sizeT P ty₁=some n)(hn:V.cells.length=n)(hl:off+n<=l.length)(hown:V.own=false)
 (he:splice l off (V.cells.map fun c=>nilO c.shut)=l')
 (h:aOps P tkr ops K (i+1) rest ⟨T,M.upd b (.cells l')⟩):aOps P tkr ops K i (mkO none (.store ty₁ x y) ty pos af none::rest) ⟨T,M⟩:=by
 refine o_xs rfl (.inr ?_);show _/\eStore P ty₁ (ev T x) (ev T y) y M _
 rw [ha,hV];unfold eStore;dsimp only;rw [hM];refine⟨rfl,hok,by rw [hn];exact hs,by omega,?_⟩;have hN:NilL (splice l off (V.cells.map AVal.shut)) l':=by
  rw [← he];unfold splice;rw [List.length_map,List.length_map];have e:(V.cells.map fun c=>nilO c.shut)=(V.cells.map AVal.shut).map nilO:=by rw [List.map_map];rfl
  rw [e];exact ((NilL.refl _).append (NilL.nilO _)).append (NilL.refl _)
 have key:NilM (M.upd b (.cells (splice l off (V.cells.map AVal.shut)))) fun M1 V=>aOps P tkr ops K (i+1) rest (Eff.apply ⟨none,M1,V⟩ ⟨T,M⟩ none) :=
  ⟨b,_,l',Mem.upd_self _ _ _,hN,by rw [Mem.upd_upd];exact h⟩
 split
 ·cases hown
 ·exact⟨rfl,key⟩
end
end Go.Am
namespace Go.Am
inductive NilF:List AVal->List AVal->Prop
 | nil:NilF [] []
 | same {l l':List AVal} (c:AVal):NilF l l'->NilF (c::l) (c::l')
 | conv {l l':List AVal} (o:Bool):NilF l l'->NilF (.raw (.slice none 0 0)::l) (.sl [] o::l')
theorem NilF.get {l l':List AVal}(h:NilF l l'):l'.length=l.length/\∀ (j:Nat) c c',l[j]? = some c->l'[j]? = some c'->c'=c\/(c = .raw (.slice none 0 0)/\∃ o,c' = .sl [] o):=by
 induction h with
 | nil=>exact⟨rfl,fun j c c' h=>by simp at h⟩
 | same c _ ih =>
  refine⟨by rw [List.length_cons,List.length_cons,ih.1],fun j a a' h1 h2=>?_⟩;cases j with
  | zero=>rw [List.getElem?_cons_zero] at h1 h2;cases h1;cases h2;exact .inl rfl
  | succ j=>exact ih.2 j a a' (by simpa using h1) (by simpa using h2)
 | conv o _ ih =>
  refine⟨by rw [List.length_cons,List.length_cons,ih.1],fun j a a' h1 h2=>?_⟩;cases j with
  | zero=>rw [List.getElem?_cons_zero] at h1 h2;cases h1;cases h2;exact .inr ⟨rfl,o,rfl⟩
  | succ j=>exact ih.2 j a a' (by simpa using h1) (by simpa using h2)
section
variable {P:Program}{κ:Ghost}{w:World}{T:Nat->AVal}{V:Nat->Value}{M:Mem}{b:Nat}{l l':List AVal}{f:FuncId}{args:List AVal}{Post:AVal->Mem->Prop}
theorem Holds.nilF (h:Holds P κ T V M w)(hM:M b=some (.cells l))(hl:NilF l l'):Holds P κ T V (M.upd b (.cells l')) w:=by
 obtain⟨hl1,hl2⟩:=hl.get;obtain⟨c,e,fr,h1,h2,h3,h4⟩:=h.obj b _ hM;refine h.know ⟨c,e,fr,h1,by rw [hl1];exact h2,h3,fun q X x g1 g2=>?_⟩ fun x=>?_
 ·have hq:q<l.length:=by rw [← hl1];exact (List.getElem?_eq_some_iff.1 g1).1
  have h5:=h4 q _ x (List.getElem?_eq_getElem hq) g2;rcases hl2 q _ X (List.getElem?_eq_getElem hq) g1 with h6|⟨h6,o,h7⟩
  ·rw [h6];exact h5
  ·rw [h6] at h5;have h8:x = .slice none 0 0:=rep_raw h5.1;subst h8;subst h7;refine⟨.nil o,h5.2.1,fun b' o' hsp=>?_⟩;rcases hsp with ⟨l',o1,c1,k1,k2,-⟩|⟨Vs,vs',i,X,x,k1,-⟩
   ·cases k2
   ·cases k1
 ·exact h.free_of hM x
theorem SoundCall.nilsin (hM:M b=some (.cells l))(hl:NilF l l')(h:SoundCall P f args (M.upd b (.cells l')) Post):SoundCall P f args M Post :=
 fun κ w vs hs hh=>h κ w vs hs (hh.nilF hM hl)
end
end Go.Am
namespace Go.Am
def sfo (P:Program)(t:TypeId)(i:Nat):Option (Nat×Bool×Nat):=(fieldT P t i).bind fun fd=>(aggT P fd.type).bind fun a=>(sizeT P fd.type).map fun n=>(fd.offset,a,n)
theorem q_sfld {P:Program}{T:Nat->AVal}{M:Mem}{dst:Option Nat}{x:Operand}{ty ty₁:TypeId}{pos:String}{af:Array Edge}{g:Option (Nat×Bool)}{i off n:Nat}{ag:Bool}{cs:List AVal}{Y V:AVal}(hf:sfo P ty₁ i=some (off,ag,n))(hx:ev T x = .agg cs)(hp:piece ag cs off n=some Y)(hY:Y.shut=V) :
 qstep P none (mkO dst (.field ty₁ x i) ty pos af g) T M=some (⟨none,V⟩,[]):=by
 subst hY;have h:aField P ty₁ (.agg cs) i=some Y:=by
  unfold sfo at hf;cases h1:fieldT P ty₁ i with
  | none=>rw [h1] at hf;cases hf
  | some fd =>
   rw [h1] at hf;simp only [Option.bind_some] at hf;cases h2:aggT P fd.type with
   | none=>rw [h2] at hf;cases hf
   | some a =>
    rw [h2] at hf;simp only [Option.bind_some] at hf;cases h3:sizeT P fd.type with
    | none=>rw [h3] at hf;cases hf
    | some m =>
     rw [h3] at hf;simp only [Option.map_some,Option.some.injEq,Prod.mk.injEq] at hf;obtain⟨rfl,rfl,rfl⟩:=hf;simp only [aField,h1,loadP,h2,h3,hp]
 simp only [qstep,aop,hx,h,Option.map_some,readsOf]
end Go.Am
namespace Go.Am
open Go.Deep Go.WideShapes Go.ChangeShapes Go.RowKit
set_option linter.unusedSimpArgs false
section
variable {H:Type}{enc:TypeId×Value->H}{P:Program}{w:World}{spare:Nat->Bool}{held:Bool}{base:Nat}
theorem open_deep1 {α:Type}(f:α->AVal)(told:α->DataW H)(wf:α->Prop){t:TypeId}{fs:Array Field}{n:Nat}(ht:P.underlying t=some (.struct fs))(hn:P.cellsOf t=n)
 (elem:∀ m cs d pl,DataW.trod enc P w 0 spare held m t cs=some (d,pl)->cs.length=n->∃ a,wf a/\d=told a/\Fits P w (f a) cs) (hf:∀ a,∃ cs,f a = .agg cs)
 {v:Value} {d:DataW H} {ps:List MemPlace} (hv:Value.okWide P w .any base t v) (h:DataW.Trod enc P w 0 spare held t v d ps) :
 ∃ a:α,Rep P (imm0 w) w (f a) v/\wf a/\d=told a/\∀ x∈ps,x.block<w.heap.size:=by
 have hlt:∀ x∈ps,x.block<w.heap.size:=by obtain⟨m,hm⟩:=h;exact DataW.trod_lt m _ _ _ hm
 simp only [Value.okWide,ht] at hv;obtain⟨cs,rfl,hsz,-⟩:=hv;obtain⟨fuel,hfu⟩:=h;obtain⟨a,h1,h2,h3,h4⟩:=elem _ _ _ _ hfu (by show cs.toList.length=n;rw [Array.length_toList,hsz,hn]);obtain⟨l,hl⟩:=hf a;refine⟨a,?_,h1,h2,hlt⟩;rw [hl] at h3 h4 ⊢;refine .agg _ _ (by rw [show l.length=cs.toList.length from h3,Array.length_toList]) fun i c v hc hv=>h4 i c v hc (by rw [Array.getElem?_toList];exact hv)
end
section
variable {H:Type}{P:Program}{ts:List TypeId}{ds:List (DataW H)}
theorem sized_inner1 (h:(DataW.weightsEach P ts ds).all (·<=reachBytes)=true){j:Nat}{t:TypeId}{parts:List (DataW H)}(ht:ts[j]? = some t)(hd:ds[j]? = some (.agg parts)){fs:Array Field}(hs:P.underlying t=some (.struct fs))
 {q:Nat} {tq e2:TypeId} (hq:(fs.toList.map (·.type))[q]? = some tq) (hu2:P.underlying tq=some (.slice e2)) {y r:List (DataW H)} (hp:parts[q]? = some (.slice y r)):y.length*P.bytesOf e2<=140737488351232:=by
 have h1:=List.all_eq_true.1 h _ (DataW.weights_mem_each ht hd ((y.length+r.length)*P.bytesOf e2) (by
  simp only [DataW.weights,hs];exact DataW.weights_mem_each hq hp _ (by
   simp only [DataW.weights,hu2,List.mem_cons,List.mem_append];exact .inl (by first|trivial|rfl))))
 have h3:reachBytes=140737488351232:=rfl;have h4:y.length*P.bytesOf e2<=(y.length+r.length)*P.bytesOf e2:=Nat.mul_le_mul_right _ (Nat.le_add_right _ _);simp only [decide_eq_true_eq] at h1;omega
end
end Go.Am
