import Derived.Test.YthmhdhmfkegpiaaGreatDoorAmA
import Derived.IntWalk
namespace Go.Am
section
variable {P:Program}{κ:Ghost}{w:World}{a:Act}{o:Oper}{K:St->Prop}{Q:Exit->Act->World->Prop}{S:St}
theorem Holds.newObj {T:Nat->AVal}{V:Nat->Value}{M:Mem}(h:Holds P κ T V M w){l:List AVal}{cs:Array Value}{e:TypeId}{fr:Nat×Nat}(hl:cs.size=l.length)(hr:∀ (j:Nat) X x,l[j]? = some X->cs[j]? = some x->Rep P κ w X x/\one x=true/\∀ b o,¬ Spare P w X x b o)
 (hfr:∀ o,o<cs.size->¬ (fr.1<=o/\o<fr.2)):Holds P κ T V (M.upd w.heap.size (.cells l)) (Am.push w (.cells cs e fr))/\Keep κ w κ (Am.push w (.cells cs e fr)):=by
 have hk:Keep κ w κ (Am.push w (.cells cs e fr)):=Keep.push _ fun b o hb=>(h.tag b o hb).1
 have hblk:(Am.push w (.cells cs e fr)).heap[w.heap.size]? = some (.cells cs e fr):=push_new w _;refine⟨(h.push (.cells cs e fr)).know ⟨cs,e,fr,hblk,hl,fun x hx=>?_,fun j X x e1 e2=>?_⟩ fun x=>h.untagged x,hk⟩
 ·unfold World.frozen?;simp only [hblk];have:=hfr x hx;simp only [Bool.and_eq_false_imp,decide_eq_true_eq,decide_eq_false_iff_not];intro h1 h2;exact this ⟨h1,h2⟩
 ·obtain⟨h1,h2,h3⟩:=hr j X x e1 e2;exact⟨hk.rep h1,h2,fun b' o' hsp=>absurd (hsp.keep h1 hk.shape) (h3 b' o')⟩
theorem sound_alloc (h:Holds P κ S.T (tv a) S.M w)(hd:∀ d,o.dst=some d->d<a.tmps.size){t:TypeId}(hop:o.op = .alloc t){zs:List AVal}(hz:zeroCellsT P t=some zs)(hone:zs.all AVal.unit=true)
 (hK:∀ b,S.M b=none->K ((S.upd b (.cells zs)).put o.dst (.raw (.pointer (some ⟨b,0,none⟩))))):o.wp P a w (Next P κ w a K) Q:=by
 unfold zeroCellsT at hz;simp only [Option.map_eq_some_iff] at hz;obtain⟨z,hz,rfl⟩:=hz;have hrun:(execOp a.eval o).run P w = .ok (.value (.pointer (some ⟨w.heap.size,0,none⟩))) (push w (.cells z.cells t)):=by
  unfold execOp;rw [hop];refine run_val (s:=Instr.alloc t true (.tuple #[])) ?_;show ((zeroValue t) >>= _).run P w=_
  rw [run_bind_pr (pr_zeroT hz)];rfl
 obtain⟨h1,hk⟩:=h.newObj (l:=z.cells.toList.map ofConst) (cs:=z.cells) (e:=t) (fr:=(0,0)) (by simp) (fun j X x e1 e2=>by
  simp only [List.getElem?_map,Array.getElem?_toList,e2,Option.map_some,Option.some.injEq] at e1;subst e1;refine⟨ofConst_rep x,unit_one (P:=P) (κ:=κ) (w:=w) (ofConst_rep x) ?_,fun _ _ hs=>ofConst_spare hs⟩;refine List.all_eq_true.1 hone _ (List.mem_map.2 ⟨x,?_,rfl⟩);exact Array.mem_toList_iff.2 (Array.mem_of_getElem? e2)) (fun _ _=>by simp)
 exact wp_value hrun (next_put (S':=S.upd w.heap.size (.cells (z.cells.toList.map ofConst))) hd (hK _ h.fresh) (fun d _=>h1.put d (.raw _) fun _ _=>Spare.not_raw) (fun _=>h1) hk)
theorem sound_box (h:Holds P κ S.T (tv a) S.M w)(hd:∀ d,o.dst=some d->d<a.tmps.size){t:TypeId}{x:Operand}(hop:o.op = .box t x)(hok:(ev S.T x).ok=true)
 (hK:∀ b,S.M b=none->K ((S.upd b (.cells ((ev S.T x).cells.map AVal.shut))).put o.dst (.raw (.pointer (some ⟨b,0,none⟩))))):o.wp P a w (Next P κ w a K) Q:=by
 have hrun:(execOp a.eval o).run P w = .ok (.value (.pointer (some ⟨w.heap.size,0,none⟩))) (push w (.cells (a.eval x).cells t)):=by
  unfold execOp;rw [hop];exact run_val (s:=Instr.box t (a.eval x)) rfl
 obtain⟨hcl,hcu⟩:=ok_cells (rep_ev h x) hok;obtain⟨h1,hk⟩:=h.newObj (l:=(ev S.T x).cells.map AVal.shut) (cs:=(a.eval x).cells) (e:=t) (fr:=(0,0)) (by rw [List.length_map];exact hcl.1.symm) (fun j X y e1 e2=>by
  simp only [List.getElem?_map,Option.map_eq_some_iff] at e1;obtain⟨Y,e1,rfl⟩:=e1;have:=hcl.2 j Y y e1 e2;exact⟨this.shut,unit_one this (hcu Y (List.mem_of_getElem? e1)),fun _ _=>Spare.not_shut⟩) (fun _ _=>by simp)
 exact wp_value hrun (next_put (S':=S.upd w.heap.size (.cells ((ev S.T x).cells.map AVal.shut))) hd (hK _ h.fresh) (fun d _=>h1.put d (.raw _) fun _ _=>Spare.not_raw) (fun _=>h1) hk)
def nilO:AVal->AVal
 | .raw (.slice none 0 0)=>.sl [] true
 | v=>v
theorem nilO_cases (v:AVal):(v = .raw (.slice none 0 0)/\nilO v = .sl [] true)\/nilO v=v:=by
 unfold nilO;split
 ·exact .inl ⟨rfl,rfl⟩
 ·exact .inr rfl
theorem sound_boxN (h:Holds P κ S.T (tv a) S.M w)(hd:∀ d,o.dst=some d->d<a.tmps.size){t:TypeId}{x:Operand}(hop:o.op = .box t x)(hok:(ev S.T x).ok=true)
 (hK:∀ b,S.M b=none->K ((S.upd b (.cells ((ev S.T x).cells.map fun c=>nilO c.shut))).put o.dst (.raw (.pointer (some ⟨b,0,none⟩))))):o.wp P a w (Next P κ w a K) Q:=by
 have hrun:(execOp a.eval o).run P w = .ok (.value (.pointer (some ⟨w.heap.size,0,none⟩))) (push w (.cells (a.eval x).cells t)):=by
  unfold execOp;rw [hop];exact run_val (s:=Instr.box t (a.eval x)) rfl
 obtain⟨hcl,hcu⟩:=ok_cells (rep_ev h x) hok;obtain⟨h1,hk⟩:=h.newObj (l:=(ev S.T x).cells.map fun c=>nilO c.shut) (cs:=(a.eval x).cells) (e:=t) (fr:=(0,0)) (by rw [List.length_map];exact hcl.1.symm) (fun j X y e1 e2=>by
  simp only [List.getElem?_map,Option.map_eq_some_iff] at e1;obtain⟨Y,e1,rfl⟩:=e1;have:=hcl.2 j Y y e1 e2;rcases nilO_cases Y.shut with ⟨h5,h6⟩|h6
  ·have h7:=this.shut;rw [h5] at h7;have h8:y = .slice none 0 0:=rep_raw h7;subst h8;rw [h6];refine⟨.nil true,rfl,fun b' o' hsp=>?_⟩;rcases hsp with ⟨l',o1,c1,k1,k2,-⟩|⟨Vs,vs',i,X,x,k1,-⟩
   ·cases k2
   ·cases k1
  ·rw [h6];exact⟨this.shut,unit_one this (hcu Y (List.mem_of_getElem? e1)),fun _ _=>Spare.not_shut⟩) (fun _ _=>by simp)
 exact wp_value hrun (next_put (S':=S.upd w.heap.size (.cells ((ev S.T x).cells.map fun c=>nilO c.shut))) hd (hK _ h.fresh) (fun d _=>h1.put d (.raw _) fun _ _=>Spare.not_raw) (fun _=>h1) hk)
theorem sound_makeMap (h:Holds P κ S.T (tv a) S.M w)(hd:∀ d,o.dst=some d->d<a.tmps.size){t:TypeId}(hop:o.op = .makeMap t none)
 (hK:∀ b,S.M b=none->K ((S.upd b (.map [])).put o.dst (.raw (.map (some b))))):o.wp P a w (Next P κ w a K) Q:=by
 have hrun:(execOp a.eval o).run P w = .ok (.value (.map (some w.heap.size))) (push w (.map #[] 0)):=by
  unfold execOp;rw [hop];exact run_val (s:=Instr.makeMap t none) rfl
 have hk:Keep κ w κ (push w (.map #[] 0)):=Keep.push _ fun b o hb=>(h.tag b o hb).1
 have h1:Holds P κ S.T (tv a) (S.M.upd w.heap.size (.map [])) (push w (.map #[] 0)):=(h.push (.map #[] 0)).know ⟨#[],0,push_new w _,rfl,fun j e ent e1=>by simp at e1,fun j ent e1=>by simp at e1,fun i j x y e1=>by simp at e1⟩ fun x=>h.untagged x
 exact wp_value hrun (next_put (S':=S.upd w.heap.size (.map [])) hd (hK _ h.fresh) (fun d _=>h1.put d (.raw _) fun _ _=>Spare.not_raw) (fun _=>h1) hk)
theorem pr_zeroCells {t:TypeId}{zs:List AVal}(h:zeroCellsT P t=some zs):∃ z,zeroT P t=some z/\zs=z.cells.toList.map ofConst:=by
 unfold zeroCellsT at h;simp only [Option.map_eq_some_iff] at h;obtain⟨z,hz,rfl⟩:=h;exact⟨z,hz,rfl⟩
theorem replicate_get (zs:List AVal)(hz:0<zs.length):∀ (c j:Nat),j<c*zs.length->((List.replicate c zs).flatten)[j]? = zs[j % zs.length]?
 | 0,j,h=>by omega
 | c+1,j,h=>by
  rw [List.replicate_succ,List.flatten_cons];by_cases hj:j<zs.length
  ·rw [List.getElem?_append_left hj,Nat.mod_eq_of_lt hj]
  ·rw [List.getElem?_append_right (by omega),replicate_get zs hz c (j - zs.length) (by rw [Nat.succ_mul] at h;omega)];rw [show j % zs.length=(j - zs.length) % zs.length from Nat.mod_eq_sub_mod (by omega)]
theorem replicate_length (zs:List AVal)(c:Nat):((List.replicate c zs).flatten).length=c*zs.length:=by
 rw [List.length_flatten,List.map_replicate,List.sum_replicate_nat]
theorem sound_makeSlice (h:Holds P κ S.T (tv a) S.M w)(hd:∀ d,o.dst=some d->d<a.tmps.size){t:TypeId}{L C:Operand}(hop:o.op = .makeSlice t L C)(hone:∀ e zs,P.underlying t=some (.slice e)->zeroCellsT P e=some zs->zs.all AVal.unit=true)
 (hs:aMakeSlice P t (ev S.T L) (ev S.T C) o.dst S K):o.wp P a w (Next P κ w a K) Q:=by
 unfold aMakeSlice at hs;split at hs
 ·rename_i e n c hu hL hC;split at hs
  ·rename_i sz by_ zs hsz hby hzs;obtain⟨h1,hpos,h2,h3,h4,h5,hK⟩:=hs;have hone':=hone e zs hu hzs;obtain⟨z,hz,hzz⟩:=pr_zeroCells hzs;have hLe:=rep_ev h L;rw [hL] at hLe;have hCe:=rep_ev h C;rw [hC] at hCe;obtain⟨i,hi,rfl⟩:=pr_bytesT hby
   obtain⟨N,rfl⟩:=Int.eq_ofNat_of_zero_le (show 0<=n by omega);obtain⟨c',rfl⟩:=Int.eq_ofNat_of_zero_le (show 0<=c by omega);have hzc:z.cells.size=sz:=by rw [← h1,hzz];simp
   have wrapc:IntKind.i64.wrap (c':Int)=c':=IntWalk.i64_in _ ⟨by omega,by omega⟩;have wrapn:IntKind.i64.wrap (N:Int)=N:=IntWalk.i64_in _ ⟨by omega,by omega⟩;have hcells:∀ (f:Nat->Value),((Array.range (c'*sz)).map f).size=c'*sz:=fun f=>by simp
   have hrun:(execOp a.eval o).run P w = .ok (.value (.slice (some ⟨w.heap.size,0,none⟩) N c')) (push w (.cells ((Array.range (c'*sz)).map (fun j=>z.cells[j % z.cells.size]!)) e)):=by
    unfold execOp;rw [hop];refine run_val (s:=Instr.makeSlice t (a.eval L) (a.eval C)) ?_;rw [rep_raw hLe,rep_raw hCe];have hne:¬ c'*sz=0:=by
     have:0<c':=by omega
     exact Nat.ne_of_gt (Nat.mul_pos this hpos)
    simp [Instr.makeSlice,pr_run (pr_underlying hu) w,asInt,asIntOf,pr_run hi w,wrapc,wrapn,run_sizeT hsz w,hne,pr_run (P:=P) (pr_zeroT hz) w,newRow,push];omega
   obtain⟨hh,hk⟩:=h.newObj (l:=(List.replicate c' zs).flatten) (cs:=(Array.range (c'*sz)).map (fun j=>z.cells[j % z.cells.size]!)) (e:=e) (fr:=(0,0)) (by rw [replicate_length,h1];simp) (fun j X x e1 e2=>by
    have hj:j<c'*sz:=by
     rcases Nat.lt_or_ge j (c'*sz) with h'|h'
     ·exact h'
     ·rw [Array.getElem?_eq_none (by simpa using h')] at e2;cases e2
    rw [replicate_get zs (by omega) c' j (by rw [h1];exact hj),h1] at e1;have hm:j % sz<sz:=Nat.mod_lt _ hpos;have e3:z.cells[j % sz]? = some x:=by
     simp [hj] at e2;rw [← e2,hzc];simp [hzc,hm]
    rw [hzz] at e1;simp only [List.getElem?_map,Array.getElem?_toList,e3,Option.map_some,Option.some.injEq] at e1;subst e1;refine⟨ofConst_rep x,unit_one (P:=P) (κ:=κ) (w:=w) (ofConst_rep x) ?_,fun _ _ hs=>ofConst_spare hs⟩;rw [hzz] at hone';exact List.all_eq_true.1 hone' _ (List.mem_map.2 ⟨x,Array.mem_toList_iff.2 (Array.mem_of_getElem? e3),rfl⟩)) (fun _ _=>by simp)
   have hK':=hK _ h.fresh;simp only [Int.toNat_natCast] at hK';exact wp_value hrun (next_put (S':=S.upd w.heap.size (.cells (List.replicate c' zs).flatten)) hd hK' (fun d _=>hh.put d (.raw _) fun _ _=>Spare.not_raw) (fun _=>hh) hk)
  ·exact hs.elim
 ·exact hs.elim
end
end Go.Am
namespace Go.Am
section
variable {P:Program}{κ:Ghost}{w:World}{a:Act}{o:Oper}{K:St->Prop}{Q:Exit->Act->World->Prop}{S:St}
theorem aFill_parts {T:Nat->AVal}{sz:Nat}:∀ (parts:List (Nat×Operand)) (k:Nat) (l done zs:List AVal),aParts T k parts=some l->(∀ V∈l,V.ok=true/\V.cells.length=sz)->done.length=k*sz->zs.length=l.length*sz →
 aFill (fun i=>some (i*sz,sz)) (done++zs) (parts.map fun p=>(p.1,(ev T p.2).shut))=some (done++flat l)
 | [],k,l,done,zs,h,_,_,hz=>by
  simp only [aParts,Option.some.injEq] at h;subst h;have:zs=[]:=List.eq_nil_of_length_eq_zero (by simpa using hz);subst this;simp [aFill,flat]
 | (i,x)::rest,k,l,done,zs,h,hok,hd,hz=>by
  simp only [aParts] at h;split at h
  ·rename_i hik;subst hik;simp only [Option.map_eq_some_iff] at h;obtain⟨l',h1,rfl⟩:=h;obtain⟨ho1,ho2⟩:=hok _ (by simp:(ev T x).shut∈(ev T x).shut::l');simp only [List.length_cons,Nat.succ_mul] at hz;simp only [List.map_cons,aFill];have hc:¬ ((ev T x).shut.ok=false\/¬ (ev T x).shut.cells.length=sz\/i*sz+(ev T x).shut.cells.length > (done++zs).length):=by
    rw [ho1,ho2,List.length_append,hd];intro h;rcases h with h|h|h
    ·cases h
    ·exact h rfl
    ·omega
   have hc':(((ev T x).shut.ok=false || (ev T x).shut.cells.length≠sz || i*sz+(ev T x).shut.cells.length > (done++zs).length:Bool))=false:=by
    simp only [Bool.or_eq_false_iff,decide_eq_false_iff_not,Bool.decide_eq_false];refine⟨⟨by rw [ho1];simp,by simp [ho2]⟩,by rw [ho2,List.length_append,hd];omega⟩
   rw [if_neg (by rw [hc'];exact Bool.false_ne_true)];have e1:List.take (i*sz) (done++zs)=done:=by rw [← hd];simp
   have e2:List.drop (i*sz+(ev T x).shut.cells.length) (done++zs)=zs.drop sz:=by
    rw [ho2,List.drop_append,List.drop_eq_nil_of_le (by omega),List.nil_append,hd,Nat.add_sub_cancel_left]
   rw [e1,e2,aFill_parts rest (i+1) l' (done++(ev T x).shut.cells) (zs.drop sz) h1 (fun V hV=>hok V (by simp [hV])) (by rw [List.length_append,hd,ho2,Nat.succ_mul]) (by rw [List.length_drop];omega)];simp [flat,List.append_assoc]
  ·cases h
theorem sound_buildSlice (h:Holds P κ S.T (tv a) S.M w)(hd:∀ d,o.dst=some d->d<a.tmps.size){t:TypeId}{len:Nat}{parts:Array (Nat×Operand)}(hop:o.op = .buildSlice t len parts)
 (hs:aBuildSlice P t len parts.toList o.dst S K):o.wp P a w (Next P κ w a K) Q:=by
 unfold aBuildSlice at hs;split at hs
 ·rename_i e hu;split at hs
  ·rename_i sz z l hsz hz hl;obtain⟨h1,h2,h3,h4,hK⟩:=hs;have hok:∀ V∈l,V.ok=true/\V.cells.length=sz:=fun V hV=>by simpa using List.all_eq_true.1 h4 V hV
   subst h2;have key:∀ zero:Array Value,(zero=if l.length*sz=0 then #[] else z.cells)->∃ r,Instr.fill (fun i=>some (i*sz,sz)) ((Array.range (l.length*sz)).map (fun j=>zero[j % zero.size]!)) (parts.map fun p=>(p.1,a.eval p.2)).toList=some r/\RepL P κ w (flat l) r:=by
    intro zero hzero;have hsz0:((Array.range (l.length*sz)).map (fun j=>zero[j % zero.size]!)).size=l.length*sz:=by simp
    generalize (Array.range (l.length*sz)).map (fun j=>zero[j % zero.size]!)=zarr at hsz0;have hfill:=aFill_parts (T:=S.T) (sz:=sz) parts.toList 0 l [] (zarr.toList.map .raw) hl hok (by simp) (by rw [List.length_map,Array.length_toList];exact hsz0);rw [List.nil_append,List.nil_append] at hfill;refine aFill_rep (P:=P) (κ:=κ) (w:=w) _ _ _ _ (flat l) (by simp) (fun i p u e1 e2=>?_) ⟨by simp,fun i c v e1 e2=>?_⟩ hfill
    ·simp only [List.getElem?_map,Array.toList_map,Option.map_eq_some_iff] at e1 e2;obtain⟨⟨n,x⟩,e3,rfl⟩:=e1;obtain⟨⟨n',x'⟩,e4,rfl⟩:=e2;rw [e3] at e4;obtain⟨rfl,rfl⟩:=Prod.mk.inj (Option.some.inj e4);exact⟨rfl,(rep_ev h _).shut⟩
    ·rw [List.getElem?_map,Array.getElem?_toList,e2] at e1;simp only [Option.map_some,Option.some.injEq] at e1;subst e1;exact .raw v
   obtain⟨r,hr1,hr2⟩:=key _ rfl;have hrunB:∀ r,Instr.fill (fun i=>some (i*sz,sz)) ((Array.range (l.length*sz)).map (fun j=>(if l.length*sz=0 then #[] else z.cells)[j % (if l.length*sz=0 then #[] else z.cells).size]!)) (parts.map fun p=>(p.1,a.eval p.2)).toList=some r →
    ∀ ps,ps=parts.map (fun p=>(p.1,a.eval p.2))->(Instr.buildSlice t l.length ps).run P w = .ok (.slice (some ⟨w.heap.size,0,none⟩) l.length l.length) (push w (.cells r e)):=by
    intro r hr1 ps hps;subst hps;have hle:¬ (l.length*sz > 2^24):=Nat.not_lt.2 h3;show ((underlying t) >>= _).run P w=_
    rw [run_bind_pr (pr_underlying hu)];dsimp only;show ((sizeOf e) >>= _).run P w=_
    rw [run_bind_pr (pr_sizeT hsz)];simp only [if_neg hle];by_cases h0:l.length*sz=0
    ·simp only [if_pos h0] at hr1 ⊢;rw [Sem.run_bind,Sem.run_pure,Result.andThen_ok,hr1];rfl
    ·simp only [if_neg h0] at hr1 ⊢;rw [run_bind_pr (pr_zeroT hz),Sem.run_bind,Sem.run_pure,Result.andThen_ok,hr1];rfl
   have hrun:(execOp a.eval o).run P w = .ok (.value (.slice (some ⟨w.heap.size,0,none⟩) l.length l.length)) (push w (.cells r e)):=by
    unfold execOp;rw [hop];have hps:∀ ps,ps=parts.map (fun p=>(p.1,a.eval p.2))->(Instr.buildSlice t l.length ps).run P w = .ok (.slice (some ⟨w.heap.size,0,none⟩) l.length l.length) (push w (.cells r e)):=hrunB r hr1
    refine run_val (hps _ ?_);exact congrArg (fun f=>Array.map f parts) (funext fun ⟨_,_⟩=>rfl)
   have hfl:=flat_length (fun V hV=>(hok V hV).2);have hn:=fun d=>h.newSl d (l:=l) (cs:=r) (cap:=l.length) (e:=e) (fr:=(0,0)) hsz (by rw [← hr2.1,hfl]) (Nat.le_refl _) (.inr rfl) (fun V hV=>(hok V hV).2) hr2.2 (fun _ _=>by simp)
   refine wp_value hrun ?_;cases ho:o.dst with
   | none =>
    have:=next_put (P:=P) (κ:=κ) (κ':=κ) (w:=w) (w':=push w (.cells r e)) (v:=.slice (some ⟨w.heap.size,0,none⟩) l.length l.length) (S':=S) (X:=.sl l true) hd hK (fun d e=>by rw [ho] at e;cases e) (fun _=>h.push _) (Keep.push _ fun b o hb=>(h.tag b o hb).1);rwa [ho] at this
   | some d =>
    have:=next_put (P:=P) (κ:=κ) (w:=w) (w':=push w (.cells r e)) (v:=.slice (some ⟨w.heap.size,0,none⟩) l.length l.length) (S':=S) (X:=.sl l true) hd hK (fun d' e=>by rw [ho] at e;cases e;exact (hn d).1) (fun e=>by rw [ho] at e;cases e) (hn d).2;rwa [ho] at this
  ·exact hs.elim
 ·exact hs.elim
end
end Go.Am
namespace Go.Am
section
variable {P:Program}{κ:Ghost}{w:World}{a:Act}{o:Oper}{K:St->Prop}{Q:Exit->Act->World->Prop}{S:St}
def putObj (w:World)(r:Nat)(ob:Obj):World:={ w with heap:=w.heap.setIfInBounds r ob }
theorem putObj_ne {r b:Nat}{ob:Obj}(h:b≠r):(putObj w r ob).heap[b]? = w.heap[b]?:=by
 show (w.heap.setIfInBounds r ob)[b]? = _
 rw [Array.getElem?_setIfInBounds_ne (Ne.symm h)]
theorem putObj_eq {r:Nat}{ob:Obj}(h:r<w.heap.size):(putObj w r ob).heap[r]? = some ob:=by
 show (w.heap.setIfInBounds r ob)[r]? = _
 rw [Array.getElem?_setIfInBounds_self_of_lt h]
theorem Holds.setMap' {κ':Ghost}{T:Nat->AVal}{V:Nat->Value}{M:Mem}(h:Holds P κ T V M w){r:Nat}{es es':List (Value×AVal)}{ents:Array MapEntry}{clock:Nat}(hb:M r=some (.map es))(ki:∀ b o,κ b o = .imm->κ' b o = .imm)(kf:∀ b o,κ b o = .frame->κ' b o = .frame)(ks:∀ b o t,κ b o = .slot t↔κ' b o = .slot t)
 (km:∀ b o c j,c≠r->κ b o = .mslot c j->κ' b o = .mslot c j) (kz:∀ b o,κ b o = .free->κ' b o = .free) (kw:∀ b o c j,κ' b o = .mslot c j->∃ c' j',κ b o = .mslot c' j') (hsz:ents.size=es'.length)
 (hr:∀ (j:Nat) e ent,es'[j]? = some e->ents[j]? = some ent->ent.key=e.1/\Rep P κ w e.2 ent.val/\∀ b' o',Spare P w e.2 ent.val b' o'->κ' b' o' = .mslot r j)
 (hc:∀ (j:Nat) ent,ents[j]? = some ent->ent.born<clock) (hi:∀ (i j:Nat) x y,ents[i]? = some x->ents[j]? = some y->x.born=y.born->i=j) :
 Holds P κ' T V (M.upd r (.map es')) (putObj w r (.map ents clock))/\Keep κ w κ' (putObj w r (.map ents clock)):=by
 obtain⟨ents0,clock0,b1,-,-,-,-⟩:=h.obj r _ hb;have hlt:=h.lt hb;have hcell:∀ b o,(putObj w r (.map ents clock)).cell? ⟨b,o,none⟩=w.cell? ⟨b,o,none⟩:=fun b o=>by
  by_cases e:b=r
  ·subst e;unfold World.cell?;simp only [putObj_eq hlt,b1]
  ·exact cell_of_block (putObj_ne e)
 have hfro:∀ b o,(putObj w r (.map ents clock)).frozen? ⟨b,o,none⟩=w.frozen? ⟨b,o,none⟩:=fun b o=>by
  by_cases e:b=r
  ·subst e;unfold World.frozen?;simp only [putObj_eq hlt,b1]
  ·exact frozen_of_block (putObj_ne e)
 have hsh:∀ b,(putObj w r (.map ents clock)).shape? b=w.shape? b:=fun b=>by
  by_cases e:b=r
  ·subst e;unfold World.shape?;simp only [putObj_eq hlt,b1]
  ·exact shape_of_block (putObj_ne e)
 have hsize:(putObj w r (.map ents clock)).heap.size=w.heap.size:=by simp [putObj]
 have hk:Keep κ w κ' (putObj w r (.map ents clock)):=⟨rfl,rfl,rfl,by rw [hsize];exact Nat.le_refl _,fun b _=>hsh b,fun b o e=>⟨ki b o e,hcell b o⟩,fun b o e=>⟨kf b o e,hcell b o,hfro b o⟩,fun b _ hp=>putObj_ne fun e=>by
  subst e;have:=h.free_of hb 0;rcases hp 0 with e|e<;>rw [this] at e<;>cases e⟩
 refine⟨⟨fun t=>hk.rep (h.tmp t),fun d p hd=>?_,fun d y hd=>?_,fun t d y hsp=>(ks d y t).1 (h.sp t d y (hsp.keep (h.tmp t) hk.shape)),fun d y t hd=>?_,fun d y c' j hd=>?_⟩,hk⟩
 ·unfold Mem.upd at hd;split at hd
  ·rename_i e;subst e;cases hd;exact⟨ents,clock,putObj_eq hlt,hsz,fun j e ent e1 e2=>⟨(hr j e ent e1 e2).1,hk.rep (hr j e ent e1 e2).2.1,fun b' o' hsp=>(hr j e ent e1 e2).2.2 b' o' (hsp.keep (hr j e ent e1 e2).2.1 hk.shape)⟩,hc,hi⟩
  ·rename_i e';have hblk:(putObj w r (.map ents clock)).heap[d]? = w.heap[d]?:=putObj_ne e';have:=h.obj d p hd;cases p with
   | it o=>exact⟨hblk.trans this.1,this.2⟩
   | cells l' =>
    obtain⟨c',e,fr,b1,b2,b3,b4⟩:=this;exact⟨c',e,fr,hblk.trans b1,b2,fun y hy=>(hfro d y).trans (b3 y hy),fun j Y y e1 e2=>⟨hk.rep (b4 j Y y e1 e2).1,(b4 j Y y e1 e2).2.1,fun b' o' hsp=>km b' o' d j e' ((b4 j Y y e1 e2).2.2 b' o' (hsp.keep (b4 j Y y e1 e2).1 hk.shape))⟩⟩
   | map es =>
    obtain⟨ents,clock,b1,b2,b3,b4,b5⟩:=this;exact⟨ents,clock,hblk.trans b1,b2,fun j e ent e1 e2=>⟨(b3 j e ent e1 e2).1,hk.rep (b3 j e ent e1 e2).2.1,fun b' o' hsp=>km b' o' d j e' ((b3 j e ent e1 e2).2.2 b' o' (hsp.keep (b3 j e ent e1 e2).2.1 hk.shape))⟩,b4,b5⟩
 ·have hd:κ d y ≠ .free:=fun e=>hd (kz d y e)
  refine⟨by rw [hsize];exact (h.tag d y hd).1,?_⟩;unfold Mem.upd;split
  ·rename_i e';subst e';exact absurd (h.free_of hb y) hd
  ·exact (h.tag d y hd).2.to (ki d y)
 ·have:=h.wr d y t ((ks d y t).2 hd);exact⟨by rw [hcell];exact this.1,by rw [hfro];exact this.2⟩
 ·obtain⟨c2,j2,hd2⟩:=kw d y c' j hd;have:=h.mwr d y c2 j2 hd2;exact⟨by rw [hcell];exact this.1,by rw [hfro];exact this.2⟩
theorem Holds.setMap {T:Nat->AVal}{V:Nat->Value}{M:Mem}(h:Holds P κ T V M w){r:Nat}{es es':List (Value×AVal)}{ents:Array MapEntry}{clock:Nat}(hb:M r=some (.map es))(hsz:ents.size=es'.length)
 (hr:∀ (j:Nat) e ent,es'[j]? = some e->ents[j]? = some ent->ent.key=e.1/\Rep P κ w e.2 ent.val/\∀ b' o',Spare P w e.2 ent.val b' o'->κ b' o' = .mslot r j)
 (hc:∀ (j:Nat) ent,ents[j]? = some ent->ent.born<clock) (hi:∀ (i j:Nat) x y,ents[i]? = some x->ents[j]? = some y->x.born=y.born->i=j) :
 Holds P κ T V (M.upd r (.map es')) (putObj w r (.map ents clock))/\Keep κ w κ (putObj w r (.map ents clock)) :=
 h.setMap' hb (fun _ _ e=>e) (fun _ _ e=>e) (fun _ _ _=>Iff.rfl) (fun _ _ _ _ _ e=>e) (fun _ _ e=>e) (fun _ _ c j e=>⟨c,j,e⟩) hsz hr hc hi
theorem run_setObj {r:Nat}{ents:Array MapEntry}{clock:Nat}(h:w.heap[r]? = some (.map ents clock))(ob:Obj):(setObj r ob).run P w = .ok () (putObj w r ob):=by
 show (Sem.setObj r ob (.pure ())).run P w=_
 simp only [Sem.run,h];rfl
theorem sound_mapUpdate (h:Holds P κ S.T (tv a) S.M w)(hdst:o.dst=none){t:TypeId}{m k x:Operand}(hop:o.op = .mapUpdate t m k x\/o.op = .insert t m k x)
 (hs:aMapUpdate P t (ev S.T m) (ev S.T k) (ev S.T x) S K):o.wp P a w (Next P κ w a K) Q:=by
 unfold aMapUpdate at hs;split at hs
 ·rename_i kt et r kv hu hm hk;split at hs
  ·rename_i es hb;split at hs
   ·rename_i q at? hc hat;obtain⟨hsame,hK⟩:=hs;have hme:=rep_ev h m;rw [hm] at hme;have hke:=rawOf_rep hk (rep_ev h k);have hxe:=rep_ev h x;obtain⟨ents,clock,b1,b2,b3,b4,b5⟩:=h.obj r _ hb;have hkeys:=keys_of b2 fun j e ent e1 e2=>(b3 j e ent e1 e2).1
    obtain⟨hka1,hka2⟩:=keyAt_run hat hkeys;have hrunU:∀ w',(Instr.mapUpdate t (.map (some r)) kv (a.eval x)).run P w = .ok () w'->(execOp a.eval o).run P w = .ok .skip w':=fun w' hw=>by
     have:(execOp a.eval o).run P w=(Instr.mapUpdate t (a.eval m) (a.eval k) (a.eval x) >>= fun _=>(pure Next.skip:Sem Go.Next)).run P w:=by
      unfold execOp;rcases hop with hop|hop<;>rw [hop]<;>rfl
     rw [this,rep_raw hme,hke,Sem.run_bind,hw];rfl
    cases hat':at? with
    | none =>
     subst hat';have hrun:(Instr.mapUpdate t (.map (some r)) kv (a.eval x)).run P w = .ok () (putObj w r (.map (ents.push { key:=kv,val:=a.eval x,born:=clock }) (clock+1))):=by
      show ((underlying t) >>= _).run P w=_
      rw [run_bind_pr (pr_underlying hu)];show ((getObj r) >>= _).run P w=_
      rw [run_getObj b1];show ((Instr.checkKey false 10000 kt kv) >>= _).run P w=_
      rw [run_bind_pr hc];show ((Instr.findKey kt kv ents.toList) >>= _).run P w=_
      rw [run_bind_pr (hka1 rfl)];exact run_setObj b1 _
     obtain⟨h1,hk1⟩:=h.setMap (r:=r) (es':=putEntry es none kv (ev S.T x).shut) (ents:=ents.push { key:=kv,val:=a.eval x,born:=clock }) (clock:=clock+1) hb (by simp [putEntry,b2])
      (fun j e ent e1 e2=>by
       simp only [putEntry] at e1;by_cases hj:j<es.length
       ·rw [List.getElem?_append_left hj] at e1;rw [Array.getElem?_push,if_neg (by omega)] at e2;exact b3 j e ent e1 e2
       ·have hj':j=es.length:=by
         rw [List.getElem?_append_right (by omega)] at e1;rcases Nat.lt_or_ge (j - es.length) 1 with h'|h'
         ·omega
         ·rw [List.getElem?_eq_none (by simpa using h')] at e1;cases e1
        subst hj';rw [List.getElem?_append_right (by omega),Nat.sub_self,List.getElem?_cons_zero] at e1;rw [Array.getElem?_push,if_pos b2.symm] at e2;cases e1;cases e2;exact⟨rfl,hxe.shut,fun b' o' hsp=>absurd hsp Spare.not_shut⟩)
      (fun j ent e=>by
       rw [Array.getElem?_push] at e;split at e
       ·cases e;simp
       ·have:=b4 j ent e;omega)
      (fun i j x' y e1 e2 he=>by
       rw [Array.getElem?_push] at e1 e2;split at e1<;>split at e2
       ·omega
       ·cases e1;have:=b4 j y e2;simp at he;omega
       ·cases e2;have:=b4 i x' e1;simp at he;omega
       ·exact b5 i j x' y e1 e2 he)
     refine wp_skip (hrunU _ hrun) ?_;rw [hdst];exact⟨κ,_,hK,h1,hk1,rfl,rfl⟩
    | some i =>
     subst hat';obtain⟨e0,he0,hf⟩:=hka2 i rfl;have hi:i<es.length:=by
      rw [← b2];rcases Nat.lt_or_ge i ents.size with h'|h'
      ·exact h'
      ·rw [Array.getElem?_eq_none h'] at he0;cases he0
     have hsm:=hsame i rfl;have hkey0:e0.key=es[i].1:=(b3 i _ _ (List.getElem?_eq_getElem hi) he0).1;rw [List.getElem?_eq_getElem hi,Option.map_some,Option.getD_some,← hkey0] at hsm;have hrun:(Instr.mapUpdate t (.map (some r)) kv (a.eval x)).run P w = .ok () (putObj w r (.map (ents.modify i fun e=>{ e with key:=kv,val:=a.eval x }) clock)):=by
      show ((underlying t) >>= _).run P w=_
      rw [run_bind_pr (pr_underlying hu)];show ((getObj r) >>= _).run P w=_
      rw [run_getObj b1];show ((Instr.checkKey false 10000 kt kv) >>= _).run P w=_
      rw [run_bind_pr hc];show ((Instr.findKey kt kv ents.toList) >>= _).run P w=_
      rw [run_bind_pr hf];show ((Instr.keyThatStays (((ents[i]?).map (·.key)).getD kv) kv) >>= fun key=>setObj r (.map (ents.modify i fun e=>{ e with key:=key,val:=a.eval x }) clock)).run P w=_
      have:pr P (Instr.keyThatStays (((ents[i]?).map (·.key)).getD kv) kv)=some kv:=by
       rw [he0];show pr P (if Instr.sameBits 10000 e0.key kv then pure kv else _)=_
       rw [if_pos hsm];rfl
      rw [run_bind_pr this];exact run_setObj b1 _
     obtain⟨h1,hk1⟩:=h.setMap (r:=r) (es':=putEntry es (some i) kv (ev S.T x).shut) (ents:=ents.modify i fun e=>{ e with key:=kv,val:=a.eval x }) (clock:=clock) hb (by simp [putEntry,b2])
      (fun j e ent e1 e2=>by
       simp only [putEntry] at e1;by_cases hj:i=j
       ·subst hj;rw [List.getElem?_set_self hi] at e1;rw [Array.getElem?_modify,if_pos rfl,he0] at e2;cases e1;cases e2;exact⟨rfl,hxe.shut,fun b' o' hsp=>absurd hsp Spare.not_shut⟩
       ·rw [List.getElem?_set_ne hj] at e1;rw [Array.getElem?_modify,if_neg hj] at e2;exact b3 j e ent e1 e2)
      (fun j ent e=>by
       rw [Array.getElem?_modify] at e;split at e
       ·rename_i hj;subst hj;rw [he0] at e;cases e;exact b4 i e0 he0
       ·exact b4 j ent e)
      (fun i' j x' y e1 e2 he=>by
       have born:∀ (n:Nat) z,(ents.modify i fun e=>{ e with key:=kv,val:=a.eval x })[n]? = some z->∃ z',ents[n]? = some z'/\z'.born=z.born:=fun n z hz=>by
        rw [Array.getElem?_modify] at hz;split at hz
        ·simp only [Option.map_eq_some_iff] at hz;obtain⟨z',h1,rfl⟩:=hz;exact⟨z',h1,rfl⟩
        ·exact⟨z,hz,rfl⟩
       obtain⟨x'',c1,c2⟩:=born i' x' e1;obtain⟨y'',c3,c4⟩:=born j y e2;exact b5 i' j x'' y'' c1 c3 (by rw [c2,c4];exact he))
     refine wp_skip (hrunU _ hrun) ?_;rw [hdst];exact⟨κ,_,hK,h1,hk1,rfl,rfl⟩
   ·exact hs.elim
  ·exact hs.elim
 ·exact hs.elim
end
end Go.Am
namespace Go.Am
section
variable {P:Program}{κ:Ghost}{w:World}{a:Act}{o:Oper}{K:St->Prop}{Q:Exit->Act->World->Prop}{S:St}
theorem builtin_run {b:Builtin}{args:Array Operand}{argTypes:Array TypeId}(hop:o.op = .call { callee:=.builtin b,args,argTypes }) :
 (execOp a.eval o).run P w=(builtin b argTypes o.type (args.map fun | .const _=>true | _=>false) (args.map a.eval)).run P w:=by
 unfold execOp;rw [hop];rfl
theorem two_args {args:Array Operand}{x y:Operand}(h:args.toList=[x,y])(f:Operand->Value):args.map f = #[f x,f y]:=by
 apply Array.ext';rw [Array.toList_map,h];rfl
theorem sound_append (h:Holds P κ S.T (tv a) S.M w)(hd:∀ d,o.dst=some d->d<a.tmps.size){args:Array Operand}{argTypes:Array TypeId}{x y:Operand}{d:Nat}(hop:o.op = .call { callee:=.builtin .append,args,argTypes })(hargs:args.toList=[x,y])(hdst:o.dst=some d)
 (hne:∀ t,x = .tmp t->o.dst≠some t) {l:List AVal} (ha:aAppend P argTypes (ev S.T x) (ev S.T y)=some l) (hK:K ((S.lose x).put (some d) (.sl l true))):o.wp P a w (Next P κ w a K) Q:=by
 have hrun:∀ v w',(Builtin.append_ argTypes o.type #[a.eval x,a.eval y]).run P w = .ok v w'->(execOp a.eval o).run P w = .ok (.value v) w':=fun v w' hw=>by
  rw [builtin_run hop,two_args hargs];exact run_val hw
 cases x with
 | tmp s =>
  have hsd:s≠d:=fun e=>hne s rfl (by rw [hdst,e])
  obtain⟨v,κ',w',h1,h2,h3⟩:=append_slot h s d hsd (ty:=o.type) (rep_ev h y) ha;refine wp_value (hrun v w' h1) ?_;have:=next_put (P:=P) (κ:=κ) (κ':=κ') (w:=w) (w':=w') (v:=v) (S':=S.lose (.tmp s)) (X:=.sl l true) hd (by rw [hdst];exact hK:K (St.put _ o.dst _)) (fun d' e=>by rw [hdst] at e;cases e;exact h2) (fun e=>by rw [hdst] at e;cases e) h3;exact this
 | const c =>
  have hc:c = .slice none 0 0:=by
   obtain⟨o',-⟩:=aAppend_ok ha;have:ofConst c = .sl o'.l true:=o'.hX;unfold ofConst at this;split at this
   ·cases this
   ·rfl
   ·cases this
  subst hc;obtain⟨v,κ',w',h1,h2,h3⟩:=append_nil h d (ty:=o.type) (rep_ev h y) ha;refine wp_value (hrun v w' h1) ?_;exact next_put (P:=P) (κ:=κ) (κ':=κ') (w:=w) (w':=w') (v:=v) (S':=S) (X:=.sl l true) hd (by rw [hdst];exact hK:K (St.put _ o.dst _)) (fun d' e=>by rw [hdst] at e;cases e;exact h2) (fun e=>by rw [hdst] at e;cases e) h3
 | global g =>
  obtain⟨o',-⟩:=aAppend_ok ha;have:=o'.hX;cases this
 | func f =>
  obtain⟨o',-⟩:=aAppend_ok ha;have:=o'.hX;cases this
def delTag (κ:Ghost)(r i:Nat):Ghost:=fun b o=>match κ b o with
 | .mslot c j=>if c=r then (if j<i then .mslot c j else if j=i then .free else .mslot c (j - 1)) else .mslot c j
 | x=>x
theorem delTag_slot {r i b o t:Nat}:κ b o = .slot t↔delTag κ r i b o = .slot t:=by
 unfold delTag;split
 ·rename_i h;rw [h];constructor
  ·intro e;cases e
  ·intro e;split at e
   ·split at e
    ·cases e
    ·split at e<;>cases e
   ·cases e
 ·rfl
theorem delTag_mslot {r i b o c j:Nat}(h:delTag κ r i b o = .mslot c j):∃ c' j',κ b o = .mslot c' j':=by
 unfold delTag at h;split at h
 ·rename_i c' j' h1;exact⟨c',j',h1⟩
 ·exact⟨c,j,h⟩
theorem sound_delete (h:Holds P κ S.T (tv a) S.M w)(hd:∀ d,o.dst=some d->d<a.tmps.size){args:Array Operand}{argTypes:Array TypeId}{m k:Operand}{t:TypeId}(hop:o.op = .call { callee:=.builtin .delete,args,argTypes })(hargs:args.toList=[m,k])(ht:argTypes[0]? = some t)
 (hs:aDelete P t (ev S.T m) (ev S.T k) o.dst S K):o.wp P a w (Next P κ w a K) Q:=by
 unfold aDelete at hs;split at hs
 ·rename_i kt et r kv hu hm hk;split at hs
  ·rename_i es hb;split at hs
   ·rename_i q at? hc hat;have hme:=rep_ev h m;rw [hm] at hme;have hke:=rawOf_rep hk (rep_ev h k);obtain⟨ents,clock,b1,b2,b3,b4,b5⟩:=h.obj r _ hb;have hkeys:=keys_of b2 fun j e ent e1 e2=>(b3 j e ent e1 e2).1
    obtain⟨hka1,hka2⟩:=keyAt_run hat hkeys;have hemp:ents.isEmpty=es.isEmpty:=by
     cases es with
     | nil=>simpa using b2
     | cons e es=>simp [Array.isEmpty,b2]
    have hc':=pr_run hc w;rw [← hemp] at hc';have hrunU:∀ w',(Builtin.delete_ argTypes o.type #[.map (some r),kv]).run P w = .ok (.tuple #[]) w'->(execOp a.eval o).run P w = .ok (.value (.tuple #[])) w':=fun w' hw=>by
     rw [builtin_run hop,two_args hargs,rep_raw hme,hke];exact run_val hw
    cases hat':at? with
    | none =>
     subst hat';have hrun:(Builtin.delete_ argTypes o.type #[.map (some r),kv]).run P w = .ok (.tuple #[]) (putObj w r (.map ents clock)):=by
      simp [Builtin.delete_,ht,pr_run (pr_underlying hu) w,run_getObj' b1,hc',pr_run (hka1 rfl) w,run_setObj b1]
     obtain⟨h1,hk1⟩:=h.setMap (r:=r) (es':=es) (ents:=ents) (clock:=clock) hb b2 b3 b4 b5;exact wp_value (hrunU _ hrun) (next_put (S':=S.upd r (.map es)) hd hs (fun d _=>h1.put d (.raw _) fun _ _=>Spare.not_raw) (fun _=>h1) hk1)
    | some i =>
     subst hat';obtain⟨e0,he0,hf⟩:=hka2 i rfl;have hi:i<es.length:=by
      rw [← b2];rcases Nat.lt_or_ge i ents.size with h'|h'
      ·exact h'
      ·rw [Array.getElem?_eq_none h'] at he0;cases he0
     have hrun:(Builtin.delete_ argTypes o.type #[.map (some r),kv]).run P w = .ok (.tuple #[]) (putObj w r (.map (ents.eraseIdxIfInBounds i) clock)):=by
      simp [Builtin.delete_,ht,pr_run (pr_underlying hu) w,run_getObj' b1,hc',pr_run hf w,run_setObj b1]
     have her:ents.eraseIdxIfInBounds i=ents.eraseIdx i (by omega):=by
      simp [Array.eraseIdxIfInBounds,b2,hi]
     have hget:∀ j:Nat,(ents.eraseIdxIfInBounds i)[j]? = if j<i then ents[j]? else ents[j+1]?:=fun j=>by
      rw [her,Array.getElem?_eraseIdx]
     obtain⟨h1,hk1⟩:=h.setMap' (κ':=delTag κ r i) (r:=r) (es':=es.eraseIdx i) (ents:=ents.eraseIdxIfInBounds i) (clock:=clock) hb
      (fun b o e=>by unfold delTag;rw [e]) (fun b o e=>by unfold delTag;rw [e]) (fun b o t=>delTag_slot) (fun b o c j hc e=>by unfold delTag;rw [e];simp only [if_neg hc]) (fun b o e=>by unfold delTag;rw [e]) (fun b o c j e=>delTag_mslot e)
      (by rw [her,Array.size_eraseIdx,List.length_eraseIdx_of_lt hi,b2])
      (fun j e ent e1 e2=>by
       rw [hget] at e2;rw [List.getElem?_eraseIdx] at e1;split at e2
       ·rename_i hj;rw [if_pos hj] at e1;obtain⟨c1,c2,c3⟩:=b3 j e ent e1 e2;exact⟨c1,c2,fun b' o' hsp=>by unfold delTag;rw [c3 b' o' hsp];simp only [if_true,if_pos hj]⟩
       ·rename_i hj;rw [if_neg hj] at e1;obtain⟨c1,c2,c3⟩:=b3 (j+1) e ent e1 e2;exact⟨c1,c2,fun b' o' hsp=>by unfold delTag;rw [c3 b' o' hsp];simp only [if_true,if_neg (show ¬ j+1<i by omega),if_neg (show ¬ j+1=i by omega),Nat.add_sub_cancel]⟩)
      (fun j ent e=>by
       rw [hget] at e;split at e<;>exact b4 _ ent e)
      (fun x y p q e1 e2 he=>by
       rw [hget] at e1 e2;split at e1<;>split at e2
       ·exact b5 _ _ p q e1 e2 he
       ·have:=b5 _ _ p q e1 e2 he;omega
       ·have:=b5 _ _ p q e1 e2 he;omega
       ·have:=b5 _ _ p q e1 e2 he;omega)
     exact wp_value (hrunU _ hrun) (next_put (S':=S.upd r (.map (es.eraseIdx i))) hd hs (fun d _=>h1.put d (.raw _) fun _ _=>Spare.not_raw) (fun _=>h1) hk1)
   ·exact hs.elim
  ·exact hs.elim
 ·exact hs.elim
def takeTag (κ:Ghost)(c j d:Nat):Ghost:=fun b o=>match κ b o with
 | .mslot c' j'=>if c'=c/\j'=j then .slot d else .mslot c' j'
 | x=>x
theorem sound_take (h:Holds P κ S.T (tv a) S.M w)(hd:∀ d,o.dst=some d->d<a.tmps.size){t:TypeId}{x:Operand}(hop:o.op = .load t x)(hs:aTake P t (ev S.T x) o.dst S K):o.wp P a w (Next P κ w a K) Q:=by
 unfold aTake at hs;split at hs
 ·rename_i b off d hx hdst;have hxe:=rep_ev h x;rw [hx] at hxe;split at hs
  ·rename_i l hb;split at hs
   ·rename_i xs hl;obtain⟨ha,hn,hK⟩:=hs;obtain⟨c,e,fr,a1,a2,a3,a4⟩:=h.obj b _ hb;have hlt:off<l.length:=by
     rcases Nat.lt_or_ge off l.length with h'|h'
     ·exact h'
     ·rw [List.getElem?_eq_none h'] at hl;cases hl
    have hcv:c[off]? = some c[off]:=Array.getElem?_eq_getElem (by omega);obtain⟨r1,r2,r3⟩:=a4 off _ _ hl hcv;have hrun:(execOp a.eval o).run P w = .ok (.value c[off]) w:=by
     unfold execOp;rw [hop];refine run_val (s:=Instr.loadAt t (a.eval x)) ?_;rw [rep_raw hxe];show (loadVar t ⟨b,off,none⟩).run P w=_
     show ((isAgg t) >>= _).run P w=_
     rw [run_bind_pr (pr_aggT ha)];show (Sem.load .plain ⟨b,off,none⟩ .pure).run P w=_
     simp only [Sem.run,cell_of_cells a1,hcv]
    have himm:∀ b' o',κ b' o' = .imm->takeTag κ b off d b' o' = .imm:=fun b' o' e=>by unfold takeTag;rw [e]
    have hframe:∀ b' o',κ b' o' = .frame->takeTag κ b off d b' o' = .frame:=fun b' o' e=>by unfold takeTag;rw [e]
    have hk:Keep κ w (takeTag κ b off d) w:=Keep.tags himm hframe;have hms:∀ b' o' c' j',¬ (c'=b/\j'=off)->κ b' o' = .mslot c' j'->takeTag κ b off d b' o' = .mslot c' j':=fun b' o' c' j' hne e=>by unfold takeTag;rw [e];simp only [if_neg hne]
    refine wp_value hrun ?_;have hH:Holds P (takeTag κ b off d) (setT S.T d (.sl xs true)) (fun t=>if t=d then c[off] else tv a t) (S.M.upd b (.cells (l.set off (.sl xs false)))) w:=by
     refine⟨fun t=>?_,fun c' p hc=>?_,fun c' y hc=>?_,fun t c' y hsp=>?_,fun c' y t hc=>?_,fun c' y c2 j hc=>?_⟩
     ·unfold setT;split
      ·exact hk.rep r1
      ·exact hk.rep (h.tmp t)
     ·unfold Mem.upd at hc;split at hc
      ·rename_i e';subst e';cases hc;refine⟨c,e,fr,a1,by simp [a2],a3,fun j V v e1 e2=>?_⟩;by_cases hj:off=j
       ·subst hj;rw [List.getElem?_set_self hlt] at e1;rw [hcv] at e2;cases e1;cases e2;exact⟨hk.rep r1.shut,r2,fun b' o' hsp=>absurd hsp (Spare.not_free (by simp [AVal.free]))⟩
       ·rw [List.getElem?_set_ne hj] at e1;obtain⟨s1,s2,s3⟩:=a4 j V v e1 e2;exact⟨hk.rep s1,s2,fun b' o' hsp=>hms _ _ _ _ (fun ⟨_,e⟩=>hj e.symm) (s3 b' o' hsp)⟩
      ·rename_i e';exact (h.obj c' p hc).tags himm (fun b' o' j e=>hms _ _ _ _ (fun ⟨e2,_⟩=>e' e2) e)
     ·have hc0:κ c' y ≠ .free:=fun e=>hc (by unfold takeTag;rw [e])
      refine⟨(h.tag c' y hc0).1,?_⟩;unfold Mem.upd;split
      ·rename_i e';subst e';exact absurd (h.free_of hb y) hc0
      ·exact (h.tag c' y hc0).2.to fun e=>by unfold takeTag;rw [e]
     ·unfold setT at hsp;split at hsp
      ·rename_i e';subst e';have:=r3 c' y hsp;unfold takeTag;rw [this];simp
      ·have:=h.sp t c' y hsp;unfold takeTag;rw [this]
     ·unfold takeTag at hc;split at hc
      ·rename_i c2 j2 e';exact h.mwr c' y c2 j2 e'
      ·exact h.wr c' y t hc
     ·unfold takeTag at hc;split at hc
      ·rename_i c3 j3 e';exact h.mwr c' y c3 j3 e'
      ·exact h.mwr c' y c2 j hc
    exact next_put (P:=P) (κ:=κ) (κ':=takeTag κ b off d) (w:=w) (w':=w) (v:=c[off]) (S':=S.upd b (.cells (l.set off (.sl xs false)))) (X:=.sl xs true) hd (by rw [hdst];exact hK) (fun d' e=>by rw [hdst] at e;cases e;exact hH) (fun e=>by rw [hdst] at e;cases e) hk
   ·exact hs.elim
  ·exact hs.elim
 ·exact hs.elim
end
end Go.Am
namespace Go.Am
section
variable {P:Program}{κ:Ghost}{w:World}{a:Act}{o:Oper}{K:St->Prop}{Q:Exit->Act->World->Prop}{S:St}
theorem aArgs_get {T:Nat->AVal}{mv:Option Nat}:∀ (xs:List Operand) (k i:Nat),(aArgs T mv k xs)[i]? = (xs[i]?).map fun x=>if mv=some (k+i) then ev T x else (ev T x).shut
 | [],k,i=>by simp [aArgs]
 | x::xs,k,0=>by simp [aArgs]
 | x::xs,k,i+1=>by
  simp only [aArgs,List.getElem?_cons_succ];rw [aArgs_get xs (k+1) i,show k+1+i=k+(i+1) from by omega]
theorem aArgs_length {T:Nat->AVal}{mv:Option Nat}:∀ (xs:List Operand) (k:Nat),(aArgs T mv k xs).length=xs.length
 | [],_=>rfl
 | _::xs,k=>by simp [aArgs,aArgs_length xs (k+1)]
theorem sound_call (h:Holds P κ S.T (tv a) S.M w)(hd:∀ d,o.dst=some d->d<a.tmps.size){F:Operand}{args:Array Operand}{argTypes:Array TypeId}{mv:Option Nat}(hop:o.op = .call { callee:=.value F,args,argTypes })
 (hs:aCall P mv (ev S.T F) args.toList o.dst S K):o.wp P a w (Next P κ w a K) Q:=by
 unfold aCall at hs;split at hs
 ·rename_i f first captured hF
  obtain⟨hdst,hgo,hmv,Post,hcall,hK⟩:=hs;obtain⟨d,hdst⟩:=Option.isSome_iff_exists.1 hdst;have hFe:=rep_ev h F;rw [hF] at hFe;have hrun:(execOp a.eval o).run P w = .ok (.enter f (first++args.map a.eval++captured)) w:=by
   unfold execOp;rw [hop];show ((Deferred.ofValue (a.eval F) (args.map a.eval)) >>= fun d=>invoke d.target d.args).run P w=_
   rw [rep_raw hFe];exact run_callFunc hgo _ w
  let mv':Option (Nat×Nat):=match mv with
   | some k=>(match args.toList[k]? with|some (.tmp s)=>some (first.size+k,s) | _=>none)
   | none=>none
  let S1:=S.loseArg mv args.toList
  have hL:(first.toList.map AVal.raw++aArgs S.T mv 0 args.toList++captured.toList.map AVal.raw).length=(first++args.map a.eval++captured).size:=by
   simp [aArgs_length]
  have hget:∀ (i:Nat) X,(first.toList.map AVal.raw++aArgs S.T mv 0 args.toList++captured.toList.map AVal.raw)[i]? = some X →
   (X = .raw ((first++args.map a.eval++captured).getD i undef))\/∃ j x,i=first.size+j/\args.toList[j]? = some x/\(first++args.map a.eval++captured).getD i undef=a.eval x/\X=(if mv=some j then ev S.T x else (ev S.T x).shut):=by
   intro i X hX;by_cases h1:i<first.size
   ·rw [List.append_assoc,List.getElem?_append_left (by simpa using h1)] at hX;left;simp only [List.getElem?_map,Array.getElem?_toList,Array.getElem?_eq_getElem h1,Option.map_some,Option.some.injEq] at hX;rw [← hX,Array.getD_eq_getD_getElem?,Array.append_assoc,Array.getElem?_append_left h1,Array.getElem?_eq_getElem h1,Option.getD_some]
   ·by_cases h2:i<first.size+args.size
    ·right;rw [List.append_assoc,List.getElem?_append_right (by simp;omega),List.getElem?_append_left (by rw [aArgs_length];simp;omega)] at hX;simp only [List.length_map,Array.length_toList] at hX;rw [aArgs_get] at hX;simp only [Option.map_eq_some_iff,Nat.zero_add] at hX;obtain⟨x,hx,rfl⟩:=hX;refine⟨i - first.size,x,by omega,hx,?_,rfl⟩;rw [Array.getD_eq_getD_getElem?,Array.append_assoc,Array.getElem?_append_right (by omega),Array.getElem?_append_left (by simp;omega),Array.getElem?_map];rw [Array.getElem?_toList] at hx;rw [hx];rfl
    ·left;rw [List.getElem?_append_right (by simp [aArgs_length];omega)] at hX;simp only [List.length_append,List.length_map,Array.length_toList,aArgs_length] at hX;simp only [List.getElem?_map,Array.getElem?_toList,Option.map_eq_some_iff] at hX;obtain⟨v,hv,rfl⟩:=hX;rw [Array.getD_eq_getD_getElem?,Array.getElem?_append_right (by simp;omega)];simp only [Array.size_append,Array.size_map];rw [hv];rfl
  have henter:=h.enter mv' (first.toList.map AVal.raw++aArgs S.T mv 0 args.toList++captured.toList.map AVal.raw) (first++args.map a.eval++captured)
   (fun i X hX=>by
    rcases hget i X hX with rfl|⟨j,x,-,-,h3,rfl⟩
    ·exact .raw _
    ·rw [h3];split
     ·exact rep_ev h x
     ·exact (rep_ev h x).shut)
   (fun i X hX=>by
    rcases hget i X hX with rfl|⟨j,x,h1,h2,h3,rfl⟩
    ·right;simp [AVal.free]
    ·split
     ·rename_i hm;left;subst hm;obtain⟨s,hs⟩:=hmv;rw [hs] at h2;cases h2;refine⟨s,?_,rfl,h3⟩;simp only [mv',hs,h1]
     ·right;exact AVal.shut_free _)
  have hlose:Holds P κ S1.T (tv a) S1.M w/\S1.M=S.M/\∀ i s,mv'=some (i,s)->(S1.T s).free:=by
   cases mv with
   | none=>exact⟨h,rfl,fun i s e=>by have e':(none:Option (Nat×Nat))=some (i,s):=e;cases e'⟩
   | some k =>
    obtain⟨s,hs⟩:=hmv;have e1:S1=S.lose (.tmp s):=by simp only [S1,St.loseArg,hs]
    rw [e1];refine⟨h.lose s,rfl,fun i s' e=>?_⟩;simp only [mv',hs,Option.some.injEq,Prod.mk.injEq] at e;rw [← e.2];show (setT S.T s (S.T s).shut s).free
    simp only [setT,if_true];exact AVal.shut_free _
  obtain⟨hl1,hl2,hl3⟩:=hlose;unfold Oper.wp;rw [hrun,Oper.upon_enter];refine (hcall _ w (first++args.map a.eval++captured) hL.symm henter).mono fun e w' hpost=>?_
  obtain⟨v,κ',r,M',rfl,hq,hH,hk⟩:=hpost;obtain⟨h1,h2⟩:=hl1.back mv' d hH hk hl3;have:=next_put (P:=P) (κ:=κ) (w:=w) (w':=w') (v:=v) (o:=o) (K:=K) (S':={ S1 with M:=M' }) (X:=r) hd (hK r M' hq) (fun d' e=>by rw [hdst] at e;cases e;exact h1) (fun e=>by rw [hdst] at e;cases e) h2;exact this
 ·exact hs.elim
theorem stepB_dst {n:Nat}(h:stepB n o=true):∀ d,o.dst=some d->d<n:=fun d e=>by
 unfold stepB at h;simp only [Bool.and_eq_true,e,decide_eq_true_eq] at h;exact h.1
def zeroB (P:Program)(o:Oper):Bool :=
 match o.op with
 | .alloc t=>((zeroCellsT P t).map fun zs=>zs.all AVal.unit).getD true
 | .makeSlice t _ _=>(match P.underlying t with|some (.slice e)=>((zeroCellsT P e).map fun zs=>zs.all AVal.unit).getD true | _=>true)
 | _=>true
end
end Go.Am
set_option linter.unusedSimpArgs false
set_option linter.unusedVariables false
namespace Go.Am
def srcM (M:Mem)(Y:AVal):Option AVal :=
 match Y with
 | .sl ys o=>some (.sl ys o)
 | .raw (.string s)=>some (.raw (.string s))
 | .raw (.slice base n _)=>if n=0 then some (.sl [] false) else
  (match base with
  | some ⟨b,off,none⟩ =>
   (match M b with
   | some (.cells l)=>if off+n<=l.length then some (.sl (((l.drop off).take n).map AVal.shut) false) else none
   | _=>none)
  | _=>none)
 | _=>none
def okB (base:Option Addr):Prop:=base=none\/∃ (q:Addr) (_:Unit),base=some q
theorem okB.any:∀ base:Option Addr,okB base
 | none=>.inl rfl
 | some q=>.inr ⟨q,(),rfl⟩
def emptyX (X:AVal):Prop:=X = .sl [] true\/∃ base,X = .raw (.slice base 0 0)/\okB base
def eAppR (P : Program) (argTypes : Array TypeId) (X Y : AVal) (M : Mem) (N : Mem → AVal → Prop) : Prop :=
  ∃ Y' st e zv, srcM M Y = some Y' ∧ argTypes[0]? = some st ∧ P.underlying st = some (.slice e) ∧ zeroCellsT P e = some [zv] ∧ zv.unit = true ∧
    ((emptyX X ∧ ∃ ys, (∀ e ∈ ys, e.cells = [e]) ∧ aAppend P argTypes (.sl [] true) Y' = some ys ∧ ∀ base c M1, (ys = [] → c = 0 ∧ M1 = M ∧ okB base) → (ys ≠ [] → ∃ b, base = some ⟨b, 0, none⟩ ∧ M b = none ∧ ys.length ≤ c ∧ M1 = M.upd b (.cells (ys.map AVal.shut ++ List.replicate (c - ys.length) zv))) → N M1 (.raw (.slice base ys.length c))) ∨
     (∃ b off n c, X = .raw (.slice (some ⟨b, off, none⟩) n c) ∧ ∃ l ys, M b = some (.cells l) ∧ off + c ≤ l.length ∧ n ≤ c ∧ (((l.drop off).take n).all AVal.unit) = true ∧ (∀ e ∈ ys, e.cells = [e]) ∧ aAppend P argTypes (.sl (((l.drop off).take n).map AVal.shut) true) Y' = some (((l.drop off).take n).map AVal.shut ++ ys) ∧
        (n + ys.length ≤ c → N (M.upd b (.cells (splice l (off + n) (ys.map AVal.shut)))) (.raw (.slice (some ⟨b, off, none⟩) (n + ys.length) c))) ∧
        (¬ n + ys.length ≤ c → ∀ b' c', M b' = none → n + ys.length ≤ c' → N (M.upd b' (.cells (((l.drop off).take n).map AVal.shut ++ ys.map AVal.shut ++ List.replicate (c' - (n + ys.length)) zv))) (.raw (.slice (some ⟨b', 0, none⟩) (n + ys.length) c')))))
def wideN (P:Program)(argTypes:Array TypeId)(M:Mem)(ys:List AVal)(N:Mem->AVal->Prop):Prop :=
 ∃ st e zs,argTypes[0]? = some st/\P.underlying st=some (.slice e)/\zeroCellsT P e=some zs/\(∀ z∈zs,z.unit=true)/\0<zs.length ∧
  ∀ base c M1,(ys=[]->c=0/\M1=M/\okB base)->(ys≠[]->∃ b,base=some ⟨b,0,none⟩/\M b=none/\ys.length<=c/\M1=M.upd b (.cells ((flat ys).map AVal.shut++(List.replicate (c - ys.length) zs).flatten)))->N M1 (.raw (.slice base ys.length c))
def eAppC (P:Program)(argTypes:Array TypeId)(X Y:AVal)(M:Mem)(N:Mem->AVal->Prop):Prop :=
 ∃ Y' ys,srcM M Y=some Y'/\emptyX X/\aAppend P argTypes (.sl [] true) Y'=some ys/\(N M (.sl ys true)\/wideN P argTypes M ys N)
def wideR (P:Program)(argTypes:Array TypeId)(X Y:AVal)(M:Mem)(N:Mem->AVal->Prop):Prop :=
 ∃ Y' st e zs b n c l XS ys,srcM M Y=some Y'/\argTypes[0]? = some st/\P.underlying st=some (.slice e)/\zeroCellsT P e=some zs/\(∀ z∈zs,z.unit=true)/\0<zs.length ∧
  X = .raw (.slice (some ⟨b,0,none⟩) n c)/\M b=some (.cells l)/\XS.length=n/\n<=c/\c*zs.length<=l.length/\l.take (n*zs.length)=flat XS/\(∀ X∈flat XS,X.unit=true)/\aAppend P argTypes (.sl XS true) Y'=some (XS++ys) ∧
  (n+ys.length<=c->N (M.upd b (.cells (splice l (n*zs.length) ((flat ys).map AVal.shut)))) (.raw (.slice (some ⟨b,0,none⟩) (n+ys.length) c))) ∧
  (¬ n+ys.length<=c->∀ b' k,M b'=none->N (M.upd b' (.cells ((flat XS++flat ys).map AVal.shut++(List.replicate k zs).flatten))) (.raw (.slice (some ⟨b',0,none⟩) (n+ys.length) (n+ys.length+k))))
def eAppS (P:Program)(argTypes:Array TypeId)(X Y:AVal)(M:Mem)(N:Mem->AVal->Prop):Prop:=eAppC P argTypes X Y M N\/wideR P argTypes X Y M N
section
variable {P:Program}{κ:Ghost}{w:World}{a:Act}{o:Oper}{K:St->Prop}{Q:Exit->Act->World->Prop}{S:St}
theorem rep_unit_cells {V:AVal}{v:Value}(h:Rep P κ w V v)(h1:one v=true):V.shut.cells=[V.shut]:=by
 cases h with
 | agg=>simp [one] at h1
 | _=>rfl
theorem rep_unit {V:AVal}{v:Value}(h:Rep P κ w V v)(h1:one v=true)(hu:V.ok=true):V.unit=true:=by
 cases h with
 | undef=>simp [AVal.ok,AVal.unit] at hu
 | raw v=>exact h1
 | nil=>rfl
 | emp=>rfl
 | sl=>rfl
 | sptr=>rfl
 | agg cs vs=>simp [one] at h1
 | tup cs vs=>simp [one] at h1
theorem shut1_shut1 (V:AVal):V.shut1.shut1=V.shut1:=by cases V<;>rfl
theorem shut_shut (V:AVal):V.shut.shut=V.shut:=by
 cases V with
 | tup vs =>
  show AVal.tup ((vs.map AVal.shut1).map AVal.shut1) = .tup (vs.map AVal.shut1)
  rw [List.map_map];exact congrArg AVal.tup (List.map_congr_left fun X _=>shut1_shut1 X)
 | _=>rfl
theorem shut_ok {V:AVal}:V.shut.ok=V.ok:=by cases V<;>rfl
theorem shut_unit {V:AVal}:V.shut.unit=V.unit:=by cases V<;>rfl
theorem read_block {T:Nat->AVal}{V:Nat->Value}{M:Mem}(h:Holds P κ T V M w){b off n:Nat}{l:List AVal}(hb:M b=some (.cells l))(hle:off+n<=l.length) :
 ∃ cv:Nat->Value,(∀ j,j<n->w.cell? ⟨b,off+j,none⟩=some (cv j))/\∀ (j:Nat) X,((l.drop off).take n)[j]? = some X->Rep P κ w X (cv j)/\one (cv j)=true:=by
 obtain⟨c,e,fr,a1,a2,a3,a4⟩:=h.obj b _ hb;refine⟨fun j=>c.getD (off+j) undef,fun j hj=>?_,fun j X hX=>?_⟩
 ·have hc:off+j<c.size:=by omega
  rw [cell_of_cells a1];simp [Array.getD,hc]
 ·have hj:j<n/\off+j<l.length:=by
   have:=(List.getElem?_eq_some_iff.1 hX).1;rw [List.length_take,List.length_drop] at this;omega
  rw [List.getElem?_take,if_pos hj.1,List.getElem?_drop] at hX;have hc:off+j<c.size:=by omega
  have:=a4 (off+j) X c[off+j] hX (by simp [hc]);have e1:c.getD (off+j) undef=c[off+j]:=by simp [Array.getD,hc]
  dsimp only;rw [e1];exact⟨this.1,this.2.1⟩
theorem flat_units {l:List AVal}(h:∀ e∈l,e.cells=[e]):flat l=l:=by
 unfold flat
 induction l with
 | nil=>rfl
 | cons x l ih=>rw [List.flatMap_cons,h x List.mem_cons_self,ih fun e he=>h e (List.mem_cons_of_mem _ he)];rfl
theorem run_src {T:Nat->AVal}{V:Nat->Value}{M:Mem}(h:Holds P κ T V M w){Y Y':AVal}{y:Value}{ys:List AVal}{sz:Nat}(hy:Rep P κ w Y y)(hs:srcM M Y=some Y')(hsp:spread Y'=some ys)(hok:∀ e∈ys,e.ok=true/\e.cells.length=sz) :
 ∃ vs:Array Value,(Builtin.lenOf y).run P w = .ok ys.length w/\(Builtin.firstCells sz ys.length y).run P w = .ok vs w/\vs.size=ys.length*sz/\∀ (j:Nat) c v,(flat ys)[j]? = some c->vs[j]? = some v->Rep P κ w c v/\c.unit=true:=by
 unfold srcM at hs;split at hs
 ·obtain rfl:=Option.some.inj hs;exact run_firstCells hy hsp hok
 ·obtain rfl:=Option.some.inj hs;exact run_firstCells hy hsp hok
 ·rename_i base n c;split at hs
  ·rename_i hn0;subst hn0;obtain rfl:=Option.some.inj hs;obtain rfl:=rep_raw hy;obtain rfl:=Option.some.inj hsp;refine⟨#[],rfl,?_,by simp,fun j c v h=>by simp [flat] at h⟩;cases base with
   | none=>rfl
   | some ad =>
    show (loadCells ad (0*sz)).run P w=_
    rw [Nat.zero_mul];rfl
  split at hs
  rotate_left
  ·cases hs
  rename_i b off;split at hs
  ·rename_i l hb;split at hs
   ·rename_i hle;obtain rfl:=Option.some.inj hs;obtain rfl:=rep_raw hy;obtain rfl:=Option.some.inj hsp;have hlen:(((l.drop off).take n).map AVal.shut).length=n:=by simp;omega
    obtain⟨cv,h1,h2⟩:=read_block h hb hle;have hcells:∀ e∈((l.drop off).take n).map AVal.shut,e.cells=[e]:=fun e he=>by
     obtain⟨X,hX,rfl⟩:=List.mem_map.1 he;obtain⟨j,hj⟩:=List.mem_iff_getElem?.1 hX;have:=h2 j X hj;exact rep_unit_cells this.1 this.2
    have hsz:n=0\/sz=1:=by
     cases hq:((l.drop off).take n).map AVal.shut with
     | nil=>left;rw [hq] at hlen;exact hlen.symm
     | cons x r =>
      right;have:=(hok x (by rw [hq];exact List.mem_cons_self)).2;rw [hcells x (by rw [hq];exact List.mem_cons_self)] at this;exact this.symm
    have hnsz:n*sz=n:=by rcases hsz with h|h<;>subst h<;>omega
    refine⟨((List.range n).map cv).toArray,by rw [hlen];rfl,?_,by rw [hlen];simp [hnsz],fun j c' v e1 e2=>?_⟩
    ·rw [hlen];show (loadCells ⟨b,off,none⟩ (n*sz)).run P w=_
     rw [hnsz];exact run_loadCells cv h1
    ·rw [flat_units hcells] at e1;rw [List.getElem?_map] at e1;obtain⟨X,hX,rfl⟩:=Option.map_eq_some_iff.1 e1;have hj:j<n:=by
      have:=(List.getElem?_eq_some_iff.1 hX).1;rw [List.length_take] at this;omega
     simp [hj] at e2;subst e2;have:=h2 j X hX;refine⟨this.1.shut,?_⟩;have hmem:X.shut∈((l.drop off).take n).map AVal.shut:=List.mem_map.2 ⟨X,List.mem_of_getElem? hX,rfl⟩;have hm:=hok X.shut hmem;have hc:=hcells X.shut hmem;rw [shut_unit];exact rep_unit this.1 this.2 (by rw [← shut_ok];exact hm.1)
   ·cases hs
  ·cases hs
 ·cases hs
theorem new_block {T:Nat->AVal}{V:Nat->Value}{M:Mem}(h:Holds P κ T V M w){xs ys:List AVal}{olds vs:Array Value}{e:TypeId}{z:Value}{zv:AVal}{k:Nat}(hzc:zeroCellsT P e=some [zv])(hz:zeroT P e=some z)(hzu:zv.unit=true)
 (ho:olds.size=xs.length) (hv:vs.size=ys.length) (hor:∀ (j:Nat) c v,xs[j]? = some c->olds[j]? = some v->Rep P κ w c v/\c.unit=true) (hvr:∀ (j:Nat) c v,ys[j]? = some c->vs[j]? = some v->Rep P κ w c v/\c.unit=true) :
 Holds P κ T V (M.upd w.heap.size (.cells (xs.map AVal.shut++ys.map AVal.shut++List.replicate k zv))) (push w (.cells (olds++vs++Builtin.zeroCells z.cells k) e))/\Keep κ w κ (push w (.cells (olds++vs++Builtin.zeroCells z.cells k) e)):=by
 obtain⟨z',hz',hzz⟩:=pr_zeroCells hzc;rw [hz] at hz';obtain rfl:=Option.some.inj hz';have hz1:z.cells.size=1:=by have:=congrArg List.length hzz;simpa using this.symm
 have hz0:ofConst z.cells[0]! = zv:=by
  have:z.cells.toList=[z.cells[0]!]:=by
   have hl:z.cells.toList.length=1:=by simpa using hz1
   match hq:z.cells.toList,hl with
   | [x],_ =>
    have:z.cells = #[x]:=by apply Array.ext';rw [hq]
    rw [this];rfl
  rw [this] at hzz;simpa using hzz.symm
 have hzs:(Builtin.zeroCells z.cells k).size=k:=by simp [Builtin.zeroCells,hz1]
 refine h.newObj (fr:=(0,0)) (by simp [ho,hv,hzs]) (fun j X x e1 e2=>?_) (fun _ _=>by simp);by_cases h1:j<xs.length
 ·rw [List.append_assoc,List.getElem?_append_left (by rw [List.length_map];exact h1),List.getElem?_map] at e1;rw [Array.append_assoc,Array.getElem?_append_left (by omega)] at e2;obtain⟨Y,hY,rfl⟩:=Option.map_eq_some_iff.1 e1;have:=hor j Y x hY e2;exact⟨this.1.shut,unit_one this.1 this.2,fun _ _=>Spare.not_shut⟩
 ·rw [List.append_assoc,List.getElem?_append_right (by rw [List.length_map];omega),List.length_map] at e1;rw [Array.append_assoc,Array.getElem?_append_right (by omega),ho] at e2;by_cases h2:j - xs.length<ys.length
  ·rw [List.getElem?_append_left (by rw [List.length_map];exact h2),List.getElem?_map] at e1;rw [Array.getElem?_append_left (by omega)] at e2;obtain⟨Y,hY,rfl⟩:=Option.map_eq_some_iff.1 e1;have:=hvr _ Y x hY e2;exact⟨this.1.shut,unit_one this.1 this.2,fun _ _=>Spare.not_shut⟩
  ·rw [List.getElem?_append_right (by rw [List.length_map];omega),List.length_map] at e1;rw [Array.getElem?_append_right (by omega),hv] at e2;rw [List.getElem?_replicate] at e1;split at e1
   ·rename_i hlt;obtain rfl:=Option.some.inj e1;have hx:x=z.cells[0]!:=by
     simp [Builtin.zeroCells,hz1] at e2;obtain⟨q,h3,h4⟩:=e2;rw [← h4,Nat.mod_one]
    subst hx;rw [← hz0];exact⟨ofConst_rep _,unit_one (P:=P) (κ:=κ) (w:=w) (ofConst_rep _) (by rw [hz0];exact hzu),fun _ _ hs=>ofConst_spare hs⟩
   ·cases e1
theorem new_blockW {T:Nat->AVal}{V:Nat->Value}{M:Mem}(h:Holds P κ T V M w){ys:List AVal}{vs:Array Value}{e:TypeId}{z:Value}{zs:List AVal}{k:Nat}(hzc:zeroCellsT P e=some zs)(hz:zeroT P e=some z)(hzu:∀ z∈zs,z.unit=true)(hz0:0<zs.length)
 (hv:vs.size=ys.length) (hvr:∀ (j:Nat) c v,ys[j]? = some c->vs[j]? = some v->Rep P κ w c v/\c.unit=true) :
 Holds P κ T V (M.upd w.heap.size (.cells (ys.map AVal.shut++(List.replicate k zs).flatten))) (push w (.cells (#[]++vs++Builtin.zeroCells z.cells k) e))/\Keep κ w κ (push w (.cells (#[]++vs++Builtin.zeroCells z.cells k) e)):=by
 obtain⟨z',hz',hzz⟩:=pr_zeroCells hzc;rw [hz] at hz';obtain rfl:=Option.some.inj hz';have hzl:zs.length=z.cells.size:=by rw [hzz,List.length_map,Array.length_toList]
 have hzs:(Builtin.zeroCells z.cells k).size=k*zs.length:=by simp [Builtin.zeroCells,hzl]
 have hfl:((List.replicate k zs).flatten).length=k*zs.length:=by simp
 refine h.newObj (fr:=(0,0)) (by simp [hv,hzs]) (fun j X x e1 e2=>?_) (fun _ _=>by simp);rw [Array.empty_append] at e2;by_cases h2:j<ys.length
 ·rw [List.getElem?_append_left (by rw [List.length_map];exact h2),List.getElem?_map] at e1;rw [Array.getElem?_append_left (by omega)] at e2;obtain⟨Y,hY,rfl⟩:=Option.map_eq_some_iff.1 e1;have:=hvr _ Y x hY e2;exact⟨this.1.shut,unit_one this.1 this.2,fun _ _=>Spare.not_shut⟩
 ·rw [List.getElem?_append_right (by rw [List.length_map];omega),List.length_map] at e1;rw [Array.getElem?_append_right (by omega),hv] at e2;have hj:j - ys.length<k*zs.length:=by
   have:=(List.getElem?_eq_some_iff.1 e1).1;omega
  rw [replicate_get zs hz0 k _ hj] at e1;have hm:(j - ys.length) % zs.length<z.cells.size:=by rw [← hzl];exact Nat.mod_lt _ hz0
  have hx:x=z.cells[(j - ys.length) % zs.length]'hm:=by
   simp [Builtin.zeroCells] at e2;obtain⟨q,h3,h4⟩:=e2;have hq:q=j - ys.length:=by
    rw [Array.getElem?_eq_getElem (by simp;rw [← hzl];exact hj)] at h3;simp at h3;exact h3.symm
   have hm2:(j - ys.length) % z.cells.size<z.cells.size:=Nat.mod_lt _ (by omega);rw [← h4,hq,getElem!_pos z.cells _ hm2];simp only [hzl]
  have hX:X=ofConst (z.cells[(j - ys.length) % zs.length]'hm):=by
   rw [hzz,List.getElem?_map] at e1;obtain⟨q,h3,h4⟩:=Option.map_eq_some_iff.1 e1;rw [← h4];congr 1;rw [List.getElem?_eq_getElem (by simpa [hzl] using hm)] at h3;have:=Option.some.inj h3;rw [← this];simp [hzl]
  subst hx;rw [hX];exact⟨ofConst_rep _,unit_one (P:=P) (κ:=κ) (w:=w) (ofConst_rep _) (by rw [← hX];exact hzu X (List.mem_of_getElem? e1)),fun _ _ hs=>ofConst_spare hs⟩
theorem empty_base {X:AVal}{v:Value}(hX:emptyX X)(h:Rep P κ w X v):∃ base,v = .slice base 0 0/\okB base/\Rep P κ w (.sl [] true) (.slice base 0 0):=by
 rcases hX with rfl|hX
 ·rcases rep_sl_inv h with ⟨-,a0,c0,e1,hc0⟩|⟨b,off,cap,sz,cv,e1,e2,-,-,-,-,ho⟩
  ·obtain rfl:=hc0 rfl;exact⟨a0,e1,.any _,.emp true a0 0 fun _=>rfl⟩
  ·rcases ho rfl with h'|⟨h',-⟩
   ·rw [h'] at e1;exact⟨_,e1,.any _,by have:=h;rw [e1] at this;exact this⟩
   ·exact absurd rfl h'
 ·obtain⟨base,rfl,hb⟩:=hX;exact⟨base,rep_raw h,hb,.emp true base 0 fun _=>rfl⟩
theorem sound_appR (h:Holds P κ S.T (tv a) S.M w)(hd:∀ d,o.dst=some d->d<a.tmps.size){args:Array Operand}{argTypes:Array TypeId}{x y:Operand}{d:Nat}(hop:o.op = .call { callee:=.builtin .append,args,argTypes })(hargs:args.toList=[x,y])(hdst:o.dst=some d)
 (hs:eAppR P argTypes (ev S.T x) (ev S.T y) S.M fun M1 V=>K (({ S with M:=M1 }:St).put (some d) V)):o.wp P a w (Next P κ w a K) Q:=by
 have hrun:∀ v w',(Builtin.append_ argTypes o.type #[a.eval x,a.eval y]).run P w = .ok v w'->(execOp a.eval o).run P w = .ok (.value v) w':=fun v w' hw=>by
  rw [builtin_run hop,two_args hargs];exact run_val hw
 obtain⟨Y',st,e,zv,hY,hst0,hste,hzc,hzu,hs⟩:=hs;have fin:∀ (v:Value) (w':World) (M1:Mem),(Builtin.append_ argTypes o.type #[a.eval x,a.eval y]).run P w = .ok v w'->Holds P κ S.T (tv a) M1 w'->Keep κ w κ w'->K (({ S with M:=M1 }:St).put (some d) (.raw v))->o.wp P a w (Next P κ w a K) Q:=fun v w' M1 h1 h2 h3 h4 =>
  wp_value (hrun v w' h1) (next_put (S':=({ S with M:=M1 }:St)) (X:=.raw v) hd (by rw [hdst];exact h4) (fun d' _=>h2.put d' (.raw v) fun _ _=>Spare.not_raw) (fun _=>h2) h3)
 have ety:∀ {X Y:AVal} (q:AppendOk P argTypes X Y),q.e=e:=fun q=>by
  have h1:=q.h0;rw [hst0] at h1;have h2:=q.hst;rw [← Option.some.inj h1,hste] at h2;injection h2 with h2;injection h2 with h2;exact h2.symm
 rcases hs with ⟨hX,hs⟩|⟨b,off,n,c,hX,hs⟩
 ·obtain⟨ys,hpl,ha,hK⟩:=hs;obtain⟨q,hq⟩:=aAppend_ok ha;have hl0:q.l=[]:=by have:=q.hX;injection this with h1 _;exact h1.symm
  rw [hl0,List.nil_append] at hq;subst hq;obtain⟨vs,hlen,hfirst,hvs,hvr⟩:=run_src h (rep_ev h y) hY q.hY q.hys;obtain⟨h1,hk1⟩:=h.drawn (w.drawn+1);obtain⟨vs1,hlen1,hfirst1,hvs1,hvr1⟩:=run_src h1 (hk1.rep (rep_ev h y)) hY q.hY q.hys;have hfy:=flat_units hpl;obtain⟨base,hbase,hb',-⟩:=empty_base hX (rep_ev h x);by_cases hys:q.ys=[]
  ·refine fin (.slice base 0 0) w S.M ?_ h (Keep.refl κ w) ?_
   ·rw [hbase];have r1:=pr_run (pr_underlying q.hst) w;have r2:=pr_run (pr_underlying q.hxt) w;have r3:=run_sizeT q.hsz w;have hint:=q.hint;rw [hys] at hlen hfirst hvs;simp only [List.length_nil] at hlen hfirst;have hv0:vs.toList=[]:=by
     apply List.eq_nil_of_length_eq_zero;rw [Array.length_toList,hvs];simp
    cases base with
    | none =>
     generalize q.xd=xd at hint r2;cases xd<;>first|(simp [isRow] at hint;done)|simp [Builtin.append_,q.h0,q.h1,r1,r2,r3,hlen,hfirst]
    | some q0 =>
     have hs0:(storeCells (q0.add (0*q.sz)) []).run P w = .ok () w:=rfl;rw [Nat.zero_mul] at hs0;generalize q.xd=xd at hint r2;cases xd<;>first|(simp [isRow] at hint;done)|simp [Builtin.append_,q.h0,q.h1,r1,r2,r3,hlen,hfirst,hv0,hs0]
   ·have:=hK base 0 S.M (fun _=>⟨rfl,rfl,hb'⟩) (fun h'=>absurd hys h');rw [hys] at this;exact this
  ·have hgt:¬ q.l.length+q.ys.length<=0:=by
    rw [hl0];cases hq:q.ys with|nil=>exact absurd hq hys|cons=>simp
   have hg:=run_append_grow (ty:=o.type) q (base:=base) (cap:=0) (y:=a.eval y) (olds:=#[]) hlen hgt _ rfl (by rw [hl0];cases base<;>(first|rfl|(show (loadCells _ (0*q.sz)).run P _=_;rw [Nat.zero_mul];rfl))) hfirst1;generalize hnc:(Question.appendCap (q.l.length+q.ys.length) 0 q.e).cut (w.tape w.drawn (.appendCap (q.l.length+q.ys.length) 0 q.e))=newCap at hg;have hncle:q.l.length+q.ys.length<=newCap:=by rw [← hnc];simp only [Question.cut];omega
   have hsz1:q.sz=1:=by
    cases hq:q.ys with
    | nil=>exact absurd hq hys
    | cons x r =>
     have:=(q.hys x (by rw [hq];exact List.mem_cons_self)).2;rw [hpl x (by rw [hq];exact List.mem_cons_self)] at this;exact this.symm
   rw [hsz1,Nat.mul_one] at hvs1;obtain⟨h2,hk2⟩:=new_block h1 (xs:=[]) (ys:=q.ys) (olds:=#[]) (vs:=vs1) (e:=q.e) (z:=q.z) (k:=newCap - (q.l.length+q.ys.length)) (by rw [ety q];exact hzc) q.hz hzu rfl hvs1 (fun j c v e1=>by simp at e1) (fun j c v e1 e2=>hvr1 j c v (by rw [hfy];exact e1) e2);have e0:Value.slice base q.l.length 0 = .slice base 0 0:=by rw [hl0];rfl
   rw [e0,← hbase] at hg;refine fin _ _ _ hg h2 (hk1.trans hk2) ?_;have:=hK (some ⟨w.heap.size,0,none⟩) newCap (S.M.upd w.heap.size (.cells (q.ys.map AVal.shut++List.replicate (newCap - q.ys.length) zv))) (fun h'=>absurd h' hys) (fun _=>⟨w.heap.size,rfl,h.fresh,by rw [hl0] at hncle;simpa using hncle,rfl⟩);rw [hl0];simpa using this
 ·obtain⟨l,ys,hb,hle,hnc,hun,hpl,ha,hK1,hK2⟩:=hs;obtain⟨q,hq⟩:=aAppend_ok ha;have hql:q.l=((l.drop off).take n).map AVal.shut:=by have:=q.hX;injection this with h1 _;exact h1.symm
  have hys:q.ys=ys:=by rw [hql] at hq;exact (List.append_cancel_left hq).symm
  subst hys;have hlen0:q.l.length=n:=by rw [hql];simp;omega
  obtain⟨vs,hlen,hfirst,hvs,hvr⟩:=run_src h (rep_ev h y) hY q.hY q.hys;obtain⟨h1,hk1⟩:=h.drawn (w.drawn+1);obtain⟨vs1,hlen1,hfirst1,hvs1,hvr1⟩:=run_src h1 (hk1.rep (rep_ev h y)) hY q.hY q.hys;have hxr:=rep_ev h x;rw [hX] at hxr;have hxv:=rep_raw hxr;have hfy:=flat_units hpl;obtain⟨cv,hc1,hc2⟩:=read_block h hb (show off+n<=l.length by omega);have hlc:∀ e∈q.l,e.cells=[e]:=fun e he=>by
   rw [hql] at he;obtain⟨X,hX',rfl⟩:=List.mem_map.1 he;obtain⟨j,hj⟩:=List.mem_iff_getElem?.1 hX';have:=hc2 j X hj;exact rep_unit_cells this.1 this.2
  have hsz:q.ys=[]\/q.sz=1:=by
   cases hq:q.ys with
   | nil=>exact .inl rfl
   | cons x r =>
    right;have:=(q.hys x (by rw [hq];exact List.mem_cons_self)).2;rw [hpl x (by rw [hq];exact List.mem_cons_self)] at this;exact this.symm
  have hsz':q.l=[]\/q.sz=1:=by
   cases hq:q.l with
   | nil=>exact .inl rfl
   | cons x r =>
    right;have:=q.hl x (by rw [hq];exact List.mem_cons_self);rw [hlc x (by rw [hq];exact List.mem_cons_self)] at this;exact this.symm
  have hnsz:n*q.sz=n:=by
   rcases hsz' with h'|h'
   ·rw [h'] at hlen0;have h0:n=0:=hlen0.symm;have:∀ a b:Nat,a=0->a*b=a:=fun a b e=>by rw [e,Nat.zero_mul]
    exact this n _ h0
   ·rw [h'];omega
  have hysz:q.ys.length*q.sz=q.ys.length:=by
   rcases hsz with h'|h'
   ·rw [h'];simp
   ·rw [h'];omega
  rw [hysz] at hvs hvs1;by_cases hroom:n+q.ys.length<=c
  ·obtain⟨w',s1,s2,s3⟩:=run_storeCells (P:=P) (b:=b) (o:=off+n) q.ys vs.toList 0 w S.M l h hb (by omega) (by rw [Array.length_toList,hvs]) (fun j X v e1 e2=>hvr j X v (by rw [hfy];exact e1) (by simpa using e2));have hst:(storeCells ⟨b,off+q.l.length*q.sz,none⟩ vs.toList 0).run P w = .ok () w':=by rw [hlen0,hnsz];exact s1
   have:=run_append_room (ty:=o.type) q (b:=b) (off:=off) (cap:=c) (w':=w') hlen hfirst (by rw [hlen0];exact hroom) hst;rw [hlen0,← hxv] at this;refine fin _ _ _ this s2 s3 ?_;exact hK1 hroom
  ·have hold:(Builtin.firstCells q.sz q.l.length (.slice (some ⟨b,off,none⟩) q.l.length c)).run P { w with drawn:=w.drawn+1 } = .ok ((List.range n).map cv).toArray { w with drawn:=w.drawn+1 }:=by
    rw [hlen0];show (loadCells ⟨b,off,none⟩ (n*q.sz)).run P _=_
    rw [hnsz];exact run_loadCells cv fun j hj=>hc1 j hj
   have hg:=run_append_grow (ty:=o.type) q (base:=some ⟨b,off,none⟩) (cap:=c) (y:=a.eval y) (olds:=((List.range n).map cv).toArray) hlen (by rw [hlen0];exact hroom) _ rfl hold hfirst1;generalize hnc':(Question.appendCap (q.l.length+q.ys.length) c q.e).cut (w.tape w.drawn (.appendCap (q.l.length+q.ys.length) c q.e))=newCap at hg;have hncle:q.l.length+q.ys.length<=newCap:=by rw [← hnc'];simp only [Question.cut];omega
   obtain⟨h2,hk2⟩:=new_block h1 (xs:=q.l) (ys:=q.ys) (olds:=((List.range n).map cv).toArray) (vs:=vs1) (e:=q.e) (z:=q.z) (k:=newCap - (q.l.length+q.ys.length)) (by rw [ety q];exact hzc) q.hz hzu (by rw [hlen0];simp) hvs1 (fun j c v e1 e2=>by
    rw [hql,List.getElem?_map] at e1;obtain⟨X,hX',rfl⟩:=Option.map_eq_some_iff.1 e1;have hj:j<n:=by
     have:=(List.getElem?_eq_some_iff.1 hX').1;rw [List.length_take] at this;omega
    simp [hj] at e2;subst e2;have h3:=hc2 j X hX';refine⟨hk1.rep h3.1.shut,?_⟩;rw [shut_unit];exact List.all_eq_true.1 hun X (List.mem_of_getElem? hX')) (fun j c v e1 e2=>hvr1 j c v (by rw [hfy];exact e1) e2)
   rw [show (Value.slice (some ⟨b,off,none⟩) q.l.length c)=a.eval x from by rw [hlen0];exact hxv.symm] at hg;refine fin _ _ _ hg h2 (hk1.trans hk2) ?_;have:=hK2 hroom w.heap.size newCap h.fresh (by omega);have e3:q.l.map AVal.shut=((l.drop off).take n).map AVal.shut:=by
    rw [hql,List.map_map];refine List.map_congr_left fun X _=>?_
    exact shut_shut X
   rw [e3,hlen0];exact this
theorem sound_appC (h:Holds P κ S.T (tv a) S.M w)(hd:∀ d,o.dst=some d->d<a.tmps.size){args:Array Operand}{argTypes:Array TypeId}{x y:Operand}{d:Nat}(hop:o.op = .call { callee:=.builtin .append,args,argTypes })(hargs:args.toList=[x,y])(hdst:o.dst=some d)
 (hs:eAppC P argTypes (ev S.T x) (ev S.T y) S.M fun M1 V=>K (({ S with M:=M1 }:St).put (some d) V)):o.wp P a w (Next P κ w a K) Q:=by
 have hrun:∀ v w',(Builtin.append_ argTypes o.type #[a.eval x,a.eval y]).run P w = .ok v w'->(execOp a.eval o).run P w = .ok (.value v) w':=fun v w' hw=>by
  rw [builtin_run hop,two_args hargs];exact run_val hw
 obtain⟨Y',ys,hY,hX,ha,hK⟩:=hs;obtain⟨q,hq⟩:=aAppend_ok ha;have hl0:q.l=[]:=by have:=q.hX;injection this with h1 _;exact h1.symm
 rw [hl0,List.nil_append] at hq;subst hq;obtain⟨vs,hlen,hfirst,hvs,hvr⟩:=run_src h (rep_ev h y) hY q.hY q.hys;obtain⟨h1,hk1⟩:=h.drawn (w.drawn+1);obtain⟨vs1,hlen1,hfirst1,hvs1,hvr1⟩:=run_src h1 (hk1.rep (rep_ev h y)) hY q.hY q.hys;obtain⟨base,hbase,hb',hr0⟩:=empty_base hX (rep_ev h x);rcases hK with hK|hW
 rotate_left
 ·obtain⟨st,e,zs,hst0,hste,hzc,hzu,hz0,hK⟩:=hW;have fin:∀ (v:Value) (w':World) (M1:Mem),(Builtin.append_ argTypes o.type #[a.eval x,a.eval y]).run P w = .ok v w'->Holds P κ S.T (tv a) M1 w'->Keep κ w κ w'->K (({ S with M:=M1 }:St).put (some d) (.raw v))->o.wp P a w (Next P κ w a K) Q:=fun v w' M1 h1 h2 h3 h4 =>
   wp_value (hrun v w' h1) (next_put (S':=({ S with M:=M1 }:St)) (X:=.raw v) hd (by rw [hdst];exact h4) (fun d' _=>h2.put d' (.raw v) fun _ _=>Spare.not_raw) (fun _=>h2) h3)
  have ety:q.e=e:=by
   have h1:=q.h0;rw [hst0] at h1;have h2:=q.hst;rw [← Option.some.inj h1,hste] at h2;injection h2 with h2;injection h2 with h2;exact h2.symm
  by_cases hys:q.ys=[]
  ·refine fin (.slice base 0 0) w S.M ?_ h (Keep.refl κ w) ?_
   ·rw [hbase];have r1:=pr_run (pr_underlying q.hst) w;have r2:=pr_run (pr_underlying q.hxt) w;have r3:=run_sizeT q.hsz w;have hint:=q.hint;rw [hys] at hlen hfirst hvs;simp only [List.length_nil] at hlen hfirst;have hv0:vs.toList=[]:=by
     apply List.eq_nil_of_length_eq_zero;rw [Array.length_toList,hvs];simp
    cases base with
    | none =>
     generalize q.xd=xd at hint r2;cases xd<;>first|(simp [isRow] at hint;done)|simp [Builtin.append_,q.h0,q.h1,r1,r2,r3,hlen,hfirst]
    | some q0 =>
     have hs0:(storeCells (q0.add (0*q.sz)) []).run P w = .ok () w:=rfl;rw [Nat.zero_mul] at hs0;generalize q.xd=xd at hint r2;cases xd<;>first|(simp [isRow] at hint;done)|simp [Builtin.append_,q.h0,q.h1,r1,r2,r3,hlen,hfirst,hv0,hs0]
   ·have:=hK base 0 S.M (fun _=>⟨rfl,rfl,hb'⟩) (fun h'=>absurd hys h');rw [hys] at this;exact this
  ·have hgt:¬ q.l.length+q.ys.length<=0:=by
    rw [hl0];cases hq:q.ys with|nil=>exact absurd hq hys|cons=>simp
   have hg:=run_append_grow (ty:=o.type) q (base:=base) (cap:=0) (y:=a.eval y) (olds:=#[]) hlen hgt _ rfl (by rw [hl0];cases base<;>(first|rfl|(show (loadCells _ (0*q.sz)).run P _=_;rw [Nat.zero_mul];rfl))) hfirst1;generalize hnc:(Question.appendCap (q.l.length+q.ys.length) 0 q.e).cut (w.tape w.drawn (.appendCap (q.l.length+q.ys.length) 0 q.e))=newCap at hg;have hncle:q.l.length+q.ys.length<=newCap:=by rw [← hnc];simp only [Question.cut];omega
   have hfy:=flat_length (fun e he=>(q.hys e he).2);obtain⟨h2,hk2⟩:=new_blockW h1 (ys:=flat q.ys) (vs:=vs1) (e:=q.e) (z:=q.z) (k:=newCap - (q.l.length+q.ys.length)) (by rw [ety];exact hzc) q.hz hzu hz0 (by rw [hvs1,hfy]) (fun j c v e1 e2=>hvr1 j c v e1 e2);have e0:Value.slice base q.l.length 0 = .slice base 0 0:=by rw [hl0];rfl
   rw [e0,← hbase] at hg;refine fin _ _ _ hg h2 (hk1.trans hk2) ?_;have:=hK (some ⟨w.heap.size,0,none⟩) newCap (S.M.upd w.heap.size (.cells ((flat q.ys).map AVal.shut++(List.replicate (newCap - q.ys.length) zs).flatten))) (fun h'=>absurd h' hys) (fun _=>⟨w.heap.size,rfl,h.fresh,by rw [hl0] at hncle;simpa using hncle,rfl⟩);rw [hl0];simpa using this
 by_cases hys:q.ys=[]
 ·refine wp_value (hrun (.slice base 0 0) w ?_) (next_put (S':=S) (X:=.sl q.ys true) hd (by rw [hdst];exact hK) (fun d' _=>h.put d' (by rw [hys];exact hr0) fun b' o' hsp=>?_) (fun _=>h) (Keep.refl κ w))
  ·rw [hbase];have r1:=pr_run (pr_underlying q.hst) w;have r2:=pr_run (pr_underlying q.hxt) w;have r3:=run_sizeT q.hsz w;have hint:=q.hint;rw [hys] at hlen hfirst hvs;simp only [List.length_nil] at hlen hfirst;have hv0:vs.toList=[]:=by
    apply List.eq_nil_of_length_eq_zero;rw [Array.length_toList,hvs];simp
   cases base with
   | none =>
    generalize q.xd=xd at hint r2;cases xd<;>first|(simp [isRow] at hint;done)|simp [Builtin.append_,q.h0,q.h1,r1,r2,r3,hlen,hfirst]
   | some q0 =>
    have hs0:(storeCells (q0.add (0*q.sz)) []).run P w = .ok () w:=rfl;rw [Nat.zero_mul] at hs0;generalize q.xd=xd at hint r2;cases xd<;>first|(simp [isRow] at hint;done)|simp [Builtin.append_,q.h0,q.h1,r1,r2,r3,hlen,hfirst,hv0,hs0]
  ·rw [hys] at hsp;obtain⟨l',off,cap,e1,e2,e3,e4⟩:=hsp.sl;injection e2 with e5 e6 e7
   subst e7;simp at e3 e4;omega
 ·have hgt:¬ q.l.length+q.ys.length<=0:=by
   rw [hl0];cases hq:q.ys with|nil=>exact absurd hq hys|cons=>simp
  have hg:=run_append_grow (ty:=o.type) q (base:=base) (cap:=0) (y:=a.eval y) (olds:=#[]) hlen hgt _ rfl (by rw [hl0];cases base<;>(first|rfl|(show (loadCells _ (0*q.sz)).run P _=_;rw [Nat.zero_mul];rfl))) hfirst1;generalize hnc:(Question.appendCap (q.l.length+q.ys.length) 0 q.e).cut (w.tape w.drawn (.appendCap (q.l.length+q.ys.length) 0 q.e))=newCap at hg;have hncle:q.l.length+q.ys.length<=newCap:=by rw [← hnc];simp only [Question.cut];omega
  have hfy:=flat_length (fun e he=>(q.hys e he).2);have hzc:∀ n,(Builtin.zeroCells q.z.cells n).size=n*q.sz:=fun n=>by simp [Builtin.zeroCells,q.hzs]
  have e0:Value.slice base q.l.length 0 = .slice base 0 0:=by rw [hl0];rfl
  rw [e0,← hbase] at hg;have hl0':q.l.length=0:=by rw [hl0];rfl
  rw [hl0',Nat.zero_add] at hg hncle;have hcells:(#[]++vs1++Builtin.zeroCells q.z.cells (newCap - q.ys.length)).size=newCap*q.sz:=by
   simp only [Array.size_append,hvs1,hzc,List.size_toArray,List.length_nil,Nat.zero_add];rw [← Nat.add_mul];congr 1;omega
  obtain⟨h2,hk2⟩:=h1.newSl d (l:=q.ys) (cs:=#[]++vs1++Builtin.zeroCells q.z.cells (newCap - q.ys.length)) (cap:=newCap) (e:=q.e) (fr:=(0,0)) q.hsz hcells hncle (.inl hys) (fun e he=>(q.hys e he).2)
   (fun j c v e1 e2=>by
    have hj2:j<(flat q.ys).length:=by
     rcases Nat.lt_or_ge j (flat q.ys).length with h'|h'
     ·exact h'
     ·rw [List.getElem?_eq_none h'] at e1;cases e1
    rw [Array.empty_append,Array.getElem?_append_left (by omega)] at e2;exact (hvr1 _ c v e1 e2).1) (fun o' _=>by simp)
  exact wp_value (hrun _ _ hg) (next_put (S':=S) (X:=.sl q.ys true) hd (by rw [hdst];exact hK) (fun d' e=>by rw [hdst] at e;cases e;exact h2) (fun e=>by rw [hdst] at e;cases e) (hk1.trans hk2))
theorem sound_appW (h:Holds P κ S.T (tv a) S.M w)(hd:∀ d,o.dst=some d->d<a.tmps.size){args:Array Operand}{argTypes:Array TypeId}{x y:Operand}{d:Nat}(hop:o.op = .call { callee:=.builtin .append,args,argTypes })(hargs:args.toList=[x,y])(hdst:o.dst=some d)
 (hs:wideR P argTypes (ev S.T x) (ev S.T y) S.M fun M1 V=>K (({ S with M:=M1 }:St).put (some d) V)):o.wp P a w (Next P κ w a K) Q:=by
 have hrun:∀ v w',(Builtin.append_ argTypes o.type #[a.eval x,a.eval y]).run P w = .ok v w'->(execOp a.eval o).run P w = .ok (.value v) w':=fun v w' hw=>by
  rw [builtin_run hop,two_args hargs];exact run_val hw
 obtain⟨Y',st,e,zs,b,n,c,l,XS,ys,hY,hst0,hste,hzc,hzu,hz0,hX,hb,hXn,hnc,hle,hlX,hXu,ha,hK1,hK2⟩:=hs;have fin:∀ (v:Value) (w':World) (M1:Mem),(Builtin.append_ argTypes o.type #[a.eval x,a.eval y]).run P w = .ok v w'->Holds P κ S.T (tv a) M1 w'->Keep κ w κ w'->K (({ S with M:=M1 }:St).put (some d) (.raw v))->o.wp P a w (Next P κ w a K) Q:=fun v w' M1 h1 h2 h3 h4 =>
  wp_value (hrun v w' h1) (next_put (S':=({ S with M:=M1 }:St)) (X:=.raw v) hd (by rw [hdst];exact h4) (fun d' _=>h2.put d' (.raw v) fun _ _=>Spare.not_raw) (fun _=>h2) h3)
 obtain⟨q,hq⟩:=aAppend_ok ha;have hql:q.l=XS:=by have:=q.hX;injection this with h1 _;exact h1.symm
 have hys:q.ys=ys:=by rw [hql] at hq;exact (List.append_cancel_left hq).symm
 subst hys;have ety:q.e=e:=by
  have h1:=q.h0;rw [hst0] at h1;have h2:=q.hst;rw [← Option.some.inj h1,hste] at h2;injection h2 with h2;injection h2 with h2;exact h2.symm
 have hsz:q.sz=zs.length:=by
  obtain⟨z',hz',hzz⟩:=pr_zeroCells hzc;have h1:=q.hz;rw [ety,hz'] at h1;obtain rfl:=Option.some.inj h1;rw [hzz,List.length_map,Array.length_toList,q.hzs]
 have hlen0:q.l.length=n:=by rw [hql];exact hXn
 obtain⟨vs,hlen,hfirst,hvs,hvr⟩:=run_src h (rep_ev h y) hY q.hY q.hys;obtain⟨h1,hk1⟩:=h.drawn (w.drawn+1);obtain⟨vs1,hlen1,hfirst1,hvs1,hvr1⟩:=run_src h1 (hk1.rep (rep_ev h y)) hY q.hY q.hys;have hxr:=rep_ev h x;rw [hX] at hxr;have hxv:=rep_raw hxr;have hfy:=flat_length (fun e he=>(q.hys e he).2);have hnl:n*zs.length<=l.length:=Nat.le_trans (Nat.mul_le_mul_right _ hnc) hle;obtain⟨cv,hc1,hc2⟩:=read_block h hb (off:=0) (n:=n*zs.length) (by omega);rw [List.drop_zero,hlX] at hc2;by_cases hroom:n+q.ys.length<=c
 ·have hin:0+n*zs.length+0+(flat q.ys).length<=l.length:=by
   rw [hfy,hsz];have:=Nat.mul_le_mul_right zs.length hroom;rw [Nat.add_mul] at this;omega
  obtain⟨w',s1,s2,s3⟩:=run_storeCells (P:=P) (b:=b) (o:=0+n*zs.length) (flat q.ys) vs.toList 0 w S.M l h hb hin (by rw [hfy,Array.length_toList,hvs]) (fun j X v e1 e2=>hvr j X v e1 (by simpa using e2));have hst:(storeCells ⟨b,0+q.l.length*q.sz,none⟩ vs.toList 0).run P w = .ok () w':=by rw [hlen0,hsz];exact s1
  have:=run_append_room (ty:=o.type) q (b:=b) (off:=0) (cap:=c) (w':=w') hlen hfirst (by rw [hlen0];exact hroom) hst;rw [hlen0,← hxv] at this;refine fin _ _ _ this s2 s3 ?_;rw [Nat.zero_add,Nat.add_zero];exact hK1 hroom
 ·have hold:(Builtin.firstCells q.sz q.l.length (.slice (some ⟨b,0,none⟩) q.l.length c)).run P { w with drawn:=w.drawn+1 } = .ok ((List.range (n*zs.length)).map cv).toArray { w with drawn:=w.drawn+1 }:=by
   rw [hlen0,hsz];show (loadCells ⟨b,0,none⟩ (n*zs.length)).run P _=_
   exact run_loadCells cv fun j hj=>hc1 j hj
  have hg:=run_append_grow (ty:=o.type) q (base:=some ⟨b,0,none⟩) (cap:=c) (y:=a.eval y) (olds:=((List.range (n*zs.length)).map cv).toArray) hlen (by rw [hlen0];exact hroom) _ rfl hold hfirst1;generalize hnc':(Question.appendCap (q.l.length+q.ys.length) c q.e).cut (w.tape w.drawn (.appendCap (q.l.length+q.ys.length) c q.e))=newCap at hg;have hncle:q.l.length+q.ys.length<=newCap:=by rw [← hnc'];simp only [Question.cut];omega
  have hfX:(flat XS).length=n*zs.length:=by rw [← hlX,List.length_take];omega
  obtain⟨h2,hk2⟩:=new_blockW h1 (ys:=flat XS++flat q.ys) (vs:=((List.range (n*zs.length)).map cv).toArray++vs1) (e:=q.e) (z:=q.z) (k:=newCap - (q.l.length+q.ys.length)) (by rw [ety];exact hzc) q.hz hzu hz0 (by rw [Array.size_append,hvs1,List.length_append,hfX,hfy];simp) (fun j c v e1 e2=>by
   by_cases hj:j<n*zs.length
   ·rw [List.getElem?_append_left (by rw [hfX];exact hj)] at e1;rw [Array.getElem?_append_left (by simpa using hj)] at e2;simp [hj] at e2;subst e2;exact⟨hk1.rep (hc2 j c e1).1,hXu c (List.mem_of_getElem? e1)⟩
   ·rw [List.getElem?_append_right (by rw [hfX];omega),hfX] at e1;rw [Array.getElem?_append_right (by simp;omega)] at e2;simp at e2;exact hvr1 _ c v e1 (by simpa using e2))
  rw [show (Value.slice (some ⟨b,0,none⟩) q.l.length c)=a.eval x from by rw [hlen0];exact hxv.symm] at hg;rw [Array.empty_append] at h2 hk2;refine fin _ _ _ hg h2 (hk1.trans hk2) ?_;have:=hK2 hroom w.heap.size (newCap - (n+q.ys.length)) h.fresh;rw [show n+q.ys.length+(newCap - (n+q.ys.length))=newCap by omega] at this;rw [hlen0];exact this
theorem sound_appS (h:Holds P κ S.T (tv a) S.M w)(hd:∀ d,o.dst=some d->d<a.tmps.size){args:Array Operand}{argTypes:Array TypeId}{x y:Operand}{d:Nat}(hop:o.op = .call { callee:=.builtin .append,args,argTypes })(hargs:args.toList=[x,y])(hdst:o.dst=some d)
 (hs:eAppS P argTypes (ev S.T x) (ev S.T y) S.M fun M1 V=>K (({ S with M:=M1 }:St).put (some d) V)):o.wp P a w (Next P κ w a K) Q :=
 hs.elim (sound_appC h hd hop hargs hdst) (sound_appW h hd hop hargs hdst)
end
def eClear (P : Program) (argTypes : Array TypeId) (X : AVal) (M : Mem) (N : Mem → AVal → Prop) : Prop :=
  ∃ st e zv, argTypes[0]? = some st ∧ P.underlying st = some (.slice e) ∧ zeroCellsT P e = some [zv] ∧ zv.unit = true ∧
    ((∃ base c, X = .raw (.slice base 0 c) ∧ N M (.raw (.tuple #[]))) ∨
     (∃ b off n c l, X = .raw (.slice (some ⟨b, off, none⟩) n c) ∧ n ≠ 0 ∧ M b = some (.cells l) ∧ off + n ≤ l.length ∧ N (M.upd b (.cells (splice l off (List.replicate n zv.shut)))) (.raw (.tuple #[]))))
section
variable {P:Program}{κ:Ghost}{w:World}{a:Act}{o:Oper}{K:St->Prop}{Q:Exit->Act->World->Prop}{S:St}
theorem sound_clear (h:Holds P κ S.T (tv a) S.M w)(hd:∀ d,o.dst=some d->d<a.tmps.size){args:Array Operand}{argTypes:Array TypeId}{x:Operand}(hop:o.op = .call { callee:=.builtin .clear,args,argTypes })(hargs:args.toList=[x])
 (hs:eClear P argTypes (ev S.T x) S.M fun M1 V=>K (({ S with M:=M1 }:St).put o.dst V)):o.wp P a w (Next P κ w a K) Q:=by
 have hmap:args.map a.eval = #[a.eval x]:=by
  apply Array.ext';rw [Array.toList_map,hargs];rfl
 obtain⟨st,e,zv,h0,hu,hzc,hzu,hs⟩:=hs;obtain⟨z,hz,hzz⟩:=pr_zeroCells hzc;have hrun:∀ w',(Builtin.clear_ argTypes o.type #[a.eval x]).run P w = .ok (.tuple #[]) w'->(execOp a.eval o).run P w = .ok (.value (.tuple #[])) w':=fun w' hw=>by
  rw [builtin_run hop,hmap];exact run_val hw
 have hxr:=rep_ev h x;rcases hs with ⟨base,c,hX,hK⟩|⟨b,off,n,c,l,hX,hn,hb,hle,hK⟩
 ·rw [hX] at hxr;have hxv:=rep_raw hxr;refine wp_value (hrun w ?_) (next_put (S':=S) (X:=.raw (.tuple #[])) hd hK (fun d _=>h.put d (.raw _) fun _ _=>Spare.not_raw) (fun _=>h) (Keep.refl κ w));rw [hxv];unfold Builtin.clear_;simp only [h0,List.getElem?_toArray,List.getElem?_cons_zero];show ((underlying st) >>= _).run P w=_
  rw [run_bind_pr (pr_underlying hu)];cases base<;>rfl
 ·rw [hX] at hxr;have hxv:=rep_raw hxr;have hz1:z.cells.size=1:=by have:=congrArg List.length hzz;simpa using this.symm
  have hz0:ofConst z.cells[0]! = zv:=by
   have:z.cells.toList=[z.cells[0]!]:=by
    have hl:z.cells.toList.length=1:=by simpa using hz1
    match hq:z.cells.toList,hl with
    | [x],_ =>
     have:z.cells = #[x]:=by apply Array.ext';rw [hq]
     rw [this];rfl
   rw [this] at hzz;simpa using hzz.symm
  have hzs:(Builtin.zeroCells z.cells n).toList.length=n:=by simp [Builtin.zeroCells,hz1]
  obtain⟨w',s1,s2,s3⟩:=run_storeCells (P:=P) (b:=b) (o:=off) (List.replicate n zv) (Builtin.zeroCells z.cells n).toList 0 w S.M l h hb (by simp;omega) (by rw [hzs];simp) (fun j X v e1 e2=>by
   rw [List.getElem?_replicate] at e1;split at e1
   ·obtain rfl:=Option.some.inj e1;have hx:v=z.cells[0]!:=by
     rw [Array.getElem?_toList] at e2;simp [Builtin.zeroCells,hz1] at e2;obtain⟨q,h3,h4⟩:=e2;rw [← h4,Nat.mod_one]
    subst hx;refine⟨?_,hzu⟩;rw [← hz0];exact ofConst_rep _
   ·cases e1)
  rw [List.map_replicate,Nat.add_zero] at s2;refine wp_value (hrun w' ?_) (next_put (S':=S.upd b (.cells (splice l off (List.replicate n zv.shut)))) (X:=.raw (.tuple #[])) hd hK (fun d _=>s2.put d (.raw _) fun _ _=>Spare.not_raw) (fun _=>s2) s3);rw [hxv];unfold Builtin.clear_;simp only [h0,List.getElem?_toArray,List.getElem?_cons_zero];show ((underlying st) >>= _).run P w=_
  rw [run_bind_pr (pr_underlying hu)];cases n with
  | zero=>exact absurd rfl hn
  | succ n =>
   show (zeroValue e >>= fun z=>(storeCells ⟨b,off,none⟩ (Builtin.zeroCells z.cells (n+1)).toList >>= fun _=>pure (Value.tuple #[]))).run P w=_
   rw [run_bind_pr (pr_zeroT hz),Sem.run_bind,s1];rfl
end
def Fixed (P:Program)(V:AVal)(v:Value):Prop:=(∀ κ w,Rep P κ w V v)/\∀ (w:World) b o,¬ Spare P w V v b o
def eExact (P:Program)(o:Oper)(T:Nat->AVal)(M:Mem)(N:Mem->AVal->Prop):Prop :=
 ∀ (ρ:Operand->Value) (w:World),(∀ x∈o.op.operands.toList,∀ v,rawOf (ev T x)=some v->ρ x=v)->(∀ b ob,M b=some (.it ob)->w.heap[b]? = some ob)->(M w.heap.size=none/\∀ v,ρ (.const v)=v) →
  (∃ v V,(execOp ρ o).run P w = .ok (.value v) w/\Fixed P V v/\N M V) ∨
  (∃ v V r ob ob' n,M r=some (.it ob)/\(∀ c e fr,ob ≠ .cells c e fr/\ob' ≠ .cells c e fr)/\(execOp ρ o).run P w = .ok (.value v) { putObj w r ob' with drawn:=n }/\Fixed P V v/\N (M.upd r (.it ob')) V) ∨
  (∃ r ob ob',M r=some (.it ob)/\(∀ c e fr,ob ≠ .cells c e fr/\ob' ≠ .cells c e fr)/\(execOp ρ o).run P w = .ok .skip (putObj w r ob')/\N (M.upd r (.it ob')) (.raw undef)) ∨
  (∃ v ob',(∀ c e fr,ob' ≠ .cells c e fr)/\(execOp ρ o).run P w = .ok (.value v) (push w ob')/\N (M.upd w.heap.size (.it ob')) (.raw v))
end Go.Am
set_option linter.unusedSimpArgs false
set_option linter.unusedVariables false
namespace Go.Am
structure Eff where
 lz:Option Tmp
 M:Mem
 V:AVal
def St.loseO (S:St):Option Tmp->St
 | some t=>S.lose (.tmp t)
 | none=>S
def Eff.apply (e:Eff)(S:St)(dst:Option Tmp):St:=({ S.loseO e.lz with M:=e.M }:St).put dst e.V
def tmpOf:Operand->Option Tmp
 | .tmp t=>some t
 | _=>none
def lzOf (tk:Option Nat)(o:Oper):Option Tmp :=
 match o.op with
 | .move x | .assign x | .extract x _=>if tk.isSome then tmpOf x else none
 | .store _ _ x=>tmpOf x
 | .call { callee:=.builtin .append,args,.. }=>(args.toList[0]?).bind tmpOf
 | .call { callee:=.value _,args,.. }=>(match tk with|some i=>(args.toList[i]?).bind tmpOf|none=>none)
 | _=>none
def eStore (P:Program)(t:TypeId)(A V:AVal)(x:Operand)(M:Mem)(N:Eff->Prop):Prop :=
 match A with
 | .raw (.pointer (some ⟨b,off,none⟩)) =>
  (match M b with
  | some (.cells l) =>
   V.ok=true/\sizeT P t=some V.cells.length/\off+V.cells.length<=l.length ∧
    (match V with
    | .sl xs true=>N ⟨tmpOf x,M.upd b (.cells (l.set off (.sl xs true))),.undef⟩
    | _=>N ⟨none,M.upd b (.cells (splice l off (V.cells.map AVal.shut))),.undef⟩)
  | _=>False)
 | _=>False
def eTake (P:Program)(t:TypeId)(A:AVal)(M:Mem)(N:Eff->Prop):Prop :=
 match A with
 | .raw (.pointer (some ⟨b,off,none⟩)) =>
  (match M b with
  | some (.cells l) =>
   (match l[off]? with
   | some (.sl xs true)=>aggT P t=some false/\sizeT P t=some 1/\N ⟨none,M.upd b (.cells (l.set off (.sl xs false))),.sl xs true⟩
   | _=>False)
  | _=>False)
 | _=>False
def eBuildSlice (P:Program)(T:Nat->AVal)(t:TypeId)(len:Nat)(parts:List (Nat×Operand))(M:Mem)(N:Eff->Prop):Prop :=
 match P.underlying t with
 | some (.slice e) =>
  (match sizeT P e,zeroT P e,aParts T 0 parts with
  | some sz,some z,some l=>z.cells.size=sz/\l.length=len/\len*sz<=2^24/\(l.all fun V=>V.ok && V.cells.length == sz)=true/\N ⟨none,M,.sl l true⟩
  | _,_,_=>False)
 | _=>False
def eMakeSlice (P:Program)(t:TypeId)(L C:AVal)(M:Mem)(N:Eff->Prop):Prop :=
 match P.underlying t,L,C with
 | some (.slice e),.raw (.int .i64 n),.raw (.int .i64 c) =>
  (match sizeT P e,bytesT P e,zeroCellsT P e with
  | some sz,some by_,some zs =>
   zs.length=sz/\1<=sz/\1<=n/\n<=c/\by_*c<=2^46/\c<=2^46/\∀ b,M b=none->N ⟨none,M.upd b (.cells (List.replicate c.toNat zs).flatten),.raw (.slice (some ⟨b,0,none⟩) n.toNat c.toNat)⟩
  | _,_,_=>False)
 | _,_,_=>False
def eMapUpdate (P:Program)(t:TypeId)(X K₀ V:AVal)(M:Mem)(N:Eff->Prop):Prop :=
 match P.underlying t,X,rawOf K₀ with
 | some (.map kt _),.raw (.map (some r)),some k =>
  (match M r with
  | some (.map es) =>
   (match pr P (Instr.checkKey false 10000 kt k),keyAt P kt k (es.map (·.1)) with
   | some _,some at?=>(∀ i,at? = some i->Instr.sameBits 10000 (((es[i]?).map (·.1)).getD k) k=true)/\N ⟨none,M.upd r (.map (putEntry es at? k V.shut)),.undef⟩
   | _,_=>False)
  | _=>False)
 | _,_,_=>False
def eDelete (P:Program)(t:TypeId)(X K₀:AVal)(M:Mem)(N:Eff->Prop):Prop :=
 match P.underlying t,X,rawOf K₀ with
 | some (.map kt _),.raw (.map (some r)),some k =>
  (match M r with
  | some (.map es) =>
   (match pr P (Instr.checkKey es.isEmpty 10000 kt k),keyAt P kt k (es.map (·.1)) with
   | some _,some at?=>N ⟨none,M.upd r (.map (match at? with|some i=>es.eraseIdx i|none=>es)),.raw (.tuple #[])⟩
   | _,_=>False)
  | _=>False)
 | _,_,_=>False
def eS2B (P:Program)(s d:TypeId)(X:AVal)(M:Mem)(N:Eff->Prop):Prop :=
 match X with
 | .raw (.string str)=>s2b P s d=true/\∀ b cap,M b=none->str.size<=cap->N ⟨none,M.upd b (.cells (u8l str++List.replicate (cap - str.size) (.raw (.int .u8 0)))),.raw (.slice (some ⟨b,0,none⟩) str.size cap)⟩
 | _=>False
def eNil (P:Program)(op:BinOp)(t:TypeId)(X:AVal)(y:Operand)(M:Mem)(N:Eff->Prop):Prop :=
 match X,P.underlying t with
 | .sl l _,some (.slice _)=>isNilSlice y=true/\(op = .eql\/op = .neq)/\∀ b,(l≠[]->b=decide (op = .neq))->N ⟨none,M,.raw (.bool b)⟩
 | .raw (.slice p _ _),some (.slice _)=>isNilSlice y=true/\(op = .eql\/op = .neq)/\∀ b,(op = .eql->b=p.isNone)->(op = .neq->b = !p.isNone)->N ⟨none,M,.raw (.bool b)⟩
 | _,_=>False
def eRange (P:Program)(t:TypeId)(X:AVal)(M:Mem)(N:Eff->Prop):Prop :=
 match X,P.underlying t with
 | .raw (.string s),some .string=>∀ b,M b=none->N ⟨none,M.upd b (.it (.stringIter s 0)),.raw (.pointer (some ⟨b,0,none⟩))⟩
 | _,_=>False
def eNext (X:AVal)(str:Bool)(M:Mem)(N:Eff->Prop):Prop :=
 match X,str with
 | .raw (.pointer (some ⟨b,0,_⟩)),true =>
  (match M b with
  | some (.it (.stringIter s pos)) =>
   if pos<s.size then N ⟨none,M.upd b (.it (.stringIter s (pos+(Utf8.decode s pos).2))),.raw (.tuple #[.bool true,goInt pos,.int .i32 (Utf8.decode s pos).1])⟩
   else N ⟨none,M,.raw (.tuple #[.bool false])⟩
  | _=>False)
 | _,_=>False
def eCall (P:Program)(mv:Option Nat)(T:Nat->AVal)(F:AVal)(args:List Operand)(dst:Option Tmp)(M:Mem)(N:Eff->Prop):Prop :=
 match F with
 | .raw (.func (.func f) first captured) =>
  dst.isSome=true/\goesB P f=true/\mvOk mv args/\∃ Post,SoundCall P f (first.toList.map .raw++aArgs T mv 0 args++captured.toList.map .raw) M Post ∧
   ∀ r M',Post r M'->N ⟨match mv with|some i=>(args[i]?).bind tmpOf|none=>none,M',r⟩
 | _=>False
def estep (P:Program)(tk:Option Nat)(o:Oper)(T:Nat->AVal)(M:Mem)(N:Eff->Prop):Prop :=
 match o.op with
 | .move x | .assign x=>if tk.isSome then N ⟨tmpOf x,M,ev T x⟩ else N ⟨none,M,(ev T x).shut⟩
 | .store t a x=>eStore P t (ev T a) (ev T x) x M N
 | .alloc t=>(match zeroCellsT P t with|some zs=>∀ b,M b=none->N ⟨none,M.upd b (.cells zs),.raw (.pointer (some ⟨b,0,none⟩))⟩|none=>False)
 | .box _ x=>(ev T x).ok=true/\∀ b,M b=none->N ⟨none,M.upd b (.cells ((ev T x).cells.map AVal.shut)),.raw (.pointer (some ⟨b,0,none⟩))⟩
 | .buildSlice t len parts=>eBuildSlice P T t len parts.toList M N
 | .makeMap _ none=>∀ b,M b=none->N ⟨none,M.upd b (.map []),.raw (.map (some b))⟩
 | .makeSlice t l c=>eMakeSlice P t (ev T l) (ev T c) M N
 | .mapUpdate t m k x | .insert t m k x=>eMapUpdate P t (ev T m) (ev T k) (ev T x) M N
 | .convert s d x=>(match aop P T M o.type (.convert s d x) with|some V=>N ⟨none,M,V.shut⟩|none=>False)\/eS2B P s d (ev T x) M N
 | .binOp op t x y t'=>(match aop P T M o.type (.binOp op t x y t') with|some V=>N ⟨none,M,V.shut⟩|none=>False)\/eNil P op t (ev T x) y M N
 | .extract x i=>if tk.isSome then (match ev T x with | .tup vs=>(match vs[i]? with|some (.sl l own)=>N ⟨tmpOf x,M,.sl l own⟩ | _=>False) | _=>False)
  else (match aop P T M o.type (.extract x i) with|some V=>N ⟨none,M,V.shut⟩|none=>False)
 | .range t x=>eRange P t (ev T x) M N
 | .next i str=>eNext (ev T i) str M N
 | .load t x=>(match tk with
  | some _=>eTake P t (ev T x) M N
  | none=>(match aop P T M o.type (.load t x) with|some V=>N ⟨none,M,V.shut⟩|none=>False))
 | .call { callee:=.value f,args,.. }=>eCall P tk T (ev T f) args.toList o.dst M N
 | .call { callee:=.builtin .append,args,argTypes } =>
  (match args.toList with
  | [x,y]=>o.dst.isSome=true/\(match aAppend P argTypes (ev T x) (ev T y) with|some l=>N ⟨tmpOf x,M,.sl l true⟩|none=>False)
  | _=>False)
 | .call { callee:=.builtin .delete,args,argTypes } =>
  (match args.toList,argTypes[0]? with
  | [x,y],some t=>eDelete P t (ev T x) (ev T y) M N
  | _,_=>False)
 | op=>(match aop P T M o.type op with|some V=>N ⟨none,M,V.shut⟩|none=>False)
def NilL (l l':List AVal):Prop:=l'.length=l.length/\∀ (j:Nat) c c',l[j]? = some c->l'[j]? = some c'->c'=c\/(c = .raw (.slice none 0 0)/\c' = .sl [] true)
def NilM (M:Mem)(N:Mem->AVal->Prop):Prop:=∃ b l l',M b=some (.cells l)/\NilL l l'/\N (M.upd b (.cells l')) .undef
def xstep (P:Program)(o:Oper)(T:Nat->AVal)(M:Mem)(N:Mem->AVal->Prop):Prop :=
 eExact P o T M N\/match o.op with
 | .call { callee:=.builtin .append,args,argTypes } =>
  (match args.toList with
  | [x,y]=>o.dst.isSome=true/\(eAppR P argTypes (ev T x) (ev T y) M N\/eAppS P argTypes (ev T x) (ev T y) M N)
  | _=>False)
 | .call { callee:=.builtin .clear,args,argTypes } =>
  (match args.toList with
  | [x]=>eClear P argTypes (ev T x) M N
  | _=>False)
 | .box _ x=>(ev T x).ok=true/\∀ b,M b=none->N (M.upd b (.cells ((ev T x).cells.map fun c=>nilO c.shut))) (.raw (.pointer (some ⟨b,0,none⟩)))
 | .store t p x=>o.dst=none/\eStore P t (ev T p) (ev T x) x M fun e=>e.lz=none/\NilM e.M N
 | _=>False
def dstep (P:Program)(tk:Option Nat)(o:Oper)(S:St)(K:St->Prop):Prop:=estep P tk o S.T S.M (fun e=>K (e.apply S o.dst))\/xstep P o S.T S.M fun M1 V=>K (Eff.apply ⟨none,M1,V⟩ S o.dst)
theorem lose_tmpOf (S:St)(x:Operand):S.loseO (tmpOf x)=S.lose x:=by cases x<;>rfl
section
variable {P:Program}{κ:Ghost}{w:World}{a:Act}{o:Oper}{K:St->Prop}{Q:Exit->Act->World->Prop}{S:St}
theorem sound_copy (h:Holds P κ S.T (tv a) S.M w)(hd:∀ d,o.dst=some d->d<a.tmps.size){x:Operand}(hop:o.op = .move x\/o.op = .assign x)(hK:K (S.put o.dst (ev S.T x).shut)):o.wp P a w (Next P κ w a K) Q:=by
 have hrun:(execOp a.eval o).run P w = .ok (.value (a.eval x)) w:=by
  unfold execOp;rcases hop with hop|hop<;>rw [hop]<;>rfl
 exact wp_value hrun (next_put (S':=S) hd hK (fun d _=>h.put d (rep_ev h x).shut fun _ _=>Spare.not_shut) (fun _=>h) (Keep.refl κ w))
theorem sound_s2b (h:Holds P κ S.T (tv a) S.M w)(hd:∀ d,o.dst=some d->d<a.tmps.size){s d:TypeId}{x:Operand}(hop:o.op = .convert s d x)(hs:eS2B P s d (ev S.T x) S.M fun e=>K (e.apply S o.dst)):o.wp P a w (Next P κ w a K) Q:=by
 unfold eS2B at hs;split at hs
 ·rename_i str hx;obtain⟨hb,hK⟩:=hs;have hxe:=rep_ev h x;rw [hx] at hxe;have hx':=rep_raw hxe;unfold s2b at hb;split at hb
  ·rename_i e hs hdd;split at hb
   ·rename_i he;obtain⟨h1,hk1⟩:=h.drawn (w.drawn+1)
    let cap:=(Question.appendCap str.size 0 e).cut (w.tape w.drawn (.appendCap str.size 0 e))
    have hcap:str.size<=cap:=Nat.le_add_right _ _
    let cs:Array Value:=(str.data.map fun (b:UInt8)=>Value.int .u8 b.toNat)++Array.replicate (cap - str.size) (Value.int .u8 0)
    have hcs:cs.size=cap:=by
     show ((str.data.map fun (b:UInt8)=>Value.int .u8 b.toNat)++Array.replicate (cap - str.size) (Value.int .u8 0)).size=cap
     rw [Array.size_append,Array.size_map,Array.size_replicate];show str.size+_=_
     omega
    let w1:World:={ w with drawn:=w.drawn+1 }
    have hrun:(execOp a.eval o).run P w = .ok (.value (.slice (some ⟨w.heap.size,0,none⟩) str.size cap)) (push w1 (.cells cs e (cs.size,cs.size+1))):=by
     unfold execOp;rw [hop];refine run_val (s:=convert s d (a.eval x)) ?_;rw [hx'];show ((underlying s) >>= _).run P w=_
     rw [run_bind_pr (pr_underlying hs)];show ((underlying d) >>= _).run P w=_
     rw [run_bind_pr (pr_underlying hdd)];show ((underlying e) >>= _).run P w=_
     rw [run_bind_pr (pr_underlying he)];show (Conv.stringToBytes e str).run P w=_
     unfold Conv.stringToBytes;show ((choose (.appendCap str.size 0 e)) >>= _).run P w=_
     rw [Sem.run_bind];have hc:(choose (.appendCap str.size 0 e)).run P w = .ok cap w1:=rfl;rw [hc,Result.andThen_ok];show ((newRow e cs) >>= _).run P w1=_
     rw [Sem.run_bind];have hn:(newRow e cs).run P w1 = .ok ⟨w.heap.size,0,none⟩ (push w1 (.cells cs e)):=rfl;rw [hn,Result.andThen_ok,Sem.run_bind];have hm:(markStringish ⟨w.heap.size,0,none⟩).run P (push w1 (.cells cs e)) = .ok () (push w1 (.cells cs e (cs.size,cs.size+1))):=by
      unfold markStringish;rw [Sem.run_bind];have hsh:(shape w.heap.size).run P (push w1 (.cells cs e)) = .ok (some (e,cs.size)) (push w1 (.cells cs e)):=by
       show Result.ok ((push w1 (.cells cs e)).shape? w.heap.size) _=_
       unfold World.shape?;rw [show (push w1 (.cells cs e)).heap[w.heap.size]? = some (.cells cs e) from push_new w1 _]
      rw [hsh,Result.andThen_ok];show Result.ok () ((push w1 (.cells cs e)).freeze ⟨w.heap.size,cs.size,none⟩ 1)=_
      congr 1;unfold World.freeze push;rw [if_neg (by decide)];dsimp only;have hw1:w1.heap=w.heap:=rfl;have hmod:∀ f:Obj->Obj,(w1.heap.push (Obj.cells cs e)).modify w.heap.size f=w1.heap.push (f (Obj.cells cs e)):=fun f=>by
       rw [hw1];apply Array.ext
       ·simp
       ·intro i hi1 hi2;simp only [Array.getElem_modify,Array.getElem_push];split
        ·rename_i hsz;subst hsz;simp
        ·rename_i hsz;have:i<w.heap.size:=by simp at hi2;omega
         simp [this]
      rw [hmod];simp
     rw [hm,Result.andThen_ok];rfl
    obtain⟨h2,hk2⟩:=h1.newObj (l:=u8l str++List.replicate (cap - str.size) (.raw (.int .u8 0))) (cs:=cs) (e:=e) (fr:=(cs.size,cs.size+1)) (by
     rw [hcs,List.length_append,List.length_replicate];show cap=(List.map _ _).length+_
     rw [List.length_map,Array.length_toList];show cap=str.size+_
     omega) (fun j X y e1 e2=>by
     have hX:X = .raw y:=by
      have hl:(cs.toList.map AVal.raw)=u8l str++List.replicate (cap - str.size) (.raw (.int .u8 0)):=by
       show List.map AVal.raw ((str.data.map fun (b:UInt8)=>Value.int .u8 b.toNat)++Array.replicate (cap - str.size) (Value.int .u8 0)).toList=_
       simp [u8l]
      rw [← hl,List.getElem?_map,Array.getElem?_toList,e2] at e1;simpa using e1.symm
     subst hX;refine⟨.raw _,?_,fun _ _=>Spare.not_raw⟩;have hmem:=Array.mem_of_getElem? e2;have:y∈(str.data.map fun (b:UInt8)=>Value.int .u8 b.toNat)++Array.replicate (cap - str.size) (Value.int .u8 0):=hmem;rw [Array.mem_append] at this;rcases this with hm|hm
     ·obtain⟨b,-,rfl⟩:=Array.mem_map.1 hm;rfl
     ·rw [(Array.mem_replicate.1 hm).2];rfl) (fun _ hlt=>by dsimp only;omega)
    have hk:=hk1.trans hk2;have hK':K ((S.upd w.heap.size (.cells (u8l str++List.replicate (cap - str.size) (.raw (Value.int .u8 0))))).put o.dst (.raw (.slice (some ⟨w.heap.size,0,none⟩) str.size cap))):=hK _ _ h.fresh hcap;exact wp_value hrun (next_put (S':=S.upd w.heap.size (.cells (u8l str++List.replicate (cap - str.size) (.raw (.int .u8 0))))) hd hK' (fun d _=>h2.put d (.raw _) fun _ _=>Spare.not_raw) (fun _=>h2) hk)
   ·cases hb
  ·cases hb
 ·exact hs.elim
theorem sound_ext (h:Holds P κ S.T (tv a) S.M w)(hd:∀ d,o.dst=some d->d<a.tmps.size){x:Operand}{i:Nat}(hop:o.op = .extract x i)(hne:∀ t,x = .tmp t->o.dst≠some t){vs:List AVal}(hx:ev S.T x = .tup vs){l:List AVal}{own:Bool}(hi:vs[i]? = some (.sl l own))
 (hK:K ((S.lose x).put o.dst (.sl l own))):o.wp P a w (Next P κ w a K) Q:=by
 have hxe:=rep_ev h x;rw [hx] at hxe;generalize hv:a.eval x=v at hxe;cases hxe with
 | tup _ us hl hr =>
  have hlt:i<us.size:=by
   rw [← hl];rcases Nat.lt_or_ge i vs.length with h'|h'
   ·exact h'
   ·rw [List.getElem?_eq_none h'] at hi;cases hi
  have hu:us[i]? = some us[i]:=Array.getElem?_eq_getElem hlt;have hrep:=hr i _ _ hi hu;have hrun:(execOp a.eval o).run P w = .ok (.value us[i]) w:=by
   unfold execOp;rw [hop];refine run_val (s:=Instr.extract (a.eval x) i) ?_;rw [hv];show (match us[i]? with|some v=>(pure v:Sem Value)|none=>stuck _).run P w=_
   rw [hu];rfl
  cases x with
  | tmp t =>
   have htv:tv a t = .tuple us:=hv;have hTt:S.T t = .tup vs:=hx;cases ho:o.dst with
   | none =>
    refine wp_value hrun ?_;have:=next_put (P:=P) (κ:=κ) (κ':=κ) (w:=w) (w':=w) (v:=us[i]) (S':=S.lose (.tmp t)) (X:=.sl l own) hd hK (fun d e=>by rw [ho] at e;cases e) (fun _=>h.lose t) (Keep.refl κ w);rw [ho] at this ⊢;exact this
   | some d =>
    refine wp_value hrun ?_;have hmv:=h.move t d fun e=>hne t rfl (by rw [ho,e])
    have hk:Keep κ w (mvTag κ t d) w:=Keep.tags (fun _ _=>mvTag_imm.2) (fun _ _=>mvTag_frame.2);have hs:=hmv.sub d (X:=.sl l own) (x:=us[i]) (hk.rep hrep) (fun b o hsp=>by
     have e1:(setT (setT S.T t (S.T t).shut) d (S.T t)) d = .tup vs:=by unfold setT;rw [if_pos rfl];exact hTt
     have e2:(if d=d then tv a t else tv a d) = .tuple us:=by rw [if_pos rfl];exact htv
     rw [e1,e2];exact .inr ⟨vs,us,i,_,_,rfl,rfl,hi,hu,hsp.sl⟩)
    have e3:setT (setT (setT S.T t (S.T t).shut) d (S.T t)) d (.sl l own)=setT (setT S.T t (S.T t).shut) d (.sl l own):=by
     funext x;unfold setT;split<;>rfl
    have e4:(fun x=>if x=d then us[i] else if x=d then tv a t else tv a x)=fun x=>if x=d then us[i] else tv a x:=by
     funext x;split<;>rfl
    rw [e3,e4] at hs;have:=next_put (P:=P) (κ:=κ) (κ':=mvTag κ t d) (w:=w) (w':=w) (v:=us[i]) (S':=S.lose (.tmp t)) (X:=.sl l own) hd hK
     (fun d' e=>by rw [ho] at e;cases e;exact hs)
     (fun e=>by rw [ho] at e;cases e) hk
    rw [ho] at this ⊢;exact this
  | const c =>
   exfalso;have:ofConst c = .tup vs:=hx;unfold ofConst at this;split at this<;>cases this
  | global g=>cases hx
  | func f=>cases hx
theorem sound_nil (h:Holds P κ S.T (tv a) S.M w)(hd:∀ d,o.dst=some d->d<a.tmps.size){op:BinOp}{t t':TypeId}{x y:Operand}(hop:o.op = .binOp op t x y t')(hs:eNil P op t (ev S.T x) y S.M fun e=>K (e.apply S o.dst)):o.wp P a w (Next P κ w a K) Q:=by
 unfold eNil at hs;split at hs
 ·rename_i l own e hx hu;obtain⟨hy,hop',hK⟩:=hs;obtain⟨n,m,hye⟩:=nil_eval (a:=a) hy;have hxe:=rep_ev h x;rw [hx] at hxe;have key:∀ b,(l≠[]->b=decide (op = .neq))->(execOp a.eval o).run P w = .ok (.value (.bool b)) w->o.wp P a w (Next P κ w a K) Q:=fun b hb hrun =>
   wp_value hrun (next_put (S':=S) hd (hK b hb) (fun d _=>h.put d (.raw _) fun _ _=>Spare.not_raw) (fun _=>h) (Keep.refl κ w))
  have heq:∀ p len cap,pr P (Op.equal t (.slice p len cap) (.slice none n m))=some p.isNone:=fun p len cap=>by
   show pr P (underlying t >>= _)=_
   rw [pr_bind',pr_underlying hu];cases p<;>rfl
  have hval:∃ p len cap,a.eval x = .slice p len cap/\(l≠[]->p.isNone=false):=by
   generalize a.eval x=v at hxe;cases hxe with
   | nil=>exact⟨none,0,0,rfl,fun h=>absurd rfl h⟩
   | emp _ p cap _=>exact⟨p,0,cap,rfl,fun h=>absurd rfl h⟩
   | sl _ _ b off cap sz cv hcap hsz hk hw hr ho=>exact⟨_,_,_,rfl,fun _=>rfl⟩
  obtain⟨p,len,cap,hxv,hne⟩:=hval;rcases hop' with rfl|rfl
  ·refine key p.isNone (fun hl=>by rw [hne hl];rfl) ?_;unfold execOp;rw [hop];refine run_val (pr_run ?_ w);rw [hxv,hye];have hg:pr P (eqGuard .eql t x y (.slice p len cap) (.slice none n m))=some ():=rfl;show pr P (eqGuard .eql t x y (.slice p len cap) (.slice none n m) >>= fun _=>binOp .eql t (.slice p len cap) (.slice none n m))=_
   rw [pr_bind',hg,Option.bind_some];show pr P (Op.equal t _ _ >>= _)=_
   rw [pr_bind',heq];rfl
  ·refine key (!p.isNone) (fun hl=>by rw [hne hl];rfl) ?_;unfold execOp;rw [hop];refine run_val (pr_run ?_ w);rw [hxv,hye];have hg:pr P (eqGuard .neq t x y (.slice p len cap) (.slice none n m))=some ():=rfl;show pr P (eqGuard .neq t x y (.slice p len cap) (.slice none n m) >>= fun _=>binOp .neq t (.slice p len cap) (.slice none n m))=_
   rw [pr_bind',hg,Option.bind_some];show pr P (Op.equal t _ _ >>= _)=_
   rw [pr_bind',heq];rfl
 ·rename_i p len cap e hx hu;obtain⟨hy,hop',hK⟩:=hs;obtain⟨n,m,hye⟩:=nil_eval (a:=a) hy;have hxe:=rep_ev h x;rw [hx] at hxe;have hxv:=rep_raw hxe;have heq:pr P (Op.equal t (.slice p len cap) (.slice none n m))=some p.isNone:=by
   show pr P (underlying t >>= _)=_
   rw [pr_bind',pr_underlying hu];cases p<;>rfl
  have key:∀ b,(op = .eql->b=p.isNone)->(op = .neq->b = !p.isNone)->(execOp a.eval o).run P w = .ok (.value (.bool b)) w->o.wp P a w (Next P κ w a K) Q:=fun b h1 h2 hrun =>
   wp_value hrun (next_put (S':=S) hd (hK b h1 h2) (fun d _=>h.put d (.raw _) fun _ _=>Spare.not_raw) (fun _=>h) (Keep.refl κ w))
  rcases hop' with rfl|rfl
  ·refine key p.isNone (fun _=>rfl) (fun e=>by cases e) ?_;unfold execOp;rw [hop];refine run_val (pr_run ?_ w);rw [hxv,hye];have hg:pr P (eqGuard .eql t x y (.slice p len cap) (.slice none n m))=some ():=rfl;show pr P (eqGuard .eql t x y (.slice p len cap) (.slice none n m) >>= fun _=>binOp .eql t (.slice p len cap) (.slice none n m))=_
   rw [pr_bind',hg,Option.bind_some];show pr P (Op.equal t _ _ >>= _)=_
   rw [pr_bind',heq];rfl
  ·refine key (!p.isNone) (fun e=>by cases e) (fun _=>rfl) ?_;unfold execOp;rw [hop];refine run_val (pr_run ?_ w);rw [hxv,hye];have hg:pr P (eqGuard .neq t x y (.slice p len cap) (.slice none n m))=some ():=rfl;show pr P (eqGuard .neq t x y (.slice p len cap) (.slice none n m) >>= fun _=>binOp .neq t (.slice p len cap) (.slice none n m))=_
   rw [pr_bind',hg,Option.bind_some];show pr P (Op.equal t _ _ >>= _)=_
   rw [pr_bind',heq];rfl
 ·exact hs.elim
theorem Holds.newIt {T:Nat->AVal}{V:Nat->Value}{M:Mem}(h:Holds P κ T V M w){ob:Obj}(hob:∀ c e fr,ob ≠ .cells c e fr):Holds P κ T V (M.upd w.heap.size (.it ob)) (Am.push w ob)/\Keep κ w κ (Am.push w ob) :=
 ⟨(h.push ob).know (b:=w.heap.size) (o:=.it ob) ⟨push_new w _,trivial⟩ fun x=>h.untagged x,Keep.push _ fun b o hb=>(h.tag b o hb).1⟩
theorem sound_range (h:Holds P κ S.T (tv a) S.M w)(hd:∀ d,o.dst=some d->d<a.tmps.size){t:TypeId}{x:Operand}(hop:o.op = .range t x)(hs:eRange P t (ev S.T x) S.M fun e=>K (e.apply S o.dst)):o.wp P a w (Next P κ w a K) Q:=by
 unfold eRange at hs;split at hs
 ·rename_i s hx hu;have hxe:=rep_ev h x;rw [hx] at hxe;have hrun:(execOp a.eval o).run P w = .ok (.value (.pointer (some ⟨w.heap.size,0,none⟩))) (push w (.stringIter s 0)):=by
   unfold execOp;rw [hop];refine run_val (s:=Instr.range t (a.eval x)) ?_;rw [rep_raw hxe];show ((underlying t) >>= _).run P w=_
   rw [run_bind_pr (pr_underlying hu)];rfl
  obtain⟨h1,hk⟩:=h.newIt (ob:=.stringIter s 0) (fun _ _ _ e=>by cases e);have hK':K ((S.upd w.heap.size (.it (.stringIter s 0))).put o.dst (.raw (.pointer (some ⟨w.heap.size,0,none⟩)))):=hs _ h.fresh;exact wp_value hrun (next_put (S':=S.upd w.heap.size (.it (.stringIter s 0))) hd hK' (fun d _=>h1.put d (.raw _) fun _ _=>Spare.not_raw) (fun _=>h1) hk)
 ·exact hs.elim
theorem Holds.setIt {T:Nat->AVal}{V:Nat->Value}{M:Mem}(h:Holds P κ T V M w){r:Nat}{o₁ ob:Obj}(hb:M r=some (.it o₁))(b2:∀ c e fr,o₁ ≠ .cells c e fr)(hob:∀ c e fr,ob ≠ .cells c e fr):Holds P κ T V (M.upd r (.it ob)) (putObj w r ob)/\Keep κ w κ (putObj w r ob):=by
 obtain⟨b1,-⟩:=h.obj r _ hb;have hg1:¬ GlobO (.it o₁):=fun h=>by
  cases o₁<;>first|exact b2 _ _ _ rfl|exact h
 have hlt:=h.lt hb;have n1:∀ ob:Obj,(∀ c e fr,ob ≠ .cells c e fr)->∀ w':World,w'.heap[r]? = some ob->(∀ o,w'.cell? ⟨r,o,none⟩=none)/\(∀ o,w'.frozen? ⟨r,o,none⟩=false)/\w'.shape? r=none:=fun ob hob w' e=>by
  unfold World.cell? World.frozen? World.shape?;simp only [e];cases ob<;>first|exact absurd rfl (hob _ _ _)|exact⟨fun _=>rfl,fun _=>rfl,rfl⟩
 obtain⟨c1,c2,c3⟩:=n1 o₁ b2 w b1;obtain⟨d1,d2,d3⟩:=n1 ob hob (putObj w r ob) (putObj_eq hlt);have hcell:∀ b o,(putObj w r ob).cell? ⟨b,o,none⟩=w.cell? ⟨b,o,none⟩:=fun b o=>by
  by_cases e:b=r
  ·subst e;rw [c1,d1]
  ·exact cell_of_block (putObj_ne e)
 have hfro:∀ b o,(putObj w r ob).frozen? ⟨b,o,none⟩=w.frozen? ⟨b,o,none⟩:=fun b o=>by
  by_cases e:b=r
  ·subst e;rw [c2,d2]
  ·exact frozen_of_block (putObj_ne e)
 have hsh:∀ b,(putObj w r ob).shape? b=w.shape? b:=fun b=>by
  by_cases e:b=r
  ·subst e;rw [c3,d3]
  ·exact shape_of_block (putObj_ne e)
 have hsize:(putObj w r ob).heap.size=w.heap.size:=by simp [putObj]
 have hk:Keep κ w κ (putObj w r ob):=⟨rfl,rfl,rfl,by rw [hsize];exact Nat.le_refl _,fun b _=>hsh b,fun b o e=>⟨e,hcell b o⟩,fun b o e=>⟨e,hcell b o,hfro b o⟩,fun b _ hp=>putObj_ne fun e=>by
  subst e;have:=h.free_of hb 0 hg1;rcases hp 0 with e|e<;>rw [this] at e<;>cases e⟩
 refine⟨⟨fun t=>hk.rep (h.tmp t),fun d p hd=>?_,fun d y hd=>?_,fun t d y hsp=>h.sp t d y (hsp.keep (h.tmp t) hk.shape),fun d y t hd=>?_,fun d y c' j hd=>?_⟩,hk⟩
 ·unfold Mem.upd at hd;split at hd
  ·rename_i e;subst e;cases hd;exact⟨putObj_eq hlt,trivial⟩
  ·rename_i e';have hblk:(putObj w r ob).heap[d]? = w.heap[d]?:=putObj_ne e';have:=h.obj d p hd;cases p with
   | it o=>exact⟨hblk.trans this.1,this.2⟩
   | cells l' =>
    obtain⟨c',e,fr,b1,b2,b3,b4⟩:=this;exact⟨c',e,fr,hblk.trans b1,b2,fun y hy=>(hfro d y).trans (b3 y hy),fun j Y y e1 e2=>⟨hk.rep (b4 j Y y e1 e2).1,(b4 j Y y e1 e2).2.1,fun b' o' hsp=>(b4 j Y y e1 e2).2.2 b' o' (hsp.keep (b4 j Y y e1 e2).1 hk.shape)⟩⟩
   | map es =>
    obtain⟨ents,clock,b1,b2,b3,b4,b5⟩:=this;exact⟨ents,clock,hblk.trans b1,b2,fun j e ent e1 e2=>⟨(b3 j e ent e1 e2).1,hk.rep (b3 j e ent e1 e2).2.1,fun b' o' hsp=>(b3 j e ent e1 e2).2.2 b' o' (hsp.keep (b3 j e ent e1 e2).2.1 hk.shape)⟩,b4,b5⟩
 ·refine⟨by rw [hsize];exact (h.tag d y hd).1,?_⟩;unfold Mem.upd;split
  ·rename_i e';subst e';exact absurd (h.free_of hb y hg1) hd
  ·exact (h.tag d y hd).2
 ·have:=h.wr d y t hd;exact⟨by rw [hcell];exact this.1,by rw [hfro];exact this.2⟩
 ·have:=h.mwr d y c' j hd;exact⟨by rw [hcell];exact this.1,by rw [hfro];exact this.2⟩
theorem sound_exact (h:Holds P κ S.T (tv a) S.M w)(hd:∀ d,o.dst=some d->d<a.tmps.size)(hs:eExact P o S.T S.M fun M1 V=>K (Eff.apply ⟨none,M1,V⟩ S o.dst)):o.wp P a w (Next P κ w a K) Q:=by
 have fixed:∀ {V v},Fixed P V v->∀ (κ:Ghost) (w:World),Rep P κ w V v/\∀ b o,¬ Spare P w V v b o:=fun hf κ w=>⟨hf.1 κ w,hf.2 w⟩
 rcases hs a.eval w (fun x _ v hv=>rawOf_rep hv (rep_ev h x)) (fun b ob hb=>(h.obj b _ hb).1) ⟨h.fresh,fun _=>rfl⟩ with ⟨v,V,hrun,hf,hK⟩|⟨v,V,r,ob,ob',n,hr,hob,hrun,hf,hK⟩|⟨r,ob,ob',hr,hob,hrun,hK⟩|⟨v,ob',hob,hrun,hK⟩
 ·exact wp_value hrun (next_put (S':=S) hd hK (fun d _=>h.put d (fixed hf κ _).1 (fixed hf κ _).2) (fun _=>h) (Keep.refl κ w))
 ·obtain⟨h1,hk1⟩:=h.setIt (ob:=ob') hr (fun c e fr=>(hob c e fr).1) (fun c e fr=>(hob c e fr).2);obtain⟨h2,hk2⟩:=h1.drawn n;exact wp_value hrun (next_put (S':=S.upd r (.it ob')) hd hK (fun d _=>h2.put d (fixed hf κ _).1 (fixed hf κ _).2) (fun _=>h2) (hk1.trans hk2))
 ·obtain⟨h1,hk1⟩:=h.setIt (ob:=ob') hr (fun c e fr=>(hob c e fr).1) (fun c e fr=>(hob c e fr).2);exact wp_skip hrun (next_put (S':=S.upd r (.it ob')) (X:=.raw undef) hd hK (fun d _=>h1.put d (.raw _) fun _ _=>Spare.not_raw) (fun _=>h1) hk1)
 ·obtain⟨h1,hk1⟩:=h.newIt (ob:=ob') hob;exact wp_value hrun (next_put (S':=S.upd w.heap.size (.it ob')) (X:=.raw v) hd hK (fun d _=>h1.put d (.raw _) fun _ _=>Spare.not_raw) (fun _=>h1) hk1)
theorem sound_next (h:Holds P κ S.T (tv a) S.M w)(hd:∀ d,o.dst=some d->d<a.tmps.size){i:Operand}{str:Bool}(hop:o.op = .next i str)(hs:eNext (ev S.T i) str S.M fun e=>K (e.apply S o.dst)):o.wp P a w (Next P κ w a K) Q:=by
 unfold eNext at hs;split at hs
 ·rename_i b q hx;have hxe:=rep_ev h i;rw [hx] at hxe;split at hs
  ·rename_i s pos hb;obtain⟨b1,b2⟩:=h.obj b _ hb;have hget:(getObj b).run P w = .ok (.stringIter s pos) w:=by
    show (Sem.getObj b .pure).run P w=_
    simp only [Sem.run,b1]
   split at hs
   ·rename_i hlt;have hset:(setObj b (.stringIter s (pos+(Utf8.decode s pos).2))).run P w = .ok () (putObj w b (.stringIter s (pos+(Utf8.decode s pos).2))):=by
     show (Sem.setObj b _ (.pure ())).run P w=_
     simp only [Sem.run,b1];rfl
    have hrun:(execOp a.eval o).run P w = .ok (.value (.tuple #[.bool true,goInt pos,.int .i32 (Utf8.decode s pos).1])) (putObj w b (.stringIter s (pos+(Utf8.decode s pos).2))):=by
     unfold execOp;rw [hop];refine run_val (s:=Instr.next (a.eval i) true o.type) ?_;rw [rep_raw hxe];show ((getObj b) >>= _).run P w=_
     rw [Sem.run_bind,hget,Result.andThen_ok];dsimp only;rw [if_pos hlt];show ((setObj b _) >>= _).run P w=_
     rw [Sem.run_bind,hset];rfl
    obtain⟨h1,hk⟩:=h.setIt (ob:=.stringIter s (pos+(Utf8.decode s pos).2)) hb (fun _ _ _ e=>by cases e) (fun _ _ _ e=>by cases e);have hK':K ((S.upd b (.it (.stringIter s (pos+(Utf8.decode s pos).2)))).put o.dst (.raw (.tuple #[.bool true,goInt pos,.int .i32 (Utf8.decode s pos).1]))):=hs;exact wp_value hrun (next_put (S':=S.upd b (.it (.stringIter s (pos+(Utf8.decode s pos).2)))) hd hK' (fun d _=>h1.put d (.raw _) fun _ _=>Spare.not_raw) (fun _=>h1) hk)
   ·rename_i hge;have hrun:(execOp a.eval o).run P w = .ok (.value (.tuple #[.bool false])) w:=by
     unfold execOp;rw [hop];refine run_val (s:=Instr.next (a.eval i) true o.type) ?_;rw [rep_raw hxe];show ((getObj b) >>= _).run P w=_
     rw [Sem.run_bind,hget,Result.andThen_ok];dsimp only;rw [if_neg hge];rfl
    have hK':K (S.put o.dst (.raw (.tuple #[.bool false]))):=hs;exact wp_value hrun (next_put (S':=S) hd hK' (fun d _=>h.put d (.raw _) fun _ _=>Spare.not_raw) (fun _=>h) (Keep.refl κ w))
  ·exact hs.elim
 ·exact hs.elim
theorem eStore_a {t:TypeId}{A V:AVal}{x:Operand}(h:eStore P t A V x S.M fun e=>K (e.apply S none)):aStore P t A V x S K:=by
 unfold eStore at h;unfold aStore;split at h
 ·split at h
  ·rename_i l hl;simp only [hl];obtain⟨h1,h2,h3,h4⟩:=h;refine⟨h1,h2,h3,?_⟩;split at h4
   ·simp only [Eff.apply,lose_tmpOf] at h4;cases x<;>exact h4
   ·rename_i hne;split
    ·exact absurd rfl (hne _)
    ·exact h4
  ·exact h.elim
 ·exact h.elim
theorem eStore_mono {t:TypeId}{A V:AVal}{x:Operand}{M:Mem}{N N':Eff->Prop}(hN:∀ e,N e->N' e)(h:eStore P t A V x M N):eStore P t A V x M N':=by
 unfold eStore at h ⊢;split at h
 ·split at h
  ·obtain⟨h1,h2,h3,h4⟩:=h;refine⟨h1,h2,h3,?_⟩;split at h4
   ·exact hN _ h4
   ·exact hN _ h4
  ·exact h.elim
 ·exact h.elim
theorem eTake_a {t:TypeId}{A:AVal}{dst:Option Tmp}(hd:dst.isSome=true)(h:eTake P t A S.M fun e=>K (e.apply S dst)):aTake P t A dst S K:=by
 obtain⟨d,rfl⟩:=Option.isSome_iff_exists.1 hd;unfold eTake at h;unfold aTake;split at h
 ·split at h
  ·rename_i l hl;simp only [hl];split at h
   ·rename_i xs hx;simp only [hx];exact h
   ·exact h.elim
  ·exact h.elim
 ·exact h.elim
theorem eBuildSlice_a {t:TypeId}{len:Nat}{parts:List (Nat×Operand)}{dst:Option Tmp}(h:eBuildSlice P S.T t len parts S.M fun e=>K (e.apply S dst)):aBuildSlice P t len parts dst S K:=h
theorem eMakeSlice_a {t:TypeId}{L C:AVal}{dst:Option Tmp}(h:eMakeSlice P t L C S.M fun e=>K (e.apply S dst)):aMakeSlice P t L C dst S K:=h
theorem eMapUpdate_a {t:TypeId}{X Y V:AVal}(h:eMapUpdate P t X Y V S.M fun e=>K (e.apply S none)):aMapUpdate P t X Y V S K:=h
theorem eDelete_a {t:TypeId}{X Y:AVal}{dst:Option Tmp}(h:eDelete P t X Y S.M fun e=>K (e.apply S dst)):aDelete P t X Y dst S K:=h
theorem eCall_a {mv:Option Nat}{F:AVal}{args:List Operand}{dst:Option Tmp}(h:eCall P mv S.T F args dst S.M fun e=>K (e.apply S dst)):aCall P mv F args dst S K:=by
 unfold eCall at h;unfold aCall;split at h
 ·obtain⟨h1,h2,h3,Post,h4,h5⟩:=h;refine⟨h1,h2,h3,Post,h4,fun r M' hq=>?_⟩;have:=h5 r M' hq;cases mv with
  | none=>exact this
  | some i =>
   obtain⟨s,hs⟩:=h3;simp only [hs,Option.bind_some,tmpOf,Eff.apply,St.loseO] at this;simp only [St.loseArg,hs];exact this
 ·exact h.elim
theorem Holds.nilcells {T:Nat->AVal}{V:Nat->Value}{M:Mem}{b:Nat}{l l':List AVal}(h:Holds P κ T V M w)(hM:M b=some (.cells l))(hl:NilL l l'):Holds P κ T V (M.upd b (.cells l')) w:=by
 obtain⟨c,e,fr,h1,h2,h3,h4⟩:=h.obj b _ hM;refine h.know ⟨c,e,fr,h1,by rw [hl.1];exact h2,h3,fun q X x g1 g2=>?_⟩ fun x=>?_
 ·have hq:q<l.length:=by rw [← hl.1];exact (List.getElem?_eq_some_iff.1 g1).1
  have h5:=h4 q _ x (List.getElem?_eq_getElem hq) g2;rcases hl.2 q _ X (List.getElem?_eq_getElem hq) g1 with h6|⟨h6,h7⟩
  ·rw [h6];exact h5
  ·rw [h6] at h5;have h8:x = .slice none 0 0:=rep_raw h5.1;subst h8;subst h7;refine⟨.nil true,h5.2.1,fun b' o' hsp=>?_⟩;rcases hsp with ⟨l',o1,c1,k1,k2,-⟩|⟨Vs,vs',i,X,x,k1,-⟩
   ·cases k2
   ·cases k1
 ·exact h.free_of hM x
theorem dstep_sound {tk:Option Nat}(h:Holds P κ S.T (tv a) S.M w)(hb:stepB a.tmps.size o=true)(hz:zeroB P o=true)(hs:dstep P tk o S K):o.wp P a w (Next P κ w a K) Q:=by
 have hd:=stepB_dst hb;have hb2:=hb;unfold stepB at hb2;simp only [Bool.and_eq_true] at hb2;replace hb2:=hb2.2;have dflt:∀ op,o.op=op->(match aop P S.T S.M o.type op with|some V=>K (Eff.apply ⟨none,S.M,V.shut⟩ S o.dst)|none=>False)->o.wp P a w (Next P κ w a K) Q:=fun op hop hs=>by
  rw [← hop] at hs;split at hs
  ·rename_i V hv;exact sound_plain h hd hv hs
  ·exact hs.elim
 have viaMove:∀ x,o.op = .move x\/o.op = .assign x->(∀ t,x = .tmp t->o.dst≠some t)->(if tk.isSome then K (Eff.apply ⟨tmpOf x,S.M,ev S.T x⟩ S o.dst) else K (Eff.apply ⟨none,S.M,(ev S.T x).shut⟩ S o.dst))->o.wp P a w (Next P κ w a K) Q:=fun x hop hne hs=>by
  split at hs
  ·refine sound_move h hd hop hne ?_;simp only [Eff.apply,lose_tmpOf] at hs;cases x<;>exact hs
  ·exact sound_copy h hd hop hs
 rcases hs with hs|hs
 rotate_left
 ·unfold xstep at hs;rcases hs with hs|hs
  ·exact sound_exact h hd hs
  split at hs
  ·rename_i args argTypes hop;split at hs
   ·rename_i x y hargs;obtain⟨hdst,hs⟩:=hs;obtain⟨d,hdst⟩:=Option.isSome_iff_exists.1 hdst;rw [hdst] at hs;rcases hs with hs|hs
    ·exact sound_appR h hd hop hargs hdst hs
    ·exact sound_appS h hd hop hargs hdst hs
   ·exact hs.elim
  ·rename_i args argTypes hop;split at hs
   ·rename_i x hargs;exact sound_clear h hd hop hargs hs
   ·exact hs.elim
  ·rename_i t x hop;exact sound_boxN h hd hop hs.1 hs.2
  ·rename_i t p x hop;obtain⟨hdst,hs⟩:=hs;refine Oper.wp_mono (fun a' w' hx=>?_) (sound_store (K:=fun S1=>S1.T=S.T/\NilM S1.M fun M1 V=>K (Eff.apply ⟨none,M1,V⟩ S o.dst)) h hdst hop (eStore_a (eStore_mono (fun e he=>?_) hs)))
   ·obtain⟨κ',S',⟨h0,b,l,l',g1,g2,g3⟩,h2,h3,h4,h5⟩:=hx;refine⟨κ',⟨S'.T,S'.M.upd b (.cells l')⟩,?_,h2.nilcells g1 g2,h3,h4,h5⟩;rw [h0];rw [hdst] at g3;exact g3
   ·obtain⟨lz,M1,V1⟩:=e;obtain⟨h1,h2⟩:=he;have h3:lz=none:=h1;subst h3;exact⟨rfl,h2⟩
  ·exact hs.elim
 unfold estep at hs;cases hop:o.op<;>rw [hop] at hs hb2<;>try exact dflt _ hop hs
 case move x =>
  refine viaMove x (.inl hop) (fun t e=>?_) hs;subst e;simpa using hb2
 case assign x =>
  refine viaMove x (.inr hop) (fun t e=>?_) hs;subst e;simpa using hb2
 case store t p x =>
  have hdst:o.dst=none:=by simpa using hb2
  rw [hdst] at hs;exact sound_store h hdst hop (eStore_a hs)
 case alloc t =>
  dsimp only at hs;split at hs
  ·rename_i zs hzs;refine sound_alloc h hd hop hzs ?_ hs;unfold zeroB at hz;rw [hop] at hz;simpa [hzs] using hz
  ·exact hs.elim
 case box t x=>exact sound_box h hd hop hs.1 hs.2
 case buildSlice t len parts=>exact sound_buildSlice h hd hop (eBuildSlice_a hs)
 case makeMap t r =>
  cases r with
  | none=>exact sound_makeMap h hd hop hs
  | some r=>exact dflt _ hop hs
 case makeSlice t l c =>
  refine sound_makeSlice h hd hop (fun e zs hu hzs=>?_) (eMakeSlice_a hs);unfold zeroB at hz;rw [hop] at hz;simpa [hu,hzs] using hz
 case mapUpdate t m k x =>
  have hdst:o.dst=none:=by simpa using hb2
  rw [hdst] at hs;exact sound_mapUpdate h hdst (.inl hop) (eMapUpdate_a hs)
 case insert t m k x =>
  have hdst:o.dst=none:=by simpa using hb2
  rw [hdst] at hs;exact sound_mapUpdate h hdst (.inr hop) (eMapUpdate_a hs)
 case convert s d x =>
  rcases hs with hs|hs
  ·exact dflt _ hop hs
  ·exact sound_s2b h hd hop hs
 case binOp op t x y t' =>
  rcases hs with hs|hs
  ·exact dflt _ hop hs
  ·exact sound_nil h hd hop hs
 case extract x i =>
  dsimp only at hs;split at hs
  ·split at hs
   ·rename_i vs hx;split at hs
    ·rename_i l own hi;refine sound_ext h hd hop (fun t e=>?_) hx hi ?_
     ·subst e;simpa using hb2
     ·simp only [Eff.apply,lose_tmpOf] at hs;cases x<;>exact hs
    ·exact hs.elim
   ·exact hs.elim
  ·exact dflt _ hop hs
 case range t x=>exact sound_range h hd hop hs
 case next i str=>exact sound_next h hd hop hs
 case load t x =>
  dsimp only at hs;cases tk with
  | none=>exact dflt _ hop hs
  | some k=>exact sound_take h hd hop (eTake_a (by simpa using hb2) hs)
 case call c =>
  obtain⟨callee,args,argTypes⟩:=c;cases callee with
  | value F=>exact sound_call h hd hop (eCall_a hs)
  | invoke r m=>exact dflt _ hop hs
  | builtin b =>
   cases b<;>try exact dflt _ hop hs
   case append =>
    dsimp only at hs;split at hs
    ·rename_i x y hargs;obtain⟨hdst,hs⟩:=hs;obtain⟨d,hdst⟩:=Option.isSome_iff_exists.1 hdst;split at hs
     ·rename_i l ha;refine sound_append h hd hop hargs hdst (fun t e=>?_) ha ?_
      ·subst e;simp only [hargs] at hb2;simpa using hb2
      ·simp only [Eff.apply,lose_tmpOf,hdst] at hs;cases x<;>exact hs
     ·exact hs.elim
    ·exact hs.elim
   case delete =>
    dsimp only at hs;split at hs
    ·rename_i x y t hargs ht;exact sound_delete h hd hop hargs ht (eDelete_a hs)
    ·exact hs.elim
end
end Go.Am
set_option linter.unusedVariables false
namespace Go.Am
set_option linter.unusedSimpArgs false
section
variable {P:Program}{o:Oper}{T T':Nat->AVal}{M:Mem}{tk:Option Nat}
theorem aParts_congr:∀ (parts:List (Nat×Operand)) (k:Nat),(∀ p∈parts,ev T p.2=ev T' p.2)->aParts T k parts=aParts T' k parts
 | [],_,_=>rfl
 | (i,x)::rest,k,h=>by
  simp only [aParts];rw [h (i,x) (by simp),aParts_congr rest (k+1) fun p hp=>h p (by simp [hp])]
theorem aArgs_congr {mv:Option Nat}:∀ (xs:List Operand) (k:Nat),(∀ x∈xs,ev T x=ev T' x)->aArgs T mv k xs=aArgs T' mv k xs
 | [],_,_=>rfl
 | x::xs,k,h=>by
  simp only [aArgs];rw [h x (by simp),aArgs_congr xs (k+1) fun y hy=>h y (by simp [hy])]
theorem map_ev_congr {xs:List Operand}(h:∀ x∈xs,ev T x=ev T' x):xs.map (ev T)=xs.map (ev T'):=List.map_congr_left h
theorem aBound_congr {d:Nat}{x:Option Operand}(h:∀ y∈x.toList,ev T y=ev T' y):aBound T d x=aBound T' d x:=by
 cases x with
 | none=>rfl
 | some y=>simp only [aBound];rw [h y (by simp)]
theorem mapM_ev_congr {x:Option Operand}(h:∀ y∈x.toList,ev T y=ev T' y):(x.mapM fun y=>rawOf (ev T y))=x.mapM fun y=>rawOf (ev T' y):=by
 cases x with
 | none=>rfl
 | some y=>simp only [Option.mapM_some];rw [h y (by simp)]
theorem aop_congr {ty:TypeId}{op:Op}(h:∀ x∈op.operands.toList,ev T x=ev T' x):aop P T M ty op=aop P T' M ty op:=by
 cases op<;>simp only [aop]<;>simp only [Op.operands] at h
 case pick c x y=>rw [h c (by simp),h x (by simp),h y (by simp)]
 case load t x=>rw [h x (by simp)]
 case nilCheck x=>rw [h x (by simp)]
 case binOp op t x y yt=>rw [h x (by simp),h y (by simp)]
 case unOp op t x=>rw [h x (by simp)]
 case convert s d x=>rw [h x (by simp)]
 case makeInterface t x=>rw [h x (by simp)]
 case makeFunc fn first cap =>
  rw [map_ev_congr (xs:=first.toList) fun x hx=>h x (by simp;exact .inl (by simpa using hx)),map_ev_congr (xs:=cap.toList) fun x hx=>h x (by simp;exact .inr (by simpa using hx))]
 case slice t x lo hi mx =>
  have hl:∀ y∈lo.toList,ev T y=ev T' y:=fun y hy=>h y (by simp at hy ⊢;simp [hy])
  have hh:∀ y∈hi.toList,ev T y=ev T' y:=fun y hy=>h y (by simp at hy ⊢;simp [hy])
  have hm:∀ y∈mx.toList,ev T y=ev T' y:=fun y hy=>h y (by simp at hy ⊢;simp [hy])
  unfold aSlice;rw [h x (by simp)];rw [mapM_ev_congr hl,mapM_ev_congr hh,mapM_ev_congr hm];simp only [aBound_congr hl,aBound_congr hh,aBound_congr hm]
 case fieldAddr t x f=>rw [h x (by simp)]
 case field t x f=>rw [h x (by simp)]
 case indexAddr t x ix=>rw [h x (by simp),h ix (by simp)]
 case index t x ix=>rw [h x (by simp),h ix (by simp)]
 case extract x i=>rw [h x (by simp)]
 case build t parts =>
  unfold aBuild;have:(parts.toList.map fun (i,x)=>(i,ev T x))=parts.toList.map fun (i,x)=>(i,ev T' x):=by
   apply List.map_congr_left;rintro ⟨i,x⟩ hp;dsimp only;rw [h x (by simp only [List.mem_map];exact⟨(i,x),hp,rfl⟩)]
  rw [this]
 case lookup t m k ok=>rw [h m (by simp),h k (by simp)]
 case call c =>
  obtain⟨callee,args,argTypes⟩:=c;cases callee<;>simp only [];rename_i b;rw [map_ev_congr (xs:=args.toList) fun x hx=>h x (by simp [Call.operands];simpa using hx)]
theorem estep_mono {N N':Eff->Prop}(hN:∀ e,(e.lz=none\/e.lz=lzOf tk o)->N e->N' e)(h:estep P tk o T M N):estep P tk o T M N':=by
 have dflt:∀ op,o.op=op->(match aop P T M o.type op with|some V=>N ⟨none,M,V.shut⟩|none=>False)->(match aop P T M o.type op with|some V=>N' ⟨none,M,V.shut⟩|none=>False):=fun op _ h=>by
  split at h
  ·exact hN _ (.inl rfl) h
  ·exact h.elim
 unfold estep at h ⊢;unfold lzOf at hN;cases hop:o.op<;>rw [hop] at h hN<;>try exact dflt _ hop h
 case move x =>
  dsimp only at h hN ⊢;split at h
  ·rename_i ht;rw [if_pos ht] at hN ⊢;exact hN _ (.inr rfl) h
  ·rename_i ht;rw [if_neg ht];exact hN _ (.inl rfl) h
 case assign x =>
  dsimp only at h hN ⊢;split at h
  ·rename_i ht;rw [if_pos ht] at hN ⊢;exact hN _ (.inr rfl) h
  ·rename_i ht;rw [if_neg ht];exact hN _ (.inl rfl) h
 case convert s d x =>
  refine h.imp (dflt _ hop) fun h=>?_
  unfold eS2B at h ⊢;split at h
  ·exact⟨h.1,fun b cap hb hc=>hN _ (.inl rfl) (h.2 b cap hb hc)⟩
  ·exact h.elim
 case binOp op t x y t' =>
  refine h.imp (dflt _ hop) fun h=>?_
  unfold eNil at h ⊢;split at h
  ·exact⟨h.1,h.2.1,fun b hb=>hN _ (.inl rfl) (h.2.2 b hb)⟩
  ·exact⟨h.1,h.2.1,fun b h1 h2=>hN _ (.inl rfl) (h.2.2 b h1 h2)⟩
  ·exact h.elim
 case extract x i =>
  dsimp only at h hN ⊢;split at h
  ·rename_i ht;rw [if_pos ht] at hN ⊢;split at h
   ·split at h
    ·exact hN _ (.inr rfl) h
    ·exact h.elim
   ·exact h.elim
  ·rename_i ht;rw [if_neg ht];exact dflt _ hop h
 case range t x =>
  dsimp only [eRange] at h ⊢;split at h
  ·exact fun b hb=>hN _ (.inl rfl) (h b hb)
  ·exact h.elim
 case next i str =>
  dsimp only [eNext] at h ⊢;split at h
  ·split at h
   ·split at h
    ·rename_i hlt;rw [if_pos hlt];exact hN _ (.inl rfl) h
    ·rename_i hlt;rw [if_neg hlt];exact hN _ (.inl rfl) h
   ·exact h.elim
  ·exact h.elim
 case store t p x =>
  dsimp only [eStore] at h hN ⊢;split at h
  ·split at h
   ·refine⟨h.1,h.2.1,h.2.2.1,?_⟩;have h4:=h.2.2.2;split at h4
    ·exact hN _ (.inr rfl) h4
    ·exact hN _ (.inl rfl) h4
   ·exact h.elim
  ·exact h.elim
 case alloc t =>
  dsimp only at h ⊢;split at h
  ·exact fun b hb=>hN _ (.inl rfl) (h b hb)
  ·exact h.elim
 case box t x=>exact⟨h.1,fun b hb=>hN _ (.inl rfl) (h.2 b hb)⟩
 case buildSlice t len parts =>
  dsimp only [eBuildSlice] at h ⊢;split at h
  ·split at h
   ·exact⟨h.1,h.2.1,h.2.2.1,h.2.2.2.1,hN _ (.inl rfl) h.2.2.2.2⟩
   ·exact h.elim
  ·exact h.elim
 case makeMap t r =>
  cases r with
  | none=>exact fun b hb=>hN _ (.inl rfl) (h b hb)
  | some r=>exact dflt (.makeMap t (some r)) hop h
 case makeSlice t l c =>
  dsimp only [eMakeSlice] at h ⊢;split at h
  ·split at h
   ·exact⟨h.1,h.2.1,h.2.2.1,h.2.2.2.1,h.2.2.2.2.1,h.2.2.2.2.2.1,fun b hb=>hN _ (.inl rfl) (h.2.2.2.2.2.2 b hb)⟩
   ·exact h.elim
  ·exact h.elim
 case mapUpdate t m k x =>
  dsimp only [eMapUpdate] at h ⊢;split at h
  ·split at h
   ·split at h
    ·exact⟨h.1,hN _ (.inl rfl) h.2⟩
    ·exact h.elim
   ·exact h.elim
  ·exact h.elim
 case insert t m k x =>
  dsimp only [eMapUpdate] at h ⊢;split at h
  ·split at h
   ·split at h
    ·exact⟨h.1,hN _ (.inl rfl) h.2⟩
    ·exact h.elim
   ·exact h.elim
  ·exact h.elim
 case load t x =>
  dsimp only at h ⊢;cases tk with
  | none=>exact dflt (.load t x) hop h
  | some k =>
   dsimp only [eTake] at h ⊢;split at h
   ·split at h
    ·split at h
     ·exact⟨h.1,h.2.1,hN _ (.inl rfl) h.2.2⟩
     ·exact h.elim
    ·exact h.elim
   ·exact h.elim
 case call c =>
  obtain⟨callee,args,argTypes⟩:=c;cases callee with
  | value F =>
   dsimp only [eCall] at h hN ⊢;split at h
   ·obtain⟨h1,h2,h3,Post,h4,h5⟩:=h;exact⟨h1,h2,h3,Post,h4,fun r M' hq=>hN _ (.inr rfl) (h5 r M' hq)⟩
   ·exact h.elim
  | invoke r m=>exact dflt (.call ⟨.invoke r m,args,argTypes⟩) hop h
  | builtin b =>
   cases b
   case cap=>exact dflt (.call ⟨.builtin .cap,args,argTypes⟩) hop h
   case clear=>exact dflt (.call ⟨.builtin .clear,args,argTypes⟩) hop h
   case close=>exact dflt (.call ⟨.builtin .close,args,argTypes⟩) hop h
   case complex=>exact dflt (.call ⟨.builtin .complex,args,argTypes⟩) hop h
   case copy=>exact dflt (.call ⟨.builtin .copy,args,argTypes⟩) hop h
   case imag=>exact dflt (.call ⟨.builtin .imag,args,argTypes⟩) hop h
   case len=>exact dflt (.call ⟨.builtin .len,args,argTypes⟩) hop h
   case make=>exact dflt (.call ⟨.builtin .make,args,argTypes⟩) hop h
   case max=>exact dflt (.call ⟨.builtin .max,args,argTypes⟩) hop h
   case min=>exact dflt (.call ⟨.builtin .min,args,argTypes⟩) hop h
   case new=>exact dflt (.call ⟨.builtin .new,args,argTypes⟩) hop h
   case panic=>exact dflt (.call ⟨.builtin .panic,args,argTypes⟩) hop h
   case print=>exact dflt (.call ⟨.builtin .print,args,argTypes⟩) hop h
   case println=>exact dflt (.call ⟨.builtin .println,args,argTypes⟩) hop h
   case real=>exact dflt (.call ⟨.builtin .real,args,argTypes⟩) hop h
   case recover=>exact dflt (.call ⟨.builtin .recover,args,argTypes⟩) hop h
   case unsafeAdd=>exact dflt (.call ⟨.builtin .unsafeAdd,args,argTypes⟩) hop h
   case unsafeSlice=>exact dflt (.call ⟨.builtin .unsafeSlice,args,argTypes⟩) hop h
   case unsafeSliceData=>exact dflt (.call ⟨.builtin .unsafeSliceData,args,argTypes⟩) hop h
   case unsafeString=>exact dflt (.call ⟨.builtin .unsafeString,args,argTypes⟩) hop h
   case unsafeStringData=>exact dflt (.call ⟨.builtin .unsafeStringData,args,argTypes⟩) hop h
   case unsafeSizeof=>exact dflt (.call ⟨.builtin .unsafeSizeof,args,argTypes⟩) hop h
   case unsafeAlignof=>exact dflt (.call ⟨.builtin .unsafeAlignof,args,argTypes⟩) hop h
   case unsafeOffsetof=>exact dflt (.call ⟨.builtin .unsafeOffsetof,args,argTypes⟩) hop h
   case append =>
    dsimp only at h hN ⊢;split at h
    ·rename_i x y hargs;refine⟨h.1,?_⟩;have h2:=h.2;split at h2
     ·refine hN _ (.inr ?_) h2;rw [hargs];rfl
     ·exact h2.elim
    ·exact h.elim
   case delete =>
    dsimp only [eDelete] at h ⊢;split at h
    ·split at h
     ·split at h
      ·split at h
       ·exact hN _ (.inl rfl) h
       ·exact h.elim
      ·exact h.elim
     ·exact h.elim
    ·exact h.elim
theorem estep_congr {N:Eff->Prop}(hE:∀ x∈o.op.operands.toList,ev T x=ev T' x)(h:estep P tk o T M N):estep P tk o T' M N:=by
 have dflt:∀ op,o.op=op->(match aop P T M o.type op with|some V=>N ⟨none,M,V.shut⟩|none=>False)->(match aop P T' M o.type op with|some V=>N ⟨none,M,V.shut⟩|none=>False):=fun op hop h=>by
  rw [← aop_congr (by rw [← hop];exact hE)];exact h
 unfold estep at h ⊢;cases hop:o.op<;>rw [hop] at h<;>try exact dflt _ hop h
 all_goals (have hE':=hE;rw [hop] at hE';simp only [Op.operands] at hE')
 case move x=>dsimp only at h ⊢;rw [← hE' x (by simp)];exact h
 case assign x=>dsimp only at h ⊢;rw [← hE' x (by simp)];exact h
 case convert s d x =>
  refine h.imp (dflt _ hop) fun h=>?_
  rw [← hE' x (by simp)];exact h
 case binOp op t x y t' =>
  refine h.imp (dflt _ hop) fun h=>?_
  rw [← hE' x (by simp)];exact h
 case extract x i =>
  dsimp only at h ⊢;split at h
  ·rename_i ht;rw [if_pos ht,← hE' x (by simp)];exact h
  ·rename_i ht;rw [if_neg ht];exact dflt _ hop h
 case range t x=>dsimp only at h ⊢;rw [← hE' x (by simp)];exact h
 case next i str=>dsimp only at h ⊢;rw [← hE' i (by simp)];exact h
 case store t p x=>dsimp only at h ⊢;rw [← hE' p (by simp),← hE' x (by simp)];exact h
 case alloc t=>exact h
 case box t x=>dsimp only at h ⊢;rw [← hE' x (by simp)];exact h
 case buildSlice t len parts =>
  dsimp only [eBuildSlice] at h ⊢;rw [← aParts_congr (T:=T) (T':=T') parts.toList 0 fun p hp=>hE' p.2 (by simp only [List.mem_map];exact⟨p,hp,rfl⟩)];exact h
 case makeMap t r =>
  cases r with
  | none=>exact h
  | some r=>exact dflt (.makeMap t (some r)) hop h
 case makeSlice t l c=>dsimp only at h ⊢;rw [← hE' l (by simp),← hE' c (by simp)];exact h
 case mapUpdate t m k x=>dsimp only at h ⊢;rw [← hE' m (by simp),← hE' k (by simp),← hE' x (by simp)];exact h
 case insert t m k x=>dsimp only at h ⊢;rw [← hE' m (by simp),← hE' k (by simp),← hE' x (by simp)];exact h
 case load t x =>
  dsimp only at h ⊢;cases tk with
  | none=>exact dflt (.load t x) hop h
  | some k=>dsimp only at h ⊢;rw [← hE' x (by simp)];exact h
 case call c =>
  obtain⟨callee,args,argTypes⟩:=c;cases callee with
  | value F =>
   dsimp only [eCall] at h ⊢;rw [← hE' F (by simp [Call.operands]),← aArgs_congr (T:=T) (T':=T') args.toList 0 fun x hx=>hE' x (by simp [Call.operands];right;simpa using hx)];exact h
  | invoke r m=>exact dflt (.call ⟨.invoke r m,args,argTypes⟩) hop h
  | builtin b =>
   cases b
   case cap=>exact dflt (.call ⟨.builtin .cap,args,argTypes⟩) hop h
   case clear=>exact dflt (.call ⟨.builtin .clear,args,argTypes⟩) hop h
   case close=>exact dflt (.call ⟨.builtin .close,args,argTypes⟩) hop h
   case complex=>exact dflt (.call ⟨.builtin .complex,args,argTypes⟩) hop h
   case copy=>exact dflt (.call ⟨.builtin .copy,args,argTypes⟩) hop h
   case imag=>exact dflt (.call ⟨.builtin .imag,args,argTypes⟩) hop h
   case len=>exact dflt (.call ⟨.builtin .len,args,argTypes⟩) hop h
   case make=>exact dflt (.call ⟨.builtin .make,args,argTypes⟩) hop h
   case max=>exact dflt (.call ⟨.builtin .max,args,argTypes⟩) hop h
   case min=>exact dflt (.call ⟨.builtin .min,args,argTypes⟩) hop h
   case new=>exact dflt (.call ⟨.builtin .new,args,argTypes⟩) hop h
   case panic=>exact dflt (.call ⟨.builtin .panic,args,argTypes⟩) hop h
   case print=>exact dflt (.call ⟨.builtin .print,args,argTypes⟩) hop h
   case println=>exact dflt (.call ⟨.builtin .println,args,argTypes⟩) hop h
   case real=>exact dflt (.call ⟨.builtin .real,args,argTypes⟩) hop h
   case recover=>exact dflt (.call ⟨.builtin .recover,args,argTypes⟩) hop h
   case unsafeAdd=>exact dflt (.call ⟨.builtin .unsafeAdd,args,argTypes⟩) hop h
   case unsafeSlice=>exact dflt (.call ⟨.builtin .unsafeSlice,args,argTypes⟩) hop h
   case unsafeSliceData=>exact dflt (.call ⟨.builtin .unsafeSliceData,args,argTypes⟩) hop h
   case unsafeString=>exact dflt (.call ⟨.builtin .unsafeString,args,argTypes⟩) hop h
   case unsafeStringData=>exact dflt (.call ⟨.builtin .unsafeStringData,args,argTypes⟩) hop h
   case unsafeSizeof=>exact dflt (.call ⟨.builtin .unsafeSizeof,args,argTypes⟩) hop h
   case unsafeAlignof=>exact dflt (.call ⟨.builtin .unsafeAlignof,args,argTypes⟩) hop h
   case unsafeOffsetof=>exact dflt (.call ⟨.builtin .unsafeOffsetof,args,argTypes⟩) hop h
   case append =>
    dsimp only at h ⊢;split at h
    ·rename_i x y hargs;rw [← hE' x (by simp [Call.operands,← Array.mem_toList_iff,hargs]),← hE' y (by simp [Call.operands,← Array.mem_toList_iff,hargs])];exact h
    ·exact h.elim
   case delete =>
    dsimp only at h ⊢;split at h
    ·rename_i x y t hargs ht;rw [← hE' x (by simp [Call.operands,← Array.mem_toList_iff,hargs]),← hE' y (by simp [Call.operands,← Array.mem_toList_iff,hargs])];exact h
    ·exact h.elim
theorem eAppR_mono {P:Program}{argTypes:Array TypeId}{X Y:AVal}{M:Mem}{N N':Mem->AVal->Prop}(hN:∀ M1 V,N M1 V->N' M1 V)(h:eAppR P argTypes X Y M N):eAppR P argTypes X Y M N':=by
 obtain⟨Y',st,e,zv,h1,h2,h3,h4,h5,h⟩:=h;refine⟨Y',st,e,zv,h1,h2,h3,h4,h5,?_⟩;rcases h with ⟨hX,ys,g1,g2,g3⟩|⟨b,off,n,c,hX,l,ys,g1,g2,g3,g4,g5,g6,g7,g8⟩
 ·exact .inl ⟨hX,ys,g1,g2,fun base c M1 k1 k2=>hN _ _ (g3 base c M1 k1 k2)⟩
 ·exact .inr ⟨b,off,n,c,hX,l,ys,g1,g2,g3,g4,g5,g6,fun k=>hN _ _ (g7 k),fun k b' c' k1 k2=>hN _ _ (g8 k b' c' k1 k2)⟩
theorem eExact_mono {P:Program}{o:Oper}{T:Nat->AVal}{M:Mem}{N N':Mem->AVal->Prop}(hN:∀ M1 V,N M1 V->N' M1 V)(h:eExact P o T M N):eExact P o T M N':=fun ρ w h1 h2 h3=>by
 rcases h ρ w h1 h2 h3 with ⟨v,V,g1,g2,g3⟩|⟨v,V,r,ob,ob',n,g1,g2,g3,g4,g5⟩|⟨r,ob,ob',g1,g2,g3,g4⟩|⟨v,ob',g1,g2,g3⟩
 ·exact .inl ⟨v,V,g1,g2,hN _ _ g3⟩
 ·exact .inr (.inl ⟨v,V,r,ob,ob',n,g1,g2,g3,g4,hN _ _ g5⟩)
 ·exact .inr (.inr (.inl ⟨r,ob,ob',g1,g2,g3,hN _ _ g4⟩))
 ·exact .inr (.inr (.inr ⟨v,ob',g1,g2,hN _ _ g3⟩))
theorem xstep_mono {P:Program}{o:Oper}{T:Nat->AVal}{M:Mem}{N N':Mem->AVal->Prop}(hN:∀ M1 V,N M1 V->N' M1 V)(h:xstep P o T M N):xstep P o T M N':=by
 unfold xstep at h ⊢;refine h.imp (eExact_mono hN) fun h=>?_
 split at h
 ·split at h
  ·refine⟨h.1,h.2.imp (eAppR_mono hN) fun h=>?_⟩;rcases h with ⟨Y',ys,h1,h2,h3,h4⟩|⟨Y',st,e,zs,b,n,c,l,XS,ys,a1,a2,a3,a4,a5,a6,a7,a8,a9,a10,a11,a12,a13,a14,k1,k2⟩
   ·exact .inl ⟨Y',ys,h1,h2,h3,h4.imp (hN _ _) fun ⟨st,e,zs,a1,a2,a3,a4,a5,hh⟩=>⟨st,e,zs,a1,a2,a3,a4,a5,fun b c M1 k1 k2=>hN _ _ (hh b c M1 k1 k2)⟩⟩
   ·exact .inr ⟨Y',st,e,zs,b,n,c,l,XS,ys,a1,a2,a3,a4,a5,a6,a7,a8,a9,a10,a11,a12,a13,a14,fun k=>hN _ _ (k1 k),fun k b' q k'=>hN _ _ (k2 k b' q k')⟩
  ·exact h.elim
 ·split at h
  ·obtain⟨st,e,zv,h1,h2,h3,h4,h⟩:=h;refine⟨st,e,zv,h1,h2,h3,h4,?_⟩;rcases h with ⟨base,c,hX,hK⟩|⟨b,off,n,c,l,hX,hn,hb,hle,hK⟩
   ·exact .inl ⟨base,c,hX,hN _ _ hK⟩
   ·exact .inr ⟨b,off,n,c,l,hX,hn,hb,hle,hN _ _ hK⟩
  ·exact h.elim
 ·exact⟨h.1,fun b hb=>hN _ _ (h.2 b hb)⟩
 ·exact⟨h.1,eStore_mono (fun e ⟨h1,b,l,l',g1,g2,g3⟩=>⟨h1,b,l,l',g1,g2,hN _ _ g3⟩) h.2⟩
 ·exact h.elim
theorem dstep_mono {P:Program}{tk:Option Nat}{o:Oper}{S:St}{K K':St->Prop}(hK:∀ S',K S'->K' S')(h:dstep P tk o S K):dstep P tk o S K' :=
 h.imp (estep_mono fun e _ he=>hK _ he) (xstep_mono fun M1 V he=>hK _ he)
theorem xstep_congr {P:Program}{o:Oper}{T T':Nat->AVal}{M:Mem}{N:Mem->AVal->Prop}(hT:∀ x∈o.op.operands.toList,ev T x=ev T' x)(h:xstep P o T M N):xstep P o T' M N:=by
 unfold xstep at h ⊢;refine h.imp (fun h ρ w h1 h2 h3=>h ρ w (fun x hx v hv=>h1 x hx v (by rw [← hT x hx];exact hv)) h2 h3) fun h=>?_
 split at h
 ·rename_i args argTypes hop;split at h
  ·rename_i x y hargs;have e1:∀ z∈[x,y],ev T z=ev T' z:=fun z hz=>hT z (by
    rw [hop];have:z∈args.toList:=by rw [hargs];exact hz
    simp only [Op.operands,Call.operands];simpa using this)
   rw [← e1 x (by simp),← e1 y (by simp)];exact h
  ·exact h.elim
 ·rename_i args argTypes hop;split at h
  ·rename_i x hargs;have e1:ev T x=ev T' x:=hT x (by
    rw [hop];have:x∈args.toList:=by rw [hargs];exact List.mem_singleton.2 rfl
    simp only [Op.operands,Call.operands];simpa using this)
   rw [← e1];exact h
  ·exact h.elim
 ·rename_i t x hop;have e1:ev T x=ev T' x:=hT x (by rw [hop];simp [Op.operands]);rw [← e1];exact h
 ·rename_i t p x hop;have e1:ev T x=ev T' x:=hT x (by rw [hop];simp [Op.operands]);have e2:ev T p=ev T' p:=hT p (by rw [hop];simp [Op.operands]);rw [← e1,← e2];exact h
 ·exact h.elim
end
end Go.Am
set_option linter.unusedVariables false
namespace Go.Am
set_option linter.unusedSimpArgs false
structure QEff where
 lz:Option Tmp
 V:AVal
def QEff.app (q:QEff)(S:St)(dst:Option Tmp):St:=Eff.apply ⟨q.lz,S.M,q.V⟩ S dst
def aGuard (ops:Array Oper)(T:Nat->AVal)(o:Oper)(yes no:Prop):Prop :=
 match o.guard with
 | none=>yes
 | some (j,want) =>
  match (ops[j]?).bind (·.dst) with
  | some d=>(match T d with | .raw (.bool t)=>(t=want->yes)/\(t = !want->no) | .raw _=>no | _=>False)
  | none=>False
theorem aGuard_mono {ops:Array Oper}{T:Nat->AVal}{o:Oper}{y n y' n':Prop}(hy:y->y')(hn:n->n')(h:aGuard ops T o y n):aGuard ops T o y' n':=by
 unfold aGuard at h ⊢;split at h
 ·exact hy h
 ·split at h
  ·split at h
   ·exact⟨fun e=>hy (h.1 e),fun e=>hn (h.2 e)⟩
   ·exact hn h
   ·exact h
  ·exact h
def Quiet (P:Program)(tk:Option Nat)(o:Oper)(T:Nat->AVal)(M:Mem)(q:QEff)(B:List Nat):Prop :=
 (q.lz=none\/q.lz=lzOf tk o)/\∀ T' M',(∀ x∈o.op.operands.toList,ev T x=ev T' x)->(∀ b∈B,M b=M' b)->∀ N:Eff->Prop,N ⟨q.lz,M',q.V⟩->estep P tk o T' M' N
def aOp (P:Program)(tk:Nat->Option Nat)(ops:Array Oper)(i:Nat)(S:St)(K:St->Prop):Prop :=
 match ops[i]? with
 | none=>K S
 | some o=>aGuard ops S.T o (dstep P (tk i) o S K) (K (S.put o.dst (.raw undef)))
def Comes (P:Program)(tk:Nat->Option Nat)(ops:Array Oper)(i:Nat)(o:Oper)(S:St)(q:QEff)(B:List Nat):Prop :=
 aGuard ops S.T o (Quiet P (tk i) o S.T S.M q B) (q=⟨none,.raw undef⟩)
def writesOf (tk:Option Nat)(o:Oper):List Tmp:=o.dst.toList++(lzOf tk o).toList
def apartD (ops:Array Oper)(tk:Nat->Option Nat)(i j:Nat)(oi oj:Oper):Bool :=
 ((writesOf (tk i) oi).all fun t=>!(oj.looksAt ops).contains t && !(writesOf (tk j) oj).contains t) && ((writesOf (tk j) oj).all fun t=>!(oi.looksAt ops).contains t)
def waitsOn (o:Oper)(i:Nat):Bool:=o.after.any fun e=>Region.binds .any e && e.on == i
section
variable {P:Program}{ops:Array Oper}{tk:Nat->Option Nat}
theorem ev_look {o:Oper}{T T':Nat->AVal}(h:∀ t∈o.looksAt ops,T t=T' t):∀ x∈o.op.operands.toList,ev T x=ev T' x:=by
 intro x hx;cases x with
 | tmp t =>
  refine h t ?_;unfold Oper.looksAt;refine List.mem_append.2 (.inl (List.mem_filterMap.2 ⟨_,hx,rfl⟩))
 | _=>rfl
theorem aGuard_look {o:Oper}{T T':Nat->AVal}{y n:Prop}(h:∀ t∈o.looksAt ops,T t=T' t)(hg:aGuard ops T o y n):aGuard ops T' o y n:=by
 unfold aGuard at hg ⊢;split at hg
 ·exact hg
 ·rename_i j want hgd;split at hg
  ·rename_i d hd;have:T d=T' d:=h d (by unfold Oper.looksAt;rw [hgd];simp [hd]);rw [← this];exact hg
  ·exact hg
theorem put_T (S:St)(dst:Option Tmp)(V:AVal)(t:Nat):(S.put dst V).T t=if dst=some t then V else S.T t:=by
 cases dst with
 | none=>simp [St.put]
 | some d =>
  simp only [St.put,setT,Option.some.injEq];by_cases h:t=d
  ·rw [if_pos h,if_pos h.symm]
  ·rw [if_neg h,if_neg fun e=>h e.symm]
theorem put_M (S:St)(dst:Option Tmp)(V:AVal):(S.put dst V).M=S.M:=by cases dst<;>rfl
theorem loseO_T (S:St)(lz:Option Tmp)(t:Nat):(S.loseO lz).T t=if lz=some t then (S.T t).shut else S.T t:=by
 cases lz with
 | none=>simp [St.loseO]
 | some d =>
  simp only [St.loseO,St.lose,setT,Option.some.injEq];by_cases h:t=d
  ·subst h;simp
  ·rw [if_neg h,if_neg fun e=>h e.symm]
theorem apply_T (e:Eff)(S:St)(dst:Option Tmp)(t:Nat):(e.apply S dst).T t=if dst=some t then e.V else if e.lz=some t then (S.T t).shut else S.T t:=by
 unfold Eff.apply;rw [put_T];split
 ·rfl
 ·exact loseO_T S e.lz t
theorem apply_M (e:Eff)(S:St)(dst:Option Tmp):(e.apply S dst).M=e.M:=by unfold Eff.apply;rw [put_M]
theorem St.ext' {S S':St}(h1:∀ t,S.T t=S'.T t)(h2:S.M=S'.M):S=S':=by
 cases S;cases S';simp only [St.mk.injEq];exact⟨funext h1,h2⟩
theorem apartD_spec {i j:Nat}{oi oj:Oper}(h:apartD ops tk i j oi oj=true):(∀ t∈writesOf (tk i) oi,t ∉ oj.looksAt ops/\t ∉ writesOf (tk j) oj)/\∀ t∈writesOf (tk j) oj,t ∉ oi.looksAt ops:=by
 unfold apartD at h;simp only [Bool.and_eq_true,List.all_eq_true,Bool.not_eq_true',List.contains_eq_mem,decide_eq_false_iff_not] at h;exact⟨fun t ht=>h.1 t ht,fun t ht=>h.2 t ht⟩
theorem mem_writes {o:Oper}{tk:Option Nat}{t:Tmp}{lz:Option Tmp}(hl:lz=none\/lz=lzOf tk o):(o.dst=some t\/lz=some t)->t∈writesOf tk o:=by
 intro h;unfold writesOf;rcases h with h|h
 ·simp [h]
 ·rcases hl with e|e
  ·rw [e] at h;cases h
  ·rw [← e,h];simp
theorem aOp_comm {i j:Nat}{oi oj:Oper}{q:QEff}{S:St}{K:St->Prop}(hj:ops[j]? = some oj)(hq:q.lz=none\/q.lz=lzOf (tk i) oi)(ha:apartD ops tk i j oi oj=true)(h:aOp P tk ops j (q.app S oi.dst) K) :
 aOp P tk ops j S fun S'=>K (q.app S' oi.dst)/\∀ t∈oi.looksAt ops,S'.T t=S.T t:=by
 obtain⟨h1,h2⟩:=apartD_spec ha;have hlook:∀ t∈oj.looksAt ops,(q.app S oi.dst).T t=S.T t:=fun t ht=>by
  unfold QEff.app;rw [apply_T];rw [if_neg fun e=>(h1 t (mem_writes hq (.inl e))).1 ht,if_neg fun e=>(h1 t (mem_writes hq (.inr e))).1 ht]
 have hcomm:∀ e:Eff,(e.lz=none\/e.lz=lzOf (tk j) oj)->e.apply (q.app S oi.dst) oj.dst=q.app (e.apply S oj.dst) oi.dst/\∀ t∈oi.looksAt ops,(e.apply S oj.dst).T t=S.T t:=fun e he=>by
  refine⟨St.ext' (fun t=>?_) ?_,fun t ht=>?_⟩
  ·unfold QEff.app;simp only [apply_T];by_cases c1:oj.dst=some t
   ·have n1:¬ oi.dst=some t:=fun e'=>(h1 t (mem_writes hq (.inl e'))).2 (mem_writes he (.inl c1))
    have n2:¬ q.lz=some t:=fun e'=>(h1 t (mem_writes hq (.inr e'))).2 (mem_writes he (.inl c1))
    simp only [if_pos c1,if_neg n1,if_neg n2]
   ·by_cases c2:e.lz=some t
    ·have n1:¬ oi.dst=some t:=fun e'=>(h1 t (mem_writes hq (.inl e'))).2 (mem_writes he (.inr c2))
     have n2:¬ q.lz=some t:=fun e'=>(h1 t (mem_writes hq (.inr e'))).2 (mem_writes he (.inr c2))
     simp only [if_neg c1,if_pos c2,if_neg n1,if_neg n2]
    ·simp only [if_neg c1,if_neg c2]
  ·unfold QEff.app;simp only [apply_M]
  ·rw [apply_T,if_neg fun e'=>h2 t (mem_writes he (.inl e')) ht,if_neg fun e'=>h2 t (mem_writes he (.inr e')) ht]
 unfold aOp at h ⊢;rw [hj] at h ⊢;dsimp only at h ⊢;refine aGuard_mono (fun hy=>?_) (fun hn=>?_) (aGuard_look hlook h)
 ·unfold dstep at hy ⊢;have hM:(q.app S oi.dst).M=S.M:=by unfold QEff.app;rw [apply_M]
  rw [hM] at hy;refine hy.imp (fun hy=>estep_mono (fun e he hK=>?_) (estep_congr (ev_look hlook) hy)) fun hy=>xstep_mono (fun M1 V hK=>?_) (xstep_congr (ev_look hlook) hy)
  ·obtain⟨c1,c2⟩:=hcomm e he;exact⟨by rw [← c1];exact hK,c2⟩
  ·obtain⟨c1,c2⟩:=hcomm ⟨none,M1,V⟩ (.inl rfl);exact⟨by rw [← c1];exact hK,c2⟩
 ·obtain⟨c1,c2⟩:=hcomm ⟨none,S.M,.raw undef⟩ (.inl rfl);have e1:(S.put oj.dst (.raw undef))=Eff.apply ⟨none,S.M,.raw undef⟩ S oj.dst:=rfl;have e2:((q.app S oi.dst).put oj.dst (.raw undef))=Eff.apply ⟨none,S.M,.raw undef⟩ (q.app S oi.dst) oj.dst:=by
   have hM:(q.app S oi.dst).M=S.M:=by unfold QEff.app;rw [apply_M]
   unfold Eff.apply St.loseO;dsimp only;rw [← hM]
  rw [e1,← c1,← e2];exact⟨hn,c2⟩
theorem aOp_mono {i:Nat}{S:St}{K K':St->Prop}(hK:∀ S',K S'->K' S')(h:aOp P tk ops i S K):aOp P tk ops i S K':=by
 unfold aOp at h ⊢;split at h
 ·exact hK _ h
 ·exact aGuard_mono (fun hy=>dstep_mono (fun S' he=>hK _ he) hy) (fun hn=>hK _ hn) h
def aAny (P:Program)(tk:Nat->Option Nat)(ops:Array Oper)(Q:St->Prop)(H:List (Nat×Nat)):Nat->Array Bool->St->Prop
 | 0,listed,S=>Region.ready .any ops listed=[]/\Q S
 | fuel+1,listed,S=>(Region.ready .any ops listed=[]->Q S) ∧
  ∀ i∈Region.ready .any ops listed,aOp P tk ops i S fun S'=>(∀ p∈H,(∀ o,ops[i]? = some o->waitsOn o p.1=false)->S'.M p.2=S.M p.2)/\aAny P tk ops Q H fuel (listed.setIfInBounds i true) S'
theorem aAny_sub {Q:St->Prop}{H H':List (Nat×Nat)}(hs:∀ p∈H,p∈H'):∀ (fuel:Nat) (listed:Array Bool) (S:St),aAny P tk ops Q H' fuel listed S->aAny P tk ops Q H fuel listed S
 | 0,_,_,h=>h
 | fuel+1,_,_,h=>⟨h.1,fun i hi=>aOp_mono (fun _ hx=>⟨fun p hp=>hx.1 p (hs p hp),aAny_sub hs fuel _ _ hx.2⟩) (h.2 i hi)⟩
theorem comes_aOp {i:Nat}{o:Oper}{S:St}{q:QEff}{B:List Nat}{K:St->Prop}(hi:ops[i]? = some o)(hc:Comes P tk ops i o S q B)(h:K (q.app S o.dst)):aOp P tk ops i S K:=by
 unfold aOp;rw [hi];refine aGuard_mono (fun hy=>.inl <| hy.2 S.T S.M (fun _ _=>rfl) (fun _ _=>rfl) _ h) (fun hn=>?_) hc;subst hn;exact h
theorem comes_stays {i:Nat}{o:Oper}{S S':St}{q:QEff}{B:List Nat}(hc:Comes P tk ops i o S q B)(hT:∀ t∈o.looksAt ops,S'.T t=S.T t)(hM:∀ b∈B,S'.M b=S.M b):Comes P tk ops i o S' q B:=by
 unfold Comes at hc ⊢;refine aGuard_look (fun t ht=>(hT t ht).symm) (aGuard_mono (fun hy=>⟨hy.1,fun T' M' h1 h2 N hN=>hy.2 T' M' (fun x hx=>?_) (fun b hb=>?_) N hN⟩) id hc)
 ·rw [ev_look (ops:=ops) (T:=S.T) (T':=S'.T) (fun t ht=>(hT t ht).symm) x hx];exact h1 x hx
 ·rw [← hM b hb];exact h2 b hb
theorem aAny_first {Q:St->Prop}{H:List (Nat×Nat)}{i:Nat}{oi:Oper}{q:QEff}{B:List Nat}(hi:ops[i]? = some oi)(hq:q.lz=none\/q.lz=lzOf (tk i) oi):∀ (fuel:Nat) (listed:Array Bool) (S:St),
 (∀ j oj,ops[j]? = some oj->j≠i->listed.getD j true=false->waitsOn oj i=false->apartD ops tk i j oi oj=true)->i∈Region.ready .any ops listed->Comes P tk ops i oi S q B →
 aAny P tk ops Q (B.map (fun b=>(i,b))++H) fuel (listed.setIfInBounds i true) (q.app S oi.dst)->aAny P tk ops Q H (fuel+1) listed S:=by
 intro fuel;have hself:∀ (fuel:Nat) (listed:Array Bool) (S:St),Comes P tk ops i oi S q B->aAny P tk ops Q (B.map (fun b=>(i,b))++H) fuel (listed.setIfInBounds i true) (q.app S oi.dst) →
  aOp P tk ops i S fun S'=>(∀ p∈H,(∀ o,ops[i]? = some o->waitsOn o p.1=false)->S'.M p.2=S.M p.2)/\aAny P tk ops Q H fuel (listed.setIfInBounds i true) S':=fun fuel listed S hc hH =>
  comes_aOp hi hc ⟨fun p _ _=>by unfold QEff.app;rw [apply_M],aAny_sub (fun p hp=>List.mem_append.2 (.inr hp)) _ _ _ hH⟩
 induction fuel with
 | zero =>
  intro listed S _ hr hc hH;refine⟨fun h=>(by rw [h] at hr;cases hr),fun j hj=>?_⟩;by_cases hji:j=i
  ·subst hji;exact hself 0 listed S hc hH
  ·have:=ready_mono hj hji;rw [hH.1] at this;cases this
 | succ fuel ih =>
  intro listed S hfree hr hc hH;refine⟨fun h=>(by rw [h] at hr;cases hr),fun j hj=>?_⟩;by_cases hji:j=i
  ·subst hji;exact hself _ listed S hc hH
  ·have h1:=hH.2 j (ready_mono hj hji);obtain⟨hjun,oj,hoj,hall⟩:=mem_ready.1 hj;have hnot:waitsOn oj i=false:=by
    cases hw:waitsOn oj i with
    | false=>rfl
    | true =>
     unfold waitsOn at hw;obtain⟨e,he,hb⟩:=Array.any_eq_true'.1 hw;simp only [Bool.and_eq_true,beq_iff_eq] at hb;have h1:=hall e he hb.1;have h0:=(mem_ready.1 hr).1;rw [hb.2] at h1;rcases Nat.lt_or_ge i listed.size with h'|h'
     ·simp [h'] at h0 h1;rw [h0] at h1;cases h1
     ·simp [Array.getElem?_eq_none h'] at h1
   refine aOp_mono (fun S' h3=>?_) (aOp_comm hoj hq (hfree j oj hoj hji hjun hnot) h1);obtain⟨⟨h4,h5⟩,h6⟩:=h3;have hMapp:∀ S:St,(q.app S oi.dst).M=S.M:=fun S=>by unfold QEff.app;rw [apply_M]
   rw [hMapp,hMapp] at h4;refine⟨fun p hp hw=>h4 p (List.mem_append.2 (.inr hp)) hw,ih _ S' (fun k ok hk hki hun hno=>?_) (ready_mono hr (Ne.symm hji)) (comes_stays hc h6 fun b hb=>?_) ?_⟩
   ·refine hfree k ok hk hki ?_ hno;by_cases hjk:j=k
    ·subst hjk;exact hjun
    ·rw [getD_set_ne true hjk] at hun;exact hun
   ·exact h4 (i,b) (List.mem_append.2 (.inl (List.mem_map.2 ⟨b,hb,rfl⟩))) fun o ho=>by rw [hoj] at ho;cases ho;exact hnot
   ·rw [Array.setIfInBounds_comm _ _ hji];exact h5
end
end Go.Am
