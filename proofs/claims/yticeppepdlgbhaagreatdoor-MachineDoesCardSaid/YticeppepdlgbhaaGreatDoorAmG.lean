import Derived.Test.YticeppepdlgbhaaGreatDoorAmF
import Derived.Test.YticeppepdlgbhaaGreatDoorAmE
namespace Go.Am
set_option linter.unusedVariables false
set_option linter.unusedSimpArgs false
set_option linter.unusedSectionVars false
section
variable {P:Program}{tkr:Nat->Option Nat}{ops:Array Oper}{K:St->Prop}{i:Nat}{rest:List Oper}{d:Nat}{T:Nat->AVal}{M M':Mem}{ty:TypeId}{pos:String}{af:Array Edge}{x y:Operand}{ats:Array TypeId}
 {α:Type} {f:α->AVal} {zs:List AVal} {sz:Nat}
def fl (f:α->AVal)(l:List α):List AVal:=l.flatMap fun a=>(f a).cells
theorem fl_append (l m:List α):fl f (l++m)=fl f l++fl f m:=List.flatMap_append
theorem fl_len (hf:∀ a,(f a).cells.length=sz):∀ l:List α,(fl f l).length=l.length*sz
 | []=>by simp [fl]
 | a::l=>by
  show ((f a).cells++fl f l).length=_
  rw [List.length_append,hf,fl_len hf l,List.length_cons,Nat.succ_mul,Nat.add_comm]
theorem flat_fl (l:List α):flat (l.map f)=fl f l:=flat_map_cells l
structure Uw (f:α->AVal)(sz:Nat):Prop where
 ok:∀ a,(f a).ok=true
 len:∀ a,(f a).cells.length=sz
 shut:∀ a,(f a).cells.map AVal.shut=(f a).cells
 unit:∀ a,∀ X∈(f a).cells,X.unit=true
def Ws (f:α->AVal)(sz:Nat)(M:Mem)(v:Value)(l:List α):Prop:=(∃ base,v = .slice base 0 0/\okB base/\l=[])\/∃ b k R,v = .slice (some ⟨b,0,none⟩) l.length (l.length+k)/\R.length=k*sz/\M b=some (.cells (fl f l++R))
def bOf (v:Value)(b:Nat):Prop:=∃ n c,v = .slice (some ⟨b,0,none⟩) n c/\c≠0
theorem Ws.keep {v:Value}{l:List α}(h:Ws f sz M v l)(hb:∀ b,bOf v b->M b≠none->M' b=M b)(hz:0<sz):Ws f sz M' v l:=by
 rcases h with h|⟨b,k,R,rfl,h1,h2⟩
 ·exact .inl h
 ·by_cases h0:l.length+k=0
  ·obtain rfl:l=[]:=List.eq_nil_of_length_eq_zero (by omega);obtain rfl:k=0:=by omega
   exact .inl ⟨_,rfl,.inr ⟨b,0,rfl⟩,rfl⟩
  ·exact .inr ⟨b,k,R,rfl,h1,by rw [hb b ⟨_,_,rfl,h0⟩ (by rw [h2];exact fun h=>by cases h)];exact h2⟩
theorem Ws.len {v:Value}{l:List α}(h:Ws f sz M v l):∃ base c,v = .slice base l.length c:=by
 rcases h with ⟨base,rfl,-,rfl⟩|⟨b,k,R,rfl,-,-⟩
 ·exact⟨base,0,rfl⟩
 ·exact⟨_,_,rfl⟩
theorem Ws.get {v:Value}{l:List α}(h:Ws f sz M v l)(hl:0<l.length):∃ b k R,v = .slice (some ⟨b,0,none⟩) l.length (l.length+k)/\R.length=k*sz/\M b=some (.cells (fl f l++R)):=by
 rcases h with ⟨base,rfl,-,rfl⟩|h
 ·exact absurd hl (Nat.lt_irrefl _)
 ·exact h
theorem Ws.ok {v:Value}{l:List α}(h:Ws f sz M v l){b:Nat}(hb:bOf v b):M b≠none:=by
 obtain⟨n,c,rfl,hc⟩:=hb;rcases h with ⟨base,h1,-,-⟩|⟨b2,k,R,h1,-,h2⟩
 ·cases h1;exact absurd rfl hc
 ·cases h1;rw [h2];exact fun h=>by cases h
theorem fl_get (hf:∀ a,(f a).cells.length=sz):∀ (l:List α) (R:List AVal) {j:Nat} (hj:j<l.length),((fl f l++R).drop (j*sz)).take sz=(f l[j]).cells
 | [],R,j,hj=>absurd hj (Nat.not_lt_zero j)
 | a::l,R,0,hj=>by
  show (((f a).cells++fl f l++R).drop (0*sz)).take sz=_
  rw [Nat.zero_mul,List.drop_zero,List.append_assoc,List.take_left' (hf a)];rfl
 | a::l,R,j+1,hj=>by
  show (((f a).cells++fl f l++R).drop ((j+1)*sz)).take sz=_
  rw [List.append_assoc,Nat.succ_mul,Nat.add_comm,← List.drop_drop,List.drop_left' (hf a)];exact fl_get hf l R (by rw [List.length_cons] at hj;omega)
theorem fl_get1 (hf:∀ a,(f a).cells.length=sz)(l:List α)(R:List AVal){j o q:Nat}(hj:j<l.length)(hq:q<sz)(ho:o=j*sz+q):(fl f l++R)[o]? = (f l[j]).cells[q]?:=by
 rw [← fl_get hf l R hj,List.getElem?_take,if_pos hq,List.getElem?_drop,ho]
theorem piece_f1 (hf:∀ a,(f a).cells.length=sz){l:List α}{R:List AVal}{j o q:Nat}{Y:AVal}(hj:j<l.length)(hq:q<sz)(ho:o=j*sz+q)(hY:(f l[j]).cells[q]? = some Y):piece false (fl f l++R) o 1=some Y:=by
 show (fl f l++R)[o]? = _
 rw [fl_get1 hf l R hj hq ho,hY]
theorem piece_fl (hf:∀ a,(f a).cells.length=sz){l:List α}{R:List AVal}{j o:Nat}(hj:j<l.length)(ho:o=j*sz):piece true (fl f l++R) o sz=some (.agg (f l[j]).cells):=by
 unfold piece;have h1:(j+1)*sz<=l.length*sz:=Nat.mul_le_mul_right _ hj;rw [Nat.succ_mul] at h1;rw [if_pos rfl,if_pos (by rw [List.length_append,fl_len hf,ho];omega),ho,fl_get hf l R hj]
theorem fl_set (hf:∀ a,(f a).cells.length=sz):∀ (l:List α) (R:List AVal) {j:Nat} (a:α),j<l.length->splice (fl f l++R) (j*sz) (f a).cells=fl f (l.set j a)++R
 | [],R,j,a,hj=>absurd hj (Nat.not_lt_zero j)
 | b::l,R,0,a,hj=>by
  show splice ((f b).cells++fl f l++R) (0*sz) _=(f a).cells++fl f l++R
  unfold splice;rw [Nat.zero_mul,List.take_zero,List.nil_append,Nat.zero_add,hf a,List.append_assoc,List.drop_left' (hf b),List.append_assoc]
 | b::l,R,j+1,a,hj=>by
  show splice ((f b).cells++fl f l++R) ((j+1)*sz) _=(f b).cells++fl f (l.set j a)++R
  have ih:=fl_set hf l R (j:=j) a (by rw [List.length_cons] at hj;omega);unfold splice at ih ⊢;have e1:((f b).cells++fl f l++R).take ((j+1)*sz)=(f b).cells++(fl f l++R).take (j*sz):=by
   rw [List.append_assoc,List.take_append,hf b,List.take_of_length_le (by rw [hf b,Nat.succ_mul];omega)];congr 2;rw [Nat.succ_mul];omega
  have e2:((f b).cells++fl f l++R).drop ((j+1)*sz+(f a).cells.length)=(fl f l++R).drop (j*sz+(f a).cells.length):=by
   rw [List.append_assoc,show (j+1)*sz+(f a).cells.length=(f b).cells.length+(j*sz+(f a).cells.length) by rw [Nat.succ_mul,hf b];omega,← List.drop_drop,List.drop_left]
  rw [e1,e2];simp only [List.append_assoc] at ih ⊢;rw [ih]
theorem fl_shut (hu:Uw f sz):∀ l:List α,(fl f l).map AVal.shut=fl f l:=shut_flat hu.shut
theorem fl_unit (hu:Uw f sz){l:List α}{X:AVal}(h:X∈fl f l):X.unit=true:=by
 obtain⟨a,-,ha⟩:=List.mem_flatMap.1 h;exact hu.unit a X ha
theorem o_appx {st e:TypeId}{by_:Nat}{l m:List α}{own:Bool}{v:Value}(ht:SlT P st e sz by_)(h0:ats[0]? = some st)(h1:ats[1]? = some st)(hz:zeroCellsT P e=some zs)(hzu:∀ z∈zs,z.unit=true)(hz0:0<zs.length)(hzs:zs.length=sz)(hf:Uw f sz)(hx:ev T x = .raw v)(hB:Ws f sz M v l)(hy:srcM M (ev T y)=some (.sl (m.map f) own))(hm:m≠[])(hlen:(l.length+m.length)*by_<=2^47)
 (h:∀ b k R,R.length=k*sz->(M b=none\/bOf v b)->aOps P tkr ops K (i+1) rest ⟨setT T d (.raw (.slice (some ⟨b,0,none⟩) (l.length+m.length) (l.length+m.length+k))),M.upd b (.cells (fl f (l++m)++R))⟩):aOps P tkr ops K i (mkO (some d) (.call { callee:=.builtin .append,args:=#[x,y],argTypes:=ats }) ty pos af none::rest) ⟨T,M⟩:=by
 rcases hB with ⟨base,rfl,hok,rfl⟩|⟨b,k,R,rfl,hR,hb⟩
 ·refine o_appw (f:=f) ht h0 h1 hz hzu hz0 (fun a=>⟨hf.ok a,hf.len a,hf.shut a⟩) (.inr ⟨base,hx,hok⟩) hy (by simpa using hlen) fun base' c M1 hF=>?_
  obtain⟨b',q,rfl,hb',rfl,rfl⟩:=hF.new hm;have:=h b' q ((List.replicate q zs).flatten) (by rw [List.length_flatten];simp [hzs]) (.inl hb');simpa [wcells,fl] using this
 ·refine o_xs rfl (.inr ⟨rfl,.inr (.inr ⟨_,st,e,zs,b,_,_,_,l.map f,m.map f,hy,h0,ht.u,hz,hzu,hz0,hx,hb,List.length_map _,Nat.le_add_right _ _,?_,?_,?_,?_,?_,?_⟩)⟩)
  ·rw [List.length_append,fl_len hf.len,hR,hzs,Nat.add_mul];exact Nat.le_refl _
  ·rw [flat_fl,hzs,List.take_left' (fl_len hf.len l)]
  ·rw [flat_fl];exact fun X hX=>fl_unit hf hX
  ·rw [aAppend_eq ht h0 h1 (Els.map fun a=>⟨hf.ok a,hf.len a⟩) (Els.map fun a=>⟨hf.ok a,hf.len a⟩) (by simpa using hlen)]
  ·intro hr;rw [List.length_map] at hr ⊢;have hmk:m.length*sz<=k*sz:=Nat.mul_le_mul_right _ (by omega);have hc0:l.length+k≠0:=by
    have:m.length≠0:=fun h=>hm (List.eq_nil_of_length_eq_zero h)
    omega
   have:=h b (k - m.length) (R.drop (m.length*sz)) (by rw [List.length_drop,hR,Nat.sub_mul]) (.inr ⟨_,_,rfl,hc0⟩);have e1:splice (fl f l++R) (l.length*zs.length) ((flat (m.map f)).map AVal.shut)=fl f (l++m)++R.drop (m.length*sz):=by
    rw [flat_fl,fl_shut hf,hzs];unfold splice;rw [List.take_left' (fl_len hf.len l),fl_len hf.len m,← List.drop_drop,List.drop_left' (fl_len hf.len l),fl_append]
   rw [e1];rw [show l.length+m.length+(k - m.length)=l.length+k by omega] at this;exact this
  ·intro hr b' q hb';rw [List.length_map] at hr ⊢;have:=h b' q ((List.replicate q zs).flatten) (by rw [List.length_flatten];simp [hzs]) (.inl hb');have e1:(flat (l.map f)++flat (m.map f)).map AVal.shut=fl f (l++m):=by
    rw [flat_fl,flat_fl,← fl_append,fl_shut hf]
   rw [e1];exact this
end
end Go.Am
namespace Go.Am
set_option linter.unusedVariables false
set_option linter.unusedSimpArgs false
section
variable {P:Program}{κ:Ghost}{w:World}{T:Nat->AVal}{V:Nat->Value}{M:Mem}{b d j:Nat}{l cs:List AVal}
theorem Holds.frozenP (h:Holds P κ T V M w)(hM:M b=some (.cells cs)){n c:Nat}(hl:∀ X∈cs.take n,X.cells=[X])(hn:n<=cs.length)(hc:n<=c):Rep P (freezeG κ b) w (.sl (cs.take n) false) (.slice (some ⟨b,0,none⟩) n c):=by
 obtain⟨cv,e,fr,h1,h2,h3,h4⟩:=h.obj b _ hM;have hi:∀ c o,κ c o = .imm->freezeG κ b c o = .imm:=fun c o h1=>by
  unfold freezeG;split
  ·rfl
  ·exact h1
 have hf:=flat_unit hl;have hln:(cs.take n).length=n:=by rw [List.length_take];omega
 have key:=Rep.sl (P:=P) (κ:=freezeG κ b) (w:=w) (cs.take n) false b 0 c 1 (fun j=>(cv[j]?).getD undef) (by rw [hln];exact hc) (fun X hX=>by rw [hl X hX];rfl) (fun j hj=>if_pos rfl) (fun j hj=>by
  rw [hf,hln] at hj;rw [cell_of_cells h1,Nat.zero_add,Array.getElem?_eq_getElem (by omega)];rfl) (fun j X hX=>by
  rw [hf] at hX;have hj:j<n:=by have:=(List.getElem?_eq_some_iff.1 hX).1;omega
  have hX2:cs[j]? = some X:=by rw [List.getElem?_take,if_pos hj] at hX;exact hX
  have hj2:j<cv.size:=by omega
  have h5:=h4 j X cv[j] hX2 (Array.getElem?_eq_getElem hj2);rw [Array.getElem?_eq_getElem hj2];exact h5.1.keep (fun b o hb=>⟨hi b o hb,rfl⟩) (fun _ _=>rfl) (Nat.le_refl _)) (fun h=>by cases h)
 rw [hln] at key;exact key
theorem Holds.recell (h:Holds P κ T V M w)(hM:M d=some (.cells l)){v:Value}{X:AVal}(hl:l[j]? = some (.raw v))(hr:Rep P κ w X v)(hX:∀ b o,¬ Spare P w X v b o):Holds P κ T V (M.upd d (.cells (l.set j X))) w:=by
 obtain⟨c,e,fr,h1,h2,h3,h4⟩:=h.obj d _ hM;refine h.know ⟨c,e,fr,h1,by rw [List.length_set];exact h2,h3,fun q Y x g1 g2=>?_⟩ fun x=>?_
 ·rw [List.getElem?_set] at g1;split at g1
  ·rename_i e1;subst e1;split at g1
   ·obtain rfl:=Option.some.inj g1;have h5:=h4 j _ x hl g2;have h6:x=v:=rep_raw h5.1;subst h6;exact⟨hr,h5.2.1,fun b' o' hsp=>absurd hsp (hX b' o')⟩
   ·cases g1
  ·exact h4 q Y x g1 g2
 ·exact h.free_of hM x
variable {f:FuncId}{args:List AVal}{Post Post':AVal->Mem->Prop}
theorem SoundCall.freezeout (h:SoundCall P f args M Post)(hp:∀ r M',Post r M'->∃ d l j b cs n c,d≠b/\M' d=some (.cells l)/\l[j]? = some (.raw (.slice (some ⟨b,0,none⟩) n c))/\M' b=some (.cells cs)/\(∀ X∈cs.take n,X.cells=[X])/\n<=cs.length/\n<=c/\M b=none/\Post' r ((M'.del b).upd d (.cells (l.set j (.sl (cs.take n) false))))):SoundCall P f args M Post':=fun κ w vs hs hh=>(h κ w vs hs hh).mono fun _ w' ⟨v,κ',r,M',e,hq,hH,hK⟩=>by
 obtain⟨d,l,j,b,cs,n,c,hdb,hd,hlj,hb,hu,hn,hc,hM0,hpost⟩:=hp r M' hq;have ht:∀ o,κ' b o = .free:=fun o=>hH.free_of hb o
 have hF:=hH.freeze hb;have hR:=hH.frozenP hb hu hn hc;have hG:=hF.recell (d:=d) (by rw [Mem.del_ne hdb];exact hd) hlj hR fun b' o' hsp=>by
  rcases hsp with ⟨l',o1,c1,g1,-⟩|⟨Vs,vs',i,X,x,g1,-⟩<;>cases g1
 refine⟨v,freezeG κ' b,r,_,e,hpost,hG,hK.trans ?_⟩;exact Keep.tags (w:=w') (κ:=κ') (κ':=freezeG κ' b) (fun c o h1=>by
  unfold freezeG;split
  ·rfl
  ·exact h1) (fun c o h1=>by
  unfold freezeG;rw [if_neg (fun e=>by rw [e,ht] at h1;cases h1)];exact h1)
end
end Go.Am
namespace Go.Am
set_option linter.unusedVariables false
set_option linter.unusedSimpArgs false
section
variable {P:Program}{T:Nat->AVal}{M:Mem}{dst:Option Nat}{x y:Operand}{ty:TypeId}{pos:String}{af:Array Edge}{g:Option (Nat×Bool)}
theorem q_slh {t e:TypeId}{sz b n c h:Nat}{k':IntKind}(hu:P.underlying t=some (.slice e))(hs:sizeT P e=some sz)(hx:ev T x = .raw (.slice (some ⟨b,0,none⟩) n c))(hy:ev T y = .raw (.int k' (h:Int)))(hc:h<=c):qstep P none (mkO dst (.slice t x none (some y) none) ty pos af g) T M=some (⟨none,.raw (.slice (some ⟨b,0,none⟩) h c)⟩,[]):=by
 have hh:((some y).mapM fun x=>rawOf (ev T x))=some (some (.int k' (h:Int))):=by
  simp [hy,rawOf]
 have:=q_slr (P:=P) (dst:=dst) (ty:=ty) (pos:=pos) (af:=af) (g:=g) (M:=M) (lo:=none) (hi:=some y) (mx:=none) hu hs hx rfl hh rfl (bnd_h hc);rw [this];have e:(if c=0 then 0 else 0+0*sz)=0:=by split<;>simp
 rw [e];rfl
end
end Go.Am
namespace Go.Am
set_option linter.unusedVariables false
set_option linter.unusedSimpArgs false
section
variable {P:Program}{κ:Ghost}{w:World}{f:FuncId}{args:List AVal}{M:Mem}{Post Post':AVal->Mem->Prop}
theorem Holds.reagg {l l':List AVal}{v:Value}(h:Holds P κ (argT [.agg l]) (fun t=>if t=0 then v else undef) M w)(hr:Rep P κ w (.agg l') v):Holds P κ (argT [.agg l']) (fun t=>if t=0 then v else undef) M w:=by
 have hno:∀ (m:List AVal) (x:Value) b o,¬ Spare P w (.agg m) x b o:=fun m x b o hs=>by
  rcases hs with ⟨_,_,_,e,_⟩|⟨_,_,_,_,_,e,_⟩<;>cases e
 have key:∀ t,t≠0->argT [.agg l'] t=argT [.agg l] t:=fun t ht=>by
  cases t with
  | zero=>exact absurd rfl ht
  | succ t=>simp [argT]
 refine { h with tmp:=fun t=>?_,sp:=?_ }
 ·by_cases ht:t=0
  ·subst ht;have e1:argT [.agg l'] 0 = .agg l':=rfl;rw [e1];simp only [if_true];exact hr
  ·rw [key t ht];exact h.tmp t
 ·intro t;by_cases ht:t=0
  ·subst ht;intro b o hs;exact absurd hs (hno _ _ _ _)
  ·rw [key t ht];exact h.sp t
theorem SoundCall.rawagg (h:SoundCall P f args M Post)(hp:∀ r M',Post r M'->Post' r M'\/∃ X Y o,r = .agg [X,Y,.sl [] o]/\∀ base c,Post' (.agg [X,Y,.raw (.slice base 0 c)]) M'):SoundCall P f args M Post':=fun κ w vs hs hh=>(h κ w vs hs hh).mono fun _ w' ⟨v,κ',r,M',e,hq,hH,hK⟩=>by
 rcases hp r M' hq with h1|⟨X,Y,o,rfl,h1⟩
 ·exact⟨v,κ',r,M',e,h1,hH,hK⟩
 ·have hr':Rep P κ' w' (.agg [X,Y,.sl [] o]) v:=hH.tmp 0;obtain⟨base,c,hrep⟩ : ∃ base c,Rep P κ' w' (.agg [X,Y,.raw (.slice base 0 c)]) v:=by
   cases hr' with
   | agg _ us hl hr =>
    have h3:2<us.size:=by
     have:us.size=3:=by simpa using hl.symm
     omega
    have h2:=hr 2 (.sl [] o) us[2] rfl (Array.getElem?_eq_getElem h3);obtain⟨base,c,hv⟩ : ∃ base c,us[2] = .slice base 0 c:=by
     rcases rep_sl_inv h2 with ⟨-,e⟩|⟨b,off,cap,sz,cv,e,-⟩
     ·exact⟨none,0,e⟩
     ·exact⟨_,cap,e⟩
    refine⟨base,c,.agg _ us (by simpa using hl) fun i C x g1 g2=>?_⟩
    match i,g1,g2 with
    | 0,g1,g2=>exact hr 0 C x g1 g2
    | 1,g1,g2=>exact hr 1 C x g1 g2
    | 2,g1,g2 =>
     obtain rfl:=Option.some.inj g1;rw [Array.getElem?_eq_getElem h3] at g2;obtain rfl:=Option.some.inj g2;rw [hv];exact .raw _
    | i+3,g1,g2=>simp at g1
  exact⟨v,κ',_,M',e,h1 base c,hH.reagg hrep,hK⟩
end
end Go.Am
