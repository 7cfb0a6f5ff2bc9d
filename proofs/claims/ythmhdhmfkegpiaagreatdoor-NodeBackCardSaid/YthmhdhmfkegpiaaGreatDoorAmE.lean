import Derived.Test.YthmhdhmfkegpiaaGreatDoorAmD
namespace Go.Am
set_option linter.unusedVariables false
set_option linter.unusedSimpArgs false
set_option linter.unusedSectionVars false
section
variable {P:Program}{tkr:Nat->Option Nat}{ops:Array Oper}{K:St->Prop}{i:Nat}{rest:List Oper}{d:Nat}{T:Nat->AVal}{M:Mem}{ty mt kt et:TypeId}{pos:String}{af:Array Edge}{x y z:Operand}{ats:Array TypeId}
 {α:Type} [DecidableEq α] {ek:α->Value} {r clk:Nat} {l:List (En α)} {k:α}
theorem x_maplen (h0:ats[0]? = some mt)(hu:P.underlying mt=some (.map kt et))(hm:ev T x = .raw (.map (some r)))(hM:M r=some (.it (.map (entsX ek l) clk)))
 (h:aOps P tkr ops K (i+1) rest ⟨setT T d (.raw (.int .i64 l.length)),M⟩):aOps P tkr ops K i (mkO (some d) (.call { callee:=.builtin .len,args:=#[x],argTypes:=ats }) ty pos af none::rest) ⟨T,M⟩:=by
 refine o_xs rfl (.inl fun ρ w h1 h2 _=>.inl ⟨.int .i64 l.length,_,?_,Fixed.raw _,h⟩);have e1:ρ x = .map (some r):=h1 x (by simp [Op.operands,Call.operands]) _ (by rw [hm];rfl);have hrun:(Builtin.len_ ats ty #[ρ x]).run P w = .ok (.int .i64 l.length) w:=by
  rw [e1];simp only [Builtin.len_,h0,List.getElem?_toArray,List.getElem?_cons_zero];show ((underlying mt) >>= _).run P w=_
  rw [run_bind_pr (pr_underlying hu)];show ((getObj r) >>= _).run P w=_
  rw [run_getObj (h2 r _ hM)];show Result.ok (goInt (entsX ek l).size) w=_
  have:(entsX ek l).size=l.length:=by simp [entsX]
  rw [this];rfl
 unfold execOp;show (do let v ← Builtin.len_ ats ty (#[x].map ρ);pure (Go.Next.value v)).run P w=_
 rw [show (#[x]:Array Operand).map ρ = #[ρ x] by simp];exact run_val hrun
end
section
variable {β:Type}
def gets (dir:List (ByteArray×β))(k:ByteArray):Option β:=(dir.find? fun p=>p.1=k).map (·.2)
def ins (dir:List (ByteArray×β))(k:ByteArray)(v:β):List (ByteArray×β) :=
 match dir.findIdx? (fun p=>p.1=k) with
 | some j=>dir.set j (k,v)
 | none=>dir++[(k,v)]
def pairE (e:En ByteArray):ByteArray×Value:=(e.k,e.v)
structure MapIs (g:β->Value)(M:Mem)(r clk:Nat)(lf:List (En ByteArray))(dir:List (ByteArray×β)):Prop where
 hM:M r=some (.it (.map (entsX Value.string lf) clk))
 hl:lf.map pairE=dir.map fun p=>(p.1,g p.2)
 st:∀ e∈lf,e.s<clk
 sn:(lf.map En.s).Nodup
 nd:(dir.map (·.1)).Nodup
def MapAt (g:β->Value)(M:Mem)(r:Nat)(dir:List (ByteArray×β)):Prop:=∃ clk lf,MapIs g M r clk lf dir
variable {g:β->Value}{M M':Mem}{r clk:Nat}{lf:List (En ByteArray)}{dir:List (ByteArray×β)}{k:ByteArray}{v:β}
theorem MapAt.keep (h:MapAt g M r dir)(hr:M' r=M r):MapAt g M' r dir:=by
 obtain⟨clk,lf,h⟩:=h;exact⟨clk,lf,{ h with hM:=by rw [hr];exact h.hM }⟩
theorem MapAt.some (h:MapAt g M r dir):M r≠none:=by
 obtain⟨clk,lf,h⟩:=h;rw [h.hM];exact fun h=>by cases h
theorem MapIs.idx (h:MapIs g M r clk lf dir)(k:ByteArray):enIdx lf k=dir.findIdx? fun p=>p.1=k:=by
 have e1:enIdx lf k=(lf.map pairE).findIdx? fun p=>p.1=k:=by rw [List.findIdx?_map];rfl
 rw [e1,h.hl,List.findIdx?_map];rfl
theorem MapIs.get (h:MapIs g M r clk lf dir)(k:ByteArray):(enGet lf k).map En.v=(gets dir k).map g:=by
 have e1:(enGet lf k).map pairE=(lf.map pairE).find? fun p=>p.1=k:=by rw [List.find?_map];rfl
 have e2:(enGet lf k).map En.v=((enGet lf k).map pairE).map Prod.snd:=by rw [Option.map_map];rfl
 rw [e2,e1,h.hl,List.find?_map,Option.map_map];unfold gets;rw [Option.map_map];rfl
theorem MapIs.len (h:MapIs g M r clk lf dir):lf.length=dir.length:=by
 have:=congrArg List.length h.hl;simpa using this
theorem nodup_set {l:List (ByteArray×β)}{j:Nat}{k:ByteArray}{v:β}(hj:l.findIdx? (fun p=>p.1=k)=some j):(l.set j (k,v)).map (·.1)=l.map (·.1):=by
 obtain⟨hlt,hp,-⟩:=List.findIdx?_eq_some_iff_getElem.1 hj;have hp':l[j].1=k:=by simpa using hp
 rw [List.map_set];exact set_self (by rw [List.getElem?_map,List.getElem?_eq_getElem hlt];simp [hp'])
theorem idx_no {l:List (ByteArray×β)}{k:ByteArray}(hj:l.findIdx? (fun p=>p.1=k)=none):∀ p∈l,p.1≠k:=fun p hp=>by
 have:=List.findIdx?_eq_none_iff.1 hj p hp;simpa using this
theorem ins_nd (h:(dir.map (·.1)).Nodup)(k:ByteArray)(v:β):((ins dir k v).map (·.1)).Nodup:=by
 unfold ins;cases hj:dir.findIdx? (fun p=>p.1=k) with
 | some j=>dsimp only;rw [nodup_set hj];exact h
 | none =>
  dsimp only;rw [List.map_append,List.nodup_append];refine⟨h,by simp,fun a ha b hb=>?_⟩;obtain⟨p,hp,rfl⟩:=List.mem_map.1 ha;rw [List.mem_singleton.1 hb];exact idx_no hj p hp
end
section
variable {P:Program}{tkr:Nat->Option Nat}{ops:Array Oper}{K:St->Prop}{i:Nat}{rest:List Oper}{d:Nat}{T:Nat->AVal}{M:Mem}{ty mt kt et:TypeId}{pos:String}{af:Array Edge}{x y z:Operand}{ats:Array TypeId}
 {β:Type} {g:β->Value} {r:Nat} {dir:List (ByteArray×β)} {k:ByteArray} {v:β}
theorem m_get {zv:Value}(hu:P.underlying mt=some (.map kt et))(hk:KeyT P kt Value.string)(hz:zeroT P et=some zv)(hm:ev T x = .raw (.map (some r)))(hy:rawOf (ev T y)=some (.string k))(hM:MapAt g M r dir)
 (h:aOps P tkr ops K (i+1) rest ⟨setT T d (.raw (((gets dir k).map g).getD zv)),M⟩):aOps P tkr ops K i (mkO (some d) (.lookup mt x y false) ty pos af none::rest) ⟨T,M⟩:=by
 obtain⟨clk,lf,hM⟩:=hM;refine x_lookup (k:=k) hu hk hz hm hy hM.hM ?_;rw [hM.get];exact h
theorem m_len (h0:ats[0]? = some mt)(hu:P.underlying mt=some (.map kt et))(hm:ev T x = .raw (.map (some r)))(hM:MapAt g M r dir)
 (h:aOps P tkr ops K (i+1) rest ⟨setT T d (.raw (.int .i64 dir.length)),M⟩):aOps P tkr ops K i (mkO (some d) (.call { callee:=.builtin .len,args:=#[x],argTypes:=ats }) ty pos af none::rest) ⟨T,M⟩:=by
 obtain⟨clk,lf,hM⟩:=hM;refine x_maplen h0 hu hm hM.hM ?_;rw [hM.len];exact h
theorem m_put (hu:P.underlying mt=some (.map kt et))(hk:KeyT P kt Value.string)(hm:ev T x = .raw (.map (some r)))(hy:rawOf (ev T y)=some (.string k))(hv:rawOf (ev T z)=some (g v))(hM:MapAt g M r dir)
 (h:∀ o,MapAt g (M.upd r o) r (ins dir k v)->aOps P tkr ops K (i+1) rest ⟨T,M.upd r o⟩):aOps P tkr ops K i (mkO none (.mapUpdate mt x y z) ty pos af none::rest) ⟨T,M⟩:=by
 obtain⟨clk,lf,hM⟩:=hM;have hidx:=hM.idx k;cases hj:enIdx lf k with
 | some j =>
  obtain⟨e,he,hek,-⟩:=enIdx_some hj;rw [hj] at hidx;refine x_updOld (k:=k) hu hk hm hy hv hM.hM hj he (h _ ⟨clk,lf.set j ⟨e.k,g v,e.s⟩,Mem.upd_self _ _ _,?_,fun e' he'=>?_,?_,ins_nd hM.nd k v⟩)
  ·unfold ins;rw [← hidx];dsimp only;rw [List.map_set,List.map_set,hM.hl,hek];rfl
  ·rcases List.mem_or_eq_of_mem_set he' with h|h
   ·exact hM.st e' h
   ·rw [h];exact hM.st e (List.mem_of_getElem? he)
  ·rw [List.map_set];rw [show (lf.map En.s).set j (⟨e.k,g v,e.s⟩ : En ByteArray).s=lf.map En.s from set_self (by rw [List.getElem?_map,he];rfl)];exact hM.sn
 | none =>
  rw [hj] at hidx;refine x_updNew (k:=k) hu hk hm hy hv hM.hM hj (h _ ⟨clk+1,lf++[⟨k,g v,clk⟩],Mem.upd_self _ _ _,?_,fun e' he'=>?_,?_,ins_nd hM.nd k v⟩)
  ·unfold ins;rw [← hidx];dsimp only;rw [List.map_append,List.map_append,hM.hl];rfl
  ·rcases List.mem_append.1 he' with h|h
   ·have:=hM.st e' h;omega
   ·rw [List.mem_singleton.1 h];show clk<clk+1;omega
  ·rw [List.map_append,List.nodup_append];refine⟨hM.sn,by simp,fun a ha b hb=>?_⟩;obtain⟨e,he,rfl⟩:=List.mem_map.1 ha;rw [List.mem_singleton.1 hb];have:=hM.st e he;show e.s≠clk
   omega
theorem m_make (h:∀ b o,M b=none->MapAt g (M.upd b o) b ([]:List (ByteArray×β))->aOps P tkr ops K (i+1) rest ⟨setT T d (.raw (.map (some b))),M.upd b o⟩):aOps P tkr ops K i (mkO (some d) (.makeMap mt none) ty pos af none::rest) ⟨T,M⟩ :=
 x_makeMap (ek:=Value.string) fun b hb=>h b _ hb ⟨0,[],Mem.upd_self _ _ _,rfl,(fun e he=>by cases he),List.nodup_nil,List.nodup_nil⟩
end
end Go.Am
namespace Go.Am
set_option linter.unusedVariables false
set_option linter.unusedSimpArgs false
set_option linter.unusedSectionVars false
def u8 (b:UInt8):AVal:=.raw (.int .u8 b.toNat)
theorem u8_ok (a:UInt8):(u8 a).shut=u8 a/\(u8 a).cells=[u8 a]/\(u8 a).ok=true/\(u8 a).unit=true:=⟨rfl,rfl,rfl,rfl⟩
def Bs (M:Mem)(v:Value)(l:List UInt8):Prop:=(∃ base,v = .slice base 0 0/\okB base/\l=[])\/∃ b,∃ cs:List UInt8,v = .slice (some ⟨b,0,none⟩) l.length cs.length/\M b=some (.cells (cs.map u8))/\cs.take l.length=l
theorem Bs.keep {M M':Mem}{v:Value}{l:List UInt8}(h:Bs M v l)(hb:∀ b,(∃ n c,v = .slice (some ⟨b,0,none⟩) n c)->M b≠none->M' b=M b):Bs M' v l:=by
 rcases h with h|⟨b,cs,rfl,h1,h2⟩
 ·exact .inl h
 ·exact .inr ⟨b,cs,rfl,by rw [hb b ⟨_,_,rfl⟩ (by rw [h1];exact fun h=>by cases h)];exact h1,h2⟩
theorem Bs.len {M:Mem}{v:Value}{l:List UInt8}(h:Bs M v l):∃ base c,v = .slice base l.length c:=by
 rcases h with ⟨base,rfl,-,rfl⟩|⟨b,cs,rfl,-,-⟩
 ·exact⟨base,0,rfl⟩
 ·exact⟨_,_,rfl⟩
theorem Bs.le {M:Mem}{b n c:Nat}{cs l:List UInt8}(h:cs.take l.length=l):l.length<=cs.length:=by
 have:=congrArg List.length h;rw [List.length_take] at this;omega
section
variable {P:Program}{tkr:Nat->Option Nat}{ops:Array Oper}{K:St->Prop}{i:Nat}{rest:List Oper}{d:Nat}{dst:Option Nat}{T:Nat->AVal}{M:Mem}{ty st e xt:TypeId}{pos:String}{af:Array Edge}{x y z:Operand}{ats:Array TypeId}{g:Option (Nat×Bool)}
def SrcB (P:Program)(ats:Array TypeId)(M:Mem)(Y:AVal)(m:List UInt8):Prop:=∃ Y',srcM M Y=some Y'/\∀ l:List UInt8,l.length+m.length<=2^47->aAppend P ats (.sl (l.map u8) true) Y'=some (l.map u8++m.map u8)
theorem els_u8 {l:List UInt8}:Els 1 (l.map u8):=Els.map fun _=>⟨rfl,rfl⟩
theorem srcb_str {s:ByteArray}(ht:SlT P st e 1 1)(h0:ats[0]? = some st)(h1:ats[1]? = some xt)(hx:P.underlying xt=some .string)(hy:ev T y = .raw (.string s)):SrcB P ats M (ev T y) s.data.toList:=by
 refine⟨.raw (.string s),by rw [hy];rfl,fun l hl=>?_⟩;obtain⟨z,hz,hzs⟩:=ht.zs;have hsp:spread (.raw (.string s))=some (s.data.toList.map u8):=rfl;have e1:((l.map u8).all fun V=>V.cells.length == 1)=true:=List.all_eq_true.2 fun V hV=>by simp [(els_u8 V hV).2]
 have e2:((s.data.toList.map u8).all fun V=>V.ok && V.cells.length == 1)=true:=List.all_eq_true.2 fun V hV=>by simp [(els_u8 V hV).1,(els_u8 V hV).2]
 simp only [aAppend,h0,h1,ht.u,hx,isRow,ht.s,ht.b,hz,hsp,hzs,e1,e2];rw [if_neg (by decide),if_pos ⟨trivial,by decide,by simpa using hl,trivial,trivial⟩]
theorem o_appb {v:Value}{l m:List UInt8}{M0:Mem}(ht:SlT P st e 1 1)(h0:ats[0]? = some st)(hz:zeroCellsT P e=some [u8 0])(hx:ev T x = .raw v)(hB:Bs M v l)(hle:M0.le M)(hfr:∀ b,(∃ n c,v = .slice (some ⟨b,0,none⟩) n c/\M b≠none/\c≠0)->M0 b=none)(hy:SrcB P ats M (ev T y) m)(hlen:l.length+m.length<=2^47)
 (k:∀ v' M',Bs M' v' (l++m)->M0.le M'->(∀ b,(∃ n c,v' = .slice (some ⟨b,0,none⟩) n c/\M' b≠none/\c≠0)->M0 b=none)->aOps P tkr ops K (i+1) rest ⟨setT T d (.raw v'),M'⟩) :
 aOps P tkr ops K i (mkO (some d) (.call { callee:=.builtin .append,args:=#[x,y],argTypes:=ats }) ty pos af none::rest) ⟨T,M⟩:=by
 obtain⟨Y',hY,happ⟩:=hy;have hleU:∀ {b:Nat} {o:AObj},M0 b=none->M0.le (M.upd b o):=fun {b o} hb c o' hc=>(Mem.upd_ne (fun e=>by rw [e,hb] at hc;cases hc) rfl).trans (hle c o' hc)
 have hnone:∀ {b:Nat},M b=none->M0 b=none:=fun {b} hb=>by
  cases h2:M0 b with
  | none=>rfl
  | some o=>rw [hle b o h2] at hb;cases hb
 have hmap:∀ l:List UInt8,(l.map u8).map AVal.shut=l.map u8:=fun l=>shut_map (f:=u8) (fun a=>(u8_ok a).1) l
 rcases hB with ⟨base,rfl,hok,rfl⟩|⟨b,cs,rfl,hb,htk⟩
 ·refine o_xs rfl (.inr ⟨rfl,.inl ⟨Y',st,e,u8 0,hY,h0,ht.u,hz,rfl,.inl ⟨.inr ⟨base,hx,hok⟩,m.map u8,(fun X hX=>?_),?_,fun base' c M1 k1 k2=>?_⟩⟩⟩)
  ·obtain⟨a,-,rfl⟩:=List.mem_map.1 hX;rfl
  ·have:=happ [] (by simpa using hlen);simpa using this
  ·by_cases hm:m=[]
   ·subst hm;obtain⟨rfl,rfl,hok'⟩:=k1 rfl;exact k _ _ (.inl ⟨base',rfl,hok',rfl⟩) hle fun b' ⟨n,c,e1,e2,e3⟩=>absurd (by cases e1;rfl) e3
   ·obtain⟨b',rfl,hb',hc,rfl⟩:=k2 (fun h=>hm (List.map_eq_nil_iff.1 h));rw [List.length_map] at hc ⊢;refine k _ _ (.inr ⟨b',m++List.replicate (c - m.length) 0,?_,?_,?_⟩) (hleU (hnone hb')) fun b2 ⟨n,c',e1,e2,e3⟩=>?_
    ·simp only [List.nil_append,List.length_append,List.length_replicate];rw [show m.length+(c - m.length)=c by omega]
    ·exact (Mem.upd_self _ _ _).trans (by rw [hmap,List.map_append,List.map_replicate])
    ·simp
    ·cases e1;exact hnone hb'
 ·have hll:=Bs.le (M:=M) (b:=b) (n:=0) (c:=0) htk;have h0b:cs.length≠0->M0 b=none:=fun h=>hfr b ⟨_,_,rfl,by rw [hb];exact fun h=>(by cases h),h⟩
  refine o_xs rfl (.inr ⟨rfl,.inl ⟨Y',st,e,u8 0,hY,h0,ht.u,hz,rfl,.inr ⟨b,0,l.length,cs.length,hx,cs.map u8,m.map u8,hb,by simp,hll,?_,fun X hX=>?_,?_,fun hr=>?_,fun hr b' c' hb' hc'=>?_⟩⟩⟩)
  ·rw [List.drop_zero,← List.map_take,List.all_map,List.all_eq_true];exact fun a _=>rfl
  ·obtain⟨a,-,rfl⟩:=List.mem_map.1 hX;rfl
  ·rw [List.drop_zero,← List.map_take,htk,hmap];exact happ l hlen
  ·rw [List.length_map] at hr ⊢;by_cases hm:m=[]
   ·subst hm;have e1:splice (cs.map u8) (0+l.length) ((([]:List UInt8).map u8).map AVal.shut)=cs.map u8:=by simp [splice]
    rw [e1,Mem.upd_same hb];refine k _ _ (.inr ⟨b,cs,by simp,hb,by simpa using htk⟩) hle fun b2 ⟨n,c',e1,e2,e3⟩=>?_
    cases e1;exact h0b e3
   ·have hc0:cs.length≠0:=by
     have:m.length≠0:=fun h=>hm (List.eq_nil_of_length_eq_zero h)
     omega
    have e1:splice (cs.map u8) (0+l.length) ((m.map u8).map AVal.shut)=(l++m++cs.drop (l.length+m.length)).map u8:=by
     rw [hmap];simp only [splice,Nat.zero_add,List.length_map,List.map_append,← List.map_take,List.map_drop,htk]
    have hlen2:(l++m++cs.drop (l.length+m.length)).length=cs.length:=by simp;omega
    rw [e1];refine k _ _ (.inr ⟨b,l++m++cs.drop (l.length+m.length),by rw [hlen2,List.length_append],Mem.upd_self _ _ _,by rw [List.take_left]⟩) (hleU (h0b hc0)) fun b2 ⟨n,c',e1,e2,e3⟩=>?_
    cases e1;exact h0b hc0
  ·rw [List.length_map] at hr hc' ⊢;have e1:(((cs.map u8).drop 0).take l.length).map AVal.shut++(m.map u8).map AVal.shut++List.replicate (c' - (l.length+m.length)) (u8 0)=(l++m++List.replicate (c' - (l.length+m.length)) 0).map u8:=by
    rw [List.drop_zero,← List.map_take,htk,hmap,hmap,List.map_append,List.map_append,List.map_replicate]
   rw [e1];refine k _ _ (.inr ⟨b',l++m++List.replicate (c' - (l.length+m.length)) 0,?_,Mem.upd_self _ _ _,by rw [List.take_left]⟩) (hleU (hnone hb')) fun b2 ⟨n,c',e1,e2,e3⟩=>?_
   ·simp only [List.length_append,List.length_replicate];rw [show l.length+m.length+(c' - (l.length+m.length))=c' by omega]
   ·cases e1;exact hnone hb'
theorem aStr_u8 (l:List UInt8):aStr (l.map u8)=some (.raw (.string ⟨l.toArray⟩)):=by
 unfold aStr;have:(l.map u8).mapM u8of=some l:=mapM_u8l l;rw [this];rfl
theorem o_b2sB {s' d' e5:TypeId}{v:Value}{l:List UInt8}(hu:P.underlying s'=some (.slice e5))(hd:P.underlying d'=some .string)(he:P.underlying e5=some (.int .u8))(hb:b2s P s' d'=true)(hx:ev T x = .raw v)(hB:Bs M v l)(htk:tkr i=none)
 (h:aOps P tkr ops K (i+1) rest ⟨setT T d (.raw (.string ⟨l.toArray⟩)),M⟩):aOps P tkr ops K i (mkO (some d) (.convert s' d' x) ty pos af none::rest) ⟨T,M⟩:=by
 rcases hB with ⟨base,rfl,hok,rfl⟩|⟨b,cs,rfl,h1,h2⟩
 ·refine o_xs rfl (.inl fun ρ w g1 g2 _=>.inl ⟨.string ⟨#[]⟩,_,?_,Fixed.raw _,h⟩);have e1:ρ x = .slice base 0 0:=g1 x (by simp [Op.operands]) _ (by rw [hx];rfl);refine run_val (s:=convert s' d' (ρ x)) ?_;rw [e1];show ((underlying s') >>= _).run P w=_
  rw [run_bind_pr (pr_underlying hu)];show ((underlying d') >>= _).run P w=_
  rw [run_bind_pr (pr_underlying hd)];rcases hok with rfl|⟨b,off,rfl⟩
  ·show ((underlying e5) >>= _).run P w=_
   rw [run_bind_pr (pr_underlying he)];rfl
  ·show ((underlying e5) >>= _).run P w=_
   rw [run_bind_pr (pr_underlying he)];rfl
 ·have hle:=Bs.le (M:=M) (b:=b) (n:=0) (c:=0) h2;refine o_q (q_b2s (o:=0) hb hx h1 (by simpa using hle) (W:=.raw (.string ⟨l.toArray⟩)) ?_ rfl) rfl rfl htk h;rw [List.drop_zero,← List.map_take,h2];exact aStr_u8 l
theorem q_slstr {t:TypeId}{s:ByteArray}{n:Nat}{hi:Option Operand}{k':IntKind}(hu:P.underlying t=some .string)(hx:ev T x = .raw (.string s))(hhi:(hi.mapM fun x=>rawOf (ev T x))=some (some (.int k' n)))(hn:n<=s.size) :
 qstep P none (mkO dst (.slice t x none hi none) ty pos af g) T M=some (⟨none,.raw (.string (s.extract 0 n))⟩,[]):=by
 have hsb:pr P (Instr.sliceBounds false s.size s.size none (some (.int k' n)) none)=some (0,n,s.size):=by
  simp only [Instr.sliceBounds,pr_bind',pr_pure,Option.bind_some,pr_sliceBound (Int.natCast_nonneg n) (show (n:Int).toNat<=s.size by omega),Int.toNat_natCast]
 have e1:pr P (Instr.sliceAt t (.string s) none (some (.int k' n)) none)=some (.string (s.extract 0 n)):=by
  unfold Instr.sliceAt;rw [pr_b,pr_underlying hu];show pr P (Instr.slice t (.string s) none (some (.int k' n)) none)=_
  unfold Instr.slice;rw [pr_b,pr_underlying hu];show pr P (Instr.sliceBounds false s.size s.size none (some (.int k' n)) none >>= _)=_
  rw [pr_b,hsb];rfl
 have hlo:((none:Option Operand).mapM fun x=>rawOf (ev T x))=some none:=rfl;have e2:aop P T M ty (.slice t x none hi none)=some (.raw (.string (s.extract 0 n))):=by
  simp only [aop,aSlice,hx,hlo,hhi,e1];rfl
 simp only [qstep,e2,Option.map_some,readsOf,AVal.shut,AVal.shut1]
end
end Go.Am
namespace Go.Am
set_option linter.unusedVariables false
set_option linter.unusedSimpArgs false
end Go.Am
namespace Go.Am
set_option linter.unusedVariables false
set_option linter.unusedSimpArgs false
section
variable {P:Program}{T:Nat->AVal}{M:Mem}{dst:Option Nat}{x y:Operand}{ty:TypeId}{pos:String}{af:Array Edge}{g:Option (Nat×Bool)}
theorem q_sadd {u u':ByteArray}{ty₁ ty':TypeId}(hx:ev T x = .raw (.string u))(hy:ev T y = .raw (.string u'))(h:u.size+u'.size<=2^62):qstep P none (mkO dst (.binOp .add ty₁ x y ty') ty pos af g) T M=some (⟨none,.raw (.string (u++u'))⟩,[]):=by
 refine q_bin' hx hy ?_;have hm:IntKind.i64.max=9223372036854775807:=rfl;show (pr P (if ((u.size+u'.size:Nat):Int) > IntKind.i64.max then _ else pure (.string (u++u')))).map AVal.raw=_
 rw [if_neg (by omega)];rfl
end
end Go.Am
namespace Go.Am
set_option linter.unusedVariables false
set_option linter.unusedSimpArgs false
end Go.Am
namespace Go.Am
set_option linter.unusedVariables false
set_option linter.unusedSimpArgs false
set_option linter.unusedSectionVars false
section
variable {P:Program}{tkr:Nat->Option Nat}{ops:Array Oper}{K:St->Prop}{i:Nat}{rest:List Oper}{d:Nat}{dst:Option Nat}{T:Nat->AVal}{M:Mem}{ty st e xt:TypeId}{pos:String}{af:Array Edge}{x y z:Operand}{ats:Array TypeId}{g:Option (Nat×Bool)}
 {β:Type} {f:β->AVal} {z0:β}
end
end Go.Am
