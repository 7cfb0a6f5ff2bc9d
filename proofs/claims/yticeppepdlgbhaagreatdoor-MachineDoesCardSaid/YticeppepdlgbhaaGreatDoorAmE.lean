import Derived.Test.YticeppepdlgbhaaGreatDoorAmD
namespace Go.Am
set_option linter.unusedVariables false
set_option linter.unusedSimpArgs false
set_option linter.unusedSectionVars false
section
variable {P:Program}{tkr:Nat->Option Nat}{ops:Array Oper}{K:St->Prop}{i:Nat}{rest:List Oper}{d:Nat}{T:Nat->AVal}{M:Mem}{ty mt kt et:TypeId}{pos:String}{af:Array Edge}{x y z:Operand}{ats:Array TypeId}
 {α:Type} [DecidableEq α] {ek:α->Value} {r clk:Nat} {l:List (En α)} {k:α}
theorem x_lookup2 {zv:Value}(hu:P.underlying mt=some (.map kt et))(hk:KeyT P kt ek)(hz:zeroT P et=some zv)(hm:ev T x = .raw (.map (some r)))(hy:rawOf (ev T y)=some (ek k))(hM:M r=some (.it (.map (entsX ek l) clk)))
 (h:aOps P tkr ops K (i+1) rest ⟨setT T d (.tup [.raw (((enGet l k).map En.v).getD zv),.raw (.bool (enGet l k).isSome)]),M⟩):aOps P tkr ops K i (mkO (some d) (.lookup mt x y true) ty pos af none::rest) ⟨T,M⟩:=by
 refine o_xs rfl (.inl fun ρ w h1 h2 _=>.inl ⟨.tuple #[((enGet l k).map En.v).getD zv,.bool (enGet l k).isSome],_,?_,Fixed.tup rfl (fun i X x g1 g2=>?_),h⟩)
 ·have e1:ρ x = .map (some r):=h1 x (by simp [Op.operands]) _ (by rw [hm];rfl);have e2:ρ y=ek k:=h1 y (by simp [Op.operands]) _ hy;refine run_val (s:=Instr.lookup mt (ρ x) (ρ y) true) ?_;rw [e1,e2];show ((underlying mt) >>= _).run P w=_
  rw [run_bind_pr (pr_underlying hu)];show ((getObj r) >>= _).run P w=_
  rw [run_getObj (h2 r _ hM)];show ((Instr.checkKey (entsX ek l).isEmpty 10000 kt (ek k)) >>= _).run P w=_
  rw [run_bind_pr (hk.check _ _)];show ((Instr.findKey kt (ek k) (entsX ek l).toList) >>= _).run P w=_
  have hf:=enX_find (P:=P) (kt:=kt) (ek:=ek) (l:=l) (k:=k) hk;cases hi:enIdx l k with
  | none =>
   rw [hi] at hf;rw [run_bind_pr hf,enIdx_none hi];show ((zeroValue et) >>= _).run P w=_
   rw [run_bind_pr (pr_zeroT hz)];rfl
  | some j =>
   obtain⟨e,he,hek,hget⟩:=enIdx_some hi;rw [hi] at hf;rw [run_bind_pr hf,hget];simp only [Option.map_some,he,Option.getD_some];rfl
 ·match i,g1,g2 with
  | 0,g1,g2=>cases g1;cases g2;exact⟨Fixed.raw _,fun _ _ h=>by cases h⟩
  | 1,g1,g2=>cases g1;cases g2;exact⟨Fixed.raw _,fun _ _ h=>by cases h⟩
  | i+2,g1,_=>simp at g1
theorem x_maplen (h0:ats[0]? = some mt)(hu:P.underlying mt=some (.map kt et))(hm:ev T x = .raw (.map (some r)))(hM:M r=some (.it (.map (entsX ek l) clk)))
 (h:aOps P tkr ops K (i+1) rest ⟨setT T d (.raw (.int .i64 l.length)),M⟩):aOps P tkr ops K i (mkO (some d) (.call { callee:=.builtin .len,args:=#[x],argTypes:=ats }) ty pos af none::rest) ⟨T,M⟩:=by
 refine o_xs rfl (.inl fun ρ w h1 h2 _=>.inl ⟨.int .i64 l.length,_,?_,Fixed.raw _,h⟩);have e1:ρ x = .map (some r):=h1 x (by simp [Op.operands,Call.operands]) _ (by rw [hm];rfl);have hrun:(Builtin.len_ ats ty #[ρ x]).run P w = .ok (.int .i64 l.length) w:=by
  rw [e1];simp only [Builtin.len_,h0,List.getElem?_toArray,List.getElem?_cons_zero];show ((underlying mt) >>= _).run P w=_
  rw [run_bind_pr (pr_underlying hu)];show ((getObj r) >>= _).run P w=_
  rw [run_getObj (h2 r _ hM)];show Result.ok (goInt (entsX ek l).size) w=_
  have:(entsX ek l).size=l.length:=by simp [entsX]
  rw [this];rfl
 unfold execOp;show (do let v ← Builtin.len_ ats ty (#[x].map ρ);pure (Go.Next.value v)).run P w=_
 rw [show (#[x]:Array Operand).map ρ = #[ρ x] by simp];exact run_val hrun
end
section
variable {β:Type}
def gets (dir:List (ByteArray×β))(k:ByteArray):Option β:=(dir.find? fun p=>p.1=k).map (·.2)
def ins (dir:List (ByteArray×β))(k:ByteArray)(v:β):List (ByteArray×β) :=
 match dir.findIdx? (fun p=>p.1=k) with
 | some j=>dir.set j (k,v)
 | none=>dir++[(k,v)]
def pairE (e:En ByteArray):ByteArray×Value:=(e.k,e.v)
structure MapIs (g:β->Value)(M:Mem)(r clk:Nat)(lf:List (En ByteArray))(dir:List (ByteArray×β)):Prop where
 hM:M r=some (.it (.map (entsX Value.string lf) clk))
 hl:lf.map pairE=dir.map fun p=>(p.1,g p.2)
 st:∀ e∈lf,e.s<clk
 sn:(lf.map En.s).Nodup
 nd:(dir.map (·.1)).Nodup
def MapAt (g:β->Value)(M:Mem)(r:Nat)(dir:List (ByteArray×β)):Prop:=∃ clk lf,MapIs g M r clk lf dir
variable {g:β->Value}{M M':Mem}{r clk:Nat}{lf:List (En ByteArray)}{dir:List (ByteArray×β)}{k:ByteArray}{v:β}
theorem MapAt.keep (h:MapAt g M r dir)(hr:M' r=M r):MapAt g M' r dir:=by
 obtain⟨clk,lf,h⟩:=h;exact⟨clk,lf,{ h with hM:=by rw [hr];exact h.hM }⟩
theorem MapAt.some (h:MapAt g M r dir):M r≠none:=by
 obtain⟨clk,lf,h⟩:=h;rw [h.hM];exact fun h=>by cases h
theorem MapIs.keys (h:MapIs g M r clk lf dir):lf.map En.k=dir.map (·.1):=by
 have:=congrArg (List.map Prod.fst) h.hl;simpa [List.map_map,Function.comp_def,pairE] using this
theorem MapIs.idx (h:MapIs g M r clk lf dir)(k:ByteArray):enIdx lf k=dir.findIdx? fun p=>p.1=k:=by
 have e1:enIdx lf k=(lf.map pairE).findIdx? fun p=>p.1=k:=by rw [List.findIdx?_map];rfl
 rw [e1,h.hl,List.findIdx?_map];rfl
theorem MapIs.get (h:MapIs g M r clk lf dir)(k:ByteArray):(enGet lf k).map En.v=(gets dir k).map g:=by
 have e1:(enGet lf k).map pairE=(lf.map pairE).find? fun p=>p.1=k:=by rw [List.find?_map];rfl
 have e2:(enGet lf k).map En.v=((enGet lf k).map pairE).map Prod.snd:=by rw [Option.map_map];rfl
 rw [e2,e1,h.hl,List.find?_map,Option.map_map];unfold gets;rw [Option.map_map];rfl
theorem MapIs.len (h:MapIs g M r clk lf dir):lf.length=dir.length:=by
 have:=congrArg List.length h.hl;simpa using this
theorem nodup_set {l:List (ByteArray×β)}{j:Nat}{k:ByteArray}{v:β}(hj:l.findIdx? (fun p=>p.1=k)=some j):(l.set j (k,v)).map (·.1)=l.map (·.1):=by
 obtain⟨hlt,hp,-⟩:=List.findIdx?_eq_some_iff_getElem.1 hj;have hp':l[j].1=k:=by simpa using hp
 rw [List.map_set];exact set_self (by rw [List.getElem?_map,List.getElem?_eq_getElem hlt];simp [hp'])
theorem idx_no {l:List (ByteArray×β)}{k:ByteArray}(hj:l.findIdx? (fun p=>p.1=k)=none):∀ p∈l,p.1≠k:=fun p hp=>by
 have:=List.findIdx?_eq_none_iff.1 hj p hp;simpa using this
theorem ins_nd (h:(dir.map (·.1)).Nodup)(k:ByteArray)(v:β):((ins dir k v).map (·.1)).Nodup:=by
 unfold ins;cases hj:dir.findIdx? (fun p=>p.1=k) with
 | some j=>dsimp only;rw [nodup_set hj];exact h
 | none =>
  dsimp only;rw [List.map_append,List.nodup_append];refine⟨h,by simp,fun a ha b hb=>?_⟩;obtain⟨p,hp,rfl⟩:=List.mem_map.1 ha;rw [List.mem_singleton.1 hb];exact idx_no hj p hp
end
section
variable {P:Program}{tkr:Nat->Option Nat}{ops:Array Oper}{K:St->Prop}{i:Nat}{rest:List Oper}{d:Nat}{T:Nat->AVal}{M:Mem}{ty mt kt et:TypeId}{pos:String}{af:Array Edge}{x y z:Operand}{ats:Array TypeId}
 {β:Type} {g:β->Value} {r:Nat} {dir:List (ByteArray×β)} {k:ByteArray} {v:β}
theorem m_get {zv:Value}(hu:P.underlying mt=some (.map kt et))(hk:KeyT P kt Value.string)(hz:zeroT P et=some zv)(hm:ev T x = .raw (.map (some r)))(hy:rawOf (ev T y)=some (.string k))(hM:MapAt g M r dir)
 (h:aOps P tkr ops K (i+1) rest ⟨setT T d (.raw (((gets dir k).map g).getD zv)),M⟩):aOps P tkr ops K i (mkO (some d) (.lookup mt x y false) ty pos af none::rest) ⟨T,M⟩:=by
 obtain⟨clk,lf,hM⟩:=hM;refine x_lookup (k:=k) hu hk hz hm hy hM.hM ?_;rw [hM.get];exact h
theorem m_get2 {zv:Value}(hu:P.underlying mt=some (.map kt et))(hk:KeyT P kt Value.string)(hz:zeroT P et=some zv)(hm:ev T x = .raw (.map (some r)))(hy:rawOf (ev T y)=some (.string k))(hM:MapAt g M r dir)
 (h:aOps P tkr ops K (i+1) rest ⟨setT T d (.tup [.raw (((gets dir k).map g).getD zv),.raw (.bool (gets dir k).isSome)]),M⟩):aOps P tkr ops K i (mkO (some d) (.lookup mt x y true) ty pos af none::rest) ⟨T,M⟩:=by
 obtain⟨clk,lf,hM⟩:=hM;refine x_lookup2 (k:=k) hu hk hz hm hy hM.hM ?_;have:(enGet lf k).isSome=(gets dir k).isSome:=by
  have:=congrArg Option.isSome (hM.get k);simpa using this
 rw [hM.get,this];exact h
theorem m_len (h0:ats[0]? = some mt)(hu:P.underlying mt=some (.map kt et))(hm:ev T x = .raw (.map (some r)))(hM:MapAt g M r dir)
 (h:aOps P tkr ops K (i+1) rest ⟨setT T d (.raw (.int .i64 dir.length)),M⟩):aOps P tkr ops K i (mkO (some d) (.call { callee:=.builtin .len,args:=#[x],argTypes:=ats }) ty pos af none::rest) ⟨T,M⟩:=by
 obtain⟨clk,lf,hM⟩:=hM;refine x_maplen h0 hu hm hM.hM ?_;rw [hM.len];exact h
theorem m_put (hu:P.underlying mt=some (.map kt et))(hk:KeyT P kt Value.string)(hm:ev T x = .raw (.map (some r)))(hy:rawOf (ev T y)=some (.string k))(hv:rawOf (ev T z)=some (g v))(hM:MapAt g M r dir)
 (h:∀ o,MapAt g (M.upd r o) r (ins dir k v)->aOps P tkr ops K (i+1) rest ⟨T,M.upd r o⟩):aOps P tkr ops K i (mkO none (.mapUpdate mt x y z) ty pos af none::rest) ⟨T,M⟩:=by
 obtain⟨clk,lf,hM⟩:=hM;have hidx:=hM.idx k;cases hj:enIdx lf k with
 | some j =>
  obtain⟨e,he,hek,-⟩:=enIdx_some hj;rw [hj] at hidx;refine x_updOld (k:=k) hu hk hm hy hv hM.hM hj he (h _ ⟨clk,lf.set j ⟨e.k,g v,e.s⟩,Mem.upd_self _ _ _,?_,fun e' he'=>?_,?_,ins_nd hM.nd k v⟩)
  ·unfold ins;rw [← hidx];dsimp only;rw [List.map_set,List.map_set,hM.hl,hek];rfl
  ·rcases List.mem_or_eq_of_mem_set he' with h|h
   ·exact hM.st e' h
   ·rw [h];exact hM.st e (List.mem_of_getElem? he)
  ·rw [List.map_set];rw [show (lf.map En.s).set j (⟨e.k,g v,e.s⟩ : En ByteArray).s=lf.map En.s from set_self (by rw [List.getElem?_map,he];rfl)];exact hM.sn
 | none =>
  rw [hj] at hidx;refine x_updNew (k:=k) hu hk hm hy hv hM.hM hj (h _ ⟨clk+1,lf++[⟨k,g v,clk⟩],Mem.upd_self _ _ _,?_,fun e' he'=>?_,?_,ins_nd hM.nd k v⟩)
  ·unfold ins;rw [← hidx];dsimp only;rw [List.map_append,List.map_append,hM.hl];rfl
  ·rcases List.mem_append.1 he' with h|h
   ·have:=hM.st e' h;omega
   ·rw [List.mem_singleton.1 h];show clk<clk+1;omega
  ·rw [List.map_append,List.nodup_append];refine⟨hM.sn,by simp,fun a ha b hb=>?_⟩;obtain⟨e,he,rfl⟩:=List.mem_map.1 ha;rw [List.mem_singleton.1 hb];have:=hM.st e he;show e.s≠clk
   omega
theorem m_make (h:∀ b o,M b=none->MapAt g (M.upd b o) b ([]:List (ByteArray×β))->aOps P tkr ops K (i+1) rest ⟨setT T d (.raw (.map (some b))),M.upd b o⟩):aOps P tkr ops K i (mkO (some d) (.makeMap mt none) ty pos af none::rest) ⟨T,M⟩ :=
 x_makeMap (ek:=Value.string) fun b hb=>h b _ hb ⟨0,[],Mem.upd_self _ _ _,rfl,(fun e he=>by cases he),List.nodup_nil,List.nodup_nil⟩
end
end Go.Am
namespace Go.Am
set_option linter.unusedVariables false
set_option linter.unusedSimpArgs false
set_option linter.unusedSectionVars false
section
variable {P:Program}{tkr:Nat->Option Nat}{ops:Array Oper}{K:St->Prop}{i:Nat}{rest:List Oper}{d:Nat}{dst:Option Nat}{T:Nat->AVal}{M:Mem}{ty st e xt:TypeId}{pos:String}{af:Array Edge}{x y z:Operand}{ats:Array TypeId}{g:Option (Nat×Bool)}
theorem q_slstr {t:TypeId}{s:ByteArray}{n:Nat}{hi:Option Operand}{k':IntKind}(hu:P.underlying t=some .string)(hx:ev T x = .raw (.string s))(hhi:(hi.mapM fun x=>rawOf (ev T x))=some (some (.int k' n)))(hn:n<=s.size) :
 qstep P none (mkO dst (.slice t x none hi none) ty pos af g) T M=some (⟨none,.raw (.string (s.extract 0 n))⟩,[]):=by
 have hsb:pr P (Instr.sliceBounds false s.size s.size none (some (.int k' n)) none)=some (0,n,s.size):=by
  simp only [Instr.sliceBounds,pr_bind',pr_pure,Option.bind_some,pr_sliceBound (Int.natCast_nonneg n) (show (n:Int).toNat<=s.size by omega),Int.toNat_natCast]
 have e1:pr P (Instr.sliceAt t (.string s) none (some (.int k' n)) none)=some (.string (s.extract 0 n)):=by
  unfold Instr.sliceAt;rw [pr_b,pr_underlying hu];show pr P (Instr.slice t (.string s) none (some (.int k' n)) none)=_
  unfold Instr.slice;rw [pr_b,pr_underlying hu];show pr P (Instr.sliceBounds false s.size s.size none (some (.int k' n)) none >>= _)=_
  rw [pr_b,hsb];rfl
 have hlo:((none:Option Operand).mapM fun x=>rawOf (ev T x))=some none:=rfl;have e2:aop P T M ty (.slice t x none hi none)=some (.raw (.string (s.extract 0 n))):=by
  simp only [aop,aSlice,hx,hlo,hhi,e1];rfl
 simp only [qstep,e2,Option.map_some,readsOf,AVal.shut,AVal.shut1]
end
end Go.Am
namespace Go.Am
set_option linter.unusedVariables false
set_option linter.unusedSimpArgs false
section
variable {P:Program}{κ:Ghost}{w:World}{T:Nat->AVal}{V:Nat->Value}{M:Mem}{b j:Nat}{l:List AVal}
theorem Holds.nilcell (h:Holds P κ T V M w)(hM:M b=some (.cells l))(hl:l[j]? = some (.raw (.slice none 0 0))):Holds P κ T V (M.upd b (.cells (l.set j (.sl [] true)))) w:=by
 obtain⟨c,e,fr,h1,h2,h3,h4⟩:=h.obj b _ hM;refine h.know ⟨c,e,fr,h1,by rw [List.length_set];exact h2,h3,fun q X x g1 g2=>?_⟩ fun x=>?_
 ·rw [List.getElem?_set] at g1;split at g1
  ·rename_i e1;subst e1;split at g1
   ·obtain rfl:=Option.some.inj g1;have h5:=h4 j _ x hl g2;have h6:x = .slice none 0 0:=rep_raw h5.1;subst h6;refine⟨.nil true,h5.2.1,fun b' o' hsp=>?_⟩;rcases hsp with ⟨l',o1,c1,k1,k2,-⟩|⟨Vs,vs',i,X,x,k1,-⟩
    ·cases k2
    ·cases k1
   ·cases g1
  ·exact h4 q X x g1 g2
 ·exact h.free_of hM x
variable {f:FuncId}{args:List AVal}{Post Post':AVal->Mem->Prop}
theorem SoundCall.nilout (h:SoundCall P f args M Post)(hp:∀ r M',Post r M'->Post' r M'\/∃ b l j,M' b=some (.cells l)/\l[j]? = some (.raw (.slice none 0 0))/\Post' r (M'.upd b (.cells (l.set j (.sl [] true))))):SoundCall P f args M Post':=fun κ w vs hs hh=>(h κ w vs hs hh).mono fun _ _ ⟨v,κ',r,M',e,hq,hH,hK⟩=>by
 rcases hp r M' hq with h1|⟨b,l,j,hM,hl,h1⟩
 ·exact⟨v,κ',r,M',e,h1,hH,hK⟩
 ·exact⟨v,κ',r,_,e,h1,hH.nilcell hM hl,hK⟩
end
end Go.Am
namespace Go.Am
set_option linter.unusedVariables false
set_option linter.unusedSimpArgs false
section
variable {P:Program}{T:Nat->AVal}{M:Mem}{dst:Option Nat}{x y:Operand}{ty:TypeId}{pos:String}{af:Array Edge}{g:Option (Nat×Bool)}
theorem q_sadd {u u':ByteArray}{ty₁ ty':TypeId}(hx:ev T x = .raw (.string u))(hy:ev T y = .raw (.string u'))(h:u.size+u'.size<=2^62):qstep P none (mkO dst (.binOp .add ty₁ x y ty') ty pos af g) T M=some (⟨none,.raw (.string (u++u'))⟩,[]):=by
 refine q_bin' hx hy ?_;have hm:IntKind.i64.max=9223372036854775807:=rfl;show (pr P (if ((u.size+u'.size:Nat):Int) > IntKind.i64.max then _ else pure (.string (u++u')))).map AVal.raw=_
 rw [if_neg (by omega)];rfl
theorem bytesLess_eq:∀ (a b:List UInt8),Op.bytesLess a b=decide (a<b)
 | _,[]=>by simp [Op.bytesLess]
 | [],_::_=>by simp [Op.bytesLess]
 | a::x,b::y=>by
  rw [Op.bytesLess,bytesLess_eq x y];by_cases h:a<b
  ·simp [h,List.cons_lt_cons_iff]
  ·by_cases e:a=b
   ·subst e;simp [List.cons_lt_cons_iff]
   ·simp [h,e,List.cons_lt_cons_iff]
theorem q_slss {u u':ByteArray}{ty₁ ty':TypeId}(hx:ev T x = .raw (.string u))(hy:ev T y = .raw (.string u')):qstep P none (mkO dst (.binOp .lss ty₁ x y ty') ty pos af g) T M=some (⟨none,.raw (.bool (decide (u.data.toList<u'.data.toList)))⟩,[]):=by
 rw [← bytesLess_eq];rw [← ByteArray.toList_eq,← ByteArray.toList_eq];exact q_bin' hx hy rfl
end
end Go.Am
namespace Go.Am
set_option linter.unusedVariables false
set_option linter.unusedSimpArgs false
section
variable {P:Program}{κ:Ghost}{w:World}{T:Nat->AVal}{V:Nat->Value}{M:Mem}{b:Nat}{l:List AVal}
def Mem.del (M:Mem)(b:Nat):Mem:=fun c=>if c=b then none else M c
theorem Mem.del_ne {M:Mem}{b c:Nat}(h:c≠b):M.del b c=M c:=if_neg h
theorem Mem.del_self (M:Mem)(b:Nat):M.del b b=none:=if_pos rfl
def freezeG (κ:Ghost)(b:Nat):Ghost:=fun c o=>if c=b then .imm else κ c o
theorem Holds.freeze (h:Holds P κ T V M w)(hM:M b=some (.cells l)):Holds P (freezeG κ b) T V (M.del b) w:=by
 have ht:∀ o,κ b o = .free:=fun o=>h.free_of hM o
 have hi:∀ c o,κ c o = .imm->freezeG κ b c o = .imm:=fun c o h1=>by
  unfold freezeG;split
  ·rfl
  ·exact h1
 have hne:∀ c o x,κ c o=x->x ≠ .free->freezeG κ b c o=x/\c≠b:=fun c o x h1 h2=>by
  have e:c≠b:=fun e=>h2 (by rw [← h1,e,ht])
  exact⟨by unfold freezeG;rw [if_neg e];exact h1,e⟩
 have hns:∀ c o x,freezeG κ b c o=x->x ≠ .imm->κ c o=x:=fun c o x h1 h2=>by
  unfold freezeG at h1;split at h1
  ·exact absurd h1.symm h2
  ·exact h1
 obtain⟨cs,e,fr,h1,h2,h3,h4⟩:=h.obj b _ hM;refine⟨fun t=>(h.tmp t).keep (fun b o hb=>⟨hi b o hb,rfl⟩) (fun _ _=>rfl) (Nat.le_refl _),fun c o hc=>?_,fun c o hc=>?_,fun t c o hs=>(hne c o _ (h.sp t c o hs) (by simp)).1,fun c o t hc=>h.wr c o t (hns c o _ hc (by simp)),fun c o d j hc=>h.mwr c o d j (hns c o _ hc (by simp))⟩
 ·have hcb:c≠b:=fun e=>by rw [e,Mem.del_self] at hc;cases hc
  rw [Mem.del_ne hcb] at hc;exact (h.obj c o hc).tags hi fun b' o' j h5=>(hne b' o' _ h5 (by simp)).1
 ·by_cases hcb:c=b
  ·subst hcb;refine⟨?_,by rw [Mem.del_self];exact .none _⟩;rcases Nat.lt_or_ge c w.heap.size with hlt|hge
   ·exact hlt
   ·rw [Array.getElem?_eq_none hge] at h1;cases h1
  ·unfold freezeG at hc;rw [if_neg hcb] at hc;exact⟨(h.tag c o hc).1,by rw [Mem.del_ne hcb];exact (h.tag c o hc).2.to (hi c o)⟩
theorem flat_unit:∀ {l:List AVal},(∀ X∈l,X.cells=[X])->flat l=l
 | [],_=>rfl
 | X::l,h=>by
  have ih:=flat_unit (l:=l) fun Y hY=>h Y (by simp [hY])
  unfold flat at ih ⊢;rw [List.flatMap_cons,h X (by simp),ih];rfl
variable {f:FuncId}{a1 a2:List AVal}{Post:AVal->Mem->Prop}
end
end Go.Am
namespace Go.Am
set_option linter.unusedVariables false
set_option linter.unusedSimpArgs false
set_option linter.unusedSectionVars false
section
variable {P:Program}{tkr:Nat->Option Nat}{ops:Array Oper}{K:St->Prop}{i:Nat}{rest:List Oper}{d:Nat}{dst:Option Nat}{T:Nat->AVal}{M:Mem}{ty st e xt:TypeId}{pos:String}{af:Array Edge}{x y z:Operand}{ats:Array TypeId}{g:Option (Nat×Bool)}
 {β:Type} {f:β->AVal} {z0:β}
end
end Go.Am
