import Derived.Test.YthmhdhmfkegpiaaGreatDoorAmC
import Derived.SizedLaws
import Derived.Below
import Derived.Laws.AppendOwn
import Derived.Sort.KeysCollected
import Derived.Maps.Range
namespace Go.Am
end Go.Am
namespace Go.Am
set_option linter.unusedSimpArgs false
set_option linter.unusedVariables false
set_option linter.unusedSectionVars false
section
variable {P:Program}{dst:Option Nat}{T:Nat->AVal}{M:Mem}{ty t:TypeId}{pos:String}{af:Array Edge}{x y:Operand}{g:Option (Nat×Bool)}{k:IntKind}
theorem pr_boundsHi {n m:Nat}(h:m<=n):pr P (Instr.sliceBounds false n n none (some (.int k m)) none)=some (0,m,n):=by
 simp only [Instr.sliceBounds,pr_bind',pr_pure,Option.bind_some,pr_sliceBound (Int.natCast_nonneg m) (show (m:Int).toNat<=n by omega),Int.toNat_natCast]
theorem q_slarr {n m sz b off:Nat}{e:TypeId}(hu:P.underlying t=some (.array n e))(hs:sizeT P e=some sz)(hx:ev T x = .raw (.pointer (some ⟨b,off,none⟩)))(hy:ev T y = .raw (.int k (m:Int)))(h:m<=n) :
 qstep P none (mkO dst (.slice t x none (some y) none) ty pos af g) T M=some (⟨none,.raw (.slice (some ⟨b,off,none⟩) m n)⟩,[]):=by
 have e1:pr P (Instr.sliceAt t (.pointer (some ⟨b,off,none⟩)) none (some (.int k m)) none)=some (.slice (some ⟨b,off,none⟩) m n):=by
  unfold Instr.sliceAt;rw [pr_b,pr_underlying hu];show pr P (Instr.sureAddr (.pointer (some ⟨b,off,none⟩)) >>= _)=_
  rw [pr_b];show pr P (Instr.sliceBounds false n n none (some (.int k m)) none >>= _)=_
  rw [pr_b,pr_boundsHi h];show pr P (sizeOf e >>= _)=_
  rw [pr_b,pr_sizeT hs];show some (Value.slice (some (if n=0 then (⟨b,off,none⟩ : Addr) else (⟨b,off,none⟩ : Addr).add (0*sz))) (m - 0) (n - 0))=_
  have:(⟨b,off,none⟩ : Addr).add (0*sz)=⟨b,off,none⟩:=by
   rw [Nat.zero_mul];rfl
  rw [this,ite_self];rfl
 have e2:aop P T M ty (.slice t x none (some y) none)=some (.raw (.slice (some ⟨b,off,none⟩) m n)):=by
  simp only [aop,aSlice,hx];show (match (some none:Option (Option Value)),(some y).mapM (fun x=>rawOf (ev T x)),(some none:Option (Option Value)) with|some a,some b,some m=>_ | _,_,_=>none)=_
  have:(some y).mapM (fun x=>rawOf (ev T x))=some (some (.int k m)):=by
   show (rawOf (ev T y)).map some=_
   rw [hy];rfl
  rw [this];show (pr P (Instr.sliceAt t (.pointer (some ⟨b,off,none⟩)) none (some (.int k m)) none)).map AVal.raw=_
  rw [e1];rfl
 simp only [qstep,e2,Option.map_some,readsOf,AVal.shut,AVal.shut1]
end
end Go.Am
set_option linter.unusedSimpArgs false
set_option linter.unusedVariables false
namespace Go.Am
section
variable {P:Program}{tk:Nat->Nat->Option Nat}{pl:Nat->List PStep}{ks:List It}{R:Exit->St->Prop}{S:St}{T:Nat->AVal}{M:Mem}
theorem s_regf {id:Nat}{l:List Oper}(k s off:Nat){o o':Oper}{rest:List Oper}(hl:l.drop k=o::o'::rest)(h:aOps P (tk id) l.toArray (aFuse P s off o o' (aOps P (tk id) l.toArray (unw P tk pl ks R .normal) (k+2) rest)) 0 (l.take k) S) :
 unw P tk pl (.code (.region id l.toArray false)::ks) R .normal S:=by
 refine⟨1,l.take k,o,o',rest,s,off,by rw [← hl,List.take_append_drop],?_⟩;have hk:k<=l.length:=by
  rcases Nat.lt_or_ge l.length k with h'|h'
  ·rw [List.drop_of_length_le (by omega)] at hl;cases hl
  ·exact h'
 have:0+(l.take k).length+2=k+2:=by rw [List.length_take];omega
 rw [this];exact h
theorem d_cm {rT:AVal}(b:Nat){tkr:Nat->Option Nat}{ops:Array Oper}{K:St->Prop}{i d:Nat}{plan:List PStep}{H:List (Nat×Nat)}{f:FuncId}{avs:List AVal}{args:Array Operand}{ats:Array TypeId}{ty:TypeId}{pos:String}{af:Array Edge}(ho:ops[i]? = some (mkO (some d) (.call { callee:=.value (.func f),args,argTypes:=ats }) ty pos af none))
 (hc:∀ M',M b=M' b->SoundCall P f avs M' fun r M''=>r=rT/\M''=M') (hg:goesB P f=true) (ha:aArgs T none 0 args.toList=avs) (htk:tkr i=none) (h:aDraw P tkr ops K plan ((i,b)::H) ⟨setT T d rT,M⟩) :
 aDraw P tkr ops K (.c i::plan) H ⟨T,M⟩:=by
 simp only [aDraw,ho,htk,aGuard];refine⟨⟨none,rT⟩,[b],quiet_call rfl rfl rfl hg fun M' hM=>?_,h⟩;subst ha;simpa using hc M' (hM b (by simp))
theorem agg_of_shut {V:AVal}{cs:List AVal}(h:V.shut = .agg cs):V = .agg cs:=by
 cases V<;>simp [AVal.shut,AVal.shut1] at h;rw [h]
theorem f_bb {s off d e:Nat}{t ty ty':TypeId}{pos pos':String}{af af':Array Edge}{parts:Array (Nat×Operand)}{xs cs:List AVal}{K:St->Prop}(hs:T s = .sl xs true)(hne:s≠d)
 (h1:qstep P none (mkO (some d) (.build t parts) ty pos af none) T M=some (⟨none,.agg cs⟩,[]))
 (h2:∀ v n c,∃ cv,qstep P none (mkO (some d) (.build t parts) ty pos af none) (setT T s (.raw (.slice v n c))) M=some (⟨none,.agg cv⟩,[])/\cv[off]? = some (.raw (.slice v n c)))
 (hok:(AVal.agg cs).ok=true) (hoff:off<cs.length) {cs':List AVal} (hcs:(cs.map AVal.shut).set off (.sl xs true)=cs')
 (h:∀ b,M b=none->K ⟨setT (setT (setT T d (.agg cs)) s (.sl xs false)) e (.raw (.pointer (some ⟨b,0,none⟩))),M.upd b (.cells cs')⟩) :
 aFuse P s off (mkO (some d) (.build t parts) ty pos af none) (mkO (some e) (.box t (.tmp d)) ty' pos' af' none) K ⟨T,M⟩:=by
 subst hcs;have key:∀ (T':Nat->AVal) (cv:List AVal),qstep P none (mkO (some d) (.build t parts) ty pos af none) T' M=some (⟨none,.agg cv⟩,[])->aop P T' M ty (.build t parts)=some (.agg cv):=fun T' cv hq=>by
  have:(aop P T' M ty (.build t parts)).map (fun V=>((⟨none,V.shut⟩,readsOf T' (.build t parts)):QEff×List Nat))=some (⟨none,.agg cv⟩,[]):=hq;obtain⟨V,hV,e1⟩:=Option.map_eq_some_iff.1 this;rw [hV,agg_of_shut (congrArg (fun x=>x.1.V) e1)]
 refine⟨t,parts,d,e,cs,xs,rfl,rfl,rfl,rfl,rfl,rfl,hne,hs,key T cs h1,hok,hoff,fun v n c=>?_,h⟩;obtain⟨cv,e1,e2⟩:=h2 v n c;exact⟨cv,key _ cv e1,e2⟩
end
end Go.Am
set_option linter.unusedSimpArgs false
namespace Go.Am
set_option linter.unusedVariables false
section
variable {P:Program}{tkr:Nat->Option Nat}{ops:Array Oper}{K:St->Prop}{i:Nat}{rest:List Oper}{d:Nat}{T:Nat->AVal}{M:Mem}{ty:TypeId}{pos:String}{af:Array Edge}{x y:Operand}{ats:Array TypeId}
 {α:Type} {f:α->AVal} {z0:α}
theorem shut_map (hf:∀ a,(f a).shut=f a)(l:List α):(l.map f).map AVal.shut=l.map f:=by
 rw [List.map_map];exact List.map_congr_left fun a _=>hf a
end
end Go.Am
namespace Go.Am
set_option linter.unusedVariables false
set_option linter.unusedSimpArgs false
set_option linter.unusedSectionVars false
structure En (α:Type) where
 k:α
 v:Value
 s:Nat
def entsX {α:Type}(ek:α->Value)(l:List (En α)):Array MapEntry:=(l.map fun e=>⟨ek e.k,e.v,e.s⟩).toArray
def enGet {α:Type}[DecidableEq α](l:List (En α))(k:α):Option (En α):=l.find? fun e=>e.k=k
def enIdx {α:Type}[DecidableEq α](l:List (En α))(k:α):Option Nat:=l.findIdx? fun e=>e.k=k
section
variable {P:Program}{tkr:Nat->Option Nat}{ops:Array Oper}{K:St->Prop}{i:Nat}{rest:List Oper}{d:Nat}{T:Nat->AVal}{M:Mem}{ty mt kt et:TypeId}{pos:String}{af:Array Edge}{x y z:Operand}{ats:Array TypeId}
 {α:Type} [DecidableEq α] {ek:α->Value} {r clk:Nat} {l:List (En α)} {k:α} {g:Option (Nat×Bool)}
theorem Fixed.raw (v:Value):Fixed P (.raw v) v:=⟨fun _ _=>.raw v,fun _ _ _=>Spare.not_raw⟩
theorem enX_find (hk:KeyT P kt ek):pr P (Instr.findKey kt (ek k) (entsX ek l).toList)=some ((enIdx l k).map fun j=>(j,((l[j]?).map (·.v)).getD undef)):=by
 have h1:=hk.find k (l.map (·.k));have h2:(l.map (·.k)).findIdx? (fun x=>decide (x=k))=enIdx l k:=by rw [List.findIdx?_map];rfl
 rw [h2] at h1;have hkeys:(entsX ek l).toList.map (·.key)=(l.map (·.k)).map ek:=by simp [entsX]
 obtain⟨a,b⟩:=keyAt_run h1 hkeys;cases hi:enIdx l k with
 | none=>exact a hi
 | some j =>
  obtain⟨e,he,hf⟩:=b j hi;rw [hf];simp only [entsX,List.getElem?_toArray,List.getElem?_map,Option.map_eq_some_iff] at he;obtain⟨e',he',rfl⟩:=he;simp [he']
theorem enIdx_get:(enIdx l k).bind (fun j=>l[j]?)=enGet l k:=by
 unfold enIdx enGet
 induction l with
 | nil=>rfl
 | cons a l ih =>
  rw [List.findIdx?_cons,List.find?_cons];by_cases h:a.k=k
  ·simp [h]
  ·simp only [h,decide_false,Bool.false_eq_true,if_false];rw [← ih];cases l.findIdx? (fun e=>decide (e.k=k))<;>rfl
theorem enIdx_some {j:Nat}(h:enIdx l k=some j):∃ e,l[j]? = some e/\e.k=k/\enGet l k=some e:=by
 have h1:=enIdx_get (l:=l) (k:=k);rw [h] at h1;have h2:=List.findIdx?_eq_some_iff_getElem.1 h;obtain⟨hlt,hp,-⟩:=h2;exact⟨l[j],List.getElem?_eq_getElem hlt,by simpa using hp,by rw [← h1];exact List.getElem?_eq_getElem hlt⟩
theorem enIdx_none (h:enIdx l k=none):enGet l k=none:=by rw [← enIdx_get,h];rfl
theorem x_lookup {zv:Value}(hu:P.underlying mt=some (.map kt et))(hk:KeyT P kt ek)(hz:zeroT P et=some zv)(hm:ev T x = .raw (.map (some r)))(hy:rawOf (ev T y)=some (ek k))(hM:M r=some (.it (.map (entsX ek l) clk)))
 (h:aOps P tkr ops K (i+1) rest ⟨setT T d (.raw (((enGet l k).map En.v).getD zv)),M⟩):aOps P tkr ops K i (mkO (some d) (.lookup mt x y false) ty pos af none::rest) ⟨T,M⟩:=by
 refine o_xs rfl (.inl fun ρ w h1 h2 _=>.inl ⟨((enGet l k).map En.v).getD zv,_,?_,Fixed.raw _,h⟩);have e1:ρ x = .map (some r):=h1 x (by simp [Op.operands]) _ (by rw [hm];rfl);have e2:ρ y=ek k:=h1 y (by simp [Op.operands]) _ hy;refine run_val (s:=Instr.lookup mt (ρ x) (ρ y) false) ?_;rw [e1,e2];show ((underlying mt) >>= _).run P w=_
 rw [run_bind_pr (pr_underlying hu)];show ((getObj r) >>= _).run P w=_
 rw [run_getObj (h2 r _ hM)];show ((Instr.checkKey (entsX ek l).isEmpty 10000 kt (ek k)) >>= _).run P w=_
 rw [run_bind_pr (hk.check _ _)];show ((Instr.findKey kt (ek k) (entsX ek l).toList) >>= _).run P w=_
 have hf:=enX_find (P:=P) (kt:=kt) (ek:=ek) (l:=l) (k:=k) hk;cases hi:enIdx l k with
 | none =>
  rw [hi] at hf;rw [run_bind_pr hf,enIdx_none hi];show ((zeroValue et) >>= _).run P w=_
  rw [run_bind_pr (pr_zeroT hz)];rfl
 | some j =>
  obtain⟨e,he,hek,hget⟩:=enIdx_some hi;rw [hi] at hf;rw [run_bind_pr hf,hget];simp only [Option.map_some,he,Option.getD_some];rfl
theorem run_setMap {w:World}{ob ob':Obj}(h:w.heap[r]? = some ob)(hob:∀ c e fr,ob ≠ .cells c e fr):(setObj r ob').run P w = .ok () (putObj w r ob'):=by
 show (Sem.setObj r ob' (.pure ())).run P w=_
 simp only [Sem.run,h];cases ob<;>first|exact absurd rfl (hob _ _ _)|rfl
theorem set_self {β:Type}{l:List β}{j:Nat}{e:β}(h:l[j]? = some e):l.set j e=l:=by
 apply List.ext_getElem?;intro i;rw [List.getElem?_set];by_cases hi:j=i
 ·subst hi;rw [if_pos rfl,if_pos (List.getElem?_eq_some_iff.1 h).1,h]
 ·rw [if_neg hi]
theorem entsX_modify {j:Nat}{e:En α}(he:l[j]? = some e)(f:MapEntry->MapEntry)(e':En α)(hf:f ⟨ek e.k,e.v,e.s⟩=⟨ek e'.k,e'.v,e'.s⟩):(entsX ek l).modify j f=entsX ek (l.set j e'):=by
 apply Array.ext';apply List.ext_getElem?;intro i;simp only [entsX,Array.getElem?_toList,Array.getElem?_modify,List.getElem?_toArray,List.getElem?_map,List.getElem?_set];by_cases h:j=i
 ·subst h;have hlt:=(List.getElem?_eq_some_iff.1 he).1;have he2:l[j]=e:=(List.getElem?_eq_some_iff.1 he).2;simp [he2,hf,hlt]
 ·simp [h]
theorem entsX_push {e:En α}:(entsX ek l).push ⟨ek e.k,e.v,e.s⟩=entsX ek (l++[e]):=by
 apply Array.ext';simp [entsX]
theorem keeps_key {α:Type}{ek:α->Value}{kt:TypeId}{P:Program}[DecidableEq α](hk:KeyT P kt ek)(k:α)(w:World):(Instr.keyThatStays (ek k) (ek k)).run P w = .ok (ek k) w:=by
 unfold Instr.keyThatStays;rw [hk.same];rfl
theorem x_updOld {e:En α}{j:Nat}{v:Value}(hu:P.underlying mt=some (.map kt et))(hk:KeyT P kt ek)(hm:ev T x = .raw (.map (some r)))(hy:rawOf (ev T y)=some (ek k))(hv:rawOf (ev T z)=some v)(hM:M r=some (.it (.map (entsX ek l) clk)))(hj:enIdx l k=some j)(he:l[j]? = some e)
 (h:aOps P tkr ops K (i+1) rest ⟨T,M.upd r (.it (.map (entsX ek (l.set j ⟨e.k,v,e.s⟩)) clk))⟩):aOps P tkr ops K i (mkO none (.mapUpdate mt x y z) ty pos af none::rest) ⟨T,M⟩:=by
 have hek:e.k=k:=by
  obtain⟨e',h1,h2,-⟩:=enIdx_some hj;rw [he] at h1;cases h1;exact h2
 refine o_xs rfl (.inl fun ρ w h1 h2 _=>.inr (.inr (.inl ⟨r,_,.map (entsX ek (l.set j ⟨e.k,v,e.s⟩)) clk,hM,(fun _ _ _=>⟨(fun h=>by cases h),fun h=>by cases h⟩),?_,h⟩)));have e1:ρ x = .map (some r):=h1 x (by simp [Op.operands]) _ (by rw [hm];rfl);have e2:ρ y=ek k:=h1 y (by simp [Op.operands]) _ hy;have e3:ρ z=v:=h1 z (by simp [Op.operands]) _ hv;have hw:=h2 r _ hM;show ((Instr.mapUpdate mt (ρ x) (ρ y) (ρ z)) >>= fun _=>(pure Next.skip:Sem Go.Next)).run P w=_
 have hrun:(Instr.mapUpdate mt (ρ x) (ρ y) (ρ z)).run P w = .ok () (putObj w r (.map (entsX ek (l.set j ⟨e.k,v,e.s⟩)) clk)):=by
  rw [e1,e2,e3];show ((underlying mt) >>= _).run P w=_
  rw [run_bind_pr (pr_underlying hu)];show ((getObj r) >>= _).run P w=_
  rw [run_getObj hw];show ((Instr.checkKey false 10000 kt (ek k)) >>= _).run P w=_
  rw [run_bind_pr (hk.check _ _)];show ((Instr.findKey kt (ek k) (entsX ek l).toList) >>= _).run P w=_
  have hf:=enX_find (P:=P) (kt:=kt) (ek:=ek) (l:=l) (k:=k) hk;rw [hj] at hf;rw [run_bind_pr hf];have hent:(entsX ek l)[j]? = some ⟨ek e.k,e.v,e.s⟩:=by simp [entsX,he]
  simp only [Option.map_some,he,Option.getD_some,hent,hek];show ((Instr.keyThatStays (ek k) (ek k)) >>= _).run P w=_
  rw [Sem.run_bind,keeps_key hk,Result.andThen_ok,entsX_modify he (e':=⟨e.k,v,e.s⟩) _ (by rw [hek])];rw [hek];exact run_setMap hw (fun _ _ _ h=>by cases h)
 rw [Sem.run_bind,hrun];rfl
theorem x_makeMap (h:∀ b,M b=none->aOps P tkr ops K (i+1) rest ⟨setT T d (.raw (.map (some b))),M.upd b (.it (.map (entsX ek ([]:List (En α))) 0))⟩):aOps P tkr ops K i (mkO (some d) (.makeMap mt none) ty pos af none::rest) ⟨T,M⟩:=by
 refine o_xs rfl (.inl fun ρ w h1 h2 h3=>.inr (.inr (.inr ⟨.map (some w.heap.size),.map #[] 0,(fun _ _ _ h=>by cases h),?_,h _ h3.1⟩)));exact run_val (s:=Instr.makeMap mt none) rfl
theorem x_updNew {v:Value}(hu:P.underlying mt=some (.map kt et))(hk:KeyT P kt ek)(hm:ev T x = .raw (.map (some r)))(hy:rawOf (ev T y)=some (ek k))(hv:rawOf (ev T z)=some v)(hM:M r=some (.it (.map (entsX ek l) clk)))(hj:enIdx l k=none)
 (h:aOps P tkr ops K (i+1) rest ⟨T,M.upd r (.it (.map (entsX ek (l++[⟨k,v,clk⟩])) (clk+1)))⟩):aOps P tkr ops K i (mkO none (.mapUpdate mt x y z) ty pos af none::rest) ⟨T,M⟩:=by
 refine o_xs rfl (.inl fun ρ w h1 h2 _=>.inr (.inr (.inl ⟨r,_,.map (entsX ek (l++[(⟨k,v,clk⟩ : En α)])) (clk+1),hM,(fun _ _ _=>⟨(fun h=>by cases h),fun h=>by cases h⟩),?_,h⟩)));have e1:ρ x = .map (some r):=h1 x (by simp [Op.operands]) _ (by rw [hm];rfl);have e2:ρ y=ek k:=h1 y (by simp [Op.operands]) _ hy;have e3:ρ z=v:=h1 z (by simp [Op.operands]) _ hv;have hw:=h2 r _ hM;show ((Instr.mapUpdate mt (ρ x) (ρ y) (ρ z)) >>= fun _=>(pure Next.skip:Sem Go.Next)).run P w=_
 have hrun:(Instr.mapUpdate mt (ρ x) (ρ y) (ρ z)).run P w = .ok () (putObj w r (.map (entsX ek (l++[⟨k,v,clk⟩])) (clk+1))):=by
  rw [e1,e2,e3];show ((underlying mt) >>= _).run P w=_
  rw [run_bind_pr (pr_underlying hu)];show ((getObj r) >>= _).run P w=_
  rw [run_getObj hw];show ((Instr.checkKey false 10000 kt (ek k)) >>= _).run P w=_
  rw [run_bind_pr (hk.check _ _)];show ((Instr.findKey kt (ek k) (entsX ek l).toList) >>= _).run P w=_
  have hf:=enX_find (P:=P) (kt:=kt) (ek:=ek) (l:=l) (k:=k) hk;rw [hj] at hf;rw [run_bind_pr hf];show (setObj r (.map ((entsX ek l).push ⟨ek k,v,clk⟩) (clk+1))).run P w=_
  rw [show (entsX ek l).push ⟨ek k,v,clk⟩=entsX ek (l++[⟨k,v,clk⟩]) from entsX_push (e:=⟨k,v,clk⟩)];exact run_setMap hw (fun _ _ _ h=>by cases h)
 rw [Sem.run_bind,hrun];rfl
end
section
variable {P:Program}{tkr:Nat->Option Nat}{ops:Array Oper}{K:St->Prop}{i:Nat}{rest:List Oper}{d:Nat}{dst:Option Nat}{T:Nat->AVal}{M:Mem}{ty st e:TypeId}{pos:String}{af:Array Edge}{x y z:Operand}{ats:Array TypeId}
 {β:Type} {f:β->AVal} {z0:β} {g:Option (Nat×Bool)}
theorem bfa {t:TypeId}{i m n:Nat}{V:AVal}{cells cells' out:List AVal}{rest:List (Nat×Operand)}(hu:P.underlying t=some (.array m e))(hs:sizeT P e=some n)(hV:ev T x=V)(hok:V.ok=true)(hn:V.cells.length=n)(hl:i*n+n<=cells.length)(hc:cells.take (i*n)++V.cells++cells.drop (i*n+n)=cells')(h:BF P t T cells' rest out):BF P t T cells ((i,x)::rest) out:=by
 intro place hp;subst hV;subst hc;subst hn;have h1:=h place hp;have hf:place i=some (i*(ev T x).cells.length,(ev T x).cells.length):=by
  unfold aPlaces at hp;rw [hu] at hp;dsimp only at hp;rw [hs] at hp;obtain rfl:=Option.some.inj hp;rfl
 simp only [List.map_cons,aFill,hf];rw [if_neg (by simp [hok];omega)];exact h1
end
end Go.Am
namespace Go.Am
set_option linter.unusedVariables false
set_option linter.unusedSimpArgs false
set_option linter.unusedSectionVars false
end Go.Am
