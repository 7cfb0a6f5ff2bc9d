import Derived.Test.YthmhdhmfkegpiaaGreatDoorAmE
namespace Go.Am
set_option linter.unusedVariables false
set_option linter.unusedSimpArgs false
set_option linter.unusedSectionVars false
section
variable {P:Program}{tkr:Nat->Option Nat}{ops:Array Oper}{K:St->Prop}{i:Nat}{rest:List Oper}{d:Nat}{dst:Option Nat}{T:Nat->AVal}{M:Mem}{ty t₁ t₂:TypeId}{pos:String}{af:Array Edge}{x y z:Operand}{ats:Array TypeId}{g:Option (Nat×Bool)}{m n:Nat}{kk:IntKind}
theorem u64_wrap {a:Int}(h1:0<=a)(h2:a<2^64):IntKind.u64.wrap a=a:=by
 simp only [IntKind.wrap,IntKind.signed,IntKind.bits];simp;omega
theorem q_shlu (hx:ev T x = .raw (.int .u64 (m:Int)))(hy:ev T y = .raw (.int kk (n:Int)))(hn:n<=64)(h:m*2^n<2^64):qstep P none (mkO dst (.binOp .shl t₁ x y t₂) ty pos af g) T M=some (⟨none,.raw (.int .u64 ((m*2^n:Nat):Int))⟩,[]):=by
 refine q_bin' hx hy ?_;have e:pr P (binOp .shl t₁ (.int .u64 (m:Int)) (.int kk (n:Int)))=some (.int .u64 ((m*2^n:Nat):Int)):=by
  show pr P (Op.shift .shl .u64 m kk n)=_
  unfold Op.shift;rw [if_neg (by omega)];simp only [Int.toNat_natCast];rw [Nat.min_eq_left (show n<=IntKind.u64.bits from hn)];show some (Value.int .u64 (IntKind.u64.wrap ((m:Int)*2^n)))=_
  have e1:((m:Int)*2^n)=((m*2^n:Nat):Int):=by push_cast;rfl
  rw [e1,u64_wrap (by omega) (by have:((m*2^n:Nat):Int)<((2^64:Nat):Int):=Int.ofNat_lt.2 h;simpa using this)]
 show (pr P (binOp .shl t₁ (.int .u64 (m:Int)) (.int kk (n:Int)))).map AVal.raw=_
 rw [e];rfl
theorem q_orb (hx:ev T x = .raw (.int .u64 ((m*2^8:Nat):Int)))(hy:ev T y = .raw (.int .u64 (n:Int)))(hm:m*2^8<2^64)(hn:n<256):qstep P none (mkO dst (.binOp .or t₁ x y t₂) ty pos af g) T M=some (⟨none,.raw (.int .u64 ((m*256+n:Nat):Int))⟩,[]):=by
 have h1:m*256+n=(m*2^8) ||| n:=by
  have:=Nat.shiftLeft_add_eq_or_of_lt (b:=n) (i:=8) hn m;rw [Nat.shiftLeft_eq] at this;exact this
 have h4:m<2^56:=Nat.lt_of_mul_lt_mul_right (a:=2^8) hm;have h5:(m+1)*256<=2^56*256:=Nat.mul_le_mul_right 256 h4;have h2:m*256+n<2^64:=Nat.lt_of_lt_of_le (by rw [Nat.succ_mul];exact Nat.add_lt_add_left hn _) h5;have h3:n<2^64:=Nat.lt_trans hn (by decide);exact q_bits (op:=.or) (m:=m*2^8) (n:=n) (r:=m*256+n) hx hy hm h3 (.inr (.inl ⟨rfl,h1⟩)) (u64_wrap (Int.natCast_nonneg _) (by exact_mod_cast h2))
theorem q_shru (hx:ev T x = .raw (.int .u64 (m:Int)))(hy:ev T y = .raw (.int kk (n:Int)))(hn:n<=64):qstep P none (mkO dst (.binOp .shr t₁ x y t₂) ty pos af g) T M=some (⟨none,.raw (.int .u64 ((m / 2^n:Nat):Int))⟩,[]):=by
 rw [q_shr hx hy (show n<=IntKind.u64.bits from hn)];simp
theorem q_remn (hx:ev T x = .raw (.int kk (m:Int)))(hy:ev T y = .raw (.int kk (n:Int)))(h0:n≠0):qstep P none (mkO dst (.binOp .rem t₁ x y t₂) ty pos af g) T M=some (⟨none,.raw (.int kk ((m % n:Nat):Int))⟩,[]):=by
 rw [q_rem hx hy (by omega)];rfl
theorem q_quou (hx:ev T x = .raw (.int .u64 (m:Int)))(hy:ev T y = .raw (.int .u64 (n:Int)))(h0:n≠0)(hm:m<2^64):qstep P none (mkO dst (.binOp .quo t₁ x y t₂) ty pos af g) T M=some (⟨none,.raw (.int .u64 ((m / n:Nat):Int))⟩,[]):=by
 have h1:(m:Int).tdiv (n:Int)=((m / n:Nat):Int):=rfl;have h2:m / n<2^64:=Nat.lt_of_le_of_lt (Nat.div_le_self _ _) hm;have h3:IntKind.u64.wrap ((m / n:Nat):Int)=((m / n:Nat):Int):=by
  generalize m / n=q at h2;exact u64_wrap (by omega) (by omega)
 rw [q_quo hx hy (by omega) (by rw [h1];exact h3),h1]
def idxB (s:ByteArray)(c:UInt8):Int:=match (List.range s.size).find? fun i=>s[i]! == c with|some i=>(i:Int)|none=>-1
theorem x_indexByte {f : FuncId} {fn : Func} {s : ByteArray} {c : UInt8} (hf : P.funcs[f]? = some fn) (hname : (fn.name == "runtime.NumGoroutine") = false) (hb : fn.body.isNone = true) (hn : Extern.findNext fn = none) (he : Extern.find fn = some Extern.BytealgIndexByte.indexByte)
 (hx:ev T x = .raw (.string s)) (hy:ev T y = .raw (.int .u8 c.toNat))
 (h:aOps P tkr ops K (i+1) rest ⟨setT T d (.raw (.int .i64 (idxB s c))),M⟩):aOps P tkr ops K i (mkO (some d) (.call { callee:=.value (.func f),args:=#[x,y],argTypes:=ats }) ty pos af none::rest) ⟨T,M⟩:=by
 refine o_xs rfl (.inl fun ρ w h1 h2 _=>.inl ⟨.int .i64 (idxB s c),_,?_,Fixed.raw _,h⟩);have e1:ρ x = .string s:=h1 x (by simp [Op.operands,Call.operands]) _ (by rw [hx];rfl);have e2:ρ y = .int .u8 c.toNat:=h1 y (by simp [Op.operands,Call.operands]) _ (by rw [hy];rfl);have e0:ρ (.func f) = .func (.func f) #[] #[]:=h1 (.func f) (by simp [Op.operands,Call.operands]) _ rfl;show ((Deferred.ofValue (ρ (.func f)) (#[x,y].map ρ)) >>= fun d=>invoke d.target d.args).run P w=_
 rw [show (#[x,y]:Array Operand).map ρ = #[ρ x,ρ y] by simp,e0,e1,e2];show (callFunc f #[.string s,.int .u8 c.toNat]).run P w=_
 have hrun:(Extern.BytealgIndexByte.indexByte #[.string s,.int .u8 c.toNat]).run P w = .ok (.int .i64 (idxB s c)) w:=by
  have hc:((c.toNat:Int).toNat).toUInt8=c:=by simp
  show (match (List.range s.size).find? fun i=>s[i]! == ((c.toNat:Int).toNat).toUInt8 with|some i=>(pure (goInt i):Sem Value)|none=>pure (goInt (-1))).run P w=_
  rw [hc];unfold idxB;cases (List.range s.size).find? fun i=>s[i]! == c<;>rfl
 unfold callFunc;rw [Sem.run_bind,run_program,Result.andThen_ok,hf];simp only [hname,hb,Bool.false_eq_true,if_false,if_true];show (Sem.mark _ _).run P w=_
 simp only [Sem.run,hn,he];exact run_val hrun
theorem q_slslo {t:TypeId}{s:ByteArray}{k':IntKind}(hu:P.underlying t=some .string)(hx:ev T x = .raw (.string s))(hy:ev T y = .raw (.int k' (n:Int)))(hn:n<=s.size) :
 qstep P none (mkO dst (.slice t x (some y) none none) ty pos af g) T M=some (⟨none,.raw (.string (s.extract n s.size))⟩,[]):=by
 have hsb:pr P (Instr.sliceBounds false s.size s.size (some (.int k' (n:Int))) none none)=some (n,s.size,s.size):=by
  simp only [Instr.sliceBounds,pr_bind',pr_pure,Option.bind_some,pr_sliceBound (Int.natCast_nonneg n) (show (n:Int).toNat<=s.size by omega),Int.toNat_natCast]
 have e1:pr P (Instr.sliceAt t (.string s) (some (.int k' (n:Int))) none none)=some (.string (s.extract n s.size)):=by
  unfold Instr.sliceAt;rw [pr_b,pr_underlying hu];show pr P (Instr.slice t (.string s) (some (.int k' (n:Int))) none none)=_
  unfold Instr.slice;rw [pr_b,pr_underlying hu];show pr P (Instr.sliceBounds false s.size s.size (some (.int k' (n:Int))) none none >>= _)=_
  rw [pr_b,hsb];rfl
 have hlo:((some y:Option Operand).mapM fun x=>rawOf (ev T x))=some (some (.int k' (n:Int))):=by
  show (rawOf (ev T y)).map some=_
  rw [hy];rfl
 have hhi:((none:Option Operand).mapM fun x=>rawOf (ev T x))=some none:=rfl;have e2:aop P T M ty (.slice t x (some y) none none)=some (.raw (.string (s.extract n s.size))):=by
  simp only [aop,aSlice,hx,hlo,hhi,e1];rfl
 simp only [qstep,e2,Option.map_some,readsOf,AVal.shut,AVal.shut1]
end
section
variable {P:Program}{tk:Nat->Nat->Option Nat}{pl:Nat->List PStep}{ks:List It}{R:Exit->St->Prop}{S:St}
theorem s_scopel {c:Code}{Y:Nat->List It}(l:Nat)(I:Nat->St->Prop)(N0:Nat)(hl:(findLabel c l).isSome=true)
 (hfrom:∀ N S',unw P tk pl (Y N) R .normal S'->aFrom P tk pl c l S' (unw P tk pl (.scj l (fun S''=>∃ m',m'<N/\I m' S'')::ks) R))
 (key:∀ N m S',m<=N->I m S'->unw P tk pl (Y N) R .normal S')
 (first:(∀ N m S',m<=N->I m S'->unw P tk pl (Y N) R .normal S')->unw P tk pl (.code c :: .scj l (fun S'=>∃ m,m<N0/\I m S')::ks) R .normal S):unw P tk pl (.code (.scope c)::ks) R .normal S :=
 unw_scopej l I N0 hl (first key) fun m S' h=>hfrom m S' (key m m S' (Nat.le_refl _) h)
end
end Go.Am
namespace Go.Am
set_option linter.unusedVariables false
set_option linter.unusedSimpArgs false
set_option linter.unusedSectionVars false
def gv:Bool->AVal->AVal
 | true,V=>V
 | false,_=>.raw undef
theorem gv_on {G:Bool}{V W:AVal}(h:G=true)(hV:W=gv G V):W=V:=by subst h;exact hV
theorem gv_and {G c w:Bool}(hG:G=true)(hc:c=w):(G && (c == w))=true:=by subst hG;subst hc;simp
section
variable {P:Program}{tkr:Nat->Option Nat}{ops:Array Oper}{K:St->Prop}{i:Nat}{rest:List Oper}{o:Oper}{d:Nat}{dst:Option Nat}{B:List Nat}{T:Nat->AVal}{M:Mem}{ty t₁ t₂:TypeId}{pos:String}{af:Array Edge}{x y z:Operand}{g:Option (Nat×Bool)}{V:AVal}
theorem o_g {j gd:Nat}{want G c:Bool}(hg:o.guard=some (j,want))(hj:(ops[j]?).bind (·.dst)=some gd)(ht:T gd=gv G (.raw (.bool c)))(hd:o.dst=some d)(htk:tkr i=none)
 (hq:G=true->c=want->qstep P none { o with guard:=none } T M=some (⟨none,V⟩,B))
 (h:aOps P tkr ops K (i+1) rest ⟨setT T d (gv (G && (c == want)) V),M⟩):aOps P tkr ops K i (o::rest) ⟨T,M⟩:=by
 cases G with
 | false=>exact o_skip hg hj ht hd h
 | true =>
  by_cases hc:c=want
  ·refine o_yes hg hj ht hc (o_q (hq rfl hc) rfl hd htk ?_);have e:(true && (c == want))=true:=gv_and rfl hc;rw [e] at h;exact h
  ·have e:(true && (c == want))=false:=by cases c<;>cases want<;>simp_all
   rw [e] at h;exact o_no hg hj ht hd (by cases c<;>cases want<;>simp_all) h
theorem o_gw {j gd:Nat}{want G c:Bool}(hg:o.guard=some (j,want))(hj:(ops[j]?).bind (·.dst)=some gd)(ht:T gd=gv G (.raw (.bool c)))(hd:o.dst=some d)
 (hq:G=true->c=want->aOps P tkr ops K (i+1) rest ⟨setT T d V,M⟩->aOps P tkr ops K i ({ o with guard:=none }::rest) ⟨T,M⟩)
 (h:aOps P tkr ops K (i+1) rest ⟨setT T d (gv (G && (c == want)) V),M⟩):aOps P tkr ops K i (o::rest) ⟨T,M⟩:=by
 cases G with
 | false=>exact o_skip hg hj ht hd h
 | true =>
  by_cases hc:c=want
  ·refine o_yes hg hj ht hc (hq rfl hc ?_);have e:(true && (c == want))=true:=gv_and rfl hc;rw [e] at h;exact h
  ·have e:(true && (c == want))=false:=by cases c<;>cases want<;>simp_all
   rw [e] at h;exact o_no hg hj ht hd (by cases c<;>cases want<;>simp_all) h
theorem q_por {G c b:Bool}(hG:G=true)(hx:ev T x=gv G (.raw (.bool c)))(hz:ev T z=gv (G && (c == false)) (.raw (.bool b))):qstep P none (mkO dst (.pick x (.const (.bool true)) z) ty pos af g) T M=some (⟨none,.raw (.bool (c || b))⟩,[]):=by
 subst hG;cases c with
 | true=>exact q_pick_t hx rfl
 | false=>exact q_pick_f hx (by rw [hz];rfl)
theorem q_pand {G c b:Bool}(hG:G=true)(hx:ev T x=gv G (.raw (.bool c)))(hy:ev T y=gv (G && (c == true)) (.raw (.bool b))):qstep P none (mkO dst (.pick x y (.const (.bool false))) ty pos af g) T M=some (⟨none,.raw (.bool (c && b))⟩,[]):=by
 subst hG;cases c with
 | true=>exact q_pick_t hx (by rw [hy];rfl)
 | false=>exact q_pick_f hx rfl
theorem q_min3 {ats:Array TypeId}{k:IntKind}{a b c:Int}(hx:ev T x = .raw (.int k a))(hy:ev T y = .raw (.int k b))(hz:ev T z = .raw (.int k c)):qstep P none (mkO dst (.call { callee:=.builtin .min,args:=#[x,y,z],argTypes:=ats }) ty pos af g) T M=some (⟨none,.raw (.int k (min (min a b) c))⟩,[]):=by
 have e:aop P T M ty (.call { callee:=.builtin .min,args:=#[x,y,z],argTypes:=ats })=some (.raw (.int k (min (min a b) c))):=by
  have h0:(if b<a then b else a)=min a b:=by split<;>omega
  have h:pr P (Builtin.min_ ats ty #[.int k a,.int k b,.int k c])=some (.int k (if c<(if b<a then b else a) then c else (if b<a then b else a))):=by
   have h2:∀ u v:Int,pr P (Builtin.min2 (.int k u) (.int k v))=some (.int k (if v<u then v else u)):=fun _ _=>rfl
   show pr P (Builtin.min2 (.int k a) (.int k b) >>= fun i=>Builtin.min2 i (.int k c))=_
   rw [pr_b,h2 a b];exact h2 _ _
  have hm:(if c<min a b then c else min a b)=min (min a b) c:=by split<;>omega
  rw [h0,hm] at h;simp only [aop,List.map,aBuiltin,hx,hy,hz,rawsOf,List.mapM_cons,List.mapM_nil,rawOf,Option.bind_eq_bind,Option.bind_some,Option.pure_def,h,Option.map_some]
 show (aop P T M ty (.call { callee:=.builtin .min,args:=#[x,y,z],argTypes:=ats })).map _=_
 rw [e];rfl
end
end Go.Am
namespace Go.Am
theorem mmQ {p:Prop}(h:p:=by repeat first|exact Mem.upd_self _ _ _|assumption|refine Mem.upd_ne (by assumption) ?_):p:=h
theorem mvQ {p:Prop}(h:p:=by first|exact v_raw rfl|exact v_sptr rfl):p:=h
theorem meQ {p:Prop}(h:p:=by first|exact e_raw rfl|exact e_agg rfl|exact e_sl rfl|rfl):p:=h
theorem mfQ {p:Prop}(h:p:=by first|exact e_agg rfl|rfl):p:=h
theorem kk {p q:Prop}(h:p)(e:p->q:=by intro h;try simp only [decide_eq_true_eq,decide_eq_false_iff_not,Bool.not_eq_true',Bool.not_eq_false',Bool.not_true,Bool.not_false,List.length_map,Decidable.not_not] at h;exact h):q:=e h
end Go.Am
namespace Go.Am
set_option linter.unusedVariables false
set_option linter.unusedSimpArgs false
section
variable {P:Program}{κ:Ghost}{w:World}{f:FuncId}{args:List AVal}{M:Mem}{Post Post':AVal->Mem->Prop}
def nilSl:AVal->AVal
 | .raw (.slice none 0 0)=>.sl [] false
 | V=>V
theorem rep_nilSl {V:AVal}{v:Value}(h:Rep P κ w V v):Rep P κ w (nilSl V) v:=by
 unfold nilSl;split
 ·rw [rep_raw h];exact .nil false
 ·exact h
theorem Holds.nilagg {l:List AVal}{v:Value}(h:Holds P κ (argT [.agg l]) (fun t=>if t=0 then v else undef) M w):Holds P κ (argT [.agg (l.map nilSl)]) (fun t=>if t=0 then v else undef) M w:=by
 have hno:∀ (m:List AVal) (x:Value) b o,¬ Spare P w (.agg m) x b o:=fun m x b o hs=>by
  rcases hs with ⟨_,_,_,e,_⟩|⟨_,_,_,_,_,e,_⟩<;>cases e
 have key:∀ t,t≠0->argT [.agg (l.map nilSl)] t=argT [.agg l] t:=fun t ht=>by
  cases t with
  | zero=>exact absurd rfl ht
  | succ t=>simp [argT]
 refine { h with tmp:=fun t=>?_,sp:=?_ }
 ·by_cases ht:t=0
  ·subst ht;have h0:=h.tmp 0;have e0:argT [.agg l] 0 = .agg l:=rfl;have e1:argT [.agg (l.map nilSl)] 0 = .agg (l.map nilSl):=rfl;rw [e0] at h0;rw [e1];simp only [if_true] at h0 ⊢;cases h0 with
   | agg _ vs hl hr =>
    refine .agg _ vs (by rw [List.length_map];exact hl) fun i c x g1 g2=>?_
    rw [List.getElem?_map] at g1;obtain⟨W,g3,rfl⟩:=Option.map_eq_some_iff.1 g1;exact rep_nilSl (hr i W x g3 g2)
  ·rw [key t ht];exact h.tmp t
 ·intro t;by_cases ht:t=0
  ·subst ht;intro b o hs;exact absurd hs (hno _ _ _ _)
  ·rw [key t ht];exact h.sp t
theorem SoundCall.nilret (h:SoundCall P f args M Post)(hp:∀ r M',Post r M'->Post' r M'\/∃ l,r = .agg l/\Post' (.agg (l.map nilSl)) M'):SoundCall P f args M Post':=fun κ w vs hs hh=>(h κ w vs hs hh).mono fun _ _ ⟨v,κ',r,M',e,hq,hH,hK⟩=>by
 rcases hp r M' hq with h1|⟨l,rfl,h1⟩
 ·exact⟨v,κ',r,M',e,h1,hH,hK⟩
 ·exact⟨v,κ',_,M',e,h1,hH.nilagg,hK⟩
end
section
variable {P:Program}{T:Nat->AVal}{M:Mem}{dst:Option Nat}{x:Operand}{ty:TypeId}{pos:String}{af:Array Edge}{g:Option (Nat×Bool)}
theorem q_lenm {ats:Array TypeId}{t kt et:TypeId}{r:Nat}{es:List (Value×AVal)}(h0:ats[0]? = some t)(hu:P.underlying t=some (.map kt et))(hx:ev T x = .raw (.map (some r)))(hM:M r=some (.map es)):qstep P none (mkO dst (.call { callee:=.builtin .len,args:=#[x],argTypes:=ats }) ty pos af g) T M=some (⟨none,.raw (.int .i64 es.length)⟩,[r]):=by
 have e:aop P T M ty (.call { callee:=.builtin .len,args:=#[x],argTypes:=ats })=some (.raw (.int .i64 es.length)):=by
  simp only [aop,List.map,aBuiltin,hx,h0,Option.bind_some,hu,hM]
 have e2:readsOf T (.call { callee:=.builtin .len,args:=#[x],argTypes:=ats })=[r]:=by simp only [readsOf,List.map,hx]
 show (aop P T M ty (.call { callee:=.builtin .len,args:=#[x],argTypes:=ats })).map _=_
 rw [e,Option.map_some,e2];rfl
end
end Go.Am
namespace Go.Am
set_option linter.unusedVariables false
set_option linter.unusedSimpArgs false
set_option linter.unusedSectionVars false
section
variable {P:Program}{dst:Option Nat}{T:Nat->AVal}{M:Mem}{ty t₁ t₂:TypeId}{pos:String}{af:Array Edge}{x y z:Operand}{g:Option (Nat×Bool)}{m n:Nat}{kk:IntKind}
theorem q_slmid {t:TypeId}{s:ByteArray}{k k':IntKind}(hu:P.underlying t=some .string)(hx:ev T x = .raw (.string s))(hy:ev T y = .raw (.int k (m:Int)))(hz:ev T z = .raw (.int k' (n:Int)))(hm:m<=n)(hn:n<=s.size) :
 qstep P none (mkO dst (.slice t x (some y) (some z) none) ty pos af g) T M=some (⟨none,.raw (.string (s.extract m n))⟩,[]):=by
 have hsb:pr P (Instr.sliceBounds false s.size s.size (some (.int k (m:Int))) (some (.int k' (n:Int))) none)=some (m,n,s.size):=by
  simp only [Instr.sliceBounds,pr_bind',pr_pure,Option.bind_some,pr_sliceBound (Int.natCast_nonneg n) (show (n:Int).toNat<=s.size by omega),pr_sliceBound (Int.natCast_nonneg m) (show (m:Int).toNat<=(n:Int).toNat by omega),Int.toNat_natCast,pr_sliceBound (Int.natCast_nonneg m) (show (m:Int).toNat<=n by omega)]
 have e1:pr P (Instr.sliceAt t (.string s) (some (.int k (m:Int))) (some (.int k' (n:Int))) none)=some (.string (s.extract m n)):=by
  unfold Instr.sliceAt;rw [pr_b,pr_underlying hu];show pr P (Instr.slice t (.string s) (some (.int k (m:Int))) (some (.int k' (n:Int))) none)=_
  unfold Instr.slice;rw [pr_b,pr_underlying hu];show pr P (Instr.sliceBounds false s.size s.size (some (.int k (m:Int))) (some (.int k' (n:Int))) none >>= _)=_
  rw [pr_b,hsb];rfl
 have hlo:((some y:Option Operand).mapM fun x=>rawOf (ev T x))=some (some (.int k (m:Int))):=by
  show (rawOf (ev T y)).map some=_
  rw [hy];rfl
 have hhi:((some z:Option Operand).mapM fun x=>rawOf (ev T x))=some (some (.int k' (n:Int))):=by
  show (rawOf (ev T z)).map some=_
  rw [hz];rfl
 have e2:aop P T M ty (.slice t x (some y) (some z) none)=some (.raw (.string (s.extract m n))):=by
  have hnn:((none:Option Operand).mapM fun x=>rawOf (ev T x))=some none:=rfl;simp only [aop,aSlice,hx,hlo,hhi,hnn,e1];rfl
 simp only [qstep,e2,Option.map_some,readsOf,AVal.shut,AVal.shut1]
end
end Go.Am
namespace Go.Am
end Go.Am
namespace Go.Am
end Go.Am
namespace Go.Am
set_option linter.unusedVariables false
set_option linter.unusedSimpArgs false
set_option linter.unusedSectionVars false
section
variable {P:Program}{tkr:Nat->Option Nat}{ops:Array Oper}{K:St->Prop}{i:Nat}{rest:List Oper}{d:Nat}{T:Nat->AVal}{M:Mem}{ty:TypeId}{pos:String}{af:Array Edge}{x y:Operand}{ats:Array TypeId}
 {α:Type} {f:α->AVal} {zs:List AVal}
end
end Go.Am
