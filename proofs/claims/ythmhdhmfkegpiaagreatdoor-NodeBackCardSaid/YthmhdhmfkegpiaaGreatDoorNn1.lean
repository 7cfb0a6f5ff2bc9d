import Derived.Test.YthmhdhmfkegpiaaGreatDoorHz
import Derived.Test.YthmhdhmfkegpiaaGreatDoorNt1
import Derived.Test.YthmhdhmfkegpiaaGreatDoorNw1
import Derived.Test.YthmhdhmfkegpiaaGreatDoorAmG
open Go Go.Proofs Go.Am
set_option linter.unusedVariables false
set_option linter.unusedSimpArgs false
set_option autoImplicit false
namespace C17
structure Bal where
 round:Int
 node:Int
 deriving DecidableEq
def bal0:Bal:=⟨0,0⟩
def balV (b:Bal):AVal:=.agg [int b.round,int b.node]
def rawBal (b:Bal):Value:=.agg #[.int .i64 b.round,.int .i64 b.node]
theorem undB3:Tryz.prog.underlying 3=some (.int .i64):=by kernel_rfl
theorem agB3:aggT Tryz.prog 3=some false:=by kernel_rfl
theorem eqg70:Tryz.prog.eqGuardType Tryz.prog.depth 23=false:=by kernel_rfl
theorem stood70:Tryz.prog.stoodInHeld 23=false:=by kernel_rfl
theorem balEq (r r':Bal):pr Tryz.prog (Op.equal 23 (rawBal r) (rawBal r'))=some (decide (r=r')):=by
 refine eqStruct Tryz.underlying23 stood70 ?_;simp only [List.forIn_cons,List.forIn_nil];refine fldEq' (by decide) (part_one (v:=.int .i64 r.round) agB3 rfl) (part_one (v:=.int .i64 r'.round) agB3 rfl) (eq_int undB3 _ _) (fun _=>rfl) rfl (congrArg Bal.round) (fun h1=>?_);refine fldEq' (by decide) (part_one (v:=.int .i64 r.node) agB3 rfl) (part_one (v:=.int .i64 r'.node) agB3 rfl) (eq_int undB3 _ _) (fun _=>rfl) rfl (congrArg Bal.node) (fun h2=>?_);have:r=r':=by cases r;cases r';simp at h1 h2;simp [*]
 simp only [this,decide_true];rfl
theorem binEqBal (x y:Operand)(r r':Bal):aBin Tryz.prog .eql 23 x y (balV r) (balV r')=some (.raw (.bool (decide (r=r')))) :=
 aBin_structEq eqg70 rfl rfl (fun _ _ h=>by cases h) (balEq r r')
theorem binNeBal (x y:Operand)(r r':Bal):aBin Tryz.prog .neq 23 x y (balV r) (balV r')=some (.raw (.bool (!decide (r=r')))) :=
 aBin_structNeq eqg70 rfl rfl (fun _ _ h=>by cases h) (balEq r r')
structure Msg where
 kind:Int
 frm:Int
 life:Int
 view:Int
 n:Int
 sure:Int
 bal:Bal
 tak:Bal
 val:ByteArray
 texts:List ByteArray
def encM (m:Msg):AVal:=.agg [int m.kind,int m.frm,int m.life,int m.view,int m.n,int m.sure,int m.bal.round,int m.bal.node,int m.tak.round,int m.tak.node,str m.val,.sl (m.texts.map str) false]
def msg0:Msg:=⟨0,0,0,0,0,0,bal0,bal0,⟨#[]⟩,[]⟩
abbrev top53:Int:=9007199254740991
def rightB (b:Bal):Bool:=decide (1<=b.round) && decide (b.round<=top53) && decide (0<=b.node) && decide (b.node<7)
def mayB (b:Bal):Bool:=rightB b || decide (b=bal0)
def headM (m:Msg):Bool:=decide (1<=m.kind/\m.kind<=10/\0<=m.frm/\m.frm<7/\1<=m.life/\m.life<=top53/\0<=m.view/\m.view<=top53/\0<=m.n/\m.n<=top53/\0<=m.sure/\m.sure<=top53)
def bodyM (m:Msg):Bool:=mayB m.bal && mayB m.tak && decide (m.val.size<=100000) && decide (m.texts.length<=980)
def rightM (m:Msg):Bool:=headM m && bodyM m && decide (∀ t∈m.texts,t.size<=100000)
section
variable {P:Program}{T:Nat->AVal}{M:Mem}{dst:Option Nat}{x y z u:Operand}{ty:TypeId}{pos:String}{af:Array Edge}{g:Option (Nat×Bool)}
theorem q_max4 {ats:Array TypeId}{k:IntKind}{a b c d:Int}(hx:ev T x = .raw (.int k a))(hy:ev T y = .raw (.int k b))(hz:ev T z = .raw (.int k c))(hu:ev T u = .raw (.int k d)):qstep P none (mkO dst (.call { callee:=.builtin .max,args:=#[x,y,z,u],argTypes:=ats }) ty pos af g) T M=some (⟨none,.raw (.int k (max (max (max a b) c) d))⟩,[]):=by
 have e:aop P T M ty (.call { callee:=.builtin .max,args:=#[x,y,z,u],argTypes:=ats })=some (.raw (.int k (max (max (max a b) c) d))):=by
  have h2:∀ u v:Int,pr P (Builtin.max2 (.int k u) (.int k v))=some (.int k (max u v)):=fun u v=>by
   have:(if u<v then v else u)=max u v:=by split<;>omega
   rw [← this];rfl
  have h:pr P (Builtin.max_ ats ty #[.int k a,.int k b,.int k c,.int k d])=some (.int k (max (max (max a b) c) d)):=by
   show pr P (Builtin.max2 (.int k a) (.int k b) >>= fun i=>Builtin.max2 i (.int k c) >>= fun i=>Builtin.max2 i (.int k d))=_
   rw [pr_b,h2 a b,Option.bind_some,pr_b,h2 _ c,Option.bind_some];exact h2 _ _
  simp only [aop,List.map,aBuiltin,hx,hy,hz,hu,rawsOf,List.mapM_cons,List.mapM_nil,rawOf,Option.bind_eq_bind,Option.bind_some,Option.pure_def,h,Option.map_some]
 show (aop P T M ty (.call { callee:=.builtin .max,args:=#[x,y,z,u],argTypes:=ats })).map _=_
 rw [e];rfl
end
end C17
