import Derived.Test.YticeppepdlgbhaaGreatDoorHz
import Derived.Test.YticeppepdlgbhaaGreatDoorZa10
import Derived.Test.YticeppepdlgbhaaGreatDoorZr7
import Derived.Test.YticeppepdlgbhaaGreatDoorZk17
open Go Go.Proofs Go.Am
set_option linter.unusedVariables false
set_option linter.unusedSimpArgs false
set_option autoImplicit false
namespace C17
structure MDe where
 c:Cmd
 s:ByteArray
 deriving Inhabited
def encMD (d:MDe):AVal:=.agg [int d.c.kind,str d.c.topic,str d.c.name,int d.c.seq,str d.c.key,str d.c.val,int d.c.n,int d.c.node,int d.c.ask,str d.s]
section
variable {ge:TypeId}{gf:Nat×Nat}{M0 M M':Mem}{b1 b2 B:Nat}{n m:Int}{x z x' z':Mc}{O1 O2 O':Nat->Prop}
theorem Mch.mono (h:Mch ge gf M b1 n x O1)(hm:n<=m):Mch ge gf M b1 m x O1:=⟨h.at',h.ok.mono hm,h.no,h.g⟩
end
theorem und3':Tryz.prog.underlying 3=some (.int .i64):=by kernel_rfl
theorem agi3:aggT Tryz.prog 3=some false:=by kernel_rfl
theorem zc60:zeroCellsT Tryz.prog 60=some [.raw (.int .i64 0),.raw (.int .i64 0)]:=C3.zc60
theorem ag60:aggT Tryz.prog 60=some true:=C3.ag60
theorem sz60:sizeT Tryz.prog 60=some 2:=C3.sz60
theorem eqg60:Tryz.prog.eqGuardType Tryz.prog.depth 60=false:=by kernel_rfl
theorem stood60:Tryz.prog.stoodInHeld 60=false:=by kernel_rfl
def prV (p:C3.Pr):AVal:=.agg [int p.re,int p.im]
def rawPr (m:C3.Pr):Value:=.agg #[.int .i64 m.re,.int .i64 m.im]
theorem prEq (r r':C3.Pr):pr Tryz.prog (Op.equal 60 (rawPr r) (rawPr r'))=some (decide (r=r')):=by
 refine eqStruct Tryz.underlying60 stood60 ?_;simp only [List.forIn_cons,List.forIn_nil];refine fldEq' (by decide) (part_one (v:=.int .i64 r.re) agi3 rfl) (part_one (v:=.int .i64 r'.re) agi3 rfl) (eq_int und3' _ _) (fun _=>rfl) rfl (congrArg C3.Pr.re) (fun h1=>?_);refine fldEq' (by decide) (part_one (v:=.int .i64 r.im) agi3 rfl) (part_one (v:=.int .i64 r'.im) agi3 rfl) (eq_int und3' _ _) (fun _=>rfl) rfl (congrArg C3.Pr.im) (fun h2=>?_);have:r=r':=by cases r;cases r';simp at h1 h2;simp [*]
 simp only [this,decide_true];rfl
theorem binNePr (x y:Operand)(r r':C3.Pr):aBin Tryz.prog .neq 60 x y (prV r) (prV r')=some (.raw (.bool (!decide (r=r')))) :=
 aBin_structNeq eqg60 rfl rfl (fun _ _ h=>by cases h) (prEq r r')
theorem binNeSame (x y:Operand)(r:C3.Pr):aBin Tryz.prog .neq 60 x y (prV r) (prV r)=some (.raw (.bool false)):=by rw [binNePr,decide_eq_true rfl];rfl
def txD (d:MDe):ByteArray:=if rightC d.c then bytC d.c else d.s
theorem txD_size {d:MDe}(h:d.s.size<2^62):(txD d).size<2^62:=by
 unfold txD;by_cases hr:rightC d.c=true
 ·rw [if_pos hr];have:=txt_size d.c;unfold txt at this;rw [if_pos hr] at this;omega
 ·rw [if_neg hr];exact h
structure NmOk (x:Mc):Prop where
 len:x.tps.length<=20
 nm:∀ p∈x.tps,p.1.size<=2^40
theorem nm_new (z:Nat):NmOk (newM z):=⟨Nat.zero_le _,fun p h=>absurd h List.not_mem_nil⟩
theorem ins_mem {β:Type}{l:List (ByteArray×β)}{k:ByteArray}{v:β}{p:ByteArray×β}(h:p∈ins l k v):p=(k,v)\/p∈l:=by
 unfold ins at h;split at h
 ·rcases List.mem_or_eq_of_mem_set h with h|h
  ·exact .inr h
  ·exact .inl h
 ·rcases List.mem_append.1 h with h|h
  ·exact .inr h
  ·exact .inl (List.mem_singleton.1 h)
theorem doC_nm {x:Mc}{c:Cmd}(h:NmOk x)(hr:rightC c=true):NmOk (doC x c).1/\x.tps.length<=(doC x c).1.tps.length:=by
 have same:∀ {y:Mc},y.tps=x.tps->NmOk y/\x.tps.length<=y.tps.length:=fun {y} e=>⟨⟨by rw [e];exact h.len,by rw [e];exact h.nm⟩,by rw [e];exact Nat.le_refl _⟩
 unfold doC;split
 ·rename_i hk;unfold creM;split
  ·exact same rfl
  ·rename_i hg;split
   ·exact same rfl
   ·rename_i hl;have e:(ins x.tps c.topic (⟨c.topic,0,0,[],[]⟩ : Tp)).length=x.tps.length+1:=by rw [ins_new hg,List.length_append];rfl
    have hw:word c.topic=true:=right_word hr (by rw [hk];rfl);refine⟨⟨by show (ins x.tps c.topic _).length<=20;rw [e];omega,fun p hp=>?_⟩,by show _<=(ins x.tps c.topic _).length;rw [e];omega⟩;rcases ins_mem hp with rfl|hp
    ·have:=word_le hw;show c.topic.size<=_;omega
    ·exact h.nm p hp
 ·split
  ·unfold subM;split
   ·exact same rfl
   ·split
    ·exact same rfl
    ·split
     ·exact same rfl
     ·exact same rfl
  ·split
   ·unfold chgM;split
    ·exact same rfl
    ·rename_i y hy;have e:=ins_len_some (v:=(chgT y c).1) hy;refine⟨⟨by show (ins x.tps c.topic _).length<=20;rw [e];exact h.len,fun p hp=>?_⟩,by show _<=(ins x.tps c.topic _).length;rw [e];exact Nat.le_refl _⟩;rcases ins_mem hp with rfl|hp
     ·exact h.nm (c.topic,y) (gets_mem hy)
     ·exact h.nm p hp
   ·split
    ·unfold folM;split
     ·exact same rfl
     ·split
      ·exact same rfl
      ·exact same rfl
    ·unfold wanM;split
     ·exact same rfl
     ·exact same rfl
theorem step_nm {x:Mc}{s:ByteArray}(h:NmOk x):NmOk (stepM x s).1/\x.tps.length<=(stepM x s).1.tps.length:=by
 have h1:NmOk (cntM x s):=⟨h.len,h.nm⟩;unfold stepM;split
 ·exact⟨h1,Nat.le_refl _⟩
 ·rename_i he;exact doC_nm h1 (decC_right (Decidable.of_not_not he))
theorem fol_len (s:Sb)(y:Tp)(c:Cmd):(folS s y c).2.2.2.length<=y.recs.length:=by
 unfold folS;split
 ·exact Nat.zero_le _
 ·split
  ·show (pollS s y c.n).2.1.length<=_
   unfold pollS;split
   ·exact (pollL_sub s y c.n).length_le
   ·exact Nat.zero_le _
  ·split<;>exact Nat.zero_le _
theorem doC_len {n:Int}{x:Mc}(h:McOk n x)(c:Cmd):((doC x c).2.recs.length:Int)<=n:=by
 have hp:=h.pos;unfold doC;split
 ·unfold creM;split
  ·exact hp
  ·split<;>exact hp
 ·split
  ·unfold subM;split
   ·exact hp
   ·split
    ·exact hp
    ·split<;>exact hp
  ·split
   ·unfold chgM;split<;>exact hp
   ·split
    ·unfold folM;split
     ·exact hp
     ·split
      ·exact hp
      ·rename_i s hs _ y hy;have h1:=fol_len s y c;have h2:=(h.tp _ y hy).2.len;dsimp only;omega
    ·unfold wanM;split<;>exact hp
theorem step_len {n:Int}{x:Mc}(h:McOk n x)(s:ByteArray):((stepM x s).2.recs.length:Int)<=n+1:=by
 have hp:=h.pos;unfold stepM;split
 ·show ((0:Nat):Int)<=n+1;omega
 ·exact doC_len (cnt_ok h) _
end C17
