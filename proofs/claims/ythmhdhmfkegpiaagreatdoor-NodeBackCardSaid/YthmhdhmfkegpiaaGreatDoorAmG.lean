import Derived.Test.YthmhdhmfkegpiaaGreatDoorAmF
import Derived.Test.YthmhdhmfkegpiaaGreatDoorAmE
import Derived.Test.YthmhdhmfkegpiaaGreatDoorAmD
namespace Go.Am
set_option linter.unusedVariables false
set_option linter.unusedSimpArgs false
set_option linter.unusedSectionVars false
section
variable {P:Program}{tkr:Nat->Option Nat}{ops:Array Oper}{K:St->Prop}{i:Nat}{rest:List Oper}{d:Nat}{T:Nat->AVal}{M M':Mem}{ty:TypeId}{pos:String}{af:Array Edge}{x y:Operand}{ats:Array TypeId}
 {α:Type} {f:α->AVal} {zs:List AVal} {sz:Nat}
end
end Go.Am
namespace Go.Am
set_option linter.unusedVariables false
set_option linter.unusedSimpArgs false
end Go.Am
namespace Go.Am
set_option linter.unusedVariables false
set_option linter.unusedSimpArgs false
end Go.Am
namespace Go.Am
set_option linter.unusedVariables false
set_option linter.unusedSimpArgs false
end Go.Am
namespace Go.Am
open Go.Deep Go.WideShapes Go.ChangeShapes Go.RowKit
set_option linter.unusedSimpArgs false
section
variable {H:Type}{enc:TypeId×Value->H}{P:Program}{w:World}{spare:Nat->Bool}{held:Bool}
theorem inner_sl {α:Type}(f:α->AVal)(wf:α->Prop){t e:TypeId}(ht:P.underlying t=some (.slice e))(hc:P.cellsOf e=1)
 (elem:∀ m v d pl,DataW.trod enc P w 0 spare held m e [v]=some (d,pl)->∃ a,wf a/\Rep P (imm0 w) w (f a) v/\(f a).cells=[f a])
 {fuel:Nat} {v:Value} {x:DataW H×List MemPlace} (h:DataW.trod enc P w 0 spare held fuel t [v]=some x) :
 ∃ l:List α,Rep P (imm0 w) w (.sl (l.map f) false) v/\(∀ a∈l,wf a)/\((x.1 = .nil/\l=[])\/∃ y r,x.1 = .slice y r/\l.length=y.length):=by
 rcases open_slice1 ht hc h with ⟨hv,hx⟩|⟨a,len,cap,m,n,V,D,Pl,hv,hb,hl,hm,hmm,hx,hel⟩
 ·obtain rfl:=(List.cons.inj hv).1;exact⟨[],.nil false,(fun a h=>by cases h),.inl ⟨congrArg Prod.fst hx,rfl⟩⟩
 ·obtain rfl:=(List.cons.inj hv).1;have hlm:len<=m:=by rw [hmm];split<;>omega
  have hd:x.1 = .slice ((List.range len).map D) ((List.range (m - len)).map fun j=>D (len+j)):=congrArg Prod.fst hx;have hch:∀ i:Fin len,∃ a,wf a/\Rep P (imm0 w) w (f a) (V i)/\(f a).cells=[f a]:=fun i=>elem _ _ _ _ (hel i (by omega)).2
  obtain⟨g,hg⟩:=Classical.axiomOfChoice hch;have hll:(List.ofFn g).length=len:=List.length_ofFn;have hget:∀ (j:Nat) c,((List.ofFn g).map f)[j]? = some c->∃ hj:j<len,c=f (g ⟨j,hj⟩):=fun j c h=>by
   have hj:j<len:=by
    rcases Nat.lt_or_ge j len with h1|h1
    ·exact h1
    ·rw [List.getElem?_eq_none (by rw [List.length_map,hll];exact h1)] at h;cases h
   refine⟨hj,?_⟩;rw [List.getElem?_map,List.getElem?_ofFn,dif_pos hj] at h;exact (Option.some.inj h).symm
  have hun:∀ e∈(List.ofFn g).map f,e.cells=[e]:=fun e he=>by
   obtain⟨j,hj⟩:=List.mem_iff_getElem?.1 he;obtain⟨h1,rfl⟩:=hget j e hj;exact (hg _).2.2
  refine⟨List.ofFn g,?_,?_,.inr ⟨_,_,hd,by rw [hll];simp⟩⟩
  ·by_cases h0:len=0
   ·subst h0;exact .emp false (some a) cap fun h=>by cases h
   ·obtain⟨b,off,sp⟩:=a;have hsp:sp=none:=by simpa [Addr.add] using World.cell?_spot (hel 0 (by omega)).1
    subst hsp;have hf:=flat_units hun;have hn:((List.ofFn g).map f).length=len:=by rw [List.length_map,hll]
    have:Rep P (imm0 w) w (.sl ((List.ofFn g).map f) false) (.slice (some ⟨b,off,none⟩) ((List.ofFn g).map f).length cap):=by
     have hcl:∀ j,j<len->w.cell? ⟨b,off+j,none⟩=some (V j):=fun j hj=>by
      have:=(hel j (by omega)).1;rw [addr_add] at this;exact this
     refine .sl _ false b off cap 1 V (by rw [hn];exact hl) (fun e he=>by rw [hun e he];rfl) (fun j hj=>?_) (fun j hj=>?_) (fun j c hc=>?_) fun h=>by cases h
     ·rw [hf,hn] at hj;exact imm0_cell (hcl j hj) _
     ·rw [hf,hn] at hj;exact hcl j hj
     ·rw [hf] at hc;obtain⟨h1,rfl⟩:=hget j c hc;exact (hg _).2.1
    rw [hn] at this;exact this
  ·intro a ha;obtain⟨j,hj⟩:=List.mem_iff_getElem?.1 ha;rw [List.getElem?_ofFn] at hj;split at hj
   ·rw [← Option.some.inj hj];exact (hg _).1
   ·cases hj
end
end Go.Am
