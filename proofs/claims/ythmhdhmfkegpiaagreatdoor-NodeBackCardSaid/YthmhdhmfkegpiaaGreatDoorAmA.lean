import Derived.Calls
import Derived.Orders
import Derived.LoopN
import Derived.Laws.Sem
namespace Go.Am
inductive AVal where
 | undef
 | raw (v:Value)
 | sl (l:List AVal) (own:Bool)
 | sptr (l:List AVal) (i off:Nat)
 | agg (cs:List AVal)
 | tup (vs:List AVal)
 deriving Inhabited
def AVal.cells:AVal->List AVal
 | .agg cs=>cs
 | v=>[v]
def flat (l:List AVal):List AVal:=l.flatMap AVal.cells
def AVal.shut1:AVal->AVal
 | .sl l _=>.sl l false
 | v=>v
def AVal.shut:AVal->AVal
 | .tup vs=>.tup (vs.map AVal.shut1)
 | v=>v.shut1
inductive AObj where
 | cells (l:List AVal)
 | map (es:List (Value×AVal))
 | it (o:Obj)
 deriving Inhabited
abbrev Mem:=Nat->Option AObj
def Mem.upd (M:Mem)(b:Nat)(o:AObj):Mem:=fun c=>if c=b then some o else M c
inductive Tag where
 | free|imm|frame
 | slot (t:Nat)
 | mslot (b j:Nat)
abbrev Ghost:=Nat->Nat->Tag
def esz (P:Program)(w:World)(b:Nat):Nat :=
 match w.shape? b with
 | some (e,_)=>((P.info? e).map (·.size)).getD 0
 | none=>0
inductive Rep (P:Program) (κ:Ghost) (w:World):AVal->Value->Prop
 | undef (v:Value):Rep P κ w .undef v
 | raw (v:Value):Rep P κ w (.raw v) v
 | nil (own:Bool):Rep P κ w (.sl [] own) (.slice none 0 0)
 | sl (l:List AVal) (own:Bool) (b off cap sz:Nat) (cv:Nat->Value)
  (hcap:l.length<=cap) (hsz:∀ e∈l,e.cells.length=sz)
  (hk:∀ j,j<(flat l).length->κ b (off+j) = .imm)
  (hw:∀ j,j<(flat l).length->w.cell? ⟨b,off+j,none⟩=some (cv j))
  (hr:∀ j c,(flat l)[j]? = some c->Rep P κ w c (cv j))
  (ho:own=true->cap=l.length\/(l≠[]/\esz P w b=sz/\b<w.heap.size)):Rep P κ w (.sl l own) (.slice (some ⟨b,off,none⟩) l.length cap)
 | sptr (l:List AVal) (i o:Nat) (b off sz:Nat) (cv:Nat->Value)
  (hsz:∀ e∈l,e.cells.length=sz)
  (hk:∀ j,j<(flat l).length->κ b (off+j) = .imm)
  (hw:∀ j,j<(flat l).length->w.cell? ⟨b,off+j,none⟩=some (cv j))
  (hr:∀ j c,(flat l)[j]? = some c->Rep P κ w c (cv j)):Rep P κ w (.sptr l i o) (.pointer (some ⟨b,off+(i*sz+o),none⟩))
 | agg (cs:List AVal) (vs:Array Value) (hl:cs.length=vs.size)
  (hr:∀ (i:Nat) c v,cs[i]? = some c->vs[i]? = some v->Rep P κ w c v):Rep P κ w (.agg cs) (.agg vs)
 | tup (cs:List AVal) (vs:Array Value) (hl:cs.length=vs.size)
  (hr:∀ (i:Nat) c v,cs[i]? = some c->vs[i]? = some v->Rep P κ w c v):Rep P κ w (.tup cs) (.tuple vs)
 | emp (own:Bool) (a:Option Addr) (cap:Nat) (h:own=true->cap=0):Rep P κ w (.sl [] own) (.slice a 0 cap)
def Spare1 (P:Program)(w:World)(V:AVal)(v:Value)(b o:Nat):Prop :=
 ∃ l off cap,V = .sl l true/\v = .slice (some ⟨b,off,none⟩) l.length cap/\off+l.length*esz P w b<=o/\o<off+cap*esz P w b
def Spare (P:Program)(w:World)(V:AVal)(v:Value)(b o:Nat):Prop :=
 Spare1 P w V v b o\/∃ (Vs:List AVal) (vs:Array Value) (i:Nat) (X:AVal) (x:Value),V = .tup Vs/\v = .tuple vs/\Vs[i]? = some X/\vs[i]? = some x/\Spare1 P w X x b o
theorem Spare.sl {P:Program}{w:World}{l:List AVal}{own:Bool}{v:Value}{b o:Nat}(h:Spare P w (.sl l own) v b o):Spare1 P w (.sl l own) v b o:=by
 rcases h with h|⟨Vs,vs,i,X,x,h,-⟩
 ·exact h
 ·cases h
def Wr (w:World)(b o:Nat):Prop:=(w.cell? ⟨b,o,none⟩).isSome=true/\w.frozen? ⟨b,o,none⟩=false
def one:Value->Bool
 | .agg _ | .tuple _=>false
 | _=>true
def RepO (P:Program)(κ:Ghost)(w:World)(b:Nat):AObj->Prop
 | .cells l=>∃ c e fr,w.heap[b]? = some (.cells c e fr)/\c.size=l.length/\(∀ o,o<c.size->w.frozen? ⟨b,o,none⟩=false) ∧
  ∀ (j:Nat) V v,l[j]? = some V->c[j]? = some v->Rep P κ w V v/\one v=true/\∀ b' o',Spare P w V v b' o'->κ b' o' = .mslot b j
 | .it o=>w.heap[b]? = some o/\True
 | .map es=>∃ (ents:Array MapEntry) (clock:Nat),w.heap[b]? = some (.map ents clock)/\ents.size=es.length ∧
  (∀ (j:Nat) e ent,es[j]? = some e->ents[j]? = some ent->ent.key=e.1/\Rep P κ w e.2 ent.val/\∀ b' o',Spare P w e.2 ent.val b' o'->κ b' o' = .mslot b j) ∧
  (∀ (j:Nat) ent,ents[j]? = some ent->ent.born<clock) ∧
  ∀ (i j:Nat) x y,ents[i]? = some x->ents[j]? = some y->x.born=y.born->i=j
def GlobO:AObj->Prop
 | .it (.cells _ _ _)=>True
 | _=>False
def TagM (t:Tag)(m:Option AObj):Prop:=∀ p,m=some p->t = .imm/\GlobO p
theorem TagM.none (t:Tag):TagM t .none:=fun p h=>by cases h
theorem TagM.to {t t':Tag}{m:Option AObj}(h:TagM t m)(hi:t = .imm->t' = .imm):TagM t' m:=fun p hp=>⟨hi (h p hp).1,(h p hp).2⟩
theorem TagM.out {t:Tag}{m:Option AObj}(h:TagM t m)(ht:t ≠ .imm):m = .none:=by
 cases m with
 | none=>rfl
 | some p=>exact absurd (h p rfl).1 ht
structure Holds (P:Program)(κ:Ghost)(T:Nat->AVal)(V:Nat->Value)(M:Mem)(w:World):Prop where
 tmp:∀ t,Rep P κ w (T t) (V t)
 obj:∀ b o,M b=some o->RepO P κ w b o
 tag:∀ b o,κ b o ≠ .free->b<w.heap.size/\TagM (κ b o) (M b)
 sp:∀ t b o,Spare P w (T t) (V t) b o->κ b o = .slot t
 wr:∀ b o t,κ b o = .slot t->Wr w b o
 mwr:∀ b o c j,κ b o = .mslot c j->Wr w b o
structure Keep (κ:Ghost)(w:World)(κ':Ghost)(w':World):Prop where
 os:w'.os=w.os
 tape:w'.tape=w.tape
 output:w'.output=w.output
 size:w.heap.size<=w'.heap.size
 shape:∀ b,b<w.heap.size->w'.shape? b=w.shape? b
 imm:∀ b o,κ b o = .imm->κ' b o = .imm/\w'.cell? ⟨b,o,none⟩=w.cell? ⟨b,o,none⟩
 frame:∀ b o,κ b o = .frame->κ' b o = .frame/\w'.cell? ⟨b,o,none⟩=w.cell? ⟨b,o,none⟩/\w'.frozen? ⟨b,o,none⟩=w.frozen? ⟨b,o,none⟩
 block:∀ b,b<w.heap.size->(∀ o,κ b o = .imm\/κ b o = .frame)->w'.heap[b]? = w.heap[b]?
theorem Keep.refl (κ:Ghost)(w:World):Keep κ w κ w :=
 ⟨rfl,rfl,rfl,Nat.le_refl _,fun _ _=>rfl,fun _ _ h=>⟨h,rfl⟩,fun _ _ h=>⟨h,rfl,rfl⟩,fun _ _ _=>rfl⟩
theorem Keep.trans {κ₁ κ₂ κ₃:Ghost}{w₁ w₂ w₃:World}(h:Keep κ₁ w₁ κ₂ w₂)(k:Keep κ₂ w₂ κ₃ w₃):Keep κ₁ w₁ κ₃ w₃ where
 os:=k.os.trans h.os
 tape:=k.tape.trans h.tape
 output:=k.output.trans h.output
 size:=Nat.le_trans h.size k.size
 shape b hb:=(k.shape b (Nat.lt_of_lt_of_le hb h.size)).trans (h.shape b hb)
 imm b o hb:=by
  obtain⟨h1,h2⟩:=h.imm b o hb;obtain⟨h3,h4⟩:=k.imm b o h1;exact⟨h3,h4.trans h2⟩
 frame b o hb:=by
  obtain⟨h1,h2,h2'⟩:=h.frame b o hb;obtain⟨h3,h4,h4'⟩:=k.frame b o h1;exact⟨h3,h4.trans h2,h4'.trans h2'⟩
 block b hb hp:=by
  refine (k.block b (Nat.lt_of_lt_of_le hb h.size) fun o=>?_).trans (h.block b hb hp);rcases hp o with h1|h1
  ·exact .inl (h.imm b o h1).1
  ·exact .inr (h.frame b o h1).1
theorem esz_shape {P:Program}{w w':World}{b:Nat}(h:w'.shape? b=w.shape? b):esz P w' b=esz P w b:=by
 unfold esz;rw [h]
theorem Rep.keep {P:Program}{κ κ':Ghost}{w w':World}(himm:∀ b o,κ b o = .imm->κ' b o = .imm/\w'.cell? ⟨b,o,none⟩=w.cell? ⟨b,o,none⟩)
 (hsh:∀ b,b<w.heap.size->w'.shape? b=w.shape? b) (hs:w.heap.size<=w'.heap.size) {V:AVal} {v:Value} (h:Rep P κ w V v):Rep P κ' w' V v:=by
 induction h with
 | undef v=>exact .undef v
 | raw v=>exact .raw v
 | nil own=>exact .nil own
 | sl l own b off cap sz cv hcap hsz hk hw hr ho ih =>
  exact .sl l own b off cap sz cv hcap hsz (fun j hj=>(himm _ _ (hk j hj)).1) (fun j hj=>((himm _ _ (hk j hj)).2).trans (hw j hj)) ih
   (fun e=>(ho e).imp id fun ⟨h0,h1,h2⟩=>⟨h0,(esz_shape (hsh b h2)).trans h1,Nat.lt_of_lt_of_le h2 hs⟩)
 | sptr l i o b off sz cv hsz hk hw hr ih =>
  exact .sptr l i o b off sz cv hsz (fun j hj=>(himm _ _ (hk j hj)).1) (fun j hj=>((himm _ _ (hk j hj)).2).trans (hw j hj)) ih
 | agg cs vs hl hr ih=>exact .agg cs vs hl ih
 | tup cs vs hl hr ih=>exact .tup cs vs hl ih
 | emp own a cap h0=>exact .emp own a cap h0
theorem Keep.rep {P:Program}{κ κ':Ghost}{w w':World}(k:Keep κ w κ' w'){V:AVal}{v:Value}(h:Rep P κ w V v):Rep P κ' w' V v :=
 h.keep k.imm k.shape k.size
theorem Rep.shut1 {P:Program}{κ:Ghost}{w:World}{V:AVal}{v:Value}(h:Rep P κ w V v):Rep P κ w V.shut1 v:=by
 cases h with
 | undef v=>exact .undef v
 | raw v=>exact .raw v
 | nil own=>exact .nil false
 | sl l own b off cap sz cv hcap hsz hk hw hr ho=>exact .sl l false b off cap sz cv hcap hsz hk hw hr (fun h=>by cases h)
 | sptr l i o b off sz cv hsz hk hw hr=>exact .sptr l i o b off sz cv hsz hk hw hr
 | agg cs vs hl hr=>exact .agg cs vs hl hr
 | tup cs vs hl hr=>exact .tup cs vs hl hr
 | emp own a cap h0=>exact .emp false a cap fun h=>by cases h
theorem Rep.shut {P:Program}{κ:Ghost}{w:World}{V:AVal}{v:Value}(h:Rep P κ w V v):Rep P κ w V.shut v:=by
 cases h with
 | tup cs vs hl hr =>
  refine .tup _ vs (by rw [List.length_map];exact hl) fun i c v h1 h2=>?_
  rw [List.getElem?_map] at h1;cases hc:cs[i]? with
  | none=>rw [hc] at h1;cases h1
  | some c' =>
   rw [hc] at h1;obtain rfl:=Option.some.inj h1;exact (hr i c' v hc h2).shut1
 | undef v=>exact .undef v
 | raw v=>exact .raw v
 | nil own=>exact .nil false
 | sl l own b off cap sz cv hcap hsz hk hw hr ho=>exact .sl l false b off cap sz cv hcap hsz hk hw hr (fun h=>by cases h)
 | sptr l i o b off sz cv hsz hk hw hr=>exact .sptr l i o b off sz cv hsz hk hw hr
 | agg cs vs hl hr=>exact .agg cs vs hl hr
 | emp own a cap h0=>exact .emp false a cap fun h=>by cases h
theorem Spare1.not_shut1 {P:Program}{w:World}{V:AVal}{v:Value}{b o:Nat}(h:Spare1 P w V.shut1 v b o):False:=by
 obtain⟨l,off,cap,h1,-⟩:=h;cases V<;>simp [AVal.shut1] at h1
theorem Spare.not_shut {P:Program}{w:World}{V:AVal}{v:Value}{b o:Nat}(h:Spare P w V.shut v b o):False:=by
 rcases h with ⟨l,off,cap,h1,-⟩|⟨Vs,vs,i,X,x,h1,h2,h3,h4,h5⟩
 ·cases V<;>simp [AVal.shut,AVal.shut1] at h1
 ·cases V<;>simp [AVal.shut,AVal.shut1] at h1;subst h1;rw [List.getElem?_map] at h3;simp only [Option.map_eq_some_iff] at h3;obtain⟨Y,-,rfl⟩:=h3;exact h5.not_shut1
theorem Spare.not_raw {P:Program}{w:World}{v u:Value}{b o:Nat}(h:Spare P w (.raw u) v b o):False:=by
 rcases h with ⟨l,off,cap,h1,-⟩|⟨Vs,vs,i,X,x,h1,-⟩<;>cases h1
def AVal.free1:AVal->Prop
 | .sl _ true=>False
 | _=>True
def AVal.free:AVal->Prop
 | .sl _ true=>False
 | .tup vs=>∀ v∈vs,v.free1
 | _=>True
theorem Spare1.not_free1 {P:Program}{w:World}{V:AVal}{v:Value}{b o:Nat}(hf:V.free1)(h:Spare1 P w V v b o):False:=by
 obtain⟨l,off,cap,h1,-⟩:=h;subst h1;exact hf
theorem Spare.not_free {P:Program}{w:World}{V:AVal}{v:Value}{b o:Nat}(hf:V.free)(h:Spare P w V v b o):False:=by
 rcases h with ⟨l,off,cap,h1,-⟩|⟨Vs,vs,i,X,x,h1,h2,h3,h4,h5⟩
 ·subst h1;exact hf
 ·subst h1;exact h5.not_free1 (hf X (List.mem_of_getElem? h3))
theorem AVal.shut1_free1 (V:AVal):V.shut1.free1:=by cases V<;>simp [AVal.shut1,AVal.free1]
theorem AVal.shut_free (V:AVal):V.shut.free:=by
 cases V with
 | tup vs =>
  intro v hv;obtain⟨u,-,rfl⟩:=List.mem_map.1 hv;exact u.shut1_free1
 | _=>simp [AVal.shut,AVal.shut1,AVal.free]
theorem Spare1.keep {P:Program}{κ:Ghost}{w w':World}{V:AVal}{v:Value}{b o:Nat}(hr:Rep P κ w V v)(hsh:∀ b,b<w.heap.size->w'.shape? b=w.shape? b)
 (h:Spare1 P w' V v b o):Spare1 P w V v b o:=by
 obtain⟨l,off,cap,rfl,rfl,h1,h2⟩:=h;cases hr with
 | sl l' own b' off' cap' sz cv hcap hsz hk hw hr ho =>
  rcases ho rfl with h3|h3
  ·rw [h3] at h2;omega
  ·have he:=esz_shape (P:=P) (hsh b h3.2.2);rw [he] at h1 h2;exact⟨l,off,cap,rfl,rfl,h1,h2⟩
 | emp _ _ _ h0 =>
  have:=h0 rfl;subst this;simp at h1 h2;omega
theorem Spare.keep {P:Program}{κ:Ghost}{w w':World}{V:AVal}{v:Value}{b o:Nat}(hr:Rep P κ w V v)(hsh:∀ b,b<w.heap.size->w'.shape? b=w.shape? b)
 (h:Spare P w' V v b o):Spare P w V v b o:=by
 rcases h with h|⟨Vs,vs,i,X,x,rfl,rfl,h3,h4,h5⟩
 ·exact .inl (h.keep hr hsh)
 ·cases hr with
  | tup _ _ hl hr=>exact .inr ⟨Vs,vs,i,X,x,rfl,rfl,h3,h4,h5.keep (hr i X x h3 h4) hsh⟩
def push (w:World)(o:Obj):World:={ w with heap:=w.heap.push o }
theorem push_old (w:World)(o:Obj){b:Nat}(h:b<w.heap.size):(push w o).heap[b]? = w.heap[b]?:=by
 show (w.heap.push o)[b]? = _
 rw [Array.getElem?_push,if_neg (by omega)]
theorem push_new (w:World)(o:Obj):(push w o).heap[w.heap.size]? = some o:=by
 show (w.heap.push o)[w.heap.size]? = _
 simp
theorem cell_of_block {w w':World}{a:Addr}(h:w'.heap[a.block]? = w.heap[a.block]?):w'.cell? a=w.cell? a:=by
 unfold World.cell?;rw [h]
theorem frozen_of_block {w w':World}{a:Addr}(h:w'.heap[a.block]? = w.heap[a.block]?):w'.frozen? a=w.frozen? a:=by
 unfold World.frozen?;rw [h]
theorem shape_of_block {w w':World}{b:Nat}(h:w'.heap[b]? = w.heap[b]?):w'.shape? b=w.shape? b:=by
 unfold World.shape?;rw [h]
theorem Keep.push {κ:Ghost}{w:World}(o:Obj)(htag:∀ b o,κ b o ≠ .free->b<w.heap.size):Keep κ w κ (push w o) where
 os:=rfl
 tape:=rfl
 output:=rfl
 size:=by show _<=(w.heap.push o).size;simp
 shape b hb:=shape_of_block (push_old w o hb)
 imm b x h:=⟨h,cell_of_block (push_old w o (htag b x (by rw [h];simp)))⟩
 frame b x h:=⟨h,cell_of_block (push_old w o (htag b x (by rw [h];simp))),frozen_of_block (push_old w o (htag b x (by rw [h];simp)))⟩
 block b hb _:=push_old w o hb
theorem setCell_heap_ne (w:World)(a:Addr)(u:Value){k:Nat}(h:k≠a.block):(w.setCell a u).heap[k]? = w.heap[k]?:=by
 simp only [World.setCell,Array.getElem?_modify];rw [if_neg (by omega)]
theorem setCell_heap (w:World)(b o:Nat)(u:Value){c:Array Value}{e:TypeId}{fr:Nat×Nat}(h:w.heap[b]? = some (.cells c e fr)) :
 (w.setCell ⟨b,o,none⟩ u).heap[b]? = some (.cells (c.setIfInBounds o u) e fr):=by
 simp only [World.setCell,Array.getElem?_modify,if_true,h,Option.map_some];rfl
theorem setCell_shape (w:World)(b o:Nat)(u:Value)(k:Nat):(w.setCell ⟨b,o,none⟩ u).shape? k=w.shape? k:=by
 by_cases hk:k=b
 ·subst hk;unfold World.shape?;simp only [World.setCell,Array.getElem?_modify,if_true];cases hh:w.heap[k]? with
  | none=>rfl
  | some ob=>cases ob<;>simp
 ·exact shape_of_block (setCell_heap_ne w _ u hk)
theorem setCell_frozen (w:World)(b o:Nat)(u:Value)(a:Addr):(w.setCell ⟨b,o,none⟩ u).frozen? a=w.frozen? a:=by
 by_cases hk:a.block=b
 ·unfold World.frozen?;simp only [World.setCell,Array.getElem?_modify,hk,if_true];cases hh:w.heap[b]? with
  | none=>rfl
  | some ob=>cases ob<;>simp
 ·exact frozen_of_block (setCell_heap_ne w _ u hk)
theorem setCell_cell_ne (w:World)(b o:Nat)(u:Value)(b' o':Nat)(h:¬ (b'=b/\o'=o)):(w.setCell ⟨b,o,none⟩ u).cell? ⟨b',o',none⟩=w.cell? ⟨b',o',none⟩:=by
 by_cases hk:b'=b
 ·subst hk;have ho:o'≠o:=fun e=>h ⟨rfl,e⟩
  unfold World.cell?;simp only [World.setCell,Array.getElem?_modify,if_true];cases hh:w.heap[b']? with
  | none=>rfl
  | some ob =>
   cases ob<;>simp;rw [Array.getElem?_setIfInBounds_ne (Ne.symm ho)]
 ·exact cell_of_block (setCell_heap_ne w _ u hk)
theorem setCell_cell_eq (w:World)(b o:Nat)(u:Value)(h:(w.cell? ⟨b,o,none⟩).isSome=true):(w.setCell ⟨b,o,none⟩ u).cell? ⟨b,o,none⟩=some u:=by
 unfold World.cell? at *
 simp only [World.setCell,Array.getElem?_modify,if_true];cases hh:w.heap[b]? with
 | none=>rw [hh] at h;simp at h
 | some ob =>
  rw [hh] at h;cases ob<;>simp at h ⊢;rw [Array.getElem?_setIfInBounds_self_of_lt h]
theorem setCell_size (w:World)(a:Addr)(u:Value):(w.setCell a u).heap.size=w.heap.size:=by
 simp [World.setCell]
theorem setCell_isSome (w:World)(b o:Nat)(u:Value)(b' o':Nat):((w.setCell ⟨b,o,none⟩ u).cell? ⟨b',o',none⟩).isSome=(w.cell? ⟨b',o',none⟩).isSome:=by
 by_cases h:b'=b/\o'=o
 ·obtain⟨rfl,rfl⟩:=h;cases hs:(w.cell? ⟨b',o',none⟩).isSome with
  | true=>rw [setCell_cell_eq w b' o' u hs];rfl
  | false =>
   unfold World.cell? at *
   simp only [World.setCell,Array.getElem?_modify,if_true];cases hh:w.heap[b']? with
   | none=>rfl
   | some ob =>
    rw [hh] at hs;cases ob<;>simp at hs ⊢;exact hs
 ·rw [setCell_cell_ne w b o u b' o' h]
theorem Keep.setCell {κ:Ghost}{w:World}{b o:Nat}(u:Value)(h1:κ b o ≠ .imm)(h2:κ b o ≠ .frame):Keep κ w κ (w.setCell ⟨b,o,none⟩ u) where
 os:=rfl
 tape:=rfl
 output:=rfl
 size:=by rw [setCell_size];exact Nat.le_refl _
 shape k _:=setCell_shape w b o u k
 imm b' o' h:=⟨h,setCell_cell_ne w b o u b' o' fun ⟨e1,e2⟩=>h1 (by rw [← e1,← e2];exact h)⟩
 frame b' o' h:=⟨h,setCell_cell_ne w b o u b' o' fun ⟨e1,e2⟩=>h2 (by rw [← e1,← e2];exact h),setCell_frozen w b o u _⟩
 block b' hb h:=setCell_heap_ne w _ u fun e=>by
  rcases h o with h'|h'
  ·exact h1 (by rw [← (show b'=b from e)];exact h')
  ·exact h2 (by rw [← (show b'=b from e)];exact h')
end Go.Am
namespace Go.Am
def pr (P:Program){α:Type}:Sem α->Option α
 | .pure a=>some a
 | .program k=>pr P (k P)
 | .mark _ k=>pr P k
 | _=>none
theorem pr_run {P:Program}{α:Type}{s:Sem α}{a:α}(h:pr P s=some a)(w:World):s.run P w = .ok a w:=by
 induction s with
 | pure x=>simp only [pr,Option.some.injEq] at h;subst h;rfl
 | program k ih=>exact ih P h
 | mark m k ih=>exact ih h
 | _=>simp [pr] at h
theorem pr_bind {P:Program}{α β:Type}(s:Sem α)(f:α->Sem β):pr P (s.bind f)=(pr P s).bind fun a=>pr P (f a):=by
 induction s with
 | pure x=>rfl
 | program k ih=>exact ih P
 | mark m k ih=>exact ih
 | _=>rfl
def sizeT (P:Program)(t:TypeId):Option Nat:=(P.info? t).map (·.size)
def aggT (P:Program)(t:TypeId):Option Bool :=
 match P.underlying t with
 | some (.struct _)|some (.array _ _)=>some true
 | some _=>some false
 | none=>none
def fieldT (P:Program)(t:TypeId)(f:Nat):Option Field :=
 match P.underlying t with
 | some (.struct fs)=>fs[f]?
 | _=>none
theorem run_sizeT {P:Program}{t:TypeId}{n:Nat}(h:sizeT P t=some n)(w:World):(sizeOf t).run P w = .ok n w:=by
 unfold sizeT at h;cases hi:P.info? t with
 | none=>rw [hi] at h;cases h
 | some i =>
  rw [hi] at h;simp only [Option.map_some,Option.some.injEq] at h;subst h;refine pr_run ?_ w;show pr P ((typeInfo t).bind _)=_
  rw [pr_bind];show (pr P (Sem.bind program _)).bind _=_
  rw [pr_bind];show (pr P (match P.info? t with | some i => pure i | none => stuck "no such type")).bind _ = _
  rw [hi];rfl
theorem pr_sizeT {P:Program}{t:TypeId}{n:Nat}(h:sizeT P t=some n):pr P (sizeOf t)=some n:=by
 unfold sizeT at h;cases hi:P.info? t with
 | none=>rw [hi] at h;cases h
 | some i =>
  rw [hi] at h;simp only [Option.map_some,Option.some.injEq] at h;subst h;show pr P ((typeInfo t).bind _)=_
  rw [pr_bind];show (pr P (Sem.bind program _)).bind _=_
  rw [pr_bind];show (pr P (match P.info? t with | some i => pure i | none => stuck "no such type")).bind _ = _
  rw [hi];rfl
theorem pr_underlying {P:Program}{t:TypeId}{d:TypeDesc}(h:P.underlying t=some d):pr P (underlying t)=some d:=by
 show pr P (Sem.bind program _)=_
 rw [pr_bind];show pr P (match P.underlying t with | some d => pure d | none => stuck "no such type") = _
 rw [h];rfl
theorem pr_aggT {P:Program}{t:TypeId}{b:Bool}(h:aggT P t=some b):pr P (isAgg t)=some b:=by
 unfold aggT at h;cases hu:P.underlying t with
 | none=>rw [hu] at h;cases h
 | some d =>
  rw [hu] at h;show pr P ((underlying t).bind _)=_
  rw [pr_bind,pr_underlying hu];cases d<;>simp only [Option.some.injEq] at h<;>subst h<;>rfl
def ofConst:Value->AVal
 | .agg cs=>.agg (cs.toList.map .raw)
 | .slice none 0 0=>.sl [] true
 | v=>.raw v
theorem ofConst_rep {P:Program}{κ:Ghost}{w:World}(v:Value):Rep P κ w (ofConst v) v:=by
 unfold ofConst;split
 ·rename_i cs;refine .agg _ _ (by simp) fun i c v h1 h2=>?_
  simp only [List.getElem?_map,Array.getElem?_toList] at h1;rw [h2] at h1;simp only [Option.map_some,Option.some.injEq] at h1;subst h1;exact .raw v
 ·exact .nil true
 ·exact .raw _
def ev (T:Nat->AVal):Operand->AVal
 | .tmp t=>T t
 | .const v=>ofConst v
 | .global g=>.raw (.pointer (some ⟨g,0,none⟩))
 | .func f=>.raw (.func (.func f) #[] #[])
theorem ev_rep {P:Program}{κ:Ghost}{w:World}{T:Nat->AVal}{a:Act}(hT:∀ t,Rep P κ w (T t) (a.eval (.tmp t)))(x:Operand):Rep P κ w (ev T x) (a.eval x):=by
 cases x with
 | tmp t=>exact hT t
 | const v=>exact ofConst_rep v
 | global g=>exact .raw _
 | func f=>exact .raw _
def rawCell:AVal->Option Value
 | .raw v=>some v
 | _=>none
def rawOf:AVal->Option Value
 | .raw v=>some v
 | .agg cs=>(cs.mapM rawCell).map fun vs=>.agg vs.toArray
 | _=>none
theorem mapM_raw {P:Program}{κ:Ghost}{w:World}:∀ (cs:List AVal) (us:List Value),(cs.mapM rawCell)=some us->∀ vs:List Value,cs.length=vs.length →
 (∀ (i:Nat) c v,cs[i]? = some c->vs[i]? = some v->Rep P κ w c v)->vs=us
 | [],us,h,vs,hl,_=>by
  simp at h;subst h;simpa using hl.symm
 | c::cs,us,h,vs,hl,hr=>by
  cases vs with
  | nil=>simp at hl
  | cons v vs =>
   rw [List.mapM_cons] at h;cases c with
   | raw u =>
    simp only [rawCell,Option.bind_eq_bind,Option.bind_some] at h;cases hm:cs.mapM rawCell with
    | none=>rw [hm] at h;cases h
    | some us' =>
     rw [hm] at h;simp only [Option.bind_some] at h;obtain rfl:=Option.some.inj h;have h1:=hr 0 (.raw u) v rfl rfl;cases h1;have:=mapM_raw cs us' hm vs (by simpa using hl) (fun i c v h1 h2=>hr (i+1) c v (by simpa using h1) (by simpa using h2));rw [this]
   | _=>simp [rawCell] at h
theorem rawOf_rep {P:Program}{κ:Ghost}{w:World}{V:AVal}{v u:Value}(h:rawOf V=some u)(hr:Rep P κ w V v):v=u:=by
 cases V with
 | raw x =>
  simp only [rawOf,Option.some.injEq] at h;subst h;cases hr;rfl
 | agg cs =>
  cases hr with
  | agg _ vs hl hr =>
   simp only [rawOf,Option.map_eq_some_iff] at h;obtain⟨us,h1,rfl⟩:=h;have:=mapM_raw (P:=P) (κ:=κ) (w:=w) cs us h1 vs.toList (by simpa using hl) (fun i c v h1 h2=>hr i c v h1 (by simpa using h2));rw [← this]
 | _=>simp [rawOf] at h
def rawsOf (xs:List AVal):Option (List Value):=xs.mapM rawOf
def piece (agg:Bool)(cs:List AVal)(off n:Nat):Option AVal :=
 if agg then (if off+n<=cs.length then some (.agg ((cs.drop off).take n)) else none) else cs[off]?
theorem addr_add (b o n:Nat):(⟨b,o,none⟩ : Addr).add n=⟨b,o+n,none⟩:=by
 unfold Addr.add;split
 ·subst_vars;rfl
 ·rfl
theorem run_loadCellsFrom {P:Program}{w:World}{b o:Nat}(cv:Nat->Value):∀ (n i:Nat) (acc:Array Value),(∀ j,j<n->w.cell? ⟨b,o+(i+j),none⟩=some (cv (i+j))) →
 (loadCellsFrom ⟨b,o,none⟩ i n acc).run P w = .ok (acc++((List.range n).map fun j=>cv (i+j)).toArray) w
 | 0,i,acc,_=>by
  simp only [loadCellsFrom,List.range_zero,List.map_nil];show Result.ok _ w=_
  simp
 | n+1,i,acc,h=>by
  have h0:=h 0 (by omega);simp only [Nat.add_zero] at h0;show (Sem.load .plain ((⟨b,o,none⟩ : Addr).add i) fun v=>loadCellsFrom ⟨b,o,none⟩ (i+1) n (acc.push v)).run P w=_
  simp only [Sem.run,addr_add,h0];rw [run_loadCellsFrom cv n (i+1) _ fun j hj=>by
   have:=h (j+1) (by omega);rw [show i+(j+1)=i+1+j from by omega] at this;exact this]
  congr 1;apply Array.ext';simp only [Array.toList_append,Array.toList_push,List.append_assoc];congr 1;rw [List.range_succ_eq_map];simp only [List.map_cons,List.map_map,Nat.add_zero,List.singleton_append,List.cons.injEq,true_and];apply List.map_congr_left;intro j _;show cv _=cv _
  congr 1;omega
theorem run_loadCells {P:Program}{w:World}{b o n:Nat}(cv:Nat->Value)(h:∀ j,j<n->w.cell? ⟨b,o+j,none⟩=some (cv j)) :
 (loadCells ⟨b,o,none⟩ n).run P w = .ok ((List.range n).map cv).toArray w:=by
 have:=run_loadCellsFrom (P:=P) (w:=w) (b:=b) (o:=o) cv n 0 #[] (fun j hj=>by simpa using h j hj);simpa [loadCells] using this
theorem run_loadVar {P:Program}{κ:Ghost}{w:World}{t:TypeId}{b base off n:Nat}{ag:Bool}{cs:List AVal}{V:AVal}(cv:Nat->Value)(ha:aggT P t=some ag)(hn:sizeT P t=some n)
 (hw:∀ j,j<cs.length->w.cell? ⟨b,base+j,none⟩=some (cv j)) (hr:∀ (j:Nat) c,cs[j]? = some c->Rep P κ w c (cv j)) (h:piece ag cs off n=some V) :
 ∃ v,(loadVar t ⟨b,base+off,none⟩).run P w = .ok v w/\Rep P κ w V v:=by
 have e1:∀ (f:Bool->Sem Value),((isAgg t).bind f).run P w=(f ag).run P w:=fun f=>by
  show ((isAgg t) >>= f).run P w=_
  rw [Sem.run_bind,pr_run (pr_aggT ha) w];rfl
 have e2:∀ (f:Nat->Sem Value),((sizeOf t).bind f).run P w=(f n).run P w:=fun f=>by
  show ((sizeOf t) >>= f).run P w=_
  rw [Sem.run_bind,run_sizeT hn w];rfl
 show ∃ v,((isAgg t).bind _).run P w = .ok v w/\_
 rw [e1];cases ag with
 | true =>
  simp only [piece,if_true] at h;split at h
  ·rename_i hle;obtain rfl:=Option.some.inj h;refine⟨.agg ((List.range n).map fun j=>cv (off+j)).toArray,?_,?_⟩
   ·show ((sizeOf t).bind _).run P w=_
    rw [e2];show ((loadCells _ n) >>= _).run P w=_
    rw [Sem.run_bind,run_loadCells (fun j=>cv (off+j)) (fun j hj=>by rw [Nat.add_assoc];exact hw (off+j) (by omega))];rfl
   ·refine .agg _ _ (by simp;omega) fun i c v h1 h2=>?_
    simp only [List.getElem?_take,List.getElem?_drop] at h1;split at h1
    ·rename_i hi;simp [hi] at h2;subst h2;exact hr _ _ h1
    ·cases h1
  ·cases h
 | false =>
  simp only [piece,Bool.false_eq_true,if_false] at h;have hlt:off<cs.length:=by
   rcases Nat.lt_or_ge off cs.length with h'|h'
   ·exact h'
   ·rw [List.getElem?_eq_none h'] at h;cases h
  refine⟨cv off,?_,hr _ _ h⟩;show (load ⟨b,base+off,none⟩).run P w=_
  show (Sem.load .plain ⟨b,base+off,none⟩ .pure).run P w=_
  simp only [Sem.run,hw off hlt]
end Go.Am
namespace Go.Am
def loadP (P:Program)(t:TypeId)(cs:List AVal)(off:Nat):Option AVal :=
 match aggT P t,sizeT P t with
 | some ag,some n=>piece ag cs off n
 | _,_=>none
def raw1 (P:Program)(X:AVal)(f:Value->Sem Value):Option AVal :=
 match X with
 | .raw v=>(pr P (f v)).map .raw
 | _=>none
def isNilSlice:Operand->Bool
 | .const (.slice none _ _)=>true
 | _=>false
def aBin (P:Program)(op:BinOp)(t:TypeId)(x y:Operand)(X Y:AVal):Option AVal :=
 match X with
 | .sl l _ =>
  if isNilSlice y then
   if l.isEmpty then none else
   match P.underlying t with
   | some (.slice _)=>(match op with | .eql=>some (.raw (.bool false)) | .neq=>some (.raw (.bool true)) | _=>none)
   | _=>none
  else none
 | _ =>
  match rawOf X,rawOf Y with
  | some a,some b=>(pr P (eqGuard op t x y a b)).bind fun _=>(pr P (binOp op t a b)).map .raw
  | _,_=>none
def aFieldAddr (P:Program)(t:TypeId)(X:AVal)(f:Nat):Option AVal :=
 match fieldT P t f with
 | some fd =>
  match sizeT P fd.type with
  | some (_+1) =>
   (match X with
   | .raw (.pointer (some ⟨b,o,none⟩))=>some (.raw (.pointer (some ⟨b,o+fd.offset,none⟩)))
   | .sptr l i o=>some (.sptr l i (o+fd.offset))
   | _=>none)
  | _=>none
 | none=>none
def aField (P:Program)(t:TypeId)(X:AVal)(f:Nat):Option AVal :=
 match fieldT P t f with
 | some fd =>
  (match X with
  | .agg cs=>loadP P fd.type cs fd.offset
  | _=>none)
 | none=>none
def aIndexAddr (P:Program)(t:TypeId)(X I:AVal):Option AVal :=
 match I with
 | .raw (.int _ i) =>
  (match P.underlying t with
  | some (.slice e) =>
   match sizeT P e with
   | some sz =>
    (match X with
    | .sl l _=>if 0<=i/\i<(l.length:Int) then (match l[i.toNat]? with|some V=>if V.cells.length=sz then some (.sptr l i.toNat 0) else none|none=>none) else none
    | .raw (.slice (some ⟨b,o,none⟩) n _)=>if 0<=i/\i<(n:Int) then some (.raw (.pointer (some ⟨b,o+i.toNat*sz,none⟩))) else none
    | _=>none)
   | none=>none
  | some (.array n e) =>
   match sizeT P e with
   | some sz =>
    (match X with
    | .raw (.pointer (some ⟨b,o,none⟩))=>if 0<=i/\i<(n:Int) then some (.raw (.pointer (some ⟨b,o+i.toNat*sz,none⟩))) else none
    | .sptr l j o=>if 0<=i/\i<(n:Int) then some (.sptr l j (o+i.toNat*sz)) else none
    | _=>none)
   | none=>none
  | _=>none)
 | _=>none
def aIndex (P:Program)(t:TypeId)(X I:AVal):Option AVal :=
 match X,I with
 | .raw x,.raw i=>(pr P (Instr.index t x i)).map .raw
 | .agg cs,.raw (.int _ i) =>
  (match P.underlying t with
  | some (.array n e) =>
   match sizeT P e with
   | some sz=>if 0<=i/\i<(n:Int) then loadP P e cs (i.toNat*sz) else none
   | none=>none
  | _=>none)
 | _,_=>none
def aBound (T:Nat->AVal)(d:Nat):Option Operand->Option Nat
 | none=>some d
 | some x =>
  match ev T x with
  | .raw (.int _ i)=>if 0<=i then some i.toNat else none
  | _=>none
def aSlice (P:Program)(T:Nat->AVal)(t:TypeId)(X:AVal)(lo hi mx:Option Operand):Option AVal :=
 match X with
 | .sl l _ =>
  (match P.underlying t with
  | some (.slice e) =>
   match sizeT P e with
   | some sz =>
    if l.all fun V=>V.cells.length == sz then
     match aBound T 0 lo,aBound T l.length hi,aBound T l.length mx with
     | some a,some b,some m =>
      if a<=b/\b<=m/\m<=l.length/\(mx.isSome=true->hi.isSome=true) then some (.sl ((l.take b).drop a) (mx.isSome && decide (m=b))) else none
     | _,_,_=>none
    else none
   | none=>none
  | _=>none)
 | .raw v =>
  match lo.mapM fun x=>rawOf (ev T x),hi.mapM fun x=>rawOf (ev T x),mx.mapM fun x=>rawOf (ev T x) with
  | some a,some b,some m=>(pr P (Instr.sliceAt t v a b m)).map .raw
  | _,_,_=>none
 | _=>none
def AVal.unit:AVal->Bool
 | .raw v=>one v
 | .sl _ _ | .sptr _ _ _=>true
 | _=>false
def AVal.ok:AVal->Bool
 | .agg cs=>cs.all AVal.unit
 | V=>V.unit
def aFill (place:Nat->Option (Nat×Nat))(cells:List AVal):List (Nat×AVal)->Option (List AVal)
 | []=>some cells
 | (i,V)::rest =>
  match place i with
  | none=>none
  | some (off,size) =>
   if V.ok=false || V.cells.length≠size || off+V.cells.length > cells.length then none
   else aFill place (cells.take off++V.cells++cells.drop (off+V.cells.length)) rest
def zeroT (P:Program)(t:TypeId):Option Value:=(P.info? t).bind (·.zero)
def aPlaces (P:Program)(t:TypeId):Option (Nat->Option (Nat×Nat)) :=
 match P.underlying t with
 | some (.struct fs)=>(fs.mapM fun f=>(sizeT P f.type).map fun n=>(f.offset,n)).map fun ps i=>ps[i]?
 | some (.array _ e)=>(sizeT P e).map fun n i=>some (i*n,n)
 | _=>none
def aBuild (P:Program)(T:Nat->AVal)(t:TypeId)(parts:List (Nat×Operand)):Option AVal :=
 match zeroT P t,aPlaces P t with
 | some z,some pl=>(aFill pl (z.cells.toList.map .raw) (parts.map fun (i,x)=>(i,ev T x))).map .agg
 | _,_=>none
def aBuiltin (P:Program)(M:Mem)(b:Builtin)(argTypes:Array TypeId)(ty:TypeId)(args:List AVal):Option AVal :=
 match b with
 | .len =>
  (match args with
  | [.sl l _]=>(match (argTypes[0]?).bind P.underlying with|some (.slice _)=>some (.raw (.int .i64 l.length)) | _=>none)
  | [.raw (.map (some r))]=>(match (argTypes[0]?).bind P.underlying,M r with|some (.map _ _),some (.map es)=>some (.raw (.int .i64 es.length)) | _,_=>none)
  | [.raw v]=>(pr P (Builtin.len_ argTypes ty #[v])).map .raw
  | _=>none)
 | .max=>(rawsOf args).bind fun vs=>(pr P (Builtin.max_ argTypes ty vs.toArray)).map .raw
 | .min=>(rawsOf args).bind fun vs=>(pr P (Builtin.min_ argTypes ty vs.toArray)).map .raw
 | .complex=>(rawsOf args).bind fun vs=>(pr P (Builtin.complex_ argTypes ty vs.toArray)).map .raw
 | .real=>(rawsOf args).bind fun vs=>(pr P (Builtin.real_ argTypes ty vs.toArray)).map .raw
 | .imag=>(rawsOf args).bind fun vs=>(pr P (Builtin.imag_ argTypes ty vs.toArray)).map .raw
 | _=>none
def keyAt (P:Program)(kt:TypeId)(k:Value)(keys:List Value):Option (Option Nat) :=
 (pr P (Instr.findKey kt k (keys.map fun x=>⟨x,undef,0⟩))).map fun r=>r.map (·.1)
def entsM (M:Mem):Option Nat->Option (List (Value×AVal))
 | none=>some []
 | some r=>(match M r with|some (.map es)=>some es | _=>none)
def aLookup (P:Program)(M:Mem)(t:TypeId)(X K:AVal)(ok:Bool):Option AVal :=
 match P.underlying t with
 | some (.map kt et) =>
  (match X,rawOf K with
  | .raw (.map r),some k =>
   match entsM M r with
   | some es =>
    (match pr P (Instr.checkKey es.isEmpty 10000 kt k),keyAt P kt k (es.map (·.1)),zeroT P et with
    | some _,some at?,some z =>
     let V:=(at?.map fun i=>((es[i]?).map (·.2)).getD .undef).getD (ofConst z)
     some (if ok then .tup [V,.raw (.bool at?.isSome)] else V)
    | _,_,_=>none)
   | none=>none
  | _,_=>none)
 | _=>none
def u8of:AVal->Option UInt8
 | .raw (.int .u8 n)=>some (UInt8.ofNat n.toNat)
 | _=>none
def aStr (cs:List AVal):Option AVal:=(cs.mapM u8of).map fun bs=>.raw (.string ⟨bs.toArray⟩)
def b2s (P:Program)(s d:TypeId):Bool :=
 match P.underlying s,P.underlying d with
 | some (.slice e),some .string=>(match P.underlying e with|some (.int .u8)=>true | _=>false)
 | _,_=>false
def aConvert (P:Program)(M:Mem)(s d:TypeId)(X:AVal):Option AVal :=
 match X with
 | .sl l _=>if b2s P s d then aStr l else none
 | .raw (.slice (some ⟨b,o,none⟩) n _) =>
  (match M b with
  | some (.cells l)=>if b2s P s d/\o+n<=l.length then aStr ((l.drop o).take n) else none
  | _=>none)
 | .raw v=>(pr P (convert s d v)).map .raw
 | _=>none
def aop (P:Program)(T:Nat->AVal)(M:Mem)(ty:TypeId):Op->Option AVal
 | .pick c a b=>(match ev T c with | .raw (.bool t)=>some (if t then ev T a else ev T b) | _=>none)
 | .load t x =>
  (match ev T x with
  | .raw (.pointer (some ⟨b,o,none⟩))=>(match M b with|some (.cells l)=>loadP P t l o|some (.it (.cells c _ _))=>loadP P t (c.toList.map .raw) o | _=>none)
  | .sptr l i o=>(match l[i]? with|some e=>loadP P t e.cells o|none=>none)
  | _=>none)
 | .nilCheck x =>
  (match ev T x with
  | .raw (.pointer (some a))=>some (.raw (.pointer (some a)))
  | .raw (.func (.func f) xs ys)=>some (.raw (.func (.func f) xs ys))
  | .sptr l i o=>some (.sptr l i o)
  | _=>none)
 | .binOp op t x y _=>aBin P op t x y (ev T x) (ev T y)
 | .unOp op _ x=>raw1 P (ev T x) (Op.unary op)
 | .convert s d x=>aConvert P M s d (ev T x)
 | .makeInterface t x=>raw1 P (ev T x) (Instr.makeInterface t)
 | .makeFunc fn first cap =>
  (match rawsOf (first.toList.map (ev T)),rawsOf (cap.toList.map (ev T)) with
  | some xs,some ys=>some (.raw (.func fn xs.toArray ys.toArray))
  | _,_=>none)
 | .slice t x lo hi mx=>aSlice P T t (ev T x) lo hi mx
 | .fieldAddr t x f=>aFieldAddr P t (ev T x) f
 | .field t x f=>aField P t (ev T x) f
 | .indexAddr t x ix=>aIndexAddr P t (ev T x) (ev T ix)
 | .index t x ix=>aIndex P t (ev T x) (ev T ix)
 | .extract x i=>(match ev T x with | .tup vs=>vs[i]? | .raw (.tuple vs)=>(vs[i]?).map .raw | _=>none)
 | .build t parts=>aBuild P T t parts.toList
 | .lookup t m k ok=>aLookup P M t (ev T m) (ev T k) ok
 | .call { callee:=.builtin b,args,argTypes }=>aBuiltin P M b argTypes ty (args.toList.map (ev T))
 | _=>none
end Go.Am
namespace Go.Am
theorem run_val {P:Program}{s:Sem Value}{w w':World}{v:Value}(h:s.run P w = .ok v w'):(do pure (Next.value (← s)):Sem Next).run P w = .ok (.value v) w':=by
 show (s >>= fun v=>pure (Next.value v)).run P w=_
 rw [Sem.run_bind,h];rfl
section
variable {P:Program}{κ:Ghost}{w:World}
theorem run_bind_pr {α β:Type}{s:Sem α}{x:α}(h:pr P s=some x)(f:α->Sem β):(s >>= f).run P w=(f x).run P w:=by
 rw [Sem.run_bind,pr_run h w];rfl
theorem pr_fieldT {t:TypeId}{f:Nat}{fd:Field}(h:fieldT P t f=some fd):∃ fs,P.underlying t=some (.struct fs)/\fs[f]? = some fd:=by
 unfold fieldT at h;split at h
 ·rename_i fs hu;exact⟨fs,hu,h⟩
 ·cases h
theorem loadP_some {t:TypeId}{cs:List AVal}{off:Nat}{V:AVal}(h:loadP P t cs off=some V):∃ ag n,aggT P t=some ag/\sizeT P t=some n/\piece ag cs off n=some V:=by
 unfold loadP at h;split at h
 ·rename_i ag n ha hn;exact⟨ag,n,ha,hn,h⟩
 ·cases h
theorem run_part {t:TypeId}{cs:List AVal}{vs:Array Value}{off:Nat}{V:AVal}(hl:cs.length=vs.size)(hr:∀ (i:Nat) c v,cs[i]? = some c->vs[i]? = some v->Rep P κ w c v)
 (h:loadP P t cs off=some V):∃ v,(part t vs off).run P w = .ok v w/\Rep P κ w V v:=by
 obtain⟨ag,n,ha,hn,hp⟩:=loadP_some h;show ∃ v,((isAgg t) >>= _).run P w = .ok v w/\_
 rw [run_bind_pr (pr_aggT ha)];cases ag with
 | true =>
  simp only [piece,if_true] at hp;split at hp
  ·rename_i hle;obtain rfl:=Option.some.inj hp;refine⟨.agg (vs.extract off (off+n)),?_,?_⟩
   ·show ((sizeOf t) >>= _).run P w=_
    rw [run_bind_pr (pr_sizeT hn)];rfl
   ·refine .agg _ _ (by simp;omega) fun i c v h1 h2=>?_
    simp only [List.getElem?_take,List.getElem?_drop] at h1;split at h1
    ·rename_i hi;rw [Array.getElem?_extract] at h2;split at h2
     ·exact hr _ _ _ h1 h2
     ·cases h2
    ·cases h1
  ·cases hp
 | false =>
  simp only [piece,Bool.false_eq_true,if_false] at hp;have hlt:off<vs.size:=by
   rcases Nat.lt_or_ge off cs.length with h'|h'
   ·omega
   ·rw [List.getElem?_eq_none h'] at hp;cases hp
  refine ⟨vs[off], ?_, hr _ _ _ hp (by simp [hlt])⟩;show (match vs[off]? with | some v => (pure v : Sem Value) | none => stuck "part: no such cell").run P w = _
  rw [Array.getElem?_eq_getElem hlt];rfl
theorem flat_get {l:List AVal}{sz:Nat}(hsz:∀ e∈l,e.cells.length=sz){i:Nat}{e:AVal}(hi:l[i]? = some e){j:Nat}(hj:j<sz):(flat l)[i*sz+j]? = e.cells[j]?:=by
 induction l generalizing i with
 | nil=>simp at hi
 | cons x l ih =>
  have hx:=hsz x (by simp);show (x.cells++flat l)[i*sz+j]? = _
  cases i with
  | zero =>
   simp only [List.getElem?_cons_zero,Option.some.injEq] at hi;subst hi;rw [Nat.zero_mul,Nat.zero_add,List.getElem?_append_left (by omega)]
  | succ i =>
   simp only [List.getElem?_cons_succ] at hi;rw [List.getElem?_append_right (by rw [hx,Nat.succ_mul];omega),hx,Nat.succ_mul];rw [show i*sz+sz+j - sz=i*sz+j from by omega];exact ih (fun e he=>hsz e (by simp [he])) hi
theorem flat_length {l:List AVal}{sz:Nat}(hsz:∀ e∈l,e.cells.length=sz):(flat l).length=l.length*sz:=by
 induction l with
 | nil=>simp [flat]
 | cons x l ih =>
  show (x.cells++flat l).length=_
  rw [List.length_append,hsz x (by simp),ih (fun e he=>hsz e (by simp [he])),List.length_cons,Nat.succ_mul];omega
theorem run_loadAt_sptr {t:TypeId}{l:List AVal}{i o:Nat}{e V:AVal}{v:Value}(hv:Rep P κ w (.sptr l i o) v)(hi:l[i]? = some e)(h:loadP P t e.cells o=some V) :
 ∃ u,(Instr.loadAt t v).run P w = .ok u w/\Rep P κ w V u:=by
 obtain⟨ag,n,ha,hn,hp⟩:=loadP_some h;cases hv with
 | sptr _ _ _ b off sz cv hsz hk hw hr =>
  have hes:=hsz e (List.mem_of_getElem? hi);have hil:i<l.length:=by
   rcases Nat.lt_or_ge i l.length with h'|h'
   ·exact h'
   ·rw [List.getElem?_eq_none h'] at hi;cases hi
  have hfl:=flat_length hsz;have hle:i*sz+sz<=l.length*sz:=by
   have:=Nat.mul_le_mul_right sz (show i+1<=l.length from hil);rw [Nat.succ_mul] at this;exact this
  obtain⟨u,h1,h2⟩:=run_loadVar (P:=P) (κ:=κ) (w:=w) (t:=t) (b:=b) (base:=off+i*sz) (off:=o) (fun j=>cv (i*sz+j)) ha hn
   (fun j hj=>by rw [Nat.add_assoc];exact hw _ (by rw [hfl];omega))
   (fun j c hc=>hr _ _ (by rw [flat_get hsz hi (by
    rcases Nat.lt_or_ge j e.cells.length with h'|h'
    ·omega
    ·rw [List.getElem?_eq_none h'] at hc;cases hc)];exact hc)) hp
  refine⟨u,?_,h2⟩;show ((Instr.sureAddr (.pointer (some ⟨b,off+(i*sz+o),none⟩))) >>= fun a=>loadVar t a).run P w=_
  rw [run_bind_pr (x:=⟨b,off+(i*sz+o),none⟩) rfl,← Nat.add_assoc];exact h1
theorem cell_of_cells {b o:Nat}{c:Array Value}{e:TypeId}{fr:Nat×Nat}(h:w.heap[b]? = some (.cells c e fr)):w.cell? ⟨b,o,none⟩=c[o]?:=by
 unfold World.cell?;simp only [h];simp
theorem run_loadAt_ptr {M:Mem}(hM:∀ b o,M b=some o->RepO P κ w b o){t:TypeId}{b o:Nat}{l:List AVal}{V:AVal}(hb:M b=some (.cells l))(h:loadP P t l o=some V) :
 ∃ u,(Instr.loadAt t (.pointer (some ⟨b,o,none⟩))).run P w = .ok u w/\Rep P κ w V u:=by
 obtain⟨ag,n,ha,hn,hp⟩:=loadP_some h;obtain⟨c,e,fr,h1,h2,-,h4⟩:=hM b _ hb;obtain⟨u,h5,h6⟩:=run_loadVar (P:=P) (κ:=κ) (w:=w) (t:=t) (b:=b) (base:=0) (off:=o) (fun j=>c.getD j undef) ha hn
  (fun j hj=>by
   rw [Nat.zero_add,cell_of_cells h1];have:j<c.size:=by omega
   simp [this])
  (fun j x hx=>by
   have hj:j<c.size:=by
    rcases Nat.lt_or_ge j l.length with h'|h'
    ·omega
    ·rw [List.getElem?_eq_none h'] at hx;cases hx
   exact (h4 j x _ hx (by simp [hj])).1) hp
 rw [Nat.zero_add] at h5;exact⟨u,h5,h6⟩
theorem run_loadAt_it {M:Mem}(hM:∀ b o,M b=some o->RepO P κ w b o){t:TypeId}{b o:Nat}{c:Array Value}{e:TypeId}{fr:Nat×Nat}{V:AVal}(hb:M b=some (.it (.cells c e fr)))(h:loadP P t (c.toList.map .raw) o=some V) :
 ∃ u,(Instr.loadAt t (.pointer (some ⟨b,o,none⟩))).run P w = .ok u w/\Rep P κ w V u:=by
 obtain⟨ag,n,ha,hn,hp⟩:=loadP_some h;have h1:w.heap[b]? = some (.cells c e fr):=(hM b _ hb).1;obtain⟨u,h5,h6⟩:=run_loadVar (P:=P) (κ:=κ) (w:=w) (t:=t) (b:=b) (base:=0) (off:=o) (fun j=>c.getD j undef) ha hn
  (fun j hj=>by
   rw [Nat.zero_add,cell_of_cells h1];rw [List.length_map,Array.length_toList] at hj;simp [hj])
  (fun j x hx=>by
   rw [List.getElem?_map,Array.getElem?_toList] at hx;cases hc:c[j]? with
   | none=>rw [hc] at hx;cases hx
   | some v =>
    rw [hc] at hx;obtain rfl:=Option.some.inj hx;rw [show c.getD j undef=v by
     obtain⟨hj,e⟩:=Array.getElem?_eq_some_iff.1 hc;simp [Array.getD,hj,e]]
    exact .raw v) hp
 rw [Nat.zero_add] at h5;exact⟨u,h5,h6⟩
theorem run_raw1 {X V:AVal}{v:Value}{f:Value->Sem Value}(hv:Rep P κ w X v)(h:raw1 P X f=some V):∃ u,(f v).run P w = .ok u w/\Rep P κ w V u:=by
 unfold raw1 at h;split at h
 ·cases hv;simp only [Option.map_eq_some_iff] at h;obtain⟨u,h1,rfl⟩:=h;exact⟨u,pr_run h1 w,.raw u⟩
 ·cases h
theorem run_aBin {op:BinOp}{t:TypeId}{x y:Operand}{X Y V:AVal}{u v:Value}(hx:Rep P κ w X u)(hy:Rep P κ w Y v)(hyc:isNilSlice y=true->∃ n m,v = .slice none n m)
 (h:aBin P op t x y X Y=some V):∃ r,(do eqGuard op t x y u v;binOp op t u v:Sem Value).run P w = .ok r w/\Rep P κ w V r:=by
 unfold aBin at h;split at h
 ·rename_i l own;split at h
  ·rename_i hn;obtain⟨n,m,rfl⟩:=hyc hn;split at h
   ·cases h
   ·rename_i hl;split at h
    ·rename_i e hu;cases hx with
     | nil=>simp at hl
     | emp=>simp at hl
     | sl _ _ b off cap sz cv hcap hsz hk hw hr ho =>
      have heq:pr P (Op.equal t (.slice (some ⟨b,off,none⟩) l.length cap) (.slice none n m))=some false:=by
       show pr P ((underlying t) >>= _)=_
       show pr P ((underlying t).bind _)=_
       rw [pr_bind,pr_underlying hu];rfl
      cases op<;>simp only [Option.some.injEq,reduceCtorEq] at h
      ·subst h;refine⟨.bool false,?_,.raw _⟩;show (Op.equal t _ _ >>= fun b=>(pure (.bool b):Sem Value)).run P w=_
       rw [run_bind_pr heq];rfl
      ·subst h;refine⟨.bool true,?_,.raw _⟩;show (Op.equal t _ _ >>= fun b=>(pure (.bool !b):Sem Value)).run P w=_
       rw [run_bind_pr heq];rfl
    ·cases h
  ·cases h
 ·split at h
  ·rename_i a b ha hb;rw [rawOf_rep ha hx,rawOf_rep hb hy];simp only [Option.bind_eq_some_iff,Option.map_eq_some_iff] at h;obtain⟨_,h1,r,h2,rfl⟩:=h;refine⟨r,?_,.raw r⟩;show (eqGuard op t x y a b >>= fun _=>binOp op t a b).run P w=_
   rw [run_bind_pr h1];exact pr_run h2 w
  ·cases h
theorem run_aFieldAddr {t:TypeId}{X V:AVal}{v:Value}{f:Nat}(hv:Rep P κ w X v)(h:aFieldAddr P t X f=some V):∃ u,(Instr.fieldAt t v f).run P w = .ok u w/\Rep P κ w V u:=by
 unfold aFieldAddr at h;split at h
 ·rename_i fd hf;obtain⟨fs,hu,hg⟩:=pr_fieldT hf;split at h
  ·rename_i n hn;have key:∀ b o:Nat,(Instr.fieldAt t (.pointer (some ⟨b,o,none⟩)) f).run P w = .ok (.pointer (some ⟨b,o+fd.offset,none⟩)) w:=fun b o=>by
    show ((underlying t) >>= _).run P w=_
    rw [run_bind_pr (pr_underlying hu)];dsimp only;rw [hg];show ((Instr.sureAddr (.pointer (some ⟨b,o,none⟩))) >>= fun a=>fieldPlace a fd >>= fun x=>(pure (.pointer (some x)):Sem Value)).run P w=_
    rw [run_bind_pr (x:=⟨b,o,none⟩) rfl];have hp:pr P (fieldPlace ⟨b,o,none⟩ fd)=some ⟨b,o+fd.offset,none⟩:=by
     show pr P ((sizeOf fd.type).bind fun k=>if k=0 then partAt ⟨b,o,none⟩ fd.offset fd.byteOffset else pure ((⟨b,o,none⟩ : Addr).add fd.offset))=_
     rw [pr_bind,pr_sizeT hn];show pr P (if n+1=0 then partAt ⟨b,o,none⟩ fd.offset fd.byteOffset else pure ((⟨b,o,none⟩ : Addr).add fd.offset))=_
     rw [if_neg (by omega),addr_add];rfl
    rw [run_bind_pr hp];rfl
   split at h
   ·rename_i b o;obtain rfl:=Option.some.inj h;cases hv;exact⟨_,key b o,.raw _⟩
   ·rename_i l i o;obtain rfl:=Option.some.inj h;cases hv with
    | sptr _ _ _ b off sz cv hsz hk hw hr =>
     refine⟨_,key b _,?_⟩;rw [show off+(i*sz+o)+fd.offset=off+(i*sz+(o+fd.offset)) from by omega];exact .sptr l i (o+fd.offset) b off sz cv hsz hk hw hr
   ·cases h
  ·cases h
 ·cases h
theorem run_aField {t:TypeId}{X V:AVal}{v:Value}{f:Nat}(hv:Rep P κ w X v)(h:aField P t X f=some V):∃ u,(Instr.field t v f).run P w = .ok u w/\Rep P κ w V u:=by
 unfold aField at h;split at h
 ·rename_i fd hf;obtain⟨fs,hu,hg⟩:=pr_fieldT hf;split at h
  ·rename_i cs;cases hv with
   | agg _ vs hl hr =>
    obtain⟨u,h1,h2⟩:=run_part (w:=w) hl hr h;refine⟨u,?_,h2⟩;show ((underlying t) >>= _).run P w=_
    rw [run_bind_pr (pr_underlying hu)];dsimp only;rw [hg];exact h1
  ·cases h
 ·cases h
theorem run_indexAt {t:TypeId}{v:Value}{k:IntKind}{i:Int}{base:Addr}{len:Nat}{e:TypeId}{sz:Nat}
 (hu:(P.underlying t=some (.array len e)/\v = .pointer (some base))\/(P.underlying t=some (.slice e)/\∃ cap,v = .slice (some base) len cap)) (hs:sizeT P e=some sz) (h0:0<=i) (h1:i<len) :
 (Instr.indexAt t v (.int k i)).run P w = .ok (.pointer (some (base.add (i.toNat*sz)))) w:=by
 refine pr_run ?_ w;rcases hu with ⟨hu,rfl⟩|⟨hu,cap,rfl⟩
 ·show pr P ((underlying t).bind _)=_
  rw [pr_bind,pr_underlying hu];show pr P ((underlying t).bind _)=_
  rw [pr_bind,pr_underlying hu];show pr P (if 0<=i/\i<(len:Int) then _ else _)=_
  rw [if_pos ⟨h0,h1⟩];show pr P ((sizeOf e).bind _)=_
  rw [pr_bind,pr_sizeT hs];rfl
 ·show pr P ((underlying t).bind _)=_
  rw [pr_bind,pr_underlying hu];show pr P ((underlying t).bind _)=_
  rw [pr_bind,pr_underlying hu];show pr P (if 0<=i/\i<(len:Int) then _ else _)=_
  rw [if_pos ⟨h0,h1⟩];show pr P ((sizeOf e).bind _)=_
  rw [pr_bind,pr_sizeT hs];rfl
end
end Go.Am
namespace Go.Am
section
variable {P:Program}{κ:Ghost}{w:World}
theorem rep_raw {u v:Value}(h:Rep P κ w (.raw u) v):v=u:=by cases h;rfl
theorem run_aIndexAddr {t:TypeId}{X I V:AVal}{v i:Value}(hv:Rep P κ w X v)(hi:Rep P κ w I i)(h:aIndexAddr P t X I=some V):∃ u,(Instr.indexAt t v i).run P w = .ok u w/\Rep P κ w V u:=by
 unfold aIndexAddr at h;split at h
 ·rename_i k n;cases hi;split at h
  ·rename_i e hu;split at h
   ·rename_i sz hs;split at h
    ·rename_i l own;split at h
     ·rename_i hb;split at h
      ·rename_i E hE;split at h
       ·rename_i hc;obtain rfl:=Option.some.inj h;cases hv with
        | nil=>simp at hb;omega
        | emp=>simp at hb;omega
        | sl _ _ b off cap sz' cv hcap hsz hk hw hr ho =>
         have hz:sz'=sz:=(hsz E (List.mem_of_getElem? hE)).symm.trans hc;subst hz;refine⟨_,run_indexAt (.inr ⟨hu,cap,rfl⟩) hs hb.1 hb.2,?_⟩;rw [addr_add];exact .sptr l n.toNat 0 b off sz' cv hsz hk hw hr
       ·cases h
      ·cases h
     ·cases h
    ·rename_i b o len cap;split at h
     ·rename_i hb;obtain rfl:=Option.some.inj h;cases hv;refine⟨_,run_indexAt (.inr ⟨hu,cap,rfl⟩) hs hb.1 hb.2,?_⟩;rw [addr_add];exact .raw _
     ·cases h
    ·cases h
   ·cases h
  ·rename_i len e hu;split at h
   ·rename_i sz hs;split at h
    ·rename_i b o;split at h
     ·rename_i hb;obtain rfl:=Option.some.inj h;cases hv;refine⟨_,run_indexAt (.inl ⟨hu,rfl⟩) hs hb.1 hb.2,?_⟩;rw [addr_add];exact .raw _
     ·cases h
    ·rename_i l j o;split at h
     ·rename_i hb;obtain rfl:=Option.some.inj h;cases hv with
      | sptr _ _ _ b off sz' cv hsz hk hw hr =>
       refine⟨_,run_indexAt (.inl ⟨hu,rfl⟩) hs hb.1 hb.2,?_⟩;rw [addr_add,show off+(j*sz'+o)+n.toNat*sz=off+(j*sz'+(o+n.toNat*sz)) from by omega];exact .sptr l j _ b off sz' cv hsz hk hw hr
     ·cases h
    ·cases h
   ·cases h
  ·cases h
 ·cases h
theorem run_aIndex {t:TypeId}{X I V:AVal}{v i:Value}(hv:Rep P κ w X v)(hi:Rep P κ w I i)(h:aIndex P t X I=some V):∃ u,(Instr.index t v i).run P w = .ok u w/\Rep P κ w V u:=by
 unfold aIndex at h;split at h
 ·cases hv;cases hi;simp only [Option.map_eq_some_iff] at h;obtain⟨u,h1,rfl⟩:=h;exact⟨u,pr_run h1 w,.raw u⟩
 ·rename_i cs k n;cases hi;split at h
  ·rename_i len e hu;split at h
   ·rename_i sz hs;split at h
    ·rename_i hb;cases hv with
     | agg _ vs hl hr =>
      obtain⟨u,h1,h2⟩:=run_part (w:=w) hl hr h;refine⟨u,?_,h2⟩;show ((underlying t) >>= _).run P w=_
      rw [run_bind_pr (pr_underlying hu)];show (if 0<=n/\n<(len:Int) then _ else _:Sem Value).run P w=_
      rw [if_pos hb];show ((sizeOf e) >>= _).run P w=_
      rw [run_bind_pr (pr_sizeT hs)];exact h1
    ·cases h
   ·cases h
  ·cases h
 ·cases h
theorem aBound_some {T:Nat->AVal}{a:Act}(hT:∀ t,Rep P κ w (T t) (a.eval (.tmp t))){d n:Nat}{x:Operand}(h:aBound T d (some x)=some n):∃ k i,a.eval x = .int k i/\0<=i/\i.toNat=n:=by
 unfold aBound at h;have hx:=ev_rep hT x;dsimp only at h;split at h
 ·rename_i k i he;rw [he] at hx;split at h
  ·rename_i h0;exact⟨k,i,rep_raw hx,h0,Option.some.inj h⟩
  ·cases h
 ·cases h
theorem pr_sliceBound {k:IntKind}{i:Int}{y:Nat}{c:BoundsCode}(h0:0<=i)(h1:i.toNat<=y):pr P (Instr.sliceBound (.int k i) y c)=some i.toNat:=by
 show pr P (if 0<=i/\i<=(y:Int) then pure i.toNat else _)=_
 rw [if_pos ⟨h0,by omega⟩];rfl
theorem pr_pure {α:Type}(x:α):pr P (pure x:Sem α)=some x:=rfl
theorem pr_bind' {α β:Type}(s:Sem α)(f:α->Sem β):pr P (s >>= f)=(pr P s).bind fun a=>pr P (f a):=pr_bind s f
theorem pr_sliceBounds {len cap x y m:Nat}(lo hi mx:Option Value)(hl:∀ v,lo=some v->∃ k i,v = .int k i/\0<=i/\i.toNat=x)(hl0:lo=none->x=0)
 (hh:∀ v,hi=some v->∃ k i,v = .int k i/\0<=i/\i.toNat=y) (hh0:hi=none->y=len) (hm:∀ v,mx=some v->∃ k i,v = .int k i/\0<=i/\i.toNat=m) (hm0:mx=none->m=cap)
 (h4:mx.isSome=true->hi.isSome=true) (h1:x<=y) (h2:y<=m) (h3:m<=cap):pr P (Instr.sliceBounds true len cap lo hi mx)=some (x,y,m):=by
 cases mx with
 | none =>
  have hm:=hm0 rfl;subst hm;cases hi with
  | none =>
   have hh:=hh0 rfl;subst hh;cases lo with
   | none =>
    have hl:=hl0 rfl;subst hl;rfl
   | some v =>
    obtain⟨k,i,rfl,e2,e3⟩:=hl v rfl;simp only [Instr.sliceBounds,pr_bind',pr_pure,Option.bind_some,pr_sliceBound e2 (show i.toNat<=y by omega),e3]
  | some u =>
   obtain⟨k,i,rfl,e2,e3⟩:=hh u rfl;cases lo with
   | none =>
    have hl:=hl0 rfl;subst hl;simp only [Instr.sliceBounds,pr_bind',pr_pure,Option.bind_some,pr_sliceBound e2 (show i.toNat<=m by omega),e3]
   | some v =>
    obtain⟨k',i',rfl,e2',e3'⟩:=hl v rfl;simp only [Instr.sliceBounds,pr_bind',pr_pure,Option.bind_some,pr_sliceBound e2 (show i.toNat<=m by omega),e3,pr_sliceBound e2' (show i'.toNat<=y by omega),e3']
 | some r =>
  obtain⟨k,i,rfl,e2,e3⟩:=hm r rfl;cases hi with
  | none=>exact absurd (h4 rfl) (by simp)
  | some u =>
   obtain⟨k',i',rfl,e2',e3'⟩:=hh u rfl;cases lo with
   | none =>
    have hl:=hl0 rfl;subst hl;simp only [Instr.sliceBounds,pr_bind',pr_pure,Option.bind_some,pr_sliceBound e2 (show i.toNat<=cap by omega),e3,pr_sliceBound e2' (show i'.toNat<=m by omega),e3']
   | some v =>
    obtain⟨k'',i'',rfl,e2'',e3''⟩:=hl v rfl;simp only [Instr.sliceBounds,pr_bind',pr_pure,Option.bind_some,pr_sliceBound e2 (show i.toNat<=cap by omega),e3,pr_sliceBound e2' (show i'.toNat<=m by omega),e3',pr_sliceBound e2'' (show i''.toNat<=y by omega),e3'']
theorem mapM_rep {T:Nat->AVal}{a:Act}(hT:∀ t,Rep P κ w (T t) (a.eval (.tmp t))){x:Option Operand}{v:Option Value}(h:(x.mapM fun y=>rawOf (ev T y))=some v):x.map a.eval=v:=by
 cases x with
 | none=>simp only [Option.mapM_none,Option.pure_def,Option.some.injEq] at h;rw [← h];rfl
 | some y =>
  simp only [Option.mapM_some,Option.map_eq_map,Option.map_eq_some_iff] at h;obtain⟨u,h1,rfl⟩:=h;simp only [Option.map_some];rw [rawOf_rep h1 (ev_rep hT y)]
theorem run_aSlice {T:Nat->AVal}{a:Act}(hT:∀ t,Rep P κ w (T t) (a.eval (.tmp t))){t:TypeId}{X V:AVal}{v:Value}{lo hi mx:Option Operand}(hv:Rep P κ w X v)
 (h:aSlice P T t X lo hi mx=some V):∃ u,(Instr.sliceAt t v (lo.map a.eval) (hi.map a.eval) (mx.map a.eval)).run P w = .ok u w/\Rep P κ w V u:=by
 unfold aSlice at h;split at h
 ·rename_i l own;split at h
  ·rename_i e hu;split at h
   ·rename_i sz hs;split at h
    ·rename_i hall;split at h
     ·rename_i x y m hx hy hm;split at h
      ·rename_i hb;obtain⟨h1,h2,h3,h4⟩:=hb;obtain rfl:=Option.some.inj h;have hsz0:∀ E∈l,E.cells.length=sz:=fun E hE=>by simpa using List.all_eq_true.1 hall E hE
       have hbounds:∀ cap,l.length<=cap->∃ m',pr P (Instr.sliceBounds true l.length cap (lo.map a.eval) (hi.map a.eval) (mx.map a.eval))=some (x,y,m')/\(mx.isSome=true->m'=m)/\(mx=none->m'=cap):=by
        intro cap hcap;refine⟨if mx.isSome then m else cap,pr_sliceBounds _ _ _ ?_ ?_ ?_ ?_ ?_ ?_ ?_ h1 ?_ ?_,?_,?_⟩
        ·intro v hv;cases lo with
         | none=>cases hv
         | some q =>
          obtain⟨k,i,e1,e2,e3⟩:=aBound_some hT hx;exact⟨k,i,(Option.some.inj hv).symm.trans e1,e2,e3⟩
        ·intro hv;cases lo with
         | none=>simpa [aBound] using hx.symm
         | some q=>cases hv
        ·intro v hv;cases hi with
         | none=>cases hv
         | some q =>
          obtain⟨k,i,e1,e2,e3⟩:=aBound_some hT hy;exact⟨k,i,(Option.some.inj hv).symm.trans e1,e2,e3⟩
        ·intro hv;cases hi with
         | none=>simpa [aBound] using hy.symm
         | some q=>cases hv
        ·intro v hv;cases mx with
         | none=>cases hv
         | some q =>
          obtain⟨k,i,e1,e2,e3⟩:=aBound_some hT hm;exact⟨k,i,(Option.some.inj hv).symm.trans e1,e2,by simpa using e3⟩
        ·intro hv;cases mx with
         | none=>simp
         | some q=>cases hv
        ·intro hv;cases mx with
         | none=>cases hv
         | some q =>
          have:=h4 rfl;cases hi with
          | none=>cases this
          | some r=>rfl
        ·split<;>omega
        ·split<;>omega
        ·intro hv;rw [if_pos hv]
        ·intro hv;subst hv;rfl
       cases hv with
       | nil =>
        obtain⟨m',hb1,hb2,hb3⟩:=hbounds 0 (by simp);simp only [List.length_nil,Nat.le_zero_eq] at h3;subst h3;have hy0:y=0:=by omega
        subst hy0;have hx0:x=0:=by omega
        subst hx0;have hm0:m'=0:=by
         cases mx with
         | none=>exact hb3 rfl
         | some r=>exact hb2 rfl
        subst hm0;refine⟨.slice none 0 0,pr_run ?_ w,?_⟩
        ·show pr P ((underlying t).bind _)=_
         rw [pr_bind,pr_underlying hu];show pr P ((underlying t).bind _)=_
         rw [pr_bind,pr_underlying hu];show pr P ((Instr.sliceBounds true 0 0 _ _ _).bind _)=_
         rw [pr_bind,show pr P (Instr.sliceBounds true 0 0 (lo.map a.eval) (hi.map a.eval) (mx.map a.eval))=_ from hb1];show pr P ((sizeOf e).bind _)=_
         rw [pr_bind,pr_sizeT hs];rfl
        ·simpa using Rep.nil _
       | emp ow a0 cap hc0 =>
        obtain⟨m',hb1,hb2,hb3⟩:=hbounds cap (Nat.zero_le _);simp only [List.length_nil,Nat.le_zero_eq] at h3;subst h3;have hy0:y=0:=by omega
        subst hy0;have hx0:x=0:=by omega
        subst hx0;have hres:pr P (Instr.sliceAt t (.slice a0 0 cap) (lo.map a.eval) (hi.map a.eval) (mx.map a.eval))=some (.slice a0 0 m'):=by
         show pr P ((underlying t).bind _)=_
         rw [pr_bind,pr_underlying hu];show pr P ((underlying t).bind _)=_
         rw [pr_bind,pr_underlying hu];show pr P ((Instr.sliceBounds true 0 cap _ _ _).bind _)=_
         rw [pr_bind,show pr P (Instr.sliceBounds true 0 cap (lo.map a.eval) (hi.map a.eval) (mx.map a.eval))=_ from hb1];show pr P ((sizeOf e).bind _)=_
         rw [pr_bind,pr_sizeT hs];show some (Value.slice (if m'=0 then a0 else Option.map (fun q=>q.add (0*sz)) a0) (0 - 0) (m' - 0))=_
         have e1:Option.map (fun q:Addr=>q.add (0*sz)) a0=a0:=by
          cases a0 with
          | none=>rfl
          | some q=>simp [Addr.add]
         rw [e1];simp
        refine⟨_,pr_run hres w,?_⟩;simp only [List.take_nil,List.drop_nil];refine .emp _ _ _ fun hown=>?_
        simp only [Bool.and_eq_true,decide_eq_true_eq] at hown;exact hb2 hown.1
       | sl _ _ b off cap sz' cv hcap hsz hk hw hr ho =>
        obtain⟨m',hb1,hb2,hb3⟩:=hbounds cap hcap;have hres:pr P (Instr.sliceAt t (.slice (some ⟨b,off,none⟩) l.length cap) (lo.map a.eval) (hi.map a.eval) (mx.map a.eval)) =
         some (.slice (if m'=x then some ⟨b,off,none⟩ else some ⟨b,off+x*sz,none⟩) (y - x) (m' - x)):=by
         show pr P ((underlying t).bind _)=_
         rw [pr_bind,pr_underlying hu];show pr P ((underlying t).bind _)=_
         rw [pr_bind,pr_underlying hu];show pr P ((Instr.sliceBounds true l.length cap _ _ _).bind _)=_
         rw [pr_bind,hb1];show pr P ((sizeOf e).bind _)=_
         rw [pr_bind,pr_sizeT hs];show some (Value.slice (if m'=x then some (⟨b,off,none⟩ : Addr) else Option.map (fun q=>q.add (x*sz)) (some (⟨b,off,none⟩ : Addr))) (y - x) (m' - x))=_
         simp only [Option.map_some,addr_add]
        have hm'le:y<=m':=by
         cases mx with
         | none=>rw [hb3 rfl];omega
         | some r=>rw [hb2 rfl];exact h2
        have hlen:((l.take y).drop x).length=y - x:=by simp;omega
        have hszs:∀ E∈(l.take y).drop x,E.cells.length=sz:=fun E hE=>hsz0 E (List.mem_of_mem_take (List.mem_of_mem_drop hE))
        refine⟨_,pr_run hres w,?_⟩;rw [show y - x=((l.take y).drop x).length from hlen.symm];by_cases hm0:m'=x
        ·rw [if_pos hm0];have hnil:(l.take y).drop x=[]:=by
          apply List.eq_nil_of_length_eq_zero;omega
         rw [hnil];refine .sl [] _ b off _ sz (fun _=>.bool false) (by simp) (by simp) (by simp [flat]) (by simp [flat]) (by simp [flat]) fun hown=>.inl ?_
         show m' - x=0
         omega
        ·rw [if_neg hm0];by_cases hle:l=[]
         ·subst hle;simp only [List.take_nil,List.drop_nil];refine .sl [] _ b _ _ sz (fun _=>.bool false) (by simp) (by simp) (by simp [flat]) (by simp [flat]) (by simp [flat]) fun hown=>.inl ?_
          simp only [Bool.and_eq_true,decide_eq_true_eq] at hown;have:=hb2 hown.1;simp only [List.length_nil] at h3;show m' - x=0
          omega
         ·have hzz:sz'=sz:=by
           obtain⟨E,hE⟩:=List.exists_mem_of_ne_nil l hle;exact (hsz E hE).symm.trans (hsz0 E hE)
          subst hzz;have hfl:=flat_length hsz;have hfl2:=flat_length hszs;have hget:∀ (j:Nat),j<(flat ((l.take y).drop x)).length->(flat ((l.take y).drop x))[j]? = (flat l)[x*sz'+j]?:=by
           intro j hj;have e1:l=l.take x++((l.take y).drop x++l.drop y):=by
            conv=>lhs;rw [← List.take_append_drop y l]
            rw [← List.append_assoc];congr 1
            conv=>lhs;rw [← List.take_append_drop x (l.take y)]
            rw [List.take_take,Nat.min_eq_left h1]
           have e2:flat l=flat (l.take x)++(flat ((l.take y).drop x)++flat (l.drop y)):=by
            conv=>lhs;rw [e1]
            simp only [flat,List.flatMap_append]
           have e3:(flat (l.take x)).length=x*sz':=by
            rw [flat_length (sz:=sz') fun E hE=>hsz E (List.mem_of_mem_take hE)];rw [List.length_take,Nat.min_eq_left (by omega)]
           rw [e2,List.getElem?_append_right (by omega),e3,Nat.add_sub_cancel_left,List.getElem?_append_left hj]
          have hbnd:∀ j,j<(flat ((l.take y).drop x)).length->x*sz'+j<(flat l).length:=by
           intro j hj;have:=hget j hj;rw [List.getElem?_eq_getElem hj] at this;rcases Nat.lt_or_ge (x*sz'+j) (flat l).length with h'|h'
           ·exact h'
           ·rw [List.getElem?_eq_none h'] at this;cases this
          refine .sl _ _ b _ _ sz' (fun j=>cv (x*sz'+j)) (by omega) hszs (fun j hj=>by rw [Nat.add_assoc];exact hk _ (hbnd j hj)) (fun j hj=>by rw [Nat.add_assoc];exact hw _ (hbnd j hj))
           (fun j c hc=>hr _ c (by
            have hj:j<(flat ((l.take y).drop x)).length:=by
             rcases Nat.lt_or_ge j (flat ((l.take y).drop x)).length with h'|h'
             ·exact h'
             ·rw [List.getElem?_eq_none h'] at hc;cases hc
            rw [← hget j hj];exact hc)) fun hown=>.inl ?_
          simp only [Bool.and_eq_true,decide_eq_true_eq] at hown;have:=hb2 hown.1;omega
      ·cases h
     ·cases h
    ·cases h
   ·cases h
  ·cases h
 ·rename_i u;split at h
  ·rename_i x y z hx hy hz;simp only [Option.map_eq_some_iff] at h;obtain⟨r,h1,rfl⟩:=h;rw [rep_raw hv,mapM_rep hT hx,mapM_rep hT hy,mapM_rep hT hz];exact⟨r,pr_run h1 w,.raw r⟩
  ·cases h
 ·cases h
end
end Go.Am
namespace Go.Am
section
variable {P:Program}{κ:Ghost}{w:World}
def RepL (P:Program)(κ:Ghost)(w:World)(cs:List AVal)(vs:Array Value):Prop :=
 cs.length=vs.size/\∀ (i:Nat) c v,cs[i]? = some c->vs[i]? = some v->Rep P κ w c v
theorem unit_one {V:AVal}{v:Value}(h:Rep P κ w V v)(hu:V.unit=true):one v=true:=by
 cases h with
 | raw v=>exact hu
 | nil own=>rfl
 | sl l own b off cap sz cv hcap hsz hk hw hr ho=>rfl
 | sptr l i o b off sz cv hsz hk hw hr=>rfl
 | emp own a cap h0=>rfl
 | _=>simp [AVal.unit] at hu
theorem ok_cells {V:AVal}{v:Value}(h:Rep P κ w V v)(hu:V.ok=true):RepL P κ w V.cells v.cells/\∀ c∈V.cells,c.unit=true:=by
 have single:∀ (V:AVal) (v:Value),Rep P κ w V v->V.cells=[V]->v.cells = #[v]->V.unit=true->RepL P κ w V.cells v.cells/\∀ c∈V.cells,c.unit=true:=by
  intro V v h e1 e2 e3;rw [e1,e2];refine⟨⟨rfl,fun i c u h1 h2=>?_⟩,by simpa using e3⟩;cases i with
  | zero =>
   simp only [List.getElem?_cons_zero,Option.some.injEq] at h1;have h2':v=u:=by simpa using h2
   rw [← h1,← h2'];exact h
  | succ i=>simp at h1
 cases h with
 | undef v=>simp [AVal.ok,AVal.unit] at hu
 | raw v =>
  have h1:one v=true:=hu;refine single _ _ (.raw v) rfl ?_ hu;cases v<;>first|rfl|simp [one] at h1
 | nil own=>exact single _ _ (.nil own) rfl rfl rfl
 | sl l own b off cap sz cv hcap hsz hk hw hr ho=>exact single _ _ (.sl l own b off cap sz cv hcap hsz hk hw hr ho) rfl rfl rfl
 | sptr l i o b off sz cv hsz hk hw hr=>exact single _ _ (.sptr l i o b off sz cv hsz hk hw hr) rfl rfl rfl
 | agg cs vs hl hr=>exact⟨⟨hl,hr⟩,fun c hc=>List.all_eq_true.1 hu c hc⟩
 | tup cs vs hl hr=>simp [AVal.ok,AVal.unit] at hu
 | emp own a cap h0=>exact single _ _ (.emp own a cap h0) rfl rfl rfl
theorem foldl_set_get (off:Nat):∀ (xs:List Value) (k:Nat) (cells:Array Value) (i:Nat),
 ((xs.zipIdx k).foldl (fun cs (x:Value×Nat)=>cs.setIfInBounds (off+x.2) x.1) cells)[i]? = if off+k<=i/\i<off+k+xs.length/\i<cells.size then xs[i - (off+k)]? else cells[i]?
 | [],k,cells,i=>by
  rw [if_neg (by simp;omega)];rfl
 | x::xs,k,cells,i=>by
  rw [List.zipIdx_cons,List.foldl_cons,foldl_set_get off xs (k+1)];simp only [List.length_cons,Array.size_setIfInBounds];by_cases h1:off+(k+1)<=i/\i<off+(k+1)+xs.length/\i<cells.size
  ·rw [if_pos h1,if_pos (by omega),show i - (off+k)=(i - (off+(k+1)))+1 from by omega,List.getElem?_cons_succ]
  ·rw [if_neg h1];by_cases h2:i=off+k
   ·subst h2;by_cases h3:off+k<cells.size
    ·rw [if_pos (by omega),Nat.sub_self,List.getElem?_cons_zero,Array.getElem?_setIfInBounds_self_of_lt h3]
    ·rw [if_neg (by omega),Array.getElem?_eq_none (by simp;omega),Array.getElem?_eq_none (by omega)]
   ·rw [if_neg (by omega),Array.getElem?_setIfInBounds_ne (by omega)]
theorem foldl_set_size (off:Nat):∀ (xs:List Value) (k:Nat) (cells:Array Value),((xs.zipIdx k).foldl (fun cs (x:Value×Nat)=>cs.setIfInBounds (off+x.2) x.1) cells).size=cells.size
 | [],_,_=>rfl
 | x::xs,k,cells=>by rw [List.zipIdx_cons,List.foldl_cons,foldl_set_size off xs (k+1)];simp
theorem aFill_rep {place:Nat->Option (Nat×Nat)}:∀ (parts:List (Nat×AVal)) (us:List (Nat×Value)) (cs:List AVal) (vs:Array Value) (out:List AVal),
 parts.length=us.length->(∀ (i:Nat) p u,parts[i]? = some p->us[i]? = some u->p.1=u.1/\Rep P κ w p.2 u.2)->RepL P κ w cs vs->aFill place cs parts=some out →
 ∃ r,Instr.fill place vs us=some r/\RepL P κ w out r
 | [],us,cs,vs,out,hl,_,hc,h=>by
  have:us=[]:=by cases us<;>simp_all
  subst this;simp only [aFill,Option.some.injEq] at h;subst h;exact⟨vs,rfl,hc⟩
 | (i,V)::parts,us,cs,vs,out,hl,hp,hc,h=>by
  cases us with
  | nil=>simp at hl
  | cons u us =>
   obtain⟨j,v⟩:=u;obtain⟨e,hv⟩:=hp 0 (i,V) (j,v) rfl rfl;simp only at e;subst e;simp only [aFill] at h;split at h
   ·cases h
   ·rename_i off size hpl;split at h
    ·cases h
    ·rename_i hcond;simp only [Bool.or_eq_true,ne_eq,decide_eq_true_eq,not_or,Classical.not_not,Nat.not_lt,gt_iff_lt,Bool.not_eq_false] at hcond;obtain⟨⟨hc0,hc1⟩,hc2⟩:=hcond;replace hv:=(ok_cells hv hc0).1;have hvs:V.cells.length=v.cells.size:=hv.1;have hcs:=hc.1;have hstep:RepL P κ w (cs.take off++V.cells++cs.drop (off+V.cells.length)) (v.cells.zipIdx.foldl (fun cs (c,j)=>cs.setIfInBounds (off+j) c) vs):=by
      have hfold:v.cells.zipIdx.foldl (fun cs (c,j)=>cs.setIfInBounds (off+j) c) vs=(v.cells.toList.zipIdx 0).foldl (fun cs (x:Value×Nat)=>cs.setIfInBounds (off+x.2) x.1) vs:=by
       rw [← Array.foldl_toList,Array.toList_zipIdx]
      rw [hfold];refine⟨?_,fun i' c x h1 h2=>?_⟩
      ·rw [foldl_set_size];simp only [List.length_append,List.length_take,List.length_drop];omega
      ·rw [foldl_set_get] at h2;simp only [Nat.add_zero,Array.length_toList] at h2;by_cases hA:i'<off
       ·rw [if_neg (by omega)] at h2;rw [List.append_assoc,List.getElem?_append_left (by simp;omega),List.getElem?_take,if_pos hA] at h1;exact hc.2 _ _ _ h1 h2
       ·by_cases hB:i'<off+V.cells.length
        ·rw [if_pos (by omega)] at h2;rw [List.append_assoc,List.getElem?_append_right (by simp;omega),List.getElem?_append_left (by simp;omega)] at h1;simp only [List.length_take,Nat.min_eq_left (show off<=cs.length by omega)] at h1;exact hv.2 _ _ _ h1 (by simpa using h2)
        ·rw [if_neg (by omega)] at h2;rw [List.append_assoc,List.getElem?_append_right (by simp;omega),List.getElem?_append_right (by simp;omega),List.getElem?_drop] at h1;simp only [List.length_take,Nat.min_eq_left (show off<=cs.length by omega)] at h1;rw [show off+V.cells.length+(i' - off - V.cells.length)=i' from by omega] at h1;exact hc.2 _ _ _ h1 h2
     obtain⟨r,hr1,hr2⟩:=aFill_rep parts us _ _ out (by simpa using hl) (fun i p u h1 h2=>hp (i+1) p u (by simpa using h1) (by simpa using h2)) hstep h;refine⟨r,?_,hr2⟩;simp only [Instr.fill,hpl];rw [if_neg (by simp only [Bool.or_eq_true,ne_eq,decide_eq_true_eq,not_or,Classical.not_not,Nat.not_lt,gt_iff_lt];omega)];exact hr1
theorem pr_mapM_list {α β:Type}(f:α->Sem β):∀ l:List α,pr P (l.mapM f)=l.mapM fun x=>pr P (f x)
 | []=>rfl
 | x::l=>by
  rw [List.mapM_cons,List.mapM_cons,pr_bind'];cases hx:pr P (f x) with
  | none=>rfl
  | some y =>
   simp only [Option.bind_some,Option.bind_eq_bind];rw [pr_bind',pr_mapM_list f l];rfl
theorem pr_zeroT {t:TypeId}{z:Value}(h:zeroT P t=some z):pr P (zeroValue t)=some z:=by
 unfold zeroT at h;cases hi:P.info? t with
 | none=>rw [hi] at h;cases h
 | some i =>
  rw [hi] at h;simp only [Option.bind_some] at h;have hti:pr P (typeInfo t)=some i:=by
   show pr P (Sem.bind program _)=_
   rw [pr_bind];show pr P (match P.info? t with | some i => pure i | none => stuck "no such type") = _
   rw [hi];rfl
  show pr P ((typeInfo t).bind _)=_
  rw [pr_bind,hti];show pr P (match i.zero with|some v=>pure v|none=>_)=_
  rw [h];rfl
theorem run_aBuild {T:Nat->AVal}{a:Act}(hT:∀ t,Rep P κ w (T t) (a.eval (.tmp t))){t:TypeId}{parts:Array (Nat×Operand)}{V:AVal}(h:aBuild P T t parts.toList=some V) :
 ∃ u,(Instr.build t (parts.map fun (i,x)=>(i,a.eval x))).run P w = .ok u w/\Rep P κ w V u:=by
 unfold aBuild at h;split at h
 ·rename_i z pl hz hp;simp only [Option.map_eq_some_iff] at h;obtain⟨out,h1,rfl⟩:=h;have hz0:RepL P κ w (z.cells.toList.map .raw) z.cells:=by
   refine⟨by simp,fun i c v e1 e2=>?_⟩;simp only [List.getElem?_map,Array.getElem?_toList,e2,Option.map_some,Option.some.injEq] at e1;subst e1;exact .raw v
  obtain⟨r,hr1,hr2⟩:=aFill_rep (P:=P) (κ:=κ) (w:=w) _ (parts.map fun (i,x)=>(i,a.eval x)).toList _ _ out (by simp)
   (fun i p u e1 e2=>by
    simp only [List.getElem?_map,Array.toList_map,Option.map_eq_some_iff] at e1 e2;obtain⟨⟨n,x⟩,e3,rfl⟩:=e1;obtain⟨⟨n',x'⟩,e4,rfl⟩:=e2;rw [e3] at e4;obtain⟨rfl,rfl⟩:=Prod.mk.inj (Option.some.inj e4);exact⟨rfl,ev_rep hT _⟩) hz0 h1
  refine⟨.agg r,pr_run ?_ w,.agg _ _ hr2.1 hr2.2⟩;show pr P ((zeroValue t).bind _)=_
  rw [pr_bind,pr_zeroT hz];unfold aPlaces at hp;split at hp
  ·rename_i fs hu;simp only [Option.map_eq_some_iff] at hp;obtain⟨ps,hp1,rfl⟩:=hp;show pr P ((underlying t).bind _)=_
   rw [pr_bind,pr_underlying hu];show pr P (Sem.bind (fs.mapM fun f=>(sizeOf f.type) >>= fun n=>pure (f.offset,n)) _)=_
   have hfs:pr P (fs.mapM fun f=>(sizeOf f.type) >>= fun n=>(pure (f.offset,n):Sem (Nat×Nat)))=some ps:=by
    rw [Array.mapM_eq_mapM_toList];rw [Array.mapM_eq_mapM_toList] at hp1;show pr P ((fs.toList.mapM _) >>= fun l=>pure l.toArray)=_
    rw [pr_bind',pr_mapM_list];have:(fun x:Field=>pr P (sizeOf x.type >>= fun n=>(pure (x.offset,n):Sem (Nat×Nat))))=fun f=>(sizeT P f.type).map fun n=>(f.offset,n):=by
     funext f;rw [pr_bind'];cases hs:sizeT P f.type with
     | some n=>rw [pr_sizeT hs];rfl
     | none =>
      have:pr P (sizeOf f.type)=none:=by
       show pr P ((typeInfo f.type).bind _)=_
       rw [pr_bind];have:pr P (typeInfo f.type)=none:=by
        show pr P (Sem.bind program _)=_
        rw [pr_bind];show pr P (match P.info? f.type with | some i => pure i | none => stuck "no such type") = _
        unfold sizeT at hs;simp only [Option.map_eq_none_iff] at hs;rw [hs];rfl
       rw [this];rfl
      rw [this];rfl
    rw [this];simp only [Option.map_eq_map,Option.map_eq_some_iff] at hp1;obtain⟨l,hl1,hl2⟩:=hp1;rw [hl1,← hl2];rfl
   rw [pr_bind,hfs];dsimp only [Option.bind_some];rw [hr1];rfl
  ·rename_i n e hu;simp only [Option.map_eq_some_iff] at hp;obtain⟨k,hp1,rfl⟩:=hp;show pr P ((underlying t).bind _)=_
   rw [pr_bind,pr_underlying hu];show pr P (Sem.bind (sizeOf e) _)=_
   rw [pr_bind,pr_sizeT hp1];dsimp only [Option.bind_some];rw [hr1];rfl
  ·cases hp
 ·cases h
end
end Go.Am
namespace Go.Am
section
variable {P:Program}{κ:Ghost}{w:World}
def valAt (es:List MapEntry)(r:Option (Nat×Value))(i:Nat):Option (Nat×Value):=r.bind fun x=>(es[x.1 - i]?).map fun e=>(x.1,e.val)
theorem findNow_keys (kind:TypeDesc)(k:Value):∀ (es es':List MapEntry) (i:Nat) (r:Option (Nat×Value)),es.map (·.key)=es'.map (·.key)->Instr.findNow kind k es i=some r →
 Instr.findNow kind k es' i=some (valAt es' r i)/\∀ x,r=some x->i<=x.1/\x.1 - i<es.length
 | [],es',i,r,hk,h=>by
  have:es'=[]:=by cases es'<;>simp_all
  subst this;simp only [Instr.findNow,Option.some.injEq] at h;subst h;exact⟨rfl,fun x hx=>by cases hx⟩
 | e::es,es',i,r,hk,h=>by
  cases es' with
  | nil=>simp at hk
  | cons e' es' =>
   simp only [List.map_cons,List.cons.injEq] at hk;obtain⟨hk1,hk2⟩:=hk;simp only [Instr.findNow] at h ⊢;rw [← hk1];cases hs:Instr.sameNow kind k e.key with
   | none=>rw [hs] at h;cases h
   | some b =>
    rw [hs] at h;cases b with
    | true =>
     simp only [Option.some.injEq] at h;subst h;exact⟨by simp [valAt],fun x hx=>by cases hx;simp⟩
    | false =>
     simp only at h ⊢;obtain⟨h1,h2⟩:=findNow_keys kind k es es' (i+1) r hk2 h;refine⟨?_,fun x hx=>by have:=h2 x hx;simp only [List.length_cons];omega⟩;rw [h1];cases r with
     | none=>rfl
     | some x =>
      have:=h2 x rfl;simp only [valAt,Option.bind_some];rw [show x.1 - i=(x.1 - (i+1))+1 from by omega,List.getElem?_cons_succ]
theorem findAsking_keys (kt:TypeId)(k:Value):∀ (es es':List MapEntry) (i:Nat) (r:Option (Nat×Value)),es.map (·.key)=es'.map (·.key)->pr P (Instr.findAsking kt k es i)=some r →
 pr P (Instr.findAsking kt k es' i)=some (valAt es' r i)/\∀ x,r=some x->i<=x.1/\x.1 - i<es.length
 | [],es',i,r,hk,h=>by
  have:es'=[]:=by cases es'<;>simp_all
  subst this;have h':some (none:Option (Nat×Value))=some r:=h;obtain rfl:=Option.some.inj h';exact⟨rfl,fun x hx=>by cases hx⟩
 | e::es,es',i,r,hk,h=>by
  cases es' with
  | nil=>simp at hk
  | cons e' es' =>
   simp only [List.map_cons,List.cons.injEq] at hk;obtain⟨hk1,hk2⟩:=hk;have hu:∀ (x:MapEntry) xs,pr P (Instr.findAsking kt k (x::xs) i)=(pr P (Op.equal kt k x.key)).bind fun b=>pr P (if b then (pure (some (i,x.val)):Sem (Option (Nat×Value))) else Instr.findAsking kt k xs (i+1)):=fun x xs=>by
    show pr P (Sem.bind _ _)=_
    rw [pr_bind]
   rw [hu] at h ⊢;rw [← hk1];cases hs:pr P (Op.equal kt k e.key) with
   | none=>rw [hs] at h;cases h
   | some b =>
    rw [hs] at h;simp only [Option.bind_some] at h ⊢;cases b with
    | true =>
     simp only [if_true] at h ⊢;have h':some (some (i,e.val))=some r:=h;obtain rfl:=Option.some.inj h';exact⟨by simp [valAt,pr_pure],fun x hx=>by cases hx;simp⟩
    | false =>
     simp only [Bool.false_eq_true,if_false] at h ⊢;obtain⟨h1,h2⟩:=findAsking_keys kt k es es' (i+1) r hk2 h;refine⟨?_,fun x hx=>by have:=h2 x hx;simp only [List.length_cons];omega⟩;rw [h1];cases r with
     | none=>rfl
     | some x =>
      have:=h2 x rfl;simp only [valAt,Option.bind_some];rw [show x.1 - i=(x.1 - (i+1))+1 from by omega,List.getElem?_cons_succ]
theorem findNow_none_keys (kind:TypeDesc)(k:Value):∀ (es es':List MapEntry) (i:Nat),es.map (·.key)=es'.map (·.key)->Instr.findNow kind k es i=none->Instr.findNow kind k es' i=none
 | [],es',i,hk,h=>by cases h
 | e::es,es',i,hk,h=>by
  cases es' with
  | nil=>simp at hk
  | cons e' es' =>
   simp only [List.map_cons,List.cons.injEq] at hk;obtain⟨hk1,hk2⟩:=hk;simp only [Instr.findNow] at h ⊢;rw [← hk1];cases hs:Instr.sameNow kind k e.key with
   | none=>rfl
   | some b =>
    rw [hs] at h;cases b with
    | true=>cases h
    | false=>exact findNow_none_keys kind k es es' (i+1) hk2 h
theorem findKey_keys {kt:TypeId}{k:Value}{es es':List MapEntry}{r:Option (Nat×Value)}(hk:es.map (·.key)=es'.map (·.key))(h:pr P (Instr.findKey kt k es)=some r) :
 pr P (Instr.findKey kt k es')=some (valAt es' r 0)/\∀ x,r=some x->x.1<es'.length:=by
 have hlen:es.length=es'.length:=by have:=congrArg List.length hk;simpa using this
 have hu:∀ xs,pr P (Instr.findKey kt k xs)=(pr P (underlying kt)).bind fun d=>pr P (match Instr.findNow d k xs 0 with|some r=>(pure r:Sem (Option (Nat×Value)))|none=>Instr.findAsking kt k xs):=fun xs=>by
  show pr P (Sem.bind _ _)=_
  rw [pr_bind];rfl
 rw [hu] at h ⊢;cases hd:pr P (underlying kt) with
 | none=>rw [hd] at h;cases h
 | some d =>
  rw [hd] at h;simp only [Option.bind_some] at h ⊢;cases hf:Instr.findNow d k es 0 with
  | some q =>
   rw [hf] at h;have h':some q=some r:=h;obtain rfl:=Option.some.inj h';obtain⟨h1,h2⟩:=findNow_keys d k es es' 0 q hk hf;rw [h1];exact⟨rfl,fun x hx=>by have:=(h2 x hx).2;omega⟩
  | none =>
   rw [hf] at h;rw [findNow_none_keys d k es es' 0 hk hf];obtain⟨h1,h2⟩:=findAsking_keys kt k es es' 0 r hk h;exact⟨h1,fun x hx=>by have:=(h2 x hx).2;omega⟩
theorem keyAt_run {kt:TypeId}{k:Value}{keys:List Value}{at? : Option Nat}{ents:Array MapEntry}(h:keyAt P kt k keys=some at?)(hk:ents.toList.map (·.key)=keys) :
 (at? = none->pr P (Instr.findKey kt k ents.toList)=some none)/\∀ i,at? = some i->∃ e,ents[i]? = some e/\pr P (Instr.findKey kt k ents.toList)=some (some (i,e.val)):=by
 unfold keyAt at h;simp only [Option.map_eq_some_iff] at h;obtain⟨r,h1,rfl⟩:=h;obtain⟨h2,h3⟩:=findKey_keys (es':=ents.toList) (by rw [hk,List.map_map];exact List.map_id keys) h1;cases r with
 | none=>exact⟨fun _=>h2,fun i hi=>by cases hi⟩
 | some x =>
  refine⟨fun h=>(by cases h),fun i hi=>?_⟩;have:=h3 x rfl;simp only [Array.length_toList] at this;simp only [Option.map_some,Option.some.injEq] at hi;subst hi;refine⟨ents[x.1],by simp [this],?_⟩;rw [h2];simp [valAt,this]
theorem run_getObj' {b:Nat}{ents:Array MapEntry}{clock:Nat}(h:w.heap[b]? = some (.map ents clock)):(getObj b).run P w = .ok (.map ents clock) w:=by
 show (Sem.getObj b .pure).run P w=_
 simp only [Sem.run,h]
theorem run_getObj {b:Nat}{ents:Array MapEntry}{clock:Nat}(h:w.heap[b]? = some (.map ents clock)){α:Type}(f:Obj->Sem α):((getObj b) >>= f).run P w=(f (.map ents clock)).run P w:=by
 show (Sem.getObj b f).run P w=_
 simp only [Sem.run,h]
theorem keys_of {es:List (Value×AVal)}{ents:Array MapEntry}(hl:ents.size=es.length)(hk:∀ (j:Nat) e ent,es[j]? = some e->ents[j]? = some ent->ent.key=e.1):ents.toList.map (·.key)=es.map (·.1):=by
 apply List.ext_getElem?;intro i;simp only [List.getElem?_map,Array.getElem?_toList];rcases Nat.lt_or_ge i es.length with h|h
 ·rw [List.getElem?_eq_getElem h,Array.getElem?_eq_getElem (by omega)];simp only [Option.map_some,Option.some.injEq];exact hk i _ _ (List.getElem?_eq_getElem h) (Array.getElem?_eq_getElem (by omega))
 ·rw [List.getElem?_eq_none h,Array.getElem?_eq_none (by omega)];rfl
theorem run_aLookup {M:Mem}(hM:∀ b o,M b=some o->RepO P κ w b o){t:TypeId}{X K V:AVal}{m k:Value}{ok:Bool}(hm:Rep P κ w X m)(hk:Rep P κ w K k)(h:aLookup P M t X K ok=some V) :
 ∃ u,(Instr.lookup t m k ok).run P w = .ok u w/\Rep P κ w V u:=by
 unfold aLookup at h;split at h
 ·rename_i kt et hu;split at h
  ·rename_i r kv hkv;have hkk:=rawOf_rep hkv hk;subst hkk;have hmm:=rep_raw hm;subst hmm;split at h
   ·rename_i es hes;split at h
    ·rename_i q at? z hc hat hz;obtain⟨ents,hr,hsz,hents⟩ : ∃ ents:Array MapEntry,((r=none/\ents = #[])\/∃ b clock,r=some b/\w.heap[b]? = some (.map ents clock))/\ents.size=es.length ∧
      ∀ (j:Nat) e ent,es[j]? = some e->ents[j]? = some ent->ent.key=e.1/\Rep P κ w e.2 ent.val:=by
      cases r with
      | none =>
       simp only [entsM,Option.some.injEq] at hes;subst hes;exact⟨#[],.inl ⟨rfl,rfl⟩,rfl,fun j e ent h1=>by simp at h1⟩
      | some r =>
       simp only [entsM] at hes;split at hes
       ·rename_i es' hMr;simp only [Option.some.injEq] at hes;subst hes;obtain⟨ents,clock,h1,h2,h3,-,-⟩:=hM r _ hMr;exact⟨ents,.inr ⟨r,clock,rfl,h1⟩,h2,fun j e ent e1 e2=>⟨(h3 j e ent e1 e2).1,(h3 j e ent e1 e2).2.1⟩⟩
       ·cases hes
     have hkeys:=keys_of hsz fun j e ent e1 e2=>(hents j e ent e1 e2).1
     obtain⟨hka1,hka2⟩:=keyAt_run hat hkeys;have hemp:ents.isEmpty=es.isEmpty:=by
      cases es with
      | nil=>simpa using hsz
      | cons e es=>simp [Array.isEmpty,hsz]
     have hc':=pr_run hc w;rw [← hemp] at hc';obtain⟨v,hv1,hv2⟩ : ∃ v,(match at? with|none=>(Instr.findKey kt k ents.toList).run P w = .ok none w/\v=z|some i=>(Instr.findKey kt k ents.toList).run P w = .ok (some (i,v)) w) ∧
      Rep P κ w ((at?.map fun i=>((es[i]?).map (·.2)).getD .undef).getD (ofConst z)) v:=by
      cases at? with
      | none=>exact⟨z,⟨pr_run (hka1 rfl) w,rfl⟩,ofConst_rep z⟩
      | some i =>
       obtain⟨e,he,hf⟩:=hka2 i rfl;refine⟨e.val,pr_run hf w,?_⟩;have hi:i<es.length:=by
        rw [← hsz];rcases Nat.lt_or_ge i ents.size with h'|h'
        ·exact h'
        ·rw [Array.getElem?_eq_none h'] at he;cases he
       simp only [List.getElem?_eq_getElem hi,Option.map_some,Option.getD_some];exact (hents i _ _ (List.getElem?_eq_getElem hi) he).2
     have hrun2:(Instr.lookup t (.map r) k ok).run P w = .ok (if ok then .tuple #[v,.bool at?.isSome] else v) w:=by
      have hz':=pr_run (pr_zeroT hz) w;rcases hr with ⟨rfl,rfl⟩|⟨b,clock,rfl,hb⟩
      ·cases at? with
       | none =>
        obtain⟨hv1,rfl⟩:=hv1;simp only [Instr.lookup,Sem.run_bind,pr_run (pr_underlying hu) w,Result.andThen_ok,Sem.run_pure,hc',hv1,hz'];rfl
       | some i =>
        simp only [Instr.lookup,Sem.run_bind,pr_run (pr_underlying hu) w,Result.andThen_ok,Sem.run_pure,hc',hv1];rfl
      ·cases at? with
       | none =>
        obtain⟨hv1,rfl⟩:=hv1;simp only [Instr.lookup,Sem.run_bind,pr_run (pr_underlying hu) w,Result.andThen_ok,run_getObj' hb,Sem.run_pure,hc',hv1,hz'];rfl
       | some i =>
        simp only [Instr.lookup,Sem.run_bind,pr_run (pr_underlying hu) w,Result.andThen_ok,run_getObj' hb,Sem.run_pure,hc',hv1];rfl
     simp only [Option.some.injEq] at h;subst h;refine⟨_,hrun2,?_⟩;cases ok with
     | false=>exact hv2
     | true =>
      refine .tup _ _ rfl fun i c x h1 h2=>?_
      match i with
      | 0 =>
       simp only [List.getElem?_cons_zero,Option.some.injEq] at h1;have h2':v=x:=by simpa using h2
       subst h1;subst h2';exact hv2
      | 1 =>
       simp only [List.getElem?_cons_succ,List.getElem?_cons_zero,Option.some.injEq] at h1;have h2':Value.bool at?.isSome=x:=by simpa using h2
       subst h1;subst h2';exact .raw _
      | i+2=>simp at h1
    ·cases h
   ·cases h
  ·cases h
 ·cases h
end
end Go.Am
namespace Go.Am
section
variable {P:Program}{κ:Ghost}{w:World}
theorem rawsOf_rep:∀ (xs:List AVal) (us vs:List Value),rawsOf xs=some us->xs.length=vs.length->(∀ (i:Nat) X v,xs[i]? = some X->vs[i]? = some v->Rep P κ w X v)->vs=us
 | [],us,vs,h,hl,_=>by
  have:vs=[]:=by cases vs<;>simp_all
  subst this;simpa [rawsOf] using h
 | X::xs,us,vs,h,hl,hr=>by
  cases vs with
  | nil=>simp at hl
  | cons v vs =>
   unfold rawsOf at h;rw [List.mapM_cons] at h;cases hx:rawOf X with
   | none=>rw [hx] at h;cases h
   | some u =>
    rw [hx] at h;simp only [Option.bind_eq_bind,Option.bind_some] at h;cases hxs:xs.mapM rawOf with
    | none=>rw [hxs] at h;cases h
    | some us' =>
     rw [hxs] at h;obtain rfl:=Option.some.inj h;rw [rawOf_rep hx (hr 0 X v rfl rfl),rawsOf_rep xs us' vs hxs (by simpa using hl) fun i X v h1 h2=>hr (i+1) X v (by simpa using h1) (by simpa using h2)]
theorem rawsOf_ev {T:Nat->AVal}{a:Act}(hT:∀ t,Rep P κ w (T t) (a.eval (.tmp t))){xs:Array Operand}{us:List Value}(h:rawsOf (xs.toList.map (ev T))=some us):xs.map a.eval=us.toArray:=by
 have:=rawsOf_rep (P:=P) (κ:=κ) (w:=w) _ us (xs.toList.map a.eval) h (by simp) fun i X v h1 h2=>by
  simp only [List.getElem?_map,Option.map_eq_some_iff] at h1 h2;obtain⟨x,e1,rfl⟩:=h1;obtain⟨y,e2,rfl⟩:=h2;rw [e1] at e2;obtain rfl:=Option.some.inj e2;exact ev_rep hT _
 apply Array.ext';rw [Array.toList_map,this]
theorem run_aBuiltin {T:Nat->AVal}{a:Act}(hT:∀ t,Rep P κ w (T t) (a.eval (.tmp t))){M:Mem}(hM:∀ b o,M b=some o->RepO P κ w b o){b:Builtin}{argTypes:Array TypeId}{ty:TypeId}{consts:Array Bool}{args:Array Operand}{V:AVal}
 (h:aBuiltin P M b argTypes ty (args.toList.map (ev T))=some V):∃ u,(builtin b argTypes ty consts (args.map a.eval)).run P w = .ok (.value u) w/\Rep P κ w V u:=by
 have plain:∀ (f:Array Value->Sem Value),(rawsOf (args.toList.map (ev T))).bind (fun vs=>(pr P (f vs.toArray)).map .raw)=some V->∃ u,(do pure (Next.value (← f (args.map a.eval))):Sem Next).run P w = .ok (.value u) w/\Rep P κ w V u:=by
  intro f h;simp only [Option.bind_eq_some_iff,Option.map_eq_some_iff] at h;obtain⟨us,h1,u,h2,rfl⟩:=h;rw [rawsOf_ev hT h1];exact⟨u,run_val (pr_run h2 w),.raw u⟩
 unfold aBuiltin at h;split at h
 ·have one1:∀ X,args.toList.map (ev T)=[X]->∃ x,args = #[x]/\X=ev T x:=fun X e=>by
   have hl:=congrArg List.length e;simp only [List.length_map,Array.length_toList,List.length_singleton] at hl;obtain⟨x,hx⟩:=Array.size_eq_one_iff.1 hl;subst hx;simp only [List.map_cons,List.map_nil,List.cons.injEq,and_true] at e;exact⟨x,rfl,e.symm⟩
  split at h
  ·rename_i l own he;obtain⟨x,rfl,hX⟩:=one1 _ he;have hx:=ev_rep hT x;rw [← hX] at hx;split at h
   ·rename_i e hu;obtain rfl:=Option.some.inj h;simp only [Option.bind_eq_some_iff] at hu;obtain⟨t,ht,hu⟩:=hu;refine⟨.int .i64 l.length,?_,.raw _⟩;rw [show Array.map a.eval #[x] = #[a.eval x] from by simp];refine run_val (s:=Builtin.len_ argTypes ty #[a.eval x]) ?_;simp only [Builtin.len_,ht];show ((underlying t) >>= _).run P w=_
    rw [run_bind_pr (pr_underlying hu)];generalize a.eval x=v at hx;cases hx<;>rfl
   ·cases h
  ·rename_i r he;obtain⟨x,rfl,hX⟩:=one1 _ he;have hx:=ev_rep hT x;rw [← hX] at hx;split at h
   ·rename_i kt et es hu hMr;obtain rfl:=Option.some.inj h;simp only [Option.bind_eq_some_iff] at hu;obtain⟨t,ht,hu⟩:=hu;obtain⟨ents,clock,h1,h2,-,-,-⟩:=hM r _ hMr;refine⟨.int .i64 es.length,?_,.raw _⟩;rw [show Array.map a.eval #[x] = #[a.eval x] from by simp];refine run_val (s:=Builtin.len_ argTypes ty #[a.eval x]) ?_;simp only [Builtin.len_,ht];show ((underlying t) >>= _).run P w=_
    rw [run_bind_pr (pr_underlying hu),rep_raw hx];show ((getObj r) >>= _).run P w=_
    rw [run_getObj h1,← h2];rfl
   ·cases h
  ·rename_i v hne he;obtain⟨x,rfl,hX⟩:=one1 _ he;have hx:=ev_rep hT x;rw [← hX] at hx;simp only [Option.map_eq_some_iff] at h;obtain⟨u,h1,rfl⟩:=h;refine⟨u,?_,.raw u⟩;rw [show Array.map a.eval #[x] = #[a.eval x] from by simp];refine run_val (s:=Builtin.len_ argTypes ty #[a.eval x]) ?_;rw [rep_raw hx];exact pr_run h1 w
  ·cases h
 ·exact plain (Builtin.max_ argTypes ty) h
 ·exact plain (Builtin.min_ argTypes ty) h
 ·exact plain (Builtin.complex_ argTypes ty) h
 ·exact plain (Builtin.real_ argTypes ty) h
 ·exact plain (Builtin.imag_ argTypes ty) h
 ·cases h
theorem mapM_u8:∀ (cs:List AVal) (bs:List UInt8),cs.mapM u8of=some bs->∀ vs:List Value,cs.length=vs.length->(∀ (i:Nat) c v,cs[i]? = some c->vs[i]? = some v->Rep P κ w c v) →
 ∃ ns:List Int,vs=ns.map (Value.int .u8)/\bs=ns.map fun n=>UInt8.ofNat n.toNat
 | [],bs,h,vs,hl,_=>by
  have:vs=[]:=by cases vs<;>simp_all
  subst this;have:bs=[]:=by simpa using h.symm
  subst this;exact⟨[],rfl,rfl⟩
 | c::cs,bs,h,vs,hl,hr=>by
  cases vs with
  | nil=>simp at hl
  | cons v vs =>
   rw [List.mapM_cons] at h;cases hu:u8of c with
   | none=>rw [hu] at h;cases h
   | some u =>
    rw [hu] at h;simp only [Option.bind_eq_bind,Option.bind_some] at h;cases hm:cs.mapM u8of with
    | none=>rw [hm] at h;cases h
    | some us =>
     rw [hm] at h;obtain rfl:=Option.some.inj h;obtain⟨ns,e1,e2⟩:=mapM_u8 cs us hm vs (by simpa using hl) fun i c v h1 h2=>hr (i+1) c v (by simpa using h1) (by simpa using h2)
     have h0:=hr 0 c v rfl rfl;unfold u8of at hu;split at hu
     ·rename_i n;obtain rfl:=Option.some.inj hu;have hv:v = .int .u8 n:=by cases h0;rfl
      exact⟨n::ns,by rw [hv,e1];rfl,by rw [e2];rfl⟩
     ·cases hu
theorem run_bytes {f:Value->ByteArray->Sem (ForInStep ByteArray)}(hf:∀ n s,f (.int .u8 n) s=pure (ForInStep.yield (s.push (UInt8.ofNat n.toNat))))(ns:List Int):∀ s:ByteArray,(forIn (ns.map (Value.int .u8)) s f).run P w = .ok ⟨s.data++(ns.map fun n=>UInt8.ofNat n.toNat).toArray⟩ w:=by
 induction ns with
 | nil=>intro s;simp only [List.map_nil,List.forIn_nil];show Result.ok s w=_;simp
 | cons n ns ih =>
  intro s;rw [List.map_cons,List.forIn_cons,hf];rw [Sem.run_bind,Sem.run_pure,Result.andThen_ok];dsimp only;rw [ih];congr 1;apply ByteArray.ext;show (s.data.push _)++_=s.data++_
  simp
theorem run_b2s {l:List Value}{ns:List Int}{a:Addr}{n c:Nat}(hl:(loadCells a n).run P w = .ok l.toArray w)(hns:l=ns.map (Value.int .u8)):(Conv.bytesToString (.slice (some a) n c)).run P w = .ok (.string ⟨(ns.map fun n=>UInt8.ofNat n.toNat).toArray⟩) w:=by
 unfold Conv.bytesToString;show ((loadCells a n) >>= _).run P w=_
 rw [Sem.run_bind,hl,Result.andThen_ok,Sem.run_bind];subst hns;simp only [List.forIn_toArray];rw [run_bytes (fun _ _=>rfl),Result.andThen_ok];show Result.ok _ w=_
 congr 2;apply ByteArray.ext;show (#[]:Array UInt8)++_=_
 simp
theorem convert_b2s {s d:TypeId}{v:Value}(h:b2s P s d=true)(hv:∃ a n c,v = .slice a n c):(convert s d v).run P w=(Conv.bytesToString v).run P w:=by
 obtain⟨a,n,c,rfl⟩:=hv;unfold b2s at h;split at h
 ·rename_i e hs hd;split at h
  ·rename_i he;show ((underlying s) >>= _).run P w=_
   rw [run_bind_pr (pr_underlying hs)];show ((underlying d) >>= _).run P w=_
   rw [run_bind_pr (pr_underlying hd)];show ((underlying e) >>= _).run P w=_
   rw [run_bind_pr (pr_underlying he)]
  ·cases h
 ·cases h
theorem run_aConvert {M:Mem}(hM:∀ b o,M b=some o->RepO P κ w b o){s d:TypeId}{X V:AVal}{v:Value}(hv:Rep P κ w X v)(h:aConvert P M s d X=some V):∃ u,(convert s d v).run P w = .ok u w/\Rep P κ w V u:=by
 unfold aConvert at h;split at h
 ·rename_i l own;split at h
  ·rename_i hb;unfold aStr at h;simp only [Option.map_eq_some_iff] at h;obtain⟨bs,h1,rfl⟩:=h;cases hv with
   | nil =>
    have:bs=[]:=by simpa using h1.symm
    subst this;refine⟨.string .empty,?_,.raw _⟩;rw [convert_b2s hb ⟨_,_,_,rfl⟩];rfl
   | emp ow a0 c0 h0 =>
    have:bs=[]:=by simpa using h1.symm
    subst this;refine⟨.string .empty,?_,.raw _⟩;rw [convert_b2s hb ⟨_,_,_,rfl⟩];cases a0 with
    | none=>rfl
    | some q=>exact run_b2s (l:=[]) (ns:=[]) (n:=0) rfl rfl
   | sl _ _ b off cap sz cv hcap hsz hk hw hr ho =>
    have hf:flat l=l:=by
     have:∀ (l:List AVal) bs,l.mapM u8of=some bs->flat l=l:=by
      intro l
      induction l with
      | nil=>intro _ _;rfl
      | cons c cs ih =>
       intro bs h;rw [List.mapM_cons] at h;cases hu:u8of c with
       | none=>rw [hu] at h;cases h
       | some u =>
        rw [hu] at h;simp only [Option.bind_eq_bind,Option.bind_some] at h;cases hm:cs.mapM u8of with
        | none=>rw [hm] at h;cases h
        | some us =>
         have e:=ih us hm;unfold flat at e ⊢;rw [List.flatMap_cons,e];unfold u8of at hu;split at hu
         ·rfl
         ·cases hu
     exact this l bs h1
    rw [hf] at hw hr;have hld:=run_loadCells (P:=P) (w:=w) (b:=b) (o:=off) (n:=l.length) cv hw;obtain⟨ns,e1,e2⟩:=mapM_u8 (P:=P) (κ:=κ) (w:=w) l bs h1 ((List.range l.length).map cv) (by simp) fun i c v h2 h3=>by
     rw [List.getElem?_map] at h3;simp only [Option.map_eq_some_iff] at h3;obtain⟨j,h3,rfl⟩:=h3;have:j=i:=by
      have:=List.getElem?_eq_some_iff.1 h3;obtain⟨_,e⟩:=this;simpa using e.symm
     subst this;exact hr _ c h2
    refine⟨.string ⟨bs.toArray⟩,?_,.raw _⟩;rw [convert_b2s hb ⟨_,_,_,rfl⟩,run_b2s hld e1,e2]
  ·cases h
 ·rename_i b o n c;have hv:=rep_raw hv;subst hv;split at h
  ·rename_i l hb;split at h
   ·rename_i hc;unfold aStr at h;simp only [Option.map_eq_some_iff] at h;obtain⟨bs,h1,rfl⟩:=h;obtain⟨cs,e,fr,hh,hsz,hfr,hr⟩:=hM b _ hb;have hcell:∀ j,j<n->w.cell? ⟨b,o+j,none⟩=some (cs.getD (o+j) undef):=fun j hj=>by
     rw [cell_of_cells hh,Array.getD_eq_getD_getElem?];have:o+j<cs.size:=by omega
     simp [this]
    have hld:=run_loadCells (P:=P) (w:=w) (b:=b) (o:=o) (n:=n) (fun j=>cs.getD (o+j) undef) hcell;obtain⟨ns,e1,e2⟩:=mapM_u8 (P:=P) (κ:=κ) (w:=w) _ bs h1 ((List.range n).map fun j=>cs.getD (o+j) undef) (by simp;omega) fun i c v h2 h3=>by
     rw [List.getElem?_map] at h3;simp only [Option.map_eq_some_iff] at h3;obtain⟨j,h3,rfl⟩:=h3;have hj:j=i:=by
      obtain⟨_,e⟩:=List.getElem?_eq_some_iff.1 h3;simpa using e.symm
     subst hj;have hjn:j<n:=by
      obtain⟨hj,_⟩:=List.getElem?_eq_some_iff.1 h3;simpa using hj
     rw [List.getElem?_take,if_pos hjn,List.getElem?_drop] at h2;have hlt:o+j<cs.size:=by omega
     refine (hr (o+j) c _ h2 ?_).1;rw [Array.getD_eq_getD_getElem?];simp [hlt]
    refine⟨.string ⟨bs.toArray⟩,?_,.raw _⟩;rw [convert_b2s hc.1 ⟨_,_,_,rfl⟩,run_b2s hld e1,e2]
   ·cases h
  ·cases h
 ·rename_i v' _;have hv:=rep_raw hv;subst hv;simp only [Option.map_eq_some_iff] at h;obtain⟨u,h1,rfl⟩:=h;exact⟨u,pr_run h1 w,.raw u⟩
 ·cases h
theorem nil_eval {a:Act}{y:Operand}(h:isNilSlice y=true):∃ n m,a.eval y = .slice none n m:=by
 unfold isNilSlice at h;split at h
 ·exact⟨_,_,rfl⟩
 ·cases h
theorem aop_sound {T:Nat->AVal}{a:Act}(hT:∀ t,Rep P κ w (T t) (a.eval (.tmp t))){M:Mem}(hM:∀ b o,M b=some o->RepO P κ w b o){o:Oper}{V:AVal}(h:aop P T M o.type o.op=some V) :
 ∃ u,(execOp a.eval o).run P w = .ok (.value u) w/\Rep P κ w V u:=by
 have E:=fun x=>ev_rep (P:=P) (κ:=κ) (w:=w) hT x
 cases hop:o.op<;>rw [hop] at h<;>simp only [aop,reduceCtorEq] at h
 case pick c x y =>
  split at h
  ·rename_i t ht;obtain rfl:=Option.some.inj h;have hc:=E c;rw [ht] at hc;refine⟨if t then a.eval x else a.eval y,?_,?_⟩
   ·unfold execOp;rw [hop];show ((asBool (a.eval c)) >>= fun b=>(pure (Next.value (if b then a.eval x else a.eval y)):Sem Next)).run P w=_
    rw [rep_raw hc];rfl
   ·cases t
    ·exact E y
    ·exact E x
  ·cases h
 case load t x =>
  have hx:=E x;have key:∀ u,(Instr.loadAt t (a.eval x)).run P w = .ok u w->(execOp a.eval o).run P w = .ok (.value u) w:=fun u hu=>by
   unfold execOp;rw [hop];exact run_val hu
  split at h
  ·rename_i b off he;rw [he] at hx;split at h
   ·rename_i l hb;obtain⟨u,h1,h2⟩:=run_loadAt_ptr hM hb h;rw [← rep_raw hx] at h1;exact⟨u,key u h1,h2⟩
   ·rename_i c e fr hb;obtain⟨u,h1,h2⟩:=run_loadAt_it hM hb h;rw [← rep_raw hx] at h1;exact⟨u,key u h1,h2⟩
   ·cases h
  ·rename_i l i off he;rw [he] at hx;split at h
   ·rename_i e hi;obtain⟨u,h1,h2⟩:=run_loadAt_sptr hx hi h;exact⟨u,key u h1,h2⟩
   ·cases h
  ·cases h
 case nilCheck x =>
  have hx:=E x;have key:∀ u,a.eval x=u->(match u with | .pointer (some _)=>True | .func (.func _) _ _=>True | _=>False)->(execOp a.eval o).run P w = .ok (.value u) w:=fun u hu hm=>by
   unfold execOp;rw [hop];dsimp only;rw [hu];split at hm
   ·rfl
   ·rfl
   ·exact hm.elim
  split at h
  ·rename_i p he;obtain rfl:=Option.some.inj h;rw [he] at hx;exact⟨_,key _ (rep_raw hx) trivial,.raw _⟩
  ·rename_i f xs ys he;obtain rfl:=Option.some.inj h;rw [he] at hx;exact⟨_,key _ (rep_raw hx) trivial,.raw _⟩
  ·rename_i l i off he;obtain rfl:=Option.some.inj h;rw [he] at hx;refine⟨_,key _ rfl ?_,hx⟩;generalize a.eval x=v at hx;cases hx
   trivial
  ·cases h
 case binOp op t x y yt =>
  obtain⟨u,h1,h2⟩:=run_aBin (E x) (E y) nil_eval h;exact⟨u,by unfold execOp;rw [hop];exact run_val h1,h2⟩
 case unOp op t x =>
  obtain⟨u,h1,h2⟩:=run_raw1 (E x) h;exact⟨u,by unfold execOp;rw [hop];exact run_val h1,h2⟩
 case convert s d x =>
  obtain⟨u,h1,h2⟩:=run_aConvert hM (E x) h;exact⟨u,by unfold execOp;rw [hop];exact run_val h1,h2⟩
 case makeInterface t x =>
  obtain⟨u,h1,h2⟩:=run_raw1 (E x) h;exact⟨u,by unfold execOp;rw [hop];exact run_val h1,h2⟩
 case makeFunc fn first cap =>
  split at h
  ·rename_i xs ys hx hy;obtain rfl:=Option.some.inj h;refine⟨_,?_,.raw _⟩;unfold execOp;rw [hop];exact run_val (by rw [rawsOf_ev hT hx,rawsOf_ev hT hy];rfl)
  ·cases h
 case slice t x lo hi mx =>
  obtain⟨u,h1,h2⟩:=run_aSlice hT (E x) h;exact⟨u,by unfold execOp;rw [hop];exact run_val h1,h2⟩
 case fieldAddr t x f =>
  obtain⟨u,h1,h2⟩:=run_aFieldAddr (E x) h;exact⟨u,by unfold execOp;rw [hop];exact run_val h1,h2⟩
 case field t x f =>
  obtain⟨u,h1,h2⟩:=run_aField (E x) h;exact⟨u,by unfold execOp;rw [hop];exact run_val h1,h2⟩
 case indexAddr t x ix =>
  obtain⟨u,h1,h2⟩:=run_aIndexAddr (E x) (E ix) h;exact⟨u,by unfold execOp;rw [hop];exact run_val h1,h2⟩
 case index t x ix =>
  obtain⟨u,h1,h2⟩:=run_aIndex (E x) (E ix) h;exact⟨u,by unfold execOp;rw [hop];exact run_val h1,h2⟩
 case extract x i =>
  have hx:=E x;have key:∀ vs u,a.eval x = .tuple vs->vs[i]? = some u->(execOp a.eval o).run P w = .ok (.value u) w:=fun vs u e1 e2=>by
   unfold execOp;rw [hop];refine run_val (s:=Instr.extract (a.eval x) i) ?_;rw [e1];show (match vs[i]? with|some v=>(pure v:Sem Value)|none=>stuck _).run P w=_
   rw [e2];rfl
  split at h
  ·rename_i cs he;rw [he] at hx;generalize hv:a.eval x=v at hx;cases hx with
   | tup _ vs hl hr =>
    have hi:i<vs.size:=by
     rw [← hl];rcases Nat.lt_or_ge i cs.length with h'|h'
     ·exact h'
     ·rw [List.getElem?_eq_none h'] at h;cases h
    exact⟨vs[i],key vs _ hv (Array.getElem?_eq_getElem hi),hr i _ _ h (Array.getElem?_eq_getElem hi)⟩
  ·rename_i vs he;rw [he] at hx;simp only [Option.map_eq_some_iff] at h;obtain⟨u,h1,rfl⟩:=h;exact⟨u,key vs u (rep_raw hx) h1,.raw u⟩
  ·cases h
 case build t parts =>
  obtain⟨u,h1,h2⟩:=run_aBuild hT h;exact⟨u,by unfold execOp;rw [hop];exact run_val h1,h2⟩
 case lookup t m k ok =>
  obtain⟨u,h1,h2⟩:=run_aLookup hM (E m) (E k) h;exact⟨u,by unfold execOp;rw [hop];exact run_val h1,h2⟩
 case call c =>
  obtain⟨callee,args,argTypes⟩:=c;cases callee<;>simp only [reduceCtorEq] at h;rename_i b;obtain⟨u,h1,h2⟩:=run_aBuiltin (consts:=args.map fun | .const _=>true | _=>false) hT hM h;refine⟨u,?_,h2⟩;unfold execOp;rw [hop];exact h1
end
end Go.Am
namespace Go.Am
def setT (T:Nat->AVal)(d:Nat)(V:AVal):Nat->AVal:=fun t=>if t=d then V else T t
structure St where
 T:Nat->AVal
 M:Mem
def St.put (S:St)(dst:Option Tmp)(V:AVal):St :=
 match dst with
 | some d=>{ S with T:=setT S.T d V }
 | none=>S
def St.lose (S:St):Operand->St
 | .tmp t=>{ S with T:=setT S.T t (S.T t).shut }
 | _=>S
def tv (a:Act):Nat->Value:=fun t=>a.eval (.tmp t)
section
variable {P:Program}{κ:Ghost}{w:World}
theorem tv_put {a:Act}{d:Nat}(v:Value)(hd:d<a.tmps.size):tv (a.put (some d) v)=fun t=>if t=d then v else tv a t:=by
 funext t;show ((a.tmps.setIfInBounds d v).getD t undef)=_
 simp only [Array.getD_eq_getD_getElem?];by_cases h:t=d
 ·subst h;rw [if_pos rfl,Array.getElem?_setIfInBounds_self_of_lt hd];rfl
 ·rw [if_neg h,Array.getElem?_setIfInBounds_ne (Ne.symm h)];show _=a.tmps.getD t undef
  rw [Array.getD_eq_getD_getElem?]
theorem Holds.put {T:Nat->AVal}{V:Nat->Value}{M:Mem}(h:Holds P κ T V M w)(d:Nat){X:AVal}{x:Value}(hr:Rep P κ w X x)(hs:∀ b o,¬ Spare P w X x b o) :
 Holds P κ (setT T d X) (fun t=>if t=d then x else V t) M w where
 tmp t:=by
  unfold setT;split
  ·exact hr
  ·exact h.tmp t
 obj:=h.obj
 tag:=h.tag
 sp t b o hsp:=by
  unfold setT at hsp;split at hsp
  ·exact absurd hsp (hs b o)
  ·exact h.sp t b o hsp
 wr:=h.wr
 mwr:=h.mwr
theorem Holds.sub {T:Nat->AVal}{V:Nat->Value}{M:Mem}(h:Holds P κ T V M w)(d:Nat){X:AVal}{x:Value}(hr:Rep P κ w X x)(hs:∀ b o,Spare P w X x b o->Spare P w (T d) (V d) b o) :
 Holds P κ (setT T d X) (fun t=>if t=d then x else V t) M w where
 tmp t:=by
  unfold setT;split
  ·exact hr
  ·exact h.tmp t
 obj:=h.obj
 tag:=h.tag
 sp t b o hsp:=by
  unfold setT at hsp;split at hsp
  ·rename_i e;subst e;exact h.sp t b o (hs b o hsp)
  ·exact h.sp t b o hsp
 wr:=h.wr
 mwr:=h.mwr
theorem Holds.lose {T:Nat->AVal}{V:Nat->Value}{M:Mem}(h:Holds P κ T V M w)(d:Nat):Holds P κ (setT T d (T d).shut) V M w where
 tmp t:=by
  unfold setT;split
  ·rename_i e;subst e;exact (h.tmp t).shut
  ·exact h.tmp t
 obj:=h.obj
 tag:=h.tag
 sp t b o hsp:=by
  unfold setT at hsp;split at hsp
  ·exact absurd hsp Spare.not_shut
  ·exact h.sp t b o hsp
 wr:=h.wr
 mwr:=h.mwr
def mvTag (κ:Ghost)(s d:Nat):Ghost:=fun b o=>match κ b o with
 | .slot t=>if t=s then .slot d else .slot t
 | x=>x
theorem mvTag_imm {s d b o:Nat}:mvTag κ s d b o = .imm↔κ b o = .imm:=by
 unfold mvTag;split
 ·rename_i h;split<;>simp [h]
 ·rename_i h;rfl
theorem mvTag_frame {s d b o:Nat}:mvTag κ s d b o = .frame↔κ b o = .frame:=by
 unfold mvTag;split
 ·rename_i h;split<;>simp [h]
 ·rename_i h;rfl
theorem mvTag_free {s d b o:Nat}:mvTag κ s d b o = .free↔κ b o = .free:=by
 unfold mvTag;split
 ·rename_i h;split<;>simp [h]
 ·rename_i h;rfl
theorem mvTag_mslot {s d b o c j:Nat}:mvTag κ s d b o = .mslot c j↔κ b o = .mslot c j:=by
 unfold mvTag;split
 ·rename_i h;split<;>simp [h]
 ·rename_i h;rfl
theorem Keep.tags {κ κ':Ghost}(h1:∀ b o,κ b o = .imm->κ' b o = .imm)(h2:∀ b o,κ b o = .frame->κ' b o = .frame):Keep κ w κ' w :=
 ⟨rfl,rfl,rfl,Nat.le_refl _,fun _ _=>rfl,fun b o h=>⟨h1 b o h,rfl⟩,fun b o h=>⟨h2 b o h,rfl,rfl⟩,fun _ _ _=>rfl⟩
theorem RepO.tags {κ κ':Ghost}{b:Nat}{o:AObj}(h:RepO P κ w b o)(h1:∀ b o,κ b o = .imm->κ' b o = .imm)(h3:∀ b' o' j,κ b' o' = .mslot b j->κ' b' o' = .mslot b j):RepO P κ' w b o:=by
 have K:∀ {V v},Rep P κ w V v->Rep P κ' w V v:=fun hr=>hr.keep (fun b o hb=>⟨h1 b o hb,rfl⟩) (fun _ _=>rfl) (Nat.le_refl _)
 cases o with
 | it o=>exact h
 | cells l =>
  obtain⟨c,e,fr,a1,a2,a3,a4⟩:=h;exact⟨c,e,fr,a1,a2,a3,fun j V v e1 e2=>⟨K (a4 j V v e1 e2).1,(a4 j V v e1 e2).2.1,fun b' o' hs=>h3 _ _ _ ((a4 j V v e1 e2).2.2 b' o' hs)⟩⟩
 | map es =>
  obtain⟨ents,clock,a1,a2,a3,a4,a5⟩:=h;exact⟨ents,clock,a1,a2,fun j e ent e1 e2=>⟨(a3 j e ent e1 e2).1,K (a3 j e ent e1 e2).2.1,fun b' o' hs=>h3 _ _ _ ((a3 j e ent e1 e2).2.2 b' o' hs)⟩,a4,a5⟩
theorem Holds.move {T:Nat->AVal}{V:Nat->Value}{M:Mem}(h:Holds P κ T V M w)(s d:Nat)(hne:s≠d) :
 Holds P (mvTag κ s d) (setT (setT T s (T s).shut) d (T s)) (fun t=>if t=d then V s else V t) M w where
 tmp t:=by
  have K:∀ {X x},Rep P κ w X x->Rep P (mvTag κ s d) w X x:=fun hr=>hr.keep (fun b o hb=>⟨mvTag_imm.2 hb,rfl⟩) (fun _ _=>rfl) (Nat.le_refl _)
  unfold setT;split
  ·exact K (h.tmp s)
  ·split
   ·rename_i e;subst e;exact K (h.tmp t).shut
   ·exact K (h.tmp t)
 obj b o hb:=(h.obj b o hb).tags (fun _ _=>mvTag_imm.2) (fun _ _ _=>mvTag_mslot.2)
 tag b o hb:=(h.tag b o fun e=>hb (mvTag_free.2 e)).imp id fun h=>h.to mvTag_imm.2
 sp t b o hsp:=by
  unfold setT at hsp;split at hsp
  ·rename_i e;subst e;have:=h.sp s b o hsp;unfold mvTag;rw [this];simp
  ·rename_i e;split at hsp
   ·exact absurd hsp Spare.not_shut
   ·rename_i e';have:=h.sp t b o hsp;unfold mvTag;rw [this];simp [e']
 wr b o t hb:=by
  unfold mvTag at hb;split at hb
  ·rename_i h1;exact h.wr b o _ h1
  ·exact h.wr b o t hb
 mwr b o c j hb:=h.mwr b o c j (mvTag_mslot.1 hb)
theorem Holds.push {T:Nat->AVal}{V:Nat->Value}{M:Mem}(h:Holds P κ T V M w)(ob:Obj):Holds P κ T V M (push w ob):=by
 have hk:Keep κ w κ (Am.push w ob):=Keep.push ob fun b o hb=>(h.tag b o hb).1
 have hlt:∀ b o,M b=some o->b<w.heap.size:=fun b o hb=>by
  have:=h.obj b o hb;rcases Nat.lt_or_ge b w.heap.size with h'|h'
  ·exact h'
  ·cases o with
   | it o=>have a1:=this.1;rw [Array.getElem?_eq_none h'] at a1;cases a1
   | cells l=>obtain⟨c,e,fr,a1,-⟩:=this;rw [Array.getElem?_eq_none h'] at a1;cases a1
   | map es=>obtain⟨c,e,a1,-⟩:=this;rw [Array.getElem?_eq_none h'] at a1;cases a1
 have hb':∀ b,b<w.heap.size->(Am.push w ob).heap[b]? = w.heap[b]?:=fun b hb=>push_old w ob hb
 refine⟨fun t=>hk.rep (h.tmp t),fun b o hb=>?_,fun b o hb=>⟨Nat.lt_of_lt_of_le (h.tag b o hb).1 hk.size,(h.tag b o hb).2⟩,fun t b o hsp=>h.sp t b o (hsp.keep (h.tmp t) hk.shape),fun b o t hb=>?_,fun b o c j hb=>?_⟩
 ·have hlt':=hlt b o hb;have:=h.obj b o hb;cases o with
  | it o=>exact⟨(hb' b hlt').trans this.1,this.2⟩
  | cells l =>
   obtain⟨c,e,fr,a1,a2,a3,a4⟩:=this;exact⟨c,e,fr,(hb' b hlt').trans a1,a2,fun x hx=>(frozen_of_block (hb' b hlt')).trans (a3 x hx),fun j X x e1 e2=>⟨hk.rep (a4 j X x e1 e2).1,(a4 j X x e1 e2).2.1,fun b' o' hs=>(a4 j X x e1 e2).2.2 b' o' (hs.keep (a4 j X x e1 e2).1 hk.shape)⟩⟩
  | map es =>
   obtain⟨ents,clock,a1,a2,a3,a4,a5⟩:=this;exact⟨ents,clock,(hb' b hlt').trans a1,a2,fun j e ent e1 e2=>⟨(a3 j e ent e1 e2).1,hk.rep (a3 j e ent e1 e2).2.1,fun b' o' hs=>(a3 j e ent e1 e2).2.2 b' o' (hs.keep (a3 j e ent e1 e2).2.1 hk.shape)⟩,a4,a5⟩
 ·have:=h.wr b o t hb;have hlt':=(h.tag b o (by rw [hb];simp)).1;exact⟨by rw [cell_of_block (hb' b hlt')];exact this.1,by rw [frozen_of_block (hb' b hlt')];exact this.2⟩
 ·have:=h.mwr b o c j hb;have hlt':=(h.tag b o (by rw [hb];simp)).1;exact⟨by rw [cell_of_block (hb' b hlt')];exact this.1,by rw [frozen_of_block (hb' b hlt')];exact this.2⟩
theorem Holds.lt {T:Nat->AVal}{V:Nat->Value}{M:Mem}(h:Holds P κ T V M w){b:Nat}{o:AObj}(hb:M b=some o):b<w.heap.size:=by
 have:=h.obj b o hb;rcases Nat.lt_or_ge b w.heap.size with h'|h'
 ·exact h'
 ·cases o with
  | it o=>have a1:=this.1;rw [Array.getElem?_eq_none h'] at a1;cases a1
  | cells l=>obtain⟨c,e,fr,a1,-⟩:=this;rw [Array.getElem?_eq_none h'] at a1;cases a1
  | map es=>obtain⟨c,e,a1,-⟩:=this;rw [Array.getElem?_eq_none h'] at a1;cases a1
theorem Holds.fresh {T:Nat->AVal}{V:Nat->Value}{M:Mem}(h:Holds P κ T V M w):M w.heap.size=none:=by
 cases hb:M w.heap.size with
 | none=>rfl
 | some o=>exact absurd (h.lt hb) (by omega)
theorem Holds.untagged {T:Nat->AVal}{V:Nat->Value}{M:Mem}(h:Holds P κ T V M w)(o:Nat):κ w.heap.size o = .free:=by
 cases hb:κ w.heap.size o with
 | free=>rfl
 | _=>exact absurd (h.tag w.heap.size o (by rw [hb];simp)).1 (by omega)
theorem Holds.know {T:Nat->AVal}{V:Nat->Value}{M:Mem}(h:Holds P κ T V M w){b:Nat}{o:AObj}(hr:RepO P κ w b o)(ht:∀ x,κ b x = .free):Holds P κ T V (M.upd b o) w where
 tmp:=h.tmp
 obj c p hc:=by
  unfold Mem.upd at hc;split at hc
  ·rename_i e;subst e;cases hc;exact hr
  ·exact h.obj c p hc
 tag c x hc:=by
  refine⟨(h.tag c x hc).1,?_⟩;unfold Mem.upd;split
  ·rename_i e;subst e;exact absurd (ht x) hc
  ·exact (h.tag c x hc).2
 sp:=h.sp
 wr:=h.wr
 mwr:=h.mwr
theorem Holds.forget {T:Nat->AVal}{V:Nat->Value}{M M':Mem}(h:Holds P κ T V M w)(hm:∀ b o,M' b=some o->M b=some o):Holds P κ T V M' w where
 tmp:=h.tmp
 obj c p hc:=h.obj c p (hm c p hc)
 tag c x hc:=by
  exact⟨(h.tag c x hc).1,fun p hp=>(h.tag c x hc).2 p (hm c p hp)⟩
 sp:=h.sp
 wr:=h.wr
 mwr:=h.mwr
end
end Go.Am
namespace Go.Am
def splice (l:List AVal)(k:Nat)(xs:List AVal):List AVal:=l.take k++xs++l.drop (k+xs.length)
theorem Mem.upd_upd (M:Mem)(b:Nat)(x y:AObj):(M.upd b x).upd b y=M.upd b y:=by
 funext c;unfold Mem.upd;split<;>rfl
theorem Mem.upd_self (M:Mem)(b:Nat)(x:AObj):M.upd b x b=some x:=by simp [Mem.upd]
section
variable {P:Program}{κ:Ghost}{w:World}
theorem run_store {b o:Nat}{x:Value}(h1:(w.cell? ⟨b,o,none⟩).isSome=true)(h2:w.frozen? ⟨b,o,none⟩=false)(hx:one x=true):(store ⟨b,o,none⟩ x).run P w = .ok () (w.setCell ⟨b,o,none⟩ x):=by
 obtain⟨v,hv⟩:=Option.isSome_iff_exists.1 h1;show (Sem.store .plain ⟨b,o,none⟩ x (.pure ())).run P w=_
 cases x<;>first|(simp [one] at hx;done)|simp [Sem.run,hv,h2]
theorem Holds.free_of {T:Nat->AVal}{V:Nat->Value}{M:Mem}(h:Holds P κ T V M w){b:Nat}{o:AObj}(hb:M b=some o)(x:Nat)(hg:¬ GlobO o:=by exact fun h=>h):κ b x = .free:=by
 refine Classical.byContradiction fun hk=>hg ?_
 exact ((h.tag b x hk).2 o hb).2
theorem setCell_other {b o:Nat}{x:Value}{c:Nat}(h:c≠b):(w.setCell ⟨b,o,none⟩ x).heap[c]? = w.heap[c]?:=setCell_heap_ne w _ x h
theorem Holds.setM {T:Nat->AVal}{V:Nat->Value}{M:Mem}(h:Holds P κ T V M w){b o:Nat}{l:List AVal}(hb:M b=some (.cells l))(ho:o<l.length){X:AVal}{x:Value}(hr:Rep P κ w X x)(hone:one x=true)
 (hs:∀ b' o',Spare P w X x b' o'->κ b' o' = .mslot b o) :
 (store ⟨b,o,none⟩ x).run P w = .ok () (w.setCell ⟨b,o,none⟩ x)/\Holds P κ T V (M.upd b (.cells (l.set o X))) (w.setCell ⟨b,o,none⟩ x)/\Keep κ w κ (w.setCell ⟨b,o,none⟩ x):=by
 obtain⟨c,e,fr,a1,a2,a3,a4⟩:=h.obj b _ hb;have hfree:=h.free_of hb o;have hk:Keep κ w κ (w.setCell ⟨b,o,none⟩ x):=Keep.setCell x (by rw [hfree];simp) (by rw [hfree];simp);have hcell:(w.cell? ⟨b,o,none⟩).isSome=true:=by
  rw [cell_of_cells a1];simp;omega
 refine⟨run_store hcell (a3 o (by omega)) hone,⟨fun t=>hk.rep (h.tmp t),fun d p hd=>?_,fun d y hd=>?_,fun t d y hsp=>h.sp t d y (hsp.keep (h.tmp t) hk.shape),fun d y t hd=>?_,fun d y c' j hd=>?_⟩,hk⟩
 ·unfold Mem.upd at hd;split at hd
  ·rename_i e';subst e';cases hd;refine⟨c.setIfInBounds o x,e,fr,setCell_heap w d o x a1,by simp [a2],fun y hy=>?_,fun j Y y e1 e2=>?_⟩
   ·rw [setCell_frozen];exact a3 y (by simpa using hy)
   ·by_cases hj:j=o
    ·subst hj;rw [List.getElem?_set_self ho] at e1;rw [Array.getElem?_setIfInBounds_self_of_lt (by omega)] at e2;cases e1;cases e2;exact⟨hk.rep hr,hone,fun b' o' hsp=>hs b' o' (hsp.keep hr hk.shape)⟩
    ·rw [List.getElem?_set_ne (Ne.symm hj)] at e1;rw [Array.getElem?_setIfInBounds_ne (Ne.symm hj)] at e2;have:=a4 j Y y e1 e2;exact⟨hk.rep this.1,this.2.1,fun b' o' hsp=>this.2.2 b' o' (hsp.keep this.1 hk.shape)⟩
  ·rename_i e';have hblk:=setCell_other (w:=w) (o:=o) (x:=x) e';have:=h.obj d p hd;cases p with
   | it o=>exact⟨hblk.trans this.1,this.2⟩
   | cells l' =>
    obtain⟨c',e,fr,b1,b2,b3,b4⟩:=this;exact⟨c',e,fr,hblk.trans b1,b2,fun y hy=>(frozen_of_block (a:=⟨d,y,none⟩) hblk).trans (b3 y hy),fun j Y y e1 e2=>⟨hk.rep (b4 j Y y e1 e2).1,(b4 j Y y e1 e2).2.1,fun b' o' hsp=>(b4 j Y y e1 e2).2.2 b' o' (hsp.keep (b4 j Y y e1 e2).1 hk.shape)⟩⟩
   | map es =>
    obtain⟨ents,clock,b1,b2,b3,b4,b5⟩:=this;exact⟨ents,clock,hblk.trans b1,b2,fun j e ent e1 e2=>⟨(b3 j e ent e1 e2).1,hk.rep (b3 j e ent e1 e2).2.1,fun b' o' hsp=>(b3 j e ent e1 e2).2.2 b' o' (hsp.keep (b3 j e ent e1 e2).2.1 hk.shape)⟩,b4,b5⟩
 ·refine⟨by rw [setCell_size];exact (h.tag d y hd).1,?_⟩;unfold Mem.upd;split
  ·rename_i e';subst e';exact absurd (h.free_of hb y) hd
  ·exact (h.tag d y hd).2
 ·have:=h.wr d y t hd;exact⟨by rw [setCell_isSome];exact this.1,by rw [setCell_frozen];exact this.2⟩
 ·have:=h.mwr d y c' j hd;exact⟨by rw [setCell_isSome];exact this.1,by rw [setCell_frozen];exact this.2⟩
theorem run_storeCells {T:Nat->AVal}{V:Nat->Value}{b o:Nat}:∀ (xs:List AVal) (vs:List Value) (i:Nat) (w:World) (M:Mem) (l:List AVal),Holds P κ T V M w->M b=some (.cells l)->o+i+xs.length<=l.length →
 xs.length=vs.length->(∀ (j:Nat) X v,xs[j]? = some X->vs[j]? = some v->Rep P κ w X v/\X.unit=true) →
 ∃ w',(storeCells ⟨b,o,none⟩ vs i).run P w = .ok () w'/\Holds P κ T V (M.upd b (.cells (splice l (o+i) (xs.map AVal.shut)))) w'/\Keep κ w κ w'
 | [],vs,i,w,M,l,h,hb,hle,hl,_=>by
  have:vs=[]:=by cases vs<;>simp_all
  subst this;refine⟨w,rfl,?_,Keep.refl κ w⟩;have e1:splice l (o+i) (([]:List AVal).map AVal.shut)=l:=by simp [splice]
  rw [e1];have e2:M.upd b (.cells l)=M:=by
   funext c;unfold Mem.upd;split
   ·rename_i e;subst e;exact hb.symm
   ·rfl
  rw [e2];exact h
 | X::xs,vs,i,w,M,l,h,hb,hle,hl,hr=>by
  cases vs with
  | nil=>simp at hl
  | cons v vs =>
   simp only [List.length_cons] at hle;obtain⟨hX,hu⟩:=hr 0 X v rfl rfl;obtain⟨h1,h2,h3⟩:=h.setM hb (show o+i<l.length by omega) hX.shut (unit_one hX hu) (fun b' o' hsp=>absurd hsp Spare.not_shut);obtain⟨w',h4,h5,h6⟩:=run_storeCells (b:=b) (o:=o) xs vs (i+1) _ _ (l.set (o+i) X.shut) h2 (Mem.upd_self M b _) (by simp;omega) (by simpa using hl) (fun j Y y e1 e2=>by
    obtain⟨h7,h8⟩:=hr (j+1) Y y (by simpa using e1) (by simpa using e2);exact⟨h3.rep h7,h8⟩)
   refine⟨w',?_,?_,h3.trans h6⟩
   ·show ((store ((⟨b,o,none⟩ : Addr).add i) v) >>= fun _=>storeCells ⟨b,o,none⟩ vs (i+1)).run P w=_
    rw [addr_add,Sem.run_bind,h1];exact h4
   ·rw [Mem.upd_upd] at h5;have e1:splice (l.set (o+i) X.shut) (o+(i+1)) (xs.map AVal.shut)=splice l (o+i) ((X::xs).map AVal.shut):=by
     have hlt:o+i<l.length:=by omega
     unfold splice;simp only [List.map_cons,List.length_cons,List.length_map];rw [show o+(i+1)=o+i+1 from by omega,List.take_set,List.drop_set,if_pos (by omega)];rw [show List.take (o+i+1) l=List.take (o+i) l++[l[o+i]] from List.take_succ_eq_append_getElem hlt];rw [List.set_append_right _ _ (by simp;omega)];simp only [List.length_take,Nat.min_eq_left (Nat.le_of_lt hlt),Nat.sub_self,List.set_cons_zero,List.append_assoc,List.cons_append,List.nil_append];rw [show o+i+1+xs.length=o+i+(xs.length+1) from by omega]
    rw [← e1];exact h5
end
end Go.Am
namespace Go.Am
theorem growBy_le (n:Nat):∀ (r c:Nat),256<=c->c<=2*n->Builtin.growBy n r c<=2*n
 | 0,c,_,h=>h
 | r+1,c,h1,h2=>by
  unfold Builtin.growBy;split
  ·exact h2
  ·exact growBy_le n r _ (by omega) (by omega)
theorem nextslicecap_le {n c:Nat}(h:c<n):Builtin.nextslicecap n c<=2*n:=by
 unfold Builtin.nextslicecap;split
 ·omega
 ·split
  ·omega
  ·exact growBy_le n 4 c (by omega) (by omega)
def bytesL (s:ByteArray):List AVal:=s.data.toList.map fun b=>.raw (.int .u8 b.toNat)
def spread:AVal->Option (List AVal)
 | .sl ys _=>some ys
 | .raw (.string s)=>some (bytesL s)
 | _=>none
def bytesT (P:Program)(t:TypeId):Option Nat:=(P.info? t).map (·.bytes)
def isRow:TypeDesc->Bool
 | .slice _ | .string=>true
 | _=>false
def aAppend (P:Program)(argTypes:Array TypeId)(X Y:AVal):Option (List AVal) :=
 match argTypes[0]?,argTypes[1]? with
 | some st,some xt =>
  (match P.underlying st,P.underlying xt with
  | some (.slice e),some xd =>
   if isRow xd=false then none else
   match sizeT P e,bytesT P e,zeroT P e,X,spread Y with
   | some sz,some by_,some z,.sl l true,some ys =>
    if z.cells.size=sz/\1<=by_/\(l.length+ys.length)*by_<=2^47/\(l.all fun V=>V.cells.length == sz)=true/\(ys.all fun V=>V.ok && V.cells.length == sz)=true then some (l++ys) else none
   | _,_,_,_,_=>none
  | _,_=>none)
 | _,_=>none
section
variable {P:Program}{κ:Ghost}{w:World}
theorem run_firstCells {Y:AVal}{y:Value}{ys:List AVal}{sz:Nat}(hy:Rep P κ w Y y)(hs:spread Y=some ys)(hok:∀ e∈ys,e.ok=true/\e.cells.length=sz) :
 ∃ vs:Array Value,(Builtin.lenOf y).run P w = .ok ys.length w/\(Builtin.firstCells sz ys.length y).run P w = .ok vs w/\vs.size=ys.length*sz/\∀ (j:Nat) c v,(flat ys)[j]? = some c->vs[j]? = some v->Rep P κ w c v/\c.unit=true:=by
 have hunit:∀ c∈flat ys,c.unit=true:=by
  intro c hc;unfold flat at hc;obtain⟨e,he,hce⟩:=List.mem_flatMap.1 hc;have h1:=(hok e he).1;cases e with
  | agg cs=>exact List.all_eq_true.1 h1 c hce
  | undef=>simp [AVal.ok,AVal.unit] at h1
  | tup vs=>simp [AVal.ok,AVal.unit] at h1
  | raw v=>simp only [AVal.cells,List.mem_singleton] at hce;subst hce;exact h1
  | sl l o=>simp only [AVal.cells,List.mem_singleton] at hce;subst hce;rfl
  | sptr l i o=>simp only [AVal.cells,List.mem_singleton] at hce;subst hce;rfl
 have hsz':∀ e∈ys,e.cells.length=sz:=fun e he=>(hok e he).2
 have hfl:=flat_length hsz';unfold spread at hs;split at hs
 ·rename_i ys' own;obtain rfl:=Option.some.inj hs;cases hy with
  | nil=>exact⟨#[],rfl,rfl,by simp,fun j c v h=>by simp [flat] at h⟩
  | emp _ a0 c0 h0 =>
   refine⟨#[],rfl,?_,by simp,fun j c v h=>by simp [flat] at h⟩;cases a0 with
   | none=>rfl
   | some q =>
    show (loadCells q (0*sz)).run P w=_
    rw [Nat.zero_mul];rfl
  | sl _ _ b off cap sz' cv hcap hsz hk hw hr ho =>
   by_cases hnil:ys'=[]
   ·subst hnil;refine⟨#[],rfl,?_,by simp,fun j c v h=>by simp [flat] at h⟩;show (loadCells ⟨b,off,none⟩ (0*sz)).run P w=_
    rw [Nat.zero_mul];rfl
   ·obtain⟨e,he⟩:=List.exists_mem_of_ne_nil _ hnil;have hzz:sz'=sz:=(hsz e he).symm.trans (hsz' e he);subst hzz;refine⟨((List.range (ys'.length*sz')).map cv).toArray,rfl,run_loadCells cv fun j hj=>hw j (by omega),by simp,fun j c v h1 h2=>?_⟩;have hj:j<(flat ys').length:=by
     rcases Nat.lt_or_ge j (flat ys').length with h'|h'
     ·exact h'
     ·rw [List.getElem?_eq_none h'] at h1;cases h1
    have hj2:j<ys'.length*sz':=by omega
    simp [hj2] at h2;subst h2;exact⟨hr j c h1,hunit c (List.mem_of_getElem? h1)⟩
 ·rename_i s;obtain rfl:=Option.some.inj hs;have:=rep_raw hy;subst this;have hflat:flat (bytesL s)=bytesL s:=by
   unfold flat bytesL
   induction s.data.toList with
   | nil=>rfl
   | cons x l ih=>simp only [List.map_cons,List.flatMap_cons,ih];rfl
  by_cases hnil:bytesL s=[]
  ·have h0:s.size=0:=by
    have:=congrArg List.length hnil;simpa [bytesL] using this
   refine⟨#[],?_,?_,by rw [hnil];simp,fun j c v h=>by rw [hnil] at h;simp [flat] at h⟩
   ·show Result.ok s.size w=_
    rw [hnil,h0];rfl
   ·show Result.ok ((s.extract 0 (bytesL s).length).data.map fun b=>Value.int .u8 b.toNat) w=_
    rw [hnil];congr 1;simp
  ·obtain⟨e,he⟩:=List.exists_mem_of_ne_nil _ hnil;have h1:sz=1:=by
    rw [← hsz' e he];simp only [bytesL,List.mem_map] at he;obtain⟨b,-,rfl⟩:=he;rfl
   subst h1;have hlen:(bytesL s).length=s.size:=by simp [bytesL]
   have hext:s.extract 0 s.size=s:=by
    apply ByteArray.ext;simp
   refine⟨s.data.map fun b=>Value.int .u8 b.toNat,?_,?_,by rw [hlen];simp,fun j c v h1 h2=>?_⟩
   ·show Result.ok s.size w=_
    rw [hlen]
   ·show Result.ok ((s.extract 0 (bytesL s).length).data.map fun b=>Value.int .u8 b.toNat) w=_
    rw [hlen,hext]
   ·rw [hflat] at h1;simp only [bytesL,List.getElem?_map,Array.getElem?_toList,Array.getElem?_map] at h1 h2;cases hb:s.data[j]? with
    | none=>rw [hb] at h1;cases h1
    | some x =>
     rw [hb] at h1 h2;simp only [Option.map_some,Option.some.injEq] at h1 h2;subst h1;subst h2;exact⟨.raw _,rfl⟩
 ·cases hs
theorem Holds.setSpare {T:Nat->AVal}{V:Nat->Value}{M:Mem}(h:Holds P κ T V M w){b o s:Nat}(hs:κ b o = .slot s)(x:Value) :
 Holds P κ T V M (w.setCell ⟨b,o,none⟩ x)/\Keep κ w κ (w.setCell ⟨b,o,none⟩ x):=by
 have hk:Keep κ w κ (w.setCell ⟨b,o,none⟩ x):=Keep.setCell x (by rw [hs];simp) (by rw [hs];simp);have hbM:M b=none:=(h.tag b o (by rw [hs];simp)).2.out (by rw [hs];simp);refine⟨⟨fun t=>hk.rep (h.tmp t),fun d p hd=>?_,fun d y hd=>⟨by rw [setCell_size];exact (h.tag d y hd).1,(h.tag d y hd).2⟩,fun t d y hsp=>h.sp t d y (hsp.keep (h.tmp t) hk.shape),fun d y t hd=>?_,fun d y c' j hd=>?_⟩,hk⟩
 ·have hne:d≠b:=fun e=>by subst e;rw [hbM] at hd;cases hd
  have hblk:=setCell_other (w:=w) (o:=o) (x:=x) hne;have:=h.obj d p hd;cases p with
  | it o=>exact⟨hblk.trans this.1,this.2⟩
  | cells l' =>
   obtain⟨c',e,fr,b1,b2,b3,b4⟩:=this;exact⟨c',e,fr,hblk.trans b1,b2,fun y hy=>(frozen_of_block (a:=⟨d,y,none⟩) hblk).trans (b3 y hy),fun j Y y e1 e2=>⟨hk.rep (b4 j Y y e1 e2).1,(b4 j Y y e1 e2).2.1,fun b' o' hsp=>(b4 j Y y e1 e2).2.2 b' o' (hsp.keep (b4 j Y y e1 e2).1 hk.shape)⟩⟩
  | map es =>
   obtain⟨ents,clock,b1,b2,b3,b4,b5⟩:=this;exact⟨ents,clock,hblk.trans b1,b2,fun j e ent e1 e2=>⟨(b3 j e ent e1 e2).1,hk.rep (b3 j e ent e1 e2).2.1,fun b' o' hsp=>(b3 j e ent e1 e2).2.2 b' o' (hsp.keep (b3 j e ent e1 e2).2.1 hk.shape)⟩,b4,b5⟩
 ·have:=h.wr d y t hd;exact⟨by rw [setCell_isSome];exact this.1,by rw [setCell_frozen];exact this.2⟩
 ·have:=h.mwr d y c' j hd;exact⟨by rw [setCell_isSome];exact this.1,by rw [setCell_frozen];exact this.2⟩
theorem run_storeSpare {T:Nat->AVal}{V:Nat->Value}{M:Mem}{b o s:Nat}:∀ (vs:List Value) (i:Nat) (w:World),Holds P κ T V M w->(∀ j,j<vs.length->κ b (o+(i+j)) = .slot s)->(∀ v∈vs,one v=true) →
 ∃ w',(storeCells ⟨b,o,none⟩ vs i).run P w = .ok () w'/\Holds P κ T V M w'/\Keep κ w κ w'/\(∀ (j:Nat) v,vs[j]? = some v->w'.cell? ⟨b,o+(i+j),none⟩=some v)/\(∀ x,x<o+i->w'.cell? ⟨b,x,none⟩=w.cell? ⟨b,x,none⟩)
 | [],i,w,h,_,_=>⟨w,rfl,h,Keep.refl κ w,fun j v e=>by simp at e,fun _ _=>rfl⟩
 | v::vs,i,w,h,hs,hone=>by
  have hs0:=hs 0 (by simp);rw [Nat.add_zero] at hs0;obtain⟨h1,h2⟩:=h.setSpare hs0 v;have hw:=h.wr _ _ _ hs0;obtain⟨w',h3,h4,h5,h6,h7⟩:=run_storeSpare (b:=b) (o:=o) (s:=s) vs (i+1) _ h1 (fun j hj=>by rw [show i+1+j=i+(j+1) from by omega];exact hs (j+1) (by simp;omega)) (fun v hv=>hone v (by simp [hv]));refine⟨w',?_,h4,h2.trans h5,fun j x e=>?_,fun x hx=>?_⟩
  ·show ((store ((⟨b,o,none⟩ : Addr).add i) v) >>= fun _=>storeCells ⟨b,o,none⟩ vs (i+1)).run P w=_
   rw [addr_add,Sem.run_bind,run_store hw.1 hw.2 (hone v (by simp))];exact h3
  ·cases j with
   | zero =>
    simp only [List.getElem?_cons_zero,Option.some.injEq] at e;subst e;rw [Nat.add_zero,h7 (o+i) (by omega)];exact setCell_cell_eq w b (o+i) v hw.1
   | succ j =>
    rw [show i+(j+1)=i+1+j from by omega];exact h6 j x (by simpa using e)
  ·rw [h7 x (by omega)];exact setCell_cell_ne w b (o+i) v b x (by omega)
end
end Go.Am
namespace Go.Am
section
variable {P:Program}{κ:Ghost}{w:World}
theorem Holds.drawn {T:Nat->AVal}{V:Nat->Value}{M:Mem}(h:Holds P κ T V M w)(n:Nat):Holds P κ T V M { w with drawn:=n }/\Keep κ w κ { w with drawn:=n }:=by
 have hk:Keep κ w κ { w with drawn:=n }:=⟨rfl,rfl,rfl,Nat.le_refl _,fun _ _=>rfl,fun _ _ h=>⟨h,rfl⟩,fun _ _ h=>⟨h,rfl,rfl⟩,fun _ _ _=>rfl⟩;refine⟨⟨fun t=>hk.rep (h.tmp t),fun d p hd=>?_,h.tag,fun t d y hsp=>h.sp t d y (hsp.keep (h.tmp t) hk.shape),h.wr,h.mwr⟩,hk⟩;have:=h.obj d p hd;cases p with
 | it o=>exact this
 | cells l' =>
  obtain⟨c',e,fr,b1,b2,b3,b4⟩:=this;exact⟨c',e,fr,b1,b2,b3,fun j Y y e1 e2=>⟨hk.rep (b4 j Y y e1 e2).1,(b4 j Y y e1 e2).2.1,fun b' o' hsp=>(b4 j Y y e1 e2).2.2 b' o' (hsp.keep (b4 j Y y e1 e2).1 hk.shape)⟩⟩
 | map es =>
  obtain⟨ents,clock,b1,b2,b3,b4,b5⟩:=this;exact⟨ents,clock,b1,b2,fun j e ent e1 e2=>⟨(b3 j e ent e1 e2).1,hk.rep (b3 j e ent e1 e2).2.1,fun b' o' hsp=>(b3 j e ent e1 e2).2.2 b' o' (hsp.keep (b3 j e ent e1 e2).2.1 hk.shape)⟩,b4,b5⟩
def newTag (κ:Ghost)(nb n m d:Nat):Ghost:=fun b o=>if b=nb then (if o<n then .imm else if o<m then .slot d else .free) else κ b o
theorem esz_of {b:Nat}{c:Array Value}{e:TypeId}{fr:Nat×Nat}{sz:Nat}(hb:w.heap[b]? = some (.cells c e fr))(hs:sizeT P e=some sz):esz P w b=sz:=by
 unfold esz World.shape?;rw [hb];unfold sizeT at hs;simp only [hs,Option.getD_some]
theorem Holds.newSl {T:Nat->AVal}{V:Nat->Value}{M:Mem}(h:Holds P κ T V M w)(d:Nat){l:List AVal}{cs:Array Value}{cap:Nat}{e:TypeId}{fr:Nat×Nat}{sz:Nat}(hs:sizeT P e=some sz)(hc:cs.size=cap*sz)(hle:l.length<=cap)(hne:l≠[]\/cap=l.length)
 (hl:∀ E∈l,E.cells.length=sz) (hr:∀ (j:Nat) c v,(flat l)[j]? = some c->cs[j]? = some v->Rep P κ w c v) (hfr:∀ o,o<cs.size->¬ (fr.1<=o/\o<fr.2)) :
 Holds P (newTag κ w.heap.size (l.length*sz) cs.size d) (setT T d (.sl l true)) (fun t=>if t=d then .slice (some ⟨w.heap.size,0,none⟩) l.length cap else V t) M (Am.push w (.cells cs e fr)) ∧
  Keep κ w (newTag κ w.heap.size (l.length*sz) cs.size d) (Am.push w (.cells cs e fr)):=by
 have hfl:=flat_length hl;have hlsz:l.length*sz<=cs.size:=by rw [hc];exact Nat.mul_le_mul_right sz hle
 have h1:=h.push (.cells cs e fr);have hk1:Keep κ w κ (Am.push w (.cells cs e fr)):=Keep.push _ fun b o hb=>(h.tag b o hb).1
 have hblk:(Am.push w (.cells cs e fr)).heap[w.heap.size]? = some (.cells cs e fr):=push_new w _;have hsize:(Am.push w (.cells cs e fr)).heap.size=w.heap.size+1:=by simp [Am.push]
 have hold:∀ b o,b≠w.heap.size->newTag κ w.heap.size (l.length*sz) cs.size d b o=κ b o:=fun b o hb=>by unfold newTag;rw [if_neg hb]
 have himm:∀ b o,κ b o = .imm->newTag κ w.heap.size (l.length*sz) cs.size d b o = .imm:=fun b o hb=>by
  rw [hold b o fun e=>by subst e;rw [h.untagged o] at hb;cases hb];exact hb
 have hframe:∀ b o,κ b o = .frame->newTag κ w.heap.size (l.length*sz) cs.size d b o = .frame:=fun b o hb=>by
  rw [hold b o fun e=>by subst e;rw [h.untagged o] at hb;cases hb];exact hb
 have hk2:Keep κ (Am.push w (.cells cs e fr)) (newTag κ w.heap.size (l.length*sz) cs.size d) (Am.push w (.cells cs e fr)):=Keep.tags himm hframe;refine⟨⟨fun t=>?_,fun b o hb=>?_,fun b o hb=>?_,fun t b o hsp=>?_,fun b o t hb=>?_,fun b o c j hb=>?_⟩,hk1.trans hk2⟩
 ·unfold setT;split
  ·refine .sl l true w.heap.size 0 cap sz (fun j=>cs.getD j undef) hle hl (fun j hj=>?_) (fun j hj=>?_) (fun j c hc'=>?_) fun _=>hne.elim (fun h0=>.inr ⟨h0,esz_of hblk hs,by rw [hsize];omega⟩) .inl
   ·unfold newTag;rw [if_pos rfl,if_pos (by omega)]
   ·rw [cell_of_cells hblk,Nat.zero_add];have:j<cs.size:=by omega
    simp [this]
   ·have hj:j<(flat l).length:=by
     rcases Nat.lt_or_ge j (flat l).length with h'|h'
     ·exact h'
     ·rw [List.getElem?_eq_none h'] at hc';cases hc'
    have hj2:j<cs.size:=by omega
    exact (hk1.trans hk2).rep (hr j c _ hc' (by simp [hj2]))
  ·exact hk2.rep (h1.tmp t)
 ·have hne:∀ b' o' j,κ b' o' = .mslot b j->newTag κ w.heap.size (l.length*sz) cs.size d b' o' = .mslot b j:=fun b' o' j hb'=>by
   rw [hold b' o' fun e=>by subst e;rw [h.untagged o'] at hb';cases hb'];exact hb'
  exact (h1.obj b o hb).tags himm hne
 ·rw [hsize];unfold newTag at hb;split at hb
  ·rename_i e';subst e';exact⟨by omega,by rw [h.fresh];exact .none _⟩
  ·rename_i e';exact⟨by have:=(h.tag b o hb).1;omega,by rw [show newTag κ w.heap.size (l.length*sz) cs.size d b o=κ b o from if_neg e'];exact (h.tag b o hb).2⟩
 ·unfold setT at hsp;split at hsp
  ·rename_i e';subst e';obtain⟨l',off,cap',e1,e2,e3,e4⟩:=hsp.sl;cases e1;have e5:b=w.heap.size/\off=0/\cap'=cap:=by
    simp only [Value.slice.injEq,Option.some.injEq,Addr.mk.injEq] at e2;obtain⟨⟨a1,a2,-⟩,-,a3⟩:=e2;exact⟨a1.symm,a2.symm,a3.symm⟩
   obtain⟨rfl,rfl,rfl⟩:=e5;rw [esz_of hblk hs] at e3 e4;unfold newTag;rw [if_pos rfl,if_neg (by omega),if_pos (by omega)]
  ·rename_i e';have hsp':=hsp.keep (h.tmp t) hk1.shape;have:=h.sp t b o hsp';rw [hold b o fun e=>by subst e;rw [h.untagged o] at this;cases this];exact this
 ·unfold newTag at hb;split at hb
  ·rename_i e';subst e';split at hb
   ·cases hb
   ·split at hb
    ·rename_i ho;refine⟨by rw [cell_of_cells hblk];simp [ho],?_⟩;unfold World.frozen?;simp only [hblk];have:=hfr o ho;simp only [Bool.and_eq_false_imp,decide_eq_true_eq,decide_eq_false_iff_not];intro h1 h2;exact this ⟨h1,h2⟩
    ·cases hb
  ·exact h1.wr b o t hb
 ·unfold newTag at hb;split at hb
  ·split at hb
   ·cases hb
   ·split at hb<;>cases hb
  ·exact h1.mwr b o c j hb
def growTag (κ:Ghost)(b lo hi s d:Nat):Ghost:=fun b' o=>if b'=b/\lo<=o/\o<hi then .imm else mvTag κ s d b' o
theorem Holds.grow {T : Nat → AVal} {V : Nat → Value} {M : Mem} (h : Holds P κ T V M w) (s d : Nat) (hsd : s ≠ d) {l ys : List AVal} {b off cap sz : Nat} (hT : T s = .sl l true) (hV : V s = .slice (some ⟨b, off, none⟩) l.length cap)
    (hl : ∀ E ∈ l, E.cells.length = sz) (hys : ∀ E ∈ ys, E.cells.length = sz) (hle : l.length + ys.length ≤ cap) (hne : l ++ ys ≠ []) (he : esz P w b = sz) (hbs : b < w.heap.size) (cv : Nat → Value)
    (hcell : ∀ j, j < ys.length * sz → w.cell? ⟨b, off + (l.length * sz + j), none⟩ = some (cv j)) (hr : ∀ (j : Nat) c, (flat ys)[j]? = some c → Rep P κ w c (cv j)) :
    Holds P (growTag κ b (off + l.length * sz) (off + (l.length + ys.length) * sz) s d) (setT (setT T s (T s).shut) d (.sl (l ++ ys) true)) (fun t => if t = d then .slice (some ⟨b, off, none⟩) (l.length + ys.length) cap else V t) M w ∧
      Keep κ w (growTag κ b (off + l.length * sz) (off + (l.length + ys.length) * sz) s d) w := by
  have hspare : ∀ o, off + l.length * sz ≤ o → o < off + cap * sz → κ b o = .slot s := fun o h1 h2 => by
    refine h.sp s b o (.inl ⟨l, off, cap, hT, hV, ?_, ?_⟩)
    · rw [he]; exact h1
    · rw [he]; exact h2
  have hcap : (l.length + ys.length) * sz ≤ cap * sz := Nat.mul_le_mul_right sz hle
  have hadd : (l.length + ys.length) * sz = l.length * sz + ys.length * sz := Nat.add_mul ..
  have hnot : ∀ b' o, (∀ t, κ b' o ≠ .slot t) → ¬ (b' = b ∧ off + l.length * sz ≤ o ∧ o < off + (l.length + ys.length) * sz) := fun b' o hn ⟨e1, e2, e3⟩ => by
    subst e1; exact hn s (hspare o e2 (by omega))
  have himm : ∀ b' o, κ b' o = .imm → growTag κ b (off + l.length * sz) (off + (l.length + ys.length) * sz) s d b' o = .imm := fun b' o hb => by
    unfold growTag; rw [if_neg (hnot b' o fun t e => by rw [hb] at e; cases e)]; exact mvTag_imm.2 hb
  have hframe : ∀ b' o, κ b' o = .frame → growTag κ b (off + l.length * sz) (off + (l.length + ys.length) * sz) s d b' o = .frame := fun b' o hb => by
    unfold growTag; rw [if_neg (hnot b' o fun t e => by rw [hb] at e; cases e)]; exact mvTag_frame.2 hb
  have hmslot : ∀ b' o c j, κ b' o = .mslot c j → growTag κ b (off + l.length * sz) (off + (l.length + ys.length) * sz) s d b' o = .mslot c j := fun b' o c j hb => by
    unfold growTag; rw [if_neg (hnot b' o fun t e => by rw [hb] at e; cases e)]; exact mvTag_mslot.2 hb
  have hk : Keep κ w (growTag κ b (off + l.length * sz) (off + (l.length + ys.length) * sz) s d) w := Keep.tags himm hframe
  refine ⟨⟨fun t => ?_, fun b' o hb => (h.obj b' o hb).tags himm (fun b'' o'' j => hmslot b'' o'' b' j), fun b' o hb => ?_, fun t b' o hsp => ?_, fun b' o t hb => ?_, fun b' o c j hb => ?_⟩, hk⟩
  · unfold setT
    split
    · rename_i e; subst e
      have hTs := h.tmp s
      rw [hT, hV] at hTs
      have hflat : flat (l ++ ys) = flat l ++ flat ys := by unfold flat; rw [List.flatMap_append]
      have hfl := flat_length hl
      have hfy := flat_length hys
      cases hTs with
      | sl _ _ _ _ _ sz' cv' hcap' hsz' hk' hw' hr' ho' =>
        have key : Rep P (growTag κ b (off + l.length * sz) (off + (l.length + ys.length) * sz) s t) w (.sl (l ++ ys) true) (.slice (some ⟨b, off, none⟩) (l ++ ys).length cap) := by
         refine .sl (l ++ ys) true b off cap sz (fun j => if j < (flat l).length then cv' j else cv (j - (flat l).length)) (by rw [List.length_append]; exact hle) (fun E hE => ?_) (fun j hj => ?_) (fun j hj => ?_) (fun j c hc => ?_) fun _ => .inr ⟨hne, he, hbs⟩
         · rcases List.mem_append.1 hE with h' | h'
           · exact hl E h'
           · exact hys E h'
         · rw [hflat, List.length_append] at hj
           by_cases hj' : j < (flat l).length
           · exact himm b _ (hk' j hj')
           · unfold growTag; rw [if_pos ⟨rfl, by omega, by omega⟩]
         · rw [hflat, List.length_append] at hj
           by_cases hj' : j < (flat l).length
           · simp only [if_pos hj']; exact hw' j hj'
           · simp only [if_neg hj']
             rw [← hcell (j - (flat l).length) (by omega)]
             congr 2
             omega
         · rw [hflat] at hc
           by_cases hj' : j < (flat l).length
           · simp only [if_pos hj']
             rw [List.getElem?_append_left hj'] at hc
             exact hk.rep (hr' j c hc)
           · simp only [if_neg hj']
             rw [List.getElem?_append_right (by omega)] at hc
             exact hk.rep (hr _ c hc)
        rw [List.length_append] at key
        exact key
      | emp _ _ _ h0 =>
        have hc := h0 rfl
        subst hc
        have hy0 : ys = [] := List.eq_nil_of_length_eq_zero (by simp only [List.length_nil] at hle; omega)
        subst hy0
        exact absurd rfl hne
    · split
      · rename_i e; subst e; exact hk.rep (h.tmp t).shut
      · exact hk.rep (h.tmp t)
  · unfold growTag at hb
    split at hb
    · rename_i e
      have := hspare o e.2.1 (by omega)
      rw [e.1]; exact (h.tag b o (by rw [this]; simp)).imp id fun h => by rw [h.out (by rw [this]; simp)]; exact .none _
    · rename_i e
      rw [show growTag κ b (off + l.length * sz) (off + (l.length + ys.length) * sz) s d b' o = mvTag κ s d b' o from if_neg e]
      exact (h.tag b' o fun e => hb (mvTag_free.2 e)).imp id fun h => h.to mvTag_imm.2
  · unfold setT at hsp
    split at hsp
    · rename_i e; subst e
      obtain ⟨l', off', cap', e1, e2, e3, e4⟩ := hsp.sl
      cases e1
      have e5 : b' = b ∧ off' = off ∧ cap' = cap := by
        simp only [Value.slice.injEq, Option.some.injEq, Addr.mk.injEq] at e2
        obtain ⟨⟨a1, a2, -⟩, -, a3⟩ := e2
        exact ⟨a1.symm, a2.symm, a3.symm⟩
      obtain ⟨rfl, rfl, rfl⟩ := e5
      rw [he, List.length_append] at e3
      rw [he] at e4
      unfold growTag
      rw [if_neg (by omega)]
      unfold mvTag
      rw [hspare o (by omega) e4]; simp
    · rename_i e
      split at hsp
      · exact absurd hsp Spare.not_shut
      · rename_i e'
        have := h.sp t b' o hsp
        unfold growTag
        rw [if_neg fun ⟨e1, e2, e3⟩ => by
          subst e1
          have h2 := hspare o e2 (by omega)
          rw [h2] at this
          cases this; exact e' rfl]
        unfold mvTag; rw [this]; simp [e']
  · unfold growTag at hb
    split at hb
    · cases hb
    · unfold mvTag at hb
      split at hb
      · rename_i h1; exact h.wr b' o _ h1
      · exact h.wr b' o t hb
  · unfold growTag at hb
    split at hb
    · cases hb
    · exact h.mwr b' o c j (mvTag_mslot.1 hb)
end
end Go.Am
namespace Go.Am
section
variable {P:Program}{κ:Ghost}{w:World}
theorem pr_bytesT {t:TypeId}{n:Nat}(h:bytesT P t=some n):∃ i,pr P (typeInfo t)=some i/\i.bytes=n:=by
 unfold bytesT at h;cases hi:P.info? t with
 | none=>rw [hi] at h;cases h
 | some i =>
  rw [hi] at h;simp only [Option.map_some,Option.some.injEq] at h;refine⟨i,?_,h⟩;show pr P (Sem.bind program _)=_
  rw [pr_bind];show pr P (match P.info? t with | some i => pure i | none => stuck "no such type") = _
  rw [hi];rfl
structure AppendOk (P:Program)(argTypes:Array TypeId)(X Y:AVal) where
 st:TypeId
 xt:TypeId
 e:TypeId
 xd:TypeDesc
 sz:Nat
 by_:Nat
 z:Value
 l:List AVal
 ys:List AVal
 h0:argTypes[0]? = some st
 h1:argTypes[1]? = some xt
 hst:P.underlying st=some (.slice e)
 hxt:P.underlying xt=some xd
 hint:isRow xd=true
 hsz:sizeT P e=some sz
 hby:bytesT P e=some by_
 hz:zeroT P e=some z
 hX:X = .sl l true
 hY:spread Y=some ys
 hzs:z.cells.size=sz
 hb1:1<=by_
 hbd:(l.length+ys.length)*by_<=2^47
 hl:∀ E∈l,E.cells.length=sz
 hys:∀ E∈ys,E.ok=true/\E.cells.length=sz
theorem aAppend_ok {argTypes:Array TypeId}{X Y:AVal}{out:List AVal}(h:aAppend P argTypes X Y=some out):∃ o:AppendOk P argTypes X Y,out=o.l++o.ys:=by
 unfold aAppend at h;split at h
 ·rename_i st xt h0 h1;split at h
  ·rename_i e xd hst hxt;split at h
   ·cases h
   ·rename_i hint;split at h
    ·rename_i sz by_ z l ys hsz hby hz hY;split at h
     ·rename_i hc;obtain⟨c1,c2,c3,c4,c5⟩:=hc;exact⟨⟨st,xt,e,xd,sz,by_,z,l,ys,h0,h1,hst,hxt,by simpa using hint,hsz,hby,hz,rfl,hY,c1,c2,c3,fun E hE=>by simpa using List.all_eq_true.1 c4 E hE,fun E hE=>by simpa using List.all_eq_true.1 c5 E hE⟩,(Option.some.inj h).symm⟩
     ·cases h
    ·cases h
  ·cases h
 ·cases h
theorem run_append_room {argTypes:Array TypeId}{ty:TypeId}{X Y:AVal}(o:AppendOk P argTypes X Y){b off cap:Nat}{y:Value}{vs:Array Value}{w':World}(hlen:(Builtin.lenOf y).run P w = .ok o.ys.length w)
 (hfirst:(Builtin.firstCells o.sz o.ys.length y).run P w = .ok vs w) (hle:o.l.length+o.ys.length<=cap) (hst:(storeCells ⟨b,off+o.l.length*o.sz,none⟩ vs.toList 0).run P w = .ok () w') :
 (Builtin.append_ argTypes ty #[.slice (some ⟨b,off,none⟩) o.l.length cap,y]).run P w = .ok (.slice (some ⟨b,off,none⟩) (o.l.length+o.ys.length) cap) w':=by
 obtain⟨st,xt,e,xd,sz,by_,z,l,ys,h0,h1,hst',hxt,hint,hsz,hby,hz,rfl,hY,hzs,hb1,hbd,hl,hys⟩:=o;have r1:=pr_run (pr_underlying hst') w;have r2:=pr_run (pr_underlying hxt) w;have r3:=run_sizeT hsz w;simp only at hlen hfirst hle hst ⊢;have hst2:(storeCells ((⟨b,off,none⟩ : Addr).add (l.length*sz)) vs.toList).run P w = .ok () w':=by rw [addr_add];exact hst
 cases xd<;>first|(simp [isRow] at hint;done)|simp [Builtin.append_,h0,h1,r1,r2,r3,hlen,hfirst,hle,hst2]
theorem run_append_grow {argTypes:Array TypeId}{ty:TypeId}{X Y:AVal}(o:AppendOk P argTypes X Y){base:Option Addr}{cap:Nat}{y:Value}{olds vs:Array Value}(hlen:(Builtin.lenOf y).run P w = .ok o.ys.length w)
 (hgt:¬ o.l.length+o.ys.length<=cap) (w1:World) (hw1:w1 = { w with drawn:=w.drawn+1 }) 
 (hold:(Builtin.firstCells o.sz o.l.length (.slice base o.l.length cap)).run P w1 = .ok olds w1) (hfirst:(Builtin.firstCells o.sz o.ys.length y).run P w1 = .ok vs w1) :
 (Builtin.append_ argTypes ty #[.slice base o.l.length cap,y]).run P w = .ok (.slice (some ⟨w.heap.size,0,none⟩) (o.l.length+o.ys.length) ((Question.appendCap (o.l.length+o.ys.length) cap o.e).cut (w.tape w.drawn (.appendCap (o.l.length+o.ys.length) cap o.e))))
  (push w1 (.cells (olds++vs++Builtin.zeroCells o.z.cells ((Question.appendCap (o.l.length+o.ys.length) cap o.e).cut (w.tape w.drawn (.appendCap (o.l.length+o.ys.length) cap o.e)) - (o.l.length+o.ys.length))) o.e)):=by
 obtain⟨st,xt,e,xd,sz,by_,z,l,ys,h0,h1,hst',hxt,hint,hsz,hby,hz,rfl,hY,hzs,hb1,hbd,hl,hys⟩:=o;obtain⟨i,hi,rfl⟩:=pr_bytesT hby
 have r1:=pr_run (pr_underlying hst') w;have r2:=pr_run (pr_underlying hxt) w;have r3:=run_sizeT hsz w;have r4:=pr_run hi w;have r4':=pr_run hi w1;have r5:=pr_run (P:=P) (pr_zeroT hz) w1;simp only at hlen hgt hold hfirst hb1 hbd ⊢;have hpow:(2:Nat)^47*2<=2^48:=by decide
 have hgrow:=nextslicecap_le (n:=l.length+ys.length) (c:=cap) (by omega);have hroom:¬ (2^48<Builtin.nextslicecap (l.length+ys.length) cap*i.bytes):=by
  have h1:=Nat.mul_le_mul_right i.bytes hgrow;have h2:2*(l.length+ys.length)*i.bytes=2*((l.length+ys.length)*i.bytes):=Nat.mul_assoc ..;omega
 have hb0:¬ i.bytes=0:=by omega
 have hforced:(Question.appendCap (l.length+ys.length) cap e).forced=false:=rfl;subst hw1;cases xd<;>first|(simp [isRow] at hint;done)|(simp [Builtin.append_,h0,h1,r1,r2,r3,r4,hlen,hgt,hroom,hb0,hforced,r4',hold,hfirst,r5,newRow,push])
theorem rep_sl_inv {l:List AVal}{own:Bool}{v:Value}(h:Rep P κ w (.sl l own) v):(l=[]/\∃ a cap,v = .slice a 0 cap/\(own=true->cap=0))\/∃ (b off cap sz:Nat) (cv:Nat->Value),v = .slice (some ⟨b,off,none⟩) l.length cap/\l.length<=cap/\(∀ e∈l,e.cells.length=sz) ∧
 (∀ j,j<(flat l).length->κ b (off+j) = .imm)/\(∀ j,j<(flat l).length->w.cell? ⟨b,off+j,none⟩=some (cv j))/\(∀ (j:Nat) c,(flat l)[j]? = some c->Rep P κ w c (cv j))/\(own=true->cap=l.length\/(l≠[]/\esz P w b=sz/\b<w.heap.size)):=by
 cases h with
 | nil=>exact .inl ⟨rfl,none,0,rfl,fun _=>rfl⟩
 | emp _ a cap h0=>exact .inl ⟨rfl,a,cap,rfl,h0⟩
 | sl _ _ b off cap sz cv hcap hsz hk hw hr ho=>exact .inr ⟨b,off,cap,sz,cv,rfl,hcap,hsz,hk,hw,hr,ho⟩
theorem append_moves {T:Nat->AVal}{V:Nat->Value}{M:Mem}(h:Holds P κ T V M w)(d:Nat){argTypes:Array TypeId}{ty:TypeId}{X Y:AVal}{y:Value}(hy:Rep P κ w Y y)(o:AppendOk P argTypes X Y)
 (base:Option Addr) (cap:Nat) (olds:Array Value) (hgt:¬ o.l.length+o.ys.length<=cap)
 (hold:∀ n,(Builtin.firstCells o.sz o.l.length (.slice base o.l.length cap)).run P { w with drawn:=n } = .ok olds { w with drawn:=n }) (hos:olds.size=o.l.length*o.sz)
 (hor:∀ (j:Nat) c v,(flat o.l)[j]? = some c->olds[j]? = some v->Rep P κ w c v) :
 ∃ v κ' w',(Builtin.append_ argTypes ty #[.slice base o.l.length cap,y]).run P w = .ok v w'/\Holds P κ' (setT T d (.sl (o.l++o.ys) true)) (fun t=>if t=d then v else V t) M w'/\Keep κ w κ' w':=by
 obtain⟨vs,hlen,hfirst,hvs,hvr⟩:=run_firstCells hy o.hY o.hys;have hout:flat (o.l++o.ys)=flat o.l++flat o.ys:=by unfold flat;rw [List.flatMap_append]
 have hfl:=flat_length o.hl;have hfy:=flat_length (fun e he=>(o.hys e he).2);have hsizes:∀ E∈o.l++o.ys,E.cells.length=o.sz:=fun E hE=>by
  rcases List.mem_append.1 hE with h'|h'
  ·exact o.hl E h'
  ·exact (o.hys E h').2
 obtain⟨h1,hk1⟩:=h.drawn (w.drawn+1);have hy1:Rep P κ { w with drawn:=w.drawn+1 } Y y:=hk1.rep hy;obtain⟨vs1,hlen1,hfirst1,hvs1,hvr1⟩:=run_firstCells hy1 o.hY o.hys;have hrun:=run_append_grow (ty:=ty) o (base:=base) (cap:=cap) (y:=y) hlen hgt _ rfl (hold _) hfirst1;generalize hnc:(Question.appendCap (o.l.length+o.ys.length) cap o.e).cut (w.tape w.drawn (.appendCap (o.l.length+o.ys.length) cap o.e))=newCap at hrun;have hncle:o.l.length+o.ys.length<=newCap:=by
  rw [← hnc];simp only [Question.cut];omega
 have hzc:∀ n,(Builtin.zeroCells o.z.cells n).size=n*o.sz:=fun n=>by simp [Builtin.zeroCells,o.hzs]
 have hcells:(olds++vs1++Builtin.zeroCells o.z.cells (newCap - (o.l.length+o.ys.length))).size=newCap*o.sz:=by
  simp only [Array.size_append,hos,hvs1,hzc];rw [← Nat.add_mul,← Nat.add_mul];congr 1;omega
 obtain⟨h2,hk2⟩:=h1.newSl d (l:=o.l++o.ys) (cs:=olds++vs1++Builtin.zeroCells o.z.cells (newCap - (o.l.length+o.ys.length))) (cap:=newCap) (e:=o.e) (fr:=(0,0)) o.hsz hcells (by rw [List.length_append];exact hncle) (by
  by_cases hz:o.l++o.ys=[]
  ·exact absurd (by have:=congrArg List.length hz;simp only [List.length_append,List.length_nil] at this;omega) hgt
  ·exact .inl hz) hsizes
  (fun j c v e1 e2=>by
   rw [hout] at e1;by_cases hj:j<(flat o.l).length
   ·rw [List.getElem?_append_left hj] at e1;rw [Array.append_assoc,Array.getElem?_append_left (by omega)] at e2;exact hk1.rep (hor j c v e1 e2)
   ·rw [List.getElem?_append_right (by omega)] at e1;have hj2:j - (flat o.l).length<(flat o.ys).length:=by
     rcases Nat.lt_or_ge (j - (flat o.l).length) (flat o.ys).length with h'|h'
     ·exact h'
     ·rw [List.getElem?_eq_none h'] at e1;cases e1
    rw [Array.append_assoc,Array.getElem?_append_right (by omega),Array.getElem?_append_left (by omega)] at e2;rw [show j - olds.size=j - (flat o.l).length from by omega] at e2;exact (hvr1 _ c v e1 e2).1) (fun o' _=>by simp)
 refine⟨_,_,_,hrun,?_,hk1.trans hk2⟩;have e0:(o.l++o.ys).length=o.l.length+o.ys.length:=List.length_append;have e1:(fun t=>if t=d then Value.slice (some ⟨w.heap.size,0,none⟩) (o.l.length+o.ys.length) newCap else V t)=fun t=>if t=d then Value.slice (some ⟨w.heap.size,0,none⟩) (o.l++o.ys).length newCap else V t:=by rw [e0]
 rw [e1];exact h2
theorem append_slot {T:Nat->AVal}{V:Nat->Value}{M:Mem}(h:Holds P κ T V M w)(s d:Nat)(hsd:s≠d){argTypes:Array TypeId}{ty:TypeId}{Y:AVal}{y:Value}{out:List AVal}(hy:Rep P κ w Y y)(ha:aAppend P argTypes (T s) Y=some out) :
 ∃ v κ' w',(Builtin.append_ argTypes ty #[V s,y]).run P w = .ok v w'/\Holds P κ' (setT (setT T s (T s).shut) d (.sl out true)) (fun t=>if t=d then v else V t) M w'/\Keep κ w κ' w':=by
 obtain⟨o,rfl⟩:=aAppend_ok ha;have hTs:=h.tmp s;have hX:=o.hX;obtain⟨vs,hlen,hfirst,hvs,hvr⟩:=run_firstCells hy o.hY o.hys;have hout:flat (o.l++o.ys)=flat o.l++flat o.ys:=by unfold flat;rw [List.flatMap_append]
 have hfl:=flat_length o.hl;have hfy:=flat_length (fun e he=>(o.hys e he).2);have hsizes:∀ E∈o.l++o.ys,E.cells.length=o.sz:=fun E hE=>by
  rcases List.mem_append.1 hE with h'|h'
  ·exact o.hl E h'
  ·exact (o.hys E h').2
 have move:∀ (base:Option Addr) (cap:Nat) (olds:Array Value),V s = .slice base o.l.length cap->¬ o.l.length+o.ys.length<=cap →
  (∀ n,(Builtin.firstCells o.sz o.l.length (.slice base o.l.length cap)).run P { w with drawn:=n } = .ok olds { w with drawn:=n })->olds.size=o.l.length*o.sz->(∀ (j:Nat) c v,(flat o.l)[j]? = some c->olds[j]? = some v->Rep P κ w c v) →
  ∃ v κ' w',(Builtin.append_ argTypes ty #[V s,y]).run P w = .ok v w'/\Holds P κ' (setT (setT T s (T s).shut) d (.sl (o.l++o.ys) true)) (fun t=>if t=d then v else V t) M w'/\Keep κ w κ' w':=by
  intro base cap olds hV hgt hold hos hor;rw [hV];exact append_moves (h.lose s) d hy o base cap olds hgt hold hos hor
 rw [hX] at hTs;rcases rep_sl_inv hTs with ⟨hl0,a0,c0,hV,hc0⟩|⟨b,off,cap,sz',cv,hV,hcap,hsz,hk,hw,hr,ho⟩
 ·obtain rfl:=hc0 rfl;by_cases hys:o.ys=[]
  ·refine⟨.slice a0 0 0,κ,w,?_,?_,Keep.refl κ w⟩
   ·rw [hV];have r1:=pr_run (pr_underlying o.hst) w;have r2:=pr_run (pr_underlying o.hxt) w;have r3:=run_sizeT o.hsz w;have hint:=o.hint;rw [hys] at hlen hfirst;simp only [List.length_nil] at hlen hfirst;generalize o.xd=xd at hint r2;have hv0:vs.toList=[]:=by
     apply List.eq_nil_of_length_eq_zero;rw [Array.length_toList,hvs,hys];simp
    cases a0 with
    | none=>cases xd<;>first|(simp [isRow] at hint;done)|simp [Builtin.append_,o.h0,o.h1,r1,r2,r3,hlen,hfirst]
    | some q =>
     have hst:(storeCells (q.add (0*o.sz)) []).run P w = .ok () w:=rfl;rw [Nat.zero_mul] at hst;cases xd<;>first|(simp [isRow] at hint;done)|simp [Builtin.append_,o.h0,o.h1,r1,r2,r3,hlen,hfirst,hv0,hst]
   ·rw [hl0,hys];exact (h.lose s).put d (.emp true a0 0 fun _=>rfl) fun b' o' hsp=>by
     obtain⟨l',off',cap',e1,e,h3,h4⟩:=hsp.sl;injection e with e2 e3 e4
     subst e4;simp at h3 h4;omega
  ·refine move a0 0 #[] (by rw [hV,hl0];rfl) (by rw [hl0];cases hq:o.ys with|nil=>exact absurd hq hys|cons=>simp) (fun n=>by
    rw [hl0];cases a0 with
    | none=>rfl
    | some q =>
     show (loadCells q (0*o.sz)).run P _=_
     rw [Nat.zero_mul];rfl) (by rw [hl0];simp) (fun j c v e=>by rw [hl0] at e;simp [flat] at e)
 ·by_cases hle:o.l.length+o.ys.length<=cap
  ·by_cases hys:o.ys=[]
   ·obtain hm:=h.move s d hsd;refine⟨V s,mvTag κ s d,w,?_,?_,Keep.tags (fun _ _=>mvTag_imm.2) (fun _ _=>mvTag_frame.2)⟩
    ·rw [hV];have:=run_append_room (ty:=ty) o (b:=b) (off:=off) (cap:=cap) (w':=w) hlen hfirst hle (by
      have:vs.toList=[]:=by
       apply List.eq_nil_of_length_eq_zero;rw [Array.length_toList,hvs,hys];simp
      rw [this];rfl)
     rw [hys] at this;exact this
    ·rw [hys,List.append_nil,← hX];exact hm
   ·obtain⟨hln,hez,hbs⟩ : o.l≠[]/\esz P w b=sz'/\b<w.heap.size:=by
     rcases ho rfl with h'|h'
     ·have:o.ys.length=0:=by omega
      exact absurd (List.eq_nil_of_length_eq_zero this) hys
     ·exact h'
    have hzz:sz'=o.sz:=by
     obtain⟨E,hE⟩:=List.exists_mem_of_ne_nil _ hln;exact (hsz E hE).symm.trans (o.hl E hE)
    subst hzz;have hcapsz:(o.l.length+o.ys.length)*o.sz<=cap*o.sz:=Nat.mul_le_mul_right _ hle;have hadd:(o.l.length+o.ys.length)*o.sz=o.l.length*o.sz+o.ys.length*o.sz:=Nat.add_mul ..;have hvone:∀ v∈vs.toList,one v=true:=by
     intro v hv;obtain⟨j,hj,he⟩:=List.mem_iff_getElem.1 hv;rw [Array.length_toList] at hj;have hc:(flat o.ys)[j]? = some (flat o.ys)[j]:=List.getElem?_eq_getElem (by omega);have:=hvr j _ v hc (by rw [← he];simp);exact unit_one this.1 this.2
    obtain⟨w',hst,h1,hk1,hcl,-⟩:=run_storeSpare (P:=P) (b:=b) (o:=off+o.l.length*o.sz) (s:=s) vs.toList 0 w h (fun j hj=>by
     rw [Array.length_toList] at hj;refine h.sp s b _ (.inl ⟨o.l,off,cap,hX,hV,?_,?_⟩)
     ·rw [hez];omega
     ·rw [hez];omega) hvone
    obtain⟨h2,hk2⟩:=h1.grow s d hsd (l:=o.l) (ys:=o.ys) (b:=b) (off:=off) (cap:=cap) (sz:=o.sz) hX hV o.hl (fun E hE=>(o.hys E hE).2) hle (by simp [hln]) ((esz_shape (hk1.shape b hbs)).trans hez) (Nat.lt_of_lt_of_le hbs hk1.size) (fun j=>vs.getD j undef)
     (fun j hj=>by
      have:=hcl j (vs.getD j undef) (by
       have:j<vs.size:=by omega
       simp [this])
      rw [Nat.zero_add,Nat.add_assoc] at this;exact this)
     (fun j c hc=>by
      have hj:j<(flat o.ys).length:=by
       rcases Nat.lt_or_ge j (flat o.ys).length with h'|h'
       ·exact h'
       ·rw [List.getElem?_eq_none h'] at hc;cases hc
      have hj2:j<vs.size:=by omega
      exact hk1.rep (hvr j c _ hc (by simp [hj2])).1)
    refine⟨_,_,w',?_,h2,hk1.trans hk2⟩;rw [hV];exact run_append_room o hlen hfirst hle hst
  ·refine move (some ⟨b,off,none⟩) cap ((List.range (o.l.length*o.sz)).map cv).toArray hV hle (fun n=>?_) (by simp) (fun j c v e1 e2=>?_)
   ·show (loadCells ⟨b,off,none⟩ (o.l.length*o.sz)).run P { w with drawn:=n }=_
    exact run_loadCells cv fun j hj=>hw j (by omega)
   ·have hj:j<(flat o.l).length:=by
     rcases Nat.lt_or_ge j (flat o.l).length with h'|h'
     ·exact h'
     ·rw [List.getElem?_eq_none h'] at e1;cases e1
    have hj2:j<o.l.length*o.sz:=by omega
    simp [hj2] at e2;subst e2;exact hr j c e1
theorem run_append_nothing {argTypes:Array TypeId}{ty:TypeId}{X Y:AVal}{y:Value}(o:AppendOk P argTypes X Y)(hys:o.ys=[])(hy:Rep P κ w Y y):(Builtin.append_ argTypes ty #[.slice none 0 0,y]).run P w = .ok (.slice none 0 0) w:=by
 obtain⟨vs,hlen,hfirst,hvs,hvr⟩:=run_firstCells hy o.hY o.hys;have r1:=pr_run (pr_underlying o.hst) w;have r2:=pr_run (pr_underlying o.hxt) w;have r3:=run_sizeT o.hsz w;have hint:=o.hint;rw [hys] at hlen hfirst;simp only [List.length_nil] at hlen hfirst;generalize o.xd=xd at hint r2;cases xd<;>first|(simp [isRow] at hint;done)|simp [Builtin.append_,o.h0,o.h1,r1,r2,r3,hlen,hfirst]
theorem append_nil {T:Nat->AVal}{V:Nat->Value}{M:Mem}(h:Holds P κ T V M w)(d:Nat){argTypes:Array TypeId}{ty:TypeId}{Y:AVal}{y:Value}{out:List AVal}(hy:Rep P κ w Y y)(ha:aAppend P argTypes (.sl [] true) Y=some out) :
 ∃ v κ' w',(Builtin.append_ argTypes ty #[.slice none 0 0,y]).run P w = .ok v w'/\Holds P κ' (setT T d (.sl out true)) (fun t=>if t=d then v else V t) M w'/\Keep κ w κ' w':=by
 obtain⟨o,rfl⟩:=aAppend_ok ha;have hl0:o.l=[]:=by have:=o.hX;injection this with h1 _;exact h1.symm
 by_cases hys:o.ys=[]
 ·refine⟨.slice none 0 0,κ,w,run_append_nothing o hys hy,?_,Keep.refl κ w⟩;rw [hl0,hys];exact h.put d (.nil true) fun b' o' hsp=>by
   obtain⟨_,_,_,_,e,_⟩:=hsp.sl;cases e
 ·have:=append_moves (ty:=ty) h d hy o none 0 #[] (by rw [hl0];cases hq:o.ys with|nil=>exact absurd hq hys|cons=>simp) (fun n=>by rw [hl0];rfl) (by rw [hl0];simp) (fun j c v e=>by rw [hl0] at e;simp [flat] at e);have e0:Value.slice none o.l.length 0 = .slice none 0 0:=by rw [hl0];rfl
  rw [e0] at this;exact this
end
end Go.Am
namespace Go.Am
def argT (xs:List AVal):Nat->AVal:=fun t=>xs.getD t .undef
def SoundCall (P:Program)(f:FuncId)(args:List AVal)(M:Mem)(Post:AVal->Mem->Prop):Prop :=
 ∀ (κ:Ghost) (w:World) (vs:Array Value),vs.size=args.length->Holds P κ (argT args) (fun t=>vs.getD t undef) M w →
  Calls P f vs w fun e w'=>∃ v κ' r M',e = .returned v/\Post r M'/\Holds P κ' (argT [r]) (fun t=>if t=0 then v else undef) M' w'/\Keep κ w κ' w'
theorem SoundCall.mono {P:Program}{f:FuncId}{args:List AVal}{M:Mem}{Post Post':AVal->Mem->Prop}(h:SoundCall P f args M Post)(hp:∀ r M',Post r M'->Post' r M'):SoundCall P f args M Post' :=
 fun κ w vs hs hh=>(h κ w vs hs hh).mono fun _ _ ⟨v,κ',r,M',e,hq,rest⟩=>⟨v,κ',r,M',e,hp _ _ hq,rest⟩
def goesB (P:Program)(f:FuncId):Bool :=
 match P.funcs[f]? with
 | some fn => fn.name != "runtime.NumGoroutine" && fn.body.isSome
 | none=>false
theorem run_callFunc {P:Program}{f:FuncId}(h:goesB P f=true)(args:Array Value)(w:World):(callFunc f args).run P w = .ok (.enter f args) w:=by
 unfold goesB at h;split at h
 ·rename_i fn hf;simp only [Bool.and_eq_true, bne_iff_ne, ne_eq] at h;have h1 : (fn.name == "runtime.NumGoroutine") = false := by simpa using h.1
  have h2:fn.body.isNone=false:=by
   cases hb:fn.body with
   | none=>rw [hb] at h;simp at h
   | some c=>rfl
  unfold callFunc;rw [Sem.run_bind,run_program,Result.andThen_ok,hf];simp only [h1,h2,Bool.false_eq_true,if_false,Sem.run_pure]
 ·cases h
section
variable {P:Program}{κ:Ghost}{w:World}
def callTag (κ:Ghost)(mv:Option (Nat×Nat)):Ghost:=fun b o=>match κ b o with
 | .slot t=>(match mv with|some (i,s)=>if t=s then .slot i else .frame|none=>.frame)
 | x=>x
def backTag (κ κ':Ghost)(mv:Option (Nat×Nat))(d:Nat):Ghost:=fun b o =>
 let conv:Tag->Tag:=fun | .slot 0=>.slot d | .slot (_+1)=>.free|x=>x
 match κ b o with
 | .slot t=>(match mv with|some (_,s)=>if t=s then conv (κ' b o) else .slot t|none=>.slot t)
 | _=>conv (κ' b o)
theorem Holds.enter {T:Nat->AVal}{V:Nat->Value}{M:Mem}(h:Holds P κ T V M w)(mv:Option (Nat×Nat))(args:List AVal)(vs:Array Value)(hr:∀ (i:Nat) X,args[i]? = some X->Rep P κ w X (vs.getD i undef))
 (hfree:∀ (i:Nat) X,args[i]? = some X->(∃ s,mv=some (i,s)/\X=T s/\vs.getD i undef=V s)\/X.free):Holds P (callTag κ mv) (argT args) (fun t=>vs.getD t undef) M w:=by
 have himm:∀ b o,κ b o = .imm->callTag κ mv b o = .imm:=fun b o hb=>by unfold callTag;rw [hb]
 have hms:∀ b o c j,κ b o = .mslot c j->callTag κ mv b o = .mslot c j:=fun b o c j hb=>by unfold callTag;rw [hb]
 have K:∀ {X x},Rep P κ w X x->Rep P (callTag κ mv) w X x:=fun hr=>hr.keep (fun b o hb=>⟨himm b o hb,rfl⟩) (fun _ _=>rfl) (Nat.le_refl _)
 refine⟨fun t=>?_,fun b o hb=>(h.obj b o hb).tags himm (fun b' o' j=>hms b' o' b j),fun b o hb=>(h.tag b o fun e=>hb (by unfold callTag;rw [e])).imp id fun h=>h.to (himm b o),fun t b o hsp=>?_,fun b o t hb=>?_,fun b o c j hb=>?_⟩
 ·unfold argT;rw [List.getD_eq_getElem?_getD];cases ha:args[t]? with
  | none=>exact .undef _
  | some X=>exact K (hr t X ha)
 ·unfold argT at hsp;rw [List.getD_eq_getElem?_getD] at hsp;cases ha:args[t]? with
  | none=>rw [ha] at hsp;exact absurd hsp (Spare.not_free (by simp [AVal.free]))
  | some X =>
   rw [ha] at hsp;rcases hfree t X ha with ⟨s,h1,h2,h3⟩|h1
   ·simp only [Option.getD_some,h2,h3] at hsp;have:=h.sp s b o hsp;unfold callTag;rw [this,h1];simp
   ·exact absurd hsp (Spare.not_free h1)
 ·unfold callTag at hb;split at hb
  ·rename_i t' h1;exact h.wr b o t' h1
  ·exact h.wr b o t hb
 ·unfold callTag at hb;split at hb
  ·split at hb
   ·split at hb<;>cases hb
   ·cases hb
  ·exact h.mwr b o c j hb
theorem Holds.back {T:Nat->AVal}{V:Nat->Value}{M M':Mem}{w':World}{κ':Ghost}{r:AVal}{v:Value}(h:Holds P κ T V M w)(mv:Option (Nat×Nat))(d:Nat)
 (h':Holds P κ' (argT [r]) (fun t=>if t=0 then v else undef) M' w') (hk:Keep (callTag κ mv) w κ' w') (hT:∀ i s,mv=some (i,s)->(T s).free) :
 Holds P (backTag κ κ' mv d) (setT T d r) (fun t=>if t=d then v else V t) M' w'/\Keep κ w (backTag κ κ' mv d) w':=by
 have hfr:∀ b o t,κ b o = .slot t->(∀ i s,mv=some (i,s)->t≠s)->callTag κ mv b o = .frame/\κ' b o = .frame/\backTag κ κ' mv d b o = .slot t:=fun b o t hb hn=>by
  have h1:callTag κ mv b o = .frame:=by
   unfold callTag;rw [hb];cases mv with
   | none=>rfl
   | some p=>obtain⟨i,s⟩:=p;simp only [];rw [if_neg (hn i s rfl)]
  refine⟨h1,(hk.frame b o h1).1,?_⟩;unfold backTag;rw [hb];cases mv with
  | none=>rfl
  | some p=>obtain⟨i,s⟩:=p;simp only [];rw [if_neg (hn i s rfl)]
 have hcv:∀ b o,κ' b o ≠ .frame->backTag κ κ' mv d b o=(match κ' b o with | .slot 0=>.slot d | .slot (_+1)=>.free|x=>x):=fun b o hb=>by
  cases hκ:κ b o with
  | slot t =>
   by_cases hn:∀ i s,mv=some (i,s)->t≠s
   ·exact absurd (hfr b o t hκ hn).2.1 hb
   ·simp only [Classical.not_forall,Classical.not_not] at hn;obtain⟨i,s,h1,h2⟩:=hn;unfold backTag;rw [hκ,h1];simp only [h2,if_true]
  | _=>unfold backTag;rw [hκ]
 have himm:∀ b o,κ' b o = .imm->backTag κ κ' mv d b o = .imm:=fun b o hb=>by rw [hcv b o (by rw [hb];simp),hb]
 have hms:∀ b o c j,κ' b o = .mslot c j->backTag κ κ' mv d b o = .mslot c j:=fun b o c j hb=>by rw [hcv b o (by rw [hb];simp),hb]
 have himm0:∀ b o,κ b o = .imm->backTag κ κ' mv d b o = .imm/\w'.cell? ⟨b,o,none⟩=w.cell? ⟨b,o,none⟩:=fun b o hb=>by
  have h1:callTag κ mv b o = .imm:=by unfold callTag;rw [hb]
  exact⟨himm b o (hk.imm b o h1).1,(hk.imm b o h1).2⟩
 have hframe0:∀ b o,κ b o = .frame->backTag κ κ' mv d b o = .frame/\w'.cell? ⟨b,o,none⟩=w.cell? ⟨b,o,none⟩/\w'.frozen? ⟨b,o,none⟩=w.frozen? ⟨b,o,none⟩:=fun b o hb=>by
  have h1:callTag κ mv b o = .frame:=by unfold callTag;rw [hb]
  refine⟨?_,(hk.frame b o h1).2⟩;unfold backTag;rw [hb];simp only [(hk.frame b o h1).1]
 have K':∀ {X x},Rep P κ' w' X x->Rep P (backTag κ κ' mv d) w' X x:=fun hr=>hr.keep (fun b o hb=>⟨himm b o hb,rfl⟩) (fun _ _=>rfl) (Nat.le_refl _)
 have K:∀ {X x},Rep P κ w X x->Rep P (backTag κ κ' mv d) w' X x:=fun hr=>hr.keep himm0 hk.shape hk.size
 refine⟨⟨fun t=>?_,fun b o hb=>(h'.obj b o hb).tags himm (fun b' o' j=>hms b' o' b j),fun b o hb=>?_,fun t b o hsp=>?_,fun b o t hb=>?_,fun b o c j hb=>?_⟩,
  ⟨hk.os,hk.tape,hk.output,hk.size,hk.shape,himm0,hframe0,fun b hb hp=>hk.block b hb fun o=>?_⟩⟩
 ·unfold setT;split
  ·have:=h'.tmp 0;exact K' this
  ·exact K (h.tmp t)
 ·by_cases hb':κ' b o = .frame
  ·exact (h'.tag b o (by rw [hb'];simp)).imp id fun h=>h.to (himm b o)
  ·rw [hcv b o hb'] at hb;exact (h'.tag b o fun e=>hb (by rw [e])).imp id fun h=>h.to (himm b o)
 ·unfold setT at hsp;split at hsp
  ·rename_i e;subst e;have:=h'.sp 0 b o hsp;rw [hcv b o (by rw [this];simp),this]
  ·have hsp0:=hsp.keep (h.tmp t) hk.shape;have h1:=h.sp t b o hsp0;refine (hfr b o t h1 fun i s e e'=>?_).2.2;subst e';exact Spare.not_free (hT i t e) hsp0
 ·by_cases hb':κ' b o = .frame
  ·cases hκ:κ b o with
   | slot t' =>
    by_cases hn:∀ i s,mv=some (i,s)->t'≠s
    ·have h1:=(hk.frame b o (hfr b o t' hκ hn).1).2;have h2:=h.wr b o t' hκ;exact⟨by rw [h1.1];exact h2.1,by rw [h1.2];exact h2.2⟩
    ·simp only [Classical.not_forall,Classical.not_not] at hn;obtain⟨i,s,h1,h2⟩:=hn;unfold backTag at hb;rw [hκ,h1] at hb;simp only [h2,if_true,hb'] at hb;cases hb
   | _=>unfold backTag at hb;rw [hκ] at hb;simp only [hb'] at hb;cases hb
  ·rw [hcv b o hb'] at hb;split at hb
   ·rename_i h1;exact h'.wr b o 0 h1
   ·cases hb
   ·exact h'.wr b o t hb
 ·by_cases hb':κ' b o = .frame
  ·cases hκ:κ b o with
   | slot t' =>
    unfold backTag at hb;rw [hκ] at hb;cases mv with
    | none=>cases hb
    | some p =>
     obtain⟨i,s⟩:=p;simp only [hb'] at hb;split at hb<;>cases hb
   | _=>unfold backTag at hb;rw [hκ] at hb;simp only [hb'] at hb;cases hb
  ·rw [hcv b o hb'] at hb;split at hb
   ·cases hb
   ·cases hb
   ·exact h'.mwr b o c j hb
 ·rcases hp o with h1|h1
  ·left;unfold callTag;rw [h1]
  ·right;unfold callTag;rw [h1]
end
end Go.Am
namespace Go.Am
def St.upd (S:St)(b:Nat)(o:AObj):St:={ S with M:=S.M.upd b o }
def zeroCellsT (P:Program)(t:TypeId):Option (List AVal):=(zeroT P t).map fun z=>z.cells.toList.map ofConst
def aStore (P:Program)(t:TypeId)(A V:AVal)(x:Operand)(S:St)(K:St->Prop):Prop :=
 match A with
 | .raw (.pointer (some ⟨b,off,none⟩)) =>
  (match S.M b with
  | some (.cells l) =>
   V.ok=true/\sizeT P t=some V.cells.length/\off+V.cells.length<=l.length ∧
    (match V with
    | .sl xs true=>K ((S.lose x).upd b (.cells (l.set off (.sl xs true))))
    | _=>K (S.upd b (.cells (splice l off (V.cells.map AVal.shut)))))
  | _=>False)
 | _=>False
def aTake (P:Program)(t:TypeId)(A:AVal)(dst:Option Tmp)(S:St)(K:St->Prop):Prop :=
 match A,dst with
 | .raw (.pointer (some ⟨b,off,none⟩)),some d =>
  (match S.M b with
  | some (.cells l) =>
   (match l[off]? with
   | some (.sl xs true)=>aggT P t=some false/\sizeT P t=some 1/\K ((S.upd b (.cells (l.set off (.sl xs false)))).put (some d) (.sl xs true))
   | _=>False)
  | _=>False)
 | _,_=>False
def aParts (T:Nat->AVal):Nat->List (Nat×Operand)->Option (List AVal)
 | _,[]=>some []
 | k,(i,x)::rest=>if i=k then (aParts T (k+1) rest).map fun l=>(ev T x).shut::l else none
def aBuildSlice (P:Program)(t:TypeId)(len:Nat)(parts:List (Nat×Operand))(dst:Option Tmp)(S:St)(K:St->Prop):Prop :=
 match P.underlying t with
 | some (.slice e) =>
  (match sizeT P e,zeroT P e,aParts S.T 0 parts with
  | some sz,some z,some l=>z.cells.size=sz/\l.length=len/\len*sz<=2^24/\(l.all fun V=>V.ok && V.cells.length == sz)=true/\K (S.put dst (.sl l true))
  | _,_,_=>False)
 | _=>False
def u8l (s:ByteArray):List AVal:=s.data.toList.map fun b=>.raw (.int .u8 b.toNat)
def s2b (P:Program)(s d:TypeId):Bool :=
 match P.underlying s,P.underlying d with
 | some .string,some (.slice e)=>(match P.underlying e with|some (.int .u8)=>true | _=>false)
 | _,_=>false
def aMakeSlice (P:Program)(t:TypeId)(L C:AVal)(dst:Option Tmp)(S:St)(K:St->Prop):Prop :=
 match P.underlying t,L,C with
 | some (.slice e),.raw (.int .i64 n),.raw (.int .i64 c) =>
  (match sizeT P e,bytesT P e,zeroCellsT P e with
  | some sz,some by_,some zs =>
   zs.length=sz/\1<=sz/\1<=n/\n<=c/\by_*c<=2^46/\c<=2^46/\∀ b,S.M b=none->K ((S.upd b (.cells (List.replicate c.toNat zs).flatten)).put dst (.raw (.slice (some ⟨b,0,none⟩) n.toNat c.toNat)))
  | _,_,_=>False)
 | _,_,_=>False
def putEntry (es:List (Value×AVal))(at? : Option Nat)(k:Value)(V:AVal):List (Value×AVal) :=
 match at? with
 | some i=>es.set i (k,V)
 | none=>es++[(k,V)]
def aMapUpdate (P:Program)(t:TypeId)(X K₀ V:AVal)(S:St)(K:St->Prop):Prop :=
 match P.underlying t,X,rawOf K₀ with
 | some (.map kt _),.raw (.map (some r)),some k =>
  (match S.M r with
  | some (.map es) =>
   (match pr P (Instr.checkKey false 10000 kt k),keyAt P kt k (es.map (·.1)) with
   | some _,some at?=>(∀ i,at? = some i->Instr.sameBits 10000 (((es[i]?).map (·.1)).getD k) k=true)/\K (S.upd r (.map (putEntry es at? k V.shut)))
   | _,_=>False)
  | _=>False)
 | _,_,_=>False
def aDelete (P:Program)(t:TypeId)(X K₀:AVal)(dst:Option Tmp)(S:St)(K:St->Prop):Prop :=
 match P.underlying t,X,rawOf K₀ with
 | some (.map kt _),.raw (.map (some r)),some k =>
  (match S.M r with
  | some (.map es) =>
   (match pr P (Instr.checkKey es.isEmpty 10000 kt k),keyAt P kt k (es.map (·.1)) with
   | some _,some at?=>K ((S.upd r (.map (match at? with|some i=>es.eraseIdx i|none=>es))).put dst (.raw (.tuple #[])))
   | _,_=>False)
  | _=>False)
 | _,_,_=>False
def aArgs (T:Nat->AVal)(mv:Option Nat):Nat->List Operand->List AVal
 | _,[]=>[]
 | k,x::xs=>(if mv=some k then ev T x else (ev T x).shut)::aArgs T mv (k+1) xs
def St.loseArg (S:St)(mv:Option Nat)(args:List Operand):St :=
 match mv with
 | some i=>(match args[i]? with|some x=>S.lose x|none=>S)
 | none=>S
def mvOk (mv:Option Nat)(args:List Operand):Prop :=
 match mv with
 | some i=>∃ s,args[i]? = some (.tmp s)
 | none=>True
def aCall (P:Program)(mv:Option Nat)(F:AVal)(args:List Operand)(dst:Option Tmp)(S:St)(K:St->Prop):Prop :=
 match F with
 | .raw (.func (.func f) first captured) =>
  dst.isSome=true/\goesB P f=true/\mvOk mv args/\∃ Post,SoundCall P f (first.toList.map .raw++aArgs S.T mv 0 args++captured.toList.map .raw) S.M Post/\∀ r M',Post r M'->K (({ S.loseArg mv args with M:=M' }:St).put dst r)
 | _=>False
def astep (P:Program)(tk:Option Nat)(o:Oper)(S:St)(K:St->Prop):Prop :=
 match o.op with
 | .move x | .assign x=>K ((S.lose x).put o.dst (ev S.T x))
 | .store t a x=>aStore P t (ev S.T a) (ev S.T x) x S K
 | .alloc t=>(match zeroCellsT P t with|some zs=>∀ b,S.M b=none->K ((S.upd b (.cells zs)).put o.dst (.raw (.pointer (some ⟨b,0,none⟩))))|none=>False)
 | .box _ x=>(ev S.T x).ok=true/\∀ b,S.M b=none->K ((S.upd b (.cells ((ev S.T x).cells.map AVal.shut))).put o.dst (.raw (.pointer (some ⟨b,0,none⟩))))
 | .buildSlice t len parts=>aBuildSlice P t len parts.toList o.dst S K
 | .makeMap _ none=>∀ b,S.M b=none->K ((S.upd b (.map [])).put o.dst (.raw (.map (some b))))
 | .makeSlice t l c=>aMakeSlice P t (ev S.T l) (ev S.T c) o.dst S K
 | .mapUpdate t m k x | .insert t m k x=>aMapUpdate P t (ev S.T m) (ev S.T k) (ev S.T x) S K
 | .load t x=>(match tk with
  | some _=>aTake P t (ev S.T x) o.dst S K
  | none=>(match aop P S.T S.M o.type (.load t x) with|some V=>K (S.put o.dst V.shut)|none=>False))
 | .call { callee:=.value f,args,.. }=>aCall P tk (ev S.T f) args.toList o.dst S K
 | .call { callee:=.builtin .append,args,argTypes } =>
  (match args.toList,o.dst with
  | [x,y],some d=>(match aAppend P argTypes (ev S.T x) (ev S.T y) with|some l=>K ((S.lose x).put (some d) (.sl l true))|none=>False)
  | _,_=>False)
 | .call { callee:=.builtin .delete,args,argTypes } =>
  (match args.toList,argTypes[0]? with
  | [x,y],some t=>aDelete P t (ev S.T x) (ev S.T y) o.dst S K
  | _,_=>False)
 | op=>(match aop P S.T S.M o.type op with|some V=>K (S.put o.dst V.shut)|none=>False)
def stepB (n:Nat)(o:Oper):Bool :=
 (match o.dst with|some d=>decide (d<n)|none=>true) &&
 (match o.op with
 | .move (.tmp t) | .assign (.tmp t) | .extract (.tmp t) _=>o.dst != some t
 | .call { callee:=.builtin .append,args,.. }=>(match args.toList with | [.tmp t,_]=>o.dst != some t | _=>true)
 | .store .. | .mapUpdate .. | .insert ..=>o.dst == none
 | .load ..=>o.dst.isSome
 | _=>true)
end Go.Am
namespace Go.Am
def Next (P:Program)(κ:Ghost)(w:World)(a:Act)(K:St->Prop):Act->World->Prop:=fun a' w' =>
 ∃ κ' S',K S'/\Holds P κ' S'.T (tv a') S'.M w'/\Keep κ w κ' w'/\a'.tmps.size=a.tmps.size/\a'.defers=a.defers
section
variable {P:Program}{κ:Ghost}{w:World}{a:Act}{o:Oper}{K:St->Prop}{Q:Exit->Act->World->Prop}
theorem put_size (a:Act)(d:Option Tmp)(v:Value):(a.put d v).tmps.size=a.tmps.size:=by cases d<;>simp [Act.put]
theorem put_defers (a:Act)(d:Option Tmp)(v:Value):(a.put d v).defers=a.defers:=by cases d<;>rfl
theorem next_put {κ':Ghost}{w':World}{v:Value}{S':St}{X:AVal}(hd:∀ d,o.dst=some d->d<a.tmps.size)(hK:K (S'.put o.dst X))(hH:∀ d,o.dst=some d->Holds P κ' (setT S'.T d X) (fun t=>if t=d then v else tv a t) S'.M w')
 (hN:o.dst=none->Holds P κ' S'.T (tv a) S'.M w') (hk:Keep κ w κ' w'):Next P κ w a K (a.put o.dst v) w':=by
 refine⟨κ',S'.put o.dst X,hK,?_,hk,put_size ..,put_defers ..⟩;cases ho:o.dst with
 | none=>exact hN ho
 | some d =>
  rw [tv_put v (hd d ho)];exact hH d ho
theorem wp_value {v:Value}{w':World}{N:Act->World->Prop}(hrun:(execOp a.eval o).run P w = .ok (.value v) w')(h:N (a.put o.dst v) w'):o.wp P a w N Q:=by
 unfold Oper.wp;rw [hrun];exact h
theorem wp_skip {w':World}{N:Act->World->Prop}(hrun:(execOp a.eval o).run P w = .ok .skip w')(h:N (a.put o.dst undef) w'):o.wp P a w N Q:=by
 unfold Oper.wp;rw [hrun];exact h
variable {S:St}
theorem sound_plain (h:Holds P κ S.T (tv a) S.M w)(hd:∀ d,o.dst=some d->d<a.tmps.size){V:AVal}(hv:aop P S.T S.M o.type o.op=some V)(hK:K (S.put o.dst V.shut)):o.wp P a w (Next P κ w a K) Q:=by
 obtain⟨u,h1,h2⟩:=aop_sound (a:=a) h.tmp h.obj hv;exact wp_value h1 (next_put (S':=S) hd hK (fun d _=>h.put d h2.shut fun _ _=>Spare.not_shut) (fun _=>h) (Keep.refl κ w))
theorem rep_ev (h:Holds P κ S.T (tv a) S.M w)(x:Operand):Rep P κ w (ev S.T x) (a.eval x):=ev_rep h.tmp x
theorem ofConst_spare {v:Value}{b x:Nat}(h:Spare P w (ofConst v) v b x):False:=by
 rcases h with ⟨l,off,cap,h1,h2,-⟩|⟨Vs,vs,i,X,x,h1,h2,-⟩
 ·subst h2;simp [ofConst] at h1
 ·subst h2;simp [ofConst] at h1
theorem sound_move (h:Holds P κ S.T (tv a) S.M w)(hd:∀ d,o.dst=some d->d<a.tmps.size){x:Operand}(hop:o.op = .move x\/o.op = .assign x)(hne:∀ t,x = .tmp t->o.dst≠some t)
 (hK:K ((S.lose x).put o.dst (ev S.T x))):o.wp P a w (Next P κ w a K) Q:=by
 have hrun:(execOp a.eval o).run P w = .ok (.value (a.eval x)) w:=by
  unfold execOp;rcases hop with hop|hop<;>rw [hop]<;>rfl
 refine wp_value hrun ?_;cases x with
 | tmp t =>
  cases ho:o.dst with
  | none =>
   have:=next_put (P:=P) (κ:=κ) (κ':=κ) (w:=w) (w':=w) (v:=a.eval (.tmp t)) (S':=S.lose (.tmp t)) (X:=ev S.T (.tmp t)) hd hK (fun d e=>by rw [ho] at e;cases e) (fun _=>h.lose t) (Keep.refl κ w);rwa [ho] at this
  | some d =>
   have:=next_put (P:=P) (κ:=κ) (κ':=mvTag κ t d) (w:=w) (w':=w) (v:=a.eval (.tmp t)) (S':=S.lose (.tmp t)) (X:=ev S.T (.tmp t)) hd hK
    (fun d' e=>by
     rw [ho] at e;cases e;exact h.move t d fun e=>hne t rfl (by rw [ho,e]))
    (fun e=>by rw [ho] at e;cases e) (Keep.tags (fun _ _=>mvTag_imm.2) (fun _ _=>mvTag_frame.2))
   rwa [ho] at this
 | const v=>exact next_put (S':=S) hd hK (fun d _=>h.put d (ofConst_rep v) fun _ _ hs=>ofConst_spare hs) (fun _=>h) (Keep.refl κ w)
 | global g=>exact next_put (S':=S) hd hK (fun d _=>h.put d (.raw _) fun _ _=>Spare.not_raw) (fun _=>h) (Keep.refl κ w)
 | func f=>exact next_put (S':=S) hd hK (fun d _=>h.put d (.raw _) fun _ _=>Spare.not_raw) (fun _=>h) (Keep.refl κ w)
theorem sound_store (h:Holds P κ S.T (tv a) S.M w)(hdst:o.dst=none){t:TypeId}{p x:Operand}(hop:o.op = .store t p x)(hs:aStore P t (ev S.T p) (ev S.T x) x S K):o.wp P a w (Next P κ w a K) Q:=by
 unfold aStore at hs;split at hs
 ·rename_i b off hp;have hp':=rep_ev h p;rw [hp] at hp';have hpe:=rep_raw hp';split at hs
  ·rename_i l hb;obtain⟨hok,hsz,hle,hs⟩:=hs;have hx:=rep_ev h x;obtain⟨hcl,hcu⟩:=ok_cells hx hok;have hvs:(a.eval x).cells.size=(ev S.T x).cells.length:=hcl.1.symm;have hrun:∀ w',(storeCells ⟨b,off,none⟩ (a.eval x).cells.toList 0).run P w = .ok () w'->(execOp a.eval o).run P w = .ok .skip w':=fun w' hw=>by
    unfold execOp;rw [hop];show ((Instr.storeAt t (a.eval p) (a.eval x)) >>= fun _=>(pure Next.skip:Sem Go.Next)).run P w=_
    rw [Sem.run_bind,hpe];have:(Instr.storeAt t (.pointer (some ⟨b,off,none⟩)) (a.eval x)).run P w = .ok () w':=by
     show ((Instr.sureAddr (.pointer (some ⟨b,off,none⟩))) >>= fun q=>storeVar t q (a.eval x)).run P w=_
     rw [run_bind_pr (x:=⟨b,off,none⟩) rfl];show ((sizeOf t) >>= fun n=>if (a.eval x).cells.size≠n then stuck _ else storeCells ⟨b,off,none⟩ (a.eval x).cells.toList).run P w=_
     rw [run_bind_pr (pr_sizeT hsz),if_neg (by rw [hvs];simp)];exact hw
    rw [this];rfl
   have plain:K (S.upd b (.cells (splice l off ((ev S.T x).cells.map AVal.shut))))->o.wp P a w (Next P κ w a K) Q:=fun hK=>by
    obtain⟨w',h1,h2,h3⟩:=run_storeCells (b:=b) (o:=off) (ev S.T x).cells (a.eval x).cells.toList 0 w S.M l h hb (by omega) (by simpa using hcl.1) (fun j X v e1 e2=>⟨hcl.2 j X v e1 (by simpa using e2),hcu X (List.mem_of_getElem? e1)⟩);refine wp_skip (hrun w' h1) ?_;rw [hdst];exact⟨κ,_,hK,h2,h3,rfl,rfl⟩
   split at hs
   ·rename_i xs hV;rw [hV] at hle hvs;cases x with
    | tmp s =>
     have hk1:Keep κ w (fun b' o'=>match κ b' o' with | .slot t=>if t=s then .mslot b off else .slot t|y=>y) w:=Keep.tags (fun b' o' e=>by simp only [e]) (fun b' o' e=>by simp only [e]);have h1:Holds P (fun b' o'=>match κ b' o' with | .slot t=>if t=s then .mslot b off else .slot t|y=>y) (setT S.T s (S.T s).shut) (tv a) S.M w:=by
      refine⟨fun t=>?_,fun c p hc=>(h.obj c p hc).tags (fun b' o' e=>by simp only [e]) (fun b' o' j e=>by simp only [e]),fun c y hc=>(h.tag c y fun e=>hc (by simp only [e])).imp id fun h=>h.to fun e=>by simp only [e],fun t c y hsp=>?_,fun c y t hc=>?_,fun c y c' j hc=>?_⟩
      ·unfold setT;split
       ·rename_i e;subst e;exact hk1.rep (h.tmp t).shut
       ·exact hk1.rep (h.tmp t)
      ·unfold setT at hsp;split at hsp
       ·exact absurd hsp Spare.not_shut
       ·rename_i e;have:=h.sp t c y hsp;simp only [this,if_neg e]
      ·split at hc
       ·rename_i t' e;exact h.wr c y t' e
       ·exact h.wr c y t hc
      ·split at hc
       ·rename_i t' e;exact h.wr c y t' e
       ·exact h.mwr c y c' j hc
     have hVs:S.T s = .sl xs true:=hV;obtain⟨h2,h3,h4⟩:=h1.setM hb (o:=off) (X:=.sl xs true) (x:=tv a s) (by simp [AVal.cells] at hle;omega) (by rw [← hVs];exact hk1.rep (h.tmp s)) (unit_one (h.tmp s) (by rw [hVs];rfl)) (fun b' o' hsp=>by
      rw [← hVs] at hsp;have:=h.sp s b' o' hsp;simp only [this,if_true])
     have hcells:(a.eval (.tmp s)).cells = #[tv a s]:=by
      have:=unit_one (h.tmp s) (by rw [hVs];rfl);show (tv a s).cells=_
      generalize tv a s=v at this;cases v<;>first|rfl|simp [one] at this
     refine wp_skip (hrun (w.setCell ⟨b,off,none⟩ (tv a s)) ?_) ?_
     ·rw [hcells];show ((store ((⟨b,off,none⟩ : Addr).add 0) (tv a s)) >>= fun _=>(pure ():Sem Unit)).run P w=_
      rw [addr_add,Nat.add_zero,Sem.run_bind,h2];rfl
     ·rw [hdst];exact⟨_,_,hs,h3,hk1.trans h4,rfl,rfl⟩
    | const v =>
     have hv:v = .slice none 0 0/\xs=[]:=by
      have:ofConst v = .sl xs true:=hV;unfold ofConst at this;split at this
      ·cases this
      ·cases this;exact⟨rfl,rfl⟩
      ·cases this
     obtain⟨rfl,rfl⟩:=hv;obtain⟨h2,h3,h4⟩:=h.setM hb (o:=off) (X:=.sl [] true) (x:=.slice none 0 0) (by simp [AVal.cells] at hle;omega) (.nil true) rfl (fun b' o' hsp=>by
      obtain⟨_,_,_,_,e,_⟩:=hsp.sl;cases e)
     refine wp_skip (hrun (w.setCell ⟨b,off,none⟩ (.slice none 0 0)) ?_) ?_
     ·show ((store ((⟨b,off,none⟩ : Addr).add 0) (.slice none 0 0)) >>= fun _=>(pure ():Sem Unit)).run P w=_
      rw [addr_add,Nat.add_zero,Sem.run_bind,h2];rfl
     ·rw [hdst];exact⟨_,_,hs,h3,h4,rfl,rfl⟩
    | global g=>cases hV
    | func f=>cases hV
   ·exact plain hs
  ·exact hs.elim
 ·exact hs.elim
end
end Go.Am
