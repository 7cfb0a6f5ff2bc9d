import Derived.Test.YthmhdhmfkegpiaaGreatDoorHz
import Derived.Test.YthmhdhmfkegpiaaGreatDoorNn9
open Go Go.Proofs Go.Am
set_option linter.unusedVariables false
set_option linter.unusedSimpArgs false
set_option autoImplicit false
namespace C17
theorem bytI_ne {x:Itm}(h:okI x)(r:ByteArray):bytI x++r≠emp:=fun e=>by
 have h1:1<=(bytI x).size:=by
  unfold bytI;split
  ·rw [ByteArray.size_append,numB_size];omega
  ·rename_i hk;rw [numB_size];rcases h with h|h|h|h
   ·rw [h.1];decide
   ·rw [h.1];decide
   ·rw [h.1];decide
   ·exact absurd h.1 hk
 have h2:=congrArg ByteArray.size e;rw [ByteArray.size_append] at h2;have h3:emp.size=0:=rfl;omega
theorem rd_enc:∀ (l:List Itm) (f i:Nat) (out:List Itm),out.length=i->11<=i+l.length->l.length<f->i+l.length<=1000->(∀ q,∀ h:q<l.length,kindB (letM (i+q))=l[q].kind/\okI l[q]) →
 rd f i (encAll l) out=(out++l,0)
 | [],f,i,out,h0,h1,h2,h3,h4=>by
  obtain⟨f,rfl⟩ : ∃ g,f=g+1:=⟨f - 1,by have:([]:List Itm).length=0:=rfl;omega⟩;unfold rd;rw [if_pos ⟨by simpa using h1,rfl⟩,List.append_nil]
 | x::l,f,i,out,h0,h1,h2,h3,h4=>by
  obtain⟨f,rfl⟩ : ∃ g,f=g+1:=⟨f - 1,by omega⟩;rw [List.length_cons] at h1 h2 h3;obtain⟨hk,hx⟩ : kindB (letM i)=x.kind/\okI x:=h4 0 (by simp);unfold rd;rw [encAll_cons,if_neg (fun h=>bytI_ne hx _ h.2),if_neg (by omega),itemF_enc hk hx,if_neg (fun h=>h rfl)];rw [rd_enc l f (i+1) (out++[x]) (by rw [List.length_append,List.length_singleton];omega) (by omega) (by omega) (by omega) fun q hq=>?_]
  ·rw [List.append_assoc];rfl
  ·have:=h4 (q+1) (by rw [List.length_cons];omega);rw [show i+1+q=i+(q+1) by omega];exact this
def zIt:Itm:=⟨0,0,emp⟩
def numI (l:List Itm)(i:Nat):Int:=((l.getD i zIt).n:Nat)
def msgI (l:List Itm):Msg:=⟨numI l 0,numI l 1,numI l 2,numI l 3,numI l 4,numI l 5,⟨numI l 6,numI l 7⟩,⟨numI l 8,numI l 9⟩,(l.getD 10 zIt).s,(l.drop 11).map Itm.s⟩
def decM (s:ByteArray):Msg×Int :=
 if (decF shM s).2≠0 then (msg0,(decF shM s).2) else
 if (List.range 10).all (fun i=>decide (numI (decF shM s).1 i<=top53)) then (if rightM (msgI (decF shM s).1) then (msgI (decF shM s).1,0) else (msg0,10)) else (msg0,10)
theorem decM_ok {s:ByteArray}(h:(decM s).2=0):(decF shM s).2=0/\rightM (msgI (decF shM s).1)=true/\(decM s).1=msgI (decF shM s).1:=by
 unfold decM at h ⊢;split at h
 ·rename_i h1;exact absurd h h1
 ·rename_i h1;have h1':=Decidable.not_not.1 h1;split at h
  ·rename_i h2;split at h
   ·rename_i h3;rw [if_neg h1,if_pos h2,if_pos h3];exact⟨h1',h3,rfl⟩
   ·exact absurd h (show ¬ (10:Int)=0 by decide)
  ·exact absurd h (show ¬ (10:Int)=0 by decide)
theorem itemsM_len (x:Msg):(itemsM x).length=11+x.texts.length:=by
 unfold itemsM;rw [List.length_append,List.length_map];rfl
theorem kinds_itemsM {x:Msg}(h:rightM x=true):∀ q,∀ hq:q<(itemsM x).length,kindB (letM (0+q))=(itemsM x)[q].kind/\okI (itemsM x)[q]:=fun q hq=>by
 have hok:=okItM h (i:=x.texts.length);rw [List.take_length] at hok;refine⟨?_,hok _ (List.getElem_mem hq)⟩;rw [Nat.zero_add];by_cases hq1:q<11
 ·have e:(itM11 x++x.texts.map itT)[q]'hq=(itM11 x)[q]'hq1:=List.getElem_append_left _;show kindB (letM q)=((itM11 x++x.texts.map itT)[q]'hq).kind
  rw [e]
  match q,hq1 with
  | 0,_=>rfl
  | 1,_=>rfl
  | 2,_=>rfl
  | 3,_=>rfl
  | 4,_=>rfl
  | 5,_=>rfl
  | 6,_=>rfl
  | 7,_=>rfl
  | 8,_=>rfl
  | 9,_=>rfl
  | 10,_=>rfl
 ·have e:(itM11 x++x.texts.map itT)[q]'hq=(x.texts.map itT)[q - 11]'(by have:=itemsM_len x;rw [List.length_map];omega):=List.getElem_append_right (Nat.le_of_not_lt hq1);show kindB (letM q)=((itM11 x++x.texts.map itT)[q]'hq).kind
  rw [e,List.getElem_map];unfold letM;rw [if_neg hq1];rfl
theorem decF_bytM {x:Msg}(h:rightM x=true):decF shM (bytM x)=(itemsM x,0):=by
 have hl:=(rightM_le h).2.2.2.2.2.2.2.2.2.1;have h1:=itemsM_len x;rw [decF_M];exact rd_enc (itemsM x) 1001 0 [] rfl (by omega) (by omega) (by omega) (kinds_itemsM h)
theorem msgI_itemsM {x:Msg}(h:rightM x=true):msgI (itemsM x)=x:=by
 obtain⟨b1,b2,b3,b4,b5,b6,b7,b8,b9,b10,b11⟩:=rightM_le h;have e:∀ n:Int,0<=n->((n.toNat:Nat):Int)=n:=fun n hn=>Int.toNat_of_nonneg hn
 have et:(x.texts.map itT).map Itm.s=x.texts:=by rw [List.map_map];exact List.map_id' _
 unfold msgI;have hd:(itemsM x).drop 11=x.texts.map itT:=rfl;rw [hd,et];cases x with
 | mk kind frm life view n sure bal tak val texts =>
  cases bal;cases tak;show Msg.mk _ _ _ _ _ _ _ _ _ _=Msg.mk _ _ _ _ _ _ _ _ _ _
  refine Msg.mk.injEq .. |>.mpr ⟨e _ (by have:=b1.1;omega),e _ b2.1,e _ (by have:=b3.1;omega),e _ b4.1,e _ b5.1,e _ b6.1,Bal.mk.injEq .. |>.mpr ⟨e _ b7.1,e _ b7.2.2.1⟩,Bal.mk.injEq .. |>.mpr ⟨e _ b8.1,e _ b8.2.2.1⟩,rfl,rfl⟩
theorem itm_num {q:Nat}{x:Itm}{k:Int}(h:itK q x)(hk:kindB (letM q)=k)(h4:k≠4):Itm.mk k x.n emp=x:=by
 obtain⟨h1,-,h2,-⟩:=h;rw [hk] at h1 h2;obtain⟨a,b,c⟩:=x;have h1:a=k:=h1;have h2:c=emp:=h2 h4;rw [h1,h2]
theorem itm_txt {q:Nat}{x:Itm}(h:itK q x)(hk:kindB (letM q)=4):itT x.s=x:=by
 obtain⟨h1,h2,-,-⟩:=h;rw [hk] at h1;obtain⟨a,b,c⟩:=x;have h1:a=4:=h1;have h2:b=0:=h2 hk;rw [h1,h2];rfl
theorem txts_back:∀ (r:List Itm),(∀ x∈r,itT x.s=x)->(r.map Itm.s).map itT=r
 | [],_=>rfl
 | x::r,h=>by
  show itT x.s::(r.map Itm.s).map itT=_
  rw [h x List.mem_cons_self,txts_back r fun y hy=>h y (List.mem_cons_of_mem _ hy)]
theorem itemsM_msgI {l:List Itm}(hl:11<=l.length)(hx:∀ q x,l[q]? = some x->itK q x):itemsM (msgI l)=l:=by
 match l,hl,hx with
 | x0::x1::x2::x3::x4::x5::x6::x7::x8::x9::x10::r,_,hx =>
  have e0:=itm_num (hx 0 x0 rfl) (show kindB (letM 0)=1 by kernel_rfl) (by decide);have e1:=itm_num (hx 1 x1 rfl) (show kindB (letM 1)=1 by kernel_rfl) (by decide);have e2:=itm_num (hx 2 x2 rfl) (show kindB (letM 2)=3 by kernel_rfl) (by decide);have e3:=itm_num (hx 3 x3 rfl) (show kindB (letM 3)=3 by kernel_rfl) (by decide);have e4:=itm_num (hx 4 x4 rfl) (show kindB (letM 4)=3 by kernel_rfl) (by decide);have e5:=itm_num (hx 5 x5 rfl) (show kindB (letM 5)=3 by kernel_rfl) (by decide);have e6:=itm_num (hx 6 x6 rfl) (show kindB (letM 6)=3 by kernel_rfl) (by decide);have e7:=itm_num (hx 7 x7 rfl) (show kindB (letM 7)=1 by kernel_rfl) (by decide);have e8:=itm_num (hx 8 x8 rfl) (show kindB (letM 8)=3 by kernel_rfl) (by decide);have e9:=itm_num (hx 9 x9 rfl) (show kindB (letM 9)=1 by kernel_rfl) (by decide);have e10:=itm_txt (hx 10 x10 rfl) (show kindB (letM 10)=4 by kernel_rfl);have er:(r.map Itm.s).map itT=r:=txts_back r fun x h=>by
   obtain⟨j,hj⟩:=List.mem_iff_getElem?.1 h;refine itm_txt (q:=j+11) (hx (j+11) x hj) ?_;unfold letM;rw [if_neg (by omega)];exact kB116
  show Itm.mk 1 x0.n emp::Itm.mk 1 x1.n emp::Itm.mk 3 x2.n emp::Itm.mk 3 x3.n emp::Itm.mk 3 x4.n emp::Itm.mk 3 x5.n emp::Itm.mk 3 x6.n emp::Itm.mk 1 x7.n emp::Itm.mk 3 x8.n emp::Itm.mk 1 x9.n emp::itT x10.s::(r.map Itm.s).map itT=_
  rw [e0,e1,e2,e3,e4,e5,e6,e7,e8,e9,e10,er]
theorem bytM_dec {s:ByteArray}(h:(decF shM s).2=0):bytM (msgI (decF shM s).1)=s:=by
 obtain⟨⟨h1,-⟩,h2⟩:=decM_kinds h;unfold bytM;rw [itemsM_msgI h1 h2];exact decM_inv h
theorem decM_bytM {x:Msg}(h:rightM x=true):decM (bytM x)=(x,0):=by
 have h1:=decF_bytM h;have h2:=msgI_itemsM h;obtain⟨b1,b2,b3,b4,b5,b6,b7,b8,b9,b10,b11⟩:=rightM_le h;have h53:top53=9007199254740991:=rfl;unfold decM;rw [h1];show (if (0:Int)≠0 then _ else _)=_
 rw [if_neg (fun h=>h rfl)];have hb:(List.range 10).all (fun i=>decide (numI (itemsM x) i<=top53))=true:=by
  rw [List.all_eq_true];intro i hi;rw [List.mem_range] at hi;rw [decide_eq_true_eq]
  match i,hi with
  | 0,_=>show ((x.kind.toNat:Nat):Int)<=top53;omega
  | 1,_=>show ((x.frm.toNat:Nat):Int)<=top53;omega
  | 2,_=>show ((x.life.toNat:Nat):Int)<=top53;omega
  | 3,_=>show ((x.view.toNat:Nat):Int)<=top53;omega
  | 4,_=>show ((x.n.toNat:Nat):Int)<=top53;omega
  | 5,_=>show ((x.sure.toNat:Nat):Int)<=top53;omega
  | 6,_=>show ((x.bal.round.toNat:Nat):Int)<=top53;omega
  | 7,_=>show ((x.bal.node.toNat:Nat):Int)<=top53;omega
  | 8,_=>show ((x.tak.round.toNat:Nat):Int)<=top53;omega
  | 9,_=>show ((x.tak.node.toNat:Nat):Int)<=top53;omega
 show (if (List.range 10).all (fun i=>decide (numI (itemsM x) i<=top53))=true then _ else _)=_
 rw [if_pos hb,h2,if_pos h]
end C17
