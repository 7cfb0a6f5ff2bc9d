import Derived.Test.YthmhdhmfkegpiaaGreatDoorHz
import Derived.Test.YthmhdhmfkegpiaaGreatDoorNr7
import Derived.Test.YthmhdhmfkegpiaaGreatDoorAmE
open Go Go.Proofs Go.Am
set_option linter.unusedVariables false
set_option autoImplicit false
namespace C17
theorem u8_wrapm (a:Nat):IntKind.u8.wrap (a:Int)=((a % 256:Nat):Int):=by
 have h:(a:Int) % 2^IntKind.u8.bits=((a % 256:Nat):Int):=by show (a:Int) % 256=_;omega
 unfold IntKind.wrap;rw [h];rfl
section
variable {P:Program}{T:Nat->AVal}{M:Mem}{dst:Option Nat}{x y:Operand}{ty:TypeId}{pos:String}{af:Array Edge}{g:Option (Nat×Bool)}{k kk:IntKind}{a:Int}
theorem q_i2iw {s d':TypeId}{ts:TypeDesc}(hs:P.underlying s=some ts)(hd:P.underlying d'=some (.int kk))(hx:ev T x = .raw (.int k a)){z:Int}(hw:kk.wrap a=z):qstep P none (mkO dst (.convert s d' x) ty pos af g) T M=some (⟨none,.raw (.int kk z)⟩,[]):=by
 simp only [qstep,aop,hx,aConvert,conv_i2i hs hd,Option.map_some,readsOf,AVal.shut,AVal.shut1,hw]
theorem o_asnil {tkr:Nat->Option Nat}{ops:Array Oper}{K:St->Prop}{i d:Nat}{rest:List Oper}(h:aOps P tkr ops K (i+1) rest ⟨setT T d (.raw (.slice none 0 0)),M⟩):aOps P tkr ops K i (mkO (some d) (.assign (.const (.slice none 0 0))) ty pos af none::rest) ⟨T,M⟩:=by
 refine o_xs rfl (.inl fun ρ w h1 h2 h3=>.inl ⟨.slice none 0 0,_,?_,Fixed.raw _,h⟩);refine run_val (s:=pure (ρ (.const (.slice none 0 0)))) ?_;rw [h3.2];rfl
theorem srcb_sl {st e:TypeId}{ats:Array TypeId}{own:Bool}{m:List UInt8}(ht:SlT P st e 1 1)(h0:ats[0]? = some st)(h1:ats[1]? = some st)(hy:ev T y = .sl (m.map u8) own):SrcB P ats M (ev T y) m :=
 ⟨.sl (m.map u8) own,by rw [hy];rfl,fun l hl=>aAppend_eq ht h0 h1 els_u8 els_u8 (by simpa using hl)⟩
end
def Own1 (M0 M:Mem)(v:Value):Prop:=∀ b,(∃ n c,v = .slice (some ⟨b,0,none⟩) n c/\M b≠none/\c≠0)->M0 b=none
theorem lowB_one (v i:Nat)(l:List UInt8):(l++[UInt8.ofNat (v / 256^i % 256)])++lowB v i=l++lowB v (i+1):=by
 rw [List.append_assoc];rfl
theorem shl8 (v i:Nat):v / 2^(8*i)=v / 256^i:=by rw [Nat.pow_mul]
theorem ofNat_toNat (n:Nat):u8 (UInt8.ofNat (n % 256)) = .raw (.int .u8 ((n % 256:Nat):Int)):=by
 show AVal.raw (.int .u8 ((UInt8.ofNat (n % 256)).toNat:Int))=_
 rw [UInt8.toNat_ofNat_of_lt' (Nat.mod_lt _ (by decide))]
section
variable {M M' M2:Mem}{v v2:Value}{l:List UInt8}{B:Nat}{o o1:AObj}
theorem put_up (hB:Bs M' v l)(hle:M.le M')(hfr:Own1 M M' v)(hN:M' B=none):Bs ((M'.upd B o1).upd B o) v l/\(M.upd B o).le ((M'.upd B o1).upd B o)/\Own1 (M.upd B o) ((M'.upd B o1).upd B o) v:=by
 have hb:∀ b,b≠B->((M'.upd B o1).upd B o) b=M' b:=fun b hb=>(upd_other hb).trans (upd_other hb)
 have hMB:M B=none:=Mem.none_of_le hle hN;refine⟨hB.keep fun b h1 h2=>hb b fun e=>h2 (by rw [e];exact hN),fun b x hx=>?_,fun b ⟨n,c,e,h1,h2⟩=>?_⟩
 ·by_cases e:b=B
  ·subst e;rw [Mem.upd_self] at hx ⊢;exact hx
  ·rw [upd_other e] at hx;rw [hb b e];exact hle b x hx
 ·have hne:b≠B:=fun e2=>by
   rcases hB with ⟨base,e3,-,-⟩|⟨b',cs,e3,h3,-⟩
   ·rw [e] at e3;cases e3;exact h2 rfl
   ·rw [e] at e3;cases e3;rw [e2,hN] at h3;cases h3
  rw [upd_other hne];exact hfr b ⟨n,c,e,by rw [hb b hne] at h1;exact h1,h2⟩
theorem put_down (h1:M B=none)(hle:(M.upd B o).le M2)(hfr:Own1 (M.upd B o) M2 v2):M.le M2/\Own1 M M2 v2/\M2 B=some o:=by
 refine⟨fun b x hx=>hle b x ?_,fun b hb=>?_,hle B o (Mem.upd_self _ _ _)⟩
 ·rw [upd_other fun e=>by rw [e,h1] at hx;cases hx];exact hx
 ·have:=hfr b hb;by_cases e:b=B
  ·rw [e];exact h1
  ·rw [upd_other e] at this;exact this
end
theorem okI_kind {x:Itm}(h:okI x):1<=x.kind/\x.kind<=4:=by
 rcases h with h|h|h|h<;>omega
theorem okI_text {x:Itm}(h:okI x)(e:x.kind=4):x.n=0/\x.s.size<=100000:=by
 rcases h with h|h|h|h
 ·omega
 ·omega
 ·omega
 ·exact h.2
theorem okI_num {x:Itm}(h:okI x)(e:x.kind≠4):x.s=emp/\x.n / 2^(8*szK x.kind)=0/\x.n<2^64/\szK x.kind<=8:=by
 refine⟨?_,?_,?_,szK_le _⟩
 ·rcases h with h|h|h|h
  ·exact h.2.2
  ·exact h.2.2
  ·exact h.2.2
  ·exact absurd h.1 e
 ·rcases h with h|h|h|h
  ·rw [h.1];exact Nat.div_eq_of_lt h.2.1
  ·rw [h.1];exact Nat.div_eq_of_lt h.2.1
  ·rw [h.1];exact Nat.div_eq_of_lt h.2.1
  ·exact absurd h.1 e
 ·rcases h with h|h|h|h
  ·have:=h.2.1;omega
  ·have:=h.2.1;omega
  ·exact h.2.1
  ·exact absurd h.1 e
theorem bytI_tx {x:Itm}(e:x.kind=4):(bytI x).data.toList=lowB x.s.size 4++x.s.data.toList:=by
 unfold bytI;rw [if_pos e];show (numB x.s.size 4++x.s).data.toList=_
 rw [ByteArray.data_append,Array.toList_append];rfl
theorem bytI_nm {x:Itm}(e:x.kind≠4):(bytI x).data.toList=lowB x.n (szK x.kind):=by
 unfold bytI;rw [if_neg e];rfl
theorem enc_succ {l:List Itm}{i:Nat}(h:i<l.length):(encAll (l.take (i+1))).data.toList=(encAll (l.take i)).data.toList++(bytI l[i]).data.toList:=by
 rw [encAll_succ h,ByteArray.data_append,Array.toList_append]
theorem leU2 {M M':Mem}{B:Nat}{o o1:AObj}(h:M.le M')(hB:M' B=none):M.le ((M'.upd B o1).upd B o):=fun c x hx=>by
 have hc:c≠B:=fun e=>by have:=h c x hx;rw [e,hB] at this;cases this
 exact ((upd_other hc).trans (upd_other hc)).trans (h c x hx)
end C17
