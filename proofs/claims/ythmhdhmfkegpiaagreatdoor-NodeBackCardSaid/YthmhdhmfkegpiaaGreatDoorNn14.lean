import Derived.Test.YthmhdhmfkegpiaaGreatDoorHz
import Derived.Test.YthmhdhmfkegpiaaGreatDoorNn13
open Go Go.Proofs Go.Am
set_option linter.unusedVariables false
set_option linter.unusedSimpArgs false
set_option autoImplicit false
namespace C17
theorem split11 {s:ByteArray}(h:(decF shM s).2=0):∃ x0 x1 x2 x3 x4 x5 x6 x7 x8 x9 x10:Itm,∃ r,decF shM s=(x0::x1::x2::x3::x4::x5::x6::x7::x8::x9::x10::r,0)/\r.length<=989/\x10.n=0:=by
 obtain⟨⟨h1,h2⟩,h3⟩:=decM_kinds h;cases e:decF shM s with
 | mk l q =>
  rw [e] at h h1 h2 h3;have h0:q=0:=h;subst h0
  match l,h1,h2,h3 with
  | x0::x1::x2::x3::x4::x5::x6::x7::x8::x9::x10::r,h1,h2,h3 =>
   refine⟨x0,x1,x2,x3,x4,x5,x6,x7,x8,x9,x10,r,rfl,?_,(h3 10 x10 rfl).2.1 (by decide +kernel)⟩;have:(x0::x1::x2::x3::x4::x5::x6::x7::x8::x9::x10::r).length=r.length+11:=rfl;simp only at h2;omega
theorem decM_err {s:ByteArray}(h:(decF shM s).2≠0):decM s=(msg0,(decF shM s).2):=if_pos h
theorem join_dec {f:Nat}{s:ByteArray}{M:Mem}(h:SoundCall Tryz.prog f [str s] M fun r M'=>(r = .tup [encM (decM s).1,int (decM s).2]\/r = .tup [.agg [int 0,int 0,int 0,int 0,int 0,int 0,int 0,int 0,int 0,int 0,str ⟨#[]⟩,.raw (.slice none 0 0)],int (decM s).2]/\(decM s).1=msg0)/\M.le M') :
 SoundCall Tryz.prog f [str s] M fun r M'=>r = .tup [encM (decM s).1,int (decM s).2]/\M.le M' :=
 h.reres fun r M' ⟨hr,hle⟩=>by
  rcases hr with rfl|⟨rfl,h0⟩
  ·exact⟨_,⟨rfl,hle⟩,fun _ _ _ h=>h,no_spare_pair⟩
  ·exact⟨_,⟨rfl,hle⟩,fun _ _ _ h=>by rw [h0];exact rep_nil_last (cs:=[int 0,int 0,int 0,int 0,int 0,int 0,int 0,int 0,int 0,int 0,str ⟨#[]⟩]) h,no_spare_pair⟩
theorem dec14 (s:ByteArray)(hs:s.size<2^62)(ge:TypeId)(gf:Nat×Nat)(M:Mem)(hG:M 0=some (szO ge gf)):SoundCall Tryz.prog 14 [str s] M fun r M'=>r = .tup [encM (decM s).1,int (decM s).2]/\M.le M':=by
 refine join_dec ?_;by_cases h:(decF shM s).2=0
 ·obtain⟨x0,x1,x2,x3,x4,x5,x6,x7,x8,x9,x10,r,h1,h2,h3⟩:=split11 h;exact snd14b s hs ge gf M hG x0 x1 x2 x3 x4 x5 x6 x7 x8 x9 x10 r h1 h2 h3
 ·refine (snd14a s hs ge gf M hG h).mono fun r M' ⟨h1,h2⟩=>⟨.inr ?_,h2⟩
  rw [decM_err h];exact⟨h1,rfl⟩
theorem dec15 (s:ByteArray)(hs:s.size<2^62)(M:Mem):SoundCall Tryz.prog 15 [str s] M fun r M'=>r = .tup [encM (decM s).1,int (decM s).2]/\M.le M':=by
 refine join_dec ?_;by_cases h:(decF shM s).2=0
 ·obtain⟨x0,x1,x2,x3,x4,x5,x6,x7,x8,x9,x10,r,h1,h2,h3⟩:=split11 h;exact snd15b s hs M x0 x1 x2 x3 x4 x5 x6 x7 x8 x9 x10 r h1 h2 h3
 ·refine (snd15a s hs M h).mono fun r M' ⟨h1,h2⟩=>⟨.inr ?_,h2⟩
  rw [decM_err h];exact⟨h1,rfl⟩
end C17
