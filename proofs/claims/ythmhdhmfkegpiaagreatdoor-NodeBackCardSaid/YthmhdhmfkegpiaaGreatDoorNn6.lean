import Derived.Test.YthmhdhmfkegpiaaGreatDoorHz
import Derived.Test.YthmhdhmfkegpiaaGreatDoorNn5
import Derived.Test.YthmhdhmfkegpiaaGreatDoorNn1
open Go Go.Proofs Go.Am
set_option linter.unusedVariables false
set_option linter.unusedSimpArgs false
set_option autoImplicit false
set_option maxHeartbeats 4000000
set_option maxRecDepth 20000
namespace C17
theorem ag26:aggT Tryz.prog 26=some true:=by kernel_rfl
theorem sz26:sizeT Tryz.prog 26=some 12:=by kernel_rfl
def tk43:Nat->Nat->Option Nat:=fun _ _=>none
def pl43:Nat->List PStep:=fun _=>[]
theorem cb43:Tryz.f43.body.map (codeB Tryz.prog Tryz.f43.ntmps tk43 pl43)=some true:=by kernel_rfl
theorem goes43:goesB Tryz.prog 43=true:=by kernel_rfl
def itT (s:ByteArray):Itm:=⟨4,0,s⟩
def itM11 (x:Msg):List Itm:=[⟨1,x.kind.toNat,emp⟩,⟨1,x.frm.toNat,emp⟩,⟨3,x.life.toNat,emp⟩,⟨3,x.view.toNat,emp⟩,⟨3,x.n.toNat,emp⟩,⟨3,x.sure.toNat,emp⟩,⟨3,x.bal.round.toNat,emp⟩,⟨1,x.bal.node.toNat,emp⟩,⟨3,x.tak.round.toNat,emp⟩,⟨1,x.tak.node.toNat,emp⟩,itT x.val]
def itemsM (x:Msg):List Itm:=itM11 x++x.texts.map itT
def bytM (x:Msg):ByteArray:=encAll (itemsM x)
theorem itM_step {l:List Itm}{ts:List ByteArray}{i:Nat}(hi:i<ts.length):(l++(ts.take i).map itT).map encIt++[encIt (itT ts[i])]=(l++(ts.take (i+1)).map itT).map encIt:=by
 rw [List.take_succ_eq_append_getElem hi];simp only [List.map_append,List.append_assoc];rfl
theorem mayB_le {b:Bal}(h:mayB b=true):0<=b.round/\b.round<=top53/\0<=b.node/\b.node<=6:=by
 unfold mayB rightB at h;have h53:top53=9007199254740991:=rfl;simp only [Bool.or_eq_true,Bool.and_eq_true,decide_eq_true_eq] at h;rcases h with h|h
 ·omega
 ·subst h;decide
theorem rightM_le {x:Msg}(h:rightM x=true):(1<=x.kind/\x.kind<=10)/\(0<=x.frm/\x.frm<=6)/\(1<=x.life/\x.life<=top53)/\(0<=x.view/\x.view<=top53)/\(0<=x.n/\x.n<=top53)/\(0<=x.sure/\x.sure<=top53)/\(0<=x.bal.round/\x.bal.round<=top53/\0<=x.bal.node/\x.bal.node<=6)/\(0<=x.tak.round/\x.tak.round<=top53/\0<=x.tak.node/\x.tak.node<=6)/\x.val.size<=100000/\x.texts.length<=980/\∀ t∈x.texts,t.size<=100000:=by
 unfold rightM headM bodyM at h;simp only [Bool.and_eq_true,decide_eq_true_eq] at h;obtain⟨⟨⟨e4,e5,e6,e7,e8,e9,e10,e11,e12,e13,e14,e15⟩,⟨⟨e16,e17⟩,e18⟩,e19⟩,e20⟩:=h;exact⟨⟨e4,e5⟩,⟨e6,by omega⟩,⟨e8,e9⟩,⟨e10,e11⟩,⟨e12,e13⟩,⟨e14,e15⟩,mayB_le e16,mayB_le e17,e18,e19,e20⟩
theorem okItM {x:Msg}(h:rightM x=true){i:Nat}:∀ y∈itM11 x++(x.texts.take i).map itT,okI y:=by
 obtain⟨h1,h2,h3,h4,h5,h6,h7,h8,h9,h10,h11⟩:=rightM_le h;have h53:top53=9007199254740991:=rfl;intro y hy;rcases List.mem_append.1 hy with hy|hy
 ·simp only [itM11,List.mem_cons,List.not_mem_nil,or_false] at hy;rcases hy with rfl|rfl|rfl|rfl|rfl|rfl|rfl|rfl|rfl|rfl|rfl<;>unfold okI<;>dsimp only [itT]<;>first|(left;exact⟨rfl,by omega,rfl⟩)|(right;right;left;exact⟨rfl,by omega,rfl⟩)|(right;right;right;exact⟨rfl,rfl,by omega⟩)
 ·obtain⟨t,ht,rfl⟩:=List.mem_map.1 hy;exact .inr (.inr (.inr ⟨rfl,rfl,h11 t (List.mem_of_mem_take ht)⟩))
theorem itM_len (x:Msg)(h:x.texts.length<=980)(i:Nat):(itM11 x++(x.texts.take i).map itT).length<=1000:=by
 rw [List.length_append,List.length_map,List.length_take];show 11+_<=1000
 omega
theorem snd43 (n:Int)(h0:0<=n)(h1:n<2^63)(M:Mem):SoundCall Tryz.prog 43 [int n] M fun r M'=>r=encIt ⟨1,n.toNat,emp⟩/\M.le M':=by
 refine SoundCall.go tk43 pl43 mixed Tryz.func43 cb43 rfl (Nat.le_of_ble_eq_true rfl) ?_;refine Q0 ?_;refine o_alloc zc106 (fun B1 hB1=>?_);refine Q1 ?_;refine Q5 ?_;refine Q141 und3 und104 ?_;refine Q159 bz106 bp106 fo106_0 fo106_1 ?_;refine Q75 sz106 ?_;have e:((n.toNat:Nat):Int)=n:=Int.toNat_of_nonneg h0;exact ret_one (.inl rfl) rfl (rl_c rfl mmQ (loadP_w ag106 sz106 rfl rfl) rfl rl_nil) ⟨by show _=AVal.agg [int 1,.raw (.int .u64 ((n.toNat:Nat):Int)),str emp];rw [e];rfl,leU2 (Mem.le_refl M) hB1⟩
def tk44:Nat->Nat->Option Nat:=fun _ _=>none
def pl44:Nat->List PStep:=fun _=>[]
theorem cb44:Tryz.f44.body.map (codeB Tryz.prog Tryz.f44.ntmps tk44 pl44)=some true:=by kernel_rfl
theorem goes44:goesB Tryz.prog 44=true:=by kernel_rfl
theorem snd44 (n:Int)(h0:0<=n)(h1:n<2^63)(M:Mem):SoundCall Tryz.prog 44 [int n] M fun r M'=>r=encIt ⟨3,n.toNat,emp⟩/\M.le M':=by
 refine SoundCall.go tk44 pl44 mixed Tryz.func44 cb44 rfl (Nat.le_of_ble_eq_true rfl) ?_;refine Q0 ?_;refine o_alloc zc106 (fun B1 hB1=>?_);refine Q1 ?_;refine Q5 ?_;refine Q141 und3 und104 ?_;refine Q159 bz106 bp106 fo106_0 fo106_1 ?_;refine Q75 sz106 ?_;have e:((n.toNat:Nat):Int)=n:=Int.toNat_of_nonneg h0;exact ret_one (.inl rfl) rfl (rl_c rfl mmQ (loadP_w ag106 sz106 rfl rfl) rfl rl_nil) ⟨by show _=AVal.agg [int 3,.raw (.int .u64 ((n.toNat:Nat):Int)),str emp];rw [e];rfl,leU2 (Mem.le_refl M) hB1⟩
def tk45:Nat->Nat->Option Nat:=fun _ _=>none
def pl45:Nat->List PStep:=fun _=>[]
theorem cb45:Tryz.f45.body.map (codeB Tryz.prog Tryz.f45.ntmps tk45 pl45)=some true:=by kernel_rfl
theorem goes45:goesB Tryz.prog 45=true:=by kernel_rfl
theorem snd45 (s:ByteArray)(M:Mem):SoundCall Tryz.prog 45 [str s] M fun r M'=>r=encIt (itT s)/\M.le M':=by
 refine SoundCall.go tk45 pl45 mixed Tryz.func45 cb45 rfl (Nat.le_of_ble_eq_true rfl) ?_;refine Q0 ?_;refine o_alloc zc106 (fun B1 hB1=>?_);refine Q1 ?_;refine Q5 ?_;refine Q194 bz106 bp106 fo106_0 fo106_2 ?_;refine Q75 sz106 ?_;exact ret_one (.inl rfl) rfl (rl_c rfl mmQ (loadP_w ag106 sz106 rfl rfl) rfl rl_nil) ⟨rfl,leU2 (Mem.le_refl M) hB1⟩
def tk13:Nat->Nat->Option Nat
 | 4,38=>some 0
 | 8,0=>some 0
 | 8,9=>some 0
 | _,_=>none
def pl13:Nat->List PStep
 | 4=>[.q 0,.q 1,.q 3,.q 4,.q 6,.q 7,.q 9,.q 10,.q 12,.q 13,.q 15,.q 16,.q 18,.q 19,.q 20,.q 22,.q 23,.q 24,.q 26,.q 27,.q 28,.q 30,.q 31,.q 32,.q 34,.q 35,.s 2 [35,34,32,31,30,28,27,26,24,23,22,20,19,18,16,15,13,12,10,9,7,6,4,3,0],.s 5 [35,34,32,31,30,28,27,26,24,23,22,20,19,18,16,15,13,12,10,9,7,6,3,1,0],.s 8 [35,34,32,31,30,28,27,26,24,23,22,20,19,18,16,15,13,12,10,9,6,4,3,1,0],.s 11 [35,34,32,31,30,28,27,26,24,23,22,20,19,18,16,15,13,12,9,7,6,4,3,1,0],.s 14 [35,34,32,31,30,28,27,26,24,23,22,20,19,18,16,15,12,10,9,7,6,4,3,1,0],.s 17 [35,34,32,31,30,28,27,26,24,23,22,20,19,18,15,13,12,10,9,7,6,4,3,1,0],.s 21 [35,34,32,31,30,28,27,26,24,23,22,19,18,16,15,13,12,10,9,7,6,4,3,1,0],.s 25 [35,34,32,31,30,28,27,26,23,22,20,19,18,16,15,13,12,10,9,7,6,4,3,1,0],.s 29 [35,34,32,31,30,27,26,24,23,22,20,19,18,16,15,13,12,10,9,7,6,4,3,1,0],.s 33 [35,34,31,30,28,27,26,24,23,22,20,19,18,16,15,13,12,10,9,7,6,4,3,1,0],.s 36 [34,32,31,30,28,27,26,24,23,22,20,19,18,16,15,13,12,10,9,7,6,4,3,1,0],.q 37,.q 38]
 | _=>[]
theorem cb13:Tryz.f13.body.map (codeB Tryz.prog Tryz.f13.ntmps tk13 pl13)=some true:=by kernel_rfl
theorem goes13:goesB Tryz.prog 13=true:=by kernel_rfl
theorem snd13 (x:Msg)(M:Mem)(hl:x.texts.length<2^60):SoundCall Tryz.prog 13 [encM x] M fun r M'=>r = .tup [str (if rightM x then bytM x else emp),bool (rightM x)]/\M.le M':=by
 have hml:(x.texts.map str).length=x.texts.length:=List.length_map _;have h53:top53=9007199254740991:=rfl;have h11:(itM11 x).length=11:=rfl;refine SoundCall.go tk13 pl13 mixed Tryz.func13 cb13 rfl (Nat.le_of_ble_eq_true rfl) ?_;refine Q0 ?_;refine o_box zbx rfl rfl (fun B1 hB1=>?_);refine Q26 ?_;refine Q34 ag26 sz26 ?_;refine o_call (((snd18 x _ hl).det)) goes18 (ac (v_agg rfl) ac_nil) rfl ?_;refine Q40 ?_;refine Q59 ?_;refine s_cond rfl (fun h1=>?_) (fun h1=>?_)
 ·have k1:=h1;try simp only [zs] at k1
  refine Q47 ?_;refine Q11 ?_;have hr:rightM x=false:=by simpa using h1
  exact ret_many (.inl rfl) rfl (rl_t rfl (rl_t rfl rl_nil)) rfl ⟨by rw [hr];rfl,Mem.le_upd (Mem.le_refl M) hB1⟩
 ·have k1:=h1;try simp only [zs] at k1
  have hr:rightM x=true:=by simpa using h1
  obtain⟨b1,b2,b3,b4,b5,b6,b7,b8,b9,b10,b11⟩:=rightM_le hr;refine Q76 ?_;refine s_draw rfl ?_;refine Q43 fo26_0 ag3 sz3 fo26_1 ag3 sz3 ?_;refine Q43 fo26_2 ag3 sz3 fo26_3 ag3 sz3 ?_;refine Q43 fo26_4 ag3 sz3 fo26_5 ag3 sz3 ?_;refine Q22 fo26_6 ?_;refine Q77 fo23_0 ag3 sz3 ?_;refine Q22 fo26_6 ?_;refine Q77 fo23_1 ag3 sz3 ?_;refine Q22 fo26_7 ?_;refine Q77 fo23_0 ag3 sz3 ?_;refine Q22 fo26_7 ?_;refine Q43 fo23_1 ag3 sz3 fo26_8 ag9 sz9 ?_;refine Q3 ?_;refine o_call (((snd43 x.kind (by omega) (by omega) _).det)) goes43 (ac (v_raw rfl) ac_nil) rfl ?_;refine o_nil ⟨(by simp [Mem.upd, *]),?_⟩;refine Q3 ?_;refine o_call (((snd43 x.frm (by omega) (by omega) _).det)) goes43 (ac (v_raw rfl) ac_nil) rfl ?_;refine o_nil ⟨(by simp [Mem.upd, *]),?_⟩;refine Q3 ?_;refine o_call (((snd44 x.life (by omega) (by omega) _).det)) goes44 (ac (v_raw rfl) ac_nil) rfl ?_;refine o_nil ⟨(by simp [Mem.upd, *]),?_⟩;refine Q3 ?_;refine o_call (((snd44 x.view (by omega) (by omega) _).det)) goes44 (ac (v_raw rfl) ac_nil) rfl ?_;refine o_nil ⟨(by simp [Mem.upd, *]),?_⟩;refine Q3 ?_;refine o_call (((snd44 x.n (by omega) (by omega) _).det)) goes44 (ac (v_raw rfl) ac_nil) rfl ?_;refine o_nil ⟨(by simp [Mem.upd, *]),?_⟩;refine Q3 ?_;refine o_call (((snd44 x.sure (by omega) (by omega) _).det)) goes44 (ac (v_raw rfl) ac_nil) rfl ?_;refine o_nil ⟨(by simp [Mem.upd, *]),?_⟩;refine Q3 ?_;refine o_call (((snd44 x.bal.round (by omega) (by omega) _).det)) goes44 (ac (v_raw rfl) ac_nil) rfl ?_;refine o_nil ⟨(by simp [Mem.upd, *]),?_⟩;refine Q3 ?_;refine o_call (((snd43 x.bal.node (by omega) (by omega) _).det)) goes43 (ac (v_raw rfl) ac_nil) rfl ?_;refine o_nil ⟨(by simp [Mem.upd, *]),?_⟩;refine Q3 ?_;refine o_call (((snd44 x.tak.round (by omega) (by omega) _).det)) goes44 (ac (v_raw rfl) ac_nil) rfl ?_;refine o_nil ⟨(by simp [Mem.upd, *]),?_⟩;refine Q3 ?_;refine o_call (((snd43 x.tak.node (by omega) (by omega) _).det)) goes43 (ac (v_raw rfl) ac_nil) rfl ?_;refine o_nil ⟨(by simp [Mem.upd, *]),?_⟩;refine Q3 ?_;refine o_call (((snd45 x.val _).det)) goes45 (ac (v_raw rfl) ac_nil) rfl ?_;refine o_nil ⟨(by simp [Mem.upd, *]),?_⟩;refine d_q rfl (q_bs slt103 (pc (v_agg rfl) (pc (v_agg rfl) (pc (v_agg rfl) (pc (v_agg rfl) (pc (v_agg rfl) (pc (v_agg rfl) (pc (v_agg rfl) (pc (v_agg rfl) (pc (v_agg rfl) (pc (v_agg rfl) (pc (v_agg rfl) pn))))))))))) rfl (Els.cons rfl rfl (Els.cons rfl rfl (Els.cons rfl rfl (Els.cons rfl rfl (Els.cons rfl rfl (Els.cons rfl rfl (Els.cons rfl rfl (Els.cons rfl rfl (Els.cons rfl rfl (Els.cons rfl rfl (Els.cons rfl rfl Els.nil))))))))))) (by decide)) rfl rfl rfl ?_;refine d_qs rfl (q_as_own rfl) rfl rfl rfl rfl ?_;refine Q153 ?_;refine Q130 ?_;refine s_loop (fun m S=>∃ T,∃ i:Nat,S=⟨setT (setT (setT T 1 (ptr B1)) 5 (.sl ((itM11 x++(x.texts.take i).map itT).map encIt) true)) 6 (int (i:Nat)),(M.upd B1 (.cells [int x.kind,int x.frm,int x.life,int x.view,int x.n,int x.sure,int x.bal.round,int x.bal.node,int x.tak.round,int x.tak.node,str x.val,.sl (x.texts.map str) false]))⟩/\i<=x.texts.length/\m=x.texts.length - i) x.texts.length ?_ ?_
  ·exact⟨_,0,St.mkT (kp (kp (kp rfl rfl) rfl) rfl).symm,Nat.zero_le _,rfl⟩
  rintro m S ⟨T,i,rfl,hi,rfl⟩;refine Q9 ?_;refine Q133 fo26_9 ag24 sz24 ?_;refine Q85 und24 ?_;refine Q84 ?_;refine s_cond rfl (fun h2=>?_) (fun h2=>?_)
  ·have k2:=h2;try simp only [zs] at k2
   have hi2:i<x.texts.length:=by omega
   refine Q78 ?_;refine Q19 ?_;refine Q94 ?_;refine Q133 fo26_9 ag24 sz24 ?_;refine Q2 ?_;refine Q73 und24 sz9 ?_;refine Q134 ag9 sz9 ?_;refine o_call (((snd45 x.texts[i] _).det)) goes45 (ac (v_raw rfl) ac_nil) rfl ?_;refine Q107 slt103 ?_;refine Q204 slt103 ?_;refine Q128 ?_;refine Q88 ?_;refine Q57 ?_;exact⟨x.texts.length - (i+1),by omega,_,i+1,St.mkT (kp (kp (kp rfl rfl) (congrArg (fun q=>AVal.sl q true) (itM_step hi2))) rfl).symm,by omega,rfl⟩
  ·have k2:=h2;try simp only [zs] at k2
   have htk:x.texts.take i=x.texts:=List.take_of_length_le (by omega);refine Q117 ?_;refine Q49 ?_;refine o_call (((snd46 (itM11 x++(x.texts.take i).map itT) false (itM_len x b10 i) (okItM hr) _).det)) goes46 (ac (v_sl rfl) ac_nil) rfl ?_;refine Q37 ?_;refine Q79 ?_;refine Q26 ?_;refine Q5 ?_;refine Q28 ?_;refine Q4 ?_;exact ret_many (.inl rfl) rfl (rl_t rfl (rl_t rfl rl_nil)) rfl ⟨by rw [hr,htk];rfl,Mem.le_upd (Mem.le_refl M) hB1⟩
end C17
