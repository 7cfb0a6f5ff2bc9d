import Derived.Test.YthmhdhmfkegpiaaGreatDoorHz
import Derived.Test.YthmhdhmfkegpiaaGreatDoorNn7
import Derived.Test.YthmhdhmfkegpiaaGreatDoorNn1
open Go Go.Proofs Go.Am
set_option linter.unusedVariables false
set_option linter.unusedSimpArgs false
set_option autoImplicit false
set_option maxHeartbeats 4000000
set_option maxRecDepth 20000
namespace C17
theorem bz108:(zeroT Tryz.prog 108).map (fun z=>z.cells.toList.map AVal.raw)=some [.raw (.int .i64 0),.raw (.int .i64 0),.raw (.int .i64 0),.raw (.int .i64 0)]:=by kernel_rfl
theorem bp108:(aPlaces Tryz.prog 108).isSome=true:=by kernel_rfl
theorem bz109:(zeroT Tryz.prog 109).map (fun z=>z.cells.toList.map AVal.raw)=some [.raw (.int .i64 0),.raw (.int .i64 0),.raw (.int .i64 0),.raw (.int .i64 0)]:=by kernel_rfl
theorem bp109:(aPlaces Tryz.prog 109).isSome=true:=by kernel_rfl
theorem slt24:SlT Tryz.prog 24 9 1 16:=⟨by kernel_rfl,by kernel_rfl,by kernel_rfl,by kernel_rfl,by decide⟩
theorem und108:Tryz.prog.underlying 108=some (.array 4 3):=by kernel_rfl
theorem und109:Tryz.prog.underlying 109=some (.array 2 23):=by kernel_rfl
theorem zc23:zeroCellsT Tryz.prog 23=some [.raw (.int .i64 0),.raw (.int .i64 0)]:=by kernel_rfl
theorem zc103:zeroCellsT Tryz.prog 103=some [.sl [] true]:=by kernel_rfl
def tk12:Nat->Nat->Option Nat
 | 21,0=>some 0
 | _,_=>none
def pl12:Nat->List PStep:=fun _=>[]
theorem cb12:Tryz.f12.body.map (codeB Tryz.prog Tryz.f12.ntmps tk12 pl12)=some true:=by kernel_rfl
theorem goes12:goesB Tryz.prog 12=true:=by kernel_rfl
def n4 (x:Msg)(i:Nat):Int:=[x.life,x.view,x.n,x.sure].getD i 0
def b2 (x:Msg)(i:Nat):Bal:=if i=0 then x.bal else x.tak
theorem elsStr {l:List ByteArray}:Els 1 (l.map str):=Els.map fun _=>⟨rfl,rfl⟩
theorem pc4 (x:Msg){i:Nat}(h:i<4):piece false [int x.life,int x.view,int x.n,int x.sure] ((i:Int).toNat*1) 1=some (int (n4 x i)):=by
 match i,h with
 | 0,_=>rfl
 | 1,_=>rfl
 | 2,_=>rfl
 | 3,_=>rfl
theorem pc2 (x:Msg){i:Nat}(h:i<2):piece true [int x.bal.round,int x.bal.node,int x.tak.round,int x.tak.node] ((i:Int).toNat*2) 2=some (.agg [int (b2 x i).round,int (b2 x i).node]):=by
 match i,h with
 | 0,_=>rfl
 | 1,_=>rfl
def l1 (x:Msg)(i:Nat):List Itm:=[Itm.mk 1 x.kind.toNat emp,Itm.mk 1 x.frm.toNat emp]++(List.range i).map fun j=>Itm.mk 3 (n4 x j).toNat emp
def l2 (x:Msg)(i:Nat):List Itm:=l1 x 4++(List.range i).flatMap fun j=>[Itm.mk 3 (b2 x j).round.toNat emp,Itm.mk 1 (b2 x j).node.toNat emp]
def l3 (x:Msg)(i:Nat):List Itm:=l2 x 2++((x.val::x.texts).take i).map itT
theorem l1_succ (x:Msg)(i:Nat):l1 x i++[Itm.mk 3 (n4 x i).toNat emp]=l1 x (i+1):=by unfold l1;rw [List.range_succ,List.map_append,List.append_assoc];rfl
theorem l2_succ (x:Msg)(i:Nat):(l2 x i++[Itm.mk 3 (b2 x i).round.toNat emp])++[Itm.mk 1 (b2 x i).node.toNat emp]=l2 x (i+1):=by unfold l2;rw [List.range_succ,List.flatMap_append,List.append_assoc,List.append_assoc];rfl
theorem l3_succ (x:Msg){i:Nat}(h:i<(x.val::x.texts).length):l3 x i++[itT (x.val::x.texts)[i]]=l3 x (i+1):=by unfold l3;rw [List.take_succ_eq_append_getElem h,List.map_append,List.append_assoc];rfl
theorem l3_all (x:Msg){i:Nat}(h:(x.val::x.texts).length<=i):l3 x i=itemsM x:=by unfold l3;rw [List.take_of_length_le h];rfl
theorem l1_len (x:Msg)(i:Nat):(l1 x i).length=i+2:=by unfold l1;simp
theorem l2_len (x:Msg)(i:Nat):(l2 x i).length=6+2*i:=by
 induction i with
 | zero=>rfl
 | succ i ih=>rw [← l2_succ,List.length_append,List.length_append,ih];simp;omega
theorem l3_len (x:Msg)(i:Nat):(l3 x i).length<=10+i:=by unfold l3;rw [List.length_append,l2_len,List.length_map,List.length_take];omega
theorem n4_le {x:Msg}(h:rightM x=true)(i:Nat):0<=n4 x i/\n4 x i<2^63:=by
 obtain⟨b1,b2,b3,b4,b5,b6,b7,b8,b9,b10,b11⟩:=rightM_le h;have h53:top53=9007199254740991:=rfl
 match i with
 | 0=>show 0<=x.life/\x.life<_;omega
 | 1=>show 0<=x.view/\x.view<_;omega
 | 2=>show 0<=x.n/\x.n<_;omega
 | 3=>show 0<=x.sure/\x.sure<_;omega
 | i+4=>show 0<=(0:Int)/\(0:Int)<2^63;decide
theorem b2_le {x:Msg}(h:rightM x=true)(i:Nat):(0<=(b2 x i).round/\(b2 x i).round<2^63)/\0<=(b2 x i).node/\(b2 x i).node<2^63:=by
 obtain⟨b1,b2,b3,b4,b5,b6,b7,b8,b9,b10,b11⟩:=rightM_le h;have h53:top53=9007199254740991:=rfl;unfold C17.b2;split<;>omega
theorem snd12 (x:Msg)(ge:TypeId)(gf:Nat×Nat)(M:Mem)(hG:M 0=some (szO ge gf))(hl:x.texts.length<2^60):SoundCall Tryz.prog 12 [encM x] M fun r M'=>r = .tup [str (if rightM x then bytM x else emp),int (if rightM x then 0 else 1)]/\M.le M':=by
 have hml:(x.texts.map str).length=x.texts.length:=List.length_map _;have h53:top53=9007199254740991:=rfl;have hle:=Mem.le_refl M;refine SoundCall.go tk12 pl12 mixed Tryz.func12 cb12 rfl (Nat.le_of_ble_eq_true rfl) ?_;refine Q0 ?_;refine o_box zbx rfl rfl (fun B1 hB1=>?_);refine Q26 ?_;refine Q31 ?_;refine Q45 ag26 sz26 ?_;refine o_call (((snd17 x _ hl).det)) goes17 (ac (v_agg rfl) ac_nil) rfl ?_;refine Q59 ?_;refine s_cond rfl (fun h1=>?_) (fun h1=>?_)
 ·have k1:=h1;try simp only [zs] at k1
  refine Q47 ?_;refine Q11 ?_;have hr:rightM x=false:=by simpa using h1
  exact ret_many (.inl rfl) rfl (rl_t rfl (rl_t rfl rl_nil)) rfl ⟨by rw [hr];rfl,Mem.le_upd (Mem.le_refl M) hB1⟩
 ·have k1:=h1;try simp only [zs] at k1
  have hr:rightM x=true:=by simpa using h1
  obtain⟨b1,b2',b3,b4,b5,b6,b7,b8,b9,b10,b11⟩:=rightM_le hr;refine Q92 ?_;refine o_alloc zc103 (fun B2 hB2=>?_);have n2:M B2=none:=(Mem.upd_none hB2).2;have f21:B2≠B1:=(Mem.upd_none hB2).1;have f12:B1≠B2:=f21.symm;refine Q1 ?_;refine Q0 ?_;refine o_q (q_mkf1 rfl) rfl rfl rfl ?_;refine Q51 ?_;refine Q12 fo26_0 ag3 sz3 ?_;refine o_callv rfl (snd41 1 x.kind B2 [] _ (by omega) (by omega) (by decide) mmQ) goes41 (ac (v_raw rfl) (ac (v_raw rfl) ac_nil)) rfl rfl ?_;rintro r M1 ⟨rfl,rfl⟩;refine Q1 ?_;refine Q5 ?_;refine Q12 fo26_1 ag3 sz3 ?_;refine o_callv rfl (snd41 1 x.frm B2 [Itm.mk 1 x.kind.toNat emp] _ (by omega) (by omega) (Nat.le_of_ble_eq_true rfl) mmQ) goes41 (ac (v_raw rfl) (ac (v_raw rfl) ac_nil)) rfl rfl ?_;rintro r M1 ⟨rfl,rfl⟩;refine Q48 ?_;refine Q12 fo26_2 ag3 sz3 ?_;refine Q12 fo26_3 ag3 sz3 ?_;refine Q12 fo26_4 ag3 sz3 ?_;refine Q12 fo26_5 ag3 sz3 ?_;refine o_q (q_b (cs:=[_,_,_,_]) bz108 bp108 (bfa und108 sz3 (e_raw rfl) rfl rfl (Nat.le_of_ble_eq_true rfl) rfl (bfa und108 sz3 (e_raw rfl) rfl rfl (Nat.le_of_ble_eq_true rfl) rfl (bfa und108 sz3 (e_raw rfl) rfl rfl (Nat.le_of_ble_eq_true rfl) rfl (bfa und108 sz3 (e_raw rfl) rfl rfl (Nat.le_of_ble_eq_true rfl) rfl bf_nil))))) rfl rfl rfl ?_;refine Q52 ?_;refine s_loop (fun m S=>∃ T,∃ Mc:Mem,∃ i:Nat,S=⟨setT (setT (setT (setT (setT T 1 (ptr B1)) 4 (ptr B2)) 5 (.raw (.func (.func 41) #[] #[ptrV B2]))) 32 (.agg [int x.life,int x.view,int x.n,int x.sure])) 33 (int (i:Nat)),Mc⟩/\Mc B1=some (.cells [int x.kind,int x.frm,int x.life,int x.view,int x.n,int x.sure,int x.bal.round,int x.bal.node,int x.tak.round,int x.tak.node,str x.val,.sl (x.texts.map str) false])/\Mc B2=some (.cells [.sl ((l1 x i).map encIt) true])/\M.le Mc/\i<=4/\m=4 - i) 4 ?_ ?_
  ·exact⟨_,_,0,St.mkT (kp (kp (kp (kp (kp rfl rfl) rfl) rfl) rfl) rfl).symm,mmQ,mmQ,(by repeat first|exact hle|exact Mem.le_refl _|assumption|exact Mem.none_of_le hle (by assumption)|exact n2|refine Mem.le_upd ?_ ?_),Nat.zero_le _,rfl⟩
  rintro m S ⟨T,Mc,i,rfl,hm1,hm2,hle,hi,rfl⟩;refine Q50 ?_;refine s_cond rfl (fun h2=>?_) (fun h2=>?_)
  ·have k2:=h2;try simp only [zs] at k2
   have hi2:i<4:=by omega
   have hn4:=n4_le hr i;have hln:=l1_len x i;refine Q86 ?_;refine o_q (q_ix und108 sz3 ag3 rfl rfl (by omega) (by omega) (pc4 x hi2) (v_raw rfl)) rfl rfl rfl ?_;refine Q7 ?_;refine Q19 ?_;refine Q64 ?_;refine o_callv rfl (snd41 3 (n4 x i) B2 (l1 x i) _ hn4.1 hn4.2 (by omega) mmQ) goes41 (ac (v_raw rfl) (ac (v_raw rfl) ac_nil)) rfl rfl ?_;rintro r M1 ⟨rfl,rfl⟩;refine Q1 ?_;refine Q36 ?_;exact⟨4 - (i+1),by omega,_,_,i+1,St.mkT (kp (kp (kp (kp (kp rfl rfl) rfl) rfl) rfl) rfl).symm,mmQ,(by rw [← l1_succ];exact Mem.upd_self _ _ _),(by repeat first|exact hle|exact Mem.le_refl _|assumption|exact Mem.none_of_le hle (by assumption)|exact n2|refine Mem.le_upd ?_ ?_),by omega,rfl⟩
  ·have k2:=h2;try simp only [zs] at k2
   obtain rfl:i=4:=by omega
   refine Q35 ?_;refine Q31 ?_;refine Q29 fo26_6 ?_;refine Q87 ag23 sz23 ?_;refine Q29 fo26_7 ?_;refine Q87 ag23 sz23 ?_;refine o_q (q_b (cs:=[_,_,_,_]) bz109 bp109 (bfa und109 sz23 (e_agg rfl) rfl rfl (Nat.le_of_ble_eq_true rfl) rfl (bfa und109 sz23 (e_agg rfl) rfl rfl (Nat.le_of_ble_eq_true rfl) rfl bf_nil))) rfl rfl rfl ?_;refine Q52 ?_;refine s_loop (fun m S=>∃ T,∃ Mc:Mem,∃ i:Nat,S=⟨setT (setT (setT (setT (setT T 1 (ptr B1)) 4 (ptr B2)) 5 (.raw (.func (.func 41) #[] #[ptrV B2]))) 44 (.agg [int x.bal.round,int x.bal.node,int x.tak.round,int x.tak.node])) 45 (int (i:Nat)),Mc⟩/\Mc B1=some (.cells [int x.kind,int x.frm,int x.life,int x.view,int x.n,int x.sure,int x.bal.round,int x.bal.node,int x.tak.round,int x.tak.node,str x.val,.sl (x.texts.map str) false])/\Mc B2=some (.cells [.sl ((l2 x i).map encIt) true])/\M.le Mc/\i<=2/\m=2 - i) 2 ?_ ?_
   ·exact⟨_,_,0,St.mkT (kp (kp (kp (kp (kp rfl rfl) rfl) rfl) rfl) rfl).symm,mmQ,mmQ,(by repeat first|exact hle|exact Mem.le_refl _|assumption|exact Mem.none_of_le hle (by assumption)|exact n2|refine Mem.le_upd ?_ ?_),Nat.zero_le _,rfl⟩
   rintro m S ⟨T,Mc,i,rfl,hm1,hm2,hle,hi,rfl⟩;refine Q50 ?_;refine s_cond rfl (fun h3=>?_) (fun h3=>?_)
   ·have k3:=h3;try simp only [zs] at k3
    have hi2:i<2:=by omega
    have hn2:=b2_le hr i;have hln:=l2_len x i;refine Q86 ?_;refine o_q (q_ix und109 sz23 ag23 rfl rfl (by omega) (by omega) (pc2 x hi2) (v_agg rfl)) rfl rfl rfl ?_;refine o_alloc zc23 (fun B3 hB3=>?_);have f13:B1≠B3:=Mem.fresh_ne hB3 hm1;have f23:B2≠B3:=Mem.fresh_ne hB3 hm2;have f31:=f13.symm;have f32:=f23.symm;refine Q118 sz23 ?_;refine Q5 ?_;refine Q12 fo23_0 ag3 sz3 ?_;refine o_callv rfl (snd41 3 (b2 x i).round B2 (l2 x i) _ hn2.1.1 hn2.1.2 (by omega) mmQ) goes41 (ac (v_raw rfl) (ac (v_raw rfl) ac_nil)) rfl rfl ?_;rintro r M1 ⟨rfl,rfl⟩;refine Q1 ?_;refine Q144 ?_;refine Q12 fo23_1 ag3 sz3 ?_;refine o_callv rfl (snd41 1 (b2 x i).node B2 (l2 x i++[Itm.mk 3 (b2 x i).round.toNat emp]) _ hn2.2.1 hn2.2.2 (by rw [List.length_append];simp;omega) mmQ) goes41 (ac (v_raw rfl) (ac (v_raw rfl) ac_nil)) rfl rfl ?_;rintro r M1 ⟨rfl,rfl⟩;refine Q1 ?_;refine Q36 ?_;exact⟨2 - (i+1),by omega,_,_,i+1,St.mkT (kp (kp (kp (kp (kp rfl rfl) rfl) rfl) rfl) rfl).symm,mmQ,(by rw [← l2_succ];exact Mem.upd_self _ _ _),(by repeat first|exact hle|exact Mem.le_refl _|assumption|exact Mem.none_of_le hle (by assumption)|exact n2|refine Mem.le_upd ?_ ?_),by omega,rfl⟩
   ·have k3:=h3;try simp only [zs] at k3
    obtain rfl:i=2:=by omega
    refine Q35 ?_;refine Q31 ?_;refine Q12 fo26_8 ag9 sz9 ?_;refine Q165 slt24 ?_;refine Q133 fo26_9 ag24 sz24 ?_;refine Q273 slt24 ?_;refine Q85 und24 ?_;refine Q52 ?_;refine s_loop (fun m S=>∃ T,∃ Mc:Mem,∃ i:Nat,S=⟨setT (setT (setT (setT (setT (setT T 1 (ptr B1)) 4 (ptr B2)) 5 (.raw (.func (.func 41) #[] #[ptrV B2]))) 62 (.sl ((x.val::x.texts).map str) true)) 63 (int (((x.val::x.texts).map str).length:Nat))) 64 (int (i:Nat)),Mc⟩/\Mc B1=some (.cells [int x.kind,int x.frm,int x.life,int x.view,int x.n,int x.sure,int x.bal.round,int x.bal.node,int x.tak.round,int x.tak.node,str x.val,.sl (x.texts.map str) false])/\Mc B2=some (.cells [.sl ((l3 x i).map encIt) true])/\M.le Mc/\i<=(x.val::x.texts).length/\m=(x.val::x.texts).length - i) (x.val::x.texts).length ?_ ?_
    ·exact⟨_,_,0,St.mkT (kp (kp (kp (kp (kp (kp rfl rfl) rfl) rfl) rfl) rfl) rfl).symm,mmQ,mmQ,(by repeat first|exact hle|exact Mem.le_refl _|assumption|exact Mem.none_of_le hle (by assumption)|exact n2|refine Mem.le_upd ?_ ?_),Nat.zero_le _,rfl⟩
    rintro m S ⟨T,Mc,i,rfl,hm1,hm2,hle,hi,rfl⟩;refine Q50 ?_;refine s_cond rfl (fun h4=>?_) (fun h4=>?_)
    ·have k4:=h4;try simp only [zs] at k4
     have hi2:i<(x.val::x.texts).length:=by simp at h4 ⊢;omega
     have hvl:(x.val::x.texts).length=x.texts.length+1:=rfl;have hl3:=l3_len x i;refine Q86 ?_;refine Q73 und24 sz9 ?_;refine Q134 ag9 sz9 ?_;refine Q7 ?_;refine Q19 ?_;refine Q137 ag103 sz103 ?_;refine Q2 ?_;refine Q194 bz106 bp106 fo106_0 fo106_2 ?_;refine Q107 slt103 ?_;refine Q204 slt103 ?_;refine Q112 sz103 ?_;refine Q1 ?_;refine Q36 ?_;exact⟨(x.val::x.texts).length - (i+1),by omega,_,_,i+1,St.mkT (kp (kp (kp (kp (kp (kp rfl rfl) rfl) rfl) rfl) rfl) rfl).symm,mmQ,(by rw [← l3_succ x hi2,← itM_add];exact Mem.upd_self _ _ _),(by repeat first|exact hle|exact Mem.le_refl _|assumption|exact Mem.none_of_le hle (by assumption)|exact n2|refine Mem.le_upd ?_ ?_),by omega,rfl⟩
    ·have k4:=h4;try simp only [zs] at k4
     have hall:=l3_all x (i:=i) (by simp at h4 ⊢;omega);refine Q117 ?_;refine Q139 ag103 sz103 ?_;refine o_call (((snd42 (l3 x i) false ge gf _ (hle 0 _ hG) (by rw [hall];have:=itM_len x b10 x.texts.length;rw [List.take_length] at this;exact this) (by rw [hall];have:=okItM hr (i:=x.texts.length);rw [List.take_length] at this;exact this)).det)) goes42 (ac (v_sl rfl) ac_nil) rfl ?_;refine Q79 ?_;refine Q28 ?_;refine Q4 ?_;exact ret_many (.inl rfl) rfl (rl_t rfl (rl_t rfl rl_nil)) rfl ⟨by rw [hr,hall];rfl,(by repeat first|exact hle|exact Mem.le_refl _|assumption|exact Mem.none_of_le hle (by assumption)|exact n2|refine Mem.le_upd ?_ ?_)⟩
end C17
