import Derived.Test.YthmhdhmfkegpiaaGreatDoorHz
import Derived.Test.YthmhdhmfkegpiaaGreatDoorNa1
import Derived.Test.YthmhdhmfkegpiaaGreatDoorProg
open Go Go.Proofs Go.Am
set_option linter.unusedVariables false
set_option autoImplicit false
set_option maxHeartbeats 4000000
set_option maxRecDepth 20000
set_option linter.unusedSimpArgs false
namespace C17
theorem ag4:aggT Tryz.prog 4=some false:=by kernel_rfl
theorem ag5:aggT Tryz.prog 5=some false:=by kernel_rfl
theorem ag28:aggT Tryz.prog 28=some false:=by kernel_rfl
theorem ag58:aggT Tryz.prog 58=some true:=by kernel_rfl
theorem ag104:aggT Tryz.prog 104=some false:=by kernel_rfl
theorem ag106:aggT Tryz.prog 106=some true:=by kernel_rfl
theorem ag75:aggT Tryz.prog 75=some false:=by kernel_rfl
theorem ag310:aggT Tryz.prog 310=some true:=by kernel_rfl
theorem b2s178_9:b2s Tryz.prog 178 9=true:=by kernel_rfl
theorem by5:bytesT Tryz.prog 5=some 1:=by kernel_rfl
theorem bz58:(zeroT Tryz.prog 58).map (fun z=>z.cells.toList.map AVal.raw)=some [.raw (.int .i64 0),.raw (.string { data:=#[] }),.raw (.string { data:=#[] }),.raw (.int .i64 0),.raw (.string { data:=#[] }),.raw (.string { data:=#[] }),.raw (.int .i64 0),.raw (.int .i64 0),.raw (.int .i64 0)]:=by kernel_rfl
theorem bp58:(aPlaces Tryz.prog 58).isSome=true:=by kernel_rfl
theorem bz106:(zeroT Tryz.prog 106).map (fun z=>z.cells.toList.map AVal.raw)=some [.raw (.int .i64 0),.raw (.int .u64 0),.raw (.string { data:=#[] })]:=by kernel_rfl
theorem bp106:(aPlaces Tryz.prog 106).isSome=true:=by kernel_rfl
theorem bz185:(zeroT Tryz.prog 185).map (fun z=>z.cells.toList.map AVal.raw)=some [.raw (.string { data:=#[] }),.raw (.int .i64 0)]:=by kernel_rfl
theorem bp185:(aPlaces Tryz.prog 185).isSome=true:=by kernel_rfl
theorem bz310:(zeroT Tryz.prog 310).map (fun z=>z.cells.toList.map AVal.raw)=some [.raw (.bool false),.raw (.bool false),.raw (.bool false),.raw .nilFunc]:=by kernel_rfl
theorem bp310:(aPlaces Tryz.prog 310).isSome=true:=by kernel_rfl
theorem fo58_0:fo Tryz.prog 58 0=some (0,1):=by kernel_rfl
theorem fo58_1:fo Tryz.prog 58 1=some (1,1):=by kernel_rfl
theorem fo58_2:fo Tryz.prog 58 2=some (2,1):=by kernel_rfl
theorem fo58_3:fo Tryz.prog 58 3=some (3,1):=by kernel_rfl
theorem fo58_4:fo Tryz.prog 58 4=some (4,1):=by kernel_rfl
theorem fo58_5:fo Tryz.prog 58 5=some (5,1):=by kernel_rfl
theorem fo58_6:fo Tryz.prog 58 6=some (6,1):=by kernel_rfl
theorem fo58_7:fo Tryz.prog 58 7=some (7,1):=by kernel_rfl
theorem fo58_8:fo Tryz.prog 58 8=some (8,1):=by kernel_rfl
theorem fo106_0:fo Tryz.prog 106 0=some (0,1):=by kernel_rfl
theorem fo106_1:fo Tryz.prog 106 1=some (1,1):=by kernel_rfl
theorem fo106_2:fo Tryz.prog 106 2=some (2,1):=by kernel_rfl
theorem fo185_0:fo Tryz.prog 185 0=some (0,1):=by kernel_rfl
theorem fo185_1:fo Tryz.prog 185 1=some (1,1):=by kernel_rfl
theorem fo310_0:fo Tryz.prog 310 0=some (0,1):=by kernel_rfl
theorem fo310_1:fo Tryz.prog 310 1=some (1,1):=by kernel_rfl
theorem fo310_2:fo Tryz.prog 310 2=some (2,1):=by kernel_rfl
theorem fo310_3:fo Tryz.prog 310 3=some (3,1):=by kernel_rfl
theorem s2b9_178:s2b Tryz.prog 9 178=true:=by kernel_rfl
theorem slt103:SlT Tryz.prog 103 106 3 32:=⟨by kernel_rfl,by kernel_rfl,by kernel_rfl,by kernel_rfl,by decide⟩
theorem sz4:sizeT Tryz.prog 4=some 1:=by kernel_rfl
theorem sz5:sizeT Tryz.prog 5=some 1:=by kernel_rfl
theorem sz28:sizeT Tryz.prog 28=some 1:=by kernel_rfl
theorem sz58:sizeT Tryz.prog 58=some 9:=by kernel_rfl
theorem sz104:sizeT Tryz.prog 104=some 1:=by kernel_rfl
theorem sz106:sizeT Tryz.prog 106=some 3:=by kernel_rfl
theorem sz75:sizeT Tryz.prog 75=some 1:=by kernel_rfl
theorem sz185:sizeT Tryz.prog 185=some 2:=by kernel_rfl
theorem sz310:sizeT Tryz.prog 310=some 4:=by kernel_rfl
theorem und5:Tryz.prog.underlying 5=some (.int .u8):=by kernel_rfl
theorem und104:Tryz.prog.underlying 104=some (.int .u64):=by kernel_rfl
theorem und103:Tryz.prog.underlying 103=some (.slice 106):=by kernel_rfl
theorem und178:Tryz.prog.underlying 178=some (.slice 5):=by kernel_rfl
theorem und180:Tryz.prog.underlying 180=some (.array 5 3):=by kernel_rfl
theorem zc5:zeroCellsT Tryz.prog 5=some [.raw (.int .u8 0)]:=by kernel_rfl
theorem zc58:zeroCellsT Tryz.prog 58=some [.raw (.int .i64 0),.raw (.string { data:=#[] }),.raw (.string { data:=#[] }),.raw (.int .i64 0),.raw (.string { data:=#[] }),.raw (.string { data:=#[] }),.raw (.int .i64 0),.raw (.int .i64 0),.raw (.int .i64 0)]:=by kernel_rfl
theorem zc106:zeroCellsT Tryz.prog 106=some [.raw (.int .i64 0),.raw (.int .u64 0),.raw (.string { data:=#[] })]:=by kernel_rfl
theorem zc185:zeroCellsT Tryz.prog 185=some [.raw (.string { data:=#[] }),.raw (.int .i64 0)]:=by kernel_rfl
theorem zc310:zeroCellsT Tryz.prog 310=some [.raw (.bool false),.raw (.bool false),.raw (.bool false),.raw .nilFunc]:=by kernel_rfl
def tk170:Nat->Nat->Option Nat:=fun _ _=>none
def pl170:Nat->List PStep:=fun _=>[]
theorem cb170:Tryz.f170.body.map (codeB Tryz.prog Tryz.f170.ntmps tk170 pl170)=some true:=by kernel_rfl
theorem goes170:goesB Tryz.prog 170=true:=by kernel_rfl
def letters:ByteArray:=⟨#[98,119,108,116]⟩
abbrev star:ByteArray:=⟨#[42]⟩
def beN (l:List UInt8):Nat:=l.foldl (fun n c=>n*256+c.toNat) 0
theorem beN_snoc (l:List UInt8)(c:UInt8):beN (l++[c])=beN l*256+c.toNat:=by simp [beN,List.foldl_append]
theorem beN_lt' (l:List UInt8):∀ n,l.foldl (fun n c=>n*256+c.toNat) n+1<=(n+1)*256^l.length:=by
 induction l with
 | nil=>intro n;simp
 | cons c l ih =>
  intro n;have h1:=ih (n*256+c.toNat);have h2:=c.toNat_lt;have h3:(n*256+c.toNat+1)*256^l.length<=((n+1)*256)*256^l.length:=Nat.mul_le_mul_right _ (by omega);rw [List.foldl_cons,List.length_cons,Nat.pow_succ,Nat.mul_comm (256^l.length) 256,← Nat.mul_assoc];exact Nat.le_trans h1 h3
theorem beN_lt (l:List UInt8):beN l<256^l.length:=by
 have:=beN_lt' l 0;rw [Nat.zero_add,Nat.one_mul] at this;exact this
theorem snd170 (s:ByteArray)(c:UInt8)(M:Mem):SoundCall Tryz.prog 170 [str s,.raw (.int .u8 c.toNat)] M fun r M'=>r=int (idxB s c)/\M'=M:=by
 refine SoundCall.go tk170 pl170 mixed Tryz.func170 cb170 rfl (Nat.le_of_ble_eq_true rfl) ?_;refine Q15 ?_;refine Q5 ?_;refine Q2 ?_;refine x_indexByte Tryz.func233 (by kernel_rfl) rfl (by kernel_rfl) (by kernel_rfl) rfl rfl ?_;refine Q4 ?_;exact⟨rfl,rfl⟩
def tk107:Nat->Nat->Option Nat:=fun _ _=>none
def pl107:Nat->List PStep:=fun _=>[]
theorem cb107:Tryz.f107.body.map (codeB Tryz.prog Tryz.f107.ntmps tk107 pl107)=some true:=by kernel_rfl
theorem goes107:goesB Tryz.prog 107=true:=by kernel_rfl
theorem snd107 (s:ByteArray)(c:UInt8)(M:Mem):SoundCall Tryz.prog 107 [str s,.raw (.int .u8 c.toNat)] M fun r M'=>r=int (idxB s c)/\M'=M:=by
 refine SoundCall.go tk107 pl107 mixed Tryz.func107 cb107 rfl (Nat.le_of_ble_eq_true rfl) ?_;refine Q15 ?_;refine Q5 ?_;refine Q2 ?_;refine o_call ((snd170 s c M)) goes170 (ac (v_raw rfl) (ac (v_raw rfl) ac_nil)) rfl ?_;refine Q4 ?_;exact⟨rfl,rfl⟩
def tk284:Nat->Nat->Option Nat:=fun _ _=>none
def pl284:Nat->List PStep:=fun _=>[]
theorem cb284:Tryz.f284.body.map (codeB Tryz.prog Tryz.f284.ntmps tk284 pl284)=some true:=by kernel_rfl
theorem goes284:goesB Tryz.prog 284=true:=by kernel_rfl
theorem snd284 (s:ByteArray)(M:Mem):SoundCall Tryz.prog 284 [str s,str star] M fun r M'=>r=int (idxB s 42)/\M'=M:=by
 refine SoundCall.go tk284 pl284 mixed Tryz.func284 cb284 rfl (Nat.le_of_ble_eq_true rfl) ?_;refine Q15 ?_;refine Q5 ?_;refine Q61 und9 ?_;refine Q7 ?_;refine Q150 ?_;refine Q5 ?_;refine Q63 ?_;refine Q69 ?_;refine Q74 ?_;refine Q182 ?_;refine Q21 ?_;refine Q7 ?_;refine s_cond rfl (fun h1=>?_) (fun h1=>?_)
 ·have k1:=h1;try simp only [zs] at k1
  refine Q0 ?_;refine Q20 ?_;have e1:star=s:=by simpa using h1
  rw [← e1];exact⟨by kernel_rfl,rfl⟩
 ·have k1:=h1;try simp only [zs] at k1
  refine Q5 ?_;refine Q65 ?_;refine Q116 ?_;refine Q5 ?_;refine Q2 ?_;refine o_q (q_stri (n:=0) und9 rfl rfl rfl (by decide)) rfl rfl rfl ?_;refine o_call ((snd170 s 42 M)) goes170 (ac (v_raw rfl) (ac (v_raw rfl) ac_nil)) rfl ?_;refine Q20 ?_;exact⟨rfl,rfl⟩
def tk109:Nat->Nat->Option Nat:=fun _ _=>none
def pl109:Nat->List PStep:=fun _=>[]
theorem cb109:Tryz.f109.body.map (codeB Tryz.prog Tryz.f109.ntmps tk109 pl109)=some true:=by kernel_rfl
theorem goes109:goesB Tryz.prog 109=true:=by kernel_rfl
theorem leB {M M':Mem}{b:Nat}{o:AObj}(h:∀ c q,c≠b->M c=some q->M' c=some q)(hb:M' b=some o):(M.upd b o).le M':=fun c q hc=>by
 unfold Mem.upd at hc;by_cases e:c=b
 ·rw [if_pos e] at hc;cases hc;rw [e];exact hb
 ·rw [if_neg e] at hc;exact h c q e hc
theorem ext0_size {s:ByteArray}{n:Nat}(h:n<=s.size):(s.extract 0 n).size=n:=by simp;omega
theorem beN_succ {s:ByteArray}{i:Nat}(hi:i<s.size):beN (s.data.toList.take (i+1))=beN (s.data.toList.take i)*256+(s.data[i]'hi).toNat:=by
 have hl:i<s.data.toList.length:=by rw [Array.length_toList];exact hi
 rw [List.take_succ_eq_append_getElem hl,beN_snoc];rw [Array.getElem_toList]
theorem beN_shl {l:List UInt8}(h:l.length<8):beN l*2^8<2^64:=by
 have h1:=beN_lt l;have h2:256^l.length<=256^7:=Nat.pow_le_pow_right (by decide) (by omega);have h3:beN l<256^7:=Nat.lt_of_lt_of_le h1 h2;exact Nat.lt_of_lt_of_le (Nat.mul_lt_mul_of_pos_right h3 (by decide)) (by decide)
abbrev u64 (n:Nat):AVal:=.raw (.int .u64 (n:Int))
abbrev rdC (s:ByteArray)(e:Int):AObj:=.cells [str s,int e]
def numF (size:Nat)(s:ByteArray)(e:Int):Nat×ByteArray×Int:=if s.size<size then (0,s,2) else (beN (s.data.toList.take size),s.extract size s.size,e)
theorem snd109 (b size:Nat)(s:ByteArray)(e:Int)(M:Mem)(hb:M b=some (rdC s e))(h8:size<=8):SoundCall Tryz.prog 109 [ptr b,int size] M fun r M'=>r=u64 (numF size s e).1/\(M.upd b (rdC (numF size s e).2.1 (numF size s e).2.2)).le M':=by
 refine SoundCall.go tk109 pl109 mixed Tryz.func109 cb109 rfl (Nat.le_of_ble_eq_true rfl) ?_;refine Q15 ?_;refine Q31 ?_;refine Q10 ?_;refine Q56 fo185_0 ag9 sz9 ?_;refine Q61 und9 ?_;refine Q2 ?_;refine Q84 ?_;refine s_cond rfl (fun h1=>?_) (fun h1=>?_)
 ·have k1:=h1;try simp only [zs] at k1
  refine Q95 fo185_1 ?_;refine Q62 sz28 ?_;refine Q0 ?_;refine Q11 ?_;have e1:numF size s e=(0,s,2):=by unfold numF;rw [if_pos (by omega)]
  rw [e1];exact⟨rfl,Mem.le_refl _⟩
 ·have k1:=h1;try simp only [zs] at k1
  have hle1:size<=s.size:=by omega
  have hsz:=ext0_size hle1;refine Q13 ?_;refine Q15 ?_;refine Q31 ?_;refine Q10 ?_;refine Q56 fo185_0 ag9 sz9 ?_;refine Q2 ?_;refine o_q (q_slstr und9 rfl rfl (by omega)) rfl rfl rfl ?_;refine o_s2b s2b9_178 rfl (fun B1 C1 hB1 hC1=>?_);have nb:b≠B1:=Mem.fresh_ne hB1 hb;have m1:M B1=none:=zm hB1;refine o_q (q_lenr rfl und178 rfl) rfl rfl rfl ?_;refine Q52 ?_;refine s_loop (fun m S=>∃ T,∃ M':Mem,∃ i:Nat,S=⟨setT (setT (setT (setT (setT (setT T 0 (ptr b)) 1 (int size)) 5 (u64 (beN (s.data.toList.take i)))) 24 (.raw (.slice (some ⟨B1,0,none⟩) (s.extract 0 size).size C1))) 25 (int (s.extract 0 size).size)) 26 (int i),M'⟩/\M.le M'/\(M' b=some (rdC s e)/\M' B1=some (.cells (u8l (s.extract 0 size)++List.replicate (C1 - (s.extract 0 size).size) (.raw (.int .u8 0)))))/\i<=size/\m=size - i) size ?_ ?_
  ·exact⟨_,_,0,St.mkT (kp (kp (kp (kp (kp (kp rfl rfl) rfl) rfl) rfl) rfl) rfl).symm,zle,⟨mmQ,mmQ⟩,by omega,rfl⟩
  rintro m S ⟨T,M',i,rfl,hle,⟨bm1,bm2⟩,hi,rfl⟩;refine Q50 ?_;refine s_cond rfl (fun h2=>?_) (fun h2=>?_)
  ·have k2:=h2;try simp only [zs] at k2
   have hi2:i<(s.extract 0 size).size:=by omega
   have hi3:i<s.size:=by omega
   have hc8:(s.data[i]'hi3).toNat<256:=UInt8.toNat_lt _;have hsh:beN (s.data.toList.take i)*2^8<2^64:=beN_shl (by rw [List.length_take];omega);refine Q86 ?_;refine Q224 und178 sz5 ?_;refine o_q (q_ldm ag5 sz5 rfl mmQ (by simpa [piece] using u8l_get (s:=(s.extract 0 size)) (j:=i) hi2) (v_raw rfl)) rfl rfl rfl ?_;refine Q7 ?_;refine Q144 ?_;refine o_q (q_shlu (n:=8) rfl rfl (by decide) hsh) rfl rfl rfl ?_;refine Q2 ?_;refine Q141 und5 und104 ?_;refine o_q (q_orb rfl rfl hsh hc8) rfl rfl rfl ?_;refine Q7 ?_;refine Q36 ?_;exact⟨size - (i+1),by omega,_,_,i+1,St.mkT (kp (kp (kp (kp (kp (kp rfl rfl) rfl) (show _=u64 (beN (s.data.toList.take (i+1))) by rw [beN_succ hi3];rfl)) rfl) rfl) rfl).symm,zle,⟨mmQ,mmQ⟩,by omega,rfl⟩
  ·have k2:=h2;try simp only [zs] at k2
   refine Q35 ?_;refine Q18 ?_;refine Q10 ?_;refine Q56 fo185_0 ag9 sz9 ?_;refine Q2 ?_;refine o_q (q_slslo und9 rfl rfl (by omega)) rfl rfl rfl ?_;refine Q25 fo185_0 ?_;refine Q62 sz9 ?_;refine Q5 ?_;refine Q4 ?_;obtain rfl:i=size:=by omega
   have e1:numF i s e=(beN (s.data.toList.take i),s.extract i s.size,e):=by unfold numF;rw [if_neg (by omega)]
   rw [e1];exact⟨rfl,leB (fun c q hc h=>by repeat first|exact h|exact hle c q h|refine Mem.upd_ne (by first|exact hc|exact Mem.ne_none h (by assumption)) ?_) mmQ⟩
def tk108:Nat->Nat->Option Nat:=fun _ _=>none
def pl108:Nat->List PStep:=fun _=>[]
theorem cb108:Tryz.f108.body.map (codeB Tryz.prog Tryz.f108.ntmps tk108 pl108)=some true:=by kernel_rfl
theorem goes108:goesB Tryz.prog 108=true:=by kernel_rfl
def textF (s:ByteArray)(e:Int):ByteArray×ByteArray×Int :=
 if (numF 4 s e).2.2≠0 then (emp,(numF 4 s e).2) else if 100000<(numF 4 s e).1 then (emp,(numF 4 s e).2.1,3) else if (numF 4 s e).2.1.size<(numF 4 s e).1 then (emp,(numF 4 s e).2.1,2)
 else ((numF 4 s e).2.1.extract 0 (numF 4 s e).1,(numF 4 s e).2.1.extract (numF 4 s e).1 (numF 4 s e).2.1.size,(numF 4 s e).2.2)
theorem numF_size (n:Nat)(s:ByteArray)(e:Int):(numF n s e).2.1.size<=s.size:=by
 unfold numF;split
 ·exact Nat.le_refl _
 ·simp
theorem textF_size (s:ByteArray)(e:Int):(textF s e).2.1.size<=s.size:=by
 have:=numF_size 4 s e;unfold textF;split
 ·exact this
 ·split
  ·exact this
  ·split
   ·exact this
   ·simp;omega
theorem Mem.upd2_le {M M':Mem}{b:Nat}{o o':AObj}(h:(M.upd b o).le M'):(M.upd b o').le (M'.upd b o'):=fun c q hc=>by
 unfold Mem.upd at hc ⊢;by_cases e:c=b
 ·rw [if_pos e] at hc ⊢;exact hc
 ·rw [if_neg e] at hc ⊢;exact h c q (by unfold Mem.upd;rw [if_neg e];exact hc)
theorem snd108 (b:Nat)(s:ByteArray)(e:Int)(M:Mem)(hb:M b=some (rdC s e))(hs:s.size<2^62):SoundCall Tryz.prog 108 [ptr b] M fun r M'=>r=str (textF s e).1/\(M.upd b (rdC (textF s e).2.1 (textF s e).2.2)).le M':=by
 have hns:=numF_size 4 s e;refine SoundCall.go tk108 pl108 mixed Tryz.func108 cb108 rfl (Nat.le_of_ble_eq_true rfl) ?_;refine Q15 ?_;refine Q18 ?_;refine o_callx ((snd109 b 4 s e M hb (by decide))) goes109 (ac (mvQ) (ac (v_raw rfl) ac_nil)) rfl ?_;rintro r M' ⟨rfl,hq⟩;have hb':M' b=some (rdC (numF 4 s e).2.1 (numF 4 s e).2.2):=hq b _ (Mem.upd_self _ _ _);refine Q7 ?_;refine Q150 ?_;refine Q18 ?_;refine Q56 fo185_1 ag28 sz28 ?_;refine Q108 ?_;refine Q7 ?_;refine s_cond rfl (fun h1=>?_) (fun h1=>?_)
 ·have k1:=h1;try simp only [zs] at k1
  refine Q0 ?_;refine Q20 ?_;have e1:textF s e=(emp,(numF 4 s e).2):=by unfold textF;rw [if_pos k1]
  rw [e1];exact⟨rfl,hq⟩
 ·have k1:=h1;try simp only [zs] at k1
  refine Q5 ?_;refine Q115 ?_;refine Q7 ?_;refine s_cond rfl (fun h2=>?_) (fun h2=>?_)
  ·have k2:=h2;try simp only [zs] at k2
   refine Q95 fo185_1 ?_;refine Q62 sz28 ?_;refine Q0 ?_;refine Q20 ?_;have e1:textF s e=(emp,(numF 4 s e).2.1,3):=by unfold textF;rw [if_neg (by simpa using k1),if_pos (by omega)]
   rw [e1];exact⟨rfl,Mem.upd2_le hq⟩
  ·have k2:=h2;try simp only [zs] at k2
   refine Q5 ?_;refine Q10 ?_;refine Q56 fo185_0 ag9 sz9 ?_;refine Q61 und9 ?_;refine Q141 und3 und104 ?_;refine Q115 ?_;refine Q7 ?_;refine s_cond rfl (fun h3=>?_) (fun h3=>?_)
   ·have k3:=h3;try simp only [zs] at k3
    refine Q95 fo185_1 ?_;refine Q62 sz28 ?_;refine Q0 ?_;refine Q20 ?_;have e1:textF s e=(emp,(numF 4 s e).2.1,2):=by unfold textF;rw [if_neg (by simpa using k1),if_neg (by omega),if_pos (by omega)]
    rw [e1];exact⟨rfl,Mem.upd2_le hq⟩
   ·have k3:=h3;try simp only [zs] at k3
    refine Q148 ?_;refine Q18 ?_;refine Q56 fo185_0 ag9 sz9 ?_;refine Q2 ?_;refine o_q (q_slstr und9 rfl rfl (by omega)) rfl rfl rfl ?_;refine Q7 ?_;refine Q18 ?_;refine Q10 ?_;refine Q56 fo185_0 ag9 sz9 ?_;refine Q2 ?_;refine o_q (q_slslo und9 rfl rfl (by omega)) rfl rfl rfl ?_;refine Q25 fo185_0 ?_;refine Q62 sz9 ?_;refine Q5 ?_;refine Q4 ?_;have e1:textF s e=((numF 4 s e).2.1.extract 0 (numF 4 s e).1,(numF 4 s e).2.1.extract (numF 4 s e).1 (numF 4 s e).2.1.size,(numF 4 s e).2.2):=by unfold textF;rw [if_neg (by simpa using k1),if_neg (by omega),if_neg (by omega)]
    rw [e1];exact⟨rfl,Mem.upd2_le hq⟩
def tk232:Nat->Nat->Option Nat:=fun _ _=>none
def pl232:Nat->List PStep
 | 3=>[.q 0,.q 1,.q 2,.q 3,.q 4,.q 5,.q 6,.q 7,.q 8,.q 9,.q 10,.q 11]
 | _=>[]
theorem cb232:Tryz.f232.body.map (codeB Tryz.prog Tryz.f232.ntmps tk232 pl232)=some true:=by kernel_rfl
theorem goes232:goesB Tryz.prog 232=true:=by kernel_rfl
theorem idxB_cases (s:ByteArray)(c:UInt8):(∃ n:Nat,idxB s c=n/\n<s.size)\/idxB s c = -1:=by
 unfold idxB;cases h:(List.range s.size).find? fun i=>s[i]! == c with
 | none=>exact .inr rfl
 | some i=>exact .inl ⟨i,rfl,List.mem_range.1 (List.mem_of_find?_eq_some h)⟩
def cutF (s:ByteArray):ByteArray×ByteArray×Bool:=if 0<=idxB s 42 then (s.extract 0 (idxB s 42).toNat,s.extract ((idxB s 42).toNat+1) s.size,true) else (s,emp,false)
theorem snd232a (s:ByteArray)(n:Nat)(hi:idxB s 42=n)(hlt:n<s.size)(hs:s.size<2^62)(M:Mem):SoundCall Tryz.prog 232 [str s,str star] M fun r M'=>r = .tup [str (cutF s).1,str (cutF s).2.1,bool (cutF s).2.2]/\M'=M:=by
 refine SoundCall.go tk232 pl232 mixed Tryz.func232 cb232 rfl (Nat.le_of_ble_eq_true rfl) ?_;refine Q47 ?_;refine Q26 ?_;refine Q9 ?_;refine Q2 ?_;refine o_call ((by have h:=snd284 s M;rw [hi] at h;exact h)) goes284 (ac (v_raw rfl) (ac (v_raw rfl) ac_nil)) rfl ?_;refine Q51 ?_;refine Q23 ?_;refine Q1 ?_;refine Q172 ?_;refine Q91 ?_;refine Q14 ?_;refine Q14 ?_;refine d_q rfl (q_slstr und9 rfl rfl (by omega)) rfl rfl rfl ?_;iterate 3 refine Q14 ?_
 refine d_q rfl (q_lens rfl und9 rfl) rfl rfl rfl ?_;refine d_q rfl (q_add rfl rfl (wrap64 (by show _<=(n:Int)+1;omega) (by show (n:Int)+1<_;omega))) rfl rfl rfl ?_;refine d_q rfl (q_slslo (n:=n+1) und9 rfl rfl (by omega)) rfl rfl rfl ?_;refine d_q rfl (q_as (v_raw rfl)) rfl rfl rfl ?_;refine d_q rfl (q_as (v_raw rfl)) rfl rfl rfl ?_;refine Q96 ?_;refine s_ret ?_;refine Q181 ?_;exact ret_many (.inl rfl) rfl (rl_t rfl (rl_t rfl (rl_t rfl rl_nil))) rfl ⟨by unfold cutF;rw [hi,if_pos (by omega)];rfl,rfl⟩
theorem snd232b (s:ByteArray)(hi:idxB s 42 = -1)(hs:s.size<2^62)(M:Mem):SoundCall Tryz.prog 232 [str s,str star] M fun r M'=>r = .tup [str (cutF s).1,str (cutF s).2.1,bool (cutF s).2.2]/\M'=M:=by
 refine SoundCall.go tk232 pl232 mixed Tryz.func232 cb232 rfl (Nat.le_of_ble_eq_true rfl) ?_;refine Q47 ?_;refine Q26 ?_;refine Q9 ?_;refine Q2 ?_;refine o_call ((by have h:=snd284 s M;rw [hi] at h;exact h)) goes284 (ac (v_raw rfl) (ac (v_raw rfl) ac_nil)) rfl ?_;refine Q51 ?_;refine Q23 ?_;refine Q83 ?_;refine Q71 ?_;refine Q120 ?_;refine Q4 ?_;exact ret_many (.inl rfl) rfl (rl_t rfl (rl_t rfl (rl_t rfl rl_nil))) rfl ⟨by unfold cutF;rw [hi];rfl,rfl⟩
def tk169:Nat->Nat->Option Nat:=fun _ _=>none
def pl169:Nat->List PStep:=fun _=>[]
theorem cb169:Tryz.f169.body.map (codeB Tryz.prog Tryz.f169.ntmps tk169 pl169)=some true:=by kernel_rfl
theorem goes169:goesB Tryz.prog 169=true:=by kernel_rfl
theorem cut128 (s:ByteArray)(hs:s.size<2^62)(M:Mem):SoundCall Tryz.prog 232 [str s,str star] M fun r M'=>r = .tup [str (cutF s).1,str (cutF s).2.1,bool (cutF s).2.2]/\M'=M:=by
 rcases idxB_cases s 42 with ⟨n,h1,h2⟩|h1
 ·exact snd232a s n h1 h2 hs M
 ·exact snd232b s h1 hs M
theorem snd169 (s:ByteArray)(hs:s.size<2^62)(M:Mem):SoundCall Tryz.prog 169 [str s,str star] M fun r M'=>r = .tup [str (cutF s).1,str (cutF s).2.1,bool (cutF s).2.2]/\M'=M:=by
 refine SoundCall.go tk169 pl169 mixed Tryz.func169 cb169 rfl (Nat.le_of_ble_eq_true rfl) ?_;refine Q47 ?_;refine Q26 ?_;refine Q5 ?_;refine Q2 ?_;refine o_call ((cut128 s hs M)) goes232 (ac (v_raw rfl) (ac (v_raw rfl) ac_nil)) rfl ?_;refine Q79 ?_;refine Q80 ?_;refine Q120 ?_;refine Q4 ?_;exact ret_many (.inl rfl) rfl (rl_t rfl (rl_t rfl (rl_t rfl rl_nil))) rfl ⟨rfl,rfl⟩
def tk106:Nat->Nat->Option Nat:=fun _ _=>none
def pl106:Nat->List PStep:=fun _=>[]
theorem cb106:Tryz.f106.body.map (codeB Tryz.prog Tryz.f106.ntmps tk106 pl106)=some true:=by kernel_rfl
theorem goes106:goesB Tryz.prog 106=true:=by kernel_rfl
theorem piece_u8 {s:ByteArray}{rest:List AVal}{j o:Nat}(h:j<s.size)(ho:o=j):piece false (u8l s++rest) o 1=some (.raw (.int .u8 (s.data[j]'h).toNat)):=by
 subst ho;simpa [piece] using u8l_get (s:=s) (j:=o) h
theorem all_succ {s:ByteArray}{i:Nat}{p:UInt8->Bool}(h:(s.data.toList.take i).all p=true)(hi:i<s.size)(hp:p (s.data[i]'hi)=true):(s.data.toList.take (i+1)).all p=true:=by
 have hl:i<s.data.toList.length:=by rw [Array.length_toList];exact hi
 rw [List.take_succ_eq_append_getElem hl,List.all_append,h,Array.getElem_toList];simpa using hp
theorem all_not {s:ByteArray}{i:Nat}{p:UInt8->Bool}(hi:i<s.size)(hp:p (s.data[i]'hi)=false):s.data.toList.all p=false:=by
 rw [List.all_eq_false];exact⟨s.data[i]'hi,Array.mem_toList_iff.2 (Array.getElem_mem _),by rw [hp];decide⟩
def letterB (c:UInt8):Bool:=decide (0<=idxB letters c)
def rightS (s:ByteArray):Bool:=((cutF s).1++(cutF s).2.1).data.toList.all letterB && (!(cutF s).2.2 || !decide ((cutF s).2.1=emp))
theorem cutF_size (s:ByteArray):((cutF s).1++(cutF s).2.1).size<=s.size:=by
 unfold cutF;split
 ·rename_i h;rcases idxB_cases s 42 with ⟨n,h1,h2⟩|h1
  ·rw [h1];simp;omega
  ·omega
 ·show (s++ByteArray.empty).size<=_
  rw [ByteArray.size_append];exact Nat.le_refl _
theorem snd106 (s:ByteArray)(hs:s.size<2^62)(M:Mem):SoundCall Tryz.prog 106 [str s] M fun r M'=>r=bool (rightS s)/\M.le M':=by
 have hcs:=cutF_size s;have hcs2:=hcs;rw [ByteArray.size_append] at hcs2;refine SoundCall.go tk106 pl106 mixed Tryz.func106 cb106 rfl (Nat.le_of_ble_eq_true rfl) ?_;refine Q15 ?_;refine Q5 ?_;refine o_call ((snd169 s hs M)) goes169 (ac (v_raw rfl) (ac (v_raw rfl) ac_nil)) rfl ?_;refine Q37 ?_;refine Q79 ?_;refine Q80 ?_;refine Q28 ?_;refine Q26 ?_;refine Q9 ?_;refine Q2 ?_;refine o_q (q_sadd rfl rfl (by omega)) rfl rfl rfl ?_;refine o_s2b s2b9_178 rfl (fun B1 C1 hB1 hC1=>?_);have m1:M B1=none:=zm hB1;refine o_q (q_lenr rfl und178 rfl) rfl rfl rfl ?_;refine Q52 ?_;refine s_loop (fun m S=>∃ T,∃ M':Mem,∃ i:Nat,S=⟨setT (setT (setT (setT (setT (setT T 3 (str (cutF s).1)) 4 (str (cutF s).2.1)) 5 (bool (cutF s).2.2)) 17 (.raw (.slice (some ⟨B1,0,none⟩) ((cutF s).1++(cutF s).2.1).size C1))) 18 (int ((cutF s).1++(cutF s).2.1).size)) 19 (int i),M'⟩/\M.le M'/\M' B1=some (.cells (u8l ((cutF s).1++(cutF s).2.1)++List.replicate (C1 - ((cutF s).1++(cutF s).2.1).size) (.raw (.int .u8 0))))/\i<=((cutF s).1++(cutF s).2.1).size/\(((cutF s).1++(cutF s).2.1).data.toList.take i).all letterB=true/\m=((cutF s).1++(cutF s).2.1).size - i) ((cutF s).1++(cutF s).2.1).size ?_ ?_
 ·exact⟨_,_,0,St.mkT (kp (kp (kp (kp (kp (kp rfl rfl) rfl) rfl) rfl) rfl) rfl).symm,zle,mmQ,by omega,rfl,rfl⟩
 rintro m S ⟨T,M',i,rfl,hle,bm1,hi,hal,rfl⟩;refine Q50 ?_;refine s_cond rfl (fun h1=>?_) (fun h1=>?_)
 ·have k1:=h1;try simp only [zs] at k1
  have hi2:i<((cutF s).1++(cutF s).2.1).size:=by omega
  refine Q86 ?_;refine Q224 und178 sz5 ?_;refine o_q (q_ldm ag5 sz5 rfl mmQ (piece_u8 hi2 (by omega)) (v_raw rfl)) rfl rfl rfl ?_;refine Q51 ?_;refine o_call ((snd107 letters (((cutF s).1++(cutF s).2.1).data[i]'hi2) _)) goes107 (ac (v_raw rfl) (ac (v_raw rfl) ac_nil)) rfl ?_;refine Q84 ?_;refine s_cond rfl (fun h2=>?_) (fun h2=>?_)
  ·have k2:=h2;try simp only [zs] at k2
   refine Q0 ?_;refine Q54 ?_;refine Q121 ?_;refine⟨congrArg (fun b=>AVal.raw (.bool b)) ?_,zle⟩;unfold rightS;rw [all_not hi2 (by unfold letterB;exact decide_eq_false (by omega))];rfl
  ·have k2:=h2;try simp only [zs] at k2
   refine Q13 ?_;refine Q36 ?_;exact⟨((cutF s).1++(cutF s).2.1).size - (i+1),by omega,_,_,i+1,St.mkT (kp (kp (kp (kp (kp (kp rfl rfl) rfl) rfl) rfl) rfl) rfl).symm,zle,mmQ,by omega,all_succ hal hi2 (by unfold letterB;exact decide_eq_true (by omega)),rfl⟩
 ·have k1:=h1;try simp only [zs] at k1
  refine Q35 ?_;refine Q5 ?_;refine Q119 ?_;refine o_cases (want:=false) (j:=2) rfl rfl (fun h3=>?_) (fun h3=>?_)
  ·have k3:=h3;try simp only [zs] at k3
   refine Q60 h3 h3 ?_;refine Q170 ?_;refine Q30 h3 ?_;refine Q4 ?_;have hal2:((cutF s).1++(cutF s).2.1).data.toList.all letterB=true:=by
    have e:i=((cutF s).1++(cutF s).2.1).size:=by omega
    rw [List.take_of_length_le (by rw [Array.length_toList,e];exact Nat.le_refl _)] at hal;exact hal
   refine⟨congrArg (fun b=>AVal.raw (.bool b)) ?_,zle⟩;unfold rightS;rw [hal2];simp_all [emp]<;>congr
  ·have k3:=h3;try simp only [zs] at k3
   refine Q24 h3 h3 ?_;refine Q32 h3 ?_;refine Q4 ?_;have hal2:((cutF s).1++(cutF s).2.1).data.toList.all letterB=true:=by
    have e:i=((cutF s).1++(cutF s).2.1).size:=by omega
    rw [List.take_of_length_le (by rw [Array.length_toList,e];exact Nat.le_refl _)] at hal;exact hal
   refine⟨congrArg (fun b=>AVal.raw (.bool b)) ?_,zle⟩;unfold rightS;rw [hal2];simp_all [emp]<;>congr
def tk47:Nat->Nat->Option Nat
 | 5,0=>some 0
 | 22,0=>some 0
 | 22,4=>some 0
 | _,_=>none
def pl47:Nat->List PStep
 | 21=>[.q 0,.q 1,.q 2,.q 3]
 | _=>[]
theorem cb47:Tryz.f47.body.map (codeB Tryz.prog Tryz.f47.ntmps tk47 pl47)=some true:=by kernel_rfl
theorem goes47:goesB Tryz.prog 47=true:=by kernel_rfl
structure Itm where
 kind:Int
 n:Nat
 s:ByteArray
 deriving Inhabited
def encIt (x:Itm):AVal:=.agg [int x.kind,u64 x.n,str x.s]
theorem elsIt {l:List Itm}:Els 3 (l.map encIt):=Els.map fun _=>⟨rfl,rfl⟩
abbrev szO (e:TypeId)(fr:Nat×Nat):AObj:=.it (.cells #[.int .i64 0,.int .i64 1,.int .i64 4,.int .i64 8,.int .i64 0] e fr)
def szK (k:Int):Nat:=if k=1 then 1 else if k=2 then 4 else if k=3 then 8 else 0
def kindB (c:UInt8):Int:=1+idxB letters c
def itemF (c:UInt8)(s:ByteArray):Itm×ByteArray×Int :=
 if kindB c=4 then (⟨4,0,(textF s 0).1⟩,(textF s 0).2) else (⟨kindB c,(numF (szK (kindB c)) s 0).1,emp⟩,(numF (szK (kindB c)) s 0).2)
def decL (sh:ByteArray)(st:Int):Nat->Int->ByteArray->List Itm->List Itm×Int
 | 0,_,_,_=>([],0)
 | f+1,k,s,out =>
  let k1:=if k=sh.size/\0<=st then st else k
  if k1=st/\0<=st/\s=emp then (out,0) else
  let k2:=if k1=st/\0<=st then k1+1 else k1
  if k2<sh.size then
   if out.length=1000 then ([],3) else
   let r:=itemF (sh.data[k2.toNat]!) s
   if r.2.2≠0 then ([],r.2.2) else decL sh st f (k2+1) r.2.1 (out++[r.1])
  else if s≠emp then ([],10) else (out,0)
theorem decL_succ (sh:ByteArray)(st:Int)(f:Nat)(k:Int)(s:ByteArray)(out:List Itm):decL sh st (f+1) k s out =
 if (if k=sh.size/\0<=st then st else k)=st/\0<=st/\s=emp then (out,0) else
 if (if (if k=sh.size/\0<=st then st else k)=st/\0<=st then (if k=sh.size/\0<=st then st else k)+1 else (if k=sh.size/\0<=st then st else k))<sh.size then
  if out.length=1000 then ([],3) else
  if (itemF (sh.data[(if (if k=sh.size/\0<=st then st else k)=st/\0<=st then (if k=sh.size/\0<=st then st else k)+1 else (if k=sh.size/\0<=st then st else k)).toNat]!) s).2.2≠0 then ([],(itemF (sh.data[(if (if k=sh.size/\0<=st then st else k)=st/\0<=st then (if k=sh.size/\0<=st then st else k)+1 else (if k=sh.size/\0<=st then st else k)).toNat]!) s).2.2)
  else decL sh st f ((if (if k=sh.size/\0<=st then st else k)=st/\0<=st then (if k=sh.size/\0<=st then st else k)+1 else (if k=sh.size/\0<=st then st else k))+1) (itemF (sh.data[(if (if k=sh.size/\0<=st then st else k)=st/\0<=st then (if k=sh.size/\0<=st then st else k)+1 else (if k=sh.size/\0<=st then st else k)).toNat]!) s).2.1 (out++[(itemF (sh.data[(if (if k=sh.size/\0<=st then st else k)=st/\0<=st then (if k=sh.size/\0<=st then st else k)+1 else (if k=sh.size/\0<=st then st else k)).toNat]!) s).1])
 else if s≠emp then ([],10) else (out,0):=rfl
def decF (sh s:ByteArray):List Itm×Int:=if rightS sh then decL sh (idxB sh 42) 1001 0 s [] else ([],1)
theorem idx_letters (c:UInt8) : -1<=idxB letters c/\idxB letters c<=3:=by
 rcases idxB_cases letters c with ⟨n,h1,h2⟩|h1
 ·have h3:letters.size=4:=rfl;omega
 ·omega
theorem gpiece {k:Int}{o:Nat}(h0:0<=k)(h1:k<4)(ho:o=k.toNat):piece false ((#[Value.int .i64 0,.int .i64 1,.int .i64 4,.int .i64 8,.int .i64 0]:Array Value).toList.map AVal.raw) o 1=some (int (szK k:Nat)):=by
 subst ho;have h:k=0\/k=1\/k=2\/k=3:=by omega
 rcases h with rfl|rfl|rfl|rfl<;>rfl
theorem szK_le (k:Int):szK k<=8:=by unfold szK;split<;>(try split)<;>(try split)<;>omega
theorem itemF_size (c:UInt8)(s:ByteArray):(itemF c s).2.1.size<=s.size:=by
 unfold itemF;split
 ·exact textF_size s 0
 ·exact numF_size _ s 0
theorem snd47 (sh s:ByteArray)(ge:TypeId)(gf:Nat×Nat)(M:Mem)(hG:M 0=some (szO ge gf))(hsh:sh.size<2^62)(hs:s.size<2^62):SoundCall Tryz.prog 47 [str sh,str s] M fun r M'=>(∃ o,r = .tup [.sl ((decF sh s).1.map encIt) o,int (decF sh s).2])/\M.le M':=by
 obtain⟨N0,hN0⟩ : ∃ N0,N0=1001:=⟨_,rfl⟩;obtain⟨st,hst⟩ : ∃ st,st=idxB sh 42:=⟨_,rfl⟩;have hsb : -1<=st/\st<(sh.size:Int):=by
  rcases idxB_cases sh 42 with ⟨n,c1,c2⟩|c1
  ·omega
  ·omega
 refine SoundCall.go tk47 pl47 mixed Tryz.func47 cb47 rfl (Nat.le_of_ble_eq_true rfl) ?_;refine Q104 ?_;refine Q7 ?_;apply s_scopel 0 (fun m S=>∃ T,∃ M':Mem,∃ b:Nat,∃ k:Int,∃ s':ByteArray,∃ out:List Itm,S=⟨setT (setT (setT (setT (setT T 0 (str sh)) 6 (int st)) 7 (ptr b)) 8 (.sl (out.map encIt) true)) 9 (int k),M'⟩/\M.le M'/\M b=none/\M' b=some (rdC s' 0)/\s'.size<=s.size/\out.length<=1000/\m+out.length=1001/\0<=k/\k<=sh.size/\decF sh s=decL sh st m k s' out) (N0) rfl
 ·intro N S hY;refine aFrom_right rfl ?_;refine aFrom_right rfl ?_;refine aFrom_right rfl ?_;refine aFrom_right rfl ?_;refine aFrom_right rfl ?_;refine aFrom_left rfl ?_;refine aFrom_here ?_;exact hY
 ·intro N m S hmN;rintro ⟨T,M',b,k,s',out,rfl,hle,hb0,hb,hss,ho,hm,hk0,hkl,hd⟩;obtain⟨f,rfl⟩ : ∃ f,m=f+1:=⟨m - 1,by omega⟩;clear hst hN0;refine s_seq ?_;refine s_seq ?_;refine s_cut (fun S=>∃ T,S=⟨setT (setT (setT (setT (setT (setT T 0 (str sh)) 6 (int st)) 7 (ptr b)) 8 (.sl (out.map encIt) true)) 9 (int k)) 25 (bool (decide (k=sh.size/\0<=st))),M'⟩) ?_ ?_
  ·refine Q19 ?_;refine Q64 ?_;refine Q61 und9 ?_;refine Q63 ?_;refine Q2 ?_;refine o_cases (want:=true) (j:=4) rfl rfl (fun h1=>?_) (fun h1=>?_)
   ·have k1:=h1;try simp only [zs] at k1
    refine Q60 h1 h1 ?_;refine Q23 ?_;refine Q32 h1 ?_;refine Q1 ?_;refine s_inv ?_;exact⟨_,St.mkT (kp (kp (kp (kp (kp (kp rfl rfl) rfl) rfl) rfl) rfl) (congrArg (fun b=>AVal.raw (.bool b)) (by simp_all))).symm⟩
   ·have k1:=h1;try simp only [zs] at k1
    refine Q24 h1 h1 ?_;refine Q30 h1 ?_;refine Q1 ?_;refine s_inv ?_;exact⟨_,St.mkT (kp (kp (kp (kp (kp (kp rfl rfl) rfl) rfl) rfl) rfl) (congrArg (fun b=>AVal.raw (.bool b)) (by simp_all))).symm⟩
  rintro S ⟨T,rfl⟩;refine s_cut (fun S=>∃ T,S=⟨setT (setT (setT (setT (setT T 0 (str sh)) 6 (int st)) 7 (ptr b)) 8 (.sl (out.map encIt) true)) 9 (int (if k=sh.size/\0<=st then st else k)),M'⟩) ?_ ?_
  ·refine s_cond rfl (fun h2=>?_) (fun h2=>?_)
   ·have k2:=h2;try simp only [zs] at k2
    refine Q144 ?_;refine Q57 ?_;exact⟨_,St.mkT (kp (kp (kp (kp (kp rfl rfl) rfl) rfl) rfl) (congrArg int (by first|exact (if_pos (by simpa using h2)).symm|exact (if_neg (by simpa using h2)).symm))).symm⟩
   ·have k2:=h2;try simp only [zs] at k2
    refine Q13 ?_;refine s_inv ?_;exact⟨_,St.mkT (kp (kp (kp (kp (kp rfl rfl) rfl) rfl) rfl) (congrArg int (by first|exact (if_pos (by simpa using h2)).symm|exact (if_neg (by simpa using h2)).symm))).symm⟩
  rintro S ⟨T,rfl⟩;obtain⟨k1,hk1⟩ : ∃ k1,k1=(if k=sh.size/\0<=st then st else k):=⟨_,rfl⟩;rw [← hk1];have hk1b:0<=k1/\k1<=sh.size:=by rw [hk1];split<;>omega
  refine s_seq ?_;refine s_seq ?_;refine s_cut (fun S=>∃ T,S=⟨setT (setT (setT (setT (setT (setT T 0 (str sh)) 6 (int st)) 7 (ptr b)) 8 (.sl (out.map encIt) true)) 9 (int k1)) 33 (bool (decide (k1=st/\0<=st))),M'⟩) ?_ ?_
  ·refine Q19 ?_;refine Q64 ?_;refine Q63 ?_;refine Q2 ?_;refine o_cases (want:=true) (j:=3) rfl rfl (fun h3=>?_) (fun h3=>?_)
   ·have k3:=h3;try simp only [zs] at k3
    refine Q60 h3 h3 ?_;refine Q23 ?_;refine Q32 h3 ?_;refine Q1 ?_;refine s_inv ?_;exact⟨_,St.mkT (kp (kp (kp (kp (kp (kp rfl rfl) rfl) rfl) rfl) rfl) (congrArg (fun b=>AVal.raw (.bool b)) (by simp_all))).symm⟩
   ·have k3:=h3;try simp only [zs] at k3
    refine Q24 h3 h3 ?_;refine Q30 h3 ?_;refine Q1 ?_;refine s_inv ?_;exact⟨_,St.mkT (kp (kp (kp (kp (kp (kp rfl rfl) rfl) rfl) rfl) rfl) (congrArg (fun b=>AVal.raw (.bool b)) (by simp_all))).symm⟩
  rintro S ⟨T,rfl⟩;refine s_cut (fun S=>∃ T,S=⟨setT (setT (setT (setT (setT T 0 (str sh)) 6 (int st)) 7 (ptr b)) 8 (.sl (out.map encIt) true)) 9 (int (if k1=st/\0<=st then k1+1 else k1)),M'⟩/\¬ (k1=st/\0<=st/\s'=emp)) ?_ ?_
  ·refine s_cond rfl (fun h4=>?_) (fun h4=>?_)
   ·have k4:=h4;try simp only [zs] at k4
    refine Q31 ?_;refine Q12 fo185_0 ag9 sz9 ?_;refine Q182 ?_;refine Q1 ?_;refine s_cond rfl (fun h5=>?_) (fun h5=>?_)
    ·have k5:=h5;try simp only [zs] at k5
     refine Q0 ?_;refine Q49 ?_;refine Q42 ?_;refine Q54 ?_;refine s_code_ret ?_;refine s_inv_ret ?_;refine s_code_ret ?_;refine s_scj_ret ?_;refine s_end ?_;have e1:decL sh st (f+1) k s' out=(out,0):=by
      rw [decL_succ,← hk1,if_pos (by simp_all [emp])]
     exact ret_many (.inl rfl) rfl (rl_t rfl (rl_t rfl rl_nil)) rfl ⟨⟨_,by rw [hd,e1];rfl⟩,zle⟩
    ·have k5:=h5;try simp only [zs] at k5
     refine Q13 ?_;refine Q19 ?_;refine Q190 ?_;refine Q57 ?_;exact⟨_,St.mkT (kp (kp (kp (kp (kp rfl rfl) rfl) rfl) rfl) (congrArg int (by first|exact (if_pos (by simpa using h4)).symm|exact (if_neg (by simpa using h4)).symm))).symm,(by first|exact fun h=>k5 h.2.2|exact fun h=>absurd (And.intro h.1 h.2.1) (by simpa using h4))⟩
   ·have k4:=h4;try simp only [zs] at k4
    refine Q13 ?_;refine s_inv ?_;exact⟨_,St.mkT (kp (kp (kp (kp (kp rfl rfl) rfl) rfl) rfl) (congrArg int (by first|exact (if_pos (by simpa using h4)).symm|exact (if_neg (by simpa using h4)).symm))).symm,(by first|exact fun h=>k5 h.2.2|exact fun h=>absurd (And.intro h.1 h.2.1) (by simpa using h4))⟩
  rintro S ⟨T,rfl,hne⟩;obtain⟨k2,hk2⟩ : ∃ k2,k2=(if k1=st/\0<=st then k1+1 else k1):=⟨_,rfl⟩;rw [← hk2];have hk2b:0<=k2/\k2<=sh.size+1:=by rw [hk2];split<;>omega
  refine Q9 ?_;refine Q2 ?_;refine Q61 und9 ?_;refine Q84 ?_;refine s_cond rfl (fun h6=>?_) (fun h6=>?_)
  ·have k6:=h6;try simp only [zs] at k6
   have hk3:k2.toNat<sh.size:=by omega
   have hix:=idx_letters (sh.data[k2.toNat]'hk3);have hkb:kindB (sh.data[k2.toNat]'hk3)=1+idxB letters (sh.data[k2.toNat]'hk3):=rfl;refine Q5 ?_;refine Q2 ?_;refine o_q (q_stri (n:=k2.toNat) und9 rfl rfl (by omega) hk3) rfl rfl rfl ?_;refine o_call ((snd107 letters (sh.data[k2.toNat]'hk3) _)) goes107 (ac (v_raw rfl) (ac (v_raw rfl) ac_nil)) rfl ?_;refine Q113 ?_;refine o_q (q_b (cs:=[_,.raw (.int .u64 0),.raw (.string { data:=#[] })]) bz106 bp106 (bf fo106_0 (e_raw rfl) rfl rfl (Nat.le_of_ble_eq_true rfl) rfl bf_nil)) rfl rfl rfl ?_;refine o_alloc zc106 (fun B1 hB1=>?_);have nb:b≠B1:=Mem.fresh_ne hB1 hb;have nb':=nb.symm;have m1:M B1=none:=zm hB1;refine Q6 sz106 ?_;refine Q48 ?_;refine Q41 und103 ?_;refine Q129 ?_;refine s_cond rfl (fun h7=>?_) (fun h7=>?_)
   ·have k7:=h7;try simp only [zs] at k7
    refine Q104 ?_;refine Q54 ?_;refine s_code_ret ?_;refine s_code_ret ?_;refine s_scj_ret ?_;refine s_end ?_;have e1:decL sh st (f+1) k s' out=([],3):=by
     rw [decL_succ,← hk1,if_neg hne,← hk2,if_pos (by omega),if_pos (by omega)]
    exact ret_many (.inl rfl) rfl (rl_t rfl (rl_t rfl rl_nil)) rfl ⟨⟨_,by rw [hd,e1];rfl⟩,zle⟩
   ·have k7:=h7;try simp only [zs] at k7
    refine Q82 ?_;refine Q12 fo106_0 ag3 sz3 ?_;refine Q129 ?_;refine s_cut (fun S=>∃ T,∃ M2:Mem,S=⟨setT (setT (setT (setT (setT (setT T 0 (str sh)) 6 (int st)) 7 (ptr b)) 8 (.sl (out.map encIt) true)) 9 (int k2)) 10 (ptr B1),M2⟩/\M.le M2/\M2 b=some (rdC (itemF (sh.data[k2.toNat]'hk3) s').2.1 (itemF (sh.data[k2.toNat]'hk3) s').2.2)/\M2 B1=some (.cells [int (itemF (sh.data[k2.toNat]'hk3) s').1.kind,u64 (itemF (sh.data[k2.toNat]'hk3) s').1.n,str (itemF (sh.data[k2.toNat]'hk3) s').1.s])) ?_ ?_
    ·refine s_cond rfl (fun h8=>?_) (fun h8=>?_)
     ·have k8:=h8;try simp only [zs] at k8
      refine Q19 ?_;refine o_callx ((snd108 b s' 0 _ mmQ (by omega))) goes108 (ac (v_raw rfl) ac_nil) rfl ?_;rintro r M2 ⟨rfl,hq⟩;have hbq:=hq b _ (Mem.upd_self _ _ _);have hle0:M.le M2:=fun c q hc=>hq c q (by repeat first|exact hle c q hc|refine Mem.upd_ne (Mem.ne_none hc (by assumption)) ?_)
      have hxq:=hq B1 _ (by repeat first|exact Mem.upd_self _ _ _|refine Mem.upd_ne (by assumption) ?_);refine Q29 fo106_2 ?_;refine Q62 sz9 ?_;refine s_inv ?_;have e2:(itemF (sh.data[k2.toNat]'hk3) s')=(⟨4,0,(textF s' 0).1⟩,(textF s' 0).2):=by unfold itemF;rw [if_pos (by omega)]
      rw [e2];exact⟨_,_,St.mkT (kp (kp (kp (kp (kp (kp rfl rfl) rfl) rfl) rfl) rfl) rfl).symm,zle,mmQ,by rw [Mem.upd_self];show some (AObj.cells [int (1+idxB letters (sh.data[k2.toNat]'hk3)),u64 0,str (textF s' 0).1])=_;rw [k8]⟩
     ·have k8:=h8;try simp only [zs] at k8
      refine Q19 ?_;refine Q12 fo106_0 ag3 sz3 ?_;refine Q178 und180 sz3 ?_;refine o_q (q_ldg ag3 sz3 rfl (by repeat first|exact hle 0 _ hG|refine Mem.upd_ne (Mem.ne_none hG m1) ?_) (gpiece (k:=kindB (sh.data[k2.toNat]'hk3)) (by omega) (by omega) (by omega)) (v_raw rfl)) rfl rfl rfl ?_;refine o_callx ((snd109 b (szK (kindB (sh.data[k2.toNat]'hk3))) s' 0 _ mmQ (szK_le _))) goes109 (ac (v_raw rfl) (ac (v_raw rfl) ac_nil)) rfl ?_;rintro r M2 ⟨rfl,hq⟩;have hbq:=hq b _ (Mem.upd_self _ _ _);have hle0:M.le M2:=fun c q hc=>hq c q (by repeat first|exact hle c q hc|refine Mem.upd_ne (Mem.ne_none hc (by assumption)) ?_)
      have hxq:=hq B1 _ (by repeat first|exact Mem.upd_self _ _ _|refine Mem.upd_ne (by assumption) ?_);refine Q29 fo106_1 ?_;refine Q62 sz104 ?_;refine s_inv ?_;have e2:(itemF (sh.data[k2.toNat]'hk3) s')=(⟨kindB (sh.data[k2.toNat]'hk3),(numF (szK (kindB (sh.data[k2.toNat]'hk3))) s' 0).1,emp⟩,(numF (szK (kindB (sh.data[k2.toNat]'hk3))) s' 0).2):=by unfold itemF;rw [if_neg (by omega)]
      rw [e2];exact⟨_,_,St.mkT (kp (kp (kp (kp (kp (kp rfl rfl) rfl) rfl) rfl) rfl) rfl).symm,zle,mmQ,mmQ⟩
    rintro S ⟨T,M2,rfl,hle2,hb2,hx2⟩;refine Q31 ?_;refine Q12 fo185_1 ag28 sz28 ?_;refine Q122 ?_;refine s_cond rfl (fun h9=>?_) (fun h9=>?_)
    ·have k9:=h9;try simp only [zs] at k9
     refine Q91 ?_;refine Q77 fo185_1 ag28 sz28 ?_;refine d_q rfl (q_as (v_sl rfl)) rfl rfl rfl ?_;refine Q96 ?_;refine s_ret ?_;refine s_code_ret ?_;refine s_code_ret ?_;refine s_scj_ret ?_;refine s_end ?_;have e1:decL sh st (f+1) k s' out=([],(itemF (sh.data[k2.toNat]'hk3) s').2.2):=by
      rw [decL_succ,← hk1,if_neg hne,← hk2,if_pos (by omega),if_neg (by omega),show sh.data[k2.toNat]! = sh.data[k2.toNat] from getElem!_pos sh.data k2.toNat hk3,if_pos (by simpa using k9)]
     exact ret_many (.inl rfl) rfl (rl_t rfl (rl_t rfl rl_nil)) rfl ⟨⟨_,by rw [hd,e1];rfl⟩,zle⟩
    ·have k9:=h9;try simp only [zs] at k9
     refine Q92 ?_;refine Q94 ?_;refine Q87 ag106 sz106 ?_;refine Q107 slt103 ?_;refine Q204 slt103 ?_;refine Q128 ?_;refine Q5 ?_;refine Q113 ?_;refine Q7 ?_;refine s_goto ?_;refine s_code_goto ?_;refine s_scj_here ?_;have e1:decL sh st (f+1) k s' out=decL sh st f (k2+1) (itemF (sh.data[k2.toNat]'hk3) s').2.1 (out++[(itemF (sh.data[k2.toNat]'hk3) s').1]):=by
      rw [decL_succ,← hk1,if_neg hne,← hk2,if_pos (by omega),if_neg (by omega),show sh.data[k2.toNat]! = sh.data[k2.toNat] from getElem!_pos sh.data k2.toNat hk3,if_neg (by simpa using k9)]
     have hz:(itemF (sh.data[k2.toNat]'hk3) s').2.2=0:=by simpa using k9
     have his:=itemF_size (sh.data[k2.toNat]'hk3) s';exact⟨f,by omega,_,_,b,k2+1,(itemF (sh.data[k2.toNat]'hk3) s').2.1,out++[(itemF (sh.data[k2.toNat]'hk3) s').1],St.mkT (kp (kp (kp (kp (kp rfl rfl) rfl) rfl) (congrArg (fun l=>AVal.sl l true) (by rw [List.map_append];rfl))) rfl).symm,zle,hb0,by rw [hb2,hz],by omega,by simp;omega,by simp;omega,by omega,by omega,by rw [hd,e1]⟩
  ·have k6:=h6;try simp only [zs] at k6
   refine Q82 ?_;refine Q12 fo185_0 ag9 sz9 ?_;refine Q170 ?_;refine Q1 ?_;refine s_cond rfl (fun h10=>?_) (fun h10=>?_)
   ·have k10:=h10;try simp only [zs] at k10
    refine Q104 ?_;refine Q54 ?_;refine s_code_ret ?_;refine s_scj_ret ?_;refine s_end ?_;have e1:decL sh st (f+1) k s' out=([],10):=by
     rw [decL_succ,← hk1,if_neg hne,← hk2,if_neg (by omega),if_pos (by simp_all [emp])]
    exact ret_many (.inl rfl) rfl (rl_t rfl (rl_t rfl rl_nil)) rfl ⟨⟨_,by rw [hd,e1];rfl⟩,zle⟩
   ·have k10:=h10;try simp only [zs] at k10
    refine Q92 ?_;refine Q49 ?_;refine Q42 ?_;refine Q54 ?_;refine s_scj_ret ?_;refine s_end ?_;have e1:decL sh st (f+1) k s' out=(out,0):=by
     rw [decL_succ,← hk1,if_neg hne,← hk2,if_neg (by omega),if_neg (by simp_all [emp])]
    exact ret_many (.inl rfl) rfl (rl_t rfl (rl_t rfl rl_nil)) rfl ⟨⟨_,by rw [hd,e1];rfl⟩,zle⟩
 ·intro key;refine Q9 ?_;refine o_callx ((snd106 sh hsh _)) goes106 (ac (v_raw rfl) ac_nil) rfl ?_;rintro r M' ⟨rfl,hle⟩;refine Q59 ?_;refine s_cond rfl (fun h11=>?_) (fun h11=>?_)
  ·have k11:=h11;try simp only [zs] at k11
   have e1:decF sh s=([],1):=by unfold decF;simp_all
   refine Q104 ?_;refine Q54 ?_;refine s_code_ret ?_;refine s_scj_ret ?_;refine s_end ?_;exact ret_many (.inl rfl) rfl (rl_t rfl (rl_t rfl rl_nil)) rfl ⟨⟨_,by rw [e1];rfl⟩,zle⟩
  ·have k11:=h11;try simp only [zs] at k11
   refine Q71 ?_;refine o_call ((by have h:=snd107 sh 42 M';rw [← hst] at h;exact h)) goes107 (ac (v_raw rfl) (ac (v_raw rfl) ac_nil)) rfl ?_;refine Q51 ?_;refine Q268 bz185 bp185 fo185_0 ?_;refine o_alloc zc185 (fun B2 hB2=>?_);have m2:M B2=none:=zm hB2;refine Q118 sz185 ?_;refine Q93 ?_;refine Q1 ?_;refine Q15 ?_;refine s_seq ?_;refine s_label ?_;exact key _ 1001 _ (by omega) ⟨_,_,B2,0,s,[],St.mkT (kp (kp (kp (kp (kp rfl rfl) rfl) rfl) rfl) rfl).symm,zle,zle,mmQ,Nat.le_refl _,Nat.zero_le _,rfl,by omega,by omega,by unfold decF;simp_all⟩
def tk168:Nat->Nat->Option Nat:=fun _ _=>none
def pl168:Nat->List PStep:=fun _=>[]
theorem cb168:Tryz.f168.body.map (codeB Tryz.prog Tryz.f168.ntmps tk168 pl168)=some true:=by kernel_rfl
theorem goes168:goesB Tryz.prog 168=true:=by kernel_rfl
def lowB (v:Nat):Nat->List UInt8
 | 0=>[]
 | i+1=>UInt8.ofNat (v / 256^i % 256)::lowB v i
theorem lowB_len (v n:Nat):(lowB v n).length=n:=by
 induction n with
 | zero=>rfl
 | succ n ih=>simp [lowB,ih]
def numB (v n:Nat):ByteArray:=⟨(lowB v n).toArray⟩
def stB (v n i:Nat):ByteArray:=⟨(List.replicate (n - i) 0++lowB v i).toArray⟩
theorem stB_all (v n:Nat):stB v n n=numB v n:=by unfold stB numB;rw [Nat.sub_self];rfl
theorem st_size {v n i:Nat}(h:i<=n):(stB v n i).size=n:=by
 show (List.replicate (n - i) 0++lowB v i).toArray.size=n
 simp [lowB_len];omega
theorem st_zero (v n:Nat):(List.replicate n [AVal.raw (.int .u8 0)]).flatten=u8l (stB v n 0):=by
 unfold u8l stB;simp [lowB]
theorem st_set {v n i o:Nat}(hi:i<n)(ho:o=n - 1 - i):splice (u8l (stB v n i)) o [.raw (.int .u8 ((v / 256^i % 256:Nat):Int))]=u8l (stB v n (i+1)):=by
 subst ho;have h1:u8l (stB v n i)=List.replicate (n - 1 - i) (.raw (.int .u8 0)) ++ .raw (.int .u8 0)::(lowB v i).map fun b=>.raw (.int .u8 b.toNat):=by
  unfold u8l stB;have e:n - i=(n - 1 - i)+1:=by omega
  rw [e,List.replicate_succ'];simp
 have h2:u8l (stB v n (i+1))=List.replicate (n - 1 - i) (.raw (.int .u8 0)) ++ .raw (.int .u8 ((v / 256^i % 256:Nat):Int))::(lowB v i).map fun b=>.raw (.int .u8 b.toNat):=by
  unfold u8l stB;have e:n - (i+1)=n - 1 - i:=by omega
  have e2:(UInt8.ofNat (v / 256^i % 256)).toNat=v / 256^i % 256:=by simp
  rw [e];simp [lowB]
 rw [h1,h2];unfold splice;have hl:(List.replicate (n - 1 - i) (AVal.raw (.int .u8 0))).length=n - 1 - i:=List.length_replicate;rw [List.take_left' hl,List.length_singleton,← List.drop_drop,List.drop_left' hl];simp
theorem numB_size (v n:Nat):(numB v n).size=n:=by show (lowB v n).toArray.size=n;simp [lowB_len]
theorem snd168 (v n:Nat)(hv:v<2^64)(h1n:1<=n)(hn:n<=8)(M:Mem):SoundCall Tryz.prog 168 [u64 v,int n] M fun r M'=>r=str (numB v n)/\M.le M':=by
 refine SoundCall.go tk168 pl168 mixed Tryz.func168 cb168 rfl (Nat.le_of_ble_eq_true rfl) ?_;refine Q15 ?_;refine Q5 ?_;refine o_makeSlice und178 sz5 by5 zc5 rfl (by decide) rfl rfl (by omega) (by omega) (by omega) (by omega) (fun B1 hB1=>?_);have m1:M B1=none:=zm hB1;refine Q40 ?_;refine Q152 ?_;refine Q130 ?_;refine s_loop (fun m S=>∃ T,∃ M':Mem,∃ i:Nat,S=⟨setT (setT (setT (setT T 0 (u64 (v / 256^i))) 1 (int n)) 5 (.raw (.slice (some ⟨B1,0,none⟩) n n))) 6 (int ((n:Int) - 1 - i)),M'⟩/\M.le M'/\M' B1=some (.cells (u8l (stB v n i)))/\i<=n/\m=n - i) n ?_ ?_
 ·exact⟨_,_,0,St.mkT (kp (kp (kp (kp rfl (by show _=u64 (v / 256^0);rw [Nat.pow_zero,Nat.div_one];rfl)) rfl) rfl) (by show _=int ((n:Int) - 1 - ((0:Nat):Int));exact congrArg int (by omega))).symm,zle,(Mem.upd_self _ _ _).trans (congrArg (fun l=>some (AObj.cells l)) (st_zero v n)),by omega,rfl⟩
 rintro m S ⟨T,M',i,rfl,hle,bm1,hi,rfl⟩;refine Q9 ?_;refine Q23 ?_;refine Q1 ?_;refine s_cond rfl (fun h1=>?_) (fun h1=>?_)
 ·have k1:=h1;try simp only [zs] at k1
  have hsz:=st_size (v:=v) (n:=n) (i:=i) hi;refine Q78 ?_;refine Q5 ?_;refine Q64 ?_;refine o_q (q_remn (n:=256) rfl rfl (by decide)) rfl rfl rfl ?_;refine o_q (q_i2i und104 und5 rfl (u8_wrap (Nat.mod_lt _ (by decide)))) rfl rfl rfl ?_;refine Q224 und178 sz5 ?_;refine o_store rfl mmQ meQ rfl sz5 rfl (by rw [u8l_length,hsz];show 0+((n:Int) - 1 - (i:Int)).toNat*1+1<=n;omega) rfl (by exact st_set (v:=v) (n:=n) (i:=i) (by omega) (by omega)) ?_;refine Q1 ?_;refine Q144 ?_;refine o_q (q_quou (n:=256) rfl rfl (by decide) (Nat.lt_of_le_of_lt (Nat.div_le_self _ _) hv)) rfl rfl rfl ?_;refine Q7 ?_;refine s_blk_normal ?_;refine s_region ?_;refine Q2 ?_;refine Q152 ?_;refine Q57 ?_;exact⟨n - (i+1),by omega,_,_,i+1,St.mkT (kp (kp (kp (kp rfl (by show _=u64 (v / 256^(i+1));exact congrArg u64 (by rw [Nat.pow_succ,Nat.div_div_eq_div_mul]))) rfl) rfl) (by show _=int ((n:Int) - 1 - ((i+1:Nat):Int));exact congrArg int (by omega))).symm,zle,mmQ,by omega,rfl⟩
 ·have k1:=h1;try simp only [zs] at k1
  refine Q35 ?_;refine Q5 ?_;refine o_q (q_b2s b2s178_9 rfl mmQ (by rw [u8l_length,st_size hi];omega) (by rw [List.drop_zero,List.take_of_length_le (by rw [u8l_length,st_size hi];exact Nat.le_refl _)];exact aStr_u8l _) rfl) rfl rfl rfl ?_;refine Q4 ?_;obtain rfl:i=n:=by omega
  exact⟨by rw [← stB_all];rfl,zle⟩
def tk167:Nat->Nat->Option Nat:=fun _ _=>none
def pl167:Nat->List PStep:=fun _=>[]
theorem cb167:Tryz.f167.body.map (codeB Tryz.prog Tryz.f167.ntmps tk167 pl167)=some true:=by kernel_rfl
theorem goes167:goesB Tryz.prog 167=true:=by kernel_rfl
theorem snd167 (k:Int)(M:Mem):SoundCall Tryz.prog 167 [int k] M fun r M'=>r=int (szK k:Nat)/\M'=M:=by
 refine SoundCall.go tk167 pl167 mixed Tryz.func167 cb167 rfl (Nat.le_of_ble_eq_true rfl) ?_;refine Q15 ?_;refine Q9 ?_;refine Q147 ?_;refine Q38 ?_;refine s_cond rfl (fun h1=>?_) (fun h1=>?_)
 ·have k1:=h1;try simp only [zs] at k1
  refine Q0 ?_;refine Q20 ?_;exact⟨congrArg int (by unfold szK;simp_all),rfl⟩
 ·have k1:=h1;try simp only [zs] at k1
  refine Q38 ?_;refine s_cond rfl (fun h2=>?_) (fun h2=>?_)
  ·have k2:=h2;try simp only [zs] at k2
   refine Q0 ?_;refine Q20 ?_;exact⟨congrArg int (by unfold szK;simp_all),rfl⟩
  ·have k2:=h2;try simp only [zs] at k2
   refine Q38 ?_;refine s_cond rfl (fun h3=>?_) (fun h3=>?_)
   ·have k3:=h3;try simp only [zs] at k3
    refine Q0 ?_;refine Q20 ?_;exact⟨congrArg int (by unfold szK;simp_all),rfl⟩
   ·have k3:=h3;try simp only [zs] at k3
    refine Q148 ?_;refine Q0 ?_;refine Q4 ?_;exact⟨congrArg int (by unfold szK;simp_all),rfl⟩
def tk105:Nat->Nat->Option Nat:=fun _ _=>none
def pl105:Nat->List PStep
 | 8=>[.q 0,.q 1,.q 2,.q 3,.q 5,.q 6,.s 4 [6,5,2,1,0],.q 7,.q 8,.q 9]
 | _=>[]
theorem cb105:Tryz.f105.body.map (codeB Tryz.prog Tryz.f105.ntmps tk105 pl105)=some true:=by kernel_rfl
theorem goes105:goesB Tryz.prog 105=true:=by kernel_rfl
theorem w81_1 (M:Mem):SoundCall Tryz.prog 167 [int 1] M fun r M'=>r=int 1/\M'=M:=snd167 1 M
theorem w81_2 (M:Mem):SoundCall Tryz.prog 167 [int 2] M fun r M'=>r=int 4/\M'=M:=snd167 2 M
theorem w81_3 (M:Mem):SoundCall Tryz.prog 167 [int 3] M fun r M'=>r=int 8/\M'=M:=snd167 3 M
theorem w81_4 (M:Mem):SoundCall Tryz.prog 167 [int 4] M fun r M'=>r=int 0/\M'=M:=snd167 4 M
theorem snd105b (n:Nat)(hn:n<2^8)(M:Mem):SoundCall Tryz.prog 105 [.agg [int 1,u64 n,str emp]] M fun r M'=>r = .tup [str (numB n 1),int 0]/\M.le M':=by
 refine Q225 ?_;refine Q0 ?_;refine o_box zbx rfl rfl (fun B1 hB1=>?_);have m1:M B1=none:=zm hB1;refine Q26 ?_;refine Q27 fo106_0 ag3 sz3 ?_;refine o_call ((w81_1 _)) goes167 (ac (v_raw rfl) ac_nil) rfl ?_;refine Q40 ?_;refine Q63 ?_;refine Q99 ?_;refine Q21 ?_;refine Q69 ?_;refine Q115 ?_;refine Q8 ?_;refine Q74 ?_;refine Q131 fo106_2 ?_;refine Q46 ag9 sz9 ?_;refine Q8 ?_;refine Q170 ?_;refine Q8 ?_;refine Q67 ?_;refine Q21 ?_;refine Q69 ?_;refine Q63 ?_;refine Q8 ?_;refine Q99 ?_;refine Q8 ?_;refine Q21 ?_;refine Q21 ?_;refine Q69 ?_;refine Q115 ?_;refine Q8 ?_;refine Q69 ?_;refine Q109 ?_;refine Q8 ?_;refine Q67 ?_;refine Q8 ?_;refine Q74 ?_;refine Q131 fo106_1 ?_;refine Q46 ag104 sz104 ?_;refine Q8 ?_;refine Q74 ?_;refine o_q (q_mul rfl rfl (wrap64 (by omega) (by omega))) rfl rfl rfl ?_;refine Q8 ?_;refine o_q (q_shru (n:=8) rfl rfl (by decide)) rfl rfl rfl ?_;refine Q8 ?_;refine Q108 ?_;refine Q8 ?_;refine Q67 ?_;refine Q21 ?_;refine Q1 ?_;refine s_else rfl (by show (!decide (((n / 2^8:Nat):Int)=0))=false;have h0:n / 2^8=0:=Nat.div_eq_of_lt hn;rw [h0];rfl) ?_;refine Q13 ?_;refine Q9 ?_;refine Q102 ?_;refine Q116 ?_;refine Q27 fo106_1 ag104 sz104 ?_;refine Q2 ?_;refine o_callx ((snd168 n 1 (by omega) (by decide) (by decide) _)) goes168 (ac (v_raw rfl) (ac (v_raw rfl) ac_nil)) rfl ?_;rintro r M' ⟨rfl,hq⟩;have bm1:=hq B1 _ (Mem.upd_self _ _ _);have hle:M.le M':=fun c o hc=>hq c o (Mem.upd_ne (Mem.ne_none hc m1) hc)
 refine Q28 ?_;refine Q11 ?_;exact ret_many (.inl rfl) rfl (rl_t rfl (rl_t rfl rl_nil)) rfl ⟨rfl,zle⟩
theorem snd105w (n:Nat)(hn:n<2^32)(M:Mem):SoundCall Tryz.prog 105 [.agg [int 2,u64 n,str emp]] M fun r M'=>r = .tup [str (numB n 4),int 0]/\M.le M':=by
 refine Q225 ?_;refine Q0 ?_;refine o_box zbx rfl rfl (fun B1 hB1=>?_);have m1:M B1=none:=zm hB1;refine Q26 ?_;refine Q27 fo106_0 ag3 sz3 ?_;refine o_call ((w81_2 _)) goes167 (ac (v_raw rfl) ac_nil) rfl ?_;refine Q40 ?_;refine Q63 ?_;refine Q99 ?_;refine Q21 ?_;refine Q69 ?_;refine Q115 ?_;refine Q8 ?_;refine Q74 ?_;refine Q131 fo106_2 ?_;refine Q46 ag9 sz9 ?_;refine Q8 ?_;refine Q170 ?_;refine Q8 ?_;refine Q67 ?_;refine Q21 ?_;refine Q69 ?_;refine Q63 ?_;refine Q8 ?_;refine Q99 ?_;refine Q8 ?_;refine Q21 ?_;refine Q21 ?_;refine Q69 ?_;refine Q115 ?_;refine Q8 ?_;refine Q69 ?_;refine Q109 ?_;refine Q8 ?_;refine Q67 ?_;refine Q8 ?_;refine Q74 ?_;refine Q131 fo106_1 ?_;refine Q46 ag104 sz104 ?_;refine Q8 ?_;refine Q74 ?_;refine o_q (q_mul rfl rfl (wrap64 (by omega) (by omega))) rfl rfl rfl ?_;refine Q8 ?_;refine o_q (q_shru (n:=32) rfl rfl (by decide)) rfl rfl rfl ?_;refine Q8 ?_;refine Q108 ?_;refine Q8 ?_;refine Q67 ?_;refine Q21 ?_;refine Q1 ?_;refine s_else rfl (by show (!decide (((n / 2^32:Nat):Int)=0))=false;have h0:n / 2^32=0:=Nat.div_eq_of_lt hn;rw [h0];rfl) ?_;refine Q13 ?_;refine Q9 ?_;refine Q102 ?_;refine Q116 ?_;refine Q27 fo106_1 ag104 sz104 ?_;refine Q2 ?_;refine o_callx ((snd168 n 4 (by omega) (by decide) (by decide) _)) goes168 (ac (v_raw rfl) (ac (v_raw rfl) ac_nil)) rfl ?_;rintro r M' ⟨rfl,hq⟩;have bm1:=hq B1 _ (Mem.upd_self _ _ _);have hle:M.le M':=fun c o hc=>hq c o (Mem.upd_ne (Mem.ne_none hc m1) hc)
 refine Q28 ?_;refine Q11 ?_;exact ret_many (.inl rfl) rfl (rl_t rfl (rl_t rfl rl_nil)) rfl ⟨rfl,zle⟩
theorem snd105l (n:Nat)(hn:n<2^64)(M:Mem):SoundCall Tryz.prog 105 [.agg [int 3,u64 n,str emp]] M fun r M'=>r = .tup [str (numB n 8),int 0]/\M.le M':=by
 refine Q225 ?_;refine Q0 ?_;refine o_box zbx rfl rfl (fun B1 hB1=>?_);have m1:M B1=none:=zm hB1;refine Q26 ?_;refine Q27 fo106_0 ag3 sz3 ?_;refine o_call ((w81_3 _)) goes167 (ac (v_raw rfl) ac_nil) rfl ?_;refine Q40 ?_;refine Q63 ?_;refine Q99 ?_;refine Q21 ?_;refine Q69 ?_;refine Q115 ?_;refine Q8 ?_;refine Q74 ?_;refine Q131 fo106_2 ?_;refine Q46 ag9 sz9 ?_;refine Q8 ?_;refine Q170 ?_;refine Q8 ?_;refine Q67 ?_;refine Q21 ?_;refine Q69 ?_;refine Q63 ?_;refine Q8 ?_;refine Q99 ?_;refine Q8 ?_;refine Q21 ?_;refine Q21 ?_;refine Q69 ?_;refine Q115 ?_;refine Q8 ?_;refine Q69 ?_;refine Q109 ?_;refine Q8 ?_;refine Q67 ?_;refine Q8 ?_;refine Q111 ?_;refine Q81 ?_;refine Q81 ?_;refine Q8 ?_;refine Q21 ?_;refine Q21 ?_;refine Q83 ?_;refine Q13 ?_;refine Q9 ?_;refine Q102 ?_;refine Q116 ?_;refine Q27 fo106_1 ag104 sz104 ?_;refine Q2 ?_;refine o_callx ((snd168 n 8 (by omega) (by decide) (by decide) _)) goes168 (ac (v_raw rfl) (ac (v_raw rfl) ac_nil)) rfl ?_;rintro r M' ⟨rfl,hq⟩;have bm1:=hq B1 _ (Mem.upd_self _ _ _);have hle:M.le M':=fun c o hc=>hq c o (Mem.upd_ne (Mem.ne_none hc m1) hc)
 refine Q28 ?_;refine Q11 ?_;exact ret_many (.inl rfl) rfl (rl_t rfl (rl_t rfl rl_nil)) rfl ⟨rfl,zle⟩
theorem snd105t (s:ByteArray)(hs:s.size<=100000)(M:Mem):SoundCall Tryz.prog 105 [.agg [int 4,u64 0,str s]] M fun r M'=>r = .tup [str (numB s.size 4++s),int 0]/\M.le M':=by
 have hz:=numB_size s.size 4;refine Q225 ?_;refine Q0 ?_;refine o_box zbx rfl rfl (fun B1 hB1=>?_);have m1:M B1=none:=zm hB1;refine Q26 ?_;refine Q27 fo106_0 ag3 sz3 ?_;refine o_call ((w81_4 _)) goes167 (ac (v_raw rfl) ac_nil) rfl ?_;refine Q40 ?_;refine Q63 ?_;refine Q74 ?_;refine Q131 fo106_0 ?_;refine Q46 ag3 sz3 ?_;refine Q8 ?_;refine Q108 ?_;refine Q67 ?_;refine Q69 ?_;refine Q115 ?_;refine Q8 ?_;refine Q99 ?_;refine Q8 ?_;refine Q21 ?_;refine Q21 ?_;refine Q69 ?_;refine Q63 ?_;refine Q8 ?_;refine Q74 ?_;refine Q131 fo106_1 ?_;refine Q46 ag104 sz104 ?_;refine Q8 ?_;refine Q108 ?_;refine Q8 ?_;refine Q67 ?_;refine Q21 ?_;refine Q69 ?_;refine Q115 ?_;refine Q8 ?_;refine Q111 ?_;refine Q8 ?_;refine Q21 ?_;refine Q8 ?_;refine Q111 ?_;refine Q81 ?_;refine Q81 ?_;refine Q8 ?_;refine Q21 ?_;refine Q21 ?_;refine Q83 ?_;refine Q13 ?_;refine Q9 ?_;refine Q115 ?_;refine Q83 ?_;refine Q82 ?_;refine Q12 fo106_2 ag9 sz9 ?_;refine Q61 und9 ?_;refine Q102 ?_;refine Q101 ?_;refine Q76 ?_;refine s_draw rfl ?_;refine Q77 fo106_2 ag9 sz9 ?_;refine d_q rfl (q_lens rfl und9 rfl) rfl rfl rfl ?_;refine d_q rfl (q_i2i und3 und104 rfl (u64_wrap (by omega) (by omega))) rfl rfl rfl ?_;refine Q77 fo106_2 ag9 sz9 ?_;refine Q3 ?_;refine o_callx ((snd168 s.size 4 (by omega) (by decide) (by decide) _)) goes168 (ac (v_raw rfl) (ac (v_raw rfl) ac_nil)) rfl ?_;rintro r M' ⟨rfl,hq⟩;have bm1:=hq B1 _ (Mem.upd_self _ _ _);have hle:M.le M':=fun c o hc=>hq c o (Mem.upd_ne (Mem.ne_none hc m1) hc)
 refine o_nil ⟨(by simp [Mem.upd, *]),?_⟩;refine d_q rfl (q_sadd rfl rfl (by omega)) rfl rfl rfl ?_;refine d_q rfl (q_as (v_raw rfl)) rfl rfl rfl ?_;refine Q125 ?_;exact ret_many (.inl rfl) rfl (rl_t rfl (rl_t rfl rl_nil)) rfl ⟨rfl,zle⟩
def tk46:Nat->Nat->Option Nat:=fun _ _=>none
def pl46:Nat->List PStep:=fun _=>[]
theorem cb46:Tryz.f46.body.map (codeB Tryz.prog Tryz.f46.ntmps tk46 pl46)=some true:=by kernel_rfl
theorem goes46:goesB Tryz.prog 46=true:=by kernel_rfl
def okI (x:Itm):Prop:=(x.kind=1/\x.n<2^8/\x.s=emp)\/(x.kind=2/\x.n<2^32/\x.s=emp)\/(x.kind=3/\x.n<2^64/\x.s=emp)\/(x.kind=4/\x.n=0/\x.s.size<=100000)
def bytI (x:Itm):ByteArray:=if x.kind=4 then numB x.s.size 4++x.s else numB x.n (szK x.kind)
theorem bytI_size {x:Itm}(h:okI x):(bytI x).size<=100004:=by
 unfold bytI;split
 ·rename_i e;rw [ByteArray.size_append,numB_size];rcases h with h|h|h|h<;>first|omega|(exfalso;omega)
 ·rw [numB_size];have:=szK_le x.kind;omega
theorem one100 (x:Itm)(h:okI x)(M:Mem):SoundCall Tryz.prog 105 [encIt x] M fun r M'=>r = .tup [str (bytI x),int 0]/\M.le M':=by
 obtain⟨k,n,s⟩:=x;rcases h with ⟨h1,h2,h3⟩|⟨h1,h2,h3⟩|⟨h1,h2,h3⟩|⟨h1,h2,h3⟩<;>dsimp only at h1 h2 h3<;>subst h1
 ·subst h3;exact snd105b n h2 M
 ·subst h3;exact snd105w n h2 M
 ·subst h3;exact snd105l n h2 M
 ·subst h2;exact snd105t s h3 M
def encAll (l:List Itm):ByteArray:=l.foldl (fun b x=>b++bytI x) emp
theorem encAll_succ {l:List Itm}{i:Nat}(h:i<l.length):encAll (l.take (i+1))=encAll (l.take i)++bytI l[i]:=by
 unfold encAll;rw [List.take_succ_eq_append_getElem h,List.foldl_append];rfl
theorem encAll_size (l:List Itm)(h:∀ x∈l,okI x):∀ i,i<=l.length->(encAll (l.take i)).size<=100004*i
 | 0,_=>Nat.le_refl 0
 | i+1,hi=>by
  have ih:=encAll_size l h i (by omega);rw [encAll_succ (by omega),ByteArray.size_append];have:=bytI_size (h l[i] (List.getElem_mem _));omega
theorem snd46 (l:List Itm)(o:Bool)(hl:l.length<=1000)(h:∀ x∈l,okI x)(M:Mem):SoundCall Tryz.prog 46 [.sl (l.map encIt) o] M fun r M'=>r = .tup [str (encAll l),int 0]/\M.le M':=by
 refine SoundCall.go tk46 pl46 mixed Tryz.func46 cb46 rfl (Nat.le_of_ble_eq_true rfl) ?_;refine Q0 ?_;refine Q26 ?_;refine Q31 ?_;refine Q41 und103 ?_;refine Q102 ?_;refine s_else rfl (decide_eq_false (by rw [List.length_map];omega)) ?_;refine Q13 ?_;refine Q15 ?_;refine Q31 ?_;refine Q130 ?_;refine s_loop (fun m S=>∃ T,∃ M':Mem,∃ i:Nat,S=⟨setT (setT (setT T 0 (.sl (l.map encIt) o)) 4 (str (encAll (l.take i)))) 5 (int i),M'⟩/\M.le M'/\i<=l.length/\m=l.length - i) l.length ?_ ?_
 ·exact⟨_,_,0,St.mkT (kp (kp (kp rfl rfl) rfl) rfl).symm,Mem.le_refl _,by omega,rfl⟩
 rintro m S ⟨T,M',i,rfl,hle,hi,rfl⟩;refine Q9 ?_;refine Q41 und103 ?_;refine Q84 ?_;refine s_cond rfl (fun h1=>?_) (fun h1=>?_)
 ·have k1:=h1;try simp only [zs] at k1
  have hil:i<l.length:=by omega
  have hsz:=encAll_size l h i hi;have hsb:=bytI_size (h l[i] (List.getElem_mem _));refine Q86 ?_;refine Q140 ?_;refine Q73 und103 sz106 ?_;refine Q177 ag106 sz106 ?_;refine o_callx ((one100 l[i] (h _ (List.getElem_mem _)) _)) goes105 (ac (v_agg rfl) ac_nil) rfl ?_;rintro r M'' ⟨rfl,hle2⟩;have hle3:M.le M'':=fun c o hc=>hle2 c o (hle c o hc)
  refine Q37 ?_;refine Q79 ?_;refine Q26 ?_;refine Q9 ?_;refine Q108 ?_;refine Q83 ?_;refine Q13 ?_;refine Q19 ?_;refine Q64 ?_;refine o_q (q_sadd rfl rfl (by omega)) rfl rfl rfl ?_;refine Q7 ?_;refine Q88 ?_;refine Q57 ?_;exact⟨l.length - (i+1),by omega,_,_,i+1,St.mkT (kp (kp (kp rfl rfl) (by show _=str (encAll (l.take (i+1)));rw [encAll_succ hil];rfl)) rfl).symm,hle3,by omega,rfl⟩
 ·have k1:=h1;try simp only [zs] at k1
  refine Q35 ?_;refine Q5 ?_;refine Q28 ?_;refine Q4 ?_;have e1:l.take i=l:=List.take_of_length_le (by omega);exact ret_many (.inl rfl) rfl (rl_t rfl (rl_t rfl rl_nil)) rfl ⟨by rw [e1];rfl,hle⟩
def tk136:Nat->Nat->Option Nat:=fun _ _=>none
def pl136:Nat->List PStep:=fun _=>[]
theorem cb136:Tryz.f136.body.map (codeB Tryz.prog Tryz.f136.ntmps tk136 pl136)=some true:=by kernel_rfl
theorem goes136:goesB Tryz.prog 136=true:=by kernel_rfl
theorem word_F {s:ByteArray}{i:Nat}(hi:i<s.size)(h:wordC ((s.data[i]'hi).toNat:Int)=false):word s=false:=by
 unfold word;rw [allF hi h,Bool.and_false]
theorem word_T {s:ByteArray}(h:∀ j,∀ hj:j<s.size,j<s.size->wordC (s.data[j]'hj).toNat=true):word s=(decide (1<=s.size) && decide (s.size<=20)):=by
 unfold word;rw [allT h (Nat.le_refl _),Bool.and_true];congr 1;by_cases e:s.size=0
 ·have:s=emp:=by
   have h1:s.data = #[]:=Array.eq_empty_of_size_eq_zero e;cases s;simp only at h1;subst h1;rfl
  subst this;rfl
 ·have:s≠emp:=fun h'=>e (by subst h';rfl)
  rw [decide_eq_true this,decide_eq_true (by omega)]
theorem snd136 (s:ByteArray)(M:Mem)(hs:s.size<2^63):SoundCall Tryz.prog 136 [str s] M fun r M'=>r=bool (word s)/\M'=M:=by
 refine SoundCall.go tk136 pl136 mixed Tryz.func136 cb136 rfl (Nat.le_of_ble_eq_true rfl) ?_;refine Q15 ?_;refine Q31 ?_;refine Q7 ?_;refine s_cut (fun S=>∃ T,S=⟨setT T 0 (str s),M⟩/\word s=(decide (1<=s.size) && decide (s.size<=20))) ?_ ?_
 ·refine s_block ?_;refine s_loop (fun m S=>∃ T,∃ i:Nat,S=⟨setT (setT T 0 (str s)) 3 (int (i:Nat)),M⟩/\(∀ j,∀ hj:j<s.size,j<i->wordC (s.data[j]'hj).toNat=true)/\i<=s.size/\m=s.size - i) s.size ?_ ?_
  ·exact⟨_,0,St.mkT (kp (kp rfl rfl) rfl).symm,fun j _ h=>by omega,by omega,rfl⟩
  rintro m S ⟨T,i,rfl,hok,hi,rfl⟩;refine Q9 ?_;refine Q2 ?_;refine Q61 und9 ?_;refine Q84 ?_;refine s_cond rfl (fun h1=>?_) (fun h1=>?_)
  ·have k1:=h1;try simp only [zs] at k1
   refine Q78 ?_;refine Q5 ?_;refine Q2 ?_;refine Q173 und9 ?_;refine Q23 ?_;refine Q2 ?_;refine o_cases (want:=true) (j:=4) rfl rfl (fun h2=>?_) (fun h2=>?_)
   ·have k2:=h2;try simp only [zs] at k2
    refine Q188 h2 ?_;refine Q60 h2 h2 ?_;refine Q173 und9 ?_;refine Q16 h2 ?_;refine Q89 ?_;refine Q32 h2 ?_;refine Q2 ?_;refine o_cases (want:=false) (j:=10) rfl rfl (fun h3=>?_) (fun h3=>?_)
    ·have k3:=h3;try simp only [zs] at k3
     refine Q188 h3 ?_;refine Q60 h3 h3 ?_;refine Q173 und9 ?_;refine Q16 h3 ?_;refine Q23 ?_;refine Q188 h3 ?_;refine o_cases (want:=true) (j:=15) rfl rfl (fun h4=>?_) (fun h4=>?_)
     ·have k4:=h4;try simp only [zs] at k4
      refine Q188 h4 ?_;refine Q60 h4 h4 ?_;refine Q173 und9 ?_;refine Q16 h4 ?_;refine Q89 ?_;refine Q16 h3 ?_;refine Q32 h4 ?_;refine Q30 h3 ?_;refine Q59 ?_;refine s_cond rfl (fun h5=>?_) (fun h5=>?_)
      ·have k5:=h5;try simp only [zs] at k5
       refine Q0 ?_;refine Q54 ?_;refine Q226 ?_;refine s_blk_ret ?_;refine s_inv_ret ?_;refine Q181 ?_;have hwc:wordC ((s.data[i]'(show i<s.size by omega)).toNat:Int)=false:=by
        unfold wordC;rw [Bool.or_eq_false_iff];simp only [Bool.and_eq_false_iff,decide_eq_false_iff_not];omega
       exact⟨congrArg bool (word_F (by omega) hwc).symm,rfl⟩
      ·have k5:=h5;try simp only [zs] at k5
       refine Q13 ?_;refine Q88 ?_;refine Q57 ?_;exact⟨s.size - (i+1),by omega,_,i+1,St.mkT (kp (kp rfl rfl) rfl).symm,ok_succ hok (by omega) (by simp_all [wordC]),by omega,rfl⟩
     ·have k4:=h4;try simp only [zs] at k4
      refine Q24 h4 h4 ?_;refine Q24 h4 h4 ?_;refine Q16 h3 ?_;refine Q30 h4 ?_;refine Q30 h3 ?_;refine Q59 ?_;refine Q116 ?_;refine Q0 ?_;refine Q54 ?_;refine Q226 ?_;refine s_blk_ret ?_;refine s_inv_ret ?_;refine Q181 ?_;have hwc:wordC ((s.data[i]'(show i<s.size by omega)).toNat:Int)=false:=by
       unfold wordC;rw [Bool.or_eq_false_iff];simp only [Bool.and_eq_false_iff,decide_eq_false_iff_not];omega
      exact⟨congrArg bool (word_F (by omega) hwc).symm,rfl⟩
    ·have k3:=h3;try simp only [zs] at k3
     refine Q24 h3 h3 ?_;refine Q106 h3 h3 h3 ?_;refine o_skip rfl rfl rfl rfl ?_;refine o_skip rfl rfl rfl rfl ?_;refine o_skip rfl rfl rfl rfl ?_;refine o_skip rfl rfl rfl rfl ?_;refine Q156 h3 ?_;refine Q32 h3 ?_;refine Q59 ?_;refine s_else rfl rfl ?_;refine Q13 ?_;refine Q88 ?_;refine Q57 ?_;exact⟨s.size - (i+1),by omega,_,i+1,St.mkT (kp (kp rfl rfl) rfl).symm,ok_succ hok (by omega) (by simp_all [wordC]),by omega,rfl⟩
   ·have k2:=h2;try simp only [zs] at k2
    refine Q24 h2 h2 ?_;refine Q24 h2 h2 ?_;refine Q30 h2 ?_;refine Q69 ?_;refine Q74 ?_;refine Q173 und9 ?_;refine Q8 ?_;refine Q23 ?_;refine Q8 ?_;refine Q2 ?_;refine o_cases (want:=true) (j:=15) rfl rfl (fun h6=>?_) (fun h6=>?_)
    ·have k6:=h6;try simp only [zs] at k6
     refine Q188 h6 ?_;refine Q60 h6 h6 ?_;refine Q173 und9 ?_;refine Q16 h6 ?_;refine Q89 ?_;refine Q8 ?_;refine Q32 h6 ?_;refine Q21 ?_;refine Q59 ?_;refine s_cond rfl (fun h7=>?_) (fun h7=>?_)
     ·have k7:=h7;try simp only [zs] at k7
      refine Q0 ?_;refine Q54 ?_;refine Q226 ?_;refine s_blk_ret ?_;refine s_inv_ret ?_;refine Q181 ?_;have hwc:wordC ((s.data[i]'(show i<s.size by omega)).toNat:Int)=false:=by
       unfold wordC;rw [Bool.or_eq_false_iff];simp only [Bool.and_eq_false_iff,decide_eq_false_iff_not];omega
      exact⟨congrArg bool (word_F (by omega) hwc).symm,rfl⟩
     ·have k7:=h7;try simp only [zs] at k7
      refine Q13 ?_;refine Q88 ?_;refine Q57 ?_;exact⟨s.size - (i+1),by omega,_,i+1,St.mkT (kp (kp rfl rfl) rfl).symm,ok_succ hok (by omega) (by simp_all [wordC]),by omega,rfl⟩
    ·have k6:=h6;try simp only [zs] at k6
     refine Q24 h6 h6 ?_;refine Q24 h6 h6 ?_;refine Q8 ?_;refine Q30 h6 ?_;refine Q21 ?_;refine Q59 ?_;refine Q116 ?_;refine Q0 ?_;refine Q54 ?_;refine Q226 ?_;refine s_blk_ret ?_;refine s_inv_ret ?_;refine Q181 ?_;have hwc:wordC ((s.data[i]'(show i<s.size by omega)).toNat:Int)=false:=by
      unfold wordC;rw [Bool.or_eq_false_iff];simp only [Bool.and_eq_false_iff,decide_eq_false_iff_not];omega
     exact⟨congrArg bool (word_F (by omega) hwc).symm,rfl⟩
  ·have k1:=h1;try simp only [zs] at k1
   refine Q35 ?_;refine s_inv ?_;obtain rfl:i=s.size:=by omega
   exact⟨_,St.mkT (kp rfl rfl).symm,word_T hok⟩
 rintro S ⟨T,rfl,hword⟩;refine Q5 ?_;refine Q61 und9 ?_;refine Q23 ?_;refine Q2 ?_;refine o_cases (want:=true) (j:=3) rfl rfl (fun h8=>?_) (fun h8=>?_)
 ·have k8:=h8;try simp only [zs] at k8
  refine Q60 h8 h8 ?_;refine Q61 und9 ?_;refine Q16 h8 ?_;refine Q89 ?_;refine Q32 h8 ?_;refine Q4 ?_;refine⟨congrArg bool ?_,rfl⟩;rw [hword,decide_eq_true (show 1<=s.size by omega),Bool.true_and,decide_eq_decide];omega
 ·have k8:=h8;try simp only [zs] at k8
  refine Q106 h8 h8 h8 ?_;refine Q30 h8 ?_;refine Q4 ?_;refine⟨congrArg bool ?_,rfl⟩;rw [hword,decide_eq_false (show ¬ 1<=s.size by omega)];rfl
def tk135:Nat->Nat->Option Nat:=fun _ _=>none
def pl135:Nat->List PStep:=fun _=>[]
theorem cb135:Tryz.f135.body.map (codeB Tryz.prog Tryz.f135.ntmps tk135 pl135)=some true:=by kernel_rfl
theorem goes135:goesB Tryz.prog 135=true:=by kernel_rfl
structure Cmd where
 kind:Int
 topic:ByteArray
 name:ByteArray
 seq:Int
 key:ByteArray
 val:ByteArray
 n:Int
 node:Int
 ask:Int
 deriving Inhabited
def encC (c:Cmd):AVal:=.agg [int c.kind,str c.topic,str c.name,int c.seq,str c.key,str c.val,int c.n,int c.node,int c.ask]
def nTopic (k:Int):Bool:=decide (k=1) || decide (k=2) || decide (k=3) || decide (k=8) || decide (k=9)
def nName (k:Int):Bool:=decide (k=2) || decide (k=3) || decide (k=4) || decide (k=5) || decide (k=6) || decide (k=7)
def nPub (k:Int):Bool:=decide (k=2)
def nNum (k:Int):Bool:=decide (k=3) || decide (k=5) || decide (k=6) || decide (k=7) || decide (k=8) || decide (k=9) || decide (k=10) || decide (k=11)
def nOk (k:Int):Bool:=decide (k=1) || decide (k=2) || decide (k=3) || decide (k=4) || decide (k=5) || decide (k=6) || decide (k=7) || decide (k=8) || decide (k=9) || decide (k=10) || decide (k=11)
theorem snd135 (k : Int) (M : Mem) : SoundCall Tryz.prog 135 [int k] M fun r M' => r = .tup [bool (nTopic k), bool (nName k), bool (nPub k), bool (nNum k), bool (nOk k)] ∧ M' = M := by
  refine SoundCall.go tk135 pl135 mixed Tryz.func135 cb135 rfl (Nat.le_of_ble_eq_true rfl) ?_
  refine Q47 ?_
  refine Q120 ?_
  refine Q26 ?_
  refine Q9 ?_
  refine Q147 ?_
  refine Q38 ?_
  refine s_cond rfl (fun h1 => ?_) (fun h1 => ?_)
  · have k1 := h1; try simp only [zs] at k1
    refine Q47 ?_
    refine Q120 ?_
    refine Q28 ?_
    refine Q20 ?_
    first
    | (subst_vars; exact ret_many (.inl rfl) rfl (rl_t rfl (rl_t rfl (rl_t rfl (rl_t rfl (rl_t rfl rl_nil))))) rfl ⟨rfl, rfl⟩)
    | (have a1 : nTopic k = false := by simp_all [nTopic]
       have a2 : nName k = false := by simp_all [nName]
       have a3 : nPub k = false := by simp_all [nPub]
       have a4 : nNum k = false := by simp_all [nNum]
       have a5 : nOk k = false := by simp_all [nOk]
       rw [a1, a2, a3, a4, a5]; exact ret_many (.inl rfl) rfl (rl_t rfl (rl_t rfl (rl_t rfl (rl_t rfl (rl_t rfl rl_nil))))) rfl ⟨rfl, rfl⟩)
  · have k1 := h1; try simp only [zs] at k1
    refine Q38 ?_
    refine s_cond rfl (fun h2 => ?_) (fun h2 => ?_)
    · have k2 := h2; try simp only [zs] at k2
      refine Q47 ?_
      refine Q120 ?_
      refine Q28 ?_
      refine Q20 ?_
      first
      | (subst_vars; exact ret_many (.inl rfl) rfl (rl_t rfl (rl_t rfl (rl_t rfl (rl_t rfl (rl_t rfl rl_nil))))) rfl ⟨rfl, rfl⟩)
      | (have a1 : nTopic k = false := by simp_all [nTopic]
         have a2 : nName k = false := by simp_all [nName]
         have a3 : nPub k = false := by simp_all [nPub]
         have a4 : nNum k = false := by simp_all [nNum]
         have a5 : nOk k = false := by simp_all [nOk]
         rw [a1, a2, a3, a4, a5]; exact ret_many (.inl rfl) rfl (rl_t rfl (rl_t rfl (rl_t rfl (rl_t rfl (rl_t rfl rl_nil))))) rfl ⟨rfl, rfl⟩)
    · have k2 := h2; try simp only [zs] at k2
      refine Q38 ?_
      refine s_cond rfl (fun h3 => ?_) (fun h3 => ?_)
      · have k3 := h3; try simp only [zs] at k3
        refine Q47 ?_
        refine Q120 ?_
        refine Q28 ?_
        refine Q20 ?_
        first
        | (subst_vars; exact ret_many (.inl rfl) rfl (rl_t rfl (rl_t rfl (rl_t rfl (rl_t rfl (rl_t rfl rl_nil))))) rfl ⟨rfl, rfl⟩)
        | (have a1 : nTopic k = false := by simp_all [nTopic]
           have a2 : nName k = false := by simp_all [nName]
           have a3 : nPub k = false := by simp_all [nPub]
           have a4 : nNum k = false := by simp_all [nNum]
           have a5 : nOk k = false := by simp_all [nOk]
           rw [a1, a2, a3, a4, a5]; exact ret_many (.inl rfl) rfl (rl_t rfl (rl_t rfl (rl_t rfl (rl_t rfl (rl_t rfl rl_nil))))) rfl ⟨rfl, rfl⟩)
      · have k3 := h3; try simp only [zs] at k3
        refine Q38 ?_
        refine s_cond rfl (fun h4 => ?_) (fun h4 => ?_)
        · have k4 := h4; try simp only [zs] at k4
          refine Q47 ?_
          refine Q120 ?_
          refine Q28 ?_
          refine Q20 ?_
          first
          | (subst_vars; exact ret_many (.inl rfl) rfl (rl_t rfl (rl_t rfl (rl_t rfl (rl_t rfl (rl_t rfl rl_nil))))) rfl ⟨rfl, rfl⟩)
          | (have a1 : nTopic k = false := by simp_all [nTopic]
             have a2 : nName k = false := by simp_all [nName]
             have a3 : nPub k = false := by simp_all [nPub]
             have a4 : nNum k = false := by simp_all [nNum]
             have a5 : nOk k = false := by simp_all [nOk]
             rw [a1, a2, a3, a4, a5]; exact ret_many (.inl rfl) rfl (rl_t rfl (rl_t rfl (rl_t rfl (rl_t rfl (rl_t rfl rl_nil))))) rfl ⟨rfl, rfl⟩)
        · have k4 := h4; try simp only [zs] at k4
          refine Q31 ?_
          refine Q65 ?_
          refine s_cond rfl (fun h5 => ?_) (fun h5 => ?_)
          · have k5 := h5; try simp only [zs] at k5
            refine Q145 h5 ?_
            refine Q47 ?_
            refine Q120 ?_
            refine Q28 ?_
            refine Q20 ?_
            first
            | (subst_vars; exact ret_many (.inl rfl) rfl (rl_t rfl (rl_t rfl (rl_t rfl (rl_t rfl (rl_t rfl rl_nil))))) rfl ⟨rfl, rfl⟩)
            | (have a1 : nTopic k = false := by simp_all [nTopic]
               have a2 : nName k = false := by simp_all [nName]
               have a3 : nPub k = false := by simp_all [nPub]
               have a4 : nNum k = false := by simp_all [nNum]
               have a5 : nOk k = false := by simp_all [nOk]
               rw [a1, a2, a3, a4, a5]; exact ret_many (.inl rfl) rfl (rl_t rfl (rl_t rfl (rl_t rfl (rl_t rfl (rl_t rfl rl_nil))))) rfl ⟨rfl, rfl⟩)
          · have k5 := h5; try simp only [zs] at k5
            refine Q38 ?_
            refine s_cond rfl (fun h6 => ?_) (fun h6 => ?_)
            · have k6 := h6; try simp only [zs] at k6
              refine Q145 h6 ?_
              refine Q47 ?_
              refine Q120 ?_
              refine Q28 ?_
              refine Q20 ?_
              first
              | (subst_vars; exact ret_many (.inl rfl) rfl (rl_t rfl (rl_t rfl (rl_t rfl (rl_t rfl (rl_t rfl rl_nil))))) rfl ⟨rfl, rfl⟩)
              | (have a1 : nTopic k = false := by simp_all [nTopic]
                 have a2 : nName k = false := by simp_all [nName]
                 have a3 : nPub k = false := by simp_all [nPub]
                 have a4 : nNum k = false := by simp_all [nNum]
                 have a5 : nOk k = false := by simp_all [nOk]
                 rw [a1, a2, a3, a4, a5]; exact ret_many (.inl rfl) rfl (rl_t rfl (rl_t rfl (rl_t rfl (rl_t rfl (rl_t rfl rl_nil))))) rfl ⟨rfl, rfl⟩)
            · have k6 := h6; try simp only [zs] at k6
              refine Q19 ?_
              refine Q65 ?_
              refine s_cond rfl (fun h7 => ?_) (fun h7 => ?_)
              · have k7 := h7; try simp only [zs] at k7
                refine Q47 ?_
                refine Q120 ?_
                refine Q28 ?_
                refine Q20 ?_
                first
                | (subst_vars; exact ret_many (.inl rfl) rfl (rl_t rfl (rl_t rfl (rl_t rfl (rl_t rfl (rl_t rfl rl_nil))))) rfl ⟨rfl, rfl⟩)
                | (have a1 : nTopic k = false := by simp_all [nTopic]
                   have a2 : nName k = false := by simp_all [nName]
                   have a3 : nPub k = false := by simp_all [nPub]
                   have a4 : nNum k = false := by simp_all [nNum]
                   have a5 : nOk k = false := by simp_all [nOk]
                   rw [a1, a2, a3, a4, a5]; exact ret_many (.inl rfl) rfl (rl_t rfl (rl_t rfl (rl_t rfl (rl_t rfl (rl_t rfl rl_nil))))) rfl ⟨rfl, rfl⟩)
              · have k7 := h7; try simp only [zs] at k7
                refine Q31 ?_
                refine Q65 ?_
                refine s_cond rfl (fun h8 => ?_) (fun h8 => ?_)
                · have k8 := h8; try simp only [zs] at k8
                  refine Q145 h8 ?_
                  refine Q47 ?_
                  refine Q120 ?_
                  refine Q28 ?_
                  refine Q20 ?_
                  first
                  | (subst_vars; exact ret_many (.inl rfl) rfl (rl_t rfl (rl_t rfl (rl_t rfl (rl_t rfl (rl_t rfl rl_nil))))) rfl ⟨rfl, rfl⟩)
                  | (have a1 : nTopic k = false := by simp_all [nTopic]
                     have a2 : nName k = false := by simp_all [nName]
                     have a3 : nPub k = false := by simp_all [nPub]
                     have a4 : nNum k = false := by simp_all [nNum]
                     have a5 : nOk k = false := by simp_all [nOk]
                     rw [a1, a2, a3, a4, a5]; exact ret_many (.inl rfl) rfl (rl_t rfl (rl_t rfl (rl_t rfl (rl_t rfl (rl_t rfl rl_nil))))) rfl ⟨rfl, rfl⟩)
                · have k8 := h8; try simp only [zs] at k8
                  refine Q19 ?_
                  refine Q65 ?_
                  refine s_cond rfl (fun h9 => ?_) (fun h9 => ?_)
                  · have k9 := h9; try simp only [zs] at k9
                    refine Q47 ?_
                    refine Q120 ?_
                    refine Q28 ?_
                    refine Q20 ?_
                    first
                    | (subst_vars; exact ret_many (.inl rfl) rfl (rl_t rfl (rl_t rfl (rl_t rfl (rl_t rfl (rl_t rfl rl_nil))))) rfl ⟨rfl, rfl⟩)
                    | (have a1 : nTopic k = false := by simp_all [nTopic]
                       have a2 : nName k = false := by simp_all [nName]
                       have a3 : nPub k = false := by simp_all [nPub]
                       have a4 : nNum k = false := by simp_all [nNum]
                       have a5 : nOk k = false := by simp_all [nOk]
                       rw [a1, a2, a3, a4, a5]; exact ret_many (.inl rfl) rfl (rl_t rfl (rl_t rfl (rl_t rfl (rl_t rfl (rl_t rfl rl_nil))))) rfl ⟨rfl, rfl⟩)
                  · have k9 := h9; try simp only [zs] at k9
                    refine Q31 ?_
                    refine Q65 ?_
                    refine s_cond rfl (fun h10 => ?_) (fun h10 => ?_)
                    · have k10 := h10; try simp only [zs] at k10
                      refine Q145 h10 ?_
                      refine Q47 ?_
                      refine Q120 ?_
                      refine Q28 ?_
                      refine Q20 ?_
                      first
                      | (subst_vars; exact ret_many (.inl rfl) rfl (rl_t rfl (rl_t rfl (rl_t rfl (rl_t rfl (rl_t rfl rl_nil))))) rfl ⟨rfl, rfl⟩)
                      | (have a1 : nTopic k = false := by simp_all [nTopic]
                         have a2 : nName k = false := by simp_all [nName]
                         have a3 : nPub k = false := by simp_all [nPub]
                         have a4 : nNum k = false := by simp_all [nNum]
                         have a5 : nOk k = false := by simp_all [nOk]
                         rw [a1, a2, a3, a4, a5]; exact ret_many (.inl rfl) rfl (rl_t rfl (rl_t rfl (rl_t rfl (rl_t rfl (rl_t rfl rl_nil))))) rfl ⟨rfl, rfl⟩)
                    · have k10 := h10; try simp only [zs] at k10
                      refine Q19 ?_
                      refine Q65 ?_
                      refine s_cond rfl (fun h11 => ?_) (fun h11 => ?_)
                      · have k11 := h11; try simp only [zs] at k11
                        refine Q47 ?_
                        refine Q120 ?_
                        refine Q28 ?_
                        refine Q20 ?_
                        first
                        | (subst_vars; exact ret_many (.inl rfl) rfl (rl_t rfl (rl_t rfl (rl_t rfl (rl_t rfl (rl_t rfl rl_nil))))) rfl ⟨rfl, rfl⟩)
                        | (have a1 : nTopic k = false := by simp_all [nTopic]
                           have a2 : nName k = false := by simp_all [nName]
                           have a3 : nPub k = false := by simp_all [nPub]
                           have a4 : nNum k = false := by simp_all [nNum]
                           have a5 : nOk k = false := by simp_all [nOk]
                           rw [a1, a2, a3, a4, a5]; exact ret_many (.inl rfl) rfl (rl_t rfl (rl_t rfl (rl_t rfl (rl_t rfl (rl_t rfl rl_nil))))) rfl ⟨rfl, rfl⟩)
                      · have k11 := h11; try simp only [zs] at k11
                        refine Q148 ?_
                        refine Q47 ?_
                        refine Q120 ?_
                        refine Q28 ?_
                        refine Q4 ?_
                        first
                        | (subst_vars; exact ret_many (.inl rfl) rfl (rl_t rfl (rl_t rfl (rl_t rfl (rl_t rfl (rl_t rfl rl_nil))))) rfl ⟨rfl, rfl⟩)
                        | (have a1 : nTopic k = false := by simp_all [nTopic]
                           have a2 : nName k = false := by simp_all [nName]
                           have a3 : nPub k = false := by simp_all [nPub]
                           have a4 : nNum k = false := by simp_all [nNum]
                           have a5 : nOk k = false := by simp_all [nOk]
                           rw [a1, a2, a3, a4, a5]; exact ret_many (.inl rfl) rfl (rl_t rfl (rl_t rfl (rl_t rfl (rl_t rfl (rl_t rfl rl_nil))))) rfl ⟨rfl, rfl⟩)
def tk69:Nat->Nat->Option Nat:=fun _ _=>none
def pl69:Nat->List PStep:=fun _=>[]
theorem cb69:Tryz.f69.body.map (codeB Tryz.prog Tryz.f69.ntmps tk69 pl69)=some true:=by kernel_rfl
theorem goes69:goesB Tryz.prog 69=true:=by kernel_rfl
def rangeC (c:Cmd):Bool:=nOk c.kind && decide (0<=c.node) && decide (c.node<=6) && decide (0<=c.ask) && decide (c.ask<=9007199254740991) && decide (0<=c.seq) && decide (c.seq<=9007199254740991) && decide (-1<=c.n) && decide (c.n<=9007199254740991)
def namesC (c:Cmd):Bool:=(if nTopic c.kind then word c.topic else decide (c.topic=emp)) && (if nName c.kind then word c.name else decide (c.name=emp))
def pubC (c:Cmd):Bool:=(nPub c.kind || decide (c.seq=0) && decide (c.key=emp) && decide (c.val=emp)) && decide (c.key.size<=100) && decide (c.val.size<=1000)
def numC (k n:Int):Bool:=if nNum k then (if k=5 then decide (1<=n) && decide (n<=50) else if k=10\/k=11 then decide (0<=n) && decide (n<7) else if k=3 then true else decide (0<=n)) else decide (n=0)
def rightC (c:Cmd):Bool:=rangeC c && namesC c && pubC c && numC c.kind c.n
theorem word_emp':word { data:=#[] }=false:=by kernel_rfl
theorem snd69 (c:Cmd)(hs:c.topic.size<2^62/\c.name.size<2^62)(M:Mem):SoundCall Tryz.prog 69 [encC c] M fun r M'=>r=bool (rightC c)/\M.le M':=by
 refine SoundCall.go tk69 pl69 mixed Tryz.func69 cb69 rfl (Nat.le_of_ble_eq_true rfl) ?_;refine Q0 ?_;refine o_box zbx rfl rfl (fun B1 hB1=>?_);have m1:M B1=none:=zm hB1;refine Q7 ?_;refine Q27 fo58_0 ag3 sz3 ?_;refine o_call ((snd135 c.kind _)) goes135 (ac (v_raw rfl) ac_nil) rfl ?_;refine Q37 ?_;refine Q79 ?_;refine Q79 ?_;refine Q80 ?_;refine Q120 ?_;refine Q28 ?_;refine Q26 ?_;refine Q9 ?_;refine Q90 ?_;refine Q17 fo58_7 ag3 sz3 ?_;refine Q105 ?_;refine Q44 ?_;refine Q17 fo58_7 ag3 sz3 ?_;refine Q68 ?_;refine Q17 fo58_8 ag3 sz3 ?_;refine Q105 ?_;refine Q44 ?_;refine Q17 fo58_8 ag3 sz3 ?_;refine Q68 ?_;refine Q17 fo58_3 ag3 sz3 ?_;refine Q105 ?_;refine Q44 ?_;refine Q17 fo58_3 ag3 sz3 ?_;refine Q68 ?_;refine Q17 fo58_6 ag3 sz3 ?_;refine Q105 ?_;refine Q44 ?_;refine Q17 fo58_6 ag3 sz3 ?_;refine Q68 ?_;refine Q1 ?_;refine s_cond rfl (fun h1=>?_) (fun h1=>?_)
 ·have k1:=h1;try simp only [zs] at k1
  refine Q0 ?_;refine Q11 ?_;refine⟨congrArg bool ?_,zle⟩;have e1:rangeC c=false:=by unfold rangeC;rw [Bool.eq_false_iff];intro e;simp only [Bool.and_eq_true,decide_eq_true_eq] at e;simp only [Bool.or_eq_true,Bool.not_eq_true',decide_eq_true_eq] at h1;rcases h1 with (((((((h1|h1)|h1)|h1)|h1)|h1)|h1)|h1)|h1<;>first|omega|simp_all
  unfold rightC;rw [e1];rfl
 ·have k1:=h1;try simp only [zs] at k1
  have e1:rangeC c=true:=by
   unfold rangeC;simp only [Bool.or_eq_false_iff,Bool.not_eq_false',decide_eq_false_iff_not] at h1;simp only [Bool.and_eq_true,decide_eq_true_eq];refine⟨⟨⟨⟨⟨⟨⟨⟨by simp_all,?_⟩,?_⟩,?_⟩,?_⟩,?_⟩,?_⟩,?_⟩,?_⟩<;>omega
  refine Q13 ?_;refine Q27 fo58_1 ag9 sz9 ?_;refine o_call ((snd136 c.topic _ (by have:=hs.1;omega))) goes136 (ac (v_raw rfl) ac_nil) rfl ?_;refine Q7 ?_;refine Q27 fo58_2 ag9 sz9 ?_;refine o_call ((snd136 c.name _ (by have:=hs.2;omega))) goes136 (ac (v_raw rfl) ac_nil) rfl ?_;refine Q40 ?_;refine Q2 ?_;refine o_q (q_bneq und4 rfl rfl) rfl rfl rfl ?_;refine Q2 ?_;refine Q97 ?_;refine Q158 ?_;refine Q191 ?_;refine Q192 fo58_1 ?_;refine Q205 ag9 sz9 ?_;refine Q227 ?_;refine Q228 ?_;refine Q44 ?_;refine Q2 ?_;refine Q97 ?_;refine Q97 ?_;refine o_g (G:=true) rfl rfl rfl rfl rfl (fun hG hc=>(q_bneq und4 (gv_on (gv_and hG hc) rfl) (gv_on (gv_and hG hc) rfl))) ?_;refine Q44 ?_;refine Q2 ?_;refine Q97 ?_;refine Q158 ?_;refine Q191 ?_;refine Q192 fo58_2 ?_;refine Q205 ag9 sz9 ?_;refine Q227 ?_;refine Q228 ?_;refine Q44 ?_;refine Q1 ?_;refine s_cond rfl (fun h2=>?_) (fun h2=>?_)
  ·have k2:=h2;try simp only [zs] at k2
   refine Q0 ?_;refine Q11 ?_;refine⟨congrArg bool ?_,zle⟩;have e2:namesC c=false:=by
    unfold namesC;rw [Bool.eq_false_iff];intro e
    revert h2 e
    cases nTopic c.kind<;>cases nName c.kind<;>cases hw1:word c.topic<;>cases hw2:word c.name<;>by_cases ht:c.topic = { data:=#[] }<;>by_cases hn:c.name = { data:=#[] }<;>simp_all [emp,word_emp']
   unfold rightC;rw [e1,e2];rfl
  ·have k2:=h2;try simp only [zs] at k2
   have e2:namesC c=true:=by
    unfold namesC;rw [← Bool.not_eq_false];intro e
    revert h2 e
    cases nTopic c.kind<;>cases nName c.kind<;>cases hw1:word c.topic<;>cases hw2:word c.name<;>by_cases ht:c.topic = { data:=#[] }<;>by_cases hn:c.name = { data:=#[] }<;>simp_all [emp,word_emp']
   refine Q13 ?_;refine Q9 ?_;refine Q90 ?_;refine Q17 fo58_3 ag3 sz3 ?_;refine o_g (G:=true) rfl rfl rfl rfl rfl (fun hG hc=>(q_neq (gv_on (gv_and hG hc) rfl) rfl)) ?_;refine Q191 ?_;refine Q192 fo58_4 ?_;refine Q205 ag9 sz9 ?_;refine Q227 ?_;refine o_g (G:=true) rfl rfl rfl rfl rfl (fun hG hc=>(q_por (c:=_) (b:=_) (gv_and hG hc) rfl rfl)) ?_;refine Q191 ?_;refine Q192 fo58_5 ?_;refine Q205 ag9 sz9 ?_;refine Q227 ?_;refine o_g (G:=true) rfl rfl rfl rfl rfl (fun hG hc=>(q_por (c:=_) (b:=_) (gv_and hG hc) rfl rfl)) ?_;refine Q53 ?_;refine Q17 fo58_4 ag9 sz9 ?_;refine Q206 und9 ?_;refine Q68 ?_;refine Q17 fo58_5 ag9 sz9 ?_;refine Q206 und9 ?_;refine Q68 ?_;refine Q1 ?_;refine s_cond rfl (fun h3=>?_) (fun h3=>?_)
   ·have k3:=h3;try simp only [zs] at k3
    refine Q0 ?_;refine Q11 ?_;refine⟨congrArg bool ?_,zle⟩;have e3:pubC c=false:=by
     unfold pubC;rw [Bool.eq_false_iff];intro e
     revert h3 e
     have hz:({ data:=#[] }:ByteArray).size=0:=rfl;by_cases hq:c.seq=0<;>by_cases hk:c.key = { data:=#[] }<;>by_cases hv:c.val = { data:=#[] }<;>cases nPub c.kind<;>simp_all [emp]<;>omega
    unfold rightC;rw [e1,e2,e3];rfl
   ·have k3:=h3;try simp only [zs] at k3
    have e3:pubC c=true:=by
     unfold pubC;rw [← Bool.not_eq_false];intro e
     revert h3 e
     have hz:({ data:=#[] }:ByteArray).size=0:=rfl;by_cases hq:c.seq=0<;>by_cases hk:c.key = { data:=#[] }<;>by_cases hv:c.val = { data:=#[] }<;>cases nPub c.kind<;>simp_all [emp]<;>omega
    refine Q13 ?_;refine Q9 ?_;refine Q59 ?_;refine s_cond rfl (fun h4=>?_) (fun h4=>?_)
    ·have k4:=h4;try simp only [zs] at k4
     refine Q27 fo58_6 ag3 sz3 ?_;refine Q63 ?_;refine Q11 ?_;refine⟨congrArg bool ?_,zle⟩;unfold rightC;rw [e1,e2,e3];unfold numC;simp_all
    ·have k4:=h4;try simp only [zs] at k4
     refine Q82 ?_;refine Q12 fo58_0 ag3 sz3 ?_;refine Q147 ?_;refine Q38 ?_;refine s_cond rfl (fun h5=>?_) (fun h5=>?_)
     ·have k5:=h5;try simp only [zs] at k5
      refine Q27 fo58_6 ag3 sz3 ?_;refine Q23 ?_;refine Q17 fo58_6 ag3 sz3 ?_;refine Q193 ?_;refine Q53 ?_;refine Q20 ?_;refine⟨congrArg bool ?_,zle⟩;unfold rightC;rw [e1,e2,e3];unfold numC;simp_all
     ·have k5:=h5;try simp only [zs] at k5
      refine Q31 ?_;refine Q65 ?_;refine s_cond rfl (fun h6=>?_) (fun h6=>?_)
      ·have k6:=h6;try simp only [zs] at k6
       refine Q145 h6 ?_;refine Q27 fo58_6 ag3 sz3 ?_;refine Q23 ?_;refine Q17 fo58_6 ag3 sz3 ?_;refine Q105 ?_;refine Q53 ?_;refine Q20 ?_;refine⟨congrArg bool ?_,zle⟩;unfold rightC;rw [e1,e2,e3];unfold numC;simp_all
      ·have k6:=h6;try simp only [zs] at k6
       refine Q19 ?_;refine Q65 ?_;refine s_cond rfl (fun h7=>?_) (fun h7=>?_)
       ·have k7:=h7;try simp only [zs] at k7
        refine Q27 fo58_6 ag3 sz3 ?_;refine Q23 ?_;refine Q17 fo58_6 ag3 sz3 ?_;refine Q105 ?_;refine Q53 ?_;refine Q20 ?_;refine⟨congrArg bool ?_,zle⟩;unfold rightC;rw [e1,e2,e3];unfold numC;simp_all
       ·have k7:=h7;try simp only [zs] at k7
        refine Q38 ?_;refine s_cond rfl (fun h8=>?_) (fun h8=>?_)
        ·have k8:=h8;try simp only [zs] at k8
         refine Q0 ?_;refine Q20 ?_;refine⟨congrArg bool ?_,zle⟩;unfold rightC;rw [e1,e2,e3];unfold numC;simp_all
        ·have k8:=h8;try simp only [zs] at k8
         refine Q148 ?_;refine Q27 fo58_6 ag3 sz3 ?_;refine Q23 ?_;refine Q4 ?_;refine⟨congrArg bool ?_,zle⟩;unfold rightC;rw [e1,e2,e3];unfold numC;simp_all
def tk70:Nat->Nat->Option Nat:=fun _ _=>none
def pl70:Nat->List PStep:=fun _=>[]
theorem cb70:Tryz.f70.body.map (codeB Tryz.prog Tryz.f70.ntmps tk70 pl70)=some true:=by kernel_rfl
theorem goes70:goesB Tryz.prog 70=true:=by kernel_rfl
theorem snd70 (n:Int)(h0:0<=n)(h1:n<2^63)(M:Mem):SoundCall Tryz.prog 70 [int n] M fun r M'=>r=encIt ⟨1,n.toNat,emp⟩/\M.le M':=by
 refine SoundCall.go tk70 pl70 mixed Tryz.func70 cb70 rfl (Nat.le_of_ble_eq_true rfl) ?_;refine Q0 ?_;refine o_alloc zc106 (fun B1 hB1=>?_);have m1:M B1=none:=zm hB1;refine Q1 ?_;refine Q5 ?_;refine Q141 und3 und104 ?_;refine Q159 bz106 bp106 fo106_0 fo106_1 ?_;refine Q75 sz106 ?_;have e:((n.toNat:Nat):Int)=n:=Int.toNat_of_nonneg h0;exact ret_one (.inl rfl) rfl (rl_c rfl mmQ (loadP_w ag106 sz106 rfl rfl) rfl rl_nil) ⟨by show _=AVal.agg [int 1,.raw (.int .u64 ((n.toNat:Nat):Int)),str emp];rw [e];rfl,zle⟩
def tk72:Nat->Nat->Option Nat:=fun _ _=>none
def pl72:Nat->List PStep:=fun _=>[]
theorem cb72:Tryz.f72.body.map (codeB Tryz.prog Tryz.f72.ntmps tk72 pl72)=some true:=by kernel_rfl
theorem goes72:goesB Tryz.prog 72=true:=by kernel_rfl
theorem snd72 (n:Int)(h0:0<=n)(h1:n<2^63)(M:Mem):SoundCall Tryz.prog 72 [int n] M fun r M'=>r=encIt ⟨3,n.toNat,emp⟩/\M.le M':=by
 refine SoundCall.go tk72 pl72 mixed Tryz.func72 cb72 rfl (Nat.le_of_ble_eq_true rfl) ?_;refine Q0 ?_;refine o_alloc zc106 (fun B1 hB1=>?_);have m1:M B1=none:=zm hB1;refine Q1 ?_;refine Q5 ?_;refine Q141 und3 und104 ?_;refine Q159 bz106 bp106 fo106_0 fo106_1 ?_;refine Q75 sz106 ?_;have e:((n.toNat:Nat):Int)=n:=Int.toNat_of_nonneg h0;exact ret_one (.inl rfl) rfl (rl_c rfl mmQ (loadP_w ag106 sz106 rfl rfl) rfl rl_nil) ⟨by show _=AVal.agg [int 3,.raw (.int .u64 ((n.toNat:Nat):Int)),str emp];rw [e];rfl,zle⟩
def tk71:Nat->Nat->Option Nat:=fun _ _=>none
def pl71:Nat->List PStep:=fun _=>[]
theorem cb71:Tryz.f71.body.map (codeB Tryz.prog Tryz.f71.ntmps tk71 pl71)=some true:=by kernel_rfl
theorem goes71:goesB Tryz.prog 71=true:=by kernel_rfl
theorem snd71 (s:ByteArray)(M:Mem):SoundCall Tryz.prog 71 [str s] M fun r M'=>r=encIt ⟨4,0,s⟩/\M.le M':=by
 refine SoundCall.go tk71 pl71 mixed Tryz.func71 cb71 rfl (Nat.le_of_ble_eq_true rfl) ?_;refine Q0 ?_;refine o_alloc zc106 (fun B1 hB1=>?_);have m1:M B1=none:=zm hB1;refine Q1 ?_;refine Q5 ?_;refine Q194 bz106 bp106 fo106_0 fo106_2 ?_;refine Q75 sz106 ?_;exact ret_one (.inl rfl) rfl (rl_c rfl mmQ (loadP_w ag106 sz106 rfl rfl) rfl rl_nil) ⟨rfl,zle⟩
def tk25:Nat->Nat->Option Nat:=fun _ _=>none
def pl25:Nat->List PStep
 | 4=>[.q 0,.q 1,.q 3,.q 4,.q 6,.q 7,.q 9,.q 10,.q 12,.q 13,.q 15,.q 16,.q 18,.q 19,.q 20,.q 22,.q 23,.q 25,.q 26,.s 2 [26,25,23,22,20,19,18,16,15,13,12,10,9,7,6,4,3,0],.s 5 [26,25,23,22,20,19,18,16,15,13,12,10,9,7,6,3,1,0],.s 8 [26,25,23,22,20,19,18,16,15,13,12,10,9,6,4,3,1,0],.s 11 [26,25,23,22,20,19,18,16,15,13,12,9,7,6,4,3,1,0],.s 14 [26,25,23,22,20,19,18,16,15,12,10,9,7,6,4,3,1,0],.s 17 [26,25,23,22,20,19,18,15,13,12,10,9,7,6,4,3,1,0],.s 21 [26,25,23,22,19,18,16,15,13,12,10,9,7,6,4,3,1,0],.s 24 [26,25,22,20,19,18,16,15,13,12,10,9,7,6,4,3,1,0],.s 27 [25,23,22,20,19,18,16,15,13,12,10,9,7,6,4,3,1,0],.q 28,.s 29 [26,25,23,22,20,19,18,16,15,13,12,10,9,7,6,4,3,1,0],.q 30,.q 31,.q 32,.q 33,.q 34]
 | _=>[]
theorem cb25:Tryz.f25.body.map (codeB Tryz.prog Tryz.f25.ntmps tk25 pl25)=some true:=by kernel_rfl
theorem goes25:goesB Tryz.prog 25=true:=by kernel_rfl
def itemsC (c:Cmd):List Itm:=[⟨1,c.kind.toNat,emp⟩,⟨4,0,c.topic⟩,⟨4,0,c.name⟩,⟨3,c.seq.toNat,emp⟩,⟨4,0,c.key⟩,⟨4,0,c.val⟩,⟨3,(c.n+1).toNat,emp⟩,⟨1,c.node.toNat,emp⟩,⟨3,c.ask.toNat,emp⟩]
def bytC (c:Cmd):ByteArray:=encAll (itemsC c)
theorem nOk_le {k:Int}(h:nOk k=true):1<=k/\k<=11:=by
 unfold nOk at h;simp only [Bool.or_eq_true,decide_eq_true_eq] at h;omega
theorem word_le {s:ByteArray}(h:word s=true):s.size<=20:=by
 unfold word at h;simp only [Bool.and_eq_true,decide_eq_true_eq] at h;exact h.1.2
theorem rightC_le {c:Cmd}(h:rightC c=true):(1<=c.kind/\c.kind<=11)/\(0<=c.node/\c.node<=6)/\(0<=c.ask/\c.ask<=9007199254740991)/\(0<=c.seq/\c.seq<=9007199254740991)/\(-1<=c.n/\c.n<=9007199254740991)/\c.topic.size<=20/\c.name.size<=20/\c.key.size<=100/\c.val.size<=1000:=by
 unfold rightC rangeC namesC pubC at h;simp only [Bool.and_eq_true,decide_eq_true_eq] at h;obtain⟨⟨⟨⟨⟨⟨⟨⟨⟨⟨⟨h1,h2⟩,h3⟩,h4⟩,h5⟩,h6⟩,h7⟩,h8⟩,h9⟩,h10,h11⟩,⟨-,h12⟩,h13⟩,-⟩:=h;have hz:emp.size=0:=rfl;refine⟨nOk_le h1,⟨h2,h3⟩,⟨h4,h5⟩,⟨h6,h7⟩,⟨h8,h9⟩,?_,?_,h12,h13⟩
 ·split at h10
  ·exact word_le h10
  ·rw [of_decide_eq_true h10,hz];omega
 ·split at h11
  ·exact word_le h11
  ·rw [of_decide_eq_true h11,hz];omega
theorem okItems {c:Cmd}(h:rightC c=true):∀ x∈itemsC c,okI x:=by
 obtain⟨h1,h2,h3,h4,h5,h6,h7,h8,h9⟩:=rightC_le h;intro x hx;simp only [itemsC,List.mem_cons,List.not_mem_nil,or_false] at hx;rcases hx with rfl|rfl|rfl|rfl|rfl|rfl|rfl|rfl|rfl<;>unfold okI<;>dsimp only<;>first|(left;exact⟨rfl,by omega,rfl⟩)|(right;right;left;exact⟨rfl,by omega,rfl⟩)|(right;right;right;exact⟨rfl,rfl,by omega⟩)
theorem snd25 (c:Cmd)(hs:c.topic.size<2^62/\c.name.size<2^62)(M:Mem):SoundCall Tryz.prog 25 [encC c] M fun r M'=>r = .tup [str (if rightC c then bytC c else emp),bool (rightC c)]/\M.le M':=by
 refine SoundCall.go tk25 pl25 mixed Tryz.func25 cb25 rfl (Nat.le_of_ble_eq_true rfl) ?_;refine Q0 ?_;refine o_box zbx rfl rfl (fun B1 hB1=>?_);have m1:M B1=none:=zm hB1;refine Q26 ?_;refine Q34 ag58 sz58 ?_;refine o_call ((snd69 c hs _).det) goes69 (ac (v_agg rfl) ac_nil) rfl ?_;refine Q40 ?_;refine Q59 ?_;refine s_cond rfl (fun h1=>?_) (fun h1=>?_)
 ·have k1:=h1;try simp only [zs] at k1
  refine Q47 ?_;refine Q11 ?_;have hr:rightC c=false:=by simpa using h1
  exact ret_many (.inl rfl) rfl (rl_t rfl (rl_t rfl rl_nil)) rfl ⟨by rw [hr];rfl,zle⟩
 ·have k1:=h1;try simp only [zs] at k1
  have hr:rightC c=true:=by simpa using h1
  obtain⟨b1,b2,b3,b4,b5,b6,b7,b8,b9⟩:=rightC_le hr;refine Q76 ?_;refine s_draw rfl ?_;refine Q43 fo58_0 ag3 sz3 fo58_1 ag9 sz9 ?_;refine Q43 fo58_2 ag9 sz9 fo58_3 ag3 sz3 ?_;refine Q43 fo58_4 ag9 sz9 fo58_5 ag9 sz9 ?_;refine Q77 fo58_6 ag3 sz3 ?_;refine d_q rfl (q_add rfl rfl (wrap64 (by omega) (by omega))) rfl rfl rfl ?_;refine Q43 fo58_7 ag3 sz3 fo58_8 ag3 sz3 ?_;refine Q3 ?_;refine o_call ((snd70 c.kind (by omega) (by omega) _).det) goes70 (ac (v_raw rfl) ac_nil) rfl ?_;refine o_nil ⟨(by simp [Mem.upd, *]),?_⟩;refine Q3 ?_;refine o_call ((snd71 c.topic _).det) goes71 (ac (v_raw rfl) ac_nil) rfl ?_;refine o_nil ⟨(by simp [Mem.upd, *]),?_⟩;refine Q3 ?_;refine o_call ((snd71 c.name _).det) goes71 (ac (v_raw rfl) ac_nil) rfl ?_;refine o_nil ⟨(by simp [Mem.upd, *]),?_⟩;refine Q3 ?_;refine o_call ((snd72 c.seq (by omega) (by omega) _).det) goes72 (ac (v_raw rfl) ac_nil) rfl ?_;refine o_nil ⟨(by simp [Mem.upd, *]),?_⟩;refine Q3 ?_;refine o_call ((snd71 c.key _).det) goes71 (ac (v_raw rfl) ac_nil) rfl ?_;refine o_nil ⟨(by simp [Mem.upd, *]),?_⟩;refine Q3 ?_;refine o_call ((snd71 c.val _).det) goes71 (ac (v_raw rfl) ac_nil) rfl ?_;refine o_nil ⟨(by simp [Mem.upd, *]),?_⟩;refine Q3 ?_;refine o_call ((snd72 (c.n+1) (by omega) (by omega) _).det) goes72 (ac (v_raw rfl) ac_nil) rfl ?_;refine o_nil ⟨(by simp [Mem.upd, *]),?_⟩;refine Q3 ?_;refine o_call ((snd70 c.node (by omega) (by omega) _).det) goes70 (ac (v_raw rfl) ac_nil) rfl ?_;refine o_nil ⟨(by simp [Mem.upd, *]),?_⟩;refine Q3 ?_;refine o_call ((snd72 c.ask (by omega) (by omega) _).det) goes72 (ac (v_raw rfl) ac_nil) rfl ?_;refine o_nil ⟨(by simp [Mem.upd, *]),?_⟩;refine d_q rfl (q_bs slt103 (pc (v_agg rfl) (pc (v_agg rfl) (pc (v_agg rfl) (pc (v_agg rfl) (pc (v_agg rfl) (pc (v_agg rfl) (pc (v_agg rfl) (pc (v_agg rfl) (pc (v_agg rfl) pn))))))))) rfl (Els.cons rfl rfl (Els.cons rfl rfl (Els.cons rfl rfl (Els.cons rfl rfl (Els.cons rfl rfl (Els.cons rfl rfl (Els.cons rfl rfl (Els.cons rfl rfl (Els.cons rfl rfl Els.nil))))))))) (by decide)) rfl rfl rfl ?_;refine Q3 ?_;refine o_call ((snd46 (itemsC c) false (show 9<=1000 by decide) (okItems hr) _).det) goes46 (ac (v_sl rfl) ac_nil) rfl ?_;refine o_nil ⟨(by simp [Mem.upd, *]),?_⟩;refine Q167 ?_;refine Q160 ?_;refine Q160 ?_;refine d_q rfl (q_as (v_raw rfl)) rfl rfl rfl ?_;refine Q96 ?_;refine Q5 ?_;refine Q28 ?_;refine Q4 ?_;exact ret_many (.inl rfl) rfl (rl_t rfl (rl_t rfl rl_nil)) rfl ⟨by rw [hr];rfl,zle⟩
def tk344:Nat->Nat->Option Nat:=fun _ _=>none
def pl344:Nat->List PStep:=fun _=>[]
theorem cb344:Tryz.f344.body.map (codeB Tryz.prog Tryz.f344.ntmps tk344 pl344)=some true:=by kernel_rfl
theorem goes344:goesB Tryz.prog 344=true:=by kernel_rfl
abbrev ptrV (b:Nat):Value:=.pointer (some ⟨b,0,none⟩)
abbrev frmV (a b:Nat):AVal:=.raw (.func (.func 344) #[] #[ptrV a,ptrV b])
theorem snd344 (n lo hi:Int)(a b:Nat)(M:Mem)(ha:M a=some (.cells [int lo]))(hb:M b=some (.cells [int hi])):SoundCall Tryz.prog 344 [int n,ptr a,ptr b] M fun r M'=>r=bool (decide (lo<=n) && decide (n<=hi))/\M'=M:=by
 refine SoundCall.go tk344 pl344 mixed Tryz.func344 cb344 rfl (Nat.le_of_ble_eq_true rfl) ?_;refine Q15 ?_;refine Q5 ?_;refine Q46 ag3 sz3 ?_;refine Q23 ?_;refine Q2 ?_;refine Q97 ?_;refine o_g (G:=true) rfl rfl rfl rfl rfl (fun hG hc=>(q_ldm ag3 sz3 rfl mmQ rfl (v_raw rfl))) ?_;refine o_g (G:=true) rfl rfl rfl rfl rfl (fun hG hc=>(q_leq (gv_on (gv_and hG hc) rfl) (gv_on (gv_and hG hc) rfl))) ?_;refine Q53 ?_;refine Q4 ?_;exact⟨rfl,rfl⟩
def tk304:Nat->Nat->Option Nat:=fun _ _=>none
def pl304:Nat->List PStep:=fun _=>[]
theorem cb304:Tryz.f304.body.map (codeB Tryz.prog Tryz.f304.ntmps tk304 pl304)=some true:=by kernel_rfl
theorem goes304:goesB Tryz.prog 304=true:=by kernel_rfl
theorem snd304 (lo hi:Int)(M:Mem):SoundCall Tryz.prog 304 [int lo,int hi] M fun r M'=>∃ a b,r=frmV a b/\M a=none/\M b=none/\M' a=some (.cells [int lo])/\M' b=some (.cells [int hi])/\M.le M':=by
 refine SoundCall.go tk304 pl304 mixed Tryz.func304 cb304 rfl (Nat.le_of_ble_eq_true rfl) ?_;refine Q0 ?_;refine o_box zbx rfl rfl (fun B1 hB1=>?_);have m1:M B1=none:=zm hB1;refine o_box zbx rfl rfl (fun B2 hB2=>?_);have f1_2:B1≠B2:=Mem.fresh_ne hB2 mmQ;have g2_1:B2≠B1:=f1_2.symm;have m2:M B2=none:=zm hB2;refine Q138 ?_;refine o_q (q_mkf2 rfl rfl) rfl rfl rfl ?_;refine Q4 ?_;exact⟨B1,B2,rfl,m1,m2,mmQ,mmQ,zle⟩
def tk256:Nat->Nat->Option Nat:=fun _ _=>none
def pl256:Nat->List PStep:=fun _=>[]
theorem cb256:Tryz.f256.body.map (codeB Tryz.prog Tryz.f256.ntmps tk256 pl256)=some true:=by kernel_rfl
theorem goes256:goesB Tryz.prog 256=true:=by kernel_rfl
def loC (k:Int):Int:=if k=3 then -1 else if k=5 then 1 else 0
def hiC (k:Int):Int:=if k=5 then 50 else if k=10\/k=11 then 6 else if nNum k then 9007199254740991 else 0
theorem snd256 (k:Int)(M:Mem):SoundCall Tryz.prog 256 [int k] M fun r M'=>M.le M'/\((nOk k=false/\r = .tup [.agg [bool false,bool false,bool false,.raw .nilFunc],bool false])\/(nOk k=true/\∃ a b,r = .tup [.agg [bool (nTopic k),bool (nName k),bool (nPub k),frmV a b],bool true]/\M' a=some (.cells [int (loC k)])/\M' b=some (.cells [int (hiC k)]))):=by
 refine SoundCall.go tk256 pl256 mixed Tryz.func256 cb256 rfl (Nat.le_of_ble_eq_true rfl) ?_;refine Q0 ?_;refine o_alloc zc310 (fun B1 hB1=>?_);have m1:M B1=none:=zm hB1;refine Q138 ?_;refine o_callx ((snd304 0 0 _)) goes304 (ac (v_raw rfl) (ac (v_raw rfl) ac_nil)) rfl ?_;rintro r M1 ⟨a0,b0,rfl,hn1,hn2,ha0,hb0,hq⟩;have na0:a0≠B1:=fun e=>by rw [e,Mem.upd_self] at hn1;cases hn1
 have nb0:b0≠B1:=fun e=>by rw [e,Mem.upd_self] at hn2;cases hn2
 have hB0:=hq B1 _ (Mem.upd_self _ _ _);have hle1:M.le M1:=fun c o hc=>hq c o (Mem.upd_ne (Mem.ne_none hc m1) hc)
 refine Q40 ?_;refine Q147 ?_;refine Q38 ?_;refine s_cond rfl (fun h1=>?_) (fun h1=>?_)
 ·have k1:=h1;try simp only [zs] at k1
  refine Q5 ?_;refine Q248 bz310 bp310 fo310_0 fo310_3 ?_;refine Q6 sz310 ?_;refine Q20 ?_;first
  | (subst_vars;exact ret_many (.inl rfl) rfl (rl_c rfl mmQ (loadP_w ag310 sz310 rfl rfl) rfl (rl_t rfl rl_nil)) rfl ⟨zle,.inr ⟨by kernel_rfl,a1,b1,rfl,Mem.upd_ne na1 ha1,Mem.upd_ne nb1 hb1⟩⟩)
  | (subst_vars;exact ret_many (.inl rfl) rfl (rl_c rfl mmQ (loadP_w ag310 sz310 rfl rfl) rfl (rl_t rfl rl_nil)) rfl ⟨zle,.inr ⟨by kernel_rfl,a0,b0,rfl,Mem.upd_ne na0 ha0,Mem.upd_ne nb0 hb0⟩⟩)
 ·have k1:=h1;try simp only [zs] at k1
  refine Q38 ?_;refine s_cond rfl (fun h2=>?_) (fun h2=>?_)
  ·have k2:=h2;try simp only [zs] at k2
   refine Q5 ?_;refine Q249 bz310 bp310 fo310_0 fo310_1 fo310_2 fo310_3 ?_;refine Q6 sz310 ?_;refine Q20 ?_;first
   | (subst_vars;exact ret_many (.inl rfl) rfl (rl_c rfl mmQ (loadP_w ag310 sz310 rfl rfl) rfl (rl_t rfl rl_nil)) rfl ⟨zle,.inr ⟨by kernel_rfl,a1,b1,rfl,Mem.upd_ne na1 ha1,Mem.upd_ne nb1 hb1⟩⟩)
   | (subst_vars;exact ret_many (.inl rfl) rfl (rl_c rfl mmQ (loadP_w ag310 sz310 rfl rfl) rfl (rl_t rfl rl_nil)) rfl ⟨zle,.inr ⟨by kernel_rfl,a0,b0,rfl,Mem.upd_ne na0 ha0,Mem.upd_ne nb0 hb0⟩⟩)
  ·have k2:=h2;try simp only [zs] at k2
   refine Q38 ?_;refine s_cond rfl (fun h3=>?_) (fun h3=>?_)
   ·have k3:=h3;try simp only [zs] at k3
    refine Q0 ?_;refine o_callx ((snd304 (-1) 9007199254740991 _)) goes304 (ac (v_raw rfl) (ac (v_raw rfl) ac_nil)) rfl ?_;rintro r M2 ⟨a1,b1,rfl,hn3,hn4,ha1,hb1,hq2⟩;have na1:a1≠B1:=fun e=>by rw [e,hB0] at hn3;cases hn3
    have nb1:b1≠B1:=fun e=>by rw [e,hB0] at hn4;cases hn4
    have hB2:=hq2 B1 _ hB0;have hle2:M.le M2:=fun c o hc=>hq2 c o (hle1 c o hc)
    refine o_q (q_b (cs:=[_,_,.raw (.bool false),_]) bz310 bp310 (bf fo310_0 (e_raw rfl) rfl rfl (Nat.le_of_ble_eq_true rfl) rfl (bf fo310_1 (e_raw rfl) rfl rfl (Nat.le_of_ble_eq_true rfl) rfl (bf fo310_3 (e_raw rfl) rfl rfl (Nat.le_of_ble_eq_true rfl) rfl bf_nil)))) rfl rfl rfl ?_;refine Q6 sz310 ?_;refine Q20 ?_;first
    | (subst_vars;exact ret_many (.inl rfl) rfl (rl_c rfl mmQ (loadP_w ag310 sz310 rfl rfl) rfl (rl_t rfl rl_nil)) rfl ⟨zle,.inr ⟨by kernel_rfl,a1,b1,rfl,Mem.upd_ne na1 ha1,Mem.upd_ne nb1 hb1⟩⟩)
    | (subst_vars;exact ret_many (.inl rfl) rfl (rl_c rfl mmQ (loadP_w ag310 sz310 rfl rfl) rfl (rl_t rfl rl_nil)) rfl ⟨zle,.inr ⟨by kernel_rfl,a0,b0,rfl,Mem.upd_ne na0 ha0,Mem.upd_ne nb0 hb0⟩⟩)
   ·have k3:=h3;try simp only [zs] at k3
    refine Q38 ?_;refine s_cond rfl (fun h4=>?_) (fun h4=>?_)
    ·have k4:=h4;try simp only [zs] at k4
     refine Q5 ?_;refine Q229 bz310 bp310 fo310_1 fo310_3 ?_;refine Q6 sz310 ?_;refine Q20 ?_;first
     | (subst_vars;exact ret_many (.inl rfl) rfl (rl_c rfl mmQ (loadP_w ag310 sz310 rfl rfl) rfl (rl_t rfl rl_nil)) rfl ⟨zle,.inr ⟨by kernel_rfl,a1,b1,rfl,Mem.upd_ne na1 ha1,Mem.upd_ne nb1 hb1⟩⟩)
     | (subst_vars;exact ret_many (.inl rfl) rfl (rl_c rfl mmQ (loadP_w ag310 sz310 rfl rfl) rfl (rl_t rfl rl_nil)) rfl ⟨zle,.inr ⟨by kernel_rfl,a0,b0,rfl,Mem.upd_ne na0 ha0,Mem.upd_ne nb0 hb0⟩⟩)
    ·have k4:=h4;try simp only [zs] at k4
     refine Q38 ?_;refine s_cond rfl (fun h5=>?_) (fun h5=>?_)
     ·have k5:=h5;try simp only [zs] at k5
      refine Q0 ?_;refine o_callx ((snd304 1 50 _)) goes304 (ac (v_raw rfl) (ac (v_raw rfl) ac_nil)) rfl ?_;rintro r M2 ⟨a1,b1,rfl,hn3,hn4,ha1,hb1,hq2⟩;have na1:a1≠B1:=fun e=>by rw [e,hB0] at hn3;cases hn3
      have nb1:b1≠B1:=fun e=>by rw [e,hB0] at hn4;cases hn4
      have hB2:=hq2 B1 _ hB0;have hle2:M.le M2:=fun c o hc=>hq2 c o (hle1 c o hc)
      refine Q229 bz310 bp310 fo310_1 fo310_3 ?_;refine Q6 sz310 ?_;refine Q20 ?_;first
      | (subst_vars;exact ret_many (.inl rfl) rfl (rl_c rfl mmQ (loadP_w ag310 sz310 rfl rfl) rfl (rl_t rfl rl_nil)) rfl ⟨zle,.inr ⟨by kernel_rfl,a1,b1,rfl,Mem.upd_ne na1 ha1,Mem.upd_ne nb1 hb1⟩⟩)
      | (subst_vars;exact ret_many (.inl rfl) rfl (rl_c rfl mmQ (loadP_w ag310 sz310 rfl rfl) rfl (rl_t rfl rl_nil)) rfl ⟨zle,.inr ⟨by kernel_rfl,a0,b0,rfl,Mem.upd_ne na0 ha0,Mem.upd_ne nb0 hb0⟩⟩)
     ·have k5:=h5;try simp only [zs] at k5
      refine Q31 ?_;refine Q65 ?_;refine s_cond rfl (fun h6=>?_) (fun h6=>?_)
      ·have k6:=h6;try simp only [zs] at k6
       refine Q145 h6 ?_;refine Q0 ?_;refine Q230 ?_;rintro r M2 ⟨a1,b1,rfl,hn3,hn4,ha1,hb1,hq2⟩;have na1:a1≠B1:=fun e=>by rw [e,hB0] at hn3;cases hn3
       have nb1:b1≠B1:=fun e=>by rw [e,hB0] at hn4;cases hn4
       have hB2:=hq2 B1 _ hB0;have hle2:M.le M2:=fun c o hc=>hq2 c o (hle1 c o hc)
       refine Q229 bz310 bp310 fo310_1 fo310_3 ?_;refine Q6 sz310 ?_;refine Q20 ?_;first
       | (subst_vars;exact ret_many (.inl rfl) rfl (rl_c rfl mmQ (loadP_w ag310 sz310 rfl rfl) rfl (rl_t rfl rl_nil)) rfl ⟨zle,.inr ⟨by kernel_rfl,a1,b1,rfl,Mem.upd_ne na1 ha1,Mem.upd_ne nb1 hb1⟩⟩)
       | (subst_vars;exact ret_many (.inl rfl) rfl (rl_c rfl mmQ (loadP_w ag310 sz310 rfl rfl) rfl (rl_t rfl rl_nil)) rfl ⟨zle,.inr ⟨by kernel_rfl,a0,b0,rfl,Mem.upd_ne na0 ha0,Mem.upd_ne nb0 hb0⟩⟩)
      ·have k6:=h6;try simp only [zs] at k6
       refine Q19 ?_;refine Q65 ?_;refine s_cond rfl (fun h7=>?_) (fun h7=>?_)
       ·have k7:=h7;try simp only [zs] at k7
        refine Q0 ?_;refine Q230 ?_;rintro r M2 ⟨a1,b1,rfl,hn3,hn4,ha1,hb1,hq2⟩;have na1:a1≠B1:=fun e=>by rw [e,hB0] at hn3;cases hn3
        have nb1:b1≠B1:=fun e=>by rw [e,hB0] at hn4;cases hn4
        have hB2:=hq2 B1 _ hB0;have hle2:M.le M2:=fun c o hc=>hq2 c o (hle1 c o hc)
        refine Q229 bz310 bp310 fo310_1 fo310_3 ?_;refine Q6 sz310 ?_;refine Q20 ?_;first
        | (subst_vars;exact ret_many (.inl rfl) rfl (rl_c rfl mmQ (loadP_w ag310 sz310 rfl rfl) rfl (rl_t rfl rl_nil)) rfl ⟨zle,.inr ⟨by kernel_rfl,a1,b1,rfl,Mem.upd_ne na1 ha1,Mem.upd_ne nb1 hb1⟩⟩)
        | (subst_vars;exact ret_many (.inl rfl) rfl (rl_c rfl mmQ (loadP_w ag310 sz310 rfl rfl) rfl (rl_t rfl rl_nil)) rfl ⟨zle,.inr ⟨by kernel_rfl,a0,b0,rfl,Mem.upd_ne na0 ha0,Mem.upd_ne nb0 hb0⟩⟩)
       ·have k7:=h7;try simp only [zs] at k7
        refine Q31 ?_;refine Q65 ?_;refine s_cond rfl (fun h8=>?_) (fun h8=>?_)
        ·have k8:=h8;try simp only [zs] at k8
         refine Q145 h8 ?_;refine Q0 ?_;refine Q230 ?_;rintro r M2 ⟨a1,b1,rfl,hn3,hn4,ha1,hb1,hq2⟩;have na1:a1≠B1:=fun e=>by rw [e,hB0] at hn3;cases hn3
         have nb1:b1≠B1:=fun e=>by rw [e,hB0] at hn4;cases hn4
         have hB2:=hq2 B1 _ hB0;have hle2:M.le M2:=fun c o hc=>hq2 c o (hle1 c o hc)
         refine Q248 bz310 bp310 fo310_0 fo310_3 ?_;refine Q6 sz310 ?_;refine Q20 ?_;first
         | (subst_vars;exact ret_many (.inl rfl) rfl (rl_c rfl mmQ (loadP_w ag310 sz310 rfl rfl) rfl (rl_t rfl rl_nil)) rfl ⟨zle,.inr ⟨by kernel_rfl,a1,b1,rfl,Mem.upd_ne na1 ha1,Mem.upd_ne nb1 hb1⟩⟩)
         | (subst_vars;exact ret_many (.inl rfl) rfl (rl_c rfl mmQ (loadP_w ag310 sz310 rfl rfl) rfl (rl_t rfl rl_nil)) rfl ⟨zle,.inr ⟨by kernel_rfl,a0,b0,rfl,Mem.upd_ne na0 ha0,Mem.upd_ne nb0 hb0⟩⟩)
        ·have k8:=h8;try simp only [zs] at k8
         refine Q19 ?_;refine Q65 ?_;refine s_cond rfl (fun h9=>?_) (fun h9=>?_)
         ·have k9:=h9;try simp only [zs] at k9
          refine Q0 ?_;refine Q230 ?_;rintro r M2 ⟨a1,b1,rfl,hn3,hn4,ha1,hb1,hq2⟩;have na1:a1≠B1:=fun e=>by rw [e,hB0] at hn3;cases hn3
          have nb1:b1≠B1:=fun e=>by rw [e,hB0] at hn4;cases hn4
          have hB2:=hq2 B1 _ hB0;have hle2:M.le M2:=fun c o hc=>hq2 c o (hle1 c o hc)
          refine Q248 bz310 bp310 fo310_0 fo310_3 ?_;refine Q6 sz310 ?_;refine Q20 ?_;first
          | (subst_vars;exact ret_many (.inl rfl) rfl (rl_c rfl mmQ (loadP_w ag310 sz310 rfl rfl) rfl (rl_t rfl rl_nil)) rfl ⟨zle,.inr ⟨by kernel_rfl,a1,b1,rfl,Mem.upd_ne na1 ha1,Mem.upd_ne nb1 hb1⟩⟩)
          | (subst_vars;exact ret_many (.inl rfl) rfl (rl_c rfl mmQ (loadP_w ag310 sz310 rfl rfl) rfl (rl_t rfl rl_nil)) rfl ⟨zle,.inr ⟨by kernel_rfl,a0,b0,rfl,Mem.upd_ne na0 ha0,Mem.upd_ne nb0 hb0⟩⟩)
         ·have k9:=h9;try simp only [zs] at k9
          refine Q31 ?_;refine Q65 ?_;refine s_cond rfl (fun h10=>?_) (fun h10=>?_)
          ·have k10:=h10;try simp only [zs] at k10
           refine Q145 h10 ?_;refine Q0 ?_;refine o_callx ((snd304 0 6 _)) goes304 (ac (v_raw rfl) (ac (v_raw rfl) ac_nil)) rfl ?_;rintro r M2 ⟨a1,b1,rfl,hn3,hn4,ha1,hb1,hq2⟩;have na1:a1≠B1:=fun e=>by rw [e,hB0] at hn3;cases hn3
           have nb1:b1≠B1:=fun e=>by rw [e,hB0] at hn4;cases hn4
           have hB2:=hq2 B1 _ hB0;have hle2:M.le M2:=fun c o hc=>hq2 c o (hle1 c o hc)
           refine Q269 bz310 bp310 fo310_3 ?_;refine Q6 sz310 ?_;refine Q20 ?_;first
           | (subst_vars;exact ret_many (.inl rfl) rfl (rl_c rfl mmQ (loadP_w ag310 sz310 rfl rfl) rfl (rl_t rfl rl_nil)) rfl ⟨zle,.inr ⟨by kernel_rfl,a1,b1,rfl,Mem.upd_ne na1 ha1,Mem.upd_ne nb1 hb1⟩⟩)
           | (subst_vars;exact ret_many (.inl rfl) rfl (rl_c rfl mmQ (loadP_w ag310 sz310 rfl rfl) rfl (rl_t rfl rl_nil)) rfl ⟨zle,.inr ⟨by kernel_rfl,a0,b0,rfl,Mem.upd_ne na0 ha0,Mem.upd_ne nb0 hb0⟩⟩)
          ·have k10:=h10;try simp only [zs] at k10
           refine Q19 ?_;refine Q65 ?_;refine s_cond rfl (fun h11=>?_) (fun h11=>?_)
           ·have k11:=h11;try simp only [zs] at k11
            refine Q0 ?_;refine o_callx ((snd304 0 6 _)) goes304 (ac (v_raw rfl) (ac (v_raw rfl) ac_nil)) rfl ?_;rintro r M2 ⟨a1,b1,rfl,hn3,hn4,ha1,hb1,hq2⟩;have na1:a1≠B1:=fun e=>by rw [e,hB0] at hn3;cases hn3
            have nb1:b1≠B1:=fun e=>by rw [e,hB0] at hn4;cases hn4
            have hB2:=hq2 B1 _ hB0;have hle2:M.le M2:=fun c o hc=>hq2 c o (hle1 c o hc)
            refine Q269 bz310 bp310 fo310_3 ?_;refine Q6 sz310 ?_;refine Q20 ?_;first
            | (subst_vars;exact ret_many (.inl rfl) rfl (rl_c rfl mmQ (loadP_w ag310 sz310 rfl rfl) rfl (rl_t rfl rl_nil)) rfl ⟨zle,.inr ⟨by kernel_rfl,a1,b1,rfl,Mem.upd_ne na1 ha1,Mem.upd_ne nb1 hb1⟩⟩)
            | (subst_vars;exact ret_many (.inl rfl) rfl (rl_c rfl mmQ (loadP_w ag310 sz310 rfl rfl) rfl (rl_t rfl rl_nil)) rfl ⟨zle,.inr ⟨by kernel_rfl,a0,b0,rfl,Mem.upd_ne na0 ha0,Mem.upd_ne nb0 hb0⟩⟩)
           ·have k11:=h11;try simp only [zs] at k11
            refine Q148 ?_;refine Q0 ?_;refine o_q (q_b (cs:=[.raw (.bool false),.raw (.bool false),.raw (.bool false),.raw .nilFunc]) bz310 bp310 bf_nil) rfl rfl rfl ?_;refine Q6 sz310 ?_;refine Q4 ?_;exact ret_many (.inl rfl) rfl (rl_c rfl mmQ (loadP_w ag310 sz310 rfl rfl) rfl (rl_t rfl rl_nil)) rfl ⟨zle,.inl ⟨by simp_all [nOk],rfl⟩⟩
def tk257:Nat->Nat->Option Nat:=fun _ _=>none
def pl257:Nat->List PStep:=fun _=>[]
theorem cb257:Tryz.f257.body.map (codeB Tryz.prog Tryz.f257.ntmps tk257 pl257)=some true:=by kernel_rfl
theorem goes257:goesB Tryz.prog 257=true:=by kernel_rfl
theorem snd257 (s:ByteArray)(must:Bool)(M:Mem):SoundCall Tryz.prog 257 [str s,bool must] M fun r M'=>r=bool (if must then word s else decide (s=emp))/\M.le M':=by
 refine SoundCall.go tk257 pl257 mixed Tryz.func257 cb257 rfl (Nat.le_of_ble_eq_true rfl) ?_;refine Q15 ?_;refine Q9 ?_;refine Q1 ?_;refine s_cond rfl (fun h1=>?_) (fun h1=>?_)
 ·have k1:=h1;try simp only [zs] at k1
  refine Q5 ?_;refine o_callx ((snd305 s _)) goes305 (ac (v_raw rfl) ac_nil) rfl ?_;rintro r M' ⟨rfl,hle⟩;refine Q11 ?_;exact⟨by rw [show must=true from h1];rfl,hle⟩
 ·have k1:=h1;try simp only [zs] at k1
  refine Q71 ?_;refine Q182 ?_;refine Q4 ?_;exact⟨by rw [show must=false from h1];rfl,Mem.le_refl _⟩
def tk210:Nat->Nat->Option Nat:=fun _ _=>none
def pl210:Nat->List PStep:=fun _=>[]
theorem cb210:Tryz.f210.body.map (codeB Tryz.prog Tryz.f210.ntmps tk210 pl210)=some true:=by kernel_rfl
theorem goes210:goesB Tryz.prog 210=true:=by kernel_rfl
theorem numC_range {k n:Int}(h:nOk k=true)(hn : -1<=n/\n<=9007199254740991):numC k n=(decide (loC k<=n) && decide (n<=hiC k)):=by
 unfold nOk at h;simp only [Bool.or_eq_true,decide_eq_true_eq] at h;rcases h with (((((((((h|h)|h)|h)|h)|h)|h)|h)|h)|h)|h<;>subst h<;>rw [Bool.eq_iff_iff]<;>simp [numC,nNum,loC,hiC]<;>omega
theorem lohi (k:Int) : -1<=loC k/\hiC k<=9007199254740991:=by
 unfold loC hiC;constructor
 ·split
  ·omega
  ·split<;>omega
 ·split
  ·omega
  ·split
   ·omega
   ·split<;>omega
theorem app_emp {k v:ByteArray}:k++v=emp↔k=emp/\v=emp:=by
 constructor
 ·intro h;have h1:(k++v).size=0:=by rw [h];rfl
  rw [ByteArray.size_append] at h1;have hk:k.size=0:=by omega
  have hv:v.size=0:=by omega
  exact⟨ByteArray.size_eq_zero_iff.1 hk,ByteArray.size_eq_zero_iff.1 hv⟩
 ·rintro ⟨rfl,rfl⟩;rfl
theorem snd210a (c:Cmd)(hs:c.key.size<2^61/\c.val.size<2^61)(ho:nOk c.kind=true)(M:Mem):SoundCall Tryz.prog 210 [encC c] M fun r M'=>r=bool (rightC c)/\M.le M':=by
 refine SoundCall.go tk210 pl210 mixed Tryz.func210 cb210 rfl (Nat.le_of_ble_eq_true rfl) ?_;refine Q0 ?_;refine o_box zbx rfl rfl (fun B1 hB1=>?_);have m1:M B1=none:=zm hB1;refine Q7 ?_;refine Q27 fo58_0 ag3 sz3 ?_;refine o_callx ((snd256 c.kind _)) goes256 (ac (v_raw rfl) ac_nil) rfl ?_;rintro r M' ⟨hq,hrr⟩;have bm1:=hq B1 _ (Mem.upd_self _ _ _);have hle:M.le M':=fun c' o' hc=>hq c' o' (Mem.upd_ne (Mem.ne_none hc m1) hc)
 obtain⟨a,b,rfl,ha,hb⟩ : ∃ a b,r = .tup [.agg [bool (nTopic c.kind),bool (nName c.kind),bool (nPub c.kind),frmV a b],bool true]/\M' a=some (.cells [int (loC c.kind)])/\M' b=some (.cells [int (hiC c.kind)]):=by
  rcases hrr with ⟨h,-⟩|⟨-,h⟩
  ·rw [ho] at h;cases h
  ·exact h
 refine Q100 ?_;refine o_alloc zc310 (fun B2 hB2=>?_);have na:a≠B2:=Mem.fresh_ne hB2 ha;have nb:b≠B2:=Mem.fresh_ne hB2 hb;have f1_2:B1≠B2:=Mem.fresh_ne hB2 mmQ;have g2_1:B2≠B1:=f1_2.symm;have m2:M B2=none:=zm hB2;refine Q6 sz310 ?_;refine Q7 ?_;refine Q150 ?_;refine Q5 ?_;refine Q90 ?_;refine Q17 fo58_1 ag9 sz9 ?_;refine Q132 fo310_0 ag4 sz4 ?_;refine o_gw (G:=true) rfl rfl rfl rfl (fun hG hc h=>o_call ((snd257 c.topic (nTopic c.kind) _).det) goes257 (ac (v_raw (gv_on (gv_and hG hc) rfl)) (ac (v_raw (gv_on (gv_and hG hc) rfl)) ac_nil)) rfl h) ?_;refine Q158 ?_;refine Q44 ?_;refine Q17 fo58_2 ag9 sz9 ?_;refine Q132 fo310_1 ag4 sz4 ?_;refine o_gw (G:=true) rfl rfl rfl rfl (fun hG hc h=>o_call ((snd257 c.name (nName c.kind) _).det) goes257 (ac (v_raw (gv_on (gv_and hG hc) rfl)) (ac (v_raw (gv_on (gv_and hG hc) rfl)) ac_nil)) rfl h) ?_;refine Q158 ?_;refine Q44 ?_;refine Q17 fo310_3 ag75 sz75 ?_;refine Q132 fo58_6 ag3 sz3 ?_;refine o_gw (G:=true) rfl rfl rfl rfl (fun hG hc h=>o_callv (gv_on (gv_and hG hc) rfl) (snd344 c.n (loC c.kind) (hiC c.kind) a b _ mmQ mmQ) goes344 (ac (v_raw (gv_on (gv_and hG hc) rfl)) ac_nil) rfl rfl (fun r M1 hr=>by obtain⟨rfl,rfl⟩:=hr;exact h)) ?_;refine Q158 ?_;refine Q44 ?_;refine Q7 ?_;refine s_cond rfl (fun h1=>?_) (fun h1=>?_)
 ·have k1:=h1;try simp only [zs] at k1
  refine Q0 ?_;refine Q20 ?_;refine⟨congrArg bool ?_,zle⟩;have e1:rightC c=false:=by
   rw [Bool.eq_false_iff];intro e;have hl:=rightC_le e;unfold rightC namesC at e;rw [numC_range ho hl.2.2.2.2.1] at e;simp only [Bool.and_eq_true] at e;obtain⟨⟨⟨-,e2,e3⟩,-⟩,e4,e5⟩:=e;simp only [bool] at *
   simp_all
  rw [e1]
 ·have k1:=h1;try simp only [zs] at k1
  refine Q27 fo58_7 ag3 sz3 ?_;refine Q12 fo58_8 ag3 sz3 ?_;refine Q12 fo58_3 ag3 sz3 ?_;refine o_q (q_min3 rfl rfl rfl) rfl rfl rfl ?_;refine Q109 ?_;refine Q17 fo58_7 ag3 sz3 ?_;refine Q231 ?_;refine Q44 ?_;refine Q17 fo58_8 ag3 sz3 ?_;refine Q132 fo58_3 ag3 sz3 ?_;refine o_g (G:=true) rfl rfl rfl rfl rfl (fun hG hc=>(q_max (gv_on (gv_and hG hc) rfl) (gv_on (gv_and hG hc) rfl))) ?_;refine Q68 ?_;refine Q7 ?_;refine s_cond rfl (fun h2=>?_) (fun h2=>?_)
  ·have k2:=h2;try simp only [zs] at k2
   refine Q0 ?_;refine Q20 ?_;refine⟨congrArg bool ?_,zle⟩;have e1:rightC c=false:=by
    rw [Bool.eq_false_iff];intro e;have hl:=rightC_le e;simp only [Bool.or_eq_true,decide_eq_true_eq] at h2;omega
   rw [e1]
  ·have k2:=h2;try simp only [zs] at k2
   have hlh:=lohi c.kind;have hn : -1<=c.n/\c.n<=9007199254740991:=by
    simp only [Bool.or_eq_false_iff,Bool.not_eq_false',Bool.and_eq_true,decide_eq_true_eq] at h1;omega
   have hM:numC c.kind c.n=true:=by
    rw [numC_range ho hn];simp only [Bool.or_eq_false_iff,Bool.not_eq_false'] at h1;exact h1.2
   have hN:namesC c=true:=by
    simp only [Bool.or_eq_false_iff,Bool.not_eq_false'] at h1;unfold namesC;rw [Bool.and_eq_true];exact⟨h1.1.1.2,h1.1.2⟩
   have hR:rangeC c=true:=by
    simp only [Bool.or_eq_false_iff,decide_eq_false_iff_not] at h2;unfold rangeC;rw [ho];simp only [Bool.and_eq_true,decide_eq_true_eq,true_and];omega
   have e1:rightC c=pubC c:=by unfold rightC;rw [hR,hN,hM];simp
   refine Q27 fo310_2 ag4 sz4 ?_;refine Q90 ?_;refine Q7 ?_;refine s_cond rfl (fun h3=>?_) (fun h3=>?_)
   ·have k3:=h3;try simp only [zs] at k3
    refine Q27 fo58_3 ag3 sz3 ?_;refine Q63 ?_;refine Q17 fo58_4 ag9 sz9 ?_;refine Q132 fo58_5 ag9 sz9 ?_;refine o_g (G:=true) rfl rfl rfl rfl rfl (fun hG hc=>(q_sadd (gv_on (gv_and hG hc) rfl) (gv_on (gv_and hG hc) rfl) (by omega))) ?_;refine o_g (G:=true) rfl rfl rfl rfl rfl (fun hG hc=>(q_seql (gv_on (gv_and hG hc) rfl) rfl)) ?_;refine Q53 ?_;refine Q20 ?_;refine⟨congrArg bool ?_,zle⟩;rw [e1];unfold pubC;have hp:nPub c.kind=false:=by simpa using h3
    rw [hp,Bool.false_or,Bool.eq_iff_iff];have hz:emp.size=0:=rfl;simp only [Bool.and_eq_true,decide_eq_true_eq];constructor
    ·rintro ⟨c1,c2⟩;obtain⟨c3,c4⟩:=app_emp.1 c2;exact⟨⟨⟨⟨c1,c3⟩,c4⟩,by rw [c3,hz];omega⟩,by rw [c4,hz];omega⟩
    ·rintro ⟨⟨⟨⟨c1,c3⟩,c4⟩,-⟩,-⟩;exact⟨c1,app_emp.2 ⟨c3,c4⟩⟩
   ·have k3:=h3;try simp only [zs] at k3
    refine Q148 ?_;refine Q27 fo58_4 ag9 sz9 ?_;refine Q61 und9 ?_;refine Q89 ?_;refine Q17 fo58_5 ag9 sz9 ?_;refine Q206 und9 ?_;refine Q193 ?_;refine Q53 ?_;refine Q4 ?_;refine⟨congrArg bool ?_,zle⟩;rw [e1];unfold pubC;have hp:nPub c.kind=true:=by simpa using h3
    rw [hp,Bool.true_or,Bool.true_and,Bool.eq_iff_iff];simp only [Bool.and_eq_true,decide_eq_true_eq];omega
theorem snd210b (c:Cmd)(hs:c.key.size<2^61/\c.val.size<2^61)(ho:nOk c.kind=false)(M:Mem):SoundCall Tryz.prog 210 [encC c] M fun r M'=>r=bool (rightC c)/\M.le M':=by
 refine SoundCall.go tk210 pl210 mixed Tryz.func210 cb210 rfl (Nat.le_of_ble_eq_true rfl) ?_;refine Q0 ?_;refine o_box zbx rfl rfl (fun B1 hB1=>?_);have m1:M B1=none:=zm hB1;refine Q7 ?_;refine Q27 fo58_0 ag3 sz3 ?_;refine o_callx ((snd256 c.kind _)) goes256 (ac (v_raw rfl) ac_nil) rfl ?_;rintro r M' ⟨hq,hrr⟩;have bm1:=hq B1 _ (Mem.upd_self _ _ _);have hle:M.le M':=fun c' o' hc=>hq c' o' (Mem.upd_ne (Mem.ne_none hc m1) hc)
 obtain rfl:r = .tup [.agg [bool false,bool false,bool false,.raw .nilFunc],bool false]:=by
  rcases hrr with ⟨-,h⟩|⟨h,-⟩
  ·exact h
  ·rw [ho] at h;cases h
 refine Q100 ?_;refine o_alloc zc310 (fun B2 hB2=>?_);have f1_2:B1≠B2:=Mem.fresh_ne hB2 mmQ;have g2_1:B2≠B1:=f1_2.symm;have m2:M B2=none:=zm hB2;refine Q6 sz310 ?_;refine Q7 ?_;refine Q150 ?_;refine Q5 ?_;refine Q90 ?_;refine Q111 ?_;refine Q81 ?_;refine Q81 ?_;refine Q67 ?_;refine Q111 ?_;refine Q81 ?_;refine Q81 ?_;refine Q67 ?_;refine Q111 ?_;refine Q81 ?_;refine Q81 ?_;refine Q67 ?_;refine Q7 ?_;refine Q116 ?_;refine Q0 ?_;refine Q20 ?_;refine⟨congrArg bool ?_,zle⟩;unfold rightC rangeC;rw [ho];rfl
def tk207:Nat->Nat->Option Nat:=fun _ _=>none
def pl207:Nat->List PStep:=fun _=>[]
theorem cb207:Tryz.f207.body.map (codeB Tryz.prog Tryz.f207.ntmps tk207 pl207)=some true:=by kernel_rfl
theorem goes207:goesB Tryz.prog 207=true:=by kernel_rfl
theorem right93 (c:Cmd)(hs:c.key.size<2^61/\c.val.size<2^61)(M:Mem):SoundCall Tryz.prog 210 [encC c] M fun r M'=>r=bool (rightC c)/\M.le M':=by
 cases ho:nOk c.kind
 ·exact snd210b c hs ho M
 ·exact snd210a c hs ho M
def okD (c:UInt8)(x:Itm):Prop:=x.n<256^szK (kindB c)/\x.s.size<=100000
theorem numF_lt (n:Nat)(s:ByteArray)(e:Int):(numF n s e).1<256^n:=by
 unfold numF;split
 ·exact Nat.pow_pos (by decide)
 ·rename_i h;have h1:=beN_lt (s.data.toList.take n);have h2:(s.data.toList.take n).length=n:=by
   rw [List.length_take,Array.length_toList];have:s.data.size=s.size:=rfl;omega
  rw [h2] at h1;exact h1
theorem itemF_ok {c:UInt8}{s:ByteArray}(h:(itemF c s).2.2=0):okD c (itemF c s).1:=by
 unfold itemF at h ⊢;split
 ·rename_i hk;rw [if_pos hk] at h;refine⟨Nat.pow_pos (by decide),?_⟩;show (textF s 0).1.size<=100000
  have h':(textF s 0).2.2=0:=h;unfold textF at h' ⊢;split
  ·exact Nat.zero_le _
  ·split
   ·exact Nat.zero_le _
   ·split
    ·exact Nat.zero_le _
    ·rename_i h2 h3;show ((numF 4 s 0).2.1.extract 0 (numF 4 s 0).1).size<=100000
     simp;omega
 ·exact⟨numF_lt _ _ _,Nat.zero_le _⟩
theorem decL_ok (sh:ByteArray):∀ (f:Nat) (s:ByteArray) (out l:List Itm),decL sh (-1) f out.length s out=(l,0)->f+out.length=1001->sh.size<=1000->out.length<=sh.size →
 (∀ i,∀ h:i<out.length,okD (sh.data[i]!) out[i])->l.length=sh.size/\∀ i,∀ h:i<l.length,okD (sh.data[i]!) l[i]
 | 0,s,out,l,_,hf,hs,ho,_=>by omega
 | f+1,s,out,l,h,hf,hs,ho,hok=>by
  rw [decL_succ] at h;simp only [show ¬ (0:Int)<=-1 by omega,and_false,if_false,false_and] at h;split at h
  ·rename_i hlt;split at h
   ·cases h
   ·split at h
    ·rename_i h3;exact absurd (congrArg Prod.snd h) h3
    ·rename_i h3;have h3':=Classical.not_not.1 h3;have e:((out.length:Int)+1)=((out++[(itemF (sh.data[(out.length:Int).toNat]!) s).1]).length:Int):=by simp
     rw [e] at h;refine decL_ok sh f _ _ l h (by simp;omega) hs (by simp;omega) fun i hi=>?_
     rw [List.getElem_append];split
     ·exact hok i _
     ·have hi':i=out.length:=by simp at hi;omega
      subst hi';simp only [Nat.sub_self,List.getElem_singleton];exact itemF_ok h3'
  ·split at h
   ·cases h
   ·cases h;exact⟨by omega,hok⟩
def shape9:ByteArray:=⟨#[98,116,116,108,116,116,108,98,108]⟩
theorem decF9 {s:ByteArray}{l:List Itm}(h:decF shape9 s=(l,0)):l.length=9/\∀ i,∀ h:i<l.length,okD (shape9.data[i]!) l[i]:=by
 unfold decF at h;rw [if_pos (show rightS shape9=true by kernel_rfl)] at h;have e:idxB shape9 42 = -1:=by kernel_rfl
 rw [e] at h;exact decL_ok shape9 1001 s [] l h rfl (by decide) (Nat.zero_le _) fun i h=>absurd h (Nat.not_lt_zero i)
def zeroC:Cmd:=⟨0,emp,emp,0,emp,emp,0,0,0⟩
def cmdOf (x0 x1 x2 x3 x4 x5 x6 x7 x8:Itm):Cmd:=⟨x0.n,x1.s,x2.s,x3.n,x4.s,x5.s,(x6.n:Int) - 1,x7.n,x8.n⟩
def decC (s:ByteArray):Cmd×Int :=
 if (decF shape9 s).2≠0 then (zeroC,(decF shape9 s).2) else
 match (decF shape9 s).1 with
 | [x0,x1,x2,x3,x4,x5,x6,x7,x8]=>if x3.n<=9007199254740991/\x6.n<=9007199254740992/\x8.n<=9007199254740991 then (if rightC (cmdOf x0 x1 x2 x3 x4 x5 x6 x7 x8) then (cmdOf x0 x1 x2 x3 x4 x5 x6 x7 x8,0) else (zeroC,10)) else (zeroC,10)
 | _=>(zeroC,10)
theorem snd207 (x:Itm)(M:Mem):SoundCall Tryz.prog 207 [encIt x] M fun r M'=>r=bool (decide (x.n<=9007199254740991))/\M.le M':=by
 refine SoundCall.go tk207 pl207 mixed Tryz.func207 cb207 rfl (Nat.le_of_ble_eq_true rfl) ?_;refine Q0 ?_;refine o_box zbx rfl rfl (fun B1 hB1=>?_);have m1:M B1=none:=zm hB1;refine Q7 ?_;refine Q27 fo106_1 ag104 sz104 ?_;refine Q89 ?_;refine Q4 ?_;exact⟨congrArg bool (decide_eq_decide.2 (by show ((x.n:Nat):Int)<=9007199254740991↔_;omega)),zle⟩
def tk208:Nat->Nat->Option Nat:=fun _ _=>none
def pl208:Nat->List PStep:=fun _=>[]
theorem cb208:Tryz.f208.body.map (codeB Tryz.prog Tryz.f208.ntmps tk208 pl208)=some true:=by kernel_rfl
theorem goes208:goesB Tryz.prog 208=true:=by kernel_rfl
theorem snd208 (x:Itm)(M:Mem):SoundCall Tryz.prog 208 [encIt x] M fun r M'=>r=bool (decide (x.n<=9007199254740992))/\M.le M':=by
 refine SoundCall.go tk208 pl208 mixed Tryz.func208 cb208 rfl (Nat.le_of_ble_eq_true rfl) ?_;refine Q0 ?_;refine o_box zbx rfl rfl (fun B1 hB1=>?_);have m1:M B1=none:=zm hB1;refine Q7 ?_;refine Q27 fo106_1 ag104 sz104 ?_;refine Q89 ?_;refine Q4 ?_;exact⟨congrArg bool (decide_eq_decide.2 (by show ((x.n:Nat):Int)<=9007199254740992↔_;omega)),zle⟩
def tk209:Nat->Nat->Option Nat:=fun _ _=>none
def pl209:Nat->List PStep:=fun _=>[]
theorem cb209:Tryz.f209.body.map (codeB Tryz.prog Tryz.f209.ntmps tk209 pl209)=some true:=by kernel_rfl
theorem goes209:goesB Tryz.prog 209=true:=by kernel_rfl
theorem snd209 (x:Itm)(hx:x.n<=9007199254740992)(M:Mem):SoundCall Tryz.prog 209 [encIt x] M fun r M'=>r=int ((x.n:Int) - 1)/\M.le M':=by
 refine SoundCall.go tk209 pl209 mixed Tryz.func209 cb209 rfl (Nat.le_of_ble_eq_true rfl) ?_;refine Q0 ?_;refine o_box zbx rfl rfl (fun B1 hB1=>?_);have m1:M B1=none:=zm hB1;refine Q7 ?_;refine Q27 fo106_1 ag104 sz104 ?_;refine Q232 und104 und3 ?_;refine Q152 ?_;refine Q4 ?_;exact⟨rfl,zle⟩
def tk144:Nat->Nat->Option Nat:=fun _ _=>none
def pl144:Nat->List PStep
 | 6=>[.q 0,.q 1,.q 2,.q 3,.q 4,.q 5,.q 6,.q 7,.q 8,.q 9,.q 10,.q 11,.q 12,.q 13,.q 14,.q 15,.q 16,.q 17,.q 18,.q 19,.q 20,.q 21,.q 22,.q 23,.q 24,.q 25,.q 26,.q 27,.q 28,.q 30,.q 31,.q 32,.q 33,.q 34,.q 35,.q 36,.q 37,.q 38,.q 39,.c 29,.q 40,.s 41 [40,29,39,38,37,36,35,34,33,32,31,30,28,27,26,25,24,23,22,21,20,19,18,17,16,15,14,13,12,11,10,9,8,7,6,5,4,3,2,1,0],.s 42 []]
 | _=>[]
theorem cb144:Tryz.f144.body.map (codeB Tryz.prog Tryz.f144.ntmps tk144 pl144)=some true:=by kernel_rfl
theorem goes144:goesB Tryz.prog 144=true:=by kernel_rfl
theorem snd144a (s:ByteArray)(hs:s.size<2^62)(ge:TypeId)(gf:Nat×Nat)(M:Mem)(hG:M 0=some (szO ge gf))(he:(decF shape9 s).2≠0):SoundCall Tryz.prog 144 [str s] M fun r M'=>r = .tup [encC (decC s).1,int (decC s).2]/\M.le M':=by
 refine SoundCall.go tk144 pl144 mixed Tryz.func144 cb144 rfl (Nat.le_of_ble_eq_true rfl) ?_;refine Q0 ?_;refine o_alloc zc58 (fun B1 hB1=>?_);have m1:M B1=none:=zm hB1;refine Q51 ?_;refine o_callx ((snd47 shape9 s ge gf _ (Mem.upd_ne (Mem.ne_none hG m1) hG) (by decide) hs)) goes47 (ac (v_raw rfl) (ac (v_raw rfl) ac_nil)) rfl ?_;rintro r M' ⟨⟨o,rfl⟩,hq⟩;have bm1:=hq B1 _ (Mem.upd_self _ _ _);have hle:M.le M':=fun c' o' hc=>hq c' o' (Mem.upd_ne (Mem.ne_none hc m1) hc)
 refine Q37 ?_;refine Q166 ?_;refine Q80 ?_;refine Q42 ?_;refine Q40 ?_;refine Q122 ?_;refine s_then rfl (by rw [decide_eq_false he];rfl) ?_;refine Q0 ?_;refine Q250 bz58 bp58 ?_;refine Q2 ?_;refine Q6 sz58 ?_;refine Q11 ?_;have e1:decC s=(zeroC,(decF shape9 s).2):=by unfold decC;rw [if_pos he]
 exact ret_many (.inl rfl) rfl (rl_c rfl mmQ (loadP_w ag58 sz58 rfl rfl) rfl (rl_t rfl rl_nil)) rfl ⟨by rw [e1];rfl,zle⟩
theorem dec45 (s:ByteArray)(ge:TypeId)(gf:Nat×Nat)(M:Mem)(hG:M 0=some (szO ge gf))(hs:s.size<2^62){l:List Itm}{e:Int}(hd:decF shape9 s=(l,e)):SoundCall Tryz.prog 47 [str shape9,str s] M fun r M'=>(∃ o,r = .tup [.sl (l.map encIt) o,int e])/\M.le M':=by
 have h:=snd47 shape9 s ge gf M hG (by decide) hs;rw [hd] at h;exact h
theorem snd144b (s:ByteArray)(hs:s.size<2^62)(ge:TypeId)(gf:Nat×Nat)(M:Mem)(hG:M 0=some (szO ge gf))(x0 x1 x2 x3 x4 x5 x6 x7 x8:Itm)(hd:decF shape9 s=([x0,x1,x2,x3,x4,x5,x6,x7,x8],0))(h0:x0.n<256)(h7:x7.n<256)(hk:x4.s.size<2^61/\x5.s.size<2^61):SoundCall Tryz.prog 144 [str s] M fun r M'=>r = .tup [encC (decC s).1,int (decC s).2]/\M.le M':=by
 have e0:decC s=(if x3.n<=9007199254740991/\x6.n<=9007199254740992/\x8.n<=9007199254740991 then (if rightC (cmdOf x0 x1 x2 x3 x4 x5 x6 x7 x8) then ((cmdOf x0 x1 x2 x3 x4 x5 x6 x7 x8),0) else (zeroC,10)) else (zeroC,10)):=by unfold decC;rw [hd];rfl
 refine SoundCall.go tk144 pl144 mixed Tryz.func144 cb144 rfl (Nat.le_of_ble_eq_true rfl) ?_;refine Q0 ?_;refine o_alloc zc58 (fun B1 hB1=>?_);have m1:M B1=none:=zm hB1;refine Q51 ?_;refine o_callx ((dec45 s ge gf _ (Mem.upd_ne (Mem.ne_none hG m1) hG) hs hd)) goes47 (ac (v_raw rfl) (ac (v_raw rfl) ac_nil)) rfl ?_;rintro r M' ⟨⟨o,rfl⟩,hq⟩;have bm1:=hq B1 _ (Mem.upd_self _ _ _);have hle:M.le M':=fun c' o' hc=>hq c' o' (Mem.upd_ne (Mem.ne_none hc m1) hc)
 refine Q37 ?_;refine Q166 ?_;refine Q80 ?_;refine Q42 ?_;refine Q40 ?_;refine Q108 ?_;refine Q83 ?_;refine Q82 ?_;refine Q49 ?_;refine o_q (q_idx und103 sz106 rfl rfl (by omega) (show (List.map encIt [x0,x1,x2,x3,x4,x5,x6,x7,x8])[3]? = some (encIt x3) from rfl) rfl) rfl rfl rfl ?_;refine o_q (q_lde ag106 sz106 rfl (show (List.map encIt [x0,x1,x2,x3,x4,x5,x6,x7,x8])[3]? = some (encIt x3) from rfl) rfl rfl) rfl rfl rfl ?_;refine o_call ((snd207 x3 _).det) goes207 (ac (v_agg rfl) ac_nil) rfl ?_;refine Q119 ?_;refine Q195 ?_;refine o_g (G:=true) rfl rfl rfl rfl rfl (fun hG hc=>(q_idx und103 sz106 (gv_on (gv_and hG hc) rfl) rfl (by omega) (show (List.map encIt [x0,x1,x2,x3,x4,x5,x6,x7,x8])[6]? = some (encIt x6) from rfl) rfl)) ?_;refine o_g (G:=true) rfl rfl rfl rfl rfl (fun hG hc=>(q_lde ag106 sz106 (gv_on (gv_and hG hc) rfl) (show (List.map encIt [x0,x1,x2,x3,x4,x5,x6,x7,x8])[6]? = some (encIt x6) from rfl) rfl rfl)) ?_;refine o_gw (G:=true) rfl rfl rfl rfl (fun hG hc h=>o_call ((snd208 x6 _).det) goes208 (ac (v_agg (gv_on (gv_and hG hc) rfl)) ac_nil) rfl h) ?_;refine Q158 ?_;refine Q44 ?_;refine Q2 ?_;refine Q195 ?_;refine o_g (G:=true) rfl rfl rfl rfl rfl (fun hG hc=>(q_idx und103 sz106 (gv_on (gv_and hG hc) rfl) rfl (by omega) (show (List.map encIt [x0,x1,x2,x3,x4,x5,x6,x7,x8])[8]? = some (encIt x8) from rfl) rfl)) ?_;refine o_g (G:=true) rfl rfl rfl rfl rfl (fun hG hc=>(q_lde ag106 sz106 (gv_on (gv_and hG hc) rfl) (show (List.map encIt [x0,x1,x2,x3,x4,x5,x6,x7,x8])[8]? = some (encIt x8) from rfl) rfl rfl)) ?_;refine o_gw (G:=true) rfl rfl rfl rfl (fun hG hc h=>o_call ((snd207 x8 _).det) goes207 (ac (v_agg (gv_on (gv_and hG hc) rfl)) ac_nil) rfl h) ?_;refine Q158 ?_;refine Q44 ?_;refine Q1 ?_;refine s_cond rfl (fun h1=>?_) (fun h1=>?_)
 ·have k1:=h1;try simp only [zs] at k1
  have hf:¬ (x3.n<=9007199254740991/\x6.n<=9007199254740992/\x8.n<=9007199254740991):=by
   simp only [Bool.or_eq_true,Bool.not_eq_true',decide_eq_false_iff_not] at h1;omega
  refine Q0 ?_;refine Q250 bz58 bp58 ?_;refine Q6 sz58 ?_;refine Q11 ?_;have e1:decC s=(zeroC,10):=by rw [e0,if_neg hf]
  exact ret_many (.inl rfl) rfl (rl_c rfl mmQ (loadP_w ag58 sz58 rfl rfl) rfl (rl_t rfl rl_nil)) rfl ⟨by rw [e1];rfl,zle⟩
 ·have k1:=h1;try simp only [zs] at k1
  have hf:x3.n<=9007199254740991/\x6.n<=9007199254740992/\x8.n<=9007199254740991:=by
   simp only [Bool.or_eq_false_iff,Bool.not_eq_false',decide_eq_true_eq] at h1;omega
  refine Q76 ?_;refine s_draw rfl ?_;refine Q58 ?_;refine d_q rfl (q_idx und103 sz106 rfl rfl (by omega) (show (List.map encIt [x0,x1,x2,x3,x4,x5,x6,x7,x8])[0]? = some (encIt x0) from rfl) rfl) rfl rfl rfl ?_;refine Q72 fo106_1 ?_;refine d_q rfl (q_ld ag104 sz104 rfl (show (List.map encIt [x0,x1,x2,x3,x4,x5,x6,x7,x8])[0]? = some (encIt x0) from rfl) rfl (v_raw rfl)) rfl rfl rfl ?_;refine Q142 und104 und3 ?_;refine Q58 ?_;refine d_q rfl (q_idx und103 sz106 rfl rfl (by omega) (show (List.map encIt [x0,x1,x2,x3,x4,x5,x6,x7,x8])[1]? = some (encIt x1) from rfl) rfl) rfl rfl rfl ?_;refine Q72 fo106_2 ?_;refine d_q rfl (q_ld ag9 sz9 rfl (show (List.map encIt [x0,x1,x2,x3,x4,x5,x6,x7,x8])[1]? = some (encIt x1) from rfl) rfl (v_raw rfl)) rfl rfl rfl ?_;refine Q58 ?_;refine d_q rfl (q_idx und103 sz106 rfl rfl (by omega) (show (List.map encIt [x0,x1,x2,x3,x4,x5,x6,x7,x8])[2]? = some (encIt x2) from rfl) rfl) rfl rfl rfl ?_;refine Q72 fo106_2 ?_;refine d_q rfl (q_ld ag9 sz9 rfl (show (List.map encIt [x0,x1,x2,x3,x4,x5,x6,x7,x8])[2]? = some (encIt x2) from rfl) rfl (v_raw rfl)) rfl rfl rfl ?_;refine Q58 ?_;refine d_q rfl (q_idx und103 sz106 rfl rfl (by omega) (show (List.map encIt [x0,x1,x2,x3,x4,x5,x6,x7,x8])[3]? = some (encIt x3) from rfl) rfl) rfl rfl rfl ?_;refine Q72 fo106_1 ?_;refine d_q rfl (q_ld ag104 sz104 rfl (show (List.map encIt [x0,x1,x2,x3,x4,x5,x6,x7,x8])[3]? = some (encIt x3) from rfl) rfl (v_raw rfl)) rfl rfl rfl ?_;refine Q142 und104 und3 ?_;refine Q58 ?_;refine d_q rfl (q_idx und103 sz106 rfl rfl (by omega) (show (List.map encIt [x0,x1,x2,x3,x4,x5,x6,x7,x8])[4]? = some (encIt x4) from rfl) rfl) rfl rfl rfl ?_;refine Q72 fo106_2 ?_;refine d_q rfl (q_ld ag9 sz9 rfl (show (List.map encIt [x0,x1,x2,x3,x4,x5,x6,x7,x8])[4]? = some (encIt x4) from rfl) rfl (v_raw rfl)) rfl rfl rfl ?_;refine Q58 ?_;refine d_q rfl (q_idx und103 sz106 rfl rfl (by omega) (show (List.map encIt [x0,x1,x2,x3,x4,x5,x6,x7,x8])[5]? = some (encIt x5) from rfl) rfl) rfl rfl rfl ?_;refine Q72 fo106_2 ?_;refine d_q rfl (q_ld ag9 sz9 rfl (show (List.map encIt [x0,x1,x2,x3,x4,x5,x6,x7,x8])[5]? = some (encIt x5) from rfl) rfl (v_raw rfl)) rfl rfl rfl ?_;refine Q58 ?_;refine d_q rfl (q_idx und103 sz106 rfl rfl (by omega) (show (List.map encIt [x0,x1,x2,x3,x4,x5,x6,x7,x8])[6]? = some (encIt x6) from rfl) rfl) rfl rfl rfl ?_;refine d_q rfl (q_lde ag106 sz106 rfl (show (List.map encIt [x0,x1,x2,x3,x4,x5,x6,x7,x8])[6]? = some (encIt x6) from rfl) rfl rfl) rfl rfl rfl ?_;refine Q58 ?_;refine d_q rfl (q_idx und103 sz106 rfl rfl (by omega) (show (List.map encIt [x0,x1,x2,x3,x4,x5,x6,x7,x8])[7]? = some (encIt x7) from rfl) rfl) rfl rfl rfl ?_;refine Q72 fo106_1 ?_;refine d_q rfl (q_ld ag104 sz104 rfl (show (List.map encIt [x0,x1,x2,x3,x4,x5,x6,x7,x8])[7]? = some (encIt x7) from rfl) rfl (v_raw rfl)) rfl rfl rfl ?_;refine Q142 und104 und3 ?_;refine Q58 ?_;refine d_q rfl (q_idx und103 sz106 rfl rfl (by omega) (show (List.map encIt [x0,x1,x2,x3,x4,x5,x6,x7,x8])[8]? = some (encIt x8) from rfl) rfl) rfl rfl rfl ?_;refine Q72 fo106_1 ?_;refine d_q rfl (q_ld ag104 sz104 rfl (show (List.map encIt [x0,x1,x2,x3,x4,x5,x6,x7,x8])[8]? = some (encIt x8) from rfl) rfl (v_raw rfl)) rfl rfl rfl ?_;refine Q142 und104 und3 ?_;refine d_c rfl (fun M'=>(snd209 x6 (by omega) _).det) goes209 (ac (v_agg rfl) ac_nil) rfl ?_;refine d_q rfl (q_b (cs:=[_,_,_,_,_,_,_,_,_]) bz58 bp58 (bf fo58_0 (e_raw rfl) rfl rfl (Nat.le_of_ble_eq_true rfl) rfl (bf fo58_1 (e_raw rfl) rfl rfl (Nat.le_of_ble_eq_true rfl) rfl (bf fo58_2 (e_raw rfl) rfl rfl (Nat.le_of_ble_eq_true rfl) rfl (bf fo58_3 (e_raw rfl) rfl rfl (Nat.le_of_ble_eq_true rfl) rfl (bf fo58_4 (e_raw rfl) rfl rfl (Nat.le_of_ble_eq_true rfl) rfl (bf fo58_5 (e_raw rfl) rfl rfl (Nat.le_of_ble_eq_true rfl) rfl (bf fo58_6 (e_raw rfl) rfl rfl (Nat.le_of_ble_eq_true rfl) rfl (bf fo58_7 (e_raw rfl) rfl rfl (Nat.le_of_ble_eq_true rfl) rfl (bf fo58_8 (e_raw rfl) rfl rfl (Nat.le_of_ble_eq_true rfl) rfl bf_nil)))))))))) rfl rfl rfl ?_;refine Q3 ?_;refine o_alloc zc58 (fun B2 hB2=>?_);have f1_2:B1≠B2:=Mem.fresh_ne hB2 mmQ;have g2_1:B2≠B1:=f1_2.symm;have m2:M B2=none:=zm hB2;refine o_nil ⟨(by simp [Mem.upd, *]),?_⟩;refine Q3 ?_;refine Q6 sz58 ?_;refine o_nil ⟨(by simp [Mem.upd, *]),?_⟩;refine Q153 ?_;refine Q45 ag58 sz58 ?_;refine o_call ((right93 (cmdOf x0 x1 x2 x3 x4 x5 x6 x7 x8) hk _).det) goes210 (ac (v_agg rfl) ac_nil) rfl ?_;refine Q59 ?_;refine s_cond rfl (fun h2=>?_) (fun h2=>?_)
  ·have k2:=h2;try simp only [zs] at k2
   refine Q0 ?_;refine Q250 bz58 bp58 ?_;refine Q6 sz58 ?_;refine Q11 ?_;have e1:decC s=(zeroC,10):=by rw [e0,if_pos hf,show rightC (cmdOf x0 x1 x2 x3 x4 x5 x6 x7 x8)=false by simpa using h2];rfl
   exact ret_many (.inl rfl) rfl (rl_c rfl mmQ (loadP_w ag58 sz58 rfl rfl) rfl (rl_t rfl rl_nil)) rfl ⟨by rw [e1];rfl,zle⟩
  ·have k2:=h2;try simp only [zs] at k2
   refine Q13 ?_;refine Q34 ag58 sz58 ?_;refine Q6 sz58 ?_;refine Q4 ?_;have e1:decC s=((cmdOf x0 x1 x2 x3 x4 x5 x6 x7 x8),0):=by rw [e0,if_pos hf,show rightC (cmdOf x0 x1 x2 x3 x4 x5 x6 x7 x8)=true by simpa using h2];rfl
   exact ret_many (.inl rfl) rfl (rl_c rfl mmQ (loadP_w ag58 sz58 rfl rfl) rfl (rl_t rfl rl_nil)) rfl ⟨by rw [e1];rfl,zle⟩
theorem dec60 (s:ByteArray)(hs:s.size<2^62)(ge:TypeId)(gf:Nat×Nat)(M:Mem)(hG:M 0=some (szO ge gf)):SoundCall Tryz.prog 144 [str s] M fun r M'=>r = .tup [encC (decC s).1,int (decC s).2]/\M.le M':=by
 by_cases he:(decF shape9 s).2=0
 ·obtain⟨l,hl⟩ : ∃ l,l=(decF shape9 s).1:=⟨_,rfl⟩;have hd:decF shape9 s=(l,0):=by rw [hl,← he]
  obtain⟨hlen,hok⟩:=decF9 hd
  match l,hd,hlen,hok with
  | [x0,x1,x2,x3,x4,x5,x6,x7,x8],hd,_,hok =>
   have e1:szK (kindB (shape9.data[0]!))=1:=by kernel_rfl
   have e2:szK (kindB (shape9.data[7]!))=1:=by kernel_rfl
   have k0:=(hok 0 (by simp)).1;have k7:=(hok 7 (by simp)).1;have k4:=(hok 4 (by simp)).2;have k5:=(hok 5 (by simp)).2;rw [e1] at k0;rw [e2] at k7;simp only [List.getElem_cons_zero,List.getElem_cons_succ] at k0 k7 k4 k5;exact snd144b s hs ge gf M hG x0 x1 x2 x3 x4 x5 x6 x7 x8 hd (by simpa using k0) (by simpa using k7) ⟨by omega,by omega⟩
 ·exact snd144a s hs ge gf M hG he
end C17
