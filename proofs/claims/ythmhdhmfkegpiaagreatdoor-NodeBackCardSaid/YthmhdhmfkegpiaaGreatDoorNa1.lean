import Derived.Test.YthmhdhmfkegpiaaGreatDoorHz
import Derived.Test.YthmhdhmfkegpiaaGreatDoorAmF
import Derived.Test.YthmhdhmfkegpiaaGreatDoorProg
open Go Go.Proofs Go.Am
set_option linter.unusedVariables false
set_option autoImplicit false
set_option maxHeartbeats 4000000
set_option maxRecDepth 20000
set_option linter.unusedSimpArgs false
namespace C17
theorem ag3:aggT Tryz.prog 3=some false:=by kernel_rfl
theorem ag9:aggT Tryz.prog 9=some false:=by kernel_rfl
theorem ag340:aggT Tryz.prog 340=some false:=by kernel_rfl
theorem ag79:aggT Tryz.prog 79=some false:=by kernel_rfl
theorem ag363:aggT Tryz.prog 363=some true:=by kernel_rfl
theorem ag380:aggT Tryz.prog 380=some false:=by kernel_rfl
theorem bz363:(zeroT Tryz.prog 363).map (fun z=>z.cells.toList.map AVal.raw)=some [.raw (.int .i64 0),.raw (.string { data:=#[] }),.raw (.int .i64 0),.raw (.string { data:=#[] }),.raw (.string { data:=#[] })]:=by kernel_rfl
theorem bp363:(aPlaces Tryz.prog 363).isSome=true:=by kernel_rfl
theorem bz382:(zeroT Tryz.prog 382).map (fun z=>z.cells.toList.map AVal.raw)=some [.raw (.string { data:=#[] }),.raw (.int .i64 0),.raw (.int .i64 0),.raw (.map none),.raw (.slice none 0 0)]:=by kernel_rfl
theorem bp382:(aPlaces Tryz.prog 382).isSome=true:=by kernel_rfl
theorem bz385:(zeroT Tryz.prog 385).map (fun z=>z.cells.toList.map AVal.raw)=some [.raw (.int .i64 0),.raw (.int .i64 0)]:=by kernel_rfl
theorem bp385:(aPlaces Tryz.prog 385).isSome=true:=by kernel_rfl
theorem bz387:(zeroT Tryz.prog 387).map (fun z=>z.cells.toList.map AVal.raw)=some [.raw (.int .i64 0),.raw (.int .i64 0),.raw (.string { data:=#[] })]:=by kernel_rfl
theorem bp387:(aPlaces Tryz.prog 387).isSome=true:=by kernel_rfl
theorem fo363_0:fo Tryz.prog 363 0=some (0,1):=by kernel_rfl
theorem fo363_1:fo Tryz.prog 363 1=some (1,1):=by kernel_rfl
theorem fo363_2:fo Tryz.prog 363 2=some (2,1):=by kernel_rfl
theorem fo363_3:fo Tryz.prog 363 3=some (3,1):=by kernel_rfl
theorem fo363_4:fo Tryz.prog 363 4=some (4,1):=by kernel_rfl
theorem fo382_0:fo Tryz.prog 382 0=some (0,1):=by kernel_rfl
theorem fo382_1:fo Tryz.prog 382 1=some (1,1):=by kernel_rfl
theorem fo382_2:fo Tryz.prog 382 2=some (2,1):=by kernel_rfl
theorem fo382_3:fo Tryz.prog 382 3=some (3,1):=by kernel_rfl
theorem fo382_4:fo Tryz.prog 382 4=some (4,1):=by kernel_rfl
theorem fo385_0:fo Tryz.prog 385 0=some (0,1):=by kernel_rfl
theorem fo385_1:fo Tryz.prog 385 1=some (1,1):=by kernel_rfl
theorem fo387_0:fo Tryz.prog 387 0=some (0,2):=by kernel_rfl
theorem fo387_1:fo Tryz.prog 387 1=some (2,1):=by kernel_rfl
theorem kt9:KeyT Tryz.prog 9 Value.string:=keyT_str (by kernel_rfl)
theorem slt79:SlT Tryz.prog 79 363 5 64:=⟨by kernel_rfl,by kernel_rfl,by kernel_rfl,by kernel_rfl,by decide⟩
theorem slt72:SlT Tryz.prog 72 3 1 8:=⟨by kernel_rfl,by kernel_rfl,by kernel_rfl,by kernel_rfl,by decide⟩
theorem sz3:sizeT Tryz.prog 3=some 1:=by kernel_rfl
theorem sz9:sizeT Tryz.prog 9=some 1:=by kernel_rfl
theorem sz340:sizeT Tryz.prog 340=some 1:=by kernel_rfl
theorem sz79:sizeT Tryz.prog 79=some 1:=by kernel_rfl
theorem sz363:sizeT Tryz.prog 363=some 5:=by kernel_rfl
theorem sz380:sizeT Tryz.prog 380=some 1:=by kernel_rfl
theorem sz387:sizeT Tryz.prog 387=some 3:=by kernel_rfl
theorem und3:Tryz.prog.underlying 3=some (.int .i64):=by kernel_rfl
theorem und4:Tryz.prog.underlying 4=some .bool:=by kernel_rfl
theorem und9:Tryz.prog.underlying 9=some .string:=by kernel_rfl
theorem und79:Tryz.prog.underlying 79=some (.slice 363):=by kernel_rfl
theorem und380:Tryz.prog.underlying 380=some (.map 9 387):=by kernel_rfl
theorem und251:Tryz.prog.underlying 251=some (.int .u64):=by kernel_rfl
theorem und416:Tryz.prog.underlying 416=some (.map 9 3):=by kernel_rfl
theorem z3:zeroT Tryz.prog 3=some (.int .i64 0):=by kernel_rfl
theorem z387:zeroT Tryz.prog 387=some (.agg #[(.int .i64 0),(.int .i64 0),(.string { data:=#[] })]):=by kernel_rfl
theorem zc363:zeroCellsT Tryz.prog 363=some [.raw (.int .i64 0),.raw (.string { data:=#[] }),.raw (.int .i64 0),.raw (.string { data:=#[] }),.raw (.string { data:=#[] })]:=by kernel_rfl
theorem zc387:zeroCellsT Tryz.prog 387=some [.raw (.int .i64 0),.raw (.int .i64 0),.raw (.string { data:=#[] })]:=by kernel_rfl
theorem mixed:Tryz.prog.follows .mixedOrders=true:=by kernel_rfl
structure Rec where
 off:Int
 prod:ByteArray
 seq:Int
 key:ByteArray
 val:ByteArray
 deriving DecidableEq,Inhabited
def enc (r:Rec):AVal:=.agg [.raw (.int .i64 r.off),.raw (.string r.prod),.raw (.int .i64 r.seq),.raw (.string r.key),.raw (.string r.val)]
def encI (n:Int):AVal:=.raw (.int .i64 n)
theorem elsR {l:List Rec}:Els 5 (l.map enc):=Els.map fun _=>⟨rfl,rfl⟩
theorem elsI {l:List Int}:Els 1 (l.map encI):=Els.map fun _=>⟨rfl,rfl⟩
def emp:ByteArray:={ data:=#[] }
def superB (l:List Rec)(i:Nat):Bool:=decide ((l.getD i default).key≠emp) && (l.drop (i+1)).any fun r=>decide (r.key=(l.getD i default).key)
theorem superB_iff {l:List Rec}{i:Nat}(hi:i<l.length):superB l i=true↔l[i].key≠emp/\∃ j,∃ h:j<l.length,i<j/\l[j].key=l[i].key:=by
 unfold superB;have e:l.getD i default=l[i]:=by simp [List.getD,hi]
 rw [e];simp only [Bool.and_eq_true,decide_eq_true_eq,List.any_eq_true,List.mem_drop_iff_getElem];constructor
 ·rintro ⟨h1,r,⟨k,hk,rfl⟩,h2⟩;exact⟨h1,i+1+k,by omega,by omega,h2⟩
 ·rintro ⟨h1,j,hj,h2,h3⟩;refine⟨h1,l[j],⟨j - (i+1),by omega,?_⟩,h3⟩;congr 1;omega
def keepN (l:List Rec)(upto:Int)(n:Nat):List Rec:=((List.range n).filter fun i=>!superB l i || decide (upto<=(l.getD i default).off)).map fun i=>l.getD i default
def goneN (l:List Rec)(upto:Int)(n:Nat):List Int:=((List.range n).filter fun i=>superB l i && decide ((l.getD i default).off<upto)).map fun i=>(l.getD i default).off
theorem keepN_succ (l:List Rec)(upto:Int){n:Nat}(h:n<l.length):keepN l upto (n+1)=keepN l upto n++if !superB l n || decide (upto<=l[n].off) then [l[n]] else []:=by
 have e:l.getD n default=l[n]:=by simp [List.getD,h]
 unfold keepN;rw [List.range_succ,List.filter_append,List.map_append];congr 1;simp only [List.filter_cons,List.filter_nil,e];split<;>simp [List.getD,h]
theorem goneN_succ (l:List Rec)(upto:Int){n:Nat}(h:n<l.length):goneN l upto (n+1)=goneN l upto n++if superB l n && decide (l[n].off<upto) then [l[n].off] else []:=by
 have e:l.getD n default=l[n]:=by simp [List.getD,h]
 unfold goneN;rw [List.range_succ,List.filter_append,List.map_append];congr 1;simp only [List.filter_cons,List.filter_nil,e];split<;>simp [List.getD,h]
theorem keepN_len (l:List Rec)(upto:Int)(n:Nat):(keepN l upto n).length<=n:=by
 unfold keepN;rw [List.length_map];exact Nat.le_trans (List.length_filter_le _ _) (by simp)
theorem goneN_len (l:List Rec)(upto:Int)(n:Nat):(goneN l upto n).length<=n:=by
 unfold goneN;rw [List.length_map];exact Nat.le_trans (List.length_filter_le _ _) (by simp)
theorem app_map {α:Type}{f:α->AVal}{l:List α}{x:α}{l':List α}(h:l'=l++[x]):(AVal.sl (l.map f++[f x]) true) = .sl (l'.map f) true:=by subst h;simp
def encN (n:Nat):AVal:=.raw (.int .i64 n)
def lastN (l:List Rec)(key:ByteArray):Nat->Option Nat
 | 0=>none
 | n+1=>if (l.getD n default).key=key then some n else lastN l key n
theorem getD_lt {l:List Rec}{n:Nat}(h:n<l.length):l.getD n default=l[n]:=by simp [List.getD,h]
theorem lastN_spec (l : List Rec) (key : ByteArray) : ∀ n, (∀ m, lastN l key n = some m → m < n ∧ (l.getD m default).key = key ∧ ∀ j, m < j → j < n → (l.getD j default).key ≠ key) ∧ (lastN l key n = none → ∀ j < n, (l.getD j default).key ≠ key)
  | 0 => ⟨fun m h => by simp [lastN] at h, fun _ j h => by omega⟩
  | n + 1 => by
    obtain ⟨h1, h2⟩ := lastN_spec l key n
    unfold lastN
    by_cases h : (l.getD n default).key = key
    · rw [if_pos h]
      exact ⟨fun m e => by obtain rfl := Option.some.inj e; exact ⟨by omega, h, fun j _ _ => by omega⟩, fun e => by cases e⟩
    · rw [if_neg h]
      refine ⟨fun m e => ?_, fun e j hj => ?_⟩
      · obtain ⟨h3, h4, h5⟩ := h1 m e
        exact ⟨by omega, h4, fun j h6 h7 => by by_cases e : j = n; · subst e; exact h
                                               · exact h5 j h6 (by omega)⟩
      · by_cases e' : j = n
        · subst e'; exact h
        · exact h2 e j (by omega)
theorem last_gt {l:List Rec}{i:Nat}(hi:i<l.length)(hk:l[i].key≠emp):((i:Int)<(((lastN l l[i].key l.length).getD 0:Nat):Int))↔superB l i=true:=by
 rw [superB_iff hi];obtain⟨h1,h2⟩:=lastN_spec l l[i].key l.length;cases h:lastN l l[i].key l.length with
 | none=>exact absurd rfl (by have:=h2 h i hi;rw [getD_lt hi] at this;exact this)
 | some m =>
  obtain⟨h3,h4,h5⟩:=h1 m h;rw [getD_lt h3] at h4;simp only [Option.getD_some];constructor
  ·intro h6;exact⟨hk,m,h3,by omega,h4⟩
  ·rintro ⟨-,j,hj,h6,h7⟩;rcases Nat.lt_or_ge m j with h8|h8
   ·exact absurd h7 (by have:=h5 j h8 hj;rw [getD_lt hj] at this;exact this)
   ·omega
theorem lookN (o:Option Nat):((o.map encN).getD (ofConst (.int .i64 0))).shut = .raw (.int .i64 ((o.getD 0:Nat):Int)):=by
 cases o<;>rfl
theorem ne_fresh {M:Mem}{b c:Nat}{o:AObj}(h:M b=none)(h':M c=some o):c≠b:=fun e=>by subst e;rw [h] at h';cases h'
def int (n:Int):AVal:=.raw (.int .i64 n)
def str (s:ByteArray):AVal:=.raw (.string s)
def ptr (b:Nat):AVal:=.raw (.pointer (some ⟨b,0,none⟩))
def bool (b:Bool):AVal:=.raw (.bool b)
def wordC (n:Int):Bool:=decide (97<=n) && decide (n<=122) || decide (48<=n) && decide (n<=57)
def word (s:ByteArray):Bool:=decide (s≠emp) && decide (s.size<=20) && s.data.toList.all fun b=>wordC b.toNat
theorem decode_low {s:ByteArray}{p:Nat}(h:p<s.size):((s.data[p]'h).toNat<128->Utf8.decode s p=((s.data[p]'h).toNat,1))/\(128<=(s.data[p]'h).toNat->128<=(Utf8.decode s p).1):=by
 have e:(s.get! (p+0)).toNat=(s.data[p]'h).toNat:=by
  have h':p<s.data.size:=h;show (s.data[p]!).toNat=_
  rw [getElem!_pos s.data p h']
 unfold Utf8.decode;simp only [e];constructor
 ·intro h1;rw [if_pos h1]
 ·intro h1;rw [if_neg (by omega)];have hr:128<=Utf8.runeError:=by decide
  split
  ·split
   ·rename_i hc;exact hc
   ·exact hr
  ·split
   ·split
    ·rename_i hc;simp only [Bool.and_eq_true,decide_eq_true_eq] at hc;dsimp only;omega
    ·exact hr
   ·split
    ·split
     ·rename_i hc;simp only [Bool.and_eq_true,decide_eq_true_eq] at hc;dsimp only;omega
     ·exact hr
    ·exact hr
theorem wordC_lt {n:Int}(h:wordC n=true):n<128:=by
 simp [wordC] at h;omega
def right (r:Rec):Bool:=decide (0<=min r.off r.seq) && decide (max r.off r.seq<=9007199254740991) && decide (r.prod.size<=20) && decide (r.key.size<=100) && decide (r.val.size<=1000)
theorem right_spec {r:Rec}:right r=true↔0<=r.off/\0<=r.seq/\r.off<=9007199254740991/\r.seq<=9007199254740991/\r.prod.size<=20/\r.key.size<=100/\r.val.size<=1000:=by
 unfold right;simp only [Bool.and_eq_true,decide_eq_true_eq];constructor
 ·rintro ⟨⟨⟨⟨h1,h2⟩,h3⟩,h4⟩,h5⟩;omega
 ·rintro ⟨h1,h2,h3,h4,h5,h6,h7⟩;omega
theorem ok_succ {s:ByteArray}{p:Nat}(hok:∀ j,∀ hj:j<s.size,j<p->wordC (s.data[j]'hj).toNat=true)(hp:p<s.size)(hw:wordC ((s.data[p]'hp).toNat:Int)=true):∀ j,∀ hj:j<s.size,j<p+1->wordC (s.data[j]'hj).toNat=true:=fun j hj hlt=>by
 rcases Nat.lt_or_ge j p with h|h
 ·exact hok j hj h
 ·obtain rfl:j=p:=by omega
  exact hw
theorem allT {s:ByteArray}{p:Nat}(h:∀ j,∀ hj:j<s.size,j<p->wordC (s.data[j]'hj).toNat=true)(hp:s.size<=p):s.data.toList.all (fun b=>wordC b.toNat)=true:=by
 rw [List.all_eq_true];intro b hb;obtain⟨j,hj,rfl⟩:=List.mem_iff_getElem.1 hb;have hj':j<s.size:=by simpa using hj
 exact h j hj' (by omega)
theorem allF {s:ByteArray}{p:Nat}(hp:p<s.size)(h:wordC (s.data[p]'hp).toNat=false):s.data.toList.all (fun b=>wordC b.toNat)=false:=by
 rw [List.all_eq_false];refine⟨(s.data[p]'hp),?_,by rw [h];decide⟩;exact Array.mem_toList_iff.2 (Array.getElem_mem _)
def tk346:Nat->Nat->Option Nat:=fun _ _=>none
def pl346:Nat->List PStep:=fun _=>[]
theorem cb346:Tryz.f346.body.map (codeB Tryz.prog Tryz.f346.ntmps tk346 pl346)=some true:=by kernel_rfl
theorem goes346:goesB Tryz.prog 346=true:=by kernel_rfl
theorem snd346 (n:Int)(M:Mem):SoundCall Tryz.prog 346 [.raw (.int .i32 n)] M fun r M'=>r=bool (!wordC n)/\M.le M':=by
 refine SoundCall.go tk346 pl346 mixed Tryz.func346 cb346 rfl (Nat.le_of_ble_eq_true rfl) ?_;refine Q15 ?_;refine Q5 ?_;refine Q23 ?_;refine Q2 ?_;refine o_cases (want:=true) (j:=2) rfl rfl (fun h1=>?_) (fun h1=>?_)
 ·have k1:=h1;try simp only [zs] at k1
  refine Q60 h1 h1 ?_;refine Q89 ?_;refine Q32 h1 ?_;refine Q2 ?_;refine o_cases (want:=false) (j:=6) rfl rfl (fun h2=>?_) (fun h2=>?_)
  ·have k2:=h2;try simp only [zs] at k2
   refine Q60 h2 h2 ?_;refine Q23 ?_;refine Q188 h2 ?_;refine o_cases (want:=true) (j:=9) rfl rfl (fun h3=>?_) (fun h3=>?_)
   ·have k3:=h3;try simp only [zs] at k3
    refine Q60 h3 h3 ?_;refine Q89 ?_;refine Q16 h2 ?_;refine Q32 h3 ?_;refine Q30 h2 ?_;refine Q90 ?_;refine Q4 ?_;refine⟨congrArg (fun b=>AVal.raw (.bool b)) ?_,zle⟩;simp_all [wordC]
   ·have k3:=h3;try simp only [zs] at k3
    refine Q24 h3 h3 ?_;refine Q16 h2 ?_;refine Q30 h3 ?_;refine Q30 h2 ?_;refine Q90 ?_;refine Q4 ?_;refine⟨congrArg (fun b=>AVal.raw (.bool b)) ?_,zle⟩;simp_all [wordC]
  ·have k2:=h2;try simp only [zs] at k2
   refine Q106 h2 h2 h2 ?_;refine o_skip rfl rfl rfl rfl ?_;refine o_skip rfl rfl rfl rfl ?_;refine Q156 h2 ?_;refine Q32 h2 ?_;refine Q90 ?_;refine Q4 ?_;refine⟨congrArg (fun b=>AVal.raw (.bool b)) ?_,zle⟩;simp_all [wordC]
 ·have k1:=h1;try simp only [zs] at k1
  refine Q24 h1 h1 ?_;refine Q30 h1 ?_;refine Q69 ?_;refine Q23 ?_;refine Q8 ?_;refine Q2 ?_;refine o_cases (want:=true) (j:=9) rfl rfl (fun h4=>?_) (fun h4=>?_)
  ·have k4:=h4;try simp only [zs] at k4
   refine Q60 h4 h4 ?_;refine Q89 ?_;refine Q8 ?_;refine Q32 h4 ?_;refine Q21 ?_;refine Q90 ?_;refine Q4 ?_;refine⟨congrArg (fun b=>AVal.raw (.bool b)) ?_,zle⟩;simp_all [wordC]
  ·have k4:=h4;try simp only [zs] at k4
   refine Q24 h4 h4 ?_;refine Q8 ?_;refine Q30 h4 ?_;refine Q21 ?_;refine Q90 ?_;refine Q4 ?_;refine⟨congrArg (fun b=>AVal.raw (.bool b)) ?_,zle⟩;simp_all [wordC]
def tk359:Nat->Nat->Option Nat:=fun _ _=>none
def pl359:Nat->List PStep:=fun _=>[]
theorem cb359:Tryz.f359.body.map (codeB Tryz.prog Tryz.f359.ntmps tk359 pl359)=some true:=by kernel_rfl
theorem goes359:goesB Tryz.prog 359=true:=by kernel_rfl
theorem snd359 (s:ByteArray)(M:Mem):SoundCall Tryz.prog 359 [str s,.raw (.func (.func 346) #[] #[]),bool true] M fun r M'=>∃ n:Int,r=int n/\decide (n<0)=s.data.toList.all (fun b=>wordC b.toNat)/\M.le M':=by
 refine SoundCall.go tk359 pl359 mixed Tryz.func359 cb359 rfl (Nat.le_of_ble_eq_true rfl) ?_;refine Q15 ?_;refine Q9 ?_;refine o_range und9 rfl (fun B1 hB1=>?_);refine Q147 ?_;refine s_loop (fun m S=>∃ T,∃ M':Mem,∃ p:Nat,S=⟨setT (setT (setT (setT T 0 (str s)) 1 (.raw (.func (.func 346) #[] #[]))) 2 (bool true)) 10 (ptr B1),M'⟩/\M.le M'/\M' B1=some (.it (.stringIter s p))/\(∀ j,∀ hj:j<s.size,j<p->wordC (s.data[j]'hj).toNat=true)/\m=s.size - p) s.size ?_ ?_
 ·exact⟨_,_,0,St.mkT (kp (kp (kp (kp rfl rfl) rfl) rfl) rfl).symm,zle,mmQ,fun j _ h=>by omega,rfl⟩
 rintro m S ⟨T,M',p,rfl,hle,hB,hok,rfl⟩;refine Q0 ?_;refine o_next rfl mmQ (fun h1=>?_) (fun h1=>?_)
 ·obtain⟨d1,d2⟩:=decode_low h1;refine o_q (q_extr rfl rfl) rfl rfl rfl ?_;refine Q70 ?_;refine Q116 ?_;refine Q13 ?_;refine s_block ?_;refine Q0 ?_;refine o_q (q_extr rfl rfl) rfl rfl rfl ?_;refine o_q (q_extr rfl rfl) rfl rfl rfl ?_;refine Q26 ?_;refine Q5 ?_;refine Q2 ?_;refine o_callv rfl ((snd346 ((Utf8.decode s p).1:Int) _).det) goes346 (ac (v_raw rfl) ac_nil) rfl rfl ?_;rintro r M'' ⟨rfl,rfl⟩;refine Q2 ?_;refine o_q (q_beql und4 rfl rfl) rfl rfl rfl ?_;refine Q1 ?_;refine s_cond rfl (fun h2=>?_) (fun h2=>?_)
  ·have k2:=h2;try simp only [zs] at k2
   refine Q5 ?_;refine Q54 ?_;refine s_blk_ret ?_;refine s_inv_ret ?_;refine Q218 ?_;refine⟨p,rfl,?_,zle⟩;have hw:wordC ((Utf8.decode s p).1:Int)=false:=by simpa using k2
   rw [allF h1 (by
    by_cases hlt:(s.data[p]'h1).toNat<128
    ·rw [d1 hlt] at hw;exact hw
    ·rw [Bool.eq_false_iff];intro hc;have:=wordC_lt hc;omega)]
   simp
  ·have k2:=h2;try simp only [zs] at k2
   refine Q148 ?_;refine s_inv ?_;have hw:wordC ((Utf8.decode s p).1:Int)=true:=by simpa using k2
   have hlt:(s.data[p]'h1).toNat<128:=by
    rcases Nat.lt_or_ge (s.data[p]'h1).toNat 128 with h|h
    ·exact h
    ·have:=d2 h;have:=wordC_lt hw;omega
   rw [d1 hlt] at hw ⊢;exact⟨s.size - (p+1),by omega,_,_,p+1,St.mkT (kp (kp (kp (kp rfl rfl) rfl) rfl) rfl).symm,zle,mmQ,ok_succ hok h1 hw,rfl⟩
 ·refine o_q (q_extr rfl rfl) rfl rfl rfl ?_;refine Q70 ?_;refine s_else rfl rfl ?_;refine Q117 ?_;refine Q4 ?_;refine⟨-1,rfl,?_,zle⟩;rw [allT hok (by omega)];decide
def tk345:Nat->Nat->Option Nat:=fun _ _=>none
def pl345:Nat->List PStep:=fun _=>[]
theorem cb345:Tryz.f345.body.map (codeB Tryz.prog Tryz.f345.ntmps tk345 pl345)=some true:=by kernel_rfl
theorem goes345:goesB Tryz.prog 345=true:=by kernel_rfl
theorem snd345 (s:ByteArray)(M:Mem):SoundCall Tryz.prog 345 [str s,.raw (.func (.func 346) #[] #[])] M fun r M'=>∃ n:Int,r=int n/\decide (n<0)=s.data.toList.all (fun b=>wordC b.toNat)/\M.le M':=by
 refine SoundCall.go tk345 pl345 mixed Tryz.func345 cb345 rfl (Nat.le_of_ble_eq_true rfl) ?_;refine Q15 ?_;refine Q5 ?_;refine Q2 ?_;refine o_callx (snd359 s _) goes359 (ac (v_raw rfl) (ac (v_raw rfl) (ac (v_raw rfl) ac_nil))) rfl ?_;rintro r M' ⟨n,rfl,hn,hle⟩;refine Q4 ?_;exact⟨n,rfl,hn,hle⟩
def tk305:Nat->Nat->Option Nat:=fun _ _=>none
def pl305:Nat->List PStep:=fun _=>[]
theorem cb305:Tryz.f305.body.map (codeB Tryz.prog Tryz.f305.ntmps tk305 pl305)=some true:=by kernel_rfl
theorem goes305:goesB Tryz.prog 305=true:=by kernel_rfl
theorem snd305 (s:ByteArray)(M:Mem):SoundCall Tryz.prog 305 [str s] M fun r M'=>r=bool (word s)/\M.le M':=by
 refine SoundCall.go tk305 pl305 mixed Tryz.func305 cb305 rfl (Nat.le_of_ble_eq_true rfl) ?_;refine Q15 ?_;refine Q5 ?_;refine Q170 ?_;refine Q2 ?_;refine o_cases (want:=true) (j:=2) rfl rfl (fun h1=>?_) (fun h1=>?_)
 ·have k1:=h1;try simp only [zs] at k1
  refine Q60 h1 h1 ?_;refine Q61 und9 ?_;refine Q16 h1 ?_;refine Q89 ?_;refine Q32 h1 ?_;refine Q2 ?_;refine o_cases (want:=true) (j:=7) rfl rfl (fun h2=>?_) (fun h2=>?_)
  ·have k2:=h2;try simp only [zs] at k2
   refine Q60 h2 h2 ?_;refine o_callx (snd345 s _) goes345 (ac (v_raw rfl) (ac (v_raw rfl) ac_nil)) rfl ?_;rintro r M' ⟨n,rfl,hn,hle⟩;refine Q16 h2 ?_;refine Q109 ?_;refine Q32 h2 ?_;refine Q4 ?_;refine⟨congrArg (fun b=>AVal.raw (.bool b)) ?_,zle⟩;simp_all [word,emp]<;>(intros;omega)
  ·have k2:=h2;try simp only [zs] at k2
   refine Q106 h2 h2 h2 ?_;refine Q30 h2 ?_;refine Q4 ?_;refine⟨congrArg (fun b=>AVal.raw (.bool b)) ?_,zle⟩;simp_all [word,emp]<;>(intros;omega)
 ·have k1:=h1;try simp only [zs] at k1
  refine Q106 h1 h1 h1 ?_;refine Q30 h1 ?_;refine Q99 ?_;refine Q21 ?_;refine Q4 ?_;refine⟨congrArg (fun b=>AVal.raw (.bool b)) ?_,zle⟩;simp_all [word,emp]<;>(intros;omega)
def tk331:Nat->Nat->Option Nat:=fun _ _=>none
def pl331:Nat->List PStep:=fun _=>[]
theorem cb331:Tryz.f331.body.map (codeB Tryz.prog Tryz.f331.ntmps tk331 pl331)=some true:=by kernel_rfl
theorem goes331:goesB Tryz.prog 331=true:=by kernel_rfl
theorem snd331 (r:Rec)(M:Mem):SoundCall Tryz.prog 331 [enc r] M fun t M'=>t=bool (right r)/\M.le M':=by
 refine SoundCall.go tk331 pl331 mixed Tryz.func331 cb331 rfl (Nat.le_of_ble_eq_true rfl) ?_;refine Q0 ?_;refine o_box zbx rfl rfl (fun B1 hB1=>?_);have m1:M B1=none:=zm hB1;refine Q7 ?_;refine Q27 fo363_0 ag3 sz3 ?_;refine Q12 fo363_2 ag3 sz3 ?_;refine o_q (q_min rfl rfl) rfl rfl rfl ?_;refine Q23 ?_;refine Q2 ?_;refine o_cases (want:=true) (j:=6) rfl rfl (fun h1=>?_) (fun h1=>?_)
 ·have k1:=h1;try simp only [zs] at k1
  refine Q110 h1 fo363_0 h1 ?_;refine Q46 ag3 sz3 ?_;refine Q110 h1 fo363_2 h1 ?_;refine Q46 ag3 sz3 ?_;refine Q16 h1 ?_;refine o_q (q_max rfl rfl) rfl rfl rfl ?_;refine Q16 h1 ?_;refine Q89 ?_;refine Q32 h1 ?_;refine Q2 ?_;refine o_cases (want:=true) (j:=14) rfl rfl (fun h2=>?_) (fun h2=>?_)
  ·have k2:=h2;try simp only [zs] at k2
   refine Q110 h2 fo363_1 h2 ?_;refine Q46 ag9 sz9 ?_;refine Q16 h2 ?_;refine Q61 und9 ?_;refine Q16 h2 ?_;refine Q89 ?_;refine Q32 h2 ?_;refine Q2 ?_;refine o_cases (want:=true) (j:=20) rfl rfl (fun h3=>?_) (fun h3=>?_)
   ·have k3:=h3;try simp only [zs] at k3
    refine Q110 h3 fo363_3 h3 ?_;refine Q46 ag9 sz9 ?_;refine Q16 h3 ?_;refine Q61 und9 ?_;refine Q16 h3 ?_;refine Q89 ?_;refine Q32 h3 ?_;refine Q2 ?_;refine o_cases (want:=true) (j:=26) rfl rfl (fun h4=>?_) (fun h4=>?_)
    ·have k4:=h4;try simp only [zs] at k4
     refine Q110 h4 fo363_4 h4 ?_;refine Q46 ag9 sz9 ?_;refine Q16 h4 ?_;refine Q61 und9 ?_;refine Q16 h4 ?_;refine Q89 ?_;refine Q32 h4 ?_;refine Q4 ?_;refine⟨congrArg (fun b=>AVal.raw (.bool b)) ?_,zle⟩;rw [Bool.eq_iff_iff,right_spec];try simp only [decide_eq_true_eq,Bool.false_eq_true,false_iff]
     omega
    ·have k4:=h4;try simp only [zs] at k4
     refine Q24 h4 h4 ?_;refine Q24 h4 h4 ?_;refine Q30 h4 ?_;refine Q4 ?_;refine⟨congrArg (fun b=>AVal.raw (.bool b)) ?_,zle⟩;rw [Bool.eq_iff_iff,right_spec];try simp only [decide_eq_true_eq,Bool.false_eq_true,false_iff]
     omega
   ·have k3:=h3;try simp only [zs] at k3
    refine Q24 h3 h3 ?_;refine Q24 h3 h3 ?_;refine Q30 h3 ?_;refine Q111 ?_;refine Q81 ?_;refine Q21 ?_;refine Q4 ?_;refine⟨congrArg (fun b=>AVal.raw (.bool b)) ?_,zle⟩;rw [Bool.eq_iff_iff,right_spec];try simp only [decide_eq_true_eq,Bool.false_eq_true,false_iff]
    omega
  ·have k2:=h2;try simp only [zs] at k2
   refine Q24 h2 h2 ?_;refine Q24 h2 h2 ?_;refine Q30 h2 ?_;refine Q111 ?_;refine Q81 ?_;refine Q21 ?_;refine Q111 ?_;refine Q81 ?_;refine Q21 ?_;refine Q4 ?_;refine⟨congrArg (fun b=>AVal.raw (.bool b)) ?_,zle⟩;rw [Bool.eq_iff_iff,right_spec];try simp only [decide_eq_true_eq,Bool.false_eq_true,false_iff]
   omega
 ·have k1:=h1;try simp only [zs] at k1
  iterate 3 refine Q24 h1 h1 ?_
  refine Q30 h1 ?_;refine Q111 ?_;refine Q81 ?_;refine Q21 ?_;refine Q111 ?_;refine Q81 ?_;refine Q21 ?_;refine Q111 ?_;refine Q81 ?_;refine Q21 ?_;refine Q4 ?_;refine⟨congrArg (fun b=>AVal.raw (.bool b)) ?_,zle⟩;rw [Bool.eq_iff_iff,right_spec];try simp only [decide_eq_true_eq,Bool.false_eq_true,false_iff]
  omega
def tk290:Nat->Nat->Option Nat:=fun _ _=>none
def pl290:Nat->List PStep:=fun _=>[]
theorem cb290:Tryz.f290.body.map (codeB Tryz.prog Tryz.f290.ntmps tk290 pl290)=some true:=by kernel_rfl
theorem goes290:goesB Tryz.prog 290=true:=by kernel_rfl
def encL (v:Int×Int×ByteArray):AVal:=.agg [int v.1,int v.2.1,str v.2.2]
structure Tp where
 name:ByteArray
 low:Int
 en:Int
 kvs:List (ByteArray×(Int×Int×ByteArray))
 recs:List Rec
def tpC (m:Nat)(x:Tp):List AVal:=[str x.name,int x.low,int x.en,.raw (.map (some m)),.sl (x.recs.map enc) true]
abbrev tpK (x:Tp):AObj:=.map (ents Value.string encL x.kvs)
abbrev setTp (M:Mem)(t m:Nat)(x:Tp):Mem:=(M.upd m (tpK x)).upd t (.cells (tpC m x))
def newR (x:Tp)(p:ByteArray)(seq:Int)(k v:ByteArray):Rec:=⟨x.en,p,seq,k,v⟩
def pub (x:Tp)(p:ByteArray)(seq:Int)(k v:ByteArray):Tp×Int×Int :=
 if word p && right (newR x p seq k v) then
  match kget x.kvs p with
  | some l=>if seq<l.1 then (x,0,6) else if seq=l.1 then (x,l.2.1,0) else (⟨x.name,x.low,x.en+1,kput x.kvs p (seq,x.en,p),x.recs++[newR x p seq k v]⟩,x.en,0)
  | none=>(⟨x.name,x.low,x.en+1,kput x.kvs p (seq,x.en,p),x.recs++[newR x p seq k v]⟩,x.en,0)
 else (x,0,7)
theorem Mem.ne_none {M:Mem}{b c:Nat}{o:AObj}(h:M c=some o)(h':M b=none):c≠b:=fun e=>by subst e;rw [h] at h';cases h'
theorem le_tp {M M':Mem}{t m:Nat}{x:Tp}{l:List AVal}(h1:M' t=some (.cells l))(h2:M' m=some (tpK x))(h3:∀ c o,c≠t->c≠m->M c=some o->M' c=some o)(hl:l=tpC m x):(setTp M t m x).le M':=fun c o hc=>by
 subst hl;unfold setTp Mem.upd at hc;by_cases e:c=t
 ·rw [if_pos e] at hc;cases hc;rw [e];exact h1
 ·rw [if_neg e] at hc;by_cases e':c=m
  ·rw [if_pos e'] at hc;cases hc;rw [e'];exact h2
  ·rw [if_neg e'] at hc;exact h3 c o e e' hc
theorem setTp_same {M:Mem}{t m:Nat}{x:Tp}(h1:M t=some (.cells (tpC m x)))(h2:M m=some (tpK x))(d:t≠m):setTp M t m x=M:=by
 unfold setTp;rw [Mem.upd_same h2,Mem.upd_same h1]
theorem snd290 (s:ByteArray)(M:Mem):SoundCall Tryz.prog 290 [str s] M fun r M'=>(word s=false/\r = .tup [.raw (.pointer none),int 5]/\M.le M')\/(word s=true/\∃ t m l,M t=none/\M m=none/\t≠m/\r = .tup [ptr t,int 0]/\l.map nilOwn=tpC m ⟨s,0,0,[],[]⟩/\M' t=some (.cells l)/\M' m=some (.map [])/\M.le M'):=by
 refine SoundCall.go tk290 pl290 mixed Tryz.func290 cb290 rfl (Nat.le_of_ble_eq_true rfl) ?_;refine Q0 ?_;refine Q55 ?_;refine Q40 ?_;refine o_call ((snd305 s _).det) goes305 (ac (v_raw rfl) ac_nil) rfl ?_;refine Q59 ?_;refine s_cond rfl (fun h1=>?_) (fun h1=>?_)
 ·have k1:=h1;try simp only [zs] at k1
  refine Q0 ?_;refine Q55 ?_;refine Q11 ?_;exact ret_many (.inl rfl) rfl (rl_t rfl (rl_t rfl rl_nil)) rfl (.inl ⟨by simpa using h1,rfl,zle⟩)
 ·have k1:=h1;try simp only [zs] at k1
  refine Q71 ?_;refine o_makeMap (fun B1 hB1=>?_);have m1:M B1=none:=zm hB1;refine o_q (q_b (cs:=[_,.raw (.int .i64 0),.raw (.int .i64 0),_,.raw (.slice none 0 0)]) bz382 bp382 (bf fo382_0 (e_raw rfl) rfl rfl (Nat.le_of_ble_eq_true rfl) rfl (bf fo382_3 (e_raw rfl) rfl rfl (Nat.le_of_ble_eq_true rfl) rfl bf_nil))) rfl rfl rfl ?_;refine o_box zbx rfl rfl (fun B2 hB2=>?_);have f1_2:B1≠B2:=Mem.fresh_ne hB2 mmQ;have g2_1:B2≠B1:=f1_2.symm;have m2:M B2=none:=zm hB2;refine Q55 ?_;refine Q4 ?_;exact ret_many (.inl rfl) rfl (rl_t rfl (rl_t rfl rl_nil)) rfl (.inr ⟨by simpa using h1,B2,B1,_,m2,m1,g2_1,rfl,rfl,mmQ,mmQ,zle⟩)
def tk329:Nat->Nat->Option Nat:=fun _ _=>none
def pl329:Nat->List PStep:=fun _=>[]
theorem cb329:Tryz.f329.body.map (codeB Tryz.prog Tryz.f329.ntmps tk329 pl329)=some true:=by kernel_rfl
theorem goes329:goesB Tryz.prog 329=true:=by kernel_rfl
theorem newT (s:ByteArray)(M:Mem)(hw:word s=true):SoundCall Tryz.prog 290 [str s] M fun r M'=>∃ t m,M t=none/\M m=none/\t≠m/\r = .tup [ptr t,int 0]/\M'=setTp M t m ⟨s,0,0,[],[]⟩ :=
 (snd290 s M).recast fun r M' h=>by
  rcases h with ⟨h,-⟩|⟨-,t,m,l,h1,h2,h3,h4,h5,h6,h7,h8⟩
  ·rw [hw] at h;cases h
  ·refine⟨_,Mem.imp_trans (Mem.imp_nil h6) (M'':=setTp M t m ⟨s,0,0,[],[]⟩) ?_,t,m,h1,h2,h3,h4,rfl⟩;intro b o hb;unfold setTp Mem.upd at hb;unfold Mem.upd;by_cases e:b=t
   ·rw [if_pos e] at hb ⊢;rw [h5];exact⟨_,rfl,by cases hb;exact⟨id,fun _ _ _ h=>h⟩⟩
   ·rw [if_neg e] at hb ⊢;by_cases e':b=m
    ·rw [if_pos e'] at hb;subst e';exact⟨_,h7,by cases hb;exact⟨id,fun _ _ _ h=>h⟩⟩
    ·rw [if_neg e'] at hb;exact⟨_,h8 b o hb,id,fun _ _ _ h=>h⟩
theorem snd329 (t m:Nat)(x:Tp)(M:Mem)(ht:M t=some (.cells (tpC m x)))(hm:M m=some (tpK x))(htm:t≠m):SoundCall Tryz.prog 329 [ptr t] M fun r M'=>r=int x.en/\M.le M':=by
 refine SoundCall.go tk329 pl329 mixed Tryz.func329 cb329 rfl (Nat.le_of_ble_eq_true rfl) ?_;refine Q15 ?_;refine Q18 ?_;refine Q56 fo382_2 ag3 sz3 ?_;refine Q4 ?_;exact⟨rfl,zle⟩
def tk294:Nat->Nat->Option Nat:=fun _ _=>none
def pl294:Nat->List PStep:=fun _=>[]
theorem cb294:Tryz.f294.body.map (codeB Tryz.prog Tryz.f294.ntmps tk294 pl294)=some true:=by kernel_rfl
theorem goes294:goesB Tryz.prog 294=true:=by kernel_rfl
theorem snd294 (t m:Nat)(x:Tp)(M:Mem)(ht:M t=some (.cells (tpC m x)))(hm:M m=some (tpK x))(htm:t≠m):SoundCall Tryz.prog 294 [ptr t] M fun r M'=>r=int x.low/\M.le M':=by
 refine SoundCall.go tk294 pl294 mixed Tryz.func294 cb294 rfl (Nat.le_of_ble_eq_true rfl) ?_;refine Q15 ?_;refine Q18 ?_;refine Q56 fo382_1 ag3 sz3 ?_;refine Q4 ?_;exact⟨rfl,zle⟩
def tk330:Nat->Nat->Option Nat:=fun _ _=>none
def pl330:Nat->List PStep:=fun _=>[]
theorem cb330:Tryz.f330.body.map (codeB Tryz.prog Tryz.f330.ntmps tk330 pl330)=some true:=by kernel_rfl
theorem goes330:goesB Tryz.prog 330=true:=by kernel_rfl
theorem snd330 (t m:Nat)(x:Tp)(M:Mem)(ht:M t=some (.cells (tpC m x)))(hm:M m=some (tpK x))(htm:t≠m):SoundCall Tryz.prog 330 [ptr t] M fun r M'=>r=str x.name/\M.le M':=by
 refine SoundCall.go tk330 pl330 mixed Tryz.func330 cb330 rfl (Nat.le_of_ble_eq_true rfl) ?_;refine Q15 ?_;refine Q18 ?_;refine Q56 fo382_0 ag9 sz9 ?_;refine Q4 ?_;exact⟨rfl,zle⟩
def tk292:Nat->Nat->Option Nat
 | 10,4=>some 0
 | _,_=>none
def pl292:Nat->List PStep
 | 9=>[.q 0,.q 1,.q 2,.q 3,.q 4,.q 5,.q 6,.q 7,.q 8,.q 9,.q 10,.q 11,.q 12,.s 13 []]
 | 10=>[.q 0,.q 1,.q 2,.q 3,.q 5,.q 6,.s 4 [6,5,2,1,0],.q 7,.q 8,.q 9,.s 10 [8]]
 | _=>[]
theorem cb292:Tryz.f292.body.map (codeB Tryz.prog Tryz.f292.ntmps tk292 pl292)=some true:=by kernel_rfl
theorem goes292:goesB Tryz.prog 292=true:=by kernel_rfl
theorem snd292a (t m:Nat)(x:Tp)(p:ByteArray)(seq:Int)(k v:ByteArray)(M:Mem)(ht:M t=some (.cells (tpC m x)))(hm:M m=some (tpK x))(htm:t≠m)(hen:0<=x.en/\x.en<2^62)(hlen:x.recs.length<2^40)(hb:(word p && right (newR x p seq k v))=false):SoundCall Tryz.prog 292 [ptr t,str p,int seq,str k,str v] M fun r M'=>r = .tup [int 0,int 7]/\M.le M':=by
 refine Q219 ?_;refine Q0 ?_;refine Q26 ?_;refine Q18 ?_;refine Q56 fo382_2 ag3 sz3 ?_;refine Q64 ?_;refine Q64 ?_;refine Q220 bz363 bp363 fo363_0 fo363_1 fo363_2 fo363_3 fo363_4 ?_;refine o_alloc zc363 (fun B1 hB1=>?_);have htm':=htm.symm;have n1:t≠B1:=Mem.fresh_ne hB1 ht;have n1':=n1.symm;have n2:m≠B1:=Mem.fresh_ne hB1 hm;have n2':=n2.symm;have m1:M B1=none:=zm hB1;refine Q118 sz363 ?_;refine Q9 ?_;refine Q221 ?_;refine Q119 ?_;refine o_cases (want:=false) (j:=3) rfl rfl (fun h1=>?_) (fun h1=>?_)
 ·have k1:=h1;try simp only [zs] at k1
  refine Q16 h1 ?_;refine Q45 ag363 sz363 ?_;refine Q16 h1 ?_;refine Q222 ?_;refine Q16 h1 ?_;refine Q90 ?_;refine Q30 h1 ?_;refine Q1 ?_;refine s_cond rfl (fun h2=>?_) (fun h2=>?_)
  ·have k2:=h2;try simp only [zs] at k2
   refine Q47 ?_;refine Q11 ?_;exact ret_many (.inl rfl) rfl (rl_t rfl (rl_t rfl rl_nil)) rfl ⟨rfl,zle⟩
  ·have k2:=h2;try simp only [zs] at k2
   exfalso;simp_all
 ·have k1:=h1;try simp only [zs] at k1
  refine Q106 h1 h1 h1 ?_;refine Q32 h1 ?_;refine Q149 ?_;refine Q47 ?_;refine Q11 ?_;exact ret_many (.inl rfl) rfl (rl_t rfl (rl_t rfl rl_nil)) rfl ⟨rfl,zle⟩
theorem snd292b (t m:Nat)(x:Tp)(p:ByteArray)(seq:Int)(k v:ByteArray)(M:Mem)(ht:M t=some (.cells (tpC m x)))(hm:M m=some (tpK x))(htm:t≠m)(hen:0<=x.en/\x.en<2^62)(hlen:x.recs.length<2^40)(hw:word p=true)(hr:right (newR x p seq k v)=true)(hg:kget x.kvs p=none):SoundCall Tryz.prog 292 [ptr t,str p,int seq,str k,str v] M fun r M'=>r = .tup [int x.en,int 0]/\(setTp M t m ⟨x.name,x.low,x.en+1,kput x.kvs p (seq,x.en,p),x.recs++[newR x p seq k v]⟩).le M':=by
 refine Q219 ?_;refine Q0 ?_;refine Q26 ?_;refine Q18 ?_;refine Q56 fo382_2 ag3 sz3 ?_;refine Q64 ?_;refine Q64 ?_;refine Q220 bz363 bp363 fo363_0 fo363_1 fo363_2 fo363_3 fo363_4 ?_;refine o_alloc zc363 (fun B1 hB1=>?_);have htm':=htm.symm;have n1:t≠B1:=Mem.fresh_ne hB1 ht;have n1':=n1.symm;have n2:m≠B1:=Mem.fresh_ne hB1 hm;have n2':=n2.symm;have m1:M B1=none:=zm hB1;refine Q118 sz363 ?_;refine Q9 ?_;refine Q221 ?_;refine Q119 ?_;refine Q171 ?_;refine Q45 ag363 sz363 ?_;refine Q171 ?_;refine Q222 ?_;refine Q171 ?_;refine Q90 ?_;refine Q244 ?_;refine Q1 ?_;refine s_else rfl (by simp [hr]) ?_;refine Q82 ?_;refine Q10 ?_;refine Q56 fo382_3 ag380 sz380 ?_;refine Q2 ?_;refine o_q (q_mget2 und380 kt9 z387 rfl rfl mmQ (show _=encL (0,0,emp) by rw [hg];rfl)) rfl rfl rfl ?_;refine Q100 ?_;refine o_alloc zc387 (fun B2 hB2=>?_);have n3:t≠B2:=Mem.fresh_ne hB2 mmQ;have n3':=n3.symm;have n4:m≠B2:=Mem.fresh_ne hB2 mmQ;have n4':=n4.symm;have f1_2:B1≠B2:=Mem.fresh_ne hB2 mmQ;have g2_1:B2≠B1:=f1_2.symm;have m2:M B2=none:=zm hB2;refine Q6 sz387 ?_;refine Q51 ?_;refine Q2 ?_;iterate 5 refine Q202 ?_
 refine o_q (q_pick_c (t:=false) rfl (by rw [hg];rfl) (v_raw rfl)) rfl rfl rfl ?_;refine Q83 ?_;refine Q76 ?_;refine Q33 ?_;refine Q77 fo382_3 ag380 sz380 ?_;refine Q14 ?_;refine Q14 ?_;refine Q136 ?_;refine Q77 fo382_2 ag3 sz3 ?_;refine Q189 bz385 bp385 fo385_0 fo385_1 ?_;refine Q14 ?_;refine Q266 bz387 bp387 fo387_0 fo387_1 ?_;refine Q3 ?_;refine o_mput und380 kt9 rfl rfl mmQ (f:=encL) (v:=(seq,x.en,p)) (v_agg rfl) ?_;refine o_nil ⟨(by simp [Mem.upd, *]),?_⟩;refine d_nil ?_;refine Q91 ?_;refine Q123 ?_;refine Q136 ?_;refine Q22 fo382_4 ?_;refine Q124 ag363 sz363 ?_;refine d_q rfl (q_bs slt79 (pc (v_agg rfl) pn) rfl (Els.cons rfl rfl Els.nil) (by decide)) rfl rfl rfl ?_;refine Q3 ?_;refine Q137 ag79 sz79 ?_;refine o_nil ⟨(by simp [Mem.upd, *]),?_⟩;refine Q267 slt79 ?_;refine Q163 ?_;refine Q22 fo382_4 ?_;refine Q3 ?_;refine Q112 sz79 ?_;refine o_nil ⟨(by simp [Mem.upd, *]),?_⟩;refine d_nil ?_;refine Q18 ?_;refine Q56 fo382_2 ag3 sz3 ?_;refine Q113 ?_;refine Q25 fo382_2 ?_;refine Q62 sz3 ?_;refine Q27 fo363_0 ag3 sz3 ?_;refine Q28 ?_;refine Q4 ?_;exact ret_many (.inl rfl) rfl (rl_t rfl (rl_t rfl rl_nil)) rfl ⟨rfl,le_tp (h1:=mmQ) mmQ (fun c o e1 e2 hc=>by repeat first|exact hc|refine Mem.upd_ne (by first|exact e1|exact e2|exact Mem.ne_none hc (by assumption)) ?_) (by show _=tpC m _;simp [tpC];rfl)⟩
theorem snd292c (t m:Nat)(x:Tp)(p:ByteArray)(seq:Int)(k v:ByteArray)(M:Mem)(ht:M t=some (.cells (tpC m x)))(hm:M m=some (tpK x))(htm:t≠m)(hen:0<=x.en/\x.en<2^62)(hlen:x.recs.length<2^40)(hw:word p=true)(hr:right (newR x p seq k v)=true)(l:Int×Int×ByteArray)(hg:kget x.kvs p=some l)(hlt:l.1<seq):SoundCall Tryz.prog 292 [ptr t,str p,int seq,str k,str v] M fun r M'=>r = .tup [int x.en,int 0]/\(setTp M t m ⟨x.name,x.low,x.en+1,kput x.kvs p (seq,x.en,p),x.recs++[newR x p seq k v]⟩).le M':=by
 refine Q219 ?_;refine Q0 ?_;refine Q26 ?_;refine Q18 ?_;refine Q56 fo382_2 ag3 sz3 ?_;refine Q64 ?_;refine Q64 ?_;refine Q220 bz363 bp363 fo363_0 fo363_1 fo363_2 fo363_3 fo363_4 ?_;refine o_alloc zc363 (fun B1 hB1=>?_);have htm':=htm.symm;have n1:t≠B1:=Mem.fresh_ne hB1 ht;have n1':=n1.symm;have n2:m≠B1:=Mem.fresh_ne hB1 hm;have n2':=n2.symm;have m1:M B1=none:=zm hB1;refine Q118 sz363 ?_;refine Q9 ?_;refine Q221 ?_;refine Q119 ?_;refine Q171 ?_;refine Q45 ag363 sz363 ?_;refine Q171 ?_;refine Q222 ?_;refine Q171 ?_;refine Q90 ?_;refine Q244 ?_;refine Q1 ?_;refine s_else rfl (by simp [hr]) ?_;refine Q82 ?_;refine Q10 ?_;refine Q56 fo382_3 ag380 sz380 ?_;refine Q2 ?_;refine o_q (q_mget2 und380 kt9 z387 rfl rfl mmQ (show _=encL l by rw [hg];rfl)) rfl rfl rfl ?_;refine Q100 ?_;refine o_alloc zc387 (fun B2 hB2=>?_);have n3:t≠B2:=Mem.fresh_ne hB2 mmQ;have n3':=n3.symm;have n4:m≠B2:=Mem.fresh_ne hB2 mmQ;have n4':=n4.symm;have f1_2:B1≠B2:=Mem.fresh_ne hB2 mmQ;have g2_1:B2≠B1:=f1_2.symm;have m2:M B2=none:=zm hB2;refine Q6 sz387 ?_;refine Q51 ?_;refine Q2 ?_;refine Q164 ?_;refine Q29 fo387_0 ?_;refine Q164 ?_;refine Q29 fo385_0 ?_;refine Q164 ?_;refine Q46 ag3 sz3 ?_;refine Q164 ?_;refine Q2 ?_;refine Q164 ?_;refine Q23 ?_;refine o_q (q_pick_c (t:=true) rfl (by rw [hg];rfl) (v_raw rfl)) rfl rfl rfl ?_;refine Q1 ?_;refine Q101 ?_;refine Q76 ?_;refine Q33 ?_;refine Q77 fo382_3 ag380 sz380 ?_;refine Q14 ?_;refine Q14 ?_;refine Q136 ?_;refine Q77 fo382_2 ag3 sz3 ?_;refine Q189 bz385 bp385 fo385_0 fo385_1 ?_;refine Q14 ?_;refine Q266 bz387 bp387 fo387_0 fo387_1 ?_;refine Q3 ?_;refine o_mput und380 kt9 rfl rfl mmQ (f:=encL) (v:=(seq,x.en,p)) (v_agg rfl) ?_;refine o_nil ⟨(by simp [Mem.upd, *]),?_⟩;refine d_nil ?_;refine Q91 ?_;refine Q123 ?_;refine Q136 ?_;refine Q22 fo382_4 ?_;refine Q124 ag363 sz363 ?_;refine d_q rfl (q_bs slt79 (pc (v_agg rfl) pn) rfl (Els.cons rfl rfl Els.nil) (by decide)) rfl rfl rfl ?_;refine Q3 ?_;refine Q137 ag79 sz79 ?_;refine o_nil ⟨(by simp [Mem.upd, *]),?_⟩;refine Q267 slt79 ?_;refine Q163 ?_;refine Q22 fo382_4 ?_;refine Q3 ?_;refine Q112 sz79 ?_;refine o_nil ⟨(by simp [Mem.upd, *]),?_⟩;refine d_nil ?_;refine Q18 ?_;refine Q56 fo382_2 ag3 sz3 ?_;refine Q113 ?_;refine Q25 fo382_2 ?_;refine Q62 sz3 ?_;refine Q27 fo363_0 ag3 sz3 ?_;refine Q28 ?_;refine Q4 ?_;exact ret_many (.inl rfl) rfl (rl_t rfl (rl_t rfl rl_nil)) rfl ⟨rfl,le_tp (h1:=mmQ) mmQ (fun c o e1 e2 hc=>by repeat first|exact hc|refine Mem.upd_ne (by first|exact e1|exact e2|exact Mem.ne_none hc (by assumption)) ?_) (by show _=tpC m _;simp [tpC];rfl)⟩
theorem snd292d (t m:Nat)(x:Tp)(p:ByteArray)(seq:Int)(k v:ByteArray)(M:Mem)(ht:M t=some (.cells (tpC m x)))(hm:M m=some (tpK x))(htm:t≠m)(hen:0<=x.en/\x.en<2^62)(hlen:x.recs.length<2^40)(hw:word p=true)(hr:right (newR x p seq k v)=true)(l:Int×Int×ByteArray)(hg:kget x.kvs p=some l)(hle':seq<=l.1):SoundCall Tryz.prog 292 [ptr t,str p,int seq,str k,str v] M fun r M'=>r = .tup [int (if seq=l.1 then l.2.1 else 0),int (if seq=l.1 then 0 else 6)]/\M.le M':=by
 refine Q219 ?_;refine Q0 ?_;refine Q26 ?_;refine Q18 ?_;refine Q56 fo382_2 ag3 sz3 ?_;refine Q64 ?_;refine Q64 ?_;refine Q220 bz363 bp363 fo363_0 fo363_1 fo363_2 fo363_3 fo363_4 ?_;refine o_alloc zc363 (fun B1 hB1=>?_);have htm':=htm.symm;have n1:t≠B1:=Mem.fresh_ne hB1 ht;have n1':=n1.symm;have n2:m≠B1:=Mem.fresh_ne hB1 hm;have n2':=n2.symm;have m1:M B1=none:=zm hB1;refine Q118 sz363 ?_;refine Q9 ?_;refine Q221 ?_;refine Q119 ?_;refine Q171 ?_;refine Q45 ag363 sz363 ?_;refine Q171 ?_;refine Q222 ?_;refine Q171 ?_;refine Q90 ?_;refine Q244 ?_;refine Q1 ?_;refine s_else rfl (by simp [hr]) ?_;refine Q82 ?_;refine Q10 ?_;refine Q56 fo382_3 ag380 sz380 ?_;refine Q2 ?_;refine o_q (q_mget2 und380 kt9 z387 rfl rfl mmQ (show _=encL l by rw [hg];rfl)) rfl rfl rfl ?_;refine Q100 ?_;refine o_alloc zc387 (fun B2 hB2=>?_);have n3:t≠B2:=Mem.fresh_ne hB2 mmQ;have n3':=n3.symm;have n4:m≠B2:=Mem.fresh_ne hB2 mmQ;have n4':=n4.symm;have f1_2:B1≠B2:=Mem.fresh_ne hB2 mmQ;have g2_1:B2≠B1:=f1_2.symm;have m2:M B2=none:=zm hB2;refine Q6 sz387 ?_;refine Q51 ?_;refine Q2 ?_;refine Q164 ?_;refine Q29 fo387_0 ?_;refine Q164 ?_;refine Q29 fo385_0 ?_;refine Q164 ?_;refine Q46 ag3 sz3 ?_;refine Q164 ?_;refine Q2 ?_;refine Q164 ?_;refine Q23 ?_;refine o_q (q_pick_c (t:=true) rfl (by rw [hg];rfl) (v_raw rfl)) rfl rfl rfl ?_;refine Q1 ?_;refine Q172 ?_;refine Q31 ?_;refine Q29 fo387_0 ?_;refine Q12 fo385_0 ag3 sz3 ?_;refine Q2 ?_;refine Q102 ?_;refine s_cond rfl (fun h1=>?_) (fun h1=>?_)
 ·have k1:=h1;try simp only [zs] at k1
  refine Q47 ?_;refine Q54 ?_;refine s_code_ret ?_;refine Q181 ?_;exact ret_many (.inl rfl) rfl (rl_t rfl (rl_t rfl rl_nil)) rfl ⟨by rw [if_neg (show ¬ seq=l.1 by omega),if_neg (show ¬ seq=l.1 by omega)];rfl,zle⟩
 ·have k1:=h1;try simp only [zs] at k1
  refine Q92 ?_;refine Q29 fo387_0 ?_;refine Q12 fo385_1 ag3 sz3 ?_;refine Q28 ?_;refine Q11 ?_;exact ret_many (.inl rfl) rfl (rl_t rfl (rl_t rfl rl_nil)) rfl ⟨by rw [if_pos (show seq=l.1 by omega),if_pos (show seq=l.1 by omega)];rfl,zle⟩
def tk357:Nat->Nat->Option Nat:=fun _ _=>none
def pl357:Nat->List PStep
 | 1=>[.q 0,.q 1,.q 2,.q 3,.q 4,.q 5,.q 6,.q 7,.q 8,.q 9,.q 10]
 | _=>[]
theorem cb357:Tryz.f357.body.map (codeB Tryz.prog Tryz.f357.ntmps tk357 pl357)=some true:=by kernel_rfl
theorem goes357:goesB Tryz.prog 357=true:=by kernel_rfl
theorem pub14 (t m:Nat)(x:Tp)(p:ByteArray)(seq:Int)(k v:ByteArray)(M:Mem)(ht:M t=some (.cells (tpC m x)))(hm:M m=some (tpK x))(htm:t≠m)(hen:0<=x.en/\x.en<2^62)(hlen:x.recs.length<2^40):SoundCall Tryz.prog 292 [ptr t,str p,int seq,str k,str v] M fun r M'=>r = .tup [int (pub x p seq k v).2.1,int (pub x p seq k v).2.2]/\M'=setTp M t m (pub x p seq k v).1:=by
 have same:setTp M t m x=M:=setTp_same ht hm htm;cases hc:(word p && right (newR x p seq k v)) with
 | false =>
  have e:pub x p seq k v=(x,0,7):=by unfold pub;rw [hc];rfl
  rw [e];dsimp only;rw [same];exact (snd292a t m x p seq k v M ht hm htm hen hlen hc).det
 | true =>
  have hw:word p=true:=by simp at hc;exact hc.1
  have hr:right (newR x p seq k v)=true:=by simp at hc;exact hc.2
  cases hg:kget x.kvs p with
  | none =>
   have e:pub x p seq k v=(⟨x.name,x.low,x.en+1,kput x.kvs p (seq,x.en,p),x.recs++[newR x p seq k v]⟩,x.en,0):=by unfold pub;rw [hc,hg];rfl
   rw [e];exact (snd292b t m x p seq k v M ht hm htm hen hlen hw hr hg).leaves
  | some l =>
   by_cases h1:l.1<seq
   ·have e:pub x p seq k v=(⟨x.name,x.low,x.en+1,kput x.kvs p (seq,x.en,p),x.recs++[newR x p seq k v]⟩,x.en,0):=by
     unfold pub;rw [hc,hg];simp only [if_true];rw [if_neg (by omega),if_neg (by omega)]
    rw [e];exact (snd292c t m x p seq k v M ht hm htm hen hlen hw hr l hg h1).leaves
   ·have h:=(snd292d t m x p seq k v M ht hm htm hen hlen hw hr l hg (by omega)).det;by_cases h2:seq=l.1
    ·have e:pub x p seq k v=(x,l.2.1,0):=by
      unfold pub;rw [hc,hg];simp only [if_true];rw [if_neg (by omega),if_pos h2]
     rw [e];dsimp only;rw [same];rw [if_pos h2,if_pos h2] at h;exact h
    ·have e:pub x p seq k v=(x,0,6):=by
      unfold pub;rw [hc,hg];simp only [if_true];rw [if_pos (by omega)]
     rw [e];dsimp only;rw [same];rw [if_neg h2,if_neg h2] at h;exact h
theorem snd357 (i:Nat)(c1 c2 t m:Nat)(x:Tp)(off:Int)(M:Mem)(h1:M c1=some (.cells [ptr t]))(h2:M c2=some (.cells [int off]))(ht:M t=some (.cells (tpC m x)))(hi:i<x.recs.length):SoundCall Tryz.prog 357 [int i,ptr c1,ptr c2] M fun r M'=>r=bool (decide (off<=x.recs[i].off))/\M.le M':=by
 refine SoundCall.go tk357 pl357 mixed Tryz.func357 cb357 rfl (Nat.le_of_ble_eq_true rfl) ?_;refine Q15 ?_;refine Q91 ?_;refine d_q rfl (q_ldm ag340 sz340 rfl mmQ rfl (mvQ)) rfl rfl rfl ?_;refine Q163 ?_;refine Q22 fo382_4 ?_;refine Q203 ag79 sz79 ?_;refine Q14 ?_;refine Q245 und79 sz363 ?_;refine Q72 fo363_0 ?_;refine Q246 ag3 sz3 ?_;refine Q157 ag3 sz3 ?_;refine d_q rfl (q_geq rfl rfl) rfl rfl rfl ?_;refine Q125 ?_;exact⟨rfl,zle⟩
def tk356:Nat->Nat->Option Nat:=fun _ _=>none
def pl356:Nat->List PStep:=fun _=>[]
theorem cb356:Tryz.f356.body.map (codeB Tryz.prog Tryz.f356.ntmps tk356 pl356)=some true:=by kernel_rfl
theorem goes356:goesB Tryz.prog 356=true:=by kernel_rfl
theorem le_of_eq_le {a b c:Int}(h:a=b)(h':c<=b):c<=a:=by omega
theorem lt_of_eq_lt {a b c:Int}(h:a=b)(h':b<c):a<c:=by omega
theorem wrapu64 {a:Int}(h1:0<=a)(h2:a<2^64):IntKind.u64.wrap a=a:=by
 simp only [IntKind.wrap,IntKind.signed,IntKind.bits];simp;omega
theorem snd356 (c1 c2 n r:Nat)(p:Nat->Bool)(M:Mem)(hn:n<2^60)(hf:∀ i,i<n->SoundCall Tryz.prog 357 [int i,ptr c1,ptr c2] M fun q M'=>q=bool (p i)/\M'=M)(hr:r<=n)(h0:∀ i,i<r->p i=false)(h1':∀ i,r<=i->i<n->p i=true):SoundCall Tryz.prog 356 [int n,.raw (.func (.func 357) #[] #[.pointer (some ⟨c1,0,none⟩),.pointer (some ⟨c2,0,none⟩)])] M fun q M'=>q=int r/\M.le M':=by
 refine SoundCall.go tk356 pl356 mixed Tryz.func356 cb356 rfl (Nat.le_of_ble_eq_true rfl) ?_;refine Q15 ?_;refine Q5 ?_;refine Q26 ?_;refine Q150 ?_;refine s_loop (fun m S=>∃ T,∃ i j:Nat,S=⟨setT (setT (setT T 1 (.raw (.func (.func 357) #[] #[.pointer (some ⟨c1,0,none⟩),.pointer (some ⟨c2,0,none⟩)]))) 5 (int i)) 6 (int j),M⟩/\i<=r/\r<=j/\j<=n/\m=j - i) n ?_ ?_
 ·exact⟨_,0,n,St.mkT (kp (kp (kp rfl rfl) rfl) rfl).symm,by omega,hr,by omega,by omega⟩
 rintro m S ⟨T,i,j,rfl,hi,hj,hjn,rfl⟩;refine Q9 ?_;refine Q2 ?_;refine Q84 ?_;refine s_cond rfl (fun h1=>?_) (fun h1=>?_)
 ·have k1:=h1;try simp only [zs] at k1
  have e2:(2:Int)^1=2:=rfl;have hh:((i:Int)+(j:Int)) / 2^1=(((i+j) / 2:Nat):Int):=by rw [e2];omega
  have hb1:0<=((i:Int)+(j:Int)) / 2^1:=by rw [hh];omega
  have hb2:((i:Int)+(j:Int)) / 2^1<2^61:=by rw [hh];omega
  have hh1:i<=(i+j) / 2:=by omega
  have hh2:(i+j) / 2<j:=by omega
  refine Q13 ?_;refine s_block ?_;refine Q5 ?_;refine Q190 ?_;refine o_q (q_i2i und3 und251 rfl (wrapu64 (by omega) (by omega))) rfl rfl rfl ?_;refine o_q (q_shr rfl rfl (by decide)) rfl rfl rfl ?_;refine o_q (q_i2i und251 und3 rfl (wrap64 (le_of_eq_le hh (by omega)) (lt_of_eq_lt hh (by omega)))) rfl rfl rfl ?_;refine Q51 ?_;refine Q2 ?_;refine o_callv rfl ((by rw [hh];exact hf ((i+j) / 2) (by omega))) goes357 (ac (v_raw rfl) ac_nil) rfl rfl ?_;rintro q M'' ⟨rfl,rfl⟩;refine Q59 ?_;refine s_cond rfl (fun h2=>?_) (fun h2=>?_)
  ·have k2:=h2;try simp only [zs] at k2
   refine Q144 ?_;refine o_q (q_add rfl rfl (wrap64 (by rw [show _ / _=_ from hh];omega) (by rw [show _ / _=_ from hh];omega))) rfl rfl rfl ?_;refine Q7 ?_;refine s_blk_normal ?_;refine s_inv ?_;have hp:p ((i+j) / 2)=false:=by simpa using k2
   have hlt:(i+j) / 2<r:=by
    rcases Nat.lt_or_ge ((i+j) / 2) r with h|h
    ·exact h
    ·rw [h1' _ h (by omega)] at hp;cases hp
   exact⟨j - ((i+j) / 2+1),by omega,_,(i+j) / 2+1,j,St.mkT (kp (kp (kp rfl rfl) (show _=int (((i+j) / 2+1:Nat):Int) from congrArg int (by rw [hh];rfl))) rfl).symm,by omega,hj,hjn,rfl⟩
  ·have k2:=h2;try simp only [zs] at k2
   refine Q144 ?_;refine Q7 ?_;refine s_blk_normal ?_;refine s_inv ?_;have hp:p ((i+j) / 2)=true:=by simpa using k2
   have hge:r<=(i+j) / 2:=by
    rcases Nat.lt_or_ge ((i+j) / 2) r with h|h
    ·rw [h0 _ h] at hp;cases hp
    ·exact h
   exact⟨(i+j) / 2 - i,by omega,_,i,(i+j) / 2,St.mkT (kp (kp (kp rfl rfl) rfl) (show _=int (((i+j) / 2:Nat):Int) from congrArg int hh)).symm,hi,hge,by omega,rfl⟩
 ·have k1:=h1;try simp only [zs] at k1
  refine Q35 ?_;refine Q5 ?_;refine Q4 ?_;obtain rfl:i=r:=by omega
  exact⟨rfl,zle⟩
def tk333:Nat->Nat->Option Nat:=fun _ _=>none
def pl333:Nat->List PStep:=fun _=>[]
theorem cb333:Tryz.f333.body.map (codeB Tryz.prog Tryz.f333.ntmps tk333 pl333)=some true:=by kernel_rfl
theorem goes333:goesB Tryz.prog 333=true:=by kernel_rfl
def Sorted (l:List Rec):Prop:=l.Pairwise fun a b=>a.off<b.off
def atN (l:List Rec)(off:Int):Nat:=(l.takeWhile fun r=>decide (r.off<off)).length
theorem atN_le (l:List Rec)(off:Int):atN l off<=l.length:=List.Sublist.length_le (List.takeWhile_sublist _)
theorem atN_lt {l:List Rec}{off:Int}{i:Nat}(h:i<atN l off):∃ hi:i<l.length,l[i].off<off:=by
 have hi:=Nat.lt_of_lt_of_le h (atN_le l off);refine⟨hi,?_⟩;unfold atN at h;have h1:(l.takeWhile fun r=>decide (r.off<off))[i]=l[i]:=by
  have:=(List.takeWhile_prefix (l:=l) (fun r=>decide (r.off<off)));exact List.IsPrefix.getElem this h
 have h2:(l.takeWhile fun r=>decide (r.off<off))[i]∈l.takeWhile fun r=>decide (r.off<off):=List.getElem_mem _
 have h3:=List.all_takeWhile (l:=l) (p:=fun r=>decide (r.off<off));have h4:=List.all_eq_true.1 h3 _ h2;rw [h1] at h4;exact of_decide_eq_true h4
theorem atN_ge {l:List Rec}{off:Int}(hs:Sorted l){i:Nat}(h:atN l off<=i)(hi:i<l.length):off<=l[i].off:=by
 have ha:atN l off<l.length:=by omega
 have h1:¬ l[atN l off].off<off:=by
  intro hlt;have e:l=l.take (atN l off)++l[atN l off]::l.drop (atN l off+1):=by rw [List.getElem_cons_drop,List.take_append_drop]
  have htw:l.takeWhile (fun r=>decide (r.off<off))=l.take (atN l off):=by
   have:=List.takeWhile_prefix (l:=l) (fun r=>decide (r.off<off));exact (List.prefix_iff_eq_take.1 this)
  have h2:(l.takeWhile fun r=>decide (r.off<off)).length > atN l off:=by
   rw [e,List.takeWhile_append_of_pos]
   ·rw [List.takeWhile_cons_of_pos (by simpa using hlt)];simp;omega
   ·intro a ha';rw [← htw] at ha';exact List.all_eq_true.1 (List.all_takeWhile (l:=l) (p:=fun r=>decide (r.off<off))) a ha'
  unfold atN at h2;omega
 rcases Nat.eq_or_lt_of_le h with e|e
 ·subst e;omega
 ·have:=List.pairwise_iff_getElem.1 hs (atN l off) i ha hi e;omega
theorem snd333 (t m:Nat)(x:Tp)(off:Int)(M:Mem)(ht:M t=some (.cells (tpC m x)))(hs:Sorted x.recs)(hlen:x.recs.length<2^40):SoundCall Tryz.prog 333 [ptr t,int off] M fun r M'=>r=int (atN x.recs off)/\M.le M':=by
 refine SoundCall.go tk333 pl333 mixed Tryz.func333 cb333 rfl (Nat.le_of_ble_eq_true rfl) ?_;refine Q0 ?_;refine o_box zbx rfl rfl (fun B1 hB1=>?_);have ct1:t≠B1:=Mem.fresh_ne hB1 mmQ;have ct1':=ct1.symm;have m1:M B1=none:=zm hB1;refine o_box zbx rfl rfl (fun B2 hB2=>?_);have ct2:t≠B2:=Mem.fresh_ne hB2 mmQ;have ct2':=ct2.symm;have f1_2:B1≠B2:=Mem.fresh_ne hB2 mmQ;have g2_1:B2≠B1:=f1_2.symm;have m2:M B2=none:=zm hB2;refine Q138 ?_;refine Q126 ag340 sz340 ?_;refine Q25 fo382_4 ?_;refine Q139 ag79 sz79 ?_;refine Q85 und79 ?_;refine o_q (q_mkf2 rfl rfl) rfl rfl rfl ?_;refine o_call ((snd356 B1 B2 (x.recs.map enc).length (atN x.recs off) (fun i=>if h:i<x.recs.length then decide (off<=x.recs[i].off) else false) _ (by rw [List.length_map];omega) (fun i hi=>by rw [List.length_map] at hi;simp only [hi,dif_pos];exact (snd357 i B1 B2 t m x off _ mmQ mmQ mmQ hi).det) (by rw [List.length_map];exact atN_le _ _) (fun i hi=>by obtain⟨h1,h2⟩:=atN_lt hi;simp only [h1,dif_pos];exact decide_eq_false (by omega)) (fun i hi h=>by rw [List.length_map] at h;simp only [h,dif_pos];exact decide_eq_true (atN_ge hs hi h))).det) goes356 (ac (v_raw rfl) (ac (v_raw rfl) ac_nil)) rfl ?_;refine Q4 ?_;exact⟨rfl,zle⟩
def tk332:Nat->Nat->Option Nat
 | 0,0=>some 0
 | 2,0=>some 0
 | 3,3=>some 0
 | _,_=>none
def pl332:Nat->List PStep:=fun _=>[]
theorem cb332:Tryz.f332.body.map (codeB Tryz.prog Tryz.f332.ntmps tk332 pl332)=some true:=by kernel_rfl
theorem goes332:goesB Tryz.prog 332=true:=by kernel_rfl
theorem snd332 (l:List Rec)(o:Bool)(M:Mem)(hl:l.length<2^40):SoundCall Tryz.prog 332 [.sl (l.map enc) o] M fun r M'=>r = .sl (l.map enc) true/\M'=M:=by
 refine SoundCall.go tk332 pl332 mixed Tryz.func332 cb332 rfl (Nat.le_of_ble_eq_true rfl) ?_;refine Q93 ?_;refine Q48 ?_;refine Q49 ?_;refine o_nilcmp und79 rfl rfl (.inl rfl) (fun nh1 h1n=>?_);refine Q1 ?_;refine s_cond rfl (fun h2=>?_) (fun h2=>?_)
 ·have k2:=h2;try simp only [zs] at k2
  obtain rfl:l=[]:=by
   rcases l with _|⟨a,l⟩
   ·rfl
   ·have:=h1n (by simp);subst this;cases h2
  refine Q93 ?_;refine Q114 ?_;exact⟨rfl,rfl⟩
 ·have k2:=h2;try simp only [zs] at k2
  refine Q92 ?_;refine Q223 slt79 ?_;refine Q49 ?_;refine o_qs (q_app slt79 rfl rfl rfl rfl (by first|exact Els.nil|exact elsR) (by first|exact (by first|exact Els.nil|exact elsR)|exact Els.cons rfl rfl Els.nil) (by simp;omega)) rfl rfl rfl rfl ?_;refine Q151 ?_;refine Q103 ?_;exact⟨rfl,rfl⟩
def tk339:Nat->Nat->Option Nat
 | 0,0=>some 0
 | 2,8=>some 0
 | _,_=>none
def pl339:Nat->List PStep
 | 1=>[.q 0,.q 1,.q 2,.q 3,.q 4,.q 5,.s 6 [3,2,1,0],.q 7,.q 8]
 | _=>[]
theorem cb339:Tryz.f339.body.map (codeB Tryz.prog Tryz.f339.ntmps tk339 pl339)=some true:=by kernel_rfl
theorem goes339:goesB Tryz.prog 339=true:=by kernel_rfl
def readL (l:List Rec)(off most:Int):List Rec:=(l.drop (atN l off)).take (max most 0).toNat
theorem q_sl_lo {T:Nat->AVal}{M:Mem}{x y:Operand}{dst:Option Nat}{ty:TypeId}{pos:String}{af:Array Edge}{g:Option (Nat×Bool)}{α:Type}{f:α->AVal}{st e:TypeId}{sz n:Nat}{l:List α}{own:Bool}(hu:Tryz.prog.underlying st=some (.slice e))(hs:sizeT Tryz.prog e=some sz)(hx:ev T x = .sl (l.map f) own)(hl:Els sz (l.map f))
 (hlo:aBound T 0 (some y)=some n) (h1:n<=l.length):qstep Tryz.prog none (mkO dst (.slice st x (some y) none none) ty pos af g) T M=some (⟨none,.sl ((l.drop n).map f) false⟩,[]):=by
 have h:=q_slice (dst:=dst) (ty:=ty) (pos:=pos) (af:=af) (g:=g) (M:=M) hu hs hx hl hlo ab_none (by rw [List.length_map];exact h1) (Nat.le_refl _);rw [List.take_length,← List.map_drop] at h;exact h
theorem q_sl_hi {T:Nat->AVal}{M:Mem}{x y:Operand}{dst:Option Nat}{ty:TypeId}{pos:String}{af:Array Edge}{g:Option (Nat×Bool)}{α:Type}{f:α->AVal}{st e:TypeId}{sz n:Nat}{l:List α}{own:Bool}(hu:Tryz.prog.underlying st=some (.slice e))(hs:sizeT Tryz.prog e=some sz)(hx:ev T x = .sl (l.map f) own)(hl:Els sz (l.map f))
 (hhi:aBound T (l.map f).length (some y)=some n) (h1:n<=l.length):qstep Tryz.prog none (mkO dst (.slice st x none (some y) none) ty pos af g) T M=some (⟨none,.sl ((l.take n).map f) false⟩,[]):=by
 have h:=q_slice (dst:=dst) (ty:=ty) (pos:=pos) (af:=af) (g:=g) (M:=M) hu hs hx hl ab_none hhi (Nat.zero_le _) (by rw [List.length_map];exact h1);rw [List.drop_zero,← List.map_take] at h;exact h
theorem take_min (l:List Rec)(n:Int):l.take (min (max n 0) (l.length:Int)).toNat=l.take (max n 0).toNat:=by
 rcases Nat.lt_or_ge (max n 0).toNat l.length with h|h
 ·congr 1;omega
 ·rw [List.take_of_length_le h,List.take_of_length_le (by omega)]
theorem readL_len (l:List Rec)(off most:Int):(readL l off most).length<=l.length:=by
 unfold readL;rw [List.length_take,List.length_drop];omega
theorem snd339 (t m:Nat)(x:Tp)(off most:Int)(M:Mem)(ht:M t=some (.cells (tpC m x)))(hs:Sorted x.recs)(hlen:x.recs.length<2^40):SoundCall Tryz.prog 339 [ptr t,int off,int most] M fun r M'=>r = .sl ((readL x.recs off most).map enc) true/\M'=M:=by
 have hat:=atN_le x.recs off;refine SoundCall.go tk339 pl339 mixed Tryz.func339 cb339 rfl (Nat.le_of_ble_eq_true rfl) ?_;refine Q93 ?_;refine Q70 ?_;refine Q33 ?_;refine Q22 fo382_4 ?_;refine Q203 ag79 sz79 ?_;refine Q123 ?_;refine Q14 ?_;refine Q3 ?_;refine o_call ((snd333 t m x off _ ht hs hlen).det) goes333 (ac (mvQ) (ac (v_raw rfl) ac_nil)) rfl ?_;refine o_nil ⟨(by simp [Mem.upd, *]),?_⟩;refine d_q rfl (q_sl_lo und79 sz363 rfl elsR (ab rfl rfl) (by omega)) rfl rfl rfl ?_;refine d_q rfl (q_as (v_sl rfl)) rfl rfl rfl ?_;refine d_nil ?_;refine Q0 ?_;refine Q140 ?_;refine o_q (q_max rfl rfl) rfl rfl rfl ?_;refine Q41 und79 ?_;refine o_q (q_min rfl rfl) rfl rfl rfl ?_;refine o_q (q_sl_hi (n:=(min (max most 0) ((x.recs.drop (atN x.recs off)).length:Int)).toNat) und79 sz363 rfl elsR (ab rfl (by rw [List.length_map];omega)) (by simp;omega)) rfl rfl rfl ?_;refine o_call ((snd332 _ false _ (by simp;omega))) goes332 (ac (v_sl rfl) ac_nil) rfl ?_;refine Q151 ?_;refine Q103 ?_;exact⟨congrArg (fun l=>AVal.sl (List.map enc l) true) (take_min _ _),rfl⟩
def tk293:Nat->Nat->Option Nat:=fun _ _=>none
def pl293:Nat->List PStep
 | 4=>[.q 0,.q 1,.q 2,.q 3,.q 4,.q 5,.q 6,.s 7 [4,3,2,1,0],.q 8,.s 9 [6,5,4,3,2,1,0],.q 10,.q 11,.s 12 [10]]
 | _=>[]
theorem cb293:Tryz.f293.body.map (codeB Tryz.prog Tryz.f293.ntmps tk293 pl293)=some true:=by kernel_rfl
theorem goes293:goesB Tryz.prog 293=true:=by kernel_rfl
def trimT (x:Tp)(n:Int):Tp×Int:=if x.en<n then (x,7) else if x.low<n then (⟨x.name,n,x.en,x.kvs,x.recs.drop (atN x.recs n)⟩,0) else (x,0)
theorem snd293 (t m:Nat)(x:Tp)(n:Int)(M:Mem)(ht:M t=some (.cells (tpC m x)))(hm:M m=some (tpK x))(htm:t≠m)(hs:Sorted x.recs)(hlen:x.recs.length<2^40):SoundCall Tryz.prog 293 [ptr t,int n] M fun r M'=>r=int (trimT x n).2/\(setTp M t m (trimT x n).1).le M':=by
 have hat:=atN_le x.recs n;have htm':=htm.symm;have same:setTp M t m x=M:=setTp_same ht hm htm;refine SoundCall.go tk293 pl293 mixed Tryz.func293 cb293 rfl (Nat.le_of_ble_eq_true rfl) ?_;refine Q15 ?_;refine Q9 ?_;refine Q10 ?_;refine Q56 fo382_2 ag3 sz3 ?_;refine Q102 ?_;refine s_cond rfl (fun h1=>?_) (fun h1=>?_)
 ·have k1:=h1;try simp only [zs] at k1
  refine Q0 ?_;refine Q11 ?_;unfold trimT;rw [if_pos (by omega),same];exact⟨rfl,Mem.le_refl _⟩
 ·have k1:=h1;try simp only [zs] at k1
  refine Q13 ?_;refine Q9 ?_;refine Q10 ?_;refine Q56 fo382_1 ag3 sz3 ?_;refine Q102 ?_;refine s_cond rfl (fun h2=>?_) (fun h2=>?_)
  ·have k2:=h2;try simp only [zs] at k2
   refine Q91 ?_;refine Q123 ?_;refine Q136 ?_;refine Q22 fo382_4 ?_;refine Q203 ag79 sz79 ?_;refine Q123 ?_;refine Q14 ?_;refine Q3 ?_;refine o_call ((snd333 t m x n _ ht hs hlen).det) goes333 (ac (mvQ) (ac (v_raw rfl) ac_nil)) rfl ?_;refine o_nil ⟨(by simp [Mem.upd, *]),?_⟩;refine d_q rfl (q_sl_lo und79 sz363 rfl elsR (ab rfl rfl) (by omega)) rfl rfl rfl ?_;refine Q3 ?_;refine o_call ((snd332 _ false _ (by simp;omega))) goes332 (ac (v_sl rfl) ac_nil) rfl ?_;refine o_nil ⟨(by simp [Mem.upd, *]),?_⟩;refine Q163 ?_;refine Q22 fo382_4 ?_;refine Q3 ?_;refine Q112 sz79 ?_;refine o_nil ⟨(by simp [Mem.upd, *]),?_⟩;refine d_nil ?_;refine Q19 ?_;refine Q10 ?_;refine Q2 ?_;refine Q25 fo382_1 ?_;refine Q62 sz3 ?_;refine Q0 ?_;refine Q4 ?_;unfold trimT;rw [if_neg (by omega),if_pos (by omega)];exact⟨rfl,le_tp (h1:=mmQ) mmQ (fun c o e1 e2 hc=>by repeat first|exact hc|refine Mem.upd_ne (by first|exact e1|exact e2|exact Mem.ne_none hc (by assumption)) ?_) rfl⟩
  ·have k2:=h2;try simp only [zs] at k2
   refine Q92 ?_;refine Q4 ?_;unfold trimT;rw [if_neg (by omega),if_neg (by omega),same];exact⟨rfl,Mem.le_refl _⟩
def tk358:Nat->Nat->Option Nat
 | 0,0=>some 0
 | 0,1=>some 0
 | 11,0=>some 0
 | 11,5=>some 0
 | 12,0=>some 0
 | 12,4=>some 0
 | 14,0=>some 0
 | 14,1=>some 0
 | 14,2=>some 0
 | 14,3=>some 0
 | _,_=>none
def pl358:Nat->List PStep:=fun _=>[]
theorem cb358:Tryz.f358.body.map (codeB Tryz.prog Tryz.f358.ntmps tk358 pl358)=some true:=by kernel_rfl
theorem goes358:goesB Tryz.prog 358=true:=by kernel_rfl
theorem snd358 (l:List Rec)(upto:Int)(o:Bool)(M:Mem)(hl:l.length*64<=2^47):SoundCall Tryz.prog 358 [.sl (l.map enc) o,.raw (.int .i64 upto)] M fun r M'=>r = .tup [.sl ((keepN l upto l.length).map enc) true,.sl ((goneN l upto l.length).map encI) true]/\M.le M':=by
 refine SoundCall.go tk358 pl358 mixed Tryz.func358 cb358 rfl (Nat.le_of_ble_eq_true rfl) ?_;refine Q93 ?_;refine o_q (q_as_const rfl) rfl rfl rfl ?_;refine Q1 ?_;refine Q0 ?_;refine o_makeMap (fun B1 hB1=>?_);refine Q127 ?_;refine Q41 und79 ?_;refine Q52 ?_;refine s_loop (fun m S=>∃ T,∃ M':Mem,∃ kvs,∃ i:Nat,S=⟨setT (setT (setT (setT (setT (setT (setT (setT T 0 (.sl (l.map enc) o)) 1 (.raw (.int .i64 upto))) 4 (.sl [] true)) 5 (.sl [] true)) 6 (.raw (.map (some B1)))) 12 (.sl (l.map enc) false)) 13 (.raw (.int .i64 l.length))) 14 (.raw (.int .i64 i)),M'⟩/\M.le M'/\M' B1=some (.map (ents Value.string encN kvs))/\(∀ key,kget kvs key=lastN l key i)/\i<=l.length/\m=l.length - i) l.length ?_ ?_
 ·exact⟨_,_,[],0,St.mkT (kp (kp (kp (kp (kp (kp (kp (kp rfl rfl) rfl) rfl) rfl) rfl) rfl) (by show AVal.raw (.int .i64 ((l.map enc).length:Int))=_;rw [List.length_map])) rfl).symm,Mem.le_upd (Mem.le_refl M) hB1,Mem.upd_self _ _ _,fun _=>rfl,by omega,rfl⟩
 rintro m S ⟨T,M',kvs,i,rfl,hle,hB,hkvs,hi,rfl⟩;refine Q50 ?_;refine s_cond rfl (fun h1=>?_) (fun h1=>?_)
 ·have k1:=h1;try simp only [zs] at k1
  refine Q78 ?_;refine Q5 ?_;refine Q73 und79 sz363 ?_;refine Q177 ag363 sz363 ?_;refine o_alloc zc363 (fun B2 hB2=>?_);have n2:B1≠B2:=ne_fresh hB2 hB;refine Q28 ?_;refine Q118 sz363 ?_;refine Q144 ?_;refine Q12 fo363_3 ag9 sz9 ?_;refine Q2 ?_;refine o_mput und416 kt9 rfl rfl mmQ (v:=i) (f:=encN) (v_raw rfl) ?_;refine Q1 ?_;refine Q36 ?_;refine⟨l.length - (i+1),by omega,_,_,kput kvs l[i].key i,i+1,St.mkT (kp (kp (kp (kp (kp (kp (kp (kp rfl rfl) rfl) rfl) rfl) rfl) rfl) rfl) rfl).symm,Mem.le_upd (Mem.le_upd (Mem.le_upd hle (Mem.none_of_le hle hB2)) (Mem.none_of_le hle hB2)) hB1,Mem.upd_self _ _ _,fun key=>?_,by omega,rfl⟩;rw [kget_kput,hkvs];show _=if (l.getD i default).key=key then some i else lastN l key i
  rw [getD_lt (by omega)];by_cases e:key=l[i].key
  ·rw [if_pos e,if_pos e.symm]
  ·rw [if_neg e,if_neg fun h=>e h.symm]
 ·have k1:=h1;try simp only [zs] at k1
  refine Q35 ?_;refine Q31 ?_;refine Q41 und79 ?_;refine Q52 ?_;refine s_loop (fun m S=>∃ T,∃ M':Mem,∃ kvs,∃ i:Nat,S=⟨setT (setT (setT (setT (setT (setT (setT (setT T 0 (.sl (l.map enc) o)) 1 (.raw (.int .i64 upto))) 4 (.sl ((keepN l upto i).map enc) true)) 5 (.sl ((goneN l upto i).map encI) true)) 6 (.raw (.map (some B1)))) 24 (.sl (l.map enc) false)) 25 (.raw (.int .i64 l.length))) 26 (.raw (.int .i64 i)),M'⟩/\M.le M'/\M' B1=some (.map (ents Value.string encN kvs))/\(∀ key,kget kvs key=lastN l key l.length)/\i<=l.length/\m=l.length - i) l.length ?_ ?_
  ·have hil:i=l.length:=by omega
   subst hil;exact⟨_,_,kvs,0,St.mkT (kp (kp (kp (kp (kp (kp (kp (kp rfl rfl) rfl) rfl) rfl) rfl) rfl) (by show AVal.raw (.int .i64 ((l.map enc).length:Int))=_;rw [List.length_map])) rfl).symm,hle,hB,hkvs,by omega,rfl⟩
  rintro m S ⟨T,M',kvs,i,rfl,hle,hB,hkvs,hi,rfl⟩;have hlen:=keepN_len l upto i;have hlen2:=goneN_len l upto i;refine Q50 ?_;refine s_cond rfl (fun h2=>?_) (fun h2=>?_)
  ·have k2:=h2;try simp only [zs] at k2
   refine Q78 ?_;refine Q5 ?_;refine Q73 und79 sz363 ?_;refine Q177 ag363 sz363 ?_;refine o_alloc zc363 (fun B3 hB3=>?_);have n3:B1≠B3:=ne_fresh hB3 hB;refine Q28 ?_;refine Q6 sz363 ?_;refine Q48 ?_;refine Q12 fo363_3 ag9 sz9 ?_;refine Q170 ?_;refine Q2 ?_;refine o_cases (want:=true) (j:=3) rfl rfl (fun h3=>?_) (fun h3=>?_)
   ·have k3:=h3;try simp only [zs] at k3
    refine Q60 h3 h3 ?_;refine o_q (q_fr fo363_3 rfl) rfl rfl rfl ?_;refine o_yes rfl rfl rfl h3 ?_;refine Q46 ag9 sz9 ?_;refine Q16 h3 ?_;refine o_q (q_mget und416 kt9 z3 rfl rfl mmQ (show _=AVal.raw (.int .i64 (((lastN l l[i].key l.length).getD 0:Nat):Int)) by rw [hkvs];exact lookN _)) rfl rfl rfl ?_;refine Q60 h3 h3 ?_;refine Q115 ?_;refine Q32 h3 ?_;refine Q2 ?_;refine o_cases (want:=true) (j:=11) rfl rfl (fun h4=>?_) (fun h4=>?_)
    ·have k4:=h4;try simp only [zs] at k4
     refine Q110 h4 fo363_0 h4 ?_;refine Q46 ag3 sz3 ?_;refine Q60 h4 h4 ?_;refine Q109 ?_;refine Q32 h4 ?_;refine Q1 ?_;refine s_cond rfl (fun h5=>?_) (fun h5=>?_)
     ·have k5:=h5;try simp only [zs] at k5
      refine Q0 ?_;refine Q94 ?_;refine Q12 fo363_0 ag3 sz3 ?_;refine Q165 slt72 ?_;refine o_qs (q_app slt72 rfl rfl rfl rfl elsI (by first|exact elsI|exact Els.cons rfl rfl Els.nil) (by simp;omega)) rfl rfl rfl rfl ?_;refine Q128 ?_;refine s_exit ?_;refine s_code_exit ?_;refine s_blk_here ?_;refine Q19 ?_;refine Q113 ?_;refine o_q (q_mv (v_raw rfl)) rfl rfl rfl ?_;refine o_nil ?_;refine s_inv ?_;have hs:=(last_gt (by omega) k3).1 k4;refine⟨l.length - (i+1),by omega,_,_,_,i+1,St.mkT (kp (kp (kp (kp (kp (kp (kp (kp rfl rfl) rfl) (by show _=AVal.sl _ true;rw [keepN_succ l upto (by omega),if_neg (by simp [hs];omega),List.append_nil];rfl)) (app_map (f:=encI) (by rw [goneN_succ l upto (by omega),if_pos (by simp [hs];omega)]))) rfl) rfl) rfl) rfl).symm,Mem.le_upd (Mem.le_upd hle (Mem.none_of_le hle hB3)) (Mem.none_of_le hle hB3),by repeat first|exact Mem.upd_self _ _ _|assumption|refine Mem.upd_ne (by assumption) ?_,hkvs,by omega,rfl⟩
     ·have k5:=h5;try simp only [zs] at k5
      refine Q13 ?_;refine Q19 ?_;refine Q94 ?_;refine Q45 ag363 sz363 ?_;refine Q107 slt79 ?_;refine Q247 slt79 ?_;refine Q128 ?_;refine Q36 ?_;refine⟨l.length - (i+1),by omega,_,_,_,i+1,St.mkT (kp (kp (kp (kp (kp (kp (kp (kp rfl rfl) rfl) (app_map (by rw [keepN_succ l upto (by omega),if_pos (by simp;right;omega)]))) (by show _=AVal.sl _ true;rw [goneN_succ l upto (by omega),if_neg (by simp;intro _;omega),List.append_nil];rfl)) rfl) rfl) rfl) rfl).symm,Mem.le_upd (Mem.le_upd hle (Mem.none_of_le hle hB3)) (Mem.none_of_le hle hB3),by repeat first|exact Mem.upd_self _ _ _|assumption|refine Mem.upd_ne (by assumption) ?_,hkvs,by omega,rfl⟩
    ·have k4:=h4;try simp only [zs] at k4
     refine Q24 h4 h4 ?_;refine Q24 h4 h4 ?_;refine Q30 h4 ?_;refine Q83 ?_;refine Q13 ?_;refine Q19 ?_;refine Q94 ?_;refine Q45 ag363 sz363 ?_;refine Q107 slt79 ?_;refine Q247 slt79 ?_;refine Q128 ?_;refine Q36 ?_;have hs:superB l i=false:=by rw [Bool.eq_false_iff];exact fun h=>k4 ((last_gt (by omega) k3).2 h)
     refine⟨l.length - (i+1),by omega,_,_,_,i+1,St.mkT (kp (kp (kp (kp (kp (kp (kp (kp rfl rfl) rfl) (app_map (by rw [keepN_succ l upto (by omega),if_pos (by simp [hs])]))) (by show _=AVal.sl _ true;rw [goneN_succ l upto (by omega),if_neg (by simp [hs]),List.append_nil];rfl)) rfl) rfl) rfl) rfl).symm,Mem.le_upd (Mem.le_upd hle (Mem.none_of_le hle hB3)) (Mem.none_of_le hle hB3),by repeat first|exact Mem.upd_self _ _ _|assumption|refine Mem.upd_ne (by assumption) ?_,hkvs,by omega,rfl⟩
   ·have k3:=h3;try simp only [zs] at k3
    iterate 3 refine Q24 h3 h3 ?_
    refine Q30 h3 ?_;refine Q111 ?_;refine Q81 ?_;refine Q21 ?_;refine Q83 ?_;refine Q13 ?_;refine Q19 ?_;refine Q94 ?_;refine Q45 ag363 sz363 ?_;refine Q107 slt79 ?_;refine Q247 slt79 ?_;refine Q128 ?_;refine Q36 ?_;have hs:superB l i=false:=by rw [Bool.eq_false_iff];exact fun h=>((superB_iff (by omega)).1 h).1 k3
    refine⟨l.length - (i+1),by omega,_,_,_,i+1,St.mkT (kp (kp (kp (kp (kp (kp (kp (kp rfl rfl) rfl) (app_map (by rw [keepN_succ l upto (by omega),if_pos (by simp [hs])]))) (by show _=AVal.sl _ true;rw [goneN_succ l upto (by omega),if_neg (by simp [hs]),List.append_nil];rfl)) rfl) rfl) rfl) rfl).symm,Mem.le_upd (Mem.le_upd hle (Mem.none_of_le hle hB3)) (Mem.none_of_le hle hB3),by repeat first|exact Mem.upd_self _ _ _|assumption|refine Mem.upd_ne (by assumption) ?_,hkvs,by omega,rfl⟩
  ·have k2:=h2;try simp only [zs] at k2
   refine Q117 ?_;refine Q94 ?_;refine Q94 ?_;refine Q151 ?_;refine Q151 ?_;refine Q103 ?_;have hil:i=l.length:=by omega
   subst hil;exact⟨rfl,hle⟩
def tk334:Nat->Nat->Option Nat
 | 0,0=>some 0
 | 1,3=>some 0
 | 1,4=>some 0
 | 1,6=>some 0
 | 2,0=>some 0
 | 2,1=>some 0
 | _,_=>none
def pl334:Nat->List PStep:=fun _=>[]
theorem cb334:Tryz.f334.body.map (codeB Tryz.prog Tryz.f334.ntmps tk334 pl334)=some true:=by kernel_rfl
theorem goes334:goesB Tryz.prog 334=true:=by kernel_rfl
theorem snd334 (l:List Rec)(upto:Int)(o:Bool)(M:Mem)(hl:l.length*64<=2^47):SoundCall Tryz.prog 334 [.sl (l.map enc) o,int upto] M fun r M'=>r = .sl ((keepN l upto l.length).map enc) true/\M'=M:=by
 refine SoundCall.go tk334 pl334 mixed Tryz.func334 cb334 rfl (Nat.le_of_ble_eq_true rfl) ?_;refine Q93 ?_;refine Q1 ?_;refine Q0 ?_;refine Q140 ?_;refine o_call ((snd358 l upto false M hl).det) goes358 (ac (v_sl rfl) (ac (v_raw rfl) ac_nil)) rfl ?_;refine Q94 ?_;refine o_ext rfl rfl rfl rfl ?_;refine Q166 ?_;refine Q151 ?_;refine Q42 ?_;refine Q1 ?_;refine Q0 ?_;refine Q94 ?_;refine Q151 ?_;refine Q103 ?_;exact⟨rfl,rfl⟩
def tk295:Nat->Nat->Option Nat:=fun _ _=>none
def pl295:Nat->List PStep:=fun _=>[]
theorem cb295:Tryz.f295.body.map (codeB Tryz.prog Tryz.f295.ntmps tk295 pl295)=some true:=by kernel_rfl
theorem goes295:goesB Tryz.prog 295=true:=by kernel_rfl
def compT (x:Tp)(n:Int):Tp:=⟨x.name,x.low,x.en,x.kvs,keepN x.recs n x.recs.length⟩
theorem snd295 (t m:Nat)(x:Tp)(n:Int)(M:Mem)(ht:M t=some (.cells (tpC m x)))(hm:M m=some (tpK x))(htm:t≠m)(hlen:x.recs.length<2^40):SoundCall Tryz.prog 295 [ptr t,int n] M fun r M'=>r=int 0/\(setTp M t m (compT x n)).le M':=by
 have htm':=htm.symm;refine SoundCall.go tk295 pl295 mixed Tryz.func295 cb295 rfl (Nat.le_of_ble_eq_true rfl) ?_;refine Q15 ?_;refine Q18 ?_;refine Q10 ?_;refine Q25 fo382_4 ?_;refine Q139 ag79 sz79 ?_;refine Q2 ?_;refine o_call ((snd334 x.recs n false M (by omega))) goes334 (ac (v_sl rfl) (ac (v_raw rfl) ac_nil)) rfl ?_;refine Q25 fo382_4 ?_;refine Q112 sz79 ?_;refine Q1 ?_;refine Q0 ?_;refine Q4 ?_;exact⟨rfl,le_tp (h1:=mmQ) mmQ (fun c o e1 e2 hc=>by repeat first|exact hc|refine Mem.upd_ne (by first|exact e1|exact e2|exact Mem.ne_none hc (by assumption)) ?_) rfl⟩
end C17
