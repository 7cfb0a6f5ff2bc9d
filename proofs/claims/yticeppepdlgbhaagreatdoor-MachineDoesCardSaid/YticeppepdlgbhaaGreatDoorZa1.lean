import Derived.Test.YticeppepdlgbhaaGreatDoorHz
import Derived.Test.YticeppepdlgbhaaGreatDoorAmF
import Derived.Test.YticeppepdlgbhaaGreatDoorProg
open Go Go.Proofs Go.Am
set_option linter.unusedVariables false
set_option autoImplicit false
set_option maxHeartbeats 4000000
set_option maxRecDepth 20000
set_option linter.unusedSimpArgs false
namespace C17
theorem ag3:aggT Tryz.prog 3=some false:=by kernel_rfl
theorem ag9:aggT Tryz.prog 9=some false:=by kernel_rfl
theorem ag24:aggT Tryz.prog 24=some false:=by kernel_rfl
theorem ag35:aggT Tryz.prog 35=some false:=by kernel_rfl
theorem ag39:aggT Tryz.prog 39=some true:=by kernel_rfl
theorem ag85:aggT Tryz.prog 85=some false:=by kernel_rfl
theorem bz39:(zeroT Tryz.prog 39).map (fun z=>z.cells.toList.map AVal.raw)=some [.raw (.int .i64 0),.raw (.string { data:=#[] }),.raw (.int .i64 0),.raw (.string { data:=#[] }),.raw (.string { data:=#[] })]:=by kernel_rfl
theorem bp39:(aPlaces Tryz.prog 39).isSome=true:=by kernel_rfl
theorem bz87:(zeroT Tryz.prog 87).map (fun z=>z.cells.toList.map AVal.raw)=some [.raw (.string { data:=#[] }),.raw (.int .i64 0),.raw (.int .i64 0),.raw (.map none),.raw (.slice none 0 0)]:=by kernel_rfl
theorem bp87:(aPlaces Tryz.prog 87).isSome=true:=by kernel_rfl
theorem bz90:(zeroT Tryz.prog 90).map (fun z=>z.cells.toList.map AVal.raw)=some [.raw (.int .i64 0),.raw (.int .i64 0)]:=by kernel_rfl
theorem bp90:(aPlaces Tryz.prog 90).isSome=true:=by kernel_rfl
theorem bz92:(zeroT Tryz.prog 92).map (fun z=>z.cells.toList.map AVal.raw)=some [.raw (.int .i64 0),.raw (.int .i64 0),.raw (.string { data:=#[] })]:=by kernel_rfl
theorem bp92:(aPlaces Tryz.prog 92).isSome=true:=by kernel_rfl
theorem fo39_0:fo Tryz.prog 39 0=some (0,1):=by kernel_rfl
theorem fo39_1:fo Tryz.prog 39 1=some (1,1):=by kernel_rfl
theorem fo39_2:fo Tryz.prog 39 2=some (2,1):=by kernel_rfl
theorem fo39_3:fo Tryz.prog 39 3=some (3,1):=by kernel_rfl
theorem fo39_4:fo Tryz.prog 39 4=some (4,1):=by kernel_rfl
theorem fo87_0:fo Tryz.prog 87 0=some (0,1):=by kernel_rfl
theorem fo87_1:fo Tryz.prog 87 1=some (1,1):=by kernel_rfl
theorem fo87_2:fo Tryz.prog 87 2=some (2,1):=by kernel_rfl
theorem fo87_3:fo Tryz.prog 87 3=some (3,1):=by kernel_rfl
theorem fo87_4:fo Tryz.prog 87 4=some (4,1):=by kernel_rfl
theorem fo90_0:fo Tryz.prog 90 0=some (0,1):=by kernel_rfl
theorem fo90_1:fo Tryz.prog 90 1=some (1,1):=by kernel_rfl
theorem fo92_0:fo Tryz.prog 92 0=some (0,2):=by kernel_rfl
theorem fo92_1:fo Tryz.prog 92 1=some (2,1):=by kernel_rfl
theorem kt9:KeyT Tryz.prog 9 Value.string:=keyT_str (by kernel_rfl)
theorem slt35:SlT Tryz.prog 35 39 5 64:=⟨by kernel_rfl,by kernel_rfl,by kernel_rfl,by kernel_rfl,by decide⟩
theorem slt118:SlT Tryz.prog 118 3 1 8:=⟨by kernel_rfl,by kernel_rfl,by kernel_rfl,by kernel_rfl,by decide⟩
theorem sz3:sizeT Tryz.prog 3=some 1:=by kernel_rfl
theorem sz9:sizeT Tryz.prog 9=some 1:=by kernel_rfl
theorem sz24:sizeT Tryz.prog 24=some 1:=by kernel_rfl
theorem sz35:sizeT Tryz.prog 35=some 1:=by kernel_rfl
theorem sz39:sizeT Tryz.prog 39=some 5:=by kernel_rfl
theorem sz85:sizeT Tryz.prog 85=some 1:=by kernel_rfl
theorem sz92:sizeT Tryz.prog 92=some 3:=by kernel_rfl
theorem und3:Tryz.prog.underlying 3=some (.int .i64):=by kernel_rfl
theorem und4:Tryz.prog.underlying 4=some .bool:=by kernel_rfl
theorem und9:Tryz.prog.underlying 9=some .string:=by kernel_rfl
theorem und35:Tryz.prog.underlying 35=some (.slice 39):=by kernel_rfl
theorem und85:Tryz.prog.underlying 85=some (.map 9 92):=by kernel_rfl
theorem und238:Tryz.prog.underlying 238=some (.int .u64):=by kernel_rfl
theorem und239:Tryz.prog.underlying 239=some (.map 9 3):=by kernel_rfl
theorem z3:zeroT Tryz.prog 3=some (.int .i64 0):=by kernel_rfl
theorem z92:zeroT Tryz.prog 92=some (.agg #[(.int .i64 0),(.int .i64 0),(.string { data:=#[] })]):=by kernel_rfl
theorem zc39:zeroCellsT Tryz.prog 39=some [.raw (.int .i64 0),.raw (.string { data:=#[] }),.raw (.int .i64 0),.raw (.string { data:=#[] }),.raw (.string { data:=#[] })]:=by kernel_rfl
theorem zc92:zeroCellsT Tryz.prog 92=some [.raw (.int .i64 0),.raw (.int .i64 0),.raw (.string { data:=#[] })]:=by kernel_rfl
theorem mixed:Tryz.prog.follows .mixedOrders=true:=by kernel_rfl
structure Rec where
 off:Int
 prod:ByteArray
 seq:Int
 key:ByteArray
 val:ByteArray
 deriving DecidableEq,Inhabited
def enc (r:Rec):AVal:=.agg [.raw (.int .i64 r.off),.raw (.string r.prod),.raw (.int .i64 r.seq),.raw (.string r.key),.raw (.string r.val)]
def raw (r:Rec):Value:=.agg #[.int .i64 r.off,.string r.prod,.int .i64 r.seq,.string r.key,.string r.val]
def encI (n:Int):AVal:=.raw (.int .i64 n)
theorem eqg:Tryz.prog.eqGuardType Tryz.prog.depth 39=false:=by kernel_rfl
theorem stood:Tryz.prog.stoodInHeld 39=false:=by kernel_rfl
theorem recEq (r r':Rec):pr Tryz.prog (Op.equal 39 (raw r) (raw r'))=some (decide (r=r')):=by
 refine eqStruct Tryz.underlying39 stood ?_;simp only [List.forIn_cons,List.forIn_nil];refine fldEq' (by decide) (part_one (v:=.int .i64 r.off) ag3 rfl) (part_one (v:=.int .i64 r'.off) ag3 rfl) (eq_int und3 _ _) (fun _=>rfl) rfl (congrArg Rec.off) (fun h1=>?_);refine fldEq' (by decide) (part_one (v:=.string r.prod) ag9 rfl) (part_one (v:=.string r'.prod) ag9 rfl) (eq_str und9 _ _) (fun _=>rfl) rfl (congrArg Rec.prod) (fun h2=>?_);refine fldEq' (by decide) (part_one (v:=.int .i64 r.seq) ag3 rfl) (part_one (v:=.int .i64 r'.seq) ag3 rfl) (eq_int und3 _ _) (fun _=>rfl) rfl (congrArg Rec.seq) (fun h3=>?_);refine fldEq' (by decide) (part_one (v:=.string r.key) ag9 rfl) (part_one (v:=.string r'.key) ag9 rfl) (eq_str und9 _ _) (fun _=>rfl) rfl (congrArg Rec.key) (fun h4=>?_);refine fldEq' (by decide) (part_one (v:=.string r.val) ag9 rfl) (part_one (v:=.string r'.val) ag9 rfl) (eq_str und9 _ _) (fun _=>rfl) rfl (congrArg Rec.val) (fun h5=>?_);have:r=r':=by cases r;cases r';simp at h1 h2 h3 h4 h5;simp [*]
 simp only [this,decide_true];rfl
theorem binNeq (x y:Operand)(r r':Rec):aBin Tryz.prog .neq 39 x y (enc r) (enc r')=some (.raw (.bool (!decide (r=r')))) :=
 aBin_structNeq eqg rfl rfl (fun _ _ h=>by cases h) (recEq r r')
theorem elsR {l:List Rec}:Els 5 (l.map enc):=Els.map fun _=>⟨rfl,rfl⟩
theorem elsI {l:List Int}:Els 1 (l.map encI):=Els.map fun _=>⟨rfl,rfl⟩
def emp:ByteArray:={ data:=#[] }
def superB (l:List Rec)(i:Nat):Bool:=decide ((l.getD i default).key≠emp) && (l.drop (i+1)).any fun r=>decide (r.key=(l.getD i default).key)
theorem superB_iff {l:List Rec}{i:Nat}(hi:i<l.length):superB l i=true↔l[i].key≠emp/\∃ j,∃ h:j<l.length,i<j/\l[j].key=l[i].key:=by
 unfold superB;have e:l.getD i default=l[i]:=by simp [List.getD,hi]
 rw [e];simp only [Bool.and_eq_true,decide_eq_true_eq,List.any_eq_true,List.mem_drop_iff_getElem];constructor
 ·rintro ⟨h1,r,⟨k,hk,rfl⟩,h2⟩;exact⟨h1,i+1+k,by omega,by omega,h2⟩
 ·rintro ⟨h1,j,hj,h2,h3⟩;refine⟨h1,l[j],⟨j - (i+1),by omega,?_⟩,h3⟩;congr 1;omega
def keepN (l:List Rec)(upto:Int)(n:Nat):List Rec:=((List.range n).filter fun i=>!superB l i || decide (upto<=(l.getD i default).off)).map fun i=>l.getD i default
def goneN (l:List Rec)(upto:Int)(n:Nat):List Int:=((List.range n).filter fun i=>superB l i && decide ((l.getD i default).off<upto)).map fun i=>(l.getD i default).off
theorem keepN_succ (l:List Rec)(upto:Int){n:Nat}(h:n<l.length):keepN l upto (n+1)=keepN l upto n++if !superB l n || decide (upto<=l[n].off) then [l[n]] else []:=by
 have e:l.getD n default=l[n]:=by simp [List.getD,h]
 unfold keepN;rw [List.range_succ,List.filter_append,List.map_append];congr 1;simp only [List.filter_cons,List.filter_nil,e];split<;>simp [List.getD,h]
theorem goneN_succ (l:List Rec)(upto:Int){n:Nat}(h:n<l.length):goneN l upto (n+1)=goneN l upto n++if superB l n && decide (l[n].off<upto) then [l[n].off] else []:=by
 have e:l.getD n default=l[n]:=by simp [List.getD,h]
 unfold goneN;rw [List.range_succ,List.filter_append,List.map_append];congr 1;simp only [List.filter_cons,List.filter_nil,e];split<;>simp [List.getD,h]
theorem keepN_len (l:List Rec)(upto:Int)(n:Nat):(keepN l upto n).length<=n:=by
 unfold keepN;rw [List.length_map];exact Nat.le_trans (List.length_filter_le _ _) (by simp)
theorem goneN_len (l:List Rec)(upto:Int)(n:Nat):(goneN l upto n).length<=n:=by
 unfold goneN;rw [List.length_map];exact Nat.le_trans (List.length_filter_le _ _) (by simp)
theorem app_map {α:Type}{f:α->AVal}{l:List α}{x:α}{l':List α}(h:l'=l++[x]):(AVal.sl (l.map f++[f x]) true) = .sl (l'.map f) true:=by subst h;simp
def encN (n:Nat):AVal:=.raw (.int .i64 n)
def lastN (l:List Rec)(key:ByteArray):Nat->Option Nat
 | 0=>none
 | n+1=>if (l.getD n default).key=key then some n else lastN l key n
theorem getD_lt {l:List Rec}{n:Nat}(h:n<l.length):l.getD n default=l[n]:=by simp [List.getD,h]
theorem lastN_spec (l : List Rec) (key : ByteArray) : ∀ n, (∀ m, lastN l key n = some m → m < n ∧ (l.getD m default).key = key ∧ ∀ j, m < j → j < n → (l.getD j default).key ≠ key) ∧ (lastN l key n = none → ∀ j < n, (l.getD j default).key ≠ key)
  | 0 => ⟨fun m h => by simp [lastN] at h, fun _ j h => by omega⟩
  | n + 1 => by
    obtain ⟨h1, h2⟩ := lastN_spec l key n
    unfold lastN
    by_cases h : (l.getD n default).key = key
    · rw [if_pos h]
      exact ⟨fun m e => by obtain rfl := Option.some.inj e; exact ⟨by omega, h, fun j _ _ => by omega⟩, fun e => by cases e⟩
    · rw [if_neg h]
      refine ⟨fun m e => ?_, fun e j hj => ?_⟩
      · obtain ⟨h3, h4, h5⟩ := h1 m e
        exact ⟨by omega, h4, fun j h6 h7 => by by_cases e : j = n; · subst e; exact h
                                               · exact h5 j h6 (by omega)⟩
      · by_cases e' : j = n
        · subst e'; exact h
        · exact h2 e j (by omega)
theorem last_gt {l:List Rec}{i:Nat}(hi:i<l.length)(hk:l[i].key≠emp):((i:Int)<(((lastN l l[i].key l.length).getD 0:Nat):Int))↔superB l i=true:=by
 rw [superB_iff hi];obtain⟨h1,h2⟩:=lastN_spec l l[i].key l.length;cases h:lastN l l[i].key l.length with
 | none=>exact absurd rfl (by have:=h2 h i hi;rw [getD_lt hi] at this;exact this)
 | some m =>
  obtain⟨h3,h4,h5⟩:=h1 m h;rw [getD_lt h3] at h4;simp only [Option.getD_some];constructor
  ·intro h6;exact⟨hk,m,h3,by omega,h4⟩
  ·rintro ⟨-,j,hj,h6,h7⟩;rcases Nat.lt_or_ge m j with h8|h8
   ·exact absurd h7 (by have:=h5 j h8 hj;rw [getD_lt hj] at this;exact this)
   ·omega
theorem lookN (o:Option Nat):((o.map encN).getD (ofConst (.int .i64 0))).shut = .raw (.int .i64 ((o.getD 0:Nat):Int)):=by
 cases o<;>rfl
theorem ne_fresh {M:Mem}{b c:Nat}{o:AObj}(h:M b=none)(h':M c=some o):c≠b:=fun e=>by subst e;rw [h] at h';cases h'
def int (n:Int):AVal:=.raw (.int .i64 n)
def str (s:ByteArray):AVal:=.raw (.string s)
def ptr (b:Nat):AVal:=.raw (.pointer (some ⟨b,0,none⟩))
def bool (b:Bool):AVal:=.raw (.bool b)
def wordC (n:Int):Bool:=decide (97<=n) && decide (n<=122) || decide (48<=n) && decide (n<=57)
def word (s:ByteArray):Bool:=decide (s≠emp) && decide (s.size<=20) && s.data.toList.all fun b=>wordC b.toNat
theorem decode_low {s:ByteArray}{p:Nat}(h:p<s.size):((s.data[p]'h).toNat<128->Utf8.decode s p=((s.data[p]'h).toNat,1))/\(128<=(s.data[p]'h).toNat->128<=(Utf8.decode s p).1):=by
 have e:(s.get! (p+0)).toNat=(s.data[p]'h).toNat:=by
  have h':p<s.data.size:=h;show (s.data[p]!).toNat=_
  rw [getElem!_pos s.data p h']
 unfold Utf8.decode;simp only [e];constructor
 ·intro h1;rw [if_pos h1]
 ·intro h1;rw [if_neg (by omega)];have hr:128<=Utf8.runeError:=by decide
  split
  ·split
   ·rename_i hc;exact hc
   ·exact hr
  ·split
   ·split
    ·rename_i hc;simp only [Bool.and_eq_true,decide_eq_true_eq] at hc;dsimp only;omega
    ·exact hr
   ·split
    ·split
     ·rename_i hc;simp only [Bool.and_eq_true,decide_eq_true_eq] at hc;dsimp only;omega
     ·exact hr
    ·exact hr
theorem wordC_lt {n:Int}(h:wordC n=true):n<128:=by
 simp [wordC] at h;omega
def right (r:Rec):Bool:=decide (0<=min r.off r.seq) && decide (max r.off r.seq<=9007199254740991) && decide (r.prod.size<=20) && decide (r.key.size<=100) && decide (r.val.size<=1000)
theorem right_spec {r:Rec}:right r=true↔0<=r.off/\0<=r.seq/\r.off<=9007199254740991/\r.seq<=9007199254740991/\r.prod.size<=20/\r.key.size<=100/\r.val.size<=1000:=by
 unfold right;simp only [Bool.and_eq_true,decide_eq_true_eq];constructor
 ·rintro ⟨⟨⟨⟨h1,h2⟩,h3⟩,h4⟩,h5⟩;omega
 ·rintro ⟨h1,h2,h3,h4,h5,h6,h7⟩;omega
theorem ok_succ {s:ByteArray}{p:Nat}(hok:∀ j,∀ hj:j<s.size,j<p->wordC (s.data[j]'hj).toNat=true)(hp:p<s.size)(hw:wordC ((s.data[p]'hp).toNat:Int)=true):∀ j,∀ hj:j<s.size,j<p+1->wordC (s.data[j]'hj).toNat=true:=fun j hj hlt=>by
 rcases Nat.lt_or_ge j p with h|h
 ·exact hok j hj h
 ·obtain rfl:j=p:=by omega
  exact hw
theorem allT {s:ByteArray}{p:Nat}(h:∀ j,∀ hj:j<s.size,j<p->wordC (s.data[j]'hj).toNat=true)(hp:s.size<=p):s.data.toList.all (fun b=>wordC b.toNat)=true:=by
 rw [List.all_eq_true];intro b hb;obtain⟨j,hj,rfl⟩:=List.mem_iff_getElem.1 hb;have hj':j<s.size:=by simpa using hj
 exact h j hj' (by omega)
theorem allF {s:ByteArray}{p:Nat}(hp:p<s.size)(h:wordC (s.data[p]'hp).toNat=false):s.data.toList.all (fun b=>wordC b.toNat)=false:=by
 rw [List.all_eq_false];refine⟨(s.data[p]'hp),?_,by rw [h];decide⟩;exact Array.mem_toList_iff.2 (Array.getElem_mem _)
def tk98:Nat->Nat->Option Nat:=fun _ _=>none
def pl98:Nat->List PStep:=fun _=>[]
theorem cb98:Tryz.f98.body.map (codeB Tryz.prog Tryz.f98.ntmps tk98 pl98)=some true:=by kernel_rfl
theorem goes98:goesB Tryz.prog 98=true:=by kernel_rfl
theorem snd98 (n:Int)(M:Mem):SoundCall Tryz.prog 98 [.raw (.int .i32 n)] M fun r M'=>r=bool (!wordC n)/\M.le M':=by
 refine SoundCall.go tk98 pl98 mixed Tryz.func98 cb98 rfl (Nat.le_of_ble_eq_true rfl) ?_;refine Q18 ?_;refine Q7 ?_;refine Q24 ?_;refine Q1 ?_;refine o_cases (want:=true) (j:=2) rfl rfl (fun h1=>?_) (fun h1=>?_)
 ·have k1:=h1;try simp only [zs] at k1
  refine Q32 h1 h1 ?_;refine Q100 ?_;refine Q19 h1 ?_;refine Q1 ?_;refine o_cases (want:=false) (j:=6) rfl rfl (fun h2=>?_) (fun h2=>?_)
  ·have k2:=h2;try simp only [zs] at k2
   refine Q32 h2 h2 ?_;refine Q24 ?_;refine Q174 h2 ?_;refine o_cases (want:=true) (j:=9) rfl rfl (fun h3=>?_) (fun h3=>?_)
   ·have k3:=h3;try simp only [zs] at k3
    refine Q32 h3 h3 ?_;refine Q100 ?_;refine Q14 h2 ?_;refine Q19 h3 ?_;refine Q33 h2 ?_;refine Q119 ?_;refine Q2 ?_;refine⟨congrArg (fun b=>AVal.raw (.bool b)) ?_,zle⟩;simp_all [wordC]
   ·have k3:=h3;try simp only [zs] at k3
    refine Q53 h3 h3 ?_;refine Q14 h2 ?_;refine Q33 h3 ?_;refine Q33 h2 ?_;refine Q119 ?_;refine Q2 ?_;refine⟨congrArg (fun b=>AVal.raw (.bool b)) ?_,zle⟩;simp_all [wordC]
  ·have k2:=h2;try simp only [zs] at k2
   refine Q53 h2 h2 ?_;refine Q155 h2 ?_;refine o_skip rfl rfl rfl rfl ?_;refine o_skip rfl rfl rfl rfl ?_;refine Q155 h2 ?_;refine Q19 h2 ?_;refine Q119 ?_;refine Q2 ?_;refine⟨congrArg (fun b=>AVal.raw (.bool b)) ?_,zle⟩;simp_all [wordC]
 ·have k1:=h1;try simp only [zs] at k1
  refine Q53 h1 h1 ?_;refine Q33 h1 ?_;refine Q73 ?_;refine Q24 ?_;refine Q9 ?_;refine Q1 ?_;refine o_cases (want:=true) (j:=9) rfl rfl (fun h4=>?_) (fun h4=>?_)
  ·have k4:=h4;try simp only [zs] at k4
   refine Q32 h4 h4 ?_;refine Q100 ?_;refine Q9 ?_;refine Q19 h4 ?_;refine Q37 ?_;refine Q119 ?_;refine Q2 ?_;refine⟨congrArg (fun b=>AVal.raw (.bool b)) ?_,zle⟩;simp_all [wordC]
  ·have k4:=h4;try simp only [zs] at k4
   refine Q53 h4 h4 ?_;refine Q9 ?_;refine Q33 h4 ?_;refine Q37 ?_;refine Q119 ?_;refine Q2 ?_;refine⟨congrArg (fun b=>AVal.raw (.bool b)) ?_,zle⟩;simp_all [wordC]
def tk160:Nat->Nat->Option Nat:=fun _ _=>none
def pl160:Nat->List PStep:=fun _=>[]
theorem cb160:Tryz.f160.body.map (codeB Tryz.prog Tryz.f160.ntmps tk160 pl160)=some true:=by kernel_rfl
theorem goes160:goesB Tryz.prog 160=true:=by kernel_rfl
theorem snd160 (s:ByteArray)(M:Mem):SoundCall Tryz.prog 160 [str s,.raw (.func (.func 98) #[] #[]),bool true] M fun r M'=>∃ n:Int,r=int n/\decide (n<0)=s.data.toList.all (fun b=>wordC b.toNat)/\M.le M':=by
 refine SoundCall.go tk160 pl160 mixed Tryz.func160 cb160 rfl (Nat.le_of_ble_eq_true rfl) ?_;refine Q18 ?_;refine Q4 ?_;refine o_range und9 rfl (fun B1 hB1=>?_);refine Q68 ?_;refine s_loop (fun m S=>∃ T,∃ M':Mem,∃ p:Nat,S=⟨setT (setT (setT (setT T 0 (str s)) 1 (.raw (.func (.func 98) #[] #[]))) 2 (bool true)) 10 (ptr B1),M'⟩/\M.le M'/\M' B1=some (.it (.stringIter s p))/\(∀ j,∀ hj:j<s.size,j<p->wordC (s.data[j]'hj).toNat=true)/\m=s.size - p) s.size ?_ ?_
 ·exact⟨_,_,0,St.mkT (kp (kp (kp (kp rfl rfl) rfl) rfl) rfl).symm,zle,mmQ,fun j _ h=>by omega,rfl⟩
 rintro m S ⟨T,M',p,rfl,hle,hB,hok,rfl⟩;refine Q0 ?_;refine o_next rfl mmQ (fun h1=>?_) (fun h1=>?_)
 ·obtain⟨d1,d2⟩:=decode_low h1;refine o_q (q_extr rfl rfl) rfl rfl rfl ?_;refine Q11 ?_;refine s_then rfl rfl ?_;refine s_skip ?_;refine s_block ?_;refine Q0 ?_;refine o_q (q_extr rfl rfl) rfl rfl rfl ?_;refine o_q (q_extr rfl rfl) rfl rfl rfl ?_;refine Q27 ?_;refine Q46 ?_;refine Q1 ?_;refine o_callv rfl ((snd98 ((Utf8.decode s p).1:Int) _).det) goes98 (ac (v_raw rfl) ac_nil) rfl rfl ?_;rintro r M'' ⟨rfl,rfl⟩;refine Q1 ?_;refine o_q (q_beql und4 rfl rfl) rfl rfl rfl ?_;refine o_nil ?_;refine s_cond rfl (fun h2=>?_) (fun h2=>?_)
  ·have k2:=h2;try simp only [zs] at k2
   refine Q7 ?_;refine Q101 ?_;refine s_blk_ret ?_;refine s_inv_ret ?_;refine Q77 ?_;refine⟨p,rfl,?_,zle⟩;have hw:wordC ((Utf8.decode s p).1:Int)=false:=by simpa using k2
   rw [allF h1 (by
    by_cases hlt:(s.data[p]'h1).toNat<128
    ·rw [d1 hlt] at hw;exact hw
    ·rw [Bool.eq_false_iff];intro hc;have:=wordC_lt hc;omega)]
   simp
  ·have k2:=h2;try simp only [zs] at k2
   refine Q47 ?_;refine s_inv ?_;have hw:wordC ((Utf8.decode s p).1:Int)=true:=by simpa using k2
   have hlt:(s.data[p]'h1).toNat<128:=by
    rcases Nat.lt_or_ge (s.data[p]'h1).toNat 128 with h|h
    ·exact h
    ·have:=d2 h;have:=wordC_lt hw;omega
   rw [d1 hlt] at hw ⊢;exact⟨s.size - (p+1),by omega,_,_,p+1,St.mkT (kp (kp (kp (kp rfl rfl) rfl) rfl) rfl).symm,zle,mmQ,ok_succ hok h1 hw,rfl⟩
 ·refine o_q (q_extr rfl rfl) rfl rfl rfl ?_;refine Q11 ?_;refine s_else rfl rfl ?_;refine Q26 ?_;refine Q0 ?_;refine Q2 ?_;refine⟨-1,rfl,?_,zle⟩;rw [allT hok (by omega)];decide
def tk97:Nat->Nat->Option Nat:=fun _ _=>none
def pl97:Nat->List PStep:=fun _=>[]
theorem cb97:Tryz.f97.body.map (codeB Tryz.prog Tryz.f97.ntmps tk97 pl97)=some true:=by kernel_rfl
theorem goes97:goesB Tryz.prog 97=true:=by kernel_rfl
theorem snd97 (s:ByteArray)(M:Mem):SoundCall Tryz.prog 97 [str s,.raw (.func (.func 98) #[] #[])] M fun r M'=>∃ n:Int,r=int n/\decide (n<0)=s.data.toList.all (fun b=>wordC b.toNat)/\M.le M':=by
 refine SoundCall.go tk97 pl97 mixed Tryz.func97 cb97 rfl (Nat.le_of_ble_eq_true rfl) ?_;refine Q18 ?_;refine Q7 ?_;refine Q1 ?_;refine o_callx (snd160 s _) goes160 (ac (v_raw rfl) (ac (v_raw rfl) (ac (v_raw rfl) ac_nil))) rfl ?_;rintro r M' ⟨n,rfl,hn,hle⟩;refine Q2 ?_;exact⟨n,rfl,hn,hle⟩
def tk46:Nat->Nat->Option Nat:=fun _ _=>none
def pl46:Nat->List PStep:=fun _=>[]
theorem cb46:Tryz.f46.body.map (codeB Tryz.prog Tryz.f46.ntmps tk46 pl46)=some true:=by kernel_rfl
theorem goes46:goesB Tryz.prog 46=true:=by kernel_rfl
theorem snd46 (s:ByteArray)(M:Mem):SoundCall Tryz.prog 46 [str s] M fun r M'=>r=bool (word s)/\M.le M':=by
 refine SoundCall.go tk46 pl46 mixed Tryz.func46 cb46 rfl (Nat.le_of_ble_eq_true rfl) ?_;refine Q18 ?_;refine Q7 ?_;refine Q175 ?_;refine Q1 ?_;refine o_cases (want:=true) (j:=2) rfl rfl (fun h1=>?_) (fun h1=>?_)
 ·have k1:=h1;try simp only [zs] at k1
  refine Q32 h1 h1 ?_;refine Q78 und9 ?_;refine Q14 h1 ?_;refine Q100 ?_;refine Q19 h1 ?_;refine Q1 ?_;refine o_cases (want:=true) (j:=7) rfl rfl (fun h2=>?_) (fun h2=>?_)
  ·have k2:=h2;try simp only [zs] at k2
   refine Q32 h2 h2 ?_;refine o_callx (snd97 s _) goes97 (ac (v_raw rfl) (ac (v_raw rfl) ac_nil)) rfl ?_;rintro r M' ⟨n,rfl,hn,hle⟩;refine Q14 h2 ?_;refine Q59 ?_;refine Q19 h2 ?_;refine Q2 ?_;refine⟨congrArg (fun b=>AVal.raw (.bool b)) ?_,zle⟩;simp_all [word,emp]<;>(intros;omega)
  ·have k2:=h2;try simp only [zs] at k2
   refine Q53 h2 h2 ?_;refine Q120 h2 h2 ?_;refine Q2 ?_;refine⟨congrArg (fun b=>AVal.raw (.bool b)) ?_,zle⟩;simp_all [word,emp]<;>(intros;omega)
 ·have k1:=h1;try simp only [zs] at k1
  refine Q53 h1 h1 ?_;refine Q120 h1 h1 ?_;refine Q28 ?_;refine Q102 ?_;refine Q2 ?_;refine⟨congrArg (fun b=>AVal.raw (.bool b)) ?_,zle⟩;simp_all [word,emp]<;>(intros;omega)
def tk48:Nat->Nat->Option Nat:=fun _ _=>none
def pl48:Nat->List PStep:=fun _=>[]
theorem cb48:Tryz.f48.body.map (codeB Tryz.prog Tryz.f48.ntmps tk48 pl48)=some true:=by kernel_rfl
theorem goes48:goesB Tryz.prog 48=true:=by kernel_rfl
theorem snd48 (r:Rec)(M:Mem):SoundCall Tryz.prog 48 [enc r] M fun t M'=>t=bool (right r)/\M.le M':=by
 refine SoundCall.go tk48 pl48 mixed Tryz.func48 cb48 rfl (Nat.le_of_ble_eq_true rfl) ?_;refine Q0 ?_;refine o_box zbx rfl rfl (fun B1 hB1=>?_);have m1:M B1=none:=zm hB1;refine Q8 ?_;refine Q6 fo39_0 ag3 sz3 ?_;refine Q12 fo39_2 ag3 sz3 ?_;refine o_q (q_min rfl rfl) rfl rfl rfl ?_;refine Q24 ?_;refine Q1 ?_;refine o_cases (want:=true) (j:=6) rfl rfl (fun h1=>?_) (fun h1=>?_)
 ·have k1:=h1;try simp only [zs] at k1
  refine Q74 h1 fo39_0 h1 ?_;refine Q79 ag3 sz3 ?_;refine Q74 h1 fo39_2 h1 ?_;refine Q121 ag3 sz3 h1 ?_;refine o_q (q_max rfl rfl) rfl rfl rfl ?_;refine Q14 h1 ?_;refine Q100 ?_;refine Q19 h1 ?_;refine Q1 ?_;refine o_cases (want:=true) (j:=14) rfl rfl (fun h2=>?_) (fun h2=>?_)
  ·have k2:=h2;try simp only [zs] at k2
   refine Q74 h2 fo39_1 h2 ?_;refine Q121 ag9 sz9 h2 ?_;refine Q78 und9 ?_;refine Q14 h2 ?_;refine Q100 ?_;refine Q19 h2 ?_;refine Q1 ?_;refine o_cases (want:=true) (j:=20) rfl rfl (fun h3=>?_) (fun h3=>?_)
   ·have k3:=h3;try simp only [zs] at k3
    refine Q74 h3 fo39_3 h3 ?_;refine Q121 ag9 sz9 h3 ?_;refine Q78 und9 ?_;refine Q14 h3 ?_;refine Q100 ?_;refine Q19 h3 ?_;refine Q1 ?_;refine o_cases (want:=true) (j:=26) rfl rfl (fun h4=>?_) (fun h4=>?_)
    ·have k4:=h4;try simp only [zs] at k4
     refine Q74 h4 fo39_4 h4 ?_;refine Q121 ag9 sz9 h4 ?_;refine Q78 und9 ?_;refine Q14 h4 ?_;refine Q100 ?_;refine Q19 h4 ?_;refine Q2 ?_;refine⟨congrArg (fun b=>AVal.raw (.bool b)) ?_,zle⟩;rw [Bool.eq_iff_iff,right_spec];try simp only [decide_eq_true_eq,Bool.false_eq_true,false_iff]
     omega
    ·have k4:=h4;try simp only [zs] at k4
     refine Q48 h4 h4 h4 h4 ?_;refine Q33 h4 ?_;refine Q2 ?_;refine⟨congrArg (fun b=>AVal.raw (.bool b)) ?_,zle⟩;rw [Bool.eq_iff_iff,right_spec];try simp only [decide_eq_true_eq,Bool.false_eq_true,false_iff]
     omega
   ·have k3:=h3;try simp only [zs] at k3
    refine Q48 h3 h3 h3 h3 ?_;refine Q33 h3 ?_;refine Q28 ?_;refine Q65 ?_;refine Q37 ?_;refine Q2 ?_;refine⟨congrArg (fun b=>AVal.raw (.bool b)) ?_,zle⟩;rw [Bool.eq_iff_iff,right_spec];try simp only [decide_eq_true_eq,Bool.false_eq_true,false_iff]
    omega
  ·have k2:=h2;try simp only [zs] at k2
   refine Q48 h2 h2 h2 h2 ?_;refine Q33 h2 ?_;refine Q28 ?_;refine Q65 ?_;refine Q37 ?_;refine Q28 ?_;refine Q65 ?_;refine Q37 ?_;refine Q2 ?_;refine⟨congrArg (fun b=>AVal.raw (.bool b)) ?_,zle⟩;rw [Bool.eq_iff_iff,right_spec];try simp only [decide_eq_true_eq,Bool.false_eq_true,false_iff]
   omega
 ·have k1:=h1;try simp only [zs] at k1
  refine Q48 h1 h1 h1 h1 ?_;refine Q53 h1 h1 ?_;refine Q33 h1 ?_;refine Q28 ?_;refine Q65 ?_;refine Q37 ?_;refine Q28 ?_;refine Q65 ?_;refine Q37 ?_;refine Q28 ?_;refine Q65 ?_;refine Q37 ?_;refine Q2 ?_;refine⟨congrArg (fun b=>AVal.raw (.bool b)) ?_,zle⟩;rw [Bool.eq_iff_iff,right_spec];try simp only [decide_eq_true_eq,Bool.false_eq_true,false_iff]
  omega
def tk9:Nat->Nat->Option Nat:=fun _ _=>none
def pl9:Nat->List PStep:=fun _=>[]
theorem cb9:Tryz.f9.body.map (codeB Tryz.prog Tryz.f9.ntmps tk9 pl9)=some true:=by kernel_rfl
theorem goes9:goesB Tryz.prog 9=true:=by kernel_rfl
def encL (v:Int×Int×ByteArray):AVal:=.agg [int v.1,int v.2.1,str v.2.2]
structure Tp where
 name:ByteArray
 low:Int
 en:Int
 kvs:List (ByteArray×(Int×Int×ByteArray))
 recs:List Rec
def tpC (m:Nat)(x:Tp):List AVal:=[str x.name,int x.low,int x.en,.raw (.map (some m)),.sl (x.recs.map enc) true]
abbrev tpK (x:Tp):AObj:=.map (ents Value.string encL x.kvs)
abbrev setTp (M:Mem)(t m:Nat)(x:Tp):Mem:=(M.upd m (tpK x)).upd t (.cells (tpC m x))
def newR (x:Tp)(p:ByteArray)(seq:Int)(k v:ByteArray):Rec:=⟨x.en,p,seq,k,v⟩
def pub (x:Tp)(p:ByteArray)(seq:Int)(k v:ByteArray):Tp×Int×Int :=
 if word p && right (newR x p seq k v) then
  match kget x.kvs p with
  | some l=>if seq<l.1 then (x,0,6) else if seq=l.1 then (x,l.2.1,0) else (⟨x.name,x.low,x.en+1,kput x.kvs p (seq,x.en,p),x.recs++[newR x p seq k v]⟩,x.en,0)
  | none=>(⟨x.name,x.low,x.en+1,kput x.kvs p (seq,x.en,p),x.recs++[newR x p seq k v]⟩,x.en,0)
 else (x,0,7)
theorem Mem.ne_none {M:Mem}{b c:Nat}{o:AObj}(h:M c=some o)(h':M b=none):c≠b:=fun e=>by subst e;rw [h] at h';cases h'
theorem le_tp {M M':Mem}{t m:Nat}{x:Tp}{l:List AVal}(h1:M' t=some (.cells l))(h2:M' m=some (tpK x))(h3:∀ c o,c≠t->c≠m->M c=some o->M' c=some o)(hl:l=tpC m x):(setTp M t m x).le M':=fun c o hc=>by
 subst hl;unfold setTp Mem.upd at hc;by_cases e:c=t
 ·rw [if_pos e] at hc;cases hc;rw [e];exact h1
 ·rw [if_neg e] at hc;by_cases e':c=m
  ·rw [if_pos e'] at hc;cases hc;rw [e'];exact h2
  ·rw [if_neg e'] at hc;exact h3 c o e e' hc
theorem setTp_same {M:Mem}{t m:Nat}{x:Tp}(h1:M t=some (.cells (tpC m x)))(h2:M m=some (tpK x))(d:t≠m):setTp M t m x=M:=by
 unfold setTp;rw [Mem.upd_same h2,Mem.upd_same h1]
theorem snd9 (s:ByteArray)(M:Mem):SoundCall Tryz.prog 9 [str s] M fun r M'=>(word s=false/\r = .tup [.raw (.pointer none),int 5]/\M.le M')\/(word s=true/\∃ t m l,M t=none/\M m=none/\t≠m/\r = .tup [ptr t,int 0]/\l.map nilOwn=tpC m ⟨s,0,0,[],[]⟩/\M' t=some (.cells l)/\M' m=some (.map [])/\M.le M'):=by
 refine SoundCall.go tk9 pl9 mixed Tryz.func9 cb9 rfl (Nat.le_of_ble_eq_true rfl) ?_;refine Q0 ?_;refine Q31 ?_;refine Q20 ?_;refine o_call ((snd46 s _).det) goes46 (ac (v_raw rfl) ac_nil) rfl ?_;refine Q107 ?_;refine s_cond rfl (fun h1=>?_) (fun h1=>?_)
 ·have k1:=h1;try simp only [zs] at k1
  refine Q0 ?_;refine Q31 ?_;refine Q10 ?_;exact ret_many (.inl rfl) rfl (rl_t rfl (rl_t rfl rl_nil)) rfl (.inl ⟨by simpa using h1,rfl,zle⟩)
 ·have k1:=h1;try simp only [zs] at k1
  refine Q69 ?_;refine o_makeMap (fun B1 hB1=>?_);have m1:M B1=none:=zm hB1;refine o_q (q_b (cs:=[_,.raw (.int .i64 0),.raw (.int .i64 0),_,.raw (.slice none 0 0)]) bz87 bp87 (bf fo87_0 (e_raw rfl) rfl rfl (Nat.le_of_ble_eq_true rfl) rfl (bf fo87_3 (e_raw rfl) rfl rfl (Nat.le_of_ble_eq_true rfl) rfl bf_nil))) rfl rfl rfl ?_;refine o_box zbx rfl rfl (fun B2 hB2=>?_);have f1_2:B1≠B2:=Mem.fresh_ne hB2 mmQ;have g2_1:B2≠B1:=f1_2.symm;have m2:M B2=none:=zm hB2;refine Q31 ?_;refine Q2 ?_;exact ret_many (.inl rfl) rfl (rl_t rfl (rl_t rfl rl_nil)) rfl (.inr ⟨by simpa using h1,B2,B1,_,m2,m1,g2_1,rfl,rfl,mmQ,mmQ,zle⟩)
def tk26:Nat->Nat->Option Nat:=fun _ _=>none
def pl26:Nat->List PStep:=fun _=>[]
theorem cb26:Tryz.f26.body.map (codeB Tryz.prog Tryz.f26.ntmps tk26 pl26)=some true:=by kernel_rfl
theorem goes26:goesB Tryz.prog 26=true:=by kernel_rfl
theorem newT (s:ByteArray)(M:Mem)(hw:word s=true):SoundCall Tryz.prog 9 [str s] M fun r M'=>∃ t m,M t=none/\M m=none/\t≠m/\r = .tup [ptr t,int 0]/\M'=setTp M t m ⟨s,0,0,[],[]⟩ :=
 (snd9 s M).recast fun r M' h=>by
  rcases h with ⟨h,-⟩|⟨-,t,m,l,h1,h2,h3,h4,h5,h6,h7,h8⟩
  ·rw [hw] at h;cases h
  ·refine⟨_,Mem.imp_trans (Mem.imp_nil h6) (M'':=setTp M t m ⟨s,0,0,[],[]⟩) ?_,t,m,h1,h2,h3,h4,rfl⟩;intro b o hb;unfold setTp Mem.upd at hb;unfold Mem.upd;by_cases e:b=t
   ·rw [if_pos e] at hb ⊢;rw [h5];exact⟨_,rfl,by cases hb;exact⟨id,fun _ _ _ h=>h⟩⟩
   ·rw [if_neg e] at hb ⊢;by_cases e':b=m
    ·rw [if_pos e'] at hb;subst e';exact⟨_,h7,by cases hb;exact⟨id,fun _ _ _ h=>h⟩⟩
    ·rw [if_neg e'] at hb;exact⟨_,h8 b o hb,id,fun _ _ _ h=>h⟩
theorem snd26 (t m:Nat)(x:Tp)(M:Mem)(ht:M t=some (.cells (tpC m x)))(hm:M m=some (tpK x))(htm:t≠m):SoundCall Tryz.prog 26 [ptr t] M fun r M'=>r=int x.en/\M.le M':=by
 refine SoundCall.go tk26 pl26 mixed Tryz.func26 cb26 rfl (Nat.le_of_ble_eq_true rfl) ?_;refine Q18 ?_;refine Q70 fo87_2 ag3 sz3 ?_;refine Q2 ?_;exact⟨rfl,zle⟩
def tk25:Nat->Nat->Option Nat:=fun _ _=>none
def pl25:Nat->List PStep:=fun _=>[]
theorem cb25:Tryz.f25.body.map (codeB Tryz.prog Tryz.f25.ntmps tk25 pl25)=some true:=by kernel_rfl
theorem goes25:goesB Tryz.prog 25=true:=by kernel_rfl
theorem snd25 (t m:Nat)(x:Tp)(M:Mem)(ht:M t=some (.cells (tpC m x)))(hm:M m=some (tpK x))(htm:t≠m):SoundCall Tryz.prog 25 [ptr t] M fun r M'=>r=int x.low/\M.le M':=by
 refine SoundCall.go tk25 pl25 mixed Tryz.func25 cb25 rfl (Nat.le_of_ble_eq_true rfl) ?_;refine Q18 ?_;refine Q70 fo87_1 ag3 sz3 ?_;refine Q2 ?_;exact⟨rfl,zle⟩
def tk24:Nat->Nat->Option Nat:=fun _ _=>none
def pl24:Nat->List PStep:=fun _=>[]
theorem cb24:Tryz.f24.body.map (codeB Tryz.prog Tryz.f24.ntmps tk24 pl24)=some true:=by kernel_rfl
theorem goes24:goesB Tryz.prog 24=true:=by kernel_rfl
theorem snd24 (t m:Nat)(x:Tp)(M:Mem)(ht:M t=some (.cells (tpC m x)))(hm:M m=some (tpK x))(htm:t≠m):SoundCall Tryz.prog 24 [ptr t] M fun r M'=>r=str x.name/\M.le M':=by
 refine SoundCall.go tk24 pl24 mixed Tryz.func24 cb24 rfl (Nat.le_of_ble_eq_true rfl) ?_;refine Q18 ?_;refine Q70 fo87_0 ag9 sz9 ?_;refine Q2 ?_;exact⟨rfl,zle⟩
def tk12:Nat->Nat->Option Nat
 | 10,4=>some 0
 | _,_=>none
def pl12:Nat->List PStep
 | 9=>[.q 0,.q 1,.q 2,.q 3,.q 4,.q 5,.q 6,.q 7,.q 8,.q 9,.q 10,.q 11,.q 12,.s 13 []]
 | 10=>[.q 0,.q 1,.q 2,.q 3,.q 5,.q 6,.s 4 [6,5,2,1,0],.q 7,.q 8,.q 9,.s 10 [8]]
 | _=>[]
theorem cb12:Tryz.f12.body.map (codeB Tryz.prog Tryz.f12.ntmps tk12 pl12)=some true:=by kernel_rfl
theorem goes12:goesB Tryz.prog 12=true:=by kernel_rfl
theorem snd12a (t m:Nat)(x:Tp)(p:ByteArray)(seq:Int)(k v:ByteArray)(M:Mem)(ht:M t=some (.cells (tpC m x)))(hm:M m=some (tpK x))(htm:t≠m)(hen:0<=x.en/\x.en<2^62)(hlen:x.recs.length<2^40)(hb:(word p && right (newR x p seq k v))=false):SoundCall Tryz.prog 12 [ptr t,str p,int seq,str k,str v] M fun r M'=>r = .tup [int 0,int 7]/\M.le M':=by
 refine Q211 ?_;refine Q129 ?_;refine Q8 ?_;refine Q70 fo87_2 ag3 sz3 ?_;refine Q91 ?_;refine Q91 ?_;refine Q191 bz39 bp39 fo39_0 fo39_1 fo39_2 fo39_3 fo39_4 ?_;refine o_alloc zc39 (fun B1 hB1=>?_);have htm':=htm.symm;have n1:t≠B1:=Mem.fresh_ne hB1 ht;have n1':=n1.symm;have n2:m≠B1:=Mem.fresh_ne hB1 hm;have n2':=n2.symm;have m1:M B1=none:=zm hB1;refine Q54 sz39 ?_;refine Q4 ?_;refine Q212 ?_;refine Q92 ?_;refine o_cases (want:=false) (j:=3) rfl rfl (fun h1=>?_) (fun h1=>?_)
 ·have k1:=h1;try simp only [zs] at k1
  refine Q14 h1 ?_;refine Q50 ag39 sz39 ?_;refine Q14 h1 ?_;refine Q213 ?_;refine Q14 h1 ?_;refine Q119 ?_;refine Q33 h1 ?_;refine o_nil ?_;refine s_cond rfl (fun h2=>?_) (fun h2=>?_)
  ·have k2:=h2;try simp only [zs] at k2
   refine Q129 ?_;refine Q10 ?_;exact ret_many (.inl rfl) rfl (rl_t rfl (rl_t rfl rl_nil)) rfl ⟨rfl,zle⟩
  ·have k2:=h2;try simp only [zs] at k2
   exfalso;simp_all
 ·have k1:=h1;try simp only [zs] at k1
  refine Q53 h1 h1 ?_;refine Q155 h1 ?_;refine Q19 h1 ?_;refine Q71 ?_;refine Q129 ?_;refine Q10 ?_;exact ret_many (.inl rfl) rfl (rl_t rfl (rl_t rfl rl_nil)) rfl ⟨rfl,zle⟩
theorem snd12b (t m:Nat)(x:Tp)(p:ByteArray)(seq:Int)(k v:ByteArray)(M:Mem)(ht:M t=some (.cells (tpC m x)))(hm:M m=some (tpK x))(htm:t≠m)(hen:0<=x.en/\x.en<2^62)(hlen:x.recs.length<2^40)(hw:word p=true)(hr:right (newR x p seq k v)=true)(hg:kget x.kvs p=none):SoundCall Tryz.prog 12 [ptr t,str p,int seq,str k,str v] M fun r M'=>r = .tup [int x.en,int 0]/\(setTp M t m ⟨x.name,x.low,x.en+1,kput x.kvs p (seq,x.en,p),x.recs++[newR x p seq k v]⟩).le M':=by
 refine Q211 ?_;refine Q129 ?_;refine Q8 ?_;refine Q70 fo87_2 ag3 sz3 ?_;refine Q91 ?_;refine Q91 ?_;refine Q191 bz39 bp39 fo39_0 fo39_1 fo39_2 fo39_3 fo39_4 ?_;refine o_alloc zc39 (fun B1 hB1=>?_);have htm':=htm.symm;have n1:t≠B1:=Mem.fresh_ne hB1 ht;have n1':=n1.symm;have n2:m≠B1:=Mem.fresh_ne hB1 hm;have n2':=n2.symm;have m1:M B1=none:=zm hB1;refine Q54 sz39 ?_;refine Q4 ?_;refine Q212 ?_;refine Q92 ?_;refine Q168 ?_;refine Q50 ag39 sz39 ?_;refine Q168 ?_;refine Q213 ?_;refine Q168 ?_;refine Q119 ?_;refine Q243 ?_;refine o_nil ?_;refine s_else rfl (by simp [hr]) ?_;refine Q35 ?_;refine Q70 fo87_3 ag85 sz85 ?_;refine Q1 ?_;refine o_q (q_mget2 und85 kt9 z92 rfl rfl mmQ (show _=encL (0,0,emp) by rw [hg];rfl)) rfl rfl rfl ?_;refine Q80 ?_;refine o_alloc zc92 (fun B2 hB2=>?_);have n3:t≠B2:=Mem.fresh_ne hB2 mmQ;have n3':=n3.symm;have n4:m≠B2:=Mem.fresh_ne hB2 mmQ;have n4':=n4.symm;have f1_2:B1≠B2:=Mem.fresh_ne hB2 mmQ;have g2_1:B2≠B1:=f1_2.symm;have m2:M B2=none:=zm hB2;refine Q13 sz92 ?_;refine Q46 ?_;refine Q1 ?_;iterate 5 refine Q204 ?_
 refine o_q (q_pick_c (t:=false) rfl (by rw [hg];rfl) (v_raw rfl)) rfl rfl rfl ?_;refine Q141 ?_;refine Q29 ?_;refine Q122 fo87_3 ag85 sz85 ?_;refine Q5 ?_;refine Q5 ?_;refine Q147 ?_;refine Q122 fo87_2 ag3 sz3 ?_;refine Q214 bz90 bp90 fo90_0 fo90_1 ?_;refine Q5 ?_;refine Q270 bz92 bp92 fo92_0 fo92_1 ?_;refine Q3 ?_;refine o_mput und85 kt9 rfl rfl mmQ (f:=encL) (v:=(seq,x.en,p)) (v_agg rfl) ?_;refine o_nil ⟨(by simp [Mem.upd, *]),?_⟩;refine d_nil ?_;refine Q84 ?_;refine Q136 ?_;refine Q147 ?_;refine Q40 fo87_4 ?_;refine Q85 ag39 sz39 ?_;refine Q244 slt35 ?_;refine Q3 ?_;refine o_take rfl rfl mmQ rfl ag35 sz35 ?_;refine o_nil ⟨(by simp [Mem.upd, *]),?_⟩;refine Q271 slt35 ?_;refine d_q rfl (q_nil rfl) rfl rfl rfl ?_;refine Q40 fo87_4 ?_;refine Q3 ?_;refine Q162 sz35 ?_;refine o_nil ⟨(by simp [Mem.upd, *]),?_⟩;refine d_nil ?_;refine Q70 fo87_2 ag3 sz3 ?_;refine Q43 ?_;refine Q44 fo87_2 ?_;refine Q103 sz3 ?_;refine Q6 fo39_0 ag3 sz3 ?_;refine Q27 ?_;refine Q2 ?_;exact ret_many (.inl rfl) rfl (rl_t rfl (rl_t rfl rl_nil)) rfl ⟨rfl,le_tp (h1:=mmQ) mmQ (fun c o e1 e2 hc=>by repeat first|exact hc|refine Mem.upd_ne (by first|exact e1|exact e2|exact Mem.ne_none hc (by assumption)) ?_) (by show _=tpC m _;simp [tpC];rfl)⟩
theorem snd12c (t m:Nat)(x:Tp)(p:ByteArray)(seq:Int)(k v:ByteArray)(M:Mem)(ht:M t=some (.cells (tpC m x)))(hm:M m=some (tpK x))(htm:t≠m)(hen:0<=x.en/\x.en<2^62)(hlen:x.recs.length<2^40)(hw:word p=true)(hr:right (newR x p seq k v)=true)(l:Int×Int×ByteArray)(hg:kget x.kvs p=some l)(hlt:l.1<seq):SoundCall Tryz.prog 12 [ptr t,str p,int seq,str k,str v] M fun r M'=>r = .tup [int x.en,int 0]/\(setTp M t m ⟨x.name,x.low,x.en+1,kput x.kvs p (seq,x.en,p),x.recs++[newR x p seq k v]⟩).le M':=by
 refine Q211 ?_;refine Q129 ?_;refine Q8 ?_;refine Q70 fo87_2 ag3 sz3 ?_;refine Q91 ?_;refine Q91 ?_;refine Q191 bz39 bp39 fo39_0 fo39_1 fo39_2 fo39_3 fo39_4 ?_;refine o_alloc zc39 (fun B1 hB1=>?_);have htm':=htm.symm;have n1:t≠B1:=Mem.fresh_ne hB1 ht;have n1':=n1.symm;have n2:m≠B1:=Mem.fresh_ne hB1 hm;have n2':=n2.symm;have m1:M B1=none:=zm hB1;refine Q54 sz39 ?_;refine Q4 ?_;refine Q212 ?_;refine Q92 ?_;refine Q168 ?_;refine Q50 ag39 sz39 ?_;refine Q168 ?_;refine Q213 ?_;refine Q168 ?_;refine Q119 ?_;refine Q243 ?_;refine o_nil ?_;refine s_else rfl (by simp [hr]) ?_;refine Q35 ?_;refine Q70 fo87_3 ag85 sz85 ?_;refine Q1 ?_;refine o_q (q_mget2 und85 kt9 z92 rfl rfl mmQ (show _=encL l by rw [hg];rfl)) rfl rfl rfl ?_;refine Q80 ?_;refine o_alloc zc92 (fun B2 hB2=>?_);have n3:t≠B2:=Mem.fresh_ne hB2 mmQ;have n3':=n3.symm;have n4:m≠B2:=Mem.fresh_ne hB2 mmQ;have n4':=n4.symm;have f1_2:B1≠B2:=Mem.fresh_ne hB2 mmQ;have g2_1:B2≠B1:=f1_2.symm;have m2:M B2=none:=zm hB2;refine Q13 sz92 ?_;refine Q46 ?_;refine Q1 ?_;refine Q163 ?_;refine Q36 fo92_0 ?_;refine Q163 ?_;refine Q36 fo90_0 ?_;refine Q163 ?_;refine Q79 ag3 sz3 ?_;refine Q163 ?_;refine Q1 ?_;refine Q163 ?_;refine Q24 ?_;refine o_q (q_pick_c (t:=true) rfl (by rw [hg];rfl) (v_raw rfl)) rfl rfl rfl ?_;refine o_nil ?_;refine Q49 ?_;refine Q35 ?_;refine Q29 ?_;refine Q122 fo87_3 ag85 sz85 ?_;refine Q5 ?_;refine Q5 ?_;refine Q147 ?_;refine Q122 fo87_2 ag3 sz3 ?_;refine Q214 bz90 bp90 fo90_0 fo90_1 ?_;refine Q5 ?_;refine Q270 bz92 bp92 fo92_0 fo92_1 ?_;refine Q3 ?_;refine o_mput und85 kt9 rfl rfl mmQ (f:=encL) (v:=(seq,x.en,p)) (v_agg rfl) ?_;refine o_nil ⟨(by simp [Mem.upd, *]),?_⟩;refine d_nil ?_;refine Q84 ?_;refine Q136 ?_;refine Q147 ?_;refine Q40 fo87_4 ?_;refine Q85 ag39 sz39 ?_;refine Q244 slt35 ?_;refine Q3 ?_;refine o_take rfl rfl mmQ rfl ag35 sz35 ?_;refine o_nil ⟨(by simp [Mem.upd, *]),?_⟩;refine Q271 slt35 ?_;refine d_q rfl (q_nil rfl) rfl rfl rfl ?_;refine Q40 fo87_4 ?_;refine Q3 ?_;refine Q162 sz35 ?_;refine o_nil ⟨(by simp [Mem.upd, *]),?_⟩;refine d_nil ?_;refine Q70 fo87_2 ag3 sz3 ?_;refine Q43 ?_;refine Q44 fo87_2 ?_;refine Q103 sz3 ?_;refine Q6 fo39_0 ag3 sz3 ?_;refine Q27 ?_;refine Q2 ?_;exact ret_many (.inl rfl) rfl (rl_t rfl (rl_t rfl rl_nil)) rfl ⟨rfl,le_tp (h1:=mmQ) mmQ (fun c o e1 e2 hc=>by repeat first|exact hc|refine Mem.upd_ne (by first|exact e1|exact e2|exact Mem.ne_none hc (by assumption)) ?_) (by show _=tpC m _;simp [tpC];rfl)⟩
theorem snd12d (t m:Nat)(x:Tp)(p:ByteArray)(seq:Int)(k v:ByteArray)(M:Mem)(ht:M t=some (.cells (tpC m x)))(hm:M m=some (tpK x))(htm:t≠m)(hen:0<=x.en/\x.en<2^62)(hlen:x.recs.length<2^40)(hw:word p=true)(hr:right (newR x p seq k v)=true)(l:Int×Int×ByteArray)(hg:kget x.kvs p=some l)(hle':seq<=l.1):SoundCall Tryz.prog 12 [ptr t,str p,int seq,str k,str v] M fun r M'=>r = .tup [int (if seq=l.1 then l.2.1 else 0),int (if seq=l.1 then 0 else 6)]/\M.le M':=by
 refine Q211 ?_;refine Q129 ?_;refine Q8 ?_;refine Q70 fo87_2 ag3 sz3 ?_;refine Q91 ?_;refine Q91 ?_;refine Q191 bz39 bp39 fo39_0 fo39_1 fo39_2 fo39_3 fo39_4 ?_;refine o_alloc zc39 (fun B1 hB1=>?_);have htm':=htm.symm;have n1:t≠B1:=Mem.fresh_ne hB1 ht;have n1':=n1.symm;have n2:m≠B1:=Mem.fresh_ne hB1 hm;have n2':=n2.symm;have m1:M B1=none:=zm hB1;refine Q54 sz39 ?_;refine Q4 ?_;refine Q212 ?_;refine Q92 ?_;refine Q168 ?_;refine Q50 ag39 sz39 ?_;refine Q168 ?_;refine Q213 ?_;refine Q168 ?_;refine Q119 ?_;refine Q243 ?_;refine o_nil ?_;refine s_else rfl (by simp [hr]) ?_;refine Q35 ?_;refine Q70 fo87_3 ag85 sz85 ?_;refine Q1 ?_;refine o_q (q_mget2 und85 kt9 z92 rfl rfl mmQ (show _=encL l by rw [hg];rfl)) rfl rfl rfl ?_;refine Q80 ?_;refine o_alloc zc92 (fun B2 hB2=>?_);have n3:t≠B2:=Mem.fresh_ne hB2 mmQ;have n3':=n3.symm;have n4:m≠B2:=Mem.fresh_ne hB2 mmQ;have n4':=n4.symm;have f1_2:B1≠B2:=Mem.fresh_ne hB2 mmQ;have g2_1:B2≠B1:=f1_2.symm;have m2:M B2=none:=zm hB2;refine Q13 sz92 ?_;refine Q46 ?_;refine Q1 ?_;refine Q163 ?_;refine Q36 fo92_0 ?_;refine Q163 ?_;refine Q36 fo90_0 ?_;refine Q163 ?_;refine Q79 ag3 sz3 ?_;refine Q163 ?_;refine Q1 ?_;refine Q163 ?_;refine Q24 ?_;refine o_q (q_pick_c (t:=true) rfl (by rw [hg];rfl) (v_raw rfl)) rfl rfl rfl ?_;refine o_nil ?_;refine Q148 ?_;refine s_seq ?_;refine Q0 ?_;refine Q36 fo92_0 ?_;refine Q12 fo90_0 ag3 sz3 ?_;refine Q1 ?_;refine Q149 ?_;refine s_cond rfl (fun h1=>?_) (fun h1=>?_)
 ·have k1:=h1;try simp only [zs] at k1
  refine Q129 ?_;refine Q101 ?_;refine s_code_ret ?_;refine Q156 ?_;exact ret_many (.inl rfl) rfl (rl_t rfl (rl_t rfl rl_nil)) rfl ⟨by rw [if_neg (show ¬ seq=l.1 by omega),if_neg (show ¬ seq=l.1 by omega)];rfl,zle⟩
 ·have k1:=h1;try simp only [zs] at k1
  refine Q142 ?_;refine Q36 fo92_0 ?_;refine Q12 fo90_1 ag3 sz3 ?_;refine Q27 ?_;refine Q10 ?_;exact ret_many (.inl rfl) rfl (rl_t rfl (rl_t rfl rl_nil)) rfl ⟨by rw [if_pos (show seq=l.1 by omega),if_pos (show seq=l.1 by omega)];rfl,zle⟩
def tk100:Nat->Nat->Option Nat:=fun _ _=>none
def pl100:Nat->List PStep
 | 1=>[.q 0,.q 1,.q 2,.q 3,.q 4,.q 5,.q 6,.q 7,.q 8,.q 9,.q 10]
 | _=>[]
theorem cb100:Tryz.f100.body.map (codeB Tryz.prog Tryz.f100.ntmps tk100 pl100)=some true:=by kernel_rfl
theorem goes100:goesB Tryz.prog 100=true:=by kernel_rfl
theorem pub14 (t m:Nat)(x:Tp)(p:ByteArray)(seq:Int)(k v:ByteArray)(M:Mem)(ht:M t=some (.cells (tpC m x)))(hm:M m=some (tpK x))(htm:t≠m)(hen:0<=x.en/\x.en<2^62)(hlen:x.recs.length<2^40):SoundCall Tryz.prog 12 [ptr t,str p,int seq,str k,str v] M fun r M'=>r = .tup [int (pub x p seq k v).2.1,int (pub x p seq k v).2.2]/\M'=setTp M t m (pub x p seq k v).1:=by
 have same:setTp M t m x=M:=setTp_same ht hm htm;cases hc:(word p && right (newR x p seq k v)) with
 | false =>
  have e:pub x p seq k v=(x,0,7):=by unfold pub;rw [hc];rfl
  rw [e];dsimp only;rw [same];exact (snd12a t m x p seq k v M ht hm htm hen hlen hc).det
 | true =>
  have hw:word p=true:=by simp at hc;exact hc.1
  have hr:right (newR x p seq k v)=true:=by simp at hc;exact hc.2
  cases hg:kget x.kvs p with
  | none =>
   have e:pub x p seq k v=(⟨x.name,x.low,x.en+1,kput x.kvs p (seq,x.en,p),x.recs++[newR x p seq k v]⟩,x.en,0):=by unfold pub;rw [hc,hg];rfl
   rw [e];exact (snd12b t m x p seq k v M ht hm htm hen hlen hw hr hg).leaves
  | some l =>
   by_cases h1:l.1<seq
   ·have e:pub x p seq k v=(⟨x.name,x.low,x.en+1,kput x.kvs p (seq,x.en,p),x.recs++[newR x p seq k v]⟩,x.en,0):=by
     unfold pub;rw [hc,hg];simp only [if_true];rw [if_neg (by omega),if_neg (by omega)]
    rw [e];exact (snd12c t m x p seq k v M ht hm htm hen hlen hw hr l hg h1).leaves
   ·have h:=(snd12d t m x p seq k v M ht hm htm hen hlen hw hr l hg (by omega)).det;by_cases h2:seq=l.1
    ·have e:pub x p seq k v=(x,l.2.1,0):=by
      unfold pub;rw [hc,hg];simp only [if_true];rw [if_neg (by omega),if_pos h2]
     rw [e];dsimp only;rw [same];rw [if_pos h2,if_pos h2] at h;exact h
    ·have e:pub x p seq k v=(x,0,6):=by
      unfold pub;rw [hc,hg];simp only [if_true];rw [if_pos (by omega)]
     rw [e];dsimp only;rw [same];rw [if_neg h2,if_neg h2] at h;exact h
theorem snd100 (i:Nat)(c1 c2 t m:Nat)(x:Tp)(off:Int)(M:Mem)(h1:M c1=some (.cells [ptr t]))(h2:M c2=some (.cells [int off]))(ht:M t=some (.cells (tpC m x)))(hi:i<x.recs.length):SoundCall Tryz.prog 100 [int i,ptr c1,ptr c2] M fun r M'=>r=bool (decide (off<=x.recs[i].off))/\M.le M':=by
 refine SoundCall.go tk100 pl100 mixed Tryz.func100 cb100 rfl (Nat.le_of_ble_eq_true rfl) ?_;refine Q18 ?_;refine Q84 ?_;refine d_q rfl (q_ldm ag24 sz24 rfl mmQ rfl (mvQ)) rfl rfl rfl ?_;refine d_q rfl (q_nil rfl) rfl rfl rfl ?_;refine Q40 fo87_4 ?_;refine Q169 ag35 sz35 ?_;refine Q5 ?_;refine Q205 und35 sz39 ?_;refine Q93 fo39_0 ?_;refine Q215 ag3 sz3 ?_;refine d_q rfl (q_ldm ag3 sz3 rfl mmQ rfl (v_raw rfl)) rfl rfl rfl ?_;refine d_q rfl (q_geq rfl rfl) rfl rfl rfl ?_;refine Q60 ?_;refine Q104 ?_;exact⟨rfl,zle⟩
def tk99:Nat->Nat->Option Nat:=fun _ _=>none
def pl99:Nat->List PStep:=fun _=>[]
theorem cb99:Tryz.f99.body.map (codeB Tryz.prog Tryz.f99.ntmps tk99 pl99)=some true:=by kernel_rfl
theorem goes99:goesB Tryz.prog 99=true:=by kernel_rfl
theorem le_of_eq_le {a b c:Int}(h:a=b)(h':c<=b):c<=a:=by omega
theorem lt_of_eq_lt {a b c:Int}(h:a=b)(h':b<c):a<c:=by omega
theorem wrapu64 {a:Int}(h1:0<=a)(h2:a<2^64):IntKind.u64.wrap a=a:=by
 simp only [IntKind.wrap,IntKind.signed,IntKind.bits];simp;omega
theorem snd99 (c1 c2 n r:Nat)(p:Nat->Bool)(M:Mem)(hn:n<2^60)(hf:∀ i,i<n->SoundCall Tryz.prog 100 [int i,ptr c1,ptr c2] M fun q M'=>q=bool (p i)/\M'=M)(hr:r<=n)(h0:∀ i,i<r->p i=false)(h1':∀ i,r<=i->i<n->p i=true):SoundCall Tryz.prog 99 [int n,.raw (.func (.func 100) #[] #[.pointer (some ⟨c1,0,none⟩),.pointer (some ⟨c2,0,none⟩)])] M fun q M'=>q=int r/\M.le M':=by
 refine SoundCall.go tk99 pl99 mixed Tryz.func99 cb99 rfl (Nat.le_of_ble_eq_true rfl) ?_;refine Q18 ?_;refine Q7 ?_;refine Q27 ?_;refine Q123 ?_;refine s_block ?_;refine s_loop (fun m S=>∃ T,∃ i j:Nat,S=⟨setT (setT (setT T 1 (.raw (.func (.func 100) #[] #[.pointer (some ⟨c1,0,none⟩),.pointer (some ⟨c2,0,none⟩)]))) 5 (int i)) 6 (int j),M⟩/\i<=r/\r<=j/\j<=n/\m=j - i) n ?_ ?_
 ·exact⟨_,0,n,St.mkT (kp (kp (kp rfl rfl) rfl) rfl).symm,by omega,hr,by omega,by omega⟩
 rintro m S ⟨T,i,j,rfl,hi,hj,hjn,rfl⟩;refine Q4 ?_;refine Q1 ?_;refine Q41 ?_;refine s_cond rfl (fun h1=>?_) (fun h1=>?_)
 ·have k1:=h1;try simp only [zs] at k1
  have e2:(2:Int)^1=2:=rfl;have hh:((i:Int)+(j:Int)) / 2^1=(((i+j) / 2:Nat):Int):=by rw [e2];omega
  have hb1:0<=((i:Int)+(j:Int)) / 2^1:=by rw [hh];omega
  have hb2:((i:Int)+(j:Int)) / 2^1<2^61:=by rw [hh];omega
  have hh1:i<=(i+j) / 2:=by omega
  have hh2:(i+j) / 2<j:=by omega
  refine s_skip ?_;refine s_block ?_;refine Q7 ?_;refine Q1 ?_;refine Q43 ?_;refine o_q (q_i2i und3 und238 rfl (wrapu64 (by omega) (by omega))) rfl rfl rfl ?_;refine o_q (q_shr rfl rfl (by decide)) rfl rfl rfl ?_;refine o_q (q_i2i und238 und3 rfl (wrap64 (le_of_eq_le hh (by omega)) (lt_of_eq_lt hh (by omega)))) rfl rfl rfl ?_;refine Q46 ?_;refine Q1 ?_;refine o_callv rfl ((by rw [hh];exact hf ((i+j) / 2) (by omega))) goes100 (ac (v_raw rfl) ac_nil) rfl rfl ?_;rintro q M'' ⟨rfl,rfl⟩;refine Q107 ?_;refine s_cond rfl (fun h2=>?_) (fun h2=>?_)
  ·have k2:=h2;try simp only [zs] at k2
   refine Q130 ?_;refine o_q (q_add rfl rfl (wrap64 (by rw [show _ / _=_ from hh];omega) (by rw [show _ / _=_ from hh];omega))) rfl rfl rfl ?_;refine Q94 ?_;refine s_inv ?_;have hp:p ((i+j) / 2)=false:=by simpa using k2
   have hlt:(i+j) / 2<r:=by
    rcases Nat.lt_or_ge ((i+j) / 2) r with h|h
    ·exact h
    ·rw [h1' _ h (by omega)] at hp;cases hp
   exact⟨j - ((i+j) / 2+1),by omega,_,(i+j) / 2+1,j,St.mkT (kp (kp (kp rfl rfl) (show _=int (((i+j) / 2+1:Nat):Int) from congrArg int (by rw [hh];rfl))) rfl).symm,by omega,hj,hjn,rfl⟩
  ·have k2:=h2;try simp only [zs] at k2
   refine Q130 ?_;refine Q94 ?_;refine s_inv ?_;have hp:p ((i+j) / 2)=true:=by simpa using k2
   have hge:r<=(i+j) / 2:=by
    rcases Nat.lt_or_ge ((i+j) / 2) r with h|h
    ·rw [h0 _ h] at hp;cases hp
    ·exact h
   exact⟨(i+j) / 2 - i,by omega,_,i,(i+j) / 2,St.mkT (kp (kp (kp rfl rfl) rfl) (show _=int (((i+j) / 2:Nat):Int) from congrArg int hh)).symm,hi,hge,by omega,rfl⟩
 ·have k1:=h1;try simp only [zs] at k1
  refine Q26 ?_;refine Q7 ?_;refine Q2 ?_;obtain rfl:i=r:=by omega
  exact⟨rfl,zle⟩
def tk50:Nat->Nat->Option Nat:=fun _ _=>none
def pl50:Nat->List PStep:=fun _=>[]
theorem cb50:Tryz.f50.body.map (codeB Tryz.prog Tryz.f50.ntmps tk50 pl50)=some true:=by kernel_rfl
theorem goes50:goesB Tryz.prog 50=true:=by kernel_rfl
def Sorted (l:List Rec):Prop:=l.Pairwise fun a b=>a.off<b.off
def atN (l:List Rec)(off:Int):Nat:=(l.takeWhile fun r=>decide (r.off<off)).length
theorem atN_le (l:List Rec)(off:Int):atN l off<=l.length:=List.Sublist.length_le (List.takeWhile_sublist _)
theorem atN_lt {l:List Rec}{off:Int}{i:Nat}(h:i<atN l off):∃ hi:i<l.length,l[i].off<off:=by
 have hi:=Nat.lt_of_lt_of_le h (atN_le l off);refine⟨hi,?_⟩;unfold atN at h;have h1:(l.takeWhile fun r=>decide (r.off<off))[i]=l[i]:=by
  have:=(List.takeWhile_prefix (l:=l) (fun r=>decide (r.off<off)));exact List.IsPrefix.getElem this h
 have h2:(l.takeWhile fun r=>decide (r.off<off))[i]∈l.takeWhile fun r=>decide (r.off<off):=List.getElem_mem _
 have h3:=List.all_takeWhile (l:=l) (p:=fun r=>decide (r.off<off));have h4:=List.all_eq_true.1 h3 _ h2;rw [h1] at h4;exact of_decide_eq_true h4
theorem atN_ge {l:List Rec}{off:Int}(hs:Sorted l){i:Nat}(h:atN l off<=i)(hi:i<l.length):off<=l[i].off:=by
 have ha:atN l off<l.length:=by omega
 have h1:¬ l[atN l off].off<off:=by
  intro hlt;have e:l=l.take (atN l off)++l[atN l off]::l.drop (atN l off+1):=by rw [List.getElem_cons_drop,List.take_append_drop]
  have htw:l.takeWhile (fun r=>decide (r.off<off))=l.take (atN l off):=by
   have:=List.takeWhile_prefix (l:=l) (fun r=>decide (r.off<off));exact (List.prefix_iff_eq_take.1 this)
  have h2:(l.takeWhile fun r=>decide (r.off<off)).length > atN l off:=by
   rw [e,List.takeWhile_append_of_pos]
   ·rw [List.takeWhile_cons_of_pos (by simpa using hlt)];simp;omega
   ·intro a ha';rw [← htw] at ha';exact List.all_eq_true.1 (List.all_takeWhile (l:=l) (p:=fun r=>decide (r.off<off))) a ha'
  unfold atN at h2;omega
 rcases Nat.eq_or_lt_of_le h with e|e
 ·subst e;omega
 ·have:=List.pairwise_iff_getElem.1 hs (atN l off) i ha hi e;omega
theorem snd50 (t m:Nat)(x:Tp)(off:Int)(M:Mem)(ht:M t=some (.cells (tpC m x)))(hs:Sorted x.recs)(hlen:x.recs.length<2^40):SoundCall Tryz.prog 50 [ptr t,int off] M fun r M'=>r=int (atN x.recs off)/\M.le M':=by
 refine SoundCall.go tk50 pl50 mixed Tryz.func50 cb50 rfl (Nat.le_of_ble_eq_true rfl) ?_;refine Q0 ?_;refine o_box zbx rfl rfl (fun B1 hB1=>?_);have ct1:t≠B1:=Mem.fresh_ne hB1 mmQ;have ct1':=ct1.symm;have m1:M B1=none:=zm hB1;refine o_box zbx rfl rfl (fun B2 hB2=>?_);have ct2:t≠B2:=Mem.fresh_ne hB2 mmQ;have ct2':=ct2.symm;have f1_2:B1≠B2:=Mem.fresh_ne hB2 mmQ;have g2_1:B2≠B1:=f1_2.symm;have m2:M B2=none:=zm hB2;refine Q8 ?_;refine Q0 ?_;refine o_q (q_ldm ag24 sz24 rfl mmQ rfl (mvQ)) rfl rfl rfl ?_;refine Q44 fo87_4 ?_;refine Q124 ag35 sz35 ?_;refine Q75 und35 ?_;refine o_q (q_mkf2 rfl rfl) rfl rfl rfl ?_;refine o_call ((snd99 B1 B2 (x.recs.map enc).length (atN x.recs off) (fun i=>if h:i<x.recs.length then decide (off<=x.recs[i].off) else false) _ (by rw [List.length_map];omega) (fun i hi=>by rw [List.length_map] at hi;simp only [hi,dif_pos];exact (snd100 i B1 B2 t m x off _ mmQ mmQ mmQ hi).det) (by rw [List.length_map];exact atN_le _ _) (fun i hi=>by obtain⟨h1,h2⟩:=atN_lt hi;simp only [h1,dif_pos];exact decide_eq_false (by omega)) (fun i hi h=>by rw [List.length_map] at h;simp only [h,dif_pos];exact decide_eq_true (atN_ge hs hi h))).det) goes99 (ac (v_raw rfl) (ac (v_raw rfl) ac_nil)) rfl ?_;refine Q2 ?_;exact⟨rfl,zle⟩
def tk51:Nat->Nat->Option Nat
 | 0,0=>some 0
 | 2,0=>some 0
 | 3,3=>some 0
 | _,_=>none
def pl51:Nat->List PStep:=fun _=>[]
theorem cb51:Tryz.f51.body.map (codeB Tryz.prog Tryz.f51.ntmps tk51 pl51)=some true:=by kernel_rfl
theorem goes51:goesB Tryz.prog 51=true:=by kernel_rfl
theorem snd51 (l:List Rec)(o:Bool)(M:Mem)(hl:l.length<2^40):SoundCall Tryz.prog 51 [.sl (l.map enc) o] M fun r M'=>r = .sl (l.map enc) true/\M'=M:=by
 refine SoundCall.go tk51 pl51 mixed Tryz.func51 cb51 rfl (Nat.le_of_ble_eq_true rfl) ?_;refine Q0 ?_;refine Q86 ?_;refine Q11 ?_;refine Q63 ?_;refine o_nilcmp und35 rfl rfl (.inl rfl) (fun nh1 h1n=>?_);refine o_nil ?_;refine s_cond rfl (fun h2=>?_) (fun h2=>?_)
 ·have k2:=h2;try simp only [zs] at k2
  obtain rfl:l=[]:=by
   rcases l with _|⟨a,l⟩
   ·rfl
   ·have:=h1n (by simp);subst this;cases h2
  refine Q0 ?_;refine Q86 ?_;refine o_nil ?_;refine s_ret ?_;refine Q156 ?_;exact⟨rfl,rfl⟩
 ·have k2:=h2;try simp only [zs] at k2
  refine Q142 ?_;refine o_q (q_bs slt35 pn rfl Els.nil (by decide)) rfl rfl rfl ?_;refine Q76 ?_;refine o_qs (q_app slt35 rfl rfl rfl rfl (by first|exact Els.nil|exact elsR) (by first|exact (by first|exact Els.nil|exact elsR)|exact Els.cons rfl rfl Els.nil) (by simp;omega)) rfl rfl rfl rfl ?_;refine Q87 ?_;refine Q104 ?_;exact⟨rfl,rfl⟩
def tk14:Nat->Nat->Option Nat
 | 0,0=>some 0
 | 2,8=>some 0
 | _,_=>none
def pl14:Nat->List PStep
 | 1=>[.q 0,.q 1,.q 2,.q 3,.q 4,.q 5,.s 6 [3,2,1,0],.q 7,.q 8]
 | _=>[]
theorem cb14:Tryz.f14.body.map (codeB Tryz.prog Tryz.f14.ntmps tk14 pl14)=some true:=by kernel_rfl
theorem goes14:goesB Tryz.prog 14=true:=by kernel_rfl
def readL (l:List Rec)(off most:Int):List Rec:=(l.drop (atN l off)).take (max most 0).toNat
theorem q_sl_lo {T:Nat->AVal}{M:Mem}{x y:Operand}{dst:Option Nat}{ty:TypeId}{pos:String}{af:Array Edge}{g:Option (Nat×Bool)}{α:Type}{f:α->AVal}{st e:TypeId}{sz n:Nat}{l:List α}{own:Bool}(hu:Tryz.prog.underlying st=some (.slice e))(hs:sizeT Tryz.prog e=some sz)(hx:ev T x = .sl (l.map f) own)(hl:Els sz (l.map f))
 (hlo:aBound T 0 (some y)=some n) (h1:n<=l.length):qstep Tryz.prog none (mkO dst (.slice st x (some y) none none) ty pos af g) T M=some (⟨none,.sl ((l.drop n).map f) false⟩,[]):=by
 have h:=q_slice (dst:=dst) (ty:=ty) (pos:=pos) (af:=af) (g:=g) (M:=M) hu hs hx hl hlo ab_none (by rw [List.length_map];exact h1) (Nat.le_refl _);rw [List.take_length,← List.map_drop] at h;exact h
theorem q_sl_hi {T:Nat->AVal}{M:Mem}{x y:Operand}{dst:Option Nat}{ty:TypeId}{pos:String}{af:Array Edge}{g:Option (Nat×Bool)}{α:Type}{f:α->AVal}{st e:TypeId}{sz n:Nat}{l:List α}{own:Bool}(hu:Tryz.prog.underlying st=some (.slice e))(hs:sizeT Tryz.prog e=some sz)(hx:ev T x = .sl (l.map f) own)(hl:Els sz (l.map f))
 (hhi:aBound T (l.map f).length (some y)=some n) (h1:n<=l.length):qstep Tryz.prog none (mkO dst (.slice st x none (some y) none) ty pos af g) T M=some (⟨none,.sl ((l.take n).map f) false⟩,[]):=by
 have h:=q_slice (dst:=dst) (ty:=ty) (pos:=pos) (af:=af) (g:=g) (M:=M) hu hs hx hl ab_none hhi (Nat.zero_le _) (by rw [List.length_map];exact h1);rw [List.drop_zero,← List.map_take] at h;exact h
theorem take_min (l:List Rec)(n:Int):l.take (min (max n 0) (l.length:Int)).toNat=l.take (max n 0).toNat:=by
 rcases Nat.lt_or_ge (max n 0).toNat l.length with h|h
 ·congr 1;omega
 ·rw [List.take_of_length_le h,List.take_of_length_le (by omega)]
theorem readL_len (l:List Rec)(off most:Int):(readL l off most).length<=l.length:=by
 unfold readL;rw [List.length_take,List.length_drop];omega
theorem snd14 (t m:Nat)(x:Tp)(off most:Int)(M:Mem)(ht:M t=some (.cells (tpC m x)))(hs:Sorted x.recs)(hlen:x.recs.length<2^40):SoundCall Tryz.prog 14 [ptr t,int off,int most] M fun r M'=>r = .sl ((readL x.recs off most).map enc) true/\M'=M:=by
 have hat:=atN_le x.recs off;refine SoundCall.go tk14 pl14 mixed Tryz.func14 cb14 rfl (Nat.le_of_ble_eq_true rfl) ?_;refine Q0 ?_;refine Q86 ?_;refine Q11 ?_;refine Q29 ?_;refine Q40 fo87_4 ?_;refine Q169 ag35 sz35 ?_;refine Q136 ?_;refine Q5 ?_;refine Q3 ?_;refine o_call ((snd50 t m x off _ ht hs hlen).det) goes50 (ac (mvQ) (ac (v_raw rfl) ac_nil)) rfl ?_;refine o_nil ⟨(by simp [Mem.upd, *]),?_⟩;refine Q245 und35 sz39 ?_;refine d_q rfl (q_as (v_sl rfl)) rfl rfl rfl ?_;refine d_nil ?_;refine Q63 ?_;refine Q1 ?_;refine o_q (q_max rfl rfl) rfl rfl rfl ?_;refine Q131 und35 ?_;refine o_q (q_min rfl rfl) rfl rfl rfl ?_;refine Q272 und35 sz39 ?_;refine o_call ((snd51 _ false _ (by simp;omega))) goes51 (ac (v_sl rfl) ac_nil) rfl ?_;refine Q87 ?_;refine Q104 ?_;exact⟨congrArg (fun l=>AVal.sl (List.map enc l) true) (take_min _ _),rfl⟩
def tk17:Nat->Nat->Option Nat:=fun _ _=>none
def pl17:Nat->List PStep
 | 4=>[.q 0,.q 1,.q 2,.q 3,.q 4,.q 5,.q 6,.s 7 [4,3,2,1,0],.q 8,.s 9 [6,5,4,3,2,1,0],.q 10,.q 11,.s 12 [10]]
 | _=>[]
theorem cb17:Tryz.f17.body.map (codeB Tryz.prog Tryz.f17.ntmps tk17 pl17)=some true:=by kernel_rfl
theorem goes17:goesB Tryz.prog 17=true:=by kernel_rfl
def trimT (x:Tp)(n:Int):Tp×Int:=if x.en<n then (x,7) else if x.low<n then (⟨x.name,n,x.en,x.kvs,x.recs.drop (atN x.recs n)⟩,0) else (x,0)
theorem snd17 (t m:Nat)(x:Tp)(n:Int)(M:Mem)(ht:M t=some (.cells (tpC m x)))(hm:M m=some (tpK x))(htm:t≠m)(hs:Sorted x.recs)(hlen:x.recs.length<2^40):SoundCall Tryz.prog 17 [ptr t,int n] M fun r M'=>r=int (trimT x n).2/\(setTp M t m (trimT x n).1).le M':=by
 have hat:=atN_le x.recs n;have htm':=htm.symm;have same:setTp M t m x=M:=setTp_same ht hm htm;refine SoundCall.go tk17 pl17 mixed Tryz.func17 cb17 rfl (Nat.le_of_ble_eq_true rfl) ?_;refine Q18 ?_;refine Q4 ?_;refine Q22 ?_;refine Q81 fo87_2 ag3 sz3 ?_;refine Q149 ?_;refine s_cond rfl (fun h1=>?_) (fun h1=>?_)
 ·have k1:=h1;try simp only [zs] at k1
  refine Q0 ?_;refine Q10 ?_;unfold trimT;rw [if_pos (by omega),same];exact⟨rfl,Mem.le_refl _⟩
 ·have k1:=h1;try simp only [zs] at k1
  refine s_skip ?_;refine Q4 ?_;refine Q22 ?_;refine Q81 fo87_1 ag3 sz3 ?_;refine Q149 ?_;refine s_cond rfl (fun h2=>?_) (fun h2=>?_)
  ·have k2:=h2;try simp only [zs] at k2
   refine Q84 ?_;refine Q136 ?_;refine Q147 ?_;refine Q40 fo87_4 ?_;refine Q169 ag35 sz35 ?_;refine Q136 ?_;refine Q5 ?_;refine Q3 ?_;refine o_call ((snd50 t m x n _ ht hs hlen).det) goes50 (ac (mvQ) (ac (v_raw rfl) ac_nil)) rfl ?_;refine o_nil ⟨(by simp [Mem.upd, *]),?_⟩;refine Q245 und35 sz39 ?_;refine Q3 ?_;refine o_call ((snd51 _ false _ (by simp;omega))) goes51 (ac (v_sl rfl) ac_nil) rfl ?_;refine o_nil ⟨(by simp [Mem.upd, *]),?_⟩;refine d_q rfl (q_nil rfl) rfl rfl rfl ?_;refine Q40 fo87_4 ?_;refine Q3 ?_;refine Q162 sz35 ?_;refine o_nil ⟨(by simp [Mem.upd, *]),?_⟩;refine d_nil ?_;refine Q15 ?_;refine Q22 ?_;refine Q1 ?_;refine Q44 fo87_1 ?_;refine Q82 sz3 ?_;refine Q42 ?_;refine Q2 ?_;unfold trimT;rw [if_neg (by omega),if_pos (by omega)];exact⟨rfl,le_tp (h1:=mmQ) mmQ (fun c o e1 e2 hc=>by repeat first|exact hc|refine Mem.upd_ne (by first|exact e1|exact e2|exact Mem.ne_none hc (by assumption)) ?_) rfl⟩
  ·have k2:=h2;try simp only [zs] at k2
   refine Q142 ?_;refine Q2 ?_;unfold trimT;rw [if_neg (by omega),if_neg (by omega),same];exact⟨rfl,Mem.le_refl _⟩
def tk101:Nat->Nat->Option Nat
 | 0,0=>some 0
 | 0,1=>some 0
 | 11,0=>some 0
 | 11,5=>some 0
 | 12,0=>some 0
 | 12,4=>some 0
 | 14,0=>some 0
 | 14,1=>some 0
 | 14,2=>some 0
 | 14,3=>some 0
 | _,_=>none
def pl101:Nat->List PStep:=fun _=>[]
theorem cb101:Tryz.f101.body.map (codeB Tryz.prog Tryz.f101.ntmps tk101 pl101)=some true:=by kernel_rfl
theorem goes101:goesB Tryz.prog 101=true:=by kernel_rfl
theorem snd101 (l:List Rec)(upto:Int)(o:Bool)(M:Mem)(hl:l.length*64<=2^47):SoundCall Tryz.prog 101 [.sl (l.map enc) o,.raw (.int .i64 upto)] M fun r M'=>r = .tup [.sl ((keepN l upto l.length).map enc) true,.sl ((goneN l upto l.length).map encI) true]/\M.le M':=by
 refine SoundCall.go tk101 pl101 mixed Tryz.func101 cb101 rfl (Nat.le_of_ble_eq_true rfl) ?_;refine Q0 ?_;refine Q86 ?_;refine Q86 ?_;refine Q42 ?_;refine o_makeMap (fun B1 hB1=>?_);refine Q123 ?_;refine Q63 ?_;refine Q75 und35 ?_;refine Q1 ?_;refine Q68 ?_;refine s_loop (fun m S=>∃ T,∃ M':Mem,∃ kvs,∃ i:Nat,S=⟨setT (setT (setT (setT (setT (setT (setT (setT T 0 (.sl (l.map enc) o)) 1 (.raw (.int .i64 upto))) 4 (.sl [] true)) 5 (.sl [] true)) 6 (.raw (.map (some B1)))) 12 (.sl (l.map enc) false)) 13 (.raw (.int .i64 l.length))) 14 (.raw (.int .i64 i)),M'⟩/\M.le M'/\M' B1=some (.map (ents Value.string encN kvs))/\(∀ key,kget kvs key=lastN l key i)/\i<=l.length/\m=l.length - i) l.length ?_ ?_
 ·exact⟨_,_,[],0,St.mkT (kp (kp (kp (kp (kp (kp (kp (kp rfl rfl) rfl) rfl) rfl) rfl) rfl) (by show AVal.raw (.int .i64 ((l.map enc).length:Int))=_;rw [List.length_map])) rfl).symm,Mem.le_upd (Mem.le_refl M) hB1,Mem.upd_self _ _ _,fun _=>rfl,by omega,rfl⟩
 rintro m S ⟨T,M',kvs,i,rfl,hle,hB,hkvs,hi,rfl⟩;refine Q0 ?_;refine Q59 ?_;refine Q11 ?_;refine s_cond rfl (fun h1=>?_) (fun h1=>?_)
 ·have k1:=h1;try simp only [zs] at k1
  refine Q55 ?_;refine Q7 ?_;refine Q137 und35 sz39 ?_;refine Q176 ag39 sz39 ?_;refine o_alloc zc39 (fun B2 hB2=>?_);have n2:B1≠B2:=ne_fresh hB2 hB;refine Q27 ?_;refine Q54 sz39 ?_;refine Q130 ?_;refine Q12 fo39_3 ag9 sz9 ?_;refine Q1 ?_;refine o_mput und239 kt9 rfl rfl mmQ (v:=i) (f:=encN) (v_raw rfl) ?_;refine o_nil ?_;refine Q72 ?_;refine Q15 ?_;refine Q43 ?_;refine Q1 ?_;refine Q114 ?_;refine⟨l.length - (i+1),by omega,_,_,kput kvs l[i].key i,i+1,St.mkT (kp (kp (kp (kp (kp (kp (kp (kp rfl rfl) rfl) rfl) rfl) rfl) rfl) rfl) rfl).symm,Mem.le_upd (Mem.le_upd (Mem.le_upd hle (Mem.none_of_le hle hB2)) (Mem.none_of_le hle hB2)) hB1,Mem.upd_self _ _ _,fun key=>?_,by omega,rfl⟩;rw [kget_kput,hkvs];show _=if (l.getD i default).key=key then some i else lastN l key i
  rw [getD_lt (by omega)];by_cases e:key=l[i].key
  ·rw [if_pos e,if_pos e.symm]
  ·rw [if_neg e,if_neg fun h=>e h.symm]
 ·have k1:=h1;try simp only [zs] at k1
  refine Q26 ?_;refine s_seq ?_;refine Q63 ?_;refine Q75 und35 ?_;refine Q1 ?_;refine Q68 ?_;refine s_loop (fun m S=>∃ T,∃ M':Mem,∃ kvs,∃ i:Nat,S=⟨setT (setT (setT (setT (setT (setT (setT (setT T 0 (.sl (l.map enc) o)) 1 (.raw (.int .i64 upto))) 4 (.sl ((keepN l upto i).map enc) true)) 5 (.sl ((goneN l upto i).map encI) true)) 6 (.raw (.map (some B1)))) 24 (.sl (l.map enc) false)) 25 (.raw (.int .i64 l.length))) 26 (.raw (.int .i64 i)),M'⟩/\M.le M'/\M' B1=some (.map (ents Value.string encN kvs))/\(∀ key,kget kvs key=lastN l key l.length)/\i<=l.length/\m=l.length - i) l.length ?_ ?_
  ·have hil:i=l.length:=by omega
   subst hil;exact⟨_,_,kvs,0,St.mkT (kp (kp (kp (kp (kp (kp (kp (kp rfl rfl) rfl) rfl) rfl) rfl) rfl) (by show AVal.raw (.int .i64 ((l.map enc).length:Int))=_;rw [List.length_map])) rfl).symm,hle,hB,hkvs,by omega,rfl⟩
  rintro m S ⟨T,M',kvs,i,rfl,hle,hB,hkvs,hi,rfl⟩;have hlen:=keepN_len l upto i;have hlen2:=goneN_len l upto i;refine Q0 ?_;refine Q59 ?_;refine Q11 ?_;refine s_cond rfl (fun h2=>?_) (fun h2=>?_)
  ·have k2:=h2;try simp only [zs] at k2
   refine Q55 ?_;refine Q7 ?_;refine Q137 und35 sz39 ?_;refine Q176 ag39 sz39 ?_;refine o_alloc zc39 (fun B3 hB3=>?_);have n3:B1≠B3:=ne_fresh hB3 hB;refine Q27 ?_;refine Q54 sz39 ?_;refine s_seq ?_;refine Q6 fo39_3 ag9 sz9 ?_;refine Q175 ?_;refine Q1 ?_;refine o_cases (want:=true) (j:=3) rfl rfl (fun h3=>?_) (fun h3=>?_)
   ·have k3:=h3;try simp only [zs] at k3
    refine Q32 h3 h3 ?_;refine Q246 fo39_3 h3 ?_;refine Q121 ag9 sz9 h3 ?_;refine o_q (q_mget und239 kt9 z3 rfl rfl mmQ (show _=AVal.raw (.int .i64 (((lastN l l[i].key l.length).getD 0:Nat):Int)) by rw [hkvs];exact lookN _)) rfl rfl rfl ?_;refine Q32 h3 h3 ?_;refine Q61 ?_;refine Q19 h3 ?_;refine Q1 ?_;refine o_cases (want:=true) (j:=11) rfl rfl (fun h4=>?_) (fun h4=>?_)
    ·have k4:=h4;try simp only [zs] at k4
     refine Q74 h4 fo39_0 h4 ?_;refine Q79 ag3 sz3 ?_;refine Q32 h4 h4 ?_;refine Q59 ?_;refine Q19 h4 ?_;refine o_nil ?_;refine s_cond rfl (fun h5=>?_) (fun h5=>?_)
     ·have k5:=h5;try simp only [zs] at k5
      refine Q0 ?_;refine Q38 ?_;refine Q12 fo39_0 ag3 sz3 ?_;refine Q183 slt118 ?_;refine o_qs (q_app slt118 rfl rfl rfl rfl elsI (by first|exact elsI|exact Els.cons rfl rfl Els.nil) (by simp;omega)) rfl rfl rfl rfl ?_;refine Q87 ?_;refine s_exit ?_;refine s_code_exit ?_;refine s_blk_here ?_;refine Q15 ?_;refine Q43 ?_;refine Q1 ?_;refine Q114 ?_;have hs:=(last_gt (by omega) k3).1 k4;refine⟨l.length - (i+1),by omega,_,_,_,i+1,St.mkT (kp (kp (kp (kp (kp (kp (kp (kp rfl rfl) rfl) (by show _=AVal.sl _ true;rw [keepN_succ l upto (by omega),if_neg (by simp [hs];omega),List.append_nil];rfl)) (app_map (f:=encI) (by rw [goneN_succ l upto (by omega),if_pos (by simp [hs];omega)]))) rfl) rfl) rfl) rfl).symm,Mem.le_upd (Mem.le_upd hle (Mem.none_of_le hle hB3)) (Mem.none_of_le hle hB3),by repeat first|exact Mem.upd_self _ _ _|assumption|refine Mem.upd_ne (by assumption) ?_,hkvs,by omega,rfl⟩
     ·have k5:=h5;try simp only [zs] at k5
      refine s_skip ?_;refine Q15 ?_;refine Q38 ?_;refine Q50 ag39 sz39 ?_;refine Q143 slt35 ?_;refine Q192 slt35 ?_;refine Q87 ?_;refine Q72 ?_;refine Q15 ?_;refine Q43 ?_;refine Q1 ?_;refine Q114 ?_;refine⟨l.length - (i+1),by omega,_,_,_,i+1,St.mkT (kp (kp (kp (kp (kp (kp (kp (kp rfl rfl) rfl) (app_map (by rw [keepN_succ l upto (by omega),if_pos (by simp;right;omega)]))) (by show _=AVal.sl _ true;rw [goneN_succ l upto (by omega),if_neg (by simp;intro _;omega),List.append_nil];rfl)) rfl) rfl) rfl) rfl).symm,Mem.le_upd (Mem.le_upd hle (Mem.none_of_le hle hB3)) (Mem.none_of_le hle hB3),by repeat first|exact Mem.upd_self _ _ _|assumption|refine Mem.upd_ne (by assumption) ?_,hkvs,by omega,rfl⟩
    ·have k4:=h4;try simp only [zs] at k4
     refine Q48 h4 h4 h4 h4 ?_;refine Q33 h4 ?_;refine Q115 ?_;refine s_skip ?_;refine Q15 ?_;refine Q38 ?_;refine Q50 ag39 sz39 ?_;refine Q143 slt35 ?_;refine Q192 slt35 ?_;refine Q87 ?_;refine Q72 ?_;refine Q15 ?_;refine Q43 ?_;refine Q1 ?_;refine Q114 ?_;have hs:superB l i=false:=by rw [Bool.eq_false_iff];exact fun h=>k4 ((last_gt (by omega) k3).2 h)
     refine⟨l.length - (i+1),by omega,_,_,_,i+1,St.mkT (kp (kp (kp (kp (kp (kp (kp (kp rfl rfl) rfl) (app_map (by rw [keepN_succ l upto (by omega),if_pos (by simp [hs])]))) (by show _=AVal.sl _ true;rw [goneN_succ l upto (by omega),if_neg (by simp [hs]),List.append_nil];rfl)) rfl) rfl) rfl) rfl).symm,Mem.le_upd (Mem.le_upd hle (Mem.none_of_le hle hB3)) (Mem.none_of_le hle hB3),by repeat first|exact Mem.upd_self _ _ _|assumption|refine Mem.upd_ne (by assumption) ?_,hkvs,by omega,rfl⟩
   ·have k3:=h3;try simp only [zs] at k3
    refine Q48 h3 h3 h3 h3 ?_;refine Q53 h3 h3 ?_;refine Q33 h3 ?_;refine Q28 ?_;refine Q65 ?_;refine Q37 ?_;refine Q115 ?_;refine s_skip ?_;refine Q15 ?_;refine Q38 ?_;refine Q50 ag39 sz39 ?_;refine Q143 slt35 ?_;refine Q192 slt35 ?_;refine Q87 ?_;refine Q72 ?_;refine Q15 ?_;refine Q43 ?_;refine Q1 ?_;refine Q114 ?_;have hs:superB l i=false:=by rw [Bool.eq_false_iff];exact fun h=>((superB_iff (by omega)).1 h).1 k3
    refine⟨l.length - (i+1),by omega,_,_,_,i+1,St.mkT (kp (kp (kp (kp (kp (kp (kp (kp rfl rfl) rfl) (app_map (by rw [keepN_succ l upto (by omega),if_pos (by simp [hs])]))) (by show _=AVal.sl _ true;rw [goneN_succ l upto (by omega),if_neg (by simp [hs]),List.append_nil];rfl)) rfl) rfl) rfl) rfl).symm,Mem.le_upd (Mem.le_upd hle (Mem.none_of_le hle hB3)) (Mem.none_of_le hle hB3),by repeat first|exact Mem.upd_self _ _ _|assumption|refine Mem.upd_ne (by assumption) ?_,hkvs,by omega,rfl⟩
  ·have k2:=h2;try simp only [zs] at k2
   refine Q26 ?_;refine Q0 ?_;refine Q38 ?_;refine Q38 ?_;refine Q164 ?_;refine Q87 ?_;refine Q104 ?_;have hil:i=l.length:=by omega
   subst hil;exact⟨rfl,hle⟩
def tk52:Nat->Nat->Option Nat
 | 0,0=>some 0
 | 1,3=>some 0
 | 1,4=>some 0
 | 1,6=>some 0
 | 2,0=>some 0
 | 2,1=>some 0
 | _,_=>none
def pl52:Nat->List PStep:=fun _=>[]
theorem cb52:Tryz.f52.body.map (codeB Tryz.prog Tryz.f52.ntmps tk52 pl52)=some true:=by kernel_rfl
theorem goes52:goesB Tryz.prog 52=true:=by kernel_rfl
theorem snd52 (l:List Rec)(upto:Int)(o:Bool)(M:Mem)(hl:l.length*64<=2^47):SoundCall Tryz.prog 52 [.sl (l.map enc) o,int upto] M fun r M'=>r = .sl ((keepN l upto l.length).map enc) true/\M'=M:=by
 refine SoundCall.go tk52 pl52 mixed Tryz.func52 cb52 rfl (Nat.le_of_ble_eq_true rfl) ?_;refine Q0 ?_;refine Q86 ?_;refine Q42 ?_;refine Q76 ?_;refine Q1 ?_;refine o_call ((snd101 l upto false M hl).det) goes101 (ac (v_sl rfl) (ac (v_raw rfl) ac_nil)) rfl ?_;refine Q38 ?_;refine o_ext rfl rfl rfl rfl ?_;refine Q177 ?_;refine Q164 ?_;refine Q23 ?_;refine Q42 ?_;refine Q38 ?_;refine Q87 ?_;refine Q104 ?_;exact⟨rfl,rfl⟩
def tk19:Nat->Nat->Option Nat:=fun _ _=>none
def pl19:Nat->List PStep:=fun _=>[]
theorem cb19:Tryz.f19.body.map (codeB Tryz.prog Tryz.f19.ntmps tk19 pl19)=some true:=by kernel_rfl
theorem goes19:goesB Tryz.prog 19=true:=by kernel_rfl
def compT (x:Tp)(n:Int):Tp:=⟨x.name,x.low,x.en,x.kvs,keepN x.recs n x.recs.length⟩
theorem snd19 (t m:Nat)(x:Tp)(n:Int)(M:Mem)(ht:M t=some (.cells (tpC m x)))(hm:M m=some (tpK x))(htm:t≠m)(hlen:x.recs.length<2^40):SoundCall Tryz.prog 19 [ptr t,int n] M fun r M'=>r=int 0/\(setTp M t m (compT x n)).le M':=by
 have htm':=htm.symm;refine SoundCall.go tk19 pl19 mixed Tryz.func19 cb19 rfl (Nat.le_of_ble_eq_true rfl) ?_;refine Q18 ?_;refine Q17 ?_;refine Q62 fo87_4 ?_;refine Q116 ag35 sz35 ?_;refine o_call ((snd52 x.recs n false M (by omega))) goes52 (ac (v_sl rfl) (ac (v_raw rfl) ac_nil)) rfl ?_;refine Q44 fo87_4 ?_;refine Q162 sz35 ?_;refine Q42 ?_;refine Q2 ?_;exact⟨rfl,le_tp (h1:=mmQ) mmQ (fun c o e1 e2 hc=>by repeat first|exact hc|refine Mem.upd_ne (by first|exact e1|exact e2|exact Mem.ne_none hc (by assumption)) ?_) rfl⟩
end C17
