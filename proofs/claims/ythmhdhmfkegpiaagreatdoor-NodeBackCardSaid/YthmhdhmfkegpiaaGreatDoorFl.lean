import Derived.Test.YthmhdhmfkegpiaaGreatDoorHz
import Derived.Test.YthmhdhmfkegpiaaGreatDoorAmC
open Go Go.Am
set_option linter.unusedVariables false
set_option linter.unusedSimpArgs false
namespace Fl
def F (n:Int):Nat:=FloatKind.f64.nearest n
def Is' (d:Ieee.Datum)(n:Int):Prop:=∃ (s:Bool) (k:Nat),d = .number s (n.natAbs*2^k) (-(k:Int))/\(n≠0->s=decide (n<0))
def Is (d:Ieee.Datum)(n:Int):Prop:=∃ k:Nat,d = .number (decide (n<0)) (n.natAbs*2^k) (-(k:Int))
theorem Is.is' {d:Ieee.Datum}{n:Int}(h:Is d n):Is' d n:=by
 obtain⟨k,h⟩:=h;exact⟨_,k,h,fun _=>rfl⟩
theorem log2_pow {N k:Nat}(h:N≠0):(N*2^k).log2=N.log2+k:=by
 have h1:=(Nat.log2_eq_iff (n:=N) (k:=N.log2) h).1 rfl;have hp:0<2^k:=Nat.pow_pos (by decide);refine (Nat.log2_eq_iff (Nat.mul_ne_zero h (by omega))).2 ⟨?_,?_⟩
 ·rw [Nat.pow_add];exact Nat.mul_le_mul_right _ h1.1
 ·rw [show N.log2+k+1=N.log2+1+k by omega,Nat.pow_add];exact (Nat.mul_lt_mul_right hp).2 h1.2
theorem log2_le {N:Nat}(h:N≠0)(hN:N<2^53):N.log2<=52:=by
 have:=(Nat.log2_lt h (k:=53)).2 hN;omega
theorem cut_pow {way:Ieee.Toward}{s:Bool}{N k:Nat}(h:N≠0):way.cut s (N*2^k) k=N:=by
 unfold Ieee.Toward.cut;have hk:min k ((N*2^k).log2+2)=k:=by rw [log2_pow h];omega
 rw [hk,Nat.one_shiftLeft];have hp:0<2^k:=Nat.pow_pos (by decide);simp only [Nat.mul_div_cancel _ hp,Nat.mul_mod_left];have hne:¬ 2^k=0:=by omega
 cases way<;>simp [hne]
theorem cut_zero {way:Ieee.Toward}{s:Bool}{k:Nat}:way.cut s 0 k=0:=by
 unfold Ieee.Toward.cut;cases way<;>simp<;>(simp [Nat.one_shiftLeft])<;>(try (have:0<2^(min k 2):=Nat.pow_pos (by decide);omega))
def rung (N:Nat):Nat:=(1074 - (52 - N.log2))*4503599627370496+N*2^(52 - N.log2)
theorem scaled {N:Nat}(h:N≠0)(hN:N<2^53):2^52<=N*2^(52 - N.log2)/\N*2^(52 - N.log2)<2^53:=by
 have hl:=log2_le h hN;have h1:=(Nat.log2_eq_iff (n:=N) (k:=N.log2) h).1 rfl;have hp:0<2^(52 - N.log2):=Nat.pow_pos (by decide);constructor
 ·have:=Nat.mul_le_mul_right (2^(52 - N.log2)) h1.1;rw [← Nat.pow_add,show N.log2+(52 - N.log2)=52 by omega] at this;exact this
 ·have:=(Nat.mul_lt_mul_right hp).2 h1.2;rw [← Nat.pow_add,show N.log2+1+(52 - N.log2)=53 by omega] at this;exact this
theorem nearest_eq {s:Bool}{N k:Nat}(h:N≠0)(hN:N<2^53):Ieee.double.nearest s (N*2^k) (-(k:Int))=Ieee.double.word s (rung N):=by
 have hl:=log2_le h hN;obtain⟨hs1,hs2⟩:=scaled h hN;have hp:0<2^k:=Nat.pow_pos (by decide);unfold Ieee.Format.nearest;rw [if_neg (Nat.mul_ne_zero h (by omega)),log2_pow h];have e0:Ieee.double.leastPlace = -1074:=by decide
 have e1:Ieee.double.fractionBits=52:=rfl;have e2:Ieee.double.binade=4503599627370496:=by decide
 have e3:Ieee.double.infRung=2047*4503599627370496:=by decide
 rw [e0,e1,e2,e3];have elast:max (-(k:Int)+((N.log2+k:Nat):Int) - (52:Nat)) (-1074)=(N.log2:Int) - 52:=by
  push_cast
  omega
 simp only [elast];have ekept:Ieee.Toward.even.cut s ((N*2^k) <<< (-(k:Int) - ((N.log2:Int) - 52)).toNat) ((N.log2:Int) - 52 - -(k:Int)).toNat=N*2^(52 - N.log2):=by
  rw [Nat.shiftLeft_eq];by_cases hk:k<=52 - N.log2
  ·have a1:(-(k:Int) - ((N.log2:Int) - 52)).toNat=52 - N.log2 - k:=by omega
   have a2:((N.log2:Int) - 52 - -(k:Int)).toNat=0:=by omega
   rw [a1,a2,Nat.mul_assoc,← Nat.pow_add,show k+(52 - N.log2 - k)=52 - N.log2 by omega];have:=cut_pow (way:=.even) (s:=s) (N:=N*2^(52 - N.log2)) (k:=0) (Nat.mul_ne_zero h (by have:0<2^(52 - N.log2):=Nat.pow_pos (by decide);omega));rw [Nat.pow_zero,Nat.mul_one] at this;exact this
  ·have a1:(-(k:Int) - ((N.log2:Int) - 52)).toNat=0:=by omega
   have a2:((N.log2:Int) - 52 - -(k:Int)).toNat=k - (52 - N.log2):=by omega
   rw [a1,a2,Nat.pow_zero,Nat.mul_one];have e:N*2^k=N*2^(52 - N.log2)*2^(k - (52 - N.log2)):=by
    rw [Nat.mul_assoc,← Nat.pow_add,show 52 - N.log2+(k - (52 - N.log2))=k by omega]
   rw [e];exact cut_pow (Nat.mul_ne_zero h (by have:0<2^(52 - N.log2):=Nat.pow_pos (by decide);omega))
 rw [ekept];congr 1;have e4:((N.log2:Int) - 52 - -1074).toNat=1074 - (52 - N.log2):=by omega
 rw [e4];unfold rung;rw [Nat.min_eq_left];omega
theorem F_eq {n:Int}(h:n≠0)(hn:n.natAbs<2^53):F n=Ieee.double.word (decide (n<0)) (rung n.natAbs):=by
 have:=nearest_eq (s:=decide (n<0)) (N:=n.natAbs) (k:=0) (by omega) hn;rw [Nat.pow_zero,Nat.mul_one] at this;exact this
theorem F_zero:F 0=0:=by decide
theorem Is.write {d:Ieee.Datum}{n:Int}(h:Is d n)(hn:n.natAbs<2^53):Ieee.double.write d=F n:=by
 obtain⟨k,rfl⟩:=h;by_cases h0:n=0
 ·subst h0;rw [F_zero];show Ieee.double.nearest (decide ((0:Int)<0)) (0*2^k) _=0
  rw [Nat.zero_mul];unfold Ieee.Format.nearest;rw [if_pos rfl];decide
 ·rw [F_eq h0 hn];exact nearest_eq (by omega) hn
theorem read_F {n:Int}(hn:n.natAbs<2^53):Is (Ieee.double.read (F n)) n:=by
 by_cases h0:n=0
 ·subst h0;rw [F_zero];refine⟨1074,?_⟩;have e:Ieee.double.read 0 = .number false 0 (-1074):=by decide
  rw [e];simp only [Int.natAbs_zero,Nat.zero_mul];rfl
 ·rw [F_eq h0 hn];have hN:n.natAbs≠0:=by omega
  have hl:=log2_le hN hn;obtain⟨hs1,hs2⟩:=scaled hN hn;refine⟨52 - n.natAbs.log2,?_⟩;have e0:Ieee.double.leastPlace = -1074:=by decide
  have e2:Ieee.double.binade=4503599627370496:=by decide
  have e3:Ieee.double.infRung=2047*4503599627370496:=by decide
  have e4:Ieee.double.signWeight=9223372036854775808:=by decide
  generalize hX:n.natAbs*2^(52 - n.natAbs.log2)=X at hs1 hs2;generalize hL:52 - n.natAbs.log2=L;have hL':L<=52:=by omega
  have hr:rung n.natAbs=(1074 - L)*4503599627370496+X:=by unfold rung;rw [hX,hL]
  have hX':n.natAbs*2^L=X:=by rw [← hL];exact hX
  rw [hr];first|rw [hX']|skip
  have key:∀ s:Bool,Ieee.double.word s ((1074 - L)*4503599627370496+X) / 9223372036854775808 % 2=s.toNat/\Ieee.double.word s ((1074 - L)*4503599627370496+X) % 9223372036854775808=(1074 - L)*4503599627370496+X:=fun s=>by
   unfold Ieee.Format.word;rw [e4];cases s
   ·simp only [Bool.false_eq_true,if_false,Bool.toNat_false];omega
   ·simp only [if_true,Bool.toNat_true];omega
  obtain⟨k1,k2⟩:=key (decide (n<0));unfold Ieee.Format.read;rw [e0,e2,e3,e4];simp only [k1,k2];rw [if_neg (by omega),if_pos (by omega)];have a1:4503599627370496+((1074 - L)*4503599627370496+X) % 4503599627370496=X:=by omega
  have a2:(-1074+((((1074 - L)*4503599627370496+X) / 4503599627370496 - 1:Nat):Int)) = -(L:Int):=by omega
  rw [a1,a2];cases decide (n<0)<;>rfl
theorem signed_eq {n:Int}{s:Bool}{k j:Nat}(hs:n≠0->s=decide (n<0)):Ieee.signed s (n.natAbs*2^k) j=n*2^(k+j):=by
 unfold Ieee.signed;rw [Nat.shiftLeft_eq,Nat.mul_assoc,← Nat.pow_add];by_cases h:n=0
 ·subst h;cases s<;>simp
 ·rw [hs h];by_cases hneg:n<0
  ·simp only [hneg,decide_true,if_true]
   push_cast
   rw [show ((n.natAbs:Int)) = -n by omega];rw [Int.neg_mul,Int.neg_neg]
  ·simp only [hneg,decide_false,Bool.false_eq_true,if_false]
   push_cast
   rw [show ((n.natAbs:Int))=n by omega]
theorem sum_is {d e:Ieee.Datum}{a b:Int}(hd:Is d a)(he:Is' e b):∃ r,d.sum e=some r/\Is r (a+b):=by
 obtain⟨i,rfl⟩:=hd;obtain⟨t,j,rfl,ht⟩:=he;refine⟨_,rfl,max i j,?_⟩;have e0:min (-(i:Int)) (-(j:Int)) = -((max i j:Nat):Int):=by omega
 simp only [e0];have e1:(-(i:Int) - -((max i j:Nat):Int)).toNat=max i j - i:=by omega
 have e2:(-(j:Int) - -((max i j:Nat):Int)).toNat=max i j - j:=by omega
 rw [e1,e2,signed_eq (fun _=>rfl),signed_eq ht,show i+(max i j - i)=max i j by omega,show j+(max i j - j)=max i j by omega,← Int.add_mul];have hp:(0:Int)<2^max i j:=Int.pow_pos (by decide);congr 1
 ·by_cases h:a+b=0
  ·rw [h];simp only [Int.zero_mul,if_true];by_cases ha:a=0
   ·subst ha;simp
   ·rw [ht (by omega)];simp;omega
  ·have hne:(a+b)*2^max i j≠0:=Int.mul_ne_zero h (by omega);rw [if_neg hne];congr 1;apply propext;constructor
   ·intro h';apply Decidable.byContradiction;intro hn;have:=Int.mul_nonneg (by omega:0<=a+b) (Int.le_of_lt hp);omega
   ·intro h';exact Int.mul_neg_of_neg_of_pos h' hp
 ·rw [Int.natAbs_mul];congr 1
theorem neg_is {d:Ieee.Datum}{a:Int}(h:Is d a):Is' d.opposite (-a):=by
 obtain⟨k,rfl⟩:=h;refine⟨!decide (a<0),k,by simp [Ieee.Datum.opposite],fun hne=>?_⟩;by_cases h:a<0
 ·simp [h];omega
 ·simp [h];omega
theorem prod_is {d e:Ieee.Datum}{a b:Int}(hd:Is d a)(he:Is e b)(ha:0<=a)(hb:0<=b):∃ r,d.product e=some r/\Is r (a*b):=by
 obtain⟨i,rfl⟩:=hd;obtain⟨j,rfl⟩:=he;refine⟨_,rfl,i+j,?_⟩;have h1:=Int.mul_nonneg ha hb;have e1:¬ a<0:=by omega
 have e2:¬ b<0:=by omega
 have e3:¬ a*b<0:=by omega
 simp only [e1,e2,e3,decide_false,Bool.xor_self];congr 1
 ·rw [Int.natAbs_mul,Nat.pow_add];simp only [Nat.mul_comm,Nat.mul_left_comm,Nat.mul_assoc]
 ·push_cast;omega
theorem toInt_is {d:Ieee.Datum}{a:Int}(h:Is d a):d.toInt .zero=some a:=by
 obtain⟨k,rfl⟩:=h;unfold Ieee.Datum.toInt Ieee.Datum.integral;have e1:(-(k:Int)).toNat=0:=by omega
 have e2:(-(-(k:Int))).toNat=k:=by omega
 simp only [e1,e2,Nat.shiftLeft_zero];congr 1;by_cases h0:a=0
 ·subst h0;simp only [Int.natAbs_zero,Nat.zero_mul,cut_zero];cases decide ((0:Int)<0)<;>rfl
 ·rw [cut_pow (by omega)];have:=signed_eq (n:=a) (s:=decide (a<0)) (k:=0) (j:=0) (fun _=>rfl);simpa using this
theorem add_F {a b:Int}(ha:a.natAbs<2^53)(hb:b.natAbs<2^53)(hc:(a+b).natAbs<2^53):FloatKind.f64.format.add (F a) (F b)=some (F (a+b)):=by
 obtain⟨r,h1,h2⟩:=sum_is (read_F ha) (read_F hb).is';show ((Ieee.double.read (F a)).sum (Ieee.double.read (F b))).map Ieee.double.write=_
 rw [h1,Option.map_some,h2.write hc]
theorem sub_F {a b:Int}(ha:a.natAbs<2^53)(hb:b.natAbs<2^53)(hc:(a - b).natAbs<2^53):FloatKind.f64.format.sub (F a) (F b)=some (F (a - b)):=by
 obtain⟨r,h1,h2⟩:=sum_is (read_F ha) (neg_is (read_F hb));show ((Ieee.double.read (F a)).sum (Ieee.double.read (F b)).opposite).map Ieee.double.write=_
 rw [h1,Option.map_some];have:a + -b=a - b:=by omega
 rw [this] at h2;rw [h2.write hc]
theorem mul_F {a b:Int}(ha:0<=a/\a<2^53)(hb:0<=b/\b<2^53)(hc:a*b<2^53):FloatKind.f64.format.mul (F a) (F b)=some (F (a*b)):=by
 obtain⟨r,h1,h2⟩:=prod_is (read_F (n:=a) (by omega)) (read_F (n:=b) (by omega)) ha.1 hb.1;show ((Ieee.double.read (F a)).product (Ieee.double.read (F b))).map Ieee.double.write=_
 have:=Int.mul_nonneg ha.1 hb.1;rw [h1,Option.map_some,h2.write (by omega)]
def cx (a b:Int):AVal:=.raw (.complex .f64 (F a) (F b))
def fl (a:Int):AVal:=.raw (.float .f64 (F a))
section
variable {P:Program}{T:Nat->AVal}{M:Mem}{dst:Option Nat}{x y z:Operand}{v:Value}{ty t₁ t₂:TypeId}{pos:String}{af:Array Edge}{g:Option (Nat×Bool)}{a b c d:Int}{k:IntKind}
theorem pr_farith {op:BinOp}{r:Nat}{x y:Nat}(h:(match op with | .add=>some (FloatKind.f64.format.add x y) | .sub=>some (FloatKind.f64.format.sub x y) | .mul=>some (FloatKind.f64.format.mul x y) | _=>none)=some (some r)):pr P (Op.floatArith op .f64 x y)=some (.float .f64 r):=by
 unfold Op.floatArith;cases op<;>simp only [reduceCtorEq,Option.some.injEq] at h<;>(show pr P (pure _ >>= _)=_;rw [pr_b,pr_pure,Option.bind_some,h];rfl)
theorem pr_carith {op:BinOp}{r:Nat}{x y:Nat}(h:(match op with | .add=>some (FloatKind.f64.format.add x y) | .sub=>some (FloatKind.f64.format.sub x y) | .mul=>some (FloatKind.f64.format.mul x y) | _=>none)=some (some r)):pr P (Op.Complex.arith op .f64 x y)=some r:=by
 unfold Op.Complex.arith;rw [pr_b,pr_farith h];rfl
theorem q_fadd (hx:ev T x=fl a)(hy:ev T y=fl b)(h:a.natAbs<2^53/\b.natAbs<2^53/\(a+b).natAbs<2^53):qstep P none (mkO dst (.binOp .add t₁ x y t₂) ty pos af g) T M=some (⟨none,fl (a+b)⟩,[]):=by
 refine q_bin' hx hy ?_;show (pr P (Op.floatArith .add .f64 (F a) (F b))).map AVal.raw=_
 rw [pr_farith (r:=F (a+b)) (by simp only [add_F h.1 h.2.1 h.2.2])];rfl
theorem q_cadd (hx:ev T x=cx a b)(hy:ev T y=cx c d)(h1:a.natAbs<2^53/\c.natAbs<2^53/\(a+c).natAbs<2^53)(h2:b.natAbs<2^53/\d.natAbs<2^53/\(b+d).natAbs<2^53):qstep P none (mkO dst (.binOp .add t₁ x y t₂) ty pos af g) T M=some (⟨none,cx (a+c) (b+d)⟩,[]):=by
 refine q_bin' hx hy ?_;have e:pr P (Op.complexOp .add .f64 (F a) (F b) (F c) (F d))=some (.complex .f64 (F (a+c)) (F (b+d))):=by
  show pr P (Op.Complex.arith .add .f64 (F a) (F c) >>= fun r=>Op.Complex.arith .add .f64 (F b) (F d) >>= fun i=>pure _)=_
  rw [pr_b,pr_carith (r:=F (a+c)) (by simp only [add_F h1.1 h1.2.1 h1.2.2]),Option.bind_some,pr_b,pr_carith (r:=F (b+d)) (by simp only [add_F h2.1 h2.2.1 h2.2.2])];rfl
 show (pr P (Op.complexOp .add .f64 (F a) (F b) (F c) (F d))).map AVal.raw=_
 rw [e];rfl
def Low (a:Int):Prop:=0<=a/\a<67108864
theorem q_cmul (hx:ev T x=cx a b)(hy:ev T y=cx c d)(ha:Low a)(hb:Low b)(hc:Low c)(hd:Low d):qstep P none (mkO dst (.binOp .mul t₁ x y t₂) ty pos af g) T M=some (⟨none,cx (a*c - b*d) (a*d+b*c)⟩,[]):=by
 refine q_bin' hx hy ?_;have bnd:∀ {u v:Int},Low u->Low v->0<=u*v/\u*v<4503599627370496:=fun {u v} hu hv=>by
  refine⟨Int.mul_nonneg hu.1 hv.1,?_⟩;have h1:u*v<=67108863*67108863:=Int.mul_le_mul (by have:=hu.2;omega) (by have:=hv.2;omega) hv.1 (by decide);omega
 have m:∀ {u v:Int},Low u->Low v->pr P (Op.Complex.arith .mul .f64 (F u) (F v))=some (F (u*v)):=fun {u v} hu hv =>
  pr_carith (by simp only [mul_F ⟨hu.1,by have:=hu.2;omega⟩ ⟨hv.1,by have:=hv.2;omega⟩ (by have:=(bnd hu hv).2;omega)])
 have b1:=bnd ha hc;have b2:=bnd hb hd;have b3:=bnd ha hd;have b4:=bnd hb hc;have e:pr P (Op.complexOp .mul .f64 (F a) (F b) (F c) (F d))=some (.complex .f64 (F (a*c - b*d)) (F (a*d+b*c))):=by
  have e1:pr P (Op.Complex.product (F a) (F b) (F c) (F d))=some (F (a*c - b*d),F (a*d+b*c)):=by
   show pr P (Op.Complex.arith .mul .f64 (F a) (F c) >>= fun p=>Op.Complex.arith .mul .f64 (F b) (F d) >>= fun q=>Op.Complex.arith .sub .f64 p q >>= fun r=>Op.Complex.arith .mul .f64 (F a) (F d) >>= fun p=>Op.Complex.arith .mul .f64 (F b) (F c) >>= fun q=>Op.Complex.arith .add .f64 p q >>= fun i=>pure (r,i))=_
   rw [pr_b,m ha hc,Option.bind_some,pr_b,m hb hd,Option.bind_some,pr_b,pr_carith (r:=F (a*c - b*d)) (by simp only [sub_F (a:=a*c) (b:=b*d) (by omega) (by omega) (by omega)]),Option.bind_some,pr_b,m ha hd,Option.bind_some,pr_b,m hb hc,Option.bind_some,pr_b,
    pr_carith (r:=F (a*d+b*c)) (by simp only [add_F (a:=a*d) (b:=b*c) (by omega) (by omega) (by omega)])];rfl
  show pr P (Op.Complex.product (F a) (F b) (F c) (F d) >>= fun ef=>_)=_
  rw [pr_b,e1];rfl
 show (pr P (Op.complexOp .mul .f64 (F a) (F b) (F c) (F d))).map AVal.raw=_
 rw [e];rfl
theorem conv_i2f {s d':TypeId}{ts:TypeDesc}(hs:P.underlying s=some ts)(hd:P.underlying d'=some (.float .f64))(n:Int):pr P (convert s d' (.int k n))=some (.float .f64 (F n)):=by
 show pr P ((underlying s) >>= _)=_
 rw [pr_b,pr_underlying hs,Option.bind_some,pr_b,pr_underlying hd];cases ts<;>rfl
theorem q_i2f {s d':TypeId}{ts:TypeDesc}(hs:P.underlying s=some ts)(hd:P.underlying d'=some (.float .f64))(hx:ev T x = .raw (.int k a)):qstep P none (mkO dst (.convert s d' x) ty pos af g) T M=some (⟨none,fl a⟩,[]):=by
 simp only [qstep,aop,hx,aConvert,conv_i2f hs hd,Option.map_some,readsOf,AVal.shut,AVal.shut1,fl]
theorem conv_f2i {s d':TypeId}{ts:TypeDesc}(hs:P.underlying s=some ts)(hd:P.underlying d'=some (.int .i64)){n:Int}(hn:n.natAbs<2^53):pr P (convert s d' (.float .f64 (F n)))=some (.int .i64 n):=by
 show pr P ((underlying s) >>= _)=_
 rw [pr_b,pr_underlying hs,Option.bind_some,pr_b,pr_underlying hd];have e:pr P (Conv.floatToInt .f64 (F n) .i64)=some (.int .i64 n):=by
  unfold Conv.floatToInt;have h1:((FloatKind.f64.decode (F n)).toInt .zero)=some n:=toInt_is (read_F hn);dsimp only;rw [h1];have h2:IntKind.i64.min<=n/\n<=IntKind.i64.max:=by
   simp only [IntKind.min,IntKind.max,IntKind.signed,IntKind.bits];simp only [if_true];constructor<;>omega
  dsimp only;rw [if_pos h2];rfl
 cases ts<;>exact e
theorem q_f2i {s d':TypeId}{ts:TypeDesc}(hs:P.underlying s=some ts)(hd:P.underlying d'=some (.int .i64))(hx:ev T x=fl a)(hn:a.natAbs<2^53):qstep P none (mkO dst (.convert s d' x) ty pos af g) T M=some (⟨none,.raw (.int .i64 a)⟩,[]):=by
 have hx':ev T x = .raw (.float .f64 (F a)):=hx;simp only [qstep,aop,hx',aConvert,conv_f2i hs hd hn,Option.map_some,readsOf,AVal.shut,AVal.shut1]
theorem q_real {ats:Array TypeId}(hx:ev T x=cx a b):qstep P none (mkO dst (.call { callee:=.builtin .real,args:=#[x],argTypes:=ats }) ty pos af g) T M=some (⟨none,fl a⟩,[]):=by
 have e:aop P T M ty (.call { callee:=.builtin .real,args:=#[x],argTypes:=ats })=some (fl a):=by
  have hx':ev T x = .raw (.complex .f64 (F a) (F b)):=hx;simp only [aop,List.map,aBuiltin,hx',rawsOf,List.mapM_cons,rawOf];rfl
 show (aop P T M ty (.call { callee:=.builtin .real,args:=#[x],argTypes:=ats })).map _=_
 rw [e];rfl
theorem q_imag {ats:Array TypeId}(hx:ev T x=cx a b):qstep P none (mkO dst (.call { callee:=.builtin .imag,args:=#[x],argTypes:=ats }) ty pos af g) T M=some (⟨none,fl b⟩,[]):=by
 have e:aop P T M ty (.call { callee:=.builtin .imag,args:=#[x],argTypes:=ats })=some (fl b):=by
  have hx':ev T x = .raw (.complex .f64 (F a) (F b)):=hx;simp only [aop,List.map,aBuiltin,hx',rawsOf,List.mapM_cons,rawOf];rfl
 show (aop P T M ty (.call { callee:=.builtin .imag,args:=#[x],argTypes:=ats })).map _=_
 rw [e];rfl
theorem q_complex {ats:Array TypeId}(hx:ev T x=fl a)(hy:ev T y=fl b):qstep P none (mkO dst (.call { callee:=.builtin .complex,args:=#[x,y],argTypes:=ats }) ty pos af g) T M=some (⟨none,cx a b⟩,[]):=by
 have e:aop P T M ty (.call { callee:=.builtin .complex,args:=#[x,y],argTypes:=ats })=some (cx a b):=by
  have hx':ev T x = .raw (.float .f64 (F a)):=hx;have hy':ev T y = .raw (.float .f64 (F b)):=hy;simp only [aop,List.map,aBuiltin,hx',hy',rawsOf,List.mapM_cons,rawOf];rfl
 show (aop P T M ty (.call { callee:=.builtin .complex,args:=#[x,y],argTypes:=ats })).map _=_
 rw [e];rfl
end
end Fl
