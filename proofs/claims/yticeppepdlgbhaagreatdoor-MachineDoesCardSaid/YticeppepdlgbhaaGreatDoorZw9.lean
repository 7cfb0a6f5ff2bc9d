import Derived.Test.YticeppepdlgbhaaGreatDoorHz
import Derived.Test.YticeppepdlgbhaaGreatDoorZw8
open Go Go.Proofs Go.Am
set_option linter.unusedVariables false
set_option linter.unusedSimpArgs false
set_option autoImplicit false
set_option maxHeartbeats 4000000
set_option maxRecDepth 20000
namespace C17
theorem ag118:aggT Tryz.prog 118=some false:=by kernel_rfl
theorem fo136_2:fo Tryz.prog 136 2=some (2,1):=by kernel_rfl
theorem sz118:sizeT Tryz.prog 118=some 1:=by kernel_rfl
def tk79:Nat->Nat->Option Nat
 | 1,0=>some 0
 | 13,0=>some 0
 | 13,4=>some 0
 | _,_=>none
def pl79:Nat->List PStep:=fun _=>[]
theorem cb79:Tryz.f79.body.map (codeB Tryz.prog Tryz.f79.ntmps tk79 pl79)=some true:=by kernel_rfl
theorem goes79:goesB Tryz.prog 79=true:=by kernel_rfl
def inB (x:Mc)(n i:Nat):Bool:=((x.want.idx 7).take i).any fun q=>decide ((q:Int)=(n:Int))
theorem inB_succ {x:Mc}{n i:Nat}(h:i<(x.want.idx 7).length):inB x n (i+1)=(inB x n i || decide ((((x.want.idx 7)[i]:Nat):Int)=(n:Int))):=by
 unfold inB;rw [List.take_succ_eq_append_getElem h,List.any_append,List.any_cons,List.any_nil,Bool.or_false]
theorem inB_end {x:Mc}{n i:Nat}(hn:n<7)(hi:(x.want.idx 7).length<=i):inB x n i=x.want.get n:=by
 unfold inB;rw [List.take_of_length_le hi];cases e:x.want.get n with
 | true =>
  rw [List.any_eq_true];exact⟨n,List.mem_filter.2 ⟨List.mem_range.2 hn,e⟩,by simp⟩
 | false =>
  rw [List.any_eq_false];intro q hq h2;obtain rfl:q=n:=by have:=of_decide_eq_true h2;omega
  have:=(List.mem_filter.1 hq).2;rw [e] at this;cases this
theorem set_get (w:W7)(v:Bool){k n:Nat}(hk:k<7)(hn:n<7):(w.set k v).get n=if n=k then v else w.get n:=by
 have h1:k=0\/k=1\/k=2\/k=3\/k=4\/k=5\/k=6:=by omega
 have h2:n=0\/n=1\/n=2\/n=3\/n=4\/n=5\/n=6:=by omega
 rcases h1 with rfl|rfl|rfl|rfl|rfl|rfl|rfl<;>rcases h2 with rfl|rfl|rfl|rfl|rfl|rfl|rfl<;>rfl
theorem wan_gt {x:Mc}{c:Cmd}{n:Nat}(hc:0<=c.n/\c.n<7)(hn:n<7):(wanW x c).get n=if (n:Int)=c.n then decide (c.kind=10) else x.want.get n:=by
 unfold wanW;rw [set_get _ _ (by omega) hn];by_cases h:(n:Int)=c.n
 ·rw [if_pos h,if_pos (by omega)]
 ·rw [if_neg h,if_neg (by omega)]
theorem idx_yes {w:W7}{n:Nat}(h:w.get n=true):(w.idx (n+1)).map natV=(w.idx n).map natV++[int (n:Int)]:=by
 rw [idx_succ,if_pos h,List.map_append];rfl
theorem idx_no {w:W7}{n:Nat}(h:w.get n=false):(w.idx (n+1)).map natV=(w.idx n).map natV:=by
 rw [idx_succ,if_neg (by rw [h];exact Bool.false_ne_true),List.append_nil]
theorem idx_zero {w:W7}:w.idx 7=[]↔w = .zero:=by
 obtain⟨a,b,c,d,e,f,g⟩:=w
 revert a b c d e f g
 decide
theorem snd79 (d:Nat)(yd:ByteArray->Nat)(x:Mc)(vs:Value)(o1 o3:Bool)(c:Cmd)(M:Mem)(hd:M d=some (.cells (rmC yd x vs o1 o3)))(hc:0<=c.n/\c.n<7):SoundCall Tryz.prog 79 [ptr d,encC c] M fun r M'=>(wanW x c = .zero/\r = .agg [int 7,int 0,.raw (.slice none 0 0)]/\M.le M')\/(wanW x c ≠ .zero/\r = .agg [int 0,int ((wanW x c).idx 7).length,.raw (.slice none 0 0)]/\M' d=some (.cells (rmC yd ⟨x.tps,x.sbs,wanW x c,x.cnt,x.dig⟩ vs o1 false))/\Kept M M' d):=by
 have hle:=Mem.le_refl M;have hw0:=idx_len x.want 7;have hwl:((x.want.idx 7).map natV).length=(x.want.idx 7).length:=List.length_map _;refine SoundCall.go tk79 pl79 mixed Tryz.func79 cb79 rfl (Nat.le_of_ble_eq_true rfl) ?_;refine Q0 ?_;refine o_box zbx rfl rfl (fun B1 hB1=>?_);have cd1:d≠B1:=Mem.fresh_ne hB1 hd;have cd1b:=cd1.symm;have m1:M B1=none:=zm hB1;refine o_alloc zc56 (fun B2 hB2=>?_);have cd2:d≠B2:=Mem.fresh_ne hB2 (Mem.upd_ne cd1 hd);have cd2b:=cd2.symm;have f1_2:B1≠B2:=Mem.fresh_ne hB2 mmQ;have g2_1:B2≠B1:=f1_2.symm;have m2:M B2=none:=zm hB2;refine Q42 ?_;refine Q86 ?_;refine Q11 ?_;refine Q109 ?_;refine s_loop (fun m S=>∃ T,∃ M1:Mem,∃ n:Nat,S=⟨setT (setT (setT (setT (setT T 0 (ptr d)) 3 (ptr B1)) 4 (ptr B2)) 5 (.sl (((wanW x c).idx n).map natV) true)) 6 (int (n:Nat)),M1⟩/\M1 d=some (.cells (rmC yd x vs o1 o3))/\M1 B1=some (.cells [int c.kind,str c.topic,str c.name,int c.seq,str c.key,str c.val,int c.n,int c.node,int c.ask])/\M1 B2=some (.cells [int 0,int 0,.sl [] true])/\M.le M1/\n<=7/\m=7 - n) 7 ?_ ?_
 ·exact⟨_,_,0,St.mkT (kp (kp (kp (kp (kp rfl rfl) rfl) rfl) rfl) rfl).symm,mmQ,mmQ,Mem.upd_self _ _ _,(leN (leN (Mem.le_refl M) m1) m2),by omega,rfl⟩
 rintro m S ⟨T,M1,n,rfl,hd1,hb1,hb2,hle1,hn,rfl⟩;have hw2:=idx_len (wanW x c) n;have hw3:(((wanW x c).idx n).map natV).length=((wanW x c).idx n).length:=List.length_map _;refine Q4 ?_;refine Q41 ?_;refine s_cond rfl (fun h1=>?_) (fun h1=>?_)
 ·have k1:=h1;try simp only [zs] at k1
  refine Q55 ?_;refine Q18 ?_;refine s_seq ?_;refine Q109 ?_;refine s_loop (fun m S=>∃ T,∃ i:Nat,S=⟨setT (setT (setT (setT (setT (setT (setT T 0 (ptr d)) 3 (ptr B1)) 4 (ptr B2)) 5 (.sl (((wanW x c).idx n).map natV) true)) 6 (int (n:Nat))) 7 (bool (inB x n i))) 8 (int (i:Nat)),M1⟩/\i<=(x.want.idx 7).length/\m=(x.want.idx 7).length - i) (x.want.idx 7).length ?_ ?_
  ·exact⟨_,0,St.mkT (kp (kp (kp (kp (kp (kp (kp rfl rfl) rfl) rfl) rfl) rfl) rfl) rfl).symm,by omega,rfl⟩
  rintro m S ⟨T,i,rfl,hi,rfl⟩;refine Q4 ?_;refine Q62 fo136_2 ?_;refine Q124 ag118 sz118 ?_;refine Q75 und118 ?_;refine Q41 ?_;refine s_cond rfl (fun h2=>?_) (fun h2=>?_)
  ·have k2:=h2;try simp only [zs] at k2
   refine Q55 ?_;refine Q130 ?_;refine Q1 ?_;refine o_g (G:=true) rfl rfl rfl rfl rfl (fun hG hc=>(q_mv (mvQ))) ?_;refine o_g (G:=true) rfl rfl rfl rfl rfl (fun hG hc=>(q_nil (gv_on (gv_and hG hc) rfl))) ?_;refine o_g (G:=true) rfl rfl rfl rfl rfl (fun hG hc=>(q_fr fo136_2 (gv_on (gv_and hG hc) rfl))) ?_;refine o_g (G:=true) rfl rfl rfl rfl rfl (fun hG hc=>(q_ldm ag118 sz118 (gv_on (gv_and hG hc) rfl) mmQ rfl (v_sl rfl))) ?_;refine Q97 ?_;refine o_g (G:=true) rfl rfl rfl rfl rfl (fun hG hc=>(q_idx und118 sz3 (gv_on (gv_and hG hc) rfl) (gv_on (gv_and hG hc) rfl) (by omega) (gm i (by first|omega|simp)) rfl)) ?_;refine o_g (G:=true) rfl rfl rfl rfl rfl (fun hG hc=>(q_ld ag3 sz3 (gv_on (gv_and hG hc) rfl) (gm i (by first|omega|simp)) rfl (v_raw rfl))) ?_;refine Q97 ?_;refine o_g (G:=true) rfl rfl rfl rfl rfl (fun hG hc=>(q_eql (gv_on (gv_and hG hc) rfl) (gv_on (gv_and hG hc) rfl))) ?_;refine Q145 ?_;refine Q94 ?_;refine Q39 ?_;exact⟨(x.want.idx 7).length - (i+1),by omega,_,i+1,St.mkT (kp (kp (kp (kp (kp (kp (kp rfl rfl) rfl) rfl) rfl) rfl) (congrArg bool (inB_succ (by omega)).symm)) rfl).symm,by omega,rfl⟩
  ·have k2:=h2;try simp only [zs] at k2
   refine Q26 ?_;refine Q4 ?_;refine Q12 fo49_6 ag3 sz3 ?_;refine Q117 ?_;refine s_cond rfl (fun h3=>?_) (fun h3=>?_)
   ·have k3:=h3;try simp only [zs] at k3
    refine Q15 ?_;refine Q12 fo49_0 ag3 sz3 ?_;refine Q105 ?_;refine Q7 ?_;refine o_nil ?_;refine s_cond rfl (fun h4=>?_) (fun h4=>?_)
    ·have k4:=h4;try simp only [zs] at k4
     refine Q15 ?_;refine Q38 ?_;refine Q1 ?_;refine Q183 slt118 ?_;refine o_qs (q_app slt118 rfl rfl rfl rfl (by repeat first|exact elsNat|exact Els.nil|exact Els.cons rfl rfl Els.nil|refine Els.append ?_ ?_) (by first|exact (by repeat first|exact elsNat|exact Els.nil|exact Els.cons rfl rfl Els.nil|refine Els.append ?_ ?_)|exact Els.cons rfl rfl Els.nil) (by simp;omega)) rfl rfl rfl rfl ?_;refine Q87 ?_;refine Q72 ?_;refine Q39 ?_;have hg:(wanW x c).get n=true:=by
      rw [wan_gt hc (by omega)];rw [if_pos (of_decide_eq_true h3)];exact h4
     exact⟨7 - (n+1),by omega,_,M1,n+1,St.mkT (kp (kp (kp (kp (kp rfl rfl) rfl) rfl) (congrArg (fun l=>AVal.sl l true) (idx_yes hg).symm)) rfl).symm,hd1,hb1,hb2,hle1,by omega,rfl⟩
    ·have k4:=h4;try simp only [zs] at k4
     refine Q47 ?_;refine Q39 ?_;have hg:(wanW x c).get n=false:=by
      rw [wan_gt hc (by omega)];rw [if_pos (of_decide_eq_true h3)];exact h4
     exact⟨7 - (n+1),by omega,_,M1,n+1,St.mkT (kp (kp (kp (kp (kp rfl rfl) rfl) rfl) (congrArg (fun l=>AVal.sl l true) (idx_no hg).symm)) rfl).symm,hd1,hb1,hb2,hle1,by omega,rfl⟩
   ·have k3:=h3;try simp only [zs] at k3
    refine Q69 ?_;refine o_nil ?_;refine s_cond rfl (fun h5=>?_) (fun h5=>?_)
    ·have k5:=h5;try simp only [zs] at k5
     refine Q15 ?_;refine Q38 ?_;refine Q1 ?_;refine Q183 slt118 ?_;refine o_qs (q_app slt118 rfl rfl rfl rfl (by repeat first|exact elsNat|exact Els.nil|exact Els.cons rfl rfl Els.nil|refine Els.append ?_ ?_) (by first|exact (by repeat first|exact elsNat|exact Els.nil|exact Els.cons rfl rfl Els.nil|refine Els.append ?_ ?_)|exact Els.cons rfl rfl Els.nil) (by simp;omega)) rfl rfl rfl rfl ?_;refine Q87 ?_;refine Q72 ?_;refine Q39 ?_;have hg:(wanW x c).get n=true:=by
      rw [wan_gt hc (by omega)];rw [if_neg (of_decide_eq_false h3),← inB_end (by omega) (by omega:(x.want.idx 7).length<=i)];exact h5
     exact⟨7 - (n+1),by omega,_,M1,n+1,St.mkT (kp (kp (kp (kp (kp rfl rfl) rfl) rfl) (congrArg (fun l=>AVal.sl l true) (idx_yes hg).symm)) rfl).symm,hd1,hb1,hb2,hle1,by omega,rfl⟩
    ·have k5:=h5;try simp only [zs] at k5
     refine Q47 ?_;refine Q39 ?_;have hg:(wanW x c).get n=false:=by
      rw [wan_gt hc (by omega)];rw [if_neg (of_decide_eq_false h3),← inB_end (by omega) (by omega:(x.want.idx 7).length<=i)];exact h5
     exact⟨7 - (n+1),by omega,_,M1,n+1,St.mkT (kp (kp (kp (kp (kp rfl rfl) rfl) rfl) (congrArg (fun l=>AVal.sl l true) (idx_no hg).symm)) rfl).symm,hd1,hb1,hb2,hle1,by omega,rfl⟩
 ·have k1:=h1;try simp only [zs] at k1
  refine Q26 ?_;refine s_seq ?_;refine Q63 ?_;refine Q75 und118 ?_;refine Q117 ?_;refine s_cond rfl (fun h6=>?_) (fun h6=>?_)
  ·have k6:=h6;try simp only [zs] at k6
   refine Q0 ?_;refine Q135 bz56 bp56 fo56_0 ?_;refine Q103 sz56 ?_;refine s_ret ?_;refine Q156 ?_;obtain rfl:n=7:=by omega
   have hz0:((wanW x c).idx 7)=[]:=List.eq_nil_of_length_eq_zero (by simpa using h6);exact ret_cell (.inl rfl) rfl rfl mmQ (loadP_w ag56 sz56 rfl rfl) (Or.inl ⟨idx_zero.1 hz0,rfl,leN hle1 m2⟩)
  ·have k6:=h6;try simp only [zs] at k6
   refine s_skip ?_;refine Q17 ?_;refine Q76 ?_;refine Q44 fo136_2 ?_;refine Q82 sz118 ?_;refine Q42 ?_;refine Q131 und118 ?_;refine Q189 bz56 bp56 fo56_1 ?_;refine Q103 sz56 ?_;refine Q104 ?_;obtain rfl:n=7:=by omega
   have hz0:wanW x c ≠ .zero:=fun h=>absurd (idx_zero.2 h) (by simpa using h6)
   have hln:(((wanW x c).idx 7).map natV).length=((wanW x c).idx 7).length:=List.length_map _;exact ret_cell (.inl rfl) rfl rfl mmQ (loadP_w ag56 sz56 rfl rfl) (Or.inr ⟨hz0,(by rw [← hln];rfl),Mem.upd_ne cd2 (Mem.upd_self _ _ _),fun c0 o0 hc0 ho0=>Mem.upd_ne (Mem.ne_none ho0 m2) (Mem.upd_ne hc0 (hle1 c0 o0 ho0))⟩)
end C17
