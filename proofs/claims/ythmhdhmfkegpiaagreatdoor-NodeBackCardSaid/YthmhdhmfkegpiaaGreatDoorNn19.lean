import Derived.Test.YthmhdhmfkegpiaaGreatDoorHz
import Derived.Test.YthmhdhmfkegpiaaGreatDoorNn18
import Derived.Test.YthmhdhmfkegpiaaGreatDoorAmH
import Derived.RangeFuncFrom
import Derived.RangeFuncBound
import Derived.RangeFuncBox
import Derived.RangeFuncLeaves
import Derived.Shelf.Abstract
import Derived.Shelf.RegionOpen
import Derived.WalkKit
import Derived.OwnWalkIn
import Derived.TacticsInMore
import Derived.LoopNIn
import Derived.LoopIn
open Go Go.Proofs Go.Am Go.RowKit Go.Shelf
set_option linter.unusedVariables false
set_option linter.unusedSimpArgs false
set_option autoImplicit false
set_option maxHeartbeats 4000000
set_option maxRecDepth 20000
namespace C17
def MbsAt (W:World)(sv:Value)(ms:List Mb):Prop :=
 (ms=[]/\∃ base cap,sv = .slice base 0 cap)\/∃ b off cap,sv = .slice (some ⟨b,off,none⟩) ms.length cap/\ms.length<=cap ∧
  ∀ j,∀ hj:j<ms.length,W.cell? ⟨b,off+2*j,none⟩=some (.int .i64 ms[j].node)/\W.cell? ⟨b,off+(2*j+1),none⟩=some (.int .i64 ms[j].life)
theorem flatMb (l:List Mb)(j:Nat):(∀ h:j<l.length,(flat (l.map encMb))[2*j]? = some (int l[j].node)/\(flat (l.map encMb))[2*j+1]? = some (int l[j].life))/\(flat (l.map encMb)).length=2*l.length:=by
 induction l generalizing j with
 | nil=>exact⟨fun h=>absurd h (Nat.not_lt_zero _),rfl⟩
 | cons a l ih =>
  have e:flat ((a::l).map encMb)=int a.node::int a.life::flat (l.map encMb):=rfl;rw [e];refine⟨fun h=>?_,by rw [List.length_cons,List.length_cons,(ih 0).2,List.length_cons];omega⟩;cases j with
  | zero=>exact⟨rfl,rfl⟩
  | succ j =>
   have h1:=(ih j).1 (by simpa using h);have e1:2*(j+1)=2*j+1+1:=by omega
   have e2:2*(j+1)+1=2*j+1+1+1:=by omega
   rw [e2,e1,List.getElem?_cons_succ,List.getElem?_cons_succ,List.getElem?_cons_succ,List.getElem?_cons_succ];exact h1
def allImm (W:World):Ghost:=fun b _=>if b<W.heap.size then .imm else .free
theorem rep_mbs {W:World}{sv:Value}{ms:List Mb}(h:MbsAt W sv ms):Rep Tryz.prog (allImm W) W (.sl (ms.map encMb) false) sv:=by
 rcases h with ⟨rfl,base,cap,rfl⟩|⟨b,off,cap,rfl,hcap,hc⟩
 ·exact .emp false base cap fun h=>by cases h
 ·have hlen:(ms.map encMb).length=ms.length:=List.length_map _;rw [← hlen];have key:∀ j,j<(flat (ms.map encMb)).length->∃ x,(flat (ms.map encMb))[j]? = some (.raw x)/\W.cell? ⟨b,off+j,none⟩=some x:=fun j hj=>by
   rw [(flatMb ms 0).2] at hj;have h1:=(flatMb ms (j / 2)).1 (by omega);have h2:=hc (j / 2) (by omega);rcases Nat.mod_two_eq_zero_or_one j with h|h
   ·have e:2*(j / 2)=j:=by omega
    rw [e] at h1 h2;exact⟨_,h1.1,h2.1⟩
   ·have e:2*(j / 2)+1=j:=by omega
    rw [e] at h1 h2;exact⟨_,h1.2,h2.2⟩
  refine .sl _ false b off cap 2 (fun j=>(W.cell? ⟨b,off+j,none⟩).getD undef) (by rw [hlen];exact hcap) (fun e he=>?_) (fun j hj=>?_) (fun j hj=>?_) (fun j c hc'=>?_) (fun h=>by cases h)
  ·obtain⟨m,hm,rfl⟩:=List.mem_map.1 he;rfl
  ·obtain⟨x,h1,h2⟩:=key j hj;exact if_pos (World.block_lt_of_cell? W _ h2)
  ·obtain⟨x,h1,h2⟩:=key j hj;rw [h2];rfl
  ·obtain⟨x,h1,h2⟩:=key j (List.getElem?_eq_some_iff.1 hc').1;rw [h1] at hc';obtain rfl:=Option.some.inj hc';rw [h2];exact .raw x
theorem has_in (W:World)(vn:Int)(sv:Value)(ms:List Mb)(x:Mb)(hl:ms.length<2^60)(hI:MbsAt W sv ms) :
 Calls Tryz.prog 133 #[.agg #[.int .i64 vn,sv],.agg #[.int .i64 x.node,.int .i64 x.life]] W fun e W'=>e = .returned (.bool (decide (x∈ms)))/\Below W.heap.size W W':=by
 have hH:Holds Tryz.prog (allImm W) (argT [encV ⟨vn,ms⟩,encMb x]) (fun t=>(#[Value.agg #[.int .i64 vn,sv],.agg #[.int .i64 x.node,.int .i64 x.life]]:Array Value).getD t undef) (fun _=>none) W:={
  tmp:=fun t=>by
   match t with
   | 0 =>
    refine .agg _ _ rfl fun i c v h1 h2=>?_
    match i,h1,h2 with
    | 0,h1,h2=>cases h1;cases h2;exact .raw _
    | 1,h1,h2=>cases h1;cases h2;exact rep_mbs hI
    | i+2,h1,h2=>simp at h1
   | 1 =>
    refine .agg _ _ rfl fun i c v h1 h2=>?_
    match i,h1,h2 with
    | 0,h1,h2=>cases h1;cases h2;exact .raw _
    | 1,h1,h2=>cases h1;cases h2;exact .raw _
    | i+2,h1,h2=>simp at h1
   | t+2=>exact .undef _
  obj:=fun b o h=>by cases h
  tag:=fun b o h=>by
   unfold allImm at h ⊢;split at h
   ·rename_i hb;exact⟨hb,TagM.none _⟩
   ·exact absurd rfl h
  sp:=fun t b o h=>absurd h (Spare.not_free (by match t with | 0=>trivial | 1=>trivial|t+2=>trivial))
  wr:=fun b o t h=>by unfold allImm at h;split at h<;>cases h
  mwr:=fun b o c j h=>by unfold allImm at h;split at h<;>cases h }
 refine (snd133 ⟨vn,ms⟩ x (fun _=>none) hl (allImm W) W _ rfl hH).mono ?_;rintro e W' ⟨v,κ',r,M',rfl,⟨rfl,-⟩,hH',hK⟩;have h1:v = .bool (decide (x∈ms)):=rep_raw (hH'.tmp 0);refine⟨by rw [h1],hK.os,hK.tape,hK.output,hK.size,fun k hk=>hK.block k hk fun o=>.inl (if_pos hk)⟩
structure KpB (n₀ Bn:Nat)(A B:World):Prop where
 os:B.os=A.os
 tape:B.tape=A.tape
 output:B.output=A.output
 size:A.heap.size<=B.heap.size
 block:∀ k,k<n₀->k≠Bn->B.heap[k]? = A.heap[k]?
theorem KpB.refl (n₀ Bn:Nat)(A:World):KpB n₀ Bn A A:=⟨rfl,rfl,rfl,Nat.le_refl _,fun _ _ _=>rfl⟩
theorem KpB.trans {n₀ Bn:Nat}{A B C:World}(h:KpB n₀ Bn A B)(k:KpB n₀ Bn B C):KpB n₀ Bn A C :=
 ⟨k.os.trans h.os,k.tape.trans h.tape,k.output.trans h.output,Nat.le_trans h.size k.size,fun i hi hn=>(k.block i hi hn).trans (h.block i hi hn)⟩
theorem KpB.of_below {n₀ Bn B:Nat}{A C:World}(h:Below B A C)(hn:n₀<=B):KpB n₀ Bn A C:=⟨h.os,h.tape,h.output,h.size,fun k hk _=>h.block k (by omega)⟩
theorem KpB.cell {n₀ Bn:Nat}{A B:World}(h:KpB n₀ Bn A B){p:Addr}(h1:p.block<n₀)(h2:p.block≠Bn):B.cell? p=A.cell? p:=World.cell?_of_block (h.block _ h1 h2)
theorem grown_of_below {A B:World}(h:Below A.heap.size A B):A.grownBy B none:=⟨h.os,h.tape,h.output,h.size,fun k hk _=>h.block k hk⟩
def MbsIn (n₀ Bn:Nat)(W:World)(sv:Value)(ms:List Mb):Prop :=
 (ms=[]/\∃ base cap,sv = .slice base 0 cap)\/∃ b off cap,sv = .slice (some ⟨b,off,none⟩) ms.length cap/\ms.length<=cap/\b<n₀/\b≠Bn ∧
  ∀ j,∀ hj:j<ms.length,W.cell? ⟨b,off+2*j,none⟩=some (.int .i64 ms[j].node)/\W.cell? ⟨b,off+(2*j+1),none⟩=some (.int .i64 ms[j].life)
theorem MbsIn.at' {n₀ Bn:Nat}{W:World}{sv:Value}{ms:List Mb}(h:MbsIn n₀ Bn W sv ms):MbsAt W sv ms:=by
 rcases h with h|⟨b,off,cap,h1,h2,-,-,h3⟩
 ·exact .inl h
 ·exact .inr ⟨b,off,cap,h1,h2,h3⟩
theorem MbsIn.kept {n₀ Bn:Nat}{A W:World}{sv:Value}{ms:List Mb}(h:MbsIn n₀ Bn A sv ms)(hk:KpB n₀ Bn A W):MbsIn n₀ Bn W sv ms:=by
 rcases h with h|⟨b,off,cap,h1,h2,h4,h5,h3⟩
 ·exact .inl h
 ·exact .inr ⟨b,off,cap,h1,h2,h4,h5,fun j hj=>⟨(hk.cell h4 h5).trans (h3 j hj).1,(hk.cell h4 h5).trans (h3 j hj).2⟩⟩
theorem cell_alloc_l {W:World}{a:Addr}{v:Value}(o:Obj)(h:W.cell? a=some v):(W.alloc o).cell? a=some v:=cell_kept h (World.grownBy_alloc W o none) (fun r e=>by cases e)
attribute [local go_sem] Oper.semAt_some
abbrev FW:Fence:=Fence.wide
set_option maxRecDepth 100000 in
theorem shared1_in (n:Nat)(hn:1<=n)(l Bv Bw n₀ Bn b off len cap:Nat)(vn wn:Int)(sv sw:Value)(ms ws:List Mb)(hlen:ms.length=len)(hl2:ws.length<2^60)(hlm:len<2^60)(hbv:Bv<n₀/\Bv≠Bn)(hbw:Bw<n₀/\Bw≠Bn)(J Jx:List Mb->World->Prop)
 (W:World) (hJ:AbidesFrom W.heap.size J)
 (hY:∀ pre x W,J pre W->pre.length<len->YieldAt FW (n - 1) Tryz.prog l #[.agg #[.int .i64 x.node,.int .i64 x.life]] W fun e W' =>
  (e = .returned (.bool true)/\J (pre++[x]) W'/\KpB n₀ Bn W W')\/(e = .returned (.bool false)/\Jx (pre++[x]) W'))
 (hn₀:n₀<=W.heap.size) (hv0:W.cell? ⟨Bv,0,none⟩=some (.int .i64 vn)) (hv1:W.cell? ⟨Bv,1,none⟩=some (.slice (some ⟨b,off,none⟩) len cap)) (hw0:W.cell? ⟨Bw,0,none⟩=some (.int .i64 wn)) (hw1:W.cell? ⟨Bw,1,none⟩=some sw)
 (hb:b<n₀/\b≠Bn) (hc:∀ j,∀ hj:j<ms.length,W.cell? ⟨b,off+2*j,none⟩=some (.int .i64 ms[j].node)/\W.cell? ⟨b,off+(2*j+1),none⟩=some (.int .i64 ms[j].life)) (hsw:MbsIn n₀ Bn W sw ws) (h0:J [] W) :
 CallsIn FW n Tryz.prog 196 #[.func (.yield l) #[] #[],.pointer (some ⟨Bv,0,none⟩),.pointer (some ⟨Bw,0,none⟩)] W fun e W'=>(∃ v,e = .returned v) ∧
  ((∃ ys,ys=ms.filter (fun m=>decide (m∈ws))/\J ys W')\/(∃ pre,True/\Jx pre W')):=by
 refine callsIn_of_wp Tryz.func196 rfl trivial ?_ rfl;simp only [Tryz.ntmps196,List.size_toArray,List.length_cons,List.length_nil,Nat.reduceAdd,Nat.reduceSub,Array.replicate_succ,Array.replicate_zero,List.push_toArray,List.append_toArray,List.nil_append,List.cons_append]
 gi_wp2
 gi_loopw [9] (fun i wr=>∃ k:Nat,k<=len/\i = .int .i64 k/\J ((ms.take k).filter fun m=>decide (m∈ws)) wr/\KpB n₀ Bn W wr/\W.heap.size<=wr.heap.size)
  (fun i _=>len - (intOf i).toNat)
 case atStart=>exact⟨0,Nat.zero_le _,rfl,h0,KpB.refl _ _ _,Nat.le_refl _⟩
 case round =>
  obtain⟨k,hk,rfl,hJs,hnx,hsz⟩:=hrel;have hw0':=(hnx.cell (p:=⟨Bw,0,none⟩) hbw.1 hbw.2).trans hw0;have hw1':=(hnx.cell (p:=⟨Bw,1,none⟩) hbw.1 hbw.2).trans hw1;by_cases hlt:k<len
  ·have hc':=hc k (by omega);have hca:wr.cell? ⟨b,off+k*2,none⟩=some (.int .i64 (ms[k]'(by omega)).node):=by rw [Nat.mul_comm];exact (hnx.cell hb.1 hb.2).trans hc'.1
   have hcb:wr.cell? ⟨b,off+k*2+1,none⟩=some (.int .i64 (ms[k]'(by omega)).life):=by rw [Nat.mul_comm,Nat.add_assoc];exact (hnx.cell hb.1 hb.2).trans hc'.2
   have hE:∀ h:k<ms.length,ms.take (k+1)=ms.take k++[ms[k]]:=fun h=>List.take_succ_eq_append_getElem h
   have hE':=hE (by omega);obtain⟨mk,hmk⟩ : ∃ mk,ms[k]'(by omega)=mk:=⟨_,rfl⟩;rw [hmk] at hca hcb hE';obtain⟨W2,hW2⟩ : ∃ W2,W2=wr.alloc (Obj.cells #[.int .i64 mk.node,.int .i64 mk.life] 45):=⟨_,rfl⟩;have hB2:Below wr.heap.size wr W2:=by rw [hW2];exact (Below.refl _ wr).alloc (Nat.le_refl _) _
   have hs2:W2.heap.size=wr.heap.size+1:=by rw [hW2];simp
   have hA0:(wr.alloc (Obj.cells #[.int .i64 mk.node,.int .i64 mk.life] 45)).cell? ⟨Bw,0,none⟩=some (.int .i64 wn):=cell_alloc_l _ hw0';have hA1:(wr.alloc (Obj.cells #[.int .i64 mk.node,.int .i64 mk.life] 45)).cell? ⟨Bw,1,none⟩=some sw:=cell_alloc_l _ hw1';have hM:∀ o v,(#[Value.int .i64 mk.node,Value.int .i64 mk.life]:Array Value)[o]? = some v->W2.cell? ⟨wr.heap.size,o,none⟩=some v:=fun o v h=>by
    rw [hW2];simp only [World.cell?,World.alloc_heap_new];exact h
   have hM0:=hM 0 _ rfl;have hM1:=hM 1 _ rfl;have hsw':MbsAt W2 sw ws:=(hsw.kept (hnx.trans (KpB.of_below hB2 (by omega)))).at';rw [hW2] at hM0 hM1;have hpl:((ms.take k).filter fun m=>decide (m∈ws)).length<len:=by
    have h1:=List.length_filter_le (fun m=>decide (m∈ws)) (ms.take k);rw [List.length_take] at h1;omega
   have hH:=has_in W2 wn sw ws mk hl2 hsw';have hJ2:∀ w',Below W2.heap.size W2 w'->J ((ms.take k).filter fun m=>decide (m∈ws)) w'/\KpB n₀ Bn W w'/\W.heap.size<=w'.heap.size/\w'.cell? ⟨wr.heap.size,0,none⟩=some (.int .i64 mk.node)/\w'.cell? ⟨wr.heap.size,1,none⟩=some (.int .i64 mk.life):=fun w' hB=>by
    have h1:Below wr.heap.size wr w':=hB2.trans (hB.mono (by omega));refine⟨hJ _ wr w' none hJs (grown_of_below h1) (fun r e=>by cases e),hnx.trans (KpB.of_below h1 (by omega)),by have:=h1.size;omega,?_,?_⟩
    ·exact (hB.cell (p:=⟨wr.heap.size,0,none⟩) (by show wr.heap.size<_;omega)).trans (hM 0 _ rfl)
    ·exact (hB.cell (p:=⟨wr.heap.size,1,none⟩) (by show wr.heap.size<_;omega)).trans (hM 1 _ rfl)
   by_cases hin:mk∈ws
   ·rw [decide_eq_true hin] at hH;have hflt:(ms.take (k+1)).filter (fun m=>decide (m∈ws))=(ms.take k).filter (fun m=>decide (m∈ws))++[mk]:=by
     rw [hE',List.filter_append,List.filter_cons_of_pos (by simpa using hin)];rfl
    rw [hW2] at hH hJ2
    gi_wp2_with (refine⟨trivial,?_⟩;gi_at_call 133;refine (callsIn_wide.2 hH).mono ?_;clear hH;rintro e w' ⟨rfl,hB⟩;obtain⟨g1,g2,g3,g4,g5⟩:=hJ2 w' hB;obtain⟨fn,tmps,assign,body,hy,hR⟩:=hY _ mk w' g1 hpl)
    refine hR.mono ?_;rintro e W3 (⟨rfl,hJ3,hk3⟩|⟨rfl,hJx3⟩)
    ·gi_wp2
     go_roundw
     case rel=>exact⟨k+1,by omega,by simp,by rw [hflt];exact hJ3,g2.trans hk3,Nat.le_trans g3 hk3.size⟩
     case measure=>simp [intOf];omega
    ·gi_wp2
     refine bodyPost_ret (results_none rfl _ _ _) rfl ?_;exact⟨⟨_,rfl⟩,.inr ⟨_,trivial,hJx3⟩⟩
   ·rw [decide_eq_false hin] at hH;have hflt:(ms.take (k+1)).filter (fun m=>decide (m∈ws))=(ms.take k).filter (fun m=>decide (m∈ws)):=by
     rw [hE',List.filter_append,List.filter_cons_of_neg (by simpa using hin),List.filter_nil,List.append_nil]
    rw [hW2] at hH hJ2
    gi_wp2_with (refine⟨trivial,?_⟩;gi_at_call 133;refine (callsIn_wide.2 hH).mono ?_;clear hH;rintro e w' ⟨rfl,hB⟩;obtain⟨g1,g2,g3,g4,g5⟩:=hJ2 w' hB)
    refine⟨fun _ h=>(by cases h),?_⟩
    gi_wp2
    go_roundw
    case rel=>exact⟨k+1,by omega,by simp,by rw [hflt];exact g1,g2,g3⟩
    case measure=>simp [intOf];omega
  ·obtain rfl:k=len:=by omega
   gi_wp2
   go_end0
   exact⟨⟨_,rfl⟩,.inl ⟨_,rfl,by rw [List.take_of_length_le (by omega)] at hJs;exact hJs⟩⟩
set_option maxRecDepth 100000 in
theorem shared1_nil_in (n:Nat)(l Bv Bw:Nat)(base:Option Addr)(cap:Nat)(vn:Int)(J:List Mb->World->Prop)
 (W:World) (hv0:W.cell? ⟨Bv,0,none⟩=some (.int .i64 vn)) (hv1:W.cell? ⟨Bv,1,none⟩=some (.slice base 0 cap)) (h0:J [] W) :
 CallsIn FW n Tryz.prog 196 #[.func (.yield l) #[] #[],.pointer (some ⟨Bv,0,none⟩),.pointer (some ⟨Bw,0,none⟩)] W fun e W'=>(∃ v,e = .returned v)/\J [] W':=by
 refine callsIn_of_wp Tryz.func196 rfl trivial ?_ rfl;simp only [Tryz.ntmps196,List.size_toArray,List.length_cons,List.length_nil,Nat.reduceAdd,Nat.reduceSub,Array.replicate_succ,Array.replicate_zero,List.push_toArray,List.append_toArray,List.nil_append,List.cons_append]
 gi_wp2
 gi_loopw [9] (fun i wr=>i = .int .i64 0/\J [] wr) (fun _ _=>0)
 case atStart=>exact⟨rfl,h0⟩
 case round =>
  obtain⟨rfl,hJs⟩:=hrel
  gi_wp2
  go_end0
  exact⟨⟨_,rfl⟩,hJs⟩
theorem shared_stops (n:Nat)(hn:1<=n)(Bv Bw n₀ Bn:Nat)(vn wn:Int)(sv sw:Value)(ms ws:List Mb)(hl:ms.length<2^60)(hl2:ws.length<2^60)(hbv:Bv<n₀/\Bv≠Bn)(hbw:Bw<n₀/\Bw≠Bn)(w:World)(hn₀:n₀<=w.heap.size)
 (hv0:w.cell? ⟨Bv,0,none⟩=some (.int .i64 vn)) (hv1:w.cell? ⟨Bv,1,none⟩=some sv) (hw0:w.cell? ⟨Bw,0,none⟩=some (.int .i64 wn)) (hw1:w.cell? ⟨Bw,1,none⟩=some sw) (hsv:MbsIn n₀ Bn w sv ms) (hsw:MbsIn n₀ Bn w sw ws) :
 SeqStopsK FW n Tryz.prog 196 #[.pointer (some ⟨Bv,0,none⟩),.pointer (some ⟨Bw,0,none⟩)] (fun x:Mb=>#[Value.agg #[.int .i64 x.node,.int .i64 x.life]]) (KpB n₀ Bn) (fun ys=>ys=ms.filter fun m=>decide (m∈ws)) (fun _=>True) ms.length w:=fun l J Jx W hW hJ hJx hY h0=>by
 have hk:KpB n₀ Bn w W:=KpB.of_below hW hn₀;have hv0':=(hk.cell (p:=⟨Bv,0,none⟩) hbv.1 hbv.2).trans hv0;have hv1':=(hk.cell (p:=⟨Bv,1,none⟩) hbv.1 hbv.2).trans hv1;have hw0':=(hk.cell (p:=⟨Bw,0,none⟩) hbw.1 hbw.2).trans hw0;have hw1':=(hk.cell (p:=⟨Bw,1,none⟩) hbw.1 hbw.2).trans hw1;have hs:=hW.size;rcases hsv.kept hk with ⟨rfl,base,cap,rfl⟩|⟨b,off,cap,rfl,hcap,hb1,hb2,hc⟩
 ·exact (shared1_nil_in n l Bv Bw base cap vn J W hv0' hv1' h0).mono fun e W' ⟨he,hj⟩=>⟨he,.inl ⟨_,rfl,hj⟩⟩
 ·exact shared1_in n hn l Bv Bw n₀ Bn b off ms.length cap vn wn (.slice (some ⟨b,off,none⟩) ms.length cap) sw ms ws rfl hl2 hl hbv hbw J Jx W hJ hY (by omega) hv0' hv1' hw0' hw1' ⟨hb1,hb2⟩ hc (hsw.kept hk) h0
set_option maxRecDepth 100000 in
theorem shared_in (n:Nat)(vn wn:Int)(sv sw:Value)(w:World) :
 CallsIn FW n Tryz.prog 134 #[.agg #[.int .i64 vn,sv],.agg #[.int .i64 wn,sw]] w fun e w'=>e = .returned (.func (.func 196) #[] #[.pointer (some ⟨w.heap.size,0,none⟩),.pointer (some ⟨w.heap.size+1,0,none⟩)])/\w'=(w.alloc (.cells #[.int .i64 vn,sv] 53)).alloc (.cells #[.int .i64 wn,sw] 53):=by
 refine callsIn_of_wp Tryz.func134 rfl trivial ?_ rfl;simp only [Tryz.ntmps134,List.size_toArray,List.length_cons,List.length_nil,Nat.reduceAdd,Nat.reduceSub,Array.replicate_succ,Array.replicate_zero,List.push_toArray,List.append_toArray,List.nil_append,List.cons_append]
 gi_wp2
 go_ret
 exact⟨rfl,rfl⟩
theorem kpB_b {n₀ Bn:Nat}{w:World}(hn:n₀<=w.heap.size)(W:World)(l:Nat)(o o':Obj)(hl:w.heap.size<=l)(h:W.heap[l]? = some o)(_:o.isCells=false)(_:o.isWalk=false):KpB n₀ Bn W (W.putObj l o'):=by
 have hg:=grownBy_putObj' W l o';have hlt:=(Array.getElem?_eq_some_iff.1 h).1;exact⟨hg.os,hg.tape,hg.output,hg.size,fun k hk _=>hg.block k (by omega) (fun e=>by cases e;omega)⟩
theorem kpB_set {n₀ Bn:Nat}(W:World)(v:Value):KpB n₀ Bn W (W.setCell ⟨Bn,0,none⟩ v):=by
 have h:=(Below.refl 0 W).setCell (p:=⟨Bn,0,none⟩) (Nat.zero_le _) v;exact⟨h.os,h.tape,h.output,h.size,fun k _ hn=>Below.heap_setCell _ _ _ _ hn⟩
theorem mbsIn_of {n₀ Bn:Nat}{A W:World}{sv:Value}{ms:List Mb}(h:MbsAt A sv ms)(hB:Below A.heap.size A W)(hn:A.heap.size<=n₀)(hBn:A.heap.size<=Bn):MbsIn n₀ Bn W sv ms:=by
 rcases h with h|⟨b,off,cap,h1,h2,h3⟩
 ·exact .inl h
 ·by_cases e:ms=[]
  ·subst e;exact .inl ⟨rfl,_,_,h1⟩
  ·have hlt:b<A.heap.size:=World.block_lt_of_cell? A _ (h3 0 (List.length_pos_iff.2 e)).1;exact .inr ⟨b,off,cap,h1,h2,by omega,by omega,fun j hj=>⟨(hB.cell hlt).trans (h3 j hj).1,(hB.cell hlt).trans (h3 j hj).2⟩⟩
set_option maxRecDepth 100000 in
theorem common_in (n:Nat)(hn:3<=n)(vn wn:Int)(sv sw:Value)(ms ws:List Mb)(hl:ms.length<2^60)(hl2:ws.length<2^60)(w:World)(hsv:MbsAt w sv ms)(hsw:MbsAt w sw ws) :
 CallsIn FW n Tryz.prog 67 #[.agg #[.int .i64 vn,sv],.agg #[.int .i64 wn,sw]] w fun e W'=>e = .returned (.int .i64 ((ms.filter fun m=>decide (m∈ws)).length:Nat))/\Below w.heap.size w W':=by
 have h1:1<=n:=by omega
 refine callsIn_of_wp_marks Tryz.func67 rfl trivial ?_ rfl;simp only [Tryz.ntmps67,List.size_toArray,List.length_cons,List.length_nil,Nat.reduceAdd,Nat.reduceSub,Array.replicate_succ,Array.replicate_zero,List.push_toArray,List.append_toArray,List.nil_append,List.cons_append];have q1:Below w.heap.size w (w.alloc (.cells #[.int .i64 vn,sv] 53)):=(Below.refl _ w).alloc (Nat.le_refl _) _
 gi_wp2_with (refine⟨trivial,?_⟩;gi_at_call 134;refine (shared_in (n - 1) vn wn sv sw _).mono ?_;rintro e w' ⟨rfl,rfl⟩)
 obtain⟨W5,hW5⟩ : ∃ W5,((((w.alloc (Obj.cells #[.int .i64 vn,sv] 53)).alloc (Obj.cells #[.int .i64 wn,sw] 53)).alloc (Obj.cells #[.int .i64 0] 3)).alloc (Obj.cells #[.int .i64 vn,sv] 53)).alloc (Obj.cells #[.int .i64 wn,sw] 53)=W5:=⟨_,rfl⟩;rw [hW5];have hs5:W5.heap.size=w.heap.size+5:=by rw [← hW5];simp
 have hB5:Below w.heap.size w W5:=by rw [← hW5];exact (((((Below.refl _ w).alloc (Nat.le_refl _) _).alloc (by simp) _).alloc (by simp;omega) _).alloc (by simp;omega) _).alloc (by simp;omega) _
 have hN:Boxed W5 (w.heap.size+1+1) 3 (.int .i64 0):=by
  have:=Boxed.new ((w.alloc (Obj.cells #[.int .i64 vn,sv] 53)).alloc (Obj.cells #[.int .i64 wn,sw] 53)) 3 (.int .i64 0);simp only [World.size_alloc] at this;rw [← hW5];exact (this.alloc _).alloc _
 have hcell:∀ (X:World) (a:Array Value) (o:Nat) (v:Value),a[o]? = some v->(X.alloc (.cells a 53)).cell? ⟨X.heap.size,o,none⟩=some v:=fun X a o v h=>by
  simp only [World.cell?,World.alloc_heap_new];exact h
 have hv0:W5.cell? ⟨w.heap.size+1+1+1,0,none⟩=some (.int .i64 vn):=by
  have:=hcell (((w.alloc (Obj.cells #[.int .i64 vn,sv] 53)).alloc (Obj.cells #[.int .i64 wn,sw] 53)).alloc (Obj.cells #[.int .i64 0] 3)) #[.int .i64 vn,sv] 0 _ rfl;simp only [World.size_alloc] at this;rw [← hW5];exact cell_alloc_l _ this
 have hv1:W5.cell? ⟨w.heap.size+1+1+1,1,none⟩=some sv:=by
  have:=hcell (((w.alloc (Obj.cells #[.int .i64 vn,sv] 53)).alloc (Obj.cells #[.int .i64 wn,sw] 53)).alloc (Obj.cells #[.int .i64 0] 3)) #[.int .i64 vn,sv] 1 _ rfl;simp only [World.size_alloc] at this;rw [← hW5];exact cell_alloc_l _ this
 have hw0:W5.cell? ⟨w.heap.size+1+1+1+1,0,none⟩=some (.int .i64 wn):=by
  have:=hcell ((((w.alloc (Obj.cells #[.int .i64 vn,sv] 53)).alloc (Obj.cells #[.int .i64 wn,sw] 53)).alloc (Obj.cells #[.int .i64 0] 3)).alloc (Obj.cells #[.int .i64 vn,sv] 53)) #[.int .i64 wn,sw] 0 _ rfl;simp only [World.size_alloc] at this;rw [← hW5];exact this
 have hw1:W5.cell? ⟨w.heap.size+1+1+1+1,1,none⟩=some sw:=by
  have:=hcell ((((w.alloc (Obj.cells #[.int .i64 vn,sv] 53)).alloc (Obj.cells #[.int .i64 wn,sw] 53)).alloc (Obj.cells #[.int .i64 0] 3)).alloc (Obj.cells #[.int .i64 vn,sv] 53)) #[.int .i64 wn,sw] 1 _ rfl;simp only [World.size_alloc] at this;rw [← hW5];exact this
 clear hW5;refine wpIn_rangeFunc_ownF rfl h1 (gf:=196) (lb:=#[.pointer (some ⟨w.heap.size+1+1+1,0,none⟩),.pointer (some ⟨w.heap.size+1+1+1+1,0,none⟩)]) rfl trivial (enters_of Tryz.func196 (by kernel_rfl) rfl)
  (shared_stops (n - 1) (by omega) (w.heap.size+1+1+1) (w.heap.size+1+1+1+1) W5.heap.size (w.heap.size+1+1) vn wn sv sw ms ws hl hl2 (by omega) (by omega) W5 (Nat.le_refl _) hv0 hv1 hw0 hw1 (mbsIn_of hsv hB5 (by omega) (by omega)) (mbsIn_of hsw hB5 (by omega) (by omega)))
  KpB.trans (kpB_b (Nat.le_refl _)) (Below.refl _ _) (fun _=>rfl)
  (fun pre W=>(W.cell? ⟨w.heap.size+1+1,0,none⟩=some (.int .i64 (pre.length:Nat))/\W.frozen? ⟨w.heap.size+1+1,0,none⟩=false)/\Below w.heap.size w W)
  (fun _ _ _=>False)
  (OwnFrom.and (Own.from (fun s A B row hs hg hr=>⟨cell_kept hs.1 hg hr,(frozen_kept hs.1 hg hr).trans hs.2⟩) _) (ownFrom_below (by omega) (by omega)))
  (fun _ _ _ _ _ hs _ _=>hs)
  ⟨⟨hN.cell,hN.frozen⟩,hB5⟩
  (fun x=>{ tmps:=#[.agg #[.int .i64 vn,sv],.agg #[.int .i64 wn,sw],.pointer (some ⟨w.heap.size,0,none⟩),.pointer (some ⟨w.heap.size+1,0,none⟩),.int .i64 0,.pointer (some ⟨w.heap.size+1+1,0,none⟩),.agg #[.int .i64 vn,sv],.agg #[.int .i64 wn,sw],.func (.func 196) #[] #[.pointer (some ⟨w.heap.size+1+1+1,0,none⟩),.pointer (some ⟨w.heap.size+1+1+1+1,0,none⟩)],.agg #[.int .i64 x.node,.int .i64 x.life],undef,undef,undef],defers:=[] }) ?assign ?body ?done ?stop
 case assign =>
  intro l x W K hK;refine wpIn_skip ?_;show K _ _
  simpa using hK
 case body =>
  rintro l pre x W ⟨⟨hc,hf⟩,hB⟩ hlt;have hw64:(((pre++[x]).length:Nat):Int)=(pre.length:Nat)+1:=by simp
  gi_wp2
  exact⟨KeepsOthers.setCell _ _ _,kpB_set W _,⟨by rw [hw64];exact World.cell?_setCell_same' _ _ _ (by rw [hc];rfl),by rw [World.frozen?_setCell];exact hf⟩,hB.setCell (p:=⟨w.heap.size+1+1,0,none⟩) (by simp;omega) _⟩
 case done =>
  rintro D ys W hD rfl ⟨⟨hc,hf⟩,hB⟩ hK
  gi_wp2
  refine⟨by simp,.inl ⟨_,_,rfl,run_takeDeferred hK,?_⟩⟩;exact⟨_,results_tmp rfl _ _ _,rfl,hB.trans (belowK_b (w:=w) (Nat.le_refl _) W D _ _ (by omega) hK rfl rfl)⟩
 case stop =>
  rintro D c pre W _ _ h _;exact h.elim
def commonN (a b:List Mb):Nat:=(a.filter fun m=>decide (m∈b)).length
theorem mbs_of_rep {κ:Ghost}{W:World}{ms:List Mb}{o:Bool}{v:Value}(h:Rep Tryz.prog κ W (.sl (ms.map encMb) o) v):MbsAt W v ms:=by
 have hlen:(ms.map encMb).length=ms.length:=List.length_map _;generalize hl:ms.map encMb=l at h hlen;cases h with
 | nil =>
  have:ms=[]:=by cases ms with|nil=>rfl|cons a l=>cases hl
  exact .inl ⟨this,_,_,rfl⟩
 | emp _ a cap _ =>
  have:ms=[]:=by cases ms with|nil=>rfl|cons a l=>cases hl
  exact .inl ⟨this,_,_,rfl⟩
 | sl _ _ b off cap sz cv hcap hsz hk hw hr ho =>
  subst hl;rw [hlen] at hcap ⊢;refine .inr ⟨b,off,cap,rfl,hcap,fun j hj=>?_⟩;have h1:=(flatMb ms j).1 hj;have h2:=(flatMb ms 0).2;refine⟨?_,?_⟩
  ·rw [hw (2*j) (by omega)];exact congrArg some (rep_raw (hr _ _ h1.1))
  ·rw [hw (2*j+1) (by omega)];exact congrArg some (rep_raw (hr _ _ h1.2))
theorem rep_view {κ:Ghost}{W:World}{v:Vw}{x:Value}(h:Rep Tryz.prog κ W (encV v) x):∃ sv,x = .agg #[.int .i64 v.n,sv]/\MbsAt W sv v.ms:=by
 cases h with
 | agg _ vs hl hr =>
  obtain⟨l⟩:=vs
  match l,hl with
  | [a,b],_ =>
   have h0:a = .int .i64 v.n:=rep_raw (hr 0 _ a rfl rfl);subst h0;exact⟨b,rfl,mbs_of_rep (hr 1 _ b rfl rfl)⟩
theorem snd67 (v u:Vw)(M:Mem)(hl:v.ms.length<2^60)(hl2:u.ms.length<2^60):SoundCall Tryz.prog 67 [encV v,encV u] M fun r M'=>r=int (commonN v.ms u.ms:Nat)/\M'=M:=by
 intro κ w vs hs hh;obtain⟨l⟩:=vs
 match l,hs with
 | [a,b],_ =>
  obtain⟨sv,h1,h2⟩:=rep_view (hh.tmp 0);obtain⟨sw,h3,h4⟩:=rep_view (hh.tmp 1);have e0:a = .agg #[.int .i64 v.n,sv]:=h1;have e1:b = .agg #[.int .i64 u.n,sw]:=h3;subst e0;subst e1;refine (callsIn_wide.1 (common_in 3 (Nat.le_refl _) v.n u.n sv sw v.ms u.ms hl hl2 w h2 h4)).mono ?_;rintro e W' ⟨rfl,hB⟩;obtain⟨κ',g1,g2⟩:=hh.backW hB (.int .i64 (commonN v.ms u.ms:Nat));exact⟨_,κ',int (commonN v.ms u.ms:Nat),M,rfl,⟨rfl,rfl⟩,g1,g2⟩
end C17
