import Derived.Test.YticeppepdlgbhaaGreatDoorHz
import Derived.Test.YticeppepdlgbhaaGreatDoorZw11
open Go Go.Proofs Go.Am
set_option linter.unusedVariables false
set_option linter.unusedSimpArgs false
set_option autoImplicit false
namespace C17
section
variable {M M':Mem}{d:Nat}{x:Mc}{O:Nat->Prop}{n:Nat}{c:Cmd}{k:ByteArray}{y z:Tp}
theorem creD (h:RmAt M d x O)(ho:DcOk n x)(hw:word c.topic=true):SoundCall Tryz.prog 76 [ptr d,encC c] M fun r M'=>RP r (creM x c).2/\RAft M M' d (creM x c).1 O:=by
 obtain⟨yd,vs,h⟩:=h;obtain⟨o1,o3,hd⟩:=h.hd;have ht:=h.tps ho;unfold creM;cases hg:gets x.tps c.topic with
 | some y=>exact rnRP (snd76a d yd x vs o1 o3 c M hd ht ho.nl (nmL_mem.2 (by rw [hg];exact fun h=>by cases h))) fun r M' ⟨h1,h2⟩=>⟨.inr ⟨rfl,h1⟩,.same h h2⟩
 | none =>
  have hin:c.topic ∉ nmL x:=fun hm=>nmL_mem.1 hm hg
  dsimp only;by_cases h20:20<=x.tps.length
  ·rw [if_pos h20];exact rnRP (snd76b d yd x vs o1 o3 c M hd ht ho.nl hin (by rw [nmL_len];exact h20)) fun r M' ⟨h1,h2⟩=>⟨.inr ⟨rfl,h1⟩,.same h h2⟩
  ·rw [if_neg h20];exact rnRP (snd76c d yd x vs o1 o3 c M hd ht ho.nl hin (by rw [nmL_len];omega) hw) fun r M' ⟨a,h1,h2,h3,h4,h5⟩=>⟨.inr ⟨rfl,h2⟩,h.addT ho hg h1 h3 h4 h5⟩
theorem chgD (h:RmAt M d x O)(ho:DcOk n x)(hn:n<2^30)(hs:c.name.size<2^63):SoundCall Tryz.prog 77 [ptr d,encC c] M fun r M'=>RP r (chgM x c).2/\RAft M M' d (chgM x c).1 O:=by
 obtain⟨yd,vs,h⟩:=h;obtain⟨o1,o3,hd⟩:=h.hd;have ht:=h.tps ho;unfold chgM;cases hg:gets x.tps c.topic with
 | none=>exact rnRP (snd77a d yd x vs o1 o3 c M hd ht ho.nl (fun hm=>nmL_mem.1 hm hg)) fun r M' ⟨h1,h2⟩=>⟨.inr ⟨rfl,h1⟩,.same h h2⟩
 | some y =>
  obtain⟨p1,p2,hy⟩:=h.tp _ _ hg;exact rnRP (snd77b d yd x vs o1 o3 c M hd ht ho.nl y p1 p2 hy n (ho.tp _ _ hg).2 hn hs (nmL_mem.2 (by rw [hg];exact fun h=>by cases h)) _ _ _ rfl) fun r M' ⟨h1,q1,q2,h2,h3⟩=>⟨.inr ⟨rfl,h1⟩,h.setT hg h2 h3⟩
theorem wanD (h:RmAt M d x O)(hc:0<=c.n/\c.n<7):SoundCall Tryz.prog 79 [ptr d,encC c] M fun r M'=>RP r (wanM x c).2/\RAft M M' d (wanM x c).1 O:=by
 obtain⟨yd,vs,h⟩:=h;obtain⟨o1,o3,hd⟩:=h.hd;unfold wanM;by_cases hz:wanW x c = .zero
 ·rw [if_pos hz];exact rnRP (snd79 d yd x vs o1 o3 c M hd hc) fun r M' hq=>hq.elim (fun ⟨_,h1,h2⟩=>⟨.inr ⟨rfl,h1⟩,.same h h2⟩) fun ⟨h1,_⟩=>absurd hz h1
 ·rw [if_neg hz];exact rnRP (snd79 d yd x vs o1 o3 c M hd hc) fun r M' hq=>hq.elim (fun ⟨h1,_⟩=>absurd h1 hz) fun ⟨_,h1,h2,h3⟩=>⟨.inr ⟨rfl,h1⟩,h.setW h2 h3⟩
theorem sub_some (ho:DcOk n x){nm:ByteArray}{s:Sb}(hg:kget x.sbs nm=some s):∃ i,∃ hi:i<(sbL x).length,subI x nm=i/\(sbL x)[i]=s/\∀ s2,(kput x.sbs nm s2).map (·.2)=(sbL x).set i s2:=by
 obtain⟨j,hj⟩:=idx_of_gets (show gets x.sbs nm=some s from hg);obtain⟨hlt,hp,hlow⟩:=List.findIdx?_eq_some_iff_getElem.1 hj;have hp2:x.sbs[j].1=nm:=by simpa using hp
 have hln:(sbL x).length=x.sbs.length:=List.length_map _;have hget:∀ i (hi:i<(sbL x).length),(sbL x)[i]=(x.sbs[i]'(by omega)).2:=fun i hi=>by simp [sbL]
 have hj2:j<(sbL x).length:=by omega
 have hsv:x.sbs[j].2=s:=by
  have:=kget_pair ho.ns (List.getElem_mem hlt);rw [hp2,hg] at this;exact (Option.some.inj this).symm
 refine⟨j,hj2,subI_at hj2 (fun i hi hij he=>?_) (by rw [hget,(ho.sb _ (List.getElem_mem hlt)).1,hp2]),by rw [hget,hsv],fun s2=>?_⟩
 ·rw [hget,(ho.sb _ (List.getElem_mem (by omega))).1] at he;exact hlow i hij (by simpa using he)
 ·unfold kput sbL;rw [hj,List.map_set]
theorem sub_none (ho:DcOk n x){nm:ByteArray}(hg:kget x.sbs nm=none):subI x nm = -1:=by
 have hln:(sbL x).length=x.sbs.length:=List.length_map _;refine subI_no fun j hj he=>?_
 have hget:(sbL x)[j]=(x.sbs[j]'(by omega)).2:=by simp [sbL]
 rw [hget,(ho.sb _ (List.getElem_mem (by omega))).1] at he;exact mem_kget.1 (by rw [← he];exact List.mem_map.2 ⟨_,List.getElem_mem (by omega),rfl⟩) hg
theorem subD (h:RmAt M d x O)(ho:DcOk n x)(hs:c.name.size<2^63):SoundCall Tryz.prog 78 [ptr d,encC c] M fun r M'=>RP r (subM x c).2/\RAft M M' d (subM x c).1 O:=by
 obtain⟨yd,vs,h⟩:=h;obtain⟨o1,o3,hd⟩:=h.hd;have ht:=h.tps ho;have hbd:∀ b,bOf vs b->b≠d:=fun b hb=>(h.ob b hb).2
 have hln:(sbL x).length=x.sbs.length:=List.length_map _;unfold subM;cases hg:gets x.tps c.topic with
 | none=>exact rnRP (snd78a d yd x vs o1 o3 c M hd ht ho.nl (fun hm=>nmL_mem.1 hm hg)) fun r M' ⟨h1,h2⟩=>⟨.inr ⟨rfl,h1⟩,.same h h2⟩
 | some y =>
  have hin:c.topic∈nmL x:=nmL_mem.2 (by rw [hg];exact fun h=>by cases h);obtain⟨p1,p2,hy⟩:=h.tp _ _ hg;dsimp only;cases hk:kget x.sbs c.name with
  | some s =>
   obtain⟨i,hi,hsi,-⟩:=sub_some ho hk;exact rnRP (snd78b d yd x vs o1 o3 c M hd ht ho.nl h.hw hbd ho.sl hin (by omega)) fun r M' ⟨h1,h2⟩=>⟨.inr ⟨rfl,h1⟩,.same h h2⟩
  | none =>
   have hsi:=sub_none ho hk;dsimp only;by_cases h50:50<=x.sbs.length
   ·rw [if_pos h50];exact rnRP (snd78c d yd x vs o1 o3 c M hd ht ho.nl h.hw hbd ho.sl hin (by omega) (by omega)) fun r M' ⟨h1,h2⟩=>⟨.inr ⟨rfl,h1⟩,.same h h2⟩
   ·rw [if_neg h50];have key:=snd78d d yd x vs o1 o3 c M hd ht ho.nl h.hw hbd ho.sl y p1 p2 hy hs hin (by omega) (by omega) _ _ rfl;by_cases he:(newS c.name y c.n).2=0
    ·simp only [if_pos he];refine rnRP key fun r M' hq=>hq.elim (fun ⟨h1,_⟩=>absurd he h1) fun ⟨_,h1,b,kk,R,g1,g2,g3,g4,g5⟩=>⟨.inr ⟨rfl,by rw [he];exact h1⟩,h.addS ?_ g1 g2 g3 g4 g5⟩
     rw [show kput x.sbs c.name (newS c.name y c.n).1=x.sbs++[(c.name,(newS c.name y c.n).1)] from ins_new hk,List.map_append];rfl
    ·simp only [if_neg he];exact rnRP key fun r M' hq=>hq.elim (fun ⟨_,h1,h2⟩=>⟨.inr ⟨rfl,h1⟩,.same h h2⟩) fun ⟨h1,_⟩=>absurd h1 he
theorem ack_name (s:Sb)(o:Int):(ackS s o).1.name=s.name:=by unfold ackS;split<;>rfl
theorem seek_name (s:Sb)(y:Tp)(o:Int):(seekS s y o).1.name=s.name:=by unfold seekS;split<;>rfl
theorem poll_name (s:Sb)(y:Tp)(o:Int):(pollS s y o).1.name=s.name:=by unfold pollS;split<;>rfl
theorem poll_recs {s:Sb}{y:Tp}{o:Int}(h:¬ (pollS s y o).2.2=0):(pollS s y o).2.1=[]:=by
 unfold pollS at h ⊢;split
 ·rename_i hc;rw [if_pos hc] at h;exact absurd rfl h
 ·rfl
theorem fol_recs {s:Sb}{y:Tp}(h:¬ (folS s y c).2.1=0):(folS s y c).2.2.2=[]:=by
 unfold folS at h ⊢;split
 ·rfl
 ·rename_i h4;rw [if_neg h4] at h;split
  ·rename_i h5;rw [if_pos h5] at h;exact poll_recs h
  ·split<;>rfl
theorem folD (h:RmAt M d x O)(ho:DcOk n x)(hn:n<2^30)(hk:c.kind=4\/c.kind=5\/c.kind=6\/c.kind=7):SoundCall Tryz.prog 80 [ptr d,encC c] M fun r M'=>RP r (folM x c).2/\RAft M M' d (folM x c).1 O:=by
 obtain⟨yd,vs,h⟩:=h;obtain⟨o1,o3,hd⟩:=h.hd;have ht:=h.tps ho;unfold folM;cases hg:kget x.sbs c.name with
 | none =>
  have hsi:=sub_none ho hg;exact rnRP (snd80a d yd x vs o1 o3 c M hd h.hw ho.sl (by omega)) fun r M' ⟨h1,h2⟩=>⟨.inr ⟨rfl,h1⟩,.same h h2⟩
 | some s =>
  obtain⟨i,hi,hsi,hsv,hset⟩:=sub_some ho hg;have hmem:(c.name,s)∈x.sbs:=gets_mem (show gets x.sbs c.name=some s from hg);obtain⟨hnm,hsz,y,hy⟩:=ho.sb _ hmem;have hnm:s.name=c.name:=hnm;have hsz:c.name.size<=20:=hsz;have hy:gets x.tps s.topic=some y:=hy;obtain⟨hyn,hB⟩:=ho.tp _ _ hy;have htz:=word_le (hyn ▸ hB.ok.name);have hin:s.topic∈nmL x:=nmL_mem.2 (by rw [hy];exact fun h=>by cases h);obtain⟨p1,p2,hym⟩:=h.tp _ _ hy;obtain⟨b,kk,R,rfl,hR,hb⟩:=h.hw.get (by omega);have hbd:b≠d:=(h.ob b ⟨_,_,rfl,by omega⟩).2;have hs1:s.name.size<2^63:=by rw [hnm];omega
  have hfin:∀ {M':Mem} {s2:Sb},M' b=some (.cells (fl encSb ((sbL x).set i s2)++R))->(∀ c0 o0,c0≠b->M c0=some o0->M' c0=some o0)->RAft M M' d ⟨x.tps,kput x.sbs c.name s2,x.want,x.cnt,x.dig⟩ O:=fun {M'} {s2} g1 g2 =>
   h.setS rfl (by omega) (hset s2) (List.length_set ..) hR g1 g2
  simp only [hy];by_cases he:(folS s y c).2.1=0
  ·simp only [if_pos he];rcases hk with hk|hk|hk|hk
   ·have hf:folS s y c=(attS s,0,(attS s).cur,[]):=by unfold folS;rw [if_pos hk]
    rw [hf];exact rnRP (snd80t d yd x b kk R o1 o3 c M hd hR hb ht ho.nl hbd ho.sl i hi hsi s hsv hs1 (by omega) hin y p1 p2 hym _ rfl hk) fun r M' ⟨h1,g1,g2⟩=>⟨.inr ⟨rfl,h1⟩,hfin g1 g2⟩
   ·have hf:folS s y c=((pollS s y c.n).1,(pollS s y c.n).2.2,(pollS s y c.n).1.nxt,(pollS s y c.n).2.1):=by unfold folS;rw [if_neg (by omega),if_pos hk]
    rw [hf] at he ⊢;have he:(pollS s y c.n).2.2=0:=he;exact rnRP (snd80p d yd x b kk R o1 o3 c M hd hR hb ht ho.nl hbd ho.sl i hi hsi s hsv hs1 (by omega) hin y p1 p2 hym n hB hn _ _ _ rfl hk) fun r M' hq=>hq.elim (fun ⟨h1,_⟩=>absurd he h1) fun ⟨_,h1,g1,g2⟩=>⟨.inl (by rw [he];exact h1),hfin g1 g2⟩
   ·have hf:folS s y c=((ackS s c.n).1,(ackS s c.n).2,(ackS s c.n).1.cur,[]):=by unfold folS;rw [if_neg (by omega),if_neg (by omega),if_pos hk]
    rw [hf] at he ⊢;have he:(ackS s c.n).2=0:=he;exact rnRP (snd80k d yd x b kk R o1 o3 c M hd hR hb ht ho.nl hbd ho.sl i hi hsi s hsv hs1 (by omega) hin y p1 p2 hym _ _ rfl hk) fun r M' hq=>hq.elim (fun ⟨h1,_⟩=>absurd he h1) fun ⟨_,h1,g1,g2⟩=>⟨.inr ⟨rfl,by rw [he];exact h1⟩,hfin g1 g2⟩
   ·have hf:folS s y c=((seekS s y c.n).1,(seekS s y c.n).2,(seekS s y c.n).1.cur,[]):=by unfold folS;rw [if_neg (by omega),if_neg (by omega),if_neg (by omega)]
    rw [hf] at he ⊢;have he:(seekS s y c.n).2=0:=he;exact rnRP (snd80s d yd x b kk R o1 o3 c M hd hR hb ht ho.nl hbd ho.sl i hi hsi s hsv hs1 (by omega) hin y p1 p2 hym _ _ rfl hk) fun r M' hq=>hq.elim (fun ⟨h1,_⟩=>absurd he h1) fun ⟨_,h1,g1,g2⟩=>⟨.inr ⟨rfl,by rw [he];exact h1⟩,hfin g1 g2⟩
  ·have hrec:=fol_recs he;simp only [if_neg he];rcases hk with hk|hk|hk|hk
   ·have hf:folS s y c=(attS s,0,(attS s).cur,[]):=by unfold folS;rw [if_pos hk]
    rw [hf] at he;exact absurd rfl he
   ·have hf:folS s y c=((pollS s y c.n).1,(pollS s y c.n).2.2,(pollS s y c.n).1.nxt,(pollS s y c.n).2.1):=by unfold folS;rw [if_neg (by omega),if_pos hk]
    rw [hf] at he hrec ⊢;exact rnRP (snd80p d yd x b kk R o1 o3 c M hd hR hb ht ho.nl hbd ho.sl i hi hsi s hsv hs1 (by omega) hin y p1 p2 hym n hB hn _ _ _ rfl hk) fun r M' hq=>hq.elim (fun ⟨_,h1,h2⟩=>⟨.inr ⟨hrec,h1⟩,.same h h2⟩) fun ⟨h1,_⟩=>absurd h1 he
   ·have hf:folS s y c=((ackS s c.n).1,(ackS s c.n).2,(ackS s c.n).1.cur,[]):=by unfold folS;rw [if_neg (by omega),if_neg (by omega),if_pos hk]
    rw [hf] at he ⊢;exact rnRP (snd80k d yd x b kk R o1 o3 c M hd hR hb ht ho.nl hbd ho.sl i hi hsi s hsv hs1 (by omega) hin y p1 p2 hym _ _ rfl hk) fun r M' hq=>hq.elim (fun ⟨_,h1,h2⟩=>⟨.inr ⟨rfl,h1⟩,.same h h2⟩) fun ⟨h1,_⟩=>absurd h1 he
   ·have hf:folS s y c=((seekS s y c.n).1,(seekS s y c.n).2,(seekS s y c.n).1.cur,[]):=by unfold folS;rw [if_neg (by omega),if_neg (by omega),if_neg (by omega)]
    rw [hf] at he ⊢;exact rnRP (snd80s d yd x b kk R o1 o3 c M hd hR hb ht ho.nl hbd ho.sl i hi hsi s hsv hs1 (by omega) hin y p1 p2 hym _ _ rfl hk) fun r M' hq=>hq.elim (fun ⟨_,h1,h2⟩=>⟨.inr ⟨rfl,h1⟩,.same h h2⟩) fun ⟨h1,_⟩=>absurd h1 he
end
end C17
open Go Go.Proofs Go.Am
set_option linter.unusedVariables false
set_option linter.unusedSimpArgs false
set_option autoImplicit false
namespace C17
section
variable {x:Mc}{n:Nat}{c:Cmd}{y:Tp}
theorem pub_name (x:Tp)(p:ByteArray)(seq:Int)(k v:ByteArray):(pub x p seq k v).1.name=x.name:=by
 unfold pub;split
 ·split
  ·split
   ·rfl
   ·split<;>rfl
  ·rfl
 ·rfl
theorem trim_name (x:Tp)(k:Int):(trimT x k).1.name=x.name:=by
 unfold trimT;split
 ·rfl
 ·split<;>rfl
theorem chg_back (h:BackOk n y)(hn:n<2^40):BackOk (n+1) (chgT y c).1/\(chgT y c).1.name=y.name:=by
 unfold chgT;split
 ·exact⟨back_pub h hn _ _ _ _,pub_name ..⟩
 ·split
  ·exact⟨(back_trim' h _).mono (by omega),trim_name ..⟩
  ·exact⟨(back_comp h _).mono (by omega),rfl⟩
theorem DcOk.mono (h:DcOk n x){m:Nat}(hm:n<=m):DcOk m x:=⟨fun k y e=>⟨(h.tp k y e).1,(h.tp k y e).2.mono hm⟩,h.nt,h.lt,h.sb,h.ns,h.ls,h.dig,h.cnt.1,by have:=h.cnt.2;omega⟩
theorem dc_cnt (h:DcOk n x)(s:ByteArray):DcOk (n+1) (cntM x s):=⟨fun k y e=>⟨(h.tp k y e).1,(h.tp k y e).2.mono (by omega)⟩,h.nt,h.lt,h.sb,h.ns,h.ls,C3.md_right _,by have:=h.cnt.1;show 0<=x.cnt+1;omega,by have:=h.cnt.2;show x.cnt+1<=((n+1:Nat):Int);omega⟩
theorem fol_name (s:Sb)(y:Tp)(c:Cmd):(folS s y c).1.name=s.name:=by
 unfold folS;split
 ·rfl
 ·split
  ·exact poll_name ..
  ·split
   ·exact ack_name ..
   ·exact seek_name ..
theorem new_name {nm:ByteArray}{f:Int}(h:(newS nm y f).2=0):(newS nm y f).1.name=nm/\word nm=true:=by
 unfold newS at h ⊢;by_cases hc:(word nm && decide ((if f<0 then y.en else f)<=y.en))=true
 ·rw [if_pos hc];simp only [Bool.and_eq_true] at hc;exact⟨rfl,hc.1⟩
 ·rw [if_neg hc] at h;exact absurd (show (7:Int)=0 from h) (by decide)
theorem dc_tps (h:DcOk n x){k:ByteArray}{z:Tp}(hz:z.name=k/\BackOk (n+1) z)(hl:gets x.tps k=none->x.tps.length<20):DcOk (n+1) ⟨ins x.tps k z,x.sbs,x.want,x.cnt,x.dig⟩:=by
 refine⟨fun q w e=>?_,?_,?_,fun p hp=>?_,h.ns,h.ls,h.dig,h.cnt.1,by have:=h.cnt.2;show x.cnt<=((n+1:Nat):Int);omega⟩
 ·have e':gets (ins x.tps k z) q=some w:=e;rw [gets_ins] at e';split at e'
  ·rename_i hq;cases e';rw [hq];exact hz
  ·exact⟨(h.tp q w e').1,(h.tp q w e').2.mono (by omega)⟩
 ·show ((ins x.tps k z).map (·.1)).Nodup
  cases hg:gets x.tps k with
  | some w=>rw [ins_names hg];exact h.nt
  | none =>
   rw [ins_new hg,List.map_append];exact List.nodup_append.2 ⟨h.nt,List.nodup_cons.2 ⟨List.not_mem_nil,List.nodup_nil⟩,fun a ha b hb e=>by
    obtain rfl:b=k:=by simpa using hb
    exact mem_kget.1 (e ▸ ha) hg⟩
 ·show (ins x.tps k z).length<=20
  cases hg:gets x.tps k with
  | some w=>rw [ins_len_some hg];exact h.lt
  | none=>rw [ins_new hg,List.length_append];have:=hl hg;simp;omega
 ·obtain⟨h1,h2,w,h3⟩:=h.sb p hp;refine⟨h1,h2,?_⟩;show ∃ w,gets (ins x.tps k z) p.2.topic=some w
  rw [gets_ins];split
  ·exact⟨_,rfl⟩
  ·exact⟨w,h3⟩
theorem doC_dc (h:DcOk n x)(hn:n<2^40)(hr:rightC c=true):DcOk (n+1) (doC x c).1:=by
 have hm:=h.mono (Nat.le_succ n);unfold doC;split
 ·rename_i hk;unfold creM;cases hg:gets x.tps c.topic with
  | some w=>exact hm
  | none =>
   dsimp only;split
   ·exact hm
   ·exact dc_tps h ⟨rfl,(back_new (right_word hr (by unfold nTopic;simp [hk]))).mono (by omega)⟩ fun _=>by omega
 ·split
  ·unfold subM;cases hg:gets x.tps c.topic with
   | none=>exact hm
   | some y =>
    dsimp only;cases hk:kget x.sbs c.name with
    | some s=>exact hm
    | none =>
     dsimp only;split
     ·exact hm
     ·rename_i h50;by_cases he:(newS c.name y c.n).2=0
      ·rw [if_pos he];have hnew:kput x.sbs c.name (newS c.name y c.n).1=x.sbs++[(c.name,(newS c.name y c.n).1)]:=ins_new hk;obtain⟨g1,g2⟩:=new_name he;refine⟨hm.tp,hm.nt,hm.lt,fun p hp=>?_,?_,?_,hm.dig,hm.cnt⟩
       ·have hp':p∈kput x.sbs c.name (newS c.name y c.n).1:=hp;rcases kput_mem hp' with rfl|hp'
        ·exact⟨g1,word_le g2,y,by show gets x.tps (newS c.name y c.n).1.topic=_;rw [new_topic he,(h.tp _ _ hg).1];exact hg⟩
        ·exact h.sb p hp'
       ·show ((kput x.sbs c.name _).map (·.1)).Nodup
        rw [hnew,List.map_append];exact List.nodup_append.2 ⟨h.ns,List.nodup_cons.2 ⟨List.not_mem_nil,List.nodup_nil⟩,fun a ha b hb e=>by
         obtain rfl:b=c.name:=by simpa using hb
         exact mem_kget.1 (e ▸ ha) hk⟩
       ·show (kput x.sbs c.name _).length<=50
        rw [hnew,List.length_append];simp;omega
      ·rw [if_neg he];exact hm
  ·split
   ·unfold chgM;cases hg:gets x.tps c.topic with
    | none=>exact hm
    | some y =>
     obtain⟨h1,h2⟩:=h.tp _ _ hg;have h3:=chg_back (c:=c) h2 hn;exact dc_tps h ⟨h3.2.trans h1,h3.1⟩ fun e=>by rw [hg] at e;cases e
   ·split
    ·unfold folM;cases hk:kget x.sbs c.name with
     | none=>exact hm
     | some s =>
      dsimp only;cases hg:gets x.tps s.topic with
      | none=>exact hm
      | some y =>
       dsimp only;by_cases he:(folS s y c).2.1=0
       ·rw [if_pos he];obtain⟨g1,g2,g3⟩:=h.sb _ (gets_mem (show gets x.sbs c.name=some s from hk));refine⟨hm.tp,hm.nt,hm.lt,fun p hp=>?_,?_,?_,hm.dig,hm.cnt⟩
        ·have hp':p∈kput x.sbs c.name (folS s y c).1:=hp;rcases kput_mem hp' with rfl|hp'
         ·exact⟨(fol_name s y c).trans g1,g2,y,by show gets x.tps (folS s y c).1.topic=_;rw [fol_topic];exact hg⟩
         ·exact h.sb p hp'
        ·show ((ins x.sbs c.name _).map (·.1)).Nodup
         rw [ins_names (show gets x.sbs c.name=some s from hk)];exact h.ns
        ·show (ins x.sbs c.name _).length<=50
         rw [ins_len_some (show gets x.sbs c.name=some s from hk)];exact h.ls
       ·rw [if_neg he];exact hm
    ·unfold wanM;split
     ·exact hm
     ·exact⟨hm.tp,hm.nt,hm.lt,hm.sb,hm.ns,hm.ls,hm.dig,hm.cnt⟩
theorem step_dc (h:DcOk n x)(hn:n+1<2^40)(s:ByteArray):DcOk (n+2) (stepM x s).1:=by
 unfold stepM;split
 ·exact (dc_cnt h s).mono (by omega)
 ·rename_i he;exact doC_dc (dc_cnt h s) hn (decC_right (by simpa using he))
theorem new_dc (N:Nat):DcOk 0 (newM N) where
 tp:=fun k y e=>absurd (show (none:Option Tp)=some y from e) (by simp)
 nt:=List.nodup_nil
 lt:=Nat.zero_le _
 sb:=fun p hp=>absurd hp List.not_mem_nil
 ns:=List.nodup_nil
 ls:=Nat.zero_le _
 dig:=by kernel_rfl
 cnt:=⟨Int.le_refl _,Int.le_refl _⟩
end
end C17
