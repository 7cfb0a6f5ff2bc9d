import Derived.Test.YticeppepdlgbhaaGreatDoorHz
import Derived.Test.YticeppepdlgbhaaGreatDoorZw2
import Derived.Test.YticeppepdlgbhaaGreatDoorZw3
import Derived.Test.YticeppepdlgbhaaGreatDoorZw16
import Derived.Test.YticeppepdlgbhaaGreatDoorZa10
import Derived.Test.YticeppepdlgbhaaGreatDoorAmG
open Go Go.Proofs Go.Am
set_option linter.unusedVariables false
set_option linter.unusedSimpArgs false
set_option autoImplicit false
namespace C17
theorem goes73:goesB Tryz.prog 73=true:=C3.goes73
theorem goes74:goesB Tryz.prog 74=true:=C3.goes74
def nmL (x:Mc):List ByteArray:=sortS (x.tps.map (·.1))
def sbL (x:Mc):List Sb:=x.sbs.map (·.2)
def rmC (yd:ByteArray->Nat)(x:Mc)(vs:Value)(o1 o3:Bool):List AVal:=[.sl ((nmL x).map fun k=>ptr (yd k)) o1,.raw vs,.sl ((x.want.idx 7).map natV) o3,int x.cnt,int x.dig.re,int x.dig.im]
theorem uwSb:Uw encSb 4:=⟨fun _=>rfl,fun _=>rfl,fun _=>rfl,fun a X hX=>by
 simp only [encSb,AVal.cells,List.mem_cons,List.not_mem_nil,or_false] at hX;rcases hX with rfl|rfl|rfl|rfl<;>rfl⟩
theorem elsPtr {yd:ByteArray->Nat}{l:List ByteArray}:Els 1 (l.map fun k=>ptr (yd k)):=Els.map fun _=>⟨rfl,rfl⟩
theorem nmL_mem {x:Mc}{k:ByteArray}:k∈nmL x↔gets x.tps k≠none:=(List.mergeSort_perm _ _).mem_iff.trans mem_kget
theorem nmL_len (x:Mc):(nmL x).length=x.tps.length:=by
 unfold nmL sortS;rw [List.length_mergeSort,List.length_map]
def tpN (x:Mc):Tp:=⟨emp,0,0,x.tps.map fun p=>(p.1,(0,0,emp)),[]⟩
theorem tpN_names (x:Mc):(tpN x).kvs.map (·.1)=x.tps.map (·.1):=by
 unfold tpN;rw [List.map_map];rfl
theorem nmL_tpN (x:Mc):namesL (tpN x)=nmL x:=by
 unfold namesL nmL;rw [tpN_names]
theorem nmL_rise {x:Mc}(h:(x.tps.map (·.1)).Nodup):(nmL x).Pairwise fun a b=>a.data.toList<b.data.toList:=by
 rw [← nmL_tpN];exact namesL_sorted (by rw [tpN_names];exact h)
def nP (x:Mc):List KV:=(nmL x).map fun k=>(k,(0,0,emp))
theorem nP_names (x:Mc):(nP x).map (·.1)=nmL x:=by
 unfold nP;rw [List.map_map];show (nmL x).map (fun k=>k)=_
 rw [List.map_id']
theorem nP_rise {x:Mc}(h:(x.tps.map (·.1)).Nodup):Rise (nP x):=by
 unfold Rise;rw [nP_names];exact nmL_rise h
theorem nP_len (x:Mc):(nP x).length=(nmL x).length:=List.length_map _
theorem nP_get (x:Mc){i:Nat}(h:i<(nP x).length):(nP x)[i].1=(nmL x)[i]'(by rw [← nP_len];exact h):=by simp [nP]
theorem nmL_ins {x:Mc}{nm:ByteArray}{y:Tp}(h:(x.tps.map (·.1)).Nodup)(hg:gets x.tps nm=none)(x':Mc)(hx:x'.tps=ins x.tps nm y):nmL x'=(nmL x).take (findN (nP x) nm)++nm::(nmL x).drop (findN (nP x) nm):=by
 have hn:nm ∉ nmL x:=fun hm=>nmL_mem.1 hm hg
 have ht:thereB (nP x) nm=false:=by
  cases e:thereB (nP x) nm with
  | false=>rfl
  | true=>exact absurd ((there_iff (nP_rise h)).1 e) (by rw [nP_names];exact hn)
 have e1:(insK (nP x) nm (0,0,emp)).map (·.1)=(nmL x).take (findN (nP x) nm)++nm::(nmL x).drop (findN (nP x) nm):=by
  unfold insK;rw [ht,List.map_append,List.map_cons,List.map_take,List.map_drop,nP_names];rfl
 rw [← e1];have hnd:(x'.tps.map (·.1)).Nodup:=by
  rw [hx,ins_new hg,List.map_append];exact List.nodup_append.2 ⟨h,List.nodup_cons.2 ⟨List.not_mem_nil,List.nodup_nil⟩,fun a ha b hb e=>by
   obtain rfl:b=nm:=by simpa using hb
   exact mem_kget.1 (e ▸ ha) hg⟩
 refine rise_ext (nmL_rise hnd) (insK_rise (nP_rise h) nm _) fun q=>?_
 rw [nmL_mem,hx,gets_ins,mem_kget,insK_get (nP_rise h)];by_cases e:q=nm
 ·rw [if_pos e,if_pos e];exact⟨fun _ h=>(by cases h),fun _ h=>(by cases h)⟩
 ·rw [if_neg e,if_neg e,← nmL_mem,← nP_names,mem_kget]
theorem nmL_set {x:Mc}{nm:ByteArray}{y z:Tp}(hg:gets x.tps nm=some z)(x':Mc)(hx:x'.tps=ins x.tps nm y):nmL x'=nmL x:=by
 unfold nmL;rw [hx,ins_names hg]
def subI (x:Mc)(nm:ByteArray):Int:=match (sbL x).findIdx? (fun s=>decide (s.name=nm)) with
 | some i=>i
 | none=>-1
theorem subI_at {x:Mc}{nm:ByteArray}{i:Nat}(hi:i<(sbL x).length)(hlow:∀ j,∀ h:j<(sbL x).length,j<i->(sbL x)[j].name≠nm)(he:(sbL x)[i].name=nm):subI x nm=i:=by
 have:(sbL x).findIdx? (fun s=>decide (s.name=nm))=some i:=List.findIdx?_eq_some_iff_getElem.2 ⟨hi,by simpa using he,fun j hj=>by simpa using hlow j (by omega) hj⟩;unfold subI;rw [this]
theorem subI_no {x:Mc}{nm:ByteArray}(hlow:∀ j,∀ h:j<(sbL x).length,(sbL x)[j].name≠nm):subI x nm = -1:=by
 have:(sbL x).findIdx? (fun s=>decide (s.name=nm))=none:=List.findIdx?_eq_none_iff.2 fun s hs=>by
  obtain⟨j,hj,rfl⟩:=List.mem_iff_getElem.1 hs;simpa using hlow j hj
 unfold subI;rw [this]
abbrev Tps (M:Mem)(yd:ByteArray->Nat)(x:Mc):Prop:=∀ k∈nmL x,∃ y P q1 q2,y.name=k/\M (yd k)=some (.cells (ryC y P q1 q2))
theorem tps_le {M M':Mem}{yd:ByteArray->Nat}{x:Mc}(h:Tps M yd x)(hle:M.le M'):Tps M' yd x:=fun k hk=>by
 obtain⟨y,P,q1,q2,e1,e2⟩:=h k hk;exact⟨y,P,q1,q2,e1,hle _ _ e2⟩
structure RmIs (M:Mem)(d:Nat)(yd:ByteArray->Nat)(vs:Value)(x:Mc)(O:Nat->Prop):Prop where
 hd:∃ o1 o3,M d=some (.cells (rmC yd x vs o1 o3))
 hw:Ws encSb 4 M vs (sbL x)
 tp:∀ k y,gets x.tps k=some y->∃ q1 q2,M (yd k)=some (.cells (ryC y (ksL y) q1 q2))
 od:O d
 oa:∀ k y,gets x.tps k=some y->O (yd k)/\yd k≠d/\¬ bOf vs (yd k)
 ob:∀ b,bOf vs b->O b/\b≠d
 inj:∀ k k' y y',gets x.tps k=some y->gets x.tps k'=some y'->k≠k'->yd k≠yd k'
 ok:∀ c,O c->M c≠none
def RmAt (M:Mem)(d:Nat)(x:Mc)(O:Nat->Prop):Prop:=∃ yd vs,RmIs M d yd vs x O
structure DcOk (n:Nat)(x:Mc):Prop where
 tp:∀ k y,gets x.tps k=some y->y.name=k/\BackOk n y
 nt:(x.tps.map (·.1)).Nodup
 lt:x.tps.length<=20
 sb:∀ p∈x.sbs,p.2.name=p.1/\p.1.size<=20/\∃ y,gets x.tps p.2.topic=some y
 ns:(x.sbs.map (·.1)).Nodup
 ls:x.sbs.length<=50
 dig:C3.right x.dig=true
 cnt:0<=x.cnt/\x.cnt<=n
end C17
