import Derived.Test.YthmhdhmfkegpiaaGreatDoorHz
import Derived.Test.YthmhdhmfkegpiaaGreatDoorNn26
import Derived.Test.YthmhdhmfkegpiaaGreatDoorAmH
open Go Go.Proofs Go.Am
set_option linter.unusedVariables false
set_option linter.unusedSimpArgs false
set_option autoImplicit false
set_option maxHeartbeats 4000000
set_option maxRecDepth 20000
namespace C17
theorem ag46:aggT Tryz.prog 46=some false:=by kernel_rfl
theorem fo49_1:fo Tryz.prog 49 1=some (1,1):=by kernel_rfl
theorem sf53_0:sfo Tryz.prog 53 0=some (0,false,1):=by kernel_rfl
theorem sz46:sizeT Tryz.prog 46=some 1:=by kernel_rfl
theorem sz83:sizeT Tryz.prog 83=some 5:=by kernel_rfl
theorem und41:Tryz.prog.underlying 41=some (.pointer 134):=by kernel_rfl
theorem und46:Tryz.prog.underlying 46=some (.slice 101):=by kernel_rfl
theorem und47:Tryz.prog.underlying 47=some (.slice 83):=by kernel_rfl
def tk11:Nat->Nat->Option Nat:=fun _ _=>none
def pl11:Nat->List PStep:=fun _=>[]
theorem cb11:Tryz.f11.body.map (codeB Tryz.prog Tryz.f11.ntmps tk11 pl11)=some true:=by kernel_rfl
theorem goes11:goesB Tryz.prog 11=true:=by kernel_rfl
theorem goes19:goesB Tryz.prog 19=true:=by kernel_rfl
def cmA:Cmd:=⟨1,⟨#[97]⟩,emp,0,emp,emp,0,0,0⟩
theorem rightA:rightC cmA=true:=by kernel_rfl
abbrev txA:ByteArray:=txt cmA
theorem txA_eq:txA=bytC cmA:=if_pos rightA
theorem decA:(decC txA).2=0:=by rw [txA_eq,decC_cmd rightA]
theorem doA (n:Nat):(stepM (newM n) txA).2=(doM (newM n) cmA).2:=congrArg Prod.snd (step_txt (newM n) cmA)
theorem doA1:(stepM (newM 1) txA).2.code=0:=by rw [doA];kernel_rfl
theorem txA_size:txA.size<=1000:=by
 have h:(bytC cmA).size<=1000:=by decide +kernel
 rw [txA_eq];exact h
def valN (n:Nat):ByteArray:=(encF ⟨1,firstMs n⟩ []).1
def xN (n:Nat):Nd:=begX (newX ⟨0,1⟩ (n:Nat)) ⟨1,firstMs n⟩ (valN n)
def oN (n:Nat):Od:=newO 0 ((firstMs n).map Mb.node) []
def f00:Nat->Int×Int:=fun _=>(0,0)
theorem px1:primN (xN 1) f00 0=true:=by kernel_rfl
theorem fx1:firstN (xN 1)=true:=by kernel_rfl
theorem py3:primN (xN 3) f00 0=false:=by kernel_rfl
def oX':Od:=(propO (oN 1) txA).1
theorem addA:addB (oN 1) txA<=45000:=by
 have h:addB (oN 1) (bytC cmA)<=45000:=by decide +kernel
 rw [txA_eq];exact h
theorem putA:putO (oN 1) txA=(⟨0,[0],[txA],addB (oN 1) txA,0,[1,0,0,0,0,0,0]⟩,true):=by
 unfold putO;rw [if_neg (by have:=addA;omega)];rfl
theorem propA:propO (oN 1) txA=(oX',0,0):=by
 refine Prod.ext rfl ?_;show (propO (oN 1) txA).2=(0,0)
 unfold propO;rw [if_pos (show firstO (oN 1)=true by kernel_rfl),putA];rfl
theorem oX_eq:oX'=settleO ⟨0,[0],[txA],addB (oN 1) txA,0,[1,0,0,0,0,0,0]⟩:=by
 unfold oX' propO;rw [if_pos (show firstO (oN 1)=true by kernel_rfl),putA];rfl
theorem oX_log:oX'.log=[]++([txA]++[]):=by rw [oX_eq];rfl
theorem oX_sure:oX'.sure=1:=by rw [oX_eq];rfl
theorem okO1:OK (oN 1):=new_ok (by kernel_rfl)
theorem NdAt.keep {ge:TypeId}{gf:Nat×Nat}{M M':Mem}{b bo bm s c:Nat}{x:Nd}{o:Od}{mc:Mc}{n:Int}{f:Nat->Int×Int}{now:Int}{pp:AVal}{O:Nat->Prop}(h:NdAt ge gf M b bo bm s c x o mc n f now pp O)(hk:∀ d,(d=0\/d=b\/d=bo\/d=s\/d=c\/O d)->M' d=M d):NdAt ge gf M' b bo bm s c x o mc n f now pp O :=
 ⟨(hk b (by simp)).trans h.hb,(hk bo (by simp)).trans h.ho,h.hm.fr (fun d hd=>hk d (by simp [hd])) (hk 0 (by simp)),(hk s (by simp)).trans h.hs,(hk c (by simp)).trans h.hc,h.nO,h.ne⟩
theorem NdAt.some {ge:TypeId}{gf:Nat×Nat}{M:Mem}{b bo bm s c:Nat}{x:Nd}{o:Od}{mc:Mc}{n:Int}{f:Nat->Int×Int}{now:Int}{pp:AVal}{O:Nat->Prop}(h:NdAt ge gf M b bo bm s c x o mc n f now pp O){d:Nat}(hd:d=0\/d=b\/d=bo\/d=s\/d=c\/O d):M d≠none:=by
 rcases hd with rfl|rfl|rfl|rfl|rfl|hd
 ·exact nnS h.hm.g
 ·exact nnS h.hb
 ·exact nnS h.ho
 ·exact nnS h.hs
 ·exact nnS h.hc
 ·exact h.hm.at'.ok d hd
theorem NdAt.le {ge:TypeId}{gf:Nat×Nat}{M M':Mem}{b bo bm s c:Nat}{x:Nd}{o:Od}{mc:Mc}{n:Int}{f:Nat->Int×Int}{now:Int}{pp:AVal}{O:Nat->Prop}(h:NdAt ge gf M b bo bm s c x o mc n f now pp O)(hk:∀ d,M d≠none->M' d=M d):NdAt ge gf M' b bo bm s c x o mc n f now pp O:=h.keep fun d hd=>hk d (h.some hd)
theorem enc25 (M:Mem):SoundCall Tryz.prog 25 [encC cmA] M fun r M'=>r = .tup [str txA,bool true]/\M.le M':=(snd25 cmA (by decide) M).mono fun r M' ⟨h1,h2⟩=>⟨by rw [h1,rightA];rfl,h2⟩
theorem propX {ge:TypeId}{gf:Nat×Nat}{M:Mem}{bx box bmx sx cx:Nat}{Ox:Nat->Prop}(h:NdAt ge gf M bx box bmx sx cx (xN 1) (oN 1) (newM 1) 0 f00 0 nilp Ox):SoundCall Tryz.prog 27 [ptr bx,str txA] M fun r M'=>∃ (sv:ByteArray) (rA:Rp) (x':Nd) (mc':Mc) (n':Int) (Ox':Nat->Prop),rA.code=0/\r = .tup [int 0,.agg [.sl [str sv] false,.sl [] false,.sl [dnV ⟨0,txA,rA⟩] false]]/\NdAt ge gf M' bx box bmx sx cx x' oX' mc' n' f00 0 nilp Ox'/\∀ d,M d≠none->¬ Ox d->d≠bx->d≠box->M' d=M d :=
 (snd27s ge gf bx box bmx sx cx (xN 1) (oN 1) (newM 1) 0 f00 0 nilp Ox oX' 0 [] [txA] [] txA _ h (by decide) (fun _=>⟨Int.le_refl _,Int.le_refl _⟩) (by decide) oX_log rfl (.inl oX_sure) (by rw [oX_log];decide) (by decide) (fun s hs=>by rw [oX_log] at hs;obtain rfl:=List.mem_singleton.1 hs;have:=txA_size;omega) (Nat.zero_le _) (by have:=txA_size;omega) decA px1 fx1 okO1 (by decide) rfl (Nat.zero_le _) propA (by decide)).mono fun r M' ⟨h1,Ox',h2,h3,_⟩ =>
  ⟨savedN 3 txA 0,(stepM (newM 1) txA).2,_,_,_,Ox',doA1,h1,h2,h3⟩
theorem propY {ge:TypeId}{gf:Nat×Nat}{M:Mem}{b bo bm s c:Nat}{O:Nat->Prop}(h:NdAt ge gf M b bo bm s c (xN 3) (oN 3) (newM 3) 0 f00 0 nilp O):SoundCall Tryz.prog 27 [ptr b,str txA] M fun r M'=>r = .tup [int 2,.agg [.sl [] false,.sl [] false,.sl [] false]]/\∀ d,M d≠none->¬ O d->d≠b->d≠bo->M' d=M d :=
 (snd27n ge gf b bo bm s c (xN 3) (oN 3) (newM 3) 0 f00 0 nilp O [] [] [] txA _ h (by decide) (fun _=>⟨Int.le_refl _,Int.le_refl _⟩) (by decide) rfl rfl (.inl rfl) (by decide) (by decide) (fun s hs=>absurd hs List.not_mem_nil) (Nat.zero_le _) (by have:=txA_size;omega) decA py3).mono fun r M' ⟨h1,O',h2,h3,_⟩=>⟨h1,h3⟩
theorem snd11 (ge:TypeId)(gf:Nat×Nat)(M:Mem)(hG:M 0=some (szO ge gf)):SoundCall Tryz.prog 11 [] M fun r M'=>r=bool true/\M.le M':=by
 have hle:=Mem.le_refl M;refine SoundCall.go tk11 pl11 mixed Tryz.func11 cb11 rfl (Nat.le_of_ble_eq_true rfl) ?_;refine Q15 ?_;refine Q0 ?_;refine Q263 bz45 bp45 fo45_1 ?_;refine o_callx ((snd19a ⟨0,1⟩ 1 false ge gf _ hG (by kernel_rfl) (by decide) (by decide) rfl)) goes19 (ac (v_agg rfl) (ac (v_raw rfl) (ac (v_sl rfl) ac_nil))) rfl ?_;rintro r M1 ⟨bx,box,bmx,sx,cx,Ox,rfl,hx,kx,ox,nbx,nbox,nsx,ncx⟩;refine Q37 ?_;refine Q176 ?_;refine Q80 ?_;refine Q55 ?_;refine Q138 ?_;refine Q263 bz45 bp45 fo45_1 ?_;refine o_callx ((snd19a ⟨0,1⟩ 3 false ge gf _ hx.hm.g (by kernel_rfl) (by decide) (by decide) rfl)) goes19 (ac (v_agg rfl) (ac (v_raw rfl) (ac (v_sl rfl) ac_nil))) rfl ?_;rintro r M2 ⟨by',boy,bmy,sy,cy,Oy,rfl,hy,ky,oy,nby,nboy,nsy,ncy⟩;have hx2:=hx.le ky;refine Q37 ?_;refine Q176 ?_;refine Q80 ?_;refine Q55 ?_;refine Q138 ?_;refine Q263 bz45 bp45 fo45_1 ?_;refine o_callx ((snd19b ⟨0,2⟩ 3 false ge gf _ hy.hm.g (by kernel_rfl) (by decide) (by decide) (by decide))) goes19 (ac (v_agg rfl) (ac (v_raw rfl) (ac (v_sl rfl) ac_nil))) rfl ?_;rintro r M3 ⟨bz,bmz,sz',rfl,hz,kz,nz⟩;have hx3:NdAt ge gf M3 bx box bmx sx cx (xN 1) (oN 1) (newM 1) 0 f00 0 nilp Ox:=hx2.le kz;have hy3:NdAt ge gf M3 by' boy bmy sy cy (xN 3) (oN 3) (newM 3) 0 f00 0 nilp Oy:=hy.le kz;have yx:∀ d,(d=by'\/d=boy\/d=sy\/d=cy\/Oy d)->M1 d=none:=fun d hd=>by
  rcases hd with rfl|rfl|rfl|rfl|hd
  ·exact nby
  ·exact nboy
  ·exact nsy
  ·exact ncy
  ·exact oy d hd
 have px:=px1;have fx:=fx1;have py:=py3;refine Q37 ?_;refine Q176 ?_;refine Q80 ?_;refine Q55 ?_;refine Q138 ?_;refine Q179 bz45 bp45 fo45_0 fo45_1 ?_;refine o_callx (((snd19e ⟨3,1⟩ 3 (.sl [] false) _ (by kernel_rfl)).det)) goes19 (ac (v_agg rfl) (ac (v_raw rfl) (ac (v_sl rfl) ac_nil))) rfl ?_;rintro r M4 ⟨rfl,h4⟩;obtain rfl:M3=M4:=h4.symm;refine Q37 ?_;refine Q176 ?_;refine Q80 ?_;refine Q55 ?_;refine Q127 ?_;refine Q10 ?_;refine Q143 und41 ?_;refine Q74 ?_;refine Q10 ?_;refine Q8 ?_;refine Q143 und41 ?_;refine Q21 ?_;refine Q74 ?_;refine Q10 ?_;refine Q8 ?_;refine Q143 und41 ?_;refine Q21 ?_;refine Q69 ?_;refine Q108 ?_;refine Q21 ?_;refine Q69 ?_;refine Q108 ?_;refine Q21 ?_;refine Q74 ?_;refine Q10 ?_;refine Q8 ?_;refine o_call (((snd23 bx (xN 1) (ptr box) (ptr bmx) nilp sx cx f00 0 _ hx3.hb hx3.hs hx3.hc hx3.ne.2.2 (by decide) (fun _=>⟨Int.le_refl _,Int.le_refl _⟩) (by decide)).det)) goes23 (ac (mvQ) ac_nil) rfl ?_;refine Q8 ?_;refine Q90 ?_;refine Q21 ?_;refine Q2 ?_;refine o_yes rfl rfl rfl (by rw [px];rfl) ?_;refine Q10 ?_;refine o_yes rfl rfl rfl (by rw [px];rfl) ?_;refine o_call ((snd33 bx (xN 1) (ptr box) (ptr bmx) (ptr sx) nilp _ hx3.hb (by decide))) goes33 (ac (mvQ) ac_nil) rfl ?_;refine o_yes rfl rfl rfl (by rw [px];rfl) ?_;refine Q90 ?_;refine o_q (q_pick_c (t:=false) rfl (by rw [px];rfl) (v_raw rfl)) rfl rfl rfl ?_;refine Q2 ?_;refine o_yes rfl rfl rfl (by rw [fx];rfl) ?_;refine Q10 ?_;refine o_yes rfl rfl rfl (by rw [fx];rfl) ?_;refine o_call (((snd23 by' (xN 3) (ptr boy) (ptr bmy) nilp sy cy f00 0 _ hy3.hb hy3.hs hy3.hc hy3.ne.2.2 (by decide) (fun _=>⟨Int.le_refl _,Int.le_refl _⟩) (by decide)).det)) goes23 (ac (mvQ) ac_nil) rfl ?_;refine o_q (q_pick_c (t:=false) rfl (by rw [fx];rfl) (v_raw rfl)) rfl rfl rfl ?_;refine Q2 ?_;refine o_yes rfl rfl rfl py ?_;refine Q10 ?_;refine o_yes rfl rfl rfl py ?_;refine o_call (((snd21 bz (newX ⟨0,2⟩ 3) nilp (ptr bmz) (ptr sz') nilp _ hz (Nat.zero_le _)).det)) goes21 (ac (mvQ) ac_nil) rfl ?_;refine o_yes rfl rfl rfl py ?_;refine o_q (q_sfld sf53_0 rfl rfl (v_raw rfl)) rfl rfl rfl ?_;refine o_yes rfl rfl rfl py ?_;refine Q108 ?_;refine o_q (q_pick_c (t:=false) rfl py (v_raw rfl)) rfl rfl rfl ?_;refine Q83 ?_;refine Q92 ?_;refine o_q (q_b (cs:=[_,_,.raw (.string { data:=#[] }),.raw (.int .i64 0),.raw (.string { data:=#[] }),.raw (.string { data:=#[] }),.raw (.int .i64 0),.raw (.int .i64 0),.raw (.int .i64 0)]) bz58 bp58 (bf fo58_0 (e_raw rfl) rfl rfl (Nat.le_of_ble_eq_true rfl) rfl (bf fo58_1 (e_raw rfl) rfl rfl (Nat.le_of_ble_eq_true rfl) rfl bf_nil))) rfl rfl rfl ?_;refine o_call (((enc25 _).det)) goes25 (ac (v_agg rfl) ac_nil) rfl ?_;refine Q37 ?_;refine Q79 ?_;refine Q26 ?_;refine Q18 ?_;refine Q2 ?_;refine o_callx ((propX hx3)) goes27 (ac (mvQ) (ac (v_raw rfl) ac_nil)) rfl ?_;rintro r M5 ⟨sv,rA,x',mc',n',Ox',hcode,rfl,hx5,kx5⟩;have hy5:NdAt ge gf M5 by' boy bmy sy cy (xN 3) (oN 3) (newM 3) 0 f00 0 nilp Oy:=hy3.keep fun d hd=>by
  by_cases h0:d=0
  ·subst h0;exact kx5 0 (nnS hx3.hm.g) hx3.hm.no hx3.b0.1.symm hx3.b0.2.1.symm
  ·have hd1:M1 d=none:=yx d (by rcases hd with h|h;exact absurd h h0;exact h);exact kx5 d (hy3.some hd) (fun h=>(hx.some (by simp [h])) hd1) (fun h=>(hx.some (by simp [h])) hd1) (fun h=>(hx.some (by simp [h])) hd1)
 have hM3:∀ d,M d≠none->M3 d=M d:=fun d hd=>by
  have e1:=kx d hd;have e2:=ky d (by rw [e1];exact hd);have e3:=kz d (by rw [e2,e1];exact hd);rw [e3,e2,e1]
 have hM5:∀ d,M d≠none->M5 d=M d:=fun d hd=>(kx5 d (by rw [hM3 d hd];exact hd) (fun h=>hd (ox d h)) (fun e=>hd (by rw [e];exact nbx)) (fun e=>hd (by rw [e];exact nbox))).trans (hM3 d hd)
 refine Q37 ?_;refine Q80 ?_;refine o_q (q_ext rfl rfl (v_agg rfl)) rfl rfl rfl ?_;refine o_alloc zc49 (fun B1 hB1=>?_);have hne1:∀ d,M5 d≠none->d≠B1:=fun d hd e=>hd (by rw [e];exact hB1)
 refine Q28 ?_;refine Q62 sz49 ?_;refine Q18 ?_;refine Q2 ?_;refine o_callx ((propY (hy5.le fun d hd=>(upd_other (hne1 d hd)).trans (upd_other (hne1 d hd))))) goes27 (ac (mvQ) (ac (v_raw rfl) ac_nil)) rfl ?_;rintro r M6 ⟨rfl,ky6⟩;have hx6:∀ d,(d=bx\/d=box)->M6 d=M5 d:=fun d hd=>by
  have h1:M1 d≠none:=by rcases hd with rfl|rfl;exact nnS hx.hb;exact nnS hx.ho
  have h5:M5 d≠none:=by rcases hd with rfl|rfl;exact nnS hx5.hb;exact nnS hx5.ho
  have hB:d≠B1:=fun e=>h5 (by rw [e];exact hB1)
  refine (ky6 d (by rw [upd_other hB,upd_other hB];exact h5) (fun h=>h1 (yx d (by simp [h]))) (fun h=>h1 (yx d (by simp [h]))) (fun h=>h1 (yx d (by simp [h])))).trans ((upd_other hB).trans (upd_other hB))
 have hM6:∀ d,M d≠none->M6 d=M d:=fun d hd=>by
  have hB:d≠B1:=fun e=>hd (by rw [← hM5 d hd,e];exact hB1)
  have h1:M1 d≠none:=by rw [kx d hd];exact hd
  exact (ky6 d (by rw [upd_other hB,upd_other hB,hM5 d hd];exact hd) (fun h=>h1 (oy d h)) (fun e=>h1 (by rw [e];exact nby)) (fun e=>h1 (by rw [e];exact nboy))).trans ((upd_other hB).trans ((upd_other hB).trans (hM5 d hd)))
 have hb6:=(hx6 bx (by simp)).trans hx5.hb;have ho6:=(hx6 box (by simp)).trans hx5.ho;have h61:=(ky6 B1 (nnS (Mem.upd_self _ _ _)) (hy5.hm.nof hB1) (fun e=>nnS hy5.hb (by rw [← e];exact hB1)) (fun e=>nnS hy5.ho (by rw [← e];exact hB1))).trans (Mem.upd_self _ _ _);refine Q37 ?_;refine Q80 ?_;refine o_q (q_ext rfl rfl (v_agg rfl)) rfl rfl rfl ?_;refine o_alloc zc49 (fun B2 hB2=>?_);have f12:B1≠B2:=Mem.fresh_ne hB2 h61;have f21:=f12.symm;have fb2:bx≠B2:=Mem.fresh_ne hB2 hb6;have fo2:box≠B2:=Mem.fresh_ne hB2 ho6;refine Q28 ?_;refine Q62 sz49 ?_;refine Q5 ?_;refine Q63 ?_;refine Q74 ?_;refine Q131 fo49_0 ?_;refine Q139 ag24 sz24 ?_;refine Q8 ?_;refine Q85 und24 ?_;refine Q8 ?_;refine Q63 ?_;refine Q67 ?_;refine Q74 ?_;refine Q131 fo49_2 ?_;refine Q139 ag47 sz47 ?_;refine Q8 ?_;refine Q85 und47 ?_;refine Q8 ?_;refine Q63 ?_;refine Q67 ?_;refine Q74 ?_;refine Q131 fo49_2 ?_;refine Q139 ag47 sz47 ?_;refine Q8 ?_;refine o_q (q_idx und47 sz83 rfl rfl (by omega) rfl rfl) rfl rfl rfl ?_;refine Q8 ?_;refine Q184 fo83_1 ?_;refine Q8 ?_;refine o_q (q_ld ag9 sz9 rfl rfl rfl (v_raw rfl)) rfl rfl rfl ?_;refine Q8 ?_;refine Q74 ?_;refine Q182 ?_;refine Q67 ?_;refine Q2 ?_;refine Q187 ?_;refine Q29 fo49_2 ?_;refine Q187 ?_;refine Q139 ag47 sz47 ?_;refine Q187 ?_;refine o_q (q_idx und47 sz83 rfl rfl (by omega) rfl rfl) rfl rfl rfl ?_;refine Q187 ?_;refine Q184 fo83_2 ?_;refine Q187 ?_;refine Q184 fo81_0 ?_;refine Q187 ?_;refine o_q (q_ld ag3 sz3 rfl rfl rfl (v_raw rfl)) rfl rfl rfl ?_;refine Q187 ?_;refine Q63 ?_;refine o_q (q_pick_c (t:=true) rfl (decide_eq_true rfl) (v_raw rfl)) rfl rfl rfl ?_;refine Q2 ?_;refine o_yes rfl rfl rfl (decide_eq_true hcode) ?_;refine Q2 ?_;refine o_yes rfl rfl rfl (decide_eq_true hcode) ?_;refine Q63 ?_;refine o_q (q_pick_c (t:=true) rfl (decide_eq_true hcode) (v_raw rfl)) rfl rfl rfl ?_;refine Q74 ?_;refine Q131 fo49_0 ?_;refine Q139 ag24 sz24 ?_;refine Q8 ?_;refine Q85 und24 ?_;refine Q8 ?_;refine Q131 fo49_1 ?_;refine Q139 ag46 sz46 ?_;refine Q8 ?_;refine Q85 und46 ?_;refine Q8 ?_;refine o_q (q_add rfl rfl (wrap64 (by decide) (by decide))) rfl rfl rfl ?_;refine Q8 ?_;refine Q131 fo49_2 ?_;refine Q139 ag47 sz47 ?_;refine Q8 ?_;refine Q85 und47 ?_;refine Q8 ?_;refine o_q (q_add rfl rfl (wrap64 (by decide) (by decide))) rfl rfl rfl ?_;refine Q8 ?_;refine Q63 ?_;refine Q67 ?_;refine Q74 ?_;refine Q10 ?_;refine Q8 ?_;refine o_call ((snd28s bx box x' oX' (ptr bmx) (ptr sx) nilp _ mmQ mmQ)) goes28 (ac (mvQ) ac_nil) rfl ?_;refine Q8 ?_;refine Q63 ?_;refine Q67 ?_;refine Q4 ?_;exact⟨congrArg bool (decide_eq_true oX_sure),fun d o hd=>by
  have hn:M d≠none:=nnS hd;have e2:d≠B2:=fun e=>hn (by rw [← hM6 d hn,e];exact hB2)
  try dsimp only
  repeat first|exact (hM6 d hn).trans hd|rw [upd_other e2]⟩
end C17
