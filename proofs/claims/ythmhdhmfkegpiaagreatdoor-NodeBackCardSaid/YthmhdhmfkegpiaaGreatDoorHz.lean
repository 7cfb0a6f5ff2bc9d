import Derived.Test.YthmhdhmfkegpiaaGreatDoorAmH
open Go Go.Proofs Go.Am
set_option linter.unusedVariables false
set_option autoImplicit false
namespace Go.Am
theorem zs:(∀ {p:Prop} [Decidable p],(decide p=true)=p)/\(∀ {p:Prop} [Decidable p],(decide p=false) ↔ ¬ p)/\(∀ {b:Bool},((!b)=true)=(b=false))/\(∀ {b:Bool},((!b)=false)=(b=true))/\((!true)=false)/\((!false)=true)/\(∀ {α β:Type} {l:List α} {f:α->β},(l.map f).length=l.length)/\(∀ {p:Prop} [Decidable p],¬ ¬ p↔p):=⟨fun {p} [Decidable p]=>decide_eq_true_eq,fun {p} [Decidable p]=>decide_eq_false_iff_not,fun {b}=>Bool.not_eq_true' b,fun {b}=>Bool.not_eq_false' b,rfl,rfl,fun {α β l f}=>List.length_map f,fun {p} [Decidable p]=>Decidable.not_not⟩
structure Bx (p:Prop):Prop where
 o:p
theorem zm {p q:Prop}(h:p)(f:p->q:=by intro h;repeat (first|exact h|exact Mem.none_of_le (by assumption) h|replace h:=(Mem.upd_none h).2)):q:=f h
theorem zle {p:Prop}(h:p:=by repeat first|exact hle|exact Mem.le_refl _|assumption|exact Mem.none_of_le hle (by assumption)|refine Mem.le_upd ?_ ?_):p:=h
theorem zbx {p:Prop}(h:p:=by first|exact e_raw rfl|exact e_agg rfl|exact e_sl rfl):p:=h
theorem Q0 {g g':Prop}(k:g')(h:Bx g'->g:=by exact fun zz=>s_seq (s_region zz.1)):g:=h ⟨k⟩
theorem Q1 {g g':Prop}(k:g')(h:Bx g'->g:=by exact fun zz=>o_nil zz.1):g:=h ⟨k⟩
theorem Q2 {g g':Prop}(k:g')(h:Bx g'->g:=by exact fun zz=>o_q (q_mv (v_raw rfl)) rfl rfl rfl zz.1):g:=h ⟨k⟩
theorem Q3 {g g':Prop}(k:g')(h:Bx g'->g:=by exact fun zz=>d_s rfl zz.1):g:=h ⟨k⟩
theorem Q4 {g g':Prop}(k:g')(h:Bx g'->g:=by exact fun zz=>o_q (q_as (v_raw rfl)) rfl rfl rfl (o_nil (s_ret (s_end zz.1)))):g:=h ⟨k⟩
theorem Q5 {g g':Prop}(k:g')(h:Bx g'->g:=by exact fun zz=>s_seq (s_region (o_q (q_mv (v_raw rfl)) rfl rfl rfl zz.1))):g:=h ⟨k⟩
theorem Q6 {p1 g g':Prop}(y1:p1)(k:g')(h:p1->Bx g'->g:=by exact fun y1 zz=>o_storew rfl mmQ mfQ rfl y1 rfl rfl rfl rfl zz.1):g:=h y1 ⟨k⟩
theorem Q7 {g g':Prop}(k:g')(h:Bx g'->g:=by exact fun zz=>o_q (q_as (v_raw rfl)) rfl rfl rfl (o_nil zz.1)):g:=h ⟨k⟩
theorem Q8 {g g':Prop}(k:g')(h:Bx g'->g:=by exact fun zz=>o_yes rfl rfl rfl rfl zz.1):g:=h ⟨k⟩
theorem Q9 {g g':Prop}(k:g')(h:Bx g'->g:=by exact fun zz=>s_seq (s_seq (s_region (o_q (q_mv (v_raw rfl)) rfl rfl rfl zz.1)))):g:=h ⟨k⟩
theorem Q10 {g g':Prop}(k:g')(h:Bx g'->g:=by exact fun zz=>o_q (q_mv (mvQ)) rfl rfl rfl zz.1):g:=h ⟨k⟩
theorem Q11 {g g':Prop}(k:g')(h:Bx g'->g:=by exact fun zz=>o_q (q_as (v_raw rfl)) rfl rfl rfl (o_nil (s_ret (s_code_ret (s_end zz.1))))):g:=h ⟨k⟩
theorem Q12 {p1 p2 p3 g g':Prop}(y1:p1)(y2:p2)(y3:p3)(k:g')(h:p1->p2->p3->Bx g'->g:=by exact fun y1 y2 y3 zz=>o_q (q_fr y1 rfl) rfl rfl rfl (o_q (q_ldm y2 y3 rfl mmQ rfl (v_raw rfl)) rfl rfl rfl zz.1)):g:=h y1 y2 y3 ⟨k⟩
theorem Q13 {g g':Prop}(k:g')(h:Bx g'->g:=by exact fun zz=>s_skip zz.1):g:=h ⟨k⟩
theorem Q14 {g g':Prop}(k:g')(h:Bx g'->g:=by exact fun zz=>d_q rfl (q_mv (v_raw rfl)) rfl rfl rfl zz.1):g:=h ⟨k⟩
theorem Q15 {g g':Prop}(k:g')(h:Bx g'->g:=by exact fun zz=>s_seq (s_region (o_q (q_as (v_raw rfl)) rfl rfl rfl (o_nil zz.1)))):g:=h ⟨k⟩
theorem Q16 {p1 g g':Prop}(y1:p1)(k:g')(h:p1->Bx g'->g:=by exact fun y1 zz=>o_yes rfl rfl rfl y1 zz.1):g:=h y1 ⟨k⟩
theorem Q17 {p1 p2 p3 g g':Prop}(y1:p1)(y2:p2)(y3:p3)(k:g')(h:p1->p2->p3->Bx g'->g:=by exact fun y1 y2 y3 zz=>o_q (q_mv (v_raw rfl)) rfl rfl rfl (o_g (G:=true) rfl rfl rfl rfl rfl (fun hG hc=>(q_fr y1 rfl)) (o_g (G:=true) rfl rfl rfl rfl rfl (fun hG hc=>(q_ldm y2 y3 (gv_on (gv_and hG hc) rfl) mmQ rfl (v_raw rfl))) zz.1))):g:=h y1 y2 y3 ⟨k⟩
theorem Q18 {g g':Prop}(k:g')(h:Bx g'->g:=by exact fun zz=>s_seq (s_region (o_q (q_mv (mvQ)) rfl rfl rfl zz.1))):g:=h ⟨k⟩
theorem Q19 {g g':Prop}(k:g')(h:Bx g'->g:=by exact fun zz=>s_region zz.1):g:=h ⟨k⟩
theorem Q20 {g g':Prop}(k:g')(h:Bx g'->g:=by exact fun zz=>o_q (q_as (v_raw rfl)) rfl rfl rfl (o_nil (s_ret (s_blk_ret (s_code_ret (s_end zz.1)))))):g:=h ⟨k⟩
theorem Q21 {g g':Prop}(k:g')(h:Bx g'->g:=by exact fun zz=>o_q (q_pick_c (t:=false) rfl rfl (v_raw rfl)) rfl rfl rfl zz.1):g:=h ⟨k⟩
theorem Q22 {p1 g g':Prop}(y1:p1)(k:g')(h:p1->Bx g'->g:=by exact fun y1 zz=>d_q rfl (q_fr y1 rfl) rfl rfl rfl zz.1):g:=h y1 ⟨k⟩
theorem Q23 {g g':Prop}(k:g')(h:Bx g'->g:=by exact fun zz=>o_q (q_geq rfl rfl) rfl rfl rfl zz.1):g:=h ⟨k⟩
theorem Q24 {p1 p2 g g':Prop}(y1:p1)(y2:p2)(k:g')(h:p1->p2->Bx g'->g:=by exact fun y1 y2 zz=>o_no rfl rfl rfl rfl y1 (o_no rfl rfl rfl rfl y2 zz.1)):g:=h y1 y2 ⟨k⟩
theorem Q25 {p1 g g':Prop}(y1:p1)(k:g')(h:p1->Bx g'->g:=by exact fun y1 zz=>o_q (q_nil rfl) rfl rfl rfl (o_q (q_fr y1 rfl) rfl rfl rfl zz.1)):g:=h y1 ⟨k⟩
theorem Q26 {g g':Prop}(k:g')(h:Bx g'->g:=by exact fun zz=>o_q (q_as (v_raw rfl)) rfl rfl rfl (o_q (q_as (v_raw rfl)) rfl rfl rfl (o_nil zz.1))):g:=h ⟨k⟩
theorem Q27 {p1 p2 p3 g g':Prop}(y1:p1)(y2:p2)(y3:p3)(k:g')(h:p1->p2->p3->Bx g'->g:=by exact fun y1 y2 y3 zz=>s_seq (s_region (o_q (q_fr y1 rfl) rfl rfl rfl (o_q (q_ldm y2 y3 rfl mmQ rfl (v_raw rfl)) rfl rfl rfl zz.1)))):g:=h y1 y2 y3 ⟨k⟩
theorem Q28 {g g':Prop}(k:g')(h:Bx g'->g:=by exact fun zz=>o_q (q_as (v_raw rfl)) rfl rfl rfl zz.1):g:=h ⟨k⟩
theorem Q29 {p1 g g':Prop}(y1:p1)(k:g')(h:p1->Bx g'->g:=by exact fun y1 zz=>o_q (q_fr y1 rfl) rfl rfl rfl zz.1):g:=h y1 ⟨k⟩
theorem Q30 {p1 g g':Prop}(y1:p1)(k:g')(h:p1->Bx g'->g:=by exact fun y1 zz=>o_q (q_pick_c (t:=false) rfl y1 (v_raw rfl)) rfl rfl rfl zz.1):g:=h y1 ⟨k⟩
theorem Q31 {g g':Prop}(k:g')(h:Bx g'->g:=by exact fun zz=>s_seq (s_seq (s_region zz.1))):g:=h ⟨k⟩
theorem Q32 {p1 g g':Prop}(y1:p1)(k:g')(h:p1->Bx g'->g:=by exact fun y1 zz=>o_q (q_pick_c (t:=true) rfl y1 (v_raw rfl)) rfl rfl rfl zz.1):g:=h y1 ⟨k⟩
theorem Q33 {g g':Prop}(k:g')(h:Bx g'->g:=by exact fun zz=>s_draw rfl (d_q rfl (q_mv (mvQ)) rfl rfl rfl (d_q rfl (q_nil rfl) rfl rfl rfl zz.1))):g:=h ⟨k⟩
theorem Q34 {p1 p2 g g':Prop}(y1:p1)(y2:p2)(k:g')(h:p1->p2->Bx g'->g:=by exact fun y1 y2 zz=>s_seq (s_region (o_q (q_ldmw y1 y2 rfl mmQ rfl rfl) rfl rfl rfl zz.1))):g:=h y1 y2 ⟨k⟩
theorem Q35 {g g':Prop}(k:g')(h:Bx g'->g:=by exact fun zz=>s_exit (s_code_exit (s_inv_exit (s_blk_here zz.1)))):g:=h ⟨k⟩
theorem Q36 {g g':Prop}(k:g')(h:Bx g'->g:=by exact fun zz=>s_blk_normal (s_region (o_q (q_add rfl rfl (wrap64 (by omega) (by omega))) rfl rfl rfl (o_q (q_mv (v_raw rfl)) rfl rfl rfl (o_nil (s_inv zz.1)))))):g:=h ⟨k⟩
theorem Q37 {g g':Prop}(k:g')(h:Bx g'->g:=by exact fun zz=>o_q (q_mv (v_tup rfl)) rfl rfl rfl zz.1):g:=h ⟨k⟩
theorem Q38 {g g':Prop}(k:g')(h:Bx g'->g:=by exact fun zz=>s_seq (s_region (o_q (q_eql rfl rfl) rfl rfl rfl (o_q (q_as (v_raw rfl)) rfl rfl rfl (o_nil zz.1))))):g:=h ⟨k⟩
theorem Q39 {g g':Prop}(k:g')(h:Bx g'->g:=by exact fun zz=>any_o rfl zz.1):g:=h ⟨k⟩
theorem Q40 {g g':Prop}(k:g')(h:Bx g'->g:=by exact fun zz=>o_q (q_as (v_raw rfl)) rfl rfl rfl (o_nil (s_seq (s_seq (s_region (o_q (q_mv (v_raw rfl)) rfl rfl rfl zz.1)))))):g:=h ⟨k⟩
theorem Q41 {p1 g g':Prop}(y1:p1)(k:g')(h:p1->Bx g'->g:=by exact fun y1 zz=>o_q (q_mv (v_sl rfl)) rfl rfl rfl (o_q (q_len rfl y1 rfl) rfl rfl rfl zz.1)):g:=h y1 ⟨k⟩
theorem Q42 {g g':Prop}(k:g')(h:Bx g'->g:=by exact fun zz=>o_q (q_as (v_sl rfl)) rfl rfl rfl zz.1):g:=h ⟨k⟩
theorem Q43 {p1 p2 p3 p4 p5 p6 g g':Prop}(y1:p1)(y2:p2)(y3:p3)(y4:p4)(y5:p5)(y6:p6)(k:g')(h:p1->p2->p3->p4->p5->p6->Bx g'->g:=by exact fun y1 y2 y3 y4 y5 y6 zz=>d_q rfl (q_fr y1 rfl) rfl rfl rfl (d_q rfl (q_ldm y2 y3 rfl mmQ rfl (v_raw rfl)) rfl rfl rfl (d_q rfl (q_fr y4 rfl) rfl rfl rfl (d_q rfl (q_ldm y5 y6 rfl mmQ rfl (v_raw rfl)) rfl rfl rfl zz.1)))):g:=h y1 y2 y3 y4 y5 y6 ⟨k⟩
theorem Q44 {g g':Prop}(k:g')(h:Bx g'->g:=by exact fun zz=>o_q (q_por (c:=_) (b:=_) rfl rfl rfl) rfl rfl rfl zz.1):g:=h ⟨k⟩
theorem Q45 {p1 p2 g g':Prop}(y1:p1)(y2:p2)(k:g')(h:p1->p2->Bx g'->g:=by exact fun y1 y2 zz=>o_q (q_ldmw y1 y2 rfl mmQ rfl rfl) rfl rfl rfl zz.1):g:=h y1 y2 ⟨k⟩
theorem Q46 {p1 p2 g g':Prop}(y1:p1)(y2:p2)(k:g')(h:p1->p2->Bx g'->g:=by exact fun y1 y2 zz=>o_q (q_ldm y1 y2 rfl mmQ rfl (v_raw rfl)) rfl rfl rfl zz.1):g:=h y1 y2 ⟨k⟩
theorem Q47 {g g':Prop}(k:g')(h:Bx g'->g:=by exact fun zz=>s_seq (s_region (o_q (q_as (v_raw rfl)) rfl rfl rfl zz.1))):g:=h ⟨k⟩
theorem Q48 {g g':Prop}(k:g')(h:Bx g'->g:=by exact fun zz=>o_nil (s_seq (s_seq (s_region zz.1)))):g:=h ⟨k⟩
theorem Q49 {g g':Prop}(k:g')(h:Bx g'->g:=by exact fun zz=>o_q (q_mv (v_sl rfl)) rfl rfl rfl zz.1):g:=h ⟨k⟩
theorem Q50 {g g':Prop}(k:g')(h:Bx g'->g:=by exact fun zz=>s_seq (s_region (o_q (q_lss rfl rfl) rfl rfl rfl (o_nil (s_seq zz.1))))):g:=h ⟨k⟩
theorem Q51 {g g':Prop}(k:g')(h:Bx g'->g:=by exact fun zz=>o_q (q_as (v_raw rfl)) rfl rfl rfl (o_nil (s_seq (s_region (o_q (q_mv (v_raw rfl)) rfl rfl rfl zz.1))))):g:=h ⟨k⟩
theorem Q52 {g g':Prop}(k:g')(h:Bx g'->g:=by exact fun zz=>o_q (q_mv (v_raw rfl)) rfl rfl rfl (o_nil (s_block zz.1))):g:=h ⟨k⟩
theorem Q53 {g g':Prop}(k:g')(h:Bx g'->g:=by exact fun zz=>o_q (q_pand (c:=_) (b:=_) rfl rfl rfl) rfl rfl rfl zz.1):g:=h ⟨k⟩
theorem Q54 {g g':Prop}(k:g')(h:Bx g'->g:=by exact fun zz=>o_q (q_as (v_raw rfl)) rfl rfl rfl (o_nil (s_ret zz.1))):g:=h ⟨k⟩
theorem Q55 {g g':Prop}(k:g')(h:Bx g'->g:=by exact fun zz=>o_q (q_as (mvQ)) rfl rfl rfl zz.1):g:=h ⟨k⟩
theorem Q56 {p1 p2 p3 g g':Prop}(y1:p1)(y2:p2)(y3:p3)(k:g')(h:p1->p2->p3->Bx g'->g:=by exact fun y1 y2 y3 zz=>o_q (q_nil rfl) rfl rfl rfl (o_q (q_fr y1 rfl) rfl rfl rfl (o_q (q_ldm y2 y3 rfl mmQ rfl (v_raw rfl)) rfl rfl rfl zz.1))):g:=h y1 y2 y3 ⟨k⟩
theorem Q57 {g g':Prop}(k:g')(h:Bx g'->g:=by exact fun zz=>o_q (q_as (v_raw rfl)) rfl rfl rfl (o_nil (s_inv zz.1))):g:=h ⟨k⟩
theorem Q58 {g g':Prop}(k:g')(h:Bx g'->g:=by exact fun zz=>d_q rfl (q_mv (v_sl rfl)) rfl rfl rfl zz.1):g:=h ⟨k⟩
theorem Q59 {g g':Prop}(k:g')(h:Bx g'->g:=by exact fun zz=>o_q (q_not rfl) rfl rfl rfl (o_nil zz.1)):g:=h ⟨k⟩
theorem Q60 {p1 p2 g g':Prop}(y1:p1)(y2:p2)(k:g')(h:p1->p2->Bx g'->g:=by exact fun y1 y2 zz=>o_yes rfl rfl rfl y1 (o_q (q_mv (v_raw rfl)) rfl rfl rfl (o_yes rfl rfl rfl y2 zz.1))):g:=h y1 y2 ⟨k⟩
theorem Q61 {p1 g g':Prop}(y1:p1)(k:g')(h:p1->Bx g'->g:=by exact fun y1 zz=>o_q (q_lens rfl y1 rfl) rfl rfl rfl zz.1):g:=h y1 ⟨k⟩
theorem Q62 {p1 g g':Prop}(y1:p1)(k:g')(h:p1->Bx g'->g:=by exact fun y1 zz=>o_store rfl mmQ meQ rfl y1 rfl (Nat.le_of_ble_eq_true rfl) rfl rfl (o_nil zz.1)):g:=h y1 ⟨k⟩
theorem Q63 {g g':Prop}(k:g')(h:Bx g'->g:=by exact fun zz=>o_q (q_eql rfl rfl) rfl rfl rfl zz.1):g:=h ⟨k⟩
theorem Q64 {g g':Prop}(k:g')(h:Bx g'->g:=by exact fun zz=>o_q (q_mv (v_raw rfl)) rfl rfl rfl (o_q (q_mv (v_raw rfl)) rfl rfl rfl zz.1)):g:=h ⟨k⟩
theorem Q65 {g g':Prop}(k:g')(h:Bx g'->g:=by exact fun zz=>o_q (q_eql rfl rfl) rfl rfl rfl (o_q (q_as (v_raw rfl)) rfl rfl rfl (o_nil zz.1))):g:=h ⟨k⟩
theorem Q66 {p1 p2 g g':Prop}(y1:p1)(y2:p2)(k:g')(h:p1->p2->Bx g'->g:=by exact fun y1 y2 zz=>d_no rfl rfl rfl rfl y1 rfl (d_no rfl rfl rfl rfl y2 rfl zz.1)):g:=h y1 y2 ⟨k⟩
theorem Q67 {g g':Prop}(k:g')(h:Bx g'->g:=by exact fun zz=>o_q (q_pick_c (t:=true) rfl rfl (v_raw rfl)) rfl rfl rfl zz.1):g:=h ⟨k⟩
theorem Q68 {g g':Prop}(k:g')(h:Bx g'->g:=by exact fun zz=>o_g (G:=true) rfl rfl rfl rfl rfl (fun hG hc=>(q_gtr (gv_on (gv_and hG hc) rfl) rfl)) (o_q (q_por (c:=_) (b:=_) rfl rfl rfl) rfl rfl rfl zz.1)):g:=h ⟨k⟩
theorem Q69 {g g':Prop}(k:g')(h:Bx g'->g:=by exact fun zz=>o_q (q_mv (v_raw rfl)) rfl rfl rfl (o_yes rfl rfl rfl rfl (o_q (q_mv (v_raw rfl)) rfl rfl rfl (o_yes rfl rfl rfl rfl zz.1)))):g:=h ⟨k⟩
theorem Q70 {g g':Prop}(k:g')(h:Bx g'->g:=by exact fun zz=>o_nil (s_seq zz.1)):g:=h ⟨k⟩
theorem Q71 {g g':Prop}(k:g')(h:Bx g'->g:=by exact fun zz=>s_skip (s_seq (s_region (o_q (q_mv (v_raw rfl)) rfl rfl rfl zz.1)))):g:=h ⟨k⟩
theorem Q72 {p1 g g':Prop}(y1:p1)(k:g')(h:p1->Bx g'->g:=by exact fun y1 zz=>d_q rfl (q_f y1 rfl) rfl rfl rfl zz.1):g:=h y1 ⟨k⟩
theorem Q73 {p1 p2 g g':Prop}(y1:p1)(y2:p2)(k:g')(h:p1->p2->Bx g'->g:=by exact fun y1 y2 zz=>o_q (q_idx y1 y2 rfl rfl (by omega) (gm i (by first|omega|simp)) rfl) rfl rfl rfl zz.1):g:=h y1 y2 ⟨k⟩
theorem Q74 {g g':Prop}(k:g')(h:Bx g'->g:=by exact fun zz=>o_q (q_mv (v_raw rfl)) rfl rfl rfl (o_yes rfl rfl rfl rfl zz.1)):g:=h ⟨k⟩
theorem Q75 {p1 g g':Prop}(y1:p1)(k:g')(h:p1->Bx g'->g:=by exact fun y1 zz=>o_storew rfl mmQ mfQ rfl y1 rfl rfl rfl rfl (o_nil (s_ret (s_end zz.1)))):g:=h y1 ⟨k⟩
theorem Q76 {g g':Prop}(k:g')(h:Bx g'->g:=by exact fun zz=>s_skip (s_seq zz.1)):g:=h ⟨k⟩
theorem Q77 {p1 p2 p3 g g':Prop}(y1:p1)(y2:p2)(y3:p3)(k:g')(h:p1->p2->p3->Bx g'->g:=by exact fun y1 y2 y3 zz=>d_q rfl (q_fr y1 rfl) rfl rfl rfl (d_q rfl (q_ldm y2 y3 rfl mmQ rfl (v_raw rfl)) rfl rfl rfl zz.1)):g:=h y1 y2 y3 ⟨k⟩
theorem Q78 {g g':Prop}(k:g')(h:Bx g'->g:=by exact fun zz=>s_skip (s_seq (s_block zz.1))):g:=h ⟨k⟩
theorem Q79 {g g':Prop}(k:g')(h:Bx g'->g:=by exact fun zz=>o_q (q_ext rfl rfl (v_raw rfl)) rfl rfl rfl (o_q (q_ext rfl rfl (v_raw rfl)) rfl rfl rfl zz.1)):g:=h ⟨k⟩
theorem Q80 {g g':Prop}(k:g')(h:Bx g'->g:=by exact fun zz=>o_q (q_ext rfl rfl (v_raw rfl)) rfl rfl rfl zz.1):g:=h ⟨k⟩
theorem Q81 {g g':Prop}(k:g')(h:Bx g'->g:=by exact fun zz=>o_no rfl rfl rfl rfl rfl (o_no rfl rfl rfl rfl rfl zz.1)):g:=h ⟨k⟩
theorem Q82 {g g':Prop}(k:g')(h:Bx g'->g:=by exact fun zz=>s_skip (s_seq (s_seq (s_region zz.1)))):g:=h ⟨k⟩
theorem Q83 {g g':Prop}(k:g')(h:Bx g'->g:=by exact fun zz=>o_nil (s_else rfl rfl zz.1)):g:=h ⟨k⟩
theorem Q84 {g g':Prop}(k:g')(h:Bx g'->g:=by exact fun zz=>o_q (q_lss rfl rfl) rfl rfl rfl (o_nil zz.1)):g:=h ⟨k⟩
theorem Q85 {p1 g g':Prop}(y1:p1)(k:g')(h:p1->Bx g'->g:=by exact fun y1 zz=>o_q (q_len rfl y1 rfl) rfl rfl rfl zz.1):g:=h y1 ⟨k⟩
theorem Q86 {g g':Prop}(k:g')(h:Bx g'->g:=by exact fun zz=>s_skip (s_seq (s_block (s_seq (s_region zz.1))))):g:=h ⟨k⟩
theorem Q87 {p1 p2 g g':Prop}(y1:p1)(y2:p2)(k:g')(h:p1->p2->Bx g'->g:=by exact fun y1 y2 zz=>o_q (q_ldm y1 y2 rfl mmQ rfl (v_agg rfl)) rfl rfl rfl zz.1):g:=h y1 y2 ⟨k⟩
theorem Q88 {g g':Prop}(k:g')(h:Bx g'->g:=by exact fun zz=>s_blk_normal (s_region (o_q (q_mv (v_raw rfl)) rfl rfl rfl (o_q (q_add rfl rfl (wrap64 (by omega) (by omega))) rfl rfl rfl zz.1)))):g:=h ⟨k⟩
theorem Q89 {g g':Prop}(k:g')(h:Bx g'->g:=by exact fun zz=>o_q (q_leq rfl rfl) rfl rfl rfl zz.1):g:=h ⟨k⟩
theorem Q90 {g g':Prop}(k:g')(h:Bx g'->g:=by exact fun zz=>o_q (q_not rfl) rfl rfl rfl zz.1):g:=h ⟨k⟩
theorem Q91 {g g':Prop}(k:g')(h:Bx g'->g:=by exact fun zz=>s_seq (s_draw rfl zz.1)):g:=h ⟨k⟩
theorem Q92 {g g':Prop}(k:g')(h:Bx g'->g:=by exact fun zz=>s_skip (s_seq (s_region zz.1))):g:=h ⟨k⟩
theorem Q93 {g g':Prop}(k:g')(h:Bx g'->g:=by exact fun zz=>s_seq (s_region (o_q (q_as_const rfl) rfl rfl rfl zz.1))):g:=h ⟨k⟩
theorem Q94 {g g':Prop}(k:g')(h:Bx g'->g:=by exact fun zz=>o_qs (q_mv_own rfl) rfl rfl rfl rfl zz.1):g:=h ⟨k⟩
theorem Q95 {p1 g g':Prop}(y1:p1)(k:g')(h:p1->Bx g'->g:=by exact fun y1 zz=>s_seq (s_region (o_q (q_mv (mvQ)) rfl rfl rfl (o_q (q_nil rfl) rfl rfl rfl (o_q (q_fr y1 rfl) rfl rfl rfl zz.1))))):g:=h y1 ⟨k⟩
theorem Q96 {g g':Prop}(k:g')(h:Bx g'->g:=by exact fun zz=>d_q rfl (q_as (v_raw rfl)) rfl rfl rfl (d_nil zz.1)):g:=h ⟨k⟩
theorem Q97 {g g':Prop}(k:g')(h:Bx g'->g:=by exact fun zz=>o_g (G:=true) rfl rfl rfl rfl rfl (fun hG hc=>(q_mv (v_raw rfl))) zz.1):g:=h ⟨k⟩
theorem Q98 {p1 g g':Prop}(y1:p1)(k:g')(h:p1->Bx g'->g:=by exact fun y1 zz=>o_store rfl mmQ meQ rfl y1 rfl (Nat.le_of_ble_eq_true rfl) rfl rfl zz.1):g:=h y1 ⟨k⟩
theorem Q99 {g g':Prop}(k:g')(h:Bx g'->g:=by exact fun zz=>o_q (q_mv (v_raw rfl)) rfl rfl rfl (o_no rfl rfl rfl rfl rfl (o_no rfl rfl rfl rfl rfl (o_no rfl rfl rfl rfl rfl zz.1)))):g:=h ⟨k⟩
theorem Q100 {g g':Prop}(k:g')(h:Bx g'->g:=by exact fun zz=>o_q (q_mv (v_tup rfl)) rfl rfl rfl (o_q (q_ext rfl rfl (v_agg rfl)) rfl rfl rfl (o_q (q_ext rfl rfl (v_raw rfl)) rfl rfl rfl zz.1))):g:=h ⟨k⟩
theorem Q101 {g g':Prop}(k:g')(h:Bx g'->g:=by exact fun zz=>s_else rfl (decide_eq_false (by omega)) zz.1):g:=h ⟨k⟩
theorem Q102 {g g':Prop}(k:g')(h:Bx g'->g:=by exact fun zz=>o_q (q_gtr rfl rfl) rfl rfl rfl (o_nil zz.1)):g:=h ⟨k⟩
theorem Q103 {g g':Prop}(k:g')(h:Bx g'->g:=by exact fun zz=>o_nil (s_ret (s_end zz.1))):g:=h ⟨k⟩
theorem Q104 {g g':Prop}(k:g')(h:Bx g'->g:=by exact fun zz=>s_seq (s_region (o_q (q_as (v_sl rfl)) rfl rfl rfl zz.1))):g:=h ⟨k⟩
theorem Q105 {g g':Prop}(k:g')(h:Bx g'->g:=by exact fun zz=>o_g (G:=true) rfl rfl rfl rfl rfl (fun hG hc=>(q_lss (gv_on (gv_and hG hc) rfl) rfl)) zz.1):g:=h ⟨k⟩
theorem Q106 {p1 p2 p3 g g':Prop}(y1:p1)(y2:p2)(y3:p3)(k:g')(h:p1->p2->p3->Bx g'->g:=by exact fun y1 y2 y3 zz=>o_no rfl rfl rfl rfl y1 (o_no rfl rfl rfl rfl y2 (o_no rfl rfl rfl rfl y3 zz.1))):g:=h y1 y2 y3 ⟨k⟩
theorem Q107 {p1 g g':Prop}(y1:p1)(k:g')(h:p1->Bx g'->g:=by exact fun y1 zz=>o_q (q_bs y1 (pc (v_agg rfl) pn) rfl (Els.cons rfl rfl Els.nil) (by decide)) rfl rfl rfl zz.1):g:=h y1 ⟨k⟩
theorem Q108 {g g':Prop}(k:g')(h:Bx g'->g:=by exact fun zz=>o_q (q_neq rfl rfl) rfl rfl rfl zz.1):g:=h ⟨k⟩
theorem Q109 {g g':Prop}(k:g')(h:Bx g'->g:=by exact fun zz=>o_q (q_lss rfl rfl) rfl rfl rfl zz.1):g:=h ⟨k⟩
theorem Q110 {p1 p2 p3 g g':Prop}(y1:p1)(y2:p2)(y3:p3)(k:g')(h:p1->p2->p3->Bx g'->g:=by exact fun y1 y2 y3 zz=>o_yes rfl rfl rfl y1 (o_q (q_fr y2 rfl) rfl rfl rfl (o_yes rfl rfl rfl y3 zz.1))):g:=h y1 y2 y3 ⟨k⟩
theorem Q111 {g g':Prop}(k:g')(h:Bx g'->g:=by exact fun zz=>o_q (q_mv (v_raw rfl)) rfl rfl rfl (o_no rfl rfl rfl rfl rfl (o_no rfl rfl rfl rfl rfl zz.1))):g:=h ⟨k⟩
theorem Q112 {p1 g g':Prop}(y1:p1)(k:g')(h:p1->Bx g'->g:=by exact fun y1 zz=>o_store_own rfl mmQ rfl y1 (Nat.le_of_ble_eq_true rfl) zz.1):g:=h y1 ⟨k⟩
theorem Q113 {g g':Prop}(k:g')(h:Bx g'->g:=by exact fun zz=>o_q (q_add rfl rfl (wrap64 (by omega) (by omega))) rfl rfl rfl zz.1):g:=h ⟨k⟩
theorem Q114 {g g':Prop}(k:g')(h:Bx g'->g:=by exact fun zz=>o_nil (s_ret (s_code_ret (s_end zz.1)))):g:=h ⟨k⟩
theorem Q115 {g g':Prop}(k:g')(h:Bx g'->g:=by exact fun zz=>o_q (q_gtr rfl rfl) rfl rfl rfl zz.1):g:=h ⟨k⟩
theorem Q116 {g g':Prop}(k:g')(h:Bx g'->g:=by exact fun zz=>s_then rfl rfl zz.1):g:=h ⟨k⟩
theorem Q117 {g g':Prop}(k:g')(h:Bx g'->g:=by exact fun zz=>s_exit (s_code_exit (s_inv_exit (s_blk_here (s_seq (s_region zz.1)))))):g:=h ⟨k⟩
theorem Q118 {p1 g g':Prop}(y1:p1)(k:g')(h:p1->Bx g'->g:=by exact fun y1 zz=>o_storew rfl mmQ mfQ rfl y1 rfl rfl rfl rfl (o_nil zz.1)):g:=h y1 ⟨k⟩
theorem Q119 {g g':Prop}(k:g')(h:Bx g'->g:=by exact fun zz=>o_q (q_not rfl) rfl rfl rfl (o_q (q_mv (v_raw rfl)) rfl rfl rfl zz.1)):g:=h ⟨k⟩
theorem Q120 {g g':Prop}(k:g')(h:Bx g'->g:=by exact fun zz=>o_q (q_as (v_raw rfl)) rfl rfl rfl (o_q (q_as (v_raw rfl)) rfl rfl rfl zz.1)):g:=h ⟨k⟩
theorem Q121 {g g':Prop}(k:g')(h:Bx g'->g:=by exact fun zz=>s_blk_ret (s_code_ret (s_inv_ret (s_blk_ret (s_code_ret (s_end zz.1)))))):g:=h ⟨k⟩
theorem Q122 {g g':Prop}(k:g')(h:Bx g'->g:=by exact fun zz=>o_q (q_neq rfl rfl) rfl rfl rfl (o_nil zz.1)):g:=h ⟨k⟩
theorem Q123 {g g':Prop}(k:g')(h:Bx g'->g:=by exact fun zz=>d_q rfl (q_mv (mvQ)) rfl rfl rfl zz.1):g:=h ⟨k⟩
theorem Q124 {p1 p2 g g':Prop}(y1:p1)(y2:p2)(k:g')(h:p1->p2->Bx g'->g:=by exact fun y1 y2 zz=>d_q rfl (q_ldmw y1 y2 rfl mmQ rfl rfl) rfl rfl rfl zz.1):g:=h y1 y2 ⟨k⟩
theorem Q125 {g g':Prop}(k:g')(h:Bx g'->g:=by exact fun zz=>d_q rfl (q_as (v_raw rfl)) rfl rfl rfl (d_nil (s_ret (s_end zz.1)))):g:=h ⟨k⟩
theorem Q126 {p1 p2 g g':Prop}(y1:p1)(y2:p2)(k:g')(h:p1->p2->Bx g'->g:=by exact fun y1 y2 zz=>o_q (q_ldm y1 y2 rfl mmQ rfl (mvQ)) rfl rfl rfl zz.1):g:=h y1 y2 ⟨k⟩
theorem Q127 {g g':Prop}(k:g')(h:Bx g'->g:=by exact fun zz=>o_q (q_as (v_raw rfl)) rfl rfl rfl (o_nil (s_seq (s_seq (s_region zz.1))))):g:=h ⟨k⟩
theorem Q128 {g g':Prop}(k:g')(h:Bx g'->g:=by exact fun zz=>o_qs (q_as_own rfl) rfl rfl rfl rfl (o_nil zz.1)):g:=h ⟨k⟩
theorem Q129 {g g':Prop}(k:g')(h:Bx g'->g:=by exact fun zz=>o_q (q_eql rfl rfl) rfl rfl rfl (o_nil zz.1)):g:=h ⟨k⟩
theorem Q130 {g g':Prop}(k:g')(h:Bx g'->g:=by exact fun zz=>o_q (q_as (v_raw rfl)) rfl rfl rfl (o_nil (s_block zz.1))):g:=h ⟨k⟩
theorem Q131 {p1 g g':Prop}(y1:p1)(k:g')(h:p1->Bx g'->g:=by exact fun y1 zz=>o_q (q_fr y1 rfl) rfl rfl rfl (o_yes rfl rfl rfl rfl zz.1)):g:=h y1 ⟨k⟩
theorem Q132 {p1 p2 p3 g g':Prop}(y1:p1)(y2:p2)(y3:p3)(k:g')(h:p1->p2->p3->Bx g'->g:=by exact fun y1 y2 y3 zz=>o_g (G:=true) rfl rfl rfl rfl rfl (fun hG hc=>(q_fr y1 rfl)) (o_g (G:=true) rfl rfl rfl rfl rfl (fun hG hc=>(q_ldm y2 y3 (gv_on (gv_and hG hc) rfl) mmQ rfl (v_raw rfl))) zz.1)):g:=h y1 y2 y3 ⟨k⟩
theorem Q133 {p1 p2 p3 g g':Prop}(y1:p1)(y2:p2)(y3:p3)(k:g')(h:p1->p2->p3->Bx g'->g:=by exact fun y1 y2 y3 zz=>o_q (q_fr y1 rfl) rfl rfl rfl (o_q (q_ldm y2 y3 rfl mmQ rfl (v_sl rfl)) rfl rfl rfl zz.1)):g:=h y1 y2 y3 ⟨k⟩
theorem Q134 {p1 p2 g g':Prop}(y1:p1)(y2:p2)(k:g')(h:p1->p2->Bx g'->g:=by exact fun y1 y2 zz=>o_q (q_ld y1 y2 rfl (gm i (by first|omega|simp)) rfl (v_raw rfl)) rfl rfl rfl zz.1):g:=h y1 y2 ⟨k⟩
theorem Q135 {p1 g g':Prop}(y1:p1)(k:g')(h:p1->Bx g'->g:=by exact fun y1 zz=>any_o rfl (o_q (q_fr y1 rfl) rfl rfl rfl (o_nil zz.1))):g:=h y1 ⟨k⟩
theorem Q136 {g g':Prop}(k:g')(h:Bx g'->g:=by exact fun zz=>d_q rfl (q_mv (mvQ)) rfl rfl rfl (d_q rfl (q_nil rfl) rfl rfl rfl zz.1)):g:=h ⟨k⟩
theorem Q137 {p1 p2 g g':Prop}(y1:p1)(y2:p2)(k:g')(h:p1->p2->Bx g'->g:=by exact fun y1 y2 zz=>o_take rfl rfl mmQ rfl y1 y2 zz.1):g:=h y1 y2 ⟨k⟩
theorem Q138 {g g':Prop}(k:g')(h:Bx g'->g:=by exact fun zz=>o_q (q_as (v_raw rfl)) rfl rfl rfl (o_nil (s_seq (s_region zz.1)))):g:=h ⟨k⟩
theorem Q139 {p1 p2 g g':Prop}(y1:p1)(y2:p2)(k:g')(h:p1->p2->Bx g'->g:=by exact fun y1 y2 zz=>o_q (q_ldm y1 y2 rfl mmQ rfl (v_sl rfl)) rfl rfl rfl zz.1):g:=h y1 y2 ⟨k⟩
theorem Q140 {g g':Prop}(k:g')(h:Bx g'->g:=by exact fun zz=>o_q (q_mv (v_sl rfl)) rfl rfl rfl (o_q (q_mv (v_raw rfl)) rfl rfl rfl zz.1)):g:=h ⟨k⟩
theorem Q141 {p1 p2 g g':Prop}(y1:p1)(y2:p2)(k:g')(h:p1->p2->Bx g'->g:=by exact fun y1 y2 zz=>o_q (q_i2i y1 y2 rfl (u64_wrap (by omega) (by omega))) rfl rfl rfl zz.1):g:=h y1 y2 ⟨k⟩
theorem Q142 {p1 p2 g g':Prop}(y1:p1)(y2:p2)(k:g')(h:p1->p2->Bx g'->g:=by exact fun y1 y2 zz=>d_q rfl (q_i2i y1 y2 rfl (wrap64 (by omega) (by omega))) rfl rfl rfl zz.1):g:=h y1 y2 ⟨k⟩
theorem Q143 {p1 g g':Prop}(y1:p1)(k:g')(h:p1->Bx g'->g:=by exact fun y1 zz=>o_q (q_peql y1 rfl rfl) rfl rfl rfl zz.1):g:=h y1 ⟨k⟩
theorem Q144 {g g':Prop}(k:g')(h:Bx g'->g:=by exact fun zz=>s_region (o_q (q_mv (v_raw rfl)) rfl rfl rfl zz.1)):g:=h ⟨k⟩
theorem Q145 {p1 g g':Prop}(y1:p1)(k:g')(h:p1->Bx g'->g:=by exact fun y1 zz=>s_skip (s_then rfl y1 zz.1)):g:=h y1 ⟨k⟩
theorem Q146 {g g':Prop}(k:g')(h:Bx g'->g:=by exact fun zz=>d_q rfl (q_as (mvQ)) rfl rfl rfl zz.1):g:=h ⟨k⟩
theorem Q147 {g g':Prop}(k:g')(h:Bx g'->g:=by exact fun zz=>o_nil (s_block zz.1)):g:=h ⟨k⟩
theorem Q148 {g g':Prop}(k:g')(h:Bx g'->g:=by exact fun zz=>s_skip (s_blk_normal zz.1)):g:=h ⟨k⟩
theorem Q149 {g g':Prop}(k:g')(h:Bx g'->g:=by exact fun zz=>o_nil (s_then rfl rfl zz.1)):g:=h ⟨k⟩
theorem Q150 {g g':Prop}(k:g')(h:Bx g'->g:=by exact fun zz=>s_seq (s_block zz.1)):g:=h ⟨k⟩
theorem Q151 {g g':Prop}(k:g')(h:Bx g'->g:=by exact fun zz=>o_qs (q_as_own rfl) rfl rfl rfl rfl zz.1):g:=h ⟨k⟩
theorem Q152 {g g':Prop}(k:g')(h:Bx g'->g:=by exact fun zz=>o_q (q_sub rfl rfl (wrap64 (by omega) (by omega))) rfl rfl rfl zz.1):g:=h ⟨k⟩
theorem Q153 {g g':Prop}(k:g')(h:Bx g'->g:=by exact fun zz=>d_nil (s_seq (s_seq (s_region zz.1)))):g:=h ⟨k⟩
theorem Q154 {g g':Prop}(k:g')(h:Bx g'->g:=by exact fun zz=>d_no rfl rfl rfl rfl rfl rfl zz.1):g:=h ⟨k⟩
theorem Q155 {p1 p2 g g':Prop}(y1:p1)(y2:p2)(k:g')(h:p1->p2->Bx g'->g:=by exact fun y1 y2 zz=>d_q rfl (q_idxa y1 y2 rfl rfl (by omega) (by omega)) rfl rfl rfl zz.1):g:=h y1 y2 ⟨k⟩
theorem Q156 {p1 g g':Prop}(y1:p1)(k:g')(h:p1->Bx g'->g:=by exact fun y1 zz=>o_no rfl rfl rfl rfl y1 zz.1):g:=h y1 ⟨k⟩
theorem Q157 {p1 p2 g g':Prop}(y1:p1)(y2:p2)(k:g')(h:p1->p2->Bx g'->g:=by exact fun y1 y2 zz=>d_q rfl (q_ldm y1 y2 rfl mmQ rfl (v_raw rfl)) rfl rfl rfl zz.1):g:=h y1 y2 ⟨k⟩
theorem Q158 {g g':Prop}(k:g')(h:Bx g'->g:=by exact fun zz=>o_g (G:=true) rfl rfl rfl rfl rfl (fun hG hc=>(q_not (gv_on (gv_and hG hc) rfl))) zz.1):g:=h ⟨k⟩
theorem Q159 {p1 p2 p3 p4 g g':Prop}(y1:p1)(y2:p2)(y3:p3)(y4:p4)(k:g')(h:p1->p2->p3->p4->Bx g'->g:=by exact fun y1 y2 y3 y4 zz=>o_q (q_b (cs:=[_,_,.raw (.string { data:=#[] })]) y1 y2 (bf y3 (e_raw rfl) rfl rfl (Nat.le_of_ble_eq_true rfl) rfl (bf y4 (e_raw rfl) rfl rfl (Nat.le_of_ble_eq_true rfl) rfl bf_nil))) rfl rfl rfl zz.1):g:=h y1 y2 y3 y4 ⟨k⟩
theorem Q160 {g g':Prop}(k:g')(h:Bx g'->g:=by exact fun zz=>d_q rfl (q_ext rfl rfl (v_raw rfl)) rfl rfl rfl zz.1):g:=h ⟨k⟩
theorem Q161 {p1 p2 g g':Prop}(y1:p1)(y2:p2)(k:g')(h:p1->p2->Bx g'->g:=by exact fun y1 y2 zz=>d_yes rfl (q_fr y1 rfl) rfl rfl rfl y2 rfl rfl zz.1):g:=h y1 y2 ⟨k⟩
theorem Q162 {p1 g g':Prop}(y1:p1)(k:g')(h:p1->Bx g'->g:=by exact fun y1 zz=>d_yes rfl (q_mv (mvQ)) rfl rfl rfl y1 rfl rfl zz.1):g:=h y1 ⟨k⟩
theorem Q163 {g g':Prop}(k:g')(h:Bx g'->g:=by exact fun zz=>d_q rfl (q_nil rfl) rfl rfl rfl zz.1):g:=h ⟨k⟩
theorem Q164 {g g':Prop}(k:g')(h:Bx g'->g:=by exact fun zz=>o_yes rfl rfl rfl (by rw [hg];rfl) zz.1):g:=h ⟨k⟩
theorem Q165 {p1 g g':Prop}(y1:p1)(k:g')(h:p1->Bx g'->g:=by exact fun y1 zz=>o_q (q_bs y1 (pc (v_raw rfl) pn) rfl (Els.cons rfl rfl Els.nil) (by decide)) rfl rfl rfl zz.1):g:=h y1 ⟨k⟩
theorem Q166 {g g':Prop}(k:g')(h:Bx g'->g:=by exact fun zz=>o_q (q_ext rfl rfl (v_sl rfl)) rfl rfl rfl zz.1):g:=h ⟨k⟩
theorem Q167 {g g':Prop}(k:g')(h:Bx g'->g:=by exact fun zz=>d_q rfl (q_mv (v_tup rfl)) rfl rfl rfl zz.1):g:=h ⟨k⟩
theorem Q168 {p1 g g':Prop}(y1:p1)(k:g')(h:p1->Bx g'->g:=by exact fun y1 zz=>d_no rfl rfl rfl rfl y1 rfl zz.1):g:=h y1 ⟨k⟩
theorem Q169 {p1 g g':Prop}(y1:p1)(k:g')(h:p1->Bx g'->g:=by exact fun y1 zz=>o_g (G:=true) rfl rfl rfl rfl rfl (fun hG hc=>(q_fr y1 rfl)) zz.1):g:=h y1 ⟨k⟩
theorem Q170 {g g':Prop}(k:g')(h:Bx g'->g:=by exact fun zz=>o_q (q_sneq rfl rfl) rfl rfl rfl zz.1):g:=h ⟨k⟩
theorem Q171 {g g':Prop}(k:g')(h:Bx g'->g:=by exact fun zz=>o_yes rfl rfl rfl (by simp [hw]) zz.1):g:=h ⟨k⟩
theorem Q172 {g g':Prop}(k:g')(h:Bx g'->g:=by exact fun zz=>s_then rfl (decide_eq_true (by omega)) zz.1):g:=h ⟨k⟩
theorem Q173 {p1 g g':Prop}(y1:p1)(k:g')(h:p1->Bx g'->g:=by exact fun y1 zz=>o_q (q_stri y1 rfl rfl rfl (by omega)) rfl rfl rfl zz.1):g:=h y1 ⟨k⟩
theorem Q174 {p1 g g':Prop}(y1:p1)(k:g')(h:p1->Bx g'->g:=by exact fun y1 zz=>d_q rfl (q_pick_c (t:=true) rfl y1 (v_raw rfl)) rfl rfl rfl zz.1):g:=h y1 ⟨k⟩
theorem Q175 {p1 g g':Prop}(y1:p1)(k:g')(h:p1->Bx g'->g:=by exact fun y1 zz=>d_q rfl (q_pick_c (t:=false) rfl y1 (v_raw rfl)) rfl rfl rfl zz.1):g:=h y1 ⟨k⟩
theorem Q176 {g g':Prop}(k:g')(h:Bx g'->g:=by exact fun zz=>o_q (q_ext rfl rfl (mvQ)) rfl rfl rfl zz.1):g:=h ⟨k⟩
theorem Q177 {p1 p2 g g':Prop}(y1:p1)(y2:p2)(k:g')(h:p1->p2->Bx g'->g:=by exact fun y1 y2 zz=>o_q (q_lde y1 y2 rfl (gm i (by first|omega|simp)) rfl rfl) rfl rfl rfl zz.1):g:=h y1 y2 ⟨k⟩
theorem Q178 {p1 p2 g g':Prop}(y1:p1)(y2:p2)(k:g')(h:p1->p2->Bx g'->g:=by exact fun y1 y2 zz=>o_q (q_idxa y1 y2 rfl rfl (by omega) (by omega)) rfl rfl rfl zz.1):g:=h y1 y2 ⟨k⟩
theorem Q179 {p1 p2 p3 p4 g g':Prop}(y1:p1)(y2:p2)(y3:p3)(y4:p4)(k:g')(h:p1->p2->p3->p4->Bx g'->g:=by exact fun y1 y2 y3 y4 zz=>o_q (q_b (cs:=[_,_]) y1 y2 (bf y3 (e_raw rfl) rfl rfl (Nat.le_of_ble_eq_true rfl) rfl (bf y4 (e_raw rfl) rfl rfl (Nat.le_of_ble_eq_true rfl) rfl bf_nil))) rfl rfl rfl zz.1):g:=h y1 y2 y3 y4 ⟨k⟩
theorem Q180 {g g':Prop}(k:g')(h:Bx g'->g:=by exact fun zz=>d_q rfl (q_ext rfl rfl (v_agg rfl)) rfl rfl rfl zz.1):g:=h ⟨k⟩
theorem Q181 {g g':Prop}(k:g')(h:Bx g'->g:=by exact fun zz=>s_code_ret (s_end zz.1)):g:=h ⟨k⟩
theorem Q182 {g g':Prop}(k:g')(h:Bx g'->g:=by exact fun zz=>o_q (q_seql rfl rfl) rfl rfl rfl zz.1):g:=h ⟨k⟩
theorem Q183 {p1 g g':Prop}(y1:p1)(k:g')(h:p1->Bx g'->g:=by exact fun y1 zz=>d_yes rfl (q_mv (v_raw rfl)) rfl rfl rfl y1 rfl rfl zz.1):g:=h y1 ⟨k⟩
theorem Q184 {p1 g g':Prop}(y1:p1)(k:g')(h:p1->Bx g'->g:=by exact fun y1 zz=>o_q (q_f y1 rfl) rfl rfl rfl zz.1):g:=h y1 ⟨k⟩
theorem Q185 {p1 g g':Prop}(y1:p1)(k:g')(h:p1->Bx g'->g:=by exact fun y1 zz=>o_g (G:=true) rfl rfl rfl rfl rfl (fun hG hc=>(q_len rfl y1 (gv_on (gv_and hG hc) rfl))) zz.1):g:=h y1 ⟨k⟩
theorem Q186 {p1 p2 g g':Prop}(y1:p1)(y2:p2)(k:g')(h:p1->p2->Bx g'->g:=by exact fun y1 y2 zz=>o_g (G:=true) rfl rfl rfl rfl rfl (fun hG hc=>(q_ldm y1 y2 (gv_on (gv_and hG hc) rfl) mmQ rfl (v_agg rfl))) zz.1):g:=h y1 y2 ⟨k⟩
theorem Q187 {g g':Prop}(k:g')(h:Bx g'->g:=by exact fun zz=>o_yes rfl rfl rfl (decide_eq_true rfl) zz.1):g:=h ⟨k⟩
theorem Q188 {p1 g g':Prop}(y1:p1)(k:g')(h:p1->Bx g'->g:=by exact fun y1 zz=>o_yes rfl rfl rfl y1 (o_q (q_mv (v_raw rfl)) rfl rfl rfl zz.1)):g:=h y1 ⟨k⟩
theorem Q189 {p1 p2 p3 p4 g g':Prop}(y1:p1)(y2:p2)(y3:p3)(y4:p4)(k:g')(h:p1->p2->p3->p4->Bx g'->g:=by exact fun y1 y2 y3 y4 zz=>d_q rfl (q_b (cs:=[_,_]) y1 y2 (bf y3 (e_raw rfl) rfl rfl (Nat.le_of_ble_eq_true rfl) rfl (bf y4 (e_raw rfl) rfl rfl (Nat.le_of_ble_eq_true rfl) rfl bf_nil))) rfl rfl rfl zz.1):g:=h y1 y2 y3 y4 ⟨k⟩
theorem Q190 {g g':Prop}(k:g')(h:Bx g'->g:=by exact fun zz=>o_q (q_mv (v_raw rfl)) rfl rfl rfl (o_q (q_add rfl rfl (wrap64 (by omega) (by omega))) rfl rfl rfl zz.1)):g:=h ⟨k⟩
theorem Q191 {g g':Prop}(k:g')(h:Bx g'->g:=by exact fun zz=>o_g (G:=true) rfl rfl rfl rfl rfl (fun hG hc=>(q_mv (v_raw (gv_on (gv_and hG hc) rfl)))) zz.1):g:=h ⟨k⟩
theorem Q192 {p1 g g':Prop}(y1:p1)(k:g')(h:p1->Bx g'->g:=by exact fun y1 zz=>o_g rfl rfl rfl rfl rfl (fun hG hc=>(q_fr y1 rfl)) zz.1):g:=h y1 ⟨k⟩
theorem Q193 {g g':Prop}(k:g')(h:Bx g'->g:=by exact fun zz=>o_g (G:=true) rfl rfl rfl rfl rfl (fun hG hc=>(q_leq (gv_on (gv_and hG hc) rfl) rfl)) zz.1):g:=h ⟨k⟩
theorem Q194 {p1 p2 p3 p4 g g':Prop}(y1:p1)(y2:p2)(y3:p3)(y4:p4)(k:g')(h:p1->p2->p3->p4->Bx g'->g:=by exact fun y1 y2 y3 y4 zz=>o_q (q_b (cs:=[_,.raw (.int .u64 0),_]) y1 y2 (bf y3 (e_raw rfl) rfl rfl (Nat.le_of_ble_eq_true rfl) rfl (bf y4 (e_raw rfl) rfl rfl (Nat.le_of_ble_eq_true rfl) rfl bf_nil))) rfl rfl rfl zz.1):g:=h y1 y2 y3 y4 ⟨k⟩
theorem Q195 {g g':Prop}(k:g')(h:Bx g'->g:=by exact fun zz=>o_g (G:=true) rfl rfl rfl rfl rfl (fun hG hc=>(q_mv (v_sl rfl))) zz.1):g:=h ⟨k⟩
theorem Q196 {g g':Prop}(k:g')(h:Bx g'->g:=by exact fun zz=>d_q rfl (q_pick_c (t:=true) rfl rfl (v_raw rfl)) rfl rfl rfl zz.1):g:=h ⟨k⟩
theorem Q197 {g g':Prop}(k:g')(h:Bx g'->g:=by exact fun zz=>o_g (G:=true) rfl rfl rfl rfl rfl (fun hG hc=>(q_eql (gv_on (gv_and hG hc) rfl) (gv_on (gv_and hG hc) rfl))) zz.1):g:=h ⟨k⟩
theorem Q198 {p1 p2 g g':Prop}(y1:p1)(y2:p2)(k:g')(h:p1->p2->Bx g'->g:=by exact fun y1 y2 zz=>o_q (q_b (cs:=[.raw (.int .i64 0),.raw (.int .i64 0),.raw (.int .i64 0),.raw (.int .i64 0),.raw (.int .i64 0),.raw (.int .i64 0),.raw (.int .i64 0),.raw (.int .i64 0),.raw (.int .i64 0),.raw (.int .i64 0),.raw (.string { data:=#[] }),.raw (.slice none 0 0)]) y1 y2 bf_nil) rfl rfl rfl zz.1):g:=h y1 y2 ⟨k⟩
theorem Q199 {p1 g g':Prop}(y1:p1)(k:g')(h:p1->Bx g'->g:=by exact fun y1 zz=>o_q (q_pick_c rfl y1 (v_raw rfl)) rfl rfl rfl zz.1):g:=h y1 ⟨k⟩
theorem Q200 {p1 g g':Prop}(y1:p1)(k:g')(h:p1->Bx g'->g:=by exact fun y1 zz=>d_yes rfl (q_nil rfl) rfl rfl rfl y1 rfl rfl zz.1):g:=h y1 ⟨k⟩
theorem Q201 {g g':Prop}(k:g')(h:Bx g'->g:=by exact fun zz=>o_yes rfl rfl rfl (by rw [hbk.1];rfl) zz.1):g:=h ⟨k⟩
theorem Q202 {g g':Prop}(k:g')(h:Bx g'->g:=by exact fun zz=>o_no rfl rfl rfl rfl (by rw [hg];rfl) zz.1):g:=h ⟨k⟩
theorem Q203 {p1 p2 g g':Prop}(y1:p1)(y2:p2)(k:g')(h:p1->p2->Bx g'->g:=by exact fun y1 y2 zz=>d_q rfl (q_ldm y1 y2 rfl mmQ rfl (v_sl rfl)) rfl rfl rfl zz.1):g:=h y1 y2 ⟨k⟩
theorem Q204 {p1 g g':Prop}(y1:p1)(k:g')(h:p1->Bx g'->g:=by exact fun y1 zz=>o_qs (q_app y1 rfl rfl rfl rfl elsIt (by first|exact elsIt|exact Els.cons rfl rfl Els.nil) (by simp;omega)) rfl rfl rfl rfl zz.1):g:=h y1 ⟨k⟩
theorem Q205 {p1 p2 g g':Prop}(y1:p1)(y2:p2)(k:g')(h:p1->p2->Bx g'->g:=by exact fun y1 y2 zz=>o_g rfl rfl rfl rfl rfl (fun hG hc=>(q_ldm y1 y2 (gv_on (gv_and hG hc) rfl) mmQ rfl (v_raw rfl))) zz.1):g:=h y1 y2 ⟨k⟩
theorem Q206 {p1 g g':Prop}(y1:p1)(k:g')(h:p1->Bx g'->g:=by exact fun y1 zz=>o_g (G:=true) rfl rfl rfl rfl rfl (fun hG hc=>(q_lens rfl y1 (gv_on (gv_and hG hc) rfl))) zz.1):g:=h y1 ⟨k⟩
theorem Q207 {g g':Prop}(k:g')(h:Bx g'->g:=by exact fun zz=>o_call (((snd329 t m x _ mmQ mmQ htm).det)) goes329 (ac (mvQ) ac_nil) rfl zz.1):g:=h ⟨k⟩
theorem Q208 {p1 p2 g g':Prop}(y1:p1)(y2:p2)(k:g')(h:p1->p2->Bx g'->g:=by exact fun y1 y2 zz=>d_q rfl (q_mget2 y1 y2 z343 rfl rfl mmQ (show _=encSb s by rw [hn];rfl)) rfl rfl rfl zz.1):g:=h y1 y2 ⟨k⟩
theorem Q209 {g g':Prop}(k:g')(h:Bx g'->g:=by exact fun zz=>SoundCall.go tk245 pl245 mixed Tryz.func245 cb245 rfl (Nat.le_of_ble_eq_true rfl) zz.1):g:=h ⟨k⟩
theorem Q210 {p1 p2 g g':Prop}(y1:p1)(y2:p2)(k:g')(h:p1->p2->Bx g'->g:=by exact fun y1 y2 zz=>d_q rfl (q_idxr y1 y2 rfl rfl (by omega) (by omega)) rfl rfl rfl zz.1):g:=h y1 y2 ⟨k⟩
theorem Q211 {g g':Prop}(k:g')(h:Bx g'->g:=by exact fun zz=>any_step (r:=[23]) (by kernel_rfl) (by decide) zz.1):g:=h ⟨k⟩
theorem Q212 {p1 g g':Prop}(y1:p1)(k:g')(h:p1->Bx g'->g:=by exact fun y1 zz=>o_qs (q_app y1 rfl rfl rfl rfl (by first|exact elsDn|exact Els.cons rfl rfl Els.nil) (by first|exact (by first|exact elsDn|exact Els.cons rfl rfl Els.nil)|exact Els.cons rfl rfl Els.nil) (by simp;omega)) rfl rfl rfl rfl zz.1):g:=h y1 ⟨k⟩
theorem Q213 {g g':Prop}(k:g')(h:Bx g'->g:=by exact fun zz=>any_step (r:=[24]) (by kernel_rfl) (by decide) zz.1):g:=h ⟨k⟩
theorem Q214 {g g':Prop}(k:g')(h:Bx g'->g:=by exact fun zz=>any_step (r:=[25]) (by kernel_rfl) (by decide) zz.1):g:=h ⟨k⟩
theorem Q215 {g g':Prop}(k:g')(h:Bx g'->g:=by exact fun zz=>any_step (r:=[26]) (by kernel_rfl) (by decide) zz.1):g:=h ⟨k⟩
theorem Q216 {g g':Prop}(k:g')(h:Bx g'->g:=by exact fun zz=>any_step (r:=[27]) (by kernel_rfl) (by decide) zz.1):g:=h ⟨k⟩
theorem Q217 {g g':Prop}(k:g')(h:Bx g'->g:=by exact fun zz=>any_step (r:=[28]) (by kernel_rfl) (by decide) zz.1):g:=h ⟨k⟩
theorem Q218 {g g':Prop}(k:g')(h:Bx g'->g:=by exact fun zz=>s_blk_ret (s_code_ret (s_end zz.1))):g:=h ⟨k⟩
theorem Q219 {g g':Prop}(k:g')(h:Bx g'->g:=by exact fun zz=>SoundCall.go tk292 pl292 mixed Tryz.func292 cb292 rfl (Nat.le_of_ble_eq_true rfl) zz.1):g:=h ⟨k⟩
theorem Q220 {p1 p2 p3 p4 p5 p6 p7 g g':Prop}(y1:p1)(y2:p2)(y3:p3)(y4:p4)(y5:p5)(y6:p6)(y7:p7)(k:g')(h:p1->p2->p3->p4->p5->p6->p7->Bx g'->g:=by exact fun y1 y2 y3 y4 y5 y6 y7 zz=>o_q (q_b (cs:=[_,_,_,_,_]) y1 y2 (bf y3 (e_raw rfl) rfl rfl (Nat.le_of_ble_eq_true rfl) rfl (bf y4 (e_raw rfl) rfl rfl (Nat.le_of_ble_eq_true rfl) rfl (bf y5 (e_raw rfl) rfl rfl (Nat.le_of_ble_eq_true rfl) rfl (bf y6 (e_raw rfl) rfl rfl (Nat.le_of_ble_eq_true rfl) rfl (bf y7 (e_raw rfl) rfl rfl (Nat.le_of_ble_eq_true rfl) rfl bf_nil)))))) rfl rfl rfl zz.1):g:=h y1 y2 y3 y4 y5 y6 y7 ⟨k⟩
theorem Q221 {g g':Prop}(k:g')(h:Bx g'->g:=by exact fun zz=>o_call ((snd305 p _).det) goes305 (ac (v_raw rfl) ac_nil) rfl zz.1):g:=h ⟨k⟩
theorem Q222 {g g':Prop}(k:g')(h:Bx g'->g:=by exact fun zz=>o_call ((snd331 (newR x p seq k v) _).det) goes331 (ac (v_agg rfl) ac_nil) rfl zz.1):g:=h ⟨k⟩
theorem Q223 {p1 g g':Prop}(y1:p1)(k:g')(h:p1->Bx g'->g:=by exact fun y1 zz=>o_q (q_bs y1 pn rfl Els.nil (by decide)) rfl rfl rfl zz.1):g:=h y1 ⟨k⟩
theorem Q224 {p1 p2 g g':Prop}(y1:p1)(y2:p2)(k:g')(h:p1->p2->Bx g'->g:=by exact fun y1 y2 zz=>o_q (q_idxr y1 y2 rfl rfl (by omega) (by omega)) rfl rfl rfl zz.1):g:=h y1 y2 ⟨k⟩
theorem Q225 {g g':Prop}(k:g')(h:Bx g'->g:=by exact fun zz=>SoundCall.go tk105 pl105 mixed Tryz.func105 cb105 rfl (Nat.le_of_ble_eq_true rfl) zz.1):g:=h ⟨k⟩
theorem Q226 {g g':Prop}(k:g')(h:Bx g'->g:=by exact fun zz=>s_blk_ret (s_code_ret (s_inv_ret zz.1))):g:=h ⟨k⟩
theorem Q227 {g g':Prop}(k:g')(h:Bx g'->g:=by exact fun zz=>o_g rfl rfl rfl rfl rfl (fun hG hc=>(q_sneq (gv_on (gv_and hG hc) rfl) rfl)) zz.1):g:=h ⟨k⟩
theorem Q228 {g g':Prop}(k:g')(h:Bx g'->g:=by exact fun zz=>o_g (G:=true) rfl rfl rfl rfl rfl (fun hG hc=>(q_pand (c:=_) (b:=_) (gv_and hG hc) rfl rfl)) zz.1):g:=h ⟨k⟩
theorem Q229 {p1 p2 p3 p4 g g':Prop}(y1:p1)(y2:p2)(y3:p3)(y4:p4)(k:g')(h:p1->p2->p3->p4->Bx g'->g:=by exact fun y1 y2 y3 y4 zz=>o_q (q_b (cs:=[.raw (.bool false),_,.raw (.bool false),_]) y1 y2 (bf y3 (e_raw rfl) rfl rfl (Nat.le_of_ble_eq_true rfl) rfl (bf y4 (e_raw rfl) rfl rfl (Nat.le_of_ble_eq_true rfl) rfl bf_nil))) rfl rfl rfl zz.1):g:=h y1 y2 y3 y4 ⟨k⟩
theorem Q230 {g g':Prop}(k:g')(h:Bx g'->g:=by exact fun zz=>o_callx ((snd304 0 9007199254740991 _)) goes304 (ac (v_raw rfl) (ac (v_raw rfl) ac_nil)) rfl zz.1):g:=h ⟨k⟩
theorem Q231 {g g':Prop}(k:g')(h:Bx g'->g:=by exact fun zz=>o_g (G:=true) rfl rfl rfl rfl rfl (fun hG hc=>(q_geq (gv_on (gv_and hG hc) rfl) rfl)) zz.1):g:=h ⟨k⟩
theorem Q232 {p1 p2 g g':Prop}(y1:p1)(y2:p2)(k:g')(h:p1->p2->Bx g'->g:=by exact fun y1 y2 zz=>o_q (q_i2i y1 y2 rfl (wrap64 (by omega) (by omega))) rfl rfl rfl zz.1):g:=h y1 y2 ⟨k⟩
theorem Q233 {p1 p2 g g':Prop}(y1:p1)(y2:p2)(k:g')(h:p1->p2->Bx g'->g:=by exact fun y1 y2 zz=>o_q (q_b (cs:=[.raw (.string { data:=#[] }),.raw (.string { data:=#[] }),.raw (.int .i64 0),.raw (.int .i64 0)]) y1 y2 bf_nil) rfl rfl rfl zz.1):g:=h y1 y2 ⟨k⟩
theorem Q234 {g g':Prop}(k:g')(h:Bx g'->g:=by exact fun zz=>d_q rfl (q_sub rfl rfl (wrap64 (by omega) (by omega))) rfl rfl rfl zz.1):g:=h ⟨k⟩
theorem Q235 {g g':Prop}(k:g')(h:Bx g'->g:=by exact fun zz=>SoundCall.go tk243 pl243 mixed Tryz.func243 cb243 rfl (Nat.le_of_ble_eq_true rfl) zz.1):g:=h ⟨k⟩
theorem Q236 {g g':Prop}(k:g')(h:Bx g'->g:=by exact fun zz=>SoundCall.go tk244 pl244 mixed Tryz.func244 cb244 rfl (Nat.le_of_ble_eq_true rfl) zz.1):g:=h ⟨k⟩
theorem Q237 {p1 p2 g g':Prop}(y1:p1)(y2:p2)(k:g')(h:p1->p2->Bx g'->g:=by exact fun y1 y2 zz=>o_q (q_b (cs:=[.raw (.int .i64 0),.raw (.int .u64 0),.raw (.string { data:=#[] })]) y1 y2 bf_nil) rfl rfl rfl zz.1):g:=h y1 y2 ⟨k⟩
theorem Q238 {p1 p2 p3 g g':Prop}(y1:p1)(y2:p2)(y3:p3)(k:g')(h:p1->p2->p3->Bx g'->g:=by exact fun y1 y2 y3 zz=>d_yes rfl (q_ldm y1 y2 rfl mmQ (by first|rfl|exact sus_life (by omega) (by omega)|exact sus_when (by omega) (by omega)|exact sus_pair (by omega) (by omega)) (v_raw rfl)) rfl rfl rfl y3 rfl rfl zz.1):g:=h y1 y2 y3 ⟨k⟩
theorem Q239 {p1 g g':Prop}(y1:p1)(k:g')(h:p1->Bx g'->g:=by exact fun y1 zz=>d_q rfl (q_pick_c rfl y1 (v_raw rfl)) rfl rfl rfl zz.1):g:=h y1 ⟨k⟩
theorem Q240 {p1 p2 p3 p4 p5 g g':Prop}(y1:p1)(y2:p2)(y3:p3)(y4:p4)(y5:p5)(k:g')(h:p1->p2->p3->p4->p5->Bx g'->g:=by exact fun y1 y2 y3 y4 y5 zz=>o_q (q_b (cs:=[_,_,_,_,_]) y1 y2 (bf y3 (e_raw rfl) rfl rfl (Nat.le_of_ble_eq_true rfl) rfl (bf y4 (e_raw rfl) rfl rfl (Nat.le_of_ble_eq_true rfl) rfl (bf y5 (e_agg rfl) rfl rfl (Nat.le_of_ble_eq_true rfl) rfl bf_nil)))) rfl rfl rfl zz.1):g:=h y1 y2 y3 y4 y5 ⟨k⟩
theorem Q241 {g g':Prop}(k:g')(h:Bx g'->g:=by exact fun zz=>any_step (r:=[22]) (by kernel_rfl) (by decide) zz.1):g:=h ⟨k⟩
theorem Q242 {g g':Prop}(k:g')(h:Bx g'->g:=by exact fun zz=>d_yes rfl (q_mv (v_raw rfl)) rfl rfl rfl (by simp) rfl rfl zz.1):g:=h ⟨k⟩
theorem Q243 {g g':Prop}(k:g')(h:Bx g'->g:=by exact fun zz=>d_yes rfl (q_mv (v_raw rfl)) rfl rfl rfl (sameM_iff.2 rfl) rfl rfl zz.1):g:=h ⟨k⟩
theorem Q244 {g g':Prop}(k:g')(h:Bx g'->g:=by exact fun zz=>o_q (q_pick_c (t:=false) rfl (by simp [hw]) (v_raw rfl)) rfl rfl rfl zz.1):g:=h ⟨k⟩
theorem Q245 {p1 p2 g g':Prop}(y1:p1)(y2:p2)(k:g')(h:p1->p2->Bx g'->g:=by exact fun y1 y2 zz=>d_q rfl (q_idx y1 y2 rfl rfl (by omega) (gm i (by first|omega|simp)) rfl) rfl rfl rfl zz.1):g:=h y1 y2 ⟨k⟩
theorem Q246 {p1 p2 g g':Prop}(y1:p1)(y2:p2)(k:g')(h:p1->p2->Bx g'->g:=by exact fun y1 y2 zz=>d_q rfl (q_ld y1 y2 rfl (gm i (by first|omega|simp)) rfl (v_raw rfl)) rfl rfl rfl zz.1):g:=h y1 y2 ⟨k⟩
theorem Q247 {p1 g g':Prop}(y1:p1)(k:g')(h:p1->Bx g'->g:=by exact fun y1 zz=>o_qs (q_app y1 rfl rfl rfl rfl elsR (by first|exact elsR|exact Els.cons rfl rfl Els.nil) (by simp;omega)) rfl rfl rfl rfl zz.1):g:=h y1 ⟨k⟩
theorem Q248 {p1 p2 p3 p4 g g':Prop}(y1:p1)(y2:p2)(y3:p3)(y4:p4)(k:g')(h:p1->p2->p3->p4->Bx g'->g:=by exact fun y1 y2 y3 y4 zz=>o_q (q_b (cs:=[_,.raw (.bool false),.raw (.bool false),_]) y1 y2 (bf y3 (e_raw rfl) rfl rfl (Nat.le_of_ble_eq_true rfl) rfl (bf y4 (e_raw rfl) rfl rfl (Nat.le_of_ble_eq_true rfl) rfl bf_nil))) rfl rfl rfl zz.1):g:=h y1 y2 y3 y4 ⟨k⟩
theorem Q249 {p1 p2 p3 p4 p5 p6 g g':Prop}(y1:p1)(y2:p2)(y3:p3)(y4:p4)(y5:p5)(y6:p6)(k:g')(h:p1->p2->p3->p4->p5->p6->Bx g'->g:=by exact fun y1 y2 y3 y4 y5 y6 zz=>o_q (q_b (cs:=[_,_,_,_]) y1 y2 (bf y3 (e_raw rfl) rfl rfl (Nat.le_of_ble_eq_true rfl) rfl (bf y4 (e_raw rfl) rfl rfl (Nat.le_of_ble_eq_true rfl) rfl (bf y5 (e_raw rfl) rfl rfl (Nat.le_of_ble_eq_true rfl) rfl (bf y6 (e_raw rfl) rfl rfl (Nat.le_of_ble_eq_true rfl) rfl bf_nil))))) rfl rfl rfl zz.1):g:=h y1 y2 y3 y4 y5 y6 ⟨k⟩
theorem Q250 {p1 p2 g g':Prop}(y1:p1)(y2:p2)(k:g')(h:p1->p2->Bx g'->g:=by exact fun y1 y2 zz=>o_q (q_b (cs:=[.raw (.int .i64 0),.raw (.string { data:=#[] }),.raw (.string { data:=#[] }),.raw (.int .i64 0),.raw (.string { data:=#[] }),.raw (.string { data:=#[] }),.raw (.int .i64 0),.raw (.int .i64 0),.raw (.int .i64 0)]) y1 y2 bf_nil) rfl rfl rfl zz.1):g:=h y1 y2 ⟨k⟩
theorem Q251 {g g':Prop}(k:g')(h:Bx g'->g:=by exact fun zz=>o_call (((snd330 t m x _ mmQ mmQ htm).det)) goes330 (ac (mvQ) ac_nil) rfl zz.1):g:=h ⟨k⟩
theorem Q252 {p1 p2 g g':Prop}(y1:p1)(y2:p2)(k:g')(h:p1->p2->Bx g'->g:=by exact fun y1 y2 zz=>o_q (q_b (cs:=[.raw (.int .i64 0),.raw (.int .i64 0)]) y1 y2 bf_nil) rfl rfl rfl zz.1):g:=h y1 y2 ⟨k⟩
theorem Q253 {g g':Prop}(k:g')(h:Bx g'->g:=by exact fun zz=>SoundCall.go tk242 pl242 mixed Tryz.func242 cb242 rfl (Nat.le_of_ble_eq_true rfl) zz.1):g:=h ⟨k⟩
theorem Q254 {g g':Prop}(k:g')(h:Bx g'->g:=by exact fun zz=>o_call (((code61 (5) (0) _))) goes183 (ac (v_raw rfl) (ac (v_raw rfl) ac_nil)) rfl zz.1):g:=h ⟨k⟩
theorem Q255 {p1 p2 g g':Prop}(y1:p1)(y2:p2)(k:g')(h:p1->p2->Bx g'->g:=by exact fun y1 y2 zz=>d_q rfl (q_mget2 y1 y2 z343 rfl rfl mmQ (show _=encSb ⟨emp,emp,0,0⟩ by rw [hn];rfl)) rfl rfl rfl zz.1):g:=h y1 y2 ⟨k⟩
theorem Q256 {p1 p2 g g':Prop}(y1:p1)(y2:p2)(k:g')(h:p1->p2->Bx g'->g:=by exact fun y1 y2 zz=>o_g (G:=true) rfl rfl rfl rfl rfl (fun hG hc=>(q_ldm y1 y2 (gv_on (gv_and hG hc) rfl) mmQ rfl (v_sl rfl))) zz.1):g:=h y1 y2 ⟨k⟩
theorem Q257 {p1 p2 g g':Prop}(y1:p1)(y2:p2)(k:g')(h:p1->p2->Bx g'->g:=by exact fun y1 y2 zz=>d_q rfl (q_ldm y1 y2 rfl mmQ (by first|rfl|exact sus_life (by omega) (by omega)|exact sus_when (by omega) (by omega)|exact sus_pair (by omega) (by omega)) (v_raw rfl)) rfl rfl rfl zz.1):g:=h y1 y2 ⟨k⟩
theorem Q258 {p1 g g':Prop}(y1:p1)(k:g')(h:p1->Bx g'->g:=by exact fun y1 zz=>o_qs (q_app y1 rfl rfl rfl rfl (by first|exact elsIt|exact Els.cons rfl rfl Els.nil|exact Els.cons rfl rfl (Els.cons rfl rfl Els.nil)) (by first|exact (by first|exact elsIt|exact Els.cons rfl rfl Els.nil|exact Els.cons rfl rfl (Els.cons rfl rfl Els.nil))|exact Els.cons rfl rfl Els.nil) (by simp;omega)) rfl rfl rfl rfl zz.1):g:=h y1 ⟨k⟩
theorem Q259 {p1 p2 p3 g g':Prop}(y1:p1)(y2:p2)(y3:p3)(k:g')(h:p1->p2->p3->Bx g'->g:=by exact fun y1 y2 y3 zz=>d_yes rfl (q_ldm y1 y2 rfl mmQ rfl (v_agg rfl)) rfl rfl rfl y3 rfl rfl zz.1):g:=h y1 y2 y3 ⟨k⟩
theorem Q260 {g g':Prop}(k:g')(h:Bx g'->g:=by exact fun zz=>o_callx ((apply_m (by first|exact hmk|exact hmk.upd hOkb hb0) (by omega) (hsz _ (List.getElem_mem _)) rfl)) goes124 (ac (mvQ) (ac (v_raw rfl) ac_nil)) rfl zz.1):g:=h ⟨k⟩
theorem Q261 {g g':Prop}(k:g')(h:Bx g'->g:=by exact fun zz=>SoundCall.go tk19e pl19e mixed Tryz.func19 cb19e rfl (Nat.le_of_ble_eq_true rfl) zz.1):g:=h ⟨k⟩
theorem Q262 {g g':Prop}(k:g')(h:Bx g'->g:=by exact fun zz=>o_g (G:=true) rfl rfl rfl rfl rfl (fun hG hc=>(q_geq (gv_on (gv_and hG hc) rfl) (gv_on (gv_and hG hc) rfl))) zz.1):g:=h ⟨k⟩
theorem Q263 {p1 p2 p3 g g':Prop}(y1:p1)(y2:p2)(y3:p3)(k:g')(h:p1->p2->p3->Bx g'->g:=by exact fun y1 y2 y3 zz=>o_q (q_b (cs:=[.raw (.int .i64 0),_]) y1 y2 (bf y3 (e_raw rfl) rfl rfl (Nat.le_of_ble_eq_true rfl) rfl bf_nil)) rfl rfl rfl zz.1):g:=h y1 y2 y3 ⟨k⟩
theorem Q264 {g g':Prop}(k:g')(h:Bx g'->g:=by exact fun zz=>o_call (((snd12 x ge gf _ mmQ hl).det)) goes12 (ac (v_agg rfl) ac_nil) rfl zz.1):g:=h ⟨k⟩
theorem Q265 {g g':Prop}(k:g')(h:Bx g'->g:=by exact fun zz=>o_call (((dec14 s hs ge gf _ mmQ).det)) goes14 (ac (v_raw rfl) ac_nil) rfl zz.1):g:=h ⟨k⟩
theorem Q266 {p1 p2 p3 p4 g g':Prop}(y1:p1)(y2:p2)(y3:p3)(y4:p4)(k:g')(h:p1->p2->p3->p4->Bx g'->g:=by exact fun y1 y2 y3 y4 zz=>d_q rfl (q_b (cs:=[_,_,_]) y1 y2 (bf y3 (e_agg rfl) rfl rfl (Nat.le_of_ble_eq_true rfl) rfl (bf y4 (e_raw rfl) rfl rfl (Nat.le_of_ble_eq_true rfl) rfl bf_nil))) rfl rfl rfl zz.1):g:=h y1 y2 y3 y4 ⟨k⟩
theorem Q267 {p1 g g':Prop}(y1:p1)(k:g')(h:p1->Bx g'->g:=by exact fun y1 zz=>d_qs rfl (q_app y1 rfl rfl rfl rfl elsR (by first|exact elsR|exact Els.cons rfl rfl Els.nil) (by simp;omega)) rfl rfl rfl rfl zz.1):g:=h y1 ⟨k⟩
theorem Q268 {p1 p2 p3 g g':Prop}(y1:p1)(y2:p2)(y3:p3)(k:g')(h:p1->p2->p3->Bx g'->g:=by exact fun y1 y2 y3 zz=>o_q (q_b (cs:=[_,.raw (.int .i64 0)]) y1 y2 (bf y3 (e_raw rfl) rfl rfl (Nat.le_of_ble_eq_true rfl) rfl bf_nil)) rfl rfl rfl zz.1):g:=h y1 y2 y3 ⟨k⟩
theorem Q269 {p1 p2 p3 g g':Prop}(y1:p1)(y2:p2)(y3:p3)(k:g')(h:p1->p2->p3->Bx g'->g:=by exact fun y1 y2 y3 zz=>o_q (q_b (cs:=[.raw (.bool false),.raw (.bool false),.raw (.bool false),_]) y1 y2 (bf y3 (e_raw rfl) rfl rfl (Nat.le_of_ble_eq_true rfl) rfl bf_nil)) rfl rfl rfl zz.1):g:=h y1 y2 y3 ⟨k⟩
theorem Q270 {g g':Prop}(k:g')(h:Bx g'->g:=by exact fun zz=>o_q (q_cmul rfl cc2_3 (by first|assumption|exact⟨by omega,by omega⟩) (by first|assumption|exact⟨by omega,by omega⟩) (by first|assumption|exact⟨by omega,by omega⟩) (by first|assumption|exact⟨by omega,by omega⟩)) rfl rfl rfl zz.1):g:=h ⟨k⟩
theorem Q271 {p1 p2 p3 p4 g g':Prop}(y1:p1)(y2:p2)(y3:p3)(y4:p4)(k:g')(h:p1->p2->p3->p4->Bx g'->g:=by exact fun y1 y2 y3 y4 zz=>o_q (q_b (cs:=[_,_,.raw (.slice none 0 0)]) y1 y2 (bf y3 (e_raw rfl) rfl rfl (Nat.le_of_ble_eq_true rfl) rfl (bf y4 (e_raw rfl) rfl rfl (Nat.le_of_ble_eq_true rfl) rfl bf_nil))) rfl rfl rfl zz.1):g:=h y1 y2 y3 y4 ⟨k⟩
theorem Q272 {p1 g g':Prop}(y1:p1)(k:g')(h:p1->Bx g'->g:=by exact fun y1 zz=>o_qs (q_app y1 rfl rfl rfl rfl elsInt (by first|exact elsInt|exact Els.cons rfl rfl Els.nil) (by simp;omega)) rfl rfl rfl rfl zz.1):g:=h y1 ⟨k⟩
theorem Q273 {p1 g g':Prop}(y1:p1)(k:g')(h:p1->Bx g'->g:=by exact fun y1 zz=>o_qs (q_app y1 rfl rfl rfl rfl (by first|exact Els.cons rfl rfl Els.nil|exact elsStr) (by first|exact (by first|exact Els.cons rfl rfl Els.nil|exact elsStr)|exact Els.cons rfl rfl Els.nil) (by simp;omega)) rfl rfl rfl rfl zz.1):g:=h y1 ⟨k⟩
theorem Q274 {p1 p2 p3 p4 p5 p6 p7 p8 p9 p10 p11 g g':Prop}(y1:p1)(y2:p2)(y3:p3)(y4:p4)(y5:p5)(y6:p6)(y7:p7)(y8:p8)(y9:p9)(y10:p10)(y11:p11)(k:g')(h:p1->p2->p3->p4->p5->p6->p7->p8->p9->p10->p11->Bx g'->g:=by exact fun y1 y2 y3 y4 y5 y6 y7 y8 y9 y10 y11 zz=>d_q rfl (q_b (cs:=[_,_,_,_,_,_,_,_,_,_,_,.raw (.slice none 0 0)]) y1 y2 (bf y3 (e_raw rfl) rfl rfl (Nat.le_of_ble_eq_true rfl) rfl (bf y4 (e_raw rfl) rfl rfl (Nat.le_of_ble_eq_true rfl) rfl (bf y5 (e_raw rfl) rfl rfl (Nat.le_of_ble_eq_true rfl) rfl (bf y6 (e_raw rfl) rfl rfl (Nat.le_of_ble_eq_true rfl) rfl (bf y7 (e_raw rfl) rfl rfl (Nat.le_of_ble_eq_true rfl) rfl (bf y8 (e_raw rfl) rfl rfl (Nat.le_of_ble_eq_true rfl) rfl (bf y9 (e_agg rfl) rfl rfl (Nat.le_of_ble_eq_true rfl) rfl (bf y10 (e_agg rfl) rfl rfl (Nat.le_of_ble_eq_true rfl) rfl (bf y11 (e_raw rfl) rfl rfl (Nat.le_of_ble_eq_true rfl) rfl bf_nil)))))))))) rfl rfl rfl zz.1):g:=h y1 y2 y3 y4 y5 y6 y7 y8 y9 y10 y11 ⟨k⟩
theorem Q275 {p1 p2 g g':Prop}(y1:p1)(y2:p2)(k:g')(h:p1->p2->Bx g'->g:=by exact fun y1 y2 zz=>d_q rfl (q_ldm y1 y2 rfl mmQ (by first|rfl|exact sus_life (by omega) (by omega)|exact sus_when (by omega) (by omega)|exact sus_pair (by omega) (by omega)) (v_agg rfl)) rfl rfl rfl zz.1):g:=h y1 y2 ⟨k⟩
theorem Q276 {p1 g g':Prop}(y1:p1)(k:g')(h:p1->Bx g'->g:=by exact fun y1 zz=>o_qs (q_app y1 rfl rfl rfl rfl elsM (by first|exact elsM|exact Els.cons rfl rfl Els.nil) (by simp;omega)) rfl rfl rfl rfl zz.1):g:=h y1 ⟨k⟩
theorem Q277 {p1 p2 p3 p4 g g':Prop}(y1:p1)(y2:p2)(y3:p3)(y4:p4)(k:g')(h:p1->p2->p3->p4->Bx g'->g:=by exact fun y1 y2 y3 y4 zz=>o_q (q_b (cs:=[.raw (.slice none 0 0),.raw (.slice none 0 0),.raw (.slice none 0 0),.raw (.int .i64 0),.raw (.int .i64 0),.raw (.int .i64 0),.raw (.int .i64 0),.raw (.int .i64 0),.raw (.int .i64 0),.raw (.int .i64 0),.raw (.int .i64 0),.raw (.int .i64 0),.raw (.int .i64 0),.raw (.int .i64 0),.raw (.int .i64 0),.raw (.int .i64 0),.raw (.int .i64 0),.raw (.int .i64 0),.raw (.int .i64 0),.raw (.int .i64 0),.raw (.int .i64 0),.raw (.int .i64 0),.raw (.int .i64 0),.raw (.int .i64 0),.raw (.int .i64 0),_,_,_,.raw (.int .i64 0),.raw (.slice none 0 0),.raw (.string { data:=#[] }),.raw (.pointer none),.raw (.int .i64 0),.raw (.int .i64 0),.raw (.int .i64 0),.raw (.int .i64 0),.raw (.string { data:=#[] }),.raw (.pointer none),.raw (.pointer none),.raw (.pointer none)]) y1 y2 (bf y3 (e_agg rfl) rfl rfl (Nat.le_of_ble_eq_true rfl) rfl (bf y4 (e_raw rfl) rfl rfl (Nat.le_of_ble_eq_true rfl) rfl bf_nil))) rfl rfl rfl zz.1):g:=h y1 y2 y3 y4 ⟨k⟩
theorem Q278 {g g':Prop}(k:g')(h:Bx g'->g:=by exact fun zz=>o_callx ((new_m (z:=((nodes:Nat):Int)) ((upd_other f20.symm).trans ((upd_other f10.symm).trans hG)) (by omega) (by omega))) goes52 (ac (v_raw rfl) ac_nil) rfl zz.1):g:=h ⟨k⟩
end Go.Am
