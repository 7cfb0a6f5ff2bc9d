import Derived.Test.YtphenhkofjbeoaaC05
import Derived.Test.YtphenhkofjbeoaaProg
/-! Chapter 5: the net: what its functions compute. -/
open Go Go.Proofs Go.Am
set_option linter.unusedVariables false
set_option linter.unusedSimpArgs false
set_option autoImplicit false
namespace C05

def tk13 : Nat → Nat → Option Nat := fun _ _ => none
def pl13 : Nat → List PStep := fun _ => []
theorem cb13 : Try.f13.body.map (codeB Try.prog Try.f13.ntmps tk13 pl13) = some true := by kernel_rfl
theorem goes13 : goesB Try.prog 13 = true := by kernel_rfl
-- (*carillon/net.Net).Take params ['*net.Net', 'int', 'int', 'int'] results [['t', 8], ['t', 9]] own [] names ['0:x', '1:from', '2:to', '3:i', '4:x', '5:from', '6:to', '7:i'] calls [14, 29] paths 2
set_option maxHeartbeats 4000000 in
set_option maxRecDepth 20000 in
theorem snd13 (x r clk side : Nat) (n : Int) (l : List (En K2)) (q : K2 → List ByteArray) (M : Mem) (hN : NetAt M x r n side clk l q) (O : Nat → Prop) (hO : O = Own x r l) (a b i : Int) : SoundCall Try.prog 13 [ptr x, int a, int b, int i] M fun r' M' => ∃ O', r' = .tup [str (if joined n side a b then atS q a b i else "".toUTF8), bool (joined n side a b && atB q a b i)] ∧ NetO M' x n side (if joined n side a b then atQ q a b i true else q) O' ∧ Chg M M' O O' := by
  obtain ⟨hx, hr, xr, hnd, hst, hsn, hq0, hq1, hbx, hbd, hql, ⟨hn1, hn7⟩, hs63⟩ := id hN
  have rx := xr.symm
  refine SoundCall.go tk13 pl13 mixed Try.func13 cb13 rfl (Nat.le_of_ble_eq_true rfl) ?_
  refine s_seq ?_
  refine s_region ?_
  refine o_q (q_as (v_raw rfl)) rfl rfl rfl ?_
  refine o_q (q_as (v_raw rfl)) rfl rfl rfl ?_
  refine o_nil ?_
  refine s_seq ?_
  refine s_seq ?_
  refine s_region ?_
  refine o_q (q_mv ((by first | exact v_raw rfl | exact v_sptr rfl))) rfl rfl rfl ?_
  refine o_q (q_mv (v_raw rfl)) rfl rfl rfl ?_
  refine o_q (q_mv (v_raw rfl)) rfl rfl rfl ?_
  refine o_call ((snd14 x r clk side n l q _ hN a b)) goes14 (ac ((by first | exact v_raw rfl | exact v_sptr rfl)) (ac (v_raw rfl) (ac (v_raw rfl) ac_nil))) rfl ?_
  refine o_q (q_not rfl) rfl rfl rfl ?_
  refine o_nil ?_
  refine s_cond rfl (fun h1 => ?_) (fun h1 => ?_)
  · have k1 := h1; try simp only [decide_eq_true_eq, decide_eq_false_iff_not, Bool.not_eq_true', Bool.not_eq_false', Bool.not_true, Bool.not_false, List.length_map, Decidable.not_not] at k1
    have hj : joined n side a b = false := k1
    refine s_seq ?_
    refine s_region ?_
    refine o_q (q_as (v_raw rfl)) rfl rfl rfl ?_
    refine o_q (q_as (v_raw rfl)) rfl rfl rfl ?_
    refine o_nil ?_
    refine s_ret ?_
    refine s_code_ret ?_
    refine s_end ?_
    refine ⟨O, ?_, ?_, Chg.refl O⟩
    · rw [hj]; rfl
    · rw [hj]; exact ⟨r, clk, l, hN, hO⟩
  · have k1 := h1; try simp only [decide_eq_true_eq, decide_eq_false_iff_not, Bool.not_eq_true', Bool.not_eq_false', Bool.not_true, Bool.not_false, List.length_map, Decidable.not_not] at k1
    have hj : joined n side a b = true := by simpa using k1
    refine s_skip ?_
    refine s_seq ?_
    refine s_region ?_
    refine o_q (q_mv ((by first | exact v_raw rfl | exact v_sptr rfl))) rfl rfl rfl ?_
    refine o_q (q_mv (v_raw rfl)) rfl rfl rfl ?_
    refine o_q (q_mv (v_raw rfl)) rfl rfl rfl ?_
    refine o_q (q_mv (v_raw rfl)) rfl rfl rfl ?_
    refine o_callx ((snd29 x r clk side n l q _ hN O hO a b i true)) goes29 (ac ((by first | exact v_raw rfl | exact v_sptr rfl)) (ac (v_raw rfl) (ac (v_raw rfl) (ac (v_raw rfl) (ac (v_raw rfl) ac_nil))))) rfl ?_
    rintro r' M' ⟨O1, rfl, ⟨r1, clk1, l1, hN1, hO1⟩, hC1⟩
    refine o_q (q_ext rfl rfl (v_raw rfl)) rfl rfl rfl ?_
    refine o_q (q_ext rfl rfl (v_raw rfl)) rfl rfl rfl ?_
    refine o_q (q_as (v_raw rfl)) rfl rfl rfl ?_
    refine o_q (q_as (v_raw rfl)) rfl rfl rfl ?_
    refine o_nil ?_
    refine s_ret ?_
    refine s_end ?_
    refine ⟨O1, ?_, ?_, hC1⟩
    · rw [hj]; rfl
    · rw [hj]; exact ⟨r1, clk1, l1, hN1, hO1⟩

def tk17 : Nat → Nat → Option Nat := fun _ _ => none
def pl17 : Nat → List PStep := fun _ => []
theorem cb17 : Try.f17.body.map (codeB Try.prog Try.f17.ntmps tk17 pl17) = some true := by kernel_rfl
theorem goes17 : goesB Try.prog 17 = true := by kernel_rfl
-- (*carillon/net.Net).Drop params ['*net.Net', 'int', 'int', 'int'] results [['t', 8]] own [] names ['0:x', '1:from', '2:to', '3:i', '4:x', '5:from', '6:to', '7:i', '9:_', '10:ok'] calls [29] paths 1
set_option maxHeartbeats 4000000 in
set_option maxRecDepth 20000 in
theorem snd17 (x r clk side : Nat) (n : Int) (l : List (En K2)) (q : K2 → List ByteArray) (M : Mem) (hN : NetAt M x r n side clk l q) (O : Nat → Prop) (hO : O = Own x r l) (a b i : Int) : SoundCall Try.prog 17 [ptr x, int a, int b, int i] M fun r' M' => ∃ O', r' = bool (atB q a b i) ∧ NetO M' x n side (atQ q a b i true) O' ∧ Chg M M' O O' := by
  obtain ⟨hx, hr, xr, hnd, hst, hsn, hq0, hq1, hbx, hbd, hql, ⟨hn1, hn7⟩, hs63⟩ := id hN
  have rx := xr.symm
  refine SoundCall.go tk17 pl17 mixed Try.func17 cb17 rfl (Nat.le_of_ble_eq_true rfl) ?_
  refine s_seq ?_
  refine s_region ?_
  refine o_q (q_as (v_raw rfl)) rfl rfl rfl ?_
  refine o_nil ?_
  refine s_seq ?_
  refine s_region ?_
  refine o_q (q_mv ((by first | exact v_raw rfl | exact v_sptr rfl))) rfl rfl rfl ?_
  refine o_q (q_mv (v_raw rfl)) rfl rfl rfl ?_
  refine o_q (q_mv (v_raw rfl)) rfl rfl rfl ?_
  refine o_q (q_mv (v_raw rfl)) rfl rfl rfl ?_
  refine o_callx ((snd29 x r clk side n l q _ hN O hO a b i true)) goes29 (ac ((by first | exact v_raw rfl | exact v_sptr rfl)) (ac (v_raw rfl) (ac (v_raw rfl) (ac (v_raw rfl) (ac (v_raw rfl) ac_nil))))) rfl ?_
  rintro r' M' ⟨O1, rfl, ⟨r1, clk1, l1, hN1, hO1⟩, hC1⟩
  refine o_q (q_mv (v_tup rfl)) rfl rfl rfl ?_
  refine o_q (q_ext rfl rfl (v_raw rfl)) rfl rfl rfl ?_
  refine o_q (q_ext rfl rfl (v_raw rfl)) rfl rfl rfl ?_
  refine o_q (q_as (v_raw rfl)) rfl rfl rfl ?_
  refine o_q (q_as (v_raw rfl)) rfl rfl rfl ?_
  refine o_nil ?_
  refine s_seq ?_
  refine s_region ?_
  refine o_q (q_mv (v_raw rfl)) rfl rfl rfl ?_
  refine o_q (q_as (v_raw rfl)) rfl rfl rfl ?_
  refine o_nil ?_
  refine s_ret ?_
  refine s_end ?_
  exact ⟨O1, rfl, ⟨r1, clk1, l1, hN1, hO1⟩, hC1⟩

def tk12 : Nat → Nat → Option Nat := fun _ _ => none
def pl12 : Nat → List PStep := fun _ => []
theorem cb12 : Try.f12.body.map (codeB Try.prog Try.f12.ntmps tk12 pl12) = some true := by kernel_rfl
theorem goes12 : goesB Try.prog 12 = true := by kernel_rfl
-- (*carillon/net.Net).Double params ['*net.Net', 'int', 'int', 'int'] results [['t', 8]] own [] names ['0:x', '1:from', '2:to', '3:i', '4:x', '5:from', '6:to', '7:i', '9:s', '10:ok'] calls [11, 29] paths 2
set_option maxHeartbeats 4000000 in
set_option maxRecDepth 20000 in
theorem snd12 (x r clk side : Nat) (n : Int) (l : List (En K2)) (q : K2 → List ByteArray) (M : Mem) (hN : NetAt M x r n side clk l q) (O : Nat → Prop) (hO : O = Own x r l) (a b i : Int) : SoundCall Try.prog 12 [ptr x, int a, int b, int i] M fun r' M' => ∃ O', r' = bool (atB q a b i && okS n q a b) ∧ NetO M' x n side (if atB q a b i then sendQ n q a b (atS q a b i) else q) O' ∧ Chg M M' O O' := by
  obtain ⟨hx, hr, xr, hnd, hst, hsn, hq0, hq1, hbx, hbd, hql, ⟨hn1, hn7⟩, hs63⟩ := id hN
  have rx := xr.symm
  refine SoundCall.go tk12 pl12 mixed Try.func12 cb12 rfl (Nat.le_of_ble_eq_true rfl) ?_
  refine s_seq ?_
  refine s_region ?_
  refine o_q (q_as (v_raw rfl)) rfl rfl rfl ?_
  refine o_nil ?_
  refine s_seq ?_
  refine s_region ?_
  refine o_q (q_mv ((by first | exact v_raw rfl | exact v_sptr rfl))) rfl rfl rfl ?_
  refine o_q (q_mv (v_raw rfl)) rfl rfl rfl ?_
  refine o_q (q_mv (v_raw rfl)) rfl rfl rfl ?_
  refine o_q (q_mv (v_raw rfl)) rfl rfl rfl ?_
  refine o_callx ((snd29 x r clk side n l q _ hN O hO a b i false)) goes29 (ac ((by first | exact v_raw rfl | exact v_sptr rfl)) (ac (v_raw rfl) (ac (v_raw rfl) (ac (v_raw rfl) (ac (v_raw rfl) ac_nil))))) rfl ?_
  rintro r' M' ⟨O1, rfl, ⟨r1, clk1, l1, hN1, hO1⟩, hC1⟩
  replace hN1 : NetAt M' x r1 n side clk1 l1 q := hN1
  refine o_q (q_mv (v_tup rfl)) rfl rfl rfl ?_
  refine o_q (q_ext rfl rfl (v_raw rfl)) rfl rfl rfl ?_
  refine o_q (q_ext rfl rfl (v_raw rfl)) rfl rfl rfl ?_
  refine o_q (q_as (v_raw rfl)) rfl rfl rfl ?_
  refine o_q (q_as (v_raw rfl)) rfl rfl rfl ?_
  refine o_nil ?_
  refine s_seq ?_
  refine s_region ?_
  refine o_q (q_mv (v_raw rfl)) rfl rfl rfl ?_
  refine o_q (q_mv (v_raw rfl)) rfl rfl rfl ?_
  refine o_cases (want := true) (j := 1) rfl rfl (fun h1 => ?_) (fun h1 => ?_)
  · have k1 := h1; try simp only [decide_eq_true_eq, decide_eq_false_iff_not, Bool.not_eq_true', Bool.not_eq_false', Bool.not_true, Bool.not_false, List.length_map, Decidable.not_not] at k1
    refine o_yes rfl rfl rfl h1 ?_
    refine o_q (q_mv ((by first | exact v_raw rfl | exact v_sptr rfl))) rfl rfl rfl ?_
    refine o_yes rfl rfl rfl h1 ?_
    refine o_q (q_mv (v_raw rfl)) rfl rfl rfl ?_
    refine o_yes rfl rfl rfl h1 ?_
    refine o_q (q_mv (v_raw rfl)) rfl rfl rfl ?_
    refine o_yes rfl rfl rfl h1 ?_
    refine o_q (q_mv (v_raw rfl)) rfl rfl rfl ?_
    refine o_yes rfl rfl rfl h1 ?_
    refine o_callx ((snd11 x r1 clk1 side n l1 q _ hN1 O1 hO1 a b (atS q a b i))) goes11 (ac ((by first | exact v_raw rfl | exact v_sptr rfl)) (ac (v_raw rfl) (ac (v_raw rfl) (ac (v_raw rfl) ac_nil)))) rfl ?_
    rintro r' M'' ⟨O2, rfl, hN2, hC2⟩
    refine o_q (q_pick_c (t := true) rfl h1 (v_raw rfl)) rfl rfl rfl ?_
    refine o_q (q_as (v_raw rfl)) rfl rfl rfl ?_
    refine o_nil ?_
    refine s_ret ?_
    refine s_end ?_
    refine ⟨O2, ?_, ?_, hC1.trans hC2⟩
    · rw [h1]; rfl
    · rw [h1]; exact hN2
  · have k1 := h1; try simp only [decide_eq_true_eq, decide_eq_false_iff_not, Bool.not_eq_true', Bool.not_eq_false', Bool.not_true, Bool.not_false, List.length_map, Decidable.not_not] at k1
    refine o_no rfl rfl rfl rfl h1 ?_
    refine o_no rfl rfl rfl rfl h1 ?_
    refine o_no rfl rfl rfl rfl h1 ?_
    refine o_no rfl rfl rfl rfl h1 ?_
    refine o_no rfl rfl rfl rfl h1 ?_
    refine o_q (q_pick_c (t := false) rfl h1 (v_raw rfl)) rfl rfl rfl ?_
    refine o_q (q_as (v_raw rfl)) rfl rfl rfl ?_
    refine o_nil ?_
    refine s_ret ?_
    refine s_end ?_
    refine ⟨O1, ?_, ?_, hC1⟩
    · rw [h1]; rfl
    · rw [h1]; exact ⟨r1, clk1, l1, hN1, hO1⟩

def tk15 : Nat → Nat → Option Nat := fun _ _ => none
def pl15 : Nat → List PStep
  | 4 => [.q 0, .q 1, .q 2, .q 3, .q 4, .s 5 [0, 1, 2, 3, 4]]
  | _ => []
theorem cb15 : Try.f15.body.map (codeB Try.prog Try.f15.ntmps tk15 pl15) = some true := by kernel_rfl
theorem goes15 : goesB Try.prog 15 = true := by kernel_rfl
-- (*carillon/net.Net).Clear params ['*net.Net', 'int'] results [] own [] names ['0:x', '1:node', '2:x', '3:node', '4:k'] calls [] paths 4

def touch (node : Int) (k : K2) : Bool := decide (k.1 = node) || decide (k.2 = node)
def clearQ (q : K2 → List ByteArray) (node : Int) : K2 → List ByteArray := fun k => if touch node k then [] else q k
def keepQ (l : List (En K2)) (q : K2 → List ByteArray) : K2 → List ByteArray := fun k => if l.any (fun e => decide (e.k = k)) then q k else []
theorem keepQ_in {l : List (En K2)} {q : K2 → List ByteArray} {e : En K2} (h : e ∈ l) : keepQ l q e.k = q e.k := by
  unfold keepQ; rw [if_pos (List.any_eq_true.2 ⟨e, h, by simp⟩)]
theorem keepQ_out {l : List (En K2)} {q : K2 → List ByteArray} {k : K2} (h : ∀ e ∈ l, e.k ≠ k) : keepQ l q k = [] := by
  unfold keepQ; rw [if_neg (fun h' => by
    obtain ⟨e, he, hk⟩ := List.any_eq_true.1 h'
    exact h e he (by simpa using hk))]
theorem er_mem {l : List (En K2)} {k : K2} {j : Nat} (hnd : (l.map En.k).Nodup) (hj : enIdx l k = some j) (e : En K2) : e ∈ l.eraseIdx j ↔ e ∈ l ∧ e.k ≠ k := by
  obtain ⟨e0, h1, h2, -⟩ := enIdx_some hj
  obtain ⟨hlt, h3⟩ := List.getElem?_eq_some_iff.1 h1
  rw [List.mem_eraseIdx_iff_getElem]
  constructor
  · rintro ⟨i, hi, hne, rfl⟩
    refine ⟨List.getElem_mem hi, fun h4 => ?_⟩
    rcases Nat.lt_or_gt_of_ne hne with h5 | h5
    · exact List.pairwise_iff_getElem.1 hnd i j (by simpa using hi) (by simpa using hlt) h5 (by simp [h3, h2, h4])
    · exact List.pairwise_iff_getElem.1 hnd j i (by simpa using hlt) (by simpa using hi) h5 (by simp [h3, h2, h4])
  · rintro ⟨he, hne⟩
    obtain ⟨i, hi, rfl⟩ := List.mem_iff_getElem.1 he
    exact ⟨i, hi, fun e2 => by subst e2; rw [h3] at hne; exact hne h2, rfl⟩
theorem has_idx {l : List (En K2)} {e : En K2} (h : e ∈ l) : ∃ j, enIdx l e.k = some j := by
  cases hj : enIdx l e.k with
  | none => exact absurd rfl (enIdx_no hj e h)
  | some j => exact ⟨j, rfl⟩
theorem find_s {l : List (En K2)} {e : En K2} (hsn : (l.map En.s).Nodup) (he : e ∈ l) : l.find? (fun e' => e'.s = e.s) = some e := by
  cases h : l.find? (fun e' => decide (e'.s = e.s)) with
  | none =>
    have := List.find?_eq_none.1 h e he
    simp at this
  | some e' => rw [nodup_inj hsn (List.mem_of_find?_eq_some h) he (by simpa using List.find?_some h)]
theorem filter_lt {α : Type} {p p' : α → Bool} : ∀ {l : List α}, (∀ x ∈ l, p' x = true → p x = true) → (∃ x ∈ l, p x = true ∧ p' x = false) → (l.filter p').length < (l.filter p).length
  | [], _, ⟨x, h, _⟩ => by cases h
  | a :: l, h1, ⟨x, hx, h2, h3⟩ => by
    have hle : ∀ l : List α, (∀ x ∈ l, p' x = true → p x = true) → (l.filter p').length ≤ (l.filter p).length := by
      intro l
      induction l with
      | nil => intro _; simp
      | cons b l ih =>
        intro h
        have h5 := ih fun x hx => h x (List.mem_cons_of_mem _ hx)
        have h6 := h b List.mem_cons_self
        rw [List.filter_cons, List.filter_cons]
        cases hb : p' b <;> cases hb' : p b <;> simp_all <;> omega
    have h4 := hle l fun x hx => h1 x (List.mem_cons_of_mem _ hx)
    have h6 := h1 a List.mem_cons_self
    rw [List.filter_cons, List.filter_cons]
    rcases List.mem_cons.1 hx with rfl | hx'
    · rw [h2, h3]; simp; omega
    · have := filter_lt (l := l) (fun x hx => h1 x (List.mem_cons_of_mem _ hx)) ⟨x, hx', h2, h3⟩
      cases hb : p' a <;> cases hb' : p a <;> simp_all <;> omega
theorem NetAt.del {M M' : Mem} {x r : Nat} {n : Int} {side clk : Nat} {l : List (En K2)} {q : K2 → List ByteArray} {k : K2} {j : Nat} (h : NetAt M x r n side clk l (keepQ l q)) (hql : ∀ k, (q k).length ≤ 64) (hj : enIdx l k = some j) (hr : M' r = some (.it (.map (entsX keyV (l.eraseIdx j)) clk))) (hc : ∀ c, Own x r l c → c ≠ r → M' c = M c) : NetAt M' x r n side clk (l.eraseIdx j) (keepQ (l.eraseIdx j) q) := by
  have hm := fun e => (er_mem h.nd hj e).1
  have hsub := List.eraseIdx_sublist l j
  refine ⟨(hc x (.inl rfl) h.xr).trans h.hx, hr, h.xr, (hsub.map _).nodup h.nd, fun e he => h.st e (hm e he).1, (hsub.map _).nodup h.sn, fun k' hk' => keepQ_out hk', fun e he => ?_, fun e he => h.bx e (hm e he).1, fun e he e' he' => h.bd e (hm e he).1 e' (hm e' he').1, fun k' => ?_, h.n7, h.s63⟩
  · have h1 := h.q1 e (hm e he).1
    rw [keepQ_in (hm e he).1] at h1
    rw [keepQ_in he]
    exact h1.frame fun b hb => hc b (.inr (.inr ⟨e, (hm e he).1, hb⟩)) (h.bx e (hm e he).1 b hb).2
  · unfold keepQ; split
    · exact hql k'
    · simp
def left (l : List (En K2)) (seen : Array Nat) : Nat := (l.filter fun e => !seen.contains e.s).length
structure Clr (M Mc : Mem) (x r : Nat) (n : Int) (side clk : Nat) (l l' : List (En K2)) (q : K2 → List ByteArray) (node : Int) (it : Nat) (seen : Array Nat) : Prop where
  hI : Mc it = some (.it (.mapIter (some r) clk seen clk))
  itO : ¬ Own x r l it
  itM : M it = none
  net : NetAt Mc x r n side clk l' (keepQ l' q)
  sub : ∀ e ∈ l', e ∈ l
  del : ∀ e ∈ l, e ∉ l' → touch node e.k = true
  don : ∀ e ∈ l', e.s ∈ seen → touch node e.k = false
  chg : ∀ c, M c ≠ none → ¬ Own x r l c → Mc c = M c
  ql : ∀ k, (q k).length ≤ 64
section
variable {M Mc : Mem} {x r : Nat} {n : Int} {side clk : Nat} {l l' : List (En K2)} {q : K2 → List ByteArray} {node : Int} {it : Nat} {seen : Array Nat}
theorem Clr.own (h : Clr M Mc x r n side clk l l' q node it seen) {c : Nat} (hc : Own x r l' c) : Own x r l c := by
  rcases hc with h1 | h1 | ⟨e, he, hb⟩
  · exact .inl h1
  · exact .inr (.inl h1)
  · exact .inr (.inr ⟨e, h.sub e he, hb⟩)
theorem Clr.mid (h : Clr M Mc x r n side clk l l' q node it seen) {o : AObj} : NetAt (Mc.upd it o) x r n side clk l' (keepQ l' q) :=
  h.net.keep fun c hc => upd_other fun e => h.itO (by rw [← e]; exact h.own hc)
theorem Clr.ne (h : Clr M Mc x r n side clk l l' q node it seen) : it ≠ x ∧ x ≠ it ∧ it ≠ r ∧ r ≠ it :=
  ⟨fun e => h.itO (.inl e), fun e => h.itO (.inl e.symm), fun e => h.itO (.inr (.inl e)), fun e => h.itO (.inr (.inl e.symm))⟩
theorem left_lt {l : List (En K2)} {e : En K2} {seen : Array Nat} (he : e ∈ l) (hs : e.s ∉ seen) : left l (seen.push e.s) < left l seen := by
  refine filter_lt (fun e' he' h => ?_) ⟨e, he, by simpa using hs, by simp⟩
  simp only [Array.contains_eq_mem, Array.mem_push, Bool.not_eq_true', decide_eq_false_iff_not, not_or] at h ⊢
  exact h.1
theorem Clr.step (h : Clr M Mc x r n side clk l l' q node it seen) {e : En K2} {B : Nat} {o o' : AObj} (he : e ∈ l') (hB : (Mc.upd it (.it (.mapIter (some r) clk (seen.push e.s) clk))) B = none) (ht : touch node e.k = false) :
    Clr M (((Mc.upd it (.it (.mapIter (some r) clk (seen.push e.s) clk))).upd B o).upd B o') x r n side clk l l' q node it (seen.push e.s) := by
  have hBi : it ≠ B := Mem.fresh_ne hB (Mem.upd_self _ _ _)
  refine ⟨(upd_other hBi).trans ((upd_other hBi).trans (Mem.upd_self _ _ _)), h.itO, h.itM, h.mid.fresh2 hB, h.sub, h.del, fun e' he' hs => ?_, fun c hc ho => ?_, h.ql⟩
  · rcases Array.mem_push.1 hs with h1 | h1
    · exact h.don e' he' h1
    · rw [nodup_inj h.net.sn he' he h1]; exact ht
  · have h1 : c ≠ it := fun e => hc (by rw [e]; exact h.itM)
    have h3 := h.chg c hc ho
    have h2 : c ≠ B := fun e => hc (by rw [← h3, e]; exact (Mem.upd_none hB).2)
    rw [upd_other h2, upd_other h2, upd_other h1, h3]
theorem Clr.stepd (h : Clr M Mc x r n side clk l l' q node it seen) {e : En K2} {B j : Nat} {o o' : AObj} (he : e ∈ l') (hB : (Mc.upd it (.it (.mapIter (some r) clk (seen.push e.s) clk))) B = none) (ht : touch node e.k = true) (hj : enIdx l' e.k = some j) :
    Clr M ((((Mc.upd it (.it (.mapIter (some r) clk (seen.push e.s) clk))).upd B o).upd B o').upd r (.it (.map (entsX keyV (l'.eraseIdx j)) clk))) x r n side clk l (l'.eraseIdx j) q node it (seen.push e.s) := by
  have hBi : it ≠ B := Mem.fresh_ne hB (Mem.upd_self _ _ _)
  have hm := er_mem h.net.nd hj
  refine ⟨(upd_other h.ne.2.2.1).trans ((upd_other hBi).trans ((upd_other hBi).trans (Mem.upd_self _ _ _))), h.itO, h.itM, (h.mid.fresh2 hB).del h.ql hj (Mem.upd_self _ _ _) (fun c _ hc => upd_other hc), fun e' he' => h.sub e' ((hm e').1 he').1, fun e' he' hn => ?_, fun e' he' hs => ?_, fun c hc ho => ?_, h.ql⟩
  · by_cases h1 : e' ∈ l'
    · have : e'.k = e.k := Classical.byContradiction fun h2 => hn ((hm e').2 ⟨h1, h2⟩)
      rw [this]; exact ht
    · exact h.del e' he' h1
  · have h2 := (hm e').1 he'
    rcases Array.mem_push.1 hs with h1 | h1
    · exact h.don e' h2.1 h1
    · exact absurd (by rw [nodup_inj h.net.sn h2.1 he h1]) h2.2
  · have h1 : c ≠ it := fun e => hc (by rw [e]; exact h.itM)
    have h3 := h.chg c hc ho
    have h2 : c ≠ B := fun e => hc (by rw [← h3, e]; exact (Mem.upd_none hB).2)
    have h4 : c ≠ r := fun e => ho (.inr (.inl e))
    rw [upd_other h4, upd_other h2, upd_other h2, upd_other h1, h3]
theorem left_del {e : En K2} {j : Nat} (he : e ∈ l') (hs : e.s ∉ seen) : left (l'.eraseIdx j) (seen.push e.s) < left l' seen :=
  Nat.lt_of_le_of_lt ((List.eraseIdx_sublist l' j).filter _).length_le (left_lt he hs)
theorem Clr.done (h : Clr M Mc x r n side clk l l' q node it seen) (hq0 : ∀ k, (∀ e ∈ l, e.k ≠ k) → q k = []) (hov : ∀ e ∈ l', e.s ∈ seen) : keepQ l' q = clearQ q node := by
  funext k
  unfold clearQ
  by_cases hk : ∃ e ∈ l', e.k = k
  · obtain ⟨e, he, rfl⟩ := hk
    rw [keepQ_in he, h.don e he (hov e he)]; rfl
  · have hk' : ∀ e ∈ l', e.k ≠ k := fun e he e2 => hk ⟨e, he, e2⟩
    rw [keepQ_out hk']
    by_cases ht : touch node k = true
    · rw [if_pos ht]
    · rw [if_neg ht]
      refine (hq0 k fun e he e2 => ?_).symm
      refine ht ?_
      rw [← e2]
      exact h.del e he fun h' => hk' e h' e2
theorem Clr.init (hN : NetAt M x r n side clk l q) (hB : M it = none) : Clr M (M.upd it (.it (.mapIter (some r) clk #[] clk))) x r n side clk l l q node it #[] := by
  have e : keepQ l q = q := by
    funext k
    by_cases hk : ∃ e ∈ l, e.k = k
    · obtain ⟨e, he, rfl⟩ := hk
      exact keepQ_in he
    · have hk' : ∀ e ∈ l, e.k ≠ k := fun e he e2 => hk ⟨e, he, e2⟩
      rw [keepQ_out hk', hN.q0 k hk']
  exact ⟨Mem.upd_self _ _ _, fun h => hN.own h hB, hB, by rw [e]; exact hN.fresh hB, fun _ h => h, fun e h h' => absurd h h', fun e he h => by simp at h, fun c hc _ => upd_other fun e => hc (by rw [e]; exact hB), hN.ql⟩
end
set_option maxHeartbeats 4000000 in
set_option maxRecDepth 20000 in
theorem snd15 (x r clk side : Nat) (n : Int) (l : List (En K2)) (q : K2 → List ByteArray) (M : Mem) (hN : NetAt M x r n side clk l q) (O : Nat → Prop) (hO : O = Own x r l) (node : Int) : SoundCall Try.prog 15 [ptr x, int node] M fun _ M' => ∃ O', NetO M' x n side (clearQ q node) O' ∧ Chg M M' O O' := by
  obtain ⟨hx, hr, xr, hnd, hst, hsn, hq0, hq1, hbx, hbd, hql, ⟨hn1, hn7⟩, hs63⟩ := id hN
  have rx := xr.symm
  refine SoundCall.go tk15 pl15 mixed Try.func15 cb15 rfl (Nat.le_of_ble_eq_true rfl) ?_
  refine s_seq ?_
  refine s_region ?_
  refine o_q (q_mv ((by first | exact v_raw rfl | exact v_sptr rfl))) rfl rfl rfl ?_
  refine o_q (q_nil rfl) rfl rfl rfl ?_
  refine o_q (q_fr fo48_1 rfl) rfl rfl rfl ?_
  refine o_q (q_ldm ag46 sz46 rfl (by repeat first | exact Mem.upd_self _ _ _ | assumption | refine Mem.upd_ne (by assumption) ?_) rfl (v_raw rfl)) rfl rfl rfl ?_
  refine x_range (ek := keyV) und46 rfl hr (fun B0 hB0 => ?_)
  refine o_nil ?_
  refine s_block ?_
  refine s_loop (fun m S => ∃ T Mc l' seen it, S = ⟨setT (setT (setT T 0 (ptr x)) 1 (int node)) 9 (ptr it), Mc⟩ ∧ Clr M Mc x r n side clk l l' q node it seen ∧ m = left l' seen) (left l #[]) ?_ ?_
  · exact ⟨_, _, l, #[], B0, St.mkT (kp (kp (kp rfl rfl) rfl) rfl).symm, Clr.init hN hB0, rfl⟩
  rintro m S ⟨T, Mc, l', seen, it, rfl, hC, rfl⟩
  refine s_seq ?_
  refine s_region ?_
  have hx' := hC.net.hx
  obtain ⟨nn1, nn2, nn3, nn4⟩ := hC.ne
  refine x_next (ek := keyV) rfl hC.hI hC.net.hr (fun e he => ⟨hC.net.st e he, hC.net.st e he⟩) ?_ ?_
  · skip
    intro hov
    refine o_q (q_ext rfl rfl (v_raw rfl)) rfl rfl rfl ?_
    refine o_nil ?_
    refine s_seq ?_
    refine s_else rfl rfl ?_
    refine s_exit ?_
    refine s_code_exit ?_
    refine s_inv_exit ?_
    refine s_blk_here ?_
    refine s_end ?_
    refine ⟨Own x r l', ⟨r, clk, l', ?_, rfl⟩, ⟨fun c hc ho => hC.chg c hc (by rw [← hO]; exact ho), fun c hc => .inl (by rw [hO]; exact hC.own hc)⟩⟩
    rw [← hC.done hq0 hov]; exact hC.net
  · skip
    intro e he hes
    obtain ⟨j, hj⟩ := has_idx he
    refine o_q (q_ext rfl rfl (v_raw rfl)) rfl rfl rfl ?_
    refine o_nil ?_
    refine s_seq ?_
    refine s_then rfl rfl ?_
    refine s_skip ?_
    refine s_block ?_
    refine s_seq ?_
    refine s_region ?_
    refine x_entry (e := e) (KA := .agg [int e.k.1, int e.k.2]) rfl (Mem.upd_self _ _ _) ((upd_other nn4).trans hC.net.hr) (find_s hC.net.sn he) (Fixed.agg2 _ _) (fun _ _ h => by cases h) ?_
    refine o_q (q_ext rfl rfl (v_agg rfl)) rfl rfl rfl ?_
    refine o_alloc zc49 (fun B1 hB1 => ?_)
    obtain ⟨nb1, nb2, nb3, nb4⟩ := hC.mid.ne hB1
    have nb5 : it ≠ B1 := Mem.fresh_ne hB1 (Mem.upd_self _ _ _)
    have nb6 := nb5.symm
    refine o_store rfl (by repeat first | exact Mem.upd_self _ _ _ | assumption | refine Mem.upd_ne (by assumption) ?_) (by first | exact e_raw rfl | exact e_agg rfl | exact e_sl rfl | rfl) rfl sz49 rfl (Nat.le_of_ble_eq_true rfl) rfl rfl ?_
    refine o_nil ?_
    refine s_seq ?_
    refine s_region ?_
    refine o_q (q_idxa und49 sz3 rfl rfl (by omega) (by omega)) rfl rfl rfl ?_
    refine o_q (q_ldm ag3 sz3 rfl (by repeat first | exact Mem.upd_self _ _ _ | assumption | refine Mem.upd_ne (by assumption) ?_) rfl (v_raw rfl)) rfl rfl rfl ?_
    refine o_q (q_mv (v_raw rfl)) rfl rfl rfl ?_
    refine o_q (q_eql rfl rfl) rfl rfl rfl ?_
    refine o_q (q_mv (v_raw rfl)) rfl rfl rfl ?_
    refine o_cases (want := false) (j := 4) rfl rfl (fun h1 => ?_) (fun h1 => ?_)
    · have k1 := h1; try simp only [decide_eq_true_eq, decide_eq_false_iff_not, Bool.not_eq_true', Bool.not_eq_false', Bool.not_true, Bool.not_false, List.length_map, Decidable.not_not] at k1
      refine o_yes rfl rfl rfl h1 ?_
      refine o_q (q_idxa und49 sz3 rfl rfl (by omega) (by omega)) rfl rfl rfl ?_
      refine o_yes rfl rfl rfl h1 ?_
      refine o_q (q_ldm ag3 sz3 rfl (by repeat first | exact Mem.upd_self _ _ _ | assumption | refine Mem.upd_ne (by assumption) ?_) rfl (v_raw rfl)) rfl rfl rfl ?_
      refine o_yes rfl rfl rfl h1 ?_
      refine o_q (q_mv (v_raw rfl)) rfl rfl rfl ?_
      refine o_yes rfl rfl rfl h1 ?_
      refine o_q (q_eql rfl rfl) rfl rfl rfl ?_
      refine o_q (q_pick_c (t := false) rfl h1 (v_raw rfl)) rfl rfl rfl ?_
      refine o_nil ?_
      refine s_cond rfl (fun h2 => ?_) (fun h2 => ?_)
      · have k2 := h2; try simp only [decide_eq_true_eq, decide_eq_false_iff_not, Bool.not_eq_true', Bool.not_eq_false', Bool.not_true, Bool.not_false, List.length_map, Decidable.not_not] at k2
        refine s_draw rfl ?_
        refine d_q rfl (q_mv ((by first | exact v_raw rfl | exact v_sptr rfl))) rfl rfl rfl ?_
        refine d_q rfl (q_nil rfl) rfl rfl rfl ?_
        refine d_q rfl (q_fr fo48_1 rfl) rfl rfl rfl ?_
        refine d_q rfl (q_ldm ag46 sz46 rfl (by repeat first | exact Mem.upd_self _ _ _ | assumption | refine Mem.upd_ne (by assumption) ?_) rfl (v_raw rfl)) rfl rfl rfl ?_
        refine d_q rfl (q_ldm ag49 sz49 rfl (by repeat first | exact Mem.upd_self _ _ _ | assumption | refine Mem.upd_ne (by assumption) ?_) rfl (v_agg rfl)) rfl rfl rfl ?_
        refine d_s rfl ?_
        refine x_delete (k := e.k) (j := j) rfl und46 kt49 rfl rfl ((upd_other nb4).trans ((upd_other nb4).trans ((upd_other nn4).trans hC.net.hr))) hj ?_
        refine o_nil ⟨(by intro p hp hk; refine upd_other (?_ : p.2 ≠ r); simp only [List.map_cons, List.map_nil, List.append_nil, List.nil_append, List.mem_append, List.mem_cons, List.not_mem_nil, or_false, false_or, List.cons_append] at hp; rcases hp with rfl | rfl <;> assumption), ?_⟩
        refine d_nil ?_
        refine s_blk_normal ?_
        refine s_inv ?_
        exact ⟨_, left_del he hes, _, _, _, _, _, St.mkT (kp (kp (kp rfl rfl) rfl) rfl).symm, hC.stepd he hB1 (by unfold touch; simp [*]) hj, rfl⟩
      · have k2 := h2; try simp only [decide_eq_true_eq, decide_eq_false_iff_not, Bool.not_eq_true', Bool.not_eq_false', Bool.not_true, Bool.not_false, List.length_map, Decidable.not_not] at k2
        refine s_skip ?_
        refine s_blk_normal ?_
        refine s_inv ?_
        exact ⟨_, left_lt he hes, _, _, _, _, _, St.mkT (kp (kp (kp rfl rfl) rfl) rfl).symm, hC.step he hB1 (by unfold touch; simp [*]), rfl⟩
    · have k1 := h1; try simp only [decide_eq_true_eq, decide_eq_false_iff_not, Bool.not_eq_true', Bool.not_eq_false', Bool.not_true, Bool.not_false, List.length_map, Decidable.not_not] at k1
      refine o_no rfl rfl rfl rfl h1 ?_
      refine o_no rfl rfl rfl rfl h1 ?_
      refine o_no rfl rfl rfl rfl h1 ?_
      refine o_no rfl rfl rfl rfl h1 ?_
      refine o_q (q_pick_c (t := true) rfl h1 (v_raw rfl)) rfl rfl rfl ?_
      refine o_nil ?_
      refine s_then rfl rfl ?_
      refine s_draw rfl ?_
      refine d_q rfl (q_mv ((by first | exact v_raw rfl | exact v_sptr rfl))) rfl rfl rfl ?_
      refine d_q rfl (q_nil rfl) rfl rfl rfl ?_
      refine d_q rfl (q_fr fo48_1 rfl) rfl rfl rfl ?_
      refine d_q rfl (q_ldm ag46 sz46 rfl (by repeat first | exact Mem.upd_self _ _ _ | assumption | refine Mem.upd_ne (by assumption) ?_) rfl (v_raw rfl)) rfl rfl rfl ?_
      refine d_q rfl (q_ldm ag49 sz49 rfl (by repeat first | exact Mem.upd_self _ _ _ | assumption | refine Mem.upd_ne (by assumption) ?_) rfl (v_agg rfl)) rfl rfl rfl ?_
      refine d_s rfl ?_
      refine x_delete (k := e.k) (j := j) rfl und46 kt49 rfl rfl ((upd_other nb4).trans ((upd_other nb4).trans ((upd_other nn4).trans hC.net.hr))) hj ?_
      refine o_nil ⟨(by intro p hp hk; refine upd_other (?_ : p.2 ≠ r); simp only [List.map_cons, List.map_nil, List.append_nil, List.nil_append, List.mem_append, List.mem_cons, List.not_mem_nil, or_false, false_or, List.cons_append] at hp; rcases hp with rfl | rfl <;> assumption), ?_⟩
      refine d_nil ?_
      refine s_blk_normal ?_
      refine s_inv ?_
      exact ⟨_, left_del he hes, _, _, _, _, _, St.mkT (kp (kp (kp rfl rfl) rfl) rfl).symm, hC.stepd he hB1 (by unfold touch; simp [*]) hj, rfl⟩
end C05
