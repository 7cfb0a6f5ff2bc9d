import Derived.Test.YtkpenadcehnpjaaF18
import Derived.Test.YtkpenadcehnpjaaProg
/-! Chapter 18: orders: what their functions compute. -/
open Go Go.Proofs Go.Am
set_option linter.unusedVariables false
set_option linter.unusedSimpArgs false
set_option autoImplicit false
namespace C18
theorem ag27 : aggT Try.prog 27 = some false := by kernel_rfl
theorem slt26 : SlT Try.prog 26 27 1 8 := ⟨by kernel_rfl, by kernel_rfl, by kernel_rfl, by kernel_rfl, by decide⟩
theorem sz27 : sizeT Try.prog 27 = some 1 := by kernel_rfl
theorem und4 : Try.prog.underlying 4 = some .bool := by kernel_rfl
theorem und26 : Try.prog.underlying 26 = some (.slice 27) := by kernel_rfl
def tk3 : Nat → Nat → Option Nat
  | 3, 0 => some 0
  | 7, 0 => some 0
  | 7, 4 => some 0
  | 8, 0 => some 0
  | 15, 0 => some 0
  | 15, 4 => some 0
  | _, _ => none
def pl3 : Nat → List PStep
  | 21 => [.q 0, .q 1, .q 2, .q 3, .q 4, .q 5, .q 6, .s 7 [5, 4, 3, 1, 0], .q 8, .q 9, .q 10, .q 11, .q 12]
  | 35 => [.q 0, .q 1, .q 2, .q 3, .q 4, .q 5, .q 6, .q 7, .q 8, .q 9, .q 10, .s 11 [9, 8, 7, 5, 4, 2, 1, 0]]
  | 36 => [.q 0, .q 1, .q 2, .q 3, .q 4, .q 5, .q 6, .q 7, .s 8 [6, 5, 4, 3, 2, 1, 0], .s 9 [7, 6, 5, 4, 1, 0]]
  | 40 => [.q 0, .q 1, .q 2, .q 3, .q 4, .q 5, .q 6, .s 7 [5, 4, 3, 2, 1, 0], .s 8 [6, 5, 4, 2, 1, 0]]
  | _ => []
theorem cb3 : Try.f3.body.map (codeB Try.prog Try.f3.ntmps tk3 pl3) = some true := by kernel_rfl
theorem goes3 : goesB Try.prog 3 = true := by kernel_rfl
-- carillon/carillonlaw18.OrderEnds params ['int', '[]string'] results [['t', 4]] own [34, 55, 7, 9, 37, 58] names ['0:many', '1:l', '2:many', '3:l', '5:head', '6:n', '7:nodes', '8:i', '9:o', '10:i', '11:x', '12:e', '13:bytes', '14:ordered', '15:i', '16:at', '17:e', '18:fits', '19:w', '20:at', '21:texts', '22:k', '23:w', '24:i'] calls [7, 8, 9, 10, 11, 12, 13, 14, 15, 16, 17] paths 13

theorem elsPtr {l : List Nat} : Els 1 (l.map ptr) := Els.map fun _ => ⟨rfl, rfl⟩
def rng (n : Nat) : List Int := (List.range n).map fun i : Nat => (i : Int)
theorem rng_succ (n : Nat) : rng (n + 1) = rng n ++ [(n : Int)] := by simp [rng, List.range_succ]
theorem rng_len (n : Nat) : (rng n).length = n := by simp [rng]
theorem rng_mem {n : Nat} {v : Int} : v ∈ rng n ↔ 0 ≤ v ∧ v < n := by
  simp only [rng, List.mem_map, List.mem_range]
  constructor
  · rintro ⟨a, ha, rfl⟩; omega
  · intro h; exact ⟨v.toNat, by omega, by omega⟩
theorem rng_rise : ∀ n, n < 8 → rise (-1) (rng n) = true := by decide
theorem rng_new {n i : Nat} (hn : n ≤ 7) (hi : i < n) : okNew i (rng n) = true := by
  unfold okNew
  rw [rng_rise n (by omega), decide_eq_true (rng_mem.2 ⟨by omega, by omega⟩)]; rfl
theorem rng_head {n : Nat} (hn : 0 < n) : (rng n).head? = some 0 := by
  obtain ⟨k, rfl⟩ : ∃ k, n = k + 1 := ⟨n - 1, by omega⟩
  simp [rng, List.range_succ_eq_map]
theorem first_rng {n : Nat} {o : Od} (hn : 0 < n) (h : o.nodes = rng n) : firstO o = decide (o.self = 0) := by
  unfold firstO
  rw [h, rng_head hn]
  by_cases e : o.self = 0
  · rw [e]; rfl
  · rw [decide_eq_false e, decide_eq_false (fun h => e (Option.some.inj h).symm)]
def tot : List ByteArray → Int
  | [] => 0
  | s :: l => ((s.size : Int) + 4) + tot l
theorem tot_app : ∀ (a b : List ByteArray), tot (a ++ b) = tot a + tot b
  | [], b => by simp [tot]
  | s :: a, b => by simp only [List.cons_append, tot, tot_app a b]; omega
theorem tot_nn : ∀ l : List ByteArray, 0 ≤ tot l
  | [] => by simp [tot]
  | s :: l => by have := tot_nn l; simp only [tot]; omega
theorem tot_one (s : ByteArray) : tot [s] = (s.size : Int) + 4 := by simp [tot]
theorem tot_take {l : List ByteArray} {k : Nat} (hk : k < l.length) : tot (l.take k) + ((l[k].size : Int) + 4) ≤ tot l := by
  have h1 : tot (l.take (k + 1)) + tot (l.drop (k + 1)) = tot l := by rw [← tot_app, List.take_append_drop]
  rw [List.take_succ_eq_append_getElem hk, tot_app, tot_one] at h1
  have := tot_nn (l.drop (k + 1))
  omega
theorem med_all {o : Od} (h : OK o) (ha : ∀ v ∈ o.nodes, hv o v = o.log.length) : medO o = o.log.length := by
  have h1 := med_le h
  have h2 := (med_ge h.h0 o.log.length).2 (by
    rw [List.countP_eq_length.2 fun v hv => by simp [ha v hv]]
    have := h.h0; omega)
  omega
/-- The sequencer, when those ahead of w said that they have all. -/
structure Ld (n w : Nat) (o : Od) : Prop where
  ok : OK o
  nodes : o.nodes = rng n
  self : o.self = 0
  own : hv o 0 = o.log.length
  oth : ∀ v : Int, 0 < v → v < n → hv o v = if v < w then (o.log.length : Int) else 0
  bytes : o.bytes = tot o.log
  fits : tot o.log ≤ 45000
  sure : w = n → o.sure = o.log.length
/-- Another node with so many texts. -/
structure Fo (n : Nat) (lg : List ByteArray) (s : Int) (j : Nat) (o : Od) : Prop where
  ok : OK o
  nodes : o.nodes = rng n
  self : o.self = j
  log : o.log = lg
  bytes : o.bytes = tot lg
  sure : o.sure = s
theorem wrap_b {a : Int} (h1 : -2 ^ 63 ≤ a) (h2 : a < 2 ^ 63) : IntKind.i64.wrap a = a := wrap64 (by omega) (by omega)
theorem ld_fit {n w : Nat} {o : Od} (h : Ld n w o) (s : ByteArray) (hs : s.size < 2 ^ 61) : addB o s = tot o.log + ((s.size : Int) + 4) := by
  unfold addB
  have := h.fits; have := tot_nn o.log
  rw [h.bytes, wrap_b (by omega) (by omega)]
theorem ld_prop {n : Nat} {o : Od} (hn : 1 ≤ n) (hn7 : n ≤ 7) (h : Ld n 1 o) {s : ByteArray} (hs : s.size < 2 ^ 61) :
    (tot o.log + (s.size : Int) + 4 ≤ 45000 → Ld n 1 (propO o s).1 ∧ (propO o s).1.log = o.log ++ [s] ∧ (propO o s).2 = ((o.log.length : Int), 0)) ∧ (¬ tot o.log + (s.size : Int) + 4 ≤ 45000 → propO o s = (o, 0, 8)) := by
  have hf : firstO o = true := by rw [first_rng (by omega) h.nodes, h.self]; rfl
  have hb := ld_fit h s hs
  constructor
  · intro hle
    have hp : putO o s = (⟨o.self, o.nodes, o.log ++ [s], addB o s, o.sure, o.has.set o.self.toNat (o.log.length + 1 : Nat)⟩, true) := by unfold putO; rw [if_neg (by omega)]
    have hG : Gr o (propO o s).1 := prop_gr h.ok
    have e : propO o s = (settleO (putO o s).1, (o.log.length : Int), 0) := by unfold propO; rw [if_pos hf, if_pos (by rw [hp])]
    rw [e] at hG ⊢
    have hl : (o.log ++ [s]).length = o.log.length + 1 := by simp
    have hv' : ∀ v : Int, 0 ≤ v → v < 7 → hv (settleO (putO o s).1) v = if v = 0 then ((o.log ++ [s]).length : Int) else hv o v := fun v h0 h7 => by
      have := hv_set (o := o) (v := o.self) (w := v) (n := (o.log.length + 1 : Nat)) h.ok.hse ⟨h0, h7⟩ h.ok.has
      rw [h.self] at this
      rw [hp, hl]
      show (o.has.set o.self.toNat _).getD v.toNat 0 = _
      rw [h.self]; exact this
    have hlog : (settleO (putO o s).1).log = o.log ++ [s] := by rw [hp]; rfl
    have hnod : (settleO (putO o s).1).nodes = rng n := by rw [hp]; exact h.nodes
    refine ⟨⟨hG.ok, hnod, by rw [hp]; exact h.self, by rw [hv' 0 (by omega) (by omega), if_pos rfl, hlog], fun v h0 hvn => ?_, by rw [hlog, tot_app, tot_one, hp]; exact hb, by rw [hlog, tot_app, tot_one]; omega, fun e1 => ?_⟩, hlog, rfl⟩
    · rw [hv' v (by omega) (by omega), if_neg (by omega), h.oth v h0 hvn, if_neg (by omega), if_neg (by omega)]
    · have hput : OK (putO o s).1 := (put_gr h.ok).ok
      have hm := med_all hput fun v hvm => by
        have hvm' : v ∈ rng n := by rw [hp] at hvm; rw [← h.nodes]; exact hvm
        have hr := rng_mem.1 hvm'
        have hv0 : v = 0 := by omega
        subst hv0
        have := hv' 0 (by omega) (by omega)
        rw [if_pos rfl] at this
        rw [hp] at this ⊢
        exact this
      show max (putO o s).1.sure (medO (putO o s).1) = _
      rw [hm, hlog]
      have e2 : (putO o s).1.log = o.log ++ [s] := by rw [hp]
      have e3 : (putO o s).1.sure = o.sure := by rw [hp]
      have := h.ok.sure1
      rw [e2, e3, hl]; omega
  · intro hle
    have hp : putO o s = (o, false) := by unfold putO; rw [if_pos (by omega)]
    unfold propO
    rw [if_pos hf, if_neg (by rw [hp]; simp)]
theorem ld_wants {n w : Nat} {o : Od} (hw : 1 ≤ w) (hwn : w < n) (h : Ld n w o) (hl : o.log.length ≤ 60) : wantsO o w 100 = (0, o.log) := by
  have ho : otherO o w = true := by
    unfold otherO
    rw [first_rng (by omega) h.nodes, h.self, decide_eq_true (show (w : Int) ≠ 0 by omega), h.nodes, decide_eq_true (rng_mem.2 ⟨by omega, by omega⟩)]; rfl
  unfold wantsO
  rw [if_pos ho, h.oth w (by omega) (by omega), if_neg (by omega)]
  simp only [Int.toNat_zero, List.drop_zero]
  rw [List.take_of_length_le (by omega)]
theorem ld_has {n w : Nat} {o : Od} (hw : 1 ≤ w) (hwn : w < n) (hn7 : n ≤ 7) (h : Ld n w o) : Ld n (w + 1) (hasO o w o.log.length).1 ∧ (hasO o w o.log.length).1.log = o.log := by
  have ho : otherO o w = true := by
    unfold otherO
    rw [first_rng (by omega) h.nodes, h.self, decide_eq_true (show (w : Int) ≠ 0 by omega), h.nodes, decide_eq_true (rng_mem.2 ⟨by omega, by omega⟩)]; rfl
  have hG : Gr o (hasO o w o.log.length).1 := has_gr h.ok
  have e : hasO o w o.log.length = (settleO (setH o w o.log.length), true) := by unfold hasO; rw [if_pos ⟨ho, by omega, Int.le_refl _⟩]
  rw [e] at hG ⊢
  have hv' : ∀ v : Int, 0 ≤ v → v < 7 → hv (settleO (setH o w o.log.length)) v = if v = w then (o.log.length : Int) else hv o v := fun v h0 h7 => by
    have := hv_set (o := o) (v := w) (w := v) (n := max (hv o w) o.log.length) ⟨by omega, by omega⟩ ⟨h0, h7⟩ h.ok.has
    have h2 := h.oth w (by omega) (by omega)
    rw [if_neg (by omega)] at h2
    rw [h2, show max (0 : Int) (o.log.length : Int) = o.log.length by omega] at this
    show (o.has.set (w : Int).toNat (max (hv o w) o.log.length)).getD v.toNat 0 = _
    rw [h2, show max (0 : Int) (o.log.length : Int) = o.log.length by omega]
    exact this
  refine ⟨⟨hG.ok, h.nodes, h.self, by rw [hv' 0 (by omega) (by omega), if_neg (by omega)]; exact h.own, fun v h0 hvn => ?_, h.bytes, h.fits, fun e1 => ?_⟩, rfl⟩
  · rw [hv' v (by omega) (by omega)]
    show _ = if v < ((w + 1 : Nat) : Int) then (o.log.length : Int) else 0
    have := h.oth v h0 hvn
    by_cases e2 : v = w
    · rw [if_pos e2, if_pos (by omega)]
    · rw [if_neg e2, this]
      by_cases e3 : v < w
      · rw [if_pos e3, if_pos (by omega)]
      · rw [if_neg e3, if_neg (by omega)]
  · have hok' : OK (setH o w o.log.length) := by
      have hvm : (w : Int) ∈ o.nodes := (other_mem ho).2.2
      refine ⟨h.ok.rise, h.ok.mem, by simp [setH, h.ok.has], fun v hw' => ?_, h.ok.sure0, h.ok.sure1⟩
      have hr := h.ok.hnr v hw'
      have h3 : hv (setH o w o.log.length) v = _ := hv' v hr.1 hr.2
      rw [h3]
      have := h.ok.hvb v hw'
      split
      · exact ⟨by omega, Int.le_refl _⟩
      · exact this
    have hm := med_all hok' fun v hvm => by
      have hr := rng_mem.1 (h.nodes ▸ hvm : v ∈ rng n)
      have h3 : hv (setH o w o.log.length) v = _ := hv' v hr.1 (by omega)
      rw [h3]
      show _ = (o.log.length : Int)
      by_cases e2 : v = w
      · rw [if_pos e2]
      · rw [if_neg e2]
        by_cases e3 : v = 0
        · rw [e3]; exact h.own
        · rw [h.oth v (by omega) hr.2, if_pos (by omega)]
    show max o.sure (medO (setH o w o.log.length)) = (o.log.length : Int)
    rw [hm]
    have := h.ok.sure1
    show max o.sure (o.log.length : Int) = _
    omega
theorem fo_add {n j k : Nat} {lg : List ByteArray} {o : Od} (hn : 0 < n) (hj : 0 < j) (h : Fo n (lg.take k) 0 j o) (hk : k < lg.length) (ht : tot lg ≤ 45000) : Fo n (lg.take (k + 1)) 0 j (addO o k lg[k]).1 := by
  have hf : firstO o = false := by rw [first_rng hn h.nodes, h.self]; exact decide_eq_false (by omega)
  have hG : Gr o (addO o k lg[k]).1 := add_gr h.ok
  have hlen : o.log.length = k := by rw [h.log, List.length_take]; omega
  have h1 := tot_take hk; have h2 := tot_nn (lg.take k)
  have hb : addB o lg[k] = tot (lg.take k) + ((lg[k].size : Int) + 4) := by unfold addB; rw [h.bytes, wrap_b (by omega) (by omega)]
  have hp : putO o lg[k] = (⟨o.self, o.nodes, o.log ++ [lg[k]], addB o lg[k], o.sure, o.has.set o.self.toNat (o.log.length + 1 : Nat)⟩, true) := by unfold putO; rw [if_neg (by omega)]
  have e : addO o k lg[k] = putO o lg[k] := by unfold addO; rw [if_pos ⟨hf, by omega⟩]
  rw [e, hp] at hG ⊢
  exact ⟨hG.ok, h.nodes, h.self, by rw [List.take_succ_eq_append_getElem hk, ← h.log], by rw [List.take_succ_eq_append_getElem hk, tot_app, tot_one]; exact hb, h.sure⟩
theorem fo_learn {n j : Nat} {lg : List ByteArray} {o : Od} (hn : 0 < n) (hj : 0 < j) (h : Fo n lg 0 j o) : Fo n lg lg.length j (learnO o lg.length).1 := by
  have hf : firstO o = false := by rw [first_rng hn h.nodes, h.self]; exact decide_eq_false (by omega)
  have hG : Gr o (learnO o lg.length).1 := learn_gr h.ok
  have hlen : o.log.length = lg.length := by rw [h.log]
  have hs := h.sure
  unfold learnO at hG ⊢
  by_cases e : o.sure < min (lg.length : Int) o.log.length
  · rw [if_pos ⟨hf, e⟩] at hG ⊢
    exact ⟨hG.ok, h.nodes, h.self, h.log, h.bytes, by show min (lg.length : Int) o.log.length = _; omega⟩
  · rw [if_neg (fun h => e h.2)] at hG ⊢
    exact ⟨hG.ok, h.nodes, h.self, h.log, h.bytes, by have := h.ok.sure0; show o.sure = _; omega⟩
theorem fo_new {n j : Nat} (hn : n ≤ 7) (hj : j < n) : Fo n [] 0 j (newO j (rng n) []) := ⟨new_ok (rng_new hn hj), rfl, rfl, rfl, rfl, rfl⟩
theorem ld_new {n : Nat} (h1 : 1 ≤ n) (hn : n ≤ 7) : Ld n 1 (newO (0 : Nat) (rng n) []) := by
  have hnew := rng_new hn (show 0 < n by omega)
  have h0 : ∀ v : Int, 0 ≤ v → v < n → hv (newO (0 : Nat) (rng n) []) v = 0 := fun v h0 h1 => by
    have := new_hv (log := []) hnew (rng_mem.2 ⟨h0, h1⟩)
    simpa using this
  exact ⟨new_ok hnew, rfl, rfl, h0 0 (by omega) (by omega), fun v hv0 hvn => by rw [h0 v (by omega) hvn]; split <;> rfl, rfl, (show (0 : Int) ≤ 45000 by decide), fun _ => rfl⟩
/-- Orders in memory, one beside another. -/
structure Hp (M M' : Mem) (bs : List Nat) (f : Nat → Od) : Prop where
  le : M.le M'
  nd : bs.Nodup
  fr : ∀ b ∈ bs, M b = none
  hb : ∀ i, ∀ h : i < bs.length, M' bs[i] = some (.cells (odC (f i)))
def st (f : Nat → Od) (i : Nat) (o : Od) : Nat → Od := fun j => if j = i then o else f j
theorem st_same (f : Nat → Od) (i : Nat) (o : Od) : st f i o i = o := if_pos rfl
theorem st_ne {f : Nat → Od} {i j : Nat} {o : Od} (h : j ≠ i) : st f i o j = f j := if_neg h
theorem Hp.nil {M M' : Mem} (h : M.le M') (f : Nat → Od) : Hp M M' [] f := ⟨h, List.nodup_nil, fun b hb => absurd hb List.not_mem_nil, fun i hi => absurd hi (Nat.not_lt_zero i)⟩
theorem Hp.new {M M' : Mem} {bs : List Nat} {f : Nat → Od} (h : Hp M M' bs f) {b : Nat} (hb : M' b = none) (o : Od) : Hp M (M'.upd b (.cells (odC o))) (bs ++ [b]) (st f bs.length o) := by
  have hne : ∀ i, ∀ hi : i < bs.length, bs[i] ≠ b := fun i hi e => by have := h.hb i hi; rw [e, hb] at this; cases this
  have hM : M b = none := Mem.none_of_le h.le hb
  refine ⟨Mem.le_upd h.le hM, ?_, fun c hc => ?_, fun i hi => ?_⟩
  · refine List.nodup_append.2 ⟨h.nd, by simp, fun c hc d hd e => ?_⟩
    obtain ⟨i, hi, rfl⟩ := List.mem_iff_getElem.1 hc
    simp only [List.mem_singleton] at hd
    exact hne i hi (e.trans hd)
  · rcases List.mem_append.1 hc with hc | hc
    · exact h.fr c hc
    · rw [List.mem_singleton.1 hc]; exact hM
  · rw [List.length_append, List.length_singleton] at hi
    rw [List.getElem_append]
    split
    · rename_i hi'
      rw [st_ne (by omega)]
      exact Mem.upd_ne (hne i hi') (h.hb i hi')
    · rename_i hi'
      rw [List.getElem_singleton, show i = bs.length by omega, st_same]
      exact Mem.upd_self _ _ _
theorem Hp.upd {M M' : Mem} {bs : List Nat} {f : Nat → Od} (h : Hp M M' bs f) {i : Nat} (hi : i < bs.length) (o : Od) : Hp M (M'.upd bs[i] (.cells (odC o))) bs (st f i o) := by
  refine ⟨Mem.le_upd h.le (h.fr _ (List.getElem_mem _)), h.nd, h.fr, fun j hj => ?_⟩
  by_cases e : j = i
  · subst e; rw [st_same]; exact Mem.upd_self _ _ _
  · rw [st_ne e]
    exact Mem.upd_ne (fun e' => by
      have hp := List.pairwise_iff_getElem.1 h.nd
      rcases Nat.lt_or_ge i j with h1 | h1
      · exact hp i j hi hj h1 e'.symm
      · exact hp j i hj hi (by omega) e') (h.hb j hj)

theorem app_eq {α : Type} {f : α → AVal} {l l' : List α} {x : α} {V : AVal} (hV : V = f x) (h : l' = l ++ [x]) : AVal.sl (l.map f ++ [V]) true = .sl (l'.map f) true := by
  rw [h, hV, List.map_append]; rfl
set_option maxHeartbeats 4000000 in
set_option maxRecDepth 20000 in
theorem snd3 (many : Int) (l : List ByteArray) (o1 : Bool) (M : Mem) (hmany : -2 ^ 63 ≤ many ∧ many < 2 ^ 63) (hl : l.length < 2 ^ 60) (hsz : ∀ s ∈ l, s.size < 2 ^ 61) : SoundCall Try.prog 3 [int many, .sl (l.map str) o1] M fun r M' => r = bool true ∧ M.le M' := by
  obtain ⟨n, hp, hn1, hn7⟩ : ∃ n : Nat, pick many (7 : Nat) = ((n - 1 : Nat) : Int) ∧ 1 ≤ n ∧ n ≤ 7 := by
    obtain ⟨p, hp, hp7⟩ := pickN many 7 (by decide)
    exact ⟨p + 1, hp, by omega, by omega⟩
  refine SoundCall.go tk3 pl3 mixed Try.func3 cb3 rfl (Nat.le_of_ble_eq_true rfl) ?_
  refine s_seq ?_
  refine s_region ?_
  refine o_q (q_as (v_raw rfl)) rfl rfl rfl ?_
  refine o_nil ?_
  refine s_seq ?_
  refine s_region ?_
  refine o_callx (snd7 _) goes7 ac_nil rfl ?_
  rintro r M0 ⟨rfl, hle⟩
  refine o_q (q_as (v_raw rfl)) rfl rfl rfl ?_
  refine o_nil ?_
  refine s_seq ?_
  refine s_region ?_
  refine o_q (q_mv (v_raw rfl)) rfl rfl rfl ?_
  refine o_call ((pickE _ hp (by decide) (by decide) hmany)) goes8 (ac (v_raw rfl) (ac (v_raw rfl) ac_nil)) rfl ?_
  refine o_q (q_add rfl rfl (wrap64 (by omega) (by omega))) rfl rfl rfl ?_
  refine o_q (q_as (v_raw rfl)) rfl rfl rfl ?_
  refine o_nil ?_
  refine s_seq ?_
  refine s_region ?_
  refine o_q (q_as_const rfl) rfl rfl rfl ?_
  refine o_nil ?_
  refine s_seq ?_
  refine s_seq ?_
  refine s_region ?_
  refine o_q (q_as (v_raw rfl)) rfl rfl rfl ?_
  refine o_nil ?_
  refine s_block ?_
  refine s_loop (fun m S => ∃ T, ∃ k : Nat, S = ⟨setT (setT (setT (setT (setT T 1 (.sl (l.map str) o1)) 5 (bool true)) 6 (int (n : Nat))) 7 (.sl ((rng k).map int) true)) 8 (int (k : Nat)), M0⟩ ∧ k ≤ n ∧ m = n - k) n ?_ ?_
  · exact ⟨_, 0, St.mkT (kp (kp (kp (kp (kp rfl rfl) rfl) (congrArg int (show (1 : Int) + ((n - 1 : Nat) : Int) = n by omega))) rfl) rfl).symm, by omega, rfl⟩
  rintro m S ⟨T, k, rfl, hkn, rfl⟩
  refine s_seq ?_
  refine s_seq ?_
  refine s_region ?_
  refine o_q (q_mv (v_raw rfl)) rfl rfl rfl ?_
  refine o_q (q_mv (v_raw rfl)) rfl rfl rfl ?_
  refine o_q (q_lss rfl rfl) rfl rfl rfl ?_
  refine o_nil ?_
  refine s_cond rfl (fun h1 => ?_) (fun h1 => ?_)
  · have k1 := h1; try simp only [decide_eq_true_eq, decide_eq_false_iff_not, Bool.not_eq_true', Bool.not_eq_false', Bool.not_true, Bool.not_false, List.length_map, Decidable.not_not] at k1
    have hrk := rng_len k
    refine s_skip ?_
    refine s_seq ?_
    refine s_block ?_
    refine s_region ?_
    refine o_qs (q_mv_own rfl) rfl rfl rfl rfl ?_
    refine o_q (q_mv (v_raw rfl)) rfl rfl rfl ?_
    refine o_q (q_bs slt25 (pc (v_raw rfl) pn) rfl (Els.cons rfl rfl Els.nil) (by decide)) rfl rfl rfl ?_
    refine o_qs (q_app slt25 rfl rfl rfl rfl (by first | exact Els.nil | exact elsInt) (by first | exact (by first | exact Els.nil | exact elsInt) | exact Els.cons rfl rfl Els.nil) (by simp; omega)) rfl rfl rfl rfl ?_
    refine o_qs (q_as_own rfl) rfl rfl rfl rfl ?_
    refine o_nil ?_
    refine s_blk_normal ?_
    refine s_region ?_
    refine o_q (q_mv (v_raw rfl)) rfl rfl rfl ?_
    refine o_q (q_add rfl rfl (wrap64 (by omega) (by omega))) rfl rfl rfl ?_
    refine o_q (q_as (v_raw rfl)) rfl rfl rfl ?_
    refine o_nil ?_
    refine s_inv ?_
    exact ⟨n - (k + 1), by omega, _, k + 1, St.mkT (kp (kp (kp (kp (kp rfl rfl) rfl) rfl) (app_eq rfl (rng_succ k))) rfl).symm, by omega, rfl⟩
  · have k1 := h1; try simp only [decide_eq_true_eq, decide_eq_false_iff_not, Bool.not_eq_true', Bool.not_eq_false', Bool.not_true, Bool.not_false, List.length_map, Decidable.not_not] at k1
    refine s_exit ?_
    refine s_code_exit ?_
    refine s_inv_exit ?_
    refine s_blk_here ?_
    refine s_seq ?_
    refine s_region ?_
    refine o_q (q_as_const rfl) rfl rfl rfl ?_
    refine o_nil ?_
    refine s_seq ?_
    refine s_seq ?_
    refine s_region ?_
    refine o_q (q_as (v_raw rfl)) rfl rfl rfl ?_
    refine o_nil ?_
    refine s_block ?_
    refine s_loop (fun m S => ∃ T, ∃ M' : Mem, ∃ bs : List Nat, ∃ f : Nat → Od, S = ⟨setT (setT (setT (setT (setT (setT T 1 (.sl (l.map str) o1)) 5 (bool true)) 6 (int (n : Nat))) 7 (.sl ((rng n).map int) true)) 9 (.sl (bs.map ptr) true)) 10 (int (bs.length : Nat)), M'⟩ ∧ Hp M M' bs f ∧ (∀ j, j < bs.length → f j = newO (j : Nat) (rng n) []) ∧ bs.length ≤ n ∧ m = n - bs.length) n ?_ ?_
    · obtain rfl : k = n := by omega
      exact ⟨_, _, [], fun _ => newO 0 [] [], St.mkT (kp (kp (kp (kp (kp (kp rfl rfl) rfl) rfl) rfl) rfl) rfl).symm, Hp.nil hle _, fun j hj => absurd hj (Nat.not_lt_zero j), Nat.zero_le _, rfl⟩
    rintro m S ⟨T, M', bs, f, rfl, hH, hf, hbl, rfl⟩
    refine s_seq ?_
    refine s_seq ?_
    refine s_region ?_
    refine o_q (q_mv (v_raw rfl)) rfl rfl rfl ?_
    refine o_q (q_mv (v_raw rfl)) rfl rfl rfl ?_
    refine o_q (q_lss rfl rfl) rfl rfl rfl ?_
    refine o_nil ?_
    refine s_cond rfl (fun h2 => ?_) (fun h2 => ?_)
    · have k2 := h2; try simp only [decide_eq_true_eq, decide_eq_false_iff_not, Bool.not_eq_true', Bool.not_eq_false', Bool.not_true, Bool.not_false, List.length_map, Decidable.not_not] at k2
      refine s_skip ?_
      refine s_seq ?_
      refine s_block ?_
      refine s_seq ?_
      refine s_region ?_
      refine o_q (q_mv (v_raw rfl)) rfl rfl rfl ?_
      refine o_q (q_mv (v_sl rfl)) rfl rfl rfl ?_
      refine o_callx ((newT (self := (bs.length : Nat)) (nodes := rng n) (log := []) _ _ _ (rng_new hn7 (by omega)) (by rw [rng_len]; omega) (by decide) (fun s hs => absurd hs List.not_mem_nil))) goes9 (ac (v_raw rfl) (ac (v_sl rfl) (ac (v_sl rfl) ac_nil))) rfl ?_
      rintro r M2 ⟨b, hb, rfl, rfl⟩
      refine o_q (q_mv (v_tup rfl)) rfl rfl rfl ?_
      refine o_q (q_ext rfl rfl ((by first | exact v_raw rfl | exact v_sptr rfl))) rfl rfl rfl ?_
      refine o_q (q_ext rfl rfl (v_raw rfl)) rfl rfl rfl ?_
      refine o_q (q_as ((by first | exact v_raw rfl | exact v_sptr rfl))) rfl rfl rfl ?_
      refine o_q (q_as (v_raw rfl)) rfl rfl rfl ?_
      refine o_nil ?_
      refine s_seq ?_
      refine s_seq ?_
      refine s_region ?_
      refine o_q (q_mv (v_raw rfl)) rfl rfl rfl ?_
      refine o_q (q_neq rfl rfl) rfl rfl rfl ?_
      refine o_q (q_mv (v_raw rfl)) rfl rfl rfl ?_
      refine o_yes rfl rfl rfl rfl ?_
      refine o_q (q_mv ((by first | exact v_raw rfl | exact v_sptr rfl))) rfl rfl rfl ?_
      refine o_yes rfl rfl rfl rfl ?_
      refine o_q (q_peql und27 rfl rfl) rfl rfl rfl ?_
      refine o_q (q_pick_c (t := false) rfl rfl (v_raw rfl)) rfl rfl rfl ?_
      refine o_nil ?_
      refine s_else rfl rfl ?_
      refine s_skip ?_
      refine s_region ?_
      refine o_qs (q_mv_own rfl) rfl rfl rfl rfl ?_
      refine o_q (q_mv ((by first | exact v_raw rfl | exact v_sptr rfl))) rfl rfl rfl ?_
      refine o_q (q_bs slt26 (pc ((by first | exact v_raw rfl | exact v_sptr rfl)) pn) rfl (Els.cons rfl rfl Els.nil) (by decide)) rfl rfl rfl ?_
      refine o_qs (q_app slt26 rfl rfl rfl rfl (by first | exact Els.nil | exact elsPtr) (by first | exact (by first | exact Els.nil | exact elsPtr) | exact Els.cons rfl rfl Els.nil) (by simp; omega)) rfl rfl rfl rfl ?_
      refine o_qs (q_as_own rfl) rfl rfl rfl rfl ?_
      refine o_nil ?_
      refine s_blk_normal ?_
      refine s_region ?_
      refine o_q (q_mv (v_raw rfl)) rfl rfl rfl ?_
      refine o_q (q_add rfl rfl (wrap64 (by omega) (by omega))) rfl rfl rfl ?_
      refine o_q (q_as (v_raw rfl)) rfl rfl rfl ?_
      refine o_nil ?_
      refine s_inv ?_
      exact ⟨n - (bs.length + 1), by omega, _, _, bs ++ [b], st f bs.length (newO (bs.length : Nat) (rng n) []), St.mkT (kp (kp (kp (kp (kp (kp rfl rfl) rfl) rfl) rfl) (app_eq rfl rfl)) (congrArg int (by rw [List.length_append, List.length_singleton]; omega))).symm, hH.new hb _, fun j hj => (by rw [List.length_append, List.length_singleton] at hj; by_cases e : j = bs.length; (subst e; exact st_same _ _ _); (rw [st_ne e]; exact hf j (by omega))), by rw [List.length_append, List.length_singleton]; omega, by rw [List.length_append, List.length_singleton]⟩
    · have k2 := h2; try simp only [decide_eq_true_eq, decide_eq_false_iff_not, Bool.not_eq_true', Bool.not_eq_false', Bool.not_true, Bool.not_false, List.length_map, Decidable.not_not] at k2
      have hbn : bs.length = n := by omega
      refine s_exit ?_
      refine s_code_exit ?_
      refine s_inv_exit ?_
      refine s_blk_here ?_
      refine s_seq ?_
      refine s_region ?_
      refine o_q (q_as (v_raw rfl)) rfl rfl rfl ?_
      refine o_nil ?_
      refine s_seq ?_
      refine s_region ?_
      refine o_q (q_as (v_raw rfl)) rfl rfl rfl ?_
      refine o_nil ?_
      refine s_seq ?_
      refine s_seq ?_
      refine s_region ?_
      refine o_q (q_as (v_raw rfl)) rfl rfl rfl ?_
      refine o_nil ?_
      refine s_cut (fun S => ∃ T, ∃ M' : Mem, ∃ f : Nat → Od, S = ⟨setT (setT (setT (setT (setT T 5 (bool true)) 6 (int (n : Nat))) 9 (.sl (bs.map ptr) true)) 13 (int (tot (f 0).log))) 14 (int ((f 0).log.length : Nat)), M'⟩ ∧ Hp M M' bs f ∧ Ld n 1 (f 0) ∧ (∀ j, 0 < j → j < n → Fo n [] 0 j (f j)) ∧ (f 0).log.length ≤ 60) ?_ ?_
      · skip
        refine s_block ?_
        refine s_loop (fun m S => ∃ T, ∃ M' : Mem, ∃ f : Nat → Od, ∃ i : Nat, S = ⟨setT (setT (setT (setT (setT (setT (setT T 1 (.sl (l.map str) o1)) 5 (bool true)) 6 (int (n : Nat))) 9 (.sl (bs.map ptr) true)) 13 (int (tot (f 0).log))) 14 (int ((f 0).log.length : Nat))) 15 (int (i : Nat)), M'⟩ ∧ Hp M M' bs f ∧ Ld n 1 (f 0) ∧ (∀ j, 0 < j → j < n → Fo n [] 0 j (f j)) ∧ (f 0).log.length ≤ i ∧ i ≤ 60 ∧ i ≤ l.length ∧ m = l.length - i) l.length ?_ ?_
        · have hf0 := hf 0 (by omega)
          exact ⟨_, _, f, 0, St.mkT (kp (kp (kp (kp (kp (kp (kp rfl rfl) rfl) rfl) rfl) (by rw [hf0]; rfl)) (by rw [hf0]; rfl)) rfl).symm, hH, by rw [hf0]; exact ld_new hn1 hn7, fun j h1 h2 => by rw [hf j (by omega)]; exact fo_new hn7 h2, by rw [hf0]; exact Nat.le_refl _, by omega, by omega, rfl⟩
        rintro m S ⟨T, M', f, i, rfl, hH, hL, hF, hli, hi60, hi, rfl⟩
        refine s_seq ?_
        refine s_seq ?_
        refine s_region ?_
        refine o_q (q_mv (v_raw rfl)) rfl rfl rfl ?_
        refine o_q (q_mv (v_sl rfl)) rfl rfl rfl ?_
        refine o_q (q_len rfl und22 rfl) rfl rfl rfl ?_
        refine o_q (q_lss rfl rfl) rfl rfl rfl ?_
        refine o_q (q_mv (v_raw rfl)) rfl rfl rfl ?_
        refine o_cases (want := true) (j := 4) rfl rfl (fun h3 => ?_) (fun h3 => ?_)
        · have k3 := h3; try simp only [decide_eq_true_eq, decide_eq_false_iff_not, Bool.not_eq_true', Bool.not_eq_false', Bool.not_true, Bool.not_false, List.length_map, Decidable.not_not] at k3
          refine o_yes rfl rfl rfl h3 ?_
          refine o_q (q_mv (v_raw rfl)) rfl rfl rfl ?_
          refine o_yes rfl rfl rfl h3 ?_
          refine o_q (q_lss rfl rfl) rfl rfl rfl ?_
          refine o_q (q_pick_c (t := true) rfl h3 (v_raw rfl)) rfl rfl rfl ?_
          refine o_nil ?_
          refine s_cond rfl (fun h4 => ?_) (fun h4 => ?_)
          · have k4 := h4; try simp only [decide_eq_true_eq, decide_eq_false_iff_not, Bool.not_eq_true', Bool.not_eq_false', Bool.not_true, Bool.not_false, List.length_map, Decidable.not_not] at k4
            have hsi := hsz l[i] (List.getElem_mem _)
            have hlp := ld_prop hn1 hn7 hL hsi
            have hto := hL.fits
            have htn := tot_nn (f 0).log
            have hne : (decide ((propO (f 0) l[i]).2.2 = 0) != decide (tot (f 0).log + (l[i].size : Int) + 4 ≤ 45000)) = false := by
              by_cases e : tot (f 0).log + (l[i].size : Int) + 4 ≤ 45000
              · rw [decide_eq_true e, (hlp.1 e).2.2]; rfl
              · rw [decide_eq_false e, hlp.2 e]; rfl
            have hat : tot (f 0).log + (l[i].size : Int) + 4 ≤ 45000 → (propO (f 0) l[i]).2.1 = (f 0).log.length := fun e => by rw [(hlp.1 e).2.2]
            refine s_skip ?_
            refine s_seq ?_
            refine s_block ?_
            refine s_seq ?_
            refine s_draw rfl ?_
            refine d_q rfl (q_mv (v_sl rfl)) rfl rfl rfl ?_
            refine d_q rfl (q_idx und26 sz27 rfl rfl (by omega) (gm 0 (by first | omega | simp)) rfl) rfl rfl rfl ?_
            refine d_q rfl (q_ld ag27 sz27 rfl (gm 0 (by first | omega | simp)) rfl ((by first | exact v_raw rfl | exact v_sptr rfl))) rfl rfl rfl ?_
            refine d_q rfl (q_mv (v_sl rfl)) rfl rfl rfl ?_
            refine d_q rfl (q_mv (v_raw rfl)) rfl rfl rfl ?_
            refine d_q rfl (q_idx und22 sz9 rfl rfl (by omega) (gm i (by first | omega | simp)) rfl) rfl rfl rfl ?_
            refine d_q rfl (q_ld ag9 sz9 rfl (gm i (by first | omega | simp)) rfl (v_raw rfl)) rfl rfl rfl ?_
            refine d_s rfl ?_
            refine o_callx ((prop10 (hH.hb 0 (by omega)) hL.ok hsi (by omega))) goes10 (ac ((by first | exact v_raw rfl | exact v_sptr rfl)) (ac (v_raw rfl) ac_nil)) rfl ?_
            rintro r M' ⟨rfl, rfl⟩
            refine o_nil ⟨(by simp [Mem.upd, *]), ?_⟩
            refine d_q rfl (q_mv (v_tup rfl)) rfl rfl rfl ?_
            refine d_q rfl (q_ext rfl rfl (v_raw rfl)) rfl rfl rfl ?_
            refine d_q rfl (q_ext rfl rfl (v_raw rfl)) rfl rfl rfl ?_
            refine d_q rfl (q_as (v_raw rfl)) rfl rfl rfl ?_
            refine d_q rfl (q_as (v_raw rfl)) rfl rfl rfl ?_
            refine d_nil ?_
            refine s_seq ?_
            refine s_region ?_
            refine o_q (q_mv (v_raw rfl)) rfl rfl rfl ?_
            refine o_q (q_mv (v_sl rfl)) rfl rfl rfl ?_
            refine o_q (q_mv (v_raw rfl)) rfl rfl rfl ?_
            refine o_q (q_idx und22 sz9 rfl rfl (by omega) (gm i (by first | omega | simp)) rfl) rfl rfl rfl ?_
            refine o_q (q_ld ag9 sz9 rfl (gm i (by first | omega | simp)) rfl (v_raw rfl)) rfl rfl rfl ?_
            refine o_q (q_lens rfl und9 rfl) rfl rfl rfl ?_
            refine o_q (q_add rfl rfl (wrap64 (by omega) (by omega))) rfl rfl rfl ?_
            refine o_q (q_add rfl rfl (wrap64 (by omega) (by omega))) rfl rfl rfl ?_
            refine o_q (q_leq rfl rfl) rfl rfl rfl ?_
            refine o_q (q_as (v_raw rfl)) rfl rfl rfl ?_
            refine o_nil ?_
            refine s_seq ?_
            refine s_seq ?_
            refine s_region ?_
            refine o_q (q_mv (v_raw rfl)) rfl rfl rfl ?_
            refine o_q (q_eql rfl rfl) rfl rfl rfl ?_
            refine o_q (q_mv (v_raw rfl)) rfl rfl rfl ?_
            refine o_q (q_bneq und4 rfl rfl) rfl rfl rfl ?_
            refine o_q (q_mv (v_raw rfl)) rfl rfl rfl ?_
            refine o_yes rfl rfl rfl hne ?_
            refine o_q (q_mv (v_raw rfl)) rfl rfl rfl ?_
            refine o_yes rfl rfl rfl hne ?_
            refine o_q (q_mv (v_raw rfl)) rfl rfl rfl ?_
            refine o_cases (want := true) (j := 6) rfl rfl (fun h5 => ?_) (fun h5 => ?_)
            · have k5 := h5; try simp only [decide_eq_true_eq, decide_eq_false_iff_not, Bool.not_eq_true', Bool.not_eq_false', Bool.not_true, Bool.not_false, List.length_map, Decidable.not_not] at k5
              refine o_yes rfl rfl rfl h5 ?_
              refine o_q (q_mv (v_raw rfl)) rfl rfl rfl ?_
              refine o_yes rfl rfl rfl h5 ?_
              refine o_q (q_mv (v_raw rfl)) rfl rfl rfl ?_
              refine o_yes rfl rfl rfl h5 ?_
              refine o_q (q_neq rfl rfl) rfl rfl rfl ?_
              refine o_yes rfl rfl rfl hne ?_
              refine o_q (q_pick_c (t := true) rfl h5 (v_raw rfl)) rfl rfl rfl ?_
              refine o_q (q_pick_c (t := false) rfl hne (v_raw rfl)) rfl rfl rfl ?_
              refine o_nil ?_
              refine s_cond rfl (fun h6 => ?_) (fun h6 => ?_)
              · have k6 := h6; try simp only [decide_eq_true_eq, decide_eq_false_iff_not, Bool.not_eq_true', Bool.not_eq_false', Bool.not_true, Bool.not_false, List.length_map, Decidable.not_not] at k6
                first | exact absurd h6 (by decide) | exact absurd (hat (by assumption)) k6
              · have k6 := h6; try simp only [decide_eq_true_eq, decide_eq_false_iff_not, Bool.not_eq_true', Bool.not_eq_false', Bool.not_true, Bool.not_false, List.length_map, Decidable.not_not] at k6
                refine s_skip ?_
                refine s_seq ?_
                refine s_region ?_
                refine o_q (q_mv (v_raw rfl)) rfl rfl rfl ?_
                refine o_nil ?_
                refine s_cond rfl (fun h7 => ?_) (fun h7 => ?_)
                · have k7 := h7; try simp only [decide_eq_true_eq, decide_eq_false_iff_not, Bool.not_eq_true', Bool.not_eq_false', Bool.not_true, Bool.not_false, List.length_map, Decidable.not_not] at k7
                  refine s_seq ?_
                  refine s_region ?_
                  refine o_q (q_mv (v_raw rfl)) rfl rfl rfl ?_
                  refine o_q (q_mv (v_sl rfl)) rfl rfl rfl ?_
                  refine o_q (q_mv (v_raw rfl)) rfl rfl rfl ?_
                  refine o_q (q_idx und22 sz9 rfl rfl (by omega) (gm i (by first | omega | simp)) rfl) rfl rfl rfl ?_
                  refine o_q (q_ld ag9 sz9 rfl (gm i (by first | omega | simp)) rfl (v_raw rfl)) rfl rfl rfl ?_
                  refine o_q (q_lens rfl und9 rfl) rfl rfl rfl ?_
                  refine o_q (q_add rfl rfl (wrap64 (by omega) (by omega))) rfl rfl rfl ?_
                  refine o_q (q_add rfl rfl (wrap64 (by omega) (by omega))) rfl rfl rfl ?_
                  refine o_q (q_as (v_raw rfl)) rfl rfl rfl ?_
                  refine o_nil ?_
                  refine s_region ?_
                  refine o_q (q_mv (v_raw rfl)) rfl rfl rfl ?_
                  refine o_q (q_add rfl rfl (wrap64 (by omega) (by omega))) rfl rfl rfl ?_
                  refine o_q (q_as (v_raw rfl)) rfl rfl rfl ?_
                  refine o_nil ?_
                  refine s_blk_normal ?_
                  refine s_region ?_
                  refine o_q (q_mv (v_raw rfl)) rfl rfl rfl ?_
                  refine o_q (q_add rfl rfl (wrap64 (by omega) (by omega))) rfl rfl rfl ?_
                  refine o_q (q_as (v_raw rfl)) rfl rfl rfl ?_
                  refine o_nil ?_
                  refine s_inv ?_
                  have hq := hlp.1 (by assumption)
                  exact ⟨l.length - (i + 1), by omega, _, _, st f 0 (propO (f 0) l[i]).1, i + 1, St.mkT (kp (kp (kp (kp (kp (kp (kp rfl rfl) rfl) rfl) rfl) (congrArg int (by rw [st_same, hq.2.1, tot_app, tot_one]; omega))) (congrArg int (by rw [st_same, hq.2.1, List.length_append, List.length_singleton]; omega))) rfl).symm, hH.upd (by omega) _, by rw [st_same]; exact hq.1, fun j h1 h2 => by rw [st_ne (by omega)]; exact hF j h1 h2, by rw [st_same, hq.2.1, List.length_append, List.length_singleton]; omega, by omega, by omega, rfl⟩
                · have k7 := h7; try simp only [decide_eq_true_eq, decide_eq_false_iff_not, Bool.not_eq_true', Bool.not_eq_false', Bool.not_true, Bool.not_false, List.length_map, Decidable.not_not] at k7
                  refine s_skip ?_
                  refine s_blk_normal ?_
                  refine s_region ?_
                  refine o_q (q_mv (v_raw rfl)) rfl rfl rfl ?_
                  refine o_q (q_add rfl rfl (wrap64 (by omega) (by omega))) rfl rfl rfl ?_
                  refine o_q (q_as (v_raw rfl)) rfl rfl rfl ?_
                  refine o_nil ?_
                  refine s_inv ?_
                  exfalso; omega
            · have k5 := h5; try simp only [decide_eq_true_eq, decide_eq_false_iff_not, Bool.not_eq_true', Bool.not_eq_false', Bool.not_true, Bool.not_false, List.length_map, Decidable.not_not] at k5
              refine o_no rfl rfl rfl rfl h5 ?_
              refine o_no rfl rfl rfl rfl h5 ?_
              refine o_no rfl rfl rfl rfl h5 ?_
              refine o_yes rfl rfl rfl hne ?_
              refine o_q (q_pick_c (t := false) rfl h5 (v_raw rfl)) rfl rfl rfl ?_
              refine o_q (q_pick_c (t := false) rfl hne (v_raw rfl)) rfl rfl rfl ?_
              refine o_nil ?_
              refine s_else rfl rfl ?_
              refine s_skip ?_
              refine s_seq ?_
              refine s_region ?_
              refine o_q (q_mv (v_raw rfl)) rfl rfl rfl ?_
              refine o_nil ?_
              refine s_cond rfl (fun h8 => ?_) (fun h8 => ?_)
              · have k8 := h8; try simp only [decide_eq_true_eq, decide_eq_false_iff_not, Bool.not_eq_true', Bool.not_eq_false', Bool.not_true, Bool.not_false, List.length_map, Decidable.not_not] at k8
                refine s_seq ?_
                refine s_region ?_
                refine o_q (q_mv (v_raw rfl)) rfl rfl rfl ?_
                refine o_q (q_mv (v_sl rfl)) rfl rfl rfl ?_
                refine o_q (q_mv (v_raw rfl)) rfl rfl rfl ?_
                refine o_q (q_idx und22 sz9 rfl rfl (by omega) (gm i (by first | omega | simp)) rfl) rfl rfl rfl ?_
                refine o_q (q_ld ag9 sz9 rfl (gm i (by first | omega | simp)) rfl (v_raw rfl)) rfl rfl rfl ?_
                refine o_q (q_lens rfl und9 rfl) rfl rfl rfl ?_
                refine o_q (q_add rfl rfl (wrap64 (by omega) (by omega))) rfl rfl rfl ?_
                refine o_q (q_add rfl rfl (wrap64 (by omega) (by omega))) rfl rfl rfl ?_
                refine o_q (q_as (v_raw rfl)) rfl rfl rfl ?_
                refine o_nil ?_
                refine s_region ?_
                refine o_q (q_mv (v_raw rfl)) rfl rfl rfl ?_
                refine o_q (q_add rfl rfl (wrap64 (by omega) (by omega))) rfl rfl rfl ?_
                refine o_q (q_as (v_raw rfl)) rfl rfl rfl ?_
                refine o_nil ?_
                refine s_blk_normal ?_
                refine s_region ?_
                refine o_q (q_mv (v_raw rfl)) rfl rfl rfl ?_
                refine o_q (q_add rfl rfl (wrap64 (by omega) (by omega))) rfl rfl rfl ?_
                refine o_q (q_as (v_raw rfl)) rfl rfl rfl ?_
                refine o_nil ?_
                refine s_inv ?_
                exfalso; omega
              · have k8 := h8; try simp only [decide_eq_true_eq, decide_eq_false_iff_not, Bool.not_eq_true', Bool.not_eq_false', Bool.not_true, Bool.not_false, List.length_map, Decidable.not_not] at k8
                refine s_skip ?_
                refine s_blk_normal ?_
                refine s_region ?_
                refine o_q (q_mv (v_raw rfl)) rfl rfl rfl ?_
                refine o_q (q_add rfl rfl (wrap64 (by omega) (by omega))) rfl rfl rfl ?_
                refine o_q (q_as (v_raw rfl)) rfl rfl rfl ?_
                refine o_nil ?_
                refine s_inv ?_
                have hq := hlp.2 (by assumption)
                have e1 : (propO (f 0) l[i]).1 = f 0 := by rw [hq]
                exact ⟨l.length - (i + 1), by omega, _, _, st f 0 (propO (f 0) l[i]).1, i + 1, St.mkT (kp (kp (kp (kp (kp (kp (kp rfl rfl) rfl) rfl) rfl) (congrArg int (by rw [st_same, e1]))) (congrArg int (by rw [st_same, e1]))) rfl).symm, hH.upd (by omega) _, by rw [st_same, e1]; exact hL, fun j h1 h2 => by rw [st_ne (by omega)]; exact hF j h1 h2, by rw [st_same, e1]; omega, by omega, by omega, rfl⟩
          · have k4 := h4; try simp only [decide_eq_true_eq, decide_eq_false_iff_not, Bool.not_eq_true', Bool.not_eq_false', Bool.not_true, Bool.not_false, List.length_map, Decidable.not_not] at k4
            refine s_exit ?_
            refine s_code_exit ?_
            refine s_inv_exit ?_
            refine s_blk_here ?_
            refine s_inv ?_
            exact ⟨_, _, f, St.mkT (kp (kp (kp (kp (kp rfl rfl) rfl) rfl) rfl) rfl).symm, hH, hL, hF, by omega⟩
        · have k3 := h3; try simp only [decide_eq_true_eq, decide_eq_false_iff_not, Bool.not_eq_true', Bool.not_eq_false', Bool.not_true, Bool.not_false, List.length_map, Decidable.not_not] at k3
          refine o_no rfl rfl rfl rfl h3 ?_
          refine o_no rfl rfl rfl rfl h3 ?_
          refine o_q (q_pick_c (t := false) rfl h3 (v_raw rfl)) rfl rfl rfl ?_
          refine o_nil ?_
          refine s_else rfl rfl ?_
          refine s_exit ?_
          refine s_code_exit ?_
          refine s_inv_exit ?_
          refine s_blk_here ?_
          refine s_inv ?_
          exact ⟨_, _, f, St.mkT (kp (kp (kp (kp (kp rfl rfl) rfl) rfl) rfl) rfl).symm, hH, hL, hF, by omega⟩
      rintro S ⟨T, M', f, rfl, hH, hL, hF, hl60⟩
      obtain ⟨lg, hlg⟩ : ∃ lg, (f 0).log = lg := ⟨_, rfl⟩
      rw [hlg] at hl60 ⊢
      refine s_seq ?_
      refine s_seq ?_
      refine s_region ?_
      refine o_q (q_as (v_raw rfl)) rfl rfl rfl ?_
      refine o_nil ?_
      refine s_block ?_
      refine s_loop (fun m S => ∃ T, ∃ M' : Mem, ∃ f : Nat → Od, ∃ w : Nat, S = ⟨setT (setT (setT (setT (setT (setT T 5 (bool true)) 6 (int (n : Nat))) 9 (.sl (bs.map ptr) true)) 13 (int (tot lg))) 14 (int (lg.length : Nat))) 19 (int (w : Nat)), M'⟩ ∧ Hp M M' bs f ∧ Ld n w (f 0) ∧ (f 0).log = lg ∧ (∀ j, 0 < j → j < n → Fo n (if j < w then lg else []) 0 j (f j)) ∧ 1 ≤ w ∧ w ≤ n ∧ m = n - w) (n - 1) ?_ ?_
      · exact ⟨_, _, f, 1, St.mkT (kp (kp (kp (kp (kp (kp rfl rfl) rfl) rfl) rfl) rfl) rfl).symm, hH, hL, hlg, fun j h1 h2 => by rw [if_neg (by omega)]; exact hF j h1 h2, by omega, by omega, rfl⟩
      rintro m S ⟨T, M', f, w, rfl, hH, hL, hlg, hF, hw1, hwn, rfl⟩
      refine s_seq ?_
      refine s_seq ?_
      refine s_region ?_
      refine o_q (q_mv (v_raw rfl)) rfl rfl rfl ?_
      refine o_q (q_mv (v_raw rfl)) rfl rfl rfl ?_
      refine o_q (q_lss rfl rfl) rfl rfl rfl ?_
      refine o_nil ?_
      refine s_cond rfl (fun h9 => ?_) (fun h9 => ?_)
      · have k9 := h9; try simp only [decide_eq_true_eq, decide_eq_false_iff_not, Bool.not_eq_true', Bool.not_eq_false', Bool.not_true, Bool.not_false, List.length_map, Decidable.not_not] at k9
        refine s_skip ?_
        refine s_seq ?_
        refine s_block ?_
        refine s_seq ?_
        refine s_region ?_
        refine o_q (q_mv (v_sl rfl)) rfl rfl rfl ?_
        refine o_q (q_idx und26 sz27 rfl rfl (by omega) (gm 0 (by first | omega | simp)) rfl) rfl rfl rfl ?_
        refine o_q (q_ld ag27 sz27 rfl (gm 0 (by first | omega | simp)) rfl ((by first | exact v_raw rfl | exact v_sptr rfl))) rfl rfl rfl ?_
        refine o_q (q_mv (v_raw rfl)) rfl rfl rfl ?_
        refine o_call ((wantsE (ld_wants hw1 (by omega) hL (by rw [hlg]; omega)) (hH.hb 0 (by omega)) hL.ok (by rw [hlg]; omega))) goes11 (ac ((by first | exact v_raw rfl | exact v_sptr rfl)) (ac (v_raw rfl) (ac (v_raw rfl) ac_nil))) rfl ?_
        refine o_q (q_mv (v_tup rfl)) rfl rfl rfl ?_
        refine o_q (q_ext rfl rfl (v_raw rfl)) rfl rfl rfl ?_
        refine o_q (q_ext rfl rfl (v_sl rfl)) rfl rfl rfl ?_
        refine o_q (q_as (v_raw rfl)) rfl rfl rfl ?_
        refine o_q (q_as (v_sl rfl)) rfl rfl rfl ?_
        refine o_nil ?_
        refine s_seq ?_
        refine s_seq ?_
        refine s_region ?_
        refine o_q (q_as (v_raw rfl)) rfl rfl rfl ?_
        refine o_nil ?_
        refine s_block ?_
        refine s_loop (fun m S => ∃ T, ∃ M' : Mem, ∃ g : Nat → Od, ∃ k : Nat, S = ⟨setT (setT (setT (setT (setT (setT (setT (setT (setT T 5 (bool true)) 6 (int (n : Nat))) 9 (.sl (bs.map ptr) true)) 13 (int (tot lg))) 14 (int (lg.length : Nat))) 19 (int (w : Nat))) 20 (int 0)) 21 (.sl (lg.map str) false)) 22 (int (k : Nat)), M'⟩ ∧ Hp M M' bs g ∧ g 0 = f 0 ∧ Fo n (lg.take k) 0 w (g w) ∧ (∀ j, 0 < j → j < n → j ≠ w → g j = f j) ∧ k ≤ lg.length ∧ m = lg.length - k) lg.length ?_ ?_
        · exact ⟨_, _, f, 0, (by rw [hlg]; exact St.mkT (kp (kp (kp (kp (kp (kp (kp (kp (kp rfl rfl) rfl) rfl) rfl) rfl) rfl) rfl) rfl) rfl).symm), hH, rfl, by have h := hF w (by omega) (by omega); rw [if_neg (by omega)] at h; exact h, fun _ _ _ _ => rfl, by omega, rfl⟩
        rintro m S ⟨T, M', g, k, rfl, hH, hg0, hgw, hgj, hk, rfl⟩
        refine s_seq ?_
        refine s_seq ?_
        refine s_region ?_
        refine o_q (q_mv (v_raw rfl)) rfl rfl rfl ?_
        refine o_q (q_mv (v_sl rfl)) rfl rfl rfl ?_
        refine o_q (q_len rfl und22 rfl) rfl rfl rfl ?_
        refine o_q (q_lss rfl rfl) rfl rfl rfl ?_
        refine o_nil ?_
        refine s_cond rfl (fun h10 => ?_) (fun h10 => ?_)
        · have k10 := h10; try simp only [decide_eq_true_eq, decide_eq_false_iff_not, Bool.not_eq_true', Bool.not_eq_false', Bool.not_true, Bool.not_false, List.length_map, Decidable.not_not] at k10
          refine s_skip ?_
          refine s_seq ?_
          refine s_block ?_
          refine s_draw rfl ?_
          refine d_q rfl (q_mv (v_sl rfl)) rfl rfl rfl ?_
          refine d_q rfl (q_mv (v_raw rfl)) rfl rfl rfl ?_
          refine d_q rfl (q_idx und26 sz27 rfl rfl (by omega) (gm w (by first | omega | simp)) rfl) rfl rfl rfl ?_
          refine d_q rfl (q_ld ag27 sz27 rfl (gm w (by first | omega | simp)) rfl ((by first | exact v_raw rfl | exact v_sptr rfl))) rfl rfl rfl ?_
          refine d_q rfl (q_mv (v_raw rfl)) rfl rfl rfl ?_
          refine d_q rfl (q_mv (v_raw rfl)) rfl rfl rfl ?_
          refine d_q rfl (q_add rfl rfl (wrap64 (by omega) (by omega))) rfl rfl rfl ?_
          refine d_q rfl (q_mv (v_sl rfl)) rfl rfl rfl ?_
          refine d_q rfl (q_mv (v_raw rfl)) rfl rfl rfl ?_
          refine d_q rfl (q_idx und22 sz9 rfl rfl (by omega) (gm k (by first | omega | simp)) rfl) rfl rfl rfl ?_
          refine d_q rfl (q_ld ag9 sz9 rfl (gm k (by first | omega | simp)) rfl (v_raw rfl)) rfl rfl rfl ?_
          refine d_s rfl ?_
          refine o_callx ((add12 (hH.hb w (by omega)) hgw.ok (by have := tot_take (l := lg) (k := k) (by omega); have := tot_nn (lg.take k); have := hL.fits; rw [hlg] at this; omega) (by rw [hgw.log, List.length_take]; omega))) goes12 (ac ((by first | exact v_raw rfl | exact v_sptr rfl)) (ac (v_raw rfl) (ac (v_raw rfl) ac_nil))) rfl ?_
          rintro r M' ⟨rfl, rfl⟩
          refine o_nil ⟨(by simp [Mem.upd, *]), ?_⟩
          refine d_nil ?_
          refine s_blk_normal ?_
          refine s_region ?_
          refine o_q (q_mv (v_raw rfl)) rfl rfl rfl ?_
          refine o_q (q_add rfl rfl (wrap64 (by omega) (by omega))) rfl rfl rfl ?_
          refine o_q (q_as (v_raw rfl)) rfl rfl rfl ?_
          refine o_nil ?_
          refine s_inv ?_
          exact ⟨lg.length - (k + 1), by omega, _, _, st g w (addO (g w) (0 + (k : Int)) lg[k]).1, k + 1, St.mkT (kp (kp (kp (kp (kp (kp (kp (kp (kp rfl rfl) rfl) rfl) rfl) rfl) rfl) rfl) rfl) rfl).symm, hH.upd (by omega) _, by rw [st_ne (by omega)]; exact hg0, by rw [st_same, Int.zero_add]; exact fo_add (by omega) (by omega) hgw (by omega) (by have := hL.fits; rw [hlg] at this; exact this), fun j h1 h2 h3 => by rw [st_ne h3]; exact hgj j h1 h2 h3, by omega, rfl⟩
        · have k10 := h10; try simp only [decide_eq_true_eq, decide_eq_false_iff_not, Bool.not_eq_true', Bool.not_eq_false', Bool.not_true, Bool.not_false, List.length_map, Decidable.not_not] at k10
          refine s_exit ?_
          refine s_code_exit ?_
          refine s_inv_exit ?_
          refine s_blk_here ?_
          refine s_draw rfl ?_
          refine d_q rfl (q_mv (v_sl rfl)) rfl rfl rfl ?_
          refine d_q rfl (q_idx und26 sz27 rfl rfl (by omega) (gm 0 (by first | omega | simp)) rfl) rfl rfl rfl ?_
          refine d_q rfl (q_ld ag27 sz27 rfl (gm 0 (by first | omega | simp)) rfl ((by first | exact v_raw rfl | exact v_sptr rfl))) rfl rfl rfl ?_
          refine d_q rfl (q_mv (v_raw rfl)) rfl rfl rfl ?_
          refine d_q rfl (q_mv (v_sl rfl)) rfl rfl rfl ?_
          refine d_q rfl (q_mv (v_raw rfl)) rfl rfl rfl ?_
          refine d_q rfl (q_idx und26 sz27 rfl rfl (by omega) (gm w (by first | omega | simp)) rfl) rfl rfl rfl ?_
          refine d_q rfl (q_ld ag27 sz27 rfl (gm w (by first | omega | simp)) rfl ((by first | exact v_raw rfl | exact v_sptr rfl))) rfl rfl rfl ?_
          refine d_s rfl ?_
          refine o_call ((lenE (o := g w) (n := lg.length) (by rw [hgw.log, List.take_of_length_le (by omega)]) (hH.hb w (by omega)))) goes14 (ac ((by first | exact v_raw rfl | exact v_sptr rfl)) ac_nil) rfl ?_
          refine o_nil ⟨(by simp [Mem.upd, *]), ?_⟩
          refine d_s rfl ?_
          refine o_callx ((has13 (hH.hb 0 (by omega)) (by rw [hg0]; exact hL.ok))) goes13 (ac ((by first | exact v_raw rfl | exact v_sptr rfl)) (ac (v_raw rfl) (ac (v_raw rfl) ac_nil))) rfl ?_
          rintro r M' ⟨rfl, rfl⟩
          refine o_nil ⟨(by simp [Mem.upd, *]), ?_⟩
          refine d_nil ?_
          refine s_blk_normal ?_
          refine s_region ?_
          refine o_q (q_mv (v_raw rfl)) rfl rfl rfl ?_
          refine o_q (q_add rfl rfl (wrap64 (by omega) (by omega))) rfl rfl rfl ?_
          refine o_q (q_as (v_raw rfl)) rfl rfl rfl ?_
          refine o_nil ?_
          refine s_inv ?_
          have hh := ld_has hw1 (by omega) hn7 hL
          rw [hlg] at hh
          exact ⟨n - (w + 1), by omega, _, _, st g 0 (hasO (g 0) w lg.length).1, w + 1, St.mkT (kp (kp (kp (kp (kp (kp rfl rfl) rfl) rfl) rfl) rfl) rfl).symm, hH.upd (by omega) _, by rw [st_same, hg0]; exact hh.1, by rw [st_same, hg0]; exact hh.2, fun j h1 h2 => by (rw [st_ne (by omega)]; by_cases e : j = w; (subst e; rw [if_pos (by omega)]; rw [List.take_of_length_le (by omega)] at hgw; exact hgw); (rw [hgj j h1 h2 e]; have h := hF j h1 h2; by_cases e2 : j < w; (rw [if_pos e2] at h; rw [if_pos (by omega)]; exact h); (rw [if_neg e2] at h; rw [if_neg (by omega)]; exact h))), by omega, by omega, rfl⟩
      · have k9 := h9; try simp only [decide_eq_true_eq, decide_eq_false_iff_not, Bool.not_eq_true', Bool.not_eq_false', Bool.not_true, Bool.not_false, List.length_map, Decidable.not_not] at k9
        refine s_exit ?_
        refine s_code_exit ?_
        refine s_inv_exit ?_
        refine s_blk_here ?_
        refine s_seq ?_
        refine s_seq ?_
        refine s_region ?_
        refine o_q (q_as (v_raw rfl)) rfl rfl rfl ?_
        refine o_nil ?_
        refine s_block ?_
        refine s_loop (fun m S => ∃ T, ∃ M' : Mem, ∃ f : Nat → Od, ∃ w : Nat, S = ⟨setT (setT (setT (setT (setT (setT T 5 (bool true)) 6 (int (n : Nat))) 9 (.sl (bs.map ptr) true)) 13 (int (tot lg))) 14 (int (lg.length : Nat))) 23 (int (w : Nat)), M'⟩ ∧ Hp M M' bs f ∧ Ld n n (f 0) ∧ (f 0).log = lg ∧ (∀ j, 0 < j → j < n → Fo n lg (if j < w then (lg.length : Int) else 0) j (f j)) ∧ 1 ≤ w ∧ w ≤ n ∧ m = n - w) (n - 1) ?_ ?_
        · obtain rfl : n = w := by omega
          exact ⟨_, _, f, 1, St.mkT (kp (kp (kp (kp (kp (kp rfl rfl) rfl) rfl) rfl) rfl) rfl).symm, hH, hL, hlg, fun j h1 h2 => by rw [if_neg (by omega)]; have h := hF j h1 h2; rw [if_pos h2] at h; exact h, by omega, by omega, rfl⟩
        rintro m S ⟨T, M', f, w, rfl, hH, hL, hlg, hF, hw1, hwn, rfl⟩
        refine s_seq ?_
        refine s_seq ?_
        refine s_region ?_
        refine o_q (q_mv (v_raw rfl)) rfl rfl rfl ?_
        refine o_q (q_mv (v_raw rfl)) rfl rfl rfl ?_
        refine o_q (q_lss rfl rfl) rfl rfl rfl ?_
        refine o_nil ?_
        refine s_cond rfl (fun h11 => ?_) (fun h11 => ?_)
        · have k11 := h11; try simp only [decide_eq_true_eq, decide_eq_false_iff_not, Bool.not_eq_true', Bool.not_eq_false', Bool.not_true, Bool.not_false, List.length_map, Decidable.not_not] at k11
          refine s_skip ?_
          refine s_seq ?_
          refine s_block ?_
          refine s_draw rfl ?_
          refine d_q rfl (q_mv (v_sl rfl)) rfl rfl rfl ?_
          refine d_q rfl (q_mv (v_raw rfl)) rfl rfl rfl ?_
          refine d_q rfl (q_idx und26 sz27 rfl rfl (by omega) (gm w (by first | omega | simp)) rfl) rfl rfl rfl ?_
          refine d_q rfl (q_ld ag27 sz27 rfl (gm w (by first | omega | simp)) rfl ((by first | exact v_raw rfl | exact v_sptr rfl))) rfl rfl rfl ?_
          refine d_q rfl (q_mv (v_sl rfl)) rfl rfl rfl ?_
          refine d_q rfl (q_idx und26 sz27 rfl rfl (by omega) (gm 0 (by first | omega | simp)) rfl) rfl rfl rfl ?_
          refine d_q rfl (q_ld ag27 sz27 rfl (gm 0 (by first | omega | simp)) rfl ((by first | exact v_raw rfl | exact v_sptr rfl))) rfl rfl rfl ?_
          refine d_s rfl ?_
          refine o_call ((sureE (n := lg.length) (by rw [← hlg]; exact hL.sure rfl) (hH.hb 0 (by omega)))) goes16 (ac ((by first | exact v_raw rfl | exact v_sptr rfl)) ac_nil) rfl ?_
          refine o_nil ⟨(by simp [Mem.upd, *]), ?_⟩
          refine d_s rfl ?_
          refine o_callx ((learn15 (hH.hb w (by omega)) (hF w (by omega) (by omega)).ok)) goes15 (ac ((by first | exact v_raw rfl | exact v_sptr rfl)) (ac (v_raw rfl) ac_nil)) rfl ?_
          rintro r M' ⟨rfl, rfl⟩
          refine o_nil ⟨(by simp [Mem.upd, *]), ?_⟩
          refine d_nil ?_
          refine s_blk_normal ?_
          refine s_region ?_
          refine o_q (q_mv (v_raw rfl)) rfl rfl rfl ?_
          refine o_q (q_add rfl rfl (wrap64 (by omega) (by omega))) rfl rfl rfl ?_
          refine o_q (q_as (v_raw rfl)) rfl rfl rfl ?_
          refine o_nil ?_
          refine s_inv ?_
          exact ⟨n - (w + 1), by omega, _, _, st f w (learnO (f w) lg.length).1, w + 1, St.mkT (kp (kp (kp (kp (kp (kp rfl rfl) rfl) rfl) rfl) rfl) rfl).symm, hH.upd (by omega) _, by rw [st_ne (by omega)]; exact hL, by rw [st_ne (by omega)]; exact hlg, fun j h1 h2 => by (by_cases e : j = w; (subst e; rw [st_same, if_pos (by omega)]; have h := hF j h1 h2; rw [if_neg (by omega)] at h; exact fo_learn (by omega) h1 h); (rw [st_ne e]; have h := hF j h1 h2; by_cases e2 : j < w; (rw [if_pos e2] at h; rw [if_pos (by omega)]; exact h); (rw [if_neg e2] at h; rw [if_neg (by omega)]; exact h))), by omega, by omega, rfl⟩
        · have k11 := h11; try simp only [decide_eq_true_eq, decide_eq_false_iff_not, Bool.not_eq_true', Bool.not_eq_false', Bool.not_true, Bool.not_false, List.length_map, Decidable.not_not] at k11
          obtain rfl : n = w := by omega
          have hAll : ∀ i, i < n → (f i).sure = lg.length ∧ (f i).log = lg ∧ (f i).bytes = tot lg := fun i hi => by
            by_cases e : i = 0
            · subst e; exact ⟨by rw [← hlg]; exact hL.sure rfl, hlg, by rw [← hlg]; exact hL.bytes⟩
            · have h := hF i (by omega) hi
              rw [if_pos hi] at h
              exact ⟨h.sure, h.log, h.bytes⟩
          refine s_exit ?_
          refine s_code_exit ?_
          refine s_inv_exit ?_
          refine s_blk_here ?_
          refine s_seq ?_
          refine s_seq ?_
          refine s_region ?_
          refine o_q (q_as (v_raw rfl)) rfl rfl rfl ?_
          refine o_nil ?_
          refine s_block ?_
          refine s_loop (fun m S => ∃ T, ∃ i : Nat, S = ⟨setT (setT (setT (setT (setT (setT T 5 (bool true)) 6 (int (n : Nat))) 9 (.sl (bs.map ptr) true)) 13 (int (tot lg))) 14 (int (lg.length : Nat))) 24 (int (i : Nat)), M'⟩ ∧ i ≤ n ∧ m = n - i) n ?_ ?_
          · exact ⟨_, 0, St.mkT (kp (kp (kp (kp (kp (kp rfl rfl) rfl) rfl) rfl) rfl) rfl).symm, by omega, rfl⟩
          rintro m S ⟨T, i, rfl, hin, rfl⟩
          refine s_seq ?_
          refine s_seq ?_
          refine s_region ?_
          refine o_q (q_mv (v_raw rfl)) rfl rfl rfl ?_
          refine o_q (q_mv (v_raw rfl)) rfl rfl rfl ?_
          refine o_q (q_lss rfl rfl) rfl rfl rfl ?_
          refine o_nil ?_
          refine s_cond rfl (fun h12 => ?_) (fun h12 => ?_)
          · have k12 := h12; try simp only [decide_eq_true_eq, decide_eq_false_iff_not, Bool.not_eq_true', Bool.not_eq_false', Bool.not_true, Bool.not_false, List.length_map, Decidable.not_not] at k12
            refine s_skip ?_
            refine s_seq ?_
            refine s_block ?_
            refine s_seq ?_
            refine s_region ?_
            refine o_q (q_mv (v_sl rfl)) rfl rfl rfl ?_
            refine o_q (q_mv (v_raw rfl)) rfl rfl rfl ?_
            refine o_q (q_idx und26 sz27 rfl rfl (by omega) (gm i (by first | omega | simp)) rfl) rfl rfl rfl ?_
            refine o_q (q_ld ag27 sz27 rfl (gm i (by first | omega | simp)) rfl ((by first | exact v_raw rfl | exact v_sptr rfl))) rfl rfl rfl ?_
            refine o_call ((sureE (n := lg.length) (hAll i (by omega)).1 (hH.hb i (by omega)))) goes16 (ac ((by first | exact v_raw rfl | exact v_sptr rfl)) ac_nil) rfl ?_
            refine o_q (q_mv (v_raw rfl)) rfl rfl rfl ?_
            refine o_q (q_neq rfl rfl) rfl rfl rfl ?_
            refine o_q (q_mv (v_raw rfl)) rfl rfl rfl ?_
            refine o_yes rfl rfl rfl (by simp) ?_
            refine o_q (q_mv (v_sl rfl)) rfl rfl rfl ?_
            refine o_yes rfl rfl rfl (by simp) ?_
            refine o_q (q_mv (v_raw rfl)) rfl rfl rfl ?_
            refine o_yes rfl rfl rfl (by simp) ?_
            refine o_q (q_idx und26 sz27 rfl rfl (by omega) (gm i (by first | omega | simp)) rfl) rfl rfl rfl ?_
            refine o_yes rfl rfl rfl (by simp) ?_
            refine o_q (q_ld ag27 sz27 rfl (gm i (by first | omega | simp)) rfl ((by first | exact v_raw rfl | exact v_sptr rfl))) rfl rfl rfl ?_
            refine o_yes rfl rfl rfl (by simp) ?_
            refine o_call ((lenE (o := f i) (n := lg.length) (by rw [(hAll i (by omega)).2.1]) (hH.hb i (by omega)))) goes14 (ac ((by first | exact v_raw rfl | exact v_sptr rfl)) ac_nil) rfl ?_
            refine o_yes rfl rfl rfl (by simp) ?_
            refine o_q (q_mv (v_raw rfl)) rfl rfl rfl ?_
            refine o_yes rfl rfl rfl (by simp) ?_
            refine o_q (q_neq rfl rfl) rfl rfl rfl ?_
            refine o_q (q_pick_c (t := false) rfl (by simp) (v_raw rfl)) rfl rfl rfl ?_
            refine o_q (q_mv (v_raw rfl)) rfl rfl rfl ?_
            refine o_yes rfl rfl rfl (by simp) ?_
            refine o_q (q_mv (v_sl rfl)) rfl rfl rfl ?_
            refine o_yes rfl rfl rfl (by simp) ?_
            refine o_q (q_mv (v_raw rfl)) rfl rfl rfl ?_
            refine o_yes rfl rfl rfl (by simp) ?_
            refine o_q (q_idx und26 sz27 rfl rfl (by omega) (gm i (by first | omega | simp)) rfl) rfl rfl rfl ?_
            refine o_yes rfl rfl rfl (by simp) ?_
            refine o_q (q_ld ag27 sz27 rfl (gm i (by first | omega | simp)) rfl ((by first | exact v_raw rfl | exact v_sptr rfl))) rfl rfl rfl ?_
            refine o_yes rfl rfl rfl (by simp) ?_
            refine o_call ((bytesE (n := tot lg) (hAll i (by omega)).2.2 (hH.hb i (by omega)))) goes17 (ac ((by first | exact v_raw rfl | exact v_sptr rfl)) ac_nil) rfl ?_
            refine o_yes rfl rfl rfl (by simp) ?_
            refine o_q (q_mv (v_raw rfl)) rfl rfl rfl ?_
            refine o_yes rfl rfl rfl (by simp) ?_
            refine o_q (q_neq rfl rfl) rfl rfl rfl ?_
            refine o_q (q_pick_c (t := false) rfl (by simp) (v_raw rfl)) rfl rfl rfl ?_
            refine o_nil ?_
            refine s_else rfl (by simp) ?_
            refine s_skip ?_
            refine s_blk_normal ?_
            refine s_region ?_
            refine o_q (q_mv (v_raw rfl)) rfl rfl rfl ?_
            refine o_q (q_add rfl rfl (wrap64 (by omega) (by omega))) rfl rfl rfl ?_
            refine o_q (q_as (v_raw rfl)) rfl rfl rfl ?_
            refine o_nil ?_
            refine s_inv ?_
            exact ⟨n - (i + 1), by omega, _, i + 1, St.mkT (kp (kp (kp (kp (kp (kp rfl rfl) rfl) rfl) rfl) rfl) rfl).symm, by omega, rfl⟩
          · have k12 := h12; try simp only [decide_eq_true_eq, decide_eq_false_iff_not, Bool.not_eq_true', Bool.not_eq_false', Bool.not_true, Bool.not_false, List.length_map, Decidable.not_not] at k12
            refine s_exit ?_
            refine s_code_exit ?_
            refine s_inv_exit ?_
            refine s_blk_here ?_
            refine s_seq ?_
            refine s_region ?_
            refine o_q (q_mv (v_raw rfl)) rfl rfl rfl ?_
            refine o_q (q_as (v_raw rfl)) rfl rfl rfl ?_
            refine o_nil ?_
            refine s_ret ?_
            refine s_end ?_
            exact ⟨rfl, hH.le⟩
end C18
