import Derived.Test.YtkpenadcehnpjaaI18
import Derived.Test.YtkpenadcehnpjaaProg
/-! Chapter 18: orders: what their functions compute. -/
open Go Go.Proofs Go.Am
set_option linter.unusedVariables false
set_option linter.unusedSimpArgs false
set_option autoImplicit false
namespace C18
theorem und41 : Try.prog.underlying 41 = some (.pointer 50) := by kernel_rfl
def tk4 : Nat → Nat → Option Nat := fun _ _ => none
def pl4 : Nat → List PStep
  | 36 => [.q 0, .q 1, .q 2, .q 3, .q 4, .q 6, .q 7, .q 8, .q 9, .q 10, .s 5 [10, 9, 8, 7, 6, 3, 1], .s 11 [9, 7, 4, 3, 2, 1, 0], .q 12, .q 13]
  | 38 => [.q 0, .q 1, .q 2, .q 3, .q 4, .q 6, .q 7, .q 8, .q 9, .q 10, .s 5 [10, 9, 8, 7, 6, 3, 1], .s 11 [9, 7, 4, 3, 2, 1, 0], .q 12, .q 13]
  | 40 => [.q 0, .q 1, .q 2, .q 4, .q 5, .q 6, .s 3 [6, 5, 4, 1], .s 7 [5, 2, 1, 0], .q 8, .q 9]
  | 43 => [.q 0, .q 1, .q 2, .q 3, .q 4, .q 5, .q 6, .q 7, .q 9, .q 10, .q 11, .q 12, .q 13, .s 8 [13, 12, 11, 10, 9, 5, 4, 3, 2, 1, 0], .q 14, .q 15, .q 16, .q 17, .q 19, .s 18 [19, 15, 14, 13, 12, 11, 10, 9, 7, 6, 5, 4, 3, 2, 1, 0], .s 20 [17, 15, 14, 13, 12, 11, 10, 9, 7, 6, 5, 4, 3, 2, 1, 0], .q 21, .q 22, .q 23, .q 24, .q 26, .q 27, .q 28, .q 29, .s 25 [29, 28, 27, 26, 22, 21, 19, 17, 16, 15, 14, 13, 12, 11, 10, 9, 7, 6, 5, 4, 3, 2, 1, 0], .q 30, .q 31]
  | _ => []
theorem cb4 : Try.f4.body.map (codeB Try.prog Try.f4.ntmps tk4 pl4) = some true := by kernel_rfl
theorem goes4 : goesB Try.prog 4 = true := by kernel_rfl
-- carillon/carillonlaw18.OrderPlays params ['int', '[]int', '[]string', '[]carillonlaw18.Deed'] results [['t', 8]] own [] names ['0:self', '1:nodes', '2:log', '3:deeds', '4:self', '5:nodes', '6:log', '7:deeds', '9:head', '10:a', '11:b', '12:o', '13:e', '14:x', '15:i', '16:i', '17:i', '18:d', '19:good', '20:n', '21:f', '22:m', '23:g', '24:n', '25:l', '26:m', '27:k', '28:j', '29:l', '30:same', '31:j'] calls [7, 9, 18] paths 1

theorem wrap_wrap (a b : Int) : IntKind.i64.wrap (IntKind.i64.wrap a + b) = IntKind.i64.wrap (a + b) := by
  simp only [IntKind.wrap, IntKind.signed, IntKind.bits]
  simp
  omega
theorem sum_ref : ∀ (l : List ByteArray) (a : Int), l.foldl (fun a s => IntKind.i64.wrap (a + ((s.size : Int) + 4))) a = l.foldl (fun a s => IntKind.i64.wrap (IntKind.i64.wrap (a + s.size) + 4)) a
  | [], _ => rfl
  | s :: l, a => by
    rw [List.foldl_cons, List.foldl_cons, wrap_wrap, Int.add_assoc]
    exact sum_ref l _
theorem sumW_ref (l : List ByteArray) : sumW 0 l = refB l := sum_ref l 0
structure Rel (o : Od) (x : Rf) : Prop where
  ok : OK o
  rk : RK x
  nodes : x.nodes = o.nodes
  self : x.self = o.self
  log : x.log = o.log
  sure : x.sure = o.sure
  bytes : o.bytes = refB x.log
  had : ∀ v ∈ o.nodes, hadR x v = hv o v
  base : 0 ≤ x.base
theorem Rel.first {o : Od} {x : Rf} (h : Rel o x) : firstR x = firstO o := by unfold firstR firstO; rw [h.nodes, h.self]
theorem Rel.med {o : Od} {x : Rf} (h : Rel o x) : medR x = medO o := by
  unfold medR medO
  rw [h.nodes, List.map_congr_left h.had]
theorem Rel.other {o : Od} {x : Rf} (h : Rel o x) (v : Int) : otherR x v = otherO o v := by
  unfold otherR otherO
  rw [h.first, h.nodes, h.self]
  cases firstO o <;> simp [Bool.and_comm]
theorem Rel.settle {o : Od} {x : Rf} (h : Rel o x) : Rel (settleO o) (sureR x) :=
  ⟨settle_ok h.ok, h.rk.sure, h.nodes, h.self, h.log, by show max x.sure (medR x) = max o.sure (medO o); rw [h.sure, h.med], h.bytes, h.had, h.base⟩
theorem Rel.put {o : Od} {x : Rf} (h : Rel o x) {s : ByteArray} (hs : ¬ 45000 < addB o s) : Rel (putO o s).1 (appR x s) := by
  have hG : Gr o (putO o s).1 := put_gr h.ok
  have e : (putO o s).1 = ⟨o.self, o.nodes, o.log ++ [s], addB o s, o.sure, o.has.set o.self.toNat (o.log.length + 1 : Nat)⟩ := by unfold putO; rw [if_neg hs]
  refine ⟨hG.ok, h.rk.app s, by rw [e]; exact h.nodes, by rw [e]; exact h.self, by rw [e]; show x.log ++ [s] = o.log ++ [s]; rw [h.log], by rw [e]; exact h.sure, ?_, fun v hv => ?_, h.base⟩
  · rw [e]
    show addB o s = refB (x.log ++ [s])
    unfold addB refB
    rw [List.foldl_append, h.bytes, List.foldl_cons, List.foldl_nil, wrap_wrap, Int.add_assoc]; rfl
  · rw [e] at hv ⊢
    have hv' : v ∈ o.nodes := hv
    have h1 := hv_set (o := o) (v := o.self) (w := v) (n := (o.log.length + 1 : Nat)) h.ok.hse (h.ok.hnr v hv') h.ok.has
    show (if v = x.self then ((x.log ++ [s]).length : Int) else max x.base (x.has.getD v.toNat 0)) = (o.has.set o.self.toNat (o.log.length + 1 : Nat)).getD v.toNat 0
    rw [h1, h.self]
    have h2 := h.had v hv'
    unfold hadR at h2
    rw [h.self] at h2
    split
    · rw [h.log]; simp
    · rename_i e2; rw [if_neg e2] at h2; exact h2
theorem Rel.bytesR {o : Od} {x : Rf} (h : Rel o x) (s : ByteArray) : bytesR x s = addB o s := by
  unfold C18.bytesR addB
  rw [h.bytes, wrap_wrap, Int.add_assoc]
theorem Rel.prop {o : Od} {x : Rf} (h : Rel o x) (s : ByteArray) : (propO o s).2 = (propR x s).2 ∧ Rel (propO o s).1 (propR x s).1 := by
  unfold propO propR
  rw [h.first, h.bytesR]
  cases hf : firstO o with
  | false => exact ⟨rfl, h⟩
  | true =>
    by_cases hs : 45000 < addB o s
    · have e : putO o s = (o, false) := by unfold putO; rw [if_pos hs]
      rw [if_pos rfl, if_pos rfl, if_pos hs, if_neg (by rw [e]; simp)]
      exact ⟨rfl, h⟩
    · have e : (putO o s).2 = true := by unfold putO; rw [if_neg hs]
      rw [if_pos rfl, if_pos rfl, if_neg hs, if_pos e]
      exact ⟨by rw [h.log], (h.put hs).settle⟩
theorem Rel.add {o : Od} {x : Rf} (h : Rel o x) (i : Int) (s : ByteArray) : (addO o i s).2 = (addR x i s).2 ∧ Rel (addO o i s).1 (addR x i s).1 := by
  unfold addO addR
  rw [h.first, h.bytesR, h.log]
  by_cases hc : firstO o = false ∧ i = o.log.length
  · rw [if_pos hc]
    by_cases hs : 45000 < addB o s
    · rw [if_pos (.inr (.inr hs))]
      have e : putO o s = (o, false) := by unfold putO; rw [if_pos hs]
      rw [e]; exact ⟨rfl, h⟩
    · rw [if_neg (fun h' => by rcases h' with h' | h' | h'; (rw [hc.1] at h'; cases h'); exact h' hc.2; exact hs h')]
      exact ⟨by unfold putO; rw [if_neg hs], h.put hs⟩
  · rw [if_neg hc, if_pos (by
      by_cases hf : firstO o = true
      · exact .inl hf
      · exact .inr (.inl fun e => hc ⟨by simpa using hf, e⟩))]
    exact ⟨rfl, h⟩
theorem Rel.has {o : Od} {x : Rf} (h : Rel o x) (v n : Int) : (hasO o v n).2 = (hasR x v n).2 ∧ Rel (hasO o v n).1 (hasR x v n).1 := by
  unfold hasO hasR
  rw [h.other, h.log]
  by_cases hc : otherO o v = true ∧ 0 ≤ n ∧ n ≤ o.log.length
  · rw [if_pos hc, if_pos hc]
    have hm := other_mem hc.1
    have hoR : otherR x v = true := by rw [h.other]; exact hc.1
    have hvr := h.ok.hnr v hm.2.2
    refine ⟨rfl, Rel.settle ⟨?_, h.rk.set hoR (by rw [h.log]; exact hc.2.2), h.nodes, h.self, h.log, h.sure, h.bytes, fun w hw => ?_, h.base⟩⟩
    · refine ⟨h.ok.rise, h.ok.mem, by simp [setH, h.ok.has], fun w hw => ?_, h.ok.sure0, h.ok.sure1⟩
      show 0 ≤ (o.has.set v.toNat (max (hv o v) n)).getD w.toNat 0 ∧ (o.has.set v.toNat (max (hv o v) n)).getD w.toNat 0 ≤ o.log.length
      rw [hv_set hvr (h.ok.hnr w hw) h.ok.has]
      have := h.ok.hvb w hw; have := h.ok.hvb v hm.2.2
      split <;> omega
    · have hw' : w ∈ o.nodes := hw
      have hwr := h.ok.hnr w hw'
      show (if w = x.self then (x.log.length : Int) else max x.base ((x.has.set v.toNat (max (x.has.getD v.toNat 0) n)).getD w.toNat 0)) = (o.has.set v.toNat (max (hv o v) n)).getD w.toNat 0
      rw [getD_set hvr hwr h.rk.has, hv_set hvr hwr h.ok.has]
      have h1 := h.had w hw'; have h2 := h.had v hm.2.2
      unfold hadR at h1 h2
      rw [if_neg (by rw [h.self]; exact hm.2.1)] at h2
      by_cases e : w = x.self
      · rw [if_pos e] at h1 ⊢
        rw [if_neg (fun e2 => hm.2.1 (by rw [← e2, e, h.self]))]
        exact h1
      · rw [if_neg e] at h1 ⊢
        split
        · rename_i e2; subst e2; omega
        · exact h1
  · rw [if_neg hc, if_neg hc]
    exact ⟨rfl, h⟩
theorem Rel.learn {o : Od} {x : Rf} (h : Rel o x) (n : Int) : (learnO o n).2 = (learnR x n).2 ∧ Rel (learnO o n).1 (learnR x n).1 := by
  have hG : Gr o (learnO o n).1 := learn_gr h.ok
  unfold learnO learnR at *
  have hll : x.log.length = o.log.length := by rw [h.log]
  rw [h.first, hll, h.sure]
  by_cases hc : firstO o = false ∧ o.sure < min n o.log.length
  · rw [if_pos hc] at hG ⊢
    rw [if_pos hc]
    have := h.ok.sure0
    refine ⟨rfl, ⟨hG.ok, ⟨h.rk.ne, h.rk.nr, h.rk.n7, h.rk.has, by show 0 ≤ min n (o.log.length : Int); omega, by show min n (o.log.length : Int) ≤ x.log.length; rw [hll]; omega, h.rk.had⟩, h.nodes, h.self, h.log, rfl, h.bytes, h.had, h.base⟩⟩
  · rw [if_neg hc] at hG ⊢
    rw [if_neg hc]
    exact ⟨rfl, h⟩
theorem Rel.wants {o : Od} {x : Rf} (h : Rel o x) (v most : Int) : wantsR x v most = wantsO o v most := by
  unfold wantsR wantsO
  rw [h.other]
  by_cases hc : otherO o v = true
  · rw [if_pos hc, if_pos hc, h.had v (other_mem hc).2.2, h.log]
  · rw [if_neg hc, if_neg hc]
theorem Rel.new {self : Int} {nodes : List Int} {log : List ByteArray} (hok : okNew self nodes = true) : Rel (newO self nodes log) (newR self nodes log) := by
  have h1 := okNew_iff hok
  have hO := new_ok (log := log) hok
  have hhad : ∀ v ∈ nodes, hadR (newR self nodes log) v = log.length := fun v hv => by
    have hr := hO.hnr v hv
    have e0 : ([0, 0, 0, 0, 0, 0, 0] : List Int).getD v.toNat 0 = 0 := by
      obtain ⟨n, hn⟩ : ∃ n : Nat, v.toNat = n := ⟨_, rfl⟩
      rw [hn]
      match n, (by omega : n < 7) with
      | 0, _ => rfl
      | 1, _ => rfl
      | 2, _ => rfl
      | 3, _ => rfl
      | 4, _ => rfl
      | 5, _ => rfl
      | 6, _ => rfl
    show (if v = self then (log.length : Int) else max (log.length : Int) (([0, 0, 0, 0, 0, 0, 0] : List Int).getD v.toNat 0)) = log.length
    rw [e0]
    split <;> omega
  refine ⟨hO, ⟨hO.hn, hO.hnr, hO.h7, rfl, by show (0 : Int) ≤ log.length; omega, Int.le_refl _, fun v hv => by rw [hhad v hv]; exact Int.le_refl _⟩, rfl, rfl, rfl, rfl, sumW_ref log, fun v hv => by rw [hhad v hv, new_hv hok hv], by show (0 : Int) ≤ log.length; omega⟩
/-- What is known of memory while both are under way. -/
structure W4 (M M' : Mem) (y z h : Nat) (o : Od) (x : Rf) : Prop where
  le : M.le M'
  wy : M' y = some (.cells (odC o))
  wz : M' z = some (.cells (rfC h x))
  wh : M' h = some (.cells (hsC x))
  yz : y ≠ z
  yh : y ≠ h
  zh : z ≠ h
  my : M y = none
  mz : M z = none
  mh : M h = none
/-- A block beside them. -/
structure Bk (M M' : Mem) (y z h : Nat) (base : Option Addr) (n : Nat) : Prop where
  at_ : 0 < n → ∃ b l, base = some ⟨b, 0, none⟩ ∧ M' b = some (.cells l) ∧ n ≤ l.length ∧ b ≠ y ∧ b ≠ z ∧ b ≠ h ∧ M b = none
theorem W4.out {M M' : Mem} {y z h b : Nat} {o : Od} {x : Rf} (w : W4 M M' y z h o x) (h1 : b ≠ y) (h2 : b ≠ z) (h3 : b ≠ h) (hM : M b = none) (X : AObj) : W4 M (M'.upd b X) y z h o x :=
  ⟨Mem.le_upd w.le hM, Mem.upd_ne h1.symm w.wy, Mem.upd_ne h2.symm w.wz, Mem.upd_ne h3.symm w.wh, w.yz, w.yh, w.zh, w.my, w.mz, w.mh⟩
theorem Bk.out {M M' : Mem} {y z h b n : Nat} {base : Option Addr} {l l' : List AVal} (k : Bk M M' y z h base n) (hb : M' b = some (.cells l)) (hl : l'.length = l.length) : Bk M (M'.upd b (.cells l')) y z h base n := ⟨fun hn => by
  obtain ⟨c, r, h1, h2, h3, h4, h5, h6, h7⟩ := k.at_ hn
  by_cases e : c = b
  · subst e
    rw [hb] at h2
    cases h2
    exact ⟨c, l', h1, Mem.upd_self _ _ _, by omega, h4, h5, h6, h7⟩
  · exact ⟨c, r, h1, Mem.upd_ne e h2, h3, h4, h5, h6, h7⟩⟩
theorem W4.prog {M M' : Mem} {y z h : Nat} {o o' : Od} {x : Rf} (w : W4 M M' y z h o x) : W4 M (M'.upd y (.cells (odC o'))) y z h o' x :=
  ⟨Mem.le_upd w.le w.my, Mem.upd_self _ _ _, Mem.upd_ne w.yz.symm w.wz, Mem.upd_ne w.yh.symm w.wh, w.yz, w.yh, w.zh, w.my, w.mz, w.mh⟩
theorem W4.ref {M M' : Mem} {y z h : Nat} {o : Od} {x x' : Rf} (w : W4 M M' y z h o x) (hx : x'.has = x.has) : W4 M (M'.upd z (.cells (rfC h x'))) y z h o x' :=
  ⟨Mem.le_upd w.le w.mz, Mem.upd_ne w.yz w.wy, Mem.upd_self _ _ _, by show (M'.upd z _) h = some (.cells (x'.has.map _)); rw [hx]; exact Mem.upd_ne w.zh.symm w.wh, w.yz, w.yh, w.zh, w.my, w.mz, w.mh⟩
theorem W4.ref2 {M M' : Mem} {y z h : Nat} {o : Od} {x x' : Rf} (w : W4 M M' y z h o x) : W4 M ((M'.upd h (.cells (hsC x'))).upd z (.cells (rfC h x'))) y z h o x' :=
  ⟨Mem.le_upd (Mem.le_upd w.le w.mh) w.mz, Mem.upd_ne w.yz (Mem.upd_ne w.yh w.wy), Mem.upd_self _ _ _, Mem.upd_ne w.zh.symm (Mem.upd_self _ _ _), w.yz, w.yh, w.zh, w.my, w.mz, w.mh⟩
theorem Fr.w4 {α : Type} {f : α → AVal} {z0 : α} {M M' M1 : Mem} {y z h c : Nat} {o : Od} {x : Rf} {base : Option Addr} {l : List α} (F : Fr f z0 M' M1 base c l) (w : W4 M M' y z h o x) : W4 M M1 y z h o x ∧ Bk M M1 y z h base l.length := by
  by_cases e : l = []
  · rw [F.nil e]; exact ⟨w, ⟨fun hn => by rw [e] at hn; cases hn⟩⟩
  · obtain ⟨b, k, h1, h2, h3, rfl⟩ := F.new e
    have hy : b ≠ y := (Mem.fresh_ne h2 w.wy).symm
    have hz : b ≠ z := (Mem.fresh_ne h2 w.wz).symm
    have hh : b ≠ h := (Mem.fresh_ne h2 w.wh).symm
    have hM := Mem.none_of_le w.le h2
    exact ⟨w.out hy hz hh hM _, ⟨fun _ => ⟨b, _, h1, Mem.upd_self _ _ _, by simp, hy, hz, hh, hM⟩⟩⟩
theorem splice_len {l xs : List AVal} {k : Nat} (h : k + xs.length ≤ l.length) : (splice l k xs).length = l.length := splice_length h
theorem prop_has (x : Rf) (s : ByteArray) : (propR x s).1.has = x.has := by unfold propR; split <;> (try split) <;> rfl
theorem add_has (x : Rf) (i : Int) (s : ByteArray) : (addR x i s).1.has = x.has := by unfold addR; split <;> rfl
theorem learn_has (x : Rf) (n : Int) : (learnR x n).1.has = x.has := by unfold learnR; split <;> rfl
theorem newTr {self : Int} {nodes : List Int} {log : List ByteArray} {ba bb : Option Addr} {ca cb : Nat} {M : Mem} (hA : At int 0 M ba nodes) (hB : At str emp0 M bb log) (h : okNew self nodes = true) (hnl : nodes.length < 2 ^ 60) (hlg : log.length + 2 ≤ 2 ^ 43) (hsz : ∀ s ∈ log, s.size < 2 ^ 61) :
    SoundCall Try.prog 9 [int self, rawS ba nodes.length ca, rawS bb log.length cb] M fun r M' => ∃ b, M b = none ∧ r = .tup [ptr b, int 0] ∧ M' = M.upd b (.cells (odC (newO self nodes log))) :=
  (snd9r self ba ca nodes bb cb log M hA hB hnl hlg hsz).mono fun r M' h' => by
    rcases h' with ⟨h1, -⟩ | ⟨-, h1⟩
    · rw [h] at h1; cases h1
    · exact h1
theorem newFr {self : Int} {nodes : List Int} {log : List ByteArray} {ba bb : Option Addr} {ca cb : Nat} {M : Mem} (hA : At int 0 M ba nodes) (hB : At str emp0 M bb log) (h : okNew self nodes = false) (hnl : nodes.length < 2 ^ 60) (hlg : log.length + 2 ≤ 2 ^ 43) (hsz : ∀ s ∈ log, s.size < 2 ^ 61) :
    SoundCall Try.prog 9 [int self, rawS ba nodes.length ca, rawS bb log.length cb] M fun r M' => r = .tup [nilp, int 1] ∧ M' = M :=
  (snd9r self ba ca nodes bb cb log M hA hB hnl hlg hsz).mono fun r M' h' => by
    rcases h' with ⟨-, h1⟩ | ⟨h1, -⟩
    · exact h1
    · rw [h] at h1; cases h1
theorem refT {self : Int} {nodes : List Int} {log : List ByteArray} (o1 o2 : Bool) {M : Mem} (h : okNew self nodes = true) (hnl : nodes.length < 2 ^ 60) (hlg : log.length + 2 ≤ 2 ^ 43) :
    SoundCall Try.prog 18 [int self, .sl (nodes.map int) o1, .sl (log.map str) o2] M fun r M' => ∃ z q, M z = none ∧ M q = none ∧ z ≠ q ∧ r = ptr z ∧ M' = (M.upd q (.cells (hsC (newR self nodes log)))).upd z (.cells (rfC q (newR self nodes log))) :=
  (snd18 self nodes o1 log o2 M hnl hlg).mono fun r M' h' => by
    rcases h' with ⟨h1, -⟩ | ⟨-, h1⟩
    · rw [h] at h1; cases h1
    · exact h1
theorem refF {self : Int} {nodes : List Int} {log : List ByteArray} (o1 o2 : Bool) {M : Mem} (h : okNew self nodes = false) (hnl : nodes.length < 2 ^ 60) (hlg : log.length + 2 ≤ 2 ^ 43) :
    SoundCall Try.prog 18 [int self, .sl (nodes.map int) o1, .sl (log.map str) o2] M fun r M' => r = nilp ∧ M' = M :=
  (snd18 self nodes o1 log o2 M hnl hlg).mono fun r M' h' => by
    rcases h' with ⟨-, h1⟩ | ⟨h1, -⟩
    · exact h1
    · rw [h] at h1; cases h1

theorem gr_len4 {o o' : Od} (h : Gr o o') : o'.log.length ≤ o.log.length + 1 := by
  obtain ⟨t, ht, h1⟩ := h.log
  rw [ht, List.length_append]; omega
theorem wants_len (o : Od) (v most : Int) : (wantsO o v most).2.length ≤ o.log.length := by
  unfold wantsO
  split
  · show ((o.log.drop (hv o v).toNat).take (max most 0).toNat).length ≤ _
    rw [List.length_take, List.length_drop]; omega
  · exact Nat.zero_le _
theorem bk_new {M N Mf : Mem} {base : Option Addr} {n y z q : Nat} (h : 0 < n → ∃ b l, base = some ⟨b, 0, none⟩ ∧ N b = some (.cells l) ∧ n ≤ l.length ∧ M b = none) (hy : N y = none) (hz : N z = none) (hq : N q = none) (hM : N.le Mf) : Bk M Mf y z q base n :=
  ⟨fun hn => by
    obtain ⟨b, l, h1, h2, h3, h4⟩ := h hn
    exact ⟨b, l, h1, hM _ _ h2, h3, Mem.fresh_ne hy h2, Mem.fresh_ne hz h2, Mem.fresh_ne hq h2, h4⟩⟩
theorem Fr.bk {α : Type} {f : α → AVal} {z0 : α} {M M0 N1 N : Mem} {c : Nat} {base : Option Addr} {l : List α} (F : Fr f z0 M0 N1 base c l) (h0 : M.le M0) (h1 : N1.le N) : 0 < l.length → ∃ b r, base = some ⟨b, 0, none⟩ ∧ N b = some (.cells r) ∧ l.length ≤ r.length ∧ M b = none := fun hn => by
  obtain ⟨b, k, e1, e2, e3, rfl⟩ := F.new (List.ne_nil_of_length_pos hn)
  exact ⟨b, _, e1, h1 _ _ (Mem.upd_self _ _ _), by simp, Mem.none_of_le h0 e2⟩
set_option maxHeartbeats 4000000 in
set_option maxRecDepth 20000 in
theorem snd4a (self : Int) (nodes : List Int) (o1 : Bool) (log : List ByteArray) (o2 : Bool) (l : List Dd) (o3 : Bool) (M : Mem) (hnl : nodes.length ≤ 2 ^ 44) (hlg : log.length + 200 ≤ 2 ^ 43) (hsz : ∀ s ∈ log, s.size < 2 ^ 61) (hl : l.length < 2 ^ 60) (hq : ∀ d ∈ l, okDd d) (hok : okNew self nodes = false) : SoundCall Try.prog 4 [int self, .sl (nodes.map int) o1, .sl (log.map str) o2, .sl (l.map encDd) o3] M fun r M' => r = bool true ∧ M.le M' := by
  refine SoundCall.go tk4 pl4 mixed Try.func4 cb4 rfl (Nat.le_of_ble_eq_true rfl) ?_
  refine s_seq ?_
  refine s_region ?_
  refine o_q (q_as (v_raw rfl)) rfl rfl rfl ?_
  refine o_nil ?_
  refine s_seq ?_
  refine s_region ?_
  refine o_callx (snd7 _) goes7 ac_nil rfl ?_
  rintro r M0 ⟨rfl, hle⟩
  refine o_q (q_as (v_raw rfl)) rfl rfl rfl ?_
  refine o_nil ?_
  refine s_seq ?_
  refine s_region ?_
  refine o_q (q_mv (v_sl rfl)) rfl rfl rfl ?_
  refine o_appf (f := int) (z0 := 0) slt25 rfl rfl zc3 (fun _ => ⟨rfl, rfl, rfl, rfl⟩) (by first | exact .inl rfl | exact .inr rfl) (src_sl rfl) (by omega) (fun P1 C1 N1 hF1 => ?_)
  have hA1 := hF1.here
  refine o_q (q_as (v_raw rfl)) rfl rfl rfl ?_
  refine o_nil ?_
  refine s_seq ?_
  refine s_region ?_
  refine o_q (q_mv (v_sl rfl)) rfl rfl rfl ?_
  refine o_appf (f := str) (z0 := ({ data := #[] } : ByteArray)) slt22 rfl rfl zc9 (fun _ => ⟨rfl, rfl, rfl, rfl⟩) (by first | exact .inl rfl | exact .inr rfl) (src_sl rfl) (by omega) (fun P2 C2 N2 hF2 => ?_)
  have hA2 : At int 0 N2 P1 nodes := ⟨fun e => by
    obtain ⟨b, k, h1, h2⟩ := hA1.at_ e
    exact ⟨b, k, h1, hF2.le _ _ h2⟩⟩
  refine o_q (q_as (v_raw rfl)) rfl rfl rfl ?_
  refine o_nil ?_
  refine s_seq ?_
  refine s_region ?_
  refine o_q (q_mv (v_raw rfl)) rfl rfl rfl ?_
  refine o_q (q_mv (v_raw rfl)) rfl rfl rfl ?_
  refine o_q (q_mv (v_raw rfl)) rfl rfl rfl ?_
  refine o_callx ((newFr hA2 hF2.here hok (by omega) (by omega) hsz)) goes9 (ac (v_raw rfl) (ac (v_raw rfl) (ac (v_raw rfl) ac_nil))) rfl ?_
  rintro r M' ⟨rfl, rfl⟩
  refine o_q (q_mv (v_tup rfl)) rfl rfl rfl ?_
  refine o_q (q_ext rfl rfl ((by first | exact v_raw rfl | exact v_sptr rfl))) rfl rfl rfl ?_
  refine o_q (q_ext rfl rfl (v_raw rfl)) rfl rfl rfl ?_
  refine o_q (q_as ((by first | exact v_raw rfl | exact v_sptr rfl))) rfl rfl rfl ?_
  refine o_q (q_as (v_raw rfl)) rfl rfl rfl ?_
  refine o_nil ?_
  refine s_seq ?_
  refine s_region ?_
  refine o_q (q_mv (v_raw rfl)) rfl rfl rfl ?_
  refine o_q (q_mv (v_sl rfl)) rfl rfl rfl ?_
  refine o_q (q_mv (v_sl rfl)) rfl rfl rfl ?_
  refine o_callx ((refF _ _ hok (by omega) (by omega))) goes18 (ac (v_raw rfl) (ac (v_sl rfl) (ac (v_sl rfl) ac_nil))) rfl ?_
  rintro r M' ⟨rfl, rfl⟩
  refine o_q (q_as ((by first | exact v_raw rfl | exact v_sptr rfl))) rfl rfl rfl ?_
  refine o_nil ?_
  refine s_seq ?_
  refine s_seq ?_
  refine s_region ?_
  refine o_q (q_mv ((by first | exact v_raw rfl | exact v_sptr rfl))) rfl rfl rfl ?_
  refine o_q (q_peql und41 rfl rfl) rfl rfl rfl ?_
  refine o_nil ?_
  refine s_then rfl rfl ?_
  refine s_seq ?_
  refine s_region ?_
  refine o_q (q_mv (v_raw rfl)) rfl rfl rfl ?_
  refine o_q (q_mv (v_raw rfl)) rfl rfl rfl ?_
  refine o_yes rfl rfl rfl rfl ?_
  refine o_q (q_mv ((by first | exact v_raw rfl | exact v_sptr rfl))) rfl rfl rfl ?_
  refine o_yes rfl rfl rfl rfl ?_
  refine o_q (q_peql und27 rfl rfl) rfl rfl rfl ?_
  refine o_q (q_pick_c (t := true) rfl rfl (v_raw rfl)) rfl rfl rfl ?_
  refine o_q (q_mv (v_raw rfl)) rfl rfl rfl ?_
  refine o_yes rfl rfl rfl rfl ?_
  refine o_q (q_mv (v_raw rfl)) rfl rfl rfl ?_
  refine o_yes rfl rfl rfl rfl ?_
  refine o_q (q_eql rfl rfl) rfl rfl rfl ?_
  refine o_q (q_pick_c (t := true) rfl rfl (v_raw rfl)) rfl rfl rfl ?_
  refine o_q (q_as (v_raw rfl)) rfl rfl rfl ?_
  refine o_nil ?_
  refine s_ret ?_
  refine s_code_ret ?_
  refine s_end ?_
  exact ⟨rfl, Mem.le_trans hle (Mem.le_trans hF1.le hF2.le)⟩

-- carillon/carillonlaw18.OrderPlays params ['int', '[]int', '[]string', '[]carillonlaw18.Deed'] results [['t', 8]] own [] names ['0:self', '1:nodes', '2:log', '3:deeds', '4:self', '5:nodes', '6:log', '7:deeds', '9:head', '10:a', '11:b', '12:o', '13:e', '14:x', '15:i', '16:i', '17:i', '18:d', '19:good', '20:n', '21:f', '22:m', '23:g', '24:n', '25:l', '26:m', '27:k', '28:j', '29:l', '30:same', '31:j'] calls [7, 8, 9, 10, 11, 12, 13, 14, 15, 16, 17, 18, 19, 20, 21, 22, 23, 24, 25, 26, 27, 28] paths 12
set_option maxHeartbeats 4000000 in
set_option maxRecDepth 20000 in
theorem snd4b (self : Int) (nodes : List Int) (o1 : Bool) (log : List ByteArray) (o2 : Bool) (l : List Dd) (o3 : Bool) (M : Mem) (hnl : nodes.length ≤ 2 ^ 44) (hlg : log.length + 200 ≤ 2 ^ 43) (hsz : ∀ s ∈ log, s.size < 2 ^ 61) (hl : l.length < 2 ^ 60) (hq : ∀ d ∈ l, okDd d) (hok : okNew self nodes = true) : SoundCall Try.prog 4 [int self, .sl (nodes.map int) o1, .sl (log.map str) o2, .sl (l.map encDd) o3] M fun r M' => r = bool true ∧ M.le M' := by
  refine SoundCall.go tk4 pl4 mixed Try.func4 cb4 rfl (Nat.le_of_ble_eq_true rfl) ?_
  refine s_seq ?_
  refine s_region ?_
  refine o_q (q_as (v_raw rfl)) rfl rfl rfl ?_
  refine o_nil ?_
  refine s_seq ?_
  refine s_region ?_
  refine o_callx (snd7 _) goes7 ac_nil rfl ?_
  rintro r M0 ⟨rfl, hle⟩
  refine o_q (q_as (v_raw rfl)) rfl rfl rfl ?_
  refine o_nil ?_
  refine s_seq ?_
  refine s_region ?_
  refine o_q (q_mv (v_sl rfl)) rfl rfl rfl ?_
  refine o_appf (f := int) (z0 := 0) slt25 rfl rfl zc3 (fun _ => ⟨rfl, rfl, rfl, rfl⟩) (by first | exact .inl rfl | exact .inr rfl) (src_sl rfl) (by omega) (fun P1 C1 N1 hF1 => ?_)
  have hA1 := hF1.here
  refine o_q (q_as (v_raw rfl)) rfl rfl rfl ?_
  refine o_nil ?_
  refine s_seq ?_
  refine s_region ?_
  refine o_q (q_mv (v_sl rfl)) rfl rfl rfl ?_
  refine o_appf (f := str) (z0 := ({ data := #[] } : ByteArray)) slt22 rfl rfl zc9 (fun _ => ⟨rfl, rfl, rfl, rfl⟩) (by first | exact .inl rfl | exact .inr rfl) (src_sl rfl) (by omega) (fun P2 C2 N2 hF2 => ?_)
  have hA2 : At int 0 N2 P1 nodes := ⟨fun e => by
    obtain ⟨b, k, h1, h2⟩ := hA1.at_ e
    exact ⟨b, k, h1, hF2.le _ _ h2⟩⟩
  refine o_q (q_as (v_raw rfl)) rfl rfl rfl ?_
  refine o_nil ?_
  refine s_seq ?_
  refine s_region ?_
  refine o_q (q_mv (v_raw rfl)) rfl rfl rfl ?_
  refine o_q (q_mv (v_raw rfl)) rfl rfl rfl ?_
  refine o_q (q_mv (v_raw rfl)) rfl rfl rfl ?_
  refine o_callx ((newTr hA2 hF2.here hok (by omega) (by omega) hsz)) goes9 (ac (v_raw rfl) (ac (v_raw rfl) (ac (v_raw rfl) ac_nil))) rfl ?_
  rintro r M' ⟨y, hy0, rfl, rfl⟩
  refine o_q (q_mv (v_tup rfl)) rfl rfl rfl ?_
  refine o_q (q_ext rfl rfl ((by first | exact v_raw rfl | exact v_sptr rfl))) rfl rfl rfl ?_
  refine o_q (q_ext rfl rfl (v_raw rfl)) rfl rfl rfl ?_
  refine o_q (q_as ((by first | exact v_raw rfl | exact v_sptr rfl))) rfl rfl rfl ?_
  refine o_q (q_as (v_raw rfl)) rfl rfl rfl ?_
  refine o_nil ?_
  refine s_seq ?_
  refine s_region ?_
  refine o_q (q_mv (v_raw rfl)) rfl rfl rfl ?_
  refine o_q (q_mv (v_sl rfl)) rfl rfl rfl ?_
  refine o_q (q_mv (v_sl rfl)) rfl rfl rfl ?_
  refine o_callx ((refT _ _ hok (by omega) (by omega))) goes18 (ac (v_raw rfl) (ac (v_sl rfl) (ac (v_sl rfl) ac_nil))) rfl ?_
  rintro r M' ⟨z, q, hz0, hq0, hzq, rfl, rfl⟩
  have hyz : y ≠ z := Mem.fresh_ne hz0 (Mem.upd_self _ _ _)
  have hyq : y ≠ q := Mem.fresh_ne hq0 (Mem.upd_self _ _ _)
  have hz1 := (Mem.upd_none hz0).2
  have hq1 := (Mem.upd_none hq0).2
  have hRn := Rel.new (log := log) hok
  have h02 := Mem.le_trans hle (Mem.le_trans hF1.le hF2.le)
  have hWn : W4 M (((N2.upd y (.cells (odC (newO self nodes log)))).upd q (.cells (hsC (newR self nodes log)))).upd z (.cells (rfC q (newR self nodes log)))) y z q (newO self nodes log) (newR self nodes log) := ⟨Mem.le_upd (Mem.le_upd (Mem.le_upd h02 (Mem.none_of_le h02 hy0)) (Mem.none_of_le h02 hq1)) (Mem.none_of_le h02 hz1), Mem.upd_ne hyz (Mem.upd_ne hyq (Mem.upd_self _ _ _)), Mem.upd_self _ _ _, Mem.upd_ne hzq.symm (Mem.upd_self _ _ _), hyz, hyq, hzq, Mem.none_of_le h02 hy0, Mem.none_of_le h02 hz1, Mem.none_of_le h02 hq1⟩
  have hN2 : N2.le (((N2.upd y (.cells (odC (newO self nodes log)))).upd q (.cells (hsC (newR self nodes log)))).upd z (.cells (rfC q (newR self nodes log)))) := Mem.le_upd (Mem.le_upd (Mem.le_upd (Mem.le_refl _) hy0) hq1) hz1
  refine o_q (q_as ((by first | exact v_raw rfl | exact v_sptr rfl))) rfl rfl rfl ?_
  refine o_nil ?_
  refine s_seq ?_
  refine s_seq ?_
  refine s_region ?_
  refine o_q (q_mv ((by first | exact v_raw rfl | exact v_sptr rfl))) rfl rfl rfl ?_
  refine o_q (q_peql und41 rfl rfl) rfl rfl rfl ?_
  refine o_nil ?_
  refine s_else rfl rfl ?_
  refine s_skip ?_
  refine s_seq ?_
  refine s_seq ?_
  refine s_region ?_
  refine o_q (q_mv ((by first | exact v_raw rfl | exact v_sptr rfl))) rfl rfl rfl ?_
  refine o_q (q_peql und27 rfl rfl) rfl rfl rfl ?_
  refine o_q (q_mv (v_raw rfl)) rfl rfl rfl ?_
  refine o_yes rfl rfl rfl rfl ?_
  refine o_q (q_mv (v_raw rfl)) rfl rfl rfl ?_
  refine o_yes rfl rfl rfl rfl ?_
  refine o_q (q_neq rfl rfl) rfl rfl rfl ?_
  refine o_q (q_pick_c (t := false) rfl rfl (v_raw rfl)) rfl rfl rfl ?_
  refine o_q (q_mv (v_raw rfl)) rfl rfl rfl ?_
  refine o_yes rfl rfl rfl rfl ?_
  refine o_q (q_mv ((by first | exact v_raw rfl | exact v_sptr rfl))) rfl rfl rfl ?_
  refine o_yes rfl rfl rfl rfl ?_
  refine o_call ((firstE rfl hWn.wy (new_ok hok))) goes19 (ac ((by first | exact v_raw rfl | exact v_sptr rfl)) ac_nil) rfl ?_
  refine o_yes rfl rfl rfl rfl ?_
  refine o_q (q_mv ((by first | exact v_raw rfl | exact v_sptr rfl))) rfl rfl rfl ?_
  refine o_yes rfl rfl rfl rfl ?_
  refine o_call ((snd20 z q (newR self nodes log) _ hWn.wz (Rel.new (log := log) hok).rk.ne)) goes20 (ac ((by first | exact v_raw rfl | exact v_sptr rfl)) ac_nil) rfl ?_
  refine o_yes rfl rfl rfl rfl ?_
  refine o_q (q_bneq und4 rfl rfl) rfl rfl rfl ?_
  refine o_q (q_pick_c (t := false) rfl rfl (v_raw rfl)) rfl rfl rfl ?_
  refine o_nil ?_
  refine s_else rfl (by rw [decide_eq_true hRn.first.symm]; rfl) ?_
  refine s_skip ?_
  refine s_seq ?_
  refine s_seq ?_
  refine s_region ?_
  refine o_q (q_as (v_raw rfl)) rfl rfl rfl ?_
  refine o_nil ?_
  refine s_block ?_
  refine s_loop (fun m S => ∃ T, ∃ Mj : Mem, ∃ j : Nat, S = ⟨setT (setT (setT (setT (setT (setT (setT T 3 (.sl (l.map encDd) o3)) 9 (bool true)) 10 (rawS P1 nodes.length C1)) 11 (rawS P2 log.length C2)) 12 (ptr y)) 14 (ptr z)) 15 (int (j : Nat)), Mj⟩ ∧ W4 M Mj y z q (newO self nodes log) (newR self nodes log) ∧ Bk M Mj y z q P1 nodes.length ∧ Bk M Mj y z q P2 log.length ∧ j ≤ nodes.length ∧ m = nodes.length - j) nodes.length ?_ ?_
  · exact ⟨_, _, 0, St.mkT (kp (kp (kp (kp (kp (kp (kp rfl rfl) rfl) rfl) rfl) rfl) rfl) rfl).symm, hWn, bk_new (Fr.bk hF1 hle hF2.le) hy0 hz1 hq1 hN2, bk_new (Fr.bk hF2 (Mem.le_trans hle hF1.le) (Mem.le_refl _)) hy0 hz1 hq1 hN2, by omega, rfl⟩
  rintro m S ⟨T, Mj, j, rfl, hV, hK, hK2, hj, rfl⟩
  refine s_seq ?_
  refine s_seq ?_
  refine s_region ?_
  refine o_q (q_mv (v_raw rfl)) rfl rfl rfl ?_
  refine o_q (q_mv (v_raw rfl)) rfl rfl rfl ?_
  refine o_q (q_lenr rfl und25 rfl) rfl rfl rfl ?_
  refine o_q (q_lss rfl rfl) rfl rfl rfl ?_
  refine o_nil ?_
  refine s_cond rfl (fun h1 => ?_) (fun h1 => ?_)
  · have k1 := h1; try simp only [decide_eq_true_eq, decide_eq_false_iff_not, Bool.not_eq_true', Bool.not_eq_false', Bool.not_true, Bool.not_false, List.length_map, Decidable.not_not] at k1
    obtain ⟨cb, cl, e0, hcb, hcl, u1, u2, u3, um⟩ := hK.at_ (by omega)
    subst e0
    refine s_skip ?_
    refine s_seq ?_
    refine s_block ?_
    refine s_region ?_
    refine o_q (q_mv (v_raw rfl)) rfl rfl rfl ?_
    refine o_q (q_mv (v_raw rfl)) rfl rfl rfl ?_
    refine o_q (q_idxr und25 sz3 rfl rfl (by omega) (by omega)) rfl rfl rfl ?_
    refine o_store rfl (by repeat first | exact Mem.upd_self _ _ _ | assumption | refine Mem.upd_ne (by assumption) ?_) (by first | exact e_raw rfl | exact e_agg rfl | exact e_sl rfl | rfl) rfl sz3 rfl (by omega) rfl rfl ?_
    refine o_nil ?_
    refine s_blk_normal ?_
    refine s_region ?_
    refine o_q (q_mv (v_raw rfl)) rfl rfl rfl ?_
    refine o_q (q_add rfl rfl (wrap64 (by omega) (by omega))) rfl rfl rfl ?_
    refine o_q (q_as (v_raw rfl)) rfl rfl rfl ?_
    refine o_nil ?_
    refine s_inv ?_
    exact ⟨nodes.length - (j + 1), by omega, _, _, j + 1, St.mkT (kp (kp (kp (kp (kp (kp (kp rfl rfl) rfl) rfl) rfl) rfl) rfl) rfl).symm, hV.out u1 u2 u3 um _, hK.out hcb (splice_len (by show _ + 1 ≤ _; omega)), hK2.out hcb (splice_len (by show _ + 1 ≤ _; omega)), by omega, rfl⟩
  · have k1 := h1; try simp only [decide_eq_true_eq, decide_eq_false_iff_not, Bool.not_eq_true', Bool.not_eq_false', Bool.not_true, Bool.not_false, List.length_map, Decidable.not_not] at k1
    refine s_exit ?_
    refine s_code_exit ?_
    refine s_inv_exit ?_
    refine s_blk_here ?_
    refine s_seq ?_
    refine s_seq ?_
    refine s_region ?_
    refine o_q (q_as (v_raw rfl)) rfl rfl rfl ?_
    refine o_nil ?_
    refine s_block ?_
    refine s_loop (fun m S => ∃ T, ∃ Mj : Mem, ∃ j : Nat, S = ⟨setT (setT (setT (setT (setT (setT T 3 (.sl (l.map encDd) o3)) 9 (bool true)) 11 (rawS P2 log.length C2)) 12 (ptr y)) 14 (ptr z)) 16 (int (j : Nat)), Mj⟩ ∧ W4 M Mj y z q (newO self nodes log) (newR self nodes log) ∧ Bk M Mj y z q P2 log.length ∧ j ≤ log.length ∧ m = log.length - j) log.length ?_ ?_
    · exact ⟨_, _, 0, St.mkT (kp (kp (kp (kp (kp (kp rfl rfl) rfl) rfl) rfl) rfl) rfl).symm, hV, hK2, by omega, rfl⟩
    rintro m S ⟨T, Mj, j, rfl, hV, hK, hj, rfl⟩
    refine s_seq ?_
    refine s_seq ?_
    refine s_region ?_
    refine o_q (q_mv (v_raw rfl)) rfl rfl rfl ?_
    refine o_q (q_mv (v_raw rfl)) rfl rfl rfl ?_
    refine o_q (q_lenr rfl und22 rfl) rfl rfl rfl ?_
    refine o_q (q_lss rfl rfl) rfl rfl rfl ?_
    refine o_nil ?_
    refine s_cond rfl (fun h2 => ?_) (fun h2 => ?_)
    · have k2 := h2; try simp only [decide_eq_true_eq, decide_eq_false_iff_not, Bool.not_eq_true', Bool.not_eq_false', Bool.not_true, Bool.not_false, List.length_map, Decidable.not_not] at k2
      obtain ⟨cb, cl, e0, hcb, hcl, u1, u2, u3, um⟩ := hK.at_ (by omega)
      subst e0
      refine s_skip ?_
      refine s_seq ?_
      refine s_block ?_
      refine s_region ?_
      refine o_q (q_mv (v_raw rfl)) rfl rfl rfl ?_
      refine o_q (q_mv (v_raw rfl)) rfl rfl rfl ?_
      refine o_q (q_idxr und22 sz9 rfl rfl (by omega) (by omega)) rfl rfl rfl ?_
      refine o_store rfl (by repeat first | exact Mem.upd_self _ _ _ | assumption | refine Mem.upd_ne (by assumption) ?_) (by first | exact e_raw rfl | exact e_agg rfl | exact e_sl rfl | rfl) rfl sz9 rfl (by omega) rfl rfl ?_
      refine o_nil ?_
      refine s_blk_normal ?_
      refine s_region ?_
      refine o_q (q_mv (v_raw rfl)) rfl rfl rfl ?_
      refine o_q (q_add rfl rfl (wrap64 (by omega) (by omega))) rfl rfl rfl ?_
      refine o_q (q_as (v_raw rfl)) rfl rfl rfl ?_
      refine o_nil ?_
      refine s_inv ?_
      exact ⟨log.length - (j + 1), by omega, _, _, j + 1, St.mkT (kp (kp (kp (kp (kp (kp rfl rfl) rfl) rfl) rfl) rfl) rfl).symm, hV.out u1 u2 u3 um _, hK.out hcb (splice_len (by show _ + 1 ≤ _; omega)), by omega, rfl⟩
    · have k2 := h2; try simp only [decide_eq_true_eq, decide_eq_false_iff_not, Bool.not_eq_true', Bool.not_eq_false', Bool.not_true, Bool.not_false, List.length_map, Decidable.not_not] at k2
      refine s_exit ?_
      refine s_code_exit ?_
      refine s_inv_exit ?_
      refine s_blk_here ?_
      refine s_seq ?_
      refine s_seq ?_
      refine s_region ?_
      refine o_q (q_as (v_raw rfl)) rfl rfl rfl ?_
      refine o_nil ?_
      refine s_block ?_
      refine s_loop (fun m S => ∃ T, ∃ Mw : Mem, ∃ o : Od, ∃ x : Rf, ∃ i : Nat, S = ⟨setT (setT (setT (setT (setT T 3 (.sl (l.map encDd) o3)) 9 (bool true)) 12 (ptr y)) 14 (ptr z)) 17 (int (i : Nat)), Mw⟩ ∧ W4 M Mw y z q o x ∧ Rel o x ∧ o.log.length ≤ log.length + i ∧ i ≤ 100 ∧ i ≤ l.length ∧ m = l.length - i) l.length ?_ ?_
      · exact ⟨_, _, (newO self nodes log), (newR self nodes log), 0, St.mkT (kp (kp (kp (kp (kp rfl rfl) rfl) rfl) rfl) rfl).symm, hV, hRn, Nat.le_refl _, by omega, by omega, rfl⟩
      rintro m S ⟨T, Mw, o, x, i, rfl, hW, hR, hol, hi100, hi, rfl⟩
      refine s_seq ?_
      refine s_seq ?_
      refine s_region ?_
      refine o_q (q_mv (v_raw rfl)) rfl rfl rfl ?_
      refine o_q (q_mv (v_sl rfl)) rfl rfl rfl ?_
      refine o_q (q_len rfl und40 rfl) rfl rfl rfl ?_
      refine o_q (q_lss rfl rfl) rfl rfl rfl ?_
      refine o_q (q_mv (v_raw rfl)) rfl rfl rfl ?_
      refine o_cases (want := true) (j := 4) rfl rfl (fun h3 => ?_) (fun h3 => ?_)
      · have k3 := h3; try simp only [decide_eq_true_eq, decide_eq_false_iff_not, Bool.not_eq_true', Bool.not_eq_false', Bool.not_true, Bool.not_false, List.length_map, Decidable.not_not] at k3
        refine o_yes rfl rfl rfl h3 ?_
        refine o_q (q_mv (v_raw rfl)) rfl rfl rfl ?_
        refine o_yes rfl rfl rfl h3 ?_
        refine o_q (q_lss rfl rfl) rfl rfl rfl ?_
        refine o_q (q_pick_c (t := true) rfl h3 (v_raw rfl)) rfl rfl rfl ?_
        refine o_nil ?_
        refine s_cond rfl (fun h4 => ?_) (fun h4 => ?_)
        · have k4 := h4; try simp only [decide_eq_true_eq, decide_eq_false_iff_not, Bool.not_eq_true', Bool.not_eq_false', Bool.not_true, Bool.not_false, List.length_map, Decidable.not_not] at k4
          have hqi := hq l[i] (List.getElem_mem _)
          obtain ⟨e, he, he2⟩ := pickN l[i].kind 5 (by decide)
          have hlx : x.log.length = o.log.length := by rw [hR.log]
          have hwl0 := wants_len o l[i].node l[i].n
          have hwl : (wantsO o l[i].node l[i].n).2.length < 2 ^ 60 := by omega
          refine s_skip ?_
          refine s_seq ?_
          refine s_block ?_
          refine s_seq ?_
          refine s_region ?_
          refine o_q (q_mv (v_sl rfl)) rfl rfl rfl ?_
          refine o_q (q_mv (v_raw rfl)) rfl rfl rfl ?_
          refine o_q (q_idx und40 sz44 rfl rfl (by omega) (gm i (by first | omega | simp)) rfl) rfl rfl rfl ?_
          refine o_q (q_lde ag44 sz44 rfl (gm i (by first | omega | simp)) rfl rfl) rfl rfl rfl ?_
          refine o_alloc zc44 (fun B3 hB3 => ?_)
          have d1 : B3 ≠ y := (Mem.fresh_ne hB3 hW.wy).symm
          have d2 : B3 ≠ z := (Mem.fresh_ne hB3 hW.wz).symm
          have d3 : B3 ≠ q := (Mem.fresh_ne hB3 hW.wh).symm
          have dm := Mem.none_of_le hW.le hB3
          refine o_storew rfl (by repeat first | exact Mem.upd_self _ _ _ | assumption | refine Mem.upd_ne (by assumption) ?_) (by first | exact e_agg rfl | rfl) rfl sz44 rfl rfl rfl rfl ?_
          refine o_nil ?_
          refine s_seq ?_
          refine s_region ?_
          refine o_q (q_as (v_raw rfl)) rfl rfl rfl ?_
          refine o_nil ?_
          refine s_seq ?_
          refine s_seq ?_
          refine s_region ?_
          refine o_q (q_fr fo44_0 rfl) rfl rfl rfl ?_
          refine o_q (q_ldm ag3 sz3 rfl (by repeat first | exact Mem.upd_self _ _ _ | assumption | refine Mem.upd_ne (by assumption) ?_) rfl (v_raw rfl)) rfl rfl rfl ?_
          refine o_call ((pickE _ he (by decide) (by decide) hqi.1)) goes8 (ac (v_raw rfl) (ac (v_raw rfl) ac_nil)) rfl ?_
          refine o_nil ?_
          refine s_cut (fun S => ∃ T, ∃ Mw : Mem, ∃ o' : Od, ∃ x' : Rf, S = ⟨setT (setT (setT (setT (setT (setT T 3 (.sl (l.map encDd) o3)) 9 (bool true)) 12 (ptr y)) 14 (ptr z)) 17 (int (i : Nat))) 19 (bool true), Mw⟩ ∧ W4 M Mw y z q o' x' ∧ Rel o' x' ∧ o'.log.length ≤ o.log.length + 1) ?_ ?_
          · skip
            refine s_block ?_
            refine s_seq ?_
            refine s_region ?_
            refine o_q (q_eql rfl rfl) rfl rfl rfl ?_
            refine o_q (q_as (v_raw rfl)) rfl rfl rfl ?_
            refine o_nil ?_
            refine s_cond rfl (fun h5 => ?_) (fun h5 => ?_)
            · have k5 := h5; try simp only [decide_eq_true_eq, decide_eq_false_iff_not, Bool.not_eq_true', Bool.not_eq_false', Bool.not_true, Bool.not_false, List.length_map, Decidable.not_not] at k5
              refine s_seq ?_
              refine s_region ?_
              refine o_q (q_mv ((by first | exact v_raw rfl | exact v_sptr rfl))) rfl rfl rfl ?_
              refine o_q (q_fr fo44_1 rfl) rfl rfl rfl ?_
              refine o_q (q_ldm ag9 sz9 rfl (by repeat first | exact Mem.upd_self _ _ _ | assumption | refine Mem.upd_ne (by assumption) ?_) rfl (v_raw rfl)) rfl rfl rfl ?_
              refine o_callx ((prop10 ((hW.out d1 d2 d3 dm _).out d1 d2 d3 dm _).wy hR.ok hqi.2 (by omega))) goes10 (ac ((by first | exact v_raw rfl | exact v_sptr rfl)) (ac (v_raw rfl) ac_nil)) rfl ?_
              rintro r M2 ⟨rfl, rfl⟩
              refine o_q (q_mv (v_tup rfl)) rfl rfl rfl ?_
              refine o_q (q_ext rfl rfl (v_raw rfl)) rfl rfl rfl ?_
              refine o_q (q_ext rfl rfl (v_raw rfl)) rfl rfl rfl ?_
              refine o_q (q_as (v_raw rfl)) rfl rfl rfl ?_
              refine o_q (q_as (v_raw rfl)) rfl rfl rfl ?_
              refine o_nil ?_
              refine s_seq ?_
              refine s_region ?_
              refine o_q (q_mv ((by first | exact v_raw rfl | exact v_sptr rfl))) rfl rfl rfl ?_
              refine o_q (q_fr fo44_1 rfl) rfl rfl rfl ?_
              refine o_q (q_ldm ag9 sz9 rfl (by repeat first | exact Mem.upd_self _ _ _ | assumption | refine Mem.upd_ne (by assumption) ?_) rfl (v_raw rfl)) rfl rfl rfl ?_
              refine o_callx ((snd21 z q x l[i].s _ ((hW.out d1 d2 d3 dm _).out d1 d2 d3 dm _).prog.wz ((hW.out d1 d2 d3 dm _).out d1 d2 d3 dm _).prog.wh hW.zh hR.rk hqi.2 (by omega))) goes21 (ac ((by first | exact v_raw rfl | exact v_sptr rfl)) (ac (v_raw rfl) ac_nil)) rfl ?_
              rintro r M2 ⟨rfl, rfl⟩
              refine o_q (q_mv (v_tup rfl)) rfl rfl rfl ?_
              refine o_q (q_ext rfl rfl (v_raw rfl)) rfl rfl rfl ?_
              refine o_q (q_ext rfl rfl (v_raw rfl)) rfl rfl rfl ?_
              refine o_q (q_as (v_raw rfl)) rfl rfl rfl ?_
              refine o_q (q_as (v_raw rfl)) rfl rfl rfl ?_
              refine o_nil ?_
              refine s_region ?_
              refine o_q (q_mv (v_raw rfl)) rfl rfl rfl ?_
              refine o_q (q_mv (v_raw rfl)) rfl rfl rfl ?_
              refine o_q (q_eql rfl rfl) rfl rfl rfl ?_
              refine o_q (q_mv (v_raw rfl)) rfl rfl rfl ?_
              refine o_yes rfl rfl rfl (decide_eq_true (by rw [(hR.prop l[i].s).1])) ?_
              refine o_q (q_mv (v_raw rfl)) rfl rfl rfl ?_
              refine o_yes rfl rfl rfl (decide_eq_true (by rw [(hR.prop l[i].s).1])) ?_
              refine o_q (q_mv (v_raw rfl)) rfl rfl rfl ?_
              refine o_yes rfl rfl rfl (decide_eq_true (by rw [(hR.prop l[i].s).1])) ?_
              refine o_q (q_eql rfl rfl) rfl rfl rfl ?_
              refine o_q (q_pick_c (t := true) rfl (decide_eq_true (by rw [(hR.prop l[i].s).1])) (v_raw rfl)) rfl rfl rfl ?_
              refine o_q (q_as (v_raw rfl)) rfl rfl rfl ?_
              refine o_nil ?_
              refine s_blk_normal ?_
              refine s_inv ?_
              exact ⟨_, _, (propO o l[i].s).1, (propR x l[i].s).1, St.mkT (kp (kp (kp (kp (kp (kp rfl rfl) rfl) rfl) rfl) rfl) (congrArg bool (decide_eq_true (by rw [(hR.prop l[i].s).1])))).symm, (((hW.out d1 d2 d3 dm _).out d1 d2 d3 dm _).prog.ref (prop_has _ _)), (hR.prop l[i].s).2, gr_len4 (prop_gr hR.ok)⟩
            · have k5 := h5; try simp only [decide_eq_true_eq, decide_eq_false_iff_not, Bool.not_eq_true', Bool.not_eq_false', Bool.not_true, Bool.not_false, List.length_map, Decidable.not_not] at k5
              refine s_seq ?_
              refine s_region ?_
              refine o_q (q_eql rfl rfl) rfl rfl rfl ?_
              refine o_q (q_as (v_raw rfl)) rfl rfl rfl ?_
              refine o_nil ?_
              refine s_cond rfl (fun h6 => ?_) (fun h6 => ?_)
              · have k6 := h6; try simp only [decide_eq_true_eq, decide_eq_false_iff_not, Bool.not_eq_true', Bool.not_eq_false', Bool.not_true, Bool.not_false, List.length_map, Decidable.not_not] at k6
                refine s_draw rfl ?_
                refine d_q rfl (q_mv ((by first | exact v_raw rfl | exact v_sptr rfl))) rfl rfl rfl ?_
                refine d_q rfl (q_fr fo44_3 rfl) rfl rfl rfl ?_
                refine d_q rfl (q_ldm ag3 sz3 rfl (by repeat first | exact Mem.upd_self _ _ _ | assumption | refine Mem.upd_ne (by assumption) ?_) rfl (v_raw rfl)) rfl rfl rfl ?_
                refine d_q rfl (q_fr fo44_1 rfl) rfl rfl rfl ?_
                refine d_q rfl (q_ldm ag9 sz9 rfl (by repeat first | exact Mem.upd_self _ _ _ | assumption | refine Mem.upd_ne (by assumption) ?_) rfl (v_raw rfl)) rfl rfl rfl ?_
                refine d_q rfl (q_mv ((by first | exact v_raw rfl | exact v_sptr rfl))) rfl rfl rfl ?_
                refine d_q rfl (q_fr fo44_3 rfl) rfl rfl rfl ?_
                refine d_q rfl (q_ldm ag3 sz3 rfl (by repeat first | exact Mem.upd_self _ _ _ | assumption | refine Mem.upd_ne (by assumption) ?_) rfl (v_raw rfl)) rfl rfl rfl ?_
                refine d_q rfl (q_fr fo44_1 rfl) rfl rfl rfl ?_
                refine d_q rfl (q_ldm ag9 sz9 rfl (by repeat first | exact Mem.upd_self _ _ _ | assumption | refine Mem.upd_ne (by assumption) ?_) rfl (v_raw rfl)) rfl rfl rfl ?_
                refine d_s rfl ?_
                refine o_callx ((add12 ((hW.out d1 d2 d3 dm _).out d1 d2 d3 dm _).wy hR.ok hqi.2 (by omega))) goes12 (ac ((by first | exact v_raw rfl | exact v_sptr rfl)) (ac (v_raw rfl) (ac (v_raw rfl) ac_nil))) rfl ?_
                rintro r M2 ⟨rfl, rfl⟩
                refine o_nil ⟨(by simp [Mem.upd, *]), ?_⟩
                refine d_s rfl ?_
                refine o_callx ((snd22 z q x l[i].n l[i].s _ ((hW.out d1 d2 d3 dm _).out d1 d2 d3 dm _).prog.wz hR.rk.ne hqi.2 (by omega))) goes22 (ac ((by first | exact v_raw rfl | exact v_sptr rfl)) (ac (v_raw rfl) (ac (v_raw rfl) ac_nil))) rfl ?_
                rintro r M2 ⟨rfl, rfl⟩
                refine o_nil ⟨(by simp [Mem.upd, *]), ?_⟩
                refine d_q rfl (q_beql und4 rfl rfl) rfl rfl rfl ?_
                refine d_q rfl (q_as (v_raw rfl)) rfl rfl rfl ?_
                refine d_nil ?_
                refine s_blk_normal ?_
                refine s_inv ?_
                exact ⟨_, _, (addO o l[i].n l[i].s).1, (addR x l[i].n l[i].s).1, St.mkT (kp (kp (kp (kp (kp (kp rfl rfl) rfl) rfl) rfl) rfl) (congrArg bool (decide_eq_true (hR.add l[i].n l[i].s).1))).symm, (((hW.out d1 d2 d3 dm _).out d1 d2 d3 dm _).prog.ref (add_has _ _ _)), (hR.add l[i].n l[i].s).2, gr_len4 (add_gr hR.ok)⟩
              · have k6 := h6; try simp only [decide_eq_true_eq, decide_eq_false_iff_not, Bool.not_eq_true', Bool.not_eq_false', Bool.not_true, Bool.not_false, List.length_map, Decidable.not_not] at k6
                refine s_seq ?_
                refine s_region ?_
                refine o_q (q_eql rfl rfl) rfl rfl rfl ?_
                refine o_q (q_as (v_raw rfl)) rfl rfl rfl ?_
                refine o_nil ?_
                refine s_cond rfl (fun h7 => ?_) (fun h7 => ?_)
                · have k7 := h7; try simp only [decide_eq_true_eq, decide_eq_false_iff_not, Bool.not_eq_true', Bool.not_eq_false', Bool.not_true, Bool.not_false, List.length_map, Decidable.not_not] at k7
                  refine s_draw rfl ?_
                  refine d_q rfl (q_mv ((by first | exact v_raw rfl | exact v_sptr rfl))) rfl rfl rfl ?_
                  refine d_q rfl (q_fr fo44_2 rfl) rfl rfl rfl ?_
                  refine d_q rfl (q_ldm ag3 sz3 rfl (by repeat first | exact Mem.upd_self _ _ _ | assumption | refine Mem.upd_ne (by assumption) ?_) rfl (v_raw rfl)) rfl rfl rfl ?_
                  refine d_q rfl (q_fr fo44_3 rfl) rfl rfl rfl ?_
                  refine d_q rfl (q_ldm ag3 sz3 rfl (by repeat first | exact Mem.upd_self _ _ _ | assumption | refine Mem.upd_ne (by assumption) ?_) rfl (v_raw rfl)) rfl rfl rfl ?_
                  refine d_q rfl (q_mv ((by first | exact v_raw rfl | exact v_sptr rfl))) rfl rfl rfl ?_
                  refine d_q rfl (q_fr fo44_2 rfl) rfl rfl rfl ?_
                  refine d_q rfl (q_ldm ag3 sz3 rfl (by repeat first | exact Mem.upd_self _ _ _ | assumption | refine Mem.upd_ne (by assumption) ?_) rfl (v_raw rfl)) rfl rfl rfl ?_
                  refine d_q rfl (q_fr fo44_3 rfl) rfl rfl rfl ?_
                  refine d_q rfl (q_ldm ag3 sz3 rfl (by repeat first | exact Mem.upd_self _ _ _ | assumption | refine Mem.upd_ne (by assumption) ?_) rfl (v_raw rfl)) rfl rfl rfl ?_
                  refine d_s rfl ?_
                  refine o_callx ((has13 ((hW.out d1 d2 d3 dm _).out d1 d2 d3 dm _).wy hR.ok)) goes13 (ac ((by first | exact v_raw rfl | exact v_sptr rfl)) (ac (v_raw rfl) (ac (v_raw rfl) ac_nil))) rfl ?_
                  rintro r M2 ⟨rfl, rfl⟩
                  refine o_nil ⟨(by simp [Mem.upd, *]), ?_⟩
                  refine d_s rfl ?_
                  refine o_callx ((snd23 z q x l[i].node l[i].n _ ((hW.out d1 d2 d3 dm _).out d1 d2 d3 dm _).prog.wz ((hW.out d1 d2 d3 dm _).out d1 d2 d3 dm _).prog.wh hW.zh hR.rk (by omega))) goes23 (ac ((by first | exact v_raw rfl | exact v_sptr rfl)) (ac (v_raw rfl) (ac (v_raw rfl) ac_nil))) rfl ?_
                  rintro r M2 ⟨rfl, rfl⟩
                  refine o_nil ⟨(by simp [Mem.upd, *]), ?_⟩
                  refine d_q rfl (q_beql und4 rfl rfl) rfl rfl rfl ?_
                  refine d_q rfl (q_as (v_raw rfl)) rfl rfl rfl ?_
                  refine d_nil ?_
                  refine s_blk_normal ?_
                  refine s_inv ?_
                  exact ⟨_, _, (hasO o l[i].node l[i].n).1, (hasR x l[i].node l[i].n).1, St.mkT (kp (kp (kp (kp (kp (kp rfl rfl) rfl) rfl) rfl) rfl) (congrArg bool (decide_eq_true (hR.has l[i].node l[i].n).1))).symm, ((hW.out d1 d2 d3 dm _).out d1 d2 d3 dm _).prog.ref2, (hR.has l[i].node l[i].n).2, gr_len4 (has_gr hR.ok)⟩
                · have k7 := h7; try simp only [decide_eq_true_eq, decide_eq_false_iff_not, Bool.not_eq_true', Bool.not_eq_false', Bool.not_true, Bool.not_false, List.length_map, Decidable.not_not] at k7
                  refine s_seq ?_
                  refine s_region ?_
                  refine o_q (q_eql rfl rfl) rfl rfl rfl ?_
                  refine o_q (q_as (v_raw rfl)) rfl rfl rfl ?_
                  refine o_nil ?_
                  refine s_cond rfl (fun h8 => ?_) (fun h8 => ?_)
                  · have k8 := h8; try simp only [decide_eq_true_eq, decide_eq_false_iff_not, Bool.not_eq_true', Bool.not_eq_false', Bool.not_true, Bool.not_false, List.length_map, Decidable.not_not] at k8
                    refine s_draw rfl ?_
                    refine d_q rfl (q_mv ((by first | exact v_raw rfl | exact v_sptr rfl))) rfl rfl rfl ?_
                    refine d_q rfl (q_fr fo44_3 rfl) rfl rfl rfl ?_
                    refine d_q rfl (q_ldm ag3 sz3 rfl (by repeat first | exact Mem.upd_self _ _ _ | assumption | refine Mem.upd_ne (by assumption) ?_) rfl (v_raw rfl)) rfl rfl rfl ?_
                    refine d_q rfl (q_mv ((by first | exact v_raw rfl | exact v_sptr rfl))) rfl rfl rfl ?_
                    refine d_q rfl (q_fr fo44_3 rfl) rfl rfl rfl ?_
                    refine d_q rfl (q_ldm ag3 sz3 rfl (by repeat first | exact Mem.upd_self _ _ _ | assumption | refine Mem.upd_ne (by assumption) ?_) rfl (v_raw rfl)) rfl rfl rfl ?_
                    refine d_s rfl ?_
                    refine o_callx ((learn15 ((hW.out d1 d2 d3 dm _).out d1 d2 d3 dm _).wy hR.ok)) goes15 (ac ((by first | exact v_raw rfl | exact v_sptr rfl)) (ac (v_raw rfl) ac_nil)) rfl ?_
                    rintro r M2 ⟨rfl, rfl⟩
                    refine o_nil ⟨(by simp [Mem.upd, *]), ?_⟩
                    refine d_s rfl ?_
                    refine o_callx ((snd24 z q x l[i].n _ ((hW.out d1 d2 d3 dm _).out d1 d2 d3 dm _).prog.wz hR.rk.ne)) goes24 (ac ((by first | exact v_raw rfl | exact v_sptr rfl)) (ac (v_raw rfl) ac_nil)) rfl ?_
                    rintro r M2 ⟨rfl, rfl⟩
                    refine o_nil ⟨(by simp [Mem.upd, *]), ?_⟩
                    refine d_q rfl (q_beql und4 rfl rfl) rfl rfl rfl ?_
                    refine d_q rfl (q_as (v_raw rfl)) rfl rfl rfl ?_
                    refine d_nil ?_
                    refine s_blk_normal ?_
                    refine s_inv ?_
                    exact ⟨_, _, (learnO o l[i].n).1, (learnR x l[i].n).1, St.mkT (kp (kp (kp (kp (kp (kp rfl rfl) rfl) rfl) rfl) rfl) (congrArg bool (decide_eq_true (hR.learn l[i].n).1))).symm, (((hW.out d1 d2 d3 dm _).out d1 d2 d3 dm _).prog.ref (learn_has _ _)), (hR.learn l[i].n).2, gr_len4 (learn_gr hR.ok)⟩
                  · have k8 := h8; try simp only [decide_eq_true_eq, decide_eq_false_iff_not, Bool.not_eq_true', Bool.not_eq_false', Bool.not_true, Bool.not_false, List.length_map, Decidable.not_not] at k8
                    refine s_seq ?_
                    refine s_region ?_
                    refine o_q (q_mv ((by first | exact v_raw rfl | exact v_sptr rfl))) rfl rfl rfl ?_
                    refine o_q (q_fr fo44_2 rfl) rfl rfl rfl ?_
                    refine o_q (q_ldm ag3 sz3 rfl (by repeat first | exact Mem.upd_self _ _ _ | assumption | refine Mem.upd_ne (by assumption) ?_) rfl (v_raw rfl)) rfl rfl rfl ?_
                    refine o_q (q_fr fo44_3 rfl) rfl rfl rfl ?_
                    refine o_q (q_ldm ag3 sz3 rfl (by repeat first | exact Mem.upd_self _ _ _ | assumption | refine Mem.upd_ne (by assumption) ?_) rfl (v_raw rfl)) rfl rfl rfl ?_
                    refine o_callx ((wantsS ((hW.out d1 d2 d3 dm _).out d1 d2 d3 dm _).wy hR.ok (by omega))) goes11 (ac ((by first | exact v_raw rfl | exact v_sptr rfl)) (ac (v_raw rfl) (ac (v_raw rfl) ac_nil))) rfl ?_
                    rintro r M2 ⟨wb, wc, rfl, hF⟩
                    obtain ⟨hV, hK⟩ := Fr.w4 hF ((hW.out d1 d2 d3 dm _).out d1 d2 d3 dm _)
                    have hAw := hF.here
                    have hB3' : M2 B3 = _ := hF.le _ _ (Mem.upd_self _ _ _)
                    refine o_q (q_mv (v_tup rfl)) rfl rfl rfl ?_
                    refine o_q (q_ext rfl rfl (v_raw rfl)) rfl rfl rfl ?_
                    refine o_q (q_ext rfl rfl (v_raw rfl)) rfl rfl rfl ?_
                    refine o_q (q_as (v_raw rfl)) rfl rfl rfl ?_
                    refine o_q (q_as (v_raw rfl)) rfl rfl rfl ?_
                    refine o_nil ?_
                    refine s_seq ?_
                    refine s_region ?_
                    refine o_q (q_mv ((by first | exact v_raw rfl | exact v_sptr rfl))) rfl rfl rfl ?_
                    refine o_q (q_fr fo44_2 rfl) rfl rfl rfl ?_
                    refine o_q (q_ldm ag3 sz3 rfl (by repeat first | exact Mem.upd_self _ _ _ | assumption | refine Mem.upd_ne (by assumption) ?_) rfl (v_raw rfl)) rfl rfl rfl ?_
                    refine o_q (q_fr fo44_3 rfl) rfl rfl rfl ?_
                    refine o_q (q_ldm ag3 sz3 rfl (by repeat first | exact Mem.upd_self _ _ _ | assumption | refine Mem.upd_ne (by assumption) ?_) rfl (v_raw rfl)) rfl rfl rfl ?_
                    refine o_call ((snd25 z q x l[i].node l[i].n _ hV.wz hV.wh hR.rk hR.base (by omega))) goes25 (ac ((by first | exact v_raw rfl | exact v_sptr rfl)) (ac (v_raw rfl) (ac (v_raw rfl) ac_nil))) rfl ?_
                    refine o_q (q_mv (v_tup rfl)) rfl rfl rfl ?_
                    refine o_q (q_ext rfl rfl (v_raw rfl)) rfl rfl rfl ?_
                    refine o_q (q_ext rfl rfl (v_sl rfl)) rfl rfl rfl ?_
                    refine o_q (q_as (v_raw rfl)) rfl rfl rfl ?_
                    refine o_q (q_as (v_sl rfl)) rfl rfl rfl ?_
                    refine o_nil ?_
                    refine s_seq ?_
                    refine s_region ?_
                    refine o_q (q_mv (v_raw rfl)) rfl rfl rfl ?_
                    refine o_q (q_mv (v_raw rfl)) rfl rfl rfl ?_
                    refine o_q (q_eql rfl rfl) rfl rfl rfl ?_
                    refine o_q (q_mv (v_raw rfl)) rfl rfl rfl ?_
                    refine o_yes rfl rfl rfl (decide_eq_true (by rw [hR.wants])) ?_
                    refine o_q (q_mv (v_raw rfl)) rfl rfl rfl ?_
                    refine o_yes rfl rfl rfl (decide_eq_true (by rw [hR.wants])) ?_
                    refine o_q (q_mv (v_sl rfl)) rfl rfl rfl ?_
                    refine o_yes rfl rfl rfl (decide_eq_true (by rw [hR.wants])) ?_
                    refine o_call ((snd26r wb wc (wantsO o l[i].node l[i].n).2 (wantsR x l[i].node l[i].n).2 _ _ hAw hwl)) goes26 (ac (v_raw rfl) (ac (v_sl rfl) ac_nil)) rfl ?_
                    refine o_q (q_pick_c (t := true) rfl (decide_eq_true (by rw [hR.wants])) (v_raw rfl)) rfl rfl rfl ?_
                    refine o_q (q_as (v_raw rfl)) rfl rfl rfl ?_
                    refine o_nil ?_
                    refine s_seq ?_
                    refine s_region ?_
                    refine o_q (q_as (v_raw rfl)) rfl rfl rfl ?_
                    refine o_nil ?_
                    refine s_block ?_
                    refine s_loop (fun m S => ∃ T, ∃ Mj : Mem, ∃ j : Nat, S = ⟨setT (setT (setT (setT (setT (setT (setT (setT T 3 (.sl (l.map encDd) o3)) 9 (bool true)) 12 (ptr y)) 14 (ptr z)) 17 (int (i : Nat))) 19 (bool true)) 25 (rawS wb (wantsO o l[i].node l[i].n).2.length wc)) 28 (int (j : Nat)), Mj⟩ ∧ W4 M Mj y z q o x ∧ Bk M Mj y z q wb (wantsO o l[i].node l[i].n).2.length ∧ j ≤ (wantsO o l[i].node l[i].n).2.length ∧ m = (wantsO o l[i].node l[i].n).2.length - j) (wantsO o l[i].node l[i].n).2.length ?_ ?_
                    · exact ⟨_, _, 0, St.mkT (kp (kp (kp (kp (kp (kp (kp (kp rfl rfl) rfl) rfl) rfl) rfl) (congrArg bool (decide_eq_true (by rw [hR.wants])))) rfl) rfl).symm, hV, hK, by omega, rfl⟩
                    rintro m S ⟨T, Mj, j, rfl, hV, hK, hj, rfl⟩
                    refine s_seq ?_
                    refine s_seq ?_
                    refine s_region ?_
                    refine o_q (q_mv (v_raw rfl)) rfl rfl rfl ?_
                    refine o_q (q_mv (v_raw rfl)) rfl rfl rfl ?_
                    refine o_q (q_lenr rfl und22 rfl) rfl rfl rfl ?_
                    refine o_q (q_lss rfl rfl) rfl rfl rfl ?_
                    refine o_nil ?_
                    refine s_cond rfl (fun h9 => ?_) (fun h9 => ?_)
                    · have k9 := h9; try simp only [decide_eq_true_eq, decide_eq_false_iff_not, Bool.not_eq_true', Bool.not_eq_false', Bool.not_true, Bool.not_false, List.length_map, Decidable.not_not] at k9
                      obtain ⟨cb, cl, e0, hcb, hcl, u1, u2, u3, um⟩ := hK.at_ (by omega)
                      subst e0
                      refine s_skip ?_
                      refine s_seq ?_
                      refine s_block ?_
                      refine s_region ?_
                      refine o_q (q_mv (v_raw rfl)) rfl rfl rfl ?_
                      refine o_q (q_mv (v_raw rfl)) rfl rfl rfl ?_
                      refine o_q (q_idxr und22 sz9 rfl rfl (by omega) (by omega)) rfl rfl rfl ?_
                      refine o_store rfl (by repeat first | exact Mem.upd_self _ _ _ | assumption | refine Mem.upd_ne (by assumption) ?_) (by first | exact e_raw rfl | exact e_agg rfl | exact e_sl rfl | rfl) rfl sz9 rfl (by omega) rfl rfl ?_
                      refine o_nil ?_
                      refine s_blk_normal ?_
                      refine s_region ?_
                      refine o_q (q_mv (v_raw rfl)) rfl rfl rfl ?_
                      refine o_q (q_add rfl rfl (wrap64 (by omega) (by omega))) rfl rfl rfl ?_
                      refine o_q (q_as (v_raw rfl)) rfl rfl rfl ?_
                      refine o_nil ?_
                      refine s_inv ?_
                      exact ⟨(wantsO o l[i].node l[i].n).2.length - (j + 1), by omega, _, _, j + 1, St.mkT (kp (kp (kp (kp (kp (kp (kp (kp rfl rfl) rfl) rfl) rfl) rfl) rfl) rfl) rfl).symm, hV.out u1 u2 u3 um _, hK.out hcb (splice_len (by show _ + 1 ≤ _; omega)), by omega, rfl⟩
                    · have k9 := h9; try simp only [decide_eq_true_eq, decide_eq_false_iff_not, Bool.not_eq_true', Bool.not_eq_false', Bool.not_true, Bool.not_false, List.length_map, Decidable.not_not] at k9
                      refine s_exit ?_
                      refine s_code_exit ?_
                      refine s_inv_exit ?_
                      refine s_blk_here ?_
                      refine s_blk_normal ?_
                      refine s_inv ?_
                      exact ⟨_, _, o, x, St.mkT (kp (kp (kp (kp (kp (kp rfl rfl) rfl) rfl) rfl) rfl) rfl).symm, hV, hR, by omega⟩
          rintro S ⟨T, Mw, o', x', rfl, hW', hR', hol'⟩
          refine s_seq ?_
          refine s_region ?_
          refine o_q (q_mv ((by first | exact v_raw rfl | exact v_sptr rfl))) rfl rfl rfl ?_
          refine o_callx ((snd27r y o' _ hW'.wy (by omega))) goes27 (ac ((by first | exact v_raw rfl | exact v_sptr rfl)) ac_nil) rfl ?_
          rintro r M2 ⟨lb, lc, rfl, hF⟩
          obtain ⟨hV, hK⟩ := Fr.w4 hF hW'
          have hVz := hV.wz
          have hAl := hF.here
          have hlx' : x'.log.length = o'.log.length := by rw [hR'.log]
          refine o_q (q_as (v_raw rfl)) rfl rfl rfl ?_
          refine o_nil ?_
          refine s_seq ?_
          refine s_region ?_
          refine o_q (q_mv (v_raw rfl)) rfl rfl rfl ?_
          refine o_q (q_mv ((by first | exact v_raw rfl | exact v_sptr rfl))) rfl rfl rfl ?_
          refine o_q (q_nil rfl) rfl rfl rfl ?_
          refine o_q (q_fr fo50_2 rfl) rfl rfl rfl ?_
          refine o_q (q_ldm ag22 sz22 rfl (by repeat first | exact Mem.upd_self _ _ _ | assumption | refine Mem.upd_ne (by assumption) ?_) rfl (v_sl rfl)) rfl rfl rfl ?_
          refine o_call ((snd26r lb lc o'.log x'.log _ _ hAl (by omega))) goes26 (ac (v_raw rfl) (ac (v_sl rfl) ac_nil)) rfl ?_
          refine o_q (q_as (v_raw rfl)) rfl rfl rfl ?_
          refine o_nil ?_
          refine s_seq ?_
          refine s_seq ?_
          refine s_draw rfl ?_
          refine d_q rfl (q_mv (v_raw rfl)) rfl rfl rfl ?_
          refine d_q rfl (q_not rfl) rfl rfl rfl ?_
          refine d_q rfl (q_mv (v_raw rfl)) rfl rfl rfl ?_
          refine d_yes rfl (q_mv (v_raw rfl)) rfl rfl rfl rfl rfl rfl ?_
          refine d_yes rfl (q_not rfl) rfl rfl rfl rfl rfl rfl ?_
          refine d_q rfl (q_pick_c (t := false) rfl rfl (v_raw rfl)) rfl rfl rfl ?_
          refine d_q rfl (q_mv (v_raw rfl)) rfl rfl rfl ?_
          refine d_yes rfl (q_mv ((by first | exact v_raw rfl | exact v_sptr rfl))) rfl rfl rfl (by rw [decide_eq_true hR'.log.symm]; rfl) rfl rfl ?_
          refine d_yes rfl (q_mv ((by first | exact v_raw rfl | exact v_sptr rfl))) rfl rfl rfl (by rw [decide_eq_true hR'.log.symm]; rfl) rfl rfl ?_
          refine d_yes rfl (q_nil rfl) rfl rfl rfl (by rw [decide_eq_true hR'.log.symm]; rfl) rfl rfl ?_
          refine d_yes rfl (q_fr fo50_2 rfl) rfl rfl rfl (by rw [decide_eq_true hR'.log.symm]; rfl) rfl rfl ?_
          refine d_yes rfl (q_ldm ag22 sz22 rfl (by repeat first | exact Mem.upd_self _ _ _ | assumption | refine Mem.upd_ne (by assumption) ?_) rfl (v_sl rfl)) rfl rfl rfl (by rw [decide_eq_true hR'.log.symm]; rfl) rfl rfl ?_
          refine d_yes rfl (q_len rfl und22 rfl) rfl rfl rfl (by rw [decide_eq_true hR'.log.symm]; rfl) rfl rfl ?_
          refine d_s rfl ?_
          refine o_yes rfl rfl rfl (by rw [decide_eq_true hR'.log.symm]; rfl) ?_
          refine o_call ((lenE rfl hV.wy)) goes14 (ac ((by first | exact v_raw rfl | exact v_sptr rfl)) ac_nil) rfl ?_
          refine o_nil ⟨(by simp [Mem.upd, *]), ?_⟩
          refine d_yes rfl (q_neq rfl rfl) rfl rfl rfl (by rw [decide_eq_true hR'.log.symm]; rfl) rfl rfl ?_
          refine d_q rfl (q_pick_c (t := false) rfl (by rw [decide_eq_true hR'.log.symm]; rfl) (v_raw rfl)) rfl rfl rfl ?_
          refine d_q rfl (q_mv (v_raw rfl)) rfl rfl rfl ?_
          refine d_yes rfl (q_mv ((by first | exact v_raw rfl | exact v_sptr rfl))) rfl rfl rfl (by rw [List.length_map, hR'.log]; simp) rfl rfl ?_
          refine d_yes rfl (q_mv ((by first | exact v_raw rfl | exact v_sptr rfl))) rfl rfl rfl (by rw [List.length_map, hR'.log]; simp) rfl rfl ?_
          refine d_s rfl ?_
          refine o_yes rfl rfl rfl (by rw [List.length_map, hR'.log]; simp) ?_
          refine o_call ((bytesE rfl hV.wy)) goes17 (ac ((by first | exact v_raw rfl | exact v_sptr rfl)) ac_nil) rfl ?_
          refine o_nil ⟨(by simp [Mem.upd, *]), ?_⟩
          refine d_s rfl ?_
          refine o_yes rfl rfl rfl (by rw [List.length_map, hR'.log]; simp) ?_
          refine o_call ((snd28 z q x' _ hV.wz (by omega))) goes28 (ac ((by first | exact v_raw rfl | exact v_sptr rfl)) ac_nil) rfl ?_
          refine o_nil ⟨(by simp [Mem.upd, *]), ?_⟩
          refine d_yes rfl (q_neq rfl rfl) rfl rfl rfl (by rw [List.length_map, hR'.log]; simp) rfl rfl ?_
          refine d_q rfl (q_pick_c (t := false) rfl (by rw [List.length_map, hR'.log]; simp) (v_raw rfl)) rfl rfl rfl ?_
          refine d_q rfl (q_mv (v_raw rfl)) rfl rfl rfl ?_
          refine d_yes rfl (q_mv ((by first | exact v_raw rfl | exact v_sptr rfl))) rfl rfl rfl (by rw [decide_eq_true hR'.bytes]; rfl) rfl rfl ?_
          refine d_yes rfl (q_mv ((by first | exact v_raw rfl | exact v_sptr rfl))) rfl rfl rfl (by rw [decide_eq_true hR'.bytes]; rfl) rfl rfl ?_
          refine d_yes rfl (q_nil rfl) rfl rfl rfl (by rw [decide_eq_true hR'.bytes]; rfl) rfl rfl ?_
          refine d_yes rfl (q_fr fo50_3 rfl) rfl rfl rfl (by rw [decide_eq_true hR'.bytes]; rfl) rfl rfl ?_
          refine d_yes rfl (q_ldm ag3 sz3 rfl (by repeat first | exact Mem.upd_self _ _ _ | assumption | refine Mem.upd_ne (by assumption) ?_) rfl (v_raw rfl)) rfl rfl rfl (by rw [decide_eq_true hR'.bytes]; rfl) rfl rfl ?_
          refine d_s rfl ?_
          refine o_yes rfl rfl rfl (by rw [decide_eq_true hR'.bytes]; rfl) ?_
          refine o_call ((sureE rfl hV.wy)) goes16 (ac ((by first | exact v_raw rfl | exact v_sptr rfl)) ac_nil) rfl ?_
          refine o_nil ⟨(by simp [Mem.upd, *]), ?_⟩
          refine d_yes rfl (q_neq rfl rfl) rfl rfl rfl (by rw [decide_eq_true hR'.bytes]; rfl) rfl rfl ?_
          refine d_q rfl (q_pick_c (t := false) rfl (by rw [decide_eq_true hR'.bytes]; rfl) (v_raw rfl)) rfl rfl rfl ?_
          refine d_nil ?_
          refine s_else rfl (by rw [decide_eq_true hR'.sure.symm]; rfl) ?_
          refine s_skip ?_
          refine s_seq ?_
          refine s_region ?_
          refine o_q (q_as (v_raw rfl)) rfl rfl rfl ?_
          refine o_nil ?_
          refine s_block ?_
          refine s_loop (fun m S => ∃ T, ∃ Mj : Mem, ∃ j : Nat, S = ⟨setT (setT (setT (setT (setT (setT (setT T 3 (.sl (l.map encDd) o3)) 9 (bool true)) 12 (ptr y)) 14 (ptr z)) 17 (int (i : Nat))) 29 (rawS lb o'.log.length lc)) 31 (int (j : Nat)), Mj⟩ ∧ W4 M Mj y z q o' x' ∧ Bk M Mj y z q lb o'.log.length ∧ j ≤ o'.log.length ∧ m = o'.log.length - j) o'.log.length ?_ ?_
          · exact ⟨_, _, 0, St.mkT (kp (kp (kp (kp (kp (kp (kp rfl rfl) rfl) rfl) rfl) rfl) rfl) rfl).symm, hV, hK, by omega, rfl⟩
          rintro m S ⟨T, Mj, j, rfl, hV, hK, hj, rfl⟩
          refine s_seq ?_
          refine s_seq ?_
          refine s_region ?_
          refine o_q (q_mv (v_raw rfl)) rfl rfl rfl ?_
          refine o_q (q_mv (v_raw rfl)) rfl rfl rfl ?_
          refine o_q (q_lenr rfl und22 rfl) rfl rfl rfl ?_
          refine o_q (q_lss rfl rfl) rfl rfl rfl ?_
          refine o_nil ?_
          refine s_cond rfl (fun h10 => ?_) (fun h10 => ?_)
          · have k10 := h10; try simp only [decide_eq_true_eq, decide_eq_false_iff_not, Bool.not_eq_true', Bool.not_eq_false', Bool.not_true, Bool.not_false, List.length_map, Decidable.not_not] at k10
            obtain ⟨cb, cl, e0, hcb, hcl, u1, u2, u3, um⟩ := hK.at_ (by omega)
            subst e0
            refine s_skip ?_
            refine s_seq ?_
            refine s_block ?_
            refine s_region ?_
            refine o_q (q_mv (v_raw rfl)) rfl rfl rfl ?_
            refine o_q (q_mv (v_raw rfl)) rfl rfl rfl ?_
            refine o_q (q_idxr und22 sz9 rfl rfl (by omega) (by omega)) rfl rfl rfl ?_
            refine o_store rfl (by repeat first | exact Mem.upd_self _ _ _ | assumption | refine Mem.upd_ne (by assumption) ?_) (by first | exact e_raw rfl | exact e_agg rfl | exact e_sl rfl | rfl) rfl sz9 rfl (by omega) rfl rfl ?_
            refine o_nil ?_
            refine s_blk_normal ?_
            refine s_region ?_
            refine o_q (q_mv (v_raw rfl)) rfl rfl rfl ?_
            refine o_q (q_add rfl rfl (wrap64 (by omega) (by omega))) rfl rfl rfl ?_
            refine o_q (q_as (v_raw rfl)) rfl rfl rfl ?_
            refine o_nil ?_
            refine s_inv ?_
            exact ⟨o'.log.length - (j + 1), by omega, _, _, j + 1, St.mkT (kp (kp (kp (kp (kp (kp (kp rfl rfl) rfl) rfl) rfl) rfl) rfl) rfl).symm, hV.out u1 u2 u3 um _, hK.out hcb (splice_len (by show _ + 1 ≤ _; omega)), by omega, rfl⟩
          · have k10 := h10; try simp only [decide_eq_true_eq, decide_eq_false_iff_not, Bool.not_eq_true', Bool.not_eq_false', Bool.not_true, Bool.not_false, List.length_map, Decidable.not_not] at k10
            refine s_exit ?_
            refine s_code_exit ?_
            refine s_inv_exit ?_
            refine s_blk_here ?_
            refine s_blk_normal ?_
            refine s_region ?_
            refine o_q (q_mv (v_raw rfl)) rfl rfl rfl ?_
            refine o_q (q_add rfl rfl (wrap64 (by omega) (by omega))) rfl rfl rfl ?_
            refine o_q (q_as (v_raw rfl)) rfl rfl rfl ?_
            refine o_nil ?_
            refine s_inv ?_
            exact ⟨l.length - (i + 1), by omega, _, _, o', x', i + 1, St.mkT (kp (kp (kp (kp (kp rfl rfl) rfl) rfl) rfl) rfl).symm, hV, hR', by omega, by omega, by omega, rfl⟩
        · have k4 := h4; try simp only [decide_eq_true_eq, decide_eq_false_iff_not, Bool.not_eq_true', Bool.not_eq_false', Bool.not_true, Bool.not_false, List.length_map, Decidable.not_not] at k4
          refine s_exit ?_
          refine s_code_exit ?_
          refine s_inv_exit ?_
          refine s_blk_here ?_
          refine s_seq ?_
          refine s_region ?_
          refine o_q (q_mv (v_raw rfl)) rfl rfl rfl ?_
          refine o_q (q_as (v_raw rfl)) rfl rfl rfl ?_
          refine o_nil ?_
          refine s_ret ?_
          refine s_end ?_
          exact ⟨rfl, hW.le⟩
      · have k3 := h3; try simp only [decide_eq_true_eq, decide_eq_false_iff_not, Bool.not_eq_true', Bool.not_eq_false', Bool.not_true, Bool.not_false, List.length_map, Decidable.not_not] at k3
        refine o_no rfl rfl rfl rfl h3 ?_
        refine o_no rfl rfl rfl rfl h3 ?_
        refine o_q (q_pick_c (t := false) rfl h3 (v_raw rfl)) rfl rfl rfl ?_
        refine o_nil ?_
        refine s_else rfl rfl ?_
        refine s_exit ?_
        refine s_code_exit ?_
        refine s_inv_exit ?_
        refine s_blk_here ?_
        refine s_seq ?_
        refine s_region ?_
        refine o_q (q_mv (v_raw rfl)) rfl rfl rfl ?_
        refine o_q (q_as (v_raw rfl)) rfl rfl rfl ?_
        refine o_nil ?_
        refine s_ret ?_
        refine s_end ?_
        exact ⟨rfl, hW.le⟩
theorem snd4 (self : Int) (nodes : List Int) (o1 : Bool) (log : List ByteArray) (o2 : Bool) (l : List Dd) (o3 : Bool) (M : Mem) (hnl : nodes.length ≤ 2 ^ 44) (hlg : log.length + 200 ≤ 2 ^ 43) (hsz : ∀ s ∈ log, s.size < 2 ^ 61) (hl : l.length < 2 ^ 60) (hq : ∀ d ∈ l, okDd d) : SoundCall Try.prog 4 [int self, .sl (nodes.map int) o1, .sl (log.map str) o2, .sl (l.map encDd) o3] M fun r M' => r = bool true ∧ M.le M' := by
  cases hok : okNew self nodes with
  | false => exact snd4a self nodes o1 log o2 l o3 M hnl hlg hsz hl hq hok
  | true => exact snd4b self nodes o1 log o2 l o3 M hnl hlg hsz hl hq hok

end C18
