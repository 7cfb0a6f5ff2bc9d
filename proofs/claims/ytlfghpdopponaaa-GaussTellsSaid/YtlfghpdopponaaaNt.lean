import Derived.Test.YtlfghpdopponaaaC3
/-! The pairs modulo p: p is a prime, and the powers of a pair are what they are. -/
open Fl
set_option linter.unusedVariables false
set_option linter.unusedSimpArgs false
namespace C3

theorem Pr.ext' {a b : Pr} (h1 : a.re = b.re) (h2 : a.im = b.im) : a = b := by cases a; cases b; simp_all

theorem mulZ_comm (a b : Pr) : mulZ a b = mulZ b a := by
  simp only [mulZ, Pr.mk.injEq]; constructor <;> grind
theorem mulZ_assoc (a b c : Pr) : mulZ (mulZ a b) c = mulZ a (mulZ b c) := by
  simp only [mulZ, Pr.mk.injEq]; constructor <;> grind
theorem mulZ_add (a b c : Pr) : mulZ a (addZ b c) = addZ (mulZ a b) (mulZ a c) := by
  simp only [mulZ, addZ, Pr.mk.injEq]; constructor <;> grind
theorem mulZ_sub (a b c : Pr) : mulZ a (subZ b c) = subZ (mulZ a b) (mulZ a c) := by
  simp only [mulZ, subZ, Pr.mk.injEq]; constructor <;> grind
theorem add_mulZ (a b c : Pr) : mulZ (addZ a b) c = addZ (mulZ a c) (mulZ b c) := by
  simp only [mulZ, addZ, Pr.mk.injEq]; constructor <;> grind
theorem addZ_comm (a b : Pr) : addZ a b = addZ b a := by
  simp only [addZ, Pr.mk.injEq]; constructor <;> omega
theorem addZ_assoc (a b c : Pr) : addZ (addZ a b) c = addZ a (addZ b c) := by
  simp only [addZ, Pr.mk.injEq]; constructor <;> omega
def one : Pr := ⟨1, 0⟩
def zero : Pr := ⟨0, 0⟩
theorem mulZ_one (a : Pr) : mulZ a one = a := by simp [mulZ, one]
theorem one_mulZ (a : Pr) : mulZ one a = a := by simp [mulZ, one]
theorem mulZ_zero (a : Pr) : mulZ a zero = zero := by simp [mulZ, zero]
theorem zero_mulZ (a : Pr) : mulZ zero a = zero := by simp [mulZ, zero]
theorem addZ_zero (a : Pr) : addZ a zero = a := by simp [addZ, zero]
theorem zero_addZ (a : Pr) : addZ zero a = a := by simp [addZ, zero]

/-! ### Modulo p -/

theorem md_md (a : Pr) : md (md a) = md a := by simp [md]
theorem md_addZ (a b : Pr) : md (addZ (md a) b) = md (addZ a b) := by simp [md, addZ]
theorem md_addZ' (a b : Pr) : md (addZ a (md b)) = md (addZ a b) := by simp [md, addZ]
theorem md_subZ (a b : Pr) : md (subZ (md a) b) = md (subZ a b) := by simp [md, subZ]
theorem md_subZ' (a b : Pr) : md (subZ a (md b)) = md (subZ a b) := by simp [md, subZ]
theorem emm (a b n : Int) : a % n * b % n = a * b % n := by simp [Int.mul_emod]
theorem md_mulZ (a b : Pr) : md (mulZ (md a) b) = md (mulZ a b) := by
  simp only [md, mulZ, Pr.mk.injEq]
  constructor
  · rw [Int.sub_emod, emm, emm, ← Int.sub_emod]
  · rw [Int.add_emod, emm, emm, ← Int.add_emod]
theorem md_mulZ' (a b : Pr) : md (mulZ a (md b)) = md (mulZ a b) := by
  rw [mulZ_comm, md_mulZ, mulZ_comm]
theorem cg_mul {a a' b b' : Pr} (h : md a = md a') (h' : md b = md b') : md (mulZ a b) = md (mulZ a' b') := by
  rw [← md_mulZ, h, md_mulZ, ← md_mulZ', h', md_mulZ']
theorem cg_add {a a' b b' : Pr} (h : md a = md a') (h' : md b = md b') : md (addZ a b) = md (addZ a' b') := by
  rw [← md_addZ, h, md_addZ, ← md_addZ', h', md_addZ']

/-! ### Powers -/

def pn (a : Pr) : Nat → Pr
  | 0 => one
  | n + 1 => mulZ (pn a n) a
theorem pn_zero (a : Pr) : pn a 0 = one := rfl
theorem pn_succ (a : Pr) (n : Nat) : pn a (n + 1) = mulZ (pn a n) a := rfl
theorem pn_add (a : Pr) (n : Nat) : ∀ m, pn a (n + m) = mulZ (pn a n) (pn a m)
  | 0 => by rw [pn_zero, mulZ_one]; rfl
  | m + 1 => by rw [← Nat.add_assoc, pn_succ, pn_add a n m, pn_succ, mulZ_assoc]
theorem pn_mul (a : Pr) (n : Nat) : ∀ m, pn a (n * m) = pn (pn a n) m
  | 0 => rfl
  | m + 1 => by rw [Nat.mul_succ, pn_add, pn_mul a n m, pn_succ]
theorem pn_one (n : Nat) : pn one n = one := by
  induction n with
  | zero => rfl
  | succ n ih => rw [pn_succ, ih, mulZ_one]
theorem pn_prod (a b : Pr) : ∀ n, pn (mulZ a b) n = mulZ (pn a n) (pn b n)
  | 0 => by simp only [pn_zero, mulZ_one]
  | n + 1 => by
    rw [pn_succ, pn_prod a b n, pn_succ, pn_succ, mulZ_assoc, mulZ_assoc]
    congr 1
    rw [← mulZ_assoc, mulZ_comm (pn b n) a, mulZ_assoc]
theorem cg_pn {a b : Pr} (h : md a = md b) : ∀ n, md (pn a n) = md (pn b n)
  | 0 => rfl
  | n + 1 => cg_mul (cg_pn h n) h
theorem pn_two (a : Pr) : pn a 2 = mulZ a a := by rw [pn_succ, pn_succ, pn_zero, one_mulZ]

theorem pwF_pn : ∀ (f : Nat) (out z : Pr) (n : Nat), n < 2 ^ f → md (pwF f out z n) = md (mulZ out (pn z n))
  | 0, out, z, n, h => by
    obtain rfl : n = 0 := by simpa using h
    rw [pn_zero, mulZ_one]; rfl
  | f + 1, out, z, n, h => by
    unfold pwF
    by_cases h0 : n = 0
    · rw [if_pos h0, h0, pn_zero, mulZ_one]
    · rw [if_neg h0, pwF_pn f _ _ _ (by rw [Nat.pow_succ] at h; omega)]
      have hz : md (pn (mulP z z) (n / 2)) = md (pn z (2 * (n / 2))) := by
        rw [pn_mul, pn_two]
        exact cg_pn (md_md _) _
      by_cases h1 : n % 2 = 1
      · rw [if_pos h1]
        have e : n = 1 + 2 * (n / 2) := by omega
        have : md (mulZ out (pn z n)) = md (mulZ (mulZ out z) (pn z (2 * (n / 2)))) := by
          conv => lhs; rw [e, pn_add, pn_succ, pn_zero, one_mulZ]
          rw [mulZ_assoc]
        rw [this]
        exact cg_mul (md_md _) hz
      · rw [if_neg h1]
        have e : n = 2 * (n / 2) := by omega
        conv => rhs; rw [e]
        exact cg_mul rfl hz
theorem pw_pn (z : Pr) {n : Nat} (h : n < 2 ^ 63) : pw z n = md (pn z n) := by
  have := pwF_pn 63 ⟨1, 0⟩ z n h
  have e := md_of_right (pw_right z n)
  rw [← e]
  unfold pw
  rw [this]
  exact congrArg md (one_mulZ _)

/-! ### p is a prime -/

def p : Nat := 33554383
theorem chk : (List.range 5793).all (fun d => decide (d < 2) || 33554383 % d != 0) = true := by decide +kernel
theorem no_small {d : Nat} (h2 : 2 ≤ d) (h : d < 5793) : 33554383 % d ≠ 0 := by
  have := List.all_eq_true.1 chk d (List.mem_range.2 h)
  simp only [Bool.or_eq_true, decide_eq_true_eq, bne_iff_ne] at this
  omega
theorem p_prime {d : Nat} (h : d ∣ p) : d = 1 ∨ d = p := by
  obtain ⟨e, he⟩ := h
  have hp : d * e = 33554383 := he.symm
  by_cases h1 : d = 1
  · exact .inl h1
  · right
    have hd0 : d ≠ 0 := fun e => by subst e; simp at hp
    have he0 : e ≠ 0 := fun e' => by subst e'; simp at hp
    by_cases hd : d < 5793
    · exact absurd (by rw [← hp, Nat.mul_mod_right]) (no_small (by omega) hd)
    · by_cases hee : e < 5793
      · by_cases he1 : e = 1
        · subst he1; rw [Nat.mul_one] at hp; exact hp
        · exact absurd (by rw [← hp, Nat.mul_comm, Nat.mul_mod_right]) (no_small (d := e) (by omega) hee)
      · have := Nat.mul_le_mul (show 5793 ≤ d by omega) (show 5793 ≤ e by omega)
        omega
theorem p_coprime {k : Nat} (h0 : 0 < k) (h : k < p) : Nat.Coprime p k := by
  rcases p_prime (Nat.gcd_dvd_left p k) with h1 | h1
  · exact h1
  · have := Nat.le_of_dvd h0 (Nat.gcd_dvd_right p k)
    omega

/-! ### The binomial theorem -/

def ch : Nat → Nat → Nat
  | _, 0 => 1
  | 0, _ + 1 => 0
  | n + 1, k + 1 => ch n k + ch n (k + 1)
theorem ch_zero (n : Nat) : ch n 0 = 1 := by cases n <;> rfl
theorem ch_gt : ∀ (n k : Nat), n < k → ch n k = 0
  | 0, 0, h => by omega
  | 0, k + 1, _ => rfl
  | n + 1, 0, h => by omega
  | n + 1, k + 1, h => by rw [ch, ch_gt n k (by omega), ch_gt n (k + 1) (by omega)]
theorem ch_self : ∀ n, ch n n = 1
  | 0 => rfl
  | n + 1 => by rw [ch, ch_self n, ch_gt n (n + 1) (by omega)]
theorem ch_mul : ∀ n k, (k + 1) * ch (n + 1) (k + 1) = (n + 1) * ch n k
  | 0, 0 => rfl
  | 0, k + 1 => by
    have h1 : ch 0 (k + 1) = 0 := rfl
    have h2 : ch (0 + 1) (k + 1 + 1) = 0 := rfl
    rw [h1, h2, Nat.mul_zero, Nat.mul_zero]
  | n + 1, 0 => by
    have h := ch_mul n 0
    have e : ch (n + 1 + 1) (0 + 1) = ch (n + 1) 0 + ch (n + 1) (0 + 1) := rfl
    rw [e, ch_zero (n + 1)]
    rw [ch_zero n] at h
    omega
  | n + 1, k + 1 => by
    have h1 := ch_mul n k
    have h2 := ch_mul n (k + 1)
    have e1 : ch (n + 1) (k + 1) = ch n k + ch n (k + 1) := rfl
    have e2 : ch (n + 1 + 1) (k + 1 + 1) = ch (n + 1) (k + 1) + ch (n + 1) (k + 1 + 1) := rfl
    rw [e2, Nat.mul_add]
    have e3 : (k + 1 + 1) * ch (n + 1) (k + 1) = ch (n + 1) (k + 1) + (k + 1) * ch (n + 1) (k + 1) := by rw [Nat.succ_mul]; omega
    rw [e3, h1, h2]
    have e4 : (n + 1 + 1) * ch (n + 1) (k + 1) = ch (n + 1) (k + 1) + (n + 1) * ch (n + 1) (k + 1) := by rw [Nat.succ_mul]; omega
    rw [e4, e1, Nat.mul_add]
    omega
theorem ch_dvd {k : Nat} (h0 : 0 < k) (h : k < p) : p ∣ ch p k := by
  obtain ⟨j, rfl⟩ : ∃ j, k = j + 1 := ⟨k - 1, by omega⟩
  have h1 := ch_mul 33554382 j
  have : p ∣ (j + 1) * ch p (j + 1) := ⟨ch 33554382 j, h1⟩
  exact (p_coprime h0 h).dvd_of_dvd_mul_left this

def scal (c : Nat) (a : Pr) : Pr := ⟨c * a.re, c * a.im⟩
theorem scal_one (a : Pr) : scal 1 a = a := by simp [scal]
theorem scal_zero (a : Pr) : scal 0 a = zero := by simp [scal, zero]
theorem scal_add (c d : Nat) (a : Pr) : scal (c + d) a = addZ (scal c a) (scal d a) := by
  simp only [scal, addZ, Pr.mk.injEq]; constructor <;> (push_cast; grind)
theorem mul_scal (c : Nat) (a b : Pr) : mulZ a (scal c b) = scal c (mulZ a b) := by
  simp only [scal, mulZ, Pr.mk.injEq]; constructor <;> grind
theorem scal_dvd {c : Nat} (h : p ∣ c) (a : Pr) : md (scal c a) = zero := by
  obtain ⟨k, rfl⟩ := h
  have e : ((p * k : Nat) : Int) = 33554383 * k := by push_cast; rfl
  refine Pr.ext' ?_ ?_
  · show ((p * k : Nat) : Int) * a.re % 33554383 = 0
    rw [e, Int.mul_assoc]; exact Int.mul_emod_right _ _
  · show ((p * k : Nat) : Int) * a.im % 33554383 = 0
    rw [e, Int.mul_assoc]; exact Int.mul_emod_right _ _

def sm (f : Nat → Pr) : Nat → Pr
  | 0 => zero
  | n + 1 => addZ (sm f n) (f n)
theorem sm_congr {f g : Nat → Pr} : ∀ n, (∀ k, k < n → f k = g k) → sm f n = sm g n
  | 0, _ => rfl
  | n + 1, h => by rw [sm, sm, sm_congr n (fun k hk => h k (by omega)), h n (by omega)]
theorem sm_head (f : Nat → Pr) : ∀ n, sm f (n + 1) = addZ (f 0) (sm (fun k => f (k + 1)) n)
  | 0 => by simp only [sm, zero_addZ, addZ_zero]
  | n + 1 => by rw [sm, sm_head f n, sm, addZ_assoc]
theorem sm_add (f g : Nat → Pr) : ∀ n, sm (fun k => addZ (f k) (g k)) n = addZ (sm f n) (sm g n)
  | 0 => by simp only [sm, addZ_zero]
  | n + 1 => by
    rw [sm, sm_add f g n, sm, sm, addZ_assoc, addZ_assoc]
    congr 1
    rw [← addZ_assoc, addZ_comm (sm g n), addZ_assoc]
theorem sm_mul (a : Pr) (f : Nat → Pr) : ∀ n, sm (fun k => mulZ a (f k)) n = mulZ a (sm f n)
  | 0 => by rw [sm, sm, mulZ_zero]
  | n + 1 => by rw [sm, sm_mul a f n, sm, mulZ_add]

def bt (a b : Pr) (n k : Nat) : Pr := scal (ch n k) (mulZ (pn a k) (pn b (n - k)))
theorem bt_zero (a b : Pr) (n : Nat) : bt a b (n + 1) 0 = mulZ b (bt a b n 0) := by
  unfold bt
  rw [ch_zero, ch_zero, scal_one, scal_one, pn_zero, one_mulZ, one_mulZ, Nat.sub_zero, Nat.sub_zero, pn_succ, mulZ_comm]
theorem bt_succ (a b : Pr) (n k : Nat) (h : k ≤ n) : bt a b (n + 1) (k + 1) = addZ (mulZ a (bt a b n k)) (mulZ b (bt a b n (k + 1))) := by
  unfold bt
  rw [show ch (n + 1) (k + 1) = ch n k + ch n (k + 1) from rfl, scal_add, mul_scal, mul_scal, show n + 1 - (k + 1) = n - k by omega]
  congr 1
  · rw [pn_succ, mulZ_comm (pn a k) a, mulZ_assoc]
  · by_cases hk : k = n
    · subst hk
      rw [ch_gt k (k + 1) (by omega), scal_zero, scal_zero]
    · obtain ⟨j, hj⟩ : ∃ j, n - k = j + 1 := ⟨n - k - 1, by omega⟩
      rw [hj, show n - (k + 1) = j by omega, pn_succ b j]
      congr 1
      rw [← mulZ_assoc, mulZ_comm _ b]
theorem binomial (a b : Pr) : ∀ n, pn (addZ a b) n = sm (bt a b n) (n + 1)
  | 0 => by
    rw [sm, sm, zero_addZ]
    unfold bt
    rw [ch_zero, scal_one, pn_zero, pn_zero, pn_zero, mulZ_one]
  | n + 1 => by
    rw [pn_succ, binomial a b n, sm_head (bt a b (n + 1)) (n + 1), bt_zero]
    rw [sm_congr (g := fun k => addZ (mulZ a (bt a b n k)) (mulZ b (bt a b n (k + 1)))) (n + 1) (fun k hk => bt_succ a b n k (by omega))]
    rw [sm_add, sm_mul, sm_mul b (fun k => bt a b n (k + 1))]
    have hz : bt a b n (n + 1) = zero := by unfold bt; rw [ch_gt n (n + 1) (by omega), scal_zero]
    have h1 : sm (bt a b n) (n + 1 + 1) = sm (bt a b n) (n + 1) := by rw [sm, hz, addZ_zero]
    have h2 := sm_head (bt a b n) (n + 1)
    rw [h1] at h2
    rw [mulZ_comm _ (addZ a b), add_mulZ]
    rw [← addZ_assoc, addZ_comm _ (mulZ a _), addZ_assoc]
    congr 1
    rw [← mulZ_add, ← h2]

/-- The p-th power of a sum. -/
theorem dream (a b : Pr) : md (pn (addZ a b) p) = md (addZ (pn a p) (pn b p)) := by
  rw [binomial, sm_head]
  have e0 : bt a b p 0 = pn b p := by unfold bt; rw [ch_zero, scal_one, pn_zero, one_mulZ, Nat.sub_zero]
  have e1 : bt a b p p = pn a p := by unfold bt; rw [ch_self, scal_one, Nat.sub_self, pn_zero, mulZ_one]
  rw [e0]
  have hmid : ∀ n, n < p → md (sm (fun k => bt a b p (k + 1)) n) = zero := by
    intro n
    induction n with
    | zero => intro _; rfl
    | succ n ih =>
      intro hn
      rw [sm]
      have h1 := ih (by omega)
      have h2 : md (bt a b p (n + 1)) = zero := scal_dvd (ch_dvd (by omega) hn) _
      rw [cg_add (a' := zero) (b' := zero) (h1.trans rfl) (h2.trans rfl)]; rfl
  obtain ⟨n, hn⟩ : ∃ n, p = n + 1 := ⟨33554382, rfl⟩
  have hlast : ∀ (f : Nat → Pr) (m : Nat), m = n + 1 → sm f m = addZ (sm f n) (f n) := fun f m e => by rw [e, sm]
  rw [hlast _ p hn]
  have e3 : bt a b p (n + 1) = pn a p := by rw [← hn]; exact e1
  rw [e3, addZ_comm (pn a p)]
  refine cg_add rfl ?_
  have hz := hmid n (by omega)
  rw [cg_add (a' := zero) (b' := pn a p) (hz.trans rfl) rfl, zero_addZ]

/-! ### Fermat, and the conjugate -/

theorem fermat : ∀ x : Nat, md (pn ⟨x, 0⟩ p) = md ⟨x, 0⟩
  | 0 => by
    have : pn ⟨(0 : Nat), 0⟩ p = zero := by
      obtain ⟨n, hn⟩ : ∃ n, p = n + 1 := ⟨33554382, rfl⟩
      rw [hn, pn_succ]
      exact mulZ_zero _
    rw [this]; rfl
  | x + 1 => by
    have e : (⟨((x + 1 : Nat) : Int), 0⟩ : Pr) = addZ ⟨x, 0⟩ one := by simp [addZ, one]
    rw [e, dream, pn_one]
    exact cg_add (fermat x) rfl
theorem fermat' {x : Int} (h : 0 ≤ x) : md (pn ⟨x, 0⟩ p) = md ⟨x, 0⟩ := by
  obtain ⟨n, rfl⟩ := Int.eq_ofNat_of_zero_le h
  exact fermat n
def conj (a : Pr) : Pr := ⟨a.re, -a.im⟩
theorem pn_i : pn ⟨0, 1⟩ p = ⟨0, -1⟩ := by
  have e : p = 4 * 8388595 + 3 := rfl
  rw [e, pn_add, pn_mul]
  have h4 : pn ⟨0, 1⟩ 4 = one := by decide
  rw [h4, pn_one, one_mulZ]
  decide
theorem frob {a : Pr} (ha : right a = true) : md (pn a p) = md (conj a) := by
  have hr := right_spec.1 ha
  have e : a = addZ ⟨a.re, 0⟩ (mulZ ⟨a.im, 0⟩ ⟨0, 1⟩) := by cases a; simp [addZ, mulZ]
  have e2 : conj a = addZ ⟨a.re, 0⟩ (mulZ ⟨a.im, 0⟩ ⟨0, -1⟩) := by cases a; simp [addZ, mulZ, conj]
  conv => lhs; rw [e]
  rw [dream, pn_prod, pn_i, e2]
  exact cg_add (fermat' hr.1) (cg_mul (fermat' hr.2.2.1) rfl)
theorem conj_mul (a : Pr) : mulZ (conj a) a = ⟨a.re * a.re + a.im * a.im, 0⟩ := by
  simp only [conj, mulZ, Pr.mk.injEq]; constructor <;> grind
theorem nrm_pow {a : Pr} (ha : right a = true) : md (pn a (p + 1)) = md ⟨nrm a, 0⟩ := by
  rw [pn_succ, cg_mul (frob ha) rfl, conj_mul]
  simp [md, nrm]
theorem md_conj (a : Pr) : md (conj (md a)) = md (conj a) := by
  simp only [md, conj, Pr.mk.injEq]; constructor <;> omega
theorem frob2 {a : Pr} (ha : right a = true) : md (pn a (p * p)) = a := by
  rw [pn_mul, cg_pn (b := md (conj a)) ((frob ha).trans (md_md _).symm) p]
  rw [frob (md_right _), md_conj]
  have : conj (conj a) = a := by cases a; simp [conj]
  rw [this, md_of_right ha]
/-- The norm is 0 of 0 alone. -/
theorem nrm_zero {a : Pr} (ha : right a = true) : nrm a = 0 ↔ a = ⟨0, 0⟩ := by
  constructor
  · intro h
    have h1 := nrm_pow ha
    rw [h] at h1
    have h2 := frob2 ha
    have e : p * p = (p + 1) + (p * p - (p + 1)) := by decide
    rw [e, pn_add, cg_mul (a' := zero) (h1.trans rfl) rfl, zero_mulZ] at h2
    exact h2.symm
  · rintro rfl; rfl
theorem nrm_range (a : Pr) : 0 ≤ nrm a ∧ nrm a < 33554383 := ⟨Int.emod_nonneg _ (by decide), Int.emod_lt_of_pos _ (by decide)⟩
theorem pn_int (x : Int) : ∀ n, pn ⟨x, 0⟩ n = ⟨x ^ n, 0⟩
  | 0 => by simp [pn, one]
  | n + 1 => by rw [pn_succ, pn_int x n]; simp [mulZ, Int.pow_succ]
theorem little {x : Int} (h0 : 0 < x) (h1 : x < 33554383) : md (pn ⟨x, 0⟩ (p - 1)) = one := by
  obtain ⟨n, rfl⟩ := Int.eq_ofNat_of_zero_le (Int.le_of_lt h0)
  have hf := fermat n
  rw [pn_int] at hf
  rw [pn_int]
  simp only [md, Pr.mk.injEq] at hf
  have h2 := hf.1
  have hp : (n : Int) ^ p = n * n ^ (p - 1) := by
    have : p = (p - 1) + 1 := rfl
    rw [this, Int.pow_succ, Int.mul_comm]; rfl
  rw [hp] at h2
  have hd : (33554383 : Int) ∣ n * (n ^ (p - 1) - 1) := by
    rw [Int.mul_sub, Int.mul_one]
    exact Int.dvd_of_emod_eq_zero (by rw [Int.sub_emod, h2]; simp)
  have hn1 : (1 : Int) ≤ (n : Int) ^ (p - 1) := Int.pow_pos h0
  obtain ⟨q, hq⟩ := Int.eq_ofNat_of_zero_le (show 0 ≤ (n : Int) ^ (p - 1) - 1 by omega)
  rw [hq] at hd
  have hd' : p ∣ n * q := by
    have : ((p : Nat) : Int) ∣ ((n * q : Nat) : Int) := by push_cast; exact hd
    exact Int.natCast_dvd_natCast.1 this
  have hq' := (p_coprime (k := n) (by omega) (by show n < 33554383; omega)).dvd_of_dvd_mul_left hd'
  obtain ⟨r, rfl⟩ := hq'
  have e : (n : Int) ^ (p - 1) = 1 + 33554383 * r := by
    have : ((p * r : Nat) : Int) = 33554383 * r := by push_cast; rfl
    omega
  rw [e]
  simp only [md, one, Pr.mk.injEq]
  constructor <;> omega

/-- The inverse is one. -/
theorem inv_mul {a : Pr} (ha : right a = true) (h0 : a ≠ ⟨0, 0⟩) : mulP a (pw a 1125896618510687) = ⟨1, 0⟩ := by
  have hn : nrm a ≠ 0 := fun h => h0 ((nrm_zero ha).1 h)
  have hr := nrm_range a
  unfold mulP
  rw [pw_pn a (by decide), md_mulZ', mulZ_comm, ← pn_succ]
  have e : 1125896618510687 + 1 = (p + 1) * (p - 1) := by decide
  rw [e, pn_mul, cg_pn (nrm_pow ha), little (by omega) (by omega)]; rfl
theorem inv_eq {a : Pr} (ha : right a = true) : pw a 1125896618510687 = rinv a := by
  have hr := right_spec.1 ha
  rw [pw_pn a (by decide)]
  have e : 1125896618510687 = p * (p - 1) + (p - 2) := by decide
  rw [e, pn_add, pn_mul]
  have h1 : md (pn (pn a p) (p - 1)) = md (mulZ (conj a) (pn (conj a) (p - 2))) := by
    rw [cg_pn (frob ha)]
    have : p - 1 = (p - 2) + 1 := rfl
    rw [this, pn_succ, mulZ_comm]
  rw [cg_mul h1 rfl, mulZ_assoc, ← pn_prod, conj_mul]
  have h2 : md (pn ⟨a.re * a.re + a.im * a.im, 0⟩ (p - 2)) = pw ⟨nrm a, 0⟩ 33554381 := by
    rw [pw_pn _ (by decide)]
    exact cg_pn (by simp [md, nrm]) _
  have h3 : md (pn ⟨a.re * a.re + a.im * a.im, 0⟩ (p - 2)) = md ⟨(pw ⟨nrm a, 0⟩ 33554381).re, 0⟩ := by
    rw [h2]
    have hz : (pw ⟨nrm a, 0⟩ 33554381).im = 0 := by
      rw [pw_pn _ (by decide), pn_int]
      simp [md]
    have hrr := right_spec.1 (pw_right ⟨nrm a, 0⟩ 33554381)
    refine Pr.ext' ?_ ?_
    · show _ = (pw ⟨nrm a, 0⟩ 33554381).re % 33554383; omega
    · show _ = (0 : Int) % 33554383; omega
  rw [cg_mul rfl h3]
  simp only [rinv, md, conj, mulZ, Pr.mk.injEq]
  refine ⟨by congr 1; grind, ?_⟩
  have : (33554383 - a.im) % 33554383 * (pw ⟨nrm a, 0⟩ 33554381).re % 33554383 = (33554383 - a.im) * (pw ⟨nrm a, 0⟩ 33554381).re % 33554383 := emm _ _ _
  rw [this, Int.sub_mul]
  have e5 : a.re * 0 + -a.im * (pw ⟨nrm a, 0⟩ 33554381).re = -(a.im * (pw ⟨nrm a, 0⟩ 33554381).re) := by grind
  rw [e5]
  generalize a.im * (pw ⟨nrm a, 0⟩ 33554381).re = u
  generalize (pw ⟨nrm a, 0⟩ 33554381).re = v
  omega
/-- The norm of a product. -/
theorem nrm_mul (a b : Pr) : nrm (md (mulZ a b)) = nrm a * nrm b % 33554383 := by
  have h1 : nrm (md (mulZ a b)) = nrm (mulZ a b) := by
    simp [nrm, md, Int.add_emod, Int.mul_emod]
  rw [h1]
  unfold nrm
  rw [← Int.mul_emod]
  congr 1
  simp only [mulZ]
  grind
/-! ### Digests -/
def gg : Pr := ⟨2, 3⟩
theorem stepO_eq (z : Pr) (c : Nat) : stepO z c = addZ (mulZ (md z) gg) ⟨(c : Int) + 1, 0⟩ := by
  simp only [stepO, addZ, mulZ, gg, Pr.mk.injEq]
theorem beginO_eq (d : Pr) (n : Nat) : beginO d n = addZ (mulZ d gg) ⟨(257 + (n : Int)).tmod 33554383, 0⟩ := by
  simp only [beginO, addZ, mulZ, gg, Pr.mk.injEq]
theorem sub_cancel (a b c : Pr) : subZ (addZ a c) (addZ b c) = subZ a b := by
  simp only [subZ, addZ, Pr.mk.injEq]; constructor <;> omega
theorem sub_mulZ (a b c : Pr) : mulZ (subZ a b) c = subZ (mulZ a c) (mulZ b c) := by
  simp only [mulZ, subZ, Pr.mk.injEq]; constructor <;> grind
theorem step_diff (z z' : Pr) (c : Nat) : md (subZ (stepO z c) (stepO z' c)) = md (mulZ (subZ z z') gg) := by
  rw [stepO_eq, stepO_eq, sub_cancel, ← sub_mulZ]
  exact cg_mul (by rw [md_subZ, md_subZ']) rfl
theorem fold_diff : ∀ (bs : List UInt8) (z z' : Pr), md (subZ (bs.foldl (fun z c => stepO z c.toNat) z) (bs.foldl (fun z c => stepO z c.toNat) z')) = md (mulZ (subZ z z') (pn gg bs.length))
  | [], z, z' => by rw [List.foldl_nil, List.foldl_nil, List.length_nil, pn_zero, mulZ_one]
  | c :: bs, z, z' => by
    rw [List.foldl_cons, List.foldl_cons, fold_diff bs, List.length_cons]
    rw [cg_mul (step_diff z z' c.toNat) rfl, mulZ_assoc, mulZ_comm gg, ← pn_succ]
theorem on_diff (d d' : Pr) (s : ByteArray) : md (subZ (onP d s) (onP d' s)) = md (mulZ (subZ d d') (pn gg (s.size + 1))) := by
  unfold onP onZ
  rw [md_subZ, md_subZ', fold_diff]
  have e : md (subZ (beginO d s.size) (beginO d' s.size)) = md (mulZ (subZ d d') gg) := by
    rw [beginO_eq, beginO_eq, sub_cancel, ← sub_mulZ]
  rw [cg_mul e rfl, mulZ_assoc, mulZ_comm gg, ← pn_succ]
  have : s.data.toList.length = s.size := Array.length_toList
  rw [this]
def onAll (d : Pr) (l : List ByteArray) : Pr := l.foldl onP d
def stepsOf (l : List ByteArray) : Nat := (l.map fun s => s.size + 1).sum
theorem onAll_diff : ∀ (l : List ByteArray) (d d' : Pr), md (subZ (onAll d l) (onAll d' l)) = md (mulZ (subZ d d') (pn gg (stepsOf l)))
  | [], d, d' => by
    show md (subZ d d') = md (mulZ (subZ d d') (pn gg 0))
    rw [pn_zero, mulZ_one]
  | s :: l, d, d' => by
    show md (subZ (onAll (onP d s) l) (onAll (onP d' s) l)) = _
    rw [onAll_diff l, cg_mul (on_diff d d' s) rfl, mulZ_assoc, ← pn_add]
    rfl
theorem onAll_right {d : Pr} (hd : right d = true) : ∀ l : List ByteArray, right (onAll d l) = true := by
  intro l
  induction l generalizing d with
  | nil => exact hd
  | cons s l ih => exact ih (md_right _)
theorem onAll_succ (d : Pr) (l : List ByteArray) {i : Nat} (h : i < l.length) : onAll d (l.take (i + 1)) = onP (onAll d (l.take i)) l[i] := by
  unfold onAll
  rw [List.take_succ_eq_append_getElem h, List.foldl_append]; rfl
theorem stepsOf_succ (l : List ByteArray) {i : Nat} (h : i < l.length) : stepsOf (l.take (i + 1)) = stepsOf (l.take i) + (l[i].size + 1) := by
  unfold stepsOf
  rw [List.take_succ_eq_append_getElem h, List.map_append, List.sum_append]
  simp
/-- The digest of texts, joined. -/
theorem join_all {d : Pr} (hd : right d = true) (l : List ByteArray) (hs : stepsOf l < 2 ^ 63) : joinP d (onAll one l) (stepsOf l) = onAll d l := by
  unfold joinP
  have hr := onAll_right hd l
  rw [md_addZ, pw_pn _ hs]
  have h1 := onAll_diff l d one
  have h2 : md (mulZ (md (subZ d ⟨1, 0⟩)) (md (pn ⟨2, 3⟩ (stepsOf l)))) = md (subZ (onAll d l) (onAll one l)) := by
    rw [md_mulZ, md_mulZ']; exact h1.symm
  rw [cg_add h2 rfl]
  have e : addZ (subZ (onAll d l) (onAll one l)) (onAll one l) = onAll d l := by
    cases onAll d l; cases onAll one l
    simp only [addZ, subZ, Pr.mk.injEq]; constructor <;> omega
  rw [e, md_of_right hr]

theorem gg_inv : ∃ h : Pr, md (mulZ gg h) = one := ⟨pw gg 1125896618510687, inv_mul (a := gg) (by decide) (by decide)⟩
theorem gg_inj {z z' : Pr} (h : md (mulZ z gg) = md (mulZ z' gg)) : md z = md z' := by
  obtain ⟨i, hi⟩ := gg_inv
  have h1 := cg_mul (b := i) (b' := i) h rfl
  rw [mulZ_assoc, mulZ_assoc, cg_mul (a := z) (a' := z) (b' := one) rfl (hi.trans rfl), cg_mul (a := z') (a' := z') (b' := one) rfl (hi.trans rfl), mulZ_one, mulZ_one] at h1
  exact h1
theorem add_cancel {a b c : Pr} (h : md (addZ a c) = md (addZ b c)) : md a = md b := by
  simp only [md, addZ, Pr.mk.injEq] at h ⊢
  omega
theorem step_inj {z z' : Pr} {c : Nat} (h : md (stepO z c) = md (stepO z' c)) : md z = md z' := by
  rw [stepO_eq, stepO_eq] at h
  have h1 := gg_inj (add_cancel h)
  rwa [md_md, md_md] at h1
theorem fold_inj : ∀ (bs : List UInt8) {z z' : Pr}, md (bs.foldl (fun z c => stepO z c.toNat) z) = md (bs.foldl (fun z c => stepO z c.toNat) z') → md z = md z'
  | [], z, z', h => h
  | c :: bs, z, z', h => step_inj (fold_inj bs (z := stepO z c.toNat) (z' := stepO z' c.toNat) h)
theorem fold_inj_md {bs : List UInt8} {z z' : Pr} (h : md (bs.foldl (fun z c => stepO z c.toNat) z) = md (bs.foldl (fun z c => stepO z c.toNat) z')) : md z = md z' := fold_inj bs h
theorem step_byte {z : Pr} {c c' : Nat} (hc : c < 256) (hc' : c' < 256) (h : md (stepO z c) = md (stepO z c')) : c = c' := by
  simp only [md, stepO, Pr.mk.injEq] at h
  omega
/-- One byte that is another one tells. -/
theorem on_tells (d : Pr) (s : ByteArray) (j : Nat) (hj : j < s.size) (b : UInt8) (hb : b ≠ s.data[j]'hj) : onP d s ≠ onP d ⟨s.data.set j b hj⟩ := by
  intro h
  unfold onP at h
  have hsz : (⟨s.data.set j b hj⟩ : ByteArray).size = s.size := by show (s.data.set j b hj).size = _; simp
  rw [hsz] at h
  unfold onZ at h
  have hj' : j < s.data.toList.length := by simpa using hj
  have e1 : s.data.toList = s.data.toList.take j ++ s.data.toList[j] :: s.data.toList.drop (j + 1) := by
    rw [List.getElem_cons_drop, List.take_append_drop]
  have e2 : (⟨s.data.set j b hj⟩ : ByteArray).data.toList = s.data.toList.take j ++ b :: s.data.toList.drop (j + 1) := by
    show (s.data.set j b hj).toList = _
    rw [Array.toList_set, List.set_eq_take_append_cons_drop, if_pos hj']
  rw [e2] at h
  conv at h => lhs; rw [e1]
  rw [List.foldl_append, List.foldl_append, List.foldl_cons, List.foldl_cons] at h
  have h1 := step_byte (UInt8.toNat_lt _) (UInt8.toNat_lt _) (fold_inj_md h)
  refine hb (UInt8.toNat_inj.1 ?_)
  rw [← h1]; rfl
theorem pw_add (a : Pr) {n m : Nat} (h : n + m < 2 ^ 63) : mulP (pw a n) (pw a m) = pw a (n + m) := by
  rw [pw_pn a (n := n) (by omega), pw_pn a (n := m) (by omega), pw_pn a h, pn_add]
  unfold mulP
  rw [md_mulZ, md_mulZ']
end C3
