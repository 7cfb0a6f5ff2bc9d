import Derived.Test.YtphenhkofjbeoaaAm37
/-! The walk: several results; strings and bytes; bits. -/
namespace Go.Am
set_option linter.unusedSimpArgs false
set_option linter.unusedSectionVars false

section
variable {P : Program} {tkr : Nat → Option Nat} {ops : Array Oper} {K : St → Prop} {i : Nat} {rest : List Oper} {d : Nat} {V X : AVal} {T : Nat → AVal} {M : Mem} {ty t₁ t₂ : TypeId} {pos : String} {af : Array Edge} {x y z : Operand} {g : Option (Nat × Bool)} {dst : Option Nat} {a b : Int} {k : IntKind}

/-! ### Results -/

def RL (P : Program) (T : Nat → AVal) (M : Mem) (rs : List ResultVar) (Vs : List AVal) : Prop := rs.mapM (aRes1 P ⟨T, M⟩) = some Vs

theorem rl_nil : RL P T M [] [] := rfl
theorem rl_t {t : Nat} {rs : List ResultVar} {Vs : List AVal} (hV : T t = V) (h : RL P T M rs Vs) : RL P T M (.tmp t :: rs) (V :: Vs) := by
  unfold RL at *
  rw [List.mapM_cons, h]
  subst hV; rfl
theorem rl_c {a' b o : Nat} {t : TypeId} {l : List AVal} {W : AVal} {rs : List ResultVar} {Vs : List AVal} (hA : T a' = .raw (.pointer (some ⟨b, o, none⟩))) (hM : M b = some (.cells l)) (hl : loadP P t l o = some W) (hV : W.shut = V) (h : RL P T M rs Vs) : RL P T M (.cell a' t :: rs) (V :: Vs) := by
  unfold RL at *
  rw [List.mapM_cons, h]
  simp only [aRes1, hA, hM, hl, Option.map_some, hV]
  rfl
theorem ret_many {fn : Func} {rs : List ResultVar} {Vs : List AVal} {Post : AVal → Mem → Prop} {e : Exit} (he : e = .ret ∨ e = .normal) (hr : fn.results.toList = rs) (h : RL P T M rs Vs) (hn : Nat.beq rs.length 1 = false) (hp : Post (.tup Vs) M) : aRet P fn Post e ⟨T, M⟩ := by
  have : aResults P ⟨T, M⟩ fn.results.toList = some (.tup Vs) := by
    rw [hr]
    unfold RL at h
    match rs, h, hn with
    | [], h, _ => simp only [aResults, h, Option.map_some]
    | x :: y :: zs, h, _ => simp only [aResults, h, Option.map_some]
  rcases he with rfl | rfl
  · show (match aResults P ⟨T, M⟩ fn.results.toList with | some r => Post r M | none => False)
    rw [this]; exact hp
  · show (match aResults P ⟨T, M⟩ fn.results.toList with | some r => Post r M | none => False)
    rw [this]; exact hp
theorem ret_one {fn : Func} {rv : ResultVar} {V : AVal} {Post : AVal → Mem → Prop} {e : Exit} (he : e = .ret ∨ e = .normal) (hr : fn.results.toList = [rv]) (h : RL P T M [rv] [V]) (hp : Post V M) : aRet P fn Post e ⟨T, M⟩ := by
  have : aResults P ⟨T, M⟩ fn.results.toList = some V := by
    rw [hr]
    unfold RL at h
    rw [List.mapM_cons] at h
    simp only [aResults]
    cases h1 : aRes1 P ⟨T, M⟩ rv with
    | none => rw [h1] at h; cases h
    | some W =>
      rw [h1] at h
      simp only [List.mapM_nil, Option.bind_eq_bind, Option.bind_some] at h
      have := Option.some.inj h
      simp only [List.cons.injEq, and_true] at this
      rw [this]
  rcases he with rfl | rfl
  · show (match aResults P ⟨T, M⟩ fn.results.toList with | some r => Post r M | none => False)
    rw [this]; exact hp
  · show (match aResults P ⟨T, M⟩ fn.results.toList with | some r => Post r M | none => False)
    rw [this]; exact hp

/-! ### Strings -/

theorem q_lens {ats : Array TypeId} {t : TypeId} {s : ByteArray} (h0 : ats[0]? = some t) (hu : P.underlying t = some .string) (hx : ev T x = .raw (.string s)) : qstep P none (mkO dst (.call { callee := .builtin .len, args := #[x], argTypes := ats }) ty pos af g) T M = some (⟨none, .raw (.int .i64 s.size)⟩, []) := by
  have e : aop P T M ty (.call { callee := .builtin .len, args := #[x], argTypes := ats }) = some (.raw (.int .i64 s.size)) := by
    simp only [aop, List.map, aBuiltin, hx]
    have : pr P (Builtin.len_ ats ty #[.string s]) = some (.int .i64 s.size) := by
      unfold Builtin.len_
      simp only [h0]
      show pr P ((underlying t) >>= _) = _
      rw [pr_b, pr_underlying hu]; rfl
    rw [this]; rfl
  have e2 : readsOf T (.call { callee := .builtin .len, args := #[x], argTypes := ats }) = [] := by simp only [readsOf, List.map, hx]
  show (aop P T M ty (.call { callee := .builtin .len, args := #[x], argTypes := ats })).map _ = _
  rw [e, Option.map_some, e2]; rfl

theorem q_lenr {ats : Array TypeId} {t e : TypeId} {p : Option Addr} {n c : Nat} (h0 : ats[0]? = some t) (hu : P.underlying t = some (.slice e)) (hx : ev T x = .raw (.slice p n c)) : qstep P none (mkO dst (.call { callee := .builtin .len, args := #[x], argTypes := ats }) ty pos af g) T M = some (⟨none, .raw (.int .i64 n)⟩, []) := by
  have e : aop P T M ty (.call { callee := .builtin .len, args := #[x], argTypes := ats }) = some (.raw (.int .i64 n)) := by
    simp only [aop, List.map, aBuiltin, hx]
    have : pr P (Builtin.len_ ats ty #[.slice p n c]) = some (.int .i64 n) := by
      unfold Builtin.len_
      simp only [h0]
      show pr P ((underlying t) >>= _) = _
      rw [pr_b, pr_underlying hu]; rfl
    rw [this]; rfl
  have e2 : readsOf T (.call { callee := .builtin .len, args := #[x], argTypes := ats }) = [] := by simp only [readsOf, List.map, hx]
  show (aop P T M ty (.call { callee := .builtin .len, args := #[x], argTypes := ats })).map _ = _
  rw [e, Option.map_some, e2]; rfl

theorem q_stri {s : ByteArray} {n : Nat} (hu : P.underlying t₁ = some .string) (hx : ev T x = .raw (.string s)) (hy : ev T y = .raw (.int k a)) (ha : a = (n : Int)) (hn : n < s.size) : qstep P none (mkO dst (.index t₁ x y) ty pos af g) T M = some (⟨none, .raw (.int .u8 (s.data[n]'hn).toNat)⟩, []) := by
  subst ha
  have e : pr P (Instr.index t₁ (.string s) (.int k n)) = some (.int .u8 (s.data[n]'hn).toNat) := by
    unfold Instr.index
    show pr P ((underlying t₁) >>= _) = _
    rw [pr_b, pr_underlying hu]
    simp only [Option.bind_some, Int.toNat_natCast]
    have h0 : (0 : Int) ≤ n := Int.natCast_nonneg n
    rw [if_pos h0]
    have hn' : n < s.data.size := hn
    have h1 : s[n]? = some (s.data[n]'hn) := by
      have : s[n]? = some s[n] := getElem?_pos s n hn
      rw [this]; rfl
    rw [h1]; rfl
  show (aop P T M ty (.index t₁ x y)).map _ = _
  have e2 : aop P T M ty (.index t₁ x y) = some (.raw (.int .u8 (s.data[n]'hn).toNat)) := by
    simp only [aop, aIndex, hx, hy, e, Option.map_some]
  rw [e2]; rfl

theorem conv_i2i {s d' : TypeId} {ts : TypeDesc} {kk : IntKind} (hs : P.underlying s = some ts) (hd : P.underlying d' = some (.int kk)) (n : Int) : pr P (convert s d' (.int k n)) = some (.int kk (kk.wrap n)) := by
  show pr P ((underlying s) >>= _) = _
  rw [pr_b, pr_underlying hs, Option.bind_some, pr_b, pr_underlying hd]
  cases ts <;> rfl

theorem q_i2i {s d' : TypeId} {ts : TypeDesc} {kk : IntKind} (hs : P.underlying s = some ts) (hd : P.underlying d' = some (.int kk)) (hx : ev T x = .raw (.int k a)) (hw : kk.wrap a = a) : qstep P none (mkO dst (.convert s d' x) ty pos af g) T M = some (⟨none, .raw (.int kk a)⟩, []) := by
  simp only [qstep, aop, hx, aConvert, conv_i2i hs hd, Option.map_some, readsOf, AVal.shut, AVal.shut1, hw]

theorem q_addw (hx : ev T x = .raw (.int k a)) (hy : ev T y = .raw (.int k b)) : qstep P none (mkO dst (.binOp .add t₁ x y t₂) ty pos af g) T M = some (⟨none, .raw (.int k (k.wrap (a + b)))⟩, []) := by
  refine q_bin' hx hy ?_
  cases k <;> rfl
theorem q_subw (hx : ev T x = .raw (.int k a)) (hy : ev T y = .raw (.int k b)) : qstep P none (mkO dst (.binOp .sub t₁ x y t₂) ty pos af g) T M = some (⟨none, .raw (.int k (k.wrap (a - b)))⟩, []) := by
  refine q_bin' hx hy ?_
  cases k <;> rfl

theorem o_s2b {s' d' : TypeId} {str : ByteArray} (hb : s2b P s' d' = true) (hx : ev T x = .raw (.string str)) (h : ∀ b cap, M b = none → str.size ≤ cap → aOps P tkr ops K (i + 1) rest ⟨setT T d (.raw (.slice (some ⟨b, 0, none⟩) str.size cap)), M.upd b (.cells (u8l str ++ List.replicate (cap - str.size) (.raw (.int .u8 0))))⟩) :
    aOps P tkr ops K i (mkO (some d) (.convert s' d' x) ty pos af none :: rest) ⟨T, M⟩ := by
  refine o_x rfl ?_
  show estep P (tkr i) _ T M _
  unfold estep
  refine .inr ?_
  unfold eS2B
  rw [hx]
  exact ⟨hb, fun b cap h1 h2 => h b cap h1 h2⟩

theorem q_b2s {s' d' : TypeId} {b o n c : Nat} {l : List AVal} {W : AVal} (hb : b2s P s' d' = true) (hx : ev T x = .raw (.slice (some ⟨b, o, none⟩) n c)) (hM : M b = some (.cells l)) (hl : o + n ≤ l.length) (hs : aStr ((l.drop o).take n) = some W) (hW : W.shut = V) :
    qstep P none (mkO dst (.convert s' d' x) ty pos af g) T M = some (⟨none, V⟩, [b]) := by
  subst hW
  simp only [qstep, aop, hx, aConvert, hM, hb, hl, and_self, if_true, hs, Option.map_some, readsOf]

theorem q_b2sl {s' d' : TypeId} {l : List AVal} {own : Bool} {W : AVal} (hb : b2s P s' d' = true) (hx : ev T x = .sl l own) (hs : aStr l = some W) (hW : W.shut = V) :
    qstep P none (mkO dst (.convert s' d' x) ty pos af g) T M = some (⟨none, V⟩, []) := by
  subst hW
  simp only [qstep, aop, hx, aConvert, hb, if_true, hs, Option.map_some, readsOf]

theorem mapM_u8l : ∀ bs : List UInt8, (bs.map fun b => AVal.raw (.int .u8 b.toNat)).mapM u8of = some bs
  | [] => rfl
  | b :: bs => by
    rw [List.map_cons, List.mapM_cons, mapM_u8l bs]
    have : u8of (.raw (.int .u8 (b.toNat : Int))) = some b := by
      show some (UInt8.ofNat ((b.toNat : Int).toNat)) = _
      simp
    rw [this]; rfl

theorem aStr_u8l (s : ByteArray) : aStr (u8l s) = some (.raw (.string s)) := by
  unfold aStr u8l
  rw [mapM_u8l]; rfl

theorem u8l_length (s : ByteArray) : (u8l s).length = s.size := by
  unfold u8l
  rw [List.length_map, Array.length_toList]; rfl

theorem u8l_get {s : ByteArray} {j : Nat} {rest : List AVal} (h : j < s.size) : (u8l s ++ rest)[j]? = some (.raw (.int .u8 (s.data[j]'h).toNat)) := by
  rw [List.getElem?_append_left (by rw [u8l_length]; exact h)]
  unfold u8l
  have h' : j < s.data.size := h
  rw [List.getElem?_map, Array.getElem?_toList, Array.getElem?_eq_getElem h']; rfl

theorem u8l_set {s : ByteArray} {j : Nat} {rest : List AVal} {b : UInt8} (h : j < s.size) : splice (u8l s ++ rest) j [.raw (.int .u8 b.toNat)] = u8l ⟨s.data.set j b h⟩ ++ rest := by
  have h' : j < s.data.size := h
  have e1 : u8l ⟨s.data.set j b h⟩ = (u8l s).set j (.raw (.int .u8 b.toNat)) := by
    unfold u8l
    simp [List.map_set]
  rw [e1]
  unfold splice
  have hl : j < (u8l s).length := by rw [u8l_length]; exact h
  rw [List.take_append_of_le_length (by omega)]
  simp only [List.length_singleton]
  rw [List.drop_append_of_le_length (by omega)]
  rw [List.set_eq_take_append_cons_drop, if_pos hl]
  simp

/-! ### Bits -/

theorem q_shr {kk : IntKind} {n : Nat} (hx : ev T x = .raw (.int k a)) (hy : ev T y = .raw (.int kk n)) (hn : n ≤ k.bits) : qstep P none (mkO dst (.binOp .shr t₁ x y t₂) ty pos af g) T M = some (⟨none, .raw (.int k (a / 2 ^ n))⟩, []) := by
  refine q_bin' hx hy ?_
  have e : pr P (binOp .shr t₁ (.int k a) (.int kk n)) = some (.int k (a / 2 ^ n)) := by
    show pr P (Op.shift .shr k a kk n) = _
    unfold Op.shift
    rw [if_neg (by omega)]
    simp only [Int.toNat_natCast, Nat.min_eq_left hn]
    show some (Value.int k (a.fdiv (2 ^ n))) = _
    rw [Int.fdiv_eq_ediv_of_nonneg _ (Int.le_of_lt (Int.pow_pos (by decide)))]
  show (pr P (binOp .shr t₁ (.int k a) (.int kk n))).map AVal.raw = _
  rw [e]; rfl

theorem bv_nat {n : Nat} {w : Nat} (h : n < 2 ^ w) : (BitVec.ofInt w (n : Int)).toNat = n := by
  rw [BitVec.toNat_ofInt]
  have : (n : Int) % (2 ^ w : Nat) = n := Int.emod_eq_of_lt (by omega) (by exact_mod_cast h)
  rw [this]; rfl

theorem pr_bits {op : BinOp} {m n r : Nat} (hm : m < 2 ^ k.bits) (hn : n < 2 ^ k.bits) (hop : (op = .and ∧ r = m &&& n) ∨ (op = .or ∧ r = m ||| n) ∨ (op = .xor ∧ r = m ^^^ n)) (hr : k.wrap r = r) : pr P (binOp op t₁ (.int k m) (.int k n)) = some (.int k r) := by
  have e : binOp op t₁ (.int k m) (.int k n) = Op.intBits op k m n := by
    rcases hop with ⟨rfl, -⟩ | ⟨rfl, -⟩ | ⟨rfl, -⟩ <;> cases k <;> rfl
  rw [e]
  unfold Op.intBits
  rcases hop with ⟨rfl, rfl⟩ | ⟨rfl, rfl⟩ | ⟨rfl, rfl⟩
  · show some (Value.int k (k.wrap (BitVec.ofInt k.bits m &&& BitVec.ofInt k.bits n).toNat)) = _
    rw [BitVec.toNat_and, bv_nat hm, bv_nat hn, hr]
  · show some (Value.int k (k.wrap (BitVec.ofInt k.bits m ||| BitVec.ofInt k.bits n).toNat)) = _
    rw [BitVec.toNat_or, bv_nat hm, bv_nat hn, hr]
  · show some (Value.int k (k.wrap (BitVec.ofInt k.bits m ^^^ BitVec.ofInt k.bits n).toNat)) = _
    rw [BitVec.toNat_xor, bv_nat hm, bv_nat hn, hr]

theorem q_bits {op : BinOp} {m n r : Nat} (hx : ev T x = .raw (.int k m)) (hy : ev T y = .raw (.int k n)) (hm : m < 2 ^ k.bits) (hn : n < 2 ^ k.bits) (hop : (op = .and ∧ r = m &&& n) ∨ (op = .or ∧ r = m ||| n) ∨ (op = .xor ∧ r = m ^^^ n)) (hr : k.wrap r = r) :
    qstep P none (mkO dst (.binOp op t₁ x y t₂) ty pos af g) T M = some (⟨none, .raw (.int k r)⟩, []) := by
  refine q_bin' hx hy ?_
  have e : aBin P op t₁ x y (.raw (.int k m)) (.raw (.int k n)) = (pr P (binOp op t₁ (.int k m) (.int k n))).map AVal.raw := by
    rcases hop with ⟨rfl, -⟩ | ⟨rfl, -⟩ | ⟨rfl, -⟩ <;> rfl
  rw [e, pr_bits hm hn hop hr]; rfl

/-- The lowest bit of a number that is not below 0. -/
theorem q_and1 (hx : ev T x = .raw (.int .i64 a)) (hy : ev T y = .raw (.int .i64 1)) (h0 : 0 ≤ a ∧ a < 2 ^ 63) : qstep P none (mkO dst (.binOp .and t₁ x y t₂) ty pos af g) T M = some (⟨none, .raw (.int .i64 (a % 2))⟩, []) := by
  obtain ⟨n, rfl⟩ := Int.eq_ofNat_of_zero_le h0.1
  have h2 : n &&& 1 = n % 2 := Nat.and_one_is_mod n
  have h := q_bits (P := P) (M := M) (dst := dst) (t₁ := t₁) (t₂ := t₂) (ty := ty) (pos := pos) (af := af) (g := g) (op := .and) (m := n) (n := 1) (r := n % 2) hx hy (by show n < 2 ^ 64; omega) (by decide) (.inl ⟨rfl, h2.symm⟩) (wrap64 (by omega) (by omega))
  rw [h]; rfl

theorem u8_wrap {n : Nat} (h : n < 256) : IntKind.u8.wrap (n : Int) = n := by
  simp only [IntKind.wrap, IntKind.signed, IntKind.bits]
  simp
  omega

theorem q_xor8 {m n : UInt8} (hx : ev T x = .raw (.int .u8 m.toNat)) (hy : ev T y = .raw (.int .u8 n.toNat)) : qstep P none (mkO dst (.binOp .xor t₁ x y t₂) ty pos af g) T M = some (⟨none, .raw (.int .u8 (m ^^^ n).toNat)⟩, []) := by
  have h1 := m.toNat_lt
  have h2 := n.toNat_lt
  exact q_bits (op := .xor) (m := m.toNat) (n := n.toNat) (r := (m ^^^ n).toNat) hx hy (by show _ < 2 ^ 8; omega) (by show _ < 2 ^ 8; omega) (.inr (.inr ⟨rfl, by rw [UInt8.toNat_xor]⟩)) (u8_wrap (m ^^^ n).toNat_lt)

end
end Go.Am
