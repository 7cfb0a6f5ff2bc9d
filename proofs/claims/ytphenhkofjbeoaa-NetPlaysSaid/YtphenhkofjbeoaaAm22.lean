import Derived.Test.YtphenhkofjbeoaaAm28
set_option linter.unusedSimpArgs false
set_option linter.unusedVariables false
/-! An operation's effect, as it hangs on its operands and on memory alone. -/
namespace Go.Am

structure Eff where
  lz : Option Tmp
  M : Mem
  V : AVal

def St.loseO (S : St) : Option Tmp → St
  | some t => S.lose (.tmp t)
  | none => S

def Eff.apply (e : Eff) (S : St) (dst : Option Tmp) : St := ({ S.loseO e.lz with M := e.M } : St).put dst e.V

def tmpOf : Operand → Option Tmp
  | .tmp t => some t
  | _ => none

/-- Which temporary may lose the right to append. -/
def lzOf (tk : Option Nat) (o : Oper) : Option Tmp :=
  match o.op with
  | .move x | .assign x | .extract x _ => if tk.isSome then tmpOf x else none
  | .store _ _ x => tmpOf x
  | .call { callee := .builtin .append, args, .. } => (args.toList[0]?).bind tmpOf
  | .call { callee := .value _, args, .. } => (match tk with | some i => (args.toList[i]?).bind tmpOf | none => none)
  | _ => none

def eStore (P : Program) (t : TypeId) (A V : AVal) (x : Operand) (M : Mem) (N : Eff → Prop) : Prop :=
  match A with
  | .raw (.pointer (some ⟨b, off, none⟩)) =>
    (match M b with
    | some (.cells l) =>
      V.ok = true ∧ sizeT P t = some V.cells.length ∧ off + V.cells.length ≤ l.length ∧
        (match V with
        | .sl xs true => N ⟨tmpOf x, M.upd b (.cells (l.set off (.sl xs true))), .undef⟩
        | _ => N ⟨none, M.upd b (.cells (splice l off (V.cells.map AVal.shut))), .undef⟩)
    | _ => False)
  | _ => False

def eTake (P : Program) (t : TypeId) (A : AVal) (M : Mem) (N : Eff → Prop) : Prop :=
  match A with
  | .raw (.pointer (some ⟨b, off, none⟩)) =>
    (match M b with
    | some (.cells l) =>
      (match l[off]? with
      | some (.sl xs true) => aggT P t = some false ∧ sizeT P t = some 1 ∧ N ⟨none, M.upd b (.cells (l.set off (.sl xs false))), .sl xs true⟩
      | _ => False)
    | _ => False)
  | _ => False

def eBuildSlice (P : Program) (T : Nat → AVal) (t : TypeId) (len : Nat) (parts : List (Nat × Operand)) (M : Mem) (N : Eff → Prop) : Prop :=
  match P.underlying t with
  | some (.slice e) =>
    (match sizeT P e, zeroT P e, aParts T 0 parts with
    | some sz, some z, some l => z.cells.size = sz ∧ l.length = len ∧ len * sz ≤ 2 ^ 24 ∧ (l.all fun V => V.ok && V.cells.length == sz) = true ∧ N ⟨none, M, .sl l true⟩
    | _, _, _ => False)
  | _ => False

def eMakeSlice (P : Program) (t : TypeId) (L C : AVal) (M : Mem) (N : Eff → Prop) : Prop :=
  match P.underlying t, L, C with
  | some (.slice e), .raw (.int .i64 n), .raw (.int .i64 c) =>
    (match sizeT P e, bytesT P e, zeroCellsT P e with
    | some sz, some by_, some zs =>
      zs.length = sz ∧ 1 ≤ sz ∧ 1 ≤ n ∧ n ≤ c ∧ by_ * c ≤ 2 ^ 46 ∧ c ≤ 2 ^ 46 ∧ ∀ b, M b = none → N ⟨none, M.upd b (.cells (List.replicate c.toNat zs).flatten), .raw (.slice (some ⟨b, 0, none⟩) n.toNat c.toNat)⟩
    | _, _, _ => False)
  | _, _, _ => False

def eMapUpdate (P : Program) (t : TypeId) (X K₀ V : AVal) (M : Mem) (N : Eff → Prop) : Prop :=
  match P.underlying t, X, rawOf K₀ with
  | some (.map kt _), .raw (.map (some r)), some k =>
    (match M r with
    | some (.map es) =>
      (match pr P (Instr.checkKey false 10000 kt k), keyAt P kt k (es.map (·.1)) with
      | some _, some at? => (∀ i, at? = some i → Instr.sameBits 10000 (((es[i]?).map (·.1)).getD k) k = true) ∧ N ⟨none, M.upd r (.map (putEntry es at? k V.shut)), .undef⟩
      | _, _ => False)
    | _ => False)
  | _, _, _ => False

def eDelete (P : Program) (t : TypeId) (X K₀ : AVal) (M : Mem) (N : Eff → Prop) : Prop :=
  match P.underlying t, X, rawOf K₀ with
  | some (.map kt _), .raw (.map (some r)), some k =>
    (match M r with
    | some (.map es) =>
      (match pr P (Instr.checkKey es.isEmpty 10000 kt k), keyAt P kt k (es.map (·.1)) with
      | some _, some at? => N ⟨none, M.upd r (.map (match at? with | some i => es.eraseIdx i | none => es)), .raw (.tuple #[])⟩
      | _, _ => False)
    | _ => False)
  | _, _, _ => False

def eS2B (P : Program) (s d : TypeId) (X : AVal) (M : Mem) (N : Eff → Prop) : Prop :=
  match X with
  | .raw (.string str) => s2b P s d = true ∧ ∀ b cap, M b = none → str.size ≤ cap → N ⟨none, M.upd b (.cells (u8l str ++ List.replicate (cap - str.size) (.raw (.int .u8 0)))), .raw (.slice (some ⟨b, 0, none⟩) str.size cap)⟩
  | _ => False

/-- A slice of which it is not known whether it is nil is held against nil. -/
def eNil (P : Program) (op : BinOp) (t : TypeId) (X : AVal) (y : Operand) (M : Mem) (N : Eff → Prop) : Prop :=
  match X, P.underlying t with
  | .sl l _, some (.slice _) => isNilSlice y = true ∧ (op = .eql ∨ op = .neq) ∧ ∀ b, (l ≠ [] → b = decide (op = .neq)) → N ⟨none, M, .raw (.bool b)⟩
  | .raw (.slice p _ _), some (.slice _) => isNilSlice y = true ∧ (op = .eql ∨ op = .neq) ∧ ∀ b, (op = .eql → b = p.isNone) → (op = .neq → b = !p.isNone) → N ⟨none, M, .raw (.bool b)⟩
  | _, _ => False

def eRange (P : Program) (t : TypeId) (X : AVal) (M : Mem) (N : Eff → Prop) : Prop :=
  match X, P.underlying t with
  | .raw (.string s), some .string => ∀ b, M b = none → N ⟨none, M.upd b (.it (.stringIter s 0)), .raw (.pointer (some ⟨b, 0, none⟩))⟩
  | _, _ => False

def eNext (X : AVal) (str : Bool) (M : Mem) (N : Eff → Prop) : Prop :=
  match X, str with
  | .raw (.pointer (some ⟨b, 0, _⟩)), true =>
    (match M b with
    | some (.it (.stringIter s pos)) =>
      if pos < s.size then N ⟨none, M.upd b (.it (.stringIter s (pos + (Utf8.decode s pos).2))), .raw (.tuple #[.bool true, goInt pos, .int .i32 (Utf8.decode s pos).1])⟩
      else N ⟨none, M, .raw (.tuple #[.bool false])⟩
    | _ => False)
  | _, _ => False

def eCall (P : Program) (mv : Option Nat) (T : Nat → AVal) (F : AVal) (args : List Operand) (dst : Option Tmp) (M : Mem) (N : Eff → Prop) : Prop :=
  match F with
  | .raw (.func (.func f) first captured) =>
    dst.isSome = true ∧ goesB P f = true ∧ mvOk mv args ∧ ∃ Post, SoundCall P f (first.toList.map .raw ++ aArgs T mv 0 args ++ captured.toList.map .raw) M Post ∧
      ∀ r M', Post r M' → N ⟨match mv with | some i => (args[i]?).bind tmpOf | none => none, M', r⟩
  | _ => False

def estep (P : Program) (tk : Option Nat) (o : Oper) (T : Nat → AVal) (M : Mem) (N : Eff → Prop) : Prop :=
  match o.op with
  | .move x | .assign x => if tk.isSome then N ⟨tmpOf x, M, ev T x⟩ else N ⟨none, M, (ev T x).shut⟩
  | .store t a x => eStore P t (ev T a) (ev T x) x M N
  | .alloc t => (match zeroCellsT P t with | some zs => ∀ b, M b = none → N ⟨none, M.upd b (.cells zs), .raw (.pointer (some ⟨b, 0, none⟩))⟩ | none => False)
  | .box _ x => (ev T x).ok = true ∧ ∀ b, M b = none → N ⟨none, M.upd b (.cells ((ev T x).cells.map AVal.shut)), .raw (.pointer (some ⟨b, 0, none⟩))⟩
  | .buildSlice t len parts => eBuildSlice P T t len parts.toList M N
  | .makeMap _ none => ∀ b, M b = none → N ⟨none, M.upd b (.map []), .raw (.map (some b))⟩
  | .makeSlice t l c => eMakeSlice P t (ev T l) (ev T c) M N
  | .mapUpdate t m k x | .insert t m k x => eMapUpdate P t (ev T m) (ev T k) (ev T x) M N
  | .convert s d x => (match aop P T M o.type (.convert s d x) with | some V => N ⟨none, M, V.shut⟩ | none => False) ∨ eS2B P s d (ev T x) M N
  | .binOp op t x y t' => (match aop P T M o.type (.binOp op t x y t') with | some V => N ⟨none, M, V.shut⟩ | none => False) ∨ eNil P op t (ev T x) y M N
  | .extract x i => if tk.isSome then (match ev T x with | .tup vs => (match vs[i]? with | some (.sl l own) => N ⟨tmpOf x, M, .sl l own⟩ | _ => False) | _ => False)
    else (match aop P T M o.type (.extract x i) with | some V => N ⟨none, M, V.shut⟩ | none => False)
  | .range t x => eRange P t (ev T x) M N
  | .next i str => eNext (ev T i) str M N
  | .load t x => (match tk with
    | some _ => eTake P t (ev T x) M N
    | none => (match aop P T M o.type (.load t x) with | some V => N ⟨none, M, V.shut⟩ | none => False))
  | .call { callee := .value f, args, .. } => eCall P tk T (ev T f) args.toList o.dst M N
  | .call { callee := .builtin .append, args, argTypes } =>
    (match args.toList with
    | [x, y] => o.dst.isSome = true ∧ (match aAppend P argTypes (ev T x) (ev T y) with | some l => N ⟨tmpOf x, M, .sl l true⟩ | none => False)
    | _ => False)
  | .call { callee := .builtin .delete, args, argTypes } =>
    (match args.toList, argTypes[0]? with
    | [x, y], some t => eDelete P t (ev T x) (ev T y) M N
    | _, _ => False)
  | op => (match aop P T M o.type op with | some V => N ⟨none, M, V.shut⟩ | none => False)

/-- Operations whose results are told by where they lie. -/
def xstep (P : Program) (o : Oper) (T : Nat → AVal) (M : Mem) (N : Mem → AVal → Prop) : Prop :=
  eExact P o T M N ∨ match o.op with
  | .call { callee := .builtin .append, args, argTypes } =>
    (match args.toList with
    | [x, y] => o.dst.isSome = true ∧ (eAppR P argTypes (ev T x) (ev T y) M N ∨ eAppS P argTypes (ev T x) (ev T y) M N)
    | _ => False)
  | .call { callee := .builtin .clear, args, argTypes } =>
    (match args.toList with
    | [x] => eClear P argTypes (ev T x) M N
    | _ => False)
  | _ => False

def dstep (P : Program) (tk : Option Nat) (o : Oper) (S : St) (K : St → Prop) : Prop := estep P tk o S.T S.M (fun e => K (e.apply S o.dst)) ∨ xstep P o S.T S.M fun M1 V => K (Eff.apply ⟨none, M1, V⟩ S o.dst)

theorem lose_tmpOf (S : St) (x : Operand) : S.loseO (tmpOf x) = S.lose x := by cases x <;> rfl

section
variable {P : Program} {κ : Ghost} {w : World} {a : Act} {o : Oper} {K : St → Prop} {Q : Exit → Act → World → Prop} {S : St}

theorem sound_copy (h : Holds P κ S.T (tv a) S.M w) (hd : ∀ d, o.dst = some d → d < a.tmps.size) {x : Operand} (hop : o.op = .move x ∨ o.op = .assign x) (hK : K (S.put o.dst (ev S.T x).shut)) : o.wp P a w (Next P κ w a K) Q := by
  have hrun : (execOp a.eval o).run P w = .ok (.value (a.eval x)) w := by
    unfold execOp; rcases hop with hop | hop <;> rw [hop] <;> rfl
  exact wp_value hrun (next_put (S' := S) hd hK (fun d _ => h.put d (rep_ev h x).shut fun _ _ => Spare.not_shut) (fun _ => h) (Keep.refl κ w))

theorem sound_s2b (h : Holds P κ S.T (tv a) S.M w) (hd : ∀ d, o.dst = some d → d < a.tmps.size) {s d : TypeId} {x : Operand} (hop : o.op = .convert s d x) (hs : eS2B P s d (ev S.T x) S.M fun e => K (e.apply S o.dst)) : o.wp P a w (Next P κ w a K) Q := by
  unfold eS2B at hs
  split at hs
  · rename_i str hx
    obtain ⟨hb, hK⟩ := hs
    have hxe := rep_ev h x
    rw [hx] at hxe
    have hx' := rep_raw hxe
    unfold s2b at hb
    split at hb
    · rename_i e hs hdd
      split at hb
      · rename_i he
        obtain ⟨h1, hk1⟩ := h.drawn (w.drawn + 1)
        let cap := (Question.appendCap str.size 0 e).cut (w.tape w.drawn (.appendCap str.size 0 e))
        have hcap : str.size ≤ cap := Nat.le_add_right _ _
        let cs : Array Value := (str.data.map fun (b : UInt8) => Value.int .u8 b.toNat) ++ Array.replicate (cap - str.size) (Value.int .u8 0)
        have hcs : cs.size = cap := by
          show ((str.data.map fun (b : UInt8) => Value.int .u8 b.toNat) ++ Array.replicate (cap - str.size) (Value.int .u8 0)).size = cap
          rw [Array.size_append, Array.size_map, Array.size_replicate]
          show str.size + _ = _
          omega
        let w1 : World := { w with drawn := w.drawn + 1 }
        have hrun : (execOp a.eval o).run P w = .ok (.value (.slice (some ⟨w.heap.size, 0, none⟩) str.size cap)) (push w1 (.cells cs e (cs.size, cs.size + 1))) := by
          unfold execOp; rw [hop]
          refine run_val (s := convert s d (a.eval x)) ?_
          rw [hx']
          show ((underlying s) >>= _).run P w = _
          rw [run_bind_pr (pr_underlying hs)]
          show ((underlying d) >>= _).run P w = _
          rw [run_bind_pr (pr_underlying hdd)]
          show ((underlying e) >>= _).run P w = _
          rw [run_bind_pr (pr_underlying he)]
          show (Conv.stringToBytes e str).run P w = _
          unfold Conv.stringToBytes
          show ((choose (.appendCap str.size 0 e)) >>= _).run P w = _
          rw [Sem.run_bind]
          have hc : (choose (.appendCap str.size 0 e)).run P w = .ok cap w1 := rfl
          rw [hc, Result.andThen_ok]
          show ((newRow e cs) >>= _).run P w1 = _
          rw [Sem.run_bind]
          have hn : (newRow e cs).run P w1 = .ok ⟨w.heap.size, 0, none⟩ (push w1 (.cells cs e)) := rfl
          rw [hn, Result.andThen_ok, Sem.run_bind]
          have hm : (markStringish ⟨w.heap.size, 0, none⟩).run P (push w1 (.cells cs e)) = .ok () (push w1 (.cells cs e (cs.size, cs.size + 1))) := by
            unfold markStringish
            rw [Sem.run_bind]
            have hsh : (shape w.heap.size).run P (push w1 (.cells cs e)) = .ok (some (e, cs.size)) (push w1 (.cells cs e)) := by
              show Result.ok ((push w1 (.cells cs e)).shape? w.heap.size) _ = _
              unfold World.shape?
              rw [show (push w1 (.cells cs e)).heap[w.heap.size]? = some (.cells cs e) from push_new w1 _]
            rw [hsh, Result.andThen_ok]
            show Result.ok () ((push w1 (.cells cs e)).freeze ⟨w.heap.size, cs.size, none⟩ 1) = _
            congr 1
            unfold World.freeze push
            rw [if_neg (by decide)]
            dsimp only
            have hw1 : w1.heap = w.heap := rfl
            have hmod : ∀ f : Obj → Obj, (w1.heap.push (Obj.cells cs e)).modify w.heap.size f = w1.heap.push (f (Obj.cells cs e)) := fun f => by
              rw [hw1]
              apply Array.ext
              · simp
              · intro i hi1 hi2
                simp only [Array.getElem_modify, Array.getElem_push]
                split
                · rename_i hsz; subst hsz; simp
                · rename_i hsz
                  have : i < w.heap.size := by simp at hi2; omega
                  simp [this]
            rw [hmod]
            simp
          rw [hm, Result.andThen_ok]
          rfl
        obtain ⟨h2, hk2⟩ := h1.newObj (l := u8l str ++ List.replicate (cap - str.size) (.raw (.int .u8 0))) (cs := cs) (e := e) (fr := (cs.size, cs.size + 1)) (by
            rw [hcs, List.length_append, List.length_replicate]
            show cap = (List.map _ _).length + _
            rw [List.length_map, Array.length_toList]
            show cap = str.size + _
            omega) (fun j X y e1 e2 => by
          have hX : X = .raw y := by
            have hl : (cs.toList.map AVal.raw) = u8l str ++ List.replicate (cap - str.size) (.raw (.int .u8 0)) := by
              show List.map AVal.raw ((str.data.map fun (b : UInt8) => Value.int .u8 b.toNat) ++ Array.replicate (cap - str.size) (Value.int .u8 0)).toList = _
              simp [u8l]
            rw [← hl, List.getElem?_map, Array.getElem?_toList, e2] at e1
            simpa using e1.symm
          subst hX
          refine ⟨.raw _, ?_, fun _ _ => Spare.not_raw⟩
          have hmem := Array.mem_of_getElem? e2
          have : y ∈ (str.data.map fun (b : UInt8) => Value.int .u8 b.toNat) ++ Array.replicate (cap - str.size) (Value.int .u8 0) := hmem
          rw [Array.mem_append] at this
          rcases this with hm | hm
          · obtain ⟨b, -, rfl⟩ := Array.mem_map.1 hm; rfl
          · rw [(Array.mem_replicate.1 hm).2]; rfl) (fun _ hlt => by dsimp only; omega)
        have hk := hk1.trans hk2
        have hK' : K ((S.upd w.heap.size (.cells (u8l str ++ List.replicate (cap - str.size) (.raw (Value.int .u8 0))))).put o.dst (.raw (.slice (some ⟨w.heap.size, 0, none⟩) str.size cap))) := hK _ _ h.fresh hcap
        exact wp_value hrun (next_put (S' := S.upd w.heap.size (.cells (u8l str ++ List.replicate (cap - str.size) (.raw (.int .u8 0))))) hd hK' (fun d _ => h2.put d (.raw _) fun _ _ => Spare.not_raw) (fun _ => h2) hk)
      · cases hb
    · cases hb
  · exact hs.elim

theorem sound_ext (h : Holds P κ S.T (tv a) S.M w) (hd : ∀ d, o.dst = some d → d < a.tmps.size) {x : Operand} {i : Nat} (hop : o.op = .extract x i) (hne : ∀ t, x = .tmp t → o.dst ≠ some t) {vs : List AVal} (hx : ev S.T x = .tup vs) {l : List AVal} {own : Bool} (hi : vs[i]? = some (.sl l own))
    (hK : K ((S.lose x).put o.dst (.sl l own))) : o.wp P a w (Next P κ w a K) Q := by
  have hxe := rep_ev h x
  rw [hx] at hxe
  generalize hv : a.eval x = v at hxe
  cases hxe with
  | tup _ us hl hr =>
    have hlt : i < us.size := by
      rw [← hl]
      rcases Nat.lt_or_ge i vs.length with h' | h'
      · exact h'
      · rw [List.getElem?_eq_none h'] at hi; cases hi
    have hu : us[i]? = some us[i] := Array.getElem?_eq_getElem hlt
    have hrep := hr i _ _ hi hu
    have hrun : (execOp a.eval o).run P w = .ok (.value us[i]) w := by
      unfold execOp; rw [hop]
      refine run_val (s := Instr.extract (a.eval x) i) ?_
      rw [hv]
      show (match us[i]? with | some v => (pure v : Sem Value) | none => stuck _).run P w = _
      rw [hu]; rfl
    cases x with
    | tmp t =>
      have htv : tv a t = .tuple us := hv
      have hTt : S.T t = .tup vs := hx
      cases ho : o.dst with
      | none =>
        refine wp_value hrun ?_
        have := next_put (P := P) (κ := κ) (κ' := κ) (w := w) (w' := w) (v := us[i]) (S' := S.lose (.tmp t)) (X := .sl l own) hd hK (fun d e => by rw [ho] at e; cases e) (fun _ => h.lose t) (Keep.refl κ w)
        rw [ho] at this ⊢; exact this
      | some d =>
        refine wp_value hrun ?_
        have hmv := h.move t d fun e => hne t rfl (by rw [ho, e])
        have hk : Keep κ w (mvTag κ t d) w := Keep.tags (fun _ _ => mvTag_imm.2) (fun _ _ => mvTag_frame.2)
        have hs := hmv.sub d (X := .sl l own) (x := us[i]) (hk.rep hrep) (fun b o hsp => by
          have e1 : (setT (setT S.T t (S.T t).shut) d (S.T t)) d = .tup vs := by unfold setT; rw [if_pos rfl]; exact hTt
          have e2 : (if d = d then tv a t else tv a d) = .tuple us := by rw [if_pos rfl]; exact htv
          rw [e1, e2]
          exact .inr ⟨vs, us, i, _, _, rfl, rfl, hi, hu, hsp.sl⟩)
        have e3 : setT (setT (setT S.T t (S.T t).shut) d (S.T t)) d (.sl l own) = setT (setT S.T t (S.T t).shut) d (.sl l own) := by
          funext x; unfold setT; split <;> rfl
        have e4 : (fun x => if x = d then us[i] else if x = d then tv a t else tv a x) = fun x => if x = d then us[i] else tv a x := by
          funext x; split <;> rfl
        rw [e3, e4] at hs
        have := next_put (P := P) (κ := κ) (κ' := mvTag κ t d) (w := w) (w' := w) (v := us[i]) (S' := S.lose (.tmp t)) (X := .sl l own) hd hK
          (fun d' e => by rw [ho] at e; cases e; exact hs)
          (fun e => by rw [ho] at e; cases e) hk
        rw [ho] at this ⊢; exact this
    | const c =>
      exfalso
      have : ofConst c = .tup vs := hx
      unfold ofConst at this
      split at this <;> cases this
    | global g => cases hx
    | func f => cases hx

theorem sound_nil (h : Holds P κ S.T (tv a) S.M w) (hd : ∀ d, o.dst = some d → d < a.tmps.size) {op : BinOp} {t t' : TypeId} {x y : Operand} (hop : o.op = .binOp op t x y t') (hs : eNil P op t (ev S.T x) y S.M fun e => K (e.apply S o.dst)) : o.wp P a w (Next P κ w a K) Q := by
  unfold eNil at hs
  split at hs
  · rename_i l own e hx hu
    obtain ⟨hy, hop', hK⟩ := hs
    obtain ⟨n, m, hye⟩ := nil_eval (a := a) hy
    have hxe := rep_ev h x
    rw [hx] at hxe
    have key : ∀ b, (l ≠ [] → b = decide (op = .neq)) → (execOp a.eval o).run P w = .ok (.value (.bool b)) w → o.wp P a w (Next P κ w a K) Q := fun b hb hrun =>
      wp_value hrun (next_put (S' := S) hd (hK b hb) (fun d _ => h.put d (.raw _) fun _ _ => Spare.not_raw) (fun _ => h) (Keep.refl κ w))
    have heq : ∀ p len cap, pr P (Op.equal t (.slice p len cap) (.slice none n m)) = some p.isNone := fun p len cap => by
      show pr P (underlying t >>= _) = _
      rw [pr_bind', pr_underlying hu]
      cases p <;> rfl
    have hval : ∃ p len cap, a.eval x = .slice p len cap ∧ (l ≠ [] → p.isNone = false) := by
      generalize a.eval x = v at hxe
      cases hxe with
      | nil => exact ⟨none, 0, 0, rfl, fun h => absurd rfl h⟩
      | sl _ _ b off cap sz cv hcap hsz hk hw hr ho => exact ⟨_, _, _, rfl, fun _ => rfl⟩
    obtain ⟨p, len, cap, hxv, hne⟩ := hval
    rcases hop' with rfl | rfl
    · refine key p.isNone (fun hl => by rw [hne hl]; rfl) ?_
      unfold execOp; rw [hop]
      refine run_val (pr_run ?_ w)
      rw [hxv, hye]
      have hg : pr P (eqGuard .eql t x y (.slice p len cap) (.slice none n m)) = some () := rfl
      show pr P (eqGuard .eql t x y (.slice p len cap) (.slice none n m) >>= fun _ => binOp .eql t (.slice p len cap) (.slice none n m)) = _
      rw [pr_bind', hg, Option.bind_some]
      show pr P (Op.equal t _ _ >>= _) = _
      rw [pr_bind', heq]; rfl
    · refine key (!p.isNone) (fun hl => by rw [hne hl]; rfl) ?_
      unfold execOp; rw [hop]
      refine run_val (pr_run ?_ w)
      rw [hxv, hye]
      have hg : pr P (eqGuard .neq t x y (.slice p len cap) (.slice none n m)) = some () := rfl
      show pr P (eqGuard .neq t x y (.slice p len cap) (.slice none n m) >>= fun _ => binOp .neq t (.slice p len cap) (.slice none n m)) = _
      rw [pr_bind', hg, Option.bind_some]
      show pr P (Op.equal t _ _ >>= _) = _
      rw [pr_bind', heq]; rfl
  · rename_i p len cap e hx hu
    obtain ⟨hy, hop', hK⟩ := hs
    obtain ⟨n, m, hye⟩ := nil_eval (a := a) hy
    have hxe := rep_ev h x
    rw [hx] at hxe
    have hxv := rep_raw hxe
    have heq : pr P (Op.equal t (.slice p len cap) (.slice none n m)) = some p.isNone := by
      show pr P (underlying t >>= _) = _
      rw [pr_bind', pr_underlying hu]
      cases p <;> rfl
    have key : ∀ b, (op = .eql → b = p.isNone) → (op = .neq → b = !p.isNone) → (execOp a.eval o).run P w = .ok (.value (.bool b)) w → o.wp P a w (Next P κ w a K) Q := fun b h1 h2 hrun =>
      wp_value hrun (next_put (S' := S) hd (hK b h1 h2) (fun d _ => h.put d (.raw _) fun _ _ => Spare.not_raw) (fun _ => h) (Keep.refl κ w))
    rcases hop' with rfl | rfl
    · refine key p.isNone (fun _ => rfl) (fun e => by cases e) ?_
      unfold execOp; rw [hop]
      refine run_val (pr_run ?_ w)
      rw [hxv, hye]
      have hg : pr P (eqGuard .eql t x y (.slice p len cap) (.slice none n m)) = some () := rfl
      show pr P (eqGuard .eql t x y (.slice p len cap) (.slice none n m) >>= fun _ => binOp .eql t (.slice p len cap) (.slice none n m)) = _
      rw [pr_bind', hg, Option.bind_some]
      show pr P (Op.equal t _ _ >>= _) = _
      rw [pr_bind', heq]; rfl
    · refine key (!p.isNone) (fun e => by cases e) (fun _ => rfl) ?_
      unfold execOp; rw [hop]
      refine run_val (pr_run ?_ w)
      rw [hxv, hye]
      have hg : pr P (eqGuard .neq t x y (.slice p len cap) (.slice none n m)) = some () := rfl
      show pr P (eqGuard .neq t x y (.slice p len cap) (.slice none n m) >>= fun _ => binOp .neq t (.slice p len cap) (.slice none n m)) = _
      rw [pr_bind', hg, Option.bind_some]
      show pr P (Op.equal t _ _ >>= _) = _
      rw [pr_bind', heq]; rfl
  · exact hs.elim

theorem Holds.newIt {T : Nat → AVal} {V : Nat → Value} {M : Mem} (h : Holds P κ T V M w) {ob : Obj} (hob : ∀ c e fr, ob ≠ .cells c e fr) : Holds P κ T V (M.upd w.heap.size (.it ob)) (Am.push w ob) ∧ Keep κ w κ (Am.push w ob) :=
  ⟨(h.push ob).know (b := w.heap.size) (o := .it ob) ⟨push_new w _, hob⟩ fun x => h.untagged x, Keep.push _ fun b o hb => (h.tag b o hb).1⟩

theorem sound_range (h : Holds P κ S.T (tv a) S.M w) (hd : ∀ d, o.dst = some d → d < a.tmps.size) {t : TypeId} {x : Operand} (hop : o.op = .range t x) (hs : eRange P t (ev S.T x) S.M fun e => K (e.apply S o.dst)) : o.wp P a w (Next P κ w a K) Q := by
  unfold eRange at hs
  split at hs
  · rename_i s hx hu
    have hxe := rep_ev h x
    rw [hx] at hxe
    have hrun : (execOp a.eval o).run P w = .ok (.value (.pointer (some ⟨w.heap.size, 0, none⟩))) (push w (.stringIter s 0)) := by
      unfold execOp; rw [hop]
      refine run_val (s := Instr.range t (a.eval x)) ?_
      rw [rep_raw hxe]
      show ((underlying t) >>= _).run P w = _
      rw [run_bind_pr (pr_underlying hu)]; rfl
    obtain ⟨h1, hk⟩ := h.newIt (ob := .stringIter s 0) (fun _ _ _ e => by cases e)
    have hK' : K ((S.upd w.heap.size (.it (.stringIter s 0))).put o.dst (.raw (.pointer (some ⟨w.heap.size, 0, none⟩)))) := hs _ h.fresh
    exact wp_value hrun (next_put (S' := S.upd w.heap.size (.it (.stringIter s 0))) hd hK' (fun d _ => h1.put d (.raw _) fun _ _ => Spare.not_raw) (fun _ => h1) hk)
  · exact hs.elim

/-- An iterator goes on. -/
theorem Holds.setIt {T : Nat → AVal} {V : Nat → Value} {M : Mem} (h : Holds P κ T V M w) {r : Nat} {o₁ ob : Obj} (hb : M r = some (.it o₁)) (hob : ∀ c e fr, ob ≠ .cells c e fr) : Holds P κ T V (M.upd r (.it ob)) (putObj w r ob) ∧ Keep κ w κ (putObj w r ob) := by
  obtain ⟨b1, b2⟩ := h.obj r _ hb
  have hlt := h.lt hb
  have n1 : ∀ ob : Obj, (∀ c e fr, ob ≠ .cells c e fr) → ∀ w' : World, w'.heap[r]? = some ob → (∀ o, w'.cell? ⟨r, o, none⟩ = none) ∧ (∀ o, w'.frozen? ⟨r, o, none⟩ = false) ∧ w'.shape? r = none := fun ob hob w' e => by
    unfold World.cell? World.frozen? World.shape?
    simp only [e]
    cases ob <;> first | exact absurd rfl (hob _ _ _) | exact ⟨fun _ => rfl, fun _ => rfl, rfl⟩
  obtain ⟨c1, c2, c3⟩ := n1 o₁ b2 w b1
  obtain ⟨d1, d2, d3⟩ := n1 ob hob (putObj w r ob) (putObj_eq hlt)
  have hcell : ∀ b o, (putObj w r ob).cell? ⟨b, o, none⟩ = w.cell? ⟨b, o, none⟩ := fun b o => by
    by_cases e : b = r
    · subst e; rw [c1, d1]
    · exact cell_of_block (putObj_ne e)
  have hfro : ∀ b o, (putObj w r ob).frozen? ⟨b, o, none⟩ = w.frozen? ⟨b, o, none⟩ := fun b o => by
    by_cases e : b = r
    · subst e; rw [c2, d2]
    · exact frozen_of_block (putObj_ne e)
  have hsh : ∀ b, (putObj w r ob).shape? b = w.shape? b := fun b => by
    by_cases e : b = r
    · subst e; rw [c3, d3]
    · exact shape_of_block (putObj_ne e)
  have hsize : (putObj w r ob).heap.size = w.heap.size := by simp [putObj]
  have hk : Keep κ w κ (putObj w r ob) := ⟨rfl, rfl, rfl, by rw [hsize]; exact Nat.le_refl _, fun b _ => hsh b, fun b o e => ⟨e, hcell b o⟩, fun b o e => ⟨e, hcell b o, hfro b o⟩, fun b _ hp => putObj_ne fun e => by
    subst e
    have := h.free_of hb 0
    rcases hp 0 with e | e <;> rw [this] at e <;> cases e⟩
  refine ⟨⟨fun t => hk.rep (h.tmp t), fun d p hd => ?_, fun d y hd => ?_, fun t d y hsp => h.sp t d y (hsp.keep (h.tmp t) hk.shape), fun d y t hd => ?_, fun d y c' j hd => ?_⟩, hk⟩
  · unfold Mem.upd at hd
    split at hd
    · rename_i e; subst e; cases hd
      exact ⟨putObj_eq hlt, hob⟩
    · rename_i e'
      have hblk : (putObj w r ob).heap[d]? = w.heap[d]? := putObj_ne e'
      have := h.obj d p hd
      cases p with
      | it o => exact ⟨hblk.trans this.1, this.2⟩
      | cells l' =>
        obtain ⟨c', e, fr, b1, b2, b3, b4⟩ := this
        exact ⟨c', e, fr, hblk.trans b1, b2, fun y hy => (hfro d y).trans (b3 y hy), fun j Y y e1 e2 => ⟨hk.rep (b4 j Y y e1 e2).1, (b4 j Y y e1 e2).2.1, fun b' o' hsp => (b4 j Y y e1 e2).2.2 b' o' (hsp.keep (b4 j Y y e1 e2).1 hk.shape)⟩⟩
      | map es =>
        obtain ⟨ents, clock, b1, b2, b3, b4, b5⟩ := this
        exact ⟨ents, clock, hblk.trans b1, b2, fun j e ent e1 e2 => ⟨(b3 j e ent e1 e2).1, hk.rep (b3 j e ent e1 e2).2.1, fun b' o' hsp => (b3 j e ent e1 e2).2.2 b' o' (hsp.keep (b3 j e ent e1 e2).2.1 hk.shape)⟩, b4, b5⟩
  · refine ⟨by rw [hsize]; exact (h.tag d y hd).1, ?_⟩
    unfold Mem.upd
    split
    · rename_i e'; subst e'; exact absurd (h.free_of hb y) hd
    · exact (h.tag d y hd).2
  · have := h.wr d y t hd
    exact ⟨by rw [hcell]; exact this.1, by rw [hfro]; exact this.2⟩
  · have := h.mwr d y c' j hd
    exact ⟨by rw [hcell]; exact this.1, by rw [hfro]; exact this.2⟩

theorem sound_exact (h : Holds P κ S.T (tv a) S.M w) (hd : ∀ d, o.dst = some d → d < a.tmps.size) (hs : eExact P o S.T S.M fun M1 V => K (Eff.apply ⟨none, M1, V⟩ S o.dst)) : o.wp P a w (Next P κ w a K) Q := by
  have fixed : ∀ {V v}, Fixed P V v → ∀ (κ : Ghost) (w : World), Rep P κ w V v ∧ ∀ b o, ¬ Spare P w V v b o := fun hf κ w => ⟨hf.1 κ w, hf.2 w⟩
  rcases hs a.eval w (fun x _ v hv => rawOf_rep hv (rep_ev h x)) (fun b ob hb => (h.obj b _ hb).1) h.fresh with ⟨v, V, hrun, hf, hK⟩ | ⟨v, V, r, ob, ob', n, hr, hob, hrun, hf, hK⟩ | ⟨r, ob, ob', hr, hob, hrun, hK⟩ | ⟨v, ob', hob, hrun, hK⟩
  · exact wp_value hrun (next_put (S' := S) hd hK (fun d _ => h.put d (fixed hf κ _).1 (fixed hf κ _).2) (fun _ => h) (Keep.refl κ w))
  · obtain ⟨h1, hk1⟩ := h.setIt (ob := ob') hr hob
    obtain ⟨h2, hk2⟩ := h1.drawn n
    exact wp_value hrun (next_put (S' := S.upd r (.it ob')) hd hK (fun d _ => h2.put d (fixed hf κ _).1 (fixed hf κ _).2) (fun _ => h2) (hk1.trans hk2))
  · obtain ⟨h1, hk1⟩ := h.setIt (ob := ob') hr hob
    exact wp_skip hrun (next_put (S' := S.upd r (.it ob')) (X := .raw undef) hd hK (fun d _ => h1.put d (.raw _) fun _ _ => Spare.not_raw) (fun _ => h1) hk1)
  · obtain ⟨h1, hk1⟩ := h.newIt (ob := ob') hob
    exact wp_value hrun (next_put (S' := S.upd w.heap.size (.it ob')) (X := .raw v) hd hK (fun d _ => h1.put d (.raw _) fun _ _ => Spare.not_raw) (fun _ => h1) hk1)

theorem sound_next (h : Holds P κ S.T (tv a) S.M w) (hd : ∀ d, o.dst = some d → d < a.tmps.size) {i : Operand} {str : Bool} (hop : o.op = .next i str) (hs : eNext (ev S.T i) str S.M fun e => K (e.apply S o.dst)) : o.wp P a w (Next P κ w a K) Q := by
  unfold eNext at hs
  split at hs
  · rename_i b q hx
    have hxe := rep_ev h i
    rw [hx] at hxe
    split at hs
    · rename_i s pos hb
      obtain ⟨b1, b2⟩ := h.obj b _ hb
      have hget : (getObj b).run P w = .ok (.stringIter s pos) w := by
        show (Sem.getObj b .pure).run P w = _
        simp only [Sem.run, b1]
      split at hs
      · rename_i hlt
        have hset : (setObj b (.stringIter s (pos + (Utf8.decode s pos).2))).run P w = .ok () (putObj w b (.stringIter s (pos + (Utf8.decode s pos).2))) := by
          show (Sem.setObj b _ (.pure ())).run P w = _
          simp only [Sem.run, b1]; rfl
        have hrun : (execOp a.eval o).run P w = .ok (.value (.tuple #[.bool true, goInt pos, .int .i32 (Utf8.decode s pos).1])) (putObj w b (.stringIter s (pos + (Utf8.decode s pos).2))) := by
          unfold execOp; rw [hop]
          refine run_val (s := Instr.next (a.eval i) true o.type) ?_
          rw [rep_raw hxe]
          show ((getObj b) >>= _).run P w = _
          rw [Sem.run_bind, hget, Result.andThen_ok]
          dsimp only
          rw [if_pos hlt]
          show ((setObj b _) >>= _).run P w = _
          rw [Sem.run_bind, hset]; rfl
        obtain ⟨h1, hk⟩ := h.setIt (ob := .stringIter s (pos + (Utf8.decode s pos).2)) hb (fun _ _ _ e => by cases e)
        have hK' : K ((S.upd b (.it (.stringIter s (pos + (Utf8.decode s pos).2)))).put o.dst (.raw (.tuple #[.bool true, goInt pos, .int .i32 (Utf8.decode s pos).1]))) := hs
        exact wp_value hrun (next_put (S' := S.upd b (.it (.stringIter s (pos + (Utf8.decode s pos).2)))) hd hK' (fun d _ => h1.put d (.raw _) fun _ _ => Spare.not_raw) (fun _ => h1) hk)
      · rename_i hge
        have hrun : (execOp a.eval o).run P w = .ok (.value (.tuple #[.bool false])) w := by
          unfold execOp; rw [hop]
          refine run_val (s := Instr.next (a.eval i) true o.type) ?_
          rw [rep_raw hxe]
          show ((getObj b) >>= _).run P w = _
          rw [Sem.run_bind, hget, Result.andThen_ok]
          dsimp only
          rw [if_neg hge]; rfl
        have hK' : K (S.put o.dst (.raw (.tuple #[.bool false]))) := hs
        exact wp_value hrun (next_put (S' := S) hd hK' (fun d _ => h.put d (.raw _) fun _ _ => Spare.not_raw) (fun _ => h) (Keep.refl κ w))
    · exact hs.elim
  · exact hs.elim

theorem eStore_a {t : TypeId} {A V : AVal} {x : Operand} (h : eStore P t A V x S.M fun e => K (e.apply S none)) : aStore P t A V x S K := by
  unfold eStore at h
  unfold aStore
  split at h
  · split at h
    · rename_i l hl
      simp only [hl]
      obtain ⟨h1, h2, h3, h4⟩ := h
      refine ⟨h1, h2, h3, ?_⟩
      split at h4
      · simp only [Eff.apply, lose_tmpOf] at h4
        cases x <;> exact h4
      · rename_i hne
        split
        · exact absurd rfl (hne _)
        · exact h4
    · exact h.elim
  · exact h.elim

theorem eTake_a {t : TypeId} {A : AVal} {dst : Option Tmp} (hd : dst.isSome = true) (h : eTake P t A S.M fun e => K (e.apply S dst)) : aTake P t A dst S K := by
  obtain ⟨d, rfl⟩ := Option.isSome_iff_exists.1 hd
  unfold eTake at h
  unfold aTake
  split at h
  · split at h
    · rename_i l hl
      simp only [hl]
      split at h
      · rename_i xs hx
        simp only [hx]
        exact h
      · exact h.elim
    · exact h.elim
  · exact h.elim

theorem eBuildSlice_a {t : TypeId} {len : Nat} {parts : List (Nat × Operand)} {dst : Option Tmp} (h : eBuildSlice P S.T t len parts S.M fun e => K (e.apply S dst)) : aBuildSlice P t len parts dst S K := h

theorem eMakeSlice_a {t : TypeId} {L C : AVal} {dst : Option Tmp} (h : eMakeSlice P t L C S.M fun e => K (e.apply S dst)) : aMakeSlice P t L C dst S K := h

theorem eMapUpdate_a {t : TypeId} {X Y V : AVal} (h : eMapUpdate P t X Y V S.M fun e => K (e.apply S none)) : aMapUpdate P t X Y V S K := h

theorem eDelete_a {t : TypeId} {X Y : AVal} {dst : Option Tmp} (h : eDelete P t X Y S.M fun e => K (e.apply S dst)) : aDelete P t X Y dst S K := h

theorem eCall_a {mv : Option Nat} {F : AVal} {args : List Operand} {dst : Option Tmp} (h : eCall P mv S.T F args dst S.M fun e => K (e.apply S dst)) : aCall P mv F args dst S K := by
  unfold eCall at h
  unfold aCall
  split at h
  · obtain ⟨h1, h2, h3, Post, h4, h5⟩ := h
    refine ⟨h1, h2, h3, Post, h4, fun r M' hq => ?_⟩
    have := h5 r M' hq
    cases mv with
    | none => exact this
    | some i =>
      obtain ⟨s, hs⟩ := h3
      simp only [hs, Option.bind_some, tmpOf, Eff.apply, St.loseO] at this
      simp only [St.loseArg, hs]
      exact this
  · exact h.elim

theorem dstep_sound {tk : Option Nat} (h : Holds P κ S.T (tv a) S.M w) (hb : stepB a.tmps.size o = true) (hz : zeroB P o = true) (hs : dstep P tk o S K) : o.wp P a w (Next P κ w a K) Q := by
  have hd := stepB_dst hb
  have hb2 := hb
  unfold stepB at hb2
  simp only [Bool.and_eq_true] at hb2
  replace hb2 := hb2.2
  have dflt : ∀ op, o.op = op → (match aop P S.T S.M o.type op with | some V => K (Eff.apply ⟨none, S.M, V.shut⟩ S o.dst) | none => False) → o.wp P a w (Next P κ w a K) Q := fun op hop hs => by
    rw [← hop] at hs
    split at hs
    · rename_i V hv; exact sound_plain h hd hv hs
    · exact hs.elim
  have viaMove : ∀ x, o.op = .move x ∨ o.op = .assign x → (∀ t, x = .tmp t → o.dst ≠ some t) → (if tk.isSome then K (Eff.apply ⟨tmpOf x, S.M, ev S.T x⟩ S o.dst) else K (Eff.apply ⟨none, S.M, (ev S.T x).shut⟩ S o.dst)) → o.wp P a w (Next P κ w a K) Q := fun x hop hne hs => by
    split at hs
    · refine sound_move h hd hop hne ?_
      simp only [Eff.apply, lose_tmpOf] at hs
      cases x <;> exact hs
    · exact sound_copy h hd hop hs
  rcases hs with hs | hs
  rotate_left
  · unfold xstep at hs
    rcases hs with hs | hs
    · exact sound_exact h hd hs
    split at hs
    · rename_i args argTypes hop
      split at hs
      · rename_i x y hargs
        obtain ⟨hdst, hs⟩ := hs
        obtain ⟨d, hdst⟩ := Option.isSome_iff_exists.1 hdst
        rw [hdst] at hs
        rcases hs with hs | hs
        · exact sound_appR h hd hop hargs hdst hs
        · exact sound_appS h hd hop hargs hdst hs
      · exact hs.elim
    · rename_i args argTypes hop
      split at hs
      · rename_i x hargs
        exact sound_clear h hd hop hargs hs
      · exact hs.elim
    · exact hs.elim
  unfold estep at hs
  cases hop : o.op <;> rw [hop] at hs hb2 <;> try exact dflt _ hop hs
  case move x =>
    refine viaMove x (.inl hop) (fun t e => ?_) hs
    subst e
    simpa using hb2
  case assign x =>
    refine viaMove x (.inr hop) (fun t e => ?_) hs
    subst e
    simpa using hb2
  case store t p x =>
    have hdst : o.dst = none := by simpa using hb2
    rw [hdst] at hs
    exact sound_store h hdst hop (eStore_a hs)
  case alloc t =>
    dsimp only at hs
    split at hs
    · rename_i zs hzs
      refine sound_alloc h hd hop hzs ?_ hs
      unfold zeroB at hz
      rw [hop] at hz
      simpa [hzs] using hz
    · exact hs.elim
  case box t x => exact sound_box h hd hop hs.1 hs.2
  case buildSlice t len parts => exact sound_buildSlice h hd hop (eBuildSlice_a hs)
  case makeMap t r =>
    cases r with
    | none => exact sound_makeMap h hd hop hs
    | some r => exact dflt _ hop hs
  case makeSlice t l c =>
    refine sound_makeSlice h hd hop (fun e zs hu hzs => ?_) (eMakeSlice_a hs)
    unfold zeroB at hz
    rw [hop] at hz
    simpa [hu, hzs] using hz
  case mapUpdate t m k x =>
    have hdst : o.dst = none := by simpa using hb2
    rw [hdst] at hs
    exact sound_mapUpdate h hdst (.inl hop) (eMapUpdate_a hs)
  case insert t m k x =>
    have hdst : o.dst = none := by simpa using hb2
    rw [hdst] at hs
    exact sound_mapUpdate h hdst (.inr hop) (eMapUpdate_a hs)
  case convert s d x =>
    rcases hs with hs | hs
    · exact dflt _ hop hs
    · exact sound_s2b h hd hop hs
  case binOp op t x y t' =>
    rcases hs with hs | hs
    · exact dflt _ hop hs
    · exact sound_nil h hd hop hs
  case extract x i =>
    dsimp only at hs
    split at hs
    · split at hs
      · rename_i vs hx
        split at hs
        · rename_i l own hi
          refine sound_ext h hd hop (fun t e => ?_) hx hi ?_
          · subst e
            simpa using hb2
          · simp only [Eff.apply, lose_tmpOf] at hs
            cases x <;> exact hs
        · exact hs.elim
      · exact hs.elim
    · exact dflt _ hop hs
  case range t x => exact sound_range h hd hop hs
  case next i str => exact sound_next h hd hop hs
  case load t x =>
    dsimp only at hs
    cases tk with
    | none => exact dflt _ hop hs
    | some k => exact sound_take h hd hop (eTake_a (by simpa using hb2) hs)
  case call c =>
    obtain ⟨callee, args, argTypes⟩ := c
    cases callee with
    | value F => exact sound_call h hd hop (eCall_a hs)
    | invoke r m => exact dflt _ hop hs
    | builtin b =>
      cases b <;> try exact dflt _ hop hs
      case append =>
        dsimp only at hs
        split at hs
        · rename_i x y hargs
          obtain ⟨hdst, hs⟩ := hs
          obtain ⟨d, hdst⟩ := Option.isSome_iff_exists.1 hdst
          split at hs
          · rename_i l ha
            refine sound_append h hd hop hargs hdst (fun t e => ?_) ha ?_
            · subst e
              simp only [hargs] at hb2
              simpa using hb2
            · simp only [Eff.apply, lose_tmpOf, hdst] at hs
              cases x <;> exact hs
          · exact hs.elim
        · exact hs.elim
      case delete =>
        dsimp only at hs
        split at hs
        · rename_i x y t hargs ht
          exact sound_delete h hd hop hargs ht (eDelete_a hs)
        · exact hs.elim

end
end Go.Am
