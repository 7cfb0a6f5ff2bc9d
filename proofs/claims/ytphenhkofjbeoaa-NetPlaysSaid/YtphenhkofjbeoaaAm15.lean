import Derived.Test.YtphenhkofjbeoaaAm14
/-! One operation, abstractly. -/
namespace Go.Am

def St.upd (S : St) (b : Nat) (o : AObj) : St := { S with M := S.M.upd b o }

def zeroCellsT (P : Program) (t : TypeId) : Option (List AVal) := (zeroT P t).map fun z => z.cells.toList.map ofConst

def aStore (P : Program) (t : TypeId) (A V : AVal) (x : Operand) (S : St) (K : St → Prop) : Prop :=
  match A with
  | .raw (.pointer (some ⟨b, off, none⟩)) =>
    (match S.M b with
    | some (.cells l) =>
      V.ok = true ∧ sizeT P t = some V.cells.length ∧ off + V.cells.length ≤ l.length ∧
        (match V with
        | .sl xs true => K ((S.lose x).upd b (.cells (l.set off (.sl xs true))))
        | _ => K (S.upd b (.cells (splice l off (V.cells.map AVal.shut)))))
    | _ => False)
  | _ => False

def aTake (P : Program) (t : TypeId) (A : AVal) (dst : Option Tmp) (S : St) (K : St → Prop) : Prop :=
  match A, dst with
  | .raw (.pointer (some ⟨b, off, none⟩)), some d =>
    (match S.M b with
    | some (.cells l) =>
      (match l[off]? with
      | some (.sl xs true) => aggT P t = some false ∧ sizeT P t = some 1 ∧ K ((S.upd b (.cells (l.set off (.sl xs false)))).put (some d) (.sl xs true))
      | _ => False)
    | _ => False)
  | _, _ => False

/-- The elements of a slice that is written out. -/
def aParts (T : Nat → AVal) : Nat → List (Nat × Operand) → Option (List AVal)
  | _, [] => some []
  | k, (i, x) :: rest => if i = k then (aParts T (k + 1) rest).map fun l => (ev T x).shut :: l else none

def aBuildSlice (P : Program) (t : TypeId) (len : Nat) (parts : List (Nat × Operand)) (dst : Option Tmp) (S : St) (K : St → Prop) : Prop :=
  match P.underlying t with
  | some (.slice e) =>
    (match sizeT P e, zeroT P e, aParts S.T 0 parts with
    | some sz, some z, some l => z.cells.size = sz ∧ l.length = len ∧ len * sz ≤ 2 ^ 24 ∧ (l.all fun V => V.ok && V.cells.length == sz) = true ∧ K (S.put dst (.sl l true))
    | _, _, _ => False)
  | _ => False

def u8l (s : ByteArray) : List AVal := s.data.toList.map fun b => .raw (.int .u8 b.toNat)

/-- From a string to bytes. -/
def s2b (P : Program) (s d : TypeId) : Bool :=
  match P.underlying s, P.underlying d with
  | some .string, some (.slice e) => (match P.underlying e with | some (.int .u8) => true | _ => false)
  | _, _ => false

def aMakeSlice (P : Program) (t : TypeId) (L C : AVal) (dst : Option Tmp) (S : St) (K : St → Prop) : Prop :=
  match P.underlying t, L, C with
  | some (.slice e), .raw (.int .i64 n), .raw (.int .i64 c) =>
    (match sizeT P e, bytesT P e, zeroCellsT P e with
    | some sz, some by_, some zs =>
      zs.length = sz ∧ 1 ≤ sz ∧ 1 ≤ n ∧ n ≤ c ∧ by_ * c ≤ 2 ^ 46 ∧ c ≤ 2 ^ 46 ∧ ∀ b, S.M b = none → K ((S.upd b (.cells (List.replicate c.toNat zs).flatten)).put dst (.raw (.slice (some ⟨b, 0, none⟩) n.toNat c.toNat)))
    | _, _, _ => False)
  | _, _, _ => False

/-- A map's entries behind a store. -/
def putEntry (es : List (Value × AVal)) (at? : Option Nat) (k : Value) (V : AVal) : List (Value × AVal) :=
  match at? with
  | some i => es.set i (k, V)
  | none => es ++ [(k, V)]

def aMapUpdate (P : Program) (t : TypeId) (X K₀ V : AVal) (S : St) (K : St → Prop) : Prop :=
  match P.underlying t, X, rawOf K₀ with
  | some (.map kt _), .raw (.map (some r)), some k =>
    (match S.M r with
    | some (.map es) =>
      (match pr P (Instr.checkKey false 10000 kt k), keyAt P kt k (es.map (·.1)) with
      | some _, some at? => (∀ i, at? = some i → Instr.sameBits 10000 (((es[i]?).map (·.1)).getD k) k = true) ∧ K (S.upd r (.map (putEntry es at? k V.shut)))
      | _, _ => False)
    | _ => False)
  | _, _, _ => False

def aDelete (P : Program) (t : TypeId) (X K₀ : AVal) (dst : Option Tmp) (S : St) (K : St → Prop) : Prop :=
  match P.underlying t, X, rawOf K₀ with
  | some (.map kt _), .raw (.map (some r)), some k =>
    (match S.M r with
    | some (.map es) =>
      (match pr P (Instr.checkKey es.isEmpty 10000 kt k), keyAt P kt k (es.map (·.1)) with
      | some _, some at? => K ((S.upd r (.map (match at? with | some i => es.eraseIdx i | none => es))).put dst (.raw (.tuple #[])))
      | _, _ => False)
    | _ => False)
  | _, _, _ => False

/-- The arguments of a call: each without its right to append, but the one that is handed over. -/
def aArgs (T : Nat → AVal) (mv : Option Nat) : Nat → List Operand → List AVal
  | _, [] => []
  | k, x :: xs => (if mv = some k then ev T x else (ev T x).shut) :: aArgs T mv (k + 1) xs

def St.loseArg (S : St) (mv : Option Nat) (args : List Operand) : St :=
  match mv with
  | some i => (match args[i]? with | some x => S.lose x | none => S)
  | none => S

def mvOk (mv : Option Nat) (args : List Operand) : Prop :=
  match mv with
  | some i => ∃ s, args[i]? = some (.tmp s)
  | none => True

def aCall (P : Program) (mv : Option Nat) (F : AVal) (args : List Operand) (dst : Option Tmp) (S : St) (K : St → Prop) : Prop :=
  match F with
  | .raw (.func (.func f) first captured) =>
    dst.isSome = true ∧ goesB P f = true ∧ mvOk mv args ∧ ∃ Post, SoundCall P f (first.toList.map .raw ++ aArgs S.T mv 0 args ++ captured.toList.map .raw) S.M Post ∧ ∀ r M', Post r M' → K (({ S.loseArg mv args with M := M' } : St).put dst r)
  | _ => False

def astep (P : Program) (tk : Option Nat) (o : Oper) (S : St) (K : St → Prop) : Prop :=
  match o.op with
  | .move x | .assign x => K ((S.lose x).put o.dst (ev S.T x))
  | .store t a x => aStore P t (ev S.T a) (ev S.T x) x S K
  | .alloc t => (match zeroCellsT P t with | some zs => ∀ b, S.M b = none → K ((S.upd b (.cells zs)).put o.dst (.raw (.pointer (some ⟨b, 0, none⟩)))) | none => False)
  | .box _ x => (ev S.T x).ok = true ∧ ∀ b, S.M b = none → K ((S.upd b (.cells ((ev S.T x).cells.map AVal.shut))).put o.dst (.raw (.pointer (some ⟨b, 0, none⟩))))
  | .buildSlice t len parts => aBuildSlice P t len parts.toList o.dst S K
  | .makeMap _ none => ∀ b, S.M b = none → K ((S.upd b (.map [])).put o.dst (.raw (.map (some b))))
  | .makeSlice t l c => aMakeSlice P t (ev S.T l) (ev S.T c) o.dst S K
  | .mapUpdate t m k x | .insert t m k x => aMapUpdate P t (ev S.T m) (ev S.T k) (ev S.T x) S K
  | .load t x => (match tk with
    | some _ => aTake P t (ev S.T x) o.dst S K
    | none => (match aop P S.T S.M o.type (.load t x) with | some V => K (S.put o.dst V.shut) | none => False))
  | .call { callee := .value f, args, .. } => aCall P tk (ev S.T f) args.toList o.dst S K
  | .call { callee := .builtin .append, args, argTypes } =>
    (match args.toList, o.dst with
    | [x, y], some d => (match aAppend P argTypes (ev S.T x) (ev S.T y) with | some l => K ((S.lose x).put (some d) (.sl l true)) | none => False)
    | _, _ => False)
  | .call { callee := .builtin .delete, args, argTypes } =>
    (match args.toList, argTypes[0]? with
    | [x, y], some t => aDelete P t (ev S.T x) (ev S.T y) o.dst S K
    | _, _ => False)
  | op => (match aop P S.T S.M o.type op with | some V => K (S.put o.dst V.shut) | none => False)

/-- What is asked of an operation's numbers. -/
def stepB (n : Nat) (o : Oper) : Bool :=
  (match o.dst with | some d => decide (d < n) | none => true) &&
  (match o.op with
  | .move (.tmp t) | .assign (.tmp t) | .extract (.tmp t) _ => o.dst != some t
  | .call { callee := .builtin .append, args, .. } => (match args.toList with | [.tmp t, _] => o.dst != some t | _ => true)
  | .store .. | .mapUpdate .. | .insert .. => o.dst == none
  | .load .. => o.dst.isSome
  | _ => true)

end Go.Am
