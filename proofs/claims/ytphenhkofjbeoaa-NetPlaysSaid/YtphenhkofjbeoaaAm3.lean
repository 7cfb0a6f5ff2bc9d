import Derived.Test.YtphenhkofjbeoaaAm2
/-! The operations that make nothing and write nothing: what they come to, and that the model says so. -/
namespace Go.Am

def loadP (P : Program) (t : TypeId) (cs : List AVal) (off : Nat) : Option AVal :=
  match aggT P t, sizeT P t with
  | some ag, some n => piece ag cs off n
  | _, _ => none

def raw1 (P : Program) (X : AVal) (f : Value → Sem Value) : Option AVal :=
  match X with
  | .raw v => (pr P (f v)).map .raw
  | _ => none

def isNilSlice : Operand → Bool
  | .const (.slice none _ _) => true
  | _ => false

def aBin (P : Program) (op : BinOp) (t : TypeId) (x y : Operand) (X Y : AVal) : Option AVal :=
  match X with
  | .sl l _ =>
    if isNilSlice y then
      if l.isEmpty then none else
      match P.underlying t with
      | some (.slice _) => (match op with | .eql => some (.raw (.bool false)) | .neq => some (.raw (.bool true)) | _ => none)
      | _ => none
    else none
  | _ =>
    match rawOf X, rawOf Y with
    | some a, some b => (pr P (eqGuard op t x y a b)).bind fun _ => (pr P (binOp op t a b)).map .raw
    | _, _ => none

def aFieldAddr (P : Program) (t : TypeId) (X : AVal) (f : Nat) : Option AVal :=
  match fieldT P t f with
  | some fd =>
    match sizeT P fd.type with
    | some (_ + 1) =>
      (match X with
      | .raw (.pointer (some ⟨b, o, none⟩)) => some (.raw (.pointer (some ⟨b, o + fd.offset, none⟩)))
      | .sptr l i o => some (.sptr l i (o + fd.offset))
      | _ => none)
    | _ => none
  | none => none

def aField (P : Program) (t : TypeId) (X : AVal) (f : Nat) : Option AVal :=
  match fieldT P t f with
  | some fd =>
    (match X with
    | .agg cs => loadP P fd.type cs fd.offset
    | _ => none)
  | none => none

def aIndexAddr (P : Program) (t : TypeId) (X I : AVal) : Option AVal :=
  match I with
  | .raw (.int _ i) =>
    (match P.underlying t with
    | some (.slice e) =>
      match sizeT P e with
      | some sz =>
        (match X with
        | .sl l _ => if 0 ≤ i ∧ i < (l.length : Int) then (match l[i.toNat]? with | some V => if V.cells.length = sz then some (.sptr l i.toNat 0) else none | none => none) else none
        | .raw (.slice (some ⟨b, o, none⟩) n _) => if 0 ≤ i ∧ i < (n : Int) then some (.raw (.pointer (some ⟨b, o + i.toNat * sz, none⟩))) else none
        | _ => none)
      | none => none
    | some (.array n e) =>
      match sizeT P e with
      | some sz =>
        (match X with
        | .raw (.pointer (some ⟨b, o, none⟩)) => if 0 ≤ i ∧ i < (n : Int) then some (.raw (.pointer (some ⟨b, o + i.toNat * sz, none⟩))) else none
        | .sptr l j o => if 0 ≤ i ∧ i < (n : Int) then some (.sptr l j (o + i.toNat * sz)) else none
        | _ => none)
      | none => none
    | _ => none)
  | _ => none

def aIndex (P : Program) (t : TypeId) (X I : AVal) : Option AVal :=
  match X, I with
  | .raw x, .raw i => (pr P (Instr.index t x i)).map .raw
  | .agg cs, .raw (.int _ i) =>
    (match P.underlying t with
    | some (.array n e) =>
      match sizeT P e with
      | some sz => if 0 ≤ i ∧ i < (n : Int) then loadP P e cs (i.toNat * sz) else none
      | none => none
    | _ => none)
  | _, _ => none

/-- A bound of a slice expression. -/
def aBound (T : Nat → AVal) (d : Nat) : Option Operand → Option Nat
  | none => some d
  | some x =>
    match ev T x with
    | .raw (.int _ i) => if 0 ≤ i then some i.toNat else none
    | _ => none

def aSlice (P : Program) (T : Nat → AVal) (t : TypeId) (X : AVal) (lo hi mx : Option Operand) : Option AVal :=
  match X with
  | .sl l _ =>
    (match P.underlying t with
    | some (.slice e) =>
      match sizeT P e with
      | some sz =>
        if l.all fun V => V.cells.length == sz then
          match aBound T 0 lo, aBound T l.length hi, aBound T l.length mx with
          | some a, some b, some m =>
            if a ≤ b ∧ b ≤ m ∧ m ≤ l.length ∧ (mx.isSome = true → hi.isSome = true) then some (.sl ((l.take b).drop a) (mx.isSome && decide (m = b))) else none
          | _, _, _ => none
        else none
      | none => none
    | _ => none)
  | .raw v =>
    match lo.mapM fun x => rawOf (ev T x), hi.mapM fun x => rawOf (ev T x), mx.mapM fun x => rawOf (ev T x) with
    | some a, some b, some m => (pr P (Instr.sliceAt t v a b m)).map .raw
    | _, _, _ => none
  | _ => none

/-- What may stand in one cell. -/
def AVal.unit : AVal → Bool
  | .raw v => one v
  | .sl _ _ | .sptr _ _ _ => true
  | _ => false

/-- What may stand in cells. -/
def AVal.ok : AVal → Bool
  | .agg cs => cs.all AVal.unit
  | V => V.unit

def aFill (place : Nat → Option (Nat × Nat)) (cells : List AVal) : List (Nat × AVal) → Option (List AVal)
  | [] => some cells
  | (i, V) :: rest =>
    match place i with
    | none => none
    | some (off, size) =>
      if V.ok = false || V.cells.length ≠ size || off + V.cells.length > cells.length then none
      else aFill place (cells.take off ++ V.cells ++ cells.drop (off + V.cells.length)) rest

def zeroT (P : Program) (t : TypeId) : Option Value := (P.info? t).bind (·.zero)

def aPlaces (P : Program) (t : TypeId) : Option (Nat → Option (Nat × Nat)) :=
  match P.underlying t with
  | some (.struct fs) => (fs.mapM fun f => (sizeT P f.type).map fun n => (f.offset, n)).map fun ps i => ps[i]?
  | some (.array _ e) => (sizeT P e).map fun n i => some (i * n, n)
  | _ => none

def aBuild (P : Program) (T : Nat → AVal) (t : TypeId) (parts : List (Nat × Operand)) : Option AVal :=
  match zeroT P t, aPlaces P t with
  | some z, some pl => (aFill pl (z.cells.toList.map .raw) (parts.map fun (i, x) => (i, ev T x))).map .agg
  | _, _ => none

def aBuiltin (P : Program) (M : Mem) (b : Builtin) (argTypes : Array TypeId) (ty : TypeId) (args : List AVal) : Option AVal :=
  match b with
  | .len =>
    (match args with
    | [.sl l _] => (match (argTypes[0]?).bind P.underlying with | some (.slice _) => some (.raw (.int .i64 l.length)) | _ => none)
    | [.raw (.map (some r))] => (match (argTypes[0]?).bind P.underlying, M r with | some (.map _ _), some (.map es) => some (.raw (.int .i64 es.length)) | _, _ => none)
    | [.raw v] => (pr P (Builtin.len_ argTypes ty #[v])).map .raw
    | _ => none)
  | .max => (rawsOf args).bind fun vs => (pr P (Builtin.max_ argTypes ty vs.toArray)).map .raw
  | .min => (rawsOf args).bind fun vs => (pr P (Builtin.min_ argTypes ty vs.toArray)).map .raw
  | .complex => (rawsOf args).bind fun vs => (pr P (Builtin.complex_ argTypes ty vs.toArray)).map .raw
  | .real => (rawsOf args).bind fun vs => (pr P (Builtin.real_ argTypes ty vs.toArray)).map .raw
  | .imag => (rawsOf args).bind fun vs => (pr P (Builtin.imag_ argTypes ty vs.toArray)).map .raw
  | _ => none

/-- Which key of a map is meant: its place. -/
def keyAt (P : Program) (kt : TypeId) (k : Value) (keys : List Value) : Option (Option Nat) :=
  (pr P (Instr.findKey kt k (keys.map fun x => ⟨x, undef, 0⟩))).map fun r => r.map (·.1)

/-- The entries of a map. -/
def entsM (M : Mem) : Option Nat → Option (List (Value × AVal))
  | none => some []
  | some r => (match M r with | some (.map es) => some es | _ => none)

def aLookup (P : Program) (M : Mem) (t : TypeId) (X K : AVal) (ok : Bool) : Option AVal :=
  match P.underlying t with
  | some (.map kt et) =>
    (match X, rawOf K with
    | .raw (.map r), some k =>
      match entsM M r with
      | some es =>
        (match pr P (Instr.checkKey es.isEmpty 10000 kt k), keyAt P kt k (es.map (·.1)), zeroT P et with
        | some _, some at?, some z =>
          let V := (at?.map fun i => ((es[i]?).map (·.2)).getD .undef).getD (ofConst z)
          some (if ok then .tup [V, .raw (.bool at?.isSome)] else V)
        | _, _, _ => none)
      | none => none
    | _, _ => none)
  | _ => none

def u8of : AVal → Option UInt8
  | .raw (.int .u8 n) => some (UInt8.ofNat n.toNat)
  | _ => none

/-- Bytes as a string. -/
def aStr (cs : List AVal) : Option AVal := (cs.mapM u8of).map fun bs => .raw (.string ⟨bs.toArray⟩)

/-- From bytes to a string. -/
def b2s (P : Program) (s d : TypeId) : Bool :=
  match P.underlying s, P.underlying d with
  | some (.slice e), some .string => (match P.underlying e with | some (.int .u8) => true | _ => false)
  | _, _ => false

def aConvert (P : Program) (M : Mem) (s d : TypeId) (X : AVal) : Option AVal :=
  match X with
  | .sl l _ => if b2s P s d then aStr l else none
  | .raw (.slice (some ⟨b, o, none⟩) n _) =>
    (match M b with
    | some (.cells l) => if b2s P s d ∧ o + n ≤ l.length then aStr ((l.drop o).take n) else none
    | _ => none)
  | .raw v => (pr P (convert s d v)).map .raw
  | _ => none

def aop (P : Program) (T : Nat → AVal) (M : Mem) (ty : TypeId) : Op → Option AVal
  | .pick c a b => (match ev T c with | .raw (.bool t) => some (if t then ev T a else ev T b) | _ => none)
  | .load t x =>
    (match ev T x with
    | .raw (.pointer (some ⟨b, o, none⟩)) => (match M b with | some (.cells l) => loadP P t l o | _ => none)
    | .sptr l i o => (match l[i]? with | some e => loadP P t e.cells o | none => none)
    | _ => none)
  | .nilCheck x =>
    (match ev T x with
    | .raw (.pointer (some a)) => some (.raw (.pointer (some a)))
    | .raw (.func (.func f) xs ys) => some (.raw (.func (.func f) xs ys))
    | .sptr l i o => some (.sptr l i o)
    | _ => none)
  | .binOp op t x y _ => aBin P op t x y (ev T x) (ev T y)
  | .unOp op _ x => raw1 P (ev T x) (Op.unary op)
  | .convert s d x => aConvert P M s d (ev T x)
  | .makeInterface t x => raw1 P (ev T x) (Instr.makeInterface t)
  | .makeFunc fn first cap =>
    (match rawsOf (first.toList.map (ev T)), rawsOf (cap.toList.map (ev T)) with
    | some xs, some ys => some (.raw (.func fn xs.toArray ys.toArray))
    | _, _ => none)
  | .slice t x lo hi mx => aSlice P T t (ev T x) lo hi mx
  | .fieldAddr t x f => aFieldAddr P t (ev T x) f
  | .field t x f => aField P t (ev T x) f
  | .indexAddr t x ix => aIndexAddr P t (ev T x) (ev T ix)
  | .index t x ix => aIndex P t (ev T x) (ev T ix)
  | .extract x i => (match ev T x with | .tup vs => vs[i]? | .raw (.tuple vs) => (vs[i]?).map .raw | _ => none)
  | .build t parts => aBuild P T t parts.toList
  | .lookup t m k ok => aLookup P M t (ev T m) (ev T k) ok
  | .call { callee := .builtin b, args, argTypes } => aBuiltin P M b argTypes ty (args.toList.map (ev T))
  | _ => none

end Go.Am
