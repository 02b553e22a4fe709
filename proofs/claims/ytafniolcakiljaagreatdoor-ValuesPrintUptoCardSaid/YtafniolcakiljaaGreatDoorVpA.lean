/- Part 1 of the proof: the abstract machine and its soundness. It holds for every input, without conditions. -/
import Derived.Maps.AppendAt
import Derived.Below
import Derived.Calls
import Derived.KernelRfl
import Derived.Laws.Concat
import Derived.Laws.StructEq
import Derived.Laws.BytesString
import Derived.Laws.MakeOwn
import Derived.Orders
/- The abstract machine: data without memory, an abstract state, and what a piece of code must show of it. Plain definitions. -/
set_option linter.unusedVariables false
namespace Go.Am

/-- A cell's content, as data: a value that is no slice; a slice as its rows (each row: the element's cells); the nil slice; a value of an interface, of which is known whether it is nil; a map, its rows a key and what stands there (known only where it is held). -/
inductive E where
  | v (x : Value)
  | sl (rows : List (List E))
  | nils
  | ifc (b : Bool)
  | mp (rows : List (List E))
  deriving Inhabited

/-- A value without a token or an address. -/
inductive X where
  | bot
  | c (e : E)
  | agg (es : List E)
  deriving Inhabited

/-- What a temporary holds. A token (its name, its element type) says: nobody else appends to this row. -/
inductive D where
  | bot
  | c (tk : Option (Nat × Nat)) (e : E)
  | agg (es : List E)
  | tup (xs : List X)
  | ptr (n off : Nat)
  | ref (es : List E)
  deriving Inhabited

abbrev Cell := Option (Nat × Nat) × E

def look {α : Type} : List (Nat × α) → Nat → Option α
  | [], _ => none
  | (j, x) :: l, i => if i = j then some x else look l i
def ins {α : Type} (i : Nat) (x : α) : List (Nat × α) → List (Nat × α)
  | [] => [(i, x)]
  | (j, y) :: l => if i = j then (i, x) :: l else (j, y) :: ins i x l
def del {α : Type} (i : Nat) : List (Nat × α) → List (Nat × α)
  | [] => []
  | (j, y) :: l => if i = j then del i l else (j, y) :: del i l

/-- The values turned, the names as they are. -/
def mapV {α β : Type} (f : α → β) : List (Nat × α) → List (Nat × β)
  | [] => []
  | (i, x) :: l => (i, f x) :: mapV f l
theorem mapV_eq {α β : Type} (f : α → β) : ∀ l : List (Nat × α), mapV f l = l.map fun p => (p.1, f p.2)
  | [] => rfl
  | (i, x) :: l => by simp [mapV, mapV_eq f l]
structure AS where
  tmps : List (Nat × D)
  boxes : List (Nat × List Cell)

def AS.get (S : AS) (i : Nat) : D := (look S.tmps i).getD .bot
def AS.box (S : AS) (n : Nat) : Option (List Cell) := look S.boxes n
def AS.put (S : AS) (i : Nat) (d : D) : AS := { S with tmps := ins i d S.tmps }
def AS.setBox (S : AS) (n : Nat) (cs : List Cell) : AS := { S with boxes := ins n cs S.boxes }
def AS.keep (S : AS) (ts bs : List Nat) : AS :=
  ⟨ts.map fun i => (i, S.get i), bs.filterMap fun n => (S.box n).map fun cs => (n, cs)⟩

/-- A token is taken away, wherever a copy lies. -/
def stripD (t : Nat) : D → D
  | .c (some (u, k)) e => .c (if u = t then none else some (u, k)) e
  | d => d
def stripC (t : Nat) : Cell → Cell
  | (some (u, k), e) => (if u = t then none else some (u, k), e)
  | c => c
def AS.strip (S : AS) (t : Nat) : AS := ⟨mapV (stripD t) S.tmps, mapV (·.map (stripC t)) S.boxes⟩
/-- Addresses of box n are forgotten, and the box. -/
def killD (n : Nat) : D → D
  | .ptr m off => if m = n then .bot else .ptr m off
  | d => d
def AS.kill (S : AS) (n : Nat) : AS := ⟨mapV (killD n) S.tmps, del n S.boxes⟩

/-- The cells of a value that is stored or put into a row. -/
def D.cells : D → Option (List Cell)
  | .c tk e => some [(tk, e)]
  | .agg es => some (es.map fun e => (none, e))
  | _ => none
def D.es : D → Option (List E)
  | .c _ e => some [e]
  | .agg es => some es
  | _ => none
def D.x : D → X
  | .c _ e => .c e
  | .agg es => .agg es
  | _ => .bot
def X.d : X → D
  | .bot => .bot
  | .c e => .c none e
  | .agg es => .agg es
def D.plain : D → D
  | .c _ e => .c none e
  | d => d
def D.retok (t : Nat) : D → D
  | .c (some (_, k)) e => .c (some (t, k)) e
  | d => d
def E.rows : E → Option (List (List E))
  | .sl rows => some rows
  | .nils => some []
  | _ => none

/-! ### Types -/
inductive TK where
  | bool | int (k : IntKind) | string | slice (e : Nat) | struct (fs : List (Nat × Nat)) | array (n e : Nat) | ptr (e : Nat) | func | map (k v : Nat) | iface | other
  deriving DecidableEq
structure TI where
  k : TK
  size : Nat
  bytes : Nat
  zero : Option (List E)
  /-- '==' looks at every field, and at nothing else. -/
  cmp : Bool

def constE : Value → E
  | .slice none 0 0 => .nils
  | x => .v x
def constD : Value → D
  | .agg cs => if cs.toList.all (·.oneCell') then .agg (cs.toList.map constE) else .bot
  | .tuple _ => .bot
  | x => .c none (constE x)

def tkOf : TypeDesc → TK
  | .bool => .bool
  | .int k => .int k
  | .string => .string
  | .slice e => .slice e
  | .struct fs => .struct (fs.toList.map fun f => (f.type, f.offset))
  | .array n e => .array n e
  | .pointer e => .ptr e
  | .func _ _ _ => .func
  | .map k v => .map k v
  | .interface _ => .iface
  | _ => .other
def namedAll : TypeDesc → Bool
  | .struct fs => fs.toList.all (·.name != "_")
  | _ => true
def TI.of (P : Program) (t : Nat) : TI :=
  match P.info? t, P.underlying t with
  | some i, some d => ⟨tkOf d, i.size, i.bytes, (i.zero.bind fun z => if z.cells.toList.all (·.oneCell') then some (z.cells.toList.map constE) else none),
      !P.stoodInHeld t && namedAll d && !P.eqGuardType P.depth t⟩
  | _, _ => ⟨.other, 0, 0, none, false⟩

/-- The table L tells the program's types (those that it has). -/
abbrev Tab := List (Nat × TI)
def TOk (P : Program) (L : Tab) : Prop := (L.map fun p => (p.1, TI.of P p.1)) = L
def Tab.ti (L : Tab) (t : Nat) : TI := (look L t).getD ⟨.other, 0, 0, none, false⟩
def TI.isAgg (i : TI) : Bool := match i.k with | .struct _ | .array _ _ => true | _ => false

def TI.known (i : TI) : Bool := match i.k with | .other => false | _ => true

end Go.Am

/- What an operation that changes no state must show: by the operation, on abstract data. Plain definitions. -/
set_option linter.unusedVariables false
namespace Go.Am

def AS.ev (S : AS) : Operand → D
  | .tmp t => S.get t
  | .const v => constD v
  | .global g => .c none (.v (.pointer (some ⟨g, 0, none⟩)))
  | .func f => .c none (.v (.func (.func f) #[] #[]))

def D.int? : D → Option Int
  | .c _ (.v (.int _ n)) => some n
  | _ => none
def D.rows? : D → Option (List (List E))
  | .c _ (.sl rows) => some rows
  | .c _ .nils => some []
  | _ => none
def D.v? : D → Option Value
  | .c _ (.v x) => some x
  | _ => none

def intE (op : BinOp) (k : IntKind) (a b : Int) : Option Value :=
  match op with
  | .add => some (.int k (k.wrap (a + b)))
  | .sub => some (.int k (k.wrap (a - b)))
  | .mul => some (.int k (k.wrap (a * b)))
  | .quo => if b = 0 then none else some (.int k (k.wrap (a.tdiv b)))
  | .rem => if b = 0 then none else some (.int k (a.tmod b))
  | .eql => some (.bool (a == b))
  | .neq => some (.bool (a != b))
  | .lss => some (.bool (decide (a < b)))
  | .leq => some (.bool (decide (a ≤ b)))
  | .gtr => some (.bool (decide (a > b)))
  | .geq => some (.bool (decide (a ≥ b)))
  | _ => none
def strE (op : BinOp) (a b : ByteArray) : Option Value :=
  match op with
  | .add => some (.string (a ++ b))
  | .eql => some (.bool (a.toList == b.toList))
  | .neq => some (.bool !(a.toList == b.toList))
  | .lss => some (.bool (Op.bytesLess a.toList b.toList))
  | .leq => some (.bool (Op.bytesLess a.toList b.toList || a.toList == b.toList))
  | .gtr => some (.bool !(Op.bytesLess a.toList b.toList || a.toList == b.toList))
  | .geq => some (.bool !(Op.bytesLess a.toList b.toList))
  | _ => none
def binE (op : BinOp) (x y : Value) : Option Value :=
  match x, y with
  | .int k a, .int k' b => if k = k' then intE op k a b else none
  | .string a, .string b => strE op a b
  | _, _ => none
def addOk (op : BinOp) (x y : Value) : Prop :=
  match op, x, y with
  | .add, .string a, .string b => ((a.size + b.size : Nat) : Int) ≤ IntKind.i64.max
  | _, _, _ => True

/-- '==' of two cells of the type told. -/
def eqCell : TK → Value → Value → Option Bool
  | .bool, .bool a, .bool b => some (a == b)
  | .int _, .int k a, .int k' b => if k = k' then some (a == b) else none
  | .string, .string a, .string b => some (a.toList == b.toList)
  | _, _, _ => none
def partD (L : Tab) (t : Nat) (es : List E) (off : Nat) : Option D :=
  if (L.ti t).known then
    if (L.ti t).isAgg then some (.agg ((es.drop off).take (L.ti t).size)) else (match es[off]? with | some e => some (.c none e) | none => none)
  else none
def eqFs (r : Nat → D → D → Option Bool) (L : Tab) : List (Nat × Nat) → List E → List E → Option Bool
  | [], _, _ => some true
  | (t, off) :: fs, xs, ys =>
    match partD L t xs off, partD L t ys off with
    | some a, some b =>
      match r t a b, eqFs r L fs xs ys with
      | some p, some q => some (p && q)
      | _, _ => none
    | _, _ => none
/-- '==' of two values, structs too. -/
def eqD (L : Tab) : Nat → Nat → D → D → Option Bool
  | 0, _, _, _ => none
  | d + 1, t, .agg xs, .agg ys =>
    match (L.ti t).k with
    | .struct fs => if (L.ti t).cmp then eqFs (eqD L d) L fs xs ys else none
    | _ => none
  | d + 1, t, .c _ (.v x), .c _ (.v y) => eqCell (L.ti t).k x y
  | _ + 1, _, _, _ => none

def partK (L : Tab) (t : Nat) (es : List E) (off : Nat) (K : D → Prop) : Prop :=
  (L.ti t).known = true ∧
  if (L.ti t).isAgg then K (.agg ((es.drop off).take (L.ti t).size))
  else match es[off]? with
    | some e => K (.c none e)
    | none => False

def loadK (L : Tab) (S : AS) (t : Nat) (d : D) (K : D → Prop) : Prop :=
  (L.ti t).known = true ∧
  match d with
  | .ptr n off =>
    match S.box n with
    | some cs =>
      if (L.ti t).isAgg then off + (L.ti t).size ≤ cs.length ∧ K (.agg (((cs.drop off).take (L.ti t).size).map (·.2)))
      else match cs[off]? with
        | some c => K (.c c.1 c.2)
        | none => False
    | none => False
  | .ref es =>
    if (L.ti t).isAgg then (L.ti t).size ≤ es.length ∧ K (.agg (es.take (L.ti t).size))
    else match es[0]? with
      | some e => K (.c none e)
      | none => False
  | _ => False

def fieldAddrK (L : Tab) (t : Nat) (d : D) (f : Nat) (K : D → Prop) : Prop :=
  match (L.ti t).k with
  | .struct fs =>
    match fs[f]? with
    | some (ft, off) =>
      if (L.ti ft).size = 0 then False else
      match d with
      | .ptr n o => K (.ptr n (o + off))
      | .ref es => K (.ref (es.drop off))
      | _ => False
    | none => False
  | _ => False

def fieldK (L : Tab) (t : Nat) (d : D) (f : Nat) (K : D → Prop) : Prop :=
  match (L.ti t).k with
  | .struct fs =>
    match fs[f]?, d with
    | some (ft, off), .agg es => partK L ft es off K
    | _, _ => False
  | _ => False

def indexAddrK (L : Tab) (t : Nat) (d i : D) (K : D → Prop) : Prop :=
  match i.int? with
  | none => False
  | some n =>
    match (L.ti t).k with
    | .slice e =>
      match d.rows? with
      | some rows => (L.ti e).known = true ∧ 0 ≤ n ∧ (match rows[n.toNat]? with
        | some row => row.length = (L.ti e).size ∧ K (.ref row)
        | none => False)
      | none => False
    | .array len e =>
      (L.ti e).known = true ∧ 0 ≤ n ∧ n < len ∧ (match d with
        | .ptr m off => K (.ptr m (off + n.toNat * (L.ti e).size))
        | .ref es => K (.ref (es.drop (n.toNat * (L.ti e).size)))
        | _ => False)
    | _ => False

def indexK (L : Tab) (t : Nat) (d i : D) (K : D → Prop) : Prop :=
  match i.int? with
  | none => False
  | some n =>
    match (L.ti t).k, d with
    | .string, .c _ (.v (.string s)) => 0 ≤ n ∧ (match s[n.toNat]? with
      | some b => K (.c none (.v (.int .u8 b.toNat)))
      | none => False)
    | .array len e, .agg es => (L.ti e).known = true ∧ 0 ≤ n ∧ n < len ∧ partK L e es (n.toNat * (L.ti e).size) K
    | _, _ => False

def bound (dflt : Nat) : Option D → Option Int
  | none => some dflt
  | some d => d.int?

def sliceK (L : Tab) (t : Nat) (d : D) (lo hi mx : Option D) (K : D → Prop) : Prop :=
  match mx with
  | some _ => False
  | none =>
    match (L.ti t).k, d with
    | .string, .c _ (.v (.string s)) =>
      match bound 0 lo, bound s.size hi with
      | some l, some h => 0 ≤ l ∧ l ≤ h ∧ h ≤ s.size ∧ K (.c none (.v (.string (s.extract l.toNat h.toNat))))
      | _, _ => False
    | .slice e, .c _ (.sl rows) =>
      match bound 0 lo, bound rows.length hi with
      | some l, some h => 0 ≤ l ∧ l ≤ h ∧ h ≤ rows.length ∧ (∀ row ∈ rows, row.length = (L.ti e).size) ∧ (L.ti e).known = true ∧ K (.c none (.sl ((rows.take h.toNat).drop l.toNat)))
      | _, _ => False
    | .slice e, .c _ .nils =>
      match bound 0 lo, bound 0 hi with
      | some l, some h => l = 0 ∧ h = 0 ∧ (L.ti e).known = true ∧ K (.c none .nils)
      | _, _ => False
    | _, _ => False

def fillE (cells : List E) (off : Nat) (new : List E) : List E := cells.take off ++ new ++ cells.drop (off + new.length)
def buildK (S : AS) (place : Nat → Option (Nat × Nat)) : List (Nat × Operand) → List E → (List E → Prop) → Prop
  | [], cells, K => K cells
  | (i, x) :: rest, cells, K =>
    match place i, (S.ev x).es with
    | some (off, size), some es => es.length = size ∧ off + es.length ≤ cells.length ∧ buildK S place rest (fillE cells off es) K
    | _, _ => False
def rowsOf (size : Nat) : Nat → List E → List (List E)
  | 0, _ => []
  | n + 1, cells => cells.take size :: rowsOf size n (cells.drop size)
def repE (n : Nat) (z : List E) : List E := (List.replicate n z).flatten

/-- The bytes of numbers. -/
def bytesOf (l : List Int) : ByteArray := l.foldl (fun r n => r.push (UInt8.ofNat n.toNat)) ByteArray.empty
def byteRow (n : Int) : List E := [.v (.int .u8 n)]
def convertK (L : Tab) (src dst : Nat) (d : D) (K : D → Prop) : Prop :=
  match (L.ti dst).k, d with
  | .int k, .c _ (.v (.int _ n)) => (match (L.ti src).k with | .int _ => True | _ => False) ∧ K (.c none (.v (.int k (k.wrap n))))
  | .string, .c _ (.v (.string s)) => (match (L.ti src).k with | .string => True | _ => False) ∧ K (.c none (.v (.string s)))
  | .string, .c _ (.sl rows) => (match (L.ti src).k with | .slice e => (L.ti e).k = .int .u8 | _ => False) ∧ ∃ l : List Int, rows = l.map byteRow ∧ K (.c none (.v (.string (bytesOf l))))
  | _, _ => False

def lenK (L : Tab) (t : Nat) (d : D) (K : D → Prop) : Prop :=
  match (L.ti t).k, d with
  | .string, .c _ (.v (.string s)) => K (.c none (.v (.int .i64 s.size)))
  | .slice _, .c _ (.sl rows) => rows.length ≤ maxLen → K (.c none (.v (.int .i64 rows.length)))
  | .slice _, .c _ .nils => K (.c none (.v (.int .i64 0)))
  | _, _ => False

def extrK (mx : Bool) (d e : D) (K : D → Prop) : Prop :=
  match d, e with
  | .c _ (.v (.int k a)), .c _ (.v (.int _ b)) => K (.c none (.v (.int k (if mx then (if b > a then b else a) else (if b < a then b else a)))))
  | _, _ => False

def binK (L : Tab) (op : BinOp) (t : Nat) (d e : D) (K : D → Prop) : Prop :=
  match d, e with
  | .c _ (.v x), .c _ (.v y) =>
    match binE op x y with
    | some r => addOk op x y ∧ K (.c none (.v r))
    | none => match (L.ti t).k, op, x, y with
      | .bool, .eql, .bool a, .bool b => K (.c none (.v (.bool (a == b))))
      | .bool, .neq, .bool a, .bool b => K (.c none (.v (.bool (!(a == b)))))
      | _, _, _, _ => False
  | .c _ (.sl rows), .c _ .nils =>
    match (L.ti t).k, op with
    | .slice _, .eql => (rows = [] → K (.c none (.v (.bool true)))) ∧ K (.c none (.v (.bool false)))
    | .slice _, .neq => (rows = [] → K (.c none (.v (.bool false)))) ∧ K (.c none (.v (.bool true)))
    | _, _ => False
  | .c _ .nils, .c _ .nils =>
    match (L.ti t).k, op with
    | .slice _, .eql => K (.c none (.v (.bool true)))
    | .slice _, .neq => K (.c none (.v (.bool false)))
    | _, _ => False
  | .agg xs, .agg ys =>
    match eqD L 8 t (.agg xs) (.agg ys), op with
    | some b, .eql => K (.c none (.v (.bool b)))
    | some b, .neq => K (.c none (.v (.bool (!b))))
    | _, _ => False
  | _, _ => False

def isNilC : Operand → Bool
  | .const .nilIface => true
  | _ => false
/-- '==' and '!=', a value of an interface against the literal nil too. -/
def binKC (L : Tab) (S : AS) (op : BinOp) (t : Nat) (x y : Operand) (K : D → Prop) : Prop :=
  match isNilC y with
  | true =>
    match S.ev x, op, (L.ti t).k with
    | .c _ (.ifc b), .eql, .iface => K (.c none (.v (.bool (!b))))
    | .c _ (.ifc b), .neq, .iface => K (.c none (.v (.bool b)))
    | _, _, _ => False
  | false => binK L op t (S.ev x) (S.ev y) K

def unK (op : UnOp) (d : D) (K : D → Prop) : Prop :=
  match op, d with
  | .neg, .c _ (.v (.int k n)) => K (.c none (.v (.int k (k.wrap (0 - n)))))
  | .not, .c _ (.v (.bool b)) => K (.c none (.v (.bool !b)))
  | _, _ => False

def nilK (d : D) (K : D → Prop) : Prop :=
  match d with
  | .ptr n off => K (.ptr n off)
  | .ref es => K (.ref es)
  | .c tk (.v (.func (.func f) a b)) => K (.c tk (.v (.func (.func f) a b)))
  | _ => False

def vals? (S : AS) : List Operand → Option (List Value)
  | [] => some []
  | x :: xs => match (S.ev x).v?, vals? S xs with
    | some v, some vs => some (v :: vs)
    | _, _ => none

/-- One of two ways, by a Bool: where the Bool is known nothing is left of it. -/
def branchK (b : Bool) (A B : Prop) : Prop :=
  match b with
  | true => A
  | false => B
def branchG (b want : Bool) (A B : Prop) : Prop :=
  match want with
  | true => branchK b A B
  | false => branchK b B A
theorem branch_intro {b : Bool} {A B : Prop} (h1 : b = true → A) (h2 : b = false → B) : branchK b A B := by cases b; exact h2 rfl; exact h1 rfl
theorem branchG_yes {b want : Bool} {A B : Prop} (h : branchG b want A B) (hb : b = want) : A := by subst hb; cases b <;> exact h
theorem branchG_no {b want : Bool} {A B : Prop} (h : branchG b want A B) (hb : b = !want) : B := by subst hb; cases want <;> exact h

/-- An operation that changes no state. -/
def opV (L : Tab) (S : AS) (op : Op) (K : D → Prop) : Prop :=
  match op with
  | .move x | .assign x => K (S.ev x)
  | .pick c a b =>
    match S.ev c with
    | .c _ (.v (.bool t)) => branchK t (K (S.ev a)) (K (S.ev b))
    | _ => False
  | .load t p => loadK L S t (S.ev p) K
  | .fieldAddr t p f => fieldAddrK L t (S.ev p) f K
  | .field t x f => fieldK L t (S.ev x) f K
  | .indexAddr t x i => indexAddrK L t (S.ev x) (S.ev i) K
  | .index t x i => indexK L t (S.ev x) (S.ev i) K
  | .slice t x lo hi mx => sliceK L t (S.ev x) (lo.map S.ev) (hi.map S.ev) (mx.map S.ev) K
  | .binOp op t x y _ => binKC L S op t x y K
  | .unOp op _ x => unK op (S.ev x) K
  | .convert s t x => convertK L s t (S.ev x) K
  | .nilCheck x => nilK (S.ev x) K
  | .build t parts =>
    match (L.ti t).k, (L.ti t).zero with
    | .struct fs, some z => (fs.all fun f => (L.ti f.1).known) = true ∧ buildK S (fun i => (fs[i]?).map fun f => (f.2, (L.ti f.1).size)) parts.toList z fun es => K (.agg es)
    | .array _ e, some z => (L.ti e).known = true ∧ buildK S (fun i => some (i * (L.ti e).size, (L.ti e).size)) parts.toList z fun es => K (.agg es)
    | _, _ => False
  | .extract x i =>
    match S.ev x with
    | .tup xs => (match xs[i]? with | some x => K x.d | none => False)
    | _ => False
  | .makeFunc fn first captured =>
    match vals? S first.toList, vals? S captured.toList with
    | some a, some b => K (.c none (.v (.func fn a.toArray b.toArray)))
    | _, _ => False
  | .call c =>
    match c.callee, c.args.toList, c.argTypes.toList with
    | .builtin .len, [x], [t] => lenK L t (S.ev x) K
    | .builtin .max, [x, y], _ => extrK true (S.ev x) (S.ev y) K
    | .builtin .min, [x, y], _ => extrK false (S.ev x) (S.ev y) K
    | _, _, _ => False
  | _ => False

end Go.Am

/- What abstract data say of values in memory, and of a state: the relation that every step keeps. -/
set_option linter.unusedVariables false
set_option linter.unusedSimpArgs false
namespace Go.Am
open Go.RowKit

abbrev Stab := Nat → Nat → Prop

/-- What is known of package-level variables that nobody writes: block, place, what there is (beyond the end: nothing). -/
class Gl (P : Program) where
  l : List (Nat × Nat × (Option Value → Prop))
def Globs (P : Program) [Gl P] (w : World) (S : Stab) : Prop := ∀ x ∈ (Gl.l P : List (Nat × Nat × (Option Value → Prop))), S x.1 x.2.1 ∧ x.2.2 (w.cell? ⟨x.1, x.2.1, none⟩)
theorem Globs.later {P : Program} [Gl P] {w w' : World} {S S' : Stab} (h : Globs P w S) (h1 : ∀ b o, S b o → S' b o) (h2 : ∀ b o, S b o → w'.cell? ⟨b, o, none⟩ = w.cell? ⟨b, o, none⟩) : Globs P w' S' :=
  fun x hx => let ⟨h3, h4⟩ := h x hx; ⟨h1 _ _ h3, by rw [h2 _ _ h3]; exact h4⟩

inductive RepE (w : World) (St : Stab) : E → Value → Prop
  | v (x : Value) (h : x.oneCell' = true) : RepE w St (.v x) x
  | nils : RepE w St .nils (.slice none 0 0)
  | ifc (b : Bool) (x : Value) (h : (b = false ∧ x = .nilIface) ∨ (b = true ∧ ∃ t u, x = .iface t u)) : RepE w St (.ifc b) x
  | mp (rows : List (List E)) (x : Value) (h : x.oneCell' = true) : RepE w St (.mp rows) x
  | sl (rows : List (List E)) (A : Option Addr) (n c sz b o : Nat) (vals : Nat → Nat → Value) (hn : rows.length = n) (hc : n ≤ c) (hm : c ≤ maxLen)
      (hA : 0 < n → A = some ⟨b, o, none⟩) (hs : ∀ (i : Nat) (row : List E), rows[i]? = some row → row.length = sz)
      (hv : ∀ (i k : Nat) (row : List E) (e : E), rows[i]? = some row → row[k]? = some e → St b (o + i * sz + k) ∧ w.cell? ⟨b, o + i * sz + k, none⟩ = some (vals i k))
      (hr : ∀ (i k : Nat) (row : List E) (e : E), rows[i]? = some row → row[k]? = some e → RepE w St e (vals i k)) : RepE w St (.sl rows) (.slice A n c)

def Later (w w' : World) (St St' : Stab) : Prop := (∀ b o, St b o → St' b o) ∧ ∀ b o, St b o → w'.cell? ⟨b, o, none⟩ = w.cell? ⟨b, o, none⟩
theorem Later.refl (w : World) (St : Stab) : Later w w St St := ⟨fun _ _ h => h, fun _ _ _ => rfl⟩
theorem Later.trans {w w1 w2 : World} {S S1 S2 : Stab} (h : Later w w1 S S1) (k : Later w1 w2 S1 S2) : Later w w2 S S2 :=
  ⟨fun b o hb => k.1 b o (h.1 b o hb), fun b o hb => (k.2 b o (h.1 b o hb)).trans (h.2 b o hb)⟩

theorem RepE.later {w w' : World} {St St' : Stab} (hl : Later w w' St St') {e : E} {x : Value} (h : RepE w St e x) : RepE w' St' e x := by
  induction h with
  | v x h => exact .v x h
  | nils => exact .nils
  | ifc b x h => exact .ifc b x h
  | mp rows x h => exact .mp rows x h
  | sl rows A n c sz b o vals hn hc hm hA hs hv hr ih =>
    exact .sl rows A n c sz b o vals hn hc hm hA hs
      (fun i k row e hi hk => ⟨hl.1 _ _ (hv i k row e hi hk).1, (hl.2 _ _ (hv i k row e hi hk).1).trans (hv i k row e hi hk).2⟩) ih

theorem RepE.oneCell {w : World} {St : Stab} {e : E} {x : Value} (h : RepE w St e x) : x.oneCell' = true := by
  cases h with
  | v _ h => exact h
  | nils => rfl
  | ifc b x h => rcases h with ⟨_, rfl⟩ | ⟨_, t, u, rfl⟩ <;> rfl
  | mp rows x h => exact h
  | sl => rfl

def RepL (w : World) (St : Stab) (es : List E) (vs : List Value) : Prop := es.length = vs.length ∧ ∀ (k : Nat) (e : E), es[k]? = some e → ∃ u, vs[k]? = some u ∧ RepE w St e u
theorem RepL.later {w w' : World} {St St' : Stab} (hl : Later w w' St St') {es : List E} {vs : List Value} (h : RepL w St es vs) : RepL w' St' es vs :=
  ⟨h.1, fun k e hk => let ⟨u, hu, hr⟩ := h.2 k e hk; ⟨u, hu, hr.later hl⟩⟩

def RepX (w : World) (St : Stab) : X → Value → Prop
  | .bot, _ => True
  | .c e, v => RepE w St e v
  | .agg es, v => ∃ vs : List Value, v = .agg vs.toArray ∧ RepL w St es vs

def RepR (w : World) (St : Stab) (es : List E) (b o : Nat) : Prop := ∀ (k : Nat) (e : E), es[k]? = some e → ∃ u, St b (o + k) ∧ w.cell? ⟨b, o + k, none⟩ = some u ∧ RepE w St e u

def RepD (w : World) (St : Stab) (ρ : Nat → Nat) : D → Value → Prop
  | .bot, _ => True
  | .c _ e, v => RepE w St e v
  | .agg es, v => ∃ vs : List Value, v = .agg vs.toArray ∧ RepL w St es vs
  | .tup xs, v => ∃ vs : List Value, v = .tuple vs.toArray ∧ xs.length = vs.length ∧ ∀ (k : Nat) (x : X), xs[k]? = some x → ∃ u, vs[k]? = some u ∧ RepX w St x u
  | .ptr n off, v => v = .pointer (some ⟨ρ n, off, none⟩)
  | .ref es, v => ∃ b o, v = .pointer (some ⟨b, o, none⟩) ∧ RepR w St es b o

theorem RepX.later {w w' : World} {St St' : Stab} (hl : Later w w' St St') {x : X} {v : Value} (h : RepX w St x v) : RepX w' St' x v := by
  cases x with
  | bot => exact trivial
  | c e => exact RepE.later hl h
  | agg es => obtain ⟨vs, rfl, h⟩ := h; exact ⟨vs, rfl, h.later hl⟩
theorem RepD.later {w w' : World} {St St' : Stab} {ρ : Nat → Nat} (hl : Later w w' St St') {d : D} {v : Value} (h : RepD w St ρ d v) : RepD w' St' ρ d v := by
  cases d with
  | bot => exact trivial
  | c t e => exact RepE.later hl h
  | agg es => obtain ⟨vs, rfl, h⟩ := h; exact ⟨vs, rfl, h.later hl⟩
  | tup xs => obtain ⟨vs, rfl, h1, h2⟩ := h; exact ⟨vs, rfl, h1, fun k x hk => let ⟨u, hu, hr⟩ := h2 k x hk; ⟨u, hu, hr.later hl⟩⟩
  | ptr n off => exact h
  | ref es => obtain ⟨b, o, rfl, h⟩ := h; exact ⟨b, o, rfl, fun k e hk => let ⟨u, hs, hu, hr⟩ := h k e hk; ⟨u, hl.1 _ _ hs, (hl.2 _ _ hs).trans hu, hr.later hl⟩⟩
theorem RepD.names {w : World} {St : Stab} {ρ ρ' : Nat → Nat} {d : D} {v : Value} (h : RepD w St ρ d v) (hρ : ∀ n off, d = .ptr n off → ρ' n = ρ n) : RepD w St ρ' d v := by
  cases d with
  | ptr n off => show v = _; rw [hρ n off rfl]; exact h
  | _ => exact h
theorem RepD.strip {w : World} {St : Stab} {ρ : Nat → Nat} {d : D} {v : Value} (t : Nat) (h : RepD w St ρ d v) : RepD w St ρ (stripD t d) v := by
  cases d with
  | c tk e => cases tk <;> exact h
  | _ => exact h

/-- A value with a token is held: in a temporary, in a box. -/
def Held (S : AS) (tm : Array Value) (w : World) (ρ : Nat → Nat) (t k : Nat) (e : E) (v : Value) : Prop :=
  (∃ i, S.get i = .c (some (t, k)) e ∧ v = tm.getD i undef) ∨ (∃ (n : Nat) (cs : List Cell) (j : Nat), S.box n = some cs ∧ cs[j]? = some (some (t, k), e) ∧ w.cell? ⟨ρ n, j, none⟩ = some v)

/-- The row of a value with a token. -/
def Own (P : Program) [Gl P] (B : Nat) (M0 : Nat → Prop) (w : World) (St : Stab) (k : Nat) (e : E) (v : Value) : Prop :=
  (v = .slice none 0 0 ∧ (e = .nils ∨ e = .sl [])) ∨
  ∃ g cap cur rows, e = .sl rows ∧ v = .slice (some ⟨g, 0, none⟩) rows.length cap ∧ (B ≤ g ∨ M0 g) ∧ w.heap[g]? = some (.cells cur k (0, 0)) ∧
    rows.length ≤ cap ∧ cap ≤ maxLen ∧ cur.size = cap * P.cellsOf k ∧ (∀ o, St g o → o < rows.length * P.cellsOf k)

structure RelAt (P : Program) [Gl P] (w0 : World) (M0 : Nat → Prop) (S0 : Stab) (S : AS) (tm : Array Value) (w : World) (St : Stab) (ρ : Nat → Nat) : Prop where
  glob : Globs P w0 S0
  os : w.os = w0.os
  tape : w.tape = w0.tape
  output : w.output = w0.output
  size : w0.heap.size ≤ w.heap.size
  old : ∀ b, b < w0.heap.size → ¬ M0 b → w.heap[b]? = w0.heap[b]?
  stay : ∀ b o, S0 b o → w.cell? ⟨b, o, none⟩ = w0.cell? ⟨b, o, none⟩
  up : ∀ b o, S0 b o → St b o
  dn : ∀ b o, St b o → b < w0.heap.size → S0 b o ∨ M0 b
  lt : ∀ b o, St b o → b < w.heap.size
  tmp : ∀ i, RepD w St ρ (S.get i) (tm.getD i undef)
  box : ∀ n cs, S.box n = some cs → (w0.heap.size ≤ ρ n ∨ M0 (ρ n)) ∧ (∀ o, ¬ St (ρ n) o) ∧ ∃ arr t, w.heap[ρ n]? = some (.cells arr t (0, 0)) ∧ arr.size = cs.length ∧
      ∀ (k : Nat) (c : Cell), cs[k]? = some c → ∃ u, arr[k]? = some u ∧ RepE w St c.2 u
  inj : ∀ n m cs ds, S.box n = some cs → S.box m = some ds → n ≠ m → ρ n ≠ ρ m
  own : ∀ t k e v, Held S tm w ρ t k e v → Own P w0.heap.size M0 w St k e v
  apart : ∀ t k e v t' k' e' v', Held S tm w ρ t k e v → Held S tm w ρ t' k' e' v' → t ≠ t' → v.ownBlock = none ∨ v.ownBlock ≠ v'.ownBlock
  ownbox : ∀ t k e v n cs, Held S tm w ρ t k e v → S.box n = some cs → v.ownBlock ≠ some (ρ n)

def Rel (P : Program) [Gl P] (w0 : World) (M0 : Nat → Prop) (S0 : Stab) (S : AS) (tm : Array Value) (w : World) : Prop := ∃ St ρ, RelAt P w0 M0 S0 S tm w St ρ

/-! ### lookups -/
theorem look_ins {α : Type} (i j : Nat) (x : α) (l : List (Nat × α)) : look (ins i x l) j = if j = i then some x else look l j := by
  induction l with
  | nil => simp [ins, look]
  | cons p l ih =>
    obtain ⟨a, y⟩ := p
    simp only [ins]
    by_cases h : i = a
    · subst h; simp only [if_true, look]; split <;> simp_all
    · rw [if_neg h]; simp only [look, ih]
      by_cases h1 : j = a
      · subst h1; rw [if_pos rfl, if_neg (fun e => h e.symm)]; simp
      · rw [if_neg h1]; simp [h1]
theorem look_del {α : Type} (i j : Nat) (l : List (Nat × α)) : look (del i l) j = if j = i then none else look l j := by
  induction l with
  | nil => simp [del, look]
  | cons p l ih =>
    obtain ⟨a, y⟩ := p
    simp only [del, look]
    by_cases h : i = a
    · subst h; rw [if_pos rfl, ih]; split <;> simp_all
    · rw [if_neg h]; simp only [look, ih]
      by_cases h1 : j = a
      · subst h1; simp [show ¬ j = i from fun e => h e.symm]
      · simp [h1]
theorem look_map {α β : Type} (f : α → β) (l : List (Nat × α)) (j : Nat) : look (l.map fun p => (p.1, f p.2)) j = (look l j).map f := by
  induction l with
  | nil => rfl
  | cons p l ih => obtain ⟨a, y⟩ := p; simp only [List.map_cons, look, ih]; split <;> rfl

theorem get_put (S : AS) (i j : Nat) (d : D) : (S.put i d).get j = if j = i then d else S.get j := by
  simp only [AS.get, AS.put, look_ins]; split <;> rfl
theorem box_put (S : AS) (i : Nat) (d : D) (n : Nat) : (S.put i d).box n = S.box n := rfl
theorem get_setBox (S : AS) (n j : Nat) (cs : List Cell) : (S.setBox n cs).get j = S.get j := rfl
theorem box_setBox (S : AS) (n m : Nat) (cs : List Cell) : (S.setBox n cs).box m = if m = n then some cs else S.box m := by simp only [AS.box, AS.setBox, look_ins]
theorem get_strip (S : AS) (t j : Nat) : (S.strip t).get j = stripD t (S.get j) := by
  simp only [AS.get, AS.strip, mapV_eq, look_map]; cases look S.tmps j <;> rfl
theorem box_strip (S : AS) (t n : Nat) : (S.strip t).box n = (S.box n).map (·.map (stripC t)) := by simp only [AS.box, AS.strip, mapV_eq, look_map]
theorem get_kill (S : AS) (n j : Nat) : (S.kill n).get j = killD n (S.get j) := by
  simp only [AS.get, AS.kill, mapV_eq, look_map]; cases look S.tmps j <;> rfl
theorem box_kill (S : AS) (n m : Nat) : (S.kill n).box m = if m = n then none else S.box m := by simp only [AS.box, AS.kill, look_del]

theorem look_keep (l : List Nat) (f : Nat → D) (j : Nat) : look (l.map fun i => (i, f i)) j = if j ∈ l then some (f j) else none := by
  induction l with
  | nil => rfl
  | cons a l ih =>
    simp only [List.map_cons, look, ih, List.mem_cons]
    by_cases h : j = a
    · subst h; simp
    · simp [h]
theorem get_keep (S : AS) (ts bs : List Nat) (j : Nat) : (S.keep ts bs).get j = if j ∈ ts then S.get j else .bot := by
  have := look_keep ts S.get j
  simp only [AS.get, AS.keep] at this ⊢
  rw [this]; split <;> rfl
theorem box_keep (S : AS) (ts bs : List Nat) (n : Nat) (cs : List Cell) (h : (S.keep ts bs).box n = some cs) : S.box n = some cs := by
  simp only [AS.box, AS.keep] at h
  induction bs with
  | nil => simp [look] at h
  | cons a l ih =>
    simp only [List.filterMap_cons] at h
    cases ha : look S.boxes a with
    | none => simp only [AS.box, ha, Option.map_none] at h; exact ih h
    | some c =>
      simp only [AS.box, ha, Option.map_some, look] at h
      by_cases hn : n = a
      · subst hn; rw [if_pos rfl] at h; simp only [AS.box]; rw [ha]; exact h
      · rw [if_neg hn] at h; exact ih h

/-! ### forgetting -/
/-- T tells no more than S. -/
structure Less (S T : AS) : Prop where
  get : ∀ i, T.get i = .bot ∨ T.get i = S.get i ∨ ∃ t e, S.get i = .c (some t) e ∧ T.get i = .c none e
  box : ∀ n cs, T.box n = some cs → ∃ ds, S.box n = some ds ∧ ds.length = cs.length ∧ ∀ (k : Nat) (c : Cell), cs[k]? = some c → ∃ d, ds[k]? = some d ∧ c.2 = d.2 ∧ (c.1 = d.1 ∨ c.1 = none)

theorem Held.less {S T : AS} (h : Less S T) {tm : Array Value} {w : World} {ρ : Nat → Nat} {t k : Nat} {e : E} {v : Value} (hh : Held T tm w ρ t k e v) : Held S tm w ρ t k e v := by
  rcases hh with ⟨i, hi, hv⟩ | ⟨n, cs, j, hb, hj, hv⟩
  · rcases h.get i with h1 | h1 | ⟨t', e', h1, h2⟩
    · rw [hi] at h1; cases h1
    · exact .inl ⟨i, h1 ▸ hi, hv⟩
    · rw [hi] at h2; cases h2
  · obtain ⟨ds, hd, hl, hk⟩ := h.box n cs hb
    obtain ⟨d, hdj, h2, h1⟩ := hk j _ hj
    rcases h1 with h1 | h1
    · refine .inr ⟨n, ds, j, hd, ?_, hv⟩
      rw [hdj]; obtain ⟨d1, d2⟩ := d; simp only at h1 h2; subst h1 h2; rfl
    · cases h1

theorem RelAt.less {P : Program} [Gl P] {w0 : World} {M0 : Nat → Prop} {S0 : Stab} {S T : AS} {tm : Array Value} {w : World} {St : Stab} {ρ : Nat → Nat}
    (h : RelAt P w0 M0 S0 S tm w St ρ) (hl : Less S T) : RelAt P w0 M0 S0 T tm w St ρ where
  glob := h.glob
  os := h.os
  tape := h.tape
  output := h.output
  size := h.size
  old := h.old
  stay := h.stay
  up := h.up
  dn := h.dn
  lt := h.lt
  tmp i := by
    rcases hl.get i with h1 | h1 | ⟨t, e, h1, h2⟩
    · rw [h1]; exact trivial
    · rw [h1]; exact h.tmp i
    · have := h.tmp i; rw [h1] at this; rw [h2]; exact this
  box n cs hb := by
    obtain ⟨ds, hd, hln, hk⟩ := hl.box n cs hb
    obtain ⟨h1, h2, arr, t, h3, h4, h5⟩ := h.box n ds hd
    refine ⟨h1, h2, arr, t, h3, by omega, fun k c hc => ?_⟩
    obtain ⟨d, hd1, hd2, _⟩ := hk k c hc
    obtain ⟨u, hu, hr⟩ := h5 k d hd1
    exact ⟨u, hu, hd2 ▸ hr⟩
  inj n m cs ds hn hm hne := by
    obtain ⟨cs', hn', _⟩ := hl.box n cs hn
    obtain ⟨ds', hm', _⟩ := hl.box m ds hm
    exact h.inj n m cs' ds' hn' hm' hne
  own t k e v hh := h.own t k e v (hh.less hl)
  apart t k e v t' k' e' v' hh hh' hne := h.apart t k e v t' k' e' v' (hh.less hl) (hh'.less hl) hne
  ownbox t k e v n cs hh hb := by
    obtain ⟨cs', hn', _⟩ := hl.box n cs hb
    exact h.ownbox t k e v n cs' (hh.less hl) hn'

theorem Less.refl (S : AS) : Less S S := ⟨fun i => .inr (.inl rfl), fun n cs h => ⟨cs, h, rfl, fun k c hc => ⟨c, hc, rfl, .inl rfl⟩⟩⟩
theorem Less.keep (S : AS) (ts bs : List Nat) : Less S (S.keep ts bs) where
  get i := by rw [get_keep]; split; exact .inr (.inl rfl); exact .inl rfl
  box n cs h := ⟨cs, box_keep S ts bs n cs h, rfl, fun k c hc => ⟨c, hc, rfl, .inl rfl⟩⟩
theorem Less.strip (S : AS) (t : Nat) : Less S (S.strip t) where
  get i := by
    rw [get_strip]
    cases hd : S.get i with
    | c tk e =>
      cases tk with
      | none => exact .inr (.inl rfl)
      | some u =>
        obtain ⟨u, k⟩ := u
        simp only [stripD]
        by_cases hu : u = t
        · rw [if_pos hu]; exact .inr (.inr ⟨_, _, rfl, rfl⟩)
        · rw [if_neg hu]; exact .inr (.inl rfl)
    | _ => exact .inr (.inl rfl)
  box n cs h := by
    rw [box_strip] at h
    cases hb : S.box n with
    | none => simp [hb] at h
    | some ds =>
      rw [hb] at h
      simp only [Option.map_some, Option.some.injEq] at h
      subst h
      refine ⟨ds, rfl, by simp, fun k c hc => ?_⟩
      rw [List.getElem?_map] at hc
      cases hk : ds[k]? with
      | none => simp [hk] at hc
      | some d =>
        rw [hk] at hc
        simp only [Option.map_some, Option.some.injEq] at hc
        subst hc
        refine ⟨d, rfl, ?_⟩
        obtain ⟨tk, e⟩ := d
        cases tk with
        | none => exact ⟨rfl, .inl rfl⟩
        | some u => obtain ⟨u, k⟩ := u; refine ⟨rfl, ?_⟩; simp only [stripC]; split; exact .inr rfl; exact .inl rfl
theorem Less.kill (S : AS) (n : Nat) : Less S (S.kill n) where
  get i := by
    rw [get_kill]
    cases hd : S.get i with
    | ptr m off => simp only [killD]; split; exact .inl rfl; exact .inr (.inl rfl)
    | _ => exact .inr (.inl rfl)
  box m cs h := by
    rw [box_kill] at h
    split at h
    · cases h
    · exact ⟨cs, h, rfl, fun k c hc => ⟨c, hc, rfl, .inl rfl⟩⟩
theorem held_strip {S : AS} {tm : Array Value} {w : World} {ρ : Nat → Nat} {s t k : Nat} {e : E} {v : Value} (h : Held (S.strip s) tm w ρ t k e v) : t ≠ s := by
  rintro rfl
  rcases h with ⟨i, hi, _⟩ | ⟨n, cs, j, hb, hj, _⟩
  · rw [get_strip] at hi
    cases hd : S.get i with
    | c tk e' =>
      rw [hd] at hi
      cases tk with
      | none => simp [stripD] at hi
      | some u =>
        obtain ⟨u, k'⟩ := u
        simp only [stripD, D.c.injEq] at hi
        obtain ⟨h1, _⟩ := hi
        split at h1
        · cases h1
        · rename_i hne; injection h1 with h1; injection h1 with h1; exact hne h1
    | _ => rw [hd] at hi; simp [stripD] at hi
  · rw [box_strip] at hb
    cases hbx : S.box n with
    | none => simp [hbx] at hb
    | some ds =>
      rw [hbx] at hb
      simp only [Option.map_some, Option.some.injEq] at hb
      subst hb
      rw [List.getElem?_map] at hj
      cases hk : ds[j]? with
      | none => simp [hk] at hj
      | some d =>
        rw [hk] at hj
        obtain ⟨tk, e'⟩ := d
        cases tk with
        | none => simp [stripC] at hj
        | some u =>
          obtain ⟨u, k'⟩ := u
          simp only [Option.map_some, stripC, Option.some.injEq, Prod.mk.injEq] at hj
          obtain ⟨h1, _⟩ := hj
          split at h1
          · cases h1
          · rename_i hne; injection h1 with h1; injection h1 with h1; exact hne h1

end Go.Am

/- Each operation that changes no state does what its abstract word says. -/
set_option linter.unusedVariables false
set_option linter.unusedSimpArgs false
namespace Go.Am
open Go.RowKit

/-! ### types -/
theorem TOk.at_ {P : Program} [Gl P] {L : Tab} (h : TOk P L) (t : Nat) : L.ti t = TI.of P t ∨ L.ti t = ⟨.other, 0, 0, none, false⟩ := by
  unfold Tab.ti
  unfold TOk at h
  induction L with
  | nil => right; rfl
  | cons p L ih =>
    obtain ⟨j, x⟩ := p
    simp only [List.map_cons, List.cons.injEq, Prod.mk.injEq, true_and] at h
    simp only [look]
    by_cases ht : t = j
    · subst ht; left; rw [if_pos rfl]; exact h.1.symm
    · rw [if_neg ht]; exact ih h.2

structure Ty (P : Program) [Gl P] (i : TI) (t : Nat) (d : TypeDesc) (ti : TypeInfo) : Prop where
  info : P.info? t = some ti
  und : P.underlying t = some d
  k : i.k = tkOf d
  size : i.size = ti.size
  bytes : i.bytes = ti.bytes
  cmp : i.cmp = (!P.stoodInHeld t && namedAll d && !P.eqGuardType P.depth t)
  zero : ∀ z, i.zero = some z → ∃ u, ti.zero = some u ∧ u.cells.toList.all (·.oneCell') = true ∧ z = u.cells.toList.map constE

theorem TOk.ty {P : Program} [Gl P] {L : Tab} (h : TOk P L) {t : Nat} (hne : (L.ti t).known = true ∨ (L.ti t).size ≠ 0) : ∃ d ti, Ty P (L.ti t) t d ti := by
  rcases h.at_ t with h1 | h1
  · unfold TI.of at h1
    cases hi : P.info? t with
    | none => rw [hi] at h1; rw [h1] at hne; simp [TI.known] at hne
    | some ti =>
      cases hu : P.underlying t with
      | none => rw [hi, hu] at h1; rw [h1] at hne; simp [TI.known] at hne
      | some d =>
        rw [hi, hu] at h1
        refine ⟨d, ti, hi, hu, by rw [h1], by rw [h1], by rw [h1], by rw [h1], fun z hz => ?_⟩
        rw [h1] at hz
        simp only [Option.bind_eq_some_iff] at hz
        obtain ⟨u, h2, h3⟩ := hz
        split at h3
        · rename_i hall; exact ⟨u, h2, hall, by simpa using h3.symm⟩
        · cases h3
  · rw [h1] at hne; simp [TI.known] at hne
theorem known_of {i : TI} {k : TK} (h : i.k = k) (hk : k ≠ .other) : i.known = true := by
  unfold TI.known; rw [h]; cases k <;> simp_all

theorem tk_slice {d : TypeDesc} {e : Nat} (h : tkOf d = .slice e) : d = .slice e := by cases d <;> simp_all [tkOf]
theorem tk_array {d : TypeDesc} {n e : Nat} (h : tkOf d = .array n e) : d = .array n e := by cases d <;> simp_all [tkOf]
theorem tk_struct {d : TypeDesc} {fs : List (Nat × Nat)} (h : tkOf d = .struct fs) : ∃ gs, d = .struct gs ∧ fs = gs.toList.map fun f => (f.type, f.offset) := by
  cases d <;> simp_all [tkOf]
theorem tk_string {d : TypeDesc} (h : tkOf d = .string) : d = .string := by cases d <;> simp_all [tkOf]
theorem tk_bool {d : TypeDesc} (h : tkOf d = .bool) : d = .bool := by cases d <;> simp_all [tkOf]
theorem tk_int {d : TypeDesc} {k : IntKind} (h : tkOf d = .int k) : d = .int k := by cases d <;> simp_all [tkOf]
theorem tk_iface {d : TypeDesc} (h : tkOf d = .iface) : ∃ m, d = .interface m := by cases d <;> simp_all [tkOf]

section
variable {P : Program} [Gl P] {L : Tab} (hL : TOk P L)

theorem run_sizeOf' {t : Nat} {d : TypeDesc} {ti : TypeInfo} {i : TI} (h : Ty P i t d ti) (w : World) : (sizeOf t).run P w = .ok i.size w := by
  simp [sizeOf, typeInfo, h.info, h.size]
theorem run_isAgg' {t : Nat} {d : TypeDesc} {ti : TypeInfo} {i : TI} (h : Ty P i t d ti) (w : World) : (isAgg t).run P w = .ok i.isAgg w := by
  have hk := h.k
  unfold isAgg TI.isAgg
  rw [hk]
  simp only [Sem.run_bind, run_underlying h.und, Result.andThen_ok]
  cases d <;> rfl

/-! ### reading cells -/
theorem run_loadCells_rep {w : World} {St : Stab} {b o n : Nat} {es : List E} (hn : n = es.length) (h : RepR w St es b o) :
    ∃ vs : List Value, (loadCells ⟨b, o, none⟩ n).run P w = .ok vs.toArray w ∧ RepL w St es vs := by
  have _gl : Gl P := inferInstance
  subst hn
  refine ⟨(List.range es.length).map fun k => (w.cell? ⟨b, o + k, none⟩).getD undef, ?_, by simp, fun k e hk => ?_⟩
  · have := run_loadCells (P := P) w ⟨b, o, none⟩ es.length (fun k => (w.cell? ⟨b, o + k, none⟩).getD undef) (fun j hj => by
      obtain ⟨u, _, hu, _⟩ := h j es[j] (by simp [hj])
      have ha : (⟨b, o, none⟩ : Addr).add j = ⟨b, o + j, none⟩ := by unfold Addr.add; split <;> simp_all
      rw [ha, hu]; rfl)
    rw [this]
  · have hlt : k < es.length := by rcases Nat.lt_or_ge k es.length with h' | h'; exact h'; simp [List.getElem?_eq_none h'] at hk
    obtain ⟨u, _, hu, hr⟩ := h k e hk
    exact ⟨u, by simp [hlt, hu], hr⟩

theorem add_none (b o k : Nat) : (⟨b, o, none⟩ : Addr).add k = ⟨b, o + k, none⟩ := by unfold Addr.add; split <;> simp_all

theorem loadVar_ref {w : World} {St : Stab} {ρ : Nat → Nat} {t b o : Nat} {es : List E} {d : TypeDesc} {ti : TypeInfo} (ht : Ty P (L.ti t) t d ti) (h : RepR w St es b o) {K : D → Prop}
    (hk : if (L.ti t).isAgg then (L.ti t).size ≤ es.length ∧ K (.agg (es.take (L.ti t).size)) else match es[0]? with | some e => K (.c none e) | none => False) :
    ∃ r v, K r ∧ (loadVar t ⟨b, o, none⟩).run P w = .ok v w ∧ RepD w St ρ r v ∧ ∀ tk e, r ≠ .c (some tk) e := by
  unfold loadVar
  simp only [Sem.run_bind, run_isAgg' ht, Result.andThen_ok]
  by_cases ha : (L.ti t).isAgg
  · rw [if_pos ha] at hk
    obtain ⟨hsz, hk⟩ := hk
    simp only [ha, if_true, Sem.run_bind, run_sizeOf' ht, Result.andThen_ok]
    obtain ⟨vs, hv, hr⟩ := run_loadCells_rep (P := P) (w := w) (St := St) (b := b) (o := o) (n := (L.ti t).size) (es := es.take (L.ti t).size) (by simp [hsz]) (fun k e hk => by
      have : es[k]? = some e := by rw [List.getElem?_take] at hk; split at hk; exact hk; cases hk
      exact h k e this)
    exact ⟨_, _, hk, by simp [hv], ⟨vs, rfl, hr⟩, by simp⟩
  · rw [if_neg ha] at hk
    cases he : es[0]? with
    | none => rw [he] at hk; exact hk.elim
    | some e =>
      rw [he] at hk
      obtain ⟨u, _, hu, hr⟩ := h 0 e he
      refine ⟨_, u, hk, ?_, hr, by simp⟩
      simp only [Nat.add_zero] at hu
      simp [ha, hu]

theorem loadVar_box {w : World} {St : Stab} {ρ : Nat → Nat} {t b off : Nat} {cs : List Cell} {arr : Array Value} {el : TypeId} {fr : Nat × Nat} {d : TypeDesc} {ti : TypeInfo} (ht : Ty P (L.ti t) t d ti)
    (hb : w.heap[b]? = some (.cells arr el fr)) (hs : arr.size = cs.length) (h : ∀ (k : Nat) (c : Cell), cs[k]? = some c → ∃ u, arr[k]? = some u ∧ RepE w St c.2 u) {K : D → Prop}
    (hk : if (L.ti t).isAgg then off + (L.ti t).size ≤ cs.length ∧ K (.agg (((cs.drop off).take (L.ti t).size).map (·.2))) else match cs[off]? with | some c => K (.c c.1 c.2) | none => False) :
    ∃ r v, K r ∧ (loadVar t ⟨b, off, none⟩).run P w = .ok v w ∧ RepD w St ρ r v ∧ ∀ tk e, r = .c (some tk) e → cs[off]? = some (some tk, e) ∧ w.cell? ⟨b, off, none⟩ = some v := by
  have hcell : ∀ j, w.cell? ⟨b, j, none⟩ = arr[j]? := fun j => by simp [World.cell?, hb]
  unfold loadVar
  simp only [Sem.run_bind, run_isAgg' ht, Result.andThen_ok]
  by_cases ha : (L.ti t).isAgg
  · rw [if_pos ha] at hk
    obtain ⟨hsz, hk⟩ := hk
    simp only [ha, if_true, Sem.run_bind, run_sizeOf' ht, Result.andThen_ok]
    have hl := run_loadCells (P := P) w ⟨b, off, none⟩ (L.ti t).size (fun k => arr.getD (off + k) undef) (fun j hj => by
      rw [add_none, hcell, Array.getD, dif_pos (by omega : off + j < arr.size)]; simp [show off + j < arr.size by omega])
    refine ⟨_, .agg (((List.range (L.ti t).size).map fun k => arr.getD (off + k) undef).toArray), hk, by rw [hl]; rfl, ⟨_, rfl, by simp; omega, fun k e he => ?_⟩, by simp⟩
    rw [List.getElem?_map] at he
    cases hc : ((cs.drop off).take (L.ti t).size)[k]? with
    | none => simp [hc] at he
    | some c =>
      rw [hc] at he
      simp only [Option.map_some, Option.some.injEq] at he
      subst he
      rw [List.getElem?_take] at hc
      split at hc
      · rename_i hlt
        rw [List.getElem?_drop] at hc
        obtain ⟨u, hu, hr⟩ := h (off + k) c hc
        refine ⟨u, ?_, hr⟩
        simp [hlt, Array.getD, hu]
        have : off + k < arr.size := by rcases Nat.lt_or_ge (off + k) arr.size with h' | h'; exact h'; simp [Array.getElem?_eq_none h'] at hu
        simp [this] at hu ⊢
        exact hu
      · cases hc
  · rw [if_neg ha] at hk
    cases hc : cs[off]? with
    | none => rw [hc] at hk; exact hk.elim
    | some c =>
      rw [hc] at hk
      obtain ⟨u, hu, hr⟩ := h off c hc
      refine ⟨_, u, hk, by simp [ha, hcell, hu], hr, fun tk e he => ?_⟩
      obtain ⟨c1, c2⟩ := c
      simp only [D.c.injEq] at he
      obtain ⟨rfl, rfl⟩ := he
      exact ⟨rfl, by rw [hcell, hu]⟩
end
end Go.Am

/- Each operation that changes no state does what its abstract word says (second part: by the operation). -/
set_option linter.unusedVariables false
set_option linter.unusedSimpArgs false
namespace Go.Am
open Go.RowKit

theorem constE_rep (w : World) (St : Stab) {x : Value} (h : x.oneCell' = true) : RepE w St (constE x) x := by
  unfold constE
  split
  · exact .nils
  · exact .v _ h
theorem constL_rep (w : World) (St : Stab) {vs : List Value} (h : vs.all (·.oneCell') = true) : RepL w St (vs.map constE) vs := by
  refine ⟨by simp, fun k e hk => ?_⟩
  rw [List.getElem?_map] at hk
  cases hv : vs[k]? with
  | none => simp [hv] at hk
  | some u =>
    rw [hv] at hk
    simp only [Option.map_some, Option.some.injEq] at hk
    subst hk
    exact ⟨u, rfl, constE_rep w St (List.all_eq_true.1 h u (List.mem_of_getElem? hv))⟩
theorem constD_rep (w : World) (St : Stab) (ρ : Nat → Nat) (x : Value) : RepD w St ρ (constD x) x := by
  unfold constD
  split
  · rename_i cs
    split
    · rename_i h; exact ⟨cs.toList, by simp, constL_rep w St h⟩
    · exact trivial
  · exact trivial
  · rename_i h1 h2
    exact constE_rep w St (by cases x <;> simp_all [Value.oneCell'])

section
variable {P : Program} [Gl P] {L : Tab} (hL : TOk P L) {w0 : World} {M0 : Nat → Prop} {S0 : Stab} {S : AS} {w : World} {St : Stab} {ρ : Nat → Nat} {a : Act}

theorem ev_rep (h : RelAt P w0 M0 S0 S a.tmps w St ρ) (x : Operand) : RepD w St ρ (S.ev x) (a.eval x) := by
  cases x with
  | tmp t => exact h.tmp t
  | const v => exact constD_rep w St ρ v
  | global g => exact RepE.v _ rfl
  | func f => exact RepE.v _ rfl
theorem ev_held (x : Operand) {t k : Nat} {e : E} (hx : S.ev x = .c (some (t, k)) e) : Held S a.tmps w ρ t k e (a.eval x) := by
  cases x with
  | tmp i => exact .inl ⟨i, hx, rfl⟩
  | const v => simp only [AS.ev, constD] at hx; split at hx <;> first | (split at hx <;> cases hx) | cases hx
  | global g => cases hx
  | func f => cases hx

def Gives (P : Program) [Gl P] (S : AS) (tm : Array Value) (w : World) (St : Stab) (ρ : Nat → Nat) (r : Result Value) (K : D → Prop) : Prop :=
  ∃ d v, K d ∧ r = .ok v w ∧ RepD w St ρ d v ∧ ∀ t k e, d = .c (some (t, k)) e → Held S tm w ρ t k e v

theorem give_v {tm : Array Value} {r : Result Value} {K : D → Prop} (x : Value) (hx : x.oneCell' = true) (hk : K (.c none (.v x))) (hr : r = .ok x w) : Gives P S tm w St ρ r K :=
  ⟨_, x, hk, hr, .v x hx, fun _ _ _ h => by cases h⟩
theorem give_e {tm : Array Value} {r : Result Value} {K : D → Prop} {e : E} {x : Value} (hx : RepE w St e x) (hk : K (.c none e)) (hr : r = .ok x w) : Gives P S tm w St ρ r K :=
  ⟨_, x, hk, hr, hx, fun _ _ _ h => by cases h⟩

theorem rep_int {d : D} {x : Value} {n : Int} (h : RepD w St ρ d x) (hd : d.int? = some n) : ∃ k, x = .int k n := by
  unfold D.int? at hd
  split at hd
  · injection hd with hd; subst hd; cases h; exact ⟨_, rfl⟩
  · cases hd
theorem rep_v {d : D} {x y : Value} (h : RepD w St ρ d x) (hd : d.v? = some y) : x = y ∧ y.oneCell' = true := by
  unfold D.v? at hd
  split at hd
  · injection hd with hd; subst hd; cases h; exact ⟨rfl, ‹_›⟩
  · cases hd

include hL in
theorem load_gives (h : RelAt P w0 M0 S0 S a.tmps w St ρ) {t : Nat} {x : Operand} {K : D → Prop} (hk : loadK L S t (S.ev x) K) :
    Gives P S a.tmps w St ρ ((Instr.loadAt t (a.eval x)).run P w) K := by
  have hx := ev_rep h x
  obtain ⟨hkn, hk⟩ := hk
  obtain ⟨d, ti, ht⟩ := hL.ty (.inl hkn)
  cases hd : S.ev x with
  | ptr n off =>
    rw [hd] at hx hk
    simp only at hk
    cases hb : S.box n with
    | none => simp [hb] at hk
    | some cs =>
      simp only [hb] at hk
      obtain ⟨_, _, arr, el, h3, h4, h5⟩ := h.box n cs hb
      obtain ⟨r, v, h6, h7, h8, h9⟩ := loadVar_box (P := P) (L := L) (ρ := ρ) (off := off) ht h3 h4 h5 (K := K) hk
      refine ⟨r, v, h6, ?_, h8, fun t' k e he => ?_⟩
      · have : a.eval x = .pointer (some ⟨ρ n, off, none⟩) := hx
        rw [this]; simp only [Instr.loadAt, Instr.sureAddr, Sem.run_bind, Sem.run_pure, Result.andThen_ok]; exact h7
      · obtain ⟨h10, h11⟩ := h9 _ _ he
        exact .inr ⟨n, cs, off, hb, h10, h11⟩
  | ref es =>
    rw [hd] at hx hk
    obtain ⟨b, o, hx, hr⟩ := hx
    obtain ⟨r, v, h6, h7, h8, h9⟩ := loadVar_ref (P := P) (L := L) (ρ := ρ) ht hr (K := K) hk
    refine ⟨r, v, h6, ?_, h8, fun t' k e he => absurd he (h9 _ _)⟩
    rw [hx]; simp only [Instr.loadAt, Instr.sureAddr, Sem.run_bind, Sem.run_pure, Result.andThen_ok]; exact h7
  | bot => simp [hd] at hk
  | c => simp [hd] at hk
  | agg => simp [hd] at hk
  | tup => simp [hd] at hk

include hL in
theorem fieldAddr_gives (h : RelAt P w0 M0 S0 S a.tmps w St ρ) {t f : Nat} {x : Operand} {K : D → Prop} (hk : fieldAddrK L t (S.ev x) f K) :
    Gives P S a.tmps w St ρ ((Instr.fieldAt t (a.eval x) f).run P w) K := by
  have hx := ev_rep h x
  unfold fieldAddrK at hk
  split at hk
  · rename_i fs hfs
    obtain ⟨d, ti, ht⟩ := hL.ty (t := t) (.inl (known_of hfs (by simp)))
    obtain ⟨gs, rfl, hg⟩ := tk_struct (ht.k.symm.trans hfs)
    split at hk
    · rename_i ft off hf
      rw [hg, List.getElem?_map] at hf
      cases hgf : gs.toList[f]? with
      | none => rw [hgf] at hf; cases hf
      | some g =>
        rw [hgf] at hf
        simp only [Option.map_some, Option.some.injEq, Prod.mk.injEq] at hf
        obtain ⟨rfl, rfl⟩ := hf
        split at hk
        · exact hk.elim
        · rename_i hsz
          obtain ⟨d2, ti2, ht2⟩ := hL.ty (t := g.type) (.inr hsz)
          have hgf' : gs[f]? = some g := by rw [← Array.getElem?_toList]; exact hgf
          have hrun : ∀ b o, (Instr.fieldAt t (.pointer (some ⟨b, o, none⟩)) f).run P w = .ok (.pointer (some ⟨b, o + g.offset, none⟩)) w := fun b o => by
            simp only [Instr.fieldAt, Sem.run_bind, run_underlying ht.und, Result.andThen_ok, hgf', Instr.sureAddr, Sem.run_pure, fieldPlace, run_sizeOf' ht2, if_neg hsz, add_none]
          cases hd : S.ev x with
          | ptr n o =>
            rw [hd] at hx hk
            have hx : a.eval x = .pointer (some ⟨ρ n, o, none⟩) := hx
            exact ⟨_, .pointer (some ⟨ρ n, o + g.offset, none⟩), hk, by rw [hx]; exact hrun _ _, rfl, fun _ _ _ h => by cases h⟩
          | ref es =>
            rw [hd] at hx hk
            obtain ⟨b, o, hx, hr⟩ := hx
            refine ⟨_, .pointer (some ⟨b, o + g.offset, none⟩), hk, by rw [hx]; exact hrun _ _, ⟨b, o + g.offset, rfl, fun k e hke => ?_⟩, fun _ _ _ h => by cases h⟩
            rw [List.getElem?_drop] at hke
            have := hr _ e hke
            rwa [show o + g.offset + k = o + (g.offset + k) by omega]
          | bot => simp [hd] at hk
          | c => simp [hd] at hk
          | agg => simp [hd] at hk
          | tup => simp [hd] at hk
    · exact hk.elim
  · exact hk.elim

include hL in
theorem part_gives {tm : Array Value} {t off : Nat} {es : List E} {vs : List Value} (hr : RepL w St es vs) {K : D → Prop} (hk : partK L t es off K) :
    Gives P S tm w St ρ ((part t vs.toArray off).run P w) K := by
  obtain ⟨hkn, hk⟩ := hk
  obtain ⟨d, ti, ht⟩ := hL.ty (.inl hkn)
  unfold part
  simp only [Sem.run_bind, run_isAgg' ht, Result.andThen_ok]
  by_cases ha : (L.ti t).isAgg
  · rw [if_pos ha] at hk
    simp only [ha, if_true, Sem.run_bind, run_sizeOf' ht, Result.andThen_ok, Sem.run_pure]
    refine ⟨_, _, hk, rfl, ⟨(vs.drop off).take (L.ti t).size, ?_, ?_, fun k e hke => ?_⟩, fun _ _ _ h => by cases h⟩
    · rw [List.extract_toArray, List.extract_eq_take_drop]; congr 3; omega
    · simp [hr.1]
    · rw [List.getElem?_take] at hke
      split at hke
      · rename_i hlt
        rw [List.getElem?_drop] at hke
        obtain ⟨u, hu, hre⟩ := hr.2 _ e hke
        exact ⟨u, by rw [List.getElem?_take, if_pos hlt, List.getElem?_drop, hu], hre⟩
      · cases hke
  · rw [if_neg ha] at hk
    cases he : es[off]? with
    | none => rw [he] at hk; exact hk.elim
    | some e =>
      rw [he] at hk
      obtain ⟨u, hu, hre⟩ := hr.2 _ e he
      refine give_e hre hk ?_
      simp [ha, hu]

include hL in
theorem field_gives (h : RelAt P w0 M0 S0 S a.tmps w St ρ) {t f : Nat} {x : Operand} {K : D → Prop} (hk : fieldK L t (S.ev x) f K) :
    Gives P S a.tmps w St ρ ((Instr.field t (a.eval x) f).run P w) K := by
  have hx := ev_rep h x
  unfold fieldK at hk
  split at hk
  · rename_i fs hfs
    obtain ⟨d, ti, ht⟩ := hL.ty (t := t) (.inl (known_of hfs (by simp)))
    obtain ⟨gs, rfl, hg⟩ := tk_struct (ht.k.symm.trans hfs)
    split at hk
    · rename_i ft off es hf hd
      rw [hg, List.getElem?_map] at hf
      rw [hd] at hx
      cases hgf : gs.toList[f]? with
      | none => rw [hgf] at hf; cases hf
      | some g =>
        rw [hgf] at hf
        simp only [Option.map_some, Option.some.injEq, Prod.mk.injEq] at hf
        obtain ⟨rfl, rfl⟩ := hf
        obtain ⟨vs, hx, hr⟩ := hx
        have hgf' : gs[f]? = some g := by rw [← Array.getElem?_toList]; exact hgf
        have := part_gives (P := P) hL (S := S) (tm := a.tmps) (ρ := ρ) hr hk
        rw [hx]
        simp only [Instr.field, Sem.run_bind, run_underlying ht.und, Result.andThen_ok, hgf', asAgg, Sem.run_pure]
        exact this
    · exact hk.elim
  · exact hk.elim

theorem rep_rows {d : D} {x : Value} {rows : List (List E)} (h : RepD w St ρ d x) (hd : d.rows? = some rows) : ∃ A n c, x = .slice A n c ∧ rows.length = n ∧
    ∀ i row, rows[i]? = some row → ∃ b o, A = some ⟨b, o, none⟩ ∧ RepR w St row b (o + i * row.length) := by
  unfold D.rows? at hd
  split at hd
  · injection hd with hd; subst hd
    rename_i tk rows
    cases (show RepE w St (.sl rows) x from h) with
    | sl _ A n c sz b o vals hn hc hm hA hs hv hr =>
      refine ⟨A, n, c, rfl, hn, fun i row hi => ⟨b, o, hA ?_, fun k e hk => ?_⟩⟩
      · have : i < rows.length := by rcases Nat.lt_or_ge i rows.length with h' | h'; exact h'; simp [List.getElem?_eq_none h'] at hi
        omega
      · rw [hs i row hi]
        exact ⟨vals i k, (hv i k row e hi hk).1, (hv i k row e hi hk).2, hr i k row e hi hk⟩
  · injection hd with hd; subst hd
    cases h with
    | nils => exact ⟨none, 0, 0, rfl, rfl, fun i row hi => by simp at hi⟩
  · cases hd

include hL in
theorem indexAddr_gives (h : RelAt P w0 M0 S0 S a.tmps w St ρ) {t : Nat} {x i : Operand} {K : D → Prop} (hk : indexAddrK L t (S.ev x) (S.ev i) K) :
    Gives P S a.tmps w St ρ ((Instr.indexAt t (a.eval x) (a.eval i)).run P w) K := by
  have hx := ev_rep h x
  have hi := ev_rep h i
  unfold indexAddrK at hk
  split at hk
  · exact hk.elim
  · rename_i n hn
    obtain ⟨kk, hi⟩ := rep_int hi hn
    split at hk
    · rename_i e hsl
      obtain ⟨d, ti, ht⟩ := hL.ty (t := t) (.inl (known_of hsl (by simp)))
      obtain rfl := tk_slice (ht.k.symm.trans hsl)
      split at hk
      · rename_i rows hrows
        obtain ⟨A, m, c, hx, hm, hrow⟩ := rep_rows hx hrows
        obtain ⟨hkn, h0, hk⟩ := hk
        obtain ⟨d2, ti2, ht2⟩ := hL.ty (t := e) (.inl hkn)
        split at hk
        · rename_i row hr
          obtain ⟨hsz, hk⟩ := hk
          obtain ⟨b, o, rfl, hrep⟩ := hrow _ _ hr
          have hlt : n.toNat < rows.length := by rcases Nat.lt_or_ge n.toNat rows.length with h' | h'; exact h'; simp [List.getElem?_eq_none h'] at hr
          refine ⟨_, .pointer (some ⟨b, o + n.toNat * row.length, none⟩), hk, ?_, ⟨b, _, rfl, hrep⟩, fun _ _ _ h => by cases h⟩
          rw [hx, hi]
          simp only [Instr.indexAt, asIntOf, Sem.run_bind, Sem.run_pure, run_underlying ht.und, Result.andThen_ok]
          have hc : (0 ≤ n ∧ n < (m : Int)) := ⟨h0, by omega⟩
          simp only [Sem.run_ite, if_pos hc, Sem.run_bind, run_sizeOf' ht2, Result.andThen_ok, Sem.run_pure, add_none, hsz]
        · exact hk.elim
      · exact hk.elim
    · rename_i len e har
      obtain ⟨d, ti, ht⟩ := hL.ty (t := t) (.inl (known_of har (by simp)))
      obtain rfl := tk_array (ht.k.symm.trans har)
      obtain ⟨hkn, h0, hlt, hk⟩ := hk
      obtain ⟨d2, ti2, ht2⟩ := hL.ty (t := e) (.inl hkn)
      have hrun : ∀ b o, (Instr.indexAt t (.pointer (some ⟨b, o, none⟩)) (a.eval i)).run P w = .ok (.pointer (some ⟨b, o + n.toNat * (L.ti e).size, none⟩)) w := fun b o => by
        rw [hi]
        simp only [Instr.indexAt, asIntOf, Instr.sureAddr, Sem.run_bind, Sem.run_pure, run_underlying ht.und, Result.andThen_ok]
        have hc : (0 ≤ n ∧ n < (len : Int)) := ⟨h0, hlt⟩
        simp only [Sem.run_ite, if_pos hc, Sem.run_bind, run_sizeOf' ht2, Result.andThen_ok, Sem.run_pure, add_none]
      cases hd : S.ev x with
      | ptr m o =>
        rw [hd] at hx hk
        have hx : a.eval x = .pointer (some ⟨ρ m, o, none⟩) := hx
        exact ⟨_, _, hk, by rw [hx]; exact hrun _ _, rfl, fun _ _ _ h => by cases h⟩
      | ref es =>
        rw [hd] at hx hk
        obtain ⟨b, o, hx, hr⟩ := hx
        refine ⟨_, _, hk, by rw [hx]; exact hrun _ _, ⟨b, _, rfl, fun k e' hke => ?_⟩, fun _ _ _ h => by cases h⟩
        rw [List.getElem?_drop] at hke
        have := hr _ e' hke
        rwa [show o + n.toNat * (L.ti e).size + k = o + (n.toNat * (L.ti e).size + k) by omega]
      | bot => simp [hd] at hk
      | c => simp [hd] at hk
      | agg => simp [hd] at hk
      | tup => simp [hd] at hk
    · exact hk.elim

include hL in
theorem index_gives (h : RelAt P w0 M0 S0 S a.tmps w St ρ) {t : Nat} {x i : Operand} {K : D → Prop} (hk : indexK L t (S.ev x) (S.ev i) K) :
    Gives P S a.tmps w St ρ ((Instr.index t (a.eval x) (a.eval i)).run P w) K := by
  have hx := ev_rep h x
  have hi := ev_rep h i
  unfold indexK at hk
  split at hk
  · exact hk.elim
  · rename_i n hn
    obtain ⟨kk, hi⟩ := rep_int hi hn
    split at hk
    · rename_i tk s hst hd
      obtain ⟨d, ti, ht⟩ := hL.ty (t := t) (.inl (known_of hst (by simp)))
      obtain rfl := tk_string (ht.k.symm.trans hst)
      obtain ⟨h0, hk⟩ := hk
      rw [hd] at hx
      obtain ⟨hx, _⟩ := rep_v (d := .c tk (.v (.string s))) hx rfl
      split at hk
      · rename_i b hb
        refine give_v (.int .u8 b.toNat) rfl hk ?_
        rw [hx, hi]
        simp only [Instr.index, asIntOf, Sem.run_bind, Sem.run_pure, run_underlying ht.und, Result.andThen_ok, if_pos h0, hb]
      · exact hk.elim
    · rename_i len e es har hd
      obtain ⟨d, ti, ht⟩ := hL.ty (t := t) (.inl (known_of har (by simp)))
      obtain rfl := tk_array (ht.k.symm.trans har)
      obtain ⟨hkn, h0, hlt, hk⟩ := hk
      obtain ⟨d2, ti2, ht2⟩ := hL.ty (t := e) (.inl hkn)
      rw [hd] at hx
      obtain ⟨vs, hx, hr⟩ := hx
      have := part_gives (P := P) hL (S := S) (tm := a.tmps) (ρ := ρ) hr hk
      rw [hx, hi]
      simp only [Instr.index, asIntOf, Sem.run_bind, Sem.run_pure, run_underlying ht.und, Result.andThen_ok]
      have hc : (0 ≤ n ∧ n < (len : Int)) := ⟨h0, hlt⟩
      simp only [Sem.run_ite, if_pos hc, Sem.run_bind, run_sizeOf' ht2, Result.andThen_ok]
      exact this
    · exact hk.elim

end
end Go.Am

/- Each operation that changes no state does what its abstract word says (third part). -/
set_option linter.unusedVariables false
set_option linter.unusedSimpArgs false
namespace Go.Am
open Go.RowKit

section
variable {P : Program} [Gl P] {L : Tab} (hL : TOk P L) {w0 : World} {M0 : Nat → Prop} {S0 : Stab} {S : AS} {w : World} {St : Stab} {ρ : Nat → Nat} {a : Act}

theorem run_sliceBound_in (k : IntKind) (n : Int) (y : Nat) (code : BoundsCode) (h0 : 0 ≤ n) (h1 : n ≤ y) : (Instr.sliceBound (.int k n) y code).run P w = .ok n.toNat w := by
  have _gl : Gl P := inferInstance
  simp only [Instr.sliceBound, asIntOf, Sem.run_bind, Sem.run_pure, Result.andThen_ok, Sem.run_ite, if_pos (⟨h0, h1⟩ : 0 ≤ n ∧ n ≤ (y : Int))]

/-- The bounds of a slice expression without a maximum. -/
theorem run_bounds (h : RelAt P w0 M0 S0 S a.tmps w St ρ) (isS : Bool) (len cap : Nat) (lo hi : Option Operand) {l u : Int} (hl : bound 0 (lo.map S.ev) = some l) (hh : bound len (hi.map S.ev) = some u)
    (h0 : 0 ≤ l) (h1 : l ≤ u) (h2 : u ≤ len) (hc : len ≤ cap) :
    (Instr.sliceBounds isS len cap (lo.map a.eval) (hi.map a.eval) none).run P w = .ok (l.toNat, u.toNat, cap) w := by
  have hU : ∀ x code, hi = some x → (Instr.sliceBound (a.eval x) cap code).run P w = .ok u.toNat w := by
    rintro x code rfl
    simp only [Option.map_some, bound] at hh
    obtain ⟨k, hx⟩ := rep_int (ev_rep h x) hh
    rw [hx]
    exact run_sliceBound_in _ _ _ _ (by omega) (by omega)
  have hLo : ∀ x code, lo = some x → (Instr.sliceBound (a.eval x) u.toNat code).run P w = .ok l.toNat w := by
    rintro x code rfl
    simp only [Option.map_some, bound] at hl
    obtain ⟨k, hx⟩ := rep_int (ev_rep h x) hl
    rw [hx]
    exact run_sliceBound_in _ _ _ _ h0 (by omega)
  cases hi with
  | none =>
    have hu : u.toNat = len := by simp only [Option.map_none, bound, Option.some.injEq] at hh; omega
    cases lo with
    | none =>
      have hl' : l.toNat = 0 := by simp only [Option.map_none, bound, Option.some.injEq] at hl; omega
      simp only [Instr.sliceBounds, Option.map_none, Sem.run_bind, Sem.run_pure, Result.andThen_ok, hu, hl']
    | some y =>
      have hy := fun code => hLo y code rfl
      rw [hu] at hy
      simp only [Instr.sliceBounds, Option.map_none, Option.map_some, Sem.run_bind, Sem.run_pure, Result.andThen_ok, hy, hu]
  | some x =>
    have hx := fun code => hU x code rfl
    cases lo with
    | none =>
      have hl' : l.toNat = 0 := by simp only [Option.map_none, bound, Option.some.injEq] at hl; omega
      simp only [Instr.sliceBounds, Option.map_none, Option.map_some, Sem.run_bind, Sem.run_pure, Result.andThen_ok, hx, hl']
    | some y =>
      have hy := fun code => hLo y code rfl
      simp only [Instr.sliceBounds, Option.map_none, Option.map_some, Sem.run_bind, Sem.run_pure, Result.andThen_ok, hx, hy]

include hL in
theorem slice_gives (h : RelAt P w0 M0 S0 S a.tmps w St ρ) {t : Nat} {x : Operand} {lo hi mx : Option Operand} {K : D → Prop}
    (hk : sliceK L t (S.ev x) (lo.map S.ev) (hi.map S.ev) (mx.map S.ev) K) :
    Gives P S a.tmps w St ρ ((Instr.sliceAt t (a.eval x) (lo.map a.eval) (hi.map a.eval) (mx.map a.eval)).run P w) K := by
  have hx := ev_rep h x
  unfold sliceK at hk
  split at hk
  · exact hk.elim
  · rename_i hmx
    have hmx' : mx = none := by cases mx <;> simp_all
    subst hmx'
    split at hk
    · rename_i tk s hst hd
      obtain ⟨d, ti, ht⟩ := hL.ty (t := t) (.inl (known_of hst (by simp)))
      obtain rfl := tk_string (ht.k.symm.trans hst)
      rw [hd] at hx
      obtain ⟨hx, _⟩ := rep_v (d := .c tk (.v (.string s))) hx rfl
      split at hk
      · rename_i l u hl hu
        obtain ⟨h0, h1, h2, hk⟩ := hk
        refine give_v _ rfl hk ?_
        have hb := run_bounds (P := P) h false s.size s.size lo hi hl hu h0 h1 h2 (Nat.le_refl _)
        rw [hx]
        simp only [Instr.sliceAt, Instr.slice, Sem.run_bind, run_underlying ht.und, Result.andThen_ok, Option.map_none, Option.isSome_none, Bool.false_eq_true, if_false, Sem.run_pure, hb]
      · exact hk.elim
    · rename_i e tk rows hst hd
      obtain ⟨d, ti, ht⟩ := hL.ty (t := t) (.inl (known_of hst (by simp)))
      obtain rfl := tk_slice (ht.k.symm.trans hst)
      rw [hd] at hx
      split at hk
      · rename_i l u hl hu
        obtain ⟨h0, h1, h2, hrl, hkn, hk⟩ := hk
        obtain ⟨d2, ti2, ht2⟩ := hL.ty (t := e) (.inl hkn)
        obtain ⟨y, hax⟩ : ∃ y, a.eval x = y := ⟨_, rfl⟩
        rw [hax] at hx
        cases (show RepE w St (.sl rows) y from hx) with
        | sl _ A n c sz b o vals hn hc hm hA hs hv hr =>
          have hb := run_bounds (P := P) h true n c lo hi hl (hn ▸ hu) h0 h1 (hn ▸ h2) hc
          refine give_e (x := .slice (if c = l.toNat then A else A.map (·.add (l.toNat * (L.ti e).size))) (u.toNat - l.toNat) (c - l.toNat)) ?_ hk ?_
          · refine .sl _ _ _ _ sz b (o + l.toNat * sz) (fun i k => vals (l.toNat + i) k) (by simp; omega) (by omega) (by omega) (fun hlt => ?_) (fun i row hi => ?_) (fun i k row e' hi hk' => ?_) (fun i k row e' hi hk' => ?_)
            · rw [if_neg (by omega), hA (by omega)]
              have hz : (L.ti e).size = sz := by
                have hr0 : rows[0]? = some rows[0] := by simp
                rw [← hrl rows[0] (by simp), hs 0 _ hr0]
              simp only [Option.map_some, add_none, hz]
            · rw [List.getElem?_drop, List.getElem?_take] at hi
              split at hi
              · exact hs _ row hi
              · cases hi
            · rw [List.getElem?_drop, List.getElem?_take] at hi
              split at hi
              · have := hv _ k row e' hi hk'
                rwa [show o + (l.toNat + i) * sz + k = o + l.toNat * sz + i * sz + k by rw [Nat.add_mul]; omega] at this
              · cases hi
            · rw [List.getElem?_drop, List.getElem?_take] at hi
              split at hi
              · exact hr _ k row e' hi hk'
              · cases hi
          · rw [hax]
            simp only [Instr.sliceAt, Instr.slice, Sem.run_bind, run_underlying ht.und, Result.andThen_ok, Option.map_none, Sem.run_pure, hb, run_sizeOf' ht2]
      · exact hk.elim
    · rename_i e tk hst hd
      obtain ⟨d, ti, ht⟩ := hL.ty (t := t) (.inl (known_of hst (by simp)))
      obtain rfl := tk_slice (ht.k.symm.trans hst)
      rw [hd] at hx
      split at hk
      · rename_i l u hl hu
        obtain ⟨rfl, rfl, hkn, hk⟩ := hk
        obtain ⟨d2, ti2, ht2⟩ := hL.ty (t := e) (.inl hkn)
        have hb := run_bounds (P := P) h true 0 0 lo hi hl hu (Int.le_refl _) (Int.le_refl _) (by simp) (Nat.le_refl _)
        have hax : a.eval x = .slice none 0 0 := by
          generalize a.eval x = y at hx
          cases (show RepE w St .nils y from hx); rfl
        refine give_e .nils hk ?_
        rw [hax]
        simp only [Instr.sliceAt, Instr.slice, Sem.run_bind, run_underlying ht.und, Result.andThen_ok, Option.map_none, Sem.run_pure, hb, run_sizeOf' ht2]
        simp
      · exact hk.elim
    · exact hk.elim

theorem intE_run (op : BinOp) (t : TypeId) {k : IntKind} {a b : Int} {r : Value} (h : intE op k a b = some r) (x' y' : Operand) (w : World) :
    (do eqGuard op t x' y' (.int k a) (.int k b); binOp op t (.int k a) (.int k b)).run P w = .ok r w ∧ r.oneCell' = true := by
  have _gl : Gl P := inferInstance
  cases op
  case quo =>
    simp only [intE] at h
    split at h
    · exact absurd h (by simp)
    · rename_i hb; injection h with h; subst h; exact ⟨by simp [eqGuard, binOp, Op.intDiv, hb], rfl⟩
  case rem =>
    simp only [intE] at h
    split at h
    · exact absurd h (by simp)
    · rename_i hb; injection h with h; subst h; exact ⟨by simp [eqGuard, binOp, Op.intDiv, hb], rfl⟩
  all_goals
    simp only [intE, Option.some.injEq, reduceCtorEq] at h
  all_goals
    subst h
    exact ⟨by simp [eqGuard, binOp, Op.intArith, Op.intCmp], rfl⟩
theorem strE_run (op : BinOp) (t : TypeId) {a b : ByteArray} {r : Value} (h : strE op a b = some r) (ha : addOk op (.string a) (.string b)) (x' y' : Operand) (w : World) :
    (do eqGuard op t x' y' (.string a) (.string b); binOp op t (.string a) (.string b)).run P w = .ok r w ∧ r.oneCell' = true := by
  have _gl : Gl P := inferInstance
  cases op
  case add =>
    simp only [strE, Option.some.injEq] at h
    subst h
    simp only [addOk] at ha
    refine ⟨?_, rfl⟩
    have hn : ¬ (((a.size + b.size : Nat) : Int) > IntKind.i64.max) := Int.not_lt.2 ha
    simp only [eqGuard, binOp, Op.stringOp, Sem.run_bind, Sem.run_ite, if_neg hn]
    simp
  all_goals
    simp only [strE, Option.some.injEq, reduceCtorEq] at h
  all_goals
    subst h
    exact ⟨by simp [eqGuard, binOp, Op.stringOp], rfl⟩
theorem binE_run (op : BinOp) (t : TypeId) {x y r : Value} (h : binE op x y = some r) (hadd : addOk op x y) (x' y' : Operand) (w : World) :
    (do eqGuard op t x' y' x y; binOp op t x y).run P w = .ok r w ∧ r.oneCell' = true := by
  unfold binE at h
  split at h
  · split at h
    · rename_i hkk; subst hkk; exact intE_run op t h x' y' w
    · cases h
  · exact strE_run op t h hadd x' y' w
  · cases h

theorem run_equal_bool {t : TypeId} (ht : P.underlying t = some .bool) (b c : Bool) (w : World) : (Op.equal t (.bool b) (.bool c)).run P w = .ok (b == c) w := by
  have _gl : Gl P := inferInstance
  have : ∀ d, (Op.equalIn (d + 1) t (.bool b) (.bool c)).run P w = .ok (b == c) w := fun d => by simp only [Op.equalIn, Sem.run_bind, run_underlying ht, Result.andThen_ok, Sem.run_pure]
  exact this 9999
theorem run_equal_nil1 {t e : TypeId} (ht : P.underlying t = some (.slice e)) (p : Addr) (n c : Nat) (w : World) : (Op.equal t (.slice (some p) n c) (.slice none 0 0)).run P w = .ok false w := by
  have _gl : Gl P := inferInstance
  have : ∀ d, (Op.equalIn (d + 1) t (.slice (some p) n c) (.slice none 0 0)).run P w = .ok false w := fun d => by simp only [Op.equalIn, Sem.run_bind, run_underlying ht, Result.andThen_ok, Sem.run_pure]
  exact this 9999
theorem run_equal_nil2 {t e : TypeId} (ht : P.underlying t = some (.slice e)) (w : World) : (Op.equal t (.slice none 0 0) (.slice none 0 0)).run P w = .ok true w := by
  have _gl : Gl P := inferInstance
  have : ∀ d, (Op.equalIn (d + 1) t (.slice none 0 0) (.slice none 0 0)).run P w = .ok true w := fun d => by simp only [Op.equalIn, Sem.run_bind, run_underlying ht, Result.andThen_ok, Sem.run_pure, Option.isNone_none]
  exact this 9999
theorem run_equal_nil3 {t e : TypeId} (ht : P.underlying t = some (.slice e)) (n c : Nat) (w : World) : (Op.equal t (.slice none n c) (.slice none 0 0)).run P w = .ok true w := by
  have _gl : Gl P := inferInstance
  have : ∀ d, (Op.equalIn (d + 1) t (.slice none n c) (.slice none 0 0)).run P w = .ok true w := fun d => by simp only [Op.equalIn, Sem.run_bind, run_underlying ht, Result.andThen_ok, Sem.run_pure, Option.isNone_none]
  exact this 9999
/-- '==' and '!=' where the operands are neither numbers nor strings. -/
theorem run_eql {t : TypeId} {x y : Value} {r : Bool} (hr : (Op.equal t x y).run P w = .ok r w) (hx : (∃ b, x = .bool b) ∨ (∃ A n c, x = .slice A n c) ∨ ∃ cs, x = .agg cs ∧ P.eqGuardType P.depth t = false) (x' y' : Operand) :
    (do eqGuard .eql t x' y' x y; binOp .eql t x y).run P w = .ok (.bool r) w ∧ (do eqGuard .neq t x' y' x y; binOp .neq t x y).run P w = .ok (.bool (!r)) w := by
  have _gl : Gl P := inferInstance
  have h1 : ∀ op, (eqGuard op t x' y' x y).run P w = .ok () w := fun op => by
    rcases hx with ⟨b, rfl⟩ | ⟨A, n, c, rfl⟩ | ⟨cs, rfl, hg⟩
    · cases op <;> rfl
    · cases op <;> rfl
    · cases y <;> cases op <;> first | rfl | simp [eqGuard, hg]
  have h2 : binOp .eql t x y = (do pure (.bool (← Op.equal t x y))) ∧ binOp .neq t x y = (do pure (.bool (!(← Op.equal t x y)))) := by
    rcases hx with ⟨b, rfl⟩ | ⟨A, n, c, rfl⟩ | ⟨cs, rfl, _⟩ <;> exact ⟨rfl, rfl⟩
  rw [h2.1, h2.2]
  simp only [Sem.run_bind, h1, hr, Result.andThen_ok, Sem.run_pure, and_self]

def RepC (w : World) (St : Stab) : D → Value → Prop
  | .c _ e, v => RepE w St e v
  | .agg es, v => ∃ vs : List Value, v = .agg vs.toArray ∧ RepL w St es vs
  | _, _ => False
include hL in
theorem partD_run {t off : Nat} {es : List E} {vs : List Value} {d : D} (hr : RepL w St es vs) (h : partD L t es off = some d) : ∃ v, (part t vs.toArray off).run P w = .ok v w ∧ RepC w St d v := by
  have hk : partK L t es off fun x => x = d := by
    unfold partD at h
    unfold partK
    split at h
    · rename_i hkn
      refine ⟨hkn, ?_⟩
      split at h
      · rename_i ha; rw [if_pos ha]; simpa using h
      · rename_i ha
        rw [if_neg ha]
        split at h
        · simpa using h
        · cases h
    · cases h
  obtain ⟨d', v, rfl, hrun, hrep, _⟩ := part_gives (S := ⟨[], []⟩) (ρ := fun _ => 0) (tm := #[]) hL hr hk
  refine ⟨v, hrun, ?_⟩
  unfold partD at h
  split at h
  · split at h
    · simp only [Option.some.injEq] at h; subst h; exact hrep
    · split at h
      · simp only [Option.some.injEq] at h; subst h; exact hrep
      · cases h
  · cases h
include hL in
theorem eqD_run : ∀ (d t : Nat) (a b : D) (r : Bool) (x y : Value), eqD L d t a b = some r → RepC w St a x → RepC w St b y → ∀ n, d ≤ n → (Op.equalIn (n + 1) t x y).run P w = .ok r w := by
  intro d
  induction d with
  | zero => intro t a b r x y h; simp [eqD] at h
  | succ d ih =>
    intro t a b r x y h hx hy n hn
    match a, b, h, hx, hy with
    | .agg xs, .agg ys, h, hx, hy =>
      simp only [eqD] at h
      obtain ⟨vs, rfl, hvs⟩ := hx
      obtain ⟨us, rfl, hus⟩ := hy
      split at h
      case h_2 => cases h
      rename_i fs hfs
      split at h
      case isFalse => cases h
      rename_i hcmp
      obtain ⟨de, ti, ht⟩ := hL.ty (t := t) (.inl (known_of hfs (by simp)))
      obtain ⟨gs, rfl, hgs⟩ := tk_struct (ht.k.symm.trans hfs)
      have hc := ht.cmp
      rw [hcmp] at hc
      simp only [Bool.true_eq, Bool.and_eq_true, Bool.not_eq_true'] at hc
      obtain ⟨⟨hst, hnames⟩, _⟩ := hc
      have hf : P.fieldsOf t = gs := by simp [Program.fieldsOf, ht.und]
      rw [run_equalIn_struct (P := P) w n t _ _ (by rw [hf]; exact ht.und) hst, hf]
      have key : ∀ (l : List Field) (r : Bool), l.all (·.name != "_") = true → eqFs (eqD L d) L (l.map fun f => (f.type, f.offset)) xs ys = some r → (Op.eqFields n vs.toArray us.toArray l).run P w = .ok r w := by
        intro l
        induction l with
        | nil => intro r _ h; simp only [List.map_nil, eqFs, Option.some.injEq] at h; subst h; simp [Op.eqFields]
        | cons f l ihl =>
          intro r hn' h
          simp only [List.all_cons, Bool.and_eq_true, bne_iff_ne, ne_eq] at hn'
          simp only [List.map_cons, eqFs] at h
          split at h
          case h_2 => cases h
          rename_i p q hp hq
          split at h
          case h_2 => cases h
          rename_i r1 r2 h1 h2
          simp only [Option.some.injEq] at h
          obtain ⟨v1, hv1, hr1⟩ := partD_run hL hvs hp
          obtain ⟨v2, hv2, hr2⟩ := partD_run hL hus hq
          obtain ⟨n', rfl⟩ : ∃ n', n = n' + 1 := ⟨n - 1, by omega⟩
          have he := ih f.type p q r1 v1 v2 h1 hr1 hr2 n' (by omega)
          simp only [Op.eqFields, ne_eq, hn'.1, not_false_eq_true, if_true, Sem.run_bind, hv1, hv2, he, Result.andThen_ok]
          subst h
          cases r1
          · simp
          · simpa using ihl r2 hn'.2 h2
      exact key gs.toList r hnames (by rw [← hgs]; exact h)
    | .c t1 (.v x'), .c t2 (.v y'), h, hx, hy =>
      simp only [eqD] at h
      have hx' : x = x' := by cases (show RepE w St (.v x') x from hx); rfl
      have hy' : y = y' := by cases (show RepE w St (.v y') y from hy); rfl
      subst hx' hy'
      unfold eqCell at h
      split at h
      · have hk : (L.ti t).k = TK.bool := by assumption
        obtain ⟨de, ti, ht⟩ := hL.ty (t := t) (.inl (known_of hk (by simp)))
        obtain rfl := tk_bool (ht.k.symm.trans hk)
        simp only [Option.some.injEq] at h; subst h
        exact run_equalIn_bool' w n t _ _ ht.und
      · obtain ⟨kk, hk⟩ : ∃ kk, (L.ti t).k = TK.int kk := ⟨_, by assumption⟩
        obtain ⟨de, ti, ht⟩ := hL.ty (t := t) (.inl (known_of hk (by simp)))
        obtain rfl := tk_int (ht.k.symm.trans hk)
        split at h
        · rename_i hkk; subst hkk
          simp only [Option.some.injEq] at h; subst h
          exact run_equalIn_int w n t _ _ _ _ ht.und
        · cases h
      · have hk : (L.ti t).k = TK.string := by assumption
        obtain ⟨de, ti, ht⟩ := hL.ty (t := t) (.inl (known_of hk (by simp)))
        obtain rfl := tk_string (ht.k.symm.trans hk)
        simp only [Option.some.injEq] at h; subst h
        exact run_equalIn_string w n t _ _ ht.und
      · cases h

/-- (what the two '==' of structs need of the type) -/
theorem eqD_guard {d t : Nat} {xs ys : List E} {r : Bool} (hL : TOk P L) (h : eqD L (d + 1) t (.agg xs) (.agg ys) = some r) : P.eqGuardType P.depth t = false := by
  simp only [eqD] at h
  split at h
  case h_2 => cases h
  rename_i fs hfs
  split at h
  case isFalse => cases h
  rename_i hcmp
  obtain ⟨de, ti, ht⟩ := hL.ty (t := t) (.inl (known_of hfs (by simp)))
  have hc := ht.cmp
  rw [hcmp] at hc
  simp only [Bool.true_eq, Bool.and_eq_true, Bool.not_eq_true'] at hc
  exact hc.2

include hL in
theorem bin_gives (h : RelAt P w0 M0 S0 S a.tmps w St ρ) {op : BinOp} {t : Nat} {x y : Operand} {K : D → Prop} (hk : binK L op t (S.ev x) (S.ev y) K) :
    Gives P S a.tmps w St ρ ((do eqGuard op t x y (a.eval x) (a.eval y); binOp op t (a.eval x) (a.eval y)).run P w) K := by
  have hx := ev_rep h x
  have hy := ev_rep h y
  unfold binK at hk
  split at hk
  · rename_i tk v tk' v' hdx hdy
    rw [hdx] at hx; rw [hdy] at hy
    obtain ⟨hx, ox⟩ := rep_v (d := .c tk (.v v)) hx rfl
    obtain ⟨hy, oy⟩ := rep_v (d := .c tk' (.v v')) hy rfl
    rw [hx, hy]
    split at hk
    · rename_i r hr
      obtain ⟨hadd, hk⟩ := hk
      have hrun := binE_run (P := P) op t hr hadd x y w
      exact give_v r hrun.2 hk hrun.1
    · split at hk
      · have hb : (L.ti t).k = .bool := by assumption
        obtain ⟨d, ti, ht⟩ := hL.ty (t := t) (.inl (known_of hb (by simp)))
        obtain rfl := tk_bool (ht.k.symm.trans hb)
        refine give_v _ rfl hk ?_
        exact (run_eql (run_equal_bool ht.und _ _ w) (.inl ⟨_, rfl⟩) x y).1
      · have hb : (L.ti t).k = .bool := by assumption
        obtain ⟨d, ti, ht⟩ := hL.ty (t := t) (.inl (known_of hb (by simp)))
        obtain rfl := tk_bool (ht.k.symm.trans hb)
        refine give_v _ rfl hk ?_
        exact (run_eql (run_equal_bool ht.und _ _ w) (.inl ⟨_, rfl⟩) x y).2
      · exact hk.elim
  · rename_i tk rows tk' hdx hdy
    rw [hdx] at hx; rw [hdy] at hy
    have hay : a.eval y = .slice none 0 0 := by
      generalize a.eval y = z at hy
      cases (show RepE w St .nils z from hy); rfl
    have hax : (∃ p n c, a.eval x = .slice (some p) n c) ∨ (rows = [] ∧ ∃ n c, a.eval x = .slice none n c) := by
      generalize a.eval x = z at hx
      cases (show RepE w St (.sl rows) z from hx) with
      | sl _ A n c sz b o vals hn hc hm hA hs hv hr =>
        cases A with
        | some p => exact .inl ⟨p, n, c, rfl⟩
        | none =>
          refine .inr ⟨?_, n, c, rfl⟩
          cases rows with
          | nil => rfl
          | cons r rs => have := hA (by rw [← hn]; simp); cases this
    split at hk
    · rename_i e hb
      obtain ⟨d, ti, ht⟩ := hL.ty (t := t) (.inl (known_of hb (by simp)))
      obtain rfl := tk_slice (ht.k.symm.trans hb)
      rcases hax with ⟨p, n, c, hax⟩ | ⟨he, n, c, hax⟩
      · refine give_v _ rfl hk.2 ?_
        rw [hax, hay]; exact (run_eql (run_equal_nil1 ht.und _ _ _ w) (.inr (.inl ⟨_, _, _, rfl⟩)) x y).1
      · refine give_v _ rfl (hk.1 he) ?_
        rw [hax, hay]; exact (run_eql (run_equal_nil3 ht.und _ _ w) (.inr (.inl ⟨_, _, _, rfl⟩)) x y).1
    · rename_i e hb
      obtain ⟨d, ti, ht⟩ := hL.ty (t := t) (.inl (known_of hb (by simp)))
      obtain rfl := tk_slice (ht.k.symm.trans hb)
      rcases hax with ⟨p, n, c, hax⟩ | ⟨he, n, c, hax⟩
      · refine give_v _ rfl hk.2 ?_
        rw [hax, hay]; exact (run_eql (run_equal_nil1 ht.und _ _ _ w) (.inr (.inl ⟨_, _, _, rfl⟩)) x y).2
      · refine give_v _ rfl (hk.1 he) ?_
        rw [hax, hay]; exact (run_eql (run_equal_nil3 ht.und _ _ w) (.inr (.inl ⟨_, _, _, rfl⟩)) x y).2
    · exact hk.elim
  · rename_i tk tk' hdx hdy
    rw [hdx] at hx; rw [hdy] at hy
    have hay : a.eval y = .slice none 0 0 := by
      generalize a.eval y = z at hy
      cases (show RepE w St .nils z from hy); rfl
    have hax : a.eval x = .slice none 0 0 := by
      generalize a.eval x = z at hx
      cases (show RepE w St .nils z from hx); rfl
    split at hk
    · rename_i e hb
      obtain ⟨d, ti, ht⟩ := hL.ty (t := t) (.inl (known_of hb (by simp)))
      obtain rfl := tk_slice (ht.k.symm.trans hb)
      refine give_v _ rfl hk ?_
      rw [hax, hay]; exact (run_eql (run_equal_nil2 ht.und w) (.inr (.inl ⟨_, _, _, rfl⟩)) x y).1
    · rename_i e hb
      obtain ⟨d, ti, ht⟩ := hL.ty (t := t) (.inl (known_of hb (by simp)))
      obtain rfl := tk_slice (ht.k.symm.trans hb)
      refine give_v _ rfl hk ?_
      rw [hax, hay]; exact (run_eql (run_equal_nil2 ht.und w) (.inr (.inl ⟨_, _, _, rfl⟩)) x y).2
    · exact hk.elim
  · rename_i xs ys hdx hdy
    rw [hdx] at hx; rw [hdy] at hy
    obtain ⟨vs, hvx, hrx⟩ := hx
    obtain ⟨us, hvy, hry⟩ := hy
    split at hk
    · rename_i b hb
      refine give_v _ rfl hk ?_
      rw [hvx, hvy]
      exact (run_eql (eqD_run hL 8 t (.agg xs) (.agg ys) b _ _ hb ⟨vs, rfl, hrx⟩ ⟨us, rfl, hry⟩ 9999 (by decide)) (.inr (.inr ⟨_, rfl, eqD_guard hL hb⟩)) x y).1
    · rename_i b hb
      refine give_v _ rfl hk ?_
      rw [hvx, hvy]
      exact (run_eql (eqD_run hL 8 t (.agg xs) (.agg ys) b _ _ hb ⟨vs, rfl, hrx⟩ ⟨us, rfl, hry⟩ 9999 (by decide)) (.inr (.inr ⟨_, rfl, eqD_guard hL hb⟩)) x y).2
    · exact hk.elim
  · exact hk.elim

theorem un_gives (h : RelAt P w0 M0 S0 S a.tmps w St ρ) {op : UnOp} {x : Operand} {K : D → Prop} (hk : unK op (S.ev x) K) :
    Gives P S a.tmps w St ρ ((Op.unary op (a.eval x)).run P w) K := by
  have hx := ev_rep h x
  unfold unK at hk
  split at hk
  · rename_i tk k n hd
    rw [hd] at hx
    obtain ⟨hx, _⟩ := rep_v (d := .c tk (.v (.int k n))) hx rfl
    exact give_v _ rfl hk (by rw [hx]; simp [Op.unary, Op.intArith])
  · rename_i tk b hd
    rw [hd] at hx
    obtain ⟨hx, _⟩ := rep_v (d := .c tk (.v (.bool b))) hx rfl
    exact give_v _ rfl hk (by rw [hx]; simp [Op.unary])
  · exact hk.elim

theorem run_convert_bytes (w : World) (src dst e : TypeId) (A : Option Addr) (l c : Nat)
    (hs : P.underlying src = some (.slice e)) (he : P.underlying e = some (.int .u8)) (hd : P.underlying dst = some .string) :
    (convert src dst (.slice A l c)).run P w = (Conv.bytesToString (.slice A l c)).run P w := by
  have _gl : Gl P := inferInstance
  simp [convert, run_underlying hs, run_underlying hd, run_underlying he]
include hL in
theorem convert_gives (h : RelAt P w0 M0 S0 S a.tmps w St ρ) {s t : Nat} {x : Operand} {K : D → Prop} (hk : convertK L s t (S.ev x) K) :
    Gives P S a.tmps w St ρ ((convert s t (a.eval x)).run P w) K := by
  have hx := ev_rep h x
  unfold convertK at hk
  split at hk
  · rename_i k tk k' n hk1 hd
    obtain ⟨hs, hk⟩ := hk
    split at hs
    · rename_i ks hks
      obtain ⟨d, ti, ht⟩ := hL.ty (t := t) (.inl (known_of hk1 (by simp)))
      obtain rfl := tk_int (ht.k.symm.trans hk1)
      obtain ⟨d2, ti2, ht2⟩ := hL.ty (t := s) (.inl (known_of hks (by simp)))
      obtain rfl := tk_int (ht2.k.symm.trans hks)
      rw [hd] at hx
      obtain ⟨hx, _⟩ := rep_v (d := .c tk (.v (.int k' n))) hx rfl
      exact give_v _ rfl hk (by rw [hx]; simp [convert, run_underlying ht.und, run_underlying ht2.und, Conv.intToInt])
    · exact hs.elim
  · rename_i tk s' hk1 hd
    obtain ⟨hs, hk⟩ := hk
    split at hs
    · rename_i hks
      obtain ⟨d, ti, ht⟩ := hL.ty (t := t) (.inl (known_of hk1 (by simp)))
      obtain rfl := tk_string (ht.k.symm.trans hk1)
      obtain ⟨d2, ti2, ht2⟩ := hL.ty (t := s) (.inl (known_of hks (by simp)))
      obtain rfl := tk_string (ht2.k.symm.trans hks)
      rw [hd] at hx
      obtain ⟨hx, _⟩ := rep_v (d := .c tk (.v (.string s'))) hx rfl
      exact give_v _ rfl hk (by rw [hx]; simp [convert, run_underlying ht.und, run_underlying ht2.und])
    · exact hs.elim
  · rename_i tk rows hk1 hd
    obtain ⟨hs, l, hl, hk⟩ := hk
    split at hs
    · rename_i e hks
      obtain ⟨d, ti, ht⟩ := hL.ty (t := t) (.inl (known_of hk1 (by simp)))
      obtain rfl := tk_string (ht.k.symm.trans hk1)
      obtain ⟨d2, ti2, ht2⟩ := hL.ty (t := s) (.inl (known_of hks (by simp)))
      obtain rfl := tk_slice (ht2.k.symm.trans hks)
      obtain ⟨d3, ti3, ht3⟩ := hL.ty (t := e) (.inl (known_of hs (by simp)))
      obtain rfl := tk_int (ht3.k.symm.trans hs)
      rw [hd] at hx
      have hx : RepE w St (.sl rows) (a.eval x) := hx
      refine give_v _ rfl hk ?_
      generalize a.eval x = xv at hx
      cases hx with
      | sl _ A n c sz b o vals hn hc hm hA hrs hv hr =>
        rw [run_convert_bytes w s t e A n c ht2.und ht3.und ht.und]
        have hln : l.length = n := by rw [← hn, hl]; simp
        have hcell : ∀ j, j < n → w.cell? ⟨b, o + j, none⟩ = some ((l.map (Value.int .u8))[j]?.getD undef) := fun j hj => by
          obtain ⟨y, hlj⟩ : ∃ y, l[j]? = some y := ⟨_, List.getElem?_eq_getElem (by omega)⟩
          have hrow : rows[j]? = some (byteRow y) := by rw [hl, List.getElem?_map, hlj]; rfl
          have hsz : sz = 1 := (hrs j _ hrow).symm
          have h1 := (hv j 0 _ _ hrow rfl).2
          have h2 : RepE w St (.v (.int .u8 y)) (vals j 0) := hr j 0 _ _ hrow rfl
          have h3 := (rep_v (w := w) (St := St) (ρ := ρ) (d := .c none (.v (.int .u8 y))) h2 rfl).1
          rw [hsz] at h1
          simp only [Nat.mul_one, Nat.add_zero] at h1
          rw [h1, List.getElem?_map, hlj, h3]; rfl
        have hload : ∀ A', (0 < n → A' = ⟨b, o, none⟩) → (loadCells A' n).run P w = .ok (l.map (Value.int .u8)).toArray w := fun A' hA' => by
          rcases Nat.eq_zero_or_pos n with h0 | h0
          · subst h0
            have : l = [] := List.eq_nil_of_length_eq_zero hln
            subst this
            simp [loadCells, loadCellsFrom]
          · rw [hA' h0]
            have := run_loadCells (P := P) w ⟨b, o, none⟩ n (fun j => (l.map (Value.int .u8))[j]?.getD undef) (fun j hj => by rw [add_none]; exact hcell j hj)
            rw [this]
            congr 1
            apply Array.toList_inj.1
            apply List.ext_getElem?
            intro j
            simp only [Array.toList_map, Array.toList_range, List.getElem?_map]
            by_cases hj : j < n
            · rw [List.getElem?_range hj]
              obtain ⟨y, hlj⟩ : ∃ y, l[j]? = some y := ⟨_, List.getElem?_eq_getElem (by omega)⟩
              simp [hlj]
            · rw [List.getElem?_eq_none (by simpa using hj), List.getElem?_eq_none (by simpa [hln] using hj)]; rfl
        cases A with
        | none =>
          have h0 : n = 0 := by
            rcases Nat.eq_zero_or_pos n with h0 | h0
            · exact h0
            · cases hA h0
          subst h0
          have : l = [] := List.eq_nil_of_length_eq_zero hln
          subst this
          rfl
        | some A' =>
          exact run_bytesToString w A' n c l (hload A' fun h0 => by have := hA h0; injection this)
    · exact hs.elim
  · exact hk.elim

theorem lenK_run (h : RelAt P w0 M0 S0 S a.tmps w St ρ) (hL : TOk P L) {t ty : Nat} {x : Operand} {K : D → Prop} (hk : lenK L t (S.ev x) K) :
    Gives P S a.tmps w St ρ ((Builtin.len_ #[t] ty #[a.eval x]).run P w) K := by
  have hx := ev_rep h x
  unfold lenK at hk
  split at hk
  · rename_i tk s hst hd
    obtain ⟨d, ti, ht⟩ := hL.ty (t := t) (.inl (known_of hst (by simp)))
    obtain rfl := tk_string (ht.k.symm.trans hst)
    rw [hd] at hx
    obtain ⟨hx, _⟩ := rep_v (d := .c tk (.v (.string s))) hx rfl
    exact give_v _ rfl hk (by rw [hx]; simp [Builtin.len_, run_underlying ht.und, goInt])
  · rename_i e tk rows hst hd
    obtain ⟨d, ti, ht⟩ := hL.ty (t := t) (.inl (known_of hst (by simp)))
    obtain rfl := tk_slice (ht.k.symm.trans hst)
    rw [hd] at hx
    generalize a.eval x = z at hx
    cases (show RepE w St (.sl rows) z from hx) with
    | sl _ A n c sz b o vals hn hc hm hA hs hv hr =>
      exact give_v (.int .i64 rows.length) rfl (hk (by omega)) (by rw [hn]; simp [Builtin.len_, run_underlying ht.und, goInt])
  · rename_i e tk hst hd
    obtain ⟨d, ti, ht⟩ := hL.ty (t := t) (.inl (known_of hst (by simp)))
    obtain rfl := tk_slice (ht.k.symm.trans hst)
    rw [hd] at hx
    generalize a.eval x = z at hx
    cases (show RepE w St .nils z from hx)
    exact give_v _ rfl hk (by simp [Builtin.len_, run_underlying ht.und, goInt])
  · exact hk.elim

theorem extr_run (h : RelAt P w0 M0 S0 S a.tmps w St ρ) {mx : Bool} {ts : Array TypeId} {ty : Nat} {x y : Operand} {K : D → Prop} (hk : extrK mx (S.ev x) (S.ev y) K) :
    Gives P S a.tmps w St ρ ((if mx then Builtin.max_ ts ty #[a.eval x, a.eval y] else Builtin.min_ ts ty #[a.eval x, a.eval y]).run P w) K := by
  have hx := ev_rep h x
  have hy := ev_rep h y
  unfold extrK at hk
  split at hk
  · rename_i tk k n tk' k' n' hdx hdy
    rw [hdx] at hx; rw [hdy] at hy
    obtain ⟨hx, _⟩ := rep_v (d := .c tk (.v (.int k n))) hx rfl
    obtain ⟨hy, _⟩ := rep_v (d := .c tk' (.v (.int k' n'))) hy rfl
    refine give_v _ rfl hk ?_
    rw [hx, hy]
    cases mx
    · simp [Builtin.min_, Builtin.min2]
    · simp [Builtin.max_, Builtin.max2]
  · exact hk.elim

theorem vals_run (h : RelAt P w0 M0 S0 S a.tmps w St ρ) : ∀ (xs : List Operand) (vs : List Value), vals? S xs = some vs → xs.map a.eval = vs
  | [], vs, hv => by simp only [vals?, Option.some.injEq] at hv; subst hv; rfl
  | x :: xs, vs, hv => by
    simp only [vals?] at hv
    split at hv
    · rename_i v vs' h1 h2
      injection hv with hv; subst hv
      simp only [List.map_cons, vals_run h xs vs' h2, (rep_v (ev_rep h x) h1).1]
    · cases hv

include hL in
theorem binC_gives (h : RelAt P w0 M0 S0 S a.tmps w St ρ) {op : BinOp} {t : Nat} {x y : Operand} {K : D → Prop} (hk : binKC L S op t x y K) :
    Gives P S a.tmps w St ρ ((do eqGuard op t x y (a.eval x) (a.eval y); binOp op t (a.eval x) (a.eval y)).run P w) K := by
  unfold binKC at hk
  split at hk
  case h_2 => exact bin_gives hL h hk
  rename_i hy
  have hyc : y = .const .nilIface := by
    unfold isNilC at hy
    split at hy
    · rfl
    · cases hy
  subst hyc
  have hay : a.eval (.const .nilIface) = .nilIface := rfl
  have hx := ev_rep h x
  have key : ∀ {tk : Option (Nat × Nat)} {b : Bool}, S.ev x = .c tk (.ifc b) → (L.ti t).k = .iface →
      (do eqGuard .eql t x (.const .nilIface) (a.eval x) .nilIface; binOp .eql t (a.eval x) .nilIface).run P w = .ok (.bool (!b)) w ∧ (do eqGuard .neq t x (.const .nilIface) (a.eval x) .nilIface; binOp .neq t (a.eval x) .nilIface).run P w = .ok (.bool b) w := by
    intro tk b hd hk
    obtain ⟨de, ti, ht⟩ := hL.ty (t := t) (.inl (known_of hk (by simp)))
    obtain ⟨ms, rfl⟩ := tk_iface (ht.k.symm.trans hk)
    rw [hd] at hx
    have hu := ht.und
    generalize a.eval x = z at hx
    cases (show RepE w St (.ifc b) z from hx) with
    | ifc _ _ hb =>
      have h9 : ∀ d v, (v = .nilIface ∨ ∃ t u, v = .iface t u) → (Op.equalIn (d + 1) t v .nilIface).run P w = .ok (match v with | .nilIface => true | _ => false) w := fun d v hv => by
        rcases hv with rfl | ⟨t', u, rfl⟩ <;> simp only [Op.equalIn, Sem.run_bind, run_underlying hu, Result.andThen_ok, Sem.run_pure]
      have hz : z = .nilIface ∨ ∃ t u, z = .iface t u := by rcases hb with ⟨_, rfl⟩ | ⟨_, hz⟩; exact .inl rfl; exact .inr hz
      have h1 := h9 9999 z hz
      have g1 : ∀ op, (eqGuard op t x (.const .nilIface) z .nilIface).run P w = .ok () w := fun op => by
        rcases hz with rfl | ⟨t', u, rfl⟩ <;> cases op <;> (try rfl) <;> (simp [eqGuard])
      have h2 : binOp .eql t z .nilIface = (do pure (.bool (← Op.equal t z .nilIface))) ∧ binOp .neq t z .nilIface = (do pure (.bool (!(← Op.equal t z .nilIface)))) := by
        rcases hz with rfl | ⟨t', u, rfl⟩ <;> exact ⟨rfl, rfl⟩
      have h3 : (Op.equal t z .nilIface).run P w = .ok (!b) w := by
        refine h1.trans ?_
        rcases hb with ⟨rfl, rfl⟩ | ⟨rfl, t', u, rfl⟩ <;> rfl
      rw [h2.1, h2.2]
      simp only [Sem.run_bind, g1, h3, Result.andThen_ok, Sem.run_pure, Bool.not_not, and_self]
  rw [hay]
  split at hk
  · rename_i hd hkk; exact give_v _ rfl hk (key hd hkk).1
  · rename_i hd hkk; exact give_v _ rfl hk (key hd hkk).2
  · exact hk.elim

end
end Go.Am

/- Each operation that changes no state does what its abstract word says (fourth part: build; the join). -/
set_option linter.unusedVariables false
set_option linter.unusedSimpArgs false
namespace Go.Am
open Go.RowKit

theorem foldl_set (off : Nat) : ∀ (l : List Value) (k : Nat) (cs : Array Value) (i : Nat),
    ((l.zipIdx k).foldl (fun cs (p : Value × Nat) => cs.setIfInBounds (off + p.2) p.1) cs)[i]? = if off + k ≤ i ∧ i < off + k + l.length ∧ i < cs.size then l[i - (off + k)]? else cs[i]?
  | [], k, cs, i => by simp; intro h1 h2 h3; omega
  | x :: l, k, cs, i => by
    simp only [List.zipIdx_cons, List.foldl_cons]
    rw [foldl_set off l (k + 1) _ i]
    simp only [Array.size_setIfInBounds, List.length_cons]
    by_cases h1 : off + (k + 1) ≤ i ∧ i < off + (k + 1) + l.length ∧ i < cs.size
    · rw [if_pos h1, if_pos ⟨by omega, by omega, h1.2.2⟩]
      rw [show i - (off + k) = (i - (off + (k + 1))) + 1 by omega, List.getElem?_cons_succ]
    · rw [if_neg h1]
      by_cases h2 : off + k ≤ i ∧ i < off + k + (l.length + 1) ∧ i < cs.size
      · rw [if_pos h2]
        have hi : i = off + k := by omega
        subst hi
        simp [h2.2.2]
      · rw [if_neg h2, Array.getElem?_setIfInBounds]
        by_cases h3 : off + k = i
        · subst h3
          rw [if_pos rfl]
          have : ¬ off + k < cs.size := fun h => h2 ⟨by omega, by omega, h⟩
          simp [this]
        · rw [if_neg h3]

section
variable {P : Program} [Gl P] {L : Tab} (hL : TOk P L) {w0 : World} {M0 : Nat → Prop} {S0 : Stab} {S : AS} {w : World} {St : Stab} {ρ : Nat → Nat} {a : Act}

theorem rep_es {d : D} {x : Value} {es : List E} (h : RepD w St ρ d x) (hd : d.es = some es) : RepL w St es x.cells.toList := by
  cases d with
  | c tk e =>
    simp only [D.es, Option.some.injEq] at hd
    subst hd
    have h : RepE w St e x := h
    have hc : x.cells = #[x] := by have := h.oneCell; cases x <;> first | rfl | (simp [Value.oneCell'] at this)
    rw [hc]
    refine ⟨rfl, fun k e' hk => ?_⟩
    cases k with
    | zero => simp only [List.getElem?_cons_zero, Option.some.injEq] at hk; subst hk; exact ⟨x, rfl, h⟩
    | succ k => simp at hk
  | agg es' =>
    simp only [D.es, Option.some.injEq] at hd
    subst hd
    obtain ⟨vs, rfl, h⟩ := h
    exact h
  | _ => simp [D.es] at hd

theorem fillE_rep {cells new : List E} {cs : Array Value} {v : Value} {off : Nat} (hc : RepL w St cells cs.toList) (hn : RepL w St new v.cells.toList) (hb : off + new.length ≤ cells.length) :
    RepL w St (fillE cells off new) ((v.cells.zipIdx.foldl (fun cs (c, j) => cs.setIfInBounds (off + j) c) cs)).toList := by
  have hfold : (v.cells.zipIdx.foldl (fun cs (c, j) => cs.setIfInBounds (off + j) c) cs) = ((v.cells.toList.zipIdx 0).foldl (fun cs (p : Value × Nat) => cs.setIfInBounds (off + p.2) p.1) cs) := by
    rw [← Array.foldl_toList, Array.toList_zipIdx]
  have hg := foldl_set off v.cells.toList 0 cs
  have hcl : cells.length = cs.size := by simpa using hc.1
  have hnl : new.length = v.cells.size := by simpa using hn.1
  have hfl : (fillE cells off new).length = cells.length := by simp [fillE]; omega
  rw [hfold]
  refine ⟨?_, fun k e hk => ?_⟩
  · have hsz : ∀ (l : List (Value × Nat)) (cs : Array Value), (l.foldl (fun cs (p : Value × Nat) => cs.setIfInBounds (off + p.2) p.1) cs).size = cs.size := by
      intro l
      induction l with
      | nil => intro cs; rfl
      | cons p l ih => intro cs; simp [List.foldl_cons, ih]
    rw [hfl, hcl, Array.length_toList, hsz]
  · rw [Array.getElem?_toList, hg k]
    have hk' : k < cells.length := by
      rcases Nat.lt_or_ge k (fillE cells off new).length with h' | h'
      · omega
      · simp [List.getElem?_eq_none h'] at hk
    unfold fillE at hk
    by_cases h1 : k < off
    · rw [if_neg (by omega)]
      rw [List.append_assoc, List.getElem?_append_left (by simp; omega), List.getElem?_take, if_pos h1] at hk
      obtain ⟨u, hu, hr⟩ := hc.2 k e hk
      exact ⟨u, by rw [← Array.getElem?_toList]; exact hu, hr⟩
    · by_cases h2 : k < off + new.length
      · rw [if_pos ⟨by omega, by simp; omega, by omega⟩]
        rw [List.append_assoc, List.getElem?_append_right (by simp; omega), List.getElem?_append_left (by simp; omega)] at hk
        obtain ⟨u, hu, hr⟩ := hn.2 _ e hk
        refine ⟨u, ?_, hr⟩
        rw [← hu]
        congr 1
        simp; omega
      · rw [if_neg (by simp; omega)]
        rw [List.getElem?_append_right (by simp; omega), List.getElem?_drop] at hk
        obtain ⟨u, hu, hr⟩ := hc.2 _ e hk
        refine ⟨u, ?_, hr⟩
        rw [← Array.getElem?_toList, ← hu]
        congr 1
        simp; omega

theorem fill_gives (h : RelAt P w0 M0 S0 S a.tmps w St ρ) (place : Nat → Option (Nat × Nat)) : ∀ (parts : List (Nat × Operand)) (cells : List E) (cs : Array Value) (K : List E → Prop),
    RepL w St cells cs.toList → buildK S place parts cells K → ∃ cells' cs', K cells' ∧ Instr.fill place cs (parts.map fun p => (p.1, a.eval p.2)) = some cs' ∧ RepL w St cells' cs'.toList
  | [], cells, cs, K, hr, hk => ⟨cells, cs, hk, rfl, hr⟩
  | (i, x) :: rest, cells, cs, K, hr, hk => by
    simp only [buildK] at hk
    split at hk
    · rename_i off size es hp hes
      obtain ⟨h1, h2, hk⟩ := hk
      have hx := rep_es (ev_rep h x) hes
      obtain ⟨c', cs', hk', hf, hr'⟩ := fill_gives h place rest _ _ K (fillE_rep hr hx h2) hk
      refine ⟨c', cs', hk', ?_, hr'⟩
      have hsz : (a.eval x).cells.size = es.length := by simpa using hx.1.symm
      have hcs : cs.size = cells.length := by simpa using hr.1.symm
      simp only [List.map_cons, Instr.fill, hp, hsz]
      rw [if_neg (by simp; omega)]
      exact hf
    · exact hk.elim

theorem run_mapM_list {α β : Type} (f : α → Sem β) (g : α → β) (w : World) : ∀ (l : List α), (∀ x ∈ l, (f x).run P w = .ok (g x) w) → (l.mapM f).run P w = .ok (l.map g) w
  | [], _ => rfl
  | x :: l, h => by
    have _gl : Gl P := inferInstance
    rw [List.mapM_cons]
    simp only [Sem.run_bind, h x (by simp), Result.andThen_ok, run_mapM_list f g w l (fun y hy => h y (by simp [hy])), Sem.run_pure, List.map_cons]
theorem run_mapM_array {α β : Type} (f : α → Sem β) (g : α → β) (w : World) (l : Array α) (h : ∀ x ∈ l, (f x).run P w = .ok (g x) w) : (l.mapM f).run P w = .ok (l.map g) w := by
  rw [Array.mapM_eq_mapM_toList]
  rw [Sem.run_map, run_mapM_list f g w l.toList (fun x hx => h x (by simpa using hx)), Result.andThen_ok]
  rw [← Array.toList_map, Array.toArray_toList]

include hL in
theorem build_gives (h : RelAt P w0 M0 S0 S a.tmps w St ρ) {t : Nat} {parts : Array (Nat × Operand)} {K : D → Prop} (hk : opV L S (.build t parts) K) :
    Gives P S a.tmps w St ρ ((Instr.build t (parts.map fun (i, x) => (i, a.eval x))).run P w) K := by
  have hparts : (parts.map fun (i, x) => (i, a.eval x)).toList = parts.toList.map fun p => (p.1, a.eval p.2) := by simp
  simp only [opV] at hk
  split at hk
  · rename_i fs z hfs hz
    obtain ⟨d, ti, ht⟩ := hL.ty (t := t) (.inl (known_of hfs (by simp)))
    obtain ⟨gs, rfl, hg⟩ := tk_struct (ht.k.symm.trans hfs)
    obtain ⟨u, hu, hall, rfl⟩ := ht.zero z hz
    obtain ⟨hkn, hk⟩ := hk
    obtain ⟨c', cs', hk', hf, hr'⟩ := fill_gives h _ parts.toList _ u.cells _ (constL_rep w St hall) hk
    refine ⟨_, .agg cs', hk', ?_, ⟨cs'.toList, by simp, hr'⟩, fun _ _ _ h => by cases h⟩
    have hplace : (gs.mapM fun f => (do pure (f.offset, ← sizeOf f.type) : Sem (Nat × Nat))).run P w = .ok (gs.map fun f => (f.offset, (L.ti f.type).size)) w := by
      refine run_mapM_array _ _ w gs fun f hf => ?_
      have : (L.ti f.type).known = true := by
        rw [hg] at hkn
        rw [List.all_eq_true] at hkn
        exact hkn (f.type, f.offset) (List.mem_map.2 ⟨f, by simpa using hf, rfl⟩)
      obtain ⟨d2, ti2, ht2⟩ := hL.ty (t := f.type) (.inl this)
      simp only [Sem.run_bind, run_sizeOf' ht2, Result.andThen_ok, Sem.run_pure]
    have hfun : (fun i => (gs.map fun f => (f.offset, (L.ti f.type).size))[i]?) = (fun (i : Nat) => (fs[i]?).map fun (f : Nat × Nat) => (f.2, (L.ti f.1).size)) := by
      funext i
      rw [hg]
      simp only [Array.getElem?_map, List.getElem?_map, Array.getElem?_toList]
      cases gs[i]? <;> rfl
    simp only [Instr.build, Sem.run_bind, zeroValue, typeInfo, run_program, ht.info, hu, Result.andThen_ok, Sem.run_pure, run_underlying ht.und]
    rw [hplace]
    simp only [Result.andThen_ok, hparts]
    rw [hfun, hf]
    rfl
  · rename_i n e z hfs hz
    obtain ⟨d, ti, ht⟩ := hL.ty (t := t) (.inl (known_of hfs (by simp)))
    obtain rfl := tk_array (ht.k.symm.trans hfs)
    obtain ⟨u, hu, hall, rfl⟩ := ht.zero z hz
    obtain ⟨hkn, hk⟩ := hk
    obtain ⟨d2, ti2, ht2⟩ := hL.ty (t := e) (.inl hkn)
    obtain ⟨c', cs', hk', hf, hr'⟩ := fill_gives h _ parts.toList _ u.cells _ (constL_rep w St hall) hk
    refine ⟨_, .agg cs', hk', ?_, ⟨cs'.toList, by simp, hr'⟩, fun _ _ _ h => by cases h⟩
    simp only [Instr.build, Sem.run_bind, zeroValue, typeInfo, run_program, ht.info, hu, Result.andThen_ok, Sem.run_pure, run_underlying ht.und, run_sizeOf' ht2, hparts]
    rw [hf]
    rfl
  · exact hk.elim

theorem X.rep_d {x : X} {v : Value} (h : RepX w St x v) : RepD w St ρ x.d v := by
  cases x with
  | bot => exact trivial
  | c e => exact h
  | agg es => exact h

include hL in
/-- THE JOIN. -/
theorem opV_gives (h : RelAt P w0 M0 S0 S a.tmps w St ρ) {o : Oper} {K : D → Prop} (hk : opV L S o.op K) :
    ∃ d v, K d ∧ (execOp a.eval o).run P w = .ok (.value v) w ∧ RepD w St ρ d v ∧ ∀ t k e, d = .c (some (t, k)) e → Held S a.tmps w ρ t k e v := by
  have go : ∀ (s : Sem Value), execOp a.eval o = (do pure (.value (← s))) → Gives P S a.tmps w St ρ (s.run P w) K →
      ∃ d v, K d ∧ (execOp a.eval o).run P w = .ok (.value v) w ∧ RepD w St ρ d v ∧ ∀ t k e, d = .c (some (t, k)) e → Held S a.tmps w ρ t k e v := by
    rintro s hs ⟨d, v, h1, h2, h3, h4⟩
    refine ⟨d, v, h1, ?_, h3, h4⟩
    rw [hs]; simp only [Sem.run_bind, h2, Result.andThen_ok, Sem.run_pure]
  have ex : ∀ (x : Operand), K (S.ev x) → (execOp a.eval o).run P w = .ok (.value (a.eval x)) w →
      ∃ d v, K d ∧ (execOp a.eval o).run P w = .ok (.value v) w ∧ RepD w St ρ d v ∧ ∀ t k e, d = .c (some (t, k)) e → Held S a.tmps w ρ t k e v :=
    fun x hk hr => ⟨_, _, hk, hr, ev_rep h x, fun t k e he => ev_held x he⟩
  cases hop : o.op with
  | move x => rw [hop] at hk; exact ex x hk (by simp [execOp, hop])
  | assign x => rw [hop] at hk; exact ex x hk (by simp [execOp, hop])
  | pick c x y =>
    rw [hop] at hk
    simp only [opV] at hk
    split at hk
    · rename_i tk b hd
      have hc := ev_rep h c
      rw [hd] at hc
      obtain ⟨hc, _⟩ := rep_v (d := .c tk (.v (.bool b))) hc rfl
      cases b with
      | true => exact ex x hk (by simp [execOp, hop, hc, asBool])
      | false => exact ex y hk (by simp [execOp, hop, hc, asBool])
    · exact hk.elim
  | load t p => rw [hop] at hk; exact go _ (by simp only [execOp, hop]) (load_gives hL h hk)
  | fieldAddr t p f => rw [hop] at hk; exact go _ (by simp only [execOp, hop]) (fieldAddr_gives hL h hk)
  | field t p f => rw [hop] at hk; exact go _ (by simp only [execOp, hop]) (field_gives hL h hk)
  | indexAddr t x i => rw [hop] at hk; exact go _ (by simp only [execOp, hop]) (indexAddr_gives hL h hk)
  | index t x i => rw [hop] at hk; exact go _ (by simp only [execOp, hop]) (index_gives hL h hk)
  | slice t x lo hi mx => rw [hop] at hk; exact go _ (by simp only [execOp, hop]) (slice_gives hL h hk)
  | binOp op t x y ty => rw [hop] at hk; exact go _ (by simp only [execOp, hop]) (binC_gives hL h hk)
  | unOp op t x => rw [hop] at hk; exact go _ (by simp only [execOp, hop]) (un_gives h hk)
  | convert s t x => rw [hop] at hk; exact go _ (by simp only [execOp, hop]) (convert_gives hL h hk)
  | build t parts => rw [hop] at hk; exact go _ (by simp only [execOp, hop]) (build_gives hL h hk)
  | nilCheck x =>
    rw [hop] at hk
    simp only [opV] at hk
    have hx := ev_rep h x
    have hh := fun t k e => ev_held (w := w) (ρ := ρ) (a := a) (S := S) (t := t) (k := k) (e := e) x
    unfold nilK at hk
    split at hk
    · rename_i n off hd
      rw [hd] at hx
      have hx' : a.eval x = .pointer (some ⟨ρ n, off, none⟩) := hx
      exact ⟨_, _, hk, by simp [execOp, hop, hx'], hx', fun _ _ _ h => by cases h⟩
    · rename_i es hd
      rw [hd] at hx
      obtain ⟨b, o', hx', hr⟩ := hx
      exact ⟨_, _, hk, by simp [execOp, hop, hx'], ⟨b, o', rfl, hr⟩, fun _ _ _ h => by cases h⟩
    · rename_i tk f A B hd
      rw [hd] at hx hh
      obtain ⟨hx', hc⟩ := rep_v (d := .c tk (.v (.func (.func f) A B))) hx rfl
      exact ⟨_, _, hk, by simp [execOp, hop, hx'], .v _ rfl, fun t k e he => by rw [← hx']; exact hh t k e he⟩
    · exact hk.elim
  | extract x i =>
    rw [hop] at hk
    simp only [opV] at hk
    have hx := ev_rep h x
    split at hk
    · rename_i xs hd
      rw [hd] at hx
      obtain ⟨vs, hx, hl, hr⟩ := hx
      split at hk
      · rename_i x' hi
        obtain ⟨u, hu, hr⟩ := hr i x' hi
        refine ⟨_, u, hk, ?_, X.rep_d hr, fun t k e he => by cases x' <;> cases he⟩
        simp [execOp, hop, hx, Instr.extract, hu]
      · exact hk.elim
    · exact hk.elim
  | makeFunc fn first captured =>
    rw [hop] at hk
    simp only [opV] at hk
    split at hk
    · rename_i A B hA hB
      refine ⟨_, .func fn A.toArray B.toArray, hk, ?_, .v _ rfl, fun _ _ _ h => by cases h⟩
      have h1 : first.map a.eval = A.toArray := Array.toList_inj.1 (by simpa using vals_run h _ _ hA)
      have h2 : captured.map a.eval = B.toArray := Array.toList_inj.1 (by simpa using vals_run h _ _ hB)
      simp [execOp, hop, Instr.makeFunc, h1, h2]
    · exact hk.elim
  | call c =>
    rw [hop] at hk
    simp only [opV] at hk
    obtain ⟨callee, args, argTypes⟩ := c
    have hsz : ∀ {α : Type} (x : Array α) (l : List α), x.toList = l → x = l.toArray := fun x l h => by rw [← h]
    split at hk
    · rename_i x t h1 h2 h3
      simp only at h1 h2 h3
      obtain rfl := h1; obtain rfl := hsz _ _ h2; obtain rfl := hsz _ _ h3
      obtain ⟨d, v, h4, h5, h6⟩ := lenK_run (P := P) (ty := o.type) h hL hk
      refine ⟨d, v, h4, ?_, h6⟩
      simp [execOp, hop, resolve, invoke, builtin, h5]
    · rename_i x y h1 h2
      simp only at h1 h2
      obtain rfl := h1; obtain rfl := hsz _ _ h2
      obtain ⟨d, v, h4, h5, h6⟩ := extr_run (P := P) (ty := o.type) (ts := argTypes) h hk
      refine ⟨d, v, h4, ?_, h6⟩
      simp only [if_true] at h5
      simp [execOp, hop, resolve, invoke, builtin, h5]
    · rename_i x y h1 h2
      simp only at h1 h2
      obtain rfl := h1; obtain rfl := hsz _ _ h2
      obtain ⟨d, v, h4, h5, h6⟩ := extr_run (P := P) (ty := o.type) (ts := argTypes) h hk
      refine ⟨d, v, h4, ?_, h6⟩
      simp only [Bool.false_eq_true, if_false] at h5
      simp [execOp, hop, resolve, invoke, builtin, h5]
    · exact hk.elim
  | _ => rw [hop] at hk; exact hk.elim
end
end Go.Am

/- How the relation moves: a temporary is put, memory grows, a box is made or written. -/
set_option linter.unusedVariables false
set_option linter.unusedSimpArgs false
namespace Go.Am
open Go.RowKit

section
variable {P : Program} [Gl P] {w0 : World} {M0 : Nat → Prop} {S0 : Stab} {S : AS} {tm : Array Value} {w : World} {St : Stab} {ρ : Nat → Nat}

theorem getD_set (tm : Array Value) (i j : Nat) (v : Value) (hi : i < tm.size) : (tm.setIfInBounds i v).getD j undef = if j = i then v else tm.getD j undef := by
  simp only [Array.getD_eq_getD_getElem?, Array.getElem?_setIfInBounds]
  by_cases h : i = j
  · subst h; simp [hi]
  · rw [if_neg h, if_neg (fun e => h e.symm)]

theorem held_put {i : Nat} {d : D} {v : Value} (hi : i < tm.size) (htok : ∀ t k e, d = .c (some (t, k)) e → Held S tm w ρ t k e v) {t k : Nat} {e : E} {u : Value}
    (h : Held (S.put i d) (tm.setIfInBounds i v) w ρ t k e u) : Held S tm w ρ t k e u := by
  rcases h with ⟨j, hj, hv⟩ | ⟨n, cs, j, hb, hj, hv⟩
  · rw [get_put] at hj
    rw [getD_set _ _ _ _ hi] at hv
    by_cases he : j = i
    · rw [if_pos he] at hj hv; subst hv; exact htok t k e hj
    · rw [if_neg he] at hj hv; exact .inl ⟨j, hj, hv⟩
  · exact .inr ⟨n, cs, j, hb, hj, hv⟩

theorem RelAt.put (h : RelAt P w0 M0 S0 S tm w St ρ) {i : Nat} {d : D} {v : Value} (hi : i < tm.size) (hd : RepD w St ρ d v) (htok : ∀ t k e, d = .c (some (t, k)) e → Held S tm w ρ t k e v) :
    RelAt P w0 M0 S0 (S.put i d) (tm.setIfInBounds i v) w St ρ where
  glob := h.glob
  os := h.os
  tape := h.tape
  output := h.output
  size := h.size
  old := h.old
  stay := h.stay
  up := h.up
  dn := h.dn
  lt := h.lt
  tmp j := by
    rw [get_put, getD_set _ _ _ _ hi]
    split
    · exact hd
    · exact h.tmp j
  box := h.box
  inj := h.inj
  own t k e v hh := h.own t k e v (held_put hi htok hh)
  apart t k e v t' k' e' v' hh hh' := h.apart t k e v t' k' e' v' (held_put hi htok hh) (held_put hi htok hh')
  ownbox t k e v n cs hh := h.ownbox t k e v n cs (held_put hi htok hh)

theorem block_lt {w : World} {b : Nat} {o : Obj} (h : w.heap[b]? = some o) : b < w.heap.size := by
  rcases Nat.lt_or_ge b w.heap.size with h' | h'
  · exact h'
  · simp [Array.getElem?_eq_none h'] at h

/-- What is held in a box lies at a cell of it. -/
theorem held_world {w' : World} (hb : ∀ n cs, S.box n = some cs → w'.heap[ρ n]? = w.heap[ρ n]?) {t k : Nat} {e : E} {v : Value} (h : Held S tm w' ρ t k e v) : Held S tm w ρ t k e v := by
  rcases h with ⟨i, hi, hv⟩ | ⟨n, cs, j, hb', hj, hv⟩
  · exact .inl ⟨i, hi, hv⟩
  · exact .inr ⟨n, cs, j, hb', hj, by rw [← World.cell?_of_block (w := w) (w' := w') (a := ⟨ρ n, j, none⟩) (hb n cs hb')]; exact hv⟩

theorem own_lt {B : Nat} {k : Nat} {e : E} {v : Value} (h : Own P B M0 w St k e v) : ∀ g, v.ownBlock = some g → g < w.heap.size ∧ (B ≤ g ∨ M0 g) := by
  rintro g hg
  rcases h with ⟨rfl, _⟩ | ⟨g', cap, cur, rows, rfl, rfl, h1, h2, _⟩
  · simp [Value.ownBlock] at hg
  · simp only [Value.ownBlock, Option.some.injEq] at hg
    subst hg
    exact ⟨block_lt h2, h1⟩

/-- Memory grows; what was there stays, but for rows of blocks that nothing here knows. -/
theorem RelAt.grow (h : RelAt P w0 M0 S0 S tm w St ρ) {w' : World} {St' : Stab} (hos : w'.os = w.os) (htape : w'.tape = w.tape) (hout : w'.output = w.output) (hsz : w.heap.size ≤ w'.heap.size)
    (hb : ∀ b, b < w.heap.size → w'.heap[b]? = w.heap[b]?) (hup : ∀ b o, St b o → St' b o) (hdn : ∀ b o, St' b o → St b o ∨ (w.heap.size ≤ b ∧ b < w'.heap.size)) :
    RelAt P w0 M0 S0 S tm w' St' ρ := by
  have hl : Later w w' St St' := ⟨hup, fun b o hs => World.cell?_of_block (a := ⟨b, o, none⟩) (hb b (h.lt b o hs))⟩
  have hbox : ∀ n cs, S.box n = some cs → ρ n < w.heap.size := fun n cs hn => by obtain ⟨_, _, arr, t, h3, _⟩ := h.box n cs hn; exact block_lt h3
  have hheld : ∀ {t k : Nat} {e : E} {v : Value}, Held S tm w' ρ t k e v → Held S tm w ρ t k e v := fun hh => held_world (fun n cs hn => hb _ (hbox n cs hn)) hh
  exact {
    glob := h.glob, os := hos.trans h.os, tape := htape.trans h.tape, output := hout.trans h.output, size := Nat.le_trans h.size hsz
    old := fun b hlt hM => (hb b (Nat.lt_of_lt_of_le hlt h.size)).trans (h.old b hlt hM)
    stay := fun b o hs => (hl.2 b o (h.up b o hs)).trans (h.stay b o hs)
    up := fun b o hs => hup b o (h.up b o hs)
    dn := fun b o hs hlt => (hdn b o hs).elim (fun hs => h.dn b o hs hlt) (fun ⟨h1, _⟩ => absurd (Nat.lt_of_lt_of_le hlt h.size) (by omega))
    lt := fun b o hs => (hdn b o hs).elim (fun hs => Nat.lt_of_lt_of_le (h.lt b o hs) hsz) (fun h1 => h1.2)
    tmp := fun i => (h.tmp i).later hl
    box := fun n cs hn => by
      obtain ⟨h1, h2, arr, t, h3, h4, h5⟩ := h.box n cs hn
      refine ⟨h1, fun o hs => ?_, arr, t, (hb _ (hbox n cs hn)).trans h3, h4, fun k c hk => let ⟨u, hu, hr⟩ := h5 k c hk; ⟨u, hu, hr.later hl⟩⟩
      rcases hdn _ _ hs with hs | ⟨h6, _⟩
      · exact h2 o hs
      · have := hbox n cs hn; omega
    inj := h.inj
    own := fun t k e v hh => by
      rcases h.own t k e v (hheld hh) with h1 | ⟨g, cap, cur, rows, h1, h2, h3, h4, h5, h6, h7, h8⟩
      · exact .inl h1
      · have hg := block_lt h4
        exact .inr ⟨g, cap, cur, rows, h1, h2, h3, (hb g hg).trans h4, h5, h6, h7, fun o hs => (hdn g o hs).elim (h8 o) (fun h9 => by omega)⟩
    apart := fun t k e v t' k' e' v' hh hh' => h.apart t k e v t' k' e' v' (hheld hh) (hheld hh')
    ownbox := fun t k e v n cs hh => h.ownbox t k e v n cs (hheld hh) }

/-- A name that nobody bears may lead elsewhere. -/
theorem RelAt.rename (h : RelAt P w0 M0 S0 S tm w St ρ) {n b : Nat} (hget : ∀ i off, S.get i ≠ .ptr n off) (hbox : S.box n = none) : RelAt P w0 M0 S0 S tm w St (fun m => if m = n then b else ρ m) := by
  have hne : ∀ m cs, S.box m = some cs → m ≠ n := fun m cs hm e => by subst e; rw [hbox] at hm; cases hm
  have hheld : ∀ {t k : Nat} {e : E} {v : Value}, Held S tm w (fun m => if m = n then b else ρ m) t k e v → Held S tm w ρ t k e v := fun hh => by
    rcases hh with ⟨i, hi, hv⟩ | ⟨m, cs, j, hb', hj, hv⟩
    · exact .inl ⟨i, hi, hv⟩
    · simp only [if_neg (hne m cs hb')] at hv; exact .inr ⟨m, cs, j, hb', hj, hv⟩
  exact { glob := h.glob, os := h.os, tape := h.tape, output := h.output, size := h.size, old := h.old, stay := h.stay, up := h.up, dn := h.dn, lt := h.lt
          tmp := fun i => (h.tmp i).names (fun m off hd => by
            have : m ≠ n := fun e => by subst e; exact hget i off hd
            simp [this])
          box := fun m cs hm => by simp only [if_neg (hne m cs hm)]; exact h.box m cs hm
          inj := fun m m' cs ds hm hm' hne' => by simp only [if_neg (hne m cs hm), if_neg (hne m' ds hm')]; exact h.inj m m' cs ds hm hm' hne'
          own := fun t k e v hh => h.own t k e v (hheld hh)
          apart := fun t k e v t' k' e' v' hh hh' => h.apart t k e v t' k' e' v' (hheld hh) (hheld hh')
          ownbox := fun t k e v m cs hh hm => by simp only [if_neg (hne m cs hm)]; exact h.ownbox t k e v m cs (hheld hh) hm }

theorem get_kill_ne (S : AS) (n i off : Nat) : (S.kill n).get i ≠ .ptr n off := by
  rw [get_kill]
  cases hd : S.get i with
  | ptr m o => simp only [killD]; split <;> simp; rintro rfl; contradiction
  | _ => simp [killD]

/-- A box is laid into the newest block, of which nothing is known yet. -/
theorem RelAt.setBox (h : RelAt P w0 M0 S0 S tm w St ρ) {n : Nat} {cs : List Cell} {arr : Array Value} {t : TypeId} (hn : S.box n = none) (hblk : w.heap[ρ n]? = some (.cells arr t (0, 0)))
    (hge : w0.heap.size ≤ ρ n ∨ M0 (ρ n)) (hSt : ∀ o, ¬ St (ρ n) o) (hfresh : ∀ m ds, S.box m = some ds → ρ m ≠ ρ n) (hownf : ∀ t k e v, Held S tm w ρ t k e v → v.ownBlock ≠ some (ρ n))
    (hsz : arr.size = cs.length) (hr : ∀ (k : Nat) (c : Cell), cs[k]? = some c → ∃ u, arr[k]? = some u ∧ RepE w St c.2 u)
    (htok : ∀ (j t k : Nat) (e : E) (u : Value), cs[j]? = some (some (t, k), e) → arr[j]? = some u → Held S tm w ρ t k e u) : RelAt P w0 M0 S0 (S.setBox n cs) tm w St ρ := by
  have hcell : ∀ j, w.cell? ⟨ρ n, j, none⟩ = arr[j]? := fun j => by simp [World.cell?, hblk]
  have hheld : ∀ {t k : Nat} {e : E} {v : Value}, Held (S.setBox n cs) tm w ρ t k e v → Held S tm w ρ t k e v := fun hh => by
    rcases hh with ⟨i, hi, hv⟩ | ⟨m, ds, j, hb', hj, hv⟩
    · exact .inl ⟨i, hi, hv⟩
    · rw [box_setBox] at hb'
      split at hb'
      · rename_i he; subst he; injection hb' with hb'; subst hb'; rw [hcell] at hv; exact htok _ _ _ _ _ hj hv
      · exact .inr ⟨m, ds, j, hb', hj, hv⟩
  exact { glob := h.glob, os := h.os, tape := h.tape, output := h.output, size := h.size, old := h.old, stay := h.stay, up := h.up, dn := h.dn, lt := h.lt, tmp := h.tmp
          box := fun m ds hm => by
            rw [box_setBox] at hm
            split at hm
            · rename_i he; subst he; injection hm with hm; subst hm; exact ⟨hge, hSt, arr, t, hblk, hsz, hr⟩
            · exact h.box m ds hm
          inj := fun m m' ds es hm hm' hne => by
            rw [box_setBox] at hm hm'
            split at hm
            · rename_i he; subst he
              split at hm'
              · rename_i he'; exact absurd he'.symm hne
              · exact fun e => hfresh m' es hm' e.symm
            · split at hm'
              · rename_i he'; subst he'; exact hfresh m ds hm
              · exact h.inj m m' ds es hm hm' hne
          own := fun t k e v hh => h.own t k e v (hheld hh)
          apart := fun t k e v t' k' e' v' hh hh' => h.apart t k e v t' k' e' v' (hheld hh) (hheld hh')
          ownbox := fun t k e v m ds hh hm => by
            rw [box_setBox] at hm
            split at hm
            · rename_i he; subst he; exact hownf t k e v (hheld hh)
            · exact h.ownbox t k e v m ds (hheld hh) hm }

/-- A new box, with its address. -/
theorem RelAt.newBox (h : RelAt P w0 M0 S0 S tm w St ρ) {n : Nat} {cs : List Cell} {arr : Array Value} (t : TypeId) (hi : n < tm.size) (hsz : arr.size = cs.length)
    (hr : ∀ (k : Nat) (c : Cell), cs[k]? = some c → ∃ u, arr[k]? = some u ∧ RepE w St c.2 u) (htok : ∀ (j t k : Nat) (e : E) (u : Value), cs[j]? = some (some (t, k), e) → arr[j]? = some u → Held (S.kill n) tm w ρ t k e u) :
    RelAt P w0 M0 S0 (((S.kill n).setBox n cs).put n (.ptr n 0)) (tm.setIfInBounds n (.pointer (some ⟨w.heap.size, 0, none⟩))) (w.alloc (.cells arr t)) St (fun m => if m = n then w.heap.size else ρ m) := by
  have h1 := (h.less (Less.kill S n)).rename (n := n) (b := w.heap.size) (get_kill_ne S n) (by rw [box_kill]; simp)
  have hbk : ∀ m ds, (S.kill n).box m = some ds → m ≠ n ∧ S.box m = some ds := fun m ds hm => by rw [box_kill] at hm; split at hm <;> simp_all
  have h2 : RelAt P w0 M0 S0 (S.kill n) tm (w.alloc (.cells arr t)) St (fun m => if m = n then w.heap.size else ρ m) :=
    h1.grow rfl rfl rfl (by simp) (fun b hb => heap_alloc_old w _ b hb) (fun _ _ hs => hs) (fun _ _ hs => .inl hs)
  have hl : Later w (w.alloc (.cells arr t)) St St := ⟨fun _ _ hs => hs, fun b o hs => World.cell?_of_block (a := ⟨b, o, none⟩) (heap_alloc_old w _ b (h.lt b o hs))⟩
  have hheld : ∀ {t' k : Nat} {e : E} {v : Value}, Held (S.kill n) tm w ρ t' k e v → Held (S.kill n) tm (w.alloc (.cells arr t)) (fun m => if m = n then w.heap.size else ρ m) t' k e v := fun hh => by
    rcases hh with ⟨i, hi, hv⟩ | ⟨m, ds, j, hb', hj, hv⟩
    · exact .inl ⟨i, hi, hv⟩
    · refine .inr ⟨m, ds, j, hb', hj, ?_⟩
      obtain ⟨hne, hbx⟩ := hbk m ds hb'
      obtain ⟨_, _, arr', t', h3, _⟩ := h.box m ds hbx
      simp only [if_neg hne]
      rw [World.cell?_of_block (a := ⟨ρ m, j, none⟩) (heap_alloc_old w _ _ (block_lt h3))]
      exact hv
  have h3 := h2.setBox (n := n) (cs := cs) (arr := arr) (t := t) (by rw [box_kill]; simp) (by show (w.alloc _).heap[if n = n then _ else _]? = _; rw [if_pos rfl]; exact heap_alloc_new w _) (by simp only [if_true]; exact .inl h.size)
    (fun o hs => by simp only [if_true] at hs; have := h.lt _ _ hs; omega) (fun m ds hm => by
      obtain ⟨hne, hbx⟩ := hbk m ds hm
      obtain ⟨_, _, arr', t', h3, _⟩ := h.box m ds hbx
      simp only [if_neg hne, if_true]
      have := block_lt h3; omega)
    (fun t' k e v hh => by
      simp only [if_true]
      intro he
      have := (own_lt (h2.own t' k e v hh) _ he)
      have h4 := (own_lt (h1.own t' k e v (held_world (fun m cs' hm => by
        obtain ⟨hne, hbx⟩ := hbk m cs' hm
        obtain ⟨_, _, arr', t', h3, _⟩ := h.box m cs' hbx
        simp only [if_neg hne]
        exact heap_alloc_old w _ _ (block_lt h3)) hh)) _ he)
      omega)
    hsz (fun k c hk => let ⟨u, hu, hru⟩ := hr k c hk; ⟨u, hu, hru.later hl⟩) (fun j t' k e u hj hu => hheld (htok j t' k e u hj hu))
  exact h3.put hi (by show _ = _; simp) (fun _ _ _ he => by cases he)

/-! ### a store into a box -/
def spliceC (cs : List Cell) (off : Nat) (new : List Cell) : List Cell := cs.take off ++ new ++ cs.drop (off + new.length)

theorem splice_get {α : Type} (cs new : List α) (off k : Nat) (hb : off + new.length ≤ cs.length) :
    (cs.take off ++ new ++ cs.drop (off + new.length))[k]? = if off ≤ k ∧ k < off + new.length then new[k - off]? else cs[k]? := by
  by_cases h1 : k < off
  · rw [if_neg (by omega), List.append_assoc, List.getElem?_append_left (by simp; omega), List.getElem?_take, if_pos h1]
  · by_cases h2 : k < off + new.length
    · rw [if_pos ⟨by omega, h2⟩, List.append_assoc, List.getElem?_append_right (by simp; omega), List.getElem?_append_left (by simp; omega)]
      congr 1
      simp; omega
    · rw [if_neg (by omega), List.getElem?_append_right (by simp; omega), List.getElem?_drop]
      congr 1
      simp; omega

/-- The machine's store of some cells into a whole row. -/
def setCells (arr : Array Value) (off : Nat) (vs : List Value) : Array Value := (arr.toList.take off ++ vs ++ arr.toList.drop (off + vs.length)).toArray

theorem RelAt.storeBox (h : RelAt P w0 M0 S0 S tm w St ρ) {n off : Nat} {cs new : List Cell} {arr : Array Value} {t : TypeId} {vs : List Value} (hn : S.box n = some cs)
    (hblk : w.heap[ρ n]? = some (.cells arr t (0, 0))) (hb : off + new.length ≤ cs.length) (hl : new.length = vs.length) {w' : World}
    (hw : w'.heap[ρ n]? = some (.cells (setCells arr off vs) t (0, 0))) (hos : w'.os = w.os) (htape : w'.tape = w.tape) (hout : w'.output = w.output) (hsz : w'.heap.size = w.heap.size)
    (hoth : ∀ b, b ≠ ρ n → w'.heap[b]? = w.heap[b]?)
    (hr : ∀ (k : Nat) (c : Cell), new[k]? = some c → ∃ u, vs[k]? = some u ∧ RepE w St c.2 u) (htok : ∀ (j t k : Nat) (e : E) (u : Value), new[j]? = some (some (t, k), e) → vs[j]? = some u → Held S tm w ρ t k e u) :
    RelAt P w0 M0 S0 (S.setBox n (spliceC cs off new)) tm w' St ρ := by
  obtain ⟨hge, hSt, arr', t', hblk', hsz', hr'⟩ := h.box n cs hn
  obtain ⟨rfl, rfl⟩ : arr = arr' ∧ t = t' := by rw [hblk] at hblk'; injection hblk' with e; injection e with e1 e2; exact ⟨e1, e2⟩
  have hstab : ∀ b o, St b o → b ≠ ρ n := fun b o hs e => hSt o (e ▸ hs)
  have hlat : Later w w' St St := ⟨fun _ _ hs => hs, fun b o hs => World.cell?_of_block (a := ⟨b, o, none⟩) (hoth b (hstab b o hs))⟩
  have hcell : ∀ j, w'.cell? ⟨ρ n, j, none⟩ = (setCells arr off vs)[j]? := fun j => by simp [World.cell?, hw]
  have hcell0 : ∀ j, w.cell? ⟨ρ n, j, none⟩ = arr[j]? := fun j => by simp [World.cell?, hblk]
  have hget : ∀ j, (setCells arr off vs)[j]? = if off ≤ j ∧ j < off + vs.length then vs[j - off]? else arr[j]? := fun j => by
    have := splice_get arr.toList vs off j (by have e : arr.toList.length = arr.size := Array.length_toList; omega)
    simp only [setCells, List.getElem?_toArray]
    rw [this]; simp
  have hgetc : ∀ j, (spliceC cs off new)[j]? = if off ≤ j ∧ j < off + new.length then new[j - off]? else cs[j]? := fun j => splice_get cs new off j hb
  have hheld : ∀ {t k : Nat} {e : E} {v : Value}, Held (S.setBox n (spliceC cs off new)) tm w' ρ t k e v → Held S tm w ρ t k e v := fun hh => by
    rcases hh with ⟨i, hi, hv⟩ | ⟨m, ds, j, hb', hj, hv⟩
    · exact .inl ⟨i, hi, hv⟩
    · rw [box_setBox] at hb'
      split at hb'
      · rename_i he; subst he; injection hb' with hb'; subst hb'
        rw [hcell, hget] at hv
        rw [hgetc] at hj
        by_cases hc : off ≤ j ∧ j < off + new.length
        · rw [if_pos hc] at hj; rw [if_pos (by omega)] at hv; exact htok _ _ _ _ _ hj hv
        · rw [if_neg hc] at hj; rw [if_neg (by omega)] at hv; exact .inr ⟨m, cs, j, hn, hj, by rw [hcell0]; exact hv⟩
      · rename_i he
        refine .inr ⟨m, ds, j, hb', hj, ?_⟩
        rw [← World.cell?_of_block (w := w) (w' := w') (a := ⟨ρ m, j, none⟩) (hoth _ (h.inj m n ds cs hb' hn he))]
        exact hv
  exact { glob := h.glob, os := hos.trans h.os, tape := htape.trans h.tape, output := hout.trans h.output, size := by rw [hsz]; exact h.size
          old := fun b hlt hM => by
            have hne : b ≠ ρ n := by rintro rfl; rcases hge with h1 | h1; omega; exact hM h1
            exact (hoth b hne).trans (h.old b hlt hM)
          stay := fun b o hs => (hlat.2 b o (h.up b o hs)).trans (h.stay b o hs)
          up := h.up, dn := h.dn, lt := fun b o hs => by rw [hsz]; exact h.lt b o hs
          tmp := fun i => (h.tmp i).later hlat
          box := fun m ds hm => by
            rw [box_setBox] at hm
            split at hm
            · rename_i he; subst he; injection hm with hm; subst hm
              refine ⟨hge, hSt, _, t, hw, ?_, fun k c hk => ?_⟩
              · unfold setCells spliceC; rw [List.size_toArray]; simp only [List.length_append, List.length_take, List.length_drop]; have e : arr.toList.length = arr.size := Array.length_toList; omega
              · rw [hgetc] at hk
                rw [hget]
                by_cases hc : off ≤ k ∧ k < off + new.length
                · rw [if_pos hc] at hk; rw [if_pos (by omega)]; obtain ⟨u, hu, hru⟩ := hr _ c hk; exact ⟨u, hu, hru.later hlat⟩
                · rw [if_neg hc] at hk; rw [if_neg (by omega)]; obtain ⟨u, hu, hru⟩ := hr' _ c hk; exact ⟨u, hu, hru.later hlat⟩
            · rename_i he
              obtain ⟨h1, h2, arr2, t2, h3, h4, h5⟩ := h.box m ds hm
              exact ⟨h1, h2, arr2, t2, (hoth _ (h.inj m n ds cs hm hn he)).trans h3, h4, fun k c hk => let ⟨u, hu, hru⟩ := h5 k c hk; ⟨u, hu, hru.later hlat⟩⟩
          inj := fun m m' ds es hm hm' hne => by
            have hb1 : ∀ m ds, (S.setBox n (spliceC cs off new)).box m = some ds → ∃ ds', S.box m = some ds' := fun m ds hm => by
              rw [box_setBox] at hm; split at hm; rename_i he; subst he; exact ⟨cs, hn⟩; exact ⟨ds, hm⟩
            obtain ⟨ds', hd⟩ := hb1 m ds hm
            obtain ⟨es', he'⟩ := hb1 m' es hm'
            exact h.inj m m' ds' es' hd he' hne
          own := fun t k e v hh => by
            have hh := hheld hh
            rcases h.own t k e v hh with h1 | ⟨g, cap, cur, rows, h1, h2, h3, h4, h5⟩
            · exact .inl h1
            · have hne : g ≠ ρ n := by
                have := h.ownbox t k e v n cs hh hn
                rw [h2] at this
                intro he; exact this (by simp [Value.ownBlock, he])
              exact .inr ⟨g, cap, cur, rows, h1, h2, h3, (hoth g hne).trans h4, h5⟩
          apart := fun t k e v t' k' e' v' hh hh' => h.apart t k e v t' k' e' v' (hheld hh) (hheld hh')
          ownbox := fun t k e v m ds hh hm => by
            rw [box_setBox] at hm
            split at hm
            · rename_i he; subst he; exact h.ownbox t k e v m cs (hheld hh) hn
            · exact h.ownbox t k e v m ds (hheld hh) hm }
end
end Go.Am

/- Contracts on abstract data, and what is known behind a call. -/
set_option linter.unusedVariables false
set_option linter.unusedSimpArgs false
namespace Go.Am
open Go.RowKit

def Callable (P : Program) [Gl P] (f : FuncId) : Prop := ∃ fn, P.funcs[f]? = some fn ∧ (fn.name == "runtime.NumGoroutine") = false ∧ fn.body.isNone = false

def argsAt : Nat → List D → List (Nat × D)
  | _, [] => []
  | i, d :: ds => (i, d) :: argsAt (i + 1) ds
def D.noPtr : D → Bool
  | .ptr _ _ => false
  | _ => true

/-- The first name of a box that came in. -/
def EXT : Nat := 1000
abbrev Boxes := List (Nat × List Cell)

/-- Called with these data (and these boxes), the function returns a value that K speaks of (and leaves these boxes). -/
structure CallsX (P : Program) [Gl P] (f : FuncId) (args : List D) (bx : Boxes) (K : D → Boxes → Prop) : Prop where
  able : Callable P f
  runs : ∀ (w : World) (S0 : Stab) (M0 : Nat → Prop) (vals : Array Value) (ρ : Nat → Nat), vals.size = args.length → RelAt P w M0 S0 ⟨argsAt 0 args, bx⟩ vals w S0 ρ →
    Calls P f vals w fun e w' => ∃ v r bx' St' ρ', e = .returned v ∧ K r bx' ∧ r.noPtr = true ∧ (∀ n, EXT ≤ n → ρ' n = ρ n) ∧ (∀ n, n < EXT → look bx' n = none) ∧ RelAt P w M0 S0 ⟨[(0, r)], bx'⟩ #[v] w' St' ρ'
abbrev CallsA (P : Program) [Gl P] (f : FuncId) (args : List D) (K : D → Prop) : Prop := CallsX P f args [] fun r _ => K r

theorem CallsX.mono {P : Program} [Gl P] {f : FuncId} {args : List D} {bx : Boxes} {K K' : D → Boxes → Prop} (h : CallsX P f args bx K) (hk : ∀ r b, K r b → K' r b) : CallsX P f args bx K' :=
  ⟨h.1, fun w S0 M0 vals ρ hv hr => (h.2 w S0 M0 vals ρ hv hr).mono fun e w' ⟨v, r, bx', St', ρ', h1, h2, h3⟩ => ⟨v, r, bx', St', ρ', h1, hk _ _ h2, h3⟩⟩
theorem CallsA.mono {P : Program} [Gl P] {f : FuncId} {args : List D} {K K' : D → Prop} (h : CallsA P f args K) (hk : ∀ r, K r → K' r) : CallsA P f args K' := CallsX.mono h fun r _ => hk r

section
variable {P : Program} [Gl P] {w0 : World} {M0 M1 : Nat → Prop} {S0 : Stab} {F C S' : AS} {tm : Array Value} {w w' : World} {St St' : Stab} {ρ ρ' : Nat → Nat}

/-- What stays on the caller's side, when the callee has changed nothing but the blocks of M1. -/
theorem RelAt.frame (h : RelAt P w0 M0 S0 F tm w St ρ) {ta : Array Value} (c : RelAt P w M1 St C ta w' St' ρ') (hM : ∀ b, M1 b → b < w.heap.size ∧ (w0.heap.size ≤ b ∨ M0 b))
    (hheld : ∀ t k e v, Held F tm w ρ t k e v → ∀ b, v.ownBlock = some b → ¬ M1 b) (hbox : ∀ m cs, F.box m = some cs → ¬ M1 (ρ m)) : RelAt P w0 M0 S0 F tm w' St' ρ := by
  have hl : Later w w' St St' := ⟨c.up, c.stay⟩
  have hb : ∀ m cs, F.box m = some cs → w'.heap[ρ m]? = w.heap[ρ m]? := fun m cs hm => by
    obtain ⟨_, _, arr, t, h3, _⟩ := h.box m cs hm
    exact c.old _ (block_lt h3) (hbox m cs hm)
  have hheld' : ∀ {t k : Nat} {e : E} {v : Value}, Held F tm w' ρ t k e v → Held F tm w ρ t k e v := fun hh => held_world hb hh
  have hdn : ∀ b o, St' b o → b < w.heap.size → ¬ M1 b → St b o := fun b o hs hlt hm => (c.dn b o hs hlt).resolve_right hm
  exact {
    glob := h.glob, os := c.os.trans h.os, tape := c.tape.trans h.tape, output := c.output.trans h.output, size := Nat.le_trans h.size c.size
    old := fun b hlt hM0 => (c.old b (Nat.lt_of_lt_of_le hlt h.size) (fun hm => by rcases (hM b hm).2 with h1 | h1; omega; exact hM0 h1)).trans (h.old b hlt hM0)
    stay := fun b o hs => (c.stay b o (h.up b o hs)).trans (h.stay b o hs)
    up := fun b o hs => c.up b o (h.up b o hs)
    dn := fun b o hs hlt => by
      rcases c.dn b o hs (Nat.lt_of_lt_of_le hlt h.size) with h1 | h1
      · exact h.dn b o h1 hlt
      · rcases (hM b h1).2 with h2 | h2
        · omega
        · exact .inr h2
    lt := c.lt
    tmp := fun i => (h.tmp i).later hl
    box := fun m cs hm => by
      obtain ⟨h1, h2, arr, t, h3, h4, h5⟩ := h.box m cs hm
      exact ⟨h1, fun o hs => h2 o (hdn _ _ hs (block_lt h3) (hbox m cs hm)), arr, t, (hb m cs hm).trans h3, h4, fun k c hk => let ⟨u, hu, hr⟩ := h5 k c hk; ⟨u, hu, hr.later hl⟩⟩
    inj := h.inj
    own := fun t k e v hh => by
      have hh := hheld' hh
      rcases h.own t k e v hh with h1 | ⟨g, cap, cur, rows, h1, h2, h3, h4, h5, h6, h7, h8⟩
      · exact .inl h1
      · have hg : ¬ M1 g := hheld t k e v hh g (by rw [h2]; rfl)
        exact .inr ⟨g, cap, cur, rows, h1, h2, h3, (c.old g (block_lt h4) hg).trans h4, h5, h6, h7, fun o hs => h8 o (hdn _ _ hs (block_lt h4) hg)⟩
    apart := fun t k e v t' k' e' v' hh hh' => h.apart t k e v t' k' e' v' (hheld' hh) (hheld' hh')
    ownbox := fun t k e v n cs hh => h.ownbox t k e v n cs (hheld' hh) }

/-- The callee's result and boxes are taken in. -/
theorem RelAt.merge (h : RelAt P w0 M0 S0 F tm w St ρ) (hF : RelAt P w0 M0 S0 F tm w' St' ρ) {v : Value} {r : D} (c : RelAt P w M1 St C #[v] w' St' ρ') (hM : ∀ b, M1 b → b < w.heap.size ∧ (w0.heap.size ≤ b ∨ M0 b))
    (hheld : ∀ t k e v, Held F tm w ρ t k e v → ∀ b, v.ownBlock = some b → ¬ M1 b) (hbox : ∀ m cs, F.box m = some cs → ¬ M1 (ρ m)) {dst : Option Nat} {tm2 : Array Value} (htm : ∀ j, tm2.getD j undef = if dst = some j then v else tm.getD j undef) (hr : r.noPtr = true) (hC : C.get 0 = r)
    (nm : Nat → Nat) (hget : ∀ j, S'.get j = if dst = some j then r else F.get j) (hSb : ∀ m cs, S'.box m = some cs → F.box m = some cs ∨ (C.box (nm m) = some cs ∧ ρ' (nm m) = ρ m ∧ F.box m = none))
    (hnm : ∀ m n cs ds, S'.box m = some cs → S'.box n = some ds → F.box m = none → F.box n = none → m ≠ n → nm m ≠ nm n) :
    RelAt P w0 M0 S0 S' tm2 w' St' ρ := by
  have hsz := c.size
  have hb : ∀ m cs, F.box m = some cs → w'.heap[ρ m]? = w.heap[ρ m]? ∧ ρ m < w.heap.size := fun m cs hm => by
    obtain ⟨_, _, arr, t, h3, _⟩ := h.box m cs hm
    exact ⟨c.old _ (block_lt h3) (hbox m cs hm), block_lt h3⟩
  have held' : ∀ {t k : Nat} {e : E} {u : Value}, Held S' tm2 w' ρ t k e u → Held F tm w' ρ t k e u ∨ Held C #[v] w' ρ' t k e u := fun hh => by
    rcases hh with ⟨i, hi, hv⟩ | ⟨m, cs, j, hb', hj, hv⟩
    · rw [hget] at hi
      rw [htm] at hv
      by_cases he : dst = some i
      · rw [if_pos he] at hi hv; subst hv; exact .inr (.inl ⟨0, by rw [hC]; exact hi, rfl⟩)
      · rw [if_neg he] at hi hv; exact .inl (.inl ⟨i, hi, hv⟩)
    · rcases hSb m cs hb' with h1 | ⟨h1, h2, _⟩
      · exact .inl (.inr ⟨m, cs, j, h1, hj, hv⟩)
      · exact .inr (.inr ⟨nm m, cs, j, h1, hj, by rw [h2]; exact hv⟩)
  have oldF : ∀ {t k : Nat} {e : E} {u : Value}, Held F tm w' ρ t k e u → ∀ b, u.ownBlock = some b → b < w.heap.size ∧ ¬ M1 b := fun hh b hbk => by
    have hh' := held_world (fun m cs hm => (hb m cs hm).1) hh
    exact ⟨(own_lt (h.own _ _ _ _ hh') b hbk).1, hheld _ _ _ _ hh' b hbk⟩
  have newC : ∀ {t k : Nat} {e : E} {u : Value}, Held C #[v] w' ρ' t k e u → ∀ b, u.ownBlock = some b → w.heap.size ≤ b ∨ M1 b := fun hh b hbk => (own_lt (c.own _ _ _ _ hh) b hbk).2
  have apFC : ∀ {t k t' k' : Nat} {e e' : E} {u u' : Value}, Held F tm w' ρ t k e u → Held C #[v] w' ρ' t' k' e' u' → ∀ b, u.ownBlock = some b → u'.ownBlock ≠ some b := fun hh hh' b hb1 hb2 => by
    have h1 := oldF hh b hb1
    rcases newC hh' b hb2 with h2 | h2
    · omega
    · exact h1.2 h2
  have apart2 : ∀ {u u' : Value}, (∀ b, u.ownBlock = some b → u'.ownBlock ≠ some b) → u.ownBlock = none ∨ u.ownBlock ≠ u'.ownBlock := fun {u u'} hh => by
    cases hu : u.ownBlock with
    | none => exact .inl rfl
    | some b => exact .inr fun he => hh b hu he.symm
  exact { hF with
    tmp := fun j => by
      rw [hget, htm]
      split
      · have h0 := c.tmp 0
        rw [hC] at h0
        exact h0.names fun n off he => by rw [he] at hr; cases hr
      · exact hF.tmp j
    box := fun m cs hm => by
      rcases hSb m cs hm with h1 | ⟨h1, h2, _⟩
      · exact hF.box m cs h1
      · obtain ⟨h3, h4⟩ := c.box _ cs h1
        rw [h2] at h3 h4
        refine ⟨?_, h4⟩
        rcases h3 with h3 | h3
        · exact .inl (Nat.le_trans h.size h3)
        · exact (hM _ h3).2
    inj := fun m n cs ds hm hn hne => by
      have newb : ∀ m cs, C.box (nm m) = some cs → ρ' (nm m) = ρ m → w.heap.size ≤ ρ m ∨ M1 (ρ m) := fun m cs h1 h2 => by
        have := (c.box _ cs h1).1
        rwa [h2] at this
      rcases hSb m cs hm with h1 | ⟨h1, h2, h2'⟩
      · rcases hSb n ds hn with h3 | ⟨h3, h4, _⟩
        · exact h.inj m n cs ds h1 h3 hne
        · intro he
          have h5 := (hb m cs h1).2
          rcases newb n ds h3 h4 with h6 | h6
          · omega
          · exact hbox m cs h1 (he ▸ h6)
      · rcases hSb n ds hn with h3 | ⟨h3, h4, h4'⟩
        · intro he
          have h5 := (hb n ds h3).2
          rcases newb m cs h1 h2 with h6 | h6
          · omega
          · exact hbox n ds h3 (he ▸ h6)
        · rw [← h2, ← h4]
          exact c.inj _ _ cs ds h1 h3 (hnm m n cs ds hm hn h2' h4' hne)
    own := fun t k e u hh => by
      rcases held' hh with hh | hh
      · exact hF.own t k e u hh
      · rcases c.own t k e u hh with h1 | ⟨g, cap, cur, rows, h1, h2, h3, h4⟩
        · exact .inl h1
        · refine .inr ⟨g, cap, cur, rows, h1, h2, ?_, h4⟩
          rcases h3 with h3 | h3
          · exact .inl (Nat.le_trans h.size h3)
          · exact (hM _ h3).2
    apart := fun t k e u t' k' e' u' hh hh' hne => by
      rcases held' hh with h1 | h1
      · rcases held' hh' with h2 | h2
        · exact hF.apart t k e u t' k' e' u' h1 h2 hne
        · exact apart2 (apFC h1 h2)
      · rcases held' hh' with h2 | h2
        · exact apart2 fun b hb1 hb2 => apFC h2 h1 b hb2 hb1
        · exact c.apart t k e u t' k' e' u' h1 h2 hne
    ownbox := fun t k e u m cs hh hm => by
      rcases held' hh with h1 | h1
      · rcases hSb m cs hm with h2 | ⟨h2, h3, _⟩
        · exact hF.ownbox t k e u m cs h1 h2
        · intro he
          have h4 := oldF h1 _ he
          have h5 := (c.box _ cs h2).1
          rw [h3] at h5
          rcases h5 with h5 | h5
          · omega
          · exact h4.2 h5
      · rcases hSb m cs hm with h2 | ⟨h2, h3, _⟩
        · intro he
          rcases newC h1 _ he with h5 | h5
          · have := (hb m cs h2).2; omega
          · exact hbox m cs h2 h5
        · rw [← h3]; exact c.ownbox t k e u _ cs h1 h2 }
end
end Go.Am

/- Data that tell less: what is known of values may be forgotten in part. -/
set_option linter.unusedVariables false
set_option linter.unusedSimpArgs false
namespace Go.Am
open Go.RowKit

/-! ### data that tell less -/
/-- A nil slice may be taken as an empty one. -/
inductive WE : E → E → Prop
  | refl (e : E) : WE e e
  | nil : WE .nils (.sl [])
  | sl (a b : List (List E)) (hl : a.length = b.length) (hr : ∀ (i : Nat) (ra rb : List E), a[i]? = some ra → b[i]? = some rb → ra.length = rb.length)
      (he : ∀ (i k : Nat) (ra rb : List E) (x y : E), a[i]? = some ra → b[i]? = some rb → ra[k]? = some x → rb[k]? = some y → WE x y) : WE (.sl a) (.sl b)
def WL : List E → List E → Prop
  | [], [] => True
  | x :: xs, y :: ys => WE x y ∧ WL xs ys
  | _, _ => False
/-- Tokens of the state that tells less: by the other's, turned. -/
def WT (r : Nat → Nat) : Option (Nat × Nat) → Option (Nat × Nat) → E → Prop
  | _, none, _ => True
  | some (s, k), some (t, k'), _ => r s = t ∧ k = k'
  | none, some _, .nils => True
  | none, some _, _ => False
def WX : X → X → Prop
  | _, .bot => True
  | .c e, .c e' => WE e e'
  | .agg a, .agg b => WL a b
  | _, _ => False
def WXs : List X → List X → Prop
  | [], [] => True
  | x :: xs, y :: ys => WX x y ∧ WXs xs ys
  | _, _ => False
def WD (r : Nat → Nat) : D → D → Prop
  | _, .bot => True
  | .c tk e, .c tk' e' => WT r tk tk' e ∧ WE e e'
  | .agg a, .agg b => WL a b
  | .tup a, .tup b => WXs a b
  | .ptr n o, .ptr m p => n = m ∧ o = p
  | .ref a, .ref b => WL a b
  | _, _ => False
def WC (r : Nat → Nat) : Cell → Cell → Prop := fun c d => WT r c.1 d.1 c.2 ∧ WE c.2 d.2
def WCs (r : Nat → Nat) : List Cell → List Cell → Prop
  | [], [] => True
  | x :: xs, y :: ys => WC r x y ∧ WCs r xs ys
  | _, _ => False
def WTs (r : Nat → Nat) (S : AS) : List (Nat × D) → Prop
  | [] => True
  | (i, d) :: l => WD r (S.get i) d ∧ WTs r S l
def WB (r : Nat → Nat) (o : Option (List Cell)) (cs : List Cell) : Prop :=
  match o with
  | some ds => WCs r ds cs
  | none => False
def WBs (r : Nat → Nat) (S : AS) : List (Nat × List Cell) → Prop
  | [] => True
  | (n, cs) :: l => WB r (S.box n) cs ∧ WBs r S l
/-- T tells no more than S (tokens turned by r). -/
structure WS (r : Nat → Nat) (S T : AS) : Prop where
  tmps : WTs r S T.tmps
  boxes : WBs r S T.boxes

theorem WL.len : ∀ {a b : List E}, WL a b → a.length = b.length
  | [], [], _ => rfl
  | _ :: _, _ :: _, h => by simp [WL.len h.2]
theorem WL.at : ∀ {a b : List E}, WL a b → ∀ (k : Nat) (x y : E), a[k]? = some x → b[k]? = some y → WE x y
  | _ :: _, _ :: _, h, 0, x, y, hx, hy => by simp at hx hy; subst hx hy; exact h.1
  | _ :: _, _ :: _, h, k + 1, x, y, hx, hy => WL.at h.2 k x y (by simpa using hx) (by simpa using hy)
  | [], [], _, k, x, y, hx, _ => by simp at hx
theorem WL.refl : ∀ a : List E, WL a a
  | [] => trivial
  | x :: xs => ⟨.refl x, WL.refl xs⟩
theorem WE.rows {a b : List (List E)} (hl : a.length = b.length) (h : ∀ (i : Nat) (ra rb : List E), a[i]? = some ra → b[i]? = some rb → WL ra rb) : WE (.sl a) (.sl b) :=
  .sl a b hl (fun i ra rb ha hb => (h i ra rb ha hb).len) fun i k ra rb x y ha hb hx hy => (h i ra rb ha hb).at k x y hx hy
theorem WE.row {ra rb : List E} (h : WL ra rb) : WE (.sl [ra]) (.sl [rb]) :=
  .rows rfl fun i a b ha hb => by
    cases i with
    | zero => simp at ha hb; subst ha hb; exact h
    | succ i => simp at ha
theorem WE.inv {a : List (List E)} {b : E} (h : WE (.sl a) b) : ∃ b', b = .sl b' ∧ a.length = b'.length ∧ ∀ (i : Nat) (ra rb : List E), a[i]? = some ra → b'[i]? = some rb → ra.length = rb.length ∧ ∀ (k : Nat) (x y : E), ra[k]? = some x → rb[k]? = some y → WE x y := by
  cases h with
  | refl => exact ⟨a, rfl, rfl, fun i ra rb ha hb => by rw [ha] at hb; injection hb with hb; subst hb; exact ⟨rfl, fun k x y hx hy => by rw [hx] at hy; injection hy with hy; subst hy; exact .refl _⟩⟩
  | sl _ b hl hr he => exact ⟨b, rfl, hl, fun i ra rb ha hb => ⟨hr i ra rb ha hb, fun k x y hx hy => he i k ra rb x y ha hb hx hy⟩⟩
theorem WE.app {a a' b b' : List (List E)} (h : WE (.sl a) (.sl a')) (k : WE (.sl b) (.sl b')) : WE (.sl (a ++ b)) (.sl (a' ++ b')) := by
  obtain ⟨_, h0, h1, h2⟩ := h.inv
  injection h0 with h0; subst h0
  obtain ⟨_, k0, k1, k2⟩ := k.inv
  injection k0 with k0; subst k0
  have key : ∀ (i : Nat) (ra rb : List E), (a ++ b)[i]? = some ra → (a' ++ b')[i]? = some rb → ra.length = rb.length ∧ ∀ (k : Nat) (x y : E), ra[k]? = some x → rb[k]? = some y → WE x y := fun i ra rb ha hb => by
    rcases Nat.lt_or_ge i a.length with hi | hi
    · rw [List.getElem?_append_left hi] at ha
      rw [List.getElem?_append_left (by omega)] at hb
      exact h2 i ra rb ha hb
    · rw [List.getElem?_append_right hi] at ha
      rw [List.getElem?_append_right (by omega), ← h1] at hb
      exact k2 _ ra rb ha hb
  exact .sl _ _ (by simp [h1, k1]) (fun i ra rb ha hb => (key i ra rb ha hb).1) fun i k ra rb x y ha hb hx hy => (key i ra rb ha hb).2 k x y hx hy

theorem RepE.weak {w : World} {St : Stab} {e e' : E} (h : WE e e') : ∀ {v : Value}, RepE w St e v → RepE w St e' v := by
  induction h with
  | refl e => exact id
  | nil => intro v h; cases h; exact .sl [] none 0 0 0 0 0 (fun _ _ => undef) rfl (by omega) (by simp) (fun h0 => by omega) (fun i row hi => by simp at hi) (fun i k row e hi => by simp at hi) (fun i k row e hi => by simp at hi)
  | sl a b hl hr he ih =>
    intro v h
    cases h with
    | sl _ A n c sz bb o vals hn hc hm hA hs hv hrr =>
      have row : ∀ (i : Nat) (rb : List E), b[i]? = some rb → ∃ ra, a[i]? = some ra := fun i rb hb => by
        have : i < b.length := (List.getElem?_eq_some_iff.1 hb).1
        exact ⟨_, List.getElem?_eq_getElem (by omega)⟩
      have el : ∀ (i k : Nat) (rb : List E) (y : E), b[i]? = some rb → rb[k]? = some y → ∃ ra x, a[i]? = some ra ∧ ra[k]? = some x := fun i k rb y hb hy => by
        obtain ⟨ra, ha⟩ := row i rb hb
        have h1 := hr i ra rb ha hb
        have : k < rb.length := (List.getElem?_eq_some_iff.1 hy).1
        exact ⟨ra, _, ha, List.getElem?_eq_getElem (by omega)⟩
      refine .sl b A n c sz bb o vals (by omega) hc hm hA (fun i rb hb => ?_) (fun i k rb y hb hy => ?_) (fun i k rb y hb hy => ?_)
      · obtain ⟨ra, ha⟩ := row i rb hb
        rw [← hr i ra rb ha hb]; exact hs i ra ha
      · obtain ⟨ra, x, ha, hx⟩ := el i k rb y hb hy
        exact hv i k ra x ha hx
      · obtain ⟨ra, x, ha, hx⟩ := el i k rb y hb hy
        exact ih i k ra rb x y ha hb hx hy (hrr i k ra x ha hx)

section
variable {w : World} {St : Stab}
theorem RepL.weak {a b : List E} {vs : List Value} (h : WL a b) (k : RepL w St a vs) : RepL w St b vs := by
  refine ⟨by rw [← h.len]; exact k.1, fun i y hy => ?_⟩
  have : i < b.length := (List.getElem?_eq_some_iff.1 hy).1
  have hlt : i < a.length := by have := h.len; omega
  have hx : a[i]? = some a[i] := List.getElem?_eq_getElem hlt
  obtain ⟨u, h1, h2⟩ := k.2 i _ hx
  exact ⟨u, h1, h2.weak (h.at i _ _ hx hy)⟩
theorem RepX.weak {x y : X} {v : Value} (h : WX x y) (k : RepX w St x v) : RepX w St y v := by
  cases y with
  | bot => exact trivial
  | c e' => cases x with
    | c e => exact RepE.weak h k
    | _ => exact h.elim
  | agg b => cases x with
    | agg a => obtain ⟨vs, rfl, k⟩ := k; exact ⟨vs, rfl, k.weak h⟩
    | _ => exact h.elim
theorem WXs.len : ∀ {a b : List X}, WXs a b → a.length = b.length
  | [], [], _ => rfl
  | _ :: _, _ :: _, h => by simp [WXs.len h.2]
theorem WXs.at : ∀ {a b : List X}, WXs a b → ∀ (k : Nat) (x y : X), a[k]? = some x → b[k]? = some y → WX x y
  | _ :: _, _ :: _, h, 0, x, y, hx, hy => by simp at hx hy; subst hx hy; exact h.1
  | _ :: _, _ :: _, h, k + 1, x, y, hx, hy => WXs.at h.2 k x y (by simpa using hx) (by simpa using hy)
  | [], [], _, k, x, y, hx, _ => by simp at hx
theorem RepD.weak {ρ r : Nat → Nat} {d d' : D} {v : Value} (h : WD r d d') (k : RepD w St ρ d v) : RepD w St ρ d' v := by
  cases d' with
  | bot => exact trivial
  | c tk' e' => cases d with
    | c tk e => exact RepE.weak h.2 k
    | _ => exact h.elim
  | agg b => cases d with
    | agg a => obtain ⟨vs, rfl, k⟩ := k; exact ⟨vs, rfl, k.weak h⟩
    | _ => exact h.elim
  | tup b => cases d with
    | tup a =>
      have h : WXs a b := h
      obtain ⟨vs, rfl, h1, h2⟩ := k
      refine ⟨vs, rfl, by rw [← h.len]; exact h1, fun i y hy => ?_⟩
      have : i < b.length := (List.getElem?_eq_some_iff.1 hy).1
      have hlt : i < a.length := by have := h.len; omega
      have hx : a[i]? = some a[i] := List.getElem?_eq_getElem hlt
      obtain ⟨u, h3, h4⟩ := h2 i _ hx
      exact ⟨u, h3, h4.weak (h.at i _ _ hx hy)⟩
    | _ => exact h.elim
  | ptr m p => cases d with
    | ptr n o => obtain ⟨rfl, rfl⟩ := h; exact k
    | _ => exact h.elim
  | ref b => cases d with
    | ref a =>
      have h : WL a b := h
      obtain ⟨g, o, rfl, k⟩ := k
      refine ⟨g, o, rfl, fun i y hy => ?_⟩
      have : i < b.length := (List.getElem?_eq_some_iff.1 hy).1
      have hlt : i < a.length := by have := h.len; omega
      have hx : a[i]? = some a[i] := List.getElem?_eq_getElem hlt
      obtain ⟨u, h1, h2, h3⟩ := k i _ hx
      exact ⟨u, h1, h2, h3.weak (h.at i _ _ hx hy)⟩
    | _ => exact h.elim

theorem Own.weak {P : Program} [Gl P] {B : Nat} {M0 : Nat → Prop} {k : Nat} {e e' : E} {v : Value} (h : WE e e') (o : Own P B M0 w St k e v) : Own P B M0 w St k e' v := by
  rcases o with ⟨h1, h2⟩ | ⟨g, cap, cur, rows, rfl, h2, h3, h4, h5, h6, h7, h8⟩
  · refine .inl ⟨h1, ?_⟩
    rcases h2 with rfl | rfl
    · cases h with
      | refl => exact .inl rfl
      | nil => exact .inr rfl
    · obtain ⟨b, rfl, hl, _⟩ := h.inv
      exact .inr (by rw [List.eq_nil_of_length_eq_zero hl.symm])
  · obtain ⟨b, rfl, hl, _⟩ := h.inv
    exact .inr ⟨g, cap, cur, b, rfl, hl ▸ h2, h3, h4, hl ▸ h5, h6, h7, hl ▸ h8⟩
end

theorem WTs.at {r : Nat → Nat} {S : AS} : ∀ {l : List (Nat × D)}, WTs r S l → ∀ i, WD r (S.get i) ((look l i).getD .bot)
  | [], _, i => by simp only [look, Option.getD_none]; unfold WD; split <;> first | trivial | simp_all
  | (j, d) :: l, h, i => by
    simp only [look]
    by_cases e : i = j
    · subst e; rw [if_pos rfl]; exact h.1
    · rw [if_neg e]; exact WTs.at h.2 i
theorem WBs.at {r : Nat → Nat} {S : AS} : ∀ {l : List (Nat × List Cell)}, WBs r S l → ∀ n cs, look l n = some cs → ∃ ds, S.box n = some ds ∧ WCs r ds cs
  | [], _, n, cs, h => by simp [look] at h
  | (m, cs') :: l, h, n, cs, hl => by
    simp only [look] at hl
    by_cases e : n = m
    · subst e; rw [if_pos rfl] at hl; injection hl with hl; subst hl
      have h1 : WB r (S.box n) cs' := h.1
      cases hb : S.box n with
      | none => rw [hb] at h1; exact h1.elim
      | some ds => rw [hb] at h1; exact ⟨ds, rfl, h1⟩
    · rw [if_neg e] at hl; exact WBs.at h.2 n cs hl
theorem WCs.len {r : Nat → Nat} : ∀ {a b : List Cell}, WCs r a b → a.length = b.length
  | [], [], _ => rfl
  | _ :: _, _ :: _, h => by simp [WCs.len h.2]
theorem WCs.at {r : Nat → Nat} : ∀ {a b : List Cell}, WCs r a b → ∀ (k : Nat) (y : Cell), b[k]? = some y → ∃ x, a[k]? = some x ∧ WC r x y
  | x :: _, _ :: _, h, 0, y, hy => by simp at hy; subst hy; exact ⟨x, rfl, h.1⟩
  | _ :: _, _ :: _, h, k + 1, y, hy => by simpa using WCs.at h.2 k y (by simpa using hy)
  | [], [], _, k, y, hy => by simp at hy

section
variable {P : Program} [Gl P] {w0 : World} {M0 : Nat → Prop} {S0 : Stab} {S T : AS} {tm : Array Value} {w : World} {St : Stab} {ρ : Nat → Nat} {r : Nat → Nat}

theorem RelAt.held_weak (h : RelAt P w0 M0 S0 S tm w St ρ) (hg : ∀ i, WD r (S.get i) (T.get i)) (hbx : ∀ n cs, T.box n = some cs → ∃ ds, S.box n = some ds ∧ WCs r ds cs) {t k : Nat} {e : E} {v : Value} (hh : Held T tm w ρ t k e v) :
    (∃ s e0, Held S tm w ρ s k e0 v ∧ r s = t ∧ WE e0 e) ∨ (v = .slice none 0 0 ∧ (e = .nils ∨ e = .sl [])) := by
  have nilcase : ∀ e0, e0 = E.nils → RepE w St e0 v → WE e0 e → v = .slice none 0 0 ∧ (e = .nils ∨ e = .sl []) := fun e0 h0 hr hwe => by
    subst h0
    cases hr
    refine ⟨rfl, ?_⟩
    cases hwe with
    | refl => exact .inl rfl
    | nil => exact .inr rfl
  rcases hh with ⟨i, hi, hv⟩ | ⟨n, cs, j, hb, hj, hv⟩
  · have hd := hg i
    rw [hi] at hd
    have hrep := h.tmp i
    cases hs : S.get i with
    | c tk e0 =>
      rw [hs] at hd hrep
      obtain ⟨h1, h2⟩ := hd
      cases tk with
      | some q => obtain ⟨s, k'⟩ := q; obtain ⟨rfl, rfl⟩ := h1; exact .inl ⟨s, e0, .inl ⟨i, hs, hv⟩, rfl, h2⟩
      | none =>
        refine .inr ?_
        have hrep : RepE w St e0 (tm.getD i undef) := hrep
        rw [← hv] at hrep
        cases e0 with
        | nils => exact nilcase _ rfl hrep h2
        | _ => exact h1.elim
    | _ => rw [hs] at hd; exact hd.elim
  · obtain ⟨ds, hS, hcs⟩ := hbx n cs hb
    obtain ⟨x, hx, h1, h2⟩ := hcs.at j _ hj
    obtain ⟨tk, e0⟩ := x
    simp only at h1 h2
    cases tk with
    | some q => obtain ⟨s, k'⟩ := q; obtain ⟨rfl, rfl⟩ := h1; exact .inl ⟨s, e0, .inr ⟨n, ds, j, hS, hx, hv⟩, rfl, h2⟩
    | none =>
      refine .inr ?_
      obtain ⟨_, _, arr, t', h3, h4, h5⟩ := h.box n ds hS
      obtain ⟨u, hu, hr⟩ := h5 j _ hx
      have : w.cell? ⟨ρ n, j, none⟩ = some u := by simp [World.cell?, h3, hu]
      rw [hv] at this
      injection this with this
      subst this
      cases e0 with
      | nils => exact nilcase _ rfl hr h2
      | _ => exact h1.elim

theorem RelAt.weakG (h : RelAt P w0 M0 S0 S tm w St ρ) (hg : ∀ i, WD r (S.get i) (T.get i)) (hbx : ∀ n cs, T.box n = some cs → ∃ ds, S.box n = some ds ∧ WCs r ds cs) : RelAt P w0 M0 S0 T tm w St ρ where
  glob := h.glob
  os := h.os
  tape := h.tape
  output := h.output
  size := h.size
  old := h.old
  stay := h.stay
  up := h.up
  dn := h.dn
  lt := h.lt
  tmp i := (h.tmp i).weak (hg i)
  box n cs hb := by
    obtain ⟨ds, hS, hcs⟩ := hbx n cs hb
    obtain ⟨h1, h2, arr, t, h3, h4, h5⟩ := h.box n ds hS
    refine ⟨h1, h2, arr, t, h3, by rw [← hcs.len]; exact h4, fun k c hc => ?_⟩
    obtain ⟨x, hx, hwc⟩ := hcs.at k c hc
    obtain ⟨u, hu, hr⟩ := h5 k x hx
    exact ⟨u, hu, hr.weak hwc.2⟩
  inj n m cs ds hn hm hne := by
    obtain ⟨cs', hn', _⟩ := hbx n cs hn
    obtain ⟨ds', hm', _⟩ := hbx m ds hm
    exact h.inj n m cs' ds' hn' hm' hne
  own t k e v hh := by
    rcases h.held_weak hg hbx hh with ⟨s, e0, h1, _, h3⟩ | h1
    · exact (h.own _ _ _ _ h1).weak h3
    · exact .inl h1
  apart t k e v t' k' e' v' hh hh' hne := by
    rcases h.held_weak hg hbx hh with ⟨s, e0, h1, h2, _⟩ | ⟨rfl, _⟩
    · rcases h.held_weak hg hbx hh' with ⟨s', e0', h1', h2', _⟩ | ⟨rfl, _⟩
      · exact h.apart _ _ _ _ _ _ _ _ h1 h1' (fun e => hne (by rw [← h2, ← h2', e]))
      · cases v.ownBlock with
        | none => exact .inl rfl
        | some b => exact .inr (by simp [Value.ownBlock])
    · exact .inl rfl
  ownbox t k e v n cs hh hb := by
    obtain ⟨cs', hn', _⟩ := hbx n cs hb
    rcases h.held_weak hg hbx hh with ⟨s, e0, h1, _, _⟩ | ⟨rfl, _⟩
    · exact h.ownbox _ _ _ _ n cs' h1 hn'
    · simp [Value.ownBlock]
theorem RelAt.weak (h : RelAt P w0 M0 S0 S tm w St ρ) (hw : WS r S T) : RelAt P w0 M0 S0 T tm w St ρ := h.weakG (fun i => hw.tmps.at i) (fun n cs hb => hw.boxes.at n cs hb)
end


theorem WD.refl (d : D) : WD (fun n => n) d d := by
  cases d with
  | bot => exact trivial
  | c tk e => cases tk with
    | none => exact ⟨trivial, .refl e⟩
    | some q => exact ⟨⟨rfl, rfl⟩, .refl e⟩
  | agg es => exact WL.refl es
  | tup xs =>
    show WXs xs xs
    induction xs with
    | nil => exact trivial
    | cons x xs ih => exact ⟨by cases x with | bot => exact trivial | c e => exact .refl e | agg es => exact WL.refl es, ih⟩
  | ptr n o => exact ⟨rfl, rfl⟩
  | ref es => exact WL.refl es
theorem WCs.refl : ∀ cs : List Cell, WCs (fun n => n) cs cs
  | [] => trivial
  | (tk, e) :: cs => ⟨⟨by cases tk with | none => exact trivial | some q => exact ⟨rfl, rfl⟩, .refl e⟩, WCs.refl cs⟩
/-- Pointwise. -/
theorem RelAt.weakP {P : Program} [Gl P] {w0 : World} {M0 : Nat → Prop} {S0 : Stab} {S : AS} {tm : Array Value} {w : World} {St : Stab} {ρ : Nat → Nat} (h : RelAt P w0 M0 S0 S tm w St ρ) {i : Nat} {d d' : D}
    (hS : S.get i = d) (hd : WD (fun n => n) d d') : RelAt P w0 M0 S0 (S.put i d') tm w St ρ := by
  have h0 : RelAt P w0 M0 S0 ⟨(i, d') :: S.tmps, S.boxes⟩ tm w St ρ := by
    refine RelAt.weakG h (r := fun n => n) (fun j => ?_) (fun n cs hb => ⟨cs, hb, WCs.refl cs⟩)
    simp only [AS.get, look]
    split
    · rename_i e; subst e; rw [Option.getD_some, show (look S.tmps j).getD .bot = d from hS]; exact hd
    · exact WD.refl _
  exact h0.less ⟨fun j => .inr (.inl (by rw [get_put]; simp only [AS.get, look]; split <;> simp_all)), fun n cs hb => ⟨cs, hb, rfl, fun k c hc => ⟨c, hc, rfl, .inl rfl⟩⟩⟩
end Go.Am

/- What a piece of code must show on abstract data. Plain definitions. -/
set_option linter.unusedVariables false
namespace Go.Am

def ptrNames : List D → List Nat
  | [] => []
  | .ptr n _ :: ds => let l := ptrNames ds; if l.contains n then l else n :: l
  | _ :: ds => ptrNames ds
def idx (ns : List Nat) (n : Nat) : Option Nat := ns.idxOf? n
def mapPtr (ns : List Nat) : D → D
  | .ptr n off => match idx ns n with
    | some i => .ptr (EXT + i) off
    | none => .bot
  | d => d
def passBoxes (S : AS) : List Nat → Nat → Option Boxes
  | [], _ => some []
  | n :: ns, i => match S.box n, passBoxes S ns (i + 1) with
    | some cs, some bx => some ((EXT + i, cs) :: bx)
    | _, _ => none
def backBoxes (bx : Boxes) : List Nat → Nat → Boxes → Boxes
  | [], _, b => b
  | n :: ns, i, b => backBoxes bx ns (i + 1) (match look bx (EXT + i) with | some cs => ins n cs b | none => del n b)
def toks : List D → List Nat
  | [] => []
  | .c (some (t, _)) _ :: ds => t :: toks ds
  | _ :: ds => toks ds
def ctoks : List Cell → List Nat
  | [] => []
  | (some (t, _), _) :: cs => t :: ctoks cs
  | _ :: cs => ctoks cs
def btoks : Boxes → List Nat
  | [] => []
  | (_, cs) :: bx => ctoks cs ++ btoks bx
def AS.stripAll (S : AS) : List Nat → AS
  | [] => S
  | t :: ts => (S.strip t).stripAll ts
def AS.stripT (S : AS) : Option (Nat × Nat) → AS
  | some (q, _) => S.strip q
  | none => S
def AS.putO (S : AS) (dst : Option Nat) (d : D) : AS :=
  match dst with
  | some i => S.put i d
  | none => S
def okDst (nt : Nat) (dst : Option Nat) : Bool :=
  match dst with
  | some i => decide (i < nt)
  | none => true

def appendK0 (L : Tab) (nt : Nat) (S : AS) (dst : Option Nat) (t : Nat) (s x : D) (K : AS → Prop) : Prop :=
  match dst, (L.ti t).k, s with
  | some d, .slice e, .c tk es =>
    match es.rows, x.rows?, (match tk, es with | _, .nils => true | some (_, k), _ => k == e | none, _ => false) with
    | some rows, some new, true =>
      d < nt ∧ 0 < (L.ti e).size ∧ (L.ti e).zero.map (·.length) = some (L.ti e).size ∧ (∀ row ∈ rows, row.length = (L.ti e).size) ∧ (∀ row ∈ new, row.length = (L.ti e).size) ∧
      rows.length + new.length ≤ maxLen ∧ (rows.length + new.length) * (L.ti e).bytes ≤ 140737488355328 ∧
      K (((S.stripT tk).strip d).put d (.c (some (d, e)) (.sl (rows ++ new))))
    | _, _, _ => False
  | _, _, _ => False

/-- append; the new rows may be told with less. -/
def appendK (L : Tab) (nt : Nat) (S : AS) (dst : Option Nat) (t : Nat) (s x : D) (K : AS → Prop) : Prop :=
  match dst, (L.ti t).k, s with
  | some d, .slice e, .c tk es =>
    match es.rows, x.rows?, (match tk, es with | _, .nils => true | some (_, k), _ => k == e | none, _ => false) with
    | some rows, some new, true =>
      d < nt ∧ 0 < (L.ti e).size ∧ (L.ti e).zero.map (·.length) = some (L.ti e).size ∧ (∀ row ∈ rows, row.length = (L.ti e).size) ∧ (∀ row ∈ new, row.length = (L.ti e).size) ∧
      rows.length + new.length ≤ maxLen ∧ (rows.length + new.length) * (L.ti e).bytes ≤ 140737488355328 ∧
      ∃ new', WE (.sl new) (.sl new') ∧ K (((S.stripT tk).strip d).put d (.c (some (d, e)) (.sl (rows ++ new'))))
    | _, _, _ => False
  | _, _, _ => False

/-! The state's spine is laid bare at each step (for whoever reckons with it): nothing is said by it. -/
def forceE (e : E) (K : E → Prop) : Prop :=
  match e with
  | .v x => K (.v x)
  | .sl rows => K (.sl rows)
  | .nils => K .nils
  | .ifc b => K (.ifc b)
  | .mp rows => K (.mp rows)
def forceEs : List E → (List E → Prop) → Prop
  | [], K => K []
  | e :: es, K => forceE e fun e => forceEs es fun es => K (e :: es)
def forceD (d : D) (K : D → Prop) : Prop :=
  match d with
  | .bot => K .bot
  | .c none e => forceE e fun e => K (.c none e)
  | .c (some (t, k)) e => forceE e fun e => K (.c (some (t, k)) e)
  | .agg es => forceEs es fun es => K (.agg es)
  | .tup xs => K (.tup xs)
  | .ptr n off => K (.ptr n off)
  | .ref es => forceEs es fun es => K (.ref es)
def forceT : List (Nat × D) → (List (Nat × D) → Prop) → Prop
  | [], K => K []
  | (i, d) :: l, K => forceD d fun d' => forceT l fun l' => K ((i, d') :: l')
def forceCs : List Cell → (List Cell → Prop) → Prop
  | [], K => K []
  | (none, e) :: l, K => forceE e fun e => forceCs l fun l => K ((none, e) :: l)
  | (some (t, k), e) :: l, K => forceE e fun e => forceCs l fun l => K ((some (t, k), e) :: l)
def forceB : Boxes → (Boxes → Prop) → Prop
  | [], K => K []
  | (i, cs) :: l, K => forceCs cs fun cs => forceB l fun l' => K ((i, cs) :: l')
def forceS (S : AS) (K : AS → Prop) : Prop := forceT S.tmps fun t => forceB S.boxes fun b => K ⟨t, b⟩
theorem forceE_eq (e : E) (K : E → Prop) : forceE e K = K e := by cases e <;> rfl
theorem forceEs_eq : ∀ (es : List E) (K : List E → Prop), forceEs es K = K es
  | [], K => rfl
  | e :: es, K => by simp only [forceEs, forceE_eq, forceEs_eq es]
theorem forceD_eq (d : D) (K : D → Prop) : forceD d K = K d := by
  cases d with
  | c tk e => cases tk with
    | none => simp only [forceD, forceE_eq]
    | some q => simp only [forceD, forceE_eq]
  | agg es => simp only [forceD, forceEs_eq]
  | ref es => simp only [forceD, forceEs_eq]
  | _ => rfl
theorem forceT_eq : ∀ (l : List (Nat × D)) (K : List (Nat × D) → Prop), forceT l K = K l
  | [], K => rfl
  | (i, d) :: l, K => by simp only [forceT, forceD_eq, forceT_eq l]
theorem forceCs_eq : ∀ (l : List Cell) (K : List Cell → Prop), forceCs l K = K l
  | [], K => rfl
  | (none, e) :: l, K => by simp only [forceCs, forceE_eq, forceCs_eq l]
  | (some (t, k), e) :: l, K => by simp only [forceCs, forceE_eq, forceCs_eq l]
theorem forceB_eq : ∀ (l : Boxes) (K : Boxes → Prop), forceB l K = K l
  | [], K => rfl
  | (i, d) :: l, K => by simp only [forceB, forceCs_eq, forceB_eq l]
theorem forceS_eq (S : AS) (K : AS → Prop) : forceS S K = K S := by simp only [forceS, forceT_eq, forceB_eq]

def forceL : List D → (List D → Prop) → Prop
  | [], K => K []
  | d :: l, K => forceD d fun d' => forceL l fun l' => K (d' :: l')
theorem forceL_eq : ∀ (l : List D) (K : List D → Prop), forceL l K = K l
  | [], K => rfl
  | d :: l, K => by simp only [forceL, forceD_eq, forceL_eq l]
/-- The state behind a call. -/
def backK (S : AS) (ns ts : List Nat) (dst : Option Nat) (r : D) (bx : Boxes) (K : AS → Prop) : Prop :=
  let F := S.stripAll ts
  K (({ F with boxes := backBoxes bx ns 0 F.boxes } : AS).putO dst (if ns.isEmpty then (match dst with | some d => r.retok d | none => r) else r.plain))
/-- Tokens that stay with the caller: the callee sees the data without them. -/
def plainIf (keep : List Nat) : D → D
  | .c (some (t, k)) e => if keep.contains t then .c none e else .c (some (t, k)) e
  | d => d
/-- A call. -/
def callK (P : Program) [Gl P] (nt : Nat) (S : AS) (dst : Option Nat) (f : Operand) (args : List Operand) (K : AS → Prop) : Prop :=
  match S.ev f with
  | .c _ (.v (.func (.func g) first cap)) => ∃ keep : List Nat,
    forceL ((first.toList.map constD ++ args.map S.ev ++ cap.toList.map constD).map (plainIf keep)) fun ds =>
      match passBoxes S (ptrNames ds) 0 with
      | some bx =>
        okDst nt dst = true ∧ forceL (ds.map (mapPtr (ptrNames ds))) fun ds' => forceB bx fun bx => CallsX P g ds' bx fun r bx' => backK S (ptrNames ds) (toks ds ++ btoks bx) dst r bx' K
      | none => False
  | _ => False

/-- One operation. -/
def stepK (P : Program) [Gl P] (L : Tab) (nt : Nat) (S : AS) (o : Oper) (K : AS → Prop) : Prop :=
  match o.op with
  | .box _ x =>
    match o.dst, (S.ev x).cells with
    | some d, some cs => d < nt ∧ K (((S.kill d).setBox d cs).put d (.ptr d 0))
    | _, _ => False
  | .alloc t =>
    match o.dst, (L.ti t).zero with
    | some d, some z => d < nt ∧ K (((S.kill d).setBox d (z.map fun e => (none, e))).put d (.ptr d 0))
    | _, _ => False
  | .buildSlice t len parts =>
    match o.dst, (L.ti t).k with
    | some d, .slice e =>
      match (L.ti e).zero with
      | some z => d < nt ∧ 0 < (L.ti e).size ∧ z.length = (L.ti e).size ∧ len * (L.ti e).size ≤ 16777216 ∧
          buildK S (fun i => some (i * (L.ti e).size, (L.ti e).size)) parts.toList (repE len z) fun es => ∃ rows', WE (.sl (rowsOf (L.ti e).size len es)) (.sl rows') ∧ K ((S.strip d).put d (.c (some (d, e)) (.sl rows')))
      | none => False
    | _, _ => False
  | .makeSlice t x y =>
    match o.dst, (L.ti t).k, (S.ev x).int?, (S.ev y).int? with
    | some d, .slice e, some n, some c =>
      d < nt ∧ 0 < (L.ti e).size ∧ (L.ti e).zero.map (·.length) = some (L.ti e).size ∧ n = 0 ∧ 0 ≤ c ∧ c ≤ (maxLen : Nat) ∧ ((L.ti e).bytes : Int) * c ≤ 281474976710656 ∧ K ((S.strip d).put d (.c (some (d, e)) (.sl [])))
    | _, _, _, _ => False
  | .store t p x =>
    match S.ev p, (S.ev x).cells with
    | .ptr n off, some new =>
      match S.box n with
      | some cs => o.dst = none ∧ (L.ti t).known = true ∧ new.length = (L.ti t).size ∧ off + new.length ≤ cs.length ∧ K (S.setBox n (spliceC cs off new))
      | none => False
    | _, _ => False
  | .call c =>
    match c.callee, c.args.toList, c.argTypes.toList with
    | .builtin .append, [s, x], [t, u] => t = u ∧ appendK L nt S o.dst t (S.ev s) (S.ev x) K
    | .value f, args, _ => callK P nt S o.dst f args K
    | _, _, _ => okDst nt o.dst = true ∧ opV L S o.op fun d => K (S.putO o.dst d)
  | op => okDst nt o.dst = true ∧ opV L S op fun d => K (S.putO o.dst d)

/-- Operations one after another; the list holds what is left; ops: the region, for guards. -/
def opsK (P : Program) [Gl P] (L : Tab) (nt : Nat) (ops : Array Oper) : List Oper → AS → (AS → Prop) → Prop
  | [], S, K => K S
  | o :: rest, S, K =>
    match o.guard with
    | none => stepK P L nt S o fun S' => forceS S' fun S' => opsK P L nt ops rest S' K
    | some (j, want) =>
      match (ops[j]?).bind (·.dst) with
      | some g =>
        match S.get g with
        | .c tk (.v (.bool b)) =>
          okDst nt o.dst = true ∧
          branchG b want (stepK P L nt (S.put g (.c tk (.v (.bool want)))) o fun S' => forceS S' fun S' => opsK P L nt ops rest S' K)
            (forceS ((S.put g (.c tk (.v (.bool (!want))))).putO o.dst (.tup [])) fun S' => opsK P L nt ops rest S' K)
        | .tup [] => okDst nt o.dst = true ∧ forceS (S.putO o.dst (.tup [])) fun S' => opsK P L nt ops rest S' K
        | _ => False
      | none => False

end Go.Am

/- One operation: what its abstract word says is so of the machine. -/
set_option linter.unusedVariables false
set_option linter.unusedSimpArgs false
namespace Go.Am
open Go.RowKit

section
variable {P : Program} [Gl P] {L : Tab} (hL : TOk P L) {nt : Nat} {w0 : World} {M0 : Nat → Prop} {S0 : Stab} {ρ0 : Nat → Nat}

/-- The relation of a walk. -/
def ARel (P : Program) [Gl P] (nt : Nat) (w0 : World) (M0 : Nat → Prop) (S0 : Stab) (ρ0 : Nat → Nat) (S : AS) (a : Act) (w : World) : Prop :=
  a.defers = [] ∧ a.tmps.size = nt ∧ ∃ St ρ, RelAt P w0 M0 S0 S a.tmps w St ρ ∧ ∀ n, EXT ≤ n → ρ n = ρ0 n

variable {S : AS} {a : Act} {w : World}

theorem put_size (a : Act) (dst : Option Nat) (v : Value) : (a.put dst v).tmps.size = a.tmps.size := by cases dst <;> simp [Act.put]
theorem put_defers' (a : Act) (dst : Option Nat) (v : Value) : (a.put dst v).defers = a.defers := by cases dst <;> rfl

theorem putO_rel (h : ARel P nt w0 M0 S0 ρ0 S a w) {dst : Option Nat} (hd : okDst nt dst = true) {d : D} {v : Value}
    (hv : ∀ St ρ, RelAt P w0 M0 S0 S a.tmps w St ρ → RepD w St ρ d v ∧ ∀ t k e, d = .c (some (t, k)) e → Held S a.tmps w ρ t k e v) : ARel P nt w0 M0 S0 ρ0 (S.putO dst d) (a.put dst v) w := by
  obtain ⟨h1, h2, St, ρ, h3, h4⟩ := h
  refine ⟨by rw [put_defers']; exact h1, by rw [put_size]; exact h2, St, ρ, ?_, h4⟩
  cases dst with
  | none => exact h3
  | some i =>
    have hi : i < nt := of_decide_eq_true hd
    exact h3.put (by omega) (hv St ρ h3).1 (hv St ρ h3).2

theorem bot_rel (h : ARel P nt w0 M0 S0 ρ0 S a w) {dst : Option Nat} (hd : okDst nt dst = true) (v : Value) : ARel P nt w0 M0 S0 ρ0 (S.putO dst .bot) (a.put dst v) w :=
  putO_rel h hd fun _ _ _ => ⟨trivial, fun _ _ _ h => by cases h⟩

theorem skip_rel (h : ARel P nt w0 M0 S0 ρ0 S a w) {dst : Option Nat} (hd : okDst nt dst = true) : ARel P nt w0 M0 S0 ρ0 (S.putO dst (.tup [])) (a.put dst undef) w :=
  putO_rel h hd fun _ _ _ => ⟨⟨[], rfl, rfl, fun k x hk => by simp at hk⟩, fun _ _ _ h => by cases h⟩

include hL in
theorem opV_step {o : Oper} {K : AS → Prop} (hk : okDst nt o.dst = true ∧ opV L S o.op fun d => K (S.putO o.dst d)) (h : ARel P nt w0 M0 S0 ρ0 S a w) {next : Act → World → Prop} {Q : Exit → Act → World → Prop}
    (hn : ∀ S' a' w', K S' → ARel P nt w0 M0 S0 ρ0 S' a' w' → next a' w') : o.wp P a w next Q := by
  obtain ⟨hd, hk⟩ := hk
  obtain ⟨h1, h2, St, ρ, h3, h4⟩ := h
  obtain ⟨d, v, hkd, hr, hrep, htok⟩ := opV_gives hL h3 hk
  unfold Oper.wp
  rw [hr, Oper.upon_value]
  refine hn _ _ _ hkd ⟨by rw [put_defers']; exact h1, by rw [put_size]; exact h2, St, ρ, ?_, h4⟩
  cases hdst : o.dst with
  | none => exact h3
  | some i =>
    rw [hdst] at hd
    have hi : i < nt := of_decide_eq_true hd
    exact h3.put (by rw [h2]; exact hi) hrep htok

theorem cells_rep {St : Stab} {ρ : Nat → Nat} {d : D} {x : Value} {cs : List Cell} (h : RepD w St ρ d x) (hd : d.cells = some cs) :
    x.cells.size = cs.length ∧ (∀ (k : Nat) (c : Cell), cs[k]? = some c → ∃ u, x.cells[k]? = some u ∧ RepE w St c.2 u) ∧
    ∀ (j t k : Nat) (e : E) (u : Value), cs[j]? = some (some (t, k), e) → x.cells[j]? = some u → d = .c (some (t, k)) e ∧ u = x := by
  cases d with
  | c tk e =>
    simp only [D.cells, Option.some.injEq] at hd
    subst hd
    have h : RepE w St e x := h
    have hc : x.cells = #[x] := by have := h.oneCell; cases x <;> first | rfl | (simp [Value.oneCell'] at this)
    rw [hc]
    refine ⟨rfl, fun k c hk => ?_, fun j t k e' u hj hu => ?_⟩
    · cases k with
      | zero => simp only [List.getElem?_cons_zero, Option.some.injEq] at hk; subst hk; exact ⟨x, rfl, h⟩
      | succ k => simp at hk
    · cases j with
      | zero =>
        simp only [List.getElem?_cons_zero, Option.some.injEq, Prod.mk.injEq] at hj
        obtain ⟨rfl, rfl⟩ := hj
        simp at hu
        exact ⟨rfl, hu.symm⟩
      | succ k => simp at hj
  | agg es =>
    simp only [D.cells, Option.some.injEq] at hd
    subst hd
    obtain ⟨vs, rfl, h⟩ := h
    refine ⟨by simp [Value.cells, h.1], fun k c hk => ?_, fun j t k e' u hj hu => ?_⟩
    · rw [List.getElem?_map] at hk
      cases he : es[k]? with
      | none => simp [he] at hk
      | some e =>
        rw [he] at hk
        simp only [Option.map_some, Option.some.injEq] at hk
        subst hk
        obtain ⟨u, hu, hr⟩ := h.2 k e he
        exact ⟨u, by simpa [Value.cells] using hu, hr⟩
    · rw [List.getElem?_map] at hj
      cases he : es[j]? <;> simp [he] at hj
  | _ => simp [D.cells] at hd

theorem held_kill {St : Stab} {ρ : Nat → Nat} {n t k : Nat} {e : E} {x : Operand} (h : S.ev x = .c (some (t, k)) e) : Held (S.kill n) a.tmps w ρ t k e (a.eval x) := by
  cases x with
  | tmp i => exact .inl ⟨i, by rw [get_kill]; simp only [AS.ev] at h; rw [h]; rfl, rfl⟩
  | const v => simp only [AS.ev, constD] at h; split at h <;> first | (split at h <;> cases h) | cases h
  | global g => cases h
  | func f => cases h

theorem newBox_step (h : ARel P nt w0 M0 S0 ρ0 S a w) {d : Nat} {cs : List Cell} {arr : Array Value} (t : TypeId) (hd : d < nt) (hnt : nt ≤ EXT) (hsz : arr.size = cs.length)
    (hr : ∀ St ρ, RelAt P w0 M0 S0 S a.tmps w St ρ → ∀ (k : Nat) (c : Cell), cs[k]? = some c → ∃ u, arr[k]? = some u ∧ RepE w St c.2 u)
    (htok : ∀ St ρ, RelAt P w0 M0 S0 S a.tmps w St ρ → ∀ (j t k : Nat) (e : E) (u : Value), cs[j]? = some (some (t, k), e) → arr[j]? = some u → Held (S.kill d) a.tmps w ρ t k e u) :
    ARel P nt w0 M0 S0 ρ0 (((S.kill d).setBox d cs).put d (.ptr d 0)) (a.put (some d) (.pointer (some ⟨w.heap.size, 0, none⟩))) (w.alloc (.cells arr t)) := by
  obtain ⟨h1, h2, St, ρ, h3, h4⟩ := h
  exact ⟨h1, by rw [put_size]; exact h2, St, _, h3.newBox t (by omega) hsz (hr St ρ h3) (htok St ρ h3), fun n hn => by simp only [if_neg (show ¬ n = d by omega)]; exact h4 n hn⟩

theorem run_storeCells_box (g : Nat) (t : TypeId) (vs : List Value) (off : Nat) (arr : Array Value) (w : World) (hg : w.heap[g]? = some (.cells arr t (0, 0))) (hb : off + vs.length ≤ arr.size) (h1 : ∀ v ∈ vs, v.oneCell' = true) :
    ∃ w', (storeCells ⟨g, off, none⟩ vs).run P w = .ok () w' ∧ w'.heap[g]? = some (.cells (setCells arr off vs) t (0, 0)) ∧ w'.os = w.os ∧ w'.tape = w.tape ∧ w'.output = w.output ∧ w'.heap.size = w.heap.size ∧ ∀ b, b ≠ g → w'.heap[b]? = w.heap[b]? := by
  have _gl : Gl P := inferInstance
  have := run_storeCells_at P g off t vs 0 arr w hg (by simpa using hb) h1
  simp only [Nat.add_zero] at this
  refine ⟨_, this, setRow_heap w g arr _ t _ hg, rfl, rfl, rfl, by simp, fun b hb => setRow_other w g b _ hb⟩

include hL in
theorem store_step (h : ARel P nt w0 M0 S0 ρ0 S a w) {o : Oper} {t : Nat} {p x : Operand} {n off : Nat} {cs new : List Cell} (ho : o.op = .store t p x) (hp : S.ev p = .ptr n off) (hx : (S.ev x).cells = some new)
    (hn : S.box n = some cs) (hdst : o.dst = none) (hkn : (L.ti t).known = true) (hsz : new.length = (L.ti t).size) (hb : off + new.length ≤ cs.length) {next : Act → World → Prop} {Q : Exit → Act → World → Prop}
    (hnext : ∀ a' w', ARel P nt w0 M0 S0 ρ0 (S.setBox n (spliceC cs off new)) a' w' → next a' w') : o.wp P a w next Q := by
  obtain ⟨h1, h2, St, ρ, h3, h4⟩ := h
  obtain ⟨d, ti, ht⟩ := hL.ty (t := t) (.inl hkn)
  obtain ⟨hge, hSt, arr, el, hblk, has, hr⟩ := h3.box n cs hn
  have hp' : a.eval p = .pointer (some ⟨ρ n, off, none⟩) := by have := ev_rep h3 p; rw [hp] at this; exact this
  have hx' := ev_rep h3 x
  obtain ⟨hc1, hc2, hc3⟩ := cells_rep hx' hx
  have hone : ∀ v ∈ (a.eval x).cells.toList, v.oneCell' = true := fun v hv => by
    obtain ⟨k, hk⟩ := List.getElem?_of_mem hv
    have hk' : (a.eval x).cells[k]? = some v := by rw [← Array.getElem?_toList]; exact hk
    have hlt : k < new.length := by
      rcases Nat.lt_or_ge k (a.eval x).cells.size with h' | h'
      · omega
      · simp [Array.getElem?_eq_none h'] at hk'
    obtain ⟨u, hu, hru⟩ := hc2 k new[k] (by simp [hlt])
    rw [hk'] at hu
    injection hu with hu
    subst hu
    exact hru.oneCell
  obtain ⟨w', hw1, hw2, hw3, hw4, hw5, hw6, hw7⟩ := run_storeCells_box (P := P) (ρ n) el (a.eval x).cells.toList off arr w hblk (by simp; omega) hone
  have hrun : (execOp a.eval o).run P w = .ok .skip w' := by
    simp only [execOp, ho, Instr.storeAt, Instr.sureAddr, hp', storeVar, Sem.run_bind, Sem.run_pure, Result.andThen_ok, run_sizeOf' ht, Sem.run_ite]
    rw [if_neg (by rw [hc1, hsz]; simp)]
    simp only [Sem.run_bind, Sem.run_pure, Result.andThen_ok, hw1]
  unfold Oper.wp
  rw [hrun, Oper.upon_skip, hdst]
  refine hnext _ _ ⟨h1, h2, St, ρ, ?_, h4⟩
  refine h3.storeBox hn hblk hb (by simp [hc1]) hw2 hw3 hw4 hw5 hw6 hw7 (fun k c hk => ?_) (fun j t' k e u hj hu => ?_)
  · obtain ⟨u, hu, hru⟩ := hc2 k c hk
    exact ⟨u, by rw [Array.getElem?_toList]; exact hu, hru⟩
  · obtain ⟨h5, h6⟩ := hc3 j t' k e u hj (by rw [← Array.getElem?_toList]; exact hu)
    rw [h6]; exact ev_held x h5
end
end Go.Am

/- New rows: a slice literal, append. -/
set_option linter.unusedVariables false
set_option linter.unusedSimpArgs false
namespace Go.Am
open Go.RowKit

section
variable {P : Program} [Gl P] {w0 : World} {M0 : Nat → Prop} {S0 : Stab} {F : AS} {tm : Array Value} {w : World} {St : Stab} {ρ : Nat → Nat}

theorem RelAt.putOwn (h : RelAt P w0 M0 S0 F tm w St ρ) {d k : Nat} {e : E} {v : Value} (hd : d < tm.size) (hr : RepE w St e v) (ho : Own P w0.heap.size M0 w St k e v) (hno : ∀ k' e' v', ¬ Held F tm w ρ d k' e' v')
    (hap : ∀ t k' e' v', Held F tm w ρ t k' e' v' → ∀ b, v'.ownBlock = some b → v.ownBlock ≠ some b) (hbx : ∀ n cs, F.box n = some cs → v.ownBlock ≠ some (ρ n)) :
    RelAt P w0 M0 S0 (F.put d (.c (some (d, k)) e)) (tm.setIfInBounds d v) w St ρ := by
  have hp := h.put (d := .c none e) hd hr (fun _ _ _ he => by cases he)
  have hheld : ∀ {t k' : Nat} {e' : E} {u : Value}, Held (F.put d (.c (some (d, k)) e)) (tm.setIfInBounds d v) w ρ t k' e' u → Held F tm w ρ t k' e' u ∨ (t = d ∧ k' = k ∧ e' = e ∧ u = v) := fun hh => by
    rcases hh with ⟨i, hi, hv⟩ | ⟨n, cs, j, hb', hj, hv⟩
    · rw [get_put] at hi
      rw [getD_set _ _ _ _ hd] at hv
      by_cases he : i = d
      · rw [if_pos he] at hi hv
        injection hi with hi1 hi2
        injection hi1 with hi1
        injection hi1 with hi1 hi3
        exact .inr ⟨hi1.symm, hi3.symm, hi2.symm, hv⟩
      · rw [if_neg he] at hi hv; exact .inl (.inl ⟨i, hi, hv⟩)
    · exact .inl (.inr ⟨n, cs, j, hb', hj, hv⟩)
  have ap2 : ∀ {u u' : Value}, (∀ b, u.ownBlock = some b → u'.ownBlock ≠ some b) → u.ownBlock = none ∨ u.ownBlock ≠ u'.ownBlock := fun {u u'} hh => by
    cases hu : u.ownBlock with
    | none => exact .inl rfl
    | some b => exact .inr fun he => hh b hu he.symm
  exact { hp with
    tmp := fun j => by
      rw [get_put, getD_set _ _ _ _ hd]
      split
      · exact hr
      · exact h.tmp j
    own := fun t k' e' u hh => by
      rcases hheld hh with h1 | ⟨rfl, rfl, rfl, rfl⟩
      · exact h.own _ _ _ _ h1
      · exact ho
    apart := fun t k1 e1 u t' k2 e2 u' hh hh' hne => by
      rcases hheld hh with h1 | ⟨rfl, rfl, rfl, rfl⟩
      · rcases hheld hh' with h2 | ⟨rfl, rfl, rfl, rfl⟩
        · exact h.apart _ _ _ _ _ _ _ _ h1 h2 hne
        · exact ap2 fun b hb1 => hap _ _ _ _ h1 b hb1
      · rcases hheld hh' with h2 | ⟨rfl, rfl, rfl, rfl⟩
        · exact ap2 fun b hb1 hb2 => hap _ _ _ _ h2 b hb2 hb1
        · exact absurd rfl hne
    ownbox := fun t k1 e1 u n cs hh hn => by
      rcases hheld hh with h1 | ⟨rfl, rfl, rfl, rfl⟩
      · exact h.ownbox _ _ _ _ n cs h1 hn
      · exact hbx n cs hn }

/-- Of the world a row (of block g) has been written behind what is stable, or blocks have been added: the empty state's relation. -/
theorem empty_rel {w' : World} {St' : Stab} (M1 : Nat → Prop) (hG : Globs P w St) (hlt : ∀ b o, St' b o → b < w'.heap.size) (hos : w'.os = w.os) (htape : w'.tape = w.tape) (hout : w'.output = w.output) (hsz : w.heap.size ≤ w'.heap.size)
    (hb : ∀ b, b < w.heap.size → ¬ M1 b → w'.heap[b]? = w.heap[b]?) (hl : Later w w' St St') (hdn : ∀ b o, St' b o → b < w.heap.size → St b o ∨ M1 b) : RelAt P w M1 St ⟨[], []⟩ #[] w' St' ρ where
  glob := hG
  os := hos
  tape := htape
  output := hout
  size := hsz
  old := hb
  stay := hl.2
  up := hl.1
  dn := hdn
  lt := hlt
  tmp i := trivial
  box n cs h := by cases h
  inj n m cs ds h := by cases h
  own t k e v h := by rcases h with ⟨i, hi, _⟩ | ⟨n, cs, j, hb, _⟩; cases hi; cases hb
  apart t k e v t' k' e' v' h := by rcases h with ⟨i, hi, _⟩ | ⟨n, cs, j, hb, _⟩; cases hi; cases hb
  ownbox t k e v n cs h hn := by cases hn

/-- A row in a block of its own, all known. -/
theorem rep_row {w : World} {St : Stab} {g n cap size : Nat} {cur : Array Value} {k : TypeId} {fr : Nat × Nat} {rows : List (List E)} (hg : w.heap[g]? = some (.cells cur k fr)) (hn : rows.length = n) (hc : n ≤ cap) (hm : cap ≤ maxLen)
    (hrow : ∀ (i : Nat) (row : List E), rows[i]? = some row → row.length = size) (hst : ∀ o, o < n * size → St g o)
    (hr : ∀ (i j : Nat) (row : List E) (e : E), rows[i]? = some row → row[j]? = some e → ∃ u, cur[i * size + j]? = some u ∧ RepE w St e u) : RepE w St (.sl rows) (.slice (some ⟨g, 0, none⟩) n cap) := by
  refine .sl rows _ n cap size g 0 (fun i j => cur.getD (i * size + j) undef) hn hc hm (fun _ => rfl) hrow (fun i j row e hi hj => ?_) (fun i j row e hi hj => ?_)
  · obtain ⟨u, hu, _⟩ := hr i j row e hi hj
    have hlt : i < n := by
      rcases Nat.lt_or_ge i rows.length with h' | h'
      · omega
      · simp [List.getElem?_eq_none h'] at hi
    have hjl : j < size := by
      rw [← hrow i row hi]
      rcases Nat.lt_or_ge j row.length with h' | h'
      · exact h'
      · simp [List.getElem?_eq_none h'] at hj
    refine ⟨hst _ ?_, ?_⟩
    · have : (i + 1) * size ≤ n * size := Nat.mul_le_mul_right _ hlt
      rw [Nat.add_mul] at this; omega
    · simp only [World.cell?, hg, Option.isSome_none, Bool.false_eq_true, if_false, Nat.zero_add, Array.getD_eq_getD_getElem?, hu, Option.getD_some]
  · obtain ⟨u, hu, hru⟩ := hr i j row e hi hj
    simp only [Array.getD_eq_getD_getElem?, hu, Option.getD_some]
    exact hru

/-- The cells of the rows' values, where a slice of them is read. -/
theorem news_of {w : World} {St : Stab} {rows : List (List E)} {A : Option Addr} {n c size : Nat} (h : RepE w St (.sl rows) (.slice A n c)) (hrow : ∀ row ∈ rows, row.length = size) (hs : 0 < size) (h0 : 0 < n) :
    ∃ b o, A = some ⟨b, o, none⟩ ∧ ∃ news : List Value, news.length = n * size ∧ (∀ (j : Nat) (u : Value), news[j]? = some u → w.cell? ((⟨b, o, none⟩ : Addr).add j) = some u) ∧ (∀ u ∈ news, u.oneCell' = true) ∧
      ∀ (i k : Nat) (row : List E) (e : E), rows[i]? = some row → row[k]? = some e → ∃ u, news[i * size + k]? = some u ∧ RepE w St e u := by
  cases h with
  | sl _ _ _ _ sz b o vals hn hc hm hA hs' hv hr =>
    have hsz : sz = size := by
      have h1 : rows[0]? = some rows[0] := by simp
      rw [← hs' 0 _ h1]; exact hrow _ (by simp)
    subst hsz
    have key : ∀ j, j < n * sz → ∃ row e, rows[j / sz]? = some row ∧ row[j % sz]? = some e := fun j hj => by
      have hi : j / sz < rows.length := by rw [hn]; exact (Nat.div_lt_iff_lt_mul hs).2 hj
      have hl := hs' (j / sz) rows[j / sz] (by simp [hi])
      exact ⟨rows[j / sz], rows[j / sz][j % sz]'(by rw [hl]; exact Nat.mod_lt _ hs), by simp [hi], by simp [hl, Nat.mod_lt _ hs]⟩
    refine ⟨b, o, hA h0, (List.range (n * sz)).map fun j => vals (j / sz) (j % sz), by simp, fun j u hj => ?_, fun u hu => ?_, fun i k row e hi hk => ?_⟩
    · rw [List.getElem?_map] at hj
      have hlt : j < n * sz := by
        rcases Nat.lt_or_ge j (n * sz) with h' | h'
        · exact h'
        · rw [List.getElem?_eq_none (by simpa using h')] at hj; cases hj
      rw [List.getElem?_range hlt] at hj
      simp only [Option.map_some, Option.some.injEq] at hj
      subst hj
      obtain ⟨row, e, h1, h2⟩ := key j hlt
      have := (hv _ _ row e h1 h2).2
      rw [add_none]
      rw [show o + j / sz * sz + j % sz = o + j by rw [Nat.add_assoc, Nat.div_add_mod']] at this
      exact this
    · obtain ⟨j, hj, rfl⟩ := List.mem_map.1 hu
      obtain ⟨row, e, h1, h2⟩ := key j (List.mem_range.1 hj)
      exact (hr _ _ row e h1 h2).oneCell
    · have hi' : i < n := by
        rcases Nat.lt_or_ge i rows.length with h' | h'
        · omega
        · simp [List.getElem?_eq_none h'] at hi
      have hk' : k < sz := by
        rw [← hs' i row hi]
        rcases Nat.lt_or_ge k row.length with h' | h'
        · exact h'
        · simp [List.getElem?_eq_none h'] at hk
      have hlt : i * sz + k < n * sz := by
        have : (i + 1) * sz ≤ n * sz := Nat.mul_le_mul_right _ hi'
        rw [Nat.add_mul] at this; omega
      refine ⟨vals i k, ?_, hr i k row e hi hk⟩
      rw [List.getElem?_map, List.getElem?_range hlt]
      simp only [Option.map_some]
      rw [Nat.mul_comm i sz, Nat.mul_add_div hs, Nat.div_eq_of_lt hk', Nat.mul_add_mod, Nat.mod_eq_of_lt hk', Nat.add_zero]

variable {L : Tab} (hL : TOk P L) {nt : Nat} {ρ0 : Nat → Nat} {S : AS} {a : Act}

/-- What append leaves, as a row: the end that its ways have in common. -/
theorem append_end {w w' : World} {St : Stab} {ρ : Nat → Nat} {d k size g cap : Nat} {cur : Array Value} {rows : List (List E)} (M1 : Nat → Prop) (h : RelAt P w0 M0 S0 F tm w St ρ) (hd : d < tm.size)
    (hno : ∀ k' e' v', ¬ Held F tm w ρ d k' e' v') (hg : w'.heap[g]? = some (.cells cur k (0, 0))) (hsize : P.cellsOf k = size) (hcap : rows.length ≤ cap) (hm : cap ≤ maxLen) (hcs : cur.size = cap * size)
    (hrow : ∀ (i : Nat) (row : List E), rows[i]? = some row → row.length = size) (hM1 : ∀ b, M1 b → b = g ∧ b < w.heap.size ∧ (w0.heap.size ≤ b ∨ M0 b)) (hgM : w.heap.size ≤ g ∨ M1 g)
    (hos : w'.os = w.os) (htape : w'.tape = w.tape) (hout : w'.output = w.output) (hsz : w.heap.size ≤ w'.heap.size) (hb : ∀ b, b < w.heap.size → ¬ M1 b → w'.heap[b]? = w.heap[b]?)
    (hstay : ∀ o, St g o → o < rows.length * size ∧ w'.cell? ⟨g, o, none⟩ = w.cell? ⟨g, o, none⟩) (hheld : ∀ t k e v, Held F tm w ρ t k e v → v.ownBlock ≠ some g) (hbox : ∀ m cs, F.box m = some cs → ρ m ≠ g)
    (hr : ∀ (i j : Nat) (row : List E) (e : E), rows[i]? = some row → row[j]? = some e → ∃ u, cur[i * size + j]? = some u ∧ RepE w St e u) :
    ∃ St', RelAt P w0 M0 S0 (F.put d (.c (some (d, k)) (.sl rows))) (tm.setIfInBounds d (.slice (some ⟨g, 0, none⟩) rows.length cap)) w' St' ρ := by
  let St' : Stab := fun b o => St b o ∨ (b = g ∧ o < rows.length * size)
  have hl : Later w w' St St' := ⟨fun _ _ hs => .inl hs, fun b o hs => by
    by_cases he : b = g
    · subst he; exact (hstay o hs).2
    · have hlt := h.lt b o hs
      exact World.cell?_of_block (a := ⟨b, o, none⟩) (hb b hlt (fun hm => he (hM1 b hm).1))⟩
  have c : RelAt P w M1 St ⟨[], []⟩ #[] w' St' ρ := empty_rel M1 (h.glob.later h.up h.stay) (fun b o hs => by
      rcases hs with hs | ⟨rfl, _⟩
      · exact Nat.lt_of_lt_of_le (h.lt b o hs) hsz
      · exact block_lt hg) hos htape hout hsz hb hl (fun b o hs hlt => by
      rcases hs with hs | ⟨rfl, _⟩
      · exact .inl hs
      · rcases hgM with h1 | h1
        · omega
        · exact .inr h1)
  have hF := h.frame c (fun b hm => (hM1 b hm).2) (fun t k e v hh b hb1 hm => hheld t k e v hh (by rw [hb1, (hM1 b hm).1])) (fun m cs hm1 hm2 => hbox m cs hm1 (hM1 _ hm2).1)
  have hback : ∀ {t k : Nat} {e : E} {v : Value}, Held F tm w' ρ t k e v → Held F tm w ρ t k e v := fun hh => held_world (fun m cs hm => by
    obtain ⟨_, _, arr, t', h3, _⟩ := h.box m cs hm
    exact hb _ (block_lt h3) (fun hm1 => hbox m cs hm (hM1 _ hm1).1)) hh
  have hrep : RepE w' St' (.sl rows) (.slice (some ⟨g, 0, none⟩) rows.length cap) :=
    rep_row hg rfl hcap hm hrow (fun o ho => .inr ⟨rfl, ho⟩) (fun i j row e hi hj => let ⟨u, hu, hru⟩ := hr i j row e hi hj; ⟨u, hu, hru.later hl⟩)
  refine ⟨St', hF.putOwn hd hrep (.inr ⟨g, cap, cur, rows, rfl, rfl, ?_, hg, hcap, hm, by rw [hcs, hsize], fun o hs => ?_⟩) (fun k' e' v' hh => hno k' e' v' (hback hh)) (fun t k' e' v' hh b hb1 hb2 => ?_) (fun n cs hn hb2 => ?_)⟩
  · rcases hgM with h1 | h1
    · exact .inl (Nat.le_trans h.size h1)
    · exact (hM1 g h1).2.2
  · rw [hsize]
    rcases hs with hs | ⟨_, hs⟩
    · exact (hstay o hs).1
    · exact hs
  · simp only [Value.ownBlock, Option.some.injEq] at hb2
    subst hb2
    exact hheld t k' e' v' (hback hh) hb1
  · simp only [Value.ownBlock, Option.some.injEq] at hb2
    exact hbox n cs hn hb2.symm

end
end Go.Am

/- append and slice literals, at the operation. -/
set_option linter.unusedVariables false
set_option linter.unusedSimpArgs false
namespace Go.Am
open Go.RowKit

section
variable {P : Program} [Gl P] {w0 : World} {M0 : Nat → Prop} {S0 : Stab} {L : Tab} (hL : TOk P L) {nt : Nat} {ρ0 : Nat → Nat} {S : AS} {a : Act} {w : World}

theorem row_of_mem {rows : List (List E)} {size : Nat} (h : ∀ row ∈ rows, row.length = size) : ∀ (i : Nat) (row : List E), rows[i]? = some row → row.length = size := fun i row hi => h row (List.mem_of_getElem? hi)

theorem cells_at {xs : List Value} {n size : Nat} {rows : List (List E)} {w : World} {St : Stab} {v : Value} (hv : RepE w St (.sl rows) v) {g cap : Nat} (hvv : v = .slice (some ⟨g, 0, none⟩) rows.length cap) {cur : Array Value} {k : TypeId} {fr : Nat × Nat}
    (hg : w.heap[g]? = some (.cells cur k fr)) (hrow : ∀ row ∈ rows, row.length = size) :
    ∀ (i j : Nat) (row : List E) (e : E), rows[i]? = some row → row[j]? = some e → ∃ u, cur[i * size + j]? = some u ∧ RepE w St e u := by
  intro i j row e hi hj
  subst hvv
  cases hv with
  | sl _ _ _ _ sz b o vals hn hc hm hA hs hvs hr =>
    have hlen : 0 < rows.length := by
      rcases Nat.lt_or_ge i rows.length with h' | h'
      · omega
      · simp [List.getElem?_eq_none h'] at hi
    have hb := hA hlen
    injection hb with hb
    injection hb with hb1 hb2
    subst hb1 hb2
    have h1 := (hvs i j row e hi hj).2
    have hsz : sz = size := by rw [← hs i row hi]; exact hrow row (List.mem_of_getElem? hi)
    subst hsz
    simp only [World.cell?, hg, Option.isSome_none, Bool.false_eq_true, if_false, Nat.zero_add] at h1
    exact ⟨_, h1, hr i j row e hi hj⟩

include hL in
theorem append_step0 (h : ARel P nt w0 M0 S0 ρ0 S a w) {o : Oper} {t : Nat} {s x : Operand} (ho : o.op = .call { callee := .builtin .append, args := #[s, x], argTypes := #[t, t] }) {K : AS → Prop}
    (hk : appendK0 L nt S o.dst t (S.ev s) (S.ev x) K) {next : Act → World → Prop} {Q : Exit → Act → World → Prop} (hn : ∀ S' a' w', K S' → ARel P nt w0 M0 S0 ρ0 S' a' w' → next a' w') : o.wp P a w next Q := by
  obtain ⟨hdef, hsize, St, ρ, h3, h4⟩ := h
  unfold appendK0 at hk
  split at hk
  case h_2 => exact hk.elim
  rename_i dst tyk sd d e tk es hdst hty hse
  split at hk
  case h_2 => exact hk.elim
  rename_i rows new hes hnew htk
  obtain ⟨hd, hsz0, hz, hrow, hnrow, hmax, hby, hK⟩ := hk
  have hd : d < nt := hd
  obtain ⟨dd, ti, ht⟩ := hL.ty (t := t) (.inl (known_of hty (by simp)))
  obtain rfl := tk_slice (ht.k.symm.trans hty)
  obtain ⟨d2, ti2, ht2⟩ := hL.ty (t := e) (.inr (by omega))
  obtain ⟨z, hz1, hz2⟩ := Option.map_eq_some_iff.1 hz
  obtain ⟨u, hu, _, rfl⟩ := ht2.zero z hz1
  have hzs : u.cells.size = (L.ti e).size := by simpa using hz2
  have hcells : P.cellsOf e = (L.ti e).size := by unfold Program.cellsOf; rw [ht2.info]; exact ht2.size.symm
  -- the operands
  have hs := ev_rep h3 s
  rw [hse] at hs
  have hs : RepE w St es (a.eval s) := hs
  have hxr := ev_rep h3 x
  -- the machine's word
  have hrun : ∀ {v' w'}, (Builtin.append_ #[t, t] o.type #[a.eval s, a.eval x]).run P w = .ok v' w' → (execOp a.eval o).run P w = .ok (.value v') w' := fun {v' w'} hr => by
    simp only [execOp, ho, resolve, invoke, builtin, Sem.run_bind, Sem.run_pure, Result.andThen_ok, List.map_toArray, List.map_cons, List.map_nil, hr]
  have hF0 : Less S (S.stripT tk) := by
    unfold AS.stripT
    split
    · exact Less.strip S _
    · exact Less.refl S
  have hF1 : RelAt P w0 M0 S0 ((S.stripT tk).strip d) a.tmps w St ρ := (h3.less hF0).less (Less.strip _ d)
  have hno : ∀ k' e' v', ¬ Held ((S.stripT tk).strip d) a.tmps w ρ d k' e' v' := fun k' e' v' hh => held_strip hh rfl
  -- the old row
  have hold : (a.eval s = .slice none 0 0 ∧ rows = []) ∨ ∃ g cap cur, a.eval s = .slice (some ⟨g, 0, none⟩) rows.length cap ∧ es = .sl rows ∧ (w0.heap.size ≤ g ∨ M0 g) ∧ w.heap[g]? = some (.cells cur e (0, 0)) ∧
      rows.length ≤ cap ∧ cap ≤ maxLen ∧ cur.size = cap * (L.ti e).size ∧ (∀ o, St g o → o < rows.length * (L.ti e).size) ∧
      (∀ t k e v, Held ((S.stripT tk).strip d) a.tmps w ρ t k e v → v.ownBlock ≠ some g) ∧ (∀ m cs, ((S.stripT tk).strip d).box m = some cs → ρ m ≠ g) := by
    cases es with
    | v y => simp [E.rows] at hes
    | ifc b => simp [E.rows] at hes
    | mp r => simp [E.rows] at hes
    | nils =>
      simp only [E.rows, Option.some.injEq] at hes
      subst hes
      generalize a.eval s = y at hs
      cases hs
      exact .inl ⟨rfl, rfl⟩
    | sl rows' =>
      simp only [E.rows, Option.some.injEq] at hes
      subst hes
      cases tk with
      | none => simp at htk
      | some qk =>
        obtain ⟨q, k⟩ := qk
        simp only [beq_iff_eq] at htk
        subst htk
        have hheld := ev_held (w := w) (ρ := ρ) (a := a) s hse
        rcases h3.own q k _ _ hheld with ⟨h5, h6⟩ | ⟨g, cap, cur, rows2, h5, h6, h7, h8, h9, h10, h11, h12⟩
        · refine .inl ⟨h5, ?_⟩
          rcases h6 with h6 | h6
          · cases h6
          · injection h6
        · injection h5 with h5
          subst h5
          refine .inr ⟨g, cap, cur, h6, rfl, h7, h8, h9, h10, by rw [h11, hcells], fun o hs => by rw [← hcells]; exact h12 o hs, fun t k e v hh hb => ?_, fun m cs hm he => ?_⟩
          · have h13 : Held (S.stripT (some (q, k))) a.tmps w ρ t k e v := hh.less (Less.strip (S.stripT (some (q, k))) d)
            have hne : t ≠ q := held_strip h13
            have h14 : Held S a.tmps w ρ t k e v := h13.less hF0
            have := h3.apart _ _ _ _ _ _ _ _ hheld h14 (fun e => hne e.symm)
            rw [h6, hb] at this
            simp [Value.ownBlock] at this
          · obtain ⟨ds0, hds0, _⟩ := (Less.strip (S.stripT (some (q, k))) d).box m cs hm
            obtain ⟨ds, hds, _⟩ := hF0.box m ds0 hds0
            have := h3.ownbox _ _ _ _ m ds hheld hds
            rw [h6] at this
            exact this (by simp [Value.ownBlock, he])
  -- what is appended
  by_cases hm0 : new = []
  · -- nothing
    subst hm0
    have hx0 : ∃ A c, a.eval x = .slice A 0 c := by
      obtain ⟨A, m, c, hx, hm, _⟩ := rep_rows hxr hnew
      exact ⟨A, c, by rw [hx]; simp at hm; rw [← hm]⟩
    obtain ⟨A, c, hx⟩ := hx0
    have hr0 : (Builtin.append_ #[t, t] o.type #[a.eval s, a.eval x]).run P w = .ok (a.eval s) w := by
      rcases hold with ⟨hsv, _⟩ | ⟨g, cap, cur, hsv, _, _, hg, hc, _⟩
      · rw [hsv, hx]
        cases A <;> simp [Builtin.append_, run_underlying ht.und, run_sizeOf' ht2, Builtin.lenOf, Builtin.firstCells, loadCells, loadCellsFrom]
      · rw [hsv, hx]
        cases A <;> simp [Builtin.append_, run_underlying ht.und, run_sizeOf' ht2, Builtin.lenOf, Builtin.firstCells, loadCells, loadCellsFrom, hc, storeCells]
    unfold Oper.wp
    rw [hrun hr0, Oper.upon_value, hdst]
    refine hn _ _ _ hK ⟨hdef, by rw [put_size]; exact hsize, St, ρ, ?_, h4⟩
    rw [List.append_nil]
    refine hF1.putOwn (by rw [hsize]; exact hd) ?_ ?_ hno ?_ ?_
    · rcases hold with ⟨hsv, hr⟩ | ⟨g, cap, cur, hsv, he, _⟩
      · rw [hsv, hr]; exact .sl [] none 0 0 0 0 0 (fun _ _ => undef) rfl (Nat.le_refl _) (by unfold maxLen; omega) (fun h => absurd h (by omega)) (fun i row h => by simp at h) (fun i k row e h => by simp at h) (fun i k row e h => by simp at h)
      · rw [← he]; exact hs
    · rcases hold with ⟨hsv, hr⟩ | ⟨g, cap, cur, hsv, he, h5, h6, h7, h8, h9, h10, _⟩
      · exact .inl ⟨hsv, .inr (by rw [hr])⟩
      · exact .inr ⟨g, cap, cur, rows, rfl, hsv, h5, h6, h7, h8, by rw [h9, hcells], fun o hs => by rw [hcells]; exact h10 o hs⟩
    · intro t' k' e' v' hh b hb1 hb2
      rcases hold with ⟨hsv, hr⟩ | ⟨g, cap, cur, hsv, _, _, _, _, _, _, _, h11, _⟩
      · rw [hsv] at hb2; cases hb2
      · rw [hsv] at hb2; injection hb2 with hb2; exact h11 _ _ _ _ hh (by rw [hb1, ← hb2])
    · intro m cs hm hb2
      rcases hold with ⟨hsv, hr⟩ | ⟨g, cap, cur, hsv, _, _, _, _, _, _, _, _, h12⟩
      · rw [hsv] at hb2; cases hb2
      · rw [hsv] at hb2; injection hb2 with hb2; exact h12 m cs hm hb2.symm
  · have hm1 : 0 < new.length := List.length_pos_iff.2 hm0
    have hnewrep : RepE w St (.sl new) (a.eval x) := by
      cases hx : S.ev x with
      | c tk' e' =>
        rw [hx] at hnew hxr
        cases e' with
        | sl r => simp only [D.rows?, Option.some.injEq] at hnew; subst hnew; exact hxr
        | nils => simp only [D.rows?, Option.some.injEq] at hnew; exact absurd hnew.symm hm0
        | v y => simp [D.rows?] at hnew
        | ifc b => simp [D.rows?] at hnew
        | mp r => simp [D.rows?] at hnew
      | _ => rw [hx] at hnew; simp [D.rows?] at hnew
    obtain ⟨A, c, hx⟩ : ∃ A c, a.eval x = .slice A new.length c := by
      obtain ⟨A, m, c, hx, hm, _⟩ := rep_rows hxr hnew
      exact ⟨A, c, by rw [hx, hm]⟩
    rw [hx] at hnewrep
    obtain ⟨b, oo, rfl, news, hnl, hnc, hn1, hnr⟩ := news_of hnewrep hnrow hsz0 hm1
    have hby' : (rows.length + new.length) * ti2.bytes ≤ 140737488355328 := by rw [← ht2.bytes]; exact hby
    have hsz2 : ti2.size = (L.ti e).size := ht2.size.symm
    have hlenrow : ∀ (i : Nat) (row : List E), (rows ++ new)[i]? = some row → row.length = (L.ti e).size := fun i row hi => by
      rcases List.mem_append.1 (List.mem_of_getElem? hi) with h' | h'
      · exact hrow row h'
      · exact hnrow row h'
    have hcell0 : ∀ {g : Nat} {cur : Array Value} {k : TypeId} {fr : Nat × Nat} (w2 : World), w2.heap[g]? = some (.cells cur k fr) → ∀ o, w2.cell? ⟨g, o, none⟩ = cur[o]? := fun w2 hg o => by simp [World.cell?, hg]
    have fin : ∀ (cap' : Nat) (olds : List Value), olds.length = rows.length * (L.ti e).size → rows.length + new.length ≤ cap' → cap' ≤ maxLen →
        (∀ (i j : Nat) (row : List E) (e' : E), rows[i]? = some row → row[j]? = some e' → ∃ u, olds[i * (L.ti e).size + j]? = some u ∧ RepE w St e' u) →
        (Builtin.append_ #[t, t] o.type #[a.eval s, a.eval x]).run P w = .ok (.slice (some ⟨w.heap.size, 0, none⟩) (rows.length + new.length) cap')
          (w.drew.alloc (.cells (olds.toArray ++ news.toArray ++ Builtin.zeroCells u.cells (cap' - (rows.length + new.length))) e)) → o.wp P a w next Q := by
      intro cap' olds hol hcap' hcm holds hr
      unfold Oper.wp
      rw [hrun hr, Oper.upon_value, hdst]
      have hg : (w.drew.alloc (.cells (olds.toArray ++ news.toArray ++ Builtin.zeroCells u.cells (cap' - (rows.length + new.length))) e)).heap[w.heap.size]? =
          some (.cells (olds.toArray ++ news.toArray ++ Builtin.zeroCells u.cells (cap' - (rows.length + new.length))) e (0, 0)) := heap_alloc_new w.drew _
      obtain ⟨St', hfin⟩ := append_end (rows := rows ++ new) (k := e) (size := (L.ti e).size) (d := d) (fun _ => False) hF1 (by rw [hsize]; exact hd) hno hg hcells (cap := cap') (by rw [List.length_append]; exact hcap') hcm
        (by simp only [Array.size_append, List.size_toArray, size_zeroCells, hzs, hol, hnl, ← Nat.add_mul]; congr 1; omega)
        hlenrow (fun _ hf => hf.elim) (.inl (Nat.le_refl _)) rfl rfl rfl (by simp) (fun b hb _ => heap_alloc_old w.drew _ b hb)
        (fun o' ho' => absurd (h3.lt _ _ ho') (by omega)) (fun t k e v hh hb => by have := (own_lt (hF1.own t k e v hh) _ hb).1; omega)
        (fun m cs hm he => by
          obtain ⟨_, _, arr, t', h5, _⟩ := hF1.box m cs hm
          have := block_lt h5; omega)
        (fun i j row e' hi hj => by
          by_cases hlt : i < rows.length
          · rw [List.getElem?_append_left hlt] at hi
            obtain ⟨y, hy, hyr⟩ := holds i j row e' hi hj
            refine ⟨y, ?_, hyr⟩
            have hylt : i * (L.ti e).size + j < olds.length := by
              rcases Nat.lt_or_ge (i * (L.ti e).size + j) olds.length with h' | h'
              · exact h'
              · simp [List.getElem?_eq_none h'] at hy
            rw [Array.append_assoc, Array.getElem?_append_left (by simpa using hylt)]
            simpa using hy
          · rw [List.getElem?_append_right (by omega)] at hi
            obtain ⟨y, hy, hyr⟩ := hnr _ j row e' hi hj
            refine ⟨y, ?_, hyr⟩
            have hylt : (i - rows.length) * (L.ti e).size + j < news.length := by
              rcases Nat.lt_or_ge ((i - rows.length) * (L.ti e).size + j) news.length with h' | h'
              · exact h'
              · simp [List.getElem?_eq_none h'] at hy
            have hidx : i * (L.ti e).size + j = olds.length + ((i - rows.length) * (L.ti e).size + j) := by
              rw [hol, ← Nat.add_assoc, ← Nat.add_mul]; congr 2; omega
            rw [Array.append_assoc, Array.getElem?_append_right (by simp; omega), Array.getElem?_append_left (by simp; omega)]
            simp only [List.size_toArray, hidx, Nat.add_sub_cancel_left]
            simpa using hy)
      rw [List.length_append] at hfin
      exact hn _ _ _ hK ⟨hdef, by rw [put_size]; exact hsize, St', ρ, hfin, h4⟩
    rcases hold with ⟨hsv, hr⟩ | ⟨g, cap, cur, hsv, he, h5, h6, h7, h8, h9, h10, h11, h12⟩
    · subst hr
      have hr1 := run_append_nil (P := P) w t o.type e ti2 u ht.und ht2.info hu ⟨b, oo, none⟩ new.length c news (by rw [hsz2]; exact hnl) hnc hm1 (by simp only [maxLen] at hmax; simp at hmax; omega) (by simp at hby'; omega)
      refine fin (grownCap w new.length 0 e) [] (by simp) (by simp; exact grownCap_ge w _ _ _) (grownCap_le_maxLen w _ _ _ (by simpa using hmax)) (fun i j row e' hi => by simp at hi) ?_
      rw [hsv, hx]
      simpa using hr1
    · have holds := cells_at (xs := []) (n := 0) (size := (L.ti e).size) (he ▸ hs) hsv h6 hrow
      have hcle : rows.length * (L.ti e).size ≤ cur.size := by rw [h9]; exact Nat.mul_le_mul_right _ h7
      by_cases hroom : rows.length + new.length ≤ cap
      · have hfit : rows.length * (L.ti e).size + news.length ≤ cur.size := by rw [hnl, h9, ← Nat.add_mul]; exact Nat.mul_le_mul_right _ hroom
        have hr1 := run_append_room (P := P) w t o.type e ti2 ht.und ht2.info g rows.length cap cur h6 ⟨b, oo, none⟩ new.length c news (by rw [hsz2]; exact hnl) hnc hn1 hroom (by rw [hsz2]; exact hfit)
        rw [hsz2] at hr1
        have hr2 := hr1
        rw [← hsv, ← hx] at hr2
        unfold Oper.wp
        rw [hrun hr2, Oper.upon_value, hdst]
        have hg := setRow_heap w g cur (cur.toList.take (rows.length * (L.ti e).size) ++ news ++ cur.toList.drop (rows.length * (L.ti e).size + news.length)).toArray e (0, 0) h6
        have hget : ∀ k, (cur.toList.take (rows.length * (L.ti e).size) ++ news ++ cur.toList.drop (rows.length * (L.ti e).size + news.length)).toArray[k]? =
            if rows.length * (L.ti e).size ≤ k ∧ k < rows.length * (L.ti e).size + news.length then news[k - rows.length * (L.ti e).size]? else cur[k]? := fun k => by
          have := splice_get cur.toList news (rows.length * (L.ti e).size) k (by have e : cur.toList.length = cur.size := Array.length_toList; omega)
          rw [List.getElem?_toArray, this]; simp only [Array.getElem?_toList]
        obtain ⟨St', hfin⟩ := append_end (rows := rows ++ new) (k := e) (size := (L.ti e).size) (d := d) (fun b => b = g) hF1 (by rw [hsize]; exact hd) hno hg hcells (cap := cap) (by rw [List.length_append]; exact hroom) h8
          (by rw [List.size_toArray]; simp only [List.length_append, List.length_take, List.length_drop]; have e : cur.toList.length = cur.size := Array.length_toList; omega)
          hlenrow (fun b hb => ⟨hb, by rw [hb]; exact block_lt h6, by rw [hb]; exact h5⟩) (.inr rfl) rfl rfl rfl (by simp) (fun b hb hne => setRow_other w g b _ hne)
          (fun o' ho' => by
            have hlt := h10 o' ho'
            refine ⟨by rw [List.length_append, Nat.add_mul]; omega, ?_⟩
            rw [hcell0 _ hg, hcell0 _ h6, hget, if_neg (by omega)])
          h11 h12
          (fun i j row e' hi hj => by
            have hjl : j < (L.ti e).size := by
              rw [← hlenrow i row hi]
              rcases Nat.lt_or_ge j row.length with h' | h'
              · exact h'
              · simp [List.getElem?_eq_none h'] at hj
            by_cases hlt : i < rows.length
            · rw [List.getElem?_append_left hlt] at hi
              obtain ⟨y, hy, hyr⟩ := holds i j row e' hi hj
              refine ⟨y, ?_, hyr⟩
              have h13 : (i + 1) * (L.ti e).size ≤ rows.length * (L.ti e).size := Nat.mul_le_mul_right _ hlt
              rw [Nat.add_mul] at h13
              rw [hget, if_neg (by omega)]
              exact hy
            · rw [List.getElem?_append_right (by omega)] at hi
              obtain ⟨y, hy, hyr⟩ := hnr _ j row e' hi hj
              refine ⟨y, ?_, hyr⟩
              have hylt : (i - rows.length) * (L.ti e).size + j < news.length := by
                rcases Nat.lt_or_ge ((i - rows.length) * (L.ti e).size + j) news.length with h' | h'
                · exact h'
                · simp [List.getElem?_eq_none h'] at hy
              have hidx : i * (L.ti e).size + j = rows.length * (L.ti e).size + ((i - rows.length) * (L.ti e).size + j) := by
                rw [← Nat.add_assoc, ← Nat.add_mul]; congr 2; omega
              rw [hget, if_pos (by omega), hidx, Nat.add_sub_cancel_left]
              exact hy)
        rw [List.length_append] at hfin
        exact hn _ _ _ hK ⟨hdef, by rw [put_size]; exact hsize, St', ρ, hfin, h4⟩
      · have hol : (cur.toList.take (rows.length * (L.ti e).size)).length = rows.length * (L.ti e).size := by
          rw [List.length_take]; have e : cur.toList.length = cur.size := Array.length_toList; omega
        have hr1 := run_append_grow (P := P) w t o.type e ti2 u ht.und ht2.info hu ⟨g, 0, none⟩ rows.length cap (cur.toList.take (rows.length * (L.ti e).size)) (by rw [hsz2]; exact hol)
          (fun j v hj => by
            rw [add_none, Nat.zero_add, hcell0 _ h6, ← Array.getElem?_toList]
            rw [List.getElem?_take] at hj
            split at hj
            · exact hj
            · cases hj)
          ⟨b, oo, none⟩ new.length c news (by rw [hsz2]; exact hnl) hnc (by omega) (by simp only [maxLen] at hmax; omega) (growslice_fits (by omega) hby')
        refine fin (grownCap w (rows.length + new.length) cap e) _ hol (grownCap_ge w _ _ _) (grownCap_le_maxLen w _ _ _ hmax) (fun i j row e' hi hj => ?_) ?_
        · obtain ⟨y, hy, hyr⟩ := holds i j row e' hi hj
          refine ⟨y, ?_, hyr⟩
          have hjl : j < (L.ti e).size := by
            rw [← hrow row (List.mem_of_getElem? hi)]
            rcases Nat.lt_or_ge j row.length with h' | h'
            · exact h'
            · simp [List.getElem?_eq_none h'] at hj
          have hlt : i < rows.length := by
            rcases Nat.lt_or_ge i rows.length with h' | h'
            · exact h'
            · simp [List.getElem?_eq_none h'] at hi
          have h13 : (i + 1) * (L.ti e).size ≤ rows.length * (L.ti e).size := Nat.mul_le_mul_right _ hlt
          rw [Nat.add_mul] at h13
          rw [List.getElem?_take, if_pos (by omega), Array.getElem?_toList]
          exact hy
        · rw [hsv, hx]; exact hr1
theorem put_put (S : AS) (i : Nat) (d d' : D) : (S.put i d).put i d' = S.put i d' := by
  have : ∀ l : List (Nat × D), ins i d' (ins i d l) = ins i d' l := by
    intro l
    induction l with
    | nil => simp [ins]
    | cons p l ih => obtain ⟨j, y⟩ := p; simp only [ins]; by_cases e : i = j; · simp [ins, e]
                     · simp [ins, e, ih]
  simp only [AS.put, this]
theorem ARel.weakP (h : ARel P nt w0 M0 S0 ρ0 S a w) {i : Nat} {d d' : D} (hS : S.get i = d) (hd : WD (fun n => n) d d') : ARel P nt w0 M0 S0 ρ0 (S.put i d') a w := by
  obtain ⟨h1, h2, St, ρ, h3, h4⟩ := h
  exact ⟨h1, h2, St, ρ, h3.weakP hS hd, h4⟩
theorem ARel.lessRows {i : Nat} {tk : Option (Nat × Nat)} {rows rows' : List (List E)} (h : ARel P nt w0 M0 S0 ρ0 (S.put i (.c tk (.sl rows))) a w) (hw : WE (.sl rows) (.sl rows')) : ARel P nt w0 M0 S0 ρ0 (S.put i (.c tk (.sl rows'))) a w := by
  have := h.weakP (i := i) (d := .c tk (.sl rows)) (d' := .c tk (.sl rows')) (by rw [get_put, if_pos rfl]) ⟨by cases tk with | none => exact trivial | some q => exact ⟨rfl, rfl⟩, hw⟩
  rwa [put_put] at this
include hL in
theorem append_step (h : ARel P nt w0 M0 S0 ρ0 S a w) {o : Oper} {t : Nat} {s x : Operand} (ho : o.op = .call { callee := .builtin .append, args := #[s, x], argTypes := #[t, t] }) {K : AS → Prop}
    (hk : appendK L nt S o.dst t (S.ev s) (S.ev x) K) {next : Act → World → Prop} {Q : Exit → Act → World → Prop} (hn : ∀ S' a' w', K S' → ARel P nt w0 M0 S0 ρ0 S' a' w' → next a' w') : o.wp P a w next Q := by
  unfold appendK at hk
  split at hk
  case h_2 => exact hk.elim
  rename_i dst tyk sd d e tk es hdst hty hse
  split at hk
  case h_2 => exact hk.elim
  rename_i rows new hes hnew htk
  obtain ⟨hd, hsz0, hz, hrow, hnrow, hmax, hby, new', hwe, hK⟩ := hk
  refine append_step0 hL h ho (K := fun S' => S' = ((S.stripT tk).strip d).put d (.c (some (d, e)) (.sl (rows ++ new)))) ?_ fun S' a' w' hS h' => hn _ _ _ hK ?_
  · unfold appendK0
    rw [hdst, hty, hse]
    simp only [hes, hnew, htk]
    exact ⟨hd, hsz0, hz, hrow, hnrow, hmax, hby, trivial⟩
  · subst hS
    exact h'.lessRows (.app (.refl _) hwe)
end
end Go.Am

/- Slice literals and calls, at the operation; then any operation, and a list of operations. -/
set_option linter.unusedVariables false
set_option linter.unusedSimpArgs false
namespace Go.Am
open Go.RowKit

theorem rep_get (z : List E) : ∀ (n k : Nat), (repE n z)[k]? = if k < n * z.length then z[k % z.length]? else none
  | 0, k => by simp [repE]
  | n + 1, k => by
    have ih := rep_get z n
    simp only [repE] at ih ⊢
    rw [List.replicate_succ, List.flatten_cons]
    by_cases h : k < z.length
    · rw [List.getElem?_append_left h, if_pos (by rw [Nat.add_mul]; omega), Nat.mod_eq_of_lt h]
    · rw [List.getElem?_append_right (by omega), ih]
      by_cases h2 : k < (n + 1) * z.length
      · rw [if_pos h2, if_pos (by rw [Nat.add_mul] at h2; omega)]
        congr 1
        rw [Nat.mod_eq_sub_mod (a := k) (by omega)]
      · rw [if_neg h2, if_neg (by rw [Nat.add_mul] at h2; omega)]
theorem rep_len (n : Nat) (z : List E) : (repE n z).length = n * z.length := by simp [repE]

theorem buildK_len (S : AS) (place : Nat → Option (Nat × Nat)) : ∀ (parts : List (Nat × Operand)) (cells : List E) (K : List E → Prop), buildK S place parts cells K → buildK S place parts cells fun c => c.length = cells.length ∧ K c
  | [], cells, K, h => ⟨rfl, h⟩
  | (i, x) :: rest, cells, K, h => by
    simp only [buildK] at h ⊢
    split at h
    · rename_i off size es hp hes
      obtain ⟨h1, h2, h3⟩ := h
      refine ⟨h1, h2, ?_⟩
      have := buildK_len S place rest _ K h3
      rwa [show (fillE cells off es).length = cells.length by simp [fillE]; omega] at this
    · exact h.elim

theorem rowsOf_get (size : Nat) : ∀ (n : Nat) (cells : List E) (i : Nat), (rowsOf size n cells)[i]? = if i < n then some ((cells.drop (i * size)).take size) else none
  | 0, cells, i => by simp [rowsOf]
  | n + 1, cells, 0 => by simp [rowsOf]
  | n + 1, cells, i + 1 => by
    simp only [rowsOf, List.getElem?_cons_succ, rowsOf_get size n]
    simp only [Nat.add_lt_add_iff_right, List.drop_drop]
    rw [show size + i * size = (i + 1) * size by rw [Nat.add_mul]; omega]
theorem rowsOf_len (size : Nat) : ∀ (n : Nat) (cells : List E), (rowsOf size n cells).length = n
  | 0, _ => rfl
  | n + 1, cells => by simp [rowsOf, rowsOf_len size n]

section
variable {P : Program} [Gl P] {w0 : World} {M0 : Nat → Prop} {S0 : Stab} {L : Tab} (hL : TOk P L) {nt : Nat} {ρ0 : Nat → Nat} {S : AS} {a : Act} {w : World}

include hL in
theorem buildSlice_step (h : ARel P nt w0 M0 S0 ρ0 S a w) {o : Oper} {t len : Nat} {parts : Array (Nat × Operand)} (ho : o.op = .buildSlice t len parts) {d e : Nat} {z : List E} (hdst : o.dst = some d) (hty : (L.ti t).k = .slice e)
    (hz : (L.ti e).zero = some z) (hd : d < nt) (hs0 : 0 < (L.ti e).size) (hzl : z.length = (L.ti e).size) (hbig : len * (L.ti e).size ≤ 16777216) {K : List E → Prop}
    (hk : buildK S (fun i => some (i * (L.ti e).size, (L.ti e).size)) parts.toList (repE len z) K) {next : Act → World → Prop} {Q : Exit → Act → World → Prop}
    (hn : ∀ es a' w', K es → ARel P nt w0 M0 S0 ρ0 ((S.strip d).put d (.c (some (d, e)) (.sl (rowsOf (L.ti e).size len es)))) a' w' → next a' w') : o.wp P a w next Q := by
  obtain ⟨hdef, hsize, St, ρ, h3, h4⟩ := h
  obtain ⟨dd, ti, ht⟩ := hL.ty (t := t) (.inl (known_of hty (by simp)))
  obtain rfl := tk_slice (ht.k.symm.trans hty)
  obtain ⟨d2, ti2, ht2⟩ := hL.ty (t := e) (.inr (by omega))
  obtain ⟨u, hu, hall, rfl⟩ := ht2.zero z hz
  have hzs : u.cells.size = (L.ti e).size := by simpa using hzl
  have hcells : P.cellsOf e = (L.ti e).size := by unfold Program.cellsOf; rw [ht2.info]; exact ht2.size.symm
  have h0 : RepL w St (repE len (u.cells.toList.map constE)) ((Array.range (len * (L.ti e).size)).map (u.cells[· % u.cells.size]!)).toList := by
    have hc := constL_rep w St hall
    refine ⟨by simp [rep_len, hzs], fun k e' hk => ?_⟩
    rw [rep_get] at hk
    split at hk
    · rename_i hlt
      obtain ⟨y, hy, hyr⟩ := hc.2 _ _ hk
      simp only [List.length_map, Array.length_toList, hzs] at hlt hy
      refine ⟨y, ?_, hyr⟩
      rw [Array.getElem?_toList, Array.getElem?_map, Array.getElem?_range, if_pos hlt]
      simp only [Option.map_some, hzs, Option.some.injEq]
      rw [Array.getElem?_toList] at hy
      rw [Array.getElem!_eq_getD, Array.getD_eq_getD_getElem?, hy]; rfl
    · cases hk
  obtain ⟨c', cs', ⟨hcl, hK⟩, hf, hr'⟩ := fill_gives h3 _ parts.toList _ _ _ h0 (buildK_len S _ _ _ _ hk)
  rw [rep_len, hzl] at hcl
  have hcs : cs'.size = len * (L.ti e).size := by rw [← hcl]; simpa using hr'.1.symm
  have hparts : (parts.map fun (i, x) => (i, a.eval x)).toList = parts.toList.map fun p => (p.1, a.eval p.2) := by simp
  have hrun : (execOp a.eval o).run P w = .ok (.value (.slice (some ⟨w.heap.size, 0, none⟩) len len)) (w.alloc (.cells cs' e)) := by
    simp only [execOp, ho, Instr.buildSlice, Sem.run_bind, run_underlying ht.und, Result.andThen_ok, run_sizeOf' ht2, Sem.run_ite]
    rw [if_neg (by omega)]
    simp only [Sem.run_bind, Sem.run_pure, Result.andThen_ok, Sem.run_ite]
    by_cases hz0 : len * (L.ti e).size = 0
    · rw [if_pos hz0]
      simp only [Result.andThen_ok, hparts]
      have hcong : (Array.range (len * (L.ti e).size)).map ((#[] : Array Value)[· % (#[] : Array Value).size]!) = (Array.range (len * (L.ti e).size)).map (u.cells[· % u.cells.size]!) := by rw [hz0]; simp
      rw [hcong, hf]
      simp [newRow]
    · rw [if_neg hz0]
      simp only [zeroValue, typeInfo, Sem.run_bind, run_program, ht2.info, hu, Result.andThen_ok, Sem.run_pure, hparts]
      rw [hf]
      simp [newRow]
  unfold Oper.wp
  rw [hrun, Oper.upon_value, hdst]
  have hF1 : RelAt P w0 M0 S0 (S.strip d) a.tmps w St ρ := h3.less (Less.strip _ d)
  have hno : ∀ k' e' v', ¬ Held (S.strip d) a.tmps w ρ d k' e' v' := fun k' e' v' hh => held_strip hh rfl
  have hg : (w.alloc (.cells cs' e)).heap[w.heap.size]? = some (.cells cs' e (0, 0)) := heap_alloc_new w _
  have hlen := rowsOf_len (L.ti e).size len c'
  have hlenle : len ≤ maxLen := by
    have : len * 1 ≤ len * (L.ti e).size := Nat.mul_le_mul_left _ hs0
    unfold maxLen; omega
  obtain ⟨St', hfin⟩ := append_end (rows := rowsOf (L.ti e).size len c') (k := e) (size := (L.ti e).size) (d := d) (fun _ => False) hF1 (by rw [hsize]; exact hd) hno hg hcells (cap := len) (by omega) hlenle hcs
    (fun i row hi => by
      rw [rowsOf_get] at hi
      split at hi
      · rename_i hlt
        injection hi with hi
        subst hi
        have : (i + 1) * (L.ti e).size ≤ len * (L.ti e).size := Nat.mul_le_mul_right _ hlt
        rw [Nat.add_mul] at this
        simp; omega
      · cases hi)
    (fun _ hf => hf.elim) (.inl (Nat.le_refl _)) rfl rfl rfl (by simp) (fun b hb _ => heap_alloc_old w _ b hb)
    (fun o' ho' => absurd (h3.lt _ _ ho') (by omega)) (fun t k e v hh hb => by have := (own_lt (hF1.own t k e v hh) _ hb).1; omega)
    (fun m cs hm he => by
      obtain ⟨_, _, arr, t', h5, _⟩ := hF1.box m cs hm
      have := block_lt h5; omega)
    (fun i j row e' hi hj => by
      rw [rowsOf_get] at hi
      split at hi
      · rename_i hlt
        injection hi with hi
        subst hi
        rw [List.getElem?_take] at hj
        split at hj
        · rw [List.getElem?_drop] at hj
          obtain ⟨y, hy, hyr⟩ := hr'.2 _ _ hj
          exact ⟨y, by rw [← Array.getElem?_toList]; exact hy, hyr⟩
        · cases hj
      · cases hi)
  rw [hlen] at hfin
  exact hn _ _ _ hK ⟨hdef, by rw [put_size]; exact hsize, St', ρ, hfin, h4⟩

theorem madeCells_sz (z : Array Value) (n : Nat) : (madeCells z n).size = n := by simp [madeCells]
include hL in
theorem makeSlice_step (h : ARel P nt w0 M0 S0 ρ0 S a w) {o : Oper} {t : Nat} {x y : Operand} (ho : o.op = .makeSlice t x y) {d e : Nat} {c : Int} (hdst : o.dst = some d) (hty : (L.ti t).k = .slice e)
    (hz : (L.ti e).zero.map (·.length) = some (L.ti e).size) (hd : d < nt) (hs0 : 0 < (L.ti e).size) (hx : (S.ev x).int? = some 0) (hy : (S.ev y).int? = some c) (h0 : 0 ≤ c) (hm : c ≤ (maxLen : Nat)) (hb : ((L.ti e).bytes : Int) * c ≤ 281474976710656)
    {next : Act → World → Prop} {Q : Exit → Act → World → Prop} (hn : ∀ a' w', ARel P nt w0 M0 S0 ρ0 ((S.strip d).put d (.c (some (d, e)) (.sl []))) a' w' → next a' w') : o.wp P a w next Q := by
  obtain ⟨hdef, hsize, St, ρ, h3, h4⟩ := h
  obtain ⟨dd, ti, ht⟩ := hL.ty (t := t) (.inl (known_of hty (by simp)))
  obtain rfl := tk_slice (ht.k.symm.trans hty)
  obtain ⟨d2, ti2, ht2⟩ := hL.ty (t := e) (.inr (by omega))
  obtain ⟨z, hz1, hz2⟩ := Option.map_eq_some_iff.1 hz
  obtain ⟨u, hu, hall, rfl⟩ := ht2.zero z hz1
  have hcells : P.cellsOf e = (L.ti e).size := by unfold Program.cellsOf; rw [ht2.info]; exact ht2.size.symm
  obtain ⟨kx, hxv⟩ := rep_int (ev_rep h3 x) hx
  obtain ⟨ky, hyv⟩ := rep_int (ev_rep h3 y) hy
  have hrun : (execOp a.eval o).run P w = .ok (.value (.slice (some ⟨w.heap.size, 0, none⟩) 0 c.toNat)) (w.alloc (.cells (madeCells u.cells (c.toNat * ti2.size)) e)) := by
    have := run_make w t e ti2 u ht.und ht2.info hu kx ky 0 c (by omega) h0 (by rw [show ti2.bytes = (L.ti e).bytes from ht2.bytes.symm]; exact hb) (by unfold maxLen at hm; omega)
    simp only [execOp, ho, Sem.run_bind, hxv, hyv, this, Result.andThen_ok, Sem.run_pure]; rfl
  unfold Oper.wp
  rw [hrun, Oper.upon_value, hdst]
  have hF1 : RelAt P w0 M0 S0 (S.strip d) a.tmps w St ρ := h3.less (Less.strip _ d)
  have hno : ∀ k' e' v', ¬ Held (S.strip d) a.tmps w ρ d k' e' v' := fun k' e' v' hh => held_strip hh rfl
  have hg : (w.alloc (.cells (madeCells u.cells (c.toNat * ti2.size)) e)).heap[w.heap.size]? = some (.cells (madeCells u.cells (c.toNat * ti2.size)) e (0, 0)) := heap_alloc_new w _
  obtain ⟨St', hfin⟩ := append_end (rows := []) (k := e) (size := (L.ti e).size) (d := d) (fun _ => False) hF1 (by rw [hsize]; exact hd) hno hg hcells (cap := c.toNat) (by simp) (by omega) (by rw [madeCells_sz, ← ht2.size])
    (fun i row hi => by simp at hi) (fun _ hf => hf.elim) (.inl (Nat.le_refl _)) rfl rfl rfl (by simp) (fun b hb _ => heap_alloc_old w _ b hb)
    (fun o' ho' => absurd (h3.lt _ _ ho') (by omega)) (fun t k e v hh hb => by have := (own_lt (hF1.own t k e v hh) _ hb).1; omega)
    (fun m cs hm he => by
      obtain ⟨_, _, arr, t', h5, _⟩ := hF1.box m cs hm
      have := block_lt h5; omega)
    (fun i j row e' hi hj => by simp at hi)
  exact hn _ _ ⟨hdef, by rw [put_size]; exact hsize, St', ρ, hfin, h4⟩

/-! ### calls -/
theorem less_stripAll : ∀ (ts : List Nat) (S : AS), Less S (S.stripAll ts)
  | [], S => Less.refl S
  | t :: ts, S => by
    have h1 := Less.strip S t
    have h2 := less_stripAll ts (S.strip t)
    refine ⟨fun i => ?_, fun n cs hn => ?_⟩
    · rcases h2.get i with h | h | ⟨u, e, h, h'⟩
      · exact .inl h
      · rcases h1.get i with g | g | ⟨u, e, g, g'⟩
        · exact .inl (h.trans g)
        · exact .inr (.inl (h.trans g))
        · exact .inr (.inr ⟨u, e, g, h.trans g'⟩)
      · rcases h1.get i with g | g | ⟨u', e', g, g'⟩
        · rw [g] at h; cases h
        · exact .inr (.inr ⟨u, e, g ▸ h, h'⟩)
        · rw [g'] at h; cases h
    · obtain ⟨ds, hd, hl, hk⟩ := h2.box n cs hn
      obtain ⟨es, he, hl', hk'⟩ := h1.box n ds hd
      refine ⟨es, he, by omega, fun k c hc => ?_⟩
      obtain ⟨d, hd1, hd2, hd3⟩ := hk k c hc
      obtain ⟨d', hd1', hd2', hd3'⟩ := hk' k d hd1
      refine ⟨d', hd1', hd2.trans hd2', ?_⟩
      rcases hd3 with h | h
      · rcases hd3' with h' | h'
        · exact .inl (h.trans h')
        · exact .inr (h.trans h')
      · exact .inr h
theorem held_stripAll {tm : Array Value} {ρ : Nat → Nat} : ∀ (ts : List Nat) (S : AS) {t k : Nat} {e : E} {v : Value}, Held (S.stripAll ts) tm w ρ t k e v → t ∉ ts
  | [], S, t, k, e, v, h => by simp
  | s :: ts, S, t, k, e, v, h => by
    have h1 := held_stripAll ts (S.strip s) h
    have h2 : Held (S.strip s) tm w ρ t k e v := h.less (less_stripAll ts (S.strip s))
    have h3 : t ≠ s := held_strip h2
    simp [h1, h3]

theorem look_argsAt : ∀ (ds : List D) (i j : Nat), look (argsAt i ds) j = if j < i then none else ds[j - i]?
  | [], i, j => by simp [argsAt, look]
  | d :: ds, i, j => by
    simp only [argsAt, look, look_argsAt ds (i + 1) j]
    by_cases h : j = i
    · subst h; simp
    · rw [if_neg h]
      by_cases h2 : j < i
      · rw [if_pos (by omega), if_pos h2]
      · rw [if_neg (by omega), if_neg h2, show j - i = (j - (i + 1)) + 1 by omega, List.getElem?_cons_succ]
theorem get_args (ds : List D) (bx : Boxes) (i : Nat) : (⟨argsAt 0 ds, bx⟩ : AS).get i = (ds[i]?).getD .bot := by
  simp [AS.get, look_argsAt]

theorem mem_toks {t k : Nat} {e : E} : ∀ (ds : List D) (i : Nat), ds[i]? = some (.c (some (t, k)) e) → t ∈ toks ds
  | [], i, h => by simp at h
  | d :: ds, 0, h => by simp only [List.getElem?_cons_zero, Option.some.injEq] at h; subst h; simp [toks]
  | d :: ds, i + 1, h => by
    have := mem_toks ds i (by simpa using h)
    unfold toks
    split <;> simp_all
theorem mem_ctoks {t k : Nat} {e : E} : ∀ (cs : List Cell) (i : Nat), cs[i]? = some (some (t, k), e) → t ∈ ctoks cs
  | [], i, h => by simp at h
  | d :: ds, 0, h => by simp only [List.getElem?_cons_zero, Option.some.injEq] at h; subst h; simp [ctoks]
  | d :: ds, i + 1, h => by
    have := mem_ctoks ds i (by simpa using h)
    unfold ctoks
    split <;> simp_all
theorem mem_btoks {t : Nat} : ∀ (bx : Boxes) (n : Nat) (cs : List Cell), look bx n = some cs → t ∈ ctoks cs → t ∈ btoks bx
  | [], n, cs, h, _ => by simp [look] at h
  | (m, ds) :: bx, n, cs, h, ht => by
    simp only [look] at h
    simp only [btoks, List.mem_append]
    split at h
    · injection h with h; subst h; exact .inl ht
    · exact .inr (mem_btoks bx n cs h ht)

theorem look_pass (S : AS) : ∀ (ns : List Nat) (i : Nat) (bx : Boxes), passBoxes S ns i = some bx → ∀ m, look bx m = if m < EXT + i then none else (ns[m - (EXT + i)]?).bind S.box
  | [], i, bx, h, m => by simp only [passBoxes, Option.some.injEq] at h; subst h; simp [look]
  | n :: ns, i, bx, h, m => by
    simp only [passBoxes] at h
    split at h
    · rename_i cs b h1 h2
      injection h with h
      subst h
      have ih := look_pass S ns (i + 1) b h2 m
      simp only [look, ih]
      by_cases hm : m = EXT + i
      · subst hm; simp [h1]
      · rw [if_neg hm]
        by_cases h3 : m < EXT + i
        · rw [if_pos (by omega), if_pos h3]
        · rw [if_neg (by omega), if_neg h3, show m - (EXT + i) = (m - (EXT + (i + 1))) + 1 by omega, List.getElem?_cons_succ]
    · cases h
theorem pass_some (S : AS) : ∀ (ns : List Nat) (i : Nat) (bx : Boxes), passBoxes S ns i = some bx → ∀ n ∈ ns, ∃ cs, S.box n = some cs
  | [], i, bx, h, n, hn => by simp at hn
  | m :: ns, i, bx, h, n, hn => by
    simp only [passBoxes] at h
    split at h
    · rename_i cs b h1 h2
      rcases List.mem_cons.1 hn with rfl | hn
      · exact ⟨cs, h1⟩
      · exact pass_some S ns (i + 1) b h2 n hn
    · cases h

theorem nodup_ptrNames : ∀ ds : List D, (ptrNames ds).Nodup
  | [] => by simp [ptrNames]
  | d :: ds => by
    have ih := nodup_ptrNames ds
    unfold ptrNames
    split
    · cases ‹_ = _›
    · rename_i n off ds' he
      injection he with he1 he2
      subst he1 he2
      dsimp only
      split
      · exact ih
      · rename_i hc; rw [List.nodup_cons]; exact ⟨by simpa using hc, ih⟩
    · rename_i d' ds' _ he; injection he with he1 he2; subst he2; exact ih

theorem look_back (bx : Boxes) : ∀ (ns : List Nat) (i : Nat) (b : Boxes) (m : Nat), ns.Nodup →
    look (backBoxes bx ns i b) m = match ns.idxOf? m with | some j => look bx (EXT + i + j) | none => look b m
  | [], i, b, m, _ => by simp [backBoxes]
  | n :: ns, i, b, m, hnd => by
    rw [List.nodup_cons] at hnd
    simp only [backBoxes]
    rw [look_back bx ns (i + 1) _ m hnd.2, List.idxOf?_cons]
    by_cases h : n = m
    · subst h
      have hno : ns.idxOf? n = none := by rw [List.idxOf?_eq_none_iff]; exact hnd.1
      simp only [hno, beq_self_eq_true, if_true]
      cases hl : look bx (EXT + i) with
      | none => simp only [look_del, if_true]; first | done | rw [Nat.add_zero, hl]
      | some cs => simp only [look_ins, if_true]; first | done | rw [Nat.add_zero, hl]
    · have hb : (n == m) = false := by simpa using h
      simp only [hb, Bool.false_eq_true, if_false]
      cases ns.idxOf? m with
      | none =>
        simp only [Option.map_none]
        have hm : ¬ m = n := fun e => h e.symm
        cases look bx (EXT + i) with
        | none => simp only [look_del, if_neg hm]
        | some cs => simp only [look_ins, if_neg hm]
      | some j => simp only [Option.map_some]; congr 1; omega
end
end Go.Am

/- A call, at the operation; any operation; a list of operations. -/
set_option linter.unusedVariables false
set_option linter.unusedSimpArgs false
namespace Go.Am
open Go.RowKit

section
variable {P : Program} [Gl P] {w0 : World} {M0 : Nat → Prop} {S0 : Stab} {L : Tab} (hL : TOk P L) {nt : Nat} {ρ0 : Nat → Nat} {S : AS} {a : Act} {w : World}

theorem retok_rel {M1 : Nat → Prop} {St St' : Stab} {r : D} {bx : Boxes} {v : Value} {w' : World} {ρ : Nat → Nat} (h : RelAt P w M1 St ⟨[(0, r)], bx⟩ #[v] w' St' ρ) (t : Nat) : RelAt P w M1 St ⟨[(0, r.retok t)], []⟩ #[v] w' St' ρ := by
  have h1 : RelAt P w M1 St ⟨[(0, r)], []⟩ #[v] w' St' ρ := h.less ⟨fun i => .inr (.inl rfl), fun n cs hn => by cases hn⟩
  cases r with
  | c tk e =>
    cases tk with
    | none => exact h1
    | some q =>
      obtain ⟨u, k⟩ := q
      have hheld : ∀ {t' k' : Nat} {e' : E} {x : Value}, Held ⟨[(0, (D.c (some (u, k)) e).retok t)], []⟩ #[v] w' ρ t' k' e' x → t' = t ∧ Held ⟨[(0, .c (some (u, k)) e)], []⟩ #[v] w' ρ u k' e' x := fun hh => by
        rcases hh with ⟨i, hi, hv⟩ | ⟨n, cs, j, hb, _⟩
        · simp only [AS.get, look, D.retok] at hi
          split at hi
          · rename_i hi0; subst hi0
            simp only [Option.getD_some, D.c.injEq, Option.some.injEq, Prod.mk.injEq] at hi
            obtain ⟨⟨rfl, rfl⟩, rfl⟩ := hi
            exact ⟨rfl, .inl ⟨0, rfl, hv⟩⟩
          · cases hi
        · cases hb
      exact { h1 with
        tmp := fun i => by
          have := h1.tmp i
          simp only [AS.get, look, D.retok] at this ⊢
          split
          · rename_i hi; rw [if_pos hi] at this; exact this
          · exact trivial
        own := fun t' k' e' x hh => h1.own _ _ _ _ (hheld hh).2
        apart := fun t1 k1 e1 x1 t2 k2 e2 x2 hh hh' hne => absurd ((hheld hh).1.trans (hheld hh').1.symm) hne
        ownbox := fun t' k' e' x n cs hh hn => by cases hn }
  | _ => exact h1

theorem vals_pair {St : Stab} {ρ : Nat → Nat} (h3 : RelAt P w0 M0 S0 S a.tmps w St ρ) (first cap : List Value) (args : List Operand) :
    ∀ (i : Nat) (d : D), (first.map constD ++ args.map S.ev ++ cap.map constD)[i]? = some d →
      ∃ v, (first ++ args.map a.eval ++ cap)[i]? = some v ∧ RepD w St ρ d v ∧ ∀ t k e, d = .c (some (t, k)) e → Held S a.tmps w ρ t k e v := by
  have hconst : ∀ (l : List Value) (i : Nat) (d : D), (l.map constD)[i]? = some d → ∃ v, l[i]? = some v ∧ RepD w St ρ d v ∧ ∀ t k e, d = .c (some (t, k)) e → Held S a.tmps w ρ t k e v := fun l i d hd => by
    rw [List.getElem?_map] at hd
    cases hv : l[i]? with
    | none => simp [hv] at hd
    | some v =>
      rw [hv] at hd
      simp only [Option.map_some, Option.some.injEq] at hd
      subst hd
      exact ⟨v, rfl, constD_rep w St ρ v, fun t k e he => by simp only [constD] at he; split at he <;> first | (split at he <;> cases he) | cases he⟩
  intro i d hd
  by_cases h1 : i < first.length
  · rw [List.append_assoc, List.getElem?_append_left (by simpa using h1)] at hd
    obtain ⟨v, hv, hr⟩ := hconst first i d hd
    exact ⟨v, by rw [List.append_assoc, List.getElem?_append_left h1]; exact hv, hr⟩
  · by_cases h2 : i < first.length + args.length
    · rw [List.append_assoc, List.getElem?_append_right (by simp; omega), List.getElem?_append_left (by simp; omega), List.getElem?_map] at hd
      simp only [List.length_map] at hd
      cases hx : args[i - first.length]? with
      | none => simp [hx] at hd
      | some x =>
        rw [hx] at hd
        simp only [Option.map_some, Option.some.injEq] at hd
        subst hd
        refine ⟨a.eval x, ?_, ev_rep h3 x, fun t k e he => ev_held x he⟩
        rw [List.append_assoc, List.getElem?_append_right (by omega), List.getElem?_append_left (by simp; omega), List.getElem?_map, hx]; rfl
    · rw [List.getElem?_append_right (by simp; omega)] at hd
      simp only [List.length_append, List.length_map] at hd
      obtain ⟨v, hv, hr⟩ := hconst cap _ d hd
      exact ⟨v, by rw [List.getElem?_append_right (by simp; omega)]; simpa using hv, hr⟩

theorem plain_pair (keep : List Nat) {St : Stab} {ρ : Nat → Nat} {ds : List D} {vs : List Value} (h : ∀ (i : Nat) (d : D), ds[i]? = some d → ∃ v, vs[i]? = some v ∧ RepD w St ρ d v ∧ ∀ t k e, d = .c (some (t, k)) e → Held S a.tmps w ρ t k e v) :
    ∀ (i : Nat) (d : D), (ds.map (plainIf keep))[i]? = some d → ∃ v, vs[i]? = some v ∧ RepD w St ρ d v ∧ ∀ t k e, d = .c (some (t, k)) e → Held S a.tmps w ρ t k e v := by
  intro i d hd
  rw [List.getElem?_map] at hd
  cases hdi : ds[i]? with
  | none => rw [hdi] at hd; cases hd
  | some d0 =>
    rw [hdi] at hd
    simp only [Option.map_some, Option.some.injEq] at hd
    subst hd
    obtain ⟨v, h1, h2, h3⟩ := h i d0 hdi
    refine ⟨v, h1, ?_, ?_⟩
    · cases d0 with
      | c tk e =>
        cases tk with
        | none => exact h2
        | some q => obtain ⟨t, k⟩ := q; simp only [plainIf]; split <;> exact h2
      | _ => exact h2
    · intro t k e he
      refine h3 t k e ?_
      cases d0 with
      | c tk e' =>
        cases tk with
        | none => exact he
        | some q =>
          obtain ⟨t', k'⟩ := q
          simp only [plainIf] at he
          split at he
          · cases he
          · exact he
      | _ => exact he

def delAll : List Nat → Boxes → Boxes
  | [], b => b
  | n :: ns, b => delAll ns (del n b)
theorem look_delAll : ∀ (ns : List Nat) (b : Boxes) (m : Nat), look (delAll ns b) m = if m ∈ ns then none else look b m
  | [], b, m => by simp [delAll]
  | n :: ns, b, m => by
    simp only [delAll, look_delAll ns, look_del, List.mem_cons]
    by_cases h : m = n
    · subst h; simp
    · simp [h]

theorem call_step (h : ARel P nt w0 M0 S0 ρ0 S a w) {o : Oper} {f : Operand} {args : Array Operand} {ts : Array TypeId} (ho : o.op = .call { callee := .value f, args := args, argTypes := ts }) {K : AS → Prop}
    (hk : callK P nt S o.dst f args.toList K) {next : Act → World → Prop} {Q : Exit → Act → World → Prop} (hn : ∀ S' a' w', K S' → ARel P nt w0 M0 S0 ρ0 S' a' w' → next a' w') : o.wp P a w next Q := by
  obtain ⟨hdef, hsize, St, ρ, h3, h4⟩ := h
  unfold callK at hk
  split at hk
  case h_2 => exact hk.elim
  rename_i tk g first cap hf
  obtain ⟨keep, hk⟩ := hk
  rw [forceL_eq] at hk
  split at hk
  case h_2 => exact hk.elim
  rename_i bx hbx
  obtain ⟨hd, hcall⟩ := hk
  rw [forceL_eq, forceB_eq] at hcall
  simp only [backK] at hcall
  have hpair := plain_pair keep (vals_pair h3 first.toList cap.toList args.toList)
  have hnd := nodup_ptrNames ((first.toList.map constD ++ args.toList.map S.ev ++ cap.toList.map constD).map (plainIf keep))
  generalize hds : (first.toList.map constD ++ args.toList.map S.ev ++ cap.toList.map constD).map (plainIf keep) = ds at hpair hnd hcall hbx
  generalize hns : ptrNames ds = ns at hnd hcall hbx
  generalize hvs : first.toList ++ args.toList.map a.eval ++ cap.toList = vs at hpair
  have hfv : a.eval f = .func (.func g) first cap := by have := ev_rep h3 f; rw [hf] at this; exact (rep_v (d := .c tk (.v (.func (.func g) first cap))) this rfl).1
  obtain ⟨⟨fn, hfn, hname, hbody⟩, hcall⟩ := hcall
  have hrun : (execOp a.eval o).run P w = .ok (.enter g vs.toArray) w := by
    have hvals : first ++ args.map a.eval ++ cap = vs.toArray := by rw [← hvs]; apply Array.toList_inj.1; simp
    have hb' : fn.body.isNone = false := hbody
    simp only [execOp, ho, resolve, hfv, Deferred.ofValue, invoke, callFunc, Sem.run_bind, Sem.run_pure, Result.andThen_ok, run_program, hfn, hname, Bool.false_eq_true, if_false, hb', hvals]
  -- the callee's side
  have hlook := look_pass S ns 0 bx hbx
  have hpass := pass_some S ns 0 bx hbx
  let ρ1 : Nat → Nat := fun m => if m < EXT then ρ m else ((ns[m - EXT]?).map ρ).getD 0
  have hbx1 : ∀ m cs, look bx m = some cs → EXT ≤ m ∧ ∃ n, ns[m - EXT]? = some n ∧ S.box n = some cs ∧ ρ1 m = ρ n := fun m cs hm => by
    rw [hlook] at hm
    simp only [Nat.add_zero] at hm
    split at hm
    · cases hm
    · rename_i hge
      cases hn' : ns[m - EXT]? with
      | none => rw [hn'] at hm; cases hm
      | some n =>
        rw [hn'] at hm
        exact ⟨by omega, n, rfl, hm, by simp only [ρ1, if_neg hge, hn']; rfl⟩
  have hlen : vs.length = ds.length := by rw [← hvs, ← hds]; simp
  let Sin : AS := ⟨argsAt 0 (ds.map (mapPtr ns)), bx⟩
  have hget : ∀ i, Sin.get i = ((ds[i]?).map (mapPtr ns)).getD .bot := fun i => by
    show (⟨argsAt 0 (ds.map (mapPtr ns)), bx⟩ : AS).get i = _
    rw [get_args, List.getElem?_map]
  have hgetD : ∀ i v, vs[i]? = some v → vs.toArray.getD i undef = v := fun i v hv => by
    simp [Array.getD_eq_getD_getElem?, hv]
  have hheldin : ∀ {t k : Nat} {e : E} {v : Value}, Held Sin vs.toArray w ρ1 t k e v → Held S a.tmps w ρ t k e v ∧ t ∈ toks ds ++ btoks bx := fun {t k} {e} {v} hh => by
    rcases hh with ⟨i, hi, hv⟩ | ⟨m, cs, j, hb, hj, hv⟩
    · rw [hget] at hi
      cases hdi : ds[i]? with
      | none => rw [hdi] at hi; cases hi
      | some d =>
        rw [hdi] at hi
        simp only [Option.map_some, Option.getD_some] at hi
        have hd' : d = .c (some (t, k)) e := by
          cases d with
          | ptr n off => simp only [mapPtr] at hi; split at hi <;> cases hi
          | _ => exact hi
        subst hd'
        obtain ⟨v', hv', _, hheld⟩ := hpair i _ hdi
        rw [hgetD i v' hv'] at hv
        subst hv
        exact ⟨hheld _ _ _ rfl, List.mem_append.2 (.inl (mem_toks ds i hdi))⟩
    · obtain ⟨_, n, _, hSb, hρ⟩ := hbx1 m cs hb
      exact ⟨.inr ⟨n, cs, j, hSb, hj, by rw [← hρ]; exact hv⟩, List.mem_append.2 (.inr (mem_btoks bx m cs hb (mem_ctoks cs j hj)))⟩
  let M1 : Nat → Prop := fun b => (∃ t k e v, Held Sin vs.toArray w ρ1 t k e v ∧ v.ownBlock = some b) ∨ ∃ m cs, look bx m = some cs ∧ b = ρ1 m
  have hM1 : ∀ b, M1 b → b < w.heap.size ∧ (w0.heap.size ≤ b ∨ M0 b) := fun b hb => by
    rcases hb with ⟨t, k, e, v, hh, hv⟩ | ⟨m, cs, hm, rfl⟩
    · exact own_lt (h3.own _ _ _ _ (hheldin hh).1) b hv
    · obtain ⟨_, n, _, hSb, hρ⟩ := hbx1 m cs hm
      obtain ⟨h5, _, arr, t, h6, _⟩ := h3.box n cs hSb
      rw [hρ]
      exact ⟨block_lt h6, h5⟩
  have hin : RelAt P w M1 St Sin vs.toArray w St ρ1 := {
    glob := h3.glob.later h3.up h3.stay, os := rfl, tape := rfl, output := rfl, size := Nat.le_refl _, old := fun _ _ _ => rfl, stay := fun _ _ _ => rfl, up := fun _ _ hs => hs, dn := fun _ _ hs _ => .inl hs, lt := h3.lt
    tmp := fun i => by
      rw [hget]
      cases hdi : ds[i]? with
      | none => exact trivial
      | some d =>
        obtain ⟨v, hv, hr, _⟩ := hpair i d hdi
        rw [hgetD i v hv]
        simp only [Option.map_some, Option.getD_some]
        cases d with
        | ptr n off =>
          simp only [mapPtr]
          cases hix : idx ns n with
          | none => exact trivial
          | some j =>
            have hj : ns[j]? = some n := by
              have := List.idxOf?_eq_some_iff.1 hix
              obtain ⟨hlt, hjn, _⟩ := this
              rw [List.getElem?_eq_getElem hlt]
              simpa using hjn
            show v = .pointer (some ⟨ρ1 (EXT + j), off, none⟩)
            have hv' : v = .pointer (some ⟨ρ n, off, none⟩) := hr
            rw [hv']
            simp only [ρ1, if_neg (show ¬ EXT + j < EXT by omega), Nat.add_sub_cancel_left, hj]; rfl
        | _ => exact hr.names fun _ _ he => by cases he
    box := fun m cs hm => by
      obtain ⟨_, n, _, hSb, hρ⟩ := hbx1 m cs hm
      obtain ⟨_, h6, h7⟩ := h3.box n cs hSb
      exact ⟨.inr (.inr ⟨m, cs, hm, rfl⟩), by rw [hρ]; exact h6, by rw [hρ]; exact h7⟩
    inj := fun m m' cs cs' hm hm' hne => by
      obtain ⟨hge, n, hn1, hSb, hρ⟩ := hbx1 m cs hm
      obtain ⟨hge', n', hn1', hSb', hρ'⟩ := hbx1 m' cs' hm'
      rw [hρ, hρ']
      refine h3.inj n n' cs cs' hSb hSb' fun he => hne ?_
      subst he
      have hlt : m - EXT < ns.length := by
        rcases Nat.lt_or_ge (m - EXT) ns.length with h' | h'
        · exact h'
        · simp [List.getElem?_eq_none h'] at hn1
      have := (List.getElem?_inj hlt hnd).1 (hn1.trans hn1'.symm)
      omega
    own := fun t k e v hh => by
      rcases h3.own _ _ _ _ (hheldin hh).1 with h5 | ⟨g', cap', cur, rows, h5, h6, _, h8⟩
      · exact .inl h5
      · exact .inr ⟨g', cap', cur, rows, h5, h6, .inr (.inl ⟨t, k, e, v, hh, by rw [h6]; rfl⟩), h8⟩
    apart := fun t k e v t' k' e' v' hh hh' hne => h3.apart _ _ _ _ _ _ _ _ (hheldin hh).1 (hheldin hh').1 hne
    ownbox := fun t k e v m cs hh hm => by
      obtain ⟨_, n, _, hSb, hρ⟩ := hbx1 m cs hm
      rw [hρ]
      exact h3.ownbox _ _ _ _ n cs (hheldin hh).1 hSb }
  have hc := hcall w St M1 vs.toArray ρ1 (by simp [hlen]) hin
  unfold Oper.wp
  rw [hrun, Oper.upon_enter]
  refine hc.mono ?_
  rintro e w' ⟨v, r, bx', St', ρ', rfl, hK, hrp, hρ', hbxlt, hout⟩
  -- what stays
  let Fs := S.stripAll (toks ds ++ btoks bx)
  let F : AS := { Fs with boxes := delAll ns Fs.boxes }
  have hFbox : ∀ m, F.box m = if m ∈ ns then none else Fs.box m := fun m => look_delAll ns Fs.boxes m
  have hlessF : Less S F := by
    have h1 := less_stripAll (toks ds ++ btoks bx) S
    refine ⟨h1.get, fun n cs hn' => ?_⟩
    rw [hFbox] at hn'
    split at hn'
    · cases hn'
    · exact h1.box n cs hn'
  have hFheld : ∀ {t k : Nat} {e : E} {u : Value}, Held F a.tmps w ρ t k e u → Held S a.tmps w ρ t k e u ∧ t ∉ toks ds ++ btoks bx := fun {t k} {e} {u} hh => by
    refine ⟨hh.less hlessF, ?_⟩
    have : Held Fs a.tmps w ρ t k e u := by
      rcases hh with ⟨i, hi, hv⟩ | ⟨m, cs, j, hb, hj, hv⟩
      · exact .inl ⟨i, hi, hv⟩
      · rw [hFbox] at hb
        split at hb
        · cases hb
        · exact .inr ⟨m, cs, j, hb, hj, hv⟩
    exact held_stripAll _ S this
  have hFrel := h3.less hlessF
  have hFM : ∀ t k e u, Held F a.tmps w ρ t k e u → ∀ b, u.ownBlock = some b → ¬ M1 b := fun t k e u hh b hb hm => by
    obtain ⟨h5, h6⟩ := hFheld hh
    rcases hm with ⟨t', k', e', v', hh', hv'⟩ | ⟨m, cs, hm, rfl⟩
    · obtain ⟨h7, h8⟩ := hheldin hh'
      have := h3.apart _ _ _ _ _ _ _ _ h5 h7 (fun he => h6 (he ▸ h8))
      rw [hb, hv'] at this
      simp at this
    · obtain ⟨_, n, _, hSb, hρ⟩ := hbx1 m cs hm
      rw [hρ] at hb
      exact h3.ownbox _ _ _ _ n cs h5 hSb hb
  have hFboxS : ∀ m cs, F.box m = some cs → m ∉ ns ∧ ∃ ds, S.box m = some ds := fun m cs hm => by
    have h1 := hlessF.box m cs hm
    rw [hFbox] at hm
    split at hm
    · cases hm
    · rename_i hmn; exact ⟨hmn, h1.choose, h1.choose_spec.1⟩
  have hFbM : ∀ m cs, F.box m = some cs → ¬ M1 (ρ m) := fun m cs hm hM => by
    obtain ⟨hmn, ds', hSm⟩ := hFboxS m cs hm
    rcases hM with ⟨t', k', e', v', hh', hv'⟩ | ⟨m', cs', hm', he⟩
    · exact h3.ownbox _ _ _ _ m ds' (hheldin hh').1 hSm hv'
    · obtain ⟨_, n, hn1, hSb, hρ⟩ := hbx1 m' cs' hm'
      rw [hρ] at he
      have hne : m ≠ n := fun e => hmn (e ▸ List.mem_of_getElem? hn1)
      exact h3.inj m n ds' cs' hSm hSb hne he
  have hFw := hFrel.frame hout hM1 hFM hFbM
  -- the result
  obtain ⟨C, hCrel, hC0, hCp, hCb⟩ : ∃ C : AS, RelAt P w M1 St C #[v] w' St' ρ' ∧ C.get 0 = (if ns.isEmpty then (match o.dst with | some d => r.retok d | none => r) else r.plain) ∧
      (C.get 0).noPtr = true ∧ (ns ≠ [] → ∀ m, C.box m = look bx' m) := by
    by_cases hne : ns = []
    · subst hne
      cases hdst : o.dst with
      | none => exact ⟨_, hout, rfl, hrp, fun h => absurd rfl h⟩
      | some d => exact ⟨_, retok_rel hout d, rfl, by cases r <;> first | exact hrp | (rename_i tk' _; cases tk' <;> rfl), fun h => absurd rfl h⟩
    · have he : ns.isEmpty = false := by cases ns <;> simp_all
      refine ⟨⟨[(0, r.plain)], bx'⟩, hout.less ⟨fun i => ?_, fun n cs hn' => ⟨cs, hn', rfl, fun k c hc' => ⟨c, hc', rfl, .inl rfl⟩⟩⟩, by simp [he, AS.get, look], ?_, fun _ m => rfl⟩
      · simp only [AS.get, look]
        split
        · simp only [Option.getD_some]
          cases r with
          | c tk' e' => cases tk' with
            | none => exact .inr (.inl rfl)
            | some q => exact .inr (.inr ⟨q, e', rfl, rfl⟩)
          | _ => exact .inr (.inl rfl)
        · exact .inl rfl
      · simp only [AS.get, look, if_true, Option.getD_some]
        cases r <;> exact hrp
  refine hn _ _ _ hK ⟨by rw [put_defers']; exact hdef, by rw [put_size]; exact hsize, St', ρ, ?_, h4⟩
  have hget0 : ∀ j, Fs.get j = F.get j := fun j => rfl
  refine hFrel.merge (F := F) (C := C) (v := v) hFw hCrel hM1 hFM hFbM (dst := o.dst) ?_ hCp rfl (fun m => EXT + (ns.idxOf? m).getD 0) ?_ ?_ ?_
  · intro j
    cases hdst : o.dst with
    | none => simp [Act.put]
    | some d =>
      rw [hdst] at hd
      have hd : d < nt := of_decide_eq_true hd
      simp only [Act.put, Option.some.injEq]
      rw [getD_set _ _ _ _ (by rw [hsize]; exact hd)]
      by_cases he : j = d
      · rw [if_pos he, if_pos he.symm]
      · rw [if_neg he, if_neg (fun e => he e.symm)]
  · intro j
    cases hdst : o.dst with
    | none => simp [AS.putO]; rfl
    | some d =>
      simp only [AS.putO, get_put, Option.some.injEq]
      rw [hdst] at hC0
      by_cases he : j = d
      · rw [if_pos he, if_pos he.symm, hC0]
      · rw [if_neg he, if_neg (fun e => he e.symm)]; rfl
  · intro m cs hm
    have hb : ∀ (X : AS) (dd : D), (X.putO o.dst dd).box m = X.box m := fun X dd => by cases o.dst <;> rfl
    rw [hb] at hm
    have hm' : look (backBoxes bx' ns 0 Fs.boxes) m = some cs := hm
    rw [look_back bx' ns 0 Fs.boxes m hnd] at hm'
    cases hix : ns.idxOf? m with
    | none =>
      rw [hix] at hm'
      left
      rw [hFbox, if_neg (by rw [← List.idxOf?_eq_none_iff]; exact hix)]
      exact hm'
    | some j =>
      rw [hix] at hm'
      simp only [Nat.add_zero] at hm'
      right
      have hmem : m ∈ ns := by
        rcases Decidable.em (m ∈ ns) with h | h
        · exact h
        · rw [List.idxOf?_eq_none_iff.2 h] at hix; cases hix
      have hnsne : ns ≠ [] := fun e => by rw [e] at hmem; simp at hmem
      have hj : ns[j]? = some m := by
        obtain ⟨hlt, hjn, _⟩ := List.idxOf?_eq_some_iff.1 hix
        rw [List.getElem?_eq_getElem hlt]
        simpa using hjn
      refine ⟨by rw [hCb hnsne]; simpa using hm', ?_, by rw [hFbox, if_pos hmem]⟩
      rw [Option.getD_some, hρ' _ (by omega)]
      simp only [ρ1, if_neg (show ¬ EXT + j < EXT by omega), Nat.add_sub_cancel_left, hj]; rfl
  · intro m n cs cs' hm hn' hFm hFn hne he
    have hb : ∀ (X : AS) (dd : D) m, (X.putO o.dst dd).box m = X.box m := fun X dd m => by cases o.dst <;> rfl
    rw [hb] at hm hn'
    have hm' : look (backBoxes bx' ns 0 Fs.boxes) m = some cs := hm
    have hn'' : look (backBoxes bx' ns 0 Fs.boxes) n = some cs' := hn'
    rw [look_back bx' ns 0 Fs.boxes _ hnd] at hm' hn''
    have hi : ∀ m cs, (match ns.idxOf? m with | some j => look bx' (EXT + 0 + j) | none => look Fs.boxes m) = some cs → F.box m = none → ∃ j, ns.idxOf? m = some j ∧ ns[j]? = some m := fun m cs h1 h2 => by
      cases hix : ns.idxOf? m with
      | none =>
        rw [hix] at h1
        rw [hFbox, if_neg (by rw [← List.idxOf?_eq_none_iff]; exact hix)] at h2
        exact absurd (h2.symm.trans h1) (by simp)
      | some j =>
        obtain ⟨hlt, hjn, _⟩ := List.idxOf?_eq_some_iff.1 hix
        exact ⟨j, rfl, by rw [List.getElem?_eq_getElem hlt]; simpa using hjn⟩
    obtain ⟨j1, h5, h6⟩ := hi m cs hm' hFm
    obtain ⟨j2, h7, h8⟩ := hi n cs' hn'' hFn
    rw [h5, h7] at he
    simp only [Option.getD_some] at he
    have : j1 = j2 := by omega
    subst this
    rw [h6] at h8
    injection h8 with h8
    exact hne h8
end
end Go.Am

/- Any operation, a list of operations, code, and a function's body. -/
set_option linter.unusedVariables false
set_option linter.unusedSimpArgs false
namespace Go.Am
open Go.RowKit

section
variable {P : Program} [Gl P] {w0 : World} {M0 : Nat → Prop} {S0 : Stab} {L : Tab} (hL : TOk P L) {nt : Nat} (hnt : nt ≤ EXT) {ρ0 : Nat → Nat} {S : AS} {a : Act} {w : World}

include hL hnt in
theorem stepK_sound {o : Oper} {K : AS → Prop} (hk : stepK P L nt S o K) (h : ARel P nt w0 M0 S0 ρ0 S a w) {next : Act → World → Prop} {Q : Exit → Act → World → Prop}
    (hn : ∀ S' a' w', K S' → ARel P nt w0 M0 S0 ρ0 S' a' w' → next a' w') : o.wp P a w next Q := by
  unfold stepK at hk
  split at hk
  · -- box
    rename_i t x hop
    split at hk
    case h_2 => exact hk.elim
    rename_i d cs hdst hcs
    obtain ⟨hd, hK⟩ := hk
    have h' := h
    obtain ⟨_, _, St, ρ, h3, _⟩ := h'
    have hrun : (execOp a.eval o).run P w = .ok (.value (.pointer (some ⟨w.heap.size, 0, none⟩))) (w.alloc (.cells (a.eval x).cells t)) := by
      simp only [execOp, hop, Instr.box, newVar, newRow, Sem.run_bind, Sem.run_pure, run_newObj, Result.andThen_ok, World.alloc_eq]
    unfold Oper.wp
    rw [hrun, Oper.upon_value, hdst]
    refine hn _ _ _ hK (newBox_step h t hd hnt (cells_rep (ev_rep h3 x) hcs).1 (fun St ρ h3 => (cells_rep (ev_rep h3 x) hcs).2.1) (fun St ρ h3 j t' k e u hj hu => ?_))
    obtain ⟨h5, rfl⟩ := (cells_rep (ev_rep h3 x) hcs).2.2 j t' k e u hj hu
    exact held_kill (St := St) h5
  · -- alloc
    rename_i t hop
    split at hk
    case h_2 => exact hk.elim
    rename_i d z hdst hz
    obtain ⟨hd, hK⟩ := hk
    have hty : ∃ ti u, P.info? t = some ti ∧ ti.zero = some u ∧ u.cells.toList.all (·.oneCell') = true ∧ z = u.cells.toList.map constE := by
      rcases hL.at_ t with h1 | h1
      · rw [h1] at hz
        unfold TI.of at hz
        cases hi : P.info? t with
        | none => rw [hi] at hz; cases hz
        | some ti =>
          cases hu : P.underlying t with
          | none => rw [hi, hu] at hz; cases hz
          | some dd =>
            rw [hi, hu] at hz
            simp only [Option.bind_eq_some_iff] at hz
            obtain ⟨u, h2, h3⟩ := hz
            split at h3
            · rename_i hall; exact ⟨ti, u, rfl, h2, hall, by simpa using h3.symm⟩
            · cases h3
      · rw [h1] at hz; cases hz
    obtain ⟨ti, u, hi, hu, hall, rfl⟩ := hty
    have hrun : (execOp a.eval o).run P w = .ok (.value (.pointer (some ⟨w.heap.size, 0, none⟩))) (w.alloc (.cells u.cells t)) := by
      simp only [execOp, hop, Instr.alloc, zeroValue, typeInfo, newVar, newRow, Sem.run_bind, Sem.run_pure, run_program, hi, hu, run_newObj, Result.andThen_ok, World.alloc_eq]
    unfold Oper.wp
    rw [hrun, Oper.upon_value, hdst]
    refine hn _ _ _ hK (newBox_step h t hd hnt (by simp) (fun St ρ h3 k c hc => ?_) (fun St ρ h3 j t' k e u' hj hu' => ?_))
    · rw [List.getElem?_map] at hc
      cases he : (u.cells.toList.map constE)[k]? with
      | none => simp [he] at hc
      | some e =>
        rw [he] at hc
        simp only [Option.map_some, Option.some.injEq] at hc
        subst hc
        obtain ⟨y, hy, hr⟩ := (constL_rep w St hall).2 k e he
        exact ⟨y, by rw [← Array.getElem?_toList]; exact hy, hr⟩
    · rw [List.getElem?_map] at hj
      cases he : (u.cells.toList.map constE)[j]? <;> simp [he] at hj
  · -- a slice literal
    rename_i t len parts hop
    split at hk
    case h_2 => exact hk.elim
    rename_i d e hdst hty
    split at hk
    case h_2 => exact hk.elim
    rename_i z hz
    obtain ⟨hd, hs0, hzl, hbig, hK⟩ := hk
    exact buildSlice_step hL h hop hdst hty hz hd hs0 hzl hbig hK (fun es a' w' ⟨rows', hwe, hk'⟩ hr => hn _ _ _ hk' (hr.lessRows hwe))
  · -- make
    rename_i t x y hop
    split at hk
    case h_2 => exact hk.elim
    rename_i d e n c hdst hty hx hy
    obtain ⟨hd, hs0, hz, rfl, h0, hm, hb, hK⟩ := hk
    exact makeSlice_step hL h hop hdst hty hz hd hs0 hx hy h0 hm hb (fun a' w' hr => hn _ _ _ hK hr)
  · -- store
    rename_i t p x hop
    split at hk
    case h_2 => exact hk.elim
    rename_i n off new hp hx
    split at hk
    case h_2 => exact hk.elim
    rename_i cs hcs
    obtain ⟨hdst, hkn, hsz, hb, hK⟩ := hk
    exact store_step hL h hop hp hx hcs hdst hkn hsz hb (fun a' w' hr => hn _ _ _ hK hr)
  · -- calls
    rename_i c hop
    obtain ⟨callee, args, argTypes⟩ := c
    have hsz : ∀ {α : Type} (x : Array α) (l : List α), x.toList = l → x = l.toArray := fun x l h => by rw [← h]
    split at hk
    · rename_i s x t u h1 h2 h3
      obtain ⟨rfl, hk⟩ := hk
      simp only at h1 h2 h3
      obtain rfl := h1; obtain rfl := hsz _ _ h2; obtain rfl := hsz _ _ h3
      exact append_step hL h hop hk hn
    · rename_i f h1
      simp only at h1
      subst h1
      exact call_step h hop hk hn
    · exact opV_step hL hk h hn
  · exact opV_step hL hk h hn

theorem putO_same (h : ARel P nt w0 M0 S0 ρ0 S a w) {g : Nat} {tk : Option (Nat × Nat)} {x : Value} (hg : S.get g = .c tk (.v x)) : ARel P nt w0 M0 S0 ρ0 (S.put g (.c tk (.v x))) a w := by
  obtain ⟨h1, h2, St, ρ, h3, h4⟩ := h
  exact ⟨h1, h2, St, ρ, h3.less ⟨fun i => .inr (.inl (by rw [get_put]; split; rename_i he; subst he; exact hg.symm; rfl)), fun n cs hn => ⟨cs, hn, rfl, fun k c hc => ⟨c, hc, rfl, .inl rfl⟩⟩⟩, h4⟩

include hL hnt in
theorem opsK_sound (ops : Array Oper) {Q : Exit → Act → World → Prop} {K : AS → Prop} (hn : ∀ S' a' w', K S' → ARel P nt w0 M0 S0 ρ0 S' a' w' → Q .normal a' w') :
    ∀ (os : List Oper) (l : List Nat) (S : AS) (a : Act) (w : World), l.map (ops[·]?) = os.map some → opsK P L nt ops os S K → ARel P nt w0 M0 S0 ρ0 S a w → wpOps P ops Q l a w
  | [], [], S, a, w, _, hk, h => hn S a w hk h
  | [], _ :: _, S, a, w, hl, _, _ => by simp at hl
  | _ :: _, [], S, a, w, hl, _, _ => by simp at hl
  | o :: os, i :: l, S, a, w, hl, hk, h => by
    simp only [List.map_cons, List.cons.injEq] at hl
    obtain ⟨hi, hl⟩ := hl
    rw [wpOps_cons]
    unfold wpOp
    simp only [hi]
    simp only [opsK, forceS_eq] at hk
    split at hk
    · rename_i hg
      have hw : Region.wanted o (yielded ops a.tmps) = true := by simp [Region.wanted, hg]
      rw [if_pos hw]
      exact .inl (stepK_sound hL hnt hk h fun S' a' w' hk' h' => opsK_sound ops hn os l S' a' w' hl hk' h')
    · rename_i j want hg
      split at hk
      case h_2 => exact hk.elim
      rename_i g hj
      split at hk
      case h_3 => exact hk.elim
      case h_2 hb =>
        obtain ⟨hd, hk⟩ := hk
        have hval : a.tmps.getD g undef = undef := by
          obtain ⟨_, _, St, ρ, h3, _⟩ := h
          have := h3.tmp g
          rw [hb] at this
          obtain ⟨vs, hv, hl, _⟩ := this
          rw [hv]
          have : vs = [] := List.eq_nil_of_length_eq_zero hl.symm
          rw [this]; rfl
        have hw : Region.wanted o (yielded ops a.tmps) = false := by
          simp only [Region.wanted, hg]
          have : yielded ops a.tmps j = none := by
            simp only [yielded, hj, Option.bind_some]
            rw [Array.getD_eq_getD_getElem?] at hval
            cases ht : a.tmps[g]? with
            | none => rfl
            | some y => rw [ht] at hval; simp only [Option.getD_some] at hval; rw [hval]; rfl
          rw [this]; rfl
        rw [hw]
        simp only [Bool.false_eq_true, if_false]
        exact opsK_sound ops hn os l _ _ w hl hk (skip_rel h hd)
      rename_i tk b hb
      obtain ⟨hd, hk⟩ := hk
      have hyes := fun e => branchG_yes hk e
      have hno := fun e => branchG_no hk e
      have hval : a.tmps.getD g undef = .bool b := by
        obtain ⟨_, _, St, ρ, h3, _⟩ := h
        have := h3.tmp g
        rw [hb] at this
        exact (rep_v (d := .c tk (.v (.bool b))) this rfl).1
      have hw : Region.wanted o (yielded ops a.tmps) = (b == want) := by
        simp only [Region.wanted, hg]
        have : yielded ops a.tmps j = some b := by
          have hg2 : a.tmps[g]? = some (.bool b) := by
            rw [Array.getD_eq_getD_getElem?] at hval
            cases ht : a.tmps[g]? with
            | none => rw [ht] at hval; cases hval
            | some y => rw [ht] at hval; simp only [Option.getD_some] at hval; rw [hval]
          simp only [yielded, hj, Option.bind_some, hg2]
        rw [this]; rfl
      rw [hw]
      by_cases hbw : b = want
      · subst hbw
        simp only [beq_self_eq_true, if_true]
        exact .inl (stepK_sound hL hnt (hyes rfl) (putO_same h hb) fun S' a' w' hk' h' => opsK_sound ops hn os l S' a' w' hl hk' h')
      · have hb2 : b = !want := by cases b <;> cases want <;> simp_all
        have hf : (b == want) = false := by simpa using hbw
        rw [hf]
        simp only [Bool.false_eq_true, if_false]
        subst hb2
        exact opsK_sound ops hn os l _ _ w hl (hno rfl) (skip_rel (putO_same h hb) hd)
end

/-! ### drawn regions (the operations may come in any order that the edges allow) -/
/-- (in a text of its own) -/
def DrawK : Type := (P : Program) → [Gl P] → (L : Tab) → (nt : Nat) → Array Oper → AS → (AS → Prop) → Prop
/-- That a word for drawn regions is right. -/
def DrawOk (P : Program) [Gl P] (L : Tab) (nt : Nat) (Dr : DrawK) : Prop :=
  ∀ (w0 : World) (M0 : Nat → Prop) (S0 : Stab) (ρ0 : Nat → Nat) (id : Nat) (ops : Array Oper) (S : AS) (a : Act) (w : World) (K : AS → Prop) (Q : Exit → Act → World → Prop), Dr P L nt ops S K → ARel P nt w0 M0 S0 ρ0 S a w →
    (∀ S' a' w', K S' → ARel P nt w0 M0 S0 ρ0 S' a' w' → Q .normal a' w') → (Code.region id ops true).wp P Q a w

def thenK (next : AS → Prop) (Q : Exit → AS → Prop) : Exit → AS → Prop
  | .normal, S => next S
  | e, S => Q e S
def blockK (id : Nat) (Q : Exit → AS → Prop) : Exit → AS → Prop
  | .exit i, S => if i = id then Q .normal S else Q (.exit i) S
  | e, S => Q e S

/-- What code must show. -/
def awp (Dr : DrawK) (P : Program) [Gl P] (L : Tab) (nt : Nat) : Code → (Exit → AS → Prop) → AS → Prop
  | .skip, Q, S => Q .normal S
  | .label _, Q, S => Q .normal S
  | .region _ ops draw, Q, S => if draw then Dr P L nt ops S (Q .normal) else opsK P L nt ops ops.toList S (Q .normal)
  | .seq x y, Q, S => awp Dr P L nt x (thenK (awp Dr P L nt y Q) Q) S
  | .cond c x y, Q, S =>
    match S.ev c with
    | .c _ (.v (.bool b)) => branchK b (awp Dr P L nt x Q S) (awp Dr P L nt y Q S)
    | _ => False
  | .block id c, Q, S => awp Dr P L nt c (blockK id Q) S
  | .loop c, Q, S => ∃ (ts bs : List Nat) (I : Nat → AS → Prop), (∃ n, I n (S.keep ts bs)) ∧ ∀ n T, I n T → awp Dr P L nt c (thenK (fun T' => ∃ m, m < n ∧ I m (T'.keep ts bs)) Q) T
  | .exit id, Q, S => Q (.exit id) S
  | .ret, Q, S => Q .ret S
  | _, _, _ => False

section
variable {P : Program} [Gl P] {w0 : World} {M0 : Nat → Prop} {S0 : Stab} {L : Tab} (hL : TOk P L) {nt : Nat} (hnt : nt ≤ EXT) {ρ0 : Nat → Nat} {Dr : DrawK} (hD : DrawOk P L nt Dr)

theorem ARel.less {S T : AS} {a : Act} {w : World} (h : ARel P nt w0 M0 S0 ρ0 S a w) (hl : Less S T) : ARel P nt w0 M0 S0 ρ0 T a w := by
  obtain ⟨h1, h2, St, ρ, h3, h4⟩ := h
  exact ⟨h1, h2, St, ρ, h3.less hl, h4⟩

/-- The machine's post of an abstract one. -/
def post (P : Program) [Gl P] (nt : Nat) (w0 : World) (M0 : Nat → Prop) (S0 : Stab) (ρ0 : Nat → Nat) (Q : Exit → AS → Prop) : Exit → Act → World → Prop :=
  fun e a w => ∃ S, Q e S ∧ ARel P nt w0 M0 S0 ρ0 S a w

include hL hnt hD in
theorem awp_sound : ∀ (c : Code) (Q : Exit → AS → Prop) (S : AS) (a : Act) (w : World), awp Dr P L nt c Q S → ARel P nt w0 M0 S0 ρ0 S a w → c.wp P (post P nt w0 M0 S0 ρ0 Q) a w
  | .skip, Q, S, a, w, hk, h => wp_skip ⟨S, hk, h⟩
  | .label l, Q, S, a, w, hk, h => wp_label ⟨S, hk, h⟩
  | .exit id, Q, S, a, w, hk, h => wp_exit ⟨S, hk, h⟩
  | .ret, Q, S, a, w, hk, h => wp_ret ⟨S, hk, h⟩
  | .region id ops draw, Q, S, a, w, hk, h => by
    simp only [awp] at hk
    cases draw with
    | true => exact hD w0 M0 S0 ρ0 id ops S a w _ _ hk h fun S' a' w' hk' h' => ⟨S', hk', h'⟩
    | false =>
      refine wp_region (opsK_sound (Q := post P nt w0 M0 S0 ρ0 Q) hL hnt ops (K := Q .normal) (fun S' a' w' hk' h' => ⟨S', hk', h'⟩) ops.toList (List.range ops.size) S a w ?_ hk h)
      apply List.ext_getElem?
      intro i
      simp only [List.getElem?_map, Array.getElem?_toList]
      by_cases hi : i < ops.size
      · rw [List.getElem?_range hi]; simp [hi]
      · rw [List.getElem?_eq_none (by simpa using hi), Array.getElem?_eq_none (by omega)]; rfl
  | .seq x y, Q, S, a, w, hk, h => by
    refine wp_seq (wp_mono (awp_sound x _ S a w hk h) ?_)
    rintro e a' w' ⟨S', hq, h'⟩
    cases e with
    | normal => exact awp_sound y Q S' a' w' hq h'
    | exit id => exact ⟨S', hq, h'⟩
    | goto l => exact ⟨S', hq, h'⟩
    | ret => exact ⟨S', hq, h'⟩
    | panic ch => exact ⟨S', hq, h'⟩
    | outgrown => exact ⟨S', hq, h'⟩
  | .cond c x y, Q, S, a, w, hk, h => by
    simp only [awp] at hk
    split at hk
    · rename_i tk b hc
      have hv : a.eval c = .bool b := by
        obtain ⟨_, _, St, ρ, h3, _⟩ := h
        have := ev_rep h3 c
        rw [hc] at this
        exact (rep_v (d := .c tk (.v (.bool b))) this rfl).1
      refine wp_cond hv ?_
      cases b with
      | true => exact awp_sound x Q S a w hk h
      | false => exact awp_sound y Q S a w hk h
    · exact hk.elim
  | .block id c, Q, S, a, w, hk, h => by
    refine wp_block (wp_mono (awp_sound c _ S a w hk h) ?_)
    rintro e a' w' ⟨S', hq, h'⟩
    cases e with
    | exit i =>
      simp only [Exit.inBlock, blockK] at hq ⊢
      by_cases hi : i = id
      · rw [if_pos hi] at hq; rw [if_pos hi]; exact ⟨S', hq, h'⟩
      · rw [if_neg hi] at hq; rw [if_neg hi]; exact ⟨S', hq, h'⟩
    | normal => exact ⟨S', hq, h'⟩
    | goto l => exact ⟨S', hq, h'⟩
    | ret => exact ⟨S', hq, h'⟩
    | panic ch => exact ⟨S', hq, h'⟩
    | outgrown => exact ⟨S', hq, h'⟩
  | .loop c, Q, S, a, w, hk, h => by
    obtain ⟨ts, bs, I, ⟨n, h0⟩, hround⟩ := hk
    -- the measure stands in the invariant: rounds by strong induction through the law's own measure, carried as a choice
    have key : ∀ n S a w, I n S → ARel P nt w0 M0 S0 ρ0 S a w → ∀ (b : Frame) (k : List Item) (cs : List Frame),
        ∃ e a' w', post P nt w0 M0 S0 ρ0 Q e a' w' ∧ Arrives P (lone (b.at a (.code c :: .inLoop c :: k)) cs w) b k cs e a' w' := by
      intro n
      induction n using Nat.strongRecOn with
      | _ n ih =>
        intro S a w hI hr b k cs
        obtain ⟨e, a₁, w₁, ⟨S₁, hq, hr₁⟩, harr⟩ := awp_sound c _ S a w (hround n S hI) hr b (.inLoop c :: k) cs
        cases e with
        | normal =>
          obtain ⟨m, hm, hI'⟩ := hq
          obtain ⟨e₂, a₂, w₂, hq₂, harr₂⟩ := ih m hm _ a₁ w₁ hI' (hr₁.less (Less.keep S₁ ts bs)) b k cs
          exact ⟨e₂, a₂, w₂, hq₂, .of_steps (Steps.trans harr (.one step_inLoop)) harr₂⟩
        | exit id => exact ⟨_, a₁, w₁, ⟨S₁, hq, hr₁⟩, .pass (x := .inLoop c) rfl (fun _ _ => .inl (by simp)) harr⟩
        | goto l => exact ⟨_, a₁, w₁, ⟨S₁, hq, hr₁⟩, .pass (x := .inLoop c) rfl (fun _ _ => .inl (by simp)) harr⟩
        | ret => exact ⟨_, a₁, w₁, ⟨S₁, hq, hr₁⟩, .pass (x := .inLoop c) rfl (fun _ _ => .inl (by simp)) harr⟩
        | panic ch => exact ⟨_, a₁, w₁, ⟨S₁, hq, hr₁⟩, .pass (x := .inLoop c) rfl (fun _ _ => .inl (by simp)) harr⟩
        | outgrown => exact ⟨_, a₁, w₁, ⟨S₁, hq, hr₁⟩, .pass (x := .inLoop c) rfl (fun _ _ => .inl (by simp)) harr⟩
    intro b k cs
    obtain ⟨e, a', w', hq, harr⟩ := key n _ a w h0 (h.less (Less.keep S ts bs)) b k cs
    exact ⟨e, a', w', hq, .of_steps (.one step_loop) harr⟩
  | .rangeFunc .., Q, S, a, w, hk, h => hk.elim
  | .scope _, Q, S, a, w, hk, h => hk.elim
  | .goto _, Q, S, a, w, hk, h => hk.elim
  | .refuse _, Q, S, a, w, hk, h => hk.elim

/-! ### a function's body -/
/-- The results of a function, off its state. -/
def resD (L : Tab) (S : AS) : List ResultVar → (List D → Prop) → Prop
  | [], K => K []
  | .tmp t :: rs, K => resD L S rs fun ds => K (S.get t :: ds)
  | .cell c t :: rs, K => loadK L S t (S.get c) fun d => resD L S rs fun ds => K (d.plain :: ds)
def resK (L : Tab) (S : AS) (rs : List ResultVar) (K : D → Prop) : Prop :=
  resD L S rs fun ds => match ds with
    | [d] => K d
    | ds => K (.tup (ds.map D.x))

def resOne (tm : Array Value) (r : ResultVar) : Sem Value :=
  match r with
  | .tmp t => pure (tm.getD t undef)
  | .cell c t => do loadVar t (← asAddr (tm.getD c undef))
theorem resD_run {St : Stab} {ρ : Nat → Nat} {S : AS} {a : Act} {w : World} (h : RelAt P w0 M0 S0 S a.tmps w St ρ) (hL : TOk P L) : ∀ (rs : List ResultVar) (K : List D → Prop), resD L S rs K →
    ∃ (ds : List D) (vs : List Value), K ds ∧ ds.length = rs.length ∧ vs.length = rs.length ∧
      (rs.mapM (resOne a.tmps)).run P w = .ok vs w ∧
      ∀ (i : Nat) (d : D), ds[i]? = some d → ∃ v, vs[i]? = some v ∧ RepD w St ρ d v ∧ ∀ t k e, d = .c (some (t, k)) e → Held S a.tmps w ρ t k e v
  | [], K, hk => ⟨[], [], hk, rfl, rfl, rfl, fun i d hd => by simp at hd⟩
  | .tmp t :: rs, K, hk => by
    obtain ⟨ds, vs, h1, h2, h3, h4, h5⟩ := resD_run h hL rs _ hk
    refine ⟨_, a.tmps.getD t undef :: vs, h1, by simp [h2], by simp [h3], ?_, fun i d hd => ?_⟩
    · rw [List.mapM_cons]
      simp only [resOne, Sem.run_bind, Sem.run_pure, Result.andThen_ok]
      rw [h4]; rfl
    · cases i with
      | zero => simp only [List.getElem?_cons_zero, Option.some.injEq] at hd; subst hd; exact ⟨_, rfl, h.tmp t, fun t' k e he => .inl ⟨t, he, rfl⟩⟩
      | succ i => exact h5 i d (by simpa using hd)
  | .cell c t :: rs, K, hk => by
    obtain ⟨d, v, hkd, hrun, hrep, _⟩ := load_gives hL h (x := .tmp c) (K := fun d => resD L S rs fun ds => K (d.plain :: ds)) hk
    obtain ⟨ds, vs, h1, h2, h3, h4, h5⟩ := resD_run h hL rs _ hkd
    have hrun' : (do loadVar t (← asAddr (a.tmps.getD c undef)) : Sem Value).run P w = .ok v w := by
      have hp : ∃ p, a.tmps.getD c undef = .pointer (some p) := by
        have h6 := h.tmp c
        have hk2 := hk
        simp only [resD] at hk2
        obtain ⟨_, hk2⟩ := hk2
        cases hd : S.get c with
        | ptr n off => rw [hd] at h6; exact ⟨_, h6⟩
        | ref es => rw [hd] at h6; obtain ⟨b, o, h7, _⟩ := h6; exact ⟨_, h7⟩
        | bot => simp [hd] at hk2
        | c => simp [hd] at hk2
        | agg => simp [hd] at hk2
        | tup => simp [hd] at hk2
      obtain ⟨p, hp⟩ := hp
      simp only [Act.eval, hp, Instr.loadAt, Instr.sureAddr, Sem.run_bind, Sem.run_pure, Result.andThen_ok] at hrun
      simp only [hp, asAddr, Sem.run_bind, Sem.run_pure, Result.andThen_ok, hrun]
    refine ⟨_, v :: vs, h1, by simp [h2], by simp [h3], ?_, fun i d' hd => ?_⟩
    · rw [List.mapM_cons]
      have hr1 : (resOne a.tmps (.cell c t)).run P w = .ok v w := hrun'
      rw [Sem.run_bind, hr1, Result.andThen_ok, Sem.run_bind, h4]; rfl
    · cases i with
      | zero =>
        simp only [List.getElem?_cons_zero, Option.some.injEq] at hd
        subst hd
        exact ⟨v, rfl, by cases d <;> exact hrep, fun t' k e he => by cases d <;> cases he⟩
      | succ i => exact h5 i d' (by simpa using hd)
end
end Go.Am

