/- Part 1 of the proof: the abstract machine and its soundness. It holds for every input, without conditions. -/
import Derived.Maps.AppendAt
import Derived.Below
import Derived.Calls
import Derived.KernelRfl
import Derived.MapKept
import Derived.Laws.Concat
import Derived.Laws.StructEq
import Derived.ChangeKeysEq
import Derived.Laws.BytesString
import Derived.Laws.MakeOwn
set_option linter.unusedVariables false
namespace Go.Am
inductive E where
 | v (x : Value)
 | sl (rows : List (List E))
 | nils
 | ifc (b : Bool)
 | any
 | rf (n : Nat)
 | rs (n l : Nat)
 | pt (n off : Nat)
 | cl (g : Nat) (first ZpA : List E)
 | ob (code : Nat) (rows : List (List E))
 deriving Inhabited
def CAP : Nat := 1000000
def ZhU (ρ : Nat → Nat) (n b c : Nat) : Nat → Nat := fun m => if m = n then b else if m = CAP + n then c else ρ m
inductive X where
 | bot
 | c (e : E)
 | agg (es : List E)
 deriving Inhabited
inductive D where
 | bot
 | c (tk : Option (Nat × Nat)) (e : E)
 | agg (es : List E)
 | tup (xs : List X)
 | ptr (n off : Nat)
 | ref (es : List E)
 | ept (n sz i off : Nat)
 deriving Inhabited
abbrev Cell := Option (Nat × Nat) × E
def Z2 {α : Type} : List (Nat × α) → Nat → Option α
 | [], _ => none
 | (j, x) :: l, i => if i = j then some x else Z2 l i
def ins {α : Type} (i : Nat) (x : α) : List (Nat × α) → List (Nat × α)
 | [] => [(i, x)]
 | (j, y) :: l => if i = j then (i, x) :: l else (j, y) :: ins i x l
def del {α : Type} (i : Nat) : List (Nat × α) → List (Nat × α)
 | [] => []
 | (j, y) :: l => if i = j then del i l else (j, y) :: del i l
def Zqs {α β : Type} (f : α → β) : List (Nat × α) → List (Nat × β)
 | [] => []
 | (i, x) :: l => (i, f x) :: Zqs f l
theorem Zf9 {α β : Type} (f : α → β) : ∀ l : List (Nat × α), Zqs f l = l.map fun p => (p.1, f p.2)
 | [] => rfl
 | (i, x) :: l => by simp [Zqs, Zf9 f l]
structure AS where
 tmps : List (Nat × D)
 boxes : List (Nat × List Cell)
def AS.get (S : AS) (i : Nat) : D := (Z2 S.tmps i).getD .bot
def AS.box (S : AS) (n : Nat) : Option (List Cell) := Z2 S.boxes n
def AS.put (S : AS) (i : Nat) (d : D) : AS := { S with tmps := ins i d S.tmps }
def AS.setBox (S : AS) (n : Nat) (cs : List Cell) : AS := { S with boxes := ins n cs S.boxes }
def AS.keep (S : AS) (ts bs : List Nat) : AS :=
 ⟨ts.map fun i => (i, S.get i), bs.filterMap fun n => (S.box n).map fun cs => (n, cs)⟩
def Zn1 (t : Nat) : D → D
 | .c (some (u, k)) e => .c (if u = t then none else some (u, k)) e
 | d => d
def ZpD (t : Nat) : Cell → Cell
 | (some (u, k), e) => (if u = t then none else some (u, k), e)
 | c => c
def AS.strip (S : AS) (t : Nat) : AS := ⟨Zqs (Zn1 t) S.tmps, Zqs (·.map (ZpD t)) S.boxes⟩
mutual
def E.ren (f : Nat → Option Nat) : E → E
 | .rf n => match f n with | some m => .rf m | none => .any
 | .rs n l => match f n with | some m => .rs m l | none => .any
 | .pt n o => match f n with | some m => .pt m o | none => .any
 | .cl g fs cs => .cl g (E.rens f fs) (E.rens f cs)
 | .v x => .v x
 | .sl rows => .sl rows
 | .nils => .nils
 | .ifc b => .ifc b
 | .any => .any
 | .ob c rows => .ob c rows
def E.rens (f : Nat → Option Nat) : List E → List E
 | [] => []
 | e :: es => E.ren f e :: E.rens f es
end
theorem E.rens_map (f : Nat → Option Nat) : ∀ es : List E, E.rens f es = es.map (E.ren f)
 | [] => rfl
 | e :: es => by rw [E.rens, E.rens_map f es]; rfl
def X.ren (f : Nat → Option Nat) : X → X
 | .bot => .bot
 | .c e => .c (e.ren f)
 | .agg es => .agg (E.rens f es)
def X.rens (f : Nat → Option Nat) : List X → List X
 | [] => []
 | x :: xs => x.ren f :: X.rens f xs
theorem X.rens_map (f : Nat → Option Nat) : ∀ xs : List X, X.rens f xs = xs.map (X.ren f)
 | [] => rfl
 | e :: es => by rw [X.rens, X.rens_map f es]; rfl
def D.ren (f : Nat → Option Nat) : D → D
 | .bot => .bot
 | .c none e => .c none (e.ren f)
 | .c (some (t, k)) e => .c (some (t, k)) (e.ren f)
 | .agg es => .agg (E.rens f es)
 | .tup xs => .tup (X.rens f xs)
 | .ptr n off => match f n with | some m => .ptr m off | none => .bot
 | .ref es => .ref es
 | .ept n sz i off => match f n with | some m => .ept m sz i off | none => .bot
def Cell.ren (f : Nat → Option Nat) : Cell → Cell
 | (none, e) => (none, e.ren f)
 | (some (t, k), e) => (some (t, k), e.ren f)
def Cell.rens (f : Nat → Option Nat) : List Cell → List Cell
 | [] => []
 | c :: cs => Cell.ren f c :: Cell.rens f cs
theorem Cell.rens_map (f : Nat → Option Nat) : ∀ cs : List Cell, Cell.rens f cs = cs.map (Cell.ren f)
 | [] => rfl
 | e :: es => by rw [Cell.rens, Cell.rens_map f es]; rfl
def but (n m : Nat) : Option Nat := if m = n then none else if m < CAP then some m else none
def AS.kill (S : AS) (n : Nat) : AS := ⟨Zqs (D.ren (but n)) S.tmps, Zqs (Cell.rens (but n)) (del n S.boxes)⟩
def D.cells : D → Option (List Cell)
 | .c tk e => some [(tk, e)]
 | .agg es => some (es.map fun e => (none, e))
 | .ptr n off => some [(none, .pt n off)]
 | _ => none
def Zle (tk : Option (Nat × Nat)) (e : E) : D :=
 match e with
 | .pt n off => .ptr n off
 | e => .c tk e
def ZC6 : Nat := 2000001
def Zv0 (s : ByteArray) (pos : Int) : E := .ob ZC6 [[.v (.string s), .v (.int .i64 pos)]]
def ZqK : List Cell → Bool
 | [(none, .ob _ _)] => false
 | _ => true
def E.flat : E → Bool
 | .v _ | .sl _ | .nils | .ifc _ | .any => true
 | _ => false
def D.es : D → Option (List E)
 | .c _ e => some [e]
 | .agg es => some es
 | .ptr n off => some [.pt n off]
 | _ => none
def D.x : D → X
 | .c _ e => .c e
 | .agg es => .agg es
 | .ptr n off => .c (.pt n off)
 | _ => .bot
def X.d : X → D
 | .bot => .bot
 | .c e => Zle none e
 | .agg es => .agg es
def D.plain : D → D
 | .c _ e => .c none e
 | d => d
def D.retok (t : Nat) : D → D
 | .c (some (_, k)) e => .c (some (t, k)) e
 | d => d
def E.rows : E → Option (List (List E))
 | .sl rows => some rows
 | .nils => some []
 | _ => none
inductive TK where
 | bool | int (k : IntKind) | string | slice (e : Nat) | struct (fs : List (Nat × Nat)) | array (n e : Nat) | ptr (e : Nat) | func | map (k v : Nat) | iface | other
 deriving DecidableEq
structure TI where
 k : TK
 size : Nat
 bytes : Nat
 zero : Option (List E)
 cmp : Bool
def ZhG : Value → E
 | .slice none 0 0 => .nils
 | x => .v x
def Zm0 : Value → D
 | .agg cs => if cs.toList.all (·.oneCell') then .agg (cs.toList.map ZhG) else .bot
 | .tuple _ => .bot
 | x => .c none (ZhG x)
def ZhK : TypeDesc → TK
 | .bool => .bool
 | .int k => .int k
 | .string => .string
 | .slice e => .slice e
 | .struct fs => .struct (fs.toList.map fun f => (f.type, f.offset))
 | .array n e => .array n e
 | .pointer e => .ptr e
 | .func _ _ _ => .func
 | .map k v => .map k v
 | .interface _ => .iface
 | _ => .other
def Zvy : TypeDesc → Bool
 | .struct fs => fs.toList.all (·.name != "_")
 | _ => true
def Zxf : TypeDesc → Value → Bool
 | .struct _, .agg _ => true
 | .array _ _, .agg _ => true
 | .struct _, _ => false
 | .array _ _, _ => false
 | _, .agg _ => false
 | _, _ => true
def TI.of (P : Program) (t : Nat) : TI :=
 match P.info? t, P.underlying t with
 | some i, some d => ⟨ZhK d, i.size, i.bytes, (i.zero.bind fun z => if z.cells.toList.all (·.oneCell') && Zxf d z then some (z.cells.toList.map ZhG) else none),
   !P.stoodInHeld t && Zvy d && !P.eqGuardType P.depth t⟩
 | _, _ => ⟨.other, 0, 0, none, false⟩
abbrev Tab := List (Nat × TI)
def TOk (P : Program) (L : Tab) : Prop := (L.map fun p => (p.1, TI.of P p.1)) = L
def Tab.ti (L : Tab) (t : Nat) : TI := (Z2 L t).getD ⟨.other, 0, 0, none, false⟩
def TI.isAgg (i : TI) : Bool := match i.k with | .struct _ | .array _ _ => true | _ => false
def TI.known (i : TI) : Bool := match i.k with | .other => false | _ => true
inductive WE : E → E → Prop
 | refl (e : E) : WE e e
 | nil : WE .nils (.sl [])
 | sl (a b : List (List E)) (hl : a.length = b.length) (hr : ∀ (i : Nat) (ra rb : List E), a[i]? = some ra → b[i]? = some rb → ra.length = rb.length)
   (he : ∀ (i k : Nat) (ra rb : List E) (x y : E), a[i]? = some ra → b[i]? = some rb → ra[k]? = some x → rb[k]? = some y → WE x y) : WE (.sl a) (.sl b)
def WL : List E → List E → Prop
 | [], [] => True
 | x :: xs, y :: ys => WE x y ∧ WL xs ys
 | _, _ => False

def AS.ev (S : AS) : Operand → D
 | .tmp t => S.get t
 | .const v => Zm0 v
 | .global g => .c none (.v (.pointer (some ⟨g, 0, none⟩)))
 | .func f => .c none (.v (.func (.func f) #[] #[]))
def D.int? : D → Option Int
 | .c _ (.v (.int _ n)) => some n
 | _ => none
def D.rows? : D → Option (List (List E))
 | .c _ (.sl rows) => some rows
 | .c _ .nils => some []
 | _ => none
def D.v? : D → Option Value
 | .c _ (.v x) => some x
 | _ => none
def ZAM (op : BinOp) (k : IntKind) (a b : Int) : Option Value :=
 match op with
 | .add => some (.int k (k.wrap (a + b)))
 | .sub => some (.int k (k.wrap (a - b)))
 | .mul => some (.int k (k.wrap (a * b)))
 | .quo => if b = 0 then none else some (.int k (k.wrap (a.tdiv b)))
 | .rem => if b = 0 then none else some (.int k (a.tmod b))
 | .eql => some (.bool (a == b))
 | .neq => some (.bool (a != b))
 | .lss => some (.bool (decide (a < b)))
 | .leq => some (.bool (decide (a ≤ b)))
 | .gtr => some (.bool (decide (a > b)))
 | .geq => some (.bool (decide (a ≥ b)))
 | _ => none
def ZBs (op : BinOp) (a b : ByteArray) : Option Value :=
 match op with
 | .add => some (.string (a ++ b))
 | .eql => some (.bool (a.toList == b.toList))
 | .neq => some (.bool !(a.toList == b.toList))
 | .lss => some (.bool (Op.bytesLess a.toList b.toList))
 | .leq => some (.bool (Op.bytesLess a.toList b.toList || a.toList == b.toList))
 | .gtr => some (.bool !(Op.bytesLess a.toList b.toList || a.toList == b.toList))
 | .geq => some (.bool !(Op.bytesLess a.toList b.toList))
 | _ => none
def ZC3 (op : BinOp) (x y : Value) : Option Value :=
 match x, y with
 | .int k a, .int k' b => if k = k' then ZAM op k a b else none
 | .string a, .string b => ZBs op a b
 | _, _ => none
def Zxn (op : BinOp) (x y : Value) : Prop :=
 match op, x, y with
 | .add, .string a, .string b => ((a.size + b.size : Nat) : Int) ≤ IntKind.i64.max
 | _, _, _ => True
def ZzD : TK → Value → Value → Option Bool
 | .bool, .bool a, .bool b => some (a == b)
 | .int _, .int k a, .int k' b => if k = k' then some (a == b) else none
 | .string, .string a, .string b => some (a.toList == b.toList)
 | _, _, _ => none
def Ziu : List E → List E → Option Bool
 | [], [] => some true
 | .v (.int k a) :: xs, .v (.int k' b) :: ys => if k = k' then (match Ziu xs ys with | some r => some ((a == b) && r) | none => none) else none
 | .v (.string a) :: xs, .v (.string b) :: ys => (match Ziu xs ys with | some r => some ((a == b) && r) | none => none)
 | .v (.bool a) :: xs, .v (.bool b) :: ys => (match Ziu xs ys with | some r => some ((a == b) && r) | none => none)
 | _, _ => none
def Zlf (n : Nat) (key : List E) : List (List E) → Option (Option (List E))
 | [] => some none
 | row :: rows =>
  match Ziu key (row.take n) with
  | some true => some (some (row.drop n))
  | some false => Zlf n key rows
  | none => none
def ZnZ (n : Nat) (key val : List E) : List (List E) → Option (List (List E))
 | [] => some [key ++ val]
 | row :: rows =>
  match Ziu key (row.take n) with
  | some true => some ((key ++ val) :: rows)
  | some false => (match ZnZ n key val rows with | some r => some (row :: r) | none => none)
  | none => none
def ZkJ : TK → List E → Bool
 | .int k, [.v (.int k' _)] => k == k'
 | .string, [.v (.string _)] => true
 | .bool, [.v (.bool _)] => true
 | _, _ => false
def Zt7 (L : Tab) (t : Nat) (es : List E) (off : Nat) : Option D :=
 if (L.ti t).known then
  if (L.ti t).isAgg then some (.agg ((es.drop off).take (L.ti t).size)) else (match es[off]? with | some e => some (.c none e) | none => none)
 else none
def ZzS (r : Nat → D → D → Option Bool) (L : Tab) : List (Nat × Nat) → List E → List E → Option Bool
 | [], _, _ => some true
 | (t, off) :: fs, xs, ys =>
  match Zt7 L t xs off, Zt7 L t ys off with
  | some a, some b =>
   match r t a b, ZzS r L fs xs ys with
   | some p, some q => some (p && q)
   | _, _ => none
  | _, _ => none
def Zzy (r : Nat → D → D → Option Bool) (L : Tab) (e : Nat) (xs ys : List E) : List Nat → Option Bool
 | [] => some true
 | i :: is =>
  match Zt7 L e xs (i * (L.ti e).size), Zt7 L e ys (i * (L.ti e).size) with
  | some a, some b =>
   match r e a b, Zzy r L e xs ys is with
   | some p, some q => some (p && q)
   | _, _ => none
  | _, _ => none
def eqD (L : Tab) : Nat → Nat → D → D → Option Bool
 | 0, _, _, _ => none
 | d + 1, t, .agg xs, .agg ys =>
  match (L.ti t).k with
  | .struct fs => if (L.ti t).cmp then ZzS (eqD L d) L fs xs ys else none
  | .array n e => if (L.ti t).cmp && (L.ti e).known then Zzy (eqD L d) L e xs ys (List.range n) else none
  | _ => none
 | d + 1, t, .c _ (.v x), .c _ (.v y) => ZzD (L.ti t).k x y
 | _ + 1, _, _, _ => none
def Zq0 (L : Tab) (t : Nat) (es : List E) (off : Nat) (K : D → Prop) : Prop :=
 (L.ti t).known = true ∧
 if (L.ti t).isAgg then K (.agg ((es.drop off).take (L.ti t).size))
 else match es[off]? with
  | some e => K (Zle none e)
  | none => False
def ZqZ (L : Tab) (S : AS) (t : Nat) (d : D) (K : D → Prop) : Prop :=
 (L.ti t).known = true ∧
 match d with
 | .ptr n off =>
  match S.box n with
  | some cs => ZqK cs = true ∧
   if (L.ti t).isAgg then off + (L.ti t).size ≤ cs.length ∧ K (.agg (((cs.drop off).take (L.ti t).size).map (·.2)))
   else match cs[off]? with
    | some c => K (Zle c.1 c.2)
    | none => False
  | none => False
 | .ept n sz i off =>
  match S.box n with
  | some [(none, .ob code rows)] =>
   code % 2 = 0 ∧ (L.ti (code / 2)).known = true ∧ sz = (L.ti (code / 2)).size ∧ (match rows[i]? with
    | some row => if (L.ti t).isAgg then off + (L.ti t).size ≤ row.length ∧ K (.agg ((row.drop off).take (L.ti t).size)) else (match row[off]? with | some e => K (.c none e) | none => False)
    | none => False)
  | _ => False
 | .ref es =>
  if (L.ti t).isAgg then (L.ti t).size ≤ es.length ∧ K (.agg (es.take (L.ti t).size))
  else match es[0]? with
   | some e => K (.c none e)
   | none => False
 | _ => False
def Zjn (L : Tab) (t : Nat) (d : D) (f : Nat) (K : D → Prop) : Prop :=
 match (L.ti t).k with
 | .struct fs =>
  match fs[f]? with
  | some (ft, off) =>
   if (L.ti ft).size = 0 then False else
   match d with
   | .ptr n o => K (.ptr n (o + off))
   | .ref es => K (.ref (es.drop off))
   | .ept n sz i o => K (.ept n sz i (o + off))
   | _ => False
  | none => False
 | _ => False
def Zqe (L : Tab) (t : Nat) (d : D) (f : Nat) (K : D → Prop) : Prop :=
 match (L.ti t).k with
 | .struct fs =>
  match fs[f]?, d with
  | some (ft, off), .agg es => Zq0 L ft es off K
  | _, _ => False
 | _ => False
def Zjb (L : Tab) (t : Nat) (d i : D) (K : D → Prop) : Prop :=
 match i.int? with
 | none => False
 | some n =>
  match (L.ti t).k with
  | .slice e =>
   match d with
   | .c _ (.rs m l) => (L.ti e).known = true ∧ 0 ≤ n ∧ n < (l : Nat) ∧ K (.ept m (L.ti e).size n.toNat 0)
   | _ => match d.rows? with
    | some rows => (L.ti e).known = true ∧ 0 ≤ n ∧ (match rows[n.toNat]? with
     | some row => row.length = (L.ti e).size ∧ K (.ref row)
     | none => False)
    | none => False
  | .array len e =>
   (L.ti e).known = true ∧ 0 ≤ n ∧ n < len ∧ (match d with
    | .ptr m off => K (.ptr m (off + n.toNat * (L.ti e).size))
    | .ref es => K (.ref (es.drop (n.toNat * (L.ti e).size)))
    | .ept m sz i off => K (.ept m sz i (off + n.toNat * (L.ti e).size))
    | _ => False)
  | _ => False
def Zql (L : Tab) (t : Nat) (d i : D) (K : D → Prop) : Prop :=
 match i.int? with
 | none => False
 | some n =>
  match (L.ti t).k, d with
  | .string, .c _ (.v (.string s)) => 0 ≤ n ∧ (match s[n.toNat]? with
   | some b => K (.c none (.v (.int .u8 b.toNat)))
   | none => False)
  | .array len e, .agg es => (L.ti e).known = true ∧ 0 ≤ n ∧ n < len ∧ Zq0 L e es (n.toNat * (L.ti e).size) K
  | _, _ => False
def ZdI (dflt : Nat) : Option D → Option Int
 | none => some dflt
 | some d => d.int?
def Zpl (L : Tab) (t : Nat) (d : D) (lo hi mx : Option D) (K : D → Prop) : Prop :=
 match mx with
 | some _ => False
 | none =>
  match (L.ti t).k, d with
  | .string, .c _ (.v (.string s)) =>
   match ZdI 0 lo, ZdI s.size hi with
   | some l, some h => 0 ≤ l ∧ l ≤ h ∧ h ≤ s.size ∧ K (.c none (.v (.string (s.extract l.toNat h.toNat))))
   | _, _ => False
  | .slice e, .c _ (.sl rows) =>
   match ZdI 0 lo, ZdI rows.length hi with
   | some l, some h => 0 ≤ l ∧ l ≤ h ∧ h ≤ rows.length ∧ (∀ row ∈ rows, row.length = (L.ti e).size) ∧ (L.ti e).known = true ∧ K (.c none (.sl ((rows.take h.toNat).drop l.toNat)))
   | _, _ => False
  | .slice e, .c _ (.rs n m) =>
   match ZdI 0 lo, ZdI m hi with
   | some l, some h => l = 0 ∧ 0 ≤ h ∧ h ≤ m ∧ (L.ti e).known = true ∧ K (.c none (.rs n h.toNat))
   | _, _ => False
  | .slice e, .c _ .nils =>
   match ZdI 0 lo, ZdI 0 hi with
   | some l, some h => l = 0 ∧ h = 0 ∧ (L.ti e).known = true ∧ K (.c none .nils)
   | _, _ => False
  | _, _ => False
def ZnQ (cells : List E) (off : Nat) (new : List E) : List E := cells.take off ++ new ++ cells.drop (off + new.length)
def Zhp (S : AS) (place : Nat → Option (Nat × Nat)) : List (Nat × Operand) → List E → (List E → Prop) → Prop
 | [], cells, K => K cells
 | (i, x) :: rest, cells, K =>
  match place i, (S.ev x).es with
  | some (off, size), some es => es.length = size ∧ off + es.length ≤ cells.length ∧ Zhp S place rest (ZnQ cells off es) K
  | _, _ => False
def ZkR (size : Nat) : Nat → List E → List (List E)
 | 0, _ => []
 | n + 1, cells => cells.take size :: ZkR size n (cells.drop size)
def ZuJ (n : Nat) (z : List E) : List E := (List.replicate n z).flatten
def ZBU (l : List Int) : ByteArray := l.foldl (fun r n => r.push (UInt8.ofNat n.toNat)) ByteArray.empty
def Zxv (n : Int) : List E := [.v (.int .u8 n)]
def Zl6 (L : Tab) (src dst : Nat) (d : D) (K : D → Prop) : Prop :=
 match (L.ti dst).k, d with
 | .int k, .c _ (.v (.int _ n)) => (match (L.ti src).k with | .int _ => True | _ => False) ∧ K (.c none (.v (.int k (k.wrap n))))
 | .string, .c _ (.v (.string s)) => (match (L.ti src).k with | .string => True | _ => False) ∧ K (.c none (.v (.string s)))
 | .string, .c _ (.sl rows) => (match (L.ti src).k with | .slice e => (L.ti e).k = .int .u8 | _ => False) ∧ ∃ l : List Int, rows = l.map Zxv ∧ K (.c none (.v (.string (ZBU l))))
 | _, _ => False
def Zvi (L : Tab) (S : AS) (t : Nat) (d : D) (K : D → Prop) : Prop :=
 match (L.ti t).k, d with
 | .slice _, .c _ (.rs _ l) => l ≤ maxLen → K (.c none (.v (.int .i64 l)))
 | .map _ _, .c _ (.rf n) =>
  match S.box n with
  | some [(none, .ob code rows)] => code = 2 * t + 1 ∧ K (.c none (.v (.int .i64 rows.length)))
  | _ => False
 | .string, .c _ (.v (.string s)) => K (.c none (.v (.int .i64 s.size)))
 | .slice _, .c _ (.sl rows) => rows.length ≤ maxLen → K (.c none (.v (.int .i64 rows.length)))
 | .slice _, .c _ .nils => K (.c none (.v (.int .i64 0)))
 | _, _ => False
def ZsP (mx : Bool) (d e : D) (K : D → Prop) : Prop :=
 match d, e with
 | .c _ (.v (.int k a)), .c _ (.v (.int _ b)) => K (.c none (.v (.int k (if mx then (if b > a then b else a) else (if b < a then b else a)))))
 | _, _ => False
def Zyp (L : Tab) (op : BinOp) (t : Nat) (d e : D) (K : D → Prop) : Prop :=
 match d, e with
 | .c _ (.v x), .c _ (.v y) =>
  match ZC3 op x y with
  | some r => Zxn op x y ∧ K (.c none (.v r))
  | none => match (L.ti t).k, op, x, y with
   | .bool, .eql, .bool a, .bool b => K (.c none (.v (.bool (a == b))))
   | .bool, .neq, .bool a, .bool b => K (.c none (.v (.bool (!(a == b)))))
   | _, _, _, _ => False
 | .c _ (.sl rows), .c _ .nils =>
  match (L.ti t).k, op with
  | .slice _, .eql => (rows = [] → K (.c none (.v (.bool true)))) ∧ K (.c none (.v (.bool false)))
  | .slice _, .neq => (rows = [] → K (.c none (.v (.bool false)))) ∧ K (.c none (.v (.bool true)))
  | _, _ => False
 | .c _ .nils, .c _ .nils =>
  match (L.ti t).k, op with
  | .slice _, .eql => K (.c none (.v (.bool true)))
  | .slice _, .neq => K (.c none (.v (.bool false)))
  | _, _ => False
 | .agg xs, .agg ys =>
  match eqD L 8 t (.agg xs) (.agg ys), op with
  | some b, .eql => K (.c none (.v (.bool b)))
  | some b, .neq => K (.c none (.v (.bool (!b))))
  | _, _ => False
 | _, _ => False
def ZAp : Operand → Bool
 | .const .nilIface => true
 | _ => false
def Zr8 (L : Tab) (S : AS) (op : BinOp) (t : Nat) (x y : Operand) (K : D → Prop) : Prop :=
 match ZAp y with
 | true =>
  match S.ev x, op, (L.ti t).k with
  | .c _ (.ifc b), .eql, .iface => K (.c none (.v (.bool (!b))))
  | .c _ (.ifc b), .neq, .iface => K (.c none (.v (.bool b)))
  | _, _, _ => False
 | false => Zyp L op t (S.ev x) (S.ev y) K
def unK (op : UnOp) (d : D) (K : D → Prop) : Prop :=
 match op, d with
 | .neg, .c _ (.v (.int k n)) => K (.c none (.v (.int k (k.wrap (0 - n)))))
 | .not, .c _ (.v (.bool b)) => K (.c none (.v (.bool !b)))
 | _, _ => False
def ZzM (d : D) (K : D → Prop) : Prop :=
 match d with
 | .ptr n off => K (.ptr n off)
 | .ref es => K (.ref es)
 | .c tk (.v (.func (.func f) a b)) => K (.c tk (.v (.func (.func f) a b)))
 | .c tk (.cl f a b) => K (.c tk (.cl f a b))
 | .ept n sz i off => K (.ept n sz i off)
 | _ => False
def D.e? : D → Option E
 | .c _ e => some e
 | .ptr n off => some (.pt n off)
 | _ => none
def ZpA? (S : AS) : List Operand → Option (List E)
 | [] => some []
 | x :: xs => match (S.ev x).e?, ZpA? S xs with
  | some e, some es => some (e :: es)
  | _, _ => none
def Zw0 (L : Tab) (t : Nat) (es : List E) : X :=
 if (L.ti t).isAgg then .agg es else (match es with | [e] => .c e | _ => .bot)
def ZjY (L : Tab) (S : AS) (t : Nat) (d k : D) (commaOk : Bool) (K : D → Prop) : Prop :=
 match (L.ti t).k, d, k.e? with
 | .map kt vt, .c _ (.rf n), some ke =>
  match S.box n with
  | some [(none, .ob code rows)] => code = 2 * t + 1 ∧ ZkJ (L.ti kt).k [ke] = true ∧ (L.ti kt).size = 1 ∧ (L.ti vt).known = true ∧
   ∃ cells ok cells', Zlf 1 [ke] rows = some (bif ok then some cells else none) ∧ (ok = false → (L.ti vt).zero = some cells) ∧ cells.length = (L.ti vt).size ∧ WL cells cells' ∧
    K (if commaOk then .tup [Zw0 L vt cells', .c (.v (.bool ok))] else (Zw0 L vt cells').d)
  | _ => False
 | _, _, _ => False
def ZcM? (S : AS) : List Operand → Option (List Value)
 | [] => some []
 | x :: xs => match (S.ev x).v?, ZcM? S xs with
  | some v, some vs => some (v :: vs)
  | _, _ => none
def ZgU (b : Bool) (A B : Prop) : Prop :=
 match b with
 | true => A
 | false => B
def ZiP (b want : Bool) (A B : Prop) : Prop :=
 match want with
 | true => ZgU b A B
 | false => ZgU b B A
theorem ZpT {b : Bool} {A B : Prop} (h1 : b = true → A) (h2 : b = false → B) : ZgU b A B := by cases b; exact h2 rfl; exact h1 rfl
theorem Zlc {b want : Bool} {A B : Prop} (h : ZiP b want A B) (hb : b = want) : A := by subst hb; cases b <;> exact h
theorem Zmq {b want : Bool} {A B : Prop} (h : ZiP b want A B) (hb : b = !want) : B := by subst hb; cases want <;> exact h
def opV (L : Tab) (S : AS) (op : Op) (K : D → Prop) : Prop :=
 match op with
 | .move x | .assign x => K (S.ev x)
 | .pick c a b =>
  match S.ev c with
  | .c _ (.v (.bool t)) => ZgU t (K (S.ev a)) (K (S.ev b))
  | _ => False
 | .load t p => ZqZ L S t (S.ev p) K
 | .fieldAddr t p f => Zjn L t (S.ev p) f K
 | .field t x f => Zqe L t (S.ev x) f K
 | .indexAddr t x i => Zjb L t (S.ev x) (S.ev i) K
 | .index t x i => Zql L t (S.ev x) (S.ev i) K
 | .slice t x lo hi mx => Zpl L t (S.ev x) (lo.map S.ev) (hi.map S.ev) (mx.map S.ev) K
 | .binOp op t x y _ => Zr8 L S op t x y K
 | .unOp op _ x => unK op (S.ev x) K
 | .convert s t x => Zl6 L s t (S.ev x) K
 | .nilCheck x => ZzM (S.ev x) K
 | .build t parts =>
  match (L.ti t).k, (L.ti t).zero with
  | .struct fs, some z => (fs.all fun f => (L.ti f.1).known) = true ∧ Zhp S (fun i => (fs[i]?).map fun f => (f.2, (L.ti f.1).size)) parts.toList z fun es => K (.agg es)
  | .array _ e, some z => (L.ti e).known = true ∧ Zhp S (fun i => some (i * (L.ti e).size, (L.ti e).size)) parts.toList z fun es => K (.agg es)
  | _, _ => False
 | .extract x i =>
  match S.ev x with
  | .tup xs => (match xs[i]? with | some x => K x.d | none => False)
  | _ => False
 | .makeFunc fn first captured =>
  match fn with
  | .func g => (match ZpA? S first.toList, ZpA? S captured.toList with
   | some a, some b => K (.c none (.cl g a b))
   | _, _ => False)
  | fn => (match ZcM? S first.toList, ZcM? S captured.toList with
   | some a, some b => K (.c none (.v (.func fn a.toArray b.toArray)))
   | _, _ => False)
 | .lookup t m k ok => ZjY L S t (S.ev m) (S.ev k) ok K
 | .call c =>
  match c.callee, c.args.toList, c.argTypes.toList with
  | .builtin .len, [x], [t] => Zvi L S t (S.ev x) K
  | .builtin .max, [x, y], _ => ZsP true (S.ev x) (S.ev y) K
  | .builtin .min, [x, y], _ => ZsP false (S.ev x) (S.ev y) K
  | _, _, _ => False
 | _ => False

set_option linter.unusedSimpArgs false
open Go.RowKit
abbrev ZaA := Nat → Nat → Prop
class Gl (P : Program) where
 l : List (Nat × Nat × (Option Value → Prop))
def Zlh (P : Program) [Gl P] (w : World) (S : ZaA) : Prop := ∀ x ∈ (Gl.l P : List (Nat × Nat × (Option Value → Prop))), S x.1 x.2.1 ∧ x.2.2 (w.cell? ⟨x.1, x.2.1, none⟩)
theorem Zlh.later {P : Program} [Gl P] {w w' : World} {S S' : ZaA} (h : Zlh P w S) (h1 : ∀ b o, S b o → S' b o) (h2 : ∀ b o, S b o → w'.cell? ⟨b, o, none⟩ = w.cell? ⟨b, o, none⟩) : Zlh P w' S' :=
 fun x hx => let ⟨h3, h4⟩ := h x hx; ⟨h1 _ _ h3, by rw [h2 _ _ h3]; exact h4⟩
inductive Zdo (w : World) (St : ZaA) : E → Value → Prop
 | v (x : Value) (h : x.oneCell' = true) : Zdo w St (.v x) x
 | nils : Zdo w St .nils (.slice none 0 0)
 | ifc (b : Bool) (x : Value) (h : (b = false ∧ x = .nilIface) ∨ (b = true ∧ ∃ t u, x = .iface t u)) : Zdo w St (.ifc b) x
 | any (x : Value) (h : x.oneCell' = true) : Zdo w St .any x
 | sl (rows : List (List E)) (A : Option Addr) (n c sz b o : Nat) (ZcM : Nat → Nat → Value) (hn : rows.length = n) (hc : n ≤ c) (hm : c ≤ maxLen)
   (hA : 0 < n → A = some ⟨b, o, none⟩) (hs : ∀ (i : Nat) (row : List E), rows[i]? = some row → row.length = sz)
   (hv : ∀ (i k : Nat) (row : List E) (e : E), rows[i]? = some row → row[k]? = some e → St b (o + i * sz + k) ∧ w.cell? ⟨b, o + i * sz + k, none⟩ = some (ZcM i k))
   (hr : ∀ (i k : Nat) (row : List E) (e : E), rows[i]? = some row → row[k]? = some e → Zdo w St e (ZcM i k)) : Zdo w St (.sl rows) (.slice A n c)
def Zg8 (w w' : World) (St St' : ZaA) : Prop := (∀ b o, St b o → St' b o) ∧ ∀ b o, St b o → w'.cell? ⟨b, o, none⟩ = w.cell? ⟨b, o, none⟩
theorem Zg8.refl (w : World) (St : ZaA) : Zg8 w w St St := ⟨fun _ _ h => h, fun _ _ _ => rfl⟩
theorem Zg8.trans {w w1 w2 : World} {S S1 S2 : ZaA} (h : Zg8 w w1 S S1) (k : Zg8 w1 w2 S1 S2) : Zg8 w w2 S S2 :=
 ⟨fun b o hb => k.1 b o (h.1 b o hb), fun b o hb => (k.2 b o (h.1 b o hb)).trans (h.2 b o hb)⟩
theorem Zdo.later {w w' : World} {St St' : ZaA} (hl : Zg8 w w' St St') {e : E} {x : Value} (h : Zdo w St e x) : Zdo w' St' e x := by
 induction h with
 | v x h => exact .v x h
 | nils => exact .nils
 | ifc b x h => exact .ifc b x h
 | any x h => exact .any x h
 | sl rows A n c sz b o ZcM hn hc hm hA hs hv hr ih =>
  exact .sl rows A n c sz b o ZcM hn hc hm hA hs
   (fun i k row e hi hk => ⟨hl.1 _ _ (hv i k row e hi hk).1, (hl.2 _ _ (hv i k row e hi hk).1).trans (hv i k row e hi hk).2⟩) ih
theorem Zdo.oneCell {w : World} {St : ZaA} {e : E} {x : Value} (h : Zdo w St e x) : x.oneCell' = true := by
 cases h with
 | v _ h => exact h
 | nils => rfl
 | ifc b x h => rcases h with ⟨_, rfl⟩ | ⟨_, t, u, rfl⟩ <;> rfl
 | any x h => exact h
 | sl => rfl
def ZgT (w : World) (St : ZaA) (es : List E) (vs : List Value) : Prop := es.length = vs.length ∧ ∀ (k : Nat) (e : E), es[k]? = some e → ∃ u, vs[k]? = some u ∧ Zdo w St e u
theorem ZgT.later {w w' : World} {St St' : ZaA} (hl : Zg8 w w' St St') {es : List E} {vs : List Value} (h : ZgT w St es vs) : ZgT w' St' es vs :=
 ⟨h.1, fun k e hk => let ⟨u, hu, hr⟩ := h.2 k e hk; ⟨u, hu, hr.later hl⟩⟩
inductive Zca (w : World) (St : ZaA) (ρ : Nat → Nat) : E → Value → Prop
 | e (e : E) (v : Value) (h : Zdo w St e v) : Zca w St ρ e v
 | rf (n : Nat) : Zca w St ρ (.rf n) (.map (some (ρ n)))
 | rs0 (n : Nat) (A : Option Addr) (h : ρ (CAP + n) = 0) : Zca w St ρ (.rs n 0) (.slice A 0 0)
 | rs (n l : Nat) (h : 0 < ρ (CAP + n)) (hl : l ≤ ρ (CAP + n)) (hm : ρ (CAP + n) ≤ maxLen) : Zca w St ρ (.rs n l) (.slice (some ⟨ρ n, 0, none⟩) l (ρ (CAP + n)))
 | pt (n off : Nat) : Zca w St ρ (.pt n off) (.pointer (some ⟨ρ n, off, none⟩))
 | cl (g : Nat) (fs cs : List E) (vs us : List Value) (h1 : fs.length = vs.length) (h2 : cs.length = us.length) (h3 : ∀ (k : Nat) (e : E) (u : Value), fs[k]? = some e → vs[k]? = some u → Zca w St ρ e u)
   (h4 : ∀ (k : Nat) (e : E) (u : Value), cs[k]? = some e → us[k]? = some u → Zca w St ρ e u) : Zca w St ρ (.cl g fs cs) (.func (.func g) vs.toArray us.toArray)
theorem Zca.later {w w' : World} {St St' : ZaA} {ρ : Nat → Nat} (hl : Zg8 w w' St St') {e : E} {x : Value} (h : Zca w St ρ e x) : Zca w' St' ρ e x := by
 induction h with
 | e e v h => exact .e e v (h.later hl)
 | rf n => exact .rf n
 | rs0 n A h => exact .rs0 n A h
 | rs n l h hl hm => exact .rs n l h hl hm
 | pt n off => exact .pt n off
 | cl g fs cs vs us h1 h2 h3 h4 ih3 ih4 => exact .cl g fs cs vs us h1 h2 ih3 ih4
theorem Zca.oneCell {w : World} {St : ZaA} {ρ : Nat → Nat} {e : E} {x : Value} (h : Zca w St ρ e x) : x.oneCell' = true := by
 cases h with
 | e _ _ h => exact h.oneCell
 | _ => rfl
theorem Zca.plain {w : World} {St : ZaA} {ρ : Nat → Nat} {e : E} {x : Value} (h : Zca w St ρ e x) (hf : e.flat = true) : Zdo w St e x := by
 cases h with
 | e _ _ h => exact h
 | _ => cases hf
theorem Zca.val {w : World} {St : ZaA} {ρ : Nat → Nat} {y x : Value} (h : Zca w St ρ (.v y) x) : Zdo w St (.v y) x := h.plain rfl
def Zoj (f : Nat → Option Nat) (ρ ρ' : Nat → Nat) : Prop := ∀ n m, f n = some m → ρ' m = ρ n ∧ ρ' (CAP + m) = ρ (CAP + n)
theorem Zca.ren {w : World} {St : ZaA} {ρ ρ' : Nat → Nat} {f : Nat → Option Nat} (hf : Zoj f ρ ρ') {e : E} {x : Value} (h : Zca w St ρ e x) : Zca w St ρ' (e.ren f) x := by
 induction h with
 | e e v h =>
  have : e.ren f = e := by cases h <;> rfl
  rw [this]; exact .e e v h
 | rf n =>
  simp only [E.ren]
  cases hn : f n with
  | none => exact .e _ _ (.any _ rfl)
  | some m => rw [← (hf n m hn).1]; exact .rf m
 | rs0 n A h =>
  simp only [E.ren]
  cases hn : f n with
  | none => exact .e _ _ (.any _ rfl)
  | some m => exact .rs0 m A (by rw [(hf n m hn).2]; exact h)
 | rs n l h hl hm =>
  simp only [E.ren]
  cases hn : f n with
  | none => exact .e _ _ (.any _ rfl)
  | some m => rw [← (hf n m hn).1, ← (hf n m hn).2]; exact .rs m l (by rw [(hf n m hn).2]; exact h) (by rw [(hf n m hn).2]; exact hl) (by rw [(hf n m hn).2]; exact hm)
 | pt n off =>
  simp only [E.ren]
  cases hn : f n with
  | none => exact .e _ _ (.any _ rfl)
  | some m => rw [← (hf n m hn).1]; exact .pt m off
 | cl g fs cs vs us h1 h2 h3 h4 ih3 ih4 =>
  simp only [E.ren]
  refine .cl g _ _ vs us (by rw [E.rens_map]; simpa using h1) (by rw [E.rens_map]; simpa using h2) (fun k e u hk hu => ?_) (fun k e u hk hu => ?_)
  ·rw [E.rens_map, List.getElem?_map, Option.map_eq_some_iff] at hk
   obtain ⟨e0, h5, rfl⟩ := hk
   exact ih3 k e0 u h5 hu
  ·rw [E.rens_map, List.getElem?_map, Option.map_eq_some_iff] at hk
   obtain ⟨e0, h5, rfl⟩ := hk
   exact ih4 k e0 u h5 hu
def Ze9 (w : World) (St : ZaA) (ρ : Nat → Nat) (es : List E) (vs : List Value) : Prop := es.length = vs.length ∧ ∀ (k : Nat) (e : E), es[k]? = some e → ∃ u, vs[k]? = some u ∧ Zca w St ρ e u
theorem Ze9.later {w w' : World} {St St' : ZaA} {ρ : Nat → Nat} (hl : Zg8 w w' St St') {es : List E} {vs : List Value} (h : Ze9 w St ρ es vs) : Ze9 w' St' ρ es vs :=
 ⟨h.1, fun k e hk => let ⟨u, hu, hr⟩ := h.2 k e hk; ⟨u, hu, hr.later hl⟩⟩
theorem Ze9.ren {w : World} {St : ZaA} {ρ ρ' : Nat → Nat} {f : Nat → Option Nat} (hf : Zoj f ρ ρ') {es : List E} {vs : List Value} (h : Ze9 w St ρ es vs) : Ze9 w St ρ' (E.rens f es) vs := by
 rw [E.rens_map]
 refine ⟨by simpa using h.1, fun k e hk => ?_⟩
 rw [List.getElem?_map, Option.map_eq_some_iff] at hk
 obtain ⟨e0, h5, rfl⟩ := hk
 obtain ⟨u, hu, hr⟩ := h.2 k e0 h5
 exact ⟨u, hu, hr.ren hf⟩
theorem Ze9.of {w : World} {St : ZaA} {ρ : Nat → Nat} {es : List E} {vs : List Value} (h : ZgT w St es vs) : Ze9 w St ρ es vs := ⟨h.1, fun k e hk => let ⟨u, hu, hr⟩ := h.2 k e hk; ⟨u, hu, .e _ _ hr⟩⟩
theorem Ze9.plain {w : World} {St : ZaA} {ρ : Nat → Nat} {es : List E} {vs : List Value} (h : Ze9 w St ρ es vs) (hf : es.all E.flat = true) : ZgT w St es vs :=
 ⟨h.1, fun k e hk => let ⟨u, hu, hr⟩ := h.2 k e hk; ⟨u, hu, hr.plain (List.all_eq_true.1 hf e (List.mem_of_getElem? hk))⟩⟩
def ZqD (w : World) (St : ZaA) (ρ : Nat → Nat) : X → Value → Prop
 | .bot, _ => True
 | .c e, v => Zca w St ρ e v
 | .agg es, v => ∃ vs : List Value, v = .agg vs.toArray ∧ Ze9 w St ρ es vs
def ZB6 (w : World) (St : ZaA) (es : List E) (b o : Nat) : Prop := ∀ (k : Nat) (e : E), es[k]? = some e → ∃ u, St b (o + k) ∧ w.cell? ⟨b, o + k, none⟩ = some u ∧ Zdo w St e u
def Zet (w : World) (St : ZaA) (ρ : Nat → Nat) : D → Value → Prop
 | .bot, _ => True
 | .c _ e, v => Zca w St ρ e v
 | .agg es, v => ∃ vs : List Value, v = .agg vs.toArray ∧ Ze9 w St ρ es vs
 | .tup xs, v => ∃ vs : List Value, v = .tuple vs.toArray ∧ xs.length = vs.length ∧ ∀ (k : Nat) (x : X), xs[k]? = some x → ∃ u, vs[k]? = some u ∧ ZqD w St ρ x u
 | .ptr n off, v => v = .pointer (some ⟨ρ n, off, none⟩)
 | .ref es, v => ∃ b o, v = .pointer (some ⟨b, o, none⟩) ∧ ZB6 w St es b o
 | .ept n sz i off, v => v = .pointer (some ⟨ρ n, i * sz + off, none⟩)
theorem ZqD.later {w w' : World} {St St' : ZaA} {ρ : Nat → Nat} (hl : Zg8 w w' St St') {x : X} {v : Value} (h : ZqD w St ρ x v) : ZqD w' St' ρ x v := by
 cases x with
 | bot => exact trivial
 | c e => exact Zca.later hl h
 | agg es => obtain ⟨vs, rfl, h⟩ := h; exact ⟨vs, rfl, h.later hl⟩
theorem ZqD.ren {w : World} {St : ZaA} {ρ ρ' : Nat → Nat} {f : Nat → Option Nat} (hf : Zoj f ρ ρ') {x : X} {v : Value} (h : ZqD w St ρ x v) : ZqD w St ρ' (x.ren f) v := by
 cases x with
 | bot => exact trivial
 | c e => exact Zca.ren hf h
 | agg es => obtain ⟨vs, rfl, h⟩ := h; exact ⟨vs, rfl, h.ren hf⟩
theorem Zet.later {w w' : World} {St St' : ZaA} {ρ : Nat → Nat} (hl : Zg8 w w' St St') {d : D} {v : Value} (h : Zet w St ρ d v) : Zet w' St' ρ d v := by
 cases d with
 | bot => exact trivial
 | c t e => exact Zca.later hl h
 | agg es => obtain ⟨vs, rfl, h⟩ := h; exact ⟨vs, rfl, h.later hl⟩
 | tup xs => obtain ⟨vs, rfl, h1, h2⟩ := h; exact ⟨vs, rfl, h1, fun k x hk => let ⟨u, hu, hr⟩ := h2 k x hk; ⟨u, hu, hr.later hl⟩⟩
 | ptr n off => exact h
 | ref es => obtain ⟨b, o, rfl, h⟩ := h; exact ⟨b, o, rfl, fun k e hk => let ⟨u, hs, hu, hr⟩ := h k e hk; ⟨u, hl.1 _ _ hs, (hl.2 _ _ hs).trans hu, hr.later hl⟩⟩
 | ept n sz i off => exact h
theorem Zet.ren {w : World} {St : ZaA} {ρ ρ' : Nat → Nat} {f : Nat → Option Nat} (hf : Zoj f ρ ρ') {d : D} {v : Value} (h : Zet w St ρ d v) : Zet w St ρ' (d.ren f) v := by
 cases d with
 | bot => exact trivial
 | c tk e => cases tk with
  | none => exact Zca.ren hf h
  | some q => exact Zca.ren hf h
 | agg es => obtain ⟨vs, rfl, h⟩ := h; exact ⟨vs, rfl, h.ren hf⟩
 | tup xs =>
  obtain ⟨vs, rfl, h1, h2⟩ := h
  refine ⟨vs, rfl, by rw [X.rens_map]; simpa using h1, fun k x hk => ?_⟩
  rw [X.rens_map, List.getElem?_map, Option.map_eq_some_iff] at hk
  obtain ⟨e0, h5, rfl⟩ := hk
  obtain ⟨u, hu, hr⟩ := h2 k e0 h5
  exact ⟨u, hu, hr.ren hf⟩
 | ptr n off =>
  simp only [D.ren]
  cases hn : f n with
  | none => exact trivial
  | some m => show v = _; rw [(hf n m hn).1]; exact h
 | ref es => exact h
 | ept n sz i off =>
  simp only [D.ren]
  cases hn : f n with
  | none => exact trivial
  | some m => show v = _; rw [(hf n m hn).1]; exact h
theorem Zet.strip {w : World} {St : ZaA} {ρ : Nat → Nat} {d : D} {v : Value} (t : Nat) (h : Zet w St ρ d v) : Zet w St ρ (Zn1 t d) v := by
 cases d with
 | c tk e => cases tk <;> exact h
 | _ => exact h
def Zcm (S : AS) (tm : Array Value) (w : World) (ρ : Nat → Nat) (t k : Nat) (e : E) (v : Value) : Prop :=
 (∃ i, S.get i = .c (some (t, k)) e ∧ v = tm.getD i undef) ∨ (∃ (n : Nat) (cs : List Cell) (j : Nat), S.box n = some cs ∧ cs[j]? = some (some (t, k), e) ∧ w.cell? ⟨ρ n, j, none⟩ = some v)
def Own (P : Program) [Gl P] (B : Nat) (M0 : Nat → Prop) (w : World) (St : ZaA) (k : Nat) (e : E) (v : Value) : Prop :=
 (v = .slice none 0 0 ∧ (e = .nils ∨ e = .sl [])) ∨
 ∃ g cap cur rows, e = .sl rows ∧ v = .slice (some ⟨g, 0, none⟩) rows.length cap ∧ (B ≤ g ∨ M0 g) ∧ w.heap[g]? = some (.cells cur k (0, 0)) ∧
  rows.length ≤ cap ∧ cap ≤ maxLen ∧ cur.size = cap * P.cellsOf k ∧ (∀ o, St g o → o < rows.length * P.cellsOf k)
def ZjR (P : Program) (t : Nat) : Bool := match P.underlying t with | some (.struct _) | some (.array _ _) => true | _ => false
def ZjW (agg : Bool) (us : List Value) : Value := if agg then .agg us.toArray else us.headD undef
inductive Zf4 (P : Program) (w : World) (St : ZaA) (ρ : Nat → Nat) (n : Nat) : List Cell → Prop
 | cells (cs : List Cell) (arr : Array Value) (t : TypeId) (h1 : w.heap[ρ n]? = some (.cells arr t (0, 0))) (h2 : arr.size = cs.length)
   (h3 : ∀ (k : Nat) (c : Cell), cs[k]? = some c → ∃ u, arr[k]? = some u ∧ Zca w St ρ c.2 u) : Zf4 P w St ρ n cs
 | row (k : Nat) (rows : List (List E)) (cur : Array Value) (h1 : w.heap[ρ n]? = some (.cells cur k (0, 0))) (h2 : rows.length ≤ ρ (CAP + n)) (h3 : ρ (CAP + n) ≤ maxLen) (h4 : cur.size = ρ (CAP + n) * P.cellsOf k)
   (h5 : ∀ (i : Nat) (row : List E), rows[i]? = some row → row.length = P.cellsOf k) (h6 : ∀ (i j : Nat) (row : List E) (e : E), rows[i]? = some row → row[j]? = some e → ∃ u, cur[i * P.cellsOf k + j]? = some u ∧ Zdo w St e u) :
   Zf4 P w St ρ n [(none, .ob (2 * k) rows)]
 | map (t kt vt : Nat) (d : TypeDesc) (rows : List (List E)) (es : Array MapEntry) (clock : Nat) (l : List MapEntry) (h0 : P.underlying t = some (.map kt vt)) (hd : P.underlying kt = some d) (h1 : w.heap[ρ n]? = some (.map es clock)) (hp : l.Perm es.toList) (h2 : rows.length = l.length)
   (h3 : ∀ (i : Nat) (row : List E), rows[i]? = some row → ∃ (en : MapEntry) (us vs : List Value), l[i]? = some en ∧ en.key = ZjW (ZjR P kt) us ∧ en.val = ZjW (ZjR P vt) vs ∧ us.length = P.cellsOf kt ∧ ZgT w St row (us ++ vs))
   (h4 : Go.MapKept.Stamped es clock) (h5 : ∀ x ∈ l, Go.MapKept.IsKey d x.key) : Zf4 P w St ρ n [(none, .ob (2 * t + 1) rows)]
 | iter (s : ByteArray) (pos : Nat) (h0 : P.underlying 1000000 = none) (h1 : w.heap[ρ n]? = some (.stringIter s pos)) : Zf4 P w St ρ n [(none, .ob 2000001 [[.v (.string s), .v (.int .i64 ((pos : Nat) : Int))]])]
theorem Zf4.blk {P : Program} {w : World} {St : ZaA} {ρ : Nat → Nat} {n : Nat} {cs : List Cell} (h : Zf4 P w St ρ n cs) : ρ n < w.heap.size := by
 have key : ∀ {o : Obj}, w.heap[ρ n]? = some o → ρ n < w.heap.size := fun {o} h => by
  rcases Nat.lt_or_ge (ρ n) w.heap.size with h' | h'
  ·exact h'
  ·simp [Array.getElem?_eq_none h'] at h
 cases h with
 | cells cs arr t h1 => exact key h1
 | row k rows cur h1 => exact key h1
 | map t kt vt d rows es clock l h0 hd h1 => exact key h1
 | iter s pos h0 h1 => exact key h1
theorem Zf4.later {P : Program} {w w' : World} {St St' : ZaA} {ρ : Nat → Nat} {n : Nat} {cs : List Cell} (hl : Zg8 w w' St St') (hb : w'.heap[ρ n]? = w.heap[ρ n]?) (h : Zf4 P w St ρ n cs) : Zf4 P w' St' ρ n cs := by
 cases h with
 | cells cs arr t h1 h2 h3 => exact .cells cs arr t (hb.trans h1) h2 fun k c hk => let ⟨u, hu, hr⟩ := h3 k c hk; ⟨u, hu, hr.later hl⟩
 | row k rows cur h1 h2 h3 h4 h5 h6 => exact .row k rows cur (hb.trans h1) h2 h3 h4 h5 fun i j row e hi hj => let ⟨u, hu, hr⟩ := h6 i j row e hi hj; ⟨u, hu, hr.later hl⟩
 | map t kt vt d rows es clock l h0 hd h1 hp h2 h3 hst hk => exact .map t kt vt d rows es clock l h0 hd (hb.trans h1) hp h2 (fun i row hi => let ⟨en, us, vs, h4, h5, h6, h7, h8⟩ := h3 i row hi; ⟨en, us, vs, h4, h5, h6, h7, h8.later hl⟩) hst hk
 | iter s pos h0 h1 => exact .iter s pos h0 (hb.trans h1)
theorem Zf4.ren {P : Program} {w : World} {St : ZaA} {ρ ρ' : Nat → Nat} {f : Nat → Option Nat} (hf : Zoj f ρ ρ') {n m : Nat} (hn : f n = some m) {cs : List Cell} (h : Zf4 P w St ρ n cs) : Zf4 P w St ρ' m (Cell.rens f cs) := by
 obtain ⟨e1, e2⟩ := hf n m hn
 cases h with
 | cells cs arr t h1 h2 h3 =>
  refine .cells _ arr t (by rw [e1]; exact h1) (by rw [Cell.rens_map]; simpa using h2) fun k c hk => ?_
  rw [Cell.rens_map, List.getElem?_map, Option.map_eq_some_iff] at hk
  obtain ⟨c0, h5, rfl⟩ := hk
  obtain ⟨u, hu, hr⟩ := h3 k c0 h5
  refine ⟨u, hu, ?_⟩
  obtain ⟨tk, e⟩ := c0
  cases tk with
  | none => exact hr.ren hf
  | some q => exact hr.ren hf
 | row k rows cur h1 h2 h3 h4 h5 h6 => exact .row k rows cur (by rw [e1]; exact h1) (by rw [e2]; exact h2) (by rw [e2]; exact h3) (by rw [e2]; exact h4) h5 h6
 | map t kt vt d rows es clock l h0 hd h1 hp h2 h3 hst hk => exact .map t kt vt d rows es clock l h0 hd (by rw [e1]; exact h1) hp h2 h3 hst hk
 | iter s pos h0 h1 => exact .iter s pos h0 (by rw [e1]; exact h1)
theorem Zf4.plain {P : Program} {w : World} {St : ZaA} {ρ : Nat → Nat} {n : Nat} {cs : List Cell} (h : Zf4 P w St ρ n cs) (hp : ZqK cs = true) : ∃ arr t, w.heap[ρ n]? = some (.cells arr t (0, 0)) ∧ arr.size = cs.length ∧
  ∀ (k : Nat) (c : Cell), cs[k]? = some c → ∃ u, arr[k]? = some u ∧ Zca w St ρ c.2 u := by
 cases h with
 | cells cs arr t h1 h2 h3 => exact ⟨arr, t, h1, h2, h3⟩
 | row => cases hp
 | map => cases hp
 | iter => cases hp
theorem Zf4.tok {P : Program} {w : World} {St : ZaA} {ρ : Nat → Nat} {n : Nat} {cs : List Cell} (h : Zf4 P w St ρ n cs) {j t k : Nat} {e : E} (hj : cs[j]? = some (some (t, k), e)) : ∃ arr t, w.heap[ρ n]? = some (.cells arr t (0, 0)) ∧ arr.size = cs.length ∧
  ∀ (k : Nat) (c : Cell), cs[k]? = some c → ∃ u, arr[k]? = some u ∧ Zca w St ρ c.2 u := by
 have no : ∀ e' : E, ([(none, e')] : List Cell)[j]? = some (some (t, k), e) → False := fun e' h => by
  cases j with
  | zero => simp at h
  | succ j => simp at h
 cases h with
 | cells cs arr t h1 h2 h3 => exact ⟨arr, t, h1, h2, h3⟩
 | row => exact (no _ hj).elim
 | map => exact (no _ hj).elim
 | iter => exact (no _ hj).elim
def ZuA (cs : List Cell) : Prop := ∃ k, cs = [(none, .ob (2 * k) [])]
theorem ZuA.tok {cs : List Cell} (h : ZuA cs) {j t k : Nat} {e : E} (hj : cs[j]? = some (some (t, k), e)) : False := by
 obtain ⟨k', rfl⟩ := h
 cases j with
 | zero => simp at hj
 | succ j => simp at hj
theorem ZuA.ren {cs : List Cell} (f : Nat → Option Nat) (h : ZuA cs) : ZuA (Cell.rens f cs) := by obtain ⟨k, rfl⟩ := h; exact ⟨k, rfl⟩
structure ZQ (P : Program) [Gl P] (w0 : World) (M0 : Nat → Prop) (S0 : ZaA) (S : AS) (tm : Array Value) (w : World) (St : ZaA) (ρ : Nat → Nat) : Prop where
 glob : Zlh P w0 S0
 os : w.os = w0.os
 tape : w.tape = w0.tape
 output : w.output = w0.output
 size : w0.heap.size ≤ w.heap.size
 old : ∀ b, b < w0.heap.size → ¬ M0 b → w.heap[b]? = w0.heap[b]?
 stay : ∀ b o, S0 b o → w.cell? ⟨b, o, none⟩ = w0.cell? ⟨b, o, none⟩
 up : ∀ b o, S0 b o → St b o
 dn : ∀ b o, St b o → b < w0.heap.size → S0 b o ∨ M0 b
 lt : ∀ b o, St b o → b < w.heap.size
 tmp : ∀ i, Zet w St ρ (S.get i) (tm.getD i undef)
 nm : ∀ n cs, S.box n = some cs → n < CAP
 box : ∀ n cs, S.box n = some cs → (ρ (CAP + n) = 0 ∧ ZuA cs) ∨ (0 < ρ (CAP + n) ∧ (w0.heap.size ≤ ρ n ∨ M0 (ρ n)) ∧ (∀ o, ¬ St (ρ n) o) ∧ Zf4 P w St ρ n cs)
 inj : ∀ n m cs ds, S.box n = some cs → S.box m = some ds → n ≠ m → 0 < ρ (CAP + n) → 0 < ρ (CAP + m) → ρ n ≠ ρ m
 own : ∀ t k e v, Zcm S tm w ρ t k e v → Own P w0.heap.size M0 w St k e v
 apart : ∀ t k e v t' k' e' v', Zcm S tm w ρ t k e v → Zcm S tm w ρ t' k' e' v' → t ≠ t' → v.ownBlock = none ∨ v.ownBlock ≠ v'.ownBlock
 ownbox : ∀ t k e v n cs, Zcm S tm w ρ t k e v → S.box n = some cs → 0 < ρ (CAP + n) → v.ownBlock ≠ some (ρ n)
theorem ZjG {α : Type} (i j : Nat) (x : α) (l : List (Nat × α)) : Z2 (ins i x l) j = if j = i then some x else Z2 l j := by
 induction l with
 | nil => simp [ins, Z2]
 | cons p l ih =>
  obtain ⟨a, y⟩ := p
  simp only [ins]
  by_cases h : i = a
  ·subst h; simp only [if_true, Z2]; split <;> simp_all
  ·rw [if_neg h]; simp only [Z2, ih]
   by_cases h1 : j = a
   ·subst h1; rw [if_pos rfl, if_neg (fun e => h e.symm)]; simp
   ·rw [if_neg h1]; simp [h1]
theorem Zn7 {α : Type} (i j : Nat) (l : List (Nat × α)) : Z2 (del i l) j = if j = i then none else Z2 l j := by
 induction l with
 | nil => simp [del, Z2]
 | cons p l ih =>
  obtain ⟨a, y⟩ := p
  simp only [del, Z2]
  by_cases h : i = a
  ·subst h; rw [if_pos rfl, ih]; split <;> simp_all
  ·rw [if_neg h]; simp only [Z2, ih]
   by_cases h1 : j = a
   ·subst h1; simp [show ¬ j = i from fun e => h e.symm]
   ·simp [h1]
theorem ZfA {α β : Type} (f : α → β) (l : List (Nat × α)) (j : Nat) : Z2 (l.map fun p => (p.1, f p.2)) j = (Z2 l j).map f := by
 induction l with
 | nil => rfl
 | cons p l ih => obtain ⟨a, y⟩ := p; simp only [List.map_cons, Z2, ih]; split <;> rfl
theorem Ze1 (S : AS) (i j : Nat) (d : D) : (S.put i d).get j = if j = i then d else S.get j := by
 simp only [AS.get, AS.put, ZjG]; split <;> rfl
theorem ZxA (S : AS) (i : Nat) (d : D) (n : Nat) : (S.put i d).box n = S.box n := rfl
theorem ZmD (S : AS) (n j : Nat) (cs : List Cell) : (S.setBox n cs).get j = S.get j := rfl
theorem ZbN (S : AS) (n m : Nat) (cs : List Cell) : (S.setBox n cs).box m = if m = n then some cs else S.box m := by simp only [AS.box, AS.setBox, ZjG]
theorem Zkb (S : AS) (t j : Nat) : (S.strip t).get j = Zn1 t (S.get j) := by
 simp only [AS.get, AS.strip, Zf9, ZfA]; cases Z2 S.tmps j <;> rfl
theorem ZlO (S : AS) (t n : Nat) : (S.strip t).box n = (S.box n).map (·.map (ZpD t)) := by simp only [AS.box, AS.strip, Zf9, ZfA]
theorem ZkO (S : AS) (n j : Nat) : (S.kill n).get j = (S.get j).ren (but n) := by
 simp only [AS.get, AS.kill, Zf9, ZfA]; cases Z2 S.tmps j <;> rfl
theorem ZiB (S : AS) (n m : Nat) : (S.kill n).box m = if m = n then none else (S.box m).map (Cell.rens (but n)) := by
 simp only [AS.box, AS.kill, Zf9, ZfA, Zn7]; split <;> rfl
theorem Zym (l : List Nat) (f : Nat → D) (j : Nat) : Z2 (l.map fun i => (i, f i)) j = if j ∈ l then some (f j) else none := by
 induction l with
 | nil => rfl
 | cons a l ih =>
  simp only [List.map_cons, Z2, ih, List.mem_cons]
  by_cases h : j = a
  ·subst h; simp
  ·simp [h]
theorem Zzt (S : AS) (ts bs : List Nat) (j : Nat) : (S.keep ts bs).get j = if j ∈ ts then S.get j else .bot := by
 have := Zym ts S.get j
 simp only [AS.get, AS.keep] at this ⊢
 rw [this]; split <;> rfl
theorem ZzO (S : AS) (ts bs : List Nat) (n : Nat) (cs : List Cell) (h : (S.keep ts bs).box n = some cs) : S.box n = some cs := by
 simp only [AS.box, AS.keep] at h
 induction bs with
 | nil => simp [Z2] at h
 | cons a l ih =>
  simp only [List.filterMap_cons] at h
  cases ha : Z2 S.boxes a with
  | none => simp only [AS.box, ha, Option.map_none] at h; exact ih h
  | some c =>
   simp only [AS.box, ha, Option.map_some, Z2] at h
   by_cases hn : n = a
   ·subst hn; rw [if_pos rfl] at h; simp only [AS.box]; rw [ha]; exact h
   ·rw [if_neg hn] at h; exact ih h
structure Zix (S T : AS) : Prop where
 get : ∀ i, T.get i = .bot ∨ T.get i = S.get i ∨ ∃ t e, S.get i = .c (some t) e ∧ T.get i = .c none e
 box : ∀ n cs, T.box n = some cs → ∃ ds, S.box n = some ds ∧ ds.length = cs.length ∧ ∀ (k : Nat) (c : Cell), cs[k]? = some c → ∃ d, ds[k]? = some d ∧ c.2 = d.2 ∧ (c.1 = d.1 ∨ c.1 = none)
theorem Zcm.less {S T : AS} (h : Zix S T) {tm : Array Value} {w : World} {ρ : Nat → Nat} {t k : Nat} {e : E} {v : Value} (hh : Zcm T tm w ρ t k e v) : Zcm S tm w ρ t k e v := by
 rcases hh with ⟨i, hi, hv⟩ | ⟨n, cs, j, hb, hj, hv⟩
 ·rcases h.get i with h1 | h1 | ⟨t', e', h1, h2⟩
  ·rw [hi] at h1; cases h1
  ·exact .inl ⟨i, h1 ▸ hi, hv⟩
  ·rw [hi] at h2; cases h2
 ·obtain ⟨ds, hd, hl, hk⟩ := h.box n cs hb
  obtain ⟨d, hdj, h2, h1⟩ := hk j _ hj
  rcases h1 with h1 | h1
  ·refine .inr ⟨n, ds, j, hd, ?_, hv⟩
   rw [hdj]; obtain ⟨d1, d2⟩ := d; simp only at h1 h2; subst h1 h2; rfl
  ·cases h1
theorem ZQ.less {P : Program} [Gl P] {w0 : World} {M0 : Nat → Prop} {S0 : ZaA} {S T : AS} {tm : Array Value} {w : World} {St : ZaA} {ρ : Nat → Nat}
  (h : ZQ P w0 M0 S0 S tm w St ρ) (hl : Zix S T) : ZQ P w0 M0 S0 T tm w St ρ where
 glob := h.glob
 os := h.os
 tape := h.tape
 output := h.output
 size := h.size
 old := h.old
 stay := h.stay
 up := h.up
 dn := h.dn
 lt := h.lt
 tmp i := by
  rcases hl.get i with h1 | h1 | ⟨t, e, h1, h2⟩
  ·rw [h1]; exact trivial
  ·rw [h1]; exact h.tmp i
  ·have := h.tmp i; rw [h1] at this; rw [h2]; exact this
 nm n cs hb := by obtain ⟨ds, hd, _⟩ := hl.box n cs hb; exact h.nm n ds hd
 box n cs hb := by
  obtain ⟨ds, hd, hln, hk⟩ := hl.box n cs hb
  have one : ∀ e : E, ds = [(none, e)] → cs = [(none, e)] := fun e he => by
   subst he
   match cs, hln, hk with
   | [c], _, hk =>
    obtain ⟨d, hd1, hd2, hd3⟩ := hk 0 c rfl
    simp only [List.getElem?_cons_zero, Option.some.injEq] at hd1
    subst hd1
    obtain ⟨c1, c2⟩ := c
    simp only at hd2 hd3
    subst hd2
    rcases hd3 with rfl | rfl <;> rfl
   | [], hln, _ => simp at hln
   | _ :: _ :: _, hln, _ => simp at hln
  rcases h.box n ds hd with ⟨h1, k, h2⟩ | ⟨h0, h1, h2, h3⟩
  ·exact .inl ⟨h1, k, one _ h2⟩
  ·refine .inr ⟨h0, h1, h2, ?_⟩
   cases h3 with
   | cells _ arr t h3 h4 h5 =>
    refine .cells cs arr t h3 (by omega) fun k c hc => ?_
    obtain ⟨d, hd1, hd2, _⟩ := hk k c hc
    obtain ⟨u, hu, hr⟩ := h5 k d hd1
    exact ⟨u, hu, hd2 ▸ hr⟩
   | row k rows cur h3 h4 h5 h6 h7 h8 => rw [one _ rfl]; exact .row k rows cur h3 h4 h5 h6 h7 h8
   | map t kt vt d rows es clock l h3 hd9 h4 hp h5 h6 hst hk9 => rw [one _ rfl]; exact .map t kt vt d rows es clock l h3 hd9 h4 hp h5 h6 hst hk9
   | iter s pos h3 h4 => rw [one _ rfl]; exact .iter s pos h3 h4
 inj n m cs ds hn hm hne := by
  obtain ⟨cs', hn', _⟩ := hl.box n cs hn
  obtain ⟨ds', hm', _⟩ := hl.box m ds hm
  exact h.inj n m cs' ds' hn' hm' hne
 own t k e v hh := h.own t k e v (hh.less hl)
 apart t k e v t' k' e' v' hh hh' hne := h.apart t k e v t' k' e' v' (hh.less hl) (hh'.less hl) hne
 ownbox t k e v n cs hh hb := by
  obtain ⟨cs', hn', _⟩ := hl.box n cs hb
  exact h.ownbox t k e v n cs' (hh.less hl) hn'
theorem Zix.refl (S : AS) : Zix S S := ⟨fun i => .inr (.inl rfl), fun n cs h => ⟨cs, h, rfl, fun k c hc => ⟨c, hc, rfl, .inl rfl⟩⟩⟩
theorem Zix.keep (S : AS) (ts bs : List Nat) : Zix S (S.keep ts bs) where
 get i := by rw [Zzt]; split; exact .inr (.inl rfl); exact .inl rfl
 box n cs h := ⟨cs, ZzO S ts bs n cs h, rfl, fun k c hc => ⟨c, hc, rfl, .inl rfl⟩⟩
theorem Zix.strip (S : AS) (t : Nat) : Zix S (S.strip t) where
 get i := by
  rw [Zkb]
  cases hd : S.get i with
  | c tk e =>
   cases tk with
   | none => exact .inr (.inl rfl)
   | some u =>
    obtain ⟨u, k⟩ := u
    simp only [Zn1]
    by_cases hu : u = t
    ·rw [if_pos hu]; exact .inr (.inr ⟨_, _, rfl, rfl⟩)
    ·rw [if_neg hu]; exact .inr (.inl rfl)
  | _ => exact .inr (.inl rfl)
 box n cs h := by
  rw [ZlO] at h
  cases hb : S.box n with
  | none => simp [hb] at h
  | some ds =>
   rw [hb] at h
   simp only [Option.map_some, Option.some.injEq] at h
   subst h
   refine ⟨ds, rfl, by simp, fun k c hc => ?_⟩
   rw [List.getElem?_map] at hc
   cases hk : ds[k]? with
   | none => simp [hk] at hc
   | some d =>
    rw [hk] at hc
    simp only [Option.map_some, Option.some.injEq] at hc
    subst hc
    refine ⟨d, rfl, ?_⟩
    obtain ⟨tk, e⟩ := d
    cases tk with
    | none => exact ⟨rfl, .inl rfl⟩
    | some u => obtain ⟨u, k⟩ := u; refine ⟨rfl, ?_⟩; simp only [ZpD]; split; exact .inr rfl; exact .inl rfl
theorem ZkC {S : AS} {tm : Array Value} {w : World} {ρ : Nat → Nat} {s t k : Nat} {e : E} {v : Value} (h : Zcm (S.strip s) tm w ρ t k e v) : t ≠ s := by
 rintro rfl
 rcases h with ⟨i, hi, _⟩ | ⟨n, cs, j, hb, hj, _⟩
 ·rw [Zkb] at hi
  cases hd : S.get i with
  | c tk e' =>
   rw [hd] at hi
   cases tk with
   | none => simp [Zn1] at hi
   | some u =>
    obtain ⟨u, k'⟩ := u
    simp only [Zn1, D.c.injEq] at hi
    obtain ⟨h1, _⟩ := hi
    split at h1
    ·cases h1
    ·rename_i hne; injection h1 with h1; injection h1 with h1; exact hne h1
  | _ => rw [hd] at hi; simp [Zn1] at hi
 ·rw [ZlO] at hb
  cases hbx : S.box n with
  | none => simp [hbx] at hb
  | some ds =>
   rw [hbx] at hb
   simp only [Option.map_some, Option.some.injEq] at hb
   subst hb
   rw [List.getElem?_map] at hj
   cases hk : ds[j]? with
   | none => simp [hk] at hj
   | some d =>
    rw [hk] at hj
    obtain ⟨tk, e'⟩ := d
    cases tk with
    | none => simp [ZpD] at hj
    | some u =>
     obtain ⟨u, k'⟩ := u
     simp only [Option.map_some, ZpD, Option.some.injEq, Prod.mk.injEq] at hj
     obtain ⟨h1, _⟩ := hj
     split at h1
     ·cases h1
     ·rename_i hne; injection h1 with h1; injection h1 with h1; exact hne h1
theorem Zx9 {S T : AS} {f : Nat → Option Nat} (h : ∀ i, T.get i = (S.get i).ren f) {i t k : Nat} {e : E} (hi : T.get i = .c (some (t, k)) e) : ∃ e0, S.get i = .c (some (t, k)) e0 ∧ e = e0.ren f := by
 rw [h] at hi
 cases hd : S.get i with
 | c tk e0 =>
  rw [hd] at hi
  cases tk with
  | none => simp [D.ren] at hi
  | some q => obtain ⟨t', k'⟩ := q; simp only [D.ren, D.c.injEq, Option.some.injEq, Prod.mk.injEq] at hi; obtain ⟨⟨rfl, rfl⟩, rfl⟩ := hi; exact ⟨e0, rfl, rfl⟩
 | ptr n off => rw [hd] at hi; simp only [D.ren] at hi; split at hi <;> cases hi
 | ept n sz j off => rw [hd] at hi; simp only [D.ren] at hi; split at hi <;> cases hi
 | _ => rw [hd] at hi; simp [D.ren] at hi
theorem Zmf {f : Nat → Option Nat} {cs : List Cell} {j t k : Nat} {e : E} (hj : (Cell.rens f cs)[j]? = some (some (t, k), e)) : ∃ e0, cs[j]? = some (some (t, k), e0) ∧ e = e0.ren f := by
 rw [Cell.rens_map, List.getElem?_map, Option.map_eq_some_iff] at hj
 obtain ⟨⟨tk, e0⟩, h5, h6⟩ := hj
 cases tk with
 | none => simp [Cell.ren] at h6
 | some q => obtain ⟨t', k'⟩ := q; simp only [Cell.ren, Prod.mk.injEq, Option.some.injEq] at h6; obtain ⟨⟨rfl, rfl⟩, rfl⟩ := h6; exact ⟨e0, h5, rfl⟩
theorem Own.ren {P : Program} [Gl P] {B : Nat} {M0 : Nat → Prop} {w : World} {St : ZaA} {k : Nat} {e : E} {v : Value} (f : Nat → Option Nat) (h : Own P B M0 w St k e v) : e.ren f = e := by
 rcases h with ⟨_, h | h⟩ | ⟨g, cap, cur, rows, h, _⟩
 ·subst h; rfl
 ·subst h; rfl
 ·subst h; rfl
structure Zz4 (f : Nat → Option Nat) (S T : AS) : Prop where
 get : ∀ i, T.get i = (S.get i).ren f
 box : ∀ m cs, T.box m = some cs → ∃ n ds, f n = some m ∧ S.box n = some ds ∧ cs = Cell.rens f ds
 one : ∀ n n' m, f n = some m → f n' = some m → n = n'
 lt : ∀ n m, f n = some m → m < CAP
theorem ZQ.turn {P : Program} [Gl P] {w0 : World} {M0 : Nat → Prop} {S0 : ZaA} {S T : AS} {tm : Array Value} {w : World} {St : ZaA} {ρ ρ' : Nat → Nat} {f : Nat → Option Nat}
  (h : ZQ P w0 M0 S0 S tm w St ρ) (ht : Zz4 f S T) (hf : Zoj f ρ ρ') : ZQ P w0 M0 S0 T tm w St ρ' := by
 have hheld : ∀ {t k : Nat} {e : E} {v : Value}, Zcm T tm w ρ' t k e v → Zcm S tm w ρ t k e v := fun {t k e v} hh => by
  have key : ∀ e0, Zcm S tm w ρ t k e0 v → e = e0.ren f → Zcm S tm w ρ t k e v := fun e0 h1 h2 => by
   rw [h2, (h.own _ _ _ _ h1).ren f]; exact h1
  rcases hh with ⟨i, hi, hv⟩ | ⟨m, cs, j, hb, hj, hv⟩
  ·obtain ⟨e0, h1, h2⟩ := Zx9 ht.get hi
   exact key e0 (.inl ⟨i, h1, hv⟩) h2
  ·obtain ⟨n, ds, h1, h2, rfl⟩ := ht.box m cs hb
   obtain ⟨e0, h3, h4⟩ := Zmf hj
   exact key e0 (.inr ⟨n, ds, j, h2, h3, by rw [← (hf n m h1).1]; exact hv⟩) h4
 exact { glob := h.glob, os := h.os, tape := h.tape, output := h.output, size := h.size, old := h.old, stay := h.stay, up := h.up, dn := h.dn, lt := h.lt
         tmp := fun i => by rw [ht.get]; exact (h.tmp i).ren hf
         nm := fun m cs hb => by obtain ⟨n, ds, h1, _⟩ := ht.box m cs hb; exact ht.lt n m h1
         box := fun m cs hb => by
           obtain ⟨n, ds, h1, h2, rfl⟩ := ht.box m cs hb
           obtain ⟨e1, e2⟩ := hf n m h1
           rcases h.box n ds h2 with ⟨h3, h4⟩ | ⟨h3, h4, h5, h6⟩
           · exact .inl ⟨by rw [e2]; exact h3, h4.ren f⟩
           · exact .inr ⟨by rw [e2]; exact h3, by rw [e1]; exact h4, by rw [e1]; exact h5, h6.ren hf h1⟩
         inj := fun m m' cs cs' hm hm' hne hp hp' => by
           obtain ⟨n, ds, h1, h2, _⟩ := ht.box m cs hm
           obtain ⟨n', ds', h1', h2', _⟩ := ht.box m' cs' hm'
           rw [(hf n m h1).2] at hp
           rw [(hf n' m' h1').2] at hp'
           rw [(hf n m h1).1, (hf n' m' h1').1]
           exact h.inj n n' ds ds' h2 h2' (fun e => by subst e; rw [h1] at h1'; injection h1' with h1'; exact hne h1') hp hp'
         own := fun t k e v hh => h.own t k e v (hheld hh)
         apart := fun t k e v t' k' e' v' hh hh' => h.apart t k e v t' k' e' v' (hheld hh) (hheld hh')
         ownbox := fun t k e v m cs hh hm hp => by
           obtain ⟨n, ds, h1, h2, _⟩ := ht.box m cs hm
           rw [(hf n m h1).2] at hp
           rw [(hf n m h1).1]
           exact h.ownbox t k e v n ds (hheld hh) h2 hp }
theorem Zp3 {n a b : Nat} (h : but n a = some b) : a = b ∧ a ≠ n ∧ a < CAP := by
 unfold but at h
 split at h
 ·cases h
 ·split at h
  ·injection h with h; exact ⟨h, by assumption, by assumption⟩
  ·cases h
theorem Zun {S : AS} (n : Nat) (hS : ∀ m cs, S.box m = some cs → m < CAP) : Zz4 (but n) S (S.kill n) where
 get i := ZkO S n i
 box m cs hb := by
  rw [ZiB] at hb
  split at hb
  ·cases hb
  ·rename_i hne
   rw [Option.map_eq_some_iff] at hb
   obtain ⟨ds, h1, rfl⟩ := hb
   exact ⟨m, ds, by unfold but; rw [if_neg hne, if_pos (hS m ds h1)], h1, rfl⟩
 one a b m h1 h2 := by obtain ⟨rfl, _⟩ := Zp3 h1; exact (Zp3 h2).1.symm
 lt a m h := by obtain ⟨rfl, _, h⟩ := Zp3 h; exact h
theorem Zuw (ρ : Nat → Nat) {n : Nat} (hn : n < CAP) (b c : Nat) : Zoj (but n) ρ (ZhU ρ n b c) := fun a m h => by
 obtain ⟨rfl, h1, h2⟩ := Zp3 h
 unfold ZhU
 exact ⟨by rw [if_neg h1, if_neg (by omega)], by rw [if_neg (by omega), if_neg (by omega)]⟩
theorem ZQ.kill {P : Program} [Gl P] {w0 : World} {M0 : Nat → Prop} {S0 : ZaA} {S : AS} {tm : Array Value} {w : World} {St : ZaA} {ρ : Nat → Nat} (h : ZQ P w0 M0 S0 S tm w St ρ) {n : Nat} (hn : n < CAP) (b c : Nat) :
  ZQ P w0 M0 S0 (S.kill n) tm w St (ZhU ρ n b c) := h.turn (Zun n h.nm) (Zuw ρ hn b c)
theorem ZoP {ρ : Nat → Nat} {n m b c : Nat} (h : m ≠ n) (hm : m < CAP) : ZhU ρ n b c m = ρ m := by unfold ZhU; rw [if_neg h, if_neg (by omega)]
theorem Zhy {ρ : Nat → Nat} {n b c : Nat} : ZhU ρ n b c n = b := if_pos rfl
theorem ZiU {ρ : Nat → Nat} {n b c : Nat} (hn : n < CAP) : ZhU ρ n b c (CAP + n) = c := by unfold ZhU; rw [if_neg (by omega), if_pos rfl]
theorem ZnW {ρ : Nat → Nat} {n m b c : Nat} (h : m ≠ n) (hn : n < CAP) : ZhU ρ n b c (CAP + m) = ρ (CAP + m) := by unfold ZhU; rw [if_neg (by omega), if_neg (by omega)]

theorem TOk.at_ {P : Program} [Gl P] {L : Tab} (h : TOk P L) (t : Nat) : L.ti t = TI.of P t ∨ L.ti t = ⟨.other, 0, 0, none, false⟩ := by
 unfold Tab.ti
 unfold TOk at h
 induction L with
 | nil => right; rfl
 | cons p L ih =>
  obtain ⟨j, x⟩ := p
  simp only [List.map_cons, List.cons.injEq, Prod.mk.injEq, true_and] at h
  simp only [Z2]
  by_cases ht : t = j
  ·subst ht; left; rw [if_pos rfl]; exact h.1.symm
  ·rw [if_neg ht]; exact ih h.2
structure Ty (P : Program) [Gl P] (i : TI) (t : Nat) (d : TypeDesc) (ti : TypeInfo) : Prop where
 info : P.info? t = some ti
 und : P.underlying t = some d
 k : i.k = ZhK d
 size : i.size = ti.size
 bytes : i.bytes = ti.bytes
 cmp : i.cmp = (!P.stoodInHeld t && Zvy d && !P.eqGuardType P.depth t)
 zero : ∀ z, i.zero = some z → ∃ u, ti.zero = some u ∧ u.cells.toList.all (·.oneCell') = true ∧ z = u.cells.toList.map ZhG
 shape : ∀ z u, i.zero = some z → ti.zero = some u → Zxf d u = true
theorem TOk.ty {P : Program} [Gl P] {L : Tab} (h : TOk P L) {t : Nat} (hne : (L.ti t).known = true ∨ (L.ti t).size ≠ 0) : ∃ d ti, Ty P (L.ti t) t d ti := by
 rcases h.at_ t with h1 | h1
 ·unfold TI.of at h1
  cases hi : P.info? t with
  | none => rw [hi] at h1; rw [h1] at hne; simp [TI.known] at hne
  | some ti =>
   cases hu : P.underlying t with
   | none => rw [hi, hu] at h1; rw [h1] at hne; simp [TI.known] at hne
   | some d =>
    rw [hi, hu] at h1
    refine ⟨d, ti, hi, hu, by rw [h1], by rw [h1], by rw [h1], by rw [h1], fun z hz => ?_, fun z u hz hu => ?_⟩
    ·rw [h1] at hz
     simp only [Option.bind_eq_some_iff] at hz
     obtain ⟨u, h2, h3⟩ := hz
     split at h3
     ·rename_i hall; rw [Bool.and_eq_true] at hall; exact ⟨u, h2, hall.1, by simpa using h3.symm⟩
     ·cases h3
    ·rw [h1] at hz
     simp only [Option.bind_eq_some_iff] at hz
     obtain ⟨u', h2, h3⟩ := hz
     rw [h2] at hu
     injection hu with hu; subst hu
     split at h3
     ·rename_i hall; rw [Bool.and_eq_true] at hall; exact hall.2
     ·cases h3
 ·rw [h1] at hne; simp [TI.known] at hne
theorem ZaD {i : TI} {k : TK} (h : i.k = k) (hk : k ≠ .other) : i.known = true := by
 unfold TI.known; rw [h]; cases k <;> simp_all
theorem ZeP {d : TypeDesc} {e : Nat} (h : ZhK d = .slice e) : d = .slice e := by cases d <;> simp_all [ZhK]
theorem ZpW {d : TypeDesc} {n e : Nat} (h : ZhK d = .array n e) : d = .array n e := by cases d <;> simp_all [ZhK]
theorem ZoE {d : TypeDesc} {fs : List (Nat × Nat)} (h : ZhK d = .struct fs) : ∃ gs, d = .struct gs ∧ fs = gs.toList.map fun f => (f.type, f.offset) := by
 cases d <;> simp_all [ZhK]
theorem Zim {d : TypeDesc} (h : ZhK d = .string) : d = .string := by cases d <;> simp_all [ZhK]
theorem ZrK {d : TypeDesc} (h : ZhK d = .bool) : d = .bool := by cases d <;> simp_all [ZhK]
theorem Zst {d : TypeDesc} {k : IntKind} (h : ZhK d = .int k) : d = .int k := by cases d <;> simp_all [ZhK]
theorem ZA5 {d : TypeDesc} (h : ZhK d = .iface) : ∃ m, d = .interface m := by cases d <;> simp_all [ZhK]
section
variable {P : Program} [Gl P] {L : Tab} (hL : TOk P L)
theorem ZbX {t : Nat} {d : TypeDesc} {ti : TypeInfo} {i : TI} (h : Ty P i t d ti) (w : World) : (sizeOf t).run P w = .ok i.size w := by
 simp [sizeOf, typeInfo, h.info, h.size]
theorem Zm8 {t : Nat} {d : TypeDesc} {ti : TypeInfo} {i : TI} (h : Ty P i t d ti) (w : World) : (isAgg t).run P w = .ok i.isAgg w := by
 have hk := h.k
 unfold isAgg TI.isAgg
 rw [hk]
 simp only [Sem.run_bind, run_underlying h.und, Result.andThen_ok]
 cases d <;> rfl
theorem ZpJ {w : World} {St : ZaA} {b o n : Nat} {es : List E} (hn : n = es.length) (h : ZB6 w St es b o) :
  ∃ vs : List Value, (loadCells ⟨b, o, none⟩ n).run P w = .ok vs.toArray w ∧ ZgT w St es vs := by
 have _gl : Gl P := inferInstance
 subst hn
 refine ⟨(List.range es.length).map fun k => (w.cell? ⟨b, o + k, none⟩).getD undef, ?_, by simp, fun k e hk => ?_⟩
 ·have := run_loadCells (P := P) w ⟨b, o, none⟩ es.length (fun k => (w.cell? ⟨b, o + k, none⟩).getD undef) (fun j hj => by
   obtain ⟨u, _, hu, _⟩ := h j es[j] (by simp [hj])
   have ha : (⟨b, o, none⟩ : Addr).add j = ⟨b, o + j, none⟩ := by unfold Addr.add; split <;> simp_all
   rw [ha, hu]; rfl)
  rw [this]
 ·have hlt : k < es.length := by rcases Nat.lt_or_ge k es.length with h' | h'; exact h'; simp [List.getElem?_eq_none h'] at hk
  obtain ⟨u, _, hu, hr⟩ := h k e hk
  exact ⟨u, by simp [hlt, hu], hr⟩
theorem ZfD (b o k : Nat) : (⟨b, o, none⟩ : Addr).add k = ⟨b, o + k, none⟩ := by unfold Addr.add; split <;> simp_all
theorem Zv6 {w : World} {St : ZaA} {ρ : Nat → Nat} {t b o : Nat} {es : List E} {d : TypeDesc} {ti : TypeInfo} (ht : Ty P (L.ti t) t d ti) (h : ZB6 w St es b o) {K : D → Prop}
  (hk : if (L.ti t).isAgg then (L.ti t).size ≤ es.length ∧ K (.agg (es.take (L.ti t).size)) else match es[0]? with | some e => K (.c none e) | none => False) :
  ∃ r v, K r ∧ (loadVar t ⟨b, o, none⟩).run P w = .ok v w ∧ Zet w St ρ r v ∧ ∀ tk e, r ≠ .c (some tk) e := by
 unfold loadVar
 simp only [Sem.run_bind, Zm8 ht, Result.andThen_ok]
 by_cases ha : (L.ti t).isAgg
 ·rw [if_pos ha] at hk
  obtain ⟨hsz, hk⟩ := hk
  simp only [ha, if_true, Sem.run_bind, ZbX ht, Result.andThen_ok]
  obtain ⟨vs, hv, hr⟩ := ZpJ (P := P) (w := w) (St := St) (b := b) (o := o) (n := (L.ti t).size) (es := es.take (L.ti t).size) (by simp [hsz]) (fun k e hk => by
   have : es[k]? = some e := by rw [List.getElem?_take] at hk; split at hk; exact hk; cases hk
   exact h k e this)
  exact ⟨_, _, hk, by simp [hv], ⟨vs, rfl, .of hr⟩, by simp⟩
 ·rw [if_neg ha] at hk
  cases he : es[0]? with
  | none => rw [he] at hk; exact hk.elim
  | some e =>
   rw [he] at hk
   obtain ⟨u, _, hu, hr⟩ := h 0 e he
   refine ⟨_, u, hk, ?_, .e _ _ hr, by simp⟩
   simp only [Nat.add_zero] at hu
   simp [ha, hu]
theorem ZoN {w : World} {St : ZaA} {ρ : Nat → Nat} {tk : Option (Nat × Nat)} {e : E} {u : Value} (h : Zca w St ρ e u) : Zet w St ρ (Zle tk e) u := by
 have key : ∀ n off, e = .pt n off → u = .pointer (some ⟨ρ n, off, none⟩) := fun n off he => by
  subst he
  cases h with
  | e _ _ h => cases h
  | pt => rfl
 cases e with
 | pt n off => exact key n off rfl
 | _ => exact h
theorem Zl1 {tk : Option (Nat × Nat)} {e : E} {q : Nat × Nat} {e' : E} (h : Zle tk e = .c (some q) e') : tk = some q ∧ e = e' := by
 cases e with
 | pt n off => cases h
 | _ => simp only [Zle, D.c.injEq] at h; exact h
theorem Zvu {w : World} {St : ZaA} {ρ : Nat → Nat} {t b off : Nat} {cs : List Cell} {arr : Array Value} {el : TypeId} {fr : Nat × Nat} {d : TypeDesc} {ti : TypeInfo} (ht : Ty P (L.ti t) t d ti)
  (hb : w.heap[b]? = some (.cells arr el fr)) (hs : arr.size = cs.length) (h : ∀ (k : Nat) (c : Cell), cs[k]? = some c → ∃ u, arr[k]? = some u ∧ Zca w St ρ c.2 u) {K : D → Prop}
  (hk : if (L.ti t).isAgg then off + (L.ti t).size ≤ cs.length ∧ K (.agg (((cs.drop off).take (L.ti t).size).map (·.2))) else match cs[off]? with | some c => K (Zle c.1 c.2) | none => False) :
  ∃ r v, K r ∧ (loadVar t ⟨b, off, none⟩).run P w = .ok v w ∧ Zet w St ρ r v ∧ ∀ tk e, r = .c (some tk) e → cs[off]? = some (some tk, e) ∧ w.cell? ⟨b, off, none⟩ = some v := by
 have hcell : ∀ j, w.cell? ⟨b, j, none⟩ = arr[j]? := fun j => by simp [World.cell?, hb]
 unfold loadVar
 simp only [Sem.run_bind, Zm8 ht, Result.andThen_ok]
 by_cases ha : (L.ti t).isAgg
 ·rw [if_pos ha] at hk
  obtain ⟨hsz, hk⟩ := hk
  simp only [ha, if_true, Sem.run_bind, ZbX ht, Result.andThen_ok]
  have hl := run_loadCells (P := P) w ⟨b, off, none⟩ (L.ti t).size (fun k => arr.getD (off + k) undef) (fun j hj => by
   rw [ZfD, hcell, Array.getD, dif_pos (by omega : off + j < arr.size)]; simp [show off + j < arr.size by omega])
  refine ⟨_, .agg (((List.range (L.ti t).size).map fun k => arr.getD (off + k) undef).toArray), hk, by rw [hl]; rfl, ⟨_, rfl, by simp; omega, fun k e he => ?_⟩, by simp⟩
  rw [List.getElem?_map] at he
  cases hc : ((cs.drop off).take (L.ti t).size)[k]? with
  | none => simp [hc] at he
  | some c =>
   rw [hc] at he
   simp only [Option.map_some, Option.some.injEq] at he
   subst he
   rw [List.getElem?_take] at hc
   split at hc
   ·rename_i hlt
    rw [List.getElem?_drop] at hc
    obtain ⟨u, hu, hr⟩ := h (off + k) c hc
    refine ⟨u, ?_, hr⟩
    simp [hlt, Array.getD, hu]
    have : off + k < arr.size := by rcases Nat.lt_or_ge (off + k) arr.size with h' | h'; exact h'; simp [Array.getElem?_eq_none h'] at hu
    simp [this] at hu ⊢
    exact hu
   ·cases hc
 ·rw [if_neg ha] at hk
  cases hc : cs[off]? with
  | none => rw [hc] at hk; exact hk.elim
  | some c =>
   rw [hc] at hk
   obtain ⟨u, hu, hr⟩ := h off c hc
   refine ⟨_, u, hk, by simp [ha, hcell, hu], ZoN hr, fun tk e he => ?_⟩
   obtain ⟨c1, c2⟩ := c
   obtain ⟨rfl, rfl⟩ := Zl1 he
   exact ⟨rfl, by rw [hcell, hu]⟩
end

theorem Zsm (w : World) (St : ZaA) {x : Value} (h : x.oneCell' = true) : Zdo w St (ZhG x) x := by
 unfold ZhG
 split
 ·exact .nils
 ·exact .v _ h
theorem Zjd (w : World) (St : ZaA) {vs : List Value} (h : vs.all (·.oneCell') = true) : ZgT w St (vs.map ZhG) vs := by
 refine ⟨by simp, fun k e hk => ?_⟩
 rw [List.getElem?_map] at hk
 cases hv : vs[k]? with
 | none => simp [hv] at hk
 | some u =>
  rw [hv] at hk
  simp only [Option.map_some, Option.some.injEq] at hk
  subst hk
  exact ⟨u, rfl, Zsm w St (List.all_eq_true.1 h u (List.mem_of_getElem? hv))⟩
theorem Zs0 (w : World) (St : ZaA) (ρ : Nat → Nat) (x : Value) : Zet w St ρ (Zm0 x) x := by
 unfold Zm0
 split
 ·rename_i cs
  split
  ·rename_i h; exact ⟨cs.toList, by simp, .of (Zjd w St h)⟩
  ·exact trivial
 ·exact trivial
 ·rename_i h1 h2
  exact .e _ _ (Zsm w St (by cases x <;> simp_all [Value.oneCell']))
section
variable {P : Program} [Gl P] {L : Tab} (hL : TOk P L) {w0 : World} {M0 : Nat → Prop} {S0 : ZaA} {S : AS} {w : World} {St : ZaA} {ρ : Nat → Nat} {a : Act}
theorem ZbL (h : ZQ P w0 M0 S0 S a.tmps w St ρ) (x : Operand) : Zet w St ρ (S.ev x) (a.eval x) := by
 cases x with
 | tmp t => exact h.tmp t
 | const v => exact Zs0 w St ρ v
 | global g => exact .e _ _ (Zdo.v _ rfl)
 | func f => exact .e _ _ (Zdo.v _ rfl)
theorem ZpZ (x : Operand) {t k : Nat} {e : E} (hx : S.ev x = .c (some (t, k)) e) : Zcm S a.tmps w ρ t k e (a.eval x) := by
 cases x with
 | tmp i => exact .inl ⟨i, hx, rfl⟩
 | const v => simp only [AS.ev, Zm0] at hx; split at hx <;> first | (split at hx <;> cases hx) | cases hx
 | global g => cases hx
 | func f => cases hx
def Zh3 (P : Program) [Gl P] (S : AS) (tm : Array Value) (w : World) (St : ZaA) (ρ : Nat → Nat) (r : Result Value) (K : D → Prop) : Prop :=
 ∃ d v, K d ∧ r = .ok v w ∧ Zet w St ρ d v ∧ ∀ t k e, d = .c (some (t, k)) e → Zcm S tm w ρ t k e v
theorem Zew {tm : Array Value} {r : Result Value} {K : D → Prop} (x : Value) (hx : x.oneCell' = true) (hk : K (.c none (.v x))) (hr : r = .ok x w) : Zh3 P S tm w St ρ r K :=
 ⟨_, x, hk, hr, .e _ _ (.v x hx), fun _ _ _ h => by cases h⟩
theorem ZAf {tm : Array Value} {r : Result Value} {K : D → Prop} {e : E} {x : Value} (hx : Zdo w St e x) (hk : K (.c none e)) (hr : r = .ok x w) : Zh3 P S tm w St ρ r K :=
 ⟨_, x, hk, hr, .e _ _ hx, fun _ _ _ h => by cases h⟩
theorem ZDQ {tm : Array Value} {r : Result Value} {K : D → Prop} {e : E} {x : Value} (hx : Zca w St ρ e x) (hk : K (Zle none e)) (hr : r = .ok x w) : Zh3 P S tm w St ρ r K :=
 ⟨_, x, hk, hr, ZoN hx, fun _ _ _ h => by cases (Zl1 h).1⟩
theorem Zm5 {d : D} {x : Value} {n : Int} (h : Zet w St ρ d x) (hd : d.int? = some n) : ∃ k, x = .int k n := by
 unfold D.int? at hd
 split at hd
 ·injection hd with hd; subst hd; cases Zca.val h; exact ⟨_, rfl⟩
 ·cases hd
theorem ZfF {d : D} {x y : Value} (h : Zet w St ρ d x) (hd : d.v? = some y) : x = y ∧ y.oneCell' = true := by
 unfold D.v? at hd
 split at hd
 ·injection hd with hd; subst hd; cases Zca.val h; exact ⟨rfl, ‹_›⟩
 ·cases hd
include hL in
theorem Zsr (h : ZQ P w0 M0 S0 S a.tmps w St ρ) {t : Nat} {x : Operand} {K : D → Prop} (hk : ZqZ L S t (S.ev x) K) :
  Zh3 P S a.tmps w St ρ ((Instr.loadAt t (a.eval x)).run P w) K := by
 have hx := ZbL h x
 obtain ⟨hkn, hk⟩ := hk
 obtain ⟨d, ti, ht⟩ := hL.ty (.inl hkn)
 cases hd : S.ev x with
 | ptr n off =>
  rw [hd] at hx hk
  simp only at hk
  cases hb : S.box n with
  | none => simp [hb] at hk
  | some cs =>
   simp only [hb] at hk
   obtain ⟨hpl, hk⟩ := hk
   obtain ⟨_, _, _, hba⟩ := (h.box n cs hb).resolve_left (fun ⟨_, k, he⟩ => by subst he; cases hpl)
   obtain ⟨arr, el, h3, h4, h5⟩ := hba.plain hpl
   obtain ⟨r, v, h6, h7, h8, h9⟩ := Zvu (P := P) (L := L) (ρ := ρ) (off := off) ht h3 h4 h5 (K := K) hk
   refine ⟨r, v, h6, ?_, h8, fun t' k e he => ?_⟩
   ·have : a.eval x = .pointer (some ⟨ρ n, off, none⟩) := hx
    rw [this]; simp only [Instr.loadAt, Instr.sureAddr, Sem.run_bind, Sem.run_pure, Result.andThen_ok]; exact h7
   ·obtain ⟨h10, h11⟩ := h9 _ _ he
    exact .inr ⟨n, cs, off, hb, h10, h11⟩
 | ref es =>
  rw [hd] at hx hk
  obtain ⟨b, o, hx, hr⟩ := hx
  obtain ⟨r, v, h6, h7, h8, h9⟩ := Zv6 (P := P) (L := L) (ρ := ρ) ht hr (K := K) hk
  refine ⟨r, v, h6, ?_, h8, fun t' k e he => absurd he (h9 _ _)⟩
  rw [hx]; simp only [Instr.loadAt, Instr.sureAddr, Sem.run_bind, Sem.run_pure, Result.andThen_ok]; exact h7
 | ept n sz i off =>
  rw [hd] at hx hk
  simp only at hk
  split at hk
  case h_2 => exact hk.elim
  rename_i code rows hb
  obtain ⟨h0, hkn2, hsz, hk⟩ := hk
  obtain ⟨d2, ti2, ht2⟩ := hL.ty (t := code / 2) (.inl hkn2)
  have hcode : code = 2 * (code / 2) := by omega
  obtain ⟨cur, hh, hrl, hrw⟩ : ∃ cur, w.heap[ρ n]? = some (.cells cur (code / 2) (0, 0)) ∧ (∀ (i : Nat) (row : List E), rows[i]? = some row → row.length = P.cellsOf (code / 2)) ∧
    ∀ (i j : Nat) (row : List E) (e : E), rows[i]? = some row → row[j]? = some e → ∃ u, cur[i * P.cellsOf (code / 2) + j]? = some u ∧ Zdo w St e u := by
   rcases h.box n _ hb with ⟨_, k, he⟩ | ⟨_, _, _, hba⟩
   ·simp only [List.cons.injEq, Prod.mk.injEq, E.ob.injEq] at he
    obtain ⟨⟨_, _, rfl⟩, _⟩ := he
    simp at hk
   ·generalize hc : ([(none, .ob code rows)] : List Cell) = cs at hba
    cases hba with
    | cells _ arr t h1 h2 h3 =>
     subst hc
     obtain ⟨u, _, hu⟩ := h3 0 _ rfl
     cases hu with
     | e _ _ hu => cases hu
    | row k rows' cur h1 h2 h3 h4 h5 h6 =>
     simp only [List.cons.injEq, Prod.mk.injEq, E.ob.injEq] at hc
     obtain ⟨⟨_, h7, rfl⟩, _⟩ := hc
     have : code / 2 = k := by omega
     subst this
     exact ⟨cur, h1, h5, h6⟩
    | map t kt vt rows' es clock h1 =>
     simp only [List.cons.injEq, Prod.mk.injEq, E.ob.injEq] at hc
     obtain ⟨⟨_, h7, _⟩, _⟩ := hc
     omega
    | iter s pos h0 h1 =>
     simp only [List.cons.injEq, Prod.mk.injEq, E.ob.injEq] at hc
     obtain ⟨⟨_, h7, _⟩, _⟩ := hc
     omega
  have hcs : P.cellsOf (code / 2) = sz := by unfold Program.cellsOf; rw [ht2.info, hsz, ht2.size]; rfl
  have hx : a.eval x = .pointer (some ⟨ρ n, i * sz + off, none⟩) := hx
  have hcell : ∀ j, w.cell? ⟨ρ n, j, none⟩ = cur[j]? := fun j => by simp [World.cell?, hh]
  split at hk
  case h_2 => exact hk.elim
  rename_i row hrow
  rw [hx]
  simp only [Instr.loadAt, Instr.sureAddr, Sem.run_bind, Sem.run_pure, Result.andThen_ok]
  unfold loadVar
  simp only [Sem.run_bind, Zm8 ht, Result.andThen_ok]
  by_cases ha : (L.ti t).isAgg
  ·rw [if_pos ha] at hk
   obtain ⟨hlen, hk⟩ := hk
   simp only [ha, if_true, Sem.run_bind, ZbX ht, Result.andThen_ok]
   have hcellj : ∀ j, j < (L.ti t).size → ∃ e u, row[off + j]? = some e ∧ cur[i * sz + off + j]? = some u ∧ Zdo w St e u := fun j hj => by
    have hlt : off + j < row.length := by omega
    obtain ⟨u, hu, hr⟩ := hrw i (off + j) row _ hrow (List.getElem?_eq_getElem hlt)
    exact ⟨_, u, List.getElem?_eq_getElem hlt, by rw [← hu, hcs]; congr 1; omega, hr⟩
   have hl := run_loadCells (P := P) w ⟨ρ n, i * sz + off, none⟩ (L.ti t).size (fun k => cur.getD (i * sz + off + k) undef) (fun j hj => by
    obtain ⟨e, u, _, hu, _⟩ := hcellj j hj
    rw [ZfD, hcell, hu, Array.getD_eq_getD_getElem?, hu]; rfl)
   refine ⟨_, .agg (((List.range (L.ti t).size).map fun k => cur.getD (i * sz + off + k) undef).toArray), hk, by rw [hl]; rfl, ⟨_, rfl, ?_⟩, fun _ _ _ he => by cases he⟩
   refine .of ⟨by simp; omega, fun k e he => ?_⟩
   rw [List.getElem?_take] at he
   split at he
   ·rename_i hlt
    rw [List.getElem?_drop] at he
    obtain ⟨e', u, he', hu, hr⟩ := hcellj k hlt
    rw [he'] at he
    injection he with he; subst he
    exact ⟨u, by simp [hlt, Array.getD_eq_getD_getElem?, hu], hr⟩
   ·cases he
  ·rw [if_neg ha] at hk
   split at hk
   case h_2 => exact hk.elim
   rename_i e he
   obtain ⟨u, hu, hr⟩ := hrw i off row e hrow he
   rw [hcs] at hu
   refine ⟨_, u, hk, by simp [ha, hcell, hu], .e _ _ hr, fun _ _ _ he => by cases he⟩
 | bot => simp [hd] at hk
 | c => simp [hd] at hk
 | agg => simp [hd] at hk
 | tup => simp [hd] at hk
include hL in
theorem Zrl (h : ZQ P w0 M0 S0 S a.tmps w St ρ) {t f : Nat} {x : Operand} {K : D → Prop} (hk : Zjn L t (S.ev x) f K) :
  Zh3 P S a.tmps w St ρ ((Instr.fieldAt t (a.eval x) f).run P w) K := by
 have hx := ZbL h x
 unfold Zjn at hk
 split at hk
 ·rename_i fs hfs
  obtain ⟨d, ti, ht⟩ := hL.ty (t := t) (.inl (ZaD hfs (by simp)))
  obtain ⟨gs, rfl, hg⟩ := ZoE (ht.k.symm.trans hfs)
  split at hk
  ·rename_i ft off hf
   rw [hg, List.getElem?_map] at hf
   cases hgf : gs.toList[f]? with
   | none => rw [hgf] at hf; cases hf
   | some g =>
    rw [hgf] at hf
    simp only [Option.map_some, Option.some.injEq, Prod.mk.injEq] at hf
    obtain ⟨rfl, rfl⟩ := hf
    split at hk
    ·exact hk.elim
    ·rename_i hsz
     obtain ⟨d2, ti2, ht2⟩ := hL.ty (t := g.type) (.inr hsz)
     have hgf' : gs[f]? = some g := by rw [← Array.getElem?_toList]; exact hgf
     have hrun : ∀ b o, (Instr.fieldAt t (.pointer (some ⟨b, o, none⟩)) f).run P w = .ok (.pointer (some ⟨b, o + g.offset, none⟩)) w := fun b o => by
      simp only [Instr.fieldAt, Sem.run_bind, run_underlying ht.und, Result.andThen_ok, hgf', Instr.sureAddr, Sem.run_pure, fieldPlace, ZbX ht2, if_neg hsz, ZfD]
     cases hd : S.ev x with
     | ptr n o =>
      rw [hd] at hx hk
      have hx : a.eval x = .pointer (some ⟨ρ n, o, none⟩) := hx
      exact ⟨_, .pointer (some ⟨ρ n, o + g.offset, none⟩), hk, by rw [hx]; exact hrun _ _, rfl, fun _ _ _ h => by cases h⟩
     | ref es =>
      rw [hd] at hx hk
      obtain ⟨b, o, hx, hr⟩ := hx
      refine ⟨_, .pointer (some ⟨b, o + g.offset, none⟩), hk, by rw [hx]; exact hrun _ _, ⟨b, o + g.offset, rfl, fun k e hke => ?_⟩, fun _ _ _ h => by cases h⟩
      rw [List.getElem?_drop] at hke
      have := hr _ e hke
      rwa [show o + g.offset + k = o + (g.offset + k) by omega]
     | ept n sz i o =>
      rw [hd] at hx hk
      have hx : a.eval x = .pointer (some ⟨ρ n, i * sz + o, none⟩) := hx
      exact ⟨_, _, hk, by rw [hx]; exact hrun _ _, by show _ = _; rw [Nat.add_assoc], fun _ _ _ h => by cases h⟩
     | bot => simp [hd] at hk
     | c => simp [hd] at hk
     | agg => simp [hd] at hk
     | tup => simp [hd] at hk
  ·exact hk.elim
 ·exact hk.elim
include hL in
theorem Zm2 {tm : Array Value} {t off : Nat} {es : List E} {vs : List Value} (hr : Ze9 w St ρ es vs) {K : D → Prop} (hk : Zq0 L t es off K) :
  Zh3 P S tm w St ρ ((part t vs.toArray off).run P w) K := by
 obtain ⟨hkn, hk⟩ := hk
 obtain ⟨d, ti, ht⟩ := hL.ty (.inl hkn)
 unfold part
 simp only [Sem.run_bind, Zm8 ht, Result.andThen_ok]
 by_cases ha : (L.ti t).isAgg
 ·rw [if_pos ha] at hk
  simp only [ha, if_true, Sem.run_bind, ZbX ht, Result.andThen_ok, Sem.run_pure]
  refine ⟨_, _, hk, rfl, ⟨(vs.drop off).take (L.ti t).size, ?_, ?_, fun k e hke => ?_⟩, fun _ _ _ h => by cases h⟩
  ·rw [List.extract_toArray, List.extract_eq_take_drop]; congr 3; omega
  ·simp [hr.1]
  ·rw [List.getElem?_take] at hke
   split at hke
   ·rename_i hlt
    rw [List.getElem?_drop] at hke
    obtain ⟨u, hu, hre⟩ := hr.2 _ e hke
    exact ⟨u, by rw [List.getElem?_take, if_pos hlt, List.getElem?_drop, hu], hre⟩
   ·cases hke
 ·rw [if_neg ha] at hk
  cases he : es[off]? with
  | none => rw [he] at hk; exact hk.elim
  | some e =>
   rw [he] at hk
   obtain ⟨u, hu, hre⟩ := hr.2 _ e he
   refine ZDQ hre hk ?_
   simp [ha, hu]
include hL in
theorem Zv9 (h : ZQ P w0 M0 S0 S a.tmps w St ρ) {t f : Nat} {x : Operand} {K : D → Prop} (hk : Zqe L t (S.ev x) f K) :
  Zh3 P S a.tmps w St ρ ((Instr.field t (a.eval x) f).run P w) K := by
 have hx := ZbL h x
 unfold Zqe at hk
 split at hk
 ·rename_i fs hfs
  obtain ⟨d, ti, ht⟩ := hL.ty (t := t) (.inl (ZaD hfs (by simp)))
  obtain ⟨gs, rfl, hg⟩ := ZoE (ht.k.symm.trans hfs)
  split at hk
  ·rename_i ft off es hf hd
   rw [hg, List.getElem?_map] at hf
   rw [hd] at hx
   cases hgf : gs.toList[f]? with
   | none => rw [hgf] at hf; cases hf
   | some g =>
    rw [hgf] at hf
    simp only [Option.map_some, Option.some.injEq, Prod.mk.injEq] at hf
    obtain ⟨rfl, rfl⟩ := hf
    obtain ⟨vs, hx, hr⟩ := hx
    have hgf' : gs[f]? = some g := by rw [← Array.getElem?_toList]; exact hgf
    have := Zm2 (P := P) hL (S := S) (tm := a.tmps) (ρ := ρ) hr hk
    rw [hx]
    simp only [Instr.field, Sem.run_bind, run_underlying ht.und, Result.andThen_ok, hgf', asAgg, Sem.run_pure]
    exact this
  ·exact hk.elim
 ·exact hk.elim
theorem ZnJ {d : D} {x : Value} {rows : List (List E)} (h : Zet w St ρ d x) (hd : d.rows? = some rows) : ∃ A n c, x = .slice A n c ∧ rows.length = n ∧
  ∀ i row, rows[i]? = some row → ∃ b o, A = some ⟨b, o, none⟩ ∧ ZB6 w St row b (o + i * row.length) := by
 unfold D.rows? at hd
 split at hd
 ·injection hd with hd; subst hd
  rename_i tk rows
  cases (show Zdo w St (.sl rows) x from Zca.plain h rfl) with
  | sl _ A n c sz b o ZcM hn hc hm hA hs hv hr =>
   refine ⟨A, n, c, rfl, hn, fun i row hi => ⟨b, o, hA ?_, fun k e hk => ?_⟩⟩
   ·have : i < rows.length := by rcases Nat.lt_or_ge i rows.length with h' | h'; exact h'; simp [List.getElem?_eq_none h'] at hi
    omega
   ·rw [hs i row hi]
    exact ⟨ZcM i k, (hv i k row e hi hk).1, (hv i k row e hi hk).2, hr i k row e hi hk⟩
 ·injection hd with hd; subst hd
  cases (Zca.plain h rfl : Zdo w St .nils x) with
  | nils => exact ⟨none, 0, 0, rfl, rfl, fun i row hi => by simp at hi⟩
 ·cases hd
include hL in
theorem Zrt (h : ZQ P w0 M0 S0 S a.tmps w St ρ) {t : Nat} {x i : Operand} {K : D → Prop} (hk : Zjb L t (S.ev x) (S.ev i) K) :
  Zh3 P S a.tmps w St ρ ((Instr.indexAt t (a.eval x) (a.eval i)).run P w) K := by
 have hx := ZbL h x
 have hi := ZbL h i
 unfold Zjb at hk
 split at hk
 ·exact hk.elim
 ·rename_i n hn
  obtain ⟨kk, hi⟩ := Zm5 hi hn
  split at hk
  ·rename_i e hsl
   obtain ⟨d, ti, ht⟩ := hL.ty (t := t) (.inl (ZaD hsl (by simp)))
   obtain rfl := ZeP (ht.k.symm.trans hsl)
   have hobj : ∀ m l tk, S.ev x = .c tk (.rs m l) → ((L.ti e).known = true ∧ 0 ≤ n ∧ n < (l : Nat) ∧ K (.ept m (L.ti e).size n.toNat 0)) → Zh3 P S a.tmps w St ρ ((Instr.indexAt t (a.eval x) (a.eval i)).run P w) K := fun m l tk hd hk => by
    rw [hd] at hx
    obtain ⟨hkn, h0, hlt, hk⟩ := hk
    obtain ⟨d2, ti2, ht2⟩ := hL.ty (t := e) (.inl hkn)
    obtain ⟨cp, hx⟩ : ∃ cp, a.eval x = .slice (some ⟨ρ m, 0, none⟩) l cp := by
     generalize a.eval x = v at hx
     cases (hx : Zca w St ρ (.rs m l) v) with
     | e _ _ h => cases h
     | rs0 => omega
     | rs => exact ⟨_, rfl⟩
    refine ⟨_, .pointer (some ⟨ρ m, 0 + n.toNat * (L.ti e).size, none⟩), hk, ?_, by show _ = _; rw [Nat.zero_add, Nat.add_zero], fun _ _ _ h => by cases h⟩
    rw [hx, hi]
    simp only [Instr.indexAt, asIntOf, Sem.run_bind, Sem.run_pure, run_underlying ht.und, Result.andThen_ok]
    have hc : (0 ≤ n ∧ n < (l : Int)) := ⟨h0, hlt⟩
    simp only [Sem.run_ite, if_pos hc, Sem.run_bind, ZbX ht2, Result.andThen_ok, Sem.run_pure, ZfD]
   split at hk
   ·rename_i tk m l hd
    exact hobj m l tk hd hk
   split at hk
   ·rename_i rows hrows
    obtain ⟨A, m, c, hx, hm, hrow⟩ := ZnJ hx hrows
    obtain ⟨hkn, h0, hk⟩ := hk
    obtain ⟨d2, ti2, ht2⟩ := hL.ty (t := e) (.inl hkn)
    split at hk
    ·rename_i row hr
     obtain ⟨hsz, hk⟩ := hk
     obtain ⟨b, o, rfl, hrep⟩ := hrow _ _ hr
     have hlt : n.toNat < rows.length := by rcases Nat.lt_or_ge n.toNat rows.length with h' | h'; exact h'; simp [List.getElem?_eq_none h'] at hr
     refine ⟨_, .pointer (some ⟨b, o + n.toNat * row.length, none⟩), hk, ?_, ⟨b, _, rfl, hrep⟩, fun _ _ _ h => by cases h⟩
     rw [hx, hi]
     simp only [Instr.indexAt, asIntOf, Sem.run_bind, Sem.run_pure, run_underlying ht.und, Result.andThen_ok]
     have hc : (0 ≤ n ∧ n < (m : Int)) := ⟨h0, by omega⟩
     simp only [Sem.run_ite, if_pos hc, Sem.run_bind, ZbX ht2, Result.andThen_ok, Sem.run_pure, ZfD, hsz]
    ·exact hk.elim
   ·exact hk.elim
  ·rename_i len e har
   obtain ⟨d, ti, ht⟩ := hL.ty (t := t) (.inl (ZaD har (by simp)))
   obtain rfl := ZpW (ht.k.symm.trans har)
   obtain ⟨hkn, h0, hlt, hk⟩ := hk
   obtain ⟨d2, ti2, ht2⟩ := hL.ty (t := e) (.inl hkn)
   have hrun : ∀ b o, (Instr.indexAt t (.pointer (some ⟨b, o, none⟩)) (a.eval i)).run P w = .ok (.pointer (some ⟨b, o + n.toNat * (L.ti e).size, none⟩)) w := fun b o => by
    rw [hi]
    simp only [Instr.indexAt, asIntOf, Instr.sureAddr, Sem.run_bind, Sem.run_pure, run_underlying ht.und, Result.andThen_ok]
    have hc : (0 ≤ n ∧ n < (len : Int)) := ⟨h0, hlt⟩
    simp only [Sem.run_ite, if_pos hc, Sem.run_bind, ZbX ht2, Result.andThen_ok, Sem.run_pure, ZfD]
   cases hd : S.ev x with
   | ptr m o =>
    rw [hd] at hx hk
    have hx : a.eval x = .pointer (some ⟨ρ m, o, none⟩) := hx
    exact ⟨_, _, hk, by rw [hx]; exact hrun _ _, rfl, fun _ _ _ h => by cases h⟩
   | ref es =>
    rw [hd] at hx hk
    obtain ⟨b, o, hx, hr⟩ := hx
    refine ⟨_, _, hk, by rw [hx]; exact hrun _ _, ⟨b, _, rfl, fun k e' hke => ?_⟩, fun _ _ _ h => by cases h⟩
    rw [List.getElem?_drop] at hke
    have := hr _ e' hke
    rwa [show o + n.toNat * (L.ti e).size + k = o + (n.toNat * (L.ti e).size + k) by omega]
   | ept m sz i o =>
    rw [hd] at hx hk
    have hx : a.eval x = .pointer (some ⟨ρ m, i * sz + o, none⟩) := hx
    exact ⟨_, _, hk, by rw [hx]; exact hrun _ _, by show _ = _; rw [Nat.add_assoc], fun _ _ _ h => by cases h⟩
   | bot => simp [hd] at hk
   | c => simp [hd] at hk
   | agg => simp [hd] at hk
   | tup => simp [hd] at hk
  ·exact hk.elim
include hL in
theorem ZvZ (h : ZQ P w0 M0 S0 S a.tmps w St ρ) {t : Nat} {x i : Operand} {K : D → Prop} (hk : Zql L t (S.ev x) (S.ev i) K) :
  Zh3 P S a.tmps w St ρ ((Instr.index t (a.eval x) (a.eval i)).run P w) K := by
 have hx := ZbL h x
 have hi := ZbL h i
 unfold Zql at hk
 split at hk
 ·exact hk.elim
 ·rename_i n hn
  obtain ⟨kk, hi⟩ := Zm5 hi hn
  split at hk
  ·rename_i tk s hst hd
   obtain ⟨d, ti, ht⟩ := hL.ty (t := t) (.inl (ZaD hst (by simp)))
   obtain rfl := Zim (ht.k.symm.trans hst)
   obtain ⟨h0, hk⟩ := hk
   rw [hd] at hx
   obtain ⟨hx, _⟩ := ZfF (d := .c tk (.v (.string s))) hx rfl
   split at hk
   ·rename_i b hb
    refine Zew (.int .u8 b.toNat) rfl hk ?_
    rw [hx, hi]
    simp only [Instr.index, asIntOf, Sem.run_bind, Sem.run_pure, run_underlying ht.und, Result.andThen_ok, if_pos h0, hb]
   ·exact hk.elim
  ·rename_i len e es har hd
   obtain ⟨d, ti, ht⟩ := hL.ty (t := t) (.inl (ZaD har (by simp)))
   obtain rfl := ZpW (ht.k.symm.trans har)
   obtain ⟨hkn, h0, hlt, hk⟩ := hk
   obtain ⟨d2, ti2, ht2⟩ := hL.ty (t := e) (.inl hkn)
   rw [hd] at hx
   obtain ⟨vs, hx, hr⟩ := hx
   have := Zm2 (P := P) hL (S := S) (tm := a.tmps) (ρ := ρ) hr hk
   rw [hx, hi]
   simp only [Instr.index, asIntOf, Sem.run_bind, Sem.run_pure, run_underlying ht.und, Result.andThen_ok]
   have hc : (0 ≤ n ∧ n < (len : Int)) := ⟨h0, hlt⟩
   simp only [Sem.run_ite, if_pos hc, Sem.run_bind, ZbX ht2, Result.andThen_ok]
   exact this
  ·exact hk.elim
end

section
variable {P : Program} [Gl P] {L : Tab} (hL : TOk P L) {w0 : World} {M0 : Nat → Prop} {S0 : ZaA} {S : AS} {w : World} {St : ZaA} {ρ : Nat → Nat} {a : Act}
theorem Zlg (k : IntKind) (n : Int) (y : Nat) (code : BoundsCode) (h0 : 0 ≤ n) (h1 : n ≤ y) : (Instr.sliceBound (.int k n) y code).run P w = .ok n.toNat w := by
 have _gl : Gl P := inferInstance
 simp only [Instr.sliceBound, asIntOf, Sem.run_bind, Sem.run_pure, Result.andThen_ok, Sem.run_ite, if_pos (⟨h0, h1⟩ : 0 ≤ n ∧ n ≤ (y : Int))]
theorem Zkc (h : ZQ P w0 M0 S0 S a.tmps w St ρ) (isS : Bool) (len cap : Nat) (lo hi : Option Operand) {l u : Int} (hl : ZdI 0 (lo.map S.ev) = some l) (hh : ZdI len (hi.map S.ev) = some u)
  (h0 : 0 ≤ l) (h1 : l ≤ u) (h2 : u ≤ len) (hc : len ≤ cap) :
  (Instr.sliceBounds isS len cap (lo.map a.eval) (hi.map a.eval) none).run P w = .ok (l.toNat, u.toNat, cap) w := by
 have hU : ∀ x code, hi = some x → (Instr.sliceBound (a.eval x) cap code).run P w = .ok u.toNat w := by
  rintro x code rfl
  simp only [Option.map_some, ZdI] at hh
  obtain ⟨k, hx⟩ := Zm5 (ZbL h x) hh
  rw [hx]
  exact Zlg _ _ _ _ (by omega) (by omega)
 have hLo : ∀ x code, lo = some x → (Instr.sliceBound (a.eval x) u.toNat code).run P w = .ok l.toNat w := by
  rintro x code rfl
  simp only [Option.map_some, ZdI] at hl
  obtain ⟨k, hx⟩ := Zm5 (ZbL h x) hl
  rw [hx]
  exact Zlg _ _ _ _ h0 (by omega)
 cases hi with
 | none =>
  have hu : u.toNat = len := by simp only [Option.map_none, ZdI, Option.some.injEq] at hh; omega
  cases lo with
  | none =>
   have hl' : l.toNat = 0 := by simp only [Option.map_none, ZdI, Option.some.injEq] at hl; omega
   simp only [Instr.sliceBounds, Option.map_none, Sem.run_bind, Sem.run_pure, Result.andThen_ok, hu, hl']
  | some y =>
   have hy := fun code => hLo y code rfl
   rw [hu] at hy
   simp only [Instr.sliceBounds, Option.map_none, Option.map_some, Sem.run_bind, Sem.run_pure, Result.andThen_ok, hy, hu]
 | some x =>
  have hx := fun code => hU x code rfl
  cases lo with
  | none =>
   have hl' : l.toNat = 0 := by simp only [Option.map_none, ZdI, Option.some.injEq] at hl; omega
   simp only [Instr.sliceBounds, Option.map_none, Option.map_some, Sem.run_bind, Sem.run_pure, Result.andThen_ok, hx, hl']
  | some y =>
   have hy := fun code => hLo y code rfl
   simp only [Instr.sliceBounds, Option.map_none, Option.map_some, Sem.run_bind, Sem.run_pure, Result.andThen_ok, hx, hy]
include hL in
theorem Zv1 (h : ZQ P w0 M0 S0 S a.tmps w St ρ) {t : Nat} {x : Operand} {lo hi mx : Option Operand} {K : D → Prop}
  (hk : Zpl L t (S.ev x) (lo.map S.ev) (hi.map S.ev) (mx.map S.ev) K) :
  Zh3 P S a.tmps w St ρ ((Instr.sliceAt t (a.eval x) (lo.map a.eval) (hi.map a.eval) (mx.map a.eval)).run P w) K := by
 have hx := ZbL h x
 unfold Zpl at hk
 split at hk
 ·exact hk.elim
 ·rename_i hmx
  have hmx' : mx = none := by cases mx <;> simp_all
  subst hmx'
  split at hk
  ·rename_i tk s hst hd
   obtain ⟨d, ti, ht⟩ := hL.ty (t := t) (.inl (ZaD hst (by simp)))
   obtain rfl := Zim (ht.k.symm.trans hst)
   rw [hd] at hx
   obtain ⟨hx, _⟩ := ZfF (d := .c tk (.v (.string s))) hx rfl
   split at hk
   ·rename_i l u hl hu
    obtain ⟨h0, h1, h2, hk⟩ := hk
    refine Zew _ rfl hk ?_
    have hb := Zkc (P := P) h false s.size s.size lo hi hl hu h0 h1 h2 (Nat.le_refl _)
    rw [hx]
    simp only [Instr.sliceAt, Instr.slice, Sem.run_bind, run_underlying ht.und, Result.andThen_ok, Option.map_none, Option.isSome_none, Bool.false_eq_true, if_false, Sem.run_pure, hb]
   ·exact hk.elim
  ·rename_i e tk rows hst hd
   obtain ⟨d, ti, ht⟩ := hL.ty (t := t) (.inl (ZaD hst (by simp)))
   obtain rfl := ZeP (ht.k.symm.trans hst)
   rw [hd] at hx
   split at hk
   ·rename_i l u hl hu
    obtain ⟨h0, h1, h2, hrl, hkn, hk⟩ := hk
    obtain ⟨d2, ti2, ht2⟩ := hL.ty (t := e) (.inl hkn)
    obtain ⟨y, hax⟩ : ∃ y, a.eval x = y := ⟨_, rfl⟩
    rw [hax] at hx
    cases (show Zdo w St (.sl rows) y from Zca.plain hx rfl) with
    | sl _ A n c sz b o ZcM hn hc hm hA hs hv hr =>
     have hb := Zkc (P := P) h true n c lo hi hl (hn ▸ hu) h0 h1 (hn ▸ h2) hc
     refine ZAf (x := .slice (if c = l.toNat then A else A.map (·.add (l.toNat * (L.ti e).size))) (u.toNat - l.toNat) (c - l.toNat)) ?_ hk ?_
     ·refine .sl _ _ _ _ sz b (o + l.toNat * sz) (fun i k => ZcM (l.toNat + i) k) (by simp; omega) (by omega) (by omega) (fun hlt => ?_) (fun i row hi => ?_) (fun i k row e' hi hk' => ?_) (fun i k row e' hi hk' => ?_)
      ·rw [if_neg (by omega), hA (by omega)]
       have hz : (L.ti e).size = sz := by
        have hr0 : rows[0]? = some rows[0] := by simp
        rw [← hrl rows[0] (by simp), hs 0 _ hr0]
       simp only [Option.map_some, ZfD, hz]
      ·rw [List.getElem?_drop, List.getElem?_take] at hi
       split at hi
       ·exact hs _ row hi
       ·cases hi
      ·rw [List.getElem?_drop, List.getElem?_take] at hi
       split at hi
       ·have := hv _ k row e' hi hk'
        rwa [show o + (l.toNat + i) * sz + k = o + l.toNat * sz + i * sz + k by rw [Nat.add_mul]; omega] at this
       ·cases hi
      ·rw [List.getElem?_drop, List.getElem?_take] at hi
       split at hi
       ·exact hr _ k row e' hi hk'
       ·cases hi
     ·rw [hax]
      simp only [Instr.sliceAt, Instr.slice, Sem.run_bind, run_underlying ht.und, Result.andThen_ok, Option.map_none, Sem.run_pure, hb, ZbX ht2]
   ·exact hk.elim
  ·rename_i e tk n m hst hd
   obtain ⟨d, ti, ht⟩ := hL.ty (t := t) (.inl (ZaD hst (by simp)))
   obtain rfl := ZeP (ht.k.symm.trans hst)
   rw [hd] at hx
   split at hk
   ·rename_i l u hl hu
    obtain ⟨rfl, h1, h2, hkn, hk⟩ := hk
    obtain ⟨d2, ti2, ht2⟩ := hL.ty (t := e) (.inl hkn)
    have hax : (∃ A, m = 0 ∧ ρ (CAP + n) = 0 ∧ a.eval x = .slice A 0 0) ∨ (0 < ρ (CAP + n) ∧ m ≤ ρ (CAP + n) ∧ ρ (CAP + n) ≤ maxLen ∧ a.eval x = .slice (some ⟨ρ n, 0, none⟩) m (ρ (CAP + n))) := by
     generalize a.eval x = y at hx
     cases (hx : Zca w St ρ (.rs n m) y) with
     | e _ _ h => cases h
     | rs0 _ A h => exact .inl ⟨A, rfl, h, rfl⟩
     | rs _ _ h hl hm => exact .inr ⟨h, hl, hm, rfl⟩
    rcases hax with ⟨A, rfl, hc, hax⟩ | ⟨hc, hml, hm, hax⟩
    ·have hb := Zkc (P := P) h true 0 0 lo hi hl hu (Int.le_refl _) h1 h2 (Nat.le_refl _)
     have hu0 : u = 0 := by omega
     subst hu0
     refine ⟨_, .slice A 0 0, hk, ?_, .rs0 n A hc, fun _ _ _ h => by cases h⟩
     rw [hax]
     simp only [Instr.sliceAt, Instr.slice, Sem.run_bind, run_underlying ht.und, Result.andThen_ok, Option.map_none, Sem.run_pure, hb, ZbX ht2]
     simp
    ·have hb := Zkc (P := P) h true m (ρ (CAP + n)) lo hi hl hu (Int.le_refl _) h1 h2 hml
     refine ⟨_, .slice (some ⟨ρ n, 0, none⟩) u.toNat (ρ (CAP + n)), hk, ?_, .rs n _ hc (by omega) hm, fun _ _ _ h => by cases h⟩
     rw [hax]
     simp only [Instr.sliceAt, Instr.slice, Sem.run_bind, run_underlying ht.und, Result.andThen_ok, Option.map_none, Sem.run_pure, hb, ZbX ht2]
     have h0 : ¬ ρ (CAP + n) = 0 := by omega
     have hz : (⟨ρ n, 0, none⟩ : Addr).add 0 = ⟨ρ n, 0, none⟩ := by rw [ZfD]
     simp [hz]
   ·exact hk.elim
  ·rename_i e tk hst hd
   obtain ⟨d, ti, ht⟩ := hL.ty (t := t) (.inl (ZaD hst (by simp)))
   obtain rfl := ZeP (ht.k.symm.trans hst)
   rw [hd] at hx
   split at hk
   ·rename_i l u hl hu
    obtain ⟨rfl, rfl, hkn, hk⟩ := hk
    obtain ⟨d2, ti2, ht2⟩ := hL.ty (t := e) (.inl hkn)
    have hb := Zkc (P := P) h true 0 0 lo hi hl hu (Int.le_refl _) (Int.le_refl _) (by simp) (Nat.le_refl _)
    have hax : a.eval x = .slice none 0 0 := by
     generalize a.eval x = y at hx
     cases (show Zdo w St .nils y from Zca.plain hx rfl); rfl
    refine ZAf .nils hk ?_
    rw [hax]
    simp only [Instr.sliceAt, Instr.slice, Sem.run_bind, run_underlying ht.und, Result.andThen_ok, Option.map_none, Sem.run_pure, hb, ZbX ht2]
    simp
   ·exact hk.elim
  ·exact hk.elim
theorem ZAA (op : BinOp) (t : TypeId) {k : IntKind} {a b : Int} {r : Value} (h : ZAM op k a b = some r) (x' y' : Operand) (w : World) :
  (do eqGuard op t x' y' (.int k a) (.int k b); binOp op t (.int k a) (.int k b)).run P w = .ok r w ∧ r.oneCell' = true := by
 have _gl : Gl P := inferInstance
 cases op
 case quo =>
  simp only [ZAM] at h
  split at h
  ·exact absurd h (by simp)
  ·rename_i hb; injection h with h; subst h; exact ⟨by simp [eqGuard, binOp, Op.intDiv, hb], rfl⟩
 case rem =>
  simp only [ZAM] at h
  split at h
  ·exact absurd h (by simp)
  ·rename_i hb; injection h with h; subst h; exact ⟨by simp [eqGuard, binOp, Op.intDiv, hb], rfl⟩
 all_goals
  simp only [ZAM, Option.some.injEq, reduceCtorEq] at h
 all_goals
  subst h
  exact ⟨by simp [eqGuard, binOp, Op.intArith, Op.intCmp], rfl⟩
theorem ZA0 (op : BinOp) (t : TypeId) {a b : ByteArray} {r : Value} (h : ZBs op a b = some r) (ha : Zxn op (.string a) (.string b)) (x' y' : Operand) (w : World) :
  (do eqGuard op t x' y' (.string a) (.string b); binOp op t (.string a) (.string b)).run P w = .ok r w ∧ r.oneCell' = true := by
 have _gl : Gl P := inferInstance
 cases op
 case add =>
  simp only [ZBs, Option.some.injEq] at h
  subst h
  simp only [Zxn] at ha
  refine ⟨?_, rfl⟩
  have hn : ¬ (((a.size + b.size : Nat) : Int) > IntKind.i64.max) := Int.not_lt.2 ha
  simp only [eqGuard, binOp, Op.stringOp, Sem.run_bind, Sem.run_ite, if_neg hn]
  simp
 all_goals
  simp only [ZBs, Option.some.injEq, reduceCtorEq] at h
 all_goals
  subst h
  exact ⟨by simp [eqGuard, binOp, Op.stringOp], rfl⟩
theorem ZAu (op : BinOp) (t : TypeId) {x y r : Value} (h : ZC3 op x y = some r) (hadd : Zxn op x y) (x' y' : Operand) (w : World) :
  (do eqGuard op t x' y' x y; binOp op t x y).run P w = .ok r w ∧ r.oneCell' = true := by
 unfold ZC3 at h
 split at h
 ·split at h
  ·rename_i hkk; subst hkk; exact ZAA op t h x' y' w
  ·cases h
 ·exact ZA0 op t h hadd x' y' w
 ·cases h
theorem ZnM {t : TypeId} (ht : P.underlying t = some .bool) (b c : Bool) (w : World) : (Op.equal t (.bool b) (.bool c)).run P w = .ok (b == c) w := by
 have _gl : Gl P := inferInstance
 have : ∀ d, (Op.equalIn (d + 1) t (.bool b) (.bool c)).run P w = .ok (b == c) w := fun d => by simp only [Op.equalIn, Sem.run_bind, run_underlying ht, Result.andThen_ok, Sem.run_pure]
 exact this 9999
theorem ZnY {t e : TypeId} (ht : P.underlying t = some (.slice e)) (p : Addr) (n c : Nat) (w : World) : (Op.equal t (.slice (some p) n c) (.slice none 0 0)).run P w = .ok false w := by
 have _gl : Gl P := inferInstance
 have : ∀ d, (Op.equalIn (d + 1) t (.slice (some p) n c) (.slice none 0 0)).run P w = .ok false w := fun d => by simp only [Op.equalIn, Sem.run_bind, run_underlying ht, Result.andThen_ok, Sem.run_pure]
 exact this 9999
theorem Zos {t e : TypeId} (ht : P.underlying t = some (.slice e)) (w : World) : (Op.equal t (.slice none 0 0) (.slice none 0 0)).run P w = .ok true w := by
 have _gl : Gl P := inferInstance
 have : ∀ d, (Op.equalIn (d + 1) t (.slice none 0 0) (.slice none 0 0)).run P w = .ok true w := fun d => by simp only [Op.equalIn, Sem.run_bind, run_underlying ht, Result.andThen_ok, Sem.run_pure, Option.isNone_none]
 exact this 9999
theorem ZnU {t e : TypeId} (ht : P.underlying t = some (.slice e)) (n c : Nat) (w : World) : (Op.equal t (.slice none n c) (.slice none 0 0)).run P w = .ok true w := by
 have _gl : Gl P := inferInstance
 have : ∀ d, (Op.equalIn (d + 1) t (.slice none n c) (.slice none 0 0)).run P w = .ok true w := fun d => by simp only [Op.equalIn, Sem.run_bind, run_underlying ht, Result.andThen_ok, Sem.run_pure, Option.isNone_none]
 exact this 9999
theorem Zjr {t : TypeId} {x y : Value} {r : Bool} (hr : (Op.equal t x y).run P w = .ok r w) (hx : (∃ b, x = .bool b) ∨ (∃ A n c, x = .slice A n c) ∨ ∃ cs, x = .agg cs ∧ P.eqGuardType P.depth t = false) (x' y' : Operand) :
  (do eqGuard .eql t x' y' x y; binOp .eql t x y).run P w = .ok (.bool r) w ∧ (do eqGuard .neq t x' y' x y; binOp .neq t x y).run P w = .ok (.bool (!r)) w := by
 have _gl : Gl P := inferInstance
 have h1 : ∀ op, (eqGuard op t x' y' x y).run P w = .ok () w := fun op => by
  rcases hx with ⟨b, rfl⟩ | ⟨A, n, c, rfl⟩ | ⟨cs, rfl, hg⟩
  ·cases op <;> rfl
  ·cases op <;> rfl
  ·cases y <;> cases op <;> first | rfl | simp [eqGuard, hg]
 have h2 : binOp .eql t x y = (do pure (.bool (← Op.equal t x y))) ∧ binOp .neq t x y = (do pure (.bool (!(← Op.equal t x y)))) := by
  rcases hx with ⟨b, rfl⟩ | ⟨A, n, c, rfl⟩ | ⟨cs, rfl, _⟩ <;> exact ⟨rfl, rfl⟩
 rw [h2.1, h2.2]
 simp only [Sem.run_bind, h1, hr, Result.andThen_ok, Sem.run_pure, and_self]
def ZEd (w : World) (St : ZaA) (ρ : Nat → Nat) : D → Value → Prop
 | .c _ e, v => Zca w St ρ e v
 | .agg es, v => ∃ vs : List Value, v = .agg vs.toArray ∧ Ze9 w St ρ es vs
 | _, _ => False
theorem ZyI {w : World} {St : ZaA} {ρ : Nat → Nat} {tk : Option (Nat × Nat)} {e : E} {u : Value} (h : Zet w St ρ (Zle tk e) u) : Zca w St ρ e u := by
 cases e with
 | pt n off => have h : u = .pointer (some ⟨ρ n, off, none⟩) := h; rw [h]; exact .pt n off
 | _ => exact h
include hL in
theorem ZoI {t off : Nat} {es : List E} {vs : List Value} {d : D} (hr : Ze9 w St ρ es vs) (h : Zt7 L t es off = some d) : ∃ v, (part t vs.toArray off).run P w = .ok v w ∧ ZEd w St ρ d v := by
 unfold Zt7 at h
 split at h
 ·rename_i hkn
  split at h
  ·rename_i ha
   have hk : Zq0 L t es off fun x => x = .agg ((es.drop off).take (L.ti t).size) := ⟨hkn, by rw [if_pos ha]⟩
   obtain ⟨d', v, rfl, hrun, hrep, _⟩ := Zm2 (S := ⟨[], []⟩) (ρ := ρ) (tm := #[]) hL hr hk
   simp only [Option.some.injEq] at h; subst h
   exact ⟨v, hrun, hrep⟩
  ·rename_i ha
   split at h
   ·rename_i e he
    have hk : Zq0 L t es off fun x => x = Zle none e := ⟨hkn, by rw [if_neg ha, he]⟩
    obtain ⟨d', v, rfl, hrun, hrep, _⟩ := Zm2 (S := ⟨[], []⟩) (ρ := ρ) (tm := #[]) hL hr hk
    simp only [Option.some.injEq] at h; subst h
    exact ⟨v, hrun, ZyI hrep⟩
   ·cases h
 ·cases h
include hL in
theorem ZxK : ∀ (d t : Nat) (a b : D) (r : Bool) (x y : Value), eqD L d t a b = some r → ZEd w St ρ a x → ZEd w St ρ b y → ∀ n, d ≤ n → (Op.equalIn (n + 1) t x y).run P w = .ok r w := by
 intro d
 induction d with
 | zero => intro t a b r x y h; simp [eqD] at h
 | succ d ih =>
  intro t a b r x y h hx hy n hn
  match a, b, h, hx, hy with
  | .agg xs, .agg ys, h, hx, hy =>
   simp only [eqD] at h
   obtain ⟨vs, rfl, hvs⟩ := hx
   obtain ⟨us, rfl, hus⟩ := hy
   split at h
   case h_3 => cases h
   case h_2 m e hfs =>
    split at h
    case isFalse => cases h
    rename_i hcmp
    rw [Bool.and_eq_true] at hcmp
    obtain ⟨de, ti, ht⟩ := hL.ty (t := t) (.inl (ZaD hfs (by simp)))
    have hd := ZpW (ht.k.symm.trans hfs)
    subst hd
    obtain ⟨de2, ti2, ht2⟩ := hL.ty (t := e) (.inl hcmp.2)
    have hcells : P.cellsOf e = (L.ti e).size := by unfold Program.cellsOf; rw [ht2.info]; exact ht2.size.symm
    rw [run_equalIn_array (P := P) w n vs.toArray us.toArray ht.und ht2.info, hcells]
    have key : ∀ (is : List Nat) (r : Bool), Zzy (eqD L d) L e xs ys is = some r → (Op.eqItems n e (L.ti e).size vs.toArray us.toArray is).run P w = .ok r w := by
     intro is
     induction is with
     | nil => intro r h; simp only [Zzy, Option.some.injEq] at h; subst h; simp [Op.eqItems]
     | cons k is ihl =>
      intro r h
      simp only [Zzy] at h
      split at h
      case h_2 => cases h
      rename_i p q hp hq
      split at h
      case h_2 => cases h
      rename_i r1 r2 h1 h2
      simp only [Option.some.injEq] at h
      obtain ⟨v1, hv1, hr1⟩ := ZoI hL hvs hp
      obtain ⟨v2, hv2, hr2⟩ := ZoI hL hus hq
      obtain ⟨n', rfl⟩ : ∃ n', n = n' + 1 := ⟨n - 1, by
       have : 0 < d := by
        rcases Nat.eq_zero_or_pos d with h0 | h0
        ·subst h0; simp [eqD] at h1
        ·exact h0
       omega⟩
      have he := ih e p q r1 v1 v2 h1 hr1 hr2 n' (by omega)
      simp only [Op.eqItems, Sem.run_bind, hv1, hv2, he, Result.andThen_ok]
      subst h
      cases r1
      ·simp
      ·simpa using ihl r2 h2
    exact key _ r h
   rename_i fs hfs
   split at h
   case isFalse => cases h
   rename_i hcmp
   obtain ⟨de, ti, ht⟩ := hL.ty (t := t) (.inl (ZaD hfs (by simp)))
   obtain ⟨gs, rfl, hgs⟩ := ZoE (ht.k.symm.trans hfs)
   have hc := ht.cmp
   rw [hcmp] at hc
   simp only [Bool.true_eq, Bool.and_eq_true, Bool.not_eq_true'] at hc
   obtain ⟨⟨hst, hnames⟩, _⟩ := hc
   have hf : P.fieldsOf t = gs := by simp [Program.fieldsOf, ht.und]
   rw [run_equalIn_struct (P := P) w n t _ _ (by rw [hf]; exact ht.und) hst, hf]
   have key : ∀ (l : List Field) (r : Bool), l.all (·.name != "_") = true → ZzS (eqD L d) L (l.map fun f => (f.type, f.offset)) xs ys = some r → (Op.eqFields n vs.toArray us.toArray l).run P w = .ok r w := by
    intro l
    induction l with
    | nil => intro r _ h; simp only [List.map_nil, ZzS, Option.some.injEq] at h; subst h; simp [Op.eqFields]
    | cons f l ihl =>
     intro r hn' h
     simp only [List.all_cons, Bool.and_eq_true, bne_iff_ne, ne_eq] at hn'
     simp only [List.map_cons, ZzS] at h
     split at h
     case h_2 => cases h
     rename_i p q hp hq
     split at h
     case h_2 => cases h
     rename_i r1 r2 h1 h2
     simp only [Option.some.injEq] at h
     obtain ⟨v1, hv1, hr1⟩ := ZoI hL hvs hp
     obtain ⟨v2, hv2, hr2⟩ := ZoI hL hus hq
     obtain ⟨n', rfl⟩ : ∃ n', n = n' + 1 := ⟨n - 1, by omega⟩
     have he := ih f.type p q r1 v1 v2 h1 hr1 hr2 n' (by omega)
     simp only [Op.eqFields, ne_eq, hn'.1, not_false_eq_true, if_true, Sem.run_bind, hv1, hv2, he, Result.andThen_ok]
     subst h
     cases r1
     ·simp
     ·simpa using ihl r2 hn'.2 h2
   exact key gs.toList r hnames (by rw [← hgs]; exact h)
  | .c t1 (.v x'), .c t2 (.v y'), h, hx, hy =>
   simp only [eqD] at h
   have hx' : x = x' := by cases (show Zdo w St (.v x') x from Zca.val hx); rfl
   have hy' : y = y' := by cases (show Zdo w St (.v y') y from Zca.val hy); rfl
   subst hx' hy'
   unfold ZzD at h
   split at h
   ·have hk : (L.ti t).k = TK.bool := by assumption
    obtain ⟨de, ti, ht⟩ := hL.ty (t := t) (.inl (ZaD hk (by simp)))
    obtain rfl := ZrK (ht.k.symm.trans hk)
    simp only [Option.some.injEq] at h; subst h
    exact run_equalIn_bool' w n t _ _ ht.und
   ·obtain ⟨kk, hk⟩ : ∃ kk, (L.ti t).k = TK.int kk := ⟨_, by assumption⟩
    obtain ⟨de, ti, ht⟩ := hL.ty (t := t) (.inl (ZaD hk (by simp)))
    obtain rfl := Zst (ht.k.symm.trans hk)
    split at h
    ·rename_i hkk; subst hkk
     simp only [Option.some.injEq] at h; subst h
     exact run_equalIn_int w n t _ _ _ _ ht.und
    ·cases h
   ·have hk : (L.ti t).k = TK.string := by assumption
    obtain ⟨de, ti, ht⟩ := hL.ty (t := t) (.inl (ZaD hk (by simp)))
    obtain rfl := Zim (ht.k.symm.trans hk)
    simp only [Option.some.injEq] at h; subst h
    exact run_equalIn_string w n t _ _ ht.und
   ·cases h
theorem Zuk {d t : Nat} {xs ys : List E} {r : Bool} (hL : TOk P L) (h : eqD L (d + 1) t (.agg xs) (.agg ys) = some r) : P.eqGuardType P.depth t = false := by
 simp only [eqD] at h
 split at h
 case h_3 => cases h
 case h_2 m e hfs =>
  split at h
  case isFalse => cases h
  rename_i hcmp
  rw [Bool.and_eq_true] at hcmp
  obtain ⟨de, ti, ht⟩ := hL.ty (t := t) (.inl (ZaD hfs (by simp)))
  have hc := ht.cmp
  rw [hcmp.1] at hc
  simp only [Bool.true_eq, Bool.and_eq_true, Bool.not_eq_true'] at hc
  exact hc.2
 rename_i fs hfs
 split at h
 case isFalse => cases h
 rename_i hcmp
 obtain ⟨de, ti, ht⟩ := hL.ty (t := t) (.inl (ZaD hfs (by simp)))
 have hc := ht.cmp
 rw [hcmp] at hc
 simp only [Bool.true_eq, Bool.and_eq_true, Bool.not_eq_true'] at hc
 exact hc.2
include hL in
theorem ZyE (h : ZQ P w0 M0 S0 S a.tmps w St ρ) {op : BinOp} {t : Nat} {x y : Operand} {K : D → Prop} (hk : Zyp L op t (S.ev x) (S.ev y) K) :
  Zh3 P S a.tmps w St ρ ((do eqGuard op t x y (a.eval x) (a.eval y); binOp op t (a.eval x) (a.eval y)).run P w) K := by
 have hx := ZbL h x
 have hy := ZbL h y
 unfold Zyp at hk
 split at hk
 ·rename_i tk v tk' v' hdx hdy
  rw [hdx] at hx; rw [hdy] at hy
  obtain ⟨hx, ox⟩ := ZfF (d := .c tk (.v v)) hx rfl
  obtain ⟨hy, oy⟩ := ZfF (d := .c tk' (.v v')) hy rfl
  rw [hx, hy]
  split at hk
  ·rename_i r hr
   obtain ⟨hadd, hk⟩ := hk
   have hrun := ZAu (P := P) op t hr hadd x y w
   exact Zew r hrun.2 hk hrun.1
  ·split at hk
   ·have hb : (L.ti t).k = .bool := by assumption
    obtain ⟨d, ti, ht⟩ := hL.ty (t := t) (.inl (ZaD hb (by simp)))
    obtain rfl := ZrK (ht.k.symm.trans hb)
    refine Zew _ rfl hk ?_
    exact (Zjr (ZnM ht.und _ _ w) (.inl ⟨_, rfl⟩) x y).1
   ·have hb : (L.ti t).k = .bool := by assumption
    obtain ⟨d, ti, ht⟩ := hL.ty (t := t) (.inl (ZaD hb (by simp)))
    obtain rfl := ZrK (ht.k.symm.trans hb)
    refine Zew _ rfl hk ?_
    exact (Zjr (ZnM ht.und _ _ w) (.inl ⟨_, rfl⟩) x y).2
   ·exact hk.elim
 ·rename_i tk rows tk' hdx hdy
  rw [hdx] at hx; rw [hdy] at hy
  have hay : a.eval y = .slice none 0 0 := by
   generalize a.eval y = z at hy
   cases (show Zdo w St .nils z from Zca.plain hy rfl); rfl
  have hax : (∃ p n c, a.eval x = .slice (some p) n c) ∨ (rows = [] ∧ ∃ n c, a.eval x = .slice none n c) := by
   generalize a.eval x = z at hx
   cases (show Zdo w St (.sl rows) z from Zca.plain hx rfl) with
   | sl _ A n c sz b o ZcM hn hc hm hA hs hv hr =>
    cases A with
    | some p => exact .inl ⟨p, n, c, rfl⟩
    | none =>
     refine .inr ⟨?_, n, c, rfl⟩
     cases rows with
     | nil => rfl
     | cons r rs => have := hA (by rw [← hn]; simp); cases this
  split at hk
  ·rename_i e hb
   obtain ⟨d, ti, ht⟩ := hL.ty (t := t) (.inl (ZaD hb (by simp)))
   obtain rfl := ZeP (ht.k.symm.trans hb)
   rcases hax with ⟨p, n, c, hax⟩ | ⟨he, n, c, hax⟩
   ·refine Zew _ rfl hk.2 ?_
    rw [hax, hay]; exact (Zjr (ZnY ht.und _ _ _ w) (.inr (.inl ⟨_, _, _, rfl⟩)) x y).1
   ·refine Zew _ rfl (hk.1 he) ?_
    rw [hax, hay]; exact (Zjr (ZnU ht.und _ _ w) (.inr (.inl ⟨_, _, _, rfl⟩)) x y).1
  ·rename_i e hb
   obtain ⟨d, ti, ht⟩ := hL.ty (t := t) (.inl (ZaD hb (by simp)))
   obtain rfl := ZeP (ht.k.symm.trans hb)
   rcases hax with ⟨p, n, c, hax⟩ | ⟨he, n, c, hax⟩
   ·refine Zew _ rfl hk.2 ?_
    rw [hax, hay]; exact (Zjr (ZnY ht.und _ _ _ w) (.inr (.inl ⟨_, _, _, rfl⟩)) x y).2
   ·refine Zew _ rfl (hk.1 he) ?_
    rw [hax, hay]; exact (Zjr (ZnU ht.und _ _ w) (.inr (.inl ⟨_, _, _, rfl⟩)) x y).2
  ·exact hk.elim
 ·rename_i tk tk' hdx hdy
  rw [hdx] at hx; rw [hdy] at hy
  have hay : a.eval y = .slice none 0 0 := by
   generalize a.eval y = z at hy
   cases (show Zdo w St .nils z from Zca.plain hy rfl); rfl
  have hax : a.eval x = .slice none 0 0 := by
   generalize a.eval x = z at hx
   cases (show Zdo w St .nils z from Zca.plain hx rfl); rfl
  split at hk
  ·rename_i e hb
   obtain ⟨d, ti, ht⟩ := hL.ty (t := t) (.inl (ZaD hb (by simp)))
   obtain rfl := ZeP (ht.k.symm.trans hb)
   refine Zew _ rfl hk ?_
   rw [hax, hay]; exact (Zjr (Zos ht.und w) (.inr (.inl ⟨_, _, _, rfl⟩)) x y).1
  ·rename_i e hb
   obtain ⟨d, ti, ht⟩ := hL.ty (t := t) (.inl (ZaD hb (by simp)))
   obtain rfl := ZeP (ht.k.symm.trans hb)
   refine Zew _ rfl hk ?_
   rw [hax, hay]; exact (Zjr (Zos ht.und w) (.inr (.inl ⟨_, _, _, rfl⟩)) x y).2
  ·exact hk.elim
 ·rename_i xs ys hdx hdy
  rw [hdx] at hx; rw [hdy] at hy
  obtain ⟨vs, hvx, hrx⟩ := hx
  obtain ⟨us, hvy, hry⟩ := hy
  split at hk
  ·rename_i b hb
   refine Zew _ rfl hk ?_
   rw [hvx, hvy]
   exact (Zjr (ZxK hL 8 t (.agg xs) (.agg ys) b _ _ hb ⟨vs, rfl, hrx⟩ ⟨us, rfl, hry⟩ 9999 (by decide)) (.inr (.inr ⟨_, rfl, Zuk hL hb⟩)) x y).1
  ·rename_i b hb
   refine Zew _ rfl hk ?_
   rw [hvx, hvy]
   exact (Zjr (ZxK hL 8 t (.agg xs) (.agg ys) b _ _ hb ⟨vs, rfl, hrx⟩ ⟨us, rfl, hry⟩ 9999 (by decide)) (.inr (.inr ⟨_, rfl, Zuk hL hb⟩)) x y).2
  ·exact hk.elim
 ·exact hk.elim
theorem Zzs (h : ZQ P w0 M0 S0 S a.tmps w St ρ) {op : UnOp} {x : Operand} {K : D → Prop} (hk : unK op (S.ev x) K) :
  Zh3 P S a.tmps w St ρ ((Op.unary op (a.eval x)).run P w) K := by
 have hx := ZbL h x
 unfold unK at hk
 split at hk
 ·rename_i tk k n hd
  rw [hd] at hx
  obtain ⟨hx, _⟩ := ZfF (d := .c tk (.v (.int k n))) hx rfl
  exact Zew _ rfl hk (by rw [hx]; simp [Op.unary, Op.intArith])
 ·rename_i tk b hd
  rw [hd] at hx
  obtain ⟨hx, _⟩ := ZfF (d := .c tk (.v (.bool b))) hx rfl
  exact Zew _ rfl hk (by rw [hx]; simp [Op.unary])
 ·exact hk.elim
theorem Zqb (w : World) (src dst e : TypeId) (A : Option Addr) (l c : Nat)
  (hs : P.underlying src = some (.slice e)) (he : P.underlying e = some (.int .u8)) (hd : P.underlying dst = some .string) :
  (convert src dst (.slice A l c)).run P w = (Conv.bytesToString (.slice A l c)).run P w := by
 have _gl : Gl P := inferInstance
 simp [convert, run_underlying hs, run_underlying hd, run_underlying he]
include hL in
theorem ZtW (h : ZQ P w0 M0 S0 S a.tmps w St ρ) {s t : Nat} {x : Operand} {K : D → Prop} (hk : Zl6 L s t (S.ev x) K) :
  Zh3 P S a.tmps w St ρ ((convert s t (a.eval x)).run P w) K := by
 have hx := ZbL h x
 unfold Zl6 at hk
 split at hk
 ·rename_i k tk k' n hk1 hd
  obtain ⟨hs, hk⟩ := hk
  split at hs
  ·rename_i ks hks
   obtain ⟨d, ti, ht⟩ := hL.ty (t := t) (.inl (ZaD hk1 (by simp)))
   obtain rfl := Zst (ht.k.symm.trans hk1)
   obtain ⟨d2, ti2, ht2⟩ := hL.ty (t := s) (.inl (ZaD hks (by simp)))
   obtain rfl := Zst (ht2.k.symm.trans hks)
   rw [hd] at hx
   obtain ⟨hx, _⟩ := ZfF (d := .c tk (.v (.int k' n))) hx rfl
   exact Zew _ rfl hk (by rw [hx]; simp [convert, run_underlying ht.und, run_underlying ht2.und, Conv.intToInt])
  ·exact hs.elim
 ·rename_i tk s' hk1 hd
  obtain ⟨hs, hk⟩ := hk
  split at hs
  ·rename_i hks
   obtain ⟨d, ti, ht⟩ := hL.ty (t := t) (.inl (ZaD hk1 (by simp)))
   obtain rfl := Zim (ht.k.symm.trans hk1)
   obtain ⟨d2, ti2, ht2⟩ := hL.ty (t := s) (.inl (ZaD hks (by simp)))
   obtain rfl := Zim (ht2.k.symm.trans hks)
   rw [hd] at hx
   obtain ⟨hx, _⟩ := ZfF (d := .c tk (.v (.string s'))) hx rfl
   exact Zew _ rfl hk (by rw [hx]; simp [convert, run_underlying ht.und, run_underlying ht2.und])
  ·exact hs.elim
 ·rename_i tk rows hk1 hd
  obtain ⟨hs, l, hl, hk⟩ := hk
  split at hs
  ·rename_i e hks
   obtain ⟨d, ti, ht⟩ := hL.ty (t := t) (.inl (ZaD hk1 (by simp)))
   obtain rfl := Zim (ht.k.symm.trans hk1)
   obtain ⟨d2, ti2, ht2⟩ := hL.ty (t := s) (.inl (ZaD hks (by simp)))
   obtain rfl := ZeP (ht2.k.symm.trans hks)
   obtain ⟨d3, ti3, ht3⟩ := hL.ty (t := e) (.inl (ZaD hs (by simp)))
   obtain rfl := Zst (ht3.k.symm.trans hs)
   rw [hd] at hx
   have hx : Zdo w St (.sl rows) (a.eval x) := Zca.plain hx rfl
   refine Zew _ rfl hk ?_
   generalize a.eval x = xv at hx
   cases hx with
   | sl _ A n c sz b o ZcM hn hc hm hA hrs hv hr =>
    rw [Zqb w s t e A n c ht2.und ht3.und ht.und]
    have hln : l.length = n := by rw [← hn, hl]; simp
    have hcell : ∀ j, j < n → w.cell? ⟨b, o + j, none⟩ = some ((l.map (Value.int .u8))[j]?.getD undef) := fun j hj => by
     obtain ⟨y, hlj⟩ : ∃ y, l[j]? = some y := ⟨_, List.getElem?_eq_getElem (by omega)⟩
     have hrow : rows[j]? = some (Zxv y) := by rw [hl, List.getElem?_map, hlj]; rfl
     have hsz : sz = 1 := (hrs j _ hrow).symm
     have h1 := (hv j 0 _ _ hrow rfl).2
     have h2 : Zdo w St (.v (.int .u8 y)) (ZcM j 0) := hr j 0 _ _ hrow rfl
     have h3 := (ZfF (w := w) (St := St) (ρ := ρ) (d := .c none (.v (.int .u8 y))) (Zca.e _ _ h2) rfl).1
     rw [hsz] at h1
     simp only [Nat.mul_one, Nat.add_zero] at h1
     rw [h1, List.getElem?_map, hlj, h3]; rfl
    have hload : ∀ A', (0 < n → A' = ⟨b, o, none⟩) → (loadCells A' n).run P w = .ok (l.map (Value.int .u8)).toArray w := fun A' hA' => by
     rcases Nat.eq_zero_or_pos n with h0 | h0
     ·subst h0
      have : l = [] := List.eq_nil_of_length_eq_zero hln
      subst this
      simp [loadCells, loadCellsFrom]
     ·rw [hA' h0]
      have := run_loadCells (P := P) w ⟨b, o, none⟩ n (fun j => (l.map (Value.int .u8))[j]?.getD undef) (fun j hj => by rw [ZfD]; exact hcell j hj)
      rw [this]
      congr 1
      apply Array.toList_inj.1
      apply List.ext_getElem?
      intro j
      simp only [Array.toList_map, Array.toList_range, List.getElem?_map]
      by_cases hj : j < n
      ·rw [List.getElem?_range hj]
       obtain ⟨y, hlj⟩ : ∃ y, l[j]? = some y := ⟨_, List.getElem?_eq_getElem (by omega)⟩
       simp [hlj]
      ·rw [List.getElem?_eq_none (by simpa using hj), List.getElem?_eq_none (by simpa [hln] using hj)]; rfl
    cases A with
    | none =>
     have h0 : n = 0 := by
      rcases Nat.eq_zero_or_pos n with h0 | h0
      ·exact h0
      ·cases hA h0
     subst h0
     have : l = [] := List.eq_nil_of_length_eq_zero hln
     subst this
     rfl
    | some A' =>
     exact run_bytesToString w A' n c l (hload A' fun h0 => by have := hA h0; injection this)
  ·exact hs.elim
 ·exact hk.elim
theorem Zs2 {d : TypeDesc} {k v : Nat} (h : ZhK d = .map k v) : d = .map k v := by cases d <;> simp_all [ZhK]
theorem Zvb (h : ZQ P w0 M0 S0 S a.tmps w St ρ) {n t : Nat} {rows : List (List E)} (ht : P.underlying t ≠ none) (hb : S.box n = some [(none, .ob (2 * t + 1) rows)]) : ∃ (kt vt : Nat) (d : TypeDesc) (es : Array MapEntry) (clock : Nat) (l : List MapEntry),
  P.underlying t = some (.map kt vt) ∧ P.underlying kt = some d ∧ w.heap[ρ n]? = some (.map es clock) ∧ l.Perm es.toList ∧ rows.length = l.length ∧
  (∀ (i : Nat) (row : List E), rows[i]? = some row → ∃ (en : MapEntry) (us vs : List Value), l[i]? = some en ∧ en.key = ZjW (ZjR P kt) us ∧ en.val = ZjW (ZjR P vt) vs ∧ us.length = P.cellsOf kt ∧ ZgT w St row (us ++ vs)) ∧ Go.MapKept.Stamped es clock ∧
  ∀ x ∈ l, Go.MapKept.IsKey d x.key := by
 rcases h.box n _ hb with ⟨_, k, he⟩ | ⟨_, _, _, hba⟩
 ·simp only [List.cons.injEq, Prod.mk.injEq, E.ob.injEq] at he
  omega
 ·generalize hc : ([(none, .ob (2 * t + 1) rows)] : List Cell) = cs at hba
  cases hba with
  | cells _ arr t h1 h2 h3 =>
   subst hc
   obtain ⟨u, _, hu⟩ := h3 0 _ rfl
   cases hu with
   | e _ _ hu => cases hu
  | row k rows' cur h1 =>
   simp only [List.cons.injEq, Prod.mk.injEq, E.ob.injEq] at hc
   obtain ⟨⟨_, h7, _⟩, _⟩ := hc
   omega
  | map t' kt vt d rows' es clock l h0 hd h1 hp h2 h3 hst hk =>
   simp only [List.cons.injEq, Prod.mk.injEq, E.ob.injEq] at hc
   obtain ⟨⟨_, h7, rfl⟩, _⟩ := hc
   have : t = t' := by omega
   subst this
   exact ⟨kt, vt, d, es, clock, l, h0, hd, h1, hp, h2, h3, hst, hk⟩
  | iter s pos h0 h1 =>
   simp only [List.cons.injEq, Prod.mk.injEq, E.ob.injEq] at hc
   obtain ⟨⟨_, h7, _⟩, _⟩ := hc
   have : t = 1000000 := by omega
   subst this
   exact (ht h0).elim
theorem ZBd (h : ZQ P w0 M0 S0 S a.tmps w St ρ) (hL : TOk P L) {t ty : Nat} {x : Operand} {K : D → Prop} (hk : Zvi L S t (S.ev x) K) :
  Zh3 P S a.tmps w St ρ ((Builtin.len_ #[t] ty #[a.eval x]).run P w) K := by
 have hx := ZbL h x
 unfold Zvi at hk
 split at hk
 ·rename_i e tk n l hst hd
  obtain ⟨d, ti, ht⟩ := hL.ty (t := t) (.inl (ZaD hst (by simp)))
  obtain rfl := ZeP (ht.k.symm.trans hst)
  rw [hd] at hx
  generalize a.eval x = z at hx
  cases (hx : Zca w St ρ (.rs n l) z) with
  | e _ _ h => cases h
  | rs0 _ A h => exact Zew (.int .i64 ((0 : Nat) : Int)) rfl (hk (by omega)) (by simp [Builtin.len_, run_underlying ht.und, goInt])
  | rs _ _ h hl hm => exact Zew (.int .i64 (l : Int)) rfl (hk (by omega)) (by simp [Builtin.len_, run_underlying ht.und, goInt])
 ·rename_i kt vt tk n hst hd
  obtain ⟨d, ti, ht⟩ := hL.ty (t := t) (.inl (ZaD hst (by simp)))
  obtain rfl := Zs2 (ht.k.symm.trans hst)
  rw [hd] at hx
  split at hk
  case h_2 => exact hk.elim
  rename_i code rows hb
  obtain ⟨rfl, hk⟩ := hk
  obtain ⟨kt', vt', dk, es, clock, l, _, _, hh, hp, hl, _⟩ := Zvb h (by rw [ht.und]; simp) hb
  have hl : rows.length = es.size := by rw [hl, hp.length_eq, Array.length_toList]
  generalize a.eval x = z at hx
  cases (hx : Zca w St ρ (.rf n) z) with
  | e _ _ h => cases h
  | rf => exact Zew (.int .i64 (rows.length : Int)) rfl hk (by simp [Builtin.len_, run_underlying ht.und, goInt, Go.MapKept.run_getObj_map hh, hl])
 ·rename_i tk s hst hd
  obtain ⟨d, ti, ht⟩ := hL.ty (t := t) (.inl (ZaD hst (by simp)))
  obtain rfl := Zim (ht.k.symm.trans hst)
  rw [hd] at hx
  obtain ⟨hx, _⟩ := ZfF (d := .c tk (.v (.string s))) hx rfl
  exact Zew _ rfl hk (by rw [hx]; simp [Builtin.len_, run_underlying ht.und, goInt])
 ·rename_i e tk rows hst hd
  obtain ⟨d, ti, ht⟩ := hL.ty (t := t) (.inl (ZaD hst (by simp)))
  obtain rfl := ZeP (ht.k.symm.trans hst)
  rw [hd] at hx
  generalize a.eval x = z at hx
  cases (show Zdo w St (.sl rows) z from Zca.plain hx rfl) with
  | sl _ A n c sz b o ZcM hn hc hm hA hs hv hr =>
   exact Zew (.int .i64 rows.length) rfl (hk (by omega)) (by rw [hn]; simp [Builtin.len_, run_underlying ht.und, goInt])
 ·rename_i e tk hst hd
  obtain ⟨d, ti, ht⟩ := hL.ty (t := t) (.inl (ZaD hst (by simp)))
  obtain rfl := ZeP (ht.k.symm.trans hst)
  rw [hd] at hx
  generalize a.eval x = z at hx
  cases (show Zdo w St .nils z from Zca.plain hx rfl)
  exact Zew _ rfl hk (by simp [Builtin.len_, run_underlying ht.und, goInt])
 ·exact hk.elim
theorem Zwd (h : ZQ P w0 M0 S0 S a.tmps w St ρ) {mx : Bool} {ts : Array TypeId} {ty : Nat} {x y : Operand} {K : D → Prop} (hk : ZsP mx (S.ev x) (S.ev y) K) :
  Zh3 P S a.tmps w St ρ ((if mx then Builtin.max_ ts ty #[a.eval x, a.eval y] else Builtin.min_ ts ty #[a.eval x, a.eval y]).run P w) K := by
 have hx := ZbL h x
 have hy := ZbL h y
 unfold ZsP at hk
 split at hk
 ·rename_i tk k n tk' k' n' hdx hdy
  rw [hdx] at hx; rw [hdy] at hy
  obtain ⟨hx, _⟩ := ZfF (d := .c tk (.v (.int k n))) hx rfl
  obtain ⟨hy, _⟩ := ZfF (d := .c tk' (.v (.int k' n'))) hy rfl
  refine Zew _ rfl hk ?_
  rw [hx, hy]
  cases mx
  ·simp [Builtin.min_, Builtin.min2]
  ·simp [Builtin.max_, Builtin.max2]
 ·exact hk.elim
theorem Ztj (h : ZQ P w0 M0 S0 S a.tmps w St ρ) : ∀ (xs : List Operand) (vs : List Value), ZcM? S xs = some vs → xs.map a.eval = vs
 | [], vs, hv => by simp only [ZcM?, Option.some.injEq] at hv; subst hv; rfl
 | x :: xs, vs, hv => by
  simp only [ZcM?] at hv
  split at hv
  ·rename_i v vs' h1 h2
   injection hv with hv; subst hv
   simp only [List.map_cons, Ztj h xs vs' h2, (ZfF (ZbL h x) h1).1]
  ·cases hv
include hL in
theorem ZwZ (h : ZQ P w0 M0 S0 S a.tmps w St ρ) {op : BinOp} {t : Nat} {x y : Operand} {K : D → Prop} (hk : Zr8 L S op t x y K) :
  Zh3 P S a.tmps w St ρ ((do eqGuard op t x y (a.eval x) (a.eval y); binOp op t (a.eval x) (a.eval y)).run P w) K := by
 unfold Zr8 at hk
 split at hk
 case h_2 => exact ZyE hL h hk
 rename_i hy
 have hyc : y = .const .nilIface := by
  unfold ZAp at hy
  split at hy
  ·rfl
  ·cases hy
 subst hyc
 have hay : a.eval (.const .nilIface) = .nilIface := rfl
 have hx := ZbL h x
 have key : ∀ {tk : Option (Nat × Nat)} {b : Bool}, S.ev x = .c tk (.ifc b) → (L.ti t).k = .iface →
   (do eqGuard .eql t x (.const .nilIface) (a.eval x) .nilIface; binOp .eql t (a.eval x) .nilIface).run P w = .ok (.bool (!b)) w ∧ (do eqGuard .neq t x (.const .nilIface) (a.eval x) .nilIface; binOp .neq t (a.eval x) .nilIface).run P w = .ok (.bool b) w := by
  intro tk b hd hk
  obtain ⟨de, ti, ht⟩ := hL.ty (t := t) (.inl (ZaD hk (by simp)))
  obtain ⟨ms, rfl⟩ := ZA5 (ht.k.symm.trans hk)
  rw [hd] at hx
  have hu := ht.und
  generalize a.eval x = z at hx
  cases (show Zdo w St (.ifc b) z from Zca.plain hx rfl) with
  | ifc _ _ hb =>
   have h9 : ∀ d v, (v = .nilIface ∨ ∃ t u, v = .iface t u) → (Op.equalIn (d + 1) t v .nilIface).run P w = .ok (match v with | .nilIface => true | _ => false) w := fun d v hv => by
    rcases hv with rfl | ⟨t', u, rfl⟩ <;> simp only [Op.equalIn, Sem.run_bind, run_underlying hu, Result.andThen_ok, Sem.run_pure]
   have hz : z = .nilIface ∨ ∃ t u, z = .iface t u := by rcases hb with ⟨_, rfl⟩ | ⟨_, hz⟩; exact .inl rfl; exact .inr hz
   have h1 := h9 9999 z hz
   have g1 : ∀ op, (eqGuard op t x (.const .nilIface) z .nilIface).run P w = .ok () w := fun op => by
    rcases hz with rfl | ⟨t', u, rfl⟩ <;> cases op <;> (try rfl) <;> (simp [eqGuard])
   have h2 : binOp .eql t z .nilIface = (do pure (.bool (← Op.equal t z .nilIface))) ∧ binOp .neq t z .nilIface = (do pure (.bool (!(← Op.equal t z .nilIface)))) := by
    rcases hz with rfl | ⟨t', u, rfl⟩ <;> exact ⟨rfl, rfl⟩
   have h3 : (Op.equal t z .nilIface).run P w = .ok (!b) w := by
    refine h1.trans ?_
    rcases hb with ⟨rfl, rfl⟩ | ⟨rfl, t', u, rfl⟩ <;> rfl
   rw [h2.1, h2.2]
   simp only [Sem.run_bind, g1, h3, Result.andThen_ok, Sem.run_pure, Bool.not_not, and_self]
 rw [hay]
 split at hk
 ·rename_i hd hkk; exact Zew _ rfl hk (key hd hkk).1
 ·rename_i hd hkk; exact Zew _ rfl hk (key hd hkk).2
 ·exact hk.elim
end

def WT (r : Nat → Nat) : Option (Nat × Nat) → Option (Nat × Nat) → E → Prop
 | _, none, _ => True
 | some (s, k), some (t, k'), _ => r s = t ∧ k = k'
 | none, some _, .nils => True
 | none, some _, _ => False
def WQ (tk : Option (Nat × Nat)) (e e' : E) : Prop := WE e e' ∨ (tk = none ∧ e' = .any ∧ ∀ c rows, e ≠ .ob c rows)
def WX : X → X → Prop
 | _, .bot => True
 | .c e, .c e' => WE e e'
 | .agg a, .agg b => WL a b
 | _, _ => False
def WXs : List X → List X → Prop
 | [], [] => True
 | x :: xs, y :: ys => WX x y ∧ WXs xs ys
 | _, _ => False
def WD (r : Nat → Nat) : D → D → Prop
 | _, .bot => True
 | .c tk e, .c tk' e' => WT r tk tk' e ∧ WQ tk' e e'
 | .agg a, .agg b => WL a b
 | .tup a, .tup b => WXs a b
 | .ptr n o, .ptr m p => n = m ∧ o = p
 | .ref a, .ref b => WL a b
 | .ept n sz i o, .ept m sz' j p => n = m ∧ sz = sz' ∧ i = j ∧ o = p
 | _, _ => False
def WC (r : Nat → Nat) : Cell → Cell → Prop := fun c d => WT r c.1 d.1 c.2 ∧ WQ d.1 c.2 d.2
def WCs (r : Nat → Nat) : List Cell → List Cell → Prop
 | [], [] => True
 | x :: xs, y :: ys => WC r x y ∧ WCs r xs ys
 | _, _ => False
def WTs (r : Nat → Nat) (S : AS) : List (Nat × D) → Prop
 | [] => True
 | (i, d) :: l => WD r (S.get i) d ∧ WTs r S l
def WB (r : Nat → Nat) (o : Option (List Cell)) (cs : List Cell) : Prop :=
 match o with
 | some ds => WCs r ds cs
 | none => False
def WBs (r : Nat → Nat) (S : AS) : List (Nat × List Cell) → Prop
 | [] => True
 | (n, cs) :: l => WB r (S.box n) cs ∧ WBs r S l
structure WS (r : Nat → Nat) (S T : AS) : Prop where
 tmps : WTs r S T.tmps
 boxes : WBs r S T.boxes
theorem WL.len : ∀ {a b : List E}, WL a b → a.length = b.length
 | [], [], _ => rfl
 | _ :: _, _ :: _, h => by simp [WL.len h.2]
theorem WL.at : ∀ {a b : List E}, WL a b → ∀ (k : Nat) (x y : E), a[k]? = some x → b[k]? = some y → WE x y
 | _ :: _, _ :: _, h, 0, x, y, hx, hy => by simp at hx hy; subst hx hy; exact h.1
 | _ :: _, _ :: _, h, k + 1, x, y, hx, hy => WL.at h.2 k x y (by simpa using hx) (by simpa using hy)
 | [], [], _, k, x, y, hx, _ => by simp at hx
theorem WL.refl : ∀ a : List E, WL a a
 | [] => trivial
 | x :: xs => ⟨.refl x, WL.refl xs⟩
theorem WE.rows {a b : List (List E)} (hl : a.length = b.length) (h : ∀ (i : Nat) (ra rb : List E), a[i]? = some ra → b[i]? = some rb → WL ra rb) : WE (.sl a) (.sl b) :=
 .sl a b hl (fun i ra rb ha hb => (h i ra rb ha hb).len) fun i k ra rb x y ha hb hx hy => (h i ra rb ha hb).at k x y hx hy
theorem WE.row {ra rb : List E} (h : WL ra rb) : WE (.sl [ra]) (.sl [rb]) :=
 .rows rfl fun i a b ha hb => by
  cases i with
  | zero => simp at ha hb; subst ha hb; exact h
  | succ i => simp at ha
theorem WE.inv {a : List (List E)} {b : E} (h : WE (.sl a) b) : ∃ b', b = .sl b' ∧ a.length = b'.length ∧ ∀ (i : Nat) (ra rb : List E), a[i]? = some ra → b'[i]? = some rb → ra.length = rb.length ∧ ∀ (k : Nat) (x y : E), ra[k]? = some x → rb[k]? = some y → WE x y := by
 cases h with
 | refl => exact ⟨a, rfl, rfl, fun i ra rb ha hb => by rw [ha] at hb; injection hb with hb; subst hb; exact ⟨rfl, fun k x y hx hy => by rw [hx] at hy; injection hy with hy; subst hy; exact .refl _⟩⟩
 | sl _ b hl hr he => exact ⟨b, rfl, hl, fun i ra rb ha hb => ⟨hr i ra rb ha hb, fun k x y hx hy => he i k ra rb x y ha hb hx hy⟩⟩
theorem WE.app {a a' b b' : List (List E)} (h : WE (.sl a) (.sl a')) (k : WE (.sl b) (.sl b')) : WE (.sl (a ++ b)) (.sl (a' ++ b')) := by
 obtain ⟨_, h0, h1, h2⟩ := h.inv
 injection h0 with h0; subst h0
 obtain ⟨_, k0, k1, k2⟩ := k.inv
 injection k0 with k0; subst k0
 have key : ∀ (i : Nat) (ra rb : List E), (a ++ b)[i]? = some ra → (a' ++ b')[i]? = some rb → ra.length = rb.length ∧ ∀ (k : Nat) (x y : E), ra[k]? = some x → rb[k]? = some y → WE x y := fun i ra rb ha hb => by
  rcases Nat.lt_or_ge i a.length with hi | hi
  ·rw [List.getElem?_append_left hi] at ha
   rw [List.getElem?_append_left (by omega)] at hb
   exact h2 i ra rb ha hb
  ·rw [List.getElem?_append_right hi] at ha
   rw [List.getElem?_append_right (by omega), ← h1] at hb
   exact k2 _ ra rb ha hb
 exact .sl _ _ (by simp [h1, k1]) (fun i ra rb ha hb => (key i ra rb ha hb).1) fun i k ra rb x y ha hb hx hy => (key i ra rb ha hb).2 k x y hx hy
theorem Zdo.weak {w : World} {St : ZaA} {e e' : E} (h : WE e e') : ∀ {v : Value}, Zdo w St e v → Zdo w St e' v := by
 induction h with
 | refl e => exact id
 | nil => intro v h; cases h; exact .sl [] none 0 0 0 0 0 (fun _ _ => undef) rfl (by omega) (by simp) (fun h0 => by omega) (fun i row hi => by simp at hi) (fun i k row e hi => by simp at hi) (fun i k row e hi => by simp at hi)
 | sl a b hl hr he ih =>
  intro v h
  cases h with
  | sl _ A n c sz bb o ZcM hn hc hm hA hs hv hrr =>
   have row : ∀ (i : Nat) (rb : List E), b[i]? = some rb → ∃ ra, a[i]? = some ra := fun i rb hb => by
    have : i < b.length := (List.getElem?_eq_some_iff.1 hb).1
    exact ⟨_, List.getElem?_eq_getElem (by omega)⟩
   have el : ∀ (i k : Nat) (rb : List E) (y : E), b[i]? = some rb → rb[k]? = some y → ∃ ra x, a[i]? = some ra ∧ ra[k]? = some x := fun i k rb y hb hy => by
    obtain ⟨ra, ha⟩ := row i rb hb
    have h1 := hr i ra rb ha hb
    have : k < rb.length := (List.getElem?_eq_some_iff.1 hy).1
    exact ⟨ra, _, ha, List.getElem?_eq_getElem (by omega)⟩
   refine .sl b A n c sz bb o ZcM (by omega) hc hm hA (fun i rb hb => ?_) (fun i k rb y hb hy => ?_) (fun i k rb y hb hy => ?_)
   ·obtain ⟨ra, ha⟩ := row i rb hb
    rw [← hr i ra rb ha hb]; exact hs i ra ha
   ·obtain ⟨ra, x, ha, hx⟩ := el i k rb y hb hy
    exact hv i k ra x ha hx
   ·obtain ⟨ra, x, ha, hx⟩ := el i k rb y hb hy
    exact ih i k ra rb x y ha hb hx hy (hrr i k ra x ha hx)
theorem Zca.weak {w : World} {St : ZaA} {ρ : Nat → Nat} {e e' : E} (h : WE e e') {v : Value} (k : Zca w St ρ e v) : Zca w St ρ e' v := by
 cases h with
 | refl => exact k
 | nil => exact .e _ _ ((k.plain rfl).weak .nil)
 | sl a b hl hr he => exact .e _ _ ((k.plain rfl).weak (.sl a b hl hr he))
theorem Zca.weakQ {w : World} {St : ZaA} {ρ : Nat → Nat} {tk : Option (Nat × Nat)} {e e' : E} (h : WQ tk e e') {v : Value} (k : Zca w St ρ e v) : Zca w St ρ e' v := by
 rcases h with h | ⟨_, rfl, _⟩
 ·exact k.weak h
 ·exact .e _ _ (.any v k.oneCell)
section
variable {w : World} {St : ZaA} {ρ : Nat → Nat}
theorem Ze9.weak {a b : List E} {vs : List Value} (h : WL a b) (k : Ze9 w St ρ a vs) : Ze9 w St ρ b vs := by
 refine ⟨by rw [← h.len]; exact k.1, fun i y hy => ?_⟩
 have : i < b.length := (List.getElem?_eq_some_iff.1 hy).1
 have hlt : i < a.length := by have := h.len; omega
 have hx : a[i]? = some a[i] := List.getElem?_eq_getElem hlt
 obtain ⟨u, h1, h2⟩ := k.2 i _ hx
 exact ⟨u, h1, h2.weak (h.at i _ _ hx hy)⟩
theorem ZgT.weak {a b : List E} {vs : List Value} (h : WL a b) (k : ZgT w St a vs) : ZgT w St b vs := by
 refine ⟨by rw [← h.len]; exact k.1, fun i y hy => ?_⟩
 have : i < b.length := (List.getElem?_eq_some_iff.1 hy).1
 have hlt : i < a.length := by have := h.len; omega
 have hx : a[i]? = some a[i] := List.getElem?_eq_getElem hlt
 obtain ⟨u, h1, h2⟩ := k.2 i _ hx
 exact ⟨u, h1, h2.weak (h.at i _ _ hx hy)⟩
theorem ZqD.weak {x y : X} {v : Value} (h : WX x y) (k : ZqD w St ρ x v) : ZqD w St ρ y v := by
 cases y with
 | bot => exact trivial
 | c e' => cases x with
  | c e => exact Zca.weak h k
  | _ => exact h.elim
 | agg b => cases x with
  | agg a => obtain ⟨vs, rfl, k⟩ := k; exact ⟨vs, rfl, k.weak h⟩
  | _ => exact h.elim
theorem WXs.len : ∀ {a b : List X}, WXs a b → a.length = b.length
 | [], [], _ => rfl
 | _ :: _, _ :: _, h => by simp [WXs.len h.2]
theorem WXs.at : ∀ {a b : List X}, WXs a b → ∀ (k : Nat) (x y : X), a[k]? = some x → b[k]? = some y → WX x y
 | _ :: _, _ :: _, h, 0, x, y, hx, hy => by simp at hx hy; subst hx hy; exact h.1
 | _ :: _, _ :: _, h, k + 1, x, y, hx, hy => WXs.at h.2 k x y (by simpa using hx) (by simpa using hy)
 | [], [], _, k, x, y, hx, _ => by simp at hx
theorem Zet.weak {r : Nat → Nat} {d d' : D} {v : Value} (h : WD r d d') (k : Zet w St ρ d v) : Zet w St ρ d' v := by
 cases d' with
 | bot => exact trivial
 | c tk' e' => cases d with
  | c tk e => exact Zca.weakQ h.2 k
  | _ => exact h.elim
 | ept m sz j p => cases d with
  | ept n sz i o => obtain ⟨rfl, rfl, rfl, rfl⟩ := h; exact k
  | _ => exact h.elim
 | agg b => cases d with
  | agg a => obtain ⟨vs, rfl, k⟩ := k; exact ⟨vs, rfl, k.weak h⟩
  | _ => exact h.elim
 | tup b => cases d with
  | tup a =>
   have h : WXs a b := h
   obtain ⟨vs, rfl, h1, h2⟩ := k
   refine ⟨vs, rfl, by rw [← h.len]; exact h1, fun i y hy => ?_⟩
   have : i < b.length := (List.getElem?_eq_some_iff.1 hy).1
   have hlt : i < a.length := by have := h.len; omega
   have hx : a[i]? = some a[i] := List.getElem?_eq_getElem hlt
   obtain ⟨u, h3, h4⟩ := h2 i _ hx
   exact ⟨u, h3, h4.weak (h.at i _ _ hx hy)⟩
  | _ => exact h.elim
 | ptr m p => cases d with
  | ptr n o => obtain ⟨rfl, rfl⟩ := h; exact k
  | _ => exact h.elim
 | ref b => cases d with
  | ref a =>
   have h : WL a b := h
   obtain ⟨g, o, rfl, k⟩ := k
   refine ⟨g, o, rfl, fun i y hy => ?_⟩
   have : i < b.length := (List.getElem?_eq_some_iff.1 hy).1
   have hlt : i < a.length := by have := h.len; omega
   have hx : a[i]? = some a[i] := List.getElem?_eq_getElem hlt
   obtain ⟨u, h1, h2, h3⟩ := k i _ hx
   exact ⟨u, h1, h2, h3.weak (h.at i _ _ hx hy)⟩
  | _ => exact h.elim
theorem Own.weak {P : Program} [Gl P] {B : Nat} {M0 : Nat → Prop} {k : Nat} {e e' : E} {v : Value} (h : WE e e') (o : Own P B M0 w St k e v) : Own P B M0 w St k e' v := by
 rcases o with ⟨h1, h2⟩ | ⟨g, cap, cur, rows, rfl, h2, h3, h4, h5, h6, h7, h8⟩
 ·refine .inl ⟨h1, ?_⟩
  rcases h2 with rfl | rfl
  ·cases h with
   | refl => exact .inl rfl
   | nil => exact .inr rfl
  ·obtain ⟨b, rfl, hl, _⟩ := h.inv
   exact .inr (by rw [List.eq_nil_of_length_eq_zero hl.symm])
 ·obtain ⟨b, rfl, hl, _⟩ := h.inv
  exact .inr ⟨g, cap, cur, b, rfl, hl ▸ h2, h3, h4, hl ▸ h5, h6, h7, hl ▸ h8⟩
end
theorem WTs.at {r : Nat → Nat} {S : AS} : ∀ {l : List (Nat × D)}, WTs r S l → ∀ i, WD r (S.get i) ((Z2 l i).getD .bot)
 | [], _, i => by simp only [Z2, Option.getD_none]; unfold WD; split <;> first | trivial | simp_all
 | (j, d) :: l, h, i => by
  simp only [Z2]
  by_cases e : i = j
  ·subst e; rw [if_pos rfl]; exact h.1
  ·rw [if_neg e]; exact WTs.at h.2 i
theorem WBs.at {r : Nat → Nat} {S : AS} : ∀ {l : List (Nat × List Cell)}, WBs r S l → ∀ n cs, Z2 l n = some cs → ∃ ds, S.box n = some ds ∧ WCs r ds cs
 | [], _, n, cs, h => by simp [Z2] at h
 | (m, cs') :: l, h, n, cs, hl => by
  simp only [Z2] at hl
  by_cases e : n = m
  ·subst e; rw [if_pos rfl] at hl; injection hl with hl; subst hl
   have h1 : WB r (S.box n) cs' := h.1
   cases hb : S.box n with
   | none => rw [hb] at h1; exact h1.elim
   | some ds => rw [hb] at h1; exact ⟨ds, rfl, h1⟩
  ·rw [if_neg e] at hl; exact WBs.at h.2 n cs hl
theorem WCs.len {r : Nat → Nat} : ∀ {a b : List Cell}, WCs r a b → a.length = b.length
 | [], [], _ => rfl
 | _ :: _, _ :: _, h => by simp [WCs.len h.2]
theorem WCs.at {r : Nat → Nat} : ∀ {a b : List Cell}, WCs r a b → ∀ (k : Nat) (y : Cell), b[k]? = some y → ∃ x, a[k]? = some x ∧ WC r x y
 | x :: _, _ :: _, h, 0, y, hy => by simp at hy; subst hy; exact ⟨x, rfl, h.1⟩
 | _ :: _, _ :: _, h, k + 1, y, hy => by simpa using WCs.at h.2 k y (by simpa using hy)
 | [], [], _, k, y, hy => by simp at hy
section
variable {P : Program} [Gl P] {w0 : World} {M0 : Nat → Prop} {S0 : ZaA} {S T : AS} {tm : Array Value} {w : World} {St : ZaA} {ρ : Nat → Nat} {r : Nat → Nat}
theorem ZQ.held_weak (h : ZQ P w0 M0 S0 S tm w St ρ) (hg : ∀ i, WD r (S.get i) (T.get i)) (hbx : ∀ n cs, T.box n = some cs → ∃ ds, S.box n = some ds ∧ WCs r ds cs) {t k : Nat} {e : E} {v : Value} (hh : Zcm T tm w ρ t k e v) :
  (∃ s e0, Zcm S tm w ρ s k e0 v ∧ r s = t ∧ WE e0 e) ∨ (v = .slice none 0 0 ∧ (e = .nils ∨ e = .sl [])) := by
 have nilcase : ∀ e0, e0 = E.nils → Zca w St ρ e0 v → WQ (some (t, k)) e0 e → v = .slice none 0 0 ∧ (e = .nils ∨ e = .sl []) := fun e0 h0 hr hwe => by
  subst h0
  cases (hr.plain rfl : Zdo w St .nils v)
  refine ⟨rfl, ?_⟩
  rcases hwe with hwe | ⟨h, _⟩
  case inr => cases h
  cases hwe with
  | refl => exact .inl rfl
  | nil => exact .inr rfl
 rcases hh with ⟨i, hi, hv⟩ | ⟨n, cs, j, hb, hj, hv⟩
 ·have hd := hg i
  rw [hi] at hd
  have hrep := h.tmp i
  cases hs : S.get i with
  | c tk e0 =>
   rw [hs] at hd hrep
   obtain ⟨h1, h2⟩ := hd
   cases tk with
   | some q => obtain ⟨s, k'⟩ := q; obtain ⟨rfl, rfl⟩ := h1; exact .inl ⟨s, e0, .inl ⟨i, hs, hv⟩, rfl, h2.resolve_right (fun h => by cases h.1)⟩
   | none =>
    refine .inr ?_
    have hrep : Zca w St ρ e0 (tm.getD i undef) := hrep
    rw [← hv] at hrep
    cases e0 with
    | nils => exact nilcase _ rfl hrep h2
    | _ => exact h1.elim
  | _ => rw [hs] at hd; exact hd.elim
 ·obtain ⟨ds, hS, hcs⟩ := hbx n cs hb
  obtain ⟨x, hx, h1, h2⟩ := hcs.at j _ hj
  obtain ⟨tk, e0⟩ := x
  simp only at h1 h2
  cases tk with
  | some q => obtain ⟨s, k'⟩ := q; obtain ⟨rfl, rfl⟩ := h1; exact .inl ⟨s, e0, .inr ⟨n, ds, j, hS, hx, hv⟩, rfl, h2.resolve_right (fun h => by cases h.1)⟩
  | none =>
   cases e0 with
   | nils => ?_
   | _ => exact h1.elim
   refine .inr ?_
   have hba : Zf4 P w St ρ n ds := by
    rcases h.box n ds hS with ⟨_, k', h9⟩ | ⟨_, _, _, h9⟩
    ·subst h9
     cases j with
     | zero => simp at hx
     | succ j => simp at hx
    ·exact h9
   obtain ⟨arr, t', h3, h4, h5⟩ : ∃ arr t, w.heap[ρ n]? = some (.cells arr t (0, 0)) ∧ arr.size = ds.length ∧ ∀ (k : Nat) (c : Cell), ds[k]? = some c → ∃ u, arr[k]? = some u ∧ Zca w St ρ c.2 u := by
    have no : ∀ e' c r, e' = E.ob c r → ([(none, e')] : List Cell)[j]? = some (none, .nils) → False := fun e' c r he h => by
     cases j with
     | zero => subst he; simp at h
     | succ j => simp at h
    cases hba with
    | cells _ arr t h1 h2 h3 => exact ⟨arr, t, h1, h2, h3⟩
    | row => exact (no _ _ _ rfl hx).elim
    | map => exact (no _ _ _ rfl hx).elim
    | iter => exact (no _ _ _ rfl hx).elim
   obtain ⟨u, hu, hr⟩ := h5 j _ hx
   have : w.cell? ⟨ρ n, j, none⟩ = some u := by simp [World.cell?, h3, hu]
   rw [hv] at this
   injection this with this
   subst this
   exact nilcase _ rfl hr h2
theorem ZQ.weakG (h : ZQ P w0 M0 S0 S tm w St ρ) (hg : ∀ i, WD r (S.get i) (T.get i)) (hbx : ∀ n cs, T.box n = some cs → ∃ ds, S.box n = some ds ∧ WCs r ds cs) : ZQ P w0 M0 S0 T tm w St ρ where
 glob := h.glob
 os := h.os
 tape := h.tape
 output := h.output
 size := h.size
 old := h.old
 stay := h.stay
 up := h.up
 dn := h.dn
 lt := h.lt
 tmp i := (h.tmp i).weak (hg i)
 nm n cs hb := by obtain ⟨ds, hS, _⟩ := hbx n cs hb; exact h.nm n ds hS
 box n cs hb := by
  obtain ⟨ds, hS, hcs⟩ := hbx n cs hb
  have one : ∀ c rows, ds = [(none, .ob c rows)] → cs = [(none, .ob c rows)] := fun c rows he => by
   subst he
   have hl := hcs.len
   match cs, hl, hcs with
   | [d], _, hcs =>
    obtain ⟨x, hx, h1, h2⟩ := hcs.at 0 d rfl
    simp only [List.getElem?_cons_zero, Option.some.injEq] at hx
    subst hx
    obtain ⟨d1, d2⟩ := d
    simp only at h1 h2
    have : d2 = .ob c rows := by
     rcases h2 with h2 | ⟨_, _, h2⟩
     ·cases h2; rfl
     ·exact absurd rfl (h2 c rows)
    subst this
    cases d1 with
    | none => rfl
    | some q => exact h1.elim
  rcases h.box n ds hS with ⟨h1, k, h2⟩ | ⟨h0, h1, h2, h3⟩
  ·exact .inl ⟨h1, k, one _ _ h2⟩
  ·refine .inr ⟨h0, h1, h2, ?_⟩
   cases h3 with
   | cells _ arr t h3 h4 h5 =>
    refine .cells cs arr t h3 (by rw [← hcs.len]; exact h4) fun k c hc => ?_
    obtain ⟨x, hx, hwc⟩ := hcs.at k c hc
    obtain ⟨u, hu, hr⟩ := h5 k x hx
    exact ⟨u, hu, hr.weakQ hwc.2⟩
   | row k rows cur h3 h4 h5 h6 h7 h8 => rw [one _ _ rfl]; exact .row k rows cur h3 h4 h5 h6 h7 h8
   | map t kt vt d9 rows es clock l9 h3 hd9 h4 hp9 h5 h6 hst hk9 => rw [one _ _ rfl]; exact .map t kt vt d9 rows es clock l9 h3 hd9 h4 hp9 h5 h6 hst hk9
   | iter s pos h3 h4 => rw [one _ _ rfl]; exact .iter s pos h3 h4
 inj n m cs ds hn hm hne hp hp' := by
  obtain ⟨cs', hn', _⟩ := hbx n cs hn
  obtain ⟨ds', hm', _⟩ := hbx m ds hm
  exact h.inj n m cs' ds' hn' hm' hne hp hp'
 own t k e v hh := by
  rcases h.held_weak hg hbx hh with ⟨s, e0, h1, _, h3⟩ | h1
  ·exact (h.own _ _ _ _ h1).weak h3
  ·exact .inl h1
 apart t k e v t' k' e' v' hh hh' hne := by
  rcases h.held_weak hg hbx hh with ⟨s, e0, h1, h2, _⟩ | ⟨rfl, _⟩
  ·rcases h.held_weak hg hbx hh' with ⟨s', e0', h1', h2', _⟩ | ⟨rfl, _⟩
   ·exact h.apart _ _ _ _ _ _ _ _ h1 h1' (fun e => hne (by rw [← h2, ← h2', e]))
   ·cases v.ownBlock with
    | none => exact .inl rfl
    | some b => exact .inr (by simp [Value.ownBlock])
  ·exact .inl rfl
 ownbox t k e v n cs hh hb hp := by
  obtain ⟨cs', hn', _⟩ := hbx n cs hb
  rcases h.held_weak hg hbx hh with ⟨s, e0, h1, _, _⟩ | ⟨rfl, _⟩
  ·exact h.ownbox _ _ _ _ n cs' h1 hn' hp
  ·simp [Value.ownBlock]
theorem ZQ.weak (h : ZQ P w0 M0 S0 S tm w St ρ) (hw : WS r S T) : ZQ P w0 M0 S0 T tm w St ρ := h.weakG (fun i => hw.tmps.at i) (fun n cs hb => hw.boxes.at n cs hb)
end
theorem WD.refl (d : D) : WD (fun n => n) d d := by
 cases d with
 | bot => exact trivial
 | c tk e => cases tk with
  | none => exact ⟨trivial, .inl (.refl e)⟩
  | some q => exact ⟨⟨rfl, rfl⟩, .inl (.refl e)⟩
 | ept n sz i o => exact ⟨rfl, rfl, rfl, rfl⟩
 | agg es => exact WL.refl es
 | tup xs =>
  show WXs xs xs
  induction xs with
  | nil => exact trivial
  | cons x xs ih => exact ⟨by cases x with | bot => exact trivial | c e => exact .refl e | agg es => exact WL.refl es, ih⟩
 | ptr n o => exact ⟨rfl, rfl⟩
 | ref es => exact WL.refl es
theorem WCs.refl : ∀ cs : List Cell, WCs (fun n => n) cs cs
 | [] => trivial
 | (tk, e) :: cs => ⟨⟨by cases tk with | none => exact trivial | some q => exact ⟨rfl, rfl⟩, .inl (.refl e)⟩, WCs.refl cs⟩
theorem ZQ.weakP {P : Program} [Gl P] {w0 : World} {M0 : Nat → Prop} {S0 : ZaA} {S : AS} {tm : Array Value} {w : World} {St : ZaA} {ρ : Nat → Nat} (h : ZQ P w0 M0 S0 S tm w St ρ) {i : Nat} {d d' : D}
  (hS : S.get i = d) (hd : WD (fun n => n) d d') : ZQ P w0 M0 S0 (S.put i d') tm w St ρ := by
 have h0 : ZQ P w0 M0 S0 ⟨(i, d') :: S.tmps, S.boxes⟩ tm w St ρ := by
  refine ZQ.weakG h (r := fun n => n) (fun j => ?_) (fun n cs hb => ⟨cs, hb, WCs.refl cs⟩)
  simp only [AS.get, Z2]
  split
  ·rename_i e; subst e; rw [Option.getD_some, show (Z2 S.tmps j).getD .bot = d from hS]; exact hd
  ·exact WD.refl _
 exact h0.less ⟨fun j => .inr (.inl (by rw [Ze1]; simp only [AS.get, Z2]; split <;> simp_all)), fun n cs hb => ⟨cs, hb, rfl, fun k c hc => ⟨c, hc, rfl, .inl rfl⟩⟩⟩

theorem Zux (off : Nat) : ∀ (l : List Value) (k : Nat) (cs : Array Value) (i : Nat),
  ((l.zipIdx k).foldl (fun cs (p : Value × Nat) => cs.setIfInBounds (off + p.2) p.1) cs)[i]? = if off + k ≤ i ∧ i < off + k + l.length ∧ i < cs.size then l[i - (off + k)]? else cs[i]?
 | [], k, cs, i => by simp; intro h1 h2 h3; omega
 | x :: l, k, cs, i => by
  simp only [List.zipIdx_cons, List.foldl_cons]
  rw [Zux off l (k + 1) _ i]
  simp only [Array.size_setIfInBounds, List.length_cons]
  by_cases h1 : off + (k + 1) ≤ i ∧ i < off + (k + 1) + l.length ∧ i < cs.size
  ·rw [if_pos h1, if_pos ⟨by omega, by omega, h1.2.2⟩]
   rw [show i - (off + k) = (i - (off + (k + 1))) + 1 by omega, List.getElem?_cons_succ]
  ·rw [if_neg h1]
   by_cases h2 : off + k ≤ i ∧ i < off + k + (l.length + 1) ∧ i < cs.size
   ·rw [if_pos h2]
    have hi : i = off + k := by omega
    subst hi
    simp [h2.2.2]
   ·rw [if_neg h2, Array.getElem?_setIfInBounds]
    by_cases h3 : off + k = i
    ·subst h3
     rw [if_pos rfl]
     have : ¬ off + k < cs.size := fun h => h2 ⟨by omega, by omega, h⟩
     simp [this]
    ·rw [if_neg h3]
section
variable {P : Program} [Gl P] {L : Tab} (hL : TOk P L) {w0 : World} {M0 : Nat → Prop} {S0 : ZaA} {S : AS} {w : World} {St : ZaA} {ρ : Nat → Nat} {a : Act}
theorem ZCF {d : D} {x : Value} {es : List E} (h : Zet w St ρ d x) (hd : d.es = some es) : Ze9 w St ρ es x.cells.toList := by
 cases d with
 | ptr n off =>
  simp only [D.es, Option.some.injEq] at hd
  subst hd
  have h : x = .pointer (some ⟨ρ n, off, none⟩) := h
  subst h
  exact ⟨rfl, fun k e' hk => by
   cases k with
   | zero => simp only [List.getElem?_cons_zero, Option.some.injEq] at hk; subst hk; exact ⟨_, rfl, .pt n off⟩
   | succ k => simp at hk⟩
 | c tk e =>
  simp only [D.es, Option.some.injEq] at hd
  subst hd
  have h : Zca w St ρ e x := h
  have hc : x.cells = #[x] := by have := h.oneCell; cases x <;> first | rfl | (simp [Value.oneCell'] at this)
  rw [hc]
  refine ⟨rfl, fun k e' hk => ?_⟩
  cases k with
  | zero => simp only [List.getElem?_cons_zero, Option.some.injEq] at hk; subst hk; exact ⟨x, rfl, h⟩
  | succ k => simp at hk
 | agg es' =>
  simp only [D.es, Option.some.injEq] at hd
  subst hd
  obtain ⟨vs, rfl, h⟩ := h
  exact h
 | _ => simp [D.es] at hd
theorem Zyl {cells new : List E} {cs : Array Value} {v : Value} {off : Nat} (hc : Ze9 w St ρ cells cs.toList) (hn : Ze9 w St ρ new v.cells.toList) (hb : off + new.length ≤ cells.length) :
  Ze9 w St ρ (ZnQ cells off new) ((v.cells.zipIdx.foldl (fun cs (c, j) => cs.setIfInBounds (off + j) c) cs)).toList := by
 have hfold : (v.cells.zipIdx.foldl (fun cs (c, j) => cs.setIfInBounds (off + j) c) cs) = ((v.cells.toList.zipIdx 0).foldl (fun cs (p : Value × Nat) => cs.setIfInBounds (off + p.2) p.1) cs) := by
  rw [← Array.foldl_toList, Array.toList_zipIdx]
 have hg := Zux off v.cells.toList 0 cs
 have hcl : cells.length = cs.size := by simpa using hc.1
 have hnl : new.length = v.cells.size := by simpa using hn.1
 have hfl : (ZnQ cells off new).length = cells.length := by simp [ZnQ]; omega
 rw [hfold]
 refine ⟨?_, fun k e hk => ?_⟩
 ·have hsz : ∀ (l : List (Value × Nat)) (cs : Array Value), (l.foldl (fun cs (p : Value × Nat) => cs.setIfInBounds (off + p.2) p.1) cs).size = cs.size := by
   intro l
   induction l with
   | nil => intro cs; rfl
   | cons p l ih => intro cs; simp [List.foldl_cons, ih]
  rw [hfl, hcl, Array.length_toList, hsz]
 ·rw [Array.getElem?_toList, hg k]
  have hk' : k < cells.length := by
   rcases Nat.lt_or_ge k (ZnQ cells off new).length with h' | h'
   ·omega
   ·simp [List.getElem?_eq_none h'] at hk
  unfold ZnQ at hk
  by_cases h1 : k < off
  ·rw [if_neg (by omega)]
   rw [List.append_assoc, List.getElem?_append_left (by simp; omega), List.getElem?_take, if_pos h1] at hk
   obtain ⟨u, hu, hr⟩ := hc.2 k e hk
   exact ⟨u, by rw [← Array.getElem?_toList]; exact hu, hr⟩
  ·by_cases h2 : k < off + new.length
   ·rw [if_pos ⟨by omega, by simp; omega, by omega⟩]
    rw [List.append_assoc, List.getElem?_append_right (by simp; omega), List.getElem?_append_left (by simp; omega)] at hk
    obtain ⟨u, hu, hr⟩ := hn.2 _ e hk
    refine ⟨u, ?_, hr⟩
    rw [← hu]
    congr 1
    simp; omega
   ·rw [if_neg (by simp; omega)]
    rw [List.getElem?_append_right (by simp; omega), List.getElem?_drop] at hk
    obtain ⟨u, hu, hr⟩ := hc.2 _ e hk
    refine ⟨u, ?_, hr⟩
    rw [← Array.getElem?_toList, ← hu]
    congr 1
    simp; omega
theorem ZmN (h : ZQ P w0 M0 S0 S a.tmps w St ρ) (place : Nat → Option (Nat × Nat)) : ∀ (parts : List (Nat × Operand)) (cells : List E) (cs : Array Value) (K : List E → Prop),
  Ze9 w St ρ cells cs.toList → Zhp S place parts cells K → ∃ cells' cs', K cells' ∧ Instr.fill place cs (parts.map fun p => (p.1, a.eval p.2)) = some cs' ∧ Ze9 w St ρ cells' cs'.toList
 | [], cells, cs, K, hr, hk => ⟨cells, cs, hk, rfl, hr⟩
 | (i, x) :: rest, cells, cs, K, hr, hk => by
  simp only [Zhp] at hk
  split at hk
  ·rename_i off size es hp hes
   obtain ⟨h1, h2, hk⟩ := hk
   have hx := ZCF (ZbL h x) hes
   obtain ⟨c', cs', hk', hf, hr'⟩ := ZmN h place rest _ _ K (Zyl hr hx h2) hk
   refine ⟨c', cs', hk', ?_, hr'⟩
   have hsz : (a.eval x).cells.size = es.length := by simpa using hx.1.symm
   have hcs : cs.size = cells.length := by simpa using hr.1.symm
   simp only [List.map_cons, Instr.fill, hp, hsz]
   rw [if_neg (by simp; omega)]
   exact hf
  ·exact hk.elim
theorem Zo4 {α β : Type} (f : α → Sem β) (g : α → β) (w : World) : ∀ (l : List α), (∀ x ∈ l, (f x).run P w = .ok (g x) w) → (l.mapM f).run P w = .ok (l.map g) w
 | [], _ => rfl
 | x :: l, h => by
  have _gl : Gl P := inferInstance
  rw [List.mapM_cons]
  simp only [Sem.run_bind, h x (by simp), Result.andThen_ok, Zo4 f g w l (fun y hy => h y (by simp [hy])), Sem.run_pure, List.map_cons]
theorem Zsd {α β : Type} (f : α → Sem β) (g : α → β) (w : World) (l : Array α) (h : ∀ x ∈ l, (f x).run P w = .ok (g x) w) : (l.mapM f).run P w = .ok (l.map g) w := by
 rw [Array.mapM_eq_mapM_toList]
 rw [Sem.run_map, Zo4 f g w l.toList (fun x hx => h x (by simpa using hx)), Result.andThen_ok]
 rw [← Array.toList_map, Array.toArray_toList]
include hL in
theorem ZvM (h : ZQ P w0 M0 S0 S a.tmps w St ρ) {t : Nat} {parts : Array (Nat × Operand)} {K : D → Prop} (hk : opV L S (.build t parts) K) :
  Zh3 P S a.tmps w St ρ ((Instr.build t (parts.map fun (i, x) => (i, a.eval x))).run P w) K := by
 have hparts : (parts.map fun (i, x) => (i, a.eval x)).toList = parts.toList.map fun p => (p.1, a.eval p.2) := by simp
 simp only [opV] at hk
 split at hk
 ·rename_i fs z hfs hz
  obtain ⟨d, ti, ht⟩ := hL.ty (t := t) (.inl (ZaD hfs (by simp)))
  obtain ⟨gs, rfl, hg⟩ := ZoE (ht.k.symm.trans hfs)
  obtain ⟨u, hu, hall, rfl⟩ := ht.zero z hz
  obtain ⟨hkn, hk⟩ := hk
  obtain ⟨c', cs', hk', hf, hr'⟩ := ZmN h _ parts.toList _ u.cells _ (.of (Zjd w St hall)) hk
  refine ⟨_, .agg cs', hk', ?_, ⟨cs'.toList, by simp, hr'⟩, fun _ _ _ h => by cases h⟩
  have hplace : (gs.mapM fun f => (do pure (f.offset, ← sizeOf f.type) : Sem (Nat × Nat))).run P w = .ok (gs.map fun f => (f.offset, (L.ti f.type).size)) w := by
   refine Zsd _ _ w gs fun f hf => ?_
   have : (L.ti f.type).known = true := by
    rw [hg] at hkn
    rw [List.all_eq_true] at hkn
    exact hkn (f.type, f.offset) (List.mem_map.2 ⟨f, by simpa using hf, rfl⟩)
   obtain ⟨d2, ti2, ht2⟩ := hL.ty (t := f.type) (.inl this)
   simp only [Sem.run_bind, ZbX ht2, Result.andThen_ok, Sem.run_pure]
  have hfun : (fun i => (gs.map fun f => (f.offset, (L.ti f.type).size))[i]?) = (fun (i : Nat) => (fs[i]?).map fun (f : Nat × Nat) => (f.2, (L.ti f.1).size)) := by
   funext i
   rw [hg]
   simp only [Array.getElem?_map, List.getElem?_map, Array.getElem?_toList]
   cases gs[i]? <;> rfl
  simp only [Instr.build, Sem.run_bind, zeroValue, typeInfo, run_program, ht.info, hu, Result.andThen_ok, Sem.run_pure, run_underlying ht.und]
  rw [hplace]
  simp only [Result.andThen_ok, hparts]
  rw [hfun, hf]
  rfl
 ·rename_i n e z hfs hz
  obtain ⟨d, ti, ht⟩ := hL.ty (t := t) (.inl (ZaD hfs (by simp)))
  obtain rfl := ZpW (ht.k.symm.trans hfs)
  obtain ⟨u, hu, hall, rfl⟩ := ht.zero z hz
  obtain ⟨hkn, hk⟩ := hk
  obtain ⟨d2, ti2, ht2⟩ := hL.ty (t := e) (.inl hkn)
  obtain ⟨c', cs', hk', hf, hr'⟩ := ZmN h _ parts.toList _ u.cells _ (.of (Zjd w St hall)) hk
  refine ⟨_, .agg cs', hk', ?_, ⟨cs'.toList, by simp, hr'⟩, fun _ _ _ h => by cases h⟩
  simp only [Instr.build, Sem.run_bind, zeroValue, typeInfo, run_program, ht.info, hu, Result.andThen_ok, Sem.run_pure, run_underlying ht.und, ZbX ht2, hparts]
  rw [hf]
  rfl
 ·exact hk.elim
theorem X.rep_d {x : X} {v : Value} (h : ZqD w St ρ x v) : Zet w St ρ x.d v := by
 cases x with
 | bot => exact trivial
 | c e => exact ZoN h
 | agg es => exact h
theorem ZzK? {d : D} {x : Value} {e : E} (h : Zet w St ρ d x) (hd : d.e? = some e) : Zca w St ρ e x := by
 cases d with
 | c tk e0 => simp only [D.e?, Option.some.injEq] at hd; subst hd; exact h
 | ptr n off => simp only [D.e?, Option.some.injEq] at hd; subst hd; have h : x = _ := h; rw [h]; exact .pt n off
 | _ => cases hd
theorem ZsQ (h : ZQ P w0 M0 S0 S a.tmps w St ρ) : ∀ (xs : List Operand) (es : List E), ZpA? S xs = some es → es.length = (xs.map a.eval).length ∧ ∀ (k : Nat) (e : E) (u : Value), es[k]? = some e → (xs.map a.eval)[k]? = some u → Zca w St ρ e u
 | [], es, hv => by simp only [ZpA?, Option.some.injEq] at hv; subst hv; exact ⟨rfl, fun k e u hk => by simp at hk⟩
 | x :: xs, es, hv => by
  simp only [ZpA?] at hv
  split at hv
  ·rename_i e es' h1 h2
   injection hv with hv; subst hv
   obtain ⟨h3, h4⟩ := ZsQ h xs es' h2
   refine ⟨by simpa using h3, fun k e' u hk hu => ?_⟩
   cases k with
   | zero =>
    simp only [List.getElem?_cons_zero, Option.some.injEq, List.map_cons] at hk hu
    subst hk hu
    exact ZzK? (ZbL h x) h1
   | succ k => exact h4 k e' u (by simpa using hk) (by simpa using hu)
  ·cases hv
theorem ZoC {d : TypeDesc} {key : List E} {kv : Value} (hkv : Ze9 w St ρ key [kv]) (hfit : ZkJ (ZhK d) key = true) : Go.MapKept.IsKey d kv := by
 have hone : ∀ e, key = [e] → Zca w St ρ e kv := fun e hk => by
  subst hk
  obtain ⟨u', h6, h7⟩ := hkv.2 0 e rfl
  simp only [List.getElem?_cons_zero, Option.some.injEq] at h6
  subst h6; exact h7
 cases d <;> simp only [ZhK, ZkJ] at hfit <;> try (cases hfit; done)
 ·split at hfit
  ·rename_i h; cases h
  ·rename_i h; cases h
  ·have h8 := hone _ rfl; cases h8.val; trivial
  ·cases hfit
 ·split at hfit
  ·rename_i h; injection h with h; subst h; have h8 := hone _ rfl; cases h8.val; simp at hfit; exact hfit.symm
  ·rename_i h; cases h
  ·rename_i h; cases h
  ·cases hfit
 ·split at hfit
  ·rename_i h; cases h
  ·have h8 := hone _ rfl; cases h8.val; trivial
  ·rename_i h; cases h
  ·cases hfit
theorem ZvC {d : TypeDesc} {a b : Value} (ha : Go.MapKept.IsKey d a) (h : Instr.sameNow d a b = some true) : b = a := by
 cases d <;> cases a <;> simp_all [Go.MapKept.IsKey] <;> cases b <;> simp_all [Instr.sameNow, Go.MapKept.bytes_beq]
omit [Gl P] in
theorem Zzh {d : TypeDesc} {key : List E} {kv u : Value} {e0 : E} (hkv : Ze9 w St ρ key [kv]) (hfit : ZkJ (ZhK d) key = true) (hu : Zdo w St e0 u) {b : Bool} (hb : Ziu key [e0] = some b) : Instr.sameNow d kv u = some b := by
 have hone : ∀ e, key = [e] → Zca w St ρ e kv := fun e hk => by
  subst hk
  obtain ⟨u', h6, h7⟩ := hkv.2 0 e rfl
  simp only [List.getElem?_cons_zero, Option.some.injEq] at h6
  subst h6; exact h7
 generalize htk : ZhK d = tk at hfit
 unfold ZkJ at hfit
 split at hfit
 ·rename_i k k' n
  have h8 := hone _ rfl
  cases h8.val
  have hd := Zst htk
  subst hd
  cases e0 with
  | v x =>
   cases hu
   cases u with
   | int k2 n2 =>
    simp only [Ziu] at hb
    split at hb
    ·rename_i hkk
     simp only [Bool.and_true, Option.some.injEq] at hb
     simp only [Instr.sameNow, if_pos hkk, hb]
    ·cases hb
   | _ => simp [Ziu] at hb
  | _ => simp [Ziu] at hb
 ·have h8 := hone _ rfl
  cases h8.val
  have hd := Zim htk
  subst hd
  cases e0 with
  | v x =>
   cases hu
   cases u with
   | string s2 =>
    simp only [Ziu, Bool.and_true, Option.some.injEq] at hb
    simp only [Instr.sameNow, hb]
   | _ => simp [Ziu] at hb
  | _ => simp [Ziu] at hb
 ·have h8 := hone _ rfl
  cases h8.val
  have hd := ZrK htk
  subst hd
  cases e0 with
  | v x =>
   cases hu
   cases u with
   | bool s2 =>
    simp only [Ziu, Bool.and_true, Option.some.injEq] at hb
    simp only [Instr.sameNow, hb]
   | _ => simp [Ziu] at hb
  | _ => simp [Ziu] at hb
 ·cases hfit
omit [Gl P] in
theorem Zxk {d : TypeDesc} {key : List E} {kv : Value} {kt : Nat} {row : List E} {en : MapEntry} {us vs : List Value} (hkv : Ze9 w St ρ key [kv]) (hfit : ZkJ (ZhK d) key = true) (hag : ZjR P kt = false) (hk1 : P.cellsOf kt = 1)
  (h2 : en.key = ZjW (ZjR P kt) us) (h4 : us.length = P.cellsOf kt) (h5 : ZgT w St row (us ++ vs)) : ZgT w St (row.drop 1) vs ∧ ∀ b, Ziu key (row.take 1) = some b → (b = true ↔ en.key = kv) := by
 rw [hk1] at h4
 obtain ⟨u, rfl⟩ : ∃ u, us = [u] := by
  match us, h4 with
  | [u], _ => exact ⟨u, rfl⟩
 rw [hag] at h2
 have h2 : en.key = u := h2
 obtain ⟨e0, row', rfl⟩ : ∃ e0 row', row = e0 :: row' := by
  cases row with
  | nil => simp [ZgT] at h5
  | cons e0 row' => exact ⟨e0, row', rfl⟩
 have hu : Zdo w St e0 u := by
  obtain ⟨u', h6, h7⟩ := h5.2 0 e0 rfl
  simp only [List.cons_append, List.getElem?_cons_zero, Option.some.injEq] at h6
  subst h6; exact h7
 refine ⟨⟨by have := h5.1; simpa using this, fun k e hk => ?_⟩, fun b hb => ?_⟩
 ·obtain ⟨u', h6, h7⟩ := h5.2 (k + 1) e (by simpa using hk)
  exact ⟨u', by simpa using h6, h7⟩
 ·have hkey := ZoC hkv hfit
  have hs : Instr.sameNow d kv en.key = some b := by rw [h2]; exact Zzh hkv hfit hu hb
  constructor
  ·rintro rfl; exact ZvC hkey hs
  ·intro he
   rw [he] at hs
   obtain ⟨r, h9, h10⟩ := Go.MapKept.sameNow_of_keys hkey hkey
   rw [h9] at hs
   injection hs with hs
   rw [← hs]; exact h10.2 rfl
omit [Gl P] in
theorem ZvU {d : TypeDesc} {key : List E} {kv : Value} {kt vt : Nat} (hkv : Ze9 w St ρ key [kv]) (hfit : ZkJ (ZhK d) key = true) (hag : ZjR P kt = false) (hk1 : P.cellsOf kt = 1) :
  ∀ (rows : List (List E)) (es : List MapEntry) (r : Option (List E)), rows.length = es.length →
   (∀ (i : Nat) (row : List E), rows[i]? = some row → ∃ (en : MapEntry) (us vs : List Value), es[i]? = some en ∧ en.key = ZjW (ZjR P kt) us ∧ en.val = ZjW (ZjR P vt) vs ∧ us.length = P.cellsOf kt ∧ ZgT w St row (us ++ vs)) →
   Zlf 1 key rows = some r →
   match r with
   | none => ∀ en ∈ es, en.key ≠ kv
   | some cells => ∃ en vs, en ∈ es ∧ en.key = kv ∧ en.val = ZjW (ZjR P vt) vs ∧ ZgT w St cells vs
 | [], es, r, hl, _, hr => by
  have : es = [] := List.eq_nil_of_length_eq_zero hl.symm
  subst this
  simp only [Zlf, Option.some.injEq] at hr
  subst hr; simp
 | row :: rows, [], r, hl, _, _ => by simp at hl
 | row :: rows, en :: es, r, hl, he, hr => by
  obtain ⟨en', us, vs, h1, h2, h3, h4, h5⟩ := he 0 row rfl
  simp only [List.getElem?_cons_zero, Option.some.injEq] at h1
  subst h1
  obtain ⟨hdr, hkeq⟩ := Zxk hkv hfit hag hk1 h2 h4 h5
  simp only [Zlf] at hr
  split at hr
  ·rename_i hk
   injection hr with hr; subst hr
   exact ⟨en, vs, by simp, (hkeq _ hk).1 rfl, h3, hdr⟩
  ·rename_i hk
   have ih := ZvU hkv hfit hag hk1 rows es r (by simpa using hl) (fun j row hj => by simpa using he (j + 1) row (by simpa using hj)) hr
   have hne : en.key ≠ kv := fun e => by have := (hkeq _ hk).2 e; cases this
   cases r with
   | none =>
    intro x hx
    rcases List.mem_cons.1 hx with rfl | hx
    ·exact hne
    ·exact ih x hx
   | some cells =>
    obtain ⟨en2, vs2, h9, h10⟩ := ih
    exact ⟨en2, vs2, List.mem_cons_of_mem _ h9, h10⟩
  ·cases hr
theorem Zwp {l : List MapEntry} (h : (l.map (·.key)).Nodup) {a b : MapEntry} (ha : a ∈ l) (hb : b ∈ l) (he : a.key = b.key) : a = b := by
 induction l with
 | nil => simp at ha
 | cons x l ih =>
  simp only [List.map_cons, List.nodup_cons] at h
  rcases List.mem_cons.1 ha with h1 | h1
  ·rcases List.mem_cons.1 hb with h2 | h2
   ·rw [h1, h2]
   ·exact (h.1 (List.mem_map.2 ⟨b, h2, by rw [← he, h1]⟩)).elim
  ·rcases List.mem_cons.1 hb with h2 | h2
   ·exact (h.1 (List.mem_map.2 ⟨a, h1, by rw [he, h2]⟩)).elim
   ·exact ih h.2 h1 h2
include hL in
set_option maxHeartbeats 1000000 in
theorem ZuD (h : ZQ P w0 M0 S0 S a.tmps w St ρ) {t : Nat} {x k : Operand} {ok : Bool} {K : D → Prop} (hk : ZjY L S t (S.ev x) (S.ev k) ok K) :
  Zh3 P S a.tmps w St ρ ((Instr.lookup t (a.eval x) (a.eval k) ok).run P w) K := by
 have hx := ZbL h x
 have hkr := ZbL h k
 unfold ZjY at hk
 split at hk
 case h_2 => exact hk.elim
 rename_i kt vt tk n ke hmt hd hkey
 split at hk
 case h_2 => exact hk.elim
 rename_i code rows hb
 obtain ⟨rfl, hfit, hks, hkn, cells, okb, cells', hfind, hzero, hlen, hwl, hk⟩ := hk
 obtain ⟨d, ti, ht⟩ := hL.ty (t := t) (.inl (ZaD hmt (by simp)))
 obtain rfl := Zs2 (ht.k.symm.trans hmt)
 obtain ⟨dk, tik, htk⟩ := hL.ty (t := kt) (.inr (by omega))
 obtain ⟨dv, tiv, htv⟩ := hL.ty (t := vt) (.inl hkn)
 obtain ⟨kt', vt', dk', es, clock, l, hu, hud, hh, hp, hl, hent, hst, hiskey⟩ := Zvb h (by rw [ht.und]; simp) hb
 have hu2 := hu.symm.trans ht.und
 simp only [Option.some.injEq, TypeDesc.map.injEq] at hu2
 obtain ⟨e1, e2⟩ := hu2
 subst kt' vt'
 have hke := ZzK? hkr hkey
 have hkv : Ze9 w St ρ [ke] [a.eval k] := ⟨rfl, fun i e hi => by
  cases i with
  | zero => simp only [List.getElem?_cons_zero, Option.some.injEq] at hi; subst hi; exact ⟨_, rfl, hke⟩
  | succ i => simp at hi⟩
 have hag : ZjR P kt = false := by
  unfold ZjR; rw [htk.und]
  have := ZoC (d := dk) hkv (by rw [← htk.k]; exact hfit)
  cases dk <;> simp_all [Go.MapKept.IsKey]
 have hagv : ZjR P vt = (L.ti vt).isAgg := by
  unfold ZjR TI.isAgg; rw [htv.und, htv.k]
  cases dv <;> rfl
 have hcs : P.cellsOf kt = 1 := by unfold Program.cellsOf; rw [htk.info]; simp [← htk.size, hks]
 obtain rfl : dk' = dk := by have := hud.symm.trans htk.und; injection this
 have hnow := ZvU (P := P) hkv (by rw [← htk.k]; exact hfit) hag hcs rows l _ hl hent hfind
 have hkey' := ZoC (d := dk') hkv (by rw [← htk.k]; exact hfit)
 have hspec := Go.MapKept.findNow_spec hkey' es.toList 0 (fun x hx => hiskey x (hp.mem_iff.2 hx))
 have hx' : a.eval x = .map (some (ρ n)) := by
  rw [hd] at hx
  generalize a.eval x = z at hx
  cases (hx : Zca w St ρ (.rf n) z) with
  | e _ _ h => cases h
  | rf => rfl
 have hval : ∀ vs, ZgT w St cells vs → ZqD w St ρ (Zw0 L vt cells') (ZjW (ZjR P vt) vs) := fun vs hr => by
  replace hr := ZgT.weak hwl hr
  unfold Zw0 ZjW
  rw [hagv]
  by_cases ha : (L.ti vt).isAgg = true
  ·rw [if_pos ha, if_pos ha]; exact ⟨vs, rfl, .of hr⟩
  ·rw [if_neg ha, if_neg ha]
   split
   ·rename_i e
    obtain ⟨u, h6, h7⟩ := hr.2 0 e rfl
    have hl := hr.1
    match vs, hl, h6 with
    | [y], _, h6 => simp only [List.getElem?_cons_zero, Option.some.injEq] at h6; subst h6; exact .e _ _ h7
   ·exact trivial
 have hres : ∀ v, ZqD w St ρ (Zw0 L vt cells') v → Zh3 P S a.tmps w St ρ (Result.ok (if ok then .tuple #[v, .bool okb] else v) w) K := fun v hv => by
  cases ok with
  | true =>
   refine ⟨_, _, hk, rfl, ⟨[v, .bool okb], rfl, rfl, fun k x hk => ?_⟩, fun _ _ _ h => by cases h⟩
   match k, hk with
   | 0, hk => simp only [List.getElem?_cons_zero, Option.some.injEq] at hk; subst hk; exact ⟨v, rfl, hv⟩
   | 1, hk => simp only [List.getElem?_cons_succ, List.getElem?_cons_zero, Option.some.injEq] at hk; subst hk; exact ⟨_, rfl, .e _ _ (.v _ rfl)⟩
   | k + 2, hk => simp at hk
  | false =>
   refine ⟨_, v, hk, rfl, X.rep_d hv, fun t k e he => ?_⟩
   have he : (Zw0 L vt cells').d = .c (some (t, k)) e := he
   generalize Zw0 L vt cells' = y at he
   cases y with
   | c e' => cases (Zl1 he).1
   | _ => cases he
 rw [hx']
 simp only [Instr.lookup, Sem.run_bind, run_underlying ht.und, Result.andThen_ok, Go.MapKept.run_getObj_map hh, Sem.run_pure, Go.MapKept.run_checkKey htk.und hkey']
 cases okb with
 | true =>
  obtain ⟨en, vs, h1, h2, h3, h4⟩ := hnow
  obtain ⟨j, e', h5, h6, h7⟩ := hspec.resolve_left (fun hno => hno.2 en (hp.mem_iff.1 h1) h2)
  obtain rfl : e' = en := Zwp hst.2.2 (List.mem_of_getElem? h6) (hp.mem_iff.1 h1) (h7.trans h2.symm)
  rw [Go.MapKept.run_findKey htk.und h5]
  simp only [Result.andThen_ok, Sem.run_pure]
  have := hres e'.val (by rw [h3]; exact hval vs h4)
  simpa using this
 | false =>
  have hno := hspec.resolve_right (fun ⟨j, e, _, h6, h7⟩ => hnow e (hp.mem_iff.2 (List.mem_of_getElem? h6)) h7)
  rw [Go.MapKept.run_findKey htk.und hno.1]
  obtain ⟨u, hz1, hz2, hz3⟩ := htv.zero cells (hzero rfl)
  have hsh := htv.shape cells u (hzero rfl) hz1
  have huv : u = ZjW (ZjR P vt) u.cells.toList := by
   unfold ZjW; rw [hagv]
   unfold TI.isAgg
   rw [htv.k]
   cases dv <;> cases u <;> first | (cases hsh; done) | rfl
  simp only [Result.andThen_ok, Sem.run_pure, Sem.run_bind, zeroValue, typeInfo, run_program, htv.info, hz1]
  have := hres u (by rw [huv]; refine hval _ ?_; rw [hz3]; exact Zjd w St hz2)
  simpa using this
include hL in
theorem ZqI (h : ZQ P w0 M0 S0 S a.tmps w St ρ) {o : Oper} {K : D → Prop} (hk : opV L S o.op K) :
  ∃ d v, K d ∧ (execOp a.eval o).run P w = .ok (.value v) w ∧ Zet w St ρ d v ∧ ∀ t k e, d = .c (some (t, k)) e → Zcm S a.tmps w ρ t k e v := by
 have go : ∀ (s : Sem Value), execOp a.eval o = (do pure (.value (← s))) → Zh3 P S a.tmps w St ρ (s.run P w) K →
   ∃ d v, K d ∧ (execOp a.eval o).run P w = .ok (.value v) w ∧ Zet w St ρ d v ∧ ∀ t k e, d = .c (some (t, k)) e → Zcm S a.tmps w ρ t k e v := by
  rintro s hs ⟨d, v, h1, h2, h3, h4⟩
  refine ⟨d, v, h1, ?_, h3, h4⟩
  rw [hs]; simp only [Sem.run_bind, h2, Result.andThen_ok, Sem.run_pure]
 have ex : ∀ (x : Operand), K (S.ev x) → (execOp a.eval o).run P w = .ok (.value (a.eval x)) w →
   ∃ d v, K d ∧ (execOp a.eval o).run P w = .ok (.value v) w ∧ Zet w St ρ d v ∧ ∀ t k e, d = .c (some (t, k)) e → Zcm S a.tmps w ρ t k e v :=
  fun x hk hr => ⟨_, _, hk, hr, ZbL h x, fun t k e he => ZpZ x he⟩
 cases hop : o.op with
 | move x => rw [hop] at hk; exact ex x hk (by simp [execOp, hop])
 | assign x => rw [hop] at hk; exact ex x hk (by simp [execOp, hop])
 | pick c x y =>
  rw [hop] at hk
  simp only [opV] at hk
  split at hk
  ·rename_i tk b hd
   have hc := ZbL h c
   rw [hd] at hc
   obtain ⟨hc, _⟩ := ZfF (d := .c tk (.v (.bool b))) hc rfl
   cases b with
   | true => exact ex x hk (by simp [execOp, hop, hc, asBool])
   | false => exact ex y hk (by simp [execOp, hop, hc, asBool])
  ·exact hk.elim
 | load t p => rw [hop] at hk; exact go _ (by simp only [execOp, hop]) (Zsr hL h hk)
 | fieldAddr t p f => rw [hop] at hk; exact go _ (by simp only [execOp, hop]) (Zrl hL h hk)
 | field t p f => rw [hop] at hk; exact go _ (by simp only [execOp, hop]) (Zv9 hL h hk)
 | indexAddr t x i => rw [hop] at hk; exact go _ (by simp only [execOp, hop]) (Zrt hL h hk)
 | index t x i => rw [hop] at hk; exact go _ (by simp only [execOp, hop]) (ZvZ hL h hk)
 | slice t x lo hi mx => rw [hop] at hk; exact go _ (by simp only [execOp, hop]) (Zv1 hL h hk)
 | binOp op t x y ty => rw [hop] at hk; exact go _ (by simp only [execOp, hop]) (ZwZ hL h hk)
 | unOp op t x => rw [hop] at hk; exact go _ (by simp only [execOp, hop]) (Zzs h hk)
 | convert s t x => rw [hop] at hk; exact go _ (by simp only [execOp, hop]) (ZtW hL h hk)
 | build t parts => rw [hop] at hk; exact go _ (by simp only [execOp, hop]) (ZvM hL h hk)
 | nilCheck x =>
  rw [hop] at hk
  simp only [opV] at hk
  have hx := ZbL h x
  have hh := fun t k e => ZpZ (w := w) (ρ := ρ) (a := a) (S := S) (t := t) (k := k) (e := e) x
  unfold ZzM at hk
  split at hk
  ·rename_i n off hd
   rw [hd] at hx
   have hx' : a.eval x = .pointer (some ⟨ρ n, off, none⟩) := hx
   exact ⟨_, _, hk, by simp [execOp, hop, hx'], hx', fun _ _ _ h => by cases h⟩
  ·rename_i es hd
   rw [hd] at hx
   obtain ⟨b, o', hx', hr⟩ := hx
   exact ⟨_, _, hk, by simp [execOp, hop, hx'], ⟨b, o', rfl, hr⟩, fun _ _ _ h => by cases h⟩
  ·rename_i tk f A B hd
   rw [hd] at hx hh
   obtain ⟨hx', hc⟩ := ZfF (d := .c tk (.v (.func (.func f) A B))) hx rfl
   exact ⟨_, _, hk, by simp [execOp, hop, hx'], .e _ _ (.v _ rfl), fun t k e he => by rw [← hx']; exact hh t k e he⟩
  ·rename_i tk g A B hd
   rw [hd] at hx hh
   have hx' : ∃ vs us, a.eval x = .func (.func g) vs us := by
    generalize a.eval x = z at hx
    cases (hx : Zca w St ρ (.cl g A B) z) with
    | e _ _ h => cases h
    | cl => exact ⟨_, _, rfl⟩
   obtain ⟨vs, us, hx'⟩ := hx'
   exact ⟨_, .func (.func g) vs us, hk, by simp [execOp, hop, hx'], by rw [hx'] at hx; exact hx, fun t k e he => by rw [← hx']; exact hh t k e he⟩
  ·rename_i n sz i off hd
   rw [hd] at hx
   have hx' : a.eval x = .pointer (some ⟨ρ n, i * sz + off, none⟩) := hx
   exact ⟨_, _, hk, by simp [execOp, hop, hx'], hx', fun _ _ _ h => by cases h⟩
  ·exact hk.elim
 | extract x i =>
  rw [hop] at hk
  simp only [opV] at hk
  have hx := ZbL h x
  split at hk
  ·rename_i xs hd
   rw [hd] at hx
   obtain ⟨vs, hx, hl, hr⟩ := hx
   split at hk
   ·rename_i x' hi
    obtain ⟨u, hu, hr⟩ := hr i x' hi
    refine ⟨_, u, hk, ?_, X.rep_d hr, fun t k e he => by cases x' with | c e' => cases (Zl1 he).1 | _ => cases he⟩
    simp [execOp, hop, hx, Instr.extract, hu]
   ·exact hk.elim
  ·exact hk.elim
 | makeFunc fn first captured =>
  rw [hop] at hk
  simp only [opV] at hk
  split at hk
  ·rename_i g
   split at hk
   case h_2 => exact hk.elim
   rename_i A B hA hB
   obtain ⟨h1, h2⟩ := ZsQ h _ _ hA
   obtain ⟨h3, h4⟩ := ZsQ h _ _ hB
   refine ⟨_, .func (.func g) (first.map a.eval) (captured.map a.eval), hk, by simp [execOp, hop, Instr.makeFunc], ?_, fun _ _ _ h => by cases h⟩
   have e1 : ∀ l : Array Operand, l.map a.eval = (l.toList.map a.eval).toArray := fun l => Array.toList_inj.1 (by rw [Array.toList_map])
   rw [e1, e1]
   exact .cl g A B _ _ h1 h3 h2 h4
  ·split at hk
   case h_2 => exact hk.elim
   rename_i A B hA hB
   refine ⟨_, .func _ A.toArray B.toArray, hk, ?_, .e _ _ (.v _ rfl), fun _ _ _ h => by cases h⟩
   have h1 : first.map a.eval = A.toArray := Array.toList_inj.1 (by simpa using Ztj h _ _ hA)
   have h2 : captured.map a.eval = B.toArray := Array.toList_inj.1 (by simpa using Ztj h _ _ hB)
   simp [execOp, hop, Instr.makeFunc, h1, h2]
 | lookup t m k ok => rw [hop] at hk; exact go _ (by simp only [execOp, hop]) (ZuD hL h hk)
 | call c =>
  rw [hop] at hk
  simp only [opV] at hk
  obtain ⟨callee, args, argTypes⟩ := c
  have hsz : ∀ {α : Type} (x : Array α) (l : List α), x.toList = l → x = l.toArray := fun x l h => by rw [← h]
  split at hk
  ·rename_i x t h1 h2 h3
   simp only at h1 h2 h3
   obtain rfl := h1; obtain rfl := hsz _ _ h2; obtain rfl := hsz _ _ h3
   obtain ⟨d, v, h4, h5, h6⟩ := ZBd (P := P) (ty := o.type) h hL hk
   refine ⟨d, v, h4, ?_, h6⟩
   simp [execOp, hop, resolve, invoke, builtin, h5]
  ·rename_i x y h1 h2
   simp only at h1 h2
   obtain rfl := h1; obtain rfl := hsz _ _ h2
   obtain ⟨d, v, h4, h5, h6⟩ := Zwd (P := P) (ty := o.type) (ts := argTypes) h hk
   refine ⟨d, v, h4, ?_, h6⟩
   simp only [if_true] at h5
   simp [execOp, hop, resolve, invoke, builtin, h5]
  ·rename_i x y h1 h2
   simp only at h1 h2
   obtain rfl := h1; obtain rfl := hsz _ _ h2
   obtain ⟨d, v, h4, h5, h6⟩ := Zwd (P := P) (ty := o.type) (ts := argTypes) h hk
   refine ⟨d, v, h4, ?_, h6⟩
   simp only [Bool.false_eq_true, if_false] at h5
   simp [execOp, hop, resolve, invoke, builtin, h5]
  ·exact hk.elim
 | _ => rw [hop] at hk; exact hk.elim
end

section
variable {P : Program} [Gl P] {w0 : World} {M0 : Nat → Prop} {S0 : ZaA} {S : AS} {tm : Array Value} {w : World} {St : ZaA} {ρ : Nat → Nat}
theorem Zok (tm : Array Value) (i j : Nat) (v : Value) (hi : i < tm.size) : (tm.setIfInBounds i v).getD j undef = if j = i then v else tm.getD j undef := by
 simp only [Array.getD_eq_getD_getElem?, Array.getElem?_setIfInBounds]
 by_cases h : i = j
 ·subst h; simp [hi]
 ·rw [if_neg h, if_neg (fun e => h e.symm)]
theorem ZpQ {i : Nat} {d : D} {v : Value} (hi : i < tm.size) (htok : ∀ t k e, d = .c (some (t, k)) e → Zcm S tm w ρ t k e v) {t k : Nat} {e : E} {u : Value}
  (h : Zcm (S.put i d) (tm.setIfInBounds i v) w ρ t k e u) : Zcm S tm w ρ t k e u := by
 rcases h with ⟨j, hj, hv⟩ | ⟨n, cs, j, hb, hj, hv⟩
 ·rw [Ze1] at hj
  rw [Zok _ _ _ _ hi] at hv
  by_cases he : j = i
  ·rw [if_pos he] at hj hv; subst hv; exact htok t k e hj
  ·rw [if_neg he] at hj hv; exact .inl ⟨j, hj, hv⟩
 ·exact .inr ⟨n, cs, j, hb, hj, hv⟩
theorem ZQ.put (h : ZQ P w0 M0 S0 S tm w St ρ) {i : Nat} {d : D} {v : Value} (hi : i < tm.size) (hd : Zet w St ρ d v) (htok : ∀ t k e, d = .c (some (t, k)) e → Zcm S tm w ρ t k e v) :
  ZQ P w0 M0 S0 (S.put i d) (tm.setIfInBounds i v) w St ρ where
 glob := h.glob
 os := h.os
 tape := h.tape
 output := h.output
 size := h.size
 old := h.old
 stay := h.stay
 up := h.up
 dn := h.dn
 lt := h.lt
 tmp j := by
  rw [Ze1, Zok _ _ _ _ hi]
  split
  ·exact hd
  ·exact h.tmp j
 nm := h.nm
 box := h.box
 inj := h.inj
 own t k e v hh := h.own t k e v (ZpQ hi htok hh)
 apart t k e v t' k' e' v' hh hh' := h.apart t k e v t' k' e' v' (ZpQ hi htok hh) (ZpQ hi htok hh')
 ownbox t k e v n cs hh := h.ownbox t k e v n cs (ZpQ hi htok hh)
theorem Zhd {w : World} {b : Nat} {o : Obj} (h : w.heap[b]? = some o) : b < w.heap.size := by
 rcases Nat.lt_or_ge b w.heap.size with h' | h'
 ·exact h'
 ·simp [Array.getElem?_eq_none h'] at h
theorem ZQ.blk (h : ZQ P w0 M0 S0 S tm w St ρ) {n : Nat} {cs : List Cell} (hn : S.box n = some cs) (hp : 0 < ρ (CAP + n)) : ρ n < w.heap.size ∧ (w0.heap.size ≤ ρ n ∨ M0 (ρ n)) ∧ (∀ o, ¬ St (ρ n) o) ∧ Zf4 P w St ρ n cs := by
 rcases h.box n cs hn with ⟨h1, _⟩ | ⟨_, h1, h2, h3⟩
 ·omega
 ·exact ⟨h3.blk, h1, h2, h3⟩
theorem ZQ.tokp (h : ZQ P w0 M0 S0 S tm w St ρ) {n : Nat} {cs : List Cell} (hn : S.box n = some cs) {j t k : Nat} {e : E} (hj : cs[j]? = some (some (t, k), e)) : 0 < ρ (CAP + n) := by
 rcases h.box n cs hn with ⟨_, h1⟩ | ⟨h1, _⟩
 ·exact (h1.tok hj).elim
 ·exact h1
theorem Zjq {w' : World} (hb : ∀ (n : Nat) (cs : List Cell) (j t k : Nat) (e : E), S.box n = some cs → cs[j]? = some (some (t, k), e) → w'.heap[ρ n]? = w.heap[ρ n]?) {t k : Nat} {e : E} {v : Value} (h : Zcm S tm w' ρ t k e v) : Zcm S tm w ρ t k e v := by
 rcases h with ⟨i, hi, hv⟩ | ⟨n, cs, j, hb', hj, hv⟩
 ·exact .inl ⟨i, hi, hv⟩
 ·exact .inr ⟨n, cs, j, hb', hj, by rw [← World.cell?_of_block (w := w) (w' := w') (a := ⟨ρ n, j, none⟩) (hb n cs j _ _ _ hb' hj)]; exact hv⟩
theorem Zog {B : Nat} {k : Nat} {e : E} {v : Value} (h : Own P B M0 w St k e v) : ∀ g, v.ownBlock = some g → g < w.heap.size ∧ (B ≤ g ∨ M0 g) := by
 rintro g hg
 rcases h with ⟨rfl, _⟩ | ⟨g', cap, cur, rows, rfl, rfl, h1, h2, _⟩
 ·simp [Value.ownBlock] at hg
 ·simp only [Value.ownBlock, Option.some.injEq] at hg
  subst hg
  exact ⟨Zhd h2, h1⟩
theorem ZQ.grow (h : ZQ P w0 M0 S0 S tm w St ρ) {w' : World} {St' : ZaA} (hos : w'.os = w.os) (htape : w'.tape = w.tape) (hout : w'.output = w.output) (hsz : w.heap.size ≤ w'.heap.size)
  (hb : ∀ b, b < w.heap.size → w'.heap[b]? = w.heap[b]?) (hup : ∀ b o, St b o → St' b o) (hdn : ∀ b o, St' b o → St b o ∨ (w.heap.size ≤ b ∧ b < w'.heap.size)) :
  ZQ P w0 M0 S0 S tm w' St' ρ := by
 have hl : Zg8 w w' St St' := ⟨hup, fun b o hs => World.cell?_of_block (a := ⟨b, o, none⟩) (hb b (h.lt b o hs))⟩
 have hheld : ∀ {t k : Nat} {e : E} {v : Value}, Zcm S tm w' ρ t k e v → Zcm S tm w ρ t k e v := fun hh => Zjq (fun n cs j t k e hn hj => hb _ (h.blk hn (h.tokp hn hj)).1) hh
 exact {
  glob := h.glob, os := hos.trans h.os, tape := htape.trans h.tape, output := hout.trans h.output, size := Nat.le_trans h.size hsz
  old := fun b hlt hM => (hb b (Nat.lt_of_lt_of_le hlt h.size)).trans (h.old b hlt hM)
  stay := fun b o hs => (hl.2 b o (h.up b o hs)).trans (h.stay b o hs)
  up := fun b o hs => hup b o (h.up b o hs)
  dn := fun b o hs hlt => (hdn b o hs).elim (fun hs => h.dn b o hs hlt) (fun ⟨h1, _⟩ => absurd (Nat.lt_of_lt_of_le hlt h.size) (by omega))
  lt := fun b o hs => (hdn b o hs).elim (fun hs => Nat.lt_of_lt_of_le (h.lt b o hs) hsz) (fun h1 => h1.2)
  tmp := fun i => (h.tmp i).later hl
  nm := h.nm
  box := fun n cs hn => by
   rcases h.box n cs hn with h1 | ⟨h0, h1, h2, h3⟩
   ·exact .inl h1
   ·have hlt := h3.blk
    refine .inr ⟨h0, h1, fun o hs => ?_, h3.later hl (hb _ hlt)⟩
    rcases hdn _ _ hs with hs | ⟨h6, _⟩
    ·exact h2 o hs
    ·omega
  inj := h.inj
  own := fun t k e v hh => by
   rcases h.own t k e v (hheld hh) with h1 | ⟨g, cap, cur, rows, h1, h2, h3, h4, h5, h6, h7, h8⟩
   ·exact .inl h1
   ·have hg := Zhd h4
    exact .inr ⟨g, cap, cur, rows, h1, h2, h3, (hb g hg).trans h4, h5, h6, h7, fun o hs => (hdn g o hs).elim (h8 o) (fun h9 => by omega)⟩
  apart := fun t k e v t' k' e' v' hh hh' => h.apart t k e v t' k' e' v' (hheld hh) (hheld hh')
  ownbox := fun t k e v n cs hh => h.ownbox t k e v n cs (hheld hh) }
theorem ZQ.setBox (h : ZQ P w0 M0 S0 S tm w St ρ) {n : Nat} {cs : List Cell} (hn : S.box n = none) (hc : n < CAP)
  (hge : w0.heap.size ≤ ρ n ∨ M0 (ρ n)) (hSt : ∀ o, ¬ St (ρ n) o) (hfresh : ∀ m ds, S.box m = some ds → 0 < ρ (CAP + m) → ρ m ≠ ρ n) (hownf : ∀ t k e v, Zcm S tm w ρ t k e v → v.ownBlock ≠ some (ρ n))
  (hp : 0 < ρ (CAP + n)) (hat : Zf4 P w St ρ n cs)
  (htok : ∀ (j t k : Nat) (e : E) (u : Value), cs[j]? = some (some (t, k), e) → w.cell? ⟨ρ n, j, none⟩ = some u → Zcm S tm w ρ t k e u) : ZQ P w0 M0 S0 (S.setBox n cs) tm w St ρ := by
 have hheld : ∀ {t k : Nat} {e : E} {v : Value}, Zcm (S.setBox n cs) tm w ρ t k e v → Zcm S tm w ρ t k e v := fun hh => by
  rcases hh with ⟨i, hi, hv⟩ | ⟨m, ds, j, hb', hj, hv⟩
  ·exact .inl ⟨i, hi, hv⟩
  ·rw [ZbN] at hb'
   split at hb'
   ·rename_i he; subst he; injection hb' with hb'; subst hb'; exact htok _ _ _ _ _ hj hv
   ·exact .inr ⟨m, ds, j, hb', hj, hv⟩
 exact { glob := h.glob, os := h.os, tape := h.tape, output := h.output, size := h.size, old := h.old, stay := h.stay, up := h.up, dn := h.dn, lt := h.lt, tmp := h.tmp
         nm := fun m ds hm => by
           rw [ZbN] at hm
           split at hm
           · rename_i he; subst he; exact hc
           · exact h.nm m ds hm
         box := fun m ds hm => by
           rw [ZbN] at hm
           split at hm
           · rename_i he; subst he; injection hm with hm; subst hm; exact .inr ⟨hp, hge, hSt, hat⟩
           · exact h.box m ds hm
         inj := fun m m' ds es hm hm' hne hp1 hp2 => by
           rw [ZbN] at hm hm'
           split at hm
           · rename_i he; subst he
             split at hm'
             · rename_i he'; exact absurd he'.symm hne
             · exact fun e => hfresh m' es hm' hp2 e.symm
           · split at hm'
             · rename_i he'; subst he'; exact hfresh m ds hm hp1
             · exact h.inj m m' ds es hm hm' hne hp1 hp2
         own := fun t k e v hh => h.own t k e v (hheld hh)
         apart := fun t k e v t' k' e' v' hh hh' => h.apart t k e v t' k' e' v' (hheld hh) (hheld hh')
         ownbox := fun t k e v m ds hh hm hp1 => by
           rw [ZbN] at hm
           split at hm
           · rename_i he; subst he; exact hownf t k e v (hheld hh)
           · exact h.ownbox t k e v m ds (hheld hh) hm hp1 }
theorem ZQ.newObj (h : ZQ P w0 M0 S0 S tm w St ρ) {n : Nat} {cs : List Cell} {d : D} {v : Value} (o : Obj) (c : Nat) (hn : n < CAP) (hi : n < tm.size) (hc : 0 < c)
  (hat : ∀ ρ', ρ' = ZhU ρ n w.heap.size c → Zf4 P (w.alloc o) St ρ' n cs) (hd : ∀ ρ', ρ' = ZhU ρ n w.heap.size c → Zet (w.alloc o) St ρ' d v) (hdt : ∀ tk e, d ≠ .c (some tk) e)
  (htok : ∀ (j t k : Nat) (e : E) (u : Value), cs[j]? = some (some (t, k), e) → (w.alloc o).cell? ⟨w.heap.size, j, none⟩ = some u → Zcm (S.kill n) tm w (ZhU ρ n w.heap.size c) t k e u) :
  ZQ P w0 M0 S0 (((S.kill n).setBox n cs).put n d) (tm.setIfInBounds n v) (w.alloc o) St (ZhU ρ n w.heap.size c) := by
 have h1 := h.kill hn w.heap.size c
 generalize hρ : ZhU ρ n w.heap.size c = ρ' at *
 have e1 : ρ' n = w.heap.size := by rw [← hρ]; exact Zhy
 have e2 : ρ' (CAP + n) = c := by rw [← hρ]; exact ZiU hn
 have h2 : ZQ P w0 M0 S0 (S.kill n) tm (w.alloc o) St ρ' :=
  h1.grow rfl rfl rfl (by simp) (fun b hb => heap_alloc_old w _ b hb) (fun _ _ hs => hs) (fun _ _ hs => .inl hs)
 have hback : ∀ {t' k : Nat} {e : E} {v : Value}, Zcm (S.kill n) tm w ρ' t' k e v → Zcm (S.kill n) tm (w.alloc o) ρ' t' k e v := fun hh => by
  rcases hh with ⟨i, hi, hv⟩ | ⟨m, ds, j, hb', hj, hv⟩
  ·exact .inl ⟨i, hi, hv⟩
  ·refine .inr ⟨m, ds, j, hb', hj, ?_⟩
   rw [World.cell?_of_block (a := ⟨ρ' m, j, none⟩) (heap_alloc_old w _ _ (h1.blk hb' (h1.tokp hb' hj)).1)]
   exact hv
 have h3 := h2.setBox (n := n) (cs := cs) (by rw [ZiB]; simp) hn (by rw [e1]; exact .inl h.size)
  (fun o hs => by rw [e1] at hs; have := h.lt _ _ hs; omega) (fun m ds hm hp => by
   rw [e1]
   have := (h1.blk hm hp).1
   omega)
  (fun t' k e v hh => by
   rw [e1]
   intro he
   have h4 := (Zog (h1.own t' k e v (Zjq (fun m cs' j t k e hm hj => heap_alloc_old w _ _ (h1.blk hm (h1.tokp hm hj)).1) hh)) _ he)
   omega)
  (by rw [e2]; exact hc) (hat ρ' rfl) (fun j t' k e u hj hu => hback (htok j t' k e u hj (by rw [e1] at hu; exact hu)))
 exact h3.put hi (hd ρ' rfl) (fun _ _ _ he => absurd he (hdt _ _))
theorem ZQ.newBox (h : ZQ P w0 M0 S0 S tm w St ρ) {n : Nat} {cs : List Cell} {arr : Array Value} (t : TypeId) (hn : n < CAP) (hi : n < tm.size) (hsz : arr.size = cs.length)
  (hr : ∀ (k : Nat) (c : Cell), cs[k]? = some c → ∃ u, arr[k]? = some u ∧ Zca w St ρ c.2 u) (htok : ∀ (j t k : Nat) (e : E) (u : Value), cs[j]? = some (some (t, k), e) → arr[j]? = some u → ∃ i, S.get i = .c (some (t, k)) e ∧ u = tm.getD i undef) :
  ZQ P w0 M0 S0 (((S.kill n).setBox n (Cell.rens (but n) cs)).put n (.ptr n 0)) (tm.setIfInBounds n (.pointer (some ⟨w.heap.size, 0, none⟩))) (w.alloc (.cells arr t)) St (ZhU ρ n w.heap.size 1) := by
 have hl : Zg8 w (w.alloc (.cells arr t)) St St := ⟨fun _ _ hs => hs, fun b o hs => World.cell?_of_block (a := ⟨b, o, none⟩) (heap_alloc_old w _ b (h.lt b o hs))⟩
 refine h.newObj (.cells arr t) 1 hn hi (by omega) (fun ρ' hρ => ?_) (fun ρ' hρ => ?_) (fun _ _ he => by cases he) (fun j t' k e u hj hu => ?_)
 ·subst hρ
  refine .cells _ arr t (by rw [Zhy]; exact heap_alloc_new w _) (by rw [Cell.rens_map]; simpa using hsz) (fun k c hc => ?_)
  rw [Cell.rens_map, List.getElem?_map, Option.map_eq_some_iff] at hc
  obtain ⟨c0, h5, rfl⟩ := hc
  obtain ⟨u, hu, hru⟩ := hr k c0 h5
  refine ⟨u, hu, ?_⟩
  have := (hru.later hl).ren (Zuw ρ hn w.heap.size 1)
  obtain ⟨tk, e⟩ := c0
  cases tk <;> exact this
 ·subst hρ; show _ = _; rw [Zhy]
 ·obtain ⟨e0, h1, rfl⟩ := Zmf hj
  have hu' : arr[j]? = some u := by simpa [World.cell?, World.alloc, -World.alloc_eq] using hu
  obtain ⟨i, hi, hv⟩ := htok j t' k e0 u h1 hu'
  have he := (h.own t' k e0 u (.inl ⟨i, hi, hv⟩)).ren (but n)
  rw [he]
  exact .inl ⟨i, by rw [ZkO, hi]; simp only [D.ren]; rw [he], hv⟩
def Zju (cs : List Cell) (off : Nat) (new : List Cell) : List Cell := cs.take off ++ new ++ cs.drop (off + new.length)
theorem Zjf {α : Type} (cs new : List α) (off k : Nat) (hb : off + new.length ≤ cs.length) :
  (cs.take off ++ new ++ cs.drop (off + new.length))[k]? = if off ≤ k ∧ k < off + new.length then new[k - off]? else cs[k]? := by
 by_cases h1 : k < off
 ·rw [if_neg (by omega), List.append_assoc, List.getElem?_append_left (by simp; omega), List.getElem?_take, if_pos h1]
 ·by_cases h2 : k < off + new.length
  ·rw [if_pos ⟨by omega, h2⟩, List.append_assoc, List.getElem?_append_right (by simp; omega), List.getElem?_append_left (by simp; omega)]
   congr 1
   simp; omega
  ·rw [if_neg (by omega), List.getElem?_append_right (by simp; omega), List.getElem?_drop]
   congr 1
   simp; omega
def Zh6 (arr : Array Value) (off : Nat) (vs : List Value) : Array Value := (arr.toList.take off ++ vs ++ arr.toList.drop (off + vs.length)).toArray
theorem ZQ.storeBox (h : ZQ P w0 M0 S0 S tm w St ρ) {n off : Nat} {cs new : List Cell} {arr : Array Value} {t : TypeId} {vs : List Value} (hn : S.box n = some cs) (hpl : ZqK cs = true)
  (hblk : w.heap[ρ n]? = some (.cells arr t (0, 0))) (hb : off + new.length ≤ cs.length) (hl : new.length = vs.length) {w' : World}
  (hw : w'.heap[ρ n]? = some (.cells (Zh6 arr off vs) t (0, 0))) (hos : w'.os = w.os) (htape : w'.tape = w.tape) (hout : w'.output = w.output) (hsz : w'.heap.size = w.heap.size)
  (hoth : ∀ b, b ≠ ρ n → w'.heap[b]? = w.heap[b]?)
  (hr : ∀ (k : Nat) (c : Cell), new[k]? = some c → ∃ u, vs[k]? = some u ∧ Zca w St ρ c.2 u) (htok : ∀ (j t k : Nat) (e : E) (u : Value), new[j]? = some (some (t, k), e) → vs[j]? = some u → Zcm S tm w ρ t k e u) :
  ZQ P w0 M0 S0 (S.setBox n (Zju cs off new)) tm w' St ρ := by
 obtain ⟨hp, hge, hSt, hba⟩ := (h.box n cs hn).resolve_left (fun ⟨_, k, he⟩ => by subst he; cases hpl)
 obtain ⟨arr', t', hblk', hsz', hr'⟩ := hba.plain hpl
 obtain ⟨rfl, rfl⟩ : arr = arr' ∧ t = t' := by rw [hblk] at hblk'; injection hblk' with e; injection e with e1 e2; exact ⟨e1, e2⟩
 have hstab : ∀ b o, St b o → b ≠ ρ n := fun b o hs e => hSt o (e ▸ hs)
 have hlat : Zg8 w w' St St := ⟨fun _ _ hs => hs, fun b o hs => World.cell?_of_block (a := ⟨b, o, none⟩) (hoth b (hstab b o hs))⟩
 have hcell : ∀ j, w'.cell? ⟨ρ n, j, none⟩ = (Zh6 arr off vs)[j]? := fun j => by simp [World.cell?, hw]
 have hcell0 : ∀ j, w.cell? ⟨ρ n, j, none⟩ = arr[j]? := fun j => by simp [World.cell?, hblk]
 have hget : ∀ j, (Zh6 arr off vs)[j]? = if off ≤ j ∧ j < off + vs.length then vs[j - off]? else arr[j]? := fun j => by
  have := Zjf arr.toList vs off j (by have e : arr.toList.length = arr.size := Array.length_toList; omega)
  simp only [Zh6, List.getElem?_toArray]
  rw [this]; simp
 have hgetc : ∀ j, (Zju cs off new)[j]? = if off ≤ j ∧ j < off + new.length then new[j - off]? else cs[j]? := fun j => Zjf cs new off j hb
 have hheld : ∀ {t k : Nat} {e : E} {v : Value}, Zcm (S.setBox n (Zju cs off new)) tm w' ρ t k e v → Zcm S tm w ρ t k e v := fun hh => by
  rcases hh with ⟨i, hi, hv⟩ | ⟨m, ds, j, hb', hj, hv⟩
  ·exact .inl ⟨i, hi, hv⟩
  ·rw [ZbN] at hb'
   split at hb'
   ·rename_i he; subst he; injection hb' with hb'; subst hb'
    rw [hcell, hget] at hv
    rw [hgetc] at hj
    by_cases hc : off ≤ j ∧ j < off + new.length
    ·rw [if_pos hc] at hj; rw [if_pos (by omega)] at hv; exact htok _ _ _ _ _ hj hv
    ·rw [if_neg hc] at hj; rw [if_neg (by omega)] at hv; exact .inr ⟨m, cs, j, hn, hj, by rw [hcell0]; exact hv⟩
   ·rename_i he
    refine .inr ⟨m, ds, j, hb', hj, ?_⟩
    rw [← World.cell?_of_block (w := w) (w' := w') (a := ⟨ρ m, j, none⟩) (hoth _ (h.inj m n ds cs hb' hn he (h.tokp hb' hj) hp))]
    exact hv
 have hb1 : ∀ m ds, (S.setBox n (Zju cs off new)).box m = some ds → ∃ ds', S.box m = some ds' := fun m ds hm => by
  rw [ZbN] at hm; split at hm; rename_i he; subst he; exact ⟨cs, hn⟩; exact ⟨ds, hm⟩
 exact { glob := h.glob, os := hos.trans h.os, tape := htape.trans h.tape, output := hout.trans h.output, size := by rw [hsz]; exact h.size
         old := fun b hlt hM => by
           have hne : b ≠ ρ n := by rintro rfl; rcases hge with h1 | h1; omega; exact hM h1
           exact (hoth b hne).trans (h.old b hlt hM)
         stay := fun b o hs => (hlat.2 b o (h.up b o hs)).trans (h.stay b o hs)
         up := h.up, dn := h.dn, lt := fun b o hs => by rw [hsz]; exact h.lt b o hs
         tmp := fun i => (h.tmp i).later hlat
         nm := fun m ds hm => let ⟨ds', h1⟩ := hb1 m ds hm; h.nm m ds' h1
         box := fun m ds hm => by
           rw [ZbN] at hm
           split at hm
           · rename_i he; subst he; injection hm with hm; subst hm
             refine .inr ⟨hp, hge, hSt, .cells _ _ t hw ?_ fun k c hk => ?_⟩
             · unfold Zh6 Zju; rw [List.size_toArray]; simp only [List.length_append, List.length_take, List.length_drop]; have e : arr.toList.length = arr.size := Array.length_toList; omega
             · rw [hgetc] at hk
               rw [hget]
               by_cases hc : off ≤ k ∧ k < off + new.length
               · rw [if_pos hc] at hk; rw [if_pos (by omega)]; obtain ⟨u, hu, hru⟩ := hr _ c hk; exact ⟨u, hu, hru.later hlat⟩
               · rw [if_neg hc] at hk; rw [if_neg (by omega)]; obtain ⟨u, hu, hru⟩ := hr' _ c hk; exact ⟨u, hu, hru.later hlat⟩
           · rename_i he
             rcases h.box m ds hm with h1 | ⟨h0, h1, h2, h3⟩
             · exact .inl h1
             · exact .inr ⟨h0, h1, h2, h3.later hlat (hoth _ (h.inj m n ds cs hm hn he h0 hp))⟩
         inj := fun m m' ds es hm hm' hne => by
           obtain ⟨ds', hd⟩ := hb1 m ds hm
           obtain ⟨es', he'⟩ := hb1 m' es hm'
           exact h.inj m m' ds' es' hd he' hne
         own := fun t k e v hh => by
           have hh := hheld hh
           rcases h.own t k e v hh with h1 | ⟨g, cap, cur, rows, h1, h2, h3, h4, h5⟩
           · exact .inl h1
           · have hne : g ≠ ρ n := by
               have := h.ownbox t k e v n cs hh hn hp
               rw [h2] at this
               intro he; exact this (by simp [Value.ownBlock, he])
             exact .inr ⟨g, cap, cur, rows, h1, h2, h3, (hoth g hne).trans h4, h5⟩
         apart := fun t k e v t' k' e' v' hh hh' => h.apart t k e v t' k' e' v' (hheld hh) (hheld hh')
         ownbox := fun t k e v m ds hh hm hp1 => by
           obtain ⟨ds', hd⟩ := hb1 m ds hm
           exact h.ownbox t k e v m ds' (hheld hh) hd hp1 }
theorem ZQ.storeObj (h : ZQ P w0 M0 S0 S tm w St ρ) {n : Nat} {cs cs' : List Cell} {w' : World} (hn : S.box n = some cs) (hp : 0 < ρ (CAP + n)) (hcs : ∀ (j t k : Nat) (e : E), cs'[j]? ≠ some (some (t, k), e))
  (hat : (∀ b, b ≠ ρ n → w'.heap[b]? = w.heap[b]?) → Zg8 w w' St St → Zf4 P w' St ρ n cs') (hos : w'.os = w.os) (htape : w'.tape = w.tape) (hout : w'.output = w.output) (hsz : w'.heap.size = w.heap.size)
  (hoth : ∀ b, b ≠ ρ n → w'.heap[b]? = w.heap[b]?) : ZQ P w0 M0 S0 (S.setBox n cs') tm w' St ρ := by
 obtain ⟨hlt, hge, hSt, hba⟩ := h.blk hn hp
 have hstab : ∀ b o, St b o → b ≠ ρ n := fun b o hs e => hSt o (e ▸ hs)
 have hlat : Zg8 w w' St St := ⟨fun _ _ hs => hs, fun b o hs => World.cell?_of_block (a := ⟨b, o, none⟩) (hoth b (hstab b o hs))⟩
 have hheld : ∀ {t k : Nat} {e : E} {v : Value}, Zcm (S.setBox n cs') tm w' ρ t k e v → Zcm S tm w ρ t k e v := fun hh => by
  rcases hh with ⟨i, hi, hv⟩ | ⟨m, ds, j, hb', hj, hv⟩
  ·exact .inl ⟨i, hi, hv⟩
  ·rw [ZbN] at hb'
   split at hb'
   ·rename_i he; subst he; injection hb' with hb'; subst hb'; exact absurd hj (hcs _ _ _ _)
   ·rename_i he
    refine .inr ⟨m, ds, j, hb', hj, ?_⟩
    rw [← World.cell?_of_block (w := w) (w' := w') (a := ⟨ρ m, j, none⟩) (hoth _ (h.inj m n ds cs hb' hn he (h.tokp hb' hj) hp))]
    exact hv
 have hb1 : ∀ m ds, (S.setBox n cs').box m = some ds → ∃ ds', S.box m = some ds' := fun m ds hm => by
  rw [ZbN] at hm; split at hm; rename_i he; subst he; exact ⟨cs, hn⟩; exact ⟨ds, hm⟩
 exact { glob := h.glob, os := hos.trans h.os, tape := htape.trans h.tape, output := hout.trans h.output, size := by rw [hsz]; exact h.size
         old := fun b hlt hM => by
           have hne : b ≠ ρ n := by rintro rfl; rcases hge with h1 | h1; omega; exact hM h1
           exact (hoth b hne).trans (h.old b hlt hM)
         stay := fun b o hs => (hlat.2 b o (h.up b o hs)).trans (h.stay b o hs)
         up := h.up, dn := h.dn, lt := fun b o hs => by rw [hsz]; exact h.lt b o hs
         tmp := fun i => (h.tmp i).later hlat
         nm := fun m ds hm => let ⟨ds', h1⟩ := hb1 m ds hm; h.nm m ds' h1
         box := fun m ds hm => by
           rw [ZbN] at hm
           split at hm
           · rename_i he; subst he; injection hm with hm; subst hm
             exact .inr ⟨hp, hge, hSt, hat hoth hlat⟩
           · rename_i he
             rcases h.box m ds hm with h1 | ⟨h0, h1, h2, h3⟩
             · exact .inl h1
             · exact .inr ⟨h0, h1, h2, h3.later hlat (hoth _ (h.inj m n ds cs hm hn he h0 hp))⟩
         inj := fun m m' ds es hm hm' hne => by
           obtain ⟨ds', hd⟩ := hb1 m ds hm
           obtain ⟨es', he'⟩ := hb1 m' es hm'
           exact h.inj m m' ds' es' hd he' hne
         own := fun t k e v hh => by
           have hh := hheld hh
           rcases h.own t k e v hh with h1 | ⟨g, cap, cur, rows, h1, h2, h3, h4, h5⟩
           · exact .inl h1
           · have hne : g ≠ ρ n := by
               have := h.ownbox t k e v n cs hh hn hp
               rw [h2] at this
               intro he; exact this (by simp [Value.ownBlock, he])
             exact .inr ⟨g, cap, cur, rows, h1, h2, h3, (hoth g hne).trans h4, h5⟩
         apart := fun t k e v t' k' e' v' hh hh' => h.apart t k e v t' k' e' v' (hheld hh) (hheld hh')
         ownbox := fun t k e v m ds hh hm hp1 => by
           obtain ⟨ds', hd⟩ := hb1 m ds hm
           exact h.ownbox t k e v m ds' (hheld hh) hd hp1 }
end

def Zsp (P : Program) [Gl P] (f : FuncId) : Prop := ∃ fn, P.funcs[f]? = some fn ∧ (fn.name == "runtime.NumGoroutine") = false ∧ fn.body.isNone = false
def ZdY : Nat → List D → List (Nat × D)
 | _, [] => []
 | i, d :: ds => (i, d) :: ZdY (i + 1) ds
def EXT : Nat := 1000
def NEW : Nat := 2000
abbrev ZbV := List (Nat × List Cell)
structure Zq (P : Program) [Gl P] (f : FuncId) (args : List D) (bx : ZbV) (K : D → ZbV → Prop) : Prop where
 able : Zsp P f
 runs : ∀ (w : World) (S0 : ZaA) (M0 : Nat → Prop) (ZcM : Array Value) (ρ : Nat → Nat), ZcM.size = args.length → ZQ P w M0 S0 ⟨ZdY 0 args, bx⟩ ZcM w S0 ρ →
  Calls P f ZcM w fun e w' => ∃ v r bx' St' ρ', e = .returned v ∧ K r bx' ∧ (∀ n, EXT ≤ n → n < NEW → ρ' n = ρ n ∧ ρ' (CAP + n) = ρ (CAP + n)) ∧ ZQ P w M0 S0 ⟨[(0, r)], bx'⟩ #[v] w' St' ρ'
abbrev CallsA (P : Program) [Gl P] (f : FuncId) (args : List D) (K : D → Prop) : Prop := Zq P f args [] fun r _ => K r
theorem Zq.mono {P : Program} [Gl P] {f : FuncId} {args : List D} {bx : ZbV} {K K' : D → ZbV → Prop} (h : Zq P f args bx K) (hk : ∀ r b, K r b → K' r b) : Zq P f args bx K' :=
 ⟨h.1, fun w S0 M0 ZcM ρ hv hr => (h.2 w S0 M0 ZcM ρ hv hr).mono fun e w' ⟨v, r, bx', St', ρ', h1, h2, h3⟩ => ⟨v, r, bx', St', ρ', h1, hk _ _ h2, h3⟩⟩
theorem CallsA.mono {P : Program} [Gl P] {f : FuncId} {args : List D} {K K' : D → Prop} (h : CallsA P f args K) (hk : ∀ r, K r → K' r) : CallsA P f args K' := Zq.mono h fun r _ => hk r
section
variable {P : Program} [Gl P] {w0 : World} {M0 M1 : Nat → Prop} {S0 : ZaA} {F C S' : AS} {tm : Array Value} {w w' : World} {St St' : ZaA} {ρ ρ' : Nat → Nat}
theorem ZQ.frame (h : ZQ P w0 M0 S0 F tm w St ρ) {ta : Array Value} (c : ZQ P w M1 St C ta w' St' ρ') (hM : ∀ b, M1 b → b < w.heap.size ∧ (w0.heap.size ≤ b ∨ M0 b))
  (hheld : ∀ t k e v, Zcm F tm w ρ t k e v → ∀ b, v.ownBlock = some b → ¬ M1 b) (hbox : ∀ m cs, F.box m = some cs → 0 < ρ (CAP + m) → ¬ M1 (ρ m)) : ZQ P w0 M0 S0 F tm w' St' ρ := by
 have hl : Zg8 w w' St St' := ⟨c.up, c.stay⟩
 have hb : ∀ m cs, F.box m = some cs → 0 < ρ (CAP + m) → w'.heap[ρ m]? = w.heap[ρ m]? := fun m cs hm hp => c.old _ (h.blk hm hp).1 (hbox m cs hm hp)
 have hheld' : ∀ {t k : Nat} {e : E} {v : Value}, Zcm F tm w' ρ t k e v → Zcm F tm w ρ t k e v := fun hh => Zjq (fun m cs j t k e hm hj => hb m cs hm (h.tokp hm hj)) hh
 have hdn : ∀ b o, St' b o → b < w.heap.size → ¬ M1 b → St b o := fun b o hs hlt hm => (c.dn b o hs hlt).resolve_right hm
 exact {
  glob := h.glob, os := c.os.trans h.os, tape := c.tape.trans h.tape, output := c.output.trans h.output, size := Nat.le_trans h.size c.size
  old := fun b hlt hM0 => (c.old b (Nat.lt_of_lt_of_le hlt h.size) (fun hm => by rcases (hM b hm).2 with h1 | h1; omega; exact hM0 h1)).trans (h.old b hlt hM0)
  stay := fun b o hs => (c.stay b o (h.up b o hs)).trans (h.stay b o hs)
  up := fun b o hs => c.up b o (h.up b o hs)
  dn := fun b o hs hlt => by
   rcases c.dn b o hs (Nat.lt_of_lt_of_le hlt h.size) with h1 | h1
   ·exact h.dn b o h1 hlt
   ·rcases (hM b h1).2 with h2 | h2
    ·omega
    ·exact .inr h2
  lt := c.lt
  tmp := fun i => (h.tmp i).later hl
  nm := h.nm
  box := fun m cs hm => by
   rcases h.box m cs hm with h1 | ⟨h0, h1, h2, h3⟩
   ·exact .inl h1
   ·exact .inr ⟨h0, h1, fun o hs => h2 o (hdn _ _ hs h3.blk (hbox m cs hm h0)), h3.later hl (hb m cs hm h0)⟩
  inj := h.inj
  own := fun t k e v hh => by
   have hh := hheld' hh
   rcases h.own t k e v hh with h1 | ⟨g, cap, cur, rows, h1, h2, h3, h4, h5, h6, h7, h8⟩
   ·exact .inl h1
   ·have hg : ¬ M1 g := hheld t k e v hh g (by rw [h2]; rfl)
    exact .inr ⟨g, cap, cur, rows, h1, h2, h3, (c.old g (Zhd h4) hg).trans h4, h5, h6, h7, fun o hs => h8 o (hdn _ _ hs (Zhd h4) hg)⟩
  apart := fun t k e v t' k' e' v' hh hh' => h.apart t k e v t' k' e' v' (hheld' hh) (hheld' hh')
  ownbox := fun t k e v n cs hh => h.ownbox t k e v n cs (hheld' hh) }
theorem ZQ.merge (h : ZQ P w0 M0 S0 F tm w St ρ) (hF : ZQ P w0 M0 S0 F tm w' St' ρ) {v : Value} {r : D} (c : ZQ P w M1 St C #[v] w' St' ρ) (hM : ∀ b, M1 b → b < w.heap.size ∧ (w0.heap.size ≤ b ∨ M0 b))
  (hheld : ∀ t k e v, Zcm F tm w ρ t k e v → ∀ b, v.ownBlock = some b → ¬ M1 b) (hbox : ∀ m cs, F.box m = some cs → 0 < ρ (CAP + m) → ¬ M1 (ρ m)) {dst : Option Nat} {tm2 : Array Value} (htm : ∀ j, tm2.getD j undef = if dst = some j then v else tm.getD j undef) (hC : C.get 0 = r)
  (hget : ∀ j, S'.get j = if dst = some j then r else F.get j) (hSb : ∀ m cs, S'.box m = some cs → F.box m = some cs ∨ (C.box m = some cs ∧ F.box m = none)) :
  ZQ P w0 M0 S0 S' tm2 w' St' ρ := by
 have hsz := c.size
 have hb : ∀ m cs, F.box m = some cs → 0 < ρ (CAP + m) → w'.heap[ρ m]? = w.heap[ρ m]? ∧ ρ m < w.heap.size := fun m cs hm hp => by
  have := (h.blk hm hp).1
  exact ⟨c.old _ this (hbox m cs hm hp), this⟩
 have held' : ∀ {t k : Nat} {e : E} {u : Value}, Zcm S' tm2 w' ρ t k e u → Zcm F tm w' ρ t k e u ∨ Zcm C #[v] w' ρ t k e u := fun hh => by
  rcases hh with ⟨i, hi, hv⟩ | ⟨m, cs, j, hb', hj, hv⟩
  ·rw [hget] at hi
   rw [htm] at hv
   by_cases he : dst = some i
   ·rw [if_pos he] at hi hv; subst hv; exact .inr (.inl ⟨0, by rw [hC]; exact hi, rfl⟩)
   ·rw [if_neg he] at hi hv; exact .inl (.inl ⟨i, hi, hv⟩)
  ·rcases hSb m cs hb' with h1 | ⟨h1, _⟩
   ·exact .inl (.inr ⟨m, cs, j, h1, hj, hv⟩)
   ·exact .inr (.inr ⟨m, cs, j, h1, hj, hv⟩)
 have oldF : ∀ {t k : Nat} {e : E} {u : Value}, Zcm F tm w' ρ t k e u → ∀ b, u.ownBlock = some b → b < w.heap.size ∧ ¬ M1 b := fun hh b hbk => by
  have hh' := Zjq (fun m cs j t k e hm hj => (hb m cs hm (h.tokp hm hj)).1) hh
  exact ⟨(Zog (h.own _ _ _ _ hh') b hbk).1, hheld _ _ _ _ hh' b hbk⟩
 have newC : ∀ {t k : Nat} {e : E} {u : Value}, Zcm C #[v] w' ρ t k e u → ∀ b, u.ownBlock = some b → w.heap.size ≤ b ∨ M1 b := fun hh b hbk => (Zog (c.own _ _ _ _ hh) b hbk).2
 have apFC : ∀ {t k t' k' : Nat} {e e' : E} {u u' : Value}, Zcm F tm w' ρ t k e u → Zcm C #[v] w' ρ t' k' e' u' → ∀ b, u.ownBlock = some b → u'.ownBlock ≠ some b := fun hh hh' b hb1 hb2 => by
  have h1 := oldF hh b hb1
  rcases newC hh' b hb2 with h2 | h2
  ·omega
  ·exact h1.2 h2
 have apart2 : ∀ {u u' : Value}, (∀ b, u.ownBlock = some b → u'.ownBlock ≠ some b) → u.ownBlock = none ∨ u.ownBlock ≠ u'.ownBlock := fun {u u'} hh => by
  cases hu : u.ownBlock with
  | none => exact .inl rfl
  | some b => exact .inr fun he => hh b hu he.symm
 have newb : ∀ m cs, C.box m = some cs → 0 < ρ (CAP + m) → w.heap.size ≤ ρ m ∨ M1 (ρ m) := fun m cs h1 hp => (c.blk h1 hp).2.1
 exact { hF with
  tmp := fun j => by
   rw [hget, htm]
   split
   ·have h0 := c.tmp 0
    rw [hC] at h0
    exact h0
   ·exact hF.tmp j
  nm := fun m cs hm => by
   rcases hSb m cs hm with h1 | ⟨h1, _⟩
   ·exact h.nm m cs h1
   ·exact c.nm m cs h1
  box := fun m cs hm => by
   rcases hSb m cs hm with h1 | ⟨h1, _⟩
   ·exact hF.box m cs h1
   ·rcases c.box _ cs h1 with h3 | ⟨h0, h3, h4, h5⟩
    ·exact .inl h3
    ·refine .inr ⟨h0, ?_, h4, h5⟩
     rcases h3 with h3 | h3
     ·exact .inl (Nat.le_trans h.size h3)
     ·exact (hM _ h3).2
  inj := fun m n cs ds hm hn hne hp hp' => by
   rcases hSb m cs hm with h1 | ⟨h1, _⟩
   ·rcases hSb n ds hn with h3 | ⟨h3, _⟩
    ·exact h.inj m n cs ds h1 h3 hne hp hp'
    ·intro he
     have h5 := (hb m cs h1 hp).2
     rcases newb n ds h3 hp' with h6 | h6
     ·omega
     ·exact hbox m cs h1 hp (he ▸ h6)
   ·rcases hSb n ds hn with h3 | ⟨h3, _⟩
    ·intro he
     have h5 := (hb n ds h3 hp').2
     rcases newb m cs h1 hp with h6 | h6
     ·omega
     ·exact hbox n ds h3 hp' (he ▸ h6)
    ·exact c.inj m n cs ds h1 h3 hne hp hp'
  own := fun t k e u hh => by
   rcases held' hh with hh | hh
   ·exact hF.own t k e u hh
   ·rcases c.own t k e u hh with h1 | ⟨g, cap, cur, rows, h1, h2, h3, h4⟩
    ·exact .inl h1
    ·refine .inr ⟨g, cap, cur, rows, h1, h2, ?_, h4⟩
     rcases h3 with h3 | h3
     ·exact .inl (Nat.le_trans h.size h3)
     ·exact (hM _ h3).2
  apart := fun t k e u t' k' e' u' hh hh' hne => by
   rcases held' hh with h1 | h1
   ·rcases held' hh' with h2 | h2
    ·exact hF.apart t k e u t' k' e' u' h1 h2 hne
    ·exact apart2 (apFC h1 h2)
   ·rcases held' hh' with h2 | h2
    ·exact apart2 fun b hb1 hb2 => apFC h2 h1 b hb2 hb1
    ·exact c.apart t k e u t' k' e' u' h1 h2 hne
  ownbox := fun t k e u m cs hh hm hp => by
   rcases held' hh with h1 | h1
   ·rcases hSb m cs hm with h2 | ⟨h2, _⟩
    ·exact hF.ownbox t k e u m cs h1 h2 hp
    ·intro he
     have h4 := oldF h1 _ he
     rcases newb m cs h2 hp with h5 | h5
     ·omega
     ·exact h4.2 h5
   ·rcases hSb m cs hm with h2 | ⟨h2, _⟩
    ·intro he
     rcases newC h1 _ he with h5 | h5
     ·have := (hb m cs h2 hp).2; omega
     ·exact hbox m cs h2 hp h5
    ·exact c.ownbox t k e u _ cs h1 h2 hp }
end

def Zez : List (Nat × Nat) → Nat → Option Nat
 | [], _ => none
 | (a, b) :: l, n => if n = a then some b else Zez l n
def Zfm : List (Nat × Nat) → List (Nat × Nat)
 | [] => []
 | (a, b) :: l => (b, a) :: Zfm l
def ZhZ (S : AS) (f : Nat → Option Nat) : List (Nat × Nat) → Option ZbV
 | [] => some []
 | (n, c) :: l => match S.box n, ZhZ S f l with
  | some cs, some bx => some ((c, Cell.rens f cs) :: bx)
  | _, _ => none
def Zmi (bx : ZbV) (f : Nat → Option Nat) : List (Nat × Nat) → ZbV → ZbV
 | [], b => b
 | (c, n) :: l, b => Zmi bx f l (match Z2 bx c with | some cs => ins n (Cell.rens f cs) b | none => del n b)
def ZsB : List Nat → Bool
 | [] => true
 | n :: l => !l.contains n && ZsB l
def ZiE : List (Nat × Nat) → List Nat
 | [] => []
 | (a, _) :: l => a :: ZiE l
def Zlm : List (Nat × Nat) → List Nat
 | [] => []
 | (_, b) :: l => b :: Zlm l
def ZlL (c : Nat) : Bool := Nat.ble EXT c && Nat.blt c NEW
def Znj : List (Nat × Nat) → List Nat
 | [] => []
 | (n, c) :: l => if ZlL c then Znj l else n :: Znj l
def ZrS (nm nw : List (Nat × Nat)) : Bool :=
 ZsB (ZiE nm ++ Zlm nw) && ZsB (Zlm nm ++ ZiE nw) && (ZiE nm ++ Zlm nw).all (Nat.blt · CAP) && (Zlm nm ++ ZiE nw).all (Nat.blt · CAP) && (Znj nm ++ Zlm nw).all (fun n => !ZlL n)
def Zj1 (l : List Nat) (m : Nat) : Option Nat := if l.contains m then none else if m < CAP then some m else none
def Zu0 (l : List Nat) : ZbV → ZbV
 | [] => []
 | (n, cs) :: b => if l.contains n then Zu0 l b else (n, cs) :: Zu0 l b
def AS.killN (S : AS) (l : List Nat) : AS := ⟨Zqs (D.ren (Zj1 l)) S.tmps, Zqs (Cell.rens (Zj1 l)) (Zu0 l S.boxes)⟩
def Zoy : List D → List Nat
 | [] => []
 | .c (some (t, _)) _ :: ds => t :: Zoy ds
 | _ :: ds => Zoy ds
def Zpe : List Cell → List Nat
 | [] => []
 | (some (t, _), _) :: cs => t :: Zpe cs
 | _ :: cs => Zpe cs
def Zoe : ZbV → List Nat
 | [] => []
 | (_, cs) :: bx => Zpe cs ++ Zoe bx
def AS.stripAll (S : AS) : List Nat → AS
 | [] => S
 | t :: ts => (S.strip t).stripAll ts
def AS.stripT (S : AS) : Option (Nat × Nat) → AS
 | some (q, _) => S.strip q
 | none => S
def AS.putO (S : AS) (dst : Option Nat) (d : D) : AS :=
 match dst with
 | some i => S.put i d
 | none => S
def Zgn (nt : Nat) (dst : Option Nat) : Bool :=
 match dst with
 | some i => decide (i < nt)
 | none => true
def Zs1 (L : Tab) (nt : Nat) (S : AS) (dst : Option Nat) (t : Nat) (s x : D) (K : AS → Prop) : Prop :=
 match dst, (L.ti t).k, s with
 | some d, .slice e, .c tk es =>
  match es.rows, x.rows?, (match tk, es with | _, .nils => true | some (_, k), _ => k == e | none, _ => false) with
  | some rows, some new, true =>
   d < nt ∧ 0 < (L.ti e).size ∧ (L.ti e).zero.map (·.length) = some (L.ti e).size ∧ (∀ row ∈ rows, row.length = (L.ti e).size) ∧ (∀ row ∈ new, row.length = (L.ti e).size) ∧
   rows.length + new.length ≤ maxLen ∧ (rows.length + new.length) * (L.ti e).bytes ≤ 140737488355328 ∧
   K (((S.stripT tk).strip d).put d (.c (some (d, e)) (.sl (rows ++ new))))
  | _, _, _ => False
 | _, _, _ => False
def ZrV (L : Tab) (nt : Nat) (S : AS) (dst : Option Nat) (t : Nat) (s x : D) (K : AS → Prop) : Prop :=
 match dst, (L.ti t).k, s with
 | some d, .slice e, .c tk es =>
  match es.rows, x.rows?, (match tk, es with | _, .nils => true | some (_, k), _ => k == e | none, _ => false) with
  | some rows, some new, true =>
   d < nt ∧ 0 < (L.ti e).size ∧ (L.ti e).zero.map (·.length) = some (L.ti e).size ∧ (∀ row ∈ rows, row.length = (L.ti e).size) ∧ (∀ row ∈ new, row.length = (L.ti e).size) ∧
   rows.length + new.length ≤ maxLen ∧ (rows.length + new.length) * (L.ti e).bytes ≤ 140737488355328 ∧
   ∃ new', WE (.sl new) (.sl new') ∧ K (((S.stripT tk).strip d).put d (.c (some (d, e)) (.sl (rows ++ new'))))
  | _, _, _ => False
 | _, _, _ => False
def Zm1 (row : List E) (off : Nat) (new : List E) : List E := row.take off ++ new ++ row.drop (off + new.length)
def Zqd (L : Tab) (nt : Nat) (S : AS) (dst : Option Nat) (t n l : Nat) (x : D) (K : AS → Prop) : Prop :=
 match dst, (L.ti t).k, S.box n, x.rows? with
 | some d, .slice e, some [(none, .ob code rows)], some new =>
  code = 2 * e ∧ d < nt ∧ ZlL n = false ∧ 0 < (L.ti e).size ∧ (L.ti e).zero.map (·.length) = some (L.ti e).size ∧ l ≤ rows.length ∧ (∀ row ∈ new, row.length = (L.ti e).size) ∧
  l + new.length ≤ maxLen ∧ (l + new.length) * (L.ti e).bytes ≤ 140737488355328 ∧
  ∃ new' rows' l', WE (.sl new) (.sl new') ∧ rows.take l ++ new' = rows' ∧ l + new.length = l' ∧ K (((S.kill n).setBox n [(none, .ob code rows')]).put d (.c none (.rs n l')))
 | _, _, _, _ => False
def Ztr (L : Tab) (nt : Nat) (S : AS) (dst : Option Nat) (t : Nat) (s x : D) (K : AS → Prop) : Prop :=
 match s with
 | .c _ (.rs n l) => Zqd L nt S dst t n l x K
 | s => ZrV L nt S dst t s x K
def ZsE (L : Tab) (S : AS) (dst : Option Nat) (t n sz i off : Nat) (x : D) (K : AS → Prop) : Prop :=
 match S.box n, x.es with
 | some [(none, .ob code rows)], some new =>
  match rows[i]? with
  | some row => code % 2 = 0 ∧ (L.ti (code / 2)).known = true ∧ sz = (L.ti (code / 2)).size ∧ dst = none ∧ (L.ti t).known = true ∧ new.length = (L.ti t).size ∧ new.all E.flat = true ∧ off + new.length ≤ row.length ∧
   ∃ rows', WE (.sl (rows.set i (Zm1 row off new))) (.sl rows') ∧ K (S.setBox n [(none, .ob code rows')])
  | none => False
 | _, _ => False
def Zsk (L : Tab) (nt : Nat) (S : AS) (dst : Option Nat) (t n m : Nat) (lo hi mx : Option D) (K : AS → Prop) : Prop :=
 match mx, (L.ti t).k, S.box n, ZdI 0 lo, ZdI m hi with
 | none, .slice e, some [(none, .ob code rows)], some l, some h => code = 2 * e ∧ Zgn nt dst = true ∧ l = 0 ∧ 0 ≤ h ∧ h ≤ m ∧ (L.ti e).known = true ∧
  ∃ rows' l', rows.take h.toNat = rows' ∧ h.toNat = l' ∧ K ((S.setBox n [(none, .ob code rows')]).putO dst (.c none (.rs n l')))
 | _, _, _, _, _ => False
def ZuZ (P : Program) (L : Tab) (nt : Nat) (S : AS) (dst : Option Nat) (t : Nat) (x : D) (K : AS → Prop) : Prop :=
 match dst, (L.ti t).k, x with
 | some d, .string, .c _ (.v (.string s)) => d < nt ∧ (P.underlying 1000000).isNone = true ∧ K (((S.kill d).setBox d [(none, Zv0 s ((0 : Nat) : Int))]).put d (.ptr d 0))
 | _, _, _ => False
def Zyb (P : Program) (nt : Nat) (S : AS) (dst : Option Nat) (x : D) (K : AS → Prop) : Prop :=
 match x with
 | .ptr n 0 =>
  match S.box n with
  | some [(none, .ob code [[.v (.string s), .v (.int .i64 pos)]])] => code = ZC6 ∧ Zgn nt dst = true ∧ (P.underlying 1000000).isNone = true ∧
   ZgU (decide (pos.toNat < s.size))
    (K ((S.setBox n [(none, Zv0 s ((pos.toNat + (Utf8.decode s pos.toNat).2 : Nat) : Int))]).putO dst (.tup [.c (.v (.bool true)), .c (.v (.int .i64 ((pos.toNat : Nat) : Int))), .c (.v (.int .i32 (((Utf8.decode s pos.toNat).1 : Nat) : Int)))])))
    (K (S.putO dst (.tup [.c (.v (.bool false))])))
  | _ => False
 | _ => False
def ZqB (e : E) (K : E → Prop) : Prop :=
 match e with
 | .v x => K (.v x)
 | .sl rows => K (.sl rows)
 | .nils => K .nils
 | .ifc b => K (.ifc b)
 | .any => K .any
 | .rf n => K (.rf n)
 | .rs n l => K (.rs n l)
 | .pt n o => K (.pt n o)
 | .cl g fs cs => K (.cl g fs cs)
 | .ob c rows => K (.ob c rows)
def Zp6 : List E → (List E → Prop) → Prop
 | [], K => K []
 | e :: es, K => ZqB e fun e => Zp6 es fun es => K (e :: es)
def Zpj (d : D) (K : D → Prop) : Prop :=
 match d with
 | .bot => K .bot
 | .c none e => ZqB e fun e => K (.c none e)
 | .c (some (t, k)) e => ZqB e fun e => K (.c (some (t, k)) e)
 | .agg es => Zp6 es fun es => K (.agg es)
 | .tup xs => K (.tup xs)
 | .ptr n off => K (.ptr n off)
 | .ref es => Zp6 es fun es => K (.ref es)
 | .ept n sz i off => K (.ept n sz i off)
def ZuO : List (Nat × D) → (List (Nat × D) → Prop) → Prop
 | [], K => K []
 | (i, d) :: l, K => Zpj d fun d' => ZuO l fun l' => K ((i, d') :: l')
def ZoF : List Cell → (List Cell → Prop) → Prop
 | [], K => K []
 | (none, e) :: l, K => ZqB e fun e => ZoF l fun l => K ((none, e) :: l)
 | (some (t, k), e) :: l, K => ZqB e fun e => ZoF l fun l => K ((some (t, k), e) :: l)
def Zqv : ZbV → (ZbV → Prop) → Prop
 | [], K => K []
 | (i, cs) :: l, K => ZoF cs fun cs => Zqv l fun l' => K ((i, cs) :: l')
def ZeL (S : AS) (K : AS → Prop) : Prop := ZuO S.tmps fun t => Zqv S.boxes fun b => K ⟨t, b⟩
theorem ZlI (e : E) (K : E → Prop) : ZqB e K = K e := by cases e <;> rfl
theorem Zpu : ∀ (es : List E) (K : List E → Prop), Zp6 es K = K es
 | [], K => rfl
 | e :: es, K => by simp only [Zp6, ZlI, Zpu es]
theorem Zuc (d : D) (K : D → Prop) : Zpj d K = K d := by
 cases d with
 | c tk e => cases tk with
  | none => simp only [Zpj, ZlI]
  | some q => simp only [Zpj, ZlI]
 | agg es => simp only [Zpj, Zpu]
 | ref es => simp only [Zpj, Zpu]
 | _ => rfl
theorem Zt9 : ∀ (l : List (Nat × D)) (K : List (Nat × D) → Prop), ZuO l K = K l
 | [], K => rfl
 | (i, d) :: l, K => by simp only [ZuO, Zuc, Zt9 l]
theorem Zpx : ∀ (l : List Cell) (K : List Cell → Prop), ZoF l K = K l
 | [], K => rfl
 | (none, e) :: l, K => by simp only [ZoF, ZlI, Zpx l]
 | (some (t, k), e) :: l, K => by simp only [ZoF, ZlI, Zpx l]
theorem Zjm : ∀ (l : ZbV) (K : ZbV → Prop), Zqv l K = K l
 | [], K => rfl
 | (i, d) :: l, K => by simp only [Zqv, Zpx, Zjm l]
theorem Zgs (S : AS) (K : AS → Prop) : ZeL S K = K S := by simp only [ZeL, Zt9, Zjm]
def ZpG : List D → (List D → Prop) → Prop
 | [], K => K []
 | d :: l, K => Zpj d fun d' => ZpG l fun l' => K (d' :: l')
theorem ZfW : ∀ (l : List D) (K : List D → Prop), ZpG l K = K l
 | [], K => rfl
 | d :: l, K => by simp only [ZpG, Zuc, ZfW l]
def Zk7 (keep : List Nat) : D → D
 | .c (some (t, k)) e => if keep.contains t then .c none e else .c (some (t, k)) e
 | d => d
def Zue (S : AS) (nm nw : List (Nat × Nat)) (ts : List Nat) (dst : Option Nat) (r : D) (bx : ZbV) (K : AS → Prop) : Prop :=
 let F := (S.stripAll ts).killN (Znj nm ++ Zlm nw)
 K (({ F with boxes := Zmi bx (Zez (Zfm nm ++ nw)) (Zfm nm ++ nw) F.boxes } : AS).putO dst ((if nm.isEmpty && nw.isEmpty then (match dst with | some d => r.retok d | none => r) else r.plain).ren (Zez (Zfm nm ++ nw))))
def D.fn? : D → Option (Nat × List D × List D)
 | .c _ (.v (.func (.func g) first cap)) => some (g, first.toList.map Zm0, cap.toList.map Zm0)
 | .c _ (.cl g first cap) => some (g, first.map (Zle none), cap.map (Zle none))
 | _ => none
def Zqa (P : Program) [Gl P] (nt : Nat) (S : AS) (dst : Option Nat) (f : Operand) (args : List Operand) (K : AS → Prop) : Prop :=
 match (S.ev f).fn? with
 | some (g, first, cap) => ∃ (keep : List Nat) (nm nw : List (Nat × Nat)),
  ZpG ((first ++ args.map S.ev ++ cap).map (Zk7 keep)) fun ds =>
   match ZhZ S (Zez nm) nm with
   | some bx =>
    (Zgn nt dst && ZrS nm nw) = true ∧ ZpG (ds.map (D.ren (Zez nm))) fun ds' => Zqv bx fun bx => Zq P g ds' bx fun r bx' => Zue S nm nw (Zoy ds ++ Zoe bx) dst r bx' K
   | none => False
 | none => False
def D.isA : D → Bool
 | .agg _ => true
 | _ => false
def Zgd (L : Tab) (S : AS) (dst : Option Nat) (t : Nat) (m k x : D) (K : AS → Prop) : Prop :=
 match (L.ti t).k, m, k.e?, x.es with
 | .map kt vt, .c _ (.rf n), some ke, some val =>
  match S.box n with
  | some [(none, .ob code rows)] => dst = none ∧ code = 2 * t + 1 ∧ ZkJ (L.ti kt).k [ke] = true ∧ (L.ti kt).size = 1 ∧ (L.ti vt).known = true ∧ val.length = (L.ti vt).size ∧ val.all E.flat = true ∧ x.isA = (L.ti vt).isAgg ∧
   ∃ val' rows', WL val val' ∧ ZnZ 1 [ke] val' rows = some rows' ∧ K (S.setBox n [(none, .ob code rows')])
  | _ => False
 | _, _, _, _ => False
def Zgg (P : Program) [Gl P] (L : Tab) (nt : Nat) (S : AS) (o : Oper) (K : AS → Prop) : Prop :=
 match o.op with
 | .box _ x =>
  match o.dst, (S.ev x).cells with
  | some d, some cs => d < nt ∧ K (((S.kill d).setBox d (Cell.rens (but d) cs)).put d (.ptr d 0))
  | _, _ => False
 | .alloc t =>
  match o.dst, (L.ti t).zero with
  | some d, some z => d < nt ∧ K (((S.kill d).setBox d (z.map fun e => (none, e))).put d (.ptr d 0))
  | _, _ => False
 | .buildSlice t len parts =>
  match o.dst, (L.ti t).k with
  | some d, .slice e =>
   match (L.ti e).zero with
   | some z => d < nt ∧ 0 < (L.ti e).size ∧ z.length = (L.ti e).size ∧ len * (L.ti e).size ≤ 16777216 ∧
     Zhp S (fun i => some (i * (L.ti e).size, (L.ti e).size)) parts.toList (ZuJ len z) fun es => es.all E.flat = true ∧ ∃ rows', WE (.sl (ZkR (L.ti e).size len es)) (.sl rows') ∧ K ((S.strip d).put d (.c (some (d, e)) (.sl rows')))
   | none => False
  | _, _ => False
 | .makeSlice t x y =>
  match o.dst, (L.ti t).k, (S.ev x).int?, (S.ev y).int? with
  | some d, .slice e, some n, some c =>
   d < nt ∧ 0 < (L.ti e).size ∧ (L.ti e).zero.map (·.length) = some (L.ti e).size ∧ n = 0 ∧ 0 ≤ c ∧ c ≤ (maxLen : Nat) ∧ ((L.ti e).bytes : Int) * c ≤ 281474976710656 ∧ K ((S.strip d).put d (.c (some (d, e)) (.sl [])))
  | _, _, _, _ => False
 | .store t p x =>
  match S.ev p with
  | .ptr n off =>
   match (S.ev x).cells with
   | some new =>
    match S.box n with
    | some cs => ZqK cs = true ∧ o.dst = none ∧ (L.ti t).known = true ∧ new.length = (L.ti t).size ∧ off + new.length ≤ cs.length ∧ K (S.setBox n (Zju cs off new))
    | none => False
   | none => False
  | .ept n sz i off => ZsE L S o.dst t n sz i off (S.ev x) K
  | _ => False
 | .makeMap t r =>
  match o.dst, (L.ti t).k with
  | some d, .map u _ => d < nt ∧ (L.ti u).known = true ∧ (match r with | none => True | some x => (S.ev x).int?.isSome = true) ∧ K (((S.kill d).setBox d [(none, .ob (2 * t + 1) [])]).put d (.c none (.rf d)))
  | _, _ => False
 | .mapUpdate t m k x => Zgd L S o.dst t (S.ev m) (S.ev k) (S.ev x) K
 | .insert t m k x => Zgd L S o.dst t (S.ev m) (S.ev k) (S.ev x) K
 | .range t x => ZuZ P L nt S o.dst t (S.ev x) K
 | .next x str => str = true ∧ Zyb P nt S o.dst (S.ev x) K
 | .slice t x lo hi mx =>
  match S.ev x with
  | .c _ (.rs n m) => Zsk L nt S o.dst t n m (lo.map S.ev) (hi.map S.ev) (mx.map S.ev) K
  | _ => Zgn nt o.dst = true ∧ opV L S o.op fun d => K (S.putO o.dst d)
 | .call c =>
  match c.callee, c.args.toList, c.argTypes.toList with
  | .builtin .append, [s, x], [t, u] => t = u ∧ Ztr L nt S o.dst t (S.ev s) (S.ev x) K
  | .builtin .clear, [x], [t] =>
   match (L.ti t).k, S.ev x with
   | .map _ _, .c _ (.rf n) =>
    (match S.box n with
    | some [(none, .ob code _)] => code = 2 * t + 1 ∧ Zgn nt o.dst = true ∧ K ((S.setBox n [(none, .ob code [])]).putO o.dst (.tup []))
    | _ => False)
   | _, _ => False
  | .value f, args, _ => Zqa P nt S o.dst f args K
  | _, _, _ => Zgn nt o.dst = true ∧ opV L S o.op fun d => K (S.putO o.dst d)
 | op => Zgn nt o.dst = true ∧ opV L S op fun d => K (S.putO o.dst d)
def ZmT (P : Program) [Gl P] (L : Tab) (nt : Nat) (ops : Array Oper) : List Oper → AS → (AS → Prop) → Prop
 | [], S, K => K S
 | o :: rest, S, K =>
  match o.guard with
  | none => Zgg P L nt S o fun S' => ZeL S' fun S' => ZmT P L nt ops rest S' K
  | some (j, want) =>
   match (ops[j]?).bind (·.dst) with
   | some g =>
    match S.get g with
    | .c tk (.v (.bool b)) =>
     Zgn nt o.dst = true ∧
     ZiP b want (Zgg P L nt (S.put g (.c tk (.v (.bool want)))) o fun S' => ZeL S' fun S' => ZmT P L nt ops rest S' K)
      (ZeL ((S.put g (.c tk (.v (.bool (!want))))).putO o.dst (.tup [])) fun S' => ZmT P L nt ops rest S' K)
    | .tup [] => Zgn nt o.dst = true ∧ ZeL (S.putO o.dst (.tup [])) fun S' => ZmT P L nt ops rest S' K
    | _ => False
   | none => False

section
variable {P : Program} [Gl P] {L : Tab} (hL : TOk P L) {nt : Nat} {w0 : World} {M0 : Nat → Prop} {S0 : ZaA} {ρ0 : Nat → Nat} {df : List Deferred}
def Zcv (P : Program) [Gl P] (nt : Nat) (df : List Deferred) (w0 : World) (M0 : Nat → Prop) (S0 : ZaA) (ρ0 : Nat → Nat) (S : AS) (a : Act) (w : World) : Prop :=
 a.defers = df ∧ a.tmps.size = nt ∧ ∃ St ρ, ZQ P w0 M0 S0 S a.tmps w St ρ ∧ ∀ n, EXT ≤ n → n < NEW → ρ n = ρ0 n ∧ ρ (CAP + n) = ρ0 (CAP + n)
variable {S : AS} {a : Act} {w : World}
theorem ZeQ (a : Act) (dst : Option Nat) (v : Value) : (a.put dst v).tmps.size = a.tmps.size := by cases dst <;> simp [Act.put]
theorem Zhg (a : Act) (dst : Option Nat) (v : Value) : (a.put dst v).defers = a.defers := by cases dst <;> rfl
theorem ZpU (h : Zcv P nt df w0 M0 S0 ρ0 S a w) {dst : Option Nat} (hd : Zgn nt dst = true) {d : D} {v : Value}
  (hv : ∀ St ρ, ZQ P w0 M0 S0 S a.tmps w St ρ → Zet w St ρ d v ∧ ∀ t k e, d = .c (some (t, k)) e → Zcm S a.tmps w ρ t k e v) : Zcv P nt df w0 M0 S0 ρ0 (S.putO dst d) (a.put dst v) w := by
 obtain ⟨h1, h2, St, ρ, h3, h4⟩ := h
 refine ⟨by rw [Zhg]; exact h1, by rw [ZeQ]; exact h2, St, ρ, ?_, h4⟩
 cases dst with
 | none => exact h3
 | some i =>
  have hi : i < nt := of_decide_eq_true hd
  exact h3.put (by omega) (hv St ρ h3).1 (hv St ρ h3).2
theorem ZjJ (h : Zcv P nt df w0 M0 S0 ρ0 S a w) {dst : Option Nat} (hd : Zgn nt dst = true) : Zcv P nt df w0 M0 S0 ρ0 (S.putO dst (.tup [])) (a.put dst undef) w :=
 ZpU h hd fun _ _ _ => ⟨⟨[], rfl, rfl, fun k x hk => by simp at hk⟩, fun _ _ _ h => by cases h⟩
include hL in
theorem ZpI {o : Oper} {K : AS → Prop} (hk : Zgn nt o.dst = true ∧ opV L S o.op fun d => K (S.putO o.dst d)) (h : Zcv P nt df w0 M0 S0 ρ0 S a w) {next : Act → World → Prop} {Q : Exit → Act → World → Prop}
  (hn : ∀ S' a' w', K S' → Zcv P nt df w0 M0 S0 ρ0 S' a' w' → next a' w') : o.wp P a w next Q := by
 obtain ⟨hd, hk⟩ := hk
 obtain ⟨h1, h2, St, ρ, h3, h4⟩ := h
 obtain ⟨d, v, hkd, hr, hrep, htok⟩ := ZqI hL h3 hk
 unfold Oper.wp
 rw [hr, Oper.upon_value]
 refine hn _ _ _ hkd ⟨by rw [Zhg]; exact h1, by rw [ZeQ]; exact h2, St, ρ, ?_, h4⟩
 cases hdst : o.dst with
 | none => exact h3
 | some i =>
  rw [hdst] at hd
  have hi : i < nt := of_decide_eq_true hd
  exact h3.put (by rw [h2]; exact hi) hrep htok
theorem Zji {St : ZaA} {ρ : Nat → Nat} {d : D} {x : Value} {cs : List Cell} (h : Zet w St ρ d x) (hd : d.cells = some cs) :
  x.cells.size = cs.length ∧ (∀ (k : Nat) (c : Cell), cs[k]? = some c → ∃ u, x.cells[k]? = some u ∧ Zca w St ρ c.2 u) ∧
  ∀ (j t k : Nat) (e : E) (u : Value), cs[j]? = some (some (t, k), e) → x.cells[j]? = some u → d = .c (some (t, k)) e ∧ u = x := by
 cases d with
 | c tk e =>
  simp only [D.cells, Option.some.injEq] at hd
  subst hd
  have h : Zca w St ρ e x := h
  have hc : x.cells = #[x] := by have := h.oneCell; cases x <;> first | rfl | (simp [Value.oneCell'] at this)
  rw [hc]
  refine ⟨rfl, fun k c hk => ?_, fun j t k e' u hj hu => ?_⟩
  ·cases k with
   | zero => simp only [List.getElem?_cons_zero, Option.some.injEq] at hk; subst hk; exact ⟨x, rfl, h⟩
   | succ k => simp at hk
  ·cases j with
   | zero =>
    simp only [List.getElem?_cons_zero, Option.some.injEq, Prod.mk.injEq] at hj
    obtain ⟨rfl, rfl⟩ := hj
    simp at hu
    exact ⟨rfl, hu.symm⟩
   | succ k => simp at hj
 | agg es =>
  simp only [D.cells, Option.some.injEq] at hd
  subst hd
  obtain ⟨vs, rfl, h⟩ := h
  refine ⟨by simp [Value.cells, h.1], fun k c hk => ?_, fun j t k e' u hj hu => ?_⟩
  ·rw [List.getElem?_map] at hk
   cases he : es[k]? with
   | none => simp [he] at hk
   | some e =>
    rw [he] at hk
    simp only [Option.map_some, Option.some.injEq] at hk
    subst hk
    obtain ⟨u, hu, hr⟩ := h.2 k e he
    exact ⟨u, by simpa [Value.cells] using hu, hr⟩
  ·rw [List.getElem?_map] at hj
   cases he : es[j]? <;> simp [he] at hj
 | ptr n off =>
  simp only [D.cells, Option.some.injEq] at hd
  subst hd
  have h : x = .pointer (some ⟨ρ n, off, none⟩) := h
  subst h
  refine ⟨rfl, fun k c hk => ?_, fun j t k e' u hj hu => ?_⟩
  ·cases k with
   | zero => simp only [List.getElem?_cons_zero, Option.some.injEq] at hk; subst hk; exact ⟨_, rfl, .pt n off⟩
   | succ k => simp at hk
  ·cases j with
   | zero => simp at hj
   | succ k => simp at hj
 | _ => simp [D.cells] at hd
theorem ZA1 {t k : Nat} {e : E} {x : Operand} (h : S.ev x = .c (some (t, k)) e) : ∃ i, S.get i = .c (some (t, k)) e ∧ a.eval x = a.tmps.getD i undef := by
 cases x with
 | tmp i => exact ⟨i, h, rfl⟩
 | const v => simp only [AS.ev, Zm0] at h; split at h <;> first | (split at h <;> cases h) | cases h
 | global g => cases h
 | func f => cases h
theorem ZnP (h : Zcv P nt df w0 M0 S0 ρ0 S a w) {d : Nat} {cs : List Cell} {arr : Array Value} (t : TypeId) (hd : d < nt) (hnt : nt ≤ EXT) (hsz : arr.size = cs.length)
  (hr : ∀ St ρ, ZQ P w0 M0 S0 S a.tmps w St ρ → ∀ (k : Nat) (c : Cell), cs[k]? = some c → ∃ u, arr[k]? = some u ∧ Zca w St ρ c.2 u)
  (htok : ∀ (j t k : Nat) (e : E) (u : Value), cs[j]? = some (some (t, k), e) → arr[j]? = some u → ∃ i, S.get i = .c (some (t, k)) e ∧ u = a.tmps.getD i undef) :
  Zcv P nt df w0 M0 S0 ρ0 (((S.kill d).setBox d (Cell.rens (but d) cs)).put d (.ptr d 0)) (a.put (some d) (.pointer (some ⟨w.heap.size, 0, none⟩))) (w.alloc (.cells arr t)) := by
 obtain ⟨h1, h2, St, ρ, h3, h4⟩ := h
 have hc : d < CAP := by unfold CAP; unfold EXT at hnt; omega
 exact ⟨h1, by rw [ZeQ]; exact h2, St, _, h3.newBox t hc (by omega) hsz (hr St ρ h3) htok, fun n hn hn2 => by
  rw [ZoP (by omega) (by unfold CAP; unfold NEW at hn2; omega), ZnW (by omega) hc]; exact h4 n hn hn2⟩
theorem Zkg (g : Nat) (t : TypeId) (vs : List Value) (off : Nat) (arr : Array Value) (w : World) (hg : w.heap[g]? = some (.cells arr t (0, 0))) (hb : off + vs.length ≤ arr.size) (h1 : ∀ v ∈ vs, v.oneCell' = true) :
  ∃ w', (storeCells ⟨g, off, none⟩ vs).run P w = .ok () w' ∧ w'.heap[g]? = some (.cells (Zh6 arr off vs) t (0, 0)) ∧ w'.os = w.os ∧ w'.tape = w.tape ∧ w'.output = w.output ∧ w'.heap.size = w.heap.size ∧ ∀ b, b ≠ g → w'.heap[b]? = w.heap[b]? := by
 have _gl : Gl P := inferInstance
 have := run_storeCells_at P g off t vs 0 arr w hg (by simpa using hb) h1
 simp only [Nat.add_zero] at this
 refine ⟨_, this, setRow_heap w g arr _ t _ hg, rfl, rfl, rfl, by simp, fun b hb => setRow_other w g b _ hb⟩
include hL in
theorem ZwG (h : Zcv P nt df w0 M0 S0 ρ0 S a w) {o : Oper} {t : Nat} {p x : Operand} {n off : Nat} {cs new : List Cell} (ho : o.op = .store t p x) (hp : S.ev p = .ptr n off) (hx : (S.ev x).cells = some new)
  (hn : S.box n = some cs) (hpl : ZqK cs = true) (hdst : o.dst = none) (hkn : (L.ti t).known = true) (hsz : new.length = (L.ti t).size) (hb : off + new.length ≤ cs.length) {next : Act → World → Prop} {Q : Exit → Act → World → Prop}
  (hnext : ∀ a' w', Zcv P nt df w0 M0 S0 ρ0 (S.setBox n (Zju cs off new)) a' w' → next a' w') : o.wp P a w next Q := by
 obtain ⟨h1, h2, St, ρ, h3, h4⟩ := h
 obtain ⟨d, ti, ht⟩ := hL.ty (t := t) (.inl hkn)
 obtain ⟨hpos, hge, hSt, hba⟩ := (h3.box n cs hn).resolve_left (fun ⟨_, k, he⟩ => by subst he; cases hpl)
 obtain ⟨arr, el, hblk, has, hr⟩ := hba.plain hpl
 have hp' : a.eval p = .pointer (some ⟨ρ n, off, none⟩) := by have := ZbL h3 p; rw [hp] at this; exact this
 have hx' := ZbL h3 x
 obtain ⟨hc1, hc2, hc3⟩ := Zji hx' hx
 have hone : ∀ v ∈ (a.eval x).cells.toList, v.oneCell' = true := fun v hv => by
  obtain ⟨k, hk⟩ := List.getElem?_of_mem hv
  have hk' : (a.eval x).cells[k]? = some v := by rw [← Array.getElem?_toList]; exact hk
  have hlt : k < new.length := by
   rcases Nat.lt_or_ge k (a.eval x).cells.size with h' | h'
   ·omega
   ·simp [Array.getElem?_eq_none h'] at hk'
  obtain ⟨u, hu, hru⟩ := hc2 k new[k] (by simp [hlt])
  rw [hk'] at hu
  injection hu with hu
  subst hu
  exact hru.oneCell
 obtain ⟨w', hw1, hw2, hw3, hw4, hw5, hw6, hw7⟩ := Zkg (P := P) (ρ n) el (a.eval x).cells.toList off arr w hblk (by simp; omega) hone
 have hrun : (execOp a.eval o).run P w = .ok .skip w' := by
  simp only [execOp, ho, Instr.storeAt, Instr.sureAddr, hp', storeVar, Sem.run_bind, Sem.run_pure, Result.andThen_ok, ZbX ht, Sem.run_ite]
  rw [if_neg (by rw [hc1, hsz]; simp)]
  simp only [Sem.run_bind, Sem.run_pure, Result.andThen_ok, hw1]
 unfold Oper.wp
 rw [hrun, Oper.upon_skip, hdst]
 refine hnext _ _ ⟨h1, h2, St, ρ, ?_, h4⟩
 refine h3.storeBox hn hpl hblk hb (by simp [hc1]) hw2 hw3 hw4 hw5 hw6 hw7 (fun k c hk => ?_) (fun j t' k e u hj hu => ?_)
 ·obtain ⟨u, hu, hru⟩ := hc2 k c hk
  exact ⟨u, by rw [Array.getElem?_toList]; exact hu, hru⟩
 ·obtain ⟨h5, h6⟩ := hc3 j t' k e u hj (by rw [← Array.getElem?_toList]; exact hu)
  rw [h6]; exact ZpZ x h5
end

section
variable {P : Program} [Gl P] {w0 : World} {M0 : Nat → Prop} {S0 : ZaA} {F : AS} {tm : Array Value} {w : World} {St : ZaA} {ρ : Nat → Nat}
theorem ZQ.putOwn (h : ZQ P w0 M0 S0 F tm w St ρ) {d k : Nat} {e : E} {v : Value} (hd : d < tm.size) (hr : Zdo w St e v) (ho : Own P w0.heap.size M0 w St k e v) (hno : ∀ k' e' v', ¬ Zcm F tm w ρ d k' e' v')
  (hap : ∀ t k' e' v', Zcm F tm w ρ t k' e' v' → ∀ b, v'.ownBlock = some b → v.ownBlock ≠ some b) (hbx : ∀ n cs, F.box n = some cs → 0 < ρ (CAP + n) → v.ownBlock ≠ some (ρ n)) :
  ZQ P w0 M0 S0 (F.put d (.c (some (d, k)) e)) (tm.setIfInBounds d v) w St ρ := by
 have hp := h.put (d := .c none e) hd (Zca.e _ _ hr) (fun _ _ _ he => by cases he)
 have hheld : ∀ {t k' : Nat} {e' : E} {u : Value}, Zcm (F.put d (.c (some (d, k)) e)) (tm.setIfInBounds d v) w ρ t k' e' u → Zcm F tm w ρ t k' e' u ∨ (t = d ∧ k' = k ∧ e' = e ∧ u = v) := fun hh => by
  rcases hh with ⟨i, hi, hv⟩ | ⟨n, cs, j, hb', hj, hv⟩
  ·rw [Ze1] at hi
   rw [Zok _ _ _ _ hd] at hv
   by_cases he : i = d
   ·rw [if_pos he] at hi hv
    injection hi with hi1 hi2
    injection hi1 with hi1
    injection hi1 with hi1 hi3
    exact .inr ⟨hi1.symm, hi3.symm, hi2.symm, hv⟩
   ·rw [if_neg he] at hi hv; exact .inl (.inl ⟨i, hi, hv⟩)
  ·exact .inl (.inr ⟨n, cs, j, hb', hj, hv⟩)
 have ap2 : ∀ {u u' : Value}, (∀ b, u.ownBlock = some b → u'.ownBlock ≠ some b) → u.ownBlock = none ∨ u.ownBlock ≠ u'.ownBlock := fun {u u'} hh => by
  cases hu : u.ownBlock with
  | none => exact .inl rfl
  | some b => exact .inr fun he => hh b hu he.symm
 exact { hp with
  tmp := fun j => by
   rw [Ze1, Zok _ _ _ _ hd]
   split
   ·exact .e _ _ hr
   ·exact h.tmp j
  own := fun t k' e' u hh => by
   rcases hheld hh with h1 | ⟨rfl, rfl, rfl, rfl⟩
   ·exact h.own _ _ _ _ h1
   ·exact ho
  apart := fun t k1 e1 u t' k2 e2 u' hh hh' hne => by
   rcases hheld hh with h1 | ⟨rfl, rfl, rfl, rfl⟩
   ·rcases hheld hh' with h2 | ⟨rfl, rfl, rfl, rfl⟩
    ·exact h.apart _ _ _ _ _ _ _ _ h1 h2 hne
    ·exact ap2 fun b hb1 => hap _ _ _ _ h1 b hb1
   ·rcases hheld hh' with h2 | ⟨rfl, rfl, rfl, rfl⟩
    ·exact ap2 fun b hb1 hb2 => hap _ _ _ _ h2 b hb2 hb1
    ·exact absurd rfl hne
  ownbox := fun t k1 e1 u n cs hh hn hq => by
   rcases hheld hh with h1 | ⟨rfl, rfl, rfl, rfl⟩
   ·exact h.ownbox _ _ _ _ n cs h1 hn hq
   ·exact hbx n cs hn hq }
theorem ZyP {w' : World} {St' : ZaA} (M1 : Nat → Prop) (hG : Zlh P w St) (hlt : ∀ b o, St' b o → b < w'.heap.size) (hos : w'.os = w.os) (htape : w'.tape = w.tape) (hout : w'.output = w.output) (hsz : w.heap.size ≤ w'.heap.size)
  (hb : ∀ b, b < w.heap.size → ¬ M1 b → w'.heap[b]? = w.heap[b]?) (hl : Zg8 w w' St St') (hdn : ∀ b o, St' b o → b < w.heap.size → St b o ∨ M1 b) : ZQ P w M1 St ⟨[], []⟩ #[] w' St' ρ where
 glob := hG
 os := hos
 tape := htape
 output := hout
 size := hsz
 old := hb
 stay := hl.2
 up := hl.1
 dn := hdn
 lt := hlt
 tmp i := trivial
 nm n cs h := by cases h
 box n cs h := by cases h
 inj n m cs ds h := by cases h
 own t k e v h := by rcases h with ⟨i, hi, _⟩ | ⟨n, cs, j, hb, _⟩; cases hi; cases hb
 apart t k e v t' k' e' v' h := by rcases h with ⟨i, hi, _⟩ | ⟨n, cs, j, hb, _⟩; cases hi; cases hb
 ownbox t k e v n cs h hn := by cases hn
theorem ZCb {w : World} {St : ZaA} {g n cap size : Nat} {cur : Array Value} {k : TypeId} {fr : Nat × Nat} {rows : List (List E)} (hg : w.heap[g]? = some (.cells cur k fr)) (hn : rows.length = n) (hc : n ≤ cap) (hm : cap ≤ maxLen)
  (hrow : ∀ (i : Nat) (row : List E), rows[i]? = some row → row.length = size) (hst : ∀ o, o < n * size → St g o)
  (hr : ∀ (i j : Nat) (row : List E) (e : E), rows[i]? = some row → row[j]? = some e → ∃ u, cur[i * size + j]? = some u ∧ Zdo w St e u) : Zdo w St (.sl rows) (.slice (some ⟨g, 0, none⟩) n cap) := by
 refine .sl rows _ n cap size g 0 (fun i j => cur.getD (i * size + j) undef) hn hc hm (fun _ => rfl) hrow (fun i j row e hi hj => ?_) (fun i j row e hi hj => ?_)
 ·obtain ⟨u, hu, _⟩ := hr i j row e hi hj
  have hlt : i < n := by
   rcases Nat.lt_or_ge i rows.length with h' | h'
   ·omega
   ·simp [List.getElem?_eq_none h'] at hi
  have hjl : j < size := by
   rw [← hrow i row hi]
   rcases Nat.lt_or_ge j row.length with h' | h'
   ·exact h'
   ·simp [List.getElem?_eq_none h'] at hj
  refine ⟨hst _ ?_, ?_⟩
  ·have : (i + 1) * size ≤ n * size := Nat.mul_le_mul_right _ hlt
   rw [Nat.add_mul] at this; omega
  ·simp only [World.cell?, hg, Option.isSome_none, Bool.false_eq_true, if_false, Nat.zero_add, Array.getD_eq_getD_getElem?, hu, Option.getD_some]
 ·obtain ⟨u, hu, hru⟩ := hr i j row e hi hj
  simp only [Array.getD_eq_getD_getElem?, hu, Option.getD_some]
  exact hru
theorem ZxO {w : World} {St : ZaA} {rows : List (List E)} {A : Option Addr} {n c size : Nat} (h : Zdo w St (.sl rows) (.slice A n c)) (hrow : ∀ row ∈ rows, row.length = size) (hs : 0 < size) (h0 : 0 < n) :
  ∃ b o, A = some ⟨b, o, none⟩ ∧ ∃ news : List Value, news.length = n * size ∧ (∀ (j : Nat) (u : Value), news[j]? = some u → w.cell? ((⟨b, o, none⟩ : Addr).add j) = some u) ∧ (∀ u ∈ news, u.oneCell' = true) ∧
   ∀ (i k : Nat) (row : List E) (e : E), rows[i]? = some row → row[k]? = some e → ∃ u, news[i * size + k]? = some u ∧ Zdo w St e u := by
 cases h with
 | sl _ _ _ _ sz b o ZcM hn hc hm hA hs' hv hr =>
  have hsz : sz = size := by
   have h1 : rows[0]? = some rows[0] := by simp
   rw [← hs' 0 _ h1]; exact hrow _ (by simp)
  subst hsz
  have key : ∀ j, j < n * sz → ∃ row e, rows[j / sz]? = some row ∧ row[j % sz]? = some e := fun j hj => by
   have hi : j / sz < rows.length := by rw [hn]; exact (Nat.div_lt_iff_lt_mul hs).2 hj
   have hl := hs' (j / sz) rows[j / sz] (by simp [hi])
   exact ⟨rows[j / sz], rows[j / sz][j % sz]'(by rw [hl]; exact Nat.mod_lt _ hs), by simp [hi], by simp [hl, Nat.mod_lt _ hs]⟩
  refine ⟨b, o, hA h0, (List.range (n * sz)).map fun j => ZcM (j / sz) (j % sz), by simp, fun j u hj => ?_, fun u hu => ?_, fun i k row e hi hk => ?_⟩
  ·rw [List.getElem?_map] at hj
   have hlt : j < n * sz := by
    rcases Nat.lt_or_ge j (n * sz) with h' | h'
    ·exact h'
    ·rw [List.getElem?_eq_none (by simpa using h')] at hj; cases hj
   rw [List.getElem?_range hlt] at hj
   simp only [Option.map_some, Option.some.injEq] at hj
   subst hj
   obtain ⟨row, e, h1, h2⟩ := key j hlt
   have := (hv _ _ row e h1 h2).2
   rw [ZfD]
   rw [show o + j / sz * sz + j % sz = o + j by rw [Nat.add_assoc, Nat.div_add_mod']] at this
   exact this
  ·obtain ⟨j, hj, rfl⟩ := List.mem_map.1 hu
   obtain ⟨row, e, h1, h2⟩ := key j (List.mem_range.1 hj)
   exact (hr _ _ row e h1 h2).oneCell
  ·have hi' : i < n := by
    rcases Nat.lt_or_ge i rows.length with h' | h'
    ·omega
    ·simp [List.getElem?_eq_none h'] at hi
   have hk' : k < sz := by
    rw [← hs' i row hi]
    rcases Nat.lt_or_ge k row.length with h' | h'
    ·exact h'
    ·simp [List.getElem?_eq_none h'] at hk
   have hlt : i * sz + k < n * sz := by
    have : (i + 1) * sz ≤ n * sz := Nat.mul_le_mul_right _ hi'
    rw [Nat.add_mul] at this; omega
   refine ⟨ZcM i k, ?_, hr i k row e hi hk⟩
   rw [List.getElem?_map, List.getElem?_range hlt]
   simp only [Option.map_some]
   rw [Nat.mul_comm i sz, Nat.mul_add_div hs, Nat.div_eq_of_lt hk', Nat.mul_add_mod, Nat.mod_eq_of_lt hk', Nat.add_zero]
variable {L : Tab} (hL : TOk P L) {nt : Nat} {ρ0 : Nat → Nat} {df : List Deferred} {S : AS} {a : Act}
theorem ZmP {w w' : World} {St : ZaA} {ρ : Nat → Nat} {d k size g cap : Nat} {cur : Array Value} {rows : List (List E)} (M1 : Nat → Prop) (h : ZQ P w0 M0 S0 F tm w St ρ) (hd : d < tm.size)
  (hno : ∀ k' e' v', ¬ Zcm F tm w ρ d k' e' v') (hg : w'.heap[g]? = some (.cells cur k (0, 0))) (hsize : P.cellsOf k = size) (hcap : rows.length ≤ cap) (hm : cap ≤ maxLen) (hcs : cur.size = cap * size)
  (hrow : ∀ (i : Nat) (row : List E), rows[i]? = some row → row.length = size) (hM1 : ∀ b, M1 b → b = g ∧ b < w.heap.size ∧ (w0.heap.size ≤ b ∨ M0 b)) (hgM : w.heap.size ≤ g ∨ M1 g)
  (hos : w'.os = w.os) (htape : w'.tape = w.tape) (hout : w'.output = w.output) (hsz : w.heap.size ≤ w'.heap.size) (hb : ∀ b, b < w.heap.size → ¬ M1 b → w'.heap[b]? = w.heap[b]?)
  (hstay : ∀ o, St g o → o < rows.length * size ∧ w'.cell? ⟨g, o, none⟩ = w.cell? ⟨g, o, none⟩) (hheld : ∀ t k e v, Zcm F tm w ρ t k e v → v.ownBlock ≠ some g) (hbox : ∀ m cs, F.box m = some cs → 0 < ρ (CAP + m) → ρ m ≠ g)
  (hr : ∀ (i j : Nat) (row : List E) (e : E), rows[i]? = some row → row[j]? = some e → ∃ u, cur[i * size + j]? = some u ∧ Zdo w St e u) :
  ∃ St', ZQ P w0 M0 S0 (F.put d (.c (some (d, k)) (.sl rows))) (tm.setIfInBounds d (.slice (some ⟨g, 0, none⟩) rows.length cap)) w' St' ρ := by
 let St' : ZaA := fun b o => St b o ∨ (b = g ∧ o < rows.length * size)
 have hl : Zg8 w w' St St' := ⟨fun _ _ hs => .inl hs, fun b o hs => by
  by_cases he : b = g
  ·subst he; exact (hstay o hs).2
  ·have hlt := h.lt b o hs
   exact World.cell?_of_block (a := ⟨b, o, none⟩) (hb b hlt (fun hm => he (hM1 b hm).1))⟩
 have c : ZQ P w M1 St ⟨[], []⟩ #[] w' St' ρ := ZyP M1 (h.glob.later h.up h.stay) (fun b o hs => by
   rcases hs with hs | ⟨rfl, _⟩
   ·exact Nat.lt_of_lt_of_le (h.lt b o hs) hsz
   ·exact Zhd hg) hos htape hout hsz hb hl (fun b o hs hlt => by
   rcases hs with hs | ⟨rfl, _⟩
   ·exact .inl hs
   ·rcases hgM with h1 | h1
    ·omega
    ·exact .inr h1)
 have hF := h.frame c (fun b hm => (hM1 b hm).2) (fun t k e v hh b hb1 hm => hheld t k e v hh (by rw [hb1, (hM1 b hm).1])) (fun m cs hm1 hp hm2 => hbox m cs hm1 hp (hM1 _ hm2).1)
 have hback : ∀ {t k : Nat} {e : E} {v : Value}, Zcm F tm w' ρ t k e v → Zcm F tm w ρ t k e v := fun hh => Zjq (fun m cs j t k e hm hj =>
  hb _ (h.blk hm (h.tokp hm hj)).1 (fun hm1 => hbox m cs hm (h.tokp hm hj) (hM1 _ hm1).1)) hh
 have hrep : Zdo w' St' (.sl rows) (.slice (some ⟨g, 0, none⟩) rows.length cap) :=
  ZCb hg rfl hcap hm hrow (fun o ho => .inr ⟨rfl, ho⟩) (fun i j row e hi hj => let ⟨u, hu, hru⟩ := hr i j row e hi hj; ⟨u, hu, hru.later hl⟩)
 refine ⟨St', hF.putOwn hd hrep (.inr ⟨g, cap, cur, rows, rfl, rfl, ?_, hg, hcap, hm, by rw [hcs, hsize], fun o hs => ?_⟩) (fun k' e' v' hh => hno k' e' v' (hback hh)) (fun t k' e' v' hh b hb1 hb2 => ?_) (fun n cs hn hp hb2 => ?_)⟩
 ·rcases hgM with h1 | h1
  ·exact .inl (Nat.le_trans h.size h1)
  ·exact (hM1 g h1).2.2
 ·rw [hsize]
  rcases hs with hs | ⟨_, hs⟩
  ·exact (hstay o hs).1
  ·exact hs
 ·simp only [Value.ownBlock, Option.some.injEq] at hb2
  subst hb2
  exact hheld t k' e' v' (hback hh) hb1
 ·simp only [Value.ownBlock, Option.some.injEq] at hb2
  exact hbox n cs hn hp hb2.symm
end

section
variable {P : Program} [Gl P] {w0 : World} {M0 : Nat → Prop} {S0 : ZaA} {L : Tab} (hL : TOk P L) {nt : Nat} {ρ0 : Nat → Nat} {df : List Deferred} {S : AS} {a : Act} {w : World}
theorem ZA7 {xs : List Value} {n size : Nat} {rows : List (List E)} {w : World} {St : ZaA} {v : Value} (hv : Zdo w St (.sl rows) v) {g cap : Nat} (hvv : v = .slice (some ⟨g, 0, none⟩) rows.length cap) {cur : Array Value} {k : TypeId} {fr : Nat × Nat}
  (hg : w.heap[g]? = some (.cells cur k fr)) (hrow : ∀ row ∈ rows, row.length = size) :
  ∀ (i j : Nat) (row : List E) (e : E), rows[i]? = some row → row[j]? = some e → ∃ u, cur[i * size + j]? = some u ∧ Zdo w St e u := by
 intro i j row e hi hj
 subst hvv
 cases hv with
 | sl _ _ _ _ sz b o ZcM hn hc hm hA hs hvs hr =>
  have hlen : 0 < rows.length := by
   rcases Nat.lt_or_ge i rows.length with h' | h'
   ·omega
   ·simp [List.getElem?_eq_none h'] at hi
  have hb := hA hlen
  injection hb with hb
  injection hb with hb1 hb2
  subst hb1 hb2
  have h1 := (hvs i j row e hi hj).2
  have hsz : sz = size := by rw [← hs i row hi]; exact hrow row (List.mem_of_getElem? hi)
  subst hsz
  simp only [World.cell?, hg, Option.isSome_none, Bool.false_eq_true, if_false, Nat.zero_add] at h1
  exact ⟨_, h1, hr i j row e hi hj⟩
include hL in
theorem ZuX (h : Zcv P nt df w0 M0 S0 ρ0 S a w) {o : Oper} {t : Nat} {s x : Operand} (ho : o.op = .call { callee := .builtin .append, args := #[s, x], argTypes := #[t, t] }) {K : AS → Prop}
  (hk : Zs1 L nt S o.dst t (S.ev s) (S.ev x) K) {next : Act → World → Prop} {Q : Exit → Act → World → Prop} (hn : ∀ S' a' w', K S' → Zcv P nt df w0 M0 S0 ρ0 S' a' w' → next a' w') : o.wp P a w next Q := by
 obtain ⟨hdef, hsize, St, ρ, h3, h4⟩ := h
 unfold Zs1 at hk
 split at hk
 case h_2 => exact hk.elim
 rename_i dst tyk sd d e tk es hdst hty hse
 split at hk
 case h_2 => exact hk.elim
 rename_i rows new hes hnew htk
 obtain ⟨hd, hsz0, hz, hrow, hnrow, hmax, hby, hK⟩ := hk
 have hd : d < nt := hd
 obtain ⟨dd, ti, ht⟩ := hL.ty (t := t) (.inl (ZaD hty (by simp)))
 obtain rfl := ZeP (ht.k.symm.trans hty)
 obtain ⟨d2, ti2, ht2⟩ := hL.ty (t := e) (.inr (by omega))
 obtain ⟨z, hz1, hz2⟩ := Option.map_eq_some_iff.1 hz
 obtain ⟨u, hu, _, rfl⟩ := ht2.zero z hz1
 have hzs : u.cells.size = (L.ti e).size := by simpa using hz2
 have hcells : P.cellsOf e = (L.ti e).size := by unfold Program.cellsOf; rw [ht2.info]; exact ht2.size.symm
 have hs := ZbL h3 s
 rw [hse] at hs
 have hs : Zdo w St es (a.eval s) := Zca.plain hs (by cases es <;> first | rfl | (simp [E.rows] at hes))
 have hxr := ZbL h3 x
 have hrun : ∀ {v' w'}, (Builtin.append_ #[t, t] o.type #[a.eval s, a.eval x]).run P w = .ok v' w' → (execOp a.eval o).run P w = .ok (.value v') w' := fun {v' w'} hr => by
  simp only [execOp, ho, resolve, invoke, builtin, Sem.run_bind, Sem.run_pure, Result.andThen_ok, List.map_toArray, List.map_cons, List.map_nil, hr]
 have hF0 : Zix S (S.stripT tk) := by
  unfold AS.stripT
  split
  ·exact Zix.strip S _
  ·exact Zix.refl S
 have hF1 : ZQ P w0 M0 S0 ((S.stripT tk).strip d) a.tmps w St ρ := (h3.less hF0).less (Zix.strip _ d)
 have hno : ∀ k' e' v', ¬ Zcm ((S.stripT tk).strip d) a.tmps w ρ d k' e' v' := fun k' e' v' hh => ZkC hh rfl
 have hold : (a.eval s = .slice none 0 0 ∧ rows = []) ∨ ∃ g cap cur, a.eval s = .slice (some ⟨g, 0, none⟩) rows.length cap ∧ es = .sl rows ∧ (w0.heap.size ≤ g ∨ M0 g) ∧ w.heap[g]? = some (.cells cur e (0, 0)) ∧
   rows.length ≤ cap ∧ cap ≤ maxLen ∧ cur.size = cap * (L.ti e).size ∧ (∀ o, St g o → o < rows.length * (L.ti e).size) ∧
   (∀ t k e v, Zcm ((S.stripT tk).strip d) a.tmps w ρ t k e v → v.ownBlock ≠ some g) ∧ (∀ m cs, ((S.stripT tk).strip d).box m = some cs → 0 < ρ (CAP + m) → ρ m ≠ g) := by
  cases es with
  | nils =>
   simp only [E.rows, Option.some.injEq] at hes
   subst hes
   generalize a.eval s = y at hs
   cases hs
   exact .inl ⟨rfl, rfl⟩
  | sl rows' =>
   simp only [E.rows, Option.some.injEq] at hes
   subst hes
   cases tk with
   | none => simp at htk
   | some qk =>
    obtain ⟨q, k⟩ := qk
    simp only [beq_iff_eq] at htk
    subst htk
    have hheld := ZpZ (w := w) (ρ := ρ) (a := a) s hse
    rcases h3.own q k _ _ hheld with ⟨h5, h6⟩ | ⟨g, cap, cur, rows2, h5, h6, h7, h8, h9, h10, h11, h12⟩
    ·refine .inl ⟨h5, ?_⟩
     rcases h6 with h6 | h6
     ·cases h6
     ·injection h6
    ·injection h5 with h5
     subst h5
     refine .inr ⟨g, cap, cur, h6, rfl, h7, h8, h9, h10, by rw [h11, hcells], fun o hs => by rw [← hcells]; exact h12 o hs, fun t k e v hh hb => ?_, fun m cs hm hp he => ?_⟩
     ·have h13 : Zcm (S.stripT (some (q, k))) a.tmps w ρ t k e v := hh.less (Zix.strip (S.stripT (some (q, k))) d)
      have hne : t ≠ q := ZkC h13
      have h14 : Zcm S a.tmps w ρ t k e v := h13.less hF0
      have := h3.apart _ _ _ _ _ _ _ _ hheld h14 (fun e => hne e.symm)
      rw [h6, hb] at this
      simp [Value.ownBlock] at this
     ·obtain ⟨ds0, hds0, _⟩ := (Zix.strip (S.stripT (some (q, k))) d).box m cs hm
      obtain ⟨ds, hds, _⟩ := hF0.box m ds0 hds0
      have := h3.ownbox _ _ _ _ m ds hheld hds hp
      rw [h6] at this
      exact this (by simp [Value.ownBlock, he])
  | _ => simp [E.rows] at hes
 by_cases hm0 : new = []
 ·
  subst hm0
  have hx0 : ∃ A c, a.eval x = .slice A 0 c := by
   obtain ⟨A, m, c, hx, hm, _⟩ := ZnJ hxr hnew
   exact ⟨A, c, by rw [hx]; simp at hm; rw [← hm]⟩
  obtain ⟨A, c, hx⟩ := hx0
  have hr0 : (Builtin.append_ #[t, t] o.type #[a.eval s, a.eval x]).run P w = .ok (a.eval s) w := by
   rcases hold with ⟨hsv, _⟩ | ⟨g, cap, cur, hsv, _, _, hg, hc, _⟩
   ·rw [hsv, hx]
    cases A <;> simp [Builtin.append_, run_underlying ht.und, ZbX ht2, Builtin.lenOf, Builtin.firstCells, loadCells, loadCellsFrom]
   ·rw [hsv, hx]
    cases A <;> simp [Builtin.append_, run_underlying ht.und, ZbX ht2, Builtin.lenOf, Builtin.firstCells, loadCells, loadCellsFrom, hc, storeCells]
  unfold Oper.wp
  rw [hrun hr0, Oper.upon_value, hdst]
  refine hn _ _ _ hK ⟨hdef, by rw [ZeQ]; exact hsize, St, ρ, ?_, h4⟩
  rw [List.append_nil]
  refine hF1.putOwn (by rw [hsize]; exact hd) ?_ ?_ hno ?_ ?_
  ·rcases hold with ⟨hsv, hr⟩ | ⟨g, cap, cur, hsv, he, _⟩
   ·rw [hsv, hr]; exact .sl [] none 0 0 0 0 0 (fun _ _ => undef) rfl (Nat.le_refl _) (by unfold maxLen; omega) (fun h => absurd h (by omega)) (fun i row h => by simp at h) (fun i k row e h => by simp at h) (fun i k row e h => by simp at h)
   ·rw [← he]; exact hs
  ·rcases hold with ⟨hsv, hr⟩ | ⟨g, cap, cur, hsv, he, h5, h6, h7, h8, h9, h10, _⟩
   ·exact .inl ⟨hsv, .inr (by rw [hr])⟩
   ·exact .inr ⟨g, cap, cur, rows, rfl, hsv, h5, h6, h7, h8, by rw [h9, hcells], fun o hs => by rw [hcells]; exact h10 o hs⟩
  ·intro t' k' e' v' hh b hb1 hb2
   rcases hold with ⟨hsv, hr⟩ | ⟨g, cap, cur, hsv, _, _, _, _, _, _, _, h11, _⟩
   ·rw [hsv] at hb2; cases hb2
   ·rw [hsv] at hb2; injection hb2 with hb2; exact h11 _ _ _ _ hh (by rw [hb1, ← hb2])
  ·intro m cs hm hp hb2
   rcases hold with ⟨hsv, hr⟩ | ⟨g, cap, cur, hsv, _, _, _, _, _, _, _, _, h12⟩
   ·rw [hsv] at hb2; cases hb2
   ·rw [hsv] at hb2; injection hb2 with hb2; exact h12 m cs hm hp hb2.symm
 ·have hm1 : 0 < new.length := List.length_pos_iff.2 hm0
  have hnewrep : Zdo w St (.sl new) (a.eval x) := by
   cases hx : S.ev x with
   | c tk' e' =>
    rw [hx] at hnew hxr
    cases e' with
    | sl r => simp only [D.rows?, Option.some.injEq] at hnew; subst hnew; exact Zca.plain hxr rfl
    | nils => simp only [D.rows?, Option.some.injEq] at hnew; exact absurd hnew.symm hm0
    | _ => simp [D.rows?] at hnew
   | _ => rw [hx] at hnew; simp [D.rows?] at hnew
  obtain ⟨A, c, hx⟩ : ∃ A c, a.eval x = .slice A new.length c := by
   obtain ⟨A, m, c, hx, hm, _⟩ := ZnJ hxr hnew
   exact ⟨A, c, by rw [hx, hm]⟩
  rw [hx] at hnewrep
  obtain ⟨b, oo, rfl, news, hnl, hnc, hn1, hnr⟩ := ZxO hnewrep hnrow hsz0 hm1
  have hby' : (rows.length + new.length) * ti2.bytes ≤ 140737488355328 := by rw [← ht2.bytes]; exact hby
  have hsz2 : ti2.size = (L.ti e).size := ht2.size.symm
  have hlenrow : ∀ (i : Nat) (row : List E), (rows ++ new)[i]? = some row → row.length = (L.ti e).size := fun i row hi => by
   rcases List.mem_append.1 (List.mem_of_getElem? hi) with h' | h'
   ·exact hrow row h'
   ·exact hnrow row h'
  have hcell0 : ∀ {g : Nat} {cur : Array Value} {k : TypeId} {fr : Nat × Nat} (w2 : World), w2.heap[g]? = some (.cells cur k fr) → ∀ o, w2.cell? ⟨g, o, none⟩ = cur[o]? := fun w2 hg o => by simp [World.cell?, hg]
  have fin : ∀ (cap' : Nat) (olds : List Value), olds.length = rows.length * (L.ti e).size → rows.length + new.length ≤ cap' → cap' ≤ maxLen →
    (∀ (i j : Nat) (row : List E) (e' : E), rows[i]? = some row → row[j]? = some e' → ∃ u, olds[i * (L.ti e).size + j]? = some u ∧ Zdo w St e' u) →
    (Builtin.append_ #[t, t] o.type #[a.eval s, a.eval x]).run P w = .ok (.slice (some ⟨w.heap.size, 0, none⟩) (rows.length + new.length) cap')
     (w.drew.alloc (.cells (olds.toArray ++ news.toArray ++ Builtin.zeroCells u.cells (cap' - (rows.length + new.length))) e)) → o.wp P a w next Q := by
   intro cap' olds hol hcap' hcm holds hr
   unfold Oper.wp
   rw [hrun hr, Oper.upon_value, hdst]
   have hg : (w.drew.alloc (.cells (olds.toArray ++ news.toArray ++ Builtin.zeroCells u.cells (cap' - (rows.length + new.length))) e)).heap[w.heap.size]? =
     some (.cells (olds.toArray ++ news.toArray ++ Builtin.zeroCells u.cells (cap' - (rows.length + new.length))) e (0, 0)) := heap_alloc_new w.drew _
   obtain ⟨St', hfin⟩ := ZmP (rows := rows ++ new) (k := e) (size := (L.ti e).size) (d := d) (fun _ => False) hF1 (by rw [hsize]; exact hd) hno hg hcells (cap := cap') (by rw [List.length_append]; exact hcap') hcm
    (by simp only [Array.size_append, List.size_toArray, size_zeroCells, hzs, hol, hnl, ← Nat.add_mul]; congr 1; omega)
    hlenrow (fun _ hf => hf.elim) (.inl (Nat.le_refl _)) rfl rfl rfl (by simp) (fun b hb _ => heap_alloc_old w.drew _ b hb)
    (fun o' ho' => absurd (h3.lt _ _ ho') (by omega)) (fun t k e v hh hb => by have := (Zog (hF1.own t k e v hh) _ hb).1; omega)
    (fun m cs hm hp he => by
     have := (hF1.blk hm hp).1; omega)
    (fun i j row e' hi hj => by
     by_cases hlt : i < rows.length
     ·rw [List.getElem?_append_left hlt] at hi
      obtain ⟨y, hy, hyr⟩ := holds i j row e' hi hj
      refine ⟨y, ?_, hyr⟩
      have hylt : i * (L.ti e).size + j < olds.length := by
       rcases Nat.lt_or_ge (i * (L.ti e).size + j) olds.length with h' | h'
       ·exact h'
       ·simp [List.getElem?_eq_none h'] at hy
      rw [Array.append_assoc, Array.getElem?_append_left (by simpa using hylt)]
      simpa using hy
     ·rw [List.getElem?_append_right (by omega)] at hi
      obtain ⟨y, hy, hyr⟩ := hnr _ j row e' hi hj
      refine ⟨y, ?_, hyr⟩
      have hylt : (i - rows.length) * (L.ti e).size + j < news.length := by
       rcases Nat.lt_or_ge ((i - rows.length) * (L.ti e).size + j) news.length with h' | h'
       ·exact h'
       ·simp [List.getElem?_eq_none h'] at hy
      have hidx : i * (L.ti e).size + j = olds.length + ((i - rows.length) * (L.ti e).size + j) := by
       rw [hol, ← Nat.add_assoc, ← Nat.add_mul]; congr 2; omega
      rw [Array.append_assoc, Array.getElem?_append_right (by simp; omega), Array.getElem?_append_left (by simp; omega)]
      simp only [List.size_toArray, hidx, Nat.add_sub_cancel_left]
      simpa using hy)
   rw [List.length_append] at hfin
   exact hn _ _ _ hK ⟨hdef, by rw [ZeQ]; exact hsize, St', ρ, hfin, h4⟩
  rcases hold with ⟨hsv, hr⟩ | ⟨g, cap, cur, hsv, he, h5, h6, h7, h8, h9, h10, h11, h12⟩
  ·subst hr
   have hr1 := run_append_nil (P := P) w t o.type e ti2 u ht.und ht2.info hu ⟨b, oo, none⟩ new.length c news (by rw [hsz2]; exact hnl) hnc hm1 (by simp only [maxLen] at hmax; simp at hmax; omega) (by simp at hby'; omega)
   refine fin (grownCap w new.length 0 e) [] (by simp) (by simp; exact grownCap_ge w _ _ _) (grownCap_le_maxLen w _ _ _ (by simpa using hmax)) (fun i j row e' hi => by simp at hi) ?_
   rw [hsv, hx]
   simpa using hr1
  ·have holds := ZA7 (xs := []) (n := 0) (size := (L.ti e).size) (he ▸ hs) hsv h6 hrow
   have hcle : rows.length * (L.ti e).size ≤ cur.size := by rw [h9]; exact Nat.mul_le_mul_right _ h7
   by_cases hroom : rows.length + new.length ≤ cap
   ·have hfit : rows.length * (L.ti e).size + news.length ≤ cur.size := by rw [hnl, h9, ← Nat.add_mul]; exact Nat.mul_le_mul_right _ hroom
    have hr1 := run_append_room (P := P) w t o.type e ti2 ht.und ht2.info g rows.length cap cur h6 ⟨b, oo, none⟩ new.length c news (by rw [hsz2]; exact hnl) hnc hn1 hroom (by rw [hsz2]; exact hfit)
    rw [hsz2] at hr1
    have hr2 := hr1
    rw [← hsv, ← hx] at hr2
    unfold Oper.wp
    rw [hrun hr2, Oper.upon_value, hdst]
    have hg := setRow_heap w g cur (cur.toList.take (rows.length * (L.ti e).size) ++ news ++ cur.toList.drop (rows.length * (L.ti e).size + news.length)).toArray e (0, 0) h6
    have hget : ∀ k, (cur.toList.take (rows.length * (L.ti e).size) ++ news ++ cur.toList.drop (rows.length * (L.ti e).size + news.length)).toArray[k]? =
      if rows.length * (L.ti e).size ≤ k ∧ k < rows.length * (L.ti e).size + news.length then news[k - rows.length * (L.ti e).size]? else cur[k]? := fun k => by
     have := Zjf cur.toList news (rows.length * (L.ti e).size) k (by have e : cur.toList.length = cur.size := Array.length_toList; omega)
     rw [List.getElem?_toArray, this]; simp only [Array.getElem?_toList]
    obtain ⟨St', hfin⟩ := ZmP (rows := rows ++ new) (k := e) (size := (L.ti e).size) (d := d) (fun b => b = g) hF1 (by rw [hsize]; exact hd) hno hg hcells (cap := cap) (by rw [List.length_append]; exact hroom) h8
     (by rw [List.size_toArray]; simp only [List.length_append, List.length_take, List.length_drop]; have e : cur.toList.length = cur.size := Array.length_toList; omega)
     hlenrow (fun b hb => ⟨hb, by rw [hb]; exact Zhd h6, by rw [hb]; exact h5⟩) (.inr rfl) rfl rfl rfl (by simp) (fun b hb hne => setRow_other w g b _ hne)
     (fun o' ho' => by
      have hlt := h10 o' ho'
      refine ⟨by rw [List.length_append, Nat.add_mul]; omega, ?_⟩
      rw [hcell0 _ hg, hcell0 _ h6, hget, if_neg (by omega)])
     h11 h12
     (fun i j row e' hi hj => by
      have hjl : j < (L.ti e).size := by
       rw [← hlenrow i row hi]
       rcases Nat.lt_or_ge j row.length with h' | h'
       ·exact h'
       ·simp [List.getElem?_eq_none h'] at hj
      by_cases hlt : i < rows.length
      ·rw [List.getElem?_append_left hlt] at hi
       obtain ⟨y, hy, hyr⟩ := holds i j row e' hi hj
       refine ⟨y, ?_, hyr⟩
       have h13 : (i + 1) * (L.ti e).size ≤ rows.length * (L.ti e).size := Nat.mul_le_mul_right _ hlt
       rw [Nat.add_mul] at h13
       rw [hget, if_neg (by omega)]
       exact hy
      ·rw [List.getElem?_append_right (by omega)] at hi
       obtain ⟨y, hy, hyr⟩ := hnr _ j row e' hi hj
       refine ⟨y, ?_, hyr⟩
       have hylt : (i - rows.length) * (L.ti e).size + j < news.length := by
        rcases Nat.lt_or_ge ((i - rows.length) * (L.ti e).size + j) news.length with h' | h'
        ·exact h'
        ·simp [List.getElem?_eq_none h'] at hy
       have hidx : i * (L.ti e).size + j = rows.length * (L.ti e).size + ((i - rows.length) * (L.ti e).size + j) := by
        rw [← Nat.add_assoc, ← Nat.add_mul]; congr 2; omega
       rw [hget, if_pos (by omega), hidx, Nat.add_sub_cancel_left]
       exact hy)
    rw [List.length_append] at hfin
    exact hn _ _ _ hK ⟨hdef, by rw [ZeQ]; exact hsize, St', ρ, hfin, h4⟩
   ·have hol : (cur.toList.take (rows.length * (L.ti e).size)).length = rows.length * (L.ti e).size := by
     rw [List.length_take]; have e : cur.toList.length = cur.size := Array.length_toList; omega
    have hr1 := run_append_grow (P := P) w t o.type e ti2 u ht.und ht2.info hu ⟨g, 0, none⟩ rows.length cap (cur.toList.take (rows.length * (L.ti e).size)) (by rw [hsz2]; exact hol)
     (fun j v hj => by
      rw [ZfD, Nat.zero_add, hcell0 _ h6, ← Array.getElem?_toList]
      rw [List.getElem?_take] at hj
      split at hj
      ·exact hj
      ·cases hj)
     ⟨b, oo, none⟩ new.length c news (by rw [hsz2]; exact hnl) hnc (by omega) (by simp only [maxLen] at hmax; omega) (growslice_fits (by omega) hby')
    refine fin (grownCap w (rows.length + new.length) cap e) _ hol (grownCap_ge w _ _ _) (grownCap_le_maxLen w _ _ _ hmax) (fun i j row e' hi hj => ?_) ?_
    ·obtain ⟨y, hy, hyr⟩ := holds i j row e' hi hj
     refine ⟨y, ?_, hyr⟩
     have hjl : j < (L.ti e).size := by
      rw [← hrow row (List.mem_of_getElem? hi)]
      rcases Nat.lt_or_ge j row.length with h' | h'
      ·exact h'
      ·simp [List.getElem?_eq_none h'] at hj
     have hlt : i < rows.length := by
      rcases Nat.lt_or_ge i rows.length with h' | h'
      ·exact h'
      ·simp [List.getElem?_eq_none h'] at hi
     have h13 : (i + 1) * (L.ti e).size ≤ rows.length * (L.ti e).size := Nat.mul_le_mul_right _ hlt
     rw [Nat.add_mul] at h13
     rw [List.getElem?_take, if_pos (by omega), Array.getElem?_toList]
     exact hy
    ·rw [hsv, hx]; exact hr1
theorem ZBz (S : AS) (i : Nat) (d d' : D) : (S.put i d).put i d' = S.put i d' := by
 have : ∀ l : List (Nat × D), ins i d' (ins i d l) = ins i d' l := by
  intro l
  induction l with
  | nil => simp [ins]
  | cons p l ih => obtain ⟨j, y⟩ := p; simp only [ins]; by_cases e : i = j; · simp [ins, e]
                   · simp [ins, e, ih]
 simp only [AS.put, this]
theorem Zcv.weakP (h : Zcv P nt df w0 M0 S0 ρ0 S a w) {i : Nat} {d d' : D} (hS : S.get i = d) (hd : WD (fun n => n) d d') : Zcv P nt df w0 M0 S0 ρ0 (S.put i d') a w := by
 obtain ⟨h1, h2, St, ρ, h3, h4⟩ := h
 exact ⟨h1, h2, St, ρ, h3.weakP hS hd, h4⟩
theorem Zcv.lessRows {i : Nat} {tk : Option (Nat × Nat)} {rows rows' : List (List E)} (h : Zcv P nt df w0 M0 S0 ρ0 (S.put i (.c tk (.sl rows))) a w) (hw : WE (.sl rows) (.sl rows')) : Zcv P nt df w0 M0 S0 ρ0 (S.put i (.c tk (.sl rows'))) a w := by
 have := h.weakP (i := i) (d := .c tk (.sl rows)) (d' := .c tk (.sl rows')) (by rw [Ze1, if_pos rfl]) ⟨by cases tk with | none => exact trivial | some q => exact ⟨rfl, rfl⟩, .inl hw⟩
 rwa [ZBz] at this
include hL in
theorem ZvG (h : Zcv P nt df w0 M0 S0 ρ0 S a w) {o : Oper} {t : Nat} {s x : Operand} (ho : o.op = .call { callee := .builtin .append, args := #[s, x], argTypes := #[t, t] }) {K : AS → Prop}
  (hk : ZrV L nt S o.dst t (S.ev s) (S.ev x) K) {next : Act → World → Prop} {Q : Exit → Act → World → Prop} (hn : ∀ S' a' w', K S' → Zcv P nt df w0 M0 S0 ρ0 S' a' w' → next a' w') : o.wp P a w next Q := by
 unfold ZrV at hk
 split at hk
 case h_2 => exact hk.elim
 rename_i dst tyk sd d e tk es hdst hty hse
 split at hk
 case h_2 => exact hk.elim
 rename_i rows new hes hnew htk
 obtain ⟨hd, hsz0, hz, hrow, hnrow, hmax, hby, new', hwe, hK⟩ := hk
 refine ZuX hL h ho (K := fun S' => S' = ((S.stripT tk).strip d).put d (.c (some (d, e)) (.sl (rows ++ new)))) ?_ fun S' a' w' hS h' => hn _ _ _ hK ?_
 ·unfold Zs1
  rw [hdst, hty, hse]
  simp only [hes, hnew, htk]
  exact ⟨hd, hsz0, hz, hrow, hnrow, hmax, hby, trivial⟩
 ·subst hS
  exact h'.lessRows (.app (.refl _) hwe)
end

theorem Zx2 (z : List E) : ∀ (n k : Nat), (ZuJ n z)[k]? = if k < n * z.length then z[k % z.length]? else none
 | 0, k => by simp [ZuJ]
 | n + 1, k => by
  have ih := Zx2 z n
  simp only [ZuJ] at ih ⊢
  rw [List.replicate_succ, List.flatten_cons]
  by_cases h : k < z.length
  ·rw [List.getElem?_append_left h, if_pos (by rw [Nat.add_mul]; omega), Nat.mod_eq_of_lt h]
  ·rw [List.getElem?_append_right (by omega), ih]
   by_cases h2 : k < (n + 1) * z.length
   ·rw [if_pos h2, if_pos (by rw [Nat.add_mul] at h2; omega)]
    congr 1
    rw [Nat.mod_eq_sub_mod (a := k) (by omega)]
   ·rw [if_neg h2, if_neg (by rw [Nat.add_mul] at h2; omega)]
theorem ZxX (n : Nat) (z : List E) : (ZuJ n z).length = n * z.length := by simp [ZuJ]
theorem ZtA (S : AS) (place : Nat → Option (Nat × Nat)) : ∀ (parts : List (Nat × Operand)) (cells : List E) (K : List E → Prop), Zhp S place parts cells K → Zhp S place parts cells fun c => c.length = cells.length ∧ K c
 | [], cells, K, h => ⟨rfl, h⟩
 | (i, x) :: rest, cells, K, h => by
  simp only [Zhp] at h ⊢
  split at h
  ·rename_i off size es hp hes
   obtain ⟨h1, h2, h3⟩ := h
   refine ⟨h1, h2, ?_⟩
   have := ZtA S place rest _ K h3
   rwa [show (ZnQ cells off es).length = cells.length by simp [ZnQ]; omega] at this
  ·exact h.elim
theorem Zpn (size : Nat) : ∀ (n : Nat) (cells : List E) (i : Nat), (ZkR size n cells)[i]? = if i < n then some ((cells.drop (i * size)).take size) else none
 | 0, cells, i => by simp [ZkR]
 | n + 1, cells, 0 => by simp [ZkR]
 | n + 1, cells, i + 1 => by
  simp only [ZkR, List.getElem?_cons_succ, Zpn size n]
  simp only [Nat.add_lt_add_iff_right, List.drop_drop]
  rw [show size + i * size = (i + 1) * size by rw [Nat.add_mul]; omega]
theorem Zs7 (size : Nat) : ∀ (n : Nat) (cells : List E), (ZkR size n cells).length = n
 | 0, _ => rfl
 | n + 1, cells => by simp [ZkR, Zs7 size n]
section
variable {P : Program} [Gl P] {w0 : World} {M0 : Nat → Prop} {S0 : ZaA} {L : Tab} (hL : TOk P L) {nt : Nat} {ρ0 : Nat → Nat} {df : List Deferred} {S : AS} {a : Act} {w : World}
include hL in
theorem ZjS (h : Zcv P nt df w0 M0 S0 ρ0 S a w) {o : Oper} {t len : Nat} {parts : Array (Nat × Operand)} (ho : o.op = .buildSlice t len parts) {d e : Nat} {z : List E} (hdst : o.dst = some d) (hty : (L.ti t).k = .slice e)
  (hz : (L.ti e).zero = some z) (hd : d < nt) (hs0 : 0 < (L.ti e).size) (hzl : z.length = (L.ti e).size) (hbig : len * (L.ti e).size ≤ 16777216) {K : List E → Prop}
  (hk : Zhp S (fun i => some (i * (L.ti e).size, (L.ti e).size)) parts.toList (ZuJ len z) fun es => es.all E.flat = true ∧ K es) {next : Act → World → Prop} {Q : Exit → Act → World → Prop}
  (hn : ∀ es a' w', K es → Zcv P nt df w0 M0 S0 ρ0 ((S.strip d).put d (.c (some (d, e)) (.sl (ZkR (L.ti e).size len es)))) a' w' → next a' w') : o.wp P a w next Q := by
 obtain ⟨hdef, hsize, St, ρ, h3, h4⟩ := h
 obtain ⟨dd, ti, ht⟩ := hL.ty (t := t) (.inl (ZaD hty (by simp)))
 obtain rfl := ZeP (ht.k.symm.trans hty)
 obtain ⟨d2, ti2, ht2⟩ := hL.ty (t := e) (.inr (by omega))
 obtain ⟨u, hu, hall, rfl⟩ := ht2.zero z hz
 have hzs : u.cells.size = (L.ti e).size := by simpa using hzl
 have hcells : P.cellsOf e = (L.ti e).size := by unfold Program.cellsOf; rw [ht2.info]; exact ht2.size.symm
 have h0 : ZgT w St (ZuJ len (u.cells.toList.map ZhG)) ((Array.range (len * (L.ti e).size)).map (u.cells[· % u.cells.size]!)).toList := by
  have hc := Zjd w St hall
  refine ⟨by simp [ZxX, hzs], fun k e' hk => ?_⟩
  rw [Zx2] at hk
  split at hk
  ·rename_i hlt
   obtain ⟨y, hy, hyr⟩ := hc.2 _ _ hk
   simp only [List.length_map, Array.length_toList, hzs] at hlt hy
   refine ⟨y, ?_, hyr⟩
   rw [Array.getElem?_toList, Array.getElem?_map, Array.getElem?_range, if_pos hlt]
   simp only [Option.map_some, hzs, Option.some.injEq]
   rw [Array.getElem?_toList] at hy
   rw [Array.getElem!_eq_getD, Array.getD_eq_getD_getElem?, hy]; rfl
  ·cases hk
 obtain ⟨c', cs', ⟨hcl, hfl, hK⟩, hf, hr0⟩ := ZmN h3 _ parts.toList _ _ _ (.of h0) (ZtA S _ _ _ _ hk)
 have hr' := hr0.plain hfl
 rw [ZxX, hzl] at hcl
 have hcs : cs'.size = len * (L.ti e).size := by rw [← hcl]; simpa using hr'.1.symm
 have hparts : (parts.map fun (i, x) => (i, a.eval x)).toList = parts.toList.map fun p => (p.1, a.eval p.2) := by simp
 have hrun : (execOp a.eval o).run P w = .ok (.value (.slice (some ⟨w.heap.size, 0, none⟩) len len)) (w.alloc (.cells cs' e)) := by
  simp only [execOp, ho, Instr.buildSlice, Sem.run_bind, run_underlying ht.und, Result.andThen_ok, ZbX ht2, Sem.run_ite]
  rw [if_neg (by omega)]
  simp only [Sem.run_bind, Sem.run_pure, Result.andThen_ok, Sem.run_ite]
  by_cases hz0 : len * (L.ti e).size = 0
  ·rw [if_pos hz0]
   simp only [Result.andThen_ok, hparts]
   have hcong : (Array.range (len * (L.ti e).size)).map ((#[] : Array Value)[· % (#[] : Array Value).size]!) = (Array.range (len * (L.ti e).size)).map (u.cells[· % u.cells.size]!) := by rw [hz0]; simp
   rw [hcong, hf]
   simp [newRow]
  ·rw [if_neg hz0]
   simp only [zeroValue, typeInfo, Sem.run_bind, run_program, ht2.info, hu, Result.andThen_ok, Sem.run_pure, hparts]
   rw [hf]
   simp [newRow]
 unfold Oper.wp
 rw [hrun, Oper.upon_value, hdst]
 have hF1 : ZQ P w0 M0 S0 (S.strip d) a.tmps w St ρ := h3.less (Zix.strip _ d)
 have hno : ∀ k' e' v', ¬ Zcm (S.strip d) a.tmps w ρ d k' e' v' := fun k' e' v' hh => ZkC hh rfl
 have hg : (w.alloc (.cells cs' e)).heap[w.heap.size]? = some (.cells cs' e (0, 0)) := heap_alloc_new w _
 have hlen := Zs7 (L.ti e).size len c'
 have hlenle : len ≤ maxLen := by
  have : len * 1 ≤ len * (L.ti e).size := Nat.mul_le_mul_left _ hs0
  unfold maxLen; omega
 obtain ⟨St', hfin⟩ := ZmP (rows := ZkR (L.ti e).size len c') (k := e) (size := (L.ti e).size) (d := d) (fun _ => False) hF1 (by rw [hsize]; exact hd) hno hg hcells (cap := len) (by omega) hlenle hcs
  (fun i row hi => by
   rw [Zpn] at hi
   split at hi
   ·rename_i hlt
    injection hi with hi
    subst hi
    have : (i + 1) * (L.ti e).size ≤ len * (L.ti e).size := Nat.mul_le_mul_right _ hlt
    rw [Nat.add_mul] at this
    simp; omega
   ·cases hi)
  (fun _ hf => hf.elim) (.inl (Nat.le_refl _)) rfl rfl rfl (by simp) (fun b hb _ => heap_alloc_old w _ b hb)
  (fun o' ho' => absurd (h3.lt _ _ ho') (by omega)) (fun t k e v hh hb => by have := (Zog (hF1.own t k e v hh) _ hb).1; omega)
  (fun m cs hm hp he => by
   have := (hF1.blk hm hp).1; omega)
  (fun i j row e' hi hj => by
   rw [Zpn] at hi
   split at hi
   ·rename_i hlt
    injection hi with hi
    subst hi
    rw [List.getElem?_take] at hj
    split at hj
    ·rw [List.getElem?_drop] at hj
     obtain ⟨y, hy, hyr⟩ := hr'.2 _ _ hj
     exact ⟨y, by rw [← Array.getElem?_toList]; exact hy, hyr⟩
    ·cases hj
   ·cases hi)
 rw [hlen] at hfin
 exact hn _ _ _ hK ⟨hdef, by rw [ZeQ]; exact hsize, St', ρ, hfin, h4⟩
theorem ZuT (z : Array Value) (n : Nat) : (madeCells z n).size = n := by simp [madeCells]
include hL in
theorem Ztb (h : Zcv P nt df w0 M0 S0 ρ0 S a w) {o : Oper} {t : Nat} {x y : Operand} (ho : o.op = .makeSlice t x y) {d e : Nat} {c : Int} (hdst : o.dst = some d) (hty : (L.ti t).k = .slice e)
  (hz : (L.ti e).zero.map (·.length) = some (L.ti e).size) (hd : d < nt) (hs0 : 0 < (L.ti e).size) (hx : (S.ev x).int? = some 0) (hy : (S.ev y).int? = some c) (h0 : 0 ≤ c) (hm : c ≤ (maxLen : Nat)) (hb : ((L.ti e).bytes : Int) * c ≤ 281474976710656)
  {next : Act → World → Prop} {Q : Exit → Act → World → Prop} (hn : ∀ a' w', Zcv P nt df w0 M0 S0 ρ0 ((S.strip d).put d (.c (some (d, e)) (.sl []))) a' w' → next a' w') : o.wp P a w next Q := by
 obtain ⟨hdef, hsize, St, ρ, h3, h4⟩ := h
 obtain ⟨dd, ti, ht⟩ := hL.ty (t := t) (.inl (ZaD hty (by simp)))
 obtain rfl := ZeP (ht.k.symm.trans hty)
 obtain ⟨d2, ti2, ht2⟩ := hL.ty (t := e) (.inr (by omega))
 obtain ⟨z, hz1, hz2⟩ := Option.map_eq_some_iff.1 hz
 obtain ⟨u, hu, hall, rfl⟩ := ht2.zero z hz1
 have hcells : P.cellsOf e = (L.ti e).size := by unfold Program.cellsOf; rw [ht2.info]; exact ht2.size.symm
 obtain ⟨kx, hxv⟩ := Zm5 (ZbL h3 x) hx
 obtain ⟨ky, hyv⟩ := Zm5 (ZbL h3 y) hy
 have hrun : (execOp a.eval o).run P w = .ok (.value (.slice (some ⟨w.heap.size, 0, none⟩) 0 c.toNat)) (w.alloc (.cells (madeCells u.cells (c.toNat * ti2.size)) e)) := by
  have := run_make w t e ti2 u ht.und ht2.info hu kx ky 0 c (by omega) h0 (by rw [show ti2.bytes = (L.ti e).bytes from ht2.bytes.symm]; exact hb) (by unfold maxLen at hm; omega)
  simp only [execOp, ho, Sem.run_bind, hxv, hyv, this, Result.andThen_ok, Sem.run_pure]; rfl
 unfold Oper.wp
 rw [hrun, Oper.upon_value, hdst]
 have hF1 : ZQ P w0 M0 S0 (S.strip d) a.tmps w St ρ := h3.less (Zix.strip _ d)
 have hno : ∀ k' e' v', ¬ Zcm (S.strip d) a.tmps w ρ d k' e' v' := fun k' e' v' hh => ZkC hh rfl
 have hg : (w.alloc (.cells (madeCells u.cells (c.toNat * ti2.size)) e)).heap[w.heap.size]? = some (.cells (madeCells u.cells (c.toNat * ti2.size)) e (0, 0)) := heap_alloc_new w _
 obtain ⟨St', hfin⟩ := ZmP (rows := []) (k := e) (size := (L.ti e).size) (d := d) (fun _ => False) hF1 (by rw [hsize]; exact hd) hno hg hcells (cap := c.toNat) (by simp) (by omega) (by rw [ZuT, ← ht2.size])
  (fun i row hi => by simp at hi) (fun _ hf => hf.elim) (.inl (Nat.le_refl _)) rfl rfl rfl (by simp) (fun b hb _ => heap_alloc_old w _ b hb)
  (fun o' ho' => absurd (h3.lt _ _ ho') (by omega)) (fun t k e v hh hb => by have := (Zog (hF1.own t k e v hh) _ hb).1; omega)
  (fun m cs hm hp he => by
   have := (hF1.blk hm hp).1; omega)
  (fun i j row e' hi hj => by simp at hi)
 exact hn _ _ ⟨hdef, by rw [ZeQ]; exact hsize, St', ρ, hfin, h4⟩
theorem Zh0 : ∀ (ts : List Nat) (S : AS), Zix S (S.stripAll ts)
 | [], S => Zix.refl S
 | t :: ts, S => by
  have h1 := Zix.strip S t
  have h2 := Zh0 ts (S.strip t)
  refine ⟨fun i => ?_, fun n cs hn => ?_⟩
  ·rcases h2.get i with h | h | ⟨u, e, h, h'⟩
   ·exact .inl h
   ·rcases h1.get i with g | g | ⟨u, e, g, g'⟩
    ·exact .inl (h.trans g)
    ·exact .inr (.inl (h.trans g))
    ·exact .inr (.inr ⟨u, e, g, h.trans g'⟩)
   ·rcases h1.get i with g | g | ⟨u', e', g, g'⟩
    ·rw [g] at h; cases h
    ·exact .inr (.inr ⟨u, e, g ▸ h, h'⟩)
    ·rw [g'] at h; cases h
  ·obtain ⟨ds, hd, hl, hk⟩ := h2.box n cs hn
   obtain ⟨es, he, hl', hk'⟩ := h1.box n ds hd
   refine ⟨es, he, by omega, fun k c hc => ?_⟩
   obtain ⟨d, hd1, hd2, hd3⟩ := hk k c hc
   obtain ⟨d', hd1', hd2', hd3'⟩ := hk' k d hd1
   refine ⟨d', hd1', hd2.trans hd2', ?_⟩
   rcases hd3 with h | h
   ·rcases hd3' with h' | h'
    ·exact .inl (h.trans h')
    ·exact .inr (h.trans h')
   ·exact .inr h
theorem Zpc {tm : Array Value} {ρ : Nat → Nat} : ∀ (ts : List Nat) (S : AS) {t k : Nat} {e : E} {v : Value}, Zcm (S.stripAll ts) tm w ρ t k e v → t ∉ ts
 | [], S, t, k, e, v, h => by simp
 | s :: ts, S, t, k, e, v, h => by
  have h1 := Zpc ts (S.strip s) h
  have h2 : Zcm (S.strip s) tm w ρ t k e v := h.less (Zh0 ts (S.strip s))
  have h3 : t ≠ s := ZkC h2
  simp [h1, h3]
theorem Zq2 : ∀ (ds : List D) (i j : Nat), Z2 (ZdY i ds) j = if j < i then none else ds[j - i]?
 | [], i, j => by simp [ZdY, Z2]
 | d :: ds, i, j => by
  simp only [ZdY, Z2, Zq2 ds (i + 1) j]
  by_cases h : j = i
  ·subst h; simp
  ·rw [if_neg h]
   by_cases h2 : j < i
   ·rw [if_pos (by omega), if_pos h2]
   ·rw [if_neg (by omega), if_neg h2, show j - i = (j - (i + 1)) + 1 by omega, List.getElem?_cons_succ]
theorem ZvQ (ds : List D) (bx : ZbV) (i : Nat) : (⟨ZdY 0 ds, bx⟩ : AS).get i = (ds[i]?).getD .bot := by
 simp [AS.get, Zq2]
theorem Zww {t k : Nat} {e : E} : ∀ (ds : List D) (i : Nat), ds[i]? = some (.c (some (t, k)) e) → t ∈ Zoy ds
 | [], i, h => by simp at h
 | d :: ds, 0, h => by simp only [List.getElem?_cons_zero, Option.some.injEq] at h; subst h; simp [Zoy]
 | d :: ds, i + 1, h => by
  have := Zww ds i (by simpa using h)
  unfold Zoy
  split <;> simp_all
theorem Zuq {t k : Nat} {e : E} : ∀ (cs : List Cell) (i : Nat), cs[i]? = some (some (t, k), e) → t ∈ Zpe cs
 | [], i, h => by simp at h
 | d :: ds, 0, h => by simp only [List.getElem?_cons_zero, Option.some.injEq] at h; subst h; simp [Zpe]
 | d :: ds, i + 1, h => by
  have := Zuq ds i (by simpa using h)
  unfold Zpe
  split <;> simp_all
theorem Zuj {t : Nat} : ∀ (bx : ZbV) (n : Nat) (cs : List Cell), Z2 bx n = some cs → t ∈ Zpe cs → t ∈ Zoe bx
 | [], n, cs, h, _ => by simp [Z2] at h
 | (m, ds) :: bx, n, cs, h, ht => by
  simp only [Z2] at h
  simp only [Zoe, List.mem_append]
  split at h
  ·injection h with h; subst h; exact .inl ht
  ·exact .inr (Zuj bx n cs h ht)
theorem Zhl : ∀ {l : List (Nat × Nat)} {n m : Nat}, Zez l n = some m → (n, m) ∈ l
 | [], n, m, h => by simp [Zez] at h
 | (a, b) :: l, n, m, h => by
  simp only [Zez] at h
  split at h
  ·rename_i he; subst he; injection h with h; subst h; simp
  ·exact List.mem_cons_of_mem _ (Zhl h)
theorem Zin : ∀ {l : List Nat}, ZsB l = true → l.Nodup
 | [], _ => List.nodup_nil
 | n :: l, h => by
  simp only [ZsB, Bool.and_eq_true, Bool.not_eq_true', List.contains_eq_mem, decide_eq_false_iff_not] at h
  exact List.nodup_cons.2 ⟨h.1, Zin h.2⟩
theorem Zh2 : ∀ l : List (Nat × Nat), ZiE l = l.map (·.1)
 | [] => rfl
 | (a, b) :: l => by simp [ZiE, Zh2 l]
theorem Zhj : ∀ l : List (Nat × Nat), Zlm l = l.map (·.2)
 | [] => rfl
 | (a, b) :: l => by simp [Zlm, Zhj l]
theorem ZeH : ∀ l : List (Nat × Nat), Zfm l = l.map fun p => (p.2, p.1)
 | [] => rfl
 | (a, b) :: l => by simp [Zfm, ZeH l]
theorem Zk5 : ∀ {l : List (Nat × Nat)} {n m : Nat}, (l.map (·.1)).Nodup → (n, m) ∈ l → Zez l n = some m
 | (a, b) :: l, n, m, hd, h => by
  simp only [List.map_cons, List.nodup_cons] at hd
  simp only [Zez]
  rcases List.mem_cons.1 h with h | h
  ·injection h with h1 h2; subst h1 h2; rw [if_pos rfl]
  ·rw [if_neg (fun e => hd.1 (List.mem_map.2 ⟨(n, m), h, e⟩))]
   exact Zk5 hd.2 h
theorem ZsK {l : List (Nat × Nat)} (h2 : (l.map (·.2)).Nodup) {a b m : Nat} (ha : Zez l a = some m) (hb : Zez l b = some m) : a = b := by
 have key : ∀ l : List (Nat × Nat), (l.map (·.2)).Nodup → (a, m) ∈ l → (b, m) ∈ l → a = b := by
  intro l
  induction l with
  | nil => intro _ h; simp at h
  | cons p l ih =>
   intro hd h1 h2
   simp only [List.map_cons, List.nodup_cons] at hd
   rcases List.mem_cons.1 h1 with h1 | h1
   ·rcases List.mem_cons.1 h2 with h2 | h2
    ·rw [← h1] at h2; injection h2 with h2; exact h2.symm
    ·exact absurd (List.mem_map.2 ⟨_, h2, by rw [← h1]⟩) hd.1
   ·rcases List.mem_cons.1 h2 with h2 | h2
    ·exact absurd (List.mem_map.2 ⟨_, h1, by rw [← h2]⟩) hd.1
    ·exact ih hd.2 h1 h2
 exact key l h2 (Zhl ha) (Zhl hb)
theorem Zpq (S : AS) (f : Nat → Option Nat) : ∀ (l : List (Nat × Nat)) (bx : ZbV), ZhZ S f l = some bx → ∀ c cs, Z2 bx c = some cs → ∃ n ds, (n, c) ∈ l ∧ S.box n = some ds ∧ cs = Cell.rens f ds
 | [], bx, h, c, cs, hl => by simp only [ZhZ, Option.some.injEq] at h; subst h; simp [Z2] at hl
 | (n, c0) :: l, bx, h, c, cs, hl => by
  simp only [ZhZ] at h
  split at h
  ·rename_i ds b h1 h2
   injection h with h; subst h
   simp only [Z2] at hl
   split at hl
   ·rename_i he; subst he; injection hl with hl; subst hl; exact ⟨n, ds, by simp, h1, rfl⟩
   ·obtain ⟨n', ds', h3, h4, h5⟩ := Zpq S f l b h2 c cs hl
    exact ⟨n', ds', List.mem_cons_of_mem _ h3, h4, h5⟩
  ·cases h
theorem ZsG (S : AS) (f : Nat → Option Nat) : ∀ (l : List (Nat × Nat)) (bx : ZbV), ZhZ S f l = some bx → ∀ n c, (n, c) ∈ l → ∃ ds, S.box n = some ds
 | [], bx, h, n, c, hm => by simp at hm
 | (n0, c0) :: l, bx, h, n, c, hm => by
  simp only [ZhZ] at h
  split at h
  ·rename_i ds b h1 h2
   rcases List.mem_cons.1 hm with hm | hm
   ·injection hm with e1 e2; subst e1; exact ⟨ds, h1⟩
   ·exact ZsG S f l b h2 n c hm
  ·cases h
theorem Zsq (bx : ZbV) (f : Nat → Option Nat) : ∀ (l : List (Nat × Nat)) (b : ZbV) (m : Nat) (cs : List Cell), (l.map (·.2)).Nodup → Z2 (Zmi bx f l b) m = some cs → (∃ c ds, (c, m) ∈ l ∧ Z2 bx c = some ds ∧ cs = Cell.rens f ds) ∨ (m ∉ l.map (·.2) ∧ Z2 b m = some cs)
 | [], b, m, cs, _, h => .inr ⟨by simp, h⟩
 | (c, n) :: l, b, m, cs, hd, h => by
  simp only [List.map_cons, List.nodup_cons] at hd
  simp only [Zmi] at h
  rcases Zsq bx f l _ m cs hd.2 h with ⟨c', ds, h1, h2, h3⟩ | ⟨h1, h2⟩
  ·exact .inl ⟨c', ds, List.mem_cons_of_mem _ h1, h2, h3⟩
  ·by_cases he : m = n
   ·subst he
    cases hl : Z2 bx c with
    | none => rw [hl] at h2; simp only [Zn7, if_true] at h2; cases h2
    | some ds => rw [hl] at h2; simp only [ZjG, if_true, Option.some.injEq] at h2; exact .inl ⟨c, ds, by simp, hl, h2.symm⟩
   ·refine .inr ⟨by simp only [List.map_cons, List.mem_cons, not_or]; exact ⟨he, h1⟩, ?_⟩
    cases hl : Z2 bx c with
    | none => rw [hl] at h2; simp only [Zn7, if_neg he] at h2; exact h2
    | some ds => rw [hl] at h2; simp only [ZjG, if_neg he] at h2; exact h2
theorem Zjp (l : List Nat) : ∀ (b : ZbV) (m : Nat), Z2 (Zu0 l b) m = if l.contains m then none else Z2 b m
 | [], m => by simp [Zu0, Z2]
 | (n, cs) :: b, m => by
  simp only [Zu0]
  split
  ·rename_i h
   rw [Zjp l b m]
   by_cases he : m = n
   ·subst he; rw [if_pos h, if_pos h]
   ·simp only [Z2, if_neg he]
  ·rename_i h
   simp only [Z2, Zjp l b m]
   by_cases he : m = n
   ·subst he; rw [show l.contains m = false from Bool.eq_false_iff.2 h]; simp
   ·simp only [if_neg he]
theorem ZfY {l : List Nat} {a b : Nat} (h : Zj1 l a = some b) : a = b ∧ a ∉ l ∧ a < CAP := by
 unfold Zj1 at h
 split at h
 ·cases h
 ·rename_i h1
  split at h
  ·injection h with h; exact ⟨h, by simpa using h1, by assumption⟩
  ·cases h
theorem Zm7 {S : AS} (l : List Nat) (hS : ∀ m cs, S.box m = some cs → m < CAP) : Zz4 (Zj1 l) S (S.killN l) where
 get i := by simp only [AS.get, AS.killN, Zf9, ZfA]; cases Z2 S.tmps i <;> rfl
 box m cs hb := by
  simp only [AS.box, AS.killN, Zf9, ZfA, Zjp, Option.map_eq_some_iff] at hb
  obtain ⟨ds, h1, rfl⟩ := hb
  split at h1
  ·cases h1
  ·rename_i hc
   exact ⟨m, ds, by unfold Zj1; rw [if_neg hc, if_pos (hS m ds h1)], h1, rfl⟩
 one a b m h1 h2 := by obtain ⟨rfl, _⟩ := ZfY h1; exact (ZfY h2).1.symm
 lt a m h := by obtain ⟨rfl, _, h⟩ := ZfY h; exact h
end

end Go.Am
