/- Part 2 of the proof: the abstract machine and its soundness. It holds for every input, without conditions. -/
import Derived.Orders
import Derived.IntWalk
import Derived.DataReads
import Derived.Carry
import Derived.ChangeOld
import Derived.Test.YtafniolcakiljaaGreatDoorVpA
/- A function's body, walked on abstract data, gives its contract. -/
set_option linter.unusedVariables false
set_option linter.unusedSimpArgs false
namespace Go.Am
open Go.RowKit

section
variable {P : Program} [Gl P] {w0 : World} {M0 : Nat → Prop} {S0 : Stab} {L : Tab} (hL : TOk P L) {ρ0 : Nat → Nat} {Dr : DrawK}

theorem RelAt.result {S : AS} {tm : Array Value} {w : World} {St : Stab} {ρ : Nat → Nat} (h : RelAt P w0 M0 S0 S tm w St ρ) {d : D} {v : Value} {bs : List Nat} (hd : RepD w St ρ d v) (htok : ∀ t k e, d = .c (some (t, k)) e → Held S tm w ρ t k e v) :
    RelAt P w0 M0 S0 ⟨[(0, d)], (S.keep [] bs).boxes⟩ #[v] w St ρ := by
  have hb : ∀ n cs, (⟨[(0, d)], (S.keep [] bs).boxes⟩ : AS).box n = some cs → S.box n = some cs := fun n cs hn => box_keep S [] bs n cs hn
  have hheld : ∀ {t k : Nat} {e : E} {u : Value}, Held ⟨[(0, d)], (S.keep [] bs).boxes⟩ #[v] w ρ t k e u → Held S tm w ρ t k e u := fun hh => by
    rcases hh with ⟨i, hi, hv⟩ | ⟨n, cs, j, hbx, hj, hv⟩
    · simp only [AS.get, look] at hi
      split at hi
      · rename_i h0; subst h0
        simp only [Option.getD_some] at hi
        have : v = _ := hv.symm
        rw [hv]
        exact htok _ _ _ hi
      · cases hi
    · exact .inr ⟨n, cs, j, hb n cs hbx, hj, hv⟩
  exact { glob := h.glob, os := h.os, tape := h.tape, output := h.output, size := h.size, old := h.old, stay := h.stay, up := h.up, dn := h.dn, lt := h.lt
          tmp := fun i => by
            simp only [AS.get, look]
            split
            · rename_i h0; subst h0; exact hd
            · exact trivial
          box := fun n cs hn => h.box n cs (hb n cs hn)
          inj := fun n m cs ds hn hm => h.inj n m cs ds (hb n cs hn) (hb m ds hm)
          own := fun t k e u hh => h.own _ _ _ _ (hheld hh)
          apart := fun t k e u t' k' e' u' hh hh' => h.apart _ _ _ _ _ _ _ _ (hheld hh) (hheld hh')
          ownbox := fun t k e u n cs hh hn => h.ownbox _ _ _ _ n cs (hheld hh) (hb n cs hn) }

/-- At the end of a body. -/
def endK (L : Tab) (rs : Array ResultVar) (bs : List Nat) (K : D → Boxes → Prop) : Exit → AS → Prop
  | .normal, S => resK L S rs.toList fun r => r.noPtr = true ∧ K r (S.keep [] bs).boxes
  | .ret, S => resK L S rs.toList fun r => r.noPtr = true ∧ K r (S.keep [] bs).boxes
  | _, _ => False

theorem look_names : ∀ (bs : List Nat) (S : AS) (n : Nat), n ∉ bs → look (S.keep [] bs).boxes n = none
  | [], S, n, _ => rfl
  | b :: bs, S, n, hn => by
    simp only [List.mem_cons, not_or] at hn
    have ih := look_names bs S n hn.2
    simp only [AS.keep, List.filterMap_cons] at ih ⊢
    cases hb : S.box b with
    | none => simp only [Option.map_none]; exact ih
    | some cs => simp only [Option.map_some, look]; rw [if_neg hn.1]; exact ih

include hL in
theorem body_wp {f : FuncId} {fn : Func} {c : Code} (hf : P.funcs[f]? = some fn) (hb : fn.body = some c) (hname : (fn.name == "runtime.NumGoroutine") = false)
    {args : List D} {bx : Boxes} {K : D → Boxes → Prop} (hargs : args.length ≤ fn.ntmps) (hbx : (bx.map (·.1)).all (EXT ≤ ·) = true)
    (hk : ∀ (w0 : World) (M0 : Nat → Prop) (S0 : Stab) (ρ0 : Nat → Nat) (a : Act) (w : World), ARel P fn.ntmps w0 M0 S0 ρ0 ⟨argsAt 0 args, bx⟩ a w → c.wp P (post P fn.ntmps w0 M0 S0 ρ0 (endK L fn.results (bx.map (·.1)) K)) a w) : CallsX P f args bx K := by
  refine ⟨⟨fn, hf, hname, by rw [hb]; rfl⟩, fun w S0 M0 vals ρ hv hr => ?_⟩
  refine calls_of_wp hf hb (wp_mono (hk w M0 S0 ρ _ w ?_) ?_)
  · refine ⟨rfl, by simp; omega, S0, ρ, ?_, fun _ _ => rfl⟩
    have hget : ∀ i, (vals ++ Array.replicate (fn.ntmps - vals.size) undef).getD i undef = vals.getD i undef := fun i => by
      simp only [Array.getD_eq_getD_getElem?]
      by_cases hi : i < vals.size
      · rw [Array.getElem?_append_left hi]
      · rw [Array.getElem?_append_right (by omega), Array.getElem?_eq_none (xs := vals) (by omega), Array.getElem?_replicate]
        split <;> rfl
    have hheld : ∀ {t k : Nat} {e : E} {u : Value}, Held ⟨argsAt 0 args, bx⟩ (vals ++ Array.replicate (fn.ntmps - vals.size) undef) w ρ t k e u → Held ⟨argsAt 0 args, bx⟩ vals w ρ t k e u := fun hh => by
      rcases hh with ⟨i, hi, hv⟩ | h2
      · exact .inl ⟨i, hi, by rw [hv, hget]⟩
      · exact .inr h2
    exact { hr with
      tmp := fun i => by rw [hget]; exact hr.tmp i
      own := fun t k e u hh => hr.own _ _ _ _ (hheld hh)
      apart := fun t k e u t' k' e' u' hh hh' => hr.apart _ _ _ _ _ _ _ _ (hheld hh) (hheld hh')
      ownbox := fun t k e u n cs hh => hr.ownbox _ _ _ _ n cs (hheld hh) }
  · have fin : ∀ (S : AS) (a : Act) (w' : World), resK L S fn.results.toList (fun r => r.noPtr = true ∧ K r (S.keep [] (bx.map (·.1))).boxes) → ARel P fn.ntmps w M0 S0 ρ S a w' →
        a.defers = [] ∧ ∃ v, (results fn a.tmps).run P w' = .ok v w' ∧ ∃ v' r bx' St' ρ', Ending.returned v = .returned v' ∧ K r bx' ∧ r.noPtr = true ∧ (∀ n, EXT ≤ n → ρ' n = ρ n) ∧ (∀ n, n < EXT → look bx' n = none) ∧
          RelAt P w M0 S0 ⟨[(0, r)], bx'⟩ #[v'] w' St' ρ' := by
      intro S a w' hk' hrel
      obtain ⟨hdef, hsize, St, ρ', h3, h4⟩ := hrel
      obtain ⟨ds, vs, h5, h6, h7, h8, h9⟩ := resD_run h3 hL _ _ hk'
      have hrun : (results fn a.tmps).run P w' = .ok (if h : vs.toArray.size = 1 then vs.toArray[0] else .tuple vs.toArray) w' := by
        have hm : (fn.results.mapM (resOne a.tmps)).run P w' = .ok vs.toArray w' := by
          rw [Array.mapM_eq_mapM_toList, Sem.run_map, h8, Result.andThen_ok]
        have hres : results fn a.tmps = (do
            let vs ← fn.results.mapM (resOne a.tmps)
            pure (if h : vs.size = 1 then vs[0] else .tuple vs)) := rfl
        rw [hres, Sem.run_bind, hm]
        simp only [Result.andThen_ok, Sem.run_pure]
      have hlow : ∀ n, n < EXT → look (S.keep [] (bx.map (·.1))).boxes n = none := fun n hn => look_names _ S n fun hmem => by
        have := List.all_eq_true.1 hbx n hmem
        simp at this; omega
      match ds, h5, h6, h9 with
      | [], h5, h6, h9 =>
        have hv0 : vs = [] := List.eq_nil_of_length_eq_zero (by rw [h7, ← h6]; rfl)
        subst hv0
        exact ⟨hdef, _, hrun, _, _, _, St, ρ', rfl, h5.2, h5.1, h4, hlow, h3.result (d := .tup []) ⟨[], rfl, rfl, fun k x hk2 => by simp at hk2⟩ (fun _ _ _ he => by cases he)⟩
      | [d], h5, h6, h9 =>
        obtain ⟨v, hv1, hv2, hv3⟩ := h9 0 d rfl
        have hv0 : vs = [v] := by
          match vs, h7, hv1 with
          | [u], _, hu => simp only [List.getElem?_cons_zero, Option.some.injEq] at hu; rw [hu]
          | [], h, _ => simp [← h6] at h
          | _ :: _ :: _, h, _ => simp [← h6] at h
        subst hv0
        exact ⟨hdef, _, hrun, _, _, _, St, ρ', rfl, h5.2, h5.1, h4, hlow, h3.result hv2 hv3⟩
      | d1 :: d2 :: ds, h5, h6, h9 =>
        have hne : ¬ vs.toArray.size = 1 := by simp [h7, ← h6]
        rw [dif_neg hne] at hrun
        refine ⟨hdef, _, hrun, _, _, _, St, ρ', rfl, h5.2, h5.1, h4, hlow, h3.result (d := .tup ((d1 :: d2 :: ds).map D.x)) ⟨vs, rfl, by simp only [List.length_map]; rw [h6, h7], fun k x hk2 => ?_⟩ (fun _ _ _ he => by cases he)⟩
        rw [List.getElem?_map] at hk2
        cases hdk : (d1 :: d2 :: ds)[k]? with
        | none => rw [hdk] at hk2; cases hk2
        | some d =>
          rw [hdk] at hk2
          simp only [Option.map_some, Option.some.injEq] at hk2
          subst hk2
          obtain ⟨u, hu1, hu2, _⟩ := h9 k d hdk
          refine ⟨u, hu1, ?_⟩
          cases d with
          | c tk e => exact hu2
          | agg es => exact hu2
          | _ => exact trivial
    rintro e a' w' ⟨S, hq, hrel⟩
    cases e with
    | normal => exact fin S a' w' hq hrel
    | ret => exact fin S a' w' hq hrel
    | exit id => exact hq.elim
    | goto l => exact hq.elim
    | panic ch => exact hq.elim
    | outgrown => exact hq.elim
include hL in
theorem body_sound {f : FuncId} {fn : Func} {c : Code} (hf : P.funcs[f]? = some fn) (hb : fn.body = some c) (hname : (fn.name == "runtime.NumGoroutine") = false) (hnt : fn.ntmps ≤ EXT) (hD : DrawOk P L fn.ntmps Dr)
    {args : List D} {bx : Boxes} {K : D → Boxes → Prop} (hargs : args.length ≤ fn.ntmps) (hbx : (bx.map (·.1)).all (EXT ≤ ·) = true)
    (hk : awp Dr P L fn.ntmps c (endK L fn.results (bx.map (·.1)) K) ⟨argsAt 0 args, bx⟩) : CallsX P f args bx K :=
  body_wp hL hf hb hname hargs hbx fun w0 M0 S0 ρ0 a w h => awp_sound hL hnt hD c _ _ a w hk h
end
end Go.Am

/- Regions whose operations may come in any order: definitions. -/
set_option linter.unusedVariables false
set_option linter.unusedSimpArgs false
namespace Go.Am
open Go.RowKit

def direct (o : Oper) : List Nat := (o.after.toList.filter (Region.binds .any)).map (·.on)
/-- What comes before each operation, whatever the order. -/
def presAux : List Oper → List (List Nat) → List (List Nat)
  | [], acc => acc
  | o :: os, acc => presAux os (acc ++ [direct o ++ (direct o).flatMap fun j => acc.getD j []])
def pres (ops : Array Oper) : List (List Nat) := presAux ops.toList []
def preOf (ops : Array Oper) (i : Nat) : List Nat := (pres ops).getD i []

def tmpsOf (o : Oper) : List Nat := o.op.operands.toList.filterMap fun | .tmp t => some t | _ => none
/-- Two free operations that may write to the same box stand in an order. tch: which boxes each may write to. -/
def touchOk (ops : Array Oper) (m : Nat) (tch : List (List Nat)) : Bool :=
  (List.range m).all fun i => (List.range m).all fun j => i == j || (tch.getD i []).all fun n => !(tch.getD j []).contains n || (preOf ops i).contains j || (preOf ops j).contains i
/-- The boxes that an operation must not look at: another one may write to them, now or later. -/
def hideB (ops : Array Oper) (m : Nat) (tch : List (List Nat)) (i : Nat) : List Nat :=
  (List.range m).flatMap fun j => if j == i || (preOf ops i).contains j || (preOf ops j).contains i then [] else tch.getD j []
/-- The operations before m are free, the others come behind all that stand before them. -/
def drawOk (ops : Array Oper) (m : Nat) (tch : List (List Nat)) : Bool :=
  touchOk ops m tch && decide (m ≤ ops.size) &&
  (List.range ops.size).all fun i =>
    match ops[i]? with
    | none => false
    | some o =>
      (direct o).all (· < i) &&
      (match o.guard with | some (j, _) => (preOf ops i).contains j && decide (j < i) | none => true) &&
      (if m ≤ i then (List.range i).all fun j => (preOf ops i).contains j
       else (match o.dst with | some t => !(tmpsOf o).contains t | none => true) && (List.range m).all fun j => j == i || (match (ops[j]?).bind (·.dst) with
         | some t => !(o.dst == some t) && (!(tmpsOf o).contains t || (preOf ops i).contains j) && (match o.guard with | some (g, _) => !((ops[g]?).bind (·.dst) == some t) || (preOf ops i).contains j | none => true)
         | none => true))

abbrev Upd := List (Nat × List E)
def bareC (cs : List Cell) : List Cell := cs.map fun c => (none, c.2)
/-- The boxes that are handed to a callee, without tokens. -/
def passE (S : AS) : List Nat → Nat → Option Boxes
  | [], _ => some []
  | n :: ns, i => match S.box n, passE S ns (i + 1) with
    | some cs, some bx => some ((EXT + i, bareC cs) :: bx)
    | _, _ => none
/-- What is in them behind the call. -/
def backE (bx : Boxes) : List Nat → Nat → Option Upd
  | [], _ => some []
  | n :: ns, i => match look bx (EXT + i), backE bx ns (i + 1) with
    | some cs, some us => some ((n, cs.map (·.2)) :: us)
    | _, _ => none
def freeStep (P : Program) [Gl P] (L : Tab) (o : Oper) (env : AS) (d : D) (us : Upd) : Prop :=
  match o.op with
  | .box _ x =>
    match o.dst, (env.ev x).es with
    | some t, some es => d = .ptr t 0 ∧ us = [(t, es)]
    | _, _ => False
  | .alloc t =>
    match o.dst, (L.ti t).zero with
    | some u, some z => d = .ptr u 0 ∧ us = [(u, z)]
    | _, _ => False
  | .buildSlice t len parts =>
    match o.dst, (L.ti t).k with
    | some u, .slice e =>
      match (L.ti e).zero with
      | some z => us = [] ∧ 0 < (L.ti e).size ∧ z.length = (L.ti e).size ∧ len * (L.ti e).size ≤ 16777216 ∧
          buildK env (fun i => some (i * (L.ti e).size, (L.ti e).size)) parts.toList (repE len z) fun es => ∃ rows', WE (.sl (rowsOf (L.ti e).size len es)) (.sl rows') ∧ d = .c none (.sl rows')
      | none => False
    | _, _ => False
  | .store t p x =>
    match env.ev p, (env.ev x).es with
    | .ptr n off, some new =>
      match env.box n with
      | some cs => o.dst = none ∧ (L.ti t).known = true ∧ new.length = (L.ti t).size ∧ off + new.length ≤ cs.length ∧ d = .bot ∧ us = [(n, fillE (cs.map (·.2)) off new)]
      | none => False
    | _, _ => False
  | .call c =>
    match c.callee with
    | .builtin .append => False
    | .value f =>
      match env.ev f with
      | .c _ (.v (.func (.func g) first cap)) =>
        forceL ((first.toList.map constD ++ c.args.toList.map env.ev ++ cap.toList.map constD).map D.plain) fun ds =>
          match passE env (ptrNames ds) 0 with
          | some bx => toks ds = [] ∧ forceL (ds.map (mapPtr (ptrNames ds))) fun ds' => forceB bx fun bx => CallsX P g ds' bx fun r bx' => d = r.plain ∧ backE bx' (ptrNames ds) 0 = some us
          | none => False
      | _ => False
    | _ => us = [] ∧ opV L env o.op fun r => d = r
  | op => us = [] ∧ opV L env op fun r => d = r

def cleanD (ts : List Nat) : D → D
  | .ptr n off => if ts.contains n then .bot else .ptr n off
  | .c (some (t, k)) e => if ts.contains t then .c none e else .c (some (t, k)) e
  | d => d
def cleanC (ts : List Nat) : Cell → Cell
  | (some (t, k), e) => if ts.contains t then (none, e) else (some (t, k), e)
  | c => c
/-- These temporaries, the boxes and the tokens of these names are forgotten. -/
def AS.drop (S : AS) (ts : List Nat) : AS :=
  ⟨mapV (cleanD ts) (S.tmps.filter fun p => !ts.contains p.1), mapV (·.map (cleanC ts)) (S.boxes.filter fun p => !ts.contains p.1)⟩
/-- As 'drop', but addresses of boxes stay. -/
def AS.mask (S : AS) (ts bs : List Nat) : AS := ⟨S.tmps.filter fun p => !ts.contains p.1, S.boxes.filter fun p => !bs.contains p.1⟩
def bare (es : List E) : List Cell := es.map fun e => (none, e)
def AS.setBoxes (S : AS) : Upd → AS
  | [] => S
  | (n, es) :: us => (S.setBoxes us).setBox n (bare es)
def AS.add (S : AS) (dst : Option Nat) (d : D) (us : Upd) : AS := (S.setBoxes us).putO dst d
def updIn (tch : List Nat) (us : Upd) : Bool := us.all fun p => tch.contains p.1

def dstsOf (ops : List Oper) : List Nat := ops.filterMap (·.dst)
/-- The free operations' temporaries that this one must not look at. -/
def hideOf (ops : Array Oper) (m i : Nat) : List Nat :=
  (List.range m).filterMap fun j => if (preOf ops i).contains j then none else (ops[j]?).bind (·.dst)

def okPtr (hide all : List Nat) (self : Option Nat) : D → Bool
  | .ptr n _ => !hide.contains n || self == some n
  | .c (some (t, _)) _ => !all.contains t
  | _ => true

/-- The free operations, in the order of the text, each in a state that holds what surely came before it. -/
def freeK (P : Program) [Gl P] (L : Tab) (nt : Nat) (ops : Array Oper) (m : Nat) (tch : List (List Nat)) : List Oper → Nat → AS → (AS → Prop) → Prop
  | [], _, acc, K => K acc
  | o :: rest, i, acc, K =>
    okDst nt o.dst = true ∧
    match o.guard with
    | none => ∃ d us, freeStep P L o (acc.mask (hideOf ops m i) (hideB ops m tch i)) d us ∧ (okPtr (hideOf ops m i) (dstsOf (ops.toList.take m)) o.dst d && updIn (tch.getD i []) us) = true ∧ forceS (acc.add o.dst d us) fun acc => freeK P L nt ops m tch rest (i + 1) acc K
    | some (j, want) =>
      match (ops[j]?).bind (·.dst) with
      | some g =>
        match acc.get g with
        | .c tk (.v (.bool b)) =>
          branchG b want (∃ d us, freeStep P L o ((acc.put g (.c tk (.v (.bool want)))).mask (hideOf ops m i) (hideB ops m tch i)) d us ∧ (okPtr (hideOf ops m i) (dstsOf (ops.toList.take m)) o.dst d && updIn (tch.getD i []) us) = true ∧ forceS ((acc.put g (.c tk (.v (.bool want)))).add o.dst d us) fun acc => freeK P L nt ops m tch rest (i + 1) acc K)
            (forceS ((acc.put g (.c tk (.v (.bool (!want))))).add o.dst (.tup []) []) fun acc => freeK P L nt ops m tch rest (i + 1) acc K)
        | .tup [] => forceS (acc.add o.dst (.tup []) []) fun acc => freeK P L nt ops m tch rest (i + 1) acc K
        | _ => False
      | none => False

/-- As freeK; what must not be looked at is handed in: temporaries, boxes, and the boxes that may be written to. -/
def freeH (P : Program) [Gl P] (L : Tab) (nt : Nat) (ops : Array Oper) (all : List Nat) : List Oper → List (List Nat × List Nat × List Nat) → AS → (AS → Prop) → Prop
  | [], _, acc, K => K acc
  | _ :: _, [], _, _ => False
  | o :: rest, (h, hb, tc) :: hs, acc, K =>
    okDst nt o.dst = true ∧
    match o.guard with
    | none => ∃ d us, freeStep P L o (acc.mask h hb) d us ∧ (okPtr h all o.dst d && updIn tc us) = true ∧ forceS (acc.add o.dst d us) fun acc => freeH P L nt ops all rest hs acc K
    | some (j, want) =>
      match (ops[j]?).bind (·.dst) with
      | some g =>
        match acc.get g with
        | .c tk (.v (.bool b)) =>
          branchG b want (∃ d us, freeStep P L o ((acc.put g (.c tk (.v (.bool want)))).mask h hb) d us ∧ (okPtr h all o.dst d && updIn tc us) = true ∧ forceS ((acc.put g (.c tk (.v (.bool want)))).add o.dst d us) fun acc => freeH P L nt ops all rest hs acc K)
            (forceS ((acc.put g (.c tk (.v (.bool (!want))))).add o.dst (.tup []) []) fun acc => freeH P L nt ops all rest hs acc K)
        | .tup [] => forceS (acc.add o.dst (.tup []) []) fun acc => freeH P L nt ops all rest hs acc K
        | _ => False
      | none => False
def hidesOf (ops : Array Oper) (m : Nat) (tch : List (List Nat)) : List (List Nat × List Nat × List Nat) := (List.range m).map fun i => (hideOf ops m i, hideB ops m tch i, tch.getD i [])
theorem branchG_map {b want : Bool} {A A' B B' : Prop} (h1 : A → A') (h2 : B → B') (h : branchG b want A B) : branchG b want A' B' := by
  cases b <;> cases want
  · exact h1 h
  · exact h2 h
  · exact h2 h
  · exact h1 h
theorem freeK_of_freeH {P : Program} [Gl P] {L : Tab} {nt : Nat} {ops : Array Oper} {m : Nat} {tch : List (List Nat)} : ∀ (rest : List Oper) (hs : List (List Nat × List Nat × List Nat)) (i : Nat) (acc : AS) (K : AS → Prop), (∀ (k : Nat) h, hs[k]? = some h → h = (hideOf ops m (i + k), hideB ops m tch (i + k), tch.getD (i + k) [])) →
    freeH P L nt ops (dstsOf (ops.toList.take m)) rest hs acc K → freeK P L nt ops m tch rest i acc K
  | [], hs, i, acc, K, _, h => h
  | o :: rest, [], i, acc, K, _, h => h.elim
  | o :: rest, (x, xb, xt) :: hs, i, acc, K, hh, h => by
    have hx := hh 0 (x, xb, xt) rfl
    simp only [Nat.add_zero, Prod.mk.injEq] at hx
    obtain ⟨rfl, rfl, rfl⟩ := hx
    have ih := fun acc => freeK_of_freeH (P := P) (L := L) (nt := nt) rest hs (i + 1) acc K fun k h hk => by
      rw [hh (k + 1) h (by simpa using hk), show i + (k + 1) = i + 1 + k by omega]
    revert h
    simp only [freeH, freeK, forceS_eq]
    rintro ⟨h1, h2⟩
    refine ⟨h1, ?_⟩
    revert h2
    split
    · exact fun ⟨d, bx, h3, h4, h5⟩ => ⟨d, bx, h3, h4, ih _ h5⟩
    · split
      · split
        · exact branchG_map (fun ⟨d, bx, h3, h4, h5⟩ => ⟨d, bx, h3, h4, ih _ h5⟩) (fun h2 => ih _ h2)
        · exact fun h2 => ih _ h2
        · exact id
      · exact id

def drawK (P : Program) [Gl P] (L : Tab) (nt : Nat) (ops : Array Oper) (S : AS) (K : AS → Prop) : Prop :=
  ∃ m tch hs all, (drawOk ops m tch && hs == hidesOf ops m tch && all == dstsOf (ops.toList.take m)) = true ∧ forceS (S.drop all) fun S => freeH P L nt ops all (ops.toList.take m) hs S fun S' => opsK P L nt ops (ops.toList.drop m) S' K
def drawK0 (P : Program) [Gl P] (L : Tab) (nt : Nat) (ops : Array Oper) (S : AS) (K : AS → Prop) : Prop :=
  ∃ m tch, drawOk ops m tch = true ∧ freeK P L nt ops m tch (ops.toList.take m) 0 (S.drop (dstsOf (ops.toList.take m))) fun S' => opsK P L nt ops (ops.toList.drop m) S' K
theorem drawK_old {P : Program} [Gl P] {L : Tab} {nt : Nat} {ops : Array Oper} {S : AS} {K : AS → Prop} (h : drawK P L nt ops S K) : drawK0 P L nt ops S K := by
  obtain ⟨m, tch, hs, all, h1, h2⟩ := h
  simp only [Bool.and_eq_true, beq_iff_eq] at h1
  obtain ⟨⟨h1, rfl⟩, rfl⟩ := h1
  rw [forceS_eq] at h2
  refine ⟨m, tch, h1, freeK_of_freeH _ _ 0 _ _ (fun k h hk => ?_) h2⟩
  unfold hidesOf at hk
  rw [List.getElem?_map] at hk
  cases hr : (List.range m)[k]? with
  | none => rw [hr] at hk; cases hk
  | some j =>
    rw [hr] at hk
    have : j = k := by
      have := List.getElem?_eq_some_iff.1 hr
      obtain ⟨h3, h4⟩ := this
      simpa using h4.symm
    subst this
    simpa using hk.symm
end Go.Am

/- Regions whose operations may come in any order: an operation looks at its operands alone. -/
set_option linter.unusedVariables false
set_option linter.unusedSimpArgs false
namespace Go.Am
open Go.RowKit

section
variable {P : Program} [Gl P] {L : Tab} {S T : AS}

theorem buildK_mono (place : Nat → Option (Nat × Nat)) : ∀ (parts : List (Nat × Operand)) (cells : List E) (K : List E → Prop), (∀ p ∈ parts, S.ev p.2 = T.ev p.2) → buildK S place parts cells K → buildK T place parts cells K
  | [], _, _, _, h => h
  | (i, x) :: rest, cells, K, hev, h => by
    simp only [buildK] at h ⊢
    rw [← hev (i, x) (by simp)]
    cases hp : place i with
    | none => simp [hp] at h
    | some p =>
      obtain ⟨off, size⟩ := p
      cases he : (S.ev x).es with
      | none => simp [hp, he] at h
      | some es =>
        simp only [hp, he] at h ⊢
        exact ⟨h.1, h.2.1, buildK_mono place rest _ K (fun p hp => hev p (by simp [hp])) h.2.2⟩
theorem vals_mono : ∀ (xs : List Operand), (∀ x ∈ xs, S.ev x = T.ev x) → vals? S xs = vals? T xs
  | [], _ => rfl
  | x :: xs, h => by simp only [vals?, h x (by simp), vals_mono xs (fun y hy => h y (by simp [hy]))]

theorem loadK_mono (hb : ∀ n cs, S.box n = some cs → T.box n = some cs) {t : Nat} {d : D} {K : D → Prop} (h : loadK L S t d K) : loadK L T t d K := by
  obtain ⟨h1, h2⟩ := h
  refine ⟨h1, ?_⟩
  cases d with
  | ptr n off =>
    simp only at h2 ⊢
    cases hn : S.box n with
    | none => simp [hn] at h2
    | some cs => rw [hn] at h2; rw [hb n cs hn]; exact h2
  | _ => exact h2

theorem opV_mono (hb : ∀ n cs, S.box n = some cs → T.box n = some cs) {op : Op} {K : D → Prop} (hev : ∀ x ∈ op.operands, S.ev x = T.ev x) (h : opV L S op K) : opV L T op K := by
  cases op with
  | move x => simp only [opV] at h ⊢; rw [← hev x (by simp [Op.operands])]; exact h
  | assign x => simp only [opV] at h ⊢; rw [← hev x (by simp [Op.operands])]; exact h
  | pick c x y =>
    simp only [opV] at h ⊢
    rw [← hev c (by simp [Op.operands]), ← hev x (by simp [Op.operands]), ← hev y (by simp [Op.operands])]; exact h
  | load t p => simp only [opV] at h ⊢; rw [← hev p (by simp [Op.operands])]; exact loadK_mono hb h
  | fieldAddr t p f => simp only [opV] at h ⊢; rw [← hev p (by simp [Op.operands])]; exact h
  | field t p f => simp only [opV] at h ⊢; rw [← hev p (by simp [Op.operands])]; exact h
  | indexAddr t x i => simp only [opV] at h ⊢; rw [← hev x (by simp [Op.operands]), ← hev i (by simp [Op.operands])]; exact h
  | index t x i => simp only [opV] at h ⊢; rw [← hev x (by simp [Op.operands]), ← hev i (by simp [Op.operands])]; exact h
  | slice t x lo hi mx =>
    simp only [opV] at h ⊢
    have hlo : lo.map S.ev = lo.map T.ev := by cases lo <;> simp; exact hev _ (by simp [Op.operands])
    have hhi : hi.map S.ev = hi.map T.ev := by cases hi <;> simp; exact hev _ (by simp [Op.operands])
    have hmx : mx.map S.ev = mx.map T.ev := by cases mx <;> simp; exact hev _ (by simp [Op.operands])
    rw [← hev x (by simp [Op.operands]), ← hlo, ← hhi, ← hmx]; exact h
  | binOp op t x y u => simp only [opV] at h ⊢; unfold binKC at h ⊢; rw [← hev x (by simp [Op.operands]), ← hev y (by simp [Op.operands])]; exact h
  | unOp op t x => simp only [opV] at h ⊢; rw [← hev x (by simp [Op.operands])]; exact h
  | convert s t x => simp only [opV] at h ⊢; rw [← hev x (by simp [Op.operands])]; exact h
  | nilCheck x => simp only [opV] at h ⊢; rw [← hev x (by simp [Op.operands])]; exact h
  | extract x i => simp only [opV] at h ⊢; rw [← hev x (by simp [Op.operands])]; exact h
  | build t parts =>
    simp only [opV] at h ⊢
    have hp : ∀ p ∈ parts.toList, S.ev p.2 = T.ev p.2 := fun p hp => hev p.2 (by simp only [Op.operands, List.mem_toArray, List.mem_map]; exact ⟨p, hp, rfl⟩)
    split at h
    · exact ⟨h.1, buildK_mono _ _ _ _ hp h.2⟩
    · exact ⟨h.1, buildK_mono _ _ _ _ hp h.2⟩
    · exact h.elim
  | makeFunc fn first captured =>
    simp only [opV] at h ⊢
    rw [← vals_mono first.toList (fun x hx => hev x (by simp [Op.operands] at hx ⊢; exact .inl hx)), ← vals_mono captured.toList (fun x hx => hev x (by simp [Op.operands] at hx ⊢; exact .inr hx))]
    exact h
  | call c =>
    simp only [opV] at h ⊢
    have hargs : ∀ x ∈ c.args.toList, S.ev x = T.ev x := fun x hx => hev x (by
      simp only [Op.operands, Call.operands]
      exact Array.mem_append.2 (.inr (by simpa using hx)))
    split at h
    · rename_i x t h1 h2 h3
      rw [← hargs x (by rw [h2]; simp)]; exact h
    · rename_i x y h1 h2
      rw [← hargs x (by rw [h2]; simp), ← hargs y (by rw [h2]; simp)]; exact h
    · rename_i x y h1 h2
      rw [← hargs x (by rw [h2]; simp), ← hargs y (by rw [h2]; simp)]; exact h
    · exact h.elim
  | _ => exact h.elim

theorem passE_mono (hb : ∀ n cs, S.box n = some cs → T.box n = some cs) : ∀ (ns : List Nat) (i : Nat) (bx : Boxes), passE S ns i = some bx → passE T ns i = some bx
  | [], i, bx, h => h
  | n :: ns, i, bx, h => by
    simp only [passE] at h ⊢
    split at h
    · rename_i cs bx' h1 h2
      rw [hb n cs h1, passE_mono hb ns (i + 1) bx' h2]; exact h
    · cases h
theorem freeStep_mono (hb : ∀ n cs, S.box n = some cs → T.box n = some cs) {o : Oper} {d : D} {bx : Upd} (hev : ∀ x ∈ o.op.operands, S.ev x = T.ev x) (h : freeStep P L o S d bx) : freeStep P L o T d bx := by
  obtain ⟨dst, op, ty, pos, after, guard⟩ := o
  simp only at hev
  cases op with
  | box t x => simp only [freeStep] at h ⊢; rw [← hev x (by simp [Op.operands])]; exact h
  | alloc t => exact h
  | buildSlice t len parts =>
    have hp : ∀ p ∈ parts.toList, S.ev p.2 = T.ev p.2 := fun p hp => hev p.2 (by simp only [Op.operands, List.mem_toArray, List.mem_map]; exact ⟨p, hp, rfl⟩)
    simp only [freeStep] at h ⊢
    split at h
    · split at h
      · exact ⟨h.1, h.2.1, h.2.2.1, h.2.2.2.1, buildK_mono _ _ _ _ hp h.2.2.2.2⟩
      · exact h.elim
    · exact h.elim
  | store t p x =>
    simp only [freeStep] at h ⊢
    rw [← hev p (by simp [Op.operands]), ← hev x (by simp [Op.operands])]
    split at h
    case h_2 => exact h.elim
    split at h
    case h_2 => exact h.elim
    rename_i cs hcs
    rw [hb _ _ hcs]
    exact h
  | call c =>
    have hargs : ∀ x ∈ c.args.toList, S.ev x = T.ev x := fun x hx => hev x (by
      simp only [Op.operands, Call.operands]
      exact Array.mem_append.2 (.inr (by simpa using hx)))
    simp only [freeStep] at h ⊢
    split at h
    · exact h.elim
    · rename_i f hf
      rw [← hev f (by simp only [Op.operands, Call.operands, hf]; exact Array.mem_append.2 (.inl (by simp)))]
      rw [← List.map_congr_left hargs]
      split at h
      case h_2 => exact h
      rename_i tk g first cap hev2
      rw [forceL_eq] at h ⊢
      split at h
      case h_2 => exact h.elim
      rename_i bx' hp
      rw [passE_mono hb _ _ _ hp]
      exact h
    · exact ⟨h.1, opV_mono hb hev h.2⟩
  | _ => simp only [freeStep] at h ⊢; exact ⟨h.1, opV_mono hb hev h.2⟩
end

section
variable {P : Program} [Gl P] {L : Tab} (hL : TOk P L) {nt : Nat} (hnt : nt ≤ EXT) {w0 : World} {M0 : Nat → Prop} {S0 : Stab} {ρ0 : Nat → Nat} {T : AS} {a : Act} {w : World}

/-- Whether an operation makes a box. -/
def isNew : Op → Bool
  | .box _ _ => true
  | .alloc _ => true
  | _ => false
def AS.killO (S : AS) (b : Bool) (dst : Option Nat) : AS :=
  match b, dst with
  | true, some t => S.kill t
  | _, _ => S
/-- The state behind a free operation. -/
def AS.addX (S : AS) (nw : Bool) (dst : Option Nat) (d : D) (us : Upd) : AS := ((S.killO nw dst).setBoxes us).putO dst d
theorem get_setBoxes (S : AS) : ∀ (us : Upd) (i : Nat), (S.setBoxes us).get i = S.get i
  | [], i => rfl
  | (n, es) :: us, i => by rw [AS.setBoxes, get_setBox, get_setBoxes S us]
theorem box_setBoxes (S : AS) : ∀ (us : Upd) (n : Nat), (S.setBoxes us).box n = match look us n with | some es => some (bare es) | none => S.box n
  | [], n => rfl
  | (m, es) :: us, n => by
    rw [AS.setBoxes, box_setBox, look]
    by_cases h : n = m
    · rw [if_pos h, if_pos h]
    · rw [if_neg h, if_neg h, box_setBoxes S us]
theorem get_putO (S : AS) (dst : Option Nat) (d : D) (i : Nat) : (S.putO dst d).get i = if dst = some i then d else S.get i := by
  cases dst with
  | none => simp [AS.putO]
  | some t => simp only [AS.putO, get_put, Option.some.injEq]; by_cases h : i = t; rw [if_pos h, if_pos h.symm]; rw [if_neg h, if_neg (fun e => h e.symm)]
theorem box_putO (S : AS) (dst : Option Nat) (d : D) (n : Nat) : (S.putO dst d).box n = S.box n := by cases dst <;> rfl
/-- The boxes of these names without tokens. -/
def AS.bareB (S : AS) (ns : List Nat) : AS := ⟨S.tmps, S.boxes.map fun p => (p.1, if ns.contains p.1 then bareC p.2 else p.2)⟩
theorem box_bareB (S : AS) (ns : List Nat) (n : Nat) : (S.bareB ns).box n = (S.box n).map fun cs => if ns.contains n then bareC cs else cs := by
  obtain ⟨tm, bs⟩ := S
  simp only [AS.box, AS.bareB]
  induction bs with
  | nil => rfl
  | cons p l ih =>
    obtain ⟨m, cs⟩ := p
    simp only [List.map_cons, look]
    by_cases h : n = m
    · subst h; simp
    · rw [if_neg h, if_neg h, ih]
theorem less_bareB (S : AS) (ns : List Nat) : Less S (S.bareB ns) := by
  refine ⟨fun i => .inr (.inl rfl), fun n cs h => ?_⟩
  rw [box_bareB, Option.map_eq_some_iff] at h
  obtain ⟨ds, hd, rfl⟩ := h
  by_cases hc : ns.contains n = true
  · rw [if_pos hc]
    refine ⟨ds, hd, by simp [bareC], fun k c hk => ?_⟩
    rw [bareC, List.getElem?_map, Option.map_eq_some_iff] at hk
    obtain ⟨x, hx, rfl⟩ := hk
    exact ⟨x, hx, rfl, .inr rfl⟩
  · rw [if_neg hc]
    exact ⟨ds, hd, rfl, fun k c hk => ⟨c, hk, rfl, .inl rfl⟩⟩
theorem pass_bareB (S : AS) (all : List Nat) : ∀ (ns : List Nat) (i : Nat) (bx : Boxes), (∀ n ∈ ns, n ∈ all) → passE S ns i = some bx → passBoxes (S.bareB all) ns i = some bx ∧ btoks bx = []
  | [], i, bx, _, h => by injection h with h; subst h; exact ⟨rfl, rfl⟩
  | n :: ns, i, bx, ha, h => by
    simp only [passE] at h
    split at h
    case h_2 => cases h
    rename_i cs bx' h1 h2
    injection h with h; subst h
    obtain ⟨h3, h4⟩ := pass_bareB S all ns (i + 1) bx' (fun x hx => ha x (by simp [hx])) h2
    have h5 : (S.bareB all).box n = some (bareC cs) := by
      rw [box_bareB, h1]
      simp only [Option.map_some]
      rw [if_pos (by simpa using ha n (by simp))]
    have h6 : ∀ l : List Cell, ctoks (bareC l) = [] := by
      intro l
      induction l with
      | nil => rfl
      | cons c l ih => simp only [bareC, List.map_cons, ctoks] at ih ⊢; exact ih
    refine ⟨by simp only [passBoxes, h5, h3], ?_⟩
    simp only [btoks, h6, h4, List.append_nil]
theorem ptrNames_nd : ∀ ds : List D, (ptrNames ds).Nodup
  | [] => by simp [ptrNames]
  | d :: ds => by
    have ih := ptrNames_nd ds
    cases d with
    | ptr n off =>
      simp only [ptrNames]
      split
      · exact ih
      · rename_i h; exact List.nodup_cons.2 ⟨by simpa using h, ih⟩
    | _ => simpa only [ptrNames] using ih
theorem back_look (bx : Boxes) : ∀ (ns : List Nat) (i : Nat) (b : Boxes) (us : Upd), ns.Nodup → backE bx ns i = some us → ∀ n, ∃ cs, look (backBoxes bx ns i b) n = (match look us n with | some _ => some cs | none => look b n) ∧ ∀ es, look us n = some es → es = cs.map (·.2)
  | [], i, b, us, _, h, n => by injection h with h; subst h; exact ⟨[], rfl, fun es h => by cases h⟩
  | m :: ns, i, b, us, hnd, h, n => by
    simp only [backE] at h
    split at h
    case h_2 => cases h
    rename_i cs us' h1 h2
    injection h with h; subst h
    simp only [backBoxes, h1, look]
    by_cases hn : n = m
    · subst hn
      have key : ∀ (ns : List Nat) (i : Nat) (b : Boxes) (us : Upd), backE bx ns i = some us → n ∉ ns → look (backBoxes bx ns i b) n = look b n := by
        intro ns
        induction ns with
        | nil => intro i b us _ _; rfl
        | cons k ns ih =>
          intro i b us h hn
          simp only [backE] at h
          split at h
          case h_2 => cases h
          rename_i cs us' h1 h2
          simp only [backBoxes, h1]
          rw [ih (i + 1) _ us' h2 (fun hm => hn (by simp [hm])), look_ins, if_neg (fun e => hn (by simp [e]))]
      have hmem : n ∉ ns := (List.nodup_cons.1 hnd).1
      · rw [if_pos rfl, key ns (i + 1) _ us' h2 hmem, look_ins, if_pos rfl]
        exact ⟨cs, rfl, fun es h => by injection h with h; exact h.symm⟩
    · obtain ⟨cs', h3, h4⟩ := back_look bx ns (i + 1) (ins m cs b) us' (List.nodup_cons.1 hnd).2 h2 n
      rw [if_neg hn]
      refine ⟨cs', ?_, h4⟩
      rw [h3, look_ins, if_neg hn]
theorem less_putO_plain {S T : AS} (dst : Option Nat) (r : D) (h : Less S T) : Less (S.putO dst r) (T.putO dst r.plain) := by
  cases dst with
  | none => exact h
  | some t =>
    refine ⟨fun i => ?_, fun n cs hn => h.box n cs hn⟩
    simp only [AS.putO, get_put]
    split
    · cases r with
      | c tk e => cases tk with
        | none => exact .inr (.inl rfl)
        | some q => exact .inr (.inr ⟨q, e, rfl, rfl⟩)
      | _ => exact .inr (.inl rfl)
    · exact h.get i

theorem plainIf_all' : ∀ (ds : List D) (ts : List Nat), (∀ t ∈ toks ds, t ∈ ts) → ds.map (plainIf ts) = ds.map D.plain
  | [], _, _ => rfl
  | d :: ds, ts, h => by
    have ih := plainIf_all' ds ts fun t ht => h t (by unfold toks; split <;> simp_all)
    simp only [List.map_cons, ih]
    congr 1
    cases d with
    | c tk e =>
      cases tk with
      | none => rfl
      | some q =>
        obtain ⟨t, k⟩ := q
        have := h t (by simp [toks])
        simp [plainIf, D.plain, this]
    | _ => rfl
theorem plainIf_all (ds : List D) : ds.map (plainIf (toks ds)) = ds.map D.plain := plainIf_all' ds _ fun _ h => h
theorem mapPtr_nil : ∀ (ds : List D), ptrNames ds = [] → ds.map (mapPtr []) = ds
  | [], _ => rfl
  | d :: ds, h => by
    cases d with
    | ptr n off =>
      exfalso
      simp only [ptrNames] at h
      split at h
      · rename_i hc; rw [h] at hc; simp at hc
      · cases h
    | _ => simp only [List.map_cons, mapPtr]; rw [mapPtr_nil ds (by simpa [ptrNames] using h)]

include hL hnt in
theorem free_step_sound {o : Oper} {d : D} {us : Upd} (hT : ∀ u, o.dst = some u → Less (T.strip u) T) (hd : okDst nt o.dst = true) (hk : freeStep P L o T d us) (h : ARel P nt w0 M0 S0 ρ0 T a w) {next : Act → World → Prop} {Q : Exit → Act → World → Prop}
    (hn : ∀ a' w', ARel P nt w0 M0 S0 ρ0 (T.addX (isNew o.op) o.dst d us) a' w' → next a' w') : o.wp P a w next Q := by
  have hv : isNew o.op = false → (us = [] ∧ opV L T o.op fun r => d = r) → o.wp P a w next Q := fun hnw ⟨hbx, hv⟩ => by
    subst hbx
    rw [hnw] at hn
    obtain ⟨hdef, hsize, St, ρ, h3, h4⟩ := h
    obtain ⟨r, v, rfl, hr, hrep, htok⟩ := opV_gives hL h3 hv
    unfold Oper.wp
    rw [hr, Oper.upon_value]
    refine hn _ _ ⟨by rw [put_defers']; exact hdef, by rw [put_size]; exact hsize, St, ρ, ?_, h4⟩
    cases hdst : o.dst with
    | none => exact h3
    | some t =>
      rw [hdst] at hd
      have ht : t < nt := of_decide_eq_true hd
      exact h3.put (by rw [hsize]; exact ht) hrep htok
  unfold freeStep at hk
  split at hk
  · -- box
    rename_i t x hop
    split at hk
    case h_2 => exact hk.elim
    rename_i u cs hdst hcs
    obtain ⟨rfl, rfl⟩ := hk
    rw [hdst] at hd hn
    rw [hop] at hn
    have hu : u < nt := of_decide_eq_true hd
    have h' := h
    obtain ⟨_, _, St, ρ, h3, _⟩ := h'
    have hrun : (execOp a.eval o).run P w = .ok (.value (.pointer (some ⟨w.heap.size, 0, none⟩))) (w.alloc (.cells (a.eval x).cells t)) := by
      simp only [execOp, hop, Instr.box, newVar, newRow, Sem.run_bind, Sem.run_pure, run_newObj, Result.andThen_ok, World.alloc_eq]
    unfold Oper.wp
    rw [hrun, Oper.upon_value, hdst]
    refine hn _ _ (newBox_step h t hu hnt (by simp only [bare, List.length_map]; have := (rep_es (ev_rep h3 x) hcs).1; simpa using this.symm) (fun St ρ h3 k c hc => ?_) (fun St ρ h3 j t' k e u hj hu => ?_))
    · simp only [bare, List.getElem?_map] at hc
      cases he : cs[k]? with
      | none => simp [he] at hc
      | some c0 =>
        rw [he] at hc
        simp only [Option.map_some, Option.some.injEq] at hc
        subst hc
        obtain ⟨y, hy, hyr⟩ := (rep_es (ev_rep h3 x) hcs).2 k c0 he
        exact ⟨y, by rw [← Array.getElem?_toList]; exact hy, hyr⟩
    · simp only [bare, List.getElem?_map] at hj
      cases he : cs[j]? <;> simp [he] at hj
  · -- alloc
    rename_i t hop
    split at hk
    case h_2 => exact hk.elim
    rename_i u z hdst hz
    obtain ⟨rfl, rfl⟩ := hk
    rw [hdst] at hd
    have hu : u < nt := of_decide_eq_true hd
    refine stepK_sound hL hnt (K := fun S' => S' = ((T.kill u).setBox u (z.map fun e => (none, e))).put u (.ptr u 0)) (by simp only [stepK, hop, hdst, hz]; exact ⟨hu, trivial⟩) h fun S' a' w' hS h' => ?_
    subst hS
    rw [hdst, hop] at hn
    exact hn _ _ h'
  · -- a slice literal
    rename_i t len parts hop
    split at hk
    case h_2 => exact hk.elim
    rename_i u e hdst hty
    split at hk
    case h_2 => exact hk.elim
    rename_i z hz
    obtain ⟨rfl, hs0, hzl, hbig, hK⟩ := hk
    rw [hdst] at hd hn
    rw [hop] at hn
    have hu : u < nt := of_decide_eq_true hd
    refine buildSlice_step hL h hop hdst hty hz hu hs0 hzl hbig hK fun es a' w' ⟨rows', hwe, hes⟩ h' => hn _ _ ?_
    replace h' := h'.lessRows hwe
    have hTu := hT u hdst
    refine h'.less ⟨fun i => ?_, fun n cs hb => hTu.box n cs hb⟩
    show _ ∨ _ ∨ _
    simp only [isNew, AS.addX, AS.killO, AS.setBoxes, AS.putO, get_put]
    split
    · exact .inr (.inr ⟨_, _, rfl, hes⟩)
    · exact hTu.get i
  · -- a store
    rename_i t p x hop
    have hnw : isNew o.op = false := by rw [hop]; rfl
    rw [hnw] at hn
    split at hk
    case h_2 => exact hk.elim
    rename_i n off new hp hx
    split at hk
    case h_2 => exact hk.elim
    rename_i cs hcs
    obtain ⟨hdn, hkn, hlen, hoff, rfl, rfl⟩ := hk
    obtain ⟨nc, hnc, hne⟩ : ∃ nc : List Cell, (T.ev x).cells = some nc ∧ nc.map (·.2) = new := by
      cases hd : T.ev x with
      | c tk e => rw [hd] at hx; injection hx with hx; exact ⟨_, rfl, hx⟩
      | agg es => rw [hd] at hx; injection hx with hx; exact ⟨_, rfl, by rw [← hx, List.map_map]; exact (List.map_congr_left fun _ _ => rfl).trans (List.map_id _)⟩
      | _ => rw [hd] at hx; cases hx
    have hl2 : nc.length = new.length := by rw [← hne]; simp
    refine stepK_sound hL hnt (K := fun S' => S' = T.setBox n (spliceC cs off nc)) (by simp only [stepK, hop, hp, hnc, hcs]; exact ⟨hdn, hkn, by omega, by omega, trivial⟩) h fun S' a' w' hS h' => ?_
    subst hS
    refine hn _ _ (h'.less ⟨fun i => .inr (.inl ?_), fun m ds hb => ?_⟩)
    · rw [hdn]; rfl
    · rw [hdn] at hb
      simp only [AS.addX, AS.killO, AS.setBoxes, AS.putO] at hb
      rw [box_setBox] at hb ⊢
      by_cases hm : m = n
      · rw [if_pos hm] at hb ⊢
        injection hb with hb
        subst hb
        have e1 : (spliceC cs off nc).map (·.2) = fillE (cs.map (·.2)) off new := by
          simp only [spliceC, fillE, List.map_append, List.map_take, List.map_drop, hne, hl2]
        refine ⟨_, rfl, by rw [bare, List.length_map, ← e1, List.length_map], fun k c hc => ?_⟩
        rw [bare, ← e1, List.map_map, List.getElem?_map, Option.map_eq_some_iff] at hc
        obtain ⟨y, hy, rfl⟩ := hc
        exact ⟨y, hy, rfl, .inr rfl⟩
      · rw [if_neg hm] at hb ⊢
        exact ⟨ds, hb, rfl, fun k c hc => ⟨c, hc, rfl, .inl rfl⟩⟩
  · rename_i c hop
    have hnw : isNew o.op = false := by rw [hop]; rfl
    split at hk
    · exact hk.elim
    · rename_i f hf
      split at hk
      case h_2 => exact hk.elim
      rename_i tk g first cap hev
      rw [forceL_eq] at hk
      split at hk
      case h_2 => exact hk.elim
      rename_i bx hp
      rw [forceL_eq, forceB_eq] at hk
      obtain ⟨htk, hcall⟩ := hk
      obtain ⟨callee, ts0, ts⟩ := c
      simp only at hf
      subst hf
      rw [hnw] at hn
      generalize hds : (first.toList.map constD ++ ts0.toList.map T.ev ++ cap.toList.map constD).map D.plain = ds at hp htk hcall
      obtain ⟨hpb, hbt⟩ := pass_bareB T (ptrNames ds) (ptrNames ds) 0 bx (fun _ h => h) hp
      have h' := h.less (less_bareB T (ptrNames ds))
      have hevB : ∀ x, (T.bareB (ptrNames ds)).ev x = T.ev x := fun x => by cases x <;> rfl
      refine call_step h' hop (K := fun S' => ∃ r bx', d = r.plain ∧ backE bx' (ptrNames ds) 0 = some us ∧ S' = (({ (T.bareB (ptrNames ds)) with boxes := backBoxes bx' (ptrNames ds) 0 (T.bareB (ptrNames ds)).boxes } : AS).putO o.dst (if (ptrNames ds).isEmpty then (match o.dst with | some d => r.retok d | none => r) else r.plain))) ?_ fun S' a' w' ⟨r, bx', hr, hb, hS⟩ h' => hn a' w' ?_
      · unfold callK
        simp only [hevB, hev]
        refine ⟨toks (first.toList.map constD ++ ts0.toList.map (T.bareB (ptrNames ds)).ev ++ cap.toList.map constD), ?_⟩
        rw [plainIf_all]
        have e1 : ts0.toList.map (T.bareB (ptrNames ds)).ev = ts0.toList.map T.ev := List.map_congr_left fun x _ => hevB x
        rw [e1, hds]
        simp only [forceL_eq, forceB_eq, hpb, htk, hbt, List.append_nil]
        refine ⟨hd, ?_⟩
        exact CallsX.mono hcall fun r b ⟨h1, h2⟩ => ⟨r, b, h1, h2, rfl⟩
      · subst hS
        subst hr
        refine h'.less ⟨fun i => ?_, fun n cs hc => ?_⟩
        · simp only [AS.addX, get_putO, AS.killO, get_setBoxes]
          by_cases hi : o.dst = some i
          · rw [if_pos hi, if_pos hi]
            split
            · rw [hi]
              cases r with
              | c tk' e => cases tk' with
                | none => exact .inr (.inl rfl)
                | some q => exact .inr (.inr ⟨(i, q.2), e, rfl, rfl⟩)
              | _ => exact .inr (.inl rfl)
            · exact .inr (.inl rfl)
          · rw [if_neg hi, if_neg hi]; exact .inr (.inl rfl)
        · simp only [AS.addX, box_putO, AS.killO, box_setBoxes] at hc
          rw [box_putO]
          obtain ⟨cs', h1, h2⟩ := back_look bx' (ptrNames ds) 0 (T.bareB (ptrNames ds)).boxes us (ptrNames_nd ds) hb n
          simp only [AS.box]
          rw [h1]
          cases hl : look us n with
          | some es =>
            rw [hl] at hc
            simp only [Option.some.injEq] at hc
            subst hc
            rw [h2 es hl]
            refine ⟨cs', rfl, by simp [bare], fun k c hk => ?_⟩
            rw [bare, List.getElem?_map, List.getElem?_map] at hk
            cases hx : cs'[k]? with
            | none => rw [hx] at hk; cases hk
            | some x =>
              rw [hx] at hk
              simp only [Option.map_some, Option.some.injEq] at hk
              subst hk
              exact ⟨x, rfl, rfl, .inr rfl⟩
          | none =>
            rw [hl] at hc
            simp only at hc ⊢
            have hnm : ¬ (ptrNames ds).contains n = true := fun hm => by
              have key : ∀ (ns : List Nat) (i : Nat) (us : Upd), backE bx' ns i = some us → n ∈ ns → look us n ≠ none := by
                intro ns
                induction ns with
                | nil => intro i us _ hm; simp at hm
                | cons m ns ih =>
                  intro i us hb hm
                  simp only [backE] at hb
                  split at hb
                  case h_2 => cases hb
                  injection hb with hb
                  subst hb
                  simp only [look]
                  by_cases e : n = m
                  · rw [if_pos e]; simp
                  · rw [if_neg e]
                    exact ih (i + 1) _ (by assumption) ((List.mem_cons.1 hm).resolve_left e)
              exact key _ 0 us hb (by simpa using hm) hl
            have h3 := box_bareB T (ptrNames ds) n
            rw [hc] at h3
            simp only [Option.map_some, if_neg hnm] at h3
            refine ⟨cs, h3, rfl, fun k c hk => ⟨c, hk, rfl, .inl rfl⟩⟩
    · exact hv hnw hk
  · exact hv (by cases hop : o.op <;> simp_all [isNew]) hk
end
end Go.Am

/- Regions whose operations may come in any order: what is left behind the free operations does not hang on their order. -/
set_option linter.unusedVariables false
set_option linter.unusedSimpArgs false
namespace Go.Am
open Go.RowKit

abbrev Res := D × Upd

section
variable (P : Program) [Gl P] (L : Tab) (nt : Nat) (ops : Array Oper) (m : Nat) (tch : List (List Nat))

def dstAt (i : Nat) : Option Nat := (ops[i]?).bind (·.dst)

/-- What the text's walk says of operation i: acc is the state ahead of it. -/
def FactAt (i : Nat) (o : Oper) (acc : AS) (R : Res) : Prop :=
  okDst nt o.dst = true ∧
  ((o.guard = none ∧ freeStep P L o (acc.mask (hideOf ops m i) (hideB ops m tch i)) R.1 R.2 ∧ (okPtr (hideOf ops m i) (dstsOf (ops.toList.take m)) o.dst R.1 && updIn (tch.getD i []) R.2) = true) ∨
   ∃ j want g, o.guard = some (j, want) ∧ dstAt ops j = some g ∧ ((∃ tk b, acc.get g = .c tk (.v (.bool b)) ∧
     ((b = want ∧ freeStep P L o (acc.mask (hideOf ops m i) (hideB ops m tch i)) R.1 R.2 ∧ (okPtr (hideOf ops m i) (dstsOf (ops.toList.take m)) o.dst R.1 && updIn (tch.getD i []) R.2) = true) ∨ (b = !want ∧ R = (.tup [], [])))) ∨ (acc.get g = .tup [] ∧ R = (.tup [], []))))

def runs : AS → List (Oper × Res) → AS
  | acc, [] => acc
  | acc, (o, R) :: l => runs (acc.add o.dst R.1 R.2) l
theorem runs_snoc : ∀ (l : List (Oper × Res)) (acc : AS) (o : Oper) (R : Res), runs acc (l ++ [(o, R)]) = (runs acc l).add o.dst R.1 R.2
  | [], acc, o, R => rfl
  | (o', R') :: l, acc, o, R => runs_snoc l _ o R

theorem put_same {S : AS} {i : Nat} {tk : Option (Nat × Nat)} {e : E} (h : S.get i = .c tk e) : S.put i (.c tk e) = S := by
  have key : ∀ l : List (Nat × D), (look l i).getD .bot = .c tk e → ins i (.c tk e) l = l := by
    intro l
    induction l with
    | nil => intro h; simp [look] at h
    | cons p l ih =>
      obtain ⟨j, y⟩ := p
      intro h
      simp only [look] at h
      by_cases e : i = j
      · subst e; rw [if_pos rfl, Option.getD_some] at h; subst h; simp [ins]
      · rw [if_neg e] at h; simp [ins, e, ih h]
  obtain ⟨tm, bx⟩ := S
  simp only [AS.put]
  rw [key tm h]
theorem facts_of_freeK : ∀ (rest : List Oper) (i : Nat) (acc : AS) (K : AS → Prop), freeK P L nt ops m tch rest i acc K →
    ∃ Rs : List Res, Rs.length = rest.length ∧ K (runs acc (rest.zip Rs)) ∧ ∀ k o R, rest[k]? = some o → Rs[k]? = some R → FactAt P L nt ops m tch (i + k) o (runs acc ((rest.zip Rs).take k)) R
  | [], i, acc, K, h => ⟨[], rfl, h, fun k o R h => by simp at h⟩
  | o :: rest, i, acc, K, h => by
    simp only [freeK, forceS_eq] at h
    obtain ⟨hd, h⟩ := h
    have step : ∀ R : Res, FactAt P L nt ops m tch i o acc R → freeK P L nt ops m tch rest (i + 1) (acc.add o.dst R.1 R.2) K →
        ∃ Rs : List Res, Rs.length = (o :: rest).length ∧ K (runs acc ((o :: rest).zip Rs)) ∧ ∀ k o' R, (o :: rest)[k]? = some o' → Rs[k]? = some R → FactAt P L nt ops m tch (i + k) o' (runs acc (((o :: rest).zip Rs).take k)) R := by
      intro R hf hk
      obtain ⟨Rs, h1, h2, h3⟩ := facts_of_freeK rest (i + 1) _ K hk
      refine ⟨R :: Rs, by simp [h1], h2, fun k o' R' ho hR => ?_⟩
      cases k with
      | zero => simp only [List.getElem?_cons_zero, Option.some.injEq] at ho hR; subst ho hR; exact hf
      | succ k =>
        have := h3 k o' R' (by simpa using ho) (by simpa using hR)
        rwa [show i + (k + 1) = i + 1 + k by omega]
    split at h
    · rename_i hg
      obtain ⟨d, bx, h1, h2, h3⟩ := h
      exact step (d, bx) ⟨hd, .inl ⟨hg, h1, h2⟩⟩ h3
    · rename_i j want hg
      split at h
      case h_2 => exact h.elim
      rename_i g hj
      split at h
      case h_3 => exact h.elim
      case h_2 hb => exact step (.tup [], []) ⟨hd, .inr ⟨j, want, g, hg, hj, .inr ⟨hb, rfl⟩⟩⟩ h
      rename_i tk b hb
      by_cases hbw : b = want
      · have hp : acc.put g (.c tk (.v (.bool want))) = acc := put_same (by rw [hb, hbw])
        rw [hp] at h
        obtain ⟨d, bx, h1, h2, h3⟩ := branchG_yes h hbw
        exact step (d, bx) ⟨hd, .inr ⟨j, want, g, hg, hj, .inl ⟨tk, b, hb, .inl ⟨hbw, h1, h2⟩⟩⟩⟩ h3
      · have hbn : b = !want := by cases b <;> cases want <;> simp_all
        have hp : acc.put g (.c tk (.v (.bool (!want)))) = acc := put_same (by rw [hb, hbn])
        rw [hp] at h
        exact step (.tup [], []) ⟨hd, .inr ⟨j, want, g, hg, hj, .inl ⟨tk, b, hb, .inr ⟨hbn, rfl⟩⟩⟩⟩ (branchG_no h hbn)

variable {ops m tch}
/-- T is S with the results of the operations of X; of several that write to one box the last counts. -/
structure TSpec (ops : Array Oper) (S : AS) (R : Nat → Res) (X : Nat → Prop) (T : AS) : Prop where
  get : ∀ t, (∃ i, X i ∧ dstAt ops i = some t ∧ T.get t = (R i).1) ∨ ((∀ i, X i → dstAt ops i ≠ some t) ∧ T.get t = S.get t)
  box : ∀ n, (∃ i es, X i ∧ look (R i).2 n = some es ∧ T.box n = some (bare es) ∧ ∀ j, X j → look (R j).2 n ≠ none → j = i ∨ j ∈ preOf ops i) ∨ ((∀ i, X i → look (R i).2 n = none) ∧ T.box n = S.box n)

theorem TSpec.start (S : AS) (R : Nat → Res) (X : Nat → Prop) (hX : ∀ i, ¬ X i) : TSpec ops S R X S := ⟨fun t => .inr ⟨fun i h => absurd h (hX i), rfl⟩, fun n => .inr ⟨fun i h => absurd h (hX i), rfl⟩⟩

theorem TSpec.at_ {S : AS} {R : Nat → Res} {X : Nat → Prop} {T : AS} (h : TSpec ops S R X T) (huniq : ∀ i j t, X i → X j → dstAt ops i = some t → dstAt ops j = some t → i = j) {i t : Nat} (hi : X i) (ht : dstAt ops i = some t) : T.get t = (R i).1 := by
  rcases h.get t with ⟨j, hj, hjt, e⟩ | ⟨hno, _⟩
  · rw [huniq i j t hi hj ht hjt]; exact e
  · exact absurd ht (hno i hi)
theorem TSpec.off {S : AS} {R : Nat → Res} {X : Nat → Prop} {T : AS} (h : TSpec ops S R X T) {t : Nat} (hno : ∀ i, X i → dstAt ops i ≠ some t) : T.get t = S.get t := by
  rcases h.get t with ⟨j, hj, hjt, _⟩ | ⟨_, e⟩
  · exact absurd hjt (hno j hj)
  · exact e
/-- Two states in which the same operations have written to a box agree on it. -/
theorem TSpec.same {S : AS} {R : Nat → Res} {X Y : Nat → Prop} {T A : AS} (h : TSpec ops S R X T) (k : TSpec ops S R Y A) (hlt : ∀ i j, j ∈ preOf ops i → j < i) {n : Nat} (hxy : ∀ i, look (R i).2 n ≠ none → (X i ↔ Y i)) : T.box n = A.box n := by
  rcases h.box n with ⟨i, es, hi, hu, e, hl⟩ | ⟨hno, e⟩
  · have hui : look (R i).2 n ≠ none := by rw [hu]; simp
    rcases k.box n with ⟨j, es', hj, hu', e', hl'⟩ | ⟨hno', _⟩
    · have huj : look (R j).2 n ≠ none := by rw [hu']; simp
      have : i = j := by
        rcases hl j ((hxy j huj).2 hj) huj with h1 | h1
        · exact h1.symm
        · rcases hl' i ((hxy i hui).1 hi) hui with h2 | h2
          · exact h2
          · have := hlt _ _ h1; have := hlt _ _ h2; omega
      subst this
      rw [hu] at hu'
      injection hu' with hu'
      rw [e, e', hu']
    · exact absurd (hno' i ((hxy i hui).1 hi)) hui
  · rcases k.box n with ⟨j, es', hj, hu', e', hl'⟩ | ⟨_, e'⟩
    · have huj : look (R j).2 n ≠ none := by rw [hu']; simp
      exact absurd (hno j ((hxy j huj).2 hj)) huj
    · rw [e, e']

/-- One more result: with or without forgetting addresses that nobody holds. -/
theorem TSpec.step {S : AS} {R : Nat → Res} {X : Nat → Prop} {T T' : AS} (h : TSpec ops S R X T) {i : Nat}
    (hord : ∀ n j, look (R i).2 n ≠ none → X j → look (R j).2 n ≠ none → j ∈ preOf ops i)
    (hget : ∀ t, T'.get t = if dstAt ops i = some t then (R i).1 else T.get t) (hbox : ∀ n, T'.box n = match look (R i).2 n with | some es => some (bare es) | none => T.box n) :
    TSpec ops S R (fun j => X j ∨ j = i) T' := by
  constructor
  · intro t
    rw [hget]
    by_cases he : dstAt ops i = some t
    · rw [if_pos he]; exact .inl ⟨i, .inr rfl, he, rfl⟩
    · rw [if_neg he]
      rcases h.get t with ⟨j, hj, hjt, e⟩ | ⟨hno, e⟩
      · exact .inl ⟨j, .inl hj, hjt, e⟩
      · exact .inr ⟨fun j hj => hj.elim (hno j) (fun e' => e' ▸ he), e⟩
  · intro n
    rw [hbox]
    cases hl : look (R i).2 n with
    | some es =>
      refine .inl ⟨i, es, .inr rfl, hl, rfl, fun j hj hu => ?_⟩
      rcases hj with hj | hj
      · exact .inr (hord n j (by rw [hl]; simp) hj hu)
      · exact .inl hj
    | none =>
      rcases h.box n with ⟨j, es, hj, hu, e, hlast⟩ | ⟨hno, e⟩
      · refine .inl ⟨j, es, .inl hj, hu, e, fun k hk hku => ?_⟩
        rcases hk with hk | rfl
        · exact hlast k hk hku
        · exact absurd hl hku
      · refine .inr ⟨fun j hj => ?_, e⟩
        rcases hj with hj | rfl
        · exact hno j hj
        · exact hl

/-! ### the cleaned state -/
theorem look_filter {α : Type} (ts : List Nat) : ∀ (l : List (Nat × α)) (i : Nat), look (l.filter fun p => !ts.contains p.1) i = if ts.contains i then none else look l i
  | [], i => by simp [look]
  | (j, x) :: l, i => by
    simp only [List.filter_cons]
    by_cases h : ts.contains j
    · simp only [h, Bool.not_true, Bool.false_eq_true, if_false, look_filter ts l i, look]
      by_cases hij : i = j
      · subst hij; simp only [h, if_true]
      · rw [if_neg hij]
    · have h : ts.contains j = false := by simpa using h
      simp only [h, Bool.not_false, if_true, look, look_filter ts l i]
      by_cases hij : i = j
      · subst hij; simp only [if_true, h, Bool.false_eq_true, if_false]
      · simp only [if_neg hij]
theorem get_drop (S : AS) (ts : List Nat) (i : Nat) : (S.drop ts).get i = if ts.contains i then .bot else cleanD ts (S.get i) := by
  simp only [AS.get, AS.drop, mapV_eq, look_map, look_filter]
  split
  · rfl
  · cases look S.tmps i <;> rfl
theorem box_drop (S : AS) (ts : List Nat) (n : Nat) : (S.drop ts).box n = if ts.contains n then none else (S.box n).map (·.map (cleanC ts)) := by
  simp only [AS.box, AS.drop, mapV_eq, look_map, look_filter]
  split <;> rfl
theorem less_drop (S : AS) (ts : List Nat) : Less S (S.drop ts) where
  get i := by
    rw [get_drop]
    split
    · exact .inl rfl
    · cases hd : S.get i with
      | ptr n off => simp only [cleanD]; split; exact .inl rfl; exact .inr (.inl rfl)
      | c tk e => cases tk with
        | none => exact .inr (.inl rfl)
        | some q => obtain ⟨q1, q2⟩ := q; simp only [cleanD]; split; exact .inr (.inr ⟨_, _, rfl, rfl⟩); exact .inr (.inl rfl)
      | _ => exact .inr (.inl rfl)
  box n cs h := by
    rw [box_drop] at h
    split at h
    · cases h
    · cases hb : S.box n with
      | none => simp [hb] at h
      | some ds =>
        rw [hb] at h
        simp only [Option.map_some, Option.some.injEq] at h
        subst h
        refine ⟨ds, rfl, by simp, fun k c hc => ?_⟩
        rw [List.getElem?_map] at hc
        cases hk : ds[k]? with
        | none => simp [hk] at hc
        | some d =>
          rw [hk] at hc
          simp only [Option.map_some, Option.some.injEq] at hc
          subst hc
          refine ⟨d, rfl, ?_⟩
          obtain ⟨tk, e⟩ := d
          cases tk with
          | none => exact ⟨rfl, .inl rfl⟩
          | some q => obtain ⟨q1, q2⟩ := q; simp only [cleanC]; split; exact ⟨rfl, .inr rfl⟩; exact ⟨rfl, .inl rfl⟩
theorem drop_ptr (S : AS) (ts : List Nat) {t : Nat} (ht : t ∈ ts) (i off : Nat) : (S.drop ts).get i ≠ .ptr t off := by
  rw [get_drop]
  split
  · simp
  · cases hd : S.get i with
    | ptr n o => simp only [cleanD]; split <;> simp; rintro rfl; simp_all
    | c tk e => cases tk with
      | none => simp [cleanD]
      | some q => obtain ⟨q1, q2⟩ := q; simp only [cleanD]; split <;> simp
    | _ => simp [cleanD]
theorem drop_tok (S : AS) (ts : List Nat) {t : Nat} (ht : t ∈ ts) (i k : Nat) (e : E) : (S.drop ts).get i ≠ .c (some (t, k)) e := by
  rw [get_drop]
  split
  · simp
  · cases hd : S.get i with
    | ptr n o => simp only [cleanD]; split <;> simp
    | c tk e => cases tk with
      | none => simp [cleanD]
      | some q => obtain ⟨q1, q2⟩ := q; simp only [cleanD]; split <;> simp; rintro rfl; simp_all
    | _ => simp [cleanD]
theorem drop_btok (S : AS) (ts : List Nat) {t : Nat} (ht : t ∈ ts) (n : Nat) (cs : List Cell) (hb : (S.drop ts).box n = some cs) (j k : Nat) (e : E) : cs[j]? ≠ some (some (t, k), e) := by
  rw [box_drop] at hb
  split at hb
  · cases hb
  · cases hbx : S.box n with
    | none => simp [hbx] at hb
    | some ds =>
      rw [hbx] at hb
      simp only [Option.map_some, Option.some.injEq] at hb
      subst hb
      rw [List.getElem?_map]
      cases hk : ds[j]? with
      | none => simp
      | some d =>
        obtain ⟨tk, e'⟩ := d
        cases tk with
        | none => simp [cleanC]
        | some q => obtain ⟨q1, q2⟩ := q; simp only [Option.map_some, cleanC]; split <;> simp; rintro rfl; simp_all
/-- Without a token of this name, taking it away changes nothing. -/
theorem strip_less {T : AS} {t : Nat} (h1 : ∀ i k e, T.get i ≠ .c (some (t, k)) e) (h2 : ∀ n cs, T.box n = some cs → ∀ (j k : Nat) (e : E), cs[j]? ≠ some (some (t, k), e)) : Less (T.strip t) T where
  get i := by
    refine .inr (.inl ?_)
    rw [get_strip]
    cases hd : T.get i with
    | c tk e => cases tk with
      | none => rfl
      | some q =>
        obtain ⟨q1, q2⟩ := q
        simp only [stripD]
        rw [if_neg]
        rintro rfl
        exact h1 i _ _ hd
    | _ => rfl
  box n cs hb := by
    refine ⟨cs.map (stripC t), by rw [box_strip, hb]; rfl, by simp, fun k c hc => ⟨c, ?_, rfl, .inl rfl⟩⟩
    rw [List.getElem?_map, hc]
    obtain ⟨tk, e⟩ := c
    cases tk with
    | none => rfl
    | some q =>
      obtain ⟨q1, q2⟩ := q
      simp only [Option.map_some, stripC]
      rw [if_neg]
      rintro rfl
      exact h2 n cs hb k _ _ hc
end
end Go.Am

/- Regions whose operations may come in any order: the soundness. -/
set_option linter.unusedVariables false
set_option linter.unusedSimpArgs false
namespace Go.Am
open Go.RowKit

structure DOk (ops : Array Oper) (m : Nat) (tch : List (List Nat)) : Prop where
  touch : ∀ i j n, i < m → j < m → i ≠ j → n ∈ tch.getD i [] → n ∈ tch.getD j [] → j ∈ preOf ops i ∨ i ∈ preOf ops j
  hm : m ≤ ops.size
  dir : ∀ i o, ops[i]? = some o → ∀ j ∈ direct o, j < i
  guard : ∀ i o j want, ops[i]? = some o → o.guard = some (j, want) → j ∈ preOf ops i ∧ j < i
  tail : ∀ i, m ≤ i → i < ops.size → ∀ j, j < i → j ∈ preOf ops i
  own : ∀ i o t, i < m → ops[i]? = some o → o.dst = some t → t ∉ tmpsOf o
  free : ∀ i o j t, i < m → ops[i]? = some o → j < m → j ≠ i → dstAt ops j = some t → o.dst ≠ some t ∧ (t ∈ tmpsOf o → j ∈ preOf ops i)

theorem dok_of {ops : Array Oper} {m : Nat} {tch : List (List Nat)} (h : drawOk ops m tch = true) : DOk ops m tch := by
  unfold drawOk at h
  rw [Bool.and_eq_true, Bool.and_eq_true] at h
  obtain ⟨⟨h0, h1⟩, h2⟩ := h
  have hm : m ≤ ops.size := of_decide_eq_true h1
  have key : ∀ i o, ops[i]? = some o → _ := fun i o ho => by
    have hi : i < ops.size := (Array.getElem?_eq_some_iff.1 ho).1
    have := List.all_eq_true.1 h2 i (List.mem_range.2 hi)
    rw [ho] at this
    exact this
  have key2 : ∀ i o, ops[i]? = some o → ((direct o).all (· < i) = true ∧ (match o.guard with | some (j, _) => (preOf ops i).contains j && decide (j < i) | none => true) = true ∧
      (if m ≤ i then (List.range i).all fun j => (preOf ops i).contains j
       else (match o.dst with | some t => !(tmpsOf o).contains t | none => true) && (List.range m).all fun j => j == i || (match (ops[j]?).bind (·.dst) with
         | some t => !(o.dst == some t) && (!(tmpsOf o).contains t || (preOf ops i).contains j) && (match o.guard with | some (g, _) => !((ops[g]?).bind (·.dst) == some t) || (preOf ops i).contains j | none => true)
         | none => true)) = true) := fun i o ho => by
    have := key i o ho
    rw [Bool.and_eq_true, Bool.and_eq_true] at this
    exact ⟨this.1.1, this.1.2, this.2⟩
  refine ⟨fun i j n hi hj hne h3 h4 => ?_, hm, fun i o ho j hj => ?_, fun i o j want ho hg => ?_, fun i hi hlt j hj => ?_, fun i o t hi ho hd => ?_, fun i o j t hi ho hj hne hd => ?_⟩
  · have h5 := List.all_eq_true.1 h0 i (List.mem_range.2 hi)
    have h6 := List.all_eq_true.1 h5 j (List.mem_range.2 hj)
    simp only [Bool.or_eq_true, beq_iff_eq, hne, false_or] at h6
    have h7 := List.all_eq_true.1 h6 n h3
    simp only [Bool.or_eq_true, Bool.not_eq_true', List.contains_iff_mem] at h7
    rcases h7 with (h7 | h7) | h7
    · have : (tch.getD j []).contains n = true := by simpa using h4
      rw [this] at h7; cases h7
    · exact .inl h7
    · exact .inr h7
  · have := List.all_eq_true.1 (key2 i o ho).1 j hj
    simpa using this
  · have := (key2 i o ho).2.1
    rw [hg] at this
    simp only [Bool.and_eq_true, List.contains_iff_mem, decide_eq_true_eq] at this
    exact this
  · have ho : ops[i]? = some ops[i] := by simp [hlt]
    have := (key2 i _ ho).2.2
    rw [if_pos hi] at this
    have := List.all_eq_true.1 this j (List.mem_range.2 hj)
    simpa using this
  · have := (key2 i _ ho).2.2
    rw [if_neg (by omega)] at this
    simp only [Bool.and_eq_true] at this
    have := this.1
    rw [hd] at this
    simpa using this
  · have := (key2 i _ ho).2.2
    rw [if_neg (by omega)] at this
    simp only [Bool.and_eq_true] at this
    have := List.all_eq_true.1 this.2 j (List.mem_range.2 hj)
    have hd' : (ops[j]?).bind (·.dst) = some t := hd
    rw [hd'] at this
    simp only [Bool.or_eq_true, beq_iff_eq, hne, false_or, Bool.and_eq_true, Bool.not_eq_true', beq_eq_false_iff_ne, ne_eq] at this
    refine ⟨this.1.1, fun ht => ?_⟩
    rcases this.1.2 with h' | h'
    · simp [ht] at h'
    · simpa using h'

/-! ### what comes before -/
theorem presAux_old : ∀ (os : List Oper) (acc : List (List Nat)) (j : Nat), j < acc.length → (presAux os acc).getD j [] = acc.getD j []
  | [], acc, j, _ => rfl
  | o :: os, acc, j, hj => by
    simp only [presAux]
    rw [presAux_old os _ j (by simp; omega)]
    simp [List.getD, List.getElem?_append_left hj]
theorem presAux_new : ∀ (os : List Oper) (acc : List (List Nat)) (k : Nat) (o : Oper), os[k]? = some o →
    (presAux os acc).getD (acc.length + k) [] = direct o ++ (direct o).flatMap fun j => if j < acc.length + k then (presAux os acc).getD j [] else []
  | [], acc, k, o, h => by simp at h
  | o' :: os, acc, 0, o, h => by
    simp only [List.getElem?_cons_zero, Option.some.injEq] at h
    subst h
    simp only [presAux, Nat.add_zero]
    rw [presAux_old os _ acc.length (by simp)]
    have h1 : (acc ++ [direct o' ++ (direct o').flatMap fun j => acc.getD j []]).getD acc.length [] = direct o' ++ (direct o').flatMap fun j => acc.getD j [] := by simp [List.getD]
    rw [h1]
    congr 1
    congr 1
    funext j
    by_cases hj : j < acc.length
    · rw [if_pos hj, presAux_old os _ j (by simp; omega)]; simp [List.getD, List.getElem?_append_left hj]
    · rw [if_neg hj]; simp [List.getD, List.getElem?_eq_none (Nat.le_of_not_lt hj)]
  | o' :: os, acc, k + 1, o, h => by
    simp only [presAux]
    have := presAux_new os (acc ++ [direct o' ++ (direct o').flatMap fun j => acc.getD j []]) k o (by simpa using h)
    simp only [List.length_append, List.length_cons, List.length_nil] at this
    rw [show acc.length + (k + 1) = acc.length + (0 + 1) + k by omega]
    exact this
theorem preOf_eq {ops : Array Oper} {i : Nat} {o : Oper} (ho : ops[i]? = some o) (hd : ∀ j ∈ direct o, j < i) : ∀ k, k ∈ preOf ops i ↔ k ∈ direct o ∨ ∃ j ∈ direct o, k ∈ preOf ops j := by
  intro k
  have h := presAux_new ops.toList [] i o (by simpa using ho)
  simp only [List.length_nil, Nat.zero_add] at h
  unfold preOf pres
  rw [h, List.mem_append, List.mem_flatMap]
  constructor
  · rintro (h1 | ⟨j, hj, hk⟩)
    · exact .inl h1
    · rw [if_pos (hd j hj)] at hk; exact .inr ⟨j, hj, hk⟩
  · rintro (h1 | ⟨j, hj, hk⟩)
    · exact .inl h1
    · exact .inr ⟨j, hj, by rw [if_pos (hd j hj)]; exact hk⟩
theorem preOf_none {ops : Array Oper} {i : Nat} (h : ops[i]? = none) : preOf ops i = [] := by
  have hlen : ∀ (os : List Oper) (acc : List (List Nat)), (presAux os acc).length = acc.length + os.length := by
    intro os
    induction os with
    | nil => intro acc; simp [presAux]
    | cons o os ih => intro acc; simp [presAux, ih]; omega
  unfold preOf pres
  have : ops.size ≤ i := by simpa using h
  simp [List.getD, List.getElem?_eq_none (show (presAux ops.toList []).length ≤ i by rw [hlen]; simp; omega)]

section
variable {ops : Array Oper} {m : Nat} {tch : List (List Nat)} (ok : DOk ops m tch)

include ok in
theorem pre_closed {X : Nat → Prop} (hcl : ∀ j o, X j → ops[j]? = some o → ∀ k ∈ direct o, X k) : ∀ i o, ops[i]? = some o → (∀ k ∈ direct o, X k) → ∀ k ∈ preOf ops i, X k := by
  intro i
  induction i using Nat.strongRecOn with
  | _ i ih =>
    intro o ho hd k hk
    rcases (preOf_eq ho (ok.dir i o ho) k).1 hk with h | ⟨j, hj, hk⟩
    · exact hd k h
    · have hji := ok.dir i o ho j hj
      cases hoj : ops[j]? with
      | none => rw [preOf_none hoj] at hk; simp at hk
      | some oj => exact ih j hji oj hoj (hcl j oj (hd j hj) hoj) k hk
include ok in
theorem pre_lt : ∀ i k, k ∈ preOf ops i → k < i := by
  intro i
  induction i using Nat.strongRecOn with
  | _ i ih =>
    intro k hk
    cases ho : ops[i]? with
    | none => rw [preOf_none ho] at hk; simp at hk
    | some o =>
      rcases (preOf_eq ho (ok.dir i o ho) k).1 hk with h | ⟨j, hj, hk⟩
      · exact ok.dir i o ho k h
      · have := ok.dir i o ho j hj; have := ih j this k hk; omega
include ok in
theorem uniq (i j t : Nat) (hi : i < m) (hj : j < m) (h1 : dstAt ops i = some t) (h2 : dstAt ops j = some t) : i = j := by
  rcases Nat.decEq i j with hne | he
  · cases ho : ops[i]? with
    | none => simp [dstAt, ho] at h1
    | some o =>
      have := (ok.free i o j t hi ho hj (fun e => hne e.symm) h2).1
      simp only [dstAt, ho, Option.bind_some] at h1
      exact absurd h1 this
  · exact he

/-! ### hiding -/
theorem mask_get (S : AS) (ts bs : List Nat) (i : Nat) : (S.mask ts bs).get i = if ts.contains i then .bot else S.get i := by
  simp only [AS.get, AS.mask, look_filter]; split <;> rfl
theorem mask_box (S : AS) (ts bs : List Nat) (n : Nat) : (S.mask ts bs).box n = if bs.contains n then none else S.box n := by
  simp only [AS.box, AS.mask, look_filter]
theorem mem_hideB {i j n : Nat} (hj : j < m) (hne : j ≠ i) (h1 : j ∉ preOf ops i) (h2 : i ∉ preOf ops j) (hn : n ∈ tch.getD j []) : n ∈ hideB ops m tch i := by
  unfold hideB
  rw [List.mem_flatMap]
  refine ⟨j, List.mem_range.2 hj, ?_⟩
  rw [if_neg]
  · exact hn
  · simp only [Bool.or_eq_true, beq_iff_eq, List.contains_iff_mem, not_or]; exact ⟨⟨hne, h1⟩, h2⟩
theorem mem_hide {i t : Nat} : t ∈ hideOf ops m i ↔ ∃ j, j < m ∧ j ∉ preOf ops i ∧ dstAt ops j = some t := by
  unfold hideOf
  rw [List.mem_filterMap]
  constructor
  · rintro ⟨j, hj, h⟩
    split at h
    · cases h
    · rename_i hc; exact ⟨j, List.mem_range.1 hj, by simpa using hc, h⟩
  · rintro ⟨j, hj, hn, h⟩
    exact ⟨j, List.mem_range.2 hj, by rw [if_neg (by simpa using hn)]; exact h⟩
end
end Go.Am

/- Regions whose operations may come in any order: the theorem. -/
set_option linter.unusedVariables false
set_option linter.unusedSimpArgs false
namespace Go.Am
open Go.RowKit

section
variable {P : Program} [Gl P] {L : Tab} (hL : TOk P L) {nt : Nat} (hnt : nt ≤ EXT) {w0 : World} {M0 : Nat → Prop} {S0 : Stab} {ρ0 : Nat → Nat} {ops : Array Oper} {m : Nat} {tch : List (List Nat)} (ok : DOk ops m tch)

/-- The state in which the free operations begin. -/
def Base (ops : Array Oper) (m : Nat) (S : AS) : AS := S.drop (dstsOf (ops.toList.take m))

theorem mem_dsts {t : Nat} : t ∈ dstsOf (ops.toList.take m) ↔ ∃ i, i < m ∧ dstAt ops i = some t := by
  unfold dstsOf
  rw [List.mem_filterMap]
  constructor
  · rintro ⟨o, ho, hd⟩
    obtain ⟨i, hi⟩ := List.getElem?_of_mem ho
    rw [List.getElem?_take] at hi
    split at hi
    · rename_i hlt
      rw [Array.getElem?_toList] at hi
      exact ⟨i, hlt, by simp [dstAt, hi, hd]⟩
    · cases hi
  · rintro ⟨i, hi, hd⟩
    unfold dstAt at hd
    cases ho : ops[i]? with
    | none => simp [ho] at hd
    | some o =>
      rw [ho] at hd
      refine ⟨o, ?_, hd⟩
      have : (ops.toList.take m)[i]? = some o := by rw [List.getElem?_take, if_pos hi, Array.getElem?_toList, ho]
      exact List.mem_of_getElem? this

variable {S : AS} {R : Nat → Res}

/-- What the text's walk has found of the free operations. -/
structure Facts (P : Program) [Gl P] (L : Tab) (nt : Nat) (ops : Array Oper) (m : Nat) (tch : List (List Nat)) (S : AS) (R : Nat → Res) (accs : Nat → AS) : Prop where
  fact : ∀ i o, i < m → ops[i]? = some o → FactAt P L nt ops m tch i o (accs i) (R i)
  spec : ∀ k, k ≤ m → TSpec ops (Base ops m S) R (· < k) (accs k)

theorem look_upd {tc : List Nat} {us : Upd} (h : updIn tc us = true) {n : Nat} (hl : look us n ≠ none) : n ∈ tc := by
  induction us with
  | nil => exact absurd rfl hl
  | cons p us ih =>
    obtain ⟨k, es⟩ := p
    simp only [updIn, List.all_cons, Bool.and_eq_true] at h
    simp only [look] at hl
    by_cases e : n = k
    · subst e; simpa using h.1
    · rw [if_neg e] at hl; exact ih h.2 hl
theorem upd_in {i : Nat} {o : Oper} {acc : AS} {R : Res} (h : FactAt P L nt ops m tch i o acc R) {n : Nat} (hl : look R.2 n ≠ none) : n ∈ tch.getD i [] := by
  have key : ∀ {b : Bool}, (b && updIn (tch.getD i []) R.2) = true → n ∈ tch.getD i [] := fun hb => look_upd (by rw [Bool.and_eq_true] at hb; exact hb.2) hl
  obtain ⟨_, hf⟩ := h
  rcases hf with ⟨_, _, h3⟩ | ⟨_, _, _, _, _, ⟨_, _, _, ⟨_, _, h3⟩ | ⟨_, h3⟩⟩ | ⟨_, h3⟩⟩
  · exact key h3
  · exact key h3
  · rw [h3] at hl; exact absurd rfl hl
  · rw [h3] at hl; exact absurd rfl hl
include ok in
theorem facts_of {K : AS → Prop} (h : freeK P L nt ops m tch (ops.toList.take m) 0 (Base ops m S) K) : ∃ R accs, Facts P L nt ops m tch S R accs ∧ K (accs m) := by
  obtain ⟨Rs, h1, h2, h3⟩ := facts_of_freeK P L nt ops m tch _ 0 _ K h
  have hlen : (ops.toList.take m).length = m := by rw [List.length_take, Array.length_toList]; have := ok.hm; omega
  have hzl : ((ops.toList.take m).zip Rs).length = m := by rw [List.length_zip, h1, hlen]; omega
  let R : Nat → Res := fun i => (Rs[i]?).getD (.bot, [])
  let accs : Nat → AS := fun k => runs (Base ops m S) (((ops.toList.take m).zip Rs).take k)
  have hR : ∀ i, i < m → Rs[i]? = some (R i) := fun i hi => by
    have : i < Rs.length := by omega
    simp [R, this]
  have hop : ∀ i o, i < m → ops[i]? = some o → (ops.toList.take m)[i]? = some o := fun i o hi ho => by rw [List.getElem?_take, if_pos hi, Array.getElem?_toList, ho]
  have hfact : ∀ i o, i < m → ops[i]? = some o → FactAt P L nt ops m tch i o (accs i) (R i) := fun i o hi ho => by
    have := h3 i o (R i) (hop i o hi ho) (hR i hi)
    rwa [Nat.zero_add] at this
  refine ⟨R, accs, ⟨hfact, fun k hk => ?_⟩, ?_⟩
  · induction k with
    | zero => exact TSpec.start _ _ _ (fun i h => by omega)
    | succ k ih =>
      have hk' : k < m := by omega
      have hko : k < ops.size := by have := ok.hm; omega
      have ho : ops[k]? = some (ops[k]'hko) := by simp [hko]
      have hz : ((ops.toList.take m).zip Rs)[k]? = some (ops[k]'hko, R k) := by
        rw [List.getElem?_zip_eq_some]
        exact ⟨hop k _ hk' ho, hR k hk'⟩
      have hrun : accs (k + 1) = (accs k).add (ops[k]'hko).dst (R k).1 (R k).2 := by
        show runs _ _ = _
        have hz2 := (List.getElem?_eq_some_iff.1 hz).2
        rw [List.take_succ_eq_append_getElem (by omega), hz2]
        exact runs_snoc _ _ _ _
      have hdst : dstAt ops k = (ops[k]'hko).dst := by simp [dstAt, ho]
      have := (ih (by omega)).step (T' := accs (k + 1)) (i := k) (fun n j h4 h5 h6 => by
          rcases ok.touch k j n hk' (by omega) (by omega) (upd_in (hfact k _ hk' ho) h4) (upd_in (hfact j (ops[j]'(by omega)) (by omega) (by simp [show j < ops.size by omega])) h6) with h7 | h7
          · exact h7
          · have := pre_lt ok j k h7; omega) (fun t => ?_) (fun n => ?_)
      · refine ⟨fun t => ?_, fun n => ?_⟩
        · rcases this.get t with ⟨j, hj, e⟩ | ⟨hno, e⟩
          · exact .inl ⟨j, by omega, e⟩
          · exact .inr ⟨fun j hj => hno j (by omega), e⟩
        · rcases this.box n with ⟨j, es, hj, h7, h8, h9⟩ | ⟨hno, e⟩
          · exact .inl ⟨j, es, by omega, h7, h8, fun i hi => h9 i (by omega)⟩
          · exact .inr ⟨fun j hj => hno j (by omega), e⟩
      · rw [hrun, hdst, AS.add, get_putO, get_setBoxes]
      · rw [hrun, AS.add, box_putO, box_setBoxes]; try (cases look (R k).2 n <;> rfl)
  · show K (runs _ _)
    rw [List.take_of_length_le (by omega)]
    exact h2

/-- Free operations: X of them are done. -/
structure Ph1 (P : Program) [Gl P] (nt : Nat) (w0 : World) (M0 : Nat → Prop) (S0 : Stab) (ρ0 : Nat → Nat) (ops : Array Oper) (m : Nat) (S : AS) (R : Nat → Res) (X : Nat → Prop) (a : Act) (w : World) : Prop where
  lt : ∀ i, X i → i < m
  cl : ∀ j o, X j → ops[j]? = some o → ∀ k ∈ direct o, X k
  rel : ∃ T, TSpec ops (Base ops m S) R X T ∧ ARel P nt w0 M0 S0 ρ0 T a w

variable {accs : Nat → AS} (F : Facts P L nt ops m tch S R accs)


theorem TSpec.mono_iff {S : AS} {R : Nat → Res} {X Y : Nat → Prop} {T : AS} (h : TSpec ops S R X T) (he : ∀ i, X i ↔ Y i) : TSpec ops S R Y T := by
  have : X = Y := funext fun i => propext (he i)
  rw [← this]; exact h

include ok F in
/-- Between the text's state and one that comes about in another order: what this operation may look at is the same. -/
theorem look_same {X : Nat → Prop} (hlt : ∀ i, X i → i < m) {T : AS} (hT : TSpec ops (Base ops m S) R X T) {i : Nat} {o : Oper} (hi : i < m) (hX : ¬ X i) (ho : ops[i]? = some o) (hpre : ∀ k ∈ preOf ops i, X k) (hcl : ∀ j, X j → ∀ k ∈ preOf ops j, X k) :
    (∀ x ∈ o.op.operands, ((accs i).mask (hideOf ops m i) (hideB ops m tch i)).ev x = T.ev x) ∧ (∀ n cs, ((accs i).mask (hideOf ops m i) (hideB ops m tch i)).box n = some cs → T.box n = some cs) ∧ ∀ j g, j ∈ preOf ops i → dstAt ops j = some g → (accs i).get g = T.get g := by
  have hA := F.spec i (Nat.le_of_lt hi)
  have huA : ∀ i' j t, i' < i → j < i → dstAt ops i' = some t → dstAt ops j = some t → i' = j := fun i' j t h1 h2 => uniq ok i' j t (by omega) (by omega)
  have huX : ∀ i' j t, X i' → X j → dstAt ops i' = some t → dstAt ops j = some t → i' = j := fun i' j t h1 h2 => uniq ok i' j t (hlt _ h1) (hlt _ h2)
  have same : ∀ j g, j ∈ preOf ops i → dstAt ops j = some g → (accs i).get g = T.get g := fun j g hj hg => by
    have hji := pre_lt ok i j hj
    exact (hA.at_ huA hji hg).trans (hT.at_ huX (hpre j hj) hg).symm
  have off : ∀ t, (∀ j, j < m → dstAt ops j ≠ some t) → (accs i).get t = T.get t := fun t ht =>
    (hA.off (t := t) (fun j hj => ht j (by omega))).trans (hT.off (t := t) (fun j hj => ht j (hlt j hj))).symm
  refine ⟨fun x hx => ?_, fun n cs hn => ?_, fun j g hj hg => same j g hj hg⟩
  · cases x with
    | tmp t =>
      have htm : t ∈ tmpsOf o := by
        unfold tmpsOf
        rw [List.mem_filterMap]
        exact ⟨.tmp t, by simpa using hx, rfl⟩
      simp only [AS.ev]
      rw [mask_get]
      by_cases hd : ∃ j, j < m ∧ dstAt ops j = some t
      · obtain ⟨j, hj, hjt⟩ := hd
        have hji : j ≠ i := by
          rintro rfl
          exact ok.own j o t hj ho (by simpa [dstAt, ho] using hjt) htm
        have hpj := (ok.free i o j t hi ho hj hji hjt).2 htm
        rw [if_neg, same j t hpj hjt]
        intro hc
        have hc : t ∈ hideOf ops m i := by simpa using hc
        obtain ⟨k, hk, hnk, hkt⟩ := mem_hide.1 hc
        rw [uniq ok k j t hk hj hkt hjt] at hnk
        exact hnk hpj
      · have hno : ∀ j, j < m → dstAt ops j ≠ some t := fun j hj he => hd ⟨j, hj, he⟩
        rw [if_neg, off t hno]
        intro hc
        have hc : t ∈ hideOf ops m i := by simpa using hc
        obtain ⟨k, hk, _, hkt⟩ := mem_hide.1 hc
        exact hno k hk hkt
    | const v => rfl
    | global g => rfl
    | func f => rfl
  · rw [mask_box] at hn
    split at hn
    · cases hn
    · rename_i hc
      have hc : n ∉ hideB ops m tch i := by simpa using hc
      have hxy : ∀ j, look (R j).2 n ≠ none → (X j ↔ j < i) := fun j hu => by
        rcases Nat.lt_or_ge j m with hjm | hjm
        · have hjs : j < ops.size := by have := ok.hm; omega
          have hin := upd_in (F.fact j (ops[j]'hjs) hjm (by simp [hjs])) hu
          rcases Nat.decEq j i with hne | rfl
          · rcases Classical.em (j ∈ preOf ops i) with h1 | h1
            · exact ⟨fun _ => pre_lt ok i j h1, fun _ => hpre j h1⟩
            · rcases Classical.em (i ∈ preOf ops j) with h2 | h2
              · have := pre_lt ok j i h2
                exact ⟨fun hj => absurd (hcl j hj i h2) hX, fun hj => by omega⟩
              · exact absurd (mem_hideB hjm hne h1 h2 hin) hc
          · exact ⟨fun h => absurd h hX, fun h => by omega⟩
        · exact ⟨fun h => by have := hlt j h; omega, fun h => by omega⟩
      rw [hT.same hA (pre_lt ok) hxy]; exact hn

theorem new_upd {o : Oper} {env : AS} {d : D} {us : Upd} (h : freeStep P L o env d us) (hn : isNew o.op = true) {u : Nat} (hu : o.dst = some u) : look us u ≠ none := by
  unfold freeStep at h
  cases hop : o.op with
  | box t x =>
    rw [hop, hu] at h
    simp only at h
    split at h
    · rename_i t' es h1 _
      injection h1 with h1
      subst h1
      rw [h.2]; simp [look]
    · exact h.elim
  | alloc t =>
    rw [hop, hu] at h
    simp only at h
    split at h
    · rename_i u' z h1 _
      injection h1 with h1
      subst h1
      rw [h.2]; simp [look]
    · exact h.elim
  | _ => rw [hop] at hn; cases hn
include hL hnt ok F in
/-- A free operation that is ready is done. -/
theorem free_round {X : Nat → Prop} {a : Act} {w : World} (h : Ph1 P nt w0 M0 S0 ρ0 ops m S R X a w) {i : Nat} {o : Oper} (hi : i < m) (hX : ¬ X i) (ho : ops[i]? = some o) (hdir : ∀ k ∈ direct o, X k) {Q : Exit → Act → World → Prop} {next : Act → World → Prop}
    (hn : ∀ a' w', Ph1 P nt w0 M0 S0 ρ0 ops m S R (fun j => X j ∨ j = i) a' w' → next a' w') : wpOp P ops Q i next a w := by
  obtain ⟨T, hT, hrel⟩ := h.rel
  have hpre := pre_closed ok h.cl i o ho hdir
  have hclo : ∀ j, X j → ∀ k ∈ preOf ops j, X k := fun j hj => by
    have hjs : j < ops.size := by have := ok.hm; have := h.lt j hj; omega
    exact pre_closed ok h.cl j (ops[j]'hjs) (by simp [hjs]) (h.cl j _ hj (by simp [hjs]))
  obtain ⟨hev, hbx, hgd⟩ := look_same ok F h.lt hT hi hX ho hpre hclo
  obtain ⟨hdst, hfact⟩ := F.fact i o hi ho
  have hdo : dstAt ops i = o.dst := by simp [dstAt, ho]
  have hcl' : ∀ j oj, (X j ∨ j = i) → ops[j]? = some oj → ∀ k ∈ direct oj, X k ∨ k = i := fun j oj hj hoj k hk => by
    rcases hj with hj | rfl
    · exact .inl (h.cl j oj hj hoj k hk)
    · rw [ho] at hoj; injection hoj with hoj; subst hoj; exact .inl (hdir k hk)
  have hlt' : ∀ j, (X j ∨ j = i) → j < m := fun j hj => hj.elim (h.lt j) (fun e => e ▸ hi)
  have hbase : ∀ t, dstAt ops i = some t → t ∈ dstsOf (ops.toList.take m) := fun t ht => mem_dsts.2 ⟨i, hi, ht⟩
  have hnew : ∀ t j, dstAt ops i = some t → X j → dstAt ops j ≠ some t := fun t j h1 h2 h3 => hX (uniq ok i j t hi (h.lt j h2) h1 h3 ▸ h2)
  have hord : ∀ n j, look (R i).2 n ≠ none → X j → look (R j).2 n ≠ none → j ∈ preOf ops i := fun n j h1 h2 h3 => by
    have hjm := h.lt j h2
    have hjs : j < ops.size := by have := ok.hm; omega
    have hij : i ≠ j := fun e => hX (e ▸ h2)
    rcases ok.touch i j n hi hjm hij (upd_in (F.fact i o hi ho) h1) (upd_in (F.fact j (ops[j]'hjs) hjm (by simp [hjs])) h3) with h4 | h4
    · exact h4
    · exact absurd (hclo j h2 i h4) hX
  -- no address of the box to come, no token of its name
  have hR : ∀ j, X j → ∃ oj, ops[j]? = some oj ∧ (okPtr (hideOf ops m j) (dstsOf (ops.toList.take m)) oj.dst (R j).1 = true) := fun j hj => by
    have hjm := h.lt j hj
    have hjs : j < ops.size := by have := ok.hm; omega
    obtain ⟨_, hf⟩ := F.fact j (ops[j]'hjs) hjm (by simp [hjs])
    refine ⟨ops[j]'hjs, by simp [hjs], ?_⟩
    rcases hf with ⟨_, _, h3⟩ | ⟨_, _, _, _, _, ⟨_, _, _, ⟨_, _, h3⟩ | ⟨_, h3⟩⟩ | ⟨_, h3⟩⟩
    · rw [Bool.and_eq_true] at h3; exact h3.1
    · rw [Bool.and_eq_true] at h3; exact h3.1
    · rw [h3]; rfl
    · rw [h3]; rfl
  have hnoptr : ∀ u off t, dstAt ops i = some t → T.get u ≠ .ptr t off := fun u off t ht he => by
    rcases hT.get u with ⟨j, hj, hju, e⟩ | ⟨_, e⟩
    · obtain ⟨oj, hoj, hok⟩ := hR j hj
      rw [← e, he] at hok
      simp only [okPtr, Bool.or_eq_true, Bool.not_eq_true', beq_iff_eq] at hok
      rcases hok with h1 | h1
      · have : t ∈ hideOf ops m j := mem_hide.2 ⟨i, hi, fun hp => hX (by
          have : ∀ k ∈ preOf ops j, X k := pre_closed ok h.cl j oj hoj (h.cl j oj hj hoj)
          exact this i hp), ht⟩
        have h1 : t ∉ hideOf ops m j := by simpa using h1
        exact h1 this
      · have h2 : dstAt ops j = some t := by simp only [dstAt, hoj, Option.bind_some]; exact h1
        exact hnew t j ht hj h2
    · rw [he] at e; exact drop_ptr S _ (hbase t ht) u off e.symm
  have hnotok : ∀ u t k e, dstAt ops i = some t → T.get u ≠ .c (some (t, k)) e := fun u t k e ht he => by
    rcases hT.get u with ⟨j, hj, hju, e'⟩ | ⟨_, e'⟩
    · obtain ⟨oj, hoj, hok⟩ := hR j hj
      rw [← e', he] at hok
      have hmem := hbase t ht
      simp [okPtr] at hok
      exact hok hmem
    · rw [he] at e'; exact drop_tok S _ (hbase t ht) u k e e'.symm
  have hnobt : ∀ t, dstAt ops i = some t → ∀ n cs, T.box n = some cs → ∀ (j k : Nat) (e : E), cs[j]? ≠ some (some (t, k), e) := fun t ht n cs hb j k e he => by
    rcases hT.box n with ⟨j', es, hj', _, e', _⟩ | ⟨_, e'⟩
    · rw [hb] at e'
      injection e' with e'
      subst e'
      simp only [bare, List.getElem?_map] at he
      cases hes : es[j]? <;> simp [hes] at he
    · rw [hb] at e'; exact drop_btok S _ (hbase t ht) n cs e'.symm j k e he
  have hstrip : ∀ u, o.dst = some u → Less (T.strip u) T := fun u hu => strip_less (fun i' k e => hnotok i' u k e (hdo.trans hu)) (fun n cs hb => hnobt u (hdo.trans hu) n cs hb)
  have after : ∀ nw a' w', (nw = true → ∀ u, o.dst = some u → look (R i).2 u ≠ none) → ARel P nt w0 M0 S0 ρ0 (T.addX nw o.dst (R i).1 (R i).2) a' w' → Ph1 P nt w0 M0 S0 ρ0 ops m S R (fun j => X j ∨ j = i) a' w' := fun nw a' w' hnw h' => by
    refine ⟨hlt', hcl', _, hT.step hord (fun t => ?_) (fun n => ?_), h'⟩
    · rw [hdo, AS.addX, get_putO, get_setBoxes]
      by_cases e : o.dst = some t
      · rw [if_pos e, if_pos e]
      · rw [if_neg e, if_neg e]
        cases nw with
        | false => rfl
        | true =>
          cases hd : o.dst with
          | none => rfl
          | some u =>
            simp only [AS.killO]
            rw [get_kill]
            cases hTt : T.get t with
            | ptr n off =>
              simp only [killD]
              rw [if_neg]
              rintro rfl
              exact hnoptr t off n (hdo.trans hd) hTt
            | _ => rfl
    · rw [AS.addX, box_putO, box_setBoxes]
      cases hl : look (R i).2 n with
      | some es => rfl
      | none =>
        simp only
        cases nw with
        | false => rfl
        | true =>
          cases hd : o.dst with
          | none => rfl
          | some u =>
            simp only [AS.killO]
            rw [box_kill, if_neg]
            rintro rfl
            exact hnw rfl n hd hl
  unfold wpOp
  simp only [ho]
  have hdo' : freeStep P L o ((accs i).mask (hideOf ops m i) (hideB ops m tch i)) (R i).1 (R i).2 → o.wp P a w next Q := fun hs =>
    free_step_sound hL hnt hstrip hdst (freeStep_mono hbx hev hs) hrel fun a' w' h' => hn a' w' (after _ a' w' (fun hnw u hu => new_upd hs hnw hu) h')
  rcases hfact with ⟨hg, hs, _⟩ | ⟨j, want, g, hg, hj, ⟨tk, b, hb, hcase⟩ | ⟨hb, hRi⟩⟩
  · have hw : Region.wanted o (yielded ops a.tmps) = true := by simp [Region.wanted, hg]
    rw [if_pos hw]
    exact .inl (hdo' hs)
  · obtain ⟨hjp, hji⟩ := ok.guard i o j want ho hg
    have hTg : T.get g = .c tk (.v (.bool b)) := by rw [← hgd j g hjp hj]; exact hb
    have hval : a.tmps.getD g undef = .bool b := by
      obtain ⟨_, _, St, ρ, h3, _⟩ := hrel
      have := h3.tmp g
      rw [hTg] at this
      exact (rep_v (d := .c tk (.v (.bool b))) this rfl).1
    have hw : Region.wanted o (yielded ops a.tmps) = (b == want) := by
      simp only [Region.wanted, hg]
      have hg2 : a.tmps[g]? = some (.bool b) := by
        rw [Array.getD_eq_getD_getElem?] at hval
        cases ht : a.tmps[g]? with
        | none => rw [ht] at hval; cases hval
        | some y => rw [ht] at hval; simp only [Option.getD_some] at hval; rw [hval]
      have hj' : (ops[j]?).bind (·.dst) = some g := hj
      have : yielded ops a.tmps j = some b := by simp only [yielded, hj', Option.bind_some, hg2]
      rw [this]; rfl
    rw [hw]
    rcases hcase with ⟨hbw, hs, _⟩ | ⟨hbn, hRi⟩
    · subst hbw
      simp only [beq_self_eq_true, if_true]
      exact .inl (hdo' hs)
    · have hf : (b == want) = false := by subst hbn; cases want <;> rfl
      rw [hf]
      simp only [Bool.false_eq_true, if_false]
      refine hn _ _ (after false _ _ (fun h => by cases h) ?_)
      rw [hRi]
      have := skip_rel hrel hdst
      cases hd : o.dst with
      | none => rw [hd] at this; exact this
      | some u => rw [hd] at this; exact this
  · obtain ⟨hjp, hji⟩ := ok.guard i o j want ho hg
    have hTg : T.get g = .tup [] := by rw [← hgd j g hjp hj]; exact hb
    have hval : a.tmps.getD g undef = undef := by
      obtain ⟨_, _, St, ρ, h3, _⟩ := hrel
      have := h3.tmp g
      rw [hTg] at this
      obtain ⟨vs, hv, hl, _⟩ := this
      rw [hv]
      have : vs = [] := List.eq_nil_of_length_eq_zero hl.symm
      rw [this]; rfl
    have hw : Region.wanted o (yielded ops a.tmps) = false := by
      simp only [Region.wanted, hg]
      have hj' : (ops[j]?).bind (·.dst) = some g := hj
      have : yielded ops a.tmps j = none := by
        simp only [yielded, hj', Option.bind_some]
        rw [Array.getD_eq_getD_getElem?] at hval
        cases ht : a.tmps[g]? with
        | none => rfl
        | some y => rw [ht] at hval; simp only [Option.getD_some] at hval; rw [hval]; rfl
      rw [this]; rfl
    rw [hw]
    simp only [Bool.false_eq_true, if_false]
    refine hn _ _ (after false _ _ (fun h => by cases h) ?_)
    rw [hRi]
    have := skip_rel hrel hdst
    cases hd : o.dst with
    | none => rw [hd] at this; exact this
    | some u => rw [hd] at this; exact this
end
end Go.Am

/- Regions whose operations may come in any order: the join. -/
set_option linter.unusedVariables false
set_option linter.unusedSimpArgs false
namespace Go.Am
open Go.RowKit

section
variable {P : Program} [Gl P] {L : Tab} (hL : TOk P L) {nt : Nat} (hnt : nt ≤ EXT) {w0 : World} {M0 : Nat → Prop} {S0 : Stab} {ρ0 : Nat → Nat} {ops : Array Oper} {m : Nat} {tch : List (List Nat)} (ok : DOk ops m tch)
variable {S : AS} {R : Nat → Res} {accs : Nat → AS} (F : Facts P L nt ops m tch S R accs)

def Done (listed : Array Bool) (i : Nat) : Prop := listed.getD i false = true

/-- The operations behind the free ones: k of all are done. -/
def Ph2 (P : Program) [Gl P] (L : Tab) (nt : Nat) (w0 : World) (M0 : Nat → Prop) (S0 : Stab) (ρ0 : Nat → Nat) (ops : Array Oper) (m : Nat) (K : AS → Prop) (X : Nat → Prop) (a : Act) (w : World) : Prop :=
  ∃ k T, m ≤ k ∧ k ≤ ops.size ∧ (∀ i, X i ↔ i < k) ∧ opsK P L nt ops (ops.toList.drop k) T K ∧ ARel P nt w0 M0 S0 ρ0 T a w

include ok F in
theorem ph2_of_ph1 {K : AS → Prop} {X : Nat → Prop} {a : Act} {w : World} (h : Ph1 P nt w0 M0 S0 ρ0 ops m S R X a w) (hall : ∀ i, i < m → X i) (hK : opsK P L nt ops (ops.toList.drop m) (accs m) K) : Ph2 P L nt w0 M0 S0 ρ0 ops m K X a w := by
  obtain ⟨T, hT, hrel⟩ := h.rel
  have hX : ∀ i, X i ↔ i < m := fun i => ⟨h.lt i, hall i⟩
  have hT' := hT.mono_iff hX
  have hA := F.spec m (Nat.le_refl _)
  have hu : ∀ i j t, i < m → j < m → dstAt ops i = some t → dstAt ops j = some t → i = j := uniq ok
  refine ⟨m, accs m, Nat.le_refl _, ok.hm, hX, hK, hrel.less ⟨fun t => .inr (.inl ?_), fun n cs hn => ⟨cs, ?_, rfl, fun k c hc => ⟨c, hc, rfl, .inl rfl⟩⟩⟩⟩
  · rcases hA.get t with ⟨i, hi, hit, e⟩ | ⟨hno, e⟩
    · rw [e]; exact (hT'.at_ hu hi hit).symm
    · rw [e]; exact (hT'.off hno).symm
  · rw [← hn]
    exact hT'.same hA (pre_lt ok) fun i _ => Iff.rfl

theorem done_set {listed : Array Bool} {i : Nat} (hi : i < listed.size) (j : Nat) : Done (listed.setIfInBounds i true) j ↔ Done listed j ∨ j = i := by
  unfold Done
  simp only [Array.getD_eq_getD_getElem?, Array.getElem?_setIfInBounds]
  by_cases h : i = j
  · subst h; simp [hi]
  · rw [if_neg h]
    constructor
    · exact .inl
    · rintro (h1 | h1)
      · exact h1
      · exact absurd h1.symm h

include hL hnt in
/-- One of the operations behind the free ones. -/
theorem tail_round {K : AS → Prop} {k : Nat} {o : Oper} {T : AS} {a : Act} {w : World} (ho : ops[k]? = some o) (hk : opsK P L nt ops (o :: ops.toList.drop (k + 1)) T K) (h : ARel P nt w0 M0 S0 ρ0 T a w)
    {Q : Exit → Act → World → Prop} {next : Act → World → Prop} (hn : ∀ T' a' w', opsK P L nt ops (ops.toList.drop (k + 1)) T' K → ARel P nt w0 M0 S0 ρ0 T' a' w' → next a' w') : wpOp P ops Q k next a w := by
  unfold wpOp
  simp only [ho]
  simp only [opsK, forceS_eq] at hk
  split at hk
  · rename_i hg
    have hw : Region.wanted o (yielded ops a.tmps) = true := by simp [Region.wanted, hg]
    rw [if_pos hw]
    exact .inl (stepK_sound hL hnt hk h fun S' a' w' hk' h' => hn S' a' w' hk' h')
  · rename_i j want hg
    split at hk
    case h_2 => exact hk.elim
    rename_i g hj
    split at hk
    case h_3 => exact hk.elim
    case h_2 hb =>
      obtain ⟨hd, hk⟩ := hk
      have hval : a.tmps.getD g undef = undef := by
        obtain ⟨_, _, St, ρ, h3, _⟩ := h
        have := h3.tmp g
        rw [hb] at this
        obtain ⟨vs, hv, hl, _⟩ := this
        rw [hv]
        have : vs = [] := List.eq_nil_of_length_eq_zero hl.symm
        rw [this]; rfl
      have hw : Region.wanted o (yielded ops a.tmps) = false := by
        simp only [Region.wanted, hg]
        have : yielded ops a.tmps j = none := by
          simp only [yielded, hj, Option.bind_some]
          rw [Array.getD_eq_getD_getElem?] at hval
          cases ht : a.tmps[g]? with
          | none => rfl
          | some y => rw [ht] at hval; simp only [Option.getD_some] at hval; rw [hval]; rfl
        rw [this]; rfl
      rw [hw]
      simp only [Bool.false_eq_true, if_false]
      exact hn _ _ _ hk (skip_rel h hd)
    rename_i tk b hb
    obtain ⟨hd, hk⟩ := hk
    have hyes := fun e => branchG_yes hk e
    have hno := fun e => branchG_no hk e
    have hval : a.tmps.getD g undef = .bool b := by
      obtain ⟨_, _, St, ρ, h3, _⟩ := h
      have := h3.tmp g
      rw [hb] at this
      exact (rep_v (d := .c tk (.v (.bool b))) this rfl).1
    have hw : Region.wanted o (yielded ops a.tmps) = (b == want) := by
      simp only [Region.wanted, hg]
      have hg2 : a.tmps[g]? = some (.bool b) := by
        rw [Array.getD_eq_getD_getElem?] at hval
        cases ht : a.tmps[g]? with
        | none => rw [ht] at hval; cases hval
        | some y => rw [ht] at hval; simp only [Option.getD_some] at hval; rw [hval]
      have : yielded ops a.tmps j = some b := by simp only [yielded, hj, Option.bind_some, hg2]
      rw [this]; rfl
    rw [hw]
    by_cases hbw : b = want
    · subst hbw
      simp only [beq_self_eq_true, if_true]
      exact .inl (stepK_sound hL hnt (hyes rfl) (putO_same h hb) fun S' a' w' hk' h' => hn S' a' w' hk' h')
    · have hb2 : b = !want := by cases b <;> cases want <;> simp_all
      have hf : (b == want) = false := by simpa using hbw
      rw [hf]
      simp only [Bool.false_eq_true, if_false]
      subst hb2
      exact hn _ _ _ (hno rfl) (skip_rel (putO_same h hb) hd)

theorem ready_iff {listed : Array Bool} (hs : listed.size = ops.size) {i : Nat} : i ∈ Region.ready .any ops listed ↔ ¬ Done listed i ∧ ∃ o, ops[i]? = some o ∧ ∀ k ∈ direct o, Done listed k := by
  rw [mem_ready]
  have h1 : (∃ o, ops[i]? = some o) → (listed.getD i true = false ↔ ¬ Done listed i) := fun ⟨o, ho⟩ => by
    have hi : i < listed.size := by rw [hs]; exact (Array.getElem?_eq_some_iff.1 ho).1
    unfold Done
    simp [Array.getD, hi]
  have h2 : ∀ o : Oper, (∀ e ∈ o.after, Region.binds .any e = true → listed.getD e.on false = true) ↔ ∀ k ∈ direct o, Done listed k := fun o => by
    unfold direct Done
    constructor
    · intro h k hk
      obtain ⟨e, he, rfl⟩ := List.mem_map.1 hk
      rw [List.mem_filter] at he
      exact h e (by simpa using he.1) he.2
    · intro h e he hb
      exact h e.on (List.mem_map.2 ⟨e, List.mem_filter.2 ⟨by simpa using he, hb⟩, rfl⟩)
  constructor
  · rintro ⟨ha, o, ho, hb⟩
    exact ⟨(h1 ⟨o, ho⟩).1 ha, o, ho, (h2 o).1 hb⟩
  · rintro ⟨ha, o, ho, hb⟩
    exact ⟨(h1 ⟨o, ho⟩).2 ha, o, ho, (h2 o).2 hb⟩

include ok in
/-- Where nothing is ready all is done. -/
theorem all_done {listed : Array Bool} (hs : listed.size = ops.size) (hr : Region.ready .any ops listed = []) : ∀ i, i < ops.size → Done listed i := by
  intro i
  induction i using Nat.strongRecOn with
  | _ i ih =>
    intro hi
    rcases Classical.em (Done listed i) with h | h
    · exact h
    · exfalso
      have ho : ops[i]? = some (ops[i]'hi) := by simp [hi]
      have : i ∈ Region.ready .any ops listed := (ready_iff hs).2 ⟨h, _, ho, fun k hk => by
        have hki := ok.dir i _ ho k hk
        exact ih k hki (by omega)⟩
      rw [hr] at this
      simp at this

include hL hnt ok F in
theorem draw_any {K : AS → Prop} {Q : Exit → Act → World → Prop} (hK : opsK P L nt ops (ops.toList.drop m) (accs m) K) (hQ : ∀ S' a' w', K S' → ARel P nt w0 M0 S0 ρ0 S' a' w' → Q .normal a' w') :
    ∀ (fuel : Nat) (listed : Array Bool) (a : Act) (w : World), listed.size = ops.size → listed.toList.count false = fuel →
      (Ph1 P nt w0 M0 S0 ρ0 ops m S R (Done listed) a w ∨ Ph2 P L nt w0 M0 S0 ρ0 ops m K (Done listed) a w) → wpAny P .any ops Q fuel listed a w := by
  have fin : ∀ (listed : Array Bool) (a : Act) (w : World), listed.size = ops.size → Region.ready .any ops listed = [] →
      (Ph1 P nt w0 M0 S0 ρ0 ops m S R (Done listed) a w ∨ Ph2 P L nt w0 M0 S0 ρ0 ops m K (Done listed) a w) → Q .normal a w := by
    intro listed a w hs hr h
    have hall := all_done ok hs hr
    have h2 : Ph2 P L nt w0 M0 S0 ρ0 ops m K (Done listed) a w := by
      rcases h with h | h
      · exact ph2_of_ph1 ok F h (fun i hi => hall i (by have := ok.hm; omega)) hK
      · exact h
    obtain ⟨k, T, hmk, hks, hX, hop, hrel⟩ := h2
    have hk : k = ops.size := by
      rcases Nat.lt_or_ge k ops.size with h' | h'
      · have := (hX k).1 (hall k h'); omega
      · omega
    subst hk
    rw [List.drop_of_length_le (by simp)] at hop
    exact hQ T a w hop hrel
  intro fuel
  induction fuel with
  | zero =>
    intro listed a w hs hc h
    have hr : Region.ready .any ops listed = [] := by
      rw [List.eq_nil_iff_forall_not_mem]
      intro i hi
      obtain ⟨hnd, o, ho, _⟩ := (ready_iff hs).1 hi
      have hlt : i < listed.size := by rw [hs]; exact (Array.getElem?_eq_some_iff.1 ho).1
      have hf : listed[i] = false := by unfold Done at hnd; simpa [Array.getD, hlt] using hnd
      have hmem : false ∈ listed.toList := by rw [← hf]; simp
      have := List.count_pos_iff.2 hmem
      omega
    exact ⟨hr, fin listed a w hs hr h⟩
  | succ fuel ih =>
    intro listed a w hs hc h
    refine ⟨fun hr => fin listed a w hs hr h, fun i hi => ?_⟩
    obtain ⟨hnd, o, ho, hdir⟩ := (ready_iff hs).1 hi
    have hlt : i < listed.size := by rw [hs]; exact (Array.getElem?_eq_some_iff.1 ho).1
    have hs' : (listed.setIfInBounds i true).size = ops.size := by simp [hs]
    have hc' : (listed.setIfInBounds i true).toList.count false = fuel := by
      have hf : listed.toList[i]'(by simpa using hlt) = false := by unfold Done at hnd; simpa [Array.getD, hlt] using hnd
      rw [Array.toList_setIfInBounds, List.count_set (by simpa using hlt)]
      simp only [hf, hc, beq_self_eq_true, if_true]
      simp
    have next1 : ∀ a' w', Ph1 P nt w0 M0 S0 ρ0 ops m S R (fun j => Done listed j ∨ j = i) a' w' → wpAny P .any ops Q fuel (listed.setIfInBounds i true) a' w' := fun a' w' hp => by
      refine ih _ a' w' hs' hc' (.inl ?_)
      have : Done (listed.setIfInBounds i true) = fun j => Done listed j ∨ j = i := funext fun j => propext (done_set hlt j)
      rw [this]; exact hp
    have round2 : Ph2 P L nt w0 M0 S0 ρ0 ops m K (Done listed) a w → wpOp P ops Q i (wpAny P .any ops Q fuel (listed.setIfInBounds i true)) a w := fun ⟨k, T, hmk, hks, hX, hop, hrel⟩ => by
      have hik : i = k := by
        have h1 : k ≤ i := by
          rcases Nat.lt_or_ge i k with h' | h'
          · exact absurd ((hX i).2 h') hnd
          · exact h'
        rcases Nat.lt_or_ge k i with h' | h'
        · exfalso
          have hcl : ∀ j oj, Done listed j → ops[j]? = some oj → ∀ k' ∈ direct oj, Done listed k' := fun j oj hj hoj k' hk' => (hX k').2 (by have := ok.dir j oj hoj k' hk'; have := (hX j).1 hj; omega)
          have hp := pre_closed ok hcl i o ho hdir
          have := (hX k).1 (hp k (ok.tail i (by omega) (by rw [← hs]; exact hlt) k h'))
          omega
        · omega
      subst hik
      have hdrop : ops.toList.drop i = o :: ops.toList.drop (i + 1) := by
        rw [List.drop_eq_getElem_cons (by simpa [hs] using hlt)]
        congr 1
        have := (Array.getElem?_eq_some_iff.1 ho).2
        simpa using this
      rw [hdrop] at hop
      refine tail_round hL hnt ho hop hrel fun T' a' w' hk' h' => ih _ a' w' hs' hc' (.inr ⟨i + 1, T', by omega, by rw [← hs]; exact hlt, fun j => ?_, hk', h'⟩)
      rw [done_set hlt, hX]
      omega
    rcases h with h1 | h2
    · by_cases him : i < m
      · exact free_round hL hnt ok F h1 him hnd ho hdir next1
      · refine round2 (ph2_of_ph1 ok F h1 (fun j hj => ?_) hK)
        exact pre_closed ok h1.cl i o ho hdir j (ok.tail i (by omega) (by rw [← hs]; exact hlt) j (by omega))
    · exact round2 h2

include hL in
/-- THE THEOREM ON DRAWN REGIONS. -/
theorem draw_ok (hnt : nt ≤ EXT) (hm : P.follows .mixedOrders = true) : DrawOk P L nt (@drawK) := by
  intro w0 M0 S0 ρ0 id ops S a w K Q hk h hQ
  obtain ⟨m, tch, hdo, hf⟩ := drawK_old hk
  have ok := dok_of hdo
  obtain ⟨R, accs, F, hK⟩ := facts_of (P := P) (L := L) (nt := nt) ok hf
  refine wp_region_any hm (draw_any hL hnt ok F hK hQ ops.size _ a _ (by simp) (by simp [List.count_replicate]) (.inl ⟨fun i hi => ?_, fun j o hj => ?_, _, TSpec.start _ _ _ (fun i hi => ?_), ?_⟩))
  · exfalso; unfold Done at hi; simp [Array.getD, Array.getElem_replicate] at hi
  · exfalso; unfold Done at hj; simp [Array.getD, Array.getElem_replicate] at hj
  · unfold Done at hi; simp [Array.getD, Array.getElem_replicate] at hi
  · have h1 := h.less (less_drop S (dstsOf (ops.toList.take m)))
    obtain ⟨h2, h3, St, ρ, h4, h5⟩ := h1
    exact ⟨h2, h3, St, ρ, h4.grow rfl rfl rfl (Nat.le_refl _) (fun _ _ => rfl) (fun _ _ hs => hs) (fun _ _ hs => .inl hs), h5⟩
end
end Go.Am

/- Data that tell less, and code that is walked piece by piece: what is so of the machine behind a piece may be forgotten in part before the next. -/
set_option linter.unusedVariables false
set_option linter.unusedSimpArgs false
namespace Go.Am
open Go.RowKit

/-! ### contracts, with data that tell less -/
theorem CallsX.weak {P : Program} [Gl P] {f : FuncId} {args args' : List D} {bx bx' : Boxes} {K : D → Boxes → Prop} (r : Nat → Nat) (h : CallsX P f args bx K) (hl : args'.length = args.length)
    (hw : WS r ⟨argsAt 0 args', bx'⟩ ⟨argsAt 0 args, bx⟩) : CallsX P f args' bx' K :=
  ⟨h.1, fun w S0 M0 vals ρ hv hr => h.2 w S0 M0 vals ρ (hv.trans hl) (hr.weak hw)⟩
theorem CallsX.weakRes {P : Program} [Gl P] {f : FuncId} {args : List D} {bx bx' : Boxes} {d' : D} (hd : d'.noPtr = true) (hb : ∀ n, n < EXT → look bx' n = none)
    (h : CallsX P f args bx fun d b => ∃ r, WS r ⟨[(0, d)], b⟩ ⟨[(0, d')], bx'⟩) : CallsX P f args bx fun d b => d = d' ∧ b = bx' :=
  ⟨h.1, fun w S0 M0 vals ρ hv hr => (h.2 w S0 M0 vals ρ hv hr).mono fun e w' ⟨v, d, b, St', ρ', h1, ⟨r, h2⟩, h3, h4, h5, h6⟩ =>
    ⟨v, d', bx', St', ρ', h1, ⟨rfl, rfl⟩, hd, h4, hb, h6.weak h2⟩⟩

/-! ### code, piece by piece -/
/-- Walked from here, the code ends in what Q tells. -/
structure AWP (P : Program) [Gl P] (nt : Nat) (c : Code) (Q : Exit → AS → Prop) (S : AS) : Prop where
  run : ∀ (w0 : World) (M0 : Nat → Prop) (S0 : Stab) (ρ0 : Nat → Nat) (a : Act) (w : World), ARel P nt w0 M0 S0 ρ0 S a w → c.wp P (post P nt w0 M0 S0 ρ0 Q) a w

section
variable {P : Program} [Gl P] {nt : Nat} {c x y : Code} {Q Q' : Exit → AS → Prop} {S T : AS}

theorem AWP.weak (r : Nat → Nat) (hw : WS r S T) (h : AWP P nt c Q T) : AWP P nt c Q S :=
  ⟨fun w0 M0 S0 ρ0 a w ⟨h1, h2, St, ρ, h3, h4⟩ => h.run w0 M0 S0 ρ0 a w ⟨h1, h2, St, ρ, h3.weak hw, h4⟩⟩
theorem AWP.mono (h : AWP P nt c Q S) (hq : ∀ e T, Q e T → Q' e T) : AWP P nt c Q' S :=
  ⟨fun w0 M0 S0 ρ0 a w hr => wp_mono (h.run w0 M0 S0 ρ0 a w hr) fun e a' w' ⟨T, h1, h2⟩ => ⟨T, hq e T h1, h2⟩⟩
theorem AWP.seq (h : AWP P nt x (thenK (AWP P nt y Q) Q) S) : AWP P nt (.seq x y) Q S :=
  ⟨fun w0 M0 S0 ρ0 a w hr => wp_seq (wp_mono (h.run w0 M0 S0 ρ0 a w hr) fun e a' w' ⟨T, hq, h'⟩ => by
    cases e with
    | normal => exact hq.run _ _ _ _ _ _ h'
    | exit id => exact ⟨T, hq, h'⟩
    | goto l => exact ⟨T, hq, h'⟩
    | ret => exact ⟨T, hq, h'⟩
    | panic ch => exact ⟨T, hq, h'⟩
    | outgrown => exact ⟨T, hq, h'⟩)⟩
/-- In a loop, before a round. -/
structure AWL (P : Program) [Gl P] (nt : Nat) (c : Code) (Q : Exit → AS → Prop) (S : AS) : Prop where
  run : ∀ (w0 : World) (M0 : Nat → Prop) (S0 : Stab) (ρ0 : Nat → Nat) (a : Act) (w : World), ARel P nt w0 M0 S0 ρ0 S a w → ∀ (b : Frame) (k : List Item) (cs : List Frame),
    ∃ e a' w', post P nt w0 M0 S0 ρ0 Q e a' w' ∧ Arrives P (lone (b.at a (.code c :: .inLoop c :: k)) cs w) b k cs e a' w'
theorem AWL.weak (r : Nat → Nat) (hw : WS r S T) (h : AWL P nt c Q T) : AWL P nt c Q S :=
  ⟨fun w0 M0 S0 ρ0 a w ⟨h1, h2, St, ρ, h3, h4⟩ => h.run w0 M0 S0 ρ0 a w ⟨h1, h2, St, ρ, h3.weak hw, h4⟩⟩
theorem AWP.loop (h : AWL P nt c Q S) : AWP P nt (.loop c) Q S := by
  refine ⟨fun w0 M0 S0 ρ0 a w hr b k cs => ?_⟩
  obtain ⟨e, a', w', hq, harr⟩ := h.run w0 M0 S0 ρ0 a w hr b k cs
  exact ⟨e, a', w', hq, .of_steps (.one step_loop) harr⟩
theorem AWL.step (h : AWP P nt c (thenK (AWL P nt c Q) Q) S) : AWL P nt c Q S := by
  refine ⟨fun w0 M0 S0 ρ0 a w hr b k cs => ?_⟩
  obtain ⟨e, a₁, w₁, ⟨S₁, hq, hr₁⟩, harr⟩ := h.run w0 M0 S0 ρ0 a w hr b (.inLoop c :: k) cs
  cases e with
  | normal =>
    obtain ⟨e₂, a₂, w₂, hq₂, harr₂⟩ := hq.run w0 M0 S0 ρ0 a₁ w₁ hr₁ b k cs
    exact ⟨e₂, a₂, w₂, hq₂, .of_steps (Steps.trans harr (.one step_inLoop)) harr₂⟩
  | exit id => exact ⟨_, a₁, w₁, ⟨S₁, hq, hr₁⟩, .pass (x := .inLoop c) rfl (fun _ _ => .inl (by simp)) harr⟩
  | goto l => exact ⟨_, a₁, w₁, ⟨S₁, hq, hr₁⟩, .pass (x := .inLoop c) rfl (fun _ _ => .inl (by simp)) harr⟩
  | ret => exact ⟨_, a₁, w₁, ⟨S₁, hq, hr₁⟩, .pass (x := .inLoop c) rfl (fun _ _ => .inl (by simp)) harr⟩
  | panic ch => exact ⟨_, a₁, w₁, ⟨S₁, hq, hr₁⟩, .pass (x := .inLoop c) rfl (fun _ _ => .inl (by simp)) harr⟩
  | outgrown => exact ⟨_, a₁, w₁, ⟨S₁, hq, hr₁⟩, .pass (x := .inLoop c) rfl (fun _ _ => .inl (by simp)) harr⟩
theorem AWP.block {id : Nat} (h : AWP P nt c (blockK id Q) S) : AWP P nt (.block id c) Q S :=
  ⟨fun w0 M0 S0 ρ0 a w hr => wp_block (wp_mono (h.run w0 M0 S0 ρ0 a w hr) fun e a' w' ⟨S', hq, h'⟩ => by
    cases e with
    | exit i =>
      simp only [Exit.inBlock, blockK] at hq ⊢
      by_cases hi : i = id
      · rw [if_pos hi] at hq; rw [if_pos hi]; exact ⟨S', hq, h'⟩
      · rw [if_neg hi] at hq; rw [if_neg hi]; exact ⟨S', hq, h'⟩
    | normal => exact ⟨S', hq, h'⟩
    | goto l => exact ⟨S', hq, h'⟩
    | ret => exact ⟨S', hq, h'⟩
    | panic ch => exact ⟨S', hq, h'⟩
    | outgrown => exact ⟨S', hq, h'⟩)⟩
/-- Where ways meet again: the first piece comes to what M tells, and from there the second is walked once. -/
theorem AWP.cut (M : AS → Prop) (h : AWP P nt x (thenK M Q) S) (k : ∀ T, M T → AWP P nt y Q T) : AWP P nt (.seq x y) Q S :=
  AWP.seq (h.mono fun e T hq => by cases e <;> first | exact k T hq | exact hq)

/-- The piece ends ahead of what comes next, and in no other way. -/
def onlyN (M : AS → Prop) : Exit → AS → Prop
  | .normal, T => M T
  | _, _ => False
theorem AWP.cutN (M : AS → Prop) (h : AWP P nt x (onlyN M) S) (k : ∀ T, M T → Q .normal T) : AWP P nt x Q S :=
  h.mono fun e T hq => by cases e <;> first | exact k T hq | exact hq.elim

/-- One piece. What comes behind it is left as it is. -/
def node (Dr : DrawK) (P : Program) [Gl P] (L : Tab) (nt : Nat) : Code → (Exit → AS → Prop) → AS → Prop
  | .skip, Q, S => Q .normal S
  | .label _, Q, S => Q .normal S
  | .region _ ops draw, Q, S => if draw then Dr P L nt ops S (Q .normal) else opsK P L nt ops ops.toList S (Q .normal)
  | .seq x y, Q, S => node Dr P L nt x (thenK (AWP P nt y Q) Q) S
  | .cond c x y, Q, S =>
    match S.ev c with
    | .c _ (.v (.bool b)) => branchK b (AWP P nt x Q S) (AWP P nt y Q S)
    | _ => False
  | .block id c, Q, S => node Dr P L nt c (blockK id Q) S
  | .loop c, Q, S => AWL P nt c Q S
  | .exit id, Q, S => Q (.exit id) S
  | .ret, Q, S => Q .ret S
  | _, _, _ => False

theorem AWP.node {Dr : DrawK} {L : Tab} (hL : TOk P L) (hnt : nt ≤ EXT) (hD : DrawOk P L nt Dr) : ∀ (c : Code) (Q : Exit → AS → Prop) (S : AS), Am.node Dr P L nt c Q S → AWP P nt c Q S
  | .skip, Q, S, hk => ⟨fun w0 M0 S0 ρ0 a w h => wp_skip ⟨S, hk, h⟩⟩
  | .label l, Q, S, hk => ⟨fun w0 M0 S0 ρ0 a w h => wp_label ⟨S, hk, h⟩⟩
  | .exit id, Q, S, hk => ⟨fun w0 M0 S0 ρ0 a w h => wp_exit ⟨S, hk, h⟩⟩
  | .ret, Q, S, hk => ⟨fun w0 M0 S0 ρ0 a w h => wp_ret ⟨S, hk, h⟩⟩
  | .region id ops draw, Q, S, hk => ⟨fun w0 M0 S0 ρ0 a w h => by
      have : awp Dr P L nt (.region id ops draw) Q S := hk
      exact awp_sound hL hnt hD _ Q S a w this h⟩
  | .seq x y, Q, S, hk => AWP.seq (AWP.node hL hnt hD x _ S hk)
  | .cond c x y, Q, S, hk => ⟨fun w0 M0 S0 ρ0 a w h => by
      simp only [Am.node] at hk
      split at hk
      · rename_i tk b hc
        have hv : a.eval c = .bool b := by
          obtain ⟨_, _, St, ρ, h3, _⟩ := h
          have := ev_rep h3 c
          rw [hc] at this
          exact (rep_v (d := .c tk (.v (.bool b))) this rfl).1
        refine wp_cond hv ?_
        cases b with
        | true => exact AWP.run hk _ _ _ _ _ _ h
        | false => exact AWP.run hk _ _ _ _ _ _ h
      · exact hk.elim⟩
  | .block id c, Q, S, hk => AWP.block (AWP.node hL hnt hD c _ S hk)
  | .loop c, Q, S, hk => AWP.loop hk
  | .rangeFunc .., Q, S, hk => hk.elim
  | .scope _, Q, S, hk => hk.elim
  | .goto _, Q, S, hk => hk.elim
  | .refuse _, Q, S, hk => hk.elim
end

/-! ### places in a function's code -/
/-- The code at a place. -/
def Code.sub : Code → List Nat → Code
  | c, [] => c
  | .seq x y, i :: p => match i with | 0 => Code.sub x p | _ => Code.sub y p
  | .cond _ x y, i :: p => match i with | 0 => Code.sub x p | _ => Code.sub y p
  | .block _ c, _ :: p => Code.sub c p
  | .loop c, _ :: p => Code.sub c p
  | c, _ => c
/-- What comes behind that place. -/
def Code.cont (P : Program) [Gl P] (nt : Nat) : Code → List Nat → (Exit → AS → Prop) → (Exit → AS → Prop)
  | _, [], Q => Q
  | .seq x y, i :: p, Q => match i with | 0 => Code.cont P nt x p (thenK (AWP P nt y Q) Q) | _ => Code.cont P nt y p Q
  | .cond _ x y, i :: p, Q => match i with | 0 => Code.cont P nt x p Q | _ => Code.cont P nt y p Q
  | .block id c, _ :: p, Q => Code.cont P nt c p (blockK id Q)
  | .loop c, _ :: p, Q => Code.cont P nt c p (thenK (AWL P nt c Q) Q)
  | _, _, Q => Q
end Go.Am

/- What the printed walks lean on: small lemmas, each for one kind of step. -/
set_option linter.unusedVariables false
set_option linter.unusedSimpArgs false
namespace Go.Am

/-! ### words of the lifted functions -/
def guardP (p : Prop) [Decidable p] : Option Unit := if p then some () else none
def ixI {α : Type} (l : List α) (i : Int) : Option α := if 0 ≤ i then l[i.toNat]? else none
def btI (s : ByteArray) (i : Int) : Option UInt8 := if 0 ≤ i then s[i.toNat]? else none
def slS (s : ByteArray) (l h : Int) : Option ByteArray := if 0 ≤ l ∧ l ≤ h ∧ h ≤ s.size then some (s.extract l.toNat h.toNat) else none
def slL {α : Type} (s : List α) (l h : Int) : Option (List α) := if 0 ≤ l ∧ l ≤ h ∧ h ≤ s.length then some ((s.take h.toNat).drop l.toNat) else none

theorem bind_some {α β : Type} {a : Option α} {f : α → Option β} {r : β} (h : (a >>= f) = some r) : ∃ x, a = some x ∧ f x = some r := by
  cases a with
  | none => cases h
  | some x => exact ⟨x, rfl, h⟩
theorem guard_some {p : Prop} [Decidable p] {β : Type} {f : Unit → Option β} {r : β} (h : (guardP p >>= f) = some r) : p ∧ f () = some r := by
  unfold guardP at h
  split at h
  · rename_i hp; exact ⟨hp, h⟩
  · cases h
theorem ix_some {α β : Type} {l : List α} {i : Int} {f : α → Option β} {r : β} (h : (ixI l i >>= f) = some r) : ∃ x, 0 ≤ i ∧ l[i.toNat]? = some x ∧ f x = some r := by
  obtain ⟨x, hx, hf⟩ := bind_some h
  unfold ixI at hx
  split at hx
  · exact ⟨x, by assumption, hx, hf⟩
  · cases hx
theorem bt_some {β : Type} {s : ByteArray} {i : Int} {f : UInt8 → Option β} {r : β} (h : (btI s i >>= f) = some r) : ∃ x, 0 ≤ i ∧ s[i.toNat]? = some x ∧ f x = some r := by
  obtain ⟨x, hx, hf⟩ := bind_some h
  unfold btI at hx
  split at hx
  · exact ⟨x, by assumption, hx, hf⟩
  · cases hx
theorem slS_some {β : Type} {s : ByteArray} {l h : Int} {f : ByteArray → Option β} {r : β} (hh : (slS s l h >>= f) = some r) : ∃ t, 0 ≤ l ∧ l ≤ h ∧ h ≤ ((s.size : Nat) : Int) ∧ t = s.extract l.toNat h.toNat ∧ f t = some r := by
  obtain ⟨x, hx, hf⟩ := bind_some hh
  unfold slS at hx
  split at hx
  · rename_i hc; injection hx with hx; exact ⟨x, hc.1, hc.2.1, hc.2.2, hx.symm, hf⟩
  · cases hx
theorem slL_some {α β : Type} {s : List α} {l h : Int} {f : List α → Option β} {r : β} (hh : (slL s l h >>= f) = some r) : ∃ t, 0 ≤ l ∧ l ≤ h ∧ h ≤ ((s.length : Nat) : Int) ∧ t = (s.take h.toNat).drop l.toNat ∧ f t = some r := by
  obtain ⟨x, hx, hf⟩ := bind_some hh
  unfold slL at hx
  split at hx
  · rename_i hc; injection hx with hx; exact ⟨x, hc.1, hc.2.1, hc.2.2, hx.symm, hf⟩
  · cases hx
theorem some_eq {α : Type} {x r : α} (h : some x = some r) : x = r := Option.some.inj h

theorem lt_of_dec {k n : Nat} (h : decide (((k : Nat) : Int) < ((n : Nat) : Int)) = true) : k < n := by simpa using h
theorem if_then {b : Bool} {α : Type} {x y r : α} (hb : b = true) (h : (if b = true then x else y) = r) : x = r := by rwa [if_pos hb] at h
theorem if_else {b : Bool} {α : Type} {x y r : α} (hb : b = false) (h : (if b = true then x else y) = r) : y = r := by subst hb; simpa using h
/-- Both ways. -/
theorem branch_hF {b : Bool} {A B : Prop} {α : Type} {x y : Option α} {r : α} (h : (if b = true then x else y) = some r) (h1 : b = true → x = some r → A) (h2 : b = false → y = some r → B) : branchK b A B := by
  cases b
  · exact h2 rfl (by simpa using h)
  · exact h1 rfl (by simpa using h)
theorem branchG_hF {b : Bool} {A B : Prop} {α : Type} {x y : Option α} {r : α} (want : Bool) (h : (if b = true then x else y) = some r) (h1 : b = true → x = some r → (match want with | true => A | false => B)) (h2 : b = false → y = some r → (match want with | true => B | false => A)) : branchG b want A B := by
  cases b <;> cases want
  · exact h2 rfl (by simpa using h)
  · exact h2 rfl (by simpa using h)
  · exact h1 rfl (by simpa using h)
  · exact h1 rfl (by simpa using h)
theorem branchG_intro {b : Bool} {A B : Prop} (want : Bool) (h1 : b = true → (match want with | true => A | false => B)) (h2 : b = false → (match want with | true => B | false => A)) : branchG b want A B := by
  cases b <;> cases want
  · exact h2 rfl
  · exact h2 rfl
  · exact h1 rfl
  · exact h1 rfl
/-- The head of a loop over a list. -/
theorem branch_list {α : Type} {l pre post : List α} {k : Nat} {A B : Prop} (h : l = pre ++ post) (hk : k = pre.length) (h1 : ∀ x post', post = x :: post' → l[k]? = some x → k < l.length → A) (h2 : post = [] → B) :
    branchK (decide (((k : Nat) : Int) < ((l.length : Nat) : Int))) A B := by
  subst hk
  cases post with
  | nil =>
    have : decide (((pre.length : Nat) : Int) < ((l.length : Nat) : Int)) = false := by subst h; simp
    rw [this]; exact h2 rfl
  | cons x post' =>
    have hlt : pre.length < l.length := by subst h; simp
    have : decide (((pre.length : Nat) : Int) < ((l.length : Nat) : Int)) = true := by simpa using hlt
    rw [this]; exact h1 x post' rfl (by subst h; simp) hlt

/-! ### lists of rows -/
theorem rows_map {α : Type} {f : α → List E} {n : Nat} (l : List α) (h : ∀ x, (f x).length = n) : ∀ row ∈ l.map f, row.length = n := by
  intro row hr
  obtain ⟨x, _, rfl⟩ := List.mem_map.1 hr
  exact h x
theorem rows_nil {n : Nat} : ∀ row ∈ ([] : List (List E)), row.length = n := fun _ h => absurd h List.not_mem_nil
theorem rows_one {n : Nat} {r : List E} (h : r.length = n) : ∀ row ∈ [r], row.length = n := fun row hr => by simp at hr; subst hr; exact h
theorem rows_cons {n : Nat} {r : List E} {l : List (List E)} (h : r.length = n) (k : ∀ row ∈ l, row.length = n) : ∀ row ∈ r :: l, row.length = n := fun row hr => by
  rcases List.mem_cons.1 hr with rfl | hr
  · exact h
  · exact k row hr
theorem map_get {α : Type} {f : α → List E} {l : List α} {k : Nat} {x : α} {row : List E} (hc : f x = row) (h : l[k]? = some x) : (l.map f)[((k : Nat) : Int).toNat]? = some row := by
  show (l.map f)[k]? = some row
  rw [List.getElem?_map, h, Option.map_some, hc]
theorem map_getI {α : Type} {f : α → List E} {l : List α} {i : Int} {x : α} {row : List E} (hc : f x = row) (h : l[i.toNat]? = some x) : (l.map f)[i.toNat]? = some row := by
  rw [List.getElem?_map, h, Option.map_some, hc]
theorem wrap_succ {n k : Nat} (h : n ≤ maxLen) (hk : k < n) : IntKind.i64.wrap (((k : Nat) : Int) + 1) = (((k + 1 : Nat) : Nat) : Int) := by
  have e : IntKind.i64.wrap ((k : Int) + 1) = (k : Int) + 1 := by
    exact IntWalk.i64_in ((k : Int) + 1) ⟨by omega, by unfold maxLen at h; omega⟩
  rw [e]; rfl
theorem wrap_nat {k : Nat} (hk : k + 1 ≤ 9223372036854775807) : IntKind.i64.wrap (((k : Nat) : Int) + 1) = (((k + 1 : Nat) : Nat) : Int) := by
  have e : IntKind.i64.wrap ((k : Int) + 1) = (k : Int) + 1 := by
    exact IntWalk.i64_in ((k : Int) + 1) ⟨by omega, by omega⟩
  rw [e]; rfl

/-- A slice of a list. -/
theorem slice_rows {α : Type} {g : α → List E} {s t : List α} {l h : Int} (ht : t = (s.take h.toNat).drop l.toNat) : ((s.map g).take h.toNat).drop l.toNat = t.map g := by
  rw [ht, List.map_drop, List.map_take]

/-! ### telling less -/
def rn (l : List (Nat × Nat)) (n : Nat) : Nat := (look l n).getD n
section
variable {r : Nat → Nat} {S T : AS} {e e' : E} {tk : Option (Nat × Nat)}
theorem WE.of_eq (h : e = e') : WE e e' := h ▸ .refl e
theorem we_b {x y : Bool} (h : x = y) : WE (.v (.bool x)) (.v (.bool y)) := h ▸ .refl _
theorem we_i {k : IntKind} {x y : Int} (h : x = y) : WE (.v (.int k x)) (.v (.int k y)) := h ▸ .refl _
theorem wt_nil : WTs r S [] := trivial
theorem wt_cons {i : Nat} {d : D} {l : List (Nat × D)} (h : WD r (S.get i) d) (k : WTs r S l) : WTs r S ((i, d) :: l) := ⟨h, k⟩
theorem wd_bot {d : D} : WD r d .bot := by cases d <;> first | trivial | (rename_i tk _; cases tk <;> trivial)
theorem wd_c (k : WE e e') : WD r (.c tk e) (.c none e') := ⟨by cases tk <;> trivial, k⟩
theorem wd_own {s t q : Nat} (h : r s = t) (k : WE e e') : WD r (.c (some (s, q)) e) (.c (some (t, q)) e') := ⟨⟨h, rfl⟩, k⟩
theorem wd_nil {t q : Nat} : WD r (.c none .nils) (.c (some (t, q)) (.sl [])) := ⟨trivial, .nil⟩
theorem wd_nilt {s t q : Nat} (h : r s = t) : WD r (.c (some (s, q)) .nils) (.c (some (t, q)) (.sl [])) := ⟨⟨h, rfl⟩, .nil⟩
theorem wd_agg {a b : List E} (h : WL a b) : WD r (.agg a) (.agg b) := h
theorem wd_ref {a b : List E} (h : WL a b) : WD r (.ref a) (.ref b) := h
theorem wd_tup {a b : List X} (h : WXs a b) : WD r (.tup a) (.tup b) := h
theorem wd_ptr {n o : Nat} : WD r (.ptr n o) (.ptr n o) := ⟨rfl, rfl⟩
theorem wl_nil : WL [] [] := trivial
theorem wl_cons {x y : E} {xs ys : List E} (h : WE x y) (k : WL xs ys) : WL (x :: xs) (y :: ys) := ⟨h, k⟩
theorem wx_nil : WXs [] [] := trivial
theorem wx_c {xs ys : List X} (h : WE e e') (k : WXs xs ys) : WXs (.c e :: xs) (.c e' :: ys) := ⟨h, k⟩
theorem wx_agg {a b : List E} {xs ys : List X} (h : WL a b) (k : WXs xs ys) : WXs (.agg a :: xs) (.agg b :: ys) := ⟨h, k⟩
theorem wc_nil : WCs r [] [] := trivial
theorem wc_c {xs ys : List Cell} (h : WE e e') (k : WCs r xs ys) : WCs r ((tk, e) :: xs) ((none, e') :: ys) := ⟨⟨by cases tk <;> trivial, h⟩, k⟩
theorem wc_own {s t q : Nat} {xs ys : List Cell} (h0 : r s = t) (h : WE e e') (k : WCs r xs ys) : WCs r ((some (s, q), e) :: xs) ((some (t, q), e') :: ys) := ⟨⟨⟨h0, rfl⟩, h⟩, k⟩
theorem wc_nilown {t q : Nat} {xs ys : List Cell} (k : WCs r xs ys) : WCs r ((none, .nils) :: xs) ((some (t, q), .sl []) :: ys) := ⟨⟨trivial, .nil⟩, k⟩
theorem wb_nil : WBs r S [] := trivial
theorem wb_cons {n : Nat} {ds cs : List Cell} {l : Boxes} (h0 : S.box n = some ds) (h : WCs r ds cs) (k : WBs r S l) : WBs r S ((n, cs) :: l) := ⟨by unfold WB; rw [h0]; exact h, k⟩
theorem we_rows_nil {α : Type} {f : α → List E} : WE (.sl []) (.sl (([] : List α).map f)) := .refl _
theorem we_rows {α : Type} {f : α → List E} {row : List E} {rows : List (List E)} {x : α} {xs : List α} (h : WL row (f x)) (k : WE (.sl rows) (.sl (xs.map f))) : WE (.sl (row :: rows)) (.sl ((x :: xs).map f)) := by
  have := WE.app (WE.row h) k
  exact this
theorem wl_eq {row a b : List E} (h : b = a) (k : WL row a) : WL row b := h ▸ k
end

/-! ### entering, ending -/
/-- The end that a contract's walk comes to. -/
def WRes (d' : D) (bx' : Boxes) (d : D) (b : Boxes) : Prop := ∃ r, WS r ⟨[(0, d)], b⟩ ⟨[(0, d')], bx'⟩
def bodyOf (fn : Func) : Code := fn.body.getD .skip
theorem enter {P : Program} [Gl P] {L : Tab} (hL : TOk P L) {f : FuncId} {fn : Func} (hf : P.funcs[f]? = some fn) (hb : fn.body.isSome = true) (hname : (fn.name == "runtime.NumGoroutine") = false)
    {args : List D} {bx bx' : Boxes} {d' : D} (hargs : args.length ≤ fn.ntmps) (hbx : (bx.map (·.1)).all (EXT ≤ ·) = true) (hd : d'.noPtr = true) (hbn : (bx'.map (·.1)).all (EXT ≤ ·) = true)
    (hk : AWP P fn.ntmps (bodyOf fn) (endK L fn.results (bx.map (·.1)) (WRes d' bx')) ⟨argsAt 0 args, bx⟩) : CallsX P f args bx fun d b => d = d' ∧ b = bx' := by
  refine CallsX.weakRes hd (fun n hn => ?_) ?_
  · have : ∀ l : Boxes, (l.map (·.1)).all (EXT ≤ ·) = true → look l n = none := by
      intro l
      induction l with
      | nil => intro _; rfl
      | cons p l ih =>
        obtain ⟨m, cs⟩ := p
        intro h
        simp only [List.map_cons, List.all_cons, Bool.and_eq_true, decide_eq_true_eq] at h
        simp only [look]
        rw [if_neg (by omega)]
        exact ih h.2
    exact this bx' hbn
  · obtain ⟨c, hc⟩ := Option.isSome_iff_exists.1 hb
    have hbo : bodyOf fn = c := by unfold bodyOf; rw [hc]; rfl
    rw [hbo] at hk
    exact body_wp hL hf hc hname hargs hbx hk.run

/-! ### short words for what every walk does -/
def Runs (G G' : Prop) : Prop := G' → G
theorem Runs.side {A B G' : Prop} (a : A) (r : Runs B G') : Runs (A ∧ B) G' := fun g => ⟨a, r g⟩
theorem Runs.done {G : Prop} : Runs G G := id
theorem Runs.free {α β : Type} {A B C : α → β → Prop} {G' : Prop} {v : α} {s : β} (a : A v s) (b : B v s) (c : Runs (C v s) G') : Runs (∃ v s, A v s ∧ B v s ∧ C v s) G' := fun g => ⟨v, s, a, b, c g⟩
/-- On, as far as it goes by itself. -/
theorem st {G G' : Prop} (h : G') (s : Runs G G' := by
    (repeat (first | ((conv => (arg 1; whnf)); (with_reducible apply Runs.side); (focus (first | exact Eq.refl _ | exact trivial | exact Int.natCast_nonneg _ | assumption | exact Nat.le_of_ble_eq_true (Eq.refl true) | decide)))))
    (conv => (arg 1; whnf))
    exact Runs.done) : G := s h
/-- The same, with an equation to go by. -/
theorem sr {A G G' : Prop} (e : A) (h : G') (s : A → Runs G G' := by
    intro e
    (repeat (first | ((conv => (arg 1; whnf)); (with_reducible apply Runs.side); (focus (first | exact Eq.refl _ | exact trivial | exact Int.natCast_nonneg _ | assumption | exact Nat.le_of_ble_eq_true (Eq.refl true) | decide))) | ((conv => (arg 1; whnf)); rw [e])))
    (conv => (arg 1; whnf))
    exact Runs.done) : G := s e h
/-- An operation of an open order. -/
theorem dp {G G' : Prop} (h : G') (s : Runs G G' := by
    (repeat (first | ((conv => (arg 1; whnf)); (with_reducible apply Runs.side); (focus (first | exact Eq.refl _ | exact trivial | exact Int.natCast_nonneg _ | assumption | exact Nat.le_of_ble_eq_true (Eq.refl true) | decide)))))
    (conv => (arg 1; whnf))
    with_reducible apply Runs.free
    (focus (((repeat (first | ((conv => whnf); (with_reducible refine And.intro ?_ ?_); (focus (first | exact Eq.refl _ | exact trivial | exact Int.natCast_nonneg _ | assumption | exact Nat.le_of_ble_eq_true (Eq.refl true) | decide))))); (conv => whnf)) <;> (exact rfl)))
    (focus exact rfl)
    (conv => (arg 1; whnf))
    exact Runs.done) : G := s h
theorem cm {P : Program} [Gl P] {f : FuncId} {args : List D} {bx b0 : Boxes} {d0 : D} {K : D → Boxes → Prop} (h : CallsX P f args bx fun d b => d = d0 ∧ b = b0) (k : K d0 b0) : CallsX P f args bx K :=
  CallsX.mono h fun d b hh => by obtain ⟨rfl, rfl⟩ := hh; exact k
theorem ift {A : Prop} {b : Bool} {α : Type} {x y r : α} (a : A) (h : (if b = true then x else y) = r) (hb : A → b = true := by intro a; first | assumption | exact Eq.refl _ | simp only [a, Bool.and_true, Bool.true_and, Bool.and_false, Bool.false_and, Bool.or_true, Bool.true_or, Bool.or_false, Bool.false_or, Bool.not_true, Bool.not_false, cond_true, cond_false, List.length_map]) : x = r := if_then (hb a) h
theorem ife {A : Prop} {b : Bool} {α : Type} {x y r : α} (a : A) (h : (if b = true then x else y) = r) (hb : A → b = false := by intro a; first | assumption | exact Eq.refl _ | simp only [a, Bool.and_true, Bool.true_and, Bool.and_false, Bool.false_and, Bool.or_true, Bool.true_or, Bool.or_false, Bool.false_or, Bool.not_true, Bool.not_false, cond_true, cond_false, List.length_map]) : y = r := if_else (hb a) h
theorem web {A : Prop} {x y : Bool} (a : A) (h : A → x = y := by intro a; first | exact Eq.refl _ | simp only [a, Bool.and_true, Bool.true_and, Bool.and_false, Bool.false_and, Bool.or_true, Bool.true_or, Bool.or_false, Bool.false_or, Bool.not_true, Bool.not_false, cond_true, cond_false, List.length_map]) : WE (.v (.bool x)) (.v (.bool y)) := we_b (h a)
theorem wei {A : Prop} {k : IntKind} {x y : Int} (a : A) (h : A → x = y := by intro a; first | exact Eq.refl _ | simp only [a, Bool.and_true, Bool.true_and, Bool.and_false, Bool.false_and, Bool.or_true, Bool.true_or, Bool.or_false, Bool.false_or, Bool.not_true, Bool.not_false, cond_true, cond_false, List.length_map]) : WE (.v (.int k x)) (.v (.int k y)) := we_i (h a)
section
variable {r : Nat → Nat} {S T : AS} {e : E} {tk : Option (Nat × Nat)}
theorem tc {i : Nat} {l : List (Nat × D)} (k : WTs r S l) (h : WD r (S.get i) (.c none e) := by exact wd_c (WE.refl _)) : WTs r S ((i, .c none e) :: l) := ⟨h, k⟩
theorem tp {i n o : Nat} {l : List (Nat × D)} (k : WTs r S l) (h : WD r (S.get i) (.ptr n o) := by exact wd_ptr) : WTs r S ((i, .ptr n o) :: l) := ⟨h, k⟩
theorem lc {xs ys : List E} (k : WL xs ys) : WL (e :: xs) (e :: ys) := ⟨.refl _, k⟩
theorem cc {xs ys : List Cell} (k : WCs r xs ys) : WCs r ((tk, e) :: xs) ((none, e) :: ys) := wc_c (.refl _) k
theorem wx (h : WS (rn []) S T) : ∃ r, WS r S T := ⟨_, h⟩
end
end Go.Am

/- A contract of the library's shelf, on worlds, taken over into a contract on data. -/
set_option linter.unusedVariables false
namespace Go.Am
open Go.RowKit

theorem CallsA.of_calls {P : Program} [Gl P] {f : FuncId} {args : List D} {K : D → Prop} (hc : Callable P f)
    (h : ∀ (w : World) (St : Stab) (ρ : Nat → Nat) (vals : Array Value), vals.size = args.length → (∀ i, RepD w St ρ ((⟨argsAt 0 args, []⟩ : AS).get i) (vals.getD i undef)) → (∀ b o, St b o → b < w.heap.size) → Globs P w St →
      Calls P f vals w fun e w' => ∃ x, e = .returned x ∧ x.oneCell' = true ∧ K (.c none (.v x)) ∧ Below w.heap.size w w') : CallsA P f args K := by
  refine ⟨hc, fun w S0 M0 vals ρ hv hr => ?_⟩
  refine (h w S0 ρ vals hv (fun i => hr.tmp i) hr.lt hr.glob).mono ?_
  rintro e w' ⟨x, rfl, ho, hk, bel⟩
  have hno : ∀ {t k : Nat} {e : E} {v : Value}, ¬ Held (⟨[(0, .c none (.v x))], []⟩ : AS) #[x] w' ρ t k e v := by
    rintro t k e v (⟨i, hi, _⟩ | ⟨n, cs, j, hb, _⟩)
    · simp only [AS.get, look] at hi
      split at hi <;> simp at hi
    · simp [AS.box, look] at hb
  refine ⟨x, .c none (.v x), [], S0, ρ, rfl, hk, rfl, fun _ _ => rfl, fun _ _ => rfl, ?_⟩
  exact { glob := hr.glob, os := bel.os, tape := bel.tape, output := bel.output, size := bel.size, old := fun b hb _ => bel.block b hb
          stay := fun b o hs => bel.cell (p := ⟨b, o, none⟩) (hr.lt b o hs), up := fun _ _ h => h, dn := fun _ _ h _ => .inl h, lt := fun b o hs => Nat.lt_of_lt_of_le (hr.lt b o hs) bel.size
          tmp := fun i => by
            simp only [AS.get, look]
            split
            · rename_i h0; subst h0; exact .v x ho
            · exact trivial
          box := fun n cs hb => by simp [AS.box, look] at hb, inj := fun n m cs ds hb => by simp [AS.box, look] at hb
          own := fun t k e v hh => (hno hh).elim, apart := fun t k e v t' k' e' v' hh => (hno hh).elim, ownbox := fun t k e v n cs hh => (hno hh).elim }

/-- Data in which no row is held and no box is named. -/
def D.bare : D → Bool
  | .c (some _) _ => false
  | .ptr _ _ => false
  | _ => true
/-- A contract that tells of a value, with whatever is new in the world. -/
theorem CallsA.of_callsD {P : Program} [Gl P] {f : FuncId} {args : List D} {K : D → Prop} (hc : Callable P f)
    (h : ∀ (w : World) (St : Stab) (ρ : Nat → Nat) (vals : Array Value), vals.size = args.length → (∀ i, RepD w St ρ ((⟨argsAt 0 args, []⟩ : AS).get i) (vals.getD i undef)) → (∀ b o, St b o → b < w.heap.size) → Globs P w St →
      Calls P f vals w fun e w' => ∃ x r, e = .returned x ∧ RepD w' (fun b o => St b o ∨ (w.heap.size ≤ b ∧ b < w'.heap.size)) ρ r x ∧ r.bare = true ∧ K r ∧ Below w.heap.size w w') : CallsA P f args K := by
  refine ⟨hc, fun w S0 M0 vals ρ hv hr => ?_⟩
  refine (h w S0 ρ vals hv (fun i => hr.tmp i) hr.lt hr.glob).mono ?_
  rintro e w' ⟨x, r, rfl, hrep, hb, hk, bel⟩
  have hno : ∀ {t k : Nat} {e : E} {v : Value}, ¬ Held (⟨[(0, r)], []⟩ : AS) #[x] w' ρ t k e v := by
    rintro t k e v (⟨i, hi, _⟩ | ⟨n, cs, j, hb, _⟩)
    · simp only [AS.get, look] at hi
      split at hi
      · simp only [Option.getD_some] at hi; subst hi; cases hb
      · simp at hi
    · simp [AS.box, look] at hb
  refine ⟨x, r, [], (fun b o => S0 b o ∨ (w.heap.size ≤ b ∧ b < w'.heap.size)), ρ, rfl, hk, (by cases r <;> first | rfl | (cases hb)), fun _ _ => rfl, fun _ _ => rfl, ?_⟩
  exact { glob := hr.glob, os := bel.os, tape := bel.tape, output := bel.output, size := bel.size, old := fun b hb _ => bel.block b hb
          stay := fun b o hs => bel.cell (p := ⟨b, o, none⟩) (hr.lt b o hs), up := fun _ _ h => .inl h, dn := fun b o h hl => by rcases h with h | h; exact .inl h; omega
          lt := fun b o hs => by rcases hs with hs | hs; exact Nat.lt_of_lt_of_le (hr.lt b o hs) bel.size; exact hs.2
          tmp := fun i => by
            simp only [AS.get, look]
            split
            · rename_i h0; subst h0; exact hrep
            · exact trivial
          box := fun n cs hb => by simp [AS.box, look] at hb, inj := fun n m cs ds hb => by simp [AS.box, look] at hb
          own := fun t k e v hh => (hno hh).elim, apart := fun t k e v t' k' e' v' hh => (hno hh).elim, ownbox := fun t k e v n cs hh => (hno hh).elim }

/-- A slice of strings, its cells. -/
theorem rep_strings {w : World} {St : Stab} {xs : List ByteArray} {v : Value} (h : RepE w St (.sl (xs.map fun x => [.v (.string x)])) v) :
    ∃ A c, v = .slice A xs.length c ∧ xs.length ≤ c ∧ c ≤ maxLen ∧ (xs ≠ [] → ∃ b o, A = some ⟨b, o, none⟩ ∧ St b o ∧ ∀ (j : Nat) x, xs[j]? = some x → w.cell? ⟨b, o + j, none⟩ = some (.string x)) := by
  cases h with
  | sl _ A n c sz b o vals hn hc hm hA hs hv hr =>
    rw [List.length_map] at hn
    subst hn
    refine ⟨A, c, rfl, hc, hm, fun hne => ⟨b, o, hA (List.length_pos_iff.2 hne), ?_, fun j x hj => ?_⟩⟩
    · obtain ⟨x, hx⟩ : ∃ x, xs[0]? = some x := ⟨_, List.getElem?_eq_getElem (List.length_pos_iff.2 hne)⟩
      have := (hv 0 0 [.v (.string x)] (.v (.string x)) (by simp [hx]) rfl).1
      simpa using this
    · have h1 : (xs.map fun x => [E.v (.string x)])[j]? = some [.v (.string x)] := by simp [hj]
      have hsz : sz = 1 := by have := hs j _ h1; simpa using this.symm
      subst hsz
      obtain ⟨_, h3⟩ := hv j 0 _ (.v (.string x)) h1 rfl
      have h4 := hr j 0 _ (.v (.string x)) h1 rfl
      have h5 : vals j 0 = .string x := by generalize vals j 0 = y at h4; cases h4; rfl
      rw [h5] at h3
      simpa using h3
end Go.Am

/- From the form's reading of an argument to data. -/
set_option linter.unusedVariables false
set_option linter.unusedSimpArgs false
namespace Go.Am
open Go.RowKit

/-- The shape of data of a type. -/
inductive Sh (L : Tab) : Nat → List E → Prop
  | bool (t : Nat) (b : Bool) (h : (L.ti t).k = .bool) : Sh L t [.v (.bool b)]
  | int (t : Nat) (k : IntKind) (n : Int) (h : (L.ti t).k = .int k) (hn : k.min ≤ n ∧ n ≤ k.max) : Sh L t [.v (.int k n)]
  | string (t : Nat) (s : ByteArray) (h : (L.ti t).k = .string) (hs : s.size ≤ maxLen) : Sh L t [.v (.string s)]
  | slice (t e : Nat) (rows : List (List E)) (h : (L.ti t).k = .slice e) (hl : rows.length ≤ maxLen) (hr : ∀ (i : Nat) (row : List E), rows[i]? = some row → Sh L e row) : Sh L t [.sl rows]
  | struct (t : Nat) (fs : List (Nat × Nat)) (parts : List (List E)) (h : (L.ti t).k = .struct fs) (hl : parts.length = fs.length) (hf : ∀ (i ft off : Nat) (part : List E), fs[i]? = some (ft, off) → parts[i]? = some part → Sh L ft part) : Sh L t parts.flatten
  | array (t n e : Nat) (parts : List (List E)) (h : (L.ti t).k = .array n e) (hl : parts.length = n) (hf : ∀ (i : Nat) (part : List E), parts[i]? = some part → Sh L e part) : Sh L t parts.flatten

/-- The fields lie one behind the other. -/
def laidF (L : Tab) (total : Nat) : Nat → List (Nat × Nat) → Bool
  | off, [] => off == total
  | off, (t, o) :: fs => o == off && laidF L total (off + (L.ti t).size) fs

/-- A list of types that holds what it needs, of simple kinds. -/
def simpleIn (L : Tab) (R : List Nat) : Bool := R.all fun t =>
  match (L.ti t).k with
  | .bool | .int _ | .string => true
  | .slice e => R.contains e && (L.ti e).size != 0
  | .array n e => R.contains e && n * (L.ti e).size == (L.ti t).size
  | .struct fs => laidF L (L.ti t).size 0 fs && fs.all fun f => R.contains f.1
  | _ => false

def old (w : World) : Stab := fun b _ => b < w.heap.size

theorem list_of {α : Type} {p : Nat → α → Prop} : ∀ n, (∀ i, i < n → ∃ x, p i x) → ∃ l : List α, l.length = n ∧ ∀ i x, l[i]? = some x → p i x
  | 0, _ => ⟨[], rfl, fun i x h => by simp at h⟩
  | n + 1, h => by
    obtain ⟨l, hl, hp⟩ := list_of n fun i hi => h i (by omega)
    obtain ⟨x, hx⟩ := h n (by omega)
    refine ⟨l ++ [x], by simp [hl], fun i y hy => ?_⟩
    rcases Nat.lt_or_ge i n with hi | hi
    · rw [List.getElem?_append_left (by omega)] at hy; exact hp i y hy
    · rw [List.getElem?_append_right (by omega)] at hy
      have : i = n := by
        rcases Nat.lt_or_ge (i - l.length) 1 with h1 | h1
        · omega
        · rw [List.getElem?_eq_none (by simpa using h1)] at hy; cases hy
      subst this
      rw [hl] at hy
      simp at hy; subst hy; exact hx

theorem RepL.append {w : World} {St : Stab} {a b : List E} {u v : List Value} (h : RepL w St a u) (k : RepL w St b v) : RepL w St (a ++ b) (u ++ v) := by
  refine ⟨by simp [h.1, k.1], fun i e he => ?_⟩
  rcases Nat.lt_or_ge i a.length with hi | hi
  · rw [List.getElem?_append_left hi] at he
    rw [List.getElem?_append_left (by rw [← h.1]; exact hi)]
    exact h.2 i e he
  · rw [List.getElem?_append_right hi] at he
    rw [List.getElem?_append_right (by rw [← h.1]; exact hi), ← h.1]
    exact k.2 _ e he

/-! ### how much there is -/
mutual
/-- Values and letters of a reading, each as often as it is met. -/
def bulk {H : Type} : DataW H → Nat
  | .lit (.string bytes) => bytes.length + 1
  | .lit _ => 1
  | .nil => 1
  | .ptr d => bulk d + 1
  | .slice elems spare => bulks elems + bulks spare + 1
  | .agg parts => bulks parts + 1
  | .iface _ d => bulk d + 1
  | .map entries => bulkKs entries + 1
  | .held _ => 1
def bulks {H : Type} : List (DataW H) → Nat
  | [] => 0
  | d :: r => bulk d + bulks r
def bulkKs {H : Type} : List (Lit × DataW H) → Nat
  | [] => 0
  | x :: r => bulkK x + bulkKs r
def bulkK {H : Type} : Lit × DataW H → Nat
  | (.string bytes, d) => bytes.length + bulk d + 1
  | (_, d) => bulk d + 1
end
mutual
def bulkE : E → Nat
  | .v (.string s) => s.size + 1
  | .v _ => 1
  | .sl rows => bulkRs rows + 1
  | .nils => 1
  | .ifc _ => 1
  | .mp rows => bulkRs rows + 1
def bulkEs : List E → Nat
  | [] => 0
  | e :: es => bulkE e + bulkEs es
def bulkRs : List (List E) → Nat
  | [] => 0
  | r :: rs => bulkEs r + bulkRs rs
end
theorem bulkEs_append : ∀ a b : List E, bulkEs (a ++ b) = bulkEs a + bulkEs b
  | [], b => by simp [bulkEs]
  | x :: a, b => by rw [List.cons_append, bulkEs, bulkEs, bulkEs_append a b]; omega
def sumN (m : Nat → Nat) : Nat → Nat
  | 0 => 0
  | n + 1 => m 0 + sumN (fun i => m (i + 1)) n
theorem bulkRs_le : ∀ (rows : List (List E)) (m : Nat → Nat), (∀ (i : Nat) (row : List E), rows[i]? = some row → bulkEs row ≤ m i) → bulkRs rows ≤ sumN m rows.length
  | [], m, _ => by simp [bulkRs]
  | r :: rs, m, h => by
    rw [bulkRs, List.length_cons, sumN]
    exact Nat.add_le_add (h 0 r rfl) (bulkRs_le rs _ fun i row hi => h (i + 1) row hi)
def mX {H β : Type} (xs : List (DataW H × β)) (i : Nat) : Nat := match xs[i]? with | some y => bulk y.1 | none => 0
theorem sumN_mX {H β : Type} : ∀ xs : List (DataW H × β), sumN (mX xs) xs.length = bulks (xs.map (·.1))
  | [] => by simp [sumN, bulks]
  | x :: xs => by
    rw [List.length_cons, sumN, List.map_cons, bulks, ← sumN_mX xs]
    rfl
theorem mX_at {H β : Type} {xs : List (DataW H × β)} {i : Nat} {y : DataW H × β} (h : xs[i]? = some y) : mX xs i = bulk y.1 := by unfold mX; rw [h]

theorem fields_of {w : World} {St : Stab} {L : Tab} {cs : List Value} : ∀ (fs : List (Nat × Nat)) (off : Nat) (m : Nat → Nat), laidF L cs.length off fs = true →
    (∀ (i ft o : Nat), fs[i]? = some (ft, o) → ∃ es, Sh L ft es ∧ RepL w St es ((cs.drop o).take (L.ti ft).size) ∧ bulkEs es ≤ m i) →
    ∃ parts : List (List E), parts.length = fs.length ∧ (∀ (i ft o : Nat) (part : List E), fs[i]? = some (ft, o) → parts[i]? = some part → Sh L ft part) ∧ RepL w St parts.flatten (cs.drop off) ∧ bulkEs parts.flatten ≤ sumN m fs.length
  | [], off, m, hl, _ => by
    simp only [laidF, beq_iff_eq] at hl
    exact ⟨[], rfl, fun i ft o part h => by simp at h, by subst hl; simp [RepL], by simp [bulkEs]⟩
  | (t, o) :: fs, off, m, hl, h => by
    simp only [laidF, Bool.and_eq_true, beq_iff_eq] at hl
    obtain ⟨rfl, hl⟩ := hl
    obtain ⟨es, he, hr, hb⟩ := h 0 t o rfl
    obtain ⟨parts, h1, h2, h3, h4⟩ := fields_of fs _ (fun i => m (i + 1)) hl fun i ft o' hi => h (i + 1) ft o' hi
    refine ⟨es :: parts, by simp [h1], fun i ft o' part hi hp => ?_, ?_, by rw [List.flatten_cons, bulkEs_append, List.length_cons, sumN]; omega⟩
    · cases i with
      | zero => simp only [List.getElem?_cons_zero, Option.some.injEq, Prod.mk.injEq] at hi hp; obtain ⟨rfl, rfl⟩ := hi; subst hp; exact he
      | succ i => exact h2 i ft o' part hi hp
    · have := hr.append h3
      rw [List.flatten_cons]
      rwa [show List.drop (o + (L.ti t).size) cs = List.drop (L.ti t).size (List.drop o cs) by rw [List.drop_drop], List.take_append_drop] at this

theorem elems_of {w : World} {St : Stab} {L : Tab} {e sz : Nat} : ∀ (n : Nat) (cs : List Value) (m : Nat → Nat), cs.length = n * sz →
    (∀ i, i < n → ∃ es, Sh L e es ∧ RepL w St es ((cs.drop (i * sz)).take sz) ∧ bulkEs es ≤ m i) →
    ∃ parts : List (List E), parts.length = n ∧ (∀ (i : Nat) (part : List E), parts[i]? = some part → Sh L e part) ∧ RepL w St parts.flatten cs ∧ bulkEs parts.flatten ≤ sumN m n
  | 0, cs, m, hl, _ => ⟨[], rfl, fun i part h => by simp at h, by
      have : cs = [] := List.eq_nil_of_length_eq_zero (by simpa using hl)
      subst this; simp [RepL], by simp [bulkEs]⟩
  | n + 1, cs, m, hl, h => by
    obtain ⟨es, he, hr, hb⟩ := h 0 (by omega)
    obtain ⟨parts, h1, h2, h3, h4⟩ := elems_of n (cs.drop sz) (fun i => m (i + 1)) (by rw [List.length_drop, hl, Nat.succ_mul, Nat.add_sub_cancel]) fun i hi => by
      obtain ⟨es, he, hr, hb⟩ := h (i + 1) (by omega)
      refine ⟨es, he, ?_, hb⟩
      rwa [List.drop_drop, show sz + i * sz = (i + 1) * sz by rw [Nat.succ_mul]; omega]
    refine ⟨es :: parts, by simp [h1], fun i part hp => ?_, ?_, by rw [List.flatten_cons, bulkEs_append, sumN]; omega⟩
    · cases i with
      | zero => simp only [List.getElem?_cons_zero, Option.some.injEq] at hp; subst hp; exact he
      | succ i => exact h2 i part hp
    · have := hr.append h3
      rw [List.flatten_cons]
      simpa [Nat.zero_mul] using this

section
variable {H : Type} {enc : TypeId × Value → H} {P : Program} [Gl P] {w : World} {L : Tab} (hL : TOk P L) {R : List Nat} (hR : simpleIn L R = true)

theorem Ty.cells {t : Nat} {d : TypeDesc} {ti : TypeInfo} {i : TI} (h : Ty P i t d ti) : P.cellsOf t = i.size := by
  simp [Program.cellsOf, h.info, h.size]

include hL hR in
theorem simple_ty {t : Nat} (ht : R.contains t = true) : ∃ d ti, Ty P (L.ti t) t d ti := by
  refine hL.ty (.inl ?_)
  have := List.all_eq_true.1 hR t (by simpa using ht)
  unfold TI.known
  split at this <;> simp_all

include hL hR in
theorem trod_sh {spare : Nat → Bool} {held : Bool} : ∀ (fuel t : Nat) (cs : List Value) (x : DataW H × List MemPlace), R.contains t = true → DataW.trod enc P w 0 spare held fuel t cs = some x →
    ∃ es, Sh L t es ∧ RepL w (old w) es cs ∧ bulkEs es ≤ bulk x.1 := by
  intro fuel
  induction fuel with
  | zero => intro t cs x _ h; simp [DataW.trod] at h
  | succ fuel ih =>
    intro t cs x ht h
    obtain ⟨d, ti, hty⟩ := simple_ty hL hR ht
    have hs := List.all_eq_true.1 hR t (by simpa using ht)
    have one : ∀ (e : E) (v : Value), RepE w (old w) e v → RepL w (old w) [e] [v] := fun e v hr => ⟨rfl, fun k e' hk => by
      cases k with
      | zero => simp only [List.getElem?_cons_zero, Option.some.injEq] at hk; subst hk; exact ⟨v, rfl, hr⟩
      | succ k => simp at hk⟩
    have hk := hty.k
    have hu := hty.und
    unfold DataW.trod at h
    cases hd : d with
    | bool =>
      subst hd
      rw [hu] at h
      match cs, h with
      | [.bool b], h =>
        simp only [Option.some.injEq] at h; subst h
        exact ⟨_, .bool t b hk, one _ _ (.v _ rfl), by simp [bulkEs, bulkE, bulk]⟩
    | int k =>
      subst hd
      rw [hu] at h
      match cs, h with
      | [.int k' n], h =>
        simp only at h
        split at h
        · rename_i hc; obtain ⟨rfl, hc⟩ := hc; simp only [Option.some.injEq] at h; subst h; exact ⟨_, .int t _ _ hk (by simpa [Lit.wf] using hc), one _ _ (.v _ rfl), by simp [bulkEs, bulkE, bulk]⟩
        · cases h
    | string =>
      subst hd
      rw [hu] at h
      match cs, h with
      | [.string s], h =>
        simp only at h
        split at h
        · rename_i hc; simp only [Option.some.injEq] at h; subst h; exact ⟨_, .string t _ hk hc, one _ _ (.v _ rfl), by simp [bulkEs, bulkE, bulk]⟩
        · cases h
    | slice e =>
      subst hd
      rw [hu] at h
      rw [hk] at hs
      simp only [tkOf, Bool.and_eq_true, bne_iff_ne, ne_eq] at hs
      obtain ⟨he, hsz⟩ := hs
      obtain ⟨de, tie, hte⟩ := simple_ty hL hR he
      match cs, h with
      | [.slice none 0 0], h =>
        simp only [Option.some.injEq] at h; subst h
        exact ⟨_, .slice t e [] hk (by simp) (fun i row hi => by simp at hi), one _ _ (.sl [] none 0 0 0 0 0 (fun _ _ => undef) rfl (by omega) (by simp) (fun h0 => by omega) (fun i row hi => by simp at hi) (fun i k row e hi => by simp at hi) (fun i k row e hi => by simp at hi)), by simp [bulkEs, bulkE, bulkRs, bulk]⟩
      | [.slice (some a) len cap], h =>
        simp only at h
        split at h
        case isFalse => cases h
        rename_i hc
        obtain ⟨_, hlc, hcm⟩ := hc
        simp only [Option.bind_eq_some_iff] at h
        obtain ⟨elems, helems, hrest⟩ := h
        simp only [Option.map_eq_some_iff] at hrest
        obtain ⟨rest, _, hx⟩ := hrest
        have hget := mapM_some_get helems
        have hlen := mapM_some_length helems
        simp only [List.length_range] at hlen
        have row_of : ∀ i, i < len → ∃ row : List E, Sh L e row ∧ bulkEs row ≤ mX elems i ∧ ∃ vs : List Value, w.cells? 0 (a.add (i * P.cellsOf e)) (P.cellsOf e) = some vs ∧ RepL w (old w) row vs := fun i hi => by
          have h1 := hget i i (by rw [List.getElem?_range hi])
          rw [List.getElem?_eq_getElem (by omega : i < elems.length)] at h1
          simp only [Option.bind_eq_some_iff] at h1
          obtain ⟨vs, h2, h3⟩ := h1
          obtain ⟨row, h4, h5, h6⟩ := ih e vs _ he h3
          exact ⟨row, h4, by rw [mX_at (List.getElem?_eq_getElem (by omega : i < elems.length))]; exact h6, vs, h2, h5⟩
        obtain ⟨rows, hrl, hrows⟩ := list_of len row_of
        have hcell : ∀ (i k : Nat) (row : List E) (x : E), rows[i]? = some row → row[k]? = some x → ∃ u, w.cell? ((a.add (i * P.cellsOf e)).add k) = some u ∧ RepE w (old w) x u := fun i k row x hi hx => by
          obtain ⟨_, _, vs, h1, h2⟩ := hrows i row hi
          obtain ⟨u, hu1, hu2⟩ := h2.2 k x hx
          unfold World.cells? at h1
          rw [if_pos (Nat.zero_le _)] at h1
          have hkl : k < P.cellsOf e := by
            have := mapM_some_length h1
            rw [List.length_range] at this
            rw [← this]
            exact (List.getElem?_eq_some_iff.1 hu1).1
          have h3 := mapM_some_get h1 k k (by rw [List.getElem?_range hkl])
          exact ⟨u, h3.trans hu1, hu2⟩
        have hrow : ∀ (i : Nat) (row : List E), rows[i]? = some row → row.length = (L.ti e).size := fun i row hi => by
          obtain ⟨_, _, vs, h1, h2⟩ := hrows i row hi
          unfold World.cells? at h1
          rw [if_pos (Nat.zero_le _)] at h1
          have := mapM_some_length h1
          rw [List.length_range] at this
          rw [h2.1, this, hte.cells]
        have hspot : 0 < len → a.spot = none := fun h0 => by
          obtain ⟨row, hr0⟩ : ∃ row, rows[0]? = some row := ⟨_, List.getElem?_eq_getElem (by omega)⟩
          have h1 := hrow 0 row hr0
          obtain ⟨x, hx⟩ : ∃ x, row[0]? = some x := ⟨_, List.getElem?_eq_getElem (by omega)⟩
          obtain ⟨u, h2, _⟩ := hcell 0 0 row x hr0 hx
          simp only [Nat.zero_mul, Addr.add, if_true] at h2
          unfold World.cell? at h2
          split at h2
          · split at h2
            · cases h2
            · rename_i hn; simpa using hn
          · cases h2
        have hadd : ∀ i k, 0 < len → (a.add (i * P.cellsOf e)).add k = ⟨a.block, a.off + i * (L.ti e).size + k, none⟩ := fun i k h0 => by
          have ha : a = ⟨a.block, a.off, none⟩ := by have := hspot h0; cases a; simp_all
          rw [ha, add_none, add_none, hte.cells]
        refine ⟨_, .slice t e rows hk (by omega) (fun i row hi => (hrows i row hi).1), one _ _ (.sl rows (some a) len cap (L.ti e).size a.block a.off (fun i k => (w.cell? ⟨a.block, a.off + i * (L.ti e).size + k, none⟩).getD undef) hrl hlc hcm
          (fun h0 => by have := hspot h0; cases a; simp_all) hrow (fun i k row x hi hx => ?_) (fun i k row x hi hx => ?_)), ?_⟩
        rotate_right
        · have h1 := bulkRs_le rows (mX elems) fun i row hi => (hrows i row hi).2.1
          rw [hrl, show len = elems.length by omega, sumN_mX] at h1
          subst hx
          simp only [bulkEs, bulkE, bulk]; omega
        · have h0 : 0 < len := by rw [← hrl]; exact Nat.lt_of_le_of_lt (Nat.zero_le i) (List.getElem?_eq_some_iff.1 hi).1
          obtain ⟨u, h1, h2⟩ := hcell i k row x hi hx
          rw [hadd i k h0] at h1
          refine ⟨World.block_lt_of_cell? w ⟨a.block, a.off + i * (L.ti e).size + k, none⟩ h1, by rw [h1]; rfl⟩
        · have h0 : 0 < len := by rw [← hrl]; exact Nat.lt_of_le_of_lt (Nat.zero_le i) (List.getElem?_eq_some_iff.1 hi).1
          obtain ⟨u, h1, h2⟩ := hcell i k row x hi hx
          rw [hadd i k h0] at h1
          rw [h1]; exact h2
    | struct fs =>
      subst hd
      rw [hu] at h
      rw [hk] at hs
      simp only [tkOf, Bool.and_eq_true] at hs
      obtain ⟨hlaid, hin⟩ := hs
      simp only at h
      split at h
      case isFalse => cases h
      rename_i hlen
      simp only [Option.map_eq_some_iff] at h
      obtain ⟨xs, hxs, hx⟩ := h
      have hget := mapM_some_get hxs
      have hlx := mapM_some_length hxs
      obtain ⟨parts, h1, h2, h3, h6⟩ := fields_of (w := w) (St := old w) (L := L) (cs := cs) (fs.toList.map fun f => (f.type, f.offset)) 0 (mX xs) (by rw [hlen, hty.cells]; exact hlaid) fun i ft o hi => by
        rw [List.getElem?_map] at hi
        cases hf : fs.toList[i]? with
        | none => rw [hf] at hi; cases hi
        | some f =>
          rw [hf] at hi
          simp only [Option.map_some, Option.some.injEq, Prod.mk.injEq] at hi
          obtain ⟨rfl, rfl⟩ := hi
          have h1 := hget i f hf
          have hc : R.contains f.type = true := by
            refine List.all_eq_true.1 hin (f.type, f.offset) (List.mem_map.2 ⟨f, List.mem_of_getElem? hf, rfl⟩)
          obtain ⟨df, tif, htf⟩ := simple_ty hL hR hc
          cases hx : xs[i]? with
          | none =>
            have := mapM_some_length hxs
            have := (List.getElem?_eq_some_iff.1 hf).1
            have := List.getElem?_eq_none_iff.1 hx
            omega
          | some y =>
            rw [hx] at h1
            obtain ⟨es, h4, h5, h6⟩ := ih f.type _ y hc h1
            exact ⟨es, h4, by rwa [htf.cells] at h5, by rw [mX_at hx]; exact h6⟩
      rw [List.length_map, ← hlx, sumN_mX] at h6
      subst hx
      exact ⟨_, .struct t _ parts hk h1 h2, by simpa using h3, by simp only [bulk]; omega⟩
    | array n e =>
      subst hd
      rw [hu] at h
      rw [hk] at hs
      simp only [tkOf, Bool.and_eq_true, beq_iff_eq] at hs
      obtain ⟨hin, hsz⟩ := hs
      obtain ⟨de, tie, hte⟩ := simple_ty hL hR hin
      simp only at h
      split at h
      case isFalse => cases h
      rename_i hlen
      simp only [Option.map_eq_some_iff] at h
      obtain ⟨xs, hxs, hx⟩ := h
      have hget := mapM_some_get hxs
      have hlx := mapM_some_length hxs
      rw [List.length_range] at hlx
      obtain ⟨parts, h1, h2, h3, h6⟩ := elems_of (w := w) (St := old w) (L := L) (e := e) (sz := (L.ti e).size) n cs (mX xs) (by rw [hlen, hty.cells]; exact hsz.symm) fun i hi => by
        have h1 := hget i i (by rw [List.getElem?_range hi])
        rw [List.getElem?_eq_getElem (by omega : i < xs.length), hte.cells] at h1
        rw [mX_at (List.getElem?_eq_getElem (by omega : i < xs.length))]
        exact ih e _ _ hin h1
      rw [← hlx, sumN_mX] at h6
      subst hx
      exact ⟨_, .array t n e parts hk h1 h2, h3, by simp only [bulk]; omega⟩
    | _ => subst hd; rw [hk] at hs; simp [tkOf] at hs

include hL hR in
/-- An argument that is one cell. -/
theorem arg_c {base : Nat} {ρ : Nat → Nat} {spare : Nat → Bool} {held : Bool} {t : Nat} {v : Value} {d : DataW H} {ps : List MemPlace} (ht : R.contains t = true) (hagg : (L.ti t).isAgg = false) (hok : Value.okWide P w .any base t v)
    (h : DataW.Trod enc P w 0 spare held t v d ps) : ∃ e, Sh L t [e] ∧ RepD w (old w) ρ (.c none e) v ∧ bulkEs [e] ≤ bulk d := by
  obtain ⟨fuel, h⟩ := h
  obtain ⟨es, h1, h2, hb⟩ := trod_sh hL hR fuel t _ _ ht h
  obtain ⟨d', ti, hty⟩ := simple_ty hL hR ht
  have hv : v.cells = #[v] := by
    have hk := hty.k
    unfold Value.okWide at hok
    rw [hty.und] at hok
    cases v with
    | agg cs =>
      unfold TI.isAgg at hagg
      rw [hk] at hagg
      cases d' <;> simp_all [tkOf, Cell.okWide, Cell.ok]
    | _ => rfl
  rw [hv] at h2
  match es, h1, h2, hb with
  | [e], h1, h2, hb =>
    obtain ⟨u, hu, hr⟩ := h2.2 0 e rfl
    simp only [List.getElem?_cons_zero, Option.some.injEq] at hu
    subst hu
    exact ⟨e, h1, hr, hb⟩
  | [], _, h2, _ => exact absurd h2.1 (by simp)
  | _ :: _ :: _, _, h2, _ => exact absurd h2.1 (by simp)

include hL hR in
/-- An argument that is a struct or an array. -/
theorem arg_agg {base : Nat} {ρ : Nat → Nat} {spare : Nat → Bool} {held : Bool} {t : Nat} {v : Value} {d : DataW H} {ps : List MemPlace} (ht : R.contains t = true) (hagg : (L.ti t).isAgg = true) (hok : Value.okWide P w .any base t v)
    (h : DataW.Trod enc P w 0 spare held t v d ps) : ∃ es, Sh L t es ∧ RepD w (old w) ρ (.agg es) v ∧ bulkEs es ≤ bulk d := by
  obtain ⟨fuel, h⟩ := h
  obtain ⟨es, h1, h2, hb⟩ := trod_sh hL hR fuel t _ _ ht h
  obtain ⟨d', ti, hty⟩ := simple_ty hL hR ht
  obtain ⟨cs, rfl⟩ : ∃ cs, v = .agg cs := by
    have hk := hty.k
    unfold Value.okWide at hok
    rw [hty.und] at hok
    unfold TI.isAgg at hagg
    rw [hk] at hagg
    cases d' <;> simp_all [tkOf]
    · obtain ⟨cs, rfl, _⟩ := hok; exact ⟨cs, rfl⟩
    · obtain ⟨cs, rfl, _⟩ := hok; exact ⟨cs, rfl⟩
  exact ⟨es, h1, ⟨cs.toList, by simp, h2⟩, hb⟩

def D.tokless : D → Bool
  | .c (some _) _ => false
  | _ => true

/-- The state in which a law begins. -/
theorem start_rel {ρ : Nat → Nat} {args : List D} {vals : Array Value} (hn : args.all D.tokless = true) (hr : ∀ i, RepD w (old w) ρ ((⟨argsAt 0 args, []⟩ : AS).get i) (vals.getD i undef)) (hG : Globs P w (old w)) :
    RelAt P w (fun _ => False) (old w) ⟨argsAt 0 args, []⟩ vals w (old w) ρ := by
  have look_at : ∀ (l : List D) (j i : Nat) (d : D), look (argsAt j l) i = some d → d ∈ l := by
    intro l
    induction l with
    | nil => intro j i d h; simp [argsAt, look] at h
    | cons a l ih =>
      intro j i d h
      simp only [argsAt, look] at h
      split at h
      · simp only [Option.some.injEq] at h; subst h; simp
      · exact List.mem_cons_of_mem _ (ih _ _ _ h)
  have hno : ∀ {t k : Nat} {e : E} {v : Value}, ¬ Held (⟨argsAt 0 args, []⟩ : AS) vals w ρ t k e v := by
    rintro t k e v (⟨i, hi, _⟩ | ⟨n, cs, j, hb, _⟩)
    · simp only [AS.get] at hi
      cases hl : look (argsAt 0 args) i with
      | none => rw [hl] at hi; cases hi
      | some d =>
        rw [hl] at hi
        simp only [Option.getD_some] at hi
        subst hi
        have := List.all_eq_true.1 hn _ (look_at _ _ _ _ hl)
        simp [D.tokless] at this
    · simp [AS.box, look] at hb
  exact { glob := hG, os := rfl, tape := rfl, output := rfl, size := Nat.le_refl _, old := fun _ _ _ => rfl, stay := fun _ _ _ => rfl, up := fun _ _ h => h, dn := fun _ _ h _ => .inl h, lt := fun _ _ h => h
          tmp := hr, box := fun n cs hb => by simp [AS.box, look] at hb, inj := fun n m cs ds hb => by simp [AS.box, look] at hb
          own := fun t k e v hh => (hno hh).elim, apart := fun t k e v t' k' e' v' hh => (hno hh).elim, ownbox := fun t k e v n cs hh => (hno hh).elim }

/-- A law's call, in the world of the form. -/
theorem law_calls {f : FuncId} {args : List D} {vals : Array Value} {ρ : Nat → Nat} (hn : args.all D.tokless = true) (hs : vals.size = args.length) (hr : ∀ i, RepD w (old w) ρ ((⟨argsAt 0 args, []⟩ : AS).get i) (vals.getD i undef)) (hG : Globs P w (old w))
    (h : CallsA P f args fun r => r = .c none (.v (.bool true))) : Calls P f vals w fun e w' => e = .returned (.bool true) ∧ Below w.heap.size w w' := by
  refine (h.runs w (old w) (fun _ => False) vals ρ hs (start_rel hn hr hG)).mono ?_
  rintro e w' ⟨v, r, bx', St', ρ', rfl, rfl, _, _, _, hrel⟩
  have h0 := hrel.tmp 0
  have : v = .bool true := by
    have := rep_v (d := .c none (.v (.bool true))) (y := .bool true) h0 rfl
    exact this.1
  exact ⟨by rw [this], hrel.os, hrel.tape, hrel.output, hrel.size, fun k hk => hrel.old k hk (fun h => h)⟩
end
theorem get1 {α : Type} {l : List α} (h : l.length = 1) : ∃ a, l = [a] := by
  match l, h with | [a], _ => exact ⟨a, rfl⟩
theorem get2 {α : Type} {l : List α} (h : l.length = 2) : ∃ a b, l = [a, b] := by
  match l, h with | [a, b], _ => exact ⟨a, b, rfl⟩
theorem get5 {α : Type} {l : List α} (h : l.length = 5) : ∃ a b c d e, l = [a, b, c, d, e] := by
  match l, h with | [a, b, c, d, e], _ => exact ⟨a, b, c, d, e, rfl⟩
theorem sh_int {L : Tab} {t : Nat} {es : List E} (h : Sh L t es) {k : IntKind} (hk : (L.ti t).k = .int k) : ∃ n, es = [.v (.int k n)] ∧ k.min ≤ n ∧ n ≤ k.max := by
  cases h with
  | int _ k' n h hn => rw [hk] at h; injection h with h; subst h; exact ⟨n, rfl, hn⟩
  | bool _ _ h => rw [hk] at h; cases h
  | string _ _ h => rw [hk] at h; cases h
  | slice _ _ _ h => rw [hk] at h; cases h
  | struct _ _ _ h => rw [hk] at h; cases h
  | array _ _ _ _ h => rw [hk] at h; cases h
theorem sh_bool {L : Tab} {t : Nat} {es : List E} (h : Sh L t es) (hk : (L.ti t).k = .bool) : ∃ b, es = [.v (.bool b)] := by
  cases h with
  | bool _ b h => exact ⟨b, rfl⟩
  | int _ _ _ h => rw [hk] at h; cases h
  | string _ _ h => rw [hk] at h; cases h
  | slice _ _ _ h => rw [hk] at h; cases h
  | struct _ _ _ h => rw [hk] at h; cases h
  | array _ _ _ _ h => rw [hk] at h; cases h
theorem sh_string {L : Tab} {t : Nat} {es : List E} (h : Sh L t es) (hk : (L.ti t).k = .string) : ∃ s : ByteArray, es = [.v (.string s)] ∧ s.size ≤ maxLen := by
  cases h with
  | string _ s h hs => exact ⟨s, rfl, hs⟩
  | bool _ _ h => rw [hk] at h; cases h
  | int _ _ _ h => rw [hk] at h; cases h
  | slice _ _ _ h => rw [hk] at h; cases h
  | struct _ _ _ h => rw [hk] at h; cases h
  | array _ _ _ _ h => rw [hk] at h; cases h
theorem sh_slice {L : Tab} {t e : Nat} {es : List E} (h : Sh L t es) (hk : (L.ti t).k = .slice e) : ∃ rows, es = [.sl rows] ∧ rows.length ≤ maxLen ∧ ∀ row ∈ rows, Sh L e row := by
  cases h with
  | slice _ e' rows h hl hr => rw [hk] at h; injection h with h; subst h; exact ⟨rows, rfl, hl, fun row hm => by obtain ⟨i, hi, rfl⟩ := List.mem_iff_getElem.1 hm; exact hr i _ (List.getElem?_eq_getElem hi)⟩
  | bool _ _ h => rw [hk] at h; cases h
  | int _ _ _ h => rw [hk] at h; cases h
  | string _ _ h => rw [hk] at h; cases h
  | struct _ _ _ h => rw [hk] at h; cases h
  | array _ _ _ _ h => rw [hk] at h; cases h
theorem sh_struct {L : Tab} {t : Nat} {fs : List (Nat × Nat)} {es : List E} (h : Sh L t es) (hk : (L.ti t).k = .struct fs) :
    ∃ parts : List (List E), es = parts.flatten ∧ parts.length = fs.length ∧ ∀ (i ft off : Nat) (part : List E), fs[i]? = some (ft, off) → parts[i]? = some part → Sh L ft part := by
  cases h with
  | struct _ fs' parts h hl hf => rw [hk] at h; injection h with h; subst h; exact ⟨parts, rfl, hl, hf⟩
  | bool _ _ h => rw [hk] at h; cases h
  | int _ _ _ h => rw [hk] at h; cases h
  | string _ _ h => rw [hk] at h; cases h
  | slice _ _ _ h => rw [hk] at h; cases h
  | array _ _ _ _ h => rw [hk] at h; cases h

theorem sh_array {L : Tab} {t n e : Nat} {es : List E} (h : Sh L t es) (hk : (L.ti t).k = .array n e) :
    ∃ parts : List (List E), es = parts.flatten ∧ parts.length = n ∧ ∀ (i : Nat) (part : List E), parts[i]? = some part → Sh L e part := by
  cases h with
  | array _ n' e' parts h hl hf => rw [hk] at h; injection h with h1 h2; subst h1 h2; exact ⟨parts, rfl, hl, hf⟩
  | bool _ _ h => rw [hk] at h; cases h
  | int _ _ _ h => rw [hk] at h; cases h
  | string _ _ h => rw [hk] at h; cases h
  | slice _ _ _ h => rw [hk] at h; cases h
  | struct _ _ _ h => rw [hk] at h; cases h
theorem get3 {α : Type} {l : List α} (h : l.length = 3) : ∃ a b c, l = [a, b, c] := by
  match l, h with | [a, b, c], _ => exact ⟨a, b, c, rfl⟩
theorem get4 {α : Type} {l : List α} (h : l.length = 4) : ∃ a b c d, l = [a, b, c, d] := by
  match l, h with | [a, b, c, d], _ => exact ⟨a, b, c, d, rfl⟩
/-- (to choose for a whole list) -/
theorem list_enc {α : Type} {f : α → List E} : ∀ rows : List (List E), (∀ row ∈ rows, ∃ x, row = f x) → ∃ l : List α, rows = l.map f
  | [], _ => ⟨[], rfl⟩
  | r :: rs, h => by
    obtain ⟨x, rfl⟩ := h r (by simp)
    obtain ⟨l, rfl⟩ := list_enc rs fun row hm => h row (by simp [hm])
    exact ⟨x :: l, rfl⟩

end Go.Am

