/- Part 4 of the proof: types, tables, and what was shown of library functions. It holds for every input, without conditions. -/
import Derived.Test.YtafniolcakiljaaDoorProg
import Derived.Lib.AppendIntMem
import Derived.Test.YtafniolcakiljaaDoorVtA
import Derived.Test.YtafniolcakiljaaDoorVtB
import Derived.Test.YtafniolcakiljaaDoorVtC
set_option linter.unusedVariables false
namespace Go.Proofs.YtafniolcakiljaaDoor
open Go Go.Am
/-- What is known of the library's variables. -/
def intCell (o : Option Value) : Prop := ∃ m, o = some (.int .i64 m)
def ifcCell (o : Option Value) : Prop := ∃ ev, o = some ev ∧ (ev = .nilIface ∨ ∃ te pe, ev = .iface te pe)
def powCell (i : Nat) (o : Option Value) : Prop := o = some (.int .u64 ((10 ^ i : Nat) : Int))
def noCell (o : Option Value) : Prop := o = none
def powCells : List (Nat × Nat × (Option Value → Prop)) := (5, 20, noCell) :: (List.range 20).map fun i => (5, i, powCell i)
def restCells : List (Nat × Nat × (Option Value → Prop)) := [(0, 0, intCell), (3, 0, ifcCell), (4, 0, ifcCell)]
instance : Gl Tryd.prog := ⟨powCells ++ restCells⟩
end Go.Proofs.YtafniolcakiljaaDoor

set_option linter.unusedVariables false
namespace Go.Proofs.YtafniolcakiljaaDoor
open Go Go.Am
def tab : Tab := [
  (2, ⟨(.int .i64), 1, 8, some [.v (.int .i64 0)], true⟩),
  (3, ⟨(.int .i64), 1, 8, some [.v (.int .i64 0)], true⟩),
  (4, ⟨.bool, 1, 1, some [.v (.bool false)], true⟩),
  (5, ⟨(.int .u8), 1, 1, some [.v (.int .u8 0)], true⟩),
  (9, ⟨.string, 1, 16, some [.v (.string ⟨#[]⟩)], true⟩),
  (12, ⟨(.int .u64), 1, 8, some [.v (.int .u64 0)], true⟩),
  (13, ⟨(.struct [(9, 0), (12, 1)]), 2, 24, some [.v (.string ⟨#[]⟩), .v (.int .u64 0)], false⟩),
  (21, ⟨(.int .i32), 1, 4, some [.v (.int .i32 0)], true⟩),
  (22, ⟨(.int .i64), 1, 8, some [.v (.int .i64 0)], true⟩),
  (23, ⟨(.slice 28), 1, 24, some [.nils], true⟩),
  (24, ⟨(.slice 41), 1, 24, some [.nils], true⟩),
  (25, ⟨(.struct [(4, 0), (24, 1)]), 2, 32, some [.v (.bool false), .nils], true⟩),
  (26, ⟨(.struct [(4, 0), (24, 1)]), 2, 32, some [.v (.bool false), .nils], true⟩),
  (27, ⟨(.struct [(22, 0), (9, 1), (3, 2), (23, 3), (26, 4)]), 6, 88, some [.v (.int .i64 0), .v (.string ⟨#[]⟩), .v (.int .i64 0), .nils, .v (.bool false), .nils], true⟩),
  (28, ⟨(.struct [(22, 0), (9, 1), (3, 2), (23, 3), (26, 4)]), 6, 88, some [.v (.int .i64 0), .v (.string ⟨#[]⟩), .v (.int .i64 0), .nils, .v (.bool false), .nils], true⟩),
  (32, ⟨(.int .i64), 1, 8, some [.v (.int .i64 0)], true⟩),
  (39, ⟨(.int .i64), 1, 8, some [.v (.int .i64 0)], true⟩),
  (40, ⟨(.struct [(9, 0), (3, 1)]), 2, 24, some [.v (.string ⟨#[]⟩), .v (.int .i64 0)], true⟩),
  (41, ⟨(.struct [(9, 0), (3, 1)]), 2, 24, some [.v (.string ⟨#[]⟩), .v (.int .i64 0)], true⟩),
  (42, ⟨(.struct [(39, 0), (9, 1), (28, 2), (41, 8)]), 10, 136, some [.v (.int .i64 0), .v (.string ⟨#[]⟩), .v (.int .i64 0), .v (.string ⟨#[]⟩), .v (.int .i64 0), .nils, .v (.bool false), .nils, .v (.string ⟨#[]⟩), .v (.int .i64 0)], true⟩),
  (43, ⟨(.struct [(39, 0), (9, 1), (28, 2), (41, 8)]), 10, 136, some [.v (.int .i64 0), .v (.string ⟨#[]⟩), .v (.int .i64 0), .v (.string ⟨#[]⟩), .v (.int .i64 0), .nils, .v (.bool false), .nils, .v (.string ⟨#[]⟩), .v (.int .i64 0)], true⟩),
  (44, ⟨(.array 3 43), 30, 408, some [.v (.int .i64 0), .v (.string ⟨#[]⟩), .v (.int .i64 0), .v (.string ⟨#[]⟩), .v (.int .i64 0), .nils, .v (.bool false), .nils, .v (.string ⟨#[]⟩), .v (.int .i64 0), .v (.int .i64 0), .v (.string ⟨#[]⟩), .v (.int .i64 0), .v (.string ⟨#[]⟩), .v (.int .i64 0), .nils, .v (.bool false), .nils, .v (.string ⟨#[]⟩), .v (.int .i64 0), .v (.int .i64 0), .v (.string ⟨#[]⟩), .v (.int .i64 0), .v (.string ⟨#[]⟩), .v (.int .i64 0), .nils, .v (.bool false), .nils, .v (.string ⟨#[]⟩), .v (.int .i64 0)], true⟩),
  (54, ⟨(.array 3 26), 6, 96, some [.v (.bool false), .nils, .v (.bool false), .nils, .v (.bool false), .nils], true⟩),
  (56, ⟨(.struct [(32, 0), (9, 1), (3, 2), (3, 3)]), 4, 40, some [.v (.int .i64 0), .v (.string ⟨#[]⟩), .v (.int .i64 0), .v (.int .i64 0)], true⟩),
  (57, ⟨(.struct [(32, 0), (9, 1), (3, 2), (3, 3)]), 4, 40, some [.v (.int .i64 0), .v (.string ⟨#[]⟩), .v (.int .i64 0), .v (.int .i64 0)], true⟩),
  (65, ⟨(.slice 5), 1, 24, some [.nils], true⟩),
  (71, ⟨(.ptr 75), 1, 8, some [.v (.pointer none)], true⟩),
  (72, ⟨(.slice 9), 1, 24, some [.nils], true⟩),
  (74, ⟨(.struct [(72, 0), (3, 1), (4, 2)]), 3, 40, some [.nils, .v (.int .i64 0), .v (.bool false)], true⟩),
  (75, ⟨(.struct [(72, 0), (3, 1), (4, 2)]), 3, 40, some [.nils, .v (.int .i64 0), .v (.bool false)], true⟩),
  (81, ⟨(.slice 24), 1, 24, some [.nils], true⟩),
  (90, ⟨(.ptr 92), 1, 8, some [.v (.pointer none)], true⟩),
  (91, ⟨(.struct [(90, 0), (65, 1)]), 2, 32, some [.v (.pointer none), .nils], true⟩),
  (92, ⟨(.struct [(90, 0), (65, 1)]), 2, 32, some [.v (.pointer none), .nils], true⟩),
  (95, ⟨.iface, 1, 16, some [.v .nilIface], false⟩),
  (102, ⟨(.int .u64), 1, 8, some [.v (.int .u64 0)], true⟩),
  (105, ⟨(.ptr 5), 1, 8, some [.v (.pointer none)], true⟩),
  (115, ⟨(.int .u32), 1, 4, some [.v (.int .u32 0)], true⟩),
  (117, ⟨(.int .u64), 1, 8, some [.v (.int .u64 0)], true⟩),
  (130, ⟨(.ptr 3), 1, 8, some [.v (.pointer none)], true⟩),
  (133, ⟨(.int .i64), 1, 8, some [.v (.int .i64 0)], true⟩),
  (147, ⟨(.struct [(5, 0), (5, 1)]), 2, 2, some [.v (.int .u8 0), .v (.int .u8 0)], true⟩),
  (155, ⟨(.struct [(9, 0), (9, 1), (95, 2)]), 3, 48, some [.v (.string ⟨#[]⟩), .v (.string ⟨#[]⟩), .v .nilIface], false⟩),
  (164, ⟨(.struct [(9, 0)]), 1, 16, some [.v (.string ⟨#[]⟩)], true⟩)]
set_option maxRecDepth 100000
theorem tabOk : TOk Tryd.prog tab := by unfold TOk; kernel_rfl
theorem follows : Tryd.prog.follows .mixedOrders = true := by kernel_rfl
theorem draws (nt : Nat) (h : nt ≤ EXT) : DrawOk Tryd.prog tab nt (@drawK) := draw_ok tabOk h follows
end Go.Proofs.YtafniolcakiljaaDoor

set_option linter.unusedVariables false
set_option linter.unusedSimpArgs false
set_option maxRecDepth 100000
set_option maxHeartbeats 4000000
namespace Go.Proofs.YtafniolcakiljaaDoor
open Go Go.Am
theorem nd {nt : Nat} (h : decide (nt ≤ EXT) = true) (c : Code) (Q : Exit → AS → Prop) (S : AS) (hk : Am.node (@drawK) Tryd.prog tab nt c Q S) : AWP Tryd.prog nt c Q S :=
  AWP.node tabOk (of_decide_eq_true h) (draws nt (of_decide_eq_true h)) c Q S hk
open Go Go.Am
structure TExc where
  fCon : ByteArray
  fN : Int
def TExc.cells (v : TExc) : List E := [.v (.string v.fCon), .v (.int .i64 v.fN)]
theorem TExc.cells_eq (v : TExc) : v.cells = [.v (.string v.fCon), .v (.int .i64 v.fN)] := rfl
theorem TExc.cells_len (v : TExc) : v.cells.length = 2 := rfl
structure TExcSet where
  fAll : Bool
  fList : (List TExc)
def TExcSet.cells (v : TExcSet) : List E := [.v (.bool v.fAll), .sl (v.fList.map TExc.cells)]
theorem TExcSet.cells_eq (v : TExcSet) : v.cells = [.v (.bool v.fAll), .sl (v.fList.map TExc.cells)] := rfl
theorem TExcSet.cells_len (v : TExcSet) : v.cells.length = 2 := rfl
mutual
inductive TValue where
  | mk (fOp : Int) (fName : ByteArray) (fN : Int) (fKids : (List TValue)) (fSet : TExcSet)
end
def TValue.fOp : TValue → Int | .mk x _ _ _ _ => x
def TValue.fName : TValue → ByteArray | .mk _ x _ _ _ => x
def TValue.fN : TValue → Int | .mk _ _ x _ _ => x
def TValue.fKids : TValue → (List TValue) | .mk _ _ _ x _ => x
def TValue.fSet : TValue → TExcSet | .mk _ _ _ _ x => x
mutual
def TValue.cells : TValue → List E
  | .mk x0 x1 x2 x3 x4 => [.v (.int .i64 x0)] ++ [.v (.string x1)] ++ [.v (.int .i64 x2)] ++ [.sl (TValue.encs x3)] ++ [.v (.bool x4.fAll)] ++ [.sl (x4.fList.map TExc.cells)]
def TValue.encs : List TValue → List (List E)
  | [] => []
  | x :: xs => TValue.cells x :: TValue.encs xs
end
theorem TValue.encs_map : ∀ l : List TValue, TValue.encs l = l.map TValue.cells
  | [] => by simp [TValue.encs]
  | x :: xs => by simp [TValue.encs, TValue.encs_map xs]
theorem TValue.cells_eq (v : TValue) : v.cells = [.v (.int .i64 v.fOp), .v (.string v.fName), .v (.int .i64 v.fN), .sl (v.fKids.map TValue.cells), .v (.bool v.fSet.fAll), .sl (v.fSet.fList.map TExc.cells)] := by
  cases v
  simp only [TValue.cells, List.cons_append, List.nil_append, TValue.encs_map]
  rfl
theorem TValue.cells_len (v : TValue) : v.cells.length = 6 := by rw [TValue.cells_eq]; rfl
theorem TValue.ind {M : TValue → Prop} (h : ∀ v : TValue, (∀ k ∈ v.fKids, M k) → M v) : ∀ v, M v := by
  intro v
  exact TValue.rec (motive_1 := M) (motive_2 := fun l => ∀ k ∈ l, M k) (fun x0 x1 x2 x3 x4 ih => h _ ih) (fun k hk => by simp at hk) (fun v l hv hl k hk => by
    rcases List.mem_cons.1 hk with rfl | hk
    · exact hv
    · exact hl k hk) v
structure TOutcome where
  fOp : Int
  fOut : ByteArray
  fValue : TValue
  fExc : TExc
def TOutcome.cells (v : TOutcome) : List E := [.v (.int .i64 v.fOp), .v (.string v.fOut), .v (.int .i64 v.fValue.fOp), .v (.string v.fValue.fName), .v (.int .i64 v.fValue.fN), .sl (v.fValue.fKids.map TValue.cells), .v (.bool v.fValue.fSet.fAll), .sl (v.fValue.fSet.fList.map TExc.cells), .v (.string v.fExc.fCon), .v (.int .i64 v.fExc.fN)]
theorem TOutcome.cells_eq (v : TOutcome) : v.cells = [.v (.int .i64 v.fOp), .v (.string v.fOut), .v (.int .i64 v.fValue.fOp), .v (.string v.fValue.fName), .v (.int .i64 v.fValue.fN), .sl (v.fValue.fKids.map TValue.cells), .v (.bool v.fValue.fSet.fAll), .sl (v.fValue.fSet.fList.map TExc.cells), .v (.string v.fExc.fCon), .v (.int .i64 v.fExc.fN)] := rfl
theorem TOutcome.cells_len (v : TOutcome) : v.cells.length = 10 := rfl
structure A3_TOutcome where
  e0 : TOutcome
  e1 : TOutcome
  e2 : TOutcome
def A3_TOutcome.cells (v : A3_TOutcome) : List E := [.v (.int .i64 v.e0.fOp), .v (.string v.e0.fOut), .v (.int .i64 v.e0.fValue.fOp), .v (.string v.e0.fValue.fName), .v (.int .i64 v.e0.fValue.fN), .sl (v.e0.fValue.fKids.map TValue.cells), .v (.bool v.e0.fValue.fSet.fAll), .sl (v.e0.fValue.fSet.fList.map TExc.cells), .v (.string v.e0.fExc.fCon), .v (.int .i64 v.e0.fExc.fN), .v (.int .i64 v.e1.fOp), .v (.string v.e1.fOut), .v (.int .i64 v.e1.fValue.fOp), .v (.string v.e1.fValue.fName), .v (.int .i64 v.e1.fValue.fN), .sl (v.e1.fValue.fKids.map TValue.cells), .v (.bool v.e1.fValue.fSet.fAll), .sl (v.e1.fValue.fSet.fList.map TExc.cells), .v (.string v.e1.fExc.fCon), .v (.int .i64 v.e1.fExc.fN), .v (.int .i64 v.e2.fOp), .v (.string v.e2.fOut), .v (.int .i64 v.e2.fValue.fOp), .v (.string v.e2.fValue.fName), .v (.int .i64 v.e2.fValue.fN), .sl (v.e2.fValue.fKids.map TValue.cells), .v (.bool v.e2.fValue.fSet.fAll), .sl (v.e2.fValue.fSet.fList.map TExc.cells), .v (.string v.e2.fExc.fCon), .v (.int .i64 v.e2.fExc.fN)]
theorem A3_TOutcome.cells_eq (v : A3_TOutcome) : v.cells = [.v (.int .i64 v.e0.fOp), .v (.string v.e0.fOut), .v (.int .i64 v.e0.fValue.fOp), .v (.string v.e0.fValue.fName), .v (.int .i64 v.e0.fValue.fN), .sl (v.e0.fValue.fKids.map TValue.cells), .v (.bool v.e0.fValue.fSet.fAll), .sl (v.e0.fValue.fSet.fList.map TExc.cells), .v (.string v.e0.fExc.fCon), .v (.int .i64 v.e0.fExc.fN), .v (.int .i64 v.e1.fOp), .v (.string v.e1.fOut), .v (.int .i64 v.e1.fValue.fOp), .v (.string v.e1.fValue.fName), .v (.int .i64 v.e1.fValue.fN), .sl (v.e1.fValue.fKids.map TValue.cells), .v (.bool v.e1.fValue.fSet.fAll), .sl (v.e1.fValue.fSet.fList.map TExc.cells), .v (.string v.e1.fExc.fCon), .v (.int .i64 v.e1.fExc.fN), .v (.int .i64 v.e2.fOp), .v (.string v.e2.fOut), .v (.int .i64 v.e2.fValue.fOp), .v (.string v.e2.fValue.fName), .v (.int .i64 v.e2.fValue.fN), .sl (v.e2.fValue.fKids.map TValue.cells), .v (.bool v.e2.fValue.fSet.fAll), .sl (v.e2.fValue.fSet.fList.map TExc.cells), .v (.string v.e2.fExc.fCon), .v (.int .i64 v.e2.fExc.fN)] := rfl
theorem A3_TOutcome.cells_len (v : A3_TOutcome) : v.cells.length = 30 := rfl
def c_S (x : ByteArray) : List E := [.v (.string x)]
theorem c_S_len (x : ByteArray) : (c_S x).length = 1 := rfl
structure Tvalues_reader where
  fwords : (List ByteArray)
  fat : Int
  fbad : Bool
def Tvalues_reader.cells (v : Tvalues_reader) : List E := [.sl (v.fwords.map c_S), .v (.int .i64 v.fat), .v (.bool v.fbad)]
theorem Tvalues_reader.cells_eq (v : Tvalues_reader) : v.cells = [.sl (v.fwords.map c_S), .v (.int .i64 v.fat), .v (.bool v.fbad)] := rfl
theorem Tvalues_reader.cells_len (v : Tvalues_reader) : v.cells.length = 3 := rfl
structure TFault where
  fCode : Int
  fName : ByteArray
  fLine : Int
  fCol : Int
def TFault.cells (v : TFault) : List E := [.v (.int .i64 v.fCode), .v (.string v.fName), .v (.int .i64 v.fLine), .v (.int .i64 v.fCol)]
theorem TFault.cells_eq (v : TFault) : v.cells = [.v (.int .i64 v.fCode), .v (.string v.fName), .v (.int .i64 v.fLine), .v (.int .i64 v.fCol)] := rfl
theorem TFault.cells_len (v : TFault) : v.cells.length = 4 := rfl
def c_I_u8 (x : Int) : List E := [.v (.int .u8 x)]
theorem c_I_u8_len (x : Int) : (c_I_u8 x).length = 1 := rfl
end Go.Proofs.YtafniolcakiljaaDoor

set_option linter.unusedVariables false
set_option linter.unusedSimpArgs false
set_option maxRecDepth 100000
set_option maxHeartbeats 4000000
namespace Go.Proofs.YtafniolcakiljaaDoor
open Go Go.Am
def strings_Compare.M (a : ByteArray) (b : ByteArray) (r : Int) : Prop :=
  CallsX Tryd.prog 80 [.c none (.v (.string a)), .c none (.v (.string b))] [] (fun d b => d = .c none (.v (.int .i64 r)) ∧ b = [])
def strings_Join.M (toArray : (List ByteArray)) (a1_ : ByteArray) (r : ByteArray) : Prop :=
  CallsX Tryd.prog 54 [.c none (.sl (toArray.map c_S)), .c none (.v (.string a1_))] [] (fun d b => d = .c none (.v (.string r)) ∧ b = [])
def strconv_Itoa.M (i : Int) (r : ByteArray) : Prop :=
  CallsX Tryd.prog 76 [.c none (.v (.int .i64 i))] [] (fun d b => d = .c none (.v (.string r)) ∧ b = [])
def slices_Clone_Exc.M (s : (List TExc)) (r : (List TExc)) : Prop :=
  CallsX Tryd.prog 59 [.c none (.sl (s.map TExc.cells))] [] (fun d b => d = .c (some (0, 41)) (.sl (r.map TExc.cells)) ∧ b = [])
def strings_Split.M (s : ByteArray) (sep : ByteArray) (r : (List ByteArray)) : Prop :=
  CallsX Tryd.prog 52 [.c none (.v (.string s)), .c none (.v (.string sep))] [] (fun d b => d = .c none (.sl (r.map c_S)) ∧ b = [])
def strconv_Atoi.M (s : ByteArray) (r : Int × Bool) : Prop :=
  CallsX Tryd.prog 84 [.c none (.v (.string s))] [] (fun d b => d = .tup [.c (.v (.int .i64 r.1)), .c (.ifc r.2)] ∧ b = [])
end Go.Proofs.YtafniolcakiljaaDoor

set_option linter.unusedVariables false
set_option linter.unusedSimpArgs false
set_option maxRecDepth 100000
set_option maxHeartbeats 4000000
namespace Go.Proofs.YtafniolcakiljaaDoor
open Go Go.Am Go.RowKit

theorem calls_and {P : Program} [Gl P] {f : FuncId} {args : List D} {d0 : D} (h : CallsA P f args fun d => d = d0) : CallsX P f args [] fun d b => d = d0 ∧ b = [] :=
  ⟨h.1, fun w S0 M0 vals ρ hv hr => (h.2 w S0 M0 vals ρ hv hr).mono fun e w' ⟨v, r, bx', St', ρ', h1, h2, h3, h4, h5, h6⟩ =>
    ⟨v, r, [], St', ρ', h1, ⟨h2, rfl⟩, h3, h4, fun _ _ => rfl, h6.less ⟨fun i => .inr (.inl rfl), fun n cs hb => by cases hb⟩⟩⟩

/-! ### strings.Join -/
def joinB (xs : List ByteArray) (sep : ByteArray) : ByteArray := ⟨(Lib.join (xs.map (·.data.toList)) sep.data.toList).toArray⟩
def strings_Join (xs : List ByteArray) (sep : ByteArray) : Option ByteArray :=
  if xs.length ≤ 140737488355328 ∧ (Lib.join (xs.map (·.data.toList)) sep.data.toList).length ≤ 140737488355328 then some (joinB xs sep) else none
theorem join_calls (xs : List ByteArray) (sep : ByteArray) (hN : xs.length ≤ 140737488355328) (hlen : (Lib.join (xs.map (·.data.toList)) sep.data.toList).length ≤ 140737488355328) :
    CallsA Tryd.prog 54 [.c none (.sl (xs.map c_S)), .c none (.v (.string sep))] (fun r => r = .c none (.v (.string (joinB xs sep)))) := by
  refine CallsA.of_calls ⟨_, Tryd.func54, by decide, rfl⟩ fun w St ρ vals hv hr hlt hG => ?_
  obtain ⟨a, b, rfl⟩ : ∃ a b, vals = #[a, b] := by
    obtain ⟨l⟩ := vals
    match l, hv with
    | [a, b], _ => exact ⟨a, b, rfl⟩
  obtain ⟨A, c, rfl, h1, h2, h3⟩ := rep_strings (show RepE w St (.sl (xs.map fun x => [.v (.string x)])) a from hr 0)
  have hb : b = .string sep := by
    have := (show RepE w St (.v (.string sep)) b from hr 1)
    generalize b = y at this; cases this; rfl
  subst hb
  rcases Decidable.em (xs = []) with rfl | hne
  · refine (Tryd.strings_Join_none A c sep w).mono ?_
    rintro e w' ⟨rfl, rfl⟩
    exact ⟨_, rfl, rfl, rfl, Below.refl _ _⟩
  · obtain ⟨bk, o, rfl, hs, hcell⟩ := h3 hne
    refine (Tryd.strings_Join bk o c xs sep w hcell (hlt _ _ hs) hN h1 hlen).mono ?_
    rintro e w' ⟨rfl, bel⟩
    exact ⟨_, rfl, rfl, rfl, bel⟩
theorem strings_Join_ok (xs : List ByteArray) (sep r : ByteArray) (h : strings_Join xs sep = some r) : strings_Join.M xs sep r := by
  unfold strings_Join at h
  split at h
  · rename_i hc; injection h with h; subst h; exact calls_and (join_calls xs sep hc.1 hc.2)
  · cases h

/-! ### strings.Compare -/
def strings_Compare (a b : ByteArray) : Option Int := some (Lib.compareBytes a.data.toList b.data.toList)
theorem strings_Compare_ok (a b : ByteArray) (r : Int) (h : strings_Compare a b = some r) : strings_Compare.M a b r := by
  injection h with h; subst h
  refine calls_and (CallsA.of_calls ⟨_, Tryd.func80, by decide, rfl⟩ fun w St ρ vals hv hr hlt hG => ?_)
  obtain ⟨x, y, rfl⟩ : ∃ x y, vals = #[x, y] := by
    obtain ⟨l⟩ := vals
    match l, hv with
    | [x, y], _ => exact ⟨x, y, rfl⟩
  have hx : x = .string a := by
    have := (show RepE w St (.v (.string a)) x from hr 0)
    generalize x = z at this; cases this; rfl
  have hy : y = .string b := by
    have := (show RepE w St (.v (.string b)) y from hr 1)
    generalize y = z at this; cases this; rfl
  subst hx hy
  refine (Tryd.strings_Compare a b w).mono ?_
  rintro e w' ⟨rfl, rfl⟩
  exact ⟨_, rfl, rfl, rfl, Below.refl _ _⟩

/-! ### strconv.Itoa -/
def itoaB (i : Int) : ByteArray := ⟨(Lib.itoa i).toArray⟩
def strconv_Itoa (i : Int) : Option ByteArray := guardP (-9223372036854775808 ≤ i ∧ i ≤ 9223372036854775807) >>= fun _ => some (itoaB i)
theorem gl_pow (w : World) (St : Stab) (hG : Globs Tryd.prog w St) : Lib.TabIs Tryd.prog w "internal/strconv.uint64pow10" .u64 Lib.pow10Tab := by
  have h0 : noCell (w.cell? ⟨5, 20, none⟩) := (hG (5, 20, noCell) (List.mem_append_left _ (List.mem_cons_self ..))).2
  have h1 : ∀ i, i < 20 → w.cell? ⟨5, i, none⟩ = some (.int .u64 ((10 ^ i : Nat) : Int)) := fun i hi =>
    (hG (5, i, powCell i) (List.mem_append_left _ (List.mem_cons_of_mem _ (List.mem_map.2 ⟨i, List.mem_range.2 hi, rfl⟩)))).2
  have hg : Tryd.prog.globalNamed "internal/strconv.uint64pow10" = some 5 := by kernel_rfl
  unfold Lib.TabIs World.var?
  rw [hg]
  have h2 := h1 0 (by decide)
  unfold noCell at h0
  unfold World.cell? at h0 h1 h2
  simp only [Option.bind_some]
  split at h2
  case h_2 => cases h2
  rename_i c t f hc
  simp only [hc, Option.isSome_none, Bool.false_eq_true, if_false] at h0 h1 ⊢
  congr 1
  apply Array.ext_getElem?
  intro i
  have e0 : ((Lib.pow10Tab.map fun z => Value.int .u64 z).toArray)[i]? = (Lib.pow10Tab.map fun z => Value.int .u64 z)[i]? := List.getElem?_toArray
  rw [e0, Lib.pow10Tab, List.getElem?_map, List.getElem?_map]
  by_cases hi : i < 20
  · rw [h1 i hi, List.getElem?_range hi]; rfl
  · have : c.size ≤ 20 := by
      rcases Nat.lt_or_ge 20 c.size with h | h
      · rw [Array.getElem?_eq_getElem h] at h0; cases h0
      · exact h
    rw [Array.getElem?_eq_none (by omega), List.getElem?_eq_none (by simp; omega)]; rfl
theorem grow_below (w : World) (os : Array Obj) (k : Nat) : Below w.heap.size w (Sort.grow (w.drewN k) os) := Lib.below_grow _ w (Nat.le_refl _) k os
theorem strconv_Itoa_ok (i : Int) (r : ByteArray) (h : strconv_Itoa i = some r) : strconv_Itoa.M i r := by
  unfold strconv_Itoa at h
  obtain ⟨hc, h⟩ := guard_some h
  obtain rfl := some_eq h
  refine calls_and (CallsA.of_calls ⟨_, Tryd.func76, by decide, rfl⟩ fun w St ρ vals hv hr hlt hG => ?_)
  obtain ⟨a, rfl⟩ : ∃ a, vals = #[a] := by
    obtain ⟨l⟩ := vals
    match l, hv with
    | [a], _ => exact ⟨a, rfl⟩
  have ha : a = .int .i64 i := by
    have := (show RepE w St (.v (.int .i64 i)) a from hr 0)
    generalize a = y at this; cases this; rfl
  subst ha
  refine (Tryd.strconv_Itoa i hc.1 hc.2 w (gl_pow w St hG)).mono ?_
  rintro e w' ⟨rfl, k, os, rfl⟩
  exact ⟨_, rfl, rfl, rfl, grow_below w os k⟩

/-! ### slices.Clone -/
def slices_Clone_Exc (s : List TExc) : Option (List TExc) := guardP ((0 + s.length) * 24 ≤ 140737488355328) >>= fun _ => some s
theorem slices_Clone_Exc_ok (s r : List TExc) (hF : slices_Clone_Exc s = some r) : slices_Clone_Exc.M s r := by
  unfold slices_Clone_Exc at hF
  obtain ⟨hg, hF⟩ := guard_some hF
  obtain rfl := some_eq hF
  unfold slices_Clone_Exc.M
  refine enter tabOk Tryd.func59 rfl (by decide) (Nat.le_of_ble_eq_true rfl) rfl rfl rfl ?_
  refine AWP.seq ?_
  refine nd (by decide) _ _ _ ?_
  (repeat (first | ((conv => whnf); (with_reducible refine And.intro ?_ ?_); (focus (first | exact Eq.refl _ | exact trivial | exact Int.natCast_nonneg _ | assumption | exact Nat.le_of_ble_eq_true (Eq.refl true) | decide))))); (conv => whnf)
  refine AWP.seq ?_
  refine nd (by decide) _ _ _ ?_
  (repeat (first | ((conv => whnf); (with_reducible refine And.intro ?_ ?_); (focus (first | exact Eq.refl _ | exact trivial | exact Int.natCast_nonneg _ | assumption | exact Nat.le_of_ble_eq_true (Eq.refl true) | decide))))); (conv => whnf)
  refine And.intro (fun hnil => ?_) ?_
  · (repeat (first | ((conv => whnf); (with_reducible refine And.intro ?_ ?_); (focus (first | exact Eq.refl _ | exact trivial | exact Int.natCast_nonneg _ | assumption | exact Nat.le_of_ble_eq_true (Eq.refl true) | decide))))); (conv => whnf)
    obtain rfl : s = [] := by simpa using hnil
    refine nd (by decide) _ _ _ ?_
    (conv => whnf)
    refine AWP.seq ?_
    refine nd (by decide) _ _ _ ?_
    (repeat (first | ((conv => whnf); (with_reducible refine And.intro ?_ ?_); (focus (first | exact Eq.refl _ | exact trivial | exact Int.natCast_nonneg _ | assumption | exact Nat.le_of_ble_eq_true (Eq.refl true) | decide))))); (conv => whnf)
    refine nd (by decide) _ _ _ ?_
    (repeat (first | ((conv => whnf); (with_reducible refine And.intro ?_ ?_); (focus (first | exact Eq.refl _ | exact trivial | exact Int.natCast_nonneg _ | assumption | exact Nat.le_of_ble_eq_true (Eq.refl true) | decide))))); (conv => whnf)
    exact Exists.intro (rn []) (WS.mk (wt_cons wd_nil wt_nil) wb_nil)
  · (repeat (first | ((conv => whnf); (with_reducible refine And.intro ?_ ?_); (focus (first | exact Eq.refl _ | exact trivial | exact Int.natCast_nonneg _ | assumption | exact Nat.le_of_ble_eq_true (Eq.refl true) | decide))))); (conv => whnf)
    refine nd (by decide) _ _ _ ?_
    (conv => whnf)
    refine nd (by decide) _ _ _ ?_
    (conv => whnf)
    refine AWP.seq ?_
    refine nd (by decide) _ _ _ ?_
    (repeat (first | ((conv => whnf); (with_reducible refine And.intro ?_ ?_); (focus (first | exact Eq.refl _ | exact trivial | exact Int.natCast_nonneg _ | assumption | exact Nat.le_of_ble_eq_true (Eq.refl true) | decide))))); (conv => whnf)
    refine Exists.intro [] (And.intro (WE.refl _) ?_)
    (repeat (first | ((conv => whnf); (with_reducible refine And.intro ?_ ?_); (focus (first | exact Eq.refl _ | exact trivial | exact Int.natCast_nonneg _ | assumption | exact Nat.le_of_ble_eq_true (Eq.refl true) | decide))))); (conv => whnf)
    refine And.intro (rows_map _ (fun x => TExc.cells_len x)) (And.intro (by have h := hg; simp only [List.length_map, List.length_append, List.length_cons, List.length_nil, Nat.zero_add] at h ⊢; first | exact h | (unfold maxLen; omega) | omega) (And.intro (by have h := hg; simp only [List.length_map, List.length_append, List.length_cons, List.length_nil, Nat.zero_add] at h ⊢; first | exact h | (unfold maxLen; omega) | omega) (Exists.intro _ (And.intro (WE.refl _) ?_))))
    (repeat (first | ((conv => whnf); (with_reducible refine And.intro ?_ ?_); (focus (first | exact Eq.refl _ | exact trivial | exact Int.natCast_nonneg _ | assumption | exact Nat.le_of_ble_eq_true (Eq.refl true) | decide))))); (conv => whnf)
    refine nd (by decide) _ _ _ ?_
    (repeat (first | ((conv => whnf); (with_reducible refine And.intro ?_ ?_); (focus (first | exact Eq.refl _ | exact trivial | exact Int.natCast_nonneg _ | assumption | exact Nat.le_of_ble_eq_true (Eq.refl true) | decide))))); (conv => whnf)
    exact Exists.intro (rn [(7, 0)]) (WS.mk (wt_cons (wd_own rfl (WE.refl _)) wt_nil) wb_nil)
end Go.Proofs.YtafniolcakiljaaDoor

set_option linter.unusedVariables false
set_option linter.unusedSimpArgs false
set_option maxRecDepth 100000
set_option maxHeartbeats 4000000
namespace Go.Proofs.YtafniolcakiljaaDoor
open Go Go.Am Go.RowKit

theorem arg1 {α : Type} {vals : Array α} (h : vals.size = 1) : ∃ a, vals = #[a] := by
  obtain ⟨l⟩ := vals
  match l, h with
  | [a], _ => exact ⟨a, rfl⟩
theorem arg2 {α : Type} {vals : Array α} (h : vals.size = 2) : ∃ a b, vals = #[a, b] := by
  obtain ⟨l⟩ := vals
  match l, h with
  | [a, b], _ => exact ⟨a, b, rfl⟩
theorem rep_str {w : World} {St : Stab} {s : ByteArray} {x : Value} (h : RepE w St (.v (.string s)) x) : x = .string s := by
  cases h; rfl
/-! ### strconv.Atoi -/
def atoiR (s : ByteArray) : Int × Bool :=
  match Lib.atoiAll s.data.toList with
  | .ok v => (v, false)
  | .range => (Lib.atoiSat s.data.toList, true)
  | _ => (0, true)
def strconv_Atoi (s : ByteArray) : Option (Int × Bool) := guardP (s.size ≤ 281474976710656) >>= fun _ => some (atoiR s)
theorem gl_err (w : World) (St : Stab) (hG : Globs Tryd.prog w St) : ifcCell (w.cell? ⟨3, 0, none⟩) ∧ ifcCell (w.cell? ⟨4, 0, none⟩) :=
  ⟨(hG (3, 0, ifcCell) (List.mem_append_right _ (List.mem_cons_of_mem _ (List.mem_cons_self ..)))).2, (hG (4, 0, ifcCell) (List.mem_append_right _ (List.mem_cons_of_mem _ (List.mem_cons_of_mem _ (List.mem_cons_self ..))))).2⟩
theorem tup2 {w : World} {St : Stab} {ρ : Nat → Nat} {n : Int} {b : Bool} {v : Value} (hv : (b = false ∧ v = .nilIface) ∨ (b = true ∧ ∃ t u, v = .iface t u)) : RepD w St ρ (.tup [.c (.v (.int .i64 n)), .c (.ifc b)]) (.tuple #[.int .i64 n, v]) := by
  refine ⟨[.int .i64 n, v], rfl, rfl, fun k x hk => ?_⟩
  match k, hk with
  | 0, hk => simp only [List.getElem?_cons_zero, Option.some.injEq] at hk; subst hk; exact ⟨_, rfl, .v _ rfl⟩
  | 1, hk => simp only [List.getElem?_cons_succ, List.getElem?_cons_zero, Option.some.injEq] at hk; subst hk; exact ⟨_, rfl, .ifc b v hv⟩
  | k + 2, hk => simp at hk
theorem bytes_below {w w' : World} (h : w' = w ∨ ∃ t, w' = Lib.bytesWorld w 5 t) : Below w.heap.size w w' := by
  rcases h with rfl | ⟨t, rfl⟩
  · exact Below.refl _ _
  · exact Lib.bytesWorld_below w 5 t
theorem strconv_Atoi_ok (s : ByteArray) (r : Int × Bool) (h : strconv_Atoi s = some r) : strconv_Atoi.M s r := by
  unfold strconv_Atoi at h
  obtain ⟨hc, h⟩ := guard_some h
  obtain rfl := some_eq h
  refine calls_and (CallsA.of_callsD ⟨_, Tryd.func84, by decide, rfl⟩ fun w St ρ vals hv hr hlt hG => ?_)
  obtain ⟨a, rfl⟩ := arg1 hv
  obtain rfl := rep_str (show RepE w St (.v (.string s)) a from hr 0)
  obtain ⟨⟨e3, h3, i3⟩, e4, h4, i4⟩ := gl_err w St hG
  unfold atoiR
  cases hn : Lib.atoiAll s.data.toList
  · rename_i v
    refine (Tryd.strconv_Atoi_ok s (by omega) v hn w).mono ?_
    rintro e w' ⟨rfl, hw⟩
    exact ⟨_, _, rfl, tup2 (.inl ⟨rfl, rfl⟩), rfl, rfl, bytes_below hw⟩
  · refine (Tryd.strconv_Atoi_syntax s hc (by rw [hn]; rfl) e3 w h3 i3).mono ?_
    rintro e w' ⟨N, rfl, _, _, hw⟩
    exact ⟨_, _, rfl, tup2 (.inr ⟨rfl, _, _, rfl⟩), rfl, rfl, hw⟩
  · refine (Tryd.strconv_Atoi_range s hc hn e4 w h4 i4).mono ?_
    rintro e w' ⟨N, rfl, _, _, hw⟩
    exact ⟨_, _, rfl, tup2 (.inr ⟨rfl, _, _, rfl⟩), rfl, rfl, hw⟩
/-! ### strings.Split -/
def strings_Split (s sep : ByteArray) : Option (List ByteArray) := guardP (s.size < 4294967281 ∧ 1 ≤ sep.size) >>= fun _ => some (Lib.splitB sep 0 (Lib.countB s sep) s)
theorem strings_Split_ok (s sep : ByteArray) (r : List ByteArray) (h : strings_Split s sep = some r) : strings_Split.M s sep r := by
  unfold strings_Split at h
  obtain ⟨hc, h⟩ := guard_some h
  obtain rfl := some_eq h
  refine calls_and (CallsA.of_callsD ⟨_, Tryd.func52, by decide, rfl⟩ fun w St ρ vals hv hr hlt hG => ?_)
  obtain ⟨a, b, rfl⟩ := arg2 hv
  obtain rfl := rep_str (show RepE w St (.v (.string s)) a from hr 0)
  obtain rfl := rep_str (show RepE w St (.v (.string sep)) b from hr 1)
  obtain ⟨m, hm⟩ := (hG (0, 0, intCell) (List.mem_append_right _ (List.mem_cons_self ..))).2
  refine (Tryd.strings_Split s sep m w hc.1 hm hc.2).mono ?_
  rintro e w' ⟨rfl, rfl⟩
  have hlen := Lib.splitB_all sep hc.2 0 _ s rfl
  have hcnt := Lib.countB_le sep hc.2 _ s (Nat.le_refl _)
  refine ⟨_, _, rfl, ?_, rfl, rfl, (Below.refl _ w).alloc (Nat.le_refl _) _⟩
  generalize Lib.splitB sep 0 (Lib.countB s sep) s = l at hlen ⊢
  have hcell : ∀ (i : Nat) x, l[i]? = some x → (w.alloc (.cells (l.map Value.string).toArray 9)).cell? ⟨w.heap.size, i, none⟩ = some (.string x) := fun i x hi => by
    simp [World.cell?, World.alloc, -World.alloc_eq, hi]
  refine RepE.sl (l.map c_S) _ _ _ 1 w.heap.size 0 (fun i _ => (l[i]?.map Value.string).getD undef) (by rw [List.length_map]; exact hlen) (Nat.le_refl _) (by unfold maxLen; omega) (fun _ => rfl) (fun i row hi => ?_) (fun i k row x hi hk => ?_) (fun i k row x hi hk => ?_)
  · rw [List.getElem?_map, Option.map_eq_some_iff] at hi
    obtain ⟨x, _, rfl⟩ := hi; rfl
  · rw [List.getElem?_map, Option.map_eq_some_iff] at hi
    obtain ⟨y, hy, rfl⟩ := hi
    have hk0 : k = 0 := by
      match k, hk with
      | 0, _ => rfl
      | k + 1, hk => simp [c_S] at hk
    subst hk0
    have := hcell i y hy
    simp only [Nat.mul_one, Nat.zero_add, Nat.add_zero]
    refine ⟨.inr ⟨Nat.le_refl _, by simp [World.alloc, -World.alloc_eq]⟩, ?_⟩
    rw [this, hy]; rfl
  · rw [List.getElem?_map, Option.map_eq_some_iff] at hi
    obtain ⟨y, hy, rfl⟩ := hi
    have hk0 : k = 0 := by
      match k, hk with
      | 0, _ => rfl
      | k + 1, hk => simp [c_S] at hk
    subst hk0
    simp only [c_S, List.getElem?_cons_zero, Option.some.injEq] at hk
    subst hk
    rw [hy]
    exact .v _ rfl
end Go.Proofs.YtafniolcakiljaaDoor

set_option linter.unusedVariables false
set_option linter.unusedSimpArgs false
set_option maxRecDepth 100000
set_option maxHeartbeats 4000000
namespace Go.Proofs.YtafniolcakiljaaDoor
open Go Go.Am
def slices_Index_Exc_l1 (s : (List TExc)) (x_8 : Nat) (v : TExc) (x_8_s_ : (List TExc)) : Option (Int) :=
  (match x_8_s_ with
  | x11 :: xs12 =>
  if ((v.fCon.toList == x11.fCon.toList) && ((v.fN == x11.fN) && true)) = true then
  some ((x_8 : Nat) : Int)
  else
  slices_Index_Exc_l1 s (x_8 + 1) v xs12
  | [] =>
  some (-1))
  partial_fixpoint
def slices_Index_Exc_l1.M (s : (List TExc)) (x_8 : Nat) (v : TExc) (x_8_s_ : (List TExc)) (r : Int) : Prop :=
  ∀ pre_x_8 : List TExc, s = pre_x_8 ++ x_8_s_ → x_8 = pre_x_8.length → s.length ≤ maxLen → AWL Tryd.prog 19 (Code.sub (bodyOf Tryd.f68) [1, 0, 1, 0, 0]) (Code.cont Tryd.prog 19 (bodyOf Tryd.f68) [1, 0, 1, 0] (endK tab Tryd.f68.results [] (WRes (.c none (.v (.int .i64 r))) []))) ⟨[(0, .c none (.sl (s.map TExc.cells))), (3, .ptr 3 0), (7, .c none (.v (.int .i64 ((s.length : Nat) : Int)))), (8, .c none (.v (.int .i64 ((x_8 : Nat) : Int))))], [(3, [(none, .v (.string v.fCon)), (none, .v (.int .i64 v.fN))])]⟩
theorem slices_Index_Exc_l1_ok (s : (List TExc)) (x_8 : Nat) (v : TExc) (x_8_s_ : (List TExc)) : ∀ r, slices_Index_Exc_l1 s x_8 v x_8_s_ = some r → slices_Index_Exc_l1.M s x_8 v x_8_s_ r := by
  refine slices_Index_Exc_l1.partial_correctness s v (fun x_8 x_8_s_ r => slices_Index_Exc_l1.M s x_8 v x_8_s_ r) ?_ x_8 x_8_s_
  intro slices_Index_Exc_l1' ih0_slices_Index_Exc_l1 x_8 x_8_s_ r hF
  have ih_slices_Index_Exc_l1 := fun (_s : (List TExc)) (x_8 : Nat) (_v : TExc) (x_8_s_ : (List TExc)) => ih0_slices_Index_Exc_l1 x_8 x_8_s_
  clear ih0_slices_Index_Exc_l1
  unfold slices_Index_Exc_l1.M
  intro pre_x_8 hs_x_8 hk_x_8 hlen1
  refine AWL.step ?_
  refine AWP.seq ?_
  refine nd (by decide) _ _ _ ?_
  (repeat (first | ((conv => whnf); (with_reducible refine And.intro ?_ ?_); (focus (first | exact Eq.refl _ | exact trivial | exact Int.natCast_nonneg _ | assumption | exact Nat.le_of_ble_eq_true (Eq.refl true) | decide))))); (conv => whnf)
  refine AWP.seq ?_
  refine nd (by decide) _ _ _ ?_
  (conv => whnf)
  refine branch_list hs_x_8 hk_x_8 (fun x11 xs12 hp13 hx13 hl13 => ?_) (fun hp13 => ?_)
  · subst hp13
    refine nd (by decide) _ _ _ ?_
    (conv => whnf)
    refine AWP.seq ?_
    refine AWP.block ?_
    refine AWP.seq ?_
    refine nd (by decide) _ _ _ ?_
    (repeat (first | ((conv => whnf); (with_reducible refine And.intro ?_ ?_); (focus (first | exact Eq.refl _ | exact trivial | exact Int.natCast_nonneg _ | assumption | exact Nat.le_of_ble_eq_true (Eq.refl true) | decide))))); (conv => whnf)
    refine AWP.seq ?_
    refine nd (by decide) _ _ _ ?_
    refine Exists.intro 5 (Exists.intro [[], [], [], [], []] (Exists.intro [([11, 12, 13, 14, 15], [], []), ([11, 12, 13, 14, 15], [], []), ([11, 12, 13, 14, 15], [], []), ([11, 14, 15], [], []), ([11, 15], [], [])] (Exists.intro [11, 12, 13, 14, 15] (And.intro (by decide +kernel) ?_))))
    ((repeat (first | ((conv => whnf); (with_reducible refine And.intro ?_ ?_); (focus (first | exact Eq.refl _ | exact trivial | exact Int.natCast_nonneg _ | assumption | exact Nat.le_of_ble_eq_true (Eq.refl true) | decide))))); (conv => whnf); apply Exists.intro; apply Exists.intro; apply And.intro; (focus (((repeat (first | ((conv => whnf); (with_reducible refine And.intro ?_ ?_); (focus (first | exact Eq.refl _ | exact trivial | exact Int.natCast_nonneg _ | assumption | exact Nat.le_of_ble_eq_true (Eq.refl true) | decide))))); (conv => whnf)) <;> (exact rfl))); apply And.intro; (focus exact rfl); (conv => whnf))
    ((repeat (first | ((conv => whnf); (with_reducible refine And.intro ?_ ?_); (focus (first | exact Eq.refl _ | exact trivial | exact Int.natCast_nonneg _ | assumption | exact Nat.le_of_ble_eq_true (Eq.refl true) | decide))))); (conv => whnf); apply Exists.intro; apply Exists.intro; apply And.intro; (focus (((repeat (first | ((conv => whnf); (with_reducible refine And.intro ?_ ?_); (focus (first | exact Eq.refl _ | exact trivial | exact Int.natCast_nonneg _ | assumption | exact Nat.le_of_ble_eq_true (Eq.refl true) | decide))))); (conv => whnf)) <;> (exact rfl))); apply And.intro; (focus exact rfl); (conv => whnf))
    ((repeat (first | ((conv => whnf); (with_reducible refine And.intro ?_ ?_); (focus (first | exact Eq.refl _ | exact trivial | exact Int.natCast_nonneg _ | assumption | exact Nat.le_of_ble_eq_true (Eq.refl true) | decide))))); (conv => whnf); apply Exists.intro; apply Exists.intro; apply And.intro; (focus (((repeat (first | ((conv => whnf); (with_reducible refine And.intro ?_ ?_); (focus (first | exact Eq.refl _ | exact trivial | exact Int.natCast_nonneg _ | assumption | exact Nat.le_of_ble_eq_true (Eq.refl true) | decide))))); (conv => whnf)) <;> (exact rfl))); apply And.intro; (focus exact rfl); (conv => whnf))
    ((repeat (first | ((conv => whnf); (with_reducible refine And.intro ?_ ?_); (focus (first | exact Eq.refl _ | exact trivial | exact Int.natCast_nonneg _ | assumption | exact Nat.le_of_ble_eq_true (Eq.refl true) | decide))))); (conv => whnf); apply Exists.intro; apply Exists.intro; apply And.intro; (focus (((repeat (first | ((conv => whnf); (with_reducible refine And.intro ?_ ?_); (focus (first | exact Eq.refl _ | exact trivial | exact Int.natCast_nonneg _ | assumption | exact Nat.le_of_ble_eq_true (Eq.refl true) | decide))))); (conv => whnf)) <;> (rw [map_get (TExc.cells_eq x11) hx13]) <;> ((repeat (first | ((conv => whnf); (with_reducible refine And.intro ?_ ?_); (focus (first | exact Eq.refl _ | exact trivial | exact Int.natCast_nonneg _ | assumption | exact Nat.le_of_ble_eq_true (Eq.refl true) | decide))))); (conv => whnf)) <;> (exact rfl))); apply And.intro; (focus exact rfl); (conv => whnf))
    ((repeat (first | ((conv => whnf); (with_reducible refine And.intro ?_ ?_); (focus (first | exact Eq.refl _ | exact trivial | exact Int.natCast_nonneg _ | assumption | exact Nat.le_of_ble_eq_true (Eq.refl true) | decide))))); (conv => whnf); apply Exists.intro; apply Exists.intro; apply And.intro; (focus (((repeat (first | ((conv => whnf); (with_reducible refine And.intro ?_ ?_); (focus (first | exact Eq.refl _ | exact trivial | exact Int.natCast_nonneg _ | assumption | exact Nat.le_of_ble_eq_true (Eq.refl true) | decide))))); (conv => whnf)) <;> (exact rfl))); apply And.intro; (focus exact rfl); (conv => whnf))
    (repeat (first | ((conv => whnf); (with_reducible refine And.intro ?_ ?_); (focus (first | exact Eq.refl _ | exact trivial | exact Int.natCast_nonneg _ | assumption | exact Nat.le_of_ble_eq_true (Eq.refl true) | decide))))); (conv => whnf)
    refine nd (by decide) _ _ _ ?_
    (conv => whnf)
    refine branch_hF hF (fun hc14 hF => ?_) (fun hc14 hF => ?_)
    · refine AWP.seq ?_
      refine nd (by decide) _ _ _ ?_
      (repeat (first | ((conv => whnf); (with_reducible refine And.intro ?_ ?_); (focus (first | exact Eq.refl _ | exact trivial | exact Int.natCast_nonneg _ | assumption | exact Nat.le_of_ble_eq_true (Eq.refl true) | decide))))); (conv => whnf)
      obtain rfl := some_eq hF
      refine nd (by decide) _ _ _ ?_
      (repeat (first | ((conv => whnf); (with_reducible refine And.intro ?_ ?_); (focus (first | exact Eq.refl _ | exact trivial | exact Int.natCast_nonneg _ | assumption | exact Nat.le_of_ble_eq_true (Eq.refl true) | decide))))); (conv => whnf)
      exact Exists.intro (rn []) (WS.mk (wt_cons (wd_c (WE.refl _)) wt_nil) wb_nil)
    · refine nd (by decide) _ _ _ ?_
      (conv => whnf)
      refine nd (by decide) _ _ _ ?_
      (repeat (first | ((conv => whnf); (with_reducible refine And.intro ?_ ?_); (focus (first | exact Eq.refl _ | exact trivial | exact Int.natCast_nonneg _ | assumption | exact Nat.le_of_ble_eq_true (Eq.refl true) | decide))))); (conv => whnf)
      refine AWL.weak (rn []) ?_ (ih_slices_Index_Exc_l1 s (x_8 + 1) v xs12 _ hF (pre_x_8 ++ [x11]) (by rw [hs_x_8]; simp) (by rw [hk_x_8]; simp) hlen1)
      exact (WS.mk (wt_cons (wd_c (WE.refl _)) (wt_cons wd_ptr (wt_cons (wd_c (WE.refl _)) (wt_cons (wd_c (we_i (wrap_succ hlen1 hl13))) wt_nil)))) (wb_cons rfl (wc_c (WE.refl _) (wc_c (WE.refl _) wc_nil)) wb_nil))
  · subst hp13
    refine nd (by decide) _ _ _ ?_
    (conv => whnf)
    refine AWP.seq ?_
    refine nd (by decide) _ _ _ ?_
    (repeat (first | ((conv => whnf); (with_reducible refine And.intro ?_ ?_); (focus (first | exact Eq.refl _ | exact trivial | exact Int.natCast_nonneg _ | assumption | exact Nat.le_of_ble_eq_true (Eq.refl true) | decide))))); (conv => whnf)
    obtain rfl := some_eq hF
    refine nd (by decide) _ _ _ ?_
    (repeat (first | ((conv => whnf); (with_reducible refine And.intro ?_ ?_); (focus (first | exact Eq.refl _ | exact trivial | exact Int.natCast_nonneg _ | assumption | exact Nat.le_of_ble_eq_true (Eq.refl true) | decide))))); (conv => whnf)
    exact Exists.intro (rn []) (WS.mk (wt_cons (wd_c (WE.refl _)) wt_nil) wb_nil)
end Go.Proofs.YtafniolcakiljaaDoor

set_option linter.unusedVariables false
set_option linter.unusedSimpArgs false
set_option maxRecDepth 100000
set_option maxHeartbeats 4000000
namespace Go.Proofs.YtafniolcakiljaaDoor
open Go Go.Am
def slices_Index_Exc (s : (List TExc)) (v : TExc) : Option (Int) :=
  slices_Index_Exc_l1 s 0 v s
def slices_Index_Exc.M (s : (List TExc)) (v : TExc) (r : Int) : Prop :=
  CallsX Tryd.prog 68 [.c none (.sl (s.map TExc.cells)), .agg [.v (.string v.fCon), .v (.int .i64 v.fN)]] [] (fun d b => d = .c none (.v (.int .i64 r)) ∧ b = [])
theorem slices_Index_Exc_ok (s : (List TExc)) (v : TExc) (r : Int) (hF : slices_Index_Exc s v = some r) : slices_Index_Exc.M s v r := by
  unfold slices_Index_Exc at hF
  unfold slices_Index_Exc.M
  refine enter tabOk Tryd.func68 rfl (by decide) (Nat.le_of_ble_eq_true rfl) rfl rfl rfl ?_
  refine AWP.seq ?_
  refine nd (by decide) _ _ _ ?_
  (repeat (first | ((conv => whnf); (with_reducible refine And.intro ?_ ?_); (focus (first | exact Eq.refl _ | exact trivial | exact Int.natCast_nonneg _ | assumption | exact Nat.le_of_ble_eq_true (Eq.refl true) | decide))))); (conv => whnf)
  refine AWP.seq ?_
  refine AWP.seq ?_
  refine nd (by decide) _ _ _ ?_
  (repeat (first | ((conv => whnf); (with_reducible refine And.intro ?_ ?_); (focus (first | exact Eq.refl _ | exact trivial | exact Int.natCast_nonneg _ | assumption | exact Nat.le_of_ble_eq_true (Eq.refl true) | decide))))); (conv => whnf)
  intro hlen1
  (try rw [List.length_map] at hlen1)
  (try rw [List.length_map])
  (repeat (first | ((conv => whnf); (with_reducible refine And.intro ?_ ?_); (focus (first | exact Eq.refl _ | exact trivial | exact Int.natCast_nonneg _ | assumption | exact Nat.le_of_ble_eq_true (Eq.refl true) | decide))))); (conv => whnf)
  refine AWP.block ?_
  refine AWP.loop ?_
  refine AWL.weak (rn []) ?_ (slices_Index_Exc_l1_ok s 0 v s _ hF ([]) rfl rfl hlen1)
  exact (WS.mk (wt_cons (wd_c (WE.refl _)) (wt_cons wd_ptr (wt_cons (wd_c (WE.refl _)) (wt_cons (wd_c (WE.refl _)) wt_nil)))) (wb_cons rfl (wc_c (WE.refl _) (wc_c (WE.refl _) wc_nil)) wb_nil))
end Go.Proofs.YtafniolcakiljaaDoor

set_option linter.unusedVariables false
set_option linter.unusedSimpArgs false
set_option maxRecDepth 100000
set_option maxHeartbeats 4000000
namespace Go.Proofs.YtafniolcakiljaaDoor
open Go Go.Am
def slices_Contains_Exc (s : (List TExc)) (v : TExc) : Option (Bool) :=
  slices_Index_Exc s v >>= fun r1 =>
  some (decide (r1 ≥ 0))
def slices_Contains_Exc.M (s : (List TExc)) (v : TExc) (r : Bool) : Prop :=
  CallsX Tryd.prog 51 [.c none (.sl (s.map TExc.cells)), .agg [.v (.string v.fCon), .v (.int .i64 v.fN)]] [] (fun d b => d = .c none (.v (.bool r)) ∧ b = [])
theorem slices_Contains_Exc_ok (s : (List TExc)) (v : TExc) (r : Bool) (hF : slices_Contains_Exc s v = some r) : slices_Contains_Exc.M s v r := by
  unfold slices_Contains_Exc at hF
  unfold slices_Contains_Exc.M
  refine enter tabOk Tryd.func51 rfl (by decide) (Nat.le_of_ble_eq_true rfl) rfl rfl rfl ?_
  refine AWP.seq ?_
  refine nd (by decide) _ _ _ ?_
  (repeat (first | ((conv => whnf); (with_reducible refine And.intro ?_ ?_); (focus (first | exact Eq.refl _ | exact trivial | exact Int.natCast_nonneg _ | assumption | exact Nat.le_of_ble_eq_true (Eq.refl true) | decide))))); (conv => whnf)
  refine AWP.seq ?_
  obtain ⟨r1, hr1, hF⟩ := bind_some hF
  refine nd (by decide) _ _ _ ?_
  (repeat (first | ((conv => whnf); (with_reducible refine And.intro ?_ ?_); (focus (first | exact Eq.refl _ | exact trivial | exact Int.natCast_nonneg _ | assumption | exact Nat.le_of_ble_eq_true (Eq.refl true) | decide))))); (conv => whnf)
  refine Exists.intro [] ?_
  (repeat (first | ((conv => whnf); (with_reducible refine And.intro ?_ ?_); (focus (first | exact Eq.refl _ | exact trivial | exact Int.natCast_nonneg _ | assumption | exact Nat.le_of_ble_eq_true (Eq.refl true) | decide))))); (conv => whnf)
  refine CallsX.mono (CallsX.weak (rn []) (slices_Index_Exc_ok s v _ hr1) rfl (WS.mk (wt_cons (wd_c (WE.refl _)) (wt_cons (wd_agg (wl_cons (WE.refl _) (wl_cons (WE.refl _) wl_nil))) wt_nil)) wb_nil)) ?_
  rintro d b ⟨rfl, rfl⟩
  (repeat (first | ((conv => whnf); (with_reducible refine And.intro ?_ ?_); (focus (first | exact Eq.refl _ | exact trivial | exact Int.natCast_nonneg _ | assumption | exact Nat.le_of_ble_eq_true (Eq.refl true) | decide))))); (conv => whnf)
  (repeat (first | ((conv => whnf); (with_reducible refine And.intro ?_ ?_); (focus (first | exact Eq.refl _ | exact trivial | exact Int.natCast_nonneg _ | assumption | exact Nat.le_of_ble_eq_true (Eq.refl true) | decide))))); (conv => whnf)
  obtain rfl := some_eq hF
  refine nd (by decide) _ _ _ ?_
  (repeat (first | ((conv => whnf); (with_reducible refine And.intro ?_ ?_); (focus (first | exact Eq.refl _ | exact trivial | exact Int.natCast_nonneg _ | assumption | exact Nat.le_of_ble_eq_true (Eq.refl true) | decide))))); (conv => whnf)
  exact Exists.intro (rn []) (WS.mk (wt_cons (wd_c (WE.refl _)) wt_nil) wb_nil)
end Go.Proofs.YtafniolcakiljaaDoor

set_option linter.unusedVariables false
set_option linter.unusedSimpArgs false
set_option maxRecDepth 100000
set_option maxHeartbeats 4000000
namespace Go.Proofs.YtafniolcakiljaaDoor
open Go Go.Am
def values_Has (s : TExcSet) (e : TExc) : Option (Bool) :=
  (if s.fAll = true then some true else slices_Contains_Exc s.fList e >>= fun r1 =>
  some r1) >>= fun c2 =>
  some c2
def values_Has.M (s : TExcSet) (e : TExc) (r : Bool) : Prop :=
  CallsX Tryd.prog 33 [.agg [.v (.bool s.fAll), .sl (s.fList.map TExc.cells)], .agg [.v (.string e.fCon), .v (.int .i64 e.fN)]] [] (fun d b => d = .c none (.v (.bool r)) ∧ b = [])
theorem values_Has_ok (s : TExcSet) (e : TExc) (r : Bool) (hF : values_Has s e = some r) : values_Has.M s e r := by
  unfold values_Has at hF
  unfold values_Has.M
  refine enter tabOk Tryd.func33 rfl (by decide) (Nat.le_of_ble_eq_true rfl) rfl rfl rfl ?_
  refine AWP.seq ?_
  refine nd (by decide) _ _ _ ?_
  (repeat (first | ((conv => whnf); (with_reducible refine And.intro ?_ ?_); (focus (first | exact Eq.refl _ | exact trivial | exact Int.natCast_nonneg _ | assumption | exact Nat.le_of_ble_eq_true (Eq.refl true) | decide))))); (conv => whnf)
  refine AWP.seq ?_
  obtain ⟨c2, hc2, hF⟩ := bind_some hF
  refine AWP.cutN (fun T => ∃ r, WS r T ⟨[(4, .c none (.v (.bool c2)))], []⟩) ?_ (fun T hw => ?_)
  · refine nd (by decide) _ _ _ ?_
    (repeat (first | ((conv => whnf); (with_reducible refine And.intro ?_ ?_); (focus (first | exact Eq.refl _ | exact trivial | exact Int.natCast_nonneg _ | assumption | exact Nat.le_of_ble_eq_true (Eq.refl true) | decide))))); (conv => whnf)
    refine branchG_intro false (fun hc3 => ?_) (fun hc3 => ?_)
    · have hc2 := if_then (by first | assumption | exact Eq.refl _ | simp only [hc3, Bool.and_true, Bool.true_and, Bool.and_false, Bool.false_and, Bool.or_true, Bool.true_or, Bool.or_false, Bool.false_or, Bool.not_true, Bool.not_false, cond_true, cond_false, List.length_map]) hc2
      (conv => whnf)
      obtain rfl := some_eq hc2
      (repeat (first | ((conv => whnf); (with_reducible refine And.intro ?_ ?_); (focus (first | exact Eq.refl _ | exact trivial | exact Int.natCast_nonneg _ | assumption | exact Nat.le_of_ble_eq_true (Eq.refl true) | decide))))); (conv => whnf)
      exact Exists.intro (rn []) (WS.mk (wt_cons (wd_c (we_b (by first | exact Eq.refl _ | simp only [hc3, Bool.and_true, Bool.true_and, Bool.and_false, Bool.false_and, Bool.or_true, Bool.true_or, Bool.or_false, Bool.false_or, Bool.not_true, Bool.not_false, cond_true, cond_false, List.length_map]))) wt_nil) wb_nil)
    · have hc2 := if_else (by first | assumption | exact Eq.refl _ | simp only [hc3, Bool.and_true, Bool.true_and, Bool.and_false, Bool.false_and, Bool.or_true, Bool.true_or, Bool.or_false, Bool.false_or, Bool.not_true, Bool.not_false, cond_true, cond_false, List.length_map]) hc2
      obtain ⟨r1, hr1, hc2⟩ := bind_some hc2
      (conv => whnf)
      (repeat (first | ((conv => whnf); (with_reducible refine And.intro ?_ ?_); (focus (first | exact Eq.refl _ | exact trivial | exact Int.natCast_nonneg _ | assumption | exact Nat.le_of_ble_eq_true (Eq.refl true) | decide))))); (conv => whnf)
      refine Exists.intro [] ?_
      (repeat (first | ((conv => whnf); (with_reducible refine And.intro ?_ ?_); (focus (first | exact Eq.refl _ | exact trivial | exact Int.natCast_nonneg _ | assumption | exact Nat.le_of_ble_eq_true (Eq.refl true) | decide))))); (conv => whnf)
      refine CallsX.mono (CallsX.weak (rn []) (slices_Contains_Exc_ok s.fList e _ hr1) rfl (WS.mk (wt_cons (wd_c (WE.refl _)) (wt_cons (wd_agg (wl_cons (WE.refl _) (wl_cons (WE.refl _) wl_nil))) wt_nil)) wb_nil)) ?_
      rintro d b ⟨rfl, rfl⟩
      (repeat (first | ((conv => whnf); (with_reducible refine And.intro ?_ ?_); (focus (first | exact Eq.refl _ | exact trivial | exact Int.natCast_nonneg _ | assumption | exact Nat.le_of_ble_eq_true (Eq.refl true) | decide))))); (conv => whnf)
      obtain rfl := some_eq hc2
      (repeat (first | ((conv => whnf); (with_reducible refine And.intro ?_ ?_); (focus (first | exact Eq.refl _ | exact trivial | exact Int.natCast_nonneg _ | assumption | exact Nat.le_of_ble_eq_true (Eq.refl true) | decide))))); (conv => whnf)
      exact Exists.intro (rn []) (WS.mk (wt_cons (wd_c (we_b (by first | exact Eq.refl _ | simp only [hc3, Bool.and_true, Bool.true_and, Bool.and_false, Bool.false_and, Bool.or_true, Bool.true_or, Bool.or_false, Bool.false_or, Bool.not_true, Bool.not_false, cond_true, cond_false, List.length_map]))) wt_nil) wb_nil)
  obtain ⟨r0, hw⟩ := hw
  (conv => whnf)
  refine AWP.weak r0 hw ?_
  obtain rfl := some_eq hF
  refine nd (by decide) _ _ _ ?_
  (repeat (first | ((conv => whnf); (with_reducible refine And.intro ?_ ?_); (focus (first | exact Eq.refl _ | exact trivial | exact Int.natCast_nonneg _ | assumption | exact Nat.le_of_ble_eq_true (Eq.refl true) | decide))))); (conv => whnf)
  exact Exists.intro (rn []) (WS.mk (wt_cons (wd_c (WE.refl _)) wt_nil) wb_nil)
end Go.Proofs.YtafniolcakiljaaDoor

set_option linter.unusedVariables false
set_option linter.unusedSimpArgs false
set_option maxRecDepth 100000
set_option maxHeartbeats 4000000
namespace Go.Proofs.YtafniolcakiljaaDoor
open Go Go.Am
def values_Within_l1 (a : TExcSet) (x_18 : Nat) (b : TExcSet) (x_18_s_ : (List TExc)) : Option (Bool) :=
  (match x_18_s_ with
  | x16 :: xs17 =>
  values_Has b x16 >>= fun r19 =>
  if (!r19) = true then
  some false
  else
  values_Within_l1 a (x_18 + 1) b xs17
  | [] =>
  some true)
  partial_fixpoint
def values_Within_l1.M (a : TExcSet) (x_18 : Nat) (b : TExcSet) (x_18_s_ : (List TExc)) (r : Bool) : Prop :=
  ∀ pre_x_18 : List TExc, a.fList = pre_x_18 ++ x_18_s_ → x_18 = pre_x_18.length → a.fList.length ≤ maxLen → AWL Tryd.prog 27 (Code.sub (bodyOf Tryd.f35) [1, 1, 0, 1, 0, 0]) (Code.cont Tryd.prog 27 (bodyOf Tryd.f35) [1, 1, 0, 1, 0] (endK tab Tryd.f35.results [] (WRes (.c none (.v (.bool r))) []))) ⟨[(3, .ptr 3 0), (16, .c none (.sl (a.fList.map TExc.cells))), (17, .c none (.v (.int .i64 ((a.fList.length : Nat) : Int)))), (18, .c none (.v (.int .i64 ((x_18 : Nat) : Int))))], [(3, [(none, .v (.bool b.fAll)), (none, .sl (b.fList.map TExc.cells))])]⟩
theorem values_Within_l1_ok (a : TExcSet) (x_18 : Nat) (b : TExcSet) (x_18_s_ : (List TExc)) : ∀ r, values_Within_l1 a x_18 b x_18_s_ = some r → values_Within_l1.M a x_18 b x_18_s_ r := by
  refine values_Within_l1.partial_correctness a b (fun x_18 x_18_s_ r => values_Within_l1.M a x_18 b x_18_s_ r) ?_ x_18 x_18_s_
  intro values_Within_l1' ih0_values_Within_l1 x_18 x_18_s_ r hF
  have ih_values_Within_l1 := fun (_a : TExcSet) (x_18 : Nat) (_b : TExcSet) (x_18_s_ : (List TExc)) => ih0_values_Within_l1 x_18 x_18_s_
  clear ih0_values_Within_l1
  unfold values_Within_l1.M
  intro pre_x_18 hs_x_18 hk_x_18 hlen4
  refine AWL.step ?_
  refine AWP.seq ?_
  refine nd (by decide) _ _ _ ?_
  (repeat (first | ((conv => whnf); (with_reducible refine And.intro ?_ ?_); (focus (first | exact Eq.refl _ | exact trivial | exact Int.natCast_nonneg _ | assumption | exact Nat.le_of_ble_eq_true (Eq.refl true) | decide))))); (conv => whnf)
  refine AWP.seq ?_
  refine nd (by decide) _ _ _ ?_
  (conv => whnf)
  refine branch_list hs_x_18 hk_x_18 (fun x16 xs17 hp18 hx18 hl18 => ?_) (fun hp18 => ?_)
  · subst hp18
    refine nd (by decide) _ _ _ ?_
    (conv => whnf)
    refine AWP.seq ?_
    refine AWP.block ?_
    refine AWP.seq ?_
    refine nd (by decide) _ _ _ ?_
    (repeat (first | ((conv => whnf); (with_reducible refine And.intro ?_ ?_); (focus (first | exact Eq.refl _ | exact trivial | exact Int.natCast_nonneg _ | assumption | exact Nat.le_of_ble_eq_true (Eq.refl true) | decide))) | ((conv => whnf); rw [map_get (TExc.cells_eq x16) hx18]))); (conv => whnf)
    (repeat (first | ((conv => whnf); (with_reducible refine And.intro ?_ ?_); (focus (first | exact Eq.refl _ | exact trivial | exact Int.natCast_nonneg _ | assumption | exact Nat.le_of_ble_eq_true (Eq.refl true) | decide))))); (conv => whnf)
    refine AWP.seq ?_
    obtain ⟨r19, hr19, hF⟩ := bind_some hF
    refine nd (by decide) _ _ _ ?_
    (repeat (first | ((conv => whnf); (with_reducible refine And.intro ?_ ?_); (focus (first | exact Eq.refl _ | exact trivial | exact Int.natCast_nonneg _ | assumption | exact Nat.le_of_ble_eq_true (Eq.refl true) | decide))))); (conv => whnf)
    refine Exists.intro [] ?_
    (repeat (first | ((conv => whnf); (with_reducible refine And.intro ?_ ?_); (focus (first | exact Eq.refl _ | exact trivial | exact Int.natCast_nonneg _ | assumption | exact Nat.le_of_ble_eq_true (Eq.refl true) | decide))))); (conv => whnf)
    refine CallsX.mono (CallsX.weak (rn []) (values_Has_ok b x16 _ hr19) rfl (WS.mk (wt_cons (wd_agg (wl_cons (WE.refl _) (wl_cons (WE.refl _) wl_nil))) (wt_cons (wd_agg (wl_cons (WE.refl _) (wl_cons (WE.refl _) wl_nil))) wt_nil)) wb_nil)) ?_
    rintro d b ⟨rfl, rfl⟩
    (repeat (first | ((conv => whnf); (with_reducible refine And.intro ?_ ?_); (focus (first | exact Eq.refl _ | exact trivial | exact Int.natCast_nonneg _ | assumption | exact Nat.le_of_ble_eq_true (Eq.refl true) | decide))))); (conv => whnf)
    (repeat (first | ((conv => whnf); (with_reducible refine And.intro ?_ ?_); (focus (first | exact Eq.refl _ | exact trivial | exact Int.natCast_nonneg _ | assumption | exact Nat.le_of_ble_eq_true (Eq.refl true) | decide))))); (conv => whnf)
    refine nd (by decide) _ _ _ ?_
    (conv => whnf)
    refine branch_hF hF (fun hc20 hF => ?_) (fun hc20 hF => ?_)
    · refine AWP.seq ?_
      refine nd (by decide) _ _ _ ?_
      (repeat (first | ((conv => whnf); (with_reducible refine And.intro ?_ ?_); (focus (first | exact Eq.refl _ | exact trivial | exact Int.natCast_nonneg _ | assumption | exact Nat.le_of_ble_eq_true (Eq.refl true) | decide))))); (conv => whnf)
      obtain rfl := some_eq hF
      refine nd (by decide) _ _ _ ?_
      (repeat (first | ((conv => whnf); (with_reducible refine And.intro ?_ ?_); (focus (first | exact Eq.refl _ | exact trivial | exact Int.natCast_nonneg _ | assumption | exact Nat.le_of_ble_eq_true (Eq.refl true) | decide))))); (conv => whnf)
      exact Exists.intro (rn []) (WS.mk (wt_cons (wd_c (WE.refl _)) wt_nil) wb_nil)
    · refine nd (by decide) _ _ _ ?_
      (conv => whnf)
      refine nd (by decide) _ _ _ ?_
      (repeat (first | ((conv => whnf); (with_reducible refine And.intro ?_ ?_); (focus (first | exact Eq.refl _ | exact trivial | exact Int.natCast_nonneg _ | assumption | exact Nat.le_of_ble_eq_true (Eq.refl true) | decide))))); (conv => whnf)
      refine AWL.weak (rn []) ?_ (ih_values_Within_l1 a (x_18 + 1) b xs17 _ hF (pre_x_18 ++ [x16]) (by rw [hs_x_18]; simp) (by rw [hk_x_18]; simp) hlen4)
      exact (WS.mk (wt_cons wd_ptr (wt_cons (wd_c (WE.refl _)) (wt_cons (wd_c (WE.refl _)) (wt_cons (wd_c (we_i (wrap_succ hlen4 hl18))) wt_nil)))) (wb_cons rfl (wc_c (WE.refl _) (wc_c (WE.refl _) wc_nil)) wb_nil))
  · subst hp18
    refine nd (by decide) _ _ _ ?_
    (conv => whnf)
    refine AWP.seq ?_
    refine nd (by decide) _ _ _ ?_
    (repeat (first | ((conv => whnf); (with_reducible refine And.intro ?_ ?_); (focus (first | exact Eq.refl _ | exact trivial | exact Int.natCast_nonneg _ | assumption | exact Nat.le_of_ble_eq_true (Eq.refl true) | decide))))); (conv => whnf)
    obtain rfl := some_eq hF
    refine nd (by decide) _ _ _ ?_
    (repeat (first | ((conv => whnf); (with_reducible refine And.intro ?_ ?_); (focus (first | exact Eq.refl _ | exact trivial | exact Int.natCast_nonneg _ | assumption | exact Nat.le_of_ble_eq_true (Eq.refl true) | decide))))); (conv => whnf)
    exact Exists.intro (rn []) (WS.mk (wt_cons (wd_c (WE.refl _)) wt_nil) wb_nil)
end Go.Proofs.YtafniolcakiljaaDoor

set_option linter.unusedVariables false
set_option linter.unusedSimpArgs false
set_option maxRecDepth 100000
set_option maxHeartbeats 4000000
namespace Go.Proofs.YtafniolcakiljaaDoor
open Go Go.Am
def values_Within (a : TExcSet) (b : TExcSet) : Option (Bool) :=
  if (a.fAll || b.fAll) = true then
  some b.fAll
  else
  values_Within_l1 a 0 b a.fList
def values_Within.M (a : TExcSet) (b : TExcSet) (r : Bool) : Prop :=
  CallsX Tryd.prog 35 [.agg [.v (.bool a.fAll), .sl (a.fList.map TExc.cells)], .agg [.v (.bool b.fAll), .sl (b.fList.map TExc.cells)]] [] (fun d b => d = .c none (.v (.bool r)) ∧ b = [])
theorem values_Within_ok (a : TExcSet) (b : TExcSet) (r : Bool) (hF : values_Within a b = some r) : values_Within.M a b r := by
  unfold values_Within at hF
  unfold values_Within.M
  refine enter tabOk Tryd.func35 rfl (by decide) (Nat.le_of_ble_eq_true rfl) rfl rfl rfl ?_
  refine AWP.seq ?_
  refine nd (by decide) _ _ _ ?_
  (repeat (first | ((conv => whnf); (with_reducible refine And.intro ?_ ?_); (focus (first | exact Eq.refl _ | exact trivial | exact Int.natCast_nonneg _ | assumption | exact Nat.le_of_ble_eq_true (Eq.refl true) | decide))))); (conv => whnf)
  refine AWP.seq ?_
  refine AWP.seq ?_
  refine AWP.cutN (fun T => ∃ r, WS r T ⟨[(2, .ptr 2 0), (3, .ptr 3 0), (12, .c none (.v (.bool (a.fAll || b.fAll))))], [(2, [(none, .v (.bool a.fAll)), (none, .sl (a.fList.map TExc.cells))]), (3, [(none, .v (.bool b.fAll)), (none, .sl (b.fList.map TExc.cells))])]⟩) ?_ (fun T hw => ?_)
  · refine nd (by decide) _ _ _ ?_
    (repeat (first | ((conv => whnf); (with_reducible refine And.intro ?_ ?_); (focus (first | exact Eq.refl _ | exact trivial | exact Int.natCast_nonneg _ | assumption | exact Nat.le_of_ble_eq_true (Eq.refl true) | decide))))); (conv => whnf)
    refine branchG_intro false (fun hc2 => ?_) (fun hc2 => ?_)
    · (conv => whnf)
      (repeat (first | ((conv => whnf); (with_reducible refine And.intro ?_ ?_); (focus (first | exact Eq.refl _ | exact trivial | exact Int.natCast_nonneg _ | assumption | exact Nat.le_of_ble_eq_true (Eq.refl true) | decide))))); (conv => whnf)
      exact Exists.intro (rn []) (WS.mk (wt_cons wd_ptr (wt_cons wd_ptr (wt_cons (wd_c (we_b (by first | exact Eq.refl _ | simp only [hc2, Bool.and_true, Bool.true_and, Bool.and_false, Bool.false_and, Bool.or_true, Bool.true_or, Bool.or_false, Bool.false_or, Bool.not_true, Bool.not_false, cond_true, cond_false, List.length_map]))) wt_nil))) (wb_cons rfl (wc_c (WE.refl _) (wc_c (WE.refl _) wc_nil)) (wb_cons rfl (wc_c (WE.refl _) (wc_c (WE.refl _) wc_nil)) wb_nil)))
    · (conv => whnf)
      (repeat (first | ((conv => whnf); (with_reducible refine And.intro ?_ ?_); (focus (first | exact Eq.refl _ | exact trivial | exact Int.natCast_nonneg _ | assumption | exact Nat.le_of_ble_eq_true (Eq.refl true) | decide))))); (conv => whnf)
      exact Exists.intro (rn []) (WS.mk (wt_cons wd_ptr (wt_cons wd_ptr (wt_cons (wd_c (we_b (by first | exact Eq.refl _ | simp only [hc2, Bool.and_true, Bool.true_and, Bool.and_false, Bool.false_and, Bool.or_true, Bool.true_or, Bool.or_false, Bool.false_or, Bool.not_true, Bool.not_false, cond_true, cond_false, List.length_map]))) wt_nil))) (wb_cons rfl (wc_c (WE.refl _) (wc_c (WE.refl _) wc_nil)) (wb_cons rfl (wc_c (WE.refl _) (wc_c (WE.refl _) wc_nil)) wb_nil)))
  obtain ⟨r0, hw⟩ := hw
  (conv => whnf)
  refine AWP.weak r0 hw ?_
  refine nd (by decide) _ _ _ ?_
  (conv => whnf)
  refine branch_hF hF (fun hc3 hF => ?_) (fun hc3 hF => ?_)
  · refine AWP.seq ?_
    refine nd (by decide) _ _ _ ?_
    (repeat (first | ((conv => whnf); (with_reducible refine And.intro ?_ ?_); (focus (first | exact Eq.refl _ | exact trivial | exact Int.natCast_nonneg _ | assumption | exact Nat.le_of_ble_eq_true (Eq.refl true) | decide))))); (conv => whnf)
    obtain rfl := some_eq hF
    refine nd (by decide) _ _ _ ?_
    (repeat (first | ((conv => whnf); (with_reducible refine And.intro ?_ ?_); (focus (first | exact Eq.refl _ | exact trivial | exact Int.natCast_nonneg _ | assumption | exact Nat.le_of_ble_eq_true (Eq.refl true) | decide))))); (conv => whnf)
    exact Exists.intro (rn []) (WS.mk (wt_cons (wd_c (WE.refl _)) wt_nil) wb_nil)
  · refine nd (by decide) _ _ _ ?_
    (conv => whnf)
    refine AWP.seq ?_
    refine AWP.seq ?_
    refine nd (by decide) _ _ _ ?_
    (repeat (first | ((conv => whnf); (with_reducible refine And.intro ?_ ?_); (focus (first | exact Eq.refl _ | exact trivial | exact Int.natCast_nonneg _ | assumption | exact Nat.le_of_ble_eq_true (Eq.refl true) | decide))))); (conv => whnf)
    intro hlen4
    (try rw [List.length_map] at hlen4)
    (try rw [List.length_map])
    (repeat (first | ((conv => whnf); (with_reducible refine And.intro ?_ ?_); (focus (first | exact Eq.refl _ | exact trivial | exact Int.natCast_nonneg _ | assumption | exact Nat.le_of_ble_eq_true (Eq.refl true) | decide))))); (conv => whnf)
    refine AWP.block ?_
    refine AWP.loop ?_
    refine AWL.weak (rn []) ?_ (values_Within_l1_ok a 0 b a.fList _ hF ([]) rfl rfl hlen4)
    exact (WS.mk (wt_cons wd_ptr (wt_cons (wd_c (WE.refl _)) (wt_cons (wd_c (WE.refl _)) (wt_cons (wd_c (WE.refl _)) wt_nil)))) (wb_cons rfl (wc_c (WE.refl _) (wc_c (WE.refl _) wc_nil)) wb_nil))
end Go.Proofs.YtafniolcakiljaaDoor

set_option linter.unusedVariables false
set_option linter.unusedSimpArgs false
set_option maxRecDepth 100000
set_option maxHeartbeats 4000000
namespace Go.Proofs.YtafniolcakiljaaDoor
open Go Go.Am
mutual
def values_Refines (a : TValue) (b : TValue) : Option (Bool) :=
  if ((b.fOp == 6) || ((b.fOp == 5) && b.fSet.fAll)) = true then
  some true
  else
  if (a.fOp != b.fOp) = true then
  some false
  else
  if (b.fOp == 1) = true then
  values_Refines_k1 b (b.fOp == 1) a
  else
  values_Refines_k1 b (b.fOp == 2) a
  partial_fixpoint
def values_Refines_k1 (b : TValue) (x_25 : Bool) (a : TValue) : Option (Bool) :=
  if x_25 = true then
  some (a.fN == b.fN)
  else
  if (b.fOp == 4) = true then
  some true
  else
  if (b.fOp == 5) = true then
  values_Within a.fSet b.fSet >>= fun r11 =>
  some r11
  else
  if (b.fOp == 3) = true then
  (if (a.fName.toList == b.fName.toList) = true then slices_EqualFunc_Value_values_Refines a.fKids b.fKids >>= fun r13 =>
  some r13 else some false) >>= fun c14 =>
  some c14
  else
  some false
  partial_fixpoint
def slices_EqualFunc_Value_values_Refines (s1_ : (List TValue)) (s2_ : (List TValue)) : Option (Bool) :=
  if (((s1_.length : Nat) : Int) != ((s2_.length : Nat) : Int)) = true then
  some false
  else
  slices_EqualFunc_Value_values_Refines_l1 s2_ s1_ 0 s1_
  partial_fixpoint
def slices_EqualFunc_Value_values_Refines_l1 (s2_ : (List TValue)) (s1_ : (List TValue)) (x_17 : Nat) (x_17_s_ : (List TValue)) : Option (Bool) :=
  (match x_17_s_ with
  | x21 :: xs22 =>
  (s2_[x_17]?) >>= fun x24 =>
  values_Refines x21 x24 >>= fun r25 =>
  if (!r25) = true then
  some false
  else
  slices_EqualFunc_Value_values_Refines_l1 s2_ s1_ (x_17 + 1) xs22
  | [] =>
  some true)
  partial_fixpoint
end
def values_Refines.M (a : TValue) (b : TValue) (r : Bool) : Prop :=
  CallsX Tryd.prog 13 [.agg [.v (.int .i64 a.fOp), .v (.string a.fName), .v (.int .i64 a.fN), .sl (a.fKids.map TValue.cells), .v (.bool a.fSet.fAll), .sl (a.fSet.fList.map TExc.cells)], .agg [.v (.int .i64 b.fOp), .v (.string b.fName), .v (.int .i64 b.fN), .sl (b.fKids.map TValue.cells), .v (.bool b.fSet.fAll), .sl (b.fSet.fList.map TExc.cells)]] [] (fun d b => d = .c none (.v (.bool r)) ∧ b = [])
def values_Refines_k1.M (b : TValue) (x_25 : Bool) (a : TValue) (r : Bool) : Prop :=
  AWP Tryd.prog 56 (Code.sub (bodyOf Tryd.f13) [1, 1, 1, 0, 1, 0, 1]) (Code.cont Tryd.prog 56 (bodyOf Tryd.f13) [1, 1, 1, 0, 1, 0, 1] (endK tab Tryd.f13.results [] (WRes (.c none (.v (.bool r))) []))) ⟨[(2, .ptr 2 0), (3, .ptr 3 0), (24, .c none (.v (.int .i64 b.fOp))), (25, .c none (.v (.bool x_25)))], [(2, [(none, .v (.int .i64 a.fOp)), (none, .v (.string a.fName)), (none, .v (.int .i64 a.fN)), (none, .sl (a.fKids.map TValue.cells)), (none, .v (.bool a.fSet.fAll)), (none, .sl (a.fSet.fList.map TExc.cells))]), (3, [(none, .v (.int .i64 b.fOp)), (none, .v (.string b.fName)), (none, .v (.int .i64 b.fN)), (none, .sl (b.fKids.map TValue.cells)), (none, .v (.bool b.fSet.fAll)), (none, .sl (b.fSet.fList.map TExc.cells))])]⟩
def slices_EqualFunc_Value_values_Refines.M (s1_ : (List TValue)) (s2_ : (List TValue)) (r : Bool) : Prop :=
  CallsX Tryd.prog 40 [.c none (.sl (s1_.map TValue.cells)), .c none (.sl (s2_.map TValue.cells)), .c none (.v (.func (.func 13) #[] #[]))] [] (fun d b => d = .c none (.v (.bool r)) ∧ b = [])
def slices_EqualFunc_Value_values_Refines_l1.M (s2_ : (List TValue)) (s1_ : (List TValue)) (x_17 : Nat) (x_17_s_ : (List TValue)) (r : Bool) : Prop :=
  ∀ pre_x_17 : List TValue, s1_ = pre_x_17 ++ x_17_s_ → x_17 = pre_x_17.length → s1_.length ≤ maxLen → s2_.length ≤ maxLen → AWL Tryd.prog 32 (Code.sub (bodyOf Tryd.f40) [1, 1, 0, 1, 0, 0]) (Code.cont Tryd.prog 32 (bodyOf Tryd.f40) [1, 1, 0, 1, 0] (endK tab Tryd.f40.results [] (WRes (.c none (.v (.bool r))) []))) ⟨[(1, .c none (.sl (s2_.map TValue.cells))), (2, .c none (.v (.func (.func 13) #[] #[]))), (15, .c none (.sl (s1_.map TValue.cells))), (16, .c none (.v (.int .i64 ((s1_.length : Nat) : Int)))), (17, .c none (.v (.int .i64 ((x_17 : Nat) : Int))))], []⟩
theorem values_Refines_all : (∀ (a : TValue) (b : TValue), ∀ r, values_Refines a b = some r → values_Refines.M a b r) ∧ (∀ (b : TValue) (x_25 : Bool) (a : TValue), ∀ r, values_Refines_k1 b x_25 a = some r → values_Refines_k1.M b x_25 a r) ∧ (∀ (s1_ : (List TValue)) (s2_ : (List TValue)), ∀ r, slices_EqualFunc_Value_values_Refines s1_ s2_ = some r → slices_EqualFunc_Value_values_Refines.M s1_ s2_ r) ∧ (∀ (s2_ : (List TValue)) (s1_ : (List TValue)) (x_17 : Nat) (x_17_s_ : (List TValue)), ∀ r, slices_EqualFunc_Value_values_Refines_l1 s2_ s1_ x_17 x_17_s_ = some r → slices_EqualFunc_Value_values_Refines_l1.M s2_ s1_ x_17 x_17_s_ r) := by
  refine values_Refines.mutual_partial_correctness values_Refines.M values_Refines_k1.M slices_EqualFunc_Value_values_Refines.M slices_EqualFunc_Value_values_Refines_l1.M ?_ ?_ ?_ ?_
  · intro values_Refines_k1' ih_values_Refines_k1 a b r hF
    unfold values_Refines.M
    refine enter tabOk Tryd.func13 rfl (by decide) (Nat.le_of_ble_eq_true rfl) rfl rfl rfl ?_
    refine AWP.seq ?_
    refine nd (by decide) _ _ _ ?_
    (repeat (first | ((conv => whnf); (with_reducible refine And.intro ?_ ?_); (focus (first | exact Eq.refl _ | exact trivial | exact Int.natCast_nonneg _ | assumption | exact Nat.le_of_ble_eq_true (Eq.refl true) | decide))))); (conv => whnf)
    refine AWP.seq ?_
    refine AWP.seq ?_
    refine AWP.cutN (fun T => ∃ r, WS r T ⟨[(2, .ptr 2 0), (3, .ptr 3 0), (17, .c none (.v (.bool ((b.fOp == 6) || ((b.fOp == 5) && b.fSet.fAll)))))], [(2, [(none, .v (.int .i64 a.fOp)), (none, .v (.string a.fName)), (none, .v (.int .i64 a.fN)), (none, .sl (a.fKids.map TValue.cells)), (none, .v (.bool a.fSet.fAll)), (none, .sl (a.fSet.fList.map TExc.cells))]), (3, [(none, .v (.int .i64 b.fOp)), (none, .v (.string b.fName)), (none, .v (.int .i64 b.fN)), (none, .sl (b.fKids.map TValue.cells)), (none, .v (.bool b.fSet.fAll)), (none, .sl (b.fSet.fList.map TExc.cells))])]⟩) ?_ (fun T hw => ?_)
    · refine nd (by decide) _ _ _ ?_
      (repeat (first | ((conv => whnf); (with_reducible refine And.intro ?_ ?_); (focus (first | exact Eq.refl _ | exact trivial | exact Int.natCast_nonneg _ | assumption | exact Nat.le_of_ble_eq_true (Eq.refl true) | decide))))); (conv => whnf)
      refine branchG_intro false (fun hc2 => ?_) (fun hc2 => ?_)
      · (conv => whnf)
        (repeat (first | ((conv => whnf); (with_reducible refine And.intro ?_ ?_); (focus (first | exact Eq.refl _ | exact trivial | exact Int.natCast_nonneg _ | assumption | exact Nat.le_of_ble_eq_true (Eq.refl true) | decide))))); (conv => whnf)
        exact Exists.intro (rn []) (WS.mk (wt_cons wd_ptr (wt_cons wd_ptr (wt_cons (wd_c (we_b (by first | exact Eq.refl _ | simp only [hc2, Bool.and_true, Bool.true_and, Bool.and_false, Bool.false_and, Bool.or_true, Bool.true_or, Bool.or_false, Bool.false_or, Bool.not_true, Bool.not_false, cond_true, cond_false, List.length_map]))) wt_nil))) (wb_cons rfl (wc_c (WE.refl _) (wc_c (WE.refl _) (wc_c (WE.refl _) (wc_c (WE.refl _) (wc_c (WE.refl _) (wc_c (WE.refl _) wc_nil)))))) (wb_cons rfl (wc_c (WE.refl _) (wc_c (WE.refl _) (wc_c (WE.refl _) (wc_c (WE.refl _) (wc_c (WE.refl _) (wc_c (WE.refl _) wc_nil)))))) wb_nil)))
      · (conv => whnf)
        (repeat (first | ((conv => whnf); (with_reducible refine And.intro ?_ ?_); (focus (first | exact Eq.refl _ | exact trivial | exact Int.natCast_nonneg _ | assumption | exact Nat.le_of_ble_eq_true (Eq.refl true) | decide))))); (conv => whnf)
        refine branchG_intro true (fun hc3 => ?_) (fun hc3 => ?_)
        · (conv => whnf)
          (repeat (first | ((conv => whnf); (with_reducible refine And.intro ?_ ?_); (focus (first | exact Eq.refl _ | exact trivial | exact Int.natCast_nonneg _ | assumption | exact Nat.le_of_ble_eq_true (Eq.refl true) | decide))))); (conv => whnf)
          exact Exists.intro (rn []) (WS.mk (wt_cons wd_ptr (wt_cons wd_ptr (wt_cons (wd_c (we_b (by first | exact Eq.refl _ | simp only [hc2, hc3, Bool.and_true, Bool.true_and, Bool.and_false, Bool.false_and, Bool.or_true, Bool.true_or, Bool.or_false, Bool.false_or, Bool.not_true, Bool.not_false, cond_true, cond_false, List.length_map]))) wt_nil))) (wb_cons rfl (wc_c (WE.refl _) (wc_c (WE.refl _) (wc_c (WE.refl _) (wc_c (WE.refl _) (wc_c (WE.refl _) (wc_c (WE.refl _) wc_nil)))))) (wb_cons rfl (wc_c (WE.refl _) (wc_c (WE.refl _) (wc_c (WE.refl _) (wc_c (WE.refl _) (wc_c (WE.refl _) (wc_c (WE.refl _) wc_nil)))))) wb_nil)))
        · (conv => whnf)
          (repeat (first | ((conv => whnf); (with_reducible refine And.intro ?_ ?_); (focus (first | exact Eq.refl _ | exact trivial | exact Int.natCast_nonneg _ | assumption | exact Nat.le_of_ble_eq_true (Eq.refl true) | decide))))); (conv => whnf)
          exact Exists.intro (rn []) (WS.mk (wt_cons wd_ptr (wt_cons wd_ptr (wt_cons (wd_c (we_b (by first | exact Eq.refl _ | simp only [hc2, hc3, Bool.and_true, Bool.true_and, Bool.and_false, Bool.false_and, Bool.or_true, Bool.true_or, Bool.or_false, Bool.false_or, Bool.not_true, Bool.not_false, cond_true, cond_false, List.length_map]))) wt_nil))) (wb_cons rfl (wc_c (WE.refl _) (wc_c (WE.refl _) (wc_c (WE.refl _) (wc_c (WE.refl _) (wc_c (WE.refl _) (wc_c (WE.refl _) wc_nil)))))) (wb_cons rfl (wc_c (WE.refl _) (wc_c (WE.refl _) (wc_c (WE.refl _) (wc_c (WE.refl _) (wc_c (WE.refl _) (wc_c (WE.refl _) wc_nil)))))) wb_nil)))
    obtain ⟨r0, hw⟩ := hw
    (conv => whnf)
    refine AWP.weak r0 hw ?_
    refine nd (by decide) _ _ _ ?_
    (conv => whnf)
    refine branch_hF hF (fun hc4 hF => ?_) (fun hc4 hF => ?_)
    · refine AWP.seq ?_
      refine nd (by decide) _ _ _ ?_
      (repeat (first | ((conv => whnf); (with_reducible refine And.intro ?_ ?_); (focus (first | exact Eq.refl _ | exact trivial | exact Int.natCast_nonneg _ | assumption | exact Nat.le_of_ble_eq_true (Eq.refl true) | decide))))); (conv => whnf)
      obtain rfl := some_eq hF
      refine nd (by decide) _ _ _ ?_
      (repeat (first | ((conv => whnf); (with_reducible refine And.intro ?_ ?_); (focus (first | exact Eq.refl _ | exact trivial | exact Int.natCast_nonneg _ | assumption | exact Nat.le_of_ble_eq_true (Eq.refl true) | decide))))); (conv => whnf)
      exact Exists.intro (rn []) (WS.mk (wt_cons (wd_c (WE.refl _)) wt_nil) wb_nil)
    · refine nd (by decide) _ _ _ ?_
      (conv => whnf)
      refine AWP.seq ?_
      refine AWP.seq ?_
      refine nd (by decide) _ _ _ ?_
      (repeat (first | ((conv => whnf); (with_reducible refine And.intro ?_ ?_); (focus (first | exact Eq.refl _ | exact trivial | exact Int.natCast_nonneg _ | assumption | exact Nat.le_of_ble_eq_true (Eq.refl true) | decide))))); (conv => whnf)
      refine nd (by decide) _ _ _ ?_
      (conv => whnf)
      refine branch_hF hF (fun hc6 hF => ?_) (fun hc6 hF => ?_)
      · refine AWP.seq ?_
        refine nd (by decide) _ _ _ ?_
        (repeat (first | ((conv => whnf); (with_reducible refine And.intro ?_ ?_); (focus (first | exact Eq.refl _ | exact trivial | exact Int.natCast_nonneg _ | assumption | exact Nat.le_of_ble_eq_true (Eq.refl true) | decide))))); (conv => whnf)
        obtain rfl := some_eq hF
        refine nd (by decide) _ _ _ ?_
        (repeat (first | ((conv => whnf); (with_reducible refine And.intro ?_ ?_); (focus (first | exact Eq.refl _ | exact trivial | exact Int.natCast_nonneg _ | assumption | exact Nat.le_of_ble_eq_true (Eq.refl true) | decide))))); (conv => whnf)
        exact Exists.intro (rn []) (WS.mk (wt_cons (wd_c (WE.refl _)) wt_nil) wb_nil)
      · refine nd (by decide) _ _ _ ?_
        (conv => whnf)
        refine AWP.seq ?_
        refine AWP.seq ?_
        refine nd (by decide) _ _ _ ?_
        (repeat (first | ((conv => whnf); (with_reducible refine And.intro ?_ ?_); (focus (first | exact Eq.refl _ | exact trivial | exact Int.natCast_nonneg _ | assumption | exact Nat.le_of_ble_eq_true (Eq.refl true) | decide))))); (conv => whnf)
        refine AWP.block ?_
        refine AWP.seq ?_
        refine AWP.seq ?_
        refine nd (by decide) _ _ _ ?_
        (repeat (first | ((conv => whnf); (with_reducible refine And.intro ?_ ?_); (focus (first | exact Eq.refl _ | exact trivial | exact Int.natCast_nonneg _ | assumption | exact Nat.le_of_ble_eq_true (Eq.refl true) | decide))))); (conv => whnf)
        refine nd (by decide) _ _ _ ?_
        (conv => whnf)
        refine branch_hF hF (fun hc16 hF => ?_) (fun hc16 hF => ?_)
        · refine nd (by decide) _ _ _ ?_
          (conv => whnf)
          refine AWP.weak (rn []) ?_ (ih_values_Refines_k1 b (b.fOp == 1) a _ hF)
          exact (WS.mk (wt_cons wd_ptr (wt_cons wd_ptr (wt_cons (wd_c (WE.refl _)) (wt_cons (wd_c (WE.refl _)) wt_nil)))) (wb_cons rfl (wc_c (WE.refl _) (wc_c (WE.refl _) (wc_c (WE.refl _) (wc_c (WE.refl _) (wc_c (WE.refl _) (wc_c (WE.refl _) wc_nil)))))) (wb_cons rfl (wc_c (WE.refl _) (wc_c (WE.refl _) (wc_c (WE.refl _) (wc_c (WE.refl _) (wc_c (WE.refl _) (wc_c (WE.refl _) wc_nil)))))) wb_nil)))
        · refine nd (by decide) _ _ _ ?_
          (repeat (first | ((conv => whnf); (with_reducible refine And.intro ?_ ?_); (focus (first | exact Eq.refl _ | exact trivial | exact Int.natCast_nonneg _ | assumption | exact Nat.le_of_ble_eq_true (Eq.refl true) | decide))))); (conv => whnf)
          refine AWP.weak (rn []) ?_ (ih_values_Refines_k1 b (b.fOp == 2) a _ hF)
          exact (WS.mk (wt_cons wd_ptr (wt_cons wd_ptr (wt_cons (wd_c (WE.refl _)) (wt_cons (wd_c (WE.refl _)) wt_nil)))) (wb_cons rfl (wc_c (WE.refl _) (wc_c (WE.refl _) (wc_c (WE.refl _) (wc_c (WE.refl _) (wc_c (WE.refl _) (wc_c (WE.refl _) wc_nil)))))) (wb_cons rfl (wc_c (WE.refl _) (wc_c (WE.refl _) (wc_c (WE.refl _) (wc_c (WE.refl _) (wc_c (WE.refl _) (wc_c (WE.refl _) wc_nil)))))) wb_nil)))
  · intro slices_EqualFunc_Value_values_Refines' ih_slices_EqualFunc_Value_values_Refines b x_25 a r hF
    unfold values_Refines_k1.M
    refine nd (by decide) _ _ _ ?_
    (conv => whnf)
    refine branch_hF hF (fun hc8 hF => ?_) (fun hc8 hF => ?_)
    · refine AWP.seq ?_
      refine nd (by decide) _ _ _ ?_
      (repeat (first | ((conv => whnf); (with_reducible refine And.intro ?_ ?_); (focus (first | exact Eq.refl _ | exact trivial | exact Int.natCast_nonneg _ | assumption | exact Nat.le_of_ble_eq_true (Eq.refl true) | decide))))); (conv => whnf)
      obtain rfl := some_eq hF
      refine nd (by decide) _ _ _ ?_
      (repeat (first | ((conv => whnf); (with_reducible refine And.intro ?_ ?_); (focus (first | exact Eq.refl _ | exact trivial | exact Int.natCast_nonneg _ | assumption | exact Nat.le_of_ble_eq_true (Eq.refl true) | decide))))); (conv => whnf)
      exact Exists.intro (rn []) (WS.mk (wt_cons (wd_c (WE.refl _)) wt_nil) wb_nil)
    · refine AWP.seq ?_
      refine nd (by decide) _ _ _ ?_
      (repeat (first | ((conv => whnf); (with_reducible refine And.intro ?_ ?_); (focus (first | exact Eq.refl _ | exact trivial | exact Int.natCast_nonneg _ | assumption | exact Nat.le_of_ble_eq_true (Eq.refl true) | decide))))); (conv => whnf)
      refine nd (by decide) _ _ _ ?_
      (conv => whnf)
      refine branch_hF hF (fun hc9 hF => ?_) (fun hc9 hF => ?_)
      · refine AWP.seq ?_
        refine nd (by decide) _ _ _ ?_
        (repeat (first | ((conv => whnf); (with_reducible refine And.intro ?_ ?_); (focus (first | exact Eq.refl _ | exact trivial | exact Int.natCast_nonneg _ | assumption | exact Nat.le_of_ble_eq_true (Eq.refl true) | decide))))); (conv => whnf)
        obtain rfl := some_eq hF
        refine nd (by decide) _ _ _ ?_
        (repeat (first | ((conv => whnf); (with_reducible refine And.intro ?_ ?_); (focus (first | exact Eq.refl _ | exact trivial | exact Int.natCast_nonneg _ | assumption | exact Nat.le_of_ble_eq_true (Eq.refl true) | decide))))); (conv => whnf)
        exact Exists.intro (rn []) (WS.mk (wt_cons (wd_c (WE.refl _)) wt_nil) wb_nil)
      · refine AWP.seq ?_
        refine nd (by decide) _ _ _ ?_
        (repeat (first | ((conv => whnf); (with_reducible refine And.intro ?_ ?_); (focus (first | exact Eq.refl _ | exact trivial | exact Int.natCast_nonneg _ | assumption | exact Nat.le_of_ble_eq_true (Eq.refl true) | decide))))); (conv => whnf)
        refine nd (by decide) _ _ _ ?_
        (conv => whnf)
        refine branch_hF hF (fun hc10 hF => ?_) (fun hc10 hF => ?_)
        · refine AWP.seq ?_
          obtain ⟨r11, hr11, hF⟩ := bind_some hF
          refine nd (by decide) _ _ _ ?_
          (repeat (first | ((conv => whnf); (with_reducible refine And.intro ?_ ?_); (focus (first | exact Eq.refl _ | exact trivial | exact Int.natCast_nonneg _ | assumption | exact Nat.le_of_ble_eq_true (Eq.refl true) | decide))))); (conv => whnf)
          refine Exists.intro [] ?_
          (repeat (first | ((conv => whnf); (with_reducible refine And.intro ?_ ?_); (focus (first | exact Eq.refl _ | exact trivial | exact Int.natCast_nonneg _ | assumption | exact Nat.le_of_ble_eq_true (Eq.refl true) | decide))))); (conv => whnf)
          refine CallsX.mono (CallsX.weak (rn []) (values_Within_ok a.fSet b.fSet _ hr11) rfl (WS.mk (wt_cons (wd_agg (wl_cons (WE.refl _) (wl_cons (WE.refl _) wl_nil))) (wt_cons (wd_agg (wl_cons (WE.refl _) (wl_cons (WE.refl _) wl_nil))) wt_nil)) wb_nil)) ?_
          rintro d b ⟨rfl, rfl⟩
          (repeat (first | ((conv => whnf); (with_reducible refine And.intro ?_ ?_); (focus (first | exact Eq.refl _ | exact trivial | exact Int.natCast_nonneg _ | assumption | exact Nat.le_of_ble_eq_true (Eq.refl true) | decide))))); (conv => whnf)
          (repeat (first | ((conv => whnf); (with_reducible refine And.intro ?_ ?_); (focus (first | exact Eq.refl _ | exact trivial | exact Int.natCast_nonneg _ | assumption | exact Nat.le_of_ble_eq_true (Eq.refl true) | decide))))); (conv => whnf)
          obtain rfl := some_eq hF
          refine nd (by decide) _ _ _ ?_
          (repeat (first | ((conv => whnf); (with_reducible refine And.intro ?_ ?_); (focus (first | exact Eq.refl _ | exact trivial | exact Int.natCast_nonneg _ | assumption | exact Nat.le_of_ble_eq_true (Eq.refl true) | decide))))); (conv => whnf)
          exact Exists.intro (rn []) (WS.mk (wt_cons (wd_c (WE.refl _)) wt_nil) wb_nil)
        · refine AWP.seq ?_
          refine nd (by decide) _ _ _ ?_
          (repeat (first | ((conv => whnf); (with_reducible refine And.intro ?_ ?_); (focus (first | exact Eq.refl _ | exact trivial | exact Int.natCast_nonneg _ | assumption | exact Nat.le_of_ble_eq_true (Eq.refl true) | decide))))); (conv => whnf)
          refine nd (by decide) _ _ _ ?_
          (conv => whnf)
          refine branch_hF hF (fun hc12 hF => ?_) (fun hc12 hF => ?_)
          · refine AWP.seq ?_
            obtain ⟨c14, hc14, hF⟩ := bind_some hF
            refine AWP.cutN (fun T => ∃ r, WS r T ⟨[(4, .c none (.v (.bool c14)))], []⟩) ?_ (fun T hw => ?_)
            · refine nd (by decide) _ _ _ ?_
              (repeat (first | ((conv => whnf); (with_reducible refine And.intro ?_ ?_); (focus (first | exact Eq.refl _ | exact trivial | exact Int.natCast_nonneg _ | assumption | exact Nat.le_of_ble_eq_true (Eq.refl true) | decide))))); (conv => whnf)
              refine branchG_intro true (fun hc15 => ?_) (fun hc15 => ?_)
              · have hc14 := if_then (by first | assumption | exact Eq.refl _ | simp only [hc15, Bool.and_true, Bool.true_and, Bool.and_false, Bool.false_and, Bool.or_true, Bool.true_or, Bool.or_false, Bool.false_or, Bool.not_true, Bool.not_false, cond_true, cond_false, List.length_map]) hc14
                obtain ⟨r13, hr13, hc14⟩ := bind_some hc14
                (conv => whnf)
                (repeat (first | ((conv => whnf); (with_reducible refine And.intro ?_ ?_); (focus (first | exact Eq.refl _ | exact trivial | exact Int.natCast_nonneg _ | assumption | exact Nat.le_of_ble_eq_true (Eq.refl true) | decide))))); (conv => whnf)
                refine Exists.intro [] ?_
                (repeat (first | ((conv => whnf); (with_reducible refine And.intro ?_ ?_); (focus (first | exact Eq.refl _ | exact trivial | exact Int.natCast_nonneg _ | assumption | exact Nat.le_of_ble_eq_true (Eq.refl true) | decide))))); (conv => whnf)
                refine CallsX.mono (CallsX.weak (rn []) (ih_slices_EqualFunc_Value_values_Refines a.fKids b.fKids _ hr13) rfl (WS.mk (wt_cons (wd_c (WE.refl _)) (wt_cons (wd_c (WE.refl _)) (wt_cons (wd_c (WE.refl _)) wt_nil))) wb_nil)) ?_
                rintro d b ⟨rfl, rfl⟩
                (repeat (first | ((conv => whnf); (with_reducible refine And.intro ?_ ?_); (focus (first | exact Eq.refl _ | exact trivial | exact Int.natCast_nonneg _ | assumption | exact Nat.le_of_ble_eq_true (Eq.refl true) | decide))))); (conv => whnf)
                obtain rfl := some_eq hc14
                (repeat (first | ((conv => whnf); (with_reducible refine And.intro ?_ ?_); (focus (first | exact Eq.refl _ | exact trivial | exact Int.natCast_nonneg _ | assumption | exact Nat.le_of_ble_eq_true (Eq.refl true) | decide))))); (conv => whnf)
                exact Exists.intro (rn []) (WS.mk (wt_cons (wd_c (we_b (by first | exact Eq.refl _ | simp only [hc15, Bool.and_true, Bool.true_and, Bool.and_false, Bool.false_and, Bool.or_true, Bool.true_or, Bool.or_false, Bool.false_or, Bool.not_true, Bool.not_false, cond_true, cond_false, List.length_map]))) wt_nil) wb_nil)
              · have hc14 := if_else (by first | assumption | exact Eq.refl _ | simp only [hc15, Bool.and_true, Bool.true_and, Bool.and_false, Bool.false_and, Bool.or_true, Bool.true_or, Bool.or_false, Bool.false_or, Bool.not_true, Bool.not_false, cond_true, cond_false, List.length_map]) hc14
                (conv => whnf)
                obtain rfl := some_eq hc14
                (repeat (first | ((conv => whnf); (with_reducible refine And.intro ?_ ?_); (focus (first | exact Eq.refl _ | exact trivial | exact Int.natCast_nonneg _ | assumption | exact Nat.le_of_ble_eq_true (Eq.refl true) | decide))))); (conv => whnf)
                exact Exists.intro (rn []) (WS.mk (wt_cons (wd_c (we_b (by first | exact Eq.refl _ | simp only [hc15, Bool.and_true, Bool.true_and, Bool.and_false, Bool.false_and, Bool.or_true, Bool.true_or, Bool.or_false, Bool.false_or, Bool.not_true, Bool.not_false, cond_true, cond_false, List.length_map]))) wt_nil) wb_nil)
            obtain ⟨r0, hw⟩ := hw
            (conv => whnf)
            refine AWP.weak r0 hw ?_
            obtain rfl := some_eq hF
            refine nd (by decide) _ _ _ ?_
            (repeat (first | ((conv => whnf); (with_reducible refine And.intro ?_ ?_); (focus (first | exact Eq.refl _ | exact trivial | exact Int.natCast_nonneg _ | assumption | exact Nat.le_of_ble_eq_true (Eq.refl true) | decide))))); (conv => whnf)
            exact Exists.intro (rn []) (WS.mk (wt_cons (wd_c (WE.refl _)) wt_nil) wb_nil)
          · refine nd (by decide) _ _ _ ?_
            (conv => whnf)
            refine AWP.seq ?_
            refine nd (by decide) _ _ _ ?_
            (repeat (first | ((conv => whnf); (with_reducible refine And.intro ?_ ?_); (focus (first | exact Eq.refl _ | exact trivial | exact Int.natCast_nonneg _ | assumption | exact Nat.le_of_ble_eq_true (Eq.refl true) | decide))))); (conv => whnf)
            obtain rfl := some_eq hF
            refine nd (by decide) _ _ _ ?_
            (repeat (first | ((conv => whnf); (with_reducible refine And.intro ?_ ?_); (focus (first | exact Eq.refl _ | exact trivial | exact Int.natCast_nonneg _ | assumption | exact Nat.le_of_ble_eq_true (Eq.refl true) | decide))))); (conv => whnf)
            exact Exists.intro (rn []) (WS.mk (wt_cons (wd_c (WE.refl _)) wt_nil) wb_nil)
  · intro slices_EqualFunc_Value_values_Refines_l1' ih_slices_EqualFunc_Value_values_Refines_l1 s1_ s2_ r hF
    unfold slices_EqualFunc_Value_values_Refines.M
    refine enter tabOk Tryd.func40 rfl (by decide) (Nat.le_of_ble_eq_true rfl) rfl rfl rfl ?_
    refine AWP.seq ?_
    refine nd (by decide) _ _ _ ?_
    (repeat (first | ((conv => whnf); (with_reducible refine And.intro ?_ ?_); (focus (first | exact Eq.refl _ | exact trivial | exact Int.natCast_nonneg _ | assumption | exact Nat.le_of_ble_eq_true (Eq.refl true) | decide))))); (conv => whnf)
    refine AWP.seq ?_
    refine AWP.seq ?_
    refine nd (by decide) _ _ _ ?_
    (repeat (first | ((conv => whnf); (with_reducible refine And.intro ?_ ?_); (focus (first | exact Eq.refl _ | exact trivial | exact Int.natCast_nonneg _ | assumption | exact Nat.le_of_ble_eq_true (Eq.refl true) | decide))))); (conv => whnf)
    intro hlen4
    (try rw [List.length_map] at hlen4)
    (try rw [List.length_map])
    (repeat (first | ((conv => whnf); (with_reducible refine And.intro ?_ ?_); (focus (first | exact Eq.refl _ | exact trivial | exact Int.natCast_nonneg _ | assumption | exact Nat.le_of_ble_eq_true (Eq.refl true) | decide))))); (conv => whnf)
    intro hlen5
    (try rw [List.length_map] at hlen5)
    (try rw [List.length_map])
    (repeat (first | ((conv => whnf); (with_reducible refine And.intro ?_ ?_); (focus (first | exact Eq.refl _ | exact trivial | exact Int.natCast_nonneg _ | assumption | exact Nat.le_of_ble_eq_true (Eq.refl true) | decide))))); (conv => whnf)
    refine nd (by decide) _ _ _ ?_
    (conv => whnf)
    refine branch_hF hF (fun hc6 hF => ?_) (fun hc6 hF => ?_)
    · refine AWP.seq ?_
      refine nd (by decide) _ _ _ ?_
      (repeat (first | ((conv => whnf); (with_reducible refine And.intro ?_ ?_); (focus (first | exact Eq.refl _ | exact trivial | exact Int.natCast_nonneg _ | assumption | exact Nat.le_of_ble_eq_true (Eq.refl true) | decide))))); (conv => whnf)
      obtain rfl := some_eq hF
      refine nd (by decide) _ _ _ ?_
      (repeat (first | ((conv => whnf); (with_reducible refine And.intro ?_ ?_); (focus (first | exact Eq.refl _ | exact trivial | exact Int.natCast_nonneg _ | assumption | exact Nat.le_of_ble_eq_true (Eq.refl true) | decide))))); (conv => whnf)
      exact Exists.intro (rn []) (WS.mk (wt_cons (wd_c (WE.refl _)) wt_nil) wb_nil)
    · refine nd (by decide) _ _ _ ?_
      (conv => whnf)
      refine AWP.seq ?_
      refine AWP.seq ?_
      refine nd (by decide) _ _ _ ?_
      (repeat (first | ((conv => whnf); (with_reducible refine And.intro ?_ ?_); (focus (first | exact Eq.refl _ | exact trivial | exact Int.natCast_nonneg _ | assumption | exact Nat.le_of_ble_eq_true (Eq.refl true) | decide))))); (conv => whnf)
      intro hlen7
      (try rw [List.length_map] at hlen7)
      (try rw [List.length_map])
      (repeat (first | ((conv => whnf); (with_reducible refine And.intro ?_ ?_); (focus (first | exact Eq.refl _ | exact trivial | exact Int.natCast_nonneg _ | assumption | exact Nat.le_of_ble_eq_true (Eq.refl true) | decide))))); (conv => whnf)
      refine AWP.block ?_
      refine AWP.loop ?_
      refine AWL.weak (rn []) ?_ (ih_slices_EqualFunc_Value_values_Refines_l1 s2_ s1_ 0 s1_ _ hF ([]) rfl rfl hlen7 hlen5)
      exact (WS.mk (wt_cons (wd_c (WE.refl _)) (wt_cons (wd_c (WE.refl _)) (wt_cons (wd_c (WE.refl _)) (wt_cons (wd_c (WE.refl _)) (wt_cons (wd_c (WE.refl _)) wt_nil))))) wb_nil)
  · intro values_Refines' slices_EqualFunc_Value_values_Refines_l1' ih_values_Refines ih_slices_EqualFunc_Value_values_Refines_l1 s2_ s1_ x_17 x_17_s_ r hF
    unfold slices_EqualFunc_Value_values_Refines_l1.M
    intro pre_x_17 hs_x_17 hk_x_17 hlen7 hlen5
    refine AWL.step ?_
    refine AWP.seq ?_
    refine nd (by decide) _ _ _ ?_
    (repeat (first | ((conv => whnf); (with_reducible refine And.intro ?_ ?_); (focus (first | exact Eq.refl _ | exact trivial | exact Int.natCast_nonneg _ | assumption | exact Nat.le_of_ble_eq_true (Eq.refl true) | decide))))); (conv => whnf)
    refine AWP.seq ?_
    refine nd (by decide) _ _ _ ?_
    (conv => whnf)
    refine branch_list hs_x_17 hk_x_17 (fun x21 xs22 hp23 hx23 hl23 => ?_) (fun hp23 => ?_)
    · subst hp23
      refine nd (by decide) _ _ _ ?_
      (conv => whnf)
      refine AWP.seq ?_
      refine AWP.block ?_
      refine AWP.seq ?_
      refine nd (by decide) _ _ _ ?_
      (repeat (first | ((conv => whnf); (with_reducible refine And.intro ?_ ?_); (focus (first | exact Eq.refl _ | exact trivial | exact Int.natCast_nonneg _ | assumption | exact Nat.le_of_ble_eq_true (Eq.refl true) | decide))) | ((conv => whnf); rw [map_get (TValue.cells_eq x21) hx23]))); (conv => whnf)
      (repeat (first | ((conv => whnf); (with_reducible refine And.intro ?_ ?_); (focus (first | exact Eq.refl _ | exact trivial | exact Int.natCast_nonneg _ | assumption | exact Nat.le_of_ble_eq_true (Eq.refl true) | decide))))); (conv => whnf)
      refine AWP.seq ?_
      obtain ⟨x24, hx24, hF⟩ := bind_some hF
      refine nd (by decide) _ _ _ ?_
      (repeat (first | ((conv => whnf); (with_reducible refine And.intro ?_ ?_); (focus (first | exact Eq.refl _ | exact trivial | exact Int.natCast_nonneg _ | assumption | exact Nat.le_of_ble_eq_true (Eq.refl true) | decide))) | ((conv => whnf); rw [map_get (TValue.cells_eq x24) hx24]))); (conv => whnf)
      (repeat (first | ((conv => whnf); (with_reducible refine And.intro ?_ ?_); (focus (first | exact Eq.refl _ | exact trivial | exact Int.natCast_nonneg _ | assumption | exact Nat.le_of_ble_eq_true (Eq.refl true) | decide))))); (conv => whnf)
      refine AWP.seq ?_
      obtain ⟨r25, hr25, hF⟩ := bind_some hF
      refine nd (by decide) _ _ _ ?_
      (repeat (first | ((conv => whnf); (with_reducible refine And.intro ?_ ?_); (focus (first | exact Eq.refl _ | exact trivial | exact Int.natCast_nonneg _ | assumption | exact Nat.le_of_ble_eq_true (Eq.refl true) | decide))))); (conv => whnf)
      refine Exists.intro [] ?_
      (repeat (first | ((conv => whnf); (with_reducible refine And.intro ?_ ?_); (focus (first | exact Eq.refl _ | exact trivial | exact Int.natCast_nonneg _ | assumption | exact Nat.le_of_ble_eq_true (Eq.refl true) | decide))))); (conv => whnf)
      refine CallsX.mono (CallsX.weak (rn []) (ih_values_Refines x21 x24 _ hr25) rfl (WS.mk (wt_cons (wd_agg (wl_cons (WE.refl _) (wl_cons (WE.refl _) (wl_cons (WE.refl _) (wl_cons (WE.refl _) (wl_cons (WE.refl _) (wl_cons (WE.refl _) wl_nil))))))) (wt_cons (wd_agg (wl_cons (WE.refl _) (wl_cons (WE.refl _) (wl_cons (WE.refl _) (wl_cons (WE.refl _) (wl_cons (WE.refl _) (wl_cons (WE.refl _) wl_nil))))))) wt_nil)) wb_nil)) ?_
      rintro d b ⟨rfl, rfl⟩
      (repeat (first | ((conv => whnf); (with_reducible refine And.intro ?_ ?_); (focus (first | exact Eq.refl _ | exact trivial | exact Int.natCast_nonneg _ | assumption | exact Nat.le_of_ble_eq_true (Eq.refl true) | decide))))); (conv => whnf)
      (repeat (first | ((conv => whnf); (with_reducible refine And.intro ?_ ?_); (focus (first | exact Eq.refl _ | exact trivial | exact Int.natCast_nonneg _ | assumption | exact Nat.le_of_ble_eq_true (Eq.refl true) | decide))))); (conv => whnf)
      refine nd (by decide) _ _ _ ?_
      (conv => whnf)
      refine branch_hF hF (fun hc26 hF => ?_) (fun hc26 hF => ?_)
      · refine AWP.seq ?_
        refine nd (by decide) _ _ _ ?_
        (repeat (first | ((conv => whnf); (with_reducible refine And.intro ?_ ?_); (focus (first | exact Eq.refl _ | exact trivial | exact Int.natCast_nonneg _ | assumption | exact Nat.le_of_ble_eq_true (Eq.refl true) | decide))))); (conv => whnf)
        obtain rfl := some_eq hF
        refine nd (by decide) _ _ _ ?_
        (repeat (first | ((conv => whnf); (with_reducible refine And.intro ?_ ?_); (focus (first | exact Eq.refl _ | exact trivial | exact Int.natCast_nonneg _ | assumption | exact Nat.le_of_ble_eq_true (Eq.refl true) | decide))))); (conv => whnf)
        exact Exists.intro (rn []) (WS.mk (wt_cons (wd_c (WE.refl _)) wt_nil) wb_nil)
      · refine nd (by decide) _ _ _ ?_
        (conv => whnf)
        refine nd (by decide) _ _ _ ?_
        (repeat (first | ((conv => whnf); (with_reducible refine And.intro ?_ ?_); (focus (first | exact Eq.refl _ | exact trivial | exact Int.natCast_nonneg _ | assumption | exact Nat.le_of_ble_eq_true (Eq.refl true) | decide))))); (conv => whnf)
        refine AWL.weak (rn []) ?_ (ih_slices_EqualFunc_Value_values_Refines_l1 s2_ s1_ (x_17 + 1) xs22 _ hF (pre_x_17 ++ [x21]) (by rw [hs_x_17]; simp) (by rw [hk_x_17]; simp) hlen7 hlen5)
        exact (WS.mk (wt_cons (wd_c (WE.refl _)) (wt_cons (wd_c (WE.refl _)) (wt_cons (wd_c (WE.refl _)) (wt_cons (wd_c (WE.refl _)) (wt_cons (wd_c (we_i (wrap_succ hlen7 hl23))) wt_nil))))) wb_nil)
    · subst hp23
      refine nd (by decide) _ _ _ ?_
      (conv => whnf)
      refine AWP.seq ?_
      refine nd (by decide) _ _ _ ?_
      (repeat (first | ((conv => whnf); (with_reducible refine And.intro ?_ ?_); (focus (first | exact Eq.refl _ | exact trivial | exact Int.natCast_nonneg _ | assumption | exact Nat.le_of_ble_eq_true (Eq.refl true) | decide))))); (conv => whnf)
      obtain rfl := some_eq hF
      refine nd (by decide) _ _ _ ?_
      (repeat (first | ((conv => whnf); (with_reducible refine And.intro ?_ ?_); (focus (first | exact Eq.refl _ | exact trivial | exact Int.natCast_nonneg _ | assumption | exact Nat.le_of_ble_eq_true (Eq.refl true) | decide))))); (conv => whnf)
      exact Exists.intro (rn []) (WS.mk (wt_cons (wd_c (WE.refl _)) wt_nil) wb_nil)
theorem values_Refines_ok : ∀ (a : TValue) (b : TValue), ∀ r, values_Refines a b = some r → values_Refines.M a b r := values_Refines_all.1
theorem values_Refines_k1_ok : ∀ (b : TValue) (x_25 : Bool) (a : TValue), ∀ r, values_Refines_k1 b x_25 a = some r → values_Refines_k1.M b x_25 a r := values_Refines_all.2.1
theorem slices_EqualFunc_Value_values_Refines_ok : ∀ (s1_ : (List TValue)) (s2_ : (List TValue)), ∀ r, slices_EqualFunc_Value_values_Refines s1_ s2_ = some r → slices_EqualFunc_Value_values_Refines.M s1_ s2_ r := values_Refines_all.2.2.1
theorem slices_EqualFunc_Value_values_Refines_l1_ok : ∀ (s2_ : (List TValue)) (s1_ : (List TValue)) (x_17 : Nat) (x_17_s_ : (List TValue)), ∀ r, slices_EqualFunc_Value_values_Refines_l1 s2_ s1_ x_17 x_17_s_ = some r → slices_EqualFunc_Value_values_Refines_l1.M s2_ s1_ x_17 x_17_s_ r := values_Refines_all.2.2.2
end Go.Proofs.YtafniolcakiljaaDoor

set_option linter.unusedVariables false
set_option linter.unusedSimpArgs false
set_option maxRecDepth 100000
set_option maxHeartbeats 4000000
namespace Go.Proofs.YtafniolcakiljaaDoor
open Go Go.Am
def lazycref25_Has_l1 (i_5 : Nat) (s : TExcSet) (e : TExc) (i_5_s_ : (List TExc)) : Option (Bool) :=
  (match i_5_s_ with
  | x16 :: xs17 =>
  if ((x16.fCon.toList == e.fCon.toList) && ((x16.fN == e.fN) && true)) = true then
  some true
  else
  lazycref25_Has_l1 (i_5 + 1) s e xs17
  | [] =>
  some s.fAll)
  partial_fixpoint
def lazycref25_Has_l1.M (i_5 : Nat) (s : TExcSet) (e : TExc) (i_5_s_ : (List TExc)) (r : Bool) : Prop :=
  ∀ pre_i_5 : List TExc, s.fList = pre_i_5 ++ i_5_s_ → i_5 = pre_i_5.length → AWL Tryd.prog 22 (Code.sub (bodyOf Tryd.f34) [1, 0, 1, 0, 0]) (Code.cont Tryd.prog 22 (bodyOf Tryd.f34) [1, 0, 1, 0] (endK tab Tryd.f34.results [] (WRes (.c none (.v (.bool r))) []))) ⟨[(2, .ptr 2 0), (3, .ptr 3 0), (5, .c none (.v (.int .i64 ((i_5 : Nat) : Int))))], [(2, [(none, .v (.bool s.fAll)), (none, .sl (s.fList.map TExc.cells))]), (3, [(none, .v (.string e.fCon)), (none, .v (.int .i64 e.fN))])]⟩
theorem lazycref25_Has_l1_ok (i_5 : Nat) (s : TExcSet) (e : TExc) (i_5_s_ : (List TExc)) : ∀ r, lazycref25_Has_l1 i_5 s e i_5_s_ = some r → lazycref25_Has_l1.M i_5 s e i_5_s_ r := by
  refine lazycref25_Has_l1.partial_correctness s e (fun i_5 i_5_s_ r => lazycref25_Has_l1.M i_5 s e i_5_s_ r) ?_ i_5 i_5_s_
  intro lazycref25_Has_l1' ih0_lazycref25_Has_l1 i_5 i_5_s_ r hF
  have ih_lazycref25_Has_l1 := fun (i_5 : Nat) (_s : TExcSet) (_e : TExc) (i_5_s_ : (List TExc)) => ih0_lazycref25_Has_l1 i_5 i_5_s_
  clear ih0_lazycref25_Has_l1
  unfold lazycref25_Has_l1.M
  intro pre_i_5 hs_i_5 hk_i_5
  refine AWL.step ?_
  refine AWP.seq ?_
  refine AWP.seq ?_
  refine nd (by decide) _ _ _ ?_
  (repeat (first | ((conv => whnf); (with_reducible refine And.intro ?_ ?_); (focus (first | exact Eq.refl _ | exact trivial | exact Int.natCast_nonneg _ | assumption | exact Nat.le_of_ble_eq_true (Eq.refl true) | decide))))); (conv => whnf)
  intro hlen15
  (try rw [List.length_map] at hlen15)
  (try rw [List.length_map])
  (repeat (first | ((conv => whnf); (with_reducible refine And.intro ?_ ?_); (focus (first | exact Eq.refl _ | exact trivial | exact Int.natCast_nonneg _ | assumption | exact Nat.le_of_ble_eq_true (Eq.refl true) | decide))))); (conv => whnf)
  refine nd (by decide) _ _ _ ?_
  (conv => whnf)
  refine branch_list hs_i_5 hk_i_5 (fun x16 xs17 hp18 hx18 hl18 => ?_) (fun hp18 => ?_)
  · subst hp18
    refine nd (by decide) _ _ _ ?_
    (conv => whnf)
    refine AWP.seq ?_
    refine AWP.block ?_
    refine AWP.seq ?_
    refine nd (by decide) _ _ _ ?_
    refine Exists.intro 6 (Exists.intro [[], [], [], [], [], []] (Exists.intro [([13, 14, 15, 16, 17, 18], [], []), ([14, 15, 16, 17, 18], [], []), ([13, 14, 15, 16, 17, 18], [], []), ([16, 17, 18], [], []), ([17, 18], [], []), ([13, 14, 15, 16, 17, 18], [], [])] (Exists.intro [13, 14, 15, 16, 17, 18] (And.intro (by decide +kernel) ?_))))
    ((repeat (first | ((conv => whnf); (with_reducible refine And.intro ?_ ?_); (focus (first | exact Eq.refl _ | exact trivial | exact Int.natCast_nonneg _ | assumption | exact Nat.le_of_ble_eq_true (Eq.refl true) | decide))))); (conv => whnf); apply Exists.intro; apply Exists.intro; apply And.intro; (focus (((repeat (first | ((conv => whnf); (with_reducible refine And.intro ?_ ?_); (focus (first | exact Eq.refl _ | exact trivial | exact Int.natCast_nonneg _ | assumption | exact Nat.le_of_ble_eq_true (Eq.refl true) | decide))))); (conv => whnf)) <;> (exact rfl))); apply And.intro; (focus exact rfl); (conv => whnf))
    ((repeat (first | ((conv => whnf); (with_reducible refine And.intro ?_ ?_); (focus (first | exact Eq.refl _ | exact trivial | exact Int.natCast_nonneg _ | assumption | exact Nat.le_of_ble_eq_true (Eq.refl true) | decide))))); (conv => whnf); apply Exists.intro; apply Exists.intro; apply And.intro; (focus (((repeat (first | ((conv => whnf); (with_reducible refine And.intro ?_ ?_); (focus (first | exact Eq.refl _ | exact trivial | exact Int.natCast_nonneg _ | assumption | exact Nat.le_of_ble_eq_true (Eq.refl true) | decide))))); (conv => whnf)) <;> (exact rfl))); apply And.intro; (focus exact rfl); (conv => whnf))
    ((repeat (first | ((conv => whnf); (with_reducible refine And.intro ?_ ?_); (focus (first | exact Eq.refl _ | exact trivial | exact Int.natCast_nonneg _ | assumption | exact Nat.le_of_ble_eq_true (Eq.refl true) | decide))))); (conv => whnf); apply Exists.intro; apply Exists.intro; apply And.intro; (focus (((repeat (first | ((conv => whnf); (with_reducible refine And.intro ?_ ?_); (focus (first | exact Eq.refl _ | exact trivial | exact Int.natCast_nonneg _ | assumption | exact Nat.le_of_ble_eq_true (Eq.refl true) | decide))))); (conv => whnf)) <;> (exact rfl))); apply And.intro; (focus exact rfl); (conv => whnf))
    ((repeat (first | ((conv => whnf); (with_reducible refine And.intro ?_ ?_); (focus (first | exact Eq.refl _ | exact trivial | exact Int.natCast_nonneg _ | assumption | exact Nat.le_of_ble_eq_true (Eq.refl true) | decide))))); (conv => whnf); apply Exists.intro; apply Exists.intro; apply And.intro; (focus (((repeat (first | ((conv => whnf); (with_reducible refine And.intro ?_ ?_); (focus (first | exact Eq.refl _ | exact trivial | exact Int.natCast_nonneg _ | assumption | exact Nat.le_of_ble_eq_true (Eq.refl true) | decide))))); (conv => whnf)) <;> (rw [map_get (TExc.cells_eq x16) hx18]) <;> ((repeat (first | ((conv => whnf); (with_reducible refine And.intro ?_ ?_); (focus (first | exact Eq.refl _ | exact trivial | exact Int.natCast_nonneg _ | assumption | exact Nat.le_of_ble_eq_true (Eq.refl true) | decide))))); (conv => whnf)) <;> (exact rfl))); apply And.intro; (focus exact rfl); (conv => whnf))
    ((repeat (first | ((conv => whnf); (with_reducible refine And.intro ?_ ?_); (focus (first | exact Eq.refl _ | exact trivial | exact Int.natCast_nonneg _ | assumption | exact Nat.le_of_ble_eq_true (Eq.refl true) | decide))))); (conv => whnf); apply Exists.intro; apply Exists.intro; apply And.intro; (focus (((repeat (first | ((conv => whnf); (with_reducible refine And.intro ?_ ?_); (focus (first | exact Eq.refl _ | exact trivial | exact Int.natCast_nonneg _ | assumption | exact Nat.le_of_ble_eq_true (Eq.refl true) | decide))))); (conv => whnf)) <;> (exact rfl))); apply And.intro; (focus exact rfl); (conv => whnf))
    ((repeat (first | ((conv => whnf); (with_reducible refine And.intro ?_ ?_); (focus (first | exact Eq.refl _ | exact trivial | exact Int.natCast_nonneg _ | assumption | exact Nat.le_of_ble_eq_true (Eq.refl true) | decide))))); (conv => whnf); apply Exists.intro; apply Exists.intro; apply And.intro; (focus (((repeat (first | ((conv => whnf); (with_reducible refine And.intro ?_ ?_); (focus (first | exact Eq.refl _ | exact trivial | exact Int.natCast_nonneg _ | assumption | exact Nat.le_of_ble_eq_true (Eq.refl true) | decide))))); (conv => whnf)) <;> (exact rfl))); apply And.intro; (focus exact rfl); (conv => whnf))
    (repeat (first | ((conv => whnf); (with_reducible refine And.intro ?_ ?_); (focus (first | exact Eq.refl _ | exact trivial | exact Int.natCast_nonneg _ | assumption | exact Nat.le_of_ble_eq_true (Eq.refl true) | decide))))); (conv => whnf)
    refine nd (by decide) _ _ _ ?_
    (conv => whnf)
    refine branch_hF hF (fun hc19 hF => ?_) (fun hc19 hF => ?_)
    · refine AWP.seq ?_
      refine nd (by decide) _ _ _ ?_
      (repeat (first | ((conv => whnf); (with_reducible refine And.intro ?_ ?_); (focus (first | exact Eq.refl _ | exact trivial | exact Int.natCast_nonneg _ | assumption | exact Nat.le_of_ble_eq_true (Eq.refl true) | decide))))); (conv => whnf)
      obtain rfl := some_eq hF
      refine nd (by decide) _ _ _ ?_
      (repeat (first | ((conv => whnf); (with_reducible refine And.intro ?_ ?_); (focus (first | exact Eq.refl _ | exact trivial | exact Int.natCast_nonneg _ | assumption | exact Nat.le_of_ble_eq_true (Eq.refl true) | decide))))); (conv => whnf)
      exact Exists.intro (rn []) (WS.mk (wt_cons (wd_c (WE.refl _)) wt_nil) wb_nil)
    · refine nd (by decide) _ _ _ ?_
      (conv => whnf)
      refine nd (by decide) _ _ _ ?_
      (repeat (first | ((conv => whnf); (with_reducible refine And.intro ?_ ?_); (focus (first | exact Eq.refl _ | exact trivial | exact Int.natCast_nonneg _ | assumption | exact Nat.le_of_ble_eq_true (Eq.refl true) | decide))))); (conv => whnf)
      refine AWL.weak (rn []) ?_ (ih_lazycref25_Has_l1 (i_5 + 1) s e xs17 _ hF (pre_i_5 ++ [x16]) (by rw [hs_i_5]; simp) (by rw [hk_i_5]; simp))
      exact (WS.mk (wt_cons wd_ptr (wt_cons wd_ptr (wt_cons (wd_c (we_i (wrap_succ hlen15 hl18))) wt_nil))) (wb_cons rfl (wc_c (WE.refl _) (wc_c (WE.refl _) wc_nil)) (wb_cons rfl (wc_c (WE.refl _) (wc_c (WE.refl _) wc_nil)) wb_nil)))
  · subst hp18
    refine nd (by decide) _ _ _ ?_
    (conv => whnf)
    refine AWP.seq ?_
    refine nd (by decide) _ _ _ ?_
    (repeat (first | ((conv => whnf); (with_reducible refine And.intro ?_ ?_); (focus (first | exact Eq.refl _ | exact trivial | exact Int.natCast_nonneg _ | assumption | exact Nat.le_of_ble_eq_true (Eq.refl true) | decide))))); (conv => whnf)
    obtain rfl := some_eq hF
    refine nd (by decide) _ _ _ ?_
    (repeat (first | ((conv => whnf); (with_reducible refine And.intro ?_ ?_); (focus (first | exact Eq.refl _ | exact trivial | exact Int.natCast_nonneg _ | assumption | exact Nat.le_of_ble_eq_true (Eq.refl true) | decide))))); (conv => whnf)
    exact Exists.intro (rn []) (WS.mk (wt_cons (wd_c (WE.refl _)) wt_nil) wb_nil)
end Go.Proofs.YtafniolcakiljaaDoor

set_option linter.unusedVariables false
set_option linter.unusedSimpArgs false
set_option maxRecDepth 100000
set_option maxHeartbeats 4000000
namespace Go.Proofs.YtafniolcakiljaaDoor
open Go Go.Am
def lazycref25_Has (s : TExcSet) (e : TExc) : Option (Bool) :=
  lazycref25_Has_l1 0 s e s.fList
def lazycref25_Has.M (s : TExcSet) (e : TExc) (r : Bool) : Prop :=
  CallsX Tryd.prog 34 [.agg [.v (.bool s.fAll), .sl (s.fList.map TExc.cells)], .agg [.v (.string e.fCon), .v (.int .i64 e.fN)]] [] (fun d b => d = .c none (.v (.bool r)) ∧ b = [])
theorem lazycref25_Has_ok (s : TExcSet) (e : TExc) (r : Bool) (hF : lazycref25_Has s e = some r) : lazycref25_Has.M s e r := by
  unfold lazycref25_Has at hF
  unfold lazycref25_Has.M
  refine enter tabOk Tryd.func34 rfl (by decide) (Nat.le_of_ble_eq_true rfl) rfl rfl rfl ?_
  refine AWP.seq ?_
  refine nd (by decide) _ _ _ ?_
  (repeat (first | ((conv => whnf); (with_reducible refine And.intro ?_ ?_); (focus (first | exact Eq.refl _ | exact trivial | exact Int.natCast_nonneg _ | assumption | exact Nat.le_of_ble_eq_true (Eq.refl true) | decide))))); (conv => whnf)
  refine AWP.seq ?_
  refine AWP.seq ?_
  refine nd (by decide) _ _ _ ?_
  (repeat (first | ((conv => whnf); (with_reducible refine And.intro ?_ ?_); (focus (first | exact Eq.refl _ | exact trivial | exact Int.natCast_nonneg _ | assumption | exact Nat.le_of_ble_eq_true (Eq.refl true) | decide))))); (conv => whnf)
  refine AWP.block ?_
  refine AWP.loop ?_
  refine AWL.weak (rn []) ?_ (lazycref25_Has_l1_ok 0 s e s.fList _ hF ([]) rfl rfl)
  exact (WS.mk (wt_cons wd_ptr (wt_cons wd_ptr (wt_cons (wd_c (WE.refl _)) wt_nil))) (wb_cons rfl (wc_c (WE.refl _) (wc_c (WE.refl _) wc_nil)) (wb_cons rfl (wc_c (WE.refl _) (wc_c (WE.refl _) wc_nil)) wb_nil)))
end Go.Proofs.YtafniolcakiljaaDoor

set_option linter.unusedVariables false
set_option linter.unusedSimpArgs false
set_option maxRecDepth 100000
set_option maxHeartbeats 4000000
namespace Go.Proofs.YtafniolcakiljaaDoor
open Go Go.Am
def lazycref25_Within_l1 (i_5 : Nat) (a : TExcSet) (b : TExcSet) (i_5_s_ : (List TExc)) : Option (Bool) :=
  (match i_5_s_ with
  | x21 :: xs22 =>
  lazycref25_Has b x21 >>= fun r24 =>
  if (!r24) = true then
  some false
  else
  lazycref25_Within_l1 (i_5 + 1) a b xs22
  | [] =>
  some true)
  partial_fixpoint
def lazycref25_Within_l1.M (i_5 : Nat) (a : TExcSet) (b : TExcSet) (i_5_s_ : (List TExc)) (r : Bool) : Prop :=
  ∀ pre_i_5 : List TExc, a.fList = pre_i_5 ++ i_5_s_ → i_5 = pre_i_5.length → AWL Tryd.prog 29 (Code.sub (bodyOf Tryd.f36) [1, 1, 0, 1, 0, 0]) (Code.cont Tryd.prog 29 (bodyOf Tryd.f36) [1, 1, 0, 1, 0] (endK tab Tryd.f36.results [] (WRes (.c none (.v (.bool r))) []))) ⟨[(2, .ptr 2 0), (3, .ptr 3 0), (5, .c none (.v (.int .i64 ((i_5 : Nat) : Int))))], [(2, [(none, .v (.bool a.fAll)), (none, .sl (a.fList.map TExc.cells))]), (3, [(none, .v (.bool b.fAll)), (none, .sl (b.fList.map TExc.cells))])]⟩
theorem lazycref25_Within_l1_ok (i_5 : Nat) (a : TExcSet) (b : TExcSet) (i_5_s_ : (List TExc)) : ∀ r, lazycref25_Within_l1 i_5 a b i_5_s_ = some r → lazycref25_Within_l1.M i_5 a b i_5_s_ r := by
  refine lazycref25_Within_l1.partial_correctness a b (fun i_5 i_5_s_ r => lazycref25_Within_l1.M i_5 a b i_5_s_ r) ?_ i_5 i_5_s_
  intro lazycref25_Within_l1' ih0_lazycref25_Within_l1 i_5 i_5_s_ r hF
  have ih_lazycref25_Within_l1 := fun (i_5 : Nat) (_a : TExcSet) (_b : TExcSet) (i_5_s_ : (List TExc)) => ih0_lazycref25_Within_l1 i_5 i_5_s_
  clear ih0_lazycref25_Within_l1
  unfold lazycref25_Within_l1.M
  intro pre_i_5 hs_i_5 hk_i_5
  refine AWL.step ?_
  refine AWP.seq ?_
  refine AWP.seq ?_
  refine nd (by decide) _ _ _ ?_
  (repeat (first | ((conv => whnf); (with_reducible refine And.intro ?_ ?_); (focus (first | exact Eq.refl _ | exact trivial | exact Int.natCast_nonneg _ | assumption | exact Nat.le_of_ble_eq_true (Eq.refl true) | decide))))); (conv => whnf)
  intro hlen20
  (try rw [List.length_map] at hlen20)
  (try rw [List.length_map])
  (repeat (first | ((conv => whnf); (with_reducible refine And.intro ?_ ?_); (focus (first | exact Eq.refl _ | exact trivial | exact Int.natCast_nonneg _ | assumption | exact Nat.le_of_ble_eq_true (Eq.refl true) | decide))))); (conv => whnf)
  refine nd (by decide) _ _ _ ?_
  (conv => whnf)
  refine branch_list hs_i_5 hk_i_5 (fun x21 xs22 hp23 hx23 hl23 => ?_) (fun hp23 => ?_)
  · subst hp23
    refine nd (by decide) _ _ _ ?_
    (conv => whnf)
    refine AWP.seq ?_
    refine AWP.block ?_
    refine AWP.seq ?_
    obtain ⟨r24, hr24, hF⟩ := bind_some hF
    refine nd (by decide) _ _ _ ?_
    refine Exists.intro 6 (Exists.intro [[], [], [], [], [], []] (Exists.intro [([21, 22, 23, 24, 25, 26], [], []), ([21, 22, 23, 24, 25, 26], [], []), ([21, 23, 24, 25, 26], [], []), ([21, 22, 23, 24, 25, 26], [], []), ([21, 25, 26], [], []), ([21, 26], [], [])] (Exists.intro [21, 22, 23, 24, 25, 26] (And.intro (by decide +kernel) ?_))))
    ((repeat (first | ((conv => whnf); (with_reducible refine And.intro ?_ ?_); (focus (first | exact Eq.refl _ | exact trivial | exact Int.natCast_nonneg _ | assumption | exact Nat.le_of_ble_eq_true (Eq.refl true) | decide))))); (conv => whnf); apply Exists.intro; apply Exists.intro; apply And.intro; (focus (((repeat (first | ((conv => whnf); (with_reducible refine And.intro ?_ ?_); (focus (first | exact Eq.refl _ | exact trivial | exact Int.natCast_nonneg _ | assumption | exact Nat.le_of_ble_eq_true (Eq.refl true) | decide))))); (conv => whnf)) <;> (exact rfl))); apply And.intro; (focus exact rfl); (conv => whnf))
    ((repeat (first | ((conv => whnf); (with_reducible refine And.intro ?_ ?_); (focus (first | exact Eq.refl _ | exact trivial | exact Int.natCast_nonneg _ | assumption | exact Nat.le_of_ble_eq_true (Eq.refl true) | decide))))); (conv => whnf); apply Exists.intro; apply Exists.intro; apply And.intro; (focus (((repeat (first | ((conv => whnf); (with_reducible refine And.intro ?_ ?_); (focus (first | exact Eq.refl _ | exact trivial | exact Int.natCast_nonneg _ | assumption | exact Nat.le_of_ble_eq_true (Eq.refl true) | decide))))); (conv => whnf)) <;> (exact rfl))); apply And.intro; (focus exact rfl); (conv => whnf))
    ((repeat (first | ((conv => whnf); (with_reducible refine And.intro ?_ ?_); (focus (first | exact Eq.refl _ | exact trivial | exact Int.natCast_nonneg _ | assumption | exact Nat.le_of_ble_eq_true (Eq.refl true) | decide))))); (conv => whnf); apply Exists.intro; apply Exists.intro; apply And.intro; (focus (((repeat (first | ((conv => whnf); (with_reducible refine And.intro ?_ ?_); (focus (first | exact Eq.refl _ | exact trivial | exact Int.natCast_nonneg _ | assumption | exact Nat.le_of_ble_eq_true (Eq.refl true) | decide))))); (conv => whnf)) <;> (exact rfl))); apply And.intro; (focus exact rfl); (conv => whnf))
    ((repeat (first | ((conv => whnf); (with_reducible refine And.intro ?_ ?_); (focus (first | exact Eq.refl _ | exact trivial | exact Int.natCast_nonneg _ | assumption | exact Nat.le_of_ble_eq_true (Eq.refl true) | decide))))); (conv => whnf); apply Exists.intro; apply Exists.intro; apply And.intro; (focus (((repeat (first | ((conv => whnf); (with_reducible refine And.intro ?_ ?_); (focus (first | exact Eq.refl _ | exact trivial | exact Int.natCast_nonneg _ | assumption | exact Nat.le_of_ble_eq_true (Eq.refl true) | decide))))); (conv => whnf)) <;> (exact rfl))); apply And.intro; (focus exact rfl); (conv => whnf))
    ((repeat (first | ((conv => whnf); (with_reducible refine And.intro ?_ ?_); (focus (first | exact Eq.refl _ | exact trivial | exact Int.natCast_nonneg _ | assumption | exact Nat.le_of_ble_eq_true (Eq.refl true) | decide))))); (conv => whnf); apply Exists.intro; apply Exists.intro; apply And.intro; (focus (((repeat (first | ((conv => whnf); (with_reducible refine And.intro ?_ ?_); (focus (first | exact Eq.refl _ | exact trivial | exact Int.natCast_nonneg _ | assumption | exact Nat.le_of_ble_eq_true (Eq.refl true) | decide))))); (conv => whnf)) <;> (rw [map_get (TExc.cells_eq x21) hx23]) <;> ((repeat (first | ((conv => whnf); (with_reducible refine And.intro ?_ ?_); (focus (first | exact Eq.refl _ | exact trivial | exact Int.natCast_nonneg _ | assumption | exact Nat.le_of_ble_eq_true (Eq.refl true) | decide))))); (conv => whnf)) <;> (exact rfl))); apply And.intro; (focus exact rfl); (conv => whnf))
    ((repeat (first | ((conv => whnf); (with_reducible refine And.intro ?_ ?_); (focus (first | exact Eq.refl _ | exact trivial | exact Int.natCast_nonneg _ | assumption | exact Nat.le_of_ble_eq_true (Eq.refl true) | decide))))); (conv => whnf); apply Exists.intro; apply Exists.intro; apply And.intro; (focus (((repeat (first | ((conv => whnf); (with_reducible refine And.intro ?_ ?_); (focus (first | exact Eq.refl _ | exact trivial | exact Int.natCast_nonneg _ | assumption | exact Nat.le_of_ble_eq_true (Eq.refl true) | decide))))); (conv => whnf)) <;> (exact rfl))); apply And.intro; (focus exact rfl); (conv => whnf))
    (repeat (first | ((conv => whnf); (with_reducible refine And.intro ?_ ?_); (focus (first | exact Eq.refl _ | exact trivial | exact Int.natCast_nonneg _ | assumption | exact Nat.le_of_ble_eq_true (Eq.refl true) | decide))))); (conv => whnf)
    refine Exists.intro [] ?_
    (repeat (first | ((conv => whnf); (with_reducible refine And.intro ?_ ?_); (focus (first | exact Eq.refl _ | exact trivial | exact Int.natCast_nonneg _ | assumption | exact Nat.le_of_ble_eq_true (Eq.refl true) | decide))))); (conv => whnf)
    refine CallsX.mono (CallsX.weak (rn []) (lazycref25_Has_ok b x21 _ hr24) rfl (WS.mk (wt_cons (wd_agg (wl_cons (WE.refl _) (wl_cons (WE.refl _) wl_nil))) (wt_cons (wd_agg (wl_cons (WE.refl _) (wl_cons (WE.refl _) wl_nil))) wt_nil)) wb_nil)) ?_
    rintro d b ⟨rfl, rfl⟩
    (repeat (first | ((conv => whnf); (with_reducible refine And.intro ?_ ?_); (focus (first | exact Eq.refl _ | exact trivial | exact Int.natCast_nonneg _ | assumption | exact Nat.le_of_ble_eq_true (Eq.refl true) | decide))))); (conv => whnf)
    (repeat (first | ((conv => whnf); (with_reducible refine And.intro ?_ ?_); (focus (first | exact Eq.refl _ | exact trivial | exact Int.natCast_nonneg _ | assumption | exact Nat.le_of_ble_eq_true (Eq.refl true) | decide))))); (conv => whnf)
    refine nd (by decide) _ _ _ ?_
    (conv => whnf)
    refine branch_hF hF (fun hc25 hF => ?_) (fun hc25 hF => ?_)
    · refine AWP.seq ?_
      refine nd (by decide) _ _ _ ?_
      (repeat (first | ((conv => whnf); (with_reducible refine And.intro ?_ ?_); (focus (first | exact Eq.refl _ | exact trivial | exact Int.natCast_nonneg _ | assumption | exact Nat.le_of_ble_eq_true (Eq.refl true) | decide))))); (conv => whnf)
      obtain rfl := some_eq hF
      refine nd (by decide) _ _ _ ?_
      (repeat (first | ((conv => whnf); (with_reducible refine And.intro ?_ ?_); (focus (first | exact Eq.refl _ | exact trivial | exact Int.natCast_nonneg _ | assumption | exact Nat.le_of_ble_eq_true (Eq.refl true) | decide))))); (conv => whnf)
      exact Exists.intro (rn []) (WS.mk (wt_cons (wd_c (WE.refl _)) wt_nil) wb_nil)
    · refine nd (by decide) _ _ _ ?_
      (conv => whnf)
      refine nd (by decide) _ _ _ ?_
      (repeat (first | ((conv => whnf); (with_reducible refine And.intro ?_ ?_); (focus (first | exact Eq.refl _ | exact trivial | exact Int.natCast_nonneg _ | assumption | exact Nat.le_of_ble_eq_true (Eq.refl true) | decide))))); (conv => whnf)
      refine AWL.weak (rn []) ?_ (ih_lazycref25_Within_l1 (i_5 + 1) a b xs22 _ hF (pre_i_5 ++ [x21]) (by rw [hs_i_5]; simp) (by rw [hk_i_5]; simp))
      exact (WS.mk (wt_cons wd_ptr (wt_cons wd_ptr (wt_cons (wd_c (we_i (wrap_succ hlen20 hl23))) wt_nil))) (wb_cons rfl (wc_c (WE.refl _) (wc_c (WE.refl _) wc_nil)) (wb_cons rfl (wc_c (WE.refl _) (wc_c (WE.refl _) wc_nil)) wb_nil)))
  · subst hp23
    refine nd (by decide) _ _ _ ?_
    (conv => whnf)
    refine AWP.seq ?_
    refine nd (by decide) _ _ _ ?_
    (repeat (first | ((conv => whnf); (with_reducible refine And.intro ?_ ?_); (focus (first | exact Eq.refl _ | exact trivial | exact Int.natCast_nonneg _ | assumption | exact Nat.le_of_ble_eq_true (Eq.refl true) | decide))))); (conv => whnf)
    obtain rfl := some_eq hF
    refine nd (by decide) _ _ _ ?_
    (repeat (first | ((conv => whnf); (with_reducible refine And.intro ?_ ?_); (focus (first | exact Eq.refl _ | exact trivial | exact Int.natCast_nonneg _ | assumption | exact Nat.le_of_ble_eq_true (Eq.refl true) | decide))))); (conv => whnf)
    exact Exists.intro (rn []) (WS.mk (wt_cons (wd_c (WE.refl _)) wt_nil) wb_nil)
end Go.Proofs.YtafniolcakiljaaDoor

set_option linter.unusedVariables false
set_option linter.unusedSimpArgs false
set_option maxRecDepth 100000
set_option maxHeartbeats 4000000
namespace Go.Proofs.YtafniolcakiljaaDoor
open Go Go.Am
def lazycref25_Within (a : TExcSet) (b : TExcSet) : Option (Bool) :=
  if (a.fAll || b.fAll) = true then
  some b.fAll
  else
  lazycref25_Within_l1 0 a b a.fList
def lazycref25_Within.M (a : TExcSet) (b : TExcSet) (r : Bool) : Prop :=
  CallsX Tryd.prog 36 [.agg [.v (.bool a.fAll), .sl (a.fList.map TExc.cells)], .agg [.v (.bool b.fAll), .sl (b.fList.map TExc.cells)]] [] (fun d b => d = .c none (.v (.bool r)) ∧ b = [])
theorem lazycref25_Within_ok (a : TExcSet) (b : TExcSet) (r : Bool) (hF : lazycref25_Within a b = some r) : lazycref25_Within.M a b r := by
  unfold lazycref25_Within at hF
  unfold lazycref25_Within.M
  refine enter tabOk Tryd.func36 rfl (by decide) (Nat.le_of_ble_eq_true rfl) rfl rfl rfl ?_
  refine AWP.seq ?_
  refine nd (by decide) _ _ _ ?_
  (repeat (first | ((conv => whnf); (with_reducible refine And.intro ?_ ?_); (focus (first | exact Eq.refl _ | exact trivial | exact Int.natCast_nonneg _ | assumption | exact Nat.le_of_ble_eq_true (Eq.refl true) | decide))))); (conv => whnf)
  refine AWP.seq ?_
  refine AWP.seq ?_
  refine AWP.cutN (fun T => ∃ r, WS r T ⟨[(2, .ptr 2 0), (3, .ptr 3 0), (11, .c none (.v (.bool (a.fAll || b.fAll))))], [(2, [(none, .v (.bool a.fAll)), (none, .sl (a.fList.map TExc.cells))]), (3, [(none, .v (.bool b.fAll)), (none, .sl (b.fList.map TExc.cells))])]⟩) ?_ (fun T hw => ?_)
  · refine nd (by decide) _ _ _ ?_
    (repeat (first | ((conv => whnf); (with_reducible refine And.intro ?_ ?_); (focus (first | exact Eq.refl _ | exact trivial | exact Int.natCast_nonneg _ | assumption | exact Nat.le_of_ble_eq_true (Eq.refl true) | decide))))); (conv => whnf)
    refine branchG_intro false (fun hc2 => ?_) (fun hc2 => ?_)
    · (conv => whnf)
      (repeat (first | ((conv => whnf); (with_reducible refine And.intro ?_ ?_); (focus (first | exact Eq.refl _ | exact trivial | exact Int.natCast_nonneg _ | assumption | exact Nat.le_of_ble_eq_true (Eq.refl true) | decide))))); (conv => whnf)
      exact Exists.intro (rn []) (WS.mk (wt_cons wd_ptr (wt_cons wd_ptr (wt_cons (wd_c (we_b (by first | exact Eq.refl _ | simp only [hc2, Bool.and_true, Bool.true_and, Bool.and_false, Bool.false_and, Bool.or_true, Bool.true_or, Bool.or_false, Bool.false_or, Bool.not_true, Bool.not_false, cond_true, cond_false, List.length_map]))) wt_nil))) (wb_cons rfl (wc_c (WE.refl _) (wc_c (WE.refl _) wc_nil)) (wb_cons rfl (wc_c (WE.refl _) (wc_c (WE.refl _) wc_nil)) wb_nil)))
    · (conv => whnf)
      (repeat (first | ((conv => whnf); (with_reducible refine And.intro ?_ ?_); (focus (first | exact Eq.refl _ | exact trivial | exact Int.natCast_nonneg _ | assumption | exact Nat.le_of_ble_eq_true (Eq.refl true) | decide))))); (conv => whnf)
      exact Exists.intro (rn []) (WS.mk (wt_cons wd_ptr (wt_cons wd_ptr (wt_cons (wd_c (we_b (by first | exact Eq.refl _ | simp only [hc2, Bool.and_true, Bool.true_and, Bool.and_false, Bool.false_and, Bool.or_true, Bool.true_or, Bool.or_false, Bool.false_or, Bool.not_true, Bool.not_false, cond_true, cond_false, List.length_map]))) wt_nil))) (wb_cons rfl (wc_c (WE.refl _) (wc_c (WE.refl _) wc_nil)) (wb_cons rfl (wc_c (WE.refl _) (wc_c (WE.refl _) wc_nil)) wb_nil)))
  obtain ⟨r0, hw⟩ := hw
  (conv => whnf)
  refine AWP.weak r0 hw ?_
  refine nd (by decide) _ _ _ ?_
  (conv => whnf)
  refine branch_hF hF (fun hc3 hF => ?_) (fun hc3 hF => ?_)
  · refine AWP.seq ?_
    refine nd (by decide) _ _ _ ?_
    (repeat (first | ((conv => whnf); (with_reducible refine And.intro ?_ ?_); (focus (first | exact Eq.refl _ | exact trivial | exact Int.natCast_nonneg _ | assumption | exact Nat.le_of_ble_eq_true (Eq.refl true) | decide))))); (conv => whnf)
    obtain rfl := some_eq hF
    refine nd (by decide) _ _ _ ?_
    (repeat (first | ((conv => whnf); (with_reducible refine And.intro ?_ ?_); (focus (first | exact Eq.refl _ | exact trivial | exact Int.natCast_nonneg _ | assumption | exact Nat.le_of_ble_eq_true (Eq.refl true) | decide))))); (conv => whnf)
    exact Exists.intro (rn []) (WS.mk (wt_cons (wd_c (WE.refl _)) wt_nil) wb_nil)
  · refine nd (by decide) _ _ _ ?_
    (conv => whnf)
    refine AWP.seq ?_
    refine AWP.seq ?_
    refine nd (by decide) _ _ _ ?_
    (repeat (first | ((conv => whnf); (with_reducible refine And.intro ?_ ?_); (focus (first | exact Eq.refl _ | exact trivial | exact Int.natCast_nonneg _ | assumption | exact Nat.le_of_ble_eq_true (Eq.refl true) | decide))))); (conv => whnf)
    refine AWP.block ?_
    refine AWP.loop ?_
    refine AWL.weak (rn []) ?_ (lazycref25_Within_l1_ok 0 a b a.fList _ hF ([]) rfl rfl)
    exact (WS.mk (wt_cons wd_ptr (wt_cons wd_ptr (wt_cons (wd_c (WE.refl _)) wt_nil))) (wb_cons rfl (wc_c (WE.refl _) (wc_c (WE.refl _) wc_nil)) (wb_cons rfl (wc_c (WE.refl _) (wc_c (WE.refl _) wc_nil)) wb_nil)))
end Go.Proofs.YtafniolcakiljaaDoor

set_option linter.unusedVariables false
set_option linter.unusedSimpArgs false
set_option maxRecDepth 100000
set_option maxHeartbeats 4000000
namespace Go.Proofs.YtafniolcakiljaaDoor
open Go Go.Am
mutual
def lazycref25_Refines (toArray : TValue) (a1_ : TValue) : Option (Bool) :=
  if ((a1_.fOp == 6) || ((a1_.fOp == 5) && a1_.fSet.fAll)) = true then
  some true
  else
  if (toArray.fOp != a1_.fOp) = true then
  some false
  else
  if (a1_.fOp == 1) = true then
  lazycref25_Refines_k1 a1_ (a1_.fOp == 1) toArray
  else
  lazycref25_Refines_k1 a1_ (a1_.fOp == 2) toArray
  partial_fixpoint
def lazycref25_Refines_k1 (a1_ : TValue) (x_26 : Bool) (toArray : TValue) : Option (Bool) :=
  if x_26 = true then
  some (toArray.fN == a1_.fN)
  else
  if (a1_.fOp == 4) = true then
  some true
  else
  if (a1_.fOp == 5) = true then
  lazycref25_Within toArray.fSet a1_.fSet >>= fun r11 =>
  some r11
  else
  if (a1_.fOp == 3) = true then
  if ((!(toArray.fName.toList == a1_.fName.toList)) || (((toArray.fKids.length : Nat) : Int) != ((a1_.fKids.length : Nat) : Int))) = true then
  some false
  else
  lazycref25_Refines_l2 0 toArray a1_ toArray.fKids
  else
  some false
  partial_fixpoint
def lazycref25_Refines_l2 (x_5 : Nat) (toArray : TValue) (a1_ : TValue) (x_5_s_ : (List TValue)) : Option (Bool) :=
  (match x_5_s_ with
  | x39 :: xs40 =>
  (a1_.fKids[x_5]?) >>= fun x42 =>
  lazycref25_Refines x39 x42 >>= fun r43 =>
  if (!r43) = true then
  some false
  else
  lazycref25_Refines_l2 (x_5 + 1) toArray a1_ xs40
  | [] =>
  some true)
  partial_fixpoint
end
def lazycref25_Refines.M (toArray : TValue) (a1_ : TValue) (r : Bool) : Prop :=
  CallsX Tryd.prog 14 [.agg [.v (.int .i64 toArray.fOp), .v (.string toArray.fName), .v (.int .i64 toArray.fN), .sl (toArray.fKids.map TValue.cells), .v (.bool toArray.fSet.fAll), .sl (toArray.fSet.fList.map TExc.cells)], .agg [.v (.int .i64 a1_.fOp), .v (.string a1_.fName), .v (.int .i64 a1_.fN), .sl (a1_.fKids.map TValue.cells), .v (.bool a1_.fSet.fAll), .sl (a1_.fSet.fList.map TExc.cells)]] [] (fun d b => d = .c none (.v (.bool r)) ∧ b = [])
def lazycref25_Refines_k1.M (a1_ : TValue) (x_26 : Bool) (toArray : TValue) (r : Bool) : Prop :=
  AWP Tryd.prog 78 (Code.sub (bodyOf Tryd.f14) [1, 1, 1, 0, 1, 0, 1]) (Code.cont Tryd.prog 78 (bodyOf Tryd.f14) [1, 1, 1, 0, 1, 0, 1] (endK tab Tryd.f14.results [] (WRes (.c none (.v (.bool r))) []))) ⟨[(2, .ptr 2 0), (3, .ptr 3 0), (25, .c none (.v (.int .i64 a1_.fOp))), (26, .c none (.v (.bool x_26)))], [(2, [(none, .v (.int .i64 toArray.fOp)), (none, .v (.string toArray.fName)), (none, .v (.int .i64 toArray.fN)), (none, .sl (toArray.fKids.map TValue.cells)), (none, .v (.bool toArray.fSet.fAll)), (none, .sl (toArray.fSet.fList.map TExc.cells))]), (3, [(none, .v (.int .i64 a1_.fOp)), (none, .v (.string a1_.fName)), (none, .v (.int .i64 a1_.fN)), (none, .sl (a1_.fKids.map TValue.cells)), (none, .v (.bool a1_.fSet.fAll)), (none, .sl (a1_.fSet.fList.map TExc.cells))])]⟩
def lazycref25_Refines_l2.M (x_5 : Nat) (toArray : TValue) (a1_ : TValue) (x_5_s_ : (List TValue)) (r : Bool) : Prop :=
  ∀ pre_x_5 : List TValue, toArray.fKids = pre_x_5 ++ x_5_s_ → x_5 = pre_x_5.length → AWL Tryd.prog 78 (Code.sub (bodyOf Tryd.f14) [1, 1, 1, 0, 1, 0, 1, 1, 1, 1, 1, 1, 1, 0, 1, 0, 1, 0, 0]) (Code.cont Tryd.prog 78 (bodyOf Tryd.f14) [1, 1, 1, 0, 1, 0, 1, 1, 1, 1, 1, 1, 1, 0, 1, 0, 1, 0] (endK tab Tryd.f14.results [] (WRes (.c none (.v (.bool r))) []))) ⟨[(2, .ptr 2 0), (3, .ptr 3 0), (5, .c none (.v (.int .i64 ((x_5 : Nat) : Int))))], [(2, [(none, .v (.int .i64 toArray.fOp)), (none, .v (.string toArray.fName)), (none, .v (.int .i64 toArray.fN)), (none, .sl (toArray.fKids.map TValue.cells)), (none, .v (.bool toArray.fSet.fAll)), (none, .sl (toArray.fSet.fList.map TExc.cells))]), (3, [(none, .v (.int .i64 a1_.fOp)), (none, .v (.string a1_.fName)), (none, .v (.int .i64 a1_.fN)), (none, .sl (a1_.fKids.map TValue.cells)), (none, .v (.bool a1_.fSet.fAll)), (none, .sl (a1_.fSet.fList.map TExc.cells))])]⟩
theorem lazycref25_Refines_all : (∀ (toArray : TValue) (a1_ : TValue), ∀ r, lazycref25_Refines toArray a1_ = some r → lazycref25_Refines.M toArray a1_ r) ∧ (∀ (a1_ : TValue) (x_26 : Bool) (toArray : TValue), ∀ r, lazycref25_Refines_k1 a1_ x_26 toArray = some r → lazycref25_Refines_k1.M a1_ x_26 toArray r) ∧ (∀ (x_5 : Nat) (toArray : TValue) (a1_ : TValue) (x_5_s_ : (List TValue)), ∀ r, lazycref25_Refines_l2 x_5 toArray a1_ x_5_s_ = some r → lazycref25_Refines_l2.M x_5 toArray a1_ x_5_s_ r) := by
  refine lazycref25_Refines.mutual_partial_correctness lazycref25_Refines.M lazycref25_Refines_k1.M lazycref25_Refines_l2.M ?_ ?_ ?_
  · intro lazycref25_Refines_k1' ih_lazycref25_Refines_k1 toArray a1_ r hF
    unfold lazycref25_Refines.M
    refine enter tabOk Tryd.func14 rfl (by decide) (Nat.le_of_ble_eq_true rfl) rfl rfl rfl ?_
    refine AWP.seq ?_
    refine nd (by decide) _ _ _ ?_
    (repeat (first | ((conv => whnf); (with_reducible refine And.intro ?_ ?_); (focus (first | exact Eq.refl _ | exact trivial | exact Int.natCast_nonneg _ | assumption | exact Nat.le_of_ble_eq_true (Eq.refl true) | decide))))); (conv => whnf)
    refine AWP.seq ?_
    refine AWP.seq ?_
    refine AWP.cutN (fun T => ∃ r, WS r T ⟨[(2, .ptr 2 0), (3, .ptr 3 0), (18, .c none (.v (.bool ((a1_.fOp == 6) || ((a1_.fOp == 5) && a1_.fSet.fAll)))))], [(2, [(none, .v (.int .i64 toArray.fOp)), (none, .v (.string toArray.fName)), (none, .v (.int .i64 toArray.fN)), (none, .sl (toArray.fKids.map TValue.cells)), (none, .v (.bool toArray.fSet.fAll)), (none, .sl (toArray.fSet.fList.map TExc.cells))]), (3, [(none, .v (.int .i64 a1_.fOp)), (none, .v (.string a1_.fName)), (none, .v (.int .i64 a1_.fN)), (none, .sl (a1_.fKids.map TValue.cells)), (none, .v (.bool a1_.fSet.fAll)), (none, .sl (a1_.fSet.fList.map TExc.cells))])]⟩) ?_ (fun T hw => ?_)
    · refine nd (by decide) _ _ _ ?_
      (repeat (first | ((conv => whnf); (with_reducible refine And.intro ?_ ?_); (focus (first | exact Eq.refl _ | exact trivial | exact Int.natCast_nonneg _ | assumption | exact Nat.le_of_ble_eq_true (Eq.refl true) | decide))))); (conv => whnf)
      refine branchG_intro false (fun hc2 => ?_) (fun hc2 => ?_)
      · (conv => whnf)
        (repeat (first | ((conv => whnf); (with_reducible refine And.intro ?_ ?_); (focus (first | exact Eq.refl _ | exact trivial | exact Int.natCast_nonneg _ | assumption | exact Nat.le_of_ble_eq_true (Eq.refl true) | decide))))); (conv => whnf)
        exact Exists.intro (rn []) (WS.mk (wt_cons wd_ptr (wt_cons wd_ptr (wt_cons (wd_c (we_b (by first | exact Eq.refl _ | simp only [hc2, Bool.and_true, Bool.true_and, Bool.and_false, Bool.false_and, Bool.or_true, Bool.true_or, Bool.or_false, Bool.false_or, Bool.not_true, Bool.not_false, cond_true, cond_false, List.length_map]))) wt_nil))) (wb_cons rfl (wc_c (WE.refl _) (wc_c (WE.refl _) (wc_c (WE.refl _) (wc_c (WE.refl _) (wc_c (WE.refl _) (wc_c (WE.refl _) wc_nil)))))) (wb_cons rfl (wc_c (WE.refl _) (wc_c (WE.refl _) (wc_c (WE.refl _) (wc_c (WE.refl _) (wc_c (WE.refl _) (wc_c (WE.refl _) wc_nil)))))) wb_nil)))
      · (conv => whnf)
        (repeat (first | ((conv => whnf); (with_reducible refine And.intro ?_ ?_); (focus (first | exact Eq.refl _ | exact trivial | exact Int.natCast_nonneg _ | assumption | exact Nat.le_of_ble_eq_true (Eq.refl true) | decide))))); (conv => whnf)
        refine branchG_intro true (fun hc3 => ?_) (fun hc3 => ?_)
        · (conv => whnf)
          (repeat (first | ((conv => whnf); (with_reducible refine And.intro ?_ ?_); (focus (first | exact Eq.refl _ | exact trivial | exact Int.natCast_nonneg _ | assumption | exact Nat.le_of_ble_eq_true (Eq.refl true) | decide))))); (conv => whnf)
          exact Exists.intro (rn []) (WS.mk (wt_cons wd_ptr (wt_cons wd_ptr (wt_cons (wd_c (we_b (by first | exact Eq.refl _ | simp only [hc2, hc3, Bool.and_true, Bool.true_and, Bool.and_false, Bool.false_and, Bool.or_true, Bool.true_or, Bool.or_false, Bool.false_or, Bool.not_true, Bool.not_false, cond_true, cond_false, List.length_map]))) wt_nil))) (wb_cons rfl (wc_c (WE.refl _) (wc_c (WE.refl _) (wc_c (WE.refl _) (wc_c (WE.refl _) (wc_c (WE.refl _) (wc_c (WE.refl _) wc_nil)))))) (wb_cons rfl (wc_c (WE.refl _) (wc_c (WE.refl _) (wc_c (WE.refl _) (wc_c (WE.refl _) (wc_c (WE.refl _) (wc_c (WE.refl _) wc_nil)))))) wb_nil)))
        · (conv => whnf)
          (repeat (first | ((conv => whnf); (with_reducible refine And.intro ?_ ?_); (focus (first | exact Eq.refl _ | exact trivial | exact Int.natCast_nonneg _ | assumption | exact Nat.le_of_ble_eq_true (Eq.refl true) | decide))))); (conv => whnf)
          exact Exists.intro (rn []) (WS.mk (wt_cons wd_ptr (wt_cons wd_ptr (wt_cons (wd_c (we_b (by first | exact Eq.refl _ | simp only [hc2, hc3, Bool.and_true, Bool.true_and, Bool.and_false, Bool.false_and, Bool.or_true, Bool.true_or, Bool.or_false, Bool.false_or, Bool.not_true, Bool.not_false, cond_true, cond_false, List.length_map]))) wt_nil))) (wb_cons rfl (wc_c (WE.refl _) (wc_c (WE.refl _) (wc_c (WE.refl _) (wc_c (WE.refl _) (wc_c (WE.refl _) (wc_c (WE.refl _) wc_nil)))))) (wb_cons rfl (wc_c (WE.refl _) (wc_c (WE.refl _) (wc_c (WE.refl _) (wc_c (WE.refl _) (wc_c (WE.refl _) (wc_c (WE.refl _) wc_nil)))))) wb_nil)))
    obtain ⟨r0, hw⟩ := hw
    (conv => whnf)
    refine AWP.weak r0 hw ?_
    refine nd (by decide) _ _ _ ?_
    (conv => whnf)
    refine branch_hF hF (fun hc4 hF => ?_) (fun hc4 hF => ?_)
    · refine AWP.seq ?_
      refine nd (by decide) _ _ _ ?_
      (repeat (first | ((conv => whnf); (with_reducible refine And.intro ?_ ?_); (focus (first | exact Eq.refl _ | exact trivial | exact Int.natCast_nonneg _ | assumption | exact Nat.le_of_ble_eq_true (Eq.refl true) | decide))))); (conv => whnf)
      obtain rfl := some_eq hF
      refine nd (by decide) _ _ _ ?_
      (repeat (first | ((conv => whnf); (with_reducible refine And.intro ?_ ?_); (focus (first | exact Eq.refl _ | exact trivial | exact Int.natCast_nonneg _ | assumption | exact Nat.le_of_ble_eq_true (Eq.refl true) | decide))))); (conv => whnf)
      exact Exists.intro (rn []) (WS.mk (wt_cons (wd_c (WE.refl _)) wt_nil) wb_nil)
    · refine nd (by decide) _ _ _ ?_
      (conv => whnf)
      refine AWP.seq ?_
      refine AWP.seq ?_
      refine nd (by decide) _ _ _ ?_
      (repeat (first | ((conv => whnf); (with_reducible refine And.intro ?_ ?_); (focus (first | exact Eq.refl _ | exact trivial | exact Int.natCast_nonneg _ | assumption | exact Nat.le_of_ble_eq_true (Eq.refl true) | decide))))); (conv => whnf)
      refine nd (by decide) _ _ _ ?_
      (conv => whnf)
      refine branch_hF hF (fun hc6 hF => ?_) (fun hc6 hF => ?_)
      · refine AWP.seq ?_
        refine nd (by decide) _ _ _ ?_
        (repeat (first | ((conv => whnf); (with_reducible refine And.intro ?_ ?_); (focus (first | exact Eq.refl _ | exact trivial | exact Int.natCast_nonneg _ | assumption | exact Nat.le_of_ble_eq_true (Eq.refl true) | decide))))); (conv => whnf)
        obtain rfl := some_eq hF
        refine nd (by decide) _ _ _ ?_
        (repeat (first | ((conv => whnf); (with_reducible refine And.intro ?_ ?_); (focus (first | exact Eq.refl _ | exact trivial | exact Int.natCast_nonneg _ | assumption | exact Nat.le_of_ble_eq_true (Eq.refl true) | decide))))); (conv => whnf)
        exact Exists.intro (rn []) (WS.mk (wt_cons (wd_c (WE.refl _)) wt_nil) wb_nil)
      · refine nd (by decide) _ _ _ ?_
        (conv => whnf)
        refine AWP.seq ?_
        refine AWP.seq ?_
        refine nd (by decide) _ _ _ ?_
        (repeat (first | ((conv => whnf); (with_reducible refine And.intro ?_ ?_); (focus (first | exact Eq.refl _ | exact trivial | exact Int.natCast_nonneg _ | assumption | exact Nat.le_of_ble_eq_true (Eq.refl true) | decide))))); (conv => whnf)
        refine AWP.block ?_
        refine AWP.seq ?_
        refine AWP.seq ?_
        refine nd (by decide) _ _ _ ?_
        (repeat (first | ((conv => whnf); (with_reducible refine And.intro ?_ ?_); (focus (first | exact Eq.refl _ | exact trivial | exact Int.natCast_nonneg _ | assumption | exact Nat.le_of_ble_eq_true (Eq.refl true) | decide))))); (conv => whnf)
        refine nd (by decide) _ _ _ ?_
        (conv => whnf)
        refine branch_hF hF (fun hc45 hF => ?_) (fun hc45 hF => ?_)
        · refine nd (by decide) _ _ _ ?_
          (conv => whnf)
          refine AWP.weak (rn []) ?_ (ih_lazycref25_Refines_k1 a1_ (a1_.fOp == 1) toArray _ hF)
          exact (WS.mk (wt_cons wd_ptr (wt_cons wd_ptr (wt_cons (wd_c (WE.refl _)) (wt_cons (wd_c (WE.refl _)) wt_nil)))) (wb_cons rfl (wc_c (WE.refl _) (wc_c (WE.refl _) (wc_c (WE.refl _) (wc_c (WE.refl _) (wc_c (WE.refl _) (wc_c (WE.refl _) wc_nil)))))) (wb_cons rfl (wc_c (WE.refl _) (wc_c (WE.refl _) (wc_c (WE.refl _) (wc_c (WE.refl _) (wc_c (WE.refl _) (wc_c (WE.refl _) wc_nil)))))) wb_nil)))
        · refine nd (by decide) _ _ _ ?_
          (repeat (first | ((conv => whnf); (with_reducible refine And.intro ?_ ?_); (focus (first | exact Eq.refl _ | exact trivial | exact Int.natCast_nonneg _ | assumption | exact Nat.le_of_ble_eq_true (Eq.refl true) | decide))))); (conv => whnf)
          refine AWP.weak (rn []) ?_ (ih_lazycref25_Refines_k1 a1_ (a1_.fOp == 2) toArray _ hF)
          exact (WS.mk (wt_cons wd_ptr (wt_cons wd_ptr (wt_cons (wd_c (WE.refl _)) (wt_cons (wd_c (WE.refl _)) wt_nil)))) (wb_cons rfl (wc_c (WE.refl _) (wc_c (WE.refl _) (wc_c (WE.refl _) (wc_c (WE.refl _) (wc_c (WE.refl _) (wc_c (WE.refl _) wc_nil)))))) (wb_cons rfl (wc_c (WE.refl _) (wc_c (WE.refl _) (wc_c (WE.refl _) (wc_c (WE.refl _) (wc_c (WE.refl _) (wc_c (WE.refl _) wc_nil)))))) wb_nil)))
  · intro lazycref25_Refines_l2' ih_lazycref25_Refines_l2 a1_ x_26 toArray r hF
    unfold lazycref25_Refines_k1.M
    refine nd (by decide) _ _ _ ?_
    (conv => whnf)
    refine branch_hF hF (fun hc8 hF => ?_) (fun hc8 hF => ?_)
    · refine AWP.seq ?_
      refine nd (by decide) _ _ _ ?_
      (repeat (first | ((conv => whnf); (with_reducible refine And.intro ?_ ?_); (focus (first | exact Eq.refl _ | exact trivial | exact Int.natCast_nonneg _ | assumption | exact Nat.le_of_ble_eq_true (Eq.refl true) | decide))))); (conv => whnf)
      obtain rfl := some_eq hF
      refine nd (by decide) _ _ _ ?_
      (repeat (first | ((conv => whnf); (with_reducible refine And.intro ?_ ?_); (focus (first | exact Eq.refl _ | exact trivial | exact Int.natCast_nonneg _ | assumption | exact Nat.le_of_ble_eq_true (Eq.refl true) | decide))))); (conv => whnf)
      exact Exists.intro (rn []) (WS.mk (wt_cons (wd_c (WE.refl _)) wt_nil) wb_nil)
    · refine AWP.seq ?_
      refine nd (by decide) _ _ _ ?_
      (repeat (first | ((conv => whnf); (with_reducible refine And.intro ?_ ?_); (focus (first | exact Eq.refl _ | exact trivial | exact Int.natCast_nonneg _ | assumption | exact Nat.le_of_ble_eq_true (Eq.refl true) | decide))))); (conv => whnf)
      refine nd (by decide) _ _ _ ?_
      (conv => whnf)
      refine branch_hF hF (fun hc9 hF => ?_) (fun hc9 hF => ?_)
      · refine AWP.seq ?_
        refine nd (by decide) _ _ _ ?_
        (repeat (first | ((conv => whnf); (with_reducible refine And.intro ?_ ?_); (focus (first | exact Eq.refl _ | exact trivial | exact Int.natCast_nonneg _ | assumption | exact Nat.le_of_ble_eq_true (Eq.refl true) | decide))))); (conv => whnf)
        obtain rfl := some_eq hF
        refine nd (by decide) _ _ _ ?_
        (repeat (first | ((conv => whnf); (with_reducible refine And.intro ?_ ?_); (focus (first | exact Eq.refl _ | exact trivial | exact Int.natCast_nonneg _ | assumption | exact Nat.le_of_ble_eq_true (Eq.refl true) | decide))))); (conv => whnf)
        exact Exists.intro (rn []) (WS.mk (wt_cons (wd_c (WE.refl _)) wt_nil) wb_nil)
      · refine AWP.seq ?_
        refine nd (by decide) _ _ _ ?_
        (repeat (first | ((conv => whnf); (with_reducible refine And.intro ?_ ?_); (focus (first | exact Eq.refl _ | exact trivial | exact Int.natCast_nonneg _ | assumption | exact Nat.le_of_ble_eq_true (Eq.refl true) | decide))))); (conv => whnf)
        refine nd (by decide) _ _ _ ?_
        (conv => whnf)
        refine branch_hF hF (fun hc10 hF => ?_) (fun hc10 hF => ?_)
        · refine AWP.seq ?_
          obtain ⟨r11, hr11, hF⟩ := bind_some hF
          refine nd (by decide) _ _ _ ?_
          (repeat (first | ((conv => whnf); (with_reducible refine And.intro ?_ ?_); (focus (first | exact Eq.refl _ | exact trivial | exact Int.natCast_nonneg _ | assumption | exact Nat.le_of_ble_eq_true (Eq.refl true) | decide))))); (conv => whnf)
          refine Exists.intro [] ?_
          (repeat (first | ((conv => whnf); (with_reducible refine And.intro ?_ ?_); (focus (first | exact Eq.refl _ | exact trivial | exact Int.natCast_nonneg _ | assumption | exact Nat.le_of_ble_eq_true (Eq.refl true) | decide))))); (conv => whnf)
          refine CallsX.mono (CallsX.weak (rn []) (lazycref25_Within_ok toArray.fSet a1_.fSet _ hr11) rfl (WS.mk (wt_cons (wd_agg (wl_cons (WE.refl _) (wl_cons (WE.refl _) wl_nil))) (wt_cons (wd_agg (wl_cons (WE.refl _) (wl_cons (WE.refl _) wl_nil))) wt_nil)) wb_nil)) ?_
          rintro d b ⟨rfl, rfl⟩
          (repeat (first | ((conv => whnf); (with_reducible refine And.intro ?_ ?_); (focus (first | exact Eq.refl _ | exact trivial | exact Int.natCast_nonneg _ | assumption | exact Nat.le_of_ble_eq_true (Eq.refl true) | decide))))); (conv => whnf)
          (repeat (first | ((conv => whnf); (with_reducible refine And.intro ?_ ?_); (focus (first | exact Eq.refl _ | exact trivial | exact Int.natCast_nonneg _ | assumption | exact Nat.le_of_ble_eq_true (Eq.refl true) | decide))))); (conv => whnf)
          obtain rfl := some_eq hF
          refine nd (by decide) _ _ _ ?_
          (repeat (first | ((conv => whnf); (with_reducible refine And.intro ?_ ?_); (focus (first | exact Eq.refl _ | exact trivial | exact Int.natCast_nonneg _ | assumption | exact Nat.le_of_ble_eq_true (Eq.refl true) | decide))))); (conv => whnf)
          exact Exists.intro (rn []) (WS.mk (wt_cons (wd_c (WE.refl _)) wt_nil) wb_nil)
        · refine AWP.seq ?_
          refine nd (by decide) _ _ _ ?_
          (repeat (first | ((conv => whnf); (with_reducible refine And.intro ?_ ?_); (focus (first | exact Eq.refl _ | exact trivial | exact Int.natCast_nonneg _ | assumption | exact Nat.le_of_ble_eq_true (Eq.refl true) | decide))))); (conv => whnf)
          refine nd (by decide) _ _ _ ?_
          (conv => whnf)
          refine branch_hF hF (fun hc12 hF => ?_) (fun hc12 hF => ?_)
          · refine AWP.seq ?_
            refine AWP.seq ?_
            refine AWP.cutN (fun T => ∃ r, WS r T ⟨[(2, .ptr 2 0), (3, .ptr 3 0), (58, .c none (.v (.bool ((!(toArray.fName.toList == a1_.fName.toList)) || (((toArray.fKids.length : Nat) : Int) != ((a1_.fKids.length : Nat) : Int))))))], [(2, [(none, .v (.int .i64 toArray.fOp)), (none, .v (.string toArray.fName)), (none, .v (.int .i64 toArray.fN)), (none, .sl (toArray.fKids.map TValue.cells)), (none, .v (.bool toArray.fSet.fAll)), (none, .sl (toArray.fSet.fList.map TExc.cells))]), (3, [(none, .v (.int .i64 a1_.fOp)), (none, .v (.string a1_.fName)), (none, .v (.int .i64 a1_.fN)), (none, .sl (a1_.fKids.map TValue.cells)), (none, .v (.bool a1_.fSet.fAll)), (none, .sl (a1_.fSet.fList.map TExc.cells))])]⟩) ?_ (fun T hw => ?_)
            · refine nd (by decide) _ _ _ ?_
              (repeat (first | ((conv => whnf); (with_reducible refine And.intro ?_ ?_); (focus (first | exact Eq.refl _ | exact trivial | exact Int.natCast_nonneg _ | assumption | exact Nat.le_of_ble_eq_true (Eq.refl true) | decide))))); (conv => whnf)
              refine branchG_intro false (fun hc18 => ?_) (fun hc18 => ?_)
              · (conv => whnf)
                (repeat (first | ((conv => whnf); (with_reducible refine And.intro ?_ ?_); (focus (first | exact Eq.refl _ | exact trivial | exact Int.natCast_nonneg _ | assumption | exact Nat.le_of_ble_eq_true (Eq.refl true) | decide))))); (conv => whnf)
                exact Exists.intro (rn []) (WS.mk (wt_cons wd_ptr (wt_cons wd_ptr (wt_cons (wd_c (we_b (by first | exact Eq.refl _ | simp only [hc18, Bool.and_true, Bool.true_and, Bool.and_false, Bool.false_and, Bool.or_true, Bool.true_or, Bool.or_false, Bool.false_or, Bool.not_true, Bool.not_false, cond_true, cond_false, List.length_map]))) wt_nil))) (wb_cons rfl (wc_c (WE.refl _) (wc_c (WE.refl _) (wc_c (WE.refl _) (wc_c (WE.refl _) (wc_c (WE.refl _) (wc_c (WE.refl _) wc_nil)))))) (wb_cons rfl (wc_c (WE.refl _) (wc_c (WE.refl _) (wc_c (WE.refl _) (wc_c (WE.refl _) (wc_c (WE.refl _) (wc_c (WE.refl _) wc_nil)))))) wb_nil)))
              · (conv => whnf)
                (repeat (first | ((conv => whnf); (with_reducible refine And.intro ?_ ?_); (focus (first | exact Eq.refl _ | exact trivial | exact Int.natCast_nonneg _ | assumption | exact Nat.le_of_ble_eq_true (Eq.refl true) | decide))))); (conv => whnf)
                intro hlen16
                (try rw [List.length_map] at hlen16)
                (try rw [List.length_map])
                (repeat (first | ((conv => whnf); (with_reducible refine And.intro ?_ ?_); (focus (first | exact Eq.refl _ | exact trivial | exact Int.natCast_nonneg _ | assumption | exact Nat.le_of_ble_eq_true (Eq.refl true) | decide))))); (conv => whnf)
                intro hlen17
                (try rw [List.length_map] at hlen17)
                (try rw [List.length_map])
                (repeat (first | ((conv => whnf); (with_reducible refine And.intro ?_ ?_); (focus (first | exact Eq.refl _ | exact trivial | exact Int.natCast_nonneg _ | assumption | exact Nat.le_of_ble_eq_true (Eq.refl true) | decide))))); (conv => whnf)
                exact Exists.intro (rn []) (WS.mk (wt_cons wd_ptr (wt_cons wd_ptr (wt_cons (wd_c (we_b (by first | exact Eq.refl _ | simp only [hc18, Bool.and_true, Bool.true_and, Bool.and_false, Bool.false_and, Bool.or_true, Bool.true_or, Bool.or_false, Bool.false_or, Bool.not_true, Bool.not_false, cond_true, cond_false, List.length_map]))) wt_nil))) (wb_cons rfl (wc_c (WE.refl _) (wc_c (WE.refl _) (wc_c (WE.refl _) (wc_c (WE.refl _) (wc_c (WE.refl _) (wc_c (WE.refl _) wc_nil)))))) (wb_cons rfl (wc_c (WE.refl _) (wc_c (WE.refl _) (wc_c (WE.refl _) (wc_c (WE.refl _) (wc_c (WE.refl _) (wc_c (WE.refl _) wc_nil)))))) wb_nil)))
            obtain ⟨r0, hw⟩ := hw
            (conv => whnf)
            refine AWP.weak r0 hw ?_
            refine nd (by decide) _ _ _ ?_
            (conv => whnf)
            refine branch_hF hF (fun hc19 hF => ?_) (fun hc19 hF => ?_)
            · refine AWP.seq ?_
              refine nd (by decide) _ _ _ ?_
              (repeat (first | ((conv => whnf); (with_reducible refine And.intro ?_ ?_); (focus (first | exact Eq.refl _ | exact trivial | exact Int.natCast_nonneg _ | assumption | exact Nat.le_of_ble_eq_true (Eq.refl true) | decide))))); (conv => whnf)
              obtain rfl := some_eq hF
              refine nd (by decide) _ _ _ ?_
              (repeat (first | ((conv => whnf); (with_reducible refine And.intro ?_ ?_); (focus (first | exact Eq.refl _ | exact trivial | exact Int.natCast_nonneg _ | assumption | exact Nat.le_of_ble_eq_true (Eq.refl true) | decide))))); (conv => whnf)
              exact Exists.intro (rn []) (WS.mk (wt_cons (wd_c (WE.refl _)) wt_nil) wb_nil)
            · refine nd (by decide) _ _ _ ?_
              (conv => whnf)
              refine AWP.seq ?_
              refine AWP.seq ?_
              refine nd (by decide) _ _ _ ?_
              (repeat (first | ((conv => whnf); (with_reducible refine And.intro ?_ ?_); (focus (first | exact Eq.refl _ | exact trivial | exact Int.natCast_nonneg _ | assumption | exact Nat.le_of_ble_eq_true (Eq.refl true) | decide))))); (conv => whnf)
              refine AWP.block ?_
              refine AWP.loop ?_
              refine AWL.weak (rn []) ?_ (ih_lazycref25_Refines_l2 0 toArray a1_ toArray.fKids _ hF ([]) rfl rfl)
              exact (WS.mk (wt_cons wd_ptr (wt_cons wd_ptr (wt_cons (wd_c (WE.refl _)) wt_nil))) (wb_cons rfl (wc_c (WE.refl _) (wc_c (WE.refl _) (wc_c (WE.refl _) (wc_c (WE.refl _) (wc_c (WE.refl _) (wc_c (WE.refl _) wc_nil)))))) (wb_cons rfl (wc_c (WE.refl _) (wc_c (WE.refl _) (wc_c (WE.refl _) (wc_c (WE.refl _) (wc_c (WE.refl _) (wc_c (WE.refl _) wc_nil)))))) wb_nil)))
          · refine nd (by decide) _ _ _ ?_
            (conv => whnf)
            refine AWP.seq ?_
            refine nd (by decide) _ _ _ ?_
            (repeat (first | ((conv => whnf); (with_reducible refine And.intro ?_ ?_); (focus (first | exact Eq.refl _ | exact trivial | exact Int.natCast_nonneg _ | assumption | exact Nat.le_of_ble_eq_true (Eq.refl true) | decide))))); (conv => whnf)
            obtain rfl := some_eq hF
            refine nd (by decide) _ _ _ ?_
            (repeat (first | ((conv => whnf); (with_reducible refine And.intro ?_ ?_); (focus (first | exact Eq.refl _ | exact trivial | exact Int.natCast_nonneg _ | assumption | exact Nat.le_of_ble_eq_true (Eq.refl true) | decide))))); (conv => whnf)
            exact Exists.intro (rn []) (WS.mk (wt_cons (wd_c (WE.refl _)) wt_nil) wb_nil)
  · intro lazycref25_Refines' lazycref25_Refines_l2' ih_lazycref25_Refines ih_lazycref25_Refines_l2 x_5 toArray a1_ x_5_s_ r hF
    unfold lazycref25_Refines_l2.M
    intro pre_x_5 hs_x_5 hk_x_5
    refine AWL.step ?_
    refine AWP.seq ?_
    refine AWP.seq ?_
    refine nd (by decide) _ _ _ ?_
    (repeat (first | ((conv => whnf); (with_reducible refine And.intro ?_ ?_); (focus (first | exact Eq.refl _ | exact trivial | exact Int.natCast_nonneg _ | assumption | exact Nat.le_of_ble_eq_true (Eq.refl true) | decide))))); (conv => whnf)
    intro hlen38
    (try rw [List.length_map] at hlen38)
    (try rw [List.length_map])
    (repeat (first | ((conv => whnf); (with_reducible refine And.intro ?_ ?_); (focus (first | exact Eq.refl _ | exact trivial | exact Int.natCast_nonneg _ | assumption | exact Nat.le_of_ble_eq_true (Eq.refl true) | decide))))); (conv => whnf)
    refine nd (by decide) _ _ _ ?_
    (conv => whnf)
    refine branch_list hs_x_5 hk_x_5 (fun x39 xs40 hp41 hx41 hl41 => ?_) (fun hp41 => ?_)
    · subst hp41
      refine nd (by decide) _ _ _ ?_
      (conv => whnf)
      refine AWP.seq ?_
      refine AWP.block ?_
      refine AWP.seq ?_
      obtain ⟨x42, hx42, hF⟩ := bind_some hF
      obtain ⟨r43, hr43, hF⟩ := bind_some hF
      refine nd (by decide) _ _ _ ?_
      refine Exists.intro 10 (Exists.intro [[], [], [], [], [], [], [], [], [], []] (Exists.intro [([66, 67, 68, 69, 70, 71, 72, 73, 74, 75], [], []), ([67, 68, 69, 70, 71, 72, 73, 74, 75], [], []), ([66, 67, 68, 69, 70, 71, 72, 73, 74, 75], [], []), ([69, 70, 71, 72, 73, 74, 75], [], []), ([70, 71, 72, 73, 74, 75], [], []), ([66, 67, 68, 69, 70, 71, 72, 73, 74, 75], [], []), ([66, 67, 68, 69, 70, 72, 73, 74, 75], [], []), ([66, 67, 68, 69, 70, 71, 72, 73, 74, 75], [], []), ([66, 67, 68, 69, 70, 74, 75], [], []), ([66, 67, 68, 69, 70, 75], [], [])] (Exists.intro [66, 67, 68, 69, 70, 71, 72, 73, 74, 75] (And.intro (by decide +kernel) ?_))))
      ((repeat (first | ((conv => whnf); (with_reducible refine And.intro ?_ ?_); (focus (first | exact Eq.refl _ | exact trivial | exact Int.natCast_nonneg _ | assumption | exact Nat.le_of_ble_eq_true (Eq.refl true) | decide))))); (conv => whnf); apply Exists.intro; apply Exists.intro; apply And.intro; (focus (((repeat (first | ((conv => whnf); (with_reducible refine And.intro ?_ ?_); (focus (first | exact Eq.refl _ | exact trivial | exact Int.natCast_nonneg _ | assumption | exact Nat.le_of_ble_eq_true (Eq.refl true) | decide))))); (conv => whnf)) <;> (exact rfl))); apply And.intro; (focus exact rfl); (conv => whnf))
      ((repeat (first | ((conv => whnf); (with_reducible refine And.intro ?_ ?_); (focus (first | exact Eq.refl _ | exact trivial | exact Int.natCast_nonneg _ | assumption | exact Nat.le_of_ble_eq_true (Eq.refl true) | decide))))); (conv => whnf); apply Exists.intro; apply Exists.intro; apply And.intro; (focus (((repeat (first | ((conv => whnf); (with_reducible refine And.intro ?_ ?_); (focus (first | exact Eq.refl _ | exact trivial | exact Int.natCast_nonneg _ | assumption | exact Nat.le_of_ble_eq_true (Eq.refl true) | decide))))); (conv => whnf)) <;> (exact rfl))); apply And.intro; (focus exact rfl); (conv => whnf))
      ((repeat (first | ((conv => whnf); (with_reducible refine And.intro ?_ ?_); (focus (first | exact Eq.refl _ | exact trivial | exact Int.natCast_nonneg _ | assumption | exact Nat.le_of_ble_eq_true (Eq.refl true) | decide))))); (conv => whnf); apply Exists.intro; apply Exists.intro; apply And.intro; (focus (((repeat (first | ((conv => whnf); (with_reducible refine And.intro ?_ ?_); (focus (first | exact Eq.refl _ | exact trivial | exact Int.natCast_nonneg _ | assumption | exact Nat.le_of_ble_eq_true (Eq.refl true) | decide))))); (conv => whnf)) <;> (exact rfl))); apply And.intro; (focus exact rfl); (conv => whnf))
      ((repeat (first | ((conv => whnf); (with_reducible refine And.intro ?_ ?_); (focus (first | exact Eq.refl _ | exact trivial | exact Int.natCast_nonneg _ | assumption | exact Nat.le_of_ble_eq_true (Eq.refl true) | decide))))); (conv => whnf); apply Exists.intro; apply Exists.intro; apply And.intro; (focus (((repeat (first | ((conv => whnf); (with_reducible refine And.intro ?_ ?_); (focus (first | exact Eq.refl _ | exact trivial | exact Int.natCast_nonneg _ | assumption | exact Nat.le_of_ble_eq_true (Eq.refl true) | decide))))); (conv => whnf)) <;> (rw [map_get (TValue.cells_eq x39) hx41]) <;> ((repeat (first | ((conv => whnf); (with_reducible refine And.intro ?_ ?_); (focus (first | exact Eq.refl _ | exact trivial | exact Int.natCast_nonneg _ | assumption | exact Nat.le_of_ble_eq_true (Eq.refl true) | decide))))); (conv => whnf)) <;> (exact rfl))); apply And.intro; (focus exact rfl); (conv => whnf))
      ((repeat (first | ((conv => whnf); (with_reducible refine And.intro ?_ ?_); (focus (first | exact Eq.refl _ | exact trivial | exact Int.natCast_nonneg _ | assumption | exact Nat.le_of_ble_eq_true (Eq.refl true) | decide))))); (conv => whnf); apply Exists.intro; apply Exists.intro; apply And.intro; (focus (((repeat (first | ((conv => whnf); (with_reducible refine And.intro ?_ ?_); (focus (first | exact Eq.refl _ | exact trivial | exact Int.natCast_nonneg _ | assumption | exact Nat.le_of_ble_eq_true (Eq.refl true) | decide))))); (conv => whnf)) <;> (exact rfl))); apply And.intro; (focus exact rfl); (conv => whnf))
      ((repeat (first | ((conv => whnf); (with_reducible refine And.intro ?_ ?_); (focus (first | exact Eq.refl _ | exact trivial | exact Int.natCast_nonneg _ | assumption | exact Nat.le_of_ble_eq_true (Eq.refl true) | decide))))); (conv => whnf); apply Exists.intro; apply Exists.intro; apply And.intro; (focus (((repeat (first | ((conv => whnf); (with_reducible refine And.intro ?_ ?_); (focus (first | exact Eq.refl _ | exact trivial | exact Int.natCast_nonneg _ | assumption | exact Nat.le_of_ble_eq_true (Eq.refl true) | decide))))); (conv => whnf)) <;> (exact rfl))); apply And.intro; (focus exact rfl); (conv => whnf))
      ((repeat (first | ((conv => whnf); (with_reducible refine And.intro ?_ ?_); (focus (first | exact Eq.refl _ | exact trivial | exact Int.natCast_nonneg _ | assumption | exact Nat.le_of_ble_eq_true (Eq.refl true) | decide))))); (conv => whnf); apply Exists.intro; apply Exists.intro; apply And.intro; (focus (((repeat (first | ((conv => whnf); (with_reducible refine And.intro ?_ ?_); (focus (first | exact Eq.refl _ | exact trivial | exact Int.natCast_nonneg _ | assumption | exact Nat.le_of_ble_eq_true (Eq.refl true) | decide))))); (conv => whnf)) <;> (exact rfl))); apply And.intro; (focus exact rfl); (conv => whnf))
      ((repeat (first | ((conv => whnf); (with_reducible refine And.intro ?_ ?_); (focus (first | exact Eq.refl _ | exact trivial | exact Int.natCast_nonneg _ | assumption | exact Nat.le_of_ble_eq_true (Eq.refl true) | decide))))); (conv => whnf); apply Exists.intro; apply Exists.intro; apply And.intro; (focus (((repeat (first | ((conv => whnf); (with_reducible refine And.intro ?_ ?_); (focus (first | exact Eq.refl _ | exact trivial | exact Int.natCast_nonneg _ | assumption | exact Nat.le_of_ble_eq_true (Eq.refl true) | decide))))); (conv => whnf)) <;> (exact rfl))); apply And.intro; (focus exact rfl); (conv => whnf))
      ((repeat (first | ((conv => whnf); (with_reducible refine And.intro ?_ ?_); (focus (first | exact Eq.refl _ | exact trivial | exact Int.natCast_nonneg _ | assumption | exact Nat.le_of_ble_eq_true (Eq.refl true) | decide))))); (conv => whnf); apply Exists.intro; apply Exists.intro; apply And.intro; (focus (((repeat (first | ((conv => whnf); (with_reducible refine And.intro ?_ ?_); (focus (first | exact Eq.refl _ | exact trivial | exact Int.natCast_nonneg _ | assumption | exact Nat.le_of_ble_eq_true (Eq.refl true) | decide))))); (conv => whnf)) <;> (rw [map_get (TValue.cells_eq x42) hx42]) <;> ((repeat (first | ((conv => whnf); (with_reducible refine And.intro ?_ ?_); (focus (first | exact Eq.refl _ | exact trivial | exact Int.natCast_nonneg _ | assumption | exact Nat.le_of_ble_eq_true (Eq.refl true) | decide))))); (conv => whnf)) <;> (exact rfl))); apply And.intro; (focus exact rfl); (conv => whnf))
      ((repeat (first | ((conv => whnf); (with_reducible refine And.intro ?_ ?_); (focus (first | exact Eq.refl _ | exact trivial | exact Int.natCast_nonneg _ | assumption | exact Nat.le_of_ble_eq_true (Eq.refl true) | decide))))); (conv => whnf); apply Exists.intro; apply Exists.intro; apply And.intro; (focus (((repeat (first | ((conv => whnf); (with_reducible refine And.intro ?_ ?_); (focus (first | exact Eq.refl _ | exact trivial | exact Int.natCast_nonneg _ | assumption | exact Nat.le_of_ble_eq_true (Eq.refl true) | decide))))); (conv => whnf)) <;> (exact rfl))); apply And.intro; (focus exact rfl); (conv => whnf))
      (repeat (first | ((conv => whnf); (with_reducible refine And.intro ?_ ?_); (focus (first | exact Eq.refl _ | exact trivial | exact Int.natCast_nonneg _ | assumption | exact Nat.le_of_ble_eq_true (Eq.refl true) | decide))))); (conv => whnf)
      refine Exists.intro [] ?_
      (repeat (first | ((conv => whnf); (with_reducible refine And.intro ?_ ?_); (focus (first | exact Eq.refl _ | exact trivial | exact Int.natCast_nonneg _ | assumption | exact Nat.le_of_ble_eq_true (Eq.refl true) | decide))))); (conv => whnf)
      refine CallsX.mono (CallsX.weak (rn []) (ih_lazycref25_Refines x39 x42 _ hr43) rfl (WS.mk (wt_cons (wd_agg (wl_cons (WE.refl _) (wl_cons (WE.refl _) (wl_cons (WE.refl _) (wl_cons (WE.refl _) (wl_cons (WE.refl _) (wl_cons (WE.refl _) wl_nil))))))) (wt_cons (wd_agg (wl_cons (WE.refl _) (wl_cons (WE.refl _) (wl_cons (WE.refl _) (wl_cons (WE.refl _) (wl_cons (WE.refl _) (wl_cons (WE.refl _) wl_nil))))))) wt_nil)) wb_nil)) ?_
      rintro d b ⟨rfl, rfl⟩
      (repeat (first | ((conv => whnf); (with_reducible refine And.intro ?_ ?_); (focus (first | exact Eq.refl _ | exact trivial | exact Int.natCast_nonneg _ | assumption | exact Nat.le_of_ble_eq_true (Eq.refl true) | decide))))); (conv => whnf)
      (repeat (first | ((conv => whnf); (with_reducible refine And.intro ?_ ?_); (focus (first | exact Eq.refl _ | exact trivial | exact Int.natCast_nonneg _ | assumption | exact Nat.le_of_ble_eq_true (Eq.refl true) | decide))))); (conv => whnf)
      refine nd (by decide) _ _ _ ?_
      (conv => whnf)
      refine branch_hF hF (fun hc44 hF => ?_) (fun hc44 hF => ?_)
      · refine AWP.seq ?_
        refine nd (by decide) _ _ _ ?_
        (repeat (first | ((conv => whnf); (with_reducible refine And.intro ?_ ?_); (focus (first | exact Eq.refl _ | exact trivial | exact Int.natCast_nonneg _ | assumption | exact Nat.le_of_ble_eq_true (Eq.refl true) | decide))))); (conv => whnf)
        obtain rfl := some_eq hF
        refine nd (by decide) _ _ _ ?_
        (repeat (first | ((conv => whnf); (with_reducible refine And.intro ?_ ?_); (focus (first | exact Eq.refl _ | exact trivial | exact Int.natCast_nonneg _ | assumption | exact Nat.le_of_ble_eq_true (Eq.refl true) | decide))))); (conv => whnf)
        exact Exists.intro (rn []) (WS.mk (wt_cons (wd_c (WE.refl _)) wt_nil) wb_nil)
      · refine nd (by decide) _ _ _ ?_
        (conv => whnf)
        refine nd (by decide) _ _ _ ?_
        (repeat (first | ((conv => whnf); (with_reducible refine And.intro ?_ ?_); (focus (first | exact Eq.refl _ | exact trivial | exact Int.natCast_nonneg _ | assumption | exact Nat.le_of_ble_eq_true (Eq.refl true) | decide))))); (conv => whnf)
        refine AWL.weak (rn []) ?_ (ih_lazycref25_Refines_l2 (x_5 + 1) toArray a1_ xs40 _ hF (pre_x_5 ++ [x39]) (by rw [hs_x_5]; simp) (by rw [hk_x_5]; simp))
        exact (WS.mk (wt_cons wd_ptr (wt_cons wd_ptr (wt_cons (wd_c (we_i (wrap_succ hlen38 hl41))) wt_nil))) (wb_cons rfl (wc_c (WE.refl _) (wc_c (WE.refl _) (wc_c (WE.refl _) (wc_c (WE.refl _) (wc_c (WE.refl _) (wc_c (WE.refl _) wc_nil)))))) (wb_cons rfl (wc_c (WE.refl _) (wc_c (WE.refl _) (wc_c (WE.refl _) (wc_c (WE.refl _) (wc_c (WE.refl _) (wc_c (WE.refl _) wc_nil)))))) wb_nil)))
    · subst hp41
      refine nd (by decide) _ _ _ ?_
      (conv => whnf)
      refine AWP.seq ?_
      refine nd (by decide) _ _ _ ?_
      (repeat (first | ((conv => whnf); (with_reducible refine And.intro ?_ ?_); (focus (first | exact Eq.refl _ | exact trivial | exact Int.natCast_nonneg _ | assumption | exact Nat.le_of_ble_eq_true (Eq.refl true) | decide))))); (conv => whnf)
      obtain rfl := some_eq hF
      refine nd (by decide) _ _ _ ?_
      (repeat (first | ((conv => whnf); (with_reducible refine And.intro ?_ ?_); (focus (first | exact Eq.refl _ | exact trivial | exact Int.natCast_nonneg _ | assumption | exact Nat.le_of_ble_eq_true (Eq.refl true) | decide))))); (conv => whnf)
      exact Exists.intro (rn []) (WS.mk (wt_cons (wd_c (WE.refl _)) wt_nil) wb_nil)
theorem lazycref25_Refines_ok : ∀ (toArray : TValue) (a1_ : TValue), ∀ r, lazycref25_Refines toArray a1_ = some r → lazycref25_Refines.M toArray a1_ r := lazycref25_Refines_all.1
theorem lazycref25_Refines_k1_ok : ∀ (a1_ : TValue) (x_26 : Bool) (toArray : TValue), ∀ r, lazycref25_Refines_k1 a1_ x_26 toArray = some r → lazycref25_Refines_k1.M a1_ x_26 toArray r := lazycref25_Refines_all.2.1
theorem lazycref25_Refines_l2_ok : ∀ (x_5 : Nat) (toArray : TValue) (a1_ : TValue) (x_5_s_ : (List TValue)), ∀ r, lazycref25_Refines_l2 x_5 toArray a1_ x_5_s_ = some r → lazycref25_Refines_l2.M x_5 toArray a1_ x_5_s_ r := lazycref25_Refines_all.2.2
end Go.Proofs.YtafniolcakiljaaDoor

set_option linter.unusedVariables false
set_option linter.unusedSimpArgs false
set_option maxRecDepth 100000
set_option maxHeartbeats 4000000
namespace Go.Proofs.YtafniolcakiljaaDoor
open Go Go.Am
mutual
def lazycref25_Nodes (v : TValue) : Option (Int) :=
  lazycref25_Nodes_l1 1 0 v v.fKids
  partial_fixpoint
def lazycref25_Nodes_l1 (n_3 : Int) (i_4 : Nat) (v : TValue) (i_4_s_ : (List TValue)) : Option (Int) :=
  (match i_4_s_ with
  | x16 :: xs17 =>
  lazycref25_Nodes x16 >>= fun r19 =>
  lazycref25_Nodes_l1 (IntKind.i64.wrap (n_3 + r19)) (i_4 + 1) v xs17
  | [] =>
  some n_3)
  partial_fixpoint
end
def lazycref25_Nodes.M (v : TValue) (r : Int) : Prop :=
  CallsX Tryd.prog 39 [.agg [.v (.int .i64 v.fOp), .v (.string v.fName), .v (.int .i64 v.fN), .sl (v.fKids.map TValue.cells), .v (.bool v.fSet.fAll), .sl (v.fSet.fList.map TExc.cells)]] [] (fun d b => d = .c none (.v (.int .i64 r)) ∧ b = [])
def lazycref25_Nodes_l1.M (n_3 : Int) (i_4 : Nat) (v : TValue) (i_4_s_ : (List TValue)) (r : Int) : Prop :=
  ∀ pre_i_4 : List TValue, v.fKids = pre_i_4 ++ i_4_s_ → i_4 = pre_i_4.length → AWL Tryd.prog 21 (Code.sub (bodyOf Tryd.f39) [1, 1, 0, 1, 0, 0]) (Code.cont Tryd.prog 21 (bodyOf Tryd.f39) [1, 1, 0, 1, 0] (endK tab Tryd.f39.results [] (WRes (.c none (.v (.int .i64 r))) []))) ⟨[(1, .ptr 1 0), (3, .c none (.v (.int .i64 n_3))), (4, .c none (.v (.int .i64 ((i_4 : Nat) : Int))))], [(1, [(none, .v (.int .i64 v.fOp)), (none, .v (.string v.fName)), (none, .v (.int .i64 v.fN)), (none, .sl (v.fKids.map TValue.cells)), (none, .v (.bool v.fSet.fAll)), (none, .sl (v.fSet.fList.map TExc.cells))])]⟩
theorem lazycref25_Nodes_all : (∀ (v : TValue), ∀ r, lazycref25_Nodes v = some r → lazycref25_Nodes.M v r) ∧ (∀ (n_3 : Int) (i_4 : Nat) (v : TValue) (i_4_s_ : (List TValue)), ∀ r, lazycref25_Nodes_l1 n_3 i_4 v i_4_s_ = some r → lazycref25_Nodes_l1.M n_3 i_4 v i_4_s_ r) := by
  refine lazycref25_Nodes.mutual_partial_correctness lazycref25_Nodes.M lazycref25_Nodes_l1.M ?_ ?_
  · intro lazycref25_Nodes_l1' ih_lazycref25_Nodes_l1 v r hF
    unfold lazycref25_Nodes.M
    refine enter tabOk Tryd.func39 rfl (by decide) (Nat.le_of_ble_eq_true rfl) rfl rfl rfl ?_
    refine AWP.seq ?_
    refine nd (by decide) _ _ _ ?_
    (repeat (first | ((conv => whnf); (with_reducible refine And.intro ?_ ?_); (focus (first | exact Eq.refl _ | exact trivial | exact Int.natCast_nonneg _ | assumption | exact Nat.le_of_ble_eq_true (Eq.refl true) | decide))))); (conv => whnf)
    refine AWP.seq ?_
    refine nd (by decide) _ _ _ ?_
    (repeat (first | ((conv => whnf); (with_reducible refine And.intro ?_ ?_); (focus (first | exact Eq.refl _ | exact trivial | exact Int.natCast_nonneg _ | assumption | exact Nat.le_of_ble_eq_true (Eq.refl true) | decide))))); (conv => whnf)
    refine AWP.seq ?_
    refine AWP.seq ?_
    refine nd (by decide) _ _ _ ?_
    (repeat (first | ((conv => whnf); (with_reducible refine And.intro ?_ ?_); (focus (first | exact Eq.refl _ | exact trivial | exact Int.natCast_nonneg _ | assumption | exact Nat.le_of_ble_eq_true (Eq.refl true) | decide))))); (conv => whnf)
    refine AWP.block ?_
    refine AWP.loop ?_
    refine AWL.weak (rn []) ?_ (ih_lazycref25_Nodes_l1 1 0 v v.fKids _ hF ([]) rfl rfl)
    exact (WS.mk (wt_cons wd_ptr (wt_cons (wd_c (WE.refl _)) (wt_cons (wd_c (WE.refl _)) wt_nil))) (wb_cons rfl (wc_c (WE.refl _) (wc_c (WE.refl _) (wc_c (WE.refl _) (wc_c (WE.refl _) (wc_c (WE.refl _) (wc_c (WE.refl _) wc_nil)))))) wb_nil))
  · intro lazycref25_Nodes' lazycref25_Nodes_l1' ih_lazycref25_Nodes ih_lazycref25_Nodes_l1 n_3 i_4 v i_4_s_ r hF
    unfold lazycref25_Nodes_l1.M
    intro pre_i_4 hs_i_4 hk_i_4
    refine AWL.step ?_
    refine AWP.seq ?_
    refine AWP.seq ?_
    refine nd (by decide) _ _ _ ?_
    (repeat (first | ((conv => whnf); (with_reducible refine And.intro ?_ ?_); (focus (first | exact Eq.refl _ | exact trivial | exact Int.natCast_nonneg _ | assumption | exact Nat.le_of_ble_eq_true (Eq.refl true) | decide))))); (conv => whnf)
    intro hlen15
    (try rw [List.length_map] at hlen15)
    (try rw [List.length_map])
    (repeat (first | ((conv => whnf); (with_reducible refine And.intro ?_ ?_); (focus (first | exact Eq.refl _ | exact trivial | exact Int.natCast_nonneg _ | assumption | exact Nat.le_of_ble_eq_true (Eq.refl true) | decide))))); (conv => whnf)
    refine nd (by decide) _ _ _ ?_
    (conv => whnf)
    refine branch_list hs_i_4 hk_i_4 (fun x16 xs17 hp18 hx18 hl18 => ?_) (fun hp18 => ?_)
    · subst hp18
      refine nd (by decide) _ _ _ ?_
      (conv => whnf)
      refine AWP.seq ?_
      refine AWP.block ?_
      obtain ⟨r19, hr19, hF⟩ := bind_some hF
      refine nd (by decide) _ _ _ ?_
      (repeat (first | ((conv => whnf); (with_reducible refine And.intro ?_ ?_); (focus (first | exact Eq.refl _ | exact trivial | exact Int.natCast_nonneg _ | assumption | exact Nat.le_of_ble_eq_true (Eq.refl true) | decide))) | ((conv => whnf); rw [map_get (TValue.cells_eq x16) hx18]))); (conv => whnf)
      (repeat (first | ((conv => whnf); (with_reducible refine And.intro ?_ ?_); (focus (first | exact Eq.refl _ | exact trivial | exact Int.natCast_nonneg _ | assumption | exact Nat.le_of_ble_eq_true (Eq.refl true) | decide))))); (conv => whnf)
      refine Exists.intro [] ?_
      (repeat (first | ((conv => whnf); (with_reducible refine And.intro ?_ ?_); (focus (first | exact Eq.refl _ | exact trivial | exact Int.natCast_nonneg _ | assumption | exact Nat.le_of_ble_eq_true (Eq.refl true) | decide))))); (conv => whnf)
      refine CallsX.mono (CallsX.weak (rn []) (ih_lazycref25_Nodes x16 _ hr19) rfl (WS.mk (wt_cons (wd_agg (wl_cons (WE.refl _) (wl_cons (WE.refl _) (wl_cons (WE.refl _) (wl_cons (WE.refl _) (wl_cons (WE.refl _) (wl_cons (WE.refl _) wl_nil))))))) wt_nil) wb_nil)) ?_
      rintro d b ⟨rfl, rfl⟩
      (repeat (first | ((conv => whnf); (with_reducible refine And.intro ?_ ?_); (focus (first | exact Eq.refl _ | exact trivial | exact Int.natCast_nonneg _ | assumption | exact Nat.le_of_ble_eq_true (Eq.refl true) | decide))))); (conv => whnf)
      (repeat (first | ((conv => whnf); (with_reducible refine And.intro ?_ ?_); (focus (first | exact Eq.refl _ | exact trivial | exact Int.natCast_nonneg _ | assumption | exact Nat.le_of_ble_eq_true (Eq.refl true) | decide))))); (conv => whnf)
      refine nd (by decide) _ _ _ ?_
      (repeat (first | ((conv => whnf); (with_reducible refine And.intro ?_ ?_); (focus (first | exact Eq.refl _ | exact trivial | exact Int.natCast_nonneg _ | assumption | exact Nat.le_of_ble_eq_true (Eq.refl true) | decide))))); (conv => whnf)
      refine AWL.weak (rn []) ?_ (ih_lazycref25_Nodes_l1 (IntKind.i64.wrap (n_3 + r19)) (i_4 + 1) v xs17 _ hF (pre_i_4 ++ [x16]) (by rw [hs_i_4]; simp) (by rw [hk_i_4]; simp))
      exact (WS.mk (wt_cons wd_ptr (wt_cons (wd_c (WE.refl _)) (wt_cons (wd_c (we_i (wrap_succ hlen15 hl18))) wt_nil))) (wb_cons rfl (wc_c (WE.refl _) (wc_c (WE.refl _) (wc_c (WE.refl _) (wc_c (WE.refl _) (wc_c (WE.refl _) (wc_c (WE.refl _) wc_nil)))))) wb_nil))
    · subst hp18
      refine nd (by decide) _ _ _ ?_
      (conv => whnf)
      refine AWP.seq ?_
      refine nd (by decide) _ _ _ ?_
      (repeat (first | ((conv => whnf); (with_reducible refine And.intro ?_ ?_); (focus (first | exact Eq.refl _ | exact trivial | exact Int.natCast_nonneg _ | assumption | exact Nat.le_of_ble_eq_true (Eq.refl true) | decide))))); (conv => whnf)
      obtain rfl := some_eq hF
      refine nd (by decide) _ _ _ ?_
      (repeat (first | ((conv => whnf); (with_reducible refine And.intro ?_ ?_); (focus (first | exact Eq.refl _ | exact trivial | exact Int.natCast_nonneg _ | assumption | exact Nat.le_of_ble_eq_true (Eq.refl true) | decide))))); (conv => whnf)
      exact Exists.intro (rn []) (WS.mk (wt_cons (wd_c (WE.refl _)) wt_nil) wb_nil)
theorem lazycref25_Nodes_ok : ∀ (v : TValue), ∀ r, lazycref25_Nodes v = some r → lazycref25_Nodes.M v r := lazycref25_Nodes_all.1
theorem lazycref25_Nodes_l1_ok : ∀ (n_3 : Int) (i_4 : Nat) (v : TValue) (i_4_s_ : (List TValue)), ∀ r, lazycref25_Nodes_l1 n_3 i_4 v i_4_s_ = some r → lazycref25_Nodes_l1.M n_3 i_4 v i_4_s_ r := lazycref25_Nodes_all.2
end Go.Proofs.YtafniolcakiljaaDoor

set_option linter.unusedVariables false
set_option linter.unusedSimpArgs false
set_option maxRecDepth 100000
set_option maxHeartbeats 4000000
namespace Go.Proofs.YtafniolcakiljaaDoor
open Go Go.Am
def lazyclaw25_small (v : TValue) : Option (Bool) :=
  lazycref25_Nodes v >>= fun r1 =>
  some (decide (r1 ≤ 3000))
def lazyclaw25_small.M (v : TValue) (r : Bool) : Prop :=
  CallsX Tryd.prog 11 [.agg [.v (.int .i64 v.fOp), .v (.string v.fName), .v (.int .i64 v.fN), .sl (v.fKids.map TValue.cells), .v (.bool v.fSet.fAll), .sl (v.fSet.fList.map TExc.cells)]] [] (fun d b => d = .c none (.v (.bool r)) ∧ b = [])
theorem lazyclaw25_small_ok (v : TValue) (r : Bool) (hF : lazyclaw25_small v = some r) : lazyclaw25_small.M v r := by
  unfold lazyclaw25_small at hF
  unfold lazyclaw25_small.M
  refine enter tabOk Tryd.func11 rfl (by decide) (Nat.le_of_ble_eq_true rfl) rfl rfl rfl ?_
  refine AWP.seq ?_
  refine nd (by decide) _ _ _ ?_
  (repeat (first | ((conv => whnf); (with_reducible refine And.intro ?_ ?_); (focus (first | exact Eq.refl _ | exact trivial | exact Int.natCast_nonneg _ | assumption | exact Nat.le_of_ble_eq_true (Eq.refl true) | decide))))); (conv => whnf)
  refine AWP.seq ?_
  obtain ⟨r1, hr1, hF⟩ := bind_some hF
  refine nd (by decide) _ _ _ ?_
  (repeat (first | ((conv => whnf); (with_reducible refine And.intro ?_ ?_); (focus (first | exact Eq.refl _ | exact trivial | exact Int.natCast_nonneg _ | assumption | exact Nat.le_of_ble_eq_true (Eq.refl true) | decide))))); (conv => whnf)
  refine Exists.intro [] ?_
  (repeat (first | ((conv => whnf); (with_reducible refine And.intro ?_ ?_); (focus (first | exact Eq.refl _ | exact trivial | exact Int.natCast_nonneg _ | assumption | exact Nat.le_of_ble_eq_true (Eq.refl true) | decide))))); (conv => whnf)
  refine CallsX.mono (CallsX.weak (rn []) (lazycref25_Nodes_ok v _ hr1) rfl (WS.mk (wt_cons (wd_agg (wl_cons (WE.refl _) (wl_cons (WE.refl _) (wl_cons (WE.refl _) (wl_cons (WE.refl _) (wl_cons (WE.refl _) (wl_cons (WE.refl _) wl_nil))))))) wt_nil) wb_nil)) ?_
  rintro d b ⟨rfl, rfl⟩
  (repeat (first | ((conv => whnf); (with_reducible refine And.intro ?_ ?_); (focus (first | exact Eq.refl _ | exact trivial | exact Int.natCast_nonneg _ | assumption | exact Nat.le_of_ble_eq_true (Eq.refl true) | decide))))); (conv => whnf)
  (repeat (first | ((conv => whnf); (with_reducible refine And.intro ?_ ?_); (focus (first | exact Eq.refl _ | exact trivial | exact Int.natCast_nonneg _ | assumption | exact Nat.le_of_ble_eq_true (Eq.refl true) | decide))))); (conv => whnf)
  obtain rfl := some_eq hF
  refine nd (by decide) _ _ _ ?_
  (repeat (first | ((conv => whnf); (with_reducible refine And.intro ?_ ?_); (focus (first | exact Eq.refl _ | exact trivial | exact Int.natCast_nonneg _ | assumption | exact Nat.le_of_ble_eq_true (Eq.refl true) | decide))))); (conv => whnf)
  exact Exists.intro (rn []) (WS.mk (wt_cons (wd_c (WE.refl _)) wt_nil) wb_nil)
end Go.Proofs.YtafniolcakiljaaDoor

set_option linter.unusedVariables false
set_option linter.unusedSimpArgs false
set_option maxRecDepth 100000
set_option maxHeartbeats 4000000
namespace Go.Proofs.YtafniolcakiljaaDoor
open Go Go.Am
mutual
def values_depth (v : TValue) : Option (Int) :=
  values_depth_l1 0 v 0 v.fKids
  partial_fixpoint
def values_depth_l1 (n_3 : Int) (v : TValue) (x_9 : Nat) (x_9_s_ : (List TValue)) : Option (Int) :=
  (match x_9_s_ with
  | x11 :: xs12 =>
  values_depth x11 >>= fun r14 =>
  values_depth_l1 (if r14 > n_3 then r14 else n_3) v (x_9 + 1) xs12
  | [] =>
  some (IntKind.i64.wrap (n_3 + 1)))
  partial_fixpoint
end
def values_depth.M (v : TValue) (r : Int) : Prop :=
  CallsX Tryd.prog 41 [.agg [.v (.int .i64 v.fOp), .v (.string v.fName), .v (.int .i64 v.fN), .sl (v.fKids.map TValue.cells), .v (.bool v.fSet.fAll), .sl (v.fSet.fList.map TExc.cells)]] [] (fun d b => d = .c none (.v (.int .i64 r)) ∧ b = [])
def values_depth_l1.M (n_3 : Int) (v : TValue) (x_9 : Nat) (x_9_s_ : (List TValue)) (r : Int) : Prop :=
  ∀ pre_x_9 : List TValue, v.fKids = pre_x_9 ++ x_9_s_ → x_9 = pre_x_9.length → v.fKids.length ≤ maxLen → AWL Tryd.prog 20 (Code.sub (bodyOf Tryd.f41) [1, 1, 0, 1, 0, 0]) (Code.cont Tryd.prog 20 (bodyOf Tryd.f41) [1, 1, 0, 1, 0] (endK tab Tryd.f41.results [] (WRes (.c none (.v (.int .i64 r))) []))) ⟨[(3, .c none (.v (.int .i64 n_3))), (7, .c none (.sl (v.fKids.map TValue.cells))), (8, .c none (.v (.int .i64 ((v.fKids.length : Nat) : Int)))), (9, .c none (.v (.int .i64 ((x_9 : Nat) : Int))))], []⟩
theorem values_depth_all : (∀ (v : TValue), ∀ r, values_depth v = some r → values_depth.M v r) ∧ (∀ (n_3 : Int) (v : TValue) (x_9 : Nat) (x_9_s_ : (List TValue)), ∀ r, values_depth_l1 n_3 v x_9 x_9_s_ = some r → values_depth_l1.M n_3 v x_9 x_9_s_ r) := by
  refine values_depth.mutual_partial_correctness values_depth.M values_depth_l1.M ?_ ?_
  · intro values_depth_l1' ih_values_depth_l1 v r hF
    unfold values_depth.M
    refine enter tabOk Tryd.func41 rfl (by decide) (Nat.le_of_ble_eq_true rfl) rfl rfl rfl ?_
    refine AWP.seq ?_
    refine nd (by decide) _ _ _ ?_
    (repeat (first | ((conv => whnf); (with_reducible refine And.intro ?_ ?_); (focus (first | exact Eq.refl _ | exact trivial | exact Int.natCast_nonneg _ | assumption | exact Nat.le_of_ble_eq_true (Eq.refl true) | decide))))); (conv => whnf)
    refine AWP.seq ?_
    refine nd (by decide) _ _ _ ?_
    (repeat (first | ((conv => whnf); (with_reducible refine And.intro ?_ ?_); (focus (first | exact Eq.refl _ | exact trivial | exact Int.natCast_nonneg _ | assumption | exact Nat.le_of_ble_eq_true (Eq.refl true) | decide))))); (conv => whnf)
    refine AWP.seq ?_
    refine AWP.seq ?_
    refine nd (by decide) _ _ _ ?_
    (repeat (first | ((conv => whnf); (with_reducible refine And.intro ?_ ?_); (focus (first | exact Eq.refl _ | exact trivial | exact Int.natCast_nonneg _ | assumption | exact Nat.le_of_ble_eq_true (Eq.refl true) | decide))))); (conv => whnf)
    intro hlen1
    (try rw [List.length_map] at hlen1)
    (try rw [List.length_map])
    (repeat (first | ((conv => whnf); (with_reducible refine And.intro ?_ ?_); (focus (first | exact Eq.refl _ | exact trivial | exact Int.natCast_nonneg _ | assumption | exact Nat.le_of_ble_eq_true (Eq.refl true) | decide))))); (conv => whnf)
    refine AWP.block ?_
    refine AWP.loop ?_
    refine AWL.weak (rn []) ?_ (ih_values_depth_l1 0 v 0 v.fKids _ hF ([]) rfl rfl hlen1)
    exact (WS.mk (wt_cons (wd_c (WE.refl _)) (wt_cons (wd_c (WE.refl _)) (wt_cons (wd_c (WE.refl _)) (wt_cons (wd_c (WE.refl _)) wt_nil)))) wb_nil)
  · intro values_depth' values_depth_l1' ih_values_depth ih_values_depth_l1 n_3 v x_9 x_9_s_ r hF
    unfold values_depth_l1.M
    intro pre_x_9 hs_x_9 hk_x_9 hlen1
    refine AWL.step ?_
    refine AWP.seq ?_
    refine nd (by decide) _ _ _ ?_
    (repeat (first | ((conv => whnf); (with_reducible refine And.intro ?_ ?_); (focus (first | exact Eq.refl _ | exact trivial | exact Int.natCast_nonneg _ | assumption | exact Nat.le_of_ble_eq_true (Eq.refl true) | decide))))); (conv => whnf)
    refine AWP.seq ?_
    refine nd (by decide) _ _ _ ?_
    (conv => whnf)
    refine branch_list hs_x_9 hk_x_9 (fun x11 xs12 hp13 hx13 hl13 => ?_) (fun hp13 => ?_)
    · subst hp13
      refine nd (by decide) _ _ _ ?_
      (conv => whnf)
      refine AWP.seq ?_
      refine AWP.block ?_
      refine AWP.seq ?_
      refine nd (by decide) _ _ _ ?_
      (repeat (first | ((conv => whnf); (with_reducible refine And.intro ?_ ?_); (focus (first | exact Eq.refl _ | exact trivial | exact Int.natCast_nonneg _ | assumption | exact Nat.le_of_ble_eq_true (Eq.refl true) | decide))) | ((conv => whnf); rw [map_get (TValue.cells_eq x11) hx13]))); (conv => whnf)
      (repeat (first | ((conv => whnf); (with_reducible refine And.intro ?_ ?_); (focus (first | exact Eq.refl _ | exact trivial | exact Int.natCast_nonneg _ | assumption | exact Nat.le_of_ble_eq_true (Eq.refl true) | decide))))); (conv => whnf)
      obtain ⟨r14, hr14, hF⟩ := bind_some hF
      refine nd (by decide) _ _ _ ?_
      (repeat (first | ((conv => whnf); (with_reducible refine And.intro ?_ ?_); (focus (first | exact Eq.refl _ | exact trivial | exact Int.natCast_nonneg _ | assumption | exact Nat.le_of_ble_eq_true (Eq.refl true) | decide))))); (conv => whnf)
      refine Exists.intro [] ?_
      (repeat (first | ((conv => whnf); (with_reducible refine And.intro ?_ ?_); (focus (first | exact Eq.refl _ | exact trivial | exact Int.natCast_nonneg _ | assumption | exact Nat.le_of_ble_eq_true (Eq.refl true) | decide))))); (conv => whnf)
      refine CallsX.mono (CallsX.weak (rn []) (ih_values_depth x11 _ hr14) rfl (WS.mk (wt_cons (wd_agg (wl_cons (WE.refl _) (wl_cons (WE.refl _) (wl_cons (WE.refl _) (wl_cons (WE.refl _) (wl_cons (WE.refl _) (wl_cons (WE.refl _) wl_nil))))))) wt_nil) wb_nil)) ?_
      rintro d b ⟨rfl, rfl⟩
      (repeat (first | ((conv => whnf); (with_reducible refine And.intro ?_ ?_); (focus (first | exact Eq.refl _ | exact trivial | exact Int.natCast_nonneg _ | assumption | exact Nat.le_of_ble_eq_true (Eq.refl true) | decide))))); (conv => whnf)
      (repeat (first | ((conv => whnf); (with_reducible refine And.intro ?_ ?_); (focus (first | exact Eq.refl _ | exact trivial | exact Int.natCast_nonneg _ | assumption | exact Nat.le_of_ble_eq_true (Eq.refl true) | decide))))); (conv => whnf)
      refine nd (by decide) _ _ _ ?_
      (repeat (first | ((conv => whnf); (with_reducible refine And.intro ?_ ?_); (focus (first | exact Eq.refl _ | exact trivial | exact Int.natCast_nonneg _ | assumption | exact Nat.le_of_ble_eq_true (Eq.refl true) | decide))))); (conv => whnf)
      refine AWL.weak (rn []) ?_ (ih_values_depth_l1 (if r14 > n_3 then r14 else n_3) v (x_9 + 1) xs12 _ hF (pre_x_9 ++ [x11]) (by rw [hs_x_9]; simp) (by rw [hk_x_9]; simp) hlen1)
      exact (WS.mk (wt_cons (wd_c (WE.refl _)) (wt_cons (wd_c (WE.refl _)) (wt_cons (wd_c (WE.refl _)) (wt_cons (wd_c (we_i (wrap_succ hlen1 hl13))) wt_nil)))) wb_nil)
    · subst hp13
      refine nd (by decide) _ _ _ ?_
      (conv => whnf)
      refine AWP.seq ?_
      refine nd (by decide) _ _ _ ?_
      (repeat (first | ((conv => whnf); (with_reducible refine And.intro ?_ ?_); (focus (first | exact Eq.refl _ | exact trivial | exact Int.natCast_nonneg _ | assumption | exact Nat.le_of_ble_eq_true (Eq.refl true) | decide))))); (conv => whnf)
      obtain rfl := some_eq hF
      refine nd (by decide) _ _ _ ?_
      (repeat (first | ((conv => whnf); (with_reducible refine And.intro ?_ ?_); (focus (first | exact Eq.refl _ | exact trivial | exact Int.natCast_nonneg _ | assumption | exact Nat.le_of_ble_eq_true (Eq.refl true) | decide))))); (conv => whnf)
      exact Exists.intro (rn []) (WS.mk (wt_cons (wd_c (WE.refl _)) wt_nil) wb_nil)
theorem values_depth_ok : ∀ (v : TValue), ∀ r, values_depth v = some r → values_depth.M v r := values_depth_all.1
theorem values_depth_l1_ok : ∀ (n_3 : Int) (v : TValue) (x_9 : Nat) (x_9_s_ : (List TValue)), ∀ r, values_depth_l1 n_3 v x_9 x_9_s_ = some r → values_depth_l1.M n_3 v x_9 x_9_s_ r := values_depth_all.2
end Go.Proofs.YtafniolcakiljaaDoor

set_option linter.unusedVariables false
set_option linter.unusedSimpArgs false
set_option maxRecDepth 100000
set_option maxHeartbeats 4000000
namespace Go.Proofs.YtafniolcakiljaaDoor
open Go Go.Am
def values_constructor_l1 (s : ByteArray) (i_3 : Nat) : Option (Bool) :=
  if (decide (((i_3 : Nat) : Int) < ((s.size : Nat) : Int))) = true then
  (btI s ((i_3 : Nat) : Int)) >>= fun y40 =>
  (if (decide (((y40.toNat : Nat) : Int) < 33)) = true then some true else (btI s ((i_3 : Nat) : Int)) >>= fun y41 =>
  some (decide (((y41.toNat : Nat) : Int) > 126))) >>= fun c42 =>
  if c42 = true then
  some false
  else
  guardP (i_3 + 1 ≤ 9223372036854775807) >>= fun _ =>
  values_constructor_l1 s (i_3 + 1)
  else
  (btI s 0) >>= fun y46 =>
  (if (decide (((y46.toNat : Nat) : Int) ≥ 65)) = true then (btI s 0) >>= fun y47 =>
  some (decide (((y47.toNat : Nat) : Int) ≤ 90)) else some false) >>= fun c48 =>
  (if c48 = true then some true else (btI s 0) >>= fun y49 =>
  some (((y49.toNat : Nat) : Int) == 58)) >>= fun c50 =>
  (if c50 = true then some true else (btI s 0) >>= fun y51 =>
  some (((y51.toNat : Nat) : Int) == 91)) >>= fun c52 =>
  (if c52 = true then some true else (btI s 0) >>= fun y53 =>
  some (((y53.toNat : Nat) : Int) == 40)) >>= fun c54 =>
  some c54
  partial_fixpoint
def values_constructor_l1.M (s : ByteArray) (i_3 : Nat) (r : Bool) : Prop :=
  AWL Tryd.prog 54 (Code.sub (bodyOf Tryd.f58) [1, 1, 0, 1, 0, 0]) (Code.cont Tryd.prog 54 (bodyOf Tryd.f58) [1, 1, 0, 1, 0] (endK tab Tryd.f58.results [] (WRes (.c none (.v (.bool r))) []))) ⟨[(0, .c none (.v (.string s))), (3, .c none (.v (.int .i64 ((i_3 : Nat) : Int))))], []⟩
theorem values_constructor_l1_ok (s : ByteArray) (i_3 : Nat) : ∀ r, values_constructor_l1 s i_3 = some r → values_constructor_l1.M s i_3 r := by
  refine values_constructor_l1.partial_correctness s (fun i_3 r => values_constructor_l1.M s i_3 r) ?_ i_3
  intro values_constructor_l1' ih0_values_constructor_l1 i_3 r hF
  have ih_values_constructor_l1 := fun (_s : ByteArray) (i_3 : Nat) => ih0_values_constructor_l1 i_3
  clear ih0_values_constructor_l1
  unfold values_constructor_l1.M
  refine AWL.step ?_
  refine AWP.seq ?_
  refine AWP.seq ?_
  refine nd (by decide) _ _ _ ?_
  (repeat (first | ((conv => whnf); (with_reducible refine And.intro ?_ ?_); (focus (first | exact Eq.refl _ | exact trivial | exact Int.natCast_nonneg _ | assumption | exact Nat.le_of_ble_eq_true (Eq.refl true) | decide))))); (conv => whnf)
  refine nd (by decide) _ _ _ ?_
  (conv => whnf)
  refine branch_hF hF (fun hc39 hF => ?_) (fun hc39 hF => ?_)
  · refine nd (by decide) _ _ _ ?_
    (conv => whnf)
    refine AWP.seq ?_
    refine AWP.block ?_
    refine AWP.seq ?_
    obtain ⟨y40, hy400, hy40, hF⟩ := bt_some hF
    obtain ⟨c42, hc42, hF⟩ := bind_some hF
    refine AWP.cutN (fun T => ∃ r, WS r T ⟨[(0, .c none (.v (.string s))), (3, .c none (.v (.int .i64 ((i_3 : Nat) : Int)))), (30, .c none (.v (.bool c42)))], []⟩) ?_ (fun T hw => ?_)
    · refine nd (by decide) _ _ _ ?_
      (repeat (first | ((conv => whnf); (with_reducible refine And.intro ?_ ?_); (focus (first | exact Eq.refl _ | exact trivial | exact Int.natCast_nonneg _ | assumption | exact Nat.le_of_ble_eq_true (Eq.refl true) | decide))) | ((conv => whnf); rw [hy40]))); (conv => whnf)
      (repeat (first | ((conv => whnf); (with_reducible refine And.intro ?_ ?_); (focus (first | exact Eq.refl _ | exact trivial | exact Int.natCast_nonneg _ | assumption | exact Nat.le_of_ble_eq_true (Eq.refl true) | decide))))); (conv => whnf)
      refine branchG_intro false (fun hc43 => ?_) (fun hc43 => ?_)
      · have hc42 := if_then (by first | assumption | exact Eq.refl _ | simp only [hc43, Bool.and_true, Bool.true_and, Bool.and_false, Bool.false_and, Bool.or_true, Bool.true_or, Bool.or_false, Bool.false_or, Bool.not_true, Bool.not_false, cond_true, cond_false, List.length_map]) hc42
        (conv => whnf)
        obtain rfl := some_eq hc42
        (repeat (first | ((conv => whnf); (with_reducible refine And.intro ?_ ?_); (focus (first | exact Eq.refl _ | exact trivial | exact Int.natCast_nonneg _ | assumption | exact Nat.le_of_ble_eq_true (Eq.refl true) | decide))))); (conv => whnf)
        exact Exists.intro (rn []) (WS.mk (wt_cons (wd_c (WE.refl _)) (wt_cons (wd_c (WE.refl _)) (wt_cons (wd_c (we_b (by first | exact Eq.refl _ | simp only [hc43, Bool.and_true, Bool.true_and, Bool.and_false, Bool.false_and, Bool.or_true, Bool.true_or, Bool.or_false, Bool.false_or, Bool.not_true, Bool.not_false, cond_true, cond_false, List.length_map]))) wt_nil))) wb_nil)
      · have hc42 := if_else (by first | assumption | exact Eq.refl _ | simp only [hc43, Bool.and_true, Bool.true_and, Bool.and_false, Bool.false_and, Bool.or_true, Bool.true_or, Bool.or_false, Bool.false_or, Bool.not_true, Bool.not_false, cond_true, cond_false, List.length_map]) hc42
        obtain ⟨y41, hy410, hy41, hc42⟩ := bt_some hc42
        (conv => whnf)
        (repeat (first | ((conv => whnf); (with_reducible refine And.intro ?_ ?_); (focus (first | exact Eq.refl _ | exact trivial | exact Int.natCast_nonneg _ | assumption | exact Nat.le_of_ble_eq_true (Eq.refl true) | decide))) | ((conv => whnf); rw [hy41]))); (conv => whnf)
        obtain rfl := some_eq hc42
        (repeat (first | ((conv => whnf); (with_reducible refine And.intro ?_ ?_); (focus (first | exact Eq.refl _ | exact trivial | exact Int.natCast_nonneg _ | assumption | exact Nat.le_of_ble_eq_true (Eq.refl true) | decide))))); (conv => whnf)
        exact Exists.intro (rn []) (WS.mk (wt_cons (wd_c (WE.refl _)) (wt_cons (wd_c (WE.refl _)) (wt_cons (wd_c (we_b (by first | exact Eq.refl _ | simp only [hc43, Bool.and_true, Bool.true_and, Bool.and_false, Bool.false_and, Bool.or_true, Bool.true_or, Bool.or_false, Bool.false_or, Bool.not_true, Bool.not_false, cond_true, cond_false, List.length_map]))) wt_nil))) wb_nil)
    obtain ⟨r0, hw⟩ := hw
    (conv => whnf)
    refine AWP.weak r0 hw ?_
    refine nd (by decide) _ _ _ ?_
    (conv => whnf)
    refine branch_hF hF (fun hc44 hF => ?_) (fun hc44 hF => ?_)
    · refine AWP.seq ?_
      refine nd (by decide) _ _ _ ?_
      (repeat (first | ((conv => whnf); (with_reducible refine And.intro ?_ ?_); (focus (first | exact Eq.refl _ | exact trivial | exact Int.natCast_nonneg _ | assumption | exact Nat.le_of_ble_eq_true (Eq.refl true) | decide))))); (conv => whnf)
      obtain rfl := some_eq hF
      refine nd (by decide) _ _ _ ?_
      (repeat (first | ((conv => whnf); (with_reducible refine And.intro ?_ ?_); (focus (first | exact Eq.refl _ | exact trivial | exact Int.natCast_nonneg _ | assumption | exact Nat.le_of_ble_eq_true (Eq.refl true) | decide))))); (conv => whnf)
      exact Exists.intro (rn []) (WS.mk (wt_cons (wd_c (WE.refl _)) wt_nil) wb_nil)
    · refine nd (by decide) _ _ _ ?_
      (conv => whnf)
      obtain ⟨hg45, hF⟩ := guard_some hF
      refine nd (by decide) _ _ _ ?_
      (repeat (first | ((conv => whnf); (with_reducible refine And.intro ?_ ?_); (focus (first | exact Eq.refl _ | exact trivial | exact Int.natCast_nonneg _ | assumption | exact Nat.le_of_ble_eq_true (Eq.refl true) | decide))))); (conv => whnf)
      refine AWL.weak (rn []) ?_ (ih_values_constructor_l1 s (i_3 + 1) _ hF)
      exact (WS.mk (wt_cons (wd_c (WE.refl _)) (wt_cons (wd_c (we_i (wrap_nat hg45))) wt_nil)) wb_nil)
  · refine nd (by decide) _ _ _ ?_
    (conv => whnf)
    refine AWP.seq ?_
    obtain ⟨y46, hy460, hy46, hF⟩ := bt_some hF
    obtain ⟨c48, hc48, hF⟩ := bind_some hF
    obtain ⟨c50, hc50, hF⟩ := bind_some hF
    obtain ⟨c52, hc52, hF⟩ := bind_some hF
    obtain ⟨c54, hc54, hF⟩ := bind_some hF
    refine AWP.cutN (fun T => ∃ r, WS r T ⟨[(2, .c none (.v (.bool c54)))], []⟩) ?_ (fun T hw => ?_)
    · refine nd (by decide) _ _ _ ?_
      (repeat (first | ((conv => whnf); (with_reducible refine And.intro ?_ ?_); (focus (first | exact Eq.refl _ | exact trivial | exact Int.natCast_nonneg _ | assumption | exact Nat.le_of_ble_eq_true (Eq.refl true) | decide))) | ((conv => whnf); rw [hy46]))); (conv => whnf)
      (repeat (first | ((conv => whnf); (with_reducible refine And.intro ?_ ?_); (focus (first | exact Eq.refl _ | exact trivial | exact Int.natCast_nonneg _ | assumption | exact Nat.le_of_ble_eq_true (Eq.refl true) | decide))))); (conv => whnf)
      refine branchG_intro true (fun hc55 => ?_) (fun hc55 => ?_)
      · have hc48 := if_then (by first | assumption | exact Eq.refl _ | simp only [hc55, Bool.and_true, Bool.true_and, Bool.and_false, Bool.false_and, Bool.or_true, Bool.true_or, Bool.or_false, Bool.false_or, Bool.not_true, Bool.not_false, cond_true, cond_false, List.length_map]) hc48
        obtain ⟨y47, hy470, hy47, hc48⟩ := bt_some hc48
        (conv => whnf)
        (repeat (first | ((conv => whnf); (with_reducible refine And.intro ?_ ?_); (focus (first | exact Eq.refl _ | exact trivial | exact Int.natCast_nonneg _ | assumption | exact Nat.le_of_ble_eq_true (Eq.refl true) | decide))) | ((conv => whnf); rw [hy47]))); (conv => whnf)
        obtain rfl := some_eq hc48
        (repeat (first | ((conv => whnf); (with_reducible refine And.intro ?_ ?_); (focus (first | exact Eq.refl _ | exact trivial | exact Int.natCast_nonneg _ | assumption | exact Nat.le_of_ble_eq_true (Eq.refl true) | decide))))); (conv => whnf)
        refine branchG_intro false (fun hc56 => ?_) (fun hc56 => ?_)
        · have hc50 := if_then (by first | assumption | exact Eq.refl _ | simp only [hc55, hc56, Bool.and_true, Bool.true_and, Bool.and_false, Bool.false_and, Bool.or_true, Bool.true_or, Bool.or_false, Bool.false_or, Bool.not_true, Bool.not_false, cond_true, cond_false, List.length_map]) hc50
          (conv => whnf)
          obtain rfl := some_eq hc50
          have hc52 := if_then (by first | assumption | exact Eq.refl _ | simp only [hc55, hc56, Bool.and_true, Bool.true_and, Bool.and_false, Bool.false_and, Bool.or_true, Bool.true_or, Bool.or_false, Bool.false_or, Bool.not_true, Bool.not_false, cond_true, cond_false, List.length_map]) hc52
          obtain rfl := some_eq hc52
          have hc54 := if_then (by first | assumption | exact Eq.refl _ | simp only [hc55, hc56, Bool.and_true, Bool.true_and, Bool.and_false, Bool.false_and, Bool.or_true, Bool.true_or, Bool.or_false, Bool.false_or, Bool.not_true, Bool.not_false, cond_true, cond_false, List.length_map]) hc54
          obtain rfl := some_eq hc54
          (repeat (first | ((conv => whnf); (with_reducible refine And.intro ?_ ?_); (focus (first | exact Eq.refl _ | exact trivial | exact Int.natCast_nonneg _ | assumption | exact Nat.le_of_ble_eq_true (Eq.refl true) | decide))))); (conv => whnf)
          exact Exists.intro (rn []) (WS.mk (wt_cons (wd_c (we_b (by first | exact Eq.refl _ | simp only [hc55, hc56, Bool.and_true, Bool.true_and, Bool.and_false, Bool.false_and, Bool.or_true, Bool.true_or, Bool.or_false, Bool.false_or, Bool.not_true, Bool.not_false, cond_true, cond_false, List.length_map]))) wt_nil) wb_nil)
        · have hc50 := if_else (by first | assumption | exact Eq.refl _ | simp only [hc55, hc56, Bool.and_true, Bool.true_and, Bool.and_false, Bool.false_and, Bool.or_true, Bool.true_or, Bool.or_false, Bool.false_or, Bool.not_true, Bool.not_false, cond_true, cond_false, List.length_map]) hc50
          obtain ⟨y49, hy490, hy49, hc50⟩ := bt_some hc50
          (conv => whnf)
          (repeat (first | ((conv => whnf); (with_reducible refine And.intro ?_ ?_); (focus (first | exact Eq.refl _ | exact trivial | exact Int.natCast_nonneg _ | assumption | exact Nat.le_of_ble_eq_true (Eq.refl true) | decide))) | ((conv => whnf); rw [hy49]))); (conv => whnf)
          obtain rfl := some_eq hc50
          (repeat (first | ((conv => whnf); (with_reducible refine And.intro ?_ ?_); (focus (first | exact Eq.refl _ | exact trivial | exact Int.natCast_nonneg _ | assumption | exact Nat.le_of_ble_eq_true (Eq.refl true) | decide))))); (conv => whnf)
          refine branchG_intro false (fun hc57 => ?_) (fun hc57 => ?_)
          · have hc52 := if_then (by first | assumption | exact Eq.refl _ | simp only [hc55, hc56, hc57, Bool.and_true, Bool.true_and, Bool.and_false, Bool.false_and, Bool.or_true, Bool.true_or, Bool.or_false, Bool.false_or, Bool.not_true, Bool.not_false, cond_true, cond_false, List.length_map]) hc52
            (conv => whnf)
            obtain rfl := some_eq hc52
            have hc54 := if_then (by first | assumption | exact Eq.refl _ | simp only [hc55, hc56, hc57, Bool.and_true, Bool.true_and, Bool.and_false, Bool.false_and, Bool.or_true, Bool.true_or, Bool.or_false, Bool.false_or, Bool.not_true, Bool.not_false, cond_true, cond_false, List.length_map]) hc54
            obtain rfl := some_eq hc54
            (repeat (first | ((conv => whnf); (with_reducible refine And.intro ?_ ?_); (focus (first | exact Eq.refl _ | exact trivial | exact Int.natCast_nonneg _ | assumption | exact Nat.le_of_ble_eq_true (Eq.refl true) | decide))))); (conv => whnf)
            exact Exists.intro (rn []) (WS.mk (wt_cons (wd_c (we_b (by first | exact Eq.refl _ | simp only [hc55, hc56, hc57, Bool.and_true, Bool.true_and, Bool.and_false, Bool.false_and, Bool.or_true, Bool.true_or, Bool.or_false, Bool.false_or, Bool.not_true, Bool.not_false, cond_true, cond_false, List.length_map]))) wt_nil) wb_nil)
          · have hc52 := if_else (by first | assumption | exact Eq.refl _ | simp only [hc55, hc56, hc57, Bool.and_true, Bool.true_and, Bool.and_false, Bool.false_and, Bool.or_true, Bool.true_or, Bool.or_false, Bool.false_or, Bool.not_true, Bool.not_false, cond_true, cond_false, List.length_map]) hc52
            obtain ⟨y51, hy510, hy51, hc52⟩ := bt_some hc52
            (conv => whnf)
            (repeat (first | ((conv => whnf); (with_reducible refine And.intro ?_ ?_); (focus (first | exact Eq.refl _ | exact trivial | exact Int.natCast_nonneg _ | assumption | exact Nat.le_of_ble_eq_true (Eq.refl true) | decide))) | ((conv => whnf); rw [hy51]))); (conv => whnf)
            obtain rfl := some_eq hc52
            (repeat (first | ((conv => whnf); (with_reducible refine And.intro ?_ ?_); (focus (first | exact Eq.refl _ | exact trivial | exact Int.natCast_nonneg _ | assumption | exact Nat.le_of_ble_eq_true (Eq.refl true) | decide))))); (conv => whnf)
            refine branchG_intro false (fun hc58 => ?_) (fun hc58 => ?_)
            · have hc54 := if_then (by first | assumption | exact Eq.refl _ | simp only [hc55, hc56, hc57, hc58, Bool.and_true, Bool.true_and, Bool.and_false, Bool.false_and, Bool.or_true, Bool.true_or, Bool.or_false, Bool.false_or, Bool.not_true, Bool.not_false, cond_true, cond_false, List.length_map]) hc54
              (conv => whnf)
              obtain rfl := some_eq hc54
              (repeat (first | ((conv => whnf); (with_reducible refine And.intro ?_ ?_); (focus (first | exact Eq.refl _ | exact trivial | exact Int.natCast_nonneg _ | assumption | exact Nat.le_of_ble_eq_true (Eq.refl true) | decide))))); (conv => whnf)
              exact Exists.intro (rn []) (WS.mk (wt_cons (wd_c (we_b (by first | exact Eq.refl _ | simp only [hc55, hc56, hc57, hc58, Bool.and_true, Bool.true_and, Bool.and_false, Bool.false_and, Bool.or_true, Bool.true_or, Bool.or_false, Bool.false_or, Bool.not_true, Bool.not_false, cond_true, cond_false, List.length_map]))) wt_nil) wb_nil)
            · have hc54 := if_else (by first | assumption | exact Eq.refl _ | simp only [hc55, hc56, hc57, hc58, Bool.and_true, Bool.true_and, Bool.and_false, Bool.false_and, Bool.or_true, Bool.true_or, Bool.or_false, Bool.false_or, Bool.not_true, Bool.not_false, cond_true, cond_false, List.length_map]) hc54
              obtain ⟨y53, hy530, hy53, hc54⟩ := bt_some hc54
              (conv => whnf)
              (repeat (first | ((conv => whnf); (with_reducible refine And.intro ?_ ?_); (focus (first | exact Eq.refl _ | exact trivial | exact Int.natCast_nonneg _ | assumption | exact Nat.le_of_ble_eq_true (Eq.refl true) | decide))) | ((conv => whnf); rw [hy53]))); (conv => whnf)
              obtain rfl := some_eq hc54
              (repeat (first | ((conv => whnf); (with_reducible refine And.intro ?_ ?_); (focus (first | exact Eq.refl _ | exact trivial | exact Int.natCast_nonneg _ | assumption | exact Nat.le_of_ble_eq_true (Eq.refl true) | decide))))); (conv => whnf)
              exact Exists.intro (rn []) (WS.mk (wt_cons (wd_c (we_b (by first | exact Eq.refl _ | simp only [hc55, hc56, hc57, hc58, Bool.and_true, Bool.true_and, Bool.and_false, Bool.false_and, Bool.or_true, Bool.true_or, Bool.or_false, Bool.false_or, Bool.not_true, Bool.not_false, cond_true, cond_false, List.length_map]))) wt_nil) wb_nil)
      · have hc48 := if_else (by first | assumption | exact Eq.refl _ | simp only [hc55, Bool.and_true, Bool.true_and, Bool.and_false, Bool.false_and, Bool.or_true, Bool.true_or, Bool.or_false, Bool.false_or, Bool.not_true, Bool.not_false, cond_true, cond_false, List.length_map]) hc48
        (conv => whnf)
        obtain rfl := some_eq hc48
        have hc50 := if_else (by first | assumption | exact Eq.refl _ | simp only [hc55, Bool.and_true, Bool.true_and, Bool.and_false, Bool.false_and, Bool.or_true, Bool.true_or, Bool.or_false, Bool.false_or, Bool.not_true, Bool.not_false, cond_true, cond_false, List.length_map]) hc50
        obtain ⟨y49, hy490, hy49, hc50⟩ := bt_some hc50
        (repeat (first | ((conv => whnf); (with_reducible refine And.intro ?_ ?_); (focus (first | exact Eq.refl _ | exact trivial | exact Int.natCast_nonneg _ | assumption | exact Nat.le_of_ble_eq_true (Eq.refl true) | decide))) | ((conv => whnf); rw [hy49]))); (conv => whnf)
        obtain rfl := some_eq hc50
        (repeat (first | ((conv => whnf); (with_reducible refine And.intro ?_ ?_); (focus (first | exact Eq.refl _ | exact trivial | exact Int.natCast_nonneg _ | assumption | exact Nat.le_of_ble_eq_true (Eq.refl true) | decide))))); (conv => whnf)
        refine branchG_intro false (fun hc59 => ?_) (fun hc59 => ?_)
        · have hc52 := if_then (by first | assumption | exact Eq.refl _ | simp only [hc55, hc59, Bool.and_true, Bool.true_and, Bool.and_false, Bool.false_and, Bool.or_true, Bool.true_or, Bool.or_false, Bool.false_or, Bool.not_true, Bool.not_false, cond_true, cond_false, List.length_map]) hc52
          (conv => whnf)
          obtain rfl := some_eq hc52
          have hc54 := if_then (by first | assumption | exact Eq.refl _ | simp only [hc55, hc59, Bool.and_true, Bool.true_and, Bool.and_false, Bool.false_and, Bool.or_true, Bool.true_or, Bool.or_false, Bool.false_or, Bool.not_true, Bool.not_false, cond_true, cond_false, List.length_map]) hc54
          obtain rfl := some_eq hc54
          (repeat (first | ((conv => whnf); (with_reducible refine And.intro ?_ ?_); (focus (first | exact Eq.refl _ | exact trivial | exact Int.natCast_nonneg _ | assumption | exact Nat.le_of_ble_eq_true (Eq.refl true) | decide))))); (conv => whnf)
          exact Exists.intro (rn []) (WS.mk (wt_cons (wd_c (we_b (by first | exact Eq.refl _ | simp only [hc55, hc59, Bool.and_true, Bool.true_and, Bool.and_false, Bool.false_and, Bool.or_true, Bool.true_or, Bool.or_false, Bool.false_or, Bool.not_true, Bool.not_false, cond_true, cond_false, List.length_map]))) wt_nil) wb_nil)
        · have hc52 := if_else (by first | assumption | exact Eq.refl _ | simp only [hc55, hc59, Bool.and_true, Bool.true_and, Bool.and_false, Bool.false_and, Bool.or_true, Bool.true_or, Bool.or_false, Bool.false_or, Bool.not_true, Bool.not_false, cond_true, cond_false, List.length_map]) hc52
          obtain ⟨y51, hy510, hy51, hc52⟩ := bt_some hc52
          (conv => whnf)
          (repeat (first | ((conv => whnf); (with_reducible refine And.intro ?_ ?_); (focus (first | exact Eq.refl _ | exact trivial | exact Int.natCast_nonneg _ | assumption | exact Nat.le_of_ble_eq_true (Eq.refl true) | decide))) | ((conv => whnf); rw [hy51]))); (conv => whnf)
          obtain rfl := some_eq hc52
          (repeat (first | ((conv => whnf); (with_reducible refine And.intro ?_ ?_); (focus (first | exact Eq.refl _ | exact trivial | exact Int.natCast_nonneg _ | assumption | exact Nat.le_of_ble_eq_true (Eq.refl true) | decide))))); (conv => whnf)
          refine branchG_intro false (fun hc60 => ?_) (fun hc60 => ?_)
          · have hc54 := if_then (by first | assumption | exact Eq.refl _ | simp only [hc55, hc59, hc60, Bool.and_true, Bool.true_and, Bool.and_false, Bool.false_and, Bool.or_true, Bool.true_or, Bool.or_false, Bool.false_or, Bool.not_true, Bool.not_false, cond_true, cond_false, List.length_map]) hc54
            (conv => whnf)
            obtain rfl := some_eq hc54
            (repeat (first | ((conv => whnf); (with_reducible refine And.intro ?_ ?_); (focus (first | exact Eq.refl _ | exact trivial | exact Int.natCast_nonneg _ | assumption | exact Nat.le_of_ble_eq_true (Eq.refl true) | decide))))); (conv => whnf)
            exact Exists.intro (rn []) (WS.mk (wt_cons (wd_c (we_b (by first | exact Eq.refl _ | simp only [hc55, hc59, hc60, Bool.and_true, Bool.true_and, Bool.and_false, Bool.false_and, Bool.or_true, Bool.true_or, Bool.or_false, Bool.false_or, Bool.not_true, Bool.not_false, cond_true, cond_false, List.length_map]))) wt_nil) wb_nil)
          · have hc54 := if_else (by first | assumption | exact Eq.refl _ | simp only [hc55, hc59, hc60, Bool.and_true, Bool.true_and, Bool.and_false, Bool.false_and, Bool.or_true, Bool.true_or, Bool.or_false, Bool.false_or, Bool.not_true, Bool.not_false, cond_true, cond_false, List.length_map]) hc54
            obtain ⟨y53, hy530, hy53, hc54⟩ := bt_some hc54
            (conv => whnf)
            (repeat (first | ((conv => whnf); (with_reducible refine And.intro ?_ ?_); (focus (first | exact Eq.refl _ | exact trivial | exact Int.natCast_nonneg _ | assumption | exact Nat.le_of_ble_eq_true (Eq.refl true) | decide))) | ((conv => whnf); rw [hy53]))); (conv => whnf)
            obtain rfl := some_eq hc54
            (repeat (first | ((conv => whnf); (with_reducible refine And.intro ?_ ?_); (focus (first | exact Eq.refl _ | exact trivial | exact Int.natCast_nonneg _ | assumption | exact Nat.le_of_ble_eq_true (Eq.refl true) | decide))))); (conv => whnf)
            exact Exists.intro (rn []) (WS.mk (wt_cons (wd_c (we_b (by first | exact Eq.refl _ | simp only [hc55, hc59, hc60, Bool.and_true, Bool.true_and, Bool.and_false, Bool.false_and, Bool.or_true, Bool.true_or, Bool.or_false, Bool.false_or, Bool.not_true, Bool.not_false, cond_true, cond_false, List.length_map]))) wt_nil) wb_nil)
    obtain ⟨r0, hw⟩ := hw
    (conv => whnf)
    refine AWP.weak r0 hw ?_
    obtain rfl := some_eq hF
    refine nd (by decide) _ _ _ ?_
    (repeat (first | ((conv => whnf); (with_reducible refine And.intro ?_ ?_); (focus (first | exact Eq.refl _ | exact trivial | exact Int.natCast_nonneg _ | assumption | exact Nat.le_of_ble_eq_true (Eq.refl true) | decide))))); (conv => whnf)
    exact Exists.intro (rn []) (WS.mk (wt_cons (wd_c (WE.refl _)) wt_nil) wb_nil)
end Go.Proofs.YtafniolcakiljaaDoor

set_option linter.unusedVariables false
set_option linter.unusedSimpArgs false
set_option maxRecDepth 100000
set_option maxHeartbeats 4000000
namespace Go.Proofs.YtafniolcakiljaaDoor
open Go Go.Am
def values_constructor (s : ByteArray) : Option (Bool) :=
  if (((s.toList == (ByteArray.mk #[]).toList) || (s.toList == (ByteArray.mk #[40]).toList)) || (decide (((s.size : Nat) : Int) > 129))) = true then
  some false
  else
  values_constructor_l1 s 0
def values_constructor.M (s : ByteArray) (r : Bool) : Prop :=
  CallsX Tryd.prog 58 [.c none (.v (.string s))] [] (fun d b => d = .c none (.v (.bool r)) ∧ b = [])
theorem values_constructor_ok (s : ByteArray) (r : Bool) (hF : values_constructor s = some r) : values_constructor.M s r := by
  unfold values_constructor at hF
  unfold values_constructor.M
  refine enter tabOk Tryd.func58 rfl (by decide) (Nat.le_of_ble_eq_true rfl) rfl rfl rfl ?_
  refine AWP.seq ?_
  refine nd (by decide) _ _ _ ?_
  (repeat (first | ((conv => whnf); (with_reducible refine And.intro ?_ ?_); (focus (first | exact Eq.refl _ | exact trivial | exact Int.natCast_nonneg _ | assumption | exact Nat.le_of_ble_eq_true (Eq.refl true) | decide))))); (conv => whnf)
  refine AWP.seq ?_
  refine AWP.seq ?_
  refine AWP.cutN (fun T => ∃ r, WS r T ⟨[(0, .c none (.v (.string s))), (14, .c none (.v (.bool (((s.toList == (ByteArray.mk #[]).toList) || (s.toList == (ByteArray.mk #[40]).toList)) || (decide (((s.size : Nat) : Int) > 129))))))], []⟩) ?_ (fun T hw => ?_)
  · refine nd (by decide) _ _ _ ?_
    (repeat (first | ((conv => whnf); (with_reducible refine And.intro ?_ ?_); (focus (first | exact Eq.refl _ | exact trivial | exact Int.natCast_nonneg _ | assumption | exact Nat.le_of_ble_eq_true (Eq.refl true) | decide))))); (conv => whnf)
    refine branchG_intro false (fun hc2 => ?_) (fun hc2 => ?_)
    · (conv => whnf)
      (repeat (first | ((conv => whnf); (with_reducible refine And.intro ?_ ?_); (focus (first | exact Eq.refl _ | exact trivial | exact Int.natCast_nonneg _ | assumption | exact Nat.le_of_ble_eq_true (Eq.refl true) | decide))))); (conv => whnf)
      exact Exists.intro (rn []) (WS.mk (wt_cons (wd_c (WE.refl _)) (wt_cons (wd_c (we_b (by first | exact Eq.refl _ | simp only [hc2, Bool.and_true, Bool.true_and, Bool.and_false, Bool.false_and, Bool.or_true, Bool.true_or, Bool.or_false, Bool.false_or, Bool.not_true, Bool.not_false, cond_true, cond_false, List.length_map]))) wt_nil)) wb_nil)
    · (conv => whnf)
      (repeat (first | ((conv => whnf); (with_reducible refine And.intro ?_ ?_); (focus (first | exact Eq.refl _ | exact trivial | exact Int.natCast_nonneg _ | assumption | exact Nat.le_of_ble_eq_true (Eq.refl true) | decide))))); (conv => whnf)
      refine branchG_intro false (fun hc3 => ?_) (fun hc3 => ?_)
      · (conv => whnf)
        (repeat (first | ((conv => whnf); (with_reducible refine And.intro ?_ ?_); (focus (first | exact Eq.refl _ | exact trivial | exact Int.natCast_nonneg _ | assumption | exact Nat.le_of_ble_eq_true (Eq.refl true) | decide))))); (conv => whnf)
        exact Exists.intro (rn []) (WS.mk (wt_cons (wd_c (WE.refl _)) (wt_cons (wd_c (we_b (by first | exact Eq.refl _ | simp only [hc2, hc3, Bool.and_true, Bool.true_and, Bool.and_false, Bool.false_and, Bool.or_true, Bool.true_or, Bool.or_false, Bool.false_or, Bool.not_true, Bool.not_false, cond_true, cond_false, List.length_map]))) wt_nil)) wb_nil)
      · (conv => whnf)
        (repeat (first | ((conv => whnf); (with_reducible refine And.intro ?_ ?_); (focus (first | exact Eq.refl _ | exact trivial | exact Int.natCast_nonneg _ | assumption | exact Nat.le_of_ble_eq_true (Eq.refl true) | decide))))); (conv => whnf)
        exact Exists.intro (rn []) (WS.mk (wt_cons (wd_c (WE.refl _)) (wt_cons (wd_c (we_b (by first | exact Eq.refl _ | simp only [hc2, hc3, Bool.and_true, Bool.true_and, Bool.and_false, Bool.false_and, Bool.or_true, Bool.true_or, Bool.or_false, Bool.false_or, Bool.not_true, Bool.not_false, cond_true, cond_false, List.length_map]))) wt_nil)) wb_nil)
  obtain ⟨r0, hw⟩ := hw
  (conv => whnf)
  refine AWP.weak r0 hw ?_
  refine nd (by decide) _ _ _ ?_
  (conv => whnf)
  refine branch_hF hF (fun hc4 hF => ?_) (fun hc4 hF => ?_)
  · refine AWP.seq ?_
    refine nd (by decide) _ _ _ ?_
    (repeat (first | ((conv => whnf); (with_reducible refine And.intro ?_ ?_); (focus (first | exact Eq.refl _ | exact trivial | exact Int.natCast_nonneg _ | assumption | exact Nat.le_of_ble_eq_true (Eq.refl true) | decide))))); (conv => whnf)
    obtain rfl := some_eq hF
    refine nd (by decide) _ _ _ ?_
    (repeat (first | ((conv => whnf); (with_reducible refine And.intro ?_ ?_); (focus (first | exact Eq.refl _ | exact trivial | exact Int.natCast_nonneg _ | assumption | exact Nat.le_of_ble_eq_true (Eq.refl true) | decide))))); (conv => whnf)
    exact Exists.intro (rn []) (WS.mk (wt_cons (wd_c (WE.refl _)) wt_nil) wb_nil)
  · refine nd (by decide) _ _ _ ?_
    (conv => whnf)
    refine AWP.seq ?_
    refine AWP.seq ?_
    refine nd (by decide) _ _ _ ?_
    (repeat (first | ((conv => whnf); (with_reducible refine And.intro ?_ ?_); (focus (first | exact Eq.refl _ | exact trivial | exact Int.natCast_nonneg _ | assumption | exact Nat.le_of_ble_eq_true (Eq.refl true) | decide))))); (conv => whnf)
    refine AWP.block ?_
    refine AWP.loop ?_
    refine AWL.weak (rn []) ?_ (values_constructor_l1_ok s 0 _ hF)
    exact (WS.mk (wt_cons (wd_c (WE.refl _)) (wt_cons (wd_c (WE.refl _)) wt_nil)) wb_nil)
end Go.Proofs.YtafniolcakiljaaDoor

set_option linter.unusedVariables false
set_option linter.unusedSimpArgs false
set_option maxRecDepth 100000
set_option maxHeartbeats 4000000
namespace Go.Proofs.YtafniolcakiljaaDoor
open Go Go.Am
def values_noSet (s : TExcSet) : Option (Bool) :=
  some ((!s.fAll) && (((s.fList.length : Nat) : Int) == 0))
def values_noSet.M (s : TExcSet) (r : Bool) : Prop :=
  CallsX Tryd.prog 56 [.agg [.v (.bool s.fAll), .sl (s.fList.map TExc.cells)]] [] (fun d b => d = .c none (.v (.bool r)) ∧ b = [])
theorem values_noSet_ok (s : TExcSet) (r : Bool) (hF : values_noSet s = some r) : values_noSet.M s r := by
  unfold values_noSet at hF
  unfold values_noSet.M
  refine enter tabOk Tryd.func56 rfl (by decide) (Nat.le_of_ble_eq_true rfl) rfl rfl rfl ?_
  refine AWP.seq ?_
  refine nd (by decide) _ _ _ ?_
  (repeat (first | ((conv => whnf); (with_reducible refine And.intro ?_ ?_); (focus (first | exact Eq.refl _ | exact trivial | exact Int.natCast_nonneg _ | assumption | exact Nat.le_of_ble_eq_true (Eq.refl true) | decide))))); (conv => whnf)
  refine AWP.seq ?_
  refine AWP.cutN (fun T => ∃ r, WS r T ⟨[(2, .c none (.v (.bool ((!s.fAll) && (((s.fList.length : Nat) : Int) == 0)))))], []⟩) ?_ (fun T hw => ?_)
  · refine nd (by decide) _ _ _ ?_
    (repeat (first | ((conv => whnf); (with_reducible refine And.intro ?_ ?_); (focus (first | exact Eq.refl _ | exact trivial | exact Int.natCast_nonneg _ | assumption | exact Nat.le_of_ble_eq_true (Eq.refl true) | decide))))); (conv => whnf)
    refine branchG_intro true (fun hc2 => ?_) (fun hc2 => ?_)
    · (conv => whnf)
      (repeat (first | ((conv => whnf); (with_reducible refine And.intro ?_ ?_); (focus (first | exact Eq.refl _ | exact trivial | exact Int.natCast_nonneg _ | assumption | exact Nat.le_of_ble_eq_true (Eq.refl true) | decide))))); (conv => whnf)
      intro hlen1
      (try rw [List.length_map] at hlen1)
      (try rw [List.length_map])
      (repeat (first | ((conv => whnf); (with_reducible refine And.intro ?_ ?_); (focus (first | exact Eq.refl _ | exact trivial | exact Int.natCast_nonneg _ | assumption | exact Nat.le_of_ble_eq_true (Eq.refl true) | decide))))); (conv => whnf)
      exact Exists.intro (rn []) (WS.mk (wt_cons (wd_c (we_b (by first | exact Eq.refl _ | simp only [hc2, Bool.and_true, Bool.true_and, Bool.and_false, Bool.false_and, Bool.or_true, Bool.true_or, Bool.or_false, Bool.false_or, Bool.not_true, Bool.not_false, cond_true, cond_false, List.length_map]))) wt_nil) wb_nil)
    · (conv => whnf)
      (repeat (first | ((conv => whnf); (with_reducible refine And.intro ?_ ?_); (focus (first | exact Eq.refl _ | exact trivial | exact Int.natCast_nonneg _ | assumption | exact Nat.le_of_ble_eq_true (Eq.refl true) | decide))))); (conv => whnf)
      exact Exists.intro (rn []) (WS.mk (wt_cons (wd_c (we_b (by first | exact Eq.refl _ | simp only [hc2, Bool.and_true, Bool.true_and, Bool.and_false, Bool.false_and, Bool.or_true, Bool.true_or, Bool.or_false, Bool.false_or, Bool.not_true, Bool.not_false, cond_true, cond_false, List.length_map]))) wt_nil) wb_nil)
  obtain ⟨r0, hw⟩ := hw
  (conv => whnf)
  refine AWP.weak r0 hw ?_
  obtain rfl := some_eq hF
  refine nd (by decide) _ _ _ ?_
  (repeat (first | ((conv => whnf); (with_reducible refine And.intro ?_ ?_); (focus (first | exact Eq.refl _ | exact trivial | exact Int.natCast_nonneg _ | assumption | exact Nat.le_of_ble_eq_true (Eq.refl true) | decide))))); (conv => whnf)
  exact Exists.intro (rn []) (WS.mk (wt_cons (wd_c (WE.refl _)) wt_nil) wb_nil)
end Go.Proofs.YtafniolcakiljaaDoor

set_option linter.unusedVariables false
set_option linter.unusedSimpArgs false
set_option maxRecDepth 100000
set_option maxHeartbeats 4000000
namespace Go.Proofs.YtafniolcakiljaaDoor
open Go Go.Am
def values_compare (a : TExc) (b : TExc) : Option (Int) :=
  strings_Compare a.fCon b.fCon >>= fun r3 =>
  if (r3 != 0) = true then
  some r3
  else
  if (decide (a.fN < b.fN)) = true then
  some (-1)
  else
  if (decide (a.fN > b.fN)) = true then
  some 1
  else
  some 0
def values_compare.M (a : TExc) (b : TExc) (r : Int) : Prop :=
  CallsX Tryd.prog 65 [.agg [.v (.string a.fCon), .v (.int .i64 a.fN)], .agg [.v (.string b.fCon), .v (.int .i64 b.fN)]] [] (fun d b => d = .c none (.v (.int .i64 r)) ∧ b = [])
theorem values_compare_ok (a : TExc) (b : TExc) (r : Int) (hF : values_compare a b = some r) : values_compare.M a b r := by
  unfold values_compare at hF
  unfold values_compare.M
  refine enter tabOk Tryd.func65 rfl (by decide) (Nat.le_of_ble_eq_true rfl) rfl rfl rfl ?_
  refine AWP.seq ?_
  refine nd (by decide) _ _ _ ?_
  (repeat (first | ((conv => whnf); (with_reducible refine And.intro ?_ ?_); (focus (first | exact Eq.refl _ | exact trivial | exact Int.natCast_nonneg _ | assumption | exact Nat.le_of_ble_eq_true (Eq.refl true) | decide))))); (conv => whnf)
  refine AWP.seq ?_
  refine AWP.seq ?_
  obtain ⟨r3, hr3, hF⟩ := bind_some hF
  refine nd (by decide) _ _ _ ?_
  (repeat (first | ((conv => whnf); (with_reducible refine And.intro ?_ ?_); (focus (first | exact Eq.refl _ | exact trivial | exact Int.natCast_nonneg _ | assumption | exact Nat.le_of_ble_eq_true (Eq.refl true) | decide))))); (conv => whnf)
  refine Exists.intro [] ?_
  (repeat (first | ((conv => whnf); (with_reducible refine And.intro ?_ ?_); (focus (first | exact Eq.refl _ | exact trivial | exact Int.natCast_nonneg _ | assumption | exact Nat.le_of_ble_eq_true (Eq.refl true) | decide))))); (conv => whnf)
  refine CallsX.mono (CallsX.weak (rn []) (strings_Compare_ok a.fCon b.fCon _ hr3) rfl (WS.mk (wt_cons (wd_c (WE.refl _)) (wt_cons (wd_c (WE.refl _)) wt_nil)) wb_nil)) ?_
  rintro d b ⟨rfl, rfl⟩
  (repeat (first | ((conv => whnf); (with_reducible refine And.intro ?_ ?_); (focus (first | exact Eq.refl _ | exact trivial | exact Int.natCast_nonneg _ | assumption | exact Nat.le_of_ble_eq_true (Eq.refl true) | decide))))); (conv => whnf)
  (repeat (first | ((conv => whnf); (with_reducible refine And.intro ?_ ?_); (focus (first | exact Eq.refl _ | exact trivial | exact Int.natCast_nonneg _ | assumption | exact Nat.le_of_ble_eq_true (Eq.refl true) | decide))))); (conv => whnf)
  refine AWP.seq ?_
  refine nd (by decide) _ _ _ ?_
  (repeat (first | ((conv => whnf); (with_reducible refine And.intro ?_ ?_); (focus (first | exact Eq.refl _ | exact trivial | exact Int.natCast_nonneg _ | assumption | exact Nat.le_of_ble_eq_true (Eq.refl true) | decide))))); (conv => whnf)
  refine nd (by decide) _ _ _ ?_
  (conv => whnf)
  refine branch_hF hF (fun hc4 hF => ?_) (fun hc4 hF => ?_)
  · refine AWP.seq ?_
    refine nd (by decide) _ _ _ ?_
    (repeat (first | ((conv => whnf); (with_reducible refine And.intro ?_ ?_); (focus (first | exact Eq.refl _ | exact trivial | exact Int.natCast_nonneg _ | assumption | exact Nat.le_of_ble_eq_true (Eq.refl true) | decide))))); (conv => whnf)
    obtain rfl := some_eq hF
    refine nd (by decide) _ _ _ ?_
    (repeat (first | ((conv => whnf); (with_reducible refine And.intro ?_ ?_); (focus (first | exact Eq.refl _ | exact trivial | exact Int.natCast_nonneg _ | assumption | exact Nat.le_of_ble_eq_true (Eq.refl true) | decide))))); (conv => whnf)
    exact Exists.intro (rn []) (WS.mk (wt_cons (wd_c (WE.refl _)) wt_nil) wb_nil)
  · refine nd (by decide) _ _ _ ?_
    (conv => whnf)
    refine AWP.seq ?_
    refine AWP.seq ?_
    refine nd (by decide) _ _ _ ?_
    (repeat (first | ((conv => whnf); (with_reducible refine And.intro ?_ ?_); (focus (first | exact Eq.refl _ | exact trivial | exact Int.natCast_nonneg _ | assumption | exact Nat.le_of_ble_eq_true (Eq.refl true) | decide))))); (conv => whnf)
    refine nd (by decide) _ _ _ ?_
    (conv => whnf)
    refine branch_hF hF (fun hc6 hF => ?_) (fun hc6 hF => ?_)
    · refine AWP.seq ?_
      refine nd (by decide) _ _ _ ?_
      (repeat (first | ((conv => whnf); (with_reducible refine And.intro ?_ ?_); (focus (first | exact Eq.refl _ | exact trivial | exact Int.natCast_nonneg _ | assumption | exact Nat.le_of_ble_eq_true (Eq.refl true) | decide))))); (conv => whnf)
      obtain rfl := some_eq hF
      refine nd (by decide) _ _ _ ?_
      (repeat (first | ((conv => whnf); (with_reducible refine And.intro ?_ ?_); (focus (first | exact Eq.refl _ | exact trivial | exact Int.natCast_nonneg _ | assumption | exact Nat.le_of_ble_eq_true (Eq.refl true) | decide))))); (conv => whnf)
      exact Exists.intro (rn []) (WS.mk (wt_cons (wd_c (WE.refl _)) wt_nil) wb_nil)
    · refine nd (by decide) _ _ _ ?_
      (conv => whnf)
      refine AWP.seq ?_
      refine AWP.seq ?_
      refine nd (by decide) _ _ _ ?_
      (repeat (first | ((conv => whnf); (with_reducible refine And.intro ?_ ?_); (focus (first | exact Eq.refl _ | exact trivial | exact Int.natCast_nonneg _ | assumption | exact Nat.le_of_ble_eq_true (Eq.refl true) | decide))))); (conv => whnf)
      refine nd (by decide) _ _ _ ?_
      (conv => whnf)
      refine branch_hF hF (fun hc7 hF => ?_) (fun hc7 hF => ?_)
      · refine AWP.seq ?_
        refine nd (by decide) _ _ _ ?_
        (repeat (first | ((conv => whnf); (with_reducible refine And.intro ?_ ?_); (focus (first | exact Eq.refl _ | exact trivial | exact Int.natCast_nonneg _ | assumption | exact Nat.le_of_ble_eq_true (Eq.refl true) | decide))))); (conv => whnf)
        obtain rfl := some_eq hF
        refine nd (by decide) _ _ _ ?_
        (repeat (first | ((conv => whnf); (with_reducible refine And.intro ?_ ?_); (focus (first | exact Eq.refl _ | exact trivial | exact Int.natCast_nonneg _ | assumption | exact Nat.le_of_ble_eq_true (Eq.refl true) | decide))))); (conv => whnf)
        exact Exists.intro (rn []) (WS.mk (wt_cons (wd_c (WE.refl _)) wt_nil) wb_nil)
      · refine nd (by decide) _ _ _ ?_
        (conv => whnf)
        refine AWP.seq ?_
        refine nd (by decide) _ _ _ ?_
        (repeat (first | ((conv => whnf); (with_reducible refine And.intro ?_ ?_); (focus (first | exact Eq.refl _ | exact trivial | exact Int.natCast_nonneg _ | assumption | exact Nat.le_of_ble_eq_true (Eq.refl true) | decide))))); (conv => whnf)
        obtain rfl := some_eq hF
        refine nd (by decide) _ _ _ ?_
        (repeat (first | ((conv => whnf); (with_reducible refine And.intro ?_ ?_); (focus (first | exact Eq.refl _ | exact trivial | exact Int.natCast_nonneg _ | assumption | exact Nat.le_of_ble_eq_true (Eq.refl true) | decide))))); (conv => whnf)
        exact Exists.intro (rn []) (WS.mk (wt_cons (wd_c (WE.refl _)) wt_nil) wb_nil)
end Go.Proofs.YtafniolcakiljaaDoor

set_option linter.unusedVariables false
set_option linter.unusedSimpArgs false
set_option maxRecDepth 100000
set_option maxHeartbeats 4000000
namespace Go.Proofs.YtafniolcakiljaaDoor
open Go Go.Am
def values_validSet_l1 (s : TExcSet) (x_18 : Nat) (x_18_s_ : (List TExc)) : Option (Bool) :=
  (match x_18_s_ with
  | x25 :: xs26 =>
  values_constructor x25.fCon >>= fun r28 =>
  (if (!r28) = true then some true else (if (decide (((x_18 : Nat) : Int) > 0)) = true then (ixI s.fList (IntKind.i64.wrap (((x_18 : Nat) : Int) - 1))) >>= fun x29 =>
  values_compare x29 x25 >>= fun r30 =>
  some (decide (r30 ≥ 0)) else some false) >>= fun c31 =>
  some c31) >>= fun c32 =>
  if c32 = true then
  some false
  else
  values_validSet_l1 s (x_18 + 1) xs26
  | [] =>
  some true)
  partial_fixpoint
def values_validSet_l1.M (s : TExcSet) (x_18 : Nat) (x_18_s_ : (List TExc)) (r : Bool) : Prop :=
  ∀ pre_x_18 : List TExc, s.fList = pre_x_18 ++ x_18_s_ → x_18 = pre_x_18.length → s.fList.length ≤ maxLen → AWL Tryd.prog 43 (Code.sub (bodyOf Tryd.f57) [1, 1, 1, 0, 1, 0, 0]) (Code.cont Tryd.prog 43 (bodyOf Tryd.f57) [1, 1, 1, 0, 1, 0] (endK tab Tryd.f57.results [] (WRes (.c none (.v (.bool r))) []))) ⟨[(1, .ptr 1 0), (16, .c none (.sl (s.fList.map TExc.cells))), (17, .c none (.v (.int .i64 ((s.fList.length : Nat) : Int)))), (18, .c none (.v (.int .i64 ((x_18 : Nat) : Int))))], [(1, [(none, .v (.bool s.fAll)), (none, .sl (s.fList.map TExc.cells))])]⟩
theorem values_validSet_l1_ok (s : TExcSet) (x_18 : Nat) (x_18_s_ : (List TExc)) : ∀ r, values_validSet_l1 s x_18 x_18_s_ = some r → values_validSet_l1.M s x_18 x_18_s_ r := by
  refine values_validSet_l1.partial_correctness s (fun x_18 x_18_s_ r => values_validSet_l1.M s x_18 x_18_s_ r) ?_ x_18 x_18_s_
  intro values_validSet_l1' ih0_values_validSet_l1 x_18 x_18_s_ r hF
  have ih_values_validSet_l1 := fun (_s : TExcSet) (x_18 : Nat) (x_18_s_ : (List TExc)) => ih0_values_validSet_l1 x_18 x_18_s_
  clear ih0_values_validSet_l1
  unfold values_validSet_l1.M
  intro pre_x_18 hs_x_18 hk_x_18 hlen9
  refine AWL.step ?_
  refine AWP.seq ?_
  refine nd (by decide) _ _ _ ?_
  (repeat (first | ((conv => whnf); (with_reducible refine And.intro ?_ ?_); (focus (first | exact Eq.refl _ | exact trivial | exact Int.natCast_nonneg _ | assumption | exact Nat.le_of_ble_eq_true (Eq.refl true) | decide))))); (conv => whnf)
  refine AWP.seq ?_
  refine nd (by decide) _ _ _ ?_
  (conv => whnf)
  refine branch_list hs_x_18 hk_x_18 (fun x25 xs26 hp27 hx27 hl27 => ?_) (fun hp27 => ?_)
  · subst hp27
    refine nd (by decide) _ _ _ ?_
    (conv => whnf)
    refine AWP.seq ?_
    refine AWP.block ?_
    refine AWP.seq ?_
    refine nd (by decide) _ _ _ ?_
    (repeat (first | ((conv => whnf); (with_reducible refine And.intro ?_ ?_); (focus (first | exact Eq.refl _ | exact trivial | exact Int.natCast_nonneg _ | assumption | exact Nat.le_of_ble_eq_true (Eq.refl true) | decide))) | ((conv => whnf); rw [map_get (TExc.cells_eq x25) hx27]))); (conv => whnf)
    (repeat (first | ((conv => whnf); (with_reducible refine And.intro ?_ ?_); (focus (first | exact Eq.refl _ | exact trivial | exact Int.natCast_nonneg _ | assumption | exact Nat.le_of_ble_eq_true (Eq.refl true) | decide))))); (conv => whnf)
    refine AWP.seq ?_
    obtain ⟨r28, hr28, hF⟩ := bind_some hF
    obtain ⟨c32, hc32, hF⟩ := bind_some hF
    refine AWP.cutN (fun T => ∃ r, WS r T ⟨[(1, .ptr 1 0), (16, .c none (.sl (s.fList.map TExc.cells))), (17, .c none (.v (.int .i64 ((s.fList.length : Nat) : Int)))), (18, .c none (.v (.int .i64 ((x_18 : Nat) : Int)))), (41, .c none (.v (.bool c32)))], [(1, [(none, .v (.bool s.fAll)), (none, .sl (s.fList.map TExc.cells))])]⟩) ?_ (fun T hw => ?_)
    · refine nd (by decide) _ _ _ ?_
      refine Exists.intro 15 (Exists.intro [[], [], [], [], [], [], [], [], [], [], [], [], [], [], []] (Exists.intro [([23, 24, 25, 26, 27, 28, 29, 30, 31, 32, 33, 34, 35, 36, 37], [], []), ([24, 25, 26, 27, 28, 29, 30, 31, 32, 33, 34, 35, 36, 37], [], []), ([25, 26, 27, 28, 29, 30, 31, 32, 33, 34, 35, 36, 37], [], []), ([26, 27, 28, 29, 30, 31, 32, 33, 34, 35, 36, 37], [], []), ([27, 28, 29, 30, 31, 32, 33, 34, 35, 36, 37], [], []), ([28, 29, 30, 31, 32, 33, 34, 35, 36, 37], [], []), ([29, 30, 31, 32, 33, 34, 35, 36, 37], [], []), ([30, 31, 32, 33, 34, 35, 36, 37], [], []), ([31, 32, 33, 34, 35, 36, 37], [], []), ([32, 33, 34, 35, 36, 37], [], []), ([31, 32, 33, 34, 35, 36, 37], [], []), ([31, 32, 34, 35, 36, 37], [], []), ([35, 36, 37], [], []), ([36, 37], [], []), ([31, 32, 33, 34, 35, 36, 37], [], [])] (Exists.intro [23, 24, 25, 26, 27, 28, 29, 30, 31, 32, 33, 34, 35, 36, 37] (And.intro (by decide +kernel) ?_))))
      ((repeat (first | ((conv => whnf); (with_reducible refine And.intro ?_ ?_); (focus (first | exact Eq.refl _ | exact trivial | exact Int.natCast_nonneg _ | assumption | exact Nat.le_of_ble_eq_true (Eq.refl true) | decide))))); (conv => whnf); apply Exists.intro; apply Exists.intro; apply And.intro; (focus (((repeat (first | ((conv => whnf); (with_reducible refine And.intro ?_ ?_); (focus (first | exact Eq.refl _ | exact trivial | exact Int.natCast_nonneg _ | assumption | exact Nat.le_of_ble_eq_true (Eq.refl true) | decide))))); (conv => whnf)) <;> (exact rfl))); apply And.intro; (focus exact rfl); (conv => whnf))
      ((repeat (first | ((conv => whnf); (with_reducible refine And.intro ?_ ?_); (focus (first | exact Eq.refl _ | exact trivial | exact Int.natCast_nonneg _ | assumption | exact Nat.le_of_ble_eq_true (Eq.refl true) | decide))))); (conv => whnf); apply Exists.intro; apply Exists.intro; apply And.intro; (focus (((repeat (first | ((conv => whnf); (with_reducible refine And.intro ?_ ?_); (focus (first | exact Eq.refl _ | exact trivial | exact Int.natCast_nonneg _ | assumption | exact Nat.le_of_ble_eq_true (Eq.refl true) | decide))))); (conv => whnf)) <;> (exact rfl))); apply And.intro; (focus exact rfl); (conv => whnf))
      ((repeat (first | ((conv => whnf); (with_reducible refine And.intro ?_ ?_); (focus (first | exact Eq.refl _ | exact trivial | exact Int.natCast_nonneg _ | assumption | exact Nat.le_of_ble_eq_true (Eq.refl true) | decide))))); (conv => whnf); apply Exists.intro; apply Exists.intro; apply And.intro; (focus ((conv => whnf); refine And.intro rfl ?_; (conv => whnf); refine CallsX.mono (CallsX.weak (rn []) (values_constructor_ok x25.fCon _ hr28) rfl (WS.mk (wt_cons (wd_c (WE.refl _)) wt_nil) wb_nil)) ?_; rintro d b ⟨rfl, rfl⟩; exact And.intro rfl rfl)); apply And.intro; (focus exact rfl); (conv => whnf))
      ((repeat (first | ((conv => whnf); (with_reducible refine And.intro ?_ ?_); (focus (first | exact Eq.refl _ | exact trivial | exact Int.natCast_nonneg _ | assumption | exact Nat.le_of_ble_eq_true (Eq.refl true) | decide))))); (conv => whnf); apply Exists.intro; apply Exists.intro; apply And.intro; (focus (((repeat (first | ((conv => whnf); (with_reducible refine And.intro ?_ ?_); (focus (first | exact Eq.refl _ | exact trivial | exact Int.natCast_nonneg _ | assumption | exact Nat.le_of_ble_eq_true (Eq.refl true) | decide))))); (conv => whnf)) <;> (exact rfl))); apply And.intro; (focus exact rfl); (conv => whnf))
      ((repeat (first | ((conv => whnf); (with_reducible refine And.intro ?_ ?_); (focus (first | exact Eq.refl _ | exact trivial | exact Int.natCast_nonneg _ | assumption | exact Nat.le_of_ble_eq_true (Eq.refl true) | decide))))); (conv => whnf); apply Exists.intro; apply Exists.intro; apply And.intro; (focus (((repeat (first | ((conv => whnf); (with_reducible refine And.intro ?_ ?_); (focus (first | exact Eq.refl _ | exact trivial | exact Int.natCast_nonneg _ | assumption | exact Nat.le_of_ble_eq_true (Eq.refl true) | decide))))); (conv => whnf)) <;> (exact rfl))); apply And.intro; (focus exact rfl); (conv => whnf))
      (repeat (first | ((conv => whnf); (with_reducible refine And.intro ?_ ?_); (focus (first | exact Eq.refl _ | exact trivial | exact Int.natCast_nonneg _ | assumption | exact Nat.le_of_ble_eq_true (Eq.refl true) | decide))))); (conv => whnf)
      refine branchG_intro false (fun hc33 => ?_) (fun hc33 => ?_)
      · have hc32 := if_then (by first | assumption | exact Eq.refl _ | simp only [hc33, Bool.and_true, Bool.true_and, Bool.and_false, Bool.false_and, Bool.or_true, Bool.true_or, Bool.or_false, Bool.false_or, Bool.not_true, Bool.not_false, cond_true, cond_false, List.length_map]) hc32
        (conv => whnf)
        obtain rfl := some_eq hc32
        (repeat (first | ((conv => whnf); (with_reducible refine And.intro ?_ ?_); (focus (first | exact Eq.refl _ | exact trivial | exact Int.natCast_nonneg _ | assumption | exact Nat.le_of_ble_eq_true (Eq.refl true) | decide))))); (conv => whnf)
        exact Exists.intro (rn []) (WS.mk (wt_cons wd_ptr (wt_cons (wd_c (WE.refl _)) (wt_cons (wd_c (WE.refl _)) (wt_cons (wd_c (WE.refl _)) (wt_cons (wd_c (we_b (by first | exact Eq.refl _ | simp only [hc33, Bool.and_true, Bool.true_and, Bool.and_false, Bool.false_and, Bool.or_true, Bool.true_or, Bool.or_false, Bool.false_or, Bool.not_true, Bool.not_false, cond_true, cond_false, List.length_map]))) wt_nil))))) (wb_cons rfl (wc_c (WE.refl _) (wc_c (WE.refl _) wc_nil)) wb_nil))
      · have hc32 := if_else (by first | assumption | exact Eq.refl _ | simp only [hc33, Bool.and_true, Bool.true_and, Bool.and_false, Bool.false_and, Bool.or_true, Bool.true_or, Bool.or_false, Bool.false_or, Bool.not_true, Bool.not_false, cond_true, cond_false, List.length_map]) hc32
        obtain ⟨c31, hc31, hc32⟩ := bind_some hc32
        (conv => whnf)
        ((repeat (first | ((conv => whnf); (with_reducible refine And.intro ?_ ?_); (focus (first | exact Eq.refl _ | exact trivial | exact Int.natCast_nonneg _ | assumption | exact Nat.le_of_ble_eq_true (Eq.refl true) | decide))))); (conv => whnf); apply Exists.intro; apply Exists.intro; apply And.intro; (focus (((repeat (first | ((conv => whnf); (with_reducible refine And.intro ?_ ?_); (focus (first | exact Eq.refl _ | exact trivial | exact Int.natCast_nonneg _ | assumption | exact Nat.le_of_ble_eq_true (Eq.refl true) | decide))))); (conv => whnf)) <;> (exact rfl))); apply And.intro; (focus exact rfl); (conv => whnf))
        ((repeat (first | ((conv => whnf); (with_reducible refine And.intro ?_ ?_); (focus (first | exact Eq.refl _ | exact trivial | exact Int.natCast_nonneg _ | assumption | exact Nat.le_of_ble_eq_true (Eq.refl true) | decide))))); (conv => whnf); apply Exists.intro; apply Exists.intro; apply And.intro; (focus (((repeat (first | ((conv => whnf); (with_reducible refine And.intro ?_ ?_); (focus (first | exact Eq.refl _ | exact trivial | exact Int.natCast_nonneg _ | assumption | exact Nat.le_of_ble_eq_true (Eq.refl true) | decide))))); (conv => whnf)) <;> (exact rfl))); apply And.intro; (focus exact rfl); (conv => whnf))
        ((repeat (first | ((conv => whnf); (with_reducible refine And.intro ?_ ?_); (focus (first | exact Eq.refl _ | exact trivial | exact Int.natCast_nonneg _ | assumption | exact Nat.le_of_ble_eq_true (Eq.refl true) | decide))))); (conv => whnf); apply Exists.intro; apply Exists.intro; apply And.intro; (focus (((repeat (first | ((conv => whnf); (with_reducible refine And.intro ?_ ?_); (focus (first | exact Eq.refl _ | exact trivial | exact Int.natCast_nonneg _ | assumption | exact Nat.le_of_ble_eq_true (Eq.refl true) | decide))))); (conv => whnf)) <;> (exact rfl))); apply And.intro; (focus exact rfl); (conv => whnf))
        (repeat (first | ((conv => whnf); (with_reducible refine And.intro ?_ ?_); (focus (first | exact Eq.refl _ | exact trivial | exact Int.natCast_nonneg _ | assumption | exact Nat.le_of_ble_eq_true (Eq.refl true) | decide))))); (conv => whnf)
        refine branchG_intro true (fun hc34 => ?_) (fun hc34 => ?_)
        · have hc31 := if_then (by first | assumption | exact Eq.refl _ | simp only [hc33, hc34, Bool.and_true, Bool.true_and, Bool.and_false, Bool.false_and, Bool.or_true, Bool.true_or, Bool.or_false, Bool.false_or, Bool.not_true, Bool.not_false, cond_true, cond_false, List.length_map]) hc31
          obtain ⟨x29, hx290, hx29, hc31⟩ := ix_some hc31
          obtain ⟨r30, hr30, hc31⟩ := bind_some hc31
          (conv => whnf)
          ((repeat (first | ((conv => whnf); (with_reducible refine And.intro ?_ ?_); (focus (first | exact Eq.refl _ | exact trivial | exact Int.natCast_nonneg _ | assumption | exact Nat.le_of_ble_eq_true (Eq.refl true) | decide))))); (conv => whnf); apply Exists.intro; apply Exists.intro; apply And.intro; (focus (((repeat (first | ((conv => whnf); (with_reducible refine And.intro ?_ ?_); (focus (first | exact Eq.refl _ | exact trivial | exact Int.natCast_nonneg _ | assumption | exact Nat.le_of_ble_eq_true (Eq.refl true) | decide))))); (conv => whnf)) <;> (exact rfl))); apply And.intro; (focus exact rfl); (conv => whnf))
          ((repeat (first | ((conv => whnf); (with_reducible refine And.intro ?_ ?_); (focus (first | exact Eq.refl _ | exact trivial | exact Int.natCast_nonneg _ | assumption | exact Nat.le_of_ble_eq_true (Eq.refl true) | decide))))); (conv => whnf); apply Exists.intro; apply Exists.intro; apply And.intro; (focus (((repeat (first | ((conv => whnf); (with_reducible refine And.intro ?_ ?_); (focus (first | exact Eq.refl _ | exact trivial | exact Int.natCast_nonneg _ | assumption | exact Nat.le_of_ble_eq_true (Eq.refl true) | decide))))); (conv => whnf)) <;> (exact rfl))); apply And.intro; (focus exact rfl); (conv => whnf))
          ((repeat (first | ((conv => whnf); (with_reducible refine And.intro ?_ ?_); (focus (first | exact Eq.refl _ | exact trivial | exact Int.natCast_nonneg _ | assumption | exact Nat.le_of_ble_eq_true (Eq.refl true) | decide))))); (conv => whnf); apply Exists.intro; apply Exists.intro; apply And.intro; (focus (((repeat (first | ((conv => whnf); (with_reducible refine And.intro ?_ ?_); (focus (first | exact Eq.refl _ | exact trivial | exact Int.natCast_nonneg _ | assumption | exact Nat.le_of_ble_eq_true (Eq.refl true) | decide))))); (conv => whnf)) <;> (exact rfl))); apply And.intro; (focus exact rfl); (conv => whnf))
          ((repeat (first | ((conv => whnf); (with_reducible refine And.intro ?_ ?_); (focus (first | exact Eq.refl _ | exact trivial | exact Int.natCast_nonneg _ | assumption | exact Nat.le_of_ble_eq_true (Eq.refl true) | decide))))); (conv => whnf); apply Exists.intro; apply Exists.intro; apply And.intro; (focus (((repeat (first | ((conv => whnf); (with_reducible refine And.intro ?_ ?_); (focus (first | exact Eq.refl _ | exact trivial | exact Int.natCast_nonneg _ | assumption | exact Nat.le_of_ble_eq_true (Eq.refl true) | decide))))); (conv => whnf)) <;> (exact rfl))); apply And.intro; (focus exact rfl); (conv => whnf))
          ((repeat (first | ((conv => whnf); (with_reducible refine And.intro ?_ ?_); (focus (first | exact Eq.refl _ | exact trivial | exact Int.natCast_nonneg _ | assumption | exact Nat.le_of_ble_eq_true (Eq.refl true) | decide))))); (conv => whnf); apply Exists.intro; apply Exists.intro; apply And.intro; (focus (((repeat (first | ((conv => whnf); (with_reducible refine And.intro ?_ ?_); (focus (first | exact Eq.refl _ | exact trivial | exact Int.natCast_nonneg _ | assumption | exact Nat.le_of_ble_eq_true (Eq.refl true) | decide))))); (conv => whnf)) <;> (rw [map_getI (TExc.cells_eq x29) hx29]) <;> ((repeat (first | ((conv => whnf); (with_reducible refine And.intro ?_ ?_); (focus (first | exact Eq.refl _ | exact trivial | exact Int.natCast_nonneg _ | assumption | exact Nat.le_of_ble_eq_true (Eq.refl true) | decide))))); (conv => whnf)) <;> (exact rfl))); apply And.intro; (focus exact rfl); (conv => whnf))
          ((repeat (first | ((conv => whnf); (with_reducible refine And.intro ?_ ?_); (focus (first | exact Eq.refl _ | exact trivial | exact Int.natCast_nonneg _ | assumption | exact Nat.le_of_ble_eq_true (Eq.refl true) | decide))))); (conv => whnf); apply Exists.intro; apply Exists.intro; apply And.intro; (focus (((repeat (first | ((conv => whnf); (with_reducible refine And.intro ?_ ?_); (focus (first | exact Eq.refl _ | exact trivial | exact Int.natCast_nonneg _ | assumption | exact Nat.le_of_ble_eq_true (Eq.refl true) | decide))))); (conv => whnf)) <;> (exact rfl))); apply And.intro; (focus exact rfl); (conv => whnf))
          ((repeat (first | ((conv => whnf); (with_reducible refine And.intro ?_ ?_); (focus (first | exact Eq.refl _ | exact trivial | exact Int.natCast_nonneg _ | assumption | exact Nat.le_of_ble_eq_true (Eq.refl true) | decide))))); (conv => whnf); apply Exists.intro; apply Exists.intro; apply And.intro; (focus (((repeat (first | ((conv => whnf); (with_reducible refine And.intro ?_ ?_); (focus (first | exact Eq.refl _ | exact trivial | exact Int.natCast_nonneg _ | assumption | exact Nat.le_of_ble_eq_true (Eq.refl true) | decide))))); (conv => whnf)) <;> (exact rfl))); apply And.intro; (focus exact rfl); (conv => whnf))
          (repeat (first | ((conv => whnf); (with_reducible refine And.intro ?_ ?_); (focus (first | exact Eq.refl _ | exact trivial | exact Int.natCast_nonneg _ | assumption | exact Nat.le_of_ble_eq_true (Eq.refl true) | decide))))); (conv => whnf)
          refine Exists.intro [] ?_
          (repeat (first | ((conv => whnf); (with_reducible refine And.intro ?_ ?_); (focus (first | exact Eq.refl _ | exact trivial | exact Int.natCast_nonneg _ | assumption | exact Nat.le_of_ble_eq_true (Eq.refl true) | decide))))); (conv => whnf)
          refine CallsX.mono (CallsX.weak (rn []) (values_compare_ok x29 x25 _ hr30) rfl (WS.mk (wt_cons (wd_agg (wl_cons (WE.refl _) (wl_cons (WE.refl _) wl_nil))) (wt_cons (wd_agg (wl_cons (WE.refl _) (wl_cons (WE.refl _) wl_nil))) wt_nil)) wb_nil)) ?_
          rintro d b ⟨rfl, rfl⟩
          (repeat (first | ((conv => whnf); (with_reducible refine And.intro ?_ ?_); (focus (first | exact Eq.refl _ | exact trivial | exact Int.natCast_nonneg _ | assumption | exact Nat.le_of_ble_eq_true (Eq.refl true) | decide))))); (conv => whnf)
          obtain rfl := some_eq hc31
          obtain rfl := some_eq hc32
          (repeat (first | ((conv => whnf); (with_reducible refine And.intro ?_ ?_); (focus (first | exact Eq.refl _ | exact trivial | exact Int.natCast_nonneg _ | assumption | exact Nat.le_of_ble_eq_true (Eq.refl true) | decide))))); (conv => whnf)
          exact Exists.intro (rn []) (WS.mk (wt_cons wd_ptr (wt_cons (wd_c (WE.refl _)) (wt_cons (wd_c (WE.refl _)) (wt_cons (wd_c (WE.refl _)) (wt_cons (wd_c (we_b (by first | exact Eq.refl _ | simp only [hc33, hc34, Bool.and_true, Bool.true_and, Bool.and_false, Bool.false_and, Bool.or_true, Bool.true_or, Bool.or_false, Bool.false_or, Bool.not_true, Bool.not_false, cond_true, cond_false, List.length_map]))) wt_nil))))) (wb_cons rfl (wc_c (WE.refl _) (wc_c (WE.refl _) wc_nil)) wb_nil))
        · have hc31 := if_else (by first | assumption | exact Eq.refl _ | simp only [hc33, hc34, Bool.and_true, Bool.true_and, Bool.and_false, Bool.false_and, Bool.or_true, Bool.true_or, Bool.or_false, Bool.false_or, Bool.not_true, Bool.not_false, cond_true, cond_false, List.length_map]) hc31
          (conv => whnf)
          obtain rfl := some_eq hc31
          obtain rfl := some_eq hc32
          (repeat (first | ((conv => whnf); (with_reducible refine And.intro ?_ ?_); (focus (first | exact Eq.refl _ | exact trivial | exact Int.natCast_nonneg _ | assumption | exact Nat.le_of_ble_eq_true (Eq.refl true) | decide))))); (conv => whnf)
          exact Exists.intro (rn []) (WS.mk (wt_cons wd_ptr (wt_cons (wd_c (WE.refl _)) (wt_cons (wd_c (WE.refl _)) (wt_cons (wd_c (WE.refl _)) (wt_cons (wd_c (we_b (by first | exact Eq.refl _ | simp only [hc33, hc34, Bool.and_true, Bool.true_and, Bool.and_false, Bool.false_and, Bool.or_true, Bool.true_or, Bool.or_false, Bool.false_or, Bool.not_true, Bool.not_false, cond_true, cond_false, List.length_map]))) wt_nil))))) (wb_cons rfl (wc_c (WE.refl _) (wc_c (WE.refl _) wc_nil)) wb_nil))
    obtain ⟨r0, hw⟩ := hw
    (conv => whnf)
    refine AWP.weak r0 hw ?_
    refine nd (by decide) _ _ _ ?_
    (conv => whnf)
    refine branch_hF hF (fun hc35 hF => ?_) (fun hc35 hF => ?_)
    · refine AWP.seq ?_
      refine nd (by decide) _ _ _ ?_
      (repeat (first | ((conv => whnf); (with_reducible refine And.intro ?_ ?_); (focus (first | exact Eq.refl _ | exact trivial | exact Int.natCast_nonneg _ | assumption | exact Nat.le_of_ble_eq_true (Eq.refl true) | decide))))); (conv => whnf)
      obtain rfl := some_eq hF
      refine nd (by decide) _ _ _ ?_
      (repeat (first | ((conv => whnf); (with_reducible refine And.intro ?_ ?_); (focus (first | exact Eq.refl _ | exact trivial | exact Int.natCast_nonneg _ | assumption | exact Nat.le_of_ble_eq_true (Eq.refl true) | decide))))); (conv => whnf)
      exact Exists.intro (rn []) (WS.mk (wt_cons (wd_c (WE.refl _)) wt_nil) wb_nil)
    · refine nd (by decide) _ _ _ ?_
      (conv => whnf)
      refine nd (by decide) _ _ _ ?_
      (repeat (first | ((conv => whnf); (with_reducible refine And.intro ?_ ?_); (focus (first | exact Eq.refl _ | exact trivial | exact Int.natCast_nonneg _ | assumption | exact Nat.le_of_ble_eq_true (Eq.refl true) | decide))))); (conv => whnf)
      refine AWL.weak (rn []) ?_ (ih_values_validSet_l1 s (x_18 + 1) xs26 _ hF (pre_x_18 ++ [x25]) (by rw [hs_x_18]; simp) (by rw [hk_x_18]; simp) hlen9)
      exact (WS.mk (wt_cons wd_ptr (wt_cons (wd_c (WE.refl _)) (wt_cons (wd_c (WE.refl _)) (wt_cons (wd_c (we_i (wrap_succ hlen9 hl27))) wt_nil)))) (wb_cons rfl (wc_c (WE.refl _) (wc_c (WE.refl _) wc_nil)) wb_nil))
  · subst hp27
    refine nd (by decide) _ _ _ ?_
    (conv => whnf)
    refine AWP.seq ?_
    refine nd (by decide) _ _ _ ?_
    (repeat (first | ((conv => whnf); (with_reducible refine And.intro ?_ ?_); (focus (first | exact Eq.refl _ | exact trivial | exact Int.natCast_nonneg _ | assumption | exact Nat.le_of_ble_eq_true (Eq.refl true) | decide))))); (conv => whnf)
    obtain rfl := some_eq hF
    refine nd (by decide) _ _ _ ?_
    (repeat (first | ((conv => whnf); (with_reducible refine And.intro ?_ ?_); (focus (first | exact Eq.refl _ | exact trivial | exact Int.natCast_nonneg _ | assumption | exact Nat.le_of_ble_eq_true (Eq.refl true) | decide))))); (conv => whnf)
    exact Exists.intro (rn []) (WS.mk (wt_cons (wd_c (WE.refl _)) wt_nil) wb_nil)
end Go.Proofs.YtafniolcakiljaaDoor

set_option linter.unusedVariables false
set_option linter.unusedSimpArgs false
set_option maxRecDepth 100000
set_option maxHeartbeats 4000000
namespace Go.Proofs.YtafniolcakiljaaDoor
open Go Go.Am
def values_validSet (s : TExcSet) : Option (Bool) :=
  if s.fAll = true then
  some (((s.fList.length : Nat) : Int) == 0)
  else
  if (decide (((s.fList.length : Nat) : Int) > 16)) = true then
  some false
  else
  values_validSet_l1 s 0 s.fList
def values_validSet.M (s : TExcSet) (r : Bool) : Prop :=
  CallsX Tryd.prog 57 [.agg [.v (.bool s.fAll), .sl (s.fList.map TExc.cells)]] [] (fun d b => d = .c none (.v (.bool r)) ∧ b = [])
theorem values_validSet_ok (s : TExcSet) (r : Bool) (hF : values_validSet s = some r) : values_validSet.M s r := by
  unfold values_validSet at hF
  unfold values_validSet.M
  refine enter tabOk Tryd.func57 rfl (by decide) (Nat.le_of_ble_eq_true rfl) rfl rfl rfl ?_
  refine AWP.seq ?_
  refine nd (by decide) _ _ _ ?_
  (repeat (first | ((conv => whnf); (with_reducible refine And.intro ?_ ?_); (focus (first | exact Eq.refl _ | exact trivial | exact Int.natCast_nonneg _ | assumption | exact Nat.le_of_ble_eq_true (Eq.refl true) | decide))))); (conv => whnf)
  refine AWP.seq ?_
  refine AWP.seq ?_
  refine nd (by decide) _ _ _ ?_
  (repeat (first | ((conv => whnf); (with_reducible refine And.intro ?_ ?_); (focus (first | exact Eq.refl _ | exact trivial | exact Int.natCast_nonneg _ | assumption | exact Nat.le_of_ble_eq_true (Eq.refl true) | decide))))); (conv => whnf)
  refine nd (by decide) _ _ _ ?_
  (conv => whnf)
  refine branch_hF hF (fun hc3 hF => ?_) (fun hc3 hF => ?_)
  · refine AWP.seq ?_
    refine nd (by decide) _ _ _ ?_
    (repeat (first | ((conv => whnf); (with_reducible refine And.intro ?_ ?_); (focus (first | exact Eq.refl _ | exact trivial | exact Int.natCast_nonneg _ | assumption | exact Nat.le_of_ble_eq_true (Eq.refl true) | decide))))); (conv => whnf)
    intro hlen4
    (try rw [List.length_map] at hlen4)
    (try rw [List.length_map])
    (repeat (first | ((conv => whnf); (with_reducible refine And.intro ?_ ?_); (focus (first | exact Eq.refl _ | exact trivial | exact Int.natCast_nonneg _ | assumption | exact Nat.le_of_ble_eq_true (Eq.refl true) | decide))))); (conv => whnf)
    obtain rfl := some_eq hF
    refine nd (by decide) _ _ _ ?_
    (repeat (first | ((conv => whnf); (with_reducible refine And.intro ?_ ?_); (focus (first | exact Eq.refl _ | exact trivial | exact Int.natCast_nonneg _ | assumption | exact Nat.le_of_ble_eq_true (Eq.refl true) | decide))))); (conv => whnf)
    exact Exists.intro (rn []) (WS.mk (wt_cons (wd_c (WE.refl _)) wt_nil) wb_nil)
  · refine nd (by decide) _ _ _ ?_
    (conv => whnf)
    refine AWP.seq ?_
    refine AWP.seq ?_
    refine nd (by decide) _ _ _ ?_
    (repeat (first | ((conv => whnf); (with_reducible refine And.intro ?_ ?_); (focus (first | exact Eq.refl _ | exact trivial | exact Int.natCast_nonneg _ | assumption | exact Nat.le_of_ble_eq_true (Eq.refl true) | decide))))); (conv => whnf)
    intro hlen7
    (try rw [List.length_map] at hlen7)
    (try rw [List.length_map])
    (repeat (first | ((conv => whnf); (with_reducible refine And.intro ?_ ?_); (focus (first | exact Eq.refl _ | exact trivial | exact Int.natCast_nonneg _ | assumption | exact Nat.le_of_ble_eq_true (Eq.refl true) | decide))))); (conv => whnf)
    refine nd (by decide) _ _ _ ?_
    (conv => whnf)
    refine branch_hF hF (fun hc8 hF => ?_) (fun hc8 hF => ?_)
    · refine AWP.seq ?_
      refine nd (by decide) _ _ _ ?_
      (repeat (first | ((conv => whnf); (with_reducible refine And.intro ?_ ?_); (focus (first | exact Eq.refl _ | exact trivial | exact Int.natCast_nonneg _ | assumption | exact Nat.le_of_ble_eq_true (Eq.refl true) | decide))))); (conv => whnf)
      obtain rfl := some_eq hF
      refine nd (by decide) _ _ _ ?_
      (repeat (first | ((conv => whnf); (with_reducible refine And.intro ?_ ?_); (focus (first | exact Eq.refl _ | exact trivial | exact Int.natCast_nonneg _ | assumption | exact Nat.le_of_ble_eq_true (Eq.refl true) | decide))))); (conv => whnf)
      exact Exists.intro (rn []) (WS.mk (wt_cons (wd_c (WE.refl _)) wt_nil) wb_nil)
    · refine nd (by decide) _ _ _ ?_
      (conv => whnf)
      refine AWP.seq ?_
      refine AWP.seq ?_
      refine nd (by decide) _ _ _ ?_
      (repeat (first | ((conv => whnf); (with_reducible refine And.intro ?_ ?_); (focus (first | exact Eq.refl _ | exact trivial | exact Int.natCast_nonneg _ | assumption | exact Nat.le_of_ble_eq_true (Eq.refl true) | decide))))); (conv => whnf)
      intro hlen9
      (try rw [List.length_map] at hlen9)
      (try rw [List.length_map])
      (repeat (first | ((conv => whnf); (with_reducible refine And.intro ?_ ?_); (focus (first | exact Eq.refl _ | exact trivial | exact Int.natCast_nonneg _ | assumption | exact Nat.le_of_ble_eq_true (Eq.refl true) | decide))))); (conv => whnf)
      refine AWP.block ?_
      refine AWP.loop ?_
      refine AWL.weak (rn []) ?_ (values_validSet_l1_ok s 0 s.fList _ hF ([]) rfl rfl hlen9)
      exact (WS.mk (wt_cons wd_ptr (wt_cons (wd_c (WE.refl _)) (wt_cons (wd_c (WE.refl _)) (wt_cons (wd_c (WE.refl _)) wt_nil)))) (wb_cons rfl (wc_c (WE.refl _) (wc_c (WE.refl _) wc_nil)) wb_nil))
end Go.Proofs.YtafniolcakiljaaDoor

