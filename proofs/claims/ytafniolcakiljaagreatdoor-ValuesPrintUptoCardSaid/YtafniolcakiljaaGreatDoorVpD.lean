/- Part 4 of the proof: types, tables, and what was shown of library functions. It holds for every input, without conditions. -/
import Derived.Test.YtafniolcakiljaaGreatDoorProg
import Derived.Lib.AppendIntMem
import Derived.Test.YtafniolcakiljaaGreatDoorVpA
import Derived.Test.YtafniolcakiljaaGreatDoorVpB
import Derived.Test.YtafniolcakiljaaGreatDoorVpC
set_option linter.unusedVariables false
namespace Go.Proofs.YtafniolcakiljaaGreatDoor
open Go Go.Am
/-- What is known of the library's variables. -/
def intCell (o : Option Value) : Prop := ∃ m, o = some (.int .i64 m)
def ifcCell (o : Option Value) : Prop := ∃ ev, o = some ev ∧ (ev = .nilIface ∨ ∃ te pe, ev = .iface te pe)
def powCell (i : Nat) (o : Option Value) : Prop := o = some (.int .u64 ((10 ^ i : Nat) : Int))
def noCell (o : Option Value) : Prop := o = none
def powCells : List (Nat × Nat × (Option Value → Prop)) := (5, 20, noCell) :: (List.range 20).map fun i => (5, i, powCell i)
def restCells : List (Nat × Nat × (Option Value → Prop)) := [(0, 0, intCell), (3, 0, ifcCell), (4, 0, ifcCell)]
instance : Gl Tryz.prog := ⟨powCells ++ restCells⟩
end Go.Proofs.YtafniolcakiljaaGreatDoor

set_option linter.unusedVariables false
namespace Go.Proofs.YtafniolcakiljaaGreatDoor
open Go Go.Am
def tab : Tab := [
  (2, ⟨(.int .i64), 1, 8, some [.v (.int .i64 0)], true⟩),
  (3, ⟨(.int .i64), 1, 8, some [.v (.int .i64 0)], true⟩),
  (4, ⟨.bool, 1, 1, some [.v (.bool false)], true⟩),
  (5, ⟨(.int .u8), 1, 1, some [.v (.int .u8 0)], true⟩),
  (9, ⟨.string, 1, 16, some [.v (.string ⟨#[]⟩)], true⟩),
  (12, ⟨(.int .u64), 1, 8, some [.v (.int .u64 0)], true⟩),
  (13, ⟨(.struct [(9, 0), (12, 1)]), 2, 24, some [.v (.string ⟨#[]⟩), .v (.int .u64 0)], false⟩),
  (21, ⟨(.int .i32), 1, 4, some [.v (.int .i32 0)], true⟩),
  (22, ⟨(.int .i64), 1, 8, some [.v (.int .i64 0)], true⟩),
  (23, ⟨(.slice 28), 1, 24, some [.nils], true⟩),
  (24, ⟨(.slice 78), 1, 24, some [.nils], true⟩),
  (25, ⟨(.struct [(4, 0), (24, 1)]), 2, 32, some [.v (.bool false), .nils], true⟩),
  (26, ⟨(.struct [(4, 0), (24, 1)]), 2, 32, some [.v (.bool false), .nils], true⟩),
  (27, ⟨(.struct [(22, 0), (9, 1), (3, 2), (23, 3), (26, 4)]), 6, 88, some [.v (.int .i64 0), .v (.string ⟨#[]⟩), .v (.int .i64 0), .nils, .v (.bool false), .nils], true⟩),
  (28, ⟨(.struct [(22, 0), (9, 1), (3, 2), (23, 3), (26, 4)]), 6, 88, some [.v (.int .i64 0), .v (.string ⟨#[]⟩), .v (.int .i64 0), .nils, .v (.bool false), .nils], true⟩),
  (31, ⟨(.int .i64), 1, 8, some [.v (.int .i64 0)], true⟩),
  (32, ⟨(.struct [(31, 0), (9, 1), (3, 2), (3, 3)]), 4, 40, some [.v (.int .i64 0), .v (.string ⟨#[]⟩), .v (.int .i64 0), .v (.int .i64 0)], true⟩),
  (33, ⟨(.struct [(31, 0), (9, 1), (3, 2), (3, 3)]), 4, 40, some [.v (.int .i64 0), .v (.string ⟨#[]⟩), .v (.int .i64 0), .v (.int .i64 0)], true⟩),
  (42, ⟨(.ptr 46), 1, 8, some [.v (.pointer none)], true⟩),
  (43, ⟨(.slice 9), 1, 24, some [.nils], true⟩),
  (45, ⟨(.struct [(43, 0), (3, 1), (4, 2)]), 3, 40, some [.nils, .v (.int .i64 0), .v (.bool false)], true⟩),
  (46, ⟨(.struct [(43, 0), (3, 1), (4, 2)]), 3, 40, some [.nils, .v (.int .i64 0), .v (.bool false)], true⟩),
  (57, ⟨(.slice 5), 1, 24, some [.nils], true⟩),
  (68, ⟨(.ptr 70), 1, 8, some [.v (.pointer none)], true⟩),
  (69, ⟨(.struct [(68, 0), (57, 1)]), 2, 32, some [.v (.pointer none), .nils], true⟩),
  (70, ⟨(.struct [(68, 0), (57, 1)]), 2, 32, some [.v (.pointer none), .nils], true⟩),
  (73, ⟨.iface, 1, 16, some [.v .nilIface], false⟩),
  (77, ⟨(.struct [(9, 0), (3, 1)]), 2, 24, some [.v (.string ⟨#[]⟩), .v (.int .i64 0)], true⟩),
  (78, ⟨(.struct [(9, 0), (3, 1)]), 2, 24, some [.v (.string ⟨#[]⟩), .v (.int .i64 0)], true⟩),
  (84, ⟨(.ptr 5), 1, 8, some [.v (.pointer none)], true⟩),
  (99, ⟨(.int .u64), 1, 8, some [.v (.int .u64 0)], true⟩),
  (100, ⟨(.int .i64), 1, 8, some [.v (.int .i64 0)], true⟩),
  (107, ⟨(.int .u64), 1, 8, some [.v (.int .u64 0)], true⟩),
  (113, ⟨(.struct [(5, 0), (5, 1)]), 2, 2, some [.v (.int .u8 0), .v (.int .u8 0)], true⟩),
  (116, ⟨(.int .u32), 1, 4, some [.v (.int .u32 0)], true⟩),
  (122, ⟨(.struct [(9, 0), (9, 1), (73, 2)]), 3, 48, some [.v (.string ⟨#[]⟩), .v (.string ⟨#[]⟩), .v .nilIface], false⟩),
  (132, ⟨(.struct [(9, 0)]), 1, 16, some [.v (.string ⟨#[]⟩)], true⟩)]
set_option maxRecDepth 100000
theorem tabOk : TOk Tryz.prog tab := by unfold TOk; kernel_rfl
theorem follows : Tryz.prog.follows .mixedOrders = true := by kernel_rfl
theorem draws (nt : Nat) (h : nt ≤ EXT) : DrawOk Tryz.prog tab nt (@drawK) := draw_ok tabOk h follows
end Go.Proofs.YtafniolcakiljaaGreatDoor

set_option linter.unusedVariables false
set_option linter.unusedSimpArgs false
set_option maxRecDepth 100000
set_option maxHeartbeats 4000000
namespace Go.Proofs.YtafniolcakiljaaGreatDoor
open Go Go.Am
theorem nd {nt : Nat} (h : decide (nt ≤ EXT) = true) (c : Code) (Q : Exit → AS → Prop) (S : AS) (hk : Am.node (@drawK) Tryz.prog tab nt c Q S) : AWP Tryz.prog nt c Q S :=
  AWP.node tabOk (of_decide_eq_true h) (draws nt (of_decide_eq_true h)) c Q S hk
theorem nn {nt : Nat} {c : Code} {Q : Exit → AS → Prop} {S : AS} (hk : Am.node (@drawK) Tryz.prog tab nt c Q S) (h : decide (nt ≤ EXT) = true := by decide) : AWP Tryz.prog nt c Q S := nd h c Q S hk
theorem nw {nt : Nat} {c : Code} {Q : Exit → AS → Prop} {S : AS} {G' : Prop} (hk : G') (s : Runs (Am.node (@drawK) Tryz.prog tab nt c Q S) G' := by (conv => (arg 1; whnf)); exact Runs.done) (h : decide (nt ≤ EXT) = true := by decide) : AWP Tryz.prog nt c Q S := nd h c Q S (s hk)
theorem ns {nt : Nat} {c : Code} {Q : Exit → AS → Prop} {S : AS} {G' : Prop} (hk : G') (s : Runs (Am.node (@drawK) Tryz.prog tab nt c Q S) G' := by
    (repeat (first | ((conv => (arg 1; whnf)); (with_reducible apply Runs.side); (focus (first | exact Eq.refl _ | exact trivial | exact Int.natCast_nonneg _ | assumption | exact Nat.le_of_ble_eq_true (Eq.refl true) | decide)))))
    (conv => (arg 1; whnf))
    exact Runs.done) (h : decide (nt ≤ EXT) = true := by decide) : AWP Tryz.prog nt c Q S := nd h c Q S (s hk)
open Go Go.Am
def c_S (x : ByteArray) : List E := [.v (.string x)]
theorem c_S_len (x : ByteArray) : (c_S x).length = 1 := rfl
structure Tvalues_reader where
  fwords : (List ByteArray)
  fat : Int
  fbad : Bool
def Tvalues_reader.cells (v : Tvalues_reader) : List E := [.sl (v.fwords.map c_S), .v (.int .i64 v.fat), .v (.bool v.fbad)]
theorem Tvalues_reader.cells_eq (v : Tvalues_reader) : v.cells = [.sl (v.fwords.map c_S), .v (.int .i64 v.fat), .v (.bool v.fbad)] := rfl
theorem Tvalues_reader.cells_len (v : Tvalues_reader) : v.cells.length = 3 := rfl
structure TFault where
  fCode : Int
  fName : ByteArray
  fLine : Int
  fCol : Int
def TFault.cells (v : TFault) : List E := [.v (.int .i64 v.fCode), .v (.string v.fName), .v (.int .i64 v.fLine), .v (.int .i64 v.fCol)]
theorem TFault.cells_eq (v : TFault) : v.cells = [.v (.int .i64 v.fCode), .v (.string v.fName), .v (.int .i64 v.fLine), .v (.int .i64 v.fCol)] := rfl
theorem TFault.cells_len (v : TFault) : v.cells.length = 4 := rfl
structure TExc where
  fCon : ByteArray
  fN : Int
def TExc.cells (v : TExc) : List E := [.v (.string v.fCon), .v (.int .i64 v.fN)]
theorem TExc.cells_eq (v : TExc) : v.cells = [.v (.string v.fCon), .v (.int .i64 v.fN)] := rfl
theorem TExc.cells_len (v : TExc) : v.cells.length = 2 := rfl
structure TExcSet where
  fAll : Bool
  fList : (List TExc)
def TExcSet.cells (v : TExcSet) : List E := [.v (.bool v.fAll), .sl (v.fList.map TExc.cells)]
theorem TExcSet.cells_eq (v : TExcSet) : v.cells = [.v (.bool v.fAll), .sl (v.fList.map TExc.cells)] := rfl
theorem TExcSet.cells_len (v : TExcSet) : v.cells.length = 2 := rfl
mutual
inductive TValue where
  | mk (fOp : Int) (fName : ByteArray) (fN : Int) (fKids : (List TValue)) (fSet : TExcSet)
end
def TValue.fOp : TValue → Int | .mk x _ _ _ _ => x
def TValue.fName : TValue → ByteArray | .mk _ x _ _ _ => x
def TValue.fN : TValue → Int | .mk _ _ x _ _ => x
def TValue.fKids : TValue → (List TValue) | .mk _ _ _ x _ => x
def TValue.fSet : TValue → TExcSet | .mk _ _ _ _ x => x
mutual
def TValue.cells : TValue → List E
  | .mk x0 x1 x2 x3 x4 => [.v (.int .i64 x0)] ++ [.v (.string x1)] ++ [.v (.int .i64 x2)] ++ [.sl (TValue.encs x3)] ++ [.v (.bool x4.fAll)] ++ [.sl (x4.fList.map TExc.cells)]
def TValue.encs : List TValue → List (List E)
  | [] => []
  | x :: xs => TValue.cells x :: TValue.encs xs
end
theorem TValue.encs_map : ∀ l : List TValue, TValue.encs l = l.map TValue.cells
  | [] => by simp [TValue.encs]
  | x :: xs => by simp [TValue.encs, TValue.encs_map xs]
theorem TValue.cells_eq (v : TValue) : v.cells = [.v (.int .i64 v.fOp), .v (.string v.fName), .v (.int .i64 v.fN), .sl (v.fKids.map TValue.cells), .v (.bool v.fSet.fAll), .sl (v.fSet.fList.map TExc.cells)] := by
  cases v
  simp only [TValue.cells, List.cons_append, List.nil_append, TValue.encs_map]
  rfl
theorem TValue.cells_len (v : TValue) : v.cells.length = 6 := by rw [TValue.cells_eq]; rfl
theorem TValue.ind {M : TValue → Prop} (h : ∀ v : TValue, (∀ k ∈ v.fKids, M k) → M v) : ∀ v, M v := by
  intro v
  exact TValue.rec (motive_1 := M) (motive_2 := fun l => ∀ k ∈ l, M k) (fun x0 x1 x2 x3 x4 ih => h _ ih) (fun k hk => by simp at hk) (fun v l hv hl k hk => by
    rcases List.mem_cons.1 hk with rfl | hk
    · exact hv
    · exact hl k hk) v
def c_I_u8 (x : Int) : List E := [.v (.int .u8 x)]
theorem c_I_u8_len (x : Int) : (c_I_u8 x).length = 1 := rfl
end Go.Proofs.YtafniolcakiljaaGreatDoor

set_option linter.unusedVariables false
set_option linter.unusedSimpArgs false
set_option maxRecDepth 100000
set_option maxHeartbeats 4000000
namespace Go.Proofs.YtafniolcakiljaaGreatDoor
open Go Go.Am
def strings_Split.M (s : ByteArray) (sep : ByteArray) (r : (List ByteArray)) : Prop :=
  CallsX Tryz.prog 14 [.c none (.v (.string s)), .c none (.v (.string sep))] [] (fun d b => d = .c none (.sl (r.map c_S)) ∧ b = [])
def strings_Compare.M (a : ByteArray) (b : ByteArray) (r : Int) : Prop :=
  CallsX Tryz.prog 82 [.c none (.v (.string a)), .c none (.v (.string b))] [] (fun d b => d = .c none (.v (.int .i64 r)) ∧ b = [])
def strings_Join.M (toArray : (List ByteArray)) (a1_ : ByteArray) (r : ByteArray) : Prop :=
  CallsX Tryz.prog 19 [.c none (.sl (toArray.map c_S)), .c none (.v (.string a1_))] [] (fun d b => d = .c none (.v (.string r)) ∧ b = [])
def strconv_Itoa.M (i : Int) (r : ByteArray) : Prop :=
  CallsX Tryz.prog 43 [.c none (.v (.int .i64 i))] [] (fun d b => d = .c none (.v (.string r)) ∧ b = [])
def strconv_Atoi.M (s : ByteArray) (r : Int × Bool) : Prop :=
  CallsX Tryz.prog 49 [.c none (.v (.string s))] [] (fun d b => d = .tup [.c (.v (.int .i64 r.1)), .c (.ifc r.2)] ∧ b = [])
def slices_Clone_Exc.M (s : (List TExc)) (r : (List TExc)) : Prop :=
  CallsX Tryz.prog 58 [.c none (.sl (s.map TExc.cells))] [] (fun d b => d = .c (some (0, 78)) (.sl (r.map TExc.cells)) ∧ b = [])
end Go.Proofs.YtafniolcakiljaaGreatDoor

set_option linter.unusedVariables false
set_option linter.unusedSimpArgs false
set_option maxRecDepth 100000
set_option maxHeartbeats 4000000
namespace Go.Proofs.YtafniolcakiljaaGreatDoor
open Go Go.Am Go.RowKit

theorem calls_and {P : Program} [Gl P] {f : FuncId} {args : List D} {d0 : D} (h : CallsA P f args fun d => d = d0) : CallsX P f args [] fun d b => d = d0 ∧ b = [] :=
  ⟨h.1, fun w S0 M0 vals ρ hv hr => (h.2 w S0 M0 vals ρ hv hr).mono fun e w' ⟨v, r, bx', St', ρ', h1, h2, h3, h4, h5, h6⟩ =>
    ⟨v, r, [], St', ρ', h1, ⟨h2, rfl⟩, h3, h4, fun _ _ => rfl, h6.less ⟨fun i => .inr (.inl rfl), fun n cs hb => by cases hb⟩⟩⟩

/-! ### strings.Join -/
def joinB (xs : List ByteArray) (sep : ByteArray) : ByteArray := ⟨(Lib.join (xs.map (·.data.toList)) sep.data.toList).toArray⟩
def strings_Join (xs : List ByteArray) (sep : ByteArray) : Option ByteArray :=
  if xs.length ≤ 140737488355328 ∧ (Lib.join (xs.map (·.data.toList)) sep.data.toList).length ≤ 140737488355328 then some (joinB xs sep) else none
theorem join_calls (xs : List ByteArray) (sep : ByteArray) (hN : xs.length ≤ 140737488355328) (hlen : (Lib.join (xs.map (·.data.toList)) sep.data.toList).length ≤ 140737488355328) :
    CallsA Tryz.prog 19 [.c none (.sl (xs.map c_S)), .c none (.v (.string sep))] (fun r => r = .c none (.v (.string (joinB xs sep)))) := by
  refine CallsA.of_calls ⟨_, Tryz.func19, by decide, rfl⟩ fun w St ρ vals hv hr hlt hG => ?_
  obtain ⟨a, b, rfl⟩ : ∃ a b, vals = #[a, b] := by
    obtain ⟨l⟩ := vals
    match l, hv with
    | [a, b], _ => exact ⟨a, b, rfl⟩
  obtain ⟨A, c, rfl, h1, h2, h3⟩ := rep_strings (show RepE w St (.sl (xs.map fun x => [.v (.string x)])) a from hr 0)
  have hb : b = .string sep := by
    have := (show RepE w St (.v (.string sep)) b from hr 1)
    generalize b = y at this; cases this; rfl
  subst hb
  rcases Decidable.em (xs = []) with rfl | hne
  · refine (Tryz.strings_Join_none A c sep w).mono ?_
    rintro e w' ⟨rfl, rfl⟩
    exact ⟨_, rfl, rfl, rfl, Below.refl _ _⟩
  · obtain ⟨bk, o, rfl, hs, hcell⟩ := h3 hne
    refine (Tryz.strings_Join bk o c xs sep w hcell (hlt _ _ hs) hN h1 hlen).mono ?_
    rintro e w' ⟨rfl, bel⟩
    exact ⟨_, rfl, rfl, rfl, bel⟩
theorem strings_Join_ok (xs : List ByteArray) (sep r : ByteArray) (h : strings_Join xs sep = some r) : strings_Join.M xs sep r := by
  unfold strings_Join at h
  split at h
  · rename_i hc; injection h with h; subst h; exact calls_and (join_calls xs sep hc.1 hc.2)
  · cases h

/-! ### strings.Compare -/
def strings_Compare (a b : ByteArray) : Option Int := some (Lib.compareBytes a.data.toList b.data.toList)
theorem strings_Compare_ok (a b : ByteArray) (r : Int) (h : strings_Compare a b = some r) : strings_Compare.M a b r := by
  injection h with h; subst h
  refine calls_and (CallsA.of_calls ⟨_, Tryz.func82, by decide, rfl⟩ fun w St ρ vals hv hr hlt hG => ?_)
  obtain ⟨x, y, rfl⟩ : ∃ x y, vals = #[x, y] := by
    obtain ⟨l⟩ := vals
    match l, hv with
    | [x, y], _ => exact ⟨x, y, rfl⟩
  have hx : x = .string a := by
    have := (show RepE w St (.v (.string a)) x from hr 0)
    generalize x = z at this; cases this; rfl
  have hy : y = .string b := by
    have := (show RepE w St (.v (.string b)) y from hr 1)
    generalize y = z at this; cases this; rfl
  subst hx hy
  refine (Tryz.strings_Compare a b w).mono ?_
  rintro e w' ⟨rfl, rfl⟩
  exact ⟨_, rfl, rfl, rfl, Below.refl _ _⟩

/-! ### strconv.Itoa -/
def itoaB (i : Int) : ByteArray := ⟨(Lib.itoa i).toArray⟩
def strconv_Itoa (i : Int) : Option ByteArray := guardP (-9223372036854775808 ≤ i ∧ i ≤ 9223372036854775807) >>= fun _ => some (itoaB i)
theorem gl_pow (w : World) (St : Stab) (hG : Globs Tryz.prog w St) : Lib.TabIs Tryz.prog w "internal/strconv.uint64pow10" .u64 Lib.pow10Tab := by
  have h0 : noCell (w.cell? ⟨5, 20, none⟩) := (hG (5, 20, noCell) (List.mem_append_left _ (List.mem_cons_self ..))).2
  have h1 : ∀ i, i < 20 → w.cell? ⟨5, i, none⟩ = some (.int .u64 ((10 ^ i : Nat) : Int)) := fun i hi =>
    (hG (5, i, powCell i) (List.mem_append_left _ (List.mem_cons_of_mem _ (List.mem_map.2 ⟨i, List.mem_range.2 hi, rfl⟩)))).2
  have hg : Tryz.prog.globalNamed "internal/strconv.uint64pow10" = some 5 := by kernel_rfl
  unfold Lib.TabIs World.var?
  rw [hg]
  have h2 := h1 0 (by decide)
  unfold noCell at h0
  unfold World.cell? at h0 h1 h2
  simp only [Option.bind_some]
  split at h2
  case h_2 => cases h2
  rename_i c t f hc
  simp only [hc, Option.isSome_none, Bool.false_eq_true, if_false] at h0 h1 ⊢
  congr 1
  apply Array.ext_getElem?
  intro i
  have e0 : ((Lib.pow10Tab.map fun z => Value.int .u64 z).toArray)[i]? = (Lib.pow10Tab.map fun z => Value.int .u64 z)[i]? := List.getElem?_toArray
  rw [e0, Lib.pow10Tab, List.getElem?_map, List.getElem?_map]
  by_cases hi : i < 20
  · rw [h1 i hi, List.getElem?_range hi]; rfl
  · have : c.size ≤ 20 := by
      rcases Nat.lt_or_ge 20 c.size with h | h
      · rw [Array.getElem?_eq_getElem h] at h0; cases h0
      · exact h
    rw [Array.getElem?_eq_none (by omega), List.getElem?_eq_none (by simp; omega)]; rfl
theorem grow_below (w : World) (os : Array Obj) (k : Nat) : Below w.heap.size w (Sort.grow (w.drewN k) os) := Lib.below_grow _ w (Nat.le_refl _) k os
theorem strconv_Itoa_ok (i : Int) (r : ByteArray) (h : strconv_Itoa i = some r) : strconv_Itoa.M i r := by
  unfold strconv_Itoa at h
  obtain ⟨hc, h⟩ := guard_some h
  obtain rfl := some_eq h
  refine calls_and (CallsA.of_calls ⟨_, Tryz.func43, by decide, rfl⟩ fun w St ρ vals hv hr hlt hG => ?_)
  obtain ⟨a, rfl⟩ : ∃ a, vals = #[a] := by
    obtain ⟨l⟩ := vals
    match l, hv with
    | [a], _ => exact ⟨a, rfl⟩
  have ha : a = .int .i64 i := by
    have := (show RepE w St (.v (.int .i64 i)) a from hr 0)
    generalize a = y at this; cases this; rfl
  subst ha
  refine (Tryz.strconv_Itoa i hc.1 hc.2 w (gl_pow w St hG)).mono ?_
  rintro e w' ⟨rfl, k, os, rfl⟩
  exact ⟨_, rfl, rfl, rfl, grow_below w os k⟩

/-! ### slices.Clone -/
def slices_Clone_Exc (s : List TExc) : Option (List TExc) := guardP ((0 + s.length) * 24 ≤ 140737488355328) >>= fun _ => some s
theorem slices_Clone_Exc_ok (s r : List TExc) (hF : slices_Clone_Exc s = some r) : slices_Clone_Exc.M s r := by
  unfold slices_Clone_Exc at hF
  obtain ⟨hg, hF⟩ := guard_some hF
  obtain rfl := some_eq hF
  unfold slices_Clone_Exc.M
  refine enter tabOk Tryz.func58 rfl (by decide) (Nat.le_of_ble_eq_true rfl) rfl rfl rfl ?_
  refine AWP.seq ?_
  refine nd (by decide) _ _ _ ?_
  (repeat (first | ((conv => whnf); (with_reducible refine And.intro ?_ ?_); (focus (first | exact Eq.refl _ | exact trivial | exact Int.natCast_nonneg _ | assumption | exact Nat.le_of_ble_eq_true (Eq.refl true) | decide))))); (conv => whnf)
  refine AWP.seq ?_
  refine nd (by decide) _ _ _ ?_
  (repeat (first | ((conv => whnf); (with_reducible refine And.intro ?_ ?_); (focus (first | exact Eq.refl _ | exact trivial | exact Int.natCast_nonneg _ | assumption | exact Nat.le_of_ble_eq_true (Eq.refl true) | decide))))); (conv => whnf)
  refine And.intro (fun hnil => ?_) ?_
  · (repeat (first | ((conv => whnf); (with_reducible refine And.intro ?_ ?_); (focus (first | exact Eq.refl _ | exact trivial | exact Int.natCast_nonneg _ | assumption | exact Nat.le_of_ble_eq_true (Eq.refl true) | decide))))); (conv => whnf)
    obtain rfl : s = [] := by simpa using hnil
    refine nd (by decide) _ _ _ ?_
    (conv => whnf)
    refine AWP.seq ?_
    refine nd (by decide) _ _ _ ?_
    (repeat (first | ((conv => whnf); (with_reducible refine And.intro ?_ ?_); (focus (first | exact Eq.refl _ | exact trivial | exact Int.natCast_nonneg _ | assumption | exact Nat.le_of_ble_eq_true (Eq.refl true) | decide))))); (conv => whnf)
    refine nd (by decide) _ _ _ ?_
    (repeat (first | ((conv => whnf); (with_reducible refine And.intro ?_ ?_); (focus (first | exact Eq.refl _ | exact trivial | exact Int.natCast_nonneg _ | assumption | exact Nat.le_of_ble_eq_true (Eq.refl true) | decide))))); (conv => whnf)
    exact Exists.intro (rn []) (WS.mk (wt_cons wd_nil wt_nil) wb_nil)
  · (repeat (first | ((conv => whnf); (with_reducible refine And.intro ?_ ?_); (focus (first | exact Eq.refl _ | exact trivial | exact Int.natCast_nonneg _ | assumption | exact Nat.le_of_ble_eq_true (Eq.refl true) | decide))))); (conv => whnf)
    refine nd (by decide) _ _ _ ?_
    (conv => whnf)
    refine nd (by decide) _ _ _ ?_
    (conv => whnf)
    refine AWP.seq ?_
    refine nd (by decide) _ _ _ ?_
    (repeat (first | ((conv => whnf); (with_reducible refine And.intro ?_ ?_); (focus (first | exact Eq.refl _ | exact trivial | exact Int.natCast_nonneg _ | assumption | exact Nat.le_of_ble_eq_true (Eq.refl true) | decide))))); (conv => whnf)
    refine Exists.intro [] (And.intro (WE.refl _) ?_)
    (repeat (first | ((conv => whnf); (with_reducible refine And.intro ?_ ?_); (focus (first | exact Eq.refl _ | exact trivial | exact Int.natCast_nonneg _ | assumption | exact Nat.le_of_ble_eq_true (Eq.refl true) | decide))))); (conv => whnf)
    refine And.intro (rows_map _ (fun x => TExc.cells_len x)) (And.intro (by have h := hg; simp only [List.length_map, List.length_append, List.length_cons, List.length_nil, Nat.zero_add] at h ⊢; first | exact h | (unfold maxLen; omega) | omega) (And.intro (by have h := hg; simp only [List.length_map, List.length_append, List.length_cons, List.length_nil, Nat.zero_add] at h ⊢; first | exact h | (unfold maxLen; omega) | omega) (Exists.intro _ (And.intro (WE.refl _) ?_))))
    (repeat (first | ((conv => whnf); (with_reducible refine And.intro ?_ ?_); (focus (first | exact Eq.refl _ | exact trivial | exact Int.natCast_nonneg _ | assumption | exact Nat.le_of_ble_eq_true (Eq.refl true) | decide))))); (conv => whnf)
    refine nd (by decide) _ _ _ ?_
    (repeat (first | ((conv => whnf); (with_reducible refine And.intro ?_ ?_); (focus (first | exact Eq.refl _ | exact trivial | exact Int.natCast_nonneg _ | assumption | exact Nat.le_of_ble_eq_true (Eq.refl true) | decide))))); (conv => whnf)
    exact Exists.intro (rn [(7, 0)]) (WS.mk (wt_cons (wd_own rfl (WE.refl _)) wt_nil) wb_nil)
end Go.Proofs.YtafniolcakiljaaGreatDoor

set_option linter.unusedVariables false
set_option linter.unusedSimpArgs false
set_option maxRecDepth 100000
set_option maxHeartbeats 4000000
namespace Go.Proofs.YtafniolcakiljaaGreatDoor
open Go Go.Am Go.RowKit

theorem arg1 {α : Type} {vals : Array α} (h : vals.size = 1) : ∃ a, vals = #[a] := by
  obtain ⟨l⟩ := vals
  match l, h with
  | [a], _ => exact ⟨a, rfl⟩
theorem arg2 {α : Type} {vals : Array α} (h : vals.size = 2) : ∃ a b, vals = #[a, b] := by
  obtain ⟨l⟩ := vals
  match l, h with
  | [a, b], _ => exact ⟨a, b, rfl⟩
theorem rep_str {w : World} {St : Stab} {s : ByteArray} {x : Value} (h : RepE w St (.v (.string s)) x) : x = .string s := by
  cases h; rfl
/-! ### strconv.Atoi -/
def atoiR (s : ByteArray) : Int × Bool :=
  match Lib.atoiAll s.data.toList with
  | .ok v => (v, false)
  | .range => (Lib.atoiSat s.data.toList, true)
  | _ => (0, true)
def strconv_Atoi (s : ByteArray) : Option (Int × Bool) := guardP (s.size ≤ 281474976710656) >>= fun _ => some (atoiR s)
theorem gl_err (w : World) (St : Stab) (hG : Globs Tryz.prog w St) : ifcCell (w.cell? ⟨3, 0, none⟩) ∧ ifcCell (w.cell? ⟨4, 0, none⟩) :=
  ⟨(hG (3, 0, ifcCell) (List.mem_append_right _ (List.mem_cons_of_mem _ (List.mem_cons_self ..)))).2, (hG (4, 0, ifcCell) (List.mem_append_right _ (List.mem_cons_of_mem _ (List.mem_cons_of_mem _ (List.mem_cons_self ..))))).2⟩
theorem tup2 {w : World} {St : Stab} {ρ : Nat → Nat} {n : Int} {b : Bool} {v : Value} (hv : (b = false ∧ v = .nilIface) ∨ (b = true ∧ ∃ t u, v = .iface t u)) : RepD w St ρ (.tup [.c (.v (.int .i64 n)), .c (.ifc b)]) (.tuple #[.int .i64 n, v]) := by
  refine ⟨[.int .i64 n, v], rfl, rfl, fun k x hk => ?_⟩
  match k, hk with
  | 0, hk => simp only [List.getElem?_cons_zero, Option.some.injEq] at hk; subst hk; exact ⟨_, rfl, .v _ rfl⟩
  | 1, hk => simp only [List.getElem?_cons_succ, List.getElem?_cons_zero, Option.some.injEq] at hk; subst hk; exact ⟨_, rfl, .ifc b v hv⟩
  | k + 2, hk => simp at hk
theorem bytes_below {w w' : World} (h : w' = w ∨ ∃ t, w' = Lib.bytesWorld w 5 t) : Below w.heap.size w w' := by
  rcases h with rfl | ⟨t, rfl⟩
  · exact Below.refl _ _
  · exact Lib.bytesWorld_below w 5 t
theorem strconv_Atoi_ok (s : ByteArray) (r : Int × Bool) (h : strconv_Atoi s = some r) : strconv_Atoi.M s r := by
  unfold strconv_Atoi at h
  obtain ⟨hc, h⟩ := guard_some h
  obtain rfl := some_eq h
  refine calls_and (CallsA.of_callsD ⟨_, Tryz.func49, by decide, rfl⟩ fun w St ρ vals hv hr hlt hG => ?_)
  obtain ⟨a, rfl⟩ := arg1 hv
  obtain rfl := rep_str (show RepE w St (.v (.string s)) a from hr 0)
  obtain ⟨⟨e3, h3, i3⟩, e4, h4, i4⟩ := gl_err w St hG
  unfold atoiR
  cases hn : Lib.atoiAll s.data.toList
  · rename_i v
    refine (Tryz.strconv_Atoi_ok s (by omega) v hn w).mono ?_
    rintro e w' ⟨rfl, hw⟩
    exact ⟨_, _, rfl, tup2 (.inl ⟨rfl, rfl⟩), rfl, rfl, bytes_below hw⟩
  · refine (Tryz.strconv_Atoi_syntax s hc (by rw [hn]; rfl) e3 w h3 i3).mono ?_
    rintro e w' ⟨N, rfl, _, _, hw⟩
    exact ⟨_, _, rfl, tup2 (.inr ⟨rfl, _, _, rfl⟩), rfl, rfl, hw⟩
  · refine (Tryz.strconv_Atoi_range s hc hn e4 w h4 i4).mono ?_
    rintro e w' ⟨N, rfl, _, _, hw⟩
    exact ⟨_, _, rfl, tup2 (.inr ⟨rfl, _, _, rfl⟩), rfl, rfl, hw⟩
/-! ### strings.Split -/
def strings_Split (s sep : ByteArray) : Option (List ByteArray) := guardP (s.size < 4294967281 ∧ 1 ≤ sep.size) >>= fun _ => some (Lib.splitB sep 0 (Lib.countB s sep) s)
theorem strings_Split_ok (s sep : ByteArray) (r : List ByteArray) (h : strings_Split s sep = some r) : strings_Split.M s sep r := by
  unfold strings_Split at h
  obtain ⟨hc, h⟩ := guard_some h
  obtain rfl := some_eq h
  refine calls_and (CallsA.of_callsD ⟨_, Tryz.func14, by decide, rfl⟩ fun w St ρ vals hv hr hlt hG => ?_)
  obtain ⟨a, b, rfl⟩ := arg2 hv
  obtain rfl := rep_str (show RepE w St (.v (.string s)) a from hr 0)
  obtain rfl := rep_str (show RepE w St (.v (.string sep)) b from hr 1)
  obtain ⟨m, hm⟩ := (hG (0, 0, intCell) (List.mem_append_right _ (List.mem_cons_self ..))).2
  refine (Tryz.strings_Split s sep m w hc.1 hm hc.2).mono ?_
  rintro e w' ⟨rfl, rfl⟩
  have hlen := Lib.splitB_all sep hc.2 0 _ s rfl
  have hcnt := Lib.countB_le sep hc.2 _ s (Nat.le_refl _)
  refine ⟨_, _, rfl, ?_, rfl, rfl, (Below.refl _ w).alloc (Nat.le_refl _) _⟩
  generalize Lib.splitB sep 0 (Lib.countB s sep) s = l at hlen ⊢
  have hcell : ∀ (i : Nat) x, l[i]? = some x → (w.alloc (.cells (l.map Value.string).toArray 9)).cell? ⟨w.heap.size, i, none⟩ = some (.string x) := fun i x hi => by
    simp [World.cell?, World.alloc, -World.alloc_eq, hi]
  refine RepE.sl (l.map c_S) _ _ _ 1 w.heap.size 0 (fun i _ => (l[i]?.map Value.string).getD undef) (by rw [List.length_map]; exact hlen) (Nat.le_refl _) (by unfold maxLen; omega) (fun _ => rfl) (fun i row hi => ?_) (fun i k row x hi hk => ?_) (fun i k row x hi hk => ?_)
  · rw [List.getElem?_map, Option.map_eq_some_iff] at hi
    obtain ⟨x, _, rfl⟩ := hi; rfl
  · rw [List.getElem?_map, Option.map_eq_some_iff] at hi
    obtain ⟨y, hy, rfl⟩ := hi
    have hk0 : k = 0 := by
      match k, hk with
      | 0, _ => rfl
      | k + 1, hk => simp [c_S] at hk
    subst hk0
    have := hcell i y hy
    simp only [Nat.mul_one, Nat.zero_add, Nat.add_zero]
    refine ⟨.inr ⟨Nat.le_refl _, by simp [World.alloc, -World.alloc_eq]⟩, ?_⟩
    rw [this, hy]; rfl
  · rw [List.getElem?_map, Option.map_eq_some_iff] at hi
    obtain ⟨y, hy, rfl⟩ := hi
    have hk0 : k = 0 := by
      match k, hk with
      | 0, _ => rfl
      | k + 1, hk => simp [c_S] at hk
    subst hk0
    simp only [c_S, List.getElem?_cons_zero, Option.some.injEq] at hk
    subst hk
    rw [hy]
    exact .v _ rfl
end Go.Proofs.YtafniolcakiljaaGreatDoor

set_option linter.unusedVariables false
set_option linter.unusedSimpArgs false
set_option maxRecDepth 100000
set_option maxHeartbeats 4000000
namespace Go.Proofs.YtafniolcakiljaaGreatDoor
open Go Go.Am
def slices_Index_Exc_l1 (s : (List TExc)) (x_8 : Nat) (v : TExc) (x_8_s_ : (List TExc)) : Option (Int) :=
  (match x_8_s_ with
  | x11 :: xs12 =>
  if ((v.fCon.toList == x11.fCon.toList) && ((v.fN == x11.fN) && true)) = true then
  some ((x_8 : Nat) : Int)
  else
  slices_Index_Exc_l1 s (x_8 + 1) v xs12
  | [] =>
  some (-1))
  partial_fixpoint
def slices_Index_Exc_l1.M (s : (List TExc)) (x_8 : Nat) (v : TExc) (x_8_s_ : (List TExc)) (r : Int) : Prop :=
  ∀ pre_x_8 : List TExc, s = pre_x_8 ++ x_8_s_ → x_8 = pre_x_8.length → s.length ≤ maxLen → AWL Tryz.prog 19 (Code.sub (bodyOf Tryz.f71) [1, 0, 1, 0, 0]) (Code.cont Tryz.prog 19 (bodyOf Tryz.f71) [1, 0, 1, 0] (endK tab Tryz.f71.results [] (WRes (.c none (.v (.int .i64 r))) []))) ⟨[(0, .c none (.sl (s.map TExc.cells))), (3, .ptr 3 0), (7, .c none (.v (.int .i64 ((s.length : Nat) : Int)))), (8, .c none (.v (.int .i64 ((x_8 : Nat) : Int))))], [(3, [(none, .v (.string v.fCon)), (none, .v (.int .i64 v.fN))])]⟩
theorem slices_Index_Exc_l1_ok (s : (List TExc)) (x_8 : Nat) (v : TExc) (x_8_s_ : (List TExc)) : ∀ r, slices_Index_Exc_l1 s x_8 v x_8_s_ = some r → slices_Index_Exc_l1.M s x_8 v x_8_s_ r := by
  refine slices_Index_Exc_l1.partial_correctness s v (fun x_8 x_8_s_ r => slices_Index_Exc_l1.M s x_8 v x_8_s_ r) ?_ x_8 x_8_s_
  intro slices_Index_Exc_l1' ih0_slices_Index_Exc_l1 x_8 x_8_s_ r hF
  have ih_slices_Index_Exc_l1 := fun (_s : (List TExc)) (x_8 : Nat) (_v : TExc) (x_8_s_ : (List TExc)) => ih0_slices_Index_Exc_l1 x_8 x_8_s_
  clear ih0_slices_Index_Exc_l1
  unfold slices_Index_Exc_l1.M
  intro pre_x_8 hs_x_8 hk_x_8 hlen1
  refine AWL.step ?_
  refine AWP.seq ?_
  refine ns ?_
  refine AWP.seq ?_
  refine nw ?_
  refine branch_list hs_x_8 hk_x_8 (fun x11 xs12 hp13 hx13 hl13 => ?_) (fun hp13 => ?_)
  · subst hp13
    refine nw ?_
    refine AWP.seq ?_
    refine AWP.block ?_
    refine AWP.seq ?_
    refine ns ?_
    refine AWP.seq ?_
    refine nn ?_
    refine Exists.intro 5 (Exists.intro [[], [], [], [], []] (Exists.intro [([11, 12, 13, 14, 15], [], []), ([11, 12, 13, 14, 15], [], []), ([11, 12, 13, 14, 15], [], []), ([11, 14, 15], [], []), ([11, 15], [], [])] (Exists.intro [11, 12, 13, 14, 15] (And.intro (by decide +kernel) ?_))))
    refine dp ?_
    refine dp ?_
    refine dp ?_
    ((repeat (first | ((conv => whnf); (with_reducible refine And.intro ?_ ?_); (focus (first | exact Eq.refl _ | exact trivial | exact Int.natCast_nonneg _ | assumption | exact Nat.le_of_ble_eq_true (Eq.refl true) | decide))))); (conv => whnf); apply Exists.intro; apply Exists.intro; apply And.intro; (focus (((repeat (first | ((conv => whnf); (with_reducible refine And.intro ?_ ?_); (focus (first | exact Eq.refl _ | exact trivial | exact Int.natCast_nonneg _ | assumption | exact Nat.le_of_ble_eq_true (Eq.refl true) | decide))))); (conv => whnf)) <;> (rw [map_get (TExc.cells_eq x11) hx13]) <;> ((repeat (first | ((conv => whnf); (with_reducible refine And.intro ?_ ?_); (focus (first | exact Eq.refl _ | exact trivial | exact Int.natCast_nonneg _ | assumption | exact Nat.le_of_ble_eq_true (Eq.refl true) | decide))))); (conv => whnf)) <;> (exact rfl))); apply And.intro; (focus exact rfl); (conv => whnf))
    refine dp ?_
    refine st ?_
    refine nw ?_
    refine branch_hF hF (fun hc14 hF => ?_) (fun hc14 hF => ?_)
    · refine AWP.seq ?_
      refine ns ?_
      obtain rfl := some_eq hF
      refine ns ?_
      exact wx (WS.mk (tc wt_nil) wb_nil)
    · refine nw ?_
      refine ns ?_
      refine AWL.weak (rn []) ?_ (ih_slices_Index_Exc_l1 s (x_8 + 1) v xs12 _ hF (pre_x_8 ++ [x11]) (by rw [hs_x_8]; simp) (by rw [hk_x_8]; simp) hlen1)
      exact (WS.mk (tc (tp (tc (wt_cons (wd_c (we_i (wrap_succ hlen1 hl13))) wt_nil)))) (wb_cons rfl (cc (cc wc_nil)) wb_nil))
  · subst hp13
    refine nw ?_
    refine AWP.seq ?_
    refine ns ?_
    obtain rfl := some_eq hF
    refine ns ?_
    exact wx (WS.mk (tc wt_nil) wb_nil)
end Go.Proofs.YtafniolcakiljaaGreatDoor

set_option linter.unusedVariables false
set_option linter.unusedSimpArgs false
set_option maxRecDepth 100000
set_option maxHeartbeats 4000000
namespace Go.Proofs.YtafniolcakiljaaGreatDoor
open Go Go.Am
def slices_Index_Exc (s : (List TExc)) (v : TExc) : Option (Int) :=
  slices_Index_Exc_l1 s 0 v s
def slices_Index_Exc.M (s : (List TExc)) (v : TExc) (r : Int) : Prop :=
  CallsX Tryz.prog 71 [.c none (.sl (s.map TExc.cells)), .agg [.v (.string v.fCon), .v (.int .i64 v.fN)]] [] (fun d b => d = .c none (.v (.int .i64 r)) ∧ b = [])
theorem slices_Index_Exc_ok (s : (List TExc)) (v : TExc) (r : Int) (hF : slices_Index_Exc s v = some r) : slices_Index_Exc.M s v r := by
  unfold slices_Index_Exc at hF
  unfold slices_Index_Exc.M
  refine enter tabOk Tryz.func71 rfl (by decide) (Nat.le_of_ble_eq_true rfl) rfl rfl rfl ?_
  refine AWP.seq ?_
  refine ns ?_
  refine AWP.seq ?_
  refine AWP.seq ?_
  refine ns ?_
  intro hlen1
  (try rw [List.length_map] at hlen1)
  (try rw [List.length_map])
  refine st ?_
  refine AWP.block ?_
  refine AWP.loop ?_
  refine AWL.weak (rn []) ?_ (slices_Index_Exc_l1_ok s 0 v s _ hF ([]) rfl rfl hlen1)
  exact (WS.mk (tc (tp (tc (tc wt_nil)))) (wb_cons rfl (cc (cc wc_nil)) wb_nil))
end Go.Proofs.YtafniolcakiljaaGreatDoor

set_option linter.unusedVariables false
set_option linter.unusedSimpArgs false
set_option maxRecDepth 100000
set_option maxHeartbeats 4000000
namespace Go.Proofs.YtafniolcakiljaaGreatDoor
open Go Go.Am
def slices_Contains_Exc (s : (List TExc)) (v : TExc) : Option (Bool) :=
  slices_Index_Exc s v >>= fun r1 =>
  some (decide (r1 ≥ 0))
def slices_Contains_Exc.M (s : (List TExc)) (v : TExc) (r : Bool) : Prop :=
  CallsX Tryz.prog 59 [.c none (.sl (s.map TExc.cells)), .agg [.v (.string v.fCon), .v (.int .i64 v.fN)]] [] (fun d b => d = .c none (.v (.bool r)) ∧ b = [])
theorem slices_Contains_Exc_ok (s : (List TExc)) (v : TExc) (r : Bool) (hF : slices_Contains_Exc s v = some r) : slices_Contains_Exc.M s v r := by
  unfold slices_Contains_Exc at hF
  unfold slices_Contains_Exc.M
  refine enter tabOk Tryz.func59 rfl (by decide) (Nat.le_of_ble_eq_true rfl) rfl rfl rfl ?_
  refine AWP.seq ?_
  refine ns ?_
  refine AWP.seq ?_
  obtain ⟨r1, hr1, hF⟩ := bind_some hF
  refine ns ?_
  refine Exists.intro [] ?_
  refine st ?_
  refine cm (CallsX.weak (rn []) (slices_Index_Exc_ok s v _ hr1) rfl (WS.mk (tc (wt_cons (wd_agg (lc (lc wl_nil))) wt_nil)) wb_nil)) ?_
  refine st ?_
  obtain rfl := some_eq hF
  refine ns ?_
  exact wx (WS.mk (tc wt_nil) wb_nil)
end Go.Proofs.YtafniolcakiljaaGreatDoor

set_option linter.unusedVariables false
set_option linter.unusedSimpArgs false
set_option maxRecDepth 100000
set_option maxHeartbeats 4000000
namespace Go.Proofs.YtafniolcakiljaaGreatDoor
open Go Go.Am
def values_Has (s : TExcSet) (e : TExc) : Option (Bool) :=
  (if s.fAll = true then some true else slices_Contains_Exc s.fList e >>= fun r1 =>
  some r1) >>= fun c2 =>
  some c2
def values_Has.M (s : TExcSet) (e : TExc) (r : Bool) : Prop :=
  CallsX Tryz.prog 45 [.agg [.v (.bool s.fAll), .sl (s.fList.map TExc.cells)], .agg [.v (.string e.fCon), .v (.int .i64 e.fN)]] [] (fun d b => d = .c none (.v (.bool r)) ∧ b = [])
theorem values_Has_ok (s : TExcSet) (e : TExc) (r : Bool) (hF : values_Has s e = some r) : values_Has.M s e r := by
  unfold values_Has at hF
  unfold values_Has.M
  refine enter tabOk Tryz.func45 rfl (by decide) (Nat.le_of_ble_eq_true rfl) rfl rfl rfl ?_
  refine AWP.seq ?_
  refine ns ?_
  refine AWP.seq ?_
  obtain ⟨c2, hc2, hF⟩ := bind_some hF
  refine AWP.cutN (fun T => ∃ r, WS r T ⟨[(4, .c none (.v (.bool c2)))], []⟩) ?_ (fun T hw => ?_)
  · refine ns ?_
    refine branchG_intro false (fun hc3 => ?_) (fun hc3 => ?_)
    · have hc2 := ift hc3 hc2
      (conv => whnf)
      obtain rfl := some_eq hc2
      refine st ?_
      exact wx (WS.mk (wt_cons (wd_c (web hc3)) wt_nil) wb_nil)
    · have hc2 := ife hc3 hc2
      obtain ⟨r1, hr1, hc2⟩ := bind_some hc2
      (conv => whnf)
      refine st ?_
      refine Exists.intro [] ?_
      refine st ?_
      refine cm (CallsX.weak (rn []) (slices_Contains_Exc_ok s.fList e _ hr1) rfl (WS.mk (tc (wt_cons (wd_agg (lc (lc wl_nil))) wt_nil)) wb_nil)) ?_
      refine st ?_
      obtain rfl := some_eq hc2
      refine st ?_
      exact wx (WS.mk (wt_cons (wd_c (web hc3)) wt_nil) wb_nil)
  obtain ⟨r0, hw⟩ := hw
  (conv => whnf)
  refine AWP.weak r0 hw ?_
  obtain rfl := some_eq hF
  refine ns ?_
  exact wx (WS.mk (tc wt_nil) wb_nil)
end Go.Proofs.YtafniolcakiljaaGreatDoor

set_option linter.unusedVariables false
set_option linter.unusedSimpArgs false
set_option maxRecDepth 100000
set_option maxHeartbeats 4000000
namespace Go.Proofs.YtafniolcakiljaaGreatDoor
open Go Go.Am
def values_Within_l1 (a : TExcSet) (x_18 : Nat) (b : TExcSet) (x_18_s_ : (List TExc)) : Option (Bool) :=
  (match x_18_s_ with
  | x16 :: xs17 =>
  values_Has b x16 >>= fun r19 =>
  if (!r19) = true then
  some false
  else
  values_Within_l1 a (x_18 + 1) b xs17
  | [] =>
  some true)
  partial_fixpoint
def values_Within_l1.M (a : TExcSet) (x_18 : Nat) (b : TExcSet) (x_18_s_ : (List TExc)) (r : Bool) : Prop :=
  ∀ pre_x_18 : List TExc, a.fList = pre_x_18 ++ x_18_s_ → x_18 = pre_x_18.length → a.fList.length ≤ maxLen → AWL Tryz.prog 27 (Code.sub (bodyOf Tryz.f24) [1, 1, 0, 1, 0, 0]) (Code.cont Tryz.prog 27 (bodyOf Tryz.f24) [1, 1, 0, 1, 0] (endK tab Tryz.f24.results [] (WRes (.c none (.v (.bool r))) []))) ⟨[(3, .ptr 3 0), (16, .c none (.sl (a.fList.map TExc.cells))), (17, .c none (.v (.int .i64 ((a.fList.length : Nat) : Int)))), (18, .c none (.v (.int .i64 ((x_18 : Nat) : Int))))], [(3, [(none, .v (.bool b.fAll)), (none, .sl (b.fList.map TExc.cells))])]⟩
theorem values_Within_l1_ok (a : TExcSet) (x_18 : Nat) (b : TExcSet) (x_18_s_ : (List TExc)) : ∀ r, values_Within_l1 a x_18 b x_18_s_ = some r → values_Within_l1.M a x_18 b x_18_s_ r := by
  refine values_Within_l1.partial_correctness a b (fun x_18 x_18_s_ r => values_Within_l1.M a x_18 b x_18_s_ r) ?_ x_18 x_18_s_
  intro values_Within_l1' ih0_values_Within_l1 x_18 x_18_s_ r hF
  have ih_values_Within_l1 := fun (_a : TExcSet) (x_18 : Nat) (_b : TExcSet) (x_18_s_ : (List TExc)) => ih0_values_Within_l1 x_18 x_18_s_
  clear ih0_values_Within_l1
  unfold values_Within_l1.M
  intro pre_x_18 hs_x_18 hk_x_18 hlen4
  refine AWL.step ?_
  refine AWP.seq ?_
  refine ns ?_
  refine AWP.seq ?_
  refine nw ?_
  refine branch_list hs_x_18 hk_x_18 (fun x16 xs17 hp18 hx18 hl18 => ?_) (fun hp18 => ?_)
  · subst hp18
    refine nw ?_
    refine AWP.seq ?_
    refine AWP.block ?_
    refine AWP.seq ?_
    refine nn ?_
    refine sr (map_get (f := TExc.cells) (TExc.cells_eq x16) hx18) ?_
    refine st ?_
    refine AWP.seq ?_
    obtain ⟨r19, hr19, hF⟩ := bind_some hF
    refine ns ?_
    refine Exists.intro [] ?_
    refine st ?_
    refine cm (CallsX.weak (rn []) (values_Has_ok b x16 _ hr19) rfl (WS.mk (wt_cons (wd_agg (lc (lc wl_nil))) (wt_cons (wd_agg (lc (lc wl_nil))) wt_nil)) wb_nil)) ?_
    refine st ?_
    refine nw ?_
    refine branch_hF hF (fun hc20 hF => ?_) (fun hc20 hF => ?_)
    · refine AWP.seq ?_
      refine ns ?_
      obtain rfl := some_eq hF
      refine ns ?_
      exact wx (WS.mk (tc wt_nil) wb_nil)
    · refine nw ?_
      refine ns ?_
      refine AWL.weak (rn []) ?_ (ih_values_Within_l1 a (x_18 + 1) b xs17 _ hF (pre_x_18 ++ [x16]) (by rw [hs_x_18]; simp) (by rw [hk_x_18]; simp) hlen4)
      exact (WS.mk (tp (tc (tc (wt_cons (wd_c (we_i (wrap_succ hlen4 hl18))) wt_nil)))) (wb_cons rfl (cc (cc wc_nil)) wb_nil))
  · subst hp18
    refine nw ?_
    refine AWP.seq ?_
    refine ns ?_
    obtain rfl := some_eq hF
    refine ns ?_
    exact wx (WS.mk (tc wt_nil) wb_nil)
end Go.Proofs.YtafniolcakiljaaGreatDoor

set_option linter.unusedVariables false
set_option linter.unusedSimpArgs false
set_option maxRecDepth 100000
set_option maxHeartbeats 4000000
namespace Go.Proofs.YtafniolcakiljaaGreatDoor
open Go Go.Am
def values_Within (a : TExcSet) (b : TExcSet) : Option (Bool) :=
  if (a.fAll || b.fAll) = true then
  some b.fAll
  else
  values_Within_l1 a 0 b a.fList
def values_Within.M (a : TExcSet) (b : TExcSet) (r : Bool) : Prop :=
  CallsX Tryz.prog 24 [.agg [.v (.bool a.fAll), .sl (a.fList.map TExc.cells)], .agg [.v (.bool b.fAll), .sl (b.fList.map TExc.cells)]] [] (fun d b => d = .c none (.v (.bool r)) ∧ b = [])
theorem values_Within_ok (a : TExcSet) (b : TExcSet) (r : Bool) (hF : values_Within a b = some r) : values_Within.M a b r := by
  unfold values_Within at hF
  unfold values_Within.M
  refine enter tabOk Tryz.func24 rfl (by decide) (Nat.le_of_ble_eq_true rfl) rfl rfl rfl ?_
  refine AWP.seq ?_
  refine ns ?_
  refine AWP.seq ?_
  refine AWP.seq ?_
  refine AWP.cutN (fun T => ∃ r, WS r T ⟨[(2, .ptr 2 0), (3, .ptr 3 0), (12, .c none (.v (.bool (a.fAll || b.fAll))))], [(2, [(none, .v (.bool a.fAll)), (none, .sl (a.fList.map TExc.cells))]), (3, [(none, .v (.bool b.fAll)), (none, .sl (b.fList.map TExc.cells))])]⟩) ?_ (fun T hw => ?_)
  · refine ns ?_
    refine branchG_intro false (fun hc2 => ?_) (fun hc2 => ?_)
    · (conv => whnf)
      refine st ?_
      exact wx (WS.mk (tp (tp (wt_cons (wd_c (web hc2)) wt_nil))) (wb_cons rfl (cc (cc wc_nil)) (wb_cons rfl (cc (cc wc_nil)) wb_nil)))
    · (conv => whnf)
      refine st ?_
      exact wx (WS.mk (tp (tp (wt_cons (wd_c (web hc2)) wt_nil))) (wb_cons rfl (cc (cc wc_nil)) (wb_cons rfl (cc (cc wc_nil)) wb_nil)))
  obtain ⟨r0, hw⟩ := hw
  (conv => whnf)
  refine AWP.weak r0 hw ?_
  refine nw ?_
  refine branch_hF hF (fun hc3 hF => ?_) (fun hc3 hF => ?_)
  · refine AWP.seq ?_
    refine ns ?_
    obtain rfl := some_eq hF
    refine ns ?_
    exact wx (WS.mk (tc wt_nil) wb_nil)
  · refine nw ?_
    refine AWP.seq ?_
    refine AWP.seq ?_
    refine ns ?_
    intro hlen4
    (try rw [List.length_map] at hlen4)
    (try rw [List.length_map])
    refine st ?_
    refine AWP.block ?_
    refine AWP.loop ?_
    refine AWL.weak (rn []) ?_ (values_Within_l1_ok a 0 b a.fList _ hF ([]) rfl rfl hlen4)
    exact (WS.mk (tp (tc (tc (tc wt_nil)))) (wb_cons rfl (cc (cc wc_nil)) wb_nil))
end Go.Proofs.YtafniolcakiljaaGreatDoor

set_option linter.unusedVariables false
set_option linter.unusedSimpArgs false
set_option maxRecDepth 100000
set_option maxHeartbeats 4000000
namespace Go.Proofs.YtafniolcakiljaaGreatDoor
open Go Go.Am
mutual
def values_Refines (a : TValue) (b : TValue) : Option (Bool) :=
  if ((b.fOp == 6) || ((b.fOp == 5) && b.fSet.fAll)) = true then
  some true
  else
  if (a.fOp != b.fOp) = true then
  some false
  else
  if (b.fOp == 1) = true then
  values_Refines_k1 b (b.fOp == 1) a
  else
  values_Refines_k1 b (b.fOp == 2) a
  partial_fixpoint
def values_Refines_k1 (b : TValue) (x_25 : Bool) (a : TValue) : Option (Bool) :=
  if x_25 = true then
  some (a.fN == b.fN)
  else
  if (b.fOp == 4) = true then
  some true
  else
  if (b.fOp == 5) = true then
  values_Within a.fSet b.fSet >>= fun r11 =>
  some r11
  else
  if (b.fOp == 3) = true then
  (if (a.fName.toList == b.fName.toList) = true then slices_EqualFunc_Value_values_Refines a.fKids b.fKids >>= fun r13 =>
  some r13 else some false) >>= fun c14 =>
  some c14
  else
  some false
  partial_fixpoint
def slices_EqualFunc_Value_values_Refines (s1_ : (List TValue)) (s2_ : (List TValue)) : Option (Bool) :=
  if (((s1_.length : Nat) : Int) != ((s2_.length : Nat) : Int)) = true then
  some false
  else
  slices_EqualFunc_Value_values_Refines_l1 s2_ s1_ 0 s1_
  partial_fixpoint
def slices_EqualFunc_Value_values_Refines_l1 (s2_ : (List TValue)) (s1_ : (List TValue)) (x_17 : Nat) (x_17_s_ : (List TValue)) : Option (Bool) :=
  (match x_17_s_ with
  | x21 :: xs22 =>
  (s2_[x_17]?) >>= fun x24 =>
  values_Refines x21 x24 >>= fun r25 =>
  if (!r25) = true then
  some false
  else
  slices_EqualFunc_Value_values_Refines_l1 s2_ s1_ (x_17 + 1) xs22
  | [] =>
  some true)
  partial_fixpoint
end
def values_Refines.M (a : TValue) (b : TValue) (r : Bool) : Prop :=
  CallsX Tryz.prog 13 [.agg [.v (.int .i64 a.fOp), .v (.string a.fName), .v (.int .i64 a.fN), .sl (a.fKids.map TValue.cells), .v (.bool a.fSet.fAll), .sl (a.fSet.fList.map TExc.cells)], .agg [.v (.int .i64 b.fOp), .v (.string b.fName), .v (.int .i64 b.fN), .sl (b.fKids.map TValue.cells), .v (.bool b.fSet.fAll), .sl (b.fSet.fList.map TExc.cells)]] [] (fun d b => d = .c none (.v (.bool r)) ∧ b = [])
def values_Refines_k1.M (b : TValue) (x_25 : Bool) (a : TValue) (r : Bool) : Prop :=
  AWP Tryz.prog 56 (Code.sub (bodyOf Tryz.f13) [1, 1, 1, 0, 1, 0, 1]) (Code.cont Tryz.prog 56 (bodyOf Tryz.f13) [1, 1, 1, 0, 1, 0, 1] (endK tab Tryz.f13.results [] (WRes (.c none (.v (.bool r))) []))) ⟨[(2, .ptr 2 0), (3, .ptr 3 0), (24, .c none (.v (.int .i64 b.fOp))), (25, .c none (.v (.bool x_25)))], [(2, [(none, .v (.int .i64 a.fOp)), (none, .v (.string a.fName)), (none, .v (.int .i64 a.fN)), (none, .sl (a.fKids.map TValue.cells)), (none, .v (.bool a.fSet.fAll)), (none, .sl (a.fSet.fList.map TExc.cells))]), (3, [(none, .v (.int .i64 b.fOp)), (none, .v (.string b.fName)), (none, .v (.int .i64 b.fN)), (none, .sl (b.fKids.map TValue.cells)), (none, .v (.bool b.fSet.fAll)), (none, .sl (b.fSet.fList.map TExc.cells))])]⟩
def slices_EqualFunc_Value_values_Refines.M (s1_ : (List TValue)) (s2_ : (List TValue)) (r : Bool) : Prop :=
  CallsX Tryz.prog 25 [.c none (.sl (s1_.map TValue.cells)), .c none (.sl (s2_.map TValue.cells)), .c none (.v (.func (.func 13) #[] #[]))] [] (fun d b => d = .c none (.v (.bool r)) ∧ b = [])
def slices_EqualFunc_Value_values_Refines_l1.M (s2_ : (List TValue)) (s1_ : (List TValue)) (x_17 : Nat) (x_17_s_ : (List TValue)) (r : Bool) : Prop :=
  ∀ pre_x_17 : List TValue, s1_ = pre_x_17 ++ x_17_s_ → x_17 = pre_x_17.length → s1_.length ≤ maxLen → s2_.length ≤ maxLen → AWL Tryz.prog 32 (Code.sub (bodyOf Tryz.f25) [1, 1, 0, 1, 0, 0]) (Code.cont Tryz.prog 32 (bodyOf Tryz.f25) [1, 1, 0, 1, 0] (endK tab Tryz.f25.results [] (WRes (.c none (.v (.bool r))) []))) ⟨[(1, .c none (.sl (s2_.map TValue.cells))), (2, .c none (.v (.func (.func 13) #[] #[]))), (15, .c none (.sl (s1_.map TValue.cells))), (16, .c none (.v (.int .i64 ((s1_.length : Nat) : Int)))), (17, .c none (.v (.int .i64 ((x_17 : Nat) : Int))))], []⟩
theorem values_Refines_all : (∀ (a : TValue) (b : TValue), ∀ r, values_Refines a b = some r → values_Refines.M a b r) ∧ (∀ (b : TValue) (x_25 : Bool) (a : TValue), ∀ r, values_Refines_k1 b x_25 a = some r → values_Refines_k1.M b x_25 a r) ∧ (∀ (s1_ : (List TValue)) (s2_ : (List TValue)), ∀ r, slices_EqualFunc_Value_values_Refines s1_ s2_ = some r → slices_EqualFunc_Value_values_Refines.M s1_ s2_ r) ∧ (∀ (s2_ : (List TValue)) (s1_ : (List TValue)) (x_17 : Nat) (x_17_s_ : (List TValue)), ∀ r, slices_EqualFunc_Value_values_Refines_l1 s2_ s1_ x_17 x_17_s_ = some r → slices_EqualFunc_Value_values_Refines_l1.M s2_ s1_ x_17 x_17_s_ r) := by
  refine values_Refines.mutual_partial_correctness values_Refines.M values_Refines_k1.M slices_EqualFunc_Value_values_Refines.M slices_EqualFunc_Value_values_Refines_l1.M ?_ ?_ ?_ ?_
  · intro values_Refines_k1' ih_values_Refines_k1 a b r hF
    unfold values_Refines.M
    refine enter tabOk Tryz.func13 rfl (by decide) (Nat.le_of_ble_eq_true rfl) rfl rfl rfl ?_
    refine AWP.seq ?_
    refine ns ?_
    refine AWP.seq ?_
    refine AWP.seq ?_
    refine AWP.cutN (fun T => ∃ r, WS r T ⟨[(2, .ptr 2 0), (3, .ptr 3 0), (17, .c none (.v (.bool ((b.fOp == 6) || ((b.fOp == 5) && b.fSet.fAll)))))], [(2, [(none, .v (.int .i64 a.fOp)), (none, .v (.string a.fName)), (none, .v (.int .i64 a.fN)), (none, .sl (a.fKids.map TValue.cells)), (none, .v (.bool a.fSet.fAll)), (none, .sl (a.fSet.fList.map TExc.cells))]), (3, [(none, .v (.int .i64 b.fOp)), (none, .v (.string b.fName)), (none, .v (.int .i64 b.fN)), (none, .sl (b.fKids.map TValue.cells)), (none, .v (.bool b.fSet.fAll)), (none, .sl (b.fSet.fList.map TExc.cells))])]⟩) ?_ (fun T hw => ?_)
    · refine ns ?_
      refine branchG_intro false (fun hc2 => ?_) (fun hc2 => ?_)
      · (conv => whnf)
        refine st ?_
        exact wx (WS.mk (tp (tp (wt_cons (wd_c (web hc2)) wt_nil))) (wb_cons rfl (cc (cc (cc (cc (cc (cc wc_nil)))))) (wb_cons rfl (cc (cc (cc (cc (cc (cc wc_nil)))))) wb_nil)))
      · (conv => whnf)
        refine st ?_
        refine branchG_intro true (fun hc3 => ?_) (fun hc3 => ?_)
        · (conv => whnf)
          refine st ?_
          exact wx (WS.mk (tp (tp (wt_cons (wd_c (web (And.intro hc2 hc3))) wt_nil))) (wb_cons rfl (cc (cc (cc (cc (cc (cc wc_nil)))))) (wb_cons rfl (cc (cc (cc (cc (cc (cc wc_nil)))))) wb_nil)))
        · (conv => whnf)
          refine st ?_
          exact wx (WS.mk (tp (tp (wt_cons (wd_c (web (And.intro hc2 hc3))) wt_nil))) (wb_cons rfl (cc (cc (cc (cc (cc (cc wc_nil)))))) (wb_cons rfl (cc (cc (cc (cc (cc (cc wc_nil)))))) wb_nil)))
    obtain ⟨r0, hw⟩ := hw
    (conv => whnf)
    refine AWP.weak r0 hw ?_
    refine nw ?_
    refine branch_hF hF (fun hc4 hF => ?_) (fun hc4 hF => ?_)
    · refine AWP.seq ?_
      refine ns ?_
      obtain rfl := some_eq hF
      refine ns ?_
      exact wx (WS.mk (tc wt_nil) wb_nil)
    · refine nw ?_
      refine AWP.seq ?_
      refine AWP.seq ?_
      refine ns ?_
      refine nw ?_
      refine branch_hF hF (fun hc6 hF => ?_) (fun hc6 hF => ?_)
      · refine AWP.seq ?_
        refine ns ?_
        obtain rfl := some_eq hF
        refine ns ?_
        exact wx (WS.mk (tc wt_nil) wb_nil)
      · refine nw ?_
        refine AWP.seq ?_
        refine AWP.seq ?_
        refine ns ?_
        refine AWP.block ?_
        refine AWP.seq ?_
        refine AWP.seq ?_
        refine ns ?_
        refine nw ?_
        refine branch_hF hF (fun hc16 hF => ?_) (fun hc16 hF => ?_)
        · refine nw ?_
          refine AWP.weak (rn []) ?_ (ih_values_Refines_k1 b (b.fOp == 1) a _ hF)
          exact (WS.mk (tp (tp (tc (tc wt_nil)))) (wb_cons rfl (cc (cc (cc (cc (cc (cc wc_nil)))))) (wb_cons rfl (cc (cc (cc (cc (cc (cc wc_nil)))))) wb_nil)))
        · refine ns ?_
          refine AWP.weak (rn []) ?_ (ih_values_Refines_k1 b (b.fOp == 2) a _ hF)
          exact (WS.mk (tp (tp (tc (tc wt_nil)))) (wb_cons rfl (cc (cc (cc (cc (cc (cc wc_nil)))))) (wb_cons rfl (cc (cc (cc (cc (cc (cc wc_nil)))))) wb_nil)))
  · intro slices_EqualFunc_Value_values_Refines' ih_slices_EqualFunc_Value_values_Refines b x_25 a r hF
    unfold values_Refines_k1.M
    refine nw ?_
    refine branch_hF hF (fun hc8 hF => ?_) (fun hc8 hF => ?_)
    · refine AWP.seq ?_
      refine ns ?_
      obtain rfl := some_eq hF
      refine ns ?_
      exact wx (WS.mk (tc wt_nil) wb_nil)
    · refine AWP.seq ?_
      refine ns ?_
      refine nw ?_
      refine branch_hF hF (fun hc9 hF => ?_) (fun hc9 hF => ?_)
      · refine AWP.seq ?_
        refine ns ?_
        obtain rfl := some_eq hF
        refine ns ?_
        exact wx (WS.mk (tc wt_nil) wb_nil)
      · refine AWP.seq ?_
        refine ns ?_
        refine nw ?_
        refine branch_hF hF (fun hc10 hF => ?_) (fun hc10 hF => ?_)
        · refine AWP.seq ?_
          obtain ⟨r11, hr11, hF⟩ := bind_some hF
          refine ns ?_
          refine Exists.intro [] ?_
          refine st ?_
          refine cm (CallsX.weak (rn []) (values_Within_ok a.fSet b.fSet _ hr11) rfl (WS.mk (wt_cons (wd_agg (lc (lc wl_nil))) (wt_cons (wd_agg (lc (lc wl_nil))) wt_nil)) wb_nil)) ?_
          refine st ?_
          obtain rfl := some_eq hF
          refine ns ?_
          exact wx (WS.mk (tc wt_nil) wb_nil)
        · refine AWP.seq ?_
          refine ns ?_
          refine nw ?_
          refine branch_hF hF (fun hc12 hF => ?_) (fun hc12 hF => ?_)
          · refine AWP.seq ?_
            obtain ⟨c14, hc14, hF⟩ := bind_some hF
            refine AWP.cutN (fun T => ∃ r, WS r T ⟨[(4, .c none (.v (.bool c14)))], []⟩) ?_ (fun T hw => ?_)
            · refine ns ?_
              refine branchG_intro true (fun hc15 => ?_) (fun hc15 => ?_)
              · have hc14 := ift hc15 hc14
                obtain ⟨r13, hr13, hc14⟩ := bind_some hc14
                (conv => whnf)
                refine st ?_
                refine Exists.intro [] ?_
                refine st ?_
                refine cm (CallsX.weak (rn []) (ih_slices_EqualFunc_Value_values_Refines a.fKids b.fKids _ hr13) rfl (WS.mk (tc (tc (tc wt_nil))) wb_nil)) ?_
                refine st ?_
                obtain rfl := some_eq hc14
                refine st ?_
                exact wx (WS.mk (wt_cons (wd_c (web hc15)) wt_nil) wb_nil)
              · have hc14 := ife hc15 hc14
                (conv => whnf)
                obtain rfl := some_eq hc14
                refine st ?_
                exact wx (WS.mk (wt_cons (wd_c (web hc15)) wt_nil) wb_nil)
            obtain ⟨r0, hw⟩ := hw
            (conv => whnf)
            refine AWP.weak r0 hw ?_
            obtain rfl := some_eq hF
            refine ns ?_
            exact wx (WS.mk (tc wt_nil) wb_nil)
          · refine nw ?_
            refine AWP.seq ?_
            refine ns ?_
            obtain rfl := some_eq hF
            refine ns ?_
            exact wx (WS.mk (tc wt_nil) wb_nil)
  · intro slices_EqualFunc_Value_values_Refines_l1' ih_slices_EqualFunc_Value_values_Refines_l1 s1_ s2_ r hF
    unfold slices_EqualFunc_Value_values_Refines.M
    refine enter tabOk Tryz.func25 rfl (by decide) (Nat.le_of_ble_eq_true rfl) rfl rfl rfl ?_
    refine AWP.seq ?_
    refine ns ?_
    refine AWP.seq ?_
    refine AWP.seq ?_
    refine ns ?_
    intro hlen4
    (try rw [List.length_map] at hlen4)
    (try rw [List.length_map])
    refine st ?_
    intro hlen5
    (try rw [List.length_map] at hlen5)
    (try rw [List.length_map])
    refine st ?_
    refine nw ?_
    refine branch_hF hF (fun hc6 hF => ?_) (fun hc6 hF => ?_)
    · refine AWP.seq ?_
      refine ns ?_
      obtain rfl := some_eq hF
      refine ns ?_
      exact wx (WS.mk (tc wt_nil) wb_nil)
    · refine nw ?_
      refine AWP.seq ?_
      refine AWP.seq ?_
      refine ns ?_
      intro hlen7
      (try rw [List.length_map] at hlen7)
      (try rw [List.length_map])
      refine st ?_
      refine AWP.block ?_
      refine AWP.loop ?_
      refine AWL.weak (rn []) ?_ (ih_slices_EqualFunc_Value_values_Refines_l1 s2_ s1_ 0 s1_ _ hF ([]) rfl rfl hlen7 hlen5)
      exact (WS.mk (tc (tc (tc (tc (tc wt_nil))))) wb_nil)
  · intro values_Refines' slices_EqualFunc_Value_values_Refines_l1' ih_values_Refines ih_slices_EqualFunc_Value_values_Refines_l1 s2_ s1_ x_17 x_17_s_ r hF
    unfold slices_EqualFunc_Value_values_Refines_l1.M
    intro pre_x_17 hs_x_17 hk_x_17 hlen7 hlen5
    refine AWL.step ?_
    refine AWP.seq ?_
    refine ns ?_
    refine AWP.seq ?_
    refine nw ?_
    refine branch_list hs_x_17 hk_x_17 (fun x21 xs22 hp23 hx23 hl23 => ?_) (fun hp23 => ?_)
    · subst hp23
      refine nw ?_
      refine AWP.seq ?_
      refine AWP.block ?_
      refine AWP.seq ?_
      refine nn ?_
      refine sr (map_get (f := TValue.cells) (TValue.cells_eq x21) hx23) ?_
      refine st ?_
      refine AWP.seq ?_
      obtain ⟨x24, hx24, hF⟩ := bind_some hF
      refine nn ?_
      refine sr (map_get (f := TValue.cells) (TValue.cells_eq x24) hx24) ?_
      refine st ?_
      refine AWP.seq ?_
      obtain ⟨r25, hr25, hF⟩ := bind_some hF
      refine ns ?_
      refine Exists.intro [] ?_
      refine st ?_
      refine cm (CallsX.weak (rn []) (ih_values_Refines x21 x24 _ hr25) rfl (WS.mk (wt_cons (wd_agg (lc (lc (lc (lc (lc (lc wl_nil))))))) (wt_cons (wd_agg (lc (lc (lc (lc (lc (lc wl_nil))))))) wt_nil)) wb_nil)) ?_
      refine st ?_
      refine nw ?_
      refine branch_hF hF (fun hc26 hF => ?_) (fun hc26 hF => ?_)
      · refine AWP.seq ?_
        refine ns ?_
        obtain rfl := some_eq hF
        refine ns ?_
        exact wx (WS.mk (tc wt_nil) wb_nil)
      · refine nw ?_
        refine ns ?_
        refine AWL.weak (rn []) ?_ (ih_slices_EqualFunc_Value_values_Refines_l1 s2_ s1_ (x_17 + 1) xs22 _ hF (pre_x_17 ++ [x21]) (by rw [hs_x_17]; simp) (by rw [hk_x_17]; simp) hlen7 hlen5)
        exact (WS.mk (tc (tc (tc (tc (wt_cons (wd_c (we_i (wrap_succ hlen7 hl23))) wt_nil))))) wb_nil)
    · subst hp23
      refine nw ?_
      refine AWP.seq ?_
      refine ns ?_
      obtain rfl := some_eq hF
      refine ns ?_
      exact wx (WS.mk (tc wt_nil) wb_nil)
theorem values_Refines_ok : ∀ (a : TValue) (b : TValue), ∀ r, values_Refines a b = some r → values_Refines.M a b r := values_Refines_all.1
theorem values_Refines_k1_ok : ∀ (b : TValue) (x_25 : Bool) (a : TValue), ∀ r, values_Refines_k1 b x_25 a = some r → values_Refines_k1.M b x_25 a r := values_Refines_all.2.1
theorem slices_EqualFunc_Value_values_Refines_ok : ∀ (s1_ : (List TValue)) (s2_ : (List TValue)), ∀ r, slices_EqualFunc_Value_values_Refines s1_ s2_ = some r → slices_EqualFunc_Value_values_Refines.M s1_ s2_ r := values_Refines_all.2.2.1
theorem slices_EqualFunc_Value_values_Refines_l1_ok : ∀ (s2_ : (List TValue)) (s1_ : (List TValue)) (x_17 : Nat) (x_17_s_ : (List TValue)), ∀ r, slices_EqualFunc_Value_values_Refines_l1 s2_ s1_ x_17 x_17_s_ = some r → slices_EqualFunc_Value_values_Refines_l1.M s2_ s1_ x_17 x_17_s_ r := values_Refines_all.2.2.2
end Go.Proofs.YtafniolcakiljaaGreatDoor

set_option linter.unusedVariables false
set_option linter.unusedSimpArgs false
set_option maxRecDepth 100000
set_option maxHeartbeats 4000000
namespace Go.Proofs.YtafniolcakiljaaGreatDoor
open Go Go.Am
mutual
def lazycref25_Nodes (v : TValue) : Option (Int) :=
  lazycref25_Nodes_l1 1 0 v v.fKids
  partial_fixpoint
def lazycref25_Nodes_l1 (n_3 : Int) (i_4 : Nat) (v : TValue) (i_4_s_ : (List TValue)) : Option (Int) :=
  (match i_4_s_ with
  | x16 :: xs17 =>
  lazycref25_Nodes x16 >>= fun r19 =>
  lazycref25_Nodes_l1 (IntKind.i64.wrap (n_3 + r19)) (i_4 + 1) v xs17
  | [] =>
  some n_3)
  partial_fixpoint
end
def lazycref25_Nodes.M (v : TValue) (r : Int) : Prop :=
  CallsX Tryz.prog 11 [.agg [.v (.int .i64 v.fOp), .v (.string v.fName), .v (.int .i64 v.fN), .sl (v.fKids.map TValue.cells), .v (.bool v.fSet.fAll), .sl (v.fSet.fList.map TExc.cells)]] [] (fun d b => d = .c none (.v (.int .i64 r)) ∧ b = [])
def lazycref25_Nodes_l1.M (n_3 : Int) (i_4 : Nat) (v : TValue) (i_4_s_ : (List TValue)) (r : Int) : Prop :=
  ∀ pre_i_4 : List TValue, v.fKids = pre_i_4 ++ i_4_s_ → i_4 = pre_i_4.length → AWL Tryz.prog 21 (Code.sub (bodyOf Tryz.f11) [1, 1, 0, 1, 0, 0]) (Code.cont Tryz.prog 21 (bodyOf Tryz.f11) [1, 1, 0, 1, 0] (endK tab Tryz.f11.results [] (WRes (.c none (.v (.int .i64 r))) []))) ⟨[(1, .ptr 1 0), (3, .c none (.v (.int .i64 n_3))), (4, .c none (.v (.int .i64 ((i_4 : Nat) : Int))))], [(1, [(none, .v (.int .i64 v.fOp)), (none, .v (.string v.fName)), (none, .v (.int .i64 v.fN)), (none, .sl (v.fKids.map TValue.cells)), (none, .v (.bool v.fSet.fAll)), (none, .sl (v.fSet.fList.map TExc.cells))])]⟩
theorem lazycref25_Nodes_all : (∀ (v : TValue), ∀ r, lazycref25_Nodes v = some r → lazycref25_Nodes.M v r) ∧ (∀ (n_3 : Int) (i_4 : Nat) (v : TValue) (i_4_s_ : (List TValue)), ∀ r, lazycref25_Nodes_l1 n_3 i_4 v i_4_s_ = some r → lazycref25_Nodes_l1.M n_3 i_4 v i_4_s_ r) := by
  refine lazycref25_Nodes.mutual_partial_correctness lazycref25_Nodes.M lazycref25_Nodes_l1.M ?_ ?_
  · intro lazycref25_Nodes_l1' ih_lazycref25_Nodes_l1 v r hF
    unfold lazycref25_Nodes.M
    refine enter tabOk Tryz.func11 rfl (by decide) (Nat.le_of_ble_eq_true rfl) rfl rfl rfl ?_
    refine AWP.seq ?_
    refine ns ?_
    refine AWP.seq ?_
    refine ns ?_
    refine AWP.seq ?_
    refine AWP.seq ?_
    refine ns ?_
    refine AWP.block ?_
    refine AWP.loop ?_
    refine AWL.weak (rn []) ?_ (ih_lazycref25_Nodes_l1 1 0 v v.fKids _ hF ([]) rfl rfl)
    exact (WS.mk (tp (tc (tc wt_nil))) (wb_cons rfl (cc (cc (cc (cc (cc (cc wc_nil)))))) wb_nil))
  · intro lazycref25_Nodes' lazycref25_Nodes_l1' ih_lazycref25_Nodes ih_lazycref25_Nodes_l1 n_3 i_4 v i_4_s_ r hF
    unfold lazycref25_Nodes_l1.M
    intro pre_i_4 hs_i_4 hk_i_4
    refine AWL.step ?_
    refine AWP.seq ?_
    refine AWP.seq ?_
    refine ns ?_
    intro hlen15
    (try rw [List.length_map] at hlen15)
    (try rw [List.length_map])
    refine st ?_
    refine nw ?_
    refine branch_list hs_i_4 hk_i_4 (fun x16 xs17 hp18 hx18 hl18 => ?_) (fun hp18 => ?_)
    · subst hp18
      refine nw ?_
      refine AWP.seq ?_
      refine AWP.block ?_
      obtain ⟨r19, hr19, hF⟩ := bind_some hF
      refine nn ?_
      refine sr (map_get (f := TValue.cells) (TValue.cells_eq x16) hx18) ?_
      refine st ?_
      refine Exists.intro [] ?_
      refine st ?_
      refine cm (CallsX.weak (rn []) (ih_lazycref25_Nodes x16 _ hr19) rfl (WS.mk (wt_cons (wd_agg (lc (lc (lc (lc (lc (lc wl_nil))))))) wt_nil) wb_nil)) ?_
      refine st ?_
      refine ns ?_
      refine AWL.weak (rn []) ?_ (ih_lazycref25_Nodes_l1 (IntKind.i64.wrap (n_3 + r19)) (i_4 + 1) v xs17 _ hF (pre_i_4 ++ [x16]) (by rw [hs_i_4]; simp) (by rw [hk_i_4]; simp))
      exact (WS.mk (tp (tc (wt_cons (wd_c (we_i (wrap_succ hlen15 hl18))) wt_nil))) (wb_cons rfl (cc (cc (cc (cc (cc (cc wc_nil)))))) wb_nil))
    · subst hp18
      refine nw ?_
      refine AWP.seq ?_
      refine ns ?_
      obtain rfl := some_eq hF
      refine ns ?_
      exact wx (WS.mk (tc wt_nil) wb_nil)
theorem lazycref25_Nodes_ok : ∀ (v : TValue), ∀ r, lazycref25_Nodes v = some r → lazycref25_Nodes.M v r := lazycref25_Nodes_all.1
theorem lazycref25_Nodes_l1_ok : ∀ (n_3 : Int) (i_4 : Nat) (v : TValue) (i_4_s_ : (List TValue)), ∀ r, lazycref25_Nodes_l1 n_3 i_4 v i_4_s_ = some r → lazycref25_Nodes_l1.M n_3 i_4 v i_4_s_ r := lazycref25_Nodes_all.2
end Go.Proofs.YtafniolcakiljaaGreatDoor

set_option linter.unusedVariables false
set_option linter.unusedSimpArgs false
set_option maxRecDepth 100000
set_option maxHeartbeats 4000000
namespace Go.Proofs.YtafniolcakiljaaGreatDoor
open Go Go.Am
def lazyclaw25_small (v : TValue) : Option (Bool) :=
  lazycref25_Nodes v >>= fun r1 =>
  some (decide (r1 ≤ 3000))
def lazyclaw25_small.M (v : TValue) (r : Bool) : Prop :=
  CallsX Tryz.prog 4 [.agg [.v (.int .i64 v.fOp), .v (.string v.fName), .v (.int .i64 v.fN), .sl (v.fKids.map TValue.cells), .v (.bool v.fSet.fAll), .sl (v.fSet.fList.map TExc.cells)]] [] (fun d b => d = .c none (.v (.bool r)) ∧ b = [])
theorem lazyclaw25_small_ok (v : TValue) (r : Bool) (hF : lazyclaw25_small v = some r) : lazyclaw25_small.M v r := by
  unfold lazyclaw25_small at hF
  unfold lazyclaw25_small.M
  refine enter tabOk Tryz.func4 rfl (by decide) (Nat.le_of_ble_eq_true rfl) rfl rfl rfl ?_
  refine AWP.seq ?_
  refine ns ?_
  refine AWP.seq ?_
  obtain ⟨r1, hr1, hF⟩ := bind_some hF
  refine ns ?_
  refine Exists.intro [] ?_
  refine st ?_
  refine cm (CallsX.weak (rn []) (lazycref25_Nodes_ok v _ hr1) rfl (WS.mk (wt_cons (wd_agg (lc (lc (lc (lc (lc (lc wl_nil))))))) wt_nil) wb_nil)) ?_
  refine st ?_
  obtain rfl := some_eq hF
  refine ns ?_
  exact wx (WS.mk (tc wt_nil) wb_nil)
end Go.Proofs.YtafniolcakiljaaGreatDoor

set_option linter.unusedVariables false
set_option linter.unusedSimpArgs false
set_option maxRecDepth 100000
set_option maxHeartbeats 4000000
namespace Go.Proofs.YtafniolcakiljaaGreatDoor
open Go Go.Am
mutual
def values_depth (v : TValue) : Option (Int) :=
  values_depth_l1 0 v 0 v.fKids
  partial_fixpoint
def values_depth_l1 (n_3 : Int) (v : TValue) (x_9 : Nat) (x_9_s_ : (List TValue)) : Option (Int) :=
  (match x_9_s_ with
  | x11 :: xs12 =>
  values_depth x11 >>= fun r14 =>
  values_depth_l1 (if r14 > n_3 then r14 else n_3) v (x_9 + 1) xs12
  | [] =>
  some (IntKind.i64.wrap (n_3 + 1)))
  partial_fixpoint
end
def values_depth.M (v : TValue) (r : Int) : Prop :=
  CallsX Tryz.prog 31 [.agg [.v (.int .i64 v.fOp), .v (.string v.fName), .v (.int .i64 v.fN), .sl (v.fKids.map TValue.cells), .v (.bool v.fSet.fAll), .sl (v.fSet.fList.map TExc.cells)]] [] (fun d b => d = .c none (.v (.int .i64 r)) ∧ b = [])
def values_depth_l1.M (n_3 : Int) (v : TValue) (x_9 : Nat) (x_9_s_ : (List TValue)) (r : Int) : Prop :=
  ∀ pre_x_9 : List TValue, v.fKids = pre_x_9 ++ x_9_s_ → x_9 = pre_x_9.length → v.fKids.length ≤ maxLen → AWL Tryz.prog 20 (Code.sub (bodyOf Tryz.f31) [1, 1, 0, 1, 0, 0]) (Code.cont Tryz.prog 20 (bodyOf Tryz.f31) [1, 1, 0, 1, 0] (endK tab Tryz.f31.results [] (WRes (.c none (.v (.int .i64 r))) []))) ⟨[(3, .c none (.v (.int .i64 n_3))), (7, .c none (.sl (v.fKids.map TValue.cells))), (8, .c none (.v (.int .i64 ((v.fKids.length : Nat) : Int)))), (9, .c none (.v (.int .i64 ((x_9 : Nat) : Int))))], []⟩
theorem values_depth_all : (∀ (v : TValue), ∀ r, values_depth v = some r → values_depth.M v r) ∧ (∀ (n_3 : Int) (v : TValue) (x_9 : Nat) (x_9_s_ : (List TValue)), ∀ r, values_depth_l1 n_3 v x_9 x_9_s_ = some r → values_depth_l1.M n_3 v x_9 x_9_s_ r) := by
  refine values_depth.mutual_partial_correctness values_depth.M values_depth_l1.M ?_ ?_
  · intro values_depth_l1' ih_values_depth_l1 v r hF
    unfold values_depth.M
    refine enter tabOk Tryz.func31 rfl (by decide) (Nat.le_of_ble_eq_true rfl) rfl rfl rfl ?_
    refine AWP.seq ?_
    refine ns ?_
    refine AWP.seq ?_
    refine ns ?_
    refine AWP.seq ?_
    refine AWP.seq ?_
    refine ns ?_
    intro hlen1
    (try rw [List.length_map] at hlen1)
    (try rw [List.length_map])
    refine st ?_
    refine AWP.block ?_
    refine AWP.loop ?_
    refine AWL.weak (rn []) ?_ (ih_values_depth_l1 0 v 0 v.fKids _ hF ([]) rfl rfl hlen1)
    exact (WS.mk (tc (tc (tc (tc wt_nil)))) wb_nil)
  · intro values_depth' values_depth_l1' ih_values_depth ih_values_depth_l1 n_3 v x_9 x_9_s_ r hF
    unfold values_depth_l1.M
    intro pre_x_9 hs_x_9 hk_x_9 hlen1
    refine AWL.step ?_
    refine AWP.seq ?_
    refine ns ?_
    refine AWP.seq ?_
    refine nw ?_
    refine branch_list hs_x_9 hk_x_9 (fun x11 xs12 hp13 hx13 hl13 => ?_) (fun hp13 => ?_)
    · subst hp13
      refine nw ?_
      refine AWP.seq ?_
      refine AWP.block ?_
      refine AWP.seq ?_
      refine nn ?_
      refine sr (map_get (f := TValue.cells) (TValue.cells_eq x11) hx13) ?_
      refine st ?_
      obtain ⟨r14, hr14, hF⟩ := bind_some hF
      refine ns ?_
      refine Exists.intro [] ?_
      refine st ?_
      refine cm (CallsX.weak (rn []) (ih_values_depth x11 _ hr14) rfl (WS.mk (wt_cons (wd_agg (lc (lc (lc (lc (lc (lc wl_nil))))))) wt_nil) wb_nil)) ?_
      refine st ?_
      refine ns ?_
      refine AWL.weak (rn []) ?_ (ih_values_depth_l1 (if r14 > n_3 then r14 else n_3) v (x_9 + 1) xs12 _ hF (pre_x_9 ++ [x11]) (by rw [hs_x_9]; simp) (by rw [hk_x_9]; simp) hlen1)
      exact (WS.mk (tc (tc (tc (wt_cons (wd_c (we_i (wrap_succ hlen1 hl13))) wt_nil)))) wb_nil)
    · subst hp13
      refine nw ?_
      refine AWP.seq ?_
      refine ns ?_
      obtain rfl := some_eq hF
      refine ns ?_
      exact wx (WS.mk (tc wt_nil) wb_nil)
theorem values_depth_ok : ∀ (v : TValue), ∀ r, values_depth v = some r → values_depth.M v r := values_depth_all.1
theorem values_depth_l1_ok : ∀ (n_3 : Int) (v : TValue) (x_9 : Nat) (x_9_s_ : (List TValue)), ∀ r, values_depth_l1 n_3 v x_9 x_9_s_ = some r → values_depth_l1.M n_3 v x_9 x_9_s_ r := values_depth_all.2
end Go.Proofs.YtafniolcakiljaaGreatDoor

set_option linter.unusedVariables false
set_option linter.unusedSimpArgs false
set_option maxRecDepth 100000
set_option maxHeartbeats 4000000
namespace Go.Proofs.YtafniolcakiljaaGreatDoor
open Go Go.Am
def values_constructor_l1 (s : ByteArray) (i_3 : Nat) : Option (Bool) :=
  if (decide (((i_3 : Nat) : Int) < ((s.size : Nat) : Int))) = true then
  (btI s ((i_3 : Nat) : Int)) >>= fun y40 =>
  (if (decide (((y40.toNat : Nat) : Int) < 33)) = true then some true else (btI s ((i_3 : Nat) : Int)) >>= fun y41 =>
  some (decide (((y41.toNat : Nat) : Int) > 126))) >>= fun c42 =>
  if c42 = true then
  some false
  else
  guardP (i_3 + 1 ≤ 9223372036854775807) >>= fun _ =>
  values_constructor_l1 s (i_3 + 1)
  else
  (btI s 0) >>= fun y46 =>
  (if (decide (((y46.toNat : Nat) : Int) ≥ 65)) = true then (btI s 0) >>= fun y47 =>
  some (decide (((y47.toNat : Nat) : Int) ≤ 90)) else some false) >>= fun c48 =>
  (if c48 = true then some true else (btI s 0) >>= fun y49 =>
  some (((y49.toNat : Nat) : Int) == 58)) >>= fun c50 =>
  (if c50 = true then some true else (btI s 0) >>= fun y51 =>
  some (((y51.toNat : Nat) : Int) == 91)) >>= fun c52 =>
  (if c52 = true then some true else (btI s 0) >>= fun y53 =>
  some (((y53.toNat : Nat) : Int) == 40)) >>= fun c54 =>
  some c54
  partial_fixpoint
def values_constructor_l1.M (s : ByteArray) (i_3 : Nat) (r : Bool) : Prop :=
  AWL Tryz.prog 54 (Code.sub (bodyOf Tryz.f52) [1, 1, 0, 1, 0, 0]) (Code.cont Tryz.prog 54 (bodyOf Tryz.f52) [1, 1, 0, 1, 0] (endK tab Tryz.f52.results [] (WRes (.c none (.v (.bool r))) []))) ⟨[(0, .c none (.v (.string s))), (3, .c none (.v (.int .i64 ((i_3 : Nat) : Int))))], []⟩
theorem values_constructor_l1_ok (s : ByteArray) (i_3 : Nat) : ∀ r, values_constructor_l1 s i_3 = some r → values_constructor_l1.M s i_3 r := by
  refine values_constructor_l1.partial_correctness s (fun i_3 r => values_constructor_l1.M s i_3 r) ?_ i_3
  intro values_constructor_l1' ih0_values_constructor_l1 i_3 r hF
  have ih_values_constructor_l1 := fun (_s : ByteArray) (i_3 : Nat) => ih0_values_constructor_l1 i_3
  clear ih0_values_constructor_l1
  unfold values_constructor_l1.M
  refine AWL.step ?_
  refine AWP.seq ?_
  refine AWP.seq ?_
  refine ns ?_
  refine nw ?_
  refine branch_hF hF (fun hc39 hF => ?_) (fun hc39 hF => ?_)
  · refine nw ?_
    refine AWP.seq ?_
    refine AWP.block ?_
    refine AWP.seq ?_
    obtain ⟨y40, hy400, hy40, hF⟩ := bt_some hF
    obtain ⟨c42, hc42, hF⟩ := bind_some hF
    refine AWP.cutN (fun T => ∃ r, WS r T ⟨[(0, .c none (.v (.string s))), (3, .c none (.v (.int .i64 ((i_3 : Nat) : Int)))), (30, .c none (.v (.bool c42)))], []⟩) ?_ (fun T hw => ?_)
    · refine nn ?_
      refine sr hy40 ?_
      refine st ?_
      refine branchG_intro false (fun hc43 => ?_) (fun hc43 => ?_)
      · have hc42 := ift hc43 hc42
        (conv => whnf)
        obtain rfl := some_eq hc42
        refine st ?_
        exact wx (WS.mk (tc (tc (wt_cons (wd_c (web hc43)) wt_nil))) wb_nil)
      · have hc42 := ife hc43 hc42
        obtain ⟨y41, hy410, hy41, hc42⟩ := bt_some hc42
        (conv => whnf)
        refine sr hy41 ?_
        obtain rfl := some_eq hc42
        refine st ?_
        exact wx (WS.mk (tc (tc (wt_cons (wd_c (web hc43)) wt_nil))) wb_nil)
    obtain ⟨r0, hw⟩ := hw
    (conv => whnf)
    refine AWP.weak r0 hw ?_
    refine nw ?_
    refine branch_hF hF (fun hc44 hF => ?_) (fun hc44 hF => ?_)
    · refine AWP.seq ?_
      refine ns ?_
      obtain rfl := some_eq hF
      refine ns ?_
      exact wx (WS.mk (tc wt_nil) wb_nil)
    · refine nw ?_
      obtain ⟨hg45, hF⟩ := guard_some hF
      refine ns ?_
      refine AWL.weak (rn []) ?_ (ih_values_constructor_l1 s (i_3 + 1) _ hF)
      exact (WS.mk (tc (wt_cons (wd_c (we_i (wrap_nat hg45))) wt_nil)) wb_nil)
  · refine nw ?_
    refine AWP.seq ?_
    obtain ⟨y46, hy460, hy46, hF⟩ := bt_some hF
    obtain ⟨c48, hc48, hF⟩ := bind_some hF
    obtain ⟨c50, hc50, hF⟩ := bind_some hF
    obtain ⟨c52, hc52, hF⟩ := bind_some hF
    obtain ⟨c54, hc54, hF⟩ := bind_some hF
    refine AWP.cutN (fun T => ∃ r, WS r T ⟨[(2, .c none (.v (.bool c54)))], []⟩) ?_ (fun T hw => ?_)
    · refine nn ?_
      refine sr hy46 ?_
      refine st ?_
      refine branchG_intro true (fun hc55 => ?_) (fun hc55 => ?_)
      · have hc48 := ift hc55 hc48
        obtain ⟨y47, hy470, hy47, hc48⟩ := bt_some hc48
        (conv => whnf)
        refine sr hy47 ?_
        obtain rfl := some_eq hc48
        refine st ?_
        refine branchG_intro false (fun hc56 => ?_) (fun hc56 => ?_)
        · have hc50 := ift (And.intro hc55 hc56) hc50
          (conv => whnf)
          obtain rfl := some_eq hc50
          have hc52 := ift (And.intro hc55 hc56) hc52
          obtain rfl := some_eq hc52
          have hc54 := ift (And.intro hc55 hc56) hc54
          obtain rfl := some_eq hc54
          refine st ?_
          exact wx (WS.mk (wt_cons (wd_c (web (And.intro hc55 hc56))) wt_nil) wb_nil)
        · have hc50 := ife (And.intro hc55 hc56) hc50
          obtain ⟨y49, hy490, hy49, hc50⟩ := bt_some hc50
          (conv => whnf)
          refine sr hy49 ?_
          obtain rfl := some_eq hc50
          refine st ?_
          refine branchG_intro false (fun hc57 => ?_) (fun hc57 => ?_)
          · have hc52 := ift (And.intro hc55 (And.intro hc56 hc57)) hc52
            (conv => whnf)
            obtain rfl := some_eq hc52
            have hc54 := ift (And.intro hc55 (And.intro hc56 hc57)) hc54
            obtain rfl := some_eq hc54
            refine st ?_
            exact wx (WS.mk (wt_cons (wd_c (web (And.intro hc55 (And.intro hc56 hc57)))) wt_nil) wb_nil)
          · have hc52 := ife (And.intro hc55 (And.intro hc56 hc57)) hc52
            obtain ⟨y51, hy510, hy51, hc52⟩ := bt_some hc52
            (conv => whnf)
            refine sr hy51 ?_
            obtain rfl := some_eq hc52
            refine st ?_
            refine branchG_intro false (fun hc58 => ?_) (fun hc58 => ?_)
            · have hc54 := ift (And.intro hc55 (And.intro hc56 (And.intro hc57 hc58))) hc54
              (conv => whnf)
              obtain rfl := some_eq hc54
              refine st ?_
              exact wx (WS.mk (wt_cons (wd_c (web (And.intro hc55 (And.intro hc56 (And.intro hc57 hc58))))) wt_nil) wb_nil)
            · have hc54 := ife (And.intro hc55 (And.intro hc56 (And.intro hc57 hc58))) hc54
              obtain ⟨y53, hy530, hy53, hc54⟩ := bt_some hc54
              (conv => whnf)
              refine sr hy53 ?_
              obtain rfl := some_eq hc54
              refine st ?_
              exact wx (WS.mk (wt_cons (wd_c (web (And.intro hc55 (And.intro hc56 (And.intro hc57 hc58))))) wt_nil) wb_nil)
      · have hc48 := ife hc55 hc48
        (conv => whnf)
        obtain rfl := some_eq hc48
        have hc50 := ife hc55 hc50
        obtain ⟨y49, hy490, hy49, hc50⟩ := bt_some hc50
        refine sr hy49 ?_
        obtain rfl := some_eq hc50
        refine st ?_
        refine branchG_intro false (fun hc59 => ?_) (fun hc59 => ?_)
        · have hc52 := ift (And.intro hc55 hc59) hc52
          (conv => whnf)
          obtain rfl := some_eq hc52
          have hc54 := ift (And.intro hc55 hc59) hc54
          obtain rfl := some_eq hc54
          refine st ?_
          exact wx (WS.mk (wt_cons (wd_c (web (And.intro hc55 hc59))) wt_nil) wb_nil)
        · have hc52 := ife (And.intro hc55 hc59) hc52
          obtain ⟨y51, hy510, hy51, hc52⟩ := bt_some hc52
          (conv => whnf)
          refine sr hy51 ?_
          obtain rfl := some_eq hc52
          refine st ?_
          refine branchG_intro false (fun hc60 => ?_) (fun hc60 => ?_)
          · have hc54 := ift (And.intro hc55 (And.intro hc59 hc60)) hc54
            (conv => whnf)
            obtain rfl := some_eq hc54
            refine st ?_
            exact wx (WS.mk (wt_cons (wd_c (web (And.intro hc55 (And.intro hc59 hc60)))) wt_nil) wb_nil)
          · have hc54 := ife (And.intro hc55 (And.intro hc59 hc60)) hc54
            obtain ⟨y53, hy530, hy53, hc54⟩ := bt_some hc54
            (conv => whnf)
            refine sr hy53 ?_
            obtain rfl := some_eq hc54
            refine st ?_
            exact wx (WS.mk (wt_cons (wd_c (web (And.intro hc55 (And.intro hc59 hc60)))) wt_nil) wb_nil)
    obtain ⟨r0, hw⟩ := hw
    (conv => whnf)
    refine AWP.weak r0 hw ?_
    obtain rfl := some_eq hF
    refine ns ?_
    exact wx (WS.mk (tc wt_nil) wb_nil)
end Go.Proofs.YtafniolcakiljaaGreatDoor

set_option linter.unusedVariables false
set_option linter.unusedSimpArgs false
set_option maxRecDepth 100000
set_option maxHeartbeats 4000000
namespace Go.Proofs.YtafniolcakiljaaGreatDoor
open Go Go.Am
def values_constructor (s : ByteArray) : Option (Bool) :=
  if (((s.toList == (ByteArray.mk #[]).toList) || (s.toList == (ByteArray.mk #[40]).toList)) || (decide (((s.size : Nat) : Int) > 129))) = true then
  some false
  else
  values_constructor_l1 s 0
def values_constructor.M (s : ByteArray) (r : Bool) : Prop :=
  CallsX Tryz.prog 52 [.c none (.v (.string s))] [] (fun d b => d = .c none (.v (.bool r)) ∧ b = [])
theorem values_constructor_ok (s : ByteArray) (r : Bool) (hF : values_constructor s = some r) : values_constructor.M s r := by
  unfold values_constructor at hF
  unfold values_constructor.M
  refine enter tabOk Tryz.func52 rfl (by decide) (Nat.le_of_ble_eq_true rfl) rfl rfl rfl ?_
  refine AWP.seq ?_
  refine ns ?_
  refine AWP.seq ?_
  refine AWP.seq ?_
  refine AWP.cutN (fun T => ∃ r, WS r T ⟨[(0, .c none (.v (.string s))), (14, .c none (.v (.bool (((s.toList == (ByteArray.mk #[]).toList) || (s.toList == (ByteArray.mk #[40]).toList)) || (decide (((s.size : Nat) : Int) > 129))))))], []⟩) ?_ (fun T hw => ?_)
  · refine ns ?_
    refine branchG_intro false (fun hc2 => ?_) (fun hc2 => ?_)
    · (conv => whnf)
      refine st ?_
      exact wx (WS.mk (tc (wt_cons (wd_c (web hc2)) wt_nil)) wb_nil)
    · (conv => whnf)
      refine st ?_
      refine branchG_intro false (fun hc3 => ?_) (fun hc3 => ?_)
      · (conv => whnf)
        refine st ?_
        exact wx (WS.mk (tc (wt_cons (wd_c (web (And.intro hc2 hc3))) wt_nil)) wb_nil)
      · (conv => whnf)
        refine st ?_
        exact wx (WS.mk (tc (wt_cons (wd_c (web (And.intro hc2 hc3))) wt_nil)) wb_nil)
  obtain ⟨r0, hw⟩ := hw
  (conv => whnf)
  refine AWP.weak r0 hw ?_
  refine nw ?_
  refine branch_hF hF (fun hc4 hF => ?_) (fun hc4 hF => ?_)
  · refine AWP.seq ?_
    refine ns ?_
    obtain rfl := some_eq hF
    refine ns ?_
    exact wx (WS.mk (tc wt_nil) wb_nil)
  · refine nw ?_
    refine AWP.seq ?_
    refine AWP.seq ?_
    refine ns ?_
    refine AWP.block ?_
    refine AWP.loop ?_
    refine AWL.weak (rn []) ?_ (values_constructor_l1_ok s 0 _ hF)
    exact (WS.mk (tc (tc wt_nil)) wb_nil)
end Go.Proofs.YtafniolcakiljaaGreatDoor

set_option linter.unusedVariables false
set_option linter.unusedSimpArgs false
set_option maxRecDepth 100000
set_option maxHeartbeats 4000000
namespace Go.Proofs.YtafniolcakiljaaGreatDoor
open Go Go.Am
def values_noSet (s : TExcSet) : Option (Bool) :=
  some ((!s.fAll) && (((s.fList.length : Nat) : Int) == 0))
def values_noSet.M (s : TExcSet) (r : Bool) : Prop :=
  CallsX Tryz.prog 50 [.agg [.v (.bool s.fAll), .sl (s.fList.map TExc.cells)]] [] (fun d b => d = .c none (.v (.bool r)) ∧ b = [])
theorem values_noSet_ok (s : TExcSet) (r : Bool) (hF : values_noSet s = some r) : values_noSet.M s r := by
  unfold values_noSet at hF
  unfold values_noSet.M
  refine enter tabOk Tryz.func50 rfl (by decide) (Nat.le_of_ble_eq_true rfl) rfl rfl rfl ?_
  refine AWP.seq ?_
  refine ns ?_
  refine AWP.seq ?_
  refine AWP.cutN (fun T => ∃ r, WS r T ⟨[(2, .c none (.v (.bool ((!s.fAll) && (((s.fList.length : Nat) : Int) == 0)))))], []⟩) ?_ (fun T hw => ?_)
  · refine ns ?_
    refine branchG_intro true (fun hc2 => ?_) (fun hc2 => ?_)
    · (conv => whnf)
      refine st ?_
      intro hlen1
      (try rw [List.length_map] at hlen1)
      (try rw [List.length_map])
      refine st ?_
      exact wx (WS.mk (wt_cons (wd_c (web hc2)) wt_nil) wb_nil)
    · (conv => whnf)
      refine st ?_
      exact wx (WS.mk (wt_cons (wd_c (web hc2)) wt_nil) wb_nil)
  obtain ⟨r0, hw⟩ := hw
  (conv => whnf)
  refine AWP.weak r0 hw ?_
  obtain rfl := some_eq hF
  refine ns ?_
  exact wx (WS.mk (tc wt_nil) wb_nil)
end Go.Proofs.YtafniolcakiljaaGreatDoor

set_option linter.unusedVariables false
set_option linter.unusedSimpArgs false
set_option maxRecDepth 100000
set_option maxHeartbeats 4000000
namespace Go.Proofs.YtafniolcakiljaaGreatDoor
open Go Go.Am
def values_compare (a : TExc) (b : TExc) : Option (Int) :=
  strings_Compare a.fCon b.fCon >>= fun r3 =>
  if (r3 != 0) = true then
  some r3
  else
  if (decide (a.fN < b.fN)) = true then
  some (-1)
  else
  if (decide (a.fN > b.fN)) = true then
  some 1
  else
  some 0
def values_compare.M (a : TExc) (b : TExc) (r : Int) : Prop :=
  CallsX Tryz.prog 66 [.agg [.v (.string a.fCon), .v (.int .i64 a.fN)], .agg [.v (.string b.fCon), .v (.int .i64 b.fN)]] [] (fun d b => d = .c none (.v (.int .i64 r)) ∧ b = [])
theorem values_compare_ok (a : TExc) (b : TExc) (r : Int) (hF : values_compare a b = some r) : values_compare.M a b r := by
  unfold values_compare at hF
  unfold values_compare.M
  refine enter tabOk Tryz.func66 rfl (by decide) (Nat.le_of_ble_eq_true rfl) rfl rfl rfl ?_
  refine AWP.seq ?_
  refine ns ?_
  refine AWP.seq ?_
  refine AWP.seq ?_
  obtain ⟨r3, hr3, hF⟩ := bind_some hF
  refine ns ?_
  refine Exists.intro [] ?_
  refine st ?_
  refine cm (CallsX.weak (rn []) (strings_Compare_ok a.fCon b.fCon _ hr3) rfl (WS.mk (tc (tc wt_nil)) wb_nil)) ?_
  refine st ?_
  refine AWP.seq ?_
  refine ns ?_
  refine nw ?_
  refine branch_hF hF (fun hc4 hF => ?_) (fun hc4 hF => ?_)
  · refine AWP.seq ?_
    refine ns ?_
    obtain rfl := some_eq hF
    refine ns ?_
    exact wx (WS.mk (tc wt_nil) wb_nil)
  · refine nw ?_
    refine AWP.seq ?_
    refine AWP.seq ?_
    refine ns ?_
    refine nw ?_
    refine branch_hF hF (fun hc6 hF => ?_) (fun hc6 hF => ?_)
    · refine AWP.seq ?_
      refine ns ?_
      obtain rfl := some_eq hF
      refine ns ?_
      exact wx (WS.mk (tc wt_nil) wb_nil)
    · refine nw ?_
      refine AWP.seq ?_
      refine AWP.seq ?_
      refine ns ?_
      refine nw ?_
      refine branch_hF hF (fun hc7 hF => ?_) (fun hc7 hF => ?_)
      · refine AWP.seq ?_
        refine ns ?_
        obtain rfl := some_eq hF
        refine ns ?_
        exact wx (WS.mk (tc wt_nil) wb_nil)
      · refine nw ?_
        refine AWP.seq ?_
        refine ns ?_
        obtain rfl := some_eq hF
        refine ns ?_
        exact wx (WS.mk (tc wt_nil) wb_nil)
end Go.Proofs.YtafniolcakiljaaGreatDoor

set_option linter.unusedVariables false
set_option linter.unusedSimpArgs false
set_option maxRecDepth 100000
set_option maxHeartbeats 4000000
namespace Go.Proofs.YtafniolcakiljaaGreatDoor
open Go Go.Am
def values_validSet_l1 (s : TExcSet) (x_18 : Nat) (x_18_s_ : (List TExc)) : Option (Bool) :=
  (match x_18_s_ with
  | x25 :: xs26 =>
  values_constructor x25.fCon >>= fun r28 =>
  (if (!r28) = true then some true else (if (decide (((x_18 : Nat) : Int) > 0)) = true then (ixI s.fList (IntKind.i64.wrap (((x_18 : Nat) : Int) - 1))) >>= fun x29 =>
  values_compare x29 x25 >>= fun r30 =>
  some (decide (r30 ≥ 0)) else some false) >>= fun c31 =>
  some c31) >>= fun c32 =>
  if c32 = true then
  some false
  else
  values_validSet_l1 s (x_18 + 1) xs26
  | [] =>
  some true)
  partial_fixpoint
def values_validSet_l1.M (s : TExcSet) (x_18 : Nat) (x_18_s_ : (List TExc)) (r : Bool) : Prop :=
  ∀ pre_x_18 : List TExc, s.fList = pre_x_18 ++ x_18_s_ → x_18 = pre_x_18.length → s.fList.length ≤ maxLen → AWL Tryz.prog 43 (Code.sub (bodyOf Tryz.f51) [1, 1, 1, 0, 1, 0, 0]) (Code.cont Tryz.prog 43 (bodyOf Tryz.f51) [1, 1, 1, 0, 1, 0] (endK tab Tryz.f51.results [] (WRes (.c none (.v (.bool r))) []))) ⟨[(1, .ptr 1 0), (16, .c none (.sl (s.fList.map TExc.cells))), (17, .c none (.v (.int .i64 ((s.fList.length : Nat) : Int)))), (18, .c none (.v (.int .i64 ((x_18 : Nat) : Int))))], [(1, [(none, .v (.bool s.fAll)), (none, .sl (s.fList.map TExc.cells))])]⟩
theorem values_validSet_l1_ok (s : TExcSet) (x_18 : Nat) (x_18_s_ : (List TExc)) : ∀ r, values_validSet_l1 s x_18 x_18_s_ = some r → values_validSet_l1.M s x_18 x_18_s_ r := by
  refine values_validSet_l1.partial_correctness s (fun x_18 x_18_s_ r => values_validSet_l1.M s x_18 x_18_s_ r) ?_ x_18 x_18_s_
  intro values_validSet_l1' ih0_values_validSet_l1 x_18 x_18_s_ r hF
  have ih_values_validSet_l1 := fun (_s : TExcSet) (x_18 : Nat) (x_18_s_ : (List TExc)) => ih0_values_validSet_l1 x_18 x_18_s_
  clear ih0_values_validSet_l1
  unfold values_validSet_l1.M
  intro pre_x_18 hs_x_18 hk_x_18 hlen9
  refine AWL.step ?_
  refine AWP.seq ?_
  refine ns ?_
  refine AWP.seq ?_
  refine nw ?_
  refine branch_list hs_x_18 hk_x_18 (fun x25 xs26 hp27 hx27 hl27 => ?_) (fun hp27 => ?_)
  · subst hp27
    refine nw ?_
    refine AWP.seq ?_
    refine AWP.block ?_
    refine AWP.seq ?_
    refine nn ?_
    refine sr (map_get (f := TExc.cells) (TExc.cells_eq x25) hx27) ?_
    refine st ?_
    refine AWP.seq ?_
    obtain ⟨r28, hr28, hF⟩ := bind_some hF
    obtain ⟨c32, hc32, hF⟩ := bind_some hF
    refine AWP.cutN (fun T => ∃ r, WS r T ⟨[(1, .ptr 1 0), (16, .c none (.sl (s.fList.map TExc.cells))), (17, .c none (.v (.int .i64 ((s.fList.length : Nat) : Int)))), (18, .c none (.v (.int .i64 ((x_18 : Nat) : Int)))), (41, .c none (.v (.bool c32)))], [(1, [(none, .v (.bool s.fAll)), (none, .sl (s.fList.map TExc.cells))])]⟩) ?_ (fun T hw => ?_)
    · refine nn ?_
      refine Exists.intro 15 (Exists.intro [[], [], [], [], [], [], [], [], [], [], [], [], [], [], []] (Exists.intro [([23, 24, 25, 26, 27, 28, 29, 30, 31, 32, 33, 34, 35, 36, 37], [], []), ([24, 25, 26, 27, 28, 29, 30, 31, 32, 33, 34, 35, 36, 37], [], []), ([25, 26, 27, 28, 29, 30, 31, 32, 33, 34, 35, 36, 37], [], []), ([26, 27, 28, 29, 30, 31, 32, 33, 34, 35, 36, 37], [], []), ([27, 28, 29, 30, 31, 32, 33, 34, 35, 36, 37], [], []), ([28, 29, 30, 31, 32, 33, 34, 35, 36, 37], [], []), ([29, 30, 31, 32, 33, 34, 35, 36, 37], [], []), ([30, 31, 32, 33, 34, 35, 36, 37], [], []), ([31, 32, 33, 34, 35, 36, 37], [], []), ([32, 33, 34, 35, 36, 37], [], []), ([31, 32, 33, 34, 35, 36, 37], [], []), ([31, 32, 34, 35, 36, 37], [], []), ([35, 36, 37], [], []), ([36, 37], [], []), ([31, 32, 33, 34, 35, 36, 37], [], [])] (Exists.intro [23, 24, 25, 26, 27, 28, 29, 30, 31, 32, 33, 34, 35, 36, 37] (And.intro (by decide +kernel) ?_))))
      refine dp ?_
      refine dp ?_
      ((repeat (first | ((conv => whnf); (with_reducible refine And.intro ?_ ?_); (focus (first | exact Eq.refl _ | exact trivial | exact Int.natCast_nonneg _ | assumption | exact Nat.le_of_ble_eq_true (Eq.refl true) | decide))))); (conv => whnf); apply Exists.intro; apply Exists.intro; apply And.intro; (focus ((conv => whnf); refine And.intro rfl ?_; (conv => whnf); refine CallsX.mono (CallsX.weak (rn []) (values_constructor_ok x25.fCon _ hr28) rfl (WS.mk (tc wt_nil) wb_nil)) ?_; rintro d b ⟨rfl, rfl⟩; exact And.intro rfl rfl)); apply And.intro; (focus exact rfl); (conv => whnf))
      refine dp ?_
      refine dp ?_
      refine st ?_
      refine branchG_intro false (fun hc33 => ?_) (fun hc33 => ?_)
      · have hc32 := ift hc33 hc32
        (conv => whnf)
        obtain rfl := some_eq hc32
        refine st ?_
        exact wx (WS.mk (tp (tc (tc (tc (wt_cons (wd_c (web hc33)) wt_nil))))) (wb_cons rfl (cc (cc wc_nil)) wb_nil))
      · have hc32 := ife hc33 hc32
        obtain ⟨c31, hc31, hc32⟩ := bind_some hc32
        (conv => whnf)
        refine dp ?_
        refine dp ?_
        refine dp ?_
        refine st ?_
        refine branchG_intro true (fun hc34 => ?_) (fun hc34 => ?_)
        · have hc31 := ift (And.intro hc33 hc34) hc31
          obtain ⟨x29, hx290, hx29, hc31⟩ := ix_some hc31
          obtain ⟨r30, hr30, hc31⟩ := bind_some hc31
          (conv => whnf)
          refine dp ?_
          refine dp ?_
          refine dp ?_
          refine dp ?_
          ((repeat (first | ((conv => whnf); (with_reducible refine And.intro ?_ ?_); (focus (first | exact Eq.refl _ | exact trivial | exact Int.natCast_nonneg _ | assumption | exact Nat.le_of_ble_eq_true (Eq.refl true) | decide))))); (conv => whnf); apply Exists.intro; apply Exists.intro; apply And.intro; (focus (((repeat (first | ((conv => whnf); (with_reducible refine And.intro ?_ ?_); (focus (first | exact Eq.refl _ | exact trivial | exact Int.natCast_nonneg _ | assumption | exact Nat.le_of_ble_eq_true (Eq.refl true) | decide))))); (conv => whnf)) <;> (rw [map_getI (TExc.cells_eq x29) hx29]) <;> ((repeat (first | ((conv => whnf); (with_reducible refine And.intro ?_ ?_); (focus (first | exact Eq.refl _ | exact trivial | exact Int.natCast_nonneg _ | assumption | exact Nat.le_of_ble_eq_true (Eq.refl true) | decide))))); (conv => whnf)) <;> (exact rfl))); apply And.intro; (focus exact rfl); (conv => whnf))
          refine dp ?_
          refine dp ?_
          refine st ?_
          refine Exists.intro [] ?_
          refine st ?_
          refine cm (CallsX.weak (rn []) (values_compare_ok x29 x25 _ hr30) rfl (WS.mk (wt_cons (wd_agg (lc (lc wl_nil))) (wt_cons (wd_agg (lc (lc wl_nil))) wt_nil)) wb_nil)) ?_
          refine st ?_
          obtain rfl := some_eq hc31
          obtain rfl := some_eq hc32
          refine st ?_
          exact wx (WS.mk (tp (tc (tc (tc (wt_cons (wd_c (web (And.intro hc33 hc34))) wt_nil))))) (wb_cons rfl (cc (cc wc_nil)) wb_nil))
        · have hc31 := ife (And.intro hc33 hc34) hc31
          (conv => whnf)
          obtain rfl := some_eq hc31
          obtain rfl := some_eq hc32
          refine st ?_
          exact wx (WS.mk (tp (tc (tc (tc (wt_cons (wd_c (web (And.intro hc33 hc34))) wt_nil))))) (wb_cons rfl (cc (cc wc_nil)) wb_nil))
    obtain ⟨r0, hw⟩ := hw
    (conv => whnf)
    refine AWP.weak r0 hw ?_
    refine nw ?_
    refine branch_hF hF (fun hc35 hF => ?_) (fun hc35 hF => ?_)
    · refine AWP.seq ?_
      refine ns ?_
      obtain rfl := some_eq hF
      refine ns ?_
      exact wx (WS.mk (tc wt_nil) wb_nil)
    · refine nw ?_
      refine ns ?_
      refine AWL.weak (rn []) ?_ (ih_values_validSet_l1 s (x_18 + 1) xs26 _ hF (pre_x_18 ++ [x25]) (by rw [hs_x_18]; simp) (by rw [hk_x_18]; simp) hlen9)
      exact (WS.mk (tp (tc (tc (wt_cons (wd_c (we_i (wrap_succ hlen9 hl27))) wt_nil)))) (wb_cons rfl (cc (cc wc_nil)) wb_nil))
  · subst hp27
    refine nw ?_
    refine AWP.seq ?_
    refine ns ?_
    obtain rfl := some_eq hF
    refine ns ?_
    exact wx (WS.mk (tc wt_nil) wb_nil)
end Go.Proofs.YtafniolcakiljaaGreatDoor

set_option linter.unusedVariables false
set_option linter.unusedSimpArgs false
set_option maxRecDepth 100000
set_option maxHeartbeats 4000000
namespace Go.Proofs.YtafniolcakiljaaGreatDoor
open Go Go.Am
def values_validSet (s : TExcSet) : Option (Bool) :=
  if s.fAll = true then
  some (((s.fList.length : Nat) : Int) == 0)
  else
  if (decide (((s.fList.length : Nat) : Int) > 16)) = true then
  some false
  else
  values_validSet_l1 s 0 s.fList
def values_validSet.M (s : TExcSet) (r : Bool) : Prop :=
  CallsX Tryz.prog 51 [.agg [.v (.bool s.fAll), .sl (s.fList.map TExc.cells)]] [] (fun d b => d = .c none (.v (.bool r)) ∧ b = [])
theorem values_validSet_ok (s : TExcSet) (r : Bool) (hF : values_validSet s = some r) : values_validSet.M s r := by
  unfold values_validSet at hF
  unfold values_validSet.M
  refine enter tabOk Tryz.func51 rfl (by decide) (Nat.le_of_ble_eq_true rfl) rfl rfl rfl ?_
  refine AWP.seq ?_
  refine ns ?_
  refine AWP.seq ?_
  refine AWP.seq ?_
  refine ns ?_
  refine nw ?_
  refine branch_hF hF (fun hc3 hF => ?_) (fun hc3 hF => ?_)
  · refine AWP.seq ?_
    refine ns ?_
    intro hlen4
    (try rw [List.length_map] at hlen4)
    (try rw [List.length_map])
    refine st ?_
    obtain rfl := some_eq hF
    refine ns ?_
    exact wx (WS.mk (tc wt_nil) wb_nil)
  · refine nw ?_
    refine AWP.seq ?_
    refine AWP.seq ?_
    refine ns ?_
    intro hlen7
    (try rw [List.length_map] at hlen7)
    (try rw [List.length_map])
    refine st ?_
    refine nw ?_
    refine branch_hF hF (fun hc8 hF => ?_) (fun hc8 hF => ?_)
    · refine AWP.seq ?_
      refine ns ?_
      obtain rfl := some_eq hF
      refine ns ?_
      exact wx (WS.mk (tc wt_nil) wb_nil)
    · refine nw ?_
      refine AWP.seq ?_
      refine AWP.seq ?_
      refine ns ?_
      intro hlen9
      (try rw [List.length_map] at hlen9)
      (try rw [List.length_map])
      refine st ?_
      refine AWP.block ?_
      refine AWP.loop ?_
      refine AWL.weak (rn []) ?_ (values_validSet_l1_ok s 0 s.fList _ hF ([]) rfl rfl hlen9)
      exact (WS.mk (tp (tc (tc (tc wt_nil)))) (wb_cons rfl (cc (cc wc_nil)) wb_nil))
end Go.Proofs.YtafniolcakiljaaGreatDoor

set_option linter.unusedVariables false
set_option linter.unusedSimpArgs false
set_option maxRecDepth 100000
set_option maxHeartbeats 4000000
namespace Go.Proofs.YtafniolcakiljaaGreatDoor
open Go Go.Am
mutual
def values_formed (toArray : TValue) : Option (Bool) :=
  (if (((!(toArray.fOp == 3)) && ((!(toArray.fName.toList == (ByteArray.mk #[]).toList)) || (decide (((toArray.fKids.length : Nat) : Int) > 0)))) || ((!((toArray.fOp == 1) || (toArray.fOp == 2))) && (toArray.fN != 0))) = true then some true else (if (toArray.fOp != 5) = true then values_noSet toArray.fSet >>= fun r8 =>
  some (!r8) else some false) >>= fun c9 =>
  some c9) >>= fun c10 =>
  if c10 = true then
  some false
  else
  if (toArray.fOp == 1) = true then
  values_formed_k1 toArray (toArray.fOp == 1)
  else
  if (toArray.fOp == 4) = true then
  values_formed_k1 toArray (toArray.fOp == 4)
  else
  values_formed_k1 toArray (toArray.fOp == 6)
  partial_fixpoint
def values_formed_k1 (toArray : TValue) (x_53 : Bool) : Option (Bool) :=
  if x_53 = true then
  some true
  else
  if (toArray.fOp == 2) = true then
  some ((decide (toArray.fN ≥ 0)) && (decide (toArray.fN ≤ 255)))
  else
  if (toArray.fOp == 5) = true then
  values_validSet toArray.fSet >>= fun r29 =>
  some r29
  else
  if (toArray.fOp == 3) = true then
  values_formed_l2 toArray 0 toArray.fKids
  else
  some false
  partial_fixpoint
def values_formed_l2 (toArray : TValue) (x_77 : Nat) (x_77_s_ : (List TValue)) : Option (Bool) :=
  (match x_77_s_ with
  | x59 :: xs60 =>
  values_formed x59 >>= fun r62 =>
  if (!r62) = true then
  some false
  else
  values_formed_l2 toArray (x_77 + 1) xs60
  | [] =>
  values_constructor toArray.fName >>= fun r64 =>
  some r64)
  partial_fixpoint
end
def values_formed.M (toArray : TValue) (r : Bool) : Prop :=
  CallsX Tryz.prog 33 [.agg [.v (.int .i64 toArray.fOp), .v (.string toArray.fName), .v (.int .i64 toArray.fN), .sl (toArray.fKids.map TValue.cells), .v (.bool toArray.fSet.fAll), .sl (toArray.fSet.fList.map TExc.cells)]] [] (fun d b => d = .c none (.v (.bool r)) ∧ b = [])
def values_formed_k1.M (toArray : TValue) (x_53 : Bool) (r : Bool) : Prop :=
  AWP Tryz.prog 88 (Code.sub (bodyOf Tryz.f33) [1, 1, 1, 0, 1, 0, 1]) (Code.cont Tryz.prog 88 (bodyOf Tryz.f33) [1, 1, 1, 0, 1, 0, 1] (endK tab Tryz.f33.results [] (WRes (.c none (.v (.bool r))) []))) ⟨[(1, .ptr 1 0), (52, .c none (.v (.int .i64 toArray.fOp))), (53, .c none (.v (.bool x_53)))], [(1, [(none, .v (.int .i64 toArray.fOp)), (none, .v (.string toArray.fName)), (none, .v (.int .i64 toArray.fN)), (none, .sl (toArray.fKids.map TValue.cells)), (none, .v (.bool toArray.fSet.fAll)), (none, .sl (toArray.fSet.fList.map TExc.cells))])]⟩
def values_formed_l2.M (toArray : TValue) (x_77 : Nat) (x_77_s_ : (List TValue)) (r : Bool) : Prop :=
  ∀ pre_x_77 : List TValue, toArray.fKids = pre_x_77 ++ x_77_s_ → x_77 = pre_x_77.length → toArray.fKids.length ≤ maxLen → AWL Tryz.prog 88 (Code.sub (bodyOf Tryz.f33) [1, 1, 1, 0, 1, 0, 1, 1, 1, 1, 1, 1, 1, 0, 0, 1, 0, 0]) (Code.cont Tryz.prog 88 (bodyOf Tryz.f33) [1, 1, 1, 0, 1, 0, 1, 1, 1, 1, 1, 1, 1, 0, 0, 1, 0] (endK tab Tryz.f33.results [] (WRes (.c none (.v (.bool r))) []))) ⟨[(1, .ptr 1 0), (75, .c none (.sl (toArray.fKids.map TValue.cells))), (76, .c none (.v (.int .i64 ((toArray.fKids.length : Nat) : Int)))), (77, .c none (.v (.int .i64 ((x_77 : Nat) : Int))))], [(1, [(none, .v (.int .i64 toArray.fOp)), (none, .v (.string toArray.fName)), (none, .v (.int .i64 toArray.fN)), (none, .sl (toArray.fKids.map TValue.cells)), (none, .v (.bool toArray.fSet.fAll)), (none, .sl (toArray.fSet.fList.map TExc.cells))])]⟩
theorem values_formed_all : (∀ (toArray : TValue), ∀ r, values_formed toArray = some r → values_formed.M toArray r) ∧ (∀ (toArray : TValue) (x_53 : Bool), ∀ r, values_formed_k1 toArray x_53 = some r → values_formed_k1.M toArray x_53 r) ∧ (∀ (toArray : TValue) (x_77 : Nat) (x_77_s_ : (List TValue)), ∀ r, values_formed_l2 toArray x_77 x_77_s_ = some r → values_formed_l2.M toArray x_77 x_77_s_ r) := by
  refine values_formed.mutual_partial_correctness values_formed.M values_formed_k1.M values_formed_l2.M ?_ ?_ ?_
  · intro values_formed_k1' ih_values_formed_k1 toArray r hF
    unfold values_formed.M
    refine enter tabOk Tryz.func33 rfl (by decide) (Nat.le_of_ble_eq_true rfl) rfl rfl rfl ?_
    refine AWP.seq ?_
    refine ns ?_
    refine AWP.seq ?_
    refine AWP.cutN (fun T => ∃ r, WS r T ⟨[(1, .ptr 1 0), (3, .c none (.v (.bool (toArray.fOp == 3)))), (4, .c none (.v (.bool ((toArray.fOp == 1) || (toArray.fOp == 2)))))], [(1, [(none, .v (.int .i64 toArray.fOp)), (none, .v (.string toArray.fName)), (none, .v (.int .i64 toArray.fN)), (none, .sl (toArray.fKids.map TValue.cells)), (none, .v (.bool toArray.fSet.fAll)), (none, .sl (toArray.fSet.fList.map TExc.cells))])]⟩) ?_ (fun T hw => ?_)
    · refine nn ?_
      refine Exists.intro 12 (Exists.intro [[], [], [], [], [], [], [], [], [], [], [], []] (Exists.intro [([7, 8, 9, 10, 11, 12, 13, 14, 15, 16, 17, 3], [], []), ([8, 9, 10, 11, 12, 13, 14, 15, 16, 17, 3], [], []), ([9, 10, 11, 12, 13, 14, 15, 16, 17, 3], [], []), ([7, 8, 9, 10, 11, 12, 13, 14, 15, 16, 17, 3], [], []), ([7, 8, 9, 11, 12, 13, 14, 15, 16, 17, 3], [], []), ([7, 8, 9, 12, 13, 14, 15, 16, 17, 3], [], []), ([7, 8, 9, 13, 14, 15, 16, 17, 3], [], []), ([7, 8, 9, 14, 15, 16, 17, 3], [], []), ([7, 8, 9, 15, 16, 17, 3], [], []), ([7, 8, 9, 16, 17, 3], [], []), ([7, 8, 9, 17, 3], [], []), ([14, 15, 16, 17, 3], [], [])] (Exists.intro [7, 8, 9, 10, 11, 12, 13, 14, 15, 16, 17, 3] (And.intro (by decide +kernel) ?_))))
      refine dp ?_
      refine dp ?_
      refine dp ?_
      refine dp ?_
      refine dp ?_
      refine dp ?_
      refine dp ?_
      refine st ?_
      refine branchG_intro false (fun hc1 => ?_) (fun hc1 => ?_)
      · (conv => whnf)
        refine dp ?_
        refine dp ?_
        refine st ?_
        exact wx (WS.mk (tp (tc (wt_cons (wd_c (web hc1)) wt_nil))) (wb_cons rfl (cc (cc (cc (cc (cc (cc wc_nil)))))) wb_nil))
      · (conv => whnf)
        refine dp ?_
        refine dp ?_
        refine dp ?_
        refine dp ?_
        refine dp ?_
        refine st ?_
        exact wx (WS.mk (tp (tc (wt_cons (wd_c (web hc1)) wt_nil))) (wb_cons rfl (cc (cc (cc (cc (cc (cc wc_nil)))))) wb_nil))
    obtain ⟨r0, hw⟩ := hw
    (conv => whnf)
    refine AWP.weak r0 hw ?_
    refine AWP.seq ?_
    refine AWP.seq ?_
    obtain ⟨c10, hc10, hF⟩ := bind_some hF
    refine AWP.cutN (fun T => ∃ r, WS r T ⟨[(1, .ptr 1 0), (50, .c none (.v (.bool c10)))], [(1, [(none, .v (.int .i64 toArray.fOp)), (none, .v (.string toArray.fName)), (none, .v (.int .i64 toArray.fN)), (none, .sl (toArray.fKids.map TValue.cells)), (none, .v (.bool toArray.fSet.fAll)), (none, .sl (toArray.fSet.fList.map TExc.cells))])]⟩) ?_ (fun T hw => ?_)
    · refine ns ?_
      refine branchG_intro true (fun hc11 => ?_) (fun hc11 => ?_)
      · (conv => whnf)
        refine st ?_
        refine branchG_intro false (fun hc12 => ?_) (fun hc12 => ?_)
        · (conv => whnf)
          have hc10 := ift (And.intro hc11 hc12) hc10
          obtain rfl := some_eq hc10
          refine st ?_
          exact wx (WS.mk (tp (wt_cons (wd_c (web (And.intro hc11 hc12))) wt_nil)) (wb_cons rfl (cc (cc (cc (cc (cc (cc wc_nil)))))) wb_nil))
        · (conv => whnf)
          refine st ?_
          intro hlen7
          (try rw [List.length_map] at hlen7)
          (try rw [List.length_map])
          refine st ?_
          refine branchG_intro false (fun hc13 => ?_) (fun hc13 => ?_)
          · (conv => whnf)
            have hc10 := ift (And.intro hc11 (And.intro hc12 hc13)) hc10
            obtain rfl := some_eq hc10
            refine st ?_
            exact wx (WS.mk (tp (wt_cons (wd_c (web (And.intro hc11 (And.intro hc12 hc13)))) wt_nil)) (wb_cons rfl (cc (cc (cc (cc (cc (cc wc_nil)))))) wb_nil))
          · (conv => whnf)
            refine st ?_
            refine branchG_intro true (fun hc14 => ?_) (fun hc14 => ?_)
            · (conv => whnf)
              refine st ?_
              refine branchG_intro false (fun hc15 => ?_) (fun hc15 => ?_)
              · have hc10 := ift (And.intro hc11 (And.intro hc12 (And.intro hc13 (And.intro hc14 hc15)))) hc10
                (conv => whnf)
                obtain rfl := some_eq hc10
                refine st ?_
                exact wx (WS.mk (tp (wt_cons (wd_c (web (And.intro hc11 (And.intro hc12 (And.intro hc13 (And.intro hc14 hc15)))))) wt_nil)) (wb_cons rfl (cc (cc (cc (cc (cc (cc wc_nil)))))) wb_nil))
              · have hc10 := ife (And.intro hc11 (And.intro hc12 (And.intro hc13 (And.intro hc14 hc15)))) hc10
                obtain ⟨c9, hc9, hc10⟩ := bind_some hc10
                (conv => whnf)
                refine st ?_
                refine branchG_intro true (fun hc16 => ?_) (fun hc16 => ?_)
                · have hc9 := ift (And.intro hc11 (And.intro hc12 (And.intro hc13 (And.intro hc14 (And.intro hc15 hc16))))) hc9
                  obtain ⟨r8, hr8, hc9⟩ := bind_some hc9
                  (conv => whnf)
                  refine st ?_
                  refine Exists.intro [] ?_
                  refine st ?_
                  refine cm (CallsX.weak (rn []) (values_noSet_ok toArray.fSet _ hr8) rfl (WS.mk (wt_cons (wd_agg (lc (lc wl_nil))) wt_nil) wb_nil)) ?_
                  refine st ?_
                  obtain rfl := some_eq hc9
                  obtain rfl := some_eq hc10
                  refine st ?_
                  exact wx (WS.mk (tp (wt_cons (wd_c (web (And.intro hc11 (And.intro hc12 (And.intro hc13 (And.intro hc14 (And.intro hc15 hc16))))))) wt_nil)) (wb_cons rfl (cc (cc (cc (cc (cc (cc wc_nil)))))) wb_nil))
                · have hc9 := ife (And.intro hc11 (And.intro hc12 (And.intro hc13 (And.intro hc14 (And.intro hc15 hc16))))) hc9
                  (conv => whnf)
                  obtain rfl := some_eq hc9
                  obtain rfl := some_eq hc10
                  refine st ?_
                  exact wx (WS.mk (tp (wt_cons (wd_c (web (And.intro hc11 (And.intro hc12 (And.intro hc13 (And.intro hc14 (And.intro hc15 hc16))))))) wt_nil)) (wb_cons rfl (cc (cc (cc (cc (cc (cc wc_nil)))))) wb_nil))
            · (conv => whnf)
              have hc10 := ife (And.intro hc11 (And.intro hc12 (And.intro hc13 hc14))) hc10
              obtain ⟨c9, hc9, hc10⟩ := bind_some hc10
              refine st ?_
              refine branchG_intro true (fun hc17 => ?_) (fun hc17 => ?_)
              · have hc9 := ift (And.intro hc11 (And.intro hc12 (And.intro hc13 (And.intro hc14 hc17)))) hc9
                obtain ⟨r8, hr8, hc9⟩ := bind_some hc9
                (conv => whnf)
                refine st ?_
                refine Exists.intro [] ?_
                refine st ?_
                refine cm (CallsX.weak (rn []) (values_noSet_ok toArray.fSet _ hr8) rfl (WS.mk (wt_cons (wd_agg (lc (lc wl_nil))) wt_nil) wb_nil)) ?_
                refine st ?_
                obtain rfl := some_eq hc9
                obtain rfl := some_eq hc10
                refine st ?_
                exact wx (WS.mk (tp (wt_cons (wd_c (web (And.intro hc11 (And.intro hc12 (And.intro hc13 (And.intro hc14 hc17)))))) wt_nil)) (wb_cons rfl (cc (cc (cc (cc (cc (cc wc_nil)))))) wb_nil))
              · have hc9 := ife (And.intro hc11 (And.intro hc12 (And.intro hc13 (And.intro hc14 hc17)))) hc9
                (conv => whnf)
                obtain rfl := some_eq hc9
                obtain rfl := some_eq hc10
                refine st ?_
                exact wx (WS.mk (tp (wt_cons (wd_c (web (And.intro hc11 (And.intro hc12 (And.intro hc13 (And.intro hc14 hc17)))))) wt_nil)) (wb_cons rfl (cc (cc (cc (cc (cc (cc wc_nil)))))) wb_nil))
      · (conv => whnf)
        refine st ?_
        refine branchG_intro true (fun hc18 => ?_) (fun hc18 => ?_)
        · (conv => whnf)
          refine st ?_
          refine branchG_intro false (fun hc19 => ?_) (fun hc19 => ?_)
          · have hc10 := ift (And.intro hc11 (And.intro hc18 hc19)) hc10
            (conv => whnf)
            obtain rfl := some_eq hc10
            refine st ?_
            exact wx (WS.mk (tp (wt_cons (wd_c (web (And.intro hc11 (And.intro hc18 hc19)))) wt_nil)) (wb_cons rfl (cc (cc (cc (cc (cc (cc wc_nil)))))) wb_nil))
          · have hc10 := ife (And.intro hc11 (And.intro hc18 hc19)) hc10
            obtain ⟨c9, hc9, hc10⟩ := bind_some hc10
            (conv => whnf)
            refine st ?_
            refine branchG_intro true (fun hc20 => ?_) (fun hc20 => ?_)
            · have hc9 := ift (And.intro hc11 (And.intro hc18 (And.intro hc19 hc20))) hc9
              obtain ⟨r8, hr8, hc9⟩ := bind_some hc9
              (conv => whnf)
              refine st ?_
              refine Exists.intro [] ?_
              refine st ?_
              refine cm (CallsX.weak (rn []) (values_noSet_ok toArray.fSet _ hr8) rfl (WS.mk (wt_cons (wd_agg (lc (lc wl_nil))) wt_nil) wb_nil)) ?_
              refine st ?_
              obtain rfl := some_eq hc9
              obtain rfl := some_eq hc10
              refine st ?_
              exact wx (WS.mk (tp (wt_cons (wd_c (web (And.intro hc11 (And.intro hc18 (And.intro hc19 hc20))))) wt_nil)) (wb_cons rfl (cc (cc (cc (cc (cc (cc wc_nil)))))) wb_nil))
            · have hc9 := ife (And.intro hc11 (And.intro hc18 (And.intro hc19 hc20))) hc9
              (conv => whnf)
              obtain rfl := some_eq hc9
              obtain rfl := some_eq hc10
              refine st ?_
              exact wx (WS.mk (tp (wt_cons (wd_c (web (And.intro hc11 (And.intro hc18 (And.intro hc19 hc20))))) wt_nil)) (wb_cons rfl (cc (cc (cc (cc (cc (cc wc_nil)))))) wb_nil))
        · (conv => whnf)
          have hc10 := ife (And.intro hc11 hc18) hc10
          obtain ⟨c9, hc9, hc10⟩ := bind_some hc10
          refine st ?_
          refine branchG_intro true (fun hc21 => ?_) (fun hc21 => ?_)
          · have hc9 := ift (And.intro hc11 (And.intro hc18 hc21)) hc9
            obtain ⟨r8, hr8, hc9⟩ := bind_some hc9
            (conv => whnf)
            refine st ?_
            refine Exists.intro [] ?_
            refine st ?_
            refine cm (CallsX.weak (rn []) (values_noSet_ok toArray.fSet _ hr8) rfl (WS.mk (wt_cons (wd_agg (lc (lc wl_nil))) wt_nil) wb_nil)) ?_
            refine st ?_
            obtain rfl := some_eq hc9
            obtain rfl := some_eq hc10
            refine st ?_
            exact wx (WS.mk (tp (wt_cons (wd_c (web (And.intro hc11 (And.intro hc18 hc21)))) wt_nil)) (wb_cons rfl (cc (cc (cc (cc (cc (cc wc_nil)))))) wb_nil))
          · have hc9 := ife (And.intro hc11 (And.intro hc18 hc21)) hc9
            (conv => whnf)
            obtain rfl := some_eq hc9
            obtain rfl := some_eq hc10
            refine st ?_
            exact wx (WS.mk (tp (wt_cons (wd_c (web (And.intro hc11 (And.intro hc18 hc21)))) wt_nil)) (wb_cons rfl (cc (cc (cc (cc (cc (cc wc_nil)))))) wb_nil))
    obtain ⟨r0, hw⟩ := hw
    (conv => whnf)
    refine AWP.weak r0 hw ?_
    refine nw ?_
    refine branch_hF hF (fun hc22 hF => ?_) (fun hc22 hF => ?_)
    · refine AWP.seq ?_
      refine ns ?_
      obtain rfl := some_eq hF
      refine ns ?_
      exact wx (WS.mk (tc wt_nil) wb_nil)
    · refine nw ?_
      refine AWP.seq ?_
      refine AWP.seq ?_
      refine ns ?_
      refine AWP.block ?_
      refine AWP.seq ?_
      refine AWP.seq ?_
      refine ns ?_
      refine nw ?_
      refine branch_hF hF (fun hc65 hF => ?_) (fun hc65 hF => ?_)
      · refine nw ?_
        refine AWP.weak (rn []) ?_ (ih_values_formed_k1 toArray (toArray.fOp == 1) _ hF)
        exact (WS.mk (tp (tc (tc wt_nil))) (wb_cons rfl (cc (cc (cc (cc (cc (cc wc_nil)))))) wb_nil))
      · refine AWP.seq ?_
        refine ns ?_
        refine nw ?_
        refine branch_hF hF (fun hc66 hF => ?_) (fun hc66 hF => ?_)
        · refine nw ?_
          refine AWP.weak (rn []) ?_ (ih_values_formed_k1 toArray (toArray.fOp == 4) _ hF)
          exact (WS.mk (tp (tc (tc wt_nil))) (wb_cons rfl (cc (cc (cc (cc (cc (cc wc_nil)))))) wb_nil))
        · refine ns ?_
          refine AWP.weak (rn []) ?_ (ih_values_formed_k1 toArray (toArray.fOp == 6) _ hF)
          exact (WS.mk (tp (tc (tc wt_nil))) (wb_cons rfl (cc (cc (cc (cc (cc (cc wc_nil)))))) wb_nil))
  · intro values_formed_l2' ih_values_formed_l2 toArray x_53 r hF
    unfold values_formed_k1.M
    refine nw ?_
    refine branch_hF hF (fun hc25 hF => ?_) (fun hc25 hF => ?_)
    · refine AWP.seq ?_
      refine ns ?_
      obtain rfl := some_eq hF
      refine ns ?_
      exact wx (WS.mk (tc wt_nil) wb_nil)
    · refine AWP.seq ?_
      refine ns ?_
      refine nw ?_
      refine branch_hF hF (fun hc26 hF => ?_) (fun hc26 hF => ?_)
      · refine AWP.seq ?_
        refine AWP.cutN (fun T => ∃ r, WS r T ⟨[(2, .c none (.v (.bool ((decide (toArray.fN ≥ 0)) && (decide (toArray.fN ≤ 255))))))], []⟩) ?_ (fun T hw => ?_)
        · refine ns ?_
          refine branchG_intro true (fun hc27 => ?_) (fun hc27 => ?_)
          · (conv => whnf)
            refine st ?_
            exact wx (WS.mk (wt_cons (wd_c (web hc27)) wt_nil) wb_nil)
          · (conv => whnf)
            refine st ?_
            exact wx (WS.mk (wt_cons (wd_c (web hc27)) wt_nil) wb_nil)
        obtain ⟨r0, hw⟩ := hw
        (conv => whnf)
        refine AWP.weak r0 hw ?_
        obtain rfl := some_eq hF
        refine ns ?_
        exact wx (WS.mk (tc wt_nil) wb_nil)
      · refine AWP.seq ?_
        refine ns ?_
        refine nw ?_
        refine branch_hF hF (fun hc28 hF => ?_) (fun hc28 hF => ?_)
        · refine AWP.seq ?_
          obtain ⟨r29, hr29, hF⟩ := bind_some hF
          refine ns ?_
          refine Exists.intro [] ?_
          refine st ?_
          refine cm (CallsX.weak (rn []) (values_validSet_ok toArray.fSet _ hr29) rfl (WS.mk (wt_cons (wd_agg (lc (lc wl_nil))) wt_nil) wb_nil)) ?_
          refine st ?_
          obtain rfl := some_eq hF
          refine ns ?_
          exact wx (WS.mk (tc wt_nil) wb_nil)
        · refine AWP.seq ?_
          refine ns ?_
          refine nw ?_
          refine branch_hF hF (fun hc30 hF => ?_) (fun hc30 hF => ?_)
          · refine AWP.seq ?_
            refine AWP.seq ?_
            refine ns ?_
            intro hlen47
            (try rw [List.length_map] at hlen47)
            (try rw [List.length_map])
            refine st ?_
            refine AWP.block ?_
            refine AWP.loop ?_
            refine AWL.weak (rn []) ?_ (ih_values_formed_l2 toArray 0 toArray.fKids _ hF ([]) rfl rfl hlen47)
            exact (WS.mk (tp (tc (tc (tc wt_nil)))) (wb_cons rfl (cc (cc (cc (cc (cc (cc wc_nil)))))) wb_nil))
          · refine nw ?_
            refine AWP.seq ?_
            refine ns ?_
            obtain rfl := some_eq hF
            refine ns ?_
            exact wx (WS.mk (tc wt_nil) wb_nil)
  · intro values_formed' values_formed_l2' ih_values_formed ih_values_formed_l2 toArray x_77 x_77_s_ r hF
    unfold values_formed_l2.M
    intro pre_x_77 hs_x_77 hk_x_77 hlen47
    refine AWL.step ?_
    refine AWP.seq ?_
    refine ns ?_
    refine AWP.seq ?_
    refine nw ?_
    refine branch_list hs_x_77 hk_x_77 (fun x59 xs60 hp61 hx61 hl61 => ?_) (fun hp61 => ?_)
    · subst hp61
      refine nw ?_
      refine AWP.seq ?_
      refine AWP.block ?_
      refine AWP.seq ?_
      refine nn ?_
      refine sr (map_get (f := TValue.cells) (TValue.cells_eq x59) hx61) ?_
      refine st ?_
      refine AWP.seq ?_
      obtain ⟨r62, hr62, hF⟩ := bind_some hF
      refine ns ?_
      refine Exists.intro [] ?_
      refine st ?_
      refine cm (CallsX.weak (rn []) (ih_values_formed x59 _ hr62) rfl (WS.mk (wt_cons (wd_agg (lc (lc (lc (lc (lc (lc wl_nil))))))) wt_nil) wb_nil)) ?_
      refine st ?_
      refine nw ?_
      refine branch_hF hF (fun hc63 hF => ?_) (fun hc63 hF => ?_)
      · refine AWP.seq ?_
        refine ns ?_
        obtain rfl := some_eq hF
        refine ns ?_
        exact wx (WS.mk (tc wt_nil) wb_nil)
      · refine nw ?_
        refine ns ?_
        refine AWL.weak (rn []) ?_ (ih_values_formed_l2 toArray (x_77 + 1) xs60 _ hF (pre_x_77 ++ [x59]) (by rw [hs_x_77]; simp) (by rw [hk_x_77]; simp) hlen47)
        exact (WS.mk (tp (tc (tc (wt_cons (wd_c (we_i (wrap_succ hlen47 hl61))) wt_nil)))) (wb_cons rfl (cc (cc (cc (cc (cc (cc wc_nil)))))) wb_nil))
    · subst hp61
      refine nw ?_
      refine AWP.seq ?_
      obtain ⟨r64, hr64, hF⟩ := bind_some hF
      refine ns ?_
      refine Exists.intro [] ?_
      refine st ?_
      refine cm (CallsX.weak (rn []) (values_constructor_ok toArray.fName _ hr64) rfl (WS.mk (tc wt_nil) wb_nil)) ?_
      refine st ?_
      obtain rfl := some_eq hF
      refine ns ?_
      exact wx (WS.mk (tc wt_nil) wb_nil)
theorem values_formed_ok : ∀ (toArray : TValue), ∀ r, values_formed toArray = some r → values_formed.M toArray r := values_formed_all.1
theorem values_formed_k1_ok : ∀ (toArray : TValue) (x_53 : Bool), ∀ r, values_formed_k1 toArray x_53 = some r → values_formed_k1.M toArray x_53 r := values_formed_all.2.1
theorem values_formed_l2_ok : ∀ (toArray : TValue) (x_77 : Nat) (x_77_s_ : (List TValue)), ∀ r, values_formed_l2 toArray x_77 x_77_s_ = some r → values_formed_l2.M toArray x_77 x_77_s_ r := values_formed_all.2.2
end Go.Proofs.YtafniolcakiljaaGreatDoor

set_option linter.unusedVariables false
set_option linter.unusedSimpArgs false
set_option maxRecDepth 100000
set_option maxHeartbeats 4000000
namespace Go.Proofs.YtafniolcakiljaaGreatDoor
open Go Go.Am
mutual
def values_size (v : TValue) : Option (Int) :=
  values_size_l1 1 v 0 v.fKids
  partial_fixpoint
def values_size_l1 (n_3 : Int) (v : TValue) (x_9 : Nat) (x_9_s_ : (List TValue)) : Option (Int) :=
  (match x_9_s_ with
  | x11 :: xs12 =>
  values_size x11 >>= fun r14 =>
  values_size_l1 (IntKind.i64.wrap (n_3 + r14)) v (x_9 + 1) xs12
  | [] =>
  some n_3)
  partial_fixpoint
end
def values_size.M (v : TValue) (r : Int) : Prop :=
  CallsX Tryz.prog 32 [.agg [.v (.int .i64 v.fOp), .v (.string v.fName), .v (.int .i64 v.fN), .sl (v.fKids.map TValue.cells), .v (.bool v.fSet.fAll), .sl (v.fSet.fList.map TExc.cells)]] [] (fun d b => d = .c none (.v (.int .i64 r)) ∧ b = [])
def values_size_l1.M (n_3 : Int) (v : TValue) (x_9 : Nat) (x_9_s_ : (List TValue)) (r : Int) : Prop :=
  ∀ pre_x_9 : List TValue, v.fKids = pre_x_9 ++ x_9_s_ → x_9 = pre_x_9.length → v.fKids.length ≤ maxLen → AWL Tryz.prog 19 (Code.sub (bodyOf Tryz.f32) [1, 1, 0, 1, 0, 0]) (Code.cont Tryz.prog 19 (bodyOf Tryz.f32) [1, 1, 0, 1, 0] (endK tab Tryz.f32.results [] (WRes (.c none (.v (.int .i64 r))) []))) ⟨[(3, .c none (.v (.int .i64 n_3))), (7, .c none (.sl (v.fKids.map TValue.cells))), (8, .c none (.v (.int .i64 ((v.fKids.length : Nat) : Int)))), (9, .c none (.v (.int .i64 ((x_9 : Nat) : Int))))], []⟩
theorem values_size_all : (∀ (v : TValue), ∀ r, values_size v = some r → values_size.M v r) ∧ (∀ (n_3 : Int) (v : TValue) (x_9 : Nat) (x_9_s_ : (List TValue)), ∀ r, values_size_l1 n_3 v x_9 x_9_s_ = some r → values_size_l1.M n_3 v x_9 x_9_s_ r) := by
  refine values_size.mutual_partial_correctness values_size.M values_size_l1.M ?_ ?_
  · intro values_size_l1' ih_values_size_l1 v r hF
    unfold values_size.M
    refine enter tabOk Tryz.func32 rfl (by decide) (Nat.le_of_ble_eq_true rfl) rfl rfl rfl ?_
    refine AWP.seq ?_
    refine ns ?_
    refine AWP.seq ?_
    refine ns ?_
    refine AWP.seq ?_
    refine AWP.seq ?_
    refine ns ?_
    intro hlen1
    (try rw [List.length_map] at hlen1)
    (try rw [List.length_map])
    refine st ?_
    refine AWP.block ?_
    refine AWP.loop ?_
    refine AWL.weak (rn []) ?_ (ih_values_size_l1 1 v 0 v.fKids _ hF ([]) rfl rfl hlen1)
    exact (WS.mk (tc (tc (tc (tc wt_nil)))) wb_nil)
  · intro values_size' values_size_l1' ih_values_size ih_values_size_l1 n_3 v x_9 x_9_s_ r hF
    unfold values_size_l1.M
    intro pre_x_9 hs_x_9 hk_x_9 hlen1
    refine AWL.step ?_
    refine AWP.seq ?_
    refine ns ?_
    refine AWP.seq ?_
    refine nw ?_
    refine branch_list hs_x_9 hk_x_9 (fun x11 xs12 hp13 hx13 hl13 => ?_) (fun hp13 => ?_)
    · subst hp13
      refine nw ?_
      refine AWP.seq ?_
      refine AWP.block ?_
      refine AWP.seq ?_
      refine nn ?_
      refine sr (map_get (f := TValue.cells) (TValue.cells_eq x11) hx13) ?_
      refine st ?_
      obtain ⟨r14, hr14, hF⟩ := bind_some hF
      refine ns ?_
      refine Exists.intro [] ?_
      refine st ?_
      refine cm (CallsX.weak (rn []) (ih_values_size x11 _ hr14) rfl (WS.mk (wt_cons (wd_agg (lc (lc (lc (lc (lc (lc wl_nil))))))) wt_nil) wb_nil)) ?_
      refine st ?_
      refine ns ?_
      refine AWL.weak (rn []) ?_ (ih_values_size_l1 (IntKind.i64.wrap (n_3 + r14)) v (x_9 + 1) xs12 _ hF (pre_x_9 ++ [x11]) (by rw [hs_x_9]; simp) (by rw [hk_x_9]; simp) hlen1)
      exact (WS.mk (tc (tc (tc (wt_cons (wd_c (we_i (wrap_succ hlen1 hl13))) wt_nil)))) wb_nil)
    · subst hp13
      refine nw ?_
      refine AWP.seq ?_
      refine ns ?_
      obtain rfl := some_eq hF
      refine ns ?_
      exact wx (WS.mk (tc wt_nil) wb_nil)
theorem values_size_ok : ∀ (v : TValue), ∀ r, values_size v = some r → values_size.M v r := values_size_all.1
theorem values_size_l1_ok : ∀ (n_3 : Int) (v : TValue) (x_9 : Nat) (x_9_s_ : (List TValue)), ∀ r, values_size_l1 n_3 v x_9 x_9_s_ = some r → values_size_l1.M n_3 v x_9 x_9_s_ r := values_size_all.2
end Go.Proofs.YtafniolcakiljaaGreatDoor

set_option linter.unusedVariables false
set_option linter.unusedSimpArgs false
set_option maxRecDepth 100000
set_option maxHeartbeats 4000000
namespace Go.Proofs.YtafniolcakiljaaGreatDoor
open Go Go.Am
def values_Check (v : TValue) : Option (Int) :=
  values_depth v >>= fun r3 =>
  if (decide (r3 > 1000)) = true then
  some 4
  else
  values_size v >>= fun r7 =>
  if (decide (r7 > 60000)) = true then
  some 3
  else
  values_formed v >>= fun r9 =>
  if (!r9) = true then
  some 1
  else
  some 0
def values_Check.M (v : TValue) (r : Int) : Prop :=
  CallsX Tryz.prog 16 [.agg [.v (.int .i64 v.fOp), .v (.string v.fName), .v (.int .i64 v.fN), .sl (v.fKids.map TValue.cells), .v (.bool v.fSet.fAll), .sl (v.fSet.fList.map TExc.cells)]] [] (fun d b => d = .c none (.v (.int .i64 r)) ∧ b = [])
theorem values_Check_ok (v : TValue) (r : Int) (hF : values_Check v = some r) : values_Check.M v r := by
  unfold values_Check at hF
  unfold values_Check.M
  refine enter tabOk Tryz.func16 rfl (by decide) (Nat.le_of_ble_eq_true rfl) rfl rfl rfl ?_
  refine AWP.seq ?_
  refine ns ?_
  refine AWP.seq ?_
  refine AWP.seq ?_
  obtain ⟨r3, hr3, hF⟩ := bind_some hF
  refine ns ?_
  refine Exists.intro [] ?_
  refine st ?_
  refine cm (CallsX.weak (rn []) (values_depth_ok v _ hr3) rfl (WS.mk (wt_cons (wd_agg (lc (lc (lc (lc (lc (lc wl_nil))))))) wt_nil) wb_nil)) ?_
  refine st ?_
  refine nw ?_
  refine branch_hF hF (fun hc4 hF => ?_) (fun hc4 hF => ?_)
  · refine AWP.seq ?_
    refine ns ?_
    obtain rfl := some_eq hF
    refine ns ?_
    exact wx (WS.mk (tc wt_nil) wb_nil)
  · refine nw ?_
    refine AWP.seq ?_
    refine AWP.seq ?_
    obtain ⟨r7, hr7, hF⟩ := bind_some hF
    refine ns ?_
    refine Exists.intro [] ?_
    refine st ?_
    refine cm (CallsX.weak (rn []) (values_size_ok v _ hr7) rfl (WS.mk (wt_cons (wd_agg (lc (lc (lc (lc (lc (lc wl_nil))))))) wt_nil) wb_nil)) ?_
    refine st ?_
    refine nw ?_
    refine branch_hF hF (fun hc8 hF => ?_) (fun hc8 hF => ?_)
    · refine AWP.seq ?_
      refine ns ?_
      obtain rfl := some_eq hF
      refine ns ?_
      exact wx (WS.mk (tc wt_nil) wb_nil)
    · refine nw ?_
      refine AWP.seq ?_
      refine AWP.seq ?_
      obtain ⟨r9, hr9, hF⟩ := bind_some hF
      refine ns ?_
      refine Exists.intro [] ?_
      refine st ?_
      refine cm (CallsX.weak (rn []) (values_formed_ok v _ hr9) rfl (WS.mk (wt_cons (wd_agg (lc (lc (lc (lc (lc (lc wl_nil))))))) wt_nil) wb_nil)) ?_
      refine st ?_
      refine nw ?_
      refine branch_hF hF (fun hc10 hF => ?_) (fun hc10 hF => ?_)
      · refine AWP.seq ?_
        refine ns ?_
        obtain rfl := some_eq hF
        refine ns ?_
        exact wx (WS.mk (tc wt_nil) wb_nil)
      · refine nw ?_
        refine AWP.seq ?_
        refine ns ?_
        obtain rfl := some_eq hF
        refine ns ?_
        exact wx (WS.mk (tc wt_nil) wb_nil)
end Go.Proofs.YtafniolcakiljaaGreatDoor

set_option linter.unusedVariables false
set_option linter.unusedSimpArgs false
set_option maxRecDepth 100000
set_option maxHeartbeats 4000000
namespace Go.Proofs.YtafniolcakiljaaGreatDoor
open Go Go.Am
def values_words_l1 (toArray_0 : (List ByteArray)) (a1_ : TValue) (x_53 : Nat) (x_53_s_ : (List TExc)) : Option ((List ByteArray)) :=
  (match x_53_s_ with
  | x96 :: xs97 =>
  strconv_Itoa x96.fN >>= fun r99 =>
  guardP ((toArray_0.length + ([x96.fCon, r99]).length) * 16 ≤ 140737488355328) >>= fun _ =>
  values_words_l1 (toArray_0 ++ ([x96.fCon, r99])) a1_ (x_53 + 1) xs97
  | [] =>
  guardP ((toArray_0.length + ([(ByteArray.mk #[125])]).length) * 16 ≤ 140737488355328) >>= fun _ =>
  some (toArray_0 ++ ([(ByteArray.mk #[125])])))
  partial_fixpoint
def values_words_l1.M (toArray_0 : (List ByteArray)) (a1_ : TValue) (x_53 : Nat) (x_53_s_ : (List TExc)) (r : (List ByteArray)) : Prop :=
  ∀ pre_x_53 : List TExc, a1_.fSet.fList = pre_x_53 ++ x_53_s_ → x_53 = pre_x_53.length → a1_.fSet.fList.length ≤ maxLen → AWL Tryz.prog 97 (Code.sub (bodyOf Tryz.f20) [1, 0, 1, 0, 1, 1, 1, 1, 1, 1, 1, 1, 1, 0, 1, 1, 0, 1, 0, 0]) (Code.cont Tryz.prog 97 (bodyOf Tryz.f20) [1, 0, 1, 0, 1, 1, 1, 1, 1, 1, 1, 1, 1, 0, 1, 1, 0, 1, 0] (endK tab Tryz.f20.results [] (WRes (.c (some (0, 9)) (.sl (r.map c_S))) []))) ⟨[(0, .c (some (0, 9)) (.sl (toArray_0.map c_S))), (51, .c none (.sl (a1_.fSet.fList.map TExc.cells))), (52, .c none (.v (.int .i64 ((a1_.fSet.fList.length : Nat) : Int)))), (53, .c none (.v (.int .i64 ((x_53 : Nat) : Int))))], []⟩
theorem values_words_l1_ok (toArray_0 : (List ByteArray)) (a1_ : TValue) (x_53 : Nat) (x_53_s_ : (List TExc)) : ∀ r, values_words_l1 toArray_0 a1_ x_53 x_53_s_ = some r → values_words_l1.M toArray_0 a1_ x_53 x_53_s_ r := by
  refine values_words_l1.partial_correctness a1_ (fun toArray_0 x_53 x_53_s_ r => values_words_l1.M toArray_0 a1_ x_53 x_53_s_ r) ?_ toArray_0 x_53 x_53_s_
  intro values_words_l1' ih0_values_words_l1 toArray_0 x_53 x_53_s_ r hF
  have ih_values_words_l1 := fun (toArray_0 : (List ByteArray)) (_a1_ : TValue) (x_53 : Nat) (x_53_s_ : (List TExc)) => ih0_values_words_l1 toArray_0 x_53 x_53_s_
  clear ih0_values_words_l1
  unfold values_words_l1.M
  intro pre_x_53 hs_x_53 hk_x_53 hlen84
  refine AWL.step ?_
  refine AWP.seq ?_
  refine ns ?_
  refine AWP.seq ?_
  refine nw ?_
  refine branch_list hs_x_53 hk_x_53 (fun x96 xs97 hp98 hx98 hl98 => ?_) (fun hp98 => ?_)
  · subst hp98
    refine nw ?_
    refine AWP.seq ?_
    refine AWP.block ?_
    refine AWP.seq ?_
    refine nn ?_
    refine sr (map_get (f := TExc.cells) (TExc.cells_eq x96) hx98) ?_
    refine st ?_
    obtain ⟨r99, hr99, hF⟩ := bind_some hF
    obtain ⟨hg100, hF⟩ := guard_some hF
    refine nn ?_
    refine Exists.intro 7 (Exists.intro [[], [], [], [], [], [], []] (Exists.intro [([57, 58, 59, 60, 61, 62, 63], [], []), ([57, 58, 59, 60, 61, 62, 63], [], []), ([57, 59, 60, 61, 62, 63], [], []), ([57, 58, 59, 60, 61, 62, 63], [], []), ([57, 58, 59, 61, 62, 63], [], []), ([57, 58, 59, 62, 63], [], []), ([57, 63], [], [])] (Exists.intro [57, 58, 59, 60, 61, 62, 63] (And.intro (by decide +kernel) ?_))))
    refine dp ?_
    refine dp ?_
    refine dp ?_
    refine dp ?_
    refine dp ?_
    ((repeat (first | ((conv => whnf); (with_reducible refine And.intro ?_ ?_); (focus (first | exact Eq.refl _ | exact trivial | exact Int.natCast_nonneg _ | assumption | exact Nat.le_of_ble_eq_true (Eq.refl true) | decide))))); (conv => whnf); apply Exists.intro; apply Exists.intro; apply And.intro; (focus ((conv => whnf); refine And.intro rfl ?_; (conv => whnf); refine CallsX.mono (CallsX.weak (rn []) (strconv_Itoa_ok x96.fN _ hr99) rfl (WS.mk (tc wt_nil) wb_nil)) ?_; rintro d b ⟨rfl, rfl⟩; exact And.intro rfl rfl)); apply And.intro; (focus exact rfl); (conv => whnf))
    ((repeat (first | ((conv => whnf); (with_reducible refine And.intro ?_ ?_); (focus (first | exact Eq.refl _ | exact trivial | exact Int.natCast_nonneg _ | assumption | exact Nat.le_of_ble_eq_true (Eq.refl true) | decide))))); (conv => whnf); apply Exists.intro; apply Exists.intro; apply And.intro; (focus (((repeat (first | ((conv => whnf); (with_reducible refine And.intro ?_ ?_); (focus (first | exact Eq.refl _ | exact trivial | exact Int.natCast_nonneg _ | assumption | exact Nat.le_of_ble_eq_true (Eq.refl true) | decide))))); (conv => whnf)) <;> (refine Exists.intro _ (And.intro (we_rows (f := c_S) (lc wl_nil) (we_rows (f := c_S) (lc wl_nil) (we_rows_nil (f := c_S)))) ?_)) <;> ((repeat (first | ((conv => whnf); (with_reducible refine And.intro ?_ ?_); (focus (first | exact Eq.refl _ | exact trivial | exact Int.natCast_nonneg _ | assumption | exact Nat.le_of_ble_eq_true (Eq.refl true) | decide))))); (conv => whnf)) <;> (exact rfl))); apply And.intro; (focus exact rfl); (conv => whnf))
    refine st ?_
    refine And.intro (by first | exact rows_map _ (fun x => c_S_len x) | exact rows_nil) (And.intro (by first | exact rows_map _ (fun x => c_S_len x) | exact rows_nil) (And.intro (by have h := hg100; simp only [List.length_map, List.length_append, List.length_cons, List.length_nil, Nat.zero_add] at h ⊢; first | exact h | (unfold maxLen; omega) | omega) (And.intro (by have h := hg100; simp only [List.length_map, List.length_append, List.length_cons, List.length_nil, Nat.zero_add] at h ⊢; first | exact h | (unfold maxLen; omega) | omega) (Exists.intro _ (And.intro (WE.refl _) ?_)))))
    rw [← List.map_append]
    refine st ?_
    refine ns ?_
    refine AWL.weak (rn [(64, 0)]) ?_ (ih_values_words_l1 (toArray_0 ++ ([x96.fCon, r99])) a1_ (x_53 + 1) xs97 _ hF (pre_x_53 ++ [x96]) (by rw [hs_x_53]; simp) (by rw [hk_x_53]; simp) hlen84)
    exact (WS.mk (wt_cons (wd_own rfl (WE.refl _)) (tc (tc (wt_cons (wd_c (we_i (wrap_succ hlen84 hl98))) wt_nil)))) wb_nil)
  · subst hp98
    refine nw ?_
    refine AWP.seq ?_
    obtain ⟨hg101, hF⟩ := guard_some hF
    refine ns ?_
    refine Exists.intro _ (And.intro (we_rows (f := c_S) (lc wl_nil) (we_rows_nil (f := c_S))) ?_)
    refine st ?_
    refine And.intro (by first | exact rows_map _ (fun x => c_S_len x) | exact rows_nil) (And.intro (by first | exact rows_map _ (fun x => c_S_len x) | exact rows_nil) (And.intro (by have h := hg101; simp only [List.length_map, List.length_append, List.length_cons, List.length_nil, Nat.zero_add] at h ⊢; first | exact h | (unfold maxLen; omega) | omega) (And.intro (by have h := hg101; simp only [List.length_map, List.length_append, List.length_cons, List.length_nil, Nat.zero_add] at h ⊢; first | exact h | (unfold maxLen; omega) | omega) (Exists.intro _ (And.intro (WE.refl _) ?_)))))
    rw [← List.map_append]
    refine st ?_
    obtain rfl := some_eq hF
    refine ns ?_
    exact Exists.intro (rn [(68, 0)]) (WS.mk (wt_cons (wd_own rfl (WE.refl _)) wt_nil) wb_nil)
end Go.Proofs.YtafniolcakiljaaGreatDoor

set_option linter.unusedVariables false
set_option linter.unusedSimpArgs false
set_option maxRecDepth 100000
set_option maxHeartbeats 4000000
namespace Go.Proofs.YtafniolcakiljaaGreatDoor
open Go Go.Am
mutual
def values_words (toArray : (List ByteArray)) (a1_ : TValue) : Option ((List ByteArray)) :=
  if (a1_.fOp == 1) = true then
  strconv_Itoa a1_.fN >>= fun r52 =>
  guardP ((toArray.length + ([r52]).length) * 16 ≤ 140737488355328) >>= fun _ =>
  some (toArray ++ ([r52]))
  else
  if (a1_.fOp == 2) = true then
  strconv_Itoa a1_.fN >>= fun r55 =>
  guardP ((((ByteArray.mk #[35]).size + r55.size : Nat) : Int) ≤ IntKind.i64.max) >>= fun _ =>
  guardP ((toArray.length + ([((ByteArray.mk #[35]) ++ r55)]).length) * 16 ≤ 140737488355328) >>= fun _ =>
  some (toArray ++ ([((ByteArray.mk #[35]) ++ r55)]))
  else
  if (a1_.fOp == 4) = true then
  guardP ((toArray.length + ([(ByteArray.mk #[60, 102, 117, 110, 62])]).length) * 16 ≤ 140737488355328) >>= fun _ =>
  some (toArray ++ ([(ByteArray.mk #[60, 102, 117, 110, 62])]))
  else
  if (a1_.fOp == 6) = true then
  guardP ((toArray.length + ([(ByteArray.mk #[63])]).length) * 16 ≤ 140737488355328) >>= fun _ =>
  some (toArray ++ ([(ByteArray.mk #[63])]))
  else
  if (a1_.fOp == 5) = true then
  if a1_.fSet.fAll = true then
  guardP ((toArray.length + ([(ByteArray.mk #[33, 42])]).length) * 16 ≤ 140737488355328) >>= fun _ =>
  some (toArray ++ ([(ByteArray.mk #[33, 42])]))
  else
  guardP ((toArray.length + ([(ByteArray.mk #[33, 123])]).length) * 16 ≤ 140737488355328) >>= fun _ =>
  values_words_l1 (toArray ++ ([(ByteArray.mk #[33, 123])])) a1_ 0 a1_.fSet.fList
  else
  if (((a1_.fKids.length : Nat) : Int) == 0) = true then
  guardP ((toArray.length + ([a1_.fName]).length) * 16 ≤ 140737488355328) >>= fun _ =>
  some (toArray ++ ([a1_.fName]))
  else
  guardP ((toArray.length + ([(ByteArray.mk #[40]), a1_.fName]).length) * 16 ≤ 140737488355328) >>= fun _ =>
  values_words_l2 (toArray ++ ([(ByteArray.mk #[40]), a1_.fName])) a1_ 0 a1_.fKids
  partial_fixpoint
def values_words_l2 (toArray_0 : (List ByteArray)) (a1_ : TValue) (x_86 : Nat) (x_86_s_ : (List TValue)) : Option ((List ByteArray)) :=
  (match x_86_s_ with
  | x132 :: xs133 =>
  values_words toArray_0 x132 >>= fun r135 =>
  values_words_l2 r135 a1_ (x_86 + 1) xs133
  | [] =>
  guardP ((toArray_0.length + ([(ByteArray.mk #[41])]).length) * 16 ≤ 140737488355328) >>= fun _ =>
  some (toArray_0 ++ ([(ByteArray.mk #[41])])))
  partial_fixpoint
end
def values_words.M (toArray : (List ByteArray)) (a1_ : TValue) (r : (List ByteArray)) : Prop :=
  CallsX Tryz.prog 20 [.c (some (0, 9)) (.sl (toArray.map c_S)), .agg [.v (.int .i64 a1_.fOp), .v (.string a1_.fName), .v (.int .i64 a1_.fN), .sl (a1_.fKids.map TValue.cells), .v (.bool a1_.fSet.fAll), .sl (a1_.fSet.fList.map TExc.cells)]] [] (fun d b => d = .c (some (0, 9)) (.sl (r.map c_S)) ∧ b = [])
def values_words_l2.M (toArray_0 : (List ByteArray)) (a1_ : TValue) (x_86 : Nat) (x_86_s_ : (List TValue)) (r : (List ByteArray)) : Prop :=
  ∀ pre_x_86 : List TValue, a1_.fKids = pre_x_86 ++ x_86_s_ → x_86 = pre_x_86.length → a1_.fKids.length ≤ maxLen → AWL Tryz.prog 97 (Code.sub (bodyOf Tryz.f20) [1, 1, 1, 1, 0, 1, 0, 0]) (Code.cont Tryz.prog 97 (bodyOf Tryz.f20) [1, 1, 1, 1, 0, 1, 0] (endK tab Tryz.f20.results [] (WRes (.c (some (0, 9)) (.sl (r.map c_S))) []))) ⟨[(0, .c (some (0, 9)) (.sl (toArray_0.map c_S))), (84, .c none (.sl (a1_.fKids.map TValue.cells))), (85, .c none (.v (.int .i64 ((a1_.fKids.length : Nat) : Int)))), (86, .c none (.v (.int .i64 ((x_86 : Nat) : Int))))], []⟩
theorem values_words_all : (∀ (toArray : (List ByteArray)) (a1_ : TValue), ∀ r, values_words toArray a1_ = some r → values_words.M toArray a1_ r) ∧ (∀ (toArray_0 : (List ByteArray)) (a1_ : TValue) (x_86 : Nat) (x_86_s_ : (List TValue)), ∀ r, values_words_l2 toArray_0 a1_ x_86 x_86_s_ = some r → values_words_l2.M toArray_0 a1_ x_86 x_86_s_ r) := by
  refine values_words.mutual_partial_correctness values_words.M values_words_l2.M ?_ ?_
  · intro values_words_l2' ih_values_words_l2 toArray a1_ r hF
    unfold values_words.M
    refine enter tabOk Tryz.func20 rfl (by decide) (Nat.le_of_ble_eq_true rfl) rfl rfl rfl ?_
    refine AWP.seq ?_
    refine ns ?_
    refine AWP.seq ?_
    refine AWP.seq ?_
    refine ns ?_
    refine AWP.block ?_
    refine AWP.seq ?_
    refine ns ?_
    refine nw ?_
    refine branch_hF hF (fun hc51 hF => ?_) (fun hc51 hF => ?_)
    · refine AWP.seq ?_
      obtain ⟨r52, hr52, hF⟩ := bind_some hF
      obtain ⟨hg53, hF⟩ := guard_some hF
      refine ns ?_
      refine Exists.intro [] ?_
      refine st ?_
      refine cm (CallsX.weak (rn []) (strconv_Itoa_ok a1_.fN _ hr52) rfl (WS.mk (tc wt_nil) wb_nil)) ?_
      refine st ?_
      refine Exists.intro _ (And.intro (we_rows (f := c_S) (lc wl_nil) (we_rows_nil (f := c_S))) ?_)
      refine st ?_
      refine And.intro (by first | exact rows_map _ (fun x => c_S_len x) | exact rows_nil) (And.intro (by first | exact rows_map _ (fun x => c_S_len x) | exact rows_nil) (And.intro (by have h := hg53; simp only [List.length_map, List.length_append, List.length_cons, List.length_nil, Nat.zero_add] at h ⊢; first | exact h | (unfold maxLen; omega) | omega) (And.intro (by have h := hg53; simp only [List.length_map, List.length_append, List.length_cons, List.length_nil, Nat.zero_add] at h ⊢; first | exact h | (unfold maxLen; omega) | omega) (Exists.intro _ (And.intro (WE.refl _) ?_)))))
      rw [← List.map_append]
      refine st ?_
      obtain rfl := some_eq hF
      refine ns ?_
      exact Exists.intro (rn [(18, 0)]) (WS.mk (wt_cons (wd_own rfl (WE.refl _)) wt_nil) wb_nil)
    · refine AWP.seq ?_
      refine ns ?_
      refine nw ?_
      refine branch_hF hF (fun hc54 hF => ?_) (fun hc54 hF => ?_)
      · refine AWP.seq ?_
        obtain ⟨r55, hr55, hF⟩ := bind_some hF
        obtain ⟨hg56, hF⟩ := guard_some hF
        obtain ⟨hg57, hF⟩ := guard_some hF
        refine ns ?_
        refine Exists.intro [] ?_
        refine st ?_
        refine cm (CallsX.weak (rn []) (strconv_Itoa_ok a1_.fN _ hr55) rfl (WS.mk (tc wt_nil) wb_nil)) ?_
        refine st ?_
        refine Exists.intro _ (And.intro (we_rows (f := c_S) (lc wl_nil) (we_rows_nil (f := c_S))) ?_)
        refine st ?_
        refine And.intro (by first | exact rows_map _ (fun x => c_S_len x) | exact rows_nil) (And.intro (by first | exact rows_map _ (fun x => c_S_len x) | exact rows_nil) (And.intro (by have h := hg57; simp only [List.length_map, List.length_append, List.length_cons, List.length_nil, Nat.zero_add] at h ⊢; first | exact h | (unfold maxLen; omega) | omega) (And.intro (by have h := hg57; simp only [List.length_map, List.length_append, List.length_cons, List.length_nil, Nat.zero_add] at h ⊢; first | exact h | (unfold maxLen; omega) | omega) (Exists.intro _ (And.intro (WE.refl _) ?_)))))
        rw [← List.map_append]
        refine st ?_
        obtain rfl := some_eq hF
        refine ns ?_
        exact Exists.intro (rn [(27, 0)]) (WS.mk (wt_cons (wd_own rfl (WE.refl _)) wt_nil) wb_nil)
      · refine AWP.seq ?_
        refine ns ?_
        refine nw ?_
        refine branch_hF hF (fun hc58 hF => ?_) (fun hc58 hF => ?_)
        · refine AWP.seq ?_
          obtain ⟨hg59, hF⟩ := guard_some hF
          refine ns ?_
          refine Exists.intro _ (And.intro (we_rows (f := c_S) (lc wl_nil) (we_rows_nil (f := c_S))) ?_)
          refine st ?_
          refine And.intro (by first | exact rows_map _ (fun x => c_S_len x) | exact rows_nil) (And.intro (by first | exact rows_map _ (fun x => c_S_len x) | exact rows_nil) (And.intro (by have h := hg59; simp only [List.length_map, List.length_append, List.length_cons, List.length_nil, Nat.zero_add] at h ⊢; first | exact h | (unfold maxLen; omega) | omega) (And.intro (by have h := hg59; simp only [List.length_map, List.length_append, List.length_cons, List.length_nil, Nat.zero_add] at h ⊢; first | exact h | (unfold maxLen; omega) | omega) (Exists.intro _ (And.intro (WE.refl _) ?_)))))
          rw [← List.map_append]
          refine st ?_
          obtain rfl := some_eq hF
          refine ns ?_
          exact Exists.intro (rn [(32, 0)]) (WS.mk (wt_cons (wd_own rfl (WE.refl _)) wt_nil) wb_nil)
        · refine AWP.seq ?_
          refine ns ?_
          refine nw ?_
          refine branch_hF hF (fun hc60 hF => ?_) (fun hc60 hF => ?_)
          · refine AWP.seq ?_
            obtain ⟨hg61, hF⟩ := guard_some hF
            refine ns ?_
            refine Exists.intro _ (And.intro (we_rows (f := c_S) (lc wl_nil) (we_rows_nil (f := c_S))) ?_)
            refine st ?_
            refine And.intro (by first | exact rows_map _ (fun x => c_S_len x) | exact rows_nil) (And.intro (by first | exact rows_map _ (fun x => c_S_len x) | exact rows_nil) (And.intro (by have h := hg61; simp only [List.length_map, List.length_append, List.length_cons, List.length_nil, Nat.zero_add] at h ⊢; first | exact h | (unfold maxLen; omega) | omega) (And.intro (by have h := hg61; simp only [List.length_map, List.length_append, List.length_cons, List.length_nil, Nat.zero_add] at h ⊢; first | exact h | (unfold maxLen; omega) | omega) (Exists.intro _ (And.intro (WE.refl _) ?_)))))
            rw [← List.map_append]
            refine st ?_
            obtain rfl := some_eq hF
            refine ns ?_
            exact Exists.intro (rn [(37, 0)]) (WS.mk (wt_cons (wd_own rfl (WE.refl _)) wt_nil) wb_nil)
          · refine AWP.seq ?_
            refine ns ?_
            refine nw ?_
            refine branch_hF hF (fun hc62 hF => ?_) (fun hc62 hF => ?_)
            · refine AWP.seq ?_
              refine AWP.seq ?_
              refine ns ?_
              refine nw ?_
              refine branch_hF hF (fun hc65 hF => ?_) (fun hc65 hF => ?_)
              · refine AWP.seq ?_
                obtain ⟨hg66, hF⟩ := guard_some hF
                refine ns ?_
                refine Exists.intro _ (And.intro (we_rows (f := c_S) (lc wl_nil) (we_rows_nil (f := c_S))) ?_)
                refine st ?_
                refine And.intro (by first | exact rows_map _ (fun x => c_S_len x) | exact rows_nil) (And.intro (by first | exact rows_map _ (fun x => c_S_len x) | exact rows_nil) (And.intro (by have h := hg66; simp only [List.length_map, List.length_append, List.length_cons, List.length_nil, Nat.zero_add] at h ⊢; first | exact h | (unfold maxLen; omega) | omega) (And.intro (by have h := hg66; simp only [List.length_map, List.length_append, List.length_cons, List.length_nil, Nat.zero_add] at h ⊢; first | exact h | (unfold maxLen; omega) | omega) (Exists.intro _ (And.intro (WE.refl _) ?_)))))
                rw [← List.map_append]
                refine st ?_
                obtain rfl := some_eq hF
                refine ns ?_
                exact Exists.intro (rn [(45, 0)]) (WS.mk (wt_cons (wd_own rfl (WE.refl _)) wt_nil) wb_nil)
              · refine nw ?_
                refine AWP.seq ?_
                obtain ⟨hg67, hF⟩ := guard_some hF
                refine ns ?_
                refine Exists.intro _ (And.intro (we_rows (f := c_S) (lc wl_nil) (we_rows_nil (f := c_S))) ?_)
                refine st ?_
                refine And.intro (by first | exact rows_map _ (fun x => c_S_len x) | exact rows_nil) (And.intro (by first | exact rows_map _ (fun x => c_S_len x) | exact rows_nil) (And.intro (by have h := hg67; simp only [List.length_map, List.length_append, List.length_cons, List.length_nil, Nat.zero_add] at h ⊢; first | exact h | (unfold maxLen; omega) | omega) (And.intro (by have h := hg67; simp only [List.length_map, List.length_append, List.length_cons, List.length_nil, Nat.zero_add] at h ⊢; first | exact h | (unfold maxLen; omega) | omega) (Exists.intro _ (And.intro (WE.refl _) ?_)))))
                rw [← List.map_append]
                refine st ?_
                refine AWP.seq ?_
                refine AWP.seq ?_
                refine ns ?_
                intro hlen84
                (try rw [List.length_map] at hlen84)
                (try rw [List.length_map])
                refine st ?_
                refine AWP.block ?_
                refine AWP.loop ?_
                refine AWL.weak (rn [(48, 0)]) ?_ (values_words_l1_ok (toArray ++ ([(ByteArray.mk #[33, 123])])) a1_ 0 a1_.fSet.fList _ hF ([]) rfl rfl hlen84)
                exact (WS.mk (wt_cons (wd_own rfl (WE.refl _)) (tc (tc (tc wt_nil)))) wb_nil)
            · refine nw ?_
              refine AWP.seq ?_
              refine AWP.seq ?_
              refine ns ?_
              intro hlen105
              (try rw [List.length_map] at hlen105)
              (try rw [List.length_map])
              refine st ?_
              refine nw ?_
              refine branch_hF hF (fun hc106 hF => ?_) (fun hc106 hF => ?_)
              · refine AWP.seq ?_
                obtain ⟨hg107, hF⟩ := guard_some hF
                refine ns ?_
                refine Exists.intro _ (And.intro (we_rows (f := c_S) (lc wl_nil) (we_rows_nil (f := c_S))) ?_)
                refine st ?_
                refine And.intro (by first | exact rows_map _ (fun x => c_S_len x) | exact rows_nil) (And.intro (by first | exact rows_map _ (fun x => c_S_len x) | exact rows_nil) (And.intro (by have h := hg107; simp only [List.length_map, List.length_append, List.length_cons, List.length_nil, Nat.zero_add] at h ⊢; first | exact h | (unfold maxLen; omega) | omega) (And.intro (by have h := hg107; simp only [List.length_map, List.length_append, List.length_cons, List.length_nil, Nat.zero_add] at h ⊢; first | exact h | (unfold maxLen; omega) | omega) (Exists.intro _ (And.intro (WE.refl _) ?_)))))
                rw [← List.map_append]
                refine st ?_
                obtain rfl := some_eq hF
                refine ns ?_
                exact Exists.intro (rn [(77, 0)]) (WS.mk (wt_cons (wd_own rfl (WE.refl _)) wt_nil) wb_nil)
              · refine nw ?_
                refine AWP.seq ?_
                obtain ⟨hg108, hF⟩ := guard_some hF
                refine ns ?_
                refine Exists.intro _ (And.intro (we_rows (f := c_S) (lc wl_nil) (we_rows (f := c_S) (lc wl_nil) (we_rows_nil (f := c_S)))) ?_)
                refine st ?_
                refine And.intro (by first | exact rows_map _ (fun x => c_S_len x) | exact rows_nil) (And.intro (by first | exact rows_map _ (fun x => c_S_len x) | exact rows_nil) (And.intro (by have h := hg108; simp only [List.length_map, List.length_append, List.length_cons, List.length_nil, Nat.zero_add] at h ⊢; first | exact h | (unfold maxLen; omega) | omega) (And.intro (by have h := hg108; simp only [List.length_map, List.length_append, List.length_cons, List.length_nil, Nat.zero_add] at h ⊢; first | exact h | (unfold maxLen; omega) | omega) (Exists.intro _ (And.intro (WE.refl _) ?_)))))
                rw [← List.map_append]
                refine st ?_
                refine AWP.seq ?_
                refine AWP.seq ?_
                refine ns ?_
                intro hlen122
                (try rw [List.length_map] at hlen122)
                (try rw [List.length_map])
                refine st ?_
                refine AWP.block ?_
                refine AWP.loop ?_
                refine AWL.weak (rn [(82, 0)]) ?_ (ih_values_words_l2 (toArray ++ ([(ByteArray.mk #[40]), a1_.fName])) a1_ 0 a1_.fKids _ hF ([]) rfl rfl hlen122)
                exact (WS.mk (wt_cons (wd_own rfl (WE.refl _)) (tc (tc (tc wt_nil)))) wb_nil)
  · intro values_words' values_words_l2' ih_values_words ih_values_words_l2 toArray_0 a1_ x_86 x_86_s_ r hF
    unfold values_words_l2.M
    intro pre_x_86 hs_x_86 hk_x_86 hlen122
    refine AWL.step ?_
    refine AWP.seq ?_
    refine ns ?_
    refine AWP.seq ?_
    refine nw ?_
    refine branch_list hs_x_86 hk_x_86 (fun x132 xs133 hp134 hx134 hl134 => ?_) (fun hp134 => ?_)
    · subst hp134
      refine nw ?_
      refine AWP.seq ?_
      refine AWP.block ?_
      refine AWP.seq ?_
      refine nn ?_
      refine sr (map_get (f := TValue.cells) (TValue.cells_eq x132) hx134) ?_
      refine st ?_
      obtain ⟨r135, hr135, hF⟩ := bind_some hF
      refine ns ?_
      refine Exists.intro [] ?_
      refine st ?_
      refine cm (CallsX.weak (rn [(0, 0)]) (ih_values_words toArray_0 x132 _ hr135) rfl (WS.mk (wt_cons (wd_own rfl (WE.refl _)) (wt_cons (wd_agg (lc (lc (lc (lc (lc (lc wl_nil))))))) wt_nil)) wb_nil)) ?_
      refine st ?_
      refine ns ?_
      refine AWL.weak (rn [(92, 0)]) ?_ (ih_values_words_l2 r135 a1_ (x_86 + 1) xs133 _ hF (pre_x_86 ++ [x132]) (by rw [hs_x_86]; simp) (by rw [hk_x_86]; simp) hlen122)
      exact (WS.mk (wt_cons (wd_own rfl (WE.refl _)) (tc (tc (wt_cons (wd_c (we_i (wrap_succ hlen122 hl134))) wt_nil)))) wb_nil)
    · subst hp134
      refine nw ?_
      refine AWP.seq ?_
      obtain ⟨hg136, hF⟩ := guard_some hF
      refine ns ?_
      refine Exists.intro _ (And.intro (we_rows (f := c_S) (lc wl_nil) (we_rows_nil (f := c_S))) ?_)
      refine st ?_
      refine And.intro (by first | exact rows_map _ (fun x => c_S_len x) | exact rows_nil) (And.intro (by first | exact rows_map _ (fun x => c_S_len x) | exact rows_nil) (And.intro (by have h := hg136; simp only [List.length_map, List.length_append, List.length_cons, List.length_nil, Nat.zero_add] at h ⊢; first | exact h | (unfold maxLen; omega) | omega) (And.intro (by have h := hg136; simp only [List.length_map, List.length_append, List.length_cons, List.length_nil, Nat.zero_add] at h ⊢; first | exact h | (unfold maxLen; omega) | omega) (Exists.intro _ (And.intro (WE.refl _) ?_)))))
      rw [← List.map_append]
      refine st ?_
      obtain rfl := some_eq hF
      refine ns ?_
      exact Exists.intro (rn [(96, 0)]) (WS.mk (wt_cons (wd_own rfl (WE.refl _)) wt_nil) wb_nil)
theorem values_words_ok : ∀ (toArray : (List ByteArray)) (a1_ : TValue), ∀ r, values_words toArray a1_ = some r → values_words.M toArray a1_ r := values_words_all.1
theorem values_words_l2_ok : ∀ (toArray_0 : (List ByteArray)) (a1_ : TValue) (x_86 : Nat) (x_86_s_ : (List TValue)), ∀ r, values_words_l2 toArray_0 a1_ x_86 x_86_s_ = some r → values_words_l2.M toArray_0 a1_ x_86 x_86_s_ r := values_words_all.2
end Go.Proofs.YtafniolcakiljaaGreatDoor

set_option linter.unusedVariables false
set_option linter.unusedSimpArgs false
set_option maxRecDepth 100000
set_option maxHeartbeats 4000000
namespace Go.Proofs.YtafniolcakiljaaGreatDoor
open Go Go.Am
def values_Print (v : TValue) : Option (ByteArray) :=
  values_Check v >>= fun r3 =>
  if (r3 != 0) = true then
  some (ByteArray.mk #[])
  else
  values_words ([] : List ByteArray) v >>= fun r5 =>
  strings_Join r5 (ByteArray.mk #[32]) >>= fun r6 =>
  some r6
def values_Print.M (v : TValue) (r : ByteArray) : Prop :=
  CallsX Tryz.prog 8 [.agg [.v (.int .i64 v.fOp), .v (.string v.fName), .v (.int .i64 v.fN), .sl (v.fKids.map TValue.cells), .v (.bool v.fSet.fAll), .sl (v.fSet.fList.map TExc.cells)]] [] (fun d b => d = .c none (.v (.string r)) ∧ b = [])
theorem values_Print_ok (v : TValue) (r : ByteArray) (hF : values_Print v = some r) : values_Print.M v r := by
  unfold values_Print at hF
  unfold values_Print.M
  refine enter tabOk Tryz.func8 rfl (by decide) (Nat.le_of_ble_eq_true rfl) rfl rfl rfl ?_
  refine AWP.seq ?_
  refine ns ?_
  refine AWP.seq ?_
  refine AWP.seq ?_
  obtain ⟨r3, hr3, hF⟩ := bind_some hF
  refine ns ?_
  refine Exists.intro [] ?_
  refine st ?_
  refine cm (CallsX.weak (rn []) (values_Check_ok v _ hr3) rfl (WS.mk (wt_cons (wd_agg (lc (lc (lc (lc (lc (lc wl_nil))))))) wt_nil) wb_nil)) ?_
  refine st ?_
  refine nw ?_
  refine branch_hF hF (fun hc4 hF => ?_) (fun hc4 hF => ?_)
  · refine AWP.seq ?_
    refine ns ?_
    obtain rfl := some_eq hF
    refine ns ?_
    exact wx (WS.mk (tc wt_nil) wb_nil)
  · refine nw ?_
    refine AWP.seq ?_
    obtain ⟨r5, hr5, hF⟩ := bind_some hF
    obtain ⟨r6, hr6, hF⟩ := bind_some hF
    refine ns ?_
    refine Exists.intro [] ?_
    refine st ?_
    refine cm (CallsX.weak (rn []) (values_words_ok ([] : List ByteArray) v _ hr5) rfl (WS.mk (wt_cons wd_nil (wt_cons (wd_agg (lc (lc (lc (lc (lc (lc wl_nil))))))) wt_nil)) wb_nil)) ?_
    refine st ?_
    refine Exists.intro [7] ?_
    refine st ?_
    refine cm (CallsX.weak (rn []) (strings_Join_ok r5 (ByteArray.mk #[32]) _ hr6) rfl (WS.mk (tc (tc wt_nil)) wb_nil)) ?_
    refine st ?_
    obtain rfl := some_eq hF
    refine ns ?_
    exact wx (WS.mk (tc wt_nil) wb_nil)
end Go.Proofs.YtafniolcakiljaaGreatDoor

set_option linter.unusedVariables false
set_option linter.unusedSimpArgs false
set_option maxRecDepth 100000
set_option maxHeartbeats 4000000
namespace Go.Proofs.YtafniolcakiljaaGreatDoor
open Go Go.Am
def values_All : Option (TExcSet) :=
  some (TExcSet.mk true ([] : List TExc))
def values_All.M (r : TExcSet) : Prop :=
  CallsX Tryz.prog 28 [] [] (fun d b => d = .agg [.v (.bool r.fAll), .sl (r.fList.map TExc.cells)] ∧ b = [])
theorem values_All_ok (r : TExcSet) (hF : values_All = some r) : values_All.M r := by
  unfold values_All at hF
  unfold values_All.M
  refine enter tabOk Tryz.func28 rfl (by decide) (Nat.le_of_ble_eq_true rfl) rfl rfl rfl ?_
  refine AWP.seq ?_
  refine ns ?_
  refine AWP.seq ?_
  refine ns ?_
  obtain rfl := some_eq hF
  refine ns ?_
  exact wx (WS.mk (wt_cons (wd_agg (lc (wl_cons WE.nil wl_nil))) wt_nil) wb_nil)
end Go.Proofs.YtafniolcakiljaaGreatDoor

set_option linter.unusedVariables false
set_option linter.unusedSimpArgs false
set_option maxRecDepth 100000
set_option maxHeartbeats 4000000
namespace Go.Proofs.YtafniolcakiljaaGreatDoor
open Go Go.Am
def values_reader_next (r_ : Tvalues_reader) : Option (ByteArray × Tvalues_reader) :=
  if (decide (r_.fat ≥ ((r_.fwords.length : Nat) : Int))) = true then
  some ((ByteArray.mk #[]), Tvalues_reader.mk r_.fwords r_.fat true)
  else
  (ixI r_.fwords (IntKind.i64.wrap ((IntKind.i64.wrap (r_.fat + 1)) - 1))) >>= fun x3 =>
  some (x3, Tvalues_reader.mk r_.fwords (IntKind.i64.wrap (r_.fat + 1)) r_.fbad)
def values_reader_next.M (r_ : Tvalues_reader) (r : ByteArray × Tvalues_reader) : Prop :=
  CallsX Tryz.prog 27 [.ptr 1000 0] [(1000, [(none, .sl (r_.fwords.map c_S)), (none, .v (.int .i64 r_.fat)), (none, .v (.bool r_.fbad))])] (fun d b => d = .c none (.v (.string r.1)) ∧ b = [(1000, [(none, .sl (r.2.fwords.map c_S)), (none, .v (.int .i64 r.2.fat)), (none, .v (.bool r.2.fbad))])])
theorem values_reader_next_ok (r_ : Tvalues_reader) (r : ByteArray × Tvalues_reader) (hF : values_reader_next r_ = some r) : values_reader_next.M r_ r := by
  unfold values_reader_next at hF
  unfold values_reader_next.M
  refine enter tabOk Tryz.func27 rfl (by decide) (Nat.le_of_ble_eq_true rfl) rfl rfl rfl ?_
  refine AWP.seq ?_
  refine ns ?_
  refine AWP.seq ?_
  refine AWP.seq ?_
  refine nn ?_
  refine Exists.intro 9 (Exists.intro [[], [], [], [], [], [], [], [], []] (Exists.intro [([3, 4, 5, 6, 7, 8, 9, 10, 11], [], []), ([4, 5, 6, 7, 8, 9, 10, 11], [], []), ([5, 6, 7, 8, 9, 10, 11], [], []), ([6, 7, 8, 9, 10, 11], [], []), ([3, 4, 5, 6, 7, 8, 9, 10, 11], [], []), ([3, 4, 5, 6, 8, 9, 10, 11], [], []), ([3, 4, 5, 6, 9, 10, 11], [], []), ([3, 4, 5, 6, 10, 11], [], []), ([3, 4, 5, 6, 11], [], [])] (Exists.intro [3, 4, 5, 6, 7, 8, 9, 10, 11] (And.intro (by decide +kernel) ?_))))
  refine dp ?_
  refine dp ?_
  refine dp ?_
  refine dp ?_
  refine dp ?_
  refine dp ?_
  refine dp ?_
  refine dp ?_
  ((repeat (first | ((conv => whnf); (with_reducible refine And.intro ?_ ?_); (focus (first | exact Eq.refl _ | exact trivial | exact Int.natCast_nonneg _ | assumption | exact Nat.le_of_ble_eq_true (Eq.refl true) | decide))))); (conv => whnf); apply Exists.intro; apply Exists.intro; apply And.intro; (focus (((repeat (first | ((conv => whnf); (with_reducible refine And.intro ?_ ?_); (focus (first | exact Eq.refl _ | exact trivial | exact Int.natCast_nonneg _ | assumption | exact Nat.le_of_ble_eq_true (Eq.refl true) | decide))))); (conv => whnf)) <;> ((intro hlen0; (try rw [List.length_map]))) <;> ((repeat (first | ((conv => whnf); (with_reducible refine And.intro ?_ ?_); (focus (first | exact Eq.refl _ | exact trivial | exact Int.natCast_nonneg _ | assumption | exact Nat.le_of_ble_eq_true (Eq.refl true) | decide))))); (conv => whnf)) <;> (exact rfl))); apply And.intro; (focus exact rfl); (conv => whnf))
  refine st ?_
  refine nw ?_
  refine branch_hF hF (fun hc2 hF => ?_) (fun hc2 hF => ?_)
  · refine AWP.seq ?_
    refine ns ?_
    refine AWP.seq ?_
    refine ns ?_
    obtain rfl := some_eq hF
    refine ns ?_
    exact wx (WS.mk (tc wt_nil) (wb_cons rfl (cc (cc (cc wc_nil))) wb_nil))
  · refine nw ?_
    refine AWP.seq ?_
    refine ns ?_
    refine AWP.seq ?_
    obtain ⟨x3, hx30, hx3, hF⟩ := ix_some hF
    refine nn ?_
    refine Exists.intro 9 (Exists.intro [[], [], [], [], [], [], [], [], []] (Exists.intro [([23, 24, 25, 26, 27, 28, 29, 30, 31], [], []), ([24, 25, 26, 27, 28, 29, 30, 31], [], []), ([25, 26, 27, 28, 29, 30, 31], [], []), ([26, 27, 28, 29, 30, 31], [], []), ([23, 24, 25, 26, 27, 28, 29, 30, 31], [], []), ([23, 24, 25, 26, 28, 29, 30, 31], [], []), ([23, 24, 25, 26, 29, 30, 31], [], []), ([23, 24, 25, 26, 30, 31], [], []), ([23, 24, 25, 26, 31], [], [])] (Exists.intro [23, 24, 25, 26, 27, 28, 29, 30, 31] (And.intro (by decide +kernel) ?_))))
    refine dp ?_
    refine dp ?_
    refine dp ?_
    refine dp ?_
    refine dp ?_
    refine dp ?_
    refine dp ?_
    refine dp ?_
    refine dp ?_
    refine sr (map_getI (f := c_S) rfl hx3) ?_
    refine st ?_
    obtain rfl := some_eq hF
    refine ns ?_
    exact wx (WS.mk (tc wt_nil) (wb_cons rfl (cc (cc (cc wc_nil))) wb_nil))
end Go.Proofs.YtafniolcakiljaaGreatDoor

set_option linter.unusedVariables false
set_option linter.unusedSimpArgs false
set_option maxRecDepth 100000
set_option maxHeartbeats 4000000
namespace Go.Proofs.YtafniolcakiljaaGreatDoor
open Go Go.Am
def values_reader_number (r_ : Tvalues_reader) (s : ByteArray) : Option (Int × Tvalues_reader) :=
  strconv_Atoi s >>= fun r1 =>
  if r1.2 = true then
  some (r1.1, Tvalues_reader.mk r_.fwords r_.fat true)
  else
  some (r1.1, r_)
def values_reader_number.M (r_ : Tvalues_reader) (s : ByteArray) (r : Int × Tvalues_reader) : Prop :=
  CallsX Tryz.prog 30 [.ptr 1000 0, .c none (.v (.string s))] [(1000, [(none, .sl (r_.fwords.map c_S)), (none, .v (.int .i64 r_.fat)), (none, .v (.bool r_.fbad))])] (fun d b => d = .c none (.v (.int .i64 r.1)) ∧ b = [(1000, [(none, .sl (r.2.fwords.map c_S)), (none, .v (.int .i64 r.2.fat)), (none, .v (.bool r.2.fbad))])])
theorem values_reader_number_ok (r_ : Tvalues_reader) (s : ByteArray) (r : Int × Tvalues_reader) (hF : values_reader_number r_ s = some r) : values_reader_number.M r_ s r := by
  unfold values_reader_number at hF
  unfold values_reader_number.M
  refine enter tabOk Tryz.func30 rfl (by decide) (Nat.le_of_ble_eq_true rfl) rfl rfl rfl ?_
  refine AWP.seq ?_
  refine ns ?_
  refine AWP.seq ?_
  obtain ⟨r1, hr1, hF⟩ := bind_some hF
  refine ns ?_
  refine Exists.intro [] ?_
  refine st ?_
  refine cm (CallsX.weak (rn []) (strconv_Atoi_ok s _ hr1) rfl (WS.mk (tc wt_nil) wb_nil)) ?_
  refine st ?_
  refine AWP.seq ?_
  refine AWP.seq ?_
  refine ns ?_
  refine nw ?_
  refine branch_hF hF (fun hc2 hF => ?_) (fun hc2 hF => ?_)
  · refine ns ?_
    refine AWP.seq ?_
    refine ns ?_
    obtain rfl := some_eq hF
    refine ns ?_
    exact wx (WS.mk (tc wt_nil) (wb_cons rfl (cc (cc (cc wc_nil))) wb_nil))
  · refine nw ?_
    refine AWP.seq ?_
    refine ns ?_
    obtain rfl := some_eq hF
    refine ns ?_
    exact wx (WS.mk (tc wt_nil) (wb_cons rfl (cc (cc (cc wc_nil))) wb_nil))
end Go.Proofs.YtafniolcakiljaaGreatDoor

set_option linter.unusedVariables false
set_option linter.unusedSimpArgs false
set_option maxRecDepth 100000
set_option maxHeartbeats 4000000
namespace Go.Proofs.YtafniolcakiljaaGreatDoor
open Go Go.Am
def values_reader_set_k1 (s_3_1 : (List TExc)) (c_1000_0_s : Tvalues_reader) : Option (TExcSet × Tvalues_reader) :=
  some (TExcSet.mk false s_3_1, c_1000_0_s)
def values_reader_set_k1.M (s_3_1 : (List TExc)) (c_1000_0_s : Tvalues_reader) (r : TExcSet × Tvalues_reader) : Prop :=
  AWP Tryz.prog 26 (Code.sub (bodyOf Tryz.f29) [1, 1, 1]) (Code.cont Tryz.prog 26 (bodyOf Tryz.f29) [1, 1, 1] (endK tab Tryz.f29.results [1000] (WRes (.agg [.v (.bool r.1.fAll), .sl (r.1.fList.map TExc.cells)]) [(1000, [(none, .sl (r.2.fwords.map c_S)), (none, .v (.int .i64 r.2.fat)), (none, .v (.bool r.2.fbad))])]))) ⟨[(2, .ptr 2 0), (3, .ptr 3 0)], [(2, [(none, .v (.bool false)), (none, .nils)]), (3, [(none, .v (.bool false)), ((some (4151, 78)), .sl (s_3_1.map TExc.cells))]), (1000, [(none, .sl (c_1000_0_s.fwords.map c_S)), (none, .v (.int .i64 c_1000_0_s.fat)), (none, .v (.bool c_1000_0_s.fbad))])]⟩
theorem values_reader_set_k1_ok (s_3_1 : (List TExc)) (c_1000_0_s : Tvalues_reader) (r : TExcSet × Tvalues_reader) (hF : values_reader_set_k1 s_3_1 c_1000_0_s = some r) : values_reader_set_k1.M s_3_1 c_1000_0_s r := by
  unfold values_reader_set_k1 at hF
  unfold values_reader_set_k1.M
  refine AWP.seq ?_
  refine ns ?_
  obtain rfl := some_eq hF
  refine ns ?_
  exact wx (WS.mk (wt_cons (wd_agg (lc (lc wl_nil))) wt_nil) (wb_cons rfl (cc (cc (cc wc_nil))) wb_nil))
end Go.Proofs.YtafniolcakiljaaGreatDoor

set_option linter.unusedVariables false
set_option linter.unusedSimpArgs false
set_option maxRecDepth 100000
set_option maxHeartbeats 4000000
namespace Go.Proofs.YtafniolcakiljaaGreatDoor
open Go Go.Am
def values_reader_set_l2 (s_3_1 : (List TExc)) (c_1000_0_s : Tvalues_reader) : Option (TExcSet × Tvalues_reader) :=
  if (!c_1000_0_s.fbad) = true then
  values_reader_next c_1000_0_s >>= fun r43 =>
  if (r43.1.toList == (ByteArray.mk #[125]).toList) = true then
  values_reader_set_k1 s_3_1 r43.2
  else
  values_reader_next r43.2 >>= fun r46 =>
  values_reader_number r46.2 r46.1 >>= fun r47 =>
  guardP ((s_3_1.length + ([(TExc.mk r43.1 r47.1)]).length) * 24 ≤ 140737488355328) >>= fun _ =>
  values_reader_set_l2 (s_3_1 ++ ([(TExc.mk r43.1 r47.1)])) r47.2
  else
  values_reader_set_k1 s_3_1 c_1000_0_s
  partial_fixpoint
def values_reader_set_l2.M (s_3_1 : (List TExc)) (c_1000_0_s : Tvalues_reader) (r : TExcSet × Tvalues_reader) : Prop :=
  AWL Tryz.prog 26 (Code.sub (bodyOf Tryz.f29) [1, 1, 0, 0, 0]) (Code.cont Tryz.prog 26 (bodyOf Tryz.f29) [1, 1, 0, 0] (endK tab Tryz.f29.results [1000] (WRes (.agg [.v (.bool r.1.fAll), .sl (r.1.fList.map TExc.cells)]) [(1000, [(none, .sl (r.2.fwords.map c_S)), (none, .v (.int .i64 r.2.fat)), (none, .v (.bool r.2.fbad))])]))) ⟨[(0, .ptr 1000 0), (2, .ptr 2 0), (3, .ptr 3 0)], [(2, [(none, .v (.bool false)), (none, .nils)]), (3, [(none, .v (.bool false)), ((some (4151, 78)), .sl (s_3_1.map TExc.cells))]), (1000, [(none, .sl (c_1000_0_s.fwords.map c_S)), (none, .v (.int .i64 c_1000_0_s.fat)), (none, .v (.bool c_1000_0_s.fbad))])]⟩
theorem values_reader_set_l2_ok (s_3_1 : (List TExc)) (c_1000_0_s : Tvalues_reader) : ∀ r, values_reader_set_l2 s_3_1 c_1000_0_s = some r → values_reader_set_l2.M s_3_1 c_1000_0_s r := by
  refine values_reader_set_l2.partial_correctness (fun s_3_1 c_1000_0_s r => values_reader_set_l2.M s_3_1 c_1000_0_s r) ?_ s_3_1 c_1000_0_s
  intro values_reader_set_l2' ih0_values_reader_set_l2 s_3_1 c_1000_0_s r hF
  have ih_values_reader_set_l2 := fun (s_3_1 : (List TExc)) (c_1000_0_s : Tvalues_reader) => ih0_values_reader_set_l2 s_3_1 c_1000_0_s
  clear ih0_values_reader_set_l2
  unfold values_reader_set_l2.M
  refine AWL.step ?_
  refine AWP.seq ?_
  refine AWP.seq ?_
  refine ns ?_
  refine nw ?_
  refine branch_hF hF (fun hc42 hF => ?_) (fun hc42 hF => ?_)
  · refine nw ?_
    refine AWP.block ?_
    refine AWP.seq ?_
    obtain ⟨r43, hr43, hF⟩ := bind_some hF
    refine ns ?_
    refine Exists.intro [] ?_
    refine st ?_
    refine cm (CallsX.weak (rn []) (values_reader_next_ok c_1000_0_s _ hr43) rfl (WS.mk (tp wt_nil) (wb_cons rfl (cc (cc (cc wc_nil))) wb_nil))) ?_
    refine st ?_
    refine AWP.seq ?_
    refine AWP.seq ?_
    refine ns ?_
    refine nw ?_
    refine branch_hF hF (fun hc45 hF => ?_) (fun hc45 hF => ?_)
    · refine nw ?_
      refine AWP.weak (rn [(4151, 4151)]) ?_ (values_reader_set_k1_ok s_3_1 r43.2 _ hF)
      exact (WS.mk (tp (tp wt_nil)) (wb_cons rfl (cc (cc wc_nil)) (wb_cons rfl (cc (wc_own rfl (WE.refl _) wc_nil)) (wb_cons rfl (cc (cc (cc wc_nil))) wb_nil))))
    · refine nw ?_
      obtain ⟨r46, hr46, hF⟩ := bind_some hF
      obtain ⟨r47, hr47, hF⟩ := bind_some hF
      obtain ⟨hg48, hF⟩ := guard_some hF
      refine nn ?_
      refine Exists.intro 9 (Exists.intro [[], [], [], [], [], [1000], [1000], [], []] (Exists.intro [([14, 15, 16, 17, 18, 19, 20, 21, 22], [1000, 1000], []), ([15, 16, 17, 18, 19, 20, 21, 22], [1000, 1000], []), ([14, 15, 16, 17, 18, 19, 20, 21, 22], [1000, 1000], []), ([14, 15, 16, 17, 18, 19, 20, 21, 22], [1000], []), ([14, 15, 16, 17, 18, 19, 20, 21, 22], [], []), ([14, 15, 16, 17, 19, 20, 21, 22], [], [1000]), ([14, 15, 16, 20, 21, 22], [], [1000]), ([14, 15, 21, 22], [], []), ([14, 15, 22], [], [])] (Exists.intro [14, 15, 16, 17, 18, 19, 20, 21, 22] (And.intro (by decide +kernel) ?_))))
      refine dp ?_
      refine dp ?_
      refine dp ?_
      refine dp ?_
      refine dp ?_
      ((repeat (first | ((conv => whnf); (with_reducible refine And.intro ?_ ?_); (focus (first | exact Eq.refl _ | exact trivial | exact Int.natCast_nonneg _ | assumption | exact Nat.le_of_ble_eq_true (Eq.refl true) | decide))))); (conv => whnf); apply Exists.intro; apply Exists.intro; apply And.intro; (focus ((conv => whnf); refine And.intro rfl ?_; (conv => whnf); refine CallsX.mono (CallsX.weak (rn []) (values_reader_next_ok r43.2 _ hr46) rfl (WS.mk (tp wt_nil) (wb_cons rfl (cc (cc (cc wc_nil))) wb_nil))) ?_; rintro d b ⟨rfl, rfl⟩; exact And.intro rfl rfl)); apply And.intro; (focus exact rfl); (conv => whnf))
      ((repeat (first | ((conv => whnf); (with_reducible refine And.intro ?_ ?_); (focus (first | exact Eq.refl _ | exact trivial | exact Int.natCast_nonneg _ | assumption | exact Nat.le_of_ble_eq_true (Eq.refl true) | decide))))); (conv => whnf); apply Exists.intro; apply Exists.intro; apply And.intro; (focus ((conv => whnf); refine And.intro rfl ?_; (conv => whnf); refine CallsX.mono (CallsX.weak (rn []) (values_reader_number_ok r46.2 r46.1 _ hr47) rfl (WS.mk (tp (tc wt_nil)) (wb_cons rfl (cc (cc (cc wc_nil))) wb_nil))) ?_; rintro d b ⟨rfl, rfl⟩; exact And.intro rfl rfl)); apply And.intro; (focus exact rfl); (conv => whnf))
      refine dp ?_
      ((repeat (first | ((conv => whnf); (with_reducible refine And.intro ?_ ?_); (focus (first | exact Eq.refl _ | exact trivial | exact Int.natCast_nonneg _ | assumption | exact Nat.le_of_ble_eq_true (Eq.refl true) | decide))))); (conv => whnf); apply Exists.intro; apply Exists.intro; apply And.intro; (focus (((repeat (first | ((conv => whnf); (with_reducible refine And.intro ?_ ?_); (focus (first | exact Eq.refl _ | exact trivial | exact Int.natCast_nonneg _ | assumption | exact Nat.le_of_ble_eq_true (Eq.refl true) | decide))))); (conv => whnf)) <;> (refine Exists.intro _ (And.intro (we_rows (f := TExc.cells) (wl_eq (TExc.cells_eq (TExc.mk r43.1 r47.1)) (lc (lc wl_nil))) (we_rows_nil (f := TExc.cells))) ?_)) <;> ((repeat (first | ((conv => whnf); (with_reducible refine And.intro ?_ ?_); (focus (first | exact Eq.refl _ | exact trivial | exact Int.natCast_nonneg _ | assumption | exact Nat.le_of_ble_eq_true (Eq.refl true) | decide))))); (conv => whnf)) <;> (exact rfl))); apply And.intro; (focus exact rfl); (conv => whnf))
      refine st ?_
      refine And.intro (by first | exact rows_map _ (fun x => TExc.cells_len x) | exact rows_nil) (And.intro (by first | exact rows_map _ (fun x => TExc.cells_len x) | exact rows_nil) (And.intro (by have h := hg48; simp only [List.length_map, List.length_append, List.length_cons, List.length_nil, Nat.zero_add] at h ⊢; first | exact h | (unfold maxLen; omega) | omega) (And.intro (by have h := hg48; simp only [List.length_map, List.length_append, List.length_cons, List.length_nil, Nat.zero_add] at h ⊢; first | exact h | (unfold maxLen; omega) | omega) (Exists.intro _ (And.intro (WE.refl _) ?_)))))
      rw [← List.map_append]
      refine st ?_
      refine AWL.weak (rn [(23, 4151)]) ?_ (ih_values_reader_set_l2 (s_3_1 ++ ([(TExc.mk r43.1 r47.1)])) r47.2 _ hF)
      exact (WS.mk (tp (tp (tp wt_nil))) (wb_cons rfl (cc (cc wc_nil)) (wb_cons rfl (cc (wc_own rfl (WE.refl _) wc_nil)) (wb_cons rfl (cc (cc (cc wc_nil))) wb_nil))))
  · refine nw ?_
    refine AWP.weak (rn [(4151, 4151)]) ?_ (values_reader_set_k1_ok s_3_1 c_1000_0_s _ hF)
    exact (WS.mk (tp (tp wt_nil)) (wb_cons rfl (cc (cc wc_nil)) (wb_cons rfl (cc (wc_own rfl (WE.refl _) wc_nil)) (wb_cons rfl (cc (cc (cc wc_nil))) wb_nil))))
end Go.Proofs.YtafniolcakiljaaGreatDoor

set_option linter.unusedVariables false
set_option linter.unusedSimpArgs false
set_option maxRecDepth 100000
set_option maxHeartbeats 4000000
namespace Go.Proofs.YtafniolcakiljaaGreatDoor
open Go Go.Am
def values_reader_set (r_ : Tvalues_reader) : Option (TExcSet × Tvalues_reader) :=
  values_reader_set_l2 ([]) r_
def values_reader_set.M (r_ : Tvalues_reader) (r : TExcSet × Tvalues_reader) : Prop :=
  CallsX Tryz.prog 29 [.ptr 1000 0] [(1000, [(none, .sl (r_.fwords.map c_S)), (none, .v (.int .i64 r_.fat)), (none, .v (.bool r_.fbad))])] (fun d b => d = .agg [.v (.bool r.1.fAll), .sl (r.1.fList.map TExc.cells)] ∧ b = [(1000, [(none, .sl (r.2.fwords.map c_S)), (none, .v (.int .i64 r.2.fat)), (none, .v (.bool r.2.fbad))])])
theorem values_reader_set_ok (r_ : Tvalues_reader) (r : TExcSet × Tvalues_reader) (hF : values_reader_set r_ = some r) : values_reader_set.M r_ r := by
  unfold values_reader_set at hF
  unfold values_reader_set.M
  refine enter tabOk Tryz.func29 rfl (by decide) (Nat.le_of_ble_eq_true rfl) rfl rfl rfl ?_
  refine AWP.seq ?_
  refine ns ?_
  refine AWP.seq ?_
  refine ns ?_
  refine AWP.seq ?_
  refine AWP.block ?_
  refine AWP.loop ?_
  refine AWL.weak (rn []) ?_ (values_reader_set_l2_ok ([]) r_ _ hF)
  exact (WS.mk (tp (tp (tp wt_nil))) (wb_cons rfl (cc (cc wc_nil)) (wb_cons rfl (cc (wc_nilown wc_nil)) (wb_cons rfl (cc (cc (cc wc_nil))) wb_nil))))
end Go.Proofs.YtafniolcakiljaaGreatDoor

set_option linter.unusedVariables false
set_option linter.unusedSimpArgs false
set_option maxRecDepth 100000
set_option maxHeartbeats 4000000
namespace Go.Proofs.YtafniolcakiljaaGreatDoor
open Go Go.Am
mutual
def values_reader_value (toArray : Tvalues_reader) (a1_ : Int) : Option (TValue × Tvalues_reader) :=
  values_reader_next toArray >>= fun r1 =>
  if ((r1.2.fbad || (r1.1.toList == (ByteArray.mk #[]).toList)) || (decide (a1_ > 1000))) = true then
  some (TValue.mk 0 (ByteArray.mk #[]) 0 ([] : List TValue) (TExcSet.mk false ([] : List TExc)), Tvalues_reader.mk r1.2.fwords r1.2.fat true)
  else
  if (r1.1.toList == (ByteArray.mk #[60, 102, 117, 110, 62]).toList) = true then
  some (TValue.mk 4 (ByteArray.mk #[]) 0 ([] : List TValue) (TExcSet.mk false ([] : List TExc)), r1.2)
  else
  if (r1.1.toList == (ByteArray.mk #[63]).toList) = true then
  some (TValue.mk 6 (ByteArray.mk #[]) 0 ([] : List TValue) (TExcSet.mk false ([] : List TExc)), r1.2)
  else
  if (r1.1.toList == (ByteArray.mk #[33, 42]).toList) = true then
  values_All >>= fun r66 =>
  some (TValue.mk 5 (ByteArray.mk #[]) 0 ([] : List TValue) r66, r1.2)
  else
  if (r1.1.toList == (ByteArray.mk #[33, 123]).toList) = true then
  values_reader_set r1.2 >>= fun r68 =>
  some (TValue.mk 5 (ByteArray.mk #[]) 0 ([] : List TValue) r68.1, r68.2)
  else
  if (r1.1.toList == (ByteArray.mk #[40]).toList) = true then
  values_reader_next r1.2 >>= fun r70 =>
  values_reader_value_l1 a1_ r70 ([]) r70.2
  else
  (btI r1.1 0) >>= fun y126 =>
  if (((y126.toNat : Nat) : Int) == 35) = true then
  (slS r1.1 1 ((r1.1.size : Nat) : Int)) >>= fun z128 =>
  values_reader_number r1.2 z128 >>= fun r129 =>
  some (TValue.mk 2 (ByteArray.mk #[]) r129.1 ([] : List TValue) (TExcSet.mk false ([] : List TExc)), r129.2)
  else
  (btI r1.1 0) >>= fun y137 =>
  (if (((y137.toNat : Nat) : Int) == 45) = true then some true else (btI r1.1 0) >>= fun y138 =>
  (if (decide (((y138.toNat : Nat) : Int) ≥ 48)) = true then (btI r1.1 0) >>= fun y139 =>
  some (decide (((y139.toNat : Nat) : Int) ≤ 57)) else some false) >>= fun c140 =>
  some c140) >>= fun c141 =>
  if c141 = true then
  values_reader_number r1.2 r1.1 >>= fun r145 =>
  some (TValue.mk 1 (ByteArray.mk #[]) r145.1 ([] : List TValue) (TExcSet.mk false ([] : List TExc)), r145.2)
  else
  some (TValue.mk 3 r1.1 0 ([] : List TValue) (TExcSet.mk false ([] : List TExc)), r1.2)
  partial_fixpoint
def values_reader_value_l1 (a1_ : Int) (r70 : (ByteArray × Tvalues_reader)) (c_6_3 : (List TValue)) (c_1000_0_s : Tvalues_reader) : Option (TValue × Tvalues_reader) :=
  (if ((!c_1000_0_s.fbad) && (decide (c_1000_0_s.fat < ((c_1000_0_s.fwords.length : Nat) : Int)))) = true then (ixI c_1000_0_s.fwords c_1000_0_s.fat) >>= fun x114 =>
  some (!(x114.toList == (ByteArray.mk #[41]).toList)) else some false) >>= fun c115 =>
  if c115 = true then
  values_reader_value c_1000_0_s (IntKind.i64.wrap (a1_ + 1)) >>= fun r119 =>
  guardP ((c_6_3.length + ([r119.1]).length) * 88 ≤ 140737488355328) >>= fun _ =>
  values_reader_value_l1 a1_ r70 (c_6_3 ++ ([r119.1])) r119.2
  else
  values_reader_next c_1000_0_s >>= fun r121 =>
  some (TValue.mk 3 r70.1 0 c_6_3 (TExcSet.mk false ([] : List TExc)), r121.2)
  partial_fixpoint
end
def values_reader_value.M (toArray : Tvalues_reader) (a1_ : Int) (r : TValue × Tvalues_reader) : Prop :=
  CallsX Tryz.prog 15 [.ptr 1000 0, .c none (.v (.int .i64 a1_))] [(1000, [(none, .sl (toArray.fwords.map c_S)), (none, .v (.int .i64 toArray.fat)), (none, .v (.bool toArray.fbad))])] (fun d b => d = .agg [.v (.int .i64 r.1.fOp), .v (.string r.1.fName), .v (.int .i64 r.1.fN), .sl (r.1.fKids.map TValue.cells), .v (.bool r.1.fSet.fAll), .sl (r.1.fSet.fList.map TExc.cells)] ∧ b = [(1000, [(none, .sl (r.2.fwords.map c_S)), (none, .v (.int .i64 r.2.fat)), (none, .v (.bool r.2.fbad))])])
def values_reader_value_l1.M (a1_ : Int) (r70 : (ByteArray × Tvalues_reader)) (c_6_3 : (List TValue)) (c_1000_0_s : Tvalues_reader) (r : TValue × Tvalues_reader) : Prop :=
  AWL Tryz.prog 115 (Code.sub (bodyOf Tryz.f15) [1, 1, 1, 0, 1, 0, 1, 1, 1, 1, 1, 1, 1, 1, 1, 0, 1, 0, 0, 0]) (Code.cont Tryz.prog 115 (bodyOf Tryz.f15) [1, 1, 1, 0, 1, 0, 1, 1, 1, 1, 1, 1, 1, 1, 1, 0, 1, 0, 0] (endK tab Tryz.f15.results [1000] (WRes (.agg [.v (.int .i64 r.1.fOp), .v (.string r.1.fName), .v (.int .i64 r.1.fN), .sl (r.1.fKids.map TValue.cells), .v (.bool r.1.fSet.fAll), .sl (r.1.fSet.fList.map TExc.cells)]) [(1000, [(none, .sl (r.2.fwords.map c_S)), (none, .v (.int .i64 r.2.fat)), (none, .v (.bool r.2.fbad))])]))) ⟨[(0, .ptr 1000 0), (1, .c none (.v (.int .i64 a1_))), (4, .ptr 4 0), (6, .ptr 6 0)], [(4, [(none, .v (.int .i64 0)), (none, .v (.string (ByteArray.mk #[]))), (none, .v (.int .i64 0)), (none, .nils), (none, .v (.bool false)), (none, .nils)]), (6, [(none, .v (.int .i64 3)), (none, .v (.string r70.1)), (none, .v (.int .i64 0)), ((some (4303, 28)), .sl (c_6_3.map TValue.cells)), (none, .v (.bool false)), (none, .nils)]), (1000, [(none, .sl (c_1000_0_s.fwords.map c_S)), (none, .v (.int .i64 c_1000_0_s.fat)), (none, .v (.bool c_1000_0_s.fbad))])]⟩
theorem values_reader_value_all : (∀ (toArray : Tvalues_reader) (a1_ : Int), ∀ r, values_reader_value toArray a1_ = some r → values_reader_value.M toArray a1_ r) ∧ (∀ (a1_ : Int) (r70 : (ByteArray × Tvalues_reader)) (c_6_3 : (List TValue)) (c_1000_0_s : Tvalues_reader), ∀ r, values_reader_value_l1 a1_ r70 c_6_3 c_1000_0_s = some r → values_reader_value_l1.M a1_ r70 c_6_3 c_1000_0_s r) := by
  refine values_reader_value.mutual_partial_correctness values_reader_value.M values_reader_value_l1.M ?_ ?_
  · intro values_reader_value_l1' ih_values_reader_value_l1 toArray a1_ r hF
    unfold values_reader_value.M
    refine enter tabOk Tryz.func15 rfl (by decide) (Nat.le_of_ble_eq_true rfl) rfl rfl rfl ?_
    refine AWP.seq ?_
    refine ns ?_
    refine AWP.seq ?_
    obtain ⟨r1, hr1, hF⟩ := bind_some hF
    refine ns ?_
    refine Exists.intro [] ?_
    refine st ?_
    refine cm (CallsX.weak (rn []) (values_reader_next_ok toArray _ hr1) rfl (WS.mk (tp wt_nil) (wb_cons rfl (cc (cc (cc wc_nil))) wb_nil))) ?_
    refine st ?_
    refine AWP.seq ?_
    refine AWP.seq ?_
    refine AWP.cutN (fun T => ∃ r, WS r T ⟨[(0, .ptr 1000 0), (1, .c none (.v (.int .i64 a1_))), (4, .ptr 4 0), (5, .c none (.v (.string r1.1))), (20, .c none (.v (.bool ((r1.2.fbad || (r1.1.toList == (ByteArray.mk #[]).toList)) || (decide (a1_ > 1000))))))], [(4, [(none, .v (.int .i64 0)), (none, .v (.string (ByteArray.mk #[]))), (none, .v (.int .i64 0)), (none, .nils), (none, .v (.bool false)), (none, .nils)]), (1000, [(none, .sl (r1.2.fwords.map c_S)), (none, .v (.int .i64 r1.2.fat)), (none, .v (.bool r1.2.fbad))])]⟩) ?_ (fun T hw => ?_)
    · refine ns ?_
      refine branchG_intro false (fun hc3 => ?_) (fun hc3 => ?_)
      · (conv => whnf)
        refine st ?_
        exact wx (WS.mk (tp (tc (tp (tc (wt_cons (wd_c (web hc3)) wt_nil))))) (wb_cons rfl (cc (cc (cc (cc (cc (cc wc_nil)))))) (wb_cons rfl (cc (cc (cc wc_nil))) wb_nil)))
      · (conv => whnf)
        refine st ?_
        refine branchG_intro false (fun hc4 => ?_) (fun hc4 => ?_)
        · (conv => whnf)
          refine st ?_
          exact wx (WS.mk (tp (tc (tp (tc (wt_cons (wd_c (web (And.intro hc3 hc4))) wt_nil))))) (wb_cons rfl (cc (cc (cc (cc (cc (cc wc_nil)))))) (wb_cons rfl (cc (cc (cc wc_nil))) wb_nil)))
        · (conv => whnf)
          refine st ?_
          exact wx (WS.mk (tp (tc (tp (tc (wt_cons (wd_c (web (And.intro hc3 hc4))) wt_nil))))) (wb_cons rfl (cc (cc (cc (cc (cc (cc wc_nil)))))) (wb_cons rfl (cc (cc (cc wc_nil))) wb_nil)))
    obtain ⟨r0, hw⟩ := hw
    (conv => whnf)
    refine AWP.weak r0 hw ?_
    refine nw ?_
    refine branch_hF hF (fun hc5 hF => ?_) (fun hc5 hF => ?_)
    · refine AWP.seq ?_
      refine ns ?_
      refine AWP.seq ?_
      refine ns ?_
      obtain rfl := some_eq hF
      refine ns ?_
      exact wx (WS.mk (wt_cons (wd_agg (lc (lc (lc (wl_cons WE.nil (lc (wl_cons WE.nil wl_nil))))))) wt_nil) (wb_cons rfl (cc (cc (cc wc_nil))) wb_nil))
    · refine nw ?_
      refine AWP.seq ?_
      refine AWP.seq ?_
      refine ns ?_
      refine AWP.block ?_
      refine AWP.seq ?_
      refine ns ?_
      refine nw ?_
      refine branch_hF hF (fun hc63 hF => ?_) (fun hc63 hF => ?_)
      · refine AWP.seq ?_
        refine ns ?_
        obtain rfl := some_eq hF
        refine ns ?_
        exact wx (WS.mk (wt_cons (wd_agg (lc (lc (lc (wl_cons WE.nil (lc (wl_cons WE.nil wl_nil))))))) wt_nil) (wb_cons rfl (cc (cc (cc wc_nil))) wb_nil))
      · refine AWP.seq ?_
        refine ns ?_
        refine nw ?_
        refine branch_hF hF (fun hc64 hF => ?_) (fun hc64 hF => ?_)
        · refine AWP.seq ?_
          refine ns ?_
          obtain rfl := some_eq hF
          refine ns ?_
          exact wx (WS.mk (wt_cons (wd_agg (lc (lc (lc (wl_cons WE.nil (lc (wl_cons WE.nil wl_nil))))))) wt_nil) (wb_cons rfl (cc (cc (cc wc_nil))) wb_nil))
        · refine AWP.seq ?_
          refine ns ?_
          refine nw ?_
          refine branch_hF hF (fun hc65 hF => ?_) (fun hc65 hF => ?_)
          · refine AWP.seq ?_
            obtain ⟨r66, hr66, hF⟩ := bind_some hF
            refine ns ?_
            refine Exists.intro [] ?_
            refine st ?_
            refine cm (CallsX.weak (rn []) (values_All_ok _ hr66) rfl (WS.mk wt_nil wb_nil)) ?_
            refine st ?_
            obtain rfl := some_eq hF
            refine ns ?_
            exact wx (WS.mk (wt_cons (wd_agg (lc (lc (lc (wl_cons WE.nil (lc (lc wl_nil))))))) wt_nil) (wb_cons rfl (cc (cc (cc wc_nil))) wb_nil))
          · refine AWP.seq ?_
            refine ns ?_
            refine nw ?_
            refine branch_hF hF (fun hc67 hF => ?_) (fun hc67 hF => ?_)
            · refine AWP.seq ?_
              obtain ⟨r68, hr68, hF⟩ := bind_some hF
              refine ns ?_
              refine Exists.intro [] ?_
              refine st ?_
              refine cm (CallsX.weak (rn []) (values_reader_set_ok r1.2 _ hr68) rfl (WS.mk (tp wt_nil) (wb_cons rfl (cc (cc (cc wc_nil))) wb_nil))) ?_
              refine st ?_
              obtain rfl := some_eq hF
              refine ns ?_
              exact wx (WS.mk (wt_cons (wd_agg (lc (lc (lc (wl_cons WE.nil (lc (lc wl_nil))))))) wt_nil) (wb_cons rfl (cc (cc (cc wc_nil))) wb_nil))
            · refine AWP.seq ?_
              refine ns ?_
              refine nw ?_
              refine branch_hF hF (fun hc69 hF => ?_) (fun hc69 hF => ?_)
              · refine AWP.seq ?_
                obtain ⟨r70, hr70, hF⟩ := bind_some hF
                refine ns ?_
                refine Exists.intro [] ?_
                refine st ?_
                refine cm (CallsX.weak (rn []) (values_reader_next_ok r1.2 _ hr70) rfl (WS.mk (tp wt_nil) (wb_cons rfl (cc (cc (cc wc_nil))) wb_nil))) ?_
                refine st ?_
                refine AWP.seq ?_
                refine AWP.block ?_
                refine AWP.loop ?_
                refine AWL.weak (rn []) ?_ (ih_values_reader_value_l1 a1_ r70 ([]) r70.2 _ hF)
                exact (WS.mk (tp (tc (tp (tp wt_nil)))) (wb_cons rfl (cc (cc (cc (cc (cc (cc wc_nil)))))) (wb_cons rfl (cc (cc (cc (wc_nilown (cc (cc wc_nil)))))) (wb_cons rfl (cc (cc (cc wc_nil))) wb_nil))))
              · refine nw ?_
                refine AWP.seq ?_
                refine AWP.seq ?_
                obtain ⟨y126, hy1260, hy126, hF⟩ := bt_some hF
                refine nn ?_
                refine sr hy126 ?_
                refine st ?_
                refine nw ?_
                refine branch_hF hF (fun hc127 hF => ?_) (fun hc127 hF => ?_)
                · refine AWP.seq ?_
                  obtain ⟨z128, hz1281, hz1282, hz1283, hz128, hF⟩ := slS_some hF
                  obtain ⟨r129, hr129, hF⟩ := bind_some hF
                  refine ns ?_
                  rw [← hz128]
                  refine st ?_
                  refine Exists.intro [] ?_
                  refine st ?_
                  refine cm (CallsX.weak (rn []) (values_reader_number_ok r1.2 z128 _ hr129) rfl (WS.mk (tp (tc wt_nil)) (wb_cons rfl (cc (cc (cc wc_nil))) wb_nil))) ?_
                  refine st ?_
                  obtain rfl := some_eq hF
                  refine ns ?_
                  exact wx (WS.mk (wt_cons (wd_agg (lc (lc (lc (wl_cons WE.nil (lc (wl_cons WE.nil wl_nil))))))) wt_nil) (wb_cons rfl (cc (cc (cc wc_nil))) wb_nil))
                · refine nw ?_
                  refine AWP.seq ?_
                  refine AWP.seq ?_
                  obtain ⟨y137, hy1370, hy137, hF⟩ := bt_some hF
                  obtain ⟨c141, hc141, hF⟩ := bind_some hF
                  refine AWP.cutN (fun T => ∃ r, WS r T ⟨[(0, .ptr 1000 0), (4, .ptr 4 0), (5, .c none (.v (.string r1.1))), (108, .c none (.v (.bool c141)))], [(4, [(none, .v (.int .i64 0)), (none, .v (.string (ByteArray.mk #[]))), (none, .v (.int .i64 0)), (none, .nils), (none, .v (.bool false)), (none, .nils)]), (1000, [(none, .sl (r1.2.fwords.map c_S)), (none, .v (.int .i64 r1.2.fat)), (none, .v (.bool r1.2.fbad))])]⟩) ?_ (fun T hw => ?_)
                  · refine nn ?_
                    refine sr hy137 ?_
                    refine st ?_
                    refine branchG_intro false (fun hc142 => ?_) (fun hc142 => ?_)
                    · have hc141 := ift hc142 hc141
                      (conv => whnf)
                      obtain rfl := some_eq hc141
                      refine st ?_
                      exact wx (WS.mk (tp (tp (tc (wt_cons (wd_c (web hc142)) wt_nil)))) (wb_cons rfl (cc (cc (cc (cc (cc (cc wc_nil)))))) (wb_cons rfl (cc (cc (cc wc_nil))) wb_nil)))
                    · have hc141 := ife hc142 hc141
                      obtain ⟨y138, hy1380, hy138, hc141⟩ := bt_some hc141
                      obtain ⟨c140, hc140, hc141⟩ := bind_some hc141
                      (conv => whnf)
                      refine sr hy138 ?_
                      refine st ?_
                      refine branchG_intro true (fun hc143 => ?_) (fun hc143 => ?_)
                      · have hc140 := ift (And.intro hc142 hc143) hc140
                        obtain ⟨y139, hy1390, hy139, hc140⟩ := bt_some hc140
                        (conv => whnf)
                        refine sr hy139 ?_
                        obtain rfl := some_eq hc140
                        obtain rfl := some_eq hc141
                        refine st ?_
                        exact wx (WS.mk (tp (tp (tc (wt_cons (wd_c (web (And.intro hc142 hc143))) wt_nil)))) (wb_cons rfl (cc (cc (cc (cc (cc (cc wc_nil)))))) (wb_cons rfl (cc (cc (cc wc_nil))) wb_nil)))
                      · have hc140 := ife (And.intro hc142 hc143) hc140
                        (conv => whnf)
                        obtain rfl := some_eq hc140
                        obtain rfl := some_eq hc141
                        refine st ?_
                        exact wx (WS.mk (tp (tp (tc (wt_cons (wd_c (web (And.intro hc142 hc143))) wt_nil)))) (wb_cons rfl (cc (cc (cc (cc (cc (cc wc_nil)))))) (wb_cons rfl (cc (cc (cc wc_nil))) wb_nil)))
                  obtain ⟨r0, hw⟩ := hw
                  (conv => whnf)
                  refine AWP.weak r0 hw ?_
                  refine nw ?_
                  refine branch_hF hF (fun hc144 hF => ?_) (fun hc144 hF => ?_)
                  · refine AWP.seq ?_
                    obtain ⟨r145, hr145, hF⟩ := bind_some hF
                    refine ns ?_
                    refine Exists.intro [] ?_
                    refine st ?_
                    refine cm (CallsX.weak (rn []) (values_reader_number_ok r1.2 r1.1 _ hr145) rfl (WS.mk (tp (tc wt_nil)) (wb_cons rfl (cc (cc (cc wc_nil))) wb_nil))) ?_
                    refine st ?_
                    obtain rfl := some_eq hF
                    refine ns ?_
                    exact wx (WS.mk (wt_cons (wd_agg (lc (lc (lc (wl_cons WE.nil (lc (wl_cons WE.nil wl_nil))))))) wt_nil) (wb_cons rfl (cc (cc (cc wc_nil))) wb_nil))
                  · refine nw ?_
                    refine AWP.seq ?_
                    refine ns ?_
                    obtain rfl := some_eq hF
                    refine ns ?_
                    exact wx (WS.mk (wt_cons (wd_agg (lc (lc (lc (wl_cons WE.nil (lc (wl_cons WE.nil wl_nil))))))) wt_nil) (wb_cons rfl (cc (cc (cc wc_nil))) wb_nil))
  · intro values_reader_value' values_reader_value_l1' ih_values_reader_value ih_values_reader_value_l1 a1_ r70 c_6_3 c_1000_0_s r hF
    unfold values_reader_value_l1.M
    refine AWL.step ?_
    refine AWP.seq ?_
    refine AWP.seq ?_
    obtain ⟨c115, hc115, hF⟩ := bind_some hF
    refine AWP.cutN (fun T => ∃ r, WS r T ⟨[(0, .ptr 1000 0), (1, .c none (.v (.int .i64 a1_))), (4, .ptr 4 0), (6, .ptr 6 0), (75, .c none (.v (.bool c115)))], [(4, [(none, .v (.int .i64 0)), (none, .v (.string (ByteArray.mk #[]))), (none, .v (.int .i64 0)), (none, .nils), (none, .v (.bool false)), (none, .nils)]), (6, [(none, .v (.int .i64 3)), (none, .v (.string r70.1)), (none, .v (.int .i64 0)), ((some (4303, 28)), .sl (c_6_3.map TValue.cells)), (none, .v (.bool false)), (none, .nils)]), (1000, [(none, .sl (c_1000_0_s.fwords.map c_S)), (none, .v (.int .i64 c_1000_0_s.fat)), (none, .v (.bool c_1000_0_s.fbad))])]⟩) ?_ (fun T hw => ?_)
    · refine nn ?_
      refine Exists.intro 26 (Exists.intro [[], [], [], [], [], [], [], [], [], [], [], [], [], [], [], [], [], [], [], [], [], [], [], [], [], []] (Exists.intro [([46, 47, 48, 49, 50, 51, 52, 53, 54, 55, 56, 57, 58, 59, 60, 61, 62, 63, 64, 65, 66, 67, 68, 69, 70, 71], [], []), ([47, 48, 49, 50, 51, 52, 53, 54, 55, 56, 57, 58, 59, 60, 61, 62, 63, 64, 65, 66, 67, 68, 69, 70, 71], [], []), ([48, 49, 50, 51, 52, 53, 54, 55, 56, 57, 58, 59, 60, 61, 62, 63, 64, 65, 66, 67, 68, 69, 70, 71], [], []), ([49, 50, 51, 52, 53, 54, 55, 56, 57, 58, 59, 60, 61, 62, 63, 64, 65, 66, 67, 68, 69, 70, 71], [], []), ([50, 51, 52, 53, 54, 55, 56, 57, 58, 59, 60, 61, 62, 63, 64, 65, 66, 67, 68, 69, 70, 71], [], []), ([51, 52, 53, 54, 55, 56, 57, 58, 59, 60, 61, 62, 63, 64, 65, 66, 67, 68, 69, 70, 71], [], []), ([52, 53, 54, 55, 56, 57, 58, 59, 60, 61, 62, 63, 64, 65, 66, 67, 68, 69, 70, 71], [], []), ([53, 54, 55, 56, 57, 58, 59, 60, 61, 62, 63, 64, 65, 66, 67, 68, 69, 70, 71], [], []), ([54, 55, 56, 57, 58, 59, 60, 61, 62, 63, 64, 65, 66, 67, 68, 69, 70, 71], [], []), ([55, 56, 57, 58, 59, 60, 61, 62, 63, 64, 65, 66, 67, 68, 69, 70, 71], [], []), ([52, 53, 54, 55, 56, 57, 58, 59, 60, 61, 62, 63, 64, 65, 66, 67, 68, 69, 70, 71], [], []), ([52, 53, 54, 55, 57, 58, 59, 60, 61, 62, 63, 64, 65, 66, 67, 68, 69, 70, 71], [], []), ([52, 53, 54, 55, 58, 59, 60, 61, 62, 63, 64, 65, 66, 67, 68, 69, 70, 71], [], []), ([52, 53, 54, 55, 59, 60, 61, 62, 63, 64, 65, 66, 67, 68, 69, 70, 71], [], []), ([52, 53, 54, 55, 60, 61, 62, 63, 64, 65, 66, 67, 68, 69, 70, 71], [], []), ([61, 62, 63, 64, 65, 66, 67, 68, 69, 70, 71], [], []), ([62, 63, 64, 65, 66, 67, 68, 69, 70, 71], [], []), ([63, 64, 65, 66, 67, 68, 69, 70, 71], [], []), ([64, 65, 66, 67, 68, 69, 70, 71], [], []), ([65, 66, 67, 68, 69, 70, 71], [], []), ([66, 67, 68, 69, 70, 71], [], []), ([67, 68, 69, 70, 71], [], []), ([64, 65, 66, 67, 68, 69, 70, 71], [], []), ([64, 65, 66, 67, 69, 70, 71], [], []), ([64, 65, 66, 67, 70, 71], [], []), ([64, 65, 66, 67, 71], [], [])] (Exists.intro [46, 47, 48, 49, 50, 51, 52, 53, 54, 55, 56, 57, 58, 59, 60, 61, 62, 63, 64, 65, 66, 67, 68, 69, 70, 71] (And.intro (by decide +kernel) ?_))))
      refine dp ?_
      refine dp ?_
      refine dp ?_
      refine dp ?_
      refine dp ?_
      refine dp ?_
      refine st ?_
      refine branchG_intro true (fun hc116 => ?_) (fun hc116 => ?_)
      · (conv => whnf)
        refine dp ?_
        refine dp ?_
        refine dp ?_
        refine dp ?_
        refine dp ?_
        refine dp ?_
        refine dp ?_
        refine dp ?_
        ((repeat (first | ((conv => whnf); (with_reducible refine And.intro ?_ ?_); (focus (first | exact Eq.refl _ | exact trivial | exact Int.natCast_nonneg _ | assumption | exact Nat.le_of_ble_eq_true (Eq.refl true) | decide))))); (conv => whnf); apply Exists.intro; apply Exists.intro; apply And.intro; (focus (((repeat (first | ((conv => whnf); (with_reducible refine And.intro ?_ ?_); (focus (first | exact Eq.refl _ | exact trivial | exact Int.natCast_nonneg _ | assumption | exact Nat.le_of_ble_eq_true (Eq.refl true) | decide))))); (conv => whnf)) <;> ((intro hlen0; (try rw [List.length_map]))) <;> ((repeat (first | ((conv => whnf); (with_reducible refine And.intro ?_ ?_); (focus (first | exact Eq.refl _ | exact trivial | exact Int.natCast_nonneg _ | assumption | exact Nat.le_of_ble_eq_true (Eq.refl true) | decide))))); (conv => whnf)) <;> (exact rfl))); apply And.intro; (focus exact rfl); (conv => whnf))
        refine dp ?_
        refine dp ?_
        refine dp ?_
        refine st ?_
        refine branchG_intro true (fun hc117 => ?_) (fun hc117 => ?_)
        · have hc115 := ift (And.intro hc116 hc117) hc115
          obtain ⟨x114, hx1140, hx114, hc115⟩ := ix_some hc115
          (conv => whnf)
          refine dp ?_
          refine dp ?_
          refine dp ?_
          refine dp ?_
          refine dp ?_
          refine dp ?_
          refine dp ?_
          refine dp ?_
          refine sr (map_getI (f := c_S) rfl hx114) ?_
          obtain rfl := some_eq hc115
          refine st ?_
          exact Exists.intro (rn [(4303, 4303)]) (WS.mk (tp (tc (tp (tp (wt_cons (wd_c (web (And.intro hc116 hc117))) wt_nil))))) (wb_cons rfl (cc (cc (cc (cc (cc (cc wc_nil)))))) (wb_cons rfl (cc (cc (cc (wc_own rfl (WE.refl _) (cc (cc wc_nil)))))) (wb_cons rfl (cc (cc (cc wc_nil))) wb_nil))))
        · have hc115 := ife (And.intro hc116 hc117) hc115
          (conv => whnf)
          obtain rfl := some_eq hc115
          refine st ?_
          exact Exists.intro (rn [(4303, 4303)]) (WS.mk (tp (tc (tp (tp (wt_cons (wd_c (web (And.intro hc116 hc117))) wt_nil))))) (wb_cons rfl (cc (cc (cc (cc (cc (cc wc_nil)))))) (wb_cons rfl (cc (cc (cc (wc_own rfl (WE.refl _) (cc (cc wc_nil)))))) (wb_cons rfl (cc (cc (cc wc_nil))) wb_nil))))
      · (conv => whnf)
        refine dp ?_
        refine dp ?_
        have hc115 := ife hc116 hc115
        obtain rfl := some_eq hc115
        refine st ?_
        exact Exists.intro (rn [(4303, 4303)]) (WS.mk (tp (tc (tp (tp (wt_cons (wd_c (web hc116)) wt_nil))))) (wb_cons rfl (cc (cc (cc (cc (cc (cc wc_nil)))))) (wb_cons rfl (cc (cc (cc (wc_own rfl (WE.refl _) (cc (cc wc_nil)))))) (wb_cons rfl (cc (cc (cc wc_nil))) wb_nil))))
    obtain ⟨r0, hw⟩ := hw
    (conv => whnf)
    refine AWP.weak r0 hw ?_
    refine nw ?_
    refine branch_hF hF (fun hc118 hF => ?_) (fun hc118 hF => ?_)
    · refine nw ?_
      refine AWP.block ?_
      obtain ⟨r119, hr119, hF⟩ := bind_some hF
      obtain ⟨hg120, hF⟩ := guard_some hF
      refine nn ?_
      refine Exists.intro 7 (Exists.intro [[], [], [], [], [], [1000], []] (Exists.intro [([76, 77, 78, 79, 80, 81, 82], [1000], []), ([77, 78, 79, 80, 81, 82], [1000], []), ([76, 77, 78, 79, 80, 81, 82], [], []), ([76, 77, 78, 79, 80, 81, 82], [], []), ([76, 77, 78, 80, 81, 82], [], []), ([76, 77, 81, 82], [], [1000]), ([76, 77, 82], [], [])] (Exists.intro [76, 77, 78, 79, 80, 81, 82] (And.intro (by decide +kernel) ?_))))
      refine dp ?_
      refine dp ?_
      refine dp ?_
      refine dp ?_
      refine dp ?_
      ((repeat (first | ((conv => whnf); (with_reducible refine And.intro ?_ ?_); (focus (first | exact Eq.refl _ | exact trivial | exact Int.natCast_nonneg _ | assumption | exact Nat.le_of_ble_eq_true (Eq.refl true) | decide))))); (conv => whnf); apply Exists.intro; apply Exists.intro; apply And.intro; (focus ((conv => whnf); refine And.intro rfl ?_; (conv => whnf); refine CallsX.mono (CallsX.weak (rn []) (ih_values_reader_value c_1000_0_s (IntKind.i64.wrap (a1_ + 1)) _ hr119) rfl (WS.mk (tp (tc wt_nil)) (wb_cons rfl (cc (cc (cc wc_nil))) wb_nil))) ?_; rintro d b ⟨rfl, rfl⟩; exact And.intro rfl rfl)); apply And.intro; (focus exact rfl); (conv => whnf))
      ((repeat (first | ((conv => whnf); (with_reducible refine And.intro ?_ ?_); (focus (first | exact Eq.refl _ | exact trivial | exact Int.natCast_nonneg _ | assumption | exact Nat.le_of_ble_eq_true (Eq.refl true) | decide))))); (conv => whnf); apply Exists.intro; apply Exists.intro; apply And.intro; (focus (((repeat (first | ((conv => whnf); (with_reducible refine And.intro ?_ ?_); (focus (first | exact Eq.refl _ | exact trivial | exact Int.natCast_nonneg _ | assumption | exact Nat.le_of_ble_eq_true (Eq.refl true) | decide))))); (conv => whnf)) <;> (refine Exists.intro _ (And.intro (we_rows (f := TValue.cells) (wl_eq (TValue.cells_eq r119.1) (lc (lc (lc (lc (lc (lc wl_nil))))))) (we_rows_nil (f := TValue.cells))) ?_)) <;> ((repeat (first | ((conv => whnf); (with_reducible refine And.intro ?_ ?_); (focus (first | exact Eq.refl _ | exact trivial | exact Int.natCast_nonneg _ | assumption | exact Nat.le_of_ble_eq_true (Eq.refl true) | decide))))); (conv => whnf)) <;> (exact rfl))); apply And.intro; (focus exact rfl); (conv => whnf))
      refine st ?_
      refine And.intro (by first | exact rows_map _ (fun x => TValue.cells_len x) | exact rows_nil) (And.intro (by first | exact rows_map _ (fun x => TValue.cells_len x) | exact rows_nil) (And.intro (by have h := hg120; simp only [List.length_map, List.length_append, List.length_cons, List.length_nil, Nat.zero_add] at h ⊢; first | exact h | (unfold maxLen; omega) | omega) (And.intro (by have h := hg120; simp only [List.length_map, List.length_append, List.length_cons, List.length_nil, Nat.zero_add] at h ⊢; first | exact h | (unfold maxLen; omega) | omega) (Exists.intro _ (And.intro (WE.refl _) ?_)))))
      rw [← List.map_append]
      refine st ?_
      refine AWL.weak (rn [(83, 4303)]) ?_ (ih_values_reader_value_l1 a1_ r70 (c_6_3 ++ ([r119.1])) r119.2 _ hF)
      exact (WS.mk (tp (tc (tp (tp wt_nil)))) (wb_cons rfl (cc (cc (cc (cc (cc (cc wc_nil)))))) (wb_cons rfl (cc (cc (cc (wc_own rfl (WE.refl _) (cc (cc wc_nil)))))) (wb_cons rfl (cc (cc (cc wc_nil))) wb_nil))))
    · refine nw ?_
      refine AWP.seq ?_
      obtain ⟨r121, hr121, hF⟩ := bind_some hF
      refine ns ?_
      refine Exists.intro [] ?_
      refine st ?_
      refine cm (CallsX.weak (rn []) (values_reader_next_ok c_1000_0_s _ hr121) rfl (WS.mk (tp wt_nil) (wb_cons rfl (cc (cc (cc wc_nil))) wb_nil))) ?_
      refine st ?_
      refine AWP.seq ?_
      refine ns ?_
      obtain rfl := some_eq hF
      refine ns ?_
      exact wx (WS.mk (wt_cons (wd_agg (lc (lc (lc (lc (lc (wl_cons WE.nil wl_nil))))))) wt_nil) (wb_cons rfl (cc (cc (cc wc_nil))) wb_nil))
theorem values_reader_value_ok : ∀ (toArray : Tvalues_reader) (a1_ : Int), ∀ r, values_reader_value toArray a1_ = some r → values_reader_value.M toArray a1_ r := values_reader_value_all.1
theorem values_reader_value_l1_ok : ∀ (a1_ : Int) (r70 : (ByteArray × Tvalues_reader)) (c_6_3 : (List TValue)) (c_1000_0_s : Tvalues_reader), ∀ r, values_reader_value_l1 a1_ r70 c_6_3 c_1000_0_s = some r → values_reader_value_l1.M a1_ r70 c_6_3 c_1000_0_s r := values_reader_value_all.2
end Go.Proofs.YtafniolcakiljaaGreatDoor

set_option linter.unusedVariables false
set_option linter.unusedSimpArgs false
set_option maxRecDepth 100000
set_option maxHeartbeats 4000000
namespace Go.Proofs.YtafniolcakiljaaGreatDoor
open Go Go.Am
def values_Parse (s : ByteArray) : Option (TValue × TFault) :=
  strings_Split s (ByteArray.mk #[32]) >>= fun r1 =>
  values_reader_value (Tvalues_reader.mk r1 0 false) 1 >>= fun r2 =>
  (if (r2.2.fbad || (r2.2.fat != ((r2.2.fwords.length : Nat) : Int))) = true then some true else values_Check r2.1 >>= fun r8 =>
  some (r8 != 0)) >>= fun c9 =>
  (if c9 = true then some true else values_Print r2.1 >>= fun r10 =>
  some (!(r10.toList == s.toList))) >>= fun c11 =>
  if c11 = true then
  some (TValue.mk 0 (ByteArray.mk #[]) 0 ([] : List TValue) (TExcSet.mk false ([] : List TExc)), TFault.mk 31 (ByteArray.mk #[]) 0 0)
  else
  some (r2.1, TFault.mk 0 (ByteArray.mk #[]) 0 0)
def values_Parse.M (s : ByteArray) (r : TValue × TFault) : Prop :=
  CallsX Tryz.prog 6 [.c none (.v (.string s))] [] (fun d b => d = .tup [.agg [.v (.int .i64 r.1.fOp), .v (.string r.1.fName), .v (.int .i64 r.1.fN), .sl (r.1.fKids.map TValue.cells), .v (.bool r.1.fSet.fAll), .sl (r.1.fSet.fList.map TExc.cells)], .agg [.v (.int .i64 r.2.fCode), .v (.string r.2.fName), .v (.int .i64 r.2.fLine), .v (.int .i64 r.2.fCol)]] ∧ b = [])
theorem values_Parse_ok (s : ByteArray) (r : TValue × TFault) (hF : values_Parse s = some r) : values_Parse.M s r := by
  unfold values_Parse at hF
  unfold values_Parse.M
  refine enter tabOk Tryz.func6 rfl (by decide) (Nat.le_of_ble_eq_true rfl) rfl rfl rfl ?_
  refine AWP.seq ?_
  refine ns ?_
  refine AWP.seq ?_
  obtain ⟨r1, hr1, hF⟩ := bind_some hF
  refine ns ?_
  refine Exists.intro [] ?_
  refine st ?_
  refine cm (CallsX.weak (rn []) (strings_Split_ok s (ByteArray.mk #[32]) _ hr1) rfl (WS.mk (tc (tc wt_nil)) wb_nil)) ?_
  refine st ?_
  refine AWP.seq ?_
  obtain ⟨r2, hr2, hF⟩ := bind_some hF
  refine ns ?_
  refine Exists.intro [] ?_
  refine st ?_
  refine cm (CallsX.weak (rn []) (values_reader_value_ok (Tvalues_reader.mk r1 0 false) 1 _ hr2) rfl (WS.mk (tp (tc wt_nil)) (wb_cons rfl (cc (cc (cc wc_nil))) wb_nil))) ?_
  refine st ?_
  refine AWP.seq ?_
  refine AWP.seq ?_
  obtain ⟨c9, hc9, hF⟩ := bind_some hF
  obtain ⟨c11, hc11, hF⟩ := bind_some hF
  refine AWP.cutN (fun T => ∃ r, WS r T ⟨[(2, .ptr 2 0), (3, .ptr 3 0), (5, .ptr 5 0), (38, .c none (.v (.bool c11)))], [(2, [(none, .v (.int .i64 0)), (none, .v (.string (ByteArray.mk #[]))), (none, .v (.int .i64 0)), (none, .nils), (none, .v (.bool false)), (none, .nils)]), (3, [(none, .v (.int .i64 0)), (none, .v (.string (ByteArray.mk #[]))), (none, .v (.int .i64 0)), (none, .v (.int .i64 0))]), (5, [(none, .v (.int .i64 r2.1.fOp)), (none, .v (.string r2.1.fName)), (none, .v (.int .i64 r2.1.fN)), (none, .sl (r2.1.fKids.map TValue.cells)), (none, .v (.bool r2.1.fSet.fAll)), (none, .sl (r2.1.fSet.fList.map TExc.cells))])]⟩) ?_ (fun T hw => ?_)
  · refine nn ?_
    refine Exists.intro 25 (Exists.intro [[], [], [], [], [], [], [], [], [], [], [], [], [], [], [], [], [], [], [], [], [], [], [], [], []] (Exists.intro [([12, 13, 14, 15, 16, 17, 18, 19, 20, 21, 22, 23, 24, 25, 26, 27, 28, 29, 30, 31, 32, 33, 34, 35, 36], [], []), ([13, 14, 15, 16, 17, 18, 19, 20, 21, 22, 23, 24, 25, 26, 27, 28, 29, 30, 31, 32, 33, 34, 35, 36], [], []), ([14, 15, 16, 17, 18, 19, 20, 21, 22, 23, 24, 25, 26, 27, 28, 29, 30, 31, 32, 33, 34, 35, 36], [], []), ([15, 16, 17, 18, 19, 20, 21, 22, 23, 24, 25, 26, 27, 28, 29, 30, 31, 32, 33, 34, 35, 36], [], []), ([16, 17, 18, 19, 20, 21, 22, 23, 24, 25, 26, 27, 28, 29, 30, 31, 32, 33, 34, 35, 36], [], []), ([17, 18, 19, 20, 21, 22, 23, 24, 25, 26, 27, 28, 29, 30, 31, 32, 33, 34, 35, 36], [], []), ([18, 19, 20, 21, 22, 23, 24, 25, 26, 27, 28, 29, 30, 31, 32, 33, 34, 35, 36], [], []), ([19, 20, 21, 22, 23, 24, 25, 26, 27, 28, 29, 30, 31, 32, 33, 34, 35, 36], [], []), ([20, 21, 22, 23, 24, 25, 26, 27, 28, 29, 30, 31, 32, 33, 34, 35, 36], [], []), ([17, 18, 19, 20, 21, 22, 23, 24, 25, 26, 27, 28, 29, 30, 31, 32, 33, 34, 35, 36], [], []), ([17, 18, 19, 20, 22, 23, 24, 25, 26, 27, 28, 29, 30, 31, 32, 33, 34, 35, 36], [], []), ([17, 18, 19, 20, 23, 24, 25, 26, 27, 28, 29, 30, 31, 32, 33, 34, 35, 36], [], []), ([17, 18, 19, 20, 24, 25, 26, 27, 28, 29, 30, 31, 32, 33, 34, 35, 36], [], []), ([17, 18, 19, 20, 25, 26, 27, 28, 29, 30, 31, 32, 33, 34, 35, 36], [], []), ([26, 27, 28, 29, 30, 31, 32, 33, 34, 35, 36], [], []), ([27, 28, 29, 30, 31, 32, 33, 34, 35, 36], [], []), ([28, 29, 30, 31, 32, 33, 34, 35, 36], [], []), ([29, 30, 31, 32, 33, 34, 35, 36], [], []), ([30, 31, 32, 33, 34, 35, 36], [], []), ([31, 32, 33, 34, 35, 36], [], []), ([32, 33, 34, 35, 36], [], []), ([33, 34, 35, 36], [], []), ([34, 35, 36], [], []), ([35, 36], [], []), ([34, 35, 36], [], [])] (Exists.intro [12, 13, 14, 15, 16, 17, 18, 19, 20, 21, 22, 23, 24, 25, 26, 27, 28, 29, 30, 31, 32, 33, 34, 35, 36] (And.intro (by decide +kernel) ?_))))
    refine dp ?_
    refine dp ?_
    refine dp ?_
    refine dp ?_
    refine dp ?_
    refine st ?_
    refine branchG_intro false (fun hc12 => ?_) (fun hc12 => ?_)
    · (conv => whnf)
      refine dp ?_
      refine dp ?_
      have hc9 := ift hc12 hc9
      obtain rfl := some_eq hc9
      refine dp ?_
      refine dp ?_
      have hc11 := ift hc12 hc11
      obtain rfl := some_eq hc11
      refine st ?_
      exact wx (WS.mk (tp (tp (tp (wt_cons (wd_c (web hc12)) wt_nil)))) (wb_cons rfl (cc (cc (cc (cc (cc (cc wc_nil)))))) (wb_cons rfl (cc (cc (cc (cc wc_nil)))) (wb_cons rfl (cc (cc (cc (cc (cc (cc wc_nil)))))) wb_nil))))
    · (conv => whnf)
      refine dp ?_
      refine dp ?_
      refine dp ?_
      refine dp ?_
      refine dp ?_
      refine dp ?_
      refine dp ?_
      refine dp ?_
      ((repeat (first | ((conv => whnf); (with_reducible refine And.intro ?_ ?_); (focus (first | exact Eq.refl _ | exact trivial | exact Int.natCast_nonneg _ | assumption | exact Nat.le_of_ble_eq_true (Eq.refl true) | decide))))); (conv => whnf); apply Exists.intro; apply Exists.intro; apply And.intro; (focus (((repeat (first | ((conv => whnf); (with_reducible refine And.intro ?_ ?_); (focus (first | exact Eq.refl _ | exact trivial | exact Int.natCast_nonneg _ | assumption | exact Nat.le_of_ble_eq_true (Eq.refl true) | decide))))); (conv => whnf)) <;> ((intro hlen0; (try rw [List.length_map]))) <;> ((repeat (first | ((conv => whnf); (with_reducible refine And.intro ?_ ?_); (focus (first | exact Eq.refl _ | exact trivial | exact Int.natCast_nonneg _ | assumption | exact Nat.le_of_ble_eq_true (Eq.refl true) | decide))))); (conv => whnf)) <;> (exact rfl))); apply And.intro; (focus exact rfl); (conv => whnf))
      refine dp ?_
      refine dp ?_
      refine dp ?_
      refine st ?_
      refine branchG_intro false (fun hc13 => ?_) (fun hc13 => ?_)
      · have hc9 := ift (And.intro hc12 hc13) hc9
        (conv => whnf)
        obtain rfl := some_eq hc9
        refine dp ?_
        refine dp ?_
        have hc11 := ift (And.intro hc12 hc13) hc11
        obtain rfl := some_eq hc11
        refine st ?_
        exact wx (WS.mk (tp (tp (tp (wt_cons (wd_c (web (And.intro hc12 hc13))) wt_nil)))) (wb_cons rfl (cc (cc (cc (cc (cc (cc wc_nil)))))) (wb_cons rfl (cc (cc (cc (cc wc_nil)))) (wb_cons rfl (cc (cc (cc (cc (cc (cc wc_nil)))))) wb_nil))))
      · have hc9 := ife (And.intro hc12 hc13) hc9
        obtain ⟨r8, hr8, hc9⟩ := bind_some hc9
        (conv => whnf)
        refine dp ?_
        ((repeat (first | ((conv => whnf); (with_reducible refine And.intro ?_ ?_); (focus (first | exact Eq.refl _ | exact trivial | exact Int.natCast_nonneg _ | assumption | exact Nat.le_of_ble_eq_true (Eq.refl true) | decide))))); (conv => whnf); apply Exists.intro; apply Exists.intro; apply And.intro; (focus ((conv => whnf); refine And.intro rfl ?_; (conv => whnf); refine CallsX.mono (CallsX.weak (rn []) (values_Check_ok r2.1 _ hr8) rfl (WS.mk (wt_cons (wd_agg (lc (lc (lc (lc (lc (lc wl_nil))))))) wt_nil) wb_nil)) ?_; rintro d b ⟨rfl, rfl⟩; exact And.intro rfl rfl)); apply And.intro; (focus exact rfl); (conv => whnf))
        refine dp ?_
        obtain rfl := some_eq hc9
        refine dp ?_
        refine dp ?_
        refine st ?_
        refine branchG_intro false (fun hc14 => ?_) (fun hc14 => ?_)
        · have hc11 := ift (And.intro hc12 (And.intro hc13 hc14)) hc11
          (conv => whnf)
          obtain rfl := some_eq hc11
          refine st ?_
          exact wx (WS.mk (tp (tp (tp (wt_cons (wd_c (web (And.intro hc12 (And.intro hc13 hc14)))) wt_nil)))) (wb_cons rfl (cc (cc (cc (cc (cc (cc wc_nil)))))) (wb_cons rfl (cc (cc (cc (cc wc_nil)))) (wb_cons rfl (cc (cc (cc (cc (cc (cc wc_nil)))))) wb_nil))))
        · have hc11 := ife (And.intro hc12 (And.intro hc13 hc14)) hc11
          obtain ⟨r10, hr10, hc11⟩ := bind_some hc11
          (conv => whnf)
          refine dp ?_
          ((repeat (first | ((conv => whnf); (with_reducible refine And.intro ?_ ?_); (focus (first | exact Eq.refl _ | exact trivial | exact Int.natCast_nonneg _ | assumption | exact Nat.le_of_ble_eq_true (Eq.refl true) | decide))))); (conv => whnf); apply Exists.intro; apply Exists.intro; apply And.intro; (focus ((conv => whnf); refine And.intro rfl ?_; (conv => whnf); refine CallsX.mono (CallsX.weak (rn []) (values_Print_ok r2.1 _ hr10) rfl (WS.mk (wt_cons (wd_agg (lc (lc (lc (lc (lc (lc wl_nil))))))) wt_nil) wb_nil)) ?_; rintro d b ⟨rfl, rfl⟩; exact And.intro rfl rfl)); apply And.intro; (focus exact rfl); (conv => whnf))
          refine dp ?_
          obtain rfl := some_eq hc11
          refine st ?_
          exact wx (WS.mk (tp (tp (tp (wt_cons (wd_c (web (And.intro hc12 (And.intro hc13 hc14)))) wt_nil)))) (wb_cons rfl (cc (cc (cc (cc (cc (cc wc_nil)))))) (wb_cons rfl (cc (cc (cc (cc wc_nil)))) (wb_cons rfl (cc (cc (cc (cc (cc (cc wc_nil)))))) wb_nil))))
  obtain ⟨r0, hw⟩ := hw
  (conv => whnf)
  refine AWP.weak r0 hw ?_
  refine nw ?_
  refine branch_hF hF (fun hc15 hF => ?_) (fun hc15 hF => ?_)
  · refine AWP.seq ?_
    refine ns ?_
    obtain rfl := some_eq hF
    refine ns ?_
    exact wx (WS.mk (wt_cons (wd_tup (wx_agg (lc (lc (lc (wl_cons WE.nil (lc (wl_cons WE.nil wl_nil)))))) (wx_agg (lc (lc (lc (lc wl_nil)))) wx_nil))) wt_nil) wb_nil)
  · refine nw ?_
    refine AWP.seq ?_
    refine ns ?_
    obtain rfl := some_eq hF
    refine ns ?_
    exact wx (WS.mk (wt_cons (wd_tup (wx_agg (lc (lc (lc (lc (lc (lc wl_nil)))))) (wx_agg (lc (lc (lc (lc wl_nil)))) wx_nil))) wt_nil) wb_nil)
end Go.Proofs.YtafniolcakiljaaGreatDoor

set_option linter.unusedVariables false
set_option linter.unusedSimpArgs false
set_option maxRecDepth 100000
set_option maxHeartbeats 4000000
namespace Go.Proofs.YtafniolcakiljaaGreatDoor
open Go Go.Am
mutual
def values_copied (v : TValue) : Option (TValue) :=
  slices_Clone_Exc v.fSet.fList >>= fun r1 =>
  values_copied_l1 v 0 ([]) r1 v.fKids
  partial_fixpoint
def values_copied_l1 (v : TValue) (x_17 : Nat) (v_1_3 : (List TValue)) (r1 : ((List TExc))) (x_17_s_ : (List TValue)) : Option (TValue) :=
  (match x_17_s_ with
  | x30 :: xs31 =>
  values_copied x30 >>= fun r33 =>
  guardP ((v_1_3.length + ([r33]).length) * 88 ≤ 140737488355328) >>= fun _ =>
  values_copied_l1 v (x_17 + 1) (v_1_3 ++ ([r33])) r1 xs31
  | [] =>
  some (TValue.mk v.fOp v.fName v.fN v_1_3 (TExcSet.mk v.fSet.fAll r1)))
  partial_fixpoint
end
def values_copied.M (v : TValue) (r : TValue) : Prop :=
  CallsX Tryz.prog 44 [.agg [.v (.int .i64 v.fOp), .v (.string v.fName), .v (.int .i64 v.fN), .sl (v.fKids.map TValue.cells), .v (.bool v.fSet.fAll), .sl (v.fSet.fList.map TExc.cells)]] [] (fun d b => d = .agg [.v (.int .i64 r.fOp), .v (.string r.fName), .v (.int .i64 r.fN), .sl (r.fKids.map TValue.cells), .v (.bool r.fSet.fAll), .sl (r.fSet.fList.map TExc.cells)] ∧ b = [])
def values_copied_l1.M (v : TValue) (x_17 : Nat) (v_1_3 : (List TValue)) (r1 : ((List TExc))) (x_17_s_ : (List TValue)) (r : TValue) : Prop :=
  ∀ pre_x_17 : List TValue, v.fKids = pre_x_17 ++ x_17_s_ → x_17 = pre_x_17.length → v.fKids.length ≤ maxLen → AWL Tryz.prog 30 (Code.sub (bodyOf Tryz.f44) [1, 1, 1, 1, 0, 1, 0, 0]) (Code.cont Tryz.prog 30 (bodyOf Tryz.f44) [1, 1, 1, 1, 0, 1, 0] (endK tab Tryz.f44.results [] (WRes (.agg [.v (.int .i64 r.fOp), .v (.string r.fName), .v (.int .i64 r.fN), .sl (r.fKids.map TValue.cells), .v (.bool r.fSet.fAll), .sl (r.fSet.fList.map TExc.cells)]) []))) ⟨[(1, .ptr 1 0), (2, .ptr 2 0), (15, .c none (.sl (v.fKids.map TValue.cells))), (16, .c none (.v (.int .i64 ((v.fKids.length : Nat) : Int)))), (17, .c none (.v (.int .i64 ((x_17 : Nat) : Int))))], [(1, [(none, .v (.int .i64 v.fOp)), (none, .v (.string v.fName)), (none, .v (.int .i64 v.fN)), ((some (4053, 28)), .sl (v_1_3.map TValue.cells)), (none, .v (.bool v.fSet.fAll)), ((some (4055, 78)), .sl (r1.map TExc.cells))]), (2, [(none, .v (.int .i64 0)), (none, .v (.string (ByteArray.mk #[]))), (none, .v (.int .i64 0)), (none, .nils), (none, .v (.bool false)), (none, .nils)])]⟩
theorem values_copied_all : (∀ (v : TValue), ∀ r, values_copied v = some r → values_copied.M v r) ∧ (∀ (v : TValue) (x_17 : Nat) (v_1_3 : (List TValue)) (r1 : ((List TExc))) (x_17_s_ : (List TValue)), ∀ r, values_copied_l1 v x_17 v_1_3 r1 x_17_s_ = some r → values_copied_l1.M v x_17 v_1_3 r1 x_17_s_ r) := by
  refine values_copied.mutual_partial_correctness values_copied.M values_copied_l1.M ?_ ?_
  · intro values_copied_l1' ih_values_copied_l1 v r hF
    unfold values_copied.M
    refine enter tabOk Tryz.func44 rfl (by decide) (Nat.le_of_ble_eq_true rfl) rfl rfl rfl ?_
    refine AWP.seq ?_
    refine ns ?_
    refine AWP.seq ?_
    obtain ⟨r1, hr1, hF⟩ := bind_some hF
    refine ns ?_
    refine Exists.intro [] ?_
    refine st ?_
    refine cm (CallsX.weak (rn []) (slices_Clone_Exc_ok v.fSet.fList _ hr1) rfl (WS.mk (tc wt_nil) wb_nil)) ?_
    refine st ?_
    refine AWP.seq ?_
    refine ns ?_
    refine AWP.seq ?_
    refine ns ?_
    refine AWP.seq ?_
    refine AWP.seq ?_
    refine ns ?_
    intro hlen18
    (try rw [List.length_map] at hlen18)
    (try rw [List.length_map])
    refine st ?_
    refine AWP.block ?_
    refine AWP.loop ?_
    refine AWL.weak (rn [(9, 4055)]) ?_ (ih_values_copied_l1 v 0 ([]) r1 v.fKids _ hF ([]) rfl rfl hlen18)
    exact (WS.mk (tp (tp (tc (tc (tc wt_nil))))) (wb_cons rfl (cc (cc (cc (wc_nilown (cc (wc_own rfl (WE.refl _) wc_nil)))))) (wb_cons rfl (cc (cc (cc (cc (cc (cc wc_nil)))))) wb_nil)))
  · intro values_copied' values_copied_l1' ih_values_copied ih_values_copied_l1 v x_17 v_1_3 r1 x_17_s_ r hF
    unfold values_copied_l1.M
    intro pre_x_17 hs_x_17 hk_x_17 hlen18
    refine AWL.step ?_
    refine AWP.seq ?_
    refine ns ?_
    refine AWP.seq ?_
    refine nw ?_
    refine branch_list hs_x_17 hk_x_17 (fun x30 xs31 hp32 hx32 hl32 => ?_) (fun hp32 => ?_)
    · subst hp32
      refine nw ?_
      refine AWP.seq ?_
      refine AWP.block ?_
      refine AWP.seq ?_
      refine nn ?_
      refine sr (map_get (f := TValue.cells) (TValue.cells_eq x30) hx32) ?_
      refine st ?_
      obtain ⟨r33, hr33, hF⟩ := bind_some hF
      obtain ⟨hg34, hF⟩ := guard_some hF
      refine nn ?_
      refine Exists.intro 5 (Exists.intro [[], [], [], [], []] (Exists.intro [([21, 22, 23, 24, 25], [], []), ([22, 23, 24, 25], [], []), ([21, 22, 23, 24, 25], [], []), ([21, 22, 24, 25], [], []), ([21, 22, 25], [], [])] (Exists.intro [21, 22, 23, 24, 25] (And.intro (by decide +kernel) ?_))))
      refine dp ?_
      refine dp ?_
      refine dp ?_
      ((repeat (first | ((conv => whnf); (with_reducible refine And.intro ?_ ?_); (focus (first | exact Eq.refl _ | exact trivial | exact Int.natCast_nonneg _ | assumption | exact Nat.le_of_ble_eq_true (Eq.refl true) | decide))))); (conv => whnf); apply Exists.intro; apply Exists.intro; apply And.intro; (focus ((conv => whnf); refine And.intro rfl ?_; (conv => whnf); refine CallsX.mono (CallsX.weak (rn []) (ih_values_copied x30 _ hr33) rfl (WS.mk (wt_cons (wd_agg (lc (lc (lc (lc (lc (lc wl_nil))))))) wt_nil) wb_nil)) ?_; rintro d b ⟨rfl, rfl⟩; exact And.intro rfl rfl)); apply And.intro; (focus exact rfl); (conv => whnf))
      ((repeat (first | ((conv => whnf); (with_reducible refine And.intro ?_ ?_); (focus (first | exact Eq.refl _ | exact trivial | exact Int.natCast_nonneg _ | assumption | exact Nat.le_of_ble_eq_true (Eq.refl true) | decide))))); (conv => whnf); apply Exists.intro; apply Exists.intro; apply And.intro; (focus (((repeat (first | ((conv => whnf); (with_reducible refine And.intro ?_ ?_); (focus (first | exact Eq.refl _ | exact trivial | exact Int.natCast_nonneg _ | assumption | exact Nat.le_of_ble_eq_true (Eq.refl true) | decide))))); (conv => whnf)) <;> (refine Exists.intro _ (And.intro (we_rows (f := TValue.cells) (wl_eq (TValue.cells_eq r33) (lc (lc (lc (lc (lc (lc wl_nil))))))) (we_rows_nil (f := TValue.cells))) ?_)) <;> ((repeat (first | ((conv => whnf); (with_reducible refine And.intro ?_ ?_); (focus (first | exact Eq.refl _ | exact trivial | exact Int.natCast_nonneg _ | assumption | exact Nat.le_of_ble_eq_true (Eq.refl true) | decide))))); (conv => whnf)) <;> (exact rfl))); apply And.intro; (focus exact rfl); (conv => whnf))
      refine st ?_
      refine And.intro (by first | exact rows_map _ (fun x => TValue.cells_len x) | exact rows_nil) (And.intro (by first | exact rows_map _ (fun x => TValue.cells_len x) | exact rows_nil) (And.intro (by have h := hg34; simp only [List.length_map, List.length_append, List.length_cons, List.length_nil, Nat.zero_add] at h ⊢; first | exact h | (unfold maxLen; omega) | omega) (And.intro (by have h := hg34; simp only [List.length_map, List.length_append, List.length_cons, List.length_nil, Nat.zero_add] at h ⊢; first | exact h | (unfold maxLen; omega) | omega) (Exists.intro _ (And.intro (WE.refl _) ?_)))))
      rw [← List.map_append]
      refine st ?_
      refine ns ?_
      refine AWL.weak (rn [(26, 4053), (4055, 4055)]) ?_ (ih_values_copied_l1 v (x_17 + 1) (v_1_3 ++ ([r33])) r1 xs31 _ hF (pre_x_17 ++ [x30]) (by rw [hs_x_17]; simp) (by rw [hk_x_17]; simp) hlen18)
      exact (WS.mk (tp (tp (tc (tc (wt_cons (wd_c (we_i (wrap_succ hlen18 hl32))) wt_nil))))) (wb_cons rfl (cc (cc (cc (wc_own rfl (WE.refl _) (cc (wc_own rfl (WE.refl _) wc_nil)))))) (wb_cons rfl (cc (cc (cc (cc (cc (cc wc_nil)))))) wb_nil)))
    · subst hp32
      refine nw ?_
      refine AWP.seq ?_
      refine ns ?_
      obtain rfl := some_eq hF
      refine ns ?_
      exact wx (WS.mk (wt_cons (wd_agg (lc (lc (lc (lc (lc (lc wl_nil))))))) wt_nil) wb_nil)
theorem values_copied_ok : ∀ (v : TValue), ∀ r, values_copied v = some r → values_copied.M v r := values_copied_all.1
theorem values_copied_l1_ok : ∀ (v : TValue) (x_17 : Nat) (v_1_3 : (List TValue)) (r1 : ((List TExc))) (x_17_s_ : (List TValue)), ∀ r, values_copied_l1 v x_17 v_1_3 r1 x_17_s_ = some r → values_copied_l1.M v x_17 v_1_3 r1 x_17_s_ r := values_copied_all.2
end Go.Proofs.YtafniolcakiljaaGreatDoor

set_option linter.unusedVariables false
set_option linter.unusedSimpArgs false
set_option maxRecDepth 100000
set_option maxHeartbeats 4000000
namespace Go.Proofs.YtafniolcakiljaaGreatDoor
open Go Go.Am
def values_List_l1 (l_2 : (List TValue)) (v_1_0_s : TValue) : Option ((List TValue) × Bool) :=
  if (((v_1_0_s.fOp == 3) && (v_1_0_s.fName.toList == (ByteArray.mk #[58]).toList)) && (((v_1_0_s.fKids.length : Nat) : Int) == 2)) = true then
  (ixI v_1_0_s.fKids 0) >>= fun x47 =>
  values_copied x47 >>= fun r48 =>
  guardP ((l_2.length + ([r48]).length) * 88 ≤ 140737488355328) >>= fun _ =>
  (ixI v_1_0_s.fKids 1) >>= fun x50 =>
  values_List_l1 (l_2 ++ ([r48])) x50
  else
  if (((v_1_0_s.fOp != 3) || (!(v_1_0_s.fName.toList == (ByteArray.mk #[91, 93]).toList))) || (((v_1_0_s.fKids.length : Nat) : Int) != 0)) = true then
  some (([] : List TValue), false)
  else
  some (l_2, true)
  partial_fixpoint
def values_List_l1.M (l_2 : (List TValue)) (v_1_0_s : TValue) (r : (List TValue) × Bool) : Prop :=
  AWL Tryz.prog 45 (Code.sub (bodyOf Tryz.f23) [1, 0, 0, 0]) (Code.cont Tryz.prog 45 (bodyOf Tryz.f23) [1, 0, 0] (endK tab Tryz.f23.results [] (WRes (.tup [.c (.sl (r.1.map TValue.cells)), .c (.v (.bool r.2))]) []))) ⟨[(1, .ptr 1 0), (2, .c (some (2, 28)) (.sl (l_2.map TValue.cells)))], [(1, [(none, .v (.int .i64 v_1_0_s.fOp)), (none, .v (.string v_1_0_s.fName)), (none, .v (.int .i64 v_1_0_s.fN)), (none, .sl (v_1_0_s.fKids.map TValue.cells)), (none, .v (.bool v_1_0_s.fSet.fAll)), (none, .sl (v_1_0_s.fSet.fList.map TExc.cells))])]⟩
theorem values_List_l1_ok (l_2 : (List TValue)) (v_1_0_s : TValue) : ∀ r, values_List_l1 l_2 v_1_0_s = some r → values_List_l1.M l_2 v_1_0_s r := by
  refine values_List_l1.partial_correctness (fun l_2 v_1_0_s r => values_List_l1.M l_2 v_1_0_s r) ?_ l_2 v_1_0_s
  intro values_List_l1' ih0_values_List_l1 l_2 v_1_0_s r hF
  have ih_values_List_l1 := fun (l_2 : (List TValue)) (v_1_0_s : TValue) => ih0_values_List_l1 l_2 v_1_0_s
  clear ih0_values_List_l1
  unfold values_List_l1.M
  refine AWL.step ?_
  refine AWP.seq ?_
  refine AWP.seq ?_
  refine AWP.cutN (fun T => ∃ r, WS r T ⟨[(1, .ptr 1 0), (2, .c (some (2, 28)) (.sl (l_2.map TValue.cells))), (17, .c none (.v (.bool (((v_1_0_s.fOp == 3) && (v_1_0_s.fName.toList == (ByteArray.mk #[58]).toList)) && (((v_1_0_s.fKids.length : Nat) : Int) == 2)))))], [(1, [(none, .v (.int .i64 v_1_0_s.fOp)), (none, .v (.string v_1_0_s.fName)), (none, .v (.int .i64 v_1_0_s.fN)), (none, .sl (v_1_0_s.fKids.map TValue.cells)), (none, .v (.bool v_1_0_s.fSet.fAll)), (none, .sl (v_1_0_s.fSet.fList.map TExc.cells))])]⟩) ?_ (fun T hw => ?_)
  · refine ns ?_
    refine branchG_intro true (fun hc44 => ?_) (fun hc44 => ?_)
    · (conv => whnf)
      refine st ?_
      refine branchG_intro true (fun hc45 => ?_) (fun hc45 => ?_)
      · (conv => whnf)
        refine st ?_
        intro hlen43
        (try rw [List.length_map] at hlen43)
        (try rw [List.length_map])
        refine st ?_
        exact Exists.intro (rn [(2, 2)]) (WS.mk (tp (wt_cons (wd_own rfl (WE.refl _)) (wt_cons (wd_c (web (And.intro hc44 hc45))) wt_nil))) (wb_cons rfl (cc (cc (cc (cc (cc (cc wc_nil)))))) wb_nil))
      · (conv => whnf)
        refine st ?_
        exact Exists.intro (rn [(2, 2)]) (WS.mk (tp (wt_cons (wd_own rfl (WE.refl _)) (wt_cons (wd_c (web (And.intro hc44 hc45))) wt_nil))) (wb_cons rfl (cc (cc (cc (cc (cc (cc wc_nil)))))) wb_nil))
    · (conv => whnf)
      refine st ?_
      exact Exists.intro (rn [(2, 2)]) (WS.mk (tp (wt_cons (wd_own rfl (WE.refl _)) (wt_cons (wd_c (web hc44)) wt_nil))) (wb_cons rfl (cc (cc (cc (cc (cc (cc wc_nil)))))) wb_nil))
  obtain ⟨r0, hw⟩ := hw
  (conv => whnf)
  refine AWP.weak r0 hw ?_
  refine nw ?_
  refine branch_hF hF (fun hc46 hF => ?_) (fun hc46 hF => ?_)
  · refine nw ?_
    refine AWP.block ?_
    refine AWP.seq ?_
    obtain ⟨x47, hx470, hx47, hF⟩ := ix_some hF
    obtain ⟨r48, hr48, hF⟩ := bind_some hF
    obtain ⟨hg49, hF⟩ := guard_some hF
    refine nn ?_
    refine sr (map_getI (f := TValue.cells) (TValue.cells_eq x47) hx47) ?_
    refine st ?_
    refine Exists.intro [] ?_
    refine st ?_
    refine cm (CallsX.weak (rn []) (values_copied_ok x47 _ hr48) rfl (WS.mk (wt_cons (wd_agg (lc (lc (lc (lc (lc (lc wl_nil))))))) wt_nil) wb_nil)) ?_
    refine st ?_
    refine Exists.intro _ (And.intro (we_rows (f := TValue.cells) (wl_eq (TValue.cells_eq r48) (lc (lc (lc (lc (lc (lc wl_nil))))))) (we_rows_nil (f := TValue.cells))) ?_)
    refine st ?_
    refine And.intro (by first | exact rows_map _ (fun x => TValue.cells_len x) | exact rows_nil) (And.intro (by first | exact rows_map _ (fun x => TValue.cells_len x) | exact rows_nil) (And.intro (by have h := hg49; simp only [List.length_map, List.length_append, List.length_cons, List.length_nil, Nat.zero_add] at h ⊢; first | exact h | (unfold maxLen; omega) | omega) (And.intro (by have h := hg49; simp only [List.length_map, List.length_append, List.length_cons, List.length_nil, Nat.zero_add] at h ⊢; first | exact h | (unfold maxLen; omega) | omega) (Exists.intro _ (And.intro (WE.refl _) ?_)))))
    rw [← List.map_append]
    refine st ?_
    obtain ⟨x50, hx500, hx50, hF⟩ := ix_some hF
    refine nn ?_
    refine sr (map_getI (f := TValue.cells) (TValue.cells_eq x50) hx50) ?_
    refine st ?_
    refine AWL.weak (rn [(25, 2)]) ?_ (ih_values_List_l1 (l_2 ++ ([r48])) x50 _ hF)
    exact (WS.mk (tp (wt_cons (wd_own rfl (WE.refl _)) wt_nil)) (wb_cons rfl (cc (cc (cc (cc (cc (cc wc_nil)))))) wb_nil))
  · refine nw ?_
    refine AWP.seq ?_
    refine AWP.seq ?_
    refine AWP.cutN (fun T => ∃ r, WS r T ⟨[(2, .c (some (2, 28)) (.sl (l_2.map TValue.cells))), (43, .c none (.v (.bool (((v_1_0_s.fOp != 3) || (!(v_1_0_s.fName.toList == (ByteArray.mk #[91, 93]).toList))) || (((v_1_0_s.fKids.length : Nat) : Int) != 0)))))], []⟩) ?_ (fun T hw => ?_)
    · refine ns ?_
      refine branchG_intro false (fun hc52 => ?_) (fun hc52 => ?_)
      · (conv => whnf)
        refine st ?_
        exact Exists.intro (rn [(2, 2)]) (WS.mk (wt_cons (wd_own rfl (WE.refl _)) (wt_cons (wd_c (web hc52)) wt_nil)) wb_nil)
      · (conv => whnf)
        refine st ?_
        refine branchG_intro false (fun hc53 => ?_) (fun hc53 => ?_)
        · (conv => whnf)
          refine st ?_
          exact Exists.intro (rn [(2, 2)]) (WS.mk (wt_cons (wd_own rfl (WE.refl _)) (wt_cons (wd_c (web (And.intro hc52 hc53))) wt_nil)) wb_nil)
        · (conv => whnf)
          refine st ?_
          intro hlen51
          (try rw [List.length_map] at hlen51)
          (try rw [List.length_map])
          refine st ?_
          exact Exists.intro (rn [(2, 2)]) (WS.mk (wt_cons (wd_own rfl (WE.refl _)) (wt_cons (wd_c (web (And.intro hc52 hc53))) wt_nil)) wb_nil)
    obtain ⟨r0, hw⟩ := hw
    (conv => whnf)
    refine AWP.weak r0 hw ?_
    refine nw ?_
    refine branch_hF hF (fun hc54 hF => ?_) (fun hc54 hF => ?_)
    · refine AWP.seq ?_
      refine ns ?_
      obtain rfl := some_eq hF
      refine ns ?_
      exact wx (WS.mk (wt_cons (wd_tup (wx_c WE.nil (wx_c (WE.refl _) wx_nil))) wt_nil) wb_nil)
    · refine nw ?_
      refine AWP.seq ?_
      refine ns ?_
      obtain rfl := some_eq hF
      refine ns ?_
      exact wx (WS.mk (wt_cons (wd_tup (wx_c (WE.refl _) (wx_c (WE.refl _) wx_nil))) wt_nil) wb_nil)
end Go.Proofs.YtafniolcakiljaaGreatDoor

set_option linter.unusedVariables false
set_option linter.unusedSimpArgs false
set_option maxRecDepth 100000
set_option maxHeartbeats 4000000
namespace Go.Proofs.YtafniolcakiljaaGreatDoor
open Go Go.Am
def values_List (v : TValue) : Option ((List TValue) × Bool) :=
  values_List_l1 ([]) v
def values_List.M (v : TValue) (r : (List TValue) × Bool) : Prop :=
  CallsX Tryz.prog 23 [.agg [.v (.int .i64 v.fOp), .v (.string v.fName), .v (.int .i64 v.fN), .sl (v.fKids.map TValue.cells), .v (.bool v.fSet.fAll), .sl (v.fSet.fList.map TExc.cells)]] [] (fun d b => d = .tup [.c (.sl (r.1.map TValue.cells)), .c (.v (.bool r.2))] ∧ b = [])
theorem values_List_ok (v : TValue) (r : (List TValue) × Bool) (hF : values_List v = some r) : values_List.M v r := by
  unfold values_List at hF
  unfold values_List.M
  refine enter tabOk Tryz.func23 rfl (by decide) (Nat.le_of_ble_eq_true rfl) rfl rfl rfl ?_
  refine AWP.seq ?_
  refine ns ?_
  refine AWP.seq ?_
  refine AWP.block ?_
  refine AWP.loop ?_
  refine AWL.weak (rn []) ?_ (values_List_l1_ok ([]) v _ hF)
  exact (WS.mk (tp (wt_cons wd_nil wt_nil)) (wb_cons rfl (cc (cc (cc (cc (cc (cc wc_nil)))))) wb_nil))
end Go.Proofs.YtafniolcakiljaaGreatDoor

set_option linter.unusedVariables false
set_option linter.unusedSimpArgs false
set_option maxRecDepth 100000
set_option maxHeartbeats 4000000
namespace Go.Proofs.YtafniolcakiljaaGreatDoor
open Go Go.Am
def values_Text_l1 (b_5 : (List Int)) (r1 : ((List TValue) × Bool)) (x_20 : Nat) (x_20_s_ : (List TValue)) : Option (ByteArray × Bool) :=
  (match x_20_s_ with
  | x39 :: xs40 =>
  if (((x39.fOp != 2) || (decide (x39.fN < 0))) || (decide (x39.fN > 255))) = true then
  some ((ByteArray.mk #[]), false)
  else
  guardP ((b_5.length + ([(IntKind.u8.wrap x39.fN)]).length) * 1 ≤ 140737488355328) >>= fun _ =>
  values_Text_l1 (b_5 ++ ([(IntKind.u8.wrap x39.fN)])) r1 (x_20 + 1) xs40
  | [] =>
  some (bytesOf b_5, true))
  partial_fixpoint
def values_Text_l1.M (b_5 : (List Int)) (r1 : ((List TValue) × Bool)) (x_20 : Nat) (x_20_s_ : (List TValue)) (r : ByteArray × Bool) : Prop :=
  ∀ pre_x_20 : List TValue, r1.1 = pre_x_20 ++ x_20_s_ → x_20 = pre_x_20.length → r1.1.length ≤ maxLen → AWL Tryz.prog 46 (Code.sub (bodyOf Tryz.f12) [1, 1, 1, 1, 0, 1, 0, 0]) (Code.cont Tryz.prog 46 (bodyOf Tryz.f12) [1, 1, 1, 1, 0, 1, 0] (endK tab Tryz.f12.results [] (WRes (.tup [.c (.v (.string r.1)), .c (.v (.bool r.2))]) []))) ⟨[(5, .c (some (5, 5)) (.sl (b_5.map c_I_u8))), (18, .c none (.sl (r1.1.map TValue.cells))), (19, .c none (.v (.int .i64 ((r1.1.length : Nat) : Int)))), (20, .c none (.v (.int .i64 ((x_20 : Nat) : Int))))], []⟩
theorem values_Text_l1_ok (b_5 : (List Int)) (r1 : ((List TValue) × Bool)) (x_20 : Nat) (x_20_s_ : (List TValue)) : ∀ r, values_Text_l1 b_5 r1 x_20 x_20_s_ = some r → values_Text_l1.M b_5 r1 x_20 x_20_s_ r := by
  refine values_Text_l1.partial_correctness r1 (fun b_5 x_20 x_20_s_ r => values_Text_l1.M b_5 r1 x_20 x_20_s_ r) ?_ b_5 x_20 x_20_s_
  intro values_Text_l1' ih0_values_Text_l1 b_5 x_20 x_20_s_ r hF
  have ih_values_Text_l1 := fun (b_5 : (List Int)) (_r1 : ((List TValue) × Bool)) (x_20 : Nat) (x_20_s_ : (List TValue)) => ih0_values_Text_l1 b_5 x_20 x_20_s_
  clear ih0_values_Text_l1
  unfold values_Text_l1.M
  intro pre_x_20 hs_x_20 hk_x_20 hlen25
  refine AWL.step ?_
  refine AWP.seq ?_
  refine ns ?_
  refine AWP.seq ?_
  refine nw ?_
  refine branch_list hs_x_20 hk_x_20 (fun x39 xs40 hp41 hx41 hl41 => ?_) (fun hp41 => ?_)
  · subst hp41
    refine nw ?_
    refine AWP.seq ?_
    refine AWP.block ?_
    refine AWP.seq ?_
    refine nn ?_
    refine sr (map_get (f := TValue.cells) (TValue.cells_eq x39) hx41) ?_
    refine st ?_
    refine AWP.seq ?_
    refine AWP.seq ?_
    refine AWP.cutN (fun T => ∃ r, WS r T ⟨[(5, .c (some (5, 5)) (.sl (b_5.map c_I_u8))), (7, .ptr 7 0), (18, .c none (.sl (r1.1.map TValue.cells))), (19, .c none (.v (.int .i64 ((r1.1.length : Nat) : Int)))), (20, .c none (.v (.int .i64 ((x_20 : Nat) : Int)))), (36, .c none (.v (.bool (((x39.fOp != 2) || (decide (x39.fN < 0))) || (decide (x39.fN > 255))))))], [(7, [(none, .v (.int .i64 x39.fOp)), (none, .v (.string x39.fName)), (none, .v (.int .i64 x39.fN)), (none, .sl (x39.fKids.map TValue.cells)), (none, .v (.bool x39.fSet.fAll)), (none, .sl (x39.fSet.fList.map TExc.cells))])]⟩) ?_ (fun T hw => ?_)
    · refine ns ?_
      refine branchG_intro false (fun hc43 => ?_) (fun hc43 => ?_)
      · (conv => whnf)
        refine st ?_
        exact Exists.intro (rn [(5, 5)]) (WS.mk (wt_cons (wd_own rfl (WE.refl _)) (tp (tc (tc (tc (wt_cons (wd_c (web hc43)) wt_nil)))))) (wb_cons rfl (cc (cc (cc (cc (cc (cc wc_nil)))))) wb_nil))
      · (conv => whnf)
        refine st ?_
        refine branchG_intro false (fun hc44 => ?_) (fun hc44 => ?_)
        · (conv => whnf)
          refine st ?_
          exact Exists.intro (rn [(5, 5)]) (WS.mk (wt_cons (wd_own rfl (WE.refl _)) (tp (tc (tc (tc (wt_cons (wd_c (web (And.intro hc43 hc44))) wt_nil)))))) (wb_cons rfl (cc (cc (cc (cc (cc (cc wc_nil)))))) wb_nil))
        · (conv => whnf)
          refine st ?_
          exact Exists.intro (rn [(5, 5)]) (WS.mk (wt_cons (wd_own rfl (WE.refl _)) (tp (tc (tc (tc (wt_cons (wd_c (web (And.intro hc43 hc44))) wt_nil)))))) (wb_cons rfl (cc (cc (cc (cc (cc (cc wc_nil)))))) wb_nil))
    obtain ⟨r0, hw⟩ := hw
    (conv => whnf)
    refine AWP.weak r0 hw ?_
    refine nw ?_
    refine branch_hF hF (fun hc45 hF => ?_) (fun hc45 hF => ?_)
    · refine AWP.seq ?_
      refine ns ?_
      obtain rfl := some_eq hF
      refine ns ?_
      exact wx (WS.mk (wt_cons (wd_tup (wx_c (WE.refl _) (wx_c (WE.refl _) wx_nil))) wt_nil) wb_nil)
    · refine nw ?_
      obtain ⟨hg46, hF⟩ := guard_some hF
      refine ns ?_
      refine Exists.intro _ (And.intro (we_rows (f := c_I_u8) (lc wl_nil) (we_rows_nil (f := c_I_u8))) ?_)
      refine st ?_
      refine And.intro (by first | exact rows_map _ (fun x => c_I_u8_len x) | exact rows_nil) (And.intro (by first | exact rows_map _ (fun x => c_I_u8_len x) | exact rows_nil) (And.intro (by have h := hg46; simp only [List.length_map, List.length_append, List.length_cons, List.length_nil, Nat.zero_add] at h ⊢; first | exact h | (unfold maxLen; omega) | omega) (And.intro (by have h := hg46; simp only [List.length_map, List.length_append, List.length_cons, List.length_nil, Nat.zero_add] at h ⊢; first | exact h | (unfold maxLen; omega) | omega) (Exists.intro _ (And.intro (WE.refl _) ?_)))))
      rw [← List.map_append]
      refine st ?_
      refine ns ?_
      refine AWL.weak (rn [(42, 5)]) ?_ (ih_values_Text_l1 (b_5 ++ ([(IntKind.u8.wrap x39.fN)])) r1 (x_20 + 1) xs40 _ hF (pre_x_20 ++ [x39]) (by rw [hs_x_20]; simp) (by rw [hk_x_20]; simp) hlen25)
      exact (WS.mk (wt_cons (wd_own rfl (WE.refl _)) (tc (tc (wt_cons (wd_c (we_i (wrap_succ hlen25 hl41))) wt_nil)))) wb_nil)
  · subst hp41
    refine nw ?_
    refine AWP.seq ?_
    refine ns ?_
    refine Exists.intro b_5 (And.intro rfl ?_)
    refine st ?_
    obtain rfl := some_eq hF
    refine ns ?_
    exact wx (WS.mk (wt_cons (wd_tup (wx_c (WE.refl _) (wx_c (WE.refl _) wx_nil))) wt_nil) wb_nil)
end Go.Proofs.YtafniolcakiljaaGreatDoor

set_option linter.unusedVariables false
set_option linter.unusedSimpArgs false
set_option maxRecDepth 100000
set_option maxHeartbeats 4000000
namespace Go.Proofs.YtafniolcakiljaaGreatDoor
open Go Go.Am
def values_Text (v : TValue) : Option (ByteArray × Bool) :=
  values_List v >>= fun r1 =>
  if (!r1.2) = true then
  some ((ByteArray.mk #[]), false)
  else
  guardP (0 ≤ ((r1.1.length : Nat) : Int) ∧ ((r1.1.length : Nat) : Int) ≤ (maxLen : Nat) ∧ (1 : Int) * ((r1.1.length : Nat) : Int) ≤ 281474976710656) >>= fun _ =>
  values_Text_l1 ([] : List Int) r1 0 r1.1
def values_Text.M (v : TValue) (r : ByteArray × Bool) : Prop :=
  CallsX Tryz.prog 12 [.agg [.v (.int .i64 v.fOp), .v (.string v.fName), .v (.int .i64 v.fN), .sl (v.fKids.map TValue.cells), .v (.bool v.fSet.fAll), .sl (v.fSet.fList.map TExc.cells)]] [] (fun d b => d = .tup [.c (.v (.string r.1)), .c (.v (.bool r.2))] ∧ b = [])
theorem values_Text_ok (v : TValue) (r : ByteArray × Bool) (hF : values_Text v = some r) : values_Text.M v r := by
  unfold values_Text at hF
  unfold values_Text.M
  refine enter tabOk Tryz.func12 rfl (by decide) (Nat.le_of_ble_eq_true rfl) rfl rfl rfl ?_
  refine AWP.seq ?_
  refine ns ?_
  refine AWP.seq ?_
  obtain ⟨r1, hr1, hF⟩ := bind_some hF
  refine ns ?_
  refine Exists.intro [] ?_
  refine st ?_
  refine cm (CallsX.weak (rn []) (values_List_ok v _ hr1) rfl (WS.mk (wt_cons (wd_agg (lc (lc (lc (lc (lc (lc wl_nil))))))) wt_nil) wb_nil)) ?_
  refine st ?_
  refine AWP.seq ?_
  refine AWP.seq ?_
  refine ns ?_
  refine nw ?_
  refine branch_hF hF (fun hc3 hF => ?_) (fun hc3 hF => ?_)
  · refine AWP.seq ?_
    refine ns ?_
    obtain rfl := some_eq hF
    refine ns ?_
    exact wx (WS.mk (wt_cons (wd_tup (wx_c (WE.refl _) (wx_c (WE.refl _) wx_nil))) wt_nil) wb_nil)
  · refine nw ?_
    refine AWP.seq ?_
    obtain ⟨hg5, hF⟩ := guard_some hF
    refine ns ?_
    intro hlen4
    (try rw [List.length_map] at hlen4)
    (try rw [List.length_map])
    (repeat (first | ((conv => whnf); (with_reducible refine And.intro ?_ ?_); (focus (first | exact Eq.refl _ | exact trivial | exact Int.natCast_nonneg _ | assumption | exact Nat.le_of_ble_eq_true (Eq.refl true) | decide))) | ((with_reducible refine And.intro ?_ ?_); (focus (first | exact hg5.1 | exact hg5.2.1 | exact hg5.2.2)))))
    refine st ?_
    refine AWP.seq ?_
    refine AWP.seq ?_
    refine ns ?_
    intro hlen25
    (try rw [List.length_map] at hlen25)
    (try rw [List.length_map])
    refine st ?_
    refine AWP.block ?_
    refine AWP.loop ?_
    refine AWL.weak (rn [(17, 5)]) ?_ (values_Text_l1_ok ([] : List Int) r1 0 r1.1 _ hF ([]) rfl rfl hlen25)
    exact (WS.mk (wt_cons (wd_own rfl (WE.refl _)) (tc (tc (tc wt_nil)))) wb_nil)
end Go.Proofs.YtafniolcakiljaaGreatDoor

set_option linter.unusedVariables false
set_option linter.unusedSimpArgs false
set_option maxRecDepth 100000
set_option maxHeartbeats 4000000
namespace Go.Proofs.YtafniolcakiljaaGreatDoor
open Go Go.Am
def lazyclaw25_example : Option (Bool) :=
  values_Text (TValue.mk 3 (ByteArray.mk #[58]) 0 ([(TValue.mk 2 (ByteArray.mk #[]) 97 ([] : List TValue) (TExcSet.mk false ([] : List TExc))), (TValue.mk 3 (ByteArray.mk #[91, 93]) 0 ([] : List TValue) (TExcSet.mk false ([] : List TExc)))]) (TExcSet.mk false ([] : List TExc))) >>= fun r1 =>
  values_Print (TValue.mk 3 (ByteArray.mk #[58]) 0 ([(TValue.mk 2 (ByteArray.mk #[]) 97 ([] : List TValue) (TExcSet.mk false ([] : List TExc))), (TValue.mk 3 (ByteArray.mk #[91, 93]) 0 ([] : List TValue) (TExcSet.mk false ([] : List TExc)))]) (TExcSet.mk false ([] : List TExc))) >>= fun r2 =>
  (if (((r2.toList == (ByteArray.mk #[40, 32, 58, 32, 35, 57, 55, 32, 91, 93, 32, 41]).toList) && (r1.1.toList == (ByteArray.mk #[97]).toList)) && r1.2) = true then values_Refines (TValue.mk 3 (ByteArray.mk #[58]) 0 ([(TValue.mk 2 (ByteArray.mk #[]) 97 ([] : List TValue) (TExcSet.mk false ([] : List TExc))), (TValue.mk 3 (ByteArray.mk #[91, 93]) 0 ([] : List TValue) (TExcSet.mk false ([] : List TExc)))]) (TExcSet.mk false ([] : List TExc))) (TValue.mk 5 (ByteArray.mk #[]) 0 ([] : List TValue) (TExcSet.mk true ([] : List TExc))) >>= fun r3 =>
  some r3 else some false) >>= fun c4 =>
  (if c4 = true then values_Refines (TValue.mk 5 (ByteArray.mk #[]) 0 ([] : List TValue) (TExcSet.mk true ([] : List TExc))) (TValue.mk 3 (ByteArray.mk #[58]) 0 ([(TValue.mk 2 (ByteArray.mk #[]) 97 ([] : List TValue) (TExcSet.mk false ([] : List TExc))), (TValue.mk 3 (ByteArray.mk #[91, 93]) 0 ([] : List TValue) (TExcSet.mk false ([] : List TExc)))]) (TExcSet.mk false ([] : List TExc))) >>= fun r5 =>
  some (!r5) else some false) >>= fun c6 =>
  some c6
def lazyclaw25_example.M (r : Bool) : Prop :=
  CallsX Tryz.prog 5 [] [] (fun d b => d = .c none (.v (.bool r)) ∧ b = [])
theorem lazyclaw25_example_ok (r : Bool) (hF : lazyclaw25_example = some r) : lazyclaw25_example.M r := by
  unfold lazyclaw25_example at hF
  unfold lazyclaw25_example.M
  refine enter tabOk Tryz.func5 rfl (by decide) (Nat.le_of_ble_eq_true rfl) rfl rfl rfl ?_
  refine AWP.seq ?_
  refine ns ?_
  refine AWP.seq ?_
  refine ns ?_
  refine AWP.seq ?_
  refine ns ?_
  refine Exists.intro _ (And.intro (we_rows (f := TValue.cells) (wl_eq (TValue.cells_eq (TValue.mk 2 (ByteArray.mk #[]) 97 ([] : List TValue) (TExcSet.mk false ([] : List TExc)))) (lc (lc (lc (wl_cons WE.nil (lc (wl_cons WE.nil wl_nil))))))) (we_rows (f := TValue.cells) (wl_eq (TValue.cells_eq (TValue.mk 3 (ByteArray.mk #[91, 93]) 0 ([] : List TValue) (TExcSet.mk false ([] : List TExc)))) (lc (lc (lc (wl_cons WE.nil (lc (wl_cons WE.nil wl_nil))))))) (we_rows_nil (f := TValue.cells)))) ?_)
  refine st ?_
  refine AWP.seq ?_
  obtain ⟨r1, hr1, hF⟩ := bind_some hF
  refine ns ?_
  refine Exists.intro [] ?_
  refine st ?_
  refine cm (CallsX.weak (rn []) (values_Text_ok (TValue.mk 3 (ByteArray.mk #[58]) 0 ([(TValue.mk 2 (ByteArray.mk #[]) 97 ([] : List TValue) (TExcSet.mk false ([] : List TExc))), (TValue.mk 3 (ByteArray.mk #[91, 93]) 0 ([] : List TValue) (TExcSet.mk false ([] : List TExc)))]) (TExcSet.mk false ([] : List TExc))) _ hr1) rfl (WS.mk (wt_cons (wd_agg (lc (lc (lc (lc (lc (wl_cons WE.nil wl_nil))))))) wt_nil) wb_nil)) ?_
  refine st ?_
  refine AWP.seq ?_
  refine ns ?_
  refine AWP.seq ?_
  obtain ⟨r2, hr2, hF⟩ := bind_some hF
  obtain ⟨c4, hc4, hF⟩ := bind_some hF
  obtain ⟨c6, hc6, hF⟩ := bind_some hF
  refine AWP.cutN (fun T => ∃ r, WS r T ⟨[(0, .c none (.v (.bool c6)))], []⟩) ?_ (fun T hw => ?_)
  · refine ns ?_
    refine Exists.intro [] ?_
    refine st ?_
    refine cm (CallsX.weak (rn []) (values_Print_ok (TValue.mk 3 (ByteArray.mk #[58]) 0 ([(TValue.mk 2 (ByteArray.mk #[]) 97 ([] : List TValue) (TExcSet.mk false ([] : List TExc))), (TValue.mk 3 (ByteArray.mk #[91, 93]) 0 ([] : List TValue) (TExcSet.mk false ([] : List TExc)))]) (TExcSet.mk false ([] : List TExc))) _ hr2) rfl (WS.mk (wt_cons (wd_agg (lc (lc (lc (lc (lc (wl_cons WE.nil wl_nil))))))) wt_nil) wb_nil)) ?_
    refine st ?_
    refine branchG_intro true (fun hc7 => ?_) (fun hc7 => ?_)
    · (conv => whnf)
      refine st ?_
      refine branchG_intro true (fun hc8 => ?_) (fun hc8 => ?_)
      · (conv => whnf)
        refine st ?_
        refine branchG_intro true (fun hc9 => ?_) (fun hc9 => ?_)
        · have hc4 := ift (And.intro hc7 (And.intro hc8 hc9)) hc4
          obtain ⟨r3, hr3, hc4⟩ := bind_some hc4
          (conv => whnf)
          refine st ?_
          refine Exists.intro [] ?_
          refine st ?_
          refine cm (CallsX.weak (rn []) (values_Refines_ok (TValue.mk 3 (ByteArray.mk #[58]) 0 ([(TValue.mk 2 (ByteArray.mk #[]) 97 ([] : List TValue) (TExcSet.mk false ([] : List TExc))), (TValue.mk 3 (ByteArray.mk #[91, 93]) 0 ([] : List TValue) (TExcSet.mk false ([] : List TExc)))]) (TExcSet.mk false ([] : List TExc))) (TValue.mk 5 (ByteArray.mk #[]) 0 ([] : List TValue) (TExcSet.mk true ([] : List TExc))) _ hr3) rfl (WS.mk (wt_cons (wd_agg (lc (lc (lc (lc (lc (wl_cons WE.nil wl_nil))))))) (wt_cons (wd_agg (lc (lc (lc (wl_cons WE.nil (lc (wl_cons WE.nil wl_nil))))))) wt_nil)) wb_nil)) ?_
          refine st ?_
          obtain rfl := some_eq hc4
          refine st ?_
          refine branchG_intro true (fun hc10 => ?_) (fun hc10 => ?_)
          · have hc6 := ift (And.intro hc7 (And.intro hc8 (And.intro hc9 hc10))) hc6
            obtain ⟨r5, hr5, hc6⟩ := bind_some hc6
            (conv => whnf)
            refine st ?_
            refine Exists.intro [] ?_
            refine st ?_
            refine cm (CallsX.weak (rn []) (values_Refines_ok (TValue.mk 5 (ByteArray.mk #[]) 0 ([] : List TValue) (TExcSet.mk true ([] : List TExc))) (TValue.mk 3 (ByteArray.mk #[58]) 0 ([(TValue.mk 2 (ByteArray.mk #[]) 97 ([] : List TValue) (TExcSet.mk false ([] : List TExc))), (TValue.mk 3 (ByteArray.mk #[91, 93]) 0 ([] : List TValue) (TExcSet.mk false ([] : List TExc)))]) (TExcSet.mk false ([] : List TExc))) _ hr5) rfl (WS.mk (wt_cons (wd_agg (lc (lc (lc (wl_cons WE.nil (lc (wl_cons WE.nil wl_nil))))))) (wt_cons (wd_agg (lc (lc (lc (lc (lc (wl_cons WE.nil wl_nil))))))) wt_nil)) wb_nil)) ?_
            refine st ?_
            obtain rfl := some_eq hc6
            refine st ?_
            exact wx (WS.mk (wt_cons (wd_c (web (And.intro hc7 (And.intro hc8 (And.intro hc9 hc10))))) wt_nil) wb_nil)
          · have hc6 := ife (And.intro hc7 (And.intro hc8 (And.intro hc9 hc10))) hc6
            (conv => whnf)
            obtain rfl := some_eq hc6
            refine st ?_
            exact wx (WS.mk (wt_cons (wd_c (web (And.intro hc7 (And.intro hc8 (And.intro hc9 hc10))))) wt_nil) wb_nil)
        · have hc4 := ife (And.intro hc7 (And.intro hc8 hc9)) hc4
          (conv => whnf)
          obtain rfl := some_eq hc4
          have hc6 := ife (And.intro hc7 (And.intro hc8 hc9)) hc6
          obtain rfl := some_eq hc6
          refine st ?_
          exact wx (WS.mk (wt_cons (wd_c (web (And.intro hc7 (And.intro hc8 hc9)))) wt_nil) wb_nil)
      · (conv => whnf)
        have hc4 := ife (And.intro hc7 hc8) hc4
        obtain rfl := some_eq hc4
        have hc6 := ife (And.intro hc7 hc8) hc6
        obtain rfl := some_eq hc6
        refine st ?_
        exact wx (WS.mk (wt_cons (wd_c (web (And.intro hc7 hc8))) wt_nil) wb_nil)
    · (conv => whnf)
      have hc4 := ife hc7 hc4
      obtain rfl := some_eq hc4
      have hc6 := ife hc7 hc6
      obtain rfl := some_eq hc6
      refine st ?_
      exact wx (WS.mk (wt_cons (wd_c (web hc7)) wt_nil) wb_nil)
  obtain ⟨r0, hw⟩ := hw
  (conv => whnf)
  refine AWP.weak r0 hw ?_
  obtain rfl := some_eq hF
  refine ns ?_
  exact wx (WS.mk (tc wt_nil) wb_nil)
end Go.Proofs.YtafniolcakiljaaGreatDoor

set_option linter.unusedVariables false
set_option linter.unusedSimpArgs false
set_option maxRecDepth 100000
set_option maxHeartbeats 4000000
namespace Go.Proofs.YtafniolcakiljaaGreatDoor
open Go Go.Am
def lazycref25_SameSet_l1 (i_5 : Nat) (a : TExcSet) (b : TExcSet) (i_5_s_ : (List TExc)) : Option (Bool) :=
  (match i_5_s_ with
  | x25 :: xs26 =>
  (b.fList[i_5]?) >>= fun x28 =>
  if (!((x25.fCon.toList == x28.fCon.toList) && ((x25.fN == x28.fN) && true))) = true then
  some false
  else
  lazycref25_SameSet_l1 (i_5 + 1) a b xs26
  | [] =>
  some true)
  partial_fixpoint
def lazycref25_SameSet_l1.M (i_5 : Nat) (a : TExcSet) (b : TExcSet) (i_5_s_ : (List TExc)) (r : Bool) : Prop :=
  ∀ pre_i_5 : List TExc, a.fList = pre_i_5 ++ i_5_s_ → i_5 = pre_i_5.length → AWL Tryz.prog 38 (Code.sub (bodyOf Tryz.f22) [1, 1, 0, 1, 0, 0]) (Code.cont Tryz.prog 38 (bodyOf Tryz.f22) [1, 1, 0, 1, 0] (endK tab Tryz.f22.results [] (WRes (.c none (.v (.bool r))) []))) ⟨[(2, .ptr 2 0), (3, .ptr 3 0), (5, .c none (.v (.int .i64 ((i_5 : Nat) : Int))))], [(2, [(none, .v (.bool a.fAll)), (none, .sl (a.fList.map TExc.cells))]), (3, [(none, .v (.bool b.fAll)), (none, .sl (b.fList.map TExc.cells))])]⟩
theorem lazycref25_SameSet_l1_ok (i_5 : Nat) (a : TExcSet) (b : TExcSet) (i_5_s_ : (List TExc)) : ∀ r, lazycref25_SameSet_l1 i_5 a b i_5_s_ = some r → lazycref25_SameSet_l1.M i_5 a b i_5_s_ r := by
  refine lazycref25_SameSet_l1.partial_correctness a b (fun i_5 i_5_s_ r => lazycref25_SameSet_l1.M i_5 a b i_5_s_ r) ?_ i_5 i_5_s_
  intro lazycref25_SameSet_l1' ih0_lazycref25_SameSet_l1 i_5 i_5_s_ r hF
  have ih_lazycref25_SameSet_l1 := fun (i_5 : Nat) (_a : TExcSet) (_b : TExcSet) (i_5_s_ : (List TExc)) => ih0_lazycref25_SameSet_l1 i_5 i_5_s_
  clear ih0_lazycref25_SameSet_l1
  unfold lazycref25_SameSet_l1.M
  intro pre_i_5 hs_i_5 hk_i_5
  refine AWL.step ?_
  refine AWP.seq ?_
  refine AWP.seq ?_
  refine ns ?_
  intro hlen24
  (try rw [List.length_map] at hlen24)
  (try rw [List.length_map])
  refine st ?_
  refine nw ?_
  refine branch_list hs_i_5 hk_i_5 (fun x25 xs26 hp27 hx27 hl27 => ?_) (fun hp27 => ?_)
  · subst hp27
    refine nw ?_
    refine AWP.seq ?_
    refine AWP.block ?_
    refine AWP.seq ?_
    obtain ⟨x28, hx28, hF⟩ := bind_some hF
    refine nn ?_
    refine Exists.intro 10 (Exists.intro [[], [], [], [], [], [], [], [], [], []] (Exists.intro [([27, 28, 29, 30, 31, 32, 33, 34, 35, 36], [], []), ([28, 29, 30, 31, 32, 33, 34, 35, 36], [], []), ([27, 28, 29, 30, 31, 32, 33, 34, 35, 36], [], []), ([30, 31, 32, 33, 34, 35, 36], [], []), ([31, 32, 33, 34, 35, 36], [], []), ([27, 28, 29, 30, 31, 32, 33, 34, 35, 36], [], []), ([27, 28, 29, 30, 31, 33, 34, 35, 36], [], []), ([27, 28, 29, 30, 31, 32, 33, 34, 35, 36], [], []), ([27, 28, 29, 30, 31, 35, 36], [], []), ([27, 28, 29, 30, 31, 36], [], [])] (Exists.intro [27, 28, 29, 30, 31, 32, 33, 34, 35, 36] (And.intro (by decide +kernel) ?_))))
    refine dp ?_
    refine dp ?_
    refine dp ?_
    ((repeat (first | ((conv => whnf); (with_reducible refine And.intro ?_ ?_); (focus (first | exact Eq.refl _ | exact trivial | exact Int.natCast_nonneg _ | assumption | exact Nat.le_of_ble_eq_true (Eq.refl true) | decide))))); (conv => whnf); apply Exists.intro; apply Exists.intro; apply And.intro; (focus (((repeat (first | ((conv => whnf); (with_reducible refine And.intro ?_ ?_); (focus (first | exact Eq.refl _ | exact trivial | exact Int.natCast_nonneg _ | assumption | exact Nat.le_of_ble_eq_true (Eq.refl true) | decide))))); (conv => whnf)) <;> (rw [map_get (TExc.cells_eq x25) hx27]) <;> ((repeat (first | ((conv => whnf); (with_reducible refine And.intro ?_ ?_); (focus (first | exact Eq.refl _ | exact trivial | exact Int.natCast_nonneg _ | assumption | exact Nat.le_of_ble_eq_true (Eq.refl true) | decide))))); (conv => whnf)) <;> (exact rfl))); apply And.intro; (focus exact rfl); (conv => whnf))
    refine dp ?_
    refine dp ?_
    refine dp ?_
    refine dp ?_
    ((repeat (first | ((conv => whnf); (with_reducible refine And.intro ?_ ?_); (focus (first | exact Eq.refl _ | exact trivial | exact Int.natCast_nonneg _ | assumption | exact Nat.le_of_ble_eq_true (Eq.refl true) | decide))))); (conv => whnf); apply Exists.intro; apply Exists.intro; apply And.intro; (focus (((repeat (first | ((conv => whnf); (with_reducible refine And.intro ?_ ?_); (focus (first | exact Eq.refl _ | exact trivial | exact Int.natCast_nonneg _ | assumption | exact Nat.le_of_ble_eq_true (Eq.refl true) | decide))))); (conv => whnf)) <;> (rw [map_get (TExc.cells_eq x28) hx28]) <;> ((repeat (first | ((conv => whnf); (with_reducible refine And.intro ?_ ?_); (focus (first | exact Eq.refl _ | exact trivial | exact Int.natCast_nonneg _ | assumption | exact Nat.le_of_ble_eq_true (Eq.refl true) | decide))))); (conv => whnf)) <;> (exact rfl))); apply And.intro; (focus exact rfl); (conv => whnf))
    refine dp ?_
    refine st ?_
    refine nw ?_
    refine branch_hF hF (fun hc29 hF => ?_) (fun hc29 hF => ?_)
    · refine AWP.seq ?_
      refine ns ?_
      obtain rfl := some_eq hF
      refine ns ?_
      exact wx (WS.mk (tc wt_nil) wb_nil)
    · refine nw ?_
      refine ns ?_
      refine AWL.weak (rn []) ?_ (ih_lazycref25_SameSet_l1 (i_5 + 1) a b xs26 _ hF (pre_i_5 ++ [x25]) (by rw [hs_i_5]; simp) (by rw [hk_i_5]; simp))
      exact (WS.mk (tp (tp (wt_cons (wd_c (we_i (wrap_succ hlen24 hl27))) wt_nil))) (wb_cons rfl (cc (cc wc_nil)) (wb_cons rfl (cc (cc wc_nil)) wb_nil)))
  · subst hp27
    refine nw ?_
    refine AWP.seq ?_
    refine ns ?_
    obtain rfl := some_eq hF
    refine ns ?_
    exact wx (WS.mk (tc wt_nil) wb_nil)
end Go.Proofs.YtafniolcakiljaaGreatDoor

set_option linter.unusedVariables false
set_option linter.unusedSimpArgs false
set_option maxRecDepth 100000
set_option maxHeartbeats 4000000
namespace Go.Proofs.YtafniolcakiljaaGreatDoor
open Go Go.Am
def lazycref25_SameSet (a : TExcSet) (b : TExcSet) : Option (Bool) :=
  if ((!(a.fAll == b.fAll)) || (((a.fList.length : Nat) : Int) != ((b.fList.length : Nat) : Int))) = true then
  some false
  else
  lazycref25_SameSet_l1 0 a b a.fList
def lazycref25_SameSet.M (a : TExcSet) (b : TExcSet) (r : Bool) : Prop :=
  CallsX Tryz.prog 22 [.agg [.v (.bool a.fAll), .sl (a.fList.map TExc.cells)], .agg [.v (.bool b.fAll), .sl (b.fList.map TExc.cells)]] [] (fun d b => d = .c none (.v (.bool r)) ∧ b = [])
theorem lazycref25_SameSet_ok (a : TExcSet) (b : TExcSet) (r : Bool) (hF : lazycref25_SameSet a b = some r) : lazycref25_SameSet.M a b r := by
  unfold lazycref25_SameSet at hF
  unfold lazycref25_SameSet.M
  refine enter tabOk Tryz.func22 rfl (by decide) (Nat.le_of_ble_eq_true rfl) rfl rfl rfl ?_
  refine AWP.seq ?_
  refine ns ?_
  refine AWP.seq ?_
  refine AWP.seq ?_
  refine AWP.cutN (fun T => ∃ r, WS r T ⟨[(2, .ptr 2 0), (3, .ptr 3 0), (19, .c none (.v (.bool ((!(a.fAll == b.fAll)) || (((a.fList.length : Nat) : Int) != ((b.fList.length : Nat) : Int))))))], [(2, [(none, .v (.bool a.fAll)), (none, .sl (a.fList.map TExc.cells))]), (3, [(none, .v (.bool b.fAll)), (none, .sl (b.fList.map TExc.cells))])]⟩) ?_ (fun T hw => ?_)
  · refine ns ?_
    refine branchG_intro false (fun hc6 => ?_) (fun hc6 => ?_)
    · (conv => whnf)
      refine st ?_
      exact wx (WS.mk (tp (tp (wt_cons (wd_c (web hc6)) wt_nil))) (wb_cons rfl (cc (cc wc_nil)) (wb_cons rfl (cc (cc wc_nil)) wb_nil)))
    · (conv => whnf)
      refine st ?_
      intro hlen4
      (try rw [List.length_map] at hlen4)
      (try rw [List.length_map])
      refine st ?_
      intro hlen5
      (try rw [List.length_map] at hlen5)
      (try rw [List.length_map])
      refine st ?_
      exact wx (WS.mk (tp (tp (wt_cons (wd_c (web hc6)) wt_nil))) (wb_cons rfl (cc (cc wc_nil)) (wb_cons rfl (cc (cc wc_nil)) wb_nil)))
  obtain ⟨r0, hw⟩ := hw
  (conv => whnf)
  refine AWP.weak r0 hw ?_
  refine nw ?_
  refine branch_hF hF (fun hc7 hF => ?_) (fun hc7 hF => ?_)
  · refine AWP.seq ?_
    refine ns ?_
    obtain rfl := some_eq hF
    refine ns ?_
    exact wx (WS.mk (tc wt_nil) wb_nil)
  · refine nw ?_
    refine AWP.seq ?_
    refine AWP.seq ?_
    refine ns ?_
    refine AWP.block ?_
    refine AWP.loop ?_
    refine AWL.weak (rn []) ?_ (lazycref25_SameSet_l1_ok 0 a b a.fList _ hF ([]) rfl rfl)
    exact (WS.mk (tp (tp (tc wt_nil))) (wb_cons rfl (cc (cc wc_nil)) (wb_cons rfl (cc (cc wc_nil)) wb_nil)))
end Go.Proofs.YtafniolcakiljaaGreatDoor

set_option linter.unusedVariables false
set_option linter.unusedSimpArgs false
set_option maxRecDepth 100000
set_option maxHeartbeats 4000000
namespace Go.Proofs.YtafniolcakiljaaGreatDoor
open Go Go.Am
mutual
def lazycref25_Same (a : TValue) (b : TValue) : Option (Bool) :=
  (if (((a.fOp != b.fOp) || (!(a.fName.toList == b.fName.toList))) || (a.fN != b.fN)) = true then some true else lazycref25_SameSet a.fSet b.fSet >>= fun r6 =>
  some (!r6)) >>= fun c7 =>
  if (c7 || (((a.fKids.length : Nat) : Int) != ((b.fKids.length : Nat) : Int))) = true then
  some false
  else
  lazycref25_Same_l1 0 a b a.fKids
  partial_fixpoint
def lazycref25_Same_l1 (i_5 : Nat) (a : TValue) (b : TValue) (i_5_s_ : (List TValue)) : Option (Bool) :=
  (match i_5_s_ with
  | x34 :: xs35 =>
  (b.fKids[i_5]?) >>= fun x37 =>
  lazycref25_Same x34 x37 >>= fun r38 =>
  if (!r38) = true then
  some false
  else
  lazycref25_Same_l1 (i_5 + 1) a b xs35
  | [] =>
  some true)
  partial_fixpoint
end
def lazycref25_Same.M (a : TValue) (b : TValue) (r : Bool) : Prop :=
  CallsX Tryz.prog 10 [.agg [.v (.int .i64 a.fOp), .v (.string a.fName), .v (.int .i64 a.fN), .sl (a.fKids.map TValue.cells), .v (.bool a.fSet.fAll), .sl (a.fSet.fList.map TExc.cells)], .agg [.v (.int .i64 b.fOp), .v (.string b.fName), .v (.int .i64 b.fN), .sl (b.fKids.map TValue.cells), .v (.bool b.fSet.fAll), .sl (b.fSet.fList.map TExc.cells)]] [] (fun d b => d = .c none (.v (.bool r)) ∧ b = [])
def lazycref25_Same_l1.M (i_5 : Nat) (a : TValue) (b : TValue) (i_5_s_ : (List TValue)) (r : Bool) : Prop :=
  ∀ pre_i_5 : List TValue, a.fKids = pre_i_5 ++ i_5_s_ → i_5 = pre_i_5.length → AWL Tryz.prog 61 (Code.sub (bodyOf Tryz.f10) [1, 1, 0, 1, 0, 0]) (Code.cont Tryz.prog 61 (bodyOf Tryz.f10) [1, 1, 0, 1, 0] (endK tab Tryz.f10.results [] (WRes (.c none (.v (.bool r))) []))) ⟨[(2, .ptr 2 0), (3, .ptr 3 0), (5, .c none (.v (.int .i64 ((i_5 : Nat) : Int))))], [(2, [(none, .v (.int .i64 a.fOp)), (none, .v (.string a.fName)), (none, .v (.int .i64 a.fN)), (none, .sl (a.fKids.map TValue.cells)), (none, .v (.bool a.fSet.fAll)), (none, .sl (a.fSet.fList.map TExc.cells))]), (3, [(none, .v (.int .i64 b.fOp)), (none, .v (.string b.fName)), (none, .v (.int .i64 b.fN)), (none, .sl (b.fKids.map TValue.cells)), (none, .v (.bool b.fSet.fAll)), (none, .sl (b.fSet.fList.map TExc.cells))])]⟩
theorem lazycref25_Same_all : (∀ (a : TValue) (b : TValue), ∀ r, lazycref25_Same a b = some r → lazycref25_Same.M a b r) ∧ (∀ (i_5 : Nat) (a : TValue) (b : TValue) (i_5_s_ : (List TValue)), ∀ r, lazycref25_Same_l1 i_5 a b i_5_s_ = some r → lazycref25_Same_l1.M i_5 a b i_5_s_ r) := by
  refine lazycref25_Same.mutual_partial_correctness lazycref25_Same.M lazycref25_Same_l1.M ?_ ?_
  · intro lazycref25_Same_l1' ih_lazycref25_Same_l1 a b r hF
    unfold lazycref25_Same.M
    refine enter tabOk Tryz.func10 rfl (by decide) (Nat.le_of_ble_eq_true rfl) rfl rfl rfl ?_
    refine AWP.seq ?_
    refine ns ?_
    refine AWP.seq ?_
    refine AWP.seq ?_
    obtain ⟨c7, hc7, hF⟩ := bind_some hF
    refine AWP.cutN (fun T => ∃ r, WS r T ⟨[(2, .ptr 2 0), (3, .ptr 3 0), (41, .c none (.v (.bool (c7 || (((a.fKids.length : Nat) : Int) != ((b.fKids.length : Nat) : Int))))))], [(2, [(none, .v (.int .i64 a.fOp)), (none, .v (.string a.fName)), (none, .v (.int .i64 a.fN)), (none, .sl (a.fKids.map TValue.cells)), (none, .v (.bool a.fSet.fAll)), (none, .sl (a.fSet.fList.map TExc.cells))]), (3, [(none, .v (.int .i64 b.fOp)), (none, .v (.string b.fName)), (none, .v (.int .i64 b.fN)), (none, .sl (b.fKids.map TValue.cells)), (none, .v (.bool b.fSet.fAll)), (none, .sl (b.fSet.fList.map TExc.cells))])]⟩) ?_ (fun T hw => ?_)
    · refine ns ?_
      refine branchG_intro false (fun hc10 => ?_) (fun hc10 => ?_)
      · (conv => whnf)
        have hc7 := ift hc10 hc7
        obtain rfl := some_eq hc7
        refine st ?_
        exact wx (WS.mk (tp (tp (wt_cons (wd_c (web hc10)) wt_nil))) (wb_cons rfl (cc (cc (cc (cc (cc (cc wc_nil)))))) (wb_cons rfl (cc (cc (cc (cc (cc (cc wc_nil)))))) wb_nil)))
      · (conv => whnf)
        refine st ?_
        refine branchG_intro false (fun hc11 => ?_) (fun hc11 => ?_)
        · (conv => whnf)
          have hc7 := ift (And.intro hc10 hc11) hc7
          obtain rfl := some_eq hc7
          refine st ?_
          exact wx (WS.mk (tp (tp (wt_cons (wd_c (web (And.intro hc10 hc11))) wt_nil))) (wb_cons rfl (cc (cc (cc (cc (cc (cc wc_nil)))))) (wb_cons rfl (cc (cc (cc (cc (cc (cc wc_nil)))))) wb_nil)))
        · (conv => whnf)
          refine st ?_
          refine branchG_intro false (fun hc12 => ?_) (fun hc12 => ?_)
          · have hc7 := ift (And.intro hc10 (And.intro hc11 hc12)) hc7
            (conv => whnf)
            obtain rfl := some_eq hc7
            refine st ?_
            exact wx (WS.mk (tp (tp (wt_cons (wd_c (web (And.intro hc10 (And.intro hc11 hc12)))) wt_nil))) (wb_cons rfl (cc (cc (cc (cc (cc (cc wc_nil)))))) (wb_cons rfl (cc (cc (cc (cc (cc (cc wc_nil)))))) wb_nil)))
          · have hc7 := ife (And.intro hc10 (And.intro hc11 hc12)) hc7
            obtain ⟨r6, hr6, hc7⟩ := bind_some hc7
            (conv => whnf)
            refine st ?_
            refine Exists.intro [] ?_
            refine st ?_
            refine cm (CallsX.weak (rn []) (lazycref25_SameSet_ok a.fSet b.fSet _ hr6) rfl (WS.mk (wt_cons (wd_agg (lc (lc wl_nil))) (wt_cons (wd_agg (lc (lc wl_nil))) wt_nil)) wb_nil)) ?_
            refine st ?_
            obtain rfl := some_eq hc7
            refine st ?_
            refine branchG_intro false (fun hc13 => ?_) (fun hc13 => ?_)
            · (conv => whnf)
              refine st ?_
              exact wx (WS.mk (tp (tp (wt_cons (wd_c (web (And.intro hc10 (And.intro hc11 (And.intro hc12 hc13))))) wt_nil))) (wb_cons rfl (cc (cc (cc (cc (cc (cc wc_nil)))))) (wb_cons rfl (cc (cc (cc (cc (cc (cc wc_nil)))))) wb_nil)))
            · (conv => whnf)
              refine st ?_
              intro hlen8
              (try rw [List.length_map] at hlen8)
              (try rw [List.length_map])
              refine st ?_
              intro hlen9
              (try rw [List.length_map] at hlen9)
              (try rw [List.length_map])
              refine st ?_
              exact wx (WS.mk (tp (tp (wt_cons (wd_c (web (And.intro hc10 (And.intro hc11 (And.intro hc12 hc13))))) wt_nil))) (wb_cons rfl (cc (cc (cc (cc (cc (cc wc_nil)))))) (wb_cons rfl (cc (cc (cc (cc (cc (cc wc_nil)))))) wb_nil)))
    obtain ⟨r0, hw⟩ := hw
    (conv => whnf)
    refine AWP.weak r0 hw ?_
    refine nw ?_
    refine branch_hF hF (fun hc14 hF => ?_) (fun hc14 hF => ?_)
    · refine AWP.seq ?_
      refine ns ?_
      obtain rfl := some_eq hF
      refine ns ?_
      exact wx (WS.mk (tc wt_nil) wb_nil)
    · refine nw ?_
      refine AWP.seq ?_
      refine AWP.seq ?_
      refine ns ?_
      refine AWP.block ?_
      refine AWP.loop ?_
      refine AWL.weak (rn []) ?_ (ih_lazycref25_Same_l1 0 a b a.fKids _ hF ([]) rfl rfl)
      exact (WS.mk (tp (tp (tc wt_nil))) (wb_cons rfl (cc (cc (cc (cc (cc (cc wc_nil)))))) (wb_cons rfl (cc (cc (cc (cc (cc (cc wc_nil)))))) wb_nil)))
  · intro lazycref25_Same' lazycref25_Same_l1' ih_lazycref25_Same ih_lazycref25_Same_l1 i_5 a b i_5_s_ r hF
    unfold lazycref25_Same_l1.M
    intro pre_i_5 hs_i_5 hk_i_5
    refine AWL.step ?_
    refine AWP.seq ?_
    refine AWP.seq ?_
    refine ns ?_
    intro hlen33
    (try rw [List.length_map] at hlen33)
    (try rw [List.length_map])
    refine st ?_
    refine nw ?_
    refine branch_list hs_i_5 hk_i_5 (fun x34 xs35 hp36 hx36 hl36 => ?_) (fun hp36 => ?_)
    · subst hp36
      refine nw ?_
      refine AWP.seq ?_
      refine AWP.block ?_
      refine AWP.seq ?_
      obtain ⟨x37, hx37, hF⟩ := bind_some hF
      obtain ⟨r38, hr38, hF⟩ := bind_some hF
      refine nn ?_
      refine Exists.intro 10 (Exists.intro [[], [], [], [], [], [], [], [], [], []] (Exists.intro [([49, 50, 51, 52, 53, 54, 55, 56, 57, 58], [], []), ([50, 51, 52, 53, 54, 55, 56, 57, 58], [], []), ([49, 50, 51, 52, 53, 54, 55, 56, 57, 58], [], []), ([52, 53, 54, 55, 56, 57, 58], [], []), ([53, 54, 55, 56, 57, 58], [], []), ([49, 50, 51, 52, 53, 54, 55, 56, 57, 58], [], []), ([49, 50, 51, 52, 53, 55, 56, 57, 58], [], []), ([49, 50, 51, 52, 53, 54, 55, 56, 57, 58], [], []), ([49, 50, 51, 52, 53, 57, 58], [], []), ([49, 50, 51, 52, 53, 58], [], [])] (Exists.intro [49, 50, 51, 52, 53, 54, 55, 56, 57, 58] (And.intro (by decide +kernel) ?_))))
      refine dp ?_
      refine dp ?_
      refine dp ?_
      ((repeat (first | ((conv => whnf); (with_reducible refine And.intro ?_ ?_); (focus (first | exact Eq.refl _ | exact trivial | exact Int.natCast_nonneg _ | assumption | exact Nat.le_of_ble_eq_true (Eq.refl true) | decide))))); (conv => whnf); apply Exists.intro; apply Exists.intro; apply And.intro; (focus (((repeat (first | ((conv => whnf); (with_reducible refine And.intro ?_ ?_); (focus (first | exact Eq.refl _ | exact trivial | exact Int.natCast_nonneg _ | assumption | exact Nat.le_of_ble_eq_true (Eq.refl true) | decide))))); (conv => whnf)) <;> (rw [map_get (TValue.cells_eq x34) hx36]) <;> ((repeat (first | ((conv => whnf); (with_reducible refine And.intro ?_ ?_); (focus (first | exact Eq.refl _ | exact trivial | exact Int.natCast_nonneg _ | assumption | exact Nat.le_of_ble_eq_true (Eq.refl true) | decide))))); (conv => whnf)) <;> (exact rfl))); apply And.intro; (focus exact rfl); (conv => whnf))
      refine dp ?_
      refine dp ?_
      refine dp ?_
      refine dp ?_
      ((repeat (first | ((conv => whnf); (with_reducible refine And.intro ?_ ?_); (focus (first | exact Eq.refl _ | exact trivial | exact Int.natCast_nonneg _ | assumption | exact Nat.le_of_ble_eq_true (Eq.refl true) | decide))))); (conv => whnf); apply Exists.intro; apply Exists.intro; apply And.intro; (focus (((repeat (first | ((conv => whnf); (with_reducible refine And.intro ?_ ?_); (focus (first | exact Eq.refl _ | exact trivial | exact Int.natCast_nonneg _ | assumption | exact Nat.le_of_ble_eq_true (Eq.refl true) | decide))))); (conv => whnf)) <;> (rw [map_get (TValue.cells_eq x37) hx37]) <;> ((repeat (first | ((conv => whnf); (with_reducible refine And.intro ?_ ?_); (focus (first | exact Eq.refl _ | exact trivial | exact Int.natCast_nonneg _ | assumption | exact Nat.le_of_ble_eq_true (Eq.refl true) | decide))))); (conv => whnf)) <;> (exact rfl))); apply And.intro; (focus exact rfl); (conv => whnf))
      refine dp ?_
      refine st ?_
      refine Exists.intro [] ?_
      refine st ?_
      refine cm (CallsX.weak (rn []) (ih_lazycref25_Same x34 x37 _ hr38) rfl (WS.mk (wt_cons (wd_agg (lc (lc (lc (lc (lc (lc wl_nil))))))) (wt_cons (wd_agg (lc (lc (lc (lc (lc (lc wl_nil))))))) wt_nil)) wb_nil)) ?_
      refine st ?_
      refine nw ?_
      refine branch_hF hF (fun hc39 hF => ?_) (fun hc39 hF => ?_)
      · refine AWP.seq ?_
        refine ns ?_
        obtain rfl := some_eq hF
        refine ns ?_
        exact wx (WS.mk (tc wt_nil) wb_nil)
      · refine nw ?_
        refine ns ?_
        refine AWL.weak (rn []) ?_ (ih_lazycref25_Same_l1 (i_5 + 1) a b xs35 _ hF (pre_i_5 ++ [x34]) (by rw [hs_i_5]; simp) (by rw [hk_i_5]; simp))
        exact (WS.mk (tp (tp (wt_cons (wd_c (we_i (wrap_succ hlen33 hl36))) wt_nil))) (wb_cons rfl (cc (cc (cc (cc (cc (cc wc_nil)))))) (wb_cons rfl (cc (cc (cc (cc (cc (cc wc_nil)))))) wb_nil)))
    · subst hp36
      refine nw ?_
      refine AWP.seq ?_
      refine ns ?_
      obtain rfl := some_eq hF
      refine ns ?_
      exact wx (WS.mk (tc wt_nil) wb_nil)
theorem lazycref25_Same_ok : ∀ (a : TValue) (b : TValue), ∀ r, lazycref25_Same a b = some r → lazycref25_Same.M a b r := lazycref25_Same_all.1
theorem lazycref25_Same_l1_ok : ∀ (i_5 : Nat) (a : TValue) (b : TValue) (i_5_s_ : (List TValue)), ∀ r, lazycref25_Same_l1 i_5 a b i_5_s_ = some r → lazycref25_Same_l1.M i_5 a b i_5_s_ r := lazycref25_Same_all.2
end Go.Proofs.YtafniolcakiljaaGreatDoor

set_option linter.unusedVariables false
set_option linter.unusedSimpArgs false
set_option maxRecDepth 100000
set_option maxHeartbeats 4000000
namespace Go.Proofs.YtafniolcakiljaaGreatDoor
open Go Go.Am
mutual
def lazycref25_Nesting (v : TValue) : Option (Int) :=
  lazycref25_Nesting_l1 0 0 v v.fKids
  partial_fixpoint
def lazycref25_Nesting_l1 (n_3 : Int) (i_4 : Nat) (v : TValue) (i_4_s_ : (List TValue)) : Option (Int) :=
  (match i_4_s_ with
  | x16 :: xs17 =>
  lazycref25_Nesting x16 >>= fun r19 =>
  lazycref25_Nesting_l1 (if r19 > n_3 then r19 else n_3) (i_4 + 1) v xs17
  | [] =>
  some (IntKind.i64.wrap (n_3 + 1)))
  partial_fixpoint
end
def lazycref25_Nesting.M (v : TValue) (r : Int) : Prop :=
  CallsX Tryz.prog 38 [.agg [.v (.int .i64 v.fOp), .v (.string v.fName), .v (.int .i64 v.fN), .sl (v.fKids.map TValue.cells), .v (.bool v.fSet.fAll), .sl (v.fSet.fList.map TExc.cells)]] [] (fun d b => d = .c none (.v (.int .i64 r)) ∧ b = [])
def lazycref25_Nesting_l1.M (n_3 : Int) (i_4 : Nat) (v : TValue) (i_4_s_ : (List TValue)) (r : Int) : Prop :=
  ∀ pre_i_4 : List TValue, v.fKids = pre_i_4 ++ i_4_s_ → i_4 = pre_i_4.length → AWL Tryz.prog 22 (Code.sub (bodyOf Tryz.f38) [1, 1, 0, 1, 0, 0]) (Code.cont Tryz.prog 22 (bodyOf Tryz.f38) [1, 1, 0, 1, 0] (endK tab Tryz.f38.results [] (WRes (.c none (.v (.int .i64 r))) []))) ⟨[(1, .ptr 1 0), (3, .c none (.v (.int .i64 n_3))), (4, .c none (.v (.int .i64 ((i_4 : Nat) : Int))))], [(1, [(none, .v (.int .i64 v.fOp)), (none, .v (.string v.fName)), (none, .v (.int .i64 v.fN)), (none, .sl (v.fKids.map TValue.cells)), (none, .v (.bool v.fSet.fAll)), (none, .sl (v.fSet.fList.map TExc.cells))])]⟩
theorem lazycref25_Nesting_all : (∀ (v : TValue), ∀ r, lazycref25_Nesting v = some r → lazycref25_Nesting.M v r) ∧ (∀ (n_3 : Int) (i_4 : Nat) (v : TValue) (i_4_s_ : (List TValue)), ∀ r, lazycref25_Nesting_l1 n_3 i_4 v i_4_s_ = some r → lazycref25_Nesting_l1.M n_3 i_4 v i_4_s_ r) := by
  refine lazycref25_Nesting.mutual_partial_correctness lazycref25_Nesting.M lazycref25_Nesting_l1.M ?_ ?_
  · intro lazycref25_Nesting_l1' ih_lazycref25_Nesting_l1 v r hF
    unfold lazycref25_Nesting.M
    refine enter tabOk Tryz.func38 rfl (by decide) (Nat.le_of_ble_eq_true rfl) rfl rfl rfl ?_
    refine AWP.seq ?_
    refine ns ?_
    refine AWP.seq ?_
    refine ns ?_
    refine AWP.seq ?_
    refine AWP.seq ?_
    refine ns ?_
    refine AWP.block ?_
    refine AWP.loop ?_
    refine AWL.weak (rn []) ?_ (ih_lazycref25_Nesting_l1 0 0 v v.fKids _ hF ([]) rfl rfl)
    exact (WS.mk (tp (tc (tc wt_nil))) (wb_cons rfl (cc (cc (cc (cc (cc (cc wc_nil)))))) wb_nil))
  · intro lazycref25_Nesting' lazycref25_Nesting_l1' ih_lazycref25_Nesting ih_lazycref25_Nesting_l1 n_3 i_4 v i_4_s_ r hF
    unfold lazycref25_Nesting_l1.M
    intro pre_i_4 hs_i_4 hk_i_4
    refine AWL.step ?_
    refine AWP.seq ?_
    refine AWP.seq ?_
    refine ns ?_
    intro hlen15
    (try rw [List.length_map] at hlen15)
    (try rw [List.length_map])
    refine st ?_
    refine nw ?_
    refine branch_list hs_i_4 hk_i_4 (fun x16 xs17 hp18 hx18 hl18 => ?_) (fun hp18 => ?_)
    · subst hp18
      refine nw ?_
      refine AWP.seq ?_
      refine AWP.block ?_
      obtain ⟨r19, hr19, hF⟩ := bind_some hF
      refine nn ?_
      refine sr (map_get (f := TValue.cells) (TValue.cells_eq x16) hx18) ?_
      refine st ?_
      refine Exists.intro [] ?_
      refine st ?_
      refine cm (CallsX.weak (rn []) (ih_lazycref25_Nesting x16 _ hr19) rfl (WS.mk (wt_cons (wd_agg (lc (lc (lc (lc (lc (lc wl_nil))))))) wt_nil) wb_nil)) ?_
      refine st ?_
      refine ns ?_
      refine AWL.weak (rn []) ?_ (ih_lazycref25_Nesting_l1 (if r19 > n_3 then r19 else n_3) (i_4 + 1) v xs17 _ hF (pre_i_4 ++ [x16]) (by rw [hs_i_4]; simp) (by rw [hk_i_4]; simp))
      exact (WS.mk (tp (tc (wt_cons (wd_c (we_i (wrap_succ hlen15 hl18))) wt_nil))) (wb_cons rfl (cc (cc (cc (cc (cc (cc wc_nil)))))) wb_nil))
    · subst hp18
      refine nw ?_
      refine AWP.seq ?_
      refine ns ?_
      obtain rfl := some_eq hF
      refine ns ?_
      exact wx (WS.mk (tc wt_nil) wb_nil)
theorem lazycref25_Nesting_ok : ∀ (v : TValue), ∀ r, lazycref25_Nesting v = some r → lazycref25_Nesting.M v r := lazycref25_Nesting_all.1
theorem lazycref25_Nesting_l1_ok : ∀ (n_3 : Int) (i_4 : Nat) (v : TValue) (i_4_s_ : (List TValue)), ∀ r, lazycref25_Nesting_l1 n_3 i_4 v i_4_s_ = some r → lazycref25_Nesting_l1.M n_3 i_4 v i_4_s_ r := lazycref25_Nesting_all.2
end Go.Proofs.YtafniolcakiljaaGreatDoor

