/- Part 5 of the proof: the program's functions as Lean functions with their walks, and the plain law. It holds for every input, without conditions. -/
import Derived.Test.YtklkaikbpciepaaGreatDoorProg
import Derived.Lib.AppendIntMem
import Derived.Test.YtklkaikbpciepaaGreatDoorSfA
import Derived.Test.YtklkaikbpciepaaGreatDoorSfB
import Derived.Test.YtklkaikbpciepaaGreatDoorSfC
import Derived.Test.YtklkaikbpciepaaGreatDoorSfD
set_option linter.unusedVariables false
namespace Go.Proofs.YtklkaikbpciepaaGreatDoor
open Go Go.Am
def Ztj (o : Option Value) : Prop := ∃ m, o = some (.int .i64 m)
def ZlD (o : Option Value) : Prop := ∃ ev, o = some ev ∧ (ev = .nilIface ∨ ∃ te pe, ev = .iface te pe)
def Zqu (i : Nat) (o : Option Value) : Prop := o = some (.int .u64 ((10 ^ i : Nat) : Int))
def ZpI (o : Option Value) : Prop := o = none
def Zmp : List (Nat × Nat × (Option Value → Prop)) := (1, 20, ZpI) :: (List.range 20).map fun i => (1, i, Zqu i)
def ZeO : List (Nat × Nat × (Option Value → Prop)) := [(0, 0, Ztj), (4, 0, ZlD), (5, 0, ZlD)]
instance : Gl Tryz.prog := ⟨Zmp ++ ZeO⟩

def tab : Tab := [
 (2, ⟨(.int .i64), 1, 8, some [.v (.int .i64 0)], true⟩),
 (3, ⟨(.int .i64), 1, 8, some [.v (.int .i64 0)], true⟩),
 (4, ⟨.bool, 1, 1, some [.v (.bool false)], true⟩),
 (5, ⟨(.int .u8), 1, 1, some [.v (.int .u8 0)], true⟩),
 (9, ⟨.string, 1, 16, some [.v (.string ⟨#[]⟩)], true⟩),
 (12, ⟨(.int .u64), 1, 8, some [.v (.int .u64 0)], true⟩),
 (13, ⟨(.struct [(9, 0), (12, 1)]), 2, 24, some [.v (.string ⟨#[]⟩), .v (.int .u64 0)], false⟩),
 (21, ⟨(.int .i32), 1, 4, some [.v (.int .i32 0)], true⟩),
 (22, ⟨(.slice 69), 1, 24, some [.nils], true⟩),
 (23, ⟨(.slice 57), 1, 24, some [.nils], true⟩),
 (24, ⟨(.struct [(22, 0), (23, 1)]), 2, 48, some [.nils, .nils], true⟩),
 (25, ⟨(.struct [(22, 0), (23, 1)]), 2, 48, some [.nils, .nils], true⟩),
 (28, ⟨(.int .i64), 1, 8, some [.v (.int .i64 0)], true⟩),
 (29, ⟨(.struct [(28, 0), (9, 1), (3, 2), (3, 3)]), 4, 40, some [.v (.int .i64 0), .v (.string ⟨#[]⟩), .v (.int .i64 0), .v (.int .i64 0)], true⟩),
 (30, ⟨(.struct [(28, 0), (9, 1), (3, 2), (3, 3)]), 4, 40, some [.v (.int .i64 0), .v (.string ⟨#[]⟩), .v (.int .i64 0), .v (.int .i64 0)], true⟩),
 (36, ⟨(.int .i64), 1, 8, some [.v (.int .i64 0)], true⟩),
 (37, ⟨(.slice 49), 1, 24, some [.nils], true⟩),
 (38, ⟨(.slice 41), 1, 24, some [.nils], true⟩),
 (39, ⟨(.slice 52), 1, 24, some [.nils], true⟩),
 (40, ⟨(.struct [(36, 0), (9, 1), (37, 2), (4, 3), (23, 4), (38, 5), (39, 6)]), 7, 128, some [.v (.int .i64 0), .v (.string ⟨#[]⟩), .nils, .v (.bool false), .nils, .nils, .nils], true⟩),
 (41, ⟨(.struct [(36, 0), (9, 1), (37, 2), (4, 3), (23, 4), (38, 5), (39, 6)]), 7, 128, some [.v (.int .i64 0), .v (.string ⟨#[]⟩), .nils, .v (.bool false), .nils, .nils, .nils], true⟩),
 (44, ⟨(.slice 9), 1, 24, some [.nils], true⟩),
 (47, ⟨(.int .i64), 1, 8, some [.v (.int .i64 0)], true⟩),
 (48, ⟨(.struct [(47, 0), (9, 1), (3, 2)]), 3, 32, some [.v (.int .i64 0), .v (.string ⟨#[]⟩), .v (.int .i64 0)], true⟩),
 (49, ⟨(.struct [(47, 0), (9, 1), (3, 2)]), 3, 32, some [.v (.int .i64 0), .v (.string ⟨#[]⟩), .v (.int .i64 0)], true⟩),
 (50, ⟨(.int .i64), 1, 8, some [.v (.int .i64 0)], true⟩),
 (51, ⟨(.struct [(50, 0), (9, 1), (3, 2), (44, 3), (41, 4)]), 11, 184, some [.v (.int .i64 0), .v (.string ⟨#[]⟩), .v (.int .i64 0), .nils, .v (.int .i64 0), .v (.string ⟨#[]⟩), .nils, .v (.bool false), .nils, .nils, .nils], true⟩),
 (52, ⟨(.struct [(50, 0), (9, 1), (3, 2), (44, 3), (41, 4)]), 11, 184, some [.v (.int .i64 0), .v (.string ⟨#[]⟩), .v (.int .i64 0), .nils, .v (.int .i64 0), .v (.string ⟨#[]⟩), .nils, .v (.bool false), .nils, .nils, .nils], true⟩),
 (55, ⟨(.int .i64), 1, 8, some [.v (.int .i64 0)], true⟩),
 (56, ⟨(.struct [(9, 0), (55, 1), (44, 2), (44, 3), (41, 4)]), 11, 200, some [.v (.string ⟨#[]⟩), .v (.int .i64 0), .nils, .nils, .v (.int .i64 0), .v (.string ⟨#[]⟩), .nils, .v (.bool false), .nils, .nils, .nils], true⟩),
 (57, ⟨(.struct [(9, 0), (55, 1), (44, 2), (44, 3), (41, 4)]), 11, 200, some [.v (.string ⟨#[]⟩), .v (.int .i64 0), .nils, .nils, .v (.int .i64 0), .v (.string ⟨#[]⟩), .nils, .v (.bool false), .nils, .nils, .nils], true⟩),
 (61, ⟨(.slice 63), 1, 24, some [.nils], true⟩),
 (62, ⟨(.struct [(9, 0), (61, 1)]), 2, 40, some [.v (.string ⟨#[]⟩), .nils], true⟩),
 (63, ⟨(.struct [(9, 0), (61, 1)]), 2, 40, some [.v (.string ⟨#[]⟩), .nils], true⟩),
 (68, ⟨(.struct [(9, 0), (3, 1), (3, 2)]), 3, 32, some [.v (.string ⟨#[]⟩), .v (.int .i64 0), .v (.int .i64 0)], true⟩),
 (69, ⟨(.struct [(9, 0), (3, 1), (3, 2)]), 3, 32, some [.v (.string ⟨#[]⟩), .v (.int .i64 0), .v (.int .i64 0)], true⟩),
 (81, ⟨(.ptr 86), 1, 8, some [.v (.pointer none)], true⟩),
 (82, ⟨(.map 9 3), 1, 8, some [.v (.map none)], true⟩),
 (83, ⟨(.map 9 3), 1, 8, some [.v (.map none)], true⟩),
 (84, ⟨(.map 9 4), 1, 8, some [.v (.map none)], true⟩),
 (85, ⟨(.struct [(83, 0), (84, 1), (44, 2)]), 3, 40, some [.v (.map none), .v (.map none), .nils], true⟩),
 (86, ⟨(.struct [(83, 0), (84, 1), (44, 2)]), 3, 40, some [.v (.map none), .v (.map none), .nils], true⟩),
 (91, ⟨(.ptr 93), 1, 8, some [.v (.pointer none)], true⟩),
 (92, ⟨(.struct [(82, 0), (83, 1), (4, 2)]), 3, 24, some [.v (.map none), .v (.map none), .v (.bool false)], true⟩),
 (93, ⟨(.struct [(82, 0), (83, 1), (4, 2)]), 3, 24, some [.v (.map none), .v (.map none), .v (.bool false)], true⟩),
 (103, ⟨(.ptr 105), 1, 8, some [.v (.pointer none)], true⟩),
 (104, ⟨(.struct [(44, 0), (3, 1), (3, 2)]), 3, 40, some [.nils, .v (.int .i64 0), .v (.int .i64 0)], true⟩),
 (105, ⟨(.struct [(44, 0), (3, 1), (3, 2)]), 3, 40, some [.nils, .v (.int .i64 0), .v (.int .i64 0)], true⟩),
 (112, ⟨(.ptr 115), 1, 8, some [.v (.pointer none)], true⟩),
 (113, ⟨(.slice 5), 1, 24, some [.nils], true⟩),
 (114, ⟨(.struct [(112, 0), (113, 1)]), 2, 32, some [.v (.pointer none), .nils], true⟩),
 (115, ⟨(.struct [(112, 0), (113, 1)]), 2, 32, some [.v (.pointer none), .nils], true⟩),
 (118, ⟨.iface, 1, 16, some [.v .nilIface], false⟩),
 (139, ⟨(.ptr 5), 1, 8, some [.v (.pointer none)], true⟩),
 (151, ⟨(.struct []), 0, 0, some [], true⟩),
 (152, ⟨(.struct []), 0, 0, some [], true⟩),
 (160, ⟨(.int .u64), 1, 8, some [.v (.int .u64 0)], true⟩),
 (168, ⟨(.array 4 3), 4, 32, some [.v (.int .i64 0), .v (.int .i64 0), .v (.int .i64 0), .v (.int .i64 0)], true⟩),
 (169, ⟨(.map 3 4), 1, 8, some [.v (.map none)], true⟩),
 (176, ⟨(.int .u64), 1, 8, some [.v (.int .u64 0)], true⟩),
 (179, ⟨(.int .u32), 1, 4, some [.v (.int .u32 0)], true⟩),
 (186, ⟨(.int .i64), 1, 8, some [.v (.int .i64 0)], true⟩),
 (194, ⟨(.struct [(5, 0), (5, 1)]), 2, 2, some [.v (.int .u8 0), .v (.int .u8 0)], true⟩),
 (203, ⟨(.struct [(9, 0), (9, 1), (118, 2)]), 3, 48, some [.v (.string ⟨#[]⟩), .v (.string ⟨#[]⟩), .v .nilIface], false⟩),
 (210, ⟨(.struct [(9, 0)]), 1, 16, some [.v (.string ⟨#[]⟩)], true⟩)]
set_option maxRecDepth 100000
theorem tabOk : TOk Tryz.prog tab := by unfold TOk; kernel_rfl
theorem follows : Tryz.prog.follows .mixedOrders = true := by kernel_rfl
theorem Zz7 (nt : Nat) (h : nt ≤ EXT) : ZqE Tryz.prog tab nt (@Zp7) := ZuL tabOk h follows

set_option linter.unusedSimpArgs false
set_option maxHeartbeats 4000000
set_option synthInstance.maxHeartbeats 1000000
set_option synthInstance.maxSize 1000
theorem nd {nt : Nat} (h : decide (nt ≤ EXT) = true) (c : Code) (Q : Exit → AS → Prop) (S : AS) (hk : Am.node (@Zp7) Tryz.prog tab nt c Q S) : AWP Tryz.prog nt c Q S :=
 AWP.node tabOk (of_decide_eq_true h) (Zz7 nt (of_decide_eq_true h)) c Q S hk
theorem nn {nt : Nat} {c : Code} {Q : Exit → AS → Prop} {S : AS} (hk : Am.node (@Zp7) Tryz.prog tab nt c Q S) (h : decide (nt ≤ EXT) = true := by decide) : AWP Tryz.prog nt c Q S := nd h c Q S hk
theorem nw {nt : Nat} {c : Code} {Q : Exit → AS → Prop} {S : AS} {G' : Prop} (hk : G') (s : ZeX (Am.node (@Zp7) Tryz.prog tab nt c Q S) G' := by (conv => (arg 1; whnf)); exact ZeX.done) (h : decide (nt ≤ EXT) = true := by decide) : AWP Tryz.prog nt c Q S := nd h c Q S (s hk)
theorem ns {nt : Nat} {c : Code} {Q : Exit → AS → Prop} {S : AS} {G' : Prop} (hk : G') (s : ZeX (Am.node (@Zp7) Tryz.prog tab nt c Q S) G' := by
  (repeat (first | ((conv => (arg 1; whnf)); (with_reducible apply ZeX.side); (focus (first | exact Eq.refl _ | exact trivial | (with_reducible assumption) | (with_reducible exact Int.natCast_nonneg _) | exact Nat.le_of_ble_eq_true (Eq.refl true) | exact Zfy (Eq.refl _) (Eq.refl _) (Eq.refl _) | decide)))))
  (conv => (arg 1; whnf))
  exact ZeX.done) (h : decide (nt ≤ EXT) = true := by decide) : AWP Tryz.prog nt c Q S := nd h c Q S (s hk)
theorem en {f : FuncId} {fn : Func} (hf : Tryz.prog.funcs[f]? = some fn) {args : List D} {bx bx' : ZbN} {d' : D} (hk : AWP Tryz.prog fn.ntmps (Zt fn) (Zbl tab fn.results (Zbo d' bx')) ⟨ZdT 0 args, bx⟩)
  (hb : fn.body.isSome = true := by exact rfl) (hname : (fn.name == "runtime.NumGoroutine") = false := by decide) (hargs : args.length ≤ fn.ntmps := by exact Nat.le_of_ble_eq_true rfl) : Zn Tryz.prog f args bx fun d b => d = d' ∧ b = bx' :=
 enter tabOk hf hb hname hargs hk
def c_S (x : ByteArray) : List E := [.v (.string x)]
theorem Zbk (x : ByteArray) : (c_S x).length = 1 := rfl
structure Zg where
 fwords : (List ByteArray)
 fat : Int
 fdepth : Int
def Zg.cells (v : Zg) : List E := [.sl (v.fwords.map c_S), .v (.int .i64 v.fat), .v (.int .i64 v.fdepth)]
theorem Zg.cells_eq (v : Zg) : v.cells = [.sl (v.fwords.map c_S), .v (.int .i64 v.fat), .v (.int .i64 v.fdepth)] := rfl
theorem Zg.cells_len (v : Zg) : v.cells.length = 3 := rfl
structure ZhU where
 fCode : Int
 fName : ByteArray
 fLine : Int
 fCol : Int
def ZhU.cells (v : ZhU) : List E := [.v (.int .i64 v.fCode), .v (.string v.fName), .v (.int .i64 v.fLine), .v (.int .i64 v.fCol)]
theorem ZhU.cells_eq (v : ZhU) : v.cells = [.v (.int .i64 v.fCode), .v (.string v.fName), .v (.int .i64 v.fLine), .v (.int .i64 v.fCol)] := rfl
theorem ZhU.cells_len (v : ZhU) : v.cells.length = 4 := rfl
def Zm (x : Int) : List E := [.v (.int .i64 x)]
theorem ZaO (x : Int) : (Zm x).length = 1 := rfl
def c_B (x : Bool) : List E := [.v (.bool x)]
theorem Zok (x : Bool) : (c_B x).length = 1 := rfl
structure Zd where
 fbound : (List (ByteArray × Int))
 fseen : (List (ByteArray × Bool))
 fout : (List ByteArray)
structure Zh where
 fcons : (List (ByteArray × Int))
 flocal : (List (ByteArray × Int))
 fbad : Bool
structure Zq where
 fOp : Int
 fName : ByteArray
 fN : Int
def Zq.cells (v : Zq) : List E := [.v (.int .i64 v.fOp), .v (.string v.fName), .v (.int .i64 v.fN)]
theorem Zq.cells_eq (v : Zq) : v.cells = [.v (.int .i64 v.fOp), .v (.string v.fName), .v (.int .i64 v.fN)] := rfl
theorem Zq.cells_len (v : Zq) : v.cells.length = 3 := rfl
mutual
inductive Zc where
 | mk (fName : ByteArray) (fOp : Int) (fFree : (List ByteArray)) (fParams : (List ByteArray)) (fBody : Zo)
inductive Zo where
 | mk (fOp : Int) (fName : ByteArray) (fArgs : (List Zq)) (fRec : Bool) (fBinds : (List Zc)) (fKids : (List Zo)) (fAlts : (List Zi))
inductive Zi where
 | mk (fOp : Int) (fName : ByteArray) (fN : Int) (fVars : (List ByteArray)) (fBody : Zo)
end
def Zc.fName : Zc → ByteArray | .mk x _ _ _ _ => x
def Zc.fOp : Zc → Int | .mk _ x _ _ _ => x
def Zc.fFree : Zc → (List ByteArray) | .mk _ _ x _ _ => x
def Zc.fParams : Zc → (List ByteArray) | .mk _ _ _ x _ => x
def Zc.fBody : Zc → Zo | .mk _ _ _ _ x => x
def Zo.fOp : Zo → Int | .mk x _ _ _ _ _ _ => x
def Zo.fName : Zo → ByteArray | .mk _ x _ _ _ _ _ => x
def Zo.fArgs : Zo → (List Zq) | .mk _ _ x _ _ _ _ => x
def Zo.fRec : Zo → Bool | .mk _ _ _ x _ _ _ => x
def Zo.fBinds : Zo → (List Zc) | .mk _ _ _ _ x _ _ => x
def Zo.fKids : Zo → (List Zo) | .mk _ _ _ _ _ x _ => x
def Zo.fAlts : Zo → (List Zi) | .mk _ _ _ _ _ _ x => x
def Zi.fOp : Zi → Int | .mk x _ _ _ _ => x
def Zi.fName : Zi → ByteArray | .mk _ x _ _ _ => x
def Zi.fN : Zi → Int | .mk _ _ x _ _ => x
def Zi.fVars : Zi → (List ByteArray) | .mk _ _ _ x _ => x
def Zi.fBody : Zi → Zo | .mk _ _ _ _ x => x
mutual
def Zc.cells : Zc → List E
 | .mk x0 x1 x2 x3 x4 => [.v (.string x0)] ++ [.v (.int .i64 x1)] ++ [.sl (x2.map c_S)] ++ [.sl (x3.map c_S)] ++ (Zo.cells x4)
def Zo.cells : Zo → List E
 | .mk x0 x1 x2 x3 x4 x5 x6 => [.v (.int .i64 x0)] ++ [.v (.string x1)] ++ [.sl (x2.map Zq.cells)] ++ [.v (.bool x3)] ++ [.sl (Zc.encs x4)] ++ [.sl (Zo.encs x5)] ++ [.sl (Zi.encs x6)]
def Zi.cells : Zi → List E
 | .mk x0 x1 x2 x3 x4 => [.v (.int .i64 x0)] ++ [.v (.string x1)] ++ [.v (.int .i64 x2)] ++ [.sl (x3.map c_S)] ++ (Zo.cells x4)
def Zc.encs : List Zc → List (List E)
 | [] => []
 | x :: xs => Zc.cells x :: Zc.encs xs
def Zo.encs : List Zo → List (List E)
 | [] => []
 | x :: xs => Zo.cells x :: Zo.encs xs
def Zi.encs : List Zi → List (List E)
 | [] => []
 | x :: xs => Zi.cells x :: Zi.encs xs
end
theorem Zc.encs_map : ∀ l : List Zc, Zc.encs l = l.map Zc.cells
 | [] => by simp [Zc.encs]
 | x :: xs => by simp [Zc.encs, Zc.encs_map xs]
theorem Zo.encs_map : ∀ l : List Zo, Zo.encs l = l.map Zo.cells
 | [] => by simp [Zo.encs]
 | x :: xs => by simp [Zo.encs, Zo.encs_map xs]
theorem Zi.encs_map : ∀ l : List Zi, Zi.encs l = l.map Zi.cells
 | [] => by simp [Zi.encs]
 | x :: xs => by simp [Zi.encs, Zi.encs_map xs]
theorem Zo.cells_eq (v : Zo) : v.cells = [.v (.int .i64 v.fOp), .v (.string v.fName), .sl (v.fArgs.map Zq.cells), .v (.bool v.fRec), .sl (v.fBinds.map Zc.cells), .sl (v.fKids.map Zo.cells), .sl (v.fAlts.map Zi.cells)] := by
 cases v
 simp only [Zo.cells, List.cons_append, List.nil_append, Zc.encs_map, Zo.encs_map, Zi.encs_map]
 rfl
theorem Zo.cells_len (v : Zo) : v.cells.length = 7 := by rw [Zo.cells_eq]; rfl
theorem Zc.cells_eq (v : Zc) : v.cells = [.v (.string v.fName), .v (.int .i64 v.fOp), .sl (v.fFree.map c_S), .sl (v.fParams.map c_S), .v (.int .i64 v.fBody.fOp), .v (.string v.fBody.fName), .sl (v.fBody.fArgs.map Zq.cells), .v (.bool v.fBody.fRec), .sl (v.fBody.fBinds.map Zc.cells), .sl (v.fBody.fKids.map Zo.cells), .sl (v.fBody.fAlts.map Zi.cells)] := by
 cases v
 simp only [Zc.cells, List.cons_append, List.nil_append, Zc.encs_map, Zo.encs_map, Zi.encs_map, Zo.cells_eq]
 rfl
theorem Zc.cells_len (v : Zc) : v.cells.length = 11 := by rw [Zc.cells_eq]; rfl
theorem Zi.cells_eq (v : Zi) : v.cells = [.v (.int .i64 v.fOp), .v (.string v.fName), .v (.int .i64 v.fN), .sl (v.fVars.map c_S), .v (.int .i64 v.fBody.fOp), .v (.string v.fBody.fName), .sl (v.fBody.fArgs.map Zq.cells), .v (.bool v.fBody.fRec), .sl (v.fBody.fBinds.map Zc.cells), .sl (v.fBody.fKids.map Zo.cells), .sl (v.fBody.fAlts.map Zi.cells)] := by
 cases v
 simp only [Zi.cells, List.cons_append, List.nil_append, Zc.encs_map, Zo.encs_map, Zi.encs_map, Zo.cells_eq]
 rfl
theorem Zi.cells_len (v : Zi) : v.cells.length = 11 := by rw [Zi.cells_eq]; rfl
structure ZT where
 fName : ByteArray
 fTag : Int
 fArity : Int
def ZT.cells (v : ZT) : List E := [.v (.string v.fName), .v (.int .i64 v.fTag), .v (.int .i64 v.fArity)]
theorem ZT.cells_eq (v : ZT) : v.cells = [.v (.string v.fName), .v (.int .i64 v.fTag), .v (.int .i64 v.fArity)] := rfl
theorem ZT.cells_len (v : ZT) : v.cells.length = 3 := rfl
structure ZG where
 fCons : (List ZT)
 fBinds : (List Zc)
def ZG.cells (v : ZG) : List E := [.sl (v.fCons.map ZT.cells), .sl (v.fBinds.map Zc.cells)]
theorem ZG.cells_eq (v : ZG) : v.cells = [.sl (v.fCons.map ZT.cells), .sl (v.fBinds.map Zc.cells)] := rfl
theorem ZG.cells_len (v : ZG) : v.cells.length = 2 := rfl
theorem Zay : Zj9 c_S := ZsF
theorem ZnB : Zj9 Zm := Zwr

def strconv_Itoa.M (i : Int) (r : ByteArray) : Prop :=
 Zn Tryz.prog 34 [.c none (.v (.int .i64 i))] [] (fun d b => d = .c none (.v (.string r)) ∧ b = [])
def strings_Join.M (elems : (List ByteArray)) (sep : ByteArray) (r : ByteArray) : Prop :=
 Zn Tryz.prog 36 [.c none (.sl (elems.map c_S)), .c none (.v (.string sep))] [] (fun d b => d = .c none (.v (.string r)) ∧ b = [])
def strings_Split.M (s : ByteArray) (sep : ByteArray) (r : (List ByteArray)) : Prop :=
 Zn Tryz.prog 28 [.c none (.v (.string s)), .c none (.v (.string sep))] [] (fun d b => d = .c none (.sl (r.map c_S)) ∧ b = [])
def Zdd.M (s : ByteArray) (r : Int × Bool) : Prop :=
 Zn Tryz.prog 125 [.c none (.v (.string s))] [] (fun d b => d = .tup [.c (.v (.int .i64 r.1)), .c (.ifc r.2)] ∧ b = [])

open Go Go.Am Go.RowKit
theorem ZlG {P : Program} [Gl P] {f : FuncId} {args : List D} {d0 : D} (h : CallsA P f args fun d => d = d0) : Zn P f args [] fun d b => d = d0 ∧ b = [] :=
 ⟨h.1, fun w S0 M0 ZbS ρ hv hr => (h.2 w S0 M0 ZbS ρ hv hr).mono fun e w' ⟨v, r, bx', St', ρ', h1, h2, h3, h4⟩ =>
  ⟨v, r, [], St', ρ', h1, ⟨h2, rfl⟩, h3, h4.less ⟨fun i => .inr (.inl rfl), fun n cs hb => by cases hb⟩⟩⟩
theorem ZzF {α : Type} {ZbS : Array α} (h : ZbS.size = 1) : ∃ a, ZbS = #[a] := by
 obtain ⟨l⟩ := ZbS
 match l, h with
 | [a], _ => exact ⟨a, rfl⟩
theorem Zzb {α : Type} {ZbS : Array α} (h : ZbS.size = 2) : ∃ a b, ZbS = #[a, b] := by
 obtain ⟨l⟩ := ZbS
 match l, h with
 | [a, b], _ => exact ⟨a, b, rfl⟩
theorem Zer {w : World} {St : Zas} {s : Value} {x : Value} (h : Zcs w St (.v s) x) : x = s := by
 cases h; rfl
def ZuK (xs : List ByteArray) (sep : ByteArray) : ByteArray := ⟨(Lib.join (xs.map (·.data.toList)) sep.data.toList).toArray⟩
def strings_Join (xs : List ByteArray) (sep : ByteArray) : Option ByteArray :=
 if xs.length ≤ 140737488355328 ∧ (Lib.join (xs.map (·.data.toList)) sep.data.toList).length ≤ 140737488355328 then some (ZuK xs sep) else none
theorem Zso (xs : List ByteArray) (sep : ByteArray) (hN : xs.length ≤ 140737488355328) (hlen : (Lib.join (xs.map (·.data.toList)) sep.data.toList).length ≤ 140737488355328) :
  CallsA Tryz.prog 36 [.c none (.sl (xs.map c_S)), .c none (.v (.string sep))] (fun r => r = .c none (.v (.string (ZuK xs sep)))) := by
 refine CallsA.of_calls ⟨_, Tryz.func36, by decide, rfl⟩ fun w St ρ ZbS hv hr hlt hG => ?_
 obtain ⟨a, b, rfl⟩ := Zzb hv
 obtain ⟨A, c, rfl, h1, h2, h3⟩ := Zrh (show Zcs w St (.sl (xs.map fun x => [.v (.string x)])) a from Zbp.plain (hr 0) rfl)
 obtain rfl := Zer (show Zcs w St (.v (.string sep)) b from (hr 1).val)
 rcases Decidable.em (xs = []) with rfl | hne
 ·refine (Tryz.strings_Join_none A c sep w).mono ?_
  rintro e w' ⟨rfl, rfl⟩
  exact ⟨_, rfl, rfl, rfl, Below.refl _ _⟩
 ·obtain ⟨bk, o, rfl, hs, hcell⟩ := h3 hne
  refine (Tryz.strings_Join bk o c xs sep w hcell (hlt _ _ hs) hN h1 hlen).mono ?_
  rintro e w' ⟨rfl, bel⟩
  exact ⟨_, rfl, rfl, rfl, bel⟩
theorem Zoa (xs : List ByteArray) (sep r : ByteArray) (h : strings_Join xs sep = some r) : strings_Join.M xs sep r := by
 unfold strings_Join at h
 split at h
 ·rename_i hc; injection h with h; subst h; exact ZlG (Zso xs sep hc.1 hc.2)
 ·cases h
def ZvA (i : Int) : ByteArray := ⟨(Lib.itoa i).toArray⟩
def strconv_Itoa (i : Int) : Option ByteArray := ZaY (-9223372036854775808 ≤ i ∧ i ≤ 9223372036854775807) >>= fun _ => some (ZvA i)
theorem ZxB (w : World) (St : Zas) (hG : ZiX Tryz.prog w St) : Lib.TabIs Tryz.prog w "internal/strconv.uint64pow10" .u64 Lib.pow10Tab := by
 have h0 : ZpI (w.cell? ⟨1, 20, none⟩) := (hG (1, 20, ZpI) (List.mem_append_left _ (List.mem_cons_self ..))).2
 have h1 : ∀ i, i < 20 → w.cell? ⟨1, i, none⟩ = some (.int .u64 ((10 ^ i : Nat) : Int)) := fun i hi =>
  (hG (1, i, Zqu i) (List.mem_append_left _ (List.mem_cons_of_mem _ (List.mem_map.2 ⟨i, List.mem_range.2 hi, rfl⟩)))).2
 have hg : Tryz.prog.globalNamed "internal/strconv.uint64pow10" = some 1 := by kernel_rfl
 unfold Lib.TabIs World.var?
 rw [hg]
 have h2 := h1 0 (by decide)
 unfold ZpI at h0
 unfold World.cell? at h0 h1 h2
 simp only [Option.bind_some]
 split at h2
 case h_2 => cases h2
 rename_i c t f hc
 simp only [hc, Option.isSome_none, Bool.false_eq_true, if_false] at h0 h1 ⊢
 congr 1
 apply Array.ext_getElem?
 intro i
 have e0 : ((Lib.pow10Tab.map fun z => Value.int .u64 z).toArray)[i]? = (Lib.pow10Tab.map fun z => Value.int .u64 z)[i]? := List.getElem?_toArray
 rw [e0, Lib.pow10Tab, List.getElem?_map, List.getElem?_map]
 by_cases hi : i < 20
 ·rw [h1 i hi, List.getElem?_range hi]; rfl
 ·have : c.size ≤ 20 := by
   rcases Nat.lt_or_ge 20 c.size with h | h
   ·rw [Array.getElem?_eq_getElem h] at h0; cases h0
   ·exact h
  rw [Array.getElem?_eq_none (by omega), List.getElem?_eq_none (by simp; omega)]; rfl
theorem Zsy (w : World) (os : Array Obj) (k : Nat) : Below w.heap.size w (Sort.grow (w.drewN k) os) := Lib.below_grow _ w (Nat.le_refl _) k os
theorem Zen (i : Int) (r : ByteArray) (h : strconv_Itoa i = some r) : strconv_Itoa.M i r := by
 unfold strconv_Itoa at h
 obtain ⟨hc, h⟩ := ZV h
 obtain rfl := Zs h
 refine ZlG (CallsA.of_calls ⟨_, Tryz.func34, by decide, rfl⟩ fun w St ρ ZbS hv hr hlt hG => ?_)
 obtain ⟨a, rfl⟩ := ZzF hv
 obtain rfl := Zer (show Zcs w St (.v (.int .i64 i)) a from (hr 0).val)
 refine (Tryz.strconv_Itoa i hc.1 hc.2 w (ZxB w St hG)).mono ?_
 rintro e w' ⟨rfl, k, os, rfl⟩
 exact ⟨_, rfl, rfl, rfl, Zsy w os k⟩
def Ztg (s : ByteArray) : Int × Bool :=
 match Lib.atoiAll s.data.toList with
 | .ok v => (v, false)
 | .range => (Lib.atoiSat s.data.toList, true)
 | _ => (0, true)
def Zdd (s : ByteArray) : Option (Int × Bool) := ZaY (s.size ≤ 281474976710656) >>= fun _ => some (Ztg s)
theorem ZxE (w : World) (St : Zas) (hG : ZiX Tryz.prog w St) : ZlD (w.cell? ⟨4, 0, none⟩) ∧ ZlD (w.cell? ⟨5, 0, none⟩) :=
 ⟨(hG (4, 0, ZlD) (by first | exact List.mem_append_right _ (by simp [ZeO]) | (show _ ∈ ZeO; simp [ZeO]))).2, (hG (5, 0, ZlD) (by first | exact List.mem_append_right _ (by simp [ZeO]) | (show _ ∈ ZeO; simp [ZeO]))).2⟩
theorem ZxM {w : World} {St : Zas} {ρ : Nat → Nat} {n : Int} {b : Bool} {v : Value} (hv : (b = false ∧ v = .nilIface) ∨ (b = true ∧ ∃ t u, v = .iface t u)) : ZdD w St ρ (.tup [.c (.v (.int .i64 n)), .c (.ifc b)]) (.tuple #[.int .i64 n, v]) := by
 refine ⟨[.int .i64 n, v], rfl, rfl, fun k x hk => ?_⟩
 match k, hk with
 | 0, hk => simp only [List.getElem?_cons_zero, Option.some.injEq] at hk; subst hk; exact ⟨_, rfl, .e _ _ (.v _ rfl)⟩
 | 1, hk => simp only [List.getElem?_cons_succ, List.getElem?_cons_zero, Option.some.injEq] at hk; subst hk; exact ⟨_, rfl, .e _ _ (.ifc b v hv)⟩
 | k + 2, hk => simp at hk
theorem ZrG {w w' : World} (h : w' = w ∨ ∃ t, w' = Lib.bytesWorld w 5 t) : Below w.heap.size w w' := by
 rcases h with rfl | ⟨t, rfl⟩
 ·exact Below.refl _ _
 ·exact Lib.bytesWorld_below w 5 t
theorem strconv_Atoi_ok (s : ByteArray) (r : Int × Bool) (h : Zdd s = some r) : Zdd.M s r := by
 unfold Zdd at h
 obtain ⟨hc, h⟩ := ZV h
 obtain rfl := Zs h
 refine ZlG (CallsA.of_callsD ⟨_, Tryz.func125, by decide, rfl⟩ fun w St ρ ZbS hv hr hlt hG => ?_)
 obtain ⟨a, rfl⟩ := ZzF hv
 obtain rfl := Zer (show Zcs w St (.v (.string s)) a from (hr 0).val)
 obtain ⟨⟨e3, h3, i3⟩, e4, h4, i4⟩ := ZxE w St hG
 unfold Ztg
 cases hn : Lib.atoiAll s.data.toList
 ·rename_i v
  refine (Tryz.strconv_Atoi_ok s (by omega) v hn w).mono ?_
  rintro e w' ⟨rfl, hw⟩
  exact ⟨_, _, rfl, ZxM (.inl ⟨rfl, rfl⟩), rfl, rfl, ZrG hw⟩
 ·refine (Tryz.strconv_Atoi_syntax s hc (by rw [hn]; rfl) e3 w h3 i3).mono ?_
  rintro e w' ⟨N, rfl, _, _, hw⟩
  exact ⟨_, _, rfl, ZxM (.inr ⟨rfl, _, _, rfl⟩), rfl, rfl, hw⟩
 ·refine (Tryz.strconv_Atoi_range s hc hn e4 w h4 i4).mono ?_
  rintro e w' ⟨N, rfl, _, _, hw⟩
  exact ⟨_, _, rfl, ZxM (.inr ⟨rfl, _, _, rfl⟩), rfl, rfl, hw⟩

def strings_Split (s sep : ByteArray) : Option (List ByteArray) := ZaY (s.size < 4294967281 ∧ 1 ≤ sep.size) >>= fun _ => some (Lib.splitB sep 0 (Lib.countB s sep) s)
theorem Zng (s sep : ByteArray) (r : List ByteArray) (h : strings_Split s sep = some r) : strings_Split.M s sep r := by
 unfold strings_Split at h
 obtain ⟨hc, h⟩ := ZV h
 obtain rfl := Zs h
 refine ZlG (CallsA.of_callsD ⟨_, Tryz.func28, by decide, rfl⟩ fun w St ρ ZbS hv hr hlt hG => ?_)
 obtain ⟨a, b, rfl⟩ := Zzb hv
 obtain rfl := Zer (show Zcs w St (.v (.string s)) a from (hr 0).val)
 obtain rfl := Zer (show Zcs w St (.v (.string sep)) b from (hr 1).val)
 obtain ⟨m, hm⟩ := (hG (0, 0, Ztj) (List.mem_append_right _ (List.mem_cons_self ..))).2
 refine (Tryz.strings_Split s sep m w hc.1 hm hc.2).mono ?_
 rintro e w' ⟨rfl, rfl⟩
 have hlen := Lib.splitB_all sep hc.2 0 _ s rfl
 have hcnt := Lib.countB_le sep hc.2 _ s (Nat.le_refl _)
 refine ⟨_, .c none (.sl ((Lib.splitB sep 0 (Lib.countB s sep) s).map c_S)), rfl, Zbp.e _ _ ?_, rfl, rfl, (Below.refl _ w).alloc (Nat.le_refl _) _⟩
 generalize Lib.splitB sep 0 (Lib.countB s sep) s = l at hlen ⊢
 have hcell : ∀ (i : Nat) x, l[i]? = some x → (w.alloc (.cells (l.map Value.string).toArray 9)).cell? ⟨w.heap.size, i, none⟩ = some (.string x) := fun i x hi => by
  simp [World.cell?, World.alloc, -World.alloc_eq, hi]
 refine Zcs.sl (l.map c_S) _ _ _ 1 w.heap.size 0 (fun i _ => (l[i]?.map Value.string).getD undef) (by rw [List.length_map]; exact hlen) (Nat.le_refl _) (by unfold maxLen; omega) (fun _ => rfl) (fun i row hi => ?_) (fun i k row x hi hk => ?_) (fun i k row x hi hk => ?_)
 ·rw [List.getElem?_map, Option.map_eq_some_iff] at hi
  obtain ⟨x, _, rfl⟩ := hi; rfl
 ·rw [List.getElem?_map, Option.map_eq_some_iff] at hi
  obtain ⟨y, hy, rfl⟩ := hi
  have hk0 : k = 0 := by
   match k, hk with
   | 0, _ => rfl
   | k + 1, hk => simp [c_S] at hk
  subst hk0
  have := hcell i y hy
  simp only [Nat.mul_one, Nat.zero_add, Nat.add_zero]
  refine ⟨.inr ⟨Nat.le_refl _, by simp [World.alloc, -World.alloc_eq]⟩, ?_⟩
  rw [this, hy]; rfl
 ·rw [List.getElem?_map, Option.map_eq_some_iff] at hi
  obtain ⟨y, hy, rfl⟩ := hi
  have hk0 : k = 0 := by
   match k, hk with
   | 0, _ => rfl
   | k + 1, hk => simp [c_S] at hk
  subst hk0
  simp only [c_S, List.getElem?_cons_zero, Option.some.injEq] at hk
  subst hk
  rw [hy]
  exact .v _ rfl

theorem ZsC : Zop Tryz.prog 59 := by
 refine ZpS (t2 := 2) (t3 := 3) Tryz.func59 (by decide) rfl rfl (fun ρ w h1 h2 => ?_) rfl rfl rfl rfl (by decide) (by decide) rfl
 simp [execOp, h1, h2, go_sem]

def Zbs (l : (List ByteArray)) (s : ByteArray) (i_5 : Nat) (Zb2 : (List ByteArray)) : Option (Bool) :=
 (match Zb2 with
 | x16 :: ZsI =>
 if (x16.toList == s.toList) = true then
 some true
 else
 Zbs l s (i_5 + 1) ZsI
 | [] =>
 some false)
 partial_fixpoint
def Zbs.M (l : (List ByteArray)) (s : ByteArray) (i_5 : Nat) (Zb2 : (List ByteArray)) (r : Bool) : Prop :=
 ∀ Zd0 : List ByteArray, l = Zd0 ++ Zb2 → i_5 = Zd0.length → AWL Tryz.prog 18 (Code.sub (Zt Tryz.f83) [1, 0, 1, 0, 0]) (Code.cont Tryz.prog 18 (Zt Tryz.f83) [1, 0, 1, 0] (Zbl tab Tryz.f83.results (Zbo (.c none (.v (.bool r))) []))) ⟨[(0, .c none (.sl (l.map c_S))), (1, .c none (.v (.string s))), (5, .c none (.v (.int .i64 ((i_5 : Nat) : Int))))], []⟩
theorem ZkZ (l : (List ByteArray)) (s : ByteArray) (i_5 : Nat) (Zb2 : (List ByteArray)) : ∀ r, Zbs l s i_5 Zb2 = some r → Zbs.M l s i_5 Zb2 r := by
 refine Zbs.partial_correctness l s (fun i_5 Zb2 r => Zbs.M l s i_5 Zb2 r) ?_ i_5 Zb2
 intro lazycref36_has_l1' Zhk i_5 Zb2 r hF
 have ZkI := fun (_l : (List ByteArray)) (_s : ByteArray) (i_5 : Nat) (Zb2 : (List ByteArray)) => Zhk i_5 Zb2
 clear Zhk
 unfold Zbs.M
 intro Zd0 Ziq Zii
 refine AWL.step ?_
 refine AWP.seq ?_
 refine AWP.seq ?_
 refine ns ?_
 intro hlen15
 (try rw [List.length_map] at hlen15)
 (try rw [List.length_map])
 refine st ?_
 refine nw ?_
 refine ZB Ziq Zii (fun x16 ZsI ZsL ZyA ZxH => ?_) (fun ZsL => ?_)
 ·subst ZsL
  refine nw ?_
  refine AWP.seq ?_
  refine AWP.block ?_
  refine AWP.seq ?_
  refine nn ?_
  refine sr (Z9 (f := c_S) rfl ZyA) ?_
  refine st ?_
  refine nw ?_
  refine Zw hF (fun Zx3 hF => ?_) (fun Zx3 hF => ?_)
  ·refine AWP.seq ?_
   refine ns ?_
   obtain rfl := Zs hF
   refine ns ?_
   refine Exists.intro [] ?_
   refine st ?_
   exact wx (WS.mk (tc Ze) Zf)
  ·refine nw ?_
   refine ns ?_
   refine AWL.weak (rn []) ?_ (ZkI l s (i_5 + 1) ZsI _ hF (Zd0 ++ [x16]) (by rw [Ziq]; simp) (by rw [Zii]; simp))
   exact (WS.mk (tc (tc (Zj (Zaj (Zcw (ZD hlen15 ZxH))) Ze))) Zf)
 ·subst ZsL
  refine nw ?_
  refine AWP.seq ?_
  refine ns ?_
  obtain rfl := Zs hF
  refine ns ?_
  refine Exists.intro [] ?_
  refine st ?_
  exact wx (WS.mk (tc Ze) Zf)

def Zdo (l : (List ByteArray)) (s : ByteArray) : Option (Bool) :=
 Zbs l s 0 l
def Zdo.M (l : (List ByteArray)) (s : ByteArray) (r : Bool) : Prop :=
 Zn Tryz.prog 83 [.c none (.sl (l.map c_S)), .c none (.v (.string s))] [] (fun d b => d = .c none (.v (.bool r)) ∧ b = [])
theorem ZiV (l : (List ByteArray)) (s : ByteArray) (r : Bool) (hF : Zdo l s = some r) : Zdo.M l s r := by
 unfold Zdo at hF
 unfold Zdo.M
 refine en Tryz.func83 ?_
 refine AWP.seq ?_
 refine ns ?_
 refine AWP.seq ?_
 refine AWP.seq ?_
 refine ns ?_
 refine AWP.block ?_
 refine AWP.loop ?_
 refine AWL.weak (rn []) ?_ (ZkZ l s 0 l _ hF ([]) rfl rfl)
 exact (WS.mk (tc (tc (tc Ze))) Zf)

def Zbr (more : (List ByteArray)) (ZcH : (List ByteArray)) (ZgH : (List ByteArray)) (i_8 : Nat) (ZeI : (List ByteArray)) : Option ((List ByteArray)) :=
 (match ZeI with
 | x29 :: Zv8 =>
 Zdo ZgH x29 >>= fun r32 =>
 (if (!r32) = true then Zdo ZcH x29 >>= fun r33 =>
 some (!r33) else some false) >>= fun c34 =>
 if c34 = true then
 ZaY ((ZgH.length + ([x29]).length) * 16 ≤ 140737488355328) >>= fun _ =>
 Zbr more ZcH (ZgH ++ ([x29])) (i_8 + 1) Zv8
 else
 Zbr more ZcH ZgH (i_8 + 1) Zv8
 | [] =>
 some ZgH)
 partial_fixpoint
def Zbr.M (more : (List ByteArray)) (ZcH : (List ByteArray)) (ZgH : (List ByteArray)) (i_8 : Nat) (ZeI : (List ByteArray)) (r : (List ByteArray)) : Prop :=
 ∀ ZhF : List ByteArray, more = ZhF ++ ZeI → i_8 = ZhF.length → AWL Tryz.prog 42 (Code.sub (Zt Tryz.f44) [1, 1, 0, 1, 0, 0]) (Code.cont Tryz.prog 42 (Zt Tryz.f44) [1, 1, 0, 1, 0] (Zbl tab Tryz.f44.results (Zbo (.c (some (0, 9)) (.sl (r.map c_S))) []))) ⟨[(1, .c none (.sl (more.map c_S))), (2, .c none (.sl (ZcH.map c_S))), (7, .c (some (7, 9)) (.sl (ZgH.map c_S))), (8, .c none (.v (.int .i64 ((i_8 : Nat) : Int))))], []⟩
theorem Zlk (more : (List ByteArray)) (ZcH : (List ByteArray)) (ZgH : (List ByteArray)) (i_8 : Nat) (ZeI : (List ByteArray)) : ∀ r, Zbr more ZcH ZgH i_8 ZeI = some r → Zbr.M more ZcH ZgH i_8 ZeI r := by
 refine Zbr.partial_correctness more ZcH (fun ZgH i_8 ZeI r => Zbr.M more ZcH ZgH i_8 ZeI r) ?_ ZgH i_8 ZeI
 intro lazycref36_add_l1' Zhn ZgH i_8 ZeI r hF
 have ZhS := fun (_more : (List ByteArray)) (_bound : (List ByteArray)) (ZgH : (List ByteArray)) (i_8 : Nat) (ZeI : (List ByteArray)) => Zhn ZgH i_8 ZeI
 clear Zhn
 unfold Zbr.M
 intro ZhF Zm0 Znm
 refine AWL.step ?_
 refine AWP.seq ?_
 refine AWP.seq ?_
 refine ns ?_
 intro hlen28
 (try rw [List.length_map] at hlen28)
 (try rw [List.length_map])
 refine st ?_
 refine nw ?_
 refine ZB Zm0 Znm (fun x29 Zv8 Zyr ZyR ZzP => ?_) (fun Zyr => ?_)
 ·subst Zyr
  refine nw ?_
  refine AWP.seq ?_
  refine AWP.block ?_
  refine AWP.seq ?_
  obtain ⟨r32, Zx4, hF⟩ := bind_some hF
  obtain ⟨c34, ZkH, hF⟩ := bind_some hF
  refine AWP.cutN (fun T => ∃ r, WS r T ⟨[(1, .c none (.sl (more.map c_S))), (2, .c none (.sl (ZcH.map c_S))), (7, .c (some (7, 9)) (.sl (ZgH.map c_S))), (8, .c none (.v (.int .i64 ((i_8 : Nat) : Int)))), (33, .c none (.v (.bool c34)))], []⟩) ?_ (fun T hw => ?_)
  ·refine nn ?_
   refine sr (Z9 (f := c_S) rfl ZyR) ?_
   refine st ?_
   refine Exists.intro [7] (Exists.intro [] (Exists.intro [] ?_))
   refine st ?_
   refine cm (Zn.weak (rn []) (ZiV ZgH x29 _ Zx4) rfl (WS.mk (tc (tc Ze)) Zf)) ?_
   refine st ?_
   refine ZA true (fun Znb => ?_) (fun Znb => ?_)
   ·have ZkH := ift Znb ZkH
    obtain ⟨r33, Zyh, ZkH⟩ := bind_some ZkH
    (conv => whnf)
    refine sr (Z9 (f := c_S) rfl ZyR) ?_
    refine st ?_
    refine e3 ?_
    refine st ?_
    refine cm (Zn.weak (rn []) (ZiV ZcH x29 _ Zyh) rfl (WS.mk (tc (tc Ze)) Zf)) ?_
    refine st ?_
    obtain rfl := Zs ZkH
    refine st ?_
    exact Exists.intro (rn [(7, 7)]) (WS.mk (tc (tc (Zj (ZH rfl (WE.refl _)) (tc (Zj (Zaj (web Znb)) Ze))))) Zf)
   ·have ZkH := ife Znb ZkH
    (conv => whnf)
    obtain rfl := Zs ZkH
    refine st ?_
    exact Exists.intro (rn [(7, 7)]) (WS.mk (tc (tc (Zj (ZH rfl (WE.refl _)) (tc (Zj (Zaj (web Znb)) Ze))))) Zf)
  obtain ⟨r0, hw⟩ := hw
  (conv => whnf)
  refine AWP.weak r0 hw ?_
  refine nw ?_
  refine Zw hF (fun ZxU hF => ?_) (fun ZxU hF => ?_)
  ·obtain ⟨Zyx, hF⟩ := ZV hF
   refine nn ?_
   refine sr (Z9 (f := c_S) rfl ZyR) ?_
   refine st ?_
   refine Exists.intro _ (And.intro (ZE (f := c_S) (lc Zr) (Zx (f := c_S))) ?_)
   refine sa (fun l => ZaE l (fun x => Zbk x)) Zyx ?_
   refine Exists.intro _ (And.intro (WE.refl _) ?_)
   rw [← List.map_append]
   refine st ?_
   refine ns ?_
   refine AWL.weak (rn [(40, 7)]) ?_ (ZhS more ZcH (ZgH ++ ([x29])) (i_8 + 1) Zv8 _ hF (ZhF ++ [x29]) (by rw [Zm0]; simp) (by rw [Znm]; simp))
   exact (WS.mk (tc (tc (Zj (ZH rfl (WE.refl _)) (Zj (Zaj (Zcw (ZD hlen28 ZzP))) Ze)))) Zf)
  ·refine nw ?_
   refine ns ?_
   refine AWL.weak (rn [(7, 7)]) ?_ (ZhS more ZcH ZgH (i_8 + 1) Zv8 _ hF (ZhF ++ [x29]) (by rw [Zm0]; simp) (by rw [Znm]; simp))
   exact (WS.mk (tc (tc (Zj (ZH rfl (WE.refl _)) (Zj (Zaj (Zcw (ZD hlen28 ZzP))) Ze)))) Zf)
 ·subst Zyr
  refine nw ?_
  refine AWP.seq ?_
  refine ns ?_
  obtain rfl := Zs hF
  refine ns ?_
  refine Exists.intro [] ?_
  refine st ?_
  exact Exists.intro (rn [(7, 0)]) (WS.mk (Zj (ZH rfl (WE.refl _)) Ze) Zf)

def Zbi (l : (List ByteArray)) (more : (List ByteArray)) (ZcH : (List ByteArray)) : Option ((List ByteArray)) :=
 ZaY ((([] : List ByteArray).length + l.length) * 16 ≤ 140737488355328) >>= fun _ =>
 Zbr more ZcH (([] : List ByteArray) ++ l) 0 more
def Zbi.M (l : (List ByteArray)) (more : (List ByteArray)) (ZcH : (List ByteArray)) (r : (List ByteArray)) : Prop :=
 Zn Tryz.prog 44 [.c none (.sl (l.map c_S)), .c none (.sl (more.map c_S)), .c none (.sl (ZcH.map c_S))] [] (fun d b => d = .c (some (0, 9)) (.sl (r.map c_S)) ∧ b = [])
theorem Zep (l : (List ByteArray)) (more : (List ByteArray)) (ZcH : (List ByteArray)) (r : (List ByteArray)) (hF : Zbi l more ZcH = some r) : Zbi.M l more ZcH r := by
 unfold Zbi at hF
 unfold Zbi.M
 refine en Tryz.func44 ?_
 refine AWP.seq ?_
 refine ns ?_
 refine AWP.seq ?_
 obtain ⟨hg1, hF⟩ := ZV hF
 refine ns ?_
 refine Exists.intro _ (And.intro (Zx (f := c_S)) ?_)
 refine sa (fun l => ZaE l (fun x => Zbk x)) hg1 ?_
 refine Exists.intro _ (And.intro (WE.refl _) ?_)
 rw [← List.map_append]
 refine st ?_
 refine AWP.seq ?_
 refine AWP.seq ?_
 refine ns ?_
 refine AWP.block ?_
 refine AWP.loop ?_
 refine AWL.weak (rn [(11, 7)]) ?_ (Zlk more ZcH (([] : List ByteArray) ++ l) 0 more _ hF ([]) rfl rfl)
 exact (WS.mk (tc (tc (Zj (ZH rfl (WE.refl _)) (tc Ze)))) Zf)

def ZaU (l : (List Zc)) (ZM : (List ByteArray)) (i_4 : Nat) (Zct : (List Zc)) : Option ((List ByteArray)) :=
 (match Zct with
 | x16 :: ZsI =>
 ZaY ((ZM.length + ([x16.fName]).length) * 16 ≤ 140737488355328) >>= fun _ =>
 ZaU l (ZM ++ ([x16.fName])) (i_4 + 1) ZsI
 | [] =>
 some ZM)
 partial_fixpoint
def ZaU.M (l : (List Zc)) (ZM : (List ByteArray)) (i_4 : Nat) (Zct : (List Zc)) (r : (List ByteArray)) : Prop :=
 ∀ ZdQ : List Zc, l = ZdQ ++ Zct → i_4 = ZdQ.length → AWL Tryz.prog 21 (Code.sub (Zt Tryz.f45) [1, 1, 0, 1, 0, 0]) (Code.cont Tryz.prog 21 (Zt Tryz.f45) [1, 1, 0, 1, 0] (Zbl tab Tryz.f45.results (Zbo (.c (some (0, 9)) (.sl (r.map c_S))) []))) ⟨[(0, .c none (.sl (l.map Zc.cells))), (3, .c (some (3, 9)) (.sl (ZM.map c_S))), (4, .c none (.v (.int .i64 ((i_4 : Nat) : Int))))], []⟩
theorem Zja (l : (List Zc)) (ZM : (List ByteArray)) (i_4 : Nat) (Zct : (List Zc)) : ∀ r, ZaU l ZM i_4 Zct = some r → ZaU.M l ZM i_4 Zct r := by
 refine ZaU.partial_correctness l (fun ZM i_4 Zct r => ZaU.M l ZM i_4 Zct r) ?_ ZM i_4 Zct
 intro lazycref36_binders_l1' Zf3 ZM i_4 Zct r hF
 have Zjc := fun (_l : (List Zc)) (ZM : (List ByteArray)) (i_4 : Nat) (Zct : (List Zc)) => Zf3 ZM i_4 Zct
 clear Zf3
 unfold ZaU.M
 intro ZdQ ZhY ZhT
 refine AWL.step ?_
 refine AWP.seq ?_
 refine AWP.seq ?_
 refine ns ?_
 intro hlen15
 (try rw [List.length_map] at hlen15)
 (try rw [List.length_map])
 refine st ?_
 refine nw ?_
 refine ZB ZhY ZhT (fun x16 ZsI ZsL ZyA ZxH => ?_) (fun ZsL => ?_)
 ·subst ZsL
  refine nw ?_
  refine AWP.seq ?_
  refine AWP.block ?_
  obtain ⟨Zyq, hF⟩ := ZV hF
  refine nn ?_
  refine sr (Z9 (f := Zc.cells) (Zc.cells_eq x16) ZyA) ?_
  refine st ?_
  refine Exists.intro _ (And.intro (ZE (f := c_S) (lc Zr) (Zx (f := c_S))) ?_)
  refine sa (fun l => ZaE l (fun x => Zbk x)) Zyq ?_
  refine Exists.intro _ (And.intro (WE.refl _) ?_)
  rw [← List.map_append]
  refine st ?_
  refine ns ?_
  refine AWL.weak (rn [(19, 3)]) ?_ (Zjc l (ZM ++ ([x16.fName])) (i_4 + 1) ZsI _ hF (ZdQ ++ [x16]) (by rw [ZhY]; simp) (by rw [ZhT]; simp))
  exact (WS.mk (tc (Zj (ZH rfl (WE.refl _)) (Zj (Zaj (Zcw (ZD hlen15 ZxH))) Ze))) Zf)
 ·subst ZsL
  refine nw ?_
  refine AWP.seq ?_
  refine ns ?_
  obtain rfl := Zs hF
  refine ns ?_
  refine Exists.intro [] ?_
  refine st ?_
  exact Exists.intro (rn [(3, 0)]) (WS.mk (Zj (ZH rfl (WE.refl _)) Ze) Zf)

def ZaX (l : (List Zc)) : Option ((List ByteArray)) :=
 ZaU l ([] : List ByteArray) 0 l
def ZaX.M (l : (List Zc)) (r : (List ByteArray)) : Prop :=
 Zn Tryz.prog 45 [.c none (.sl (l.map Zc.cells))] [] (fun d b => d = .c (some (0, 9)) (.sl (r.map c_S)) ∧ b = [])
theorem ZkA (l : (List Zc)) (r : (List ByteArray)) (hF : ZaX l = some r) : ZaX.M l r := by
 unfold ZaX at hF
 unfold ZaX.M
 refine en Tryz.func45 ?_
 refine AWP.seq ?_
 refine ns ?_
 refine AWP.seq ?_
 refine ns ?_
 refine Exists.intro _ (And.intro (Zx (f := c_S)) ?_)
 refine st ?_
 refine AWP.seq ?_
 refine AWP.seq ?_
 refine ns ?_
 refine AWP.block ?_
 refine AWP.loop ?_
 refine AWL.weak (rn [(5, 3)]) ?_ (Zja l ([] : List ByteArray) 0 l _ hF ([]) rfl rfl)
 exact (WS.mk (tc (Zj (ZH rfl (WE.refl _)) (tc Ze))) Zf)

mutual
def Za0 (b : Zc) : Option ((List ByteArray)) :=
 ZL b.fBody >>= fun r3 =>
 Zbi ([] : List ByteArray) r3 b.fParams >>= fun r4 =>
 some r4
 partial_fixpoint
def ZL (e : Zo) : Option ((List ByteArray)) :=
 if (e.fOp == 2) = true then
 ZaY ((([] : List ByteArray).length + ([e.fName]).length) * 16 ≤ 140737488355328) >>= fun _ =>
 Zau (([] : List ByteArray) ++ ([e.fName])) e
 else
 Zau ([] : List ByteArray) e
 partial_fixpoint
def Zau (ZM : (List ByteArray)) (e : Zo) : Option ((List ByteArray)) :=
 ZY ZM 0 e e.fArgs
 partial_fixpoint
def ZY (ZM : (List ByteArray)) (i_4 : Nat) (e : Zo) (Zct : (List Zq)) : Option ((List ByteArray)) :=
 (match Zct with
 | Zrv :: Zrw =>
 if (Zrv.fOp == 1) = true then
 Zbi ZM ([Zrv.fName]) ([] : List ByteArray) >>= fun Zyn =>
 ZY Zyn (i_4 + 1) e Zrw
 else
 ZY ZM (i_4 + 1) e Zrw
 | [] =>
 ZaX e.fBinds >>= fun Ze0 =>
 if e.fRec = true then
 Zax ZM Ze0 Ze0 e
 else
 Zax ZM Ze0 ([] : List ByteArray) e)
 partial_fixpoint
def Zax (ZM : (List ByteArray)) (Ze0 : ((List ByteArray))) (Zdh : (List ByteArray)) (e : Zo) : Option ((List ByteArray)) :=
 Zap ZM Ze0 Zdh 0 e e.fBinds
 partial_fixpoint
def Zap (ZM : (List ByteArray)) (Ze0 : ((List ByteArray))) (Zdh : (List ByteArray)) (i_7 : Nat) (e : Zo) (Zmd : (List Zc)) : Option ((List ByteArray)) :=
 (match Zmd with
 | ZvM :: ZuN =>
 Za0 ZvM >>= fun Zyz =>
 Zbi ZM Zyz Zdh >>= fun Zyj =>
 Zap Zyj Ze0 Zdh (i_7 + 1) e ZuN
 | [] =>
 Zab ZM Ze0 0 e e.fKids)
 partial_fixpoint
def Zab (ZM : (List ByteArray)) (Ze0 : ((List ByteArray))) (i_8 : Nat) (e : Zo) (ZeI : (List Zo)) : Option ((List ByteArray)) :=
 (match ZeI with
 | Zvq :: Zu5 =>
 ZL Zvq >>= fun ZyM =>
 Zbi ZM ZyM Ze0 >>= fun Zya =>
 Zab Zya Ze0 (i_8 + 1) e Zu5
 | [] =>
 Zai ZM 0 e)
 partial_fixpoint
def Zai (ZM : (List ByteArray)) (i_9 : Nat) (e : Zo) : Option ((List ByteArray)) :=
 if (decide (((i_9 : Nat) : Int) < ((e.fAlts.length : Nat) : Int))) = true then
 (e.fAlts[i_9]?) >>= fun ZrT =>
 ZaY ((([] : List ByteArray).length + ZrT.fVars.length) * 16 ≤ 140737488355328) >>= fun _ =>
 if (e.fOp == 6) = true then
 ZaY (((([] : List ByteArray) ++ ZrT.fVars).length + ([e.fName]).length) * 16 ≤ 140737488355328) >>= fun _ =>
 Zbw ZM i_9 ((([] : List ByteArray) ++ ZrT.fVars) ++ ([e.fName])) e
 else
 Zbw ZM i_9 (([] : List ByteArray) ++ ZrT.fVars) e
 else
 some ZM
 partial_fixpoint
def Zbw (ZM : (List ByteArray)) (i_9 : Nat) (ZhO : (List ByteArray)) (e : Zo) : Option ((List ByteArray)) :=
 (e.fAlts[i_9]?) >>= fun Zws =>
 ZL Zws.fBody >>= fun Zxt =>
 Zbi ZM Zxt ZhO >>= fun ZxI =>
 Zai ZxI (i_9 + 1) e
 partial_fixpoint
end
def Za0.M (b : Zc) (r : (List ByteArray)) : Prop :=
 Zn Tryz.prog 46 [.agg [.v (.string b.fName), .v (.int .i64 b.fOp), .sl (b.fFree.map c_S), .sl (b.fParams.map c_S), .v (.int .i64 b.fBody.fOp), .v (.string b.fBody.fName), .sl (b.fBody.fArgs.map Zq.cells), .v (.bool b.fBody.fRec), .sl (b.fBody.fBinds.map Zc.cells), .sl (b.fBody.fKids.map Zo.cells), .sl (b.fBody.fAlts.map Zi.cells)]] [] (fun d b => d = .c (some (0, 9)) (.sl (r.map c_S)) ∧ b = [])
def ZL.M (e : Zo) (r : (List ByteArray)) : Prop :=
 Zn Tryz.prog 19 [.agg [.v (.int .i64 e.fOp), .v (.string e.fName), .sl (e.fArgs.map Zq.cells), .v (.bool e.fRec), .sl (e.fBinds.map Zc.cells), .sl (e.fKids.map Zo.cells), .sl (e.fAlts.map Zi.cells)]] [] (fun d b => d = .c (some (0, 9)) (.sl (r.map c_S)) ∧ b = [])
def Zau.M (ZM : (List ByteArray)) (e : Zo) (r : (List ByteArray)) : Prop :=
 AWP Tryz.prog 116 (Code.sub (Zt Tryz.f19) [1, 1, 1]) (Code.cont Tryz.prog 116 (Zt Tryz.f19) [1, 1, 1] (Zbl tab Tryz.f19.results (Zbo (.c (some (0, 9)) (.sl (r.map c_S))) []))) ⟨[(1, .ptr 1 0), (3, .c (some (3, 9)) (.sl (ZM.map c_S)))], [(1, [(none, .v (.int .i64 e.fOp)), (none, .v (.string e.fName)), (none, .sl (e.fArgs.map Zq.cells)), (none, .v (.bool e.fRec)), (none, .sl (e.fBinds.map Zc.cells)), (none, .sl (e.fKids.map Zo.cells)), (none, .sl (e.fAlts.map Zi.cells))])]⟩
def ZY.M (ZM : (List ByteArray)) (i_4 : Nat) (e : Zo) (Zct : (List Zq)) (r : (List ByteArray)) : Prop :=
 ∀ ZdQ : List Zq, e.fArgs = ZdQ ++ Zct → i_4 = ZdQ.length → AWL Tryz.prog 116 (Code.sub (Zt Tryz.f19) [1, 1, 1, 0, 1, 0, 0]) (Code.cont Tryz.prog 116 (Zt Tryz.f19) [1, 1, 1, 0, 1, 0] (Zbl tab Tryz.f19.results (Zbo (.c (some (0, 9)) (.sl (r.map c_S))) []))) ⟨[(1, .ptr 1 0), (3, .c (some (3, 9)) (.sl (ZM.map c_S))), (4, .c none (.v (.int .i64 ((i_4 : Nat) : Int))))], [(1, [(none, .v (.int .i64 e.fOp)), (none, .v (.string e.fName)), (none, .sl (e.fArgs.map Zq.cells)), (none, .v (.bool e.fRec)), (none, .sl (e.fBinds.map Zc.cells)), (none, .sl (e.fKids.map Zo.cells)), (none, .sl (e.fAlts.map Zi.cells))])]⟩
def Zax.M (ZM : (List ByteArray)) (Ze0 : ((List ByteArray))) (Zdh : (List ByteArray)) (e : Zo) (r : (List ByteArray)) : Prop :=
 e.fArgs.length ≤ maxLen → AWP Tryz.prog 116 (Code.sub (Zt Tryz.f19) [1, 1, 1, 1, 1, 1, 1]) (Code.cont Tryz.prog 116 (Zt Tryz.f19) [1, 1, 1, 1, 1, 1, 1] (Zbl tab Tryz.f19.results (Zbo (.c (some (0, 9)) (.sl (r.map c_S))) []))) ⟨[(1, .ptr 1 0), (3, .c (some (3, 9)) (.sl (ZM.map c_S))), (5, .c (some (5, 9)) (.sl (Ze0.map c_S))), (6, .c none (.sl (Zdh.map c_S)))], [(1, [(none, .v (.int .i64 e.fOp)), (none, .v (.string e.fName)), (none, .sl (e.fArgs.map Zq.cells)), (none, .v (.bool e.fRec)), (none, .sl (e.fBinds.map Zc.cells)), (none, .sl (e.fKids.map Zo.cells)), (none, .sl (e.fAlts.map Zi.cells))])]⟩
def Zap.M (ZM : (List ByteArray)) (Ze0 : ((List ByteArray))) (Zdh : (List ByteArray)) (i_7 : Nat) (e : Zo) (Zmd : (List Zc)) (r : (List ByteArray)) : Prop :=
 ∀ Zon : List Zc, e.fBinds = Zon ++ Zmd → i_7 = Zon.length → e.fArgs.length ≤ maxLen → AWL Tryz.prog 116 (Code.sub (Zt Tryz.f19) [1, 1, 1, 1, 1, 1, 1, 0, 1, 0, 0]) (Code.cont Tryz.prog 116 (Zt Tryz.f19) [1, 1, 1, 1, 1, 1, 1, 0, 1, 0] (Zbl tab Tryz.f19.results (Zbo (.c (some (0, 9)) (.sl (r.map c_S))) []))) ⟨[(1, .ptr 1 0), (3, .c (some (3, 9)) (.sl (ZM.map c_S))), (5, .c (some (5, 9)) (.sl (Ze0.map c_S))), (6, .c none (.sl (Zdh.map c_S))), (7, .c none (.v (.int .i64 ((i_7 : Nat) : Int))))], [(1, [(none, .v (.int .i64 e.fOp)), (none, .v (.string e.fName)), (none, .sl (e.fArgs.map Zq.cells)), (none, .v (.bool e.fRec)), (none, .sl (e.fBinds.map Zc.cells)), (none, .sl (e.fKids.map Zo.cells)), (none, .sl (e.fAlts.map Zi.cells))])]⟩
def Zab.M (ZM : (List ByteArray)) (Ze0 : ((List ByteArray))) (i_8 : Nat) (e : Zo) (ZeI : (List Zo)) (r : (List ByteArray)) : Prop :=
 ∀ ZhF : List Zo, e.fKids = ZhF ++ ZeI → i_8 = ZhF.length → e.fArgs.length ≤ maxLen → e.fBinds.length ≤ maxLen → AWL Tryz.prog 116 (Code.sub (Zt Tryz.f19) [1, 1, 1, 1, 1, 1, 1, 1, 0, 1, 0, 0]) (Code.cont Tryz.prog 116 (Zt Tryz.f19) [1, 1, 1, 1, 1, 1, 1, 1, 0, 1, 0] (Zbl tab Tryz.f19.results (Zbo (.c (some (0, 9)) (.sl (r.map c_S))) []))) ⟨[(1, .ptr 1 0), (3, .c (some (3, 9)) (.sl (ZM.map c_S))), (5, .c (some (5, 9)) (.sl (Ze0.map c_S))), (8, .c none (.v (.int .i64 ((i_8 : Nat) : Int))))], [(1, [(none, .v (.int .i64 e.fOp)), (none, .v (.string e.fName)), (none, .sl (e.fArgs.map Zq.cells)), (none, .v (.bool e.fRec)), (none, .sl (e.fBinds.map Zc.cells)), (none, .sl (e.fKids.map Zo.cells)), (none, .sl (e.fAlts.map Zi.cells))])]⟩
def Zai.M (ZM : (List ByteArray)) (i_9 : Nat) (e : Zo) (r : (List ByteArray)) : Prop :=
 e.fArgs.length ≤ maxLen → e.fBinds.length ≤ maxLen → e.fKids.length ≤ maxLen → AWL Tryz.prog 116 (Code.sub (Zt Tryz.f19) [1, 1, 1, 1, 1, 1, 1, 1, 1, 0, 1, 0, 0]) (Code.cont Tryz.prog 116 (Zt Tryz.f19) [1, 1, 1, 1, 1, 1, 1, 1, 1, 0, 1, 0] (Zbl tab Tryz.f19.results (Zbo (.c (some (0, 9)) (.sl (r.map c_S))) []))) ⟨[(1, .ptr 1 0), (3, .c (some (3, 9)) (.sl (ZM.map c_S))), (9, .c none (.v (.int .i64 ((i_9 : Nat) : Int))))], [(1, [(none, .v (.int .i64 e.fOp)), (none, .v (.string e.fName)), (none, .sl (e.fArgs.map Zq.cells)), (none, .v (.bool e.fRec)), (none, .sl (e.fBinds.map Zc.cells)), (none, .sl (e.fKids.map Zo.cells)), (none, .sl (e.fAlts.map Zi.cells))])]⟩
def Zbw.M (ZM : (List ByteArray)) (i_9 : Nat) (ZhO : (List ByteArray)) (e : Zo) (r : (List ByteArray)) : Prop :=
 e.fArgs.length ≤ maxLen → e.fBinds.length ≤ maxLen → e.fKids.length ≤ maxLen → e.fAlts.length ≤ maxLen → i_9 < e.fAlts.length → AWP Tryz.prog 116 (Code.sub (Zt Tryz.f19) [1, 1, 1, 1, 1, 1, 1, 1, 1, 0, 1, 0, 0, 1, 0, 0, 1, 1]) (Code.cont Tryz.prog 116 (Zt Tryz.f19) [1, 1, 1, 1, 1, 1, 1, 1, 1, 0, 1, 0, 0, 1, 0, 0, 1, 1] (Zbl tab Tryz.f19.results (Zbo (.c (some (0, 9)) (.sl (r.map c_S))) []))) ⟨[(1, .ptr 1 0), (3, .c (some (3, 9)) (.sl (ZM.map c_S))), (9, .c none (.v (.int .i64 ((i_9 : Nat) : Int)))), (10, .c (some (10, 9)) (.sl (ZhO.map c_S)))], [(1, [(none, .v (.int .i64 e.fOp)), (none, .v (.string e.fName)), (none, .sl (e.fArgs.map Zq.cells)), (none, .v (.bool e.fRec)), (none, .sl (e.fBinds.map Zc.cells)), (none, .sl (e.fKids.map Zo.cells)), (none, .sl (e.fAlts.map Zi.cells))])]⟩
theorem Zji : (∀ (b : Zc), ∀ r, Za0 b = some r → Za0.M b r) ∧ (∀ (e : Zo), ∀ r, ZL e = some r → ZL.M e r) ∧ (∀ (ZM : (List ByteArray)) (e : Zo), ∀ r, Zau ZM e = some r → Zau.M ZM e r) ∧ (∀ (ZM : (List ByteArray)) (i_4 : Nat) (e : Zo) (Zct : (List Zq)), ∀ r, ZY ZM i_4 e Zct = some r → ZY.M ZM i_4 e Zct r) ∧ (∀ (ZM : (List ByteArray)) (Ze0 : ((List ByteArray))) (Zdh : (List ByteArray)) (e : Zo), ∀ r, Zax ZM Ze0 Zdh e = some r → Zax.M ZM Ze0 Zdh e r) ∧ (∀ (ZM : (List ByteArray)) (Ze0 : ((List ByteArray))) (Zdh : (List ByteArray)) (i_7 : Nat) (e : Zo) (Zmd : (List Zc)), ∀ r, Zap ZM Ze0 Zdh i_7 e Zmd = some r → Zap.M ZM Ze0 Zdh i_7 e Zmd r) ∧ (∀ (ZM : (List ByteArray)) (Ze0 : ((List ByteArray))) (i_8 : Nat) (e : Zo) (ZeI : (List Zo)), ∀ r, Zab ZM Ze0 i_8 e ZeI = some r → Zab.M ZM Ze0 i_8 e ZeI r) ∧ (∀ (ZM : (List ByteArray)) (i_9 : Nat) (e : Zo), ∀ r, Zai ZM i_9 e = some r → Zai.M ZM i_9 e r) ∧ (∀ (ZM : (List ByteArray)) (i_9 : Nat) (ZhO : (List ByteArray)) (e : Zo), ∀ r, Zbw ZM i_9 ZhO e = some r → Zbw.M ZM i_9 ZhO e r) := by
 refine Za0.mutual_partial_correctness Za0.M ZL.M Zau.M ZY.M Zax.M Zap.M Zab.M Zai.M Zbw.M ?_ ?_ ?_ ?_ ?_ ?_ ?_ ?_ ?_
 ·intro lazycref36_Free' Zef b r hF
  unfold Za0.M
  refine en Tryz.func46 ?_
  refine AWP.seq ?_
  refine ns ?_
  refine AWP.seq ?_
  obtain ⟨r3, hr3, hF⟩ := bind_some hF
  obtain ⟨r4, hr4, hF⟩ := bind_some hF
  refine nn ?_
  refine Or.inl (Or.inr (Exists.intro [3, 4] (Exists.intro [[6, 7], [7]] (Exists.intro [1] (Exists.intro [1, 6, 7] (Exists.intro [6, 7] (Exists.intro [0, 1, 2, 5, 6] (And.intro (by decide +kernel) ?_))))))))
  refine dp ?_
  refine dp ?_
  refine st ?_
  refine e3 ?_
  refine st ?_
  refine cm (Zn.weak (rn []) (Zef b.fBody _ hr3) rfl (WS.mk (Zj (ZaM (lc (lc (lc (lc (lc (lc (lc Zr)))))))) Ze) Zf)) ?_
  refine st ?_
  refine Exists.intro [5] (Exists.intro [] (Exists.intro [] ?_))
  refine st ?_
  refine cm (Zn.weak (rn []) (Zep ([] : List ByteArray) r3 b.fParams _ hr4) rfl (WS.mk (Zj (Zaj WE.nil) (tc (tc Ze))) Zf)) ?_
  refine st ?_
  obtain rfl := Zs hF
  refine ns ?_
  refine Exists.intro [] ?_
  refine st ?_
  exact Exists.intro (rn [(8, 0)]) (WS.mk (Zj (ZH rfl (WE.refl _)) Ze) Zf)
 ·intro lazycref36_Free_k1' Zhd e r hF
  unfold ZL.M
  refine en Tryz.func19 ?_
  refine AWP.seq ?_
  refine ns ?_
  refine AWP.seq ?_
  refine ns ?_
  refine Exists.intro _ (And.intro (Zx (f := c_S)) ?_)
  refine st ?_
  refine AWP.seq ?_
  refine AWP.seq ?_
  refine ns ?_
  refine nw ?_
  refine Zw hF (fun Zzd hF => ?_) (fun Zzd hF => ?_)
  ·obtain ⟨ZAg, hF⟩ := ZV hF
   refine ns ?_
   refine Exists.intro _ (And.intro (ZE (f := c_S) (lc Zr) (Zx (f := c_S))) ?_)
   refine sa (fun l => ZaE l (fun x => Zbk x)) ZAg ?_
   refine Exists.intro _ (And.intro (WE.refl _) ?_)
   rw [← List.map_append]
   refine st ?_
   refine AWP.weak (rn [(19, 3)]) ?_ (Zhd (([] : List ByteArray) ++ ([e.fName])) e _ hF)
   exact (WS.mk (tp (Zj (ZH rfl (WE.refl _)) Ze)) (Za rfl (cc (cc (cc (cc (cc (cc (cc Zb))))))) Zf))
  ·refine nw ?_
   refine AWP.weak (rn [(11, 3)]) ?_ (Zhd ([] : List ByteArray) e _ hF)
   exact (WS.mk (tp (Zj (ZH rfl (WE.refl _)) Ze)) (Za rfl (cc (cc (cc (cc (cc (cc (cc Zb))))))) Zf))
 ·intro lazycref36_Free_l2' Zei ZM e r hF
  unfold Zau.M
  refine AWP.seq ?_
  refine AWP.seq ?_
  refine ns ?_
  refine AWP.block ?_
  refine AWP.loop ?_
  refine AWL.weak (rn [(3, 3)]) ?_ (Zei ZM 0 e e.fArgs _ hF ([]) rfl rfl)
  exact (WS.mk (tp (Zj (ZH rfl (WE.refl _)) (tc Ze))) (Za rfl (cc (cc (cc (cc (cc (cc (cc Zb))))))) Zf))
 ·intro lazycref36_Free_l2' lazycref36_Free_k3' Zei Zhf ZM i_4 e Zct r hF
  unfold ZY.M
  intro ZdQ ZhY ZhT
  refine AWL.step ?_
  refine AWP.seq ?_
  refine AWP.seq ?_
  refine ns ?_
  intro hlen221
  (try rw [List.length_map] at hlen221)
  (try rw [List.length_map])
  refine st ?_
  refine nw ?_
  refine ZB ZhY ZhT (fun Zrv Zrw ZvE Zw9 Zxa => ?_) (fun ZvE => ?_)
  ·subst ZvE
   refine nw ?_
   refine AWP.seq ?_
   refine AWP.block ?_
   refine AWP.seq ?_
   refine nn ?_
   refine sr (Z9 (f := Zq.cells) (Zq.cells_eq Zrv) Zw9) ?_
   refine st ?_
   refine nw ?_
   refine Zw hF (fun ZAD hF => ?_) (fun ZAD hF => ?_)
   ·obtain ⟨Zyn, ZzR, hF⟩ := bind_some hF
    refine nn ?_
    refine sr (Z9 (f := Zq.cells) (Zq.cells_eq Zrv) Zw9) ?_
    refine st ?_
    refine Exists.intro _ (And.intro (ZE (f := c_S) (lc Zr) (Zx (f := c_S))) ?_)
    refine st ?_
    refine Exists.intro [3, 41] (Exists.intro [] (Exists.intro [] ?_))
    refine st ?_
    refine cm (Zn.weak (rn []) (Zep ZM ([Zrv.fName]) ([] : List ByteArray) _ ZzR) rfl (WS.mk (tc (tc (Zj (Zaj WE.nil) Ze))) Zf)) ?_
    refine st ?_
    refine ns ?_
    refine AWL.weak (rn [(42, 3)]) ?_ (Zei Zyn (i_4 + 1) e Zrw _ hF (ZdQ ++ [Zrv]) (by rw [ZhY]; simp) (by rw [ZhT]; simp))
    exact (WS.mk (tp (Zj (ZH rfl (WE.refl _)) (Zj (Zaj (Zcw (ZD hlen221 Zxa))) Ze))) (Za rfl (cc (cc (cc (cc (cc (cc (cc Zb))))))) Zf))
   ·refine nw ?_
    refine ns ?_
    refine AWL.weak (rn [(3, 3)]) ?_ (Zei ZM (i_4 + 1) e Zrw _ hF (ZdQ ++ [Zrv]) (by rw [ZhY]; simp) (by rw [ZhT]; simp))
    exact (WS.mk (tp (Zj (ZH rfl (WE.refl _)) (Zj (Zaj (Zcw (ZD hlen221 Zxa))) Ze))) (Za rfl (cc (cc (cc (cc (cc (cc (cc Zb))))))) Zf))
  ·subst ZvE
   refine nw ?_
   refine AWP.seq ?_
   obtain ⟨Ze0, Zzc, hF⟩ := bind_some hF
   refine ns ?_
   refine e3 ?_
   refine st ?_
   refine cm (Zn.weak (rn []) (ZkA e.fBinds _ Zzc) rfl (WS.mk (tc Ze) Zf)) ?_
   refine st ?_
   refine AWP.seq ?_
   refine ns ?_
   refine Exists.intro _ (And.intro (Zx (f := c_S)) ?_)
   refine st ?_
   refine AWP.seq ?_
   refine AWP.seq ?_
   refine ns ?_
   refine nw ?_
   refine Zw hF (fun Zu8 hF => ?_) (fun Zu8 hF => ?_)
   ·refine ns ?_
    refine AWP.weak (rn [(3, 3), (45, 5)]) ?_ (Zhf ZM Ze0 Ze0 e _ hF hlen221)
    exact (WS.mk (tp (Zj (ZH rfl (WE.refl _)) (Zj (ZH rfl (WE.refl _)) (tc Ze)))) (Za rfl (cc (cc (cc (cc (cc (cc (cc Zb))))))) Zf))
   ·refine nw ?_
    refine AWP.weak (rn [(3, 3), (45, 5)]) ?_ (Zhf ZM Ze0 ([] : List ByteArray) e _ hF hlen221)
    exact (WS.mk (tp (Zj (ZH rfl (WE.refl _)) (Zj (ZH rfl (WE.refl _)) (tc Ze)))) (Za rfl (cc (cc (cc (cc (cc (cc (cc Zb))))))) Zf))
 ·intro lazycref36_Free_l4' Zfe ZM Ze0 Zdh e r hF
  unfold Zax.M
  intro hlen221
  refine AWP.seq ?_
  refine AWP.seq ?_
  refine ns ?_
  refine AWP.block ?_
  refine AWP.loop ?_
  refine AWL.weak (rn [(3, 3), (5, 5)]) ?_ (Zfe ZM Ze0 Zdh 0 e e.fBinds _ hF ([]) rfl rfl hlen221)
  exact (WS.mk (tp (Zj (ZH rfl (WE.refl _)) (Zj (ZH rfl (WE.refl _)) (tc (tc Ze))))) (Za rfl (cc (cc (cc (cc (cc (cc (cc Zb))))))) Zf))
 ·intro lazycref36_bindFree' lazycref36_Free_l4' lazycref36_Free_l5' ZjI Zfe Ze9 ZM Ze0 Zdh i_7 e Zmd r hF
  unfold Zap.M
  intro Zon ZuX ZuY hlen221
  refine AWL.step ?_
  refine AWP.seq ?_
  refine AWP.seq ?_
  refine ns ?_
  intro hlen266
  (try rw [List.length_map] at hlen266)
  (try rw [List.length_map])
  refine st ?_
  refine nw ?_
  refine ZB ZuX ZuY (fun ZvM ZuN ZvD ZAE Zzm => ?_) (fun ZvD => ?_)
  ·subst ZvD
   refine nw ?_
   refine AWP.seq ?_
   refine AWP.block ?_
   obtain ⟨Zyz, ZAq, hF⟩ := bind_some hF
   obtain ⟨Zyj, Zz6, hF⟩ := bind_some hF
   refine nn ?_
   refine sr (Z9 (f := Zc.cells) (Zc.cells_eq ZvM) ZAE) ?_
   refine st ?_
   refine e3 ?_
   refine st ?_
   refine cm (Zn.weak (rn []) (ZjI ZvM _ ZAq) rfl (WS.mk (Zj (ZaM (lc (lc (lc (lc (lc (lc (lc (lc (lc (lc (lc Zr)))))))))))) Ze) Zf)) ?_
   refine st ?_
   refine Exists.intro [3, 63] (Exists.intro [] (Exists.intro [] ?_))
   refine st ?_
   refine cm (Zn.weak (rn []) (Zep ZM Zyz Zdh _ Zz6) rfl (WS.mk (tc (tc (tc Ze))) Zf)) ?_
   refine st ?_
   refine ns ?_
   refine AWL.weak (rn [(5, 5), (65, 3)]) ?_ (Zfe Zyj Ze0 Zdh (i_7 + 1) e ZuN _ hF (Zon ++ [ZvM]) (by rw [ZuX]; simp) (by rw [ZuY]; simp) hlen221)
   exact (WS.mk (tp (Zj (ZH rfl (WE.refl _)) (Zj (ZH rfl (WE.refl _)) (tc (Zj (Zaj (Zcw (ZD hlen266 Zzm))) Ze))))) (Za rfl (cc (cc (cc (cc (cc (cc (cc Zb))))))) Zf))
  ·subst ZvD
   refine nw ?_
   refine AWP.seq ?_
   refine AWP.seq ?_
   refine ns ?_
   refine AWP.block ?_
   refine AWP.loop ?_
   refine AWL.weak (rn [(3, 3), (5, 5)]) ?_ (Ze9 ZM Ze0 0 e e.fKids _ hF ([]) rfl rfl hlen221 hlen266)
   exact (WS.mk (tp (Zj (ZH rfl (WE.refl _)) (Zj (ZH rfl (WE.refl _)) (tc Ze)))) (Za rfl (cc (cc (cc (cc (cc (cc (cc Zb))))))) Zf))
 ·intro lazycref36_Free' lazycref36_Free_l5' lazycref36_Free_l6' Zef Ze9 Zfd ZM Ze0 i_8 e ZeI r hF
  unfold Zab.M
  intro ZhF Zm0 Znm hlen221 hlen266
  refine AWL.step ?_
  refine AWP.seq ?_
  refine AWP.seq ?_
  refine ns ?_
  intro hlen309
  (try rw [List.length_map] at hlen309)
  (try rw [List.length_map])
  refine st ?_
  refine nw ?_
  refine ZB Zm0 Znm (fun Zvq Zu5 ZvU Zz1 Zz3 => ?_) (fun ZvU => ?_)
  ·subst ZvU
   refine nw ?_
   refine AWP.seq ?_
   refine AWP.block ?_
   obtain ⟨ZyM, ZzO, hF⟩ := bind_some hF
   obtain ⟨Zya, ZAM, hF⟩ := bind_some hF
   refine nn ?_
   refine sr (Z9 (f := Zo.cells) (Zo.cells_eq Zvq) Zz1) ?_
   refine st ?_
   refine e3 ?_
   refine st ?_
   refine cm (Zn.weak (rn []) (Zef Zvq _ ZzO) rfl (WS.mk (Zj (ZaM (lc (lc (lc (lc (lc (lc (lc Zr)))))))) Ze) Zf)) ?_
   refine st ?_
   refine Exists.intro [3, 5, 79] (Exists.intro [] (Exists.intro [] ?_))
   refine st ?_
   refine cm (Zn.weak (rn []) (Zep ZM ZyM Ze0 _ ZAM) rfl (WS.mk (tc (tc (tc Ze))) Zf)) ?_
   refine st ?_
   refine ns ?_
   refine AWL.weak (rn [(5, 5), (81, 3)]) ?_ (Ze9 Zya Ze0 (i_8 + 1) e Zu5 _ hF (ZhF ++ [Zvq]) (by rw [Zm0]; simp) (by rw [Znm]; simp) hlen221 hlen266)
   exact (WS.mk (tp (Zj (ZH rfl (WE.refl _)) (Zj (ZH rfl (WE.refl _)) (Zj (Zaj (Zcw (ZD hlen309 Zz3))) Ze)))) (Za rfl (cc (cc (cc (cc (cc (cc (cc Zb))))))) Zf))
  ·subst ZvU
   refine nw ?_
   refine AWP.seq ?_
   refine AWP.seq ?_
   refine ns ?_
   refine AWP.block ?_
   refine AWP.loop ?_
   refine AWL.weak (rn [(3, 3)]) ?_ (Zfd ZM 0 e _ hF hlen221 hlen266 hlen309)
   exact (WS.mk (tp (Zj (ZH rfl (WE.refl _)) (tc Ze))) (Za rfl (cc (cc (cc (cc (cc (cc (cc Zb))))))) Zf))
 ·intro lazycref36_Free_k7' Zhh ZM i_9 e r hF
  unfold Zai.M
  intro hlen221 hlen266 hlen309
  refine AWL.step ?_
  refine AWP.seq ?_
  refine AWP.seq ?_
  refine ns ?_
  intro hlen343
  (try rw [List.length_map] at hlen343)
  (try rw [List.length_map])
  refine st ?_
  refine nw ?_
  refine Zw hF (fun Zw2 hF => ?_) (fun Zw2 hF => ?_)
  ·have Zs2 := Znh Zw2
   refine nw ?_
   refine AWP.seq ?_
   refine AWP.block ?_
   refine AWP.seq ?_
   obtain ⟨ZrT, ZAy, hF⟩ := bind_some hF
   obtain ⟨ZyY, hF⟩ := ZV hF
   refine ns ?_
   refine Exists.intro _ (And.intro (Zx (f := c_S)) ?_)
   refine sr (Z9 (f := Zi.cells) (Zi.cells_eq ZrT) ZAy) ?_
   refine sa (fun l => ZaE l (fun x => Zbk x)) ZyY ?_
   refine Exists.intro _ (And.intro (WE.refl _) ?_)
   rw [← List.map_append]
   refine st ?_
   refine AWP.seq ?_
   refine AWP.seq ?_
   refine ns ?_
   refine nw ?_
   refine Zw hF (fun ZoX hF => ?_) (fun ZoX hF => ?_)
   ·obtain ⟨ZzC, hF⟩ := ZV hF
    refine ns ?_
    refine Exists.intro _ (And.intro (ZE (f := c_S) (lc Zr) (Zx (f := c_S))) ?_)
    refine sa (fun l => ZaE l (fun x => Zbk x)) ZzC ?_
    refine Exists.intro _ (And.intro (WE.refl _) ?_)
    rw [← List.map_append]
    refine st ?_
    refine AWP.weak (rn [(3, 3), (104, 10)]) ?_ (Zhh ZM i_9 ((([] : List ByteArray) ++ ZrT.fVars) ++ ([e.fName])) e _ hF hlen221 hlen266 hlen309 hlen343 Zs2)
    exact (WS.mk (tp (Zj (ZH rfl (WE.refl _)) (tc (Zj (ZH rfl (WE.refl _)) Ze)))) (Za rfl (cc (cc (cc (cc (cc (cc (cc Zb))))))) Zf))
   ·refine nw ?_
    refine AWP.weak (rn [(3, 3), (96, 10)]) ?_ (Zhh ZM i_9 (([] : List ByteArray) ++ ZrT.fVars) e _ hF hlen221 hlen266 hlen309 hlen343 Zs2)
    exact (WS.mk (tp (Zj (ZH rfl (WE.refl _)) (tc (Zj (ZH rfl (WE.refl _)) Ze)))) (Za rfl (cc (cc (cc (cc (cc (cc (cc Zb))))))) Zf))
  ·refine nw ?_
   refine AWP.seq ?_
   refine ns ?_
   obtain rfl := Zs hF
   refine ns ?_
   refine Exists.intro [] ?_
   refine st ?_
   exact Exists.intro (rn [(3, 0)]) (WS.mk (Zj (ZH rfl (WE.refl _)) Ze) Zf)
 ·intro lazycref36_Free' lazycref36_Free_l6' Zef Zfd ZM i_9 ZhO e r hF
  unfold Zbw.M
  intro hlen221 hlen266 hlen309 hlen343 Zs2
  obtain ⟨Zws, ZAC, hF⟩ := bind_some hF
  obtain ⟨Zxt, ZAJ, hF⟩ := bind_some hF
  obtain ⟨ZxI, ZzI, hF⟩ := bind_some hF
  refine nn ?_
  refine sr (Z9 (f := Zi.cells) (Zi.cells_eq Zws) ZAC) ?_
  refine st ?_
  refine e3 ?_
  refine st ?_
  refine cm (Zn.weak (rn []) (Zef Zws.fBody _ ZAJ) rfl (WS.mk (Zj (ZaM (lc (lc (lc (lc (lc (lc (lc Zr)))))))) Ze) Zf)) ?_
  refine st ?_
  refine Exists.intro [3, 10, 112] (Exists.intro [] (Exists.intro [] ?_))
  refine st ?_
  refine cm (Zn.weak (rn []) (Zep ZM Zxt ZhO _ ZzI) rfl (WS.mk (tc (tc (tc Ze))) Zf)) ?_
  refine st ?_
  refine ns ?_
  refine AWL.weak (rn [(114, 3)]) ?_ (Zfd ZxI (i_9 + 1) e _ hF hlen221 hlen266 hlen309)
  exact (WS.mk (tp (Zj (ZH rfl (WE.refl _)) (Zj (Zaj (Zcw (ZD hlen343 Zs2))) Ze))) (Za rfl (cc (cc (cc (cc (cc (cc (cc Zb))))))) Zf))
theorem Zl8 : ∀ (e : Zo), ∀ r, ZL e = some r → ZL.M e r := Zji.2.1

mutual
def ZaJ (e : Zo) : Option (Int) :=
 ZbO (IntKind.i64.wrap (1 + ((e.fArgs.length : Nat) : Int))) 0 e e.fBinds
 partial_fixpoint
def ZbO (n_3 : Int) (i_4 : Nat) (e : Zo) (Zct : (List Zc)) : Option (Int) :=
 (match Zct with
 | x35 :: Zyl =>
 ZaJ x35.fBody >>= fun r38 =>
 ZbO (IntKind.i64.wrap ((IntKind.i64.wrap (n_3 + 1)) + r38)) (i_4 + 1) e Zyl
 | [] =>
 ZbP n_3 0 e e.fAlts)
 partial_fixpoint
def ZbP (n_3 : Int) (i_5 : Nat) (e : Zo) (Zb2 : (List Zi)) : Option (Int) :=
 (match Zb2 with
 | x72 :: Zx1 =>
 ZaJ x72.fBody >>= fun r75 =>
 ZbP (IntKind.i64.wrap ((IntKind.i64.wrap (n_3 + 1)) + r75)) (i_5 + 1) e Zx1
 | [] =>
 ZbQ n_3 0 e e.fKids)
 partial_fixpoint
def ZbQ (n_3 : Int) (i_6 : Nat) (e : Zo) (ZgE : (List Zo)) : Option (Int) :=
 (match ZgE with
 | x91 :: Zss =>
 ZaJ x91 >>= fun r94 =>
 ZbQ (IntKind.i64.wrap (n_3 + r94)) (i_6 + 1) e Zss
 | [] =>
 some n_3)
 partial_fixpoint
end
def ZaJ.M (e : Zo) (r : Int) : Prop :=
 Zn Tryz.prog 21 [.agg [.v (.int .i64 e.fOp), .v (.string e.fName), .sl (e.fArgs.map Zq.cells), .v (.bool e.fRec), .sl (e.fBinds.map Zc.cells), .sl (e.fKids.map Zo.cells), .sl (e.fAlts.map Zi.cells)]] [] (fun d b => d = .c none (.v (.int .i64 r)) ∧ b = [])
def ZbO.M (n_3 : Int) (i_4 : Nat) (e : Zo) (Zct : (List Zc)) (r : Int) : Prop :=
 ∀ ZdQ : List Zc, e.fBinds = ZdQ ++ Zct → i_4 = ZdQ.length → e.fArgs.length ≤ maxLen → AWL Tryz.prog 61 (Code.sub (Zt Tryz.f21) [1, 1, 0, 1, 0, 0]) (Code.cont Tryz.prog 61 (Zt Tryz.f21) [1, 1, 0, 1, 0] (Zbl tab Tryz.f21.results (Zbo (.c none (.v (.int .i64 r))) []))) ⟨[(1, .ptr 1 0), (3, .c none (.v (.int .i64 n_3))), (4, .c none (.v (.int .i64 ((i_4 : Nat) : Int))))], [(1, [(none, .v (.int .i64 e.fOp)), (none, .v (.string e.fName)), (none, .sl (e.fArgs.map Zq.cells)), (none, .v (.bool e.fRec)), (none, .sl (e.fBinds.map Zc.cells)), (none, .sl (e.fKids.map Zo.cells)), (none, .sl (e.fAlts.map Zi.cells))])]⟩
def ZbP.M (n_3 : Int) (i_5 : Nat) (e : Zo) (Zb2 : (List Zi)) (r : Int) : Prop :=
 ∀ Zd0 : List Zi, e.fAlts = Zd0 ++ Zb2 → i_5 = Zd0.length → e.fArgs.length ≤ maxLen → e.fBinds.length ≤ maxLen → AWL Tryz.prog 61 (Code.sub (Zt Tryz.f21) [1, 1, 1, 0, 1, 0, 0]) (Code.cont Tryz.prog 61 (Zt Tryz.f21) [1, 1, 1, 0, 1, 0] (Zbl tab Tryz.f21.results (Zbo (.c none (.v (.int .i64 r))) []))) ⟨[(1, .ptr 1 0), (3, .c none (.v (.int .i64 n_3))), (5, .c none (.v (.int .i64 ((i_5 : Nat) : Int))))], [(1, [(none, .v (.int .i64 e.fOp)), (none, .v (.string e.fName)), (none, .sl (e.fArgs.map Zq.cells)), (none, .v (.bool e.fRec)), (none, .sl (e.fBinds.map Zc.cells)), (none, .sl (e.fKids.map Zo.cells)), (none, .sl (e.fAlts.map Zi.cells))])]⟩
def ZbQ.M (n_3 : Int) (i_6 : Nat) (e : Zo) (ZgE : (List Zo)) (r : Int) : Prop :=
 ∀ Zh3 : List Zo, e.fKids = Zh3 ++ ZgE → i_6 = Zh3.length → e.fArgs.length ≤ maxLen → e.fBinds.length ≤ maxLen → e.fAlts.length ≤ maxLen → AWL Tryz.prog 61 (Code.sub (Zt Tryz.f21) [1, 1, 1, 1, 0, 1, 0, 0]) (Code.cont Tryz.prog 61 (Zt Tryz.f21) [1, 1, 1, 1, 0, 1, 0] (Zbl tab Tryz.f21.results (Zbo (.c none (.v (.int .i64 r))) []))) ⟨[(1, .ptr 1 0), (3, .c none (.v (.int .i64 n_3))), (6, .c none (.v (.int .i64 ((i_6 : Nat) : Int))))], [(1, [(none, .v (.int .i64 e.fOp)), (none, .v (.string e.fName)), (none, .sl (e.fArgs.map Zq.cells)), (none, .v (.bool e.fRec)), (none, .sl (e.fBinds.map Zc.cells)), (none, .sl (e.fKids.map Zo.cells)), (none, .sl (e.fAlts.map Zi.cells))])]⟩
theorem ZlI : (∀ (e : Zo), ∀ r, ZaJ e = some r → ZaJ.M e r) ∧ (∀ (n_3 : Int) (i_4 : Nat) (e : Zo) (Zct : (List Zc)), ∀ r, ZbO n_3 i_4 e Zct = some r → ZbO.M n_3 i_4 e Zct r) ∧ (∀ (n_3 : Int) (i_5 : Nat) (e : Zo) (Zb2 : (List Zi)), ∀ r, ZbP n_3 i_5 e Zb2 = some r → ZbP.M n_3 i_5 e Zb2 r) ∧ (∀ (n_3 : Int) (i_6 : Nat) (e : Zo) (ZgE : (List Zo)), ∀ r, ZbQ n_3 i_6 e ZgE = some r → ZbQ.M n_3 i_6 e ZgE r) := by
 refine ZaJ.mutual_partial_correctness ZaJ.M ZbO.M ZbP.M ZbQ.M ?_ ?_ ?_ ?_
 ·intro lazycref36_Size_l1' Zfc e r hF
  unfold ZaJ.M
  refine en Tryz.func21 ?_
  refine AWP.seq ?_
  refine ns ?_
  refine AWP.seq ?_
  refine ns ?_
  intro hlen1
  (try rw [List.length_map] at hlen1)
  (try rw [List.length_map])
  refine st ?_
  refine AWP.seq ?_
  refine AWP.seq ?_
  refine ns ?_
  refine AWP.block ?_
  refine AWP.loop ?_
  refine AWL.weak (rn []) ?_ (Zfc (IntKind.i64.wrap (1 + ((e.fArgs.length : Nat) : Int))) 0 e e.fBinds _ hF ([]) rfl rfl hlen1)
  exact (WS.mk (tp (tc (tc Ze))) (Za rfl (cc (cc (cc (cc (cc (cc (cc Zb))))))) Zf))
 ·intro lazycref36_Size' lazycref36_Size_l1' lazycref36_Size_l2' Zee Zfc Zff n_3 i_4 e Zct r hF
  unfold ZbO.M
  intro ZdQ ZhY ZhT hlen1
  refine AWL.step ?_
  refine AWP.seq ?_
  refine AWP.seq ?_
  refine ns ?_
  intro hlen34
  (try rw [List.length_map] at hlen34)
  (try rw [List.length_map])
  refine st ?_
  refine nw ?_
  refine ZB ZhY ZhT (fun x35 Zyl Zyv ZCa ZBD => ?_) (fun Zyv => ?_)
  ·subst Zyv
   refine nw ?_
   refine AWP.seq ?_
   refine AWP.block ?_
   obtain ⟨r38, ZyU, hF⟩ := bind_some hF
   refine nn ?_
   refine sr (Z9 (f := Zc.cells) (Zc.cells_eq x35) ZCa) ?_
   refine st ?_
   refine e3 ?_
   refine st ?_
   refine cm (Zn.weak (rn []) (Zee x35.fBody _ ZyU) rfl (WS.mk (Zj (ZaM (lc (lc (lc (lc (lc (lc (lc Zr)))))))) Ze) Zf)) ?_
   refine st ?_
   refine ns ?_
   refine AWL.weak (rn []) ?_ (Zfc (IntKind.i64.wrap ((IntKind.i64.wrap (n_3 + 1)) + r38)) (i_4 + 1) e Zyl _ hF (ZdQ ++ [x35]) (by rw [ZhY]; simp) (by rw [ZhT]; simp) hlen1)
   exact (WS.mk (tp (tc (Zj (Zaj (Zcw (ZD hlen34 ZBD))) Ze))) (Za rfl (cc (cc (cc (cc (cc (cc (cc Zb))))))) Zf))
  ·subst Zyv
   refine nw ?_
   refine AWP.seq ?_
   refine AWP.seq ?_
   refine ns ?_
   refine AWP.block ?_
   refine AWP.loop ?_
   refine AWL.weak (rn []) ?_ (Zff n_3 0 e e.fAlts _ hF ([]) rfl rfl hlen1 hlen34)
   exact (WS.mk (tp (tc (tc Ze))) (Za rfl (cc (cc (cc (cc (cc (cc (cc Zb))))))) Zf))
 ·intro lazycref36_Size' lazycref36_Size_l2' lazycref36_Size_l3' Zee Zff Zfh n_3 i_5 e Zb2 r hF
  unfold ZbP.M
  intro Zd0 Ziq Zii hlen1 hlen34
  refine AWL.step ?_
  refine AWP.seq ?_
  refine AWP.seq ?_
  refine ns ?_
  intro hlen71
  (try rw [List.length_map] at hlen71)
  (try rw [List.length_map])
  refine st ?_
  refine nw ?_
  refine ZB Ziq Zii (fun x72 Zx1 Zxk ZBy ZBm => ?_) (fun Zxk => ?_)
  ·subst Zxk
   refine nw ?_
   refine AWP.seq ?_
   refine AWP.block ?_
   obtain ⟨r75, Zxi, hF⟩ := bind_some hF
   refine nn ?_
   refine sr (Z9 (f := Zi.cells) (Zi.cells_eq x72) ZBy) ?_
   refine st ?_
   refine e3 ?_
   refine st ?_
   refine cm (Zn.weak (rn []) (Zee x72.fBody _ Zxi) rfl (WS.mk (Zj (ZaM (lc (lc (lc (lc (lc (lc (lc Zr)))))))) Ze) Zf)) ?_
   refine st ?_
   refine ns ?_
   refine AWL.weak (rn []) ?_ (Zff (IntKind.i64.wrap ((IntKind.i64.wrap (n_3 + 1)) + r75)) (i_5 + 1) e Zx1 _ hF (Zd0 ++ [x72]) (by rw [Ziq]; simp) (by rw [Zii]; simp) hlen1 hlen34)
   exact (WS.mk (tp (tc (Zj (Zaj (Zcw (ZD hlen71 ZBm))) Ze))) (Za rfl (cc (cc (cc (cc (cc (cc (cc Zb))))))) Zf))
  ·subst Zxk
   refine nw ?_
   refine AWP.seq ?_
   refine AWP.seq ?_
   refine ns ?_
   refine AWP.block ?_
   refine AWP.loop ?_
   refine AWL.weak (rn []) ?_ (Zfh n_3 0 e e.fKids _ hF ([]) rfl rfl hlen1 hlen34 hlen71)
   exact (WS.mk (tp (tc (tc Ze))) (Za rfl (cc (cc (cc (cc (cc (cc (cc Zb))))))) Zf))
 ·intro lazycref36_Size' lazycref36_Size_l3' Zee Zfh n_3 i_6 e ZgE r hF
  unfold ZbQ.M
  intro Zh3 Zpm Zpa hlen1 hlen34 hlen71
  refine AWL.step ?_
  refine AWP.seq ?_
  refine AWP.seq ?_
  refine ns ?_
  intro hlen90
  (try rw [List.length_map] at hlen90)
  (try rw [List.length_map])
  refine st ?_
  refine nw ?_
  refine ZB Zpm Zpa (fun x91 Zss ZsK ZyL ZyS => ?_) (fun ZsK => ?_)
  ·subst ZsK
   refine nw ?_
   refine AWP.seq ?_
   refine AWP.block ?_
   obtain ⟨r94, ZxC, hF⟩ := bind_some hF
   refine nn ?_
   refine sr (Z9 (f := Zo.cells) (Zo.cells_eq x91) ZyL) ?_
   refine st ?_
   refine e3 ?_
   refine st ?_
   refine cm (Zn.weak (rn []) (Zee x91 _ ZxC) rfl (WS.mk (Zj (ZaM (lc (lc (lc (lc (lc (lc (lc Zr)))))))) Ze) Zf)) ?_
   refine st ?_
   refine ns ?_
   refine AWL.weak (rn []) ?_ (Zfh (IntKind.i64.wrap (n_3 + r94)) (i_6 + 1) e Zss _ hF (Zh3 ++ [x91]) (by rw [Zpm]; simp) (by rw [Zpa]; simp) hlen1 hlen34 hlen71)
   exact (WS.mk (tp (tc (Zj (Zaj (Zcw (ZD hlen90 ZyS))) Ze))) (Za rfl (cc (cc (cc (cc (cc (cc (cc Zb))))))) Zf))
  ·subst ZsK
   refine nw ?_
   refine AWP.seq ?_
   refine ns ?_
   obtain rfl := Zs hF
   refine ns ?_
   refine Exists.intro [] ?_
   refine st ?_
   exact wx (WS.mk (tc Ze) Zf)
theorem Ziw : ∀ (e : Zo), ∀ r, ZaJ e = some r → ZaJ.M e r := ZlI.1

mutual
def Zao (e : Zo) : Option (Int) :=
 Zbd 0 0 e e.fBinds
 partial_fixpoint
def Zbd (n_3 : Int) (i_4 : Nat) (e : Zo) (Zct : (List Zc)) : Option (Int) :=
 (match Zct with
 | x34 :: Zyf =>
 Zao x34.fBody >>= fun r37 =>
 Zbd (if r37 > n_3 then r37 else n_3) (i_4 + 1) e Zyf
 | [] =>
 Za9 n_3 0 e e.fAlts)
 partial_fixpoint
def Za9 (n_3 : Int) (i_5 : Nat) (e : Zo) (Zb2 : (List Zi)) : Option (Int) :=
 (match Zb2 with
 | x71 :: Zxv =>
 Zao x71.fBody >>= fun r74 =>
 Za9 (if r74 > n_3 then r74 else n_3) (i_5 + 1) e Zxv
 | [] =>
 Zbb n_3 0 e e.fKids)
 partial_fixpoint
def Zbb (n_3 : Int) (i_6 : Nat) (e : Zo) (ZgE : (List Zo)) : Option (Int) :=
 (match ZgE with
 | x90 :: Zyw =>
 Zao x90 >>= fun r93 =>
 Zbb (if r93 > n_3 then r93 else n_3) (i_6 + 1) e Zyw
 | [] =>
 some (IntKind.i64.wrap (n_3 + 1)))
 partial_fixpoint
end
def Zao.M (e : Zo) (r : Int) : Prop :=
 Zn Tryz.prog 26 [.agg [.v (.int .i64 e.fOp), .v (.string e.fName), .sl (e.fArgs.map Zq.cells), .v (.bool e.fRec), .sl (e.fBinds.map Zc.cells), .sl (e.fKids.map Zo.cells), .sl (e.fAlts.map Zi.cells)]] [] (fun d b => d = .c none (.v (.int .i64 r)) ∧ b = [])
def Zbd.M (n_3 : Int) (i_4 : Nat) (e : Zo) (Zct : (List Zc)) (r : Int) : Prop :=
 ∀ ZdQ : List Zc, e.fBinds = ZdQ ++ Zct → i_4 = ZdQ.length → AWL Tryz.prog 56 (Code.sub (Zt Tryz.f26) [1, 1, 0, 1, 0, 0]) (Code.cont Tryz.prog 56 (Zt Tryz.f26) [1, 1, 0, 1, 0] (Zbl tab Tryz.f26.results (Zbo (.c none (.v (.int .i64 r))) []))) ⟨[(1, .ptr 1 0), (3, .c none (.v (.int .i64 n_3))), (4, .c none (.v (.int .i64 ((i_4 : Nat) : Int))))], [(1, [(none, .v (.int .i64 e.fOp)), (none, .v (.string e.fName)), (none, .sl (e.fArgs.map Zq.cells)), (none, .v (.bool e.fRec)), (none, .sl (e.fBinds.map Zc.cells)), (none, .sl (e.fKids.map Zo.cells)), (none, .sl (e.fAlts.map Zi.cells))])]⟩
def Za9.M (n_3 : Int) (i_5 : Nat) (e : Zo) (Zb2 : (List Zi)) (r : Int) : Prop :=
 ∀ Zd0 : List Zi, e.fAlts = Zd0 ++ Zb2 → i_5 = Zd0.length → e.fBinds.length ≤ maxLen → AWL Tryz.prog 56 (Code.sub (Zt Tryz.f26) [1, 1, 1, 0, 1, 0, 0]) (Code.cont Tryz.prog 56 (Zt Tryz.f26) [1, 1, 1, 0, 1, 0] (Zbl tab Tryz.f26.results (Zbo (.c none (.v (.int .i64 r))) []))) ⟨[(1, .ptr 1 0), (3, .c none (.v (.int .i64 n_3))), (5, .c none (.v (.int .i64 ((i_5 : Nat) : Int))))], [(1, [(none, .v (.int .i64 e.fOp)), (none, .v (.string e.fName)), (none, .sl (e.fArgs.map Zq.cells)), (none, .v (.bool e.fRec)), (none, .sl (e.fBinds.map Zc.cells)), (none, .sl (e.fKids.map Zo.cells)), (none, .sl (e.fAlts.map Zi.cells))])]⟩
def Zbb.M (n_3 : Int) (i_6 : Nat) (e : Zo) (ZgE : (List Zo)) (r : Int) : Prop :=
 ∀ Zh3 : List Zo, e.fKids = Zh3 ++ ZgE → i_6 = Zh3.length → e.fBinds.length ≤ maxLen → e.fAlts.length ≤ maxLen → AWL Tryz.prog 56 (Code.sub (Zt Tryz.f26) [1, 1, 1, 1, 0, 1, 0, 0]) (Code.cont Tryz.prog 56 (Zt Tryz.f26) [1, 1, 1, 1, 0, 1, 0] (Zbl tab Tryz.f26.results (Zbo (.c none (.v (.int .i64 r))) []))) ⟨[(1, .ptr 1 0), (3, .c none (.v (.int .i64 n_3))), (6, .c none (.v (.int .i64 ((i_6 : Nat) : Int))))], [(1, [(none, .v (.int .i64 e.fOp)), (none, .v (.string e.fName)), (none, .sl (e.fArgs.map Zq.cells)), (none, .v (.bool e.fRec)), (none, .sl (e.fBinds.map Zc.cells)), (none, .sl (e.fKids.map Zo.cells)), (none, .sl (e.fAlts.map Zi.cells))])]⟩
theorem Zj0 : (∀ (e : Zo), ∀ r, Zao e = some r → Zao.M e r) ∧ (∀ (n_3 : Int) (i_4 : Nat) (e : Zo) (Zct : (List Zc)), ∀ r, Zbd n_3 i_4 e Zct = some r → Zbd.M n_3 i_4 e Zct r) ∧ (∀ (n_3 : Int) (i_5 : Nat) (e : Zo) (Zb2 : (List Zi)), ∀ r, Za9 n_3 i_5 e Zb2 = some r → Za9.M n_3 i_5 e Zb2 r) ∧ (∀ (n_3 : Int) (i_6 : Nat) (e : Zo) (ZgE : (List Zo)), ∀ r, Zbb n_3 i_6 e ZgE = some r → Zbb.M n_3 i_6 e ZgE r) := by
 refine Zao.mutual_partial_correctness Zao.M Zbd.M Za9.M Zbb.M ?_ ?_ ?_ ?_
 ·intro lazycref36_Nesting_l1' ZeB e r hF
  unfold Zao.M
  refine en Tryz.func26 ?_
  refine AWP.seq ?_
  refine ns ?_
  refine AWP.seq ?_
  refine ns ?_
  refine AWP.seq ?_
  refine AWP.seq ?_
  refine ns ?_
  refine AWP.block ?_
  refine AWP.loop ?_
  refine AWL.weak (rn []) ?_ (ZeB 0 0 e e.fBinds _ hF ([]) rfl rfl)
  exact (WS.mk (tp (tc (tc Ze))) (Za rfl (cc (cc (cc (cc (cc (cc (cc Zb))))))) Zf))
 ·intro lazycref36_Nesting' lazycref36_Nesting_l1' lazycref36_Nesting_l2' Zdz ZeB ZeD n_3 i_4 e Zct r hF
  unfold Zbd.M
  intro ZdQ ZhY ZhT
  refine AWL.step ?_
  refine AWP.seq ?_
  refine AWP.seq ?_
  refine ns ?_
  intro hlen33
  (try rw [List.length_map] at hlen33)
  (try rw [List.length_map])
  refine st ?_
  refine nw ?_
  refine ZB ZhY ZhT (fun x34 Zyf ZxL ZA5 ZCu => ?_) (fun ZxL => ?_)
  ·subst ZxL
   refine nw ?_
   refine AWP.seq ?_
   refine AWP.block ?_
   obtain ⟨r37, ZBN, hF⟩ := bind_some hF
   refine nn ?_
   refine sr (Z9 (f := Zc.cells) (Zc.cells_eq x34) ZA5) ?_
   refine st ?_
   refine e3 ?_
   refine st ?_
   refine cm (Zn.weak (rn []) (Zdz x34.fBody _ ZBN) rfl (WS.mk (Zj (ZaM (lc (lc (lc (lc (lc (lc (lc Zr)))))))) Ze) Zf)) ?_
   refine st ?_
   refine ns ?_
   refine AWL.weak (rn []) ?_ (ZeB (if r37 > n_3 then r37 else n_3) (i_4 + 1) e Zyf _ hF (ZdQ ++ [x34]) (by rw [ZhY]; simp) (by rw [ZhT]; simp))
   exact (WS.mk (tp (tc (Zj (Zaj (Zcw (ZD hlen33 ZCu))) Ze))) (Za rfl (cc (cc (cc (cc (cc (cc (cc Zb))))))) Zf))
  ·subst ZxL
   refine nw ?_
   refine AWP.seq ?_
   refine AWP.seq ?_
   refine ns ?_
   refine AWP.block ?_
   refine AWP.loop ?_
   refine AWL.weak (rn []) ?_ (ZeD n_3 0 e e.fAlts _ hF ([]) rfl rfl hlen33)
   exact (WS.mk (tp (tc (tc Ze))) (Za rfl (cc (cc (cc (cc (cc (cc (cc Zb))))))) Zf))
 ·intro lazycref36_Nesting' lazycref36_Nesting_l2' lazycref36_Nesting_l3' Zdz ZeD Zex n_3 i_5 e Zb2 r hF
  unfold Za9.M
  intro Zd0 Ziq Zii hlen33
  refine AWL.step ?_
  refine AWP.seq ?_
  refine AWP.seq ?_
  refine ns ?_
  intro hlen70
  (try rw [List.length_map] at hlen70)
  (try rw [List.length_map])
  refine st ?_
  refine nw ?_
  refine ZB Ziq Zii (fun x71 Zxv ZyG ZCc ZAW => ?_) (fun ZyG => ?_)
  ·subst ZyG
   refine nw ?_
   refine AWP.seq ?_
   refine AWP.block ?_
   obtain ⟨r74, Zyc, hF⟩ := bind_some hF
   refine nn ?_
   refine sr (Z9 (f := Zi.cells) (Zi.cells_eq x71) ZCc) ?_
   refine st ?_
   refine e3 ?_
   refine st ?_
   refine cm (Zn.weak (rn []) (Zdz x71.fBody _ Zyc) rfl (WS.mk (Zj (ZaM (lc (lc (lc (lc (lc (lc (lc Zr)))))))) Ze) Zf)) ?_
   refine st ?_
   refine ns ?_
   refine AWL.weak (rn []) ?_ (ZeD (if r74 > n_3 then r74 else n_3) (i_5 + 1) e Zxv _ hF (Zd0 ++ [x71]) (by rw [Ziq]; simp) (by rw [Zii]; simp) hlen33)
   exact (WS.mk (tp (tc (Zj (Zaj (Zcw (ZD hlen70 ZAW))) Ze))) (Za rfl (cc (cc (cc (cc (cc (cc (cc Zb))))))) Zf))
  ·subst ZyG
   refine nw ?_
   refine AWP.seq ?_
   refine AWP.seq ?_
   refine ns ?_
   refine AWP.block ?_
   refine AWP.loop ?_
   refine AWL.weak (rn []) ?_ (Zex n_3 0 e e.fKids _ hF ([]) rfl rfl hlen33 hlen70)
   exact (WS.mk (tp (tc (tc Ze))) (Za rfl (cc (cc (cc (cc (cc (cc (cc Zb))))))) Zf))
 ·intro lazycref36_Nesting' lazycref36_Nesting_l3' Zdz Zex n_3 i_6 e ZgE r hF
  unfold Zbb.M
  intro Zh3 Zpm Zpa hlen33 hlen70
  refine AWL.step ?_
  refine AWP.seq ?_
  refine AWP.seq ?_
  refine ns ?_
  intro hlen89
  (try rw [List.length_map] at hlen89)
  (try rw [List.length_map])
  refine st ?_
  refine nw ?_
  refine ZB Zpm Zpa (fun x90 Zyw Zx9 ZCf ZCd => ?_) (fun Zx9 => ?_)
  ·subst Zx9
   refine nw ?_
   refine AWP.seq ?_
   refine AWP.block ?_
   obtain ⟨r93, ZCs, hF⟩ := bind_some hF
   refine nn ?_
   refine sr (Z9 (f := Zo.cells) (Zo.cells_eq x90) ZCf) ?_
   refine st ?_
   refine e3 ?_
   refine st ?_
   refine cm (Zn.weak (rn []) (Zdz x90 _ ZCs) rfl (WS.mk (Zj (ZaM (lc (lc (lc (lc (lc (lc (lc Zr)))))))) Ze) Zf)) ?_
   refine st ?_
   refine ns ?_
   refine AWL.weak (rn []) ?_ (Zex (if r93 > n_3 then r93 else n_3) (i_6 + 1) e Zyw _ hF (Zh3 ++ [x90]) (by rw [Zpm]; simp) (by rw [Zpa]; simp) hlen33 hlen70)
   exact (WS.mk (tp (tc (Zj (Zaj (Zcw (ZD hlen89 ZCd))) Ze))) (Za rfl (cc (cc (cc (cc (cc (cc (cc Zb))))))) Zf))
  ·subst Zx9
   refine nw ?_
   refine AWP.seq ?_
   refine ns ?_
   obtain rfl := Zs hF
   refine ns ?_
   refine Exists.intro [] ?_
   refine st ?_
   exact wx (WS.mk (tc Ze) Zf)
theorem Zkv : ∀ (e : Zo), ∀ r, Zao e = some r → Zao.M e r := Zj0.1

def ZcU (f : Zd) (name_ : ByteArray) : Option (Zd) :=
 Zcf f.fbound 0 name_ >>= fun r1 =>
 (if (r1.1 == 0) = true then Zcf f.fseen false name_ >>= fun r2 =>
 some (!r2.1) else some false) >>= fun c3 =>
 if c3 = true then
 ZaY ((f.fout.length + ([name_]).length) * 16 ≤ 140737488355328) >>= fun _ =>
 some (Zd.mk f.fbound (ZcQ f.fseen name_ true) (f.fout ++ ([name_])))
 else
 some f
def ZcU.M (f : Zd) (name_ : ByteArray) (r : Zd) : Prop :=
 Zn Tryz.prog 75 [.ptr 1000 0, .c none (.v (.string name_))] [(1000, [(none, .rf 1001), (none, .rf 1002), ((some (3002, 9)), .sl (f.fout.map c_S))]), (1001, [(none, .ob 167 (f.fbound.map (Zz c_S Zm)))]), (1002, [(none, .ob 169 (f.fseen.map (Zz c_S c_B)))])] (fun d b => d = .tup [] ∧ b = [(1000, [(none, .rf 1001), (none, .rf 1002), ((some (3002, 9)), .sl (r.fout.map c_S))]), (1001, [(none, .ob 167 (r.fbound.map (Zz c_S Zm)))]), (1002, [(none, .ob 169 (r.fseen.map (Zz c_S c_B)))])])
theorem ZiW (f : Zd) (name_ : ByteArray) (r : Zd) (hF : ZcU f name_ = some r) : ZcU.M f name_ r := by
 unfold ZcU at hF
 unfold ZcU.M
 refine en Tryz.func75 ?_
 refine AWP.seq ?_
 obtain ⟨r1, hr1, hF⟩ := bind_some hF
 obtain ⟨c3, hc3, hF⟩ := bind_some hF
 refine AWP.cutN (fun T => ∃ r, WS r T ⟨[(0, .ptr 1000 0), (1, .c none (.v (.string name_))), (19, .c none (.v (.bool c3)))], [(1000, [(none, .rf 1001), (none, .rf 1002), ((some (3002, 9)), .sl (f.fout.map c_S))]), (1001, [(none, .ob 167 (f.fbound.map (Zz c_S Zm)))]), (1002, [(none, .ob 169 (f.fseen.map (Zz c_S c_B)))])]⟩) ?_ (fun T hw => ?_)
 ·refine ns ?_
  refine ZbB (m := f.fbound) (k := name_) Zay (ev := Zm) hr1 rfl (fun x => ZaO x) rfl rfl (lc Zr) ?_
  refine st ?_
  refine ZA true (fun hc4 => ?_) (fun hc4 => ?_)
  ·have hc3 := ift hc4 hc3
   obtain ⟨r2, hr2, hc3⟩ := bind_some hc3
   (conv => whnf)
   refine st ?_
   refine ZbB (m := f.fseen) (k := name_) Zay (ev := c_B) hr2 rfl (fun x => Zok x) rfl rfl (lc Zr) ?_
   obtain rfl := Zs hc3
   refine st ?_
   exact Exists.intro (rn [(3002, 3002)]) (WS.mk (tp (tc (Zj (Zaj (web hc4)) Ze))) (Za rfl (cc (cc (Zaf rfl (WE.refl _) Zb))) (Za rfl (cc Zb) (Za rfl (cc Zb) Zf))))
  ·have hc3 := ife hc4 hc3
   (conv => whnf)
   obtain rfl := Zs hc3
   refine st ?_
   exact Exists.intro (rn [(3002, 3002)]) (WS.mk (tp (tc (Zj (Zaj (web hc4)) Ze))) (Za rfl (cc (cc (Zaf rfl (WE.refl _) Zb))) (Za rfl (cc Zb) (Za rfl (cc Zb) Zf))))
 obtain ⟨r0, hw⟩ := hw
 (conv => whnf)
 refine AWP.weak r0 hw ?_
 refine nw ?_
 refine Zw hF (fun hc5 hF => ?_) (fun hc5 hF => ?_)
 ·refine AWP.seq ?_
  refine ns ?_
  refine ZcI (m := f.fseen) (k := name_) (v := true) Zay (ev := c_B) (lc Zr) ?_
  refine st ?_
  obtain ⟨hg6, hF⟩ := ZV hF
  refine ns ?_
  refine Exists.intro _ (And.intro (ZE (f := c_S) (lc Zr) (Zx (f := c_S))) ?_)
  refine sa (fun l => ZaE l (fun x => Zbk x)) hg6 ?_
  refine Exists.intro _ (And.intro (WE.refl _) ?_)
  rw [← List.map_append]
  refine st ?_
  obtain rfl := Zs hF
  refine Exists.intro [(1000, 1000), (1001, 1001), (1002, 1002)] ?_
  refine st ?_
  exact Exists.intro (rn [(32, 3002)]) (WS.mk (Zj (Zb1 Zb3) Ze) (Za rfl (cc (cc (Zaf rfl (WE.refl _) Zb))) (Za rfl (cc Zb) (Za rfl (cc Zb) Zf))))
 ·refine nw ?_
  obtain rfl := Zs hF
  refine Exists.intro [(1000, 1000), (1001, 1001), (1002, 1002)] ?_
  refine st ?_
  exact Exists.intro (rn [(3002, 3002)]) (WS.mk (Zj (Zb1 Zb3) Ze) (Za rfl (cc (cc (Zaf rfl (WE.refl _) Zb))) (Za rfl (cc Zb) (Za rfl (cc Zb) Zf))))

def ZaZ (l : (List Zq)) (x_8 : Nat) (ZK : (List ByteArray)) (ZJ : (List (ByteArray × Int))) (Zp : (List (ByteArray × Bool))) (Zch : (List Zq)) : Option (Zd) :=
 (match Zch with
 | x13 :: ZkK =>
 if (x13.fOp == 1) = true then
 ZcU (Zd.mk ZJ Zp ZK) x13.fName >>= fun r17 =>
 ZaZ l (x_8 + 1) r17.fout r17.fbound r17.fseen ZkK
 else
 ZaZ l (x_8 + 1) ZK ZJ Zp ZkK
 | [] =>
 some (Zd.mk ZJ Zp ZK))
 partial_fixpoint
def ZaZ.M (l : (List Zq)) (x_8 : Nat) (ZK : (List ByteArray)) (ZJ : (List (ByteArray × Int))) (Zp : (List (ByteArray × Bool))) (Zch : (List Zq)) (r : Zd) : Prop :=
 ∀ ZeV : List Zq, l = ZeV ++ Zch → x_8 = ZeV.length → l.length ≤ maxLen → AWL Tryz.prog 20 (Code.sub (Zt Tryz.f76) [1, 0, 0]) (Code.cont Tryz.prog 20 (Zt Tryz.f76) [1, 0] (Zbl tab Tryz.f76.results (Zbo (.tup []) [(1000, [(none, .rf 1001), (none, .rf 1002), ((some (3002, 9)), .sl (r.fout.map c_S))]), (1001, [(none, .ob 167 (r.fbound.map (Zz c_S Zm)))]), (1002, [(none, .ob 169 (r.fseen.map (Zz c_S c_B)))])]))) ⟨[(0, .ptr 1000 0), (6, .c none (.sl (l.map Zq.cells))), (7, .c none (.v (.int .i64 ((l.length : Nat) : Int)))), (8, .c none (.v (.int .i64 ((x_8 : Nat) : Int))))], [(1000, [(none, .rf 1001), (none, .rf 1002), ((some (3002, 9)), .sl (ZK.map c_S))]), (1001, [(none, .ob 167 (ZJ.map (Zz c_S Zm)))]), (1002, [(none, .ob 169 (Zp.map (Zz c_S c_B)))])]⟩
theorem Zkn (l : (List Zq)) (x_8 : Nat) (ZK : (List ByteArray)) (ZJ : (List (ByteArray × Int))) (Zp : (List (ByteArray × Bool))) (Zch : (List Zq)) : ∀ r, ZaZ l x_8 ZK ZJ Zp Zch = some r → ZaZ.M l x_8 ZK ZJ Zp Zch r := by
 refine ZaZ.partial_correctness l (fun x_8 ZK ZJ Zp Zch r => ZaZ.M l x_8 ZK ZJ Zp Zch r) ?_ x_8 ZK ZJ Zp Zch
 intro stg_finder_atoms_l1' ZgG x_8 ZK ZJ Zp Zch r hF
 have ZgT := fun (_l : (List Zq)) (x_8 : Nat) (ZK : (List ByteArray)) (ZJ : (List (ByteArray × Int))) (Zp : (List (ByteArray × Bool))) (Zch : (List Zq)) => ZgG x_8 ZK ZJ Zp Zch
 clear ZgG
 unfold ZaZ.M
 intro ZeV Zkb ZjN hlen1
 refine AWL.step ?_
 refine AWP.seq ?_
 refine ns ?_
 refine AWP.seq ?_
 refine nw ?_
 refine ZB Zkb ZjN (fun x13 ZkK Zl1 Zsw ZrI => ?_) (fun Zl1 => ?_)
 ·subst Zl1
  refine nw ?_
  refine AWP.seq ?_
  refine AWP.block ?_
  refine AWP.seq ?_
  refine nn ?_
  refine sr (Z9 (f := Zq.cells) (Zq.cells_eq x13) Zsw) ?_
  refine st ?_
  refine AWP.seq ?_
  refine ns ?_
  refine nw ?_
  refine Zw hF (fun Zhc hF => ?_) (fun Zhc hF => ?_)
  ·obtain ⟨r17, ZnU, hF⟩ := bind_some hF
   refine ns ?_
   refine Exists.intro [] (Exists.intro [(1000, 1000), (1001, 1001), (1002, 1002)] (Exists.intro [] ?_))
   refine st ?_
   refine cm (Zn.weak (rn [(3002, 3002)]) (ZiW (Zd.mk ZJ Zp ZK) x13.fName _ ZnU) rfl (WS.mk (tp (tc Ze)) (Za rfl (cc (cc (Zaf rfl (WE.refl _) Zb))) (Za rfl (cc Zb) (Za rfl (cc Zb) Zf))))) ?_
   refine st ?_
   refine ns ?_
   refine AWL.weak (rn [(3002, 3002)]) ?_ (ZgT l (x_8 + 1) r17.fout r17.fbound r17.fseen ZkK _ hF (ZeV ++ [x13]) (by rw [Zkb]; simp) (by rw [ZjN]; simp) hlen1)
   exact (WS.mk (tp (tc (tc (Zj (Zaj (Zcw (ZD hlen1 ZrI))) Ze)))) (Za rfl (cc (cc (Zaf rfl (WE.refl _) Zb))) (Za rfl (cc Zb) (Za rfl (cc Zb) Zf))))
  ·refine nw ?_
   refine ns ?_
   refine AWL.weak (rn [(3002, 3002)]) ?_ (ZgT l (x_8 + 1) ZK ZJ Zp ZkK _ hF (ZeV ++ [x13]) (by rw [Zkb]; simp) (by rw [ZjN]; simp) hlen1)
   exact (WS.mk (tp (tc (tc (Zj (Zaj (Zcw (ZD hlen1 ZrI))) Ze)))) (Za rfl (cc (cc (Zaf rfl (WE.refl _) Zb))) (Za rfl (cc Zb) (Za rfl (cc Zb) Zf))))
 ·subst Zl1
  refine nw ?_
  obtain rfl := Zs hF
  refine Exists.intro [(1000, 1000), (1001, 1001), (1002, 1002)] ?_
  refine st ?_
  exact Exists.intro (rn [(3002, 3002)]) (WS.mk (Zj (Zb1 Zb3) Ze) (Za rfl (cc (cc (Zaf rfl (WE.refl _) Zb))) (Za rfl (cc Zb) (Za rfl (cc Zb) Zf))))

def ZdC (f : Zd) (l : (List Zq)) : Option (Zd) :=
 ZaZ l 0 f.fout f.fbound f.fseen l
def ZdC.M (f : Zd) (l : (List Zq)) (r : Zd) : Prop :=
 Zn Tryz.prog 76 [.ptr 1000 0, .c none (.sl (l.map Zq.cells))] [(1000, [(none, .rf 1001), (none, .rf 1002), ((some (3002, 9)), .sl (f.fout.map c_S))]), (1001, [(none, .ob 167 (f.fbound.map (Zz c_S Zm)))]), (1002, [(none, .ob 169 (f.fseen.map (Zz c_S c_B)))])] (fun d b => d = .tup [] ∧ b = [(1000, [(none, .rf 1001), (none, .rf 1002), ((some (3002, 9)), .sl (r.fout.map c_S))]), (1001, [(none, .ob 167 (r.fbound.map (Zz c_S Zm)))]), (1002, [(none, .ob 169 (r.fseen.map (Zz c_S c_B)))])])
theorem ZlN (f : Zd) (l : (List Zq)) (r : Zd) (hF : ZdC f l = some r) : ZdC.M f l r := by
 unfold ZdC at hF
 unfold ZdC.M
 refine en Tryz.func76 ?_
 refine AWP.seq ?_
 refine ns ?_
 intro hlen1
 (try rw [List.length_map] at hlen1)
 (try rw [List.length_map])
 refine st ?_
 refine AWP.block ?_
 refine AWP.loop ?_
 refine AWL.weak (rn [(3002, 3002)]) ?_ (Zkn l 0 f.fout f.fbound f.fseen l _ hF ([]) rfl rfl hlen1)
 exact (WS.mk (tp (tc (tc (tc Ze)))) (Za rfl (cc (cc (Zaf rfl (WE.refl _) Zb))) (Za rfl (cc Zb) (Za rfl (cc Zb) Zf))))

def Zdb (ZM : (List ByteArray)) (l : (List Zc)) (x_8 : Nat) (Zch : (List Zc)) : Option ((List ByteArray)) :=
 (match Zch with
 | x11 :: Zo9 =>
 ZaY ((ZM.length + ([x11.fName]).length) * 16 ≤ 140737488355328) >>= fun _ =>
 Zdb (ZM ++ ([x11.fName])) l (x_8 + 1) Zo9
 | [] =>
 some ZM)
 partial_fixpoint
def Zdb.M (ZM : (List ByteArray)) (l : (List Zc)) (x_8 : Nat) (Zch : (List Zc)) (r : (List ByteArray)) : Prop :=
 ∀ ZeV : List Zc, l = ZeV ++ Zch → x_8 = ZeV.length → l.length ≤ maxLen → AWL Tryz.prog 19 (Code.sub (Zt Tryz.f51) [1, 1, 0, 1, 0, 0]) (Code.cont Tryz.prog 19 (Zt Tryz.f51) [1, 1, 0, 1, 0] (Zbl tab Tryz.f51.results (Zbo (.c (some (0, 9)) (.sl (r.map c_S))) []))) ⟨[(3, .c (some (3, 9)) (.sl (ZM.map c_S))), (6, .c none (.sl (l.map Zc.cells))), (7, .c none (.v (.int .i64 ((l.length : Nat) : Int)))), (8, .c none (.v (.int .i64 ((x_8 : Nat) : Int))))], []⟩
theorem Zoc (ZM : (List ByteArray)) (l : (List Zc)) (x_8 : Nat) (Zch : (List Zc)) : ∀ r, Zdb ZM l x_8 Zch = some r → Zdb.M ZM l x_8 Zch r := by
 refine Zdb.partial_correctness l (fun ZM x_8 Zch r => Zdb.M ZM l x_8 Zch r) ?_ ZM x_8 Zch
 intro stg_named_l1' Zjx ZM x_8 Zch r hF
 have Zn2 := fun (ZM : (List ByteArray)) (_l : (List Zc)) (x_8 : Nat) (Zch : (List Zc)) => Zjx ZM x_8 Zch
 clear Zjx
 unfold Zdb.M
 intro ZeV Zkb ZjN hlen1
 refine AWL.step ?_
 refine AWP.seq ?_
 refine ns ?_
 refine AWP.seq ?_
 refine nw ?_
 refine ZB Zkb ZjN (fun x11 Zo9 Zow ZvN ZuQ => ?_) (fun Zow => ?_)
 ·subst Zow
  refine nw ?_
  refine AWP.seq ?_
  refine AWP.block ?_
  refine AWP.seq ?_
  refine nn ?_
  refine sr (Z9 (f := Zc.cells) (Zc.cells_eq x11) ZvN) ?_
  refine st ?_
  obtain ⟨ZAS, hF⟩ := ZV hF
  refine ns ?_
  refine Exists.intro _ (And.intro (ZE (f := c_S) (lc Zr) (Zx (f := c_S))) ?_)
  refine sa (fun l => ZaE l (fun x => Zbk x)) ZAS ?_
  refine Exists.intro _ (And.intro (WE.refl _) ?_)
  rw [← List.map_append]
  refine st ?_
  refine ns ?_
  refine AWL.weak (rn [(16, 3)]) ?_ (Zn2 (ZM ++ ([x11.fName])) l (x_8 + 1) Zo9 _ hF (ZeV ++ [x11]) (by rw [Zkb]; simp) (by rw [ZjN]; simp) hlen1)
  exact (WS.mk (Zj (ZH rfl (WE.refl _)) (tc (tc (Zj (Zaj (Zcw (ZD hlen1 ZuQ))) Ze)))) Zf)
 ·subst Zow
  refine nw ?_
  refine AWP.seq ?_
  refine ns ?_
  obtain rfl := Zs hF
  refine ns ?_
  refine Exists.intro [] ?_
  refine st ?_
  exact Exists.intro (rn [(3, 0)]) (WS.mk (Zj (ZH rfl (WE.refl _)) Ze) Zf)

def ZeL (l : (List Zc)) : Option ((List ByteArray)) :=
 Zdb ([]) l 0 l
def ZeL.M (l : (List Zc)) (r : (List ByteArray)) : Prop :=
 Zn Tryz.prog 51 [.c none (.sl (l.map Zc.cells))] [] (fun d b => d = .c (some (0, 9)) (.sl (r.map c_S)) ∧ b = [])
theorem ZjP (l : (List Zc)) (r : (List ByteArray)) (hF : ZeL l = some r) : ZeL.M l r := by
 unfold ZeL at hF
 unfold ZeL.M
 refine en Tryz.func51 ?_
 refine AWP.seq ?_
 refine ns ?_
 refine AWP.seq ?_
 refine ns ?_
 refine AWP.seq ?_
 refine AWP.seq ?_
 refine ns ?_
 intro hlen1
 (try rw [List.length_map] at hlen1)
 (try rw [List.length_map])
 refine st ?_
 refine AWP.block ?_
 refine AWP.loop ?_
 refine AWL.weak (rn []) ?_ (Zoc ([]) l 0 l _ hF ([]) rfl rfl hlen1)
 exact (WS.mk (Zj Zpg (tc (tc (tc Ze)))) Zf)

def ZO (l : (List ByteArray)) (Zad : Nat) (r28 : (Zd)) (Zp : (List (ByteArray × Int))) (g2_c1 : Zc) (Zu : (List ByteArray)) : Option (Zd) :=
 (match Zu with
 | x39 :: Zez =>
 Zcf Zp 0 x39 >>= fun r42 =>
 ZO l (Zad + 1) r28 (ZcQ Zp x39 (IntKind.i64.wrap (r42.1 - 1))) g2_c1 Zez
 | [] =>
 some (Zd.mk Zp r28.fseen r28.fout))
 partial_fixpoint
def ZO.M (l : (List ByteArray)) (Zad : Nat) (r28 : (Zd)) (Zp : (List (ByteArray × Int))) (g2_c1 : Zc) (Zu : (List ByteArray)) (r : Zd) : Prop :=
 ∀ Z5 : List ByteArray, l = Z5 ++ Zu → Zad = Z5.length → l.length ≤ maxLen → AWL Tryz.prog 34 (Code.sub (Zt Tryz.f78) [1, 1, 1, 0, 0]) (Code.cont Tryz.prog 34 (Zt Tryz.f78) [1, 1, 1, 0] (Zbl tab Tryz.f78.results (Zbo (.tup []) [(1000, [(none, .pt 1001 0)]), (1001, [(none, .rf 1002), (none, .rf 1003), ((some (3052, 9)), .sl (r.fout.map c_S))]), (1002, [(none, .ob 167 (r.fbound.map (Zz c_S Zm)))]), (1003, [(none, .ob 169 (r.fseen.map (Zz c_S c_B)))]), (1004, [(none, .v (.string g2_c1.fName)), (none, .v (.int .i64 g2_c1.fOp)), (none, .sl (g2_c1.fFree.map c_S)), (none, .sl (g2_c1.fParams.map c_S)), (none, .v (.int .i64 g2_c1.fBody.fOp)), (none, .v (.string g2_c1.fBody.fName)), (none, .sl (g2_c1.fBody.fArgs.map Zq.cells)), (none, .v (.bool g2_c1.fBody.fRec)), (none, .sl (g2_c1.fBody.fBinds.map Zc.cells)), (none, .sl (g2_c1.fBody.fKids.map Zo.cells)), (none, .sl (g2_c1.fBody.fAlts.map Zi.cells))])]))) ⟨[(0, .c none (.rf 1002)), (23, .c none (.sl (l.map c_S))), (24, .c none (.v (.int .i64 ((l.length : Nat) : Int)))), (25, .c none (.v (.int .i64 ((Zad : Nat) : Int))))], [(1000, [(none, .pt 1001 0)]), (1001, [(none, .rf 1002), (none, .rf 1003), ((some (3052, 9)), .sl (r28.fout.map c_S))]), (1002, [(none, .ob 167 (Zp.map (Zz c_S Zm)))]), (1003, [(none, .ob 169 (r28.fseen.map (Zz c_S c_B)))]), (1004, [(none, .v (.string g2_c1.fName)), (none, .v (.int .i64 g2_c1.fOp)), (none, .sl (g2_c1.fFree.map c_S)), (none, .sl (g2_c1.fParams.map c_S)), (none, .v (.int .i64 g2_c1.fBody.fOp)), (none, .v (.string g2_c1.fBody.fName)), (none, .sl (g2_c1.fBody.fArgs.map Zq.cells)), (none, .v (.bool g2_c1.fBody.fRec)), (none, .sl (g2_c1.fBody.fBinds.map Zc.cells)), (none, .sl (g2_c1.fBody.fKids.map Zo.cells)), (none, .sl (g2_c1.fBody.fAlts.map Zi.cells))])]⟩
theorem Zfm (l : (List ByteArray)) (Zad : Nat) (r28 : (Zd)) (Zp : (List (ByteArray × Int))) (g2_c1 : Zc) (Zu : (List ByteArray)) : ∀ r, ZO l Zad r28 Zp g2_c1 Zu = some r → ZO.M l Zad r28 Zp g2_c1 Zu r := by
 refine ZO.partial_correctness l r28 g2_c1 (fun Zad Zp Zu r => ZO.M l Zad r28 Zp g2_c1 Zu r) ?_ Zad Zp Zu
 intro stg_scope_with_stg_finder_expr_1_1_l2' Zdu Zad Zp Zu r hF
 have Zfl := fun (_l : (List ByteArray)) (Zad : Nat) (_r28 : (Zd)) (Zp : (List (ByteArray × Int))) (_g2_c1 : Zc) (Zu : (List ByteArray)) => Zdu Zad Zp Zu
 clear Zdu
 unfold ZO.M
 intro Z5 ZbI ZbJ hlen29
 refine AWL.step ?_
 refine AWP.seq ?_
 refine ns ?_
 refine AWP.seq ?_
 refine nw ?_
 refine ZB ZbI ZbJ (fun x39 Zez Zev Zi9 Zi4 => ?_) (fun Zev => ?_)
 ·subst Zev
  refine nw ?_
  refine AWP.seq ?_
  refine AWP.block ?_
  refine AWP.seq ?_
  refine nn ?_
  refine sr (Z9 (f := c_S) rfl Zi9) ?_
  refine st ?_
  obtain ⟨r42, Zit, hF⟩ := bind_some hF
  refine ns ?_
  refine ZbB (m := Zp) (k := x39) Zay (ev := Zm) Zit rfl (fun x => ZaO x) rfl rfl (lc Zr) ?_
  refine st ?_
  refine ZcI (m := Zp) (k := x39) (v := (IntKind.i64.wrap (r42.1 - 1))) Zay (ev := Zm) (lc Zr) ?_
  refine st ?_
  refine ns ?_
  refine AWL.weak (rn [(3052, 3052)]) ?_ (Zfl l (Zad + 1) r28 (ZcQ Zp x39 (IntKind.i64.wrap (r42.1 - 1))) g2_c1 Zez _ hF (Z5 ++ [x39]) (by rw [ZbI]; simp) (by rw [ZbJ]; simp) hlen29)
  exact (WS.mk (tc (tc (tc (Zj (Zaj (Zcw (ZD hlen29 Zi4))) Ze)))) (Za rfl (cc Zb) (Za rfl (cc (cc (Zaf rfl (WE.refl _) Zb))) (Za rfl (cc Zb) (Za rfl (cc Zb) (Za rfl (cc (cc (cc (cc (cc (cc (cc (cc (cc (cc (cc Zb))))))))))) Zf))))))
 ·subst Zev
  refine nw ?_
  obtain rfl := Zs hF
  refine Exists.intro [(1000, 1000), (1001, 1001), (1002, 1002), (1003, 1003), (1004, 1004)] ?_
  refine st ?_
  exact Exists.intro (rn [(3052, 3052)]) (WS.mk (Zj (Zb1 Zb3) Ze) (Za rfl (cc Zb) (Za rfl (cc (cc (Zaf rfl (WE.refl _) Zb))) (Za rfl (cc Zb) (Za rfl (cc Zb) (Za rfl (cc (cc (cc (cc (cc (cc (cc (cc (cc (cc (cc Zb))))))))))) Zf))))))

def ZR (l : (List ByteArray)) (Zad : Nat) (g2_c0 : Zo) (r28 : (Zd)) (Zk : (List (ByteArray × Int))) (Zu : (List ByteArray)) : Option (Zd) :=
 (match Zu with
 | x39 :: Zez =>
 Zcf Zk 0 x39 >>= fun r42 =>
 ZR l (Zad + 1) g2_c0 r28 (ZcQ Zk x39 (IntKind.i64.wrap (r42.1 - 1))) Zez
 | [] =>
 some (Zd.mk Zk r28.fseen r28.fout))
 partial_fixpoint
def ZR.M (l : (List ByteArray)) (Zad : Nat) (g2_c0 : Zo) (r28 : (Zd)) (Zk : (List (ByteArray × Int))) (Zu : (List ByteArray)) (r : Zd) : Prop :=
 ∀ Z5 : List ByteArray, l = Z5 ++ Zu → Zad = Z5.length → l.length ≤ maxLen → AWL Tryz.prog 34 (Code.sub (Zt Tryz.f78) [1, 1, 1, 0, 0]) (Code.cont Tryz.prog 34 (Zt Tryz.f78) [1, 1, 1, 0] (Zbl tab Tryz.f78.results (Zbo (.tup []) [(1000, [(none, .v (.int .i64 g2_c0.fOp)), (none, .v (.string g2_c0.fName)), (none, .sl (g2_c0.fArgs.map Zq.cells)), (none, .v (.bool g2_c0.fRec)), (none, .sl (g2_c0.fBinds.map Zc.cells)), (none, .sl (g2_c0.fKids.map Zo.cells)), (none, .sl (g2_c0.fAlts.map Zi.cells))]), (1001, [(none, .pt 1002 0)]), (1002, [(none, .rf 1003), (none, .rf 1004), ((some (3102, 9)), .sl (r.fout.map c_S))]), (1003, [(none, .ob 167 (r.fbound.map (Zz c_S Zm)))]), (1004, [(none, .ob 169 (r.fseen.map (Zz c_S c_B)))])]))) ⟨[(0, .c none (.rf 1003)), (23, .c none (.sl (l.map c_S))), (24, .c none (.v (.int .i64 ((l.length : Nat) : Int)))), (25, .c none (.v (.int .i64 ((Zad : Nat) : Int))))], [(1000, [(none, .v (.int .i64 g2_c0.fOp)), (none, .v (.string g2_c0.fName)), (none, .sl (g2_c0.fArgs.map Zq.cells)), (none, .v (.bool g2_c0.fRec)), (none, .sl (g2_c0.fBinds.map Zc.cells)), (none, .sl (g2_c0.fKids.map Zo.cells)), (none, .sl (g2_c0.fAlts.map Zi.cells))]), (1001, [(none, .pt 1002 0)]), (1002, [(none, .rf 1003), (none, .rf 1004), ((some (3102, 9)), .sl (r28.fout.map c_S))]), (1003, [(none, .ob 167 (Zk.map (Zz c_S Zm)))]), (1004, [(none, .ob 169 (r28.fseen.map (Zz c_S c_B)))])]⟩
theorem ZfR (l : (List ByteArray)) (Zad : Nat) (g2_c0 : Zo) (r28 : (Zd)) (Zk : (List (ByteArray × Int))) (Zu : (List ByteArray)) : ∀ r, ZR l Zad g2_c0 r28 Zk Zu = some r → ZR.M l Zad g2_c0 r28 Zk Zu r := by
 refine ZR.partial_correctness l g2_c0 r28 (fun Zad Zk Zu r => ZR.M l Zad g2_c0 r28 Zk Zu r) ?_ Zad Zk Zu
 intro stg_scope_with_stg_finder_expr_1_l2' ZdG Zad Zk Zu r hF
 have ZfC := fun (_l : (List ByteArray)) (Zad : Nat) (_g2_c0 : Zo) (_r28 : (Zd)) (Zk : (List (ByteArray × Int))) (Zu : (List ByteArray)) => ZdG Zad Zk Zu
 clear ZdG
 unfold ZR.M
 intro Z5 ZbI ZbJ hlen29
 refine AWL.step ?_
 refine AWP.seq ?_
 refine ns ?_
 refine AWP.seq ?_
 refine nw ?_
 refine ZB ZbI ZbJ (fun x39 Zez Zev Zi9 Zi4 => ?_) (fun Zev => ?_)
 ·subst Zev
  refine nw ?_
  refine AWP.seq ?_
  refine AWP.block ?_
  refine AWP.seq ?_
  refine nn ?_
  refine sr (Z9 (f := c_S) rfl Zi9) ?_
  refine st ?_
  obtain ⟨r42, Zit, hF⟩ := bind_some hF
  refine ns ?_
  refine ZbB (m := Zk) (k := x39) Zay (ev := Zm) Zit rfl (fun x => ZaO x) rfl rfl (lc Zr) ?_
  refine st ?_
  refine ZcI (m := Zk) (k := x39) (v := (IntKind.i64.wrap (r42.1 - 1))) Zay (ev := Zm) (lc Zr) ?_
  refine st ?_
  refine ns ?_
  refine AWL.weak (rn [(3102, 3102)]) ?_ (ZfC l (Zad + 1) g2_c0 r28 (ZcQ Zk x39 (IntKind.i64.wrap (r42.1 - 1))) Zez _ hF (Z5 ++ [x39]) (by rw [ZbI]; simp) (by rw [ZbJ]; simp) hlen29)
  exact (WS.mk (tc (tc (tc (Zj (Zaj (Zcw (ZD hlen29 Zi4))) Ze)))) (Za rfl (cc (cc (cc (cc (cc (cc (cc Zb))))))) (Za rfl (cc Zb) (Za rfl (cc (cc (Zaf rfl (WE.refl _) Zb))) (Za rfl (cc Zb) (Za rfl (cc Zb) Zf))))))
 ·subst Zev
  refine nw ?_
  obtain rfl := Zs hF
  refine Exists.intro [(1000, 1000), (1001, 1001), (1002, 1002), (1003, 1003), (1004, 1004)] ?_
  refine st ?_
  exact Exists.intro (rn [(3102, 3102)]) (WS.mk (Zj (Zb1 Zb3) Ze) (Za rfl (cc (cc (cc (cc (cc (cc (cc Zb))))))) (Za rfl (cc Zb) (Za rfl (cc (cc (Zaf rfl (WE.refl _) Zb))) (Za rfl (cc Zb) (Za rfl (cc Zb) Zf))))))

def ZU (l : (List ByteArray)) (Zad : Nat) (g2_c0 : Zo) (r28 : (Zd)) (Zk : (List (ByteArray × Int))) (Zu : (List ByteArray)) : Option (Zd) :=
 (match Zu with
 | x39 :: Zez =>
 Zcf Zk 0 x39 >>= fun r42 =>
 ZU l (Zad + 1) g2_c0 r28 (ZcQ Zk x39 (IntKind.i64.wrap (r42.1 - 1))) Zez
 | [] =>
 some (Zd.mk Zk r28.fseen r28.fout))
 partial_fixpoint
def ZU.M (l : (List ByteArray)) (Zad : Nat) (g2_c0 : Zo) (r28 : (Zd)) (Zk : (List (ByteArray × Int))) (Zu : (List ByteArray)) (r : Zd) : Prop :=
 ∀ Z5 : List ByteArray, l = Z5 ++ Zu → Zad = Z5.length → l.length ≤ maxLen → AWL Tryz.prog 34 (Code.sub (Zt Tryz.f78) [1, 1, 1, 0, 0]) (Code.cont Tryz.prog 34 (Zt Tryz.f78) [1, 1, 1, 0] (Zbl tab Tryz.f78.results (Zbo (.tup []) [(1000, [(none, .v (.int .i64 g2_c0.fOp)), (none, .v (.string g2_c0.fName)), (none, .sl (g2_c0.fArgs.map Zq.cells)), (none, .v (.bool g2_c0.fRec)), (none, .sl (g2_c0.fBinds.map Zc.cells)), (none, .sl (g2_c0.fKids.map Zo.cells)), (none, .sl (g2_c0.fAlts.map Zi.cells))]), (1001, [(none, .pt 1002 0)]), (1002, [(none, .rf 1003), (none, .rf 1004), ((some (3102, 9)), .sl (r.fout.map c_S))]), (1003, [(none, .ob 167 (r.fbound.map (Zz c_S Zm)))]), (1004, [(none, .ob 169 (r.fseen.map (Zz c_S c_B)))])]))) ⟨[(0, .c none (.rf 1003)), (23, .c none (.sl (l.map c_S))), (24, .c none (.v (.int .i64 ((l.length : Nat) : Int)))), (25, .c none (.v (.int .i64 ((Zad : Nat) : Int))))], [(1000, [(none, .v (.int .i64 g2_c0.fOp)), (none, .v (.string g2_c0.fName)), (none, .sl (g2_c0.fArgs.map Zq.cells)), (none, .v (.bool g2_c0.fRec)), (none, .sl (g2_c0.fBinds.map Zc.cells)), (none, .sl (g2_c0.fKids.map Zo.cells)), (none, .sl (g2_c0.fAlts.map Zi.cells))]), (1001, [(none, .pt 1002 0)]), (1002, [(none, .rf 1003), (none, .rf 1004), ((some (3102, 9)), .sl (r28.fout.map c_S))]), (1003, [(none, .ob 167 (Zk.map (Zz c_S Zm)))]), (1004, [(none, .ob 169 (r28.fseen.map (Zz c_S c_B)))])]⟩
theorem ZfJ (l : (List ByteArray)) (Zad : Nat) (g2_c0 : Zo) (r28 : (Zd)) (Zk : (List (ByteArray × Int))) (Zu : (List ByteArray)) : ∀ r, ZU l Zad g2_c0 r28 Zk Zu = some r → ZU.M l Zad g2_c0 r28 Zk Zu r := by
 refine ZU.partial_correctness l g2_c0 r28 (fun Zad Zk Zu r => ZU.M l Zad g2_c0 r28 Zk Zu r) ?_ Zad Zk Zu
 intro stg_scope_with_stg_finder_expr_2_l2' ZdH Zad Zk Zu r hF
 have ZfA := fun (_l : (List ByteArray)) (Zad : Nat) (_g2_c0 : Zo) (_r28 : (Zd)) (Zk : (List (ByteArray × Int))) (Zu : (List ByteArray)) => ZdH Zad Zk Zu
 clear ZdH
 unfold ZU.M
 intro Z5 ZbI ZbJ hlen29
 refine AWL.step ?_
 refine AWP.seq ?_
 refine ns ?_
 refine AWP.seq ?_
 refine nw ?_
 refine ZB ZbI ZbJ (fun x39 Zez Zev Zi9 Zi4 => ?_) (fun Zev => ?_)
 ·subst Zev
  refine nw ?_
  refine AWP.seq ?_
  refine AWP.block ?_
  refine AWP.seq ?_
  refine nn ?_
  refine sr (Z9 (f := c_S) rfl Zi9) ?_
  refine st ?_
  obtain ⟨r42, Zit, hF⟩ := bind_some hF
  refine ns ?_
  refine ZbB (m := Zk) (k := x39) Zay (ev := Zm) Zit rfl (fun x => ZaO x) rfl rfl (lc Zr) ?_
  refine st ?_
  refine ZcI (m := Zk) (k := x39) (v := (IntKind.i64.wrap (r42.1 - 1))) Zay (ev := Zm) (lc Zr) ?_
  refine st ?_
  refine ns ?_
  refine AWL.weak (rn [(3102, 3102)]) ?_ (ZfA l (Zad + 1) g2_c0 r28 (ZcQ Zk x39 (IntKind.i64.wrap (r42.1 - 1))) Zez _ hF (Z5 ++ [x39]) (by rw [ZbI]; simp) (by rw [ZbJ]; simp) hlen29)
  exact (WS.mk (tc (tc (tc (Zj (Zaj (Zcw (ZD hlen29 Zi4))) Ze)))) (Za rfl (cc (cc (cc (cc (cc (cc (cc Zb))))))) (Za rfl (cc Zb) (Za rfl (cc (cc (Zaf rfl (WE.refl _) Zb))) (Za rfl (cc Zb) (Za rfl (cc Zb) Zf))))))
 ·subst Zev
  refine nw ?_
  obtain rfl := Zs hF
  refine Exists.intro [(1000, 1000), (1001, 1001), (1002, 1002), (1003, 1003), (1004, 1004)] ?_
  refine st ?_
  exact Exists.intro (rn [(3102, 3102)]) (WS.mk (Zj (Zb1 Zb3) Ze) (Za rfl (cc (cc (cc (cc (cc (cc (cc Zb))))))) (Za rfl (cc Zb) (Za rfl (cc (cc (Zaf rfl (WE.refl _) Zb))) (Za rfl (cc Zb) (Za rfl (cc Zb) Zf))))))

def ZN (l : (List ByteArray)) (Zad : Nat) (r28 : (Zd)) (Zp : (List (ByteArray × Int))) (g2_c1 : Zi) (Zu : (List ByteArray)) : Option (Zd) :=
 (match Zu with
 | x39 :: Zez =>
 Zcf Zp 0 x39 >>= fun r42 =>
 ZN l (Zad + 1) r28 (ZcQ Zp x39 (IntKind.i64.wrap (r42.1 - 1))) g2_c1 Zez
 | [] =>
 some (Zd.mk Zp r28.fseen r28.fout))
 partial_fixpoint
def ZN.M (l : (List ByteArray)) (Zad : Nat) (r28 : (Zd)) (Zp : (List (ByteArray × Int))) (g2_c1 : Zi) (Zu : (List ByteArray)) (r : Zd) : Prop :=
 ∀ Z5 : List ByteArray, l = Z5 ++ Zu → Zad = Z5.length → l.length ≤ maxLen → AWL Tryz.prog 34 (Code.sub (Zt Tryz.f78) [1, 1, 1, 0, 0]) (Code.cont Tryz.prog 34 (Zt Tryz.f78) [1, 1, 1, 0] (Zbl tab Tryz.f78.results (Zbo (.tup []) [(1000, [(none, .pt 1001 0)]), (1001, [(none, .rf 1002), (none, .rf 1003), ((some (3052, 9)), .sl (r.fout.map c_S))]), (1002, [(none, .ob 167 (r.fbound.map (Zz c_S Zm)))]), (1003, [(none, .ob 169 (r.fseen.map (Zz c_S c_B)))]), (1004, [(none, .v (.int .i64 g2_c1.fOp)), (none, .v (.string g2_c1.fName)), (none, .v (.int .i64 g2_c1.fN)), (none, .sl (g2_c1.fVars.map c_S)), (none, .v (.int .i64 g2_c1.fBody.fOp)), (none, .v (.string g2_c1.fBody.fName)), (none, .sl (g2_c1.fBody.fArgs.map Zq.cells)), (none, .v (.bool g2_c1.fBody.fRec)), (none, .sl (g2_c1.fBody.fBinds.map Zc.cells)), (none, .sl (g2_c1.fBody.fKids.map Zo.cells)), (none, .sl (g2_c1.fBody.fAlts.map Zi.cells))])]))) ⟨[(0, .c none (.rf 1002)), (23, .c none (.sl (l.map c_S))), (24, .c none (.v (.int .i64 ((l.length : Nat) : Int)))), (25, .c none (.v (.int .i64 ((Zad : Nat) : Int))))], [(1000, [(none, .pt 1001 0)]), (1001, [(none, .rf 1002), (none, .rf 1003), ((some (3052, 9)), .sl (r28.fout.map c_S))]), (1002, [(none, .ob 167 (Zp.map (Zz c_S Zm)))]), (1003, [(none, .ob 169 (r28.fseen.map (Zz c_S c_B)))]), (1004, [(none, .v (.int .i64 g2_c1.fOp)), (none, .v (.string g2_c1.fName)), (none, .v (.int .i64 g2_c1.fN)), (none, .sl (g2_c1.fVars.map c_S)), (none, .v (.int .i64 g2_c1.fBody.fOp)), (none, .v (.string g2_c1.fBody.fName)), (none, .sl (g2_c1.fBody.fArgs.map Zq.cells)), (none, .v (.bool g2_c1.fBody.fRec)), (none, .sl (g2_c1.fBody.fBinds.map Zc.cells)), (none, .sl (g2_c1.fBody.fKids.map Zo.cells)), (none, .sl (g2_c1.fBody.fAlts.map Zi.cells))])]⟩
theorem Zfa (l : (List ByteArray)) (Zad : Nat) (r28 : (Zd)) (Zp : (List (ByteArray × Int))) (g2_c1 : Zi) (Zu : (List ByteArray)) : ∀ r, ZN l Zad r28 Zp g2_c1 Zu = some r → ZN.M l Zad r28 Zp g2_c1 Zu r := by
 refine ZN.partial_correctness l r28 g2_c1 (fun Zad Zp Zu r => ZN.M l Zad r28 Zp g2_c1 Zu r) ?_ Zad Zp Zu
 intro stg_scope_with_stg_finder_expr_3_1_l2' Zdt Zad Zp Zu r hF
 have Zfk := fun (_l : (List ByteArray)) (Zad : Nat) (_r28 : (Zd)) (Zp : (List (ByteArray × Int))) (_g2_c1 : Zi) (Zu : (List ByteArray)) => Zdt Zad Zp Zu
 clear Zdt
 unfold ZN.M
 intro Z5 ZbI ZbJ hlen29
 refine AWL.step ?_
 refine AWP.seq ?_
 refine ns ?_
 refine AWP.seq ?_
 refine nw ?_
 refine ZB ZbI ZbJ (fun x39 Zez Zev Zi9 Zi4 => ?_) (fun Zev => ?_)
 ·subst Zev
  refine nw ?_
  refine AWP.seq ?_
  refine AWP.block ?_
  refine AWP.seq ?_
  refine nn ?_
  refine sr (Z9 (f := c_S) rfl Zi9) ?_
  refine st ?_
  obtain ⟨r42, Zit, hF⟩ := bind_some hF
  refine ns ?_
  refine ZbB (m := Zp) (k := x39) Zay (ev := Zm) Zit rfl (fun x => ZaO x) rfl rfl (lc Zr) ?_
  refine st ?_
  refine ZcI (m := Zp) (k := x39) (v := (IntKind.i64.wrap (r42.1 - 1))) Zay (ev := Zm) (lc Zr) ?_
  refine st ?_
  refine ns ?_
  refine AWL.weak (rn [(3052, 3052)]) ?_ (Zfk l (Zad + 1) r28 (ZcQ Zp x39 (IntKind.i64.wrap (r42.1 - 1))) g2_c1 Zez _ hF (Z5 ++ [x39]) (by rw [ZbI]; simp) (by rw [ZbJ]; simp) hlen29)
  exact (WS.mk (tc (tc (tc (Zj (Zaj (Zcw (ZD hlen29 Zi4))) Ze)))) (Za rfl (cc Zb) (Za rfl (cc (cc (Zaf rfl (WE.refl _) Zb))) (Za rfl (cc Zb) (Za rfl (cc Zb) (Za rfl (cc (cc (cc (cc (cc (cc (cc (cc (cc (cc (cc Zb))))))))))) Zf))))))
 ·subst Zev
  refine nw ?_
  obtain rfl := Zs hF
  refine Exists.intro [(1000, 1000), (1001, 1001), (1002, 1002), (1003, 1003), (1004, 1004)] ?_
  refine st ?_
  exact Exists.intro (rn [(3052, 3052)]) (WS.mk (Zj (Zb1 Zb3) Ze) (Za rfl (cc Zb) (Za rfl (cc (cc (Zaf rfl (WE.refl _) Zb))) (Za rfl (cc Zb) (Za rfl (cc Zb) (Za rfl (cc (cc (cc (cc (cc (cc (cc (cc (cc (cc (cc Zb))))))))))) Zf))))))

def ZS (l : (List ByteArray)) (Zad : Nat) (g2_c0 : Zo) (r28 : (Zd)) (Zk : (List (ByteArray × Int))) (Zu : (List ByteArray)) : Option (Zd) :=
 (match Zu with
 | x39 :: Zez =>
 Zcf Zk 0 x39 >>= fun r42 =>
 ZS l (Zad + 1) g2_c0 r28 (ZcQ Zk x39 (IntKind.i64.wrap (r42.1 - 1))) Zez
 | [] =>
 some (Zd.mk Zk r28.fseen r28.fout))
 partial_fixpoint
def ZS.M (l : (List ByteArray)) (Zad : Nat) (g2_c0 : Zo) (r28 : (Zd)) (Zk : (List (ByteArray × Int))) (Zu : (List ByteArray)) (r : Zd) : Prop :=
 ∀ Z5 : List ByteArray, l = Z5 ++ Zu → Zad = Z5.length → l.length ≤ maxLen → AWL Tryz.prog 34 (Code.sub (Zt Tryz.f78) [1, 1, 1, 0, 0]) (Code.cont Tryz.prog 34 (Zt Tryz.f78) [1, 1, 1, 0] (Zbl tab Tryz.f78.results (Zbo (.tup []) [(1000, [(none, .v (.int .i64 g2_c0.fOp)), (none, .v (.string g2_c0.fName)), (none, .sl (g2_c0.fArgs.map Zq.cells)), (none, .v (.bool g2_c0.fRec)), (none, .sl (g2_c0.fBinds.map Zc.cells)), (none, .sl (g2_c0.fKids.map Zo.cells)), (none, .sl (g2_c0.fAlts.map Zi.cells))]), (1001, [(none, .pt 1002 0)]), (1002, [(none, .rf 1003), (none, .rf 1004), ((some (3102, 9)), .sl (r.fout.map c_S))]), (1003, [(none, .ob 167 (r.fbound.map (Zz c_S Zm)))]), (1004, [(none, .ob 169 (r.fseen.map (Zz c_S c_B)))])]))) ⟨[(0, .c none (.rf 1003)), (23, .c none (.sl (l.map c_S))), (24, .c none (.v (.int .i64 ((l.length : Nat) : Int)))), (25, .c none (.v (.int .i64 ((Zad : Nat) : Int))))], [(1000, [(none, .v (.int .i64 g2_c0.fOp)), (none, .v (.string g2_c0.fName)), (none, .sl (g2_c0.fArgs.map Zq.cells)), (none, .v (.bool g2_c0.fRec)), (none, .sl (g2_c0.fBinds.map Zc.cells)), (none, .sl (g2_c0.fKids.map Zo.cells)), (none, .sl (g2_c0.fAlts.map Zi.cells))]), (1001, [(none, .pt 1002 0)]), (1002, [(none, .rf 1003), (none, .rf 1004), ((some (3102, 9)), .sl (r28.fout.map c_S))]), (1003, [(none, .ob 167 (Zk.map (Zz c_S Zm)))]), (1004, [(none, .ob 169 (r28.fseen.map (Zz c_S c_B)))])]⟩
theorem ZfQ (l : (List ByteArray)) (Zad : Nat) (g2_c0 : Zo) (r28 : (Zd)) (Zk : (List (ByteArray × Int))) (Zu : (List ByteArray)) : ∀ r, ZS l Zad g2_c0 r28 Zk Zu = some r → ZS.M l Zad g2_c0 r28 Zk Zu r := by
 refine ZS.partial_correctness l g2_c0 r28 (fun Zad Zk Zu r => ZS.M l Zad g2_c0 r28 Zk Zu r) ?_ Zad Zk Zu
 intro stg_scope_with_stg_finder_expr_3_l2' ZdI Zad Zk Zu r hF
 have ZfB := fun (_l : (List ByteArray)) (Zad : Nat) (_g2_c0 : Zo) (_r28 : (Zd)) (Zk : (List (ByteArray × Int))) (Zu : (List ByteArray)) => ZdI Zad Zk Zu
 clear ZdI
 unfold ZS.M
 intro Z5 ZbI ZbJ hlen29
 refine AWL.step ?_
 refine AWP.seq ?_
 refine ns ?_
 refine AWP.seq ?_
 refine nw ?_
 refine ZB ZbI ZbJ (fun x39 Zez Zev Zi9 Zi4 => ?_) (fun Zev => ?_)
 ·subst Zev
  refine nw ?_
  refine AWP.seq ?_
  refine AWP.block ?_
  refine AWP.seq ?_
  refine nn ?_
  refine sr (Z9 (f := c_S) rfl Zi9) ?_
  refine st ?_
  obtain ⟨r42, Zit, hF⟩ := bind_some hF
  refine ns ?_
  refine ZbB (m := Zk) (k := x39) Zay (ev := Zm) Zit rfl (fun x => ZaO x) rfl rfl (lc Zr) ?_
  refine st ?_
  refine ZcI (m := Zk) (k := x39) (v := (IntKind.i64.wrap (r42.1 - 1))) Zay (ev := Zm) (lc Zr) ?_
  refine st ?_
  refine ns ?_
  refine AWL.weak (rn [(3102, 3102)]) ?_ (ZfB l (Zad + 1) g2_c0 r28 (ZcQ Zk x39 (IntKind.i64.wrap (r42.1 - 1))) Zez _ hF (Z5 ++ [x39]) (by rw [ZbI]; simp) (by rw [ZbJ]; simp) hlen29)
  exact (WS.mk (tc (tc (tc (Zj (Zaj (Zcw (ZD hlen29 Zi4))) Ze)))) (Za rfl (cc (cc (cc (cc (cc (cc (cc Zb))))))) (Za rfl (cc Zb) (Za rfl (cc (cc (Zaf rfl (WE.refl _) Zb))) (Za rfl (cc Zb) (Za rfl (cc Zb) Zf))))))
 ·subst Zev
  refine nw ?_
  obtain rfl := Zs hF
  refine Exists.intro [(1000, 1000), (1001, 1001), (1002, 1002), (1003, 1003), (1004, 1004)] ?_
  refine st ?_
  exact Exists.intro (rn [(3102, 3102)]) (WS.mk (Zj (Zb1 Zb3) Ze) (Za rfl (cc (cc (cc (cc (cc (cc (cc Zb))))))) (Za rfl (cc Zb) (Za rfl (cc (cc (Zaf rfl (WE.refl _) Zb))) (Za rfl (cc Zb) (Za rfl (cc Zb) Zf))))))

mutual
def ZaH (f : Zd) (e : Zo) : Option (Zd) :=
 if (e.fOp == 2) = true then
 ZcU f e.fName >>= fun r16 =>
 Zcc e r16.fout r16.fbound r16.fseen
 else
 Zcc e f.fout f.fbound f.fseen
 partial_fixpoint
def Zcc (e : Zo) (ZK : (List ByteArray)) (ZJ : (List (ByteArray × Int))) (Zp : (List (ByteArray × Bool))) : Option (Zd) :=
 ZdC (Zd.mk ZJ Zp ZK) e.fArgs >>= fun r3 =>
 ZeL e.fBinds >>= fun r4 =>
 if e.fRec = true then
 Zaq r4 e r3 >>= fun r13 =>
 Zbx r4 e r13.fout r13.fbound r13.fseen
 else
 ZaP e r3 >>= fun r14 =>
 Zbx r4 e r14.fout r14.fbound r14.fseen
 partial_fixpoint
def ZaP (v0_ : Zo) (v1_ : Zd) : Option (Zd) :=
 Zba v0_ 0 v1_.fout v1_.fbound v1_.fseen v0_.fBinds
 partial_fixpoint
def Zba (v0_ : Zo) (x_7 : Nat) (Z1 : (List ByteArray)) (Zk : (List (ByteArray × Int))) (Zv : (List (ByteArray × Bool))) (ZcZ : (List Zc)) : Option (Zd) :=
 (match ZcZ with
 | x13 :: ZkK =>
 Zaa x13.fParams (Zd.mk Zk Zv Z1) x13 >>= fun r17 =>
 Zba v0_ (x_7 + 1) r17.fout r17.fbound r17.fseen ZkK
 | [] =>
 some (Zd.mk Zk Zv Z1))
 partial_fixpoint
def Zaa (l : (List ByteArray)) (g2_c0 : Zd) (g2_c1 : Zc) : Option (Zd) :=
 ZX l 0 g2_c0 g2_c0.fbound g2_c1 l
 partial_fixpoint
def ZX (l : (List ByteArray)) (ZaS : Nat) (g2_c0 : Zd) (Zp : (List (ByteArray × Int))) (g2_c1 : Zc) (ZF : (List ByteArray)) : Option (Zd) :=
 (match ZF with
 | x24 :: Zeb =>
 Zcf Zp 0 x24 >>= fun r27 =>
 ZX l (ZaS + 1) g2_c0 (ZcQ Zp x24 (IntKind.i64.wrap (r27.1 + 1))) g2_c1 Zeb
 | [] =>
 Za5 (Zd.mk Zp g2_c0.fseen g2_c0.fout) g2_c1 >>= fun r28 =>
 ZO l 0 r28 r28.fbound g2_c1 l)
 partial_fixpoint
def Za5 (v0_ : Zd) (v1_ : Zc) : Option (Zd) :=
 ZaH v0_ v1_.fBody >>= fun r1 =>
 some r1
 partial_fixpoint
def Zbx (r4 : ((List ByteArray))) (e : Zo) (ZK : (List ByteArray)) (ZJ : (List (ByteArray × Int))) (Zp : (List (ByteArray × Bool))) : Option (Zd) :=
 ZaG r4 e (Zd.mk ZJ Zp ZK) >>= fun r8 =>
 if (e.fOp == 6) = true then
 Zcd ([e.fName]) e r8
 else
 Zcd ([]) e r8
 partial_fixpoint
def Zcd (Zlm : (List ByteArray)) (e : Zo) (r8 : (Zd)) : Option (Zd) :=
 ZaF Zlm e r8 >>= fun r10 =>
 some r10
 partial_fixpoint
def ZaF (l : (List ByteArray)) (g2_c0 : Zo) (g2_c1 : Zd) : Option (Zd) :=
 Z3 l 0 g2_c0 g2_c1 g2_c1.fbound l
 partial_fixpoint
def Z3 (l : (List ByteArray)) (ZaS : Nat) (g2_c0 : Zo) (g2_c1 : Zd) (Zk : (List (ByteArray × Int))) (ZF : (List ByteArray)) : Option (Zd) :=
 (match ZF with
 | x24 :: Zeb =>
 Zcf Zk 0 x24 >>= fun r27 =>
 Z3 l (ZaS + 1) g2_c0 g2_c1 (ZcQ Zk x24 (IntKind.i64.wrap (r27.1 + 1))) Zeb
 | [] =>
 Zbv g2_c0 (Zd.mk Zk g2_c1.fseen g2_c1.fout) >>= fun r28 =>
 ZS l 0 g2_c0 r28 r28.fbound l)
 partial_fixpoint
def Zbv (v0_ : Zo) (v1_ : Zd) : Option (Zd) :=
 Zbc v0_ 0 v1_.fout v1_.fbound v1_.fseen v0_.fAlts
 partial_fixpoint
def Zbc (v0_ : Zo) (x_7 : Nat) (Z1 : (List ByteArray)) (Zk : (List (ByteArray × Int))) (Zv : (List (ByteArray × Bool))) (ZcZ : (List Zi)) : Option (Zd) :=
 (match ZcZ with
 | x13 :: ZkK =>
 Zac x13.fVars (Zd.mk Zk Zv Z1) x13 >>= fun r17 =>
 Zbc v0_ (x_7 + 1) r17.fout r17.fbound r17.fseen ZkK
 | [] =>
 some (Zd.mk Zk Zv Z1))
 partial_fixpoint
def Zac (l : (List ByteArray)) (g2_c0 : Zd) (g2_c1 : Zi) : Option (Zd) :=
 ZW l 0 g2_c0 g2_c0.fbound g2_c1 l
 partial_fixpoint
def ZW (l : (List ByteArray)) (ZaS : Nat) (g2_c0 : Zd) (Zp : (List (ByteArray × Int))) (g2_c1 : Zi) (ZF : (List ByteArray)) : Option (Zd) :=
 (match ZF with
 | x24 :: Zeb =>
 Zcf Zp 0 x24 >>= fun r27 =>
 ZW l (ZaS + 1) g2_c0 (ZcQ Zp x24 (IntKind.i64.wrap (r27.1 + 1))) g2_c1 Zeb
 | [] =>
 Za7 (Zd.mk Zp g2_c0.fseen g2_c0.fout) g2_c1 >>= fun r28 =>
 ZN l 0 r28 r28.fbound g2_c1 l)
 partial_fixpoint
def Za7 (v0_ : Zd) (v1_ : Zi) : Option (Zd) :=
 ZaH v0_ v1_.fBody >>= fun r1 =>
 some r1
 partial_fixpoint
def ZaG (l : (List ByteArray)) (g2_c0 : Zo) (g2_c1 : Zd) : Option (Zd) :=
 Z2 l 0 g2_c0 g2_c1 g2_c1.fbound l
 partial_fixpoint
def Z2 (l : (List ByteArray)) (ZaS : Nat) (g2_c0 : Zo) (g2_c1 : Zd) (Zk : (List (ByteArray × Int))) (ZF : (List ByteArray)) : Option (Zd) :=
 (match ZF with
 | x24 :: Zeb =>
 Zcf Zk 0 x24 >>= fun r27 =>
 Z2 l (ZaS + 1) g2_c0 g2_c1 (ZcQ Zk x24 (IntKind.i64.wrap (r27.1 + 1))) Zeb
 | [] =>
 Zbu g2_c0 (Zd.mk Zk g2_c1.fseen g2_c1.fout) >>= fun r28 =>
 ZU l 0 g2_c0 r28 r28.fbound l)
 partial_fixpoint
def Zbu (v0_ : Zo) (v1_ : Zd) : Option (Zd) :=
 ZaT v0_ 0 v1_.fout v1_.fbound v1_.fseen v0_.fKids
 partial_fixpoint
def ZaT (v0_ : Zo) (x_7 : Nat) (Z1 : (List ByteArray)) (Zk : (List (ByteArray × Int))) (Zv : (List (ByteArray × Bool))) (ZcZ : (List Zo)) : Option (Zd) :=
 (match ZcZ with
 | x11 :: Zo9 =>
 ZaH (Zd.mk Zk Zv Z1) x11 >>= fun r14 =>
 ZaT v0_ (x_7 + 1) r14.fout r14.fbound r14.fseen Zo9
 | [] =>
 some (Zd.mk Zk Zv Z1))
 partial_fixpoint
def Zaq (l : (List ByteArray)) (g2_c0 : Zo) (g2_c1 : Zd) : Option (Zd) :=
 Z4 l 0 g2_c0 g2_c1 g2_c1.fbound l
 partial_fixpoint
def Z4 (l : (List ByteArray)) (ZaS : Nat) (g2_c0 : Zo) (g2_c1 : Zd) (Zk : (List (ByteArray × Int))) (ZF : (List ByteArray)) : Option (Zd) :=
 (match ZF with
 | x24 :: Zeb =>
 Zcf Zk 0 x24 >>= fun r27 =>
 Z4 l (ZaS + 1) g2_c0 g2_c1 (ZcQ Zk x24 (IntKind.i64.wrap (r27.1 + 1))) Zeb
 | [] =>
 ZaP g2_c0 (Zd.mk Zk g2_c1.fseen g2_c1.fout) >>= fun r28 =>
 ZR l 0 g2_c0 r28 r28.fbound l)
 partial_fixpoint
end
def ZaH.M (f : Zd) (e : Zo) (r : Zd) : Prop :=
 Zn Tryz.prog 43 [.ptr 1000 0, .agg [.v (.int .i64 e.fOp), .v (.string e.fName), .sl (e.fArgs.map Zq.cells), .v (.bool e.fRec), .sl (e.fBinds.map Zc.cells), .sl (e.fKids.map Zo.cells), .sl (e.fAlts.map Zi.cells)]] [(1000, [(none, .rf 1001), (none, .rf 1002), ((some (3002, 9)), .sl (f.fout.map c_S))]), (1001, [(none, .ob 167 (f.fbound.map (Zz c_S Zm)))]), (1002, [(none, .ob 169 (f.fseen.map (Zz c_S c_B)))])] (fun d b => d = .tup [] ∧ b = [(1000, [(none, .rf 1001), (none, .rf 1002), ((some (3002, 9)), .sl (r.fout.map c_S))]), (1001, [(none, .ob 167 (r.fbound.map (Zz c_S Zm)))]), (1002, [(none, .ob 169 (r.fseen.map (Zz c_S c_B)))])])
def Zcc.M (e : Zo) (ZK : (List ByteArray)) (ZJ : (List (ByteArray × Int))) (Zp : (List (ByteArray × Bool))) (r : Zd) : Prop :=
 AWP Tryz.prog 53 (Code.sub (Zt Tryz.f43) [1, 1]) (Code.cont Tryz.prog 53 (Zt Tryz.f43) [1, 1] (Zbl tab Tryz.f43.results (Zbo (.tup []) [(1000, [(none, .rf 1001), (none, .rf 1002), ((some (3002, 9)), .sl (r.fout.map c_S))]), (1001, [(none, .ob 167 (r.fbound.map (Zz c_S Zm)))]), (1002, [(none, .ob 169 (r.fseen.map (Zz c_S c_B)))])]))) ⟨[(2, .ptr 2 0), (3, .ptr 3 0)], [(2, [(none, .pt 1000 0)]), (3, [(none, .v (.int .i64 e.fOp)), (none, .v (.string e.fName)), (none, .sl (e.fArgs.map Zq.cells)), (none, .v (.bool e.fRec)), (none, .sl (e.fBinds.map Zc.cells)), (none, .sl (e.fKids.map Zo.cells)), (none, .sl (e.fAlts.map Zi.cells))]), (1000, [(none, .rf 1001), (none, .rf 1002), ((some (3002, 9)), .sl (ZK.map c_S))]), (1001, [(none, .ob 167 (ZJ.map (Zz c_S Zm)))]), (1002, [(none, .ob 169 (Zp.map (Zz c_S c_B)))])]⟩
def ZaP.M (v0_ : Zo) (v1_ : Zd) (r : Zd) : Prop :=
 Zn Tryz.prog 77 [.ptr 1000 0, .ptr 1001 0] [(1000, [(none, .v (.int .i64 v0_.fOp)), (none, .v (.string v0_.fName)), (none, .sl (v0_.fArgs.map Zq.cells)), (none, .v (.bool v0_.fRec)), (none, .sl (v0_.fBinds.map Zc.cells)), (none, .sl (v0_.fKids.map Zo.cells)), (none, .sl (v0_.fAlts.map Zi.cells))]), (1001, [(none, .pt 1002 0)]), (1002, [(none, .rf 1003), (none, .rf 1004), ((some (3102, 9)), .sl (v1_.fout.map c_S))]), (1003, [(none, .ob 167 (v1_.fbound.map (Zz c_S Zm)))]), (1004, [(none, .ob 169 (v1_.fseen.map (Zz c_S c_B)))])] (fun d b => d = .tup [] ∧ b = [(1000, [(none, .v (.int .i64 v0_.fOp)), (none, .v (.string v0_.fName)), (none, .sl (v0_.fArgs.map Zq.cells)), (none, .v (.bool v0_.fRec)), (none, .sl (v0_.fBinds.map Zc.cells)), (none, .sl (v0_.fKids.map Zo.cells)), (none, .sl (v0_.fAlts.map Zi.cells))]), (1001, [(none, .pt 1002 0)]), (1002, [(none, .rf 1003), (none, .rf 1004), ((some (3102, 9)), .sl (r.fout.map c_S))]), (1003, [(none, .ob 167 (r.fbound.map (Zz c_S Zm)))]), (1004, [(none, .ob 169 (r.fseen.map (Zz c_S c_B)))])])
def Zba.M (v0_ : Zo) (x_7 : Nat) (Z1 : (List ByteArray)) (Zk : (List (ByteArray × Int))) (Zv : (List (ByteArray × Bool))) (ZcZ : (List Zc)) (r : Zd) : Prop :=
 ∀ Zd2 : List Zc, v0_.fBinds = Zd2 ++ ZcZ → x_7 = Zd2.length → v0_.fBinds.length ≤ maxLen → AWL Tryz.prog 20 (Code.sub (Zt Tryz.f77) [1, 0, 0]) (Code.cont Tryz.prog 20 (Zt Tryz.f77) [1, 0] (Zbl tab Tryz.f77.results (Zbo (.tup []) [(1000, [(none, .v (.int .i64 v0_.fOp)), (none, .v (.string v0_.fName)), (none, .sl (v0_.fArgs.map Zq.cells)), (none, .v (.bool v0_.fRec)), (none, .sl (v0_.fBinds.map Zc.cells)), (none, .sl (v0_.fKids.map Zo.cells)), (none, .sl (v0_.fAlts.map Zi.cells))]), (1001, [(none, .pt 1002 0)]), (1002, [(none, .rf 1003), (none, .rf 1004), ((some (3102, 9)), .sl (r.fout.map c_S))]), (1003, [(none, .ob 167 (r.fbound.map (Zz c_S Zm)))]), (1004, [(none, .ob 169 (r.fseen.map (Zz c_S c_B)))])]))) ⟨[(1, .ptr 1001 0), (5, .c none (.sl (v0_.fBinds.map Zc.cells))), (6, .c none (.v (.int .i64 ((v0_.fBinds.length : Nat) : Int)))), (7, .c none (.v (.int .i64 ((x_7 : Nat) : Int))))], [(1000, [(none, .v (.int .i64 v0_.fOp)), (none, .v (.string v0_.fName)), (none, .sl (v0_.fArgs.map Zq.cells)), (none, .v (.bool v0_.fRec)), (none, .sl (v0_.fBinds.map Zc.cells)), (none, .sl (v0_.fKids.map Zo.cells)), (none, .sl (v0_.fAlts.map Zi.cells))]), (1001, [(none, .pt 1002 0)]), (1002, [(none, .rf 1003), (none, .rf 1004), ((some (3102, 9)), .sl (Z1.map c_S))]), (1003, [(none, .ob 167 (Zk.map (Zz c_S Zm)))]), (1004, [(none, .ob 169 (Zv.map (Zz c_S c_B)))])]⟩
def Zaa.M (l : (List ByteArray)) (g2_c0 : Zd) (g2_c1 : Zc) (r : Zd) : Prop :=
 Zn Tryz.prog 78 [.c none (.rf 1002), .c none (.sl (l.map c_S)), .c none (.cl 79 [] [.pt 1000 0, .pt 1004 0])] [(1000, [(none, .pt 1001 0)]), (1001, [(none, .rf 1002), (none, .rf 1003), ((some (3052, 9)), .sl (g2_c0.fout.map c_S))]), (1002, [(none, .ob 167 (g2_c0.fbound.map (Zz c_S Zm)))]), (1003, [(none, .ob 169 (g2_c0.fseen.map (Zz c_S c_B)))]), (1004, [(none, .v (.string g2_c1.fName)), (none, .v (.int .i64 g2_c1.fOp)), (none, .sl (g2_c1.fFree.map c_S)), (none, .sl (g2_c1.fParams.map c_S)), (none, .v (.int .i64 g2_c1.fBody.fOp)), (none, .v (.string g2_c1.fBody.fName)), (none, .sl (g2_c1.fBody.fArgs.map Zq.cells)), (none, .v (.bool g2_c1.fBody.fRec)), (none, .sl (g2_c1.fBody.fBinds.map Zc.cells)), (none, .sl (g2_c1.fBody.fKids.map Zo.cells)), (none, .sl (g2_c1.fBody.fAlts.map Zi.cells))])] (fun d b => d = .tup [] ∧ b = [(1000, [(none, .pt 1001 0)]), (1001, [(none, .rf 1002), (none, .rf 1003), ((some (3052, 9)), .sl (r.fout.map c_S))]), (1002, [(none, .ob 167 (r.fbound.map (Zz c_S Zm)))]), (1003, [(none, .ob 169 (r.fseen.map (Zz c_S c_B)))]), (1004, [(none, .v (.string g2_c1.fName)), (none, .v (.int .i64 g2_c1.fOp)), (none, .sl (g2_c1.fFree.map c_S)), (none, .sl (g2_c1.fParams.map c_S)), (none, .v (.int .i64 g2_c1.fBody.fOp)), (none, .v (.string g2_c1.fBody.fName)), (none, .sl (g2_c1.fBody.fArgs.map Zq.cells)), (none, .v (.bool g2_c1.fBody.fRec)), (none, .sl (g2_c1.fBody.fBinds.map Zc.cells)), (none, .sl (g2_c1.fBody.fKids.map Zo.cells)), (none, .sl (g2_c1.fBody.fAlts.map Zi.cells))])])
def ZX.M (l : (List ByteArray)) (ZaS : Nat) (g2_c0 : Zd) (Zp : (List (ByteArray × Int))) (g2_c1 : Zc) (ZF : (List ByteArray)) (r : Zd) : Prop :=
 ∀ Zag : List ByteArray, l = Zag ++ ZF → ZaS = Zag.length → l.length ≤ maxLen → AWL Tryz.prog 34 (Code.sub (Zt Tryz.f78) [0, 1, 0, 0]) (Code.cont Tryz.prog 34 (Zt Tryz.f78) [0, 1, 0] (Zbl tab Tryz.f78.results (Zbo (.tup []) [(1000, [(none, .pt 1001 0)]), (1001, [(none, .rf 1002), (none, .rf 1003), ((some (3052, 9)), .sl (r.fout.map c_S))]), (1002, [(none, .ob 167 (r.fbound.map (Zz c_S Zm)))]), (1003, [(none, .ob 169 (r.fseen.map (Zz c_S c_B)))]), (1004, [(none, .v (.string g2_c1.fName)), (none, .v (.int .i64 g2_c1.fOp)), (none, .sl (g2_c1.fFree.map c_S)), (none, .sl (g2_c1.fParams.map c_S)), (none, .v (.int .i64 g2_c1.fBody.fOp)), (none, .v (.string g2_c1.fBody.fName)), (none, .sl (g2_c1.fBody.fArgs.map Zq.cells)), (none, .v (.bool g2_c1.fBody.fRec)), (none, .sl (g2_c1.fBody.fBinds.map Zc.cells)), (none, .sl (g2_c1.fBody.fKids.map Zo.cells)), (none, .sl (g2_c1.fBody.fAlts.map Zi.cells))])]))) ⟨[(0, .c none (.rf 1002)), (1, .c none (.sl (l.map c_S))), (2, .c none (.cl 79 [] [.pt 1000 0, .pt 1004 0])), (10, .c none (.sl (l.map c_S))), (11, .c none (.v (.int .i64 ((l.length : Nat) : Int)))), (12, .c none (.v (.int .i64 ((ZaS : Nat) : Int))))], [(1000, [(none, .pt 1001 0)]), (1001, [(none, .rf 1002), (none, .rf 1003), ((some (3052, 9)), .sl (g2_c0.fout.map c_S))]), (1002, [(none, .ob 167 (Zp.map (Zz c_S Zm)))]), (1003, [(none, .ob 169 (g2_c0.fseen.map (Zz c_S c_B)))]), (1004, [(none, .v (.string g2_c1.fName)), (none, .v (.int .i64 g2_c1.fOp)), (none, .sl (g2_c1.fFree.map c_S)), (none, .sl (g2_c1.fParams.map c_S)), (none, .v (.int .i64 g2_c1.fBody.fOp)), (none, .v (.string g2_c1.fBody.fName)), (none, .sl (g2_c1.fBody.fArgs.map Zq.cells)), (none, .v (.bool g2_c1.fBody.fRec)), (none, .sl (g2_c1.fBody.fBinds.map Zc.cells)), (none, .sl (g2_c1.fBody.fKids.map Zo.cells)), (none, .sl (g2_c1.fBody.fAlts.map Zi.cells))])]⟩
def Za5.M (v0_ : Zd) (v1_ : Zc) (r : Zd) : Prop :=
 Zn Tryz.prog 79 [.ptr 1000 0, .ptr 1004 0] [(1000, [(none, .pt 1001 0)]), (1001, [(none, .rf 1002), (none, .rf 1003), ((some (3052, 9)), .sl (v0_.fout.map c_S))]), (1002, [(none, .ob 167 (v0_.fbound.map (Zz c_S Zm)))]), (1003, [(none, .ob 169 (v0_.fseen.map (Zz c_S c_B)))]), (1004, [(none, .v (.string v1_.fName)), (none, .v (.int .i64 v1_.fOp)), (none, .sl (v1_.fFree.map c_S)), (none, .sl (v1_.fParams.map c_S)), (none, .v (.int .i64 v1_.fBody.fOp)), (none, .v (.string v1_.fBody.fName)), (none, .sl (v1_.fBody.fArgs.map Zq.cells)), (none, .v (.bool v1_.fBody.fRec)), (none, .sl (v1_.fBody.fBinds.map Zc.cells)), (none, .sl (v1_.fBody.fKids.map Zo.cells)), (none, .sl (v1_.fBody.fAlts.map Zi.cells))])] (fun d b => d = .tup [] ∧ b = [(1000, [(none, .pt 1001 0)]), (1001, [(none, .rf 1002), (none, .rf 1003), ((some (3052, 9)), .sl (r.fout.map c_S))]), (1002, [(none, .ob 167 (r.fbound.map (Zz c_S Zm)))]), (1003, [(none, .ob 169 (r.fseen.map (Zz c_S c_B)))]), (1004, [(none, .v (.string v1_.fName)), (none, .v (.int .i64 v1_.fOp)), (none, .sl (v1_.fFree.map c_S)), (none, .sl (v1_.fParams.map c_S)), (none, .v (.int .i64 v1_.fBody.fOp)), (none, .v (.string v1_.fBody.fName)), (none, .sl (v1_.fBody.fArgs.map Zq.cells)), (none, .v (.bool v1_.fBody.fRec)), (none, .sl (v1_.fBody.fBinds.map Zc.cells)), (none, .sl (v1_.fBody.fKids.map Zo.cells)), (none, .sl (v1_.fBody.fAlts.map Zi.cells))])])
def Zbx.M (r4 : ((List ByteArray))) (e : Zo) (ZK : (List ByteArray)) (ZJ : (List (ByteArray × Int))) (Zp : (List (ByteArray × Bool))) (r : Zd) : Prop :=
 AWP Tryz.prog 53 (Code.sub (Zt Tryz.f43) [1, 1, 1, 1, 1, 1]) (Code.cont Tryz.prog 53 (Zt Tryz.f43) [1, 1, 1, 1, 1, 1] (Zbl tab Tryz.f43.results (Zbo (.tup []) [(1000, [(none, .rf 1001), (none, .rf 1002), ((some (3002, 9)), .sl (r.fout.map c_S))]), (1001, [(none, .ob 167 (r.fbound.map (Zz c_S Zm)))]), (1002, [(none, .ob 169 (r.fseen.map (Zz c_S c_B)))])]))) ⟨[(2, .ptr 2 0), (3, .ptr 3 0), (5, .c (some (5, 9)) (.sl (r4.map c_S)))], [(2, [(none, .pt 1000 0)]), (3, [(none, .v (.int .i64 e.fOp)), (none, .v (.string e.fName)), (none, .sl (e.fArgs.map Zq.cells)), (none, .v (.bool e.fRec)), (none, .sl (e.fBinds.map Zc.cells)), (none, .sl (e.fKids.map Zo.cells)), (none, .sl (e.fAlts.map Zi.cells))]), (1000, [(none, .rf 1001), (none, .rf 1002), ((some (3002, 9)), .sl (ZK.map c_S))]), (1001, [(none, .ob 167 (ZJ.map (Zz c_S Zm)))]), (1002, [(none, .ob 169 (Zp.map (Zz c_S c_B)))])]⟩
def Zcd.M (Zlm : (List ByteArray)) (e : Zo) (r8 : (Zd)) (r : Zd) : Prop :=
 AWP Tryz.prog 53 (Code.sub (Zt Tryz.f43) [1, 1, 1, 1, 1, 1, 1, 1, 1]) (Code.cont Tryz.prog 53 (Zt Tryz.f43) [1, 1, 1, 1, 1, 1, 1, 1, 1] (Zbl tab Tryz.f43.results (Zbo (.tup []) [(1000, [(none, .rf 1001), (none, .rf 1002), ((some (3002, 9)), .sl (r.fout.map c_S))]), (1001, [(none, .ob 167 (r.fbound.map (Zz c_S Zm)))]), (1002, [(none, .ob 169 (r.fseen.map (Zz c_S c_B)))])]))) ⟨[(2, .ptr 2 0), (3, .ptr 3 0), (6, .c (some (6, 9)) (.sl (Zlm.map c_S)))], [(2, [(none, .pt 1000 0)]), (3, [(none, .v (.int .i64 e.fOp)), (none, .v (.string e.fName)), (none, .sl (e.fArgs.map Zq.cells)), (none, .v (.bool e.fRec)), (none, .sl (e.fBinds.map Zc.cells)), (none, .sl (e.fKids.map Zo.cells)), (none, .sl (e.fAlts.map Zi.cells))]), (1000, [(none, .rf 1001), (none, .rf 1002), ((some (3002, 9)), .sl (r8.fout.map c_S))]), (1001, [(none, .ob 167 (r8.fbound.map (Zz c_S Zm)))]), (1002, [(none, .ob 169 (r8.fseen.map (Zz c_S c_B)))])]⟩
def ZaF.M (l : (List ByteArray)) (g2_c0 : Zo) (g2_c1 : Zd) (r : Zd) : Prop :=
 Zn Tryz.prog 78 [.c none (.rf 1003), .c none (.sl (l.map c_S)), .c none (.cl 81 [] [.pt 1000 0, .pt 1001 0])] [(1000, [(none, .v (.int .i64 g2_c0.fOp)), (none, .v (.string g2_c0.fName)), (none, .sl (g2_c0.fArgs.map Zq.cells)), (none, .v (.bool g2_c0.fRec)), (none, .sl (g2_c0.fBinds.map Zc.cells)), (none, .sl (g2_c0.fKids.map Zo.cells)), (none, .sl (g2_c0.fAlts.map Zi.cells))]), (1001, [(none, .pt 1002 0)]), (1002, [(none, .rf 1003), (none, .rf 1004), ((some (3102, 9)), .sl (g2_c1.fout.map c_S))]), (1003, [(none, .ob 167 (g2_c1.fbound.map (Zz c_S Zm)))]), (1004, [(none, .ob 169 (g2_c1.fseen.map (Zz c_S c_B)))])] (fun d b => d = .tup [] ∧ b = [(1000, [(none, .v (.int .i64 g2_c0.fOp)), (none, .v (.string g2_c0.fName)), (none, .sl (g2_c0.fArgs.map Zq.cells)), (none, .v (.bool g2_c0.fRec)), (none, .sl (g2_c0.fBinds.map Zc.cells)), (none, .sl (g2_c0.fKids.map Zo.cells)), (none, .sl (g2_c0.fAlts.map Zi.cells))]), (1001, [(none, .pt 1002 0)]), (1002, [(none, .rf 1003), (none, .rf 1004), ((some (3102, 9)), .sl (r.fout.map c_S))]), (1003, [(none, .ob 167 (r.fbound.map (Zz c_S Zm)))]), (1004, [(none, .ob 169 (r.fseen.map (Zz c_S c_B)))])])
def Z3.M (l : (List ByteArray)) (ZaS : Nat) (g2_c0 : Zo) (g2_c1 : Zd) (Zk : (List (ByteArray × Int))) (ZF : (List ByteArray)) (r : Zd) : Prop :=
 ∀ Zag : List ByteArray, l = Zag ++ ZF → ZaS = Zag.length → l.length ≤ maxLen → AWL Tryz.prog 34 (Code.sub (Zt Tryz.f78) [0, 1, 0, 0]) (Code.cont Tryz.prog 34 (Zt Tryz.f78) [0, 1, 0] (Zbl tab Tryz.f78.results (Zbo (.tup []) [(1000, [(none, .v (.int .i64 g2_c0.fOp)), (none, .v (.string g2_c0.fName)), (none, .sl (g2_c0.fArgs.map Zq.cells)), (none, .v (.bool g2_c0.fRec)), (none, .sl (g2_c0.fBinds.map Zc.cells)), (none, .sl (g2_c0.fKids.map Zo.cells)), (none, .sl (g2_c0.fAlts.map Zi.cells))]), (1001, [(none, .pt 1002 0)]), (1002, [(none, .rf 1003), (none, .rf 1004), ((some (3102, 9)), .sl (r.fout.map c_S))]), (1003, [(none, .ob 167 (r.fbound.map (Zz c_S Zm)))]), (1004, [(none, .ob 169 (r.fseen.map (Zz c_S c_B)))])]))) ⟨[(0, .c none (.rf 1003)), (1, .c none (.sl (l.map c_S))), (2, .c none (.cl 81 [] [.pt 1000 0, .pt 1001 0])), (10, .c none (.sl (l.map c_S))), (11, .c none (.v (.int .i64 ((l.length : Nat) : Int)))), (12, .c none (.v (.int .i64 ((ZaS : Nat) : Int))))], [(1000, [(none, .v (.int .i64 g2_c0.fOp)), (none, .v (.string g2_c0.fName)), (none, .sl (g2_c0.fArgs.map Zq.cells)), (none, .v (.bool g2_c0.fRec)), (none, .sl (g2_c0.fBinds.map Zc.cells)), (none, .sl (g2_c0.fKids.map Zo.cells)), (none, .sl (g2_c0.fAlts.map Zi.cells))]), (1001, [(none, .pt 1002 0)]), (1002, [(none, .rf 1003), (none, .rf 1004), ((some (3102, 9)), .sl (g2_c1.fout.map c_S))]), (1003, [(none, .ob 167 (Zk.map (Zz c_S Zm)))]), (1004, [(none, .ob 169 (g2_c1.fseen.map (Zz c_S c_B)))])]⟩
def Zbv.M (v0_ : Zo) (v1_ : Zd) (r : Zd) : Prop :=
 Zn Tryz.prog 81 [.ptr 1000 0, .ptr 1001 0] [(1000, [(none, .v (.int .i64 v0_.fOp)), (none, .v (.string v0_.fName)), (none, .sl (v0_.fArgs.map Zq.cells)), (none, .v (.bool v0_.fRec)), (none, .sl (v0_.fBinds.map Zc.cells)), (none, .sl (v0_.fKids.map Zo.cells)), (none, .sl (v0_.fAlts.map Zi.cells))]), (1001, [(none, .pt 1002 0)]), (1002, [(none, .rf 1003), (none, .rf 1004), ((some (3102, 9)), .sl (v1_.fout.map c_S))]), (1003, [(none, .ob 167 (v1_.fbound.map (Zz c_S Zm)))]), (1004, [(none, .ob 169 (v1_.fseen.map (Zz c_S c_B)))])] (fun d b => d = .tup [] ∧ b = [(1000, [(none, .v (.int .i64 v0_.fOp)), (none, .v (.string v0_.fName)), (none, .sl (v0_.fArgs.map Zq.cells)), (none, .v (.bool v0_.fRec)), (none, .sl (v0_.fBinds.map Zc.cells)), (none, .sl (v0_.fKids.map Zo.cells)), (none, .sl (v0_.fAlts.map Zi.cells))]), (1001, [(none, .pt 1002 0)]), (1002, [(none, .rf 1003), (none, .rf 1004), ((some (3102, 9)), .sl (r.fout.map c_S))]), (1003, [(none, .ob 167 (r.fbound.map (Zz c_S Zm)))]), (1004, [(none, .ob 169 (r.fseen.map (Zz c_S c_B)))])])
def Zbc.M (v0_ : Zo) (x_7 : Nat) (Z1 : (List ByteArray)) (Zk : (List (ByteArray × Int))) (Zv : (List (ByteArray × Bool))) (ZcZ : (List Zi)) (r : Zd) : Prop :=
 ∀ Zd2 : List Zi, v0_.fAlts = Zd2 ++ ZcZ → x_7 = Zd2.length → v0_.fAlts.length ≤ maxLen → AWL Tryz.prog 20 (Code.sub (Zt Tryz.f81) [1, 0, 0]) (Code.cont Tryz.prog 20 (Zt Tryz.f81) [1, 0] (Zbl tab Tryz.f81.results (Zbo (.tup []) [(1000, [(none, .v (.int .i64 v0_.fOp)), (none, .v (.string v0_.fName)), (none, .sl (v0_.fArgs.map Zq.cells)), (none, .v (.bool v0_.fRec)), (none, .sl (v0_.fBinds.map Zc.cells)), (none, .sl (v0_.fKids.map Zo.cells)), (none, .sl (v0_.fAlts.map Zi.cells))]), (1001, [(none, .pt 1002 0)]), (1002, [(none, .rf 1003), (none, .rf 1004), ((some (3102, 9)), .sl (r.fout.map c_S))]), (1003, [(none, .ob 167 (r.fbound.map (Zz c_S Zm)))]), (1004, [(none, .ob 169 (r.fseen.map (Zz c_S c_B)))])]))) ⟨[(1, .ptr 1001 0), (5, .c none (.sl (v0_.fAlts.map Zi.cells))), (6, .c none (.v (.int .i64 ((v0_.fAlts.length : Nat) : Int)))), (7, .c none (.v (.int .i64 ((x_7 : Nat) : Int))))], [(1000, [(none, .v (.int .i64 v0_.fOp)), (none, .v (.string v0_.fName)), (none, .sl (v0_.fArgs.map Zq.cells)), (none, .v (.bool v0_.fRec)), (none, .sl (v0_.fBinds.map Zc.cells)), (none, .sl (v0_.fKids.map Zo.cells)), (none, .sl (v0_.fAlts.map Zi.cells))]), (1001, [(none, .pt 1002 0)]), (1002, [(none, .rf 1003), (none, .rf 1004), ((some (3102, 9)), .sl (Z1.map c_S))]), (1003, [(none, .ob 167 (Zk.map (Zz c_S Zm)))]), (1004, [(none, .ob 169 (Zv.map (Zz c_S c_B)))])]⟩
def Zac.M (l : (List ByteArray)) (g2_c0 : Zd) (g2_c1 : Zi) (r : Zd) : Prop :=
 Zn Tryz.prog 78 [.c none (.rf 1002), .c none (.sl (l.map c_S)), .c none (.cl 82 [] [.pt 1000 0, .pt 1004 0])] [(1000, [(none, .pt 1001 0)]), (1001, [(none, .rf 1002), (none, .rf 1003), ((some (3052, 9)), .sl (g2_c0.fout.map c_S))]), (1002, [(none, .ob 167 (g2_c0.fbound.map (Zz c_S Zm)))]), (1003, [(none, .ob 169 (g2_c0.fseen.map (Zz c_S c_B)))]), (1004, [(none, .v (.int .i64 g2_c1.fOp)), (none, .v (.string g2_c1.fName)), (none, .v (.int .i64 g2_c1.fN)), (none, .sl (g2_c1.fVars.map c_S)), (none, .v (.int .i64 g2_c1.fBody.fOp)), (none, .v (.string g2_c1.fBody.fName)), (none, .sl (g2_c1.fBody.fArgs.map Zq.cells)), (none, .v (.bool g2_c1.fBody.fRec)), (none, .sl (g2_c1.fBody.fBinds.map Zc.cells)), (none, .sl (g2_c1.fBody.fKids.map Zo.cells)), (none, .sl (g2_c1.fBody.fAlts.map Zi.cells))])] (fun d b => d = .tup [] ∧ b = [(1000, [(none, .pt 1001 0)]), (1001, [(none, .rf 1002), (none, .rf 1003), ((some (3052, 9)), .sl (r.fout.map c_S))]), (1002, [(none, .ob 167 (r.fbound.map (Zz c_S Zm)))]), (1003, [(none, .ob 169 (r.fseen.map (Zz c_S c_B)))]), (1004, [(none, .v (.int .i64 g2_c1.fOp)), (none, .v (.string g2_c1.fName)), (none, .v (.int .i64 g2_c1.fN)), (none, .sl (g2_c1.fVars.map c_S)), (none, .v (.int .i64 g2_c1.fBody.fOp)), (none, .v (.string g2_c1.fBody.fName)), (none, .sl (g2_c1.fBody.fArgs.map Zq.cells)), (none, .v (.bool g2_c1.fBody.fRec)), (none, .sl (g2_c1.fBody.fBinds.map Zc.cells)), (none, .sl (g2_c1.fBody.fKids.map Zo.cells)), (none, .sl (g2_c1.fBody.fAlts.map Zi.cells))])])
def ZW.M (l : (List ByteArray)) (ZaS : Nat) (g2_c0 : Zd) (Zp : (List (ByteArray × Int))) (g2_c1 : Zi) (ZF : (List ByteArray)) (r : Zd) : Prop :=
 ∀ Zag : List ByteArray, l = Zag ++ ZF → ZaS = Zag.length → l.length ≤ maxLen → AWL Tryz.prog 34 (Code.sub (Zt Tryz.f78) [0, 1, 0, 0]) (Code.cont Tryz.prog 34 (Zt Tryz.f78) [0, 1, 0] (Zbl tab Tryz.f78.results (Zbo (.tup []) [(1000, [(none, .pt 1001 0)]), (1001, [(none, .rf 1002), (none, .rf 1003), ((some (3052, 9)), .sl (r.fout.map c_S))]), (1002, [(none, .ob 167 (r.fbound.map (Zz c_S Zm)))]), (1003, [(none, .ob 169 (r.fseen.map (Zz c_S c_B)))]), (1004, [(none, .v (.int .i64 g2_c1.fOp)), (none, .v (.string g2_c1.fName)), (none, .v (.int .i64 g2_c1.fN)), (none, .sl (g2_c1.fVars.map c_S)), (none, .v (.int .i64 g2_c1.fBody.fOp)), (none, .v (.string g2_c1.fBody.fName)), (none, .sl (g2_c1.fBody.fArgs.map Zq.cells)), (none, .v (.bool g2_c1.fBody.fRec)), (none, .sl (g2_c1.fBody.fBinds.map Zc.cells)), (none, .sl (g2_c1.fBody.fKids.map Zo.cells)), (none, .sl (g2_c1.fBody.fAlts.map Zi.cells))])]))) ⟨[(0, .c none (.rf 1002)), (1, .c none (.sl (l.map c_S))), (2, .c none (.cl 82 [] [.pt 1000 0, .pt 1004 0])), (10, .c none (.sl (l.map c_S))), (11, .c none (.v (.int .i64 ((l.length : Nat) : Int)))), (12, .c none (.v (.int .i64 ((ZaS : Nat) : Int))))], [(1000, [(none, .pt 1001 0)]), (1001, [(none, .rf 1002), (none, .rf 1003), ((some (3052, 9)), .sl (g2_c0.fout.map c_S))]), (1002, [(none, .ob 167 (Zp.map (Zz c_S Zm)))]), (1003, [(none, .ob 169 (g2_c0.fseen.map (Zz c_S c_B)))]), (1004, [(none, .v (.int .i64 g2_c1.fOp)), (none, .v (.string g2_c1.fName)), (none, .v (.int .i64 g2_c1.fN)), (none, .sl (g2_c1.fVars.map c_S)), (none, .v (.int .i64 g2_c1.fBody.fOp)), (none, .v (.string g2_c1.fBody.fName)), (none, .sl (g2_c1.fBody.fArgs.map Zq.cells)), (none, .v (.bool g2_c1.fBody.fRec)), (none, .sl (g2_c1.fBody.fBinds.map Zc.cells)), (none, .sl (g2_c1.fBody.fKids.map Zo.cells)), (none, .sl (g2_c1.fBody.fAlts.map Zi.cells))])]⟩
def Za7.M (v0_ : Zd) (v1_ : Zi) (r : Zd) : Prop :=
 Zn Tryz.prog 82 [.ptr 1000 0, .ptr 1004 0] [(1000, [(none, .pt 1001 0)]), (1001, [(none, .rf 1002), (none, .rf 1003), ((some (3052, 9)), .sl (v0_.fout.map c_S))]), (1002, [(none, .ob 167 (v0_.fbound.map (Zz c_S Zm)))]), (1003, [(none, .ob 169 (v0_.fseen.map (Zz c_S c_B)))]), (1004, [(none, .v (.int .i64 v1_.fOp)), (none, .v (.string v1_.fName)), (none, .v (.int .i64 v1_.fN)), (none, .sl (v1_.fVars.map c_S)), (none, .v (.int .i64 v1_.fBody.fOp)), (none, .v (.string v1_.fBody.fName)), (none, .sl (v1_.fBody.fArgs.map Zq.cells)), (none, .v (.bool v1_.fBody.fRec)), (none, .sl (v1_.fBody.fBinds.map Zc.cells)), (none, .sl (v1_.fBody.fKids.map Zo.cells)), (none, .sl (v1_.fBody.fAlts.map Zi.cells))])] (fun d b => d = .tup [] ∧ b = [(1000, [(none, .pt 1001 0)]), (1001, [(none, .rf 1002), (none, .rf 1003), ((some (3052, 9)), .sl (r.fout.map c_S))]), (1002, [(none, .ob 167 (r.fbound.map (Zz c_S Zm)))]), (1003, [(none, .ob 169 (r.fseen.map (Zz c_S c_B)))]), (1004, [(none, .v (.int .i64 v1_.fOp)), (none, .v (.string v1_.fName)), (none, .v (.int .i64 v1_.fN)), (none, .sl (v1_.fVars.map c_S)), (none, .v (.int .i64 v1_.fBody.fOp)), (none, .v (.string v1_.fBody.fName)), (none, .sl (v1_.fBody.fArgs.map Zq.cells)), (none, .v (.bool v1_.fBody.fRec)), (none, .sl (v1_.fBody.fBinds.map Zc.cells)), (none, .sl (v1_.fBody.fKids.map Zo.cells)), (none, .sl (v1_.fBody.fAlts.map Zi.cells))])])
def ZaG.M (l : (List ByteArray)) (g2_c0 : Zo) (g2_c1 : Zd) (r : Zd) : Prop :=
 Zn Tryz.prog 78 [.c none (.rf 1003), .c none (.sl (l.map c_S)), .c none (.cl 80 [] [.pt 1000 0, .pt 1001 0])] [(1000, [(none, .v (.int .i64 g2_c0.fOp)), (none, .v (.string g2_c0.fName)), (none, .sl (g2_c0.fArgs.map Zq.cells)), (none, .v (.bool g2_c0.fRec)), (none, .sl (g2_c0.fBinds.map Zc.cells)), (none, .sl (g2_c0.fKids.map Zo.cells)), (none, .sl (g2_c0.fAlts.map Zi.cells))]), (1001, [(none, .pt 1002 0)]), (1002, [(none, .rf 1003), (none, .rf 1004), ((some (3102, 9)), .sl (g2_c1.fout.map c_S))]), (1003, [(none, .ob 167 (g2_c1.fbound.map (Zz c_S Zm)))]), (1004, [(none, .ob 169 (g2_c1.fseen.map (Zz c_S c_B)))])] (fun d b => d = .tup [] ∧ b = [(1000, [(none, .v (.int .i64 g2_c0.fOp)), (none, .v (.string g2_c0.fName)), (none, .sl (g2_c0.fArgs.map Zq.cells)), (none, .v (.bool g2_c0.fRec)), (none, .sl (g2_c0.fBinds.map Zc.cells)), (none, .sl (g2_c0.fKids.map Zo.cells)), (none, .sl (g2_c0.fAlts.map Zi.cells))]), (1001, [(none, .pt 1002 0)]), (1002, [(none, .rf 1003), (none, .rf 1004), ((some (3102, 9)), .sl (r.fout.map c_S))]), (1003, [(none, .ob 167 (r.fbound.map (Zz c_S Zm)))]), (1004, [(none, .ob 169 (r.fseen.map (Zz c_S c_B)))])])
def Z2.M (l : (List ByteArray)) (ZaS : Nat) (g2_c0 : Zo) (g2_c1 : Zd) (Zk : (List (ByteArray × Int))) (ZF : (List ByteArray)) (r : Zd) : Prop :=
 ∀ Zag : List ByteArray, l = Zag ++ ZF → ZaS = Zag.length → l.length ≤ maxLen → AWL Tryz.prog 34 (Code.sub (Zt Tryz.f78) [0, 1, 0, 0]) (Code.cont Tryz.prog 34 (Zt Tryz.f78) [0, 1, 0] (Zbl tab Tryz.f78.results (Zbo (.tup []) [(1000, [(none, .v (.int .i64 g2_c0.fOp)), (none, .v (.string g2_c0.fName)), (none, .sl (g2_c0.fArgs.map Zq.cells)), (none, .v (.bool g2_c0.fRec)), (none, .sl (g2_c0.fBinds.map Zc.cells)), (none, .sl (g2_c0.fKids.map Zo.cells)), (none, .sl (g2_c0.fAlts.map Zi.cells))]), (1001, [(none, .pt 1002 0)]), (1002, [(none, .rf 1003), (none, .rf 1004), ((some (3102, 9)), .sl (r.fout.map c_S))]), (1003, [(none, .ob 167 (r.fbound.map (Zz c_S Zm)))]), (1004, [(none, .ob 169 (r.fseen.map (Zz c_S c_B)))])]))) ⟨[(0, .c none (.rf 1003)), (1, .c none (.sl (l.map c_S))), (2, .c none (.cl 80 [] [.pt 1000 0, .pt 1001 0])), (10, .c none (.sl (l.map c_S))), (11, .c none (.v (.int .i64 ((l.length : Nat) : Int)))), (12, .c none (.v (.int .i64 ((ZaS : Nat) : Int))))], [(1000, [(none, .v (.int .i64 g2_c0.fOp)), (none, .v (.string g2_c0.fName)), (none, .sl (g2_c0.fArgs.map Zq.cells)), (none, .v (.bool g2_c0.fRec)), (none, .sl (g2_c0.fBinds.map Zc.cells)), (none, .sl (g2_c0.fKids.map Zo.cells)), (none, .sl (g2_c0.fAlts.map Zi.cells))]), (1001, [(none, .pt 1002 0)]), (1002, [(none, .rf 1003), (none, .rf 1004), ((some (3102, 9)), .sl (g2_c1.fout.map c_S))]), (1003, [(none, .ob 167 (Zk.map (Zz c_S Zm)))]), (1004, [(none, .ob 169 (g2_c1.fseen.map (Zz c_S c_B)))])]⟩
def Zbu.M (v0_ : Zo) (v1_ : Zd) (r : Zd) : Prop :=
 Zn Tryz.prog 80 [.ptr 1000 0, .ptr 1001 0] [(1000, [(none, .v (.int .i64 v0_.fOp)), (none, .v (.string v0_.fName)), (none, .sl (v0_.fArgs.map Zq.cells)), (none, .v (.bool v0_.fRec)), (none, .sl (v0_.fBinds.map Zc.cells)), (none, .sl (v0_.fKids.map Zo.cells)), (none, .sl (v0_.fAlts.map Zi.cells))]), (1001, [(none, .pt 1002 0)]), (1002, [(none, .rf 1003), (none, .rf 1004), ((some (3102, 9)), .sl (v1_.fout.map c_S))]), (1003, [(none, .ob 167 (v1_.fbound.map (Zz c_S Zm)))]), (1004, [(none, .ob 169 (v1_.fseen.map (Zz c_S c_B)))])] (fun d b => d = .tup [] ∧ b = [(1000, [(none, .v (.int .i64 v0_.fOp)), (none, .v (.string v0_.fName)), (none, .sl (v0_.fArgs.map Zq.cells)), (none, .v (.bool v0_.fRec)), (none, .sl (v0_.fBinds.map Zc.cells)), (none, .sl (v0_.fKids.map Zo.cells)), (none, .sl (v0_.fAlts.map Zi.cells))]), (1001, [(none, .pt 1002 0)]), (1002, [(none, .rf 1003), (none, .rf 1004), ((some (3102, 9)), .sl (r.fout.map c_S))]), (1003, [(none, .ob 167 (r.fbound.map (Zz c_S Zm)))]), (1004, [(none, .ob 169 (r.fseen.map (Zz c_S c_B)))])])
def ZaT.M (v0_ : Zo) (x_7 : Nat) (Z1 : (List ByteArray)) (Zk : (List (ByteArray × Int))) (Zv : (List (ByteArray × Bool))) (ZcZ : (List Zo)) (r : Zd) : Prop :=
 ∀ Zd2 : List Zo, v0_.fKids = Zd2 ++ ZcZ → x_7 = Zd2.length → v0_.fKids.length ≤ maxLen → AWL Tryz.prog 15 (Code.sub (Zt Tryz.f80) [1, 0, 0]) (Code.cont Tryz.prog 15 (Zt Tryz.f80) [1, 0] (Zbl tab Tryz.f80.results (Zbo (.tup []) [(1000, [(none, .v (.int .i64 v0_.fOp)), (none, .v (.string v0_.fName)), (none, .sl (v0_.fArgs.map Zq.cells)), (none, .v (.bool v0_.fRec)), (none, .sl (v0_.fBinds.map Zc.cells)), (none, .sl (v0_.fKids.map Zo.cells)), (none, .sl (v0_.fAlts.map Zi.cells))]), (1001, [(none, .pt 1002 0)]), (1002, [(none, .rf 1003), (none, .rf 1004), ((some (3102, 9)), .sl (r.fout.map c_S))]), (1003, [(none, .ob 167 (r.fbound.map (Zz c_S Zm)))]), (1004, [(none, .ob 169 (r.fseen.map (Zz c_S c_B)))])]))) ⟨[(1, .ptr 1001 0), (5, .c none (.sl (v0_.fKids.map Zo.cells))), (6, .c none (.v (.int .i64 ((v0_.fKids.length : Nat) : Int)))), (7, .c none (.v (.int .i64 ((x_7 : Nat) : Int))))], [(1000, [(none, .v (.int .i64 v0_.fOp)), (none, .v (.string v0_.fName)), (none, .sl (v0_.fArgs.map Zq.cells)), (none, .v (.bool v0_.fRec)), (none, .sl (v0_.fBinds.map Zc.cells)), (none, .sl (v0_.fKids.map Zo.cells)), (none, .sl (v0_.fAlts.map Zi.cells))]), (1001, [(none, .pt 1002 0)]), (1002, [(none, .rf 1003), (none, .rf 1004), ((some (3102, 9)), .sl (Z1.map c_S))]), (1003, [(none, .ob 167 (Zk.map (Zz c_S Zm)))]), (1004, [(none, .ob 169 (Zv.map (Zz c_S c_B)))])]⟩
def Zaq.M (l : (List ByteArray)) (g2_c0 : Zo) (g2_c1 : Zd) (r : Zd) : Prop :=
 Zn Tryz.prog 78 [.c none (.rf 1003), .c none (.sl (l.map c_S)), .c none (.cl 77 [] [.pt 1000 0, .pt 1001 0])] [(1000, [(none, .v (.int .i64 g2_c0.fOp)), (none, .v (.string g2_c0.fName)), (none, .sl (g2_c0.fArgs.map Zq.cells)), (none, .v (.bool g2_c0.fRec)), (none, .sl (g2_c0.fBinds.map Zc.cells)), (none, .sl (g2_c0.fKids.map Zo.cells)), (none, .sl (g2_c0.fAlts.map Zi.cells))]), (1001, [(none, .pt 1002 0)]), (1002, [(none, .rf 1003), (none, .rf 1004), ((some (3102, 9)), .sl (g2_c1.fout.map c_S))]), (1003, [(none, .ob 167 (g2_c1.fbound.map (Zz c_S Zm)))]), (1004, [(none, .ob 169 (g2_c1.fseen.map (Zz c_S c_B)))])] (fun d b => d = .tup [] ∧ b = [(1000, [(none, .v (.int .i64 g2_c0.fOp)), (none, .v (.string g2_c0.fName)), (none, .sl (g2_c0.fArgs.map Zq.cells)), (none, .v (.bool g2_c0.fRec)), (none, .sl (g2_c0.fBinds.map Zc.cells)), (none, .sl (g2_c0.fKids.map Zo.cells)), (none, .sl (g2_c0.fAlts.map Zi.cells))]), (1001, [(none, .pt 1002 0)]), (1002, [(none, .rf 1003), (none, .rf 1004), ((some (3102, 9)), .sl (r.fout.map c_S))]), (1003, [(none, .ob 167 (r.fbound.map (Zz c_S Zm)))]), (1004, [(none, .ob 169 (r.fseen.map (Zz c_S c_B)))])])
def Z4.M (l : (List ByteArray)) (ZaS : Nat) (g2_c0 : Zo) (g2_c1 : Zd) (Zk : (List (ByteArray × Int))) (ZF : (List ByteArray)) (r : Zd) : Prop :=
 ∀ Zag : List ByteArray, l = Zag ++ ZF → ZaS = Zag.length → l.length ≤ maxLen → AWL Tryz.prog 34 (Code.sub (Zt Tryz.f78) [0, 1, 0, 0]) (Code.cont Tryz.prog 34 (Zt Tryz.f78) [0, 1, 0] (Zbl tab Tryz.f78.results (Zbo (.tup []) [(1000, [(none, .v (.int .i64 g2_c0.fOp)), (none, .v (.string g2_c0.fName)), (none, .sl (g2_c0.fArgs.map Zq.cells)), (none, .v (.bool g2_c0.fRec)), (none, .sl (g2_c0.fBinds.map Zc.cells)), (none, .sl (g2_c0.fKids.map Zo.cells)), (none, .sl (g2_c0.fAlts.map Zi.cells))]), (1001, [(none, .pt 1002 0)]), (1002, [(none, .rf 1003), (none, .rf 1004), ((some (3102, 9)), .sl (r.fout.map c_S))]), (1003, [(none, .ob 167 (r.fbound.map (Zz c_S Zm)))]), (1004, [(none, .ob 169 (r.fseen.map (Zz c_S c_B)))])]))) ⟨[(0, .c none (.rf 1003)), (1, .c none (.sl (l.map c_S))), (2, .c none (.cl 77 [] [.pt 1000 0, .pt 1001 0])), (10, .c none (.sl (l.map c_S))), (11, .c none (.v (.int .i64 ((l.length : Nat) : Int)))), (12, .c none (.v (.int .i64 ((ZaS : Nat) : Int))))], [(1000, [(none, .v (.int .i64 g2_c0.fOp)), (none, .v (.string g2_c0.fName)), (none, .sl (g2_c0.fArgs.map Zq.cells)), (none, .v (.bool g2_c0.fRec)), (none, .sl (g2_c0.fBinds.map Zc.cells)), (none, .sl (g2_c0.fKids.map Zo.cells)), (none, .sl (g2_c0.fAlts.map Zi.cells))]), (1001, [(none, .pt 1002 0)]), (1002, [(none, .rf 1003), (none, .rf 1004), ((some (3102, 9)), .sl (g2_c1.fout.map c_S))]), (1003, [(none, .ob 167 (Zk.map (Zz c_S Zm)))]), (1004, [(none, .ob 169 (g2_c1.fseen.map (Zz c_S c_B)))])]⟩
theorem ZlO : (∀ (f : Zd) (e : Zo), ∀ r, ZaH f e = some r → ZaH.M f e r) ∧ (∀ (e : Zo) (ZK : (List ByteArray)) (ZJ : (List (ByteArray × Int))) (Zp : (List (ByteArray × Bool))), ∀ r, Zcc e ZK ZJ Zp = some r → Zcc.M e ZK ZJ Zp r) ∧ (∀ (v0_ : Zo) (v1_ : Zd), ∀ r, ZaP v0_ v1_ = some r → ZaP.M v0_ v1_ r) ∧ (∀ (v0_ : Zo) (x_7 : Nat) (Z1 : (List ByteArray)) (Zk : (List (ByteArray × Int))) (Zv : (List (ByteArray × Bool))) (ZcZ : (List Zc)), ∀ r, Zba v0_ x_7 Z1 Zk Zv ZcZ = some r → Zba.M v0_ x_7 Z1 Zk Zv ZcZ r) ∧ (∀ (l : (List ByteArray)) (g2_c0 : Zd) (g2_c1 : Zc), ∀ r, Zaa l g2_c0 g2_c1 = some r → Zaa.M l g2_c0 g2_c1 r) ∧ (∀ (l : (List ByteArray)) (ZaS : Nat) (g2_c0 : Zd) (Zp : (List (ByteArray × Int))) (g2_c1 : Zc) (ZF : (List ByteArray)), ∀ r, ZX l ZaS g2_c0 Zp g2_c1 ZF = some r → ZX.M l ZaS g2_c0 Zp g2_c1 ZF r) ∧ (∀ (v0_ : Zd) (v1_ : Zc), ∀ r, Za5 v0_ v1_ = some r → Za5.M v0_ v1_ r) ∧ (∀ (r4 : ((List ByteArray))) (e : Zo) (ZK : (List ByteArray)) (ZJ : (List (ByteArray × Int))) (Zp : (List (ByteArray × Bool))), ∀ r, Zbx r4 e ZK ZJ Zp = some r → Zbx.M r4 e ZK ZJ Zp r) ∧ (∀ (Zlm : (List ByteArray)) (e : Zo) (r8 : (Zd)), ∀ r, Zcd Zlm e r8 = some r → Zcd.M Zlm e r8 r) ∧ (∀ (l : (List ByteArray)) (g2_c0 : Zo) (g2_c1 : Zd), ∀ r, ZaF l g2_c0 g2_c1 = some r → ZaF.M l g2_c0 g2_c1 r) ∧ (∀ (l : (List ByteArray)) (ZaS : Nat) (g2_c0 : Zo) (g2_c1 : Zd) (Zk : (List (ByteArray × Int))) (ZF : (List ByteArray)), ∀ r, Z3 l ZaS g2_c0 g2_c1 Zk ZF = some r → Z3.M l ZaS g2_c0 g2_c1 Zk ZF r) ∧ (∀ (v0_ : Zo) (v1_ : Zd), ∀ r, Zbv v0_ v1_ = some r → Zbv.M v0_ v1_ r) ∧ (∀ (v0_ : Zo) (x_7 : Nat) (Z1 : (List ByteArray)) (Zk : (List (ByteArray × Int))) (Zv : (List (ByteArray × Bool))) (ZcZ : (List Zi)), ∀ r, Zbc v0_ x_7 Z1 Zk Zv ZcZ = some r → Zbc.M v0_ x_7 Z1 Zk Zv ZcZ r) ∧ (∀ (l : (List ByteArray)) (g2_c0 : Zd) (g2_c1 : Zi), ∀ r, Zac l g2_c0 g2_c1 = some r → Zac.M l g2_c0 g2_c1 r) ∧ (∀ (l : (List ByteArray)) (ZaS : Nat) (g2_c0 : Zd) (Zp : (List (ByteArray × Int))) (g2_c1 : Zi) (ZF : (List ByteArray)), ∀ r, ZW l ZaS g2_c0 Zp g2_c1 ZF = some r → ZW.M l ZaS g2_c0 Zp g2_c1 ZF r) ∧ (∀ (v0_ : Zd) (v1_ : Zi), ∀ r, Za7 v0_ v1_ = some r → Za7.M v0_ v1_ r) ∧ (∀ (l : (List ByteArray)) (g2_c0 : Zo) (g2_c1 : Zd), ∀ r, ZaG l g2_c0 g2_c1 = some r → ZaG.M l g2_c0 g2_c1 r) ∧ (∀ (l : (List ByteArray)) (ZaS : Nat) (g2_c0 : Zo) (g2_c1 : Zd) (Zk : (List (ByteArray × Int))) (ZF : (List ByteArray)), ∀ r, Z2 l ZaS g2_c0 g2_c1 Zk ZF = some r → Z2.M l ZaS g2_c0 g2_c1 Zk ZF r) ∧ (∀ (v0_ : Zo) (v1_ : Zd), ∀ r, Zbu v0_ v1_ = some r → Zbu.M v0_ v1_ r) ∧ (∀ (v0_ : Zo) (x_7 : Nat) (Z1 : (List ByteArray)) (Zk : (List (ByteArray × Int))) (Zv : (List (ByteArray × Bool))) (ZcZ : (List Zo)), ∀ r, ZaT v0_ x_7 Z1 Zk Zv ZcZ = some r → ZaT.M v0_ x_7 Z1 Zk Zv ZcZ r) ∧ (∀ (l : (List ByteArray)) (g2_c0 : Zo) (g2_c1 : Zd), ∀ r, Zaq l g2_c0 g2_c1 = some r → Zaq.M l g2_c0 g2_c1 r) ∧ (∀ (l : (List ByteArray)) (ZaS : Nat) (g2_c0 : Zo) (g2_c1 : Zd) (Zk : (List (ByteArray × Int))) (ZF : (List ByteArray)), ∀ r, Z4 l ZaS g2_c0 g2_c1 Zk ZF = some r → Z4.M l ZaS g2_c0 g2_c1 Zk ZF r) := by
 refine ZaH.mutual_partial_correctness ZaH.M Zcc.M ZaP.M Zba.M Zaa.M ZX.M Za5.M Zbx.M Zcd.M ZaF.M Z3.M Zbv.M Zbc.M Zac.M ZW.M Za7.M ZaG.M Z2.M Zbu.M ZaT.M Zaq.M Z4.M ?_ ?_ ?_ ?_ ?_ ?_ ?_ ?_ ?_ ?_ ?_ ?_ ?_ ?_ ?_ ?_ ?_ ?_ ?_ ?_ ?_ ?_
 ·intro stg_finder_expr_k1' Zhe f e r hF
  unfold ZaH.M
  refine en Tryz.func43 ?_
  refine AWP.seq ?_
  refine ns ?_
  refine AWP.seq ?_
  refine AWP.seq ?_
  refine ns ?_
  refine nw ?_
  refine Zw hF (fun Zhw hF => ?_) (fun Zhw hF => ?_)
  ·obtain ⟨r16, ZqH, hF⟩ := bind_some hF
   refine ns ?_
   refine Exists.intro [] (Exists.intro [(1000, 1000), (1001, 1001), (1002, 1002)] (Exists.intro [] ?_))
   refine st ?_
   refine cm (Zn.weak (rn [(3002, 3002)]) (ZiW f e.fName _ ZqH) rfl (WS.mk (tp (tc Ze)) (Za rfl (cc (cc (Zaf rfl (WE.refl _) Zb))) (Za rfl (cc Zb) (Za rfl (cc Zb) Zf))))) ?_
   refine st ?_
   refine AWP.weak (rn [(3002, 3002)]) ?_ (Zhe e r16.fout r16.fbound r16.fseen _ hF)
   exact (WS.mk (tp (tp Ze)) (Za rfl (cc Zb) (Za rfl (cc (cc (cc (cc (cc (cc (cc Zb))))))) (Za rfl (cc (cc (Zaf rfl (WE.refl _) Zb))) (Za rfl (cc Zb) (Za rfl (cc Zb) Zf))))))
  ·refine nw ?_
   refine AWP.weak (rn [(3002, 3002)]) ?_ (Zhe e f.fout f.fbound f.fseen _ hF)
   exact (WS.mk (tp (tp Ze)) (Za rfl (cc Zb) (Za rfl (cc (cc (cc (cc (cc (cc (cc Zb))))))) (Za rfl (cc (cc (Zaf rfl (WE.refl _) Zb))) (Za rfl (cc Zb) (Za rfl (cc Zb) Zf))))))
 ·intro stg_finder_expr_1_' stg_finder_expr_k2' stg_scope_with_stg_finder_expr_1' Ze8 Zhg Zgl e ZK ZJ Zp r hF
  unfold Zcc.M
  refine AWP.seq ?_
  obtain ⟨r3, hr3, hF⟩ := bind_some hF
  refine ns ?_
  refine Exists.intro [] (Exists.intro [(1000, 1000), (1001, 1001), (1002, 1002)] (Exists.intro [] ?_))
  refine st ?_
  refine cm (Zn.weak (rn [(3002, 3002)]) (ZlN (Zd.mk ZJ Zp ZK) e.fArgs _ hr3) rfl (WS.mk (tp (tc Ze)) (Za rfl (cc (cc (Zaf rfl (WE.refl _) Zb))) (Za rfl (cc Zb) (Za rfl (cc Zb) Zf))))) ?_
  refine st ?_
  refine AWP.seq ?_
  refine ns ?_
  refine AWP.seq ?_
  obtain ⟨r4, hr4, hF⟩ := bind_some hF
  refine ns ?_
  refine e3 ?_
  refine st ?_
  refine cm (Zn.weak (rn []) (ZjP e.fBinds _ hr4) rfl (WS.mk (tc Ze) Zf)) ?_
  refine st ?_
  refine AWP.seq ?_
  refine AWP.seq ?_
  refine ns ?_
  refine nw ?_
  refine Zw hF (fun Zck hF => ?_) (fun Zck hF => ?_)
  ·obtain ⟨r13, ZuT, hF⟩ := bind_some hF
   refine ns ?_
   refine Exists.intro [21] (Exists.intro [(3, 1000), (2, 1001), (1000, 1002), (1001, 1003), (1002, 1004)] (Exists.intro [] ?_))
   refine st ?_
   refine cm (Zn.weak (rn [(3002, 3102)]) (Zgl r4 e r3 _ ZuT) rfl (WS.mk (tc (tc (tc Ze))) (Za rfl (cc (cc (cc (cc (cc (cc (cc Zb))))))) (Za rfl (cc Zb) (Za rfl (cc (cc (Zaf rfl (WE.refl _) Zb))) (Za rfl (cc Zb) (Za rfl (cc Zb) Zf))))))) ?_
   refine st ?_
   refine AWP.weak (rn [(21, 5), (3102, 3002)]) ?_ (Zhg r4 e r13.fout r13.fbound r13.fseen _ hF)
   exact (WS.mk (tp (tp (Zj (ZH rfl (WE.refl _)) Ze))) (Za rfl (cc Zb) (Za rfl (cc (cc (cc (cc (cc (cc (cc Zb))))))) (Za rfl (cc (cc (Zaf rfl (WE.refl _) Zb))) (Za rfl (cc Zb) (Za rfl (cc Zb) Zf))))))
  ·obtain ⟨r14, Zm8, hF⟩ := bind_some hF
   refine ns ?_
   refine Exists.intro [] (Exists.intro [(3, 1000), (2, 1001), (1000, 1002), (1001, 1003), (1002, 1004)] (Exists.intro [] ?_))
   refine st ?_
   refine cm (Zn.weak (rn [(3002, 3102)]) (Ze8 e r3 _ Zm8) rfl (WS.mk (tp (tp Ze)) (Za rfl (cc (cc (cc (cc (cc (cc (cc Zb))))))) (Za rfl (cc Zb) (Za rfl (cc (cc (Zaf rfl (WE.refl _) Zb))) (Za rfl (cc Zb) (Za rfl (cc Zb) Zf))))))) ?_
   refine st ?_
   refine AWP.weak (rn [(21, 5), (3102, 3002)]) ?_ (Zhg r4 e r14.fout r14.fbound r14.fseen _ hF)
   exact (WS.mk (tp (tp (Zj (ZH rfl (WE.refl _)) Ze))) (Za rfl (cc Zb) (Za rfl (cc (cc (cc (cc (cc (cc (cc Zb))))))) (Za rfl (cc (cc (Zaf rfl (WE.refl _) Zb))) (Za rfl (cc Zb) (Za rfl (cc Zb) Zf))))))
 ·intro stg_finder_expr_1__l1' ZeA v0_ v1_ r hF
  unfold ZaP.M
  refine en Tryz.func77 ?_
  refine AWP.seq ?_
  refine ns ?_
  intro hlen1
  (try rw [List.length_map] at hlen1)
  (try rw [List.length_map])
  refine st ?_
  refine AWP.block ?_
  refine AWP.loop ?_
  refine AWL.weak (rn [(3102, 3102)]) ?_ (ZeA v0_ 0 v1_.fout v1_.fbound v1_.fseen v0_.fBinds _ hF ([]) rfl rfl hlen1)
  exact (WS.mk (tp (tc (tc (tc Ze)))) (Za rfl (cc (cc (cc (cc (cc (cc (cc Zb))))))) (Za rfl (cc Zb) (Za rfl (cc (cc (Zaf rfl (WE.refl _) Zb))) (Za rfl (cc Zb) (Za rfl (cc Zb) Zf))))))
 ·intro stg_finder_expr_1__l1' stg_scope_with_stg_finder_expr_1_1' ZeA ZfY v0_ x_7 Z1 Zk Zv ZcZ r hF
  unfold Zba.M
  intro Zd2 Zik Zim hlen1
  refine AWL.step ?_
  refine AWP.seq ?_
  refine ns ?_
  refine AWP.seq ?_
  refine nw ?_
  refine ZB Zik Zim (fun x13 ZkK Zl1 Zsw ZrI => ?_) (fun Zl1 => ?_)
  ·subst Zl1
   refine nw ?_
   refine AWP.seq ?_
   refine AWP.block ?_
   refine AWP.seq ?_
   refine nn ?_
   refine sr (Z9 (f := Zc.cells) (Zc.cells_eq x13) Zsw) ?_
   refine st ?_
   obtain ⟨r17, ZnU, hF⟩ := bind_some hF
   refine nn ?_
   refine Or.inl (Or.inl (Exists.intro 7 (Exists.intro [[], [], [], [], [], [], []] (Exists.intro [([11, 12, 13, 14, 15, 16, 17], [], []), ([12, 13, 14, 15, 16, 17], [], []), ([13, 14, 15, 16, 17], [], []), ([14, 15, 16, 17], [], []), ([11, 12, 13, 14, 15, 16, 17], [], []), ([11, 12, 13, 14, 16, 17], [], []), ([11, 12, 13, 14, 15, 16, 17], [], [])] (Exists.intro [11, 12, 13, 14, 15, 16, 17] (And.intro (by decide +kernel) ?_))))))
   refine dp ?_
   refine dp ?_
   refine dp ?_
   refine dp ?_
   refine dp ?_
   refine dp ?_
   refine dp ?_
   refine st ?_
   refine Exists.intro [] (Exists.intro [(1001, 1000), (1002, 1001), (1003, 1002), (1004, 1003), (3, 1004)] (Exists.intro [] ?_))
   refine st ?_
   refine cm (Zn.weak (rn [(3102, 3052)]) (ZfY x13.fParams (Zd.mk Zk Zv Z1) x13 _ ZnU) rfl (WS.mk (tc (tc (tc Ze))) (Za rfl (cc Zb) (Za rfl (cc (cc (Zaf rfl (WE.refl _) Zb))) (Za rfl (cc Zb) (Za rfl (cc Zb) (Za rfl (cc (cc (cc (cc (cc (cc (cc (cc (cc (cc (cc Zb))))))))))) Zf))))))) ?_
   refine st ?_
   refine ns ?_
   refine AWL.weak (rn [(3052, 3102)]) ?_ (ZeA v0_ (x_7 + 1) r17.fout r17.fbound r17.fseen ZkK _ hF (Zd2 ++ [x13]) (by rw [Zik]; simp) (by rw [Zim]; simp) hlen1)
   exact (WS.mk (tp (tc (tc (Zj (Zaj (Zcw (ZD hlen1 ZrI))) Ze)))) (Za rfl (cc (cc (cc (cc (cc (cc (cc Zb))))))) (Za rfl (cc Zb) (Za rfl (cc (cc (Zaf rfl (WE.refl _) Zb))) (Za rfl (cc Zb) (Za rfl (cc Zb) Zf))))))
  ·subst Zl1
   refine nw ?_
   obtain rfl := Zs hF
   refine Exists.intro [(1000, 1000), (1001, 1001), (1002, 1002), (1003, 1003), (1004, 1004)] ?_
   refine st ?_
   exact Exists.intro (rn [(3102, 3102)]) (WS.mk (Zj (Zb1 Zb3) Ze) (Za rfl (cc (cc (cc (cc (cc (cc (cc Zb))))))) (Za rfl (cc Zb) (Za rfl (cc (cc (Zaf rfl (WE.refl _) Zb))) (Za rfl (cc Zb) (Za rfl (cc Zb) Zf))))))
 ·intro stg_scope_with_stg_finder_expr_1_1_l1' Zcn l g2_c0 g2_c1 r hF
  unfold Zaa.M
  refine en Tryz.func78 ?_
  refine AWP.seq ?_
  refine AWP.seq ?_
  refine ns ?_
  intro hlen14
  (try rw [List.length_map] at hlen14)
  (try rw [List.length_map])
  refine st ?_
  refine AWP.block ?_
  refine AWP.loop ?_
  refine AWL.weak (rn [(3052, 3052)]) ?_ (Zcn l 0 g2_c0 g2_c0.fbound g2_c1 l _ hF ([]) rfl rfl hlen14)
  exact (WS.mk (tc (tc (tc (tc (tc (tc Ze)))))) (Za rfl (cc Zb) (Za rfl (cc (cc (Zaf rfl (WE.refl _) Zb))) (Za rfl (cc Zb) (Za rfl (cc Zb) (Za rfl (cc (cc (cc (cc (cc (cc (cc (cc (cc (cc (cc Zb))))))))))) Zf))))))
 ·intro stg_scope_with_stg_finder_expr_1_1_l1' stg_finder_expr_1_1_' Zcn Zjn l ZaS g2_c0 Zp g2_c1 ZF r hF
  unfold ZX.M
  intro Zag Zb5 Zb6 hlen14
  refine AWL.step ?_
  refine AWP.seq ?_
  refine ns ?_
  refine AWP.seq ?_
  refine nw ?_
  refine ZB Zb5 Zb6 (fun x24 Zeb Zea Ziv Zio => ?_) (fun Zea => ?_)
  ·subst Zea
   refine nw ?_
   refine AWP.seq ?_
   refine AWP.block ?_
   refine AWP.seq ?_
   refine nn ?_
   refine sr (Z9 (f := c_S) rfl Ziv) ?_
   refine st ?_
   obtain ⟨r27, Zil, hF⟩ := bind_some hF
   refine ns ?_
   refine ZbB (m := Zp) (k := x24) Zay (ev := Zm) Zil rfl (fun x => ZaO x) rfl rfl (lc Zr) ?_
   refine st ?_
   refine ZcI (m := Zp) (k := x24) (v := (IntKind.i64.wrap (r27.1 + 1))) Zay (ev := Zm) (lc Zr) ?_
   refine st ?_
   refine ns ?_
   refine AWL.weak (rn [(3052, 3052)]) ?_ (Zcn l (ZaS + 1) g2_c0 (ZcQ Zp x24 (IntKind.i64.wrap (r27.1 + 1))) g2_c1 Zeb _ hF (Zag ++ [x24]) (by rw [Zb5]; simp) (by rw [Zb6]; simp) hlen14)
   exact (WS.mk (tc (tc (tc (tc (tc (Zj (Zaj (Zcw (ZD hlen14 Zio))) Ze)))))) (Za rfl (cc Zb) (Za rfl (cc (cc (Zaf rfl (WE.refl _) Zb))) (Za rfl (cc Zb) (Za rfl (cc Zb) (Za rfl (cc (cc (cc (cc (cc (cc (cc (cc (cc (cc (cc Zb))))))))))) Zf))))))
  ·subst Zea
   refine nw ?_
   refine AWP.seq ?_
   obtain ⟨r28, Zis, hF⟩ := bind_some hF
   refine ns ?_
   refine Exists.intro [] (Exists.intro [(1000, 1000), (1001, 1001), (1002, 1002), (1003, 1003), (1004, 1004)] (Exists.intro [] ?_))
   refine st ?_
   refine cm (Zn.weak (rn [(3052, 3052)]) (Zjn (Zd.mk Zp g2_c0.fseen g2_c0.fout) g2_c1 _ Zis) rfl (WS.mk (tp (tp Ze)) (Za rfl (cc Zb) (Za rfl (cc (cc (Zaf rfl (WE.refl _) Zb))) (Za rfl (cc Zb) (Za rfl (cc Zb) (Za rfl (cc (cc (cc (cc (cc (cc (cc (cc (cc (cc (cc Zb))))))))))) Zf))))))) ?_
   refine st ?_
   refine AWP.seq ?_
   refine ns ?_
   intro hlen29
   (try rw [List.length_map] at hlen29)
   (try rw [List.length_map])
   refine st ?_
   refine AWP.block ?_
   refine AWP.loop ?_
   refine AWL.weak (rn [(3052, 3052)]) ?_ (Zfm l 0 r28 r28.fbound g2_c1 l _ hF ([]) rfl rfl hlen29)
   exact (WS.mk (tc (tc (tc (tc Ze)))) (Za rfl (cc Zb) (Za rfl (cc (cc (Zaf rfl (WE.refl _) Zb))) (Za rfl (cc Zb) (Za rfl (cc Zb) (Za rfl (cc (cc (cc (cc (cc (cc (cc (cc (cc (cc (cc Zb))))))))))) Zf))))))
 ·intro stg_finder_expr' Zec v0_ v1_ r hF
  unfold Za5.M
  refine en Tryz.func79 ?_
  obtain ⟨r1, hr1, hF⟩ := bind_some hF
  refine ns ?_
  refine Exists.intro [] (Exists.intro [(1001, 1000), (1002, 1001), (1003, 1002)] (Exists.intro [] ?_))
  refine st ?_
  refine cm (Zn.weak (rn [(3052, 3002)]) (Zec v0_ v1_.fBody _ hr1) rfl (WS.mk (tp (Zj (ZaM (lc (lc (lc (lc (lc (lc (lc Zr)))))))) Ze)) (Za rfl (cc (cc (Zaf rfl (WE.refl _) Zb))) (Za rfl (cc Zb) (Za rfl (cc Zb) Zf))))) ?_
  refine st ?_
  obtain rfl := Zs hF
  refine Exists.intro [(1000, 1000), (1001, 1001), (1002, 1002), (1003, 1003), (1004, 1004)] ?_
  refine st ?_
  exact Exists.intro (rn [(3002, 3052)]) (WS.mk (Zj (Zb1 Zb3) Ze) (Za rfl (cc Zb) (Za rfl (cc (cc (Zaf rfl (WE.refl _) Zb))) (Za rfl (cc Zb) (Za rfl (cc Zb) (Za rfl (cc (cc (cc (cc (cc (cc (cc (cc (cc (cc (cc Zb))))))))))) Zf))))))
 ·intro stg_finder_expr_k3' stg_scope_with_stg_finder_expr_2' Zhl Zgf r4 e ZK ZJ Zp r hF
  unfold Zbx.M
  refine AWP.seq ?_
  obtain ⟨r8, hr8, hF⟩ := bind_some hF
  refine ns ?_
  refine Exists.intro [5] (Exists.intro [(3, 1000), (2, 1001), (1000, 1002), (1001, 1003), (1002, 1004)] (Exists.intro [] ?_))
  refine st ?_
  refine cm (Zn.weak (rn [(3002, 3102)]) (Zgf r4 e (Zd.mk ZJ Zp ZK) _ hr8) rfl (WS.mk (tc (tc (tc Ze))) (Za rfl (cc (cc (cc (cc (cc (cc (cc Zb))))))) (Za rfl (cc Zb) (Za rfl (cc (cc (Zaf rfl (WE.refl _) Zb))) (Za rfl (cc Zb) (Za rfl (cc Zb) Zf))))))) ?_
  refine st ?_
  refine AWP.seq ?_
  refine ns ?_
  refine AWP.seq ?_
  refine AWP.seq ?_
  refine ns ?_
  refine nw ?_
  refine Zw hF (fun ZeF hF => ?_) (fun ZeF hF => ?_)
  ·refine ns ?_
   refine Exists.intro _ (And.intro (ZE (f := c_S) (lc Zr) (Zx (f := c_S))) ?_)
   refine st ?_
   refine AWP.weak (rn [(45, 6), (3102, 3002)]) ?_ (Zhl ([e.fName]) e r8 _ hF)
   exact (WS.mk (tp (tp (Zj (ZH rfl (WE.refl _)) Ze))) (Za rfl (cc Zb) (Za rfl (cc (cc (cc (cc (cc (cc (cc Zb))))))) (Za rfl (cc (cc (Zaf rfl (WE.refl _) Zb))) (Za rfl (cc Zb) (Za rfl (cc Zb) Zf))))))
  ·refine nw ?_
   refine AWP.weak (rn [(3102, 3002)]) ?_ (Zhl ([]) e r8 _ hF)
   exact (WS.mk (tp (tp (Zj Zpg Ze))) (Za rfl (cc Zb) (Za rfl (cc (cc (cc (cc (cc (cc (cc Zb))))))) (Za rfl (cc (cc (Zaf rfl (WE.refl _) Zb))) (Za rfl (cc Zb) (Za rfl (cc Zb) Zf))))))
 ·intro stg_scope_with_stg_finder_expr_3' Zgn Zlm e r8 r hF
  unfold Zcd.M
  obtain ⟨r10, Zra, hF⟩ := bind_some hF
  refine ns ?_
  refine Exists.intro [6] (Exists.intro [(3, 1000), (2, 1001), (1000, 1002), (1001, 1003), (1002, 1004)] (Exists.intro [] ?_))
  refine st ?_
  refine cm (Zn.weak (rn [(3002, 3102)]) (Zgn Zlm e r8 _ Zra) rfl (WS.mk (tc (tc (tc Ze))) (Za rfl (cc (cc (cc (cc (cc (cc (cc Zb))))))) (Za rfl (cc Zb) (Za rfl (cc (cc (Zaf rfl (WE.refl _) Zb))) (Za rfl (cc Zb) (Za rfl (cc Zb) Zf))))))) ?_
  refine st ?_
  obtain rfl := Zs hF
  refine Exists.intro [(1000, 1000), (1001, 1001), (1002, 1002)] ?_
  refine st ?_
  exact Exists.intro (rn [(3102, 3002)]) (WS.mk (Zj (Zb1 Zb3) Ze) (Za rfl (cc (cc (Zaf rfl (WE.refl _) Zb))) (Za rfl (cc Zb) (Za rfl (cc Zb) Zf))))
 ·intro stg_scope_with_stg_finder_expr_3_l1' ZcD l g2_c0 g2_c1 r hF
  unfold ZaF.M
  refine en Tryz.func78 ?_
  refine AWP.seq ?_
  refine AWP.seq ?_
  refine ns ?_
  intro hlen14
  (try rw [List.length_map] at hlen14)
  (try rw [List.length_map])
  refine st ?_
  refine AWP.block ?_
  refine AWP.loop ?_
  refine AWL.weak (rn [(3102, 3102)]) ?_ (ZcD l 0 g2_c0 g2_c1 g2_c1.fbound l _ hF ([]) rfl rfl hlen14)
  exact (WS.mk (tc (tc (tc (tc (tc (tc Ze)))))) (Za rfl (cc (cc (cc (cc (cc (cc (cc Zb))))))) (Za rfl (cc Zb) (Za rfl (cc (cc (Zaf rfl (WE.refl _) Zb))) (Za rfl (cc Zb) (Za rfl (cc Zb) Zf))))))
 ·intro stg_scope_with_stg_finder_expr_3_l1' stg_finder_expr_3_' ZcD ZkD l ZaS g2_c0 g2_c1 Zk ZF r hF
  unfold Z3.M
  intro Zag Zb5 Zb6 hlen14
  refine AWL.step ?_
  refine AWP.seq ?_
  refine ns ?_
  refine AWP.seq ?_
  refine nw ?_
  refine ZB Zb5 Zb6 (fun x24 Zeb Zea Ziv Zio => ?_) (fun Zea => ?_)
  ·subst Zea
   refine nw ?_
   refine AWP.seq ?_
   refine AWP.block ?_
   refine AWP.seq ?_
   refine nn ?_
   refine sr (Z9 (f := c_S) rfl Ziv) ?_
   refine st ?_
   obtain ⟨r27, Zil, hF⟩ := bind_some hF
   refine ns ?_
   refine ZbB (m := Zk) (k := x24) Zay (ev := Zm) Zil rfl (fun x => ZaO x) rfl rfl (lc Zr) ?_
   refine st ?_
   refine ZcI (m := Zk) (k := x24) (v := (IntKind.i64.wrap (r27.1 + 1))) Zay (ev := Zm) (lc Zr) ?_
   refine st ?_
   refine ns ?_
   refine AWL.weak (rn [(3102, 3102)]) ?_ (ZcD l (ZaS + 1) g2_c0 g2_c1 (ZcQ Zk x24 (IntKind.i64.wrap (r27.1 + 1))) Zeb _ hF (Zag ++ [x24]) (by rw [Zb5]; simp) (by rw [Zb6]; simp) hlen14)
   exact (WS.mk (tc (tc (tc (tc (tc (Zj (Zaj (Zcw (ZD hlen14 Zio))) Ze)))))) (Za rfl (cc (cc (cc (cc (cc (cc (cc Zb))))))) (Za rfl (cc Zb) (Za rfl (cc (cc (Zaf rfl (WE.refl _) Zb))) (Za rfl (cc Zb) (Za rfl (cc Zb) Zf))))))
  ·subst Zea
   refine nw ?_
   refine AWP.seq ?_
   obtain ⟨r28, Zis, hF⟩ := bind_some hF
   refine ns ?_
   refine Exists.intro [] (Exists.intro [(1000, 1000), (1001, 1001), (1002, 1002), (1003, 1003), (1004, 1004)] (Exists.intro [] ?_))
   refine st ?_
   refine cm (Zn.weak (rn [(3102, 3102)]) (ZkD g2_c0 (Zd.mk Zk g2_c1.fseen g2_c1.fout) _ Zis) rfl (WS.mk (tp (tp Ze)) (Za rfl (cc (cc (cc (cc (cc (cc (cc Zb))))))) (Za rfl (cc Zb) (Za rfl (cc (cc (Zaf rfl (WE.refl _) Zb))) (Za rfl (cc Zb) (Za rfl (cc Zb) Zf))))))) ?_
   refine st ?_
   refine AWP.seq ?_
   refine ns ?_
   intro hlen29
   (try rw [List.length_map] at hlen29)
   (try rw [List.length_map])
   refine st ?_
   refine AWP.block ?_
   refine AWP.loop ?_
   refine AWL.weak (rn [(3102, 3102)]) ?_ (ZfQ l 0 g2_c0 r28 r28.fbound l _ hF ([]) rfl rfl hlen29)
   exact (WS.mk (tc (tc (tc (tc Ze)))) (Za rfl (cc (cc (cc (cc (cc (cc (cc Zb))))))) (Za rfl (cc Zb) (Za rfl (cc (cc (Zaf rfl (WE.refl _) Zb))) (Za rfl (cc Zb) (Za rfl (cc Zb) Zf))))))
 ·intro stg_finder_expr_3__l1' Zew v0_ v1_ r hF
  unfold Zbv.M
  refine en Tryz.func81 ?_
  refine AWP.seq ?_
  refine ns ?_
  intro hlen1
  (try rw [List.length_map] at hlen1)
  (try rw [List.length_map])
  refine st ?_
  refine AWP.block ?_
  refine AWP.loop ?_
  refine AWL.weak (rn [(3102, 3102)]) ?_ (Zew v0_ 0 v1_.fout v1_.fbound v1_.fseen v0_.fAlts _ hF ([]) rfl rfl hlen1)
  exact (WS.mk (tp (tc (tc (tc Ze)))) (Za rfl (cc (cc (cc (cc (cc (cc (cc Zb))))))) (Za rfl (cc Zb) (Za rfl (cc (cc (Zaf rfl (WE.refl _) Zb))) (Za rfl (cc Zb) (Za rfl (cc Zb) Zf))))))
 ·intro stg_finder_expr_3__l1' stg_scope_with_stg_finder_expr_3_1' Zew ZfV v0_ x_7 Z1 Zk Zv ZcZ r hF
  unfold Zbc.M
  intro Zd2 Zik Zim hlen1
  refine AWL.step ?_
  refine AWP.seq ?_
  refine ns ?_
  refine AWP.seq ?_
  refine nw ?_
  refine ZB Zik Zim (fun x13 ZkK Zl1 Zsw ZrI => ?_) (fun Zl1 => ?_)
  ·subst Zl1
   refine nw ?_
   refine AWP.seq ?_
   refine AWP.block ?_
   refine AWP.seq ?_
   refine nn ?_
   refine sr (Z9 (f := Zi.cells) (Zi.cells_eq x13) Zsw) ?_
   refine st ?_
   obtain ⟨r17, ZnU, hF⟩ := bind_some hF
   refine nn ?_
   refine Or.inl (Or.inl (Exists.intro 7 (Exists.intro [[], [], [], [], [], [], []] (Exists.intro [([11, 12, 13, 14, 15, 16, 17], [], []), ([12, 13, 14, 15, 16, 17], [], []), ([13, 14, 15, 16, 17], [], []), ([14, 15, 16, 17], [], []), ([11, 12, 13, 14, 15, 16, 17], [], []), ([11, 12, 13, 14, 16, 17], [], []), ([11, 12, 13, 14, 15, 16, 17], [], [])] (Exists.intro [11, 12, 13, 14, 15, 16, 17] (And.intro (by decide +kernel) ?_))))))
   refine dp ?_
   refine dp ?_
   refine dp ?_
   refine dp ?_
   refine dp ?_
   refine dp ?_
   refine dp ?_
   refine st ?_
   refine Exists.intro [] (Exists.intro [(1001, 1000), (1002, 1001), (1003, 1002), (1004, 1003), (3, 1004)] (Exists.intro [] ?_))
   refine st ?_
   refine cm (Zn.weak (rn [(3102, 3052)]) (ZfV x13.fVars (Zd.mk Zk Zv Z1) x13 _ ZnU) rfl (WS.mk (tc (tc (tc Ze))) (Za rfl (cc Zb) (Za rfl (cc (cc (Zaf rfl (WE.refl _) Zb))) (Za rfl (cc Zb) (Za rfl (cc Zb) (Za rfl (cc (cc (cc (cc (cc (cc (cc (cc (cc (cc (cc Zb))))))))))) Zf))))))) ?_
   refine st ?_
   refine ns ?_
   refine AWL.weak (rn [(3052, 3102)]) ?_ (Zew v0_ (x_7 + 1) r17.fout r17.fbound r17.fseen ZkK _ hF (Zd2 ++ [x13]) (by rw [Zik]; simp) (by rw [Zim]; simp) hlen1)
   exact (WS.mk (tp (tc (tc (Zj (Zaj (Zcw (ZD hlen1 ZrI))) Ze)))) (Za rfl (cc (cc (cc (cc (cc (cc (cc Zb))))))) (Za rfl (cc Zb) (Za rfl (cc (cc (Zaf rfl (WE.refl _) Zb))) (Za rfl (cc Zb) (Za rfl (cc Zb) Zf))))))
  ·subst Zl1
   refine nw ?_
   obtain rfl := Zs hF
   refine Exists.intro [(1000, 1000), (1001, 1001), (1002, 1002), (1003, 1003), (1004, 1004)] ?_
   refine st ?_
   exact Exists.intro (rn [(3102, 3102)]) (WS.mk (Zj (Zb1 Zb3) Ze) (Za rfl (cc (cc (cc (cc (cc (cc (cc Zb))))))) (Za rfl (cc Zb) (Za rfl (cc (cc (Zaf rfl (WE.refl _) Zb))) (Za rfl (cc Zb) (Za rfl (cc Zb) Zf))))))
 ·intro stg_scope_with_stg_finder_expr_3_1_l1' Zcm l g2_c0 g2_c1 r hF
  unfold Zac.M
  refine en Tryz.func78 ?_
  refine AWP.seq ?_
  refine AWP.seq ?_
  refine ns ?_
  intro hlen14
  (try rw [List.length_map] at hlen14)
  (try rw [List.length_map])
  refine st ?_
  refine AWP.block ?_
  refine AWP.loop ?_
  refine AWL.weak (rn [(3052, 3052)]) ?_ (Zcm l 0 g2_c0 g2_c0.fbound g2_c1 l _ hF ([]) rfl rfl hlen14)
  exact (WS.mk (tc (tc (tc (tc (tc (tc Ze)))))) (Za rfl (cc Zb) (Za rfl (cc (cc (Zaf rfl (WE.refl _) Zb))) (Za rfl (cc Zb) (Za rfl (cc Zb) (Za rfl (cc (cc (cc (cc (cc (cc (cc (cc (cc (cc (cc Zb))))))))))) Zf))))))
 ·intro stg_scope_with_stg_finder_expr_3_1_l1' stg_finder_expr_3_1_' Zcm Zjk l ZaS g2_c0 Zp g2_c1 ZF r hF
  unfold ZW.M
  intro Zag Zb5 Zb6 hlen14
  refine AWL.step ?_
  refine AWP.seq ?_
  refine ns ?_
  refine AWP.seq ?_
  refine nw ?_
  refine ZB Zb5 Zb6 (fun x24 Zeb Zea Ziv Zio => ?_) (fun Zea => ?_)
  ·subst Zea
   refine nw ?_
   refine AWP.seq ?_
   refine AWP.block ?_
   refine AWP.seq ?_
   refine nn ?_
   refine sr (Z9 (f := c_S) rfl Ziv) ?_
   refine st ?_
   obtain ⟨r27, Zil, hF⟩ := bind_some hF
   refine ns ?_
   refine ZbB (m := Zp) (k := x24) Zay (ev := Zm) Zil rfl (fun x => ZaO x) rfl rfl (lc Zr) ?_
   refine st ?_
   refine ZcI (m := Zp) (k := x24) (v := (IntKind.i64.wrap (r27.1 + 1))) Zay (ev := Zm) (lc Zr) ?_
   refine st ?_
   refine ns ?_
   refine AWL.weak (rn [(3052, 3052)]) ?_ (Zcm l (ZaS + 1) g2_c0 (ZcQ Zp x24 (IntKind.i64.wrap (r27.1 + 1))) g2_c1 Zeb _ hF (Zag ++ [x24]) (by rw [Zb5]; simp) (by rw [Zb6]; simp) hlen14)
   exact (WS.mk (tc (tc (tc (tc (tc (Zj (Zaj (Zcw (ZD hlen14 Zio))) Ze)))))) (Za rfl (cc Zb) (Za rfl (cc (cc (Zaf rfl (WE.refl _) Zb))) (Za rfl (cc Zb) (Za rfl (cc Zb) (Za rfl (cc (cc (cc (cc (cc (cc (cc (cc (cc (cc (cc Zb))))))))))) Zf))))))
  ·subst Zea
   refine nw ?_
   refine AWP.seq ?_
   obtain ⟨r28, Zis, hF⟩ := bind_some hF
   refine ns ?_
   refine Exists.intro [] (Exists.intro [(1000, 1000), (1001, 1001), (1002, 1002), (1003, 1003), (1004, 1004)] (Exists.intro [] ?_))
   refine st ?_
   refine cm (Zn.weak (rn [(3052, 3052)]) (Zjk (Zd.mk Zp g2_c0.fseen g2_c0.fout) g2_c1 _ Zis) rfl (WS.mk (tp (tp Ze)) (Za rfl (cc Zb) (Za rfl (cc (cc (Zaf rfl (WE.refl _) Zb))) (Za rfl (cc Zb) (Za rfl (cc Zb) (Za rfl (cc (cc (cc (cc (cc (cc (cc (cc (cc (cc (cc Zb))))))))))) Zf))))))) ?_
   refine st ?_
   refine AWP.seq ?_
   refine ns ?_
   intro hlen29
   (try rw [List.length_map] at hlen29)
   (try rw [List.length_map])
   refine st ?_
   refine AWP.block ?_
   refine AWP.loop ?_
   refine AWL.weak (rn [(3052, 3052)]) ?_ (Zfa l 0 r28 r28.fbound g2_c1 l _ hF ([]) rfl rfl hlen29)
   exact (WS.mk (tc (tc (tc (tc Ze)))) (Za rfl (cc Zb) (Za rfl (cc (cc (Zaf rfl (WE.refl _) Zb))) (Za rfl (cc Zb) (Za rfl (cc Zb) (Za rfl (cc (cc (cc (cc (cc (cc (cc (cc (cc (cc (cc Zb))))))))))) Zf))))))
 ·intro stg_finder_expr' Zec v0_ v1_ r hF
  unfold Za7.M
  refine en Tryz.func82 ?_
  obtain ⟨r1, hr1, hF⟩ := bind_some hF
  refine ns ?_
  refine Exists.intro [] (Exists.intro [(1001, 1000), (1002, 1001), (1003, 1002)] (Exists.intro [] ?_))
  refine st ?_
  refine cm (Zn.weak (rn [(3052, 3002)]) (Zec v0_ v1_.fBody _ hr1) rfl (WS.mk (tp (Zj (ZaM (lc (lc (lc (lc (lc (lc (lc Zr)))))))) Ze)) (Za rfl (cc (cc (Zaf rfl (WE.refl _) Zb))) (Za rfl (cc Zb) (Za rfl (cc Zb) Zf))))) ?_
  refine st ?_
  obtain rfl := Zs hF
  refine Exists.intro [(1000, 1000), (1001, 1001), (1002, 1002), (1003, 1003), (1004, 1004)] ?_
  refine st ?_
  exact Exists.intro (rn [(3002, 3052)]) (WS.mk (Zj (Zb1 Zb3) Ze) (Za rfl (cc Zb) (Za rfl (cc (cc (Zaf rfl (WE.refl _) Zb))) (Za rfl (cc Zb) (Za rfl (cc Zb) (Za rfl (cc (cc (cc (cc (cc (cc (cc (cc (cc (cc (cc Zb))))))))))) Zf))))))
 ·intro stg_scope_with_stg_finder_expr_2_l1' Zcy l g2_c0 g2_c1 r hF
  unfold ZaG.M
  refine en Tryz.func78 ?_
  refine AWP.seq ?_
  refine AWP.seq ?_
  refine ns ?_
  intro hlen14
  (try rw [List.length_map] at hlen14)
  (try rw [List.length_map])
  refine st ?_
  refine AWP.block ?_
  refine AWP.loop ?_
  refine AWL.weak (rn [(3102, 3102)]) ?_ (Zcy l 0 g2_c0 g2_c1 g2_c1.fbound l _ hF ([]) rfl rfl hlen14)
  exact (WS.mk (tc (tc (tc (tc (tc (tc Ze)))))) (Za rfl (cc (cc (cc (cc (cc (cc (cc Zb))))))) (Za rfl (cc Zb) (Za rfl (cc (cc (Zaf rfl (WE.refl _) Zb))) (Za rfl (cc Zb) (Za rfl (cc Zb) Zf))))))
 ·intro stg_scope_with_stg_finder_expr_2_l1' stg_finder_expr_2_' Zcy Zkx l ZaS g2_c0 g2_c1 Zk ZF r hF
  unfold Z2.M
  intro Zag Zb5 Zb6 hlen14
  refine AWL.step ?_
  refine AWP.seq ?_
  refine ns ?_
  refine AWP.seq ?_
  refine nw ?_
  refine ZB Zb5 Zb6 (fun x24 Zeb Zea Ziv Zio => ?_) (fun Zea => ?_)
  ·subst Zea
   refine nw ?_
   refine AWP.seq ?_
   refine AWP.block ?_
   refine AWP.seq ?_
   refine nn ?_
   refine sr (Z9 (f := c_S) rfl Ziv) ?_
   refine st ?_
   obtain ⟨r27, Zil, hF⟩ := bind_some hF
   refine ns ?_
   refine ZbB (m := Zk) (k := x24) Zay (ev := Zm) Zil rfl (fun x => ZaO x) rfl rfl (lc Zr) ?_
   refine st ?_
   refine ZcI (m := Zk) (k := x24) (v := (IntKind.i64.wrap (r27.1 + 1))) Zay (ev := Zm) (lc Zr) ?_
   refine st ?_
   refine ns ?_
   refine AWL.weak (rn [(3102, 3102)]) ?_ (Zcy l (ZaS + 1) g2_c0 g2_c1 (ZcQ Zk x24 (IntKind.i64.wrap (r27.1 + 1))) Zeb _ hF (Zag ++ [x24]) (by rw [Zb5]; simp) (by rw [Zb6]; simp) hlen14)
   exact (WS.mk (tc (tc (tc (tc (tc (Zj (Zaj (Zcw (ZD hlen14 Zio))) Ze)))))) (Za rfl (cc (cc (cc (cc (cc (cc (cc Zb))))))) (Za rfl (cc Zb) (Za rfl (cc (cc (Zaf rfl (WE.refl _) Zb))) (Za rfl (cc Zb) (Za rfl (cc Zb) Zf))))))
  ·subst Zea
   refine nw ?_
   refine AWP.seq ?_
   obtain ⟨r28, Zis, hF⟩ := bind_some hF
   refine ns ?_
   refine Exists.intro [] (Exists.intro [(1000, 1000), (1001, 1001), (1002, 1002), (1003, 1003), (1004, 1004)] (Exists.intro [] ?_))
   refine st ?_
   refine cm (Zn.weak (rn [(3102, 3102)]) (Zkx g2_c0 (Zd.mk Zk g2_c1.fseen g2_c1.fout) _ Zis) rfl (WS.mk (tp (tp Ze)) (Za rfl (cc (cc (cc (cc (cc (cc (cc Zb))))))) (Za rfl (cc Zb) (Za rfl (cc (cc (Zaf rfl (WE.refl _) Zb))) (Za rfl (cc Zb) (Za rfl (cc Zb) Zf))))))) ?_
   refine st ?_
   refine AWP.seq ?_
   refine ns ?_
   intro hlen29
   (try rw [List.length_map] at hlen29)
   (try rw [List.length_map])
   refine st ?_
   refine AWP.block ?_
   refine AWP.loop ?_
   refine AWL.weak (rn [(3102, 3102)]) ?_ (ZfJ l 0 g2_c0 r28 r28.fbound l _ hF ([]) rfl rfl hlen29)
   exact (WS.mk (tc (tc (tc (tc Ze)))) (Za rfl (cc (cc (cc (cc (cc (cc (cc Zb))))))) (Za rfl (cc Zb) (Za rfl (cc (cc (Zaf rfl (WE.refl _) Zb))) (Za rfl (cc Zb) (Za rfl (cc Zb) Zf))))))
 ·intro stg_finder_expr_2__l1' Zey v0_ v1_ r hF
  unfold Zbu.M
  refine en Tryz.func80 ?_
  refine AWP.seq ?_
  refine ns ?_
  intro hlen1
  (try rw [List.length_map] at hlen1)
  (try rw [List.length_map])
  refine st ?_
  refine AWP.block ?_
  refine AWP.loop ?_
  refine AWL.weak (rn [(3102, 3102)]) ?_ (Zey v0_ 0 v1_.fout v1_.fbound v1_.fseen v0_.fKids _ hF ([]) rfl rfl hlen1)
  exact (WS.mk (tp (tc (tc (tc Ze)))) (Za rfl (cc (cc (cc (cc (cc (cc (cc Zb))))))) (Za rfl (cc Zb) (Za rfl (cc (cc (Zaf rfl (WE.refl _) Zb))) (Za rfl (cc Zb) (Za rfl (cc Zb) Zf))))))
 ·intro stg_finder_expr' stg_finder_expr_2__l1' Zec Zey v0_ x_7 Z1 Zk Zv ZcZ r hF
  unfold ZaT.M
  intro Zd2 Zik Zim hlen1
  refine AWL.step ?_
  refine AWP.seq ?_
  refine ns ?_
  refine AWP.seq ?_
  refine nw ?_
  refine ZB Zik Zim (fun x11 Zo9 Zow ZvN ZuQ => ?_) (fun Zow => ?_)
  ·subst Zow
   refine nw ?_
   refine AWP.seq ?_
   refine AWP.block ?_
   refine AWP.seq ?_
   refine nn ?_
   refine sr (Z9 (f := Zo.cells) (Zo.cells_eq x11) ZvN) ?_
   refine st ?_
   obtain ⟨r14, Zm8, hF⟩ := bind_some hF
   refine ns ?_
   refine Exists.intro [] (Exists.intro [(1002, 1000), (1003, 1001), (1004, 1002)] (Exists.intro [] ?_))
   refine st ?_
   refine cm (Zn.weak (rn [(3102, 3002)]) (Zec (Zd.mk Zk Zv Z1) x11 _ Zm8) rfl (WS.mk (tp (Zj (ZaM (lc (lc (lc (lc (lc (lc (lc Zr)))))))) Ze)) (Za rfl (cc (cc (Zaf rfl (WE.refl _) Zb))) (Za rfl (cc Zb) (Za rfl (cc Zb) Zf))))) ?_
   refine st ?_
   refine ns ?_
   refine AWL.weak (rn [(3002, 3102)]) ?_ (Zey v0_ (x_7 + 1) r14.fout r14.fbound r14.fseen Zo9 _ hF (Zd2 ++ [x11]) (by rw [Zik]; simp) (by rw [Zim]; simp) hlen1)
   exact (WS.mk (tp (tc (tc (Zj (Zaj (Zcw (ZD hlen1 ZuQ))) Ze)))) (Za rfl (cc (cc (cc (cc (cc (cc (cc Zb))))))) (Za rfl (cc Zb) (Za rfl (cc (cc (Zaf rfl (WE.refl _) Zb))) (Za rfl (cc Zb) (Za rfl (cc Zb) Zf))))))
  ·subst Zow
   refine nw ?_
   obtain rfl := Zs hF
   refine Exists.intro [(1000, 1000), (1001, 1001), (1002, 1002), (1003, 1003), (1004, 1004)] ?_
   refine st ?_
   exact Exists.intro (rn [(3102, 3102)]) (WS.mk (Zj (Zb1 Zb3) Ze) (Za rfl (cc (cc (cc (cc (cc (cc (cc Zb))))))) (Za rfl (cc Zb) (Za rfl (cc (cc (Zaf rfl (WE.refl _) Zb))) (Za rfl (cc Zb) (Za rfl (cc Zb) Zf))))))
 ·intro stg_scope_with_stg_finder_expr_1_l1' Zcz l g2_c0 g2_c1 r hF
  unfold Zaq.M
  refine en Tryz.func78 ?_
  refine AWP.seq ?_
  refine AWP.seq ?_
  refine ns ?_
  intro hlen14
  (try rw [List.length_map] at hlen14)
  (try rw [List.length_map])
  refine st ?_
  refine AWP.block ?_
  refine AWP.loop ?_
  refine AWL.weak (rn [(3102, 3102)]) ?_ (Zcz l 0 g2_c0 g2_c1 g2_c1.fbound l _ hF ([]) rfl rfl hlen14)
  exact (WS.mk (tc (tc (tc (tc (tc (tc Ze)))))) (Za rfl (cc (cc (cc (cc (cc (cc (cc Zb))))))) (Za rfl (cc Zb) (Za rfl (cc (cc (Zaf rfl (WE.refl _) Zb))) (Za rfl (cc Zb) (Za rfl (cc Zb) Zf))))))
 ·intro stg_finder_expr_1_' stg_scope_with_stg_finder_expr_1_l1' Ze8 Zcz l ZaS g2_c0 g2_c1 Zk ZF r hF
  unfold Z4.M
  intro Zag Zb5 Zb6 hlen14
  refine AWL.step ?_
  refine AWP.seq ?_
  refine ns ?_
  refine AWP.seq ?_
  refine nw ?_
  refine ZB Zb5 Zb6 (fun x24 Zeb Zea Ziv Zio => ?_) (fun Zea => ?_)
  ·subst Zea
   refine nw ?_
   refine AWP.seq ?_
   refine AWP.block ?_
   refine AWP.seq ?_
   refine nn ?_
   refine sr (Z9 (f := c_S) rfl Ziv) ?_
   refine st ?_
   obtain ⟨r27, Zil, hF⟩ := bind_some hF
   refine ns ?_
   refine ZbB (m := Zk) (k := x24) Zay (ev := Zm) Zil rfl (fun x => ZaO x) rfl rfl (lc Zr) ?_
   refine st ?_
   refine ZcI (m := Zk) (k := x24) (v := (IntKind.i64.wrap (r27.1 + 1))) Zay (ev := Zm) (lc Zr) ?_
   refine st ?_
   refine ns ?_
   refine AWL.weak (rn [(3102, 3102)]) ?_ (Zcz l (ZaS + 1) g2_c0 g2_c1 (ZcQ Zk x24 (IntKind.i64.wrap (r27.1 + 1))) Zeb _ hF (Zag ++ [x24]) (by rw [Zb5]; simp) (by rw [Zb6]; simp) hlen14)
   exact (WS.mk (tc (tc (tc (tc (tc (Zj (Zaj (Zcw (ZD hlen14 Zio))) Ze)))))) (Za rfl (cc (cc (cc (cc (cc (cc (cc Zb))))))) (Za rfl (cc Zb) (Za rfl (cc (cc (Zaf rfl (WE.refl _) Zb))) (Za rfl (cc Zb) (Za rfl (cc Zb) Zf))))))
  ·subst Zea
   refine nw ?_
   refine AWP.seq ?_
   obtain ⟨r28, Zis, hF⟩ := bind_some hF
   refine ns ?_
   refine Exists.intro [] (Exists.intro [(1000, 1000), (1001, 1001), (1002, 1002), (1003, 1003), (1004, 1004)] (Exists.intro [] ?_))
   refine st ?_
   refine cm (Zn.weak (rn [(3102, 3102)]) (Ze8 g2_c0 (Zd.mk Zk g2_c1.fseen g2_c1.fout) _ Zis) rfl (WS.mk (tp (tp Ze)) (Za rfl (cc (cc (cc (cc (cc (cc (cc Zb))))))) (Za rfl (cc Zb) (Za rfl (cc (cc (Zaf rfl (WE.refl _) Zb))) (Za rfl (cc Zb) (Za rfl (cc Zb) Zf))))))) ?_
   refine st ?_
   refine AWP.seq ?_
   refine ns ?_
   intro hlen29
   (try rw [List.length_map] at hlen29)
   (try rw [List.length_map])
   refine st ?_
   refine AWP.block ?_
   refine AWP.loop ?_
   refine AWL.weak (rn [(3102, 3102)]) ?_ (ZfR l 0 g2_c0 r28 r28.fbound l _ hF ([]) rfl rfl hlen29)
   exact (WS.mk (tc (tc (tc (tc Ze)))) (Za rfl (cc (cc (cc (cc (cc (cc (cc Zb))))))) (Za rfl (cc Zb) (Za rfl (cc (cc (Zaf rfl (WE.refl _) Zb))) (Za rfl (cc Zb) (Za rfl (cc Zb) Zf))))))
theorem Zij : ∀ (f : Zd) (e : Zo), ∀ r, ZaH f e = some r → ZaH.M f e r := ZlO.1

def Zet (e : Zo) : Option ((List ByteArray)) :=
 ZaH (Zd.mk ([] : List (ByteArray × Int)) ([] : List (ByteArray × Bool)) ([] : List ByteArray)) e >>= fun r1 =>
 some r1.fout
def Zet.M (e : Zo) (r : (List ByteArray)) : Prop :=
 Zn Tryz.prog 18 [.agg [.v (.int .i64 e.fOp), .v (.string e.fName), .sl (e.fArgs.map Zq.cells), .v (.bool e.fRec), .sl (e.fBinds.map Zc.cells), .sl (e.fKids.map Zo.cells), .sl (e.fAlts.map Zi.cells)]] [] (fun d b => d = .c (some (0, 9)) (.sl (r.map c_S)) ∧ b = [])
theorem ZiR (e : Zo) (r : (List ByteArray)) (hF : Zet e = some r) : Zet.M e r := by
 unfold Zet at hF
 unfold Zet.M
 refine en Tryz.func18 ?_
 refine AWP.seq ?_
 refine ns ?_
 refine AWP.seq ?_
 refine ns ?_
 refine AWP.seq ?_
 obtain ⟨r1, hr1, hF⟩ := bind_some hF
 refine ns ?_
 refine Exists.intro [] (Exists.intro [(7, 1000), (4, 1001), (5, 1002)] (Exists.intro [] ?_))
 refine st ?_
 refine cm (Zn.weak (rn []) (Zij (Zd.mk ([] : List (ByteArray × Int)) ([] : List (ByteArray × Bool)) ([] : List ByteArray)) e _ hr1) rfl (WS.mk (tp (Zj (ZaM (lc (lc (lc (lc (lc (lc (lc Zr)))))))) Ze)) (Za rfl (cc (cc (Zdp Zb))) (Za rfl (cc Zb) (Za rfl (cc Zb) Zf))))) ?_
 refine st ?_
 refine AWP.seq ?_
 refine ns ?_
 obtain rfl := Zs hF
 refine ns ?_
 refine Exists.intro [] ?_
 refine st ?_
 exact Exists.intro (rn [(3002, 0)]) (WS.mk (Zj (ZH rfl (WE.refl _)) Ze) Zf)

mutual
def ZaV (e : Zo) : Option (Int) :=
 ZbT (IntKind.i64.wrap (1 + ((e.fArgs.length : Nat) : Int))) e 0 e.fBinds
 partial_fixpoint
def ZbT (n_3 : Int) (e : Zo) (Zqs : Nat) (ZjV : (List Zc)) : Option (Int) :=
 (match ZjV with
 | x25 :: ZsB =>
 ZaV x25.fBody >>= fun r28 =>
 ZbT (IntKind.i64.wrap (n_3 + (IntKind.i64.wrap (1 + r28)))) e (Zqs + 1) ZsB
 | [] =>
 ZbH n_3 e 0 e.fAlts)
 partial_fixpoint
def ZbH (n_3 : Int) (e : Zo) (ZqC : Nat) (ZjT : (List Zi)) : Option (Int) :=
 (match ZjT with
 | x52 :: Zyi =>
 ZaV x52.fBody >>= fun r55 =>
 ZbH (IntKind.i64.wrap (n_3 + (IntKind.i64.wrap (1 + r55)))) e (ZqC + 1) Zyi
 | [] =>
 ZbK n_3 e 0 e.fKids)
 partial_fixpoint
def ZbK (n_3 : Int) (e : Zo) (Zq2 : Nat) (Zkf : (List Zo)) : Option (Int) :=
 (match Zkf with
 | x66 :: Zxx =>
 ZaV x66 >>= fun r69 =>
 ZbK (IntKind.i64.wrap (n_3 + r69)) e (Zq2 + 1) Zxx
 | [] =>
 some n_3)
 partial_fixpoint
end
def ZaV.M (e : Zo) (r : Int) : Prop :=
 Zn Tryz.prog 20 [.agg [.v (.int .i64 e.fOp), .v (.string e.fName), .sl (e.fArgs.map Zq.cells), .v (.bool e.fRec), .sl (e.fBinds.map Zc.cells), .sl (e.fKids.map Zo.cells), .sl (e.fAlts.map Zi.cells)]] [] (fun d b => d = .c none (.v (.int .i64 r)) ∧ b = [])
def ZbT.M (n_3 : Int) (e : Zo) (Zqs : Nat) (ZjV : (List Zc)) (r : Int) : Prop :=
 ∀ Zmt : List Zc, e.fBinds = Zmt ++ ZjV → Zqs = Zmt.length → e.fArgs.length ≤ maxLen → e.fBinds.length ≤ maxLen → AWL Tryz.prog 55 (Code.sub (Zt Tryz.f20) [1, 1, 0, 1, 0, 0]) (Code.cont Tryz.prog 55 (Zt Tryz.f20) [1, 1, 0, 1, 0] (Zbl tab Tryz.f20.results (Zbo (.c none (.v (.int .i64 r))) []))) ⟨[(1, .ptr 1 0), (3, .c none (.v (.int .i64 n_3))), (15, .c none (.sl (e.fBinds.map Zc.cells))), (16, .c none (.v (.int .i64 ((e.fBinds.length : Nat) : Int)))), (17, .c none (.v (.int .i64 ((Zqs : Nat) : Int))))], [(1, [(none, .v (.int .i64 e.fOp)), (none, .v (.string e.fName)), (none, .sl (e.fArgs.map Zq.cells)), (none, .v (.bool e.fRec)), (none, .sl (e.fBinds.map Zc.cells)), (none, .sl (e.fKids.map Zo.cells)), (none, .sl (e.fAlts.map Zi.cells))])]⟩
def ZbH.M (n_3 : Int) (e : Zo) (ZqC : Nat) (ZjT : (List Zi)) (r : Int) : Prop :=
 ∀ ZmY : List Zi, e.fAlts = ZmY ++ ZjT → ZqC = ZmY.length → e.fArgs.length ≤ maxLen → e.fBinds.length ≤ maxLen → e.fAlts.length ≤ maxLen → AWL Tryz.prog 55 (Code.sub (Zt Tryz.f20) [1, 1, 1, 0, 1, 0, 0]) (Code.cont Tryz.prog 55 (Zt Tryz.f20) [1, 1, 1, 0, 1, 0] (Zbl tab Tryz.f20.results (Zbo (.c none (.v (.int .i64 r))) []))) ⟨[(1, .ptr 1 0), (3, .c none (.v (.int .i64 n_3))), (29, .c none (.sl (e.fAlts.map Zi.cells))), (30, .c none (.v (.int .i64 ((e.fAlts.length : Nat) : Int)))), (31, .c none (.v (.int .i64 ((ZqC : Nat) : Int))))], [(1, [(none, .v (.int .i64 e.fOp)), (none, .v (.string e.fName)), (none, .sl (e.fArgs.map Zq.cells)), (none, .v (.bool e.fRec)), (none, .sl (e.fBinds.map Zc.cells)), (none, .sl (e.fKids.map Zo.cells)), (none, .sl (e.fAlts.map Zi.cells))])]⟩
def ZbK.M (n_3 : Int) (e : Zo) (Zq2 : Nat) (Zkf : (List Zo)) (r : Int) : Prop :=
 ∀ Zmx : List Zo, e.fKids = Zmx ++ Zkf → Zq2 = Zmx.length → e.fArgs.length ≤ maxLen → e.fBinds.length ≤ maxLen → e.fAlts.length ≤ maxLen → e.fKids.length ≤ maxLen → AWL Tryz.prog 55 (Code.sub (Zt Tryz.f20) [1, 1, 1, 1, 0, 1, 0, 0]) (Code.cont Tryz.prog 55 (Zt Tryz.f20) [1, 1, 1, 1, 0, 1, 0] (Zbl tab Tryz.f20.results (Zbo (.c none (.v (.int .i64 r))) []))) ⟨[(3, .c none (.v (.int .i64 n_3))), (43, .c none (.sl (e.fKids.map Zo.cells))), (44, .c none (.v (.int .i64 ((e.fKids.length : Nat) : Int)))), (45, .c none (.v (.int .i64 ((Zq2 : Nat) : Int))))], []⟩
theorem Zqq : (∀ (e : Zo), ∀ r, ZaV e = some r → ZaV.M e r) ∧ (∀ (n_3 : Int) (e : Zo) (Zqs : Nat) (ZjV : (List Zc)), ∀ r, ZbT n_3 e Zqs ZjV = some r → ZbT.M n_3 e Zqs ZjV r) ∧ (∀ (n_3 : Int) (e : Zo) (ZqC : Nat) (ZjT : (List Zi)), ∀ r, ZbH n_3 e ZqC ZjT = some r → ZbH.M n_3 e ZqC ZjT r) ∧ (∀ (n_3 : Int) (e : Zo) (Zq2 : Nat) (Zkf : (List Zo)), ∀ r, ZbK n_3 e Zq2 Zkf = some r → ZbK.M n_3 e Zq2 Zkf r) := by
 refine ZaV.mutual_partial_correctness ZaV.M ZbT.M ZbH.M ZbK.M ?_ ?_ ?_ ?_
 ·intro stg_Size_l1' Zid e r hF
  unfold ZaV.M
  refine en Tryz.func20 ?_
  refine AWP.seq ?_
  refine ns ?_
  refine AWP.seq ?_
  refine ns ?_
  intro hlen1
  (try rw [List.length_map] at hlen1)
  (try rw [List.length_map])
  refine st ?_
  refine AWP.seq ?_
  refine AWP.seq ?_
  refine ns ?_
  intro hlen15
  (try rw [List.length_map] at hlen15)
  (try rw [List.length_map])
  refine st ?_
  refine AWP.block ?_
  refine AWP.loop ?_
  refine AWL.weak (rn []) ?_ (Zid (IntKind.i64.wrap (1 + ((e.fArgs.length : Nat) : Int))) e 0 e.fBinds _ hF ([]) rfl rfl hlen1 hlen15)
  exact (WS.mk (tp (tc (tc (tc (tc Ze))))) (Za rfl (cc (cc (cc (cc (cc (cc (cc Zb))))))) Zf))
 ·intro stg_Size' stg_Size_l1' stg_Size_l2' ZhP Zid ZiA n_3 e Zqs ZjV r hF
  unfold ZbT.M
  intro Zmt Ztq ZtG hlen1 hlen15
  refine AWL.step ?_
  refine AWP.seq ?_
  refine ns ?_
  refine AWP.seq ?_
  refine nw ?_
  refine ZB Ztq ZtG (fun x25 ZsB ZsJ Zvh ZxT => ?_) (fun ZsJ => ?_)
  ·subst ZsJ
   refine nw ?_
   refine AWP.seq ?_
   refine AWP.block ?_
   refine AWP.seq ?_
   refine nn ?_
   refine sr (Z9 (f := Zc.cells) (Zc.cells_eq x25) Zvh) ?_
   refine st ?_
   obtain ⟨r28, Zis, hF⟩ := bind_some hF
   refine ns ?_
   refine e3 ?_
   refine st ?_
   refine cm (Zn.weak (rn []) (ZhP x25.fBody _ Zis) rfl (WS.mk (Zj (ZaM (lc (lc (lc (lc (lc (lc (lc Zr)))))))) Ze) Zf)) ?_
   refine st ?_
   refine ns ?_
   refine AWL.weak (rn []) ?_ (Zid (IntKind.i64.wrap (n_3 + (IntKind.i64.wrap (1 + r28)))) e (Zqs + 1) ZsB _ hF (Zmt ++ [x25]) (by rw [Ztq]; simp) (by rw [ZtG]; simp) hlen1 hlen15)
   exact (WS.mk (tp (tc (tc (tc (Zj (Zaj (Zcw (ZD hlen15 ZxT))) Ze))))) (Za rfl (cc (cc (cc (cc (cc (cc (cc Zb))))))) Zf))
  ·subst ZsJ
   refine nw ?_
   refine AWP.seq ?_
   refine AWP.seq ?_
   refine ns ?_
   intro hlen42
   (try rw [List.length_map] at hlen42)
   (try rw [List.length_map])
   refine st ?_
   refine AWP.block ?_
   refine AWP.loop ?_
   refine AWL.weak (rn []) ?_ (ZiA n_3 e 0 e.fAlts _ hF ([]) rfl rfl hlen1 hlen15 hlen42)
   exact (WS.mk (tp (tc (tc (tc (tc Ze))))) (Za rfl (cc (cc (cc (cc (cc (cc (cc Zb))))))) Zf))
 ·intro stg_Size' stg_Size_l2' stg_Size_l3' ZhP ZiA Zih n_3 e ZqC ZjT r hF
  unfold ZbH.M
  intro ZmY Zs3 ZtF hlen1 hlen15 hlen42
  refine AWL.step ?_
  refine AWP.seq ?_
  refine ns ?_
  refine AWP.seq ?_
  refine nw ?_
  refine ZB Zs3 ZtF (fun x52 Zyi Zym ZCx ZBq => ?_) (fun Zym => ?_)
  ·subst Zym
   refine nw ?_
   refine AWP.seq ?_
   refine AWP.block ?_
   refine AWP.seq ?_
   refine nn ?_
   refine sr (Z9 (f := Zi.cells) (Zi.cells_eq x52) ZCx) ?_
   refine st ?_
   obtain ⟨r55, Zyt, hF⟩ := bind_some hF
   refine ns ?_
   refine e3 ?_
   refine st ?_
   refine cm (Zn.weak (rn []) (ZhP x52.fBody _ Zyt) rfl (WS.mk (Zj (ZaM (lc (lc (lc (lc (lc (lc (lc Zr)))))))) Ze) Zf)) ?_
   refine st ?_
   refine ns ?_
   refine AWL.weak (rn []) ?_ (ZiA (IntKind.i64.wrap (n_3 + (IntKind.i64.wrap (1 + r55)))) e (ZqC + 1) Zyi _ hF (ZmY ++ [x52]) (by rw [Zs3]; simp) (by rw [ZtF]; simp) hlen1 hlen15 hlen42)
   exact (WS.mk (tp (tc (tc (tc (Zj (Zaj (Zcw (ZD hlen42 ZBq))) Ze))))) (Za rfl (cc (cc (cc (cc (cc (cc (cc Zb))))))) Zf))
  ·subst Zym
   refine nw ?_
   refine AWP.seq ?_
   refine AWP.seq ?_
   refine ns ?_
   intro hlen56
   (try rw [List.length_map] at hlen56)
   (try rw [List.length_map])
   refine st ?_
   refine AWP.block ?_
   refine AWP.loop ?_
   refine AWL.weak (rn []) ?_ (Zih n_3 e 0 e.fKids _ hF ([]) rfl rfl hlen1 hlen15 hlen42 hlen56)
   exact (WS.mk (tc (tc (tc (tc Ze)))) Zf)
 ·intro stg_Size' stg_Size_l3' ZhP Zih n_3 e Zq2 Zkf r hF
  unfold ZbK.M
  intro Zmx Zs9 Zs8 hlen1 hlen15 hlen42 hlen56
  refine AWL.step ?_
  refine AWP.seq ?_
  refine ns ?_
  refine AWP.seq ?_
  refine nw ?_
  refine ZB Zs9 Zs8 (fun x66 Zxx ZxJ ZCh ZB9 => ?_) (fun ZxJ => ?_)
  ·subst ZxJ
   refine nw ?_
   refine AWP.seq ?_
   refine AWP.block ?_
   refine AWP.seq ?_
   refine nn ?_
   refine sr (Z9 (f := Zo.cells) (Zo.cells_eq x66) ZCh) ?_
   refine st ?_
   obtain ⟨r69, ZxY, hF⟩ := bind_some hF
   refine ns ?_
   refine e3 ?_
   refine st ?_
   refine cm (Zn.weak (rn []) (ZhP x66 _ ZxY) rfl (WS.mk (Zj (ZaM (lc (lc (lc (lc (lc (lc (lc Zr)))))))) Ze) Zf)) ?_
   refine st ?_
   refine ns ?_
   refine AWL.weak (rn []) ?_ (Zih (IntKind.i64.wrap (n_3 + r69)) e (Zq2 + 1) Zxx _ hF (Zmx ++ [x66]) (by rw [Zs9]; simp) (by rw [Zs8]; simp) hlen1 hlen15 hlen42 hlen56)
   exact (WS.mk (tc (tc (tc (Zj (Zaj (Zcw (ZD hlen56 ZB9))) Ze)))) Zf)
  ·subst ZxJ
   refine nw ?_
   refine AWP.seq ?_
   refine ns ?_
   obtain rfl := Zs hF
   refine ns ?_
   refine Exists.intro [] ?_
   refine st ?_
   exact wx (WS.mk (tc Ze) Zf)
theorem ZhR : ∀ (e : Zo), ∀ r, ZaV e = some r → ZaV.M e r := Zqq.1

def Zbm (s1_ : (List ByteArray)) (s2_ : (List ByteArray)) (ZbL : Nat) (ZdR : (List ByteArray)) : Option (Bool) :=
 (match ZdR with
 | x23 :: Zxp =>
 (s2_[ZbL]?) >>= fun x27 =>
 if (!(x23.toList == x27.toList)) = true then
 some false
 else
 Zbm s1_ s2_ (ZbL + 1) Zxp
 | [] =>
 some true)
 partial_fixpoint
def Zbm.M (s1_ : (List ByteArray)) (s2_ : (List ByteArray)) (ZbL : Nat) (ZdR : (List ByteArray)) (r : Bool) : Prop :=
 ∀ ZgW : List ByteArray, s1_ = ZgW ++ ZdR → ZbL = ZgW.length → s1_.length ≤ maxLen → s2_.length ≤ maxLen → AWL Tryz.prog 26 (Code.sub (Zt Tryz.f85) [1, 1, 0, 1, 0, 0]) (Code.cont Tryz.prog 26 (Zt Tryz.f85) [1, 1, 0, 1, 0] (Zbl tab Tryz.f85.results (Zbo (.c none (.v (.bool r))) []))) ⟨[(0, .c none (.sl (s1_.map c_S))), (1, .c none (.sl (s2_.map c_S))), (12, .c none (.v (.int .i64 ((s1_.length : Nat) : Int)))), (13, .c none (.v (.int .i64 ((ZbL : Nat) : Int))))], []⟩
theorem ZiE (s1_ : (List ByteArray)) (s2_ : (List ByteArray)) (ZbL : Nat) (ZdR : (List ByteArray)) : ∀ r, Zbm s1_ s2_ ZbL ZdR = some r → Zbm.M s1_ s2_ ZbL ZdR r := by
 refine Zbm.partial_correctness s1_ s2_ (fun ZbL ZdR r => Zbm.M s1_ s2_ ZbL ZdR r) ?_ ZbL ZdR
 intro slices_Equal_string_l1' ZfM ZbL ZdR r hF
 have ZiD := fun (_s1_ : (List ByteArray)) (_s2_ : (List ByteArray)) (ZbL : Nat) (ZdR : (List ByteArray)) => ZfM ZbL ZdR
 clear ZfM
 unfold Zbm.M
 intro ZgW ZmD ZmP hlen7 hlen5
 refine AWL.step ?_
 refine AWP.seq ?_
 refine ns ?_
 refine AWP.seq ?_
 refine nw ?_
 refine ZB ZmD ZmP (fun x23 Zxp ZyT ZCp ZBO => ?_) (fun ZyT => ?_)
 ·subst ZyT
  refine nw ?_
  refine AWP.seq ?_
  refine AWP.block ?_
  refine AWP.seq ?_
  refine ns ?_
  refine AWP.seq ?_
  obtain ⟨x27, Zvh, hF⟩ := bind_some hF
  refine nn ?_
  refine Or.inl (Or.inl (Exists.intro 8 (Exists.intro [[], [], [], [], [], [], [], []] (Exists.intro [([16, 17, 18, 19, 20, 21, 22, 23], [], []), ([16, 17, 18, 19, 20, 21, 22, 23], [], []), ([18, 19, 20, 21, 22, 23], [], []), ([19, 20, 21, 22, 23], [], []), ([16, 17, 18, 19, 20, 21, 22, 23], [], []), ([16, 17, 18, 19, 20, 21, 22, 23], [], []), ([16, 17, 18, 19, 22, 23], [], []), ([16, 17, 18, 19, 23], [], [])] (Exists.intro [16, 17, 18, 19, 20, 21, 22, 23] (And.intro (by decide +kernel) ?_))))))
  refine dp ?_
  refine dp ?_
  refine dr (Z9 rfl ZCp) ?_
  refine dp ?_
  refine dp ?_
  refine dp ?_
  refine dr (Z9 rfl Zvh) ?_
  refine dp ?_
  refine st ?_
  refine nw ?_
  refine Zw hF (fun Zxm hF => ?_) (fun Zxm hF => ?_)
  ·refine AWP.seq ?_
   refine ns ?_
   obtain rfl := Zs hF
   refine ns ?_
   refine Exists.intro [] ?_
   refine st ?_
   exact wx (WS.mk (tc Ze) Zf)
  ·refine nw ?_
   refine ns ?_
   refine AWL.weak (rn []) ?_ (ZiD s1_ s2_ (ZbL + 1) Zxp _ hF (ZgW ++ [x23]) (by rw [ZmD]; simp) (by rw [ZmP]; simp) hlen7 hlen5)
   exact (WS.mk (tc (tc (tc (Zj (Zaj (Zcw (ZD hlen7 ZBO))) Ze)))) Zf)
 ·subst ZyT
  refine nw ?_
  refine AWP.seq ?_
  refine ns ?_
  obtain rfl := Zs hF
  refine ns ?_
  refine Exists.intro [] ?_
  refine st ?_
  exact wx (WS.mk (tc Ze) Zf)

def ZbX (s1_ : (List ByteArray)) (s2_ : (List ByteArray)) : Option (Bool) :=
 if (((s1_.length : Nat) : Int) != ((s2_.length : Nat) : Int)) = true then
 some false
 else
 Zbm s1_ s2_ 0 s1_
def ZbX.M (s1_ : (List ByteArray)) (s2_ : (List ByteArray)) (r : Bool) : Prop :=
 Zn Tryz.prog 85 [.c none (.sl (s1_.map c_S)), .c none (.sl (s2_.map c_S))] [] (fun d b => d = .c none (.v (.bool r)) ∧ b = [])
theorem Zke (s1_ : (List ByteArray)) (s2_ : (List ByteArray)) (r : Bool) (hF : ZbX s1_ s2_ = some r) : ZbX.M s1_ s2_ r := by
 unfold ZbX at hF
 unfold ZbX.M
 refine en Tryz.func85 ?_
 refine AWP.seq ?_
 refine ns ?_
 refine AWP.seq ?_
 refine AWP.seq ?_
 refine ns ?_
 intro hlen4
 (try rw [List.length_map] at hlen4)
 (try rw [List.length_map])
 refine st ?_
 intro hlen5
 (try rw [List.length_map] at hlen5)
 (try rw [List.length_map])
 refine st ?_
 refine nw ?_
 refine Zw hF (fun hc6 hF => ?_) (fun hc6 hF => ?_)
 ·refine AWP.seq ?_
  refine ns ?_
  obtain rfl := Zs hF
  refine ns ?_
  refine Exists.intro [] ?_
  refine st ?_
  exact wx (WS.mk (tc Ze) Zf)
 ·refine nw ?_
  refine AWP.seq ?_
  refine AWP.seq ?_
  refine ns ?_
  intro hlen7
  (try rw [List.length_map] at hlen7)
  (try rw [List.length_map])
  refine st ?_
  refine AWP.block ?_
  refine AWP.loop ?_
  refine AWL.weak (rn []) ?_ (ZiE s1_ s2_ 0 s1_ _ hF ([]) rfl rfl hlen7 hlen5)
  exact (WS.mk (tc (tc (tc (tc Ze)))) Zf)

def ZdM (s : ByteArray) (i_3 : Nat) : Option (Bool) :=
 if (decide (((i_3 : Nat) : Int) < ((s.size : Nat) : Int))) = true then
 (btI s ((i_3 : Nat) : Int)) >>= fun y21 =>
 (if (decide (((y21.toNat : Nat) : Int) < 33)) = true then some true else (btI s ((i_3 : Nat) : Int)) >>= fun y22 =>
 some (decide (((y22.toNat : Nat) : Int) > 126))) >>= fun c23 =>
 if c23 = true then
 some false
 else
 ZaY (i_3 + 1 ≤ 9223372036854775807) >>= fun _ =>
 ZdM s (i_3 + 1)
 else
 some true
 partial_fixpoint
def ZdM.M (s : ByteArray) (i_3 : Nat) (r : Bool) : Prop :=
 AWL Tryz.prog 35 (Code.sub (Zt Tryz.f49) [1, 1, 0, 1, 0, 0]) (Code.cont Tryz.prog 35 (Zt Tryz.f49) [1, 1, 0, 1, 0] (Zbl tab Tryz.f49.results (Zbo (.c none (.v (.bool r))) []))) ⟨[(0, .c none (.v (.string s))), (3, .c none (.v (.int .i64 ((i_3 : Nat) : Int))))], []⟩
theorem ZoV (s : ByteArray) (i_3 : Nat) : ∀ r, ZdM s i_3 = some r → ZdM.M s i_3 r := by
 refine ZdM.partial_correctness s (fun i_3 r => ZdM.M s i_3 r) ?_ i_3
 intro stg_name_l1' Zks i_3 r hF
 have ZoZ := fun (_s : ByteArray) (i_3 : Nat) => Zks i_3
 clear Zks
 unfold ZdM.M
 refine AWL.step ?_
 refine AWP.seq ?_
 refine AWP.seq ?_
 refine ns ?_
 refine nw ?_
 refine Zw hF (fun Zn0 hF => ?_) (fun Zn0 hF => ?_)
 ·refine nw ?_
  refine AWP.seq ?_
  refine AWP.block ?_
  refine AWP.seq ?_
  obtain ⟨y21, hy210, ZBn, hF⟩ := ZtS hF
  obtain ⟨c23, Zjm, hF⟩ := bind_some hF
  refine AWP.cutN (fun T => ∃ r, WS r T ⟨[(0, .c none (.v (.string s))), (3, .c none (.v (.int .i64 ((i_3 : Nat) : Int)))), (34, .c none (.v (.bool c23)))], []⟩) ?_ (fun T hw => ?_)
  ·refine nn ?_
   refine sr ZBn ?_
   refine st ?_
   refine ZA false (fun Znl => ?_) (fun Znl => ?_)
   ·have Zjm := ift Znl Zjm
    (conv => whnf)
    obtain rfl := Zs Zjm
    refine st ?_
    exact wx (WS.mk (tc (tc (Zj (Zaj (web Znl)) Ze))) Zf)
   ·have Zjm := ife Znl Zjm
    obtain ⟨y22, hy220, ZBo, Zjm⟩ := ZtS Zjm
    (conv => whnf)
    refine sr ZBo ?_
    obtain rfl := Zs Zjm
    refine st ?_
    exact wx (WS.mk (tc (tc (Zj (Zaj (web Znl)) Ze))) Zf)
  obtain ⟨r0, hw⟩ := hw
  (conv => whnf)
  refine AWP.weak r0 hw ?_
  refine nw ?_
  refine Zw hF (fun ZAY hF => ?_) (fun ZAY hF => ?_)
  ·refine AWP.seq ?_
   refine ns ?_
   obtain rfl := Zs hF
   refine ns ?_
   refine Exists.intro [] ?_
   refine st ?_
   exact wx (WS.mk (tc Ze) Zf)
  ·refine nw ?_
   obtain ⟨Zxu, hF⟩ := ZV hF
   refine ns ?_
   refine AWL.weak (rn []) ?_ (ZoZ s (i_3 + 1) _ hF)
   exact (WS.mk (tc (Zj (Zaj (Zcw (Zvr Zxu))) Ze)) Zf)
 ·refine nw ?_
  refine AWP.seq ?_
  refine ns ?_
  obtain rfl := Zs hF
  refine ns ?_
  refine Exists.intro [] ?_
  refine st ?_
  exact wx (WS.mk (tc Ze) Zf)

def Zdy (s : ByteArray) : Option (Bool) :=
 if ((((s.toList == (ByteArray.mk #[]).toList) || (s.toList == (ByteArray.mk #[40]).toList)) || (s.toList == (ByteArray.mk #[41]).toList)) || (decide (((s.size : Nat) : Int) > 158))) = true then
 some false
 else
 ZdM s 0
def Zdy.M (s : ByteArray) (r : Bool) : Prop :=
 Zn Tryz.prog 49 [.c none (.v (.string s))] [] (fun d b => d = .c none (.v (.bool r)) ∧ b = [])
theorem ZfP (s : ByteArray) (r : Bool) (hF : Zdy s = some r) : Zdy.M s r := by
 unfold Zdy at hF
 unfold Zdy.M
 refine en Tryz.func49 ?_
 refine AWP.seq ?_
 refine ns ?_
 refine AWP.seq ?_
 refine AWP.seq ?_
 refine AWP.cutN (fun T => ∃ r, WS r T ⟨[(0, .c none (.v (.string s))), (18, .c none (.v (.bool ((((s.toList == (ByteArray.mk #[]).toList) || (s.toList == (ByteArray.mk #[40]).toList)) || (s.toList == (ByteArray.mk #[41]).toList)) || (decide (((s.size : Nat) : Int) > 158))))))], []⟩) ?_ (fun T hw => ?_)
 ·refine ns ?_
  refine ZA false (fun hc2 => ?_) (fun hc2 => ?_)
  ·(conv => whnf)
   refine st ?_
   exact wx (WS.mk (tc (Zj (Zaj (web hc2)) Ze)) Zf)
  ·(conv => whnf)
   refine st ?_
   refine ZA false (fun hc3 => ?_) (fun hc3 => ?_)
   ·(conv => whnf)
    refine st ?_
    exact wx (WS.mk (tc (Zj (Zaj (web (And.intro hc2 hc3))) Ze)) Zf)
   ·(conv => whnf)
    refine st ?_
    refine ZA false (fun hc4 => ?_) (fun hc4 => ?_)
    ·(conv => whnf)
     refine st ?_
     exact wx (WS.mk (tc (Zj (Zaj (web (And.intro hc2 (And.intro hc3 hc4)))) Ze)) Zf)
    ·(conv => whnf)
     refine st ?_
     exact wx (WS.mk (tc (Zj (Zaj (web (And.intro hc2 (And.intro hc3 hc4)))) Ze)) Zf)
 obtain ⟨r0, hw⟩ := hw
 (conv => whnf)
 refine AWP.weak r0 hw ?_
 refine nw ?_
 refine Zw hF (fun hc5 hF => ?_) (fun hc5 hF => ?_)
 ·refine AWP.seq ?_
  refine ns ?_
  obtain rfl := Zs hF
  refine ns ?_
  refine Exists.intro [] ?_
  refine st ?_
  exact wx (WS.mk (tc Ze) Zf)
 ·refine nw ?_
  refine AWP.seq ?_
  refine AWP.seq ?_
  refine ns ?_
  refine AWP.block ?_
  refine AWP.loop ?_
  refine AWL.weak (rn []) ?_ (ZoV s 0 _ hF)
  exact (WS.mk (tc (tc Ze)) Zf)

def Zb0 (l : (List ByteArray)) (x_9 : Nat) (ZhH : (List (ByteArray × Bool))) (ZhX : (List ByteArray)) : Option (Bool) :=
 (match ZhX with
 | x25 :: ZsB =>
 Zdy x25 >>= fun r32 =>
 (if (!r32) = true then some true else Zcf ZhH false x25 >>= fun r33 =>
 some r33.1) >>= fun c34 =>
 if c34 = true then
 some false
 else
 Zb0 l (x_9 + 1) (ZcQ ZhH x25 true) ZsB
 | [] =>
 some true)
 partial_fixpoint
def Zb0.M (l : (List ByteArray)) (x_9 : Nat) (ZhH : (List (ByteArray × Bool))) (ZhX : (List ByteArray)) (r : Bool) : Prop :=
 ∀ Zoe : List ByteArray, l = Zoe ++ ZhX → x_9 = Zoe.length → l.length ≤ maxLen → AWL Tryz.prog 24 (Code.sub (Zt Tryz.f50) [1, 1, 0, 1, 0, 0]) (Code.cont Tryz.prog 24 (Zt Tryz.f50) [1, 1, 0, 1, 0] (Zbl tab Tryz.f50.results (Zbo (.c none (.v (.bool r))) []))) ⟨[(3, .c none (.rf 6)), (7, .c none (.sl (l.map c_S))), (8, .c none (.v (.int .i64 ((l.length : Nat) : Int)))), (9, .c none (.v (.int .i64 ((x_9 : Nat) : Int))))], [(6, [(none, .ob 169 (ZhH.map (Zz c_S c_B)))])]⟩
theorem ZlM (l : (List ByteArray)) (x_9 : Nat) (ZhH : (List (ByteArray × Bool))) (ZhX : (List ByteArray)) : ∀ r, Zb0 l x_9 ZhH ZhX = some r → Zb0.M l x_9 ZhH ZhX r := by
 refine Zb0.partial_correctness l (fun x_9 ZhH ZhX r => Zb0.M l x_9 ZhH ZhX r) ?_ x_9 ZhH ZhX
 intro stg_different_l1' ZhN x_9 ZhH ZhX r hF
 have ZlL := fun (_l : (List ByteArray)) (x_9 : Nat) (ZhH : (List (ByteArray × Bool))) (ZhX : (List ByteArray)) => ZhN x_9 ZhH ZhX
 clear ZhN
 unfold Zb0.M
 intro Zoe ZvZ Zwj hlen1
 refine AWL.step ?_
 refine AWP.seq ?_
 refine ns ?_
 refine AWP.seq ?_
 refine nw ?_
 refine ZB ZvZ Zwj (fun x25 ZsB ZsJ Zvh ZxT => ?_) (fun ZsJ => ?_)
 ·subst ZsJ
  refine nw ?_
  refine AWP.seq ?_
  refine AWP.block ?_
  refine AWP.seq ?_
  refine nn ?_
  refine sr (Z9 (f := c_S) rfl Zvh) ?_
  refine st ?_
  refine AWP.seq ?_
  refine AWP.seq ?_
  obtain ⟨r32, Zx4, hF⟩ := bind_some hF
  obtain ⟨c34, ZkH, hF⟩ := bind_some hF
  refine AWP.cutN (fun T => ∃ r, WS r T ⟨[(3, .c none (.rf 6)), (5, .c none (.v (.string x25))), (7, .c none (.sl (l.map c_S))), (8, .c none (.v (.int .i64 ((l.length : Nat) : Int)))), (9, .c none (.v (.int .i64 ((x_9 : Nat) : Int)))), (20, .c none (.v (.bool c34)))], [(6, [(none, .ob 169 (ZhH.map (Zz c_S c_B)))])]⟩) ?_ (fun T hw => ?_)
  ·refine ns ?_
   refine e3 ?_
   refine st ?_
   refine cm (Zn.weak (rn []) (ZfP x25 _ Zx4) rfl (WS.mk (tc Ze) Zf)) ?_
   refine st ?_
   refine ZA false (fun Znb => ?_) (fun Znb => ?_)
   ·have ZkH := ift Znb ZkH
    (conv => whnf)
    obtain rfl := Zs ZkH
    refine st ?_
    exact wx (WS.mk (tc (tc (tc (tc (tc (Zj (Zaj (web Znb)) Ze)))))) (Za rfl (cc Zb) Zf))
   ·have ZkH := ife Znb ZkH
    obtain ⟨r33, Zyh, ZkH⟩ := bind_some ZkH
    (conv => whnf)
    refine st ?_
    refine ZbB (m := ZhH) (k := x25) Zay (ev := c_B) Zyh rfl (fun x => Zok x) rfl rfl (lc Zr) ?_
    obtain rfl := Zs ZkH
    refine st ?_
    exact wx (WS.mk (tc (tc (tc (tc (tc (Zj (Zaj (web Znb)) Ze)))))) (Za rfl (cc Zb) Zf))
  obtain ⟨r0, hw⟩ := hw
  (conv => whnf)
  refine AWP.weak r0 hw ?_
  refine nw ?_
  refine Zw hF (fun ZxU hF => ?_) (fun ZxU hF => ?_)
  ·refine AWP.seq ?_
   refine ns ?_
   obtain rfl := Zs hF
   refine ns ?_
   refine Exists.intro [] ?_
   refine st ?_
   exact wx (WS.mk (tc Ze) Zf)
  ·refine nw ?_
   refine ns ?_
   refine ZcI (m := ZhH) (k := x25) (v := true) Zay (ev := c_B) (lc Zr) ?_
   refine st ?_
   refine ns ?_
   refine AWL.weak (rn []) ?_ (ZlL l (x_9 + 1) (ZcQ ZhH x25 true) ZsB _ hF (Zoe ++ [x25]) (by rw [ZvZ]; simp) (by rw [Zwj]; simp) hlen1)
   exact (WS.mk (tc (tc (tc (Zj (Zaj (Zcw (ZD hlen1 ZxT))) Ze)))) (Za rfl (cc Zb) Zf))
 ·subst ZsJ
  refine nw ?_
  refine AWP.seq ?_
  refine ns ?_
  obtain rfl := Zs hF
  refine ns ?_
  refine Exists.intro [] ?_
  refine st ?_
  exact wx (WS.mk (tc Ze) Zf)

def ZcV (l : (List ByteArray)) : Option (Bool) :=
 Zb0 l 0 ([] : List (ByteArray × Bool)) l
def ZcV.M (l : (List ByteArray)) (r : Bool) : Prop :=
 Zn Tryz.prog 50 [.c none (.sl (l.map c_S))] [] (fun d b => d = .c none (.v (.bool r)) ∧ b = [])
theorem Zf0 (l : (List ByteArray)) (r : Bool) (hF : ZcV l = some r) : ZcV.M l r := by
 unfold ZcV at hF
 unfold ZcV.M
 refine en Tryz.func50 ?_
 refine AWP.seq ?_
 refine ns ?_
 refine AWP.seq ?_
 refine ns ?_
 refine AWP.seq ?_
 refine AWP.seq ?_
 refine ns ?_
 intro hlen1
 (try rw [List.length_map] at hlen1)
 (try rw [List.length_map])
 refine st ?_
 refine AWP.block ?_
 refine AWP.loop ?_
 refine AWL.weak (rn []) ?_ (ZlM l 0 ([] : List (ByteArray × Bool)) l _ hF ([]) rfl rfl hlen1)
 exact (WS.mk (tc (tc (tc (tc Ze)))) (Za rfl (cc Zb) Zf))

mutual
def Zbz (scrut : ByteArray) (l : (List Zi)) (ZbL : Nat) (ZbM : (List (ByteArray × Bool))) (ZaQ : (List (Int × Bool))) : Option (Bool) :=
 if (decide (((ZbL : Nat) : Int) < ((l.length : Nat) : Int))) = true then
 (l[ZbL]?) >>= fun ZaI =>
 if (ZaI.fOp == 1) = true then
 Zdy ZaI.fName >>= fun Zz5 =>
 (if (!Zz5) = true then some true else Zcf ZbM false ZaI.fName >>= fun Zzx =>
 some Zzx.1) >>= fun c364 =>
 (if (c364 || (ZaI.fN != 0)) = true then some true else ZaY ((([scrut]).length + ZaI.fVars.length) * 16 ≤ 140737488355328) >>= fun _ =>
 ZcV (([scrut]) ++ ZaI.fVars) >>= fun Zzu =>
 some (!Zzu)) >>= fun c367 =>
 if c367 = true then
 some false
 else
 Zcl scrut l ZbL ZaI (ZcQ ZbM ZaI.fName true) ZaQ
 else
 if (ZaI.fOp == 2) = true then
 ZcN scrut l ZbL ZaI (ZaI.fOp == 2) ZbM ZaQ
 else
 ZcN scrut l ZbL ZaI (ZaI.fOp == 3) ZbM ZaQ
 else
 some true
 partial_fixpoint
def ZcN (scrut : ByteArray) (l : (List Zi)) (ZbL : Nat) (ZaI : Zi) (Zo7 : Bool) (ZbM : (List (ByteArray × Bool))) (ZaQ : (List (Int × Bool))) : Option (Bool) :=
 if Zo7 = true then
 (if ((!(ZaI.fName.toList == (ByteArray.mk #[]).toList)) || (decide (((ZaI.fVars.length : Nat) : Int) > 0))) = true then some true else Zcf ZaQ false ZaI.fN >>= fun ZAw =>
 some ZAw.1) >>= fun c380 =>
 if (c380 || ((ZaI.fOp == 3) && ((decide (ZaI.fN < 0)) || (decide (ZaI.fN > 255))))) = true then
 some false
 else
 Zcl scrut l ZbL ZaI ZbM (ZcQ ZaQ ZaI.fN true)
 else
 if (ZaI.fOp == 4) = true then
 if ((((((ZbL : Nat) : Int) != (IntKind.i64.wrap (((l.length : Nat) : Int) - 1))) || (!(ZaI.fName.toList == (ByteArray.mk #[]).toList))) || (ZaI.fN != 0)) || (decide (((ZaI.fVars.length : Nat) : Int) > 0))) = true then
 some false
 else
 Zcl scrut l ZbL ZaI ZbM ZaQ
 else
 some false
 partial_fixpoint
def Zcl (scrut : ByteArray) (l : (List Zi)) (ZbL : Nat) (ZaI : Zi) (ZbM : (List (ByteArray × Bool))) (ZaQ : (List (Int × Bool))) : Option (Bool) :=
 (if (ZaI.fOp != 4) = true then (ixI l 0) >>= fun ZyJ =>
 some (ZaI.fOp != ZyJ.fOp) else some false) >>= fun c351 =>
 if c351 = true then
 some false
 else
 Zbz scrut l (ZbL + 1) ZbM ZaQ
 partial_fixpoint
end
def Zbz.M (scrut : ByteArray) (l : (List Zi)) (ZbL : Nat) (ZbM : (List (ByteArray × Bool))) (ZaQ : (List (Int × Bool))) (r : Bool) : Prop :=
 l.length ≤ maxLen → AWL Tryz.prog 121 (Code.sub (Zt Tryz.f116) [1, 1, 0, 1, 0, 0]) (Code.cont Tryz.prog 121 (Zt Tryz.f116) [1, 1, 0, 1, 0] (Zbl tab Tryz.f116.results (Zbo (.c none (.v (.bool r))) []))) ⟨[(0, .c none (.v (.string scrut))), (1, .c none (.sl (l.map Zi.cells))), (5, .c none (.rf 9)), (6, .c none (.rf 10)), (11, .c none (.sl (l.map Zi.cells))), (12, .c none (.v (.int .i64 ((l.length : Nat) : Int)))), (13, .c none (.v (.int .i64 ((ZbL : Nat) : Int))))], [(9, [(none, .ob 169 (ZbM.map (Zz c_S c_B)))]), (10, [(none, .ob 339 (ZaQ.map (Zz Zm c_B)))])]⟩
def ZcN.M (scrut : ByteArray) (l : (List Zi)) (ZbL : Nat) (ZaI : Zi) (Zo7 : Bool) (ZbM : (List (ByteArray × Bool))) (ZaQ : (List (Int × Bool))) (r : Bool) : Prop :=
 l.length ≤ maxLen → ZbL < l.length → AWP Tryz.prog 121 (Code.sub (Zt Tryz.f116) [1, 1, 0, 1, 0, 0, 1, 1, 0, 0, 1, 0, 1, 0, 1, 1, 1]) (Code.cont Tryz.prog 121 (Zt Tryz.f116) [1, 1, 0, 1, 0, 0, 1, 1, 0, 0, 1, 0, 1, 0, 1, 1, 1] (Zbl tab Tryz.f116.results (Zbo (.c none (.v (.bool r))) []))) ⟨[(0, .c none (.v (.string scrut))), (1, .c none (.sl (l.map Zi.cells))), (5, .c none (.rf 9)), (6, .c none (.rf 10)), (7, .c none (.v (.int .i64 ((ZbL : Nat) : Int)))), (8, .ptr 8 0), (11, .c none (.sl (l.map Zi.cells))), (12, .c none (.v (.int .i64 ((l.length : Nat) : Int)))), (13, .c none (.v (.int .i64 ((ZbL : Nat) : Int)))), (19, .c none (.v (.int .i64 ZaI.fOp))), (49, .c none (.v (.bool Zo7)))], [(8, [(none, .v (.int .i64 ZaI.fOp)), (none, .v (.string ZaI.fName)), (none, .v (.int .i64 ZaI.fN)), (none, .sl (ZaI.fVars.map c_S)), (none, .v (.int .i64 ZaI.fBody.fOp)), (none, .v (.string ZaI.fBody.fName)), (none, .sl (ZaI.fBody.fArgs.map Zq.cells)), (none, .v (.bool ZaI.fBody.fRec)), (none, .sl (ZaI.fBody.fBinds.map Zc.cells)), (none, .sl (ZaI.fBody.fKids.map Zo.cells)), (none, .sl (ZaI.fBody.fAlts.map Zi.cells))]), (9, [(none, .ob 169 (ZbM.map (Zz c_S c_B)))]), (10, [(none, .ob 339 (ZaQ.map (Zz Zm c_B)))])]⟩
def Zcl.M (scrut : ByteArray) (l : (List Zi)) (ZbL : Nat) (ZaI : Zi) (ZbM : (List (ByteArray × Bool))) (ZaQ : (List (Int × Bool))) (r : Bool) : Prop :=
 l.length ≤ maxLen → ZbL < l.length → AWP Tryz.prog 121 (Code.sub (Zt Tryz.f116) [1, 1, 0, 1, 0, 0, 1, 1, 0, 0, 1, 1]) (Code.cont Tryz.prog 121 (Zt Tryz.f116) [1, 1, 0, 1, 0, 0, 1, 1, 0, 0, 1, 1] (Zbl tab Tryz.f116.results (Zbo (.c none (.v (.bool r))) []))) ⟨[(0, .c none (.v (.string scrut))), (1, .c none (.sl (l.map Zi.cells))), (5, .c none (.rf 9)), (6, .c none (.rf 10)), (8, .ptr 8 0), (11, .c none (.sl (l.map Zi.cells))), (12, .c none (.v (.int .i64 ((l.length : Nat) : Int)))), (13, .c none (.v (.int .i64 ((ZbL : Nat) : Int))))], [(8, [(none, .v (.int .i64 ZaI.fOp)), (none, .v (.string ZaI.fName)), (none, .v (.int .i64 ZaI.fN)), (none, .sl (ZaI.fVars.map c_S)), (none, .v (.int .i64 ZaI.fBody.fOp)), (none, .v (.string ZaI.fBody.fName)), (none, .sl (ZaI.fBody.fArgs.map Zq.cells)), (none, .v (.bool ZaI.fBody.fRec)), (none, .sl (ZaI.fBody.fBinds.map Zc.cells)), (none, .sl (ZaI.fBody.fKids.map Zo.cells)), (none, .sl (ZaI.fBody.fAlts.map Zi.cells))]), (9, [(none, .ob 169 (ZbM.map (Zz c_S c_B)))]), (10, [(none, .ob 339 (ZaQ.map (Zz Zm c_B)))])]⟩
theorem Zjr (scrut : ByteArray) (l : (List Zi)) : (∀ (ZbL : Nat) (ZbM : (List (ByteArray × Bool))) (ZaQ : (List (Int × Bool))), ∀ r, Zbz scrut l ZbL ZbM ZaQ = some r → Zbz.M scrut l ZbL ZbM ZaQ r) ∧ (∀ (ZbL : Nat) (ZaI : Zi) (Zo7 : Bool) (ZbM : (List (ByteArray × Bool))) (ZaQ : (List (Int × Bool))), ∀ r, ZcN scrut l ZbL ZaI Zo7 ZbM ZaQ = some r → ZcN.M scrut l ZbL ZaI Zo7 ZbM ZaQ r) ∧ (∀ (ZbL : Nat) (ZaI : Zi) (ZbM : (List (ByteArray × Bool))) (ZaQ : (List (Int × Bool))), ∀ r, Zcl scrut l ZbL ZaI ZbM ZaQ = some r → Zcl.M scrut l ZbL ZaI ZbM ZaQ r) := by
 refine Zbz.mutual_partial_correctness scrut l (fun ZbL ZbM ZaQ r => Zbz.M scrut l ZbL ZbM ZaQ r) (fun ZbL ZaI Zo7 ZbM ZaQ r => ZcN.M scrut l ZbL ZaI Zo7 ZbM ZaQ r) (fun ZbL ZaI ZbM ZaQ r => Zcl.M scrut l ZbL ZaI ZbM ZaQ r) ?_ ?_ ?_
 ·intro stg_alternatives_k3' stg_alternatives_k2' ZgR Zc7 ZbL ZbM ZaQ r hF
  have Zg9 := fun (_scrut : ByteArray) (_l : (List Zi)) (ZbL : Nat) (ZaI : Zi) (Zo7 : Bool) (ZbM : (List (ByteArray × Bool))) (ZaQ : (List (Int × Bool))) => ZgR ZbL ZaI Zo7 ZbM ZaQ
  clear ZgR
  have ZdY := fun (_scrut : ByteArray) (_l : (List Zi)) (ZbL : Nat) (ZaI : Zi) (ZbM : (List (ByteArray × Bool))) (ZaQ : (List (Int × Bool))) => Zc7 ZbL ZaI ZbM ZaQ
  clear Zc7
  unfold Zbz.M
  intro hlen178
  refine AWL.step ?_
  refine AWP.seq ?_
  refine ns ?_
  refine AWP.seq ?_
  refine nw ?_
  refine Zw hF (fun Zw8 hF => ?_) (fun Zw8 hF => ?_)
  ·have Zny := Znh Zw8
   refine nw ?_
   refine AWP.seq ?_
   refine AWP.block ?_
   refine AWP.seq ?_
   obtain ⟨ZaI, Zy0, hF⟩ := bind_some hF
   refine nn ?_
   refine sr (Z9 (f := Zi.cells) (Zi.cells_eq ZaI) Zy0) ?_
   refine st ?_
   refine AWP.seq ?_
   refine AWP.seq ?_
   refine ns ?_
   refine AWP.block ?_
   refine AWP.seq ?_
   refine ns ?_
   refine nw ?_
   refine Zw hF (fun Zu8 hF => ?_) (fun Zu8 hF => ?_)
   ·refine AWP.seq ?_
    refine AWP.seq ?_
    obtain ⟨Zz5, Zy2, hF⟩ := bind_some hF
    obtain ⟨c364, Znv, hF⟩ := bind_some hF
    obtain ⟨c367, Zh1, hF⟩ := bind_some hF
    refine AWP.cutN (fun T => ∃ r, WS r T ⟨[(0, .c none (.v (.string scrut))), (1, .c none (.sl (l.map Zi.cells))), (5, .c none (.rf 9)), (6, .c none (.rf 10)), (8, .ptr 8 0), (11, .c none (.sl (l.map Zi.cells))), (12, .c none (.v (.int .i64 ((l.length : Nat) : Int)))), (13, .c none (.v (.int .i64 ((ZbL : Nat) : Int)))), (45, .c none (.v (.bool c367)))], [(8, [(none, .v (.int .i64 ZaI.fOp)), (none, .v (.string ZaI.fName)), (none, .v (.int .i64 ZaI.fN)), (none, .sl (ZaI.fVars.map c_S)), (none, .v (.int .i64 ZaI.fBody.fOp)), (none, .v (.string ZaI.fBody.fName)), (none, .sl (ZaI.fBody.fArgs.map Zq.cells)), (none, .v (.bool ZaI.fBody.fRec)), (none, .sl (ZaI.fBody.fBinds.map Zc.cells)), (none, .sl (ZaI.fBody.fKids.map Zo.cells)), (none, .sl (ZaI.fBody.fAlts.map Zi.cells))]), (9, [(none, .ob 169 (ZbM.map (Zz c_S c_B)))]), (10, [(none, .ob 339 (ZaQ.map (Zz Zm c_B)))])]⟩) ?_ (fun T hw => ?_)
    ·refine ns ?_
     refine e3 ?_
     refine st ?_
     refine cm (Zn.weak (rn []) (ZfP ZaI.fName _ Zy2) rfl (WS.mk (tc Ze) Zf)) ?_
     refine st ?_
     refine ZA false (fun ZkV => ?_) (fun ZkV => ?_)
     ·have Znv := ift ZkV Znv
      (conv => whnf)
      obtain rfl := Zs Znv
      have Zh1 := ift ZkV Zh1
      obtain rfl := Zs Zh1
      refine st ?_
      exact wx (WS.mk (tc (tc (tc (tc (tp (tc (tc (tc (Zj (Zaj (web ZkV)) Ze))))))))) (Za rfl (cc (cc (cc (cc (cc (cc (cc (cc (cc (cc (cc Zb))))))))))) (Za rfl (cc Zb) (Za rfl (cc Zb) Zf))))
     ·have Znv := ife ZkV Znv
      obtain ⟨Zzx, Zz9, Znv⟩ := bind_some Znv
      (conv => whnf)
      refine st ?_
      refine ZbB (m := ZbM) (k := ZaI.fName) Zay (ev := c_B) Zz9 rfl (fun x => Zok x) rfl rfl (lc Zr) ?_
      obtain rfl := Zs Znv
      refine st ?_
      refine ZA false (fun Zpn => ?_) (fun Zpn => ?_)
      ·(conv => whnf)
       have Zh1 := ift (And.intro ZkV Zpn) Zh1
       obtain rfl := Zs Zh1
       refine st ?_
       exact wx (WS.mk (tc (tc (tc (tc (tp (tc (tc (tc (Zj (Zaj (web (And.intro ZkV Zpn))) Ze))))))))) (Za rfl (cc (cc (cc (cc (cc (cc (cc (cc (cc (cc (cc Zb))))))))))) (Za rfl (cc Zb) (Za rfl (cc Zb) Zf))))
      ·(conv => whnf)
       refine st ?_
       refine ZA false (fun Zr0 => ?_) (fun Zr0 => ?_)
       ·have Zh1 := ift (And.intro ZkV (And.intro Zpn Zr0)) Zh1
        (conv => whnf)
        obtain rfl := Zs Zh1
        refine st ?_
        exact wx (WS.mk (tc (tc (tc (tc (tp (tc (tc (tc (Zj (Zaj (web (And.intro ZkV (And.intro Zpn Zr0)))) Ze))))))))) (Za rfl (cc (cc (cc (cc (cc (cc (cc (cc (cc (cc (cc Zb))))))))))) (Za rfl (cc Zb) (Za rfl (cc Zb) Zf))))
       ·have Zh1 := ife (And.intro ZkV (And.intro Zpn Zr0)) Zh1
        obtain ⟨ZAr, Zh1⟩ := ZV Zh1
        obtain ⟨Zzu, ZzH, Zh1⟩ := bind_some Zh1
        (conv => whnf)
        refine st ?_
        refine Exists.intro _ (And.intro (ZE (f := c_S) (lc Zr) (Zx (f := c_S))) ?_)
        refine sa (fun l => ZaE l (fun x => Zbk x)) ZAr ?_
        refine Exists.intro _ (And.intro (WE.refl _) ?_)
        rw [← List.map_append]
        refine st ?_
        refine Exists.intro [42] (Exists.intro [] (Exists.intro [] ?_))
        refine st ?_
        refine cm (Zn.weak (rn []) (Zf0 (([scrut]) ++ ZaI.fVars) _ ZzH) rfl (WS.mk (tc Ze) Zf)) ?_
        refine st ?_
        obtain rfl := Zs Zh1
        refine st ?_
        exact wx (WS.mk (tc (tc (tc (tc (tp (tc (tc (tc (Zj (Zaj (web (And.intro ZkV (And.intro Zpn Zr0)))) Ze))))))))) (Za rfl (cc (cc (cc (cc (cc (cc (cc (cc (cc (cc (cc Zb))))))))))) (Za rfl (cc Zb) (Za rfl (cc Zb) Zf))))
    obtain ⟨r0, hw⟩ := hw
    (conv => whnf)
    refine AWP.weak r0 hw ?_
    refine nw ?_
    refine Zw hF (fun ZAz hF => ?_) (fun ZAz hF => ?_)
    ·refine AWP.seq ?_
     refine ns ?_
     obtain rfl := Zs hF
     refine ns ?_
     refine Exists.intro [] ?_
     refine st ?_
     exact wx (WS.mk (tc Ze) Zf)
    ·refine nw ?_
     refine ns ?_
     refine ZcI (m := ZbM) (k := ZaI.fName) (v := true) Zay (ev := c_B) (lc Zr) ?_
     refine st ?_
     refine AWP.weak (rn []) ?_ (ZdY scrut l ZbL ZaI (ZcQ ZbM ZaI.fName true) ZaQ _ hF hlen178 Zny)
     exact (WS.mk (tc (tc (tc (tc (tp (tc (tc (tc Ze)))))))) (Za rfl (cc (cc (cc (cc (cc (cc (cc (cc (cc (cc (cc Zb))))))))))) (Za rfl (cc Zb) (Za rfl (cc Zb) Zf))))
   ·refine AWP.seq ?_
    refine AWP.seq ?_
    refine ns ?_
    refine nw ?_
    refine Zw hF (fun ZAf hF => ?_) (fun ZAf hF => ?_)
    ·refine nw ?_
     refine AWP.weak (rn []) ?_ (Zg9 scrut l ZbL ZaI (ZaI.fOp == 2) ZbM ZaQ _ hF hlen178 Zny)
     exact (WS.mk (tc (tc (tc (tc (tc (tp (tc (tc (tc (tc (tc Ze))))))))))) (Za rfl (cc (cc (cc (cc (cc (cc (cc (cc (cc (cc (cc Zb))))))))))) (Za rfl (cc Zb) (Za rfl (cc Zb) Zf))))
    ·refine ns ?_
     refine AWP.weak (rn []) ?_ (Zg9 scrut l ZbL ZaI (ZaI.fOp == 3) ZbM ZaQ _ hF hlen178 Zny)
     exact (WS.mk (tc (tc (tc (tc (tc (tp (tc (tc (tc (tc (tc Ze))))))))))) (Za rfl (cc (cc (cc (cc (cc (cc (cc (cc (cc (cc (cc Zb))))))))))) (Za rfl (cc Zb) (Za rfl (cc Zb) Zf))))
  ·refine nw ?_
   refine AWP.seq ?_
   refine ns ?_
   obtain rfl := Zs hF
   refine ns ?_
   refine Exists.intro [] ?_
   refine st ?_
   exact wx (WS.mk (tc Ze) Zf)
 ·intro stg_alternatives_k2' Zc7 ZbL ZaI Zo7 ZbM ZaQ r hF
  have ZdY := fun (_scrut : ByteArray) (_l : (List Zi)) (ZbL : Nat) (ZaI : Zi) (ZbM : (List (ByteArray × Bool))) (ZaQ : (List (Int × Bool))) => Zc7 ZbL ZaI ZbM ZaQ
  clear Zc7
  unfold ZcN.M
  intro hlen178 Zny
  refine nw ?_
  refine Zw hF (fun ZzU hF => ?_) (fun ZzU hF => ?_)
  ·refine AWP.seq ?_
   refine AWP.seq ?_
   obtain ⟨c380, Zla, hF⟩ := bind_some hF
   refine AWP.cutN (fun T => ∃ r, WS r T ⟨[(0, .c none (.v (.string scrut))), (1, .c none (.sl (l.map Zi.cells))), (5, .c none (.rf 9)), (6, .c none (.rf 10)), (8, .ptr 8 0), (11, .c none (.sl (l.map Zi.cells))), (12, .c none (.v (.int .i64 ((l.length : Nat) : Int)))), (13, .c none (.v (.int .i64 ((ZbL : Nat) : Int)))), (81, .c none (.v (.bool (c380 || ((ZaI.fOp == 3) && ((decide (ZaI.fN < 0)) || (decide (ZaI.fN > 255))))))))], [(8, [(none, .v (.int .i64 ZaI.fOp)), (none, .v (.string ZaI.fName)), (none, .v (.int .i64 ZaI.fN)), (none, .sl (ZaI.fVars.map c_S)), (none, .v (.int .i64 ZaI.fBody.fOp)), (none, .v (.string ZaI.fBody.fName)), (none, .sl (ZaI.fBody.fArgs.map Zq.cells)), (none, .v (.bool ZaI.fBody.fRec)), (none, .sl (ZaI.fBody.fBinds.map Zc.cells)), (none, .sl (ZaI.fBody.fKids.map Zo.cells)), (none, .sl (ZaI.fBody.fAlts.map Zi.cells))]), (9, [(none, .ob 169 (ZbM.map (Zz c_S c_B)))]), (10, [(none, .ob 339 (ZaQ.map (Zz Zm c_B)))])]⟩) ?_ (fun T hw => ?_)
   ·refine ns ?_
    refine ZA false (fun ZlS => ?_) (fun ZlS => ?_)
    ·(conv => whnf)
     have Zla := ift ZlS Zla
     obtain rfl := Zs Zla
     refine st ?_
     exact wx (WS.mk (tc (tc (tc (tc (tp (tc (tc (tc (Zj (Zaj (web ZlS)) Ze))))))))) (Za rfl (cc (cc (cc (cc (cc (cc (cc (cc (cc (cc (cc Zb))))))))))) (Za rfl (cc Zb) (Za rfl (cc Zb) Zf))))
    ·(conv => whnf)
     refine st ?_
     intro hlen378
     (try rw [List.length_map] at hlen378)
     (try rw [List.length_map])
     refine st ?_
     refine ZA false (fun ZnN => ?_) (fun ZnN => ?_)
     ·have Zla := ift (And.intro ZlS ZnN) Zla
      (conv => whnf)
      obtain rfl := Zs Zla
      refine st ?_
      exact wx (WS.mk (tc (tc (tc (tc (tp (tc (tc (tc (Zj (Zaj (web (And.intro ZlS ZnN))) Ze))))))))) (Za rfl (cc (cc (cc (cc (cc (cc (cc (cc (cc (cc (cc Zb))))))))))) (Za rfl (cc Zb) (Za rfl (cc Zb) Zf))))
     ·have Zla := ife (And.intro ZlS ZnN) Zla
      obtain ⟨ZAw, Zzz, Zla⟩ := bind_some Zla
      (conv => whnf)
      refine st ?_
      refine ZbB (m := ZaQ) (k := ZaI.fN) ZnB (ev := c_B) Zzz rfl (fun x => Zok x) rfl rfl (lc Zr) ?_
      obtain rfl := Zs Zla
      refine st ?_
      refine ZA false (fun Zrn => ?_) (fun Zrn => ?_)
      ·(conv => whnf)
       refine st ?_
       exact wx (WS.mk (tc (tc (tc (tc (tp (tc (tc (tc (Zj (Zaj (web (And.intro ZlS (And.intro ZnN Zrn)))) Ze))))))))) (Za rfl (cc (cc (cc (cc (cc (cc (cc (cc (cc (cc (cc Zb))))))))))) (Za rfl (cc Zb) (Za rfl (cc Zb) Zf))))
      ·(conv => whnf)
       refine st ?_
       refine ZA true (fun Zti => ?_) (fun Zti => ?_)
       ·(conv => whnf)
        refine st ?_
        refine ZA false (fun Zvk => ?_) (fun Zvk => ?_)
        ·(conv => whnf)
         refine st ?_
         exact wx (WS.mk (tc (tc (tc (tc (tp (tc (tc (tc (Zj (Zaj (web (And.intro ZlS (And.intro ZnN (And.intro Zrn (And.intro Zti Zvk)))))) Ze))))))))) (Za rfl (cc (cc (cc (cc (cc (cc (cc (cc (cc (cc (cc Zb))))))))))) (Za rfl (cc Zb) (Za rfl (cc Zb) Zf))))
        ·(conv => whnf)
         refine st ?_
         exact wx (WS.mk (tc (tc (tc (tc (tp (tc (tc (tc (Zj (Zaj (web (And.intro ZlS (And.intro ZnN (And.intro Zrn (And.intro Zti Zvk)))))) Ze))))))))) (Za rfl (cc (cc (cc (cc (cc (cc (cc (cc (cc (cc (cc Zb))))))))))) (Za rfl (cc Zb) (Za rfl (cc Zb) Zf))))
       ·(conv => whnf)
        refine st ?_
        exact wx (WS.mk (tc (tc (tc (tc (tp (tc (tc (tc (Zj (Zaj (web (And.intro ZlS (And.intro ZnN (And.intro Zrn Zti))))) Ze))))))))) (Za rfl (cc (cc (cc (cc (cc (cc (cc (cc (cc (cc (cc Zb))))))))))) (Za rfl (cc Zb) (Za rfl (cc Zb) Zf))))
   obtain ⟨r0, hw⟩ := hw
   (conv => whnf)
   refine AWP.weak r0 hw ?_
   refine nw ?_
   refine Zw hF (fun ZAi hF => ?_) (fun ZAi hF => ?_)
   ·refine AWP.seq ?_
    refine ns ?_
    obtain rfl := Zs hF
    refine ns ?_
    refine Exists.intro [] ?_
    refine st ?_
    exact wx (WS.mk (tc Ze) Zf)
   ·refine nw ?_
    refine ns ?_
    refine ZcI (m := ZaQ) (k := ZaI.fN) (v := true) ZnB (ev := c_B) (lc Zr) ?_
    refine st ?_
    refine AWP.weak (rn []) ?_ (ZdY scrut l ZbL ZaI ZbM (ZcQ ZaQ ZaI.fN true) _ hF hlen178 Zny)
    exact (WS.mk (tc (tc (tc (tc (tp (tc (tc (tc Ze)))))))) (Za rfl (cc (cc (cc (cc (cc (cc (cc (cc (cc (cc (cc Zb))))))))))) (Za rfl (cc Zb) (Za rfl (cc Zb) Zf))))
  ·refine AWP.seq ?_
   refine ns ?_
   refine nw ?_
   refine Zw hF (fun ZAO hF => ?_) (fun ZAO hF => ?_)
   ·refine AWP.seq ?_
    refine AWP.cutN (fun T => ∃ r, WS r T ⟨[(0, .c none (.v (.string scrut))), (1, .c none (.sl (l.map Zi.cells))), (5, .c none (.rf 9)), (6, .c none (.rf 10)), (8, .ptr 8 0), (11, .c none (.sl (l.map Zi.cells))), (12, .c none (.v (.int .i64 ((l.length : Nat) : Int)))), (13, .c none (.v (.int .i64 ((ZbL : Nat) : Int)))), (107, .c none (.v (.bool ((((((ZbL : Nat) : Int) != (IntKind.i64.wrap (((l.length : Nat) : Int) - 1))) || (!(ZaI.fName.toList == (ByteArray.mk #[]).toList))) || (ZaI.fN != 0)) || (decide (((ZaI.fVars.length : Nat) : Int) > 0))))))], [(8, [(none, .v (.int .i64 ZaI.fOp)), (none, .v (.string ZaI.fName)), (none, .v (.int .i64 ZaI.fN)), (none, .sl (ZaI.fVars.map c_S)), (none, .v (.int .i64 ZaI.fBody.fOp)), (none, .v (.string ZaI.fBody.fName)), (none, .sl (ZaI.fBody.fArgs.map Zq.cells)), (none, .v (.bool ZaI.fBody.fRec)), (none, .sl (ZaI.fBody.fBinds.map Zc.cells)), (none, .sl (ZaI.fBody.fKids.map Zo.cells)), (none, .sl (ZaI.fBody.fAlts.map Zi.cells))]), (9, [(none, .ob 169 (ZbM.map (Zz c_S c_B)))]), (10, [(none, .ob 339 (ZaQ.map (Zz Zm c_B)))])]⟩) ?_ (fun T hw => ?_)
    ·refine ns ?_
     intro hlen388
     (try rw [List.length_map] at hlen388)
     (try rw [List.length_map])
     refine st ?_
     refine ZA false (fun Zrg => ?_) (fun Zrg => ?_)
     ·(conv => whnf)
      refine st ?_
      exact wx (WS.mk (tc (tc (tc (tc (tp (tc (tc (tc (Zj (Zaj (web Zrg)) Ze))))))))) (Za rfl (cc (cc (cc (cc (cc (cc (cc (cc (cc (cc (cc Zb))))))))))) (Za rfl (cc Zb) (Za rfl (cc Zb) Zf))))
     ·(conv => whnf)
      refine st ?_
      refine ZA false (fun ZtM => ?_) (fun ZtM => ?_)
      ·(conv => whnf)
       refine st ?_
       exact wx (WS.mk (tc (tc (tc (tc (tp (tc (tc (tc (Zj (Zaj (web (And.intro Zrg ZtM))) Ze))))))))) (Za rfl (cc (cc (cc (cc (cc (cc (cc (cc (cc (cc (cc Zb))))))))))) (Za rfl (cc Zb) (Za rfl (cc Zb) Zf))))
      ·(conv => whnf)
       refine st ?_
       refine ZA false (fun ZvP => ?_) (fun ZvP => ?_)
       ·(conv => whnf)
        refine st ?_
        exact wx (WS.mk (tc (tc (tc (tc (tp (tc (tc (tc (Zj (Zaj (web (And.intro Zrg (And.intro ZtM ZvP)))) Ze))))))))) (Za rfl (cc (cc (cc (cc (cc (cc (cc (cc (cc (cc (cc Zb))))))))))) (Za rfl (cc Zb) (Za rfl (cc Zb) Zf))))
       ·(conv => whnf)
        refine st ?_
        intro hlen389
        (try rw [List.length_map] at hlen389)
        (try rw [List.length_map])
        refine st ?_
        exact wx (WS.mk (tc (tc (tc (tc (tp (tc (tc (tc (Zj (Zaj (web (And.intro Zrg (And.intro ZtM ZvP)))) Ze))))))))) (Za rfl (cc (cc (cc (cc (cc (cc (cc (cc (cc (cc (cc Zb))))))))))) (Za rfl (cc Zb) (Za rfl (cc Zb) Zf))))
    obtain ⟨r0, hw⟩ := hw
    (conv => whnf)
    refine AWP.weak r0 hw ?_
    refine nw ?_
    refine Zw hF (fun ZAt hF => ?_) (fun ZAt hF => ?_)
    ·refine AWP.seq ?_
     refine ns ?_
     obtain rfl := Zs hF
     refine ns ?_
     refine Exists.intro [] ?_
     refine st ?_
     exact wx (WS.mk (tc Ze) Zf)
    ·refine nw ?_
     refine AWP.weak (rn []) ?_ (ZdY scrut l ZbL ZaI ZbM ZaQ _ hF hlen178 Zny)
     exact (WS.mk (tc (tc (tc (tc (tp (tc (tc (tc Ze)))))))) (Za rfl (cc (cc (cc (cc (cc (cc (cc (cc (cc (cc (cc Zb))))))))))) (Za rfl (cc Zb) (Za rfl (cc Zb) Zf))))
   ·refine AWP.seq ?_
    refine ns ?_
    obtain rfl := Zs hF
    refine ns ?_
    refine Exists.intro [] ?_
    refine st ?_
    exact wx (WS.mk (tc Ze) Zf)
 ·intro stg_alternatives_l1' ZgL ZbL ZaI ZbM ZaQ r hF
  have Zj8 := fun (_scrut : ByteArray) (_l : (List Zi)) (ZbL : Nat) (ZbM : (List (ByteArray × Bool))) (ZaQ : (List (Int × Bool))) => ZgL ZbL ZbM ZaQ
  clear ZgL
  unfold Zcl.M
  intro hlen178 Zny
  refine AWP.seq ?_
  obtain ⟨c351, Znz, hF⟩ := bind_some hF
  refine AWP.cutN (fun T => ∃ r, WS r T ⟨[(0, .c none (.v (.string scrut))), (1, .c none (.sl (l.map Zi.cells))), (5, .c none (.rf 9)), (6, .c none (.rf 10)), (11, .c none (.sl (l.map Zi.cells))), (12, .c none (.v (.int .i64 ((l.length : Nat) : Int)))), (13, .c none (.v (.int .i64 ((ZbL : Nat) : Int)))), (119, .c none (.v (.bool c351)))], [(9, [(none, .ob 169 (ZbM.map (Zz c_S c_B)))]), (10, [(none, .ob 339 (ZaQ.map (Zz Zm c_B)))])]⟩) ?_ (fun T hw => ?_)
  ·refine nn ?_
   refine Or.inl (Or.inl (Exists.intro 10 (Exists.intro [[], [], [], [], [], [], [], [], [], []] (Exists.intro [([108, 109, 110, 111, 112, 113, 114, 115, 116, 117], [], []), ([109, 110, 111, 112, 113, 114, 115, 116, 117], [], []), ([110, 111, 112, 113, 114, 115, 116, 117], [], []), ([111, 112, 113, 114, 115, 116, 117], [], []), ([112, 113, 114, 115, 116, 117], [], []), ([113, 114, 115, 116, 117], [], []), ([112, 113, 114, 115, 116, 117], [], []), ([112, 113, 115, 116, 117], [], []), ([112, 113, 116, 117], [], []), ([112, 113, 117], [], [])] (Exists.intro [108, 109, 110, 111, 112, 113, 114, 115, 116, 117] (And.intro (by decide +kernel) ?_))))))
   refine dp ?_
   refine dp ?_
   refine dp ?_
   refine dp ?_
   refine st ?_
   refine ZA true (fun ZoX => ?_) (fun ZoX => ?_)
   ·have Znz := ift ZoX Znz
    obtain ⟨ZyJ, hx3500, ZzS, Znz⟩ := ZiQ Znz
    (conv => whnf)
    refine dp ?_
    refine dp ?_
    refine dp ?_
    refine dr (ZhL (Zi.cells_eq ZyJ) ZzS) ?_
    refine dp ?_
    refine dp ?_
    obtain rfl := Zs Znz
    refine st ?_
    exact wx (WS.mk (tc (tc (tc (tc (tc (tc (tc (Zj (Zaj (web ZoX)) Ze)))))))) (Za rfl (cc Zb) (Za rfl (cc Zb) Zf)))
   ·have Znz := ife ZoX Znz
    (conv => whnf)
    obtain rfl := Zs Znz
    refine st ?_
    exact wx (WS.mk (tc (tc (tc (tc (tc (tc (tc (Zj (Zaj (web ZoX)) Ze)))))))) (Za rfl (cc Zb) (Za rfl (cc Zb) Zf)))
  obtain ⟨r0, hw⟩ := hw
  (conv => whnf)
  refine AWP.weak r0 hw ?_
  refine nw ?_
  refine Zw hF (fun Zzt hF => ?_) (fun Zzt hF => ?_)
  ·refine AWP.seq ?_
   refine ns ?_
   obtain rfl := Zs hF
   refine ns ?_
   refine Exists.intro [] ?_
   refine st ?_
   exact wx (WS.mk (tc Ze) Zf)
  ·refine nw ?_
   refine ns ?_
   refine AWL.weak (rn []) ?_ (Zj8 scrut l (ZbL + 1) ZbM ZaQ _ hF hlen178)
   exact (WS.mk (tc (tc (tc (tc (tc (tc (Zj (Zaj (Zcw (ZD hlen178 Zny))) Ze))))))) (Za rfl (cc Zb) (Za rfl (cc Zb) Zf)))
theorem Zkm : ∀ (scrut : ByteArray) (l : (List Zi)) (ZbL : Nat) (ZbM : (List (ByteArray × Bool))) (ZaQ : (List (Int × Bool))), ∀ r, Zbz scrut l ZbL ZbM ZaQ = some r → Zbz.M scrut l ZbL ZbM ZaQ r := fun scrut l ZbL ZbM ZaQ => (Zjr scrut l).1 ZbL ZbM ZaQ

def Zd7 (scrut : ByteArray) (l : (List Zi)) : Option (Bool) :=
 Zbz scrut l 0 ([] : List (ByteArray × Bool)) ([] : List (Int × Bool))
def Zd7.M (scrut : ByteArray) (l : (List Zi)) (r : Bool) : Prop :=
 Zn Tryz.prog 116 [.c none (.v (.string scrut)), .c none (.sl (l.map Zi.cells))] [] (fun d b => d = .c none (.v (.bool r)) ∧ b = [])
theorem ZlK (scrut : ByteArray) (l : (List Zi)) (r : Bool) (hF : Zd7 scrut l = some r) : Zd7.M scrut l r := by
 unfold Zd7 at hF
 unfold Zd7.M
 refine en Tryz.func116 ?_
 refine AWP.seq ?_
 refine ns ?_
 refine AWP.seq ?_
 refine ns ?_
 refine AWP.seq ?_
 refine AWP.seq ?_
 refine ns ?_
 intro hlen178
 (try rw [List.length_map] at hlen178)
 (try rw [List.length_map])
 refine st ?_
 refine AWP.block ?_
 refine AWP.loop ?_
 refine AWL.weak (rn []) ?_ (Zkm scrut l 0 ([] : List (ByteArray × Bool)) ([] : List (Int × Bool)) _ hF hlen178)
 exact (WS.mk (tc (tc (tc (tc (tc (tc (tc Ze))))))) (Za rfl (cc Zb) (Za rfl (cc Zb) Zf)))

def Zjz (a : Zq) : Option (Bool) :=
 if (a.fOp == 1) = true then
 Zdy a.fName >>= fun r2 =>
 some (r2 && (a.fN == 0))
 else
 if (a.fOp == 2) = true then
 some (a.fName.toList == (ByteArray.mk #[]).toList)
 else
 if (a.fOp == 3) = true then
 some (((a.fName.toList == (ByteArray.mk #[]).toList) && (decide (a.fN ≥ 0))) && (decide (a.fN ≤ 255)))
 else
 some false
def Zjz.M (a : Zq) (r : Bool) : Prop :=
 Zn Tryz.prog 111 [.agg [.v (.int .i64 a.fOp), .v (.string a.fName), .v (.int .i64 a.fN)]] [] (fun d b => d = .c none (.v (.bool r)) ∧ b = [])
theorem Zrf (a : Zq) (r : Bool) (hF : Zjz a = some r) : Zjz.M a r := by
 unfold Zjz at hF
 unfold Zjz.M
 refine en Tryz.func111 ?_
 refine AWP.seq ?_
 refine ns ?_
 refine AWP.seq ?_
 refine AWP.seq ?_
 refine ns ?_
 refine AWP.block ?_
 refine AWP.seq ?_
 refine ns ?_
 refine nw ?_
 refine Zw hF (fun hc1 hF => ?_) (fun hc1 hF => ?_)
 ·refine AWP.seq ?_
  obtain ⟨r2, hr2, hF⟩ := bind_some hF
  refine AWP.cutN (fun T => ∃ r, WS r T ⟨[(2, .c none (.v (.bool (r2 && (a.fN == 0)))))], []⟩) ?_ (fun T hw => ?_)
  ·refine ns ?_
   refine e3 ?_
   refine st ?_
   refine cm (Zn.weak (rn []) (ZfP a.fName _ hr2) rfl (WS.mk (tc Ze) Zf)) ?_
   refine st ?_
   refine ZA true (fun hc3 => ?_) (fun hc3 => ?_)
   ·(conv => whnf)
    refine st ?_
    exact wx (WS.mk (Zj (Zaj (web hc3)) Ze) Zf)
   ·(conv => whnf)
    refine st ?_
    exact wx (WS.mk (Zj (Zaj (web hc3)) Ze) Zf)
  obtain ⟨r0, hw⟩ := hw
  (conv => whnf)
  refine AWP.weak r0 hw ?_
  obtain rfl := Zs hF
  refine ns ?_
  refine Exists.intro [] ?_
  refine st ?_
  exact wx (WS.mk (tc Ze) Zf)
 ·refine AWP.seq ?_
  refine ns ?_
  refine nw ?_
  refine Zw hF (fun hc4 hF => ?_) (fun hc4 hF => ?_)
  ·refine AWP.seq ?_
   refine ns ?_
   obtain rfl := Zs hF
   refine ns ?_
   refine Exists.intro [] ?_
   refine st ?_
   exact wx (WS.mk (tc Ze) Zf)
  ·refine AWP.seq ?_
   refine ns ?_
   refine nw ?_
   refine Zw hF (fun hc5 hF => ?_) (fun hc5 hF => ?_)
   ·refine AWP.seq ?_
    refine AWP.cutN (fun T => ∃ r, WS r T ⟨[(2, .c none (.v (.bool (((a.fName.toList == (ByteArray.mk #[]).toList) && (decide (a.fN ≥ 0))) && (decide (a.fN ≤ 255))))))], []⟩) ?_ (fun T hw => ?_)
    ·refine ns ?_
     refine ZA true (fun hc6 => ?_) (fun hc6 => ?_)
     ·(conv => whnf)
      refine st ?_
      refine ZA true (fun hc7 => ?_) (fun hc7 => ?_)
      ·(conv => whnf)
       refine st ?_
       exact wx (WS.mk (Zj (Zaj (web (And.intro hc6 hc7))) Ze) Zf)
      ·(conv => whnf)
       refine st ?_
       exact wx (WS.mk (Zj (Zaj (web (And.intro hc6 hc7))) Ze) Zf)
     ·(conv => whnf)
      refine st ?_
      exact wx (WS.mk (Zj (Zaj (web hc6)) Ze) Zf)
    obtain ⟨r0, hw⟩ := hw
    (conv => whnf)
    refine AWP.weak r0 hw ?_
    obtain rfl := Zs hF
    refine ns ?_
    refine Exists.intro [] ?_
    refine st ?_
    exact wx (WS.mk (tc Ze) Zf)
   ·refine nw ?_
    refine AWP.seq ?_
    refine ns ?_
    obtain rfl := Zs hF
    refine ns ?_
    refine Exists.intro [] ?_
    refine st ?_
    exact wx (WS.mk (tc Ze) Zf)

def Zae (c : Zh) (ok : Bool) : Option (Zh) :=
 if (!ok) = true then
 some (Zh.mk c.fcons c.flocal true)
 else
 some c
def Zae.M (c : Zh) (ok : Bool) (r : Zh) : Prop :=
 Zn Tryz.prog 48 [.ptr 1000 0, .c none (.v (.bool ok))] [(1000, [(none, .rf 1001), (none, .rf 1002), (none, .v (.bool c.fbad))]), (1001, [(none, .ob 165 (c.fcons.map (Zz c_S Zm)))]), (1002, [(none, .ob 167 (c.flocal.map (Zz c_S Zm)))])] (fun d b => d = .tup [] ∧ b = [(1000, [(none, .rf 1001), (none, .rf 1002), (none, .v (.bool r.fbad))]), (1001, [(none, .ob 165 (r.fcons.map (Zz c_S Zm)))]), (1002, [(none, .ob 167 (r.flocal.map (Zz c_S Zm)))])])
theorem Z8 (c : Zh) (ok : Bool) (r : Zh) (hF : Zae c ok = some r) : Zae.M c ok r := by
 unfold Zae at hF
 unfold Zae.M
 refine en Tryz.func48 ?_
 refine AWP.seq ?_
 refine ns ?_
 refine nw ?_
 refine Zw hF (fun hc1 hF => ?_) (fun hc1 hF => ?_)
 ·refine ns ?_
  obtain rfl := Zs hF
  refine Exists.intro [(1000, 1000), (1001, 1001), (1002, 1002)] ?_
  refine st ?_
  exact wx (WS.mk (Zj (Zb1 Zb3) Ze) (Za rfl (cc (cc (cc Zb))) (Za rfl (cc Zb) (Za rfl (cc Zb) Zf))))
 ·refine nw ?_
  obtain rfl := Zs hF
  refine Exists.intro [(1000, 1000), (1001, 1001), (1002, 1002)] ?_
  refine st ?_
  exact wx (WS.mk (Zj (Zb1 Zb3) Ze) (Za rfl (cc (cc (cc Zb))) (Za rfl (cc Zb) (Za rfl (cc Zb) Zf))))

def ZcG (c : Zh) (s : ByteArray) (n : Int) : Option (Zh) :=
 Zcf c.fcons 0 s >>= fun r1 =>
 Zae c ((!r1.2) || (r1.1 == n)) >>= fun r2 =>
 some r2
def ZcG.M (c : Zh) (s : ByteArray) (n : Int) (r : Zh) : Prop :=
 Zn Tryz.prog 113 [.ptr 1000 0, .c none (.v (.string s)), .c none (.v (.int .i64 n))] [(1000, [(none, .rf 1001), (none, .rf 1002), (none, .v (.bool c.fbad))]), (1001, [(none, .ob 165 (c.fcons.map (Zz c_S Zm)))]), (1002, [(none, .ob 167 (c.flocal.map (Zz c_S Zm)))])] (fun d b => d = .tup [] ∧ b = [(1000, [(none, .rf 1001), (none, .rf 1002), (none, .v (.bool r.fbad))]), (1001, [(none, .ob 165 (r.fcons.map (Zz c_S Zm)))]), (1002, [(none, .ob 167 (r.flocal.map (Zz c_S Zm)))])])
theorem Zir (c : Zh) (s : ByteArray) (n : Int) (r : Zh) (hF : ZcG c s n = some r) : ZcG.M c s n r := by
 unfold ZcG at hF
 unfold ZcG.M
 refine en Tryz.func113 ?_
 refine AWP.seq ?_
 obtain ⟨r1, hr1, hF⟩ := bind_some hF
 refine ns ?_
 refine ZbB (m := c.fcons) (k := s) Zay (ev := Zm) hr1 rfl (fun x => ZaO x) rfl rfl (lc Zr) ?_
 refine st ?_
 obtain ⟨r2, hr2, hF⟩ := bind_some hF
 refine AWP.cutE ⟨[], [(1000, [(none, .rf 1001), (none, .rf 1002), (none, .v (.bool r2.fbad))]), (1001, [(none, .ob 165 (r2.fcons.map (Zz c_S Zm)))]), (1002, [(none, .ob 167 (r2.flocal.map (Zz c_S Zm)))])]⟩ ?_ ?_
 ·refine ns ?_
  refine ZA false (fun hc3 => ?_) (fun hc3 => ?_)
  ·(conv => whnf)
   refine st ?_
   refine Exists.intro [] (Exists.intro [(1000, 1000), (1001, 1001), (1002, 1002)] (Exists.intro [] ?_))
   refine st ?_
   refine cm (Zn.weak (rn []) (Z8 c ((!r1.2) || (r1.1 == n)) _ hr2) rfl (WS.mk (tp (Zj (Zaj (web hc3)) Ze)) (Za rfl (cc (cc (cc Zb))) (Za rfl (cc Zb) (Za rfl (cc Zb) Zf))))) ?_
   refine st ?_
   exact wx (WS.mk Ze (Za rfl (cc (cc (cc Zb))) (Za rfl (cc Zb) (Za rfl (cc Zb) Zf))))
  ·(conv => whnf)
   refine st ?_
   refine Exists.intro [] (Exists.intro [(1000, 1000), (1001, 1001), (1002, 1002)] (Exists.intro [] ?_))
   refine st ?_
   refine cm (Zn.weak (rn []) (Z8 c ((!r1.2) || (r1.1 == n)) _ hr2) rfl (WS.mk (tp (Zj (Zaj (web hc3)) Ze)) (Za rfl (cc (cc (cc Zb))) (Za rfl (cc Zb) (Za rfl (cc Zb) Zf))))) ?_
   refine st ?_
   exact wx (WS.mk Ze (Za rfl (cc (cc (cc Zb))) (Za rfl (cc Zb) (Za rfl (cc Zb) Zf))))
 (conv => whnf)
 obtain rfl := Zs hF
 refine Exists.intro [(1000, 1000), (1001, 1001), (1002, 1002)] ?_
 refine st ?_
 exact wx (WS.mk (Zj (Zb1 Zb3) Ze) (Za rfl (cc (cc (cc Zb))) (Za rfl (cc Zb) (Za rfl (cc Zb) Zf))))

def Zcx (c : Zh) (s : ByteArray) : Option (Zh) :=
 Zdy s >>= fun r1 =>
 Zae c r1 >>= fun r2 =>
 some r2
def Zcx.M (c : Zh) (s : ByteArray) (r : Zh) : Prop :=
 Zn Tryz.prog 112 [.ptr 1000 0, .c none (.v (.string s))] [(1000, [(none, .rf 1001), (none, .rf 1002), (none, .v (.bool c.fbad))]), (1001, [(none, .ob 165 (c.fcons.map (Zz c_S Zm)))]), (1002, [(none, .ob 167 (c.flocal.map (Zz c_S Zm)))])] (fun d b => d = .tup [] ∧ b = [(1000, [(none, .rf 1001), (none, .rf 1002), (none, .v (.bool r.fbad))]), (1001, [(none, .ob 165 (r.fcons.map (Zz c_S Zm)))]), (1002, [(none, .ob 167 (r.flocal.map (Zz c_S Zm)))])])
theorem ZgQ (c : Zh) (s : ByteArray) (r : Zh) (hF : Zcx c s = some r) : Zcx.M c s r := by
 unfold Zcx at hF
 unfold Zcx.M
 refine en Tryz.func112 ?_
 obtain ⟨r1, hr1, hF⟩ := bind_some hF
 obtain ⟨r2, hr2, hF⟩ := bind_some hF
 refine ns ?_
 refine e3 ?_
 refine st ?_
 refine cm (Zn.weak (rn []) (ZfP s _ hr1) rfl (WS.mk (tc Ze) Zf)) ?_
 refine st ?_
 refine Exists.intro [] (Exists.intro [(1000, 1000), (1001, 1001), (1002, 1002)] (Exists.intro [] ?_))
 refine st ?_
 refine cm (Zn.weak (rn []) (Z8 c r1 _ hr2) rfl (WS.mk (tp (tc Ze)) (Za rfl (cc (cc (cc Zb))) (Za rfl (cc Zb) (Za rfl (cc Zb) Zf))))) ?_
 refine st ?_
 obtain rfl := Zs hF
 refine Exists.intro [(1000, 1000), (1001, 1001), (1002, 1002)] ?_
 refine st ?_
 exact wx (WS.mk (Zj (Zb1 Zb3) Ze) (Za rfl (cc (cc (cc Zb))) (Za rfl (cc Zb) (Za rfl (cc Zb) Zf))))

def Zci (v0_ : Zd) (v1_ : Zc) : Option (Zd) :=
 ZaH v0_ v1_.fBody >>= fun r1 =>
 some r1
def Zci.M (v0_ : Zd) (v1_ : Zc) (r : Zd) : Prop :=
 Zn Tryz.prog 109 [.ptr 1000 0, .ptr 1004 0] [(1000, [(none, .pt 1001 0)]), (1001, [(none, .rf 1002), (none, .rf 1003), ((some (3052, 9)), .sl (v0_.fout.map c_S))]), (1002, [(none, .ob 167 (v0_.fbound.map (Zz c_S Zm)))]), (1003, [(none, .ob 169 (v0_.fseen.map (Zz c_S c_B)))]), (1004, [(none, .v (.string v1_.fName)), (none, .v (.int .i64 v1_.fOp)), (none, .sl (v1_.fFree.map c_S)), (none, .sl (v1_.fParams.map c_S)), (none, .v (.int .i64 v1_.fBody.fOp)), (none, .v (.string v1_.fBody.fName)), (none, .sl (v1_.fBody.fArgs.map Zq.cells)), (none, .v (.bool v1_.fBody.fRec)), (none, .sl (v1_.fBody.fBinds.map Zc.cells)), (none, .sl (v1_.fBody.fKids.map Zo.cells)), (none, .sl (v1_.fBody.fAlts.map Zi.cells))])] (fun d b => d = .tup [] ∧ b = [(1000, [(none, .pt 1001 0)]), (1001, [(none, .rf 1002), (none, .rf 1003), ((some (3052, 9)), .sl (r.fout.map c_S))]), (1002, [(none, .ob 167 (r.fbound.map (Zz c_S Zm)))]), (1003, [(none, .ob 169 (r.fseen.map (Zz c_S c_B)))]), (1004, [(none, .v (.string v1_.fName)), (none, .v (.int .i64 v1_.fOp)), (none, .sl (v1_.fFree.map c_S)), (none, .sl (v1_.fParams.map c_S)), (none, .v (.int .i64 v1_.fBody.fOp)), (none, .v (.string v1_.fBody.fName)), (none, .sl (v1_.fBody.fArgs.map Zq.cells)), (none, .v (.bool v1_.fBody.fRec)), (none, .sl (v1_.fBody.fBinds.map Zc.cells)), (none, .sl (v1_.fBody.fKids.map Zo.cells)), (none, .sl (v1_.fBody.fAlts.map Zi.cells))])])
theorem Zme (v0_ : Zd) (v1_ : Zc) (r : Zd) (hF : Zci v0_ v1_ = some r) : Zci.M v0_ v1_ r := by
 unfold Zci at hF
 unfold Zci.M
 refine en Tryz.func109 ?_
 obtain ⟨r1, hr1, hF⟩ := bind_some hF
 refine ns ?_
 refine Exists.intro [] (Exists.intro [(1001, 1000), (1002, 1001), (1003, 1002)] (Exists.intro [] ?_))
 refine st ?_
 refine cm (Zn.weak (rn [(3052, 3002)]) (Zij v0_ v1_.fBody _ hr1) rfl (WS.mk (tp (Zj (ZaM (lc (lc (lc (lc (lc (lc (lc Zr)))))))) Ze)) (Za rfl (cc (cc (Zaf rfl (WE.refl _) Zb))) (Za rfl (cc Zb) (Za rfl (cc Zb) Zf))))) ?_
 refine st ?_
 obtain rfl := Zs hF
 refine Exists.intro [(1000, 1000), (1001, 1001), (1002, 1002), (1003, 1003), (1004, 1004)] ?_
 refine st ?_
 exact Exists.intro (rn [(3002, 3052)]) (WS.mk (Zj (Zb1 Zb3) Ze) (Za rfl (cc Zb) (Za rfl (cc (cc (Zaf rfl (WE.refl _) Zb))) (Za rfl (cc Zb) (Za rfl (cc Zb) (Za rfl (cc (cc (cc (cc (cc (cc (cc (cc (cc (cc (cc Zb))))))))))) Zf))))))

def Z6 (l : (List ByteArray)) (Zad : Nat) (r28 : (Zd)) (Zp : (List (ByteArray × Int))) (g2_c1 : Zc) (Zu : (List ByteArray)) : Option (Zd) :=
 (match Zu with
 | x39 :: Zez =>
 Zcf Zp 0 x39 >>= fun r42 =>
 Z6 l (Zad + 1) r28 (ZcQ Zp x39 (IntKind.i64.wrap (r42.1 - 1))) g2_c1 Zez
 | [] =>
 some (Zd.mk Zp r28.fseen r28.fout))
 partial_fixpoint
def Z6.M (l : (List ByteArray)) (Zad : Nat) (r28 : (Zd)) (Zp : (List (ByteArray × Int))) (g2_c1 : Zc) (Zu : (List ByteArray)) (r : Zd) : Prop :=
 ∀ Z5 : List ByteArray, l = Z5 ++ Zu → Zad = Z5.length → l.length ≤ maxLen → AWL Tryz.prog 34 (Code.sub (Zt Tryz.f78) [1, 1, 1, 0, 0]) (Code.cont Tryz.prog 34 (Zt Tryz.f78) [1, 1, 1, 0] (Zbl tab Tryz.f78.results (Zbo (.tup []) [(1000, [(none, .pt 1001 0)]), (1001, [(none, .rf 1002), (none, .rf 1003), ((some (3052, 9)), .sl (r.fout.map c_S))]), (1002, [(none, .ob 167 (r.fbound.map (Zz c_S Zm)))]), (1003, [(none, .ob 169 (r.fseen.map (Zz c_S c_B)))]), (1004, [(none, .v (.string g2_c1.fName)), (none, .v (.int .i64 g2_c1.fOp)), (none, .sl (g2_c1.fFree.map c_S)), (none, .sl (g2_c1.fParams.map c_S)), (none, .v (.int .i64 g2_c1.fBody.fOp)), (none, .v (.string g2_c1.fBody.fName)), (none, .sl (g2_c1.fBody.fArgs.map Zq.cells)), (none, .v (.bool g2_c1.fBody.fRec)), (none, .sl (g2_c1.fBody.fBinds.map Zc.cells)), (none, .sl (g2_c1.fBody.fKids.map Zo.cells)), (none, .sl (g2_c1.fBody.fAlts.map Zi.cells))])]))) ⟨[(0, .c none (.rf 1002)), (23, .c none (.sl (l.map c_S))), (24, .c none (.v (.int .i64 ((l.length : Nat) : Int)))), (25, .c none (.v (.int .i64 ((Zad : Nat) : Int))))], [(1000, [(none, .pt 1001 0)]), (1001, [(none, .rf 1002), (none, .rf 1003), ((some (3052, 9)), .sl (r28.fout.map c_S))]), (1002, [(none, .ob 167 (Zp.map (Zz c_S Zm)))]), (1003, [(none, .ob 169 (r28.fseen.map (Zz c_S c_B)))]), (1004, [(none, .v (.string g2_c1.fName)), (none, .v (.int .i64 g2_c1.fOp)), (none, .sl (g2_c1.fFree.map c_S)), (none, .sl (g2_c1.fParams.map c_S)), (none, .v (.int .i64 g2_c1.fBody.fOp)), (none, .v (.string g2_c1.fBody.fName)), (none, .sl (g2_c1.fBody.fArgs.map Zq.cells)), (none, .v (.bool g2_c1.fBody.fRec)), (none, .sl (g2_c1.fBody.fBinds.map Zc.cells)), (none, .sl (g2_c1.fBody.fKids.map Zo.cells)), (none, .sl (g2_c1.fBody.fAlts.map Zi.cells))])]⟩
theorem Zgp (l : (List ByteArray)) (Zad : Nat) (r28 : (Zd)) (Zp : (List (ByteArray × Int))) (g2_c1 : Zc) (Zu : (List ByteArray)) : ∀ r, Z6 l Zad r28 Zp g2_c1 Zu = some r → Z6.M l Zad r28 Zp g2_c1 Zu r := by
 refine Z6.partial_correctness l r28 g2_c1 (fun Zad Zp Zu r => Z6.M l Zad r28 Zp g2_c1 Zu r) ?_ Zad Zp Zu
 intro stg_scope_with_stg_freeBind_1_l2' ZdX Zad Zp Zu r hF
 have Zgd := fun (_l : (List ByteArray)) (Zad : Nat) (_r28 : (Zd)) (Zp : (List (ByteArray × Int))) (_g2_c1 : Zc) (Zu : (List ByteArray)) => ZdX Zad Zp Zu
 clear ZdX
 unfold Z6.M
 intro Z5 ZbI ZbJ hlen29
 refine AWL.step ?_
 refine AWP.seq ?_
 refine ns ?_
 refine AWP.seq ?_
 refine nw ?_
 refine ZB ZbI ZbJ (fun x39 Zez Zev Zi9 Zi4 => ?_) (fun Zev => ?_)
 ·subst Zev
  refine nw ?_
  refine AWP.seq ?_
  refine AWP.block ?_
  refine AWP.seq ?_
  refine nn ?_
  refine sr (Z9 (f := c_S) rfl Zi9) ?_
  refine st ?_
  obtain ⟨r42, Zit, hF⟩ := bind_some hF
  refine ns ?_
  refine ZbB (m := Zp) (k := x39) Zay (ev := Zm) Zit rfl (fun x => ZaO x) rfl rfl (lc Zr) ?_
  refine st ?_
  refine ZcI (m := Zp) (k := x39) (v := (IntKind.i64.wrap (r42.1 - 1))) Zay (ev := Zm) (lc Zr) ?_
  refine st ?_
  refine ns ?_
  refine AWL.weak (rn [(3052, 3052)]) ?_ (Zgd l (Zad + 1) r28 (ZcQ Zp x39 (IntKind.i64.wrap (r42.1 - 1))) g2_c1 Zez _ hF (Z5 ++ [x39]) (by rw [ZbI]; simp) (by rw [ZbJ]; simp) hlen29)
  exact (WS.mk (tc (tc (tc (Zj (Zaj (Zcw (ZD hlen29 Zi4))) Ze)))) (Za rfl (cc Zb) (Za rfl (cc (cc (Zaf rfl (WE.refl _) Zb))) (Za rfl (cc Zb) (Za rfl (cc Zb) (Za rfl (cc (cc (cc (cc (cc (cc (cc (cc (cc (cc (cc Zb))))))))))) Zf))))))
 ·subst Zev
  refine nw ?_
  obtain rfl := Zs hF
  refine Exists.intro [(1000, 1000), (1001, 1001), (1002, 1002), (1003, 1003), (1004, 1004)] ?_
  refine st ?_
  exact Exists.intro (rn [(3052, 3052)]) (WS.mk (Zj (Zb1 Zb3) Ze) (Za rfl (cc Zb) (Za rfl (cc (cc (Zaf rfl (WE.refl _) Zb))) (Za rfl (cc Zb) (Za rfl (cc Zb) (Za rfl (cc (cc (cc (cc (cc (cc (cc (cc (cc (cc (cc Zb))))))))))) Zf))))))

def Z7 (l : (List ByteArray)) (ZaS : Nat) (g2_c0 : Zd) (Zp : (List (ByteArray × Int))) (g2_c1 : Zc) (ZF : (List ByteArray)) : Option (Zd) :=
 (match ZF with
 | x24 :: Zeb =>
 Zcf Zp 0 x24 >>= fun r27 =>
 Z7 l (ZaS + 1) g2_c0 (ZcQ Zp x24 (IntKind.i64.wrap (r27.1 + 1))) g2_c1 Zeb
 | [] =>
 Zci (Zd.mk Zp g2_c0.fseen g2_c0.fout) g2_c1 >>= fun r28 =>
 Z6 l 0 r28 r28.fbound g2_c1 l)
 partial_fixpoint
def Z7.M (l : (List ByteArray)) (ZaS : Nat) (g2_c0 : Zd) (Zp : (List (ByteArray × Int))) (g2_c1 : Zc) (ZF : (List ByteArray)) (r : Zd) : Prop :=
 ∀ Zag : List ByteArray, l = Zag ++ ZF → ZaS = Zag.length → l.length ≤ maxLen → AWL Tryz.prog 34 (Code.sub (Zt Tryz.f78) [0, 1, 0, 0]) (Code.cont Tryz.prog 34 (Zt Tryz.f78) [0, 1, 0] (Zbl tab Tryz.f78.results (Zbo (.tup []) [(1000, [(none, .pt 1001 0)]), (1001, [(none, .rf 1002), (none, .rf 1003), ((some (3052, 9)), .sl (r.fout.map c_S))]), (1002, [(none, .ob 167 (r.fbound.map (Zz c_S Zm)))]), (1003, [(none, .ob 169 (r.fseen.map (Zz c_S c_B)))]), (1004, [(none, .v (.string g2_c1.fName)), (none, .v (.int .i64 g2_c1.fOp)), (none, .sl (g2_c1.fFree.map c_S)), (none, .sl (g2_c1.fParams.map c_S)), (none, .v (.int .i64 g2_c1.fBody.fOp)), (none, .v (.string g2_c1.fBody.fName)), (none, .sl (g2_c1.fBody.fArgs.map Zq.cells)), (none, .v (.bool g2_c1.fBody.fRec)), (none, .sl (g2_c1.fBody.fBinds.map Zc.cells)), (none, .sl (g2_c1.fBody.fKids.map Zo.cells)), (none, .sl (g2_c1.fBody.fAlts.map Zi.cells))])]))) ⟨[(0, .c none (.rf 1002)), (1, .c none (.sl (l.map c_S))), (2, .c none (.cl 109 [] [.pt 1000 0, .pt 1004 0])), (10, .c none (.sl (l.map c_S))), (11, .c none (.v (.int .i64 ((l.length : Nat) : Int)))), (12, .c none (.v (.int .i64 ((ZaS : Nat) : Int))))], [(1000, [(none, .pt 1001 0)]), (1001, [(none, .rf 1002), (none, .rf 1003), ((some (3052, 9)), .sl (g2_c0.fout.map c_S))]), (1002, [(none, .ob 167 (Zp.map (Zz c_S Zm)))]), (1003, [(none, .ob 169 (g2_c0.fseen.map (Zz c_S c_B)))]), (1004, [(none, .v (.string g2_c1.fName)), (none, .v (.int .i64 g2_c1.fOp)), (none, .sl (g2_c1.fFree.map c_S)), (none, .sl (g2_c1.fParams.map c_S)), (none, .v (.int .i64 g2_c1.fBody.fOp)), (none, .v (.string g2_c1.fBody.fName)), (none, .sl (g2_c1.fBody.fArgs.map Zq.cells)), (none, .v (.bool g2_c1.fBody.fRec)), (none, .sl (g2_c1.fBody.fBinds.map Zc.cells)), (none, .sl (g2_c1.fBody.fKids.map Zo.cells)), (none, .sl (g2_c1.fBody.fAlts.map Zi.cells))])]⟩
theorem Zgq (l : (List ByteArray)) (ZaS : Nat) (g2_c0 : Zd) (Zp : (List (ByteArray × Int))) (g2_c1 : Zc) (ZF : (List ByteArray)) : ∀ r, Z7 l ZaS g2_c0 Zp g2_c1 ZF = some r → Z7.M l ZaS g2_c0 Zp g2_c1 ZF r := by
 refine Z7.partial_correctness l g2_c0 g2_c1 (fun ZaS Zp ZF r => Z7.M l ZaS g2_c0 Zp g2_c1 ZF r) ?_ ZaS Zp ZF
 intro stg_scope_with_stg_freeBind_1_l1' ZdW ZaS Zp ZF r hF
 have Zgh := fun (_l : (List ByteArray)) (ZaS : Nat) (_g2_c0 : Zd) (Zp : (List (ByteArray × Int))) (_g2_c1 : Zc) (ZF : (List ByteArray)) => ZdW ZaS Zp ZF
 clear ZdW
 unfold Z7.M
 intro Zag Zb5 Zb6 hlen14
 refine AWL.step ?_
 refine AWP.seq ?_
 refine ns ?_
 refine AWP.seq ?_
 refine nw ?_
 refine ZB Zb5 Zb6 (fun x24 Zeb Zea Ziv Zio => ?_) (fun Zea => ?_)
 ·subst Zea
  refine nw ?_
  refine AWP.seq ?_
  refine AWP.block ?_
  refine AWP.seq ?_
  refine nn ?_
  refine sr (Z9 (f := c_S) rfl Ziv) ?_
  refine st ?_
  obtain ⟨r27, Zil, hF⟩ := bind_some hF
  refine ns ?_
  refine ZbB (m := Zp) (k := x24) Zay (ev := Zm) Zil rfl (fun x => ZaO x) rfl rfl (lc Zr) ?_
  refine st ?_
  refine ZcI (m := Zp) (k := x24) (v := (IntKind.i64.wrap (r27.1 + 1))) Zay (ev := Zm) (lc Zr) ?_
  refine st ?_
  refine ns ?_
  refine AWL.weak (rn [(3052, 3052)]) ?_ (Zgh l (ZaS + 1) g2_c0 (ZcQ Zp x24 (IntKind.i64.wrap (r27.1 + 1))) g2_c1 Zeb _ hF (Zag ++ [x24]) (by rw [Zb5]; simp) (by rw [Zb6]; simp) hlen14)
  exact (WS.mk (tc (tc (tc (tc (tc (Zj (Zaj (Zcw (ZD hlen14 Zio))) Ze)))))) (Za rfl (cc Zb) (Za rfl (cc (cc (Zaf rfl (WE.refl _) Zb))) (Za rfl (cc Zb) (Za rfl (cc Zb) (Za rfl (cc (cc (cc (cc (cc (cc (cc (cc (cc (cc (cc Zb))))))))))) Zf))))))
 ·subst Zea
  refine nw ?_
  refine AWP.seq ?_
  obtain ⟨r28, Zis, hF⟩ := bind_some hF
  refine ns ?_
  refine Exists.intro [] (Exists.intro [(1000, 1000), (1001, 1001), (1002, 1002), (1003, 1003), (1004, 1004)] (Exists.intro [] ?_))
  refine st ?_
  refine cm (Zn.weak (rn [(3052, 3052)]) (Zme (Zd.mk Zp g2_c0.fseen g2_c0.fout) g2_c1 _ Zis) rfl (WS.mk (tp (tp Ze)) (Za rfl (cc Zb) (Za rfl (cc (cc (Zaf rfl (WE.refl _) Zb))) (Za rfl (cc Zb) (Za rfl (cc Zb) (Za rfl (cc (cc (cc (cc (cc (cc (cc (cc (cc (cc (cc Zb))))))))))) Zf))))))) ?_
  refine st ?_
  refine AWP.seq ?_
  refine ns ?_
  intro hlen29
  (try rw [List.length_map] at hlen29)
  (try rw [List.length_map])
  refine st ?_
  refine AWP.block ?_
  refine AWP.loop ?_
  refine AWL.weak (rn [(3052, 3052)]) ?_ (Zgp l 0 r28 r28.fbound g2_c1 l _ hF ([]) rfl rfl hlen29)
  exact (WS.mk (tc (tc (tc (tc Ze)))) (Za rfl (cc Zb) (Za rfl (cc (cc (Zaf rfl (WE.refl _) Zb))) (Za rfl (cc Zb) (Za rfl (cc Zb) (Za rfl (cc (cc (cc (cc (cc (cc (cc (cc (cc (cc (cc Zb))))))))))) Zf))))))

def ZaN (l : (List ByteArray)) (g2_c0 : Zd) (g2_c1 : Zc) : Option (Zd) :=
 Z7 l 0 g2_c0 g2_c0.fbound g2_c1 l
def ZaN.M (l : (List ByteArray)) (g2_c0 : Zd) (g2_c1 : Zc) (r : Zd) : Prop :=
 Zn Tryz.prog 78 [.c none (.rf 1002), .c none (.sl (l.map c_S)), .c none (.cl 109 [] [.pt 1000 0, .pt 1004 0])] [(1000, [(none, .pt 1001 0)]), (1001, [(none, .rf 1002), (none, .rf 1003), ((some (3052, 9)), .sl (g2_c0.fout.map c_S))]), (1002, [(none, .ob 167 (g2_c0.fbound.map (Zz c_S Zm)))]), (1003, [(none, .ob 169 (g2_c0.fseen.map (Zz c_S c_B)))]), (1004, [(none, .v (.string g2_c1.fName)), (none, .v (.int .i64 g2_c1.fOp)), (none, .sl (g2_c1.fFree.map c_S)), (none, .sl (g2_c1.fParams.map c_S)), (none, .v (.int .i64 g2_c1.fBody.fOp)), (none, .v (.string g2_c1.fBody.fName)), (none, .sl (g2_c1.fBody.fArgs.map Zq.cells)), (none, .v (.bool g2_c1.fBody.fRec)), (none, .sl (g2_c1.fBody.fBinds.map Zc.cells)), (none, .sl (g2_c1.fBody.fKids.map Zo.cells)), (none, .sl (g2_c1.fBody.fAlts.map Zi.cells))])] (fun d b => d = .tup [] ∧ b = [(1000, [(none, .pt 1001 0)]), (1001, [(none, .rf 1002), (none, .rf 1003), ((some (3052, 9)), .sl (r.fout.map c_S))]), (1002, [(none, .ob 167 (r.fbound.map (Zz c_S Zm)))]), (1003, [(none, .ob 169 (r.fseen.map (Zz c_S c_B)))]), (1004, [(none, .v (.string g2_c1.fName)), (none, .v (.int .i64 g2_c1.fOp)), (none, .sl (g2_c1.fFree.map c_S)), (none, .sl (g2_c1.fParams.map c_S)), (none, .v (.int .i64 g2_c1.fBody.fOp)), (none, .v (.string g2_c1.fBody.fName)), (none, .sl (g2_c1.fBody.fArgs.map Zq.cells)), (none, .v (.bool g2_c1.fBody.fRec)), (none, .sl (g2_c1.fBody.fBinds.map Zc.cells)), (none, .sl (g2_c1.fBody.fKids.map Zo.cells)), (none, .sl (g2_c1.fBody.fAlts.map Zi.cells))])])
theorem Zg4 (l : (List ByteArray)) (g2_c0 : Zd) (g2_c1 : Zc) (r : Zd) (hF : ZaN l g2_c0 g2_c1 = some r) : ZaN.M l g2_c0 g2_c1 r := by
 unfold ZaN at hF
 unfold ZaN.M
 refine en Tryz.func78 ?_
 refine AWP.seq ?_
 refine AWP.seq ?_
 refine ns ?_
 intro hlen14
 (try rw [List.length_map] at hlen14)
 (try rw [List.length_map])
 refine st ?_
 refine AWP.block ?_
 refine AWP.loop ?_
 refine AWL.weak (rn [(3052, 3052)]) ?_ (Zgq l 0 g2_c0 g2_c0.fbound g2_c1 l _ hF ([]) rfl rfl hlen14)
 exact (WS.mk (tc (tc (tc (tc (tc (tc Ze)))))) (Za rfl (cc Zb) (Za rfl (cc (cc (Zaf rfl (WE.refl _) Zb))) (Za rfl (cc Zb) (Za rfl (cc Zb) (Za rfl (cc (cc (cc (cc (cc (cc (cc (cc (cc (cc (cc Zb))))))))))) Zf))))))

def Zd1 (b : Zc) : Option ((List ByteArray)) :=
 ZaN b.fParams (Zd.mk ([] : List (ByteArray × Int)) ([] : List (ByteArray × Bool)) ([] : List ByteArray)) b >>= fun r2 =>
 some r2.fout
def Zd1.M (b : Zc) (r : (List ByteArray)) : Prop :=
 Zn Tryz.prog 84 [.agg [.v (.string b.fName), .v (.int .i64 b.fOp), .sl (b.fFree.map c_S), .sl (b.fParams.map c_S), .v (.int .i64 b.fBody.fOp), .v (.string b.fBody.fName), .sl (b.fBody.fArgs.map Zq.cells), .v (.bool b.fBody.fRec), .sl (b.fBody.fBinds.map Zc.cells), .sl (b.fBody.fKids.map Zo.cells), .sl (b.fBody.fAlts.map Zi.cells)]] [] (fun d b => d = .c (some (0, 9)) (.sl (r.map c_S)) ∧ b = [])
theorem Zn5 (b : Zc) (r : (List ByteArray)) (hF : Zd1 b = some r) : Zd1.M b r := by
 unfold Zd1 at hF
 unfold Zd1.M
 refine en Tryz.func84 ?_
 refine AWP.seq ?_
 refine ns ?_
 refine AWP.seq ?_
 refine ns ?_
 refine AWP.seq ?_
 obtain ⟨r2, hr2, hF⟩ := bind_some hF
 refine nn ?_
 refine Or.inl (Or.inl (Exists.intro 7 (Exists.intro [[], [], [], [], [], [], []] (Exists.intro [([8, 9, 10, 11, 12, 13, 14], [], []), ([9, 10, 11, 12, 13, 14], [], []), ([10, 11, 12, 13, 14], [], []), ([11, 12, 13, 14], [], []), ([8, 9, 10, 11, 12, 13, 14], [], []), ([8, 9, 10, 11, 13, 14], [], []), ([8, 9, 10, 11, 12, 13, 14], [], [])] (Exists.intro [8, 9, 10, 11, 12, 13, 14] (And.intro (by decide +kernel) ?_))))))
 refine dp ?_
 refine dp ?_
 refine dp ?_
 refine dp ?_
 refine dp ?_
 refine dp ?_
 refine dp ?_
 refine st ?_
 refine Exists.intro [] (Exists.intro [(3, 1000), (7, 1001), (4, 1002), (5, 1003), (1, 1004)] (Exists.intro [] ?_))
 refine st ?_
 refine cm (Zn.weak (rn []) (Zg4 b.fParams (Zd.mk ([] : List (ByteArray × Int)) ([] : List (ByteArray × Bool)) ([] : List ByteArray)) b _ hr2) rfl (WS.mk (tc (tc (tc Ze))) (Za rfl (cc Zb) (Za rfl (cc (cc (Zdp Zb))) (Za rfl (cc Zb) (Za rfl (cc Zb) (Za rfl (cc (cc (cc (cc (cc (cc (cc (cc (cc (cc (cc Zb))))))))))) Zf))))))) ?_
 refine st ?_
 refine AWP.seq ?_
 refine ns ?_
 obtain rfl := Zs hF
 refine ns ?_
 refine Exists.intro [] ?_
 refine st ?_
 exact Exists.intro (rn [(3052, 0)]) (WS.mk (Zj (ZH rfl (WE.refl _)) Ze) Zf)

def ZQ (l : (List ByteArray)) (Zad : Nat) (r28 : (Zh)) (Zk : (List (ByteArray × Int))) (g2_c1 : Zc) (Zu : (List ByteArray)) : Option (Zh) :=
 (match Zu with
 | x39 :: Zez =>
 Zcf Zk 0 x39 >>= fun r42 =>
 ZQ l (Zad + 1) r28 (ZcQ Zk x39 (IntKind.i64.wrap (r42.1 - 1))) g2_c1 Zez
 | [] =>
 some (Zh.mk r28.fcons Zk r28.fbad))
 partial_fixpoint
def ZQ.M (l : (List ByteArray)) (Zad : Nat) (r28 : (Zh)) (Zk : (List (ByteArray × Int))) (g2_c1 : Zc) (Zu : (List ByteArray)) (r : Zh) : Prop :=
 ∀ Z5 : List ByteArray, l = Z5 ++ Zu → Zad = Z5.length → l.length ≤ maxLen → AWL Tryz.prog 34 (Code.sub (Zt Tryz.f78) [1, 1, 1, 0, 0]) (Code.cont Tryz.prog 34 (Zt Tryz.f78) [1, 1, 1, 0] (Zbl tab Tryz.f78.results (Zbo (.tup []) [(1000, [(none, .pt 1001 0)]), (1001, [(none, .rf 1002), (none, .rf 1003), (none, .v (.bool r.fbad))]), (1002, [(none, .ob 165 (r.fcons.map (Zz c_S Zm)))]), (1003, [(none, .ob 167 (r.flocal.map (Zz c_S Zm)))]), (1004, [(none, .v (.string g2_c1.fName)), (none, .v (.int .i64 g2_c1.fOp)), (none, .sl (g2_c1.fFree.map c_S)), (none, .sl (g2_c1.fParams.map c_S)), (none, .v (.int .i64 g2_c1.fBody.fOp)), (none, .v (.string g2_c1.fBody.fName)), (none, .sl (g2_c1.fBody.fArgs.map Zq.cells)), (none, .v (.bool g2_c1.fBody.fRec)), (none, .sl (g2_c1.fBody.fBinds.map Zc.cells)), (none, .sl (g2_c1.fBody.fKids.map Zo.cells)), (none, .sl (g2_c1.fBody.fAlts.map Zi.cells))])]))) ⟨[(0, .c none (.rf 1003)), (23, .c none (.sl (l.map c_S))), (24, .c none (.v (.int .i64 ((l.length : Nat) : Int)))), (25, .c none (.v (.int .i64 ((Zad : Nat) : Int))))], [(1000, [(none, .pt 1001 0)]), (1001, [(none, .rf 1002), (none, .rf 1003), (none, .v (.bool r28.fbad))]), (1002, [(none, .ob 165 (r28.fcons.map (Zz c_S Zm)))]), (1003, [(none, .ob 167 (Zk.map (Zz c_S Zm)))]), (1004, [(none, .v (.string g2_c1.fName)), (none, .v (.int .i64 g2_c1.fOp)), (none, .sl (g2_c1.fFree.map c_S)), (none, .sl (g2_c1.fParams.map c_S)), (none, .v (.int .i64 g2_c1.fBody.fOp)), (none, .v (.string g2_c1.fBody.fName)), (none, .sl (g2_c1.fBody.fArgs.map Zq.cells)), (none, .v (.bool g2_c1.fBody.fRec)), (none, .sl (g2_c1.fBody.fBinds.map Zc.cells)), (none, .sl (g2_c1.fBody.fKids.map Zo.cells)), (none, .sl (g2_c1.fBody.fAlts.map Zi.cells))])]⟩
theorem Zft (l : (List ByteArray)) (Zad : Nat) (r28 : (Zh)) (Zk : (List (ByteArray × Int))) (g2_c1 : Zc) (Zu : (List ByteArray)) : ∀ r, ZQ l Zad r28 Zk g2_c1 Zu = some r → ZQ.M l Zad r28 Zk g2_c1 Zu r := by
 refine ZQ.partial_correctness l r28 g2_c1 (fun Zad Zk Zu r => ZQ.M l Zad r28 Zk g2_c1 Zu r) ?_ Zad Zk Zu
 intro stg_scope_with_stg_checker_bind_1_l2' Zdx Zad Zk Zu r hF
 have Zfs := fun (_l : (List ByteArray)) (Zad : Nat) (_r28 : (Zh)) (Zk : (List (ByteArray × Int))) (_g2_c1 : Zc) (Zu : (List ByteArray)) => Zdx Zad Zk Zu
 clear Zdx
 unfold ZQ.M
 intro Z5 ZbI ZbJ hlen29
 refine AWL.step ?_
 refine AWP.seq ?_
 refine ns ?_
 refine AWP.seq ?_
 refine nw ?_
 refine ZB ZbI ZbJ (fun x39 Zez Zev Zi9 Zi4 => ?_) (fun Zev => ?_)
 ·subst Zev
  refine nw ?_
  refine AWP.seq ?_
  refine AWP.block ?_
  refine AWP.seq ?_
  refine nn ?_
  refine sr (Z9 (f := c_S) rfl Zi9) ?_
  refine st ?_
  obtain ⟨r42, Zit, hF⟩ := bind_some hF
  refine ns ?_
  refine ZbB (m := Zk) (k := x39) Zay (ev := Zm) Zit rfl (fun x => ZaO x) rfl rfl (lc Zr) ?_
  refine st ?_
  refine ZcI (m := Zk) (k := x39) (v := (IntKind.i64.wrap (r42.1 - 1))) Zay (ev := Zm) (lc Zr) ?_
  refine st ?_
  refine ns ?_
  refine AWL.weak (rn []) ?_ (Zfs l (Zad + 1) r28 (ZcQ Zk x39 (IntKind.i64.wrap (r42.1 - 1))) g2_c1 Zez _ hF (Z5 ++ [x39]) (by rw [ZbI]; simp) (by rw [ZbJ]; simp) hlen29)
  exact (WS.mk (tc (tc (tc (Zj (Zaj (Zcw (ZD hlen29 Zi4))) Ze)))) (Za rfl (cc Zb) (Za rfl (cc (cc (cc Zb))) (Za rfl (cc Zb) (Za rfl (cc Zb) (Za rfl (cc (cc (cc (cc (cc (cc (cc (cc (cc (cc (cc Zb))))))))))) Zf))))))
 ·subst Zev
  refine nw ?_
  obtain rfl := Zs hF
  refine Exists.intro [(1000, 1000), (1001, 1001), (1002, 1002), (1003, 1003), (1004, 1004)] ?_
  refine st ?_
  exact wx (WS.mk (Zj (Zb1 Zb3) Ze) (Za rfl (cc Zb) (Za rfl (cc (cc (cc Zb))) (Za rfl (cc Zb) (Za rfl (cc Zb) (Za rfl (cc (cc (cc (cc (cc (cc (cc (cc (cc (cc (cc Zb))))))))))) Zf))))))

def Zan (l : (List ByteArray)) (Zad : Nat) (g2_c0 : Zo) (r28 : (Zh)) (Zv : (List (ByteArray × Int))) (Zu : (List ByteArray)) : Option (Zh) :=
 (match Zu with
 | x39 :: Zez =>
 Zcf Zv 0 x39 >>= fun r42 =>
 Zan l (Zad + 1) g2_c0 r28 (ZcQ Zv x39 (IntKind.i64.wrap (r42.1 - 1))) Zez
 | [] =>
 some (Zh.mk r28.fcons Zv r28.fbad))
 partial_fixpoint
def Zan.M (l : (List ByteArray)) (Zad : Nat) (g2_c0 : Zo) (r28 : (Zh)) (Zv : (List (ByteArray × Int))) (Zu : (List ByteArray)) (r : Zh) : Prop :=
 ∀ Z5 : List ByteArray, l = Z5 ++ Zu → Zad = Z5.length → l.length ≤ maxLen → AWL Tryz.prog 34 (Code.sub (Zt Tryz.f78) [1, 1, 1, 0, 0]) (Code.cont Tryz.prog 34 (Zt Tryz.f78) [1, 1, 1, 0] (Zbl tab Tryz.f78.results (Zbo (.tup []) [(1000, [(none, .v (.int .i64 g2_c0.fOp)), (none, .v (.string g2_c0.fName)), (none, .sl (g2_c0.fArgs.map Zq.cells)), (none, .v (.bool g2_c0.fRec)), (none, .sl (g2_c0.fBinds.map Zc.cells)), (none, .sl (g2_c0.fKids.map Zo.cells)), (none, .sl (g2_c0.fAlts.map Zi.cells))]), (1001, [(none, .pt 1002 0)]), (1002, [(none, .rf 1003), (none, .rf 1004), (none, .v (.bool r.fbad))]), (1003, [(none, .ob 165 (r.fcons.map (Zz c_S Zm)))]), (1004, [(none, .ob 167 (r.flocal.map (Zz c_S Zm)))])]))) ⟨[(0, .c none (.rf 1004)), (23, .c none (.sl (l.map c_S))), (24, .c none (.v (.int .i64 ((l.length : Nat) : Int)))), (25, .c none (.v (.int .i64 ((Zad : Nat) : Int))))], [(1000, [(none, .v (.int .i64 g2_c0.fOp)), (none, .v (.string g2_c0.fName)), (none, .sl (g2_c0.fArgs.map Zq.cells)), (none, .v (.bool g2_c0.fRec)), (none, .sl (g2_c0.fBinds.map Zc.cells)), (none, .sl (g2_c0.fKids.map Zo.cells)), (none, .sl (g2_c0.fAlts.map Zi.cells))]), (1001, [(none, .pt 1002 0)]), (1002, [(none, .rf 1003), (none, .rf 1004), (none, .v (.bool r28.fbad))]), (1003, [(none, .ob 165 (r28.fcons.map (Zz c_S Zm)))]), (1004, [(none, .ob 167 (Zv.map (Zz c_S Zm)))])]⟩
theorem Zfu (l : (List ByteArray)) (Zad : Nat) (g2_c0 : Zo) (r28 : (Zh)) (Zv : (List (ByteArray × Int))) (Zu : (List ByteArray)) : ∀ r, Zan l Zad g2_c0 r28 Zv Zu = some r → Zan.M l Zad g2_c0 r28 Zv Zu r := by
 refine Zan.partial_correctness l g2_c0 r28 (fun Zad Zv Zu r => Zan.M l Zad g2_c0 r28 Zv Zu r) ?_ Zad Zv Zu
 intro stg_scope_with_stg_checker_expr_1_l2' Zdw Zad Zv Zu r hF
 have Zfw := fun (_l : (List ByteArray)) (Zad : Nat) (_g2_c0 : Zo) (_r28 : (Zh)) (Zv : (List (ByteArray × Int))) (Zu : (List ByteArray)) => Zdw Zad Zv Zu
 clear Zdw
 unfold Zan.M
 intro Z5 ZbI ZbJ hlen29
 refine AWL.step ?_
 refine AWP.seq ?_
 refine ns ?_
 refine AWP.seq ?_
 refine nw ?_
 refine ZB ZbI ZbJ (fun x39 Zez Zev Zi9 Zi4 => ?_) (fun Zev => ?_)
 ·subst Zev
  refine nw ?_
  refine AWP.seq ?_
  refine AWP.block ?_
  refine AWP.seq ?_
  refine nn ?_
  refine sr (Z9 (f := c_S) rfl Zi9) ?_
  refine st ?_
  obtain ⟨r42, Zit, hF⟩ := bind_some hF
  refine ns ?_
  refine ZbB (m := Zv) (k := x39) Zay (ev := Zm) Zit rfl (fun x => ZaO x) rfl rfl (lc Zr) ?_
  refine st ?_
  refine ZcI (m := Zv) (k := x39) (v := (IntKind.i64.wrap (r42.1 - 1))) Zay (ev := Zm) (lc Zr) ?_
  refine st ?_
  refine ns ?_
  refine AWL.weak (rn []) ?_ (Zfw l (Zad + 1) g2_c0 r28 (ZcQ Zv x39 (IntKind.i64.wrap (r42.1 - 1))) Zez _ hF (Z5 ++ [x39]) (by rw [ZbI]; simp) (by rw [ZbJ]; simp) hlen29)
  exact (WS.mk (tc (tc (tc (Zj (Zaj (Zcw (ZD hlen29 Zi4))) Ze)))) (Za rfl (cc (cc (cc (cc (cc (cc (cc Zb))))))) (Za rfl (cc Zb) (Za rfl (cc (cc (cc Zb))) (Za rfl (cc Zb) (Za rfl (cc Zb) Zf))))))
 ·subst Zev
  refine nw ?_
  obtain rfl := Zs hF
  refine Exists.intro [(1000, 1000), (1001, 1001), (1002, 1002), (1003, 1003), (1004, 1004)] ?_
  refine st ?_
  exact wx (WS.mk (Zj (Zb1 Zb3) Ze) (Za rfl (cc (cc (cc (cc (cc (cc (cc Zb))))))) (Za rfl (cc Zb) (Za rfl (cc (cc (cc Zb))) (Za rfl (cc Zb) (Za rfl (cc Zb) Zf))))))

def Zal (l : (List ByteArray)) (Zad : Nat) (r28 : (Zh)) (Zk : (List (ByteArray × Int))) (g2_c1 : Zo) (Zu : (List ByteArray)) : Option (Zh) :=
 (match Zu with
 | x39 :: Zez =>
 Zcf Zk 0 x39 >>= fun r42 =>
 Zal l (Zad + 1) r28 (ZcQ Zk x39 (IntKind.i64.wrap (r42.1 - 1))) g2_c1 Zez
 | [] =>
 some (Zh.mk r28.fcons Zk r28.fbad))
 partial_fixpoint
def Zal.M (l : (List ByteArray)) (Zad : Nat) (r28 : (Zh)) (Zk : (List (ByteArray × Int))) (g2_c1 : Zo) (Zu : (List ByteArray)) (r : Zh) : Prop :=
 ∀ Z5 : List ByteArray, l = Z5 ++ Zu → Zad = Z5.length → l.length ≤ maxLen → AWL Tryz.prog 34 (Code.sub (Zt Tryz.f78) [1, 1, 1, 0, 0]) (Code.cont Tryz.prog 34 (Zt Tryz.f78) [1, 1, 1, 0] (Zbl tab Tryz.f78.results (Zbo (.tup []) [(1000, [(none, .pt 1001 0)]), (1001, [(none, .rf 1002), (none, .rf 1003), (none, .v (.bool r.fbad))]), (1002, [(none, .ob 165 (r.fcons.map (Zz c_S Zm)))]), (1003, [(none, .ob 167 (r.flocal.map (Zz c_S Zm)))]), (1004, [(none, .v (.int .i64 g2_c1.fOp)), (none, .v (.string g2_c1.fName)), (none, .sl (g2_c1.fArgs.map Zq.cells)), (none, .v (.bool g2_c1.fRec)), (none, .sl (g2_c1.fBinds.map Zc.cells)), (none, .sl (g2_c1.fKids.map Zo.cells)), (none, .sl (g2_c1.fAlts.map Zi.cells))])]))) ⟨[(0, .c none (.rf 1003)), (23, .c none (.sl (l.map c_S))), (24, .c none (.v (.int .i64 ((l.length : Nat) : Int)))), (25, .c none (.v (.int .i64 ((Zad : Nat) : Int))))], [(1000, [(none, .pt 1001 0)]), (1001, [(none, .rf 1002), (none, .rf 1003), (none, .v (.bool r28.fbad))]), (1002, [(none, .ob 165 (r28.fcons.map (Zz c_S Zm)))]), (1003, [(none, .ob 167 (Zk.map (Zz c_S Zm)))]), (1004, [(none, .v (.int .i64 g2_c1.fOp)), (none, .v (.string g2_c1.fName)), (none, .sl (g2_c1.fArgs.map Zq.cells)), (none, .v (.bool g2_c1.fRec)), (none, .sl (g2_c1.fBinds.map Zc.cells)), (none, .sl (g2_c1.fKids.map Zo.cells)), (none, .sl (g2_c1.fAlts.map Zi.cells))])]⟩
theorem Zfv (l : (List ByteArray)) (Zad : Nat) (r28 : (Zh)) (Zk : (List (ByteArray × Int))) (g2_c1 : Zo) (Zu : (List ByteArray)) : ∀ r, Zal l Zad r28 Zk g2_c1 Zu = some r → Zal.M l Zad r28 Zk g2_c1 Zu r := by
 refine Zal.partial_correctness l r28 g2_c1 (fun Zad Zk Zu r => Zal.M l Zad r28 Zk g2_c1 Zu r) ?_ Zad Zk Zu
 intro stg_scope_with_stg_checker_expr_2_l2' ZdA Zad Zk Zu r hF
 have Zfr := fun (_l : (List ByteArray)) (Zad : Nat) (_r28 : (Zh)) (Zk : (List (ByteArray × Int))) (_g2_c1 : Zo) (Zu : (List ByteArray)) => ZdA Zad Zk Zu
 clear ZdA
 unfold Zal.M
 intro Z5 ZbI ZbJ hlen29
 refine AWL.step ?_
 refine AWP.seq ?_
 refine ns ?_
 refine AWP.seq ?_
 refine nw ?_
 refine ZB ZbI ZbJ (fun x39 Zez Zev Zi9 Zi4 => ?_) (fun Zev => ?_)
 ·subst Zev
  refine nw ?_
  refine AWP.seq ?_
  refine AWP.block ?_
  refine AWP.seq ?_
  refine nn ?_
  refine sr (Z9 (f := c_S) rfl Zi9) ?_
  refine st ?_
  obtain ⟨r42, Zit, hF⟩ := bind_some hF
  refine ns ?_
  refine ZbB (m := Zk) (k := x39) Zay (ev := Zm) Zit rfl (fun x => ZaO x) rfl rfl (lc Zr) ?_
  refine st ?_
  refine ZcI (m := Zk) (k := x39) (v := (IntKind.i64.wrap (r42.1 - 1))) Zay (ev := Zm) (lc Zr) ?_
  refine st ?_
  refine ns ?_
  refine AWL.weak (rn []) ?_ (Zfr l (Zad + 1) r28 (ZcQ Zk x39 (IntKind.i64.wrap (r42.1 - 1))) g2_c1 Zez _ hF (Z5 ++ [x39]) (by rw [ZbI]; simp) (by rw [ZbJ]; simp) hlen29)
  exact (WS.mk (tc (tc (tc (Zj (Zaj (Zcw (ZD hlen29 Zi4))) Ze)))) (Za rfl (cc Zb) (Za rfl (cc (cc (cc Zb))) (Za rfl (cc Zb) (Za rfl (cc Zb) (Za rfl (cc (cc (cc (cc (cc (cc (cc Zb))))))) Zf))))))
 ·subst Zev
  refine nw ?_
  obtain rfl := Zs hF
  refine Exists.intro [(1000, 1000), (1001, 1001), (1002, 1002), (1003, 1003), (1004, 1004)] ?_
  refine st ?_
  exact wx (WS.mk (Zj (Zb1 Zb3) Ze) (Za rfl (cc Zb) (Za rfl (cc (cc (cc Zb))) (Za rfl (cc Zb) (Za rfl (cc Zb) (Za rfl (cc (cc (cc (cc (cc (cc (cc Zb))))))) Zf))))))

def Zah (l : (List ByteArray)) (Zad : Nat) (r28 : (Zh)) (Zk : (List (ByteArray × Int))) (g2_c1 : Zi) (Zu : (List ByteArray)) : Option (Zh) :=
 (match Zu with
 | x39 :: Zez =>
 Zcf Zk 0 x39 >>= fun r42 =>
 Zah l (Zad + 1) r28 (ZcQ Zk x39 (IntKind.i64.wrap (r42.1 - 1))) g2_c1 Zez
 | [] =>
 some (Zh.mk r28.fcons Zk r28.fbad))
 partial_fixpoint
def Zah.M (l : (List ByteArray)) (Zad : Nat) (r28 : (Zh)) (Zk : (List (ByteArray × Int))) (g2_c1 : Zi) (Zu : (List ByteArray)) (r : Zh) : Prop :=
 ∀ Z5 : List ByteArray, l = Z5 ++ Zu → Zad = Z5.length → l.length ≤ maxLen → AWL Tryz.prog 34 (Code.sub (Zt Tryz.f78) [1, 1, 1, 0, 0]) (Code.cont Tryz.prog 34 (Zt Tryz.f78) [1, 1, 1, 0] (Zbl tab Tryz.f78.results (Zbo (.tup []) [(1000, [(none, .pt 1001 0)]), (1001, [(none, .rf 1002), (none, .rf 1003), (none, .v (.bool r.fbad))]), (1002, [(none, .ob 165 (r.fcons.map (Zz c_S Zm)))]), (1003, [(none, .ob 167 (r.flocal.map (Zz c_S Zm)))]), (1004, [(none, .v (.int .i64 g2_c1.fOp)), (none, .v (.string g2_c1.fName)), (none, .v (.int .i64 g2_c1.fN)), (none, .sl (g2_c1.fVars.map c_S)), (none, .v (.int .i64 g2_c1.fBody.fOp)), (none, .v (.string g2_c1.fBody.fName)), (none, .sl (g2_c1.fBody.fArgs.map Zq.cells)), (none, .v (.bool g2_c1.fBody.fRec)), (none, .sl (g2_c1.fBody.fBinds.map Zc.cells)), (none, .sl (g2_c1.fBody.fKids.map Zo.cells)), (none, .sl (g2_c1.fBody.fAlts.map Zi.cells))])]))) ⟨[(0, .c none (.rf 1003)), (23, .c none (.sl (l.map c_S))), (24, .c none (.v (.int .i64 ((l.length : Nat) : Int)))), (25, .c none (.v (.int .i64 ((Zad : Nat) : Int))))], [(1000, [(none, .pt 1001 0)]), (1001, [(none, .rf 1002), (none, .rf 1003), (none, .v (.bool r28.fbad))]), (1002, [(none, .ob 165 (r28.fcons.map (Zz c_S Zm)))]), (1003, [(none, .ob 167 (Zk.map (Zz c_S Zm)))]), (1004, [(none, .v (.int .i64 g2_c1.fOp)), (none, .v (.string g2_c1.fName)), (none, .v (.int .i64 g2_c1.fN)), (none, .sl (g2_c1.fVars.map c_S)), (none, .v (.int .i64 g2_c1.fBody.fOp)), (none, .v (.string g2_c1.fBody.fName)), (none, .sl (g2_c1.fBody.fArgs.map Zq.cells)), (none, .v (.bool g2_c1.fBody.fRec)), (none, .sl (g2_c1.fBody.fBinds.map Zc.cells)), (none, .sl (g2_c1.fBody.fKids.map Zo.cells)), (none, .sl (g2_c1.fBody.fAlts.map Zi.cells))])]⟩
theorem Ze2 (l : (List ByteArray)) (Zad : Nat) (r28 : (Zh)) (Zk : (List (ByteArray × Int))) (g2_c1 : Zi) (Zu : (List ByteArray)) : ∀ r, Zah l Zad r28 Zk g2_c1 Zu = some r → Zah.M l Zad r28 Zk g2_c1 Zu r := by
 refine Zah.partial_correctness l r28 g2_c1 (fun Zad Zk Zu r => Zah.M l Zad r28 Zk g2_c1 Zu r) ?_ Zad Zk Zu
 intro stg_scope_with_stg_checker_expr_3_1_l2' Zc9 Zad Zk Zu r hF
 have Ze4 := fun (_l : (List ByteArray)) (Zad : Nat) (_r28 : (Zh)) (Zk : (List (ByteArray × Int))) (_g2_c1 : Zi) (Zu : (List ByteArray)) => Zc9 Zad Zk Zu
 clear Zc9
 unfold Zah.M
 intro Z5 ZbI ZbJ hlen29
 refine AWL.step ?_
 refine AWP.seq ?_
 refine ns ?_
 refine AWP.seq ?_
 refine nw ?_
 refine ZB ZbI ZbJ (fun x39 Zez Zev Zi9 Zi4 => ?_) (fun Zev => ?_)
 ·subst Zev
  refine nw ?_
  refine AWP.seq ?_
  refine AWP.block ?_
  refine AWP.seq ?_
  refine nn ?_
  refine sr (Z9 (f := c_S) rfl Zi9) ?_
  refine st ?_
  obtain ⟨r42, Zit, hF⟩ := bind_some hF
  refine ns ?_
  refine ZbB (m := Zk) (k := x39) Zay (ev := Zm) Zit rfl (fun x => ZaO x) rfl rfl (lc Zr) ?_
  refine st ?_
  refine ZcI (m := Zk) (k := x39) (v := (IntKind.i64.wrap (r42.1 - 1))) Zay (ev := Zm) (lc Zr) ?_
  refine st ?_
  refine ns ?_
  refine AWL.weak (rn []) ?_ (Ze4 l (Zad + 1) r28 (ZcQ Zk x39 (IntKind.i64.wrap (r42.1 - 1))) g2_c1 Zez _ hF (Z5 ++ [x39]) (by rw [ZbI]; simp) (by rw [ZbJ]; simp) hlen29)
  exact (WS.mk (tc (tc (tc (Zj (Zaj (Zcw (ZD hlen29 Zi4))) Ze)))) (Za rfl (cc Zb) (Za rfl (cc (cc (cc Zb))) (Za rfl (cc Zb) (Za rfl (cc Zb) (Za rfl (cc (cc (cc (cc (cc (cc (cc (cc (cc (cc (cc Zb))))))))))) Zf))))))
 ·subst Zev
  refine nw ?_
  obtain rfl := Zs hF
  refine Exists.intro [(1000, 1000), (1001, 1001), (1002, 1002), (1003, 1003), (1004, 1004)] ?_
  refine st ?_
  exact wx (WS.mk (Zj (Zb1 Zb3) Ze) (Za rfl (cc Zb) (Za rfl (cc (cc (cc Zb))) (Za rfl (cc Zb) (Za rfl (cc Zb) (Za rfl (cc (cc (cc (cc (cc (cc (cc (cc (cc (cc (cc Zb))))))))))) Zf))))))

end Go.Proofs.YtklkaikbpciepaaGreatDoor
