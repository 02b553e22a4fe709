/- Part 3 of the proof: the program's functions as Lean functions with their walks, and the plain law. It holds for every input, without conditions. -/
import Derived.Test.YtafniolcakiljaaDoorProg
import Derived.Test.YtafniolcakiljaaDoorUsA
import Derived.Test.YtafniolcakiljaaDoorUsB
set_option linter.unusedVariables false
namespace Go.Proofs.YtafniolcakiljaaDoor
open Go Go.Am
def intCell (o : Option Value) : Prop := ∃ m, o = some (.int .i64 m)
def ifcCell (o : Option Value) : Prop := ∃ ev, o = some ev ∧ (ev = .nilIface ∨ ∃ te pe, ev = .iface te pe)
def Zj3 (i : Nat) (o : Option Value) : Prop := o = some (.int .u64 ((10 ^ i : Nat) : Int))
def Zij (o : Option Value) : Prop := o = none
def ZiR : List (Nat × Nat × (Option Value → Prop)) := (5, 20, Zij) :: (List.range 20).map fun i => (5, i, Zj3 i)
def Zhn : List (Nat × Nat × (Option Value → Prop)) := []
instance : Gl Tryd.prog := ⟨ZiR ++ Zhn⟩

def tab : Tab := [
 (2, ⟨(.int .i64), 1, 8, some [.v (.int .i64 0)], true⟩),
 (3, ⟨(.int .i64), 1, 8, some [.v (.int .i64 0)], true⟩),
 (4, ⟨.bool, 1, 1, some [.v (.bool false)], true⟩),
 (5, ⟨(.int .u8), 1, 1, some [.v (.int .u8 0)], true⟩),
 (9, ⟨.string, 1, 16, some [.v (.string ⟨#[]⟩)], true⟩),
 (12, ⟨(.int .u64), 1, 8, some [.v (.int .u64 0)], true⟩),
 (13, ⟨(.struct [(9, 0), (12, 1)]), 2, 24, some [.v (.string ⟨#[]⟩), .v (.int .u64 0)], false⟩),
 (21, ⟨(.int .i32), 1, 4, some [.v (.int .i32 0)], true⟩),
 (22, ⟨(.int .i64), 1, 8, some [.v (.int .i64 0)], true⟩),
 (23, ⟨(.slice 28), 1, 24, some [.nils], true⟩),
 (24, ⟨(.slice 41), 1, 24, some [.nils], true⟩),
 (25, ⟨(.struct [(4, 0), (24, 1)]), 2, 32, some [.v (.bool false), .nils], true⟩),
 (26, ⟨(.struct [(4, 0), (24, 1)]), 2, 32, some [.v (.bool false), .nils], true⟩),
 (27, ⟨(.struct [(22, 0), (9, 1), (3, 2), (23, 3), (26, 4)]), 6, 88, some [.v (.int .i64 0), .v (.string ⟨#[]⟩), .v (.int .i64 0), .nils, .v (.bool false), .nils], true⟩),
 (28, ⟨(.struct [(22, 0), (9, 1), (3, 2), (23, 3), (26, 4)]), 6, 88, some [.v (.int .i64 0), .v (.string ⟨#[]⟩), .v (.int .i64 0), .nils, .v (.bool false), .nils], true⟩),
 (32, ⟨(.int .i64), 1, 8, some [.v (.int .i64 0)], true⟩),
 (39, ⟨(.int .i64), 1, 8, some [.v (.int .i64 0)], true⟩),
 (40, ⟨(.struct [(9, 0), (3, 1)]), 2, 24, some [.v (.string ⟨#[]⟩), .v (.int .i64 0)], true⟩),
 (41, ⟨(.struct [(9, 0), (3, 1)]), 2, 24, some [.v (.string ⟨#[]⟩), .v (.int .i64 0)], true⟩),
 (42, ⟨(.struct [(39, 0), (9, 1), (28, 2), (41, 8)]), 10, 136, some [.v (.int .i64 0), .v (.string ⟨#[]⟩), .v (.int .i64 0), .v (.string ⟨#[]⟩), .v (.int .i64 0), .nils, .v (.bool false), .nils, .v (.string ⟨#[]⟩), .v (.int .i64 0)], true⟩),
 (43, ⟨(.struct [(39, 0), (9, 1), (28, 2), (41, 8)]), 10, 136, some [.v (.int .i64 0), .v (.string ⟨#[]⟩), .v (.int .i64 0), .v (.string ⟨#[]⟩), .v (.int .i64 0), .nils, .v (.bool false), .nils, .v (.string ⟨#[]⟩), .v (.int .i64 0)], true⟩),
 (44, ⟨(.array 3 43), 30, 408, some [.v (.int .i64 0), .v (.string ⟨#[]⟩), .v (.int .i64 0), .v (.string ⟨#[]⟩), .v (.int .i64 0), .nils, .v (.bool false), .nils, .v (.string ⟨#[]⟩), .v (.int .i64 0), .v (.int .i64 0), .v (.string ⟨#[]⟩), .v (.int .i64 0), .v (.string ⟨#[]⟩), .v (.int .i64 0), .nils, .v (.bool false), .nils, .v (.string ⟨#[]⟩), .v (.int .i64 0), .v (.int .i64 0), .v (.string ⟨#[]⟩), .v (.int .i64 0), .v (.string ⟨#[]⟩), .v (.int .i64 0), .nils, .v (.bool false), .nils, .v (.string ⟨#[]⟩), .v (.int .i64 0)], true⟩),
 (54, ⟨(.array 3 26), 6, 96, some [.v (.bool false), .nils, .v (.bool false), .nils, .v (.bool false), .nils], true⟩),
 (56, ⟨(.struct [(32, 0), (9, 1), (3, 2), (3, 3)]), 4, 40, some [.v (.int .i64 0), .v (.string ⟨#[]⟩), .v (.int .i64 0), .v (.int .i64 0)], true⟩),
 (57, ⟨(.struct [(32, 0), (9, 1), (3, 2), (3, 3)]), 4, 40, some [.v (.int .i64 0), .v (.string ⟨#[]⟩), .v (.int .i64 0), .v (.int .i64 0)], true⟩),
 (65, ⟨(.slice 5), 1, 24, some [.nils], true⟩),
 (71, ⟨(.ptr 75), 1, 8, some [.v (.pointer none)], true⟩),
 (72, ⟨(.slice 9), 1, 24, some [.nils], true⟩),
 (74, ⟨(.struct [(72, 0), (3, 1), (4, 2)]), 3, 40, some [.nils, .v (.int .i64 0), .v (.bool false)], true⟩),
 (75, ⟨(.struct [(72, 0), (3, 1), (4, 2)]), 3, 40, some [.nils, .v (.int .i64 0), .v (.bool false)], true⟩),
 (81, ⟨(.slice 24), 1, 24, some [.nils], true⟩),
 (90, ⟨(.ptr 92), 1, 8, some [.v (.pointer none)], true⟩),
 (91, ⟨(.struct [(90, 0), (65, 1)]), 2, 32, some [.v (.pointer none), .nils], true⟩),
 (92, ⟨(.struct [(90, 0), (65, 1)]), 2, 32, some [.v (.pointer none), .nils], true⟩),
 (95, ⟨.iface, 1, 16, some [.v .nilIface], false⟩),
 (102, ⟨(.int .u64), 1, 8, some [.v (.int .u64 0)], true⟩),
 (105, ⟨(.ptr 5), 1, 8, some [.v (.pointer none)], true⟩),
 (115, ⟨(.int .u32), 1, 4, some [.v (.int .u32 0)], true⟩),
 (117, ⟨(.int .u64), 1, 8, some [.v (.int .u64 0)], true⟩),
 (130, ⟨(.ptr 3), 1, 8, some [.v (.pointer none)], true⟩),
 (133, ⟨(.int .i64), 1, 8, some [.v (.int .i64 0)], true⟩),
 (147, ⟨(.struct [(5, 0), (5, 1)]), 2, 2, some [.v (.int .u8 0), .v (.int .u8 0)], true⟩),
 (155, ⟨(.struct [(9, 0), (9, 1), (95, 2)]), 3, 48, some [.v (.string ⟨#[]⟩), .v (.string ⟨#[]⟩), .v .nilIface], false⟩),
 (164, ⟨(.struct [(9, 0)]), 1, 16, some [.v (.string ⟨#[]⟩)], true⟩)]
set_option maxRecDepth 100000
theorem tabOk : TOk Tryd.prog tab := by unfold TOk; kernel_rfl
theorem follows : Tryd.prog.follows .mixedOrders = true := by kernel_rfl
theorem Zqs (nt : Nat) (h : nt ≤ EXT) : Zgc Tryd.prog tab nt (@ZjY) := Zop tabOk h follows

end Go.Proofs.YtafniolcakiljaaDoor
