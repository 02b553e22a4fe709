/- Part 5 of the proof: the program's functions as Lean functions with their walks, and the plain law. It holds for every input, without conditions. -/
import Derived.Test.YtklkaikbpciepaaGreatDoorProg
import Derived.Lib.AppendIntMem
import Derived.Test.YtklkaikbpciepaaGreatDoorScA
import Derived.Test.YtklkaikbpciepaaGreatDoorScB
import Derived.Test.YtklkaikbpciepaaGreatDoorScC
import Derived.Test.YtklkaikbpciepaaGreatDoorScD
set_option linter.unusedVariables false
namespace Go.Proofs.YtklkaikbpciepaaGreatDoor
open Go Go.Am
def ZxP (o : Option Value) : Prop := ∃ m, o = some (.int .i64 m)
def ZoD (o : Option Value) : Prop := ∃ ev, o = some ev ∧ (ev = .nilIface ∨ ∃ te pe, ev = .iface te pe)
def Zvl (i : Nat) (o : Option Value) : Prop := o = some (.int .u64 ((10 ^ i : Nat) : Int))
def Zs8 (o : Option Value) : Prop := o = none
def Zp0 : List (Nat × Nat × (Option Value → Prop)) := (1, 20, Zs8) :: (List.range 20).map fun i => (1, i, Zvl i)
def Zf0 : List (Nat × Nat × (Option Value → Prop)) := [(0, 0, ZxP), (4, 0, ZoD), (5, 0, ZoD)]
instance : Gl Tryz.prog := ⟨Zp0 ++ Zf0⟩

def tab : Tab := [
 (2, ⟨(.int .i64), 1, 8, some [.v (.int .i64 0)], true⟩),
 (3, ⟨(.int .i64), 1, 8, some [.v (.int .i64 0)], true⟩),
 (4, ⟨.bool, 1, 1, some [.v (.bool false)], true⟩),
 (5, ⟨(.int .u8), 1, 1, some [.v (.int .u8 0)], true⟩),
 (9, ⟨.string, 1, 16, some [.v (.string ⟨#[]⟩)], true⟩),
 (12, ⟨(.int .u64), 1, 8, some [.v (.int .u64 0)], true⟩),
 (13, ⟨(.struct [(9, 0), (12, 1)]), 2, 24, some [.v (.string ⟨#[]⟩), .v (.int .u64 0)], false⟩),
 (21, ⟨(.int .i32), 1, 4, some [.v (.int .i32 0)], true⟩),
 (22, ⟨(.slice 69), 1, 24, some [.nils], true⟩),
 (23, ⟨(.slice 57), 1, 24, some [.nils], true⟩),
 (24, ⟨(.struct [(22, 0), (23, 1)]), 2, 48, some [.nils, .nils], true⟩),
 (25, ⟨(.struct [(22, 0), (23, 1)]), 2, 48, some [.nils, .nils], true⟩),
 (28, ⟨(.int .i64), 1, 8, some [.v (.int .i64 0)], true⟩),
 (29, ⟨(.struct [(28, 0), (9, 1), (3, 2), (3, 3)]), 4, 40, some [.v (.int .i64 0), .v (.string ⟨#[]⟩), .v (.int .i64 0), .v (.int .i64 0)], true⟩),
 (30, ⟨(.struct [(28, 0), (9, 1), (3, 2), (3, 3)]), 4, 40, some [.v (.int .i64 0), .v (.string ⟨#[]⟩), .v (.int .i64 0), .v (.int .i64 0)], true⟩),
 (36, ⟨(.int .i64), 1, 8, some [.v (.int .i64 0)], true⟩),
 (37, ⟨(.slice 49), 1, 24, some [.nils], true⟩),
 (38, ⟨(.slice 41), 1, 24, some [.nils], true⟩),
 (39, ⟨(.slice 52), 1, 24, some [.nils], true⟩),
 (40, ⟨(.struct [(36, 0), (9, 1), (37, 2), (4, 3), (23, 4), (38, 5), (39, 6)]), 7, 128, some [.v (.int .i64 0), .v (.string ⟨#[]⟩), .nils, .v (.bool false), .nils, .nils, .nils], true⟩),
 (41, ⟨(.struct [(36, 0), (9, 1), (37, 2), (4, 3), (23, 4), (38, 5), (39, 6)]), 7, 128, some [.v (.int .i64 0), .v (.string ⟨#[]⟩), .nils, .v (.bool false), .nils, .nils, .nils], true⟩),
 (44, ⟨(.slice 9), 1, 24, some [.nils], true⟩),
 (47, ⟨(.int .i64), 1, 8, some [.v (.int .i64 0)], true⟩),
 (48, ⟨(.struct [(47, 0), (9, 1), (3, 2)]), 3, 32, some [.v (.int .i64 0), .v (.string ⟨#[]⟩), .v (.int .i64 0)], true⟩),
 (49, ⟨(.struct [(47, 0), (9, 1), (3, 2)]), 3, 32, some [.v (.int .i64 0), .v (.string ⟨#[]⟩), .v (.int .i64 0)], true⟩),
 (50, ⟨(.int .i64), 1, 8, some [.v (.int .i64 0)], true⟩),
 (51, ⟨(.struct [(50, 0), (9, 1), (3, 2), (44, 3), (41, 4)]), 11, 184, some [.v (.int .i64 0), .v (.string ⟨#[]⟩), .v (.int .i64 0), .nils, .v (.int .i64 0), .v (.string ⟨#[]⟩), .nils, .v (.bool false), .nils, .nils, .nils], true⟩),
 (52, ⟨(.struct [(50, 0), (9, 1), (3, 2), (44, 3), (41, 4)]), 11, 184, some [.v (.int .i64 0), .v (.string ⟨#[]⟩), .v (.int .i64 0), .nils, .v (.int .i64 0), .v (.string ⟨#[]⟩), .nils, .v (.bool false), .nils, .nils, .nils], true⟩),
 (55, ⟨(.int .i64), 1, 8, some [.v (.int .i64 0)], true⟩),
 (56, ⟨(.struct [(9, 0), (55, 1), (44, 2), (44, 3), (41, 4)]), 11, 200, some [.v (.string ⟨#[]⟩), .v (.int .i64 0), .nils, .nils, .v (.int .i64 0), .v (.string ⟨#[]⟩), .nils, .v (.bool false), .nils, .nils, .nils], true⟩),
 (57, ⟨(.struct [(9, 0), (55, 1), (44, 2), (44, 3), (41, 4)]), 11, 200, some [.v (.string ⟨#[]⟩), .v (.int .i64 0), .nils, .nils, .v (.int .i64 0), .v (.string ⟨#[]⟩), .nils, .v (.bool false), .nils, .nils, .nils], true⟩),
 (61, ⟨(.slice 63), 1, 24, some [.nils], true⟩),
 (62, ⟨(.struct [(9, 0), (61, 1)]), 2, 40, some [.v (.string ⟨#[]⟩), .nils], true⟩),
 (63, ⟨(.struct [(9, 0), (61, 1)]), 2, 40, some [.v (.string ⟨#[]⟩), .nils], true⟩),
 (68, ⟨(.struct [(9, 0), (3, 1), (3, 2)]), 3, 32, some [.v (.string ⟨#[]⟩), .v (.int .i64 0), .v (.int .i64 0)], true⟩),
 (69, ⟨(.struct [(9, 0), (3, 1), (3, 2)]), 3, 32, some [.v (.string ⟨#[]⟩), .v (.int .i64 0), .v (.int .i64 0)], true⟩),
 (81, ⟨(.ptr 86), 1, 8, some [.v (.pointer none)], true⟩),
 (82, ⟨(.map 9 3), 1, 8, some [.v (.map none)], true⟩),
 (83, ⟨(.map 9 3), 1, 8, some [.v (.map none)], true⟩),
 (84, ⟨(.map 9 4), 1, 8, some [.v (.map none)], true⟩),
 (85, ⟨(.struct [(83, 0), (84, 1), (44, 2)]), 3, 40, some [.v (.map none), .v (.map none), .nils], true⟩),
 (86, ⟨(.struct [(83, 0), (84, 1), (44, 2)]), 3, 40, some [.v (.map none), .v (.map none), .nils], true⟩),
 (91, ⟨(.ptr 93), 1, 8, some [.v (.pointer none)], true⟩),
 (92, ⟨(.struct [(82, 0), (83, 1), (4, 2)]), 3, 24, some [.v (.map none), .v (.map none), .v (.bool false)], true⟩),
 (93, ⟨(.struct [(82, 0), (83, 1), (4, 2)]), 3, 24, some [.v (.map none), .v (.map none), .v (.bool false)], true⟩),
 (103, ⟨(.ptr 105), 1, 8, some [.v (.pointer none)], true⟩),
 (104, ⟨(.struct [(44, 0), (3, 1), (3, 2)]), 3, 40, some [.nils, .v (.int .i64 0), .v (.int .i64 0)], true⟩),
 (105, ⟨(.struct [(44, 0), (3, 1), (3, 2)]), 3, 40, some [.nils, .v (.int .i64 0), .v (.int .i64 0)], true⟩),
 (112, ⟨(.ptr 115), 1, 8, some [.v (.pointer none)], true⟩),
 (113, ⟨(.slice 5), 1, 24, some [.nils], true⟩),
 (114, ⟨(.struct [(112, 0), (113, 1)]), 2, 32, some [.v (.pointer none), .nils], true⟩),
 (115, ⟨(.struct [(112, 0), (113, 1)]), 2, 32, some [.v (.pointer none), .nils], true⟩),
 (118, ⟨.iface, 1, 16, some [.v .nilIface], false⟩),
 (139, ⟨(.ptr 5), 1, 8, some [.v (.pointer none)], true⟩),
 (151, ⟨(.struct []), 0, 0, some [], true⟩),
 (152, ⟨(.struct []), 0, 0, some [], true⟩),
 (160, ⟨(.int .u64), 1, 8, some [.v (.int .u64 0)], true⟩),
 (168, ⟨(.array 4 3), 4, 32, some [.v (.int .i64 0), .v (.int .i64 0), .v (.int .i64 0), .v (.int .i64 0)], true⟩),
 (169, ⟨(.map 3 4), 1, 8, some [.v (.map none)], true⟩),
 (176, ⟨(.int .u64), 1, 8, some [.v (.int .u64 0)], true⟩),
 (179, ⟨(.int .u32), 1, 4, some [.v (.int .u32 0)], true⟩),
 (186, ⟨(.int .i64), 1, 8, some [.v (.int .i64 0)], true⟩),
 (194, ⟨(.struct [(5, 0), (5, 1)]), 2, 2, some [.v (.int .u8 0), .v (.int .u8 0)], true⟩),
 (203, ⟨(.struct [(9, 0), (9, 1), (118, 2)]), 3, 48, some [.v (.string ⟨#[]⟩), .v (.string ⟨#[]⟩), .v .nilIface], false⟩),
 (210, ⟨(.struct [(9, 0)]), 1, 16, some [.v (.string ⟨#[]⟩)], true⟩)]
set_option maxRecDepth 100000
theorem tabOk : TOk Tryz.prog tab := by unfold TOk; kernel_rfl
theorem follows : Tryz.prog.follows .mixedOrders = true := by kernel_rfl
theorem ZHn (nt : Nat) (h : nt ≤ EXT) : ZuL Tryz.prog tab nt (@ZsV) := ZA6 tabOk h follows

set_option linter.unusedSimpArgs false
set_option maxHeartbeats 4000000
set_option synthInstance.maxHeartbeats 1000000
set_option synthInstance.maxSize 1000
theorem nd {nt : Nat} (h : decide (nt ≤ EXT) = true) (c : Code) (Q : Exit → AS → Prop) (S : AS) (hk : Am.node (@ZsV) Tryz.prog tab nt c Q S) : AWP Tryz.prog nt c Q S :=
 AWP.node tabOk (of_decide_eq_true h) (ZHn nt (of_decide_eq_true h)) c Q S hk
theorem nn {nt : Nat} {c : Code} {Q : Exit → AS → Prop} {S : AS} (hk : Am.node (@ZsV) Tryz.prog tab nt c Q S) (h : decide (nt ≤ EXT) = true := by decide) : AWP Tryz.prog nt c Q S := nd h c Q S hk
theorem nw {nt : Nat} {c : Code} {Q : Exit → AS → Prop} {S : AS} {G' : Prop} (hk : G') (s : ZbF (Am.node (@ZsV) Tryz.prog tab nt c Q S) G' := by (conv => (arg 1; whnf)); exact ZbF.done) (h : decide (nt ≤ EXT) = true := by decide) : AWP Tryz.prog nt c Q S := nd h c Q S (s hk)
theorem ns {nt : Nat} {c : Code} {Q : Exit → AS → Prop} {S : AS} {G' : Prop} (hk : G') (s : ZbF (Am.node (@ZsV) Tryz.prog tab nt c Q S) G' := by
  (repeat (first | ((conv => (arg 1; whnf)); (with_reducible apply ZbF.side); (focus (first | exact Eq.refl _ | exact trivial | (with_reducible assumption) | (with_reducible exact Int.natCast_nonneg _) | exact Nat.le_of_ble_eq_true (Eq.refl true) | exact ZcL (Eq.refl _) (Eq.refl _) (Eq.refl _) | decide)))))
  (conv => (arg 1; whnf))
  exact ZbF.done) (h : decide (nt ≤ EXT) = true := by decide) : AWP Tryz.prog nt c Q S := nd h c Q S (s hk)
theorem en {f : FuncId} {fn : Func} (hf : Tryz.prog.funcs[f]? = some fn) {args : List D} {bx bx' : ZbV} {d' : D} (hk : AWP Tryz.prog fn.ntmps (ZnK fn) (Zzp tab fn.results (ZB0 d' bx')) ⟨ZdY 0 args, bx⟩)
  (hb : fn.body.isSome = true := by exact rfl) (hname : (fn.name == "runtime.NumGoroutine") = false := by decide) (hargs : args.length ≤ fn.ntmps := by exact Nat.le_of_ble_eq_true rfl) : Zq Tryz.prog f args bx fun d b => d = d' ∧ b = bx' :=
 enter tabOk hf hb hname hargs hk
theorem ZhV {nt : Nat} {c : Code} {Q : Exit → AS → Prop} {S : AS} {G' : Prop} (h : decide (nt ≤ EXT) = true) (k : ZbF (Am.node (@ZsV) Tryz.prog tab nt c Q S) G') : ZbF (AWP Tryz.prog nt c Q S) G' := fun g => nd h c Q S (k g)
theorem zgo {G G' : Prop} (k : G') (s : ZbF G G' := by (repeat (first | ((conv => (arg 1; whnf)); (with_reducible apply ZbF.side); (focus (first | exact Eq.refl _ | exact trivial | (with_reducible assumption) | (with_reducible exact Int.natCast_nonneg _) | exact Nat.le_of_ble_eq_true (Eq.refl true) | exact ZcL (Eq.refl _) (Eq.refl _) (Eq.refl _) | decide))) | ((conv => (arg 1; whnf)); (with_reducible apply ZhV); (focus decide)))); (conv => (arg 1; whnf)); exact ZbF.done) : G := s k
theorem zbr {b : Bool} {A B G : Prop} {α : Type} {x y : Option α} {r : α} (h : (if b = true then x else y) = some r) (h1 : b = true → x = some r → A) (h2 : b = false → y = some r → B) (s : ZbF G (ZgU b A B) := by (repeat (first | ((conv => (arg 1; whnf)); (with_reducible apply ZbF.side); (focus (first | exact Eq.refl _ | exact trivial | (with_reducible assumption) | (with_reducible exact Int.natCast_nonneg _) | exact Nat.le_of_ble_eq_true (Eq.refl true) | exact ZcL (Eq.refl _) (Eq.refl _) (Eq.refl _) | decide))) | ((conv => (arg 1; whnf)); (with_reducible apply ZhV); (focus decide)))); (conv => (arg 1; whnf)); exact ZbF.done) : G := s (ZyO h h1 h2)
theorem zbl {α : Type} {l pre post : List α} {k : Nat} {A B G : Prop} (h : l = pre ++ post) (hk : k = pre.length) (h1 : ∀ x post', post = x :: post' → l[k]? = some x → k < l.length → A) (h2 : post = [] → B) (s : ZbF G (ZgU (decide (((k : Nat) : Int) < ((l.length : Nat) : Int))) A B) := by (repeat (first | ((conv => (arg 1; whnf)); (with_reducible apply ZbF.side); (focus (first | exact Eq.refl _ | exact trivial | (with_reducible assumption) | (with_reducible exact Int.natCast_nonneg _) | exact Nat.le_of_ble_eq_true (Eq.refl true) | exact ZcL (Eq.refl _) (Eq.refl _) (Eq.refl _) | decide))) | ((conv => (arg 1; whnf)); (with_reducible apply ZhV); (focus decide)))); (conv => (arg 1; whnf)); exact ZbF.done) : G := s (ZvN h hk h1 h2)
theorem znl {nt : Nat} {c : Code} {Q : Exit → AS → Prop} {S T : AS} {G : Prop} (h : AWL Tryz.prog nt c Q T) (s : ZbF G (AWL Tryz.prog nt c Q S) := by (repeat (first | ((conv => (arg 1; whnf)); (with_reducible apply ZbF.side); (focus (first | exact Eq.refl _ | exact trivial | (with_reducible assumption) | (with_reducible exact Int.natCast_nonneg _) | exact Nat.le_of_ble_eq_true (Eq.refl true) | exact ZcL (Eq.refl _) (Eq.refl _) (Eq.refl _) | decide))) | ((conv => (arg 1; whnf)); (with_reducible apply ZhV); (focus decide)))); (conv => (arg 1; whnf)); exact ZbF.done) (hw : WS (rn []) S T := by
  (refine WS.mk ?_ ?_ <;> (repeat' (first | exact ZcZ | exact Zc6 | (refine ZcI ?_ ?_; (focus ((conv => (arg 2; whnf)); first | with_reducible exact Znh | with_reducible exact Zc7 (WE.refl _) | with_reducible exact Zc7 (ZeC (Zep (by assumption) (by assumption))) | with_reducible exact Zc7 (ZeC (ZcJ (by assumption) (by assumption))) | exact Znh | exact Zc7 (WE.refl _) | exact ZhJ rfl (WE.refl _) | exact Zc7 WE.nil | exact ZkP | exact Zit rfl | exact Zkv | (refine ZgG ?_; (repeat' (first | exact Zn | refine lc ?_ | refine Zce WE.nil ?_))) | (refine ZkL ?_; (repeat' (first | exact ZkN | refine Zk2 (WE.refl _) ?_ | refine Zk2 WE.nil ?_ | refine Zke ?_ ?_ | exact Zn | refine lc ?_ | refine Zce WE.nil ?_))) | (refine Zkl ?_; (repeat' (first | exact Zn | refine lc ?_ | refine Zce WE.nil ?_)))))) | (refine Zn5 ?_ ?_; (focus ((conv => (arg 2; whnf)); first | with_reducible exact Znf | exact Znf | (refine ZiL ?_; (repeat' (first | exact ZcA | refine cc ?_ | refine Zf2 (ZeC (Zep (by assumption) (by assumption))) ?_ | refine Zf2 (ZeC (ZcJ (by assumption) (by assumption))) ?_ | refine Zf2 WE.nil ?_ | refine Zkf rfl (WE.refl _) ?_ | refine ZfT ?_)))))))))) : G := s (AWL.weak _ hw h)
theorem zre {α : Type} {K : List α → Prop} {G : Prop} {S T : AS} (a : List α) (s : ZbF G (∃ a, K a) := by (repeat (first | ((conv => (arg 1; whnf)); (with_reducible apply ZbF.side); (focus (first | exact Eq.refl _ | exact trivial | (with_reducible assumption) | (with_reducible exact Int.natCast_nonneg _) | exact Nat.le_of_ble_eq_true (Eq.refl true) | exact ZcL (Eq.refl _) (Eq.refl _) (Eq.refl _) | decide))) | ((conv => (arg 1; whnf)); (with_reducible apply ZhV); (focus decide)))); (conv => (arg 1; whnf)); exact ZbF.done) (s' : ZbF (K a) (∃ r, WS r S T) := by (repeat (first | ((conv => (arg 1; whnf)); (with_reducible apply ZbF.side); (focus (first | exact Eq.refl _ | exact trivial | (with_reducible assumption) | (with_reducible exact Int.natCast_nonneg _) | exact Nat.le_of_ble_eq_true (Eq.refl true) | exact ZcL (Eq.refl _) (Eq.refl _) (Eq.refl _) | decide))) | ((conv => (arg 1; whnf)); (with_reducible apply ZhV); (focus decide)))); (conv => (arg 1; whnf)); exact ZbF.done) (hw : WS (rn []) S T := by
  (refine WS.mk ?_ ?_ <;> (repeat' (first | exact ZcZ | exact Zc6 | (refine ZcI ?_ ?_; (focus ((conv => (arg 2; whnf)); first | with_reducible exact Znh | with_reducible exact Zc7 (WE.refl _) | with_reducible exact Zc7 (ZeC (Zep (by assumption) (by assumption))) | with_reducible exact Zc7 (ZeC (ZcJ (by assumption) (by assumption))) | exact Znh | exact Zc7 (WE.refl _) | exact ZhJ rfl (WE.refl _) | exact Zc7 WE.nil | exact ZkP | exact Zit rfl | exact Zkv | (refine ZgG ?_; (repeat' (first | exact Zn | refine lc ?_ | refine Zce WE.nil ?_))) | (refine ZkL ?_; (repeat' (first | exact ZkN | refine Zk2 (WE.refl _) ?_ | refine Zk2 WE.nil ?_ | refine Zke ?_ ?_ | exact Zn | refine lc ?_ | refine Zce WE.nil ?_))) | (refine Zkl ?_; (repeat' (first | exact Zn | refine lc ?_ | refine Zce WE.nil ?_)))))) | (refine Zn5 ?_ ?_; (focus ((conv => (arg 2; whnf)); first | with_reducible exact Znf | exact Znf | (refine ZiL ?_; (repeat' (first | exact ZcA | refine cc ?_ | refine Zf2 (ZeC (Zep (by assumption) (by assumption))) ?_ | refine Zf2 (ZeC (ZcJ (by assumption) (by assumption))) ?_ | refine Zf2 WE.nil ?_ | refine Zkf rfl (WE.refl _) ?_ | refine ZfT ?_)))))))))) : G := s ⟨a, s' ⟨_, hw⟩⟩
theorem zrg {α : Type} {K : List α → Prop} {G : Prop} {S T : AS} (a : List α) (r : Nat → Nat) (s : ZbF G (∃ a, K a) := by (repeat (first | ((conv => (arg 1; whnf)); (with_reducible apply ZbF.side); (focus (first | exact Eq.refl _ | exact trivial | (with_reducible assumption) | (with_reducible exact Int.natCast_nonneg _) | exact Nat.le_of_ble_eq_true (Eq.refl true) | exact ZcL (Eq.refl _) (Eq.refl _) (Eq.refl _) | decide))) | ((conv => (arg 1; whnf)); (with_reducible apply ZhV); (focus decide)))); (conv => (arg 1; whnf)); exact ZbF.done) (s' : ZbF (K a) (∃ r, WS r S T) := by (repeat (first | ((conv => (arg 1; whnf)); (with_reducible apply ZbF.side); (focus (first | exact Eq.refl _ | exact trivial | (with_reducible assumption) | (with_reducible exact Int.natCast_nonneg _) | exact Nat.le_of_ble_eq_true (Eq.refl true) | exact ZcL (Eq.refl _) (Eq.refl _) (Eq.refl _) | decide))) | ((conv => (arg 1; whnf)); (with_reducible apply ZhV); (focus decide)))); (conv => (arg 1; whnf)); exact ZbF.done) (hw : WS r S T := by
  (refine WS.mk ?_ ?_ <;> (repeat' (first | exact ZcZ | exact Zc6 | (refine ZcI ?_ ?_; (focus ((conv => (arg 2; whnf)); first | exact ZqJ | with_reducible exact Zc7 (WE.refl _) | with_reducible exact ZhJ rfl (WE.refl _) | with_reducible exact Zc7 (ZeC (Zep (by assumption) (by assumption))) | with_reducible exact Zc7 (ZeC (ZcJ (by assumption) (by assumption))) | exact Zc7 (WE.refl _) | exact ZhJ rfl (WE.refl _) | exact Zc7 WE.nil | exact ZkP | exact Zit rfl | exact Zkv | (refine ZgG ?_; (repeat' (first | exact Zn | refine lc ?_ | refine Zce WE.nil ?_))) | (refine ZkL ?_; (repeat' (first | exact ZkN | refine Zk2 (WE.refl _) ?_ | refine Zk2 WE.nil ?_ | refine Zke ?_ ?_ | exact Zn | refine lc ?_ | refine Zce WE.nil ?_))) | (refine Zkl ?_; (repeat' (first | exact Zn | refine lc ?_ | refine Zce WE.nil ?_)))))) | (refine Zn5 ?_ ?_; (focus ((conv => (arg 2; whnf)); first | with_reducible exact ZiH (by exact Eq.refl _) | exact ZiH (by exact Eq.refl _) | (refine ZiL ?_; (repeat' (first | exact ZcA | refine cc ?_ | refine Zf2 (ZeC (Zep (by assumption) (by assumption))) ?_ | refine Zf2 (ZeC (ZcJ (by assumption) (by assumption))) ?_ | refine Zf2 WE.nil ?_ | refine Zkf rfl (WE.refl _) ?_ | refine ZfT ?_)))))))))) : G := s ⟨a, s' ⟨r, hw⟩⟩
theorem znr {nt : Nat} {c : Code} {Q : Exit → AS → Prop} {S T : AS} {G : Prop} (r : Nat → Nat) (h : AWL Tryz.prog nt c Q T) (s : ZbF G (AWL Tryz.prog nt c Q S) := by (repeat (first | ((conv => (arg 1; whnf)); (with_reducible apply ZbF.side); (focus (first | exact Eq.refl _ | exact trivial | (with_reducible assumption) | (with_reducible exact Int.natCast_nonneg _) | exact Nat.le_of_ble_eq_true (Eq.refl true) | exact ZcL (Eq.refl _) (Eq.refl _) (Eq.refl _) | decide))) | ((conv => (arg 1; whnf)); (with_reducible apply ZhV); (focus decide)))); (conv => (arg 1; whnf)); exact ZbF.done) (hw : WS r S T := by
  (refine WS.mk ?_ ?_ <;> (repeat' (first | exact ZcZ | exact Zc6 | (refine ZcI ?_ ?_; (focus ((conv => (arg 2; whnf)); first | exact ZqJ | with_reducible exact Zc7 (WE.refl _) | with_reducible exact ZhJ rfl (WE.refl _) | with_reducible exact Zc7 (ZeC (Zep (by assumption) (by assumption))) | with_reducible exact Zc7 (ZeC (ZcJ (by assumption) (by assumption))) | exact Zc7 (WE.refl _) | exact ZhJ rfl (WE.refl _) | exact Zc7 WE.nil | exact ZkP | exact Zit rfl | exact Zkv | (refine ZgG ?_; (repeat' (first | exact Zn | refine lc ?_ | refine Zce WE.nil ?_))) | (refine ZkL ?_; (repeat' (first | exact ZkN | refine Zk2 (WE.refl _) ?_ | refine Zk2 WE.nil ?_ | refine Zke ?_ ?_ | exact Zn | refine lc ?_ | refine Zce WE.nil ?_))) | (refine Zkl ?_; (repeat' (first | exact Zn | refine lc ?_ | refine Zce WE.nil ?_)))))) | (refine Zn5 ?_ ?_; (focus ((conv => (arg 2; whnf)); first | with_reducible exact ZiH (by exact Eq.refl _) | exact ZiH (by exact Eq.refl _) | (refine ZiL ?_; (repeat' (first | exact ZcA | refine cc ?_ | refine Zf2 (ZeC (Zep (by assumption) (by assumption))) ?_ | refine Zf2 (ZeC (ZcJ (by assumption) (by assumption))) ?_ | refine Zf2 WE.nil ?_ | refine Zkf rfl (WE.refl _) ?_ | refine ZfT ?_)))))))))) : G := s (AWL.weak _ hw h)
theorem zca {α β γ : Type} {K : α → β → γ → Prop} {f : FuncId} {args args' : List D} {bx bx' b0 : ZbV} {d0 : D} {K' : D → ZbV → Prop} {G : Prop} (a : α) (b : β) (c : γ) (h : Zq Tryz.prog f args bx fun d b => d = d0 ∧ b = b0) (k : K' d0 b0) (s : ZbF G (∃ a b c, K a b c) := by (repeat (first | ((conv => (arg 1; whnf)); (with_reducible apply ZbF.side); (focus (first | exact Eq.refl _ | exact trivial | (with_reducible assumption) | (with_reducible exact Int.natCast_nonneg _) | exact Nat.le_of_ble_eq_true (Eq.refl true) | exact ZcL (Eq.refl _) (Eq.refl _) (Eq.refl _) | decide))) | ((conv => (arg 1; whnf)); (with_reducible apply ZhV); (focus decide)))); (conv => (arg 1; whnf)); exact ZbF.done)
  (s' : ZbF (K a b c) (Zq Tryz.prog f args' bx' K') := by (repeat (first | ((conv => (arg 1; whnf)); (with_reducible apply ZbF.side); (focus (first | exact Eq.refl _ | exact trivial | (with_reducible assumption) | (with_reducible exact Int.natCast_nonneg _) | exact Nat.le_of_ble_eq_true (Eq.refl true) | exact ZcL (Eq.refl _) (Eq.refl _) (Eq.refl _) | decide))) | ((conv => (arg 1; whnf)); (with_reducible apply ZhV); (focus decide)))); (conv => (arg 1; whnf)); exact ZbF.done) (hl : args'.length = args.length := by exact rfl) (hw : WS (rn []) ⟨ZdY 0 args', bx'⟩ ⟨ZdY 0 args, bx⟩ := by
  (refine WS.mk ?_ ?_ <;> (repeat' (first | exact ZcZ | exact Zc6 | (refine ZcI ?_ ?_; (focus ((conv => (arg 2; whnf)); first | with_reducible exact Znh | with_reducible exact Zc7 (WE.refl _) | with_reducible exact Zc7 (ZeC (Zep (by assumption) (by assumption))) | with_reducible exact Zc7 (ZeC (ZcJ (by assumption) (by assumption))) | exact Znh | exact Zc7 (WE.refl _) | exact ZhJ rfl (WE.refl _) | exact Zc7 WE.nil | exact ZkP | exact Zit rfl | exact Zkv | (refine ZgG ?_; (repeat' (first | exact Zn | refine lc ?_ | refine Zce WE.nil ?_))) | (refine ZkL ?_; (repeat' (first | exact ZkN | refine Zk2 (WE.refl _) ?_ | refine Zk2 WE.nil ?_ | refine Zke ?_ ?_ | exact Zn | refine lc ?_ | refine Zce WE.nil ?_))) | (refine Zkl ?_; (repeat' (first | exact Zn | refine lc ?_ | refine Zce WE.nil ?_)))))) | (refine Zn5 ?_ ?_; (focus ((conv => (arg 2; whnf)); first | with_reducible exact Znf | exact Znf | (refine ZiL ?_; (repeat' (first | exact ZcA | refine cc ?_ | refine Zf2 (ZeC (Zep (by assumption) (by assumption))) ?_ | refine Zf2 (ZeC (ZcJ (by assumption) (by assumption))) ?_ | refine Zf2 WE.nil ?_ | refine Zkf rfl (WE.refl _) ?_ | refine ZfT ?_)))))))))) : G := s ⟨a, b, c, s' (ZbF.call h _ hl hw k)⟩
theorem zcb {α β γ : Type} {K : α → β → γ → Prop} {f : FuncId} {args args' : List D} {bx bx' b0 : ZbV} {d0 : D} {K' : D → ZbV → Prop} {G : Prop} (a : α) (b : β) (c : γ) (r : Nat → Nat) (h : Zq Tryz.prog f args bx fun d b => d = d0 ∧ b = b0) (k : K' d0 b0) (s : ZbF G (∃ a b c, K a b c) := by (repeat (first | ((conv => (arg 1; whnf)); (with_reducible apply ZbF.side); (focus (first | exact Eq.refl _ | exact trivial | (with_reducible assumption) | (with_reducible exact Int.natCast_nonneg _) | exact Nat.le_of_ble_eq_true (Eq.refl true) | exact ZcL (Eq.refl _) (Eq.refl _) (Eq.refl _) | decide))) | ((conv => (arg 1; whnf)); (with_reducible apply ZhV); (focus decide)))); (conv => (arg 1; whnf)); exact ZbF.done)
  (s' : ZbF (K a b c) (Zq Tryz.prog f args' bx' K') := by (repeat (first | ((conv => (arg 1; whnf)); (with_reducible apply ZbF.side); (focus (first | exact Eq.refl _ | exact trivial | (with_reducible assumption) | (with_reducible exact Int.natCast_nonneg _) | exact Nat.le_of_ble_eq_true (Eq.refl true) | exact ZcL (Eq.refl _) (Eq.refl _) (Eq.refl _) | decide))) | ((conv => (arg 1; whnf)); (with_reducible apply ZhV); (focus decide)))); (conv => (arg 1; whnf)); exact ZbF.done) (hl : args'.length = args.length := by exact rfl) (hw : WS r ⟨ZdY 0 args', bx'⟩ ⟨ZdY 0 args, bx⟩ := by
  (refine WS.mk ?_ ?_ <;> (repeat' (first | exact ZcZ | exact Zc6 | (refine ZcI ?_ ?_; (focus ((conv => (arg 2; whnf)); first | exact ZqJ | with_reducible exact Zc7 (WE.refl _) | with_reducible exact ZhJ rfl (WE.refl _) | with_reducible exact Zc7 (ZeC (Zep (by assumption) (by assumption))) | with_reducible exact Zc7 (ZeC (ZcJ (by assumption) (by assumption))) | exact Zc7 (WE.refl _) | exact ZhJ rfl (WE.refl _) | exact Zc7 WE.nil | exact ZkP | exact Zit rfl | exact Zkv | (refine ZgG ?_; (repeat' (first | exact Zn | refine lc ?_ | refine Zce WE.nil ?_))) | (refine ZkL ?_; (repeat' (first | exact ZkN | refine Zk2 (WE.refl _) ?_ | refine Zk2 WE.nil ?_ | refine Zke ?_ ?_ | exact Zn | refine lc ?_ | refine Zce WE.nil ?_))) | (refine Zkl ?_; (repeat' (first | exact Zn | refine lc ?_ | refine Zce WE.nil ?_)))))) | (refine Zn5 ?_ ?_; (focus ((conv => (arg 2; whnf)); first | with_reducible exact ZiH (by exact Eq.refl _) | exact ZiH (by exact Eq.refl _) | (refine ZiL ?_; (repeat' (first | exact ZcA | refine cc ?_ | refine Zf2 (ZeC (Zep (by assumption) (by assumption))) ?_ | refine Zf2 (ZeC (ZcJ (by assumption) (by assumption))) ?_ | refine Zf2 WE.nil ?_ | refine Zkf rfl (WE.refl _) ?_ | refine ZfT ?_)))))))))) : G := s ⟨a, b, c, s' (ZbF.call h _ hl hw k)⟩
theorem zln {A A' B' B G : Prop} (k : A → B) (s : ZbF G (A' → B') := by (repeat (first | ((conv => (arg 1; whnf)); (with_reducible apply ZbF.side); (focus (first | exact Eq.refl _ | exact trivial | (with_reducible assumption) | (with_reducible exact Int.natCast_nonneg _) | exact Nat.le_of_ble_eq_true (Eq.refl true) | exact ZcL (Eq.refl _) (Eq.refl _) (Eq.refl _) | decide))) | ((conv => (arg 1; whnf)); (with_reducible apply ZhV); (focus decide)))); (conv => (arg 1; whnf)); exact ZbF.done) (s' : ZbF (A' → B') (A → B) := by (conv => (arg 1; (try rw [List.length_map]))); exact ZbF.done) : G := s (s' k)
theorem zsr {A G G' : Prop} (e : A) (h : G') (s : A → ZbF G G' := by intro e; (repeat (first | ((conv => (arg 1; whnf)); (with_reducible apply ZbF.side); (focus (first | exact Eq.refl _ | exact trivial | (with_reducible assumption) | (with_reducible exact Int.natCast_nonneg _) | exact Nat.le_of_ble_eq_true (Eq.refl true) | exact ZcL (Eq.refl _) (Eq.refl _) (Eq.refl _) | decide))) | ((conv => (arg 1; whnf)); (with_reducible apply ZhV); (focus decide)) | ((conv => (arg 1; whnf)); rw [e]))); (conv => (arg 1; whnf)); exact ZbF.done) : G := s e h
theorem zsa {A B G G' : Prop} (a : A) (b : B) (h : G') (s : A → B → ZbF G G' := by intro a b; (repeat (first | ((conv => (arg 1; whnf)); (with_reducible apply ZbF.side); (focus (first | exact Eq.refl _ | exact trivial | (with_reducible assumption) | (with_reducible exact Int.natCast_nonneg _) | exact Nat.le_of_ble_eq_true (Eq.refl true) | exact ZcL (Eq.refl _) (Eq.refl _) (Eq.refl _) | decide))) | ((conv => (arg 1; whnf)); (with_reducible apply ZhV); (focus decide)) | ((with_reducible apply ZbF.side); (focus (first | exact a _ | exact Zzv | (simp only [List.length_map, List.length_set]; exact Nat.le_refl _) | (have h := b; simp only [List.length_map, List.length_append, List.length_cons, List.length_nil, Nat.zero_add] at h ⊢; first | exact h | (unfold maxLen; omega) | omega)))))); exact ZbF.done) : G := s a b h
theorem zbt {b : Bool} {A B G : Prop} (h1 : b = true → A) (h2 : b = false → B) (s : ZbF G (ZiP b true A B) := by (repeat (first | ((conv => (arg 1; whnf)); (with_reducible apply ZbF.side); (focus (first | exact Eq.refl _ | exact trivial | (with_reducible assumption) | (with_reducible exact Int.natCast_nonneg _) | exact Nat.le_of_ble_eq_true (Eq.refl true) | exact ZcL (Eq.refl _) (Eq.refl _) (Eq.refl _) | decide))) | ((conv => (arg 1; whnf)); (with_reducible apply ZhV); (focus decide)))); (conv => (arg 1; whnf)); exact ZbF.done) : G := s (Zpa true h1 h2)
theorem zbf {b : Bool} {A B G : Prop} (h1 : b = true → B) (h2 : b = false → A) (s : ZbF G (ZiP b false A B) := by (repeat (first | ((conv => (arg 1; whnf)); (with_reducible apply ZbF.side); (focus (first | exact Eq.refl _ | exact trivial | (with_reducible assumption) | (with_reducible exact Int.natCast_nonneg _) | exact Nat.le_of_ble_eq_true (Eq.refl true) | exact ZcL (Eq.refl _) (Eq.refl _) (Eq.refl _) | decide))) | ((conv => (arg 1; whnf)); (with_reducible apply ZhV); (focus decide)))); (conv => (arg 1; whnf)); exact ZbF.done) : G := s (Zpa false h1 h2)
theorem zdp {G G' : Prop} (h : G') (s : ZbF G G' := by (repeat (first | ((conv => (arg 1; whnf)); (with_reducible apply ZbF.side); (focus (first | exact Eq.refl _ | exact trivial | (with_reducible assumption) | (with_reducible exact Int.natCast_nonneg _) | exact Nat.le_of_ble_eq_true (Eq.refl true) | exact ZcL (Eq.refl _) (Eq.refl _) (Eq.refl _) | decide))) | ((conv => (arg 1; whnf)); (with_reducible apply ZhV); (focus decide)) | ((conv => (arg 1; whnf)); (with_reducible apply ZbF.free); (focus (((repeat (first | ((conv => whnf); (with_reducible refine And.intro ?_ ?_); (focus (first | exact Eq.refl _ | exact trivial | (with_reducible assumption) | (with_reducible exact Int.natCast_nonneg _) | exact Nat.le_of_ble_eq_true (Eq.refl true) | exact ZcL (Eq.refl _) (Eq.refl _) (Eq.refl _) | decide))))); (conv => whnf)) <;> (exact rfl))); (focus exact rfl)))); (conv => (arg 1; whnf)); exact ZbF.done) : G := s h
theorem zdo {nt : Nat} {ops : Array Oper} {S : AS} {K : AS → Prop} {G R : Prop} (m : Nat) (all ms : List Nat) (k : ZrM (zhm all ms) fun hs => ZeL (S.drop all) fun S => ZqY Tryz.prog tab nt ops all (ops.toList.take m) hs S fun S' => ZmT Tryz.prog tab nt ops (ops.toList.drop m) S' K) (s : ZbF G (Zq7 Tryz.prog tab nt ops S K ∨ R) := by (repeat (first | ((conv => (arg 1; whnf)); (with_reducible apply ZbF.side); (focus (first | exact Eq.refl _ | exact trivial | (with_reducible assumption) | (with_reducible exact Int.natCast_nonneg _) | exact Nat.le_of_ble_eq_true (Eq.refl true) | exact ZcL (Eq.refl _) (Eq.refl _) (Eq.refl _) | decide))) | ((conv => (arg 1; whnf)); (with_reducible apply ZhV); (focus decide)))); (conv => (arg 1; whnf)); exact ZbF.done)
  (ok : (ZsZ ops m (List.replicate m []) && zhm all ms == ZuS ops m (List.replicate m []) && all == Zhe (ops.toList.take m)) = true := by decide +kernel) : G := s (.inl (.inl ⟨m, _, _, all, ok, by rw [Zr6] at k; exact k⟩))
theorem zdn {nt : Nat} {ops : Array Oper} {S : AS} {K : AS → Prop} {G R : Prop} (es : List Nat) (hs : List (List Nat)) (bs xs all tl : List Nat) (k : ZeL (S.drop all) fun S => ZvL Tryz.prog tab nt ops all bs es hs S fun U => ck xs bs all U U ∧ Zpb Tryz.prog tab nt ops (ck xs bs all U) (tl.filterMap (ops[·]?)) U K) (s : ZbF G (Zq7 Tryz.prog tab nt ops S K ∨ R) := by (repeat (first | ((conv => (arg 1; whnf)); (with_reducible apply ZbF.side); (focus (first | exact Eq.refl _ | exact trivial | (with_reducible assumption) | (with_reducible exact Int.natCast_nonneg _) | exact Nat.le_of_ble_eq_true (Eq.refl true) | exact ZcL (Eq.refl _) (Eq.refl _) (Eq.refl _) | decide))) | ((conv => (arg 1; whnf)); (with_reducible apply ZhV); (focus decide)))); (conv => (arg 1; whnf)); exact ZbF.done)
  (ok : (ZrN ops es && hs == es.map (ZtL ops es) && all == ZtF ops es && tl == ZkA ops es && (es.all fun i => match ops[i]? with | some o => (ZeZ o).all (xs.contains ·) | none => false) && all.all (xs.contains ·)) = true := by decide +kernel) : G := s (.inl (.inr ⟨es, hs, bs, xs, all, tl, ok, k⟩))
theorem zpt {G : Prop} (h : G := by
  refine zgo ?_
  repeat' (first | (refine ZJh ?_ ?_ <;> intro h <;> refine zgo ?_) | (intro h; (try rw [List.length_map] at h); (try rw [List.length_map]); refine zgo ?_) | exact zwe)) : G := h
def nP (nt : Nat) (f : Func) (path : List Nat) (d : D) (bx : ZbV) (S : AS) : Prop := AWP Tryz.prog nt (Code.sub (ZnK f) path) (Code.cont Tryz.prog nt (ZnK f) path (Zzp tab f.results (ZB0 d bx))) S
def nL (nt : Nat) (f : Func) (path : List Nat) (d : D) (bx : ZbV) (S : AS) : Prop := AWL Tryz.prog nt (Code.sub (ZnK f) (path ++ [0])) (Code.cont Tryz.prog nt (ZnK f) path (Zzp tab f.results (ZB0 d bx))) S
def c_S (x : ByteArray) : List E := [.v (.string x)]
theorem Zbb (x : ByteArray) : (c_S x).length = 1 := rfl
structure Zc where
 fwords : (List ByteArray)
 fat : Int
 fdepth : Int
def Zc.cells (v : Zc) : List E := [.sl (v.fwords.map c_S), .v (.int .i64 v.fat), .v (.int .i64 v.fdepth)]
theorem Zc.cells_eq (v : Zc) : v.cells = [.sl (v.fwords.map c_S), .v (.int .i64 v.fat), .v (.int .i64 v.fdepth)] := rfl
theorem Zc.cells_len (v : Zc) : v.cells.length = 3 := rfl
structure ZhD where
 fCode : Int
 fName : ByteArray
 fLine : Int
 fCol : Int
def ZhD.cells (v : ZhD) : List E := [.v (.int .i64 v.fCode), .v (.string v.fName), .v (.int .i64 v.fLine), .v (.int .i64 v.fCol)]
theorem ZhD.cells_eq (v : ZhD) : v.cells = [.v (.int .i64 v.fCode), .v (.string v.fName), .v (.int .i64 v.fLine), .v (.int .i64 v.fCol)] := rfl
theorem ZhD.cells_len (v : ZhD) : v.cells.length = 4 := rfl
def Zg (x : Int) : List E := [.v (.int .i64 x)]
theorem Zbl (x : Int) : (Zg x).length = 1 := rfl
def c_B (x : Bool) : List E := [.v (.bool x)]
theorem ZrQ (x : Bool) : (c_B x).length = 1 := rfl
structure Zd where
 fbound : (List (ByteArray × Int))
 fseen : (List (ByteArray × Bool))
 fout : (List ByteArray)
structure Zb where
 fcons : (List (ByteArray × Int))
 flocal : (List (ByteArray × Int))
 fbad : Bool
structure ZJ where
 fOp : Int
 fName : ByteArray
 fN : Int
def ZJ.cells (v : ZJ) : List E := [.v (.int .i64 v.fOp), .v (.string v.fName), .v (.int .i64 v.fN)]
theorem ZJ.cells_eq (v : ZJ) : v.cells = [.v (.int .i64 v.fOp), .v (.string v.fName), .v (.int .i64 v.fN)] := rfl
theorem ZJ.cells_len (v : ZJ) : v.cells.length = 3 := rfl
mutual
inductive Za where
 | mk (fName : ByteArray) (fOp : Int) (fFree : (List ByteArray)) (fParams : (List ByteArray)) (fBody : Zj)
inductive Zj where
 | mk (fOp : Int) (fName : ByteArray) (fArgs : (List ZJ)) (fRec : Bool) (fBinds : (List Za)) (fKids : (List Zj)) (fAlts : (List Zf))
inductive Zf where
 | mk (fOp : Int) (fName : ByteArray) (fN : Int) (fVars : (List ByteArray)) (fBody : Zj)
end
def Za.fName : Za → ByteArray | .mk x _ _ _ _ => x
def Za.fOp : Za → Int | .mk _ x _ _ _ => x
def Za.fFree : Za → (List ByteArray) | .mk _ _ x _ _ => x
def Za.fParams : Za → (List ByteArray) | .mk _ _ _ x _ => x
def Za.fBody : Za → Zj | .mk _ _ _ _ x => x
def Zj.fOp : Zj → Int | .mk x _ _ _ _ _ _ => x
def Zj.fName : Zj → ByteArray | .mk _ x _ _ _ _ _ => x
def Zj.fArgs : Zj → (List ZJ) | .mk _ _ x _ _ _ _ => x
def Zj.fRec : Zj → Bool | .mk _ _ _ x _ _ _ => x
def Zj.fBinds : Zj → (List Za) | .mk _ _ _ _ x _ _ => x
def Zj.fKids : Zj → (List Zj) | .mk _ _ _ _ _ x _ => x
def Zj.fAlts : Zj → (List Zf) | .mk _ _ _ _ _ _ x => x
def Zf.fOp : Zf → Int | .mk x _ _ _ _ => x
def Zf.fName : Zf → ByteArray | .mk _ x _ _ _ => x
def Zf.fN : Zf → Int | .mk _ _ x _ _ => x
def Zf.fVars : Zf → (List ByteArray) | .mk _ _ _ x _ => x
def Zf.fBody : Zf → Zj | .mk _ _ _ _ x => x
mutual
def Za.cells : Za → List E
 | .mk x0 x1 x2 x3 x4 => [.v (.string x0)] ++ [.v (.int .i64 x1)] ++ [.sl (x2.map c_S)] ++ [.sl (x3.map c_S)] ++ (Zj.cells x4)
def Zj.cells : Zj → List E
 | .mk x0 x1 x2 x3 x4 x5 x6 => [.v (.int .i64 x0)] ++ [.v (.string x1)] ++ [.sl (x2.map ZJ.cells)] ++ [.v (.bool x3)] ++ [.sl (Za.encs x4)] ++ [.sl (Zj.encs x5)] ++ [.sl (Zf.encs x6)]
def Zf.cells : Zf → List E
 | .mk x0 x1 x2 x3 x4 => [.v (.int .i64 x0)] ++ [.v (.string x1)] ++ [.v (.int .i64 x2)] ++ [.sl (x3.map c_S)] ++ (Zj.cells x4)
def Za.encs : List Za → List (List E)
 | [] => []
 | x :: xs => Za.cells x :: Za.encs xs
def Zj.encs : List Zj → List (List E)
 | [] => []
 | x :: xs => Zj.cells x :: Zj.encs xs
def Zf.encs : List Zf → List (List E)
 | [] => []
 | x :: xs => Zf.cells x :: Zf.encs xs
end
theorem Za.encs_map : ∀ l : List Za, Za.encs l = l.map Za.cells
 | [] => by simp [Za.encs]
 | x :: xs => by simp [Za.encs, Za.encs_map xs]
theorem Zj.encs_map : ∀ l : List Zj, Zj.encs l = l.map Zj.cells
 | [] => by simp [Zj.encs]
 | x :: xs => by simp [Zj.encs, Zj.encs_map xs]
theorem Zf.encs_map : ∀ l : List Zf, Zf.encs l = l.map Zf.cells
 | [] => by simp [Zf.encs]
 | x :: xs => by simp [Zf.encs, Zf.encs_map xs]
theorem Zj.cells_eq (v : Zj) : v.cells = [.v (.int .i64 v.fOp), .v (.string v.fName), .sl (v.fArgs.map ZJ.cells), .v (.bool v.fRec), .sl (v.fBinds.map Za.cells), .sl (v.fKids.map Zj.cells), .sl (v.fAlts.map Zf.cells)] := by
 cases v
 simp only [Zj.cells, List.cons_append, List.nil_append, Za.encs_map, Zj.encs_map, Zf.encs_map]
 rfl
theorem Zj.cells_len (v : Zj) : v.cells.length = 7 := by rw [Zj.cells_eq]; rfl
theorem Za.cells_eq (v : Za) : v.cells = [.v (.string v.fName), .v (.int .i64 v.fOp), .sl (v.fFree.map c_S), .sl (v.fParams.map c_S), .v (.int .i64 v.fBody.fOp), .v (.string v.fBody.fName), .sl (v.fBody.fArgs.map ZJ.cells), .v (.bool v.fBody.fRec), .sl (v.fBody.fBinds.map Za.cells), .sl (v.fBody.fKids.map Zj.cells), .sl (v.fBody.fAlts.map Zf.cells)] := by
 cases v
 simp only [Za.cells, List.cons_append, List.nil_append, Za.encs_map, Zj.encs_map, Zf.encs_map, Zj.cells_eq]
 rfl
theorem Za.cells_len (v : Za) : v.cells.length = 11 := by rw [Za.cells_eq]; rfl
theorem Zf.cells_eq (v : Zf) : v.cells = [.v (.int .i64 v.fOp), .v (.string v.fName), .v (.int .i64 v.fN), .sl (v.fVars.map c_S), .v (.int .i64 v.fBody.fOp), .v (.string v.fBody.fName), .sl (v.fBody.fArgs.map ZJ.cells), .v (.bool v.fBody.fRec), .sl (v.fBody.fBinds.map Za.cells), .sl (v.fBody.fKids.map Zj.cells), .sl (v.fBody.fAlts.map Zf.cells)] := by
 cases v
 simp only [Zf.cells, List.cons_append, List.nil_append, Za.encs_map, Zj.encs_map, Zf.encs_map, Zj.cells_eq]
 rfl
theorem Zf.cells_len (v : Zf) : v.cells.length = 11 := by rw [Zf.cells_eq]; rfl
structure Zk where
 fName : ByteArray
 fTag : Int
 fArity : Int
def Zk.cells (v : Zk) : List E := [.v (.string v.fName), .v (.int .i64 v.fTag), .v (.int .i64 v.fArity)]
theorem Zk.cells_eq (v : Zk) : v.cells = [.v (.string v.fName), .v (.int .i64 v.fTag), .v (.int .i64 v.fArity)] := rfl
theorem Zk.cells_len (v : Zk) : v.cells.length = 3 := rfl
structure Zi where
 fCons : (List Zk)
 fBinds : (List Za)
def Zi.cells (v : Zi) : List E := [.sl (v.fCons.map Zk.cells), .sl (v.fBinds.map Za.cells)]
theorem Zi.cells_eq (v : Zi) : v.cells = [.sl (v.fCons.map Zk.cells), .sl (v.fBinds.map Za.cells)] := rfl
theorem Zi.cells_len (v : Zi) : v.cells.length = 2 := rfl
theorem ZaN : Zna c_S := ZwD
theorem Zrc : Zna Zg := ZBv
abbrev Za.bx (v : Za) : List Cell := [(none, .v (.string v.fName)), (none, .v (.int .i64 v.fOp)), (none, .sl (v.fFree.map c_S)), (none, .sl (v.fParams.map c_S)), (none, .v (.int .i64 v.fBody.fOp)), (none, .v (.string v.fBody.fName)), (none, .sl (v.fBody.fArgs.map ZJ.cells)), (none, .v (.bool v.fBody.fRec)), (none, .sl (v.fBody.fBinds.map Za.cells)), (none, .sl (v.fBody.fKids.map Zj.cells)), (none, .sl (v.fBody.fAlts.map Zf.cells))]
abbrev Za.fl (v : Za) : List E := [.v (.string v.fName), .v (.int .i64 v.fOp), .sl (v.fFree.map c_S), .sl (v.fParams.map c_S), .v (.int .i64 v.fBody.fOp), .v (.string v.fBody.fName), .sl (v.fBody.fArgs.map ZJ.cells), .v (.bool v.fBody.fRec), .sl (v.fBody.fBinds.map Za.cells), .sl (v.fBody.fKids.map Zj.cells), .sl (v.fBody.fAlts.map Zf.cells)]
abbrev Zf.bx (v : Zf) : List Cell := [(none, .v (.int .i64 v.fOp)), (none, .v (.string v.fName)), (none, .v (.int .i64 v.fN)), (none, .sl (v.fVars.map c_S)), (none, .v (.int .i64 v.fBody.fOp)), (none, .v (.string v.fBody.fName)), (none, .sl (v.fBody.fArgs.map ZJ.cells)), (none, .v (.bool v.fBody.fRec)), (none, .sl (v.fBody.fBinds.map Za.cells)), (none, .sl (v.fBody.fKids.map Zj.cells)), (none, .sl (v.fBody.fAlts.map Zf.cells))]
abbrev Zf.fl (v : Zf) : List E := [.v (.int .i64 v.fOp), .v (.string v.fName), .v (.int .i64 v.fN), .sl (v.fVars.map c_S), .v (.int .i64 v.fBody.fOp), .v (.string v.fBody.fName), .sl (v.fBody.fArgs.map ZJ.cells), .v (.bool v.fBody.fRec), .sl (v.fBody.fBinds.map Za.cells), .sl (v.fBody.fKids.map Zj.cells), .sl (v.fBody.fAlts.map Zf.cells)]
abbrev Zj.bx (v : Zj) : List Cell := [(none, .v (.int .i64 v.fOp)), (none, .v (.string v.fName)), (none, .sl (v.fArgs.map ZJ.cells)), (none, .v (.bool v.fRec)), (none, .sl (v.fBinds.map Za.cells)), (none, .sl (v.fKids.map Zj.cells)), (none, .sl (v.fAlts.map Zf.cells))]
abbrev Zj.fl (v : Zj) : List E := [.v (.int .i64 v.fOp), .v (.string v.fName), .sl (v.fArgs.map ZJ.cells), .v (.bool v.fRec), .sl (v.fBinds.map Za.cells), .sl (v.fKids.map Zj.cells), .sl (v.fAlts.map Zf.cells)]
abbrev ZhD.bx (v : ZhD) : List Cell := [(none, .v (.int .i64 v.fCode)), (none, .v (.string v.fName)), (none, .v (.int .i64 v.fLine)), (none, .v (.int .i64 v.fCol))]
abbrev ZhD.fl (v : ZhD) : List E := [.v (.int .i64 v.fCode), .v (.string v.fName), .v (.int .i64 v.fLine), .v (.int .i64 v.fCol)]
abbrev Zc.bx (v : Zc) : List Cell := [(none, .sl (v.fwords.map c_S)), (none, .v (.int .i64 v.fat)), (none, .v (.int .i64 v.fdepth))]
abbrev Zc.fl (v : Zc) : List E := [.sl (v.fwords.map c_S), .v (.int .i64 v.fat), .v (.int .i64 v.fdepth)]
abbrev ZJ.bx (v : ZJ) : List Cell := [(none, .v (.int .i64 v.fOp)), (none, .v (.string v.fName)), (none, .v (.int .i64 v.fN))]
abbrev ZJ.fl (v : ZJ) : List E := [.v (.int .i64 v.fOp), .v (.string v.fName), .v (.int .i64 v.fN)]
abbrev Zk.bx (v : Zk) : List Cell := [(none, .v (.string v.fName)), (none, .v (.int .i64 v.fTag)), (none, .v (.int .i64 v.fArity))]
abbrev Zk.fl (v : Zk) : List E := [.v (.string v.fName), .v (.int .i64 v.fTag), .v (.int .i64 v.fArity)]

def strconv_Itoa.M (i : Int) (r : ByteArray) : Prop :=
 Zq Tryz.prog 34 [.c none (.v (.int .i64 i))] [] (fun d b => d = .c none (.v (.string r)) ∧ b = [])
def strings_Join.M (elems : (List ByteArray)) (sep : ByteArray) (r : ByteArray) : Prop :=
 Zq Tryz.prog 36 [.c none (.sl (elems.map c_S)), .c none (.v (.string sep))] [] (fun d b => d = .c none (.v (.string r)) ∧ b = [])
def strings_Split.M (s : ByteArray) (sep : ByteArray) (r : (List ByteArray)) : Prop :=
 Zq Tryz.prog 28 [.c none (.v (.string s)), .c none (.v (.string sep))] [] (fun d b => d = .c none (.sl (r.map c_S)) ∧ b = [])
def Zed.M (s : ByteArray) (r : Int × Bool) : Prop :=
 Zq Tryz.prog 125 [.c none (.v (.string s))] [] (fun d b => d = .tup [.c (.v (.int .i64 r.1)), .c (.ifc r.2)] ∧ b = [])

open Go Go.Am Go.RowKit
theorem ZoH {P : Program} [Gl P] {f : FuncId} {args : List D} {d0 : D} (h : CallsA P f args fun d => d = d0) : Zq P f args [] fun d b => d = d0 ∧ b = [] :=
 ⟨h.1, fun w S0 M0 ZcM ρ hv hr => (h.2 w S0 M0 ZcM ρ hv hr).mono fun e w' ⟨v, r, bx', St', ρ', h1, h2, h3, h4⟩ =>
  ⟨v, r, [], St', ρ', h1, ⟨h2, rfl⟩, h3, h4.less ⟨fun i => .inr (.inl rfl), fun n cs hb => by cases hb⟩⟩⟩
theorem ZHc {α : Type} {ZcM : Array α} (h : ZcM.size = 1) : ∃ a, ZcM = #[a] := by
 obtain ⟨l⟩ := ZcM
 match l, h with
 | [a], _ => exact ⟨a, rfl⟩
theorem ZHx {α : Type} {ZcM : Array α} (h : ZcM.size = 2) : ∃ a b, ZcM = #[a, b] := by
 obtain ⟨l⟩ := ZcM
 match l, h with
 | [a, b], _ => exact ⟨a, b, rfl⟩
theorem ZfF {w : World} {St : ZaA} {s : Value} {x : Value} (h : Zdo w St (.v s) x) : x = s := by
 cases h; rfl
def ZAU (xs : List ByteArray) (sep : ByteArray) : ByteArray := ⟨(Lib.join (xs.map (·.data.toList)) sep.data.toList).toArray⟩
def strings_Join (xs : List ByteArray) (sep : ByteArray) : Option ByteArray :=
 if xs.length ≤ 140737488355328 ∧ (Lib.join (xs.map (·.data.toList)) sep.data.toList).length ≤ 140737488355328 then some (ZAU xs sep) else none
theorem Zw4 (xs : List ByteArray) (sep : ByteArray) (hN : xs.length ≤ 140737488355328) (hlen : (Lib.join (xs.map (·.data.toList)) sep.data.toList).length ≤ 140737488355328) :
  CallsA Tryz.prog 36 [.c none (.sl (xs.map c_S)), .c none (.v (.string sep))] (fun r => r = .c none (.v (.string (ZAU xs sep)))) := by
 refine CallsA.of_calls ⟨_, Tryz.func36, by decide, rfl⟩ fun w St ρ ZcM hv hr hlt hG => ?_
 obtain ⟨a, b, rfl⟩ := ZHx hv
 obtain ⟨A, c, rfl, h1, h2, h3⟩ := Zwh (show Zdo w St (.sl (xs.map fun x => [.v (.string x)])) a from Zca.plain (hr 0) rfl)
 obtain rfl := ZfF (show Zdo w St (.v (.string sep)) b from (hr 1).val)
 rcases Decidable.em (xs = []) with rfl | hne
 ·refine (Tryz.strings_Join_none A c sep w).mono ?_
  rintro e w' ⟨rfl, rfl⟩
  exact ⟨_, rfl, rfl, rfl, Below.refl _ _⟩
 ·obtain ⟨bk, o, rfl, hs, hcell⟩ := h3 hne
  refine (Tryz.strings_Join bk o c xs sep w hcell (hlt _ _ hs) hN h1 hlen).mono ?_
  rintro e w' ⟨rfl, bel⟩
  exact ⟨_, rfl, rfl, rfl, bel⟩
theorem Zro (xs : List ByteArray) (sep r : ByteArray) (h : strings_Join xs sep = some r) : strings_Join.M xs sep r := by
 unfold strings_Join at h
 split at h
 ·rename_i hc; injection h with h; subst h; exact ZoH (Zw4 xs sep hc.1 hc.2)
 ·cases h
def ZAF (i : Int) : ByteArray := ⟨(Lib.itoa i).toArray⟩
def strconv_Itoa (i : Int) : Option ByteArray := ZaK (-9223372036854775808 ≤ i ∧ i ≤ 9223372036854775807) >>= fun _ => some (ZAF i)
theorem ZDD (w : World) (St : ZaA) (hG : Zlh Tryz.prog w St) : Lib.TabIs Tryz.prog w "internal/strconv.uint64pow10" .u64 Lib.pow10Tab := by
 have h0 : Zs8 (w.cell? ⟨1, 20, none⟩) := (hG (1, 20, Zs8) (List.mem_append_left _ (List.mem_cons_self ..))).2
 have h1 : ∀ i, i < 20 → w.cell? ⟨1, i, none⟩ = some (.int .u64 ((10 ^ i : Nat) : Int)) := fun i hi =>
  (hG (1, i, Zvl i) (List.mem_append_left _ (List.mem_cons_of_mem _ (List.mem_map.2 ⟨i, List.mem_range.2 hi, rfl⟩)))).2
 have hg : Tryz.prog.globalNamed "internal/strconv.uint64pow10" = some 1 := by kernel_rfl
 unfold Lib.TabIs World.var?
 rw [hg]
 have h2 := h1 0 (by decide)
 unfold Zs8 at h0
 unfold World.cell? at h0 h1 h2
 simp only [Option.bind_some]
 split at h2
 case h_2 => cases h2
 rename_i c t f hc
 simp only [hc, Option.isSome_none, Bool.false_eq_true, if_false] at h0 h1 ⊢
 congr 1
 apply Array.ext_getElem?
 intro i
 have e0 : ((Lib.pow10Tab.map fun z => Value.int .u64 z).toArray)[i]? = (Lib.pow10Tab.map fun z => Value.int .u64 z)[i]? := List.getElem?_toArray
 rw [e0, Lib.pow10Tab, List.getElem?_map, List.getElem?_map]
 by_cases hi : i < 20
 ·rw [h1 i hi, List.getElem?_range hi]; rfl
 ·have : c.size ≤ 20 := by
   rcases Nat.lt_or_ge 20 c.size with h | h
   ·rw [Array.getElem?_eq_getElem h] at h0; cases h0
   ·exact h
  rw [Array.getElem?_eq_none (by omega), List.getElem?_eq_none (by simp; omega)]; rfl
theorem ZwH (w : World) (os : Array Obj) (k : Nat) : Below w.heap.size w (Sort.grow (w.drewN k) os) := Lib.below_grow _ w (Nat.le_refl _) k os
theorem Zfy (i : Int) (r : ByteArray) (h : strconv_Itoa i = some r) : strconv_Itoa.M i r := by
 unfold strconv_Itoa at h
 obtain ⟨hc, h⟩ := Zx h
 obtain rfl := Ze h
 refine ZoH (CallsA.of_calls ⟨_, Tryz.func34, by decide, rfl⟩ fun w St ρ ZcM hv hr hlt hG => ?_)
 obtain ⟨a, rfl⟩ := ZHc hv
 obtain rfl := ZfF (show Zdo w St (.v (.int .i64 i)) a from (hr 0).val)
 refine (Tryz.strconv_Itoa i hc.1 hc.2 w (ZDD w St hG)).mono ?_
 rintro e w' ⟨rfl, k, os, rfl⟩
 exact ⟨_, rfl, rfl, rfl, ZwH w os k⟩
def ZxH (s : ByteArray) : Int × Bool :=
 match Lib.atoiAll s.data.toList with
 | .ok v => (v, false)
 | .range => (Lib.atoiSat s.data.toList, true)
 | _ => (0, true)
def Zed (s : ByteArray) : Option (Int × Bool) := ZaK (s.size ≤ 281474976710656) >>= fun _ => some (ZxH s)
theorem ZDh (w : World) (St : ZaA) (hG : Zlh Tryz.prog w St) : ZoD (w.cell? ⟨4, 0, none⟩) ∧ ZoD (w.cell? ⟨5, 0, none⟩) :=
 ⟨(hG (4, 0, ZoD) (by first | exact List.mem_append_right _ (by simp [Zf0]) | (show _ ∈ Zf0; simp [Zf0]))).2, (hG (5, 0, ZoD) (by first | exact List.mem_append_right _ (by simp [Zf0]) | (show _ ∈ Zf0; simp [Zf0]))).2⟩
theorem ZCQ {w : World} {St : ZaA} {ρ : Nat → Nat} {n : Int} {b : Bool} {v : Value} (hv : (b = false ∧ v = .nilIface) ∨ (b = true ∧ ∃ t u, v = .iface t u)) : Zet w St ρ (.tup [.c (.v (.int .i64 n)), .c (.ifc b)]) (.tuple #[.int .i64 n, v]) := by
 refine ⟨[.int .i64 n, v], rfl, rfl, fun k x hk => ?_⟩
 match k, hk with
 | 0, hk => simp only [List.getElem?_cons_zero, Option.some.injEq] at hk; subst hk; exact ⟨_, rfl, .e _ _ (.v _ rfl)⟩
 | 1, hk => simp only [List.getElem?_cons_succ, List.getElem?_cons_zero, Option.some.injEq] at hk; subst hk; exact ⟨_, rfl, .e _ _ (.ifc b v hv)⟩
 | k + 2, hk => simp at hk
theorem Zwj {w w' : World} (h : w' = w ∨ ∃ t, w' = Lib.bytesWorld w 5 t) : Below w.heap.size w w' := by
 rcases h with rfl | ⟨t, rfl⟩
 ·exact Below.refl _ _
 ·exact Lib.bytesWorld_below w 5 t
theorem strconv_Atoi_ok (s : ByteArray) (r : Int × Bool) (h : Zed s = some r) : Zed.M s r := by
 unfold Zed at h
 obtain ⟨hc, h⟩ := Zx h
 obtain rfl := Ze h
 refine ZoH (CallsA.of_callsD ⟨_, Tryz.func125, by decide, rfl⟩ fun w St ρ ZcM hv hr hlt hG => ?_)
 obtain ⟨a, rfl⟩ := ZHc hv
 obtain rfl := ZfF (show Zdo w St (.v (.string s)) a from (hr 0).val)
 obtain ⟨⟨e3, h3, i3⟩, e4, h4, i4⟩ := ZDh w St hG
 unfold ZxH
 cases hn : Lib.atoiAll s.data.toList
 ·rename_i v
  refine (Tryz.strconv_Atoi_ok s (by omega) v hn w).mono ?_
  rintro e w' ⟨rfl, hw⟩
  exact ⟨_, _, rfl, ZCQ (.inl ⟨rfl, rfl⟩), rfl, rfl, Zwj hw⟩
 ·refine (Tryz.strconv_Atoi_syntax s hc (by rw [hn]; rfl) e3 w h3 i3).mono ?_
  rintro e w' ⟨N, rfl, _, _, hw⟩
  exact ⟨_, _, rfl, ZCQ (.inr ⟨rfl, _, _, rfl⟩), rfl, rfl, hw⟩
 ·refine (Tryz.strconv_Atoi_range s hc hn e4 w h4 i4).mono ?_
  rintro e w' ⟨N, rfl, _, _, hw⟩
  exact ⟨_, _, rfl, ZCQ (.inr ⟨rfl, _, _, rfl⟩), rfl, rfl, hw⟩

def strings_Split (s sep : ByteArray) : Option (List ByteArray) := ZaK (s.size < 4294967281 ∧ 1 ≤ sep.size) >>= fun _ => some (Lib.splitB sep 0 (Lib.countB s sep) s)
theorem ZqA (s sep : ByteArray) (r : List ByteArray) (h : strings_Split s sep = some r) : strings_Split.M s sep r := by
 unfold strings_Split at h
 obtain ⟨hc, h⟩ := Zx h
 obtain rfl := Ze h
 refine ZoH (CallsA.of_callsD ⟨_, Tryz.func28, by decide, rfl⟩ fun w St ρ ZcM hv hr hlt hG => ?_)
 obtain ⟨a, b, rfl⟩ := ZHx hv
 obtain rfl := ZfF (show Zdo w St (.v (.string s)) a from (hr 0).val)
 obtain rfl := ZfF (show Zdo w St (.v (.string sep)) b from (hr 1).val)
 obtain ⟨m, hm⟩ := (hG (0, 0, ZxP) (List.mem_append_right _ (List.mem_cons_self ..))).2
 refine (Tryz.strings_Split s sep m w hc.1 hm hc.2).mono ?_
 rintro e w' ⟨rfl, rfl⟩
 have hlen := Lib.splitB_all sep hc.2 0 _ s rfl
 have hcnt := Lib.countB_le sep hc.2 _ s (Nat.le_refl _)
 refine ⟨_, .c none (.sl ((Lib.splitB sep 0 (Lib.countB s sep) s).map c_S)), rfl, Zca.e _ _ ?_, rfl, rfl, (Below.refl _ w).alloc (Nat.le_refl _) _⟩
 generalize Lib.splitB sep 0 (Lib.countB s sep) s = l at hlen ⊢
 have hcell : ∀ (i : Nat) x, l[i]? = some x → (w.alloc (.cells (l.map Value.string).toArray 9)).cell? ⟨w.heap.size, i, none⟩ = some (.string x) := fun i x hi => by
  simp [World.cell?, World.alloc, -World.alloc_eq, hi]
 refine Zdo.sl (l.map c_S) _ _ _ 1 w.heap.size 0 (fun i _ => (l[i]?.map Value.string).getD undef) (by rw [List.length_map]; exact hlen) (Nat.le_refl _) (by unfold maxLen; omega) (fun _ => rfl) (fun i row hi => ?_) (fun i k row x hi hk => ?_) (fun i k row x hi hk => ?_)
 ·rw [List.getElem?_map, Option.map_eq_some_iff] at hi
  obtain ⟨x, _, rfl⟩ := hi; rfl
 ·rw [List.getElem?_map, Option.map_eq_some_iff] at hi
  obtain ⟨y, hy, rfl⟩ := hi
  have hk0 : k = 0 := by
   match k, hk with
   | 0, _ => rfl
   | k + 1, hk => simp [c_S] at hk
  subst hk0
  have := hcell i y hy
  simp only [Nat.mul_one, Nat.zero_add, Nat.add_zero]
  refine ⟨.inr ⟨Nat.le_refl _, by simp [World.alloc, -World.alloc_eq]⟩, ?_⟩
  rw [this, hy]; rfl
 ·rw [List.getElem?_map, Option.map_eq_some_iff] at hi
  obtain ⟨y, hy, rfl⟩ := hi
  have hk0 : k = 0 := by
   match k, hk with
   | 0, _ => rfl
   | k + 1, hk => simp [c_S] at hk
  subst hk0
  simp only [c_S, List.getElem?_cons_zero, Option.some.injEq] at hk
  subst hk
  rw [hy]
  exact .v _ rfl

theorem ZwK : ZrW Tryz.prog 59 := by
 refine Zt4 (t2 := 2) (t3 := 3) Tryz.func59 (by decide) rfl rfl (fun ρ w h1 h2 => ?_) rfl rfl rfl rfl (by decide) (by decide) rfl
 simp [execOp, h1, h2, go_sem]

def Zby (l : (List ByteArray)) (s : ByteArray) (i_5 : Nat) (Zab : (List ByteArray)) : Option (Bool) :=
 (match Zab with
 | x16 :: Zwl =>
 if (x16.toList == s.toList) = true then
 some true
 else
 Zby l s (i_5 + 1) Zwl
 | [] =>
 some false)
 partial_fixpoint
def Zby.M (l : (List ByteArray)) (s : ByteArray) (i_5 : Nat) (Zab : (List ByteArray)) (r : Bool) : Prop :=
 ∀ ZcC : List ByteArray, l = ZcC ++ Zab → i_5 = ZcC.length → nL 18 Tryz.f83 [1, 0, 1, 0] (.c none (.v (.bool r))) [] ⟨[(0, .c none (.sl (l.map c_S))), (1, .c none (.v (.string s))), (5, .c none (.v (.int .i64 ((i_5 : Nat) : Int))))], []⟩
theorem ZnC (l : (List ByteArray)) (s : ByteArray) : ∀ i_5 Zab r, Zby l s i_5 Zab = some r → Zby.M l s i_5 Zab r := by
 refine Zby.partial_correctness l s (Zby.M l s) ?_
 intro lazycref36_has_l1' Zoq i_5 Zab r hF
 unfold Zby.M nL
 intro ZcC ZeE ZeB
 refine AWL.step ?_
 refine zln fun hlen15 => ?_
 refine zbl ZeE ZeB (fun x16 Zwl Ztv ZzG ZER => ?_) (fun Ztv => ?_)
 ·subst Ztv
  refine zsr (Zr (f := c_S) rfl ZzG) ?_
  refine zbr hF (fun ZqH hF => ?_) (fun ZqH hF => ?_)
  ·obtain rfl := Ze hF
   exact zre []
  ·exact znl (Zoq _ _ _ hF _ (zlh ZeE) (zlk ZeB))
 ·subst Ztv
  obtain rfl := Ze hF
  exact zre []
theorem ZnN {l s i_5 Zab r} (h : Zby l s i_5 Zab = some r) : Zby.M l s i_5 Zab r := (ZnC l s) _ _ _ h

def Zc9 (l : (List ByteArray)) (s : ByteArray) : Option (Bool) :=
 Zby l s 0 l
def Zc9.M (l : (List ByteArray)) (s : ByteArray) (r : Bool) : Prop :=
 Zq Tryz.prog 83 [.c none (.sl (l.map c_S)), .c none (.v (.string s))] [] (fun d b => d = .c none (.v (.bool r)) ∧ b = [])
theorem ZgV {l s r} (hF : Zc9 l s = some r) : Zc9.M l s r := by
 unfold Zc9 at hF
 unfold Zc9.M
 refine en Tryz.func83 ?_
 exact znl (ZnN hF ([]) rfl rfl)

def Zbz (more : (List ByteArray)) (ZdI : (List ByteArray)) (Zk8 : (List ByteArray)) (i_8 : Nat) (ZgI : (List ByteArray)) : Option ((List ByteArray)) :=
 (match ZgI with
 | x29 :: ZDy =>
 Zc9 Zk8 x29 >>= fun r32 =>
 (if (!r32) = true then Zc9 ZdI x29 >>= fun r33 =>
 some (!r33) else some false) >>= fun c34 =>
 if c34 = true then
 ZaK ((Zk8.length + ([x29]).length) * 16 ≤ 140737488355328) >>= fun _ =>
 Zbz more ZdI (Zk8 ++ ([x29])) (i_8 + 1) ZDy
 else
 Zbz more ZdI Zk8 (i_8 + 1) ZDy
 | [] =>
 some Zk8)
 partial_fixpoint
def Zbz.M (more : (List ByteArray)) (ZdI : (List ByteArray)) (Zk8 : (List ByteArray)) (i_8 : Nat) (ZgI : (List ByteArray)) (r : (List ByteArray)) : Prop :=
 ∀ ZmM : List ByteArray, more = ZmM ++ ZgI → i_8 = ZmM.length → nL 42 Tryz.f44 [1, 1, 0, 1, 0] (.c (some (0, 9)) (.sl (r.map c_S))) [] ⟨[(1, .c none (.sl (more.map c_S))), (2, .c none (.sl (ZdI.map c_S))), (7, .c (some (7, 9)) (.sl (Zk8.map c_S))), (8, .c none (.v (.int .i64 ((i_8 : Nat) : Int))))], []⟩
theorem ZnD (more : (List ByteArray)) (ZdI : (List ByteArray)) : ∀ Zk8 i_8 ZgI r, Zbz more ZdI Zk8 i_8 ZgI = some r → Zbz.M more ZdI Zk8 i_8 ZgI r := by
 refine Zbz.partial_correctness more ZdI (Zbz.M more ZdI) ?_
 intro lazycref36_add_l1' ZjN Zk8 i_8 ZgI r hF
 unfold Zbz.M nL
 intro ZmM ZqC Zqq
 refine AWL.step ?_
 refine zln fun hlen28 => ?_
 refine zbl ZqC Zqq (fun x29 ZDy ZDU ZDx hl31 => ?_) (fun ZDU => ?_)
 ·subst ZDU
  obtain ⟨r32, ZDF, hF⟩ := bind_some hF
  obtain ⟨c34, Zot, hF⟩ := bind_some hF
  refine nw ?_
  refine sq (bk ?_)
  refine sq ?_
  refine zck [1, 2, 7, 8] [] [(33, .c none (.v (.bool c34)))] ?_ ?_
  ·refine zsr (Zr (f := c_S) rfl ZDx) ?_
   refine zca [7] [] [] (ZgV ZDF) ?_
   refine zbt (fun Zva => ?_) (fun Zva => ?_)
   ·have Zot := ift Zva Zot
    obtain ⟨r33, ZDf, Zot⟩ := bind_some Zot
    refine zsr (Zr (f := c_S) rfl ZDx) ?_
    refine zca [] [] [] (ZgV ZDf) ?_
    obtain rfl := Ze Zot
    refine zgo ?_
    exact zwe
   ·have Zot := ife Zva Zot
    obtain rfl := Ze Zot
    refine zgo ?_
    exact zwe
  refine zbr hF (fun ZC4 hF => ?_) (fun ZC4 hF => ?_)
  ·obtain ⟨ZD7, hF⟩ := Zx hF
   refine zsr (Zr (f := c_S) rfl ZDx) ?_
   refine zgo ?_
   refine ea (ZH (f := c_S) (lc Zn) (Zp (f := c_S))) (zsa (fun l => Zaf l (fun x => Zbb x)) ZD7 ?_)
   refine ea (WE.refl _) ?_
   rw [← List.map_append]
   exact znr (rn [(40, 7)]) (ZjN _ _ _ _ hF _ (zlh ZqC) (zlk Zqq))
  ·exact znl (ZjN _ _ _ _ hF _ (zlh ZqC) (zlk Zqq))
 ·subst ZDU
  obtain rfl := Ze hF
  exact zrg [] (rn [(7, 0)])
theorem ZnO {more ZdI Zk8 i_8 ZgI r} (h : Zbz more ZdI Zk8 i_8 ZgI = some r) : Zbz.M more ZdI Zk8 i_8 ZgI r := (ZnD more ZdI) _ _ _ _ h

def Zck (l : (List ByteArray)) (more : (List ByteArray)) (ZdI : (List ByteArray)) : Option ((List ByteArray)) :=
 ZaK ((([] : List ByteArray).length + l.length) * 16 ≤ 140737488355328) >>= fun _ =>
 Zbz more ZdI (([] : List ByteArray) ++ l) 0 more
def Zck.M (l : (List ByteArray)) (more : (List ByteArray)) (ZdI : (List ByteArray)) (r : (List ByteArray)) : Prop :=
 Zq Tryz.prog 44 [.c none (.sl (l.map c_S)), .c none (.sl (more.map c_S)), .c none (.sl (ZdI.map c_S))] [] (fun d b => d = .c (some (0, 9)) (.sl (r.map c_S)) ∧ b = [])
theorem ZfB {l more ZdI r} (hF : Zck l more ZdI = some r) : Zck.M l more ZdI r := by
 unfold Zck at hF
 unfold Zck.M
 refine en Tryz.func44 ?_
 obtain ⟨hg1, hF⟩ := Zx hF
 refine zgo ?_
 refine ea (Zp (f := c_S)) (zsa (fun l => Zaf l (fun x => Zbb x)) hg1 ?_)
 refine ea (WE.refl _) ?_
 rw [← List.map_append]
 exact znr (rn [(11, 7)]) (ZnO hF ([]) rfl rfl)

def Za2 (l : (List Za)) (Zad : (List ByteArray)) (i_4 : Nat) (ZaV : (List Za)) : Option ((List ByteArray)) :=
 (match ZaV with
 | x16 :: Zwl =>
 ZaK ((Zad.length + ([x16.fName]).length) * 16 ≤ 140737488355328) >>= fun _ =>
 Za2 l (Zad ++ ([x16.fName])) (i_4 + 1) Zwl
 | [] =>
 some Zad)
 partial_fixpoint
def Za2.M (l : (List Za)) (Zad : (List ByteArray)) (i_4 : Nat) (ZaV : (List Za)) (r : (List ByteArray)) : Prop :=
 ∀ ZdC : List Za, l = ZdC ++ ZaV → i_4 = ZdC.length → nL 21 Tryz.f45 [1, 1, 0, 1, 0] (.c (some (0, 9)) (.sl (r.map c_S))) [] ⟨[(0, .c none (.sl (l.map Za.cells))), (3, .c (some (3, 9)) (.sl (Zad.map c_S))), (4, .c none (.v (.int .i64 ((i_4 : Nat) : Int))))], []⟩
theorem Zk3 (l : (List Za)) : ∀ Zad i_4 ZaV r, Za2 l Zad i_4 ZaV = some r → Za2.M l Zad i_4 ZaV r := by
 refine Za2.partial_correctness l (Za2.M l) ?_
 intro lazycref36_binders_l1' Zlp Zad i_4 ZaV r hF
 unfold Za2.M nL
 intro ZdC ZfK ZfH
 refine AWL.step ?_
 refine zln fun hlen15 => ?_
 refine zbl ZfK ZfH (fun x16 Zwl Ztv ZzG ZER => ?_) (fun Ztv => ?_)
 ·subst Ztv
  obtain ⟨ZDR, hF⟩ := Zx hF
  refine zsr (Zr (f := Za.cells) (Za.cells_eq x16) ZzG) ?_
  refine zgo ?_
  refine ea (ZH (f := c_S) (lc Zn) (Zp (f := c_S))) (zsa (fun l => Zaf l (fun x => Zbb x)) ZDR ?_)
  refine ea (WE.refl _) ?_
  rw [← List.map_append]
  exact znr (rn [(19, 3)]) (Zlp _ _ _ _ hF _ (zlh ZfK) (zlk ZfH))
 ·subst Ztv
  obtain rfl := Ze hF
  exact zrg [] (rn [(3, 0)])
theorem Zlx {l Zad i_4 ZaV r} (h : Za2 l Zad i_4 ZaV = some r) : Za2.M l Zad i_4 ZaV r := (Zk3 l) _ _ _ _ h

def Zbp (l : (List Za)) : Option ((List ByteArray)) :=
 Za2 l ([] : List ByteArray) 0 l
def Zbp.M (l : (List Za)) (r : (List ByteArray)) : Prop :=
 Zq Tryz.prog 45 [.c none (.sl (l.map Za.cells))] [] (fun d b => d = .c (some (0, 9)) (.sl (r.map c_S)) ∧ b = [])
theorem Zfk {l r} (hF : Zbp l = some r) : Zbp.M l r := by
 unfold Zbp at hF
 unfold Zbp.M
 refine en Tryz.func45 ?_
 refine zgo ?_
 exact ea (Zp (f := c_S)) (znr (rn [(5, 3)]) (Zlx hF ([]) rfl rfl))

mutual
def ZaU (b : Za) : Option ((List ByteArray)) :=
 Zaw b.fBody >>= fun r3 =>
 Zck ([] : List ByteArray) r3 b.fParams >>= fun r4 =>
 some r4
 partial_fixpoint
def Zaw (e : Zj) : Option ((List ByteArray)) :=
 if (e.fOp == 2) = true then
 ZaK ((([] : List ByteArray).length + ([e.fName]).length) * 16 ≤ 140737488355328) >>= fun _ =>
 ZbC (([] : List ByteArray) ++ ([e.fName])) e
 else
 ZbC ([] : List ByteArray) e
 partial_fixpoint
def ZbC (Zad : (List ByteArray)) (e : Zj) : Option ((List ByteArray)) :=
 Zaq Zad 0 e e.fArgs
 partial_fixpoint
def Zaq (Zad : (List ByteArray)) (i_4 : Nat) (e : Zj) (ZaV : (List ZJ)) : Option ((List ByteArray)) :=
 (match ZaV with
 | ZAT :: Zzz =>
 if (ZAT.fOp == 1) = true then
 Zck Zad ([ZAT.fName]) ([] : List ByteArray) >>= fun ZE4 =>
 Zaq ZE4 (i_4 + 1) e Zzz
 else
 Zaq Zad (i_4 + 1) e Zzz
 | [] =>
 Zbp e.fBinds >>= fun ZhM =>
 if e.fRec = true then
 ZbD Zad ZhM ZhM e
 else
 ZbD Zad ZhM ([] : List ByteArray) e)
 partial_fixpoint
def ZbD (Zad : (List ByteArray)) (ZhM : ((List ByteArray))) (ZeN : (List ByteArray)) (e : Zj) : Option ((List ByteArray)) :=
 Zbq Zad ZhM ZeN 0 e e.fBinds
 partial_fixpoint
def Zbq (Zad : (List ByteArray)) (ZhM : ((List ByteArray))) (ZeN : (List ByteArray)) (i_7 : Nat) (e : Zj) (Zfd : (List Za)) : Option ((List ByteArray)) :=
 (match Zfd with
 | ZDd :: ZCm =>
 ZaU ZDd >>= fun ZIp =>
 Zck Zad ZIp ZeN >>= fun ZES =>
 Zbq ZES ZhM ZeN (i_7 + 1) e ZCm
 | [] =>
 ZaT Zad ZhM 0 e e.fKids)
 partial_fixpoint
def ZaT (Zad : (List ByteArray)) (ZhM : ((List ByteArray))) (i_8 : Nat) (e : Zj) (ZgI : (List Zj)) : Option ((List ByteArray)) :=
 (match ZgI with
 | ZCW :: ZCj =>
 Zaw ZCW >>= fun ZHS =>
 Zck Zad ZHS ZhM >>= fun ZGw =>
 ZaT ZGw ZhM (i_8 + 1) e ZCj
 | [] =>
 Za9 Zad 0 e)
 partial_fixpoint
def Za9 (Zad : (List ByteArray)) (i_9 : Nat) (e : Zj) : Option ((List ByteArray)) :=
 if (decide (((i_9 : Nat) : Int) < ((e.fAlts.length : Nat) : Int))) = true then
 (e.fAlts[i_9]?) >>= fun Zyo =>
 ZaK ((([] : List ByteArray).length + Zyo.fVars.length) * 16 ≤ 140737488355328) >>= fun _ =>
 if (e.fOp == 6) = true then
 ZaK (((([] : List ByteArray) ++ Zyo.fVars).length + ([e.fName]).length) * 16 ≤ 140737488355328) >>= fun _ =>
 Zc0 Zad i_9 ((([] : List ByteArray) ++ Zyo.fVars) ++ ([e.fName])) e
 else
 Zc0 Zad i_9 (([] : List ByteArray) ++ Zyo.fVars) e
 else
 some Zad
 partial_fixpoint
def Zc0 (Zad : (List ByteArray)) (i_9 : Nat) (ZkE : (List ByteArray)) (e : Zj) : Option ((List ByteArray)) :=
 (e.fAlts[i_9]?) >>= fun ZEy =>
 Zaw ZEy.fBody >>= fun ZHs =>
 Zck Zad ZHs ZkE >>= fun ZHP =>
 Za9 ZHP (i_9 + 1) e
 partial_fixpoint
end
def ZaU.M (b : Za) (r : (List ByteArray)) : Prop :=
 Zq Tryz.prog 46 [.agg (Za.fl b)] [] (fun d b => d = .c (some (0, 9)) (.sl (r.map c_S)) ∧ b = [])
def Zaw.M (e : Zj) (r : (List ByteArray)) : Prop :=
 Zq Tryz.prog 19 [.agg (Zj.fl e)] [] (fun d b => d = .c (some (0, 9)) (.sl (r.map c_S)) ∧ b = [])
def ZbC.M (Zad : (List ByteArray)) (e : Zj) (r : (List ByteArray)) : Prop :=
 nP 116 Tryz.f19 [1, 1, 1] (.c (some (0, 9)) (.sl (r.map c_S))) [] ⟨[(1, .ptr 1 0), (3, .c (some (3, 9)) (.sl (Zad.map c_S)))], [(1, (Zj.bx e))]⟩
def Zaq.M (Zad : (List ByteArray)) (i_4 : Nat) (e : Zj) (ZaV : (List ZJ)) (r : (List ByteArray)) : Prop :=
 ∀ ZdC : List ZJ, e.fArgs = ZdC ++ ZaV → i_4 = ZdC.length → nL 116 Tryz.f19 [1, 1, 1, 0, 1, 0] (.c (some (0, 9)) (.sl (r.map c_S))) [] ⟨[(1, .ptr 1 0), (3, .c (some (3, 9)) (.sl (Zad.map c_S))), (4, .c none (.v (.int .i64 ((i_4 : Nat) : Int))))], [(1, (Zj.bx e))]⟩
def ZbD.M (Zad : (List ByteArray)) (ZhM : ((List ByteArray))) (ZeN : (List ByteArray)) (e : Zj) (r : (List ByteArray)) : Prop :=
 e.fArgs.length ≤ maxLen → nP 116 Tryz.f19 [1, 1, 1, 1, 1, 1, 1] (.c (some (0, 9)) (.sl (r.map c_S))) [] ⟨[(1, .ptr 1 0), (3, .c (some (3, 9)) (.sl (Zad.map c_S))), (5, .c (some (5, 9)) (.sl (ZhM.map c_S))), (6, .c none (.sl (ZeN.map c_S)))], [(1, (Zj.bx e))]⟩
def Zbq.M (Zad : (List ByteArray)) (ZhM : ((List ByteArray))) (ZeN : (List ByteArray)) (i_7 : Nat) (e : Zj) (Zfd : (List Za)) (r : (List ByteArray)) : Prop :=
 ∀ ZiA : List Za, e.fBinds = ZiA ++ Zfd → i_7 = ZiA.length → e.fArgs.length ≤ maxLen → nL 116 Tryz.f19 [1, 1, 1, 1, 1, 1, 1, 0, 1, 0] (.c (some (0, 9)) (.sl (r.map c_S))) [] ⟨[(1, .ptr 1 0), (3, .c (some (3, 9)) (.sl (Zad.map c_S))), (5, .c (some (5, 9)) (.sl (ZhM.map c_S))), (6, .c none (.sl (ZeN.map c_S))), (7, .c none (.v (.int .i64 ((i_7 : Nat) : Int))))], [(1, (Zj.bx e))]⟩
def ZaT.M (Zad : (List ByteArray)) (ZhM : ((List ByteArray))) (i_8 : Nat) (e : Zj) (ZgI : (List Zj)) (r : (List ByteArray)) : Prop :=
 ∀ ZmM : List Zj, e.fKids = ZmM ++ ZgI → i_8 = ZmM.length → e.fArgs.length ≤ maxLen → e.fBinds.length ≤ maxLen → nL 116 Tryz.f19 [1, 1, 1, 1, 1, 1, 1, 1, 0, 1, 0] (.c (some (0, 9)) (.sl (r.map c_S))) [] ⟨[(1, .ptr 1 0), (3, .c (some (3, 9)) (.sl (Zad.map c_S))), (5, .c (some (5, 9)) (.sl (ZhM.map c_S))), (8, .c none (.v (.int .i64 ((i_8 : Nat) : Int))))], [(1, (Zj.bx e))]⟩
def Za9.M (Zad : (List ByteArray)) (i_9 : Nat) (e : Zj) (r : (List ByteArray)) : Prop :=
 e.fArgs.length ≤ maxLen → e.fBinds.length ≤ maxLen → e.fKids.length ≤ maxLen → nL 116 Tryz.f19 [1, 1, 1, 1, 1, 1, 1, 1, 1, 0, 1, 0] (.c (some (0, 9)) (.sl (r.map c_S))) [] ⟨[(1, .ptr 1 0), (3, .c (some (3, 9)) (.sl (Zad.map c_S))), (9, .c none (.v (.int .i64 ((i_9 : Nat) : Int))))], [(1, (Zj.bx e))]⟩
def Zc0.M (Zad : (List ByteArray)) (i_9 : Nat) (ZkE : (List ByteArray)) (e : Zj) (r : (List ByteArray)) : Prop :=
 e.fArgs.length ≤ maxLen → e.fBinds.length ≤ maxLen → e.fKids.length ≤ maxLen → e.fAlts.length ≤ maxLen → i_9 < e.fAlts.length → nP 116 Tryz.f19 [1, 1, 1, 1, 1, 1, 1, 1, 1, 0, 1, 0, 0, 1, 0, 0, 1, 1] (.c (some (0, 9)) (.sl (r.map c_S))) [] ⟨[(1, .ptr 1 0), (3, .c (some (3, 9)) (.sl (Zad.map c_S))), (9, .c none (.v (.int .i64 ((i_9 : Nat) : Int)))), (10, .c (some (10, 9)) (.sl (ZkE.map c_S)))], [(1, (Zj.bx e))]⟩
theorem ZlY : (∀ b r, ZaU b = some r → ZaU.M b r) ∧ (∀ e r, Zaw e = some r → Zaw.M e r) ∧ (∀ Zad e r, ZbC Zad e = some r → ZbC.M Zad e r) ∧ (∀ Zad i_4 e ZaV r, Zaq Zad i_4 e ZaV = some r → Zaq.M Zad i_4 e ZaV r) ∧ (∀ Zad ZhM ZeN e r, ZbD Zad ZhM ZeN e = some r → ZbD.M Zad ZhM ZeN e r) ∧ (∀ Zad ZhM ZeN i_7 e Zfd r, Zbq Zad ZhM ZeN i_7 e Zfd = some r → Zbq.M Zad ZhM ZeN i_7 e Zfd r) ∧ (∀ Zad ZhM i_8 e ZgI r, ZaT Zad ZhM i_8 e ZgI = some r → ZaT.M Zad ZhM i_8 e ZgI r) ∧ (∀ Zad i_9 e r, Za9 Zad i_9 e = some r → Za9.M Zad i_9 e r) ∧ (∀ Zad i_9 ZkE e r, Zc0 Zad i_9 ZkE e = some r → Zc0.M Zad i_9 ZkE e r) := by
 refine ZaU.mutual_partial_correctness ZaU.M Zaw.M ZbC.M Zaq.M ZbD.M Zbq.M ZaT.M Za9.M Zc0.M ?_ ?_ ?_ ?_ ?_ ?_ ?_ ?_ ?_
 ·intro lazycref36_Free' Zfh b r hF
  unfold ZaU.M
  refine en Tryz.func46 ?_
  obtain ⟨r3, hr3, hF⟩ := bind_some hF
  obtain ⟨r4, hr4, hF⟩ := bind_some hF
  refine zdn [3, 4] [[6, 7], [7]] [1] [1, 6, 7] [6, 7] [0, 1, 2, 5, 6] ?_
  refine zdp ?_
  refine zca [] [] [] (Zfh _ _ hr3) ?_
  refine zca [5] [] [] (ZfB hr4) ?_
  obtain rfl := Ze hF
  exact zrg [] (rn [(8, 0)])
 ·intro lazycref36_Free_k1' Zi3 e r hF
  unfold Zaw.M
  refine en Tryz.func19 ?_
  refine zgo ?_
  refine ea (Zp (f := c_S)) ?_
  refine zbr hF (fun ZHQ hF => ?_) (fun ZHQ hF => ?_)
  ·obtain ⟨ZFv, hF⟩ := Zx hF
   refine zgo ?_
   refine ea (ZH (f := c_S) (lc Zn) (Zp (f := c_S))) (zsa (fun l => Zaf l (fun x => Zbb x)) ZFv ?_)
   refine ea (WE.refl _) ?_
   rw [← List.map_append]
   refine st ?_
   exact zjr (rn [(19, 3)]) (Zi3 _ _ _ hF)
  ·refine nw ?_
   exact zjr (rn [(11, 3)]) (Zi3 _ _ _ hF)
 ·intro lazycref36_Free_l2' Zfi Zad e r hF
  unfold ZbC.M nP
  exact znl (Zfi _ _ _ _ _ hF ([]) rfl rfl)
 ·intro lazycref36_Free_l2' lazycref36_Free_k3' Zfi Zja Zad i_4 e ZaV r hF
  unfold Zaq.M nL
  intro ZdC ZfK ZfH
  refine AWL.step ?_
  refine zln fun hlen221 => ?_
  refine zbl ZfK ZfH (fun ZAT Zzz ZBo ZCu hl224 => ?_) (fun ZBo => ?_)
  ·subst ZBo
   refine zsr (Zr (f := ZJ.cells) (ZJ.cells_eq ZAT) ZCu) ?_
   refine zbr hF (fun ZHd hF => ?_) (fun ZHd hF => ?_)
   ·obtain ⟨ZE4, ZHh, hF⟩ := bind_some hF
    refine zsr (Zr (f := ZJ.cells) (ZJ.cells_eq ZAT) ZCu) ?_
    refine zgo ?_
    refine ea (ZH (f := c_S) (lc Zn) (Zp (f := c_S))) (zca [3, 41] [] [] (ZfB ZHh) ?_)
    exact znr (rn [(42, 3)]) (Zfi _ _ _ _ _ hF _ (zlh ZfK) (zlk ZfH))
   ·exact znl (Zfi _ _ _ _ _ hF _ (zlh ZfK) (zlk ZfH))
  ·subst ZBo
   obtain ⟨ZhM, ZA8, hF⟩ := bind_some hF
   refine zca [] [] [] (Zfk ZA8) ?_
   refine zgo ?_
   refine ea (Zp (f := c_S)) ?_
   refine zbr hF (fun Zy1 hF => ?_) (fun Zy1 hF => ?_)
   ·refine ns ?_
    exact zjr (rn [(3, 3), (45, 5)]) (Zja _ _ _ _ _ hF hlen221)
   ·refine nw ?_
    exact zjr (rn [(3, 3), (45, 5)]) (Zja _ _ _ _ _ hF hlen221)
 ·intro lazycref36_Free_l4' ZgE Zad ZhM ZeN e r hF
  unfold ZbD.M nP
  intro hlen221
  exact znl (ZgE _ _ _ _ _ _ _ hF ([]) rfl rfl hlen221)
 ·intro lazycref36_bindFree' lazycref36_Free_l4' lazycref36_Free_l5' ZmV ZgE ZgK Zad ZhM ZeN i_7 e Zfd r hF
  unfold Zbq.M nL
  intro ZiA ZnI ZnL hlen221
  refine AWL.step ?_
  refine zln fun hlen266 => ?_
  refine zbl ZnI ZnL (fun ZDd ZCm Zzg ZHJ hl269 => ?_) (fun Zzg => ?_)
  ·subst Zzg
   obtain ⟨ZIp, ZGF, hF⟩ := bind_some hF
   obtain ⟨ZES, ZGY, hF⟩ := bind_some hF
   refine zsr (Zr (f := Za.cells) (Za.cells_eq ZDd) ZHJ) ?_
   refine zca [] [] [] (ZmV _ _ ZGF) ?_
   refine zca [3, 63] [] [] (ZfB ZGY) ?_
   exact znr (rn [(5, 5), (65, 3)]) (ZgE _ _ _ _ _ _ _ hF _ (zlh ZnI) (zlk ZnL) hlen221)
  ·subst Zzg
   exact znl (ZgK _ _ _ _ _ _ hF ([]) rfl rfl hlen221 hlen266)
 ·intro lazycref36_Free' lazycref36_Free_l5' lazycref36_Free_l6' Zfh ZgK ZgL Zad ZhM i_8 e ZgI r hF
  unfold ZaT.M nL
  intro ZmM ZqC Zqq hlen221 hlen266
  refine AWL.step ?_
  refine zln fun hlen309 => ?_
  refine zbl ZqC Zqq (fun ZCW ZCj ZAR ZIg hl312 => ?_) (fun ZAR => ?_)
  ·subst ZAR
   obtain ⟨ZHS, ZGJ, hF⟩ := bind_some hF
   obtain ⟨ZGw, ZFa, hF⟩ := bind_some hF
   refine zsr (Zr (f := Zj.cells) (Zj.cells_eq ZCW) ZIg) ?_
   refine zca [] [] [] (Zfh _ _ ZGJ) ?_
   refine zca [3, 5, 79] [] [] (ZfB ZFa) ?_
   exact znr (rn [(5, 5), (81, 3)]) (ZgK _ _ _ _ _ _ hF _ (zlh ZqC) (zlk Zqq) hlen221 hlen266)
  ·subst ZAR
   exact znl (ZgL _ _ _ _ hF hlen221 hlen266 hlen309)
 ·intro lazycref36_Free_k7' ZiY Zad i_9 e r hF
  unfold Za9.M nL
  intro hlen221 hlen266 hlen309
  refine AWL.step ?_
  refine zln fun hlen343 => ?_
  refine zbr hF (fun ZCl hF => ?_) (fun ZCl hF => ?_)
  ·have Zz7 := Zj7 ZCl
   obtain ⟨Zyo, ZGW, hF⟩ := bind_some hF
   obtain ⟨ZGG, hF⟩ := Zx hF
   refine zgo ?_
   refine ea (Zp (f := c_S)) (zsr (Zr (f := Zf.cells) (Zf.cells_eq Zyo) ZGW) ?_)
   refine zsa (fun l => Zaf l (fun x => Zbb x)) ZGG ?_
   refine ea (WE.refl _) ?_
   rw [← List.map_append]
   refine zbr hF (fun Zvw hF => ?_) (fun Zvw hF => ?_)
   ·obtain ⟨ZE1, hF⟩ := Zx hF
    refine zgo ?_
    refine ea (ZH (f := c_S) (lc Zn) (Zp (f := c_S))) (zsa (fun l => Zaf l (fun x => Zbb x)) ZE1 ?_)
    refine ea (WE.refl _) ?_
    rw [← List.map_append]
    refine st ?_
    exact zjr (rn [(3, 3), (104, 10)]) (ZiY _ _ _ _ _ hF hlen221 hlen266 hlen309 hlen343 Zz7)
   ·refine nw ?_
    exact zjr (rn [(3, 3), (96, 10)]) (ZiY _ _ _ _ _ hF hlen221 hlen266 hlen309 hlen343 Zz7)
  ·obtain rfl := Ze hF
   exact zrg [] (rn [(3, 0)])
 ·intro lazycref36_Free' lazycref36_Free_l6' Zfh ZgL Zad i_9 ZkE e r hF
  unfold Zc0.M nP
  intro hlen221 hlen266 hlen309 hlen343 Zz7
  obtain ⟨ZEy, ZFr, hF⟩ := bind_some hF
  obtain ⟨ZHs, ZG7, hF⟩ := bind_some hF
  obtain ⟨ZHP, ZF3, hF⟩ := bind_some hF
  refine zsr (Zr (f := Zf.cells) (Zf.cells_eq ZEy) ZFr) ?_
  refine zca [] [] [] (Zfh _ _ ZG7) ?_
  refine zca [3, 10, 112] [] [] (ZfB ZF3) ?_
  exact znr (rn [(114, 3)]) (ZgL _ _ _ _ hF hlen221 hlen266 hlen309)
theorem ZmB {b r} (h : ZaU b = some r) : ZaU.M b r := ZlY.1 _ _ h

mutual
def ZaJ (e : Zj) : Option (Int) :=
 ZcF (IntKind.i64.wrap (1 + ((e.fArgs.length : Nat) : Int))) 0 e e.fBinds
 partial_fixpoint
def ZcF (n_3 : Int) (i_4 : Nat) (e : Zj) (ZaV : (List Za)) : Option (Int) :=
 (match ZaV with
 | x35 :: ZF7 =>
 ZaJ x35.fBody >>= fun r38 =>
 ZcF (IntKind.i64.wrap ((IntKind.i64.wrap (n_3 + 1)) + r38)) (i_4 + 1) e ZF7
 | [] =>
 ZcE n_3 0 e e.fAlts)
 partial_fixpoint
def ZcE (n_3 : Int) (i_5 : Nat) (e : Zj) (Zab : (List Zf)) : Option (Int) :=
 (match Zab with
 | x72 :: ZH1 =>
 ZaJ x72.fBody >>= fun r75 =>
 ZcE (IntKind.i64.wrap ((IntKind.i64.wrap (n_3 + 1)) + r75)) (i_5 + 1) e ZH1
 | [] =>
 ZcH n_3 0 e e.fKids)
 partial_fixpoint
def ZcH (n_3 : Int) (i_6 : Nat) (e : Zj) (ZcK : (List Zj)) : Option (Int) :=
 (match ZcK with
 | x91 :: Zzj =>
 ZaJ x91 >>= fun r94 =>
 ZcH (IntKind.i64.wrap (n_3 + r94)) (i_6 + 1) e Zzj
 | [] =>
 some n_3)
 partial_fixpoint
end
def ZaJ.M (e : Zj) (r : Int) : Prop :=
 Zq Tryz.prog 21 [.agg (Zj.fl e)] [] (fun d b => d = .c none (.v (.int .i64 r)) ∧ b = [])
def ZcF.M (n_3 : Int) (i_4 : Nat) (e : Zj) (ZaV : (List Za)) (r : Int) : Prop :=
 ∀ ZdC : List Za, e.fBinds = ZdC ++ ZaV → i_4 = ZdC.length → e.fArgs.length ≤ maxLen → nL 61 Tryz.f21 [1, 1, 0, 1, 0] (.c none (.v (.int .i64 r))) [] ⟨[(1, .ptr 1 0), (3, .c none (.v (.int .i64 n_3))), (4, .c none (.v (.int .i64 ((i_4 : Nat) : Int))))], [(1, (Zj.bx e))]⟩
def ZcE.M (n_3 : Int) (i_5 : Nat) (e : Zj) (Zab : (List Zf)) (r : Int) : Prop :=
 ∀ ZcC : List Zf, e.fAlts = ZcC ++ Zab → i_5 = ZcC.length → e.fArgs.length ≤ maxLen → e.fBinds.length ≤ maxLen → nL 61 Tryz.f21 [1, 1, 1, 0, 1, 0] (.c none (.v (.int .i64 r))) [] ⟨[(1, .ptr 1 0), (3, .c none (.v (.int .i64 n_3))), (5, .c none (.v (.int .i64 ((i_5 : Nat) : Int))))], [(1, (Zj.bx e))]⟩
def ZcH.M (n_3 : Int) (i_6 : Nat) (e : Zj) (ZcK : (List Zj)) (r : Int) : Prop :=
 ∀ ZeX : List Zj, e.fKids = ZeX ++ ZcK → i_6 = ZeX.length → e.fArgs.length ≤ maxLen → e.fBinds.length ≤ maxLen → e.fAlts.length ≤ maxLen → nL 61 Tryz.f21 [1, 1, 1, 1, 0, 1, 0] (.c none (.v (.int .i64 r))) [] ⟨[(1, .ptr 1 0), (3, .c none (.v (.int .i64 n_3))), (6, .c none (.v (.int .i64 ((i_6 : Nat) : Int))))], [(1, (Zj.bx e))]⟩
theorem ZoY : (∀ e r, ZaJ e = some r → ZaJ.M e r) ∧ (∀ n_3 i_4 e ZaV r, ZcF n_3 i_4 e ZaV = some r → ZcF.M n_3 i_4 e ZaV r) ∧ (∀ n_3 i_5 e Zab r, ZcE n_3 i_5 e Zab = some r → ZcE.M n_3 i_5 e Zab r) ∧ (∀ n_3 i_6 e ZcK r, ZcH n_3 i_6 e ZcK = some r → ZcH.M n_3 i_6 e ZcK r) := by
 refine ZaJ.mutual_partial_correctness ZaJ.M ZcF.M ZcE.M ZcH.M ?_ ?_ ?_ ?_
 ·intro lazycref36_Size_l1' ZgH e r hF
  unfold ZaJ.M
  refine en Tryz.func21 ?_
  refine zln fun hlen1 => ?_
  exact znl (ZgH _ _ _ _ _ hF ([]) rfl rfl hlen1)
 ·intro lazycref36_Size' lazycref36_Size_l1' lazycref36_Size_l2' Zfe ZgH Zgw n_3 i_4 e ZaV r hF
  unfold ZcF.M nL
  intro ZdC ZfK ZfH hlen1
  refine AWL.step ?_
  refine zln fun hlen34 => ?_
  refine zbl ZfK ZfH (fun x35 ZF7 ZDN ZEE hl37 => ?_) (fun ZDN => ?_)
  ·subst ZDN
   obtain ⟨r38, ZCG, hF⟩ := bind_some hF
   refine zsr (Zr (f := Za.cells) (Za.cells_eq x35) ZEE) ?_
   refine zca [] [] [] (Zfe _ _ ZCG) ?_
   exact znl (ZgH _ _ _ _ _ hF _ (zlh ZfK) (zlk ZfH) hlen1)
  ·subst ZDN
   exact znl (Zgw _ _ _ _ _ hF ([]) rfl rfl hlen1 hlen34)
 ·intro lazycref36_Size' lazycref36_Size_l2' lazycref36_Size_l3' Zfe Zgw ZgP n_3 i_5 e Zab r hF
  unfold ZcE.M nL
  intro ZcC ZeE ZeB hlen1 hlen34
  refine AWL.step ?_
  refine zln fun hlen71 => ?_
  refine zbl ZeE ZeB (fun x72 ZH1 ZEr ZJL hl74 => ?_) (fun ZEr => ?_)
  ·subst ZEr
   obtain ⟨r75, ZDv, hF⟩ := bind_some hF
   refine zsr (Zr (f := Zf.cells) (Zf.cells_eq x72) ZJL) ?_
   refine zca [] [] [] (Zfe _ _ ZDv) ?_
   exact znl (Zgw _ _ _ _ _ hF _ (zlh ZeE) (zlk ZeB) hlen1 hlen34)
  ·subst ZEr
   exact znl (ZgP _ _ _ _ _ hF ([]) rfl rfl hlen1 hlen34 hlen71)
 ·intro lazycref36_Size' lazycref36_Size_l3' Zfe ZgP n_3 i_6 e ZcK r hF
  unfold ZcH.M nL
  intro ZeX ZiR ZiK hlen1 hlen34 hlen71
  refine AWL.step ?_
  refine zln fun hlen90 => ?_
  refine zbl ZiR ZiK (fun x91 Zzj ZwS ZDS ZIx => ?_) (fun ZwS => ?_)
  ·subst ZwS
   obtain ⟨r94, ZEn, hF⟩ := bind_some hF
   refine zsr (Zr (f := Zj.cells) (Zj.cells_eq x91) ZDS) ?_
   refine zca [] [] [] (Zfe _ _ ZEn) ?_
   exact znl (ZgP _ _ _ _ _ hF _ (zlh ZiR) (zlk ZiK) hlen1 hlen34 hlen71)
  ·subst ZwS
   obtain rfl := Ze hF
   exact zre []
theorem Zkt {e r} (h : ZaJ e = some r) : ZaJ.M e r := ZoY.1 _ _ h

mutual
def Zw (e : Zj) : Option (Int) :=
 ZbQ 0 0 e e.fBinds
 partial_fixpoint
def ZbQ (n_3 : Int) (i_4 : Nat) (e : Zj) (ZaV : (List Za)) : Option (Int) :=
 (match ZaV with
 | x34 :: ZHV =>
 Zw x34.fBody >>= fun r37 =>
 ZbQ (if r37 > n_3 then r37 else n_3) (i_4 + 1) e ZHV
 | [] =>
 Zbu n_3 0 e e.fAlts)
 partial_fixpoint
def Zbu (n_3 : Int) (i_5 : Nat) (e : Zj) (Zab : (List Zf)) : Option (Int) :=
 (match Zab with
 | x71 :: ZH7 =>
 Zw x71.fBody >>= fun r74 =>
 Zbu (if r74 > n_3 then r74 else n_3) (i_5 + 1) e ZH7
 | [] =>
 Zbv n_3 0 e e.fKids)
 partial_fixpoint
def Zbv (n_3 : Int) (i_6 : Nat) (e : Zj) (ZcK : (List Zj)) : Option (Int) :=
 (match ZcK with
 | x90 :: ZH9 =>
 Zw x90 >>= fun r93 =>
 Zbv (if r93 > n_3 then r93 else n_3) (i_6 + 1) e ZH9
 | [] =>
 some (IntKind.i64.wrap (n_3 + 1)))
 partial_fixpoint
end
def Zw.M (e : Zj) (r : Int) : Prop :=
 Zq Tryz.prog 26 [.agg (Zj.fl e)] [] (fun d b => d = .c none (.v (.int .i64 r)) ∧ b = [])
def ZbQ.M (n_3 : Int) (i_4 : Nat) (e : Zj) (ZaV : (List Za)) (r : Int) : Prop :=
 ∀ ZdC : List Za, e.fBinds = ZdC ++ ZaV → i_4 = ZdC.length → nL 56 Tryz.f26 [1, 1, 0, 1, 0] (.c none (.v (.int .i64 r))) [] ⟨[(1, .ptr 1 0), (3, .c none (.v (.int .i64 n_3))), (4, .c none (.v (.int .i64 ((i_4 : Nat) : Int))))], [(1, (Zj.bx e))]⟩
def Zbu.M (n_3 : Int) (i_5 : Nat) (e : Zj) (Zab : (List Zf)) (r : Int) : Prop :=
 ∀ ZcC : List Zf, e.fAlts = ZcC ++ Zab → i_5 = ZcC.length → e.fBinds.length ≤ maxLen → nL 56 Tryz.f26 [1, 1, 1, 0, 1, 0] (.c none (.v (.int .i64 r))) [] ⟨[(1, .ptr 1 0), (3, .c none (.v (.int .i64 n_3))), (5, .c none (.v (.int .i64 ((i_5 : Nat) : Int))))], [(1, (Zj.bx e))]⟩
def Zbv.M (n_3 : Int) (i_6 : Nat) (e : Zj) (ZcK : (List Zj)) (r : Int) : Prop :=
 ∀ ZeX : List Zj, e.fKids = ZeX ++ ZcK → i_6 = ZeX.length → e.fBinds.length ≤ maxLen → e.fAlts.length ≤ maxLen → nL 56 Tryz.f26 [1, 1, 1, 1, 0, 1, 0] (.c none (.v (.int .i64 r))) [] ⟨[(1, .ptr 1 0), (3, .c none (.v (.int .i64 n_3))), (6, .c none (.v (.int .i64 ((i_6 : Nat) : Int))))], [(1, (Zj.bx e))]⟩
theorem Zmy : (∀ e r, Zw e = some r → Zw.M e r) ∧ (∀ n_3 i_4 e ZaV r, ZbQ n_3 i_4 e ZaV = some r → ZbQ.M n_3 i_4 e ZaV r) ∧ (∀ n_3 i_5 e Zab r, Zbu n_3 i_5 e Zab = some r → Zbu.M n_3 i_5 e Zab r) ∧ (∀ n_3 i_6 e ZcK r, Zbv n_3 i_6 e ZcK = some r → Zbv.M n_3 i_6 e ZcK r) := by
 refine Zw.mutual_partial_correctness Zw.M ZbQ.M Zbu.M Zbv.M ?_ ?_ ?_ ?_
 ·intro lazycref36_Nesting_l1' ZfQ e r hF
  unfold Zw.M
  refine en Tryz.func26 ?_
  exact znl (ZfQ _ _ _ _ _ hF ([]) rfl rfl)
 ·intro lazycref36_Nesting' lazycref36_Nesting_l1' lazycref36_Nesting_l2' Zer ZfQ ZfG n_3 i_4 e ZaV r hF
  unfold ZbQ.M nL
  intro ZdC ZfK ZfH
  refine AWL.step ?_
  refine zln fun hlen33 => ?_
  refine zbl ZfK ZfH (fun x34 ZHV ZD8 ZJl hl36 => ?_) (fun ZD8 => ?_)
  ·subst ZD8
   obtain ⟨r37, ZI0, hF⟩ := bind_some hF
   refine zsr (Zr (f := Za.cells) (Za.cells_eq x34) ZJl) ?_
   refine zca [] [] [] (Zer _ _ ZI0) ?_
   exact znl (ZfQ _ _ _ _ _ hF _ (zlh ZfK) (zlk ZfH))
  ·subst ZD8
   exact znl (ZfG _ _ _ _ _ hF ([]) rfl rfl hlen33)
 ·intro lazycref36_Nesting' lazycref36_Nesting_l2' lazycref36_Nesting_l3' Zer ZfG ZfI n_3 i_5 e Zab r hF
  unfold Zbu.M nL
  intro ZcC ZeE ZeB hlen33
  refine AWL.step ?_
  refine zln fun hlen70 => ?_
  refine zbl ZeE ZeB (fun x71 ZH7 ZCM ZIL hl73 => ?_) (fun ZCM => ?_)
  ·subst ZCM
   obtain ⟨r74, ZEe, hF⟩ := bind_some hF
   refine zsr (Zr (f := Zf.cells) (Zf.cells_eq x71) ZIL) ?_
   refine zca [] [] [] (Zer _ _ ZEe) ?_
   exact znl (ZfG _ _ _ _ _ hF _ (zlh ZeE) (zlk ZeB) hlen33)
  ·subst ZCM
   exact znl (ZfI _ _ _ _ _ hF ([]) rfl rfl hlen33 hlen70)
 ·intro lazycref36_Nesting' lazycref36_Nesting_l3' Zer ZfI n_3 i_6 e ZcK r hF
  unfold Zbv.M nL
  intro ZeX ZiR ZiK hlen33 hlen70
  refine AWL.step ?_
  refine zln fun hlen89 => ?_
  refine zbl ZiR ZiK (fun x90 ZH9 ZDn ZI4 hl92 => ?_) (fun ZDn => ?_)
  ·subst ZDn
   obtain ⟨r93, ZIF, hF⟩ := bind_some hF
   refine zsr (Zr (f := Zj.cells) (Zj.cells_eq x90) ZI4) ?_
   refine zca [] [] [] (Zer _ _ ZIF) ?_
   exact znl (ZfI _ _ _ _ _ hF _ (zlh ZiR) (zlk ZiK) hlen33 hlen70)
  ·subst ZDn
   obtain rfl := Ze hF
   exact zre []
theorem Zi8 {e r} (h : Zw e = some r) : Zw.M e r := Zmy.1 _ _ h

def ZdT (f : Zd) (name_ : ByteArray) : Option (Zd) :=
 ZbW f.fbound 0 name_ >>= fun r1 =>
 (if (r1.1 == 0) = true then ZbW f.fseen false name_ >>= fun r2 =>
 some (!r2.1) else some false) >>= fun c3 =>
 if c3 = true then
 ZaK ((f.fout.length + ([name_]).length) * 16 ≤ 140737488355328) >>= fun _ =>
 some (Zd.mk f.fbound (Ze0 f.fseen name_ true) (f.fout ++ ([name_])))
 else
 some f
def ZdT.M (f : Zd) (name_ : ByteArray) (r : Zd) : Prop :=
 Zq Tryz.prog 75 [.ptr 1000 0, .c none (.v (.string name_))] [(1000, [(none, .rf 1001), (none, .rf 1002), ((some (3002, 9)), .sl (f.fout.map c_S))]), (1001, [(none, .ob 167 (f.fbound.map (Zv c_S Zg)))]), (1002, [(none, .ob 169 (f.fseen.map (Zv c_S c_B)))])] (fun d b => d = .tup [] ∧ b = [(1000, [(none, .rf 1001), (none, .rf 1002), ((some (3002, 9)), .sl (r.fout.map c_S))]), (1001, [(none, .ob 167 (r.fbound.map (Zv c_S Zg)))]), (1002, [(none, .ob 169 (r.fseen.map (Zv c_S c_B)))])])
theorem Zli {f name_ r} (hF : ZdT f name_ = some r) : ZdT.M f name_ r := by
 unfold ZdT at hF
 unfold ZdT.M
 refine en Tryz.func75 ?_
 obtain ⟨r1, hr1, hF⟩ := bind_some hF
 obtain ⟨c3, hc3, hF⟩ := bind_some hF
 refine sq ?_
 refine zck [0, 1] [1000, 1001, 1002] [(19, .c none (.v (.bool c3)))] ?_ ?_
 ·refine zgo ?_
  refine Zcr (m := f.fbound) (k := name_) ZaN (ev := Zg) hr1 rfl (fun x => Zbl x) rfl rfl (lc Zn) ?_
  refine zbt (fun hc4 => ?_) (fun hc4 => ?_)
  ·have hc3 := ift hc4 hc3
   obtain ⟨r2, hr2, hc3⟩ := bind_some hc3
   refine zgo ?_
   refine Zcr (m := f.fseen) (k := name_) ZaN (ev := c_B) hr2 rfl (fun x => ZrQ x) rfl rfl (lc Zn) ?_
   obtain rfl := Ze hc3
   refine zgo ?_
   exact zwe
  ·have hc3 := ife hc4 hc3
   obtain rfl := Ze hc3
   refine zgo ?_
   exact zwe
 refine zbr hF (fun hc5 hF => ?_) (fun hc5 hF => ?_)
 ·refine zgo ?_
  refine ZdG (m := f.fseen) (k := name_) (v := true) ZaN (ev := c_B) (lc Zn) ?_
  obtain ⟨hg6, hF⟩ := Zx hF
  refine zgo ?_
  refine ea (ZH (f := c_S) (lc Zn) (Zp (f := c_S))) (zsa (fun l => Zaf l (fun x => Zbb x)) hg6 ?_)
  refine ea (WE.refl _) ?_
  rw [← List.map_append]
  obtain rfl := Ze hF
  exact zrg zi3 (rn [(32, 3002)])
 ·obtain rfl := Ze hF
  exact zre zi3

def Zbf (l : (List ZJ)) (x_8 : Nat) (Zac : (List ByteArray)) (Zaa : (List (ByteArray × Int))) (Zm : (List (ByteArray × Bool))) (ZdS : (List ZJ)) : Option (Zd) :=
 (match ZdS with
 | x13 :: Zrv =>
 if (x13.fOp == 1) = true then
 ZdT (Zd.mk Zaa Zm Zac) x13.fName >>= fun r17 =>
 Zbf l (x_8 + 1) r17.fout r17.fbound r17.fseen Zrv
 else
 Zbf l (x_8 + 1) Zac Zaa Zm Zrv
 | [] =>
 some (Zd.mk Zaa Zm Zac))
 partial_fixpoint
def Zbf.M (l : (List ZJ)) (x_8 : Nat) (Zac : (List ByteArray)) (Zaa : (List (ByteArray × Int))) (Zm : (List (ByteArray × Bool))) (ZdS : (List ZJ)) (r : Zd) : Prop :=
 ∀ ZiM : List ZJ, l = ZiM ++ ZdS → x_8 = ZiM.length → l.length ≤ maxLen → nL 20 Tryz.f76 [1, 0] (.tup []) [(1000, [(none, .rf 1001), (none, .rf 1002), ((some (3002, 9)), .sl (r.fout.map c_S))]), (1001, [(none, .ob 167 (r.fbound.map (Zv c_S Zg)))]), (1002, [(none, .ob 169 (r.fseen.map (Zv c_S c_B)))])] ⟨[(0, .ptr 1000 0), (6, .c none (.sl (l.map ZJ.cells))), (7, .c none (.v (.int .i64 ((l.length : Nat) : Int)))), (8, .c none (.v (.int .i64 ((x_8 : Nat) : Int))))], [(1000, [(none, .rf 1001), (none, .rf 1002), ((some (3002, 9)), .sl (Zac.map c_S))]), (1001, [(none, .ob 167 (Zaa.map (Zv c_S Zg)))]), (1002, [(none, .ob 169 (Zm.map (Zv c_S c_B)))])]⟩
theorem Zl9 (l : (List ZJ)) : ∀ x_8 Zac Zaa Zm ZdS r, Zbf l x_8 Zac Zaa Zm ZdS = some r → Zbf.M l x_8 Zac Zaa Zm ZdS r := by
 refine Zbf.partial_correctness l (Zbf.M l) ?_
 intro stg_finder_atoms_l1' ZiW x_8 Zac Zaa Zm ZdS r hF
 unfold Zbf.M nL
 intro ZiM ZmC Zmm hlen1
 refine AWL.step ?_
 refine zbl ZmC Zmm (fun x13 Zrv ZpH ZwM ZDV => ?_) (fun ZpH => ?_)
 ·subst ZpH
  refine zsr (Zr (f := ZJ.cells) (ZJ.cells_eq x13) ZwM) ?_
  refine zbr hF (fun ZkT hF => ?_) (fun ZkT hF => ?_)
  ·obtain ⟨r17, Zt1, hF⟩ := bind_some hF
   refine zca [] zi3 [] (Zli Zt1) ?_
   exact znl (ZiW _ _ _ _ _ _ hF _ (zlh ZmC) (zlk Zmm) hlen1)
  ·exact znl (ZiW _ _ _ _ _ _ hF _ (zlh ZmC) (zlk Zmm) hlen1)
 ·subst ZpH
  obtain rfl := Ze hF
  exact zre zi3
theorem Zm6 {l x_8 Zac Zaa Zm ZdS r} (h : Zbf l x_8 Zac Zaa Zm ZdS = some r) : Zbf.M l x_8 Zac Zaa Zm ZdS r := (Zl9 l) _ _ _ _ _ _ h

def Zes (f : Zd) (l : (List ZJ)) : Option (Zd) :=
 Zbf l 0 f.fout f.fbound f.fseen l
def Zes.M (f : Zd) (l : (List ZJ)) (r : Zd) : Prop :=
 Zq Tryz.prog 76 [.ptr 1000 0, .c none (.sl (l.map ZJ.cells))] [(1000, [(none, .rf 1001), (none, .rf 1002), ((some (3002, 9)), .sl (f.fout.map c_S))]), (1001, [(none, .ob 167 (f.fbound.map (Zv c_S Zg)))]), (1002, [(none, .ob 169 (f.fseen.map (Zv c_S c_B)))])] (fun d b => d = .tup [] ∧ b = [(1000, [(none, .rf 1001), (none, .rf 1002), ((some (3002, 9)), .sl (r.fout.map c_S))]), (1001, [(none, .ob 167 (r.fbound.map (Zv c_S Zg)))]), (1002, [(none, .ob 169 (r.fseen.map (Zv c_S c_B)))])])
theorem ZoV {f l r} (hF : Zes f l = some r) : Zes.M f l r := by
 unfold Zes at hF
 unfold Zes.M
 refine en Tryz.func76 ?_
 refine zln fun hlen1 => ?_
 exact znl (Zm6 hF ([]) rfl rfl hlen1)

def ZdF (Zad : (List ByteArray)) (l : (List Za)) (x_8 : Nat) (ZdS : (List Za)) : Option ((List ByteArray)) :=
 (match ZdS with
 | x11 :: Zwo =>
 ZaK ((Zad.length + ([x11.fName]).length) * 16 ≤ 140737488355328) >>= fun _ =>
 ZdF (Zad ++ ([x11.fName])) l (x_8 + 1) Zwo
 | [] =>
 some Zad)
 partial_fixpoint
def ZdF.M (l : (List Za)) (Zad : (List ByteArray)) (x_8 : Nat) (ZdS : (List Za)) (r : (List ByteArray)) : Prop :=
 ∀ ZiM : List Za, l = ZiM ++ ZdS → x_8 = ZiM.length → l.length ≤ maxLen → nL 19 Tryz.f51 [1, 1, 0, 1, 0] (.c (some (0, 9)) (.sl (r.map c_S))) [] ⟨[(3, .c (some (3, 9)) (.sl (Zad.map c_S))), (6, .c none (.sl (l.map Za.cells))), (7, .c none (.v (.int .i64 ((l.length : Nat) : Int)))), (8, .c none (.v (.int .i64 ((x_8 : Nat) : Int))))], []⟩
theorem ZqF (l : (List Za)) : ∀ Zad x_8 ZdS r, ZdF Zad l x_8 ZdS = some r → ZdF.M l Zad x_8 ZdS r := by
 refine ZdF.partial_correctness l (ZdF.M l) ?_
 intro stg_named_l1' Zrs Zad x_8 ZdS r hF
 unfold ZdF.M nL
 intro ZiM ZmC Zmm hlen1
 refine AWL.step ?_
 refine zbl ZmC Zmm (fun x11 Zwo Zsu ZzU ZFM => ?_) (fun Zsu => ?_)
 ·subst Zsu
  refine zsr (Zr (f := Za.cells) (Za.cells_eq x11) ZzU) ?_
  obtain ⟨ZIR, hF⟩ := Zx hF
  refine zgo ?_
  refine ea (ZH (f := c_S) (lc Zn) (Zp (f := c_S))) (zsa (fun l => Zaf l (fun x => Zbb x)) ZIR ?_)
  refine ea (WE.refl _) ?_
  rw [← List.map_append]
  exact znr (rn [(16, 3)]) (Zrs _ _ _ _ hF _ (zlh ZmC) (zlk Zmm) hlen1)
 ·subst Zsu
  obtain rfl := Ze hF
  exact zrg [] (rn [(3, 0)])
theorem Zrm {Zad l x_8 ZdS r} (h : ZdF Zad l x_8 ZdS = some r) : ZdF.M l Zad x_8 ZdS r := (ZqF l) _ _ _ _ h

def Zfw (l : (List Za)) : Option ((List ByteArray)) :=
 ZdF ([]) l 0 l
def Zfw.M (l : (List Za)) (r : (List ByteArray)) : Prop :=
 Zq Tryz.prog 51 [.c none (.sl (l.map Za.cells))] [] (fun d b => d = .c (some (0, 9)) (.sl (r.map c_S)) ∧ b = [])
theorem ZmK {l r} (hF : Zfw l = some r) : Zfw.M l r := by
 unfold Zfw at hF
 unfold Zfw.M
 refine en Tryz.func51 ?_
 refine zln fun hlen1 => ?_
 exact znl (Zrm hF ([]) rfl rfl hlen1)

def ZC (l : (List ByteArray)) (ZaL : Nat) (r28 : (Zd)) (Zm : (List (ByteArray × Int))) (g2_c1 : Za) (Zu : (List ByteArray)) : Option (Zd) :=
 (match Zu with
 | x39 :: Zgo =>
 ZbW Zm 0 x39 >>= fun r42 =>
 ZC l (ZaL + 1) r28 (Ze0 Zm x39 (IntKind.i64.wrap (r42.1 - 1))) g2_c1 Zgo
 | [] =>
 some (Zd.mk Zm r28.fseen r28.fout))
 partial_fixpoint
def ZC.M (l : (List ByteArray)) (r28 : (Zd)) (g2_c1 : Za) (ZaL : Nat) (Zm : (List (ByteArray × Int))) (Zu : (List ByteArray)) (r : Zd) : Prop :=
 ∀ ZaE : List ByteArray, l = ZaE ++ Zu → ZaL = ZaE.length → l.length ≤ maxLen → nL 34 Tryz.f78 [1, 1, 1, 0] (.tup []) [(1000, [(none, .pt 1001 0)]), (1001, [(none, .rf 1002), (none, .rf 1003), ((some (3052, 9)), .sl (r.fout.map c_S))]), (1002, [(none, .ob 167 (r.fbound.map (Zv c_S Zg)))]), (1003, [(none, .ob 169 (r.fseen.map (Zv c_S c_B)))]), (1004, (Za.bx g2_c1))] ⟨[(0, .c none (.rf 1002)), (23, .c none (.sl (l.map c_S))), (24, .c none (.v (.int .i64 ((l.length : Nat) : Int)))), (25, .c none (.v (.int .i64 ((ZaL : Nat) : Int))))], [(1000, [(none, .pt 1001 0)]), (1001, [(none, .rf 1002), (none, .rf 1003), ((some (3052, 9)), .sl (r28.fout.map c_S))]), (1002, [(none, .ob 167 (Zm.map (Zv c_S Zg)))]), (1003, [(none, .ob 169 (r28.fseen.map (Zv c_S c_B)))]), (1004, (Za.bx g2_c1))]⟩
theorem Zgi (l : (List ByteArray)) (r28 : (Zd)) (g2_c1 : Za) : ∀ ZaL Zm Zu r, ZC l ZaL r28 Zm g2_c1 Zu = some r → ZC.M l r28 g2_c1 ZaL Zm Zu r := by
 refine ZC.partial_correctness l r28 g2_c1 (ZC.M l r28 g2_c1) ?_
 intro stg_scope_with_stg_finder_expr_1_1_l2' ZgJ ZaL Zm Zu r hF
 unfold ZC.M nL
 intro ZaE ZcB Zcx hlen29
 refine AWL.step ?_
 refine zbl ZcB Zcx (fun x39 Zgo ZeM ZjB Zrj => ?_) (fun ZeM => ?_)
 ·subst ZeM
  refine zsr (Zr (f := c_S) rfl ZjB) ?_
  obtain ⟨r42, ZjT, hF⟩ := bind_some hF
  refine zgo ?_
  refine Zcr (m := Zm) (k := x39) ZaN (ev := Zg) ZjT rfl (fun x => Zbl x) rfl rfl (lc Zn) (zgo ?_)
  exact ZdG (m := Zm) (k := x39) (v := (IntKind.i64.wrap (r42.1 - 1))) ZaN (ev := Zg) (lc Zn) (znl (ZgJ _ _ _ _ hF _ (zlh ZcB) (zlk Zcx) hlen29))
 ·subst ZeM
  obtain rfl := Ze hF
  exact zre zi5
theorem Zgx {l ZaL r28 Zm g2_c1 Zu r} (h : ZC l ZaL r28 Zm g2_c1 Zu = some r) : ZC.M l r28 g2_c1 ZaL Zm Zu r := (Zgi l r28 g2_c1) _ _ _ _ h

def ZM (l : (List ByteArray)) (ZaL : Nat) (g2_c0 : Zj) (r28 : (Zd)) (Zh : (List (ByteArray × Int))) (Zu : (List ByteArray)) : Option (Zd) :=
 (match Zu with
 | x39 :: Zgo =>
 ZbW Zh 0 x39 >>= fun r42 =>
 ZM l (ZaL + 1) g2_c0 r28 (Ze0 Zh x39 (IntKind.i64.wrap (r42.1 - 1))) Zgo
 | [] =>
 some (Zd.mk Zh r28.fseen r28.fout))
 partial_fixpoint
def ZM.M (l : (List ByteArray)) (g2_c0 : Zj) (r28 : (Zd)) (ZaL : Nat) (Zh : (List (ByteArray × Int))) (Zu : (List ByteArray)) (r : Zd) : Prop :=
 ∀ ZaE : List ByteArray, l = ZaE ++ Zu → ZaL = ZaE.length → l.length ≤ maxLen → nL 34 Tryz.f78 [1, 1, 1, 0] (.tup []) [(1000, (Zj.bx g2_c0)), (1001, [(none, .pt 1002 0)]), (1002, [(none, .rf 1003), (none, .rf 1004), ((some (3102, 9)), .sl (r.fout.map c_S))]), (1003, [(none, .ob 167 (r.fbound.map (Zv c_S Zg)))]), (1004, [(none, .ob 169 (r.fseen.map (Zv c_S c_B)))])] ⟨[(0, .c none (.rf 1003)), (23, .c none (.sl (l.map c_S))), (24, .c none (.v (.int .i64 ((l.length : Nat) : Int)))), (25, .c none (.v (.int .i64 ((ZaL : Nat) : Int))))], [(1000, (Zj.bx g2_c0)), (1001, [(none, .pt 1002 0)]), (1002, [(none, .rf 1003), (none, .rf 1004), ((some (3102, 9)), .sl (r28.fout.map c_S))]), (1003, [(none, .ob 167 (Zh.map (Zv c_S Zg)))]), (1004, [(none, .ob 169 (r28.fseen.map (Zv c_S c_B)))])]⟩
theorem ZgY (l : (List ByteArray)) (g2_c0 : Zj) (r28 : (Zd)) : ∀ ZaL Zh Zu r, ZM l ZaL g2_c0 r28 Zh Zu = some r → ZM.M l g2_c0 r28 ZaL Zh Zu r := by
 refine ZM.partial_correctness l g2_c0 r28 (ZM.M l g2_c0 r28) ?_
 intro stg_scope_with_stg_finder_expr_1_l2' Zhf ZaL Zh Zu r hF
 unfold ZM.M nL
 intro ZaE ZcB Zcx hlen29
 refine AWL.step ?_
 refine zbl ZcB Zcx (fun x39 Zgo ZeM ZjB Zrj => ?_) (fun ZeM => ?_)
 ·subst ZeM
  refine zsr (Zr (f := c_S) rfl ZjB) ?_
  obtain ⟨r42, ZjT, hF⟩ := bind_some hF
  refine zgo ?_
  refine Zcr (m := Zh) (k := x39) ZaN (ev := Zg) ZjT rfl (fun x => Zbl x) rfl rfl (lc Zn) (zgo ?_)
  exact ZdG (m := Zh) (k := x39) (v := (IntKind.i64.wrap (r42.1 - 1))) ZaN (ev := Zg) (lc Zn) (znl (Zhf _ _ _ _ hF _ (zlh ZcB) (zlk Zcx) hlen29))
 ·subst ZeM
  obtain rfl := Ze hF
  exact zre zi5
theorem Zha {l ZaL g2_c0 r28 Zh Zu r} (h : ZM l ZaL g2_c0 r28 Zh Zu = some r) : ZM.M l g2_c0 r28 ZaL Zh Zu r := (ZgY l g2_c0 r28) _ _ _ _ h

def ZK (l : (List ByteArray)) (ZaL : Nat) (g2_c0 : Zj) (r28 : (Zd)) (Zh : (List (ByteArray × Int))) (Zu : (List ByteArray)) : Option (Zd) :=
 (match Zu with
 | x39 :: Zgo =>
 ZbW Zh 0 x39 >>= fun r42 =>
 ZK l (ZaL + 1) g2_c0 r28 (Ze0 Zh x39 (IntKind.i64.wrap (r42.1 - 1))) Zgo
 | [] =>
 some (Zd.mk Zh r28.fseen r28.fout))
 partial_fixpoint
def ZK.M (l : (List ByteArray)) (g2_c0 : Zj) (r28 : (Zd)) (ZaL : Nat) (Zh : (List (ByteArray × Int))) (Zu : (List ByteArray)) (r : Zd) : Prop :=
 ∀ ZaE : List ByteArray, l = ZaE ++ Zu → ZaL = ZaE.length → l.length ≤ maxLen → nL 34 Tryz.f78 [1, 1, 1, 0] (.tup []) [(1000, (Zj.bx g2_c0)), (1001, [(none, .pt 1002 0)]), (1002, [(none, .rf 1003), (none, .rf 1004), ((some (3102, 9)), .sl (r.fout.map c_S))]), (1003, [(none, .ob 167 (r.fbound.map (Zv c_S Zg)))]), (1004, [(none, .ob 169 (r.fseen.map (Zv c_S c_B)))])] ⟨[(0, .c none (.rf 1003)), (23, .c none (.sl (l.map c_S))), (24, .c none (.v (.int .i64 ((l.length : Nat) : Int)))), (25, .c none (.v (.int .i64 ((ZaL : Nat) : Int))))], [(1000, (Zj.bx g2_c0)), (1001, [(none, .pt 1002 0)]), (1002, [(none, .rf 1003), (none, .rf 1004), ((some (3102, 9)), .sl (r28.fout.map c_S))]), (1003, [(none, .ob 167 (Zh.map (Zv c_S Zg)))]), (1004, [(none, .ob 169 (r28.fseen.map (Zv c_S c_B)))])]⟩
theorem Zg2 (l : (List ByteArray)) (g2_c0 : Zj) (r28 : (Zd)) : ∀ ZaL Zh Zu r, ZK l ZaL g2_c0 r28 Zh Zu = some r → ZK.M l g2_c0 r28 ZaL Zh Zu r := by
 refine ZK.partial_correctness l g2_c0 r28 (ZK.M l g2_c0 r28) ?_
 intro stg_scope_with_stg_finder_expr_2_l2' Zhb ZaL Zh Zu r hF
 unfold ZK.M nL
 intro ZaE ZcB Zcx hlen29
 refine AWL.step ?_
 refine zbl ZcB Zcx (fun x39 Zgo ZeM ZjB Zrj => ?_) (fun ZeM => ?_)
 ·subst ZeM
  refine zsr (Zr (f := c_S) rfl ZjB) ?_
  obtain ⟨r42, ZjT, hF⟩ := bind_some hF
  refine zgo ?_
  refine Zcr (m := Zh) (k := x39) ZaN (ev := Zg) ZjT rfl (fun x => Zbl x) rfl rfl (lc Zn) (zgo ?_)
  exact ZdG (m := Zh) (k := x39) (v := (IntKind.i64.wrap (r42.1 - 1))) ZaN (ev := Zg) (lc Zn) (znl (Zhb _ _ _ _ hF _ (zlh ZcB) (zlk Zcx) hlen29))
 ·subst ZeM
  obtain rfl := Ze hF
  exact zre zi5
theorem Zhm {l ZaL g2_c0 r28 Zh Zu r} (h : ZK l ZaL g2_c0 r28 Zh Zu = some r) : ZK.M l g2_c0 r28 ZaL Zh Zu r := (Zg2 l g2_c0 r28) _ _ _ _ h

def ZB (l : (List ByteArray)) (ZaL : Nat) (r28 : (Zd)) (Zm : (List (ByteArray × Int))) (g2_c1 : Zf) (Zu : (List ByteArray)) : Option (Zd) :=
 (match Zu with
 | x39 :: Zgo =>
 ZbW Zm 0 x39 >>= fun r42 =>
 ZB l (ZaL + 1) r28 (Ze0 Zm x39 (IntKind.i64.wrap (r42.1 - 1))) g2_c1 Zgo
 | [] =>
 some (Zd.mk Zm r28.fseen r28.fout))
 partial_fixpoint
def ZB.M (l : (List ByteArray)) (r28 : (Zd)) (g2_c1 : Zf) (ZaL : Nat) (Zm : (List (ByteArray × Int))) (Zu : (List ByteArray)) (r : Zd) : Prop :=
 ∀ ZaE : List ByteArray, l = ZaE ++ Zu → ZaL = ZaE.length → l.length ≤ maxLen → nL 34 Tryz.f78 [1, 1, 1, 0] (.tup []) [(1000, [(none, .pt 1001 0)]), (1001, [(none, .rf 1002), (none, .rf 1003), ((some (3052, 9)), .sl (r.fout.map c_S))]), (1002, [(none, .ob 167 (r.fbound.map (Zv c_S Zg)))]), (1003, [(none, .ob 169 (r.fseen.map (Zv c_S c_B)))]), (1004, (Zf.bx g2_c1))] ⟨[(0, .c none (.rf 1002)), (23, .c none (.sl (l.map c_S))), (24, .c none (.v (.int .i64 ((l.length : Nat) : Int)))), (25, .c none (.v (.int .i64 ((ZaL : Nat) : Int))))], [(1000, [(none, .pt 1001 0)]), (1001, [(none, .rf 1002), (none, .rf 1003), ((some (3052, 9)), .sl (r28.fout.map c_S))]), (1002, [(none, .ob 167 (Zm.map (Zv c_S Zg)))]), (1003, [(none, .ob 169 (r28.fseen.map (Zv c_S c_B)))]), (1004, (Zf.bx g2_c1))]⟩
theorem Zgk (l : (List ByteArray)) (r28 : (Zd)) (g2_c1 : Zf) : ∀ ZaL Zm Zu r, ZB l ZaL r28 Zm g2_c1 Zu = some r → ZB.M l r28 g2_c1 ZaL Zm Zu r := by
 refine ZB.partial_correctness l r28 g2_c1 (ZB.M l r28 g2_c1) ?_
 intro stg_scope_with_stg_finder_expr_3_1_l2' ZgQ ZaL Zm Zu r hF
 unfold ZB.M nL
 intro ZaE ZcB Zcx hlen29
 refine AWL.step ?_
 refine zbl ZcB Zcx (fun x39 Zgo ZeM ZjB Zrj => ?_) (fun ZeM => ?_)
 ·subst ZeM
  refine zsr (Zr (f := c_S) rfl ZjB) ?_
  obtain ⟨r42, ZjT, hF⟩ := bind_some hF
  refine zgo ?_
  refine Zcr (m := Zm) (k := x39) ZaN (ev := Zg) ZjT rfl (fun x => Zbl x) rfl rfl (lc Zn) (zgo ?_)
  exact ZdG (m := Zm) (k := x39) (v := (IntKind.i64.wrap (r42.1 - 1))) ZaN (ev := Zg) (lc Zn) (znl (ZgQ _ _ _ _ hF _ (zlh ZcB) (zlk Zcx) hlen29))
 ·subst ZeM
  obtain rfl := Ze hF
  exact zre zi5
theorem ZgS {l ZaL r28 Zm g2_c1 Zu r} (h : ZB l ZaL r28 Zm g2_c1 Zu = some r) : ZB.M l r28 g2_c1 ZaL Zm Zu r := (Zgk l r28 g2_c1) _ _ _ _ h

def ZL (l : (List ByteArray)) (ZaL : Nat) (g2_c0 : Zj) (r28 : (Zd)) (Zh : (List (ByteArray × Int))) (Zu : (List ByteArray)) : Option (Zd) :=
 (match Zu with
 | x39 :: Zgo =>
 ZbW Zh 0 x39 >>= fun r42 =>
 ZL l (ZaL + 1) g2_c0 r28 (Ze0 Zh x39 (IntKind.i64.wrap (r42.1 - 1))) Zgo
 | [] =>
 some (Zd.mk Zh r28.fseen r28.fout))
 partial_fixpoint
def ZL.M (l : (List ByteArray)) (g2_c0 : Zj) (r28 : (Zd)) (ZaL : Nat) (Zh : (List (ByteArray × Int))) (Zu : (List ByteArray)) (r : Zd) : Prop :=
 ∀ ZaE : List ByteArray, l = ZaE ++ Zu → ZaL = ZaE.length → l.length ≤ maxLen → nL 34 Tryz.f78 [1, 1, 1, 0] (.tup []) [(1000, (Zj.bx g2_c0)), (1001, [(none, .pt 1002 0)]), (1002, [(none, .rf 1003), (none, .rf 1004), ((some (3102, 9)), .sl (r.fout.map c_S))]), (1003, [(none, .ob 167 (r.fbound.map (Zv c_S Zg)))]), (1004, [(none, .ob 169 (r.fseen.map (Zv c_S c_B)))])] ⟨[(0, .c none (.rf 1003)), (23, .c none (.sl (l.map c_S))), (24, .c none (.v (.int .i64 ((l.length : Nat) : Int)))), (25, .c none (.v (.int .i64 ((ZaL : Nat) : Int))))], [(1000, (Zj.bx g2_c0)), (1001, [(none, .pt 1002 0)]), (1002, [(none, .rf 1003), (none, .rf 1004), ((some (3102, 9)), .sl (r28.fout.map c_S))]), (1003, [(none, .ob 167 (Zh.map (Zv c_S Zg)))]), (1004, [(none, .ob 169 (r28.fseen.map (Zv c_S c_B)))])]⟩
theorem Zg0 (l : (List ByteArray)) (g2_c0 : Zj) (r28 : (Zd)) : ∀ ZaL Zh Zu r, ZL l ZaL g2_c0 r28 Zh Zu = some r → ZL.M l g2_c0 r28 ZaL Zh Zu r := by
 refine ZL.partial_correctness l g2_c0 r28 (ZL.M l g2_c0 r28) ?_
 intro stg_scope_with_stg_finder_expr_3_l2' Zho ZaL Zh Zu r hF
 unfold ZL.M nL
 intro ZaE ZcB Zcx hlen29
 refine AWL.step ?_
 refine zbl ZcB Zcx (fun x39 Zgo ZeM ZjB Zrj => ?_) (fun ZeM => ?_)
 ·subst ZeM
  refine zsr (Zr (f := c_S) rfl ZjB) ?_
  obtain ⟨r42, ZjT, hF⟩ := bind_some hF
  refine zgo ?_
  refine Zcr (m := Zh) (k := x39) ZaN (ev := Zg) ZjT rfl (fun x => Zbl x) rfl rfl (lc Zn) (zgo ?_)
  exact ZdG (m := Zh) (k := x39) (v := (IntKind.i64.wrap (r42.1 - 1))) ZaN (ev := Zg) (lc Zn) (znl (Zho _ _ _ _ hF _ (zlh ZcB) (zlk Zcx) hlen29))
 ·subst ZeM
  obtain rfl := Ze hF
  exact zre zi5
theorem Zhn {l ZaL g2_c0 r28 Zh Zu r} (h : ZL l ZaL g2_c0 r28 Zh Zu = some r) : ZL.M l g2_c0 r28 ZaL Zh Zu r := (Zg0 l g2_c0 r28) _ _ _ _ h

mutual
def Za5 (f : Zd) (e : Zj) : Option (Zd) :=
 if (e.fOp == 2) = true then
 ZdT f e.fName >>= fun r16 =>
 Zc3 e r16.fout r16.fbound r16.fseen
 else
 Zc3 e f.fout f.fbound f.fseen
 partial_fixpoint
def Zc3 (e : Zj) (Zac : (List ByteArray)) (Zaa : (List (ByteArray × Int))) (Zm : (List (ByteArray × Bool))) : Option (Zd) :=
 Zes (Zd.mk Zaa Zm Zac) e.fArgs >>= fun r3 =>
 Zfw e.fBinds >>= fun r4 =>
 if e.fRec = true then
 Zau r4 e r3 >>= fun r13 =>
 Zch r4 e r13.fout r13.fbound r13.fseen
 else
 Zbn e r3 >>= fun r14 =>
 Zch r4 e r14.fout r14.fbound r14.fseen
 partial_fixpoint
def Zbn (v0_ : Zj) (v1_ : Zd) : Option (Zd) :=
 ZbS v0_ 0 v1_.fout v1_.fbound v1_.fseen v0_.fBinds
 partial_fixpoint
def ZbS (v0_ : Zj) (x_7 : Nat) (Zaj : (List ByteArray)) (Zh : (List (ByteArray × Int))) (Zt : (List (ByteArray × Bool))) (Zd3 : (List Za)) : Option (Zd) :=
 (match Zd3 with
 | x13 :: Zrv =>
 Z7 x13.fParams (Zd.mk Zh Zt Zaj) x13 >>= fun r17 =>
 ZbS v0_ (x_7 + 1) r17.fout r17.fbound r17.fseen Zrv
 | [] =>
 some (Zd.mk Zh Zt Zaj))
 partial_fixpoint
def Z7 (l : (List ByteArray)) (g2_c0 : Zd) (g2_c1 : Za) : Option (Zd) :=
 ZX l 0 g2_c0 g2_c0.fbound g2_c1 l
 partial_fixpoint
def ZX (l : (List ByteArray)) (Zb5 : Nat) (g2_c0 : Zd) (Zm : (List (ByteArray × Int))) (g2_c1 : Za) (ZN : (List ByteArray)) : Option (Zd) :=
 (match ZN with
 | x24 :: Zhi =>
 ZbW Zm 0 x24 >>= fun r27 =>
 ZX l (Zb5 + 1) g2_c0 (Ze0 Zm x24 (IntKind.i64.wrap (r27.1 + 1))) g2_c1 Zhi
 | [] =>
 ZbO (Zd.mk Zm g2_c0.fseen g2_c0.fout) g2_c1 >>= fun r28 =>
 ZC l 0 r28 r28.fbound g2_c1 l)
 partial_fixpoint
def ZbO (v0_ : Zd) (v1_ : Za) : Option (Zd) :=
 Za5 v0_ v1_.fBody >>= fun r1 =>
 some r1
 partial_fixpoint
def Zch (r4 : ((List ByteArray))) (e : Zj) (Zac : (List ByteArray)) (Zaa : (List (ByteArray × Int))) (Zm : (List (ByteArray × Bool))) : Option (Zd) :=
 Za0 r4 e (Zd.mk Zaa Zm Zac) >>= fun r8 =>
 if (e.fOp == 6) = true then
 Zc4 ([e.fName]) e r8
 else
 Zc4 ([]) e r8
 partial_fixpoint
def Zc4 (ZpE : (List ByteArray)) (e : Zj) (r8 : (Zd)) : Option (Zd) :=
 ZaX ZpE e r8 >>= fun r10 =>
 some r10
 partial_fixpoint
def ZaX (l : (List ByteArray)) (g2_c0 : Zj) (g2_c1 : Zd) : Option (Zd) :=
 Z3 l 0 g2_c0 g2_c1 g2_c1.fbound l
 partial_fixpoint
def Z3 (l : (List ByteArray)) (Zb5 : Nat) (g2_c0 : Zj) (g2_c1 : Zd) (Zh : (List (ByteArray × Int))) (ZN : (List ByteArray)) : Option (Zd) :=
 (match ZN with
 | x24 :: Zhi =>
 ZbW Zh 0 x24 >>= fun r27 =>
 Z3 l (Zb5 + 1) g2_c0 g2_c1 (Ze0 Zh x24 (IntKind.i64.wrap (r27.1 + 1))) Zhi
 | [] =>
 Zcg g2_c0 (Zd.mk Zh g2_c1.fseen g2_c1.fout) >>= fun r28 =>
 ZL l 0 g2_c0 r28 r28.fbound l)
 partial_fixpoint
def Zcg (v0_ : Zj) (v1_ : Zd) : Option (Zd) :=
 ZbR v0_ 0 v1_.fout v1_.fbound v1_.fseen v0_.fAlts
 partial_fixpoint
def ZbR (v0_ : Zj) (x_7 : Nat) (Zaj : (List ByteArray)) (Zh : (List (ByteArray × Int))) (Zt : (List (ByteArray × Bool))) (Zd3 : (List Zf)) : Option (Zd) :=
 (match Zd3 with
 | x13 :: Zrv =>
 Z8 x13.fVars (Zd.mk Zh Zt Zaj) x13 >>= fun r17 =>
 ZbR v0_ (x_7 + 1) r17.fout r17.fbound r17.fseen Zrv
 | [] =>
 some (Zd.mk Zh Zt Zaj))
 partial_fixpoint
def Z8 (l : (List ByteArray)) (g2_c0 : Zd) (g2_c1 : Zf) : Option (Zd) :=
 ZW l 0 g2_c0 g2_c0.fbound g2_c1 l
 partial_fixpoint
def ZW (l : (List ByteArray)) (Zb5 : Nat) (g2_c0 : Zd) (Zm : (List (ByteArray × Int))) (g2_c1 : Zf) (ZN : (List ByteArray)) : Option (Zd) :=
 (match ZN with
 | x24 :: Zhi =>
 ZbW Zm 0 x24 >>= fun r27 =>
 ZW l (Zb5 + 1) g2_c0 (Ze0 Zm x24 (IntKind.i64.wrap (r27.1 + 1))) g2_c1 Zhi
 | [] =>
 ZbM (Zd.mk Zm g2_c0.fseen g2_c0.fout) g2_c1 >>= fun r28 =>
 ZB l 0 r28 r28.fbound g2_c1 l)
 partial_fixpoint
def ZbM (v0_ : Zd) (v1_ : Zf) : Option (Zd) :=
 Za5 v0_ v1_.fBody >>= fun r1 =>
 some r1
 partial_fixpoint
def Za0 (l : (List ByteArray)) (g2_c0 : Zj) (g2_c1 : Zd) : Option (Zd) :=
 Z4 l 0 g2_c0 g2_c1 g2_c1.fbound l
 partial_fixpoint
def Z4 (l : (List ByteArray)) (Zb5 : Nat) (g2_c0 : Zj) (g2_c1 : Zd) (Zh : (List (ByteArray × Int))) (ZN : (List ByteArray)) : Option (Zd) :=
 (match ZN with
 | x24 :: Zhi =>
 ZbW Zh 0 x24 >>= fun r27 =>
 Z4 l (Zb5 + 1) g2_c0 g2_c1 (Ze0 Zh x24 (IntKind.i64.wrap (r27.1 + 1))) Zhi
 | [] =>
 Zci g2_c0 (Zd.mk Zh g2_c1.fseen g2_c1.fout) >>= fun r28 =>
 ZK l 0 g2_c0 r28 r28.fbound l)
 partial_fixpoint
def Zci (v0_ : Zj) (v1_ : Zd) : Option (Zd) :=
 Zbx v0_ 0 v1_.fout v1_.fbound v1_.fseen v0_.fKids
 partial_fixpoint
def Zbx (v0_ : Zj) (x_7 : Nat) (Zaj : (List ByteArray)) (Zh : (List (ByteArray × Int))) (Zt : (List (ByteArray × Bool))) (Zd3 : (List Zj)) : Option (Zd) :=
 (match Zd3 with
 | x11 :: Zwo =>
 Za5 (Zd.mk Zh Zt Zaj) x11 >>= fun r14 =>
 Zbx v0_ (x_7 + 1) r14.fout r14.fbound r14.fseen Zwo
 | [] =>
 some (Zd.mk Zh Zt Zaj))
 partial_fixpoint
def Zau (l : (List ByteArray)) (g2_c0 : Zj) (g2_c1 : Zd) : Option (Zd) :=
 Z5 l 0 g2_c0 g2_c1 g2_c1.fbound l
 partial_fixpoint
def Z5 (l : (List ByteArray)) (Zb5 : Nat) (g2_c0 : Zj) (g2_c1 : Zd) (Zh : (List (ByteArray × Int))) (ZN : (List ByteArray)) : Option (Zd) :=
 (match ZN with
 | x24 :: Zhi =>
 ZbW Zh 0 x24 >>= fun r27 =>
 Z5 l (Zb5 + 1) g2_c0 g2_c1 (Ze0 Zh x24 (IntKind.i64.wrap (r27.1 + 1))) Zhi
 | [] =>
 Zbn g2_c0 (Zd.mk Zh g2_c1.fseen g2_c1.fout) >>= fun r28 =>
 ZM l 0 g2_c0 r28 r28.fbound l)
 partial_fixpoint
end
def Za5.M (f : Zd) (e : Zj) (r : Zd) : Prop :=
 Zq Tryz.prog 43 [.ptr 1000 0, .agg (Zj.fl e)] [(1000, [(none, .rf 1001), (none, .rf 1002), ((some (3002, 9)), .sl (f.fout.map c_S))]), (1001, [(none, .ob 167 (f.fbound.map (Zv c_S Zg)))]), (1002, [(none, .ob 169 (f.fseen.map (Zv c_S c_B)))])] (fun d b => d = .tup [] ∧ b = [(1000, [(none, .rf 1001), (none, .rf 1002), ((some (3002, 9)), .sl (r.fout.map c_S))]), (1001, [(none, .ob 167 (r.fbound.map (Zv c_S Zg)))]), (1002, [(none, .ob 169 (r.fseen.map (Zv c_S c_B)))])])
def Zc3.M (e : Zj) (Zac : (List ByteArray)) (Zaa : (List (ByteArray × Int))) (Zm : (List (ByteArray × Bool))) (r : Zd) : Prop :=
 nP 53 Tryz.f43 [1, 1] (.tup []) [(1000, [(none, .rf 1001), (none, .rf 1002), ((some (3002, 9)), .sl (r.fout.map c_S))]), (1001, [(none, .ob 167 (r.fbound.map (Zv c_S Zg)))]), (1002, [(none, .ob 169 (r.fseen.map (Zv c_S c_B)))])] ⟨[(2, .ptr 2 0), (3, .ptr 3 0)], [(2, [(none, .pt 1000 0)]), (3, (Zj.bx e)), (1000, [(none, .rf 1001), (none, .rf 1002), ((some (3002, 9)), .sl (Zac.map c_S))]), (1001, [(none, .ob 167 (Zaa.map (Zv c_S Zg)))]), (1002, [(none, .ob 169 (Zm.map (Zv c_S c_B)))])]⟩
def Zbn.M (v0_ : Zj) (v1_ : Zd) (r : Zd) : Prop :=
 Zq Tryz.prog 77 [.ptr 1000 0, .ptr 1001 0] [(1000, (Zj.bx v0_)), (1001, [(none, .pt 1002 0)]), (1002, [(none, .rf 1003), (none, .rf 1004), ((some (3102, 9)), .sl (v1_.fout.map c_S))]), (1003, [(none, .ob 167 (v1_.fbound.map (Zv c_S Zg)))]), (1004, [(none, .ob 169 (v1_.fseen.map (Zv c_S c_B)))])] (fun d b => d = .tup [] ∧ b = [(1000, (Zj.bx v0_)), (1001, [(none, .pt 1002 0)]), (1002, [(none, .rf 1003), (none, .rf 1004), ((some (3102, 9)), .sl (r.fout.map c_S))]), (1003, [(none, .ob 167 (r.fbound.map (Zv c_S Zg)))]), (1004, [(none, .ob 169 (r.fseen.map (Zv c_S c_B)))])])
def ZbS.M (v0_ : Zj) (x_7 : Nat) (Zaj : (List ByteArray)) (Zh : (List (ByteArray × Int))) (Zt : (List (ByteArray × Bool))) (Zd3 : (List Za)) (r : Zd) : Prop :=
 ∀ Zf6 : List Za, v0_.fBinds = Zf6 ++ Zd3 → x_7 = Zf6.length → v0_.fBinds.length ≤ maxLen → nL 20 Tryz.f77 [1, 0] (.tup []) [(1000, (Zj.bx v0_)), (1001, [(none, .pt 1002 0)]), (1002, [(none, .rf 1003), (none, .rf 1004), ((some (3102, 9)), .sl (r.fout.map c_S))]), (1003, [(none, .ob 167 (r.fbound.map (Zv c_S Zg)))]), (1004, [(none, .ob 169 (r.fseen.map (Zv c_S c_B)))])] ⟨[(1, .ptr 1001 0), (5, .c none (.sl (v0_.fBinds.map Za.cells))), (6, .c none (.v (.int .i64 ((v0_.fBinds.length : Nat) : Int)))), (7, .c none (.v (.int .i64 ((x_7 : Nat) : Int))))], [(1000, (Zj.bx v0_)), (1001, [(none, .pt 1002 0)]), (1002, [(none, .rf 1003), (none, .rf 1004), ((some (3102, 9)), .sl (Zaj.map c_S))]), (1003, [(none, .ob 167 (Zh.map (Zv c_S Zg)))]), (1004, [(none, .ob 169 (Zt.map (Zv c_S c_B)))])]⟩
def Z7.M (l : (List ByteArray)) (g2_c0 : Zd) (g2_c1 : Za) (r : Zd) : Prop :=
 Zq Tryz.prog 78 [.c none (.rf 1002), .c none (.sl (l.map c_S)), .c none (.cl 79 [] [.pt 1000 0, .pt 1004 0])] [(1000, [(none, .pt 1001 0)]), (1001, [(none, .rf 1002), (none, .rf 1003), ((some (3052, 9)), .sl (g2_c0.fout.map c_S))]), (1002, [(none, .ob 167 (g2_c0.fbound.map (Zv c_S Zg)))]), (1003, [(none, .ob 169 (g2_c0.fseen.map (Zv c_S c_B)))]), (1004, (Za.bx g2_c1))] (fun d b => d = .tup [] ∧ b = [(1000, [(none, .pt 1001 0)]), (1001, [(none, .rf 1002), (none, .rf 1003), ((some (3052, 9)), .sl (r.fout.map c_S))]), (1002, [(none, .ob 167 (r.fbound.map (Zv c_S Zg)))]), (1003, [(none, .ob 169 (r.fseen.map (Zv c_S c_B)))]), (1004, (Za.bx g2_c1))])
def ZX.M (l : (List ByteArray)) (Zb5 : Nat) (g2_c0 : Zd) (Zm : (List (ByteArray × Int))) (g2_c1 : Za) (ZN : (List ByteArray)) (r : Zd) : Prop :=
 ∀ Za4 : List ByteArray, l = Za4 ++ ZN → Zb5 = Za4.length → l.length ≤ maxLen → nL 34 Tryz.f78 [0, 1, 0] (.tup []) [(1000, [(none, .pt 1001 0)]), (1001, [(none, .rf 1002), (none, .rf 1003), ((some (3052, 9)), .sl (r.fout.map c_S))]), (1002, [(none, .ob 167 (r.fbound.map (Zv c_S Zg)))]), (1003, [(none, .ob 169 (r.fseen.map (Zv c_S c_B)))]), (1004, (Za.bx g2_c1))] ⟨[(0, .c none (.rf 1002)), (1, .c none (.sl (l.map c_S))), (2, .c none (.cl 79 [] [.pt 1000 0, .pt 1004 0])), (10, .c none (.sl (l.map c_S))), (11, .c none (.v (.int .i64 ((l.length : Nat) : Int)))), (12, .c none (.v (.int .i64 ((Zb5 : Nat) : Int))))], [(1000, [(none, .pt 1001 0)]), (1001, [(none, .rf 1002), (none, .rf 1003), ((some (3052, 9)), .sl (g2_c0.fout.map c_S))]), (1002, [(none, .ob 167 (Zm.map (Zv c_S Zg)))]), (1003, [(none, .ob 169 (g2_c0.fseen.map (Zv c_S c_B)))]), (1004, (Za.bx g2_c1))]⟩
def ZbO.M (v0_ : Zd) (v1_ : Za) (r : Zd) : Prop :=
 Zq Tryz.prog 79 [.ptr 1000 0, .ptr 1004 0] [(1000, [(none, .pt 1001 0)]), (1001, [(none, .rf 1002), (none, .rf 1003), ((some (3052, 9)), .sl (v0_.fout.map c_S))]), (1002, [(none, .ob 167 (v0_.fbound.map (Zv c_S Zg)))]), (1003, [(none, .ob 169 (v0_.fseen.map (Zv c_S c_B)))]), (1004, (Za.bx v1_))] (fun d b => d = .tup [] ∧ b = [(1000, [(none, .pt 1001 0)]), (1001, [(none, .rf 1002), (none, .rf 1003), ((some (3052, 9)), .sl (r.fout.map c_S))]), (1002, [(none, .ob 167 (r.fbound.map (Zv c_S Zg)))]), (1003, [(none, .ob 169 (r.fseen.map (Zv c_S c_B)))]), (1004, (Za.bx v1_))])
def Zch.M (r4 : ((List ByteArray))) (e : Zj) (Zac : (List ByteArray)) (Zaa : (List (ByteArray × Int))) (Zm : (List (ByteArray × Bool))) (r : Zd) : Prop :=
 nP 53 Tryz.f43 [1, 1, 1, 1, 1, 1] (.tup []) [(1000, [(none, .rf 1001), (none, .rf 1002), ((some (3002, 9)), .sl (r.fout.map c_S))]), (1001, [(none, .ob 167 (r.fbound.map (Zv c_S Zg)))]), (1002, [(none, .ob 169 (r.fseen.map (Zv c_S c_B)))])] ⟨[(2, .ptr 2 0), (3, .ptr 3 0), (5, .c (some (5, 9)) (.sl (r4.map c_S)))], [(2, [(none, .pt 1000 0)]), (3, (Zj.bx e)), (1000, [(none, .rf 1001), (none, .rf 1002), ((some (3002, 9)), .sl (Zac.map c_S))]), (1001, [(none, .ob 167 (Zaa.map (Zv c_S Zg)))]), (1002, [(none, .ob 169 (Zm.map (Zv c_S c_B)))])]⟩
def Zc4.M (ZpE : (List ByteArray)) (e : Zj) (r8 : (Zd)) (r : Zd) : Prop :=
 nP 53 Tryz.f43 [1, 1, 1, 1, 1, 1, 1, 1, 1] (.tup []) [(1000, [(none, .rf 1001), (none, .rf 1002), ((some (3002, 9)), .sl (r.fout.map c_S))]), (1001, [(none, .ob 167 (r.fbound.map (Zv c_S Zg)))]), (1002, [(none, .ob 169 (r.fseen.map (Zv c_S c_B)))])] ⟨[(2, .ptr 2 0), (3, .ptr 3 0), (6, .c (some (6, 9)) (.sl (ZpE.map c_S)))], [(2, [(none, .pt 1000 0)]), (3, (Zj.bx e)), (1000, [(none, .rf 1001), (none, .rf 1002), ((some (3002, 9)), .sl (r8.fout.map c_S))]), (1001, [(none, .ob 167 (r8.fbound.map (Zv c_S Zg)))]), (1002, [(none, .ob 169 (r8.fseen.map (Zv c_S c_B)))])]⟩
def ZaX.M (l : (List ByteArray)) (g2_c0 : Zj) (g2_c1 : Zd) (r : Zd) : Prop :=
 Zq Tryz.prog 78 [.c none (.rf 1003), .c none (.sl (l.map c_S)), .c none (.cl 81 [] [.pt 1000 0, .pt 1001 0])] [(1000, (Zj.bx g2_c0)), (1001, [(none, .pt 1002 0)]), (1002, [(none, .rf 1003), (none, .rf 1004), ((some (3102, 9)), .sl (g2_c1.fout.map c_S))]), (1003, [(none, .ob 167 (g2_c1.fbound.map (Zv c_S Zg)))]), (1004, [(none, .ob 169 (g2_c1.fseen.map (Zv c_S c_B)))])] (fun d b => d = .tup [] ∧ b = [(1000, (Zj.bx g2_c0)), (1001, [(none, .pt 1002 0)]), (1002, [(none, .rf 1003), (none, .rf 1004), ((some (3102, 9)), .sl (r.fout.map c_S))]), (1003, [(none, .ob 167 (r.fbound.map (Zv c_S Zg)))]), (1004, [(none, .ob 169 (r.fseen.map (Zv c_S c_B)))])])
def Z3.M (l : (List ByteArray)) (Zb5 : Nat) (g2_c0 : Zj) (g2_c1 : Zd) (Zh : (List (ByteArray × Int))) (ZN : (List ByteArray)) (r : Zd) : Prop :=
 ∀ Za4 : List ByteArray, l = Za4 ++ ZN → Zb5 = Za4.length → l.length ≤ maxLen → nL 34 Tryz.f78 [0, 1, 0] (.tup []) [(1000, (Zj.bx g2_c0)), (1001, [(none, .pt 1002 0)]), (1002, [(none, .rf 1003), (none, .rf 1004), ((some (3102, 9)), .sl (r.fout.map c_S))]), (1003, [(none, .ob 167 (r.fbound.map (Zv c_S Zg)))]), (1004, [(none, .ob 169 (r.fseen.map (Zv c_S c_B)))])] ⟨[(0, .c none (.rf 1003)), (1, .c none (.sl (l.map c_S))), (2, .c none (.cl 81 [] [.pt 1000 0, .pt 1001 0])), (10, .c none (.sl (l.map c_S))), (11, .c none (.v (.int .i64 ((l.length : Nat) : Int)))), (12, .c none (.v (.int .i64 ((Zb5 : Nat) : Int))))], [(1000, (Zj.bx g2_c0)), (1001, [(none, .pt 1002 0)]), (1002, [(none, .rf 1003), (none, .rf 1004), ((some (3102, 9)), .sl (g2_c1.fout.map c_S))]), (1003, [(none, .ob 167 (Zh.map (Zv c_S Zg)))]), (1004, [(none, .ob 169 (g2_c1.fseen.map (Zv c_S c_B)))])]⟩
def Zcg.M (v0_ : Zj) (v1_ : Zd) (r : Zd) : Prop :=
 Zq Tryz.prog 81 [.ptr 1000 0, .ptr 1001 0] [(1000, (Zj.bx v0_)), (1001, [(none, .pt 1002 0)]), (1002, [(none, .rf 1003), (none, .rf 1004), ((some (3102, 9)), .sl (v1_.fout.map c_S))]), (1003, [(none, .ob 167 (v1_.fbound.map (Zv c_S Zg)))]), (1004, [(none, .ob 169 (v1_.fseen.map (Zv c_S c_B)))])] (fun d b => d = .tup [] ∧ b = [(1000, (Zj.bx v0_)), (1001, [(none, .pt 1002 0)]), (1002, [(none, .rf 1003), (none, .rf 1004), ((some (3102, 9)), .sl (r.fout.map c_S))]), (1003, [(none, .ob 167 (r.fbound.map (Zv c_S Zg)))]), (1004, [(none, .ob 169 (r.fseen.map (Zv c_S c_B)))])])
def ZbR.M (v0_ : Zj) (x_7 : Nat) (Zaj : (List ByteArray)) (Zh : (List (ByteArray × Int))) (Zt : (List (ByteArray × Bool))) (Zd3 : (List Zf)) (r : Zd) : Prop :=
 ∀ Zf6 : List Zf, v0_.fAlts = Zf6 ++ Zd3 → x_7 = Zf6.length → v0_.fAlts.length ≤ maxLen → nL 20 Tryz.f81 [1, 0] (.tup []) [(1000, (Zj.bx v0_)), (1001, [(none, .pt 1002 0)]), (1002, [(none, .rf 1003), (none, .rf 1004), ((some (3102, 9)), .sl (r.fout.map c_S))]), (1003, [(none, .ob 167 (r.fbound.map (Zv c_S Zg)))]), (1004, [(none, .ob 169 (r.fseen.map (Zv c_S c_B)))])] ⟨[(1, .ptr 1001 0), (5, .c none (.sl (v0_.fAlts.map Zf.cells))), (6, .c none (.v (.int .i64 ((v0_.fAlts.length : Nat) : Int)))), (7, .c none (.v (.int .i64 ((x_7 : Nat) : Int))))], [(1000, (Zj.bx v0_)), (1001, [(none, .pt 1002 0)]), (1002, [(none, .rf 1003), (none, .rf 1004), ((some (3102, 9)), .sl (Zaj.map c_S))]), (1003, [(none, .ob 167 (Zh.map (Zv c_S Zg)))]), (1004, [(none, .ob 169 (Zt.map (Zv c_S c_B)))])]⟩
def Z8.M (l : (List ByteArray)) (g2_c0 : Zd) (g2_c1 : Zf) (r : Zd) : Prop :=
 Zq Tryz.prog 78 [.c none (.rf 1002), .c none (.sl (l.map c_S)), .c none (.cl 82 [] [.pt 1000 0, .pt 1004 0])] [(1000, [(none, .pt 1001 0)]), (1001, [(none, .rf 1002), (none, .rf 1003), ((some (3052, 9)), .sl (g2_c0.fout.map c_S))]), (1002, [(none, .ob 167 (g2_c0.fbound.map (Zv c_S Zg)))]), (1003, [(none, .ob 169 (g2_c0.fseen.map (Zv c_S c_B)))]), (1004, (Zf.bx g2_c1))] (fun d b => d = .tup [] ∧ b = [(1000, [(none, .pt 1001 0)]), (1001, [(none, .rf 1002), (none, .rf 1003), ((some (3052, 9)), .sl (r.fout.map c_S))]), (1002, [(none, .ob 167 (r.fbound.map (Zv c_S Zg)))]), (1003, [(none, .ob 169 (r.fseen.map (Zv c_S c_B)))]), (1004, (Zf.bx g2_c1))])
def ZW.M (l : (List ByteArray)) (Zb5 : Nat) (g2_c0 : Zd) (Zm : (List (ByteArray × Int))) (g2_c1 : Zf) (ZN : (List ByteArray)) (r : Zd) : Prop :=
 ∀ Za4 : List ByteArray, l = Za4 ++ ZN → Zb5 = Za4.length → l.length ≤ maxLen → nL 34 Tryz.f78 [0, 1, 0] (.tup []) [(1000, [(none, .pt 1001 0)]), (1001, [(none, .rf 1002), (none, .rf 1003), ((some (3052, 9)), .sl (r.fout.map c_S))]), (1002, [(none, .ob 167 (r.fbound.map (Zv c_S Zg)))]), (1003, [(none, .ob 169 (r.fseen.map (Zv c_S c_B)))]), (1004, (Zf.bx g2_c1))] ⟨[(0, .c none (.rf 1002)), (1, .c none (.sl (l.map c_S))), (2, .c none (.cl 82 [] [.pt 1000 0, .pt 1004 0])), (10, .c none (.sl (l.map c_S))), (11, .c none (.v (.int .i64 ((l.length : Nat) : Int)))), (12, .c none (.v (.int .i64 ((Zb5 : Nat) : Int))))], [(1000, [(none, .pt 1001 0)]), (1001, [(none, .rf 1002), (none, .rf 1003), ((some (3052, 9)), .sl (g2_c0.fout.map c_S))]), (1002, [(none, .ob 167 (Zm.map (Zv c_S Zg)))]), (1003, [(none, .ob 169 (g2_c0.fseen.map (Zv c_S c_B)))]), (1004, (Zf.bx g2_c1))]⟩
def ZbM.M (v0_ : Zd) (v1_ : Zf) (r : Zd) : Prop :=
 Zq Tryz.prog 82 [.ptr 1000 0, .ptr 1004 0] [(1000, [(none, .pt 1001 0)]), (1001, [(none, .rf 1002), (none, .rf 1003), ((some (3052, 9)), .sl (v0_.fout.map c_S))]), (1002, [(none, .ob 167 (v0_.fbound.map (Zv c_S Zg)))]), (1003, [(none, .ob 169 (v0_.fseen.map (Zv c_S c_B)))]), (1004, (Zf.bx v1_))] (fun d b => d = .tup [] ∧ b = [(1000, [(none, .pt 1001 0)]), (1001, [(none, .rf 1002), (none, .rf 1003), ((some (3052, 9)), .sl (r.fout.map c_S))]), (1002, [(none, .ob 167 (r.fbound.map (Zv c_S Zg)))]), (1003, [(none, .ob 169 (r.fseen.map (Zv c_S c_B)))]), (1004, (Zf.bx v1_))])
def Za0.M (l : (List ByteArray)) (g2_c0 : Zj) (g2_c1 : Zd) (r : Zd) : Prop :=
 Zq Tryz.prog 78 [.c none (.rf 1003), .c none (.sl (l.map c_S)), .c none (.cl 80 [] [.pt 1000 0, .pt 1001 0])] [(1000, (Zj.bx g2_c0)), (1001, [(none, .pt 1002 0)]), (1002, [(none, .rf 1003), (none, .rf 1004), ((some (3102, 9)), .sl (g2_c1.fout.map c_S))]), (1003, [(none, .ob 167 (g2_c1.fbound.map (Zv c_S Zg)))]), (1004, [(none, .ob 169 (g2_c1.fseen.map (Zv c_S c_B)))])] (fun d b => d = .tup [] ∧ b = [(1000, (Zj.bx g2_c0)), (1001, [(none, .pt 1002 0)]), (1002, [(none, .rf 1003), (none, .rf 1004), ((some (3102, 9)), .sl (r.fout.map c_S))]), (1003, [(none, .ob 167 (r.fbound.map (Zv c_S Zg)))]), (1004, [(none, .ob 169 (r.fseen.map (Zv c_S c_B)))])])
def Z4.M (l : (List ByteArray)) (Zb5 : Nat) (g2_c0 : Zj) (g2_c1 : Zd) (Zh : (List (ByteArray × Int))) (ZN : (List ByteArray)) (r : Zd) : Prop :=
 ∀ Za4 : List ByteArray, l = Za4 ++ ZN → Zb5 = Za4.length → l.length ≤ maxLen → nL 34 Tryz.f78 [0, 1, 0] (.tup []) [(1000, (Zj.bx g2_c0)), (1001, [(none, .pt 1002 0)]), (1002, [(none, .rf 1003), (none, .rf 1004), ((some (3102, 9)), .sl (r.fout.map c_S))]), (1003, [(none, .ob 167 (r.fbound.map (Zv c_S Zg)))]), (1004, [(none, .ob 169 (r.fseen.map (Zv c_S c_B)))])] ⟨[(0, .c none (.rf 1003)), (1, .c none (.sl (l.map c_S))), (2, .c none (.cl 80 [] [.pt 1000 0, .pt 1001 0])), (10, .c none (.sl (l.map c_S))), (11, .c none (.v (.int .i64 ((l.length : Nat) : Int)))), (12, .c none (.v (.int .i64 ((Zb5 : Nat) : Int))))], [(1000, (Zj.bx g2_c0)), (1001, [(none, .pt 1002 0)]), (1002, [(none, .rf 1003), (none, .rf 1004), ((some (3102, 9)), .sl (g2_c1.fout.map c_S))]), (1003, [(none, .ob 167 (Zh.map (Zv c_S Zg)))]), (1004, [(none, .ob 169 (g2_c1.fseen.map (Zv c_S c_B)))])]⟩
def Zci.M (v0_ : Zj) (v1_ : Zd) (r : Zd) : Prop :=
 Zq Tryz.prog 80 [.ptr 1000 0, .ptr 1001 0] [(1000, (Zj.bx v0_)), (1001, [(none, .pt 1002 0)]), (1002, [(none, .rf 1003), (none, .rf 1004), ((some (3102, 9)), .sl (v1_.fout.map c_S))]), (1003, [(none, .ob 167 (v1_.fbound.map (Zv c_S Zg)))]), (1004, [(none, .ob 169 (v1_.fseen.map (Zv c_S c_B)))])] (fun d b => d = .tup [] ∧ b = [(1000, (Zj.bx v0_)), (1001, [(none, .pt 1002 0)]), (1002, [(none, .rf 1003), (none, .rf 1004), ((some (3102, 9)), .sl (r.fout.map c_S))]), (1003, [(none, .ob 167 (r.fbound.map (Zv c_S Zg)))]), (1004, [(none, .ob 169 (r.fseen.map (Zv c_S c_B)))])])
def Zbx.M (v0_ : Zj) (x_7 : Nat) (Zaj : (List ByteArray)) (Zh : (List (ByteArray × Int))) (Zt : (List (ByteArray × Bool))) (Zd3 : (List Zj)) (r : Zd) : Prop :=
 ∀ Zf6 : List Zj, v0_.fKids = Zf6 ++ Zd3 → x_7 = Zf6.length → v0_.fKids.length ≤ maxLen → nL 15 Tryz.f80 [1, 0] (.tup []) [(1000, (Zj.bx v0_)), (1001, [(none, .pt 1002 0)]), (1002, [(none, .rf 1003), (none, .rf 1004), ((some (3102, 9)), .sl (r.fout.map c_S))]), (1003, [(none, .ob 167 (r.fbound.map (Zv c_S Zg)))]), (1004, [(none, .ob 169 (r.fseen.map (Zv c_S c_B)))])] ⟨[(1, .ptr 1001 0), (5, .c none (.sl (v0_.fKids.map Zj.cells))), (6, .c none (.v (.int .i64 ((v0_.fKids.length : Nat) : Int)))), (7, .c none (.v (.int .i64 ((x_7 : Nat) : Int))))], [(1000, (Zj.bx v0_)), (1001, [(none, .pt 1002 0)]), (1002, [(none, .rf 1003), (none, .rf 1004), ((some (3102, 9)), .sl (Zaj.map c_S))]), (1003, [(none, .ob 167 (Zh.map (Zv c_S Zg)))]), (1004, [(none, .ob 169 (Zt.map (Zv c_S c_B)))])]⟩
def Zau.M (l : (List ByteArray)) (g2_c0 : Zj) (g2_c1 : Zd) (r : Zd) : Prop :=
 Zq Tryz.prog 78 [.c none (.rf 1003), .c none (.sl (l.map c_S)), .c none (.cl 77 [] [.pt 1000 0, .pt 1001 0])] [(1000, (Zj.bx g2_c0)), (1001, [(none, .pt 1002 0)]), (1002, [(none, .rf 1003), (none, .rf 1004), ((some (3102, 9)), .sl (g2_c1.fout.map c_S))]), (1003, [(none, .ob 167 (g2_c1.fbound.map (Zv c_S Zg)))]), (1004, [(none, .ob 169 (g2_c1.fseen.map (Zv c_S c_B)))])] (fun d b => d = .tup [] ∧ b = [(1000, (Zj.bx g2_c0)), (1001, [(none, .pt 1002 0)]), (1002, [(none, .rf 1003), (none, .rf 1004), ((some (3102, 9)), .sl (r.fout.map c_S))]), (1003, [(none, .ob 167 (r.fbound.map (Zv c_S Zg)))]), (1004, [(none, .ob 169 (r.fseen.map (Zv c_S c_B)))])])
def Z5.M (l : (List ByteArray)) (Zb5 : Nat) (g2_c0 : Zj) (g2_c1 : Zd) (Zh : (List (ByteArray × Int))) (ZN : (List ByteArray)) (r : Zd) : Prop :=
 ∀ Za4 : List ByteArray, l = Za4 ++ ZN → Zb5 = Za4.length → l.length ≤ maxLen → nL 34 Tryz.f78 [0, 1, 0] (.tup []) [(1000, (Zj.bx g2_c0)), (1001, [(none, .pt 1002 0)]), (1002, [(none, .rf 1003), (none, .rf 1004), ((some (3102, 9)), .sl (r.fout.map c_S))]), (1003, [(none, .ob 167 (r.fbound.map (Zv c_S Zg)))]), (1004, [(none, .ob 169 (r.fseen.map (Zv c_S c_B)))])] ⟨[(0, .c none (.rf 1003)), (1, .c none (.sl (l.map c_S))), (2, .c none (.cl 77 [] [.pt 1000 0, .pt 1001 0])), (10, .c none (.sl (l.map c_S))), (11, .c none (.v (.int .i64 ((l.length : Nat) : Int)))), (12, .c none (.v (.int .i64 ((Zb5 : Nat) : Int))))], [(1000, (Zj.bx g2_c0)), (1001, [(none, .pt 1002 0)]), (1002, [(none, .rf 1003), (none, .rf 1004), ((some (3102, 9)), .sl (g2_c1.fout.map c_S))]), (1003, [(none, .ob 167 (Zh.map (Zv c_S Zg)))]), (1004, [(none, .ob 169 (g2_c1.fseen.map (Zv c_S c_B)))])]⟩
theorem Zo3 : (∀ f e r, Za5 f e = some r → Za5.M f e r) ∧ (∀ e Zac Zaa Zm r, Zc3 e Zac Zaa Zm = some r → Zc3.M e Zac Zaa Zm r) ∧ (∀ v0_ v1_ r, Zbn v0_ v1_ = some r → Zbn.M v0_ v1_ r) ∧ (∀ v0_ x_7 Zaj Zh Zt Zd3 r, ZbS v0_ x_7 Zaj Zh Zt Zd3 = some r → ZbS.M v0_ x_7 Zaj Zh Zt Zd3 r) ∧ (∀ l g2_c0 g2_c1 r, Z7 l g2_c0 g2_c1 = some r → Z7.M l g2_c0 g2_c1 r) ∧ (∀ l Zb5 g2_c0 Zm g2_c1 ZN r, ZX l Zb5 g2_c0 Zm g2_c1 ZN = some r → ZX.M l Zb5 g2_c0 Zm g2_c1 ZN r) ∧ (∀ v0_ v1_ r, ZbO v0_ v1_ = some r → ZbO.M v0_ v1_ r) ∧ (∀ r4 e Zac Zaa Zm r, Zch r4 e Zac Zaa Zm = some r → Zch.M r4 e Zac Zaa Zm r) ∧ (∀ ZpE e r8 r, Zc4 ZpE e r8 = some r → Zc4.M ZpE e r8 r) ∧ (∀ l g2_c0 g2_c1 r, ZaX l g2_c0 g2_c1 = some r → ZaX.M l g2_c0 g2_c1 r) ∧ (∀ l Zb5 g2_c0 g2_c1 Zh ZN r, Z3 l Zb5 g2_c0 g2_c1 Zh ZN = some r → Z3.M l Zb5 g2_c0 g2_c1 Zh ZN r) ∧ (∀ v0_ v1_ r, Zcg v0_ v1_ = some r → Zcg.M v0_ v1_ r) ∧ (∀ v0_ x_7 Zaj Zh Zt Zd3 r, ZbR v0_ x_7 Zaj Zh Zt Zd3 = some r → ZbR.M v0_ x_7 Zaj Zh Zt Zd3 r) ∧ (∀ l g2_c0 g2_c1 r, Z8 l g2_c0 g2_c1 = some r → Z8.M l g2_c0 g2_c1 r) ∧ (∀ l Zb5 g2_c0 Zm g2_c1 ZN r, ZW l Zb5 g2_c0 Zm g2_c1 ZN = some r → ZW.M l Zb5 g2_c0 Zm g2_c1 ZN r) ∧ (∀ v0_ v1_ r, ZbM v0_ v1_ = some r → ZbM.M v0_ v1_ r) ∧ (∀ l g2_c0 g2_c1 r, Za0 l g2_c0 g2_c1 = some r → Za0.M l g2_c0 g2_c1 r) ∧ (∀ l Zb5 g2_c0 g2_c1 Zh ZN r, Z4 l Zb5 g2_c0 g2_c1 Zh ZN = some r → Z4.M l Zb5 g2_c0 g2_c1 Zh ZN r) ∧ (∀ v0_ v1_ r, Zci v0_ v1_ = some r → Zci.M v0_ v1_ r) ∧ (∀ v0_ x_7 Zaj Zh Zt Zd3 r, Zbx v0_ x_7 Zaj Zh Zt Zd3 = some r → Zbx.M v0_ x_7 Zaj Zh Zt Zd3 r) ∧ (∀ l g2_c0 g2_c1 r, Zau l g2_c0 g2_c1 = some r → Zau.M l g2_c0 g2_c1 r) ∧ (∀ l Zb5 g2_c0 g2_c1 Zh ZN r, Z5 l Zb5 g2_c0 g2_c1 Zh ZN = some r → Z5.M l Zb5 g2_c0 g2_c1 Zh ZN r) := by
 refine Za5.mutual_partial_correctness Za5.M Zc3.M Zbn.M ZbS.M Z7.M ZX.M ZbO.M Zch.M Zc4.M ZaX.M Z3.M Zcg.M ZbR.M Z8.M ZW.M ZbM.M Za0.M Z4.M Zci.M Zbx.M Zau.M Z5.M ?_ ?_ ?_ ?_ ?_ ?_ ?_ ?_ ?_ ?_ ?_ ?_ ?_ ?_ ?_ ?_ ?_ ?_ ?_ ?_ ?_ ?_
 ·intro stg_finder_expr_k1' Zi0 f e r hF
  unfold Za5.M
  refine en Tryz.func43 ?_
  refine zbr hF (fun Zp1 hF => ?_) (fun Zp1 hF => ?_)
  ·obtain ⟨r16, Ztl, hF⟩ := bind_some hF
   refine zca [] zi3 [] (Zli Ztl) ?_
   refine st ?_
   exact zja (Zi0 _ _ _ _ _ hF)
  ·refine nw ?_
   exact zja (Zi0 _ _ _ _ _ hF)
 ·intro stg_finder_expr_1_' stg_finder_expr_k2' stg_scope_with_stg_finder_expr_1' Zgy Zi9 ZhS e Zac Zaa Zm r hF
  unfold Zc3.M nP
  obtain ⟨r3, hr3, hF⟩ := bind_some hF
  refine zca [] zi3 [] (ZoV hr3) ?_
  obtain ⟨r4, hr4, hF⟩ := bind_some hF
  refine zca [] [] [] (ZmK hr4) ?_
  refine zbr hF (fun Zfl hF => ?_) (fun Zfl hF => ?_)
  ·obtain ⟨r13, Zw6, hF⟩ := bind_some hF
   refine zcb [21] [(3, 1000), (2, 1001), (1000, 1002), (1001, 1003), (1002, 1004)] [] (rn [(3002, 3102)]) (ZhS _ _ _ _ Zw6) ?_
   refine st ?_
   exact zjr (rn [(21, 5), (3102, 3002)]) (Zi9 _ _ _ _ _ _ hF)
  ·obtain ⟨r14, Zqn, hF⟩ := bind_some hF
   refine zcb [] [(3, 1000), (2, 1001), (1000, 1002), (1001, 1003), (1002, 1004)] [] (rn [(3002, 3102)]) (Zgy _ _ _ Zqn) ?_
   refine st ?_
   exact zjr (rn [(21, 5), (3102, 3002)]) (Zi9 _ _ _ _ _ _ hF)
 ·intro stg_finder_expr_1__l1' ZfN v0_ v1_ r hF
  unfold Zbn.M
  refine en Tryz.func77 ?_
  refine zln fun hlen1 => ?_
  exact znl (ZfN _ _ _ _ _ _ _ hF ([]) rfl rfl hlen1)
 ·intro stg_finder_expr_1__l1' stg_scope_with_stg_finder_expr_1_1' ZfN Zhu v0_ x_7 Zaj Zh Zt Zd3 r hF
  unfold ZbS.M nL
  intro Zf6 Zkp ZkQ hlen1
  refine AWL.step ?_
  refine zbl Zkp ZkQ (fun x13 Zrv ZpH ZwM ZDV => ?_) (fun ZpH => ?_)
  ·subst ZpH
   refine zsr (Zr (f := Za.cells) (Za.cells_eq x13) ZwM) ?_
   obtain ⟨r17, Zt1, hF⟩ := bind_some hF
   refine zdo 7 [11, 12, 13, 14, 15, 16, 17] [127, 126, 124, 120, 127, 111, 127] ?_
   refine zdp ?_
   refine zcb [] [(1001, 1000), (1002, 1001), (1003, 1002), (1004, 1003), (3, 1004)] [] (rn [(3102, 3052)]) (Zhu _ _ _ _ Zt1) ?_
   exact znr (rn [(3052, 3102)]) (ZfN _ _ _ _ _ _ _ hF _ (zlh Zkp) (zlk ZkQ) hlen1)
  ·subst ZpH
   obtain rfl := Ze hF
   exact zre zi5
 ·intro stg_scope_with_stg_finder_expr_1_1_l1' Zdh l g2_c0 g2_c1 r hF
  unfold Z7.M
  refine en Tryz.func78 ?_
  refine zln fun hlen14 => ?_
  exact znl (Zdh _ _ _ _ _ _ _ hF ([]) rfl rfl hlen14)
 ·intro stg_scope_with_stg_finder_expr_1_1_l1' stg_finder_expr_1_1_' Zdh Zl8 l Zb5 g2_c0 Zm g2_c1 ZN r hF
  unfold ZX.M nL
  intro Za4 ZcV ZcW hlen14
  refine AWL.step ?_
  refine zbl ZcV ZcW (fun x24 Zhi Ze7 Zkm Zsy => ?_) (fun Ze7 => ?_)
  ·subst Ze7
   refine zsr (Zr (f := c_S) rfl Zkm) ?_
   obtain ⟨r27, Zks, hF⟩ := bind_some hF
   refine zgo ?_
   refine Zcr (m := Zm) (k := x24) ZaN (ev := Zg) Zks rfl (fun x => Zbl x) rfl rfl (lc Zn) (zgo ?_)
   exact ZdG (m := Zm) (k := x24) (v := (IntKind.i64.wrap (r27.1 + 1))) ZaN (ev := Zg) (lc Zn) (znl (Zdh _ _ _ _ _ _ _ hF _ (zlh ZcV) (zlk ZcW) hlen14))
  ·subst Ze7
   obtain ⟨r28, ZjQ, hF⟩ := bind_some hF
   refine zca [] zi5 [] (Zl8 _ _ _ ZjQ) ?_
   refine zln fun hlen29 => ?_
   exact znl (Zgx hF ([]) rfl rfl hlen29)
 ·intro stg_finder_expr' Ze8 v0_ v1_ r hF
  unfold ZbO.M
  refine en Tryz.func79 ?_
  obtain ⟨r1, hr1, hF⟩ := bind_some hF
  refine zcb [] [(1001, 1000), (1002, 1001), (1003, 1002)] [] (rn [(3052, 3002)]) (Ze8 _ _ _ hr1) ?_
  obtain rfl := Ze hF
  exact zrg zi5 (rn [(3002, 3052)])
 ·intro stg_finder_expr_k3' stg_scope_with_stg_finder_expr_2' Zi1 ZhW r4 e Zac Zaa Zm r hF
  unfold Zch.M nP
  obtain ⟨r8, hr8, hF⟩ := bind_some hF
  refine zcb [5] [(3, 1000), (2, 1001), (1000, 1002), (1001, 1003), (1002, 1004)] [] (rn [(3002, 3102)]) (ZhW _ _ _ _ hr8) ?_
  refine zbr hF (fun Zeo hF => ?_) (fun Zeo hF => ?_)
  ·refine zgo ?_
   refine ea (ZH (f := c_S) (lc Zn) (Zp (f := c_S))) (st ?_)
   exact zjr (rn [(45, 6), (3102, 3002)]) (Zi1 _ _ _ _ hF)
  ·refine nw ?_
   exact zjr (rn [(3102, 3002)]) (Zi1 _ _ _ _ hF)
 ·intro stg_scope_with_stg_finder_expr_3' Zh1 ZpE e r8 r hF
  unfold Zc4.M nP
  obtain ⟨r10, ZuQ, hF⟩ := bind_some hF
  refine zcb [6] [(3, 1000), (2, 1001), (1000, 1002), (1001, 1003), (1002, 1004)] [] (rn [(3002, 3102)]) (Zh1 _ _ _ _ ZuQ) ?_
  obtain rfl := Ze hF
  exact zrg zi3 (rn [(3102, 3002)])
 ·intro stg_scope_with_stg_finder_expr_3_l1' Zdv l g2_c0 g2_c1 r hF
  unfold ZaX.M
  refine en Tryz.func78 ?_
  refine zln fun hlen14 => ?_
  exact znl (Zdv _ _ _ _ _ _ _ hF ([]) rfl rfl hlen14)
 ·intro stg_scope_with_stg_finder_expr_3_l1' stg_finder_expr_3_' Zdv Znz l Zb5 g2_c0 g2_c1 Zh ZN r hF
  unfold Z3.M nL
  intro Za4 ZcV ZcW hlen14
  refine AWL.step ?_
  refine zbl ZcV ZcW (fun x24 Zhi Ze7 Zkm Zsy => ?_) (fun Ze7 => ?_)
  ·subst Ze7
   refine zsr (Zr (f := c_S) rfl Zkm) ?_
   obtain ⟨r27, Zks, hF⟩ := bind_some hF
   refine zgo ?_
   refine Zcr (m := Zh) (k := x24) ZaN (ev := Zg) Zks rfl (fun x => Zbl x) rfl rfl (lc Zn) (zgo ?_)
   exact ZdG (m := Zh) (k := x24) (v := (IntKind.i64.wrap (r27.1 + 1))) ZaN (ev := Zg) (lc Zn) (znl (Zdv _ _ _ _ _ _ _ hF _ (zlh ZcV) (zlk ZcW) hlen14))
  ·subst Ze7
   obtain ⟨r28, ZjQ, hF⟩ := bind_some hF
   refine zca [] zi5 [] (Znz _ _ _ ZjQ) ?_
   refine zln fun hlen29 => ?_
   exact znl (Zhn hF ([]) rfl rfl hlen29)
 ·intro stg_finder_expr_3__l1' ZfJ v0_ v1_ r hF
  unfold Zcg.M
  refine en Tryz.func81 ?_
  refine zln fun hlen1 => ?_
  exact znl (ZfJ _ _ _ _ _ _ _ hF ([]) rfl rfl hlen1)
 ·intro stg_finder_expr_3__l1' stg_scope_with_stg_finder_expr_3_1' ZfJ ZhA v0_ x_7 Zaj Zh Zt Zd3 r hF
  unfold ZbR.M nL
  intro Zf6 Zkp ZkQ hlen1
  refine AWL.step ?_
  refine zbl Zkp ZkQ (fun x13 Zrv ZpH ZwM ZDV => ?_) (fun ZpH => ?_)
  ·subst ZpH
   refine zsr (Zr (f := Zf.cells) (Zf.cells_eq x13) ZwM) ?_
   obtain ⟨r17, Zt1, hF⟩ := bind_some hF
   refine zdo 7 [11, 12, 13, 14, 15, 16, 17] [127, 126, 124, 120, 127, 111, 127] ?_
   refine zdp ?_
   refine zcb [] [(1001, 1000), (1002, 1001), (1003, 1002), (1004, 1003), (3, 1004)] [] (rn [(3102, 3052)]) (ZhA _ _ _ _ Zt1) ?_
   exact znr (rn [(3052, 3102)]) (ZfJ _ _ _ _ _ _ _ hF _ (zlh Zkp) (zlk ZkQ) hlen1)
  ·subst ZpH
   obtain rfl := Ze hF
   exact zre zi5
 ·intro stg_scope_with_stg_finder_expr_3_1_l1' Zdj l g2_c0 g2_c1 r hF
  unfold Z8.M
  refine en Tryz.func78 ?_
  refine zln fun hlen14 => ?_
  exact znl (Zdj _ _ _ _ _ _ _ hF ([]) rfl rfl hlen14)
 ·intro stg_scope_with_stg_finder_expr_3_1_l1' stg_finder_expr_3_1_' Zdj ZlT l Zb5 g2_c0 Zm g2_c1 ZN r hF
  unfold ZW.M nL
  intro Za4 ZcV ZcW hlen14
  refine AWL.step ?_
  refine zbl ZcV ZcW (fun x24 Zhi Ze7 Zkm Zsy => ?_) (fun Ze7 => ?_)
  ·subst Ze7
   refine zsr (Zr (f := c_S) rfl Zkm) ?_
   obtain ⟨r27, Zks, hF⟩ := bind_some hF
   refine zgo ?_
   refine Zcr (m := Zm) (k := x24) ZaN (ev := Zg) Zks rfl (fun x => Zbl x) rfl rfl (lc Zn) (zgo ?_)
   exact ZdG (m := Zm) (k := x24) (v := (IntKind.i64.wrap (r27.1 + 1))) ZaN (ev := Zg) (lc Zn) (znl (Zdj _ _ _ _ _ _ _ hF _ (zlh ZcV) (zlk ZcW) hlen14))
  ·subst Ze7
   obtain ⟨r28, ZjQ, hF⟩ := bind_some hF
   refine zca [] zi5 [] (ZlT _ _ _ ZjQ) ?_
   refine zln fun hlen29 => ?_
   exact znl (ZgS hF ([]) rfl rfl hlen29)
 ·intro stg_finder_expr' Ze8 v0_ v1_ r hF
  unfold ZbM.M
  refine en Tryz.func82 ?_
  obtain ⟨r1, hr1, hF⟩ := bind_some hF
  refine zcb [] [(1001, 1000), (1002, 1001), (1003, 1002)] [] (rn [(3052, 3002)]) (Ze8 _ _ _ hr1) ?_
  obtain rfl := Ze hF
  exact zrg zi5 (rn [(3002, 3052)])
 ·intro stg_scope_with_stg_finder_expr_2_l1' Zdz l g2_c0 g2_c1 r hF
  unfold Za0.M
  refine en Tryz.func78 ?_
  refine zln fun hlen14 => ?_
  exact znl (Zdz _ _ _ _ _ _ _ hF ([]) rfl rfl hlen14)
 ·intro stg_scope_with_stg_finder_expr_2_l1' stg_finder_expr_2_' Zdz Znn l Zb5 g2_c0 g2_c1 Zh ZN r hF
  unfold Z4.M nL
  intro Za4 ZcV ZcW hlen14
  refine AWL.step ?_
  refine zbl ZcV ZcW (fun x24 Zhi Ze7 Zkm Zsy => ?_) (fun Ze7 => ?_)
  ·subst Ze7
   refine zsr (Zr (f := c_S) rfl Zkm) ?_
   obtain ⟨r27, Zks, hF⟩ := bind_some hF
   refine zgo ?_
   refine Zcr (m := Zh) (k := x24) ZaN (ev := Zg) Zks rfl (fun x => Zbl x) rfl rfl (lc Zn) (zgo ?_)
   exact ZdG (m := Zh) (k := x24) (v := (IntKind.i64.wrap (r27.1 + 1))) ZaN (ev := Zg) (lc Zn) (znl (Zdz _ _ _ _ _ _ _ hF _ (zlh ZcV) (zlk ZcW) hlen14))
  ·subst Ze7
   obtain ⟨r28, ZjQ, hF⟩ := bind_some hF
   refine zca [] zi5 [] (Znn _ _ _ ZjQ) ?_
   refine zln fun hlen29 => ?_
   exact znl (Zhm hF ([]) rfl rfl hlen29)
 ·intro stg_finder_expr_2__l1' ZfP v0_ v1_ r hF
  unfold Zci.M
  refine en Tryz.func80 ?_
  refine zln fun hlen1 => ?_
  exact znl (ZfP _ _ _ _ _ _ _ hF ([]) rfl rfl hlen1)
 ·intro stg_finder_expr' stg_finder_expr_2__l1' Ze8 ZfP v0_ x_7 Zaj Zh Zt Zd3 r hF
  unfold Zbx.M nL
  intro Zf6 Zkp ZkQ hlen1
  refine AWL.step ?_
  refine zbl Zkp ZkQ (fun x11 Zwo Zsu ZzU ZFM => ?_) (fun Zsu => ?_)
  ·subst Zsu
   refine zsr (Zr (f := Zj.cells) (Zj.cells_eq x11) ZzU) ?_
   obtain ⟨r14, Zqn, hF⟩ := bind_some hF
   refine zcb [] [(1002, 1000), (1003, 1001), (1004, 1002)] [] (rn [(3102, 3002)]) (Ze8 _ _ _ Zqn) ?_
   exact znr (rn [(3002, 3102)]) (ZfP _ _ _ _ _ _ _ hF _ (zlh Zkp) (zlk ZkQ) hlen1)
  ·subst Zsu
   obtain rfl := Ze hF
   exact zre zi5
 ·intro stg_scope_with_stg_finder_expr_1_l1' Zdw l g2_c0 g2_c1 r hF
  unfold Zau.M
  refine en Tryz.func78 ?_
  refine zln fun hlen14 => ?_
  exact znl (Zdw _ _ _ _ _ _ _ hF ([]) rfl rfl hlen14)
 ·intro stg_finder_expr_1_' stg_scope_with_stg_finder_expr_1_l1' Zgy Zdw l Zb5 g2_c0 g2_c1 Zh ZN r hF
  unfold Z5.M nL
  intro Za4 ZcV ZcW hlen14
  refine AWL.step ?_
  refine zbl ZcV ZcW (fun x24 Zhi Ze7 Zkm Zsy => ?_) (fun Ze7 => ?_)
  ·subst Ze7
   refine zsr (Zr (f := c_S) rfl Zkm) ?_
   obtain ⟨r27, Zks, hF⟩ := bind_some hF
   refine zgo ?_
   refine Zcr (m := Zh) (k := x24) ZaN (ev := Zg) Zks rfl (fun x => Zbl x) rfl rfl (lc Zn) (zgo ?_)
   exact ZdG (m := Zh) (k := x24) (v := (IntKind.i64.wrap (r27.1 + 1))) ZaN (ev := Zg) (lc Zn) (znl (Zdw _ _ _ _ _ _ _ hF _ (zlh ZcV) (zlk ZcW) hlen14))
  ·subst Ze7
   obtain ⟨r28, ZjQ, hF⟩ := bind_some hF
   refine zca [] zi5 [] (Zgy _ _ _ ZjQ) ?_
   refine zln fun hlen29 => ?_
   exact znl (Zha hF ([]) rfl rfl hlen29)
theorem Zkk {f e r} (h : Za5 f e = some r) : Za5.M f e r := Zo3.1 _ _ _ h

def ZfE (e : Zj) : Option ((List ByteArray)) :=
 Za5 (Zd.mk ([] : List (ByteArray × Int)) ([] : List (ByteArray × Bool)) ([] : List ByteArray)) e >>= fun r1 =>
 some r1.fout
def ZfE.M (e : Zj) (r : (List ByteArray)) : Prop :=
 Zq Tryz.prog 18 [.agg (Zj.fl e)] [] (fun d b => d = .c (some (0, 9)) (.sl (r.map c_S)) ∧ b = [])
theorem Zra {e r} (hF : ZfE e = some r) : ZfE.M e r := by
 unfold ZfE at hF
 unfold ZfE.M
 refine en Tryz.func18 ?_
 obtain ⟨r1, hr1, hF⟩ := bind_some hF
 refine zca [] [(7, 1000), (4, 1001), (5, 1002)] [] (Zkk hr1) ?_
 obtain rfl := Ze hF
 exact zrg [] (rn [(3002, 0)])

mutual
def ZcY (e : Zj) : Option (Int) :=
 ZdK (IntKind.i64.wrap (1 + ((e.fArgs.length : Nat) : Int))) e 0 e.fBinds
 partial_fixpoint
def ZdK (n_3 : Int) (e : Zj) (Zgp : Nat) (Zc5 : (List Za)) : Option (Int) :=
 (match Zc5 with
 | x25 :: ZzY =>
 ZcY x25.fBody >>= fun r28 =>
 ZdK (IntKind.i64.wrap (n_3 + (IntKind.i64.wrap (1 + r28)))) e (Zgp + 1) ZzY
 | [] =>
 ZdO n_3 e 0 e.fAlts)
 partial_fixpoint
def ZdO (n_3 : Int) (e : Zj) (Zvz : Nat) (Zmo : (List Zf)) : Option (Int) :=
 (match Zmo with
 | x52 :: ZGi =>
 ZcY x52.fBody >>= fun r55 =>
 ZdO (IntKind.i64.wrap (n_3 + (IntKind.i64.wrap (1 + r55)))) e (Zvz + 1) ZGi
 | [] =>
 ZdP n_3 e 0 e.fKids)
 partial_fixpoint
def ZdP (n_3 : Int) (e : Zj) (Zwu : Nat) (ZmX : (List Zj)) : Option (Int) :=
 (match ZmX with
 | x66 :: ZFn =>
 ZcY x66 >>= fun r69 =>
 ZdP (IntKind.i64.wrap (n_3 + r69)) e (Zwu + 1) ZFn
 | [] =>
 some n_3)
 partial_fixpoint
end
def ZcY.M (e : Zj) (r : Int) : Prop :=
 Zq Tryz.prog 20 [.agg (Zj.fl e)] [] (fun d b => d = .c none (.v (.int .i64 r)) ∧ b = [])
def ZdK.M (n_3 : Int) (e : Zj) (Zgp : Nat) (Zc5 : (List Za)) (r : Int) : Prop :=
 ∀ Zfb : List Za, e.fBinds = Zfb ++ Zc5 → Zgp = Zfb.length → e.fArgs.length ≤ maxLen → e.fBinds.length ≤ maxLen → nL 55 Tryz.f20 [1, 1, 0, 1, 0] (.c none (.v (.int .i64 r))) [] ⟨[(1, .ptr 1 0), (3, .c none (.v (.int .i64 n_3))), (15, .c none (.sl (e.fBinds.map Za.cells))), (16, .c none (.v (.int .i64 ((e.fBinds.length : Nat) : Int)))), (17, .c none (.v (.int .i64 ((Zgp : Nat) : Int))))], [(1, (Zj.bx e))]⟩
def ZdO.M (n_3 : Int) (e : Zj) (Zvz : Nat) (Zmo : (List Zf)) (r : Int) : Prop :=
 ∀ ZsT : List Zf, e.fAlts = ZsT ++ Zmo → Zvz = ZsT.length → e.fArgs.length ≤ maxLen → e.fBinds.length ≤ maxLen → e.fAlts.length ≤ maxLen → nL 55 Tryz.f20 [1, 1, 1, 0, 1, 0] (.c none (.v (.int .i64 r))) [] ⟨[(1, .ptr 1 0), (3, .c none (.v (.int .i64 n_3))), (29, .c none (.sl (e.fAlts.map Zf.cells))), (30, .c none (.v (.int .i64 ((e.fAlts.length : Nat) : Int)))), (31, .c none (.v (.int .i64 ((Zvz : Nat) : Int))))], [(1, (Zj.bx e))]⟩
def ZdP.M (n_3 : Int) (e : Zj) (Zwu : Nat) (ZmX : (List Zj)) (r : Int) : Prop :=
 ∀ Ztd : List Zj, e.fKids = Ztd ++ ZmX → Zwu = Ztd.length → e.fArgs.length ≤ maxLen → e.fBinds.length ≤ maxLen → e.fAlts.length ≤ maxLen → e.fKids.length ≤ maxLen → nL 55 Tryz.f20 [1, 1, 1, 1, 0, 1, 0] (.c none (.v (.int .i64 r))) [] ⟨[(3, .c none (.v (.int .i64 n_3))), (43, .c none (.sl (e.fKids.map Zj.cells))), (44, .c none (.v (.int .i64 ((e.fKids.length : Nat) : Int)))), (45, .c none (.v (.int .i64 ((Zwu : Nat) : Int))))], []⟩
theorem ZuF : (∀ e r, ZcY e = some r → ZcY.M e r) ∧ (∀ n_3 e Zgp Zc5 r, ZdK n_3 e Zgp Zc5 = some r → ZdK.M n_3 e Zgp Zc5 r) ∧ (∀ n_3 e Zvz Zmo r, ZdO n_3 e Zvz Zmo = some r → ZdO.M n_3 e Zvz Zmo r) ∧ (∀ n_3 e Zwu ZmX r, ZdP n_3 e Zwu ZmX = some r → ZdP.M n_3 e Zwu ZmX r) := by
 refine ZcY.mutual_partial_correctness ZcY.M ZdK.M ZdO.M ZdP.M ?_ ?_ ?_ ?_
 ·intro stg_Size_l1' Zkh e r hF
  unfold ZcY.M
  refine en Tryz.func20 ?_
  refine zln fun hlen1 => ?_
  refine zln fun hlen15 => ?_
  exact znl (Zkh _ _ _ _ _ hF ([]) rfl rfl hlen1 hlen15)
 ·intro stg_Size' stg_Size_l1' stg_Size_l2' Zjy Zkh Zky n_3 e Zgp Zc5 r hF
  unfold ZdK.M nL
  intro Zfb ZiT ZiI hlen1 hlen15
  refine AWL.step ?_
  refine zbl ZiT ZiI (fun x25 ZzY Zw9 ZuP ZJt => ?_) (fun Zw9 => ?_)
  ·subst Zw9
   refine zsr (Zr (f := Za.cells) (Za.cells_eq x25) ZuP) ?_
   obtain ⟨r28, ZjQ, hF⟩ := bind_some hF
   refine zca [] [] [] (Zjy _ _ ZjQ) ?_
   exact znl (Zkh _ _ _ _ _ hF _ (zlh ZiT) (zlk ZiI) hlen1 hlen15)
  ·subst Zw9
   refine zln fun hlen42 => ?_
   exact znl (Zky _ _ _ _ _ hF ([]) rfl rfl hlen1 hlen15 hlen42)
 ·intro stg_Size' stg_Size_l2' stg_Size_l3' Zjy Zky ZkG n_3 e Zvz Zmo r hF
  unfold ZdO.M nL
  intro ZsT Zx5 Zx0 hlen1 hlen15 hlen42
  refine AWL.step ?_
  refine zbl Zx5 Zx0 (fun x52 ZGi ZCK ZJi hl54 => ?_) (fun ZCK => ?_)
  ·subst ZCK
   refine zsr (Zr (f := Zf.cells) (Zf.cells_eq x52) ZJi) ?_
   obtain ⟨r55, ZDl, hF⟩ := bind_some hF
   refine zca [] [] [] (Zjy _ _ ZDl) ?_
   exact znl (Zky _ _ _ _ _ hF _ (zlh Zx5) (zlk Zx0) hlen1 hlen15 hlen42)
  ·subst ZCK
   refine zln fun hlen56 => ?_
   exact znl (ZkG _ _ _ _ _ hF ([]) rfl rfl hlen1 hlen15 hlen42 hlen56)
 ·intro stg_Size' stg_Size_l3' Zjy ZkG n_3 e Zwu ZmX r hF
  unfold ZdP.M nL
  intro Ztd ZxT ZxB hlen1 hlen15 hlen42 hlen56
  refine AWL.step ?_
  refine zbl ZxT ZxB (fun x66 ZFn ZEl ZJm hl68 => ?_) (fun ZEl => ?_)
  ·subst ZEl
   refine zsr (Zr (f := Zj.cells) (Zj.cells_eq x66) ZJm) ?_
   obtain ⟨r69, ZwI, hF⟩ := bind_some hF
   refine zca [] [] [] (Zjy _ _ ZwI) ?_
   exact znl (ZkG _ _ _ _ _ hF _ (zlh ZxT) (zlk ZxB) hlen1 hlen15 hlen42 hlen56)
  ·subst ZEl
   obtain rfl := Ze hF
   exact zre []
theorem Zq6 {e r} (h : ZcY e = some r) : ZcY.M e r := ZuF.1 _ _ h

def ZbE (s : ByteArray) (i_3 : Nat) : Option (Bool) :=
 if (decide (((i_3 : Nat) : Int) < ((s.size : Nat) : Int))) = true then
 (btI s ((i_3 : Nat) : Int)) >>= fun y21 =>
 (if (decide (((y21.toNat : Nat) : Int) < 33)) = true then some true else (btI s ((i_3 : Nat) : Int)) >>= fun y22 =>
 some (decide (((y22.toNat : Nat) : Int) > 126))) >>= fun c23 =>
 if c23 = true then
 some false
 else
 ZaK (i_3 + 1 ≤ 9223372036854775807) >>= fun _ =>
 ZbE s (i_3 + 1)
 else
 some true
 partial_fixpoint
def ZbE.M (s : ByteArray) (i_3 : Nat) (r : Bool) : Prop :=
 nL 35 Tryz.f123 [1, 1, 0, 1, 0] (.c none (.v (.bool r))) [] ⟨[(0, .c none (.v (.string s))), (3, .c none (.v (.int .i64 ((i_3 : Nat) : Int))))], []⟩
theorem ZmY (s : ByteArray) : ∀ i_3 r, ZbE s i_3 = some r → ZbE.M s i_3 r := by
 refine ZbE.partial_correctness s (ZbE.M s) ?_
 intro lazycref36_Name_l1' Zny i_3 r hF
 unfold ZbE.M nL
 refine AWL.step ?_
 refine zbr hF (fun ZmL hF => ?_) (fun ZmL hF => ?_)
 ·obtain ⟨y21, ZHr, ZED, hF⟩ := ZrO hF
  obtain ⟨c23, Zh4, hF⟩ := bind_some hF
  refine nw ?_
  refine sq (bk ?_)
  refine sq ?_
  refine zck [0, 3] [] [(34, .c none (.v (.bool c23)))] ?_ ?_
  ·refine zsr ZED ?_
   refine zbf (fun ZjD => ?_) (fun ZjD => ?_)
   ·have Zh4 := ift ZjD Zh4
    obtain rfl := Ze Zh4
    refine zgo ?_
    exact zwe
   ·have Zh4 := ife ZjD Zh4
    obtain ⟨y22, ZE9, ZDB, Zh4⟩ := ZrO Zh4
    refine zsr ZDB ?_
    obtain rfl := Ze Zh4
    refine zgo ?_
    exact zwe
  refine zbr hF (fun Znk hF => ?_) (fun Znk hF => ?_)
  ·obtain rfl := Ze hF
   exact zre []
  ·obtain ⟨ZAJ, hF⟩ := Zx hF
   refine zgo ?_
   exact lv (rn []) (Zny _ _ hF) (WS.mk (tc (ZcI (Zc7 (ZeC (Zn8 ZAJ))) ZcZ)) Zc6)
 ·obtain rfl := Ze hF
  exact zre []
theorem Znm {s i_3 r} (h : ZbE s i_3 = some r) : ZbE.M s i_3 r := (ZmY s) _ _ h

def ZbU (s : ByteArray) : Option (Bool) :=
 if ((((s.toList == (ByteArray.mk #[]).toList) || (decide (((s.size : Nat) : Int) > 158))) || (s.toList == (ByteArray.mk #[40]).toList)) || (s.toList == (ByteArray.mk #[41]).toList)) = true then
 some false
 else
 ZbE s 0
def ZbU.M (s : ByteArray) (r : Bool) : Prop :=
 Zq Tryz.prog 123 [.c none (.v (.string s))] [] (fun d b => d = .c none (.v (.bool r)) ∧ b = [])
theorem Zd0 {s r} (hF : ZbU s = some r) : ZbU.M s r := by
 unfold ZbU at hF
 unfold ZbU.M
 refine en Tryz.func123 ?_
 refine ns ?_
 refine sq (sq ?_)
 refine zck [0] [] [(18, .c none (.v (.bool ((((s.toList == (ByteArray.mk #[]).toList) || (decide (((s.size : Nat) : Int) > 158))) || (s.toList == (ByteArray.mk #[40]).toList)) || (s.toList == (ByteArray.mk #[41]).toList)))))] ?_ ?_
 ·exact zpt
 refine zbr hF (fun hc5 hF => ?_) (fun hc5 hF => ?_)
 ·obtain rfl := Ze hF
  exact zre []
 ·exact znl (Znm hF)

def Zas (l : (List ByteArray)) (i_3 : Nat) (ZdR : (List ByteArray)) : Option (Bool) :=
 (match ZdR with
 | x38 :: ZH5 =>
 ZbU x38 >>= fun r45 =>
 (if (!r45) = true then some true else (slL l ((0 : Nat) : Int) ((i_3 : Nat) : Int)) >>= fun z46 =>
 Zc9 z46 x38 >>= fun r47 =>
 some r47) >>= fun c48 =>
 if c48 = true then
 some false
 else
 Zas l (i_3 + 1) ZH5
 | [] =>
 some true)
 partial_fixpoint
def Zas.M (l : (List ByteArray)) (i_3 : Nat) (ZdR : (List ByteArray)) (r : Bool) : Prop :=
 ∀ ZiQ : List ByteArray, l = ZiQ ++ ZdR → i_3 = ZiQ.length → nL 26 Tryz.f89 [1, 0, 1, 0] (.c none (.v (.bool r))) [] ⟨[(0, .c none (.sl (l.map c_S))), (3, .c none (.v (.int .i64 ((i_3 : Nat) : Int))))], []⟩
theorem ZkD (l : (List ByteArray)) : ∀ i_3 ZdR r, Zas l i_3 ZdR = some r → Zas.M l i_3 ZdR r := by
 refine Zas.partial_correctness l (Zas.M l) ?_
 intro lazycref36_distinct_l1' ZkS i_3 ZdR r hF
 unfold Zas.M nL
 intro ZiQ Zoc Zon
 refine AWL.step ?_
 refine zln fun hlen37 => ?_
 refine zbl Zoc Zon (fun x38 ZH5 ZDK ZDq hl40 => ?_) (fun ZDK => ?_)
 ·subst ZDK
  obtain ⟨r45, ZJy, hF⟩ := bind_some hF
  obtain ⟨c48, ZtU, hF⟩ := bind_some hF
  refine nw ?_
  refine sq (bk ?_)
  refine sq ?_
  refine zck [0, 3] [] [(25, .c none (.v (.bool c48)))] ?_ ?_
  ·refine zdo 14 [10, 11, 12, 13, 14, 15, 16, 17, 18, 19, 20, 21, 22, 23] [16383, 16383, 16380, 16376, 16368, 16352, 16320, 16256, 16256, 15872, 16256, 16256, 13184, 9088] ?_
   refine dp ?_
   refine dp ?_
   refine dr (Zr rfl ZDq) ?_
   refine dp ?_
   (refine st ?_; apply Exists.intro; apply Exists.intro; apply an; (focus ((conv => whnf); refine Exists.intro [] ?_; (conv => whnf); refine an rfl ?_; (conv => whnf); refine Zq.mono (Zq.weak (rn []) (Zd0 ZJy) rfl (WS.mk (tc ZcZ) Zc6)) ?_; rintro d b ⟨rfl, rfl⟩; exact an rfl (an rfl rfl))); apply an; (focus exact rfl); (conv => whnf))
   refine zdp ?_
   refine zbf (fun ZDG => ?_) (fun ZDG => ?_)
   ·have ZtU := ift ZDG ZtU
    obtain rfl := Ze ZtU
    refine zgo ?_
    exact zwe
   ·have ZtU := ife ZDG ZtU
    obtain ⟨z46, ZGl, ZGb, ZEJ, ZIw, ZtU⟩ := ZzW ZtU
    obtain ⟨r47, ZJK, ZtU⟩ := bind_some ZtU
    refine zgo ?_
    refine dp ?_
    refine dp ?_
    (refine st ?_; apply Exists.intro; apply Exists.intro; apply an; (focus (((repeat (first | ((conv => whnf); (with_reducible refine an ?_ ?_); (focus (first | exact Eq.refl _ | exact trivial | (with_reducible assumption) | (with_reducible exact Int.natCast_nonneg _) | exact Nat.le_of_ble_eq_true (Eq.refl true) | exact ZcL (Eq.refl _) (Eq.refl _) (Eq.refl _) | decide))))); (conv => whnf)) <;> ((repeat (first | ((conv => whnf); (with_reducible refine an ?_ ?_); (focus (first | exact Eq.refl _ | exact trivial | (with_reducible assumption) | (with_reducible exact Int.natCast_nonneg _) | exact Nat.le_of_ble_eq_true (Eq.refl true) | exact ZcL (Eq.refl _) (Eq.refl _) (Eq.refl _) | decide))) | (with_reducible refine an (by have h1 := ZGl; have h2 := ZGb; have h3 := ZEJ; simp only [lm] at h1 h2 h3 ⊢; omega) ?_))); refine an (Zaf _ (fun x => Zbb x)) (an rfl ?_); rw [ZwB ZIw]) <;> ((repeat (first | ((conv => whnf); (with_reducible refine an ?_ ?_); (focus (first | exact Eq.refl _ | exact trivial | (with_reducible assumption) | (with_reducible exact Int.natCast_nonneg _) | exact Nat.le_of_ble_eq_true (Eq.refl true) | exact ZcL (Eq.refl _) (Eq.refl _) (Eq.refl _) | decide))))); (conv => whnf)) <;> (exact rfl))); apply an; (focus exact rfl); (conv => whnf))
    refine dp ?_
    refine dp ?_
    refine dr (Zr rfl ZDq) ?_
    refine zdp ?_
    refine zca [] [] [] (ZgV ZJK) ?_
    obtain rfl := Ze ZtU
    refine zgo ?_
    exact zwe
  refine zbr hF (fun ZzF hF => ?_) (fun ZzF hF => ?_)
  ·obtain rfl := Ze hF
   exact zre []
  ·exact znl (ZkS _ _ _ hF _ (zlh Zoc) (zlk Zon))
 ·subst ZDK
  obtain rfl := Ze hF
  exact zre []
theorem ZkZ {l i_3 ZdR r} (h : Zas l i_3 ZdR = some r) : Zas.M l i_3 ZdR r := (ZkD l) _ _ _ h

def ZbI (l : (List ByteArray)) : Option (Bool) :=
 Zas l 0 l
def ZbI.M (l : (List ByteArray)) (r : Bool) : Prop :=
 Zq Tryz.prog 89 [.c none (.sl (l.map c_S))] [] (fun d b => d = .c none (.v (.bool r)) ∧ b = [])
theorem ZdD {l r} (hF : ZbI l = some r) : ZbI.M l r := by
 unfold ZbI at hF
 unfold ZbI.M
 refine en Tryz.func89 ?_
 exact znl (ZkZ hF ([]) rfl rfl)

def Zam (s1_ : (List ByteArray)) (s2_ : (List ByteArray)) (ZcO : Nat) (ZbY : (List ByteArray)) : Option (Bool) :=
 (match ZbY with
 | x23 :: Zwv =>
 (s2_[ZcO]?) >>= fun x27 =>
 if (!(x23.toList == x27.toList)) = true then
 some false
 else
 Zam s1_ s2_ (ZcO + 1) Zwv
 | [] =>
 some true)
 partial_fixpoint
def Zam.M (s1_ : (List ByteArray)) (s2_ : (List ByteArray)) (ZcO : Nat) (ZbY : (List ByteArray)) (r : Bool) : Prop :=
 ∀ Zff : List ByteArray, s1_ = Zff ++ ZbY → ZcO = Zff.length → s1_.length ≤ maxLen → s2_.length ≤ maxLen → nL 26 Tryz.f85 [1, 1, 0, 1, 0] (.c none (.v (.bool r))) [] ⟨[(0, .c none (.sl (s1_.map c_S))), (1, .c none (.sl (s2_.map c_S))), (12, .c none (.v (.int .i64 ((s1_.length : Nat) : Int)))), (13, .c none (.v (.int .i64 ((ZcO : Nat) : Int))))], []⟩
theorem Zkn (s1_ : (List ByteArray)) (s2_ : (List ByteArray)) : ∀ ZcO ZbY r, Zam s1_ s2_ ZcO ZbY = some r → Zam.M s1_ s2_ ZcO ZbY r := by
 refine Zam.partial_correctness s1_ s2_ (Zam.M s1_ s2_) ?_
 intro slices_Equal_string_l1' ZkU ZcO ZbY r hF
 unfold Zam.M nL
 intro Zff ZiF ZiS hlen7 hlen5
 refine AWL.step ?_
 refine zbl ZiF ZiS (fun x23 Zwv Zte ZAj ZFg => ?_) (fun Zte => ?_)
 ·subst Zte
  obtain ⟨x27, ZuP, hF⟩ := bind_some hF
  refine zdo 8 [16, 17, 18, 19, 20, 21, 22, 23] [255, 255, 252, 248, 255, 255, 207, 143] ?_
  refine dp ?_
  refine dp ?_
  refine dr (Zr rfl ZAj) ?_
  refine dp ?_
  refine dp ?_
  refine dp ?_
  refine dr (Zr rfl ZuP) ?_
  refine zdp ?_
  refine zbr hF (fun Zto hF => ?_) (fun Zto hF => ?_)
  ·obtain rfl := Ze hF
   exact zre []
  ·exact znl (ZkU _ _ _ hF _ (zlh ZiF) (zlk ZiS) hlen7 hlen5)
 ·subst Zte
  obtain rfl := Ze hF
  exact zre []
theorem Zk0 {s1_ s2_ ZcO ZbY r} (h : Zam s1_ s2_ ZcO ZbY = some r) : Zam.M s1_ s2_ ZcO ZbY r := (Zkn s1_ s2_) _ _ _ h

def ZaB (s1_ : (List ByteArray)) (s2_ : (List ByteArray)) : Option (Bool) :=
 if (((s1_.length : Nat) : Int) != ((s2_.length : Nat) : Int)) = true then
 some false
 else
 Zam s1_ s2_ 0 s1_
def ZaB.M (s1_ : (List ByteArray)) (s2_ : (List ByteArray)) (r : Bool) : Prop :=
 Zq Tryz.prog 85 [.c none (.sl (s1_.map c_S)), .c none (.sl (s2_.map c_S))] [] (fun d b => d = .c none (.v (.bool r)) ∧ b = [])
theorem Ze4 {s1_ s2_ r} (hF : ZaB s1_ s2_ = some r) : ZaB.M s1_ s2_ r := by
 unfold ZaB at hF
 unfold ZaB.M
 refine en Tryz.func85 ?_
 refine zln fun hlen4 => ?_
 refine zln fun hlen5 => ?_
 refine zbr hF (fun hc6 hF => ?_) (fun hc6 hF => ?_)
 ·obtain rfl := Ze hF
  exact zre []
 ·refine zln fun hlen7 => ?_
  exact znl (Zk0 hF ([]) rfl rfl hlen7 hlen5)

def Zd7 (s : ByteArray) (i_3 : Nat) : Option (Bool) :=
 if (decide (((i_3 : Nat) : Int) < ((s.size : Nat) : Int))) = true then
 (btI s ((i_3 : Nat) : Int)) >>= fun y21 =>
 (if (decide (((y21.toNat : Nat) : Int) < 33)) = true then some true else (btI s ((i_3 : Nat) : Int)) >>= fun y22 =>
 some (decide (((y22.toNat : Nat) : Int) > 126))) >>= fun c23 =>
 if c23 = true then
 some false
 else
 ZaK (i_3 + 1 ≤ 9223372036854775807) >>= fun _ =>
 Zd7 s (i_3 + 1)
 else
 some true
 partial_fixpoint
def Zd7.M (s : ByteArray) (i_3 : Nat) (r : Bool) : Prop :=
 nL 35 Tryz.f49 [1, 1, 0, 1, 0] (.c none (.v (.bool r))) [] ⟨[(0, .c none (.v (.string s))), (3, .c none (.v (.int .i64 ((i_3 : Nat) : Int))))], []⟩
theorem ZrE (s : ByteArray) : ∀ i_3 r, Zd7 s i_3 = some r → Zd7.M s i_3 r := by
 refine Zd7.partial_correctness s (Zd7.M s) ?_
 intro stg_name_l1' ZtJ i_3 r hF
 unfold Zd7.M nL
 refine AWL.step ?_
 refine zbr hF (fun ZmL hF => ?_) (fun ZmL hF => ?_)
 ·obtain ⟨y21, ZHr, ZED, hF⟩ := ZrO hF
  obtain ⟨c23, Zh4, hF⟩ := bind_some hF
  refine nw ?_
  refine sq (bk ?_)
  refine sq ?_
  refine zck [0, 3] [] [(34, .c none (.v (.bool c23)))] ?_ ?_
  ·refine zsr ZED ?_
   refine zbf (fun ZjD => ?_) (fun ZjD => ?_)
   ·have Zh4 := ift ZjD Zh4
    obtain rfl := Ze Zh4
    refine zgo ?_
    exact zwe
   ·have Zh4 := ife ZjD Zh4
    obtain ⟨y22, ZE9, ZDB, Zh4⟩ := ZrO Zh4
    refine zsr ZDB ?_
    obtain rfl := Ze Zh4
    refine zgo ?_
    exact zwe
  refine zbr hF (fun Znk hF => ?_) (fun Znk hF => ?_)
  ·obtain rfl := Ze hF
   exact zre []
  ·obtain ⟨ZAJ, hF⟩ := Zx hF
   refine zgo ?_
   exact lv (rn []) (ZtJ _ _ hF) (WS.mk (tc (ZcI (Zc7 (ZeC (Zn8 ZAJ))) ZcZ)) Zc6)
 ·obtain rfl := Ze hF
  exact zre []
theorem ZsW {s i_3 r} (h : Zd7 s i_3 = some r) : Zd7.M s i_3 r := (ZrE s) _ _ h

def Zei (s : ByteArray) : Option (Bool) :=
 if ((((s.toList == (ByteArray.mk #[]).toList) || (s.toList == (ByteArray.mk #[40]).toList)) || (s.toList == (ByteArray.mk #[41]).toList)) || (decide (((s.size : Nat) : Int) > 158))) = true then
 some false
 else
 Zd7 s 0
def Zei.M (s : ByteArray) (r : Bool) : Prop :=
 Zq Tryz.prog 49 [.c none (.v (.string s))] [] (fun d b => d = .c none (.v (.bool r)) ∧ b = [])
theorem Zhh {s r} (hF : Zei s = some r) : Zei.M s r := by
 unfold Zei at hF
 unfold Zei.M
 refine en Tryz.func49 ?_
 refine ns ?_
 refine sq (sq ?_)
 refine zck [0] [] [(18, .c none (.v (.bool ((((s.toList == (ByteArray.mk #[]).toList) || (s.toList == (ByteArray.mk #[40]).toList)) || (s.toList == (ByteArray.mk #[41]).toList)) || (decide (((s.size : Nat) : Int) > 158))))))] ?_ ?_
 ·exact zpt
 refine zbr hF (fun hc5 hF => ?_) (fun hc5 hF => ?_)
 ·obtain rfl := Ze hF
  exact zre []
 ·exact znl (ZsW hF)

def Zcd (l : (List ByteArray)) (x_9 : Nat) (ZlH : (List (ByteArray × Bool))) (Zln : (List ByteArray)) : Option (Bool) :=
 (match Zln with
 | x25 :: ZzY =>
 Zei x25 >>= fun r32 =>
 (if (!r32) = true then some true else ZbW ZlH false x25 >>= fun r33 =>
 some r33.1) >>= fun c34 =>
 if c34 = true then
 some false
 else
 Zcd l (x_9 + 1) (Ze0 ZlH x25 true) ZzY
 | [] =>
 some true)
 partial_fixpoint
def Zcd.M (l : (List ByteArray)) (x_9 : Nat) (ZlH : (List (ByteArray × Bool))) (Zln : (List ByteArray)) (r : Bool) : Prop :=
 ∀ ZuI : List ByteArray, l = ZuI ++ Zln → x_9 = ZuI.length → l.length ≤ maxLen → nL 24 Tryz.f50 [1, 1, 0, 1, 0] (.c none (.v (.bool r))) [] ⟨[(3, .c none (.rf 6)), (7, .c none (.sl (l.map c_S))), (8, .c none (.v (.int .i64 ((l.length : Nat) : Int)))), (9, .c none (.v (.int .i64 ((x_9 : Nat) : Int))))], [(6, [(none, .ob 169 (ZlH.map (Zv c_S c_B)))])]⟩
theorem Zop (l : (List ByteArray)) : ∀ x_9 ZlH Zln r, Zcd l x_9 ZlH Zln = some r → Zcd.M l x_9 ZlH Zln r := by
 refine Zcd.partial_correctness l (Zcd.M l) ?_
 intro stg_different_l1' ZoS x_9 ZlH Zln r hF
 unfold Zcd.M nL
 intro ZuI ZA3 ZAo hlen1
 refine AWL.step ?_
 refine zbl ZA3 ZAo (fun x25 ZzY Zw9 ZuP ZJt => ?_) (fun Zw9 => ?_)
 ·subst Zw9
  refine zgo ?_
  refine sr (Zr (f := c_S) rfl ZuP) ?_
  obtain ⟨r32, ZDF, hF⟩ := bind_some hF
  obtain ⟨c34, Zot, hF⟩ := bind_some hF
  refine st ?_
  refine sq (sq ?_)
  refine zck [3, 5, 7, 8, 9] [6] [(20, .c none (.v (.bool c34)))] ?_ ?_
  ·refine zca [] [] [] (Zhh ZDF) ?_
   refine zbf (fun Zva => ?_) (fun Zva => ?_)
   ·have Zot := ift Zva Zot
    obtain rfl := Ze Zot
    refine zgo ?_
    exact zwe
   ·have Zot := ife Zva Zot
    obtain ⟨r33, ZDf, Zot⟩ := bind_some Zot
    refine zgo ?_
    refine Zcr (m := ZlH) (k := x25) ZaN (ev := c_B) ZDf rfl (fun x => ZrQ x) rfl rfl (lc Zn) ?_
    obtain rfl := Ze Zot
    refine zgo ?_
    exact zwe
  refine zbr hF (fun ZC4 hF => ?_) (fun ZC4 hF => ?_)
  ·obtain rfl := Ze hF
   exact zre []
  ·refine zgo ?_
   exact ZdG (m := ZlH) (k := x25) (v := true) ZaN (ev := c_B) (lc Zn) (znl (ZoS _ _ _ _ hF _ (zlh ZA3) (zlk ZAo) hlen1))
 ·subst Zw9
  obtain rfl := Ze hF
  exact zre []
theorem ZoZ {l x_9 ZlH Zln r} (h : Zcd l x_9 ZlH Zln = some r) : Zcd.M l x_9 ZlH Zln r := (Zop l) _ _ _ _ h

def ZdB (l : (List ByteArray)) : Option (Bool) :=
 Zcd l 0 ([] : List (ByteArray × Bool)) l
def ZdB.M (l : (List ByteArray)) (r : Bool) : Prop :=
 Zq Tryz.prog 50 [.c none (.sl (l.map c_S))] [] (fun d b => d = .c none (.v (.bool r)) ∧ b = [])
theorem Zhv {l r} (hF : ZdB l = some r) : ZdB.M l r := by
 unfold ZdB at hF
 unfold ZdB.M
 refine en Tryz.func50 ?_
 refine zln fun hlen1 => ?_
 exact znl (ZoZ hF ([]) rfl rfl hlen1)

mutual
def ZaC (scrut : ByteArray) (l : (List Zf)) (ZcO : Nat) (Ze5 : (List (ByteArray × Bool))) (ZdU : (List (Int × Bool))) : Option (Bool) :=
 if (decide (((ZcO : Nat) : Int) < ((l.length : Nat) : Int))) = true then
 (l[ZcO]?) >>= fun Zeu =>
 if (Zeu.fOp == 1) = true then
 Zei Zeu.fName >>= fun ZFP =>
 (if (!ZFP) = true then some true else ZbW Ze5 false Zeu.fName >>= fun ZH6 =>
 some ZH6.1) >>= fun c364 =>
 (if (c364 || (Zeu.fN != 0)) = true then some true else ZaK ((([scrut]).length + Zeu.fVars.length) * 16 ≤ 140737488355328) >>= fun _ =>
 ZdB (([scrut]) ++ Zeu.fVars) >>= fun ZHp =>
 some (!ZHp)) >>= fun c367 =>
 if c367 = true then
 some false
 else
 Zcq scrut l ZcO Zeu (Ze0 Ze5 Zeu.fName true) ZdU
 else
 if (Zeu.fOp == 2) = true then
 Zb4 scrut l ZcO Zeu (Zeu.fOp == 2) Ze5 ZdU
 else
 Zb4 scrut l ZcO Zeu (Zeu.fOp == 3) Ze5 ZdU
 else
 some true
 partial_fixpoint
def Zb4 (scrut : ByteArray) (l : (List Zf)) (ZcO : Nat) (Zeu : Zf) (Zw7 : Bool) (Ze5 : (List (ByteArray × Bool))) (ZdU : (List (Int × Bool))) : Option (Bool) :=
 if Zw7 = true then
 (if ((!(Zeu.fName.toList == (ByteArray.mk #[]).toList)) || (decide (((Zeu.fVars.length : Nat) : Int) > 0))) = true then some true else ZbW ZdU false Zeu.fN >>= fun ZFB =>
 some ZFB.1) >>= fun c380 =>
 if (c380 || ((Zeu.fOp == 3) && ((decide (Zeu.fN < 0)) || (decide (Zeu.fN > 255))))) = true then
 some false
 else
 Zcq scrut l ZcO Zeu Ze5 (Ze0 ZdU Zeu.fN true)
 else
 if (Zeu.fOp == 4) = true then
 if ((((((ZcO : Nat) : Int) != (IntKind.i64.wrap (((l.length : Nat) : Int) - 1))) || (!(Zeu.fName.toList == (ByteArray.mk #[]).toList))) || (Zeu.fN != 0)) || (decide (((Zeu.fVars.length : Nat) : Int) > 0))) = true then
 some false
 else
 Zcq scrut l ZcO Zeu Ze5 ZdU
 else
 some false
 partial_fixpoint
def Zcq (scrut : ByteArray) (l : (List Zf)) (ZcO : Nat) (Zeu : Zf) (Ze5 : (List (ByteArray × Bool))) (ZdU : (List (Int × Bool))) : Option (Bool) :=
 (if (Zeu.fOp != 4) = true then (ixI l 0) >>= fun ZDm =>
 some (Zeu.fOp != ZDm.fOp) else some false) >>= fun c351 =>
 if c351 = true then
 some false
 else
 ZaC scrut l (ZcO + 1) Ze5 ZdU
 partial_fixpoint
end
def ZaC.M (scrut : ByteArray) (l : (List Zf)) (ZcO : Nat) (Ze5 : (List (ByteArray × Bool))) (ZdU : (List (Int × Bool))) (r : Bool) : Prop :=
 l.length ≤ maxLen → nL 121 Tryz.f116 [1, 1, 0, 1, 0] (.c none (.v (.bool r))) [] ⟨[(0, .c none (.v (.string scrut))), (1, .c none (.sl (l.map Zf.cells))), (5, .c none (.rf 9)), (6, .c none (.rf 10)), (11, .c none (.sl (l.map Zf.cells))), (12, .c none (.v (.int .i64 ((l.length : Nat) : Int)))), (13, .c none (.v (.int .i64 ((ZcO : Nat) : Int))))], [(9, [(none, .ob 169 (Ze5.map (Zv c_S c_B)))]), (10, [(none, .ob 339 (ZdU.map (Zv Zg c_B)))])]⟩
def Zb4.M (scrut : ByteArray) (l : (List Zf)) (ZcO : Nat) (Zeu : Zf) (Zw7 : Bool) (Ze5 : (List (ByteArray × Bool))) (ZdU : (List (Int × Bool))) (r : Bool) : Prop :=
 l.length ≤ maxLen → ZcO < l.length → nP 121 Tryz.f116 [1, 1, 0, 1, 0, 0, 1, 1, 0, 0, 1, 0, 1, 0, 1, 1, 1] (.c none (.v (.bool r))) [] ⟨[(0, .c none (.v (.string scrut))), (1, .c none (.sl (l.map Zf.cells))), (5, .c none (.rf 9)), (6, .c none (.rf 10)), (7, .c none (.v (.int .i64 ((ZcO : Nat) : Int)))), (8, .ptr 8 0), (11, .c none (.sl (l.map Zf.cells))), (12, .c none (.v (.int .i64 ((l.length : Nat) : Int)))), (13, .c none (.v (.int .i64 ((ZcO : Nat) : Int)))), (19, .c none (.v (.int .i64 Zeu.fOp))), (49, .c none (.v (.bool Zw7)))], [(8, (Zf.bx Zeu)), (9, [(none, .ob 169 (Ze5.map (Zv c_S c_B)))]), (10, [(none, .ob 339 (ZdU.map (Zv Zg c_B)))])]⟩
def Zcq.M (scrut : ByteArray) (l : (List Zf)) (ZcO : Nat) (Zeu : Zf) (Ze5 : (List (ByteArray × Bool))) (ZdU : (List (Int × Bool))) (r : Bool) : Prop :=
 l.length ≤ maxLen → ZcO < l.length → nP 121 Tryz.f116 [1, 1, 0, 1, 0, 0, 1, 1, 0, 0, 1, 1] (.c none (.v (.bool r))) [] ⟨[(0, .c none (.v (.string scrut))), (1, .c none (.sl (l.map Zf.cells))), (5, .c none (.rf 9)), (6, .c none (.rf 10)), (8, .ptr 8 0), (11, .c none (.sl (l.map Zf.cells))), (12, .c none (.v (.int .i64 ((l.length : Nat) : Int)))), (13, .c none (.v (.int .i64 ((ZcO : Nat) : Int))))], [(8, (Zf.bx Zeu)), (9, [(none, .ob 169 (Ze5.map (Zv c_S c_B)))]), (10, [(none, .ob 339 (ZdU.map (Zv Zg c_B)))])]⟩
theorem Zl2 (scrut : ByteArray) (l : (List Zf)) : (∀ ZcO Ze5 ZdU r, ZaC scrut l ZcO Ze5 ZdU = some r → ZaC.M scrut l ZcO Ze5 ZdU r) ∧ (∀ ZcO Zeu Zw7 Ze5 ZdU r, Zb4 scrut l ZcO Zeu Zw7 Ze5 ZdU = some r → Zb4.M scrut l ZcO Zeu Zw7 Ze5 ZdU r) ∧ (∀ ZcO Zeu Ze5 ZdU r, Zcq scrut l ZcO Zeu Ze5 ZdU = some r → Zcq.M scrut l ZcO Zeu Ze5 ZdU r) := by
 refine ZaC.mutual_partial_correctness scrut l (ZaC.M scrut l) (Zb4.M scrut l) (Zcq.M scrut l) ?_ ?_ ?_
 ·intro stg_alternatives_k3' stg_alternatives_k2' Ziw ZeU ZcO Ze5 ZdU r hF
  unfold ZaC.M nL
  intro hlen178
  refine AWL.step ?_
  refine zbr hF (fun ZCp hF => ?_) (fun ZCp hF => ?_)
  ·have Ztt := Zj7 ZCp
   obtain ⟨Zeu, ZGs, hF⟩ := bind_some hF
   refine zsr (Zr (f := Zf.cells) (Zf.cells_eq Zeu) ZGs) ?_
   refine zbr hF (fun Zy1 hF => ?_) (fun Zy1 hF => ?_)
   ·obtain ⟨ZFP, ZEP, hF⟩ := bind_some hF
    obtain ⟨c364, Zq3, hF⟩ := bind_some hF
    obtain ⟨c367, ZjU, hF⟩ := bind_some hF
    refine sq (sq ?_)
    refine zck [0, 1, 5, 6, 8, 11, 12, 13] [8, 9, 10] [(45, .c none (.v (.bool c367)))] ?_ ?_
    ·refine zca [] [] [] (Zhh ZEP) ?_
     refine zbf (fun Ztp => ?_) (fun Ztp => ?_)
     ·have Zq3 := ift Ztp Zq3
      obtain rfl := Ze Zq3
      have ZjU := ift Ztp ZjU
      obtain rfl := Ze ZjU
      refine zgo ?_
      exact zwe
     ·have Zq3 := ife Ztp Zq3
      obtain ⟨ZH6, ZHk, Zq3⟩ := bind_some Zq3
      refine zgo ?_
      refine Zcr (m := Ze5) (k := Zeu.fName) ZaN (ev := c_B) ZHk rfl (fun x => ZrQ x) rfl rfl (lc Zn) ?_
      obtain rfl := Ze Zq3
      refine zbf (fun Zxj => ?_) (fun Zxj => ?_)
      ·have ZjU := ift (an Ztp Zxj) ZjU
       obtain rfl := Ze ZjU
       refine zgo ?_
       exact zwe
      ·refine zbf (fun ZAc => ?_) (fun ZAc => ?_)
       ·have ZjU := ift (an Ztp (an Zxj ZAc)) ZjU
        obtain rfl := Ze ZjU
        refine zgo ?_
        exact zwe
       ·have ZjU := ife (an Ztp (an Zxj ZAc)) ZjU
        obtain ⟨ZGf, ZjU⟩ := Zx ZjU
        obtain ⟨ZHp, ZFY, ZjU⟩ := bind_some ZjU
        refine zgo ?_
        refine ea (ZH (f := c_S) (lc Zn) (Zp (f := c_S))) (zsa (fun l => Zaf l (fun x => Zbb x)) ZGf ?_)
        refine ea (WE.refl _) ?_
        rw [← List.map_append]
        refine zca [42] [] [] (Zhv ZFY) ?_
        obtain rfl := Ze ZjU
        refine zgo ?_
        exact zwe
    refine zbr hF (fun ZEY hF => ?_) (fun ZEY hF => ?_)
    ·obtain rfl := Ze hF
     exact zre []
    ·refine zgo ?_
     refine ZdG (m := Ze5) (k := Zeu.fName) (v := true) ZaN (ev := c_B) (lc Zn) (st ?_)
     exact zja (ZeU _ _ _ _ _ hF hlen178 Ztt)
   ·refine zbr hF (fun ZET hF => ?_) (fun ZET hF => ?_)
    ·refine nw ?_
     exact zja (Ziw _ _ _ _ _ _ hF hlen178 Ztt)
    ·refine ns ?_
     exact zja (Ziw _ _ _ _ _ _ hF hlen178 Ztt)
  ·obtain rfl := Ze hF
   exact zre []
 ·intro stg_alternatives_k2' ZeU ZcO Zeu Zw7 Ze5 ZdU r hF
  unfold Zb4.M nP
  intro hlen178 Ztt
  refine zbr hF (fun ZGo hF => ?_) (fun ZGo hF => ?_)
  ·obtain ⟨c380, Zgh, hF⟩ := bind_some hF
   refine sq (sq ?_)
   refine zck [0, 1, 5, 6, 8, 11, 12, 13] [8, 9, 10] [(81, .c none (.v (.bool (c380 || ((Zeu.fOp == 3) && ((decide (Zeu.fN < 0)) || (decide (Zeu.fN > 255))))))))] ?_ ?_
   ·refine zbf (fun Ziv => ?_) (fun Ziv => ?_)
    ·have Zgh := ift Ziv Zgh
     obtain rfl := Ze Zgh
     refine zgo ?_
     exact zwe
    ·refine zln fun hlen378 => ?_
     refine zbf (fun Zoh => ?_) (fun Zoh => ?_)
     ·have Zgh := ift (an Ziv Zoh) Zgh
      obtain rfl := Ze Zgh
      refine zgo ?_
      exact zwe
     ·have Zgh := ife (an Ziv Zoh) Zgh
      obtain ⟨ZFB, ZIi, Zgh⟩ := bind_some Zgh
      refine zgo ?_
      refine Zcr (m := ZdU) (k := Zeu.fN) Zrc (ev := c_B) ZIi rfl (fun x => ZrQ x) rfl rfl (lc Zn) ?_
      obtain rfl := Ze Zgh
      refine zbf (fun ZsM => ?_) (fun ZsM => ?_)
      ·refine zgo ?_
       exact zwe
      ·refine zbt (fun ZvO => ?_) (fun ZvO => ?_)
       ·refine zbf (fun Zy0 => ?_) (fun Zy0 => ?_)
        ·refine zgo ?_
         exact zwe
        ·refine zgo ?_
         exact zwe
       ·refine zgo ?_
        exact zwe
   refine zbr hF (fun ZGK hF => ?_) (fun ZGK hF => ?_)
   ·obtain rfl := Ze hF
    exact zre []
   ·refine zgo ?_
    refine ZdG (m := ZdU) (k := Zeu.fN) (v := true) Zrc (ev := c_B) (lc Zn) (st ?_)
    exact zja (ZeU _ _ _ _ _ hF hlen178 Ztt)
  ·refine zbr hF (fun ZGS hF => ?_) (fun ZGS hF => ?_)
   ·refine sq ?_
    refine zck [0, 1, 5, 6, 8, 11, 12, 13] [8, 9, 10] [(107, .c none (.v (.bool ((((((ZcO : Nat) : Int) != (IntKind.i64.wrap (((l.length : Nat) : Int) - 1))) || (!(Zeu.fName.toList == (ByteArray.mk #[]).toList))) || (Zeu.fN != 0)) || (decide (((Zeu.fVars.length : Nat) : Int) > 0))))))] ?_ ?_
    ·exact zpt
    refine zbr hF (fun ZG4 hF => ?_) (fun ZG4 hF => ?_)
    ·obtain rfl := Ze hF
     exact zre []
    ·refine nw ?_
     exact zja (ZeU _ _ _ _ _ hF hlen178 Ztt)
   ·obtain rfl := Ze hF
    exact zre []
 ·intro stg_alternatives_l1' Znb ZcO Zeu Ze5 ZdU r hF
  unfold Zcq.M nP
  intro hlen178 Ztt
  obtain ⟨c351, Zrf, hF⟩ := bind_some hF
  refine sq ?_
  refine zck [0, 1, 5, 6, 11, 12, 13] [9, 10] [(119, .c none (.v (.bool c351)))] ?_ ?_
  ·refine zdo 10 [108, 109, 110, 111, 112, 113, 114, 115, 116, 117] [1023, 1022, 1020, 1016, 1008, 992, 1008, 944, 816, 560] ?_
   refine zdp ?_
   refine zbt (fun Zvw => ?_) (fun Zvw => ?_)
   ·have Zrf := ift Zvw Zrf
    obtain ⟨ZDm, hx3500, ZIk, Zrf⟩ := Zlj Zrf
    refine zgo ?_
    refine dp ?_
    refine dp ?_
    refine dp ?_
    refine dr (Zjz (Zf.cells_eq ZDm) ZIk) ?_
    refine dp ?_
    refine dp ?_
    obtain rfl := Ze Zrf
    refine zgo ?_
    exact zwe
   ·have Zrf := ife Zvw Zrf
    obtain rfl := Ze Zrf
    refine zgo ?_
    exact zwe
  refine zbr hF (fun ZHq hF => ?_) (fun ZHq hF => ?_)
  ·obtain rfl := Ze hF
   exact zre []
  ·exact znl (Znb _ _ _ _ hF hlen178)
theorem Zms {scrut l ZcO Ze5 ZdU r} (h : ZaC scrut l ZcO Ze5 ZdU = some r) : ZaC.M scrut l ZcO Ze5 ZdU r := (Zl2 scrut l).1 _ _ _ _ h

def Zev (scrut : ByteArray) (l : (List Zf)) : Option (Bool) :=
 ZaC scrut l 0 ([] : List (ByteArray × Bool)) ([] : List (Int × Bool))
def Zev.M (scrut : ByteArray) (l : (List Zf)) (r : Bool) : Prop :=
 Zq Tryz.prog 116 [.c none (.v (.string scrut)), .c none (.sl (l.map Zf.cells))] [] (fun d b => d = .c none (.v (.bool r)) ∧ b = [])
theorem ZoX {scrut l r} (hF : Zev scrut l = some r) : Zev.M scrut l r := by
 unfold Zev at hF
 unfold Zev.M
 refine en Tryz.func116 ?_
 refine zln fun hlen178 => ?_
 exact znl (Zms hF hlen178)

def Zis (a : ZJ) : Option (Bool) :=
 if (a.fOp == 1) = true then
 Zei a.fName >>= fun r2 =>
 some (r2 && (a.fN == 0))
 else
 if (a.fOp == 2) = true then
 some (a.fName.toList == (ByteArray.mk #[]).toList)
 else
 if (a.fOp == 3) = true then
 some (((a.fName.toList == (ByteArray.mk #[]).toList) && (decide (a.fN ≥ 0))) && (decide (a.fN ≤ 255)))
 else
 some false
def Zis.M (a : ZJ) (r : Bool) : Prop :=
 Zq Tryz.prog 111 [.agg (ZJ.fl a)] [] (fun d b => d = .c none (.v (.bool r)) ∧ b = [])
theorem ZvI {a r} (hF : Zis a = some r) : Zis.M a r := by
 unfold Zis at hF
 unfold Zis.M
 refine en Tryz.func111 ?_
 refine zbr hF (fun hc1 hF => ?_) (fun hc1 hF => ?_)
 ·obtain ⟨r2, hr2, hF⟩ := bind_some hF
  refine sq ?_
  refine zck [] [] [(2, .c none (.v (.bool (r2 && (a.fN == 0)))))] ?_ ?_
  ·refine zca [] [] [] (Zhh hr2) ?_
   refine zbt (fun hc3 => ?_) (fun hc3 => ?_)
   ·refine zgo ?_
    exact zwe
   ·refine zgo ?_
    exact zwe
  obtain rfl := Ze hF
  exact zre []
 ·refine zbr hF (fun hc4 hF => ?_) (fun hc4 hF => ?_)
  ·obtain rfl := Ze hF
   exact zre []
  ·refine zbr hF (fun hc5 hF => ?_) (fun hc5 hF => ?_)
   ·refine sq ?_
    refine zck [] [] [(2, .c none (.v (.bool (((a.fName.toList == (ByteArray.mk #[]).toList) && (decide (a.fN ≥ 0))) && (decide (a.fN ≤ 255))))))] ?_ ?_
    ·exact zpt
    obtain rfl := Ze hF
    exact zre []
   ·obtain rfl := Ze hF
    exact zre []

def Zy (c : Zb) (ok : Bool) : Option (Zb) :=
 if (!ok) = true then
 some (Zb.mk c.fcons c.flocal true)
 else
 some c
def Zy.M (c : Zb) (ok : Bool) (r : Zb) : Prop :=
 Zq Tryz.prog 48 [.ptr 1000 0, .c none (.v (.bool ok))] [(1000, [(none, .rf 1001), (none, .rf 1002), (none, .v (.bool c.fbad))]), (1001, [(none, .ob 165 (c.fcons.map (Zv c_S Zg)))]), (1002, [(none, .ob 167 (c.flocal.map (Zv c_S Zg)))])] (fun d b => d = .tup [] ∧ b = [(1000, [(none, .rf 1001), (none, .rf 1002), (none, .v (.bool r.fbad))]), (1001, [(none, .ob 165 (r.fcons.map (Zv c_S Zg)))]), (1002, [(none, .ob 167 (r.flocal.map (Zv c_S Zg)))])])
theorem Z6 {c ok r} (hF : Zy c ok = some r) : Zy.M c ok r := by
 unfold Zy at hF
 unfold Zy.M
 refine en Tryz.func48 ?_
 refine zbr hF (fun hc1 hF => ?_) (fun hc1 hF => ?_)
 ·obtain rfl := Ze hF
  exact zre zi3
 ·obtain rfl := Ze hF
  exact zre zi3

def ZbG (c : Zb) (s : ByteArray) (n : Int) : Option (Zb) :=
 ZbW c.fcons 0 s >>= fun r1 =>
 Zy c ((!r1.2) || (r1.1 == n)) >>= fun r2 =>
 some r2
def ZbG.M (c : Zb) (s : ByteArray) (n : Int) (r : Zb) : Prop :=
 Zq Tryz.prog 113 [.ptr 1000 0, .c none (.v (.string s)), .c none (.v (.int .i64 n))] [(1000, [(none, .rf 1001), (none, .rf 1002), (none, .v (.bool c.fbad))]), (1001, [(none, .ob 165 (c.fcons.map (Zv c_S Zg)))]), (1002, [(none, .ob 167 (c.flocal.map (Zv c_S Zg)))])] (fun d b => d = .tup [] ∧ b = [(1000, [(none, .rf 1001), (none, .rf 1002), (none, .v (.bool r.fbad))]), (1001, [(none, .ob 165 (r.fcons.map (Zv c_S Zg)))]), (1002, [(none, .ob 167 (r.flocal.map (Zv c_S Zg)))])])
theorem Zkr {c s n r} (hF : ZbG c s n = some r) : ZbG.M c s n r := by
 unfold ZbG at hF
 unfold ZbG.M
 refine en Tryz.func113 ?_
 obtain ⟨r1, hr1, hF⟩ := bind_some hF
 refine zgo ?_
 refine Zcr (m := c.fcons) (k := s) ZaN (ev := Zg) hr1 rfl (fun x => Zbl x) rfl rfl (lc Zn) ?_
 obtain ⟨r2, hr2, hF⟩ := bind_some hF
 refine st ?_
 refine AWP.cutE ⟨[], [(1000, [(none, .rf 1001), (none, .rf 1002), (none, .v (.bool r2.fbad))]), (1001, [(none, .ob 165 (r2.fcons.map (Zv c_S Zg)))]), (1002, [(none, .ob 167 (r2.flocal.map (Zv c_S Zg)))])]⟩ ?_ ?_
 ·refine zbf (fun hc3 => ?_) (fun hc3 => ?_)
  ·refine zgo ?_
   refine xe3 [] [(1000, 1000), (1001, 1001), (1002, 1002)] [] (st ?_)
   refine cm (Zq.weak (rn []) (Z6 hr2) rfl (WS.mk (tp (ZcI (Zc7 (web hc3)) ZcZ)) (ZcN rfl (cc (cc (cc ZcA))) (ZcN rfl (cc ZcA) (ZcN rfl (cc ZcA) Zc6))))) (zgo ?_)
   exact zwy
  ·refine zgo ?_
   refine xe3 [] [(1000, 1000), (1001, 1001), (1002, 1002)] [] (st ?_)
   refine cm (Zq.weak (rn []) (Z6 hr2) rfl (WS.mk (tp (ZcI (Zc7 (web hc3)) ZcZ)) (ZcN rfl (cc (cc (cc ZcA))) (ZcN rfl (cc ZcA) (ZcN rfl (cc ZcA) Zc6))))) (zgo ?_)
   exact zwy
 obtain rfl := Ze hF
 exact zre zi3

def Zb9 (c : Zb) (s : ByteArray) : Option (Zb) :=
 Zei s >>= fun r1 =>
 Zy c r1 >>= fun r2 =>
 some r2
def Zb9.M (c : Zb) (s : ByteArray) (r : Zb) : Prop :=
 Zq Tryz.prog 112 [.ptr 1000 0, .c none (.v (.string s))] [(1000, [(none, .rf 1001), (none, .rf 1002), (none, .v (.bool c.fbad))]), (1001, [(none, .ob 165 (c.fcons.map (Zv c_S Zg)))]), (1002, [(none, .ob 167 (c.flocal.map (Zv c_S Zg)))])] (fun d b => d = .tup [] ∧ b = [(1000, [(none, .rf 1001), (none, .rf 1002), (none, .v (.bool r.fbad))]), (1001, [(none, .ob 165 (r.fcons.map (Zv c_S Zg)))]), (1002, [(none, .ob 167 (r.flocal.map (Zv c_S Zg)))])])
theorem Zil {c s r} (hF : Zb9 c s = some r) : Zb9.M c s r := by
 unfold Zb9 at hF
 unfold Zb9.M
 refine en Tryz.func112 ?_
 obtain ⟨r1, hr1, hF⟩ := bind_some hF
 obtain ⟨r2, hr2, hF⟩ := bind_some hF
 refine zca [] [] [] (Zhh hr1) ?_
 refine zca [] zi3 [] (Z6 hr2) ?_
 obtain rfl := Ze hF
 exact zre zi3

def Zda (v0_ : Zd) (v1_ : Za) : Option (Zd) :=
 Za5 v0_ v1_.fBody >>= fun r1 =>
 some r1
def Zda.M (v0_ : Zd) (v1_ : Za) (r : Zd) : Prop :=
 Zq Tryz.prog 109 [.ptr 1000 0, .ptr 1004 0] [(1000, [(none, .pt 1001 0)]), (1001, [(none, .rf 1002), (none, .rf 1003), ((some (3052, 9)), .sl (v0_.fout.map c_S))]), (1002, [(none, .ob 167 (v0_.fbound.map (Zv c_S Zg)))]), (1003, [(none, .ob 169 (v0_.fseen.map (Zv c_S c_B)))]), (1004, (Za.bx v1_))] (fun d b => d = .tup [] ∧ b = [(1000, [(none, .pt 1001 0)]), (1001, [(none, .rf 1002), (none, .rf 1003), ((some (3052, 9)), .sl (r.fout.map c_S))]), (1002, [(none, .ob 167 (r.fbound.map (Zv c_S Zg)))]), (1003, [(none, .ob 169 (r.fseen.map (Zv c_S c_B)))]), (1004, (Za.bx v1_))])
theorem Zpp {v0_ v1_ r} (hF : Zda v0_ v1_ = some r) : Zda.M v0_ v1_ r := by
 unfold Zda at hF
 unfold Zda.M
 refine en Tryz.func109 ?_
 obtain ⟨r1, hr1, hF⟩ := bind_some hF
 refine zcb [] [(1001, 1000), (1002, 1001), (1003, 1002)] [] (rn [(3052, 3002)]) (Zkk hr1) ?_
 obtain rfl := Ze hF
 exact zrg zi5 (rn [(3002, 3052)])

def ZR (l : (List ByteArray)) (ZaL : Nat) (r28 : (Zd)) (Zm : (List (ByteArray × Int))) (g2_c1 : Za) (Zu : (List ByteArray)) : Option (Zd) :=
 (match Zu with
 | x39 :: Zgo =>
 ZbW Zm 0 x39 >>= fun r42 =>
 ZR l (ZaL + 1) r28 (Ze0 Zm x39 (IntKind.i64.wrap (r42.1 - 1))) g2_c1 Zgo
 | [] =>
 some (Zd.mk Zm r28.fseen r28.fout))
 partial_fixpoint
def ZR.M (l : (List ByteArray)) (r28 : (Zd)) (g2_c1 : Za) (ZaL : Nat) (Zm : (List (ByteArray × Int))) (Zu : (List ByteArray)) (r : Zd) : Prop :=
 ∀ ZaE : List ByteArray, l = ZaE ++ Zu → ZaL = ZaE.length → l.length ≤ maxLen → nL 34 Tryz.f78 [1, 1, 1, 0] (.tup []) [(1000, [(none, .pt 1001 0)]), (1001, [(none, .rf 1002), (none, .rf 1003), ((some (3052, 9)), .sl (r.fout.map c_S))]), (1002, [(none, .ob 167 (r.fbound.map (Zv c_S Zg)))]), (1003, [(none, .ob 169 (r.fseen.map (Zv c_S c_B)))]), (1004, (Za.bx g2_c1))] ⟨[(0, .c none (.rf 1002)), (23, .c none (.sl (l.map c_S))), (24, .c none (.v (.int .i64 ((l.length : Nat) : Int)))), (25, .c none (.v (.int .i64 ((ZaL : Nat) : Int))))], [(1000, [(none, .pt 1001 0)]), (1001, [(none, .rf 1002), (none, .rf 1003), ((some (3052, 9)), .sl (r28.fout.map c_S))]), (1002, [(none, .ob 167 (Zm.map (Zv c_S Zg)))]), (1003, [(none, .ob 169 (r28.fseen.map (Zv c_S c_B)))]), (1004, (Za.bx g2_c1))]⟩
theorem ZhF (l : (List ByteArray)) (r28 : (Zd)) (g2_c1 : Za) : ∀ ZaL Zm Zu r, ZR l ZaL r28 Zm g2_c1 Zu = some r → ZR.M l r28 g2_c1 ZaL Zm Zu r := by
 refine ZR.partial_correctness l r28 g2_c1 (ZR.M l r28 g2_c1) ?_
 intro stg_scope_with_stg_freeBind_1_l2' Zh5 ZaL Zm Zu r hF
 unfold ZR.M nL
 intro ZaE ZcB Zcx hlen29
 refine AWL.step ?_
 refine zbl ZcB Zcx (fun x39 Zgo ZeM ZjB Zrj => ?_) (fun ZeM => ?_)
 ·subst ZeM
  refine zsr (Zr (f := c_S) rfl ZjB) ?_
  obtain ⟨r42, ZjT, hF⟩ := bind_some hF
  refine zgo ?_
  refine Zcr (m := Zm) (k := x39) ZaN (ev := Zg) ZjT rfl (fun x => Zbl x) rfl rfl (lc Zn) (zgo ?_)
  exact ZdG (m := Zm) (k := x39) (v := (IntKind.i64.wrap (r42.1 - 1))) ZaN (ev := Zg) (lc Zn) (znl (Zh5 _ _ _ _ hF _ (zlh ZcB) (zlk Zcx) hlen29))
 ·subst ZeM
  obtain rfl := Ze hF
  exact zre zi5
theorem ZhY {l ZaL r28 Zm g2_c1 Zu r} (h : ZR l ZaL r28 Zm g2_c1 Zu = some r) : ZR.M l r28 g2_c1 ZaL Zm Zu r := (ZhF l r28 g2_c1) _ _ _ _ h

def ZS (l : (List ByteArray)) (Zb5 : Nat) (g2_c0 : Zd) (Zm : (List (ByteArray × Int))) (g2_c1 : Za) (ZN : (List ByteArray)) : Option (Zd) :=
 (match ZN with
 | x24 :: Zhi =>
 ZbW Zm 0 x24 >>= fun r27 =>
 ZS l (Zb5 + 1) g2_c0 (Ze0 Zm x24 (IntKind.i64.wrap (r27.1 + 1))) g2_c1 Zhi
 | [] =>
 Zda (Zd.mk Zm g2_c0.fseen g2_c0.fout) g2_c1 >>= fun r28 =>
 ZR l 0 r28 r28.fbound g2_c1 l)
 partial_fixpoint
def ZS.M (l : (List ByteArray)) (g2_c0 : Zd) (g2_c1 : Za) (Zb5 : Nat) (Zm : (List (ByteArray × Int))) (ZN : (List ByteArray)) (r : Zd) : Prop :=
 ∀ Za4 : List ByteArray, l = Za4 ++ ZN → Zb5 = Za4.length → l.length ≤ maxLen → nL 34 Tryz.f78 [0, 1, 0] (.tup []) [(1000, [(none, .pt 1001 0)]), (1001, [(none, .rf 1002), (none, .rf 1003), ((some (3052, 9)), .sl (r.fout.map c_S))]), (1002, [(none, .ob 167 (r.fbound.map (Zv c_S Zg)))]), (1003, [(none, .ob 169 (r.fseen.map (Zv c_S c_B)))]), (1004, (Za.bx g2_c1))] ⟨[(0, .c none (.rf 1002)), (1, .c none (.sl (l.map c_S))), (2, .c none (.cl 109 [] [.pt 1000 0, .pt 1004 0])), (10, .c none (.sl (l.map c_S))), (11, .c none (.v (.int .i64 ((l.length : Nat) : Int)))), (12, .c none (.v (.int .i64 ((Zb5 : Nat) : Int))))], [(1000, [(none, .pt 1001 0)]), (1001, [(none, .rf 1002), (none, .rf 1003), ((some (3052, 9)), .sl (g2_c0.fout.map c_S))]), (1002, [(none, .ob 167 (Zm.map (Zv c_S Zg)))]), (1003, [(none, .ob 169 (g2_c0.fseen.map (Zv c_S c_B)))]), (1004, (Za.bx g2_c1))]⟩
theorem ZhE (l : (List ByteArray)) (g2_c0 : Zd) (g2_c1 : Za) : ∀ Zb5 Zm ZN r, ZS l Zb5 g2_c0 Zm g2_c1 ZN = some r → ZS.M l g2_c0 g2_c1 Zb5 Zm ZN r := by
 refine ZS.partial_correctness l g2_c0 g2_c1 (ZS.M l g2_c0 g2_c1) ?_
 intro stg_scope_with_stg_freeBind_1_l1' ZhT Zb5 Zm ZN r hF
 unfold ZS.M nL
 intro Za4 ZcV ZcW hlen14
 refine AWL.step ?_
 refine zbl ZcV ZcW (fun x24 Zhi Ze7 Zkm Zsy => ?_) (fun Ze7 => ?_)
 ·subst Ze7
  refine zsr (Zr (f := c_S) rfl Zkm) ?_
  obtain ⟨r27, Zks, hF⟩ := bind_some hF
  refine zgo ?_
  refine Zcr (m := Zm) (k := x24) ZaN (ev := Zg) Zks rfl (fun x => Zbl x) rfl rfl (lc Zn) (zgo ?_)
  exact ZdG (m := Zm) (k := x24) (v := (IntKind.i64.wrap (r27.1 + 1))) ZaN (ev := Zg) (lc Zn) (znl (ZhT _ _ _ _ hF _ (zlh ZcV) (zlk ZcW) hlen14))
 ·subst Ze7
  obtain ⟨r28, ZjQ, hF⟩ := bind_some hF
  refine zca [] zi5 [] (Zpp ZjQ) ?_
  refine zln fun hlen29 => ?_
  exact znl (ZhY hF ([]) rfl rfl hlen29)
theorem ZhX {l Zb5 g2_c0 Zm g2_c1 ZN r} (h : ZS l Zb5 g2_c0 Zm g2_c1 ZN = some r) : ZS.M l g2_c0 g2_c1 Zb5 Zm ZN r := (ZhE l g2_c0 g2_c1) _ _ _ _ h

def Zbm (l : (List ByteArray)) (g2_c0 : Zd) (g2_c1 : Za) : Option (Zd) :=
 ZS l 0 g2_c0 g2_c0.fbound g2_c1 l
def Zbm.M (l : (List ByteArray)) (g2_c0 : Zd) (g2_c1 : Za) (r : Zd) : Prop :=
 Zq Tryz.prog 78 [.c none (.rf 1002), .c none (.sl (l.map c_S)), .c none (.cl 109 [] [.pt 1000 0, .pt 1004 0])] [(1000, [(none, .pt 1001 0)]), (1001, [(none, .rf 1002), (none, .rf 1003), ((some (3052, 9)), .sl (g2_c0.fout.map c_S))]), (1002, [(none, .ob 167 (g2_c0.fbound.map (Zv c_S Zg)))]), (1003, [(none, .ob 169 (g2_c0.fseen.map (Zv c_S c_B)))]), (1004, (Za.bx g2_c1))] (fun d b => d = .tup [] ∧ b = [(1000, [(none, .pt 1001 0)]), (1001, [(none, .rf 1002), (none, .rf 1003), ((some (3052, 9)), .sl (r.fout.map c_S))]), (1002, [(none, .ob 167 (r.fbound.map (Zv c_S Zg)))]), (1003, [(none, .ob 169 (r.fseen.map (Zv c_S c_B)))]), (1004, (Za.bx g2_c1))])
theorem ZiN {l g2_c0 g2_c1 r} (hF : Zbm l g2_c0 g2_c1 = some r) : Zbm.M l g2_c0 g2_c1 r := by
 unfold Zbm at hF
 unfold Zbm.M
 refine en Tryz.func78 ?_
 refine zln fun hlen14 => ?_
 exact znl (ZhX hF ([]) rfl rfl hlen14)

def ZeW (b : Za) : Option ((List ByteArray)) :=
 Zbm b.fParams (Zd.mk ([] : List (ByteArray × Int)) ([] : List (ByteArray × Bool)) ([] : List ByteArray)) b >>= fun r2 =>
 some r2.fout
def ZeW.M (b : Za) (r : (List ByteArray)) : Prop :=
 Zq Tryz.prog 84 [.agg (Za.fl b)] [] (fun d b => d = .c (some (0, 9)) (.sl (r.map c_S)) ∧ b = [])
theorem ZrH {b r} (hF : ZeW b = some r) : ZeW.M b r := by
 unfold ZeW at hF
 unfold ZeW.M
 refine en Tryz.func84 ?_
 obtain ⟨r2, hr2, hF⟩ := bind_some hF
 refine zdo 7 [8, 9, 10, 11, 12, 13, 14] [127, 126, 124, 120, 127, 111, 127] ?_
 refine zdp ?_
 refine zca [] [(3, 1000), (7, 1001), (4, 1002), (5, 1003), (1, 1004)] [] (ZiN hr2) ?_
 obtain rfl := Ze hF
 exact zrg [] (rn [(3052, 0)])

def ZG (l : (List ByteArray)) (ZaL : Nat) (r28 : (Zb)) (Zh : (List (ByteArray × Int))) (g2_c1 : Za) (Zu : (List ByteArray)) : Option (Zb) :=
 (match Zu with
 | x39 :: Zgo =>
 ZbW Zh 0 x39 >>= fun r42 =>
 ZG l (ZaL + 1) r28 (Ze0 Zh x39 (IntKind.i64.wrap (r42.1 - 1))) g2_c1 Zgo
 | [] =>
 some (Zb.mk r28.fcons Zh r28.fbad))
 partial_fixpoint
def ZG.M (l : (List ByteArray)) (r28 : (Zb)) (g2_c1 : Za) (ZaL : Nat) (Zh : (List (ByteArray × Int))) (Zu : (List ByteArray)) (r : Zb) : Prop :=
 ∀ ZaE : List ByteArray, l = ZaE ++ Zu → ZaL = ZaE.length → l.length ≤ maxLen → nL 34 Tryz.f78 [1, 1, 1, 0] (.tup []) [(1000, [(none, .pt 1001 0)]), (1001, [(none, .rf 1002), (none, .rf 1003), (none, .v (.bool r.fbad))]), (1002, [(none, .ob 165 (r.fcons.map (Zv c_S Zg)))]), (1003, [(none, .ob 167 (r.flocal.map (Zv c_S Zg)))]), (1004, (Za.bx g2_c1))] ⟨[(0, .c none (.rf 1003)), (23, .c none (.sl (l.map c_S))), (24, .c none (.v (.int .i64 ((l.length : Nat) : Int)))), (25, .c none (.v (.int .i64 ((ZaL : Nat) : Int))))], [(1000, [(none, .pt 1001 0)]), (1001, [(none, .rf 1002), (none, .rf 1003), (none, .v (.bool r28.fbad))]), (1002, [(none, .ob 165 (r28.fcons.map (Zv c_S Zg)))]), (1003, [(none, .ob 167 (Zh.map (Zv c_S Zg)))]), (1004, (Za.bx g2_c1))]⟩
theorem Zgv (l : (List ByteArray)) (r28 : (Zb)) (g2_c1 : Za) : ∀ ZaL Zh Zu r, ZG l ZaL r28 Zh g2_c1 Zu = some r → ZG.M l r28 g2_c1 ZaL Zh Zu r := by
 refine ZG.partial_correctness l r28 g2_c1 (ZG.M l r28 g2_c1) ?_
 intro stg_scope_with_stg_checker_bind_1_l2' Zg1 ZaL Zh Zu r hF
 unfold ZG.M nL
 intro ZaE ZcB Zcx hlen29
 refine AWL.step ?_
 refine zbl ZcB Zcx (fun x39 Zgo ZeM ZjB Zrj => ?_) (fun ZeM => ?_)
 ·subst ZeM
  refine zsr (Zr (f := c_S) rfl ZjB) ?_
  obtain ⟨r42, ZjT, hF⟩ := bind_some hF
  refine zgo ?_
  refine Zcr (m := Zh) (k := x39) ZaN (ev := Zg) ZjT rfl (fun x => Zbl x) rfl rfl (lc Zn) (zgo ?_)
  exact ZdG (m := Zh) (k := x39) (v := (IntKind.i64.wrap (r42.1 - 1))) ZaN (ev := Zg) (lc Zn) (znl (Zg1 _ _ _ _ hF _ (zlh ZcB) (zlk Zcx) hlen29))
 ·subst ZeM
  obtain rfl := Ze hF
  exact zre zi5
theorem Zg3 {l ZaL r28 Zh g2_c1 Zu r} (h : ZG l ZaL r28 Zh g2_c1 Zu = some r) : ZG.M l r28 g2_c1 ZaL Zh Zu r := (Zgv l r28 g2_c1) _ _ _ _ h

def ZE (l : (List ByteArray)) (ZaL : Nat) (g2_c0 : Zj) (r28 : (Zb)) (Zt : (List (ByteArray × Int))) (Zu : (List ByteArray)) : Option (Zb) :=
 (match Zu with
 | x39 :: Zgo =>
 ZbW Zt 0 x39 >>= fun r42 =>
 ZE l (ZaL + 1) g2_c0 r28 (Ze0 Zt x39 (IntKind.i64.wrap (r42.1 - 1))) Zgo
 | [] =>
 some (Zb.mk r28.fcons Zt r28.fbad))
 partial_fixpoint
def ZE.M (l : (List ByteArray)) (g2_c0 : Zj) (r28 : (Zb)) (ZaL : Nat) (Zt : (List (ByteArray × Int))) (Zu : (List ByteArray)) (r : Zb) : Prop :=
 ∀ ZaE : List ByteArray, l = ZaE ++ Zu → ZaL = ZaE.length → l.length ≤ maxLen → nL 34 Tryz.f78 [1, 1, 1, 0] (.tup []) [(1000, (Zj.bx g2_c0)), (1001, [(none, .pt 1002 0)]), (1002, [(none, .rf 1003), (none, .rf 1004), (none, .v (.bool r.fbad))]), (1003, [(none, .ob 165 (r.fcons.map (Zv c_S Zg)))]), (1004, [(none, .ob 167 (r.flocal.map (Zv c_S Zg)))])] ⟨[(0, .c none (.rf 1004)), (23, .c none (.sl (l.map c_S))), (24, .c none (.v (.int .i64 ((l.length : Nat) : Int)))), (25, .c none (.v (.int .i64 ((ZaL : Nat) : Int))))], [(1000, (Zj.bx g2_c0)), (1001, [(none, .pt 1002 0)]), (1002, [(none, .rf 1003), (none, .rf 1004), (none, .v (.bool r28.fbad))]), (1003, [(none, .ob 165 (r28.fcons.map (Zv c_S Zg)))]), (1004, [(none, .ob 167 (Zt.map (Zv c_S Zg)))])]⟩
theorem ZgN (l : (List ByteArray)) (g2_c0 : Zj) (r28 : (Zb)) : ∀ ZaL Zt Zu r, ZE l ZaL g2_c0 r28 Zt Zu = some r → ZE.M l g2_c0 r28 ZaL Zt Zu r := by
 refine ZE.partial_correctness l g2_c0 r28 (ZE.M l g2_c0 r28) ?_
 intro stg_scope_with_stg_checker_expr_1_l2' Zg4 ZaL Zt Zu r hF
 unfold ZE.M nL
 intro ZaE ZcB Zcx hlen29
 refine AWL.step ?_
 refine zbl ZcB Zcx (fun x39 Zgo ZeM ZjB Zrj => ?_) (fun ZeM => ?_)
 ·subst ZeM
  refine zsr (Zr (f := c_S) rfl ZjB) ?_
  obtain ⟨r42, ZjT, hF⟩ := bind_some hF
  refine zgo ?_
  refine Zcr (m := Zt) (k := x39) ZaN (ev := Zg) ZjT rfl (fun x => Zbl x) rfl rfl (lc Zn) (zgo ?_)
  exact ZdG (m := Zt) (k := x39) (v := (IntKind.i64.wrap (r42.1 - 1))) ZaN (ev := Zg) (lc Zn) (znl (Zg4 _ _ _ _ hF _ (zlh ZcB) (zlk Zcx) hlen29))
 ·subst ZeM
  obtain rfl := Ze hF
  exact zre zi5
theorem ZgW {l ZaL g2_c0 r28 Zt Zu r} (h : ZE l ZaL g2_c0 r28 Zt Zu = some r) : ZE.M l g2_c0 r28 ZaL Zt Zu r := (ZgN l g2_c0 r28) _ _ _ _ h

def ZD (l : (List ByteArray)) (ZaL : Nat) (r28 : (Zb)) (Zh : (List (ByteArray × Int))) (g2_c1 : Zj) (Zu : (List ByteArray)) : Option (Zb) :=
 (match Zu with
 | x39 :: Zgo =>
 ZbW Zh 0 x39 >>= fun r42 =>
 ZD l (ZaL + 1) r28 (Ze0 Zh x39 (IntKind.i64.wrap (r42.1 - 1))) g2_c1 Zgo
 | [] =>
 some (Zb.mk r28.fcons Zh r28.fbad))
 partial_fixpoint
def ZD.M (l : (List ByteArray)) (r28 : (Zb)) (g2_c1 : Zj) (ZaL : Nat) (Zh : (List (ByteArray × Int))) (Zu : (List ByteArray)) (r : Zb) : Prop :=
 ∀ ZaE : List ByteArray, l = ZaE ++ Zu → ZaL = ZaE.length → l.length ≤ maxLen → nL 34 Tryz.f78 [1, 1, 1, 0] (.tup []) [(1000, [(none, .pt 1001 0)]), (1001, [(none, .rf 1002), (none, .rf 1003), (none, .v (.bool r.fbad))]), (1002, [(none, .ob 165 (r.fcons.map (Zv c_S Zg)))]), (1003, [(none, .ob 167 (r.flocal.map (Zv c_S Zg)))]), (1004, (Zj.bx g2_c1))] ⟨[(0, .c none (.rf 1003)), (23, .c none (.sl (l.map c_S))), (24, .c none (.v (.int .i64 ((l.length : Nat) : Int)))), (25, .c none (.v (.int .i64 ((ZaL : Nat) : Int))))], [(1000, [(none, .pt 1001 0)]), (1001, [(none, .rf 1002), (none, .rf 1003), (none, .v (.bool r28.fbad))]), (1002, [(none, .ob 165 (r28.fcons.map (Zv c_S Zg)))]), (1003, [(none, .ob 167 (Zh.map (Zv c_S Zg)))]), (1004, (Zj.bx g2_c1))]⟩
theorem ZgA (l : (List ByteArray)) (r28 : (Zb)) (g2_c1 : Zj) : ∀ ZaL Zh Zu r, ZD l ZaL r28 Zh g2_c1 Zu = some r → ZD.M l r28 g2_c1 ZaL Zh Zu r := by
 refine ZD.partial_correctness l r28 g2_c1 (ZD.M l r28 g2_c1) ?_
 intro stg_scope_with_stg_checker_expr_2_l2' ZgZ ZaL Zh Zu r hF
 unfold ZD.M nL
 intro ZaE ZcB Zcx hlen29
 refine AWL.step ?_
 refine zbl ZcB Zcx (fun x39 Zgo ZeM ZjB Zrj => ?_) (fun ZeM => ?_)
 ·subst ZeM
  refine zsr (Zr (f := c_S) rfl ZjB) ?_
  obtain ⟨r42, ZjT, hF⟩ := bind_some hF
  refine zgo ?_
  refine Zcr (m := Zh) (k := x39) ZaN (ev := Zg) ZjT rfl (fun x => Zbl x) rfl rfl (lc Zn) (zgo ?_)
  exact ZdG (m := Zh) (k := x39) (v := (IntKind.i64.wrap (r42.1 - 1))) ZaN (ev := Zg) (lc Zn) (znl (ZgZ _ _ _ _ hF _ (zlh ZcB) (zlk Zcx) hlen29))
 ·subst ZeM
  obtain rfl := Ze hF
  exact zre zi5
theorem Zg6 {l ZaL r28 Zh g2_c1 Zu r} (h : ZD l ZaL r28 Zh g2_c1 Zu = some r) : ZD.M l r28 g2_c1 ZaL Zh Zu r := (ZgA l r28 g2_c1) _ _ _ _ h

def Zz (l : (List ByteArray)) (ZaL : Nat) (r28 : (Zb)) (Zh : (List (ByteArray × Int))) (g2_c1 : Zf) (Zu : (List ByteArray)) : Option (Zb) :=
 (match Zu with
 | x39 :: Zgo =>
 ZbW Zh 0 x39 >>= fun r42 =>
 Zz l (ZaL + 1) r28 (Ze0 Zh x39 (IntKind.i64.wrap (r42.1 - 1))) g2_c1 Zgo
 | [] =>
 some (Zb.mk r28.fcons Zh r28.fbad))
 partial_fixpoint
def Zz.M (l : (List ByteArray)) (r28 : (Zb)) (g2_c1 : Zf) (ZaL : Nat) (Zh : (List (ByteArray × Int))) (Zu : (List ByteArray)) (r : Zb) : Prop :=
 ∀ ZaE : List ByteArray, l = ZaE ++ Zu → ZaL = ZaE.length → l.length ≤ maxLen → nL 34 Tryz.f78 [1, 1, 1, 0] (.tup []) [(1000, [(none, .pt 1001 0)]), (1001, [(none, .rf 1002), (none, .rf 1003), (none, .v (.bool r.fbad))]), (1002, [(none, .ob 165 (r.fcons.map (Zv c_S Zg)))]), (1003, [(none, .ob 167 (r.flocal.map (Zv c_S Zg)))]), (1004, (Zf.bx g2_c1))] ⟨[(0, .c none (.rf 1003)), (23, .c none (.sl (l.map c_S))), (24, .c none (.v (.int .i64 ((l.length : Nat) : Int)))), (25, .c none (.v (.int .i64 ((ZaL : Nat) : Int))))], [(1000, [(none, .pt 1001 0)]), (1001, [(none, .rf 1002), (none, .rf 1003), (none, .v (.bool r28.fbad))]), (1002, [(none, .ob 165 (r28.fcons.map (Zv c_S Zg)))]), (1003, [(none, .ob 167 (Zh.map (Zv c_S Zg)))]), (1004, (Zf.bx g2_c1))]⟩
theorem Zge (l : (List ByteArray)) (r28 : (Zb)) (g2_c1 : Zf) : ∀ ZaL Zh Zu r, Zz l ZaL r28 Zh g2_c1 Zu = some r → Zz.M l r28 g2_c1 ZaL Zh Zu r := by
 refine Zz.partial_correctness l r28 g2_c1 (Zz.M l r28 g2_c1) ?_
 intro stg_scope_with_stg_checker_expr_3_1_l2' Zgm ZaL Zh Zu r hF
 unfold Zz.M nL
 intro ZaE ZcB Zcx hlen29
 refine AWL.step ?_
 refine zbl ZcB Zcx (fun x39 Zgo ZeM ZjB Zrj => ?_) (fun ZeM => ?_)
 ·subst ZeM
  refine zsr (Zr (f := c_S) rfl ZjB) ?_
  obtain ⟨r42, ZjT, hF⟩ := bind_some hF
  refine zgo ?_
  refine Zcr (m := Zh) (k := x39) ZaN (ev := Zg) ZjT rfl (fun x => Zbl x) rfl rfl (lc Zn) (zgo ?_)
  exact ZdG (m := Zh) (k := x39) (v := (IntKind.i64.wrap (r42.1 - 1))) ZaN (ev := Zg) (lc Zn) (znl (Zgm _ _ _ _ hF _ (zlh ZcB) (zlk Zcx) hlen29))
 ·subst ZeM
  obtain rfl := Ze hF
  exact zre zi5
theorem Zgl {l ZaL r28 Zh g2_c1 Zu r} (h : Zz l ZaL r28 Zh g2_c1 Zu = some r) : Zz.M l r28 g2_c1 ZaL Zh Zu r := (Zge l r28 g2_c1) _ _ _ _ h

def ZF (l : (List ByteArray)) (ZaL : Nat) (g2_c0 : Zj) (r28 : (Zb)) (Zt : (List (ByteArray × Int))) (Zu : (List ByteArray)) : Option (Zb) :=
 (match Zu with
 | x39 :: Zgo =>
 ZbW Zt 0 x39 >>= fun r42 =>
 ZF l (ZaL + 1) g2_c0 r28 (Ze0 Zt x39 (IntKind.i64.wrap (r42.1 - 1))) Zgo
 | [] =>
 some (Zb.mk r28.fcons Zt r28.fbad))
 partial_fixpoint
def ZF.M (l : (List ByteArray)) (g2_c0 : Zj) (r28 : (Zb)) (ZaL : Nat) (Zt : (List (ByteArray × Int))) (Zu : (List ByteArray)) (r : Zb) : Prop :=
 ∀ ZaE : List ByteArray, l = ZaE ++ Zu → ZaL = ZaE.length → l.length ≤ maxLen → nL 34 Tryz.f78 [1, 1, 1, 0] (.tup []) [(1000, (Zj.bx g2_c0)), (1001, [(none, .pt 1002 0)]), (1002, [(none, .rf 1003), (none, .rf 1004), (none, .v (.bool r.fbad))]), (1003, [(none, .ob 165 (r.fcons.map (Zv c_S Zg)))]), (1004, [(none, .ob 167 (r.flocal.map (Zv c_S Zg)))])] ⟨[(0, .c none (.rf 1004)), (23, .c none (.sl (l.map c_S))), (24, .c none (.v (.int .i64 ((l.length : Nat) : Int)))), (25, .c none (.v (.int .i64 ((ZaL : Nat) : Int))))], [(1000, (Zj.bx g2_c0)), (1001, [(none, .pt 1002 0)]), (1002, [(none, .rf 1003), (none, .rf 1004), (none, .v (.bool r28.fbad))]), (1003, [(none, .ob 165 (r28.fcons.map (Zv c_S Zg)))]), (1004, [(none, .ob 167 (Zt.map (Zv c_S Zg)))])]⟩
theorem ZgO (l : (List ByteArray)) (g2_c0 : Zj) (r28 : (Zb)) : ∀ ZaL Zt Zu r, ZF l ZaL g2_c0 r28 Zt Zu = some r → ZF.M l g2_c0 r28 ZaL Zt Zu r := by
 refine ZF.partial_correctness l g2_c0 r28 (ZF.M l g2_c0 r28) ?_
 intro stg_scope_with_stg_checker_expr_3_l2' ZgX ZaL Zt Zu r hF
 unfold ZF.M nL
 intro ZaE ZcB Zcx hlen29
 refine AWL.step ?_
 refine zbl ZcB Zcx (fun x39 Zgo ZeM ZjB Zrj => ?_) (fun ZeM => ?_)
 ·subst ZeM
  refine zsr (Zr (f := c_S) rfl ZjB) ?_
  obtain ⟨r42, ZjT, hF⟩ := bind_some hF
  refine zgo ?_
  refine Zcr (m := Zt) (k := x39) ZaN (ev := Zg) ZjT rfl (fun x => Zbl x) rfl rfl (lc Zn) (zgo ?_)
  exact ZdG (m := Zt) (k := x39) (v := (IntKind.i64.wrap (r42.1 - 1))) ZaN (ev := Zg) (lc Zn) (znl (ZgX _ _ _ _ hF _ (zlh ZcB) (zlk Zcx) hlen29))
 ·subst ZeM
  obtain rfl := Ze hF
  exact zre zi5
theorem Zg5 {l ZaL g2_c0 r28 Zt Zu r} (h : ZF l ZaL g2_c0 r28 Zt Zu = some r) : ZF.M l g2_c0 r28 ZaL Zt Zu r := (ZgO l g2_c0 r28) _ _ _ _ h

def Ze3 (e : Zj) (Zyg : Bool) : Option (Bool) :=
 if Zyg = true then
 some ((((e.fArgs.length : Nat) : Int) == ((e.fArgs.length : Nat) : Int)) && ((((e.fBinds.length : Nat) : Int) == 0) && ((((e.fKids.length : Nat) : Int) == 0) && ((((e.fAlts.length : Nat) : Int) == 0) && true))))
 else
 if (e.fOp == 5) = true then
 some (((((e.fArgs.length : Nat) : Int) == 0) && ((((e.fBinds.length : Nat) : Int) == (if ((e.fBinds.length : Nat) : Int) > 1 then ((e.fBinds.length : Nat) : Int) else 1)) && ((((e.fKids.length : Nat) : Int) == 1) && ((((e.fAlts.length : Nat) : Int) == 0) && true)))) && (e.fRec || (((e.fBinds.length : Nat) : Int) == 1)))
 else
 if (e.fOp == 6) = true then
 some ((((e.fArgs.length : Nat) : Int) == 0) && ((((e.fBinds.length : Nat) : Int) == 0) && ((((e.fKids.length : Nat) : Int) == 1) && ((((e.fAlts.length : Nat) : Int) == (if ((e.fAlts.length : Nat) : Int) > 1 then ((e.fAlts.length : Nat) : Int) else 1)) && true))))
 else
 some false
def Ze3.M (e : Zj) (Zyg : Bool) (r : Bool) : Prop :=
 e.fArgs.length ≤ maxLen → e.fBinds.length ≤ maxLen → e.fKids.length ≤ maxLen → e.fAlts.length ≤ maxLen → nP 112 Tryz.f110 [1, 1, 1, 1, 0, 1, 0, 1, 1, 1, 1, 1] (.c none (.v (.bool r))) [] ⟨[(1, .ptr 1 0), (4, .ptr 4 0), (60, .c none (.v (.int .i64 e.fOp))), (75, .c none (.v (.bool Zyg)))], [(1, (Zj.bx e)), (4, [(none, .v (.int .i64 ((e.fArgs.length : Nat) : Int))), (none, .v (.int .i64 ((e.fBinds.length : Nat) : Int))), (none, .v (.int .i64 ((e.fKids.length : Nat) : Int))), (none, .v (.int .i64 ((e.fAlts.length : Nat) : Int)))])]⟩
theorem Zni {e Zyg r} (hF : Ze3 e Zyg = some r) : Ze3.M e Zyg r := by
 unfold Ze3 at hF
 unfold Ze3.M nP
 intro hlen13 hlen14 hlen15 hlen16
 refine zbr hF (fun Zje hF => ?_) (fun Zje hF => ?_)
 ·refine zln fun hlen22 => ?_
  obtain rfl := Ze hF
  exact zre []
 ·refine zbr hF (fun Zh4 hF => ?_) (fun Zh4 hF => ?_)
  ·refine sq ?_
   refine zck [] [] [(2, .c none (.v (.bool (((((e.fArgs.length : Nat) : Int) == 0) && ((((e.fBinds.length : Nat) : Int) == (if ((e.fBinds.length : Nat) : Int) > 1 then ((e.fBinds.length : Nat) : Int) else 1)) && ((((e.fKids.length : Nat) : Int) == 1) && ((((e.fAlts.length : Nat) : Int) == 0) && true)))) && (e.fRec || (((e.fBinds.length : Nat) : Int) == 1))))))] ?_ ?_
   ·exact zpt
   obtain rfl := Ze hF
   exact zre []
  ·refine zbr hF (fun Zto hF => ?_) (fun Zto hF => ?_)
   ·refine zln fun hlen29 => ?_
    obtain rfl := Ze hF
    exact zre []
   ·obtain rfl := Ze hF
    exact zre []

def Zgr (e : Zj) : Option (Bool) :=
 Zei e.fName >>= fun r6 =>
 if (((!(((((e.fOp == 2) || (e.fOp == 3)) || (e.fOp == 4)) || (e.fOp == 6)) == r6)) || ((!((((e.fOp == 2) || (e.fOp == 3)) || (e.fOp == 4)) || (e.fOp == 6))) && (!(e.fName.toList == (ByteArray.mk #[]).toList)))) || (e.fRec && (e.fOp != 5))) = true then
 some false
 else
 if (e.fOp == 1) = true then
 some ((((e.fArgs.length : Nat) : Int) == 1) && ((((e.fBinds.length : Nat) : Int) == 0) && ((((e.fKids.length : Nat) : Int) == 0) && ((((e.fAlts.length : Nat) : Int) == 0) && true))))
 else
 if (e.fOp == 2) = true then
 some ((((e.fArgs.length : Nat) : Int) == (if ((e.fArgs.length : Nat) : Int) > 1 then ((e.fArgs.length : Nat) : Int) else 1)) && ((((e.fBinds.length : Nat) : Int) == 0) && ((((e.fKids.length : Nat) : Int) == 0) && ((((e.fAlts.length : Nat) : Int) == 0) && true))))
 else
 if (e.fOp == 3) = true then
 Ze3 e (e.fOp == 3)
 else
 Ze3 e (e.fOp == 4)
def Zgr.M (e : Zj) (r : Bool) : Prop :=
 Zq Tryz.prog 110 [.agg (Zj.fl e)] [] (fun d b => d = .c none (.v (.bool r)) ∧ b = [])
theorem Zvh {e r} (hF : Zgr e = some r) : Zgr.M e r := by
 unfold Zgr at hF
 unfold Zgr.M
 refine en Tryz.func110 ?_
 refine ns ?_
 refine sq ?_
 refine zck [1] [1] [(3, .c none (.v (.bool ((((e.fOp == 2) || (e.fOp == 3)) || (e.fOp == 4)) || (e.fOp == 6)))))] ?_ ?_
 ·exact zpt
 obtain ⟨r6, hr6, hF⟩ := bind_some hF
 refine sq (sq ?_)
 refine zck [1] [1] [(45, .c none (.v (.bool (((!(((((e.fOp == 2) || (e.fOp == 3)) || (e.fOp == 4)) || (e.fOp == 6)) == r6)) || ((!((((e.fOp == 2) || (e.fOp == 3)) || (e.fOp == 4)) || (e.fOp == 6))) && (!(e.fName.toList == (ByteArray.mk #[]).toList)))) || (e.fRec && (e.fOp != 5))))))] ?_ ?_
 ·refine zca [] [] [] (Zhh hr6) ?_
  refine zbf (fun hc7 => ?_) (fun hc7 => ?_)
  ·refine zgo ?_
   exact zwe
  ·refine zbt (fun hc8 => ?_) (fun hc8 => ?_)
   ·refine zbf (fun hc9 => ?_) (fun hc9 => ?_)
    ·refine zgo ?_
     exact zwe
    ·refine zbt (fun ZhI => ?_) (fun ZhI => ?_)
     ·refine zgo ?_
      exact zwe
     ·refine zgo ?_
      exact zwe
   ·refine zbt (fun Zeo => ?_) (fun Zeo => ?_)
    ·refine zgo ?_
     exact zwe
    ·refine zgo ?_
     exact zwe
 refine zbr hF (fun Zfl hF => ?_) (fun Zfl hF => ?_)
 ·obtain rfl := Ze hF
  exact zre []
 ·refine zln fun hlen13 => ?_
  refine zln fun hlen14 => ?_
  refine zln fun hlen15 => ?_
  refine zln fun hlen16 => ?_
  refine zbr hF (fun Zfr hF => ?_) (fun Zfr hF => ?_)
  ·obtain rfl := Ze hF
   exact zre []
  ·refine zbr hF (fun Znq hF => ?_) (fun Znq hF => ?_)
   ·refine zln fun hlen19 => ?_
    obtain rfl := Ze hF
    exact zre []
   ·refine zbr hF (fun ZrI hF => ?_) (fun ZrI hF => ?_)
    ·refine nw ?_
     exact zja (Zni hF hlen13 hlen14 hlen15 hlen16)
    ·refine ns ?_
     exact zja (Zni hF hlen13 hlen14 hlen15 hlen16)

mutual
def ZaP (c : Zb) (b : Za) (top : Bool) : Option (Zb) :=
 if (b.fOp == 1) = true then
 Zy c (decide (((b.fParams.length : Nat) : Int) > 0)) >>= fun r75 =>
 Zbr top b r75.fbad r75.fcons r75.flocal
 else
 if (b.fOp == 2) = true then
 Zy c (((b.fParams.length : Nat) : Int) == 0) >>= fun r78 =>
 Zbr top b r78.fbad r78.fcons r78.flocal
 else
 if (b.fOp == 3) = true then
 Zy c ((((b.fParams.length : Nat) : Int) == 0) && (b.fBody.fOp == 3)) >>= fun r81 =>
 Zbr top b r81.fbad r81.fcons r81.flocal
 else
 Zbr top b true c.fcons c.flocal
 partial_fixpoint
def Zbr (top : Bool) (b : Za) (Zac : Bool) (Zaa : (List (ByteArray × Int))) (Zm : (List (ByteArray × Int))) : Option (Zb) :=
 Zei b.fName >>= fun r14 =>
 (if r14 = true then ZdB b.fParams >>= fun r15 =>
 some r15 else some false) >>= fun c16 =>
 Zy (Zb.mk Zaa Zm Zac) c16 >>= fun r17 =>
 ZeW b >>= fun r42 =>
 ZbK top ([]) r42 0 b r17 r42
 partial_fixpoint
def ZbK (top : Bool) (Zlq : (List ByteArray)) (r42 : ((List ByteArray))) (Zvg : Nat) (b : Za) (r17 : (Zb)) (ZmE : (List ByteArray)) : Option (Zb) :=
 (match ZmE with
 | x59 :: ZEv =>
 (if (!top) = true then ZbW r17.flocal 0 x59 >>= fun r62 =>
 some (decide (r62.1 > 0)) else some false) >>= fun c63 =>
 if c63 = true then
 ZaK ((Zlq.length + ([x59]).length) * 16 ≤ 140737488355328) >>= fun _ =>
 ZbK top (Zlq ++ ([x59])) r42 (Zvg + 1) b r17 ZEv
 else
 ZbK top Zlq r42 (Zvg + 1) b r17 ZEv
 | [] =>
 ZaB Zlq b.fFree >>= fun r69 =>
 Zy r17 r69 >>= fun r70 =>
 Zae b.fParams r70 b >>= fun r72 =>
 some r72)
 partial_fixpoint
def Zae (l : (List ByteArray)) (g2_c0 : Zb) (g2_c1 : Za) : Option (Zb) :=
 ZZ l 0 g2_c0 g2_c0.flocal g2_c1 l
 partial_fixpoint
def ZZ (l : (List ByteArray)) (Zb5 : Nat) (g2_c0 : Zb) (Zh : (List (ByteArray × Int))) (g2_c1 : Za) (ZN : (List ByteArray)) : Option (Zb) :=
 (match ZN with
 | x24 :: Zhi =>
 ZbW Zh 0 x24 >>= fun r27 =>
 ZZ l (Zb5 + 1) g2_c0 (Ze0 Zh x24 (IntKind.i64.wrap (r27.1 + 1))) g2_c1 Zhi
 | [] =>
 ZbH (Zb.mk g2_c0.fcons Zh g2_c0.fbad) g2_c1 >>= fun r28 =>
 ZG l 0 r28 r28.flocal g2_c1 l)
 partial_fixpoint
def ZbH (v0_ : Zb) (v1_ : Za) : Option (Zb) :=
 Za1 v0_ v1_.fBody >>= fun r1 =>
 some r1
 partial_fixpoint
def Za1 (c : Zb) (e : Zj) : Option (Zb) :=
 Zgr e >>= fun r3 =>
 Zy c r3 >>= fun r4 =>
 if r4.fbad = true then
 some r4
 else
 Zak e 0 r4.fbad r4.fcons r4.flocal e.fArgs
 partial_fixpoint
def Zak (e : Zj) (ZuN : Nat) (Zac : Bool) (Zaa : (List (ByteArray × Int))) (Zm : (List (ByteArray × Int))) (ZmG : (List ZJ)) : Option (Zb) :=
 (match ZmG with
 | x55 :: ZEC =>
 Zis x55 >>= fun r60 =>
 Zy (Zb.mk Zaa Zm Zac) r60 >>= fun r61 =>
 if (x55.fOp == 1) = true then
 Zb9 r61 x55.fName >>= fun r63 =>
 Zak e (ZuN + 1) r63.fbad r63.fcons r63.flocal ZEC
 else
 Zak e (ZuN + 1) r61.fbad r61.fcons r61.flocal ZEC
 | [] =>
 if (e.fOp == 2) = true then
 Zb9 (Zb.mk Zaa Zm Zac) e.fName >>= fun r65 =>
 some r65
 else
 if (e.fOp == 3) = true then
 ZbG (Zb.mk Zaa Zm Zac) e.fName ((e.fArgs.length : Nat) : Int) >>= fun r68 =>
 some r68
 else
 if (e.fOp == 5) = true then
 Zfw e.fBinds >>= fun r70 =>
 ZdB r70 >>= fun r73 =>
 Zy (Zb.mk Zaa Zm Zac) r73 >>= fun r74 =>
 if e.fRec = true then
 Zan r70 e r74 >>= fun r80 =>
 Zb1 r70 e r80.fbad r80.fcons r80.flocal
 else
 Zbc e r74 >>= fun r81 =>
 Zb1 r70 e r81.fbad r81.fcons r81.flocal
 else
 if (e.fOp == 6) = true then
 Zev e.fName e.fAlts >>= fun r85 =>
 Zy (Zb.mk Zaa Zm Zac) r85 >>= fun r86 =>
 (ixI e.fKids 0) >>= fun x89 =>
 Za1 r86 x89 >>= fun r90 =>
 Zao ([e.fName]) e r90 >>= fun r92 =>
 some r92
 else
 some (Zb.mk Zaa Zm Zac))
 partial_fixpoint
def Zao (l : (List ByteArray)) (g2_c0 : Zj) (g2_c1 : Zb) : Option (Zb) :=
 Z1 l 0 g2_c0 g2_c1 g2_c1.flocal l
 partial_fixpoint
def Z1 (l : (List ByteArray)) (Zb5 : Nat) (g2_c0 : Zj) (g2_c1 : Zb) (Zt : (List (ByteArray × Int))) (ZN : (List ByteArray)) : Option (Zb) :=
 (match ZN with
 | x24 :: Zhi =>
 ZbW Zt 0 x24 >>= fun r27 =>
 Z1 l (Zb5 + 1) g2_c0 g2_c1 (Ze0 Zt x24 (IntKind.i64.wrap (r27.1 + 1))) Zhi
 | [] =>
 Zb0 g2_c0 (Zb.mk g2_c1.fcons Zt g2_c1.fbad) >>= fun r28 =>
 ZF l 0 g2_c0 r28 r28.flocal l)
 partial_fixpoint
def Zb0 (v0_ : Zj) (v1_ : Zb) : Option (Zb) :=
 Za7 v0_ 0 v1_.fbad v1_.fcons v1_.flocal
 partial_fixpoint
def Za7 (v0_ : Zj) (x_7 : Nat) (Zaj : Bool) (Zh : (List (ByteArray × Int))) (Zt : (List (ByteArray × Int))) : Option (Zb) :=
 if (decide (((x_7 : Nat) : Int) < ((v0_.fAlts.length : Nat) : Int))) = true then
 (v0_.fAlts[x_7]?) >>= fun x58 =>
 if (x58.fOp == 1) = true then
 ZbG (Zb.mk Zh Zt Zaj) x58.fName ((x58.fVars.length : Nat) : Int) >>= fun r66 =>
 ZaM v0_ x_7 x58 r66.fbad r66.fcons r66.flocal
 else
 ZaM v0_ x_7 x58 Zaj Zh Zt
 else
 some (Zb.mk Zh Zt Zaj)
 partial_fixpoint
def ZaM (v0_ : Zj) (x_7 : Nat) (x58 : Zf) (Zaj : Bool) (Zh : (List (ByteArray × Int))) (Zt : (List (ByteArray × Int))) : Option (Zb) :=
 Zai x58.fVars (Zb.mk Zh Zt Zaj) x58 >>= fun r63 =>
 Za7 v0_ (x_7 + 1) r63.fbad r63.fcons r63.flocal
 partial_fixpoint
def Zai (l : (List ByteArray)) (g2_c0 : Zb) (g2_c1 : Zf) : Option (Zb) :=
 ZV l 0 g2_c0 g2_c0.flocal g2_c1 l
 partial_fixpoint
def ZV (l : (List ByteArray)) (Zb5 : Nat) (g2_c0 : Zb) (Zh : (List (ByteArray × Int))) (g2_c1 : Zf) (ZN : (List ByteArray)) : Option (Zb) :=
 (match ZN with
 | x24 :: Zhi =>
 ZbW Zh 0 x24 >>= fun r27 =>
 ZV l (Zb5 + 1) g2_c0 (Ze0 Zh x24 (IntKind.i64.wrap (r27.1 + 1))) g2_c1 Zhi
 | [] =>
 Zbw (Zb.mk g2_c0.fcons Zh g2_c0.fbad) g2_c1 >>= fun r28 =>
 Zz l 0 r28 r28.flocal g2_c1 l)
 partial_fixpoint
def Zbw (v0_ : Zb) (v1_ : Zf) : Option (Zb) :=
 Za1 v0_ v1_.fBody >>= fun r1 =>
 some r1
 partial_fixpoint
def Zbc (v0_ : Zj) (v1_ : Zb) : Option (Zb) :=
 Za6 v0_ 0 v1_.fbad v1_.fcons v1_.flocal v0_.fBinds
 partial_fixpoint
def Za6 (v0_ : Zj) (x_7 : Nat) (Zaj : Bool) (Zh : (List (ByteArray × Int))) (Zt : (List (ByteArray × Int))) (Zd3 : (List Za)) : Option (Zb) :=
 (match Zd3 with
 | x11 :: Zwo =>
 ZaP (Zb.mk Zh Zt Zaj) x11 false >>= fun r14 =>
 Za6 v0_ (x_7 + 1) r14.fbad r14.fcons r14.flocal Zwo
 | [] =>
 some (Zb.mk Zh Zt Zaj))
 partial_fixpoint
def Zb1 (r70 : ((List ByteArray))) (e : Zj) (Zac : Bool) (Zaa : (List (ByteArray × Int))) (Zm : (List (ByteArray × Int))) : Option (Zb) :=
 Zap r70 (Zb.mk Zaa Zm Zac) e >>= fun r78 =>
 some r78
 partial_fixpoint
def Zap (l : (List ByteArray)) (g2_c0 : Zb) (g2_c1 : Zj) : Option (Zb) :=
 ZY l 0 g2_c0 g2_c0.flocal g2_c1 l
 partial_fixpoint
def ZY (l : (List ByteArray)) (Zb5 : Nat) (g2_c0 : Zb) (Zh : (List (ByteArray × Int))) (g2_c1 : Zj) (ZN : (List ByteArray)) : Option (Zb) :=
 (match ZN with
 | x24 :: Zhi =>
 ZbW Zh 0 x24 >>= fun r27 =>
 ZY l (Zb5 + 1) g2_c0 (Ze0 Zh x24 (IntKind.i64.wrap (r27.1 + 1))) g2_c1 Zhi
 | [] =>
 Zb6 (Zb.mk g2_c0.fcons Zh g2_c0.fbad) g2_c1 >>= fun r28 =>
 ZD l 0 r28 r28.flocal g2_c1 l)
 partial_fixpoint
def Zb6 (v0_ : Zb) (v1_ : Zj) : Option (Zb) :=
 (ixI v1_.fKids 0) >>= fun x3 =>
 Za1 v0_ x3 >>= fun r4 =>
 some r4
 partial_fixpoint
def Zan (l : (List ByteArray)) (g2_c0 : Zj) (g2_c1 : Zb) : Option (Zb) :=
 Z0 l 0 g2_c0 g2_c1 g2_c1.flocal l
 partial_fixpoint
def Z0 (l : (List ByteArray)) (Zb5 : Nat) (g2_c0 : Zj) (g2_c1 : Zb) (Zt : (List (ByteArray × Int))) (ZN : (List ByteArray)) : Option (Zb) :=
 (match ZN with
 | x24 :: Zhi =>
 ZbW Zt 0 x24 >>= fun r27 =>
 Z0 l (Zb5 + 1) g2_c0 g2_c1 (Ze0 Zt x24 (IntKind.i64.wrap (r27.1 + 1))) Zhi
 | [] =>
 Zbc g2_c0 (Zb.mk g2_c1.fcons Zt g2_c1.fbad) >>= fun r28 =>
 ZE l 0 g2_c0 r28 r28.flocal l)
 partial_fixpoint
end
def ZaP.M (c : Zb) (b : Za) (top : Bool) (r : Zb) : Prop :=
 Zq Tryz.prog 52 [.ptr 1000 0, .agg (Za.fl b), .c none (.v (.bool top))] [(1000, [(none, .rf 1001), (none, .rf 1002), (none, .v (.bool c.fbad))]), (1001, [(none, .ob 165 (c.fcons.map (Zv c_S Zg)))]), (1002, [(none, .ob 167 (c.flocal.map (Zv c_S Zg)))])] (fun d b => d = .tup [] ∧ b = [(1000, [(none, .rf 1001), (none, .rf 1002), (none, .v (.bool r.fbad))]), (1001, [(none, .ob 165 (r.fcons.map (Zv c_S Zg)))]), (1002, [(none, .ob 167 (r.flocal.map (Zv c_S Zg)))])])
def Zbr.M (top : Bool) (b : Za) (Zac : Bool) (Zaa : (List (ByteArray × Int))) (Zm : (List (ByteArray × Int))) (r : Zb) : Prop :=
 nP 91 Tryz.f52 [1, 1] (.tup []) [(1000, [(none, .rf 1001), (none, .rf 1002), (none, .v (.bool r.fbad))]), (1001, [(none, .ob 165 (r.fcons.map (Zv c_S Zg)))]), (1002, [(none, .ob 167 (r.flocal.map (Zv c_S Zg)))])] ⟨[(2, .c none (.v (.bool top))), (3, .ptr 3 0), (4, .ptr 4 0)], [(3, [(none, .pt 1000 0)]), (4, (Za.bx b)), (1000, [(none, .rf 1001), (none, .rf 1002), (none, .v (.bool Zac))]), (1001, [(none, .ob 165 (Zaa.map (Zv c_S Zg)))]), (1002, [(none, .ob 167 (Zm.map (Zv c_S Zg)))])]⟩
def ZbK.M (top : Bool) (Zlq : (List ByteArray)) (r42 : ((List ByteArray))) (Zvg : Nat) (b : Za) (r17 : (Zb)) (ZmE : (List ByteArray)) (r : Zb) : Prop :=
 ∀ Zsf : List ByteArray, r42 = Zsf ++ ZmE → Zvg = Zsf.length → r42.length ≤ maxLen → nL 91 Tryz.f52 [1, 1, 1, 1, 0, 1, 0] (.tup []) [(1000, [(none, .rf 1001), (none, .rf 1002), (none, .v (.bool r.fbad))]), (1001, [(none, .ob 165 (r.fcons.map (Zv c_S Zg)))]), (1002, [(none, .ob 167 (r.flocal.map (Zv c_S Zg)))])] ⟨[(2, .c none (.v (.bool top))), (3, .ptr 3 0), (4, .ptr 4 0), (6, .c (some (6, 9)) (.sl (Zlq.map c_S))), (55, .c (some (55, 9)) (.sl (r42.map c_S))), (56, .c none (.v (.int .i64 ((r42.length : Nat) : Int)))), (57, .c none (.v (.int .i64 ((Zvg : Nat) : Int))))], [(3, [(none, .pt 1000 0)]), (4, (Za.bx b)), (1000, [(none, .rf 1001), (none, .rf 1002), (none, .v (.bool r17.fbad))]), (1001, [(none, .ob 165 (r17.fcons.map (Zv c_S Zg)))]), (1002, [(none, .ob 167 (r17.flocal.map (Zv c_S Zg)))])]⟩
def Zae.M (l : (List ByteArray)) (g2_c0 : Zb) (g2_c1 : Za) (r : Zb) : Prop :=
 Zq Tryz.prog 78 [.c none (.rf 1003), .c none (.sl (l.map c_S)), .c none (.cl 86 [] [.pt 1000 0, .pt 1004 0])] [(1000, [(none, .pt 1001 0)]), (1001, [(none, .rf 1002), (none, .rf 1003), (none, .v (.bool g2_c0.fbad))]), (1002, [(none, .ob 165 (g2_c0.fcons.map (Zv c_S Zg)))]), (1003, [(none, .ob 167 (g2_c0.flocal.map (Zv c_S Zg)))]), (1004, (Za.bx g2_c1))] (fun d b => d = .tup [] ∧ b = [(1000, [(none, .pt 1001 0)]), (1001, [(none, .rf 1002), (none, .rf 1003), (none, .v (.bool r.fbad))]), (1002, [(none, .ob 165 (r.fcons.map (Zv c_S Zg)))]), (1003, [(none, .ob 167 (r.flocal.map (Zv c_S Zg)))]), (1004, (Za.bx g2_c1))])
def ZZ.M (l : (List ByteArray)) (Zb5 : Nat) (g2_c0 : Zb) (Zh : (List (ByteArray × Int))) (g2_c1 : Za) (ZN : (List ByteArray)) (r : Zb) : Prop :=
 ∀ Za4 : List ByteArray, l = Za4 ++ ZN → Zb5 = Za4.length → l.length ≤ maxLen → nL 34 Tryz.f78 [0, 1, 0] (.tup []) [(1000, [(none, .pt 1001 0)]), (1001, [(none, .rf 1002), (none, .rf 1003), (none, .v (.bool r.fbad))]), (1002, [(none, .ob 165 (r.fcons.map (Zv c_S Zg)))]), (1003, [(none, .ob 167 (r.flocal.map (Zv c_S Zg)))]), (1004, (Za.bx g2_c1))] ⟨[(0, .c none (.rf 1003)), (1, .c none (.sl (l.map c_S))), (2, .c none (.cl 86 [] [.pt 1000 0, .pt 1004 0])), (10, .c none (.sl (l.map c_S))), (11, .c none (.v (.int .i64 ((l.length : Nat) : Int)))), (12, .c none (.v (.int .i64 ((Zb5 : Nat) : Int))))], [(1000, [(none, .pt 1001 0)]), (1001, [(none, .rf 1002), (none, .rf 1003), (none, .v (.bool g2_c0.fbad))]), (1002, [(none, .ob 165 (g2_c0.fcons.map (Zv c_S Zg)))]), (1003, [(none, .ob 167 (Zh.map (Zv c_S Zg)))]), (1004, (Za.bx g2_c1))]⟩
def ZbH.M (v0_ : Zb) (v1_ : Za) (r : Zb) : Prop :=
 Zq Tryz.prog 86 [.ptr 1000 0, .ptr 1004 0] [(1000, [(none, .pt 1001 0)]), (1001, [(none, .rf 1002), (none, .rf 1003), (none, .v (.bool v0_.fbad))]), (1002, [(none, .ob 165 (v0_.fcons.map (Zv c_S Zg)))]), (1003, [(none, .ob 167 (v0_.flocal.map (Zv c_S Zg)))]), (1004, (Za.bx v1_))] (fun d b => d = .tup [] ∧ b = [(1000, [(none, .pt 1001 0)]), (1001, [(none, .rf 1002), (none, .rf 1003), (none, .v (.bool r.fbad))]), (1002, [(none, .ob 165 (r.fcons.map (Zv c_S Zg)))]), (1003, [(none, .ob 167 (r.flocal.map (Zv c_S Zg)))]), (1004, (Za.bx v1_))])
def Za1.M (c : Zb) (e : Zj) (r : Zb) : Prop :=
 Zq Tryz.prog 87 [.ptr 1000 0, .agg (Zj.fl e)] [(1000, [(none, .rf 1001), (none, .rf 1002), (none, .v (.bool c.fbad))]), (1001, [(none, .ob 165 (c.fcons.map (Zv c_S Zg)))]), (1002, [(none, .ob 167 (c.flocal.map (Zv c_S Zg)))])] (fun d b => d = .tup [] ∧ b = [(1000, [(none, .rf 1001), (none, .rf 1002), (none, .v (.bool r.fbad))]), (1001, [(none, .ob 165 (r.fcons.map (Zv c_S Zg)))]), (1002, [(none, .ob 167 (r.flocal.map (Zv c_S Zg)))])])
def Zak.M (e : Zj) (ZuN : Nat) (Zac : Bool) (Zaa : (List (ByteArray × Int))) (Zm : (List (ByteArray × Int))) (ZmG : (List ZJ)) (r : Zb) : Prop :=
 ∀ Zsn : List ZJ, e.fArgs = Zsn ++ ZmG → ZuN = Zsn.length → e.fArgs.length ≤ maxLen → nL 104 Tryz.f87 [1, 1, 1, 0, 1, 0] (.tup []) [(1000, [(none, .rf 1001), (none, .rf 1002), (none, .v (.bool r.fbad))]), (1001, [(none, .ob 165 (r.fcons.map (Zv c_S Zg)))]), (1002, [(none, .ob 167 (r.flocal.map (Zv c_S Zg)))])] ⟨[(2, .ptr 2 0), (3, .ptr 3 0), (17, .c none (.sl (e.fArgs.map ZJ.cells))), (18, .c none (.v (.int .i64 ((e.fArgs.length : Nat) : Int)))), (19, .c none (.v (.int .i64 ((ZuN : Nat) : Int))))], [(2, [(none, .pt 1000 0)]), (3, (Zj.bx e)), (1000, [(none, .rf 1001), (none, .rf 1002), (none, .v (.bool Zac))]), (1001, [(none, .ob 165 (Zaa.map (Zv c_S Zg)))]), (1002, [(none, .ob 167 (Zm.map (Zv c_S Zg)))])]⟩
def Zao.M (l : (List ByteArray)) (g2_c0 : Zj) (g2_c1 : Zb) (r : Zb) : Prop :=
 Zq Tryz.prog 78 [.c none (.rf 1004), .c none (.sl (l.map c_S)), .c none (.cl 117 [] [.pt 1000 0, .pt 1001 0])] [(1000, (Zj.bx g2_c0)), (1001, [(none, .pt 1002 0)]), (1002, [(none, .rf 1003), (none, .rf 1004), (none, .v (.bool g2_c1.fbad))]), (1003, [(none, .ob 165 (g2_c1.fcons.map (Zv c_S Zg)))]), (1004, [(none, .ob 167 (g2_c1.flocal.map (Zv c_S Zg)))])] (fun d b => d = .tup [] ∧ b = [(1000, (Zj.bx g2_c0)), (1001, [(none, .pt 1002 0)]), (1002, [(none, .rf 1003), (none, .rf 1004), (none, .v (.bool r.fbad))]), (1003, [(none, .ob 165 (r.fcons.map (Zv c_S Zg)))]), (1004, [(none, .ob 167 (r.flocal.map (Zv c_S Zg)))])])
def Z1.M (l : (List ByteArray)) (Zb5 : Nat) (g2_c0 : Zj) (g2_c1 : Zb) (Zt : (List (ByteArray × Int))) (ZN : (List ByteArray)) (r : Zb) : Prop :=
 ∀ Za4 : List ByteArray, l = Za4 ++ ZN → Zb5 = Za4.length → l.length ≤ maxLen → nL 34 Tryz.f78 [0, 1, 0] (.tup []) [(1000, (Zj.bx g2_c0)), (1001, [(none, .pt 1002 0)]), (1002, [(none, .rf 1003), (none, .rf 1004), (none, .v (.bool r.fbad))]), (1003, [(none, .ob 165 (r.fcons.map (Zv c_S Zg)))]), (1004, [(none, .ob 167 (r.flocal.map (Zv c_S Zg)))])] ⟨[(0, .c none (.rf 1004)), (1, .c none (.sl (l.map c_S))), (2, .c none (.cl 117 [] [.pt 1000 0, .pt 1001 0])), (10, .c none (.sl (l.map c_S))), (11, .c none (.v (.int .i64 ((l.length : Nat) : Int)))), (12, .c none (.v (.int .i64 ((Zb5 : Nat) : Int))))], [(1000, (Zj.bx g2_c0)), (1001, [(none, .pt 1002 0)]), (1002, [(none, .rf 1003), (none, .rf 1004), (none, .v (.bool g2_c1.fbad))]), (1003, [(none, .ob 165 (g2_c1.fcons.map (Zv c_S Zg)))]), (1004, [(none, .ob 167 (Zt.map (Zv c_S Zg)))])]⟩
def Zb0.M (v0_ : Zj) (v1_ : Zb) (r : Zb) : Prop :=
 Zq Tryz.prog 117 [.ptr 1000 0, .ptr 1001 0] [(1000, (Zj.bx v0_)), (1001, [(none, .pt 1002 0)]), (1002, [(none, .rf 1003), (none, .rf 1004), (none, .v (.bool v1_.fbad))]), (1003, [(none, .ob 165 (v1_.fcons.map (Zv c_S Zg)))]), (1004, [(none, .ob 167 (v1_.flocal.map (Zv c_S Zg)))])] (fun d b => d = .tup [] ∧ b = [(1000, (Zj.bx v0_)), (1001, [(none, .pt 1002 0)]), (1002, [(none, .rf 1003), (none, .rf 1004), (none, .v (.bool r.fbad))]), (1003, [(none, .ob 165 (r.fcons.map (Zv c_S Zg)))]), (1004, [(none, .ob 167 (r.flocal.map (Zv c_S Zg)))])])
def Za7.M (v0_ : Zj) (x_7 : Nat) (Zaj : Bool) (Zh : (List (ByteArray × Int))) (Zt : (List (ByteArray × Int))) (r : Zb) : Prop :=
 v0_.fAlts.length ≤ maxLen → nL 30 Tryz.f117 [1, 0] (.tup []) [(1000, (Zj.bx v0_)), (1001, [(none, .pt 1002 0)]), (1002, [(none, .rf 1003), (none, .rf 1004), (none, .v (.bool r.fbad))]), (1003, [(none, .ob 165 (r.fcons.map (Zv c_S Zg)))]), (1004, [(none, .ob 167 (r.flocal.map (Zv c_S Zg)))])] ⟨[(1, .ptr 1001 0), (5, .c none (.sl (v0_.fAlts.map Zf.cells))), (6, .c none (.v (.int .i64 ((v0_.fAlts.length : Nat) : Int)))), (7, .c none (.v (.int .i64 ((x_7 : Nat) : Int))))], [(1000, (Zj.bx v0_)), (1001, [(none, .pt 1002 0)]), (1002, [(none, .rf 1003), (none, .rf 1004), (none, .v (.bool Zaj))]), (1003, [(none, .ob 165 (Zh.map (Zv c_S Zg)))]), (1004, [(none, .ob 167 (Zt.map (Zv c_S Zg)))])]⟩
def ZaM.M (v0_ : Zj) (x_7 : Nat) (x58 : Zf) (Zaj : Bool) (Zh : (List (ByteArray × Int))) (Zt : (List (ByteArray × Int))) (r : Zb) : Prop :=
 v0_.fAlts.length ≤ maxLen → x_7 < v0_.fAlts.length → nP 30 Tryz.f117 [1, 0, 0, 1, 1, 0, 0, 1, 1] (.tup []) [(1000, (Zj.bx v0_)), (1001, [(none, .pt 1002 0)]), (1002, [(none, .rf 1003), (none, .rf 1004), (none, .v (.bool r.fbad))]), (1003, [(none, .ob 165 (r.fcons.map (Zv c_S Zg)))]), (1004, [(none, .ob 167 (r.flocal.map (Zv c_S Zg)))])] ⟨[(1, .ptr 1001 0), (3, .ptr 3 0), (5, .c none (.sl (v0_.fAlts.map Zf.cells))), (6, .c none (.v (.int .i64 ((v0_.fAlts.length : Nat) : Int)))), (7, .c none (.v (.int .i64 ((x_7 : Nat) : Int))))], [(3, (Zf.bx x58)), (1000, (Zj.bx v0_)), (1001, [(none, .pt 1002 0)]), (1002, [(none, .rf 1003), (none, .rf 1004), (none, .v (.bool Zaj))]), (1003, [(none, .ob 165 (Zh.map (Zv c_S Zg)))]), (1004, [(none, .ob 167 (Zt.map (Zv c_S Zg)))])]⟩
def Zai.M (l : (List ByteArray)) (g2_c0 : Zb) (g2_c1 : Zf) (r : Zb) : Prop :=
 Zq Tryz.prog 78 [.c none (.rf 1003), .c none (.sl (l.map c_S)), .c none (.cl 118 [] [.pt 1000 0, .pt 1004 0])] [(1000, [(none, .pt 1001 0)]), (1001, [(none, .rf 1002), (none, .rf 1003), (none, .v (.bool g2_c0.fbad))]), (1002, [(none, .ob 165 (g2_c0.fcons.map (Zv c_S Zg)))]), (1003, [(none, .ob 167 (g2_c0.flocal.map (Zv c_S Zg)))]), (1004, (Zf.bx g2_c1))] (fun d b => d = .tup [] ∧ b = [(1000, [(none, .pt 1001 0)]), (1001, [(none, .rf 1002), (none, .rf 1003), (none, .v (.bool r.fbad))]), (1002, [(none, .ob 165 (r.fcons.map (Zv c_S Zg)))]), (1003, [(none, .ob 167 (r.flocal.map (Zv c_S Zg)))]), (1004, (Zf.bx g2_c1))])
def ZV.M (l : (List ByteArray)) (Zb5 : Nat) (g2_c0 : Zb) (Zh : (List (ByteArray × Int))) (g2_c1 : Zf) (ZN : (List ByteArray)) (r : Zb) : Prop :=
 ∀ Za4 : List ByteArray, l = Za4 ++ ZN → Zb5 = Za4.length → l.length ≤ maxLen → nL 34 Tryz.f78 [0, 1, 0] (.tup []) [(1000, [(none, .pt 1001 0)]), (1001, [(none, .rf 1002), (none, .rf 1003), (none, .v (.bool r.fbad))]), (1002, [(none, .ob 165 (r.fcons.map (Zv c_S Zg)))]), (1003, [(none, .ob 167 (r.flocal.map (Zv c_S Zg)))]), (1004, (Zf.bx g2_c1))] ⟨[(0, .c none (.rf 1003)), (1, .c none (.sl (l.map c_S))), (2, .c none (.cl 118 [] [.pt 1000 0, .pt 1004 0])), (10, .c none (.sl (l.map c_S))), (11, .c none (.v (.int .i64 ((l.length : Nat) : Int)))), (12, .c none (.v (.int .i64 ((Zb5 : Nat) : Int))))], [(1000, [(none, .pt 1001 0)]), (1001, [(none, .rf 1002), (none, .rf 1003), (none, .v (.bool g2_c0.fbad))]), (1002, [(none, .ob 165 (g2_c0.fcons.map (Zv c_S Zg)))]), (1003, [(none, .ob 167 (Zh.map (Zv c_S Zg)))]), (1004, (Zf.bx g2_c1))]⟩
def Zbw.M (v0_ : Zb) (v1_ : Zf) (r : Zb) : Prop :=
 Zq Tryz.prog 118 [.ptr 1000 0, .ptr 1004 0] [(1000, [(none, .pt 1001 0)]), (1001, [(none, .rf 1002), (none, .rf 1003), (none, .v (.bool v0_.fbad))]), (1002, [(none, .ob 165 (v0_.fcons.map (Zv c_S Zg)))]), (1003, [(none, .ob 167 (v0_.flocal.map (Zv c_S Zg)))]), (1004, (Zf.bx v1_))] (fun d b => d = .tup [] ∧ b = [(1000, [(none, .pt 1001 0)]), (1001, [(none, .rf 1002), (none, .rf 1003), (none, .v (.bool r.fbad))]), (1002, [(none, .ob 165 (r.fcons.map (Zv c_S Zg)))]), (1003, [(none, .ob 167 (r.flocal.map (Zv c_S Zg)))]), (1004, (Zf.bx v1_))])
def Zbc.M (v0_ : Zj) (v1_ : Zb) (r : Zb) : Prop :=
 Zq Tryz.prog 114 [.ptr 1000 0, .ptr 1001 0] [(1000, (Zj.bx v0_)), (1001, [(none, .pt 1002 0)]), (1002, [(none, .rf 1003), (none, .rf 1004), (none, .v (.bool v1_.fbad))]), (1003, [(none, .ob 165 (v1_.fcons.map (Zv c_S Zg)))]), (1004, [(none, .ob 167 (v1_.flocal.map (Zv c_S Zg)))])] (fun d b => d = .tup [] ∧ b = [(1000, (Zj.bx v0_)), (1001, [(none, .pt 1002 0)]), (1002, [(none, .rf 1003), (none, .rf 1004), (none, .v (.bool r.fbad))]), (1003, [(none, .ob 165 (r.fcons.map (Zv c_S Zg)))]), (1004, [(none, .ob 167 (r.flocal.map (Zv c_S Zg)))])])
def Za6.M (v0_ : Zj) (x_7 : Nat) (Zaj : Bool) (Zh : (List (ByteArray × Int))) (Zt : (List (ByteArray × Int))) (Zd3 : (List Za)) (r : Zb) : Prop :=
 ∀ Zf6 : List Za, v0_.fBinds = Zf6 ++ Zd3 → x_7 = Zf6.length → v0_.fBinds.length ≤ maxLen → nL 15 Tryz.f114 [1, 0] (.tup []) [(1000, (Zj.bx v0_)), (1001, [(none, .pt 1002 0)]), (1002, [(none, .rf 1003), (none, .rf 1004), (none, .v (.bool r.fbad))]), (1003, [(none, .ob 165 (r.fcons.map (Zv c_S Zg)))]), (1004, [(none, .ob 167 (r.flocal.map (Zv c_S Zg)))])] ⟨[(1, .ptr 1001 0), (5, .c none (.sl (v0_.fBinds.map Za.cells))), (6, .c none (.v (.int .i64 ((v0_.fBinds.length : Nat) : Int)))), (7, .c none (.v (.int .i64 ((x_7 : Nat) : Int))))], [(1000, (Zj.bx v0_)), (1001, [(none, .pt 1002 0)]), (1002, [(none, .rf 1003), (none, .rf 1004), (none, .v (.bool Zaj))]), (1003, [(none, .ob 165 (Zh.map (Zv c_S Zg)))]), (1004, [(none, .ob 167 (Zt.map (Zv c_S Zg)))])]⟩
def Zb1.M (r70 : ((List ByteArray))) (e : Zj) (Zac : Bool) (Zaa : (List (ByteArray × Int))) (Zm : (List (ByteArray × Int))) (r : Zb) : Prop :=
 e.fArgs.length ≤ maxLen → nP 104 Tryz.f87 [1, 1, 1, 1, 1, 0, 1, 1, 1, 1, 1, 0, 1, 1, 1, 1] (.tup []) [(1000, [(none, .rf 1001), (none, .rf 1002), (none, .v (.bool r.fbad))]), (1001, [(none, .ob 165 (r.fcons.map (Zv c_S Zg)))]), (1002, [(none, .ob 167 (r.flocal.map (Zv c_S Zg)))])] ⟨[(2, .ptr 2 0), (3, .ptr 3 0), (6, .c (some (6, 9)) (.sl (r70.map c_S)))], [(2, [(none, .pt 1000 0)]), (3, (Zj.bx e)), (1000, [(none, .rf 1001), (none, .rf 1002), (none, .v (.bool Zac))]), (1001, [(none, .ob 165 (Zaa.map (Zv c_S Zg)))]), (1002, [(none, .ob 167 (Zm.map (Zv c_S Zg)))])]⟩
def Zap.M (l : (List ByteArray)) (g2_c0 : Zb) (g2_c1 : Zj) (r : Zb) : Prop :=
 Zq Tryz.prog 78 [.c none (.rf 1003), .c none (.sl (l.map c_S)), .c none (.cl 115 [] [.pt 1000 0, .pt 1004 0])] [(1000, [(none, .pt 1001 0)]), (1001, [(none, .rf 1002), (none, .rf 1003), (none, .v (.bool g2_c0.fbad))]), (1002, [(none, .ob 165 (g2_c0.fcons.map (Zv c_S Zg)))]), (1003, [(none, .ob 167 (g2_c0.flocal.map (Zv c_S Zg)))]), (1004, (Zj.bx g2_c1))] (fun d b => d = .tup [] ∧ b = [(1000, [(none, .pt 1001 0)]), (1001, [(none, .rf 1002), (none, .rf 1003), (none, .v (.bool r.fbad))]), (1002, [(none, .ob 165 (r.fcons.map (Zv c_S Zg)))]), (1003, [(none, .ob 167 (r.flocal.map (Zv c_S Zg)))]), (1004, (Zj.bx g2_c1))])
def ZY.M (l : (List ByteArray)) (Zb5 : Nat) (g2_c0 : Zb) (Zh : (List (ByteArray × Int))) (g2_c1 : Zj) (ZN : (List ByteArray)) (r : Zb) : Prop :=
 ∀ Za4 : List ByteArray, l = Za4 ++ ZN → Zb5 = Za4.length → l.length ≤ maxLen → nL 34 Tryz.f78 [0, 1, 0] (.tup []) [(1000, [(none, .pt 1001 0)]), (1001, [(none, .rf 1002), (none, .rf 1003), (none, .v (.bool r.fbad))]), (1002, [(none, .ob 165 (r.fcons.map (Zv c_S Zg)))]), (1003, [(none, .ob 167 (r.flocal.map (Zv c_S Zg)))]), (1004, (Zj.bx g2_c1))] ⟨[(0, .c none (.rf 1003)), (1, .c none (.sl (l.map c_S))), (2, .c none (.cl 115 [] [.pt 1000 0, .pt 1004 0])), (10, .c none (.sl (l.map c_S))), (11, .c none (.v (.int .i64 ((l.length : Nat) : Int)))), (12, .c none (.v (.int .i64 ((Zb5 : Nat) : Int))))], [(1000, [(none, .pt 1001 0)]), (1001, [(none, .rf 1002), (none, .rf 1003), (none, .v (.bool g2_c0.fbad))]), (1002, [(none, .ob 165 (g2_c0.fcons.map (Zv c_S Zg)))]), (1003, [(none, .ob 167 (Zh.map (Zv c_S Zg)))]), (1004, (Zj.bx g2_c1))]⟩
def Zb6.M (v0_ : Zb) (v1_ : Zj) (r : Zb) : Prop :=
 Zq Tryz.prog 115 [.ptr 1000 0, .ptr 1004 0] [(1000, [(none, .pt 1001 0)]), (1001, [(none, .rf 1002), (none, .rf 1003), (none, .v (.bool v0_.fbad))]), (1002, [(none, .ob 165 (v0_.fcons.map (Zv c_S Zg)))]), (1003, [(none, .ob 167 (v0_.flocal.map (Zv c_S Zg)))]), (1004, (Zj.bx v1_))] (fun d b => d = .tup [] ∧ b = [(1000, [(none, .pt 1001 0)]), (1001, [(none, .rf 1002), (none, .rf 1003), (none, .v (.bool r.fbad))]), (1002, [(none, .ob 165 (r.fcons.map (Zv c_S Zg)))]), (1003, [(none, .ob 167 (r.flocal.map (Zv c_S Zg)))]), (1004, (Zj.bx v1_))])
def Zan.M (l : (List ByteArray)) (g2_c0 : Zj) (g2_c1 : Zb) (r : Zb) : Prop :=
 Zq Tryz.prog 78 [.c none (.rf 1004), .c none (.sl (l.map c_S)), .c none (.cl 114 [] [.pt 1000 0, .pt 1001 0])] [(1000, (Zj.bx g2_c0)), (1001, [(none, .pt 1002 0)]), (1002, [(none, .rf 1003), (none, .rf 1004), (none, .v (.bool g2_c1.fbad))]), (1003, [(none, .ob 165 (g2_c1.fcons.map (Zv c_S Zg)))]), (1004, [(none, .ob 167 (g2_c1.flocal.map (Zv c_S Zg)))])] (fun d b => d = .tup [] ∧ b = [(1000, (Zj.bx g2_c0)), (1001, [(none, .pt 1002 0)]), (1002, [(none, .rf 1003), (none, .rf 1004), (none, .v (.bool r.fbad))]), (1003, [(none, .ob 165 (r.fcons.map (Zv c_S Zg)))]), (1004, [(none, .ob 167 (r.flocal.map (Zv c_S Zg)))])])
def Z0.M (l : (List ByteArray)) (Zb5 : Nat) (g2_c0 : Zj) (g2_c1 : Zb) (Zt : (List (ByteArray × Int))) (ZN : (List ByteArray)) (r : Zb) : Prop :=
 ∀ Za4 : List ByteArray, l = Za4 ++ ZN → Zb5 = Za4.length → l.length ≤ maxLen → nL 34 Tryz.f78 [0, 1, 0] (.tup []) [(1000, (Zj.bx g2_c0)), (1001, [(none, .pt 1002 0)]), (1002, [(none, .rf 1003), (none, .rf 1004), (none, .v (.bool r.fbad))]), (1003, [(none, .ob 165 (r.fcons.map (Zv c_S Zg)))]), (1004, [(none, .ob 167 (r.flocal.map (Zv c_S Zg)))])] ⟨[(0, .c none (.rf 1004)), (1, .c none (.sl (l.map c_S))), (2, .c none (.cl 114 [] [.pt 1000 0, .pt 1001 0])), (10, .c none (.sl (l.map c_S))), (11, .c none (.v (.int .i64 ((l.length : Nat) : Int)))), (12, .c none (.v (.int .i64 ((Zb5 : Nat) : Int))))], [(1000, (Zj.bx g2_c0)), (1001, [(none, .pt 1002 0)]), (1002, [(none, .rf 1003), (none, .rf 1004), (none, .v (.bool g2_c1.fbad))]), (1003, [(none, .ob 165 (g2_c1.fcons.map (Zv c_S Zg)))]), (1004, [(none, .ob 167 (Zt.map (Zv c_S Zg)))])]⟩
theorem Zoo : (∀ c b top r, ZaP c b top = some r → ZaP.M c b top r) ∧ (∀ top b Zac Zaa Zm r, Zbr top b Zac Zaa Zm = some r → Zbr.M top b Zac Zaa Zm r) ∧ (∀ top Zlq r42 Zvg b r17 ZmE r, ZbK top Zlq r42 Zvg b r17 ZmE = some r → ZbK.M top Zlq r42 Zvg b r17 ZmE r) ∧ (∀ l g2_c0 g2_c1 r, Zae l g2_c0 g2_c1 = some r → Zae.M l g2_c0 g2_c1 r) ∧ (∀ l Zb5 g2_c0 Zh g2_c1 ZN r, ZZ l Zb5 g2_c0 Zh g2_c1 ZN = some r → ZZ.M l Zb5 g2_c0 Zh g2_c1 ZN r) ∧ (∀ v0_ v1_ r, ZbH v0_ v1_ = some r → ZbH.M v0_ v1_ r) ∧ (∀ c e r, Za1 c e = some r → Za1.M c e r) ∧ (∀ e ZuN Zac Zaa Zm ZmG r, Zak e ZuN Zac Zaa Zm ZmG = some r → Zak.M e ZuN Zac Zaa Zm ZmG r) ∧ (∀ l g2_c0 g2_c1 r, Zao l g2_c0 g2_c1 = some r → Zao.M l g2_c0 g2_c1 r) ∧ (∀ l Zb5 g2_c0 g2_c1 Zt ZN r, Z1 l Zb5 g2_c0 g2_c1 Zt ZN = some r → Z1.M l Zb5 g2_c0 g2_c1 Zt ZN r) ∧ (∀ v0_ v1_ r, Zb0 v0_ v1_ = some r → Zb0.M v0_ v1_ r) ∧ (∀ v0_ x_7 Zaj Zh Zt r, Za7 v0_ x_7 Zaj Zh Zt = some r → Za7.M v0_ x_7 Zaj Zh Zt r) ∧ (∀ v0_ x_7 x58 Zaj Zh Zt r, ZaM v0_ x_7 x58 Zaj Zh Zt = some r → ZaM.M v0_ x_7 x58 Zaj Zh Zt r) ∧ (∀ l g2_c0 g2_c1 r, Zai l g2_c0 g2_c1 = some r → Zai.M l g2_c0 g2_c1 r) ∧ (∀ l Zb5 g2_c0 Zh g2_c1 ZN r, ZV l Zb5 g2_c0 Zh g2_c1 ZN = some r → ZV.M l Zb5 g2_c0 Zh g2_c1 ZN r) ∧ (∀ v0_ v1_ r, Zbw v0_ v1_ = some r → Zbw.M v0_ v1_ r) ∧ (∀ v0_ v1_ r, Zbc v0_ v1_ = some r → Zbc.M v0_ v1_ r) ∧ (∀ v0_ x_7 Zaj Zh Zt Zd3 r, Za6 v0_ x_7 Zaj Zh Zt Zd3 = some r → Za6.M v0_ x_7 Zaj Zh Zt Zd3 r) ∧ (∀ r70 e Zac Zaa Zm r, Zb1 r70 e Zac Zaa Zm = some r → Zb1.M r70 e Zac Zaa Zm r) ∧ (∀ l g2_c0 g2_c1 r, Zap l g2_c0 g2_c1 = some r → Zap.M l g2_c0 g2_c1 r) ∧ (∀ l Zb5 g2_c0 Zh g2_c1 ZN r, ZY l Zb5 g2_c0 Zh g2_c1 ZN = some r → ZY.M l Zb5 g2_c0 Zh g2_c1 ZN r) ∧ (∀ v0_ v1_ r, Zb6 v0_ v1_ = some r → Zb6.M v0_ v1_ r) ∧ (∀ l g2_c0 g2_c1 r, Zan l g2_c0 g2_c1 = some r → Zan.M l g2_c0 g2_c1 r) ∧ (∀ l Zb5 g2_c0 g2_c1 Zt ZN r, Z0 l Zb5 g2_c0 g2_c1 Zt ZN = some r → Z0.M l Zb5 g2_c0 g2_c1 Zt ZN r) := by
 refine ZaP.mutual_partial_correctness ZaP.M Zbr.M ZbK.M Zae.M ZZ.M ZbH.M Za1.M Zak.M Zao.M Z1.M Zb0.M Za7.M ZaM.M Zai.M ZV.M Zbw.M Zbc.M Za6.M Zb1.M Zap.M ZY.M Zb6.M Zan.M Z0.M ?_ ?_ ?_ ?_ ?_ ?_ ?_ ?_ ?_ ?_ ?_ ?_ ?_ ?_ ?_ ?_ ?_ ?_ ?_ ?_ ?_ ?_ ?_ ?_
 ·intro stg_checker_bind_k1' ZeS c b top r hF
  unfold ZaP.M
  refine en Tryz.func52 ?_
  refine zbr hF (fun ZJF hF => ?_) (fun ZJF hF => ?_)
  ·obtain ⟨r75, ZDv, hF⟩ := bind_some hF
   refine zln fun hlen74 => ?_
   refine zca [] zi3 [] (Z6 ZDv) ?_
   refine st ?_
   exact zja (ZeS _ _ _ _ _ _ hF)
  ·refine zbr hF (fun ZI8 hF => ?_) (fun ZI8 hF => ?_)
   ·obtain ⟨r78, ZzE, hF⟩ := bind_some hF
    refine zln fun hlen77 => ?_
    refine zca [] zi3 [] (Z6 ZzE) ?_
    refine st ?_
    exact zja (ZeS _ _ _ _ _ _ hF)
   ·refine zbr hF (fun ZBi hF => ?_) (fun ZBi hF => ?_)
    ·obtain ⟨r81, ZBw, hF⟩ := bind_some hF
     refine zcw ⟨[(2, .c none (.v (.bool top))), (3, .ptr 3 0), (4, .ptr 4 0)], [(3, [(none, .pt 1000 0)]), (4, (Za.bx b)), (1000, [(none, .rf 1001), (none, .rf 1002), (none, .v (.bool r81.fbad))]), (1001, [(none, .ob 165 (r81.fcons.map (Zv c_S Zg)))]), (1002, [(none, .ob 167 (r81.flocal.map (Zv c_S Zg)))])]⟩ ?_ ?_
     ·refine zln fun hlen80 => ?_
      refine zbt (fun ZAr => ?_) (fun ZAr => ?_)
      ·refine zgo ?_
       refine xe3 [] [(1000, 1000), (1001, 1001), (1002, 1002)] [] (st ?_)
       refine cm (Zq.weak (rn []) (Z6 ZBw) rfl (WS.mk (tp (ZcI (Zc7 (web ZAr)) ZcZ)) (ZcN rfl (cc (cc (cc ZcA))) (ZcN rfl (cc ZcA) (ZcN rfl (cc ZcA) Zc6))))) (zgo ?_)
       exact zwy
      ·refine zgo ?_
       refine xe3 [] [(1000, 1000), (1001, 1001), (1002, 1002)] [] (st ?_)
       refine cm (Zq.weak (rn []) (Z6 ZBw) rfl (WS.mk (tp (ZcI (Zc7 (web ZAr)) ZcZ)) (ZcN rfl (cc (cc (cc ZcA))) (ZcN rfl (cc ZcA) (ZcN rfl (cc ZcA) Zc6))))) (zgo ?_)
       exact zwy
     exact zja (ZeS _ _ _ _ _ _ hF)
    ·refine ns ?_
     exact zja (ZeS _ _ _ _ _ _ hF)
 ·intro stg_checker_bind_l2' ZeY top b Zac Zaa Zm r hF
  unfold Zbr.M nP
  obtain ⟨r14, Zqn, hF⟩ := bind_some hF
  obtain ⟨c16, ZkT, hF⟩ := bind_some hF
  obtain ⟨r17, Zt1, hF⟩ := bind_some hF
  refine sq ?_
  refine zcw ⟨[(2, .c none (.v (.bool top))), (3, .ptr 3 0), (4, .ptr 4 0)], [(3, [(none, .pt 1000 0)]), (4, (Za.bx b)), (1000, [(none, .rf 1001), (none, .rf 1002), (none, .v (.bool r17.fbad))]), (1001, [(none, .ob 165 (r17.fcons.map (Zv c_S Zg)))]), (1002, [(none, .ob 167 (r17.flocal.map (Zv c_S Zg)))])]⟩ ?_ ?_
  ·refine zdn [0] [[44]] [3] [3, 44] [44] [1, 2, 3, 4, 5, 6, 7, 8, 9] ?_
   refine zdp ?_
   refine zca [] [] [] (Zhh Zqn) ?_
   refine zbt (fun Znq => ?_) (fun Znq => ?_)
   ·have ZkT := ift Znq ZkT
    obtain ⟨r15, Zw5, ZkT⟩ := bind_some ZkT
    refine zca [] [] [] (Zhv Zw5) ?_
    obtain rfl := Ze ZkT
    refine zgo ?_
    refine xe3 [] [(1000, 1000), (1001, 1001), (1002, 1002)] [] (st ?_)
    refine cm (Zq.weak (rn []) (Z6 Zt1) rfl (WS.mk (tp (ZcI (Zc7 (web Znq)) ZcZ)) (ZcN rfl (cc (cc (Zf2 (web Znq) ZcA))) (ZcN rfl (cc ZcA) (ZcN rfl (cc ZcA) Zc6))))) (zgo ?_)
    exact zwy
   ·have ZkT := ife Znq ZkT
    obtain rfl := Ze ZkT
    refine zgo ?_
    refine xe3 [] [(1000, 1000), (1001, 1001), (1002, 1002)] [] (st ?_)
    refine cm (Zq.weak (rn []) (Z6 Zt1) rfl (WS.mk (tp (ZcI (Zc7 (web Znq)) ZcZ)) (ZcN rfl (cc (cc (Zf2 (web Znq) ZcA))) (ZcN rfl (cc ZcA) (ZcN rfl (cc ZcA) Zc6))))) (zgo ?_)
    exact zwy
  obtain ⟨r42, ZjT, hF⟩ := bind_some hF
  refine zca [] [] [] (ZrH ZjT) ?_
  refine zln fun hlen43 => ?_
  exact znl (ZeY _ _ _ _ _ _ _ _ hF ([]) rfl rfl hlen43)
 ·intro stg_checker_bind_l2' stg_scope_with_stg_checker_bind_1' ZeY ZhL top Zlq r42 Zvg b r17 ZmE r hF
  unfold ZbK.M nL
  intro Zsf Zu8 Zu3 hlen43
  refine AWL.step ?_
  refine zbl Zu8 Zu3 (fun x59 ZEv ZDY ZJG hl61 => ?_) (fun ZDY => ?_)
  ·subst ZDY
   refine zgo ?_
   refine sr (Zr (f := c_S) rfl ZJG) ?_
   obtain ⟨c63, ZnV, hF⟩ := bind_some hF
   refine st ?_
   refine sq ?_
   refine zck [2, 3, 4, 6, 8, 55, 56, 57] [3, 4, 1000, 1001, 1002] [(71, .c none (.v (.bool c63)))] ?_ ?_
   ·refine zbt (fun ZsC => ?_) (fun ZsC => ?_)
    ·have ZnV := ift ZsC ZnV
     obtain ⟨r62, ZBa, ZnV⟩ := bind_some ZnV
     refine zgo ?_
     refine Zcr (m := r17.flocal) (k := x59) ZaN (ev := Zg) ZBa rfl (fun x => Zbl x) rfl rfl (lc Zn) ?_
     obtain rfl := Ze ZnV
     refine zgo ?_
     exact zwe
    ·have ZnV := ife ZsC ZnV
     obtain rfl := Ze ZnV
     refine zgo ?_
     exact zwe
   refine zbr hF (fun ZCE hF => ?_) (fun ZCE hF => ?_)
   ·obtain ⟨ZJU, hF⟩ := Zx hF
    refine zgo ?_
    refine ea (ZH (f := c_S) (lc Zn) (Zp (f := c_S))) (zsa (fun l => Zaf l (fun x => Zbb x)) ZJU ?_)
    refine ea (WE.refl _) ?_
    rw [← List.map_append]
    exact znr (rn [(55, 55), (75, 6)]) (ZeY _ _ _ _ _ _ _ _ hF _ (zlh Zu8) (zlk Zu3) hlen43)
   ·exact znl (ZeY _ _ _ _ _ _ _ _ hF _ (zlh Zu8) (zlk Zu3) hlen43)
  ·subst ZDY
   obtain ⟨r69, ZwI, hF⟩ := bind_some hF
   obtain ⟨r70, ZBh, hF⟩ := bind_some hF
   refine zdn [0, 1] [[77, 78], [77, 78]] [3] [3, 6, 77, 78] [77, 78] [2, 3, 4, 5] ?_
   refine zdp ?_
   refine zca [6] [] [] (Ze4 ZwI) ?_
   refine zca [] zi3 [] (Z6 ZBh) ?_
   obtain ⟨r72, ZEx, hF⟩ := bind_some hF
   refine zdo 7 [83, 84, 85, 86, 87, 88, 89] [127, 126, 124, 120, 127, 111, 127] ?_
   refine zdp ?_
   refine zca [] [(3, 1000), (1000, 1001), (1001, 1002), (1002, 1003), (4, 1004)] [] (ZhL _ _ _ _ ZEx) ?_
   obtain rfl := Ze hF
   exact zre zi3
 ·intro stg_scope_with_stg_checker_bind_1_l1' Zds l g2_c0 g2_c1 r hF
  unfold Zae.M
  refine en Tryz.func78 ?_
  refine zln fun hlen14 => ?_
  exact znl (Zds _ _ _ _ _ _ _ hF ([]) rfl rfl hlen14)
 ·intro stg_scope_with_stg_checker_bind_1_l1' stg_checker_bind_1_' Zds ZmH l Zb5 g2_c0 Zh g2_c1 ZN r hF
  unfold ZZ.M nL
  intro Za4 ZcV ZcW hlen14
  refine AWL.step ?_
  refine zbl ZcV ZcW (fun x24 Zhi Ze7 Zkm Zsy => ?_) (fun Ze7 => ?_)
  ·subst Ze7
   refine zsr (Zr (f := c_S) rfl Zkm) ?_
   obtain ⟨r27, Zks, hF⟩ := bind_some hF
   refine zgo ?_
   refine Zcr (m := Zh) (k := x24) ZaN (ev := Zg) Zks rfl (fun x => Zbl x) rfl rfl (lc Zn) (zgo ?_)
   exact ZdG (m := Zh) (k := x24) (v := (IntKind.i64.wrap (r27.1 + 1))) ZaN (ev := Zg) (lc Zn) (znl (Zds _ _ _ _ _ _ _ hF _ (zlh ZcV) (zlk ZcW) hlen14))
  ·subst Ze7
   obtain ⟨r28, ZjQ, hF⟩ := bind_some hF
   refine zca [] zi5 [] (ZmH _ _ _ ZjQ) ?_
   refine zln fun hlen29 => ?_
   exact znl (Zg3 hF ([]) rfl rfl hlen29)
 ·intro stg_checker_expr' ZdJ v0_ v1_ r hF
  unfold ZbH.M
  refine en Tryz.func86 ?_
  obtain ⟨r1, hr1, hF⟩ := bind_some hF
  refine zca [] [(1001, 1000), (1002, 1001), (1003, 1002)] [] (ZdJ _ _ _ hr1) ?_
  obtain rfl := Ze hF
  exact zre zi5
 ·intro stg_checker_expr_l1' Ze2 c e r hF
  unfold Za1.M
  refine en Tryz.func87 ?_
  obtain ⟨r3, hr3, hF⟩ := bind_some hF
  obtain ⟨r4, hr4, hF⟩ := bind_some hF
  refine zdn [0] [[8]] [2] [2, 8] [8] [1, 2, 3] ?_
  refine zdp ?_
  refine zca [] [] [] (Zvh hr3) ?_
  refine zca [] zi3 [] (Z6 hr4) ?_
  refine zbr hF (fun hc6 hF => ?_) (fun hc6 hF => ?_)
  ·obtain rfl := Ze hF
   exact zre zi3
  ·refine zln fun hlen35 => ?_
   exact znl (Ze2 _ _ _ _ _ _ _ hF ([]) rfl rfl hlen35)
 ·intro stg_checker_expr' stg_checker_expr_l1' stg_scope_with_stg_checker_expr_3' stg_checker_expr_1_' stg_checker_expr_k2' stg_scope_with_stg_checker_expr_1' ZdJ Ze2 ZhP Zgc ZiJ ZhC e ZuN Zac Zaa Zm ZmG r hF
  unfold Zak.M nL
  intro Zsn Zvn Zvj hlen35
  refine AWL.step ?_
  refine zbl Zvn Zvj (fun x55 ZEC ZDJ ZIP ZB3 => ?_) (fun ZDJ => ?_)
  ·subst ZDJ
   refine zsr (Zr (f := ZJ.cells) (ZJ.cells_eq x55) ZIP) ?_
   obtain ⟨r60, ZBm, hF⟩ := bind_some hF
   obtain ⟨r61, ZI6, hF⟩ := bind_some hF
   refine zdn [0] [[23]] [2] [2, 23] [23] [1, 2, 3] ?_
   refine zdp ?_
   refine zca [] [] [] (ZvI ZBm) ?_
   refine zca [] zi3 [] (Z6 ZI6) ?_
   refine zbr hF (fun ZIJ hF => ?_) (fun ZIJ hF => ?_)
   ·obtain ⟨r63, ZC0, hF⟩ := bind_some hF
    refine zca [] zi3 [] (Zil ZC0) ?_
    exact znl (Ze2 _ _ _ _ _ _ _ hF _ (zlh Zvn) (zlk Zvj) hlen35)
   ·exact znl (Ze2 _ _ _ _ _ _ _ hF _ (zlh Zvn) (zlk Zvj) hlen35)
  ·subst ZDJ
   refine zbr hF (fun ZsC hF => ?_) (fun ZsC hF => ?_)
   ·obtain ⟨r65, ZD1, hF⟩ := bind_some hF
    refine zca [] zi3 [] (Zil ZD1) ?_
    obtain rfl := Ze hF
    exact zre zi3
   ·refine zbr hF (fun ZIN hF => ?_) (fun ZIN hF => ?_)
    ·obtain ⟨r68, ZEj, hF⟩ := bind_some hF
     refine zln fun hlen67 => ?_
     refine zca [] zi3 [] (Zkr ZEj) ?_
     obtain rfl := Ze hF
     exact zre zi3
    ·refine zbr hF (fun ZzN hF => ?_) (fun ZzN hF => ?_)
     ·obtain ⟨r70, ZBh, hF⟩ := bind_some hF
      refine zca [] [] [] (ZmK ZBh) ?_
      obtain ⟨r73, ZCX, hF⟩ := bind_some hF
      obtain ⟨r74, ZEe, hF⟩ := bind_some hF
      refine zdn [0] [[57]] [2] [2, 57] [57] [1, 2, 3] ?_
      refine zdp ?_
      refine zca [56] [] [] (Zhv ZCX) ?_
      refine zca [] zi3 [] (Z6 ZEe) ?_
      refine zbr hF (fun ZBi hF => ?_) (fun ZBi hF => ?_)
      ·obtain ⟨r80, ZDW, hF⟩ := bind_some hF
       refine zca [56] [(3, 1000), (2, 1001), (1000, 1002), (1001, 1003), (1002, 1004)] [] (ZhC _ _ _ _ ZDW) ?_
       refine st ?_
       exact zjr (rn [(56, 6)]) (ZiJ _ _ _ _ _ _ hF hlen35)
      ·obtain ⟨r81, ZBw, hF⟩ := bind_some hF
       refine zca [] [(3, 1000), (2, 1001), (1000, 1002), (1001, 1003), (1002, 1004)] [] (Zgc _ _ _ ZBw) ?_
       refine st ?_
       exact zjr (rn [(56, 6)]) (ZiJ _ _ _ _ _ _ hF hlen35)
     ·refine zbr hF (fun ZAr hF => ?_) (fun ZAr hF => ?_)
      ·obtain ⟨r85, ZJO, hF⟩ := bind_some hF
       obtain ⟨r86, ZDk, hF⟩ := bind_some hF
       refine zdn [0, 1, 2] [[82, 83, 84], [82, 83, 84], [82, 84]] [2, 3] [2, 3, 82, 83, 84] [82, 83, 84] [3, 4, 5, 6] ?_
       refine zdp ?_
       refine zca [] [] [] (ZoX ZJO) ?_
       refine zca [] zi3 [] (Z6 ZDk) ?_
       obtain ⟨x89, hx890, ZIM, hF⟩ := Zlj hF
       obtain ⟨r90, ZIu, hF⟩ := bind_some hF
       refine zdo 5 [89, 90, 91, 92, 93] [31, 31, 29, 25, 17] ?_
       refine dp ?_
       refine dp ?_
       refine dp ?_
       refine dr (Zjz (Zj.cells_eq x89) ZIM) ?_
       refine zdp ?_
       refine zca [] zi3 [] (ZdJ _ _ _ ZIu) ?_
       obtain ⟨r92, ZIt, hF⟩ := bind_some hF
       refine zdo 8 [95, 96, 97, 98, 99, 100, 101, 102] [255, 254, 252, 248, 255, 239, 207, 255] ?_
       refine dp ?_
       refine dp ?_
       refine dp ?_
       refine dp ?_
       refine dp ?_
       refine dp ?_
       refine de (ZH (f := c_S) (lc Zn) (Zp (f := c_S))) ?_
       refine zdp ?_
       refine zca [] [(3, 1000), (2, 1001), (1000, 1002), (1001, 1003), (1002, 1004)] [] (ZhP _ _ _ _ ZIt) ?_
       obtain rfl := Ze hF
       exact zre zi3
      ·obtain rfl := Ze hF
       exact zre zi3
 ·intro stg_scope_with_stg_checker_expr_3_l1' Zdp l g2_c0 g2_c1 r hF
  unfold Zao.M
  refine en Tryz.func78 ?_
  refine zln fun hlen14 => ?_
  exact znl (Zdp _ _ _ _ _ _ _ hF ([]) rfl rfl hlen14)
 ·intro stg_scope_with_stg_checker_expr_3_l1' stg_checker_expr_3_' Zdp Zmu l Zb5 g2_c0 g2_c1 Zt ZN r hF
  unfold Z1.M nL
  intro Za4 ZcV ZcW hlen14
  refine AWL.step ?_
  refine zbl ZcV ZcW (fun x24 Zhi Ze7 Zkm Zsy => ?_) (fun Ze7 => ?_)
  ·subst Ze7
   refine zsr (Zr (f := c_S) rfl Zkm) ?_
   obtain ⟨r27, Zks, hF⟩ := bind_some hF
   refine zgo ?_
   refine Zcr (m := Zt) (k := x24) ZaN (ev := Zg) Zks rfl (fun x => Zbl x) rfl rfl (lc Zn) (zgo ?_)
   exact ZdG (m := Zt) (k := x24) (v := (IntKind.i64.wrap (r27.1 + 1))) ZaN (ev := Zg) (lc Zn) (znl (Zdp _ _ _ _ _ _ _ hF _ (zlh ZcV) (zlk ZcW) hlen14))
  ·subst Ze7
   obtain ⟨r28, ZjQ, hF⟩ := bind_some hF
   refine zca [] zi5 [] (Zmu _ _ _ ZjQ) ?_
   refine zln fun hlen29 => ?_
   exact znl (Zg5 hF ([]) rfl rfl hlen29)
 ·intro stg_checker_expr_3__l1' Zft v0_ v1_ r hF
  unfold Zb0.M
  refine en Tryz.func117 ?_
  refine zln fun hlen33 => ?_
  exact znl (Zft _ _ _ _ _ _ hF hlen33)
 ·intro stg_checker_expr_3__k2' ZhB v0_ x_7 Zaj Zh Zt r hF
  unfold Za7.M nL
  intro hlen33
  refine AWL.step ?_
  refine zbr hF (fun ZEO hF => ?_) (fun ZEO hF => ?_)
  ·have ZB3 := Zj7 ZEO
   obtain ⟨x58, ZJe, hF⟩ := bind_some hF
   refine zsr (Zr (f := Zf.cells) (Zf.cells_eq x58) ZJe) ?_
   refine zbr hF (fun ZsC hF => ?_) (fun ZsC hF => ?_)
   ·obtain ⟨r66, ZDe, hF⟩ := bind_some hF
    refine zln fun hlen65 => ?_
    refine zca [] [(1002, 1000), (1003, 1001), (1004, 1002)] [] (Zkr ZDe) ?_
    refine st ?_
    exact zja (ZhB _ _ _ _ _ _ _ hF hlen33 ZB3)
   ·refine nw ?_
    exact zja (ZhB _ _ _ _ _ _ _ hF hlen33 ZB3)
  ·obtain rfl := Ze hF
   exact zre zi5
 ·intro stg_checker_expr_3__l1' stg_scope_with_stg_checker_expr_3_1' Zft Zg7 v0_ x_7 x58 Zaj Zh Zt r hF
  unfold ZaM.M nP
  intro hlen33 ZB3
  obtain ⟨r63, ZC0, hF⟩ := bind_some hF
  refine zdo 7 [21, 22, 23, 24, 25, 26, 27] [127, 126, 124, 120, 127, 111, 127] ?_
  refine zdp ?_
  refine zca [] [(1001, 1000), (1002, 1001), (1003, 1002), (1004, 1003), (3, 1004)] [] (Zg7 _ _ _ _ ZC0) ?_
  exact znl (Zft _ _ _ _ _ _ hF hlen33)
 ·intro stg_scope_with_stg_checker_expr_3_1_l1' Zdb l g2_c0 g2_c1 r hF
  unfold Zai.M
  refine en Tryz.func78 ?_
  refine zln fun hlen14 => ?_
  exact znl (Zdb _ _ _ _ _ _ _ hF ([]) rfl rfl hlen14)
 ·intro stg_scope_with_stg_checker_expr_3_1_l1' stg_checker_expr_3_1_' Zdb ZlB l Zb5 g2_c0 Zh g2_c1 ZN r hF
  unfold ZV.M nL
  intro Za4 ZcV ZcW hlen14
  refine AWL.step ?_
  refine zbl ZcV ZcW (fun x24 Zhi Ze7 Zkm Zsy => ?_) (fun Ze7 => ?_)
  ·subst Ze7
   refine zsr (Zr (f := c_S) rfl Zkm) ?_
   obtain ⟨r27, Zks, hF⟩ := bind_some hF
   refine zgo ?_
   refine Zcr (m := Zh) (k := x24) ZaN (ev := Zg) Zks rfl (fun x => Zbl x) rfl rfl (lc Zn) (zgo ?_)
   exact ZdG (m := Zh) (k := x24) (v := (IntKind.i64.wrap (r27.1 + 1))) ZaN (ev := Zg) (lc Zn) (znl (Zdb _ _ _ _ _ _ _ hF _ (zlh ZcV) (zlk ZcW) hlen14))
  ·subst Ze7
   obtain ⟨r28, ZjQ, hF⟩ := bind_some hF
   refine zca [] zi5 [] (ZlB _ _ _ ZjQ) ?_
   refine zln fun hlen29 => ?_
   exact znl (Zgl hF ([]) rfl rfl hlen29)
 ·intro stg_checker_expr' ZdJ v0_ v1_ r hF
  unfold Zbw.M
  refine en Tryz.func118 ?_
  obtain ⟨r1, hr1, hF⟩ := bind_some hF
  refine zca [] [(1001, 1000), (1002, 1001), (1003, 1002)] [] (ZdJ _ _ _ hr1) ?_
  obtain rfl := Ze hF
  exact zre zi5
 ·intro stg_checker_expr_1__l1' Zfn v0_ v1_ r hF
  unfold Zbc.M
  refine en Tryz.func114 ?_
  refine zln fun hlen1 => ?_
  exact znl (Zfn _ _ _ _ _ _ _ hF ([]) rfl rfl hlen1)
 ·intro stg_checker_bind' stg_checker_expr_1__l1' Zo0 Zfn v0_ x_7 Zaj Zh Zt Zd3 r hF
  unfold Za6.M nL
  intro Zf6 Zkp ZkQ hlen1
  refine AWL.step ?_
  refine zbl Zkp ZkQ (fun x11 Zwo Zsu ZzU ZFM => ?_) (fun Zsu => ?_)
  ·subst Zsu
   refine zsr (Zr (f := Za.cells) (Za.cells_eq x11) ZzU) ?_
   obtain ⟨r14, Zqn, hF⟩ := bind_some hF
   refine zca [] [(1002, 1000), (1003, 1001), (1004, 1002)] [] (Zo0 _ _ _ _ Zqn) ?_
   exact znl (Zfn _ _ _ _ _ _ _ hF _ (zlh Zkp) (zlk ZkQ) hlen1)
  ·subst Zsu
   obtain rfl := Ze hF
   exact zre zi5
 ·intro stg_scope_with_stg_checker_expr_2' ZhH r70 e Zac Zaa Zm r hF
  unfold Zb1.M nP
  intro hlen35
  obtain ⟨r78, ZzE, hF⟩ := bind_some hF
  refine zca [6] [(2, 1000), (1000, 1001), (1001, 1002), (1002, 1003), (3, 1004)] [] (ZhH _ _ _ _ ZzE) ?_
  obtain rfl := Ze hF
  exact zre zi3
 ·intro stg_scope_with_stg_checker_expr_2_l1' Zdq l g2_c0 g2_c1 r hF
  unfold Zap.M
  refine en Tryz.func78 ?_
  refine zln fun hlen14 => ?_
  exact znl (Zdq _ _ _ _ _ _ _ hF ([]) rfl rfl hlen14)
 ·intro stg_scope_with_stg_checker_expr_2_l1' stg_checker_expr_2_' Zdq Zmr l Zb5 g2_c0 Zh g2_c1 ZN r hF
  unfold ZY.M nL
  intro Za4 ZcV ZcW hlen14
  refine AWL.step ?_
  refine zbl ZcV ZcW (fun x24 Zhi Ze7 Zkm Zsy => ?_) (fun Ze7 => ?_)
  ·subst Ze7
   refine zsr (Zr (f := c_S) rfl Zkm) ?_
   obtain ⟨r27, Zks, hF⟩ := bind_some hF
   refine zgo ?_
   refine Zcr (m := Zh) (k := x24) ZaN (ev := Zg) Zks rfl (fun x => Zbl x) rfl rfl (lc Zn) (zgo ?_)
   exact ZdG (m := Zh) (k := x24) (v := (IntKind.i64.wrap (r27.1 + 1))) ZaN (ev := Zg) (lc Zn) (znl (Zdq _ _ _ _ _ _ _ hF _ (zlh ZcV) (zlk ZcW) hlen14))
  ·subst Ze7
   obtain ⟨r28, ZjQ, hF⟩ := bind_some hF
   refine zca [] zi5 [] (Zmr _ _ _ ZjQ) ?_
   refine zln fun hlen29 => ?_
   exact znl (Zg6 hF ([]) rfl rfl hlen29)
 ·intro stg_checker_expr' ZdJ v0_ v1_ r hF
  unfold Zb6.M
  refine en Tryz.func115 ?_
  obtain ⟨x3, ZFl, hx3, hF⟩ := Zlj hF
  obtain ⟨r4, hr4, hF⟩ := bind_some hF
  refine zdo 5 [2, 3, 4, 5, 6] [31, 31, 29, 25, 17] ?_
  refine dp ?_
  refine dp ?_
  refine dp ?_
  refine dr (Zjz (Zj.cells_eq x3) hx3) ?_
  refine zdp ?_
  refine zca [] [(1001, 1000), (1002, 1001), (1003, 1002)] [] (ZdJ _ _ _ hr4) ?_
  obtain rfl := Ze hF
  exact zre zi5
 ·intro stg_scope_with_stg_checker_expr_1_l1' Zdn l g2_c0 g2_c1 r hF
  unfold Zan.M
  refine en Tryz.func78 ?_
  refine zln fun hlen14 => ?_
  exact znl (Zdn _ _ _ _ _ _ _ hF ([]) rfl rfl hlen14)
 ·intro stg_checker_expr_1_' stg_scope_with_stg_checker_expr_1_l1' Zgc Zdn l Zb5 g2_c0 g2_c1 Zt ZN r hF
  unfold Z0.M nL
  intro Za4 ZcV ZcW hlen14
  refine AWL.step ?_
  refine zbl ZcV ZcW (fun x24 Zhi Ze7 Zkm Zsy => ?_) (fun Ze7 => ?_)
  ·subst Ze7
   refine zsr (Zr (f := c_S) rfl Zkm) ?_
   obtain ⟨r27, Zks, hF⟩ := bind_some hF
   refine zgo ?_
   refine Zcr (m := Zt) (k := x24) ZaN (ev := Zg) Zks rfl (fun x => Zbl x) rfl rfl (lc Zn) (zgo ?_)
   exact ZdG (m := Zt) (k := x24) (v := (IntKind.i64.wrap (r27.1 + 1))) ZaN (ev := Zg) (lc Zn) (znl (Zdn _ _ _ _ _ _ _ hF _ (zlh ZcV) (zlk ZcW) hlen14))
  ·subst Ze7
   obtain ⟨r28, ZjQ, hF⟩ := bind_some hF
   refine zca [] zi5 [] (Zgc _ _ _ ZjQ) ?_
   refine zln fun hlen29 => ?_
   exact znl (ZgW hF ([]) rfl rfl hlen29)
theorem ZoT {c b top r} (h : ZaP c b top = some r) : ZaP.M c b top r := Zoo.1 _ _ _ _ h

def ZdV (a : ZJ) : Option (Bool) :=
 if (a.fOp == 1) = true then
 ZbU a.fName >>= fun r2 =>
 some (r2 && (a.fN == 0))
 else
 if (a.fOp == 2) = true then
 some (a.fName.toList == (ByteArray.mk #[]).toList)
 else
 if (a.fOp == 3) = true then
 some (((a.fName.toList == (ByteArray.mk #[]).toList) && (decide (a.fN ≥ 0))) && (decide (a.fN ≤ 255)))
 else
 some false
def ZdV.M (a : ZJ) (r : Bool) : Prop :=
 Zq Tryz.prog 156 [.agg (ZJ.fl a)] [] (fun d b => d = .c none (.v (.bool r)) ∧ b = [])
theorem Zpk {a r} (hF : ZdV a = some r) : ZdV.M a r := by
 unfold ZdV at hF
 unfold ZdV.M
 refine en Tryz.func156 ?_
 refine zbr hF (fun hc1 hF => ?_) (fun hc1 hF => ?_)
 ·obtain ⟨r2, hr2, hF⟩ := bind_some hF
  refine sq ?_
  refine zck [] [] [(2, .c none (.v (.bool (r2 && (a.fN == 0)))))] ?_ ?_
  ·refine zca [] [] [] (Zd0 hr2) ?_
   refine zbt (fun hc3 => ?_) (fun hc3 => ?_)
   ·refine zgo ?_
    exact zwe
   ·refine zgo ?_
    exact zwe
  obtain rfl := Ze hF
  exact zre []
 ·refine zbr hF (fun hc4 hF => ?_) (fun hc4 hF => ?_)
  ·obtain rfl := Ze hF
   exact zre []
  ·refine zbr hF (fun hc5 hF => ?_) (fun hc5 hF => ?_)
   ·refine sq ?_
    refine zck [] [] [(2, .c none (.v (.bool (((a.fName.toList == (ByteArray.mk #[]).toList) && (decide (a.fN ≥ 0))) && (decide (a.fN ≤ 255))))))] ?_ ?_
    ·exact zpt
    obtain rfl := Ze hF
    exact zre []
   ·obtain rfl := Ze hF
    exact zre []

def ZcD (e : Zj) (Zys : Bool) : Option (Bool) :=
 if Zys = true then
 (if ((((!e.fRec) && (((e.fBinds.length : Nat) : Int) == 0)) && (((e.fKids.length : Nat) : Int) == 0)) && (((e.fAlts.length : Nat) : Int) == 0)) = true then ZbU e.fName >>= fun r62 =>
 some r62 else some false) >>= fun c63 =>
 some c63
 else
 if (e.fOp == 5) = true then
 some ((((((e.fName.toList == (ByteArray.mk #[]).toList) && (((e.fArgs.length : Nat) : Int) == 0)) && (((e.fAlts.length : Nat) : Int) == 0)) && (((e.fKids.length : Nat) : Int) == 1)) && (decide (((e.fBinds.length : Nat) : Int) > 0))) && (e.fRec || (((e.fBinds.length : Nat) : Int) == 1)))
 else
 if (e.fOp == 6) = true then
 ZbU e.fName >>= fun r78 =>
 some (((((r78 && (((e.fArgs.length : Nat) : Int) == 0)) && (!e.fRec)) && (((e.fBinds.length : Nat) : Int) == 0)) && (((e.fKids.length : Nat) : Int) == 1)) && (decide (((e.fAlts.length : Nat) : Int) > 0)))
 else
 some false
def ZcD.M (e : Zj) (Zys : Bool) (r : Bool) : Prop :=
 e.fArgs.length ≤ maxLen → nP 152 Tryz.f139 [1, 1, 1, 0, 1, 0, 1, 1, 1, 1, 1] (.c none (.v (.bool r))) [] ⟨[(1, .ptr 1 0), (4, .c none (.v (.bool ((((!e.fRec) && (((e.fBinds.length : Nat) : Int) == 0)) && (((e.fKids.length : Nat) : Int) == 0)) && (((e.fAlts.length : Nat) : Int) == 0))))), (41, .c none (.v (.int .i64 e.fOp))), (70, .c none (.v (.bool Zys)))], [(1, (Zj.bx e))]⟩
theorem Ziq {e Zys r} (hF : ZcD e Zys = some r) : ZcD.M e Zys r := by
 unfold ZcD at hF
 unfold ZcD.M nP
 intro hlen38
 refine zbr hF (fun ZJY hF => ?_) (fun ZJY hF => ?_)
 ·obtain ⟨c63, ZnV, hF⟩ := bind_some hF
  refine sq ?_
  refine zck [] [] [(2, .c none (.v (.bool c63)))] ?_ ?_
  ·refine zbt (fun ZsC => ?_) (fun ZsC => ?_)
   ·have ZnV := ift ZsC ZnV
    obtain ⟨r62, ZBa, ZnV⟩ := bind_some ZnV
    refine zca [] [] [] (Zd0 ZBa) ?_
    obtain rfl := Ze ZnV
    refine zgo ?_
    exact zwe
   ·have ZnV := ife ZsC ZnV
    obtain rfl := Ze ZnV
    refine zgo ?_
    exact zwe
  obtain rfl := Ze hF
  exact zre []
 ·refine zbr hF (fun ZCE hF => ?_) (fun ZCE hF => ?_)
  ·refine sq ?_
   refine zck [] [] [(2, .c none (.v (.bool ((((((e.fName.toList == (ByteArray.mk #[]).toList) && (((e.fArgs.length : Nat) : Int) == 0)) && (((e.fAlts.length : Nat) : Int) == 0)) && (((e.fKids.length : Nat) : Int) == 1)) && (decide (((e.fBinds.length : Nat) : Int) > 0))) && (e.fRec || (((e.fBinds.length : Nat) : Int) == 1))))))] ?_ ?_
   ·exact zpt
   obtain rfl := Ze hF
   exact zre []
  ·refine zbr hF (fun ZIU hF => ?_) (fun ZIU hF => ?_)
   ·obtain ⟨r78, ZzE, hF⟩ := bind_some hF
    refine sq ?_
    refine zck [] [] [(2, .c none (.v (.bool (((((r78 && (((e.fArgs.length : Nat) : Int) == 0)) && (!e.fRec)) && (((e.fBinds.length : Nat) : Int) == 0)) && (((e.fKids.length : Nat) : Int) == 1)) && (decide (((e.fAlts.length : Nat) : Int) > 0))))))] ?_ ?_
    ·refine zca [] [] [] (Zd0 ZzE) ?_
     refine zbt (fun ZCN => ?_) (fun ZCN => ?_)
     ·refine zln fun hlen79 => ?_
      refine zbt (fun ZJB => ?_) (fun ZJB => ?_)
      ·refine zbt (fun ZJS => ?_) (fun ZJS => ?_)
       ·refine zln fun hlen80 => ?_
        refine zbt (fun ZIH => ?_) (fun ZIH => ?_)
        ·refine zln fun hlen81 => ?_
         refine zbt (fun ZDE => ?_) (fun ZDE => ?_)
         ·refine zln fun hlen82 => ?_
          refine zgo ?_
          exact zwe
         ·refine zgo ?_
          exact zwe
        ·refine zgo ?_
         exact zwe
       ·refine zgo ?_
        exact zwe
      ·refine zgo ?_
       exact zwe
     ·refine zgo ?_
      exact zwe
    obtain rfl := Ze hF
    exact zre []
   ·obtain rfl := Ze hF
    exact zre []

def Zbg (i_3 : Nat) (e : Zj) (ZdR : (List ZJ)) : Option (Bool) :=
 (match ZdR with
 | x39 :: Zgo =>
 ZdV x39 >>= fun r42 =>
 if (!r42) = true then
 some false
 else
 Zbg (i_3 + 1) e Zgo
 | [] =>
 if (e.fOp == 1) = true then
 some ((((((!e.fRec) && (((e.fBinds.length : Nat) : Int) == 0)) && (((e.fKids.length : Nat) : Int) == 0)) && (((e.fAlts.length : Nat) : Int) == 0)) && (e.fName.toList == (ByteArray.mk #[]).toList)) && (((e.fArgs.length : Nat) : Int) == 1))
 else
 if (e.fOp == 2) = true then
 (if ((((!e.fRec) && (((e.fBinds.length : Nat) : Int) == 0)) && (((e.fKids.length : Nat) : Int) == 0)) && (((e.fAlts.length : Nat) : Int) == 0)) = true then ZbU e.fName >>= fun r55 =>
 some r55 else some false) >>= fun c56 =>
 some (c56 && (decide (((e.fArgs.length : Nat) : Int) > 0)))
 else
 if (e.fOp == 3) = true then
 ZcD e (e.fOp == 3)
 else
 ZcD e (e.fOp == 4))
 partial_fixpoint
def Zbg.M (e : Zj) (i_3 : Nat) (ZdR : (List ZJ)) (r : Bool) : Prop :=
 ∀ ZiQ : List ZJ, e.fArgs = ZiQ ++ ZdR → i_3 = ZiQ.length → nL 152 Tryz.f139 [1, 0, 1, 0] (.c none (.v (.bool r))) [] ⟨[(1, .ptr 1 0), (3, .c none (.v (.int .i64 ((i_3 : Nat) : Int))))], [(1, (Zj.bx e))]⟩
theorem Zlz (e : Zj) : ∀ i_3 ZdR r, Zbg i_3 e ZdR = some r → Zbg.M e i_3 ZdR r := by
 refine Zbg.partial_correctness e (Zbg.M e) ?_
 intro lazycref36_fields_l1' ZlK i_3 ZdR r hF
 unfold Zbg.M nL
 intro ZiQ Zoc Zon
 refine AWL.step ?_
 refine zln fun hlen38 => ?_
 refine zbl Zoc Zon (fun x39 Zgo ZeM ZjB Zrj => ?_) (fun ZeM => ?_)
 ·subst ZeM
  obtain ⟨r42, ZjT, hF⟩ := bind_some hF
  refine zsr (Zr (f := ZJ.cells) (ZJ.cells_eq x39) ZjB) ?_
  refine zca [] [] [] (Zpk ZjT) ?_
  refine zbr hF (fun ZJv hF => ?_) (fun ZJv hF => ?_)
  ·obtain rfl := Ze hF
   exact zre []
  ·exact znl (ZlK _ _ _ hF _ (zlh Zoc) (zlk Zon))
 ·subst ZeM
  refine nw ?_
  refine sq ?_
  refine zck [1] [1] [(4, .c none (.v (.bool ((((!e.fRec) && (((e.fBinds.length : Nat) : Int) == 0)) && (((e.fKids.length : Nat) : Int) == 0)) && (((e.fAlts.length : Nat) : Int) == 0)))))] ?_ ?_
  ·exact zpt
  refine zbr hF (fun ZzF hF => ?_) (fun ZzF hF => ?_)
  ·refine sq ?_
   refine zck [] [] [(2, .c none (.v (.bool ((((((!e.fRec) && (((e.fBinds.length : Nat) : Int) == 0)) && (((e.fKids.length : Nat) : Int) == 0)) && (((e.fAlts.length : Nat) : Int) == 0)) && (e.fName.toList == (ByteArray.mk #[]).toList)) && (((e.fArgs.length : Nat) : Int) == 1)))))] ?_ ?_
   ·exact zpt
   obtain rfl := Ze hF
   exact zre []
  ·refine zbr hF (fun ZIs hF => ?_) (fun ZIs hF => ?_)
   ·obtain ⟨c56, Zv5, hF⟩ := bind_some hF
    refine sq ?_
    refine zck [] [] [(2, .c none (.v (.bool (c56 && (decide (((e.fArgs.length : Nat) : Int) > 0))))))] ?_ ?_
    ·refine zbt (fun Zzm => ?_) (fun Zzm => ?_)
     ·have Zv5 := ift Zzm Zv5
      obtain ⟨r55, ZDl, Zv5⟩ := bind_some Zv5
      refine zca [] [] [] (Zd0 ZDl) ?_
      obtain rfl := Ze Zv5
      refine zbt (fun Zy4 => ?_) (fun Zy4 => ?_)
      ·refine zln fun hlen57 => ?_
       refine zgo ?_
       exact zwe
      ·refine zgo ?_
       exact zwe
     ·have Zv5 := ife Zzm Zv5
      obtain rfl := Ze Zv5
      refine zgo ?_
      exact zwe
    obtain rfl := Ze hF
    exact zre []
   ·refine zbr hF (fun ZJp hF => ?_) (fun ZJp hF => ?_)
    ·refine nw ?_
     exact zja (Ziq hF hlen38)
    ·refine ns ?_
     exact zja (Ziq hF hlen38)
theorem Zme {i_3 e ZdR r} (h : Zbg i_3 e ZdR = some r) : Zbg.M e i_3 ZdR r := (Zlz e) _ _ _ h

def Zeg (e : Zj) : Option (Bool) :=
 Zbg 0 e e.fArgs
def Zeg.M (e : Zj) (r : Bool) : Prop :=
 Zq Tryz.prog 139 [.agg (Zj.fl e)] [] (fun d b => d = .c none (.v (.bool r)) ∧ b = [])
theorem Zod {e r} (hF : Zeg e = some r) : Zeg.M e r := by
 unfold Zeg at hF
 unfold Zeg.M
 refine en Tryz.func139 ?_
 exact znl (Zme hF ([]) rfl rfl)

def Zcz (a : Zf) : Option (Bool) :=
 if (a.fOp == 1) = true then
 ZbU a.fName >>= fun r2 =>
 some (r2 && (a.fN == 0))
 else
 if (a.fOp == 2) = true then
 some ((a.fName.toList == (ByteArray.mk #[]).toList) && (((a.fVars.length : Nat) : Int) == 0))
 else
 if (a.fOp == 3) = true then
 some ((((a.fName.toList == (ByteArray.mk #[]).toList) && (((a.fVars.length : Nat) : Int) == 0)) && (decide (a.fN ≥ 0))) && (decide (a.fN ≤ 255)))
 else
 if (a.fOp == 4) = true then
 some (((a.fName.toList == (ByteArray.mk #[]).toList) && (a.fN == 0)) && (((a.fVars.length : Nat) : Int) == 0))
 else
 some false
def Zcz.M (a : Zf) (r : Bool) : Prop :=
 Zq Tryz.prog 157 [.agg (Zf.fl a)] [] (fun d b => d = .c none (.v (.bool r)) ∧ b = [])
theorem ZkY {a r} (hF : Zcz a = some r) : Zcz.M a r := by
 unfold Zcz at hF
 unfold Zcz.M
 refine en Tryz.func157 ?_
 refine zbr hF (fun hc1 hF => ?_) (fun hc1 hF => ?_)
 ·obtain ⟨r2, hr2, hF⟩ := bind_some hF
  refine sq ?_
  refine zck [] [] [(2, .c none (.v (.bool (r2 && (a.fN == 0)))))] ?_ ?_
  ·refine zca [] [] [] (Zd0 hr2) ?_
   refine zbt (fun hc3 => ?_) (fun hc3 => ?_)
   ·refine zgo ?_
    exact zwe
   ·refine zgo ?_
    exact zwe
  obtain rfl := Ze hF
  exact zre []
 ·refine zbr hF (fun hc4 hF => ?_) (fun hc4 hF => ?_)
  ·refine sq ?_
   refine zck [] [] [(2, .c none (.v (.bool ((a.fName.toList == (ByteArray.mk #[]).toList) && (((a.fVars.length : Nat) : Int) == 0)))))] ?_ ?_
   ·exact zpt
   obtain rfl := Ze hF
   exact zre []
  ·refine zbr hF (fun hc7 hF => ?_) (fun hc7 hF => ?_)
   ·refine sq ?_
    refine zck [] [] [(2, .c none (.v (.bool ((((a.fName.toList == (ByteArray.mk #[]).toList) && (((a.fVars.length : Nat) : Int) == 0)) && (decide (a.fN ≥ 0))) && (decide (a.fN ≤ 255))))))] ?_ ?_
    ·exact zpt
    obtain rfl := Ze hF
    exact zre []
   ·refine zbr hF (fun Zfl hF => ?_) (fun Zfl hF => ?_)
    ·refine sq ?_
     refine zck [] [] [(2, .c none (.v (.bool (((a.fName.toList == (ByteArray.mk #[]).toList) && (a.fN == 0)) && (((a.fVars.length : Nat) : Int) == 0)))))] ?_ ?_
     ·exact zpt
     obtain rfl := Ze hF
     exact zre []
    ·obtain rfl := Ze hF
     exact zre []

mutual
def ZU (l : (List Zf)) (i_3 : Nat) : Option (Bool) :=
 if (decide (((i_3 : Nat) : Int) < ((l.length : Nat) : Int))) = true then
 (l[i_3]?) >>= fun ZD6 =>
 Zcz ZD6 >>= fun ZHD =>
 (if (!ZHD) = true then some true else (l[i_3]?) >>= fun ZCP =>
 some ((ZCP.fOp == 4) && (decide (((i_3 : Nat) : Int) < (IntKind.i64.wrap (((l.length : Nat) : Int) - 1)))))) >>= fun c309 =>
 if c309 = true then
 some false
 else
 ZaI l i_3 0
 else
 some true
 partial_fixpoint
def ZaI (l : (List Zf)) (i_3 : Nat) (k_4 : Nat) : Option (Bool) :=
 if (decide (((k_4 : Nat) : Int) < ((i_3 : Nat) : Int))) = true then
 (l[i_3]?) >>= fun ZCR =>
 (if (ZCR.fOp != 4) = true then (l[k_4]?) >>= fun ZEi =>
 (l[i_3]?) >>= fun ZDL =>
 (if (ZEi.fOp != ZDL.fOp) = true then some true else (l[k_4]?) >>= fun ZDt =>
 (l[i_3]?) >>= fun ZDg =>
 (if (ZDt.fName.toList == ZDg.fName.toList) = true then (l[k_4]?) >>= fun ZCI =>
 (l[i_3]?) >>= fun ZC8 =>
 some (ZCI.fN == ZC8.fN) else some false) >>= fun c379 =>
 some c379) >>= fun c380 =>
 some c380 else some false) >>= fun c381 =>
 if c381 = true then
 some false
 else
 ZaK (k_4 + 1 ≤ 9223372036854775807) >>= fun _ =>
 ZaI l i_3 (k_4 + 1)
 else
 ZU l (i_3 + 1)
 partial_fixpoint
end
def ZU.M (l : (List Zf)) (i_3 : Nat) (r : Bool) : Prop :=
 nL 82 Tryz.f140 [1, 0, 1, 0] (.c none (.v (.bool r))) [] ⟨[(0, .c none (.sl (l.map Zf.cells))), (3, .c none (.v (.int .i64 ((i_3 : Nat) : Int))))], []⟩
def ZaI.M (l : (List Zf)) (i_3 : Nat) (k_4 : Nat) (r : Bool) : Prop :=
 l.length ≤ maxLen → i_3 < l.length → nL 82 Tryz.f140 [1, 0, 1, 0, 0, 1, 0, 0, 1, 1, 0] (.c none (.v (.bool r))) [] ⟨[(0, .c none (.sl (l.map Zf.cells))), (3, .c none (.v (.int .i64 ((i_3 : Nat) : Int)))), (4, .c none (.v (.int .i64 ((k_4 : Nat) : Int))))], []⟩
theorem Zjg (l : (List Zf)) : (∀ i_3 r, ZU l i_3 = some r → ZU.M l i_3 r) ∧ (∀ i_3 k_4 r, ZaI l i_3 k_4 = some r → ZaI.M l i_3 k_4 r) := by
 refine ZU.mutual_partial_correctness l (ZU.M l) (ZaI.M l) ?_ ?_
 ·intro lazycref36_alternatives_l2' ZeD i_3 r hF
  unfold ZU.M nL
  refine AWL.step ?_
  refine zln fun hlen297 => ?_
  refine zbr hF (fun ZCe hF => ?_) (fun ZCe hF => ?_)
  ·have ZBn := Zj7 ZCe
   obtain ⟨ZD6, ZGN, hF⟩ := bind_some hF
   obtain ⟨ZHD, ZGp, hF⟩ := bind_some hF
   obtain ⟨c309, Zp9, hF⟩ := bind_some hF
   refine nw ?_
   refine sq (bk ?_)
   refine sq (sq ?_)
   refine zck [0, 3] [] [(31, .c none (.v (.bool c309)))] ?_ ?_
   ·refine zsr (Zr (f := Zf.cells) (Zf.cells_eq ZD6) ZGN) ?_
    refine zca [] [] [] (ZkY ZGp) ?_
    refine zbf (fun ZAQ => ?_) (fun ZAQ => ?_)
    ·have Zp9 := ift ZAQ Zp9
     obtain rfl := Ze Zp9
     refine zgo ?_
     exact zwe
    ·have Zp9 := ife ZAQ Zp9
     obtain ⟨ZCP, ZHG, Zp9⟩ := bind_some Zp9
     refine zsr (Zr (f := Zf.cells) (Zf.cells_eq ZCP) ZHG) ?_
     refine zbt (fun ZGB => ?_) (fun ZGB => ?_)
     ·refine zln fun hlen308 => ?_
      obtain rfl := Ze Zp9
      refine zgo ?_
      exact zwe
     ·obtain rfl := Ze Zp9
      refine zgo ?_
      exact zwe
   refine zbr hF (fun ZGy hF => ?_) (fun ZGy hF => ?_)
   ·obtain rfl := Ze hF
    exact zre []
   ·exact znl (ZeD _ _ _ hF hlen297 ZBn)
  ·obtain rfl := Ze hF
   exact zre []
 ·intro lazycref36_alternatives_l1' lazycref36_alternatives_l2' ZjP ZeD i_3 k_4 r hF
  unfold ZaI.M nL
  intro hlen297 ZBn
  refine AWL.step ?_
  refine zbr hF (fun ZFG hF => ?_) (fun ZFG hF => ?_)
  ·obtain ⟨ZCR, ZHg, hF⟩ := bind_some hF
   obtain ⟨c381, Ziv, hF⟩ := bind_some hF
   refine nw ?_
   refine sq (bk ?_)
   refine sq ?_
   refine zck [0, 3, 4] [] [(81, .c none (.v (.bool c381)))] ?_ ?_
   ·refine zdo 41 [37, 38, 39, 40, 41, 42, 43, 44, 45, 46, 47, 48, 49, 50, 51, 52, 53, 54, 55, 56, 57, 58, 59, 60, 61, 62, 63, 64, 65, 66, 67, 68, 69, 70, 71, 72, 73, 74, 75, 76, 77] [2199023255551, 2199023255551, 2199023255548, 2199023255544, 2199023255536, 2199023255520, 2199023255488, 2199023255424, 2199023255424, 2199023255040, 2199023254528, 2199023253504, 2199023255424, 2199023255424, 2199023243136, 2199023226752, 2199023193984, 2199023124480, 2199022993408, 2199022731264, 2199022731264, 2199021158400, 2199019061248, 2199014866944, 2199022731264, 2199022731264, 2198972399616, 2198905290752, 2198771073024, 2198486384640, 2197949513728, 2196875771904, 2196875771904, 2190433320960, 2181843386368, 2164663517184, 2196875771904, 2196875771904, 1990717341696, 1715839434752, 1166083620864] ?_
    refine dp ?_
    refine dp ?_
    refine dr (Zr (Zf.cells_eq ZCR) ZHg) ?_
    refine zdp ?_
    refine zbt (fun Zoh => ?_) (fun Zoh => ?_)
    ·have Ziv := ift Zoh Ziv
     obtain ⟨ZEi, ZGO, Ziv⟩ := bind_some Ziv
     obtain ⟨ZDL, ZEZ, Ziv⟩ := bind_some Ziv
     obtain ⟨c380, Zgh, Ziv⟩ := bind_some Ziv
     refine zgo ?_
     refine dp ?_
     refine dp ?_
     refine dr (Zr (Zf.cells_eq ZEi) ZGO) ?_
     refine dp ?_
     refine dp ?_
     refine dp ?_
     refine dp ?_
     refine dr (Zr (Zf.cells_eq ZDL) ZEZ) ?_
     refine zdp ?_
     refine zbf (fun ZsM => ?_) (fun ZsM => ?_)
     ·have Zgh := ift (an Zoh ZsM) Zgh
      obtain rfl := Ze Zgh
      obtain rfl := Ze Ziv
      refine zgo ?_
      exact zwe
     ·have Zgh := ife (an Zoh ZsM) Zgh
      obtain ⟨ZDt, ZHZ, Zgh⟩ := bind_some Zgh
      obtain ⟨ZDg, ZF8, Zgh⟩ := bind_some Zgh
      obtain ⟨c379, Zo9, Zgh⟩ := bind_some Zgh
      refine zgo ?_
      refine dp ?_
      refine dp ?_
      refine dr (Zr (Zf.cells_eq ZDt) ZHZ) ?_
      refine dp ?_
      refine dp ?_
      refine dp ?_
      refine dp ?_
      refine dr (Zr (Zf.cells_eq ZDg) ZF8) ?_
      refine zdp ?_
      refine zbt (fun ZvO => ?_) (fun ZvO => ?_)
      ·have Zo9 := ift (an Zoh (an ZsM ZvO)) Zo9
       obtain ⟨ZCI, ZE5, Zo9⟩ := bind_some Zo9
       obtain ⟨ZC8, ZGZ, Zo9⟩ := bind_some Zo9
       refine zgo ?_
       refine dp ?_
       refine dp ?_
       refine dr (Zr (Zf.cells_eq ZCI) ZE5) ?_
       refine dp ?_
       refine dp ?_
       refine dp ?_
       refine dp ?_
       refine dr (Zr (Zf.cells_eq ZC8) ZGZ) ?_
       refine dp ?_
       refine dp ?_
       obtain rfl := Ze Zo9
       obtain rfl := Ze Zgh
       obtain rfl := Ze Ziv
       refine zgo ?_
       exact zwe
      ·have Zo9 := ife (an Zoh (an ZsM ZvO)) Zo9
       obtain rfl := Ze Zo9
       obtain rfl := Ze Zgh
       obtain rfl := Ze Ziv
       refine zgo ?_
       exact zwe
    ·have Ziv := ife Zoh Ziv
     obtain rfl := Ze Ziv
     refine zgo ?_
     exact zwe
   refine zbr hF (fun Zy0 hF => ?_) (fun Zy0 hF => ?_)
   ·obtain rfl := Ze hF
    exact zre []
   ·obtain ⟨ZE6, hF⟩ := Zx hF
    refine zgo ?_
    exact lv (rn []) (ZeD _ _ _ hF hlen297 ZBn) (WS.mk (tc (tc (ZcI (Zc7 (ZeC (Zn8 ZE6))) ZcZ))) Zc6)
  ·exact znl (ZjP _ _ hF)
theorem ZjE {l i_3 r} (h : ZU l i_3 = some r) : ZU.M l i_3 r := (Zjg l).1 _ _ h

def ZcT (l : (List Zf)) : Option (Bool) :=
 ZU l 0
def ZcT.M (l : (List Zf)) (r : Bool) : Prop :=
 Zq Tryz.prog 140 [.c none (.sl (l.map Zf.cells))] [] (fun d b => d = .c none (.v (.bool r)) ∧ b = [])
theorem Zku {l r} (hF : ZcT l = some r) : ZcT.M l r := by
 unfold ZcT at hF
 unfold ZcT.M
 refine en Tryz.func140 ?_
 exact znl (ZjE hF)

def Zbo (l : (List Zk)) (name_ : ByteArray) (i_6 : Nat) (ZcK : (List Zk)) : Option (Zk × Bool) :=
 (match ZcK with
 | x39 :: Zgo =>
 if (x39.fName.toList == name_.toList) = true then
 some (x39, true)
 else
 Zbo l name_ (i_6 + 1) Zgo
 | [] =>
 some (Zk.mk (ByteArray.mk #[]) 0 0, false))
 partial_fixpoint
def Zbo.M (l : (List Zk)) (name_ : ByteArray) (i_6 : Nat) (ZcK : (List Zk)) (r : Zk × Bool) : Prop :=
 ∀ ZeX : List Zk, l = ZeX ++ ZcK → i_6 = ZeX.length → nL 25 Tryz.f158 [1, 0, 1, 0] (.tup [.agg (Zk.fl r.1), .c (.v (.bool r.2))]) [] ⟨[(0, .c none (.sl (l.map Zk.cells))), (1, .c none (.v (.string name_))), (4, .ptr 4 0), (6, .c none (.v (.int .i64 ((i_6 : Nat) : Int))))], [(4, [(none, .v (.string (ByteArray.mk #[]))), (none, .v (.int .i64 0)), (none, .v (.int .i64 0))])]⟩
theorem ZmS (l : (List Zk)) (name_ : ByteArray) : ∀ i_6 ZcK r, Zbo l name_ i_6 ZcK = some r → Zbo.M l name_ i_6 ZcK r := by
 refine Zbo.partial_correctness l name_ (Zbo.M l name_) ?_
 intro lazycref36_cons_l1' ZnB i_6 ZcK r hF
 unfold Zbo.M nL
 intro ZeX ZiR ZiK
 refine AWL.step ?_
 refine zln fun hlen38 => ?_
 refine zbl ZiR ZiK (fun x39 Zgo ZeM ZjB Zrj => ?_) (fun ZeM => ?_)
 ·subst ZeM
  refine zsr (Zr (f := Zk.cells) (Zk.cells_eq x39) ZjB) ?_
  refine zbr hF (fun ZJR hF => ?_) (fun ZJR hF => ?_)
  ·refine zsr (Zr (f := Zk.cells) (Zk.cells_eq x39) ZjB) ?_
   obtain rfl := Ze hF
   exact zre []
  ·exact znl (ZnB _ _ _ hF _ (zlh ZiR) (zlk ZiK))
 ·subst ZeM
  obtain rfl := Ze hF
  exact zre []
theorem ZnE {l name_ i_6 ZcK r} (h : Zbo l name_ i_6 ZcK = some r) : Zbo.M l name_ i_6 ZcK r := (ZmS l name_) _ _ _ h

def ZeI (l : (List Zk)) (name_ : ByteArray) : Option (Zk × Bool) :=
 Zbo l name_ 0 l
def ZeI.M (l : (List Zk)) (name_ : ByteArray) (r : Zk × Bool) : Prop :=
 Zq Tryz.prog 158 [.c none (.sl (l.map Zk.cells)), .c none (.v (.string name_))] [] (fun d b => d = .tup [.agg (Zk.fl r.1), .c (.v (.bool r.2))] ∧ b = [])
theorem Zpm {l name_ r} (hF : ZeI l name_ = some r) : ZeI.M l name_ r := by
 unfold ZeI at hF
 unfold ZeI.M
 refine en Tryz.func158 ?_
 exact znl (ZnE hF ([]) rfl rfl)

def Zbs (l : (List Zk)) (name_ : ByteArray) (n : Int) : Option (Bool) :=
 ZeI l name_ >>= fun r1 =>
 some ((!r1.2) || (r1.1.fArity == n))
def Zbs.M (l : (List Zk)) (name_ : ByteArray) (n : Int) (r : Bool) : Prop :=
 Zq Tryz.prog 141 [.c none (.sl (l.map Zk.cells)), .c none (.v (.string name_)), .c none (.v (.int .i64 n))] [] (fun d b => d = .c none (.v (.bool r)) ∧ b = [])
theorem Zik {l name_ n r} (hF : Zbs l name_ n = some r) : Zbs.M l name_ n r := by
 unfold Zbs at hF
 unfold Zbs.M
 refine en Tryz.func141 ?_
 obtain ⟨r1, hr1, hF⟩ := bind_some hF
 refine zca [] [] [] (Zpm hr1) ?_
 refine st ?_
 refine sq ?_
 refine zck [] [] [(6, .c none (.v (.bool ((!r1.2) || (r1.1.fArity == n)))))] ?_ ?_
 ·exact zpt
 obtain rfl := Ze hF
 exact zre []

end Go.Proofs.YtklkaikbpciepaaGreatDoor
