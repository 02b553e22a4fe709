/- Part 5 of the proof: the program's functions as Lean functions with their walks, and the plain law. It holds for every input, without conditions. -/
import Derived.Test.YtgbglhbdjambbaaGreatDoorProg
import Derived.Lib.AppendIntMem
import Derived.Test.YtgbglhbdjambbaaGreatDoorUmA
import Derived.Test.YtgbglhbdjambbaaGreatDoorUmB
import Derived.Test.YtgbglhbdjambbaaGreatDoorUmC
import Derived.Test.YtgbglhbdjambbaaGreatDoorUmD
set_option linter.unusedVariables false
namespace Go.Proofs.YtgbglhbdjambbaaGreatDoor
open Go Go.Am
def Zwf (o : Option Value) : Prop := ∃ m, o = some (.int .i64 m)
def ZmH (o : Option Value) : Prop := ∃ ev, o = some ev ∧ (ev = .nilIface ∨ ∃ te pe, ev = .iface te pe)
def Zs0 (i : Nat) (o : Option Value) : Prop := o = some (.int .u64 ((10 ^ i : Nat) : Int))
def Zqm (o : Option Value) : Prop := o = none
def Zon : List (Nat × Nat × (Option Value → Prop)) := (3, 20, Zqm) :: (List.range 20).map fun i => (3, i, Zs0 i)
def ZdO : List (Nat × Nat × (Option Value → Prop)) := [(0, 0, Zwf), (1, 0, ZmH), (2, 0, ZmH)]
instance : Gl Tryz.prog := ⟨Zon ++ ZdO⟩

def tab : Tab := [
 (2, ⟨(.int .i64), 1, 8, some [.v (.int .i64 0)], true⟩),
 (3, ⟨(.int .i64), 1, 8, some [.v (.int .i64 0)], true⟩),
 (4, ⟨.bool, 1, 1, some [.v (.bool false)], true⟩),
 (5, ⟨(.int .u8), 1, 1, some [.v (.int .u8 0)], true⟩),
 (9, ⟨.string, 1, 16, some [.v (.string ⟨#[]⟩)], true⟩),
 (12, ⟨(.int .u64), 1, 8, some [.v (.int .u64 0)], true⟩),
 (13, ⟨(.struct [(9, 0), (12, 1)]), 2, 24, some [.v (.string ⟨#[]⟩), .v (.int .u64 0)], false⟩),
 (21, ⟨(.int .i32), 1, 4, some [.v (.int .i32 0)], true⟩),
 (22, ⟨(.int .i64), 1, 8, some [.v (.int .i64 0)], true⟩),
 (23, ⟨(.slice 25), 1, 24, some [.nils], true⟩),
 (24, ⟨(.struct [(23, 0)]), 1, 24, some [.nils], true⟩),
 (25, ⟨(.struct [(23, 0)]), 1, 24, some [.nils], true⟩),
 (26, ⟨(.slice 28), 1, 24, some [.nils], true⟩),
 (27, ⟨(.struct [(22, 0), (9, 1), (25, 2), (26, 3)]), 4, 72, some [.v (.int .i64 0), .v (.string ⟨#[]⟩), .nils, .nils], true⟩),
 (28, ⟨(.struct [(22, 0), (9, 1), (25, 2), (26, 3)]), 4, 72, some [.v (.int .i64 0), .v (.string ⟨#[]⟩), .nils, .nils], true⟩),
 (31, ⟨(.slice 45), 1, 24, some [.nils], true⟩),
 (32, ⟨(.int .i64), 1, 8, some [.v (.int .i64 0)], true⟩),
 (37, ⟨(.slice 38), 1, 24, some [.nils], true⟩),
 (38, ⟨(.array 2 28), 8, 144, some [.v (.int .i64 0), .v (.string ⟨#[]⟩), .nils, .nils, .v (.int .i64 0), .v (.string ⟨#[]⟩), .nils, .nils], true⟩),
 (42, ⟨(.slice 9), 1, 24, some [.nils], true⟩),
 (44, ⟨(.struct [(9, 0), (28, 1)]), 5, 88, some [.v (.string ⟨#[]⟩), .v (.int .i64 0), .v (.string ⟨#[]⟩), .nils, .nils], true⟩),
 (45, ⟨(.struct [(9, 0), (28, 1)]), 5, 88, some [.v (.string ⟨#[]⟩), .v (.int .i64 0), .v (.string ⟨#[]⟩), .nils, .nils], true⟩),
 (53, ⟨(.ptr 56), 1, 8, some [.v (.pointer none)], true⟩),
 (54, ⟨(.map 9 3), 1, 8, some [.v (.map none)], true⟩),
 (55, ⟨(.struct [(31, 0), (54, 1)]), 2, 32, some [.nils, .v (.map none)], true⟩),
 (56, ⟨(.struct [(31, 0), (54, 1)]), 2, 32, some [.nils, .v (.map none)], true⟩),
 (67, ⟨(.map 9 4), 1, 8, some [.v (.map none)], true⟩),
 (69, ⟨(.ptr 70), 1, 8, some [.v (.pointer none)], true⟩),
 (70, ⟨(.struct [(31, 0), (54, 1)]), 2, 32, some [.nils, .v (.map none)], true⟩),
 (74, ⟨(.map 9 9), 1, 8, some [.v (.map none)], true⟩),
 (81, ⟨(.int .i64), 1, 8, some [.v (.int .i64 0)], true⟩),
 (91, ⟨(.map 9 28), 1, 8, some [.v (.map none)], true⟩),
 (106, ⟨(.map 22 3), 1, 8, some [.v (.map none)], true⟩),
 (114, ⟨.iface, 1, 16, some [.v .nilIface], false⟩),
 (118, ⟨(.slice 123), 1, 24, some [.nils], true⟩),
 (122, ⟨(.struct [(9, 0), (9, 1)]), 2, 32, some [.v (.string ⟨#[]⟩), .v (.string ⟨#[]⟩)], true⟩),
 (123, ⟨(.struct [(9, 0), (9, 1)]), 2, 32, some [.v (.string ⟨#[]⟩), .v (.string ⟨#[]⟩)], true⟩),
 (131, ⟨(.int .i64), 1, 8, some [.v (.int .i64 0)], true⟩),
 (132, ⟨(.slice 5), 1, 24, some [.nils], true⟩),
 (139, ⟨(.int .u64), 1, 8, some [.v (.int .u64 0)], true⟩),
 (146, ⟨(.int .u64), 1, 8, some [.v (.int .u64 0)], true⟩),
 (148, ⟨(.struct [(9, 0), (9, 1), (114, 2)]), 3, 48, some [.v (.string ⟨#[]⟩), .v (.string ⟨#[]⟩), .v .nilIface], false⟩),
 (155, ⟨(.int .u32), 1, 4, some [.v (.int .u32 0)], true⟩),
 (160, ⟨(.ptr 5), 1, 8, some [.v (.pointer none)], true⟩),
 (162, ⟨(.struct [(9, 0)]), 1, 16, some [.v (.string ⟨#[]⟩)], true⟩)]
set_option maxRecDepth 100000
theorem tabOk : TOk Tryz.prog tab := by unfold TOk; kernel_rfl
theorem follows : Tryz.prog.follows .mixedOrders = true := by kernel_rfl
theorem ZED (nt : Nat) (h : nt ≤ EXT) : Zty Tryz.prog tab nt (@ZsG) := ZzA tabOk h follows

set_option linter.unusedSimpArgs false
set_option maxHeartbeats 4000000
set_option synthInstance.maxHeartbeats 1000000
set_option synthInstance.maxSize 1000
theorem nd {nt : Nat} (h : decide (nt ≤ EXT) = true) (c : Code) (Q : Exit → AS → Prop) (S : AS) (hk : Am.node (@ZsG) Tryz.prog tab nt c Q S) : AWP Tryz.prog nt c Q S :=
 AWP.node tabOk (of_decide_eq_true h) (ZED nt (of_decide_eq_true h)) c Q S hk
theorem Zx5 : (Tryz.prog.underlying 1000000).isNone = true := by kernel_rfl
theorem nn {nt : Nat} {c : Code} {Q : Exit → AS → Prop} {S : AS} (hk : Am.node (@ZsG) Tryz.prog tab nt c Q S) (h : decide (nt ≤ EXT) = true := by decide) : AWP Tryz.prog nt c Q S := nd h c Q S hk
theorem nw {nt : Nat} {c : Code} {Q : Exit → AS → Prop} {S : AS} {G' : Prop} (hk : G') (s : Zel (Am.node (@ZsG) Tryz.prog tab nt c Q S) G' := by (conv => (arg 1; whnf)); exact Zel.done) (h : decide (nt ≤ EXT) = true := by decide) : AWP Tryz.prog nt c Q S := nd h c Q S (s hk)
theorem ns {nt : Nat} {c : Code} {Q : Exit → AS → Prop} {S : AS} {G' : Prop} (hk : G') (s : Zel (Am.node (@ZsG) Tryz.prog tab nt c Q S) G' := by
  (repeat (first | ((conv => (arg 1; whnf)); (with_reducible apply Zel.side); (focus (first | exact Eq.refl _ | exact trivial | (with_reducible assumption) | (with_reducible exact Int.natCast_nonneg _) | exact Nat.le_of_ble_eq_true (Eq.refl true) | exact Zdy (Eq.refl _) (Eq.refl _) (Eq.refl _) | decide)))))
  (conv => (arg 1; whnf))
  exact Zel.done) (h : decide (nt ≤ EXT) = true := by decide) : AWP Tryz.prog nt c Q S := nd h c Q S (s hk)
theorem en {f : FuncId} {fn : Func} (hf : Tryz.prog.funcs[f]? = some fn) {args : List D} {bx bx' : ZbA} {d' : D} (hk : AWP Tryz.prog fn.ntmps (Zr fn) (ZbV tab fn.results (Zb0 d' bx')) ⟨ZdQ 0 args, bx⟩)
  (hb : fn.body.isSome = true := by exact rfl) (hname : (fn.name == "runtime.NumGoroutine") = false := by decide) (hargs : args.length ≤ fn.ntmps := by exact Nat.le_of_ble_eq_true rfl) : Zk Tryz.prog f args bx fun d b => d = d' ∧ b = bx' :=
 enter tabOk hf hb hname hargs hk
mutual
inductive Zj where
 | mk (fArgs : (List Zj))
end
def Zj.fArgs : Zj → (List Zj) | .mk x => x
mutual
def Zj.cells : Zj → List E
 | .mk x0 => [.sl (Zj.encs x0)]
def Zj.encs : List Zj → List (List E)
 | [] => []
 | x :: xs => Zj.cells x :: Zj.encs xs
end
theorem Zj.encs_map : ∀ l : List Zj, Zj.encs l = l.map Zj.cells
 | [] => by simp [Zj.encs]
 | x :: xs => by simp [Zj.encs, Zj.encs_map xs]
theorem Zj.cells_eq (v : Zj) : v.cells = [.sl (v.fArgs.map Zj.cells)] := by
 cases v
 simp only [Zj.cells, List.cons_append, List.nil_append, Zj.encs_map]
 rfl
theorem Zj.cells_len (v : Zj) : v.cells.length = 1 := by rw [Zj.cells_eq]; rfl
theorem Zj.ind {M : Zj → Prop} (h : ∀ v : Zj, (∀ k ∈ v.fArgs, M k) → M v) : ∀ v, M v := by
 intro v
 exact Zj.rec (motive_1 := M) (motive_2 := fun l => ∀ k ∈ l, M k) (fun x0 ih => h _ ih) (fun k hk => by simp at hk) (fun v l hv hl k hk => by
  rcases List.mem_cons.1 hk with rfl | hk
  ·exact hv
  ·exact hl k hk) v
mutual
inductive Za where
 | mk (fOp : Int) (fName : ByteArray) (fBound : Zj) (fKids : (List Za))
end
def Za.fOp : Za → Int | .mk x _ _ _ => x
def Za.fName : Za → ByteArray | .mk _ x _ _ => x
def Za.fBound : Za → Zj | .mk _ _ x _ => x
def Za.fKids : Za → (List Za) | .mk _ _ _ x => x
mutual
def Za.cells : Za → List E
 | .mk x0 x1 x2 x3 => [.v (.int .i64 x0)] ++ [.v (.string x1)] ++ [.sl (x2.fArgs.map Zj.cells)] ++ [.sl (Za.encs x3)]
def Za.encs : List Za → List (List E)
 | [] => []
 | x :: xs => Za.cells x :: Za.encs xs
end
theorem Za.encs_map : ∀ l : List Za, Za.encs l = l.map Za.cells
 | [] => by simp [Za.encs]
 | x :: xs => by simp [Za.encs, Za.encs_map xs]
theorem Za.cells_eq (v : Za) : v.cells = [.v (.int .i64 v.fOp), .v (.string v.fName), .sl (v.fBound.fArgs.map Zj.cells), .sl (v.fKids.map Za.cells)] := by
 cases v
 simp only [Za.cells, List.cons_append, List.nil_append, Za.encs_map]
 rfl
theorem Za.cells_len (v : Za) : v.cells.length = 4 := by rw [Za.cells_eq]; rfl
theorem Za.ind {M : Za → Prop} (h : ∀ v : Za, (∀ k ∈ v.fKids, M k) → M v) : ∀ v, M v := by
 intro v
 exact Za.rec (motive_1 := M) (motive_2 := fun l => ∀ k ∈ l, M k) (fun x0 x1 x2 x3 ih => h _ ih) (fun k hk => by simp at hk) (fun v l hv hl k hk => by
  rcases List.mem_cons.1 hk with rfl | hk
  ·exact hv
  ·exact hl k hk) v
structure Ze where
 fName : ByteArray
 fType : Za
def Ze.cells (v : Ze) : List E := [.v (.string v.fName), .v (.int .i64 v.fType.fOp), .v (.string v.fType.fName), .sl (v.fType.fBound.fArgs.map Zj.cells), .sl (v.fType.fKids.map Za.cells)]
theorem Ze.cells_eq (v : Ze) : v.cells = [.v (.string v.fName), .v (.int .i64 v.fType.fOp), .v (.string v.fType.fName), .sl (v.fType.fBound.fArgs.map Zj.cells), .sl (v.fType.fKids.map Za.cells)] := rfl
theorem Ze.cells_len (v : Ze) : v.cells.length = 5 := rfl
def c_S (x : ByteArray) : List E := [.v (.string x)]
theorem Zfv (x : ByteArray) : (c_S x).length = 1 := rfl
def Zbn (x : Int) : List E := [.v (.int .i64 x)]
theorem ZjE (x : Int) : (Zbn x).length = 1 := rfl
structure Zbj where
 flist : (List Ze)
 fat : (List (ByteArray × Int))
structure Zs where
 flist : (List Ze)
 fat : (List (ByteArray × Int))
structure Zo where
 e0 : Za
 e1 : Za
def Zo.cells (v : Zo) : List E := [.v (.int .i64 v.e0.fOp), .v (.string v.e0.fName), .sl (v.e0.fBound.fArgs.map Zj.cells), .sl (v.e0.fKids.map Za.cells), .v (.int .i64 v.e1.fOp), .v (.string v.e1.fName), .sl (v.e1.fBound.fArgs.map Zj.cells), .sl (v.e1.fKids.map Za.cells)]
theorem Zo.cells_eq (v : Zo) : v.cells = [.v (.int .i64 v.e0.fOp), .v (.string v.e0.fName), .sl (v.e0.fBound.fArgs.map Zj.cells), .sl (v.e0.fKids.map Za.cells), .v (.int .i64 v.e1.fOp), .v (.string v.e1.fName), .sl (v.e1.fBound.fArgs.map Zj.cells), .sl (v.e1.fKids.map Za.cells)] := rfl
theorem Zo.cells_len (v : Zo) : v.cells.length = 8 := rfl
theorem ZfO : Zlk c_S := ZvJ
theorem Zmr : Zlk Zbn := ZAY

def strconv_Itoa.M (i : Int) (r : ByteArray) : Prop :=
 Zk Tryz.prog 113 [.c none (.v (.int .i64 i))] [] (fun d b => d = .c none (.v (.string r)) ∧ b = [])
def strings_Cut.M (s : ByteArray) (sep : ByteArray) (r : ByteArray × ByteArray × Bool) : Prop :=
 Zk Tryz.prog 140 [.c none (.v (.string s)), .c none (.v (.string sep))] [] (fun d b => d = .tup [.c (.v (.string r.1)), .c (.v (.string r.2.1)), .c (.v (.bool r.2.2))] ∧ b = [])
def strings_IndexByte.M (s : ByteArray) (c : Int) (r : Int) : Prop :=
 Zk Tryz.prog 149 [.c none (.v (.string s)), .c none (.v (.int .u8 c))] [] (fun d b => d = .c none (.v (.int .i64 r)) ∧ b = [])
def Ze9.M (s : ByteArray) (r : Int × Bool) : Prop :=
 Zk Tryz.prog 115 [.c none (.v (.string s))] [] (fun d b => d = .tup [.c (.v (.int .i64 r.1)), .c (.ifc r.2)] ∧ b = [])
def Zdm.M (s : (List ByteArray)) (r : (List ByteArray)) : Prop :=
 Zk Tryz.prog 122 [.c none (.sl (s.map c_S))] [] (fun d b => d = .c (some (0, 9)) (.sl (r.map c_S)) ∧ b = [])

open Go Go.Am Go.RowKit
theorem ZmT {P : Program} [Gl P] {f : FuncId} {args : List D} {d0 : D} (h : CallsA P f args fun d => d = d0) : Zk P f args [] fun d b => d = d0 ∧ b = [] :=
 ⟨h.1, fun w S0 M0 ZbZ ρ hv hr => (h.2 w S0 M0 ZbZ ρ hv hr).mono fun e w' ⟨v, r, bx', St', ρ', h1, h2, h3, h4⟩ =>
  ⟨v, r, [], St', ρ', h1, ⟨h2, rfl⟩, h3, h4.less ⟨fun i => .inr (.inl rfl), fun n cs hb => by cases hb⟩⟩⟩
theorem ZEF {α : Type} {ZbZ : Array α} (h : ZbZ.size = 1) : ∃ a, ZbZ = #[a] := by
 obtain ⟨l⟩ := ZbZ
 match l, h with
 | [a], _ => exact ⟨a, rfl⟩
theorem ZFn {α : Type} {ZbZ : Array α} (h : ZbZ.size = 2) : ∃ a b, ZbZ = #[a, b] := by
 obtain ⟨l⟩ := ZbZ
 match l, h with
 | [a, b], _ => exact ⟨a, b, rfl⟩
theorem Zeq {w : World} {St : Z5} {s : Value} {x : Value} (h : ZcA w St (.v s) x) : x = s := by
 cases h; rfl
def Zru (i : Int) : ByteArray := ⟨(Lib.itoa i).toArray⟩
def strconv_Itoa (i : Int) : Option ByteArray := ZV (-9223372036854775808 ≤ i ∧ i ≤ 9223372036854775807) >>= fun _ => some (Zru i)
theorem ZBV (w : World) (St : Z5) (hG : Zju Tryz.prog w St) : Lib.TabIs Tryz.prog w "internal/strconv.uint64pow10" .u64 Lib.pow10Tab := by
 have h0 : Zqm (w.cell? ⟨3, 20, none⟩) := (hG (3, 20, Zqm) (List.mem_append_left _ (List.mem_cons_self ..))).2
 have h1 : ∀ i, i < 20 → w.cell? ⟨3, i, none⟩ = some (.int .u64 ((10 ^ i : Nat) : Int)) := fun i hi =>
  (hG (3, i, Zs0 i) (List.mem_append_left _ (List.mem_cons_of_mem _ (List.mem_map.2 ⟨i, List.mem_range.2 hi, rfl⟩)))).2
 have hg : Tryz.prog.globalNamed "internal/strconv.uint64pow10" = some 3 := by kernel_rfl
 unfold Lib.TabIs World.var?
 rw [hg]
 have h2 := h1 0 (by decide)
 unfold Zqm at h0
 unfold World.cell? at h0 h1 h2
 simp only [Option.bind_some]
 split at h2
 case h_2 => cases h2
 rename_i c t f hc
 simp only [hc, Option.isSome_none, Bool.false_eq_true, if_false] at h0 h1 ⊢
 congr 1
 apply Array.ext_getElem?
 intro i
 have e0 : ((Lib.pow10Tab.map fun z => Value.int .u64 z).toArray)[i]? = (Lib.pow10Tab.map fun z => Value.int .u64 z)[i]? := List.getElem?_toArray
 rw [e0, Lib.pow10Tab, List.getElem?_map, List.getElem?_map]
 by_cases hi : i < 20
 ·rw [h1 i hi, List.getElem?_range hi]; rfl
 ·have : c.size ≤ 20 := by
   rcases Nat.lt_or_ge 20 c.size with h | h
   ·rw [Array.getElem?_eq_getElem h] at h0; cases h0
   ·exact h
  rw [Array.getElem?_eq_none (by omega), List.getElem?_eq_none (by simp; omega)]; rfl
theorem Zu8 (w : World) (os : Array Obj) (k : Nat) : Below w.heap.size w (Sort.grow (w.drewN k) os) := Lib.below_grow _ w (Nat.le_refl _) k os
theorem Zlq (i : Int) (r : ByteArray) (h : strconv_Itoa i = some r) : strconv_Itoa.M i r := by
 unfold strconv_Itoa at h
 obtain ⟨hc, h⟩ := Zv h
 obtain rfl := Zh h
 refine ZmT (CallsA.of_calls ⟨_, Tryz.func113, by decide, rfl⟩ fun w St ρ ZbZ hv hr hlt hG => ?_)
 obtain ⟨a, rfl⟩ := ZEF hv
 obtain rfl := Zeq (show ZcA w St (.v (.int .i64 i)) a from (hr 0).val)
 refine (Tryz.strconv_Itoa i hc.1 hc.2 w (ZBV w St hG)).mono ?_
 rintro e w' ⟨rfl, k, os, rfl⟩
 exact ⟨_, rfl, rfl, rfl, Zu8 w os k⟩
def Zwc (s : ByteArray) : Int × Bool :=
 match Lib.atoiAll s.data.toList with
 | .ok v => (v, false)
 | .range => (Lib.atoiSat s.data.toList, true)
 | _ => (0, true)
def Ze9 (s : ByteArray) : Option (Int × Bool) := ZV (s.size ≤ 281474976710656) >>= fun _ => some (Zwc s)
theorem ZCE (w : World) (St : Z5) (hG : Zju Tryz.prog w St) : ZmH (w.cell? ⟨1, 0, none⟩) ∧ ZmH (w.cell? ⟨2, 0, none⟩) :=
 ⟨(hG (1, 0, ZmH) (by first | exact List.mem_append_right _ (by simp [ZdO]) | (show _ ∈ ZdO; simp [ZdO]))).2, (hG (2, 0, ZmH) (by first | exact List.mem_append_right _ (by simp [ZdO]) | (show _ ∈ ZdO; simp [ZdO]))).2⟩
theorem ZBD {w : World} {St : Z5} {ρ : Nat → Nat} {n : Int} {b : Bool} {v : Value} (hv : (b = false ∧ v = .nilIface) ∨ (b = true ∧ ∃ t u, v = .iface t u)) : Zdq w St ρ (.tup [.c (.v (.int .i64 n)), .c (.ifc b)]) (.tuple #[.int .i64 n, v]) := by
 refine ⟨[.int .i64 n, v], rfl, rfl, fun k x hk => ?_⟩
 match k, hk with
 | 0, hk => simp only [List.getElem?_cons_zero, Option.some.injEq] at hk; subst hk; exact ⟨_, rfl, .e _ _ (.v _ rfl)⟩
 | 1, hk => simp only [List.getElem?_cons_succ, List.getElem?_cons_zero, Option.some.injEq] at hk; subst hk; exact ⟨_, rfl, .e _ _ (.ifc b v hv)⟩
 | k + 2, hk => simp at hk
theorem Zur {w w' : World} (h : w' = w ∨ ∃ t, w' = Lib.bytesWorld w 5 t) : Below w.heap.size w w' := by
 rcases h with rfl | ⟨t, rfl⟩
 ·exact Below.refl _ _
 ·exact Lib.bytesWorld_below w 5 t
theorem strconv_Atoi_ok (s : ByteArray) (r : Int × Bool) (h : Ze9 s = some r) : Ze9.M s r := by
 unfold Ze9 at h
 obtain ⟨hc, h⟩ := Zv h
 obtain rfl := Zh h
 refine ZmT (CallsA.of_callsD ⟨_, Tryz.func115, by decide, rfl⟩ fun w St ρ ZbZ hv hr hlt hG => ?_)
 obtain ⟨a, rfl⟩ := ZEF hv
 obtain rfl := Zeq (show ZcA w St (.v (.string s)) a from (hr 0).val)
 obtain ⟨⟨e3, h3, i3⟩, e4, h4, i4⟩ := ZCE w St hG
 unfold Zwc
 cases hn : Lib.atoiAll s.data.toList
 ·rename_i v
  refine (Tryz.strconv_Atoi_ok s (by omega) v hn w).mono ?_
  rintro e w' ⟨rfl, hw⟩
  exact ⟨_, _, rfl, ZBD (.inl ⟨rfl, rfl⟩), rfl, rfl, Zur hw⟩
 ·refine (Tryz.strconv_Atoi_syntax s hc (by rw [hn]; rfl) e3 w h3 i3).mono ?_
  rintro e w' ⟨N, rfl, _, _, hw⟩
  exact ⟨_, _, rfl, ZBD (.inr ⟨rfl, _, _, rfl⟩), rfl, rfl, hw⟩
 ·refine (Tryz.strconv_Atoi_range s hc hn e4 w h4 i4).mono ?_
  rintro e w' ⟨N, rfl, _, _, hw⟩
  exact ⟨_, _, rfl, ZBD (.inr ⟨rfl, _, _, rfl⟩), rfl, rfl, hw⟩
def strings_IndexByte (s : ByteArray) (c : Int) : Option Int := some (Lib.indexByte s.data.toList c.toNat.toUInt8)
theorem Zmm (s : ByteArray) (c r : Int) (h : strings_IndexByte s c = some r) : strings_IndexByte.M s c r := by
 injection h with h; subst h
 refine ZmT (CallsA.of_calls ⟨_, Tryz.func149, by decide, rfl⟩ fun w St ρ ZbZ hv hr hlt hG => ?_)
 obtain ⟨a, b, rfl⟩ := ZFn hv
 obtain rfl := Zeq (show ZcA w St (.v (.string s)) a from (hr 0).val)
 obtain rfl := Zeq (show ZcA w St (.v (.int .u8 c)) b from (hr 1).val)
 refine (Tryz.strings_IndexByte s c w).mono ?_
 rintro e w' ⟨rfl, rfl⟩
 exact ⟨_, rfl, rfl, rfl, Below.refl _ _⟩
def ZC0 (s sep : ByteArray) : ByteArray × ByteArray × Bool := (⟨(Lib.cut s.data.toList sep.data.toList).1.toArray⟩, ⟨(Lib.cut s.data.toList sep.data.toList).2.1.toArray⟩, (Lib.cut s.data.toList sep.data.toList).2.2)
def strings_Cut (s sep : ByteArray) : Option (ByteArray × ByteArray × Bool) := ZV (s.size < 4294967281) >>= fun _ => some (ZC0 s sep)
theorem ZHF {w : World} {St : Z5} {ρ : Nat → Nat} {a b c : Value} (ha : a.oneCell' = true) (hb : b.oneCell' = true) (hc : c.oneCell' = true) : Zdq w St ρ (.tup [.c (.v a), .c (.v b), .c (.v c)]) (.tuple #[a, b, c]) := by
 refine ⟨[a, b, c], rfl, rfl, fun k x hk => ?_⟩
 match k, hk with
 | 0, hk => simp only [List.getElem?_cons_zero, Option.some.injEq] at hk; subst hk; exact ⟨_, rfl, .e _ _ (.v _ ha)⟩
 | 1, hk => simp only [List.getElem?_cons_succ, List.getElem?_cons_zero, Option.some.injEq] at hk; subst hk; exact ⟨_, rfl, .e _ _ (.v _ hb)⟩
 | 2, hk => simp only [List.getElem?_cons_succ, List.getElem?_cons_zero, Option.some.injEq] at hk; subst hk; exact ⟨_, rfl, .e _ _ (.v _ hc)⟩
 | k + 3, hk => simp at hk
theorem ZvR (w : World) (n : Nat) : Below w.heap.size w (w.drewN n) := ⟨rfl, rfl, rfl, Nat.le_refl _, fun _ _ => rfl⟩
theorem Zq8 (s sep : ByteArray) (r : ByteArray × ByteArray × Bool) (h : strings_Cut s sep = some r) : strings_Cut.M s sep r := by
 unfold strings_Cut at h
 obtain ⟨hc, h⟩ := Zv h
 obtain rfl := Zh h
 refine ZmT (CallsA.of_callsD ⟨_, Tryz.func140, by decide, rfl⟩ fun w St ρ ZbZ hv hr hlt hG => ?_)
 obtain ⟨a, b, rfl⟩ := ZFn hv
 obtain rfl := Zeq (show ZcA w St (.v (.string s)) a from (hr 0).val)
 obtain rfl := Zeq (show ZcA w St (.v (.string sep)) b from (hr 1).val)
 obtain ⟨m, hm⟩ := (hG (0, 0, Zwf) (by first | exact List.mem_append_right _ (by simp [ZdO]) | (show _ ∈ ZdO; simp [ZdO]))).2
 refine (Tryz.strings_Cut s sep m w hc hm).mono ?_
 rintro e w' ⟨rfl, n, rfl⟩
 exact ⟨_, _, rfl, ZHF rfl rfl rfl, rfl, rfl, ZvR w n⟩

def Zdm (s : List ByteArray) : Option (List ByteArray) := ZV ((0 + s.length) * 16 ≤ 140737488355328) >>= fun _ => some s
theorem ZkX (s r : List ByteArray) (hF : Zdm s = some r) : Zdm.M s r := by
 unfold Zdm at hF
 obtain ⟨hg, hF⟩ := Zv hF
 obtain rfl := Zh hF
 unfold Zdm.M
 refine enter tabOk Tryz.func122 rfl (by decide) (Nat.le_of_ble_eq_true rfl) ?_
 refine AWP.seq ?_
 refine ns ?_
 refine AWP.seq ?_
 refine AWP.seq ?_
 refine ns ?_
 refine And.intro (fun hnil => ?_) ?_
 ·obtain rfl : s = [] := by simpa using hnil
  refine st ?_
  refine nw ?_
  refine AWP.seq ?_
  refine ns ?_
  refine ns ?_
  refine Exists.intro [] ?_
  refine st ?_
  exact Exists.intro (rn []) (WS.mk (Zd ZjS Zb) Zc)
 ·refine st ?_
  refine nw ?_
  refine nw ?_
  refine AWP.seq ?_
  refine ns ?_
  refine Exists.intro [] (And.intro (WE.refl _) ?_)
  refine st ?_
  refine And.intro (ZbH _ (fun x => Zfv x)) (And.intro (by have h := hg; simp only [List.length_map, List.length_append, List.length_cons, List.length_nil, Nat.zero_add] at h ⊢; first | exact h | (unfold maxLen; omega) | omega) (And.intro (by have h := hg; simp only [List.length_map, List.length_append, List.length_cons, List.length_nil, Nat.zero_add] at h ⊢; first | exact h | (unfold maxLen; omega) | omega) (Exists.intro _ (And.intro (WE.refl _) ?_))))
  refine st ?_
  refine ns ?_
  refine Exists.intro [] ?_
  refine st ?_
  exact Exists.intro (rn [(7, 0)]) (WS.mk (Zd (ZaC rfl (WE.refl _)) Zb) Zc)

theorem ZvK : Zk Tryz.prog 124 [.c none .nils] [] (fun d b => d = .c none (.cl 138 [] [.pt 2000 0]) ∧ b = [(2000, [(none, .nils)])]) := by
 refine enter tabOk Tryz.func124 rfl (by decide) (Nat.le_of_ble_eq_true rfl) ?_
 refine AWP.seq ?_
 refine ns ?_
 refine AWP.seq ?_
 refine ns ?_
 refine ns ?_
 refine Exists.intro [(1, 2000)] ?_
 refine st ?_
 exact Exists.intro (rn []) (WS.mk (Zd (Zq (WE.refl _)) Zb) (Zf rfl (Zet (WE.refl _) Zg) Zc))
theorem ZuR : Zk Tryz.prog 138 [.bot, .ptr 1000 0] [(1000, [(none, .nils)])] (fun d b => d = .tup [] ∧ b = [(1000, [(none, .nils)])]) := by
 refine enter tabOk Tryz.func138 rfl (by decide) (Nat.le_of_ble_eq_true rfl) ?_
 refine AWP.seq ?_
 refine ns ?_
 refine AWP.block ?_
 refine AWP.loop ?_
 refine AWL.step ?_
 refine AWP.seq ?_
 refine AWP.seq ?_
 refine ns ?_
 refine nw ?_
 refine nw ?_
 refine Exists.intro [(1000, 1000)] ?_
 refine st ?_
 exact Exists.intro (rn []) (WS.mk (Zd (Zca Zb8) Zb) (Zf rfl (Zet (WE.refl _) Zg) Zc))
theorem Zvz (x : D) : Zk Tryz.prog 138 [x, .ptr 1000 0] [(1000, [(none, .nils)])] (fun d b => d = .tup [] ∧ b = [(1000, [(none, .nils)])]) :=
 Zk.weak (rn []) ZuR rfl (WS.mk (Zd ZBI (Zd Zy8 Zb)) (Zf rfl (Zet (WE.refl _) Zg) Zc))

def ZL (x_4 : Bool) : Option (Bool) :=
 if x_4 = true then
 some true
 else
 some false
def ZL.M (x_4 : Bool) (r : Bool) : Prop :=
 AWP Tryz.prog 15 (Code.sub (Zr Tryz.f118) [1, 0, 1, 0, 1]) (Code.cont Tryz.prog 15 (Zr Tryz.f118) [1, 0, 1, 0, 1] (ZbV tab Tryz.f118.results (Zb0 (.c none (.v (.bool r))) []))) ⟨[(4, .c none (.v (.bool x_4)))], []⟩
theorem Zal (x_4 : Bool) (r : Bool) (hF : ZL x_4 = some r) : ZL.M x_4 r := by
 unfold ZL at hF
 unfold ZL.M
 refine nw ?_
 refine Zi hF (fun ZeW hF => ?_) (fun ZeW hF => ?_)
 ·refine AWP.seq ?_
  refine ns ?_
  obtain rfl := Zh hF
  refine ns ?_
  refine Exists.intro [] ?_
  refine st ?_
  exact wx (WS.mk (tc Zb) Zc)
 ·refine nw ?_
  refine AWP.seq ?_
  refine ns ?_
  obtain rfl := Zh hF
  refine ns ?_
  refine Exists.intro [] ?_
  refine st ?_
  exact wx (WS.mk (tc Zb) Zc)

def Zbz (s : ByteArray) : Option (Bool) :=
 if (s.toList == (ByteArray.mk #[46, 46]).toList) = true then
 ZL (s.toList == (ByteArray.mk #[46, 46]).toList)
 else
 if (s.toList == (ByteArray.mk #[58, 58]).toList) = true then
 ZL (s.toList == (ByteArray.mk #[58, 58]).toList)
 else
 if (s.toList == (ByteArray.mk #[61]).toList) = true then
 ZL (s.toList == (ByteArray.mk #[61]).toList)
 else
 if (s.toList == (ByteArray.mk #[92]).toList) = true then
 ZL (s.toList == (ByteArray.mk #[92]).toList)
 else
 if (s.toList == (ByteArray.mk #[124]).toList) = true then
 ZL (s.toList == (ByteArray.mk #[124]).toList)
 else
 if (s.toList == (ByteArray.mk #[60, 45]).toList) = true then
 ZL (s.toList == (ByteArray.mk #[60, 45]).toList)
 else
 if (s.toList == (ByteArray.mk #[45, 62]).toList) = true then
 ZL (s.toList == (ByteArray.mk #[45, 62]).toList)
 else
 if (s.toList == (ByteArray.mk #[64]).toList) = true then
 ZL (s.toList == (ByteArray.mk #[64]).toList)
 else
 if (s.toList == (ByteArray.mk #[126]).toList) = true then
 ZL (s.toList == (ByteArray.mk #[126]).toList)
 else
 ZL (s.toList == (ByteArray.mk #[61, 62]).toList)
def Zbz.M (s : ByteArray) (r : Bool) : Prop :=
 Zk Tryz.prog 118 [.c none (.v (.string s))] [] (fun d b => d = .c none (.v (.bool r)) ∧ b = [])
theorem ZeV (s : ByteArray) (r : Bool) (hF : Zbz s = some r) : Zbz.M s r := by
 unfold Zbz at hF
 unfold Zbz.M
 refine en Tryz.func118 ?_
 refine AWP.seq ?_
 refine ns ?_
 refine AWP.seq ?_
 refine AWP.seq ?_
 refine ns ?_
 refine AWP.block ?_
 refine AWP.seq ?_
 refine AWP.seq ?_
 refine ns ?_
 refine nw ?_
 refine Zi hF (fun Zct hF => ?_) (fun Zct hF => ?_)
 ·refine nw ?_
  refine AWP.weak (rn []) ?_ (Zal (s.toList == (ByteArray.mk #[46, 46]).toList) _ hF)
  exact (WS.mk (tc Zb) Zc)
 ·refine AWP.seq ?_
  refine ns ?_
  refine nw ?_
  refine Zi hF (fun Zeo hF => ?_) (fun Zeo hF => ?_)
  ·refine nw ?_
   refine AWP.weak (rn []) ?_ (Zal (s.toList == (ByteArray.mk #[58, 58]).toList) _ hF)
   exact (WS.mk (tc Zb) Zc)
  ·refine AWP.seq ?_
   refine ns ?_
   refine nw ?_
   refine Zi hF (fun ZcB hF => ?_) (fun ZcB hF => ?_)
   ·refine nw ?_
    refine AWP.weak (rn []) ?_ (Zal (s.toList == (ByteArray.mk #[61]).toList) _ hF)
    exact (WS.mk (tc Zb) Zc)
   ·refine AWP.seq ?_
    refine ns ?_
    refine nw ?_
    refine Zi hF (fun Zc8 hF => ?_) (fun Zc8 hF => ?_)
    ·refine nw ?_
     refine AWP.weak (rn []) ?_ (Zal (s.toList == (ByteArray.mk #[92]).toList) _ hF)
     exact (WS.mk (tc Zb) Zc)
    ·refine AWP.seq ?_
     refine ns ?_
     refine nw ?_
     refine Zi hF (fun Zff hF => ?_) (fun Zff hF => ?_)
     ·refine nw ?_
      refine AWP.weak (rn []) ?_ (Zal (s.toList == (ByteArray.mk #[124]).toList) _ hF)
      exact (WS.mk (tc Zb) Zc)
     ·refine AWP.seq ?_
      refine ns ?_
      refine nw ?_
      refine Zi hF (fun ZeJ hF => ?_) (fun ZeJ hF => ?_)
      ·refine nw ?_
       refine AWP.weak (rn []) ?_ (Zal (s.toList == (ByteArray.mk #[60, 45]).toList) _ hF)
       exact (WS.mk (tc Zb) Zc)
      ·refine AWP.seq ?_
       refine ns ?_
       refine nw ?_
       refine Zi hF (fun Zfg hF => ?_) (fun Zfg hF => ?_)
       ·refine nw ?_
        refine AWP.weak (rn []) ?_ (Zal (s.toList == (ByteArray.mk #[45, 62]).toList) _ hF)
        exact (WS.mk (tc Zb) Zc)
       ·refine AWP.seq ?_
        refine ns ?_
        refine nw ?_
        refine Zi hF (fun ZgZ hF => ?_) (fun ZgZ hF => ?_)
        ·refine nw ?_
         refine AWP.weak (rn []) ?_ (Zal (s.toList == (ByteArray.mk #[64]).toList) _ hF)
         exact (WS.mk (tc Zb) Zc)
        ·refine AWP.seq ?_
         refine ns ?_
         refine nw ?_
         refine Zi hF (fun ZkO hF => ?_) (fun ZkO hF => ?_)
         ·refine nw ?_
          refine AWP.weak (rn []) ?_ (Zal (s.toList == (ByteArray.mk #[126]).toList) _ hF)
          exact (WS.mk (tc Zb) Zc)
         ·refine ns ?_
          refine AWP.weak (rn []) ?_ (Zal (s.toList == (ByteArray.mk #[61, 62]).toList) _ hF)
          exact (WS.mk (tc Zb) Zc)

def Zt (x_4 : Bool) : Option (Bool) :=
 if x_4 = true then
 some true
 else
 some false
def Zt.M (x_4 : Bool) (r : Bool) : Prop :=
 AWP Tryz.prog 27 (Code.sub (Zr Tryz.f117) [1, 0, 1, 0, 1]) (Code.cont Tryz.prog 27 (Zr Tryz.f117) [1, 0, 1, 0, 1] (ZbV tab Tryz.f117.results (Zb0 (.c none (.v (.bool r))) []))) ⟨[(4, .c none (.v (.bool x_4)))], []⟩
theorem Zu (x_4 : Bool) (r : Bool) (hF : Zt x_4 = some r) : Zt.M x_4 r := by
 unfold Zt at hF
 unfold Zt.M
 refine nw ?_
 refine Zi hF (fun Zjq hF => ?_) (fun Zjq hF => ?_)
 ·refine AWP.seq ?_
  refine ns ?_
  obtain rfl := Zh hF
  refine ns ?_
  refine Exists.intro [] ?_
  refine st ?_
  exact wx (WS.mk (tc Zb) Zc)
 ·refine nw ?_
  refine AWP.seq ?_
  refine ns ?_
  obtain rfl := Zh hF
  refine ns ?_
  refine Exists.intro [] ?_
  refine st ?_
  exact wx (WS.mk (tc Zb) Zc)

def Zcd (s : ByteArray) : Option (Bool) :=
 if (s.toList == (ByteArray.mk #[97, 115]).toList) = true then
 Zt (s.toList == (ByteArray.mk #[97, 115]).toList)
 else
 if (s.toList == (ByteArray.mk #[99, 97, 115, 101]).toList) = true then
 Zt (s.toList == (ByteArray.mk #[99, 97, 115, 101]).toList)
 else
 if (s.toList == (ByteArray.mk #[99, 108, 97, 115, 115]).toList) = true then
 Zt (s.toList == (ByteArray.mk #[99, 108, 97, 115, 115]).toList)
 else
 if (s.toList == (ByteArray.mk #[100, 97, 116, 97]).toList) = true then
 Zt (s.toList == (ByteArray.mk #[100, 97, 116, 97]).toList)
 else
 if (s.toList == (ByteArray.mk #[100, 101, 114, 105, 118, 105, 110, 103]).toList) = true then
 Zt (s.toList == (ByteArray.mk #[100, 101, 114, 105, 118, 105, 110, 103]).toList)
 else
 if (s.toList == (ByteArray.mk #[100, 111]).toList) = true then
 Zt (s.toList == (ByteArray.mk #[100, 111]).toList)
 else
 if (s.toList == (ByteArray.mk #[101, 108, 115, 101]).toList) = true then
 Zt (s.toList == (ByteArray.mk #[101, 108, 115, 101]).toList)
 else
 if (s.toList == (ByteArray.mk #[104, 105, 100, 105, 110, 103]).toList) = true then
 Zt (s.toList == (ByteArray.mk #[104, 105, 100, 105, 110, 103]).toList)
 else
 if (s.toList == (ByteArray.mk #[105, 102]).toList) = true then
 Zt (s.toList == (ByteArray.mk #[105, 102]).toList)
 else
 if (s.toList == (ByteArray.mk #[105, 109, 112, 111, 114, 116]).toList) = true then
 Zt (s.toList == (ByteArray.mk #[105, 109, 112, 111, 114, 116]).toList)
 else
 if (s.toList == (ByteArray.mk #[105, 110]).toList) = true then
 Zt (s.toList == (ByteArray.mk #[105, 110]).toList)
 else
 if (s.toList == (ByteArray.mk #[105, 110, 102, 105, 120]).toList) = true then
 Zt (s.toList == (ByteArray.mk #[105, 110, 102, 105, 120]).toList)
 else
 if (s.toList == (ByteArray.mk #[105, 110, 102, 105, 120, 108]).toList) = true then
 Zt (s.toList == (ByteArray.mk #[105, 110, 102, 105, 120, 108]).toList)
 else
 if (s.toList == (ByteArray.mk #[105, 110, 102, 105, 120, 114]).toList) = true then
 Zt (s.toList == (ByteArray.mk #[105, 110, 102, 105, 120, 114]).toList)
 else
 if (s.toList == (ByteArray.mk #[105, 110, 115, 116, 97, 110, 99, 101]).toList) = true then
 Zt (s.toList == (ByteArray.mk #[105, 110, 115, 116, 97, 110, 99, 101]).toList)
 else
 if (s.toList == (ByteArray.mk #[108, 101, 116]).toList) = true then
 Zt (s.toList == (ByteArray.mk #[108, 101, 116]).toList)
 else
 if (s.toList == (ByteArray.mk #[109, 111, 100, 117, 108, 101]).toList) = true then
 Zt (s.toList == (ByteArray.mk #[109, 111, 100, 117, 108, 101]).toList)
 else
 if (s.toList == (ByteArray.mk #[111, 102]).toList) = true then
 Zt (s.toList == (ByteArray.mk #[111, 102]).toList)
 else
 if (s.toList == (ByteArray.mk #[113, 117, 97, 108, 105, 102, 105, 101, 100]).toList) = true then
 Zt (s.toList == (ByteArray.mk #[113, 117, 97, 108, 105, 102, 105, 101, 100]).toList)
 else
 if (s.toList == (ByteArray.mk #[116, 104, 101, 110]).toList) = true then
 Zt (s.toList == (ByteArray.mk #[116, 104, 101, 110]).toList)
 else
 if (s.toList == (ByteArray.mk #[119, 104, 101, 114, 101]).toList) = true then
 Zt (s.toList == (ByteArray.mk #[119, 104, 101, 114, 101]).toList)
 else
 Zt (s.toList == (ByteArray.mk #[95]).toList)
def Zcd.M (s : ByteArray) (r : Bool) : Prop :=
 Zk Tryz.prog 117 [.c none (.v (.string s))] [] (fun d b => d = .c none (.v (.bool r)) ∧ b = [])
theorem Zhz (s : ByteArray) (r : Bool) (hF : Zcd s = some r) : Zcd.M s r := by
 unfold Zcd at hF
 unfold Zcd.M
 refine en Tryz.func117 ?_
 refine AWP.seq ?_
 refine ns ?_
 refine AWP.seq ?_
 refine AWP.seq ?_
 refine ns ?_
 refine AWP.block ?_
 refine AWP.seq ?_
 refine AWP.seq ?_
 refine ns ?_
 refine nw ?_
 refine Zi hF (fun Zz7 hF => ?_) (fun Zz7 hF => ?_)
 ·refine nw ?_
  refine AWP.weak (rn []) ?_ (Zu (s.toList == (ByteArray.mk #[97, 115]).toList) _ hF)
  exact (WS.mk (tc Zb) Zc)
 ·refine AWP.seq ?_
  refine ns ?_
  refine nw ?_
  refine Zi hF (fun Zik hF => ?_) (fun Zik hF => ?_)
  ·refine nw ?_
   refine AWP.weak (rn []) ?_ (Zu (s.toList == (ByteArray.mk #[99, 97, 115, 101]).toList) _ hF)
   exact (WS.mk (tc Zb) Zc)
  ·refine AWP.seq ?_
   refine ns ?_
   refine nw ?_
   refine Zi hF (fun ZeM hF => ?_) (fun ZeM hF => ?_)
   ·refine nw ?_
    refine AWP.weak (rn []) ?_ (Zu (s.toList == (ByteArray.mk #[99, 108, 97, 115, 115]).toList) _ hF)
    exact (WS.mk (tc Zb) Zc)
   ·refine AWP.seq ?_
    refine ns ?_
    refine nw ?_
    refine Zi hF (fun ZfB hF => ?_) (fun ZfB hF => ?_)
    ·refine nw ?_
     refine AWP.weak (rn []) ?_ (Zu (s.toList == (ByteArray.mk #[100, 97, 116, 97]).toList) _ hF)
     exact (WS.mk (tc Zb) Zc)
    ·refine AWP.seq ?_
     refine ns ?_
     refine nw ?_
     refine Zi hF (fun Zky hF => ?_) (fun Zky hF => ?_)
     ·refine nw ?_
      refine AWP.weak (rn []) ?_ (Zu (s.toList == (ByteArray.mk #[100, 101, 114, 105, 118, 105, 110, 103]).toList) _ hF)
      exact (WS.mk (tc Zb) Zc)
     ·refine AWP.seq ?_
      refine ns ?_
      refine nw ?_
      refine Zi hF (fun Zqw hF => ?_) (fun Zqw hF => ?_)
      ·refine nw ?_
       refine AWP.weak (rn []) ?_ (Zu (s.toList == (ByteArray.mk #[100, 111]).toList) _ hF)
       exact (WS.mk (tc Zb) Zc)
      ·refine AWP.seq ?_
       refine ns ?_
       refine nw ?_
       refine Zi hF (fun Znf hF => ?_) (fun Znf hF => ?_)
       ·refine nw ?_
        refine AWP.weak (rn []) ?_ (Zu (s.toList == (ByteArray.mk #[101, 108, 115, 101]).toList) _ hF)
        exact (WS.mk (tc Zb) Zc)
       ·refine AWP.seq ?_
        refine ns ?_
        refine nw ?_
        refine Zi hF (fun Zmt hF => ?_) (fun Zmt hF => ?_)
        ·refine nw ?_
         refine AWP.weak (rn []) ?_ (Zu (s.toList == (ByteArray.mk #[104, 105, 100, 105, 110, 103]).toList) _ hF)
         exact (WS.mk (tc Zb) Zc)
        ·refine AWP.seq ?_
         refine ns ?_
         refine nw ?_
         refine Zi hF (fun Zu4 hF => ?_) (fun Zu4 hF => ?_)
         ·refine nw ?_
          refine AWP.weak (rn []) ?_ (Zu (s.toList == (ByteArray.mk #[105, 102]).toList) _ hF)
          exact (WS.mk (tc Zb) Zc)
         ·refine AWP.seq ?_
          refine ns ?_
          refine nw ?_
          refine Zi hF (fun Zm1 hF => ?_) (fun Zm1 hF => ?_)
          ·refine nw ?_
           refine AWP.weak (rn []) ?_ (Zu (s.toList == (ByteArray.mk #[105, 109, 112, 111, 114, 116]).toList) _ hF)
           exact (WS.mk (tc Zb) Zc)
          ·refine AWP.seq ?_
           refine ns ?_
           refine nw ?_
           refine Zi hF (fun ZoO hF => ?_) (fun ZoO hF => ?_)
           ·refine nw ?_
            refine AWP.weak (rn []) ?_ (Zu (s.toList == (ByteArray.mk #[105, 110]).toList) _ hF)
            exact (WS.mk (tc Zb) Zc)
           ·refine AWP.seq ?_
            refine ns ?_
            refine nw ?_
            refine Zi hF (fun ZyW hF => ?_) (fun ZyW hF => ?_)
            ·refine nw ?_
             refine AWP.weak (rn []) ?_ (Zu (s.toList == (ByteArray.mk #[105, 110, 102, 105, 120]).toList) _ hF)
             exact (WS.mk (tc Zb) Zc)
            ·refine AWP.seq ?_
             refine ns ?_
             refine nw ?_
             refine Zi hF (fun ZmW hF => ?_) (fun ZmW hF => ?_)
             ·refine nw ?_
              refine AWP.weak (rn []) ?_ (Zu (s.toList == (ByteArray.mk #[105, 110, 102, 105, 120, 108]).toList) _ hF)
              exact (WS.mk (tc Zb) Zc)
             ·refine AWP.seq ?_
              refine ns ?_
              refine nw ?_
              refine Zi hF (fun Zkf hF => ?_) (fun Zkf hF => ?_)
              ·refine nw ?_
               refine AWP.weak (rn []) ?_ (Zu (s.toList == (ByteArray.mk #[105, 110, 102, 105, 120, 114]).toList) _ hF)
               exact (WS.mk (tc Zb) Zc)
              ·refine AWP.seq ?_
               refine ns ?_
               refine nw ?_
               refine Zi hF (fun ZoN hF => ?_) (fun ZoN hF => ?_)
               ·refine nw ?_
                refine AWP.weak (rn []) ?_ (Zu (s.toList == (ByteArray.mk #[105, 110, 115, 116, 97, 110, 99, 101]).toList) _ hF)
                exact (WS.mk (tc Zb) Zc)
               ·refine AWP.seq ?_
                refine ns ?_
                refine nw ?_
                refine Zi hF (fun ZrV hF => ?_) (fun ZrV hF => ?_)
                ·refine nw ?_
                 refine AWP.weak (rn []) ?_ (Zu (s.toList == (ByteArray.mk #[108, 101, 116]).toList) _ hF)
                 exact (WS.mk (tc Zb) Zc)
                ·refine AWP.seq ?_
                 refine ns ?_
                 refine nw ?_
                 refine Zi hF (fun Zjk hF => ?_) (fun Zjk hF => ?_)
                 ·refine nw ?_
                  refine AWP.weak (rn []) ?_ (Zu (s.toList == (ByteArray.mk #[109, 111, 100, 117, 108, 101]).toList) _ hF)
                  exact (WS.mk (tc Zb) Zc)
                 ·refine AWP.seq ?_
                  refine ns ?_
                  refine nw ?_
                  refine Zi hF (fun Zq3 hF => ?_) (fun Zq3 hF => ?_)
                  ·refine nw ?_
                   refine AWP.weak (rn []) ?_ (Zu (s.toList == (ByteArray.mk #[111, 102]).toList) _ hF)
                   exact (WS.mk (tc Zb) Zc)
                  ·refine AWP.seq ?_
                   refine ns ?_
                   refine nw ?_
                   refine Zi hF (fun ZvT hF => ?_) (fun ZvT hF => ?_)
                   ·refine nw ?_
                    refine AWP.weak (rn []) ?_ (Zu (s.toList == (ByteArray.mk #[113, 117, 97, 108, 105, 102, 105, 101, 100]).toList) _ hF)
                    exact (WS.mk (tc Zb) Zc)
                   ·refine AWP.seq ?_
                    refine ns ?_
                    refine nw ?_
                    refine Zi hF (fun Zp3 hF => ?_) (fun Zp3 hF => ?_)
                    ·refine nw ?_
                     refine AWP.weak (rn []) ?_ (Zu (s.toList == (ByteArray.mk #[116, 104, 101, 110]).toList) _ hF)
                     exact (WS.mk (tc Zb) Zc)
                    ·refine AWP.seq ?_
                     refine ns ?_
                     refine nw ?_
                     refine Zi hF (fun Zv0 hF => ?_) (fun Zv0 hF => ?_)
                     ·refine nw ?_
                      refine AWP.weak (rn []) ?_ (Zu (s.toList == (ByteArray.mk #[119, 104, 101, 114, 101]).toList) _ hF)
                      exact (WS.mk (tc Zb) Zc)
                     ·refine ns ?_
                      refine AWP.weak (rn []) ?_ (Zu (s.toList == (ByteArray.mk #[95]).toList) _ hF)
                      exact (WS.mk (tc Zb) Zc)

def ZdM (c : Int) : Option (Bool) :=
 strings_IndexByte (ByteArray.mk #[33, 35, 36, 37, 38, 42, 43, 46, 47, 60, 61, 62, 63, 64, 92, 94, 124, 45, 126, 58]) c >>= fun r1 =>
 some (decide (r1 ≥ 0))
def ZdM.M (c : Int) (r : Bool) : Prop :=
 Zk Tryz.prog 137 [.c none (.v (.int .u8 c))] [] (fun d b => d = .c none (.v (.bool r)) ∧ b = [])
theorem Zou (c : Int) (r : Bool) (hF : ZdM c = some r) : ZdM.M c r := by
 unfold ZdM at hF
 unfold ZdM.M
 refine en Tryz.func137 ?_
 refine AWP.seq ?_
 refine ns ?_
 refine AWP.seq ?_
 obtain ⟨r1, hr1, hF⟩ := bind_some hF
 refine ns ?_
 refine e3 ?_
 refine st ?_
 refine cm (Zk.weak (rn []) (Zmm (ByteArray.mk #[33, 35, 36, 37, 38, 42, 43, 46, 47, 60, 61, 62, 63, 64, 92, 94, 124, 45, 126, 58]) c _ hr1) rfl (WS.mk (tc (tc Zb)) Zc)) ?_
 refine st ?_
 obtain rfl := Zh hF
 refine ns ?_
 refine Exists.intro [] ?_
 refine st ?_
 exact wx (WS.mk (tc Zb) Zc)

def ZbQ (s : ByteArray) (Zbo : Nat) (i_4 : Nat) : Option (Bool) :=
 if (((i_4 : Nat) : Int) == ((s.size : Nat) : Int)) = true then
 some ((((s.size : Nat) : Int) == 1) || (decide (((Zbo : Nat) : Int) < ((s.size : Nat) : Int))))
 else
 (btI s ((i_4 : Nat) : Int)) >>= fun y69 =>
 ZdM ((y69.toNat : Nat) : Int) >>= fun r70 =>
 if (!r70) = true then
 some false
 else
 (btI s ((i_4 : Nat) : Int)) >>= fun y72 =>
 if (((y72.toNat : Nat) : Int) == 45) = true then
 ZV (Zbo + 1 ≤ 9223372036854775807) >>= fun _ =>
 ZV (i_4 + 1 ≤ 9223372036854775807) >>= fun _ =>
 ZbQ s (Zbo + 1) (i_4 + 1)
 else
 ZV (i_4 + 1 ≤ 9223372036854775807) >>= fun _ =>
 ZbQ s Zbo (i_4 + 1)
 partial_fixpoint
def ZbQ.M (s : ByteArray) (Zbo : Nat) (i_4 : Nat) (r : Bool) : Prop :=
 AWL Tryz.prog 38 (Code.sub (Zr Tryz.f121) [1, 0, 1, 1, 1, 0, 1, 0, 0]) (Code.cont Tryz.prog 38 (Zr Tryz.f121) [1, 0, 1, 1, 1, 0, 1, 0] (ZbV tab Tryz.f121.results (Zb0 (.c none (.v (.bool r))) []))) ⟨[(0, .c none (.v (.string s))), (3, .c none (.v (.int .i64 ((Zbo : Nat) : Int)))), (4, .c none (.v (.int .i64 ((i_4 : Nat) : Int))))], []⟩
theorem Znw (s : ByteArray) (Zbo : Nat) (i_4 : Nat) : ∀ r, ZbQ s Zbo i_4 = some r → ZbQ.M s Zbo i_4 r := by
 refine ZbQ.partial_correctness s (fun Zbo i_4 r => ZbQ.M s Zbo i_4 r) ?_ Zbo i_4
 intro names_symbol_l1' Zio Zbo i_4 r hF
 have Zi6 := fun (_s : ByteArray) (Zbo : Nat) (i_4 : Nat) => Zio Zbo i_4
 clear Zio
 unfold ZbQ.M
 refine AWL.step ?_
 refine AWP.seq ?_
 refine AWP.block ?_
 refine AWP.seq ?_
 refine AWP.seq ?_
 refine ns ?_
 refine nw ?_
 refine Zi hF (fun ZqS hF => ?_) (fun ZqS hF => ?_)
 ·refine nw ?_
  refine AWP.seq ?_
  refine AWP.cutN (fun T => ∃ r, WS r T ⟨[(2, .c none (.v (.bool ((((s.size : Nat) : Int) == 1) || (decide (((Zbo : Nat) : Int) < ((s.size : Nat) : Int)))))))], []⟩) ?_ (fun T hw => ?_)
  ·refine ns ?_
   refine Zl false (fun Zy4 => ?_) (fun Zy4 => ?_)
   ·(conv => whnf)
    refine st ?_
    exact wx (WS.mk (Zd (Zq (web Zy4)) Zb) Zc)
   ·(conv => whnf)
    refine st ?_
    exact wx (WS.mk (Zd (Zq (web Zy4)) Zb) Zc)
  obtain ⟨r0, hw⟩ := hw
  (conv => whnf)
  refine AWP.weak r0 hw ?_
  obtain rfl := Zh hF
  refine ns ?_
  refine Exists.intro [] ?_
  refine st ?_
  exact wx (WS.mk (tc Zb) Zc)
 ·refine nw ?_
  refine AWP.seq ?_
  refine AWP.seq ?_
  obtain ⟨y69, hy690, ZG8, hF⟩ := ZcL hF
  obtain ⟨r70, ZDp, hF⟩ := bind_some hF
  refine nn ?_
  refine sr ZG8 ?_
  refine st ?_
  refine e3 ?_
  refine st ?_
  refine cm (Zk.weak (rn []) (Zou ((y69.toNat : Nat) : Int) _ ZDp) rfl (WS.mk (tc Zb) Zc)) ?_
  refine st ?_
  refine nw ?_
  refine Zi hF (fun ZBM hF => ?_) (fun ZBM hF => ?_)
  ·refine AWP.seq ?_
   refine ns ?_
   obtain rfl := Zh hF
   refine ns ?_
   refine Exists.intro [] ?_
   refine st ?_
   exact wx (WS.mk (tc Zb) Zc)
  ·refine nw ?_
   refine AWP.seq ?_
   obtain ⟨y72, hy720, ZGZ, hF⟩ := ZcL hF
   refine nn ?_
   refine sr ZGZ ?_
   refine st ?_
   refine nw ?_
   refine Zi hF (fun ZFD hF => ?_) (fun ZFD hF => ?_)
   ·obtain ⟨ZDa, hF⟩ := Zv hF
    refine ns ?_
    obtain ⟨ZCn, hF⟩ := Zv hF
    refine ns ?_
    refine AWL.weak (rn []) ?_ (Zi6 s (Zbo + 1) (i_4 + 1) _ hF)
    exact (WS.mk (tc (Zd (Zq (Zc0 (ZcZ ZDa))) (Zd (Zq (Zc0 (ZcZ ZCn))) Zb))) Zc)
   ·refine nw ?_
    obtain ⟨ZF8, hF⟩ := Zv hF
    refine ns ?_
    refine AWL.weak (rn []) ?_ (Zi6 s Zbo (i_4 + 1) _ hF)
    exact (WS.mk (tc (tc (Zd (Zq (Zc0 (ZcZ ZF8))) Zb))) Zc)

def ZdF (s : ByteArray) : Option (Bool) :=
 if ((s.toList == (ByteArray.mk #[]).toList) || (decide (((s.size : Nat) : Int) > 64))) = true then
 some false
 else
 ZbQ s 0 0
def ZdF.M (s : ByteArray) (r : Bool) : Prop :=
 Zk Tryz.prog 121 [.c none (.v (.string s))] [] (fun d b => d = .c none (.v (.bool r)) ∧ b = [])
theorem Zgx (s : ByteArray) (r : Bool) (hF : ZdF s = some r) : ZdF.M s r := by
 unfold ZdF at hF
 unfold ZdF.M
 refine en Tryz.func121 ?_
 refine AWP.seq ?_
 refine ns ?_
 refine AWP.scope ?_
 refine AWP.seq ?_
 refine AWP.seq ?_
 refine AWP.cutN (fun T => ∃ r, WS r T ⟨[(0, .c none (.v (.string s))), (11, .c none (.v (.bool ((s.toList == (ByteArray.mk #[]).toList) || (decide (((s.size : Nat) : Int) > 64))))))], []⟩) ?_ (fun T hw => ?_)
 ·refine ns ?_
  refine Zl false (fun hc2 => ?_) (fun hc2 => ?_)
  ·(conv => whnf)
   refine st ?_
   exact wx (WS.mk (tc (Zd (Zq (web hc2)) Zb)) Zc)
  ·(conv => whnf)
   refine st ?_
   exact wx (WS.mk (tc (Zd (Zq (web hc2)) Zb)) Zc)
 obtain ⟨r0, hw⟩ := hw
 (conv => whnf)
 refine AWP.weak r0 hw ?_
 refine nw ?_
 refine Zi hF (fun hc3 hF => ?_) (fun hc3 hF => ?_)
 ·refine AWP.seq ?_
  refine ns ?_
  obtain rfl := Zh hF
  refine ns ?_
  refine Exists.intro [] ?_
  refine st ?_
  exact wx (WS.mk (tc Zb) Zc)
 ·refine nw ?_
  refine AWP.seq ?_
  refine ns ?_
  refine AWP.seq ?_
  refine nw ?_
  refine AWP.seq ?_
  refine AWP.seq ?_
  refine ns ?_
  refine AWP.block ?_
  refine AWP.loop ?_
  refine AWL.weak (rn []) ?_ (Znw s 0 0 _ hF)
  exact (WS.mk (tc (tc (tc Zb))) Zc)

def Zd7 (c : Int) : Option (Bool) :=
 some ((decide (c ≥ 65)) && (decide (c ≤ 90)))
def Zd7.M (c : Int) (r : Bool) : Prop :=
 Zk Tryz.prog 120 [.c none (.v (.int .u8 c))] [] (fun d b => d = .c none (.v (.bool r)) ∧ b = [])
theorem ZiX (c : Int) (r : Bool) (hF : Zd7 c = some r) : Zd7.M c r := by
 unfold Zd7 at hF
 unfold Zd7.M
 refine en Tryz.func120 ?_
 refine AWP.seq ?_
 refine ns ?_
 refine AWP.seq ?_
 refine AWP.cutN (fun T => ∃ r, WS r T ⟨[(2, .c none (.v (.bool ((decide (c ≥ 65)) && (decide (c ≤ 90))))))], []⟩) ?_ (fun T hw => ?_)
 ·refine ns ?_
  refine Zl true (fun hc1 => ?_) (fun hc1 => ?_)
  ·(conv => whnf)
   refine st ?_
   exact wx (WS.mk (Zd (Zq (web hc1)) Zb) Zc)
  ·(conv => whnf)
   refine st ?_
   exact wx (WS.mk (Zd (Zq (web hc1)) Zb) Zc)
 obtain ⟨r0, hw⟩ := hw
 (conv => whnf)
 refine AWP.weak r0 hw ?_
 obtain rfl := Zh hF
 refine ns ?_
 refine Exists.intro [] ?_
 refine st ?_
 exact wx (WS.mk (tc Zb) Zc)

def Zd1 (c : Int) : Option (Bool) :=
 Zd7 c >>= fun r1 =>
 some (r1 || ((decide (c ≥ 97)) && (decide (c ≤ 122))))
def Zd1.M (c : Int) (r : Bool) : Prop :=
 Zk Tryz.prog 135 [.c none (.v (.int .u8 c))] [] (fun d b => d = .c none (.v (.bool r)) ∧ b = [])
theorem Zlv (c : Int) (r : Bool) (hF : Zd1 c = some r) : Zd1.M c r := by
 unfold Zd1 at hF
 unfold Zd1.M
 refine en Tryz.func135 ?_
 refine AWP.seq ?_
 refine ns ?_
 refine AWP.seq ?_
 obtain ⟨r1, hr1, hF⟩ := bind_some hF
 refine AWP.cutN (fun T => ∃ r, WS r T ⟨[(2, .c none (.v (.bool (r1 || ((decide (c ≥ 97)) && (decide (c ≤ 122)))))))], []⟩) ?_ (fun T hw => ?_)
 ·refine ns ?_
  refine e3 ?_
  refine st ?_
  refine cm (Zk.weak (rn []) (ZiX c _ hr1) rfl (WS.mk (tc Zb) Zc)) ?_
  refine st ?_
  refine Zl false (fun hc2 => ?_) (fun hc2 => ?_)
  ·(conv => whnf)
   refine st ?_
   exact wx (WS.mk (Zd (Zq (web hc2)) Zb) Zc)
  ·(conv => whnf)
   refine st ?_
   refine Zl true (fun hc3 => ?_) (fun hc3 => ?_)
   ·(conv => whnf)
    refine st ?_
    exact wx (WS.mk (Zd (Zq (web (And.intro hc2 hc3))) Zb) Zc)
   ·(conv => whnf)
    refine st ?_
    exact wx (WS.mk (Zd (Zq (web (And.intro hc2 hc3))) Zb) Zc)
 obtain ⟨r0, hw⟩ := hw
 (conv => whnf)
 refine AWP.weak r0 hw ?_
 obtain rfl := Zh hF
 refine ns ?_
 refine Exists.intro [] ?_
 refine st ?_
 exact wx (WS.mk (tc Zb) Zc)

def Ze2 (c : Int) : Option (Bool) :=
 some ((decide (c ≥ 48)) && (decide (c ≤ 57)))
def Ze2.M (c : Int) (r : Bool) : Prop :=
 Zk Tryz.prog 136 [.c none (.v (.int .u8 c))] [] (fun d b => d = .c none (.v (.bool r)) ∧ b = [])
theorem Zqx (c : Int) (r : Bool) (hF : Ze2 c = some r) : Ze2.M c r := by
 unfold Ze2 at hF
 unfold Ze2.M
 refine en Tryz.func136 ?_
 refine AWP.seq ?_
 refine ns ?_
 refine AWP.seq ?_
 refine AWP.cutN (fun T => ∃ r, WS r T ⟨[(2, .c none (.v (.bool ((decide (c ≥ 48)) && (decide (c ≤ 57))))))], []⟩) ?_ (fun T hw => ?_)
 ·refine ns ?_
  refine Zl true (fun hc1 => ?_) (fun hc1 => ?_)
  ·(conv => whnf)
   refine st ?_
   exact wx (WS.mk (Zd (Zq (web hc1)) Zb) Zc)
  ·(conv => whnf)
   refine st ?_
   exact wx (WS.mk (Zd (Zq (web hc1)) Zb) Zc)
 obtain ⟨r0, hw⟩ := hw
 (conv => whnf)
 refine AWP.weak r0 hw ?_
 obtain rfl := Zh hF
 refine ns ?_
 refine Exists.intro [] ?_
 refine st ?_
 exact wx (WS.mk (tc Zb) Zc)

def Zc4 (s : ByteArray) (i_3 : Nat) : Option (Bool) :=
 if (decide (((i_3 : Nat) : Int) < ((s.size : Nat) : Int))) = true then
 (btI s ((i_3 : Nat) : Int)) >>= fun y33 =>
 Zd1 ((y33.toNat : Nat) : Int) >>= fun r34 =>
 (if (!r34) = true then Ze2 ((y33.toNat : Nat) : Int) >>= fun r35 =>
 some (!r35) else some false) >>= fun c36 =>
 if ((c36 && (((y33.toNat : Nat) : Int) != 95)) && (((y33.toNat : Nat) : Int) != 39)) = true then
 some false
 else
 ZV (i_3 + 1 ≤ 9223372036854775807) >>= fun _ =>
 Zc4 s (i_3 + 1)
 else
 some true
 partial_fixpoint
def Zc4.M (s : ByteArray) (i_3 : Nat) (r : Bool) : Prop :=
 AWL Tryz.prog 48 (Code.sub (Zr Tryz.f119) [1, 1, 0, 1, 0, 0]) (Code.cont Tryz.prog 48 (Zr Tryz.f119) [1, 1, 0, 1, 0] (ZbV tab Tryz.f119.results (Zb0 (.c none (.v (.bool r))) []))) ⟨[(0, .c none (.v (.string s))), (3, .c none (.v (.int .i64 ((i_3 : Nat) : Int))))], []⟩
theorem Zo3 (s : ByteArray) (i_3 : Nat) : ∀ r, Zc4 s i_3 = some r → Zc4.M s i_3 r := by
 refine Zc4.partial_correctness s (fun i_3 r => Zc4.M s i_3 r) ?_ i_3
 intro names_word_l1' ZjA i_3 r hF
 have Zpk := fun (_s : ByteArray) (i_3 : Nat) => ZjA i_3
 clear ZjA
 unfold Zc4.M
 refine AWL.step ?_
 refine AWP.seq ?_
 refine AWP.seq ?_
 refine ns ?_
 refine nw ?_
 refine Zi hF (fun Zm1 hF => ?_) (fun Zm1 hF => ?_)
 ·refine nw ?_
  refine AWP.seq ?_
  refine AWP.block ?_
  refine AWP.seq ?_
  obtain ⟨y33, hy330, ZG4, hF⟩ := ZcL hF
  refine nn ?_
  refine sr ZG4 ?_
  refine st ?_
  refine AWP.seq ?_
  obtain ⟨r34, ZCj, hF⟩ := bind_some hF
  obtain ⟨c36, Zkf, hF⟩ := bind_some hF
  refine AWP.cutN (fun T => ∃ r, WS r T ⟨[(0, .c none (.v (.string s))), (3, .c none (.v (.int .i64 ((i_3 : Nat) : Int)))), (47, .c none (.v (.bool ((c36 && (((y33.toNat : Nat) : Int) != 95)) && (((y33.toNat : Nat) : Int) != 39)))))], []⟩) ?_ (fun T hw => ?_)
  ·refine ns ?_
   refine e3 ?_
   refine st ?_
   refine cm (Zk.weak (rn []) (Zlv ((y33.toNat : Nat) : Int) _ ZCj) rfl (WS.mk (tc Zb) Zc)) ?_
   refine st ?_
   refine Zl true (fun ZoN => ?_) (fun ZoN => ?_)
   ·have Zkf := ift ZoN Zkf
    obtain ⟨r35, ZBQ, Zkf⟩ := bind_some Zkf
    (conv => whnf)
    refine st ?_
    refine e3 ?_
    refine st ?_
    refine cm (Zk.weak (rn []) (Zqx ((y33.toNat : Nat) : Int) _ ZBQ) rfl (WS.mk (tc Zb) Zc)) ?_
    refine st ?_
    obtain rfl := Zh Zkf
    refine st ?_
    refine Zl true (fun ZrV => ?_) (fun ZrV => ?_)
    ·(conv => whnf)
     refine st ?_
     refine Zl true (fun Zjk => ?_) (fun Zjk => ?_)
     ·(conv => whnf)
      refine st ?_
      exact wx (WS.mk (tc (tc (Zd (Zq (web (And.intro ZoN (And.intro ZrV Zjk)))) Zb))) Zc)
     ·(conv => whnf)
      refine st ?_
      exact wx (WS.mk (tc (tc (Zd (Zq (web (And.intro ZoN (And.intro ZrV Zjk)))) Zb))) Zc)
    ·(conv => whnf)
     refine st ?_
     exact wx (WS.mk (tc (tc (Zd (Zq (web (And.intro ZoN ZrV))) Zb))) Zc)
   ·have Zkf := ife ZoN Zkf
    (conv => whnf)
    obtain rfl := Zh Zkf
    refine st ?_
    exact wx (WS.mk (tc (tc (Zd (Zq (web ZoN)) Zb))) Zc)
  obtain ⟨r0, hw⟩ := hw
  (conv => whnf)
  refine AWP.weak r0 hw ?_
  refine nw ?_
  refine Zi hF (fun Zq3 hF => ?_) (fun Zq3 hF => ?_)
  ·refine AWP.seq ?_
   refine ns ?_
   obtain rfl := Zh hF
   refine ns ?_
   refine Exists.intro [] ?_
   refine st ?_
   exact wx (WS.mk (tc Zb) Zc)
  ·refine nw ?_
   obtain ⟨ZGl, hF⟩ := Zv hF
   refine ns ?_
   refine AWL.weak (rn []) ?_ (Zpk s (i_3 + 1) _ hF)
   exact (WS.mk (tc (Zd (Zq (Zc0 (ZcZ ZGl))) Zb)) Zc)
 ·refine nw ?_
  refine AWP.seq ?_
  refine ns ?_
  obtain rfl := Zh hF
  refine ns ?_
  refine Exists.intro [] ?_
  refine st ?_
  exact wx (WS.mk (tc Zb) Zc)

def Zem (s : ByteArray) : Option (Bool) :=
 (if ((s.toList == (ByteArray.mk #[]).toList) || (decide (((s.size : Nat) : Int) > 64))) = true then some true else (btI s 0) >>= fun y7 =>
 Zd1 ((y7.toNat : Nat) : Int) >>= fun r8 =>
 (if (!r8) = true then (btI s 0) >>= fun y9 =>
 some (((y9.toNat : Nat) : Int) != 95) else some false) >>= fun c10 =>
 some c10) >>= fun c11 =>
 if c11 = true then
 some false
 else
 Zc4 s 0
def Zem.M (s : ByteArray) (r : Bool) : Prop :=
 Zk Tryz.prog 119 [.c none (.v (.string s))] [] (fun d b => d = .c none (.v (.bool r)) ∧ b = [])
theorem ZhZ (s : ByteArray) (r : Bool) (hF : Zem s = some r) : Zem.M s r := by
 unfold Zem at hF
 unfold Zem.M
 refine en Tryz.func119 ?_
 refine AWP.seq ?_
 refine ns ?_
 refine AWP.seq ?_
 refine AWP.seq ?_
 obtain ⟨c11, Zct, hF⟩ := bind_some hF
 refine AWP.cutN (fun T => ∃ r, WS r T ⟨[(0, .c none (.v (.string s))), (22, .c none (.v (.bool c11)))], []⟩) ?_ (fun T hw => ?_)
 ·refine ns ?_
  refine Zl false (fun Zeo => ?_) (fun Zeo => ?_)
  ·(conv => whnf)
   have Zct := ift Zeo Zct
   obtain rfl := Zh Zct
   refine st ?_
   exact wx (WS.mk (tc (Zd (Zq (web Zeo)) Zb)) Zc)
  ·(conv => whnf)
   refine st ?_
   refine Zl false (fun ZcB => ?_) (fun ZcB => ?_)
   ·have Zct := ift (And.intro Zeo ZcB) Zct
    (conv => whnf)
    obtain rfl := Zh Zct
    refine st ?_
    exact wx (WS.mk (tc (Zd (Zq (web (And.intro Zeo ZcB))) Zb)) Zc)
   ·have Zct := ife (And.intro Zeo ZcB) Zct
    obtain ⟨y7, hy70, hy7, Zct⟩ := ZcL Zct
    obtain ⟨r8, hr8, Zct⟩ := bind_some Zct
    obtain ⟨c10, ZeW, Zct⟩ := bind_some Zct
    (conv => whnf)
    refine sr hy7 ?_
    refine st ?_
    refine e3 ?_
    refine st ?_
    refine cm (Zk.weak (rn []) (Zlv ((y7.toNat : Nat) : Int) _ hr8) rfl (WS.mk (tc Zb) Zc)) ?_
    refine st ?_
    refine Zl true (fun Zc8 => ?_) (fun Zc8 => ?_)
    ·have ZeW := ift (And.intro Zeo (And.intro ZcB Zc8)) ZeW
     obtain ⟨y9, ZF4, hy9, ZeW⟩ := ZcL ZeW
     (conv => whnf)
     refine sr hy9 ?_
     obtain rfl := Zh ZeW
     obtain rfl := Zh Zct
     refine st ?_
     exact wx (WS.mk (tc (Zd (Zq (web (And.intro Zeo (And.intro ZcB Zc8)))) Zb)) Zc)
    ·have ZeW := ife (And.intro Zeo (And.intro ZcB Zc8)) ZeW
     (conv => whnf)
     obtain rfl := Zh ZeW
     obtain rfl := Zh Zct
     refine st ?_
     exact wx (WS.mk (tc (Zd (Zq (web (And.intro Zeo (And.intro ZcB Zc8)))) Zb)) Zc)
 obtain ⟨r0, hw⟩ := hw
 (conv => whnf)
 refine AWP.weak r0 hw ?_
 refine nw ?_
 refine Zi hF (fun Zff hF => ?_) (fun Zff hF => ?_)
 ·refine AWP.seq ?_
  refine ns ?_
  obtain rfl := Zh hF
  refine ns ?_
  refine Exists.intro [] ?_
  refine st ?_
  exact wx (WS.mk (tc Zb) Zc)
 ·refine nw ?_
  refine AWP.seq ?_
  refine AWP.seq ?_
  refine ns ?_
  refine AWP.block ?_
  refine AWP.loop ?_
  refine AWL.weak (rn []) ?_ (Zo3 s 0 _ hF)
  exact (WS.mk (tc (tc Zb)) Zc)

def Zd2 (s : ByteArray) : Option (Bool) :=
 Zem s >>= fun r1 =>
 (if r1 = true then Zcd s >>= fun r2 =>
 some (!r2) else some false) >>= fun c3 =>
 (if c3 = true then some true else ZdF s >>= fun r4 =>
 (if r4 = true then Zbz s >>= fun r5 =>
 some (!r5) else some false) >>= fun c6 =>
 some c6) >>= fun c7 =>
 some c7
def Zd2.M (s : ByteArray) (r : Bool) : Prop :=
 Zk Tryz.prog 148 [.c none (.v (.string s))] [] (fun d b => d = .c none (.v (.bool r)) ∧ b = [])
theorem Zlu (s : ByteArray) (r : Bool) (hF : Zd2 s = some r) : Zd2.M s r := by
 unfold Zd2 at hF
 unfold Zd2.M
 refine en Tryz.func148 ?_
 refine AWP.seq ?_
 refine ns ?_
 refine AWP.seq ?_
 obtain ⟨r1, hr1, hF⟩ := bind_some hF
 obtain ⟨c3, hc3, hF⟩ := bind_some hF
 obtain ⟨c7, hc7, hF⟩ := bind_some hF
 refine AWP.cutN (fun T => ∃ r, WS r T ⟨[(2, .c none (.v (.bool c7)))], []⟩) ?_ (fun T hw => ?_)
 ·refine ns ?_
  refine e3 ?_
  refine st ?_
  refine cm (Zk.weak (rn []) (ZhZ s _ hr1) rfl (WS.mk (tc Zb) Zc)) ?_
  refine st ?_
  refine Zl true (fun hc8 => ?_) (fun hc8 => ?_)
  ·have hc3 := ift hc8 hc3
   obtain ⟨r2, hr2, hc3⟩ := bind_some hc3
   (conv => whnf)
   refine st ?_
   refine e3 ?_
   refine st ?_
   refine cm (Zk.weak (rn []) (Zhz s _ hr2) rfl (WS.mk (tc Zb) Zc)) ?_
   refine st ?_
   obtain rfl := Zh hc3
   refine st ?_
   refine Zl false (fun hc9 => ?_) (fun hc9 => ?_)
   ·have hc7 := ift (And.intro hc8 hc9) hc7
    (conv => whnf)
    obtain rfl := Zh hc7
    refine st ?_
    exact wx (WS.mk (Zd (Zq (web (And.intro hc8 hc9))) Zb) Zc)
   ·have hc7 := ife (And.intro hc8 hc9) hc7
    obtain ⟨r4, hr4, hc7⟩ := bind_some hc7
    obtain ⟨c6, hc6, hc7⟩ := bind_some hc7
    (conv => whnf)
    refine st ?_
    refine e3 ?_
    refine st ?_
    refine cm (Zk.weak (rn []) (Zgx s _ hr4) rfl (WS.mk (tc Zb) Zc)) ?_
    refine st ?_
    refine Zl true (fun ZeW => ?_) (fun ZeW => ?_)
    ·have hc6 := ift (And.intro hc8 (And.intro hc9 ZeW)) hc6
     obtain ⟨r5, hr5, hc6⟩ := bind_some hc6
     (conv => whnf)
     refine st ?_
     refine e3 ?_
     refine st ?_
     refine cm (Zk.weak (rn []) (ZeV s _ hr5) rfl (WS.mk (tc Zb) Zc)) ?_
     refine st ?_
     obtain rfl := Zh hc6
     obtain rfl := Zh hc7
     refine st ?_
     exact wx (WS.mk (Zd (Zq (web (And.intro hc8 (And.intro hc9 ZeW)))) Zb) Zc)
    ·have hc6 := ife (And.intro hc8 (And.intro hc9 ZeW)) hc6
     (conv => whnf)
     obtain rfl := Zh hc6
     obtain rfl := Zh hc7
     refine st ?_
     exact wx (WS.mk (Zd (Zq (web (And.intro hc8 (And.intro hc9 ZeW)))) Zb) Zc)
  ·have hc3 := ife hc8 hc3
   (conv => whnf)
   obtain rfl := Zh hc3
   have hc7 := ife hc8 hc7
   obtain ⟨r4, hr4, hc7⟩ := bind_some hc7
   obtain ⟨c6, hc6, hc7⟩ := bind_some hc7
   refine st ?_
   refine e3 ?_
   refine st ?_
   refine cm (Zk.weak (rn []) (Zgx s _ hr4) rfl (WS.mk (tc Zb) Zc)) ?_
   refine st ?_
   refine Zl true (fun Zct => ?_) (fun Zct => ?_)
   ·have hc6 := ift (And.intro hc8 Zct) hc6
    obtain ⟨r5, hr5, hc6⟩ := bind_some hc6
    (conv => whnf)
    refine st ?_
    refine e3 ?_
    refine st ?_
    refine cm (Zk.weak (rn []) (ZeV s _ hr5) rfl (WS.mk (tc Zb) Zc)) ?_
    refine st ?_
    obtain rfl := Zh hc6
    obtain rfl := Zh hc7
    refine st ?_
    exact wx (WS.mk (Zd (Zq (web (And.intro hc8 Zct))) Zb) Zc)
   ·have hc6 := ife (And.intro hc8 Zct) hc6
    (conv => whnf)
    obtain rfl := Zh hc6
    obtain rfl := Zh hc7
    refine st ?_
    exact wx (WS.mk (Zd (Zq (web (And.intro hc8 Zct))) Zb) Zc)
 obtain ⟨r0, hw⟩ := hw
 (conv => whnf)
 refine AWP.weak r0 hw ?_
 obtain rfl := Zh hF
 refine ns ?_
 refine Exists.intro [] ?_
 refine st ?_
 exact wx (WS.mk (tc Zb) Zc)

def ZfC (module : ByteArray) (name_ : ByteArray) : Option (ByteArray) :=
 Zem module >>= fun r8 =>
 (if (!r8) = true then some true else (btI module 0) >>= fun y9 =>
 Zd7 ((y9.toNat : Nat) : Int) >>= fun r10 =>
 some (!r10)) >>= fun c11 =>
 (if c11 = true then some true else Zd2 name_ >>= fun r12 =>
 some (!r12)) >>= fun c13 =>
 if c13 = true then
 some (ByteArray.mk #[])
 else
 ZV (((module.size + (ByteArray.mk #[46]).size : Nat) : Int) ≤ IntKind.i64.max) >>= fun _ =>
 ZV ((((module ++ (ByteArray.mk #[46])).size + name_.size : Nat) : Int) ≤ IntKind.i64.max) >>= fun _ =>
 some ((module ++ (ByteArray.mk #[46])) ++ name_)
def ZfC.M (module : ByteArray) (name_ : ByteArray) (r : ByteArray) : Prop :=
 Zk Tryz.prog 141 [.c none (.v (.string module)), .c none (.v (.string name_))] [] (fun d b => d = .c none (.v (.string r)) ∧ b = [])
theorem Zr0 (module : ByteArray) (name_ : ByteArray) (r : ByteArray) (hF : ZfC module name_ = some r) : ZfC.M module name_ r := by
 unfold ZfC at hF
 unfold ZfC.M
 refine en Tryz.func141 ?_
 refine AWP.seq ?_
 refine ns ?_
 refine AWP.seq ?_
 refine AWP.seq ?_
 obtain ⟨r8, hr8, hF⟩ := bind_some hF
 obtain ⟨c11, Zct, hF⟩ := bind_some hF
 obtain ⟨c13, ZcB, hF⟩ := bind_some hF
 refine AWP.cutN (fun T => ∃ r, WS r T ⟨[(0, .c none (.v (.string module))), (1, .c none (.v (.string name_))), (18, .c none (.v (.bool c13)))], []⟩) ?_ (fun T hw => ?_)
 ·refine ns ?_
  refine e3 ?_
  refine st ?_
  refine cm (Zk.weak (rn []) (ZhZ module _ hr8) rfl (WS.mk (tc Zb) Zc)) ?_
  refine st ?_
  refine Zl false (fun Zc8 => ?_) (fun Zc8 => ?_)
  ·have Zct := ift Zc8 Zct
   (conv => whnf)
   obtain rfl := Zh Zct
   have ZcB := ift Zc8 ZcB
   obtain rfl := Zh ZcB
   refine st ?_
   exact wx (WS.mk (tc (tc (Zd (Zq (web Zc8)) Zb))) Zc)
  ·have Zct := ife Zc8 Zct
   obtain ⟨y9, ZF4, hy9, Zct⟩ := ZcL Zct
   obtain ⟨r10, Zqu, Zct⟩ := bind_some Zct
   (conv => whnf)
   refine sr hy9 ?_
   refine st ?_
   refine e3 ?_
   refine st ?_
   refine cm (Zk.weak (rn []) (ZiX ((y9.toNat : Nat) : Int) _ Zqu) rfl (WS.mk (tc Zb) Zc)) ?_
   refine st ?_
   obtain rfl := Zh Zct
   refine st ?_
   refine Zl false (fun Zff => ?_) (fun Zff => ?_)
   ·have ZcB := ift (And.intro Zc8 Zff) ZcB
    (conv => whnf)
    obtain rfl := Zh ZcB
    refine st ?_
    exact wx (WS.mk (tc (tc (Zd (Zq (web (And.intro Zc8 Zff))) Zb))) Zc)
   ·have ZcB := ife (And.intro Zc8 Zff) ZcB
    obtain ⟨r12, ZuY, ZcB⟩ := bind_some ZcB
    (conv => whnf)
    refine st ?_
    refine e3 ?_
    refine st ?_
    refine cm (Zk.weak (rn []) (Zlu name_ _ ZuY) rfl (WS.mk (tc Zb) Zc)) ?_
    refine st ?_
    obtain rfl := Zh ZcB
    refine st ?_
    exact wx (WS.mk (tc (tc (Zd (Zq (web (And.intro Zc8 Zff))) Zb))) Zc)
 obtain ⟨r0, hw⟩ := hw
 (conv => whnf)
 refine AWP.weak r0 hw ?_
 refine nw ?_
 refine Zi hF (fun ZeJ hF => ?_) (fun ZeJ hF => ?_)
 ·refine AWP.seq ?_
  refine ns ?_
  obtain rfl := Zh hF
  refine ns ?_
  refine Exists.intro [] ?_
  refine st ?_
  exact wx (WS.mk (tc Zb) Zc)
 ·refine nw ?_
  refine AWP.seq ?_
  obtain ⟨ZHI, hF⟩ := Zv hF
  obtain ⟨ZFr, hF⟩ := Zv hF
  refine ns ?_
  refine And.intro ZHI ?_
  refine st ?_
  refine And.intro ZFr ?_
  refine st ?_
  obtain rfl := Zh hF
  refine ns ?_
  refine Exists.intro [] ?_
  refine st ?_
  exact wx (WS.mk (tc Zb) Zc)

def Zey (s : ByteArray) : Option (ByteArray × ByteArray × Bool) :=
 strings_Cut s (ByteArray.mk #[46]) >>= fun r1 =>
 (if (!r1.2.2) = true then some true else ZfC r1.1 r1.2.1 >>= fun r5 =>
 some (r5.toList == (ByteArray.mk #[]).toList)) >>= fun c6 =>
 if c6 = true then
 some ((ByteArray.mk #[]), (ByteArray.mk #[]), false)
 else
 some (r1.1, r1.2.1, true)
def Zey.M (s : ByteArray) (r : ByteArray × ByteArray × Bool) : Prop :=
 Zk Tryz.prog 127 [.c none (.v (.string s))] [] (fun d b => d = .tup [.c (.v (.string r.1)), .c (.v (.string r.2.1)), .c (.v (.bool r.2.2))] ∧ b = [])
theorem Zmc (s : ByteArray) (r : ByteArray × ByteArray × Bool) (hF : Zey s = some r) : Zey.M s r := by
 unfold Zey at hF
 unfold Zey.M
 refine en Tryz.func127 ?_
 refine AWP.seq ?_
 refine ns ?_
 refine AWP.seq ?_
 obtain ⟨r1, hr1, hF⟩ := bind_some hF
 refine ns ?_
 refine e3 ?_
 refine st ?_
 refine cm (Zk.weak (rn []) (Zq8 s (ByteArray.mk #[46]) _ hr1) rfl (WS.mk (tc (tc Zb)) Zc)) ?_
 refine st ?_
 refine AWP.seq ?_
 refine AWP.seq ?_
 obtain ⟨c6, hc6, hF⟩ := bind_some hF
 refine AWP.cutN (fun T => ∃ r, WS r T ⟨[(5, .c none (.v (.string r1.1))), (6, .c none (.v (.string r1.2.1))), (21, .c none (.v (.bool c6)))], []⟩) ?_ (fun T hw => ?_)
 ·refine ns ?_
  refine Zl false (fun hc7 => ?_) (fun hc7 => ?_)
  ·have hc6 := ift hc7 hc6
   (conv => whnf)
   obtain rfl := Zh hc6
   refine st ?_
   exact wx (WS.mk (tc (tc (Zd (Zq (web hc7)) Zb))) Zc)
  ·have hc6 := ife hc7 hc6
   obtain ⟨r5, hr5, hc6⟩ := bind_some hc6
   (conv => whnf)
   refine st ?_
   refine e3 ?_
   refine st ?_
   refine cm (Zk.weak (rn []) (Zr0 r1.1 r1.2.1 _ hr5) rfl (WS.mk (tc (tc Zb)) Zc)) ?_
   refine st ?_
   obtain rfl := Zh hc6
   refine st ?_
   exact wx (WS.mk (tc (tc (Zd (Zq (web hc7)) Zb))) Zc)
 obtain ⟨r0, hw⟩ := hw
 (conv => whnf)
 refine AWP.weak r0 hw ?_
 refine nw ?_
 refine Zi hF (fun hc8 hF => ?_) (fun hc8 hF => ?_)
 ·refine AWP.seq ?_
  refine ns ?_
  obtain rfl := Zh hF
  refine ns ?_
  refine Exists.intro [] ?_
  refine st ?_
  exact wx (WS.mk (Zd (Zca (ZbI (WE.refl _) (ZbI (WE.refl _) (ZbI (WE.refl _) Zb8)))) Zb) Zc)
 ·refine nw ?_
  refine AWP.seq ?_
  refine ns ?_
  obtain rfl := Zh hF
  refine ns ?_
  refine Exists.intro [] ?_
  refine st ?_
  exact wx (WS.mk (Zd (Zca (ZbI (WE.refl _) (ZbI (WE.refl _) (ZbI (WE.refl _) Zb8)))) Zb) Zc)

def Zez (s : ByteArray) : Option (Bool) :=
 Zey s >>= fun r1 =>
 (if r1.2.2 = true then some true else Zd2 s >>= fun r2 =>
 some r2) >>= fun c3 =>
 some c3
def Zez.M (s : ByteArray) (r : Bool) : Prop :=
 Zk Tryz.prog 134 [.c none (.v (.string s))] [] (fun d b => d = .c none (.v (.bool r)) ∧ b = [])
theorem ZpN (s : ByteArray) (r : Bool) (hF : Zez s = some r) : Zez.M s r := by
 unfold Zez at hF
 unfold Zez.M
 refine en Tryz.func134 ?_
 refine AWP.seq ?_
 refine ns ?_
 refine AWP.seq ?_
 obtain ⟨r1, hr1, hF⟩ := bind_some hF
 refine ns ?_
 refine e3 ?_
 refine st ?_
 refine cm (Zk.weak (rn []) (Zmc s _ hr1) rfl (WS.mk (tc Zb) Zc)) ?_
 refine st ?_
 refine AWP.seq ?_
 obtain ⟨c3, hc3, hF⟩ := bind_some hF
 refine AWP.cutN (fun T => ∃ r, WS r T ⟨[(2, .c none (.v (.bool c3)))], []⟩) ?_ (fun T hw => ?_)
 ·refine ns ?_
  refine Zl false (fun hc4 => ?_) (fun hc4 => ?_)
  ·have hc3 := ift hc4 hc3
   (conv => whnf)
   obtain rfl := Zh hc3
   refine st ?_
   exact wx (WS.mk (Zd (Zq (web hc4)) Zb) Zc)
  ·have hc3 := ife hc4 hc3
   obtain ⟨r2, hr2, hc3⟩ := bind_some hc3
   (conv => whnf)
   refine st ?_
   refine e3 ?_
   refine st ?_
   refine cm (Zk.weak (rn []) (Zlu s _ hr2) rfl (WS.mk (tc Zb) Zc)) ?_
   refine st ?_
   obtain rfl := Zh hc3
   refine st ?_
   exact wx (WS.mk (Zd (Zq (web hc4)) Zb) Zc)
 obtain ⟨r0, hw⟩ := hw
 (conv => whnf)
 refine AWP.weak r0 hw ?_
 obtain rfl := Zh hF
 refine ns ?_
 refine Exists.intro [] ?_
 refine st ?_
 exact wx (WS.mk (tc Zb) Zc)

def ZfE (base : ByteArray) (n : Int) : Option (ByteArray) :=
 (if (decide (n < 0)) = true then some true else Zez base >>= fun r4 =>
 some (!r4)) >>= fun c5 =>
 if c5 = true then
 some (ByteArray.mk #[])
 else
 ZV (((base.size + (ByteArray.mk #[36]).size : Nat) : Int) ≤ IntKind.i64.max) >>= fun _ =>
 strconv_Itoa n >>= fun r9 =>
 ZV ((((base ++ (ByteArray.mk #[36])).size + r9.size : Nat) : Int) ≤ IntKind.i64.max) >>= fun _ =>
 some ((base ++ (ByteArray.mk #[36])) ++ r9)
def ZfE.M (base : ByteArray) (n : Int) (r : ByteArray) : Prop :=
 Zk Tryz.prog 116 [.c none (.v (.string base)), .c none (.v (.int .i64 n))] [] (fun d b => d = .c none (.v (.string r)) ∧ b = [])
theorem Zsb (base : ByteArray) (n : Int) (r : ByteArray) (hF : ZfE base n = some r) : ZfE.M base n r := by
 unfold ZfE at hF
 unfold ZfE.M
 refine en Tryz.func116 ?_
 refine AWP.seq ?_
 refine ns ?_
 refine AWP.seq ?_
 refine AWP.seq ?_
 obtain ⟨c5, hc5, hF⟩ := bind_some hF
 refine AWP.cutN (fun T => ∃ r, WS r T ⟨[(0, .c none (.v (.string base))), (1, .c none (.v (.int .i64 n))), (11, .c none (.v (.bool c5)))], []⟩) ?_ (fun T hw => ?_)
 ·refine ns ?_
  refine Zl false (fun hc6 => ?_) (fun hc6 => ?_)
  ·have hc5 := ift hc6 hc5
   (conv => whnf)
   obtain rfl := Zh hc5
   refine st ?_
   exact wx (WS.mk (tc (tc (Zd (Zq (web hc6)) Zb))) Zc)
  ·have hc5 := ife hc6 hc5
   obtain ⟨r4, hr4, hc5⟩ := bind_some hc5
   (conv => whnf)
   refine st ?_
   refine e3 ?_
   refine st ?_
   refine cm (Zk.weak (rn []) (ZpN base _ hr4) rfl (WS.mk (tc Zb) Zc)) ?_
   refine st ?_
   obtain rfl := Zh hc5
   refine st ?_
   exact wx (WS.mk (tc (tc (Zd (Zq (web hc6)) Zb))) Zc)
 obtain ⟨r0, hw⟩ := hw
 (conv => whnf)
 refine AWP.weak r0 hw ?_
 refine nw ?_
 refine Zi hF (fun hc7 hF => ?_) (fun hc7 hF => ?_)
 ·refine AWP.seq ?_
  refine ns ?_
  obtain rfl := Zh hF
  refine ns ?_
  refine Exists.intro [] ?_
  refine st ?_
  exact wx (WS.mk (tc Zb) Zc)
 ·refine nw ?_
  refine AWP.seq ?_
  obtain ⟨hg8, hF⟩ := Zv hF
  obtain ⟨r9, hr9, hF⟩ := bind_some hF
  obtain ⟨ZyV, hF⟩ := Zv hF
  refine ns ?_
  refine And.intro hg8 ?_
  refine st ?_
  refine e3 ?_
  refine st ?_
  refine cm (Zk.weak (rn []) (Zlq n _ hr9) rfl (WS.mk (tc Zb) Zc)) ?_
  refine st ?_
  refine And.intro ZyV ?_
  refine st ?_
  obtain rfl := Zh hF
  refine ns ?_
  refine Exists.intro [] ?_
  refine st ?_
  exact wx (WS.mk (tc Zb) Zc)

def ZK (s : ByteArray) (c : Int) (i_5 : Int) : Option (Int) :=
 if (decide (i_5 ≥ 0)) = true then
 (btI s i_5) >>= fun y11 =>
 if (((y11.toNat : Nat) : Int) == c) = true then
 some i_5
 else
 ZK s c (IntKind.i64.wrap (i_5 - 1))
 else
 some (-1)
 partial_fixpoint
def ZK.M (s : ByteArray) (c : Int) (i_5 : Int) (r : Int) : Prop :=
 AWL Tryz.prog 19 (Code.sub (Zr Tryz.f131) [1, 0, 1, 0, 0]) (Code.cont Tryz.prog 19 (Zr Tryz.f131) [1, 0, 1, 0] (ZbV tab Tryz.f131.results (Zb0 (.c none (.v (.int .i64 r))) []))) ⟨[(0, .c none (.v (.string s))), (1, .c none (.v (.int .u8 c))), (5, .c none (.v (.int .i64 i_5)))], []⟩
theorem Zga (s : ByteArray) (c : Int) (i_5 : Int) : ∀ r, ZK s c i_5 = some r → ZK.M s c i_5 r := by
 refine ZK.partial_correctness s c (fun i_5 r => ZK.M s c i_5 r) ?_ i_5
 intro i_bytealg_LastIndexByteString_l1' ZdX i_5 r hF
 have Zgp := fun (_s : ByteArray) (_c : Int) (i_5 : Int) => ZdX i_5
 clear ZdX
 unfold ZK.M
 refine AWL.step ?_
 refine AWP.seq ?_
 refine AWP.seq ?_
 refine ns ?_
 refine nw ?_
 refine Zi hF (fun ZeW hF => ?_) (fun ZeW hF => ?_)
 ·refine nw ?_
  refine AWP.seq ?_
  refine AWP.block ?_
  refine AWP.seq ?_
  obtain ⟨y11, hy110, ZFJ, hF⟩ := ZcL hF
  refine nn ?_
  refine sr ZFJ ?_
  refine st ?_
  refine nw ?_
  refine Zi hF (fun Zeo hF => ?_) (fun Zeo hF => ?_)
  ·refine AWP.seq ?_
   refine ns ?_
   obtain rfl := Zh hF
   refine ns ?_
   refine Exists.intro [] ?_
   refine st ?_
   exact wx (WS.mk (tc Zb) Zc)
  ·refine nw ?_
   refine ns ?_
   refine AWL.weak (rn []) ?_ (Zgp s c (IntKind.i64.wrap (i_5 - 1)) _ hF)
   exact (WS.mk (tc (tc (tc Zb))) Zc)
 ·refine nw ?_
  refine AWP.seq ?_
  refine ns ?_
  obtain rfl := Zh hF
  refine ns ?_
  refine Exists.intro [] ?_
  refine st ?_
  exact wx (WS.mk (tc Zb) Zc)

def ZaK (s : ByteArray) (c : Int) : Option (Int) :=
 ZK s c (IntKind.i64.wrap (((s.size : Nat) : Int) - 1))
def ZaK.M (s : ByteArray) (c : Int) (r : Int) : Prop :=
 Zk Tryz.prog 131 [.c none (.v (.string s)), .c none (.v (.int .u8 c))] [] (fun d b => d = .c none (.v (.int .i64 r)) ∧ b = [])
theorem Zg2 (s : ByteArray) (c : Int) (r : Int) (hF : ZaK s c = some r) : ZaK.M s c r := by
 unfold ZaK at hF
 unfold ZaK.M
 refine en Tryz.func131 ?_
 refine AWP.seq ?_
 refine ns ?_
 refine AWP.seq ?_
 refine AWP.seq ?_
 refine ns ?_
 refine AWP.block ?_
 refine AWP.loop ?_
 refine AWL.weak (rn []) ?_ (Zga s c (IntKind.i64.wrap (((s.size : Nat) : Int) - 1)) _ hF)
 exact (WS.mk (tc (tc (tc Zb))) Zc)

def ZbL (s : ByteArray) (c : Int) : Option (Int) :=
 ZaK s c >>= fun r1 =>
 some r1
def ZbL.M (s : ByteArray) (c : Int) (r : Int) : Prop :=
 Zk Tryz.prog 114 [.c none (.v (.string s)), .c none (.v (.int .u8 c))] [] (fun d b => d = .c none (.v (.int .i64 r)) ∧ b = [])
theorem ZjV (s : ByteArray) (c : Int) (r : Int) (hF : ZbL s c = some r) : ZbL.M s c r := by
 unfold ZbL at hF
 unfold ZbL.M
 refine en Tryz.func114 ?_
 refine AWP.seq ?_
 refine ns ?_
 refine AWP.seq ?_
 obtain ⟨r1, hr1, hF⟩ := bind_some hF
 refine ns ?_
 refine e3 ?_
 refine st ?_
 refine cm (Zk.weak (rn []) (Zg2 s c _ hr1) rfl (WS.mk (tc (tc Zb)) Zc)) ?_
 refine st ?_
 obtain rfl := Zh hF
 refine ns ?_
 refine Exists.intro [] ?_
 refine st ?_
 exact wx (WS.mk (tc Zb) Zc)

def ZeG (s : ByteArray) : Option (ByteArray × Int × Bool) :=
 ZbL s 36 >>= fun r1 =>
 if (decide (r1 < 0)) = true then
 some ((ByteArray.mk #[]), 0, false)
 else
 (slS s (IntKind.i64.wrap (r1 + 1)) ((s.size : Nat) : Int)) >>= fun z4 =>
 Ze9 z4 >>= fun r5 =>
 (if r5.2 = true then some true else (slS s ((0 : Nat) : Int) r1) >>= fun z10 =>
 ZfE z10 r5.1 >>= fun r11 =>
 some (!(r11.toList == s.toList))) >>= fun c12 =>
 if c12 = true then
 some ((ByteArray.mk #[]), 0, false)
 else
 (slS s ((0 : Nat) : Int) r1) >>= fun z15 =>
 some (z15, r5.1, true)
def ZeG.M (s : ByteArray) (r : ByteArray × Int × Bool) : Prop :=
 Zk Tryz.prog 92 [.c none (.v (.string s))] [] (fun d b => d = .tup [.c (.v (.string r.1)), .c (.v (.int .i64 r.2.1)), .c (.v (.bool r.2.2))] ∧ b = [])
theorem ZjU (s : ByteArray) (r : ByteArray × Int × Bool) (hF : ZeG s = some r) : ZeG.M s r := by
 unfold ZeG at hF
 unfold ZeG.M
 refine en Tryz.func92 ?_
 refine AWP.seq ?_
 refine ns ?_
 refine AWP.seq ?_
 obtain ⟨r1, hr1, hF⟩ := bind_some hF
 refine ns ?_
 refine e3 ?_
 refine st ?_
 refine cm (Zk.weak (rn []) (ZjV s 36 _ hr1) rfl (WS.mk (tc (tc Zb)) Zc)) ?_
 refine st ?_
 refine AWP.seq ?_
 refine AWP.seq ?_
 refine ns ?_
 refine nw ?_
 refine Zi hF (fun hc3 hF => ?_) (fun hc3 hF => ?_)
 ·refine AWP.seq ?_
  refine ns ?_
  obtain rfl := Zh hF
  refine ns ?_
  refine Exists.intro [] ?_
  refine st ?_
  exact wx (WS.mk (Zd (Zca (ZbI (WE.refl _) (ZbI (WE.refl _) (ZbI (WE.refl _) Zb8)))) Zb) Zc)
 ·refine nw ?_
  refine AWP.seq ?_
  obtain ⟨z4, ZFw, ZDq, ZFG, hz4, hF⟩ := ZfD hF
  obtain ⟨r5, hr5, hF⟩ := bind_some hF
  refine nn ?_
  refine s3 ZFw ZDq ZFG ?_
  rw [← hz4]
  refine st ?_
  refine e3 ?_
  refine st ?_
  refine cm (Zk.weak (rn []) (strconv_Atoi_ok z4 _ hr5) rfl (WS.mk (tc Zb) Zc)) ?_
  refine st ?_
  refine AWP.seq ?_
  refine AWP.seq ?_
  obtain ⟨c12, Zeo, hF⟩ := bind_some hF
  refine AWP.cutN (fun T => ∃ r, WS r T ⟨[(0, .c none (.v (.string s))), (3, .c none (.v (.int .i64 r5.1))), (5, .c none (.v (.int .i64 r1))), (29, .c none (.v (.bool c12)))], []⟩) ?_ (fun T hw => ?_)
  ·refine ns ?_
   refine Zl false (fun ZcB => ?_) (fun ZcB => ?_)
   ·have Zeo := ift ZcB Zeo
    (conv => whnf)
    obtain rfl := Zh Zeo
    refine st ?_
    exact wx (WS.mk (tc (tc (tc (Zd (Zq (web ZcB)) Zb)))) Zc)
   ·have Zeo := ife ZcB Zeo
    obtain ⟨z10, ZD9, ZER, ZE4, ZGq, Zeo⟩ := ZfD Zeo
    obtain ⟨r11, Zvf, Zeo⟩ := bind_some Zeo
    (conv => whnf)
    refine s3 ZD9 ZER ZE4 ?_
    rw [← ZGq]
    refine st ?_
    refine e3 ?_
    refine st ?_
    refine cm (Zk.weak (rn []) (Zsb z10 r5.1 _ Zvf) rfl (WS.mk (tc (tc Zb)) Zc)) ?_
    refine st ?_
    obtain rfl := Zh Zeo
    refine st ?_
    exact wx (WS.mk (tc (tc (tc (Zd (Zq (web ZcB)) Zb)))) Zc)
  obtain ⟨r0, hw⟩ := hw
  (conv => whnf)
  refine AWP.weak r0 hw ?_
  refine nw ?_
  refine Zi hF (fun Zc8 hF => ?_) (fun Zc8 hF => ?_)
  ·refine AWP.seq ?_
   refine ns ?_
   obtain rfl := Zh hF
   refine ns ?_
   refine Exists.intro [] ?_
   refine st ?_
   exact wx (WS.mk (Zd (Zca (ZbI (WE.refl _) (ZbI (WE.refl _) (ZbI (WE.refl _) Zb8)))) Zb) Zc)
  ·refine nw ?_
   refine AWP.seq ?_
   obtain ⟨z15, ZFc, ZEE, ZDz, ZFR, hF⟩ := ZfD hF
   refine nn ?_
   refine s3 ZFc ZEE ZDz ?_
   rw [← ZFR]
   refine st ?_
   obtain rfl := Zh hF
   refine ns ?_
   refine Exists.intro [] ?_
   refine st ?_
   exact wx (WS.mk (Zd (Zca (ZbI (WE.refl _) (ZbI (WE.refl _) (ZbI (WE.refl _) Zb8)))) Zb) Zc)

def Zc3 (s : ByteArray) : Option (Int) :=
 Zcd s >>= fun r18 =>
 if r18 = true then
 some 5
 else
 Zbz s >>= fun r20 =>
 if r20 = true then
 some 6
 else
 Zem s >>= fun r22 =>
 (if r22 = true then (btI s 0) >>= fun y23 =>
 Zd7 ((y23.toNat : Nat) : Int) >>= fun r24 =>
 some r24 else some false) >>= fun c25 =>
 if c25 = true then
 some 2
 else
 Zem s >>= fun r28 =>
 if r28 = true then
 some 1
 else
 ZdF s >>= fun r30 =>
 (if r30 = true then (btI s 0) >>= fun y31 =>
 some (((y31.toNat : Nat) : Int) == 58) else some false) >>= fun c32 =>
 if c32 = true then
 some 4
 else
 ZdF s >>= fun r35 =>
 if r35 = true then
 some 3
 else
 ZeG s >>= fun r37 =>
 if r37.2.2 = true then
 some 7
 else
 some 0
def Zc3.M (s : ByteArray) (r : Int) : Prop :=
 Zk Tryz.prog 93 [.c none (.v (.string s))] [] (fun d b => d = .c none (.v (.int .i64 r)) ∧ b = [])
theorem Zg6 (s : ByteArray) (r : Int) (hF : Zc3 s = some r) : Zc3.M s r := by
 unfold Zc3 at hF
 unfold Zc3.M
 refine en Tryz.func93 ?_
 refine AWP.seq ?_
 refine ns ?_
 refine AWP.seq ?_
 refine AWP.block ?_
 refine AWP.seq ?_
 obtain ⟨r18, ZGy, hF⟩ := bind_some hF
 refine ns ?_
 refine e3 ?_
 refine st ?_
 refine cm (Zk.weak (rn []) (Zhz s _ ZGy) rfl (WS.mk (tc Zb) Zc)) ?_
 refine st ?_
 refine nw ?_
 refine Zi hF (fun ZkO hF => ?_) (fun ZkO hF => ?_)
 ·refine AWP.seq ?_
  refine ns ?_
  obtain rfl := Zh hF
  refine ns ?_
  refine Exists.intro [] ?_
  refine st ?_
  exact wx (WS.mk (tc Zb) Zc)
 ·refine AWP.seq ?_
  obtain ⟨r20, Zzt, hF⟩ := bind_some hF
  refine ns ?_
  refine e3 ?_
  refine st ?_
  refine cm (Zk.weak (rn []) (ZeV s _ Zzt) rfl (WS.mk (tc Zb) Zc)) ?_
  refine st ?_
  refine nw ?_
  refine Zi hF (fun Zkb hF => ?_) (fun Zkb hF => ?_)
  ·refine AWP.seq ?_
   refine ns ?_
   obtain rfl := Zh hF
   refine ns ?_
   refine Exists.intro [] ?_
   refine st ?_
   exact wx (WS.mk (tc Zb) Zc)
  ·refine AWP.seq ?_
   obtain ⟨r22, Zvy, hF⟩ := bind_some hF
   obtain ⟨c25, ZeM, hF⟩ := bind_some hF
   refine AWP.cutN (fun T => ∃ r, WS r T ⟨[(0, .c none (.v (.string s))), (12, .c none (.v (.bool c25)))], []⟩) ?_ (fun T hw => ?_)
   ·refine ns ?_
    refine e3 ?_
    refine st ?_
    refine cm (Zk.weak (rn []) (ZhZ s _ Zvy) rfl (WS.mk (tc Zb) Zc)) ?_
    refine st ?_
    refine Zl true (fun ZfB => ?_) (fun ZfB => ?_)
    ·have ZeM := ift ZfB ZeM
     obtain ⟨y23, hy230, ZGt, ZeM⟩ := ZcL ZeM
     obtain ⟨r24, ZCS, ZeM⟩ := bind_some ZeM
     (conv => whnf)
     refine sr ZGt ?_
     refine st ?_
     refine e3 ?_
     refine st ?_
     refine cm (Zk.weak (rn []) (ZiX ((y23.toNat : Nat) : Int) _ ZCS) rfl (WS.mk (tc Zb) Zc)) ?_
     refine st ?_
     obtain rfl := Zh ZeM
     refine st ?_
     exact wx (WS.mk (tc (Zd (Zq (web ZfB)) Zb)) Zc)
    ·have ZeM := ife ZfB ZeM
     (conv => whnf)
     obtain rfl := Zh ZeM
     refine st ?_
     exact wx (WS.mk (tc (Zd (Zq (web ZfB)) Zb)) Zc)
   obtain ⟨r0, hw⟩ := hw
   (conv => whnf)
   refine AWP.weak r0 hw ?_
   refine nw ?_
   refine Zi hF (fun Zky hF => ?_) (fun Zky hF => ?_)
   ·refine AWP.seq ?_
    refine ns ?_
    obtain rfl := Zh hF
    refine ns ?_
    refine Exists.intro [] ?_
    refine st ?_
    exact wx (WS.mk (tc Zb) Zc)
   ·refine AWP.seq ?_
    obtain ⟨r28, Zz0, hF⟩ := bind_some hF
    refine ns ?_
    refine e3 ?_
    refine st ?_
    refine cm (Zk.weak (rn []) (ZhZ s _ Zz0) rfl (WS.mk (tc Zb) Zc)) ?_
    refine st ?_
    refine nw ?_
    refine Zi hF (fun Znf hF => ?_) (fun Znf hF => ?_)
    ·refine AWP.seq ?_
     refine ns ?_
     obtain rfl := Zh hF
     refine ns ?_
     refine Exists.intro [] ?_
     refine st ?_
     exact wx (WS.mk (tc Zb) Zc)
    ·refine AWP.seq ?_
     obtain ⟨r30, ZGF, hF⟩ := bind_some hF
     obtain ⟨c32, Zm1, hF⟩ := bind_some hF
     refine AWP.cutN (fun T => ∃ r, WS r T ⟨[(0, .c none (.v (.string s))), (23, .c none (.v (.bool c32)))], []⟩) ?_ (fun T hw => ?_)
     ·refine ns ?_
      refine e3 ?_
      refine st ?_
      refine cm (Zk.weak (rn []) (Zgx s _ ZGF) rfl (WS.mk (tc Zb) Zc)) ?_
      refine st ?_
      refine Zl true (fun ZoO => ?_) (fun ZoO => ?_)
      ·have Zm1 := ift ZoO Zm1
       obtain ⟨y31, hy310, ZGS, Zm1⟩ := ZcL Zm1
       (conv => whnf)
       refine sr ZGS ?_
       obtain rfl := Zh Zm1
       refine st ?_
       exact wx (WS.mk (tc (Zd (Zq (web ZoO)) Zb)) Zc)
      ·have Zm1 := ife ZoO Zm1
       (conv => whnf)
       obtain rfl := Zh Zm1
       refine st ?_
       exact wx (WS.mk (tc (Zd (Zq (web ZoO)) Zb)) Zc)
     obtain ⟨r0, hw⟩ := hw
     (conv => whnf)
     refine AWP.weak r0 hw ?_
     refine nw ?_
     refine Zi hF (fun ZyW hF => ?_) (fun ZyW hF => ?_)
     ·refine AWP.seq ?_
      refine ns ?_
      obtain rfl := Zh hF
      refine ns ?_
      refine Exists.intro [] ?_
      refine st ?_
      exact wx (WS.mk (tc Zb) Zc)
     ·refine AWP.seq ?_
      obtain ⟨r35, ZBQ, hF⟩ := bind_some hF
      refine ns ?_
      refine e3 ?_
      refine st ?_
      refine cm (Zk.weak (rn []) (Zgx s _ ZBQ) rfl (WS.mk (tc Zb) Zc)) ?_
      refine st ?_
      refine nw ?_
      refine Zi hF (fun Zkf hF => ?_) (fun Zkf hF => ?_)
      ·refine AWP.seq ?_
       refine ns ?_
       obtain rfl := Zh hF
       refine ns ?_
       refine Exists.intro [] ?_
       refine st ?_
       exact wx (WS.mk (tc Zb) Zc)
      ·refine nw ?_
       refine AWP.seq ?_
       refine AWP.seq ?_
       obtain ⟨r37, ZGC, hF⟩ := bind_some hF
       refine ns ?_
       refine e3 ?_
       refine st ?_
       refine cm (Zk.weak (rn []) (ZjU s _ ZGC) rfl (WS.mk (tc Zb) Zc)) ?_
       refine st ?_
       refine AWP.seq ?_
       refine ns ?_
       refine nw ?_
       refine Zi hF (fun ZrV hF => ?_) (fun ZrV hF => ?_)
       ·refine AWP.seq ?_
        refine ns ?_
        obtain rfl := Zh hF
        refine ns ?_
        refine Exists.intro [] ?_
        refine st ?_
        exact wx (WS.mk (tc Zb) Zc)
       ·refine nw ?_
        refine AWP.seq ?_
        refine ns ?_
        obtain rfl := Zh hF
        refine ns ?_
        refine Exists.intro [] ?_
        refine st ?_
        exact wx (WS.mk (tc Zb) Zc)

def ZI (Zxm : Bool) : Option (Bool) :=
 if Zxm = true then
 some true
 else
 some false
def ZI.M (Zxm : Bool) (r : Bool) : Prop :=
 AWP Tryz.prog 28 (Code.sub (Zr Tryz.f87) [1, 0, 1, 0, 1, 1, 1]) (Code.cont Tryz.prog 28 (Zr Tryz.f87) [1, 0, 1, 0, 1, 1, 1] (ZbV tab Tryz.f87.results (Zb0 (.c none (.v (.bool r))) []))) ⟨[(16, .c none (.v (.bool Zxm)))], []⟩
theorem Zad (Zxm : Bool) (r : Bool) (hF : ZI Zxm = some r) : ZI.M Zxm r := by
 unfold ZI at hF
 unfold ZI.M
 refine nw ?_
 refine Zi hF (fun Zjq hF => ?_) (fun Zjq hF => ?_)
 ·refine AWP.seq ?_
  refine ns ?_
  obtain rfl := Zh hF
  refine ns ?_
  refine Exists.intro [] ?_
  refine st ?_
  exact wx (WS.mk (tc Zb) Zc)
 ·refine nw ?_
  refine AWP.seq ?_
  refine ns ?_
  obtain rfl := Zh hF
  refine ns ?_
  refine Exists.intro [] ?_
  refine st ?_
  exact wx (WS.mk (tc Zb) Zc)

def ZJ (s : ByteArray) (x_4 : Bool) : Option (Bool) :=
 if x_4 = true then
 some true
 else
 if (s.toList == (ByteArray.mk #[105, 110, 102, 105, 120]).toList) = true then
 ZI (s.toList == (ByteArray.mk #[105, 110, 102, 105, 120]).toList)
 else
 if (s.toList == (ByteArray.mk #[105, 110, 102, 105, 120, 108]).toList) = true then
 ZI (s.toList == (ByteArray.mk #[105, 110, 102, 105, 120, 108]).toList)
 else
 if (s.toList == (ByteArray.mk #[105, 110, 102, 105, 120, 114]).toList) = true then
 ZI (s.toList == (ByteArray.mk #[105, 110, 102, 105, 120, 114]).toList)
 else
 if (s.toList == (ByteArray.mk #[105, 110, 115, 116, 97, 110, 99, 101]).toList) = true then
 ZI (s.toList == (ByteArray.mk #[105, 110, 115, 116, 97, 110, 99, 101]).toList)
 else
 if (s.toList == (ByteArray.mk #[108, 101, 116]).toList) = true then
 ZI (s.toList == (ByteArray.mk #[108, 101, 116]).toList)
 else
 if (s.toList == (ByteArray.mk #[109, 111, 100, 117, 108, 101]).toList) = true then
 ZI (s.toList == (ByteArray.mk #[109, 111, 100, 117, 108, 101]).toList)
 else
 if (s.toList == (ByteArray.mk #[111, 102]).toList) = true then
 ZI (s.toList == (ByteArray.mk #[111, 102]).toList)
 else
 if (s.toList == (ByteArray.mk #[113, 117, 97, 108, 105, 102, 105, 101, 100]).toList) = true then
 ZI (s.toList == (ByteArray.mk #[113, 117, 97, 108, 105, 102, 105, 101, 100]).toList)
 else
 if (s.toList == (ByteArray.mk #[116, 104, 101, 110]).toList) = true then
 ZI (s.toList == (ByteArray.mk #[116, 104, 101, 110]).toList)
 else
 if (s.toList == (ByteArray.mk #[119, 104, 101, 114, 101]).toList) = true then
 ZI (s.toList == (ByteArray.mk #[119, 104, 101, 114, 101]).toList)
 else
 ZI (s.toList == (ByteArray.mk #[95]).toList)
def ZJ.M (s : ByteArray) (x_4 : Bool) (r : Bool) : Prop :=
 AWP Tryz.prog 28 (Code.sub (Zr Tryz.f87) [1, 0, 1, 0, 1]) (Code.cont Tryz.prog 28 (Zr Tryz.f87) [1, 0, 1, 0, 1] (ZbV tab Tryz.f87.results (Zb0 (.c none (.v (.bool r))) []))) ⟨[(3, .c none (.v (.string s))), (4, .c none (.v (.bool x_4)))], []⟩
theorem Zac (s : ByteArray) (x_4 : Bool) (r : Bool) (hF : ZJ s x_4 = some r) : ZJ.M s x_4 r := by
 unfold ZJ at hF
 unfold ZJ.M
 refine nw ?_
 refine Zi hF (fun Zct hF => ?_) (fun Zct hF => ?_)
 ·refine AWP.seq ?_
  refine ns ?_
  obtain rfl := Zh hF
  refine ns ?_
  refine Exists.intro [] ?_
  refine st ?_
  exact wx (WS.mk (tc Zb) Zc)
 ·refine AWP.seq ?_
  refine AWP.seq ?_
  refine ns ?_
  refine nw ?_
  refine Zi hF (fun Zz7 hF => ?_) (fun Zz7 hF => ?_)
  ·refine nw ?_
   refine AWP.weak (rn []) ?_ (Zad (s.toList == (ByteArray.mk #[105, 110, 102, 105, 120]).toList) _ hF)
   exact (WS.mk (tc Zb) Zc)
  ·refine AWP.seq ?_
   refine ns ?_
   refine nw ?_
   refine Zi hF (fun Zik hF => ?_) (fun Zik hF => ?_)
   ·refine nw ?_
    refine AWP.weak (rn []) ?_ (Zad (s.toList == (ByteArray.mk #[105, 110, 102, 105, 120, 108]).toList) _ hF)
    exact (WS.mk (tc Zb) Zc)
   ·refine AWP.seq ?_
    refine ns ?_
    refine nw ?_
    refine Zi hF (fun ZeM hF => ?_) (fun ZeM hF => ?_)
    ·refine nw ?_
     refine AWP.weak (rn []) ?_ (Zad (s.toList == (ByteArray.mk #[105, 110, 102, 105, 120, 114]).toList) _ hF)
     exact (WS.mk (tc Zb) Zc)
    ·refine AWP.seq ?_
     refine ns ?_
     refine nw ?_
     refine Zi hF (fun ZfB hF => ?_) (fun ZfB hF => ?_)
     ·refine nw ?_
      refine AWP.weak (rn []) ?_ (Zad (s.toList == (ByteArray.mk #[105, 110, 115, 116, 97, 110, 99, 101]).toList) _ hF)
      exact (WS.mk (tc Zb) Zc)
     ·refine AWP.seq ?_
      refine ns ?_
      refine nw ?_
      refine Zi hF (fun Zky hF => ?_) (fun Zky hF => ?_)
      ·refine nw ?_
       refine AWP.weak (rn []) ?_ (Zad (s.toList == (ByteArray.mk #[108, 101, 116]).toList) _ hF)
       exact (WS.mk (tc Zb) Zc)
      ·refine AWP.seq ?_
       refine ns ?_
       refine nw ?_
       refine Zi hF (fun Zqw hF => ?_) (fun Zqw hF => ?_)
       ·refine nw ?_
        refine AWP.weak (rn []) ?_ (Zad (s.toList == (ByteArray.mk #[109, 111, 100, 117, 108, 101]).toList) _ hF)
        exact (WS.mk (tc Zb) Zc)
       ·refine AWP.seq ?_
        refine ns ?_
        refine nw ?_
        refine Zi hF (fun Znf hF => ?_) (fun Znf hF => ?_)
        ·refine nw ?_
         refine AWP.weak (rn []) ?_ (Zad (s.toList == (ByteArray.mk #[111, 102]).toList) _ hF)
         exact (WS.mk (tc Zb) Zc)
        ·refine AWP.seq ?_
         refine ns ?_
         refine nw ?_
         refine Zi hF (fun Zmt hF => ?_) (fun Zmt hF => ?_)
         ·refine nw ?_
          refine AWP.weak (rn []) ?_ (Zad (s.toList == (ByteArray.mk #[113, 117, 97, 108, 105, 102, 105, 101, 100]).toList) _ hF)
          exact (WS.mk (tc Zb) Zc)
         ·refine AWP.seq ?_
          refine ns ?_
          refine nw ?_
          refine Zi hF (fun Zu4 hF => ?_) (fun Zu4 hF => ?_)
          ·refine nw ?_
           refine AWP.weak (rn []) ?_ (Zad (s.toList == (ByteArray.mk #[116, 104, 101, 110]).toList) _ hF)
           exact (WS.mk (tc Zb) Zc)
          ·refine AWP.seq ?_
           refine ns ?_
           refine nw ?_
           refine Zi hF (fun Zm1 hF => ?_) (fun Zm1 hF => ?_)
           ·refine nw ?_
            refine AWP.weak (rn []) ?_ (Zad (s.toList == (ByteArray.mk #[119, 104, 101, 114, 101]).toList) _ hF)
            exact (WS.mk (tc Zb) Zc)
           ·refine ns ?_
            refine AWP.weak (rn []) ?_ (Zad (s.toList == (ByteArray.mk #[95]).toList) _ hF)
            exact (WS.mk (tc Zb) Zc)

def Zco (s : ByteArray) : Option (Bool) :=
 if (s.toList == (ByteArray.mk #[97, 115]).toList) = true then
 ZJ s (s.toList == (ByteArray.mk #[97, 115]).toList)
 else
 if (s.toList == (ByteArray.mk #[99, 97, 115, 101]).toList) = true then
 ZJ s (s.toList == (ByteArray.mk #[99, 97, 115, 101]).toList)
 else
 if (s.toList == (ByteArray.mk #[99, 108, 97, 115, 115]).toList) = true then
 ZJ s (s.toList == (ByteArray.mk #[99, 108, 97, 115, 115]).toList)
 else
 if (s.toList == (ByteArray.mk #[100, 97, 116, 97]).toList) = true then
 ZJ s (s.toList == (ByteArray.mk #[100, 97, 116, 97]).toList)
 else
 if (s.toList == (ByteArray.mk #[100, 101, 114, 105, 118, 105, 110, 103]).toList) = true then
 ZJ s (s.toList == (ByteArray.mk #[100, 101, 114, 105, 118, 105, 110, 103]).toList)
 else
 if (s.toList == (ByteArray.mk #[100, 111]).toList) = true then
 ZJ s (s.toList == (ByteArray.mk #[100, 111]).toList)
 else
 if (s.toList == (ByteArray.mk #[101, 108, 115, 101]).toList) = true then
 ZJ s (s.toList == (ByteArray.mk #[101, 108, 115, 101]).toList)
 else
 if (s.toList == (ByteArray.mk #[104, 105, 100, 105, 110, 103]).toList) = true then
 ZJ s (s.toList == (ByteArray.mk #[104, 105, 100, 105, 110, 103]).toList)
 else
 if (s.toList == (ByteArray.mk #[105, 102]).toList) = true then
 ZJ s (s.toList == (ByteArray.mk #[105, 102]).toList)
 else
 if (s.toList == (ByteArray.mk #[105, 109, 112, 111, 114, 116]).toList) = true then
 ZJ s (s.toList == (ByteArray.mk #[105, 109, 112, 111, 114, 116]).toList)
 else
 ZJ s (s.toList == (ByteArray.mk #[105, 110]).toList)
def Zco.M (s : ByteArray) (r : Bool) : Prop :=
 Zk Tryz.prog 87 [.c none (.v (.string s))] [] (fun d b => d = .c none (.v (.bool r)) ∧ b = [])
theorem ZkA (s : ByteArray) (r : Bool) (hF : Zco s = some r) : Zco.M s r := by
 unfold Zco at hF
 unfold Zco.M
 refine en Tryz.func87 ?_
 refine AWP.seq ?_
 refine ns ?_
 refine AWP.seq ?_
 refine AWP.seq ?_
 refine ns ?_
 refine AWP.block ?_
 refine AWP.seq ?_
 refine AWP.seq ?_
 refine ns ?_
 refine nw ?_
 refine Zi hF (fun ZoO hF => ?_) (fun ZoO hF => ?_)
 ·refine nw ?_
  refine AWP.weak (rn []) ?_ (Zac s (s.toList == (ByteArray.mk #[97, 115]).toList) _ hF)
  exact (WS.mk (tc (tc Zb)) Zc)
 ·refine AWP.seq ?_
  refine ns ?_
  refine nw ?_
  refine Zi hF (fun ZyW hF => ?_) (fun ZyW hF => ?_)
  ·refine nw ?_
   refine AWP.weak (rn []) ?_ (Zac s (s.toList == (ByteArray.mk #[99, 97, 115, 101]).toList) _ hF)
   exact (WS.mk (tc (tc Zb)) Zc)
  ·refine AWP.seq ?_
   refine ns ?_
   refine nw ?_
   refine Zi hF (fun ZmW hF => ?_) (fun ZmW hF => ?_)
   ·refine nw ?_
    refine AWP.weak (rn []) ?_ (Zac s (s.toList == (ByteArray.mk #[99, 108, 97, 115, 115]).toList) _ hF)
    exact (WS.mk (tc (tc Zb)) Zc)
   ·refine AWP.seq ?_
    refine ns ?_
    refine nw ?_
    refine Zi hF (fun Zkf hF => ?_) (fun Zkf hF => ?_)
    ·refine nw ?_
     refine AWP.weak (rn []) ?_ (Zac s (s.toList == (ByteArray.mk #[100, 97, 116, 97]).toList) _ hF)
     exact (WS.mk (tc (tc Zb)) Zc)
    ·refine AWP.seq ?_
     refine ns ?_
     refine nw ?_
     refine Zi hF (fun ZoN hF => ?_) (fun ZoN hF => ?_)
     ·refine nw ?_
      refine AWP.weak (rn []) ?_ (Zac s (s.toList == (ByteArray.mk #[100, 101, 114, 105, 118, 105, 110, 103]).toList) _ hF)
      exact (WS.mk (tc (tc Zb)) Zc)
     ·refine AWP.seq ?_
      refine ns ?_
      refine nw ?_
      refine Zi hF (fun ZrV hF => ?_) (fun ZrV hF => ?_)
      ·refine nw ?_
       refine AWP.weak (rn []) ?_ (Zac s (s.toList == (ByteArray.mk #[100, 111]).toList) _ hF)
       exact (WS.mk (tc (tc Zb)) Zc)
      ·refine AWP.seq ?_
       refine ns ?_
       refine nw ?_
       refine Zi hF (fun Zjk hF => ?_) (fun Zjk hF => ?_)
       ·refine nw ?_
        refine AWP.weak (rn []) ?_ (Zac s (s.toList == (ByteArray.mk #[101, 108, 115, 101]).toList) _ hF)
        exact (WS.mk (tc (tc Zb)) Zc)
       ·refine AWP.seq ?_
        refine ns ?_
        refine nw ?_
        refine Zi hF (fun Zq3 hF => ?_) (fun Zq3 hF => ?_)
        ·refine nw ?_
         refine AWP.weak (rn []) ?_ (Zac s (s.toList == (ByteArray.mk #[104, 105, 100, 105, 110, 103]).toList) _ hF)
         exact (WS.mk (tc (tc Zb)) Zc)
        ·refine AWP.seq ?_
         refine ns ?_
         refine nw ?_
         refine Zi hF (fun ZvT hF => ?_) (fun ZvT hF => ?_)
         ·refine nw ?_
          refine AWP.weak (rn []) ?_ (Zac s (s.toList == (ByteArray.mk #[105, 102]).toList) _ hF)
          exact (WS.mk (tc (tc Zb)) Zc)
         ·refine AWP.seq ?_
          refine ns ?_
          refine nw ?_
          refine Zi hF (fun Zp3 hF => ?_) (fun Zp3 hF => ?_)
          ·refine nw ?_
           refine AWP.weak (rn []) ?_ (Zac s (s.toList == (ByteArray.mk #[105, 109, 112, 111, 114, 116]).toList) _ hF)
           exact (WS.mk (tc (tc Zb)) Zc)
          ·refine ns ?_
           refine AWP.weak (rn []) ?_ (Zac s (s.toList == (ByteArray.mk #[105, 110]).toList) _ hF)
           exact (WS.mk (tc (tc Zb)) Zc)

def Zy (x_4 : Bool) : Option (Bool) :=
 if x_4 = true then
 some true
 else
 some false
def Zy.M (x_4 : Bool) (r : Bool) : Prop :=
 AWP Tryz.prog 15 (Code.sub (Zr Tryz.f90) [1, 0, 1, 0, 1]) (Code.cont Tryz.prog 15 (Zr Tryz.f90) [1, 0, 1, 0, 1] (ZbV tab Tryz.f90.results (Zb0 (.c none (.v (.bool r))) []))) ⟨[(4, .c none (.v (.bool x_4)))], []⟩
theorem ZU (x_4 : Bool) (r : Bool) (hF : Zy x_4 = some r) : Zy.M x_4 r := by
 unfold Zy at hF
 unfold Zy.M
 refine nw ?_
 refine Zi hF (fun ZeW hF => ?_) (fun ZeW hF => ?_)
 ·refine AWP.seq ?_
  refine ns ?_
  obtain rfl := Zh hF
  refine ns ?_
  refine Exists.intro [] ?_
  refine st ?_
  exact wx (WS.mk (tc Zb) Zc)
 ·refine nw ?_
  refine AWP.seq ?_
  refine ns ?_
  obtain rfl := Zh hF
  refine ns ?_
  refine Exists.intro [] ?_
  refine st ?_
  exact wx (WS.mk (tc Zb) Zc)

def ZaV (s : ByteArray) : Option (Bool) :=
 if (s.toList == (ByteArray.mk #[46, 46]).toList) = true then
 Zy (s.toList == (ByteArray.mk #[46, 46]).toList)
 else
 if (s.toList == (ByteArray.mk #[58, 58]).toList) = true then
 Zy (s.toList == (ByteArray.mk #[58, 58]).toList)
 else
 if (s.toList == (ByteArray.mk #[61]).toList) = true then
 Zy (s.toList == (ByteArray.mk #[61]).toList)
 else
 if (s.toList == (ByteArray.mk #[92]).toList) = true then
 Zy (s.toList == (ByteArray.mk #[92]).toList)
 else
 if (s.toList == (ByteArray.mk #[124]).toList) = true then
 Zy (s.toList == (ByteArray.mk #[124]).toList)
 else
 if (s.toList == (ByteArray.mk #[60, 45]).toList) = true then
 Zy (s.toList == (ByteArray.mk #[60, 45]).toList)
 else
 if (s.toList == (ByteArray.mk #[45, 62]).toList) = true then
 Zy (s.toList == (ByteArray.mk #[45, 62]).toList)
 else
 if (s.toList == (ByteArray.mk #[64]).toList) = true then
 Zy (s.toList == (ByteArray.mk #[64]).toList)
 else
 if (s.toList == (ByteArray.mk #[126]).toList) = true then
 Zy (s.toList == (ByteArray.mk #[126]).toList)
 else
 Zy (s.toList == (ByteArray.mk #[61, 62]).toList)
def ZaV.M (s : ByteArray) (r : Bool) : Prop :=
 Zk Tryz.prog 90 [.c none (.v (.string s))] [] (fun d b => d = .c none (.v (.bool r)) ∧ b = [])
theorem Zih (s : ByteArray) (r : Bool) (hF : ZaV s = some r) : ZaV.M s r := by
 unfold ZaV at hF
 unfold ZaV.M
 refine en Tryz.func90 ?_
 refine AWP.seq ?_
 refine ns ?_
 refine AWP.seq ?_
 refine AWP.seq ?_
 refine ns ?_
 refine AWP.block ?_
 refine AWP.seq ?_
 refine AWP.seq ?_
 refine ns ?_
 refine nw ?_
 refine Zi hF (fun Zct hF => ?_) (fun Zct hF => ?_)
 ·refine nw ?_
  refine AWP.weak (rn []) ?_ (ZU (s.toList == (ByteArray.mk #[46, 46]).toList) _ hF)
  exact (WS.mk (tc Zb) Zc)
 ·refine AWP.seq ?_
  refine ns ?_
  refine nw ?_
  refine Zi hF (fun Zeo hF => ?_) (fun Zeo hF => ?_)
  ·refine nw ?_
   refine AWP.weak (rn []) ?_ (ZU (s.toList == (ByteArray.mk #[58, 58]).toList) _ hF)
   exact (WS.mk (tc Zb) Zc)
  ·refine AWP.seq ?_
   refine ns ?_
   refine nw ?_
   refine Zi hF (fun ZcB hF => ?_) (fun ZcB hF => ?_)
   ·refine nw ?_
    refine AWP.weak (rn []) ?_ (ZU (s.toList == (ByteArray.mk #[61]).toList) _ hF)
    exact (WS.mk (tc Zb) Zc)
   ·refine AWP.seq ?_
    refine ns ?_
    refine nw ?_
    refine Zi hF (fun Zc8 hF => ?_) (fun Zc8 hF => ?_)
    ·refine nw ?_
     refine AWP.weak (rn []) ?_ (ZU (s.toList == (ByteArray.mk #[92]).toList) _ hF)
     exact (WS.mk (tc Zb) Zc)
    ·refine AWP.seq ?_
     refine ns ?_
     refine nw ?_
     refine Zi hF (fun Zff hF => ?_) (fun Zff hF => ?_)
     ·refine nw ?_
      refine AWP.weak (rn []) ?_ (ZU (s.toList == (ByteArray.mk #[124]).toList) _ hF)
      exact (WS.mk (tc Zb) Zc)
     ·refine AWP.seq ?_
      refine ns ?_
      refine nw ?_
      refine Zi hF (fun ZeJ hF => ?_) (fun ZeJ hF => ?_)
      ·refine nw ?_
       refine AWP.weak (rn []) ?_ (ZU (s.toList == (ByteArray.mk #[60, 45]).toList) _ hF)
       exact (WS.mk (tc Zb) Zc)
      ·refine AWP.seq ?_
       refine ns ?_
       refine nw ?_
       refine Zi hF (fun Zfg hF => ?_) (fun Zfg hF => ?_)
       ·refine nw ?_
        refine AWP.weak (rn []) ?_ (ZU (s.toList == (ByteArray.mk #[45, 62]).toList) _ hF)
        exact (WS.mk (tc Zb) Zc)
       ·refine AWP.seq ?_
        refine ns ?_
        refine nw ?_
        refine Zi hF (fun ZgZ hF => ?_) (fun ZgZ hF => ?_)
        ·refine nw ?_
         refine AWP.weak (rn []) ?_ (ZU (s.toList == (ByteArray.mk #[64]).toList) _ hF)
         exact (WS.mk (tc Zb) Zc)
        ·refine AWP.seq ?_
         refine ns ?_
         refine nw ?_
         refine Zi hF (fun ZkO hF => ?_) (fun ZkO hF => ?_)
         ·refine nw ?_
          refine AWP.weak (rn []) ?_ (ZU (s.toList == (ByteArray.mk #[126]).toList) _ hF)
          exact (WS.mk (tc Zb) Zc)
         ·refine ns ?_
          refine AWP.weak (rn []) ?_ (ZU (s.toList == (ByteArray.mk #[61, 62]).toList) _ hF)
          exact (WS.mk (tc Zb) Zc)

def Z1 (c : Int) (i_4 : Nat) : Option (Bool) :=
 if (decide (((i_4 : Nat) : Int) < (((ByteArray.mk #[33, 35, 36, 37, 38, 42, 43, 46, 47, 60, 61, 62, 63, 64, 92, 94, 124, 45, 126, 58]).size : Nat) : Int))) = true then
 (btI (ByteArray.mk #[33, 35, 36, 37, 38, 42, 43, 46, 47, 60, 61, 62, 63, 64, 92, 94, 124, 45, 126, 58]) ((i_4 : Nat) : Int)) >>= fun y12 =>
 if (((y12.toNat : Nat) : Int) == c) = true then
 some true
 else
 ZV (i_4 + 1 ≤ 9223372036854775807) >>= fun _ =>
 Z1 c (i_4 + 1)
 else
 some false
 partial_fixpoint
def Z1.M (c : Int) (i_4 : Nat) (r : Bool) : Prop :=
 AWL Tryz.prog 16 (Code.sub (Zr Tryz.f112) [1, 1, 0, 1, 0, 0]) (Code.cont Tryz.prog 16 (Zr Tryz.f112) [1, 1, 0, 1, 0] (ZbV tab Tryz.f112.results (Zb0 (.c none (.v (.bool r))) []))) ⟨[(0, .c none (.v (.int .u8 c))), (3, .c none (.v (.string (ByteArray.mk #[33, 35, 36, 37, 38, 42, 43, 46, 47, 60, 61, 62, 63, 64, 92, 94, 124, 45, 126, 58])))), (4, .c none (.v (.int .i64 ((i_4 : Nat) : Int))))], []⟩
theorem Zjn (c : Int) (i_4 : Nat) : ∀ r, Z1 c i_4 = some r → Z1.M c i_4 r := by
 refine Z1.partial_correctness c (fun i_4 r => Z1.M c i_4 r) ?_ i_4
 intro lazycref01_Symbolic_l1' ZfI i_4 r hF
 have Zjl := fun (_c : Int) (i_4 : Nat) => ZfI i_4
 clear ZfI
 unfold Z1.M
 refine AWL.step ?_
 refine AWP.seq ?_
 refine AWP.seq ?_
 refine ns ?_
 refine nw ?_
 refine Zi hF (fun Zct hF => ?_) (fun Zct hF => ?_)
 ·refine nw ?_
  refine AWP.seq ?_
  refine AWP.block ?_
  refine AWP.seq ?_
  obtain ⟨y12, ZEh, ZCD, hF⟩ := ZcL hF
  refine nn ?_
  refine sr ZCD ?_
  refine st ?_
  refine nw ?_
  refine Zi hF (fun ZcB hF => ?_) (fun ZcB hF => ?_)
  ·refine AWP.seq ?_
   refine ns ?_
   obtain rfl := Zh hF
   refine ns ?_
   refine Exists.intro [] ?_
   refine st ?_
   exact wx (WS.mk (tc Zb) Zc)
  ·refine nw ?_
   obtain ⟨ZGf, hF⟩ := Zv hF
   refine ns ?_
   refine AWL.weak (rn []) ?_ (Zjl c (i_4 + 1) _ hF)
   exact (WS.mk (tc (tc (Zd (Zq (Zc0 (ZcZ ZGf))) Zb))) Zc)
 ·refine nw ?_
  refine AWP.seq ?_
  refine ns ?_
  obtain rfl := Zh hF
  refine ns ?_
  refine Exists.intro [] ?_
  refine st ?_
  exact wx (WS.mk (tc Zb) Zc)

def Zcr (c : Int) : Option (Bool) :=
 Z1 c 0
def Zcr.M (c : Int) (r : Bool) : Prop :=
 Zk Tryz.prog 112 [.c none (.v (.int .u8 c))] [] (fun d b => d = .c none (.v (.bool r)) ∧ b = [])
theorem Zkx (c : Int) (r : Bool) (hF : Zcr c = some r) : Zcr.M c r := by
 unfold Zcr at hF
 unfold Zcr.M
 refine en Tryz.func112 ?_
 refine AWP.seq ?_
 refine ns ?_
 refine AWP.seq ?_
 refine ns ?_
 refine AWP.seq ?_
 refine AWP.seq ?_
 refine ns ?_
 refine AWP.block ?_
 refine AWP.loop ?_
 refine AWL.weak (rn []) ?_ (Zjn c 0 _ hF)
 exact (WS.mk (tc (tc (tc Zb))) Zc)

def ZaA (s : ByteArray) (Zbo : Nat) (i_4 : Nat) : Option (Bool) :=
 if (decide (((i_4 : Nat) : Int) < ((s.size : Nat) : Int))) = true then
 (btI s ((i_4 : Nat) : Int)) >>= fun y68 =>
 Zcr ((y68.toNat : Nat) : Int) >>= fun r69 =>
 if (!r69) = true then
 some false
 else
 (btI s ((i_4 : Nat) : Int)) >>= fun y71 =>
 if (((y71.toNat : Nat) : Int) == 45) = true then
 ZV (Zbo + 1 ≤ 9223372036854775807) >>= fun _ =>
 ZV (i_4 + 1 ≤ 9223372036854775807) >>= fun _ =>
 ZaA s (Zbo + 1) (i_4 + 1)
 else
 ZV (i_4 + 1 ≤ 9223372036854775807) >>= fun _ =>
 ZaA s Zbo (i_4 + 1)
 else
 some ((decide (((Zbo : Nat) : Int) < ((s.size : Nat) : Int))) || (((s.size : Nat) : Int) == 1))
 partial_fixpoint
def ZaA.M (s : ByteArray) (Zbo : Nat) (i_4 : Nat) (r : Bool) : Prop :=
 AWL Tryz.prog 39 (Code.sub (Zr Tryz.f89) [1, 1, 1, 0, 1, 0, 0]) (Code.cont Tryz.prog 39 (Zr Tryz.f89) [1, 1, 1, 0, 1, 0] (ZbV tab Tryz.f89.results (Zb0 (.c none (.v (.bool r))) []))) ⟨[(0, .c none (.v (.string s))), (3, .c none (.v (.int .i64 ((Zbo : Nat) : Int)))), (4, .c none (.v (.int .i64 ((i_4 : Nat) : Int))))], []⟩
theorem ZjZ (s : ByteArray) (Zbo : Nat) (i_4 : Nat) : ∀ r, ZaA s Zbo i_4 = some r → ZaA.M s Zbo i_4 r := by
 refine ZaA.partial_correctness s (fun Zbo i_4 r => ZaA.M s Zbo i_4 r) ?_ Zbo i_4
 intro lazycref01_symbol_l1' Zgj Zbo i_4 r hF
 have ZgQ := fun (_s : ByteArray) (Zbo : Nat) (i_4 : Nat) => Zgj Zbo i_4
 clear Zgj
 unfold ZaA.M
 refine AWL.step ?_
 refine AWP.seq ?_
 refine AWP.seq ?_
 refine ns ?_
 refine nw ?_
 refine Zi hF (fun ZqS hF => ?_) (fun ZqS hF => ?_)
 ·refine nw ?_
  refine AWP.seq ?_
  refine AWP.block ?_
  refine AWP.seq ?_
  refine AWP.seq ?_
  obtain ⟨y68, hy680, ZFx, hF⟩ := ZcL hF
  obtain ⟨r69, ZBy, hF⟩ := bind_some hF
  refine nn ?_
  refine sr ZFx ?_
  refine st ?_
  refine e3 ?_
  refine st ?_
  refine cm (Zk.weak (rn []) (Zkx ((y68.toNat : Nat) : Int) _ ZBy) rfl (WS.mk (tc Zb) Zc)) ?_
  refine st ?_
  refine nw ?_
  refine Zi hF (fun Zza hF => ?_) (fun Zza hF => ?_)
  ·refine AWP.seq ?_
   refine ns ?_
   obtain rfl := Zh hF
   refine ns ?_
   refine Exists.intro [] ?_
   refine st ?_
   exact wx (WS.mk (tc Zb) Zc)
  ·refine nw ?_
   refine AWP.seq ?_
   obtain ⟨y71, hy710, ZGA, hF⟩ := ZcL hF
   refine nn ?_
   refine sr ZGA ?_
   refine st ?_
   refine nw ?_
   refine Zi hF (fun ZCs hF => ?_) (fun ZCs hF => ?_)
   ·obtain ⟨ZF5, hF⟩ := Zv hF
    refine ns ?_
    obtain ⟨ZDa, hF⟩ := Zv hF
    refine ns ?_
    refine AWL.weak (rn []) ?_ (ZgQ s (Zbo + 1) (i_4 + 1) _ hF)
    exact (WS.mk (tc (Zd (Zq (Zc0 (ZcZ ZF5))) (Zd (Zq (Zc0 (ZcZ ZDa))) Zb))) Zc)
   ·refine nw ?_
    obtain ⟨ZCn, hF⟩ := Zv hF
    refine ns ?_
    refine AWL.weak (rn []) ?_ (ZgQ s Zbo (i_4 + 1) _ hF)
    exact (WS.mk (tc (tc (Zd (Zq (Zc0 (ZcZ ZCn))) Zb))) Zc)
 ·refine nw ?_
  refine AWP.seq ?_
  refine AWP.cutN (fun T => ∃ r, WS r T ⟨[(2, .c none (.v (.bool ((decide (((Zbo : Nat) : Int) < ((s.size : Nat) : Int))) || (((s.size : Nat) : Int) == 1)))))], []⟩) ?_ (fun T hw => ?_)
  ·refine ns ?_
   refine Zl false (fun ZDv => ?_) (fun ZDv => ?_)
   ·(conv => whnf)
    refine st ?_
    exact wx (WS.mk (Zd (Zq (web ZDv)) Zb) Zc)
   ·(conv => whnf)
    refine st ?_
    exact wx (WS.mk (Zd (Zq (web ZDv)) Zb) Zc)
  obtain ⟨r0, hw⟩ := hw
  (conv => whnf)
  refine AWP.weak r0 hw ?_
  obtain rfl := Zh hF
  refine ns ?_
  refine Exists.intro [] ?_
  refine st ?_
  exact wx (WS.mk (tc Zb) Zc)

def ZcX (s : ByteArray) : Option (Bool) :=
 if ((decide (((s.size : Nat) : Int) < 1)) || (decide (((s.size : Nat) : Int) > 64))) = true then
 some false
 else
 ZaA s 0 0
def ZcX.M (s : ByteArray) (r : Bool) : Prop :=
 Zk Tryz.prog 89 [.c none (.v (.string s))] [] (fun d b => d = .c none (.v (.bool r)) ∧ b = [])
theorem ZmE (s : ByteArray) (r : Bool) (hF : ZcX s = some r) : ZcX.M s r := by
 unfold ZcX at hF
 unfold ZcX.M
 refine en Tryz.func89 ?_
 refine AWP.seq ?_
 refine ns ?_
 refine AWP.seq ?_
 refine AWP.seq ?_
 refine AWP.cutN (fun T => ∃ r, WS r T ⟨[(0, .c none (.v (.string s))), (12, .c none (.v (.bool ((decide (((s.size : Nat) : Int) < 1)) || (decide (((s.size : Nat) : Int) > 64))))))], []⟩) ?_ (fun T hw => ?_)
 ·refine ns ?_
  refine Zl false (fun hc2 => ?_) (fun hc2 => ?_)
  ·(conv => whnf)
   refine st ?_
   exact wx (WS.mk (tc (Zd (Zq (web hc2)) Zb)) Zc)
  ·(conv => whnf)
   refine st ?_
   exact wx (WS.mk (tc (Zd (Zq (web hc2)) Zb)) Zc)
 obtain ⟨r0, hw⟩ := hw
 (conv => whnf)
 refine AWP.weak r0 hw ?_
 refine nw ?_
 refine Zi hF (fun hc3 hF => ?_) (fun hc3 hF => ?_)
 ·refine AWP.seq ?_
  refine ns ?_
  obtain rfl := Zh hF
  refine ns ?_
  refine Exists.intro [] ?_
  refine st ?_
  exact wx (WS.mk (tc Zb) Zc)
 ·refine nw ?_
  refine AWP.seq ?_
  refine ns ?_
  refine AWP.seq ?_
  refine AWP.seq ?_
  refine ns ?_
  refine AWP.block ?_
  refine AWP.loop ?_
  refine AWL.weak (rn []) ?_ (ZjZ s 0 0 _ hF)
  exact (WS.mk (tc (tc (tc Zb))) Zc)

def Zcl (c : Int) : Option (Bool) :=
 some ((decide (c ≥ 65)) && (decide (c ≤ 90)))
def Zcl.M (c : Int) (r : Bool) : Prop :=
 Zk Tryz.prog 88 [.c none (.v (.int .u8 c))] [] (fun d b => d = .c none (.v (.bool r)) ∧ b = [])
theorem Zf5 (c : Int) (r : Bool) (hF : Zcl c = some r) : Zcl.M c r := by
 unfold Zcl at hF
 unfold Zcl.M
 refine en Tryz.func88 ?_
 refine AWP.seq ?_
 refine ns ?_
 refine AWP.seq ?_
 refine AWP.cutN (fun T => ∃ r, WS r T ⟨[(2, .c none (.v (.bool ((decide (c ≥ 65)) && (decide (c ≤ 90))))))], []⟩) ?_ (fun T hw => ?_)
 ·refine ns ?_
  refine Zl true (fun hc1 => ?_) (fun hc1 => ?_)
  ·(conv => whnf)
   refine st ?_
   exact wx (WS.mk (Zd (Zq (web hc1)) Zb) Zc)
  ·(conv => whnf)
   refine st ?_
   exact wx (WS.mk (Zd (Zq (web hc1)) Zb) Zc)
 obtain ⟨r0, hw⟩ := hw
 (conv => whnf)
 refine AWP.weak r0 hw ?_
 obtain rfl := Zh hF
 refine ns ?_
 refine Exists.intro [] ?_
 refine st ?_
 exact wx (WS.mk (tc Zb) Zc)

def ZcN (c : Int) : Option (Bool) :=
 some (((decide (c ≥ 97)) && (decide (c ≤ 122))) || (c == 95))
def ZcN.M (c : Int) (r : Bool) : Prop :=
 Zk Tryz.prog 111 [.c none (.v (.int .u8 c))] [] (fun d b => d = .c none (.v (.bool r)) ∧ b = [])
theorem Ziq (c : Int) (r : Bool) (hF : ZcN c = some r) : ZcN.M c r := by
 unfold ZcN at hF
 unfold ZcN.M
 refine en Tryz.func111 ?_
 refine AWP.seq ?_
 refine ns ?_
 refine AWP.seq ?_
 refine AWP.cutN (fun T => ∃ r, WS r T ⟨[(2, .c none (.v (.bool (((decide (c ≥ 97)) && (decide (c ≤ 122))) || (c == 95)))))], []⟩) ?_ (fun T hw => ?_)
 ·refine ns ?_
  refine Zl true (fun hc1 => ?_) (fun hc1 => ?_)
  ·(conv => whnf)
   refine st ?_
   refine Zl false (fun hc2 => ?_) (fun hc2 => ?_)
   ·(conv => whnf)
    refine st ?_
    exact wx (WS.mk (Zd (Zq (web (And.intro hc1 hc2))) Zb) Zc)
   ·(conv => whnf)
    refine st ?_
    exact wx (WS.mk (Zd (Zq (web (And.intro hc1 hc2))) Zb) Zc)
  ·(conv => whnf)
   refine st ?_
   exact wx (WS.mk (Zd (Zq (web hc1)) Zb) Zc)
 obtain ⟨r0, hw⟩ := hw
 (conv => whnf)
 refine AWP.weak r0 hw ?_
 obtain rfl := Zh hF
 refine ns ?_
 refine Exists.intro [] ?_
 refine st ?_
 exact wx (WS.mk (tc Zb) Zc)

def ZcR (c : Int) : Option (Bool) :=
 some ((decide (c ≥ 48)) && (decide (c ≤ 57)))
def ZcR.M (c : Int) (r : Bool) : Prop :=
 Zk Tryz.prog 110 [.c none (.v (.int .u8 c))] [] (fun d b => d = .c none (.v (.bool r)) ∧ b = [])
theorem Ziv (c : Int) (r : Bool) (hF : ZcR c = some r) : ZcR.M c r := by
 unfold ZcR at hF
 unfold ZcR.M
 refine en Tryz.func110 ?_
 refine AWP.seq ?_
 refine ns ?_
 refine AWP.seq ?_
 refine AWP.cutN (fun T => ∃ r, WS r T ⟨[(2, .c none (.v (.bool ((decide (c ≥ 48)) && (decide (c ≤ 57))))))], []⟩) ?_ (fun T hw => ?_)
 ·refine ns ?_
  refine Zl true (fun hc1 => ?_) (fun hc1 => ?_)
  ·(conv => whnf)
   refine st ?_
   exact wx (WS.mk (Zd (Zq (web hc1)) Zb) Zc)
  ·(conv => whnf)
   refine st ?_
   exact wx (WS.mk (Zd (Zq (web hc1)) Zb) Zc)
 obtain ⟨r0, hw⟩ := hw
 (conv => whnf)
 refine AWP.weak r0 hw ?_
 obtain rfl := Zh hF
 refine ns ?_
 refine Exists.intro [] ?_
 refine st ?_
 exact wx (WS.mk (tc Zb) Zc)

def Zbl (s : ByteArray) (i_3 : Nat) : Option (Bool) :=
 if (decide (((i_3 : Nat) : Int) < ((s.size : Nat) : Int))) = true then
 (btI s ((i_3 : Nat) : Int)) >>= fun y47 =>
 ZcN ((y47.toNat : Nat) : Int) >>= fun r48 =>
 (if (!r48) = true then (btI s ((i_3 : Nat) : Int)) >>= fun y49 =>
 Zcl ((y49.toNat : Nat) : Int) >>= fun r50 =>
 some (!r50) else some false) >>= fun c51 =>
 (if c51 = true then (btI s ((i_3 : Nat) : Int)) >>= fun y52 =>
 ZcR ((y52.toNat : Nat) : Int) >>= fun r53 =>
 some (!r53) else some false) >>= fun c54 =>
 (if c54 = true then (btI s ((i_3 : Nat) : Int)) >>= fun y55 =>
 some (((y55.toNat : Nat) : Int) != 39) else some false) >>= fun c56 =>
 if c56 = true then
 some false
 else
 ZV (i_3 + 1 ≤ 9223372036854775807) >>= fun _ =>
 Zbl s (i_3 + 1)
 else
 some true
 partial_fixpoint
def Zbl.M (s : ByteArray) (i_3 : Nat) (r : Bool) : Prop :=
 AWL Tryz.prog 55 (Code.sub (Zr Tryz.f86) [1, 1, 0, 1, 0, 0]) (Code.cont Tryz.prog 55 (Zr Tryz.f86) [1, 1, 0, 1, 0] (ZbV tab Tryz.f86.results (Zb0 (.c none (.v (.bool r))) []))) ⟨[(0, .c none (.v (.string s))), (3, .c none (.v (.int .i64 ((i_3 : Nat) : Int))))], []⟩
theorem ZlK (s : ByteArray) (i_3 : Nat) : ∀ r, Zbl s i_3 = some r → Zbl.M s i_3 r := by
 refine Zbl.partial_correctness s (fun i_3 r => Zbl.M s i_3 r) ?_ i_3
 intro lazycref01_word_l1' Zhf i_3 r hF
 have ZlI := fun (_s : ByteArray) (i_3 : Nat) => Zhf i_3
 clear Zhf
 unfold Zbl.M
 refine AWL.step ?_
 refine AWP.seq ?_
 refine AWP.seq ?_
 refine ns ?_
 refine nw ?_
 refine Zi hF (fun ZF3 hF => ?_) (fun ZF3 hF => ?_)
 ·refine nw ?_
  refine AWP.seq ?_
  refine AWP.block ?_
  refine AWP.seq ?_
  obtain ⟨y47, hy470, ZHl, hF⟩ := ZcL hF
  obtain ⟨r48, ZFz, hF⟩ := bind_some hF
  obtain ⟨c51, Zr5, hF⟩ := bind_some hF
  obtain ⟨c54, ZeS, hF⟩ := bind_some hF
  obtain ⟨c56, ZiJ, hF⟩ := bind_some hF
  refine AWP.cutN (fun T => ∃ r, WS r T ⟨[(0, .c none (.v (.string s))), (3, .c none (.v (.int .i64 ((i_3 : Nat) : Int)))), (54, .c none (.v (.bool c56)))], []⟩) ?_ (fun T hw => ?_)
  ·refine nn ?_
   refine sr ZHl ?_
   refine st ?_
   refine e3 ?_
   refine st ?_
   refine cm (Zk.weak (rn []) (Ziq ((y47.toNat : Nat) : Int) _ ZFz) rfl (WS.mk (tc Zb) Zc)) ?_
   refine st ?_
   refine Zl true (fun Zje => ?_) (fun Zje => ?_)
   ·have Zr5 := ift Zje Zr5
    obtain ⟨y49, hy490, ZG9, Zr5⟩ := ZcL Zr5
    obtain ⟨r50, ZFI, Zr5⟩ := bind_some Zr5
    (conv => whnf)
    refine sr ZG9 ?_
    refine st ?_
    refine e3 ?_
    refine st ?_
    refine cm (Zk.weak (rn []) (Zf5 ((y49.toNat : Nat) : Int) _ ZFI) rfl (WS.mk (tc Zb) Zc)) ?_
    refine st ?_
    obtain rfl := Zh Zr5
    refine st ?_
    refine Zl true (fun ZnK => ?_) (fun ZnK => ?_)
    ·have ZeS := ift (And.intro Zje ZnK) ZeS
     obtain ⟨y52, hy520, ZFY, ZeS⟩ := ZcL ZeS
     obtain ⟨r53, Zyk, ZeS⟩ := bind_some ZeS
     (conv => whnf)
     refine sr ZFY ?_
     refine st ?_
     refine e3 ?_
     refine st ?_
     refine cm (Zk.weak (rn []) (Ziv ((y52.toNat : Nat) : Int) _ Zyk) rfl (WS.mk (tc Zb) Zc)) ?_
     refine st ?_
     obtain rfl := Zh ZeS
     refine st ?_
     refine Zl true (fun Zv7 => ?_) (fun Zv7 => ?_)
     ·have ZiJ := ift (And.intro Zje (And.intro ZnK Zv7)) ZiJ
      obtain ⟨y55, hy550, ZFW, ZiJ⟩ := ZcL ZiJ
      (conv => whnf)
      refine sr ZFW ?_
      obtain rfl := Zh ZiJ
      refine st ?_
      exact wx (WS.mk (tc (tc (Zd (Zq (web (And.intro Zje (And.intro ZnK Zv7)))) Zb))) Zc)
     ·have ZiJ := ife (And.intro Zje (And.intro ZnK Zv7)) ZiJ
      (conv => whnf)
      obtain rfl := Zh ZiJ
      refine st ?_
      exact wx (WS.mk (tc (tc (Zd (Zq (web (And.intro Zje (And.intro ZnK Zv7)))) Zb))) Zc)
    ·have ZeS := ife (And.intro Zje ZnK) ZeS
     (conv => whnf)
     obtain rfl := Zh ZeS
     have ZiJ := ife (And.intro Zje ZnK) ZiJ
     obtain rfl := Zh ZiJ
     refine st ?_
     exact wx (WS.mk (tc (tc (Zd (Zq (web (And.intro Zje ZnK))) Zb))) Zc)
   ·have Zr5 := ife Zje Zr5
    (conv => whnf)
    obtain rfl := Zh Zr5
    have ZeS := ife Zje ZeS
    obtain rfl := Zh ZeS
    have ZiJ := ife Zje ZiJ
    obtain rfl := Zh ZiJ
    refine st ?_
    exact wx (WS.mk (tc (tc (Zd (Zq (web Zje)) Zb))) Zc)
  obtain ⟨r0, hw⟩ := hw
  (conv => whnf)
  refine AWP.weak r0 hw ?_
  refine nw ?_
  refine Zi hF (fun ZGQ hF => ?_) (fun ZGQ hF => ?_)
  ·refine AWP.seq ?_
   refine ns ?_
   obtain rfl := Zh hF
   refine ns ?_
   refine Exists.intro [] ?_
   refine st ?_
   exact wx (WS.mk (tc Zb) Zc)
  ·refine nw ?_
   obtain ⟨ZBK, hF⟩ := Zv hF
   refine ns ?_
   refine AWL.weak (rn []) ?_ (ZlI s (i_3 + 1) _ hF)
   exact (WS.mk (tc (Zd (Zq (Zc0 (ZcZ ZBK))) Zb)) Zc)
 ·refine nw ?_
  refine AWP.seq ?_
  refine ns ?_
  obtain rfl := Zh hF
  refine ns ?_
  refine Exists.intro [] ?_
  refine st ?_
  exact wx (WS.mk (tc Zb) Zc)

def Zdp (s : ByteArray) : Option (Bool) :=
 (if ((decide (((s.size : Nat) : Int) < 1)) || (decide (((s.size : Nat) : Int) > 64))) = true then some true else (btI s 0) >>= fun y8 =>
 ZcN ((y8.toNat : Nat) : Int) >>= fun r9 =>
 (if (!r9) = true then (btI s 0) >>= fun y10 =>
 Zcl ((y10.toNat : Nat) : Int) >>= fun r11 =>
 some (!r11) else some false) >>= fun c12 =>
 some c12) >>= fun c13 =>
 if c13 = true then
 some false
 else
 Zbl s 0
def Zdp.M (s : ByteArray) (r : Bool) : Prop :=
 Zk Tryz.prog 86 [.c none (.v (.string s))] [] (fun d b => d = .c none (.v (.bool r)) ∧ b = [])
theorem ZnM (s : ByteArray) (r : Bool) (hF : Zdp s = some r) : Zdp.M s r := by
 unfold Zdp at hF
 unfold Zdp.M
 refine en Tryz.func86 ?_
 refine AWP.seq ?_
 refine ns ?_
 refine AWP.seq ?_
 refine AWP.seq ?_
 obtain ⟨c13, ZcB, hF⟩ := bind_some hF
 refine AWP.cutN (fun T => ∃ r, WS r T ⟨[(0, .c none (.v (.string s))), (23, .c none (.v (.bool c13)))], []⟩) ?_ (fun T hw => ?_)
 ·refine ns ?_
  refine Zl false (fun Zc8 => ?_) (fun Zc8 => ?_)
  ·(conv => whnf)
   have ZcB := ift Zc8 ZcB
   obtain rfl := Zh ZcB
   refine st ?_
   exact wx (WS.mk (tc (Zd (Zq (web Zc8)) Zb)) Zc)
  ·(conv => whnf)
   refine st ?_
   refine Zl false (fun Zff => ?_) (fun Zff => ?_)
   ·have ZcB := ift (And.intro Zc8 Zff) ZcB
    (conv => whnf)
    obtain rfl := Zh ZcB
    refine st ?_
    exact wx (WS.mk (tc (Zd (Zq (web (And.intro Zc8 Zff))) Zb)) Zc)
   ·have ZcB := ife (And.intro Zc8 Zff) ZcB
    obtain ⟨y8, hy80, hy8, ZcB⟩ := ZcL ZcB
    obtain ⟨r9, hr9, ZcB⟩ := bind_some ZcB
    obtain ⟨c12, Zeo, ZcB⟩ := bind_some ZcB
    (conv => whnf)
    refine sr hy8 ?_
    refine st ?_
    refine e3 ?_
    refine st ?_
    refine cm (Zk.weak (rn []) (Ziq ((y8.toNat : Nat) : Int) _ hr9) rfl (WS.mk (tc Zb) Zc)) ?_
    refine st ?_
    refine Zl true (fun ZeJ => ?_) (fun ZeJ => ?_)
    ·have Zeo := ift (And.intro Zc8 (And.intro Zff ZeJ)) Zeo
     obtain ⟨y10, ZEa, ZCT, Zeo⟩ := ZcL Zeo
     obtain ⟨r11, Zvf, Zeo⟩ := bind_some Zeo
     (conv => whnf)
     refine sr ZCT ?_
     refine st ?_
     refine e3 ?_
     refine st ?_
     refine cm (Zk.weak (rn []) (Zf5 ((y10.toNat : Nat) : Int) _ Zvf) rfl (WS.mk (tc Zb) Zc)) ?_
     refine st ?_
     obtain rfl := Zh Zeo
     obtain rfl := Zh ZcB
     refine st ?_
     exact wx (WS.mk (tc (Zd (Zq (web (And.intro Zc8 (And.intro Zff ZeJ)))) Zb)) Zc)
    ·have Zeo := ife (And.intro Zc8 (And.intro Zff ZeJ)) Zeo
     (conv => whnf)
     obtain rfl := Zh Zeo
     obtain rfl := Zh ZcB
     refine st ?_
     exact wx (WS.mk (tc (Zd (Zq (web (And.intro Zc8 (And.intro Zff ZeJ)))) Zb)) Zc)
 obtain ⟨r0, hw⟩ := hw
 (conv => whnf)
 refine AWP.weak r0 hw ?_
 refine nw ?_
 refine Zi hF (fun Zfg hF => ?_) (fun Zfg hF => ?_)
 ·refine AWP.seq ?_
  refine ns ?_
  obtain rfl := Zh hF
  refine ns ?_
  refine Exists.intro [] ?_
  refine st ?_
  exact wx (WS.mk (tc Zb) Zc)
 ·refine nw ?_
  refine AWP.seq ?_
  refine AWP.seq ?_
  refine ns ?_
  refine AWP.block ?_
  refine AWP.loop ?_
  refine AWL.weak (rn []) ?_ (ZlK s 0 _ hF)
  exact (WS.mk (tc (tc Zb)) Zc)

def Zbf (s : ByteArray) : Option (Int) :=
 Zdp s >>= fun r10 =>
 if r10 = true then
 Zco s >>= fun r14 =>
 if r14 = true then
 some 5
 else
 (btI s 0) >>= fun y16 =>
 Zcl ((y16.toNat : Nat) : Int) >>= fun r17 =>
 if r17 = true then
 some 2
 else
 some 1
 else
 ZcX s >>= fun r19 =>
 if r19 = true then
 ZaV s >>= fun r23 =>
 if r23 = true then
 some 6
 else
 (btI s 0) >>= fun y25 =>
 if (((y25.toNat : Nat) : Int) == 58) = true then
 some 4
 else
 some 3
 else
 some 0
def Zbf.M (s : ByteArray) (r : Int) : Prop :=
 Zk Tryz.prog 59 [.c none (.v (.string s))] [] (fun d b => d = .c none (.v (.int .i64 r)) ∧ b = [])
theorem ZdN (s : ByteArray) (r : Int) (hF : Zbf s = some r) : Zbf.M s r := by
 unfold Zbf at hF
 unfold Zbf.M
 refine en Tryz.func59 ?_
 refine AWP.seq ?_
 refine ns ?_
 refine AWP.seq ?_
 refine AWP.seq ?_
 obtain ⟨r10, Zqu, hF⟩ := bind_some hF
 refine ns ?_
 refine e3 ?_
 refine st ?_
 refine cm (Zk.weak (rn []) (ZnM s _ Zqu) rfl (WS.mk (tc Zb) Zc)) ?_
 refine st ?_
 refine nw ?_
 refine Zi hF (fun Zct hF => ?_) (fun Zct hF => ?_)
 ·refine AWP.seq ?_
  refine AWP.seq ?_
  obtain ⟨r14, Zpa, hF⟩ := bind_some hF
  refine ns ?_
  refine e3 ?_
  refine st ?_
  refine cm (Zk.weak (rn []) (ZkA s _ Zpa) rfl (WS.mk (tc Zb) Zc)) ?_
  refine st ?_
  refine nw ?_
  refine Zi hF (fun Zff hF => ?_) (fun Zff hF => ?_)
  ·refine AWP.seq ?_
   refine ns ?_
   obtain rfl := Zh hF
   refine ns ?_
   refine Exists.intro [] ?_
   refine st ?_
   exact wx (WS.mk (tc Zb) Zc)
  ·refine nw ?_
   refine AWP.seq ?_
   refine AWP.seq ?_
   obtain ⟨y16, hy160, ZHH, hF⟩ := ZcL hF
   obtain ⟨r17, ZBE, hF⟩ := bind_some hF
   refine nn ?_
   refine sr ZHH ?_
   refine st ?_
   refine e3 ?_
   refine st ?_
   refine cm (Zk.weak (rn []) (Zf5 ((y16.toNat : Nat) : Int) _ ZBE) rfl (WS.mk (tc Zb) Zc)) ?_
   refine st ?_
   refine nw ?_
   refine Zi hF (fun ZgZ hF => ?_) (fun ZgZ hF => ?_)
   ·refine AWP.seq ?_
    refine ns ?_
    obtain rfl := Zh hF
    refine ns ?_
    refine Exists.intro [] ?_
    refine st ?_
    exact wx (WS.mk (tc Zb) Zc)
   ·refine nw ?_
    refine AWP.seq ?_
    refine ns ?_
    obtain rfl := Zh hF
    refine ns ?_
    refine Exists.intro [] ?_
    refine st ?_
    exact wx (WS.mk (tc Zb) Zc)
 ·refine nw ?_
  refine AWP.seq ?_
  refine AWP.seq ?_
  obtain ⟨r19, ZqJ, hF⟩ := bind_some hF
  refine ns ?_
  refine e3 ?_
  refine st ?_
  refine cm (Zk.weak (rn []) (ZmE s _ ZqJ) rfl (WS.mk (tc Zb) Zc)) ?_
  refine st ?_
  refine nw ?_
  refine Zi hF (fun ZtY hF => ?_) (fun ZtY hF => ?_)
  ·refine AWP.seq ?_
   refine AWP.seq ?_
   obtain ⟨r23, Ztc, hF⟩ := bind_some hF
   refine ns ?_
   refine e3 ?_
   refine st ?_
   refine cm (Zk.weak (rn []) (Zih s _ Ztc) rfl (WS.mk (tc Zb) Zc)) ?_
   refine st ?_
   refine nw ?_
   refine Zi hF (fun Zik hF => ?_) (fun Zik hF => ?_)
   ·refine AWP.seq ?_
    refine ns ?_
    obtain rfl := Zh hF
    refine ns ?_
    refine Exists.intro [] ?_
    refine st ?_
    exact wx (WS.mk (tc Zb) Zc)
   ·refine nw ?_
    refine AWP.seq ?_
    refine AWP.seq ?_
    obtain ⟨y25, hy250, ZGO, hF⟩ := ZcL hF
    refine nn ?_
    refine sr ZGO ?_
    refine st ?_
    refine nw ?_
    refine Zi hF (fun ZfB hF => ?_) (fun ZfB hF => ?_)
    ·refine AWP.seq ?_
     refine ns ?_
     obtain rfl := Zh hF
     refine ns ?_
     refine Exists.intro [] ?_
     refine st ?_
     exact wx (WS.mk (tc Zb) Zc)
    ·refine nw ?_
     refine AWP.seq ?_
     refine ns ?_
     obtain rfl := Zh hF
     refine ns ?_
     refine Exists.intro [] ?_
     refine st ?_
     exact wx (WS.mk (tc Zb) Zc)
  ·refine nw ?_
   refine AWP.seq ?_
   refine ns ?_
   obtain rfl := Zh hF
   refine ns ?_
   refine Exists.intro [] ?_
   refine st ?_
   exact wx (WS.mk (tc Zb) Zc)

def ZcO (s : ByteArray) : Option (Bool) :=
 Zbf s >>= fun r1 =>
 some ((((r1 == 1) || (r1 == 2)) || (r1 == 3)) || (r1 == 4))
def ZcO.M (s : ByteArray) (r : Bool) : Prop :=
 Zk Tryz.prog 109 [.c none (.v (.string s))] [] (fun d b => d = .c none (.v (.bool r)) ∧ b = [])
theorem Zil (s : ByteArray) (r : Bool) (hF : ZcO s = some r) : ZcO.M s r := by
 unfold ZcO at hF
 unfold ZcO.M
 refine en Tryz.func109 ?_
 refine AWP.seq ?_
 refine ns ?_
 refine AWP.seq ?_
 obtain ⟨r1, hr1, hF⟩ := bind_some hF
 refine ns ?_
 refine e3 ?_
 refine st ?_
 refine cm (Zk.weak (rn []) (ZdN s _ hr1) rfl (WS.mk (tc Zb) Zc)) ?_
 refine st ?_
 refine AWP.seq ?_
 refine AWP.cutN (fun T => ∃ r, WS r T ⟨[(2, .c none (.v (.bool ((((r1 == 1) || (r1 == 2)) || (r1 == 3)) || (r1 == 4)))))], []⟩) ?_ (fun T hw => ?_)
 ·refine ns ?_
  refine Zl false (fun hc2 => ?_) (fun hc2 => ?_)
  ·(conv => whnf)
   refine st ?_
   exact wx (WS.mk (Zd (Zq (web hc2)) Zb) Zc)
  ·(conv => whnf)
   refine st ?_
   refine Zl false (fun hc3 => ?_) (fun hc3 => ?_)
   ·(conv => whnf)
    refine st ?_
    exact wx (WS.mk (Zd (Zq (web (And.intro hc2 hc3))) Zb) Zc)
   ·(conv => whnf)
    refine st ?_
    refine Zl false (fun hc4 => ?_) (fun hc4 => ?_)
    ·(conv => whnf)
     refine st ?_
     exact wx (WS.mk (Zd (Zq (web (And.intro hc2 (And.intro hc3 hc4)))) Zb) Zc)
    ·(conv => whnf)
     refine st ?_
     exact wx (WS.mk (Zd (Zq (web (And.intro hc2 (And.intro hc3 hc4)))) Zb) Zc)
 obtain ⟨r0, hw⟩ := hw
 (conv => whnf)
 refine AWP.weak r0 hw ?_
 obtain rfl := Zh hF
 refine ns ?_
 refine Exists.intro [] ?_
 refine st ?_
 exact wx (WS.mk (tc Zb) Zc)

def Zdn (module : ByteArray) (name_ : ByteArray) : Option (ByteArray) :=
 Zbf module >>= fun r5 =>
 (if (r5 != 2) = true then some true else ZcO name_ >>= fun r6 =>
 some (!r6)) >>= fun c7 =>
 if c7 = true then
 some (ByteArray.mk #[])
 else
 ZV (((module.size + (ByteArray.mk #[46]).size : Nat) : Int) ≤ IntKind.i64.max) >>= fun _ =>
 ZV ((((module ++ (ByteArray.mk #[46])).size + name_.size : Nat) : Int) ≤ IntKind.i64.max) >>= fun _ =>
 some ((module ++ (ByteArray.mk #[46])) ++ name_)
def Zdn.M (module : ByteArray) (name_ : ByteArray) (r : ByteArray) : Prop :=
 Zk Tryz.prog 129 [.c none (.v (.string module)), .c none (.v (.string name_))] [] (fun d b => d = .c none (.v (.string r)) ∧ b = [])
theorem ZnZ (module : ByteArray) (name_ : ByteArray) (r : ByteArray) (hF : Zdn module name_ = some r) : Zdn.M module name_ r := by
 unfold Zdn at hF
 unfold Zdn.M
 refine en Tryz.func129 ?_
 refine AWP.seq ?_
 refine ns ?_
 refine AWP.seq ?_
 refine AWP.seq ?_
 obtain ⟨r5, hr5, hF⟩ := bind_some hF
 obtain ⟨c7, hc7, hF⟩ := bind_some hF
 refine AWP.cutN (fun T => ∃ r, WS r T ⟨[(0, .c none (.v (.string module))), (1, .c none (.v (.string name_))), (12, .c none (.v (.bool c7)))], []⟩) ?_ (fun T hw => ?_)
 ·refine ns ?_
  refine e3 ?_
  refine st ?_
  refine cm (Zk.weak (rn []) (ZdN module _ hr5) rfl (WS.mk (tc Zb) Zc)) ?_
  refine st ?_
  refine Zl false (fun hc8 => ?_) (fun hc8 => ?_)
  ·have hc7 := ift hc8 hc7
   (conv => whnf)
   obtain rfl := Zh hc7
   refine st ?_
   exact wx (WS.mk (tc (tc (Zd (Zq (web hc8)) Zb))) Zc)
  ·have hc7 := ife hc8 hc7
   obtain ⟨r6, hr6, hc7⟩ := bind_some hc7
   (conv => whnf)
   refine st ?_
   refine e3 ?_
   refine st ?_
   refine cm (Zk.weak (rn []) (Zil name_ _ hr6) rfl (WS.mk (tc Zb) Zc)) ?_
   refine st ?_
   obtain rfl := Zh hc7
   refine st ?_
   exact wx (WS.mk (tc (tc (Zd (Zq (web hc8)) Zb))) Zc)
 obtain ⟨r0, hw⟩ := hw
 (conv => whnf)
 refine AWP.weak r0 hw ?_
 refine nw ?_
 refine Zi hF (fun hc9 hF => ?_) (fun hc9 hF => ?_)
 ·refine AWP.seq ?_
  refine ns ?_
  obtain rfl := Zh hF
  refine ns ?_
  refine Exists.intro [] ?_
  refine st ?_
  exact wx (WS.mk (tc Zb) Zc)
 ·refine nw ?_
  refine AWP.seq ?_
  obtain ⟨ZyV, hF⟩ := Zv hF
  obtain ⟨ZCv, hF⟩ := Zv hF
  refine ns ?_
  refine And.intro ZyV ?_
  refine st ?_
  refine And.intro ZCv ?_
  refine st ?_
  obtain rfl := Zh hF
  refine ns ?_
  refine Exists.intro [] ?_
  refine st ?_
  exact wx (WS.mk (tc Zb) Zc)

def Za0 (s : ByteArray) (i_5 : Nat) : Option (ByteArray × ByteArray × Bool) :=
 if (decide (((i_5 : Nat) : Int) < ((s.size : Nat) : Int))) = true then
 (btI s ((i_5 : Nat) : Int)) >>= fun y60 =>
 if (((y60.toNat : Nat) : Int) != 46) = true then
 ZV (i_5 + 1 ≤ 9223372036854775807) >>= fun _ =>
 Za0 s (i_5 + 1)
 else
 (slS s ((0 : Nat) : Int) ((i_5 : Nat) : Int)) >>= fun z76 =>
 ZV (i_5 + 1 ≤ 9223372036854775807) >>= fun _ =>
 (slS s (IntKind.i64.wrap (((i_5 : Nat) : Int) + 1)) ((s.size : Nat) : Int)) >>= fun z78 =>
 Zdn z76 z78 >>= fun r79 =>
 if (r79.toList == (ByteArray.mk #[]).toList) = true then
 some ((ByteArray.mk #[]), (ByteArray.mk #[]), false)
 else
 (slS s ((0 : Nat) : Int) ((i_5 : Nat) : Int)) >>= fun z84 =>
 ZV (i_5 + 1 ≤ 9223372036854775807) >>= fun _ =>
 (slS s (IntKind.i64.wrap (((i_5 : Nat) : Int) + 1)) ((s.size : Nat) : Int)) >>= fun z86 =>
 some (z84, z86, true)
 else
 some ((ByteArray.mk #[]), (ByteArray.mk #[]), false)
 partial_fixpoint
def Za0.M (s : ByteArray) (i_5 : Nat) (r : ByteArray × ByteArray × Bool) : Prop :=
 AWL Tryz.prog 32 (Code.sub (Zr Tryz.f108) [1, 0, 1, 0, 0]) (Code.cont Tryz.prog 32 (Zr Tryz.f108) [1, 0, 1, 0] (ZbV tab Tryz.f108.results (Zb0 (.tup [.c (.v (.string r.1)), .c (.v (.string r.2.1)), .c (.v (.bool r.2.2))]) []))) ⟨[(0, .c none (.v (.string s))), (5, .c none (.v (.int .i64 ((i_5 : Nat) : Int))))], []⟩
theorem Zkt (s : ByteArray) (i_5 : Nat) : ∀ r, Za0 s i_5 = some r → Za0.M s i_5 r := by
 refine Za0.partial_correctness s (fun i_5 r => Za0.M s i_5 r) ?_ i_5
 intro lazycref01_Split_l1' ZgI i_5 r hF
 have Zk5 := fun (_s : ByteArray) (i_5 : Nat) => ZgI i_5
 clear ZgI
 unfold Za0.M
 refine AWL.step ?_
 refine AWP.seq ?_
 refine AWP.seq ?_
 refine ns ?_
 refine nw ?_
 refine Zi hF (fun Zje hF => ?_) (fun Zje hF => ?_)
 ·refine nw ?_
  refine AWP.seq ?_
  refine AWP.block ?_
  refine AWP.seq ?_
  refine AWP.seq ?_
  obtain ⟨y60, hy600, ZFL, hF⟩ := ZcL hF
  refine nn ?_
  refine sr ZFL ?_
  refine st ?_
  refine nw ?_
  refine Zi hF (fun ZGK hF => ?_) (fun ZGK hF => ?_)
  ·refine nw ?_
   obtain ⟨ZHk, hF⟩ := Zv hF
   refine ns ?_
   refine AWL.weak (rn []) ?_ (Zk5 s (i_5 + 1) _ hF)
   exact (WS.mk (tc (Zd (Zq (Zc0 (ZcZ ZHk))) Zb)) Zc)
  ·refine nw ?_
   refine AWP.seq ?_
   refine AWP.seq ?_
   obtain ⟨z76, ZDF, ZE0, ZEj, ZHB, hF⟩ := ZfD hF
   obtain ⟨hg77, hF⟩ := Zv hF
   obtain ⟨z78, ZEZ, ZEn, ZE7, ZGY, hF⟩ := ZfD hF
   obtain ⟨r79, ZHw, hF⟩ := bind_some hF
   refine nn ?_
   refine Or.inl (Or.inl (Exists.intro 7 (Exists.intro [[], [], [], [], [], [], []] (Exists.intro [([16, 17, 18, 19, 20, 21, 22], [], []), ([16, 17, 18, 19, 20, 21, 22], [], []), ([18, 19, 20, 21, 22], [], []), ([16, 17, 18, 19, 20, 21, 22], [], []), ([16, 17, 18, 19, 20, 21, 22], [], []), ([16, 17, 18, 19, 21, 22], [], []), ([16, 17, 18, 22], [], [])] (Exists.intro [16, 17, 18, 19, 20, 21, 22] (And.intro (by decide +kernel) ?_))))))
   refine dp ?_
   refine dp ?_
   (refine st ?_; apply Exists.intro; apply Exists.intro; apply And.intro; (focus ((repeat (first | (rw [← ZHB]) | ((conv => whnf); (with_reducible refine And.intro ?_ ?_); (focus (first | exact Eq.refl _ | exact trivial | (with_reducible assumption) | (with_reducible exact Int.natCast_nonneg _) | exact Nat.le_of_ble_eq_true (Eq.refl true) | exact Zdy (Eq.refl _) (Eq.refl _) (Eq.refl _) | decide))) | ((with_reducible refine And.intro ?_ ?_); (focus (first | exact ZDF | exact ZE0 | exact ZEj))))) <;> (exact rfl))); apply And.intro; (focus exact rfl); (conv => whnf))
   refine dp ?_
   refine dp ?_
   refine dp ?_
   (refine st ?_; apply Exists.intro; apply Exists.intro; apply And.intro; (focus ((repeat (first | (rw [← ZGY]) | ((conv => whnf); (with_reducible refine And.intro ?_ ?_); (focus (first | exact Eq.refl _ | exact trivial | (with_reducible assumption) | (with_reducible exact Int.natCast_nonneg _) | exact Nat.le_of_ble_eq_true (Eq.refl true) | exact Zdy (Eq.refl _) (Eq.refl _) (Eq.refl _) | decide))) | ((with_reducible refine And.intro ?_ ?_); (focus (first | exact ZEZ | exact ZEn | exact ZE7))))) <;> (exact rfl))); apply And.intro; (focus exact rfl); (conv => whnf))
   refine st ?_
   refine e3 ?_
   refine st ?_
   refine cm (Zk.weak (rn []) (ZnZ z76 z78 _ ZHw) rfl (WS.mk (tc (tc Zb)) Zc)) ?_
   refine st ?_
   refine nw ?_
   refine Zi hF (fun ZGs hF => ?_) (fun ZGs hF => ?_)
   ·refine AWP.seq ?_
    refine ns ?_
    obtain rfl := Zh hF
    refine ns ?_
    refine Exists.intro [] ?_
    refine st ?_
    exact wx (WS.mk (Zd (Zca (ZbI (WE.refl _) (ZbI (WE.refl _) (ZbI (WE.refl _) Zb8)))) Zb) Zc)
   ·refine nw ?_
    refine AWP.seq ?_
    obtain ⟨z84, ZFm, ZEJ, ZEm, ZHj, hF⟩ := ZfD hF
    obtain ⟨ZDC, hF⟩ := Zv hF
    obtain ⟨z86, ZDK, ZDW, ZEk, ZGX, hF⟩ := ZfD hF
    refine nn ?_
    refine Or.inl (Or.inl (Exists.intro 8 (Exists.intro [[], [], [], [], [], [], [], []] (Exists.intro [([25, 26, 27, 28, 29, 30, 31, 2], [], []), ([25, 26, 27, 28, 29, 30, 31, 2], [], []), ([27, 28, 29, 30, 31, 2], [], []), ([25, 26, 27, 28, 29, 30, 31, 2], [], []), ([25, 26, 27, 28, 29, 30, 31, 2], [], []), ([25, 26, 27, 28, 30, 31, 2], [], []), ([25, 26, 27, 31, 2], [], []), ([28, 29, 30, 31, 2], [], [])] (Exists.intro [25, 26, 27, 28, 29, 30, 31, 2] (And.intro (by decide +kernel) ?_))))))
    refine dp ?_
    refine dp ?_
    (refine st ?_; apply Exists.intro; apply Exists.intro; apply And.intro; (focus ((repeat (first | (rw [← ZHj]) | ((conv => whnf); (with_reducible refine And.intro ?_ ?_); (focus (first | exact Eq.refl _ | exact trivial | (with_reducible assumption) | (with_reducible exact Int.natCast_nonneg _) | exact Nat.le_of_ble_eq_true (Eq.refl true) | exact Zdy (Eq.refl _) (Eq.refl _) (Eq.refl _) | decide))) | ((with_reducible refine And.intro ?_ ?_); (focus (first | exact ZFm | exact ZEJ | exact ZEm))))) <;> (exact rfl))); apply And.intro; (focus exact rfl); (conv => whnf))
    refine dp ?_
    refine dp ?_
    refine dp ?_
    (refine st ?_; apply Exists.intro; apply Exists.intro; apply And.intro; (focus ((repeat (first | (rw [← ZGX]) | ((conv => whnf); (with_reducible refine And.intro ?_ ?_); (focus (first | exact Eq.refl _ | exact trivial | (with_reducible assumption) | (with_reducible exact Int.natCast_nonneg _) | exact Nat.le_of_ble_eq_true (Eq.refl true) | exact Zdy (Eq.refl _) (Eq.refl _) (Eq.refl _) | decide))) | ((with_reducible refine And.intro ?_ ?_); (focus (first | exact ZDK | exact ZDW | exact ZEk))))) <;> (exact rfl))); apply And.intro; (focus exact rfl); (conv => whnf))
    refine dp ?_
    refine st ?_
    obtain rfl := Zh hF
    refine ns ?_
    refine Exists.intro [] ?_
    refine st ?_
    exact wx (WS.mk (Zd (Zca (ZbI (WE.refl _) (ZbI (WE.refl _) (ZbI (WE.refl _) Zb8)))) Zb) Zc)
 ·refine nw ?_
  refine AWP.seq ?_
  refine ns ?_
  obtain rfl := Zh hF
  refine ns ?_
  refine Exists.intro [] ?_
  refine st ?_
  exact wx (WS.mk (Zd (Zca (ZbI (WE.refl _) (ZbI (WE.refl _) (ZbI (WE.refl _) Zb8)))) Zb) Zc)

def ZcK (s : ByteArray) : Option (ByteArray × ByteArray × Bool) :=
 Za0 s 0
def ZcK.M (s : ByteArray) (r : ByteArray × ByteArray × Bool) : Prop :=
 Zk Tryz.prog 108 [.c none (.v (.string s))] [] (fun d b => d = .tup [.c (.v (.string r.1)), .c (.v (.string r.2.1)), .c (.v (.bool r.2.2))] ∧ b = [])
theorem Ziw (s : ByteArray) (r : ByteArray × ByteArray × Bool) (hF : ZcK s = some r) : ZcK.M s r := by
 unfold ZcK at hF
 unfold ZcK.M
 refine en Tryz.func108 ?_
 refine AWP.seq ?_
 refine ns ?_
 refine AWP.seq ?_
 refine AWP.seq ?_
 refine ns ?_
 refine AWP.block ?_
 refine AWP.loop ?_
 refine AWL.weak (rn []) ?_ (Zkt s 0 _ hF)
 exact (WS.mk (tc (tc Zb)) Zc)

def ZcI (s : ByteArray) : Option (Bool) :=
 ZcK s >>= fun r1 =>
 (if r1.2.2 = true then some true else ZcO s >>= fun r2 =>
 some r2) >>= fun c3 =>
 some c3
def ZcI.M (s : ByteArray) (r : Bool) : Prop :=
 Zk Tryz.prog 84 [.c none (.v (.string s))] [] (fun d b => d = .c none (.v (.bool r)) ∧ b = [])
theorem ZiU (s : ByteArray) (r : Bool) (hF : ZcI s = some r) : ZcI.M s r := by
 unfold ZcI at hF
 unfold ZcI.M
 refine en Tryz.func84 ?_
 refine AWP.seq ?_
 refine ns ?_
 refine AWP.seq ?_
 obtain ⟨r1, hr1, hF⟩ := bind_some hF
 refine ns ?_
 refine e3 ?_
 refine st ?_
 refine cm (Zk.weak (rn []) (Ziw s _ hr1) rfl (WS.mk (tc Zb) Zc)) ?_
 refine st ?_
 refine AWP.seq ?_
 obtain ⟨c3, hc3, hF⟩ := bind_some hF
 refine AWP.cutN (fun T => ∃ r, WS r T ⟨[(2, .c none (.v (.bool c3)))], []⟩) ?_ (fun T hw => ?_)
 ·refine ns ?_
  refine Zl false (fun hc4 => ?_) (fun hc4 => ?_)
  ·have hc3 := ift hc4 hc3
   (conv => whnf)
   obtain rfl := Zh hc3
   refine st ?_
   exact wx (WS.mk (Zd (Zq (web hc4)) Zb) Zc)
  ·have hc3 := ife hc4 hc3
   obtain ⟨r2, hr2, hc3⟩ := bind_some hc3
   (conv => whnf)
   refine st ?_
   refine e3 ?_
   refine st ?_
   refine cm (Zk.weak (rn []) (Zil s _ hr2) rfl (WS.mk (tc Zb) Zc)) ?_
   refine st ?_
   obtain rfl := Zh hc3
   refine st ?_
   exact wx (WS.mk (Zd (Zq (web hc4)) Zb) Zc)
 obtain ⟨r0, hw⟩ := hw
 (conv => whnf)
 refine AWP.weak r0 hw ?_
 obtain rfl := Zh hF
 refine ns ?_
 refine Exists.intro [] ?_
 refine st ?_
 exact wx (WS.mk (tc Zb) Zc)

def ZaL (s : ByteArray) (n_4 : Int) (i_5 : Nat) : Option (Int × Bool) :=
 if (decide (((i_5 : Nat) : Int) < ((s.size : Nat) : Int))) = true then
 (btI s ((i_5 : Nat) : Int)) >>= fun y37 =>
 ZcR ((y37.toNat : Nat) : Int) >>= fun r38 =>
 if (!r38) = true then
 some (0, false)
 else
 (btI s ((i_5 : Nat) : Int)) >>= fun y40 =>
 if (decide (n_4 > (IntKind.i64.wrap (Int.tdiv (IntKind.i64.wrap (9223372036854775807 - (IntKind.i64.wrap (IntKind.u8.wrap (((y40.toNat : Nat) : Int) - 48))))) 10)))) = true then
 some (0, false)
 else
 ZV (i_5 + 1 ≤ 9223372036854775807) >>= fun _ =>
 ZaL s (IntKind.i64.wrap ((IntKind.i64.wrap (10 * n_4)) + (IntKind.i64.wrap (IntKind.u8.wrap (((y40.toNat : Nat) : Int) - 48))))) (i_5 + 1)
 else
 some (n_4, true)
 partial_fixpoint
def ZaL.M (s : ByteArray) (n_4 : Int) (i_5 : Nat) (r : Int × Bool) : Prop :=
 AWL Tryz.prog 45 (Code.sub (Zr Tryz.f85) [1, 1, 1, 0, 1, 0, 0]) (Code.cont Tryz.prog 45 (Zr Tryz.f85) [1, 1, 1, 0, 1, 0] (ZbV tab Tryz.f85.results (Zb0 (.tup [.c (.v (.int .i64 r.1)), .c (.v (.bool r.2))]) []))) ⟨[(0, .c none (.v (.string s))), (4, .c none (.v (.int .i64 n_4))), (5, .c none (.v (.int .i64 ((i_5 : Nat) : Int))))], []⟩
theorem Zj4 (s : ByteArray) (n_4 : Int) (i_5 : Nat) : ∀ r, ZaL s n_4 i_5 = some r → ZaL.M s n_4 i_5 r := by
 refine ZaL.partial_correctness s (fun n_4 i_5 r => ZaL.M s n_4 i_5 r) ?_ n_4 i_5
 intro lazycref01_number_l1' Zgn n_4 i_5 r hF
 have Zko := fun (_s : ByteArray) (n_4 : Int) (i_5 : Nat) => Zgn n_4 i_5
 clear Zgn
 unfold ZaL.M
 refine AWL.step ?_
 refine AWP.seq ?_
 refine AWP.seq ?_
 refine ns ?_
 refine nw ?_
 refine Zi hF (fun ZoO hF => ?_) (fun ZoO hF => ?_)
 ·refine nw ?_
  refine AWP.seq ?_
  refine AWP.block ?_
  refine AWP.seq ?_
  refine AWP.seq ?_
  obtain ⟨y37, hy370, ZGR, hF⟩ := ZcL hF
  obtain ⟨r38, ZyS, hF⟩ := bind_some hF
  refine nn ?_
  refine sr ZGR ?_
  refine st ?_
  refine e3 ?_
  refine st ?_
  refine cm (Zk.weak (rn []) (Ziv ((y37.toNat : Nat) : Int) _ ZyS) rfl (WS.mk (tc Zb) Zc)) ?_
  refine st ?_
  refine nw ?_
  refine Zi hF (fun Zjk hF => ?_) (fun Zjk hF => ?_)
  ·refine AWP.seq ?_
   refine ns ?_
   obtain rfl := Zh hF
   refine ns ?_
   refine Exists.intro [] ?_
   refine st ?_
   exact wx (WS.mk (Zd (Zca (ZbI (WE.refl _) (ZbI (WE.refl _) Zb8))) Zb) Zc)
  ·refine nw ?_
   refine AWP.seq ?_
   obtain ⟨y40, hy400, ZEU, hF⟩ := ZcL hF
   refine nn ?_
   refine sr ZEU ?_
   refine st ?_
   refine AWP.seq ?_
   refine AWP.seq ?_
   refine ns ?_
   refine nw ?_
   refine Zi hF (fun Zp3 hF => ?_) (fun Zp3 hF => ?_)
   ·refine AWP.seq ?_
    refine ns ?_
    obtain rfl := Zh hF
    refine ns ?_
    refine Exists.intro [] ?_
    refine st ?_
    exact wx (WS.mk (Zd (Zca (ZbI (WE.refl _) (ZbI (WE.refl _) Zb8))) Zb) Zc)
   ·refine nw ?_
    refine ns ?_
    obtain ⟨ZGx, hF⟩ := Zv hF
    refine ns ?_
    refine AWL.weak (rn []) ?_ (Zko s (IntKind.i64.wrap ((IntKind.i64.wrap (10 * n_4)) + (IntKind.i64.wrap (IntKind.u8.wrap (((y40.toNat : Nat) : Int) - 48))))) (i_5 + 1) _ hF)
    exact (WS.mk (tc (tc (Zd (Zq (Zc0 (ZcZ ZGx))) Zb))) Zc)
 ·refine nw ?_
  refine AWP.seq ?_
  refine ns ?_
  obtain rfl := Zh hF
  refine ns ?_
  refine Exists.intro [] ?_
  refine st ?_
  exact wx (WS.mk (Zd (Zca (ZbI (WE.refl _) (ZbI (WE.refl _) Zb8))) Zb) Zc)

def Zcy (s : ByteArray) : Option (Int × Bool) :=
 (if (s.toList == (ByteArray.mk #[]).toList) = true then some true else (btI s 0) >>= fun y4 =>
 some ((((y4.toNat : Nat) : Int) == 48) && (decide (((s.size : Nat) : Int) > 1)))) >>= fun c5 =>
 if c5 = true then
 some (0, false)
 else
 ZaL s 0 0
def Zcy.M (s : ByteArray) (r : Int × Bool) : Prop :=
 Zk Tryz.prog 85 [.c none (.v (.string s))] [] (fun d b => d = .tup [.c (.v (.int .i64 r.1)), .c (.v (.bool r.2))] ∧ b = [])
theorem ZlR (s : ByteArray) (r : Int × Bool) (hF : Zcy s = some r) : Zcy.M s r := by
 unfold Zcy at hF
 unfold Zcy.M
 refine en Tryz.func85 ?_
 refine AWP.seq ?_
 refine ns ?_
 refine AWP.seq ?_
 refine AWP.seq ?_
 obtain ⟨c5, hc5, hF⟩ := bind_some hF
 refine AWP.cutN (fun T => ∃ r, WS r T ⟨[(0, .c none (.v (.string s))), (18, .c none (.v (.bool c5)))], []⟩) ?_ (fun T hw => ?_)
 ·refine ns ?_
  refine Zl false (fun hc6 => ?_) (fun hc6 => ?_)
  ·have hc5 := ift hc6 hc5
   (conv => whnf)
   obtain rfl := Zh hc5
   refine st ?_
   exact wx (WS.mk (tc (Zd (Zq (web hc6)) Zb)) Zc)
  ·have hc5 := ife hc6 hc5
   obtain ⟨y4, ZEU, hy4, hc5⟩ := ZcL hc5
   (conv => whnf)
   refine sr hy4 ?_
   refine st ?_
   refine Zl true (fun hc7 => ?_) (fun hc7 => ?_)
   ·(conv => whnf)
    obtain rfl := Zh hc5
    refine st ?_
    exact wx (WS.mk (tc (Zd (Zq (web (And.intro hc6 hc7))) Zb)) Zc)
   ·(conv => whnf)
    obtain rfl := Zh hc5
    refine st ?_
    exact wx (WS.mk (tc (Zd (Zq (web (And.intro hc6 hc7))) Zb)) Zc)
 obtain ⟨r0, hw⟩ := hw
 (conv => whnf)
 refine AWP.weak r0 hw ?_
 refine nw ?_
 refine Zi hF (fun hc8 hF => ?_) (fun hc8 hF => ?_)
 ·refine AWP.seq ?_
  refine ns ?_
  obtain rfl := Zh hF
  refine ns ?_
  refine Exists.intro [] ?_
  refine st ?_
  exact wx (WS.mk (Zd (Zca (ZbI (WE.refl _) (ZbI (WE.refl _) Zb8))) Zb) Zc)
 ·refine nw ?_
  refine AWP.seq ?_
  refine ns ?_
  refine AWP.seq ?_
  refine AWP.seq ?_
  refine ns ?_
  refine AWP.block ?_
  refine AWP.loop ?_
  refine AWL.weak (rn []) ?_ (Zj4 s 0 0 _ hF)
  exact (WS.mk (tc (tc (tc Zb))) Zc)

def ZaQ (s : ByteArray) (Zhx : Int) (i_6 : Nat) : Option (ByteArray × Int × Bool) :=
 if (decide (((i_6 : Nat) : Int) < ((s.size : Nat) : Int))) = true then
 (btI s ((i_6 : Nat) : Int)) >>= fun y29 =>
 if (((y29.toNat : Nat) : Int) == 36) = true then
 ZV (i_6 + 1 ≤ 9223372036854775807) >>= fun _ =>
 ZaQ s ((i_6 : Nat) : Int) (i_6 + 1)
 else
 ZV (i_6 + 1 ≤ 9223372036854775807) >>= fun _ =>
 ZaQ s Zhx (i_6 + 1)
 else
 (if (decide (Zhx < 0)) = true then some true else (slS s ((0 : Nat) : Int) Zhx) >>= fun z37 =>
 ZcI z37 >>= fun r38 =>
 some (!r38)) >>= fun c39 =>
 if c39 = true then
 some ((ByteArray.mk #[]), 0, false)
 else
 (slS s (IntKind.i64.wrap (Zhx + 1)) ((s.size : Nat) : Int)) >>= fun z42 =>
 Zcy z42 >>= fun r43 =>
 if (!r43.2) = true then
 some ((ByteArray.mk #[]), 0, false)
 else
 (slS s ((0 : Nat) : Int) Zhx) >>= fun z46 =>
 some (z46, r43.1, true)
 partial_fixpoint
def ZaQ.M (s : ByteArray) (Zhx : Int) (i_6 : Nat) (r : ByteArray × Int × Bool) : Prop :=
 AWL Tryz.prog 43 (Code.sub (Zr Tryz.f58) [1, 1, 0, 1, 0, 0]) (Code.cont Tryz.prog 43 (Zr Tryz.f58) [1, 1, 0, 1, 0] (ZbV tab Tryz.f58.results (Zb0 (.tup [.c (.v (.string r.1)), .c (.v (.int .i64 r.2.1)), .c (.v (.bool r.2.2))]) []))) ⟨[(0, .c none (.v (.string s))), (5, .c none (.v (.int .i64 Zhx))), (6, .c none (.v (.int .i64 ((i_6 : Nat) : Int))))], []⟩
theorem ZlD (s : ByteArray) (Zhx : Int) (i_6 : Nat) : ∀ r, ZaQ s Zhx i_6 = some r → ZaQ.M s Zhx i_6 r := by
 refine ZaQ.partial_correctness s (fun Zhx i_6 r => ZaQ.M s Zhx i_6 r) ?_ Zhx i_6
 intro lazycref01_Base_l1' Zhu Zhx i_6 r hF
 have ZhD := fun (_s : ByteArray) (Zhx : Int) (i_6 : Nat) => Zhu Zhx i_6
 clear Zhu
 unfold ZaQ.M
 refine AWL.step ?_
 refine AWP.seq ?_
 refine AWP.seq ?_
 refine ns ?_
 refine nw ?_
 refine Zi hF (fun Zqw hF => ?_) (fun Zqw hF => ?_)
 ·refine nw ?_
  refine AWP.seq ?_
  refine AWP.block ?_
  refine AWP.seq ?_
  obtain ⟨y29, hy290, ZHv, hF⟩ := ZcL hF
  refine nn ?_
  refine sr ZHv ?_
  refine st ?_
  refine nw ?_
  refine Zi hF (fun Zmt hF => ?_) (fun Zmt hF => ?_)
  ·refine ns ?_
   obtain ⟨ZHf, hF⟩ := Zv hF
   refine ns ?_
   refine AWL.weak (rn []) ?_ (ZhD s ((i_6 : Nat) : Int) (i_6 + 1) _ hF)
   exact (WS.mk (tc (tc (Zd (Zq (Zc0 (ZcZ ZHf))) Zb))) Zc)
  ·refine nw ?_
   obtain ⟨ZCQ, hF⟩ := Zv hF
   refine ns ?_
   refine AWL.weak (rn []) ?_ (ZhD s Zhx (i_6 + 1) _ hF)
   exact (WS.mk (tc (tc (Zd (Zq (Zc0 (ZcZ ZCQ))) Zb))) Zc)
 ·refine nw ?_
  refine AWP.seq ?_
  refine AWP.seq ?_
  obtain ⟨c39, Zjk, hF⟩ := bind_some hF
  refine AWP.cutN (fun T => ∃ r, WS r T ⟨[(0, .c none (.v (.string s))), (5, .c none (.v (.int .i64 Zhx))), (28, .c none (.v (.bool c39)))], []⟩) ?_ (fun T hw => ?_)
  ·refine ns ?_
   refine Zl false (fun Zq3 => ?_) (fun Zq3 => ?_)
   ·have Zjk := ift Zq3 Zjk
    (conv => whnf)
    obtain rfl := Zh Zjk
    refine st ?_
    exact wx (WS.mk (tc (tc (Zd (Zq (web Zq3)) Zb))) Zc)
   ·have Zjk := ife Zq3 Zjk
    obtain ⟨z37, ZEL, ZDH, ZD5, ZHA, Zjk⟩ := ZfD Zjk
    obtain ⟨r38, ZyS, Zjk⟩ := bind_some Zjk
    (conv => whnf)
    refine s3 ZEL ZDH ZD5 ?_
    rw [← ZHA]
    refine st ?_
    refine e3 ?_
    refine st ?_
    refine cm (Zk.weak (rn []) (ZiU z37 _ ZyS) rfl (WS.mk (tc Zb) Zc)) ?_
    refine st ?_
    obtain rfl := Zh Zjk
    refine st ?_
    exact wx (WS.mk (tc (tc (Zd (Zq (web Zq3)) Zb))) Zc)
  obtain ⟨r0, hw⟩ := hw
  (conv => whnf)
  refine AWP.weak r0 hw ?_
  refine nw ?_
  refine Zi hF (fun ZvT hF => ?_) (fun ZvT hF => ?_)
  ·refine AWP.seq ?_
   refine ns ?_
   obtain rfl := Zh hF
   refine ns ?_
   refine Exists.intro [] ?_
   refine st ?_
   exact wx (WS.mk (Zd (Zca (ZbI (WE.refl _) (ZbI (WE.refl _) (ZbI (WE.refl _) Zb8)))) Zb) Zc)
  ·refine nw ?_
   refine AWP.seq ?_
   obtain ⟨z42, ZEx, ZE6, ZE1, ZDq, hF⟩ := ZfD hF
   obtain ⟨r43, ZDu, hF⟩ := bind_some hF
   refine nn ?_
   refine s3 ZEx ZE6 ZE1 ?_
   rw [← ZDq]
   refine st ?_
   refine e3 ?_
   refine st ?_
   refine cm (Zk.weak (rn []) (ZlR z42 _ ZDu) rfl (WS.mk (tc Zb) Zc)) ?_
   refine st ?_
   refine AWP.seq ?_
   refine AWP.seq ?_
   refine ns ?_
   refine nw ?_
   refine Zi hF (fun ZCg hF => ?_) (fun ZCg hF => ?_)
   ·refine AWP.seq ?_
    refine ns ?_
    obtain rfl := Zh hF
    refine ns ?_
    refine Exists.intro [] ?_
    refine st ?_
    exact wx (WS.mk (Zd (Zca (ZbI (WE.refl _) (ZbI (WE.refl _) (ZbI (WE.refl _) Zb8)))) Zb) Zc)
   ·refine nw ?_
    refine AWP.seq ?_
    obtain ⟨z46, ZEs, ZEg, ZEi, ZG2, hF⟩ := ZfD hF
    refine nn ?_
    refine s3 ZEs ZEg ZEi ?_
    rw [← ZG2]
    refine st ?_
    obtain rfl := Zh hF
    refine ns ?_
    refine Exists.intro [] ?_
    refine st ?_
    exact wx (WS.mk (Zd (Zca (ZbI (WE.refl _) (ZbI (WE.refl _) (ZbI (WE.refl _) Zb8)))) Zb) Zc)

def ZcH (s : ByteArray) : Option (ByteArray × Int × Bool) :=
 ZaQ s (-1) 0
def ZcH.M (s : ByteArray) (r : ByteArray × Int × Bool) : Prop :=
 Zk Tryz.prog 58 [.c none (.v (.string s))] [] (fun d b => d = .tup [.c (.v (.string r.1)), .c (.v (.int .i64 r.2.1)), .c (.v (.bool r.2.2))] ∧ b = [])
theorem ZgH (s : ByteArray) (r : ByteArray × Int × Bool) (hF : ZcH s = some r) : ZcH.M s r := by
 unfold ZcH at hF
 unfold ZcH.M
 refine en Tryz.func58 ?_
 refine AWP.seq ?_
 refine ns ?_
 refine AWP.seq ?_
 refine ns ?_
 refine AWP.seq ?_
 refine AWP.seq ?_
 refine ns ?_
 refine AWP.block ?_
 refine AWP.loop ?_
 refine AWL.weak (rn []) ?_ (ZlD s (-1) 0 _ hF)
 exact (WS.mk (tc (tc (tc Zb))) Zc)

def ZdR (base : ByteArray) (n : Int) : Option (ByteArray) :=
 ZcI base >>= fun r3 =>
 if ((!r3) || (decide (n < 0))) = true then
 some (ByteArray.mk #[])
 else
 ZV (((base.size + (ByteArray.mk #[36]).size : Nat) : Int) ≤ IntKind.i64.max) >>= fun _ =>
 strconv_Itoa n >>= fun r7 =>
 ZV ((((base ++ (ByteArray.mk #[36])).size + r7.size : Nat) : Int) ≤ IntKind.i64.max) >>= fun _ =>
 some ((base ++ (ByteArray.mk #[36])) ++ r7)
def ZdR.M (base : ByteArray) (n : Int) (r : ByteArray) : Prop :=
 Zk Tryz.prog 91 [.c none (.v (.string base)), .c none (.v (.int .i64 n))] [] (fun d b => d = .c none (.v (.string r)) ∧ b = [])
theorem Zjb (base : ByteArray) (n : Int) (r : ByteArray) (hF : ZdR base n = some r) : ZdR.M base n r := by
 unfold ZdR at hF
 unfold ZdR.M
 refine en Tryz.func91 ?_
 refine AWP.seq ?_
 refine ns ?_
 refine AWP.seq ?_
 refine AWP.seq ?_
 obtain ⟨r3, hr3, hF⟩ := bind_some hF
 refine AWP.cutN (fun T => ∃ r, WS r T ⟨[(0, .c none (.v (.string base))), (1, .c none (.v (.int .i64 n))), (11, .c none (.v (.bool ((!r3) || (decide (n < 0))))))], []⟩) ?_ (fun T hw => ?_)
 ·refine ns ?_
  refine e3 ?_
  refine st ?_
  refine cm (Zk.weak (rn []) (ZiU base _ hr3) rfl (WS.mk (tc Zb) Zc)) ?_
  refine st ?_
  refine Zl false (fun hc4 => ?_) (fun hc4 => ?_)
  ·(conv => whnf)
   refine st ?_
   exact wx (WS.mk (tc (tc (Zd (Zq (web hc4)) Zb))) Zc)
  ·(conv => whnf)
   refine st ?_
   exact wx (WS.mk (tc (tc (Zd (Zq (web hc4)) Zb))) Zc)
 obtain ⟨r0, hw⟩ := hw
 (conv => whnf)
 refine AWP.weak r0 hw ?_
 refine nw ?_
 refine Zi hF (fun hc5 hF => ?_) (fun hc5 hF => ?_)
 ·refine AWP.seq ?_
  refine ns ?_
  obtain rfl := Zh hF
  refine ns ?_
  refine Exists.intro [] ?_
  refine st ?_
  exact wx (WS.mk (tc Zb) Zc)
 ·refine nw ?_
  refine AWP.seq ?_
  obtain ⟨hg6, hF⟩ := Zv hF
  obtain ⟨r7, hr7, hF⟩ := bind_some hF
  obtain ⟨hg8, hF⟩ := Zv hF
  refine ns ?_
  refine And.intro hg6 ?_
  refine st ?_
  refine e3 ?_
  refine st ?_
  refine cm (Zk.weak (rn []) (Zlq n _ hr7) rfl (WS.mk (tc Zb) Zc)) ?_
  refine st ?_
  refine And.intro hg8 ?_
  refine st ?_
  obtain rfl := Zh hF
  refine ns ?_
  refine Exists.intro [] ?_
  refine st ?_
  exact wx (WS.mk (tc Zb) Zc)

mutual
def Zb3 (t : Za) : Option (Int) :=
 ZcY 0 t 0 t.fKids
 partial_fixpoint
def ZcY (n_3 : Int) (t : Za) (x_9 : Nat) (Zce : (List Za)) : Option (Int) :=
 (match Zce with
 | x11 :: ZkM =>
 Zb3 x11 >>= fun r14 =>
 ZcY (if r14 > n_3 then r14 else n_3) t (x_9 + 1) ZkM
 | [] =>
 some (IntKind.i64.wrap (n_3 + 1)))
 partial_fixpoint
end
def Zb3.M (t : Za) (r : Int) : Prop :=
 Zk Tryz.prog 77 [.agg [.v (.int .i64 t.fOp), .v (.string t.fName), .sl (t.fBound.fArgs.map Zj.cells), .sl (t.fKids.map Za.cells)]] [] (fun d b => d = .c none (.v (.int .i64 r)) ∧ b = [])
def ZcY.M (n_3 : Int) (t : Za) (x_9 : Nat) (Zce : (List Za)) (r : Int) : Prop :=
 ∀ Zdb : List Za, t.fKids = Zdb ++ Zce → x_9 = Zdb.length → t.fKids.length ≤ maxLen → AWL Tryz.prog 20 (Code.sub (Zr Tryz.f77) [1, 1, 0, 1, 0, 0]) (Code.cont Tryz.prog 20 (Zr Tryz.f77) [1, 1, 0, 1, 0] (ZbV tab Tryz.f77.results (Zb0 (.c none (.v (.int .i64 r))) []))) ⟨[(3, .c none (.v (.int .i64 n_3))), (7, .c none (.sl (t.fKids.map Za.cells))), (8, .c none (.v (.int .i64 ((t.fKids.length : Nat) : Int)))), (9, .c none (.v (.int .i64 ((x_9 : Nat) : Int))))], []⟩
theorem ZpT : (∀ (t : Za), ∀ r, Zb3 t = some r → Zb3.M t r) ∧ (∀ (n_3 : Int) (t : Za) (x_9 : Nat) (Zce : (List Za)), ∀ r, ZcY n_3 t x_9 Zce = some r → ZcY.M n_3 t x_9 Zce r) := by
 refine Zb3.mutual_partial_correctness Zb3.M ZcY.M ?_ ?_
 ·intro types_Depth_l1' Zg3 t r hF
  unfold Zb3.M
  refine en Tryz.func77 ?_
  refine AWP.seq ?_
  refine ns ?_
  refine AWP.seq ?_
  refine ns ?_
  refine AWP.seq ?_
  refine AWP.seq ?_
  refine ns ?_
  intro hlen1
  (try rw [List.length_map] at hlen1)
  (try rw [List.length_map])
  refine st ?_
  refine AWP.block ?_
  refine AWP.loop ?_
  refine AWL.weak (rn []) ?_ (Zg3 0 t 0 t.fKids _ hF ([]) rfl rfl hlen1)
  exact (WS.mk (tc (tc (tc (tc Zb)))) Zc)
 ·intro types_Depth' types_Depth_l1' Zrf Zg3 n_3 t x_9 Zce r hF
  unfold ZcY.M
  intro Zdb Zhi Zhv hlen1
  refine AWL.step ?_
  refine AWP.seq ?_
  refine ns ?_
  refine AWP.seq ?_
  refine nw ?_
  refine ZF Zhi Zhv (fun x11 ZkM ZkR Zq2 ZtH => ?_) (fun ZkR => ?_)
  ·subst ZkR
   refine nw ?_
   refine AWP.seq ?_
   refine AWP.block ?_
   refine AWP.seq ?_
   refine nn ?_
   refine sr (ZX (f := Za.cells) (Za.cells_eq x11) Zq2) ?_
   refine st ?_
   obtain ⟨r14, Zpa, hF⟩ := bind_some hF
   refine ns ?_
   refine e3 ?_
   refine st ?_
   refine cm (Zk.weak (rn []) (Zrf x11 _ Zpa) rfl (WS.mk (Zd (Zp (lc (lc (lc (lc Zn))))) Zb) Zc)) ?_
   refine st ?_
   refine ns ?_
   refine AWL.weak (rn []) ?_ (Zg3 (if r14 > n_3 then r14 else n_3) t (x_9 + 1) ZkM _ hF (Zdb ++ [x11]) (by rw [Zhi]; simp) (by rw [Zhv]; simp) hlen1)
   exact (WS.mk (tc (tc (tc (Zd (Zq (Zc0 (ZP hlen1 ZtH))) Zb)))) Zc)
  ·subst ZkR
   refine nw ?_
   refine AWP.seq ?_
   refine ns ?_
   obtain rfl := Zh hF
   refine ns ?_
   refine Exists.intro [] ?_
   refine st ?_
   exact wx (WS.mk (tc Zb) Zc)
theorem Zmh : ∀ (t : Za), ∀ r, Zb3 t = some r → Zb3.M t r := ZpT.1

mutual
def Zcv (t : Za) : Option (Int) :=
 Zdf 1 t 0 t.fKids
 partial_fixpoint
def Zdf (n_3 : Int) (t : Za) (x_9 : Nat) (Zce : (List Za)) : Option (Int) :=
 (match Zce with
 | x11 :: ZkM =>
 Zcv x11 >>= fun r14 =>
 Zdf (IntKind.i64.wrap (n_3 + r14)) t (x_9 + 1) ZkM
 | [] =>
 some n_3)
 partial_fixpoint
end
def Zcv.M (t : Za) (r : Int) : Prop :=
 Zk Tryz.prog 74 [.agg [.v (.int .i64 t.fOp), .v (.string t.fName), .sl (t.fBound.fArgs.map Zj.cells), .sl (t.fKids.map Za.cells)]] [] (fun d b => d = .c none (.v (.int .i64 r)) ∧ b = [])
def Zdf.M (n_3 : Int) (t : Za) (x_9 : Nat) (Zce : (List Za)) (r : Int) : Prop :=
 ∀ Zdb : List Za, t.fKids = Zdb ++ Zce → x_9 = Zdb.length → t.fKids.length ≤ maxLen → AWL Tryz.prog 19 (Code.sub (Zr Tryz.f74) [1, 1, 0, 1, 0, 0]) (Code.cont Tryz.prog 19 (Zr Tryz.f74) [1, 1, 0, 1, 0] (ZbV tab Tryz.f74.results (Zb0 (.c none (.v (.int .i64 r))) []))) ⟨[(3, .c none (.v (.int .i64 n_3))), (7, .c none (.sl (t.fKids.map Za.cells))), (8, .c none (.v (.int .i64 ((t.fKids.length : Nat) : Int)))), (9, .c none (.v (.int .i64 ((x_9 : Nat) : Int))))], []⟩
theorem Zrt : (∀ (t : Za), ∀ r, Zcv t = some r → Zcv.M t r) ∧ (∀ (n_3 : Int) (t : Za) (x_9 : Nat) (Zce : (List Za)), ∀ r, Zdf n_3 t x_9 Zce = some r → Zdf.M n_3 t x_9 Zce r) := by
 refine Zcv.mutual_partial_correctness Zcv.M Zdf.M ?_ ?_
 ·intro types_Size_l1' ZhQ t r hF
  unfold Zcv.M
  refine en Tryz.func74 ?_
  refine AWP.seq ?_
  refine ns ?_
  refine AWP.seq ?_
  refine ns ?_
  refine AWP.seq ?_
  refine AWP.seq ?_
  refine ns ?_
  intro hlen1
  (try rw [List.length_map] at hlen1)
  (try rw [List.length_map])
  refine st ?_
  refine AWP.block ?_
  refine AWP.loop ?_
  refine AWL.weak (rn []) ?_ (ZhQ 1 t 0 t.fKids _ hF ([]) rfl rfl hlen1)
  exact (WS.mk (tc (tc (tc (tc Zb)))) Zc)
 ·intro types_Size' types_Size_l1' ZrX ZhQ n_3 t x_9 Zce r hF
  unfold Zdf.M
  intro Zdb Zhi Zhv hlen1
  refine AWL.step ?_
  refine AWP.seq ?_
  refine ns ?_
  refine AWP.seq ?_
  refine nw ?_
  refine ZF Zhi Zhv (fun x11 ZkM ZkR Zq2 ZtH => ?_) (fun ZkR => ?_)
  ·subst ZkR
   refine nw ?_
   refine AWP.seq ?_
   refine AWP.block ?_
   refine AWP.seq ?_
   refine nn ?_
   refine sr (ZX (f := Za.cells) (Za.cells_eq x11) Zq2) ?_
   refine st ?_
   obtain ⟨r14, Zpa, hF⟩ := bind_some hF
   refine ns ?_
   refine e3 ?_
   refine st ?_
   refine cm (Zk.weak (rn []) (ZrX x11 _ Zpa) rfl (WS.mk (Zd (Zp (lc (lc (lc (lc Zn))))) Zb) Zc)) ?_
   refine st ?_
   refine ns ?_
   refine AWL.weak (rn []) ?_ (ZhQ (IntKind.i64.wrap (n_3 + r14)) t (x_9 + 1) ZkM _ hF (Zdb ++ [x11]) (by rw [Zhi]; simp) (by rw [Zhv]; simp) hlen1)
   exact (WS.mk (tc (tc (tc (Zd (Zq (Zc0 (ZP hlen1 ZtH))) Zb)))) Zc)
  ·subst ZkR
   refine nw ?_
   refine AWP.seq ?_
   refine ns ?_
   obtain rfl := Zh hF
   refine ns ?_
   refine Exists.intro [] ?_
   refine st ?_
   exact wx (WS.mk (tc Zb) Zc)
theorem Znp : ∀ (t : Za), ∀ r, Zcv t = some r → Zcv.M t r := Zrt.1

def ZbW (z18 : ByteArray) (ZfG : Nat) : Option (Bool) :=
 if (decide (ZfG < z18.size)) = true then
 if ((((Utf8.decode z18 ZfG).1 : Nat) : Int) != 44) = true then
 some false
 else
 ZbW z18 (ZfG + (Utf8.decode z18 ZfG).2)
 else
 some true
 partial_fixpoint
def ZbW.M (z18 : ByteArray) (ZfG : Nat) (r : Bool) : Prop :=
 AWL Tryz.prog 46 (Code.sub (Zr Tryz.f102) [1, 1, 1, 1, 0, 1, 0, 0]) (Code.cont Tryz.prog 46 (Zr Tryz.f102) [1, 1, 1, 1, 0, 1, 0] (ZbV tab Tryz.f102.results (Zb0 (.c none (.v (.bool r))) []))) ⟨[(40, .ptr 40 0)], [(40, [(none, ZsP z18 ((ZfG : Nat) : Int))])]⟩
theorem Zm0 (z18 : ByteArray) (ZfG : Nat) : ∀ r, ZbW z18 ZfG = some r → ZbW.M z18 ZfG r := by
 refine ZbW.partial_correctness z18 (fun ZfG r => ZbW.M z18 ZfG r) ?_ ZfG
 intro types_builtin_l1' Zia ZfG r hF
 have Znd := fun (_z18 : ByteArray) (ZfG : Nat) => Zia ZfG
 clear Zia
 unfold ZbW.M
 refine AWL.step ?_
 refine AWP.seq ?_
 refine nn ?_
 (repeat ((conv => whnf); (with_reducible refine And.intro ?_ ?_); (focus (first | (with_reducible exact Zx5) | exact Eq.refl _ | exact Nat.le_of_ble_eq_true (Eq.refl true) | decide)))); (conv => whnf)
 refine Zi hF (fun Zkb hF => ?_) (fun Zkb hF => ?_)
 ·refine st ?_
  refine AWP.seq ?_
  refine nw ?_
  refine nw ?_
  refine AWP.block ?_
  refine AWP.seq ?_
  refine ns ?_
  refine AWP.seq ?_
  refine ns ?_
  refine nw ?_
  refine Zi hF (fun Zjq hF => ?_) (fun Zjq hF => ?_)
  ·refine AWP.seq ?_
   refine ns ?_
   obtain rfl := Zh hF
   refine ns ?_
   refine Exists.intro [] ?_
   refine st ?_
   exact wx (WS.mk (tc Zb) Zc)
  ·refine nw ?_
   refine AWL.weak (rn []) ?_ (Znd z18 (ZfG + (Utf8.decode z18 ZfG).2) _ hF)
   exact (WS.mk (tp Zb) (Zf rfl (cc Zg) Zc))
 ·refine st ?_
  refine AWP.seq ?_
  refine nw ?_
  refine nw ?_
  refine AWP.seq ?_
  refine ns ?_
  obtain rfl := Zh hF
  refine ns ?_
  refine Exists.intro [] ?_
  refine st ?_
  exact wx (WS.mk (tc Zb) Zc)

def Zea (s : ByteArray) : Option (Bool) :=
 if (((s.toList == (ByteArray.mk #[45, 62]).toList) || (s.toList == (ByteArray.mk #[91, 93]).toList)) || (s.toList == (ByteArray.mk #[40, 41]).toList)) = true then
 some true
 else
 (if ((decide (((s.size : Nat) : Int) < 3)) || (decide (((s.size : Nat) : Int) > 8))) = true then some true else (btI s 0) >>= fun y10 =>
 some (((y10.toNat : Nat) : Int) != 40)) >>= fun c11 =>
 (if c11 = true then some true else (btI s (IntKind.i64.wrap (((s.size : Nat) : Int) - 1))) >>= fun y12 =>
 some (((y12.toNat : Nat) : Int) != 41)) >>= fun c13 =>
 if c13 = true then
 some false
 else
 (slS s 1 (IntKind.i64.wrap (((s.size : Nat) : Int) - 1))) >>= fun z18 =>
 ZbW z18 0
def Zea.M (s : ByteArray) (r : Bool) : Prop :=
 Zk Tryz.prog 102 [.c none (.v (.string s))] [] (fun d b => d = .c none (.v (.bool r)) ∧ b = [])
theorem Zpe (s : ByteArray) (r : Bool) (hF : Zea s = some r) : Zea.M s r := by
 unfold Zea at hF
 unfold Zea.M
 refine en Tryz.func102 ?_
 refine AWP.seq ?_
 refine ns ?_
 refine AWP.seq ?_
 refine AWP.seq ?_
 refine AWP.cutN (fun T => ∃ r, WS r T ⟨[(0, .c none (.v (.string s))), (15, .c none (.v (.bool (((s.toList == (ByteArray.mk #[45, 62]).toList) || (s.toList == (ByteArray.mk #[91, 93]).toList)) || (s.toList == (ByteArray.mk #[40, 41]).toList)))))], []⟩) ?_ (fun T hw => ?_)
 ·refine ns ?_
  refine Zl false (fun hc2 => ?_) (fun hc2 => ?_)
  ·(conv => whnf)
   refine st ?_
   exact wx (WS.mk (tc (Zd (Zq (web hc2)) Zb)) Zc)
  ·(conv => whnf)
   refine st ?_
   refine Zl false (fun hc3 => ?_) (fun hc3 => ?_)
   ·(conv => whnf)
    refine st ?_
    exact wx (WS.mk (tc (Zd (Zq (web (And.intro hc2 hc3))) Zb)) Zc)
   ·(conv => whnf)
    refine st ?_
    exact wx (WS.mk (tc (Zd (Zq (web (And.intro hc2 hc3))) Zb)) Zc)
 obtain ⟨r0, hw⟩ := hw
 (conv => whnf)
 refine AWP.weak r0 hw ?_
 refine nw ?_
 refine Zi hF (fun hc4 hF => ?_) (fun hc4 hF => ?_)
 ·refine AWP.seq ?_
  refine ns ?_
  obtain rfl := Zh hF
  refine ns ?_
  refine Exists.intro [] ?_
  refine st ?_
  exact wx (WS.mk (tc Zb) Zc)
 ·refine nw ?_
  refine AWP.seq ?_
  refine ns ?_
  refine AWP.seq ?_
  refine AWP.seq ?_
  obtain ⟨c11, Zct, hF⟩ := bind_some hF
  obtain ⟨c13, ZcB, hF⟩ := bind_some hF
  refine AWP.cutN (fun T => ∃ r, WS r T ⟨[(0, .c none (.v (.string s))), (3, .c none (.v (.int .i64 ((s.size : Nat) : Int)))), (35, .c none (.v (.bool c13)))], []⟩) ?_ (fun T hw => ?_)
  ·refine ns ?_
   refine Zl false (fun Zc8 => ?_) (fun Zc8 => ?_)
   ·(conv => whnf)
    have Zct := ift Zc8 Zct
    obtain rfl := Zh Zct
    have ZcB := ift Zc8 ZcB
    obtain rfl := Zh ZcB
    refine st ?_
    exact wx (WS.mk (tc (tc (Zd (Zq (web Zc8)) Zb))) Zc)
   ·(conv => whnf)
    refine st ?_
    refine Zl false (fun Zff => ?_) (fun Zff => ?_)
    ·have Zct := ift (And.intro Zc8 Zff) Zct
     (conv => whnf)
     obtain rfl := Zh Zct
     have ZcB := ift (And.intro Zc8 Zff) ZcB
     obtain rfl := Zh ZcB
     refine st ?_
     exact wx (WS.mk (tc (tc (Zd (Zq (web (And.intro Zc8 Zff))) Zb))) Zc)
    ·have Zct := ife (And.intro Zc8 Zff) Zct
     obtain ⟨y10, ZEa, ZCT, Zct⟩ := ZcL Zct
     (conv => whnf)
     refine sr ZCT ?_
     obtain rfl := Zh Zct
     refine st ?_
     refine Zl false (fun ZeJ => ?_) (fun ZeJ => ?_)
     ·have ZcB := ift (And.intro Zc8 (And.intro Zff ZeJ)) ZcB
      (conv => whnf)
      obtain rfl := Zh ZcB
      refine st ?_
      exact wx (WS.mk (tc (tc (Zd (Zq (web (And.intro Zc8 (And.intro Zff ZeJ)))) Zb))) Zc)
     ·have ZcB := ife (And.intro Zc8 (And.intro Zff ZeJ)) ZcB
      obtain ⟨y12, ZEh, ZCD, ZcB⟩ := ZcL ZcB
      (conv => whnf)
      refine sr ZCD ?_
      obtain rfl := Zh ZcB
      refine st ?_
      exact wx (WS.mk (tc (tc (Zd (Zq (web (And.intro Zc8 (And.intro Zff ZeJ)))) Zb))) Zc)
  obtain ⟨r0, hw⟩ := hw
  (conv => whnf)
  refine AWP.weak r0 hw ?_
  refine nw ?_
  refine Zi hF (fun Zfg hF => ?_) (fun Zfg hF => ?_)
  ·refine AWP.seq ?_
   refine ns ?_
   obtain rfl := Zh hF
   refine ns ?_
   refine Exists.intro [] ?_
   refine st ?_
   exact wx (WS.mk (tc Zb) Zc)
  ·refine nw ?_
   refine AWP.seq ?_
   refine AWP.seq ?_
   obtain ⟨z18, ZEV, ZE8, ZDD, ZF2, hF⟩ := ZfD hF
   refine nn ?_
   refine s3 ZEV ZE8 ZDD ?_
   rw [← ZF2]
   (repeat ((conv => whnf); (with_reducible refine And.intro ?_ ?_); (focus (first | (with_reducible exact Zx5) | exact Eq.refl _ | exact Nat.le_of_ble_eq_true (Eq.refl true) | decide)))); (conv => whnf)
   refine st ?_
   refine AWP.block ?_
   refine AWP.loop ?_
   refine AWL.weak (rn []) ?_ (Zm0 z18 0 _ hF)
   exact (WS.mk (tp Zb) (Zf rfl (cc Zg) Zc))

def ZcJ (s_0 : ByteArray) : Option (Bool) :=
 Zc3 s_0 >>= fun r5 =>
 some ((r5 == 2) || (r5 == 4))
def ZcJ.M (s_0 : ByteArray) (r : Bool) : Prop :=
 AWP Tryz.prog 34 (Code.sub (Zr Tryz.f103) [1, 1, 1]) (Code.cont Tryz.prog 34 (Zr Tryz.f103) [1, 1, 1] (ZbV tab Tryz.f103.results (Zb0 (.c none (.v (.bool r))) []))) ⟨[(0, .c none (.v (.string s_0)))], []⟩
theorem Ziu (s_0 : ByteArray) (r : Bool) (hF : ZcJ s_0 = some r) : ZcJ.M s_0 r := by
 unfold ZcJ at hF
 unfold ZcJ.M
 refine AWP.seq ?_
 obtain ⟨r5, hr5, hF⟩ := bind_some hF
 refine ns ?_
 refine e3 ?_
 refine st ?_
 refine cm (Zk.weak (rn []) (Zg6 s_0 _ hr5) rfl (WS.mk (tc Zb) Zc)) ?_
 refine st ?_
 refine AWP.seq ?_
 refine AWP.cutN (fun T => ∃ r, WS r T ⟨[(2, .c none (.v (.bool ((r5 == 2) || (r5 == 4)))))], []⟩) ?_ (fun T hw => ?_)
 ·refine ns ?_
  refine Zl false (fun hc6 => ?_) (fun hc6 => ?_)
  ·(conv => whnf)
   refine st ?_
   exact wx (WS.mk (Zd (Zq (web hc6)) Zb) Zc)
  ·(conv => whnf)
   refine st ?_
   exact wx (WS.mk (Zd (Zq (web hc6)) Zb) Zc)
 obtain ⟨r0, hw⟩ := hw
 (conv => whnf)
 refine AWP.weak r0 hw ?_
 obtain rfl := Zh hF
 refine ns ?_
 refine Exists.intro [] ?_
 refine st ?_
 exact wx (WS.mk (tc Zb) Zc)

def ZcM (s_0 : ByteArray) : Option (Bool) :=
 Zey s_0 >>= fun r7 =>
 if r7.2.2 = true then
 ZcJ r7.2.1
 else
 ZcJ s_0
def ZcM.M (s_0 : ByteArray) (r : Bool) : Prop :=
 AWP Tryz.prog 34 (Code.sub (Zr Tryz.f103) [1, 1]) (Code.cont Tryz.prog 34 (Zr Tryz.f103) [1, 1] (ZbV tab Tryz.f103.results (Zb0 (.c none (.v (.bool r))) []))) ⟨[(0, .c none (.v (.string s_0)))], []⟩
theorem Zim (s_0 : ByteArray) (r : Bool) (hF : ZcM s_0 = some r) : ZcM.M s_0 r := by
 unfold ZcM at hF
 unfold ZcM.M
 refine AWP.seq ?_
 refine AWP.seq ?_
 obtain ⟨r7, hr7, hF⟩ := bind_some hF
 refine ns ?_
 refine e3 ?_
 refine st ?_
 refine cm (Zk.weak (rn []) (Zmc s_0 _ hr7) rfl (WS.mk (tc Zb) Zc)) ?_
 refine st ?_
 refine AWP.seq ?_
 refine ns ?_
 refine nw ?_
 refine Zi hF (fun hc8 hF => ?_) (fun hc8 hF => ?_)
 ·refine ns ?_
  refine AWP.weak (rn []) ?_ (Ziu r7.2.1 _ hF)
  exact (WS.mk (tc Zb) Zc)
 ·refine nw ?_
  refine AWP.weak (rn []) ?_ (Ziu s_0 _ hF)
  exact (WS.mk (tc Zb) Zc)

def Zd9 (s : ByteArray) : Option (Bool) :=
 ZeG s >>= fun r9 =>
 if r9.2.2 = true then
 ZcM r9.1
 else
 ZcM s
def Zd9.M (s : ByteArray) (r : Bool) : Prop :=
 Zk Tryz.prog 103 [.c none (.v (.string s))] [] (fun d b => d = .c none (.v (.bool r)) ∧ b = [])
theorem Zpf (s : ByteArray) (r : Bool) (hF : Zd9 s = some r) : Zd9.M s r := by
 unfold Zd9 at hF
 unfold Zd9.M
 refine en Tryz.func103 ?_
 refine AWP.seq ?_
 refine ns ?_
 refine AWP.seq ?_
 refine AWP.seq ?_
 obtain ⟨r9, hr9, hF⟩ := bind_some hF
 refine ns ?_
 refine e3 ?_
 refine st ?_
 refine cm (Zk.weak (rn []) (ZjU s _ hr9) rfl (WS.mk (tc Zb) Zc)) ?_
 refine st ?_
 refine AWP.seq ?_
 refine ns ?_
 refine nw ?_
 refine Zi hF (fun ZeW hF => ?_) (fun ZeW hF => ?_)
 ·refine ns ?_
  refine AWP.weak (rn []) ?_ (Zim r9.1 _ hF)
  exact (WS.mk (tc Zb) Zc)
 ·refine nw ?_
  refine AWP.weak (rn []) ?_ (Zim s _ hF)
  exact (WS.mk (tc Zb) Zc)

def ZaS (s : ByteArray) : Option (Bool) :=
 ZeG s >>= fun r4 =>
 if r4.2.2 = true then
 Zc3 r4.1 >>= fun r6 =>
 some (r6 == 1)
 else
 Zc3 s >>= fun r7 =>
 some ((r7 == 1) && (!(s.toList == (ByteArray.mk #[102, 111, 114, 97, 108, 108]).toList)))
def ZaS.M (s : ByteArray) (r : Bool) : Prop :=
 Zk Tryz.prog 68 [.c none (.v (.string s))] [] (fun d b => d = .c none (.v (.bool r)) ∧ b = [])
theorem Zfk (s : ByteArray) (r : Bool) (hF : ZaS s = some r) : ZaS.M s r := by
 unfold ZaS at hF
 unfold ZaS.M
 refine en Tryz.func68 ?_
 refine AWP.seq ?_
 refine ns ?_
 refine AWP.seq ?_
 refine AWP.seq ?_
 obtain ⟨r4, hr4, hF⟩ := bind_some hF
 refine ns ?_
 refine e3 ?_
 refine st ?_
 refine cm (Zk.weak (rn []) (ZjU s _ hr4) rfl (WS.mk (tc Zb) Zc)) ?_
 refine st ?_
 refine AWP.seq ?_
 refine ns ?_
 refine nw ?_
 refine Zi hF (fun hc5 hF => ?_) (fun hc5 hF => ?_)
 ·refine AWP.seq ?_
  obtain ⟨r6, hr6, hF⟩ := bind_some hF
  refine ns ?_
  refine e3 ?_
  refine st ?_
  refine cm (Zk.weak (rn []) (Zg6 r4.1 _ hr6) rfl (WS.mk (tc Zb) Zc)) ?_
  refine st ?_
  obtain rfl := Zh hF
  refine ns ?_
  refine Exists.intro [] ?_
  refine st ?_
  exact wx (WS.mk (tc Zb) Zc)
 ·refine nw ?_
  refine AWP.seq ?_
  obtain ⟨r7, hr7, hF⟩ := bind_some hF
  refine AWP.cutN (fun T => ∃ r, WS r T ⟨[(2, .c none (.v (.bool ((r7 == 1) && (!(s.toList == (ByteArray.mk #[102, 111, 114, 97, 108, 108]).toList))))))], []⟩) ?_ (fun T hw => ?_)
  ·refine ns ?_
   refine e3 ?_
   refine st ?_
   refine cm (Zk.weak (rn []) (Zg6 s _ hr7) rfl (WS.mk (tc Zb) Zc)) ?_
   refine st ?_
   refine Zl true (fun hc8 => ?_) (fun hc8 => ?_)
   ·(conv => whnf)
    refine st ?_
    exact wx (WS.mk (Zd (Zq (web hc8)) Zb) Zc)
   ·(conv => whnf)
    refine st ?_
    exact wx (WS.mk (Zd (Zq (web hc8)) Zb) Zc)
  obtain ⟨r0, hw⟩ := hw
  (conv => whnf)
  refine AWP.weak r0 hw ?_
  obtain rfl := Zh hF
  refine ns ?_
  refine Exists.intro [] ?_
  refine st ?_
  exact wx (WS.mk (tc Zb) Zc)

def Zdo (t : Za) (Znk : Bool) : Option (Bool) :=
 if Znk = true then
 ZaS t.fName >>= fun r21 =>
 some r21
 else
 if (t.fOp == 2) = true then
 Zea t.fName >>= fun r23 =>
 (if r23 = true then some true else Zd9 t.fName >>= fun r24 =>
 some r24) >>= fun c25 =>
 some c25
 else
 some (t.fOp == 3)
def Zdo.M (t : Za) (Znk : Bool) (r : Bool) : Prop :=
 AWP Tryz.prog 60 (Code.sub (Zr Tryz.f73) [1, 1, 1, 1, 0, 1, 0, 1]) (Code.cont Tryz.prog 60 (Zr Tryz.f73) [1, 1, 1, 1, 0, 1, 0, 1] (ZbV tab Tryz.f73.results (Zb0 (.c none (.v (.bool r))) []))) ⟨[(1, .ptr 1 0), (40, .c none (.v (.int .i64 t.fOp))), (41, .c none (.v (.bool Znk)))], [(1, [(none, .v (.int .i64 t.fOp)), (none, .v (.string t.fName)), (none, .sl (t.fBound.fArgs.map Zj.cells)), (none, .sl (t.fKids.map Za.cells))])]⟩
theorem Zi5 (t : Za) (Znk : Bool) (r : Bool) (hF : Zdo t Znk = some r) : Zdo.M t Znk r := by
 unfold Zdo at hF
 unfold Zdo.M
 refine nw ?_
 refine Zi hF (fun ZtY hF => ?_) (fun ZtY hF => ?_)
 ·refine AWP.seq ?_
  obtain ⟨r21, ZCd, hF⟩ := bind_some hF
  refine ns ?_
  refine e3 ?_
  refine st ?_
  refine cm (Zk.weak (rn []) (Zfk t.fName _ ZCd) rfl (WS.mk (tc Zb) Zc)) ?_
  refine st ?_
  obtain rfl := Zh hF
  refine ns ?_
  refine Exists.intro [] ?_
  refine st ?_
  exact wx (WS.mk (tc Zb) Zc)
 ·refine AWP.seq ?_
  refine ns ?_
  refine nw ?_
  refine Zi hF (fun Zjq hF => ?_) (fun Zjq hF => ?_)
  ·refine AWP.seq ?_
   obtain ⟨r23, Ztc, hF⟩ := bind_some hF
   obtain ⟨c25, ZeM, hF⟩ := bind_some hF
   refine AWP.cutN (fun T => ∃ r, WS r T ⟨[(2, .c none (.v (.bool c25)))], []⟩) ?_ (fun T hw => ?_)
   ·refine ns ?_
    refine e3 ?_
    refine st ?_
    refine cm (Zk.weak (rn []) (Zpe t.fName _ Ztc) rfl (WS.mk (tc Zb) Zc)) ?_
    refine st ?_
    refine Zl false (fun ZfB => ?_) (fun ZfB => ?_)
    ·have ZeM := ift ZfB ZeM
     (conv => whnf)
     obtain rfl := Zh ZeM
     refine st ?_
     exact wx (WS.mk (Zd (Zq (web ZfB)) Zb) Zc)
    ·have ZeM := ife ZfB ZeM
     obtain ⟨r24, ZCS, ZeM⟩ := bind_some ZeM
     (conv => whnf)
     refine st ?_
     refine e3 ?_
     refine st ?_
     refine cm (Zk.weak (rn []) (Zpf t.fName _ ZCS) rfl (WS.mk (tc Zb) Zc)) ?_
     refine st ?_
     obtain rfl := Zh ZeM
     refine st ?_
     exact wx (WS.mk (Zd (Zq (web ZfB)) Zb) Zc)
   obtain ⟨r0, hw⟩ := hw
   (conv => whnf)
   refine AWP.weak r0 hw ?_
   obtain rfl := Zh hF
   refine ns ?_
   refine Exists.intro [] ?_
   refine st ?_
   exact wx (WS.mk (tc Zb) Zc)
  ·refine nw ?_
   refine AWP.seq ?_
   refine ns ?_
   obtain rfl := Zh hF
   refine ns ?_
   refine Exists.intro [] ?_
   refine st ?_
   exact wx (WS.mk (tc Zb) Zc)

mutual
def ZbN (t : Za) : Option (Bool) :=
 if (((t.fOp != 4) && (decide (((t.fBound.fArgs.length : Nat) : Int) > 0))) || ((t.fOp == 3) && (!(t.fName.toList == (ByteArray.mk #[]).toList)))) = true then
 some false
 else
 Zeg (ZgY (ZgY ([] : List (Int × Int)) 3 2) 4 1) 0 t.fOp >>= fun r9 =>
 (if (((t.fKids.length : Nat) : Int) != r9.1) = true then some true else ZQ t.fKids >>= fun r15 =>
 some r15) >>= fun c16 =>
 if c16 = true then
 some false
 else
 if (t.fOp == 1) = true then
 Zdo t (t.fOp == 1)
 else
 Zdo t (t.fOp == 4)
 partial_fixpoint
def ZQ (s : (List Za)) : Option (Bool) :=
 Zaf s >>= fun r1 =>
 some (decide (r1 ≥ 0))
 partial_fixpoint
def Zaf (s : (List Za)) : Option (Int) :=
 ZD s 0 s
 partial_fixpoint
def ZD (s : (List Za)) (x_8 : Nat) (ZaJ : (List Za)) : Option (Int) :=
 (match ZaJ with
 | x13 :: ZvV =>
 ZdL x13 >>= fun r16 =>
 if r16 = true then
 some ((x_8 : Nat) : Int)
 else
 ZD s (x_8 + 1) ZvV
 | [] =>
 some (-1))
 partial_fixpoint
def ZdL (k : Za) : Option (Bool) :=
 ZbN k >>= fun r1 =>
 some (!r1)
 partial_fixpoint
end
def ZbN.M (t : Za) (r : Bool) : Prop :=
 Zk Tryz.prog 73 [.agg [.v (.int .i64 t.fOp), .v (.string t.fName), .sl (t.fBound.fArgs.map Zj.cells), .sl (t.fKids.map Za.cells)]] [] (fun d b => d = .c none (.v (.bool r)) ∧ b = [])
def ZQ.M (s : (List Za)) (r : Bool) : Prop :=
 Zk Tryz.prog 79 [.c none (.sl (s.map Za.cells)), .c none (.v (.func (.func 101) #[] #[]))] [] (fun d b => d = .c none (.v (.bool r)) ∧ b = [])
def Zaf.M (s : (List Za)) (r : Int) : Prop :=
 Zk Tryz.prog 104 [.c none (.sl (s.map Za.cells)), .c none (.v (.func (.func 101) #[] #[]))] [] (fun d b => d = .c none (.v (.int .i64 r)) ∧ b = [])
def ZD.M (s : (List Za)) (x_8 : Nat) (ZaJ : (List Za)) (r : Int) : Prop :=
 ∀ Zdc : List Za, s = Zdc ++ ZaJ → x_8 = Zdc.length → s.length ≤ maxLen → AWL Tryz.prog 19 (Code.sub (Zr Tryz.f104) [1, 0, 1, 0, 0]) (Code.cont Tryz.prog 19 (Zr Tryz.f104) [1, 0, 1, 0] (ZbV tab Tryz.f104.results (Zb0 (.c none (.v (.int .i64 r))) []))) ⟨[(0, .c none (.sl (s.map Za.cells))), (1, .c none (.v (.func (.func 101) #[] #[]))), (7, .c none (.v (.int .i64 ((s.length : Nat) : Int)))), (8, .c none (.v (.int .i64 ((x_8 : Nat) : Int))))], []⟩
def ZdL.M (k : Za) (r : Bool) : Prop :=
 Zk Tryz.prog 101 [.agg [.v (.int .i64 k.fOp), .v (.string k.fName), .sl (k.fBound.fArgs.map Zj.cells), .sl (k.fKids.map Za.cells)]] [] (fun d b => d = .c none (.v (.bool r)) ∧ b = [])
theorem ZoS : (∀ (t : Za), ∀ r, ZbN t = some r → ZbN.M t r) ∧ (∀ (s : (List Za)), ∀ r, ZQ s = some r → ZQ.M s r) ∧ (∀ (s : (List Za)), ∀ r, Zaf s = some r → Zaf.M s r) ∧ (∀ (s : (List Za)) (x_8 : Nat) (ZaJ : (List Za)), ∀ r, ZD s x_8 ZaJ = some r → ZD.M s x_8 ZaJ r) ∧ (∀ (k : Za), ∀ r, ZdL k = some r → ZdL.M k r) := by
 refine ZbN.mutual_partial_correctness ZbN.M ZQ.M Zaf.M ZD.M ZdL.M ?_ ?_ ?_ ?_ ?_
 ·intro slices_ContainsFunc_Type_types_formed_1' Ze6 t r hF
  unfold ZbN.M
  refine en Tryz.func73 ?_
  refine AWP.seq ?_
  refine ns ?_
  refine AWP.seq ?_
  refine AWP.seq ?_
  refine AWP.cutN (fun T => ∃ r, WS r T ⟨[(1, .ptr 1 0), (23, .c none (.v (.bool (((t.fOp != 4) && (decide (((t.fBound.fArgs.length : Nat) : Int) > 0))) || ((t.fOp == 3) && (!(t.fName.toList == (ByteArray.mk #[]).toList)))))))], [(1, [(none, .v (.int .i64 t.fOp)), (none, .v (.string t.fName)), (none, .sl (t.fBound.fArgs.map Zj.cells)), (none, .sl (t.fKids.map Za.cells))])]⟩) ?_ (fun T hw => ?_)
  ·refine ns ?_
   refine Zl true (fun hc4 => ?_) (fun hc4 => ?_)
   ·(conv => whnf)
    refine st ?_
    intro hlen3
    (try rw [List.length_map] at hlen3)
    (try rw [List.length_map])
    refine st ?_
    refine Zl false (fun hc5 => ?_) (fun hc5 => ?_)
    ·(conv => whnf)
     refine st ?_
     exact wx (WS.mk (tp (Zd (Zq (web (And.intro hc4 hc5))) Zb)) (Zf rfl (cc (cc (cc (cc Zg)))) Zc))
    ·(conv => whnf)
     refine st ?_
     refine Zl true (fun hc6 => ?_) (fun hc6 => ?_)
     ·(conv => whnf)
      refine st ?_
      exact wx (WS.mk (tp (Zd (Zq (web (And.intro hc4 (And.intro hc5 hc6)))) Zb)) (Zf rfl (cc (cc (cc (cc Zg)))) Zc))
     ·(conv => whnf)
      refine st ?_
      exact wx (WS.mk (tp (Zd (Zq (web (And.intro hc4 (And.intro hc5 hc6)))) Zb)) (Zf rfl (cc (cc (cc (cc Zg)))) Zc))
   ·(conv => whnf)
    refine st ?_
    refine Zl true (fun hc7 => ?_) (fun hc7 => ?_)
    ·(conv => whnf)
     refine st ?_
     exact wx (WS.mk (tp (Zd (Zq (web (And.intro hc4 hc7))) Zb)) (Zf rfl (cc (cc (cc (cc Zg)))) Zc))
    ·(conv => whnf)
     refine st ?_
     exact wx (WS.mk (tp (Zd (Zq (web (And.intro hc4 hc7))) Zb)) (Zf rfl (cc (cc (cc (cc Zg)))) Zc))
  obtain ⟨r0, hw⟩ := hw
  (conv => whnf)
  refine AWP.weak r0 hw ?_
  refine nw ?_
  refine Zi hF (fun hc8 hF => ?_) (fun hc8 hF => ?_)
  ·refine AWP.seq ?_
   refine ns ?_
   obtain rfl := Zh hF
   refine ns ?_
   refine Exists.intro [] ?_
   refine st ?_
   exact wx (WS.mk (tc Zb) Zc)
  ·refine nw ?_
   refine AWP.seq ?_
   obtain ⟨r9, hr9, hF⟩ := bind_some hF
   refine ns ?_
   refine ZmJ (m := ([] : List (Int × Int))) (k := 3) (v := 2) Zmr (ev := Zbn) (lc Zn) ?_
   refine st ?_
   refine ZmJ (m := (ZgY ([] : List (Int × Int)) 3 2)) (k := 4) (v := 1) Zmr (ev := Zbn) (lc Zn) ?_
   refine st ?_
   refine Zge (m := (ZgY (ZgY ([] : List (Int × Int)) 3 2) 4 1)) (k := t.fOp) Zmr (ev := Zbn) hr9 rfl (fun x => ZjE x) rfl rfl (lc Zn) ?_
   refine st ?_
   refine AWP.seq ?_
   refine AWP.seq ?_
   obtain ⟨c16, ZeJ, hF⟩ := bind_some hF
   refine AWP.cutN (fun T => ∃ r, WS r T ⟨[(1, .ptr 1 0), (38, .c none (.v (.bool c16)))], [(1, [(none, .v (.int .i64 t.fOp)), (none, .v (.string t.fName)), (none, .sl (t.fBound.fArgs.map Zj.cells)), (none, .sl (t.fKids.map Za.cells))])]⟩) ?_ (fun T hw => ?_)
   ·refine ns ?_
    intro hlen14
    (try rw [List.length_map] at hlen14)
    (try rw [List.length_map])
    refine st ?_
    refine Zl false (fun Zfg => ?_) (fun Zfg => ?_)
    ·have ZeJ := ift Zfg ZeJ
     (conv => whnf)
     obtain rfl := Zh ZeJ
     refine st ?_
     exact wx (WS.mk (tp (Zd (Zq (web Zfg)) Zb)) (Zf rfl (cc (cc (cc (cc Zg)))) Zc))
    ·have ZeJ := ife Zfg ZeJ
     obtain ⟨r15, ZyY, ZeJ⟩ := bind_some ZeJ
     (conv => whnf)
     refine st ?_
     refine e3 ?_
     refine st ?_
     refine cm (Zk.weak (rn []) (Ze6 t.fKids _ ZyY) rfl (WS.mk (tc (tc Zb)) Zc)) ?_
     refine st ?_
     obtain rfl := Zh ZeJ
     refine st ?_
     exact wx (WS.mk (tp (Zd (Zq (web Zfg)) Zb)) (Zf rfl (cc (cc (cc (cc Zg)))) Zc))
   obtain ⟨r0, hw⟩ := hw
   (conv => whnf)
   refine AWP.weak r0 hw ?_
   refine nw ?_
   refine Zi hF (fun ZgZ hF => ?_) (fun ZgZ hF => ?_)
   ·refine AWP.seq ?_
    refine ns ?_
    obtain rfl := Zh hF
    refine ns ?_
    refine Exists.intro [] ?_
    refine st ?_
    exact wx (WS.mk (tc Zb) Zc)
   ·refine nw ?_
    refine AWP.seq ?_
    refine AWP.seq ?_
    refine ns ?_
    refine AWP.block ?_
    refine AWP.seq ?_
    refine AWP.seq ?_
    refine ns ?_
    refine nw ?_
    refine Zi hF (fun Zky hF => ?_) (fun Zky hF => ?_)
    ·refine nw ?_
     refine AWP.weak (rn []) ?_ (Zi5 t (t.fOp == 1) _ hF)
     exact (WS.mk (tp (tc (tc Zb))) (Zf rfl (cc (cc (cc (cc Zg)))) Zc))
    ·refine ns ?_
     refine AWP.weak (rn []) ?_ (Zi5 t (t.fOp == 4) _ hF)
     exact (WS.mk (tp (tc (tc Zb))) (Zf rfl (cc (cc (cc (cc Zg)))) Zc))
 ·intro slices_IndexFunc_Type_types_formed_1' Zfw s r hF
  unfold ZQ.M
  refine en Tryz.func79 ?_
  refine AWP.seq ?_
  refine ns ?_
  refine AWP.seq ?_
  obtain ⟨r1, hr1, hF⟩ := bind_some hF
  refine ns ?_
  refine e3 ?_
  refine st ?_
  refine cm (Zk.weak (rn []) (Zfw s _ hr1) rfl (WS.mk (tc (tc Zb)) Zc)) ?_
  refine st ?_
  obtain rfl := Zh hF
  refine ns ?_
  refine Exists.intro [] ?_
  refine st ?_
  exact wx (WS.mk (tc Zb) Zc)
 ·intro slices_IndexFunc_Type_types_formed_1_l1' Zb7 s r hF
  unfold Zaf.M
  refine en Tryz.func104 ?_
  refine AWP.seq ?_
  refine ns ?_
  refine AWP.seq ?_
  refine AWP.seq ?_
  refine ns ?_
  intro hlen1
  (try rw [List.length_map] at hlen1)
  (try rw [List.length_map])
  refine st ?_
  refine AWP.block ?_
  refine AWP.loop ?_
  refine AWL.weak (rn []) ?_ (Zb7 s 0 s _ hF ([]) rfl rfl hlen1)
  exact (WS.mk (tc (tc (tc (tc Zb)))) Zc)
 ·intro slices_IndexFunc_Type_types_formed_1_l1' types_formed_1' Zb7 Zog s x_8 ZaJ r hF
  unfold ZD.M
  intro Zdc Zht Zg4 hlen1
  refine AWL.step ?_
  refine AWP.seq ?_
  refine ns ?_
  refine AWP.seq ?_
  refine nw ?_
  refine ZF Zht Zg4 (fun x13 ZvV ZvH Zyl ZCh => ?_) (fun ZvH => ?_)
  ·subst ZvH
   refine nw ?_
   refine AWP.seq ?_
   refine AWP.block ?_
   refine AWP.seq ?_
   refine ns ?_
   refine AWP.seq ?_
   obtain ⟨r16, ZAa, hF⟩ := bind_some hF
   refine nn ?_
   refine sr (ZX (f := Za.cells) (Za.cells_eq x13) Zyl) ?_
   refine st ?_
   refine e3 ?_
   refine st ?_
   refine cm (Zk.weak (rn []) (Zog x13 _ ZAa) rfl (WS.mk (Zd (Zp (lc (lc (lc (lc Zn))))) Zb) Zc)) ?_
   refine st ?_
   refine nw ?_
   refine Zi hF (fun Zfg hF => ?_) (fun Zfg hF => ?_)
   ·refine AWP.seq ?_
    refine ns ?_
    obtain rfl := Zh hF
    refine ns ?_
    refine Exists.intro [] ?_
    refine st ?_
    exact wx (WS.mk (tc Zb) Zc)
   ·refine nw ?_
    refine ns ?_
    refine AWL.weak (rn []) ?_ (Zb7 s (x_8 + 1) ZvV _ hF (Zdc ++ [x13]) (by rw [Zht]; simp) (by rw [Zg4]; simp) hlen1)
    exact (WS.mk (tc (tc (tc (Zd (Zq (Zc0 (ZP hlen1 ZCh))) Zb)))) Zc)
  ·subst ZvH
   refine nw ?_
   refine AWP.seq ?_
   refine ns ?_
   obtain rfl := Zh hF
   refine ns ?_
   refine Exists.intro [] ?_
   refine st ?_
   exact wx (WS.mk (tc Zb) Zc)
 ·intro types_formed' ZpU k r hF
  unfold ZdL.M
  refine en Tryz.func101 ?_
  refine AWP.seq ?_
  refine ns ?_
  refine AWP.seq ?_
  obtain ⟨r1, hr1, hF⟩ := bind_some hF
  refine ns ?_
  refine e3 ?_
  refine st ?_
  refine cm (Zk.weak (rn []) (ZpU k _ hr1) rfl (WS.mk (Zd (Zp (lc (lc (lc (lc Zn))))) Zb) Zc)) ?_
  refine st ?_
  obtain rfl := Zh hF
  refine ns ?_
  refine Exists.intro [] ?_
  refine st ?_
  exact wx (WS.mk (tc Zb) Zc)
theorem ZpW : ∀ (t : Za), ∀ r, ZbN t = some r → ZbN.M t r := ZoS.1

mutual
def Zbe (k : Zj) : Option (Int) :=
 ZbC 0 k 0 k.fArgs
 partial_fixpoint
def ZbC (n_3 : Int) (k : Zj) (x_9 : Nat) (Zce : (List Zj)) : Option (Int) :=
 (match Zce with
 | x11 :: ZkM =>
 Zbe x11 >>= fun r14 =>
 ZbC (if r14 > n_3 then r14 else n_3) k (x_9 + 1) ZkM
 | [] =>
 some (IntKind.i64.wrap (n_3 + 1)))
 partial_fixpoint
end
def Zbe.M (k : Zj) (r : Int) : Prop :=
 Zk Tryz.prog 78 [.agg [.sl (k.fArgs.map Zj.cells)]] [] (fun d b => d = .c none (.v (.int .i64 r)) ∧ b = [])
def ZbC.M (n_3 : Int) (k : Zj) (x_9 : Nat) (Zce : (List Zj)) (r : Int) : Prop :=
 ∀ Zdb : List Zj, k.fArgs = Zdb ++ Zce → x_9 = Zdb.length → k.fArgs.length ≤ maxLen → AWL Tryz.prog 20 (Code.sub (Zr Tryz.f78) [1, 1, 0, 1, 0, 0]) (Code.cont Tryz.prog 20 (Zr Tryz.f78) [1, 1, 0, 1, 0] (ZbV tab Tryz.f78.results (Zb0 (.c none (.v (.int .i64 r))) []))) ⟨[(3, .c none (.v (.int .i64 n_3))), (7, .c none (.sl (k.fArgs.map Zj.cells))), (8, .c none (.v (.int .i64 ((k.fArgs.length : Nat) : Int)))), (9, .c none (.v (.int .i64 ((x_9 : Nat) : Int))))], []⟩
theorem ZmY : (∀ (k : Zj), ∀ r, Zbe k = some r → Zbe.M k r) ∧ (∀ (n_3 : Int) (k : Zj) (x_9 : Nat) (Zce : (List Zj)), ∀ r, ZbC n_3 k x_9 Zce = some r → ZbC.M n_3 k x_9 Zce r) := by
 refine Zbe.mutual_partial_correctness Zbe.M ZbC.M ?_ ?_
 ·intro types_kindDepth_l1' Zfn k r hF
  unfold Zbe.M
  refine en Tryz.func78 ?_
  refine AWP.seq ?_
  refine ns ?_
  refine AWP.seq ?_
  refine ns ?_
  refine AWP.seq ?_
  refine AWP.seq ?_
  refine ns ?_
  intro hlen1
  (try rw [List.length_map] at hlen1)
  (try rw [List.length_map])
  refine st ?_
  refine AWP.block ?_
  refine AWP.loop ?_
  refine AWL.weak (rn []) ?_ (Zfn 0 k 0 k.fArgs _ hF ([]) rfl rfl hlen1)
  exact (WS.mk (tc (tc (tc (tc Zb)))) Zc)
 ·intro types_kindDepth' types_kindDepth_l1' ZnC Zfn n_3 k x_9 Zce r hF
  unfold ZbC.M
  intro Zdb Zhi Zhv hlen1
  refine AWL.step ?_
  refine AWP.seq ?_
  refine ns ?_
  refine AWP.seq ?_
  refine nw ?_
  refine ZF Zhi Zhv (fun x11 ZkM ZkR Zq2 ZtH => ?_) (fun ZkR => ?_)
  ·subst ZkR
   refine nw ?_
   refine AWP.seq ?_
   refine AWP.block ?_
   refine AWP.seq ?_
   refine nn ?_
   refine sr (ZX (f := Zj.cells) (Zj.cells_eq x11) Zq2) ?_
   refine st ?_
   obtain ⟨r14, Zpa, hF⟩ := bind_some hF
   refine ns ?_
   refine e3 ?_
   refine st ?_
   refine cm (Zk.weak (rn []) (ZnC x11 _ Zpa) rfl (WS.mk (Zd (Zp (lc Zn)) Zb) Zc)) ?_
   refine st ?_
   refine ns ?_
   refine AWL.weak (rn []) ?_ (Zfn (if r14 > n_3 then r14 else n_3) k (x_9 + 1) ZkM _ hF (Zdb ++ [x11]) (by rw [Zhi]; simp) (by rw [Zhv]; simp) hlen1)
   exact (WS.mk (tc (tc (tc (Zd (Zq (Zc0 (ZP hlen1 ZtH))) Zb)))) Zc)
  ·subst ZkR
   refine nw ?_
   refine AWP.seq ?_
   refine ns ?_
   obtain rfl := Zh hF
   refine ns ?_
   refine Exists.intro [] ?_
   refine st ?_
   exact wx (WS.mk (tc Zb) Zc)
theorem ZnT : ∀ (k : Zj), ∀ r, Zbe k = some r → Zbe.M k r := ZmY.1

mutual
def ZB (t : Za) : Option (Int) :=
 Zbe t.fBound >>= fun r1 =>
 ZO r1 t 0 t.fKids
 partial_fixpoint
def ZO (n_5 : Int) (t : Za) (Zg8 : Nat) (Zdj : (List Za)) : Option (Int) :=
 (match Zdj with
 | x12 :: Zvk =>
 ZB x12 >>= fun r15 =>
 ZO (if r15 > n_5 then r15 else n_5) t (Zg8 + 1) Zvk
 | [] =>
 some n_5)
 partial_fixpoint
end
def ZB.M (t : Za) (r : Int) : Prop :=
 Zk Tryz.prog 75 [.agg [.v (.int .i64 t.fOp), .v (.string t.fName), .sl (t.fBound.fArgs.map Zj.cells), .sl (t.fKids.map Za.cells)], .c none (.v (.func (.func 78) #[] #[]))] [] (fun d b => d = .c none (.v (.int .i64 r)) ∧ b = [])
def ZO.M (n_5 : Int) (t : Za) (Zg8 : Nat) (Zdj : (List Za)) (r : Int) : Prop :=
 ∀ Zex : List Za, t.fKids = Zex ++ Zdj → Zg8 = Zex.length → t.fKids.length ≤ maxLen → AWL Tryz.prog 26 (Code.sub (Zr Tryz.f75) [1, 1, 0, 1, 0, 0]) (Code.cont Tryz.prog 26 (Zr Tryz.f75) [1, 1, 0, 1, 0] (ZbV tab Tryz.f75.results (Zb0 (.c none (.v (.int .i64 r))) []))) ⟨[(1, .c none (.v (.func (.func 78) #[] #[]))), (5, .c none (.v (.int .i64 n_5))), (13, .c none (.sl (t.fKids.map Za.cells))), (14, .c none (.v (.int .i64 ((t.fKids.length : Nat) : Int)))), (15, .c none (.v (.int .i64 ((Zg8 : Nat) : Int))))], []⟩
theorem ZgG : (∀ (t : Za), ∀ r, ZB t = some r → ZB.M t r) ∧ (∀ (n_5 : Int) (t : Za) (Zg8 : Nat) (Zdj : (List Za)), ∀ r, ZO n_5 t Zg8 Zdj = some r → ZO.M n_5 t Zg8 Zdj r) := by
 refine ZB.mutual_partial_correctness ZB.M ZO.M ?_ ?_
 ·intro types_greatest_types_kindDepth_l1' ZcT t r hF
  unfold ZB.M
  refine en Tryz.func75 ?_
  refine AWP.seq ?_
  refine ns ?_
  refine AWP.seq ?_
  obtain ⟨r1, hr1, hF⟩ := bind_some hF
  refine ns ?_
  refine e3 ?_
  refine st ?_
  refine cm (Zk.weak (rn []) (ZnT t.fBound _ hr1) rfl (WS.mk (Zd (Zp (lc Zn)) Zb) Zc)) ?_
  refine st ?_
  refine AWP.seq ?_
  refine AWP.seq ?_
  refine ns ?_
  intro hlen2
  (try rw [List.length_map] at hlen2)
  (try rw [List.length_map])
  refine st ?_
  refine AWP.block ?_
  refine AWP.loop ?_
  refine AWL.weak (rn []) ?_ (ZcT r1 t 0 t.fKids _ hF ([]) rfl rfl hlen2)
  exact (WS.mk (tc (tc (tc (tc (tc Zb))))) Zc)
 ·intro types_greatest_types_kindDepth' types_greatest_types_kindDepth_l1' ZgW ZcT n_5 t Zg8 Zdj r hF
  unfold ZO.M
  intro Zex Zjz ZjC hlen2
  refine AWL.step ?_
  refine AWP.seq ?_
  refine ns ?_
  refine AWP.seq ?_
  refine nw ?_
  refine ZF Zjz ZjC (fun x12 Zvk ZvX ZCI ZCu => ?_) (fun ZvX => ?_)
  ·subst ZvX
   refine nw ?_
   refine AWP.seq ?_
   refine AWP.block ?_
   refine AWP.seq ?_
   refine nn ?_
   refine sr (ZX (f := Za.cells) (Za.cells_eq x12) ZCI) ?_
   refine st ?_
   obtain ⟨r15, ZyY, hF⟩ := bind_some hF
   refine ns ?_
   refine e3 ?_
   refine st ?_
   refine cm (Zk.weak (rn []) (ZgW x12 _ ZyY) rfl (WS.mk (Zd (Zp (lc (lc (lc (lc Zn))))) (tc Zb)) Zc)) ?_
   refine st ?_
   refine ns ?_
   refine AWL.weak (rn []) ?_ (ZcT (if r15 > n_5 then r15 else n_5) t (Zg8 + 1) Zvk _ hF (Zex ++ [x12]) (by rw [Zjz]; simp) (by rw [ZjC]; simp) hlen2)
   exact (WS.mk (tc (tc (tc (tc (Zd (Zq (Zc0 (ZP hlen2 ZCu))) Zb))))) Zc)
  ·subst ZvX
   refine nw ?_
   refine AWP.seq ?_
   refine ns ?_
   obtain rfl := Zh hF
   refine ns ?_
   refine Exists.intro [] ?_
   refine st ?_
   exact wx (WS.mk (tc Zb) Zc)
theorem ZgX : ∀ (t : Za), ∀ r, ZB t = some r → ZB.M t r := ZgG.1

mutual
def Zby (k : Zj) : Option (Int) :=
 Zb1 1 k 0 k.fArgs
 partial_fixpoint
def Zb1 (n_3 : Int) (k : Zj) (x_9 : Nat) (Zce : (List Zj)) : Option (Int) :=
 (match Zce with
 | x11 :: ZkM =>
 Zby x11 >>= fun r14 =>
 Zb1 (IntKind.i64.wrap (n_3 + r14)) k (x_9 + 1) ZkM
 | [] =>
 some n_3)
 partial_fixpoint
end
def Zby.M (k : Zj) (r : Int) : Prop :=
 Zk Tryz.prog 76 [.agg [.sl (k.fArgs.map Zj.cells)]] [] (fun d b => d = .c none (.v (.int .i64 r)) ∧ b = [])
def Zb1.M (n_3 : Int) (k : Zj) (x_9 : Nat) (Zce : (List Zj)) (r : Int) : Prop :=
 ∀ Zdb : List Zj, k.fArgs = Zdb ++ Zce → x_9 = Zdb.length → k.fArgs.length ≤ maxLen → AWL Tryz.prog 19 (Code.sub (Zr Tryz.f76) [1, 1, 0, 1, 0, 0]) (Code.cont Tryz.prog 19 (Zr Tryz.f76) [1, 1, 0, 1, 0] (ZbV tab Tryz.f76.results (Zb0 (.c none (.v (.int .i64 r))) []))) ⟨[(3, .c none (.v (.int .i64 n_3))), (7, .c none (.sl (k.fArgs.map Zj.cells))), (8, .c none (.v (.int .i64 ((k.fArgs.length : Nat) : Int)))), (9, .c none (.v (.int .i64 ((x_9 : Nat) : Int))))], []⟩
theorem ZnX : (∀ (k : Zj), ∀ r, Zby k = some r → Zby.M k r) ∧ (∀ (n_3 : Int) (k : Zj) (x_9 : Nat) (Zce : (List Zj)), ∀ r, Zb1 n_3 k x_9 Zce = some r → Zb1.M n_3 k x_9 Zce r) := by
 refine Zby.mutual_partial_correctness Zby.M Zb1.M ?_ ?_
 ·intro types_kindSize_l1' ZfH k r hF
  unfold Zby.M
  refine en Tryz.func76 ?_
  refine AWP.seq ?_
  refine ns ?_
  refine AWP.seq ?_
  refine ns ?_
  refine AWP.seq ?_
  refine AWP.seq ?_
  refine ns ?_
  intro hlen1
  (try rw [List.length_map] at hlen1)
  (try rw [List.length_map])
  refine st ?_
  refine AWP.block ?_
  refine AWP.loop ?_
  refine AWL.weak (rn []) ?_ (ZfH 1 k 0 k.fArgs _ hF ([]) rfl rfl hlen1)
  exact (WS.mk (tc (tc (tc (tc Zb)))) Zc)
 ·intro types_kindSize' types_kindSize_l1' Zol ZfH n_3 k x_9 Zce r hF
  unfold Zb1.M
  intro Zdb Zhi Zhv hlen1
  refine AWL.step ?_
  refine AWP.seq ?_
  refine ns ?_
  refine AWP.seq ?_
  refine nw ?_
  refine ZF Zhi Zhv (fun x11 ZkM ZkR Zq2 ZtH => ?_) (fun ZkR => ?_)
  ·subst ZkR
   refine nw ?_
   refine AWP.seq ?_
   refine AWP.block ?_
   refine AWP.seq ?_
   refine nn ?_
   refine sr (ZX (f := Zj.cells) (Zj.cells_eq x11) Zq2) ?_
   refine st ?_
   obtain ⟨r14, Zpa, hF⟩ := bind_some hF
   refine ns ?_
   refine e3 ?_
   refine st ?_
   refine cm (Zk.weak (rn []) (Zol x11 _ Zpa) rfl (WS.mk (Zd (Zp (lc Zn)) Zb) Zc)) ?_
   refine st ?_
   refine ns ?_
   refine AWL.weak (rn []) ?_ (ZfH (IntKind.i64.wrap (n_3 + r14)) k (x_9 + 1) ZkM _ hF (Zdb ++ [x11]) (by rw [Zhi]; simp) (by rw [Zhv]; simp) hlen1)
   exact (WS.mk (tc (tc (tc (Zd (Zq (Zc0 (ZP hlen1 ZtH))) Zb)))) Zc)
  ·subst ZkR
   refine nw ?_
   refine AWP.seq ?_
   refine ns ?_
   obtain rfl := Zh hF
   refine ns ?_
   refine Exists.intro [] ?_
   refine st ?_
   exact wx (WS.mk (tc Zb) Zc)
theorem Zn6 : ∀ (k : Zj), ∀ r, Zby k = some r → Zby.M k r := ZnX.1

mutual
def ZE (t : Za) : Option (Int) :=
 Zby t.fBound >>= fun r1 =>
 ZR r1 t 0 t.fKids
 partial_fixpoint
def ZR (n_5 : Int) (t : Za) (Zg8 : Nat) (Zdj : (List Za)) : Option (Int) :=
 (match Zdj with
 | x12 :: Zvk =>
 ZE x12 >>= fun r15 =>
 ZR (if r15 > n_5 then r15 else n_5) t (Zg8 + 1) Zvk
 | [] =>
 some n_5)
 partial_fixpoint
end
def ZE.M (t : Za) (r : Int) : Prop :=
 Zk Tryz.prog 75 [.agg [.v (.int .i64 t.fOp), .v (.string t.fName), .sl (t.fBound.fArgs.map Zj.cells), .sl (t.fKids.map Za.cells)], .c none (.v (.func (.func 76) #[] #[]))] [] (fun d b => d = .c none (.v (.int .i64 r)) ∧ b = [])
def ZR.M (n_5 : Int) (t : Za) (Zg8 : Nat) (Zdj : (List Za)) (r : Int) : Prop :=
 ∀ Zex : List Za, t.fKids = Zex ++ Zdj → Zg8 = Zex.length → t.fKids.length ≤ maxLen → AWL Tryz.prog 26 (Code.sub (Zr Tryz.f75) [1, 1, 0, 1, 0, 0]) (Code.cont Tryz.prog 26 (Zr Tryz.f75) [1, 1, 0, 1, 0] (ZbV tab Tryz.f75.results (Zb0 (.c none (.v (.int .i64 r))) []))) ⟨[(1, .c none (.v (.func (.func 76) #[] #[]))), (5, .c none (.v (.int .i64 n_5))), (13, .c none (.sl (t.fKids.map Za.cells))), (14, .c none (.v (.int .i64 ((t.fKids.length : Nat) : Int)))), (15, .c none (.v (.int .i64 ((Zg8 : Nat) : Int))))], []⟩
theorem Zg0 : (∀ (t : Za), ∀ r, ZE t = some r → ZE.M t r) ∧ (∀ (n_5 : Int) (t : Za) (Zg8 : Nat) (Zdj : (List Za)), ∀ r, ZR n_5 t Zg8 Zdj = some r → ZR.M n_5 t Zg8 Zdj r) := by
 refine ZE.mutual_partial_correctness ZE.M ZR.M ?_ ?_
 ·intro types_greatest_types_kindSize_l1' Zc5 t r hF
  unfold ZE.M
  refine en Tryz.func75 ?_
  refine AWP.seq ?_
  refine ns ?_
  refine AWP.seq ?_
  obtain ⟨r1, hr1, hF⟩ := bind_some hF
  refine ns ?_
  refine e3 ?_
  refine st ?_
  refine cm (Zk.weak (rn []) (Zn6 t.fBound _ hr1) rfl (WS.mk (Zd (Zp (lc Zn)) Zb) Zc)) ?_
  refine st ?_
  refine AWP.seq ?_
  refine AWP.seq ?_
  refine ns ?_
  intro hlen2
  (try rw [List.length_map] at hlen2)
  (try rw [List.length_map])
  refine st ?_
  refine AWP.block ?_
  refine AWP.loop ?_
  refine AWL.weak (rn []) ?_ (Zc5 r1 t 0 t.fKids _ hF ([]) rfl rfl hlen2)
  exact (WS.mk (tc (tc (tc (tc (tc Zb))))) Zc)
 ·intro types_greatest_types_kindSize' types_greatest_types_kindSize_l1' Zhj Zc5 n_5 t Zg8 Zdj r hF
  unfold ZR.M
  intro Zex Zjz ZjC hlen2
  refine AWL.step ?_
  refine AWP.seq ?_
  refine ns ?_
  refine AWP.seq ?_
  refine nw ?_
  refine ZF Zjz ZjC (fun x12 Zvk ZvX ZCI ZCu => ?_) (fun ZvX => ?_)
  ·subst ZvX
   refine nw ?_
   refine AWP.seq ?_
   refine AWP.block ?_
   refine AWP.seq ?_
   refine nn ?_
   refine sr (ZX (f := Za.cells) (Za.cells_eq x12) ZCI) ?_
   refine st ?_
   obtain ⟨r15, ZyY, hF⟩ := bind_some hF
   refine ns ?_
   refine e3 ?_
   refine st ?_
   refine cm (Zk.weak (rn []) (Zhj x12 _ ZyY) rfl (WS.mk (Zd (Zp (lc (lc (lc (lc Zn))))) (tc Zb)) Zc)) ?_
   refine st ?_
   refine ns ?_
   refine AWL.weak (rn []) ?_ (Zc5 (if r15 > n_5 then r15 else n_5) t (Zg8 + 1) Zvk _ hF (Zex ++ [x12]) (by rw [Zjz]; simp) (by rw [ZjC]; simp) hlen2)
   exact (WS.mk (tc (tc (tc (tc (Zd (Zq (Zc0 (ZP hlen2 ZCu))) Zb))))) Zc)
  ·subst ZvX
   refine nw ?_
   refine AWP.seq ?_
   refine ns ?_
   obtain rfl := Zh hF
   refine ns ?_
   refine Exists.intro [] ?_
   refine st ?_
   exact wx (WS.mk (tc Zb) Zc)
theorem Zhw : ∀ (t : Za), ∀ r, ZE t = some r → ZE.M t r := Zg0.1

def Zbt (t : Za) : Option (Int) :=
 ZbN t >>= fun r1 =>
 if (!r1) = true then
 some 1
 else
 Zcv t >>= fun r3 =>
 (if (decide (r3 > 20000)) = true then some true else ZE t >>= fun r4 =>
 some (decide (r4 > 20000))) >>= fun c5 =>
 if c5 = true then
 some 3
 else
 Zb3 t >>= fun r8 =>
 (if (decide (r8 > 100)) = true then some true else ZB t >>= fun r9 =>
 some (decide (r9 > 100))) >>= fun c10 =>
 if c10 = true then
 some 4
 else
 some 0
def Zbt.M (t : Za) (r : Int) : Prop :=
 Zk Tryz.prog 50 [.agg [.v (.int .i64 t.fOp), .v (.string t.fName), .sl (t.fBound.fArgs.map Zj.cells), .sl (t.fKids.map Za.cells)]] [] (fun d b => d = .c none (.v (.int .i64 r)) ∧ b = [])
theorem ZdJ (t : Za) (r : Int) (hF : Zbt t = some r) : Zbt.M t r := by
 unfold Zbt at hF
 unfold Zbt.M
 refine en Tryz.func50 ?_
 refine AWP.seq ?_
 refine ns ?_
 refine AWP.seq ?_
 refine AWP.block ?_
 refine AWP.seq ?_
 obtain ⟨r1, hr1, hF⟩ := bind_some hF
 refine ns ?_
 refine e3 ?_
 refine st ?_
 refine cm (Zk.weak (rn []) (ZpW t _ hr1) rfl (WS.mk (Zd (Zp (lc (lc (lc (lc Zn))))) Zb) Zc)) ?_
 refine st ?_
 refine nw ?_
 refine Zi hF (fun hc2 hF => ?_) (fun hc2 hF => ?_)
 ·refine AWP.seq ?_
  refine ns ?_
  obtain rfl := Zh hF
  refine ns ?_
  refine Exists.intro [] ?_
  refine st ?_
  exact wx (WS.mk (tc Zb) Zc)
 ·refine AWP.seq ?_
  obtain ⟨r3, hr3, hF⟩ := bind_some hF
  obtain ⟨c5, hc5, hF⟩ := bind_some hF
  refine AWP.cutN (fun T => ∃ r, WS r T ⟨[(1, .ptr 1 0), (7, .c none (.v (.bool c5)))], [(1, [(none, .v (.int .i64 t.fOp)), (none, .v (.string t.fName)), (none, .sl (t.fBound.fArgs.map Zj.cells)), (none, .sl (t.fKids.map Za.cells))])]⟩) ?_ (fun T hw => ?_)
  ·refine ns ?_
   refine e3 ?_
   refine st ?_
   refine cm (Zk.weak (rn []) (Znp t _ hr3) rfl (WS.mk (Zd (Zp (lc (lc (lc (lc Zn))))) Zb) Zc)) ?_
   refine st ?_
   refine Zl false (fun hc6 => ?_) (fun hc6 => ?_)
   ·have hc5 := ift hc6 hc5
    (conv => whnf)
    obtain rfl := Zh hc5
    refine st ?_
    exact wx (WS.mk (tp (Zd (Zq (web hc6)) Zb)) (Zf rfl (cc (cc (cc (cc Zg)))) Zc))
   ·have hc5 := ife hc6 hc5
    obtain ⟨r4, hr4, hc5⟩ := bind_some hc5
    (conv => whnf)
    refine st ?_
    refine e3 ?_
    refine st ?_
    refine cm (Zk.weak (rn []) (Zhw t _ hr4) rfl (WS.mk (Zd (Zp (lc (lc (lc (lc Zn))))) (tc Zb)) Zc)) ?_
    refine st ?_
    obtain rfl := Zh hc5
    refine st ?_
    exact wx (WS.mk (tp (Zd (Zq (web hc6)) Zb)) (Zf rfl (cc (cc (cc (cc Zg)))) Zc))
  obtain ⟨r0, hw⟩ := hw
  (conv => whnf)
  refine AWP.weak r0 hw ?_
  refine nw ?_
  refine Zi hF (fun hc7 hF => ?_) (fun hc7 hF => ?_)
  ·refine AWP.seq ?_
   refine ns ?_
   obtain rfl := Zh hF
   refine ns ?_
   refine Exists.intro [] ?_
   refine st ?_
   exact wx (WS.mk (tc Zb) Zc)
  ·refine AWP.seq ?_
   obtain ⟨r8, hr8, hF⟩ := bind_some hF
   obtain ⟨c10, ZeW, hF⟩ := bind_some hF
   refine AWP.cutN (fun T => ∃ r, WS r T ⟨[(16, .c none (.v (.bool c10)))], []⟩) ?_ (fun T hw => ?_)
   ·refine ns ?_
    refine e3 ?_
    refine st ?_
    refine cm (Zk.weak (rn []) (Zmh t _ hr8) rfl (WS.mk (Zd (Zp (lc (lc (lc (lc Zn))))) Zb) Zc)) ?_
    refine st ?_
    refine Zl false (fun Zct => ?_) (fun Zct => ?_)
    ·have ZeW := ift Zct ZeW
     (conv => whnf)
     obtain rfl := Zh ZeW
     refine st ?_
     exact wx (WS.mk (Zd (Zq (web Zct)) Zb) Zc)
    ·have ZeW := ife Zct ZeW
     obtain ⟨r9, hr9, ZeW⟩ := bind_some ZeW
     (conv => whnf)
     refine st ?_
     refine e3 ?_
     refine st ?_
     refine cm (Zk.weak (rn []) (ZgX t _ hr9) rfl (WS.mk (Zd (Zp (lc (lc (lc (lc Zn))))) (tc Zb)) Zc)) ?_
     refine st ?_
     obtain rfl := Zh ZeW
     refine st ?_
     exact wx (WS.mk (Zd (Zq (web Zct)) Zb) Zc)
   obtain ⟨r0, hw⟩ := hw
   (conv => whnf)
   refine AWP.weak r0 hw ?_
   refine nw ?_
   refine Zi hF (fun Zeo hF => ?_) (fun Zeo hF => ?_)
   ·refine AWP.seq ?_
    refine ns ?_
    obtain rfl := Zh hF
    refine ns ?_
    refine Exists.intro [] ?_
    refine st ?_
    exact wx (WS.mk (tc Zb) Zc)
   ·refine nw ?_
    refine AWP.seq ?_
    refine ns ?_
    obtain rfl := Zh hF
    refine ns ?_
    refine Exists.intro [] ?_
    refine st ?_
    exact wx (WS.mk (tc Zb) Zc)

mutual
def Zax (t : Za) : Option (Int) :=
 Zbp 0 0 t t.fKids
 partial_fixpoint
def Zbp (n_3 : Int) (i_4 : Nat) (t : Za) (Zbv : (List Za)) : Option (Int) :=
 (match Zbv with
 | x16 :: ZiV =>
 Zax x16 >>= fun r19 =>
 Zbp (if r19 > n_3 then r19 else n_3) (i_4 + 1) t ZiV
 | [] =>
 some (IntKind.i64.wrap (n_3 + 1)))
 partial_fixpoint
end
def Zax.M (t : Za) (r : Int) : Prop :=
 Zk Tryz.prog 29 [.agg [.v (.int .i64 t.fOp), .v (.string t.fName), .sl (t.fBound.fArgs.map Zj.cells), .sl (t.fKids.map Za.cells)]] [] (fun d b => d = .c none (.v (.int .i64 r)) ∧ b = [])
def Zbp.M (n_3 : Int) (i_4 : Nat) (t : Za) (Zbv : (List Za)) (r : Int) : Prop :=
 ∀ Zdd : List Za, t.fKids = Zdd ++ Zbv → i_4 = Zdd.length → AWL Tryz.prog 22 (Code.sub (Zr Tryz.f29) [1, 1, 0, 1, 0, 0]) (Code.cont Tryz.prog 22 (Zr Tryz.f29) [1, 1, 0, 1, 0] (ZbV tab Tryz.f29.results (Zb0 (.c none (.v (.int .i64 r))) []))) ⟨[(1, .ptr 1 0), (3, .c none (.v (.int .i64 n_3))), (4, .c none (.v (.int .i64 ((i_4 : Nat) : Int))))], [(1, [(none, .v (.int .i64 t.fOp)), (none, .v (.string t.fName)), (none, .sl (t.fBound.fArgs.map Zj.cells)), (none, .sl (t.fKids.map Za.cells))])]⟩
theorem Zl2 : (∀ (t : Za), ∀ r, Zax t = some r → Zax.M t r) ∧ (∀ (n_3 : Int) (i_4 : Nat) (t : Za) (Zbv : (List Za)), ∀ r, Zbp n_3 i_4 t Zbv = some r → Zbp.M n_3 i_4 t Zbv r) := by
 refine Zax.mutual_partial_correctness Zax.M Zbp.M ?_ ?_
 ·intro lazycref04_Depth_l1' Zfc t r hF
  unfold Zax.M
  refine en Tryz.func29 ?_
  refine AWP.seq ?_
  refine ns ?_
  refine AWP.seq ?_
  refine ns ?_
  refine AWP.seq ?_
  refine AWP.seq ?_
  refine ns ?_
  refine AWP.block ?_
  refine AWP.loop ?_
  refine AWL.weak (rn []) ?_ (Zfc 0 0 t t.fKids _ hF ([]) rfl rfl)
  exact (WS.mk (tp (tc (tc Zb))) (Zf rfl (cc (cc (cc (cc Zg)))) Zc))
 ·intro lazycref04_Depth' lazycref04_Depth_l1' Zne Zfc n_3 i_4 t Zbv r hF
  unfold Zbp.M
  intro Zdd Zhr Zhq
  refine AWL.step ?_
  refine AWP.seq ?_
  refine AWP.seq ?_
  refine ns ?_
  intro hlen15
  (try rw [List.length_map] at hlen15)
  (try rw [List.length_map])
  refine st ?_
  refine nw ?_
  refine ZF Zhr Zhq (fun x16 ZiV Zjf Zp0 ZrK => ?_) (fun Zjf => ?_)
  ·subst Zjf
   refine nw ?_
   refine AWP.seq ?_
   refine AWP.block ?_
   obtain ⟨r19, ZqJ, hF⟩ := bind_some hF
   refine nn ?_
   refine sr (ZX (f := Za.cells) (Za.cells_eq x16) Zp0) ?_
   refine st ?_
   refine e3 ?_
   refine st ?_
   refine cm (Zk.weak (rn []) (Zne x16 _ ZqJ) rfl (WS.mk (Zd (Zp (lc (lc (lc (lc Zn))))) Zb) Zc)) ?_
   refine st ?_
   refine ns ?_
   refine AWL.weak (rn []) ?_ (Zfc (if r19 > n_3 then r19 else n_3) (i_4 + 1) t ZiV _ hF (Zdd ++ [x16]) (by rw [Zhr]; simp) (by rw [Zhq]; simp))
   exact (WS.mk (tp (tc (Zd (Zq (Zc0 (ZP hlen15 ZrK))) Zb))) (Zf rfl (cc (cc (cc (cc Zg)))) Zc))
  ·subst Zjf
   refine nw ?_
   refine AWP.seq ?_
   refine ns ?_
   obtain rfl := Zh hF
   refine ns ?_
   refine Exists.intro [] ?_
   refine st ?_
   exact wx (WS.mk (tc Zb) Zc)
theorem Zf6 : ∀ (t : Za), ∀ r, Zax t = some r → Zax.M t r := Zl2.1

mutual
def Zay (t : Za) : Option (Int) :=
 ZbE 1 0 t t.fKids
 partial_fixpoint
def ZbE (n_3 : Int) (i_4 : Nat) (t : Za) (Zbv : (List Za)) : Option (Int) :=
 (match Zbv with
 | x16 :: ZiV =>
 Zay x16 >>= fun r19 =>
 ZbE (IntKind.i64.wrap (n_3 + r19)) (i_4 + 1) t ZiV
 | [] =>
 some n_3)
 partial_fixpoint
end
def Zay.M (t : Za) (r : Int) : Prop :=
 Zk Tryz.prog 28 [.agg [.v (.int .i64 t.fOp), .v (.string t.fName), .sl (t.fBound.fArgs.map Zj.cells), .sl (t.fKids.map Za.cells)]] [] (fun d b => d = .c none (.v (.int .i64 r)) ∧ b = [])
def ZbE.M (n_3 : Int) (i_4 : Nat) (t : Za) (Zbv : (List Za)) (r : Int) : Prop :=
 ∀ Zdd : List Za, t.fKids = Zdd ++ Zbv → i_4 = Zdd.length → AWL Tryz.prog 21 (Code.sub (Zr Tryz.f28) [1, 1, 0, 1, 0, 0]) (Code.cont Tryz.prog 21 (Zr Tryz.f28) [1, 1, 0, 1, 0] (ZbV tab Tryz.f28.results (Zb0 (.c none (.v (.int .i64 r))) []))) ⟨[(1, .ptr 1 0), (3, .c none (.v (.int .i64 n_3))), (4, .c none (.v (.int .i64 ((i_4 : Nat) : Int))))], [(1, [(none, .v (.int .i64 t.fOp)), (none, .v (.string t.fName)), (none, .sl (t.fBound.fArgs.map Zj.cells)), (none, .sl (t.fKids.map Za.cells))])]⟩
theorem Znj : (∀ (t : Za), ∀ r, Zay t = some r → Zay.M t r) ∧ (∀ (n_3 : Int) (i_4 : Nat) (t : Za) (Zbv : (List Za)), ∀ r, ZbE n_3 i_4 t Zbv = some r → ZbE.M n_3 i_4 t Zbv r) := by
 refine Zay.mutual_partial_correctness Zay.M ZbE.M ?_ ?_
 ·intro lazycref04_Size_l1' Zfo t r hF
  unfold Zay.M
  refine en Tryz.func28 ?_
  refine AWP.seq ?_
  refine ns ?_
  refine AWP.seq ?_
  refine ns ?_
  refine AWP.seq ?_
  refine AWP.seq ?_
  refine ns ?_
  refine AWP.block ?_
  refine AWP.loop ?_
  refine AWL.weak (rn []) ?_ (Zfo 1 0 t t.fKids _ hF ([]) rfl rfl)
  exact (WS.mk (tp (tc (tc Zb))) (Zf rfl (cc (cc (cc (cc Zg)))) Zc))
 ·intro lazycref04_Size' lazycref04_Size_l1' ZnG Zfo n_3 i_4 t Zbv r hF
  unfold ZbE.M
  intro Zdd Zhr Zhq
  refine AWL.step ?_
  refine AWP.seq ?_
  refine AWP.seq ?_
  refine ns ?_
  intro hlen15
  (try rw [List.length_map] at hlen15)
  (try rw [List.length_map])
  refine st ?_
  refine nw ?_
  refine ZF Zhr Zhq (fun x16 ZiV Zjf Zp0 ZrK => ?_) (fun Zjf => ?_)
  ·subst Zjf
   refine nw ?_
   refine AWP.seq ?_
   refine AWP.block ?_
   obtain ⟨r19, ZqJ, hF⟩ := bind_some hF
   refine nn ?_
   refine sr (ZX (f := Za.cells) (Za.cells_eq x16) Zp0) ?_
   refine st ?_
   refine e3 ?_
   refine st ?_
   refine cm (Zk.weak (rn []) (ZnG x16 _ ZqJ) rfl (WS.mk (Zd (Zp (lc (lc (lc (lc Zn))))) Zb) Zc)) ?_
   refine st ?_
   refine ns ?_
   refine AWL.weak (rn []) ?_ (Zfo (IntKind.i64.wrap (n_3 + r19)) (i_4 + 1) t ZiV _ hF (Zdd ++ [x16]) (by rw [Zhr]; simp) (by rw [Zhq]; simp))
   exact (WS.mk (tp (tc (Zd (Zq (Zc0 (ZP hlen15 ZrK))) Zb))) (Zf rfl (cc (cc (cc (cc Zg)))) Zc))
  ·subst Zjf
   refine nw ?_
   refine AWP.seq ?_
   refine ns ?_
   obtain rfl := Zh hF
   refine ns ?_
   refine Exists.intro [] ?_
   refine st ?_
   exact wx (WS.mk (tc Zb) Zc)
theorem ZgF : ∀ (t : Za), ∀ r, Zay t = some r → Zay.M t r := Znj.1

def Zao (n : Int) (s_3 : ByteArray) (i_4 : Nat) : Option (ByteArray) :=
 if (decide (((i_4 : Nat) : Int) < n)) = true then
 ZV (((s_3.size + (ByteArray.mk #[44]).size : Nat) : Int) ≤ IntKind.i64.max) >>= fun _ =>
 ZV (i_4 + 1 ≤ 9223372036854775807) >>= fun _ =>
 Zao n (s_3 ++ (ByteArray.mk #[44])) (i_4 + 1)
 else
 ZV (((s_3.size + (ByteArray.mk #[41]).size : Nat) : Int) ≤ IntKind.i64.max) >>= fun _ =>
 some (s_3 ++ (ByteArray.mk #[41]))
 partial_fixpoint
def Zao.M (n : Int) (s_3 : ByteArray) (i_4 : Nat) (r : ByteArray) : Prop :=
 AWL Tryz.prog 14 (Code.sub (Zr Tryz.f128) [1, 1, 0, 1, 0, 0]) (Code.cont Tryz.prog 14 (Zr Tryz.f128) [1, 1, 0, 1, 0] (ZbV tab Tryz.f128.results (Zb0 (.c none (.v (.string r))) []))) ⟨[(0, .c none (.v (.int .i64 n))), (3, .c none (.v (.string s_3))), (4, .c none (.v (.int .i64 ((i_4 : Nat) : Int))))], []⟩
theorem Zi9 (n : Int) (s_3 : ByteArray) (i_4 : Nat) : ∀ r, Zao n s_3 i_4 = some r → Zao.M n s_3 i_4 r := by
 refine Zao.partial_correctness n (fun s_3 i_4 r => Zao.M n s_3 i_4 r) ?_ s_3 i_4
 intro lazycref04_TupleName_l1' Zfs s_3 i_4 r hF
 have Zi0 := fun (_n : Int) (s_3 : ByteArray) (i_4 : Nat) => Zfs s_3 i_4
 clear Zfs
 unfold Zao.M
 refine AWL.step ?_
 refine AWP.seq ?_
 refine AWP.seq ?_
 refine ns ?_
 refine nw ?_
 refine Zi hF (fun hc9 hF => ?_) (fun hc9 hF => ?_)
 ·refine nw ?_
  refine AWP.seq ?_
  refine AWP.block ?_
  obtain ⟨ZyV, hF⟩ := Zv hF
  refine ns ?_
  refine And.intro ZyV ?_
  refine st ?_
  obtain ⟨ZCv, hF⟩ := Zv hF
  refine ns ?_
  refine AWL.weak (rn []) ?_ (Zi0 n (s_3 ++ (ByteArray.mk #[44])) (i_4 + 1) _ hF)
  exact (WS.mk (tc (tc (Zd (Zq (Zc0 (ZcZ ZCv))) Zb))) Zc)
 ·refine nw ?_
  refine AWP.seq ?_
  obtain ⟨Zyy, hF⟩ := Zv hF
  refine ns ?_
  refine And.intro Zyy ?_
  refine st ?_
  obtain rfl := Zh hF
  refine ns ?_
  refine Exists.intro [] ?_
  refine st ?_
  exact wx (WS.mk (tc Zb) Zc)

def Zb4 (n : Int) : Option (ByteArray) :=
 Zao n (ByteArray.mk #[40]) 1
def Zb4.M (n : Int) (r : ByteArray) : Prop :=
 Zk Tryz.prog 128 [.c none (.v (.int .i64 n))] [] (fun d b => d = .c none (.v (.string r)) ∧ b = [])
theorem Zkm (n : Int) (r : ByteArray) (hF : Zb4 n = some r) : Zb4.M n r := by
 unfold Zb4 at hF
 unfold Zb4.M
 refine en Tryz.func128 ?_
 refine AWP.seq ?_
 refine ns ?_
 refine AWP.seq ?_
 refine ns ?_
 refine AWP.seq ?_
 refine AWP.seq ?_
 refine ns ?_
 refine AWP.block ?_
 refine AWP.loop ?_
 refine AWL.weak (rn []) ?_ (Zi9 n (ByteArray.mk #[40]) 1 _ hF)
 exact (WS.mk (tc (tc (tc Zb))) Zc)

def Za2 (s : ByteArray) (n_3 : Nat) : Option (Int) :=
 if (decide (((n_3 : Nat) : Int) ≤ 7)) = true then
 Zb4 ((n_3 : Nat) : Int) >>= fun r10 =>
 if (s.toList == r10.toList) = true then
 some ((n_3 : Nat) : Int)
 else
 ZV (n_3 + 1 ≤ 9223372036854775807) >>= fun _ =>
 Za2 s (n_3 + 1)
 else
 some 0
 partial_fixpoint
def Za2.M (s : ByteArray) (n_3 : Nat) (r : Int) : Prop :=
 AWL Tryz.prog 13 (Code.sub (Zr Tryz.f107) [1, 0, 1, 0, 0]) (Code.cont Tryz.prog 13 (Zr Tryz.f107) [1, 0, 1, 0] (ZbV tab Tryz.f107.results (Zb0 (.c none (.v (.int .i64 r))) []))) ⟨[(0, .c none (.v (.string s))), (3, .c none (.v (.int .i64 ((n_3 : Nat) : Int))))], []⟩
theorem Zk3 (s : ByteArray) (n_3 : Nat) : ∀ r, Za2 s n_3 = some r → Za2.M s n_3 r := by
 refine Za2.partial_correctness s (fun n_3 r => Za2.M s n_3 r) ?_ n_3
 intro lazycref04_Arity_l1' ZgO n_3 r hF
 have Zlm := fun (_s : ByteArray) (n_3 : Nat) => ZgO n_3
 clear ZgO
 unfold Za2.M
 refine AWL.step ?_
 refine AWP.seq ?_
 refine AWP.seq ?_
 refine ns ?_
 refine nw ?_
 refine Zi hF (fun hc9 hF => ?_) (fun hc9 hF => ?_)
 ·refine nw ?_
  refine AWP.seq ?_
  refine AWP.block ?_
  refine AWP.seq ?_
  obtain ⟨r10, Zqu, hF⟩ := bind_some hF
  refine ns ?_
  refine e3 ?_
  refine st ?_
  refine cm (Zk.weak (rn []) (Zkm ((n_3 : Nat) : Int) _ Zqu) rfl (WS.mk (tc Zb) Zc)) ?_
  refine st ?_
  refine nw ?_
  refine Zi hF (fun Zct hF => ?_) (fun Zct hF => ?_)
  ·refine AWP.seq ?_
   refine ns ?_
   obtain rfl := Zh hF
   refine ns ?_
   refine Exists.intro [] ?_
   refine st ?_
   exact wx (WS.mk (tc Zb) Zc)
  ·refine nw ?_
   obtain ⟨Zyy, hF⟩ := Zv hF
   refine ns ?_
   refine AWL.weak (rn []) ?_ (Zlm s (n_3 + 1) _ hF)
   exact (WS.mk (tc (Zd (Zq (Zc0 (ZcZ Zyy))) Zb)) Zc)
 ·refine nw ?_
  refine AWP.seq ?_
  refine ns ?_
  obtain rfl := Zh hF
  refine ns ?_
  refine Exists.intro [] ?_
  refine st ?_
  exact wx (WS.mk (tc Zb) Zc)

def Zdu (s : ByteArray) : Option (Int) :=
 Za2 s 2
def Zdu.M (s : ByteArray) (r : Int) : Prop :=
 Zk Tryz.prog 107 [.c none (.v (.string s))] [] (fun d b => d = .c none (.v (.int .i64 r)) ∧ b = [])
theorem Zm5 (s : ByteArray) (r : Int) (hF : Zdu s = some r) : Zdu.M s r := by
 unfold Zdu at hF
 unfold Zdu.M
 refine en Tryz.func107 ?_
 refine AWP.seq ?_
 refine ns ?_
 refine AWP.seq ?_
 refine AWP.seq ?_
 refine ns ?_
 refine AWP.block ?_
 refine AWP.loop ?_
 refine AWL.weak (rn []) ?_ (Zk3 s 2 _ hF)
 exact (WS.mk (tc (tc Zb)) Zc)

def Za3 (b_3 : ByteArray) : Option (Bool) :=
 Zbf b_3 >>= fun r5 =>
 some ((r5 == 2) || (r5 == 4))
def Za3.M (b_3 : ByteArray) (r : Bool) : Prop :=
 AWP Tryz.prog 34 (Code.sub (Zr Tryz.f106) [1, 1, 1, 1, 1]) (Code.cont Tryz.prog 34 (Zr Tryz.f106) [1, 1, 1, 1, 1] (ZbV tab Tryz.f106.results (Zb0 (.c none (.v (.bool r))) []))) ⟨[(3, .c none (.v (.string b_3)))], []⟩
theorem ZfX (b_3 : ByteArray) (r : Bool) (hF : Za3 b_3 = some r) : Za3.M b_3 r := by
 unfold Za3 at hF
 unfold Za3.M
 refine AWP.seq ?_
 obtain ⟨r5, hr5, hF⟩ := bind_some hF
 refine ns ?_
 refine e3 ?_
 refine st ?_
 refine cm (Zk.weak (rn []) (ZdN b_3 _ hr5) rfl (WS.mk (tc Zb) Zc)) ?_
 refine st ?_
 refine AWP.seq ?_
 refine AWP.cutN (fun T => ∃ r, WS r T ⟨[(2, .c none (.v (.bool ((r5 == 2) || (r5 == 4)))))], []⟩) ?_ (fun T hw => ?_)
 ·refine ns ?_
  refine Zl false (fun hc6 => ?_) (fun hc6 => ?_)
  ·(conv => whnf)
   refine st ?_
   exact wx (WS.mk (Zd (Zq (web hc6)) Zb) Zc)
  ·(conv => whnf)
   refine st ?_
   exact wx (WS.mk (Zd (Zq (web hc6)) Zb) Zc)
 obtain ⟨r0, hw⟩ := hw
 (conv => whnf)
 refine AWP.weak r0 hw ?_
 obtain rfl := Zh hF
 refine ns ?_
 refine Exists.intro [] ?_
 refine st ?_
 exact wx (WS.mk (tc Zb) Zc)

def Za6 (b_3 : ByteArray) : Option (Bool) :=
 ZcK b_3 >>= fun r3 =>
 if r3.2.2 = true then
 Za3 r3.2.1
 else
 Za3 b_3
def Za6.M (b_3 : ByteArray) (r : Bool) : Prop :=
 AWP Tryz.prog 34 (Code.sub (Zr Tryz.f106) [1, 1, 1]) (Code.cont Tryz.prog 34 (Zr Tryz.f106) [1, 1, 1] (ZbV tab Tryz.f106.results (Zb0 (.c none (.v (.bool r))) []))) ⟨[(3, .c none (.v (.string b_3)))], []⟩
theorem ZfZ (b_3 : ByteArray) (r : Bool) (hF : Za6 b_3 = some r) : Za6.M b_3 r := by
 unfold Za6 at hF
 unfold Za6.M
 refine AWP.seq ?_
 obtain ⟨r3, hr3, hF⟩ := bind_some hF
 refine ns ?_
 refine e3 ?_
 refine st ?_
 refine cm (Zk.weak (rn []) (Ziw b_3 _ hr3) rfl (WS.mk (tc Zb) Zc)) ?_
 refine st ?_
 refine AWP.seq ?_
 refine AWP.seq ?_
 refine ns ?_
 refine nw ?_
 refine Zi hF (fun hc7 hF => ?_) (fun hc7 hF => ?_)
 ·refine ns ?_
  refine AWP.weak (rn []) ?_ (ZfX r3.2.1 _ hF)
  exact (WS.mk (tc Zb) Zc)
 ·refine nw ?_
  refine AWP.weak (rn []) ?_ (ZfX b_3 _ hF)
  exact (WS.mk (tc Zb) Zc)

def Zcm (s : ByteArray) : Option (Bool) :=
 ZcH s >>= fun r1 =>
 if (!r1.2.2) = true then
 Za6 s
 else
 Za6 r1.1
def Zcm.M (s : ByteArray) (r : Bool) : Prop :=
 Zk Tryz.prog 106 [.c none (.v (.string s))] [] (fun d b => d = .c none (.v (.bool r)) ∧ b = [])
theorem Zku (s : ByteArray) (r : Bool) (hF : Zcm s = some r) : Zcm.M s r := by
 unfold Zcm at hF
 unfold Zcm.M
 refine en Tryz.func106 ?_
 refine AWP.seq ?_
 refine ns ?_
 refine AWP.seq ?_
 obtain ⟨r1, hr1, hF⟩ := bind_some hF
 refine ns ?_
 refine e3 ?_
 refine st ?_
 refine cm (Zk.weak (rn []) (ZgH s _ hr1) rfl (WS.mk (tc Zb) Zc)) ?_
 refine st ?_
 refine AWP.seq ?_
 refine AWP.seq ?_
 refine ns ?_
 refine nw ?_
 refine Zi hF (fun hc8 hF => ?_) (fun hc8 hF => ?_)
 ·refine ns ?_
  refine AWP.weak (rn []) ?_ (ZfZ s _ hF)
  exact (WS.mk (tc Zb) Zc)
 ·refine nw ?_
  refine AWP.weak (rn []) ?_ (ZfZ r1.1 _ hF)
  exact (WS.mk (tc Zb) Zc)

def ZcD (s : ByteArray) : Option (Bool) :=
 Zcm s >>= fun r1 =>
 (if (((r1 || (s.toList == (ByteArray.mk #[45, 62]).toList)) || (s.toList == (ByteArray.mk #[91, 93]).toList)) || (s.toList == (ByteArray.mk #[40, 41]).toList)) = true then some true else Zdu s >>= fun r2 =>
 some (decide (r2 > 0))) >>= fun c3 =>
 some c3
def ZcD.M (s : ByteArray) (r : Bool) : Prop :=
 Zk Tryz.prog 81 [.c none (.v (.string s))] [] (fun d b => d = .c none (.v (.bool r)) ∧ b = [])
theorem ZlM (s : ByteArray) (r : Bool) (hF : ZcD s = some r) : ZcD.M s r := by
 unfold ZcD at hF
 unfold ZcD.M
 refine en Tryz.func81 ?_
 refine AWP.seq ?_
 refine ns ?_
 refine AWP.seq ?_
 obtain ⟨r1, hr1, hF⟩ := bind_some hF
 obtain ⟨c3, hc3, hF⟩ := bind_some hF
 refine AWP.cutN (fun T => ∃ r, WS r T ⟨[(2, .c none (.v (.bool c3)))], []⟩) ?_ (fun T hw => ?_)
 ·refine ns ?_
  refine e3 ?_
  refine st ?_
  refine cm (Zk.weak (rn []) (Zku s _ hr1) rfl (WS.mk (tc Zb) Zc)) ?_
  refine st ?_
  refine Zl false (fun hc4 => ?_) (fun hc4 => ?_)
  ·(conv => whnf)
   have hc3 := ift hc4 hc3
   obtain rfl := Zh hc3
   refine st ?_
   exact wx (WS.mk (Zd (Zq (web hc4)) Zb) Zc)
  ·(conv => whnf)
   refine st ?_
   refine Zl false (fun hc5 => ?_) (fun hc5 => ?_)
   ·(conv => whnf)
    have hc3 := ift (And.intro hc4 hc5) hc3
    obtain rfl := Zh hc3
    refine st ?_
    exact wx (WS.mk (Zd (Zq (web (And.intro hc4 hc5))) Zb) Zc)
   ·(conv => whnf)
    refine st ?_
    refine Zl false (fun hc6 => ?_) (fun hc6 => ?_)
    ·(conv => whnf)
     have hc3 := ift (And.intro hc4 (And.intro hc5 hc6)) hc3
     obtain rfl := Zh hc3
     refine st ?_
     exact wx (WS.mk (Zd (Zq (web (And.intro hc4 (And.intro hc5 hc6)))) Zb) Zc)
    ·(conv => whnf)
     refine st ?_
     refine Zl false (fun hc7 => ?_) (fun hc7 => ?_)
     ·have hc3 := ift (And.intro hc4 (And.intro hc5 (And.intro hc6 hc7))) hc3
      (conv => whnf)
      obtain rfl := Zh hc3
      refine st ?_
      exact wx (WS.mk (Zd (Zq (web (And.intro hc4 (And.intro hc5 (And.intro hc6 hc7))))) Zb) Zc)
     ·have hc3 := ife (And.intro hc4 (And.intro hc5 (And.intro hc6 hc7))) hc3
      obtain ⟨r2, hr2, hc3⟩ := bind_some hc3
      (conv => whnf)
      refine st ?_
      refine e3 ?_
      refine st ?_
      refine cm (Zk.weak (rn []) (Zm5 s _ hr2) rfl (WS.mk (tc Zb) Zc)) ?_
      refine st ?_
      obtain rfl := Zh hc3
      refine st ?_
      exact wx (WS.mk (Zd (Zq (web (And.intro hc4 (And.intro hc5 (And.intro hc6 hc7))))) Zb) Zc)
 obtain ⟨r0, hw⟩ := hw
 (conv => whnf)
 refine AWP.weak r0 hw ?_
 obtain rfl := Zh hF
 refine ns ?_
 refine Exists.intro [] ?_
 refine st ?_
 exact wx (WS.mk (tc Zb) Zc)

def Zbk (s : ByteArray) : Option (Bool) :=
 ZcH s >>= fun r1 =>
 if r1.2.2 = true then
 Zbf r1.1 >>= fun r5 =>
 some (r5 == 1)
 else
 Zbf s >>= fun r6 =>
 some ((r6 == 1) && (!(s.toList == (ByteArray.mk #[102, 111, 114, 97, 108, 108]).toList)))
def Zbk.M (s : ByteArray) (r : Bool) : Prop :=
 Zk Tryz.prog 37 [.c none (.v (.string s))] [] (fun d b => d = .c none (.v (.bool r)) ∧ b = [])
theorem Zfm (s : ByteArray) (r : Bool) (hF : Zbk s = some r) : Zbk.M s r := by
 unfold Zbk at hF
 unfold Zbk.M
 refine en Tryz.func37 ?_
 refine AWP.seq ?_
 refine ns ?_
 refine AWP.seq ?_
 obtain ⟨r1, hr1, hF⟩ := bind_some hF
 refine ns ?_
 refine e3 ?_
 refine st ?_
 refine cm (Zk.weak (rn []) (ZgH s _ hr1) rfl (WS.mk (tc Zb) Zc)) ?_
 refine st ?_
 refine AWP.seq ?_
 refine AWP.seq ?_
 refine ns ?_
 refine nw ?_
 refine Zi hF (fun hc4 hF => ?_) (fun hc4 hF => ?_)
 ·refine AWP.seq ?_
  obtain ⟨r5, hr5, hF⟩ := bind_some hF
  refine ns ?_
  refine e3 ?_
  refine st ?_
  refine cm (Zk.weak (rn []) (ZdN r1.1 _ hr5) rfl (WS.mk (tc Zb) Zc)) ?_
  refine st ?_
  obtain rfl := Zh hF
  refine ns ?_
  refine Exists.intro [] ?_
  refine st ?_
  exact wx (WS.mk (tc Zb) Zc)
 ·refine nw ?_
  refine AWP.seq ?_
  obtain ⟨r6, hr6, hF⟩ := bind_some hF
  refine AWP.cutN (fun T => ∃ r, WS r T ⟨[(2, .c none (.v (.bool ((r6 == 1) && (!(s.toList == (ByteArray.mk #[102, 111, 114, 97, 108, 108]).toList))))))], []⟩) ?_ (fun T hw => ?_)
  ·refine ns ?_
   refine e3 ?_
   refine st ?_
   refine cm (Zk.weak (rn []) (ZdN s _ hr6) rfl (WS.mk (tc Zb) Zc)) ?_
   refine st ?_
   refine Zl true (fun hc7 => ?_) (fun hc7 => ?_)
   ·(conv => whnf)
    refine st ?_
    exact wx (WS.mk (Zd (Zq (web hc7)) Zb) Zc)
   ·(conv => whnf)
    refine st ?_
    exact wx (WS.mk (Zd (Zq (web hc7)) Zb) Zc)
  obtain ⟨r0, hw⟩ := hw
  (conv => whnf)
  refine AWP.weak r0 hw ?_
  obtain rfl := Zh hF
  refine ns ?_
  refine Exists.intro [] ?_
  refine st ?_
  exact wx (WS.mk (tc Zb) Zc)

mutual
def ZaF (t : Za) : Option (Bool) :=
 Za9 0 t t.fKids
 partial_fixpoint
def Za9 (i_3 : Nat) (t : Za) (ZgA : (List Za)) : Option (Bool) :=
 (match ZgA with
 | x39 :: Zvi =>
 ZaF x39 >>= fun r42 =>
 if (!r42) = true then
 some false
 else
 Za9 (i_3 + 1) t Zvi
 | [] =>
 if (t.fOp == 1) = true then
 Zbk t.fName >>= fun r46 =>
 some ((r46 && (((t.fBound.fArgs.length : Nat) : Int) == 0)) && (((t.fKids.length : Nat) : Int) == 0))
 else
 if (t.fOp == 2) = true then
 ZcD t.fName >>= fun r51 =>
 some ((r51 && (((t.fBound.fArgs.length : Nat) : Int) == 0)) && (((t.fKids.length : Nat) : Int) == 0))
 else
 if (t.fOp == 3) = true then
 some (((t.fName.toList == (ByteArray.mk #[]).toList) && (((t.fBound.fArgs.length : Nat) : Int) == 0)) && (((t.fKids.length : Nat) : Int) == 2))
 else
 if (t.fOp == 4) = true then
 Zbk t.fName >>= fun r60 =>
 some (r60 && (((t.fKids.length : Nat) : Int) == 1))
 else
 some false)
 partial_fixpoint
end
def ZaF.M (t : Za) (r : Bool) : Prop :=
 Zk Tryz.prog 56 [.agg [.v (.int .i64 t.fOp), .v (.string t.fName), .sl (t.fBound.fArgs.map Zj.cells), .sl (t.fKids.map Za.cells)]] [] (fun d b => d = .c none (.v (.bool r)) ∧ b = [])
def Za9.M (i_3 : Nat) (t : Za) (ZgA : (List Za)) (r : Bool) : Prop :=
 ∀ ZiB : List Za, t.fKids = ZiB ++ ZgA → i_3 = ZiB.length → AWL Tryz.prog 79 (Code.sub (Zr Tryz.f56) [1, 0, 1, 0, 0]) (Code.cont Tryz.prog 79 (Zr Tryz.f56) [1, 0, 1, 0] (ZbV tab Tryz.f56.results (Zb0 (.c none (.v (.bool r))) []))) ⟨[(1, .ptr 1 0), (3, .c none (.v (.int .i64 ((i_3 : Nat) : Int))))], [(1, [(none, .v (.int .i64 t.fOp)), (none, .v (.string t.fName)), (none, .sl (t.fBound.fArgs.map Zj.cells)), (none, .sl (t.fKids.map Za.cells))])]⟩
theorem ZlO : (∀ (t : Za), ∀ r, ZaF t = some r → ZaF.M t r) ∧ (∀ (i_3 : Nat) (t : Za) (ZgA : (List Za)), ∀ r, Za9 i_3 t ZgA = some r → Za9.M i_3 t ZgA r) := by
 refine ZaF.mutual_partial_correctness ZaF.M Za9.M ?_ ?_
 ·intro lazycref04_formed_l1' ZeU t r hF
  unfold ZaF.M
  refine en Tryz.func56 ?_
  refine AWP.seq ?_
  refine ns ?_
  refine AWP.seq ?_
  refine AWP.seq ?_
  refine ns ?_
  refine AWP.block ?_
  refine AWP.loop ?_
  refine AWL.weak (rn []) ?_ (ZeU 0 t t.fKids _ hF ([]) rfl rfl)
  exact (WS.mk (tp (tc Zb)) (Zf rfl (cc (cc (cc (cc Zg)))) Zc))
 ·intro lazycref04_formed' lazycref04_formed_l1' ZmB ZeU i_3 t ZgA r hF
  unfold Za9.M
  intro ZiB ZqP Zq1
  refine AWL.step ?_
  refine AWP.seq ?_
  refine AWP.seq ?_
  refine ns ?_
  intro hlen38
  (try rw [List.length_map] at hlen38)
  (try rw [List.length_map])
  refine st ?_
  refine nw ?_
  refine ZF ZqP Zq1 (fun x39 Zvi Zv3 ZAF ZBs => ?_) (fun Zv3 => ?_)
  ·subst Zv3
   refine nw ?_
   refine AWP.seq ?_
   refine AWP.block ?_
   refine AWP.seq ?_
   obtain ⟨r42, ZGi, hF⟩ := bind_some hF
   refine nn ?_
   refine sr (ZX (f := Za.cells) (Za.cells_eq x39) ZAF) ?_
   refine st ?_
   refine e3 ?_
   refine st ?_
   refine cm (Zk.weak (rn []) (ZmB x39 _ ZGi) rfl (WS.mk (Zd (Zp (lc (lc (lc (lc Zn))))) Zb) Zc)) ?_
   refine st ?_
   refine nw ?_
   refine Zi hF (fun Zv0 hF => ?_) (fun Zv0 hF => ?_)
   ·refine AWP.seq ?_
    refine ns ?_
    obtain rfl := Zh hF
    refine ns ?_
    refine Exists.intro [] ?_
    refine st ?_
    exact wx (WS.mk (tc Zb) Zc)
   ·refine nw ?_
    refine ns ?_
    refine AWL.weak (rn []) ?_ (ZeU (i_3 + 1) t Zvi _ hF (ZiB ++ [x39]) (by rw [ZqP]; simp) (by rw [Zq1]; simp))
    exact (WS.mk (tp (Zd (Zq (Zc0 (ZP hlen38 ZBs))) Zb)) (Zf rfl (cc (cc (cc (cc Zg)))) Zc))
  ·subst Zv3
   refine nw ?_
   refine AWP.seq ?_
   refine ns ?_
   intro hlen44
   (try rw [List.length_map] at hlen44)
   (try rw [List.length_map])
   refine st ?_
   refine AWP.seq ?_
   refine AWP.seq ?_
   refine ns ?_
   refine AWP.block ?_
   refine AWP.seq ?_
   refine ns ?_
   refine nw ?_
   refine Zi hF (fun ZCg hF => ?_) (fun ZCg hF => ?_)
   ·refine AWP.seq ?_
    obtain ⟨r46, ZGP, hF⟩ := bind_some hF
    refine AWP.cutN (fun T => ∃ r, WS r T ⟨[(2, .c none (.v (.bool ((r46 && (((t.fBound.fArgs.length : Nat) : Int) == 0)) && (((t.fKids.length : Nat) : Int) == 0)))))], []⟩) ?_ (fun T hw => ?_)
    ·refine ns ?_
     refine e3 ?_
     refine st ?_
     refine cm (Zk.weak (rn []) (Zfm t.fName _ ZGP) rfl (WS.mk (tc Zb) Zc)) ?_
     refine st ?_
     refine Zl true (fun ZAc => ?_) (fun ZAc => ?_)
     ·(conv => whnf)
      refine st ?_
      refine Zl true (fun ZBw => ?_) (fun ZBw => ?_)
      ·(conv => whnf)
       refine st ?_
       intro hlen47
       (try rw [List.length_map] at hlen47)
       (try rw [List.length_map])
       refine st ?_
       exact wx (WS.mk (Zd (Zq (web (And.intro ZAc ZBw))) Zb) Zc)
      ·(conv => whnf)
       refine st ?_
       exact wx (WS.mk (Zd (Zq (web (And.intro ZAc ZBw))) Zb) Zc)
     ·(conv => whnf)
      refine st ?_
      exact wx (WS.mk (Zd (Zq (web ZAc)) Zb) Zc)
    obtain ⟨r0, hw⟩ := hw
    (conv => whnf)
    refine AWP.weak r0 hw ?_
    obtain rfl := Zh hF
    refine ns ?_
    refine Exists.intro [] ?_
    refine st ?_
    exact wx (WS.mk (tc Zb) Zc)
   ·refine AWP.seq ?_
    refine ns ?_
    refine nw ?_
    refine Zi hF (fun ZDf hF => ?_) (fun ZDf hF => ?_)
    ·refine AWP.seq ?_
     obtain ⟨r51, ZHi, hF⟩ := bind_some hF
     refine AWP.cutN (fun T => ∃ r, WS r T ⟨[(2, .c none (.v (.bool ((r51 && (((t.fBound.fArgs.length : Nat) : Int) == 0)) && (((t.fKids.length : Nat) : Int) == 0)))))], []⟩) ?_ (fun T hw => ?_)
     ·refine ns ?_
      refine e3 ?_
      refine st ?_
      refine cm (Zk.weak (rn []) (ZlM t.fName _ ZHi) rfl (WS.mk (tc Zb) Zc)) ?_
      refine st ?_
      refine Zl true (fun ZAh => ?_) (fun ZAh => ?_)
      ·(conv => whnf)
       refine st ?_
       refine Zl true (fun ZeS => ?_) (fun ZeS => ?_)
       ·(conv => whnf)
        refine st ?_
        intro hlen52
        (try rw [List.length_map] at hlen52)
        (try rw [List.length_map])
        refine st ?_
        exact wx (WS.mk (Zd (Zq (web (And.intro ZAh ZeS))) Zb) Zc)
       ·(conv => whnf)
        refine st ?_
        exact wx (WS.mk (Zd (Zq (web (And.intro ZAh ZeS))) Zb) Zc)
      ·(conv => whnf)
       refine st ?_
       exact wx (WS.mk (Zd (Zq (web ZAh)) Zb) Zc)
     obtain ⟨r0, hw⟩ := hw
     (conv => whnf)
     refine AWP.weak r0 hw ?_
     obtain rfl := Zh hF
     refine ns ?_
     refine Exists.intro [] ?_
     refine st ?_
     exact wx (WS.mk (tc Zb) Zc)
    ·refine AWP.seq ?_
     refine ns ?_
     refine nw ?_
     refine Zi hF (fun ZnA hF => ?_) (fun ZnA hF => ?_)
     ·refine AWP.seq ?_
      refine AWP.cutN (fun T => ∃ r, WS r T ⟨[(2, .c none (.v (.bool (((t.fName.toList == (ByteArray.mk #[]).toList) && (((t.fBound.fArgs.length : Nat) : Int) == 0)) && (((t.fKids.length : Nat) : Int) == 2)))))], []⟩) ?_ (fun T hw => ?_)
      ·refine ns ?_
       refine Zl true (fun Zje => ?_) (fun Zje => ?_)
       ·(conv => whnf)
        refine st ?_
        refine Zl true (fun ZnK => ?_) (fun ZnK => ?_)
        ·(conv => whnf)
         refine st ?_
         intro hlen56
         (try rw [List.length_map] at hlen56)
         (try rw [List.length_map])
         refine st ?_
         exact wx (WS.mk (Zd (Zq (web (And.intro Zje ZnK))) Zb) Zc)
        ·(conv => whnf)
         refine st ?_
         exact wx (WS.mk (Zd (Zq (web (And.intro Zje ZnK))) Zb) Zc)
       ·(conv => whnf)
        refine st ?_
        exact wx (WS.mk (Zd (Zq (web Zje)) Zb) Zc)
      obtain ⟨r0, hw⟩ := hw
      (conv => whnf)
      refine AWP.weak r0 hw ?_
      obtain rfl := Zh hF
      refine ns ?_
      refine Exists.intro [] ?_
      refine st ?_
      exact wx (WS.mk (tc Zb) Zc)
     ·refine AWP.seq ?_
      refine ns ?_
      refine nw ?_
      refine Zi hF (fun Zv7 hF => ?_) (fun Zv7 hF => ?_)
      ·refine AWP.seq ?_
       obtain ⟨r60, ZBl, hF⟩ := bind_some hF
       refine AWP.cutN (fun T => ∃ r, WS r T ⟨[(2, .c none (.v (.bool (r60 && (((t.fKids.length : Nat) : Int) == 1)))))], []⟩) ?_ (fun T hw => ?_)
       ·refine ns ?_
        refine e3 ?_
        refine st ?_
        refine cm (Zk.weak (rn []) (Zfm t.fName _ ZBl) rfl (WS.mk (tc Zb) Zc)) ?_
        refine st ?_
        refine Zl true (fun ZuL => ?_) (fun ZuL => ?_)
        ·(conv => whnf)
         refine st ?_
         intro hlen61
         (try rw [List.length_map] at hlen61)
         (try rw [List.length_map])
         refine st ?_
         exact wx (WS.mk (Zd (Zq (web ZuL)) Zb) Zc)
        ·(conv => whnf)
         refine st ?_
         exact wx (WS.mk (Zd (Zq (web ZuL)) Zb) Zc)
       obtain ⟨r0, hw⟩ := hw
       (conv => whnf)
       refine AWP.weak r0 hw ?_
       obtain rfl := Zh hF
       refine ns ?_
       refine Exists.intro [] ?_
       refine st ?_
       exact wx (WS.mk (tc Zb) Zc)
      ·refine nw ?_
       refine AWP.seq ?_
       refine ns ?_
       obtain rfl := Zh hF
       refine ns ?_
       refine Exists.intro [] ?_
       refine st ?_
       exact wx (WS.mk (tc Zb) Zc)
theorem Zmp : ∀ (t : Za), ∀ r, ZaF t = some r → ZaF.M t r := ZlO.1

mutual
def Zah (k : Zj) : Option (Int) :=
 ZaB 0 0 k k.fArgs
 partial_fixpoint
def ZaB (n_3 : Int) (i_4 : Nat) (k : Zj) (Zbv : (List Zj)) : Option (Int) :=
 (match Zbv with
 | x16 :: ZiV =>
 Zah x16 >>= fun r19 =>
 ZaB (if r19 > n_3 then r19 else n_3) (i_4 + 1) k ZiV
 | [] =>
 some (IntKind.i64.wrap (n_3 + 1)))
 partial_fixpoint
end
def Zah.M (k : Zj) (r : Int) : Prop :=
 Zk Tryz.prog 83 [.agg [.sl (k.fArgs.map Zj.cells)]] [] (fun d b => d = .c none (.v (.int .i64 r)) ∧ b = [])
def ZaB.M (n_3 : Int) (i_4 : Nat) (k : Zj) (Zbv : (List Zj)) (r : Int) : Prop :=
 ∀ Zdd : List Zj, k.fArgs = Zdd ++ Zbv → i_4 = Zdd.length → AWL Tryz.prog 22 (Code.sub (Zr Tryz.f83) [1, 1, 0, 1, 0, 0]) (Code.cont Tryz.prog 22 (Zr Tryz.f83) [1, 1, 0, 1, 0] (ZbV tab Tryz.f83.results (Zb0 (.c none (.v (.int .i64 r))) []))) ⟨[(1, .ptr 1 0), (3, .c none (.v (.int .i64 n_3))), (4, .c none (.v (.int .i64 ((i_4 : Nat) : Int))))], [(1, [(none, .sl (k.fArgs.map Zj.cells))])]⟩
theorem ZjR : (∀ (k : Zj), ∀ r, Zah k = some r → Zah.M k r) ∧ (∀ (n_3 : Int) (i_4 : Nat) (k : Zj) (Zbv : (List Zj)), ∀ r, ZaB n_3 i_4 k Zbv = some r → ZaB.M n_3 i_4 k Zbv r) := by
 refine Zah.mutual_partial_correctness Zah.M ZaB.M ?_ ?_
 ·intro lazycref04_KindDepth_l1' Zen k r hF
  unfold Zah.M
  refine en Tryz.func83 ?_
  refine AWP.seq ?_
  refine ns ?_
  refine AWP.seq ?_
  refine ns ?_
  refine AWP.seq ?_
  refine AWP.seq ?_
  refine ns ?_
  refine AWP.block ?_
  refine AWP.loop ?_
  refine AWL.weak (rn []) ?_ (Zen 0 0 k k.fArgs _ hF ([]) rfl rfl)
  exact (WS.mk (tp (tc (tc Zb))) (Zf rfl (cc Zg) Zc))
 ·intro lazycref04_KindDepth' lazycref04_KindDepth_l1' Zkj Zen n_3 i_4 k Zbv r hF
  unfold ZaB.M
  intro Zdd Zhr Zhq
  refine AWL.step ?_
  refine AWP.seq ?_
  refine AWP.seq ?_
  refine ns ?_
  intro hlen15
  (try rw [List.length_map] at hlen15)
  (try rw [List.length_map])
  refine st ?_
  refine nw ?_
  refine ZF Zhr Zhq (fun x16 ZiV Zjf Zp0 ZrK => ?_) (fun Zjf => ?_)
  ·subst Zjf
   refine nw ?_
   refine AWP.seq ?_
   refine AWP.block ?_
   obtain ⟨r19, ZqJ, hF⟩ := bind_some hF
   refine nn ?_
   refine sr (ZX (f := Zj.cells) (Zj.cells_eq x16) Zp0) ?_
   refine st ?_
   refine e3 ?_
   refine st ?_
   refine cm (Zk.weak (rn []) (Zkj x16 _ ZqJ) rfl (WS.mk (Zd (Zp (lc Zn)) Zb) Zc)) ?_
   refine st ?_
   refine ns ?_
   refine AWL.weak (rn []) ?_ (Zen (if r19 > n_3 then r19 else n_3) (i_4 + 1) k ZiV _ hF (Zdd ++ [x16]) (by rw [Zhr]; simp) (by rw [Zhq]; simp))
   exact (WS.mk (tp (tc (Zd (Zq (Zc0 (ZP hlen15 ZrK))) Zb))) (Zf rfl (cc Zg) Zc))
  ·subst Zjf
   refine nw ?_
   refine AWP.seq ?_
   refine ns ?_
   obtain rfl := Zh hF
   refine ns ?_
   refine Exists.intro [] ?_
   refine st ?_
   exact wx (WS.mk (tc Zb) Zc)
theorem Zj6 : ∀ (k : Zj), ∀ r, Zah k = some r → Zah.M k r := ZjR.1

mutual
def Zan (k : Zj) : Option (Int) :=
 ZaI 1 0 k k.fArgs
 partial_fixpoint
def ZaI (n_3 : Int) (i_4 : Nat) (k : Zj) (Zbv : (List Zj)) : Option (Int) :=
 (match Zbv with
 | x16 :: ZiV =>
 Zan x16 >>= fun r19 =>
 ZaI (IntKind.i64.wrap (n_3 + r19)) (i_4 + 1) k ZiV
 | [] =>
 some n_3)
 partial_fixpoint
end
def Zan.M (k : Zj) (r : Int) : Prop :=
 Zk Tryz.prog 82 [.agg [.sl (k.fArgs.map Zj.cells)]] [] (fun d b => d = .c none (.v (.int .i64 r)) ∧ b = [])
def ZaI.M (n_3 : Int) (i_4 : Nat) (k : Zj) (Zbv : (List Zj)) (r : Int) : Prop :=
 ∀ Zdd : List Zj, k.fArgs = Zdd ++ Zbv → i_4 = Zdd.length → AWL Tryz.prog 21 (Code.sub (Zr Tryz.f82) [1, 1, 0, 1, 0, 0]) (Code.cont Tryz.prog 21 (Zr Tryz.f82) [1, 1, 0, 1, 0] (ZbV tab Tryz.f82.results (Zb0 (.c none (.v (.int .i64 r))) []))) ⟨[(1, .ptr 1 0), (3, .c none (.v (.int .i64 n_3))), (4, .c none (.v (.int .i64 ((i_4 : Nat) : Int))))], [(1, [(none, .sl (k.fArgs.map Zj.cells))])]⟩
theorem Zkr : (∀ (k : Zj), ∀ r, Zan k = some r → Zan.M k r) ∧ (∀ (n_3 : Int) (i_4 : Nat) (k : Zj) (Zbv : (List Zj)), ∀ r, ZaI n_3 i_4 k Zbv = some r → ZaI.M n_3 i_4 k Zbv r) := by
 refine Zan.mutual_partial_correctness Zan.M ZaI.M ?_ ?_
 ·intro lazycref04_KindSize_l1' Zev k r hF
  unfold Zan.M
  refine en Tryz.func82 ?_
  refine AWP.seq ?_
  refine ns ?_
  refine AWP.seq ?_
  refine ns ?_
  refine AWP.seq ?_
  refine AWP.seq ?_
  refine ns ?_
  refine AWP.block ?_
  refine AWP.loop ?_
  refine AWL.weak (rn []) ?_ (Zev 1 0 k k.fArgs _ hF ([]) rfl rfl)
  exact (WS.mk (tp (tc (tc Zb))) (Zf rfl (cc Zg) Zc))
 ·intro lazycref04_KindSize' lazycref04_KindSize_l1' ZkV Zev n_3 i_4 k Zbv r hF
  unfold ZaI.M
  intro Zdd Zhr Zhq
  refine AWL.step ?_
  refine AWP.seq ?_
  refine AWP.seq ?_
  refine ns ?_
  intro hlen15
  (try rw [List.length_map] at hlen15)
  (try rw [List.length_map])
  refine st ?_
  refine nw ?_
  refine ZF Zhr Zhq (fun x16 ZiV Zjf Zp0 ZrK => ?_) (fun Zjf => ?_)
  ·subst Zjf
   refine nw ?_
   refine AWP.seq ?_
   refine AWP.block ?_
   obtain ⟨r19, ZqJ, hF⟩ := bind_some hF
   refine nn ?_
   refine sr (ZX (f := Zj.cells) (Zj.cells_eq x16) Zp0) ?_
   refine st ?_
   refine e3 ?_
   refine st ?_
   refine cm (Zk.weak (rn []) (ZkV x16 _ ZqJ) rfl (WS.mk (Zd (Zp (lc Zn)) Zb) Zc)) ?_
   refine st ?_
   refine ns ?_
   refine AWL.weak (rn []) ?_ (Zev (IntKind.i64.wrap (n_3 + r19)) (i_4 + 1) k ZiV _ hF (Zdd ++ [x16]) (by rw [Zhr]; simp) (by rw [Zhq]; simp))
   exact (WS.mk (tp (tc (Zd (Zq (Zc0 (ZP hlen15 ZrK))) Zb))) (Zf rfl (cc Zg) Zc))
  ·subst Zjf
   refine nw ?_
   refine AWP.seq ?_
   refine ns ?_
   obtain rfl := Zh hF
   refine ns ?_
   refine Exists.intro [] ?_
   refine st ?_
   exact wx (WS.mk (tc Zb) Zc)
theorem Zlg : ∀ (k : Zj), ∀ r, Zan k = some r → Zan.M k r := Zkr.1

mutual
def ZaN (t : Za) : Option (Int × Int) :=
 Zan t.fBound >>= fun r3 =>
 Zah t.fBound >>= fun r4 =>
 Zbq r3 r4 0 t t.fKids
 partial_fixpoint
def Zbq (ZdB : Int) (Zcx : Int) (i_6 : Nat) (t : Za) (ZeX : (List Za)) : Option (Int × Int) :=
 (match ZeX with
 | x20 :: ZBS =>
 ZaN x20 >>= fun r23 =>
 Zbq (if r23.1 > ZdB then r23.1 else ZdB) (if r23.2 > Zcx then r23.2 else Zcx) (i_6 + 1) t ZBS
 | [] =>
 some (ZdB, Zcx))
 partial_fixpoint
end
def ZaN.M (t : Za) (r : Int × Int) : Prop :=
 Zk Tryz.prog 57 [.agg [.v (.int .i64 t.fOp), .v (.string t.fName), .sl (t.fBound.fArgs.map Zj.cells), .sl (t.fKids.map Za.cells)]] [] (fun d b => d = .tup [.c (.v (.int .i64 r.1)), .c (.v (.int .i64 r.2))] ∧ b = [])
def Zbq.M (ZdB : Int) (Zcx : Int) (i_6 : Nat) (t : Za) (ZeX : (List Za)) (r : Int × Int) : Prop :=
 ∀ ZiD : List Za, t.fKids = ZiD ++ ZeX → i_6 = ZiD.length → AWL Tryz.prog 39 (Code.sub (Zr Tryz.f57) [1, 1, 0, 1, 0, 0]) (Code.cont Tryz.prog 39 (Zr Tryz.f57) [1, 1, 0, 1, 0] (ZbV tab Tryz.f57.results (Zb0 (.tup [.c (.v (.int .i64 r.1)), .c (.v (.int .i64 r.2))]) []))) ⟨[(1, .ptr 1 0), (4, .c none (.v (.int .i64 ZdB))), (5, .c none (.v (.int .i64 Zcx))), (6, .c none (.v (.int .i64 ((i_6 : Nat) : Int))))], [(1, [(none, .v (.int .i64 t.fOp)), (none, .v (.string t.fName)), (none, .sl (t.fBound.fArgs.map Zj.cells)), (none, .sl (t.fKids.map Za.cells))])]⟩
theorem Zl1 : (∀ (t : Za), ∀ r, ZaN t = some r → ZaN.M t r) ∧ (∀ (ZdB : Int) (Zcx : Int) (i_6 : Nat) (t : Za) (ZeX : (List Za)), ∀ r, Zbq ZdB Zcx i_6 t ZeX = some r → Zbq.M ZdB Zcx i_6 t ZeX r) := by
 refine ZaN.mutual_partial_correctness ZaN.M Zbq.M ?_ ?_
 ·intro lazycref04_kinds_l1' Ze8 t r hF
  unfold ZaN.M
  refine en Tryz.func57 ?_
  refine AWP.seq ?_
  refine ns ?_
  refine AWP.seq ?_
  obtain ⟨r3, hr3, hF⟩ := bind_some hF
  obtain ⟨r4, hr4, hF⟩ := bind_some hF
  refine nn ?_
  refine Or.inl (Or.inr (Exists.intro [3, 4] (Exists.intro [[12, 13], [13]] (Exists.intro [1] (Exists.intro [1, 12, 13] (Exists.intro [12, 13] (Exists.intro [0, 1, 2, 5, 6, 7] (And.intro (by decide +kernel) ?_))))))))
  refine dp ?_
  refine dp ?_
  refine st ?_
  refine e3 ?_
  refine st ?_
  refine cm (Zk.weak (rn []) (Zlg t.fBound _ hr3) rfl (WS.mk (Zd (Zp (lc Zn)) Zb) Zc)) ?_
  refine st ?_
  refine e3 ?_
  refine st ?_
  refine cm (Zk.weak (rn []) (Zj6 t.fBound _ hr4) rfl (WS.mk (Zd (Zp (lc Zn)) Zb) Zc)) ?_
  refine st ?_
  refine AWP.seq ?_
  refine AWP.seq ?_
  refine ns ?_
  refine AWP.block ?_
  refine AWP.loop ?_
  refine AWL.weak (rn []) ?_ (Ze8 r3 r4 0 t t.fKids _ hF ([]) rfl rfl)
  exact (WS.mk (tp (tc (tc (tc Zb)))) (Zf rfl (cc (cc (cc (cc Zg)))) Zc))
 ·intro lazycref04_kinds' lazycref04_kinds_l1' Zm6 Ze8 ZdB Zcx i_6 t ZeX r hF
  unfold Zbq.M
  intro ZiD Zq9 Zqn
  refine AWL.step ?_
  refine AWP.seq ?_
  refine AWP.seq ?_
  refine ns ?_
  intro hlen19
  (try rw [List.length_map] at hlen19)
  (try rw [List.length_map])
  refine st ?_
  refine nw ?_
  refine ZF Zq9 Zqn (fun x20 ZBS ZCJ ZGM ZFZ => ?_) (fun ZCJ => ?_)
  ·subst ZCJ
   refine nw ?_
   refine AWP.seq ?_
   refine AWP.block ?_
   refine AWP.seq ?_
   obtain ⟨r23, Ztc, hF⟩ := bind_some hF
   refine nn ?_
   refine sr (ZX (f := Za.cells) (Za.cells_eq x20) ZGM) ?_
   refine st ?_
   refine e3 ?_
   refine st ?_
   refine cm (Zk.weak (rn []) (Zm6 x20 _ Ztc) rfl (WS.mk (Zd (Zp (lc (lc (lc (lc Zn))))) Zb) Zc)) ?_
   refine st ?_
   refine AWP.seq ?_
   refine ns ?_
   refine ns ?_
   refine ns ?_
   refine AWL.weak (rn []) ?_ (Ze8 (if r23.1 > ZdB then r23.1 else ZdB) (if r23.2 > Zcx then r23.2 else Zcx) (i_6 + 1) t ZBS _ hF (ZiD ++ [x20]) (by rw [Zq9]; simp) (by rw [Zqn]; simp))
   exact (WS.mk (tp (tc (tc (Zd (Zq (Zc0 (ZP hlen19 ZFZ))) Zb)))) (Zf rfl (cc (cc (cc (cc Zg)))) Zc))
  ·subst ZCJ
   refine nw ?_
   refine AWP.seq ?_
   refine ns ?_
   obtain rfl := Zh hF
   refine ns ?_
   refine Exists.intro [] ?_
   refine st ?_
   exact wx (WS.mk (Zd (Zca (ZbI (WE.refl _) (ZbI (WE.refl _) Zb8))) Zb) Zc)
theorem Zng : ∀ (t : Za), ∀ r, ZaN t = some r → ZaN.M t r := Zl1.1

def ZaG (t : Za) : Option (Int) :=
 ZaF t >>= fun r3 =>
 if (!r3) = true then
 some 1
 else
 ZaN t >>= fun r5 =>
 Zay t >>= fun r8 =>
 if ((decide (r8 > 20000)) || (decide (r5.1 > 20000))) = true then
 some 3
 else
 Zax t >>= fun r11 =>
 if ((decide (r11 > 100)) || (decide (r5.2 > 100))) = true then
 some 4
 else
 some 0
def ZaG.M (t : Za) (r : Int) : Prop :=
 Zk Tryz.prog 36 [.agg [.v (.int .i64 t.fOp), .v (.string t.fName), .sl (t.fBound.fArgs.map Zj.cells), .sl (t.fKids.map Za.cells)]] [] (fun d b => d = .c none (.v (.int .i64 r)) ∧ b = [])
theorem ZdT (t : Za) (r : Int) (hF : ZaG t = some r) : ZaG.M t r := by
 unfold ZaG at hF
 unfold ZaG.M
 refine en Tryz.func36 ?_
 refine AWP.seq ?_
 refine ns ?_
 refine AWP.seq ?_
 refine AWP.seq ?_
 obtain ⟨r3, hr3, hF⟩ := bind_some hF
 refine ns ?_
 refine e3 ?_
 refine st ?_
 refine cm (Zk.weak (rn []) (Zmp t _ hr3) rfl (WS.mk (Zd (Zp (lc (lc (lc (lc Zn))))) Zb) Zc)) ?_
 refine st ?_
 refine nw ?_
 refine Zi hF (fun hc4 hF => ?_) (fun hc4 hF => ?_)
 ·refine AWP.seq ?_
  refine ns ?_
  obtain rfl := Zh hF
  refine ns ?_
  refine Exists.intro [] ?_
  refine st ?_
  exact wx (WS.mk (tc Zb) Zc)
 ·refine nw ?_
  refine AWP.seq ?_
  obtain ⟨r5, hr5, hF⟩ := bind_some hF
  refine ns ?_
  refine e3 ?_
  refine st ?_
  refine cm (Zk.weak (rn []) (Zng t _ hr5) rfl (WS.mk (Zd (Zp (lc (lc (lc (lc Zn))))) Zb) Zc)) ?_
  refine st ?_
  refine AWP.seq ?_
  refine AWP.seq ?_
  obtain ⟨r8, hr8, hF⟩ := bind_some hF
  refine AWP.cutN (fun T => ∃ r, WS r T ⟨[(1, .ptr 1 0), (4, .c none (.v (.int .i64 r5.2))), (19, .c none (.v (.bool ((decide (r8 > 20000)) || (decide (r5.1 > 20000))))))], [(1, [(none, .v (.int .i64 t.fOp)), (none, .v (.string t.fName)), (none, .sl (t.fBound.fArgs.map Zj.cells)), (none, .sl (t.fKids.map Za.cells))])]⟩) ?_ (fun T hw => ?_)
  ·refine ns ?_
   refine e3 ?_
   refine st ?_
   refine cm (Zk.weak (rn []) (ZgF t _ hr8) rfl (WS.mk (Zd (Zp (lc (lc (lc (lc Zn))))) Zb) Zc)) ?_
   refine st ?_
   refine Zl false (fun hc9 => ?_) (fun hc9 => ?_)
   ·(conv => whnf)
    refine st ?_
    exact wx (WS.mk (tp (tc (Zd (Zq (web hc9)) Zb))) (Zf rfl (cc (cc (cc (cc Zg)))) Zc))
   ·(conv => whnf)
    refine st ?_
    exact wx (WS.mk (tp (tc (Zd (Zq (web hc9)) Zb))) (Zf rfl (cc (cc (cc (cc Zg)))) Zc))
  obtain ⟨r0, hw⟩ := hw
  (conv => whnf)
  refine AWP.weak r0 hw ?_
  refine nw ?_
  refine Zi hF (fun ZeW hF => ?_) (fun ZeW hF => ?_)
  ·refine AWP.seq ?_
   refine ns ?_
   obtain rfl := Zh hF
   refine ns ?_
   refine Exists.intro [] ?_
   refine st ?_
   exact wx (WS.mk (tc Zb) Zc)
  ·refine nw ?_
   refine AWP.seq ?_
   refine AWP.seq ?_
   obtain ⟨r11, Zvf, hF⟩ := bind_some hF
   refine AWP.cutN (fun T => ∃ r, WS r T ⟨[(26, .c none (.v (.bool ((decide (r11 > 100)) || (decide (r5.2 > 100))))))], []⟩) ?_ (fun T hw => ?_)
   ·refine ns ?_
    refine e3 ?_
    refine st ?_
    refine cm (Zk.weak (rn []) (Zf6 t _ Zvf) rfl (WS.mk (Zd (Zp (lc (lc (lc (lc Zn))))) Zb) Zc)) ?_
    refine st ?_
    refine Zl false (fun Zeo => ?_) (fun Zeo => ?_)
    ·(conv => whnf)
     refine st ?_
     exact wx (WS.mk (Zd (Zq (web Zeo)) Zb) Zc)
    ·(conv => whnf)
     refine st ?_
     exact wx (WS.mk (Zd (Zq (web Zeo)) Zb) Zc)
   obtain ⟨r0, hw⟩ := hw
   (conv => whnf)
   refine AWP.weak r0 hw ?_
   refine nw ?_
   refine Zi hF (fun ZcB hF => ?_) (fun ZcB hF => ?_)
   ·refine AWP.seq ?_
    refine ns ?_
    obtain rfl := Zh hF
    refine ns ?_
    refine Exists.intro [] ?_
    refine st ?_
    exact wx (WS.mk (tc Zb) Zc)
   ·refine nw ?_
    refine AWP.seq ?_
    refine ns ?_
    obtain rfl := Zh hF
    refine ns ?_
    refine Exists.intro [] ?_
    refine st ?_
    exact wx (WS.mk (tc Zb) Zc)

mutual
def ZaP (t : Za) : Option (Bool) :=
 (if (t.fOp == 4) = true then some true else ZW t.fKids >>= fun r1 =>
 some r1) >>= fun c2 =>
 some c2
 partial_fixpoint
def ZW (s : (List Za)) : Option (Bool) :=
 Z7 s >>= fun r1 =>
 some (decide (r1 ≥ 0))
 partial_fixpoint
def Z7 (s : (List Za)) : Option (Int) :=
 Zz s 0 s
 partial_fixpoint
def Zz (s : (List Za)) (x_8 : Nat) (ZaJ : (List Za)) : Option (Int) :=
 (match ZaJ with
 | x13 :: ZvV =>
 ZaP x13 >>= fun r16 =>
 if r16 = true then
 some ((x_8 : Nat) : Int)
 else
 Zz s (x_8 + 1) ZvV
 | [] =>
 some (-1))
 partial_fixpoint
end
def ZaP.M (t : Za) (r : Bool) : Prop :=
 Zk Tryz.prog 51 [.agg [.v (.int .i64 t.fOp), .v (.string t.fName), .sl (t.fBound.fArgs.map Zj.cells), .sl (t.fKids.map Za.cells)]] [] (fun d b => d = .c none (.v (.bool r)) ∧ b = [])
def ZW.M (s : (List Za)) (r : Bool) : Prop :=
 Zk Tryz.prog 79 [.c none (.sl (s.map Za.cells)), .c none (.v (.func (.func 51) #[] #[]))] [] (fun d b => d = .c none (.v (.bool r)) ∧ b = [])
def Z7.M (s : (List Za)) (r : Int) : Prop :=
 Zk Tryz.prog 104 [.c none (.sl (s.map Za.cells)), .c none (.v (.func (.func 51) #[] #[]))] [] (fun d b => d = .c none (.v (.int .i64 r)) ∧ b = [])
def Zz.M (s : (List Za)) (x_8 : Nat) (ZaJ : (List Za)) (r : Int) : Prop :=
 ∀ Zdc : List Za, s = Zdc ++ ZaJ → x_8 = Zdc.length → s.length ≤ maxLen → AWL Tryz.prog 19 (Code.sub (Zr Tryz.f104) [1, 0, 1, 0, 0]) (Code.cont Tryz.prog 19 (Zr Tryz.f104) [1, 0, 1, 0] (ZbV tab Tryz.f104.results (Zb0 (.c none (.v (.int .i64 r))) []))) ⟨[(0, .c none (.sl (s.map Za.cells))), (1, .c none (.v (.func (.func 51) #[] #[]))), (7, .c none (.v (.int .i64 ((s.length : Nat) : Int)))), (8, .c none (.v (.int .i64 ((x_8 : Nat) : Int))))], []⟩
theorem Zmu : (∀ (t : Za), ∀ r, ZaP t = some r → ZaP.M t r) ∧ (∀ (s : (List Za)), ∀ r, ZW s = some r → ZW.M s r) ∧ (∀ (s : (List Za)), ∀ r, Z7 s = some r → Z7.M s r) ∧ (∀ (s : (List Za)) (x_8 : Nat) (ZaJ : (List Za)), ∀ r, Zz s x_8 ZaJ = some r → Zz.M s x_8 ZaJ r) := by
 refine ZaP.mutual_partial_correctness ZaP.M ZW.M Z7.M Zz.M ?_ ?_ ?_ ?_
 ·intro slices_ContainsFunc_Type_unify_quantified' ZeP t r hF
  unfold ZaP.M
  refine en Tryz.func51 ?_
  refine AWP.seq ?_
  refine ns ?_
  refine AWP.seq ?_
  obtain ⟨c2, hc2, hF⟩ := bind_some hF
  refine AWP.cutN (fun T => ∃ r, WS r T ⟨[(2, .c none (.v (.bool c2)))], []⟩) ?_ (fun T hw => ?_)
  ·refine ns ?_
   refine Zl false (fun hc3 => ?_) (fun hc3 => ?_)
   ·have hc2 := ift hc3 hc2
    (conv => whnf)
    obtain rfl := Zh hc2
    refine st ?_
    exact wx (WS.mk (Zd (Zq (web hc3)) Zb) Zc)
   ·have hc2 := ife hc3 hc2
    obtain ⟨r1, hr1, hc2⟩ := bind_some hc2
    (conv => whnf)
    refine st ?_
    refine e3 ?_
    refine st ?_
    refine cm (Zk.weak (rn []) (ZeP t.fKids _ hr1) rfl (WS.mk (tc (tc Zb)) Zc)) ?_
    refine st ?_
    obtain rfl := Zh hc2
    refine st ?_
    exact wx (WS.mk (Zd (Zq (web hc3)) Zb) Zc)
  obtain ⟨r0, hw⟩ := hw
  (conv => whnf)
  refine AWP.weak r0 hw ?_
  obtain rfl := Zh hF
  refine ns ?_
  refine Exists.intro [] ?_
  refine st ?_
  exact wx (WS.mk (tc Zb) Zc)
 ·intro slices_IndexFunc_Type_unify_quantified' Zfi s r hF
  unfold ZW.M
  refine en Tryz.func79 ?_
  refine AWP.seq ?_
  refine ns ?_
  refine AWP.seq ?_
  obtain ⟨r1, hr1, hF⟩ := bind_some hF
  refine ns ?_
  refine e3 ?_
  refine st ?_
  refine cm (Zk.weak (rn []) (Zfi s _ hr1) rfl (WS.mk (tc (tc Zb)) Zc)) ?_
  refine st ?_
  obtain rfl := Zh hF
  refine ns ?_
  refine Exists.intro [] ?_
  refine st ?_
  exact wx (WS.mk (tc Zb) Zc)
 ·intro slices_IndexFunc_Type_unify_quantified_l1' ZbT s r hF
  unfold Z7.M
  refine en Tryz.func104 ?_
  refine AWP.seq ?_
  refine ns ?_
  refine AWP.seq ?_
  refine AWP.seq ?_
  refine ns ?_
  intro hlen1
  (try rw [List.length_map] at hlen1)
  (try rw [List.length_map])
  refine st ?_
  refine AWP.block ?_
  refine AWP.loop ?_
  refine AWL.weak (rn []) ?_ (ZbT s 0 s _ hF ([]) rfl rfl hlen1)
  exact (WS.mk (tc (tc (tc (tc Zb)))) Zc)
 ·intro unify_quantified' slices_IndexFunc_Type_unify_quantified_l1' Znh ZbT s x_8 ZaJ r hF
  unfold Zz.M
  intro Zdc Zht Zg4 hlen1
  refine AWL.step ?_
  refine AWP.seq ?_
  refine ns ?_
  refine AWP.seq ?_
  refine nw ?_
  refine ZF Zht Zg4 (fun x13 ZvV ZvH Zyl ZCh => ?_) (fun ZvH => ?_)
  ·subst ZvH
   refine nw ?_
   refine AWP.seq ?_
   refine AWP.block ?_
   refine AWP.seq ?_
   refine ns ?_
   refine AWP.seq ?_
   obtain ⟨r16, ZAa, hF⟩ := bind_some hF
   refine nn ?_
   refine sr (ZX (f := Za.cells) (Za.cells_eq x13) Zyl) ?_
   refine st ?_
   refine e3 ?_
   refine st ?_
   refine cm (Zk.weak (rn []) (Znh x13 _ ZAa) rfl (WS.mk (Zd (Zp (lc (lc (lc (lc Zn))))) Zb) Zc)) ?_
   refine st ?_
   refine nw ?_
   refine Zi hF (fun Zfg hF => ?_) (fun Zfg hF => ?_)
   ·refine AWP.seq ?_
    refine ns ?_
    obtain rfl := Zh hF
    refine ns ?_
    refine Exists.intro [] ?_
    refine st ?_
    exact wx (WS.mk (tc Zb) Zc)
   ·refine nw ?_
    refine ns ?_
    refine AWL.weak (rn []) ?_ (ZbT s (x_8 + 1) ZvV _ hF (Zdc ++ [x13]) (by rw [Zht]; simp) (by rw [Zg4]; simp) hlen1)
    exact (WS.mk (tc (tc (tc (Zd (Zq (Zc0 (ZP hlen1 ZCh))) Zb)))) Zc)
  ·subst ZvH
   refine nw ?_
   refine AWP.seq ?_
   refine ns ?_
   obtain rfl := Zh hF
   refine ns ?_
   refine Exists.intro [] ?_
   refine st ?_
   exact wx (WS.mk (tc Zb) Zc)
theorem Zni : ∀ (t : Za), ∀ r, ZaP t = some r → ZaP.M t r := Zmu.1

def Zcz (t : Za) : Option (Bool) :=
 Zbt t >>= fun r1 =>
 (if (r1 == 0) = true then ZaP t >>= fun r2 =>
 some (!r2) else some false) >>= fun c3 =>
 some c3
def Zcz.M (t : Za) (r : Bool) : Prop :=
 Zk Tryz.prog 31 [.agg [.v (.int .i64 t.fOp), .v (.string t.fName), .sl (t.fBound.fArgs.map Zj.cells), .sl (t.fKids.map Za.cells)]] [] (fun d b => d = .c none (.v (.bool r)) ∧ b = [])
theorem Zgs (t : Za) (r : Bool) (hF : Zcz t = some r) : Zcz.M t r := by
 unfold Zcz at hF
 unfold Zcz.M
 refine en Tryz.func31 ?_
 refine AWP.seq ?_
 refine ns ?_
 refine AWP.seq ?_
 obtain ⟨r1, hr1, hF⟩ := bind_some hF
 obtain ⟨c3, hc3, hF⟩ := bind_some hF
 refine AWP.cutN (fun T => ∃ r, WS r T ⟨[(2, .c none (.v (.bool c3)))], []⟩) ?_ (fun T hw => ?_)
 ·refine ns ?_
  refine e3 ?_
  refine st ?_
  refine cm (Zk.weak (rn []) (ZdJ t _ hr1) rfl (WS.mk (Zd (Zp (lc (lc (lc (lc Zn))))) Zb) Zc)) ?_
  refine st ?_
  refine Zl true (fun hc4 => ?_) (fun hc4 => ?_)
  ·have hc3 := ift hc4 hc3
   obtain ⟨r2, hr2, hc3⟩ := bind_some hc3
   (conv => whnf)
   refine st ?_
   refine e3 ?_
   refine st ?_
   refine cm (Zk.weak (rn []) (Zni t _ hr2) rfl (WS.mk (Zd (Zp (lc (lc (lc (lc Zn))))) Zb) Zc)) ?_
   refine st ?_
   obtain rfl := Zh hc3
   refine st ?_
   exact wx (WS.mk (Zd (Zq (web hc4)) Zb) Zc)
  ·have hc3 := ife hc4 hc3
   (conv => whnf)
   obtain rfl := Zh hc3
   refine st ?_
   exact wx (WS.mk (Zd (Zq (web hc4)) Zb) Zc)
 obtain ⟨r0, hw⟩ := hw
 (conv => whnf)
 refine AWP.weak r0 hw ?_
 obtain rfl := Zh hF
 refine ns ?_
 refine Exists.intro [] ?_
 refine st ?_
 exact wx (WS.mk (tc Zb) Zc)

mutual
def Z9 (t : Za) : Option (Bool) :=
 Zar 0 t t.fKids
 partial_fixpoint
def Zar (i_3 : Nat) (t : Za) (ZgA : (List Za)) : Option (Bool) :=
 (match ZgA with
 | x18 :: ZB6 =>
 Z9 x18 >>= fun r21 =>
 if r21 = true then
 some true
 else
 Zar (i_3 + 1) t ZB6
 | [] =>
 some (t.fOp == 4))
 partial_fixpoint
end
def Z9.M (t : Za) (r : Bool) : Prop :=
 Zk Tryz.prog 42 [.agg [.v (.int .i64 t.fOp), .v (.string t.fName), .sl (t.fBound.fArgs.map Zj.cells), .sl (t.fKids.map Za.cells)]] [] (fun d b => d = .c none (.v (.bool r)) ∧ b = [])
def Zar.M (i_3 : Nat) (t : Za) (ZgA : (List Za)) (r : Bool) : Prop :=
 ∀ ZiB : List Za, t.fKids = ZiB ++ ZgA → i_3 = ZiB.length → AWL Tryz.prog 20 (Code.sub (Zr Tryz.f42) [1, 0, 1, 0, 0]) (Code.cont Tryz.prog 20 (Zr Tryz.f42) [1, 0, 1, 0] (ZbV tab Tryz.f42.results (Zb0 (.c none (.v (.bool r))) []))) ⟨[(1, .ptr 1 0), (3, .c none (.v (.int .i64 ((i_3 : Nat) : Int))))], [(1, [(none, .v (.int .i64 t.fOp)), (none, .v (.string t.fName)), (none, .sl (t.fBound.fArgs.map Zj.cells)), (none, .sl (t.fKids.map Za.cells))])]⟩
theorem Zji : (∀ (t : Za), ∀ r, Z9 t = some r → Z9.M t r) ∧ (∀ (i_3 : Nat) (t : Za) (ZgA : (List Za)), ∀ r, Zar i_3 t ZgA = some r → Zar.M i_3 t ZgA r) := by
 refine Z9.mutual_partial_correctness Z9.M Zar.M ?_ ?_
 ·intro lazycref18_quantified_l1' Zd4 t r hF
  unfold Z9.M
  refine en Tryz.func42 ?_
  refine AWP.seq ?_
  refine ns ?_
  refine AWP.seq ?_
  refine AWP.seq ?_
  refine ns ?_
  refine AWP.block ?_
  refine AWP.loop ?_
  refine AWL.weak (rn []) ?_ (Zd4 0 t t.fKids _ hF ([]) rfl rfl)
  exact (WS.mk (tp (tc Zb)) (Zf rfl (cc (cc (cc (cc Zg)))) Zc))
 ·intro lazycref18_quantified' lazycref18_quantified_l1' ZjX Zd4 i_3 t ZgA r hF
  unfold Zar.M
  intro ZiB ZqP Zq1
  refine AWL.step ?_
  refine AWP.seq ?_
  refine AWP.seq ?_
  refine ns ?_
  intro hlen17
  (try rw [List.length_map] at hlen17)
  (try rw [List.length_map])
  refine st ?_
  refine nw ?_
  refine ZF ZqP Zq1 (fun x18 ZB6 ZC7 ZHd ZHz => ?_) (fun ZC7 => ?_)
  ·subst ZC7
   refine nw ?_
   refine AWP.seq ?_
   refine AWP.block ?_
   refine AWP.seq ?_
   obtain ⟨r21, ZCd, hF⟩ := bind_some hF
   refine nn ?_
   refine sr (ZX (f := Za.cells) (Za.cells_eq x18) ZHd) ?_
   refine st ?_
   refine e3 ?_
   refine st ?_
   refine cm (Zk.weak (rn []) (ZjX x18 _ ZCd) rfl (WS.mk (Zd (Zp (lc (lc (lc (lc Zn))))) Zb) Zc)) ?_
   refine st ?_
   refine nw ?_
   refine Zi hF (fun Zjq hF => ?_) (fun Zjq hF => ?_)
   ·refine AWP.seq ?_
    refine ns ?_
    obtain rfl := Zh hF
    refine ns ?_
    refine Exists.intro [] ?_
    refine st ?_
    exact wx (WS.mk (tc Zb) Zc)
   ·refine nw ?_
    refine ns ?_
    refine AWL.weak (rn []) ?_ (Zd4 (i_3 + 1) t ZB6 _ hF (ZiB ++ [x18]) (by rw [ZqP]; simp) (by rw [Zq1]; simp))
    exact (WS.mk (tp (Zd (Zq (Zc0 (ZP hlen17 ZHz))) Zb)) (Zf rfl (cc (cc (cc (cc Zg)))) Zc))
  ·subst ZC7
   refine nw ?_
   refine AWP.seq ?_
   refine ns ?_
   obtain rfl := Zh hF
   refine ns ?_
   refine Exists.intro [] ?_
   refine st ?_
   exact wx (WS.mk (tc Zb) Zc)
theorem ZjP : ∀ (t : Za), ∀ r, Z9 t = some r → Z9.M t r := Zji.1

def Zbw (t : Za) : Option (Bool) :=
 ZaG t >>= fun r1 =>
 (if (r1 == 0) = true then Z9 t >>= fun r2 =>
 some (!r2) else some false) >>= fun c3 =>
 some c3
def Zbw.M (t : Za) (r : Bool) : Prop :=
 Zk Tryz.prog 21 [.agg [.v (.int .i64 t.fOp), .v (.string t.fName), .sl (t.fBound.fArgs.map Zj.cells), .sl (t.fKids.map Za.cells)]] [] (fun d b => d = .c none (.v (.bool r)) ∧ b = [])
theorem Zh5 (t : Za) (r : Bool) (hF : Zbw t = some r) : Zbw.M t r := by
 unfold Zbw at hF
 unfold Zbw.M
 refine en Tryz.func21 ?_
 refine AWP.seq ?_
 refine ns ?_
 refine AWP.seq ?_
 obtain ⟨r1, hr1, hF⟩ := bind_some hF
 obtain ⟨c3, hc3, hF⟩ := bind_some hF
 refine AWP.cutN (fun T => ∃ r, WS r T ⟨[(2, .c none (.v (.bool c3)))], []⟩) ?_ (fun T hw => ?_)
 ·refine ns ?_
  refine e3 ?_
  refine st ?_
  refine cm (Zk.weak (rn []) (ZdT t _ hr1) rfl (WS.mk (Zd (Zp (lc (lc (lc (lc Zn))))) Zb) Zc)) ?_
  refine st ?_
  refine Zl true (fun hc4 => ?_) (fun hc4 => ?_)
  ·have hc3 := ift hc4 hc3
   obtain ⟨r2, hr2, hc3⟩ := bind_some hc3
   (conv => whnf)
   refine st ?_
   refine e3 ?_
   refine st ?_
   refine cm (Zk.weak (rn []) (ZjP t _ hr2) rfl (WS.mk (Zd (Zp (lc (lc (lc (lc Zn))))) Zb) Zc)) ?_
   refine st ?_
   obtain rfl := Zh hc3
   refine st ?_
   exact wx (WS.mk (Zd (Zq (web hc4)) Zb) Zc)
  ·have hc3 := ife hc4 hc3
   (conv => whnf)
   obtain rfl := Zh hc3
   refine st ?_
   exact wx (WS.mk (Zd (Zq (web hc4)) Zb) Zc)
 obtain ⟨r0, hw⟩ := hw
 (conv => whnf)
 refine AWP.weak r0 hw ?_
 obtain rfl := Zh hF
 refine ns ?_
 refine Exists.intro [] ?_
 refine st ?_
 exact wx (WS.mk (tc Zb) Zc)

mutual
def Zbx (t : Za) : Option (Za) :=
 ZaT t 0 ([]) t.fKids
 partial_fixpoint
def ZaT (t : Za) (ZtC : Nat) (Zgh : (List Za)) (ZkB : (List Za)) : Option (Za) :=
 (match ZkB with
 | x59 :: Zv1 =>
 Zbx x59 >>= fun r68 =>
 ZV ((Zgh.length + ([r68]).length) * 72 ≤ 140737488355328) >>= fun _ =>
 ZaT t (ZtC + 1) (Zgh ++ ([r68])) Zv1
 | [] =>
 some (Za.mk t.fOp t.fName t.fBound Zgh))
 partial_fixpoint
end
def Zbx.M (t : Za) (r : Za) : Prop :=
 Zk Tryz.prog 54 [.agg [.v (.int .i64 t.fOp), .v (.string t.fName), .sl (t.fBound.fArgs.map Zj.cells), .sl (t.fKids.map Za.cells)]] [] (fun d b => d = .agg [.v (.int .i64 r.fOp), .v (.string r.fName), .sl (r.fBound.fArgs.map Zj.cells), .sl (r.fKids.map Za.cells)] ∧ b = [])
def ZaT.M (t : Za) (ZtC : Nat) (Zgh : (List Za)) (ZkB : (List Za)) (r : Za) : Prop :=
 ∀ Zoi : List Za, t.fKids = Zoi ++ ZkB → ZtC = Zoi.length → t.fKids.length ≤ maxLen → AWL Tryz.prog 24 (Code.sub (Zr Tryz.f54) [1, 1, 1, 0, 1, 0, 0]) (Code.cont Tryz.prog 24 (Zr Tryz.f54) [1, 1, 1, 0, 1, 0] (ZbV tab Tryz.f54.results (Zb0 (.agg [.v (.int .i64 r.fOp), .v (.string r.fName), .sl (r.fBound.fArgs.map Zj.cells), .sl (r.fKids.map Za.cells)]) []))) ⟨[(1, .ptr 1 0), (2, .ptr 2 0), (9, .c none (.sl (t.fKids.map Za.cells))), (10, .c none (.v (.int .i64 ((t.fKids.length : Nat) : Int)))), (11, .c none (.v (.int .i64 ((ZtC : Nat) : Int))))], [(1, [(none, .v (.int .i64 t.fOp)), (none, .v (.string t.fName)), (none, .sl (t.fBound.fArgs.map Zj.cells)), ((some (4053, 28)), .sl (Zgh.map Za.cells))]), (2, [(none, .v (.int .i64 0)), (none, .v (.string (ByteArray.mk #[]))), (none, .nils), (none, .nils)])]⟩
theorem ZoT : (∀ (t : Za), ∀ r, Zbx t = some r → Zbx.M t r) ∧ (∀ (t : Za) (ZtC : Nat) (Zgh : (List Za)) (ZkB : (List Za)), ∀ r, ZaT t ZtC Zgh ZkB = some r → ZaT.M t ZtC Zgh ZkB r) := by
 refine Zbx.mutual_partial_correctness Zbx.M ZaT.M ?_ ?_
 ·intro unify_copied_l1' Zgz t r hF
  unfold Zbx.M
  refine en Tryz.func54 ?_
  refine AWP.seq ?_
  refine ns ?_
  refine AWP.seq ?_
  refine ns ?_
  refine AWP.seq ?_
  refine ns ?_
  refine AWP.seq ?_
  refine AWP.seq ?_
  refine ns ?_
  intro hlen35
  (try rw [List.length_map] at hlen35)
  (try rw [List.length_map])
  refine st ?_
  refine AWP.block ?_
  refine AWP.loop ?_
  refine AWL.weak (rn []) ?_ (Zgz t 0 ([]) t.fKids _ hF ([]) rfl rfl hlen35)
  exact (WS.mk (tp (tp (tc (tc (tc Zb))))) (Zf rfl (cc (cc (cc (Zj2 Zg)))) (Zf rfl (cc (cc (cc (cc Zg)))) Zc)))
 ·intro unify_copied' unify_copied_l1' ZpZ Zgz t ZtC Zgh ZkB r hF
  unfold ZaT.M
  intro Zoi ZwU Zwg hlen35
  refine AWL.step ?_
  refine AWP.seq ?_
  refine ns ?_
  refine AWP.seq ?_
  refine nw ?_
  refine ZF ZwU Zwg (fun x59 Zv1 Zu7 ZCp ZBC => ?_) (fun Zu7 => ?_)
  ·subst Zu7
   refine nw ?_
   refine AWP.seq ?_
   refine AWP.block ?_
   refine AWP.seq ?_
   refine nn ?_
   refine sr (ZX (f := Za.cells) (Za.cells_eq x59) ZCp) ?_
   refine st ?_
   obtain ⟨r68, ZzS, hF⟩ := bind_some hF
   obtain ⟨ZyC, hF⟩ := Zv hF
   refine nn ?_
   refine Or.inl (Or.inl (Exists.intro 5 (Exists.intro [[], [], [], [], []] (Exists.intro [([15, 16, 17, 18, 19], [], []), ([16, 17, 18, 19], [], []), ([15, 16, 17, 18, 19], [], []), ([15, 16, 18, 19], [], []), ([15, 16, 19], [], [])] (Exists.intro [15, 16, 17, 18, 19] (And.intro (by decide +kernel) ?_))))))
   refine dp ?_
   refine dp ?_
   refine dp ?_
   (refine st ?_; apply Exists.intro; apply Exists.intro; apply And.intro; (focus ((conv => whnf); refine Exists.intro [] ?_; (conv => whnf); refine And.intro rfl ?_; (conv => whnf); refine Zk.mono (Zk.weak (rn []) (ZpZ x59 _ ZzS) rfl (WS.mk (Zd (Zp (lc (lc (lc (lc Zn))))) Zb) Zc)) ?_; rintro d b ⟨rfl, rfl⟩; exact And.intro rfl (And.intro rfl rfl))); apply And.intro; (focus exact rfl); (conv => whnf))
   refine de (Zcb (f := Za.cells) (ZdW (Za.cells_eq r68) (lc (lc (lc (lc Zn))))) (Zap (f := Za.cells))) ?_
   refine sa (fun l => ZbH l (fun x => Za.cells_len x)) ZyC ?_
   refine Exists.intro _ (And.intro (WE.refl _) ?_)
   rw [← List.map_append]
   refine st ?_
   refine ns ?_
   refine AWL.weak (rn [(20, 4053)]) ?_ (Zgz t (ZtC + 1) (Zgh ++ ([r68])) Zv1 _ hF (Zoi ++ [x59]) (by rw [ZwU]; simp) (by rw [Zwg]; simp) hlen35)
   exact (WS.mk (tp (tp (tc (tc (Zd (Zq (Zc0 (ZP hlen35 ZBC))) Zb))))) (Zf rfl (cc (cc (cc (ZgC rfl (WE.refl _) Zg)))) (Zf rfl (cc (cc (cc (cc Zg)))) Zc)))
  ·subst Zu7
   refine nw ?_
   refine AWP.seq ?_
   refine ns ?_
   obtain rfl := Zh hF
   refine ns ?_
   refine Exists.intro [] ?_
   refine st ?_
   exact wx (WS.mk (Zd (Zp (lc (lc (lc (lc Zn))))) Zb) Zc)
theorem Zlt : ∀ (t : Za), ∀ r, Zbx t = some r → Zbx.M t r := ZoT.1

mutual
def ZaH (k : Zj) : Option (Zj) :=
 ZbM k 0 ([]) k.fArgs
 partial_fixpoint
def ZbM (k : Zj) (x_9 : Nat) (ZhY : (List Zj)) (Zce : (List Zj)) : Option (Zj) :=
 (match Zce with
 | x59 :: Zv1 =>
 ZaH x59 >>= fun r68 =>
 ZV ((ZhY.length + ([r68]).length) * 24 ≤ 140737488355328) >>= fun _ =>
 ZbM k (x_9 + 1) (ZhY ++ ([r68])) Zv1
 | [] =>
 some (Zj.mk ZhY))
 partial_fixpoint
end
def ZaH.M (k : Zj) (r : Zj) : Prop :=
 Zk Tryz.prog 99 [.agg [.sl (k.fArgs.map Zj.cells)]] [] (fun d b => d = .agg [.sl (r.fArgs.map Zj.cells)] ∧ b = [])
def ZbM.M (k : Zj) (x_9 : Nat) (ZhY : (List Zj)) (Zce : (List Zj)) (r : Zj) : Prop :=
 ∀ Zdb : List Zj, k.fArgs = Zdb ++ Zce → x_9 = Zdb.length → k.fArgs.length ≤ maxLen → AWL Tryz.prog 22 (Code.sub (Zr Tryz.f99) [1, 1, 0, 1, 0, 0]) (Code.cont Tryz.prog 22 (Zr Tryz.f99) [1, 1, 0, 1, 0] (ZbV tab Tryz.f99.results (Zb0 (.agg [.sl (r.fArgs.map Zj.cells)]) []))) ⟨[(2, .ptr 2 0), (3, .ptr 3 0), (7, .c none (.sl (k.fArgs.map Zj.cells))), (8, .c none (.v (.int .i64 ((k.fArgs.length : Nat) : Int)))), (9, .c none (.v (.int .i64 ((x_9 : Nat) : Int))))], [(2, [(none, .nils)]), (3, [((some (4150, 25)), .sl (ZhY.map Zj.cells))])]⟩
theorem Zma : (∀ (k : Zj), ∀ r, ZaH k = some r → ZaH.M k r) ∧ (∀ (k : Zj) (x_9 : Nat) (ZhY : (List Zj)) (Zce : (List Zj)), ∀ r, ZbM k x_9 ZhY Zce = some r → ZbM.M k x_9 ZhY Zce r) := by
 refine ZaH.mutual_partial_correctness ZaH.M ZbM.M ?_ ?_
 ·intro types_copiedKind_l1' Ze5 k r hF
  unfold ZaH.M
  refine en Tryz.func99 ?_
  refine AWP.seq ?_
  refine ns ?_
  refine AWP.seq ?_
  refine ns ?_
  refine AWP.seq ?_
  refine AWP.seq ?_
  refine ns ?_
  intro hlen35
  (try rw [List.length_map] at hlen35)
  (try rw [List.length_map])
  refine st ?_
  refine AWP.block ?_
  refine AWP.loop ?_
  refine AWL.weak (rn []) ?_ (Ze5 k 0 ([]) k.fArgs _ hF ([]) rfl rfl hlen35)
  exact (WS.mk (tp (tp (tc (tc (tc Zb))))) (Zf rfl (cc Zg) (Zf rfl (Zj2 Zg) Zc)))
 ·intro types_copiedKind' types_copiedKind_l1' ZmV Ze5 k x_9 ZhY Zce r hF
  unfold ZbM.M
  intro Zdb Zhi Zhv hlen35
  refine AWL.step ?_
  refine AWP.seq ?_
  refine ns ?_
  refine AWP.seq ?_
  refine nw ?_
  refine ZF Zhi Zhv (fun x59 Zv1 Zu7 ZCp ZBC => ?_) (fun Zu7 => ?_)
  ·subst Zu7
   refine nw ?_
   refine AWP.seq ?_
   refine AWP.block ?_
   refine AWP.seq ?_
   refine nn ?_
   refine sr (ZX (f := Zj.cells) (Zj.cells_eq x59) ZCp) ?_
   refine st ?_
   obtain ⟨r68, ZzS, hF⟩ := bind_some hF
   obtain ⟨ZyC, hF⟩ := Zv hF
   refine nn ?_
   refine Or.inl (Or.inl (Exists.intro 5 (Exists.intro [[], [], [], [], []] (Exists.intro [([13, 14, 15, 16, 17], [], []), ([14, 15, 16, 17], [], []), ([13, 14, 15, 16, 17], [], []), ([13, 14, 16, 17], [], []), ([13, 14, 17], [], [])] (Exists.intro [13, 14, 15, 16, 17] (And.intro (by decide +kernel) ?_))))))
   refine dp ?_
   refine dp ?_
   refine dp ?_
   (refine st ?_; apply Exists.intro; apply Exists.intro; apply And.intro; (focus ((conv => whnf); refine Exists.intro [] ?_; (conv => whnf); refine And.intro rfl ?_; (conv => whnf); refine Zk.mono (Zk.weak (rn []) (ZmV x59 _ ZzS) rfl (WS.mk (Zd (Zp (lc Zn)) Zb) Zc)) ?_; rintro d b ⟨rfl, rfl⟩; exact And.intro rfl (And.intro rfl rfl))); apply And.intro; (focus exact rfl); (conv => whnf))
   refine de (Zcb (f := Zj.cells) (ZdW (Zj.cells_eq r68) (lc Zn)) (Zap (f := Zj.cells))) ?_
   refine sa (fun l => ZbH l (fun x => Zj.cells_len x)) ZyC ?_
   refine Exists.intro _ (And.intro (WE.refl _) ?_)
   rw [← List.map_append]
   refine st ?_
   refine ns ?_
   refine AWL.weak (rn [(18, 4150)]) ?_ (Ze5 k (x_9 + 1) (ZhY ++ ([r68])) Zv1 _ hF (Zdb ++ [x59]) (by rw [Zhi]; simp) (by rw [Zhv]; simp) hlen35)
   exact (WS.mk (tp (tp (tc (tc (Zd (Zq (Zc0 (ZP hlen35 ZBC))) Zb))))) (Zf rfl (cc Zg) (Zf rfl (ZgC rfl (WE.refl _) Zg) Zc)))
  ·subst Zu7
   refine nw ?_
   refine AWP.seq ?_
   refine ns ?_
   obtain rfl := Zh hF
   refine ns ?_
   refine Exists.intro [] ?_
   refine st ?_
   exact wx (WS.mk (Zd (Zp (lc Zn)) Zb) Zc)
theorem Zm2 : ∀ (k : Zj), ∀ r, ZaH k = some r → ZaH.M k r := Zma.1

end Go.Proofs.YtgbglhbdjambbaaGreatDoor
