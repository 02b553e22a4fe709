/- Part 5 of the proof: the program's functions as Lean functions with their walks, and the plain law. It holds for every input, without conditions. -/
import Derived.Test.YtgbglhbdjambbaaGreatDoorProg
import Derived.Lib.AppendIntMem
import Derived.Test.YtgbglhbdjambbaaGreatDoorUrA
import Derived.Test.YtgbglhbdjambbaaGreatDoorUrB
import Derived.Test.YtgbglhbdjambbaaGreatDoorUrC
import Derived.Test.YtgbglhbdjambbaaGreatDoorUrD
set_option linter.unusedVariables false
namespace Go.Proofs.YtgbglhbdjambbaaGreatDoor
open Go Go.Am
def Zwr (o : Option Value) : Prop := ∃ m, o = some (.int .i64 m)
def Znf (o : Option Value) : Prop := ∃ ev, o = some ev ∧ (ev = .nilIface ∨ ∃ te pe, ev = .iface te pe)
def Ztl (i : Nat) (o : Option Value) : Prop := o = some (.int .u64 ((10 ^ i : Nat) : Int))
def ZrE (o : Option Value) : Prop := o = none
def Zo0 : List (Nat × Nat × (Option Value → Prop)) := (3, 20, ZrE) :: (List.range 20).map fun i => (3, i, Ztl i)
def Zd6 : List (Nat × Nat × (Option Value → Prop)) := [(0, 0, Zwr), (1, 0, Znf), (2, 0, Znf)]
instance : Gl Tryz.prog := ⟨Zo0 ++ Zd6⟩

def tab : Tab := [
 (2, ⟨(.int .i64), 1, 8, some [.v (.int .i64 0)], true⟩),
 (3, ⟨(.int .i64), 1, 8, some [.v (.int .i64 0)], true⟩),
 (4, ⟨.bool, 1, 1, some [.v (.bool false)], true⟩),
 (5, ⟨(.int .u8), 1, 1, some [.v (.int .u8 0)], true⟩),
 (9, ⟨.string, 1, 16, some [.v (.string ⟨#[]⟩)], true⟩),
 (12, ⟨(.int .u64), 1, 8, some [.v (.int .u64 0)], true⟩),
 (13, ⟨(.struct [(9, 0), (12, 1)]), 2, 24, some [.v (.string ⟨#[]⟩), .v (.int .u64 0)], false⟩),
 (21, ⟨(.int .i32), 1, 4, some [.v (.int .i32 0)], true⟩),
 (22, ⟨(.int .i64), 1, 8, some [.v (.int .i64 0)], true⟩),
 (23, ⟨(.slice 25), 1, 24, some [.nils], true⟩),
 (24, ⟨(.struct [(23, 0)]), 1, 24, some [.nils], true⟩),
 (25, ⟨(.struct [(23, 0)]), 1, 24, some [.nils], true⟩),
 (26, ⟨(.slice 28), 1, 24, some [.nils], true⟩),
 (27, ⟨(.struct [(22, 0), (9, 1), (25, 2), (26, 3)]), 4, 72, some [.v (.int .i64 0), .v (.string ⟨#[]⟩), .nils, .nils], true⟩),
 (28, ⟨(.struct [(22, 0), (9, 1), (25, 2), (26, 3)]), 4, 72, some [.v (.int .i64 0), .v (.string ⟨#[]⟩), .nils, .nils], true⟩),
 (31, ⟨(.slice 45), 1, 24, some [.nils], true⟩),
 (32, ⟨(.int .i64), 1, 8, some [.v (.int .i64 0)], true⟩),
 (37, ⟨(.slice 38), 1, 24, some [.nils], true⟩),
 (38, ⟨(.array 2 28), 8, 144, some [.v (.int .i64 0), .v (.string ⟨#[]⟩), .nils, .nils, .v (.int .i64 0), .v (.string ⟨#[]⟩), .nils, .nils], true⟩),
 (42, ⟨(.slice 9), 1, 24, some [.nils], true⟩),
 (44, ⟨(.struct [(9, 0), (28, 1)]), 5, 88, some [.v (.string ⟨#[]⟩), .v (.int .i64 0), .v (.string ⟨#[]⟩), .nils, .nils], true⟩),
 (45, ⟨(.struct [(9, 0), (28, 1)]), 5, 88, some [.v (.string ⟨#[]⟩), .v (.int .i64 0), .v (.string ⟨#[]⟩), .nils, .nils], true⟩),
 (53, ⟨(.ptr 56), 1, 8, some [.v (.pointer none)], true⟩),
 (54, ⟨(.map 9 3), 1, 8, some [.v (.map none)], true⟩),
 (55, ⟨(.struct [(31, 0), (54, 1)]), 2, 32, some [.nils, .v (.map none)], true⟩),
 (56, ⟨(.struct [(31, 0), (54, 1)]), 2, 32, some [.nils, .v (.map none)], true⟩),
 (67, ⟨(.map 9 4), 1, 8, some [.v (.map none)], true⟩),
 (69, ⟨(.ptr 70), 1, 8, some [.v (.pointer none)], true⟩),
 (70, ⟨(.struct [(31, 0), (54, 1)]), 2, 32, some [.nils, .v (.map none)], true⟩),
 (74, ⟨(.map 9 9), 1, 8, some [.v (.map none)], true⟩),
 (81, ⟨(.int .i64), 1, 8, some [.v (.int .i64 0)], true⟩),
 (91, ⟨(.map 9 28), 1, 8, some [.v (.map none)], true⟩),
 (106, ⟨(.map 22 3), 1, 8, some [.v (.map none)], true⟩),
 (114, ⟨.iface, 1, 16, some [.v .nilIface], false⟩),
 (118, ⟨(.slice 123), 1, 24, some [.nils], true⟩),
 (122, ⟨(.struct [(9, 0), (9, 1)]), 2, 32, some [.v (.string ⟨#[]⟩), .v (.string ⟨#[]⟩)], true⟩),
 (123, ⟨(.struct [(9, 0), (9, 1)]), 2, 32, some [.v (.string ⟨#[]⟩), .v (.string ⟨#[]⟩)], true⟩),
 (131, ⟨(.int .i64), 1, 8, some [.v (.int .i64 0)], true⟩),
 (132, ⟨(.slice 5), 1, 24, some [.nils], true⟩),
 (139, ⟨(.int .u64), 1, 8, some [.v (.int .u64 0)], true⟩),
 (146, ⟨(.int .u64), 1, 8, some [.v (.int .u64 0)], true⟩),
 (148, ⟨(.struct [(9, 0), (9, 1), (114, 2)]), 3, 48, some [.v (.string ⟨#[]⟩), .v (.string ⟨#[]⟩), .v .nilIface], false⟩),
 (155, ⟨(.int .u32), 1, 4, some [.v (.int .u32 0)], true⟩),
 (160, ⟨(.ptr 5), 1, 8, some [.v (.pointer none)], true⟩),
 (162, ⟨(.struct [(9, 0)]), 1, 16, some [.v (.string ⟨#[]⟩)], true⟩)]
set_option maxRecDepth 100000
theorem tabOk : TOk Tryz.prog tab := by unfold TOk; kernel_rfl
theorem follows : Tryz.prog.follows .mixedOrders = true := by kernel_rfl
theorem ZFM (nt : Nat) (h : nt ≤ EXT) : ZnW Tryz.prog tab nt (@ZsE) := ZzJ tabOk h follows

set_option linter.unusedSimpArgs false
set_option maxHeartbeats 4000000
set_option synthInstance.maxHeartbeats 1000000
set_option synthInstance.maxSize 1000
theorem nd {nt : Nat} (h : decide (nt ≤ EXT) = true) (c : Code) (Q : Exit → AS → Prop) (S : AS) (hk : Am.node (@ZsE) Tryz.prog tab nt c Q S) : AWP Tryz.prog nt c Q S :=
 AWP.node tabOk (of_decide_eq_true h) (ZFM nt (of_decide_eq_true h)) c Q S hk
theorem Zzu : (Tryz.prog.underlying 1000000).isNone = true := by kernel_rfl
theorem nn {nt : Nat} {c : Code} {Q : Exit → AS → Prop} {S : AS} (hk : Am.node (@ZsE) Tryz.prog tab nt c Q S) (h : decide (nt ≤ EXT) = true := by decide) : AWP Tryz.prog nt c Q S := nd h c Q S hk
theorem nw {nt : Nat} {c : Code} {Q : Exit → AS → Prop} {S : AS} {G' : Prop} (hk : G') (s : Zeu (Am.node (@ZsE) Tryz.prog tab nt c Q S) G' := by (conv => (arg 1; whnf)); exact Zeu.done) (h : decide (nt ≤ EXT) = true := by decide) : AWP Tryz.prog nt c Q S := nd h c Q S (s hk)
theorem ns {nt : Nat} {c : Code} {Q : Exit → AS → Prop} {S : AS} {G' : Prop} (hk : G') (s : Zeu (Am.node (@ZsE) Tryz.prog tab nt c Q S) G' := by
  (repeat (first | ((conv => (arg 1; whnf)); (with_reducible apply Zeu.side); (focus (first | exact Eq.refl _ | exact trivial | (with_reducible assumption) | (with_reducible exact Int.natCast_nonneg _) | exact Nat.le_of_ble_eq_true (Eq.refl true) | exact Zd9 (Eq.refl _) (Eq.refl _) (Eq.refl _) | decide)))))
  (conv => (arg 1; whnf))
  exact Zeu.done) (h : decide (nt ≤ EXT) = true := by decide) : AWP Tryz.prog nt c Q S := nd h c Q S (s hk)
theorem en {f : FuncId} {fn : Func} (hf : Tryz.prog.funcs[f]? = some fn) {args : List D} {bx bx' : ZbK} {d' : D} (hk : AWP Tryz.prog fn.ntmps (Zq fn) (ZbV tab fn.results (ZbX d' bx')) ⟨Zd2 0 args, bx⟩)
  (hb : fn.body.isSome = true := by exact rfl) (hname : (fn.name == "runtime.NumGoroutine") = false := by decide) (hargs : args.length ≤ fn.ntmps := by exact Nat.le_of_ble_eq_true rfl) : Zj Tryz.prog f args bx fun d b => d = d' ∧ b = bx' :=
 enter tabOk hf hb hname hargs hk
mutual
inductive Zk where
 | mk (fArgs : (List Zk))
end
def Zk.fArgs : Zk → (List Zk) | .mk x => x
mutual
def Zk.cells : Zk → List E
 | .mk x0 => [.sl (Zk.encs x0)]
def Zk.encs : List Zk → List (List E)
 | [] => []
 | x :: xs => Zk.cells x :: Zk.encs xs
end
theorem Zk.encs_map : ∀ l : List Zk, Zk.encs l = l.map Zk.cells
 | [] => by simp [Zk.encs]
 | x :: xs => by simp [Zk.encs, Zk.encs_map xs]
theorem Zk.cells_eq (v : Zk) : v.cells = [.sl (v.fArgs.map Zk.cells)] := by
 cases v
 simp only [Zk.cells, List.cons_append, List.nil_append, Zk.encs_map]
 rfl
theorem Zk.cells_len (v : Zk) : v.cells.length = 1 := by rw [Zk.cells_eq]; rfl
theorem Zk.ind {M : Zk → Prop} (h : ∀ v : Zk, (∀ k ∈ v.fArgs, M k) → M v) : ∀ v, M v := by
 intro v
 exact Zk.rec (motive_1 := M) (motive_2 := fun l => ∀ k ∈ l, M k) (fun x0 ih => h _ ih) (fun k hk => by simp at hk) (fun v l hv hl k hk => by
  rcases List.mem_cons.1 hk with rfl | hk
  ·exact hv
  ·exact hl k hk) v
mutual
inductive Za where
 | mk (fOp : Int) (fName : ByteArray) (fBound : Zk) (fKids : (List Za))
end
def Za.fOp : Za → Int | .mk x _ _ _ => x
def Za.fName : Za → ByteArray | .mk _ x _ _ => x
def Za.fBound : Za → Zk | .mk _ _ x _ => x
def Za.fKids : Za → (List Za) | .mk _ _ _ x => x
mutual
def Za.cells : Za → List E
 | .mk x0 x1 x2 x3 => [.v (.int .i64 x0)] ++ [.v (.string x1)] ++ [.sl (x2.fArgs.map Zk.cells)] ++ [.sl (Za.encs x3)]
def Za.encs : List Za → List (List E)
 | [] => []
 | x :: xs => Za.cells x :: Za.encs xs
end
theorem Za.encs_map : ∀ l : List Za, Za.encs l = l.map Za.cells
 | [] => by simp [Za.encs]
 | x :: xs => by simp [Za.encs, Za.encs_map xs]
theorem Za.cells_eq (v : Za) : v.cells = [.v (.int .i64 v.fOp), .v (.string v.fName), .sl (v.fBound.fArgs.map Zk.cells), .sl (v.fKids.map Za.cells)] := by
 cases v
 simp only [Za.cells, List.cons_append, List.nil_append, Za.encs_map]
 rfl
theorem Za.cells_len (v : Za) : v.cells.length = 4 := by rw [Za.cells_eq]; rfl
theorem Za.ind {M : Za → Prop} (h : ∀ v : Za, (∀ k ∈ v.fKids, M k) → M v) : ∀ v, M v := by
 intro v
 exact Za.rec (motive_1 := M) (motive_2 := fun l => ∀ k ∈ l, M k) (fun x0 x1 x2 x3 ih => h _ ih) (fun k hk => by simp at hk) (fun v l hv hl k hk => by
  rcases List.mem_cons.1 hk with rfl | hk
  ·exact hv
  ·exact hl k hk) v
structure Ze where
 fName : ByteArray
 fType : Za
def Ze.cells (v : Ze) : List E := [.v (.string v.fName), .v (.int .i64 v.fType.fOp), .v (.string v.fType.fName), .sl (v.fType.fBound.fArgs.map Zk.cells), .sl (v.fType.fKids.map Za.cells)]
theorem Ze.cells_eq (v : Ze) : v.cells = [.v (.string v.fName), .v (.int .i64 v.fType.fOp), .v (.string v.fType.fName), .sl (v.fType.fBound.fArgs.map Zk.cells), .sl (v.fType.fKids.map Za.cells)] := rfl
theorem Ze.cells_len (v : Ze) : v.cells.length = 5 := rfl
def c_S (x : ByteArray) : List E := [.v (.string x)]
theorem ZfN (x : ByteArray) : (c_S x).length = 1 := rfl
def Zcu (x : Int) : List E := [.v (.int .i64 x)]
theorem Zna (x : Int) : (Zcu x).length = 1 := rfl
structure Zu where
 flist : (List Ze)
 fat : (List (ByteArray × Int))
structure Zl where
 e0 : Za
 e1 : Za
def Zl.cells (v : Zl) : List E := [.v (.int .i64 v.e0.fOp), .v (.string v.e0.fName), .sl (v.e0.fBound.fArgs.map Zk.cells), .sl (v.e0.fKids.map Za.cells), .v (.int .i64 v.e1.fOp), .v (.string v.e1.fName), .sl (v.e1.fBound.fArgs.map Zk.cells), .sl (v.e1.fKids.map Za.cells)]
theorem Zl.cells_eq (v : Zl) : v.cells = [.v (.int .i64 v.e0.fOp), .v (.string v.e0.fName), .sl (v.e0.fBound.fArgs.map Zk.cells), .sl (v.e0.fKids.map Za.cells), .v (.int .i64 v.e1.fOp), .v (.string v.e1.fName), .sl (v.e1.fBound.fArgs.map Zk.cells), .sl (v.e1.fKids.map Za.cells)] := rfl
theorem Zl.cells_len (v : Zl) : v.cells.length = 8 := rfl
theorem ZhI : Zkz c_S := Zvr
theorem ZmE : Zkz Zcu := ZBD

def strings_Cut.M (s : ByteArray) (sep : ByteArray) (r : ByteArray × ByteArray × Bool) : Prop :=
 Zj Tryz.prog 140 [.c none (.v (.string s)), .c none (.v (.string sep))] [] (fun d b => d = .tup [.c (.v (.string r.1)), .c (.v (.string r.2.1)), .c (.v (.bool r.2.2))] ∧ b = [])
def strings_IndexByte.M (s : ByteArray) (c : Int) (r : Int) : Prop :=
 Zj Tryz.prog 149 [.c none (.v (.string s)), .c none (.v (.int .u8 c))] [] (fun d b => d = .c none (.v (.int .i64 r)) ∧ b = [])
def Zfq.M (s : ByteArray) (r : Int × Bool) : Prop :=
 Zj Tryz.prog 115 [.c none (.v (.string s))] [] (fun d b => d = .tup [.c (.v (.int .i64 r.1)), .c (.ifc r.2)] ∧ b = [])
def strconv_Itoa.M (i : Int) (r : ByteArray) : Prop :=
 Zj Tryz.prog 113 [.c none (.v (.int .i64 i))] [] (fun d b => d = .c none (.v (.string r)) ∧ b = [])
def ZdI.M (s : (List ByteArray)) (r : (List ByteArray)) : Prop :=
 Zj Tryz.prog 122 [.c none (.sl (s.map c_S))] [] (fun d b => d = .c (some (0, 9)) (.sl (r.map c_S)) ∧ b = [])

open Go Go.Am Go.RowKit
theorem Znu {P : Program} [Gl P] {f : FuncId} {args : List D} {d0 : D} (h : CallsA P f args fun d => d = d0) : Zj P f args [] fun d b => d = d0 ∧ b = [] :=
 ⟨h.1, fun w S0 M0 ZbY ρ hv hr => (h.2 w S0 M0 ZbY ρ hv hr).mono fun e w' ⟨v, r, bx', St', ρ', h1, h2, h3, h4⟩ =>
  ⟨v, r, [], St', ρ', h1, ⟨h2, rfl⟩, h3, h4.less ⟨fun i => .inr (.inl rfl), fun n cs hb => by cases hb⟩⟩⟩
theorem ZEI {α : Type} {ZbY : Array α} (h : ZbY.size = 1) : ∃ a, ZbY = #[a] := by
 obtain ⟨l⟩ := ZbY
 match l, h with
 | [a], _ => exact ⟨a, rfl⟩
theorem ZGA {α : Type} {ZbY : Array α} (h : ZbY.size = 2) : ∃ a b, ZbY = #[a, b] := by
 obtain ⟨l⟩ := ZbY
 match l, h with
 | [a, b], _ => exact ⟨a, b, rfl⟩
theorem ZeH {w : World} {St : Zar} {s : Value} {x : Value} (h : ZcI w St (.v s) x) : x = s := by
 cases h; rfl
def ZoL (i : Int) : ByteArray := ⟨(Lib.itoa i).toArray⟩
def strconv_Itoa (i : Int) : Option ByteArray := Z4 (-9223372036854775808 ≤ i ∧ i ≤ 9223372036854775807) >>= fun _ => some (ZoL i)
theorem ZCU (w : World) (St : Zar) (hG : Zk7 Tryz.prog w St) : Lib.TabIs Tryz.prog w "internal/strconv.uint64pow10" .u64 Lib.pow10Tab := by
 have h0 : ZrE (w.cell? ⟨3, 20, none⟩) := (hG (3, 20, ZrE) (List.mem_append_left _ (List.mem_cons_self ..))).2
 have h1 : ∀ i, i < 20 → w.cell? ⟨3, i, none⟩ = some (.int .u64 ((10 ^ i : Nat) : Int)) := fun i hi =>
  (hG (3, i, Ztl i) (List.mem_append_left _ (List.mem_cons_of_mem _ (List.mem_map.2 ⟨i, List.mem_range.2 hi, rfl⟩)))).2
 have hg : Tryz.prog.globalNamed "internal/strconv.uint64pow10" = some 3 := by kernel_rfl
 unfold Lib.TabIs World.var?
 rw [hg]
 have h2 := h1 0 (by decide)
 unfold ZrE at h0
 unfold World.cell? at h0 h1 h2
 simp only [Option.bind_some]
 split at h2
 case h_2 => cases h2
 rename_i c t f hc
 simp only [hc, Option.isSome_none, Bool.false_eq_true, if_false] at h0 h1 ⊢
 congr 1
 apply Array.ext_getElem?
 intro i
 have e0 : ((Lib.pow10Tab.map fun z => Value.int .u64 z).toArray)[i]? = (Lib.pow10Tab.map fun z => Value.int .u64 z)[i]? := List.getElem?_toArray
 rw [e0, Lib.pow10Tab, List.getElem?_map, List.getElem?_map]
 by_cases hi : i < 20
 ·rw [h1 i hi, List.getElem?_range hi]; rfl
 ·have : c.size ≤ 20 := by
   rcases Nat.lt_or_ge 20 c.size with h | h
   ·rw [Array.getElem?_eq_getElem h] at h0; cases h0
   ·exact h
  rw [Array.getElem?_eq_none (by omega), List.getElem?_eq_none (by simp; omega)]; rfl
theorem Zwl (w : World) (os : Array Obj) (k : Nat) : Below w.heap.size w (Sort.grow (w.drewN k) os) := Lib.below_grow _ w (Nat.le_refl _) k os
theorem ZlW (i : Int) (r : ByteArray) (h : strconv_Itoa i = some r) : strconv_Itoa.M i r := by
 unfold strconv_Itoa at h
 obtain ⟨hc, h⟩ := Zy h
 obtain rfl := Zg h
 refine Znu (CallsA.of_calls ⟨_, Tryz.func113, by decide, rfl⟩ fun w St ρ ZbY hv hr hlt hG => ?_)
 obtain ⟨a, rfl⟩ := ZEI hv
 obtain rfl := ZeH (show ZcI w St (.v (.int .i64 i)) a from (hr 0).val)
 refine (Tryz.strconv_Itoa i hc.1 hc.2 w (ZCU w St hG)).mono ?_
 rintro e w' ⟨rfl, k, os, rfl⟩
 exact ⟨_, rfl, rfl, rfl, Zwl w os k⟩
def ZsK (s : ByteArray) : Int × Bool :=
 match Lib.atoiAll s.data.toList with
 | .ok v => (v, false)
 | .syntax => (0, true)
 | .range => (Lib.atoiSat s.data.toList, true)
def Zfq (s : ByteArray) : Option (Int × Bool) := Z4 (s.size ≤ 281474976710656) >>= fun _ => some (ZsK s)
theorem ZDe (w : World) (St : Zar) (hG : Zk7 Tryz.prog w St) : Znf (w.cell? ⟨1, 0, none⟩) ∧ Znf (w.cell? ⟨2, 0, none⟩) :=
 ⟨(hG (1, 0, Znf) (by first | exact List.mem_append_right _ (by simp [Zd6]) | (show _ ∈ Zd6; simp [Zd6]))).2, (hG (2, 0, Znf) (by first | exact List.mem_append_right _ (by simp [Zd6]) | (show _ ∈ Zd6; simp [Zd6]))).2⟩
theorem ZDl {w : World} {St : Zar} {ρ : Nat → Nat} {n : Int} {b : Bool} {v : Value} (hv : (b = false ∧ v = .nilIface) ∨ (b = true ∧ ∃ t u, v = .iface t u)) : ZdM w St ρ (.tup [.c (.v (.int .i64 n)), .c (.ifc b)]) (.tuple #[.int .i64 n, v]) := by
 refine ⟨[.int .i64 n, v], rfl, rfl, fun k x hk => ?_⟩
 match k, hk with
 | 0, hk => simp only [List.getElem?_cons_zero, Option.some.injEq] at hk; subst hk; exact ⟨_, rfl, .e _ _ (.v _ rfl)⟩
 | 1, hk => simp only [List.getElem?_cons_succ, List.getElem?_cons_zero, Option.some.injEq] at hk; subst hk; exact ⟨_, rfl, .e _ _ (.ifc b v hv)⟩
 | k + 2, hk => simp at hk
theorem ZuW {w w' : World} (h : w' = w ∨ ∃ t, w' = Lib.bytesWorld w 5 t) : Below w.heap.size w w' := by
 rcases h with rfl | ⟨t, rfl⟩
 ·exact Below.refl _ _
 ·exact Lib.bytesWorld_below w 5 t
theorem strconv_Atoi_ok (s : ByteArray) (r : Int × Bool) (h : Zfq s = some r) : Zfq.M s r := by
 unfold Zfq at h
 obtain ⟨hc, h⟩ := Zy h
 obtain rfl := Zg h
 refine Znu (CallsA.of_callsD ⟨_, Tryz.func115, by decide, rfl⟩ fun w St ρ ZbY hv hr hlt hG => ?_)
 obtain ⟨a, rfl⟩ := ZEI hv
 obtain rfl := ZeH (show ZcI w St (.v (.string s)) a from (hr 0).val)
 obtain ⟨⟨e3, h3, i3⟩, e4, h4, i4⟩ := ZDe w St hG
 unfold ZsK
 cases hn : Lib.atoiAll s.data.toList with
 | ok v =>
  refine (Tryz.strconv_Atoi_ok s (by omega) v hn w).mono ?_
  rintro e w' ⟨rfl, hw⟩
  exact ⟨_, _, rfl, ZDl (.inl ⟨rfl, rfl⟩), rfl, rfl, ZuW hw⟩
 | «syntax» =>
  refine (Tryz.strconv_Atoi_syntax s hc hn e3 w h3 i3).mono ?_
  rintro e w' ⟨N, rfl, _, _, hw⟩
  exact ⟨_, _, rfl, ZDl (.inr ⟨rfl, _, _, rfl⟩), rfl, rfl, hw⟩
 | range =>
  refine (Tryz.strconv_Atoi_range s hc hn e4 w h4 i4).mono ?_
  rintro e w' ⟨N, rfl, _, _, hw⟩
  exact ⟨_, _, rfl, ZDl (.inr ⟨rfl, _, _, rfl⟩), rfl, rfl, hw⟩
def strings_IndexByte (s : ByteArray) (c : Int) : Option Int := some (Lib.indexByte s.data.toList c.toNat.toUInt8)
theorem Zmr (s : ByteArray) (c r : Int) (h : strings_IndexByte s c = some r) : strings_IndexByte.M s c r := by
 injection h with h; subst h
 refine Znu (CallsA.of_calls ⟨_, Tryz.func149, by decide, rfl⟩ fun w St ρ ZbY hv hr hlt hG => ?_)
 obtain ⟨a, b, rfl⟩ := ZGA hv
 obtain rfl := ZeH (show ZcI w St (.v (.string s)) a from (hr 0).val)
 obtain rfl := ZeH (show ZcI w St (.v (.int .u8 c)) b from (hr 1).val)
 refine (Tryz.strings_IndexByte s c w).mono ?_
 rintro e w' ⟨rfl, rfl⟩
 exact ⟨_, rfl, rfl, rfl, Below.refl _ _⟩
def ZDs (s sep : ByteArray) : ByteArray × ByteArray × Bool := (⟨(Lib.cut s.data.toList sep.data.toList).1.toArray⟩, ⟨(Lib.cut s.data.toList sep.data.toList).2.1.toArray⟩, (Lib.cut s.data.toList sep.data.toList).2.2)
def strings_Cut (s sep : ByteArray) : Option (ByteArray × ByteArray × Bool) := Z4 (s.size < 4294967281) >>= fun _ => some (ZDs s sep)
theorem ZIA {w : World} {St : Zar} {ρ : Nat → Nat} {a b c : Value} (ha : a.oneCell' = true) (hb : b.oneCell' = true) (hc : c.oneCell' = true) : ZdM w St ρ (.tup [.c (.v a), .c (.v b), .c (.v c)]) (.tuple #[a, b, c]) := by
 refine ⟨[a, b, c], rfl, rfl, fun k x hk => ?_⟩
 match k, hk with
 | 0, hk => simp only [List.getElem?_cons_zero, Option.some.injEq] at hk; subst hk; exact ⟨_, rfl, .e _ _ (.v _ ha)⟩
 | 1, hk => simp only [List.getElem?_cons_succ, List.getElem?_cons_zero, Option.some.injEq] at hk; subst hk; exact ⟨_, rfl, .e _ _ (.v _ hb)⟩
 | 2, hk => simp only [List.getElem?_cons_succ, List.getElem?_cons_zero, Option.some.injEq] at hk; subst hk; exact ⟨_, rfl, .e _ _ (.v _ hc)⟩
 | k + 3, hk => simp at hk
theorem ZvE (w : World) (n : Nat) : Below w.heap.size w (w.drewN n) := ⟨rfl, rfl, rfl, Nat.le_refl _, fun _ _ => rfl⟩
theorem ZrW (s sep : ByteArray) (r : ByteArray × ByteArray × Bool) (h : strings_Cut s sep = some r) : strings_Cut.M s sep r := by
 unfold strings_Cut at h
 obtain ⟨hc, h⟩ := Zy h
 obtain rfl := Zg h
 refine Znu (CallsA.of_callsD ⟨_, Tryz.func140, by decide, rfl⟩ fun w St ρ ZbY hv hr hlt hG => ?_)
 obtain ⟨a, b, rfl⟩ := ZGA hv
 obtain rfl := ZeH (show ZcI w St (.v (.string s)) a from (hr 0).val)
 obtain rfl := ZeH (show ZcI w St (.v (.string sep)) b from (hr 1).val)
 obtain ⟨m, hm⟩ := (hG (0, 0, Zwr) (by first | exact List.mem_append_right _ (by simp [Zd6]) | (show _ ∈ Zd6; simp [Zd6]))).2
 refine (Tryz.strings_Cut s sep m w hc hm).mono ?_
 rintro e w' ⟨rfl, n, rfl⟩
 exact ⟨_, _, rfl, ZIA rfl rfl rfl, rfl, rfl, ZvE w n⟩

def ZdI (s : List ByteArray) : Option (List ByteArray) := Z4 ((0 + s.length) * 16 ≤ 140737488355328) >>= fun _ => some s
theorem Zlm (s r : List ByteArray) (hF : ZdI s = some r) : ZdI.M s r := by
 unfold ZdI at hF
 obtain ⟨hg, hF⟩ := Zy hF
 obtain rfl := Zg hF
 unfold ZdI.M
 refine enter tabOk Tryz.func122 rfl (by decide) (Nat.le_of_ble_eq_true rfl) ?_
 refine AWP.seq ?_
 refine ns ?_
 refine AWP.seq ?_
 refine AWP.seq ?_
 refine ns ?_
 refine And.intro (fun hnil => ?_) ?_
 ·obtain rfl : s = [] := by simpa using hnil
  refine st ?_
  refine nw ?_
  refine AWP.seq ?_
  refine ns ?_
  refine ns ?_
  refine Exists.intro [] ?_
  refine st ?_
  exact Exists.intro (rn []) (WS.mk (Zd Zju Zc) Zb)
 ·refine st ?_
  refine nw ?_
  refine nw ?_
  refine AWP.seq ?_
  refine ns ?_
  refine Exists.intro [] (And.intro (WE.refl _) ?_)
  refine st ?_
  refine And.intro (ZbS _ (fun x => ZfN x)) (And.intro (by have h := hg; simp only [List.length_map, List.length_append, List.length_cons, List.length_nil, Nat.zero_add] at h ⊢; first | exact h | (unfold maxLen; omega) | omega) (And.intro (by have h := hg; simp only [List.length_map, List.length_append, List.length_cons, List.length_nil, Nat.zero_add] at h ⊢; first | exact h | (unfold maxLen; omega) | omega) (Exists.intro _ (And.intro (WE.refl _) ?_))))
  refine st ?_
  refine ns ?_
  refine Exists.intro [] ?_
  refine st ?_
  exact Exists.intro (rn [(7, 0)]) (WS.mk (Zd (Zak rfl (WE.refl _)) Zc) Zb)

def ZT (x_4 : Bool) : Option (Bool) :=
 if x_4 = true then
 some true
 else
 some false
def ZT.M (x_4 : Bool) (r : Bool) : Prop :=
 AWP Tryz.prog 15 (Code.sub (Zq Tryz.f118) [1, 0, 1, 0, 1]) (Code.cont Tryz.prog 15 (Zq Tryz.f118) [1, 0, 1, 0, 1] (ZbV tab Tryz.f118.results (ZbX (.c none (.v (.bool r))) []))) ⟨[(4, .c none (.v (.bool x_4)))], []⟩
theorem Zaq (x_4 : Bool) (r : Bool) (hF : ZT x_4 = some r) : ZT.M x_4 r := by
 unfold ZT at hF
 unfold ZT.M
 refine nw ?_
 refine Zi hF (fun Zdr hF => ?_) (fun Zdr hF => ?_)
 ·refine AWP.seq ?_
  refine ns ?_
  obtain rfl := Zg hF
  refine ns ?_
  refine Exists.intro [] ?_
  refine st ?_
  exact wx (WS.mk (tc Zc) Zb)
 ·refine nw ?_
  refine AWP.seq ?_
  refine ns ?_
  obtain rfl := Zg hF
  refine ns ?_
  refine Exists.intro [] ?_
  refine st ?_
  exact wx (WS.mk (tc Zc) Zb)

def ZbN (s : ByteArray) : Option (Bool) :=
 if (s.toList == (ByteArray.mk #[46, 46]).toList) = true then
 ZT (s.toList == (ByteArray.mk #[46, 46]).toList)
 else
 if (s.toList == (ByteArray.mk #[58, 58]).toList) = true then
 ZT (s.toList == (ByteArray.mk #[58, 58]).toList)
 else
 if (s.toList == (ByteArray.mk #[61]).toList) = true then
 ZT (s.toList == (ByteArray.mk #[61]).toList)
 else
 if (s.toList == (ByteArray.mk #[92]).toList) = true then
 ZT (s.toList == (ByteArray.mk #[92]).toList)
 else
 if (s.toList == (ByteArray.mk #[124]).toList) = true then
 ZT (s.toList == (ByteArray.mk #[124]).toList)
 else
 if (s.toList == (ByteArray.mk #[60, 45]).toList) = true then
 ZT (s.toList == (ByteArray.mk #[60, 45]).toList)
 else
 if (s.toList == (ByteArray.mk #[45, 62]).toList) = true then
 ZT (s.toList == (ByteArray.mk #[45, 62]).toList)
 else
 if (s.toList == (ByteArray.mk #[64]).toList) = true then
 ZT (s.toList == (ByteArray.mk #[64]).toList)
 else
 if (s.toList == (ByteArray.mk #[126]).toList) = true then
 ZT (s.toList == (ByteArray.mk #[126]).toList)
 else
 ZT (s.toList == (ByteArray.mk #[61, 62]).toList)
def ZbN.M (s : ByteArray) (r : Bool) : Prop :=
 Zj Tryz.prog 118 [.c none (.v (.string s))] [] (fun d b => d = .c none (.v (.bool r)) ∧ b = [])
theorem Ze9 (s : ByteArray) (r : Bool) (hF : ZbN s = some r) : ZbN.M s r := by
 unfold ZbN at hF
 unfold ZbN.M
 refine en Tryz.func118 ?_
 refine AWP.seq ?_
 refine ns ?_
 refine AWP.seq ?_
 refine AWP.seq ?_
 refine ns ?_
 refine AWP.block ?_
 refine AWP.seq ?_
 refine AWP.seq ?_
 refine ns ?_
 refine nw ?_
 refine Zi hF (fun ZcO hF => ?_) (fun ZcO hF => ?_)
 ·refine nw ?_
  refine AWP.weak (rn []) ?_ (Zaq (s.toList == (ByteArray.mk #[46, 46]).toList) _ hF)
  exact (WS.mk (tc Zc) Zb)
 ·refine AWP.seq ?_
  refine ns ?_
  refine nw ?_
  refine Zi hF (fun ZcH hF => ?_) (fun ZcH hF => ?_)
  ·refine nw ?_
   refine AWP.weak (rn []) ?_ (Zaq (s.toList == (ByteArray.mk #[58, 58]).toList) _ hF)
   exact (WS.mk (tc Zc) Zb)
  ·refine AWP.seq ?_
   refine ns ?_
   refine nw ?_
   refine Zi hF (fun ZbD hF => ?_) (fun ZbD hF => ?_)
   ·refine nw ?_
    refine AWP.weak (rn []) ?_ (Zaq (s.toList == (ByteArray.mk #[61]).toList) _ hF)
    exact (WS.mk (tc Zc) Zb)
   ·refine AWP.seq ?_
    refine ns ?_
    refine nw ?_
    refine Zi hF (fun Zdl hF => ?_) (fun Zdl hF => ?_)
    ·refine nw ?_
     refine AWP.weak (rn []) ?_ (Zaq (s.toList == (ByteArray.mk #[92]).toList) _ hF)
     exact (WS.mk (tc Zc) Zb)
    ·refine AWP.seq ?_
     refine ns ?_
     refine nw ?_
     refine Zi hF (fun Zfg hF => ?_) (fun Zfg hF => ?_)
     ·refine nw ?_
      refine AWP.weak (rn []) ?_ (Zaq (s.toList == (ByteArray.mk #[124]).toList) _ hF)
      exact (WS.mk (tc Zc) Zb)
     ·refine AWP.seq ?_
      refine ns ?_
      refine nw ?_
      refine Zi hF (fun Zgv hF => ?_) (fun Zgv hF => ?_)
      ·refine nw ?_
       refine AWP.weak (rn []) ?_ (Zaq (s.toList == (ByteArray.mk #[60, 45]).toList) _ hF)
       exact (WS.mk (tc Zc) Zb)
      ·refine AWP.seq ?_
       refine ns ?_
       refine nw ?_
       refine Zi hF (fun ZiJ hF => ?_) (fun ZiJ hF => ?_)
       ·refine nw ?_
        refine AWP.weak (rn []) ?_ (Zaq (s.toList == (ByteArray.mk #[45, 62]).toList) _ hF)
        exact (WS.mk (tc Zc) Zb)
       ·refine AWP.seq ?_
        refine ns ?_
        refine nw ?_
        refine Zi hF (fun Ztm hF => ?_) (fun Ztm hF => ?_)
        ·refine nw ?_
         refine AWP.weak (rn []) ?_ (Zaq (s.toList == (ByteArray.mk #[64]).toList) _ hF)
         exact (WS.mk (tc Zc) Zb)
        ·refine AWP.seq ?_
         refine ns ?_
         refine nw ?_
         refine Zi hF (fun Zta hF => ?_) (fun Zta hF => ?_)
         ·refine nw ?_
          refine AWP.weak (rn []) ?_ (Zaq (s.toList == (ByteArray.mk #[126]).toList) _ hF)
          exact (WS.mk (tc Zc) Zb)
         ·refine ns ?_
          refine AWP.weak (rn []) ?_ (Zaq (s.toList == (ByteArray.mk #[61, 62]).toList) _ hF)
          exact (WS.mk (tc Zc) Zb)

def Zv (x_4 : Bool) : Option (Bool) :=
 if x_4 = true then
 some true
 else
 some false
def Zv.M (x_4 : Bool) (r : Bool) : Prop :=
 AWP Tryz.prog 27 (Code.sub (Zq Tryz.f117) [1, 0, 1, 0, 1]) (Code.cont Tryz.prog 27 (Zq Tryz.f117) [1, 0, 1, 0, 1] (ZbV tab Tryz.f117.results (ZbX (.c none (.v (.bool r))) []))) ⟨[(4, .c none (.v (.bool x_4)))], []⟩
theorem Zx (x_4 : Bool) (r : Bool) (hF : Zv x_4 = some r) : Zv.M x_4 r := by
 unfold Zv at hF
 unfold Zv.M
 refine nw ?_
 refine Zi hF (fun Zs4 hF => ?_) (fun Zs4 hF => ?_)
 ·refine AWP.seq ?_
  refine ns ?_
  obtain rfl := Zg hF
  refine ns ?_
  refine Exists.intro [] ?_
  refine st ?_
  exact wx (WS.mk (tc Zc) Zb)
 ·refine nw ?_
  refine AWP.seq ?_
  refine ns ?_
  obtain rfl := Zg hF
  refine ns ?_
  refine Exists.intro [] ?_
  refine st ?_
  exact wx (WS.mk (tc Zc) Zb)

def Zcl (s : ByteArray) : Option (Bool) :=
 if (s.toList == (ByteArray.mk #[97, 115]).toList) = true then
 Zv (s.toList == (ByteArray.mk #[97, 115]).toList)
 else
 if (s.toList == (ByteArray.mk #[99, 97, 115, 101]).toList) = true then
 Zv (s.toList == (ByteArray.mk #[99, 97, 115, 101]).toList)
 else
 if (s.toList == (ByteArray.mk #[99, 108, 97, 115, 115]).toList) = true then
 Zv (s.toList == (ByteArray.mk #[99, 108, 97, 115, 115]).toList)
 else
 if (s.toList == (ByteArray.mk #[100, 97, 116, 97]).toList) = true then
 Zv (s.toList == (ByteArray.mk #[100, 97, 116, 97]).toList)
 else
 if (s.toList == (ByteArray.mk #[100, 101, 114, 105, 118, 105, 110, 103]).toList) = true then
 Zv (s.toList == (ByteArray.mk #[100, 101, 114, 105, 118, 105, 110, 103]).toList)
 else
 if (s.toList == (ByteArray.mk #[100, 111]).toList) = true then
 Zv (s.toList == (ByteArray.mk #[100, 111]).toList)
 else
 if (s.toList == (ByteArray.mk #[101, 108, 115, 101]).toList) = true then
 Zv (s.toList == (ByteArray.mk #[101, 108, 115, 101]).toList)
 else
 if (s.toList == (ByteArray.mk #[104, 105, 100, 105, 110, 103]).toList) = true then
 Zv (s.toList == (ByteArray.mk #[104, 105, 100, 105, 110, 103]).toList)
 else
 if (s.toList == (ByteArray.mk #[105, 102]).toList) = true then
 Zv (s.toList == (ByteArray.mk #[105, 102]).toList)
 else
 if (s.toList == (ByteArray.mk #[105, 109, 112, 111, 114, 116]).toList) = true then
 Zv (s.toList == (ByteArray.mk #[105, 109, 112, 111, 114, 116]).toList)
 else
 if (s.toList == (ByteArray.mk #[105, 110]).toList) = true then
 Zv (s.toList == (ByteArray.mk #[105, 110]).toList)
 else
 if (s.toList == (ByteArray.mk #[105, 110, 102, 105, 120]).toList) = true then
 Zv (s.toList == (ByteArray.mk #[105, 110, 102, 105, 120]).toList)
 else
 if (s.toList == (ByteArray.mk #[105, 110, 102, 105, 120, 108]).toList) = true then
 Zv (s.toList == (ByteArray.mk #[105, 110, 102, 105, 120, 108]).toList)
 else
 if (s.toList == (ByteArray.mk #[105, 110, 102, 105, 120, 114]).toList) = true then
 Zv (s.toList == (ByteArray.mk #[105, 110, 102, 105, 120, 114]).toList)
 else
 if (s.toList == (ByteArray.mk #[105, 110, 115, 116, 97, 110, 99, 101]).toList) = true then
 Zv (s.toList == (ByteArray.mk #[105, 110, 115, 116, 97, 110, 99, 101]).toList)
 else
 if (s.toList == (ByteArray.mk #[108, 101, 116]).toList) = true then
 Zv (s.toList == (ByteArray.mk #[108, 101, 116]).toList)
 else
 if (s.toList == (ByteArray.mk #[109, 111, 100, 117, 108, 101]).toList) = true then
 Zv (s.toList == (ByteArray.mk #[109, 111, 100, 117, 108, 101]).toList)
 else
 if (s.toList == (ByteArray.mk #[111, 102]).toList) = true then
 Zv (s.toList == (ByteArray.mk #[111, 102]).toList)
 else
 if (s.toList == (ByteArray.mk #[113, 117, 97, 108, 105, 102, 105, 101, 100]).toList) = true then
 Zv (s.toList == (ByteArray.mk #[113, 117, 97, 108, 105, 102, 105, 101, 100]).toList)
 else
 if (s.toList == (ByteArray.mk #[116, 104, 101, 110]).toList) = true then
 Zv (s.toList == (ByteArray.mk #[116, 104, 101, 110]).toList)
 else
 if (s.toList == (ByteArray.mk #[119, 104, 101, 114, 101]).toList) = true then
 Zv (s.toList == (ByteArray.mk #[119, 104, 101, 114, 101]).toList)
 else
 Zv (s.toList == (ByteArray.mk #[95]).toList)
def Zcl.M (s : ByteArray) (r : Bool) : Prop :=
 Zj Tryz.prog 117 [.c none (.v (.string s))] [] (fun d b => d = .c none (.v (.bool r)) ∧ b = [])
theorem ZhZ (s : ByteArray) (r : Bool) (hF : Zcl s = some r) : Zcl.M s r := by
 unfold Zcl at hF
 unfold Zcl.M
 refine en Tryz.func117 ?_
 refine AWP.seq ?_
 refine ns ?_
 refine AWP.seq ?_
 refine AWP.seq ?_
 refine ns ?_
 refine AWP.block ?_
 refine AWP.seq ?_
 refine AWP.seq ?_
 refine ns ?_
 refine nw ?_
 refine Zi hF (fun ZDC hF => ?_) (fun ZDC hF => ?_)
 ·refine nw ?_
  refine AWP.weak (rn []) ?_ (Zx (s.toList == (ByteArray.mk #[97, 115]).toList) _ hF)
  exact (WS.mk (tc Zc) Zb)
 ·refine AWP.seq ?_
  refine ns ?_
  refine nw ?_
  refine Zi hF (fun ZAr hF => ?_) (fun ZAr hF => ?_)
  ·refine nw ?_
   refine AWP.weak (rn []) ?_ (Zx (s.toList == (ByteArray.mk #[99, 97, 115, 101]).toList) _ hF)
   exact (WS.mk (tc Zc) Zb)
  ·refine AWP.seq ?_
   refine ns ?_
   refine nw ?_
   refine Zi hF (fun Zjq hF => ?_) (fun Zjq hF => ?_)
   ·refine nw ?_
    refine AWP.weak (rn []) ?_ (Zx (s.toList == (ByteArray.mk #[99, 108, 97, 115, 115]).toList) _ hF)
    exact (WS.mk (tc Zc) Zb)
   ·refine AWP.seq ?_
    refine ns ?_
    refine nw ?_
    refine Zi hF (fun Zlc hF => ?_) (fun Zlc hF => ?_)
    ·refine nw ?_
     refine AWP.weak (rn []) ?_ (Zx (s.toList == (ByteArray.mk #[100, 97, 116, 97]).toList) _ hF)
     exact (WS.mk (tc Zc) Zb)
    ·refine AWP.seq ?_
     refine ns ?_
     refine nw ?_
     refine Zi hF (fun Zty hF => ?_) (fun Zty hF => ?_)
     ·refine nw ?_
      refine AWP.weak (rn []) ?_ (Zx (s.toList == (ByteArray.mk #[100, 101, 114, 105, 118, 105, 110, 103]).toList) _ hF)
      exact (WS.mk (tc Zc) Zb)
     ·refine AWP.seq ?_
      refine ns ?_
      refine nw ?_
      refine Zi hF (fun ZAy hF => ?_) (fun ZAy hF => ?_)
      ·refine nw ?_
       refine AWP.weak (rn []) ?_ (Zx (s.toList == (ByteArray.mk #[100, 111]).toList) _ hF)
       exact (WS.mk (tc Zc) Zb)
      ·refine AWP.seq ?_
       refine ns ?_
       refine nw ?_
       refine Zi hF (fun ZoI hF => ?_) (fun ZoI hF => ?_)
       ·refine nw ?_
        refine AWP.weak (rn []) ?_ (Zx (s.toList == (ByteArray.mk #[101, 108, 115, 101]).toList) _ hF)
        exact (WS.mk (tc Zc) Zb)
       ·refine AWP.seq ?_
        refine ns ?_
        refine nw ?_
        refine Zi hF (fun Zpp hF => ?_) (fun Zpp hF => ?_)
        ·refine nw ?_
         refine AWP.weak (rn []) ?_ (Zx (s.toList == (ByteArray.mk #[104, 105, 100, 105, 110, 103]).toList) _ hF)
         exact (WS.mk (tc Zc) Zb)
        ·refine AWP.seq ?_
         refine ns ?_
         refine nw ?_
         refine Zi hF (fun ZyI hF => ?_) (fun ZyI hF => ?_)
         ·refine nw ?_
          refine AWP.weak (rn []) ?_ (Zx (s.toList == (ByteArray.mk #[105, 102]).toList) _ hF)
          exact (WS.mk (tc Zc) Zb)
         ·refine AWP.seq ?_
          refine ns ?_
          refine nw ?_
          refine Zi hF (fun ZnF hF => ?_) (fun ZnF hF => ?_)
          ·refine nw ?_
           refine AWP.weak (rn []) ?_ (Zx (s.toList == (ByteArray.mk #[105, 109, 112, 111, 114, 116]).toList) _ hF)
           exact (WS.mk (tc Zc) Zb)
          ·refine AWP.seq ?_
           refine ns ?_
           refine nw ?_
           refine Zi hF (fun Zpu hF => ?_) (fun Zpu hF => ?_)
           ·refine nw ?_
            refine AWP.weak (rn []) ?_ (Zx (s.toList == (ByteArray.mk #[105, 110]).toList) _ hF)
            exact (WS.mk (tc Zc) Zb)
           ·refine AWP.seq ?_
            refine ns ?_
            refine nw ?_
            refine Zi hF (fun Zzc hF => ?_) (fun Zzc hF => ?_)
            ·refine nw ?_
             refine AWP.weak (rn []) ?_ (Zx (s.toList == (ByteArray.mk #[105, 110, 102, 105, 120]).toList) _ hF)
             exact (WS.mk (tc Zc) Zb)
            ·refine AWP.seq ?_
             refine ns ?_
             refine nw ?_
             refine Zi hF (fun ZnH hF => ?_) (fun ZnH hF => ?_)
             ·refine nw ?_
              refine AWP.weak (rn []) ?_ (Zx (s.toList == (ByteArray.mk #[105, 110, 102, 105, 120, 108]).toList) _ hF)
              exact (WS.mk (tc Zc) Zb)
             ·refine AWP.seq ?_
              refine ns ?_
              refine nw ?_
              refine Zi hF (fun ZkF hF => ?_) (fun ZkF hF => ?_)
              ·refine nw ?_
               refine AWP.weak (rn []) ?_ (Zx (s.toList == (ByteArray.mk #[105, 110, 102, 105, 120, 114]).toList) _ hF)
               exact (WS.mk (tc Zc) Zb)
              ·refine AWP.seq ?_
               refine ns ?_
               refine nw ?_
               refine Zi hF (fun ZpM hF => ?_) (fun ZpM hF => ?_)
               ·refine nw ?_
                refine AWP.weak (rn []) ?_ (Zx (s.toList == (ByteArray.mk #[105, 110, 115, 116, 97, 110, 99, 101]).toList) _ hF)
                exact (WS.mk (tc Zc) Zb)
               ·refine AWP.seq ?_
                refine ns ?_
                refine nw ?_
                refine Zi hF (fun Zkv hF => ?_) (fun Zkv hF => ?_)
                ·refine nw ?_
                 refine AWP.weak (rn []) ?_ (Zx (s.toList == (ByteArray.mk #[108, 101, 116]).toList) _ hF)
                 exact (WS.mk (tc Zc) Zb)
                ·refine AWP.seq ?_
                 refine ns ?_
                 refine nw ?_
                 refine Zi hF (fun ZhW hF => ?_) (fun ZhW hF => ?_)
                 ·refine nw ?_
                  refine AWP.weak (rn []) ?_ (Zx (s.toList == (ByteArray.mk #[109, 111, 100, 117, 108, 101]).toList) _ hF)
                  exact (WS.mk (tc Zc) Zb)
                 ·refine AWP.seq ?_
                  refine ns ?_
                  refine nw ?_
                  refine Zi hF (fun Zol hF => ?_) (fun Zol hF => ?_)
                  ·refine nw ?_
                   refine AWP.weak (rn []) ?_ (Zx (s.toList == (ByteArray.mk #[111, 102]).toList) _ hF)
                   exact (WS.mk (tc Zc) Zb)
                  ·refine AWP.seq ?_
                   refine ns ?_
                   refine nw ?_
                   refine Zi hF (fun Zv8 hF => ?_) (fun Zv8 hF => ?_)
                   ·refine nw ?_
                    refine AWP.weak (rn []) ?_ (Zx (s.toList == (ByteArray.mk #[113, 117, 97, 108, 105, 102, 105, 101, 100]).toList) _ hF)
                    exact (WS.mk (tc Zc) Zb)
                   ·refine AWP.seq ?_
                    refine ns ?_
                    refine nw ?_
                    refine Zi hF (fun Zwb hF => ?_) (fun Zwb hF => ?_)
                    ·refine nw ?_
                     refine AWP.weak (rn []) ?_ (Zx (s.toList == (ByteArray.mk #[116, 104, 101, 110]).toList) _ hF)
                     exact (WS.mk (tc Zc) Zb)
                    ·refine AWP.seq ?_
                     refine ns ?_
                     refine nw ?_
                     refine Zi hF (fun ZD7 hF => ?_) (fun ZD7 hF => ?_)
                     ·refine nw ?_
                      refine AWP.weak (rn []) ?_ (Zx (s.toList == (ByteArray.mk #[119, 104, 101, 114, 101]).toList) _ hF)
                      exact (WS.mk (tc Zc) Zb)
                     ·refine ns ?_
                      refine AWP.weak (rn []) ?_ (Zx (s.toList == (ByteArray.mk #[95]).toList) _ hF)
                      exact (WS.mk (tc Zc) Zb)

def ZdY (c : Int) : Option (Bool) :=
 strings_IndexByte (ByteArray.mk #[33, 35, 36, 37, 38, 42, 43, 46, 47, 60, 61, 62, 63, 64, 92, 94, 124, 45, 126, 58]) c >>= fun r1 =>
 some (decide (r1 ≥ 0))
def ZdY.M (c : Int) (r : Bool) : Prop :=
 Zj Tryz.prog 137 [.c none (.v (.int .u8 c))] [] (fun d b => d = .c none (.v (.bool r)) ∧ b = [])
theorem ZoN (c : Int) (r : Bool) (hF : ZdY c = some r) : ZdY.M c r := by
 unfold ZdY at hF
 unfold ZdY.M
 refine en Tryz.func137 ?_
 refine AWP.seq ?_
 refine ns ?_
 refine AWP.seq ?_
 obtain ⟨r1, hr1, hF⟩ := bind_some hF
 refine ns ?_
 refine e3 ?_
 refine st ?_
 refine cm (Zj.weak (rn []) (Zmr (ByteArray.mk #[33, 35, 36, 37, 38, 42, 43, 46, 47, 60, 61, 62, 63, 64, 92, 94, 124, 45, 126, 58]) c _ hr1) rfl (WS.mk (tc (tc Zc)) Zb)) ?_
 refine st ?_
 obtain rfl := Zg hF
 refine ns ?_
 refine Exists.intro [] ?_
 refine st ?_
 exact wx (WS.mk (tc Zc) Zb)

def Zb4 (s : ByteArray) (ZbH : Nat) (i_4 : Nat) : Option (Bool) :=
 if (((i_4 : Nat) : Int) == ((s.size : Nat) : Int)) = true then
 some ((((s.size : Nat) : Int) == 1) || (decide (((ZbH : Nat) : Int) < ((s.size : Nat) : Int))))
 else
 (btI s ((i_4 : Nat) : Int)) >>= fun y69 =>
 ZdY ((y69.toNat : Nat) : Int) >>= fun r70 =>
 if (!r70) = true then
 some false
 else
 (btI s ((i_4 : Nat) : Int)) >>= fun y72 =>
 if (((y72.toNat : Nat) : Int) == 45) = true then
 Z4 (ZbH + 1 ≤ 9223372036854775807) >>= fun _ =>
 Z4 (i_4 + 1 ≤ 9223372036854775807) >>= fun _ =>
 Zb4 s (ZbH + 1) (i_4 + 1)
 else
 Z4 (i_4 + 1 ≤ 9223372036854775807) >>= fun _ =>
 Zb4 s ZbH (i_4 + 1)
 partial_fixpoint
def Zb4.M (s : ByteArray) (ZbH : Nat) (i_4 : Nat) (r : Bool) : Prop :=
 AWL Tryz.prog 38 (Code.sub (Zq Tryz.f121) [1, 0, 1, 1, 1, 0, 1, 0, 0]) (Code.cont Tryz.prog 38 (Zq Tryz.f121) [1, 0, 1, 1, 1, 0, 1, 0] (ZbV tab Tryz.f121.results (ZbX (.c none (.v (.bool r))) []))) ⟨[(0, .c none (.v (.string s))), (3, .c none (.v (.int .i64 ((ZbH : Nat) : Int)))), (4, .c none (.v (.int .i64 ((i_4 : Nat) : Int))))], []⟩
theorem Zoh (s : ByteArray) (ZbH : Nat) (i_4 : Nat) : ∀ r, Zb4 s ZbH i_4 = some r → Zb4.M s ZbH i_4 r := by
 refine Zb4.partial_correctness s (fun ZbH i_4 r => Zb4.M s ZbH i_4 r) ?_ ZbH i_4
 intro names_symbol_l1' ZiU ZbH i_4 r hF
 have ZjL := fun (_s : ByteArray) (ZbH : Nat) (i_4 : Nat) => ZiU ZbH i_4
 clear ZiU
 unfold Zb4.M
 refine AWL.step ?_
 refine AWP.seq ?_
 refine AWP.block ?_
 refine AWP.seq ?_
 refine AWP.seq ?_
 refine ns ?_
 refine nw ?_
 refine Zi hF (fun ZrK hF => ?_) (fun ZrK hF => ?_)
 ·refine nw ?_
  refine AWP.seq ?_
  refine AWP.cutN (fun T => ∃ r, WS r T ⟨[(2, .c none (.v (.bool ((((s.size : Nat) : Int) == 1) || (decide (((ZbH : Nat) : Int) < ((s.size : Nat) : Int)))))))], []⟩) ?_ (fun T hw => ?_)
  ·refine ns ?_
   refine Zm false (fun ZAv => ?_) (fun ZAv => ?_)
   ·(conv => whnf)
    refine st ?_
    exact wx (WS.mk (Zd (Zr (web ZAv)) Zc) Zb)
   ·(conv => whnf)
    refine st ?_
    exact wx (WS.mk (Zd (Zr (web ZAv)) Zc) Zb)
  obtain ⟨r0, hw⟩ := hw
  (conv => whnf)
  refine AWP.weak r0 hw ?_
  obtain rfl := Zg hF
  refine ns ?_
  refine Exists.intro [] ?_
  refine st ?_
  exact wx (WS.mk (tc Zc) Zb)
 ·refine nw ?_
  refine AWP.seq ?_
  refine AWP.seq ?_
  obtain ⟨y69, hy690, ZHX, hF⟩ := Zc1 hF
  obtain ⟨r70, ZDF, hF⟩ := bind_some hF
  refine nn ?_
  refine sr ZHX ?_
  refine st ?_
  refine e3 ?_
  refine st ?_
  refine cm (Zj.weak (rn []) (ZoN ((y69.toNat : Nat) : Int) _ ZDF) rfl (WS.mk (tc Zc) Zb)) ?_
  refine st ?_
  refine nw ?_
  refine Zi hF (fun ZG9 hF => ?_) (fun ZG9 hF => ?_)
  ·refine AWP.seq ?_
   refine ns ?_
   obtain rfl := Zg hF
   refine ns ?_
   refine Exists.intro [] ?_
   refine st ?_
   exact wx (WS.mk (tc Zc) Zb)
  ·refine nw ?_
   refine AWP.seq ?_
   obtain ⟨y72, hy720, ZGT, hF⟩ := Zc1 hF
   refine nn ?_
   refine sr ZGT ?_
   refine st ?_
   refine nw ?_
   refine Zi hF (fun Zr3 hF => ?_) (fun Zr3 hF => ?_)
   ·obtain ⟨ZCr, hF⟩ := Zy hF
    refine ns ?_
    obtain ⟨ZEp, hF⟩ := Zy hF
    refine ns ?_
    refine AWL.weak (rn []) ?_ (ZjL s (ZbH + 1) (i_4 + 1) _ hF)
    exact (WS.mk (tc (Zd (Zr (Zdf (Zdu ZCr))) (Zd (Zr (Zdf (Zdu ZEp))) Zc))) Zb)
   ·refine nw ?_
    obtain ⟨ZId, hF⟩ := Zy hF
    refine ns ?_
    refine AWL.weak (rn []) ?_ (ZjL s ZbH (i_4 + 1) _ hF)
    exact (WS.mk (tc (tc (Zd (Zr (Zdf (Zdu ZId))) Zc))) Zb)

def ZdV (s : ByteArray) : Option (Bool) :=
 if ((s.toList == (ByteArray.mk #[]).toList) || (decide (((s.size : Nat) : Int) > 64))) = true then
 some false
 else
 Zb4 s 0 0
def ZdV.M (s : ByteArray) (r : Bool) : Prop :=
 Zj Tryz.prog 121 [.c none (.v (.string s))] [] (fun d b => d = .c none (.v (.bool r)) ∧ b = [])
theorem ZgW (s : ByteArray) (r : Bool) (hF : ZdV s = some r) : ZdV.M s r := by
 unfold ZdV at hF
 unfold ZdV.M
 refine en Tryz.func121 ?_
 refine AWP.seq ?_
 refine ns ?_
 refine AWP.scope ?_
 refine AWP.seq ?_
 refine AWP.seq ?_
 refine AWP.cutN (fun T => ∃ r, WS r T ⟨[(0, .c none (.v (.string s))), (11, .c none (.v (.bool ((s.toList == (ByteArray.mk #[]).toList) || (decide (((s.size : Nat) : Int) > 64))))))], []⟩) ?_ (fun T hw => ?_)
 ·refine ns ?_
  refine Zm false (fun hc2 => ?_) (fun hc2 => ?_)
  ·(conv => whnf)
   refine st ?_
   exact wx (WS.mk (tc (Zd (Zr (web hc2)) Zc)) Zb)
  ·(conv => whnf)
   refine st ?_
   exact wx (WS.mk (tc (Zd (Zr (web hc2)) Zc)) Zb)
 obtain ⟨r0, hw⟩ := hw
 (conv => whnf)
 refine AWP.weak r0 hw ?_
 refine nw ?_
 refine Zi hF (fun hc3 hF => ?_) (fun hc3 hF => ?_)
 ·refine AWP.seq ?_
  refine ns ?_
  obtain rfl := Zg hF
  refine ns ?_
  refine Exists.intro [] ?_
  refine st ?_
  exact wx (WS.mk (tc Zc) Zb)
 ·refine nw ?_
  refine AWP.seq ?_
  refine ns ?_
  refine AWP.seq ?_
  refine nw ?_
  refine AWP.seq ?_
  refine AWP.seq ?_
  refine ns ?_
  refine AWP.block ?_
  refine AWP.loop ?_
  refine AWL.weak (rn []) ?_ (Zoh s 0 0 _ hF)
  exact (WS.mk (tc (tc (tc Zc))) Zb)

def Zel (c : Int) : Option (Bool) :=
 some ((decide (c ≥ 65)) && (decide (c ≤ 90)))
def Zel.M (c : Int) (r : Bool) : Prop :=
 Zj Tryz.prog 120 [.c none (.v (.int .u8 c))] [] (fun d b => d = .c none (.v (.bool r)) ∧ b = [])
theorem Zjs (c : Int) (r : Bool) (hF : Zel c = some r) : Zel.M c r := by
 unfold Zel at hF
 unfold Zel.M
 refine en Tryz.func120 ?_
 refine AWP.seq ?_
 refine ns ?_
 refine AWP.seq ?_
 refine AWP.cutN (fun T => ∃ r, WS r T ⟨[(2, .c none (.v (.bool ((decide (c ≥ 65)) && (decide (c ≤ 90))))))], []⟩) ?_ (fun T hw => ?_)
 ·refine ns ?_
  refine Zm true (fun hc1 => ?_) (fun hc1 => ?_)
  ·(conv => whnf)
   refine st ?_
   exact wx (WS.mk (Zd (Zr (web hc1)) Zc) Zb)
  ·(conv => whnf)
   refine st ?_
   exact wx (WS.mk (Zd (Zr (web hc1)) Zc) Zb)
 obtain ⟨r0, hw⟩ := hw
 (conv => whnf)
 refine AWP.weak r0 hw ?_
 obtain rfl := Zg hF
 refine ns ?_
 refine Exists.intro [] ?_
 refine st ?_
 exact wx (WS.mk (tc Zc) Zb)

def Zef (c : Int) : Option (Bool) :=
 Zel c >>= fun r1 =>
 some (r1 || ((decide (c ≥ 97)) && (decide (c ≤ 122))))
def Zef.M (c : Int) (r : Bool) : Prop :=
 Zj Tryz.prog 135 [.c none (.v (.int .u8 c))] [] (fun d b => d = .c none (.v (.bool r)) ∧ b = [])
theorem ZlS (c : Int) (r : Bool) (hF : Zef c = some r) : Zef.M c r := by
 unfold Zef at hF
 unfold Zef.M
 refine en Tryz.func135 ?_
 refine AWP.seq ?_
 refine ns ?_
 refine AWP.seq ?_
 obtain ⟨r1, hr1, hF⟩ := bind_some hF
 refine AWP.cutN (fun T => ∃ r, WS r T ⟨[(2, .c none (.v (.bool (r1 || ((decide (c ≥ 97)) && (decide (c ≤ 122)))))))], []⟩) ?_ (fun T hw => ?_)
 ·refine ns ?_
  refine e3 ?_
  refine st ?_
  refine cm (Zj.weak (rn []) (Zjs c _ hr1) rfl (WS.mk (tc Zc) Zb)) ?_
  refine st ?_
  refine Zm false (fun hc2 => ?_) (fun hc2 => ?_)
  ·(conv => whnf)
   refine st ?_
   exact wx (WS.mk (Zd (Zr (web hc2)) Zc) Zb)
  ·(conv => whnf)
   refine st ?_
   refine Zm true (fun hc3 => ?_) (fun hc3 => ?_)
   ·(conv => whnf)
    refine st ?_
    exact wx (WS.mk (Zd (Zr (web (And.intro hc2 hc3))) Zc) Zb)
   ·(conv => whnf)
    refine st ?_
    exact wx (WS.mk (Zd (Zr (web (And.intro hc2 hc3))) Zc) Zb)
 obtain ⟨r0, hw⟩ := hw
 (conv => whnf)
 refine AWP.weak r0 hw ?_
 obtain rfl := Zg hF
 refine ns ?_
 refine Exists.intro [] ?_
 refine st ?_
 exact wx (WS.mk (tc Zc) Zb)

def Zfj (c : Int) : Option (Bool) :=
 some ((decide (c ≥ 48)) && (decide (c ≤ 57)))
def Zfj.M (c : Int) (r : Bool) : Prop :=
 Zj Tryz.prog 136 [.c none (.v (.int .u8 c))] [] (fun d b => d = .c none (.v (.bool r)) ∧ b = [])
theorem Zq8 (c : Int) (r : Bool) (hF : Zfj c = some r) : Zfj.M c r := by
 unfold Zfj at hF
 unfold Zfj.M
 refine en Tryz.func136 ?_
 refine AWP.seq ?_
 refine ns ?_
 refine AWP.seq ?_
 refine AWP.cutN (fun T => ∃ r, WS r T ⟨[(2, .c none (.v (.bool ((decide (c ≥ 48)) && (decide (c ≤ 57))))))], []⟩) ?_ (fun T hw => ?_)
 ·refine ns ?_
  refine Zm true (fun hc1 => ?_) (fun hc1 => ?_)
  ·(conv => whnf)
   refine st ?_
   exact wx (WS.mk (Zd (Zr (web hc1)) Zc) Zb)
  ·(conv => whnf)
   refine st ?_
   exact wx (WS.mk (Zd (Zr (web hc1)) Zc) Zb)
 obtain ⟨r0, hw⟩ := hw
 (conv => whnf)
 refine AWP.weak r0 hw ?_
 obtain rfl := Zg hF
 refine ns ?_
 refine Exists.intro [] ?_
 refine st ?_
 exact wx (WS.mk (tc Zc) Zb)

def Zdk (s : ByteArray) (i_3 : Nat) : Option (Bool) :=
 if (decide (((i_3 : Nat) : Int) < ((s.size : Nat) : Int))) = true then
 (btI s ((i_3 : Nat) : Int)) >>= fun y33 =>
 Zef ((y33.toNat : Nat) : Int) >>= fun r34 =>
 (if (!r34) = true then Zfj ((y33.toNat : Nat) : Int) >>= fun r35 =>
 some (!r35) else some false) >>= fun c36 =>
 if ((c36 && (((y33.toNat : Nat) : Int) != 95)) && (((y33.toNat : Nat) : Int) != 39)) = true then
 some false
 else
 Z4 (i_3 + 1 ≤ 9223372036854775807) >>= fun _ =>
 Zdk s (i_3 + 1)
 else
 some true
 partial_fixpoint
def Zdk.M (s : ByteArray) (i_3 : Nat) (r : Bool) : Prop :=
 AWL Tryz.prog 48 (Code.sub (Zq Tryz.f119) [1, 1, 0, 1, 0, 0]) (Code.cont Tryz.prog 48 (Zq Tryz.f119) [1, 1, 0, 1, 0] (ZbV tab Tryz.f119.results (ZbX (.c none (.v (.bool r))) []))) ⟨[(0, .c none (.v (.string s))), (3, .c none (.v (.int .i64 ((i_3 : Nat) : Int))))], []⟩
theorem Zpb (s : ByteArray) (i_3 : Nat) : ∀ r, Zdk s i_3 = some r → Zdk.M s i_3 r := by
 refine Zdk.partial_correctness s (fun i_3 r => Zdk.M s i_3 r) ?_ i_3
 intro names_word_l1' Zkj i_3 r hF
 have Zpe := fun (_s : ByteArray) (i_3 : Nat) => Zkj i_3
 clear Zkj
 unfold Zdk.M
 refine AWL.step ?_
 refine AWP.seq ?_
 refine AWP.seq ?_
 refine ns ?_
 refine nw ?_
 refine Zi hF (fun ZnF hF => ?_) (fun ZnF hF => ?_)
 ·refine nw ?_
  refine AWP.seq ?_
  refine AWP.block ?_
  refine AWP.seq ?_
  obtain ⟨y33, hy330, ZH8, hF⟩ := Zc1 hF
  refine nn ?_
  refine sr ZH8 ?_
  refine st ?_
  refine AWP.seq ?_
  obtain ⟨r34, ZEg, hF⟩ := bind_some hF
  obtain ⟨c36, ZkF, hF⟩ := bind_some hF
  refine AWP.cutN (fun T => ∃ r, WS r T ⟨[(0, .c none (.v (.string s))), (3, .c none (.v (.int .i64 ((i_3 : Nat) : Int)))), (47, .c none (.v (.bool ((c36 && (((y33.toNat : Nat) : Int) != 95)) && (((y33.toNat : Nat) : Int) != 39)))))], []⟩) ?_ (fun T hw => ?_)
  ·refine ns ?_
   refine e3 ?_
   refine st ?_
   refine cm (Zj.weak (rn []) (ZlS ((y33.toNat : Nat) : Int) _ ZEg) rfl (WS.mk (tc Zc) Zb)) ?_
   refine st ?_
   refine Zm true (fun ZpM => ?_) (fun ZpM => ?_)
   ·have ZkF := ift ZpM ZkF
    obtain ⟨r35, ZEo, ZkF⟩ := bind_some ZkF
    (conv => whnf)
    refine st ?_
    refine e3 ?_
    refine st ?_
    refine cm (Zj.weak (rn []) (Zq8 ((y33.toNat : Nat) : Int) _ ZEo) rfl (WS.mk (tc Zc) Zb)) ?_
    refine st ?_
    obtain rfl := Zg ZkF
    refine st ?_
    refine Zm true (fun Zkv => ?_) (fun Zkv => ?_)
    ·(conv => whnf)
     refine st ?_
     refine Zm true (fun ZhW => ?_) (fun ZhW => ?_)
     ·(conv => whnf)
      refine st ?_
      exact wx (WS.mk (tc (tc (Zd (Zr (web (And.intro ZpM (And.intro Zkv ZhW)))) Zc))) Zb)
     ·(conv => whnf)
      refine st ?_
      exact wx (WS.mk (tc (tc (Zd (Zr (web (And.intro ZpM (And.intro Zkv ZhW)))) Zc))) Zb)
    ·(conv => whnf)
     refine st ?_
     exact wx (WS.mk (tc (tc (Zd (Zr (web (And.intro ZpM Zkv))) Zc))) Zb)
   ·have ZkF := ife ZpM ZkF
    (conv => whnf)
    obtain rfl := Zg ZkF
    refine st ?_
    exact wx (WS.mk (tc (tc (Zd (Zr (web ZpM)) Zc))) Zb)
  obtain ⟨r0, hw⟩ := hw
  (conv => whnf)
  refine AWP.weak r0 hw ?_
  refine nw ?_
  refine Zi hF (fun Zol hF => ?_) (fun Zol hF => ?_)
  ·refine AWP.seq ?_
   refine ns ?_
   obtain rfl := Zg hF
   refine ns ?_
   refine Exists.intro [] ?_
   refine st ?_
   exact wx (WS.mk (tc Zc) Zb)
  ·refine nw ?_
   obtain ⟨ZII, hF⟩ := Zy hF
   refine ns ?_
   refine AWL.weak (rn []) ?_ (Zpe s (i_3 + 1) _ hF)
   exact (WS.mk (tc (Zd (Zr (Zdf (Zdu ZII))) Zc)) Zb)
 ·refine nw ?_
  refine AWP.seq ?_
  refine ns ?_
  obtain rfl := Zg hF
  refine ns ?_
  refine Exists.intro [] ?_
  refine st ?_
  exact wx (WS.mk (tc Zc) Zb)

def Zer (s : ByteArray) : Option (Bool) :=
 (if ((s.toList == (ByteArray.mk #[]).toList) || (decide (((s.size : Nat) : Int) > 64))) = true then some true else (btI s 0) >>= fun y7 =>
 Zef ((y7.toNat : Nat) : Int) >>= fun r8 =>
 (if (!r8) = true then (btI s 0) >>= fun y9 =>
 some (((y9.toNat : Nat) : Int) != 95) else some false) >>= fun c10 =>
 some c10) >>= fun c11 =>
 if c11 = true then
 some false
 else
 Zdk s 0
def Zer.M (s : ByteArray) (r : Bool) : Prop :=
 Zj Tryz.prog 119 [.c none (.v (.string s))] [] (fun d b => d = .c none (.v (.bool r)) ∧ b = [])
theorem Zip (s : ByteArray) (r : Bool) (hF : Zer s = some r) : Zer.M s r := by
 unfold Zer at hF
 unfold Zer.M
 refine en Tryz.func119 ?_
 refine AWP.seq ?_
 refine ns ?_
 refine AWP.seq ?_
 refine AWP.seq ?_
 obtain ⟨c11, ZcO, hF⟩ := bind_some hF
 refine AWP.cutN (fun T => ∃ r, WS r T ⟨[(0, .c none (.v (.string s))), (22, .c none (.v (.bool c11)))], []⟩) ?_ (fun T hw => ?_)
 ·refine ns ?_
  refine Zm false (fun ZcH => ?_) (fun ZcH => ?_)
  ·(conv => whnf)
   have ZcO := ift ZcH ZcO
   obtain rfl := Zg ZcO
   refine st ?_
   exact wx (WS.mk (tc (Zd (Zr (web ZcH)) Zc)) Zb)
  ·(conv => whnf)
   refine st ?_
   refine Zm false (fun ZbD => ?_) (fun ZbD => ?_)
   ·have ZcO := ift (And.intro ZcH ZbD) ZcO
    (conv => whnf)
    obtain rfl := Zg ZcO
    refine st ?_
    exact wx (WS.mk (tc (Zd (Zr (web (And.intro ZcH ZbD))) Zc)) Zb)
   ·have ZcO := ife (And.intro ZcH ZbD) ZcO
    obtain ⟨y7, hy70, hy7, ZcO⟩ := Zc1 ZcO
    obtain ⟨r8, hr8, ZcO⟩ := bind_some ZcO
    obtain ⟨c10, Zdr, ZcO⟩ := bind_some ZcO
    (conv => whnf)
    refine sr hy7 ?_
    refine st ?_
    refine e3 ?_
    refine st ?_
    refine cm (Zj.weak (rn []) (ZlS ((y7.toNat : Nat) : Int) _ hr8) rfl (WS.mk (tc Zc) Zb)) ?_
    refine st ?_
    refine Zm true (fun Zdl => ?_) (fun Zdl => ?_)
    ·have Zdr := ift (And.intro ZcH (And.intro ZbD Zdl)) Zdr
     obtain ⟨y9, ZIO, hy9, Zdr⟩ := Zc1 Zdr
     (conv => whnf)
     refine sr hy9 ?_
     obtain rfl := Zg Zdr
     obtain rfl := Zg ZcO
     refine st ?_
     exact wx (WS.mk (tc (Zd (Zr (web (And.intro ZcH (And.intro ZbD Zdl)))) Zc)) Zb)
    ·have Zdr := ife (And.intro ZcH (And.intro ZbD Zdl)) Zdr
     (conv => whnf)
     obtain rfl := Zg Zdr
     obtain rfl := Zg ZcO
     refine st ?_
     exact wx (WS.mk (tc (Zd (Zr (web (And.intro ZcH (And.intro ZbD Zdl)))) Zc)) Zb)
 obtain ⟨r0, hw⟩ := hw
 (conv => whnf)
 refine AWP.weak r0 hw ?_
 refine nw ?_
 refine Zi hF (fun Zfg hF => ?_) (fun Zfg hF => ?_)
 ·refine AWP.seq ?_
  refine ns ?_
  obtain rfl := Zg hF
  refine ns ?_
  refine Exists.intro [] ?_
  refine st ?_
  exact wx (WS.mk (tc Zc) Zb)
 ·refine nw ?_
  refine AWP.seq ?_
  refine AWP.seq ?_
  refine ns ?_
  refine AWP.block ?_
  refine AWP.loop ?_
  refine AWL.weak (rn []) ?_ (Zpb s 0 _ hF)
  exact (WS.mk (tc (tc Zc)) Zb)

def Zej (s : ByteArray) : Option (Bool) :=
 Zer s >>= fun r1 =>
 (if r1 = true then Zcl s >>= fun r2 =>
 some (!r2) else some false) >>= fun c3 =>
 (if c3 = true then some true else ZdV s >>= fun r4 =>
 (if r4 = true then ZbN s >>= fun r5 =>
 some (!r5) else some false) >>= fun c6 =>
 some c6) >>= fun c7 =>
 some c7
def Zej.M (s : ByteArray) (r : Bool) : Prop :=
 Zj Tryz.prog 148 [.c none (.v (.string s))] [] (fun d b => d = .c none (.v (.bool r)) ∧ b = [])
theorem Zl0 (s : ByteArray) (r : Bool) (hF : Zej s = some r) : Zej.M s r := by
 unfold Zej at hF
 unfold Zej.M
 refine en Tryz.func148 ?_
 refine AWP.seq ?_
 refine ns ?_
 refine AWP.seq ?_
 obtain ⟨r1, hr1, hF⟩ := bind_some hF
 obtain ⟨c3, hc3, hF⟩ := bind_some hF
 obtain ⟨c7, hc7, hF⟩ := bind_some hF
 refine AWP.cutN (fun T => ∃ r, WS r T ⟨[(2, .c none (.v (.bool c7)))], []⟩) ?_ (fun T hw => ?_)
 ·refine ns ?_
  refine e3 ?_
  refine st ?_
  refine cm (Zj.weak (rn []) (Zip s _ hr1) rfl (WS.mk (tc Zc) Zb)) ?_
  refine st ?_
  refine Zm true (fun hc8 => ?_) (fun hc8 => ?_)
  ·have hc3 := ift hc8 hc3
   obtain ⟨r2, hr2, hc3⟩ := bind_some hc3
   (conv => whnf)
   refine st ?_
   refine e3 ?_
   refine st ?_
   refine cm (Zj.weak (rn []) (ZhZ s _ hr2) rfl (WS.mk (tc Zc) Zb)) ?_
   refine st ?_
   obtain rfl := Zg hc3
   refine st ?_
   refine Zm false (fun hc9 => ?_) (fun hc9 => ?_)
   ·have hc7 := ift (And.intro hc8 hc9) hc7
    (conv => whnf)
    obtain rfl := Zg hc7
    refine st ?_
    exact wx (WS.mk (Zd (Zr (web (And.intro hc8 hc9))) Zc) Zb)
   ·have hc7 := ife (And.intro hc8 hc9) hc7
    obtain ⟨r4, hr4, hc7⟩ := bind_some hc7
    obtain ⟨c6, hc6, hc7⟩ := bind_some hc7
    (conv => whnf)
    refine st ?_
    refine e3 ?_
    refine st ?_
    refine cm (Zj.weak (rn []) (ZgW s _ hr4) rfl (WS.mk (tc Zc) Zb)) ?_
    refine st ?_
    refine Zm true (fun Zdr => ?_) (fun Zdr => ?_)
    ·have hc6 := ift (And.intro hc8 (And.intro hc9 Zdr)) hc6
     obtain ⟨r5, hr5, hc6⟩ := bind_some hc6
     (conv => whnf)
     refine st ?_
     refine e3 ?_
     refine st ?_
     refine cm (Zj.weak (rn []) (Ze9 s _ hr5) rfl (WS.mk (tc Zc) Zb)) ?_
     refine st ?_
     obtain rfl := Zg hc6
     obtain rfl := Zg hc7
     refine st ?_
     exact wx (WS.mk (Zd (Zr (web (And.intro hc8 (And.intro hc9 Zdr)))) Zc) Zb)
    ·have hc6 := ife (And.intro hc8 (And.intro hc9 Zdr)) hc6
     (conv => whnf)
     obtain rfl := Zg hc6
     obtain rfl := Zg hc7
     refine st ?_
     exact wx (WS.mk (Zd (Zr (web (And.intro hc8 (And.intro hc9 Zdr)))) Zc) Zb)
  ·have hc3 := ife hc8 hc3
   (conv => whnf)
   obtain rfl := Zg hc3
   have hc7 := ife hc8 hc7
   obtain ⟨r4, hr4, hc7⟩ := bind_some hc7
   obtain ⟨c6, hc6, hc7⟩ := bind_some hc7
   refine st ?_
   refine e3 ?_
   refine st ?_
   refine cm (Zj.weak (rn []) (ZgW s _ hr4) rfl (WS.mk (tc Zc) Zb)) ?_
   refine st ?_
   refine Zm true (fun ZcO => ?_) (fun ZcO => ?_)
   ·have hc6 := ift (And.intro hc8 ZcO) hc6
    obtain ⟨r5, hr5, hc6⟩ := bind_some hc6
    (conv => whnf)
    refine st ?_
    refine e3 ?_
    refine st ?_
    refine cm (Zj.weak (rn []) (Ze9 s _ hr5) rfl (WS.mk (tc Zc) Zb)) ?_
    refine st ?_
    obtain rfl := Zg hc6
    obtain rfl := Zg hc7
    refine st ?_
    exact wx (WS.mk (Zd (Zr (web (And.intro hc8 ZcO))) Zc) Zb)
   ·have hc6 := ife (And.intro hc8 ZcO) hc6
    (conv => whnf)
    obtain rfl := Zg hc6
    obtain rfl := Zg hc7
    refine st ?_
    exact wx (WS.mk (Zd (Zr (web (And.intro hc8 ZcO))) Zc) Zb)
 obtain ⟨r0, hw⟩ := hw
 (conv => whnf)
 refine AWP.weak r0 hw ?_
 obtain rfl := Zg hF
 refine ns ?_
 refine Exists.intro [] ?_
 refine st ?_
 exact wx (WS.mk (tc Zc) Zb)

def ZfS (module : ByteArray) (name_ : ByteArray) : Option (ByteArray) :=
 Zer module >>= fun r8 =>
 (if (!r8) = true then some true else (btI module 0) >>= fun y9 =>
 Zel ((y9.toNat : Nat) : Int) >>= fun r10 =>
 some (!r10)) >>= fun c11 =>
 (if c11 = true then some true else Zej name_ >>= fun r12 =>
 some (!r12)) >>= fun c13 =>
 if c13 = true then
 some (ByteArray.mk #[])
 else
 Z4 (((module.size + (ByteArray.mk #[46]).size : Nat) : Int) ≤ IntKind.i64.max) >>= fun _ =>
 Z4 ((((module ++ (ByteArray.mk #[46])).size + name_.size : Nat) : Int) ≤ IntKind.i64.max) >>= fun _ =>
 some ((module ++ (ByteArray.mk #[46])) ++ name_)
def ZfS.M (module : ByteArray) (name_ : ByteArray) (r : ByteArray) : Prop :=
 Zj Tryz.prog 141 [.c none (.v (.string module)), .c none (.v (.string name_))] [] (fun d b => d = .c none (.v (.string r)) ∧ b = [])
theorem Zsb (module : ByteArray) (name_ : ByteArray) (r : ByteArray) (hF : ZfS module name_ = some r) : ZfS.M module name_ r := by
 unfold ZfS at hF
 unfold ZfS.M
 refine en Tryz.func141 ?_
 refine AWP.seq ?_
 refine ns ?_
 refine AWP.seq ?_
 refine AWP.seq ?_
 obtain ⟨r8, hr8, hF⟩ := bind_some hF
 obtain ⟨c11, ZcO, hF⟩ := bind_some hF
 obtain ⟨c13, ZbD, hF⟩ := bind_some hF
 refine AWP.cutN (fun T => ∃ r, WS r T ⟨[(0, .c none (.v (.string module))), (1, .c none (.v (.string name_))), (18, .c none (.v (.bool c13)))], []⟩) ?_ (fun T hw => ?_)
 ·refine ns ?_
  refine e3 ?_
  refine st ?_
  refine cm (Zj.weak (rn []) (Zip module _ hr8) rfl (WS.mk (tc Zc) Zb)) ?_
  refine st ?_
  refine Zm false (fun Zdl => ?_) (fun Zdl => ?_)
  ·have ZcO := ift Zdl ZcO
   (conv => whnf)
   obtain rfl := Zg ZcO
   have ZbD := ift Zdl ZbD
   obtain rfl := Zg ZbD
   refine st ?_
   exact wx (WS.mk (tc (tc (Zd (Zr (web Zdl)) Zc))) Zb)
  ·have ZcO := ife Zdl ZcO
   obtain ⟨y9, ZIO, hy9, ZcO⟩ := Zc1 ZcO
   obtain ⟨r10, ZyQ, ZcO⟩ := bind_some ZcO
   (conv => whnf)
   refine sr hy9 ?_
   refine st ?_
   refine e3 ?_
   refine st ?_
   refine cm (Zj.weak (rn []) (Zjs ((y9.toNat : Nat) : Int) _ ZyQ) rfl (WS.mk (tc Zc) Zb)) ?_
   refine st ?_
   obtain rfl := Zg ZcO
   refine st ?_
   refine Zm false (fun Zfg => ?_) (fun Zfg => ?_)
   ·have ZbD := ift (And.intro Zdl Zfg) ZbD
    (conv => whnf)
    obtain rfl := Zg ZbD
    refine st ?_
    exact wx (WS.mk (tc (tc (Zd (Zr (web (And.intro Zdl Zfg))) Zc))) Zb)
   ·have ZbD := ife (And.intro Zdl Zfg) ZbD
    obtain ⟨r12, Zzo, ZbD⟩ := bind_some ZbD
    (conv => whnf)
    refine st ?_
    refine e3 ?_
    refine st ?_
    refine cm (Zj.weak (rn []) (Zl0 name_ _ Zzo) rfl (WS.mk (tc Zc) Zb)) ?_
    refine st ?_
    obtain rfl := Zg ZbD
    refine st ?_
    exact wx (WS.mk (tc (tc (Zd (Zr (web (And.intro Zdl Zfg))) Zc))) Zb)
 obtain ⟨r0, hw⟩ := hw
 (conv => whnf)
 refine AWP.weak r0 hw ?_
 refine nw ?_
 refine Zi hF (fun Zgv hF => ?_) (fun Zgv hF => ?_)
 ·refine AWP.seq ?_
  refine ns ?_
  obtain rfl := Zg hF
  refine ns ?_
  refine Exists.intro [] ?_
  refine st ?_
  exact wx (WS.mk (tc Zc) Zb)
 ·refine nw ?_
  refine AWP.seq ?_
  obtain ⟨ZEm, hF⟩ := Zy hF
  obtain ⟨ZHo, hF⟩ := Zy hF
  refine ns ?_
  refine And.intro ZEm ?_
  refine st ?_
  refine And.intro ZHo ?_
  refine st ?_
  obtain rfl := Zg hF
  refine ns ?_
  refine Exists.intro [] ?_
  refine st ?_
  exact wx (WS.mk (tc Zc) Zb)

def ZeQ (s : ByteArray) : Option (ByteArray × ByteArray × Bool) :=
 strings_Cut s (ByteArray.mk #[46]) >>= fun r1 =>
 (if (!r1.2.2) = true then some true else ZfS r1.1 r1.2.1 >>= fun r5 =>
 some (r5.toList == (ByteArray.mk #[]).toList)) >>= fun c6 =>
 if c6 = true then
 some ((ByteArray.mk #[]), (ByteArray.mk #[]), false)
 else
 some (r1.1, r1.2.1, true)
def ZeQ.M (s : ByteArray) (r : ByteArray × ByteArray × Bool) : Prop :=
 Zj Tryz.prog 127 [.c none (.v (.string s))] [] (fun d b => d = .tup [.c (.v (.string r.1)), .c (.v (.string r.2.1)), .c (.v (.bool r.2.2))] ∧ b = [])
theorem ZmM (s : ByteArray) (r : ByteArray × ByteArray × Bool) (hF : ZeQ s = some r) : ZeQ.M s r := by
 unfold ZeQ at hF
 unfold ZeQ.M
 refine en Tryz.func127 ?_
 refine AWP.seq ?_
 refine ns ?_
 refine AWP.seq ?_
 obtain ⟨r1, hr1, hF⟩ := bind_some hF
 refine ns ?_
 refine e3 ?_
 refine st ?_
 refine cm (Zj.weak (rn []) (ZrW s (ByteArray.mk #[46]) _ hr1) rfl (WS.mk (tc (tc Zc)) Zb)) ?_
 refine st ?_
 refine AWP.seq ?_
 refine AWP.seq ?_
 obtain ⟨c6, hc6, hF⟩ := bind_some hF
 refine AWP.cutN (fun T => ∃ r, WS r T ⟨[(5, .c none (.v (.string r1.1))), (6, .c none (.v (.string r1.2.1))), (21, .c none (.v (.bool c6)))], []⟩) ?_ (fun T hw => ?_)
 ·refine ns ?_
  refine Zm false (fun hc7 => ?_) (fun hc7 => ?_)
  ·have hc6 := ift hc7 hc6
   (conv => whnf)
   obtain rfl := Zg hc6
   refine st ?_
   exact wx (WS.mk (tc (tc (Zd (Zr (web hc7)) Zc))) Zb)
  ·have hc6 := ife hc7 hc6
   obtain ⟨r5, hr5, hc6⟩ := bind_some hc6
   (conv => whnf)
   refine st ?_
   refine e3 ?_
   refine st ?_
   refine cm (Zj.weak (rn []) (Zsb r1.1 r1.2.1 _ hr5) rfl (WS.mk (tc (tc Zc)) Zb)) ?_
   refine st ?_
   obtain rfl := Zg hc6
   refine st ?_
   exact wx (WS.mk (tc (tc (Zd (Zr (web hc7)) Zc))) Zb)
 obtain ⟨r0, hw⟩ := hw
 (conv => whnf)
 refine AWP.weak r0 hw ?_
 refine nw ?_
 refine Zi hF (fun hc8 hF => ?_) (fun hc8 hF => ?_)
 ·refine AWP.seq ?_
  refine ns ?_
  obtain rfl := Zg hF
  refine ns ?_
  refine Exists.intro [] ?_
  refine st ?_
  exact wx (WS.mk (Zd (Zc9 (ZcC (WE.refl _) (ZcC (WE.refl _) (ZcC (WE.refl _) Zc6)))) Zc) Zb)
 ·refine nw ?_
  refine AWP.seq ?_
  refine ns ?_
  obtain rfl := Zg hF
  refine ns ?_
  refine Exists.intro [] ?_
  refine st ?_
  exact wx (WS.mk (Zd (Zc9 (ZcC (WE.refl _) (ZcC (WE.refl _) (ZcC (WE.refl _) Zc6)))) Zc) Zb)

def ZeM (s : ByteArray) : Option (Bool) :=
 ZeQ s >>= fun r1 =>
 (if r1.2.2 = true then some true else Zej s >>= fun r2 =>
 some r2) >>= fun c3 =>
 some c3
def ZeM.M (s : ByteArray) (r : Bool) : Prop :=
 Zj Tryz.prog 134 [.c none (.v (.string s))] [] (fun d b => d = .c none (.v (.bool r)) ∧ b = [])
theorem Zp3 (s : ByteArray) (r : Bool) (hF : ZeM s = some r) : ZeM.M s r := by
 unfold ZeM at hF
 unfold ZeM.M
 refine en Tryz.func134 ?_
 refine AWP.seq ?_
 refine ns ?_
 refine AWP.seq ?_
 obtain ⟨r1, hr1, hF⟩ := bind_some hF
 refine ns ?_
 refine e3 ?_
 refine st ?_
 refine cm (Zj.weak (rn []) (ZmM s _ hr1) rfl (WS.mk (tc Zc) Zb)) ?_
 refine st ?_
 refine AWP.seq ?_
 obtain ⟨c3, hc3, hF⟩ := bind_some hF
 refine AWP.cutN (fun T => ∃ r, WS r T ⟨[(2, .c none (.v (.bool c3)))], []⟩) ?_ (fun T hw => ?_)
 ·refine ns ?_
  refine Zm false (fun hc4 => ?_) (fun hc4 => ?_)
  ·have hc3 := ift hc4 hc3
   (conv => whnf)
   obtain rfl := Zg hc3
   refine st ?_
   exact wx (WS.mk (Zd (Zr (web hc4)) Zc) Zb)
  ·have hc3 := ife hc4 hc3
   obtain ⟨r2, hr2, hc3⟩ := bind_some hc3
   (conv => whnf)
   refine st ?_
   refine e3 ?_
   refine st ?_
   refine cm (Zj.weak (rn []) (Zl0 s _ hr2) rfl (WS.mk (tc Zc) Zb)) ?_
   refine st ?_
   obtain rfl := Zg hc3
   refine st ?_
   exact wx (WS.mk (Zd (Zr (web hc4)) Zc) Zb)
 obtain ⟨r0, hw⟩ := hw
 (conv => whnf)
 refine AWP.weak r0 hw ?_
 obtain rfl := Zg hF
 refine ns ?_
 refine Exists.intro [] ?_
 refine st ?_
 exact wx (WS.mk (tc Zc) Zb)

def ZfV (base : ByteArray) (n : Int) : Option (ByteArray) :=
 (if (decide (n < 0)) = true then some true else ZeM base >>= fun r4 =>
 some (!r4)) >>= fun c5 =>
 if c5 = true then
 some (ByteArray.mk #[])
 else
 Z4 (((base.size + (ByteArray.mk #[36]).size : Nat) : Int) ≤ IntKind.i64.max) >>= fun _ =>
 strconv_Itoa n >>= fun r9 =>
 Z4 ((((base ++ (ByteArray.mk #[36])).size + r9.size : Nat) : Int) ≤ IntKind.i64.max) >>= fun _ =>
 some ((base ++ (ByteArray.mk #[36])) ++ r9)
def ZfV.M (base : ByteArray) (n : Int) (r : ByteArray) : Prop :=
 Zj Tryz.prog 116 [.c none (.v (.string base)), .c none (.v (.int .i64 n))] [] (fun d b => d = .c none (.v (.string r)) ∧ b = [])
theorem Zr6 (base : ByteArray) (n : Int) (r : ByteArray) (hF : ZfV base n = some r) : ZfV.M base n r := by
 unfold ZfV at hF
 unfold ZfV.M
 refine en Tryz.func116 ?_
 refine AWP.seq ?_
 refine ns ?_
 refine AWP.seq ?_
 refine AWP.seq ?_
 obtain ⟨c5, hc5, hF⟩ := bind_some hF
 refine AWP.cutN (fun T => ∃ r, WS r T ⟨[(0, .c none (.v (.string base))), (1, .c none (.v (.int .i64 n))), (11, .c none (.v (.bool c5)))], []⟩) ?_ (fun T hw => ?_)
 ·refine ns ?_
  refine Zm false (fun hc6 => ?_) (fun hc6 => ?_)
  ·have hc5 := ift hc6 hc5
   (conv => whnf)
   obtain rfl := Zg hc5
   refine st ?_
   exact wx (WS.mk (tc (tc (Zd (Zr (web hc6)) Zc))) Zb)
  ·have hc5 := ife hc6 hc5
   obtain ⟨r4, hr4, hc5⟩ := bind_some hc5
   (conv => whnf)
   refine st ?_
   refine e3 ?_
   refine st ?_
   refine cm (Zj.weak (rn []) (Zp3 base _ hr4) rfl (WS.mk (tc Zc) Zb)) ?_
   refine st ?_
   obtain rfl := Zg hc5
   refine st ?_
   exact wx (WS.mk (tc (tc (Zd (Zr (web hc6)) Zc))) Zb)
 obtain ⟨r0, hw⟩ := hw
 (conv => whnf)
 refine AWP.weak r0 hw ?_
 refine nw ?_
 refine Zi hF (fun hc7 hF => ?_) (fun hc7 hF => ?_)
 ·refine AWP.seq ?_
  refine ns ?_
  obtain rfl := Zg hF
  refine ns ?_
  refine Exists.intro [] ?_
  refine st ?_
  exact wx (WS.mk (tc Zc) Zb)
 ·refine nw ?_
  refine AWP.seq ?_
  obtain ⟨hg8, hF⟩ := Zy hF
  obtain ⟨r9, hr9, hF⟩ := bind_some hF
  obtain ⟨Zzg, hF⟩ := Zy hF
  refine ns ?_
  refine And.intro hg8 ?_
  refine st ?_
  refine e3 ?_
  refine st ?_
  refine cm (Zj.weak (rn []) (ZlW n _ hr9) rfl (WS.mk (tc Zc) Zb)) ?_
  refine st ?_
  refine And.intro Zzg ?_
  refine st ?_
  obtain rfl := Zg hF
  refine ns ?_
  refine Exists.intro [] ?_
  refine st ?_
  exact wx (WS.mk (tc Zc) Zb)

def ZP (s : ByteArray) (c : Int) (i_5 : Int) : Option (Int) :=
 if (decide (i_5 ≥ 0)) = true then
 (btI s i_5) >>= fun y11 =>
 if (((y11.toNat : Nat) : Int) == c) = true then
 some i_5
 else
 ZP s c (IntKind.i64.wrap (i_5 - 1))
 else
 some (-1)
 partial_fixpoint
def ZP.M (s : ByteArray) (c : Int) (i_5 : Int) (r : Int) : Prop :=
 AWL Tryz.prog 19 (Code.sub (Zq Tryz.f131) [1, 0, 1, 0, 0]) (Code.cont Tryz.prog 19 (Zq Tryz.f131) [1, 0, 1, 0] (ZbV tab Tryz.f131.results (ZbX (.c none (.v (.int .i64 r))) []))) ⟨[(0, .c none (.v (.string s))), (1, .c none (.v (.int .u8 c))), (5, .c none (.v (.int .i64 i_5)))], []⟩
theorem ZgK (s : ByteArray) (c : Int) (i_5 : Int) : ∀ r, ZP s c i_5 = some r → ZP.M s c i_5 r := by
 refine ZP.partial_correctness s c (fun i_5 r => ZP.M s c i_5 r) ?_ i_5
 intro i_bytealg_LastIndexByteString_l1' Zea i_5 r hF
 have ZgR := fun (_s : ByteArray) (_c : Int) (i_5 : Int) => Zea i_5
 clear Zea
 unfold ZP.M
 refine AWL.step ?_
 refine AWP.seq ?_
 refine AWP.seq ?_
 refine ns ?_
 refine nw ?_
 refine Zi hF (fun Zdr hF => ?_) (fun Zdr hF => ?_)
 ·refine nw ?_
  refine AWP.seq ?_
  refine AWP.block ?_
  refine AWP.seq ?_
  obtain ⟨y11, hy110, ZIi, hF⟩ := Zc1 hF
  refine nn ?_
  refine sr ZIi ?_
  refine st ?_
  refine nw ?_
  refine Zi hF (fun ZcH hF => ?_) (fun ZcH hF => ?_)
  ·refine AWP.seq ?_
   refine ns ?_
   obtain rfl := Zg hF
   refine ns ?_
   refine Exists.intro [] ?_
   refine st ?_
   exact wx (WS.mk (tc Zc) Zb)
  ·refine nw ?_
   refine ns ?_
   refine AWL.weak (rn []) ?_ (ZgR s c (IntKind.i64.wrap (i_5 - 1)) _ hF)
   exact (WS.mk (tc (tc (tc Zc))) Zb)
 ·refine nw ?_
  refine AWP.seq ?_
  refine ns ?_
  obtain rfl := Zg hF
  refine ns ?_
  refine Exists.intro [] ?_
  refine st ?_
  exact wx (WS.mk (tc Zc) Zb)

def ZaZ (s : ByteArray) (c : Int) : Option (Int) :=
 ZP s c (IntKind.i64.wrap (((s.size : Nat) : Int) - 1))
def ZaZ.M (s : ByteArray) (c : Int) (r : Int) : Prop :=
 Zj Tryz.prog 131 [.c none (.v (.string s)), .c none (.v (.int .u8 c))] [] (fun d b => d = .c none (.v (.int .i64 r)) ∧ b = [])
theorem Zhp (s : ByteArray) (c : Int) (r : Int) (hF : ZaZ s c = some r) : ZaZ.M s c r := by
 unfold ZaZ at hF
 unfold ZaZ.M
 refine en Tryz.func131 ?_
 refine AWP.seq ?_
 refine ns ?_
 refine AWP.seq ?_
 refine AWP.seq ?_
 refine ns ?_
 refine AWP.block ?_
 refine AWP.loop ?_
 refine AWL.weak (rn []) ?_ (ZgK s c (IntKind.i64.wrap (((s.size : Nat) : Int) - 1)) _ hF)
 exact (WS.mk (tc (tc (tc Zc))) Zb)

def ZbZ (s : ByteArray) (c : Int) : Option (Int) :=
 ZaZ s c >>= fun r1 =>
 some r1
def ZbZ.M (s : ByteArray) (c : Int) (r : Int) : Prop :=
 Zj Tryz.prog 114 [.c none (.v (.string s)), .c none (.v (.int .u8 c))] [] (fun d b => d = .c none (.v (.int .i64 r)) ∧ b = [])
theorem Zkk (s : ByteArray) (c : Int) (r : Int) (hF : ZbZ s c = some r) : ZbZ.M s c r := by
 unfold ZbZ at hF
 unfold ZbZ.M
 refine en Tryz.func114 ?_
 refine AWP.seq ?_
 refine ns ?_
 refine AWP.seq ?_
 obtain ⟨r1, hr1, hF⟩ := bind_some hF
 refine ns ?_
 refine e3 ?_
 refine st ?_
 refine cm (Zj.weak (rn []) (Zhp s c _ hr1) rfl (WS.mk (tc (tc Zc)) Zb)) ?_
 refine st ?_
 obtain rfl := Zg hF
 refine ns ?_
 refine Exists.intro [] ?_
 refine st ?_
 exact wx (WS.mk (tc Zc) Zb)

def Ze0 (s : ByteArray) : Option (ByteArray × Int × Bool) :=
 ZbZ s 36 >>= fun r1 =>
 if (decide (r1 < 0)) = true then
 some ((ByteArray.mk #[]), 0, false)
 else
 (slS s (IntKind.i64.wrap (r1 + 1)) ((s.size : Nat) : Int)) >>= fun z4 =>
 Zfq z4 >>= fun r5 =>
 (if r5.2 = true then some true else (slS s ((0 : Nat) : Int) r1) >>= fun z10 =>
 ZfV z10 r5.1 >>= fun r11 =>
 some (!(r11.toList == s.toList))) >>= fun c12 =>
 if c12 = true then
 some ((ByteArray.mk #[]), 0, false)
 else
 (slS s ((0 : Nat) : Int) r1) >>= fun z15 =>
 some (z15, r5.1, true)
def Ze0.M (s : ByteArray) (r : ByteArray × Int × Bool) : Prop :=
 Zj Tryz.prog 92 [.c none (.v (.string s))] [] (fun d b => d = .tup [.c (.v (.string r.1)), .c (.v (.int .i64 r.2.1)), .c (.v (.bool r.2.2))] ∧ b = [])
theorem Zku (s : ByteArray) (r : ByteArray × Int × Bool) (hF : Ze0 s = some r) : Ze0.M s r := by
 unfold Ze0 at hF
 unfold Ze0.M
 refine en Tryz.func92 ?_
 refine AWP.seq ?_
 refine ns ?_
 refine AWP.seq ?_
 obtain ⟨r1, hr1, hF⟩ := bind_some hF
 refine ns ?_
 refine e3 ?_
 refine st ?_
 refine cm (Zj.weak (rn []) (Zkk s 36 _ hr1) rfl (WS.mk (tc (tc Zc)) Zb)) ?_
 refine st ?_
 refine AWP.seq ?_
 refine AWP.seq ?_
 refine ns ?_
 refine nw ?_
 refine Zi hF (fun hc3 hF => ?_) (fun hc3 hF => ?_)
 ·refine AWP.seq ?_
  refine ns ?_
  obtain rfl := Zg hF
  refine ns ?_
  refine Exists.intro [] ?_
  refine st ?_
  exact wx (WS.mk (Zd (Zc9 (ZcC (WE.refl _) (ZcC (WE.refl _) (ZcC (WE.refl _) Zc6)))) Zc) Zb)
 ·refine nw ?_
  refine AWP.seq ?_
  obtain ⟨z4, ZHx, ZCx, ZIG, hz4, hF⟩ := ZfX hF
  obtain ⟨r5, hr5, hF⟩ := bind_some hF
  refine nn ?_
  refine s3 ZHx ZCx ZIG ?_
  rw [← hz4]
  refine st ?_
  refine e3 ?_
  refine st ?_
  refine cm (Zj.weak (rn []) (strconv_Atoi_ok z4 _ hr5) rfl (WS.mk (tc Zc) Zb)) ?_
  refine st ?_
  refine AWP.seq ?_
  refine AWP.seq ?_
  obtain ⟨c12, ZcH, hF⟩ := bind_some hF
  refine AWP.cutN (fun T => ∃ r, WS r T ⟨[(0, .c none (.v (.string s))), (3, .c none (.v (.int .i64 r5.1))), (5, .c none (.v (.int .i64 r1))), (29, .c none (.v (.bool c12)))], []⟩) ?_ (fun T hw => ?_)
  ·refine ns ?_
   refine Zm false (fun ZbD => ?_) (fun ZbD => ?_)
   ·have ZcH := ift ZbD ZcH
    (conv => whnf)
    obtain rfl := Zg ZcH
    refine st ?_
    exact wx (WS.mk (tc (tc (tc (Zd (Zr (web ZbD)) Zc)))) Zb)
   ·have ZcH := ife ZbD ZcH
    obtain ⟨z10, ZGF, ZFX, ZES, ZIh, ZcH⟩ := ZfX ZcH
    obtain ⟨r11, ZvS, ZcH⟩ := bind_some ZcH
    (conv => whnf)
    refine s3 ZGF ZFX ZES ?_
    rw [← ZIh]
    refine st ?_
    refine e3 ?_
    refine st ?_
    refine cm (Zj.weak (rn []) (Zr6 z10 r5.1 _ ZvS) rfl (WS.mk (tc (tc Zc)) Zb)) ?_
    refine st ?_
    obtain rfl := Zg ZcH
    refine st ?_
    exact wx (WS.mk (tc (tc (tc (Zd (Zr (web ZbD)) Zc)))) Zb)
  obtain ⟨r0, hw⟩ := hw
  (conv => whnf)
  refine AWP.weak r0 hw ?_
  refine nw ?_
  refine Zi hF (fun Zdl hF => ?_) (fun Zdl hF => ?_)
  ·refine AWP.seq ?_
   refine ns ?_
   obtain rfl := Zg hF
   refine ns ?_
   refine Exists.intro [] ?_
   refine st ?_
   exact wx (WS.mk (Zd (Zc9 (ZcC (WE.refl _) (ZcC (WE.refl _) (ZcC (WE.refl _) Zc6)))) Zc) Zb)
  ·refine nw ?_
   refine AWP.seq ?_
   obtain ⟨z15, ZGH, ZEz, ZGh, ZIe, hF⟩ := ZfX hF
   refine nn ?_
   refine s3 ZGH ZEz ZGh ?_
   rw [← ZIe]
   refine st ?_
   obtain rfl := Zg hF
   refine ns ?_
   refine Exists.intro [] ?_
   refine st ?_
   exact wx (WS.mk (Zd (Zc9 (ZcC (WE.refl _) (ZcC (WE.refl _) (ZcC (WE.refl _) Zc6)))) Zc) Zb)

def Zdi (s : ByteArray) : Option (Int) :=
 Zcl s >>= fun r18 =>
 if r18 = true then
 some 5
 else
 ZbN s >>= fun r20 =>
 if r20 = true then
 some 6
 else
 Zer s >>= fun r22 =>
 (if r22 = true then (btI s 0) >>= fun y23 =>
 Zel ((y23.toNat : Nat) : Int) >>= fun r24 =>
 some r24 else some false) >>= fun c25 =>
 if c25 = true then
 some 2
 else
 Zer s >>= fun r28 =>
 if r28 = true then
 some 1
 else
 ZdV s >>= fun r30 =>
 (if r30 = true then (btI s 0) >>= fun y31 =>
 some (((y31.toNat : Nat) : Int) == 58) else some false) >>= fun c32 =>
 if c32 = true then
 some 4
 else
 ZdV s >>= fun r35 =>
 if r35 = true then
 some 3
 else
 Ze0 s >>= fun r37 =>
 if r37.2.2 = true then
 some 7
 else
 some 0
def Zdi.M (s : ByteArray) (r : Int) : Prop :=
 Zj Tryz.prog 93 [.c none (.v (.string s))] [] (fun d b => d = .c none (.v (.int .i64 r)) ∧ b = [])
theorem ZhR (s : ByteArray) (r : Int) (hF : Zdi s = some r) : Zdi.M s r := by
 unfold Zdi at hF
 unfold Zdi.M
 refine en Tryz.func93 ?_
 refine AWP.seq ?_
 refine ns ?_
 refine AWP.seq ?_
 refine AWP.block ?_
 refine AWP.seq ?_
 obtain ⟨r18, ZCw, hF⟩ := bind_some hF
 refine ns ?_
 refine e3 ?_
 refine st ?_
 refine cm (Zj.weak (rn []) (ZhZ s _ ZCw) rfl (WS.mk (tc Zc) Zb)) ?_
 refine st ?_
 refine nw ?_
 refine Zi hF (fun Zta hF => ?_) (fun Zta hF => ?_)
 ·refine AWP.seq ?_
  refine ns ?_
  obtain rfl := Zg hF
  refine ns ?_
  refine Exists.intro [] ?_
  refine st ?_
  exact wx (WS.mk (tc Zc) Zb)
 ·refine AWP.seq ?_
  obtain ⟨r20, ZHz, hF⟩ := bind_some hF
  refine ns ?_
  refine e3 ?_
  refine st ?_
  refine cm (Zj.weak (rn []) (Ze9 s _ ZHz) rfl (WS.mk (tc Zc) Zb)) ?_
  refine st ?_
  refine nw ?_
  refine Zi hF (fun ZDV hF => ?_) (fun ZDV hF => ?_)
  ·refine AWP.seq ?_
   refine ns ?_
   obtain rfl := Zg hF
   refine ns ?_
   refine Exists.intro [] ?_
   refine st ?_
   exact wx (WS.mk (tc Zc) Zb)
  ·refine AWP.seq ?_
   obtain ⟨r22, ZHa, hF⟩ := bind_some hF
   obtain ⟨c25, Zjq, hF⟩ := bind_some hF
   refine AWP.cutN (fun T => ∃ r, WS r T ⟨[(0, .c none (.v (.string s))), (12, .c none (.v (.bool c25)))], []⟩) ?_ (fun T hw => ?_)
   ·refine ns ?_
    refine e3 ?_
    refine st ?_
    refine cm (Zj.weak (rn []) (Zip s _ ZHa) rfl (WS.mk (tc Zc) Zb)) ?_
    refine st ?_
    refine Zm true (fun Zlc => ?_) (fun Zlc => ?_)
    ·have Zjq := ift Zlc Zjq
     obtain ⟨y23, hy230, ZG0, Zjq⟩ := Zc1 Zjq
     obtain ⟨r24, ZDD, Zjq⟩ := bind_some Zjq
     (conv => whnf)
     refine sr ZG0 ?_
     refine st ?_
     refine e3 ?_
     refine st ?_
     refine cm (Zj.weak (rn []) (Zjs ((y23.toNat : Nat) : Int) _ ZDD) rfl (WS.mk (tc Zc) Zb)) ?_
     refine st ?_
     obtain rfl := Zg Zjq
     refine st ?_
     exact wx (WS.mk (tc (Zd (Zr (web Zlc)) Zc)) Zb)
    ·have Zjq := ife Zlc Zjq
     (conv => whnf)
     obtain rfl := Zg Zjq
     refine st ?_
     exact wx (WS.mk (tc (Zd (Zr (web Zlc)) Zc)) Zb)
   obtain ⟨r0, hw⟩ := hw
   (conv => whnf)
   refine AWP.weak r0 hw ?_
   refine nw ?_
   refine Zi hF (fun Zty hF => ?_) (fun Zty hF => ?_)
   ·refine AWP.seq ?_
    refine ns ?_
    obtain rfl := Zg hF
    refine ns ?_
    refine Exists.intro [] ?_
    refine st ?_
    exact wx (WS.mk (tc Zc) Zb)
   ·refine AWP.seq ?_
    obtain ⟨r28, ZB5, hF⟩ := bind_some hF
    refine ns ?_
    refine e3 ?_
    refine st ?_
    refine cm (Zj.weak (rn []) (Zip s _ ZB5) rfl (WS.mk (tc Zc) Zb)) ?_
    refine st ?_
    refine nw ?_
    refine Zi hF (fun ZoI hF => ?_) (fun ZoI hF => ?_)
    ·refine AWP.seq ?_
     refine ns ?_
     obtain rfl := Zg hF
     refine ns ?_
     refine Exists.intro [] ?_
     refine st ?_
     exact wx (WS.mk (tc Zc) Zb)
    ·refine AWP.seq ?_
     obtain ⟨r30, ZHF, hF⟩ := bind_some hF
     obtain ⟨c32, ZnF, hF⟩ := bind_some hF
     refine AWP.cutN (fun T => ∃ r, WS r T ⟨[(0, .c none (.v (.string s))), (23, .c none (.v (.bool c32)))], []⟩) ?_ (fun T hw => ?_)
     ·refine ns ?_
      refine e3 ?_
      refine st ?_
      refine cm (Zj.weak (rn []) (ZgW s _ ZHF) rfl (WS.mk (tc Zc) Zb)) ?_
      refine st ?_
      refine Zm true (fun Zpu => ?_) (fun Zpu => ?_)
      ·have ZnF := ift Zpu ZnF
       obtain ⟨y31, hy310, ZGV, ZnF⟩ := Zc1 ZnF
       (conv => whnf)
       refine sr ZGV ?_
       obtain rfl := Zg ZnF
       refine st ?_
       exact wx (WS.mk (tc (Zd (Zr (web Zpu)) Zc)) Zb)
      ·have ZnF := ife Zpu ZnF
       (conv => whnf)
       obtain rfl := Zg ZnF
       refine st ?_
       exact wx (WS.mk (tc (Zd (Zr (web Zpu)) Zc)) Zb)
     obtain ⟨r0, hw⟩ := hw
     (conv => whnf)
     refine AWP.weak r0 hw ?_
     refine nw ?_
     refine Zi hF (fun Zzc hF => ?_) (fun Zzc hF => ?_)
     ·refine AWP.seq ?_
      refine ns ?_
      obtain rfl := Zg hF
      refine ns ?_
      refine Exists.intro [] ?_
      refine st ?_
      exact wx (WS.mk (tc Zc) Zb)
     ·refine AWP.seq ?_
      obtain ⟨r35, ZEo, hF⟩ := bind_some hF
      refine ns ?_
      refine e3 ?_
      refine st ?_
      refine cm (Zj.weak (rn []) (ZgW s _ ZEo) rfl (WS.mk (tc Zc) Zb)) ?_
      refine st ?_
      refine nw ?_
      refine Zi hF (fun ZkF hF => ?_) (fun ZkF hF => ?_)
      ·refine AWP.seq ?_
       refine ns ?_
       obtain rfl := Zg hF
       refine ns ?_
       refine Exists.intro [] ?_
       refine st ?_
       exact wx (WS.mk (tc Zc) Zb)
      ·refine nw ?_
       refine AWP.seq ?_
       refine AWP.seq ?_
       obtain ⟨r37, ZCF, hF⟩ := bind_some hF
       refine ns ?_
       refine e3 ?_
       refine st ?_
       refine cm (Zj.weak (rn []) (Zku s _ ZCF) rfl (WS.mk (tc Zc) Zb)) ?_
       refine st ?_
       refine AWP.seq ?_
       refine ns ?_
       refine nw ?_
       refine Zi hF (fun Zkv hF => ?_) (fun Zkv hF => ?_)
       ·refine AWP.seq ?_
        refine ns ?_
        obtain rfl := Zg hF
        refine ns ?_
        refine Exists.intro [] ?_
        refine st ?_
        exact wx (WS.mk (tc Zc) Zb)
       ·refine nw ?_
        refine AWP.seq ?_
        refine ns ?_
        obtain rfl := Zg hF
        refine ns ?_
        refine Exists.intro [] ?_
        refine st ?_
        exact wx (WS.mk (tc Zc) Zb)

def ZR (Zya : Bool) : Option (Bool) :=
 if Zya = true then
 some true
 else
 some false
def ZR.M (Zya : Bool) (r : Bool) : Prop :=
 AWP Tryz.prog 28 (Code.sub (Zq Tryz.f87) [1, 0, 1, 0, 1, 1, 1]) (Code.cont Tryz.prog 28 (Zq Tryz.f87) [1, 0, 1, 0, 1, 1, 1] (ZbV tab Tryz.f87.results (ZbX (.c none (.v (.bool r))) []))) ⟨[(16, .c none (.v (.bool Zya)))], []⟩
theorem Zah (Zya : Bool) (r : Bool) (hF : ZR Zya = some r) : ZR.M Zya r := by
 unfold ZR at hF
 unfold ZR.M
 refine nw ?_
 refine Zi hF (fun Zs4 hF => ?_) (fun Zs4 hF => ?_)
 ·refine AWP.seq ?_
  refine ns ?_
  obtain rfl := Zg hF
  refine ns ?_
  refine Exists.intro [] ?_
  refine st ?_
  exact wx (WS.mk (tc Zc) Zb)
 ·refine nw ?_
  refine AWP.seq ?_
  refine ns ?_
  obtain rfl := Zg hF
  refine ns ?_
  refine Exists.intro [] ?_
  refine st ?_
  exact wx (WS.mk (tc Zc) Zb)

def ZQ (s : ByteArray) (x_4 : Bool) : Option (Bool) :=
 if x_4 = true then
 some true
 else
 if (s.toList == (ByteArray.mk #[105, 110, 102, 105, 120]).toList) = true then
 ZR (s.toList == (ByteArray.mk #[105, 110, 102, 105, 120]).toList)
 else
 if (s.toList == (ByteArray.mk #[105, 110, 102, 105, 120, 108]).toList) = true then
 ZR (s.toList == (ByteArray.mk #[105, 110, 102, 105, 120, 108]).toList)
 else
 if (s.toList == (ByteArray.mk #[105, 110, 102, 105, 120, 114]).toList) = true then
 ZR (s.toList == (ByteArray.mk #[105, 110, 102, 105, 120, 114]).toList)
 else
 if (s.toList == (ByteArray.mk #[105, 110, 115, 116, 97, 110, 99, 101]).toList) = true then
 ZR (s.toList == (ByteArray.mk #[105, 110, 115, 116, 97, 110, 99, 101]).toList)
 else
 if (s.toList == (ByteArray.mk #[108, 101, 116]).toList) = true then
 ZR (s.toList == (ByteArray.mk #[108, 101, 116]).toList)
 else
 if (s.toList == (ByteArray.mk #[109, 111, 100, 117, 108, 101]).toList) = true then
 ZR (s.toList == (ByteArray.mk #[109, 111, 100, 117, 108, 101]).toList)
 else
 if (s.toList == (ByteArray.mk #[111, 102]).toList) = true then
 ZR (s.toList == (ByteArray.mk #[111, 102]).toList)
 else
 if (s.toList == (ByteArray.mk #[113, 117, 97, 108, 105, 102, 105, 101, 100]).toList) = true then
 ZR (s.toList == (ByteArray.mk #[113, 117, 97, 108, 105, 102, 105, 101, 100]).toList)
 else
 if (s.toList == (ByteArray.mk #[116, 104, 101, 110]).toList) = true then
 ZR (s.toList == (ByteArray.mk #[116, 104, 101, 110]).toList)
 else
 if (s.toList == (ByteArray.mk #[119, 104, 101, 114, 101]).toList) = true then
 ZR (s.toList == (ByteArray.mk #[119, 104, 101, 114, 101]).toList)
 else
 ZR (s.toList == (ByteArray.mk #[95]).toList)
def ZQ.M (s : ByteArray) (x_4 : Bool) (r : Bool) : Prop :=
 AWP Tryz.prog 28 (Code.sub (Zq Tryz.f87) [1, 0, 1, 0, 1]) (Code.cont Tryz.prog 28 (Zq Tryz.f87) [1, 0, 1, 0, 1] (ZbV tab Tryz.f87.results (ZbX (.c none (.v (.bool r))) []))) ⟨[(3, .c none (.v (.string s))), (4, .c none (.v (.bool x_4)))], []⟩
theorem Zag (s : ByteArray) (x_4 : Bool) (r : Bool) (hF : ZQ s x_4 = some r) : ZQ.M s x_4 r := by
 unfold ZQ at hF
 unfold ZQ.M
 refine nw ?_
 refine Zi hF (fun ZcO hF => ?_) (fun ZcO hF => ?_)
 ·refine AWP.seq ?_
  refine ns ?_
  obtain rfl := Zg hF
  refine ns ?_
  refine Exists.intro [] ?_
  refine st ?_
  exact wx (WS.mk (tc Zc) Zb)
 ·refine AWP.seq ?_
  refine AWP.seq ?_
  refine ns ?_
  refine nw ?_
  refine Zi hF (fun ZDC hF => ?_) (fun ZDC hF => ?_)
  ·refine nw ?_
   refine AWP.weak (rn []) ?_ (Zah (s.toList == (ByteArray.mk #[105, 110, 102, 105, 120]).toList) _ hF)
   exact (WS.mk (tc Zc) Zb)
  ·refine AWP.seq ?_
   refine ns ?_
   refine nw ?_
   refine Zi hF (fun ZAr hF => ?_) (fun ZAr hF => ?_)
   ·refine nw ?_
    refine AWP.weak (rn []) ?_ (Zah (s.toList == (ByteArray.mk #[105, 110, 102, 105, 120, 108]).toList) _ hF)
    exact (WS.mk (tc Zc) Zb)
   ·refine AWP.seq ?_
    refine ns ?_
    refine nw ?_
    refine Zi hF (fun Zjq hF => ?_) (fun Zjq hF => ?_)
    ·refine nw ?_
     refine AWP.weak (rn []) ?_ (Zah (s.toList == (ByteArray.mk #[105, 110, 102, 105, 120, 114]).toList) _ hF)
     exact (WS.mk (tc Zc) Zb)
    ·refine AWP.seq ?_
     refine ns ?_
     refine nw ?_
     refine Zi hF (fun Zlc hF => ?_) (fun Zlc hF => ?_)
     ·refine nw ?_
      refine AWP.weak (rn []) ?_ (Zah (s.toList == (ByteArray.mk #[105, 110, 115, 116, 97, 110, 99, 101]).toList) _ hF)
      exact (WS.mk (tc Zc) Zb)
     ·refine AWP.seq ?_
      refine ns ?_
      refine nw ?_
      refine Zi hF (fun Zty hF => ?_) (fun Zty hF => ?_)
      ·refine nw ?_
       refine AWP.weak (rn []) ?_ (Zah (s.toList == (ByteArray.mk #[108, 101, 116]).toList) _ hF)
       exact (WS.mk (tc Zc) Zb)
      ·refine AWP.seq ?_
       refine ns ?_
       refine nw ?_
       refine Zi hF (fun ZAy hF => ?_) (fun ZAy hF => ?_)
       ·refine nw ?_
        refine AWP.weak (rn []) ?_ (Zah (s.toList == (ByteArray.mk #[109, 111, 100, 117, 108, 101]).toList) _ hF)
        exact (WS.mk (tc Zc) Zb)
       ·refine AWP.seq ?_
        refine ns ?_
        refine nw ?_
        refine Zi hF (fun ZoI hF => ?_) (fun ZoI hF => ?_)
        ·refine nw ?_
         refine AWP.weak (rn []) ?_ (Zah (s.toList == (ByteArray.mk #[111, 102]).toList) _ hF)
         exact (WS.mk (tc Zc) Zb)
        ·refine AWP.seq ?_
         refine ns ?_
         refine nw ?_
         refine Zi hF (fun Zpp hF => ?_) (fun Zpp hF => ?_)
         ·refine nw ?_
          refine AWP.weak (rn []) ?_ (Zah (s.toList == (ByteArray.mk #[113, 117, 97, 108, 105, 102, 105, 101, 100]).toList) _ hF)
          exact (WS.mk (tc Zc) Zb)
         ·refine AWP.seq ?_
          refine ns ?_
          refine nw ?_
          refine Zi hF (fun ZyI hF => ?_) (fun ZyI hF => ?_)
          ·refine nw ?_
           refine AWP.weak (rn []) ?_ (Zah (s.toList == (ByteArray.mk #[116, 104, 101, 110]).toList) _ hF)
           exact (WS.mk (tc Zc) Zb)
          ·refine AWP.seq ?_
           refine ns ?_
           refine nw ?_
           refine Zi hF (fun ZnF hF => ?_) (fun ZnF hF => ?_)
           ·refine nw ?_
            refine AWP.weak (rn []) ?_ (Zah (s.toList == (ByteArray.mk #[119, 104, 101, 114, 101]).toList) _ hF)
            exact (WS.mk (tc Zc) Zb)
           ·refine ns ?_
            refine AWP.weak (rn []) ?_ (Zah (s.toList == (ByteArray.mk #[95]).toList) _ hF)
            exact (WS.mk (tc Zc) Zb)

def Zcz (s : ByteArray) : Option (Bool) :=
 if (s.toList == (ByteArray.mk #[97, 115]).toList) = true then
 ZQ s (s.toList == (ByteArray.mk #[97, 115]).toList)
 else
 if (s.toList == (ByteArray.mk #[99, 97, 115, 101]).toList) = true then
 ZQ s (s.toList == (ByteArray.mk #[99, 97, 115, 101]).toList)
 else
 if (s.toList == (ByteArray.mk #[99, 108, 97, 115, 115]).toList) = true then
 ZQ s (s.toList == (ByteArray.mk #[99, 108, 97, 115, 115]).toList)
 else
 if (s.toList == (ByteArray.mk #[100, 97, 116, 97]).toList) = true then
 ZQ s (s.toList == (ByteArray.mk #[100, 97, 116, 97]).toList)
 else
 if (s.toList == (ByteArray.mk #[100, 101, 114, 105, 118, 105, 110, 103]).toList) = true then
 ZQ s (s.toList == (ByteArray.mk #[100, 101, 114, 105, 118, 105, 110, 103]).toList)
 else
 if (s.toList == (ByteArray.mk #[100, 111]).toList) = true then
 ZQ s (s.toList == (ByteArray.mk #[100, 111]).toList)
 else
 if (s.toList == (ByteArray.mk #[101, 108, 115, 101]).toList) = true then
 ZQ s (s.toList == (ByteArray.mk #[101, 108, 115, 101]).toList)
 else
 if (s.toList == (ByteArray.mk #[104, 105, 100, 105, 110, 103]).toList) = true then
 ZQ s (s.toList == (ByteArray.mk #[104, 105, 100, 105, 110, 103]).toList)
 else
 if (s.toList == (ByteArray.mk #[105, 102]).toList) = true then
 ZQ s (s.toList == (ByteArray.mk #[105, 102]).toList)
 else
 if (s.toList == (ByteArray.mk #[105, 109, 112, 111, 114, 116]).toList) = true then
 ZQ s (s.toList == (ByteArray.mk #[105, 109, 112, 111, 114, 116]).toList)
 else
 ZQ s (s.toList == (ByteArray.mk #[105, 110]).toList)
def Zcz.M (s : ByteArray) (r : Bool) : Prop :=
 Zj Tryz.prog 87 [.c none (.v (.string s))] [] (fun d b => d = .c none (.v (.bool r)) ∧ b = [])
theorem Zlt (s : ByteArray) (r : Bool) (hF : Zcz s = some r) : Zcz.M s r := by
 unfold Zcz at hF
 unfold Zcz.M
 refine en Tryz.func87 ?_
 refine AWP.seq ?_
 refine ns ?_
 refine AWP.seq ?_
 refine AWP.seq ?_
 refine ns ?_
 refine AWP.block ?_
 refine AWP.seq ?_
 refine AWP.seq ?_
 refine ns ?_
 refine nw ?_
 refine Zi hF (fun Zpu hF => ?_) (fun Zpu hF => ?_)
 ·refine nw ?_
  refine AWP.weak (rn []) ?_ (Zag s (s.toList == (ByteArray.mk #[97, 115]).toList) _ hF)
  exact (WS.mk (tc (tc Zc)) Zb)
 ·refine AWP.seq ?_
  refine ns ?_
  refine nw ?_
  refine Zi hF (fun Zzc hF => ?_) (fun Zzc hF => ?_)
  ·refine nw ?_
   refine AWP.weak (rn []) ?_ (Zag s (s.toList == (ByteArray.mk #[99, 97, 115, 101]).toList) _ hF)
   exact (WS.mk (tc (tc Zc)) Zb)
  ·refine AWP.seq ?_
   refine ns ?_
   refine nw ?_
   refine Zi hF (fun ZnH hF => ?_) (fun ZnH hF => ?_)
   ·refine nw ?_
    refine AWP.weak (rn []) ?_ (Zag s (s.toList == (ByteArray.mk #[99, 108, 97, 115, 115]).toList) _ hF)
    exact (WS.mk (tc (tc Zc)) Zb)
   ·refine AWP.seq ?_
    refine ns ?_
    refine nw ?_
    refine Zi hF (fun ZkF hF => ?_) (fun ZkF hF => ?_)
    ·refine nw ?_
     refine AWP.weak (rn []) ?_ (Zag s (s.toList == (ByteArray.mk #[100, 97, 116, 97]).toList) _ hF)
     exact (WS.mk (tc (tc Zc)) Zb)
    ·refine AWP.seq ?_
     refine ns ?_
     refine nw ?_
     refine Zi hF (fun ZpM hF => ?_) (fun ZpM hF => ?_)
     ·refine nw ?_
      refine AWP.weak (rn []) ?_ (Zag s (s.toList == (ByteArray.mk #[100, 101, 114, 105, 118, 105, 110, 103]).toList) _ hF)
      exact (WS.mk (tc (tc Zc)) Zb)
     ·refine AWP.seq ?_
      refine ns ?_
      refine nw ?_
      refine Zi hF (fun Zkv hF => ?_) (fun Zkv hF => ?_)
      ·refine nw ?_
       refine AWP.weak (rn []) ?_ (Zag s (s.toList == (ByteArray.mk #[100, 111]).toList) _ hF)
       exact (WS.mk (tc (tc Zc)) Zb)
      ·refine AWP.seq ?_
       refine ns ?_
       refine nw ?_
       refine Zi hF (fun ZhW hF => ?_) (fun ZhW hF => ?_)
       ·refine nw ?_
        refine AWP.weak (rn []) ?_ (Zag s (s.toList == (ByteArray.mk #[101, 108, 115, 101]).toList) _ hF)
        exact (WS.mk (tc (tc Zc)) Zb)
       ·refine AWP.seq ?_
        refine ns ?_
        refine nw ?_
        refine Zi hF (fun Zol hF => ?_) (fun Zol hF => ?_)
        ·refine nw ?_
         refine AWP.weak (rn []) ?_ (Zag s (s.toList == (ByteArray.mk #[104, 105, 100, 105, 110, 103]).toList) _ hF)
         exact (WS.mk (tc (tc Zc)) Zb)
        ·refine AWP.seq ?_
         refine ns ?_
         refine nw ?_
         refine Zi hF (fun Zv8 hF => ?_) (fun Zv8 hF => ?_)
         ·refine nw ?_
          refine AWP.weak (rn []) ?_ (Zag s (s.toList == (ByteArray.mk #[105, 102]).toList) _ hF)
          exact (WS.mk (tc (tc Zc)) Zb)
         ·refine AWP.seq ?_
          refine ns ?_
          refine nw ?_
          refine Zi hF (fun Zwb hF => ?_) (fun Zwb hF => ?_)
          ·refine nw ?_
           refine AWP.weak (rn []) ?_ (Zag s (s.toList == (ByteArray.mk #[105, 109, 112, 111, 114, 116]).toList) _ hF)
           exact (WS.mk (tc (tc Zc)) Zb)
          ·refine ns ?_
           refine AWP.weak (rn []) ?_ (Zag s (s.toList == (ByteArray.mk #[105, 110]).toList) _ hF)
           exact (WS.mk (tc (tc Zc)) Zb)

def ZC (x_4 : Bool) : Option (Bool) :=
 if x_4 = true then
 some true
 else
 some false
def ZC.M (x_4 : Bool) (r : Bool) : Prop :=
 AWP Tryz.prog 15 (Code.sub (Zq Tryz.f90) [1, 0, 1, 0, 1]) (Code.cont Tryz.prog 15 (Zq Tryz.f90) [1, 0, 1, 0, 1] (ZbV tab Tryz.f90.results (ZbX (.c none (.v (.bool r))) []))) ⟨[(4, .c none (.v (.bool x_4)))], []⟩
theorem Z1 (x_4 : Bool) (r : Bool) (hF : ZC x_4 = some r) : ZC.M x_4 r := by
 unfold ZC at hF
 unfold ZC.M
 refine nw ?_
 refine Zi hF (fun Zdr hF => ?_) (fun Zdr hF => ?_)
 ·refine AWP.seq ?_
  refine ns ?_
  obtain rfl := Zg hF
  refine ns ?_
  refine Exists.intro [] ?_
  refine st ?_
  exact wx (WS.mk (tc Zc) Zb)
 ·refine nw ?_
  refine AWP.seq ?_
  refine ns ?_
  obtain rfl := Zg hF
  refine ns ?_
  refine Exists.intro [] ?_
  refine st ?_
  exact wx (WS.mk (tc Zc) Zb)

def Zba (s : ByteArray) : Option (Bool) :=
 if (s.toList == (ByteArray.mk #[46, 46]).toList) = true then
 ZC (s.toList == (ByteArray.mk #[46, 46]).toList)
 else
 if (s.toList == (ByteArray.mk #[58, 58]).toList) = true then
 ZC (s.toList == (ByteArray.mk #[58, 58]).toList)
 else
 if (s.toList == (ByteArray.mk #[61]).toList) = true then
 ZC (s.toList == (ByteArray.mk #[61]).toList)
 else
 if (s.toList == (ByteArray.mk #[92]).toList) = true then
 ZC (s.toList == (ByteArray.mk #[92]).toList)
 else
 if (s.toList == (ByteArray.mk #[124]).toList) = true then
 ZC (s.toList == (ByteArray.mk #[124]).toList)
 else
 if (s.toList == (ByteArray.mk #[60, 45]).toList) = true then
 ZC (s.toList == (ByteArray.mk #[60, 45]).toList)
 else
 if (s.toList == (ByteArray.mk #[45, 62]).toList) = true then
 ZC (s.toList == (ByteArray.mk #[45, 62]).toList)
 else
 if (s.toList == (ByteArray.mk #[64]).toList) = true then
 ZC (s.toList == (ByteArray.mk #[64]).toList)
 else
 if (s.toList == (ByteArray.mk #[126]).toList) = true then
 ZC (s.toList == (ByteArray.mk #[126]).toList)
 else
 ZC (s.toList == (ByteArray.mk #[61, 62]).toList)
def Zba.M (s : ByteArray) (r : Bool) : Prop :=
 Zj Tryz.prog 90 [.c none (.v (.string s))] [] (fun d b => d = .c none (.v (.bool r)) ∧ b = [])
theorem ZiL (s : ByteArray) (r : Bool) (hF : Zba s = some r) : Zba.M s r := by
 unfold Zba at hF
 unfold Zba.M
 refine en Tryz.func90 ?_
 refine AWP.seq ?_
 refine ns ?_
 refine AWP.seq ?_
 refine AWP.seq ?_
 refine ns ?_
 refine AWP.block ?_
 refine AWP.seq ?_
 refine AWP.seq ?_
 refine ns ?_
 refine nw ?_
 refine Zi hF (fun ZcO hF => ?_) (fun ZcO hF => ?_)
 ·refine nw ?_
  refine AWP.weak (rn []) ?_ (Z1 (s.toList == (ByteArray.mk #[46, 46]).toList) _ hF)
  exact (WS.mk (tc Zc) Zb)
 ·refine AWP.seq ?_
  refine ns ?_
  refine nw ?_
  refine Zi hF (fun ZcH hF => ?_) (fun ZcH hF => ?_)
  ·refine nw ?_
   refine AWP.weak (rn []) ?_ (Z1 (s.toList == (ByteArray.mk #[58, 58]).toList) _ hF)
   exact (WS.mk (tc Zc) Zb)
  ·refine AWP.seq ?_
   refine ns ?_
   refine nw ?_
   refine Zi hF (fun ZbD hF => ?_) (fun ZbD hF => ?_)
   ·refine nw ?_
    refine AWP.weak (rn []) ?_ (Z1 (s.toList == (ByteArray.mk #[61]).toList) _ hF)
    exact (WS.mk (tc Zc) Zb)
   ·refine AWP.seq ?_
    refine ns ?_
    refine nw ?_
    refine Zi hF (fun Zdl hF => ?_) (fun Zdl hF => ?_)
    ·refine nw ?_
     refine AWP.weak (rn []) ?_ (Z1 (s.toList == (ByteArray.mk #[92]).toList) _ hF)
     exact (WS.mk (tc Zc) Zb)
    ·refine AWP.seq ?_
     refine ns ?_
     refine nw ?_
     refine Zi hF (fun Zfg hF => ?_) (fun Zfg hF => ?_)
     ·refine nw ?_
      refine AWP.weak (rn []) ?_ (Z1 (s.toList == (ByteArray.mk #[124]).toList) _ hF)
      exact (WS.mk (tc Zc) Zb)
     ·refine AWP.seq ?_
      refine ns ?_
      refine nw ?_
      refine Zi hF (fun Zgv hF => ?_) (fun Zgv hF => ?_)
      ·refine nw ?_
       refine AWP.weak (rn []) ?_ (Z1 (s.toList == (ByteArray.mk #[60, 45]).toList) _ hF)
       exact (WS.mk (tc Zc) Zb)
      ·refine AWP.seq ?_
       refine ns ?_
       refine nw ?_
       refine Zi hF (fun ZiJ hF => ?_) (fun ZiJ hF => ?_)
       ·refine nw ?_
        refine AWP.weak (rn []) ?_ (Z1 (s.toList == (ByteArray.mk #[45, 62]).toList) _ hF)
        exact (WS.mk (tc Zc) Zb)
       ·refine AWP.seq ?_
        refine ns ?_
        refine nw ?_
        refine Zi hF (fun Ztm hF => ?_) (fun Ztm hF => ?_)
        ·refine nw ?_
         refine AWP.weak (rn []) ?_ (Z1 (s.toList == (ByteArray.mk #[64]).toList) _ hF)
         exact (WS.mk (tc Zc) Zb)
        ·refine AWP.seq ?_
         refine ns ?_
         refine nw ?_
         refine Zi hF (fun Zta hF => ?_) (fun Zta hF => ?_)
         ·refine nw ?_
          refine AWP.weak (rn []) ?_ (Z1 (s.toList == (ByteArray.mk #[126]).toList) _ hF)
          exact (WS.mk (tc Zc) Zb)
         ·refine ns ?_
          refine AWP.weak (rn []) ?_ (Z1 (s.toList == (ByteArray.mk #[61, 62]).toList) _ hF)
          exact (WS.mk (tc Zc) Zb)

def Zaa (c : Int) (i_4 : Nat) : Option (Bool) :=
 if (decide (((i_4 : Nat) : Int) < (((ByteArray.mk #[33, 35, 36, 37, 38, 42, 43, 46, 47, 60, 61, 62, 63, 64, 92, 94, 124, 45, 126, 58]).size : Nat) : Int))) = true then
 (btI (ByteArray.mk #[33, 35, 36, 37, 38, 42, 43, 46, 47, 60, 61, 62, 63, 64, 92, 94, 124, 45, 126, 58]) ((i_4 : Nat) : Int)) >>= fun y12 =>
 if (((y12.toNat : Nat) : Int) == c) = true then
 some true
 else
 Z4 (i_4 + 1 ≤ 9223372036854775807) >>= fun _ =>
 Zaa c (i_4 + 1)
 else
 some false
 partial_fixpoint
def Zaa.M (c : Int) (i_4 : Nat) (r : Bool) : Prop :=
 AWL Tryz.prog 16 (Code.sub (Zq Tryz.f112) [1, 1, 0, 1, 0, 0]) (Code.cont Tryz.prog 16 (Zq Tryz.f112) [1, 1, 0, 1, 0] (ZbV tab Tryz.f112.results (ZbX (.c none (.v (.bool r))) []))) ⟨[(0, .c none (.v (.int .u8 c))), (3, .c none (.v (.string (ByteArray.mk #[33, 35, 36, 37, 38, 42, 43, 46, 47, 60, 61, 62, 63, 64, 92, 94, 124, 45, 126, 58])))), (4, .c none (.v (.int .i64 ((i_4 : Nat) : Int))))], []⟩
theorem ZjW (c : Int) (i_4 : Nat) : ∀ r, Zaa c i_4 = some r → Zaa.M c i_4 r := by
 refine Zaa.partial_correctness c (fun i_4 r => Zaa.M c i_4 r) ?_ i_4
 intro lazycref01_Symbolic_l1' ZfU i_4 r hF
 have Zj0 := fun (_c : Int) (i_4 : Nat) => ZfU i_4
 clear ZfU
 unfold Zaa.M
 refine AWL.step ?_
 refine AWP.seq ?_
 refine AWP.seq ?_
 refine ns ?_
 refine nw ?_
 refine Zi hF (fun ZcO hF => ?_) (fun ZcO hF => ?_)
 ·refine nw ?_
  refine AWP.seq ?_
  refine AWP.block ?_
  refine AWP.seq ?_
  obtain ⟨y12, ZFV, ZD0, hF⟩ := Zc1 hF
  refine nn ?_
  refine sr ZD0 ?_
  refine st ?_
  refine nw ?_
  refine Zi hF (fun ZbD hF => ?_) (fun ZbD hF => ?_)
  ·refine AWP.seq ?_
   refine ns ?_
   obtain rfl := Zg hF
   refine ns ?_
   refine Exists.intro [] ?_
   refine st ?_
   exact wx (WS.mk (tc Zc) Zb)
  ·refine nw ?_
   obtain ⟨ZIs, hF⟩ := Zy hF
   refine ns ?_
   refine AWL.weak (rn []) ?_ (Zj0 c (i_4 + 1) _ hF)
   exact (WS.mk (tc (tc (Zd (Zr (Zdf (Zdu ZIs))) Zc))) Zb)
 ·refine nw ?_
  refine AWP.seq ?_
  refine ns ?_
  obtain rfl := Zg hF
  refine ns ?_
  refine Exists.intro [] ?_
  refine st ?_
  exact wx (WS.mk (tc Zc) Zb)

def ZcB (c : Int) : Option (Bool) :=
 Zaa c 0
def ZcB.M (c : Int) (r : Bool) : Prop :=
 Zj Tryz.prog 112 [.c none (.v (.int .u8 c))] [] (fun d b => d = .c none (.v (.bool r)) ∧ b = [])
theorem Zls (c : Int) (r : Bool) (hF : ZcB c = some r) : ZcB.M c r := by
 unfold ZcB at hF
 unfold ZcB.M
 refine en Tryz.func112 ?_
 refine AWP.seq ?_
 refine ns ?_
 refine AWP.seq ?_
 refine ns ?_
 refine AWP.seq ?_
 refine AWP.seq ?_
 refine ns ?_
 refine AWP.block ?_
 refine AWP.loop ?_
 refine AWL.weak (rn []) ?_ (ZjW c 0 _ hF)
 exact (WS.mk (tc (tc (tc Zc))) Zb)

def ZaJ (s : ByteArray) (ZbH : Nat) (i_4 : Nat) : Option (Bool) :=
 if (decide (((i_4 : Nat) : Int) < ((s.size : Nat) : Int))) = true then
 (btI s ((i_4 : Nat) : Int)) >>= fun y68 =>
 ZcB ((y68.toNat : Nat) : Int) >>= fun r69 =>
 if (!r69) = true then
 some false
 else
 (btI s ((i_4 : Nat) : Int)) >>= fun y71 =>
 if (((y71.toNat : Nat) : Int) == 45) = true then
 Z4 (ZbH + 1 ≤ 9223372036854775807) >>= fun _ =>
 Z4 (i_4 + 1 ≤ 9223372036854775807) >>= fun _ =>
 ZaJ s (ZbH + 1) (i_4 + 1)
 else
 Z4 (i_4 + 1 ≤ 9223372036854775807) >>= fun _ =>
 ZaJ s ZbH (i_4 + 1)
 else
 some ((decide (((ZbH : Nat) : Int) < ((s.size : Nat) : Int))) || (((s.size : Nat) : Int) == 1))
 partial_fixpoint
def ZaJ.M (s : ByteArray) (ZbH : Nat) (i_4 : Nat) (r : Bool) : Prop :=
 AWL Tryz.prog 39 (Code.sub (Zq Tryz.f89) [1, 1, 1, 0, 1, 0, 0]) (Code.cont Tryz.prog 39 (Zq Tryz.f89) [1, 1, 1, 0, 1, 0] (ZbV tab Tryz.f89.results (ZbX (.c none (.v (.bool r))) []))) ⟨[(0, .c none (.v (.string s))), (3, .c none (.v (.int .i64 ((ZbH : Nat) : Int)))), (4, .c none (.v (.int .i64 ((i_4 : Nat) : Int))))], []⟩
theorem ZkL (s : ByteArray) (ZbH : Nat) (i_4 : Nat) : ∀ r, ZaJ s ZbH i_4 = some r → ZaJ.M s ZbH i_4 r := by
 refine ZaJ.partial_correctness s (fun ZbH i_4 r => ZaJ.M s ZbH i_4 r) ?_ ZbH i_4
 intro lazycref01_symbol_l1' ZgC ZbH i_4 r hF
 have Zhf := fun (_s : ByteArray) (ZbH : Nat) (i_4 : Nat) => ZgC ZbH i_4
 clear ZgC
 unfold ZaJ.M
 refine AWL.step ?_
 refine AWP.seq ?_
 refine AWP.seq ?_
 refine ns ?_
 refine nw ?_
 refine Zi hF (fun ZrK hF => ?_) (fun ZrK hF => ?_)
 ·refine nw ?_
  refine AWP.seq ?_
  refine AWP.block ?_
  refine AWP.seq ?_
  refine AWP.seq ?_
  obtain ⟨y68, hy680, ZHU, hF⟩ := Zc1 hF
  obtain ⟨r69, ZCQ, hF⟩ := bind_some hF
  refine nn ?_
  refine sr ZHU ?_
  refine st ?_
  refine e3 ?_
  refine st ?_
  refine cm (Zj.weak (rn []) (Zls ((y68.toNat : Nat) : Int) _ ZCQ) rfl (WS.mk (tc Zc) Zb)) ?_
  refine st ?_
  refine nw ?_
  refine Zi hF (fun ZIf hF => ?_) (fun ZIf hF => ?_)
  ·refine AWP.seq ?_
   refine ns ?_
   obtain rfl := Zg hF
   refine ns ?_
   refine Exists.intro [] ?_
   refine st ?_
   exact wx (WS.mk (tc Zc) Zb)
  ·refine nw ?_
   refine AWP.seq ?_
   obtain ⟨y71, hy710, ZIB, hF⟩ := Zc1 hF
   refine nn ?_
   refine sr ZIB ?_
   refine st ?_
   refine nw ?_
   refine Zi hF (fun ZIH hF => ?_) (fun ZIH hF => ?_)
   ·obtain ⟨ZHQ, hF⟩ := Zy hF
    refine ns ?_
    obtain ⟨ZCr, hF⟩ := Zy hF
    refine ns ?_
    refine AWL.weak (rn []) ?_ (Zhf s (ZbH + 1) (i_4 + 1) _ hF)
    exact (WS.mk (tc (Zd (Zr (Zdf (Zdu ZHQ))) (Zd (Zr (Zdf (Zdu ZCr))) Zc))) Zb)
   ·refine nw ?_
    obtain ⟨ZEp, hF⟩ := Zy hF
    refine ns ?_
    refine AWL.weak (rn []) ?_ (Zhf s ZbH (i_4 + 1) _ hF)
    exact (WS.mk (tc (tc (Zd (Zr (Zdf (Zdu ZEp))) Zc))) Zb)
 ·refine nw ?_
  refine AWP.seq ?_
  refine AWP.cutN (fun T => ∃ r, WS r T ⟨[(2, .c none (.v (.bool ((decide (((ZbH : Nat) : Int) < ((s.size : Nat) : Int))) || (((s.size : Nat) : Int) == 1)))))], []⟩) ?_ (fun T hw => ?_)
  ·refine ns ?_
   refine Zm false (fun ZAS => ?_) (fun ZAS => ?_)
   ·(conv => whnf)
    refine st ?_
    exact wx (WS.mk (Zd (Zr (web ZAS)) Zc) Zb)
   ·(conv => whnf)
    refine st ?_
    exact wx (WS.mk (Zd (Zr (web ZAS)) Zc) Zb)
  obtain ⟨r0, hw⟩ := hw
  (conv => whnf)
  refine AWP.weak r0 hw ?_
  obtain rfl := Zg hF
  refine ns ?_
  refine Exists.intro [] ?_
  refine st ?_
  exact wx (WS.mk (tc Zc) Zb)

def Zde (s : ByteArray) : Option (Bool) :=
 if ((decide (((s.size : Nat) : Int) < 1)) || (decide (((s.size : Nat) : Int) > 64))) = true then
 some false
 else
 ZaJ s 0 0
def Zde.M (s : ByteArray) (r : Bool) : Prop :=
 Zj Tryz.prog 89 [.c none (.v (.string s))] [] (fun d b => d = .c none (.v (.bool r)) ∧ b = [])
theorem Zm6 (s : ByteArray) (r : Bool) (hF : Zde s = some r) : Zde.M s r := by
 unfold Zde at hF
 unfold Zde.M
 refine en Tryz.func89 ?_
 refine AWP.seq ?_
 refine ns ?_
 refine AWP.seq ?_
 refine AWP.seq ?_
 refine AWP.cutN (fun T => ∃ r, WS r T ⟨[(0, .c none (.v (.string s))), (12, .c none (.v (.bool ((decide (((s.size : Nat) : Int) < 1)) || (decide (((s.size : Nat) : Int) > 64))))))], []⟩) ?_ (fun T hw => ?_)
 ·refine ns ?_
  refine Zm false (fun hc2 => ?_) (fun hc2 => ?_)
  ·(conv => whnf)
   refine st ?_
   exact wx (WS.mk (tc (Zd (Zr (web hc2)) Zc)) Zb)
  ·(conv => whnf)
   refine st ?_
   exact wx (WS.mk (tc (Zd (Zr (web hc2)) Zc)) Zb)
 obtain ⟨r0, hw⟩ := hw
 (conv => whnf)
 refine AWP.weak r0 hw ?_
 refine nw ?_
 refine Zi hF (fun hc3 hF => ?_) (fun hc3 hF => ?_)
 ·refine AWP.seq ?_
  refine ns ?_
  obtain rfl := Zg hF
  refine ns ?_
  refine Exists.intro [] ?_
  refine st ?_
  exact wx (WS.mk (tc Zc) Zb)
 ·refine nw ?_
  refine AWP.seq ?_
  refine ns ?_
  refine AWP.seq ?_
  refine AWP.seq ?_
  refine ns ?_
  refine AWP.block ?_
  refine AWP.loop ?_
  refine AWL.weak (rn []) ?_ (ZkL s 0 0 _ hF)
  exact (WS.mk (tc (tc (tc Zc))) Zb)

def Zcw (c : Int) : Option (Bool) :=
 some ((decide (c ≥ 65)) && (decide (c ≤ 90)))
def Zcw.M (c : Int) (r : Bool) : Prop :=
 Zj Tryz.prog 88 [.c none (.v (.int .u8 c))] [] (fun d b => d = .c none (.v (.bool r)) ∧ b = [])
theorem Zgr (c : Int) (r : Bool) (hF : Zcw c = some r) : Zcw.M c r := by
 unfold Zcw at hF
 unfold Zcw.M
 refine en Tryz.func88 ?_
 refine AWP.seq ?_
 refine ns ?_
 refine AWP.seq ?_
 refine AWP.cutN (fun T => ∃ r, WS r T ⟨[(2, .c none (.v (.bool ((decide (c ≥ 65)) && (decide (c ≤ 90))))))], []⟩) ?_ (fun T hw => ?_)
 ·refine ns ?_
  refine Zm true (fun hc1 => ?_) (fun hc1 => ?_)
  ·(conv => whnf)
   refine st ?_
   exact wx (WS.mk (Zd (Zr (web hc1)) Zc) Zb)
  ·(conv => whnf)
   refine st ?_
   exact wx (WS.mk (Zd (Zr (web hc1)) Zc) Zb)
 obtain ⟨r0, hw⟩ := hw
 (conv => whnf)
 refine AWP.weak r0 hw ?_
 obtain rfl := Zg hF
 refine ns ?_
 refine Exists.intro [] ?_
 refine st ?_
 exact wx (WS.mk (tc Zc) Zb)

def ZcW (c : Int) : Option (Bool) :=
 some (((decide (c ≥ 97)) && (decide (c ≤ 122))) || (c == 95))
def ZcW.M (c : Int) (r : Bool) : Prop :=
 Zj Tryz.prog 111 [.c none (.v (.int .u8 c))] [] (fun d b => d = .c none (.v (.bool r)) ∧ b = [])
theorem Zi4 (c : Int) (r : Bool) (hF : ZcW c = some r) : ZcW.M c r := by
 unfold ZcW at hF
 unfold ZcW.M
 refine en Tryz.func111 ?_
 refine AWP.seq ?_
 refine ns ?_
 refine AWP.seq ?_
 refine AWP.cutN (fun T => ∃ r, WS r T ⟨[(2, .c none (.v (.bool (((decide (c ≥ 97)) && (decide (c ≤ 122))) || (c == 95)))))], []⟩) ?_ (fun T hw => ?_)
 ·refine ns ?_
  refine Zm true (fun hc1 => ?_) (fun hc1 => ?_)
  ·(conv => whnf)
   refine st ?_
   refine Zm false (fun hc2 => ?_) (fun hc2 => ?_)
   ·(conv => whnf)
    refine st ?_
    exact wx (WS.mk (Zd (Zr (web (And.intro hc1 hc2))) Zc) Zb)
   ·(conv => whnf)
    refine st ?_
    exact wx (WS.mk (Zd (Zr (web (And.intro hc1 hc2))) Zc) Zb)
  ·(conv => whnf)
   refine st ?_
   exact wx (WS.mk (Zd (Zr (web hc1)) Zc) Zb)
 obtain ⟨r0, hw⟩ := hw
 (conv => whnf)
 refine AWP.weak r0 hw ?_
 obtain rfl := Zg hF
 refine ns ?_
 refine Exists.intro [] ?_
 refine st ?_
 exact wx (WS.mk (tc Zc) Zb)

def Zc3 (c : Int) : Option (Bool) :=
 some ((decide (c ≥ 48)) && (decide (c ≤ 57)))
def Zc3.M (c : Int) (r : Bool) : Prop :=
 Zj Tryz.prog 110 [.c none (.v (.int .u8 c))] [] (fun d b => d = .c none (.v (.bool r)) ∧ b = [])
theorem Zi3 (c : Int) (r : Bool) (hF : Zc3 c = some r) : Zc3.M c r := by
 unfold Zc3 at hF
 unfold Zc3.M
 refine en Tryz.func110 ?_
 refine AWP.seq ?_
 refine ns ?_
 refine AWP.seq ?_
 refine AWP.cutN (fun T => ∃ r, WS r T ⟨[(2, .c none (.v (.bool ((decide (c ≥ 48)) && (decide (c ≤ 57))))))], []⟩) ?_ (fun T hw => ?_)
 ·refine ns ?_
  refine Zm true (fun hc1 => ?_) (fun hc1 => ?_)
  ·(conv => whnf)
   refine st ?_
   exact wx (WS.mk (Zd (Zr (web hc1)) Zc) Zb)
  ·(conv => whnf)
   refine st ?_
   exact wx (WS.mk (Zd (Zr (web hc1)) Zc) Zb)
 obtain ⟨r0, hw⟩ := hw
 (conv => whnf)
 refine AWP.weak r0 hw ?_
 obtain rfl := Zg hF
 refine ns ?_
 refine Exists.intro [] ?_
 refine st ?_
 exact wx (WS.mk (tc Zc) Zb)

def Zbz (s : ByteArray) (i_3 : Nat) : Option (Bool) :=
 if (decide (((i_3 : Nat) : Int) < ((s.size : Nat) : Int))) = true then
 (btI s ((i_3 : Nat) : Int)) >>= fun y47 =>
 ZcW ((y47.toNat : Nat) : Int) >>= fun r48 =>
 (if (!r48) = true then (btI s ((i_3 : Nat) : Int)) >>= fun y49 =>
 Zcw ((y49.toNat : Nat) : Int) >>= fun r50 =>
 some (!r50) else some false) >>= fun c51 =>
 (if c51 = true then (btI s ((i_3 : Nat) : Int)) >>= fun y52 =>
 Zc3 ((y52.toNat : Nat) : Int) >>= fun r53 =>
 some (!r53) else some false) >>= fun c54 =>
 (if c54 = true then (btI s ((i_3 : Nat) : Int)) >>= fun y55 =>
 some (((y55.toNat : Nat) : Int) != 39) else some false) >>= fun c56 =>
 if c56 = true then
 some false
 else
 Z4 (i_3 + 1 ≤ 9223372036854775807) >>= fun _ =>
 Zbz s (i_3 + 1)
 else
 some true
 partial_fixpoint
def Zbz.M (s : ByteArray) (i_3 : Nat) (r : Bool) : Prop :=
 AWL Tryz.prog 55 (Code.sub (Zq Tryz.f86) [1, 1, 0, 1, 0, 0]) (Code.cont Tryz.prog 55 (Zq Tryz.f86) [1, 1, 0, 1, 0] (ZbV tab Tryz.f86.results (ZbX (.c none (.v (.bool r))) []))) ⟨[(0, .c none (.v (.string s))), (3, .c none (.v (.int .i64 ((i_3 : Nat) : Int))))], []⟩
theorem Zmd (s : ByteArray) (i_3 : Nat) : ∀ r, Zbz s i_3 = some r → Zbz.M s i_3 r := by
 refine Zbz.partial_correctness s (fun i_3 r => Zbz.M s i_3 r) ?_ i_3
 intro lazycref01_word_l1' ZhL i_3 r hF
 have Zl3 := fun (_s : ByteArray) (i_3 : Nat) => ZhL i_3
 clear ZhL
 unfold Zbz.M
 refine AWL.step ?_
 refine AWP.seq ?_
 refine AWP.seq ?_
 refine ns ?_
 refine nw ?_
 refine Zi hF (fun ZID hF => ?_) (fun ZID hF => ?_)
 ·refine nw ?_
  refine AWP.seq ?_
  refine AWP.block ?_
  refine AWP.seq ?_
  obtain ⟨y47, hy470, ZGK, hF⟩ := Zc1 hF
  obtain ⟨r48, ZGS, hF⟩ := bind_some hF
  obtain ⟨c51, Zpo, hF⟩ := bind_some hF
  obtain ⟨c54, Zix, hF⟩ := bind_some hF
  obtain ⟨c56, ZkT, hF⟩ := bind_some hF
  refine AWP.cutN (fun T => ∃ r, WS r T ⟨[(0, .c none (.v (.string s))), (3, .c none (.v (.int .i64 ((i_3 : Nat) : Int)))), (54, .c none (.v (.bool c56)))], []⟩) ?_ (fun T hw => ?_)
  ·refine nn ?_
   refine sr ZGK ?_
   refine st ?_
   refine e3 ?_
   refine st ?_
   refine cm (Zj.weak (rn []) (Zi4 ((y47.toNat : Nat) : Int) _ ZGS) rfl (WS.mk (tc Zc) Zb)) ?_
   refine st ?_
   refine Zm true (fun Zh9 => ?_) (fun Zh9 => ?_)
   ·have Zpo := ift Zh9 Zpo
    obtain ⟨y49, hy490, ZG1, Zpo⟩ := Zc1 Zpo
    obtain ⟨r50, ZIN, Zpo⟩ := bind_some Zpo
    (conv => whnf)
    refine sr ZG1 ?_
    refine st ?_
    refine e3 ?_
    refine st ?_
    refine cm (Zj.weak (rn []) (Zgr ((y49.toNat : Nat) : Int) _ ZIN) rfl (WS.mk (tc Zc) Zb)) ?_
    refine st ?_
    obtain rfl := Zg Zpo
    refine st ?_
    refine Zm true (fun Zm8 => ?_) (fun Zm8 => ?_)
    ·have Zix := ift (And.intro Zh9 Zm8) Zix
     obtain ⟨y52, hy520, ZGR, Zix⟩ := Zc1 Zix
     obtain ⟨r53, ZyH, Zix⟩ := bind_some Zix
     (conv => whnf)
     refine sr ZGR ?_
     refine st ?_
     refine e3 ?_
     refine st ?_
     refine cm (Zj.weak (rn []) (Zi3 ((y52.toNat : Nat) : Int) _ ZyH) rfl (WS.mk (tc Zc) Zb)) ?_
     refine st ?_
     obtain rfl := Zg Zix
     refine st ?_
     refine Zm true (fun ZvY => ?_) (fun ZvY => ?_)
     ·have ZkT := ift (And.intro Zh9 (And.intro Zm8 ZvY)) ZkT
      obtain ⟨y55, hy550, ZIb, ZkT⟩ := Zc1 ZkT
      (conv => whnf)
      refine sr ZIb ?_
      obtain rfl := Zg ZkT
      refine st ?_
      exact wx (WS.mk (tc (tc (Zd (Zr (web (And.intro Zh9 (And.intro Zm8 ZvY)))) Zc))) Zb)
     ·have ZkT := ife (And.intro Zh9 (And.intro Zm8 ZvY)) ZkT
      (conv => whnf)
      obtain rfl := Zg ZkT
      refine st ?_
      exact wx (WS.mk (tc (tc (Zd (Zr (web (And.intro Zh9 (And.intro Zm8 ZvY)))) Zc))) Zb)
    ·have Zix := ife (And.intro Zh9 Zm8) Zix
     (conv => whnf)
     obtain rfl := Zg Zix
     have ZkT := ife (And.intro Zh9 Zm8) ZkT
     obtain rfl := Zg ZkT
     refine st ?_
     exact wx (WS.mk (tc (tc (Zd (Zr (web (And.intro Zh9 Zm8))) Zc))) Zb)
   ·have Zpo := ife Zh9 Zpo
    (conv => whnf)
    obtain rfl := Zg Zpo
    have Zix := ife Zh9 Zix
    obtain rfl := Zg Zix
    have ZkT := ife Zh9 ZkT
    obtain rfl := Zg ZkT
    refine st ?_
    exact wx (WS.mk (tc (tc (Zd (Zr (web Zh9)) Zc))) Zb)
  obtain ⟨r0, hw⟩ := hw
  (conv => whnf)
  refine AWP.weak r0 hw ?_
  refine nw ?_
  refine Zi hF (fun ZH4 hF => ?_) (fun ZH4 hF => ?_)
  ·refine AWP.seq ?_
   refine ns ?_
   obtain rfl := Zg hF
   refine ns ?_
   refine Exists.intro [] ?_
   refine st ?_
   exact wx (WS.mk (tc Zc) Zb)
  ·refine nw ?_
   obtain ⟨ZHf, hF⟩ := Zy hF
   refine ns ?_
   refine AWL.weak (rn []) ?_ (Zl3 s (i_3 + 1) _ hF)
   exact (WS.mk (tc (Zd (Zr (Zdf (Zdu ZHf))) Zc)) Zb)
 ·refine nw ?_
  refine AWP.seq ?_
  refine ns ?_
  obtain rfl := Zg hF
  refine ns ?_
  refine Exists.intro [] ?_
  refine st ?_
  exact wx (WS.mk (tc Zc) Zb)

def ZdK (s : ByteArray) : Option (Bool) :=
 (if ((decide (((s.size : Nat) : Int) < 1)) || (decide (((s.size : Nat) : Int) > 64))) = true then some true else (btI s 0) >>= fun y8 =>
 ZcW ((y8.toNat : Nat) : Int) >>= fun r9 =>
 (if (!r9) = true then (btI s 0) >>= fun y10 =>
 Zcw ((y10.toNat : Nat) : Int) >>= fun r11 =>
 some (!r11) else some false) >>= fun c12 =>
 some c12) >>= fun c13 =>
 if c13 = true then
 some false
 else
 Zbz s 0
def ZdK.M (s : ByteArray) (r : Bool) : Prop :=
 Zj Tryz.prog 86 [.c none (.v (.string s))] [] (fun d b => d = .c none (.v (.bool r)) ∧ b = [])
theorem Zoj (s : ByteArray) (r : Bool) (hF : ZdK s = some r) : ZdK.M s r := by
 unfold ZdK at hF
 unfold ZdK.M
 refine en Tryz.func86 ?_
 refine AWP.seq ?_
 refine ns ?_
 refine AWP.seq ?_
 refine AWP.seq ?_
 obtain ⟨c13, ZbD, hF⟩ := bind_some hF
 refine AWP.cutN (fun T => ∃ r, WS r T ⟨[(0, .c none (.v (.string s))), (23, .c none (.v (.bool c13)))], []⟩) ?_ (fun T hw => ?_)
 ·refine ns ?_
  refine Zm false (fun Zdl => ?_) (fun Zdl => ?_)
  ·(conv => whnf)
   have ZbD := ift Zdl ZbD
   obtain rfl := Zg ZbD
   refine st ?_
   exact wx (WS.mk (tc (Zd (Zr (web Zdl)) Zc)) Zb)
  ·(conv => whnf)
   refine st ?_
   refine Zm false (fun Zfg => ?_) (fun Zfg => ?_)
   ·have ZbD := ift (And.intro Zdl Zfg) ZbD
    (conv => whnf)
    obtain rfl := Zg ZbD
    refine st ?_
    exact wx (WS.mk (tc (Zd (Zr (web (And.intro Zdl Zfg))) Zc)) Zb)
   ·have ZbD := ife (And.intro Zdl Zfg) ZbD
    obtain ⟨y8, hy80, hy8, ZbD⟩ := Zc1 ZbD
    obtain ⟨r9, hr9, ZbD⟩ := bind_some ZbD
    obtain ⟨c12, ZcH, ZbD⟩ := bind_some ZbD
    (conv => whnf)
    refine sr hy8 ?_
    refine st ?_
    refine e3 ?_
    refine st ?_
    refine cm (Zj.weak (rn []) (Zi4 ((y8.toNat : Nat) : Int) _ hr9) rfl (WS.mk (tc Zc) Zb)) ?_
    refine st ?_
    refine Zm true (fun Zgv => ?_) (fun Zgv => ?_)
    ·have ZcH := ift (And.intro Zdl (And.intro Zfg Zgv)) ZcH
     obtain ⟨y10, ZGG, ZDt, ZcH⟩ := Zc1 ZcH
     obtain ⟨r11, ZvS, ZcH⟩ := bind_some ZcH
     (conv => whnf)
     refine sr ZDt ?_
     refine st ?_
     refine e3 ?_
     refine st ?_
     refine cm (Zj.weak (rn []) (Zgr ((y10.toNat : Nat) : Int) _ ZvS) rfl (WS.mk (tc Zc) Zb)) ?_
     refine st ?_
     obtain rfl := Zg ZcH
     obtain rfl := Zg ZbD
     refine st ?_
     exact wx (WS.mk (tc (Zd (Zr (web (And.intro Zdl (And.intro Zfg Zgv)))) Zc)) Zb)
    ·have ZcH := ife (And.intro Zdl (And.intro Zfg Zgv)) ZcH
     (conv => whnf)
     obtain rfl := Zg ZcH
     obtain rfl := Zg ZbD
     refine st ?_
     exact wx (WS.mk (tc (Zd (Zr (web (And.intro Zdl (And.intro Zfg Zgv)))) Zc)) Zb)
 obtain ⟨r0, hw⟩ := hw
 (conv => whnf)
 refine AWP.weak r0 hw ?_
 refine nw ?_
 refine Zi hF (fun ZiJ hF => ?_) (fun ZiJ hF => ?_)
 ·refine AWP.seq ?_
  refine ns ?_
  obtain rfl := Zg hF
  refine ns ?_
  refine Exists.intro [] ?_
  refine st ?_
  exact wx (WS.mk (tc Zc) Zb)
 ·refine nw ?_
  refine AWP.seq ?_
  refine AWP.seq ?_
  refine ns ?_
  refine AWP.block ?_
  refine AWP.loop ?_
  refine AWL.weak (rn []) ?_ (Zmd s 0 _ hF)
  exact (WS.mk (tc (tc Zc)) Zb)

def Zbu (s : ByteArray) : Option (Int) :=
 ZdK s >>= fun r10 =>
 if r10 = true then
 Zcz s >>= fun r14 =>
 if r14 = true then
 some 5
 else
 (btI s 0) >>= fun y16 =>
 Zcw ((y16.toNat : Nat) : Int) >>= fun r17 =>
 if r17 = true then
 some 2
 else
 some 1
 else
 Zde s >>= fun r19 =>
 if r19 = true then
 Zba s >>= fun r23 =>
 if r23 = true then
 some 6
 else
 (btI s 0) >>= fun y25 =>
 if (((y25.toNat : Nat) : Int) == 58) = true then
 some 4
 else
 some 3
 else
 some 0
def Zbu.M (s : ByteArray) (r : Int) : Prop :=
 Zj Tryz.prog 59 [.c none (.v (.string s))] [] (fun d b => d = .c none (.v (.int .i64 r)) ∧ b = [])
theorem ZdX (s : ByteArray) (r : Int) (hF : Zbu s = some r) : Zbu.M s r := by
 unfold Zbu at hF
 unfold Zbu.M
 refine en Tryz.func59 ?_
 refine AWP.seq ?_
 refine ns ?_
 refine AWP.seq ?_
 refine AWP.seq ?_
 obtain ⟨r10, ZyQ, hF⟩ := bind_some hF
 refine ns ?_
 refine e3 ?_
 refine st ?_
 refine cm (Zj.weak (rn []) (Zoj s _ ZyQ) rfl (WS.mk (tc Zc) Zb)) ?_
 refine st ?_
 refine nw ?_
 refine Zi hF (fun ZcO hF => ?_) (fun ZcO hF => ?_)
 ·refine AWP.seq ?_
  refine AWP.seq ?_
  obtain ⟨r14, ZqL, hF⟩ := bind_some hF
  refine ns ?_
  refine e3 ?_
  refine st ?_
  refine cm (Zj.weak (rn []) (Zlt s _ ZqL) rfl (WS.mk (tc Zc) Zb)) ?_
  refine st ?_
  refine nw ?_
  refine Zi hF (fun Zfg hF => ?_) (fun Zfg hF => ?_)
  ·refine AWP.seq ?_
   refine ns ?_
   obtain rfl := Zg hF
   refine ns ?_
   refine Exists.intro [] ?_
   refine st ?_
   exact wx (WS.mk (tc Zc) Zb)
  ·refine nw ?_
   refine AWP.seq ?_
   refine AWP.seq ?_
   obtain ⟨y16, hy160, ZHb, hF⟩ := Zc1 hF
   obtain ⟨r17, ZIE, hF⟩ := bind_some hF
   refine nn ?_
   refine sr ZHb ?_
   refine st ?_
   refine e3 ?_
   refine st ?_
   refine cm (Zj.weak (rn []) (Zgr ((y16.toNat : Nat) : Int) _ ZIE) rfl (WS.mk (tc Zc) Zb)) ?_
   refine st ?_
   refine nw ?_
   refine Zi hF (fun Ztm hF => ?_) (fun Ztm hF => ?_)
   ·refine AWP.seq ?_
    refine ns ?_
    obtain rfl := Zg hF
    refine ns ?_
    refine Exists.intro [] ?_
    refine st ?_
    exact wx (WS.mk (tc Zc) Zb)
   ·refine nw ?_
    refine AWP.seq ?_
    refine ns ?_
    obtain rfl := Zg hF
    refine ns ?_
    refine Exists.intro [] ?_
    refine st ?_
    exact wx (WS.mk (tc Zc) Zb)
 ·refine nw ?_
  refine AWP.seq ?_
  refine AWP.seq ?_
  obtain ⟨r19, ZtS, hF⟩ := bind_some hF
  refine ns ?_
  refine e3 ?_
  refine st ?_
  refine cm (Zj.weak (rn []) (Zm6 s _ ZtS) rfl (WS.mk (tc Zc) Zb)) ?_
  refine st ?_
  refine nw ?_
  refine Zi hF (fun ZEb hF => ?_) (fun ZEb hF => ?_)
  ·refine AWP.seq ?_
   refine AWP.seq ?_
   obtain ⟨r23, ZyW, hF⟩ := bind_some hF
   refine ns ?_
   refine e3 ?_
   refine st ?_
   refine cm (Zj.weak (rn []) (ZiL s _ ZyW) rfl (WS.mk (tc Zc) Zb)) ?_
   refine st ?_
   refine nw ?_
   refine Zi hF (fun ZAr hF => ?_) (fun ZAr hF => ?_)
   ·refine AWP.seq ?_
    refine ns ?_
    obtain rfl := Zg hF
    refine ns ?_
    refine Exists.intro [] ?_
    refine st ?_
    exact wx (WS.mk (tc Zc) Zb)
   ·refine nw ?_
    refine AWP.seq ?_
    refine AWP.seq ?_
    obtain ⟨y25, hy250, ZG5, hF⟩ := Zc1 hF
    refine nn ?_
    refine sr ZG5 ?_
    refine st ?_
    refine nw ?_
    refine Zi hF (fun Zlc hF => ?_) (fun Zlc hF => ?_)
    ·refine AWP.seq ?_
     refine ns ?_
     obtain rfl := Zg hF
     refine ns ?_
     refine Exists.intro [] ?_
     refine st ?_
     exact wx (WS.mk (tc Zc) Zb)
    ·refine nw ?_
     refine AWP.seq ?_
     refine ns ?_
     obtain rfl := Zg hF
     refine ns ?_
     refine Exists.intro [] ?_
     refine st ?_
     exact wx (WS.mk (tc Zc) Zb)
  ·refine nw ?_
   refine AWP.seq ?_
   refine ns ?_
   obtain rfl := Zg hF
   refine ns ?_
   refine Exists.intro [] ?_
   refine st ?_
   exact wx (WS.mk (tc Zc) Zb)

def Zc0 (s : ByteArray) : Option (Bool) :=
 Zbu s >>= fun r1 =>
 some ((((r1 == 1) || (r1 == 2)) || (r1 == 3)) || (r1 == 4))
def Zc0.M (s : ByteArray) (r : Bool) : Prop :=
 Zj Tryz.prog 109 [.c none (.v (.string s))] [] (fun d b => d = .c none (.v (.bool r)) ∧ b = [])
theorem Zi0 (s : ByteArray) (r : Bool) (hF : Zc0 s = some r) : Zc0.M s r := by
 unfold Zc0 at hF
 unfold Zc0.M
 refine en Tryz.func109 ?_
 refine AWP.seq ?_
 refine ns ?_
 refine AWP.seq ?_
 obtain ⟨r1, hr1, hF⟩ := bind_some hF
 refine ns ?_
 refine e3 ?_
 refine st ?_
 refine cm (Zj.weak (rn []) (ZdX s _ hr1) rfl (WS.mk (tc Zc) Zb)) ?_
 refine st ?_
 refine AWP.seq ?_
 refine AWP.cutN (fun T => ∃ r, WS r T ⟨[(2, .c none (.v (.bool ((((r1 == 1) || (r1 == 2)) || (r1 == 3)) || (r1 == 4)))))], []⟩) ?_ (fun T hw => ?_)
 ·refine ns ?_
  refine Zm false (fun hc2 => ?_) (fun hc2 => ?_)
  ·(conv => whnf)
   refine st ?_
   exact wx (WS.mk (Zd (Zr (web hc2)) Zc) Zb)
  ·(conv => whnf)
   refine st ?_
   refine Zm false (fun hc3 => ?_) (fun hc3 => ?_)
   ·(conv => whnf)
    refine st ?_
    exact wx (WS.mk (Zd (Zr (web (And.intro hc2 hc3))) Zc) Zb)
   ·(conv => whnf)
    refine st ?_
    refine Zm false (fun hc4 => ?_) (fun hc4 => ?_)
    ·(conv => whnf)
     refine st ?_
     exact wx (WS.mk (Zd (Zr (web (And.intro hc2 (And.intro hc3 hc4)))) Zc) Zb)
    ·(conv => whnf)
     refine st ?_
     exact wx (WS.mk (Zd (Zr (web (And.intro hc2 (And.intro hc3 hc4)))) Zc) Zb)
 obtain ⟨r0, hw⟩ := hw
 (conv => whnf)
 refine AWP.weak r0 hw ?_
 obtain rfl := Zg hF
 refine ns ?_
 refine Exists.intro [] ?_
 refine st ?_
 exact wx (WS.mk (tc Zc) Zb)

def ZdJ (module : ByteArray) (name_ : ByteArray) : Option (ByteArray) :=
 Zbu module >>= fun r5 =>
 (if (r5 != 2) = true then some true else Zc0 name_ >>= fun r6 =>
 some (!r6)) >>= fun c7 =>
 if c7 = true then
 some (ByteArray.mk #[])
 else
 Z4 (((module.size + (ByteArray.mk #[46]).size : Nat) : Int) ≤ IntKind.i64.max) >>= fun _ =>
 Z4 ((((module ++ (ByteArray.mk #[46])).size + name_.size : Nat) : Int) ≤ IntKind.i64.max) >>= fun _ =>
 some ((module ++ (ByteArray.mk #[46])) ++ name_)
def ZdJ.M (module : ByteArray) (name_ : ByteArray) (r : ByteArray) : Prop :=
 Zj Tryz.prog 129 [.c none (.v (.string module)), .c none (.v (.string name_))] [] (fun d b => d = .c none (.v (.string r)) ∧ b = [])
theorem Zoc (module : ByteArray) (name_ : ByteArray) (r : ByteArray) (hF : ZdJ module name_ = some r) : ZdJ.M module name_ r := by
 unfold ZdJ at hF
 unfold ZdJ.M
 refine en Tryz.func129 ?_
 refine AWP.seq ?_
 refine ns ?_
 refine AWP.seq ?_
 refine AWP.seq ?_
 obtain ⟨r5, hr5, hF⟩ := bind_some hF
 obtain ⟨c7, hc7, hF⟩ := bind_some hF
 refine AWP.cutN (fun T => ∃ r, WS r T ⟨[(0, .c none (.v (.string module))), (1, .c none (.v (.string name_))), (12, .c none (.v (.bool c7)))], []⟩) ?_ (fun T hw => ?_)
 ·refine ns ?_
  refine e3 ?_
  refine st ?_
  refine cm (Zj.weak (rn []) (ZdX module _ hr5) rfl (WS.mk (tc Zc) Zb)) ?_
  refine st ?_
  refine Zm false (fun hc8 => ?_) (fun hc8 => ?_)
  ·have hc7 := ift hc8 hc7
   (conv => whnf)
   obtain rfl := Zg hc7
   refine st ?_
   exact wx (WS.mk (tc (tc (Zd (Zr (web hc8)) Zc))) Zb)
  ·have hc7 := ife hc8 hc7
   obtain ⟨r6, hr6, hc7⟩ := bind_some hc7
   (conv => whnf)
   refine st ?_
   refine e3 ?_
   refine st ?_
   refine cm (Zj.weak (rn []) (Zi0 name_ _ hr6) rfl (WS.mk (tc Zc) Zb)) ?_
   refine st ?_
   obtain rfl := Zg hc7
   refine st ?_
   exact wx (WS.mk (tc (tc (Zd (Zr (web hc8)) Zc))) Zb)
 obtain ⟨r0, hw⟩ := hw
 (conv => whnf)
 refine AWP.weak r0 hw ?_
 refine nw ?_
 refine Zi hF (fun hc9 hF => ?_) (fun hc9 hF => ?_)
 ·refine AWP.seq ?_
  refine ns ?_
  obtain rfl := Zg hF
  refine ns ?_
  refine Exists.intro [] ?_
  refine st ?_
  exact wx (WS.mk (tc Zc) Zb)
 ·refine nw ?_
  refine AWP.seq ?_
  obtain ⟨Zzg, hF⟩ := Zy hF
  obtain ⟨ZCX, hF⟩ := Zy hF
  refine ns ?_
  refine And.intro Zzg ?_
  refine st ?_
  refine And.intro ZCX ?_
  refine st ?_
  obtain rfl := Zg hF
  refine ns ?_
  refine Exists.intro [] ?_
  refine st ?_
  exact wx (WS.mk (tc Zc) Zb)

def Zbe (s : ByteArray) (i_5 : Nat) : Option (ByteArray × ByteArray × Bool) :=
 if (decide (((i_5 : Nat) : Int) < ((s.size : Nat) : Int))) = true then
 (btI s ((i_5 : Nat) : Int)) >>= fun y60 =>
 if (((y60.toNat : Nat) : Int) != 46) = true then
 Z4 (i_5 + 1 ≤ 9223372036854775807) >>= fun _ =>
 Zbe s (i_5 + 1)
 else
 (slS s ((0 : Nat) : Int) ((i_5 : Nat) : Int)) >>= fun z76 =>
 Z4 (i_5 + 1 ≤ 9223372036854775807) >>= fun _ =>
 (slS s (IntKind.i64.wrap (((i_5 : Nat) : Int) + 1)) ((s.size : Nat) : Int)) >>= fun z78 =>
 ZdJ z76 z78 >>= fun r79 =>
 if (r79.toList == (ByteArray.mk #[]).toList) = true then
 some ((ByteArray.mk #[]), (ByteArray.mk #[]), false)
 else
 (slS s ((0 : Nat) : Int) ((i_5 : Nat) : Int)) >>= fun z84 =>
 Z4 (i_5 + 1 ≤ 9223372036854775807) >>= fun _ =>
 (slS s (IntKind.i64.wrap (((i_5 : Nat) : Int) + 1)) ((s.size : Nat) : Int)) >>= fun z86 =>
 some (z84, z86, true)
 else
 some ((ByteArray.mk #[]), (ByteArray.mk #[]), false)
 partial_fixpoint
def Zbe.M (s : ByteArray) (i_5 : Nat) (r : ByteArray × ByteArray × Bool) : Prop :=
 AWL Tryz.prog 32 (Code.sub (Zq Tryz.f108) [1, 0, 1, 0, 0]) (Code.cont Tryz.prog 32 (Zq Tryz.f108) [1, 0, 1, 0] (ZbV tab Tryz.f108.results (ZbX (.tup [.c (.v (.string r.1)), .c (.v (.string r.2.1)), .c (.v (.bool r.2.2))]) []))) ⟨[(0, .c none (.v (.string s))), (5, .c none (.v (.int .i64 ((i_5 : Nat) : Int))))], []⟩
theorem ZlI (s : ByteArray) (i_5 : Nat) : ∀ r, Zbe s i_5 = some r → Zbe.M s i_5 r := by
 refine Zbe.partial_correctness s (fun i_5 r => Zbe.M s i_5 r) ?_ i_5
 intro lazycref01_Split_l1' Zha i_5 r hF
 have Zk9 := fun (_s : ByteArray) (i_5 : Nat) => Zha i_5
 clear Zha
 unfold Zbe.M
 refine AWL.step ?_
 refine AWP.seq ?_
 refine AWP.seq ?_
 refine ns ?_
 refine nw ?_
 refine Zi hF (fun Zh9 hF => ?_) (fun Zh9 hF => ?_)
 ·refine nw ?_
  refine AWP.seq ?_
  refine AWP.block ?_
  refine AWP.seq ?_
  refine AWP.seq ?_
  obtain ⟨y60, hy600, ZHM, hF⟩ := Zc1 hF
  refine nn ?_
  refine sr ZHM ?_
  refine st ?_
  refine nw ?_
  refine Zi hF (fun ZH0 hF => ?_) (fun ZH0 hF => ?_)
  ·refine nw ?_
   obtain ⟨ZHB, hF⟩ := Zy hF
   refine ns ?_
   refine AWL.weak (rn []) ?_ (Zk9 s (i_5 + 1) _ hF)
   exact (WS.mk (tc (Zd (Zr (Zdf (Zdu ZHB))) Zc)) Zb)
  ·refine nw ?_
   refine AWP.seq ?_
   refine AWP.seq ?_
   obtain ⟨z76, ZE3, ZEQ, ZEu, ZIJ, hF⟩ := ZfX hF
   obtain ⟨hg77, hF⟩ := Zy hF
   obtain ⟨z78, ZEB, ZED, ZFp, ZHC, hF⟩ := ZfX hF
   obtain ⟨r79, ZD9, hF⟩ := bind_some hF
   refine nn ?_
   refine Or.inl (Exists.intro 7 (Exists.intro [[], [], [], [], [], [], []] (Exists.intro [([16, 17, 18, 19, 20, 21, 22], [], []), ([16, 17, 18, 19, 20, 21, 22], [], []), ([18, 19, 20, 21, 22], [], []), ([16, 17, 18, 19, 20, 21, 22], [], []), ([16, 17, 18, 19, 20, 21, 22], [], []), ([16, 17, 18, 19, 21, 22], [], []), ([16, 17, 18, 22], [], [])] (Exists.intro [16, 17, 18, 19, 20, 21, 22] (And.intro (by decide +kernel) ?_)))))
   refine dp ?_
   refine dp ?_
   (refine st ?_; apply Exists.intro; apply Exists.intro; apply And.intro; (focus ((repeat (first | (rw [← ZIJ]) | ((conv => whnf); (with_reducible refine And.intro ?_ ?_); (focus (first | exact Eq.refl _ | exact trivial | (with_reducible assumption) | (with_reducible exact Int.natCast_nonneg _) | exact Nat.le_of_ble_eq_true (Eq.refl true) | exact Zd9 (Eq.refl _) (Eq.refl _) (Eq.refl _) | decide))) | ((with_reducible refine And.intro ?_ ?_); (focus (first | exact ZE3 | exact ZEQ | exact ZEu))))) <;> (exact rfl))); apply And.intro; (focus exact rfl); (conv => whnf))
   refine dp ?_
   refine dp ?_
   refine dp ?_
   (refine st ?_; apply Exists.intro; apply Exists.intro; apply And.intro; (focus ((repeat (first | (rw [← ZHC]) | ((conv => whnf); (with_reducible refine And.intro ?_ ?_); (focus (first | exact Eq.refl _ | exact trivial | (with_reducible assumption) | (with_reducible exact Int.natCast_nonneg _) | exact Nat.le_of_ble_eq_true (Eq.refl true) | exact Zd9 (Eq.refl _) (Eq.refl _) (Eq.refl _) | decide))) | ((with_reducible refine And.intro ?_ ?_); (focus (first | exact ZEB | exact ZED | exact ZFp))))) <;> (exact rfl))); apply And.intro; (focus exact rfl); (conv => whnf))
   refine st ?_
   refine e3 ?_
   refine st ?_
   refine cm (Zj.weak (rn []) (Zoc z76 z78 _ ZD9) rfl (WS.mk (tc (tc Zc)) Zb)) ?_
   refine st ?_
   refine nw ?_
   refine Zi hF (fun Zr4 hF => ?_) (fun Zr4 hF => ?_)
   ·refine AWP.seq ?_
    refine ns ?_
    obtain rfl := Zg hF
    refine ns ?_
    refine Exists.intro [] ?_
    refine st ?_
    exact wx (WS.mk (Zd (Zc9 (ZcC (WE.refl _) (ZcC (WE.refl _) (ZcC (WE.refl _) Zc6)))) Zc) Zb)
   ·refine nw ?_
    refine AWP.seq ?_
    obtain ⟨z84, ZGk, ZGb, ZF0, ZGU, hF⟩ := ZfX hF
    obtain ⟨hg85, hF⟩ := Zy hF
    obtain ⟨z86, ZEZ, ZEx, ZFh, ZHI, hF⟩ := ZfX hF
    refine nn ?_
    refine Or.inl (Exists.intro 8 (Exists.intro [[], [], [], [], [], [], [], []] (Exists.intro [([25, 26, 27, 28, 29, 30, 31, 2], [], []), ([25, 26, 27, 28, 29, 30, 31, 2], [], []), ([27, 28, 29, 30, 31, 2], [], []), ([25, 26, 27, 28, 29, 30, 31, 2], [], []), ([25, 26, 27, 28, 29, 30, 31, 2], [], []), ([25, 26, 27, 28, 30, 31, 2], [], []), ([25, 26, 27, 31, 2], [], []), ([28, 29, 30, 31, 2], [], [])] (Exists.intro [25, 26, 27, 28, 29, 30, 31, 2] (And.intro (by decide +kernel) ?_)))))
    refine dp ?_
    refine dp ?_
    (refine st ?_; apply Exists.intro; apply Exists.intro; apply And.intro; (focus ((repeat (first | (rw [← ZGU]) | ((conv => whnf); (with_reducible refine And.intro ?_ ?_); (focus (first | exact Eq.refl _ | exact trivial | (with_reducible assumption) | (with_reducible exact Int.natCast_nonneg _) | exact Nat.le_of_ble_eq_true (Eq.refl true) | exact Zd9 (Eq.refl _) (Eq.refl _) (Eq.refl _) | decide))) | ((with_reducible refine And.intro ?_ ?_); (focus (first | exact ZGk | exact ZGb | exact ZF0))))) <;> (exact rfl))); apply And.intro; (focus exact rfl); (conv => whnf))
    refine dp ?_
    refine dp ?_
    refine dp ?_
    (refine st ?_; apply Exists.intro; apply Exists.intro; apply And.intro; (focus ((repeat (first | (rw [← ZHI]) | ((conv => whnf); (with_reducible refine And.intro ?_ ?_); (focus (first | exact Eq.refl _ | exact trivial | (with_reducible assumption) | (with_reducible exact Int.natCast_nonneg _) | exact Nat.le_of_ble_eq_true (Eq.refl true) | exact Zd9 (Eq.refl _) (Eq.refl _) (Eq.refl _) | decide))) | ((with_reducible refine And.intro ?_ ?_); (focus (first | exact ZEZ | exact ZEx | exact ZFh))))) <;> (exact rfl))); apply And.intro; (focus exact rfl); (conv => whnf))
    refine dp ?_
    refine st ?_
    obtain rfl := Zg hF
    refine ns ?_
    refine Exists.intro [] ?_
    refine st ?_
    exact wx (WS.mk (Zd (Zc9 (ZcC (WE.refl _) (ZcC (WE.refl _) (ZcC (WE.refl _) Zc6)))) Zc) Zb)
 ·refine nw ?_
  refine AWP.seq ?_
  refine ns ?_
  obtain rfl := Zg hF
  refine ns ?_
  refine Exists.intro [] ?_
  refine st ?_
  exact wx (WS.mk (Zd (Zc9 (ZcC (WE.refl _) (ZcC (WE.refl _) (ZcC (WE.refl _) Zc6)))) Zc) Zb)

def ZcX (s : ByteArray) : Option (ByteArray × ByteArray × Bool) :=
 Zbe s 0
def ZcX.M (s : ByteArray) (r : ByteArray × ByteArray × Bool) : Prop :=
 Zj Tryz.prog 108 [.c none (.v (.string s))] [] (fun d b => d = .tup [.c (.v (.string r.1)), .c (.v (.string r.2.1)), .c (.v (.bool r.2.2))] ∧ b = [])
theorem ZiX (s : ByteArray) (r : ByteArray × ByteArray × Bool) (hF : ZcX s = some r) : ZcX.M s r := by
 unfold ZcX at hF
 unfold ZcX.M
 refine en Tryz.func108 ?_
 refine AWP.seq ?_
 refine ns ?_
 refine AWP.seq ?_
 refine AWP.seq ?_
 refine ns ?_
 refine AWP.block ?_
 refine AWP.loop ?_
 refine AWL.weak (rn []) ?_ (ZlI s 0 _ hF)
 exact (WS.mk (tc (tc Zc)) Zb)

def ZcT (s : ByteArray) : Option (Bool) :=
 ZcX s >>= fun r1 =>
 (if r1.2.2 = true then some true else Zc0 s >>= fun r2 =>
 some r2) >>= fun c3 =>
 some c3
def ZcT.M (s : ByteArray) (r : Bool) : Prop :=
 Zj Tryz.prog 84 [.c none (.v (.string s))] [] (fun d b => d = .c none (.v (.bool r)) ∧ b = [])
theorem Zjt (s : ByteArray) (r : Bool) (hF : ZcT s = some r) : ZcT.M s r := by
 unfold ZcT at hF
 unfold ZcT.M
 refine en Tryz.func84 ?_
 refine AWP.seq ?_
 refine ns ?_
 refine AWP.seq ?_
 obtain ⟨r1, hr1, hF⟩ := bind_some hF
 refine ns ?_
 refine e3 ?_
 refine st ?_
 refine cm (Zj.weak (rn []) (ZiX s _ hr1) rfl (WS.mk (tc Zc) Zb)) ?_
 refine st ?_
 refine AWP.seq ?_
 obtain ⟨c3, hc3, hF⟩ := bind_some hF
 refine AWP.cutN (fun T => ∃ r, WS r T ⟨[(2, .c none (.v (.bool c3)))], []⟩) ?_ (fun T hw => ?_)
 ·refine ns ?_
  refine Zm false (fun hc4 => ?_) (fun hc4 => ?_)
  ·have hc3 := ift hc4 hc3
   (conv => whnf)
   obtain rfl := Zg hc3
   refine st ?_
   exact wx (WS.mk (Zd (Zr (web hc4)) Zc) Zb)
  ·have hc3 := ife hc4 hc3
   obtain ⟨r2, hr2, hc3⟩ := bind_some hc3
   (conv => whnf)
   refine st ?_
   refine e3 ?_
   refine st ?_
   refine cm (Zj.weak (rn []) (Zi0 s _ hr2) rfl (WS.mk (tc Zc) Zb)) ?_
   refine st ?_
   obtain rfl := Zg hc3
   refine st ?_
   exact wx (WS.mk (Zd (Zr (web hc4)) Zc) Zb)
 obtain ⟨r0, hw⟩ := hw
 (conv => whnf)
 refine AWP.weak r0 hw ?_
 obtain rfl := Zg hF
 refine ns ?_
 refine Exists.intro [] ?_
 refine st ?_
 exact wx (WS.mk (tc Zc) Zb)

def ZaY (s : ByteArray) (n_4 : Int) (i_5 : Nat) : Option (Int × Bool) :=
 if (decide (((i_5 : Nat) : Int) < ((s.size : Nat) : Int))) = true then
 (btI s ((i_5 : Nat) : Int)) >>= fun y37 =>
 Zc3 ((y37.toNat : Nat) : Int) >>= fun r38 =>
 if (!r38) = true then
 some (0, false)
 else
 (btI s ((i_5 : Nat) : Int)) >>= fun y40 =>
 if (decide (n_4 > (IntKind.i64.wrap (Int.tdiv (IntKind.i64.wrap (9223372036854775807 - (IntKind.i64.wrap (IntKind.u8.wrap (((y40.toNat : Nat) : Int) - 48))))) 10)))) = true then
 some (0, false)
 else
 Z4 (i_5 + 1 ≤ 9223372036854775807) >>= fun _ =>
 ZaY s (IntKind.i64.wrap ((IntKind.i64.wrap (10 * n_4)) + (IntKind.i64.wrap (IntKind.u8.wrap (((y40.toNat : Nat) : Int) - 48))))) (i_5 + 1)
 else
 some (n_4, true)
 partial_fixpoint
def ZaY.M (s : ByteArray) (n_4 : Int) (i_5 : Nat) (r : Int × Bool) : Prop :=
 AWL Tryz.prog 45 (Code.sub (Zq Tryz.f85) [1, 1, 1, 0, 1, 0, 0]) (Code.cont Tryz.prog 45 (Zq Tryz.f85) [1, 1, 1, 0, 1, 0] (ZbV tab Tryz.f85.results (ZbX (.tup [.c (.v (.int .i64 r.1)), .c (.v (.bool r.2))]) []))) ⟨[(0, .c none (.v (.string s))), (4, .c none (.v (.int .i64 n_4))), (5, .c none (.v (.int .i64 ((i_5 : Nat) : Int))))], []⟩
theorem ZkE (s : ByteArray) (n_4 : Int) (i_5 : Nat) : ∀ r, ZaY s n_4 i_5 = some r → ZaY.M s n_4 i_5 r := by
 refine ZaY.partial_correctness s (fun n_4 i_5 r => ZaY.M s n_4 i_5 r) ?_ n_4 i_5
 intro lazycref01_number_l1' ZgJ n_4 i_5 r hF
 have ZkO := fun (_s : ByteArray) (n_4 : Int) (i_5 : Nat) => ZgJ n_4 i_5
 clear ZgJ
 unfold ZaY.M
 refine AWL.step ?_
 refine AWP.seq ?_
 refine AWP.seq ?_
 refine ns ?_
 refine nw ?_
 refine Zi hF (fun Zpu hF => ?_) (fun Zpu hF => ?_)
 ·refine nw ?_
  refine AWP.seq ?_
  refine AWP.block ?_
  refine AWP.seq ?_
  refine AWP.seq ?_
  obtain ⟨y37, hy370, ZHO, hF⟩ := Zc1 hF
  obtain ⟨r38, Zzl, hF⟩ := bind_some hF
  refine nn ?_
  refine sr ZHO ?_
  refine st ?_
  refine e3 ?_
  refine st ?_
  refine cm (Zj.weak (rn []) (Zi3 ((y37.toNat : Nat) : Int) _ Zzl) rfl (WS.mk (tc Zc) Zb)) ?_
  refine st ?_
  refine nw ?_
  refine Zi hF (fun ZhW hF => ?_) (fun ZhW hF => ?_)
  ·refine AWP.seq ?_
   refine ns ?_
   obtain rfl := Zg hF
   refine ns ?_
   refine Exists.intro [] ?_
   refine st ?_
   exact wx (WS.mk (Zd (Zc9 (ZcC (WE.refl _) (ZcC (WE.refl _) Zc6))) Zc) Zb)
  ·refine nw ?_
   refine AWP.seq ?_
   obtain ⟨y40, hy400, ZFG, hF⟩ := Zc1 hF
   refine nn ?_
   refine sr ZFG ?_
   refine st ?_
   refine AWP.seq ?_
   refine AWP.seq ?_
   refine ns ?_
   refine nw ?_
   refine Zi hF (fun Zwb hF => ?_) (fun Zwb hF => ?_)
   ·refine AWP.seq ?_
    refine ns ?_
    obtain rfl := Zg hF
    refine ns ?_
    refine Exists.intro [] ?_
    refine st ?_
    exact wx (WS.mk (Zd (Zc9 (ZcC (WE.refl _) (ZcC (WE.refl _) Zc6))) Zc) Zb)
   ·refine nw ?_
    refine ns ?_
    obtain ⟨ZGL, hF⟩ := Zy hF
    refine ns ?_
    refine AWL.weak (rn []) ?_ (ZkO s (IntKind.i64.wrap ((IntKind.i64.wrap (10 * n_4)) + (IntKind.i64.wrap (IntKind.u8.wrap (((y40.toNat : Nat) : Int) - 48))))) (i_5 + 1) _ hF)
    exact (WS.mk (tc (tc (Zd (Zr (Zdf (Zdu ZGL))) Zc))) Zb)
 ·refine nw ?_
  refine AWP.seq ?_
  refine ns ?_
  obtain rfl := Zg hF
  refine ns ?_
  refine Exists.intro [] ?_
  refine st ?_
  exact wx (WS.mk (Zd (Zc9 (ZcC (WE.refl _) (ZcC (WE.refl _) Zc6))) Zc) Zb)

def ZcF (s : ByteArray) : Option (Int × Bool) :=
 (if (s.toList == (ByteArray.mk #[]).toList) = true then some true else (btI s 0) >>= fun y4 =>
 some ((((y4.toNat : Nat) : Int) == 48) && (decide (((s.size : Nat) : Int) > 1)))) >>= fun c5 =>
 if c5 = true then
 some (0, false)
 else
 ZaY s 0 0
def ZcF.M (s : ByteArray) (r : Int × Bool) : Prop :=
 Zj Tryz.prog 85 [.c none (.v (.string s))] [] (fun d b => d = .tup [.c (.v (.int .i64 r.1)), .c (.v (.bool r.2))] ∧ b = [])
theorem ZmZ (s : ByteArray) (r : Int × Bool) (hF : ZcF s = some r) : ZcF.M s r := by
 unfold ZcF at hF
 unfold ZcF.M
 refine en Tryz.func85 ?_
 refine AWP.seq ?_
 refine ns ?_
 refine AWP.seq ?_
 refine AWP.seq ?_
 obtain ⟨c5, hc5, hF⟩ := bind_some hF
 refine AWP.cutN (fun T => ∃ r, WS r T ⟨[(0, .c none (.v (.string s))), (18, .c none (.v (.bool c5)))], []⟩) ?_ (fun T hw => ?_)
 ·refine ns ?_
  refine Zm false (fun hc6 => ?_) (fun hc6 => ?_)
  ·have hc5 := ift hc6 hc5
   (conv => whnf)
   obtain rfl := Zg hc5
   refine st ?_
   exact wx (WS.mk (tc (Zd (Zr (web hc6)) Zc)) Zb)
  ·have hc5 := ife hc6 hc5
   obtain ⟨y4, ZFG, hy4, hc5⟩ := Zc1 hc5
   (conv => whnf)
   refine sr hy4 ?_
   refine st ?_
   refine Zm true (fun hc7 => ?_) (fun hc7 => ?_)
   ·(conv => whnf)
    obtain rfl := Zg hc5
    refine st ?_
    exact wx (WS.mk (tc (Zd (Zr (web (And.intro hc6 hc7))) Zc)) Zb)
   ·(conv => whnf)
    obtain rfl := Zg hc5
    refine st ?_
    exact wx (WS.mk (tc (Zd (Zr (web (And.intro hc6 hc7))) Zc)) Zb)
 obtain ⟨r0, hw⟩ := hw
 (conv => whnf)
 refine AWP.weak r0 hw ?_
 refine nw ?_
 refine Zi hF (fun hc8 hF => ?_) (fun hc8 hF => ?_)
 ·refine AWP.seq ?_
  refine ns ?_
  obtain rfl := Zg hF
  refine ns ?_
  refine Exists.intro [] ?_
  refine st ?_
  exact wx (WS.mk (Zd (Zc9 (ZcC (WE.refl _) (ZcC (WE.refl _) Zc6))) Zc) Zb)
 ·refine nw ?_
  refine AWP.seq ?_
  refine ns ?_
  refine AWP.seq ?_
  refine AWP.seq ?_
  refine ns ?_
  refine AWP.block ?_
  refine AWP.loop ?_
  refine AWL.weak (rn []) ?_ (ZkE s 0 0 _ hF)
  exact (WS.mk (tc (tc (tc Zc))) Zb)

def Za6 (s : ByteArray) (ZhU : Int) (i_6 : Nat) : Option (ByteArray × Int × Bool) :=
 if (decide (((i_6 : Nat) : Int) < ((s.size : Nat) : Int))) = true then
 (btI s ((i_6 : Nat) : Int)) >>= fun y29 =>
 if (((y29.toNat : Nat) : Int) == 36) = true then
 Z4 (i_6 + 1 ≤ 9223372036854775807) >>= fun _ =>
 Za6 s ((i_6 : Nat) : Int) (i_6 + 1)
 else
 Z4 (i_6 + 1 ≤ 9223372036854775807) >>= fun _ =>
 Za6 s ZhU (i_6 + 1)
 else
 (if (decide (ZhU < 0)) = true then some true else (slS s ((0 : Nat) : Int) ZhU) >>= fun z37 =>
 ZcT z37 >>= fun r38 =>
 some (!r38)) >>= fun c39 =>
 if c39 = true then
 some ((ByteArray.mk #[]), 0, false)
 else
 (slS s (IntKind.i64.wrap (ZhU + 1)) ((s.size : Nat) : Int)) >>= fun z42 =>
 ZcF z42 >>= fun r43 =>
 if (!r43.2) = true then
 some ((ByteArray.mk #[]), 0, false)
 else
 (slS s ((0 : Nat) : Int) ZhU) >>= fun z46 =>
 some (z46, r43.1, true)
 partial_fixpoint
def Za6.M (s : ByteArray) (ZhU : Int) (i_6 : Nat) (r : ByteArray × Int × Bool) : Prop :=
 AWL Tryz.prog 43 (Code.sub (Zq Tryz.f58) [1, 1, 0, 1, 0, 0]) (Code.cont Tryz.prog 43 (Zq Tryz.f58) [1, 1, 0, 1, 0] (ZbV tab Tryz.f58.results (ZbX (.tup [.c (.v (.string r.1)), .c (.v (.int .i64 r.2.1)), .c (.v (.bool r.2.2))]) []))) ⟨[(0, .c none (.v (.string s))), (5, .c none (.v (.int .i64 ZhU))), (6, .c none (.v (.int .i64 ((i_6 : Nat) : Int))))], []⟩
theorem Zl7 (s : ByteArray) (ZhU : Int) (i_6 : Nat) : ∀ r, Za6 s ZhU i_6 = some r → Za6.M s ZhU i_6 r := by
 refine Za6.partial_correctness s (fun ZhU i_6 r => Za6.M s ZhU i_6 r) ?_ ZhU i_6
 intro lazycref01_Base_l1' ZhF ZhU i_6 r hF
 have Zh2 := fun (_s : ByteArray) (ZhU : Int) (i_6 : Nat) => ZhF ZhU i_6
 clear ZhF
 unfold Za6.M
 refine AWL.step ?_
 refine AWP.seq ?_
 refine AWP.seq ?_
 refine ns ?_
 refine nw ?_
 refine Zi hF (fun ZAy hF => ?_) (fun ZAy hF => ?_)
 ·refine nw ?_
  refine AWP.seq ?_
  refine AWP.block ?_
  refine AWP.seq ?_
  obtain ⟨y29, hy290, ZIm, hF⟩ := Zc1 hF
  refine nn ?_
  refine sr ZIm ?_
  refine st ?_
  refine nw ?_
  refine Zi hF (fun Zpp hF => ?_) (fun Zpp hF => ?_)
  ·refine ns ?_
   obtain ⟨ZHE, hF⟩ := Zy hF
   refine ns ?_
   refine AWL.weak (rn []) ?_ (Zh2 s ((i_6 : Nat) : Int) (i_6 + 1) _ hF)
   exact (WS.mk (tc (tc (Zd (Zr (Zdf (Zdu ZHE))) Zc))) Zb)
  ·refine nw ?_
   obtain ⟨ZEh, hF⟩ := Zy hF
   refine ns ?_
   refine AWL.weak (rn []) ?_ (Zh2 s ZhU (i_6 + 1) _ hF)
   exact (WS.mk (tc (tc (Zd (Zr (Zdf (Zdu ZEh))) Zc))) Zb)
 ·refine nw ?_
  refine AWP.seq ?_
  refine AWP.seq ?_
  obtain ⟨c39, ZhW, hF⟩ := bind_some hF
  refine AWP.cutN (fun T => ∃ r, WS r T ⟨[(0, .c none (.v (.string s))), (5, .c none (.v (.int .i64 ZhU))), (28, .c none (.v (.bool c39)))], []⟩) ?_ (fun T hw => ?_)
  ·refine ns ?_
   refine Zm false (fun Zol => ?_) (fun Zol => ?_)
   ·have ZhW := ift Zol ZhW
    (conv => whnf)
    obtain rfl := Zg ZhW
    refine st ?_
    exact wx (WS.mk (tc (tc (Zd (Zr (web Zol)) Zc))) Zb)
   ·have ZhW := ife Zol ZhW
    obtain ⟨z37, ZEw, ZFJ, ZE2, ZGX, ZhW⟩ := ZfX ZhW
    obtain ⟨r38, Zzl, ZhW⟩ := bind_some ZhW
    (conv => whnf)
    refine s3 ZEw ZFJ ZE2 ?_
    rw [← ZGX]
    refine st ?_
    refine e3 ?_
    refine st ?_
    refine cm (Zj.weak (rn []) (Zjt z37 _ Zzl) rfl (WS.mk (tc Zc) Zb)) ?_
    refine st ?_
    obtain rfl := Zg ZhW
    refine st ?_
    exact wx (WS.mk (tc (tc (Zd (Zr (web Zol)) Zc))) Zb)
  obtain ⟨r0, hw⟩ := hw
  (conv => whnf)
  refine AWP.weak r0 hw ?_
  refine nw ?_
  refine Zi hF (fun Zv8 hF => ?_) (fun Zv8 hF => ?_)
  ·refine AWP.seq ?_
   refine ns ?_
   obtain rfl := Zg hF
   refine ns ?_
   refine Exists.intro [] ?_
   refine st ?_
   exact wx (WS.mk (Zd (Zc9 (ZcC (WE.refl _) (ZcC (WE.refl _) (ZcC (WE.refl _) Zc6)))) Zc) Zb)
  ·refine nw ?_
   refine AWP.seq ?_
   obtain ⟨z42, ZF2, ZF1, ZE8, ZCx, hF⟩ := ZfX hF
   obtain ⟨r43, ZDc, hF⟩ := bind_some hF
   refine nn ?_
   refine s3 ZF2 ZF1 ZE8 ?_
   rw [← ZCx]
   refine st ?_
   refine e3 ?_
   refine st ?_
   refine cm (Zj.weak (rn []) (ZmZ z42 _ ZDc) rfl (WS.mk (tc Zc) Zb)) ?_
   refine st ?_
   refine AWP.seq ?_
   refine AWP.seq ?_
   refine ns ?_
   refine nw ?_
   refine Zi hF (fun ZDr hF => ?_) (fun ZDr hF => ?_)
   ·refine AWP.seq ?_
    refine ns ?_
    obtain rfl := Zg hF
    refine ns ?_
    refine Exists.intro [] ?_
    refine st ?_
    exact wx (WS.mk (Zd (Zc9 (ZcC (WE.refl _) (ZcC (WE.refl _) (ZcC (WE.refl _) Zc6)))) Zc) Zb)
   ·refine nw ?_
    refine AWP.seq ?_
    obtain ⟨z46, ZFv, ZFU, ZFW, ZHd, hF⟩ := ZfX hF
    refine nn ?_
    refine s3 ZFv ZFU ZFW ?_
    rw [← ZHd]
    refine st ?_
    obtain rfl := Zg hF
    refine ns ?_
    refine Exists.intro [] ?_
    refine st ?_
    exact wx (WS.mk (Zd (Zc9 (ZcC (WE.refl _) (ZcC (WE.refl _) (ZcC (WE.refl _) Zc6)))) Zc) Zb)

def ZcS (s : ByteArray) : Option (ByteArray × Int × Bool) :=
 Za6 s (-1) 0
def ZcS.M (s : ByteArray) (r : ByteArray × Int × Bool) : Prop :=
 Zj Tryz.prog 58 [.c none (.v (.string s))] [] (fun d b => d = .tup [.c (.v (.string r.1)), .c (.v (.int .i64 r.2.1)), .c (.v (.bool r.2.2))] ∧ b = [])
theorem Zg0 (s : ByteArray) (r : ByteArray × Int × Bool) (hF : ZcS s = some r) : ZcS.M s r := by
 unfold ZcS at hF
 unfold ZcS.M
 refine en Tryz.func58 ?_
 refine AWP.seq ?_
 refine ns ?_
 refine AWP.seq ?_
 refine ns ?_
 refine AWP.seq ?_
 refine AWP.seq ?_
 refine ns ?_
 refine AWP.block ?_
 refine AWP.loop ?_
 refine AWL.weak (rn []) ?_ (Zl7 s (-1) 0 _ hF)
 exact (WS.mk (tc (tc (tc Zc))) Zb)

def Zds (base : ByteArray) (n : Int) : Option (ByteArray) :=
 ZcT base >>= fun r3 =>
 if ((!r3) || (decide (n < 0))) = true then
 some (ByteArray.mk #[])
 else
 Z4 (((base.size + (ByteArray.mk #[36]).size : Nat) : Int) ≤ IntKind.i64.max) >>= fun _ =>
 strconv_Itoa n >>= fun r7 =>
 Z4 ((((base ++ (ByteArray.mk #[36])).size + r7.size : Nat) : Int) ≤ IntKind.i64.max) >>= fun _ =>
 some ((base ++ (ByteArray.mk #[36])) ++ r7)
def Zds.M (base : ByteArray) (n : Int) (r : ByteArray) : Prop :=
 Zj Tryz.prog 91 [.c none (.v (.string base)), .c none (.v (.int .i64 n))] [] (fun d b => d = .c none (.v (.string r)) ∧ b = [])
theorem ZjD (base : ByteArray) (n : Int) (r : ByteArray) (hF : Zds base n = some r) : Zds.M base n r := by
 unfold Zds at hF
 unfold Zds.M
 refine en Tryz.func91 ?_
 refine AWP.seq ?_
 refine ns ?_
 refine AWP.seq ?_
 refine AWP.seq ?_
 obtain ⟨r3, hr3, hF⟩ := bind_some hF
 refine AWP.cutN (fun T => ∃ r, WS r T ⟨[(0, .c none (.v (.string base))), (1, .c none (.v (.int .i64 n))), (11, .c none (.v (.bool ((!r3) || (decide (n < 0))))))], []⟩) ?_ (fun T hw => ?_)
 ·refine ns ?_
  refine e3 ?_
  refine st ?_
  refine cm (Zj.weak (rn []) (Zjt base _ hr3) rfl (WS.mk (tc Zc) Zb)) ?_
  refine st ?_
  refine Zm false (fun hc4 => ?_) (fun hc4 => ?_)
  ·(conv => whnf)
   refine st ?_
   exact wx (WS.mk (tc (tc (Zd (Zr (web hc4)) Zc))) Zb)
  ·(conv => whnf)
   refine st ?_
   exact wx (WS.mk (tc (tc (Zd (Zr (web hc4)) Zc))) Zb)
 obtain ⟨r0, hw⟩ := hw
 (conv => whnf)
 refine AWP.weak r0 hw ?_
 refine nw ?_
 refine Zi hF (fun hc5 hF => ?_) (fun hc5 hF => ?_)
 ·refine AWP.seq ?_
  refine ns ?_
  obtain rfl := Zg hF
  refine ns ?_
  refine Exists.intro [] ?_
  refine st ?_
  exact wx (WS.mk (tc Zc) Zb)
 ·refine nw ?_
  refine AWP.seq ?_
  obtain ⟨hg6, hF⟩ := Zy hF
  obtain ⟨r7, hr7, hF⟩ := bind_some hF
  obtain ⟨hg8, hF⟩ := Zy hF
  refine ns ?_
  refine And.intro hg6 ?_
  refine st ?_
  refine e3 ?_
  refine st ?_
  refine cm (Zj.weak (rn []) (ZlW n _ hr7) rfl (WS.mk (tc Zc) Zb)) ?_
  refine st ?_
  refine And.intro hg8 ?_
  refine st ?_
  obtain rfl := Zg hF
  refine ns ?_
  refine Exists.intro [] ?_
  refine st ?_
  exact wx (WS.mk (tc Zc) Zb)

mutual
def Zci (t : Za) : Option (Int) :=
 Zcr 0 t 0 t.fKids
 partial_fixpoint
def Zcr (n_3 : Int) (t : Za) (x_9 : Nat) (ZaW : (List Za)) : Option (Int) :=
 (match ZaW with
 | x11 :: ZlC =>
 Zci x11 >>= fun r14 =>
 Zcr (if r14 > n_3 then r14 else n_3) t (x_9 + 1) ZlC
 | [] =>
 some (IntKind.i64.wrap (n_3 + 1)))
 partial_fixpoint
end
def Zci.M (t : Za) (r : Int) : Prop :=
 Zj Tryz.prog 77 [.agg [.v (.int .i64 t.fOp), .v (.string t.fName), .sl (t.fBound.fArgs.map Zk.cells), .sl (t.fKids.map Za.cells)]] [] (fun d b => d = .c none (.v (.int .i64 r)) ∧ b = [])
def Zcr.M (n_3 : Int) (t : Za) (x_9 : Nat) (ZaW : (List Za)) (r : Int) : Prop :=
 ∀ Zdw : List Za, t.fKids = Zdw ++ ZaW → x_9 = Zdw.length → t.fKids.length ≤ maxLen → AWL Tryz.prog 20 (Code.sub (Zq Tryz.f77) [1, 1, 0, 1, 0, 0]) (Code.cont Tryz.prog 20 (Zq Tryz.f77) [1, 1, 0, 1, 0] (ZbV tab Tryz.f77.results (ZbX (.c none (.v (.int .i64 r))) []))) ⟨[(3, .c none (.v (.int .i64 n_3))), (7, .c none (.sl (t.fKids.map Za.cells))), (8, .c none (.v (.int .i64 ((t.fKids.length : Nat) : Int)))), (9, .c none (.v (.int .i64 ((x_9 : Nat) : Int))))], []⟩
theorem ZlP : (∀ (t : Za), ∀ r, Zci t = some r → Zci.M t r) ∧ (∀ (n_3 : Int) (t : Za) (x_9 : Nat) (ZaW : (List Za)), ∀ r, Zcr n_3 t x_9 ZaW = some r → Zcr.M n_3 t x_9 ZaW r) := by
 refine Zci.mutual_partial_correctness Zci.M Zcr.M ?_ ?_
 ·intro types_Depth_l1' ZhC t r hF
  unfold Zci.M
  refine en Tryz.func77 ?_
  refine AWP.seq ?_
  refine ns ?_
  refine AWP.seq ?_
  refine ns ?_
  refine AWP.seq ?_
  refine AWP.seq ?_
  refine ns ?_
  intro hlen1
  (try rw [List.length_map] at hlen1)
  (try rw [List.length_map])
  refine st ?_
  refine AWP.block ?_
  refine AWP.loop ?_
  refine AWL.weak (rn []) ?_ (ZhC 0 t 0 t.fKids _ hF ([]) rfl rfl hlen1)
  exact (WS.mk (tc (tc (tc (tc Zc)))) Zb)
 ·intro types_Depth' types_Depth_l1' ZqW ZhC n_3 t x_9 ZaW r hF
  unfold Zcr.M
  intro Zdw Zho Zhr hlen1
  refine AWL.step ?_
  refine AWP.seq ?_
  refine ns ?_
  refine AWP.seq ?_
  refine nw ?_
  refine ZN Zho Zhr (fun x11 ZlC Zlr Ztt Ztc => ?_) (fun Zlr => ?_)
  ·subst Zlr
   refine nw ?_
   refine AWP.seq ?_
   refine AWP.block ?_
   refine AWP.seq ?_
   refine nn ?_
   refine sr (Zab (f := Za.cells) (Za.cells_eq x11) Ztt) ?_
   refine st ?_
   obtain ⟨r14, ZqL, hF⟩ := bind_some hF
   refine ns ?_
   refine e3 ?_
   refine st ?_
   refine cm (Zj.weak (rn []) (ZqW x11 _ ZqL) rfl (WS.mk (Zd (Zt (lc (lc (lc (lc Zo))))) Zc) Zb)) ?_
   refine st ?_
   refine ns ?_
   refine AWL.weak (rn []) ?_ (ZhC (if r14 > n_3 then r14 else n_3) t (x_9 + 1) ZlC _ hF (Zdw ++ [x11]) (by rw [Zho]; simp) (by rw [Zhr]; simp) hlen1)
   exact (WS.mk (tc (tc (tc (Zd (Zr (Zdf (ZV hlen1 Ztc))) Zc)))) Zb)
  ·subst Zlr
   refine nw ?_
   refine AWP.seq ?_
   refine ns ?_
   obtain rfl := Zg hF
   refine ns ?_
   refine Exists.intro [] ?_
   refine st ?_
   exact wx (WS.mk (tc Zc) Zb)
theorem Zmv : ∀ (t : Za), ∀ r, Zci t = some r → Zci.M t r := ZlP.1
theorem types_Depth_l1_ok : ∀ (n_3 : Int) (t : Za) (x_9 : Nat) (ZaW : (List Za)), ∀ r, Zcr n_3 t x_9 ZaW = some r → Zcr.M n_3 t x_9 ZaW r := ZlP.2

mutual
def ZcD (t : Za) : Option (Int) :=
 ZcU 1 t 0 t.fKids
 partial_fixpoint
def ZcU (n_3 : Int) (t : Za) (x_9 : Nat) (ZaW : (List Za)) : Option (Int) :=
 (match ZaW with
 | x11 :: ZlC =>
 ZcD x11 >>= fun r14 =>
 ZcU (IntKind.i64.wrap (n_3 + r14)) t (x_9 + 1) ZlC
 | [] =>
 some n_3)
 partial_fixpoint
end
def ZcD.M (t : Za) (r : Int) : Prop :=
 Zj Tryz.prog 74 [.agg [.v (.int .i64 t.fOp), .v (.string t.fName), .sl (t.fBound.fArgs.map Zk.cells), .sl (t.fKids.map Za.cells)]] [] (fun d b => d = .c none (.v (.int .i64 r)) ∧ b = [])
def ZcU.M (n_3 : Int) (t : Za) (x_9 : Nat) (ZaW : (List Za)) (r : Int) : Prop :=
 ∀ Zdw : List Za, t.fKids = Zdw ++ ZaW → x_9 = Zdw.length → t.fKids.length ≤ maxLen → AWL Tryz.prog 19 (Code.sub (Zq Tryz.f74) [1, 1, 0, 1, 0, 0]) (Code.cont Tryz.prog 19 (Zq Tryz.f74) [1, 1, 0, 1, 0] (ZbV tab Tryz.f74.results (ZbX (.c none (.v (.int .i64 r))) []))) ⟨[(3, .c none (.v (.int .i64 n_3))), (7, .c none (.sl (t.fKids.map Za.cells))), (8, .c none (.v (.int .i64 ((t.fKids.length : Nat) : Int)))), (9, .c none (.v (.int .i64 ((x_9 : Nat) : Int))))], []⟩
theorem Zmt : (∀ (t : Za), ∀ r, ZcD t = some r → ZcD.M t r) ∧ (∀ (n_3 : Int) (t : Za) (x_9 : Nat) (ZaW : (List Za)), ∀ r, ZcU n_3 t x_9 ZaW = some r → ZcU.M n_3 t x_9 ZaW r) := by
 refine ZcD.mutual_partial_correctness ZcD.M ZcU.M ?_ ?_
 ·intro types_Size_l1' Zik t r hF
  unfold ZcD.M
  refine en Tryz.func74 ?_
  refine AWP.seq ?_
  refine ns ?_
  refine AWP.seq ?_
  refine ns ?_
  refine AWP.seq ?_
  refine AWP.seq ?_
  refine ns ?_
  intro hlen1
  (try rw [List.length_map] at hlen1)
  (try rw [List.length_map])
  refine st ?_
  refine AWP.block ?_
  refine AWP.loop ?_
  refine AWL.weak (rn []) ?_ (Zik 1 t 0 t.fKids _ hF ([]) rfl rfl hlen1)
  exact (WS.mk (tc (tc (tc (tc Zc)))) Zb)
 ·intro types_Size' types_Size_l1' Zse Zik n_3 t x_9 ZaW r hF
  unfold ZcU.M
  intro Zdw Zho Zhr hlen1
  refine AWL.step ?_
  refine AWP.seq ?_
  refine ns ?_
  refine AWP.seq ?_
  refine nw ?_
  refine ZN Zho Zhr (fun x11 ZlC Zlr Ztt Ztc => ?_) (fun Zlr => ?_)
  ·subst Zlr
   refine nw ?_
   refine AWP.seq ?_
   refine AWP.block ?_
   refine AWP.seq ?_
   refine nn ?_
   refine sr (Zab (f := Za.cells) (Za.cells_eq x11) Ztt) ?_
   refine st ?_
   obtain ⟨r14, ZqL, hF⟩ := bind_some hF
   refine ns ?_
   refine e3 ?_
   refine st ?_
   refine cm (Zj.weak (rn []) (Zse x11 _ ZqL) rfl (WS.mk (Zd (Zt (lc (lc (lc (lc Zo))))) Zc) Zb)) ?_
   refine st ?_
   refine ns ?_
   refine AWL.weak (rn []) ?_ (Zik (IntKind.i64.wrap (n_3 + r14)) t (x_9 + 1) ZlC _ hF (Zdw ++ [x11]) (by rw [Zho]; simp) (by rw [Zhr]; simp) hlen1)
   exact (WS.mk (tc (tc (tc (Zd (Zr (Zdf (ZV hlen1 Ztc))) Zc)))) Zb)
  ·subst Zlr
   refine nw ?_
   refine AWP.seq ?_
   refine ns ?_
   obtain rfl := Zg hF
   refine ns ?_
   refine Exists.intro [] ?_
   refine st ?_
   exact wx (WS.mk (tc Zc) Zb)
theorem ZnR : ∀ (t : Za), ∀ r, ZcD t = some r → ZcD.M t r := Zmt.1
theorem types_Size_l1_ok : ∀ (n_3 : Int) (t : Za) (x_9 : Nat) (ZaW : (List Za)), ∀ r, ZcU n_3 t x_9 ZaW = some r → ZcU.M n_3 t x_9 ZaW r := Zmt.2

def Zb9 (z18 : ByteArray) (Zf9 : Nat) : Option (Bool) :=
 if (decide (Zf9 < z18.size)) = true then
 if ((((Utf8.decode z18 Zf9).1 : Nat) : Int) != 44) = true then
 some false
 else
 Zb9 z18 (Zf9 + (Utf8.decode z18 Zf9).2)
 else
 some true
 partial_fixpoint
def Zb9.M (z18 : ByteArray) (Zf9 : Nat) (r : Bool) : Prop :=
 AWL Tryz.prog 46 (Code.sub (Zq Tryz.f102) [1, 1, 1, 1, 0, 1, 0, 0]) (Code.cont Tryz.prog 46 (Zq Tryz.f102) [1, 1, 1, 1, 0, 1, 0] (ZbV tab Tryz.f102.results (ZbX (.c none (.v (.bool r))) []))) ⟨[(40, .ptr 40 0)], [(40, [(none, ZsM z18 ((Zf9 : Nat) : Int))])]⟩
theorem ZnP (z18 : ByteArray) (Zf9 : Nat) : ∀ r, Zb9 z18 Zf9 = some r → Zb9.M z18 Zf9 r := by
 refine Zb9.partial_correctness z18 (fun Zf9 r => Zb9.M z18 Zf9 r) ?_ Zf9
 intro types_builtin_l1' Ziz Zf9 r hF
 have Zny := fun (_z18 : ByteArray) (Zf9 : Nat) => Ziz Zf9
 clear Ziz
 unfold Zb9.M
 refine AWL.step ?_
 refine AWP.seq ?_
 refine nn ?_
 (repeat ((conv => whnf); (with_reducible refine And.intro ?_ ?_); (focus (first | (with_reducible exact Zzu) | exact Eq.refl _ | exact Nat.le_of_ble_eq_true (Eq.refl true) | decide)))); (conv => whnf)
 refine Zi hF (fun ZDV hF => ?_) (fun ZDV hF => ?_)
 ·refine st ?_
  refine AWP.seq ?_
  refine nw ?_
  refine nw ?_
  refine AWP.block ?_
  refine AWP.seq ?_
  refine ns ?_
  refine AWP.seq ?_
  refine ns ?_
  refine nw ?_
  refine Zi hF (fun Zs4 hF => ?_) (fun Zs4 hF => ?_)
  ·refine AWP.seq ?_
   refine ns ?_
   obtain rfl := Zg hF
   refine ns ?_
   refine Exists.intro [] ?_
   refine st ?_
   exact wx (WS.mk (tc Zc) Zb)
  ·refine nw ?_
   refine AWL.weak (rn []) ?_ (Zny z18 (Zf9 + (Utf8.decode z18 Zf9).2) _ hF)
   exact (WS.mk (tp Zc) (Zf rfl (cc Zh) Zb))
 ·refine st ?_
  refine AWP.seq ?_
  refine nw ?_
  refine nw ?_
  refine AWP.seq ?_
  refine ns ?_
  obtain rfl := Zg hF
  refine ns ?_
  refine Exists.intro [] ?_
  refine st ?_
  exact wx (WS.mk (tc Zc) Zb)

def Zem (s : ByteArray) : Option (Bool) :=
 if (((s.toList == (ByteArray.mk #[45, 62]).toList) || (s.toList == (ByteArray.mk #[91, 93]).toList)) || (s.toList == (ByteArray.mk #[40, 41]).toList)) = true then
 some true
 else
 (if ((decide (((s.size : Nat) : Int) < 3)) || (decide (((s.size : Nat) : Int) > 8))) = true then some true else (btI s 0) >>= fun y10 =>
 some (((y10.toNat : Nat) : Int) != 40)) >>= fun c11 =>
 (if c11 = true then some true else (btI s (IntKind.i64.wrap (((s.size : Nat) : Int) - 1))) >>= fun y12 =>
 some (((y12.toNat : Nat) : Int) != 41)) >>= fun c13 =>
 if c13 = true then
 some false
 else
 (slS s 1 (IntKind.i64.wrap (((s.size : Nat) : Int) - 1))) >>= fun z18 =>
 Zb9 z18 0
def Zem.M (s : ByteArray) (r : Bool) : Prop :=
 Zj Tryz.prog 102 [.c none (.v (.string s))] [] (fun d b => d = .c none (.v (.bool r)) ∧ b = [])
theorem Zpt (s : ByteArray) (r : Bool) (hF : Zem s = some r) : Zem.M s r := by
 unfold Zem at hF
 unfold Zem.M
 refine en Tryz.func102 ?_
 refine AWP.seq ?_
 refine ns ?_
 refine AWP.seq ?_
 refine AWP.seq ?_
 refine AWP.cutN (fun T => ∃ r, WS r T ⟨[(0, .c none (.v (.string s))), (15, .c none (.v (.bool (((s.toList == (ByteArray.mk #[45, 62]).toList) || (s.toList == (ByteArray.mk #[91, 93]).toList)) || (s.toList == (ByteArray.mk #[40, 41]).toList)))))], []⟩) ?_ (fun T hw => ?_)
 ·refine ns ?_
  refine Zm false (fun hc2 => ?_) (fun hc2 => ?_)
  ·(conv => whnf)
   refine st ?_
   exact wx (WS.mk (tc (Zd (Zr (web hc2)) Zc)) Zb)
  ·(conv => whnf)
   refine st ?_
   refine Zm false (fun hc3 => ?_) (fun hc3 => ?_)
   ·(conv => whnf)
    refine st ?_
    exact wx (WS.mk (tc (Zd (Zr (web (And.intro hc2 hc3))) Zc)) Zb)
   ·(conv => whnf)
    refine st ?_
    exact wx (WS.mk (tc (Zd (Zr (web (And.intro hc2 hc3))) Zc)) Zb)
 obtain ⟨r0, hw⟩ := hw
 (conv => whnf)
 refine AWP.weak r0 hw ?_
 refine nw ?_
 refine Zi hF (fun hc4 hF => ?_) (fun hc4 hF => ?_)
 ·refine AWP.seq ?_
  refine ns ?_
  obtain rfl := Zg hF
  refine ns ?_
  refine Exists.intro [] ?_
  refine st ?_
  exact wx (WS.mk (tc Zc) Zb)
 ·refine nw ?_
  refine AWP.seq ?_
  refine ns ?_
  refine AWP.seq ?_
  refine AWP.seq ?_
  obtain ⟨c11, ZcO, hF⟩ := bind_some hF
  obtain ⟨c13, ZbD, hF⟩ := bind_some hF
  refine AWP.cutN (fun T => ∃ r, WS r T ⟨[(0, .c none (.v (.string s))), (3, .c none (.v (.int .i64 ((s.size : Nat) : Int)))), (35, .c none (.v (.bool c13)))], []⟩) ?_ (fun T hw => ?_)
  ·refine ns ?_
   refine Zm false (fun Zdl => ?_) (fun Zdl => ?_)
   ·(conv => whnf)
    have ZcO := ift Zdl ZcO
    obtain rfl := Zg ZcO
    have ZbD := ift Zdl ZbD
    obtain rfl := Zg ZbD
    refine st ?_
    exact wx (WS.mk (tc (tc (Zd (Zr (web Zdl)) Zc))) Zb)
   ·(conv => whnf)
    refine st ?_
    refine Zm false (fun Zfg => ?_) (fun Zfg => ?_)
    ·have ZcO := ift (And.intro Zdl Zfg) ZcO
     (conv => whnf)
     obtain rfl := Zg ZcO
     have ZbD := ift (And.intro Zdl Zfg) ZbD
     obtain rfl := Zg ZbD
     refine st ?_
     exact wx (WS.mk (tc (tc (Zd (Zr (web (And.intro Zdl Zfg))) Zc))) Zb)
    ·have ZcO := ife (And.intro Zdl Zfg) ZcO
     obtain ⟨y10, ZGG, ZDt, ZcO⟩ := Zc1 ZcO
     (conv => whnf)
     refine sr ZDt ?_
     obtain rfl := Zg ZcO
     refine st ?_
     refine Zm false (fun Zgv => ?_) (fun Zgv => ?_)
     ·have ZbD := ift (And.intro Zdl (And.intro Zfg Zgv)) ZbD
      (conv => whnf)
      obtain rfl := Zg ZbD
      refine st ?_
      exact wx (WS.mk (tc (tc (Zd (Zr (web (And.intro Zdl (And.intro Zfg Zgv)))) Zc))) Zb)
     ·have ZbD := ife (And.intro Zdl (And.intro Zfg Zgv)) ZbD
      obtain ⟨y12, ZFV, ZD0, ZbD⟩ := Zc1 ZbD
      (conv => whnf)
      refine sr ZD0 ?_
      obtain rfl := Zg ZbD
      refine st ?_
      exact wx (WS.mk (tc (tc (Zd (Zr (web (And.intro Zdl (And.intro Zfg Zgv)))) Zc))) Zb)
  obtain ⟨r0, hw⟩ := hw
  (conv => whnf)
  refine AWP.weak r0 hw ?_
  refine nw ?_
  refine Zi hF (fun ZiJ hF => ?_) (fun ZiJ hF => ?_)
  ·refine AWP.seq ?_
   refine ns ?_
   obtain rfl := Zg hF
   refine ns ?_
   refine Exists.intro [] ?_
   refine st ?_
   exact wx (WS.mk (tc Zc) Zb)
  ·refine nw ?_
   refine AWP.seq ?_
   refine AWP.seq ?_
   obtain ⟨z18, ZGv, ZFA, ZFS, ZH7, hF⟩ := ZfX hF
   refine nn ?_
   refine s3 ZGv ZFA ZFS ?_
   rw [← ZH7]
   (repeat ((conv => whnf); (with_reducible refine And.intro ?_ ?_); (focus (first | (with_reducible exact Zzu) | exact Eq.refl _ | exact Nat.le_of_ble_eq_true (Eq.refl true) | decide)))); (conv => whnf)
   refine st ?_
   refine AWP.block ?_
   refine AWP.loop ?_
   refine AWL.weak (rn []) ?_ (ZnP z18 0 _ hF)
   exact (WS.mk (tp Zc) (Zf rfl (cc Zh) Zb))

def ZcV (s_0 : ByteArray) : Option (Bool) :=
 Zdi s_0 >>= fun r5 =>
 some ((r5 == 2) || (r5 == 4))
def ZcV.M (s_0 : ByteArray) (r : Bool) : Prop :=
 AWP Tryz.prog 34 (Code.sub (Zq Tryz.f103) [1, 1, 1]) (Code.cont Tryz.prog 34 (Zq Tryz.f103) [1, 1, 1] (ZbV tab Tryz.f103.results (ZbX (.c none (.v (.bool r))) []))) ⟨[(0, .c none (.v (.string s_0)))], []⟩
theorem Zi1 (s_0 : ByteArray) (r : Bool) (hF : ZcV s_0 = some r) : ZcV.M s_0 r := by
 unfold ZcV at hF
 unfold ZcV.M
 refine AWP.seq ?_
 obtain ⟨r5, hr5, hF⟩ := bind_some hF
 refine ns ?_
 refine e3 ?_
 refine st ?_
 refine cm (Zj.weak (rn []) (ZhR s_0 _ hr5) rfl (WS.mk (tc Zc) Zb)) ?_
 refine st ?_
 refine AWP.seq ?_
 refine AWP.cutN (fun T => ∃ r, WS r T ⟨[(2, .c none (.v (.bool ((r5 == 2) || (r5 == 4)))))], []⟩) ?_ (fun T hw => ?_)
 ·refine ns ?_
  refine Zm false (fun hc6 => ?_) (fun hc6 => ?_)
  ·(conv => whnf)
   refine st ?_
   exact wx (WS.mk (Zd (Zr (web hc6)) Zc) Zb)
  ·(conv => whnf)
   refine st ?_
   exact wx (WS.mk (Zd (Zr (web hc6)) Zc) Zb)
 obtain ⟨r0, hw⟩ := hw
 (conv => whnf)
 refine AWP.weak r0 hw ?_
 obtain rfl := Zg hF
 refine ns ?_
 refine Exists.intro [] ?_
 refine st ?_
 exact wx (WS.mk (tc Zc) Zb)

def ZcZ (s_0 : ByteArray) : Option (Bool) :=
 ZeQ s_0 >>= fun r7 =>
 if r7.2.2 = true then
 ZcV r7.2.1
 else
 ZcV s_0
def ZcZ.M (s_0 : ByteArray) (r : Bool) : Prop :=
 AWP Tryz.prog 34 (Code.sub (Zq Tryz.f103) [1, 1]) (Code.cont Tryz.prog 34 (Zq Tryz.f103) [1, 1] (ZbV tab Tryz.f103.results (ZbX (.c none (.v (.bool r))) []))) ⟨[(0, .c none (.v (.string s_0)))], []⟩
theorem Zi5 (s_0 : ByteArray) (r : Bool) (hF : ZcZ s_0 = some r) : ZcZ.M s_0 r := by
 unfold ZcZ at hF
 unfold ZcZ.M
 refine AWP.seq ?_
 refine AWP.seq ?_
 obtain ⟨r7, hr7, hF⟩ := bind_some hF
 refine ns ?_
 refine e3 ?_
 refine st ?_
 refine cm (Zj.weak (rn []) (ZmM s_0 _ hr7) rfl (WS.mk (tc Zc) Zb)) ?_
 refine st ?_
 refine AWP.seq ?_
 refine ns ?_
 refine nw ?_
 refine Zi hF (fun hc8 hF => ?_) (fun hc8 hF => ?_)
 ·refine ns ?_
  refine AWP.weak (rn []) ?_ (Zi1 r7.2.1 _ hF)
  exact (WS.mk (tc Zc) Zb)
 ·refine nw ?_
  refine AWP.weak (rn []) ?_ (Zi1 s_0 _ hF)
  exact (WS.mk (tc Zc) Zb)

def Zen (s : ByteArray) : Option (Bool) :=
 Ze0 s >>= fun r9 =>
 if r9.2.2 = true then
 ZcZ r9.1
 else
 ZcZ s
def Zen.M (s : ByteArray) (r : Bool) : Prop :=
 Zj Tryz.prog 103 [.c none (.v (.string s))] [] (fun d b => d = .c none (.v (.bool r)) ∧ b = [])
theorem ZpI (s : ByteArray) (r : Bool) (hF : Zen s = some r) : Zen.M s r := by
 unfold Zen at hF
 unfold Zen.M
 refine en Tryz.func103 ?_
 refine AWP.seq ?_
 refine ns ?_
 refine AWP.seq ?_
 refine AWP.seq ?_
 obtain ⟨r9, hr9, hF⟩ := bind_some hF
 refine ns ?_
 refine e3 ?_
 refine st ?_
 refine cm (Zj.weak (rn []) (Zku s _ hr9) rfl (WS.mk (tc Zc) Zb)) ?_
 refine st ?_
 refine AWP.seq ?_
 refine ns ?_
 refine nw ?_
 refine Zi hF (fun Zdr hF => ?_) (fun Zdr hF => ?_)
 ·refine ns ?_
  refine AWP.weak (rn []) ?_ (Zi5 r9.1 _ hF)
  exact (WS.mk (tc Zc) Zb)
 ·refine nw ?_
  refine AWP.weak (rn []) ?_ (Zi5 s _ hF)
  exact (WS.mk (tc Zc) Zb)

def Za9 (s : ByteArray) : Option (Bool) :=
 Ze0 s >>= fun r4 =>
 if r4.2.2 = true then
 Zdi r4.1 >>= fun r6 =>
 some (r6 == 1)
 else
 Zdi s >>= fun r7 =>
 some ((r7 == 1) && (!(s.toList == (ByteArray.mk #[102, 111, 114, 97, 108, 108]).toList)))
def Za9.M (s : ByteArray) (r : Bool) : Prop :=
 Zj Tryz.prog 68 [.c none (.v (.string s))] [] (fun d b => d = .c none (.v (.bool r)) ∧ b = [])
theorem ZfH (s : ByteArray) (r : Bool) (hF : Za9 s = some r) : Za9.M s r := by
 unfold Za9 at hF
 unfold Za9.M
 refine en Tryz.func68 ?_
 refine AWP.seq ?_
 refine ns ?_
 refine AWP.seq ?_
 refine AWP.seq ?_
 obtain ⟨r4, hr4, hF⟩ := bind_some hF
 refine ns ?_
 refine e3 ?_
 refine st ?_
 refine cm (Zj.weak (rn []) (Zku s _ hr4) rfl (WS.mk (tc Zc) Zb)) ?_
 refine st ?_
 refine AWP.seq ?_
 refine ns ?_
 refine nw ?_
 refine Zi hF (fun hc5 hF => ?_) (fun hc5 hF => ?_)
 ·refine AWP.seq ?_
  obtain ⟨r6, hr6, hF⟩ := bind_some hF
  refine ns ?_
  refine e3 ?_
  refine st ?_
  refine cm (Zj.weak (rn []) (ZhR r4.1 _ hr6) rfl (WS.mk (tc Zc) Zb)) ?_
  refine st ?_
  obtain rfl := Zg hF
  refine ns ?_
  refine Exists.intro [] ?_
  refine st ?_
  exact wx (WS.mk (tc Zc) Zb)
 ·refine nw ?_
  refine AWP.seq ?_
  obtain ⟨r7, hr7, hF⟩ := bind_some hF
  refine AWP.cutN (fun T => ∃ r, WS r T ⟨[(2, .c none (.v (.bool ((r7 == 1) && (!(s.toList == (ByteArray.mk #[102, 111, 114, 97, 108, 108]).toList))))))], []⟩) ?_ (fun T hw => ?_)
  ·refine ns ?_
   refine e3 ?_
   refine st ?_
   refine cm (Zj.weak (rn []) (ZhR s _ hr7) rfl (WS.mk (tc Zc) Zb)) ?_
   refine st ?_
   refine Zm true (fun hc8 => ?_) (fun hc8 => ?_)
   ·(conv => whnf)
    refine st ?_
    exact wx (WS.mk (Zd (Zr (web hc8)) Zc) Zb)
   ·(conv => whnf)
    refine st ?_
    exact wx (WS.mk (Zd (Zr (web hc8)) Zc) Zb)
  obtain ⟨r0, hw⟩ := hw
  (conv => whnf)
  refine AWP.weak r0 hw ?_
  obtain rfl := Zg hF
  refine ns ?_
  refine Exists.intro [] ?_
  refine st ?_
  exact wx (WS.mk (tc Zc) Zb)

def ZdL (t : Za) (ZlO : Bool) : Option (Bool) :=
 if ZlO = true then
 Za9 t.fName >>= fun r21 =>
 some r21
 else
 if (t.fOp == 2) = true then
 Zem t.fName >>= fun r23 =>
 (if r23 = true then some true else Zen t.fName >>= fun r24 =>
 some r24) >>= fun c25 =>
 some c25
 else
 some (t.fOp == 3)
def ZdL.M (t : Za) (ZlO : Bool) (r : Bool) : Prop :=
 AWP Tryz.prog 60 (Code.sub (Zq Tryz.f73) [1, 1, 1, 1, 0, 1, 0, 1]) (Code.cont Tryz.prog 60 (Zq Tryz.f73) [1, 1, 1, 1, 0, 1, 0, 1] (ZbV tab Tryz.f73.results (ZbX (.c none (.v (.bool r))) []))) ⟨[(1, .ptr 1 0), (40, .c none (.v (.int .i64 t.fOp))), (41, .c none (.v (.bool ZlO)))], [(1, [(none, .v (.int .i64 t.fOp)), (none, .v (.string t.fName)), (none, .sl (t.fBound.fArgs.map Zk.cells)), (none, .sl (t.fKids.map Za.cells))])]⟩
theorem ZjU (t : Za) (ZlO : Bool) (r : Bool) (hF : ZdL t ZlO = some r) : ZdL.M t ZlO r := by
 unfold ZdL at hF
 unfold ZdL.M
 refine nw ?_
 refine Zi hF (fun ZEb hF => ?_) (fun ZEb hF => ?_)
 ·refine AWP.seq ?_
  obtain ⟨r21, ZCP, hF⟩ := bind_some hF
  refine ns ?_
  refine e3 ?_
  refine st ?_
  refine cm (Zj.weak (rn []) (ZfH t.fName _ ZCP) rfl (WS.mk (tc Zc) Zb)) ?_
  refine st ?_
  obtain rfl := Zg hF
  refine ns ?_
  refine Exists.intro [] ?_
  refine st ?_
  exact wx (WS.mk (tc Zc) Zb)
 ·refine AWP.seq ?_
  refine ns ?_
  refine nw ?_
  refine Zi hF (fun Zs4 hF => ?_) (fun Zs4 hF => ?_)
  ·refine AWP.seq ?_
   obtain ⟨r23, ZyW, hF⟩ := bind_some hF
   obtain ⟨c25, Zjq, hF⟩ := bind_some hF
   refine AWP.cutN (fun T => ∃ r, WS r T ⟨[(2, .c none (.v (.bool c25)))], []⟩) ?_ (fun T hw => ?_)
   ·refine ns ?_
    refine e3 ?_
    refine st ?_
    refine cm (Zj.weak (rn []) (Zpt t.fName _ ZyW) rfl (WS.mk (tc Zc) Zb)) ?_
    refine st ?_
    refine Zm false (fun Zlc => ?_) (fun Zlc => ?_)
    ·have Zjq := ift Zlc Zjq
     (conv => whnf)
     obtain rfl := Zg Zjq
     refine st ?_
     exact wx (WS.mk (Zd (Zr (web Zlc)) Zc) Zb)
    ·have Zjq := ife Zlc Zjq
     obtain ⟨r24, ZDD, Zjq⟩ := bind_some Zjq
     (conv => whnf)
     refine st ?_
     refine e3 ?_
     refine st ?_
     refine cm (Zj.weak (rn []) (ZpI t.fName _ ZDD) rfl (WS.mk (tc Zc) Zb)) ?_
     refine st ?_
     obtain rfl := Zg Zjq
     refine st ?_
     exact wx (WS.mk (Zd (Zr (web Zlc)) Zc) Zb)
   obtain ⟨r0, hw⟩ := hw
   (conv => whnf)
   refine AWP.weak r0 hw ?_
   obtain rfl := Zg hF
   refine ns ?_
   refine Exists.intro [] ?_
   refine st ?_
   exact wx (WS.mk (tc Zc) Zb)
  ·refine nw ?_
   refine AWP.seq ?_
   refine ns ?_
   obtain rfl := Zg hF
   refine ns ?_
   refine Exists.intro [] ?_
   refine st ?_
   exact wx (WS.mk (tc Zc) Zb)

mutual
def Zb1 (t : Za) : Option (Bool) :=
 if (((t.fOp != 4) && (decide (((t.fBound.fArgs.length : Nat) : Int) > 0))) || ((t.fOp == 3) && (!(t.fName.toList == (ByteArray.mk #[]).toList)))) = true then
 some false
 else
 ZeN (ZhV (ZhV ([] : List (Int × Int)) 3 2) 4 1) 0 t.fOp >>= fun r9 =>
 (if (((t.fKids.length : Nat) : Int) != r9.1) = true then some true else ZF t.fKids >>= fun r15 =>
 some r15) >>= fun c16 =>
 if c16 = true then
 some false
 else
 if (t.fOp == 1) = true then
 ZdL t (t.fOp == 1)
 else
 ZdL t (t.fOp == 4)
 partial_fixpoint
def ZF (s : (List Za)) : Option (Bool) :=
 ZX s >>= fun r1 =>
 some (decide (r1 ≥ 0))
 partial_fixpoint
def ZX (s : (List Za)) : Option (Int) :=
 Zz s 0 s
 partial_fixpoint
def Zz (s : (List Za)) (x_8 : Nat) (ZbB : (List Za)) : Option (Int) :=
 (match ZbB with
 | x13 :: ZrS =>
 Zdo x13 >>= fun r16 =>
 if r16 = true then
 some ((x_8 : Nat) : Int)
 else
 Zz s (x_8 + 1) ZrS
 | [] =>
 some (-1))
 partial_fixpoint
def Zdo (k : Za) : Option (Bool) :=
 Zb1 k >>= fun r1 =>
 some (!r1)
 partial_fixpoint
end
def Zb1.M (t : Za) (r : Bool) : Prop :=
 Zj Tryz.prog 73 [.agg [.v (.int .i64 t.fOp), .v (.string t.fName), .sl (t.fBound.fArgs.map Zk.cells), .sl (t.fKids.map Za.cells)]] [] (fun d b => d = .c none (.v (.bool r)) ∧ b = [])
def ZF.M (s : (List Za)) (r : Bool) : Prop :=
 Zj Tryz.prog 79 [.c none (.sl (s.map Za.cells)), .c none (.v (.func (.func 101) #[] #[]))] [] (fun d b => d = .c none (.v (.bool r)) ∧ b = [])
def ZX.M (s : (List Za)) (r : Int) : Prop :=
 Zj Tryz.prog 104 [.c none (.sl (s.map Za.cells)), .c none (.v (.func (.func 101) #[] #[]))] [] (fun d b => d = .c none (.v (.int .i64 r)) ∧ b = [])
def Zz.M (s : (List Za)) (x_8 : Nat) (ZbB : (List Za)) (r : Int) : Prop :=
 ∀ Zeh : List Za, s = Zeh ++ ZbB → x_8 = Zeh.length → s.length ≤ maxLen → AWL Tryz.prog 19 (Code.sub (Zq Tryz.f104) [1, 0, 1, 0, 0]) (Code.cont Tryz.prog 19 (Zq Tryz.f104) [1, 0, 1, 0] (ZbV tab Tryz.f104.results (ZbX (.c none (.v (.int .i64 r))) []))) ⟨[(0, .c none (.sl (s.map Za.cells))), (1, .c none (.v (.func (.func 101) #[] #[]))), (7, .c none (.v (.int .i64 ((s.length : Nat) : Int)))), (8, .c none (.v (.int .i64 ((x_8 : Nat) : Int))))], []⟩
def Zdo.M (k : Za) (r : Bool) : Prop :=
 Zj Tryz.prog 101 [.agg [.v (.int .i64 k.fOp), .v (.string k.fName), .sl (k.fBound.fArgs.map Zk.cells), .sl (k.fKids.map Za.cells)]] [] (fun d b => d = .c none (.v (.bool r)) ∧ b = [])
theorem Zff : (∀ (t : Za), ∀ r, Zb1 t = some r → Zb1.M t r) ∧ (∀ (s : (List Za)), ∀ r, ZF s = some r → ZF.M s r) ∧ (∀ (s : (List Za)), ∀ r, ZX s = some r → ZX.M s r) ∧ (∀ (s : (List Za)) (x_8 : Nat) (ZbB : (List Za)), ∀ r, Zz s x_8 ZbB = some r → Zz.M s x_8 ZbB r) ∧ (∀ (k : Za), ∀ r, Zdo k = some r → Zdo.M k r) := by
 refine Zb1.mutual_partial_correctness Zb1.M ZF.M ZX.M Zz.M Zdo.M ?_ ?_ ?_ ?_ ?_
 ·intro slices_ContainsFunc_Type_types_formed_1' Zft t r hF
  unfold Zb1.M
  refine en Tryz.func73 ?_
  refine AWP.seq ?_
  refine ns ?_
  refine AWP.seq ?_
  refine AWP.seq ?_
  refine AWP.cutN (fun T => ∃ r, WS r T ⟨[(1, .ptr 1 0), (23, .c none (.v (.bool (((t.fOp != 4) && (decide (((t.fBound.fArgs.length : Nat) : Int) > 0))) || ((t.fOp == 3) && (!(t.fName.toList == (ByteArray.mk #[]).toList)))))))], [(1, [(none, .v (.int .i64 t.fOp)), (none, .v (.string t.fName)), (none, .sl (t.fBound.fArgs.map Zk.cells)), (none, .sl (t.fKids.map Za.cells))])]⟩) ?_ (fun T hw => ?_)
  ·refine ns ?_
   refine Zm true (fun hc4 => ?_) (fun hc4 => ?_)
   ·(conv => whnf)
    refine st ?_
    intro hlen3
    (try rw [List.length_map] at hlen3)
    (try rw [List.length_map])
    refine st ?_
    refine Zm false (fun hc5 => ?_) (fun hc5 => ?_)
    ·(conv => whnf)
     refine st ?_
     exact wx (WS.mk (tp (Zd (Zr (web (And.intro hc4 hc5))) Zc)) (Zf rfl (cc (cc (cc (cc Zh)))) Zb))
    ·(conv => whnf)
     refine st ?_
     refine Zm true (fun hc6 => ?_) (fun hc6 => ?_)
     ·(conv => whnf)
      refine st ?_
      exact wx (WS.mk (tp (Zd (Zr (web (And.intro hc4 (And.intro hc5 hc6)))) Zc)) (Zf rfl (cc (cc (cc (cc Zh)))) Zb))
     ·(conv => whnf)
      refine st ?_
      exact wx (WS.mk (tp (Zd (Zr (web (And.intro hc4 (And.intro hc5 hc6)))) Zc)) (Zf rfl (cc (cc (cc (cc Zh)))) Zb))
   ·(conv => whnf)
    refine st ?_
    refine Zm true (fun hc7 => ?_) (fun hc7 => ?_)
    ·(conv => whnf)
     refine st ?_
     exact wx (WS.mk (tp (Zd (Zr (web (And.intro hc4 hc7))) Zc)) (Zf rfl (cc (cc (cc (cc Zh)))) Zb))
    ·(conv => whnf)
     refine st ?_
     exact wx (WS.mk (tp (Zd (Zr (web (And.intro hc4 hc7))) Zc)) (Zf rfl (cc (cc (cc (cc Zh)))) Zb))
  obtain ⟨r0, hw⟩ := hw
  (conv => whnf)
  refine AWP.weak r0 hw ?_
  refine nw ?_
  refine Zi hF (fun hc8 hF => ?_) (fun hc8 hF => ?_)
  ·refine AWP.seq ?_
   refine ns ?_
   obtain rfl := Zg hF
   refine ns ?_
   refine Exists.intro [] ?_
   refine st ?_
   exact wx (WS.mk (tc Zc) Zb)
  ·refine nw ?_
   refine AWP.seq ?_
   obtain ⟨r9, hr9, hF⟩ := bind_some hF
   refine ns ?_
   refine Zo9 (m := ([] : List (Int × Int))) (k := 3) (v := 2) ZmE (ev := Zcu) (lc Zo) ?_
   refine st ?_
   refine Zo9 (m := (ZhV ([] : List (Int × Int)) 3 2)) (k := 4) (v := 1) ZmE (ev := Zcu) (lc Zo) ?_
   refine st ?_
   refine Zhy (m := (ZhV (ZhV ([] : List (Int × Int)) 3 2) 4 1)) (k := t.fOp) ZmE (ev := Zcu) hr9 rfl (fun x => Zna x) rfl rfl (lc Zo) ?_
   refine st ?_
   refine AWP.seq ?_
   refine AWP.seq ?_
   obtain ⟨c16, Zgv, hF⟩ := bind_some hF
   refine AWP.cutN (fun T => ∃ r, WS r T ⟨[(1, .ptr 1 0), (38, .c none (.v (.bool c16)))], [(1, [(none, .v (.int .i64 t.fOp)), (none, .v (.string t.fName)), (none, .sl (t.fBound.fArgs.map Zk.cells)), (none, .sl (t.fKids.map Za.cells))])]⟩) ?_ (fun T hw => ?_)
   ·refine ns ?_
    intro hlen14
    (try rw [List.length_map] at hlen14)
    (try rw [List.length_map])
    refine st ?_
    refine Zm false (fun ZiJ => ?_) (fun ZiJ => ?_)
    ·have Zgv := ift ZiJ Zgv
     (conv => whnf)
     obtain rfl := Zg Zgv
     refine st ?_
     exact wx (WS.mk (tp (Zd (Zr (web ZiJ)) Zc)) (Zf rfl (cc (cc (cc (cc Zh)))) Zb))
    ·have Zgv := ife ZiJ Zgv
     obtain ⟨r15, ZvH, Zgv⟩ := bind_some Zgv
     (conv => whnf)
     refine st ?_
     refine e3 ?_
     refine st ?_
     refine cm (Zj.weak (rn []) (Zft t.fKids _ ZvH) rfl (WS.mk (tc (tc Zc)) Zb)) ?_
     refine st ?_
     obtain rfl := Zg Zgv
     refine st ?_
     exact wx (WS.mk (tp (Zd (Zr (web ZiJ)) Zc)) (Zf rfl (cc (cc (cc (cc Zh)))) Zb))
   obtain ⟨r0, hw⟩ := hw
   (conv => whnf)
   refine AWP.weak r0 hw ?_
   refine nw ?_
   refine Zi hF (fun Ztm hF => ?_) (fun Ztm hF => ?_)
   ·refine AWP.seq ?_
    refine ns ?_
    obtain rfl := Zg hF
    refine ns ?_
    refine Exists.intro [] ?_
    refine st ?_
    exact wx (WS.mk (tc Zc) Zb)
   ·refine nw ?_
    refine AWP.seq ?_
    refine AWP.seq ?_
    refine ns ?_
    refine AWP.block ?_
    refine AWP.seq ?_
    refine AWP.seq ?_
    refine ns ?_
    refine nw ?_
    refine Zi hF (fun Zty hF => ?_) (fun Zty hF => ?_)
    ·refine nw ?_
     refine AWP.weak (rn []) ?_ (ZjU t (t.fOp == 1) _ hF)
     exact (WS.mk (tp (tc (tc Zc))) (Zf rfl (cc (cc (cc (cc Zh)))) Zb))
    ·refine ns ?_
     refine AWP.weak (rn []) ?_ (ZjU t (t.fOp == 4) _ hF)
     exact (WS.mk (tp (tc (tc Zc))) (Zf rfl (cc (cc (cc (cc Zh)))) Zb))
 ·intro slices_IndexFunc_Type_types_formed_1' ZfP s r hF
  unfold ZF.M
  refine en Tryz.func79 ?_
  refine AWP.seq ?_
  refine ns ?_
  refine AWP.seq ?_
  obtain ⟨r1, hr1, hF⟩ := bind_some hF
  refine ns ?_
  refine e3 ?_
  refine st ?_
  refine cm (Zj.weak (rn []) (ZfP s _ hr1) rfl (WS.mk (tc (tc Zc)) Zb)) ?_
  refine st ?_
  obtain rfl := Zg hF
  refine ns ?_
  refine Exists.intro [] ?_
  refine st ?_
  exact wx (WS.mk (tc Zc) Zb)
 ·intro slices_IndexFunc_Type_types_formed_1_l1' Zco s r hF
  unfold ZX.M
  refine en Tryz.func104 ?_
  refine AWP.seq ?_
  refine ns ?_
  refine AWP.seq ?_
  refine AWP.seq ?_
  refine ns ?_
  intro hlen1
  (try rw [List.length_map] at hlen1)
  (try rw [List.length_map])
  refine st ?_
  refine AWP.block ?_
  refine AWP.loop ?_
  refine AWL.weak (rn []) ?_ (Zco s 0 s _ hF ([]) rfl rfl hlen1)
  exact (WS.mk (tc (tc (tc (tc Zc)))) Zb)
 ·intro slices_IndexFunc_Type_types_formed_1_l1' types_formed_1' Zco Zor s x_8 ZbB r hF
  unfold Zz.M
  intro Zeh ZjS ZjF hlen1
  refine AWL.step ?_
  refine AWP.seq ?_
  refine ns ?_
  refine AWP.seq ?_
  refine nw ?_
  refine ZN ZjS ZjF (fun x13 ZrS ZqZ ZxV ZyT => ?_) (fun ZqZ => ?_)
  ·subst ZqZ
   refine nw ?_
   refine AWP.seq ?_
   refine AWP.block ?_
   refine AWP.seq ?_
   refine ns ?_
   refine AWP.seq ?_
   obtain ⟨r16, ZvF, hF⟩ := bind_some hF
   refine nn ?_
   refine sr (Zab (f := Za.cells) (Za.cells_eq x13) ZxV) ?_
   refine st ?_
   refine e3 ?_
   refine st ?_
   refine cm (Zj.weak (rn []) (Zor x13 _ ZvF) rfl (WS.mk (Zd (Zt (lc (lc (lc (lc Zo))))) Zc) Zb)) ?_
   refine st ?_
   refine nw ?_
   refine Zi hF (fun ZiJ hF => ?_) (fun ZiJ hF => ?_)
   ·refine AWP.seq ?_
    refine ns ?_
    obtain rfl := Zg hF
    refine ns ?_
    refine Exists.intro [] ?_
    refine st ?_
    exact wx (WS.mk (tc Zc) Zb)
   ·refine nw ?_
    refine ns ?_
    refine AWL.weak (rn []) ?_ (Zco s (x_8 + 1) ZrS _ hF (Zeh ++ [x13]) (by rw [ZjS]; simp) (by rw [ZjF]; simp) hlen1)
    exact (WS.mk (tc (tc (tc (Zd (Zr (Zdf (ZV hlen1 ZyT))) Zc)))) Zb)
  ·subst ZqZ
   refine nw ?_
   refine AWP.seq ?_
   refine ns ?_
   obtain rfl := Zg hF
   refine ns ?_
   refine Exists.intro [] ?_
   refine st ?_
   exact wx (WS.mk (tc Zc) Zb)
 ·intro types_formed' Zp9 k r hF
  unfold Zdo.M
  refine en Tryz.func101 ?_
  refine AWP.seq ?_
  refine ns ?_
  refine AWP.seq ?_
  obtain ⟨r1, hr1, hF⟩ := bind_some hF
  refine ns ?_
  refine e3 ?_
  refine st ?_
  refine cm (Zj.weak (rn []) (Zp9 k _ hr1) rfl (WS.mk (Zd (Zt (lc (lc (lc (lc Zo))))) Zc) Zb)) ?_
  refine st ?_
  obtain rfl := Zg hF
  refine ns ?_
  refine Exists.intro [] ?_
  refine st ?_
  exact wx (WS.mk (tc Zc) Zb)
theorem Zqd : ∀ (t : Za), ∀ r, Zb1 t = some r → Zb1.M t r := Zff.1
theorem slices_ContainsFunc_Type_types_formed_1_ok : ∀ (s : (List Za)), ∀ r, ZF s = some r → ZF.M s r := Zff.2.1
theorem slices_IndexFunc_Type_types_formed_1_ok : ∀ (s : (List Za)), ∀ r, ZX s = some r → ZX.M s r := Zff.2.2.1
theorem slices_IndexFunc_Type_types_formed_1_l1_ok : ∀ (s : (List Za)) (x_8 : Nat) (ZbB : (List Za)), ∀ r, Zz s x_8 ZbB = some r → Zz.M s x_8 ZbB r := Zff.2.2.2.1
theorem types_formed_1_ok : ∀ (k : Za), ∀ r, Zdo k = some r → Zdo.M k r := Zff.2.2.2.2

mutual
def Zbt (k : Zk) : Option (Int) :=
 Za5 0 k 0 k.fArgs
 partial_fixpoint
def Za5 (n_3 : Int) (k : Zk) (x_9 : Nat) (ZaW : (List Zk)) : Option (Int) :=
 (match ZaW with
 | x11 :: ZlC =>
 Zbt x11 >>= fun r14 =>
 Za5 (if r14 > n_3 then r14 else n_3) k (x_9 + 1) ZlC
 | [] =>
 some (IntKind.i64.wrap (n_3 + 1)))
 partial_fixpoint
end
def Zbt.M (k : Zk) (r : Int) : Prop :=
 Zj Tryz.prog 78 [.agg [.sl (k.fArgs.map Zk.cells)]] [] (fun d b => d = .c none (.v (.int .i64 r)) ∧ b = [])
def Za5.M (n_3 : Int) (k : Zk) (x_9 : Nat) (ZaW : (List Zk)) (r : Int) : Prop :=
 ∀ Zdw : List Zk, k.fArgs = Zdw ++ ZaW → x_9 = Zdw.length → k.fArgs.length ≤ maxLen → AWL Tryz.prog 20 (Code.sub (Zq Tryz.f78) [1, 1, 0, 1, 0, 0]) (Code.cont Tryz.prog 20 (Zq Tryz.f78) [1, 1, 0, 1, 0] (ZbV tab Tryz.f78.results (ZbX (.c none (.v (.int .i64 r))) []))) ⟨[(3, .c none (.v (.int .i64 n_3))), (7, .c none (.sl (k.fArgs.map Zk.cells))), (8, .c none (.v (.int .i64 ((k.fArgs.length : Nat) : Int)))), (9, .c none (.v (.int .i64 ((x_9 : Nat) : Int))))], []⟩
theorem Zi2 : (∀ (k : Zk), ∀ r, Zbt k = some r → Zbt.M k r) ∧ (∀ (n_3 : Int) (k : Zk) (x_9 : Nat) (ZaW : (List Zk)), ∀ r, Za5 n_3 k x_9 ZaW = some r → Za5.M n_3 k x_9 ZaW r) := by
 refine Zbt.mutual_partial_correctness Zbt.M Za5.M ?_ ?_
 ·intro types_kindDepth_l1' ZfF k r hF
  unfold Zbt.M
  refine en Tryz.func78 ?_
  refine AWP.seq ?_
  refine ns ?_
  refine AWP.seq ?_
  refine ns ?_
  refine AWP.seq ?_
  refine AWP.seq ?_
  refine ns ?_
  intro hlen1
  (try rw [List.length_map] at hlen1)
  (try rw [List.length_map])
  refine st ?_
  refine AWP.block ?_
  refine AWP.loop ?_
  refine AWL.weak (rn []) ?_ (ZfF 0 k 0 k.fArgs _ hF ([]) rfl rfl hlen1)
  exact (WS.mk (tc (tc (tc (tc Zc)))) Zb)
 ·intro types_kindDepth' types_kindDepth_l1' Zn1 ZfF n_3 k x_9 ZaW r hF
  unfold Za5.M
  intro Zdw Zho Zhr hlen1
  refine AWL.step ?_
  refine AWP.seq ?_
  refine ns ?_
  refine AWP.seq ?_
  refine nw ?_
  refine ZN Zho Zhr (fun x11 ZlC Zlr Ztt Ztc => ?_) (fun Zlr => ?_)
  ·subst Zlr
   refine nw ?_
   refine AWP.seq ?_
   refine AWP.block ?_
   refine AWP.seq ?_
   refine nn ?_
   refine sr (Zab (f := Zk.cells) (Zk.cells_eq x11) Ztt) ?_
   refine st ?_
   obtain ⟨r14, ZqL, hF⟩ := bind_some hF
   refine ns ?_
   refine e3 ?_
   refine st ?_
   refine cm (Zj.weak (rn []) (Zn1 x11 _ ZqL) rfl (WS.mk (Zd (Zt (lc Zo)) Zc) Zb)) ?_
   refine st ?_
   refine ns ?_
   refine AWL.weak (rn []) ?_ (ZfF (if r14 > n_3 then r14 else n_3) k (x_9 + 1) ZlC _ hF (Zdw ++ [x11]) (by rw [Zho]; simp) (by rw [Zhr]; simp) hlen1)
   exact (WS.mk (tc (tc (tc (Zd (Zr (Zdf (ZV hlen1 Ztc))) Zc)))) Zb)
  ·subst Zlr
   refine nw ?_
   refine AWP.seq ?_
   refine ns ?_
   obtain rfl := Zg hF
   refine ns ?_
   refine Exists.intro [] ?_
   refine st ?_
   exact wx (WS.mk (tc Zc) Zb)
theorem Zop : ∀ (k : Zk), ∀ r, Zbt k = some r → Zbt.M k r := Zi2.1
theorem types_kindDepth_l1_ok : ∀ (n_3 : Int) (k : Zk) (x_9 : Nat) (ZaW : (List Zk)), ∀ r, Za5 n_3 k x_9 ZaW = some r → Za5.M n_3 k x_9 ZaW r := Zi2.2

mutual
def ZE (t : Za) : Option (Int) :=
 Zbt t.fBound >>= fun r1 =>
 ZI r1 t 0 t.fKids
 partial_fixpoint
def ZI (n_5 : Int) (t : Za) (Zfw : Nat) (Zce : (List Za)) : Option (Int) :=
 (match Zce with
 | x12 :: Zwa =>
 ZE x12 >>= fun r15 =>
 ZI (if r15 > n_5 then r15 else n_5) t (Zfw + 1) Zwa
 | [] =>
 some n_5)
 partial_fixpoint
end
def ZE.M (t : Za) (r : Int) : Prop :=
 Zj Tryz.prog 75 [.agg [.v (.int .i64 t.fOp), .v (.string t.fName), .sl (t.fBound.fArgs.map Zk.cells), .sl (t.fKids.map Za.cells)], .c none (.v (.func (.func 78) #[] #[]))] [] (fun d b => d = .c none (.v (.int .i64 r)) ∧ b = [])
def ZI.M (n_5 : Int) (t : Za) (Zfw : Nat) (Zce : (List Za)) (r : Int) : Prop :=
 ∀ ZeP : List Za, t.fKids = ZeP ++ Zce → Zfw = ZeP.length → t.fKids.length ≤ maxLen → AWL Tryz.prog 26 (Code.sub (Zq Tryz.f75) [1, 1, 0, 1, 0, 0]) (Code.cont Tryz.prog 26 (Zq Tryz.f75) [1, 1, 0, 1, 0] (ZbV tab Tryz.f75.results (ZbX (.c none (.v (.int .i64 r))) []))) ⟨[(1, .c none (.v (.func (.func 78) #[] #[]))), (5, .c none (.v (.int .i64 n_5))), (13, .c none (.sl (t.fKids.map Za.cells))), (14, .c none (.v (.int .i64 ((t.fKids.length : Nat) : Int)))), (15, .c none (.v (.int .i64 ((Zfw : Nat) : Int))))], []⟩
theorem Zev : (∀ (t : Za), ∀ r, ZE t = some r → ZE.M t r) ∧ (∀ (n_5 : Int) (t : Za) (Zfw : Nat) (Zce : (List Za)), ∀ r, ZI n_5 t Zfw Zce = some r → ZI.M n_5 t Zfw Zce r) := by
 refine ZE.mutual_partial_correctness ZE.M ZI.M ?_ ?_
 ·intro types_greatest_types_kindDepth_l1' Zc7 t r hF
  unfold ZE.M
  refine en Tryz.func75 ?_
  refine AWP.seq ?_
  refine ns ?_
  refine AWP.seq ?_
  obtain ⟨r1, hr1, hF⟩ := bind_some hF
  refine ns ?_
  refine e3 ?_
  refine st ?_
  refine cm (Zj.weak (rn []) (Zop t.fBound _ hr1) rfl (WS.mk (Zd (Zt (lc Zo)) Zc) Zb)) ?_
  refine st ?_
  refine AWP.seq ?_
  refine AWP.seq ?_
  refine ns ?_
  intro hlen2
  (try rw [List.length_map] at hlen2)
  (try rw [List.length_map])
  refine st ?_
  refine AWP.block ?_
  refine AWP.loop ?_
  refine AWL.weak (rn []) ?_ (Zc7 r1 t 0 t.fKids _ hF ([]) rfl rfl hlen2)
  exact (WS.mk (tc (tc (tc (tc (tc Zc))))) Zb)
 ·intro types_greatest_types_kindDepth' types_greatest_types_kindDepth_l1' Zhl Zc7 n_5 t Zfw Zce r hF
  unfold ZI.M
  intro ZeP Zkb Zj6 hlen2
  refine AWL.step ?_
  refine AWP.seq ?_
  refine ns ?_
  refine AWP.seq ?_
  refine nw ?_
  refine ZN Zkb Zj6 (fun x12 Zwa Zvs ZC1 ZDu => ?_) (fun Zvs => ?_)
  ·subst Zvs
   refine nw ?_
   refine AWP.seq ?_
   refine AWP.block ?_
   refine AWP.seq ?_
   refine nn ?_
   refine sr (Zab (f := Za.cells) (Za.cells_eq x12) ZC1) ?_
   refine st ?_
   obtain ⟨r15, ZvH, hF⟩ := bind_some hF
   refine ns ?_
   refine e3 ?_
   refine st ?_
   refine cm (Zj.weak (rn []) (Zhl x12 _ ZvH) rfl (WS.mk (Zd (Zt (lc (lc (lc (lc Zo))))) (tc Zc)) Zb)) ?_
   refine st ?_
   refine ns ?_
   refine AWL.weak (rn []) ?_ (Zc7 (if r15 > n_5 then r15 else n_5) t (Zfw + 1) Zwa _ hF (ZeP ++ [x12]) (by rw [Zkb]; simp) (by rw [Zj6]; simp) hlen2)
   exact (WS.mk (tc (tc (tc (tc (Zd (Zr (Zdf (ZV hlen2 ZDu))) Zc))))) Zb)
  ·subst Zvs
   refine nw ?_
   refine AWP.seq ?_
   refine ns ?_
   obtain rfl := Zg hF
   refine ns ?_
   refine Exists.intro [] ?_
   refine st ?_
   exact wx (WS.mk (tc Zc) Zb)
theorem Zhk : ∀ (t : Za), ∀ r, ZE t = some r → ZE.M t r := Zev.1
theorem types_greatest_types_kindDepth_l1_ok : ∀ (n_5 : Int) (t : Za) (Zfw : Nat) (Zce : (List Za)), ∀ r, ZI n_5 t Zfw Zce = some r → ZI.M n_5 t Zfw Zce r := Zev.2

mutual
def ZbQ (k : Zk) : Option (Int) :=
 Zbs 1 k 0 k.fArgs
 partial_fixpoint
def Zbs (n_3 : Int) (k : Zk) (x_9 : Nat) (ZaW : (List Zk)) : Option (Int) :=
 (match ZaW with
 | x11 :: ZlC =>
 ZbQ x11 >>= fun r14 =>
 Zbs (IntKind.i64.wrap (n_3 + r14)) k (x_9 + 1) ZlC
 | [] =>
 some n_3)
 partial_fixpoint
end
def ZbQ.M (k : Zk) (r : Int) : Prop :=
 Zj Tryz.prog 76 [.agg [.sl (k.fArgs.map Zk.cells)]] [] (fun d b => d = .c none (.v (.int .i64 r)) ∧ b = [])
def Zbs.M (n_3 : Int) (k : Zk) (x_9 : Nat) (ZaW : (List Zk)) (r : Int) : Prop :=
 ∀ Zdw : List Zk, k.fArgs = Zdw ++ ZaW → x_9 = Zdw.length → k.fArgs.length ≤ maxLen → AWL Tryz.prog 19 (Code.sub (Zq Tryz.f76) [1, 1, 0, 1, 0, 0]) (Code.cont Tryz.prog 19 (Zq Tryz.f76) [1, 1, 0, 1, 0] (ZbV tab Tryz.f76.results (ZbX (.c none (.v (.int .i64 r))) []))) ⟨[(3, .c none (.v (.int .i64 n_3))), (7, .c none (.sl (k.fArgs.map Zk.cells))), (8, .c none (.v (.int .i64 ((k.fArgs.length : Nat) : Int)))), (9, .c none (.v (.int .i64 ((x_9 : Nat) : Int))))], []⟩
theorem ZjR : (∀ (k : Zk), ∀ r, ZbQ k = some r → ZbQ.M k r) ∧ (∀ (n_3 : Int) (k : Zk) (x_9 : Nat) (ZaW : (List Zk)), ∀ r, Zbs n_3 k x_9 ZaW = some r → Zbs.M n_3 k x_9 ZaW r) := by
 refine ZbQ.mutual_partial_correctness ZbQ.M Zbs.M ?_ ?_
 ·intro types_kindSize_l1' ZfT k r hF
  unfold ZbQ.M
  refine en Tryz.func76 ?_
  refine AWP.seq ?_
  refine ns ?_
  refine AWP.seq ?_
  refine ns ?_
  refine AWP.seq ?_
  refine AWP.seq ?_
  refine ns ?_
  intro hlen1
  (try rw [List.length_map] at hlen1)
  (try rw [List.length_map])
  refine st ?_
  refine AWP.block ?_
  refine AWP.loop ?_
  refine AWL.weak (rn []) ?_ (ZfT 1 k 0 k.fArgs _ hF ([]) rfl rfl hlen1)
  exact (WS.mk (tc (tc (tc (tc Zc)))) Zb)
 ·intro types_kindSize' types_kindSize_l1' ZoJ ZfT n_3 k x_9 ZaW r hF
  unfold Zbs.M
  intro Zdw Zho Zhr hlen1
  refine AWL.step ?_
  refine AWP.seq ?_
  refine ns ?_
  refine AWP.seq ?_
  refine nw ?_
  refine ZN Zho Zhr (fun x11 ZlC Zlr Ztt Ztc => ?_) (fun Zlr => ?_)
  ·subst Zlr
   refine nw ?_
   refine AWP.seq ?_
   refine AWP.block ?_
   refine AWP.seq ?_
   refine nn ?_
   refine sr (Zab (f := Zk.cells) (Zk.cells_eq x11) Ztt) ?_
   refine st ?_
   obtain ⟨r14, ZqL, hF⟩ := bind_some hF
   refine ns ?_
   refine e3 ?_
   refine st ?_
   refine cm (Zj.weak (rn []) (ZoJ x11 _ ZqL) rfl (WS.mk (Zd (Zt (lc Zo)) Zc) Zb)) ?_
   refine st ?_
   refine ns ?_
   refine AWL.weak (rn []) ?_ (ZfT (IntKind.i64.wrap (n_3 + r14)) k (x_9 + 1) ZlC _ hF (Zdw ++ [x11]) (by rw [Zho]; simp) (by rw [Zhr]; simp) hlen1)
   exact (WS.mk (tc (tc (tc (Zd (Zr (Zdf (ZV hlen1 Ztc))) Zc)))) Zb)
  ·subst Zlr
   refine nw ?_
   refine AWP.seq ?_
   refine ns ?_
   obtain rfl := Zg hF
   refine ns ?_
   refine Exists.intro [] ?_
   refine st ?_
   exact wx (WS.mk (tc Zc) Zb)
theorem Zo4 : ∀ (k : Zk), ∀ r, ZbQ k = some r → ZbQ.M k r := ZjR.1
theorem types_kindSize_l1_ok : ∀ (n_3 : Int) (k : Zk) (x_9 : Nat) (ZaW : (List Zk)), ∀ r, Zbs n_3 k x_9 ZaW = some r → Zbs.M n_3 k x_9 ZaW r := ZjR.2

mutual
def ZG (t : Za) : Option (Int) :=
 ZbQ t.fBound >>= fun r1 =>
 ZL r1 t 0 t.fKids
 partial_fixpoint
def ZL (n_5 : Int) (t : Za) (Zfw : Nat) (Zce : (List Za)) : Option (Int) :=
 (match Zce with
 | x12 :: Zwa =>
 ZG x12 >>= fun r15 =>
 ZL (if r15 > n_5 then r15 else n_5) t (Zfw + 1) Zwa
 | [] =>
 some n_5)
 partial_fixpoint
end
def ZG.M (t : Za) (r : Int) : Prop :=
 Zj Tryz.prog 75 [.agg [.v (.int .i64 t.fOp), .v (.string t.fName), .sl (t.fBound.fArgs.map Zk.cells), .sl (t.fKids.map Za.cells)], .c none (.v (.func (.func 76) #[] #[]))] [] (fun d b => d = .c none (.v (.int .i64 r)) ∧ b = [])
def ZL.M (n_5 : Int) (t : Za) (Zfw : Nat) (Zce : (List Za)) (r : Int) : Prop :=
 ∀ ZeP : List Za, t.fKids = ZeP ++ Zce → Zfw = ZeP.length → t.fKids.length ≤ maxLen → AWL Tryz.prog 26 (Code.sub (Zq Tryz.f75) [1, 1, 0, 1, 0, 0]) (Code.cont Tryz.prog 26 (Zq Tryz.f75) [1, 1, 0, 1, 0] (ZbV tab Tryz.f75.results (ZbX (.c none (.v (.int .i64 r))) []))) ⟨[(1, .c none (.v (.func (.func 76) #[] #[]))), (5, .c none (.v (.int .i64 n_5))), (13, .c none (.sl (t.fKids.map Za.cells))), (14, .c none (.v (.int .i64 ((t.fKids.length : Nat) : Int)))), (15, .c none (.v (.int .i64 ((Zfw : Nat) : Int))))], []⟩
theorem ZeG : (∀ (t : Za), ∀ r, ZG t = some r → ZG.M t r) ∧ (∀ (n_5 : Int) (t : Za) (Zfw : Nat) (Zce : (List Za)), ∀ r, ZL n_5 t Zfw Zce = some r → ZL.M n_5 t Zfw Zce r) := by
 refine ZG.mutual_partial_correctness ZG.M ZL.M ?_ ?_
 ·intro types_greatest_types_kindSize_l1' Zdm t r hF
  unfold ZG.M
  refine en Tryz.func75 ?_
  refine AWP.seq ?_
  refine ns ?_
  refine AWP.seq ?_
  obtain ⟨r1, hr1, hF⟩ := bind_some hF
  refine ns ?_
  refine e3 ?_
  refine st ?_
  refine cm (Zj.weak (rn []) (Zo4 t.fBound _ hr1) rfl (WS.mk (Zd (Zt (lc Zo)) Zc) Zb)) ?_
  refine st ?_
  refine AWP.seq ?_
  refine AWP.seq ?_
  refine ns ?_
  intro hlen2
  (try rw [List.length_map] at hlen2)
  (try rw [List.length_map])
  refine st ?_
  refine AWP.block ?_
  refine AWP.loop ?_
  refine AWL.weak (rn []) ?_ (Zdm r1 t 0 t.fKids _ hF ([]) rfl rfl hlen2)
  exact (WS.mk (tc (tc (tc (tc (tc Zc))))) Zb)
 ·intro types_greatest_types_kindSize' types_greatest_types_kindSize_l1' Zhv Zdm n_5 t Zfw Zce r hF
  unfold ZL.M
  intro ZeP Zkb Zj6 hlen2
  refine AWL.step ?_
  refine AWP.seq ?_
  refine ns ?_
  refine AWP.seq ?_
  refine nw ?_
  refine ZN Zkb Zj6 (fun x12 Zwa Zvs ZC1 ZDu => ?_) (fun Zvs => ?_)
  ·subst Zvs
   refine nw ?_
   refine AWP.seq ?_
   refine AWP.block ?_
   refine AWP.seq ?_
   refine nn ?_
   refine sr (Zab (f := Za.cells) (Za.cells_eq x12) ZC1) ?_
   refine st ?_
   obtain ⟨r15, ZvH, hF⟩ := bind_some hF
   refine ns ?_
   refine e3 ?_
   refine st ?_
   refine cm (Zj.weak (rn []) (Zhv x12 _ ZvH) rfl (WS.mk (Zd (Zt (lc (lc (lc (lc Zo))))) (tc Zc)) Zb)) ?_
   refine st ?_
   refine ns ?_
   refine AWL.weak (rn []) ?_ (Zdm (if r15 > n_5 then r15 else n_5) t (Zfw + 1) Zwa _ hF (ZeP ++ [x12]) (by rw [Zkb]; simp) (by rw [Zj6]; simp) hlen2)
   exact (WS.mk (tc (tc (tc (tc (Zd (Zr (Zdf (ZV hlen2 ZDu))) Zc))))) Zb)
  ·subst Zvs
   refine nw ?_
   refine AWP.seq ?_
   refine ns ?_
   obtain rfl := Zg hF
   refine ns ?_
   refine Exists.intro [] ?_
   refine st ?_
   exact wx (WS.mk (tc Zc) Zb)
theorem ZhK : ∀ (t : Za), ∀ r, ZG t = some r → ZG.M t r := ZeG.1
theorem types_greatest_types_kindSize_l1_ok : ∀ (n_5 : Int) (t : Za) (Zfw : Nat) (Zce : (List Za)), ∀ r, ZL n_5 t Zfw Zce = some r → ZL.M n_5 t Zfw Zce r := ZeG.2

def Zcj (t : Za) : Option (Int) :=
 Zb1 t >>= fun r1 =>
 if (!r1) = true then
 some 1
 else
 ZcD t >>= fun r3 =>
 (if (decide (r3 > 20000)) = true then some true else ZG t >>= fun r4 =>
 some (decide (r4 > 20000))) >>= fun c5 =>
 if c5 = true then
 some 3
 else
 Zci t >>= fun r8 =>
 (if (decide (r8 > 100)) = true then some true else ZE t >>= fun r9 =>
 some (decide (r9 > 100))) >>= fun c10 =>
 if c10 = true then
 some 4
 else
 some 0
def Zcj.M (t : Za) (r : Int) : Prop :=
 Zj Tryz.prog 50 [.agg [.v (.int .i64 t.fOp), .v (.string t.fName), .sl (t.fBound.fArgs.map Zk.cells), .sl (t.fKids.map Za.cells)]] [] (fun d b => d = .c none (.v (.int .i64 r)) ∧ b = [])
theorem Zfb (t : Za) (r : Int) (hF : Zcj t = some r) : Zcj.M t r := by
 unfold Zcj at hF
 unfold Zcj.M
 refine en Tryz.func50 ?_
 refine AWP.seq ?_
 refine ns ?_
 refine AWP.seq ?_
 refine AWP.block ?_
 refine AWP.seq ?_
 obtain ⟨r1, hr1, hF⟩ := bind_some hF
 refine ns ?_
 refine e3 ?_
 refine st ?_
 refine cm (Zj.weak (rn []) (Zqd t _ hr1) rfl (WS.mk (Zd (Zt (lc (lc (lc (lc Zo))))) Zc) Zb)) ?_
 refine st ?_
 refine nw ?_
 refine Zi hF (fun hc2 hF => ?_) (fun hc2 hF => ?_)
 ·refine AWP.seq ?_
  refine ns ?_
  obtain rfl := Zg hF
  refine ns ?_
  refine Exists.intro [] ?_
  refine st ?_
  exact wx (WS.mk (tc Zc) Zb)
 ·refine AWP.seq ?_
  obtain ⟨r3, hr3, hF⟩ := bind_some hF
  obtain ⟨c5, hc5, hF⟩ := bind_some hF
  refine AWP.cutN (fun T => ∃ r, WS r T ⟨[(1, .ptr 1 0), (7, .c none (.v (.bool c5)))], [(1, [(none, .v (.int .i64 t.fOp)), (none, .v (.string t.fName)), (none, .sl (t.fBound.fArgs.map Zk.cells)), (none, .sl (t.fKids.map Za.cells))])]⟩) ?_ (fun T hw => ?_)
  ·refine ns ?_
   refine e3 ?_
   refine st ?_
   refine cm (Zj.weak (rn []) (ZnR t _ hr3) rfl (WS.mk (Zd (Zt (lc (lc (lc (lc Zo))))) Zc) Zb)) ?_
   refine st ?_
   refine Zm false (fun hc6 => ?_) (fun hc6 => ?_)
   ·have hc5 := ift hc6 hc5
    (conv => whnf)
    obtain rfl := Zg hc5
    refine st ?_
    exact wx (WS.mk (tp (Zd (Zr (web hc6)) Zc)) (Zf rfl (cc (cc (cc (cc Zh)))) Zb))
   ·have hc5 := ife hc6 hc5
    obtain ⟨r4, hr4, hc5⟩ := bind_some hc5
    (conv => whnf)
    refine st ?_
    refine e3 ?_
    refine st ?_
    refine cm (Zj.weak (rn []) (ZhK t _ hr4) rfl (WS.mk (Zd (Zt (lc (lc (lc (lc Zo))))) (tc Zc)) Zb)) ?_
    refine st ?_
    obtain rfl := Zg hc5
    refine st ?_
    exact wx (WS.mk (tp (Zd (Zr (web hc6)) Zc)) (Zf rfl (cc (cc (cc (cc Zh)))) Zb))
  obtain ⟨r0, hw⟩ := hw
  (conv => whnf)
  refine AWP.weak r0 hw ?_
  refine nw ?_
  refine Zi hF (fun hc7 hF => ?_) (fun hc7 hF => ?_)
  ·refine AWP.seq ?_
   refine ns ?_
   obtain rfl := Zg hF
   refine ns ?_
   refine Exists.intro [] ?_
   refine st ?_
   exact wx (WS.mk (tc Zc) Zb)
  ·refine AWP.seq ?_
   obtain ⟨r8, hr8, hF⟩ := bind_some hF
   obtain ⟨c10, Zdr, hF⟩ := bind_some hF
   refine AWP.cutN (fun T => ∃ r, WS r T ⟨[(16, .c none (.v (.bool c10)))], []⟩) ?_ (fun T hw => ?_)
   ·refine ns ?_
    refine e3 ?_
    refine st ?_
    refine cm (Zj.weak (rn []) (Zmv t _ hr8) rfl (WS.mk (Zd (Zt (lc (lc (lc (lc Zo))))) Zc) Zb)) ?_
    refine st ?_
    refine Zm false (fun ZcO => ?_) (fun ZcO => ?_)
    ·have Zdr := ift ZcO Zdr
     (conv => whnf)
     obtain rfl := Zg Zdr
     refine st ?_
     exact wx (WS.mk (Zd (Zr (web ZcO)) Zc) Zb)
    ·have Zdr := ife ZcO Zdr
     obtain ⟨r9, hr9, Zdr⟩ := bind_some Zdr
     (conv => whnf)
     refine st ?_
     refine e3 ?_
     refine st ?_
     refine cm (Zj.weak (rn []) (Zhk t _ hr9) rfl (WS.mk (Zd (Zt (lc (lc (lc (lc Zo))))) (tc Zc)) Zb)) ?_
     refine st ?_
     obtain rfl := Zg Zdr
     refine st ?_
     exact wx (WS.mk (Zd (Zr (web ZcO)) Zc) Zb)
   obtain ⟨r0, hw⟩ := hw
   (conv => whnf)
   refine AWP.weak r0 hw ?_
   refine nw ?_
   refine Zi hF (fun ZcH hF => ?_) (fun ZcH hF => ?_)
   ·refine AWP.seq ?_
    refine ns ?_
    obtain rfl := Zg hF
    refine ns ?_
    refine Exists.intro [] ?_
    refine st ?_
    exact wx (WS.mk (tc Zc) Zb)
   ·refine nw ?_
    refine AWP.seq ?_
    refine ns ?_
    obtain rfl := Zg hF
    refine ns ?_
    refine Exists.intro [] ?_
    refine st ?_
    exact wx (WS.mk (tc Zc) Zb)

mutual
def ZaG (t : Za) : Option (Int) :=
 ZaU 0 0 t t.fKids
 partial_fixpoint
def ZaU (n_3 : Int) (i_4 : Nat) (t : Za) (ZaP : (List Za)) : Option (Int) :=
 (match ZaP with
 | x16 :: ZjT =>
 ZaG x16 >>= fun r19 =>
 ZaU (if r19 > n_3 then r19 else n_3) (i_4 + 1) t ZjT
 | [] =>
 some (IntKind.i64.wrap (n_3 + 1)))
 partial_fixpoint
end
def ZaG.M (t : Za) (r : Int) : Prop :=
 Zj Tryz.prog 29 [.agg [.v (.int .i64 t.fOp), .v (.string t.fName), .sl (t.fBound.fArgs.map Zk.cells), .sl (t.fKids.map Za.cells)]] [] (fun d b => d = .c none (.v (.int .i64 r)) ∧ b = [])
def ZaU.M (n_3 : Int) (i_4 : Nat) (t : Za) (ZaP : (List Za)) (r : Int) : Prop :=
 ∀ Zdx : List Za, t.fKids = Zdx ++ ZaP → i_4 = Zdx.length → AWL Tryz.prog 22 (Code.sub (Zq Tryz.f29) [1, 1, 0, 1, 0, 0]) (Code.cont Tryz.prog 22 (Zq Tryz.f29) [1, 1, 0, 1, 0] (ZbV tab Tryz.f29.results (ZbX (.c none (.v (.int .i64 r))) []))) ⟨[(1, .ptr 1 0), (3, .c none (.v (.int .i64 n_3))), (4, .c none (.v (.int .i64 ((i_4 : Nat) : Int))))], [(1, [(none, .v (.int .i64 t.fOp)), (none, .v (.string t.fName)), (none, .sl (t.fBound.fArgs.map Zk.cells)), (none, .sl (t.fKids.map Za.cells))])]⟩
theorem ZiD : (∀ (t : Za), ∀ r, ZaG t = some r → ZaG.M t r) ∧ (∀ (n_3 : Int) (i_4 : Nat) (t : Za) (ZaP : (List Za)), ∀ r, ZaU n_3 i_4 t ZaP = some r → ZaU.M n_3 i_4 t ZaP r) := by
 refine ZaG.mutual_partial_correctness ZaG.M ZaU.M ?_ ?_
 ·intro lazycref04_Depth_l1' Zfs t r hF
  unfold ZaG.M
  refine en Tryz.func29 ?_
  refine AWP.seq ?_
  refine ns ?_
  refine AWP.seq ?_
  refine ns ?_
  refine AWP.seq ?_
  refine AWP.seq ?_
  refine ns ?_
  refine AWP.block ?_
  refine AWP.loop ?_
  refine AWL.weak (rn []) ?_ (Zfs 0 0 t t.fKids _ hF ([]) rfl rfl)
  exact (WS.mk (tp (tc (tc Zc))) (Zf rfl (cc (cc (cc (cc Zh)))) Zb))
 ·intro lazycref04_Depth' lazycref04_Depth_l1' ZnA Zfs n_3 i_4 t ZaP r hF
  unfold ZaU.M
  intro Zdx ZhJ ZhD
  refine AWL.step ?_
  refine AWP.seq ?_
  refine AWP.seq ?_
  refine ns ?_
  intro hlen15
  (try rw [List.length_map] at hlen15)
  (try rw [List.length_map])
  refine st ?_
  refine nw ?_
  refine ZN ZhJ ZhD (fun x16 ZjT ZjE Zrd Zr1 => ?_) (fun ZjE => ?_)
  ·subst ZjE
   refine nw ?_
   refine AWP.seq ?_
   refine AWP.block ?_
   obtain ⟨r19, ZtS, hF⟩ := bind_some hF
   refine nn ?_
   refine sr (Zab (f := Za.cells) (Za.cells_eq x16) Zrd) ?_
   refine st ?_
   refine e3 ?_
   refine st ?_
   refine cm (Zj.weak (rn []) (ZnA x16 _ ZtS) rfl (WS.mk (Zd (Zt (lc (lc (lc (lc Zo))))) Zc) Zb)) ?_
   refine st ?_
   refine ns ?_
   refine AWL.weak (rn []) ?_ (Zfs (if r19 > n_3 then r19 else n_3) (i_4 + 1) t ZjT _ hF (Zdx ++ [x16]) (by rw [ZhJ]; simp) (by rw [ZhD]; simp))
   exact (WS.mk (tp (tc (Zd (Zr (Zdf (ZV hlen15 Zr1))) Zc))) (Zf rfl (cc (cc (cc (cc Zh)))) Zb))
  ·subst ZjE
   refine nw ?_
   refine AWP.seq ?_
   refine ns ?_
   obtain rfl := Zg hF
   refine ns ?_
   refine Exists.intro [] ?_
   refine st ?_
   exact wx (WS.mk (tc Zc) Zb)
theorem Zgy : ∀ (t : Za), ∀ r, ZaG t = some r → ZaG.M t r := ZiD.1
theorem lazycref04_Depth_l1_ok : ∀ (n_3 : Int) (i_4 : Nat) (t : Za) (ZaP : (List Za)), ∀ r, ZaU n_3 i_4 t ZaP = some r → ZaU.M n_3 i_4 t ZaP r := ZiD.2

mutual
def ZaN (t : Za) : Option (Int) :=
 Za4 1 0 t t.fKids
 partial_fixpoint
def Za4 (n_3 : Int) (i_4 : Nat) (t : Za) (ZaP : (List Za)) : Option (Int) :=
 (match ZaP with
 | x16 :: ZjT =>
 ZaN x16 >>= fun r19 =>
 Za4 (IntKind.i64.wrap (n_3 + r19)) (i_4 + 1) t ZjT
 | [] =>
 some n_3)
 partial_fixpoint
end
def ZaN.M (t : Za) (r : Int) : Prop :=
 Zj Tryz.prog 28 [.agg [.v (.int .i64 t.fOp), .v (.string t.fName), .sl (t.fBound.fArgs.map Zk.cells), .sl (t.fKids.map Za.cells)]] [] (fun d b => d = .c none (.v (.int .i64 r)) ∧ b = [])
def Za4.M (n_3 : Int) (i_4 : Nat) (t : Za) (ZaP : (List Za)) (r : Int) : Prop :=
 ∀ Zdx : List Za, t.fKids = Zdx ++ ZaP → i_4 = Zdx.length → AWL Tryz.prog 21 (Code.sub (Zq Tryz.f28) [1, 1, 0, 1, 0, 0]) (Code.cont Tryz.prog 21 (Zq Tryz.f28) [1, 1, 0, 1, 0] (ZbV tab Tryz.f28.results (ZbX (.c none (.v (.int .i64 r))) []))) ⟨[(1, .ptr 1 0), (3, .c none (.v (.int .i64 n_3))), (4, .c none (.v (.int .i64 ((i_4 : Nat) : Int))))], [(1, [(none, .v (.int .i64 t.fOp)), (none, .v (.string t.fName)), (none, .sl (t.fBound.fArgs.map Zk.cells)), (none, .sl (t.fKids.map Za.cells))])]⟩
theorem ZiZ : (∀ (t : Za), ∀ r, ZaN t = some r → ZaN.M t r) ∧ (∀ (n_3 : Int) (i_4 : Nat) (t : Za) (ZaP : (List Za)), ∀ r, Za4 n_3 i_4 t ZaP = some r → Za4.M n_3 i_4 t ZaP r) := by
 refine ZaN.mutual_partial_correctness ZaN.M Za4.M ?_ ?_
 ·intro lazycref04_Size_l1' ZfE t r hF
  unfold ZaN.M
  refine en Tryz.func28 ?_
  refine AWP.seq ?_
  refine ns ?_
  refine AWP.seq ?_
  refine ns ?_
  refine AWP.seq ?_
  refine AWP.seq ?_
  refine ns ?_
  refine AWP.block ?_
  refine AWP.loop ?_
  refine AWL.weak (rn []) ?_ (ZfE 1 0 t t.fKids _ hF ([]) rfl rfl)
  exact (WS.mk (tp (tc (tc Zc))) (Zf rfl (cc (cc (cc (cc Zh)))) Zb))
 ·intro lazycref04_Size' lazycref04_Size_l1' Zok ZfE n_3 i_4 t ZaP r hF
  unfold Za4.M
  intro Zdx ZhJ ZhD
  refine AWL.step ?_
  refine AWP.seq ?_
  refine AWP.seq ?_
  refine ns ?_
  intro hlen15
  (try rw [List.length_map] at hlen15)
  (try rw [List.length_map])
  refine st ?_
  refine nw ?_
  refine ZN ZhJ ZhD (fun x16 ZjT ZjE Zrd Zr1 => ?_) (fun ZjE => ?_)
  ·subst ZjE
   refine nw ?_
   refine AWP.seq ?_
   refine AWP.block ?_
   obtain ⟨r19, ZtS, hF⟩ := bind_some hF
   refine nn ?_
   refine sr (Zab (f := Za.cells) (Za.cells_eq x16) Zrd) ?_
   refine st ?_
   refine e3 ?_
   refine st ?_
   refine cm (Zj.weak (rn []) (Zok x16 _ ZtS) rfl (WS.mk (Zd (Zt (lc (lc (lc (lc Zo))))) Zc) Zb)) ?_
   refine st ?_
   refine ns ?_
   refine AWL.weak (rn []) ?_ (ZfE (IntKind.i64.wrap (n_3 + r19)) (i_4 + 1) t ZjT _ hF (Zdx ++ [x16]) (by rw [ZhJ]; simp) (by rw [ZhD]; simp))
   exact (WS.mk (tp (tc (Zd (Zr (Zdf (ZV hlen15 Zr1))) Zc))) (Zf rfl (cc (cc (cc (cc Zh)))) Zb))
  ·subst ZjE
   refine nw ?_
   refine AWP.seq ?_
   refine ns ?_
   obtain rfl := Zg hF
   refine ns ?_
   refine Exists.intro [] ?_
   refine st ?_
   exact wx (WS.mk (tc Zc) Zb)
theorem ZgZ : ∀ (t : Za), ∀ r, ZaN t = some r → ZaN.M t r := ZiZ.1
theorem lazycref04_Size_l1_ok : ∀ (n_3 : Int) (i_4 : Nat) (t : Za) (ZaP : (List Za)), ∀ r, Za4 n_3 i_4 t ZaP = some r → Za4.M n_3 i_4 t ZaP r := ZiZ.2

def Zay (n : Int) (s_3 : ByteArray) (i_4 : Nat) : Option (ByteArray) :=
 if (decide (((i_4 : Nat) : Int) < n)) = true then
 Z4 (((s_3.size + (ByteArray.mk #[44]).size : Nat) : Int) ≤ IntKind.i64.max) >>= fun _ =>
 Z4 (i_4 + 1 ≤ 9223372036854775807) >>= fun _ =>
 Zay n (s_3 ++ (ByteArray.mk #[44])) (i_4 + 1)
 else
 Z4 (((s_3.size + (ByteArray.mk #[41]).size : Nat) : Int) ≤ IntKind.i64.max) >>= fun _ =>
 some (s_3 ++ (ByteArray.mk #[41]))
 partial_fixpoint
def Zay.M (n : Int) (s_3 : ByteArray) (i_4 : Nat) (r : ByteArray) : Prop :=
 AWL Tryz.prog 14 (Code.sub (Zq Tryz.f128) [1, 1, 0, 1, 0, 0]) (Code.cont Tryz.prog 14 (Zq Tryz.f128) [1, 1, 0, 1, 0] (ZbV tab Tryz.f128.results (ZbX (.c none (.v (.string r))) []))) ⟨[(0, .c none (.v (.int .i64 n))), (3, .c none (.v (.string s_3))), (4, .c none (.v (.int .i64 ((i_4 : Nat) : Int))))], []⟩
theorem ZjV (n : Int) (s_3 : ByteArray) (i_4 : Nat) : ∀ r, Zay n s_3 i_4 = some r → Zay.M n s_3 i_4 r := by
 refine Zay.partial_correctness n (fun s_3 i_4 r => Zay.M n s_3 i_4 r) ?_ s_3 i_4
 intro lazycref04_TupleName_l1' ZfK s_3 i_4 r hF
 have Zjv := fun (_n : Int) (s_3 : ByteArray) (i_4 : Nat) => ZfK s_3 i_4
 clear ZfK
 unfold Zay.M
 refine AWL.step ?_
 refine AWP.seq ?_
 refine AWP.seq ?_
 refine ns ?_
 refine nw ?_
 refine Zi hF (fun hc9 hF => ?_) (fun hc9 hF => ?_)
 ·refine nw ?_
  refine AWP.seq ?_
  refine AWP.block ?_
  obtain ⟨Zzg, hF⟩ := Zy hF
  refine ns ?_
  refine And.intro Zzg ?_
  refine st ?_
  obtain ⟨ZCX, hF⟩ := Zy hF
  refine ns ?_
  refine AWL.weak (rn []) ?_ (Zjv n (s_3 ++ (ByteArray.mk #[44])) (i_4 + 1) _ hF)
  exact (WS.mk (tc (tc (Zd (Zr (Zdf (Zdu ZCX))) Zc))) Zb)
 ·refine nw ?_
  refine AWP.seq ?_
  obtain ⟨ZCD, hF⟩ := Zy hF
  refine ns ?_
  refine And.intro ZCD ?_
  refine st ?_
  obtain rfl := Zg hF
  refine ns ?_
  refine Exists.intro [] ?_
  refine st ?_
  exact wx (WS.mk (tc Zc) Zb)

def Zcg (n : Int) : Option (ByteArray) :=
 Zay n (ByteArray.mk #[40]) 1
def Zcg.M (n : Int) (r : ByteArray) : Prop :=
 Zj Tryz.prog 128 [.c none (.v (.int .i64 n))] [] (fun d b => d = .c none (.v (.string r)) ∧ b = [])
theorem Zk3 (n : Int) (r : ByteArray) (hF : Zcg n = some r) : Zcg.M n r := by
 unfold Zcg at hF
 unfold Zcg.M
 refine en Tryz.func128 ?_
 refine AWP.seq ?_
 refine ns ?_
 refine AWP.seq ?_
 refine ns ?_
 refine AWP.seq ?_
 refine AWP.seq ?_
 refine ns ?_
 refine AWP.block ?_
 refine AWP.loop ?_
 refine AWL.weak (rn []) ?_ (ZjV n (ByteArray.mk #[40]) 1 _ hF)
 exact (WS.mk (tc (tc (tc Zc))) Zb)

def Zbf (s : ByteArray) (n_3 : Nat) : Option (Int) :=
 if (decide (((n_3 : Nat) : Int) ≤ 7)) = true then
 Zcg ((n_3 : Nat) : Int) >>= fun r10 =>
 if (s.toList == r10.toList) = true then
 some ((n_3 : Nat) : Int)
 else
 Z4 (n_3 + 1 ≤ 9223372036854775807) >>= fun _ =>
 Zbf s (n_3 + 1)
 else
 some 0
 partial_fixpoint
def Zbf.M (s : ByteArray) (n_3 : Nat) (r : Int) : Prop :=
 AWL Tryz.prog 13 (Code.sub (Zq Tryz.f107) [1, 0, 1, 0, 0]) (Code.cont Tryz.prog 13 (Zq Tryz.f107) [1, 0, 1, 0] (ZbV tab Tryz.f107.results (ZbX (.c none (.v (.int .i64 r))) []))) ⟨[(0, .c none (.v (.string s))), (3, .c none (.v (.int .i64 ((n_3 : Nat) : Int))))], []⟩
theorem ZlE (s : ByteArray) (n_3 : Nat) : ∀ r, Zbf s n_3 = some r → Zbf.M s n_3 r := by
 refine Zbf.partial_correctness s (fun n_3 r => Zbf.M s n_3 r) ?_ n_3
 intro lazycref04_Arity_l1' Zg9 n_3 r hF
 have Zlu := fun (_s : ByteArray) (n_3 : Nat) => Zg9 n_3
 clear Zg9
 unfold Zbf.M
 refine AWL.step ?_
 refine AWP.seq ?_
 refine AWP.seq ?_
 refine ns ?_
 refine nw ?_
 refine Zi hF (fun hc9 hF => ?_) (fun hc9 hF => ?_)
 ·refine nw ?_
  refine AWP.seq ?_
  refine AWP.block ?_
  refine AWP.seq ?_
  obtain ⟨r10, ZyQ, hF⟩ := bind_some hF
  refine ns ?_
  refine e3 ?_
  refine st ?_
  refine cm (Zj.weak (rn []) (Zk3 ((n_3 : Nat) : Int) _ ZyQ) rfl (WS.mk (tc Zc) Zb)) ?_
  refine st ?_
  refine nw ?_
  refine Zi hF (fun ZcO hF => ?_) (fun ZcO hF => ?_)
  ·refine AWP.seq ?_
   refine ns ?_
   obtain rfl := Zg hF
   refine ns ?_
   refine Exists.intro [] ?_
   refine st ?_
   exact wx (WS.mk (tc Zc) Zb)
  ·refine nw ?_
   obtain ⟨ZCD, hF⟩ := Zy hF
   refine ns ?_
   refine AWL.weak (rn []) ?_ (Zlu s (n_3 + 1) _ hF)
   exact (WS.mk (tc (Zd (Zr (Zdf (Zdu ZCD))) Zc)) Zb)
 ·refine nw ?_
  refine AWP.seq ?_
  refine ns ?_
  obtain rfl := Zg hF
  refine ns ?_
  refine Exists.intro [] ?_
  refine st ?_
  exact wx (WS.mk (tc Zc) Zb)

def ZdS (s : ByteArray) : Option (Int) :=
 Zbf s 2
def ZdS.M (s : ByteArray) (r : Int) : Prop :=
 Zj Tryz.prog 107 [.c none (.v (.string s))] [] (fun d b => d = .c none (.v (.int .i64 r)) ∧ b = [])
theorem ZnE (s : ByteArray) (r : Int) (hF : ZdS s = some r) : ZdS.M s r := by
 unfold ZdS at hF
 unfold ZdS.M
 refine en Tryz.func107 ?_
 refine AWP.seq ?_
 refine ns ?_
 refine AWP.seq ?_
 refine AWP.seq ?_
 refine ns ?_
 refine AWP.block ?_
 refine AWP.loop ?_
 refine AWL.weak (rn []) ?_ (ZlE s 2 _ hF)
 exact (WS.mk (tc (tc Zc)) Zb)

def Zbj (b_3 : ByteArray) : Option (Bool) :=
 Zbu b_3 >>= fun r5 =>
 some ((r5 == 2) || (r5 == 4))
def Zbj.M (b_3 : ByteArray) (r : Bool) : Prop :=
 AWP Tryz.prog 34 (Code.sub (Zq Tryz.f106) [1, 1, 1, 1, 1]) (Code.cont Tryz.prog 34 (Zq Tryz.f106) [1, 1, 1, 1, 1] (ZbV tab Tryz.f106.results (ZbX (.c none (.v (.bool r))) []))) ⟨[(3, .c none (.v (.string b_3)))], []⟩
theorem Zgl (b_3 : ByteArray) (r : Bool) (hF : Zbj b_3 = some r) : Zbj.M b_3 r := by
 unfold Zbj at hF
 unfold Zbj.M
 refine AWP.seq ?_
 obtain ⟨r5, hr5, hF⟩ := bind_some hF
 refine ns ?_
 refine e3 ?_
 refine st ?_
 refine cm (Zj.weak (rn []) (ZdX b_3 _ hr5) rfl (WS.mk (tc Zc) Zb)) ?_
 refine st ?_
 refine AWP.seq ?_
 refine AWP.cutN (fun T => ∃ r, WS r T ⟨[(2, .c none (.v (.bool ((r5 == 2) || (r5 == 4)))))], []⟩) ?_ (fun T hw => ?_)
 ·refine ns ?_
  refine Zm false (fun hc6 => ?_) (fun hc6 => ?_)
  ·(conv => whnf)
   refine st ?_
   exact wx (WS.mk (Zd (Zr (web hc6)) Zc) Zb)
  ·(conv => whnf)
   refine st ?_
   exact wx (WS.mk (Zd (Zr (web hc6)) Zc) Zb)
 obtain ⟨r0, hw⟩ := hw
 (conv => whnf)
 refine AWP.weak r0 hw ?_
 obtain rfl := Zg hF
 refine ns ?_
 refine Exists.intro [] ?_
 refine st ?_
 exact wx (WS.mk (tc Zc) Zb)

def Zbk (b_3 : ByteArray) : Option (Bool) :=
 ZcX b_3 >>= fun r3 =>
 if r3.2.2 = true then
 Zbj r3.2.1
 else
 Zbj b_3
def Zbk.M (b_3 : ByteArray) (r : Bool) : Prop :=
 AWP Tryz.prog 34 (Code.sub (Zq Tryz.f106) [1, 1, 1]) (Code.cont Tryz.prog 34 (Zq Tryz.f106) [1, 1, 1] (ZbV tab Tryz.f106.results (ZbX (.c none (.v (.bool r))) []))) ⟨[(3, .c none (.v (.string b_3)))], []⟩
theorem Zgp (b_3 : ByteArray) (r : Bool) (hF : Zbk b_3 = some r) : Zbk.M b_3 r := by
 unfold Zbk at hF
 unfold Zbk.M
 refine AWP.seq ?_
 obtain ⟨r3, hr3, hF⟩ := bind_some hF
 refine ns ?_
 refine e3 ?_
 refine st ?_
 refine cm (Zj.weak (rn []) (ZiX b_3 _ hr3) rfl (WS.mk (tc Zc) Zb)) ?_
 refine st ?_
 refine AWP.seq ?_
 refine AWP.seq ?_
 refine ns ?_
 refine nw ?_
 refine Zi hF (fun hc7 hF => ?_) (fun hc7 hF => ?_)
 ·refine ns ?_
  refine AWP.weak (rn []) ?_ (Zgl r3.2.1 _ hF)
  exact (WS.mk (tc Zc) Zb)
 ·refine nw ?_
  refine AWP.weak (rn []) ?_ (Zgl b_3 _ hF)
  exact (WS.mk (tc Zc) Zb)

def Zcy (s : ByteArray) : Option (Bool) :=
 ZcS s >>= fun r1 =>
 if (!r1.2.2) = true then
 Zbk s
 else
 Zbk r1.1
def Zcy.M (s : ByteArray) (r : Bool) : Prop :=
 Zj Tryz.prog 106 [.c none (.v (.string s))] [] (fun d b => d = .c none (.v (.bool r)) ∧ b = [])
theorem ZlF (s : ByteArray) (r : Bool) (hF : Zcy s = some r) : Zcy.M s r := by
 unfold Zcy at hF
 unfold Zcy.M
 refine en Tryz.func106 ?_
 refine AWP.seq ?_
 refine ns ?_
 refine AWP.seq ?_
 obtain ⟨r1, hr1, hF⟩ := bind_some hF
 refine ns ?_
 refine e3 ?_
 refine st ?_
 refine cm (Zj.weak (rn []) (Zg0 s _ hr1) rfl (WS.mk (tc Zc) Zb)) ?_
 refine st ?_
 refine AWP.seq ?_
 refine AWP.seq ?_
 refine ns ?_
 refine nw ?_
 refine Zi hF (fun hc8 hF => ?_) (fun hc8 hF => ?_)
 ·refine ns ?_
  refine AWP.weak (rn []) ?_ (Zgp s _ hF)
  exact (WS.mk (tc Zc) Zb)
 ·refine nw ?_
  refine AWP.weak (rn []) ?_ (Zgp r1.1 _ hF)
  exact (WS.mk (tc Zc) Zb)

def ZcK (s : ByteArray) : Option (Bool) :=
 Zcy s >>= fun r1 =>
 (if (((r1 || (s.toList == (ByteArray.mk #[45, 62]).toList)) || (s.toList == (ByteArray.mk #[91, 93]).toList)) || (s.toList == (ByteArray.mk #[40, 41]).toList)) = true then some true else ZdS s >>= fun r2 =>
 some (decide (r2 > 0))) >>= fun c3 =>
 some c3
def ZcK.M (s : ByteArray) (r : Bool) : Prop :=
 Zj Tryz.prog 81 [.c none (.v (.string s))] [] (fun d b => d = .c none (.v (.bool r)) ∧ b = [])
theorem Zml (s : ByteArray) (r : Bool) (hF : ZcK s = some r) : ZcK.M s r := by
 unfold ZcK at hF
 unfold ZcK.M
 refine en Tryz.func81 ?_
 refine AWP.seq ?_
 refine ns ?_
 refine AWP.seq ?_
 obtain ⟨r1, hr1, hF⟩ := bind_some hF
 obtain ⟨c3, hc3, hF⟩ := bind_some hF
 refine AWP.cutN (fun T => ∃ r, WS r T ⟨[(2, .c none (.v (.bool c3)))], []⟩) ?_ (fun T hw => ?_)
 ·refine ns ?_
  refine e3 ?_
  refine st ?_
  refine cm (Zj.weak (rn []) (ZlF s _ hr1) rfl (WS.mk (tc Zc) Zb)) ?_
  refine st ?_
  refine Zm false (fun hc4 => ?_) (fun hc4 => ?_)
  ·(conv => whnf)
   have hc3 := ift hc4 hc3
   obtain rfl := Zg hc3
   refine st ?_
   exact wx (WS.mk (Zd (Zr (web hc4)) Zc) Zb)
  ·(conv => whnf)
   refine st ?_
   refine Zm false (fun hc5 => ?_) (fun hc5 => ?_)
   ·(conv => whnf)
    have hc3 := ift (And.intro hc4 hc5) hc3
    obtain rfl := Zg hc3
    refine st ?_
    exact wx (WS.mk (Zd (Zr (web (And.intro hc4 hc5))) Zc) Zb)
   ·(conv => whnf)
    refine st ?_
    refine Zm false (fun hc6 => ?_) (fun hc6 => ?_)
    ·(conv => whnf)
     have hc3 := ift (And.intro hc4 (And.intro hc5 hc6)) hc3
     obtain rfl := Zg hc3
     refine st ?_
     exact wx (WS.mk (Zd (Zr (web (And.intro hc4 (And.intro hc5 hc6)))) Zc) Zb)
    ·(conv => whnf)
     refine st ?_
     refine Zm false (fun hc7 => ?_) (fun hc7 => ?_)
     ·have hc3 := ift (And.intro hc4 (And.intro hc5 (And.intro hc6 hc7))) hc3
      (conv => whnf)
      obtain rfl := Zg hc3
      refine st ?_
      exact wx (WS.mk (Zd (Zr (web (And.intro hc4 (And.intro hc5 (And.intro hc6 hc7))))) Zc) Zb)
     ·have hc3 := ife (And.intro hc4 (And.intro hc5 (And.intro hc6 hc7))) hc3
      obtain ⟨r2, hr2, hc3⟩ := bind_some hc3
      (conv => whnf)
      refine st ?_
      refine e3 ?_
      refine st ?_
      refine cm (Zj.weak (rn []) (ZnE s _ hr2) rfl (WS.mk (tc Zc) Zb)) ?_
      refine st ?_
      obtain rfl := Zg hc3
      refine st ?_
      exact wx (WS.mk (Zd (Zr (web (And.intro hc4 (And.intro hc5 (And.intro hc6 hc7))))) Zc) Zb)
 obtain ⟨r0, hw⟩ := hw
 (conv => whnf)
 refine AWP.weak r0 hw ?_
 obtain rfl := Zg hF
 refine ns ?_
 refine Exists.intro [] ?_
 refine st ?_
 exact wx (WS.mk (tc Zc) Zb)

def Zby (s : ByteArray) : Option (Bool) :=
 ZcS s >>= fun r1 =>
 if r1.2.2 = true then
 Zbu r1.1 >>= fun r5 =>
 some (r5 == 1)
 else
 Zbu s >>= fun r6 =>
 some ((r6 == 1) && (!(s.toList == (ByteArray.mk #[102, 111, 114, 97, 108, 108]).toList)))
def Zby.M (s : ByteArray) (r : Bool) : Prop :=
 Zj Tryz.prog 37 [.c none (.v (.string s))] [] (fun d b => d = .c none (.v (.bool r)) ∧ b = [])
theorem ZfD (s : ByteArray) (r : Bool) (hF : Zby s = some r) : Zby.M s r := by
 unfold Zby at hF
 unfold Zby.M
 refine en Tryz.func37 ?_
 refine AWP.seq ?_
 refine ns ?_
 refine AWP.seq ?_
 obtain ⟨r1, hr1, hF⟩ := bind_some hF
 refine ns ?_
 refine e3 ?_
 refine st ?_
 refine cm (Zj.weak (rn []) (Zg0 s _ hr1) rfl (WS.mk (tc Zc) Zb)) ?_
 refine st ?_
 refine AWP.seq ?_
 refine AWP.seq ?_
 refine ns ?_
 refine nw ?_
 refine Zi hF (fun hc4 hF => ?_) (fun hc4 hF => ?_)
 ·refine AWP.seq ?_
  obtain ⟨r5, hr5, hF⟩ := bind_some hF
  refine ns ?_
  refine e3 ?_
  refine st ?_
  refine cm (Zj.weak (rn []) (ZdX r1.1 _ hr5) rfl (WS.mk (tc Zc) Zb)) ?_
  refine st ?_
  obtain rfl := Zg hF
  refine ns ?_
  refine Exists.intro [] ?_
  refine st ?_
  exact wx (WS.mk (tc Zc) Zb)
 ·refine nw ?_
  refine AWP.seq ?_
  obtain ⟨r6, hr6, hF⟩ := bind_some hF
  refine AWP.cutN (fun T => ∃ r, WS r T ⟨[(2, .c none (.v (.bool ((r6 == 1) && (!(s.toList == (ByteArray.mk #[102, 111, 114, 97, 108, 108]).toList))))))], []⟩) ?_ (fun T hw => ?_)
  ·refine ns ?_
   refine e3 ?_
   refine st ?_
   refine cm (Zj.weak (rn []) (ZdX s _ hr6) rfl (WS.mk (tc Zc) Zb)) ?_
   refine st ?_
   refine Zm true (fun hc7 => ?_) (fun hc7 => ?_)
   ·(conv => whnf)
    refine st ?_
    exact wx (WS.mk (Zd (Zr (web hc7)) Zc) Zb)
   ·(conv => whnf)
    refine st ?_
    exact wx (WS.mk (Zd (Zr (web hc7)) Zc) Zb)
  obtain ⟨r0, hw⟩ := hw
  (conv => whnf)
  refine AWP.weak r0 hw ?_
  obtain rfl := Zg hF
  refine ns ?_
  refine Exists.intro [] ?_
  refine st ?_
  exact wx (WS.mk (tc Zc) Zb)

mutual
def ZaQ (t : Za) : Option (Bool) :=
 ZaL 0 t t.fKids
 partial_fixpoint
def ZaL (i_3 : Nat) (t : Za) (Ze1 : (List Za)) : Option (Bool) :=
 (match Ze1 with
 | x39 :: Zvv =>
 ZaQ x39 >>= fun r42 =>
 if (!r42) = true then
 some false
 else
 ZaL (i_3 + 1) t Zvv
 | [] =>
 if (t.fOp == 1) = true then
 Zby t.fName >>= fun r46 =>
 some ((r46 && (((t.fBound.fArgs.length : Nat) : Int) == 0)) && (((t.fKids.length : Nat) : Int) == 0))
 else
 if (t.fOp == 2) = true then
 ZcK t.fName >>= fun r51 =>
 some ((r51 && (((t.fBound.fArgs.length : Nat) : Int) == 0)) && (((t.fKids.length : Nat) : Int) == 0))
 else
 if (t.fOp == 3) = true then
 some (((t.fName.toList == (ByteArray.mk #[]).toList) && (((t.fBound.fArgs.length : Nat) : Int) == 0)) && (((t.fKids.length : Nat) : Int) == 2))
 else
 if (t.fOp == 4) = true then
 Zby t.fName >>= fun r60 =>
 some (r60 && (((t.fKids.length : Nat) : Int) == 1))
 else
 some false)
 partial_fixpoint
end
def ZaQ.M (t : Za) (r : Bool) : Prop :=
 Zj Tryz.prog 56 [.agg [.v (.int .i64 t.fOp), .v (.string t.fName), .sl (t.fBound.fArgs.map Zk.cells), .sl (t.fKids.map Za.cells)]] [] (fun d b => d = .c none (.v (.bool r)) ∧ b = [])
def ZaL.M (i_3 : Nat) (t : Za) (Ze1 : (List Za)) (r : Bool) : Prop :=
 ∀ Zjd : List Za, t.fKids = Zjd ++ Ze1 → i_3 = Zjd.length → AWL Tryz.prog 79 (Code.sub (Zq Tryz.f56) [1, 0, 1, 0, 0]) (Code.cont Tryz.prog 79 (Zq Tryz.f56) [1, 0, 1, 0] (ZbV tab Tryz.f56.results (ZbX (.c none (.v (.bool r))) []))) ⟨[(1, .ptr 1 0), (3, .c none (.v (.int .i64 ((i_3 : Nat) : Int))))], [(1, [(none, .v (.int .i64 t.fOp)), (none, .v (.string t.fName)), (none, .sl (t.fBound.fArgs.map Zk.cells)), (none, .sl (t.fKids.map Za.cells))])]⟩
theorem ZhX : (∀ (t : Za), ∀ r, ZaQ t = some r → ZaQ.M t r) ∧ (∀ (i_3 : Nat) (t : Za) (Ze1 : (List Za)), ∀ r, ZaL i_3 t Ze1 = some r → ZaL.M i_3 t Ze1 r) := by
 refine ZaQ.mutual_partial_correctness ZaQ.M ZaL.M ?_ ?_
 ·intro lazycref04_formed_l1' Zfa t r hF
  unfold ZaQ.M
  refine en Tryz.func56 ?_
  refine AWP.seq ?_
  refine ns ?_
  refine AWP.seq ?_
  refine AWP.seq ?_
  refine ns ?_
  refine AWP.block ?_
  refine AWP.loop ?_
  refine AWL.weak (rn []) ?_ (Zfa 0 t t.fKids _ hF ([]) rfl rfl)
  exact (WS.mk (tp (tc Zc)) (Zf rfl (cc (cc (cc (cc Zh)))) Zb))
 ·intro lazycref04_formed' lazycref04_formed_l1' ZmA Zfa i_3 t Ze1 r hF
  unfold ZaL.M
  intro Zjd ZrJ ZqK
  refine AWL.step ?_
  refine AWP.seq ?_
  refine AWP.seq ?_
  refine ns ?_
  intro hlen38
  (try rw [List.length_map] at hlen38)
  (try rw [List.length_map])
  refine st ?_
  refine nw ?_
  refine ZN ZrJ ZqK (fun x39 Zvv ZvB ZA2 ZDj => ?_) (fun ZvB => ?_)
  ·subst ZvB
   refine nw ?_
   refine AWP.seq ?_
   refine AWP.block ?_
   refine AWP.seq ?_
   obtain ⟨r42, ZHG, hF⟩ := bind_some hF
   refine nn ?_
   refine sr (Zab (f := Za.cells) (Za.cells_eq x39) ZA2) ?_
   refine st ?_
   refine e3 ?_
   refine st ?_
   refine cm (Zj.weak (rn []) (ZmA x39 _ ZHG) rfl (WS.mk (Zd (Zt (lc (lc (lc (lc Zo))))) Zc) Zb)) ?_
   refine st ?_
   refine nw ?_
   refine Zi hF (fun ZD7 hF => ?_) (fun ZD7 hF => ?_)
   ·refine AWP.seq ?_
    refine ns ?_
    obtain rfl := Zg hF
    refine ns ?_
    refine Exists.intro [] ?_
    refine st ?_
    exact wx (WS.mk (tc Zc) Zb)
   ·refine nw ?_
    refine ns ?_
    refine AWL.weak (rn []) ?_ (Zfa (i_3 + 1) t Zvv _ hF (Zjd ++ [x39]) (by rw [ZrJ]; simp) (by rw [ZqK]; simp))
    exact (WS.mk (tp (Zd (Zr (Zdf (ZV hlen38 ZDj))) Zc)) (Zf rfl (cc (cc (cc (cc Zh)))) Zb))
  ·subst ZvB
   refine nw ?_
   refine AWP.seq ?_
   refine ns ?_
   intro hlen44
   (try rw [List.length_map] at hlen44)
   (try rw [List.length_map])
   refine st ?_
   refine AWP.seq ?_
   refine AWP.seq ?_
   refine ns ?_
   refine AWP.block ?_
   refine AWP.seq ?_
   refine ns ?_
   refine nw ?_
   refine Zi hF (fun ZDr hF => ?_) (fun ZDr hF => ?_)
   ·refine AWP.seq ?_
    obtain ⟨r46, ZIq, hF⟩ := bind_some hF
    refine AWP.cutN (fun T => ∃ r, WS r T ⟨[(2, .c none (.v (.bool ((r46 && (((t.fBound.fArgs.length : Nat) : Int) == 0)) && (((t.fKids.length : Nat) : Int) == 0)))))], []⟩) ?_ (fun T hw => ?_)
    ·refine ns ?_
     refine e3 ?_
     refine st ?_
     refine cm (Zj.weak (rn []) (ZfD t.fName _ ZIq) rfl (WS.mk (tc Zc) Zb)) ?_
     refine st ?_
     refine Zm true (fun ZBn => ?_) (fun ZBn => ?_)
     ·(conv => whnf)
      refine st ?_
      refine Zm true (fun ZEj => ?_) (fun ZEj => ?_)
      ·(conv => whnf)
       refine st ?_
       intro hlen47
       (try rw [List.length_map] at hlen47)
       (try rw [List.length_map])
       refine st ?_
       exact wx (WS.mk (Zd (Zr (web (And.intro ZBn ZEj))) Zc) Zb)
      ·(conv => whnf)
       refine st ?_
       exact wx (WS.mk (Zd (Zr (web (And.intro ZBn ZEj))) Zc) Zb)
     ·(conv => whnf)
      refine st ?_
      exact wx (WS.mk (Zd (Zr (web ZBn)) Zc) Zb)
    obtain ⟨r0, hw⟩ := hw
    (conv => whnf)
    refine AWP.weak r0 hw ?_
    obtain rfl := Zg hF
    refine ns ?_
    refine Exists.intro [] ?_
    refine st ?_
    exact wx (WS.mk (tc Zc) Zb)
   ·refine AWP.seq ?_
    refine ns ?_
    refine nw ?_
    refine Zi hF (fun ZCC hF => ?_) (fun ZCC hF => ?_)
    ·refine AWP.seq ?_
     obtain ⟨r51, ZHc, hF⟩ := bind_some hF
     refine AWP.cutN (fun T => ∃ r, WS r T ⟨[(2, .c none (.v (.bool ((r51 && (((t.fBound.fArgs.length : Nat) : Int) == 0)) && (((t.fKids.length : Nat) : Int) == 0)))))], []⟩) ?_ (fun T hw => ?_)
     ·refine ns ?_
      refine e3 ?_
      refine st ?_
      refine cm (Zj.weak (rn []) (Zml t.fName _ ZHc) rfl (WS.mk (tc Zc) Zb)) ?_
      refine st ?_
      refine Zm true (fun ZBd => ?_) (fun ZBd => ?_)
      ·(conv => whnf)
       refine st ?_
       refine Zm true (fun Zix => ?_) (fun Zix => ?_)
       ·(conv => whnf)
        refine st ?_
        intro hlen52
        (try rw [List.length_map] at hlen52)
        (try rw [List.length_map])
        refine st ?_
        exact wx (WS.mk (Zd (Zr (web (And.intro ZBd Zix))) Zc) Zb)
       ·(conv => whnf)
        refine st ?_
        exact wx (WS.mk (Zd (Zr (web (And.intro ZBd Zix))) Zc) Zb)
      ·(conv => whnf)
       refine st ?_
       exact wx (WS.mk (Zd (Zr (web ZBd)) Zc) Zb)
     obtain ⟨r0, hw⟩ := hw
     (conv => whnf)
     refine AWP.weak r0 hw ?_
     obtain rfl := Zg hF
     refine ns ?_
     refine Exists.intro [] ?_
     refine st ?_
     exact wx (WS.mk (tc Zc) Zb)
    ·refine AWP.seq ?_
     refine ns ?_
     refine nw ?_
     refine Zi hF (fun Ztv hF => ?_) (fun Ztv hF => ?_)
     ·refine AWP.seq ?_
      refine AWP.cutN (fun T => ∃ r, WS r T ⟨[(2, .c none (.v (.bool (((t.fName.toList == (ByteArray.mk #[]).toList) && (((t.fBound.fArgs.length : Nat) : Int) == 0)) && (((t.fKids.length : Nat) : Int) == 2)))))], []⟩) ?_ (fun T hw => ?_)
      ·refine ns ?_
       refine Zm true (fun Zh9 => ?_) (fun Zh9 => ?_)
       ·(conv => whnf)
        refine st ?_
        refine Zm true (fun Zm8 => ?_) (fun Zm8 => ?_)
        ·(conv => whnf)
         refine st ?_
         intro hlen56
         (try rw [List.length_map] at hlen56)
         (try rw [List.length_map])
         refine st ?_
         exact wx (WS.mk (Zd (Zr (web (And.intro Zh9 Zm8))) Zc) Zb)
        ·(conv => whnf)
         refine st ?_
         exact wx (WS.mk (Zd (Zr (web (And.intro Zh9 Zm8))) Zc) Zb)
       ·(conv => whnf)
        refine st ?_
        exact wx (WS.mk (Zd (Zr (web Zh9)) Zc) Zb)
      obtain ⟨r0, hw⟩ := hw
      (conv => whnf)
      refine AWP.weak r0 hw ?_
      obtain rfl := Zg hF
      refine ns ?_
      refine Exists.intro [] ?_
      refine st ?_
      exact wx (WS.mk (tc Zc) Zb)
     ·refine AWP.seq ?_
      refine ns ?_
      refine nw ?_
      refine Zi hF (fun ZvY hF => ?_) (fun ZvY hF => ?_)
      ·refine AWP.seq ?_
       obtain ⟨r60, ZDE, hF⟩ := bind_some hF
       refine AWP.cutN (fun T => ∃ r, WS r T ⟨[(2, .c none (.v (.bool (r60 && (((t.fKids.length : Nat) : Int) == 1)))))], []⟩) ?_ (fun T hw => ?_)
       ·refine ns ?_
        refine e3 ?_
        refine st ?_
        refine cm (Zj.weak (rn []) (ZfD t.fName _ ZDE) rfl (WS.mk (tc Zc) Zb)) ?_
        refine st ?_
        refine Zm true (fun ZuV => ?_) (fun ZuV => ?_)
        ·(conv => whnf)
         refine st ?_
         intro hlen61
         (try rw [List.length_map] at hlen61)
         (try rw [List.length_map])
         refine st ?_
         exact wx (WS.mk (Zd (Zr (web ZuV)) Zc) Zb)
        ·(conv => whnf)
         refine st ?_
         exact wx (WS.mk (Zd (Zr (web ZuV)) Zc) Zb)
       obtain ⟨r0, hw⟩ := hw
       (conv => whnf)
       refine AWP.weak r0 hw ?_
       obtain rfl := Zg hF
       refine ns ?_
       refine Exists.intro [] ?_
       refine st ?_
       exact wx (WS.mk (tc Zc) Zb)
      ·refine nw ?_
       refine AWP.seq ?_
       refine ns ?_
       obtain rfl := Zg hF
       refine ns ?_
       refine Exists.intro [] ?_
       refine st ?_
       exact wx (WS.mk (tc Zc) Zb)
theorem Znc : ∀ (t : Za), ∀ r, ZaQ t = some r → ZaQ.M t r := ZhX.1
theorem lazycref04_formed_l1_ok : ∀ (i_3 : Nat) (t : Za) (Ze1 : (List Za)), ∀ r, ZaL i_3 t Ze1 = some r → ZaL.M i_3 t Ze1 r := ZhX.2

mutual
def Zan (k : Zk) : Option (Int) :=
 Zaj 0 0 k k.fArgs
 partial_fixpoint
def Zaj (n_3 : Int) (i_4 : Nat) (k : Zk) (ZaP : (List Zk)) : Option (Int) :=
 (match ZaP with
 | x16 :: ZjT =>
 Zan x16 >>= fun r19 =>
 Zaj (if r19 > n_3 then r19 else n_3) (i_4 + 1) k ZjT
 | [] =>
 some (IntKind.i64.wrap (n_3 + 1)))
 partial_fixpoint
end
def Zan.M (k : Zk) (r : Int) : Prop :=
 Zj Tryz.prog 83 [.agg [.sl (k.fArgs.map Zk.cells)]] [] (fun d b => d = .c none (.v (.int .i64 r)) ∧ b = [])
def Zaj.M (n_3 : Int) (i_4 : Nat) (k : Zk) (ZaP : (List Zk)) (r : Int) : Prop :=
 ∀ Zdx : List Zk, k.fArgs = Zdx ++ ZaP → i_4 = Zdx.length → AWL Tryz.prog 22 (Code.sub (Zq Tryz.f83) [1, 1, 0, 1, 0, 0]) (Code.cont Tryz.prog 22 (Zq Tryz.f83) [1, 1, 0, 1, 0] (ZbV tab Tryz.f83.results (ZbX (.c none (.v (.int .i64 r))) []))) ⟨[(1, .ptr 1 0), (3, .c none (.v (.int .i64 n_3))), (4, .c none (.v (.int .i64 ((i_4 : Nat) : Int))))], [(1, [(none, .sl (k.fArgs.map Zk.cells))])]⟩
theorem ZgI : (∀ (k : Zk), ∀ r, Zan k = some r → Zan.M k r) ∧ (∀ (n_3 : Int) (i_4 : Nat) (k : Zk) (ZaP : (List Zk)), ∀ r, Zaj n_3 i_4 k ZaP = some r → Zaj.M n_3 i_4 k ZaP r) := by
 refine Zan.mutual_partial_correctness Zan.M Zaj.M ?_ ?_
 ·intro lazycref04_KindDepth_l1' ZeA k r hF
  unfold Zan.M
  refine en Tryz.func83 ?_
  refine AWP.seq ?_
  refine ns ?_
  refine AWP.seq ?_
  refine ns ?_
  refine AWP.seq ?_
  refine AWP.seq ?_
  refine ns ?_
  refine AWP.block ?_
  refine AWP.loop ?_
  refine AWL.weak (rn []) ?_ (ZeA 0 0 k k.fArgs _ hF ([]) rfl rfl)
  exact (WS.mk (tp (tc (tc Zc))) (Zf rfl (cc Zh) Zb))
 ·intro lazycref04_KindDepth' lazycref04_KindDepth_l1' Zk4 ZeA n_3 i_4 k ZaP r hF
  unfold Zaj.M
  intro Zdx ZhJ ZhD
  refine AWL.step ?_
  refine AWP.seq ?_
  refine AWP.seq ?_
  refine ns ?_
  intro hlen15
  (try rw [List.length_map] at hlen15)
  (try rw [List.length_map])
  refine st ?_
  refine nw ?_
  refine ZN ZhJ ZhD (fun x16 ZjT ZjE Zrd Zr1 => ?_) (fun ZjE => ?_)
  ·subst ZjE
   refine nw ?_
   refine AWP.seq ?_
   refine AWP.block ?_
   obtain ⟨r19, ZtS, hF⟩ := bind_some hF
   refine nn ?_
   refine sr (Zab (f := Zk.cells) (Zk.cells_eq x16) Zrd) ?_
   refine st ?_
   refine e3 ?_
   refine st ?_
   refine cm (Zj.weak (rn []) (Zk4 x16 _ ZtS) rfl (WS.mk (Zd (Zt (lc Zo)) Zc) Zb)) ?_
   refine st ?_
   refine ns ?_
   refine AWL.weak (rn []) ?_ (ZeA (if r19 > n_3 then r19 else n_3) (i_4 + 1) k ZjT _ hF (Zdx ++ [x16]) (by rw [ZhJ]; simp) (by rw [ZhD]; simp))
   exact (WS.mk (tp (tc (Zd (Zr (Zdf (ZV hlen15 Zr1))) Zc))) (Zf rfl (cc Zh) Zb))
  ·subst ZjE
   refine nw ?_
   refine AWP.seq ?_
   refine ns ?_
   obtain rfl := Zg hF
   refine ns ?_
   refine Exists.intro [] ?_
   refine st ?_
   exact wx (WS.mk (tc Zc) Zb)
theorem ZkS : ∀ (k : Zk), ∀ r, Zan k = some r → Zan.M k r := ZgI.1
theorem lazycref04_KindDepth_l1_ok : ∀ (n_3 : Int) (i_4 : Nat) (k : Zk) (ZaP : (List Zk)), ∀ r, Zaj n_3 i_4 k ZaP = some r → Zaj.M n_3 i_4 k ZaP r := ZgI.2

mutual
def Zav (k : Zk) : Option (Int) :=
 Zat 1 0 k k.fArgs
 partial_fixpoint
def Zat (n_3 : Int) (i_4 : Nat) (k : Zk) (ZaP : (List Zk)) : Option (Int) :=
 (match ZaP with
 | x16 :: ZjT =>
 Zav x16 >>= fun r19 =>
 Zat (IntKind.i64.wrap (n_3 + r19)) (i_4 + 1) k ZjT
 | [] =>
 some n_3)
 partial_fixpoint
end
def Zav.M (k : Zk) (r : Int) : Prop :=
 Zj Tryz.prog 82 [.agg [.sl (k.fArgs.map Zk.cells)]] [] (fun d b => d = .c none (.v (.int .i64 r)) ∧ b = [])
def Zat.M (n_3 : Int) (i_4 : Nat) (k : Zk) (ZaP : (List Zk)) (r : Int) : Prop :=
 ∀ Zdx : List Zk, k.fArgs = Zdx ++ ZaP → i_4 = Zdx.length → AWL Tryz.prog 21 (Code.sub (Zq Tryz.f82) [1, 1, 0, 1, 0, 0]) (Code.cont Tryz.prog 21 (Zq Tryz.f82) [1, 1, 0, 1, 0] (ZbV tab Tryz.f82.results (ZbX (.c none (.v (.int .i64 r))) []))) ⟨[(1, .ptr 1 0), (3, .c none (.v (.int .i64 n_3))), (4, .c none (.v (.int .i64 ((i_4 : Nat) : Int))))], [(1, [(none, .sl (k.fArgs.map Zk.cells))])]⟩
theorem Zg8 : (∀ (k : Zk), ∀ r, Zav k = some r → Zav.M k r) ∧ (∀ (n_3 : Int) (i_4 : Nat) (k : Zk) (ZaP : (List Zk)), ∀ r, Zat n_3 i_4 k ZaP = some r → Zat.M n_3 i_4 k ZaP r) := by
 refine Zav.mutual_partial_correctness Zav.M Zat.M ?_ ?_
 ·intro lazycref04_KindSize_l1' ZeJ k r hF
  unfold Zav.M
  refine en Tryz.func82 ?_
  refine AWP.seq ?_
  refine ns ?_
  refine AWP.seq ?_
  refine ns ?_
  refine AWP.seq ?_
  refine AWP.seq ?_
  refine ns ?_
  refine AWP.block ?_
  refine AWP.loop ?_
  refine AWL.weak (rn []) ?_ (ZeJ 1 0 k k.fArgs _ hF ([]) rfl rfl)
  exact (WS.mk (tp (tc (tc Zc))) (Zf rfl (cc Zh) Zb))
 ·intro lazycref04_KindSize' lazycref04_KindSize_l1' ZlJ ZeJ n_3 i_4 k ZaP r hF
  unfold Zat.M
  intro Zdx ZhJ ZhD
  refine AWL.step ?_
  refine AWP.seq ?_
  refine AWP.seq ?_
  refine ns ?_
  intro hlen15
  (try rw [List.length_map] at hlen15)
  (try rw [List.length_map])
  refine st ?_
  refine nw ?_
  refine ZN ZhJ ZhD (fun x16 ZjT ZjE Zrd Zr1 => ?_) (fun ZjE => ?_)
  ·subst ZjE
   refine nw ?_
   refine AWP.seq ?_
   refine AWP.block ?_
   obtain ⟨r19, ZtS, hF⟩ := bind_some hF
   refine nn ?_
   refine sr (Zab (f := Zk.cells) (Zk.cells_eq x16) Zrd) ?_
   refine st ?_
   refine e3 ?_
   refine st ?_
   refine cm (Zj.weak (rn []) (ZlJ x16 _ ZtS) rfl (WS.mk (Zd (Zt (lc Zo)) Zc) Zb)) ?_
   refine st ?_
   refine ns ?_
   refine AWL.weak (rn []) ?_ (ZeJ (IntKind.i64.wrap (n_3 + r19)) (i_4 + 1) k ZjT _ hF (Zdx ++ [x16]) (by rw [ZhJ]; simp) (by rw [ZhD]; simp))
   exact (WS.mk (tp (tc (Zd (Zr (Zdf (ZV hlen15 Zr1))) Zc))) (Zf rfl (cc Zh) Zb))
  ·subst ZjE
   refine nw ?_
   refine AWP.seq ?_
   refine ns ?_
   obtain rfl := Zg hF
   refine ns ?_
   refine Exists.intro [] ?_
   refine st ?_
   exact wx (WS.mk (tc Zc) Zb)
theorem Zlh : ∀ (k : Zk), ∀ r, Zav k = some r → Zav.M k r := Zg8.1
theorem lazycref04_KindSize_l1_ok : ∀ (n_3 : Int) (i_4 : Nat) (k : Zk) (ZaP : (List Zk)), ∀ r, Zat n_3 i_4 k ZaP = some r → Zat.M n_3 i_4 k ZaP r := Zg8.2

mutual
def Za2 (t : Za) : Option (Int × Int) :=
 Zav t.fBound >>= fun r3 =>
 Zan t.fBound >>= fun r4 =>
 ZaV r3 r4 0 t t.fKids
 partial_fixpoint
def ZaV (ZcR : Int) (ZbG : Int) (i_6 : Nat) (t : Za) (Zep : (List Za)) : Option (Int × Int) :=
 (match Zep with
 | x20 :: ZCo =>
 Za2 x20 >>= fun r23 =>
 ZaV (if r23.1 > ZcR then r23.1 else ZcR) (if r23.2 > ZbG then r23.2 else ZbG) (i_6 + 1) t ZCo
 | [] =>
 some (ZcR, ZbG))
 partial_fixpoint
end
def Za2.M (t : Za) (r : Int × Int) : Prop :=
 Zj Tryz.prog 57 [.agg [.v (.int .i64 t.fOp), .v (.string t.fName), .sl (t.fBound.fArgs.map Zk.cells), .sl (t.fKids.map Za.cells)]] [] (fun d b => d = .tup [.c (.v (.int .i64 r.1)), .c (.v (.int .i64 r.2))] ∧ b = [])
def ZaV.M (ZcR : Int) (ZbG : Int) (i_6 : Nat) (t : Za) (Zep : (List Za)) (r : Int × Int) : Prop :=
 ∀ Zje : List Za, t.fKids = Zje ++ Zep → i_6 = Zje.length → AWL Tryz.prog 39 (Code.sub (Zq Tryz.f57) [1, 1, 0, 1, 0, 0]) (Code.cont Tryz.prog 39 (Zq Tryz.f57) [1, 1, 0, 1, 0] (ZbV tab Tryz.f57.results (ZbX (.tup [.c (.v (.int .i64 r.1)), .c (.v (.int .i64 r.2))]) []))) ⟨[(1, .ptr 1 0), (4, .c none (.v (.int .i64 ZcR))), (5, .c none (.v (.int .i64 ZbG))), (6, .c none (.v (.int .i64 ((i_6 : Nat) : Int))))], [(1, [(none, .v (.int .i64 t.fOp)), (none, .v (.string t.fName)), (none, .sl (t.fBound.fArgs.map Zk.cells)), (none, .sl (t.fKids.map Za.cells))])]⟩
theorem ZiA : (∀ (t : Za), ∀ r, Za2 t = some r → Za2.M t r) ∧ (∀ (ZcR : Int) (ZbG : Int) (i_6 : Nat) (t : Za) (Zep : (List Za)), ∀ r, ZaV ZcR ZbG i_6 t Zep = some r → ZaV.M ZcR ZbG i_6 t Zep r) := by
 refine Za2.mutual_partial_correctness Za2.M ZaV.M ?_ ?_
 ·intro lazycref04_kinds_l1' Zfl t r hF
  unfold Za2.M
  refine en Tryz.func57 ?_
  refine AWP.seq ?_
  refine ns ?_
  refine AWP.seq ?_
  obtain ⟨r3, hr3, hF⟩ := bind_some hF
  obtain ⟨r4, hr4, hF⟩ := bind_some hF
  refine nn ?_
  refine Or.inr (Exists.intro [3, 4] (Exists.intro [[12, 13], [13]] (Exists.intro [1] (Exists.intro [1, 12, 13] (Exists.intro [12, 13] (Exists.intro [0, 1, 2, 5, 6, 7] (And.intro (by decide +kernel) ?_)))))))
  refine dp ?_
  refine dp ?_
  refine st ?_
  refine e3 ?_
  refine st ?_
  refine cm (Zj.weak (rn []) (Zlh t.fBound _ hr3) rfl (WS.mk (Zd (Zt (lc Zo)) Zc) Zb)) ?_
  refine st ?_
  refine e3 ?_
  refine st ?_
  refine cm (Zj.weak (rn []) (ZkS t.fBound _ hr4) rfl (WS.mk (Zd (Zt (lc Zo)) Zc) Zb)) ?_
  refine st ?_
  refine AWP.seq ?_
  refine AWP.seq ?_
  refine ns ?_
  refine AWP.block ?_
  refine AWP.loop ?_
  refine AWL.weak (rn []) ?_ (Zfl r3 r4 0 t t.fKids _ hF ([]) rfl rfl)
  exact (WS.mk (tp (tc (tc (tc Zc)))) (Zf rfl (cc (cc (cc (cc Zh)))) Zb))
 ·intro lazycref04_kinds' lazycref04_kinds_l1' ZnJ Zfl ZcR ZbG i_6 t Zep r hF
  unfold ZaV.M
  intro Zje Zq9 Zrh
  refine AWL.step ?_
  refine AWP.seq ?_
  refine AWP.seq ?_
  refine ns ?_
  intro hlen19
  (try rw [List.length_map] at hlen19)
  (try rw [List.length_map])
  refine st ?_
  refine nw ?_
  refine ZN Zq9 Zrh (fun x20 ZCo ZDd ZH9 ZHH => ?_) (fun ZDd => ?_)
  ·subst ZDd
   refine nw ?_
   refine AWP.seq ?_
   refine AWP.block ?_
   refine AWP.seq ?_
   obtain ⟨r23, ZyW, hF⟩ := bind_some hF
   refine nn ?_
   refine sr (Zab (f := Za.cells) (Za.cells_eq x20) ZH9) ?_
   refine st ?_
   refine e3 ?_
   refine st ?_
   refine cm (Zj.weak (rn []) (ZnJ x20 _ ZyW) rfl (WS.mk (Zd (Zt (lc (lc (lc (lc Zo))))) Zc) Zb)) ?_
   refine st ?_
   refine AWP.seq ?_
   refine ns ?_
   refine ns ?_
   refine ns ?_
   refine AWL.weak (rn []) ?_ (Zfl (if r23.1 > ZcR then r23.1 else ZcR) (if r23.2 > ZbG then r23.2 else ZbG) (i_6 + 1) t ZCo _ hF (Zje ++ [x20]) (by rw [Zq9]; simp) (by rw [Zrh]; simp))
   exact (WS.mk (tp (tc (tc (Zd (Zr (Zdf (ZV hlen19 ZHH))) Zc)))) (Zf rfl (cc (cc (cc (cc Zh)))) Zb))
  ·subst ZDd
   refine nw ?_
   refine AWP.seq ?_
   refine ns ?_
   obtain rfl := Zg hF
   refine ns ?_
   refine Exists.intro [] ?_
   refine st ?_
   exact wx (WS.mk (Zd (Zc9 (ZcC (WE.refl _) (ZcC (WE.refl _) Zc6))) Zc) Zb)
theorem Znz : ∀ (t : Za), ∀ r, Za2 t = some r → Za2.M t r := ZiA.1
theorem lazycref04_kinds_l1_ok : ∀ (ZcR : Int) (ZbG : Int) (i_6 : Nat) (t : Za) (Zep : (List Za)), ∀ r, ZaV ZcR ZbG i_6 t Zep = some r → ZaV.M ZcR ZbG i_6 t Zep r := ZiA.2

def ZaI (t : Za) : Option (Int) :=
 ZaQ t >>= fun r3 =>
 if (!r3) = true then
 some 1
 else
 Za2 t >>= fun r5 =>
 ZaN t >>= fun r8 =>
 if ((decide (r8 > 20000)) || (decide (r5.1 > 20000))) = true then
 some 3
 else
 ZaG t >>= fun r11 =>
 if ((decide (r11 > 100)) || (decide (r5.2 > 100))) = true then
 some 4
 else
 some 0
def ZaI.M (t : Za) (r : Int) : Prop :=
 Zj Tryz.prog 36 [.agg [.v (.int .i64 t.fOp), .v (.string t.fName), .sl (t.fBound.fArgs.map Zk.cells), .sl (t.fKids.map Za.cells)]] [] (fun d b => d = .c none (.v (.int .i64 r)) ∧ b = [])
theorem ZdH (t : Za) (r : Int) (hF : ZaI t = some r) : ZaI.M t r := by
 unfold ZaI at hF
 unfold ZaI.M
 refine en Tryz.func36 ?_
 refine AWP.seq ?_
 refine ns ?_
 refine AWP.seq ?_
 refine AWP.seq ?_
 obtain ⟨r3, hr3, hF⟩ := bind_some hF
 refine ns ?_
 refine e3 ?_
 refine st ?_
 refine cm (Zj.weak (rn []) (Znc t _ hr3) rfl (WS.mk (Zd (Zt (lc (lc (lc (lc Zo))))) Zc) Zb)) ?_
 refine st ?_
 refine nw ?_
 refine Zi hF (fun hc4 hF => ?_) (fun hc4 hF => ?_)
 ·refine AWP.seq ?_
  refine ns ?_
  obtain rfl := Zg hF
  refine ns ?_
  refine Exists.intro [] ?_
  refine st ?_
  exact wx (WS.mk (tc Zc) Zb)
 ·refine nw ?_
  refine AWP.seq ?_
  obtain ⟨r5, hr5, hF⟩ := bind_some hF
  refine ns ?_
  refine e3 ?_
  refine st ?_
  refine cm (Zj.weak (rn []) (Znz t _ hr5) rfl (WS.mk (Zd (Zt (lc (lc (lc (lc Zo))))) Zc) Zb)) ?_
  refine st ?_
  refine AWP.seq ?_
  refine AWP.seq ?_
  obtain ⟨r8, hr8, hF⟩ := bind_some hF
  refine AWP.cutN (fun T => ∃ r, WS r T ⟨[(1, .ptr 1 0), (4, .c none (.v (.int .i64 r5.2))), (19, .c none (.v (.bool ((decide (r8 > 20000)) || (decide (r5.1 > 20000))))))], [(1, [(none, .v (.int .i64 t.fOp)), (none, .v (.string t.fName)), (none, .sl (t.fBound.fArgs.map Zk.cells)), (none, .sl (t.fKids.map Za.cells))])]⟩) ?_ (fun T hw => ?_)
  ·refine ns ?_
   refine e3 ?_
   refine st ?_
   refine cm (Zj.weak (rn []) (ZgZ t _ hr8) rfl (WS.mk (Zd (Zt (lc (lc (lc (lc Zo))))) Zc) Zb)) ?_
   refine st ?_
   refine Zm false (fun hc9 => ?_) (fun hc9 => ?_)
   ·(conv => whnf)
    refine st ?_
    exact wx (WS.mk (tp (tc (Zd (Zr (web hc9)) Zc))) (Zf rfl (cc (cc (cc (cc Zh)))) Zb))
   ·(conv => whnf)
    refine st ?_
    exact wx (WS.mk (tp (tc (Zd (Zr (web hc9)) Zc))) (Zf rfl (cc (cc (cc (cc Zh)))) Zb))
  obtain ⟨r0, hw⟩ := hw
  (conv => whnf)
  refine AWP.weak r0 hw ?_
  refine nw ?_
  refine Zi hF (fun Zdr hF => ?_) (fun Zdr hF => ?_)
  ·refine AWP.seq ?_
   refine ns ?_
   obtain rfl := Zg hF
   refine ns ?_
   refine Exists.intro [] ?_
   refine st ?_
   exact wx (WS.mk (tc Zc) Zb)
  ·refine nw ?_
   refine AWP.seq ?_
   refine AWP.seq ?_
   obtain ⟨r11, ZvS, hF⟩ := bind_some hF
   refine AWP.cutN (fun T => ∃ r, WS r T ⟨[(26, .c none (.v (.bool ((decide (r11 > 100)) || (decide (r5.2 > 100))))))], []⟩) ?_ (fun T hw => ?_)
   ·refine ns ?_
    refine e3 ?_
    refine st ?_
    refine cm (Zj.weak (rn []) (Zgy t _ ZvS) rfl (WS.mk (Zd (Zt (lc (lc (lc (lc Zo))))) Zc) Zb)) ?_
    refine st ?_
    refine Zm false (fun ZcH => ?_) (fun ZcH => ?_)
    ·(conv => whnf)
     refine st ?_
     exact wx (WS.mk (Zd (Zr (web ZcH)) Zc) Zb)
    ·(conv => whnf)
     refine st ?_
     exact wx (WS.mk (Zd (Zr (web ZcH)) Zc) Zb)
   obtain ⟨r0, hw⟩ := hw
   (conv => whnf)
   refine AWP.weak r0 hw ?_
   refine nw ?_
   refine Zi hF (fun ZbD hF => ?_) (fun ZbD hF => ?_)
   ·refine AWP.seq ?_
    refine ns ?_
    obtain rfl := Zg hF
    refine ns ?_
    refine Exists.intro [] ?_
    refine st ?_
    exact wx (WS.mk (tc Zc) Zb)
   ·refine nw ?_
    refine AWP.seq ?_
    refine ns ?_
    obtain rfl := Zg hF
    refine ns ?_
    refine Exists.intro [] ?_
    refine st ?_
    exact wx (WS.mk (tc Zc) Zb)

mutual
def Za1 (t : Za) : Option (Bool) :=
 (if (t.fOp == 4) = true then some true else ZM t.fKids >>= fun r1 =>
 some r1) >>= fun c2 =>
 some c2
 partial_fixpoint
def ZM (s : (List Za)) : Option (Bool) :=
 ZS s >>= fun r1 =>
 some (decide (r1 ≥ 0))
 partial_fixpoint
def ZS (s : (List Za)) : Option (Int) :=
 Zw s 0 s
 partial_fixpoint
def Zw (s : (List Za)) (x_8 : Nat) (ZbB : (List Za)) : Option (Int) :=
 (match ZbB with
 | x13 :: ZrS =>
 Za1 x13 >>= fun r16 =>
 if r16 = true then
 some ((x_8 : Nat) : Int)
 else
 Zw s (x_8 + 1) ZrS
 | [] =>
 some (-1))
 partial_fixpoint
end
def Za1.M (t : Za) (r : Bool) : Prop :=
 Zj Tryz.prog 51 [.agg [.v (.int .i64 t.fOp), .v (.string t.fName), .sl (t.fBound.fArgs.map Zk.cells), .sl (t.fKids.map Za.cells)]] [] (fun d b => d = .c none (.v (.bool r)) ∧ b = [])
def ZM.M (s : (List Za)) (r : Bool) : Prop :=
 Zj Tryz.prog 79 [.c none (.sl (s.map Za.cells)), .c none (.v (.func (.func 51) #[] #[]))] [] (fun d b => d = .c none (.v (.bool r)) ∧ b = [])
def ZS.M (s : (List Za)) (r : Int) : Prop :=
 Zj Tryz.prog 104 [.c none (.sl (s.map Za.cells)), .c none (.v (.func (.func 51) #[] #[]))] [] (fun d b => d = .c none (.v (.int .i64 r)) ∧ b = [])
def Zw.M (s : (List Za)) (x_8 : Nat) (ZbB : (List Za)) (r : Int) : Prop :=
 ∀ Zeh : List Za, s = Zeh ++ ZbB → x_8 = Zeh.length → s.length ≤ maxLen → AWL Tryz.prog 19 (Code.sub (Zq Tryz.f104) [1, 0, 1, 0, 0]) (Code.cont Tryz.prog 19 (Zq Tryz.f104) [1, 0, 1, 0] (ZbV tab Tryz.f104.results (ZbX (.c none (.v (.int .i64 r))) []))) ⟨[(0, .c none (.sl (s.map Za.cells))), (1, .c none (.v (.func (.func 51) #[] #[]))), (7, .c none (.v (.int .i64 ((s.length : Nat) : Int)))), (8, .c none (.v (.int .i64 ((x_8 : Nat) : Int))))], []⟩
theorem ZeR : (∀ (t : Za), ∀ r, Za1 t = some r → Za1.M t r) ∧ (∀ (s : (List Za)), ∀ r, ZM s = some r → ZM.M s r) ∧ (∀ (s : (List Za)), ∀ r, ZS s = some r → ZS.M s r) ∧ (∀ (s : (List Za)) (x_8 : Nat) (ZbB : (List Za)), ∀ r, Zw s x_8 ZbB = some r → Zw.M s x_8 ZbB r) := by
 refine Za1.mutual_partial_correctness Za1.M ZM.M ZS.M Zw.M ?_ ?_ ?_ ?_
 ·intro slices_ContainsFunc_Type_unify_quantified' Ze6 t r hF
  unfold Za1.M
  refine en Tryz.func51 ?_
  refine AWP.seq ?_
  refine ns ?_
  refine AWP.seq ?_
  obtain ⟨c2, hc2, hF⟩ := bind_some hF
  refine AWP.cutN (fun T => ∃ r, WS r T ⟨[(2, .c none (.v (.bool c2)))], []⟩) ?_ (fun T hw => ?_)
  ·refine ns ?_
   refine Zm false (fun hc3 => ?_) (fun hc3 => ?_)
   ·have hc2 := ift hc3 hc2
    (conv => whnf)
    obtain rfl := Zg hc2
    refine st ?_
    exact wx (WS.mk (Zd (Zr (web hc3)) Zc) Zb)
   ·have hc2 := ife hc3 hc2
    obtain ⟨r1, hr1, hc2⟩ := bind_some hc2
    (conv => whnf)
    refine st ?_
    refine e3 ?_
    refine st ?_
    refine cm (Zj.weak (rn []) (Ze6 t.fKids _ hr1) rfl (WS.mk (tc (tc Zc)) Zb)) ?_
    refine st ?_
    obtain rfl := Zg hc2
    refine st ?_
    exact wx (WS.mk (Zd (Zr (web hc3)) Zc) Zb)
  obtain ⟨r0, hw⟩ := hw
  (conv => whnf)
  refine AWP.weak r0 hw ?_
  obtain rfl := Zg hF
  refine ns ?_
  refine Exists.intro [] ?_
  refine st ?_
  exact wx (WS.mk (tc Zc) Zb)
 ·intro slices_IndexFunc_Type_unify_quantified' Zfx s r hF
  unfold ZM.M
  refine en Tryz.func79 ?_
  refine AWP.seq ?_
  refine ns ?_
  refine AWP.seq ?_
  obtain ⟨r1, hr1, hF⟩ := bind_some hF
  refine ns ?_
  refine e3 ?_
  refine st ?_
  refine cm (Zj.weak (rn []) (Zfx s _ hr1) rfl (WS.mk (tc (tc Zc)) Zb)) ?_
  refine st ?_
  obtain rfl := Zg hF
  refine ns ?_
  refine Exists.intro [] ?_
  refine st ?_
  exact wx (WS.mk (tc Zc) Zb)
 ·intro slices_IndexFunc_Type_unify_quantified_l1' Zb8 s r hF
  unfold ZS.M
  refine en Tryz.func104 ?_
  refine AWP.seq ?_
  refine ns ?_
  refine AWP.seq ?_
  refine AWP.seq ?_
  refine ns ?_
  intro hlen1
  (try rw [List.length_map] at hlen1)
  (try rw [List.length_map])
  refine st ?_
  refine AWP.block ?_
  refine AWP.loop ?_
  refine AWL.weak (rn []) ?_ (Zb8 s 0 s _ hF ([]) rfl rfl hlen1)
  exact (WS.mk (tc (tc (tc (tc Zc)))) Zb)
 ·intro unify_quantified' slices_IndexFunc_Type_unify_quantified_l1' Znw Zb8 s x_8 ZbB r hF
  unfold Zw.M
  intro Zeh ZjS ZjF hlen1
  refine AWL.step ?_
  refine AWP.seq ?_
  refine ns ?_
  refine AWP.seq ?_
  refine nw ?_
  refine ZN ZjS ZjF (fun x13 ZrS ZqZ ZxV ZyT => ?_) (fun ZqZ => ?_)
  ·subst ZqZ
   refine nw ?_
   refine AWP.seq ?_
   refine AWP.block ?_
   refine AWP.seq ?_
   refine ns ?_
   refine AWP.seq ?_
   obtain ⟨r16, ZvF, hF⟩ := bind_some hF
   refine nn ?_
   refine sr (Zab (f := Za.cells) (Za.cells_eq x13) ZxV) ?_
   refine st ?_
   refine e3 ?_
   refine st ?_
   refine cm (Zj.weak (rn []) (Znw x13 _ ZvF) rfl (WS.mk (Zd (Zt (lc (lc (lc (lc Zo))))) Zc) Zb)) ?_
   refine st ?_
   refine nw ?_
   refine Zi hF (fun ZiJ hF => ?_) (fun ZiJ hF => ?_)
   ·refine AWP.seq ?_
    refine ns ?_
    obtain rfl := Zg hF
    refine ns ?_
    refine Exists.intro [] ?_
    refine st ?_
    exact wx (WS.mk (tc Zc) Zb)
   ·refine nw ?_
    refine ns ?_
    refine AWL.weak (rn []) ?_ (Zb8 s (x_8 + 1) ZrS _ hF (Zeh ++ [x13]) (by rw [ZjS]; simp) (by rw [ZjF]; simp) hlen1)
    exact (WS.mk (tc (tc (tc (Zd (Zr (Zdf (ZV hlen1 ZyT))) Zc)))) Zb)
  ·subst ZqZ
   refine nw ?_
   refine AWP.seq ?_
   refine ns ?_
   obtain rfl := Zg hF
   refine ns ?_
   refine Exists.intro [] ?_
   refine st ?_
   exact wx (WS.mk (tc Zc) Zb)
theorem ZnC : ∀ (t : Za), ∀ r, Za1 t = some r → Za1.M t r := ZeR.1
theorem slices_ContainsFunc_Type_unify_quantified_ok : ∀ (s : (List Za)), ∀ r, ZM s = some r → ZM.M s r := ZeR.2.1
theorem slices_IndexFunc_Type_unify_quantified_ok : ∀ (s : (List Za)), ∀ r, ZS s = some r → ZS.M s r := ZeR.2.2.1
theorem slices_IndexFunc_Type_unify_quantified_l1_ok : ∀ (s : (List Za)) (x_8 : Nat) (ZbB : (List Za)), ∀ r, Zw s x_8 ZbB = some r → Zw.M s x_8 ZbB r := ZeR.2.2.2

def ZdW (t : Za) : Option (Bool) :=
 Zcj t >>= fun r1 =>
 (if (r1 == 0) = true then Za1 t >>= fun r2 =>
 some (!r2) else some false) >>= fun c3 =>
 some c3
def ZdW.M (t : Za) (r : Bool) : Prop :=
 Zj Tryz.prog 31 [.agg [.v (.int .i64 t.fOp), .v (.string t.fName), .sl (t.fBound.fArgs.map Zk.cells), .sl (t.fKids.map Za.cells)]] [] (fun d b => d = .c none (.v (.bool r)) ∧ b = [])
theorem ZlY (t : Za) (r : Bool) (hF : ZdW t = some r) : ZdW.M t r := by
 unfold ZdW at hF
 unfold ZdW.M
 refine en Tryz.func31 ?_
 refine AWP.seq ?_
 refine ns ?_
 refine AWP.seq ?_
 obtain ⟨r1, hr1, hF⟩ := bind_some hF
 obtain ⟨c3, hc3, hF⟩ := bind_some hF
 refine AWP.cutN (fun T => ∃ r, WS r T ⟨[(2, .c none (.v (.bool c3)))], []⟩) ?_ (fun T hw => ?_)
 ·refine ns ?_
  refine e3 ?_
  refine st ?_
  refine cm (Zj.weak (rn []) (Zfb t _ hr1) rfl (WS.mk (Zd (Zt (lc (lc (lc (lc Zo))))) Zc) Zb)) ?_
  refine st ?_
  refine Zm true (fun hc4 => ?_) (fun hc4 => ?_)
  ·have hc3 := ift hc4 hc3
   obtain ⟨r2, hr2, hc3⟩ := bind_some hc3
   (conv => whnf)
   refine st ?_
   refine e3 ?_
   refine st ?_
   refine cm (Zj.weak (rn []) (ZnC t _ hr2) rfl (WS.mk (Zd (Zt (lc (lc (lc (lc Zo))))) Zc) Zb)) ?_
   refine st ?_
   obtain rfl := Zg hc3
   refine st ?_
   exact wx (WS.mk (Zd (Zr (web hc4)) Zc) Zb)
  ·have hc3 := ife hc4 hc3
   (conv => whnf)
   obtain rfl := Zg hc3
   refine st ?_
   exact wx (WS.mk (Zd (Zr (web hc4)) Zc) Zb)
 obtain ⟨r0, hw⟩ := hw
 (conv => whnf)
 refine AWP.weak r0 hw ?_
 obtain rfl := Zg hF
 refine ns ?_
 refine Exists.intro [] ?_
 refine st ?_
 exact wx (WS.mk (tc Zc) Zb)

mutual
def Zaf (t : Za) : Option (Bool) :=
 Zad 0 t t.fKids
 partial_fixpoint
def Zad (i_3 : Nat) (t : Za) (Ze1 : (List Za)) : Option (Bool) :=
 (match Ze1 with
 | x18 :: ZCt =>
 Zaf x18 >>= fun r21 =>
 if r21 = true then
 some true
 else
 Zad (i_3 + 1) t ZCt
 | [] =>
 some (t.fOp == 4))
 partial_fixpoint
end
def Zaf.M (t : Za) (r : Bool) : Prop :=
 Zj Tryz.prog 42 [.agg [.v (.int .i64 t.fOp), .v (.string t.fName), .sl (t.fBound.fArgs.map Zk.cells), .sl (t.fKids.map Za.cells)]] [] (fun d b => d = .c none (.v (.bool r)) ∧ b = [])
def Zad.M (i_3 : Nat) (t : Za) (Ze1 : (List Za)) (r : Bool) : Prop :=
 ∀ Zjd : List Za, t.fKids = Zjd ++ Ze1 → i_3 = Zjd.length → AWL Tryz.prog 20 (Code.sub (Zq Tryz.f42) [1, 0, 1, 0, 0]) (Code.cont Tryz.prog 20 (Zq Tryz.f42) [1, 0, 1, 0] (ZbV tab Tryz.f42.results (ZbX (.c none (.v (.bool r))) []))) ⟨[(1, .ptr 1 0), (3, .c none (.v (.int .i64 ((i_3 : Nat) : Int))))], [(1, [(none, .v (.int .i64 t.fOp)), (none, .v (.string t.fName)), (none, .sl (t.fBound.fArgs.map Zk.cells)), (none, .sl (t.fKids.map Za.cells))])]⟩
theorem Zgk : (∀ (t : Za), ∀ r, Zaf t = some r → Zaf.M t r) ∧ (∀ (i_3 : Nat) (t : Za) (Ze1 : (List Za)), ∀ r, Zad i_3 t Ze1 = some r → Zad.M i_3 t Ze1 r) := by
 refine Zaf.mutual_partial_correctness Zaf.M Zad.M ?_ ?_
 ·intro lazycref18_quantified_l1' Zeg t r hF
  unfold Zaf.M
  refine en Tryz.func42 ?_
  refine AWP.seq ?_
  refine ns ?_
  refine AWP.seq ?_
  refine AWP.seq ?_
  refine ns ?_
  refine AWP.block ?_
  refine AWP.loop ?_
  refine AWL.weak (rn []) ?_ (Zeg 0 t t.fKids _ hF ([]) rfl rfl)
  exact (WS.mk (tp (tc Zc)) (Zf rfl (cc (cc (cc (cc Zh)))) Zb))
 ·intro lazycref18_quantified' lazycref18_quantified_l1' Zks Zeg i_3 t Ze1 r hF
  unfold Zad.M
  intro Zjd ZrJ ZqK
  refine AWL.step ?_
  refine AWP.seq ?_
  refine AWP.seq ?_
  refine ns ?_
  intro hlen17
  (try rw [List.length_map] at hlen17)
  (try rw [List.length_map])
  refine st ?_
  refine nw ?_
  refine ZN ZrJ ZqK (fun x18 ZCt ZCI ZHv ZHV => ?_) (fun ZCI => ?_)
  ·subst ZCI
   refine nw ?_
   refine AWP.seq ?_
   refine AWP.block ?_
   refine AWP.seq ?_
   obtain ⟨r21, ZCP, hF⟩ := bind_some hF
   refine nn ?_
   refine sr (Zab (f := Za.cells) (Za.cells_eq x18) ZHv) ?_
   refine st ?_
   refine e3 ?_
   refine st ?_
   refine cm (Zj.weak (rn []) (Zks x18 _ ZCP) rfl (WS.mk (Zd (Zt (lc (lc (lc (lc Zo))))) Zc) Zb)) ?_
   refine st ?_
   refine nw ?_
   refine Zi hF (fun Zs4 hF => ?_) (fun Zs4 hF => ?_)
   ·refine AWP.seq ?_
    refine ns ?_
    obtain rfl := Zg hF
    refine ns ?_
    refine Exists.intro [] ?_
    refine st ?_
    exact wx (WS.mk (tc Zc) Zb)
   ·refine nw ?_
    refine ns ?_
    refine AWL.weak (rn []) ?_ (Zeg (i_3 + 1) t ZCt _ hF (Zjd ++ [x18]) (by rw [ZrJ]; simp) (by rw [ZqK]; simp))
    exact (WS.mk (tp (Zd (Zr (Zdf (ZV hlen17 ZHV))) Zc)) (Zf rfl (cc (cc (cc (cc Zh)))) Zb))
  ·subst ZCI
   refine nw ?_
   refine AWP.seq ?_
   refine ns ?_
   obtain rfl := Zg hF
   refine ns ?_
   refine Exists.intro [] ?_
   refine st ?_
   exact wx (WS.mk (tc Zc) Zb)
theorem Zkq : ∀ (t : Za), ∀ r, Zaf t = some r → Zaf.M t r := Zgk.1
theorem lazycref18_quantified_l1_ok : ∀ (i_3 : Nat) (t : Za) (Ze1 : (List Za)), ∀ r, Zad i_3 t Ze1 = some r → Zad.M i_3 t Ze1 r := Zgk.2

def Zcd (t : Za) : Option (Bool) :=
 ZaI t >>= fun r1 =>
 (if (r1 == 0) = true then Zaf t >>= fun r2 =>
 some (!r2) else some false) >>= fun c3 =>
 some c3
def Zcd.M (t : Za) (r : Bool) : Prop :=
 Zj Tryz.prog 21 [.agg [.v (.int .i64 t.fOp), .v (.string t.fName), .sl (t.fBound.fArgs.map Zk.cells), .sl (t.fKids.map Za.cells)]] [] (fun d b => d = .c none (.v (.bool r)) ∧ b = [])
theorem ZiF (t : Za) (r : Bool) (hF : Zcd t = some r) : Zcd.M t r := by
 unfold Zcd at hF
 unfold Zcd.M
 refine en Tryz.func21 ?_
 refine AWP.seq ?_
 refine ns ?_
 refine AWP.seq ?_
 obtain ⟨r1, hr1, hF⟩ := bind_some hF
 obtain ⟨c3, hc3, hF⟩ := bind_some hF
 refine AWP.cutN (fun T => ∃ r, WS r T ⟨[(2, .c none (.v (.bool c3)))], []⟩) ?_ (fun T hw => ?_)
 ·refine ns ?_
  refine e3 ?_
  refine st ?_
  refine cm (Zj.weak (rn []) (ZdH t _ hr1) rfl (WS.mk (Zd (Zt (lc (lc (lc (lc Zo))))) Zc) Zb)) ?_
  refine st ?_
  refine Zm true (fun hc4 => ?_) (fun hc4 => ?_)
  ·have hc3 := ift hc4 hc3
   obtain ⟨r2, hr2, hc3⟩ := bind_some hc3
   (conv => whnf)
   refine st ?_
   refine e3 ?_
   refine st ?_
   refine cm (Zj.weak (rn []) (Zkq t _ hr2) rfl (WS.mk (Zd (Zt (lc (lc (lc (lc Zo))))) Zc) Zb)) ?_
   refine st ?_
   obtain rfl := Zg hc3
   refine st ?_
   exact wx (WS.mk (Zd (Zr (web hc4)) Zc) Zb)
  ·have hc3 := ife hc4 hc3
   (conv => whnf)
   obtain rfl := Zg hc3
   refine st ?_
   exact wx (WS.mk (Zd (Zr (web hc4)) Zc) Zb)
 obtain ⟨r0, hw⟩ := hw
 (conv => whnf)
 refine AWP.weak r0 hw ?_
 obtain rfl := Zg hF
 refine ns ?_
 refine Exists.intro [] ?_
 refine st ?_
 exact wx (WS.mk (tc Zc) Zb)

mutual
def Zcp (t : Za) : Option (Za) :=
 ZaM t 0 ([]) t.fKids
 partial_fixpoint
def ZaM (t : Za) (Zqh : Nat) (Ze7 : (List Za)) (Ziv : (List Za)) : Option (Za) :=
 (match Ziv with
 | x59 :: ZvI =>
 Zcp x59 >>= fun r68 =>
 Z4 ((Ze7.length + ([r68]).length) * 72 ≤ 140737488355328) >>= fun _ =>
 ZaM t (Zqh + 1) (Ze7 ++ ([r68])) ZvI
 | [] =>
 some (Za.mk t.fOp t.fName t.fBound Ze7))
 partial_fixpoint
end
def Zcp.M (t : Za) (r : Za) : Prop :=
 Zj Tryz.prog 54 [.agg [.v (.int .i64 t.fOp), .v (.string t.fName), .sl (t.fBound.fArgs.map Zk.cells), .sl (t.fKids.map Za.cells)]] [] (fun d b => d = .agg [.v (.int .i64 r.fOp), .v (.string r.fName), .sl (r.fBound.fArgs.map Zk.cells), .sl (r.fKids.map Za.cells)] ∧ b = [])
def ZaM.M (t : Za) (Zqh : Nat) (Ze7 : (List Za)) (Ziv : (List Za)) (r : Za) : Prop :=
 ∀ ZoM : List Za, t.fKids = ZoM ++ Ziv → Zqh = ZoM.length → t.fKids.length ≤ maxLen → AWL Tryz.prog 24 (Code.sub (Zq Tryz.f54) [1, 1, 1, 0, 1, 0, 0]) (Code.cont Tryz.prog 24 (Zq Tryz.f54) [1, 1, 1, 0, 1, 0] (ZbV tab Tryz.f54.results (ZbX (.agg [.v (.int .i64 r.fOp), .v (.string r.fName), .sl (r.fBound.fArgs.map Zk.cells), .sl (r.fKids.map Za.cells)]) []))) ⟨[(1, .ptr 1 0), (2, .ptr 2 0), (9, .c none (.sl (t.fKids.map Za.cells))), (10, .c none (.v (.int .i64 ((t.fKids.length : Nat) : Int)))), (11, .c none (.v (.int .i64 ((Zqh : Nat) : Int))))], [(1, [(none, .v (.int .i64 t.fOp)), (none, .v (.string t.fName)), (none, .sl (t.fBound.fArgs.map Zk.cells)), ((some (4053, 28)), .sl (Ze7.map Za.cells))]), (2, [(none, .v (.int .i64 0)), (none, .v (.string (ByteArray.mk #[]))), (none, .nils), (none, .nils)])]⟩
theorem Zk0 : (∀ (t : Za), ∀ r, Zcp t = some r → Zcp.M t r) ∧ (∀ (t : Za) (Zqh : Nat) (Ze7 : (List Za)) (Ziv : (List Za)), ∀ r, ZaM t Zqh Ze7 Ziv = some r → ZaM.M t Zqh Ze7 Ziv r) := by
 refine Zcp.mutual_partial_correctness Zcp.M ZaM.M ?_ ?_
 ·intro unify_copied_l1' Zg2 t r hF
  unfold Zcp.M
  refine en Tryz.func54 ?_
  refine AWP.seq ?_
  refine ns ?_
  refine AWP.seq ?_
  refine ns ?_
  refine AWP.seq ?_
  refine ns ?_
  refine AWP.seq ?_
  refine AWP.seq ?_
  refine ns ?_
  intro hlen35
  (try rw [List.length_map] at hlen35)
  (try rw [List.length_map])
  refine st ?_
  refine AWP.block ?_
  refine AWP.loop ?_
  refine AWL.weak (rn []) ?_ (Zg2 t 0 ([]) t.fKids _ hF ([]) rfl rfl hlen35)
  exact (WS.mk (tp (tp (tc (tc (tc Zc))))) (Zf rfl (cc (cc (cc (Znn Zh)))) (Zf rfl (cc (cc (cc (cc Zh)))) Zb)))
 ·intro unify_copied' unify_copied_l1' Zqg Zg2 t Zqh Ze7 Ziv r hF
  unfold ZaM.M
  intro ZoM Zxi ZwK hlen35
  refine AWL.step ?_
  refine AWP.seq ?_
  refine ns ?_
  refine AWP.seq ?_
  refine nw ?_
  refine ZN Zxi ZwK (fun x59 ZvI Zv6 ZCi ZDK => ?_) (fun Zv6 => ?_)
  ·subst Zv6
   refine nw ?_
   refine AWP.seq ?_
   refine AWP.block ?_
   refine AWP.seq ?_
   refine nn ?_
   refine sr (Zab (f := Za.cells) (Za.cells_eq x59) ZCi) ?_
   refine st ?_
   obtain ⟨r68, ZDi, hF⟩ := bind_some hF
   obtain ⟨ZC7, hF⟩ := Zy hF
   refine nn ?_
   refine Or.inl (Exists.intro 5 (Exists.intro [[], [], [], [], []] (Exists.intro [([15, 16, 17, 18, 19], [], []), ([16, 17, 18, 19], [], []), ([15, 16, 17, 18, 19], [], []), ([15, 16, 18, 19], [], []), ([15, 16, 19], [], [])] (Exists.intro [15, 16, 17, 18, 19] (And.intro (by decide +kernel) ?_)))))
   refine dp ?_
   refine dp ?_
   refine dp ?_
   (refine st ?_; apply Exists.intro; apply Exists.intro; apply And.intro; (focus ((conv => whnf); refine Exists.intro [] ?_; (conv => whnf); refine And.intro rfl ?_; (conv => whnf); refine Zj.mono (Zj.weak (rn []) (Zqg x59 _ ZDi) rfl (WS.mk (Zd (Zt (lc (lc (lc (lc Zo))))) Zc) Zb)) ?_; rintro d b ⟨rfl, rfl⟩; exact And.intro rfl (And.intro rfl rfl))); apply And.intro; (focus exact rfl); (conv => whnf))
   refine de (Zbv (f := Za.cells) (ZdA (Za.cells_eq r68) (lc (lc (lc (lc Zo))))) (ZY (f := Za.cells))) ?_
   refine sa (fun l => ZbS l (fun x => Za.cells_len x)) ZC7 ?_
   refine Exists.intro _ (And.intro (WE.refl _) ?_)
   rw [← List.map_append]
   refine st ?_
   refine ns ?_
   refine AWL.weak (rn [(20, 4053)]) ?_ (Zg2 t (Zqh + 1) (Ze7 ++ ([r68])) ZvI _ hF (ZoM ++ [x59]) (by rw [Zxi]; simp) (by rw [ZwK]; simp) hlen35)
   exact (WS.mk (tp (tp (tc (tc (Zd (Zr (Zdf (ZV hlen35 ZDK))) Zc))))) (Zf rfl (cc (cc (cc (Ztr rfl (WE.refl _) Zh)))) (Zf rfl (cc (cc (cc (cc Zh)))) Zb)))
  ·subst Zv6
   refine nw ?_
   refine AWP.seq ?_
   refine ns ?_
   obtain rfl := Zg hF
   refine ns ?_
   refine Exists.intro [] ?_
   refine st ?_
   exact wx (WS.mk (Zd (Zt (lc (lc (lc (lc Zo))))) Zc) Zb)
theorem Zqi : ∀ (t : Za), ∀ r, Zcp t = some r → Zcp.M t r := Zk0.1
theorem unify_copied_l1_ok : ∀ (t : Za) (Zqh : Nat) (Ze7 : (List Za)) (Ziv : (List Za)), ∀ r, ZaM t Zqh Ze7 Ziv = some r → ZaM.M t Zqh Ze7 Ziv r := Zk0.2

mutual
def ZaT (k : Zk) : Option (Zk) :=
 Zbc k 0 ([]) k.fArgs
 partial_fixpoint
def Zbc (k : Zk) (x_9 : Nat) (Zgd : (List Zk)) (ZaW : (List Zk)) : Option (Zk) :=
 (match ZaW with
 | x59 :: ZvI =>
 ZaT x59 >>= fun r68 =>
 Z4 ((Zgd.length + ([r68]).length) * 24 ≤ 140737488355328) >>= fun _ =>
 Zbc k (x_9 + 1) (Zgd ++ ([r68])) ZvI
 | [] =>
 some (Zk.mk Zgd))
 partial_fixpoint
end
def ZaT.M (k : Zk) (r : Zk) : Prop :=
 Zj Tryz.prog 99 [.agg [.sl (k.fArgs.map Zk.cells)]] [] (fun d b => d = .agg [.sl (r.fArgs.map Zk.cells)] ∧ b = [])
def Zbc.M (k : Zk) (x_9 : Nat) (Zgd : (List Zk)) (ZaW : (List Zk)) (r : Zk) : Prop :=
 ∀ Zdw : List Zk, k.fArgs = Zdw ++ ZaW → x_9 = Zdw.length → k.fArgs.length ≤ maxLen → AWL Tryz.prog 22 (Code.sub (Zq Tryz.f99) [1, 1, 0, 1, 0, 0]) (Code.cont Tryz.prog 22 (Zq Tryz.f99) [1, 1, 0, 1, 0] (ZbV tab Tryz.f99.results (ZbX (.agg [.sl (r.fArgs.map Zk.cells)]) []))) ⟨[(2, .ptr 2 0), (3, .ptr 3 0), (7, .c none (.sl (k.fArgs.map Zk.cells))), (8, .c none (.v (.int .i64 ((k.fArgs.length : Nat) : Int)))), (9, .c none (.v (.int .i64 ((x_9 : Nat) : Int))))], [(2, [(none, .nils)]), (3, [((some (4150, 25)), .sl (Zgd.map Zk.cells))])]⟩
theorem ZiI : (∀ (k : Zk), ∀ r, ZaT k = some r → ZaT.M k r) ∧ (∀ (k : Zk) (x_9 : Nat) (Zgd : (List Zk)) (ZaW : (List Zk)), ∀ r, Zbc k x_9 Zgd ZaW = some r → Zbc.M k x_9 Zgd ZaW r) := by
 refine ZaT.mutual_partial_correctness ZaT.M Zbc.M ?_ ?_
 ·intro types_copiedKind_l1' Zfo k r hF
  unfold ZaT.M
  refine en Tryz.func99 ?_
  refine AWP.seq ?_
  refine ns ?_
  refine AWP.seq ?_
  refine ns ?_
  refine AWP.seq ?_
  refine AWP.seq ?_
  refine ns ?_
  intro hlen35
  (try rw [List.length_map] at hlen35)
  (try rw [List.length_map])
  refine st ?_
  refine AWP.block ?_
  refine AWP.loop ?_
  refine AWL.weak (rn []) ?_ (Zfo k 0 ([]) k.fArgs _ hF ([]) rfl rfl hlen35)
  exact (WS.mk (tp (tp (tc (tc (tc Zc))))) (Zf rfl (cc Zh) (Zf rfl (Znn Zh) Zb)))
 ·intro types_copiedKind' types_copiedKind_l1' ZnO Zfo k x_9 Zgd ZaW r hF
  unfold Zbc.M
  intro Zdw Zho Zhr hlen35
  refine AWL.step ?_
  refine AWP.seq ?_
  refine ns ?_
  refine AWP.seq ?_
  refine nw ?_
  refine ZN Zho Zhr (fun x59 ZvI Zv6 ZCi ZDK => ?_) (fun Zv6 => ?_)
  ·subst Zv6
   refine nw ?_
   refine AWP.seq ?_
   refine AWP.block ?_
   refine AWP.seq ?_
   refine nn ?_
   refine sr (Zab (f := Zk.cells) (Zk.cells_eq x59) ZCi) ?_
   refine st ?_
   obtain ⟨r68, ZDi, hF⟩ := bind_some hF
   obtain ⟨ZC7, hF⟩ := Zy hF
   refine nn ?_
   refine Or.inl (Exists.intro 5 (Exists.intro [[], [], [], [], []] (Exists.intro [([13, 14, 15, 16, 17], [], []), ([14, 15, 16, 17], [], []), ([13, 14, 15, 16, 17], [], []), ([13, 14, 16, 17], [], []), ([13, 14, 17], [], [])] (Exists.intro [13, 14, 15, 16, 17] (And.intro (by decide +kernel) ?_)))))
   refine dp ?_
   refine dp ?_
   refine dp ?_
   (refine st ?_; apply Exists.intro; apply Exists.intro; apply And.intro; (focus ((conv => whnf); refine Exists.intro [] ?_; (conv => whnf); refine And.intro rfl ?_; (conv => whnf); refine Zj.mono (Zj.weak (rn []) (ZnO x59 _ ZDi) rfl (WS.mk (Zd (Zt (lc Zo)) Zc) Zb)) ?_; rintro d b ⟨rfl, rfl⟩; exact And.intro rfl (And.intro rfl rfl))); apply And.intro; (focus exact rfl); (conv => whnf))
   refine de (Zbv (f := Zk.cells) (ZdA (Zk.cells_eq r68) (lc Zo)) (ZY (f := Zk.cells))) ?_
   refine sa (fun l => ZbS l (fun x => Zk.cells_len x)) ZC7 ?_
   refine Exists.intro _ (And.intro (WE.refl _) ?_)
   rw [← List.map_append]
   refine st ?_
   refine ns ?_
   refine AWL.weak (rn [(18, 4150)]) ?_ (Zfo k (x_9 + 1) (Zgd ++ ([r68])) ZvI _ hF (Zdw ++ [x59]) (by rw [Zho]; simp) (by rw [Zhr]; simp) hlen35)
   exact (WS.mk (tp (tp (tc (tc (Zd (Zr (Zdf (ZV hlen35 ZDK))) Zc))))) (Zf rfl (cc Zh) (Zf rfl (Ztr rfl (WE.refl _) Zh) Zb)))
  ·subst Zv6
   refine nw ?_
   refine AWP.seq ?_
   refine ns ?_
   obtain rfl := Zg hF
   refine ns ?_
   refine Exists.intro [] ?_
   refine st ?_
   exact wx (WS.mk (Zd (Zt (lc Zo)) Zc) Zb)
theorem ZnI : ∀ (k : Zk), ∀ r, ZaT k = some r → ZaT.M k r := ZiI.1
theorem types_copiedKind_l1_ok : ∀ (k : Zk) (x_9 : Nat) (Zgd : (List Zk)) (ZaW : (List Zk)), ∀ r, Zbc k x_9 Zgd ZaW = some r → Zbc.M k x_9 Zgd ZaW r := ZiI.2

end Go.Proofs.YtgbglhbdjambbaaGreatDoor
