/- Part 5 of the proof: the program's functions as Lean functions with their walks, and the plain law. It holds for every input, without conditions. -/
import Derived.Test.YtgbglhbdjambbaaGreatDoorProg
import Derived.Lib.AppendIntMem
import Derived.Test.YtgbglhbdjambbaaGreatDoorUqA
import Derived.Test.YtgbglhbdjambbaaGreatDoorUqB
import Derived.Test.YtgbglhbdjambbaaGreatDoorUqC
import Derived.Test.YtgbglhbdjambbaaGreatDoorUqD
set_option linter.unusedVariables false
namespace Go.Proofs.YtgbglhbdjambbaaGreatDoor
open Go Go.Am
def ZwZ (o : Option Value) : Prop := ∃ m, o = some (.int .i64 m)
def Znk (o : Option Value) : Prop := ∃ ev, o = some ev ∧ (ev = .nilIface ∨ ∃ te pe, ev = .iface te pe)
def Ztq (i : Nat) (o : Option Value) : Prop := o = some (.int .u64 ((10 ^ i : Nat) : Int))
def ZrQ (o : Option Value) : Prop := o = none
def Zow : List (Nat × Nat × (Option Value → Prop)) := (3, 20, ZrQ) :: (List.range 20).map fun i => (3, i, Ztq i)
def Zd5 : List (Nat × Nat × (Option Value → Prop)) := [(0, 0, ZwZ), (1, 0, Znk), (2, 0, Znk)]
instance : Gl Tryz.prog := ⟨Zow ++ Zd5⟩

def tab : Tab := [
 (2, ⟨(.int .i64), 1, 8, some [.v (.int .i64 0)], true⟩),
 (3, ⟨(.int .i64), 1, 8, some [.v (.int .i64 0)], true⟩),
 (4, ⟨.bool, 1, 1, some [.v (.bool false)], true⟩),
 (5, ⟨(.int .u8), 1, 1, some [.v (.int .u8 0)], true⟩),
 (9, ⟨.string, 1, 16, some [.v (.string ⟨#[]⟩)], true⟩),
 (12, ⟨(.int .u64), 1, 8, some [.v (.int .u64 0)], true⟩),
 (13, ⟨(.struct [(9, 0), (12, 1)]), 2, 24, some [.v (.string ⟨#[]⟩), .v (.int .u64 0)], false⟩),
 (21, ⟨(.int .i32), 1, 4, some [.v (.int .i32 0)], true⟩),
 (22, ⟨(.int .i64), 1, 8, some [.v (.int .i64 0)], true⟩),
 (23, ⟨(.slice 25), 1, 24, some [.nils], true⟩),
 (24, ⟨(.struct [(23, 0)]), 1, 24, some [.nils], true⟩),
 (25, ⟨(.struct [(23, 0)]), 1, 24, some [.nils], true⟩),
 (26, ⟨(.slice 28), 1, 24, some [.nils], true⟩),
 (27, ⟨(.struct [(22, 0), (9, 1), (25, 2), (26, 3)]), 4, 72, some [.v (.int .i64 0), .v (.string ⟨#[]⟩), .nils, .nils], true⟩),
 (28, ⟨(.struct [(22, 0), (9, 1), (25, 2), (26, 3)]), 4, 72, some [.v (.int .i64 0), .v (.string ⟨#[]⟩), .nils, .nils], true⟩),
 (31, ⟨(.slice 45), 1, 24, some [.nils], true⟩),
 (32, ⟨(.int .i64), 1, 8, some [.v (.int .i64 0)], true⟩),
 (37, ⟨(.slice 38), 1, 24, some [.nils], true⟩),
 (38, ⟨(.array 2 28), 8, 144, some [.v (.int .i64 0), .v (.string ⟨#[]⟩), .nils, .nils, .v (.int .i64 0), .v (.string ⟨#[]⟩), .nils, .nils], true⟩),
 (42, ⟨(.slice 9), 1, 24, some [.nils], true⟩),
 (44, ⟨(.struct [(9, 0), (28, 1)]), 5, 88, some [.v (.string ⟨#[]⟩), .v (.int .i64 0), .v (.string ⟨#[]⟩), .nils, .nils], true⟩),
 (45, ⟨(.struct [(9, 0), (28, 1)]), 5, 88, some [.v (.string ⟨#[]⟩), .v (.int .i64 0), .v (.string ⟨#[]⟩), .nils, .nils], true⟩),
 (53, ⟨(.ptr 56), 1, 8, some [.v (.pointer none)], true⟩),
 (54, ⟨(.map 9 3), 1, 8, some [.v (.map none)], true⟩),
 (55, ⟨(.struct [(31, 0), (54, 1)]), 2, 32, some [.nils, .v (.map none)], true⟩),
 (56, ⟨(.struct [(31, 0), (54, 1)]), 2, 32, some [.nils, .v (.map none)], true⟩),
 (67, ⟨(.map 9 4), 1, 8, some [.v (.map none)], true⟩),
 (69, ⟨(.ptr 70), 1, 8, some [.v (.pointer none)], true⟩),
 (70, ⟨(.struct [(31, 0), (54, 1)]), 2, 32, some [.nils, .v (.map none)], true⟩),
 (74, ⟨(.map 9 9), 1, 8, some [.v (.map none)], true⟩),
 (81, ⟨(.int .i64), 1, 8, some [.v (.int .i64 0)], true⟩),
 (91, ⟨(.map 9 28), 1, 8, some [.v (.map none)], true⟩),
 (106, ⟨(.map 22 3), 1, 8, some [.v (.map none)], true⟩),
 (114, ⟨.iface, 1, 16, some [.v .nilIface], false⟩),
 (118, ⟨(.slice 123), 1, 24, some [.nils], true⟩),
 (122, ⟨(.struct [(9, 0), (9, 1)]), 2, 32, some [.v (.string ⟨#[]⟩), .v (.string ⟨#[]⟩)], true⟩),
 (123, ⟨(.struct [(9, 0), (9, 1)]), 2, 32, some [.v (.string ⟨#[]⟩), .v (.string ⟨#[]⟩)], true⟩),
 (131, ⟨(.int .i64), 1, 8, some [.v (.int .i64 0)], true⟩),
 (132, ⟨(.slice 5), 1, 24, some [.nils], true⟩),
 (139, ⟨(.int .u64), 1, 8, some [.v (.int .u64 0)], true⟩),
 (146, ⟨(.int .u64), 1, 8, some [.v (.int .u64 0)], true⟩),
 (148, ⟨(.struct [(9, 0), (9, 1), (114, 2)]), 3, 48, some [.v (.string ⟨#[]⟩), .v (.string ⟨#[]⟩), .v .nilIface], false⟩),
 (155, ⟨(.int .u32), 1, 4, some [.v (.int .u32 0)], true⟩),
 (160, ⟨(.ptr 5), 1, 8, some [.v (.pointer none)], true⟩),
 (162, ⟨(.struct [(9, 0)]), 1, 16, some [.v (.string ⟨#[]⟩)], true⟩)]
set_option maxRecDepth 100000
theorem tabOk : TOk Tryz.prog tab := by unfold TOk; kernel_rfl
theorem follows : Tryz.prog.follows .mixedOrders = true := by kernel_rfl
theorem ZFi (nt : Nat) (h : nt ≤ EXT) : Zoq Tryz.prog tab nt (@Zsk) := Zzj tabOk h follows

set_option linter.unusedSimpArgs false
set_option maxHeartbeats 4000000
set_option synthInstance.maxHeartbeats 1000000
set_option synthInstance.maxSize 1000
theorem nd {nt : Nat} (h : decide (nt ≤ EXT) = true) (c : Code) (Q : Exit → AS → Prop) (S : AS) (hk : Am.node (@Zsk) Tryz.prog tab nt c Q S) : AWP Tryz.prog nt c Q S :=
 AWP.node tabOk (of_decide_eq_true h) (ZFi nt (of_decide_eq_true h)) c Q S hk
theorem ZAD : (Tryz.prog.underlying 1000000).isNone = true := by kernel_rfl
theorem nn {nt : Nat} {c : Code} {Q : Exit → AS → Prop} {S : AS} (hk : Am.node (@Zsk) Tryz.prog tab nt c Q S) (h : decide (nt ≤ EXT) = true := by decide) : AWP Tryz.prog nt c Q S := nd h c Q S hk
theorem nw {nt : Nat} {c : Code} {Q : Exit → AS → Prop} {S : AS} {G' : Prop} (hk : G') (s : Zez (Am.node (@Zsk) Tryz.prog tab nt c Q S) G' := by (conv => (arg 1; whnf)); exact Zez.done) (h : decide (nt ≤ EXT) = true := by decide) : AWP Tryz.prog nt c Q S := nd h c Q S (s hk)
theorem ns {nt : Nat} {c : Code} {Q : Exit → AS → Prop} {S : AS} {G' : Prop} (hk : G') (s : Zez (Am.node (@Zsk) Tryz.prog tab nt c Q S) G' := by
  (repeat (first | ((conv => (arg 1; whnf)); (with_reducible apply Zez.side); (focus (first | exact Eq.refl _ | exact trivial | (with_reducible assumption) | (with_reducible exact Int.natCast_nonneg _) | exact Nat.le_of_ble_eq_true (Eq.refl true) | exact Zd9 (Eq.refl _) (Eq.refl _) (Eq.refl _) | decide)))))
  (conv => (arg 1; whnf))
  exact Zez.done) (h : decide (nt ≤ EXT) = true := by decide) : AWP Tryz.prog nt c Q S := nd h c Q S (s hk)
theorem en {f : FuncId} {fn : Func} (hf : Tryz.prog.funcs[f]? = some fn) {args : List D} {bx bx' : ZbK} {d' : D} (hk : AWP Tryz.prog fn.ntmps (Zq fn) (ZbW tab fn.results (ZbY d' bx')) ⟨ZdZ 0 args, bx⟩)
  (hb : fn.body.isSome = true := by exact rfl) (hname : (fn.name == "runtime.NumGoroutine") = false := by decide) (hargs : args.length ≤ fn.ntmps := by exact Nat.le_of_ble_eq_true rfl) : Zj Tryz.prog f args bx fun d b => d = d' ∧ b = bx' :=
 enter tabOk hf hb hname hargs hk
mutual
inductive Zk where
 | mk (fArgs : (List Zk))
end
def Zk.fArgs : Zk → (List Zk) | .mk x => x
mutual
def Zk.cells : Zk → List E
 | .mk x0 => [.sl (Zk.encs x0)]
def Zk.encs : List Zk → List (List E)
 | [] => []
 | x :: xs => Zk.cells x :: Zk.encs xs
end
theorem Zk.encs_map : ∀ l : List Zk, Zk.encs l = l.map Zk.cells
 | [] => by simp [Zk.encs]
 | x :: xs => by simp [Zk.encs, Zk.encs_map xs]
theorem Zk.cells_eq (v : Zk) : v.cells = [.sl (v.fArgs.map Zk.cells)] := by
 cases v
 simp only [Zk.cells, List.cons_append, List.nil_append, Zk.encs_map]
 rfl
theorem Zk.cells_len (v : Zk) : v.cells.length = 1 := by rw [Zk.cells_eq]; rfl
theorem Zk.ind {M : Zk → Prop} (h : ∀ v : Zk, (∀ k ∈ v.fArgs, M k) → M v) : ∀ v, M v := by
 intro v
 exact Zk.rec (motive_1 := M) (motive_2 := fun l => ∀ k ∈ l, M k) (fun x0 ih => h _ ih) (fun k hk => by simp at hk) (fun v l hv hl k hk => by
  rcases List.mem_cons.1 hk with rfl | hk
  ·exact hv
  ·exact hl k hk) v
mutual
inductive Za where
 | mk (fOp : Int) (fName : ByteArray) (fBound : Zk) (fKids : (List Za))
end
def Za.fOp : Za → Int | .mk x _ _ _ => x
def Za.fName : Za → ByteArray | .mk _ x _ _ => x
def Za.fBound : Za → Zk | .mk _ _ x _ => x
def Za.fKids : Za → (List Za) | .mk _ _ _ x => x
mutual
def Za.cells : Za → List E
 | .mk x0 x1 x2 x3 => [.v (.int .i64 x0)] ++ [.v (.string x1)] ++ [.sl (x2.fArgs.map Zk.cells)] ++ [.sl (Za.encs x3)]
def Za.encs : List Za → List (List E)
 | [] => []
 | x :: xs => Za.cells x :: Za.encs xs
end
theorem Za.encs_map : ∀ l : List Za, Za.encs l = l.map Za.cells
 | [] => by simp [Za.encs]
 | x :: xs => by simp [Za.encs, Za.encs_map xs]
theorem Za.cells_eq (v : Za) : v.cells = [.v (.int .i64 v.fOp), .v (.string v.fName), .sl (v.fBound.fArgs.map Zk.cells), .sl (v.fKids.map Za.cells)] := by
 cases v
 simp only [Za.cells, List.cons_append, List.nil_append, Za.encs_map]
 rfl
theorem Za.cells_len (v : Za) : v.cells.length = 4 := by rw [Za.cells_eq]; rfl
theorem Za.ind {M : Za → Prop} (h : ∀ v : Za, (∀ k ∈ v.fKids, M k) → M v) : ∀ v, M v := by
 intro v
 exact Za.rec (motive_1 := M) (motive_2 := fun l => ∀ k ∈ l, M k) (fun x0 x1 x2 x3 ih => h _ ih) (fun k hk => by simp at hk) (fun v l hv hl k hk => by
  rcases List.mem_cons.1 hk with rfl | hk
  ·exact hv
  ·exact hl k hk) v
structure Ze where
 fName : ByteArray
 fType : Za
def Ze.cells (v : Ze) : List E := [.v (.string v.fName), .v (.int .i64 v.fType.fOp), .v (.string v.fType.fName), .sl (v.fType.fBound.fArgs.map Zk.cells), .sl (v.fType.fKids.map Za.cells)]
theorem Ze.cells_eq (v : Ze) : v.cells = [.v (.string v.fName), .v (.int .i64 v.fType.fOp), .v (.string v.fType.fName), .sl (v.fType.fBound.fArgs.map Zk.cells), .sl (v.fType.fKids.map Za.cells)] := rfl
theorem Ze.cells_len (v : Ze) : v.cells.length = 5 := rfl
def c_S (x : ByteArray) : List E := [.v (.string x)]
theorem ZfO (x : ByteArray) : (c_S x).length = 1 := rfl
def Zcv (x : Int) : List E := [.v (.int .i64 x)]
theorem Zne (x : Int) : (Zcv x).length = 1 := rfl
structure Zu where
 flist : (List Ze)
 fat : (List (ByteArray × Int))
structure Zl where
 e0 : Za
 e1 : Za
def Zl.cells (v : Zl) : List E := [.v (.int .i64 v.e0.fOp), .v (.string v.e0.fName), .sl (v.e0.fBound.fArgs.map Zk.cells), .sl (v.e0.fKids.map Za.cells), .v (.int .i64 v.e1.fOp), .v (.string v.e1.fName), .sl (v.e1.fBound.fArgs.map Zk.cells), .sl (v.e1.fKids.map Za.cells)]
theorem Zl.cells_eq (v : Zl) : v.cells = [.v (.int .i64 v.e0.fOp), .v (.string v.e0.fName), .sl (v.e0.fBound.fArgs.map Zk.cells), .sl (v.e0.fKids.map Za.cells), .v (.int .i64 v.e1.fOp), .v (.string v.e1.fName), .sl (v.e1.fBound.fArgs.map Zk.cells), .sl (v.e1.fKids.map Za.cells)] := rfl
theorem Zl.cells_len (v : Zl) : v.cells.length = 8 := rfl
theorem ZhN : Zkz c_S := Zvy
theorem Zm2 : Zkz Zcv := ZBu

def strings_Cut.M (s : ByteArray) (sep : ByteArray) (r : ByteArray × ByteArray × Bool) : Prop :=
 Zj Tryz.prog 140 [.c none (.v (.string s)), .c none (.v (.string sep))] [] (fun d b => d = .tup [.c (.v (.string r.1)), .c (.v (.string r.2.1)), .c (.v (.bool r.2.2))] ∧ b = [])
def strings_IndexByte.M (s : ByteArray) (c : Int) (r : Int) : Prop :=
 Zj Tryz.prog 149 [.c none (.v (.string s)), .c none (.v (.int .u8 c))] [] (fun d b => d = .c none (.v (.int .i64 r)) ∧ b = [])
def Zft.M (s : ByteArray) (r : Int × Bool) : Prop :=
 Zj Tryz.prog 115 [.c none (.v (.string s))] [] (fun d b => d = .tup [.c (.v (.int .i64 r.1)), .c (.ifc r.2)] ∧ b = [])
def strconv_Itoa.M (i : Int) (r : ByteArray) : Prop :=
 Zj Tryz.prog 113 [.c none (.v (.int .i64 i))] [] (fun d b => d = .c none (.v (.string r)) ∧ b = [])
def ZdH.M (s : (List ByteArray)) (r : (List ByteArray)) : Prop :=
 Zj Tryz.prog 122 [.c none (.sl (s.map c_S))] [] (fun d b => d = .c (some (0, 9)) (.sl (r.map c_S)) ∧ b = [])

open Go Go.Am Go.RowKit
theorem Znv {P : Program} [Gl P] {f : FuncId} {args : List D} {d0 : D} (h : CallsA P f args fun d => d = d0) : Zj P f args [] fun d b => d = d0 ∧ b = [] :=
 ⟨h.1, fun w S0 M0 ZbZ ρ hv hr => (h.2 w S0 M0 ZbZ ρ hv hr).mono fun e w' ⟨v, r, bx', St', ρ', h1, h2, h3, h4⟩ =>
  ⟨v, r, [], St', ρ', h1, ⟨h2, rfl⟩, h3, h4.less ⟨fun i => .inr (.inl rfl), fun n cs hb => by cases hb⟩⟩⟩
theorem ZFa {α : Type} {ZbZ : Array α} (h : ZbZ.size = 1) : ∃ a, ZbZ = #[a] := by
 obtain ⟨l⟩ := ZbZ
 match l, h with
 | [a], _ => exact ⟨a, rfl⟩
theorem ZGM {α : Type} {ZbZ : Array α} (h : ZbZ.size = 2) : ∃ a b, ZbZ = #[a, b] := by
 obtain ⟨l⟩ := ZbZ
 match l, h with
 | [a, b], _ => exact ⟨a, b, rfl⟩
theorem ZeH {w : World} {St : Zar} {s : Value} {x : Value} (h : ZcK w St (.v s) x) : x = s := by
 cases h; rfl
def Zpa (i : Int) : ByteArray := ⟨(Lib.itoa i).toArray⟩
def strconv_Itoa (i : Int) : Option ByteArray := Z5 (-9223372036854775808 ≤ i ∧ i ≤ 9223372036854775807) >>= fun _ => some (Zpa i)
theorem ZDJ (w : World) (St : Zar) (hG : ZkR Tryz.prog w St) : Lib.TabIs Tryz.prog w "internal/strconv.uint64pow10" .u64 Lib.pow10Tab := by
 have h0 : ZrQ (w.cell? ⟨3, 20, none⟩) := (hG (3, 20, ZrQ) (List.mem_append_left _ (List.mem_cons_self ..))).2
 have h1 : ∀ i, i < 20 → w.cell? ⟨3, i, none⟩ = some (.int .u64 ((10 ^ i : Nat) : Int)) := fun i hi =>
  (hG (3, i, Ztq i) (List.mem_append_left _ (List.mem_cons_of_mem _ (List.mem_map.2 ⟨i, List.mem_range.2 hi, rfl⟩)))).2
 have hg : Tryz.prog.globalNamed "internal/strconv.uint64pow10" = some 3 := by kernel_rfl
 unfold Lib.TabIs World.var?
 rw [hg]
 have h2 := h1 0 (by decide)
 unfold ZrQ at h0
 unfold World.cell? at h0 h1 h2
 simp only [Option.bind_some]
 split at h2
 case h_2 => cases h2
 rename_i c t f hc
 simp only [hc, Option.isSome_none, Bool.false_eq_true, if_false] at h0 h1 ⊢
 congr 1
 apply Array.ext_getElem?
 intro i
 have e0 : ((Lib.pow10Tab.map fun z => Value.int .u64 z).toArray)[i]? = (Lib.pow10Tab.map fun z => Value.int .u64 z)[i]? := List.getElem?_toArray
 rw [e0, Lib.pow10Tab, List.getElem?_map, List.getElem?_map]
 by_cases hi : i < 20
 ·rw [h1 i hi, List.getElem?_range hi]; rfl
 ·have : c.size ≤ 20 := by
   rcases Nat.lt_or_ge 20 c.size with h | h
   ·rw [Array.getElem?_eq_getElem h] at h0; cases h0
   ·exact h
  rw [Array.getElem?_eq_none (by omega), List.getElem?_eq_none (by simp; omega)]; rfl
theorem Zv1 (w : World) (os : Array Obj) (k : Nat) : Below w.heap.size w (Sort.grow (w.drewN k) os) := Lib.below_grow _ w (Nat.le_refl _) k os
theorem ZlS (i : Int) (r : ByteArray) (h : strconv_Itoa i = some r) : strconv_Itoa.M i r := by
 unfold strconv_Itoa at h
 obtain ⟨hc, h⟩ := Zy h
 obtain rfl := Zg h
 refine Znv (CallsA.of_calls ⟨_, Tryz.func113, by decide, rfl⟩ fun w St ρ ZbZ hv hr hlt hG => ?_)
 obtain ⟨a, rfl⟩ := ZFa hv
 obtain rfl := ZeH (show ZcK w St (.v (.int .i64 i)) a from (hr 0).val)
 refine (Tryz.strconv_Itoa i hc.1 hc.2 w (ZDJ w St hG)).mono ?_
 rintro e w' ⟨rfl, k, os, rfl⟩
 exact ⟨_, rfl, rfl, rfl, Zv1 w os k⟩
def Zss (s : ByteArray) : Int × Bool :=
 match Lib.atoiAll s.data.toList with
 | .ok v => (v, false)
 | .syntax => (0, true)
 | .range => (Lib.atoiSat s.data.toList, true)
def Zft (s : ByteArray) : Option (Int × Bool) := Z5 (s.size ≤ 281474976710656) >>= fun _ => some (Zss s)
theorem ZEn (w : World) (St : Zar) (hG : ZkR Tryz.prog w St) : Znk (w.cell? ⟨1, 0, none⟩) ∧ Znk (w.cell? ⟨2, 0, none⟩) :=
 ⟨(hG (1, 0, Znk) (by first | exact List.mem_append_right _ (by simp [Zd5]) | (show _ ∈ Zd5; simp [Zd5]))).2, (hG (2, 0, Znk) (by first | exact List.mem_append_right _ (by simp [Zd5]) | (show _ ∈ Zd5; simp [Zd5]))).2⟩
theorem ZCC {w : World} {St : Zar} {ρ : Nat → Nat} {n : Int} {b : Bool} {v : Value} (hv : (b = false ∧ v = .nilIface) ∨ (b = true ∧ ∃ t u, v = .iface t u)) : ZdN w St ρ (.tup [.c (.v (.int .i64 n)), .c (.ifc b)]) (.tuple #[.int .i64 n, v]) := by
 refine ⟨[.int .i64 n, v], rfl, rfl, fun k x hk => ?_⟩
 match k, hk with
 | 0, hk => simp only [List.getElem?_cons_zero, Option.some.injEq] at hk; subst hk; exact ⟨_, rfl, .e _ _ (.v _ rfl)⟩
 | 1, hk => simp only [List.getElem?_cons_succ, List.getElem?_cons_zero, Option.some.injEq] at hk; subst hk; exact ⟨_, rfl, .e _ _ (.ifc b v hv)⟩
 | k + 2, hk => simp at hk
theorem Zuw {w w' : World} (h : w' = w ∨ ∃ t, w' = Lib.bytesWorld w 5 t) : Below w.heap.size w w' := by
 rcases h with rfl | ⟨t, rfl⟩
 ·exact Below.refl _ _
 ·exact Lib.bytesWorld_below w 5 t
theorem strconv_Atoi_ok (s : ByteArray) (r : Int × Bool) (h : Zft s = some r) : Zft.M s r := by
 unfold Zft at h
 obtain ⟨hc, h⟩ := Zy h
 obtain rfl := Zg h
 refine Znv (CallsA.of_callsD ⟨_, Tryz.func115, by decide, rfl⟩ fun w St ρ ZbZ hv hr hlt hG => ?_)
 obtain ⟨a, rfl⟩ := ZFa hv
 obtain rfl := ZeH (show ZcK w St (.v (.string s)) a from (hr 0).val)
 obtain ⟨⟨e3, h3, i3⟩, e4, h4, i4⟩ := ZEn w St hG
 unfold Zss
 cases hn : Lib.atoiAll s.data.toList
 ·rename_i v
  refine (Tryz.strconv_Atoi_ok s (by omega) v hn w).mono ?_
  rintro e w' ⟨rfl, hw⟩
  exact ⟨_, _, rfl, ZCC (.inl ⟨rfl, rfl⟩), rfl, rfl, Zuw hw⟩
 ·refine (Tryz.strconv_Atoi_syntax s hc hn e3 w h3 i3).mono ?_
  rintro e w' ⟨N, rfl, _, _, hw⟩
  exact ⟨_, _, rfl, ZCC (.inr ⟨rfl, _, _, rfl⟩), rfl, rfl, hw⟩
 ·refine (Tryz.strconv_Atoi_range s hc hn e4 w h4 i4).mono ?_
  rintro e w' ⟨N, rfl, _, _, hw⟩
  exact ⟨_, _, rfl, ZCC (.inr ⟨rfl, _, _, rfl⟩), rfl, rfl, hw⟩
def strings_IndexByte (s : ByteArray) (c : Int) : Option Int := some (Lib.indexByte s.data.toList c.toNat.toUInt8)
theorem ZmD (s : ByteArray) (c r : Int) (h : strings_IndexByte s c = some r) : strings_IndexByte.M s c r := by
 injection h with h; subst h
 refine Znv (CallsA.of_calls ⟨_, Tryz.func149, by decide, rfl⟩ fun w St ρ ZbZ hv hr hlt hG => ?_)
 obtain ⟨a, b, rfl⟩ := ZGM hv
 obtain rfl := ZeH (show ZcK w St (.v (.string s)) a from (hr 0).val)
 obtain rfl := ZeH (show ZcK w St (.v (.int .u8 c)) b from (hr 1).val)
 refine (Tryz.strings_IndexByte s c w).mono ?_
 rintro e w' ⟨rfl, rfl⟩
 exact ⟨_, rfl, rfl, rfl, Below.refl _ _⟩
def ZDf (s sep : ByteArray) : ByteArray × ByteArray × Bool := (⟨(Lib.cut s.data.toList sep.data.toList).1.toArray⟩, ⟨(Lib.cut s.data.toList sep.data.toList).2.1.toArray⟩, (Lib.cut s.data.toList sep.data.toList).2.2)
def strings_Cut (s sep : ByteArray) : Option (ByteArray × ByteArray × Bool) := Z5 (s.size < 4294967281) >>= fun _ => some (ZDf s sep)
theorem ZIB {w : World} {St : Zar} {ρ : Nat → Nat} {a b c : Value} (ha : a.oneCell' = true) (hb : b.oneCell' = true) (hc : c.oneCell' = true) : ZdN w St ρ (.tup [.c (.v a), .c (.v b), .c (.v c)]) (.tuple #[a, b, c]) := by
 refine ⟨[a, b, c], rfl, rfl, fun k x hk => ?_⟩
 match k, hk with
 | 0, hk => simp only [List.getElem?_cons_zero, Option.some.injEq] at hk; subst hk; exact ⟨_, rfl, .e _ _ (.v _ ha)⟩
 | 1, hk => simp only [List.getElem?_cons_succ, List.getElem?_cons_zero, Option.some.injEq] at hk; subst hk; exact ⟨_, rfl, .e _ _ (.v _ hb)⟩
 | 2, hk => simp only [List.getElem?_cons_succ, List.getElem?_cons_zero, Option.some.injEq] at hk; subst hk; exact ⟨_, rfl, .e _ _ (.v _ hc)⟩
 | k + 3, hk => simp at hk
theorem ZvV (w : World) (n : Nat) : Below w.heap.size w (w.drewN n) := ⟨rfl, rfl, rfl, Nat.le_refl _, fun _ _ => rfl⟩
theorem Zq3 (s sep : ByteArray) (r : ByteArray × ByteArray × Bool) (h : strings_Cut s sep = some r) : strings_Cut.M s sep r := by
 unfold strings_Cut at h
 obtain ⟨hc, h⟩ := Zy h
 obtain rfl := Zg h
 refine Znv (CallsA.of_callsD ⟨_, Tryz.func140, by decide, rfl⟩ fun w St ρ ZbZ hv hr hlt hG => ?_)
 obtain ⟨a, b, rfl⟩ := ZGM hv
 obtain rfl := ZeH (show ZcK w St (.v (.string s)) a from (hr 0).val)
 obtain rfl := ZeH (show ZcK w St (.v (.string sep)) b from (hr 1).val)
 obtain ⟨m, hm⟩ := (hG (0, 0, ZwZ) (by first | exact List.mem_append_right _ (by simp [Zd5]) | (show _ ∈ Zd5; simp [Zd5]))).2
 refine (Tryz.strings_Cut s sep m w hc hm).mono ?_
 rintro e w' ⟨rfl, n, rfl⟩
 exact ⟨_, _, rfl, ZIB rfl rfl rfl, rfl, rfl, ZvV w n⟩

def ZdH (s : List ByteArray) : Option (List ByteArray) := Z5 ((0 + s.length) * 16 ≤ 140737488355328) >>= fun _ => some s
theorem Zlk (s r : List ByteArray) (hF : ZdH s = some r) : ZdH.M s r := by
 unfold ZdH at hF
 obtain ⟨hg, hF⟩ := Zy hF
 obtain rfl := Zg hF
 unfold ZdH.M
 refine enter tabOk Tryz.func122 rfl (by decide) (Nat.le_of_ble_eq_true rfl) ?_
 refine AWP.seq ?_
 refine ns ?_
 refine AWP.seq ?_
 refine AWP.seq ?_
 refine ns ?_
 refine And.intro (fun hnil => ?_) ?_
 ·obtain rfl : s = [] := by simpa using hnil
  refine st ?_
  refine nw ?_
  refine AWP.seq ?_
  refine ns ?_
  refine ns ?_
  refine Exists.intro [] ?_
  refine st ?_
  exact Exists.intro (rn []) (WS.mk (Zd ZjI Zb) Zc)
 ·refine st ?_
  refine nw ?_
  refine nw ?_
  refine AWP.seq ?_
  refine ns ?_
  refine Exists.intro [] (And.intro (WE.refl _) ?_)
  refine st ?_
  refine And.intro (ZbU _ (fun x => ZfO x)) (And.intro (by have h := hg; simp only [List.length_map, List.length_append, List.length_cons, List.length_nil, Nat.zero_add] at h ⊢; first | exact h | (unfold maxLen; omega) | omega) (And.intro (by have h := hg; simp only [List.length_map, List.length_append, List.length_cons, List.length_nil, Nat.zero_add] at h ⊢; first | exact h | (unfold maxLen; omega) | omega) (Exists.intro _ (And.intro (WE.refl _) ?_))))
  refine st ?_
  refine ns ?_
  refine Exists.intro [] ?_
  refine st ?_
  exact Exists.intro (rn [(7, 0)]) (WS.mk (Zd (Zam rfl (WE.refl _)) Zb) Zc)

def ZT (x_4 : Bool) : Option (Bool) :=
 if x_4 = true then
 some true
 else
 some false
def ZT.M (x_4 : Bool) (r : Bool) : Prop :=
 AWP Tryz.prog 15 (Code.sub (Zq Tryz.f118) [1, 0, 1, 0, 1]) (Code.cont Tryz.prog 15 (Zq Tryz.f118) [1, 0, 1, 0, 1] (ZbW tab Tryz.f118.results (ZbY (.c none (.v (.bool r))) []))) ⟨[(4, .c none (.v (.bool x_4)))], []⟩
theorem Zaq (x_4 : Bool) (r : Bool) (hF : ZT x_4 = some r) : ZT.M x_4 r := by
 unfold ZT at hF
 unfold ZT.M
 refine nw ?_
 refine Zi hF (fun Zdt hF => ?_) (fun Zdt hF => ?_)
 ·refine AWP.seq ?_
  refine ns ?_
  obtain rfl := Zg hF
  refine ns ?_
  refine Exists.intro [] ?_
  refine st ?_
  exact wx (WS.mk (tc Zb) Zc)
 ·refine nw ?_
  refine AWP.seq ?_
  refine ns ?_
  obtain rfl := Zg hF
  refine ns ?_
  refine Exists.intro [] ?_
  refine st ?_
  exact wx (WS.mk (tc Zb) Zc)

def ZbP (s : ByteArray) : Option (Bool) :=
 if (s.toList == (ByteArray.mk #[46, 46]).toList) = true then
 ZT (s.toList == (ByteArray.mk #[46, 46]).toList)
 else
 if (s.toList == (ByteArray.mk #[58, 58]).toList) = true then
 ZT (s.toList == (ByteArray.mk #[58, 58]).toList)
 else
 if (s.toList == (ByteArray.mk #[61]).toList) = true then
 ZT (s.toList == (ByteArray.mk #[61]).toList)
 else
 if (s.toList == (ByteArray.mk #[92]).toList) = true then
 ZT (s.toList == (ByteArray.mk #[92]).toList)
 else
 if (s.toList == (ByteArray.mk #[124]).toList) = true then
 ZT (s.toList == (ByteArray.mk #[124]).toList)
 else
 if (s.toList == (ByteArray.mk #[60, 45]).toList) = true then
 ZT (s.toList == (ByteArray.mk #[60, 45]).toList)
 else
 if (s.toList == (ByteArray.mk #[45, 62]).toList) = true then
 ZT (s.toList == (ByteArray.mk #[45, 62]).toList)
 else
 if (s.toList == (ByteArray.mk #[64]).toList) = true then
 ZT (s.toList == (ByteArray.mk #[64]).toList)
 else
 if (s.toList == (ByteArray.mk #[126]).toList) = true then
 ZT (s.toList == (ByteArray.mk #[126]).toList)
 else
 ZT (s.toList == (ByteArray.mk #[61, 62]).toList)
def ZbP.M (s : ByteArray) (r : Bool) : Prop :=
 Zj Tryz.prog 118 [.c none (.v (.string s))] [] (fun d b => d = .c none (.v (.bool r)) ∧ b = [])
theorem Zfa (s : ByteArray) (r : Bool) (hF : ZbP s = some r) : ZbP.M s r := by
 unfold ZbP at hF
 unfold ZbP.M
 refine en Tryz.func118 ?_
 refine AWP.seq ?_
 refine ns ?_
 refine AWP.seq ?_
 refine AWP.seq ?_
 refine ns ?_
 refine AWP.block ?_
 refine AWP.seq ?_
 refine AWP.seq ?_
 refine ns ?_
 refine nw ?_
 refine Zi hF (fun ZcS hF => ?_) (fun ZcS hF => ?_)
 ·refine nw ?_
  refine AWP.weak (rn []) ?_ (Zaq (s.toList == (ByteArray.mk #[46, 46]).toList) _ hF)
  exact (WS.mk (tc Zb) Zc)
 ·refine AWP.seq ?_
  refine ns ?_
  refine nw ?_
  refine Zi hF (fun ZcJ hF => ?_) (fun ZcJ hF => ?_)
  ·refine nw ?_
   refine AWP.weak (rn []) ?_ (Zaq (s.toList == (ByteArray.mk #[58, 58]).toList) _ hF)
   exact (WS.mk (tc Zb) Zc)
  ·refine AWP.seq ?_
   refine ns ?_
   refine nw ?_
   refine Zi hF (fun ZbE hF => ?_) (fun ZbE hF => ?_)
   ·refine nw ?_
    refine AWP.weak (rn []) ?_ (Zaq (s.toList == (ByteArray.mk #[61]).toList) _ hF)
    exact (WS.mk (tc Zb) Zc)
   ·refine AWP.seq ?_
    refine ns ?_
    refine nw ?_
    refine Zi hF (fun Zdl hF => ?_) (fun Zdl hF => ?_)
    ·refine nw ?_
     refine AWP.weak (rn []) ?_ (Zaq (s.toList == (ByteArray.mk #[92]).toList) _ hF)
     exact (WS.mk (tc Zb) Zc)
    ·refine AWP.seq ?_
     refine ns ?_
     refine nw ?_
     refine Zi hF (fun Zfg hF => ?_) (fun Zfg hF => ?_)
     ·refine nw ?_
      refine AWP.weak (rn []) ?_ (Zaq (s.toList == (ByteArray.mk #[124]).toList) _ hF)
      exact (WS.mk (tc Zb) Zc)
     ·refine AWP.seq ?_
      refine ns ?_
      refine nw ?_
      refine Zi hF (fun Zgs hF => ?_) (fun Zgs hF => ?_)
      ·refine nw ?_
       refine AWP.weak (rn []) ?_ (Zaq (s.toList == (ByteArray.mk #[60, 45]).toList) _ hF)
       exact (WS.mk (tc Zb) Zc)
      ·refine AWP.seq ?_
       refine ns ?_
       refine nw ?_
       refine Zi hF (fun ZiR hF => ?_) (fun ZiR hF => ?_)
       ·refine nw ?_
        refine AWP.weak (rn []) ?_ (Zaq (s.toList == (ByteArray.mk #[45, 62]).toList) _ hF)
        exact (WS.mk (tc Zb) Zc)
       ·refine AWP.seq ?_
        refine ns ?_
        refine nw ?_
        refine Zi hF (fun ZtI hF => ?_) (fun ZtI hF => ?_)
        ·refine nw ?_
         refine AWP.weak (rn []) ?_ (Zaq (s.toList == (ByteArray.mk #[64]).toList) _ hF)
         exact (WS.mk (tc Zb) Zc)
        ·refine AWP.seq ?_
         refine ns ?_
         refine nw ?_
         refine Zi hF (fun ZtA hF => ?_) (fun ZtA hF => ?_)
         ·refine nw ?_
          refine AWP.weak (rn []) ?_ (Zaq (s.toList == (ByteArray.mk #[126]).toList) _ hF)
          exact (WS.mk (tc Zb) Zc)
         ·refine ns ?_
          refine AWP.weak (rn []) ?_ (Zaq (s.toList == (ByteArray.mk #[61, 62]).toList) _ hF)
          exact (WS.mk (tc Zb) Zc)

def Zv (x_4 : Bool) : Option (Bool) :=
 if x_4 = true then
 some true
 else
 some false
def Zv.M (x_4 : Bool) (r : Bool) : Prop :=
 AWP Tryz.prog 27 (Code.sub (Zq Tryz.f117) [1, 0, 1, 0, 1]) (Code.cont Tryz.prog 27 (Zq Tryz.f117) [1, 0, 1, 0, 1] (ZbW tab Tryz.f117.results (ZbY (.c none (.v (.bool r))) []))) ⟨[(4, .c none (.v (.bool x_4)))], []⟩
theorem Zx (x_4 : Bool) (r : Bool) (hF : Zv x_4 = some r) : Zv.M x_4 r := by
 unfold Zv at hF
 unfold Zv.M
 refine nw ?_
 refine Zi hF (fun Ztk hF => ?_) (fun Ztk hF => ?_)
 ·refine AWP.seq ?_
  refine ns ?_
  obtain rfl := Zg hF
  refine ns ?_
  refine Exists.intro [] ?_
  refine st ?_
  exact wx (WS.mk (tc Zb) Zc)
 ·refine nw ?_
  refine AWP.seq ?_
  refine ns ?_
  obtain rfl := Zg hF
  refine ns ?_
  refine Exists.intro [] ?_
  refine st ?_
  exact wx (WS.mk (tc Zb) Zc)

def Zcn (s : ByteArray) : Option (Bool) :=
 if (s.toList == (ByteArray.mk #[97, 115]).toList) = true then
 Zv (s.toList == (ByteArray.mk #[97, 115]).toList)
 else
 if (s.toList == (ByteArray.mk #[99, 97, 115, 101]).toList) = true then
 Zv (s.toList == (ByteArray.mk #[99, 97, 115, 101]).toList)
 else
 if (s.toList == (ByteArray.mk #[99, 108, 97, 115, 115]).toList) = true then
 Zv (s.toList == (ByteArray.mk #[99, 108, 97, 115, 115]).toList)
 else
 if (s.toList == (ByteArray.mk #[100, 97, 116, 97]).toList) = true then
 Zv (s.toList == (ByteArray.mk #[100, 97, 116, 97]).toList)
 else
 if (s.toList == (ByteArray.mk #[100, 101, 114, 105, 118, 105, 110, 103]).toList) = true then
 Zv (s.toList == (ByteArray.mk #[100, 101, 114, 105, 118, 105, 110, 103]).toList)
 else
 if (s.toList == (ByteArray.mk #[100, 111]).toList) = true then
 Zv (s.toList == (ByteArray.mk #[100, 111]).toList)
 else
 if (s.toList == (ByteArray.mk #[101, 108, 115, 101]).toList) = true then
 Zv (s.toList == (ByteArray.mk #[101, 108, 115, 101]).toList)
 else
 if (s.toList == (ByteArray.mk #[104, 105, 100, 105, 110, 103]).toList) = true then
 Zv (s.toList == (ByteArray.mk #[104, 105, 100, 105, 110, 103]).toList)
 else
 if (s.toList == (ByteArray.mk #[105, 102]).toList) = true then
 Zv (s.toList == (ByteArray.mk #[105, 102]).toList)
 else
 if (s.toList == (ByteArray.mk #[105, 109, 112, 111, 114, 116]).toList) = true then
 Zv (s.toList == (ByteArray.mk #[105, 109, 112, 111, 114, 116]).toList)
 else
 if (s.toList == (ByteArray.mk #[105, 110]).toList) = true then
 Zv (s.toList == (ByteArray.mk #[105, 110]).toList)
 else
 if (s.toList == (ByteArray.mk #[105, 110, 102, 105, 120]).toList) = true then
 Zv (s.toList == (ByteArray.mk #[105, 110, 102, 105, 120]).toList)
 else
 if (s.toList == (ByteArray.mk #[105, 110, 102, 105, 120, 108]).toList) = true then
 Zv (s.toList == (ByteArray.mk #[105, 110, 102, 105, 120, 108]).toList)
 else
 if (s.toList == (ByteArray.mk #[105, 110, 102, 105, 120, 114]).toList) = true then
 Zv (s.toList == (ByteArray.mk #[105, 110, 102, 105, 120, 114]).toList)
 else
 if (s.toList == (ByteArray.mk #[105, 110, 115, 116, 97, 110, 99, 101]).toList) = true then
 Zv (s.toList == (ByteArray.mk #[105, 110, 115, 116, 97, 110, 99, 101]).toList)
 else
 if (s.toList == (ByteArray.mk #[108, 101, 116]).toList) = true then
 Zv (s.toList == (ByteArray.mk #[108, 101, 116]).toList)
 else
 if (s.toList == (ByteArray.mk #[109, 111, 100, 117, 108, 101]).toList) = true then
 Zv (s.toList == (ByteArray.mk #[109, 111, 100, 117, 108, 101]).toList)
 else
 if (s.toList == (ByteArray.mk #[111, 102]).toList) = true then
 Zv (s.toList == (ByteArray.mk #[111, 102]).toList)
 else
 if (s.toList == (ByteArray.mk #[113, 117, 97, 108, 105, 102, 105, 101, 100]).toList) = true then
 Zv (s.toList == (ByteArray.mk #[113, 117, 97, 108, 105, 102, 105, 101, 100]).toList)
 else
 if (s.toList == (ByteArray.mk #[116, 104, 101, 110]).toList) = true then
 Zv (s.toList == (ByteArray.mk #[116, 104, 101, 110]).toList)
 else
 if (s.toList == (ByteArray.mk #[119, 104, 101, 114, 101]).toList) = true then
 Zv (s.toList == (ByteArray.mk #[119, 104, 101, 114, 101]).toList)
 else
 Zv (s.toList == (ByteArray.mk #[95]).toList)
def Zcn.M (s : ByteArray) (r : Bool) : Prop :=
 Zj Tryz.prog 117 [.c none (.v (.string s))] [] (fun d b => d = .c none (.v (.bool r)) ∧ b = [])
theorem ZhY (s : ByteArray) (r : Bool) (hF : Zcn s = some r) : Zcn.M s r := by
 unfold Zcn at hF
 unfold Zcn.M
 refine en Tryz.func117 ?_
 refine AWP.seq ?_
 refine ns ?_
 refine AWP.seq ?_
 refine AWP.seq ?_
 refine ns ?_
 refine AWP.block ?_
 refine AWP.seq ?_
 refine AWP.seq ?_
 refine ns ?_
 refine nw ?_
 refine Zi hF (fun ZC8 hF => ?_) (fun ZC8 hF => ?_)
 ·refine nw ?_
  refine AWP.weak (rn []) ?_ (Zx (s.toList == (ByteArray.mk #[97, 115]).toList) _ hF)
  exact (WS.mk (tc Zb) Zc)
 ·refine AWP.seq ?_
  refine ns ?_
  refine nw ?_
  refine Zi hF (fun Zyy hF => ?_) (fun Zyy hF => ?_)
  ·refine nw ?_
   refine AWP.weak (rn []) ?_ (Zx (s.toList == (ByteArray.mk #[99, 97, 115, 101]).toList) _ hF)
   exact (WS.mk (tc Zb) Zc)
  ·refine AWP.seq ?_
   refine ns ?_
   refine nw ?_
   refine Zi hF (fun ZjV hF => ?_) (fun ZjV hF => ?_)
   ·refine nw ?_
    refine AWP.weak (rn []) ?_ (Zx (s.toList == (ByteArray.mk #[99, 108, 97, 115, 115]).toList) _ hF)
    exact (WS.mk (tc Zb) Zc)
   ·refine AWP.seq ?_
    refine ns ?_
    refine nw ?_
    refine Zi hF (fun ZlJ hF => ?_) (fun ZlJ hF => ?_)
    ·refine nw ?_
     refine AWP.weak (rn []) ?_ (Zx (s.toList == (ByteArray.mk #[100, 97, 116, 97]).toList) _ hF)
     exact (WS.mk (tc Zb) Zc)
    ·refine AWP.seq ?_
     refine ns ?_
     refine nw ?_
     refine Zi hF (fun ZtV hF => ?_) (fun ZtV hF => ?_)
     ·refine nw ?_
      refine AWP.weak (rn []) ?_ (Zx (s.toList == (ByteArray.mk #[100, 101, 114, 105, 118, 105, 110, 103]).toList) _ hF)
      exact (WS.mk (tc Zb) Zc)
     ·refine AWP.seq ?_
      refine ns ?_
      refine nw ?_
      refine Zi hF (fun ZAa hF => ?_) (fun ZAa hF => ?_)
      ·refine nw ?_
       refine AWP.weak (rn []) ?_ (Zx (s.toList == (ByteArray.mk #[100, 111]).toList) _ hF)
       exact (WS.mk (tc Zb) Zc)
      ·refine AWP.seq ?_
       refine ns ?_
       refine nw ?_
       refine Zi hF (fun ZoB hF => ?_) (fun ZoB hF => ?_)
       ·refine nw ?_
        refine AWP.weak (rn []) ?_ (Zx (s.toList == (ByteArray.mk #[101, 108, 115, 101]).toList) _ hF)
        exact (WS.mk (tc Zb) Zc)
       ·refine AWP.seq ?_
        refine ns ?_
        refine nw ?_
        refine Zi hF (fun Zpf hF => ?_) (fun Zpf hF => ?_)
        ·refine nw ?_
         refine AWP.weak (rn []) ?_ (Zx (s.toList == (ByteArray.mk #[104, 105, 100, 105, 110, 103]).toList) _ hF)
         exact (WS.mk (tc Zb) Zc)
        ·refine AWP.seq ?_
         refine ns ?_
         refine nw ?_
         refine Zi hF (fun Zzf hF => ?_) (fun Zzf hF => ?_)
         ·refine nw ?_
          refine AWP.weak (rn []) ?_ (Zx (s.toList == (ByteArray.mk #[105, 102]).toList) _ hF)
          exact (WS.mk (tc Zb) Zc)
         ·refine AWP.seq ?_
          refine ns ?_
          refine nw ?_
          refine Zi hF (fun ZnQ hF => ?_) (fun ZnQ hF => ?_)
          ·refine nw ?_
           refine AWP.weak (rn []) ?_ (Zx (s.toList == (ByteArray.mk #[105, 109, 112, 111, 114, 116]).toList) _ hF)
           exact (WS.mk (tc Zb) Zc)
          ·refine AWP.seq ?_
           refine ns ?_
           refine nw ?_
           refine Zi hF (fun Zpk hF => ?_) (fun Zpk hF => ?_)
           ·refine nw ?_
            refine AWP.weak (rn []) ?_ (Zx (s.toList == (ByteArray.mk #[105, 110]).toList) _ hF)
            exact (WS.mk (tc Zb) Zc)
           ·refine AWP.seq ?_
            refine ns ?_
            refine nw ?_
            refine Zi hF (fun ZAj hF => ?_) (fun ZAj hF => ?_)
            ·refine nw ?_
             refine AWP.weak (rn []) ?_ (Zx (s.toList == (ByteArray.mk #[105, 110, 102, 105, 120]).toList) _ hF)
             exact (WS.mk (tc Zb) Zc)
            ·refine AWP.seq ?_
             refine ns ?_
             refine nw ?_
             refine Zi hF (fun ZnC hF => ?_) (fun ZnC hF => ?_)
             ·refine nw ?_
              refine AWP.weak (rn []) ?_ (Zx (s.toList == (ByteArray.mk #[105, 110, 102, 105, 120, 108]).toList) _ hF)
              exact (WS.mk (tc Zb) Zc)
             ·refine AWP.seq ?_
              refine ns ?_
              refine nw ?_
              refine Zi hF (fun ZkV hF => ?_) (fun ZkV hF => ?_)
              ·refine nw ?_
               refine AWP.weak (rn []) ?_ (Zx (s.toList == (ByteArray.mk #[105, 110, 102, 105, 120, 114]).toList) _ hF)
               exact (WS.mk (tc Zb) Zc)
              ·refine AWP.seq ?_
               refine ns ?_
               refine nw ?_
               refine Zi hF (fun Zpr hF => ?_) (fun Zpr hF => ?_)
               ·refine nw ?_
                refine AWP.weak (rn []) ?_ (Zx (s.toList == (ByteArray.mk #[105, 110, 115, 116, 97, 110, 99, 101]).toList) _ hF)
                exact (WS.mk (tc Zb) Zc)
               ·refine AWP.seq ?_
                refine ns ?_
                refine nw ?_
                refine Zi hF (fun Zkv hF => ?_) (fun Zkv hF => ?_)
                ·refine nw ?_
                 refine AWP.weak (rn []) ?_ (Zx (s.toList == (ByteArray.mk #[108, 101, 116]).toList) _ hF)
                 exact (WS.mk (tc Zb) Zc)
                ·refine AWP.seq ?_
                 refine ns ?_
                 refine nw ?_
                 refine Zi hF (fun ZhU hF => ?_) (fun ZhU hF => ?_)
                 ·refine nw ?_
                  refine AWP.weak (rn []) ?_ (Zx (s.toList == (ByteArray.mk #[109, 111, 100, 117, 108, 101]).toList) _ hF)
                  exact (WS.mk (tc Zb) Zc)
                 ·refine AWP.seq ?_
                  refine ns ?_
                  refine nw ?_
                  refine Zi hF (fun Zn0 hF => ?_) (fun Zn0 hF => ?_)
                  ·refine nw ?_
                   refine AWP.weak (rn []) ?_ (Zx (s.toList == (ByteArray.mk #[111, 102]).toList) _ hF)
                   exact (WS.mk (tc Zb) Zc)
                  ·refine AWP.seq ?_
                   refine ns ?_
                   refine nw ?_
                   refine Zi hF (fun Zwc hF => ?_) (fun Zwc hF => ?_)
                   ·refine nw ?_
                    refine AWP.weak (rn []) ?_ (Zx (s.toList == (ByteArray.mk #[113, 117, 97, 108, 105, 102, 105, 101, 100]).toList) _ hF)
                    exact (WS.mk (tc Zb) Zc)
                   ·refine AWP.seq ?_
                    refine ns ?_
                    refine nw ?_
                    refine Zi hF (fun Zv8 hF => ?_) (fun Zv8 hF => ?_)
                    ·refine nw ?_
                     refine AWP.weak (rn []) ?_ (Zx (s.toList == (ByteArray.mk #[116, 104, 101, 110]).toList) _ hF)
                     exact (WS.mk (tc Zb) Zc)
                    ·refine AWP.seq ?_
                     refine ns ?_
                     refine nw ?_
                     refine Zi hF (fun ZCj hF => ?_) (fun ZCj hF => ?_)
                     ·refine nw ?_
                      refine AWP.weak (rn []) ?_ (Zx (s.toList == (ByteArray.mk #[119, 104, 101, 114, 101]).toList) _ hF)
                      exact (WS.mk (tc Zb) Zc)
                     ·refine ns ?_
                      refine AWP.weak (rn []) ?_ (Zx (s.toList == (ByteArray.mk #[95]).toList) _ hF)
                      exact (WS.mk (tc Zb) Zc)

def Zd1 (c : Int) : Option (Bool) :=
 strings_IndexByte (ByteArray.mk #[33, 35, 36, 37, 38, 42, 43, 46, 47, 60, 61, 62, 63, 64, 92, 94, 124, 45, 126, 58]) c >>= fun r1 =>
 some (decide (r1 ≥ 0))
def Zd1.M (c : Int) (r : Bool) : Prop :=
 Zj Tryz.prog 137 [.c none (.v (.int .u8 c))] [] (fun d b => d = .c none (.v (.bool r)) ∧ b = [])
theorem ZoZ (c : Int) (r : Bool) (hF : Zd1 c = some r) : Zd1.M c r := by
 unfold Zd1 at hF
 unfold Zd1.M
 refine en Tryz.func137 ?_
 refine AWP.seq ?_
 refine ns ?_
 refine AWP.seq ?_
 obtain ⟨r1, hr1, hF⟩ := bind_some hF
 refine ns ?_
 refine e3 ?_
 refine st ?_
 refine cm (Zj.weak (rn []) (ZmD (ByteArray.mk #[33, 35, 36, 37, 38, 42, 43, 46, 47, 60, 61, 62, 63, 64, 92, 94, 124, 45, 126, 58]) c _ hr1) rfl (WS.mk (tc (tc Zb)) Zc)) ?_
 refine st ?_
 obtain rfl := Zg hF
 refine ns ?_
 refine Exists.intro [] ?_
 refine st ?_
 exact wx (WS.mk (tc Zb) Zc)

def Zb7 (s : ByteArray) (ZbG : Nat) (i_4 : Nat) : Option (Bool) :=
 if (((i_4 : Nat) : Int) == ((s.size : Nat) : Int)) = true then
 some ((((s.size : Nat) : Int) == 1) || (decide (((ZbG : Nat) : Int) < ((s.size : Nat) : Int))))
 else
 (btI s ((i_4 : Nat) : Int)) >>= fun y69 =>
 Zd1 ((y69.toNat : Nat) : Int) >>= fun r70 =>
 if (!r70) = true then
 some false
 else
 (btI s ((i_4 : Nat) : Int)) >>= fun y72 =>
 if (((y72.toNat : Nat) : Int) == 45) = true then
 Z5 (ZbG + 1 ≤ 9223372036854775807) >>= fun _ =>
 Z5 (i_4 + 1 ≤ 9223372036854775807) >>= fun _ =>
 Zb7 s (ZbG + 1) (i_4 + 1)
 else
 Z5 (i_4 + 1 ≤ 9223372036854775807) >>= fun _ =>
 Zb7 s ZbG (i_4 + 1)
 partial_fixpoint
def Zb7.M (s : ByteArray) (ZbG : Nat) (i_4 : Nat) (r : Bool) : Prop :=
 AWL Tryz.prog 38 (Code.sub (Zq Tryz.f121) [1, 0, 1, 1, 1, 0, 1, 0, 0]) (Code.cont Tryz.prog 38 (Zq Tryz.f121) [1, 0, 1, 1, 1, 0, 1, 0] (ZbW tab Tryz.f121.results (ZbY (.c none (.v (.bool r))) []))) ⟨[(0, .c none (.v (.string s))), (3, .c none (.v (.int .i64 ((ZbG : Nat) : Int)))), (4, .c none (.v (.int .i64 ((i_4 : Nat) : Int))))], []⟩
theorem Zob (s : ByteArray) (ZbG : Nat) (i_4 : Nat) : ∀ r, Zb7 s ZbG i_4 = some r → Zb7.M s ZbG i_4 r := by
 refine Zb7.partial_correctness s (fun ZbG i_4 r => Zb7.M s ZbG i_4 r) ?_ ZbG i_4
 intro names_symbol_l1' ZiT ZbG i_4 r hF
 have ZjK := fun (_s : ByteArray) (ZbG : Nat) (i_4 : Nat) => ZiT ZbG i_4
 clear ZiT
 unfold Zb7.M
 refine AWL.step ?_
 refine AWP.seq ?_
 refine AWP.block ?_
 refine AWP.seq ?_
 refine AWP.seq ?_
 refine ns ?_
 refine nw ?_
 refine Zi hF (fun ZrF hF => ?_) (fun ZrF hF => ?_)
 ·refine nw ?_
  refine AWP.seq ?_
  refine AWP.cutN (fun T => ∃ r, WS r T ⟨[(2, .c none (.v (.bool ((((s.size : Nat) : Int) == 1) || (decide (((ZbG : Nat) : Int) < ((s.size : Nat) : Int)))))))], []⟩) ?_ (fun T hw => ?_)
  ·refine ns ?_
   refine Zm false (fun Zz8 => ?_) (fun Zz8 => ?_)
   ·(conv => whnf)
    refine st ?_
    exact wx (WS.mk (Zd (Zr (web Zz8)) Zb) Zc)
   ·(conv => whnf)
    refine st ?_
    exact wx (WS.mk (Zd (Zr (web Zz8)) Zb) Zc)
  obtain ⟨r0, hw⟩ := hw
  (conv => whnf)
  refine AWP.weak r0 hw ?_
  obtain rfl := Zg hF
  refine ns ?_
  refine Exists.intro [] ?_
  refine st ?_
  exact wx (WS.mk (tc Zb) Zc)
 ·refine nw ?_
  refine AWP.seq ?_
  refine AWP.seq ?_
  obtain ⟨y69, hy690, ZHl, hF⟩ := Zc4 hF
  obtain ⟨r70, ZCn, hF⟩ := bind_some hF
  refine nn ?_
  refine sr ZHl ?_
  refine st ?_
  refine e3 ?_
  refine st ?_
  refine cm (Zj.weak (rn []) (ZoZ ((y69.toNat : Nat) : Int) _ ZCn) rfl (WS.mk (tc Zb) Zc)) ?_
  refine st ?_
  refine nw ?_
  refine Zi hF (fun ZIC hF => ?_) (fun ZIC hF => ?_)
  ·refine AWP.seq ?_
   refine ns ?_
   obtain rfl := Zg hF
   refine ns ?_
   refine Exists.intro [] ?_
   refine st ?_
   exact wx (WS.mk (tc Zb) Zc)
  ·refine nw ?_
   refine AWP.seq ?_
   obtain ⟨y72, hy720, ZIG, hF⟩ := Zc4 hF
   refine nn ?_
   refine sr ZIG ?_
   refine st ?_
   refine nw ?_
   refine Zi hF (fun Zsh hF => ?_) (fun Zsh hF => ?_)
   ·obtain ⟨ZC2, hF⟩ := Zy hF
    refine ns ?_
    obtain ⟨ZDs, hF⟩ := Zy hF
    refine ns ?_
    refine AWL.weak (rn []) ?_ (ZjK s (ZbG + 1) (i_4 + 1) _ hF)
    exact (WS.mk (tc (Zd (Zr (Zdf (Zdu ZC2))) (Zd (Zr (Zdf (Zdu ZDs))) Zb))) Zc)
   ·refine nw ?_
    obtain ⟨ZHs, hF⟩ := Zy hF
    refine ns ?_
    refine AWL.weak (rn []) ?_ (ZjK s ZbG (i_4 + 1) _ hF)
    exact (WS.mk (tc (tc (Zd (Zr (Zdf (Zdu ZHs))) Zb))) Zc)

def ZdU (s : ByteArray) : Option (Bool) :=
 if ((s.toList == (ByteArray.mk #[]).toList) || (decide (((s.size : Nat) : Int) > 64))) = true then
 some false
 else
 Zb7 s 0 0
def ZdU.M (s : ByteArray) (r : Bool) : Prop :=
 Zj Tryz.prog 121 [.c none (.v (.string s))] [] (fun d b => d = .c none (.v (.bool r)) ∧ b = [])
theorem ZgY (s : ByteArray) (r : Bool) (hF : ZdU s = some r) : ZdU.M s r := by
 unfold ZdU at hF
 unfold ZdU.M
 refine en Tryz.func121 ?_
 refine AWP.seq ?_
 refine ns ?_
 refine AWP.scope ?_
 refine AWP.seq ?_
 refine AWP.seq ?_
 refine AWP.cutN (fun T => ∃ r, WS r T ⟨[(0, .c none (.v (.string s))), (11, .c none (.v (.bool ((s.toList == (ByteArray.mk #[]).toList) || (decide (((s.size : Nat) : Int) > 64))))))], []⟩) ?_ (fun T hw => ?_)
 ·refine ns ?_
  refine Zm false (fun hc2 => ?_) (fun hc2 => ?_)
  ·(conv => whnf)
   refine st ?_
   exact wx (WS.mk (tc (Zd (Zr (web hc2)) Zb)) Zc)
  ·(conv => whnf)
   refine st ?_
   exact wx (WS.mk (tc (Zd (Zr (web hc2)) Zb)) Zc)
 obtain ⟨r0, hw⟩ := hw
 (conv => whnf)
 refine AWP.weak r0 hw ?_
 refine nw ?_
 refine Zi hF (fun hc3 hF => ?_) (fun hc3 hF => ?_)
 ·refine AWP.seq ?_
  refine ns ?_
  obtain rfl := Zg hF
  refine ns ?_
  refine Exists.intro [] ?_
  refine st ?_
  exact wx (WS.mk (tc Zb) Zc)
 ·refine nw ?_
  refine AWP.seq ?_
  refine ns ?_
  refine AWP.seq ?_
  refine nw ?_
  refine AWP.seq ?_
  refine AWP.seq ?_
  refine ns ?_
  refine AWP.block ?_
  refine AWP.loop ?_
  refine AWL.weak (rn []) ?_ (Zob s 0 0 _ hF)
  exact (WS.mk (tc (tc (tc Zb))) Zc)

def Zen (c : Int) : Option (Bool) :=
 some ((decide (c ≥ 65)) && (decide (c ≤ 90)))
def Zen.M (c : Int) (r : Bool) : Prop :=
 Zj Tryz.prog 120 [.c none (.v (.int .u8 c))] [] (fun d b => d = .c none (.v (.bool r)) ∧ b = [])
theorem ZjS (c : Int) (r : Bool) (hF : Zen c = some r) : Zen.M c r := by
 unfold Zen at hF
 unfold Zen.M
 refine en Tryz.func120 ?_
 refine AWP.seq ?_
 refine ns ?_
 refine AWP.seq ?_
 refine AWP.cutN (fun T => ∃ r, WS r T ⟨[(2, .c none (.v (.bool ((decide (c ≥ 65)) && (decide (c ≤ 90))))))], []⟩) ?_ (fun T hw => ?_)
 ·refine ns ?_
  refine Zm true (fun hc1 => ?_) (fun hc1 => ?_)
  ·(conv => whnf)
   refine st ?_
   exact wx (WS.mk (Zd (Zr (web hc1)) Zb) Zc)
  ·(conv => whnf)
   refine st ?_
   exact wx (WS.mk (Zd (Zr (web hc1)) Zb) Zc)
 obtain ⟨r0, hw⟩ := hw
 (conv => whnf)
 refine AWP.weak r0 hw ?_
 obtain rfl := Zg hF
 refine ns ?_
 refine Exists.intro [] ?_
 refine st ?_
 exact wx (WS.mk (tc Zb) Zc)

def Zei (c : Int) : Option (Bool) :=
 Zen c >>= fun r1 =>
 some (r1 || ((decide (c ≥ 97)) && (decide (c ≤ 122))))
def Zei.M (c : Int) (r : Bool) : Prop :=
 Zj Tryz.prog 135 [.c none (.v (.int .u8 c))] [] (fun d b => d = .c none (.v (.bool r)) ∧ b = [])
theorem Zl0 (c : Int) (r : Bool) (hF : Zei c = some r) : Zei.M c r := by
 unfold Zei at hF
 unfold Zei.M
 refine en Tryz.func135 ?_
 refine AWP.seq ?_
 refine ns ?_
 refine AWP.seq ?_
 obtain ⟨r1, hr1, hF⟩ := bind_some hF
 refine AWP.cutN (fun T => ∃ r, WS r T ⟨[(2, .c none (.v (.bool (r1 || ((decide (c ≥ 97)) && (decide (c ≤ 122)))))))], []⟩) ?_ (fun T hw => ?_)
 ·refine ns ?_
  refine e3 ?_
  refine st ?_
  refine cm (Zj.weak (rn []) (ZjS c _ hr1) rfl (WS.mk (tc Zb) Zc)) ?_
  refine st ?_
  refine Zm false (fun hc2 => ?_) (fun hc2 => ?_)
  ·(conv => whnf)
   refine st ?_
   exact wx (WS.mk (Zd (Zr (web hc2)) Zb) Zc)
  ·(conv => whnf)
   refine st ?_
   refine Zm true (fun hc3 => ?_) (fun hc3 => ?_)
   ·(conv => whnf)
    refine st ?_
    exact wx (WS.mk (Zd (Zr (web (And.intro hc2 hc3))) Zb) Zc)
   ·(conv => whnf)
    refine st ?_
    exact wx (WS.mk (Zd (Zr (web (And.intro hc2 hc3))) Zb) Zc)
 obtain ⟨r0, hw⟩ := hw
 (conv => whnf)
 refine AWP.weak r0 hw ?_
 obtain rfl := Zg hF
 refine ns ?_
 refine Exists.intro [] ?_
 refine st ?_
 exact wx (WS.mk (tc Zb) Zc)

def Zfi (c : Int) : Option (Bool) :=
 some ((decide (c ≥ 48)) && (decide (c ≤ 57)))
def Zfi.M (c : Int) (r : Bool) : Prop :=
 Zj Tryz.prog 136 [.c none (.v (.int .u8 c))] [] (fun d b => d = .c none (.v (.bool r)) ∧ b = [])
theorem Zq4 (c : Int) (r : Bool) (hF : Zfi c = some r) : Zfi.M c r := by
 unfold Zfi at hF
 unfold Zfi.M
 refine en Tryz.func136 ?_
 refine AWP.seq ?_
 refine ns ?_
 refine AWP.seq ?_
 refine AWP.cutN (fun T => ∃ r, WS r T ⟨[(2, .c none (.v (.bool ((decide (c ≥ 48)) && (decide (c ≤ 57))))))], []⟩) ?_ (fun T hw => ?_)
 ·refine ns ?_
  refine Zm true (fun hc1 => ?_) (fun hc1 => ?_)
  ·(conv => whnf)
   refine st ?_
   exact wx (WS.mk (Zd (Zr (web hc1)) Zb) Zc)
  ·(conv => whnf)
   refine st ?_
   exact wx (WS.mk (Zd (Zr (web hc1)) Zb) Zc)
 obtain ⟨r0, hw⟩ := hw
 (conv => whnf)
 refine AWP.weak r0 hw ?_
 obtain rfl := Zg hF
 refine ns ?_
 refine Exists.intro [] ?_
 refine st ?_
 exact wx (WS.mk (tc Zb) Zc)

def Zdm (s : ByteArray) (i_3 : Nat) : Option (Bool) :=
 if (decide (((i_3 : Nat) : Int) < ((s.size : Nat) : Int))) = true then
 (btI s ((i_3 : Nat) : Int)) >>= fun y33 =>
 Zei ((y33.toNat : Nat) : Int) >>= fun r34 =>
 (if (!r34) = true then Zfi ((y33.toNat : Nat) : Int) >>= fun r35 =>
 some (!r35) else some false) >>= fun c36 =>
 if ((c36 && (((y33.toNat : Nat) : Int) != 95)) && (((y33.toNat : Nat) : Int) != 39)) = true then
 some false
 else
 Z5 (i_3 + 1 ≤ 9223372036854775807) >>= fun _ =>
 Zdm s (i_3 + 1)
 else
 some true
 partial_fixpoint
def Zdm.M (s : ByteArray) (i_3 : Nat) (r : Bool) : Prop :=
 AWL Tryz.prog 48 (Code.sub (Zq Tryz.f119) [1, 1, 0, 1, 0, 0]) (Code.cont Tryz.prog 48 (Zq Tryz.f119) [1, 1, 0, 1, 0] (ZbW tab Tryz.f119.results (ZbY (.c none (.v (.bool r))) []))) ⟨[(0, .c none (.v (.string s))), (3, .c none (.v (.int .i64 ((i_3 : Nat) : Int))))], []⟩
theorem Zpw (s : ByteArray) (i_3 : Nat) : ∀ r, Zdm s i_3 = some r → Zdm.M s i_3 r := by
 refine Zdm.partial_correctness s (fun i_3 r => Zdm.M s i_3 r) ?_ i_3
 intro names_word_l1' Zki i_3 r hF
 have Zpt := fun (_s : ByteArray) (i_3 : Nat) => Zki i_3
 clear Zki
 unfold Zdm.M
 refine AWL.step ?_
 refine AWP.seq ?_
 refine AWP.seq ?_
 refine ns ?_
 refine nw ?_
 refine Zi hF (fun ZnQ hF => ?_) (fun ZnQ hF => ?_)
 ·refine nw ?_
  refine AWP.seq ?_
  refine AWP.block ?_
  refine AWP.seq ?_
  obtain ⟨y33, hy330, ZGW, hF⟩ := Zc4 hF
  refine nn ?_
  refine sr ZGW ?_
  refine st ?_
  refine AWP.seq ?_
  obtain ⟨r34, ZCA, hF⟩ := bind_some hF
  obtain ⟨c36, ZkV, hF⟩ := bind_some hF
  refine AWP.cutN (fun T => ∃ r, WS r T ⟨[(0, .c none (.v (.string s))), (3, .c none (.v (.int .i64 ((i_3 : Nat) : Int)))), (47, .c none (.v (.bool ((c36 && (((y33.toNat : Nat) : Int) != 95)) && (((y33.toNat : Nat) : Int) != 39)))))], []⟩) ?_ (fun T hw => ?_)
  ·refine ns ?_
   refine e3 ?_
   refine st ?_
   refine cm (Zj.weak (rn []) (Zl0 ((y33.toNat : Nat) : Int) _ ZCA) rfl (WS.mk (tc Zb) Zc)) ?_
   refine st ?_
   refine Zm true (fun Zpr => ?_) (fun Zpr => ?_)
   ·have ZkV := ift Zpr ZkV
    obtain ⟨r35, ZDk, ZkV⟩ := bind_some ZkV
    (conv => whnf)
    refine st ?_
    refine e3 ?_
    refine st ?_
    refine cm (Zj.weak (rn []) (Zq4 ((y33.toNat : Nat) : Int) _ ZDk) rfl (WS.mk (tc Zb) Zc)) ?_
    refine st ?_
    obtain rfl := Zg ZkV
    refine st ?_
    refine Zm true (fun Zkv => ?_) (fun Zkv => ?_)
    ·(conv => whnf)
     refine st ?_
     refine Zm true (fun ZhU => ?_) (fun ZhU => ?_)
     ·(conv => whnf)
      refine st ?_
      exact wx (WS.mk (tc (tc (Zd (Zr (web (And.intro Zpr (And.intro Zkv ZhU)))) Zb))) Zc)
     ·(conv => whnf)
      refine st ?_
      exact wx (WS.mk (tc (tc (Zd (Zr (web (And.intro Zpr (And.intro Zkv ZhU)))) Zb))) Zc)
    ·(conv => whnf)
     refine st ?_
     exact wx (WS.mk (tc (tc (Zd (Zr (web (And.intro Zpr Zkv))) Zb))) Zc)
   ·have ZkV := ife Zpr ZkV
    (conv => whnf)
    obtain rfl := Zg ZkV
    refine st ?_
    exact wx (WS.mk (tc (tc (Zd (Zr (web Zpr)) Zb))) Zc)
  obtain ⟨r0, hw⟩ := hw
  (conv => whnf)
  refine AWP.weak r0 hw ?_
  refine nw ?_
  refine Zi hF (fun Zn0 hF => ?_) (fun Zn0 hF => ?_)
  ·refine AWP.seq ?_
   refine ns ?_
   obtain rfl := Zg hF
   refine ns ?_
   refine Exists.intro [] ?_
   refine st ?_
   exact wx (WS.mk (tc Zb) Zc)
  ·refine nw ?_
   obtain ⟨ZHY, hF⟩ := Zy hF
   refine ns ?_
   refine AWL.weak (rn []) ?_ (Zpt s (i_3 + 1) _ hF)
   exact (WS.mk (tc (Zd (Zr (Zdf (Zdu ZHY))) Zb)) Zc)
 ·refine nw ?_
  refine AWP.seq ?_
  refine ns ?_
  obtain rfl := Zg hF
  refine ns ?_
  refine Exists.intro [] ?_
  refine st ?_
  exact wx (WS.mk (tc Zb) Zc)

def Zet (s : ByteArray) : Option (Bool) :=
 (if ((s.toList == (ByteArray.mk #[]).toList) || (decide (((s.size : Nat) : Int) > 64))) = true then some true else (btI s 0) >>= fun y7 =>
 Zei ((y7.toNat : Nat) : Int) >>= fun r8 =>
 (if (!r8) = true then (btI s 0) >>= fun y9 =>
 some (((y9.toNat : Nat) : Int) != 95) else some false) >>= fun c10 =>
 some c10) >>= fun c11 =>
 if c11 = true then
 some false
 else
 Zdm s 0
def Zet.M (s : ByteArray) (r : Bool) : Prop :=
 Zj Tryz.prog 119 [.c none (.v (.string s))] [] (fun d b => d = .c none (.v (.bool r)) ∧ b = [])
theorem Ziu (s : ByteArray) (r : Bool) (hF : Zet s = some r) : Zet.M s r := by
 unfold Zet at hF
 unfold Zet.M
 refine en Tryz.func119 ?_
 refine AWP.seq ?_
 refine ns ?_
 refine AWP.seq ?_
 refine AWP.seq ?_
 obtain ⟨c11, ZcS, hF⟩ := bind_some hF
 refine AWP.cutN (fun T => ∃ r, WS r T ⟨[(0, .c none (.v (.string s))), (22, .c none (.v (.bool c11)))], []⟩) ?_ (fun T hw => ?_)
 ·refine ns ?_
  refine Zm false (fun ZcJ => ?_) (fun ZcJ => ?_)
  ·(conv => whnf)
   have ZcS := ift ZcJ ZcS
   obtain rfl := Zg ZcS
   refine st ?_
   exact wx (WS.mk (tc (Zd (Zr (web ZcJ)) Zb)) Zc)
  ·(conv => whnf)
   refine st ?_
   refine Zm false (fun ZbE => ?_) (fun ZbE => ?_)
   ·have ZcS := ift (And.intro ZcJ ZbE) ZcS
    (conv => whnf)
    obtain rfl := Zg ZcS
    refine st ?_
    exact wx (WS.mk (tc (Zd (Zr (web (And.intro ZcJ ZbE))) Zb)) Zc)
   ·have ZcS := ife (And.intro ZcJ ZbE) ZcS
    obtain ⟨y7, hy70, hy7, ZcS⟩ := Zc4 ZcS
    obtain ⟨r8, hr8, ZcS⟩ := bind_some ZcS
    obtain ⟨c10, Zdt, ZcS⟩ := bind_some ZcS
    (conv => whnf)
    refine sr hy7 ?_
    refine st ?_
    refine e3 ?_
    refine st ?_
    refine cm (Zj.weak (rn []) (Zl0 ((y7.toNat : Nat) : Int) _ hr8) rfl (WS.mk (tc Zb) Zc)) ?_
    refine st ?_
    refine Zm true (fun Zdl => ?_) (fun Zdl => ?_)
    ·have Zdt := ift (And.intro ZcJ (And.intro ZbE Zdl)) Zdt
     obtain ⟨y9, ZH6, hy9, Zdt⟩ := Zc4 Zdt
     (conv => whnf)
     refine sr hy9 ?_
     obtain rfl := Zg Zdt
     obtain rfl := Zg ZcS
     refine st ?_
     exact wx (WS.mk (tc (Zd (Zr (web (And.intro ZcJ (And.intro ZbE Zdl)))) Zb)) Zc)
    ·have Zdt := ife (And.intro ZcJ (And.intro ZbE Zdl)) Zdt
     (conv => whnf)
     obtain rfl := Zg Zdt
     obtain rfl := Zg ZcS
     refine st ?_
     exact wx (WS.mk (tc (Zd (Zr (web (And.intro ZcJ (And.intro ZbE Zdl)))) Zb)) Zc)
 obtain ⟨r0, hw⟩ := hw
 (conv => whnf)
 refine AWP.weak r0 hw ?_
 refine nw ?_
 refine Zi hF (fun Zfg hF => ?_) (fun Zfg hF => ?_)
 ·refine AWP.seq ?_
  refine ns ?_
  obtain rfl := Zg hF
  refine ns ?_
  refine Exists.intro [] ?_
  refine st ?_
  exact wx (WS.mk (tc Zb) Zc)
 ·refine nw ?_
  refine AWP.seq ?_
  refine AWP.seq ?_
  refine ns ?_
  refine AWP.block ?_
  refine AWP.loop ?_
  refine AWL.weak (rn []) ?_ (Zpw s 0 _ hF)
  exact (WS.mk (tc (tc Zb)) Zc)

def Zeh (s : ByteArray) : Option (Bool) :=
 Zet s >>= fun r1 =>
 (if r1 = true then Zcn s >>= fun r2 =>
 some (!r2) else some false) >>= fun c3 =>
 (if c3 = true then some true else ZdU s >>= fun r4 =>
 (if r4 = true then ZbP s >>= fun r5 =>
 some (!r5) else some false) >>= fun c6 =>
 some c6) >>= fun c7 =>
 some c7
def Zeh.M (s : ByteArray) (r : Bool) : Prop :=
 Zj Tryz.prog 148 [.c none (.v (.string s))] [] (fun d b => d = .c none (.v (.bool r)) ∧ b = [])
theorem ZlX (s : ByteArray) (r : Bool) (hF : Zeh s = some r) : Zeh.M s r := by
 unfold Zeh at hF
 unfold Zeh.M
 refine en Tryz.func148 ?_
 refine AWP.seq ?_
 refine ns ?_
 refine AWP.seq ?_
 obtain ⟨r1, hr1, hF⟩ := bind_some hF
 obtain ⟨c3, hc3, hF⟩ := bind_some hF
 obtain ⟨c7, hc7, hF⟩ := bind_some hF
 refine AWP.cutN (fun T => ∃ r, WS r T ⟨[(2, .c none (.v (.bool c7)))], []⟩) ?_ (fun T hw => ?_)
 ·refine ns ?_
  refine e3 ?_
  refine st ?_
  refine cm (Zj.weak (rn []) (Ziu s _ hr1) rfl (WS.mk (tc Zb) Zc)) ?_
  refine st ?_
  refine Zm true (fun hc8 => ?_) (fun hc8 => ?_)
  ·have hc3 := ift hc8 hc3
   obtain ⟨r2, hr2, hc3⟩ := bind_some hc3
   (conv => whnf)
   refine st ?_
   refine e3 ?_
   refine st ?_
   refine cm (Zj.weak (rn []) (ZhY s _ hr2) rfl (WS.mk (tc Zb) Zc)) ?_
   refine st ?_
   obtain rfl := Zg hc3
   refine st ?_
   refine Zm false (fun hc9 => ?_) (fun hc9 => ?_)
   ·have hc7 := ift (And.intro hc8 hc9) hc7
    (conv => whnf)
    obtain rfl := Zg hc7
    refine st ?_
    exact wx (WS.mk (Zd (Zr (web (And.intro hc8 hc9))) Zb) Zc)
   ·have hc7 := ife (And.intro hc8 hc9) hc7
    obtain ⟨r4, hr4, hc7⟩ := bind_some hc7
    obtain ⟨c6, hc6, hc7⟩ := bind_some hc7
    (conv => whnf)
    refine st ?_
    refine e3 ?_
    refine st ?_
    refine cm (Zj.weak (rn []) (ZgY s _ hr4) rfl (WS.mk (tc Zb) Zc)) ?_
    refine st ?_
    refine Zm true (fun Zdt => ?_) (fun Zdt => ?_)
    ·have hc6 := ift (And.intro hc8 (And.intro hc9 Zdt)) hc6
     obtain ⟨r5, hr5, hc6⟩ := bind_some hc6
     (conv => whnf)
     refine st ?_
     refine e3 ?_
     refine st ?_
     refine cm (Zj.weak (rn []) (Zfa s _ hr5) rfl (WS.mk (tc Zb) Zc)) ?_
     refine st ?_
     obtain rfl := Zg hc6
     obtain rfl := Zg hc7
     refine st ?_
     exact wx (WS.mk (Zd (Zr (web (And.intro hc8 (And.intro hc9 Zdt)))) Zb) Zc)
    ·have hc6 := ife (And.intro hc8 (And.intro hc9 Zdt)) hc6
     (conv => whnf)
     obtain rfl := Zg hc6
     obtain rfl := Zg hc7
     refine st ?_
     exact wx (WS.mk (Zd (Zr (web (And.intro hc8 (And.intro hc9 Zdt)))) Zb) Zc)
  ·have hc3 := ife hc8 hc3
   (conv => whnf)
   obtain rfl := Zg hc3
   have hc7 := ife hc8 hc7
   obtain ⟨r4, hr4, hc7⟩ := bind_some hc7
   obtain ⟨c6, hc6, hc7⟩ := bind_some hc7
   refine st ?_
   refine e3 ?_
   refine st ?_
   refine cm (Zj.weak (rn []) (ZgY s _ hr4) rfl (WS.mk (tc Zb) Zc)) ?_
   refine st ?_
   refine Zm true (fun ZcS => ?_) (fun ZcS => ?_)
   ·have hc6 := ift (And.intro hc8 ZcS) hc6
    obtain ⟨r5, hr5, hc6⟩ := bind_some hc6
    (conv => whnf)
    refine st ?_
    refine e3 ?_
    refine st ?_
    refine cm (Zj.weak (rn []) (Zfa s _ hr5) rfl (WS.mk (tc Zb) Zc)) ?_
    refine st ?_
    obtain rfl := Zg hc6
    obtain rfl := Zg hc7
    refine st ?_
    exact wx (WS.mk (Zd (Zr (web (And.intro hc8 ZcS))) Zb) Zc)
   ·have hc6 := ife (And.intro hc8 ZcS) hc6
    (conv => whnf)
    obtain rfl := Zg hc6
    obtain rfl := Zg hc7
    refine st ?_
    exact wx (WS.mk (Zd (Zr (web (And.intro hc8 ZcS))) Zb) Zc)
 obtain ⟨r0, hw⟩ := hw
 (conv => whnf)
 refine AWP.weak r0 hw ?_
 obtain rfl := Zg hF
 refine ns ?_
 refine Exists.intro [] ?_
 refine st ?_
 exact wx (WS.mk (tc Zb) Zc)

def ZfX (module : ByteArray) (name_ : ByteArray) : Option (ByteArray) :=
 Zet module >>= fun r8 =>
 (if (!r8) = true then some true else (btI module 0) >>= fun y9 =>
 Zen ((y9.toNat : Nat) : Int) >>= fun r10 =>
 some (!r10)) >>= fun c11 =>
 (if c11 = true then some true else Zeh name_ >>= fun r12 =>
 some (!r12)) >>= fun c13 =>
 if c13 = true then
 some (ByteArray.mk #[])
 else
 Z5 (((module.size + (ByteArray.mk #[46]).size : Nat) : Int) ≤ IntKind.i64.max) >>= fun _ =>
 Z5 ((((module ++ (ByteArray.mk #[46])).size + name_.size : Nat) : Int) ≤ IntKind.i64.max) >>= fun _ =>
 some ((module ++ (ByteArray.mk #[46])) ++ name_)
def ZfX.M (module : ByteArray) (name_ : ByteArray) (r : ByteArray) : Prop :=
 Zj Tryz.prog 141 [.c none (.v (.string module)), .c none (.v (.string name_))] [] (fun d b => d = .c none (.v (.string r)) ∧ b = [])
theorem Zsi (module : ByteArray) (name_ : ByteArray) (r : ByteArray) (hF : ZfX module name_ = some r) : ZfX.M module name_ r := by
 unfold ZfX at hF
 unfold ZfX.M
 refine en Tryz.func141 ?_
 refine AWP.seq ?_
 refine ns ?_
 refine AWP.seq ?_
 refine AWP.seq ?_
 obtain ⟨r8, hr8, hF⟩ := bind_some hF
 obtain ⟨c11, ZcS, hF⟩ := bind_some hF
 obtain ⟨c13, ZbE, hF⟩ := bind_some hF
 refine AWP.cutN (fun T => ∃ r, WS r T ⟨[(0, .c none (.v (.string module))), (1, .c none (.v (.string name_))), (18, .c none (.v (.bool c13)))], []⟩) ?_ (fun T hw => ?_)
 ·refine ns ?_
  refine e3 ?_
  refine st ?_
  refine cm (Zj.weak (rn []) (Ziu module _ hr8) rfl (WS.mk (tc Zb) Zc)) ?_
  refine st ?_
  refine Zm false (fun Zdl => ?_) (fun Zdl => ?_)
  ·have ZcS := ift Zdl ZcS
   (conv => whnf)
   obtain rfl := Zg ZcS
   have ZbE := ift Zdl ZbE
   obtain rfl := Zg ZbE
   refine st ?_
   exact wx (WS.mk (tc (tc (Zd (Zr (web Zdl)) Zb))) Zc)
  ·have ZcS := ife Zdl ZcS
   obtain ⟨y9, ZH6, hy9, ZcS⟩ := Zc4 ZcS
   obtain ⟨r10, ZzF, ZcS⟩ := bind_some ZcS
   (conv => whnf)
   refine sr hy9 ?_
   refine st ?_
   refine e3 ?_
   refine st ?_
   refine cm (Zj.weak (rn []) (ZjS ((y9.toNat : Nat) : Int) _ ZzF) rfl (WS.mk (tc Zb) Zc)) ?_
   refine st ?_
   obtain rfl := Zg ZcS
   refine st ?_
   refine Zm false (fun Zfg => ?_) (fun Zfg => ?_)
   ·have ZbE := ift (And.intro Zdl Zfg) ZbE
    (conv => whnf)
    obtain rfl := Zg ZbE
    refine st ?_
    exact wx (WS.mk (tc (tc (Zd (Zr (web (And.intro Zdl Zfg))) Zb))) Zc)
   ·have ZbE := ife (And.intro Zdl Zfg) ZbE
    obtain ⟨r12, ZAo, ZbE⟩ := bind_some ZbE
    (conv => whnf)
    refine st ?_
    refine e3 ?_
    refine st ?_
    refine cm (Zj.weak (rn []) (ZlX name_ _ ZAo) rfl (WS.mk (tc Zb) Zc)) ?_
    refine st ?_
    obtain rfl := Zg ZbE
    refine st ?_
    exact wx (WS.mk (tc (tc (Zd (Zr (web (And.intro Zdl Zfg))) Zb))) Zc)
 obtain ⟨r0, hw⟩ := hw
 (conv => whnf)
 refine AWP.weak r0 hw ?_
 refine nw ?_
 refine Zi hF (fun Zgs hF => ?_) (fun Zgs hF => ?_)
 ·refine AWP.seq ?_
  refine ns ?_
  obtain rfl := Zg hF
  refine ns ?_
  refine Exists.intro [] ?_
  refine st ?_
  exact wx (WS.mk (tc Zb) Zc)
 ·refine nw ?_
  refine AWP.seq ?_
  obtain ⟨ZCT, hF⟩ := Zy hF
  obtain ⟨ZHP, hF⟩ := Zy hF
  refine ns ?_
  refine And.intro ZCT ?_
  refine st ?_
  refine And.intro ZHP ?_
  refine st ?_
  obtain rfl := Zg hF
  refine ns ?_
  refine Exists.intro [] ?_
  refine st ?_
  exact wx (WS.mk (tc Zb) Zc)

def ZeV (s : ByteArray) : Option (ByteArray × ByteArray × Bool) :=
 strings_Cut s (ByteArray.mk #[46]) >>= fun r1 =>
 (if (!r1.2.2) = true then some true else ZfX r1.1 r1.2.1 >>= fun r5 =>
 some (r5.toList == (ByteArray.mk #[]).toList)) >>= fun c6 =>
 if c6 = true then
 some ((ByteArray.mk #[]), (ByteArray.mk #[]), false)
 else
 some (r1.1, r1.2.1, true)
def ZeV.M (s : ByteArray) (r : ByteArray × ByteArray × Bool) : Prop :=
 Zj Tryz.prog 127 [.c none (.v (.string s))] [] (fun d b => d = .tup [.c (.v (.string r.1)), .c (.v (.string r.2.1)), .c (.v (.bool r.2.2))] ∧ b = [])
theorem Zmp (s : ByteArray) (r : ByteArray × ByteArray × Bool) (hF : ZeV s = some r) : ZeV.M s r := by
 unfold ZeV at hF
 unfold ZeV.M
 refine en Tryz.func127 ?_
 refine AWP.seq ?_
 refine ns ?_
 refine AWP.seq ?_
 obtain ⟨r1, hr1, hF⟩ := bind_some hF
 refine ns ?_
 refine e3 ?_
 refine st ?_
 refine cm (Zj.weak (rn []) (Zq3 s (ByteArray.mk #[46]) _ hr1) rfl (WS.mk (tc (tc Zb)) Zc)) ?_
 refine st ?_
 refine AWP.seq ?_
 refine AWP.seq ?_
 obtain ⟨c6, hc6, hF⟩ := bind_some hF
 refine AWP.cutN (fun T => ∃ r, WS r T ⟨[(5, .c none (.v (.string r1.1))), (6, .c none (.v (.string r1.2.1))), (21, .c none (.v (.bool c6)))], []⟩) ?_ (fun T hw => ?_)
 ·refine ns ?_
  refine Zm false (fun hc7 => ?_) (fun hc7 => ?_)
  ·have hc6 := ift hc7 hc6
   (conv => whnf)
   obtain rfl := Zg hc6
   refine st ?_
   exact wx (WS.mk (tc (tc (Zd (Zr (web hc7)) Zb))) Zc)
  ·have hc6 := ife hc7 hc6
   obtain ⟨r5, hr5, hc6⟩ := bind_some hc6
   (conv => whnf)
   refine st ?_
   refine e3 ?_
   refine st ?_
   refine cm (Zj.weak (rn []) (Zsi r1.1 r1.2.1 _ hr5) rfl (WS.mk (tc (tc Zb)) Zc)) ?_
   refine st ?_
   obtain rfl := Zg hc6
   refine st ?_
   exact wx (WS.mk (tc (tc (Zd (Zr (web hc7)) Zb))) Zc)
 obtain ⟨r0, hw⟩ := hw
 (conv => whnf)
 refine AWP.weak r0 hw ?_
 refine nw ?_
 refine Zi hF (fun hc8 hF => ?_) (fun hc8 hF => ?_)
 ·refine AWP.seq ?_
  refine ns ?_
  obtain rfl := Zg hF
  refine ns ?_
  refine Exists.intro [] ?_
  refine st ?_
  exact wx (WS.mk (Zd (Zc9 (ZcG (WE.refl _) (ZcG (WE.refl _) (ZcG (WE.refl _) Zc7)))) Zb) Zc)
 ·refine nw ?_
  refine AWP.seq ?_
  refine ns ?_
  obtain rfl := Zg hF
  refine ns ?_
  refine Exists.intro [] ?_
  refine st ?_
  exact wx (WS.mk (Zd (Zc9 (ZcG (WE.refl _) (ZcG (WE.refl _) (ZcG (WE.refl _) Zc7)))) Zb) Zc)

def ZeU (s : ByteArray) : Option (Bool) :=
 ZeV s >>= fun r1 =>
 (if r1.2.2 = true then some true else Zeh s >>= fun r2 =>
 some r2) >>= fun c3 =>
 some c3
def ZeU.M (s : ByteArray) (r : Bool) : Prop :=
 Zj Tryz.prog 134 [.c none (.v (.string s))] [] (fun d b => d = .c none (.v (.bool r)) ∧ b = [])
theorem Zql (s : ByteArray) (r : Bool) (hF : ZeU s = some r) : ZeU.M s r := by
 unfold ZeU at hF
 unfold ZeU.M
 refine en Tryz.func134 ?_
 refine AWP.seq ?_
 refine ns ?_
 refine AWP.seq ?_
 obtain ⟨r1, hr1, hF⟩ := bind_some hF
 refine ns ?_
 refine e3 ?_
 refine st ?_
 refine cm (Zj.weak (rn []) (Zmp s _ hr1) rfl (WS.mk (tc Zb) Zc)) ?_
 refine st ?_
 refine AWP.seq ?_
 obtain ⟨c3, hc3, hF⟩ := bind_some hF
 refine AWP.cutN (fun T => ∃ r, WS r T ⟨[(2, .c none (.v (.bool c3)))], []⟩) ?_ (fun T hw => ?_)
 ·refine ns ?_
  refine Zm false (fun hc4 => ?_) (fun hc4 => ?_)
  ·have hc3 := ift hc4 hc3
   (conv => whnf)
   obtain rfl := Zg hc3
   refine st ?_
   exact wx (WS.mk (Zd (Zr (web hc4)) Zb) Zc)
  ·have hc3 := ife hc4 hc3
   obtain ⟨r2, hr2, hc3⟩ := bind_some hc3
   (conv => whnf)
   refine st ?_
   refine e3 ?_
   refine st ?_
   refine cm (Zj.weak (rn []) (ZlX s _ hr2) rfl (WS.mk (tc Zb) Zc)) ?_
   refine st ?_
   obtain rfl := Zg hc3
   refine st ?_
   exact wx (WS.mk (Zd (Zr (web hc4)) Zb) Zc)
 obtain ⟨r0, hw⟩ := hw
 (conv => whnf)
 refine AWP.weak r0 hw ?_
 obtain rfl := Zg hF
 refine ns ?_
 refine Exists.intro [] ?_
 refine st ?_
 exact wx (WS.mk (tc Zb) Zc)

def Zf4 (base : ByteArray) (n : Int) : Option (ByteArray) :=
 (if (decide (n < 0)) = true then some true else ZeU base >>= fun r4 =>
 some (!r4)) >>= fun c5 =>
 if c5 = true then
 some (ByteArray.mk #[])
 else
 Z5 (((base.size + (ByteArray.mk #[36]).size : Nat) : Int) ≤ IntKind.i64.max) >>= fun _ =>
 strconv_Itoa n >>= fun r9 =>
 Z5 ((((base ++ (ByteArray.mk #[36])).size + r9.size : Nat) : Int) ≤ IntKind.i64.max) >>= fun _ =>
 some ((base ++ (ByteArray.mk #[36])) ++ r9)
def Zf4.M (base : ByteArray) (n : Int) (r : ByteArray) : Prop :=
 Zj Tryz.prog 116 [.c none (.v (.string base)), .c none (.v (.int .i64 n))] [] (fun d b => d = .c none (.v (.string r)) ∧ b = [])
theorem Zsf (base : ByteArray) (n : Int) (r : ByteArray) (hF : Zf4 base n = some r) : Zf4.M base n r := by
 unfold Zf4 at hF
 unfold Zf4.M
 refine en Tryz.func116 ?_
 refine AWP.seq ?_
 refine ns ?_
 refine AWP.seq ?_
 refine AWP.seq ?_
 obtain ⟨c5, hc5, hF⟩ := bind_some hF
 refine AWP.cutN (fun T => ∃ r, WS r T ⟨[(0, .c none (.v (.string base))), (1, .c none (.v (.int .i64 n))), (11, .c none (.v (.bool c5)))], []⟩) ?_ (fun T hw => ?_)
 ·refine ns ?_
  refine Zm false (fun hc6 => ?_) (fun hc6 => ?_)
  ·have hc5 := ift hc6 hc5
   (conv => whnf)
   obtain rfl := Zg hc5
   refine st ?_
   exact wx (WS.mk (tc (tc (Zd (Zr (web hc6)) Zb))) Zc)
  ·have hc5 := ife hc6 hc5
   obtain ⟨r4, hr4, hc5⟩ := bind_some hc5
   (conv => whnf)
   refine st ?_
   refine e3 ?_
   refine st ?_
   refine cm (Zj.weak (rn []) (Zql base _ hr4) rfl (WS.mk (tc Zb) Zc)) ?_
   refine st ?_
   obtain rfl := Zg hc5
   refine st ?_
   exact wx (WS.mk (tc (tc (Zd (Zr (web hc6)) Zb))) Zc)
 obtain ⟨r0, hw⟩ := hw
 (conv => whnf)
 refine AWP.weak r0 hw ?_
 refine nw ?_
 refine Zi hF (fun hc7 hF => ?_) (fun hc7 hF => ?_)
 ·refine AWP.seq ?_
  refine ns ?_
  obtain rfl := Zg hF
  refine ns ?_
  refine Exists.intro [] ?_
  refine st ?_
  exact wx (WS.mk (tc Zb) Zc)
 ·refine nw ?_
  refine AWP.seq ?_
  obtain ⟨hg8, hF⟩ := Zy hF
  obtain ⟨r9, hr9, hF⟩ := bind_some hF
  obtain ⟨ZAw, hF⟩ := Zy hF
  refine ns ?_
  refine And.intro hg8 ?_
  refine st ?_
  refine e3 ?_
  refine st ?_
  refine cm (Zj.weak (rn []) (ZlS n _ hr9) rfl (WS.mk (tc Zb) Zc)) ?_
  refine st ?_
  refine And.intro ZAw ?_
  refine st ?_
  obtain rfl := Zg hF
  refine ns ?_
  refine Exists.intro [] ?_
  refine st ?_
  exact wx (WS.mk (tc Zb) Zc)

def ZR (s : ByteArray) (c : Int) (i_5 : Int) : Option (Int) :=
 if (decide (i_5 ≥ 0)) = true then
 (btI s i_5) >>= fun y11 =>
 if (((y11.toNat : Nat) : Int) == c) = true then
 some i_5
 else
 ZR s c (IntKind.i64.wrap (i_5 - 1))
 else
 some (-1)
 partial_fixpoint
def ZR.M (s : ByteArray) (c : Int) (i_5 : Int) (r : Int) : Prop :=
 AWL Tryz.prog 19 (Code.sub (Zq Tryz.f131) [1, 0, 1, 0, 0]) (Code.cont Tryz.prog 19 (Zq Tryz.f131) [1, 0, 1, 0] (ZbW tab Tryz.f131.results (ZbY (.c none (.v (.int .i64 r))) []))) ⟨[(0, .c none (.v (.string s))), (1, .c none (.v (.int .u8 c))), (5, .c none (.v (.int .i64 i_5)))], []⟩
theorem ZgM (s : ByteArray) (c : Int) (i_5 : Int) : ∀ r, ZR s c i_5 = some r → ZR.M s c i_5 r := by
 refine ZR.partial_correctness s c (fun i_5 r => ZR.M s c i_5 r) ?_ i_5
 intro i_bytealg_LastIndexByteString_l1' Zed i_5 r hF
 have ZgE := fun (_s : ByteArray) (_c : Int) (i_5 : Int) => Zed i_5
 clear Zed
 unfold ZR.M
 refine AWL.step ?_
 refine AWP.seq ?_
 refine AWP.seq ?_
 refine ns ?_
 refine nw ?_
 refine Zi hF (fun Zdt hF => ?_) (fun Zdt hF => ?_)
 ·refine nw ?_
  refine AWP.seq ?_
  refine AWP.block ?_
  refine AWP.seq ?_
  obtain ⟨y11, hy110, ZG6, hF⟩ := Zc4 hF
  refine nn ?_
  refine sr ZG6 ?_
  refine st ?_
  refine nw ?_
  refine Zi hF (fun ZcJ hF => ?_) (fun ZcJ hF => ?_)
  ·refine AWP.seq ?_
   refine ns ?_
   obtain rfl := Zg hF
   refine ns ?_
   refine Exists.intro [] ?_
   refine st ?_
   exact wx (WS.mk (tc Zb) Zc)
  ·refine nw ?_
   refine ns ?_
   refine AWL.weak (rn []) ?_ (ZgE s c (IntKind.i64.wrap (i_5 - 1)) _ hF)
   exact (WS.mk (tc (tc (tc Zb))) Zc)
 ·refine nw ?_
  refine AWP.seq ?_
  refine ns ?_
  obtain rfl := Zg hF
  refine ns ?_
  refine Exists.intro [] ?_
  refine st ?_
  exact wx (WS.mk (tc Zb) Zc)

def Za0 (s : ByteArray) (c : Int) : Option (Int) :=
 ZR s c (IntKind.i64.wrap (((s.size : Nat) : Int) - 1))
def Za0.M (s : ByteArray) (c : Int) (r : Int) : Prop :=
 Zj Tryz.prog 131 [.c none (.v (.string s)), .c none (.v (.int .u8 c))] [] (fun d b => d = .c none (.v (.int .i64 r)) ∧ b = [])
theorem ZhQ (s : ByteArray) (c : Int) (r : Int) (hF : Za0 s c = some r) : Za0.M s c r := by
 unfold Za0 at hF
 unfold Za0.M
 refine en Tryz.func131 ?_
 refine AWP.seq ?_
 refine ns ?_
 refine AWP.seq ?_
 refine AWP.seq ?_
 refine ns ?_
 refine AWP.block ?_
 refine AWP.loop ?_
 refine AWL.weak (rn []) ?_ (ZgM s c (IntKind.i64.wrap (((s.size : Nat) : Int) - 1)) _ hF)
 exact (WS.mk (tc (tc (tc Zb))) Zc)

def Zb0 (s : ByteArray) (c : Int) : Option (Int) :=
 Za0 s c >>= fun r1 =>
 some r1
def Zb0.M (s : ByteArray) (c : Int) (r : Int) : Prop :=
 Zj Tryz.prog 114 [.c none (.v (.string s)), .c none (.v (.int .u8 c))] [] (fun d b => d = .c none (.v (.int .i64 r)) ∧ b = [])
theorem Zkp (s : ByteArray) (c : Int) (r : Int) (hF : Zb0 s c = some r) : Zb0.M s c r := by
 unfold Zb0 at hF
 unfold Zb0.M
 refine en Tryz.func114 ?_
 refine AWP.seq ?_
 refine ns ?_
 refine AWP.seq ?_
 obtain ⟨r1, hr1, hF⟩ := bind_some hF
 refine ns ?_
 refine e3 ?_
 refine st ?_
 refine cm (Zj.weak (rn []) (ZhQ s c _ hr1) rfl (WS.mk (tc (tc Zb)) Zc)) ?_
 refine st ?_
 obtain rfl := Zg hF
 refine ns ?_
 refine Exists.intro [] ?_
 refine st ?_
 exact wx (WS.mk (tc Zb) Zc)

def Ze1 (s : ByteArray) : Option (ByteArray × Int × Bool) :=
 Zb0 s 36 >>= fun r1 =>
 if (decide (r1 < 0)) = true then
 some ((ByteArray.mk #[]), 0, false)
 else
 (slS s (IntKind.i64.wrap (r1 + 1)) ((s.size : Nat) : Int)) >>= fun z4 =>
 Zft z4 >>= fun r5 =>
 (if r5.2 = true then some true else (slS s ((0 : Nat) : Int) r1) >>= fun z10 =>
 Zf4 z10 r5.1 >>= fun r11 =>
 some (!(r11.toList == s.toList))) >>= fun c12 =>
 if c12 = true then
 some ((ByteArray.mk #[]), 0, false)
 else
 (slS s ((0 : Nat) : Int) r1) >>= fun z15 =>
 some (z15, r5.1, true)
def Ze1.M (s : ByteArray) (r : ByteArray × Int × Bool) : Prop :=
 Zj Tryz.prog 92 [.c none (.v (.string s))] [] (fun d b => d = .tup [.c (.v (.string r.1)), .c (.v (.int .i64 r.2.1)), .c (.v (.bool r.2.2))] ∧ b = [])
theorem Zkn (s : ByteArray) (r : ByteArray × Int × Bool) (hF : Ze1 s = some r) : Ze1.M s r := by
 unfold Ze1 at hF
 unfold Ze1.M
 refine en Tryz.func92 ?_
 refine AWP.seq ?_
 refine ns ?_
 refine AWP.seq ?_
 obtain ⟨r1, hr1, hF⟩ := bind_some hF
 refine ns ?_
 refine e3 ?_
 refine st ?_
 refine cm (Zj.weak (rn []) (Zkp s 36 _ hr1) rfl (WS.mk (tc (tc Zb)) Zc)) ?_
 refine st ?_
 refine AWP.seq ?_
 refine AWP.seq ?_
 refine ns ?_
 refine nw ?_
 refine Zi hF (fun hc3 hF => ?_) (fun hc3 hF => ?_)
 ·refine AWP.seq ?_
  refine ns ?_
  obtain rfl := Zg hF
  refine ns ?_
  refine Exists.intro [] ?_
  refine st ?_
  exact wx (WS.mk (Zd (Zc9 (ZcG (WE.refl _) (ZcG (WE.refl _) (ZcG (WE.refl _) Zc7)))) Zb) Zc)
 ·refine nw ?_
  refine AWP.seq ?_
  obtain ⟨z4, ZHA, ZCu, ZHQ, hz4, hF⟩ := ZfS hF
  obtain ⟨r5, hr5, hF⟩ := bind_some hF
  refine nn ?_
  refine s3 ZHA ZCu ZHQ ?_
  rw [← hz4]
  refine st ?_
  refine e3 ?_
  refine st ?_
  refine cm (Zj.weak (rn []) (strconv_Atoi_ok z4 _ hr5) rfl (WS.mk (tc Zb) Zc)) ?_
  refine st ?_
  refine AWP.seq ?_
  refine AWP.seq ?_
  obtain ⟨c12, ZcJ, hF⟩ := bind_some hF
  refine AWP.cutN (fun T => ∃ r, WS r T ⟨[(0, .c none (.v (.string s))), (3, .c none (.v (.int .i64 r5.1))), (5, .c none (.v (.int .i64 r1))), (29, .c none (.v (.bool c12)))], []⟩) ?_ (fun T hw => ?_)
  ·refine ns ?_
   refine Zm false (fun ZbE => ?_) (fun ZbE => ?_)
   ·have ZcJ := ift ZbE ZcJ
    (conv => whnf)
    obtain rfl := Zg ZcJ
    refine st ?_
    exact wx (WS.mk (tc (tc (tc (Zd (Zr (web ZbE)) Zb)))) Zc)
   ·have ZcJ := ife ZbE ZcJ
    obtain ⟨z10, ZGe, ZGz, ZFy, ZHk, ZcJ⟩ := ZfS ZcJ
    obtain ⟨r11, ZvJ, ZcJ⟩ := bind_some ZcJ
    (conv => whnf)
    refine s3 ZGe ZGz ZFy ?_
    rw [← ZHk]
    refine st ?_
    refine e3 ?_
    refine st ?_
    refine cm (Zj.weak (rn []) (Zsf z10 r5.1 _ ZvJ) rfl (WS.mk (tc (tc Zb)) Zc)) ?_
    refine st ?_
    obtain rfl := Zg ZcJ
    refine st ?_
    exact wx (WS.mk (tc (tc (tc (Zd (Zr (web ZbE)) Zb)))) Zc)
  obtain ⟨r0, hw⟩ := hw
  (conv => whnf)
  refine AWP.weak r0 hw ?_
  refine nw ?_
  refine Zi hF (fun Zdl hF => ?_) (fun Zdl hF => ?_)
  ·refine AWP.seq ?_
   refine ns ?_
   obtain rfl := Zg hF
   refine ns ?_
   refine Exists.intro [] ?_
   refine st ?_
   exact wx (WS.mk (Zd (Zc9 (ZcG (WE.refl _) (ZcG (WE.refl _) (ZcG (WE.refl _) Zc7)))) Zb) Zc)
  ·refine nw ?_
   refine AWP.seq ?_
   obtain ⟨z15, ZEZ, ZGp, ZEQ, ZIf, hF⟩ := ZfS hF
   refine nn ?_
   refine s3 ZEZ ZGp ZEQ ?_
   rw [← ZIf]
   refine st ?_
   obtain rfl := Zg hF
   refine ns ?_
   refine Exists.intro [] ?_
   refine st ?_
   exact wx (WS.mk (Zd (Zc9 (ZcG (WE.refl _) (ZcG (WE.refl _) (ZcG (WE.refl _) Zc7)))) Zb) Zc)

def Zdn (s : ByteArray) : Option (Int) :=
 Zcn s >>= fun r18 =>
 if r18 = true then
 some 5
 else
 ZbP s >>= fun r20 =>
 if r20 = true then
 some 6
 else
 Zet s >>= fun r22 =>
 (if r22 = true then (btI s 0) >>= fun y23 =>
 Zen ((y23.toNat : Nat) : Int) >>= fun r24 =>
 some r24 else some false) >>= fun c25 =>
 if c25 = true then
 some 2
 else
 Zet s >>= fun r28 =>
 if r28 = true then
 some 1
 else
 ZdU s >>= fun r30 =>
 (if r30 = true then (btI s 0) >>= fun y31 =>
 some (((y31.toNat : Nat) : Int) == 58) else some false) >>= fun c32 =>
 if c32 = true then
 some 4
 else
 ZdU s >>= fun r35 =>
 if r35 = true then
 some 3
 else
 Ze1 s >>= fun r37 =>
 if r37.2.2 = true then
 some 7
 else
 some 0
def Zdn.M (s : ByteArray) (r : Int) : Prop :=
 Zj Tryz.prog 93 [.c none (.v (.string s))] [] (fun d b => d = .c none (.v (.int .i64 r)) ∧ b = [])
theorem ZhK (s : ByteArray) (r : Int) (hF : Zdn s = some r) : Zdn.M s r := by
 unfold Zdn at hF
 unfold Zdn.M
 refine en Tryz.func93 ?_
 refine AWP.seq ?_
 refine ns ?_
 refine AWP.seq ?_
 refine AWP.block ?_
 refine AWP.seq ?_
 obtain ⟨r18, ZCt, hF⟩ := bind_some hF
 refine ns ?_
 refine e3 ?_
 refine st ?_
 refine cm (Zj.weak (rn []) (ZhY s _ ZCt) rfl (WS.mk (tc Zb) Zc)) ?_
 refine st ?_
 refine nw ?_
 refine Zi hF (fun ZtA hF => ?_) (fun ZtA hF => ?_)
 ·refine AWP.seq ?_
  refine ns ?_
  obtain rfl := Zg hF
  refine ns ?_
  refine Exists.intro [] ?_
  refine st ?_
  exact wx (WS.mk (tc Zb) Zc)
 ·refine AWP.seq ?_
  obtain ⟨r20, ZHp, hF⟩ := bind_some hF
  refine ns ?_
  refine e3 ?_
  refine st ?_
  refine cm (Zj.weak (rn []) (Zfa s _ ZHp) rfl (WS.mk (tc Zb) Zc)) ?_
  refine st ?_
  refine nw ?_
  refine Zi hF (fun ZCO hF => ?_) (fun ZCO hF => ?_)
  ·refine AWP.seq ?_
   refine ns ?_
   obtain rfl := Zg hF
   refine ns ?_
   refine Exists.intro [] ?_
   refine st ?_
   exact wx (WS.mk (tc Zb) Zc)
  ·refine AWP.seq ?_
   obtain ⟨r22, ZIt, hF⟩ := bind_some hF
   obtain ⟨c25, ZjV, hF⟩ := bind_some hF
   refine AWP.cutN (fun T => ∃ r, WS r T ⟨[(0, .c none (.v (.string s))), (12, .c none (.v (.bool c25)))], []⟩) ?_ (fun T hw => ?_)
   ·refine ns ?_
    refine e3 ?_
    refine st ?_
    refine cm (Zj.weak (rn []) (Ziu s _ ZIt) rfl (WS.mk (tc Zb) Zc)) ?_
    refine st ?_
    refine Zm true (fun ZlJ => ?_) (fun ZlJ => ?_)
    ·have ZjV := ift ZlJ ZjV
     obtain ⟨y23, hy230, ZHV, ZjV⟩ := Zc4 ZjV
     obtain ⟨r24, ZDl, ZjV⟩ := bind_some ZjV
     (conv => whnf)
     refine sr ZHV ?_
     refine st ?_
     refine e3 ?_
     refine st ?_
     refine cm (Zj.weak (rn []) (ZjS ((y23.toNat : Nat) : Int) _ ZDl) rfl (WS.mk (tc Zb) Zc)) ?_
     refine st ?_
     obtain rfl := Zg ZjV
     refine st ?_
     exact wx (WS.mk (tc (Zd (Zr (web ZlJ)) Zb)) Zc)
    ·have ZjV := ife ZlJ ZjV
     (conv => whnf)
     obtain rfl := Zg ZjV
     refine st ?_
     exact wx (WS.mk (tc (Zd (Zr (web ZlJ)) Zb)) Zc)
   obtain ⟨r0, hw⟩ := hw
   (conv => whnf)
   refine AWP.weak r0 hw ?_
   refine nw ?_
   refine Zi hF (fun ZtV hF => ?_) (fun ZtV hF => ?_)
   ·refine AWP.seq ?_
    refine ns ?_
    obtain rfl := Zg hF
    refine ns ?_
    refine Exists.intro [] ?_
    refine st ?_
    exact wx (WS.mk (tc Zb) Zc)
   ·refine AWP.seq ?_
    obtain ⟨r28, ZDD, hF⟩ := bind_some hF
    refine ns ?_
    refine e3 ?_
    refine st ?_
    refine cm (Zj.weak (rn []) (Ziu s _ ZDD) rfl (WS.mk (tc Zb) Zc)) ?_
    refine st ?_
    refine nw ?_
    refine Zi hF (fun ZoB hF => ?_) (fun ZoB hF => ?_)
    ·refine AWP.seq ?_
     refine ns ?_
     obtain rfl := Zg hF
     refine ns ?_
     refine Exists.intro [] ?_
     refine st ?_
     exact wx (WS.mk (tc Zb) Zc)
    ·refine AWP.seq ?_
     obtain ⟨r30, ZG2, hF⟩ := bind_some hF
     obtain ⟨c32, ZnQ, hF⟩ := bind_some hF
     refine AWP.cutN (fun T => ∃ r, WS r T ⟨[(0, .c none (.v (.string s))), (23, .c none (.v (.bool c32)))], []⟩) ?_ (fun T hw => ?_)
     ·refine ns ?_
      refine e3 ?_
      refine st ?_
      refine cm (Zj.weak (rn []) (ZgY s _ ZG2) rfl (WS.mk (tc Zb) Zc)) ?_
      refine st ?_
      refine Zm true (fun Zpk => ?_) (fun Zpk => ?_)
      ·have ZnQ := ift Zpk ZnQ
       obtain ⟨y31, hy310, ZHS, ZnQ⟩ := Zc4 ZnQ
       (conv => whnf)
       refine sr ZHS ?_
       obtain rfl := Zg ZnQ
       refine st ?_
       exact wx (WS.mk (tc (Zd (Zr (web Zpk)) Zb)) Zc)
      ·have ZnQ := ife Zpk ZnQ
       (conv => whnf)
       obtain rfl := Zg ZnQ
       refine st ?_
       exact wx (WS.mk (tc (Zd (Zr (web Zpk)) Zb)) Zc)
     obtain ⟨r0, hw⟩ := hw
     (conv => whnf)
     refine AWP.weak r0 hw ?_
     refine nw ?_
     refine Zi hF (fun ZAj hF => ?_) (fun ZAj hF => ?_)
     ·refine AWP.seq ?_
      refine ns ?_
      obtain rfl := Zg hF
      refine ns ?_
      refine Exists.intro [] ?_
      refine st ?_
      exact wx (WS.mk (tc Zb) Zc)
     ·refine AWP.seq ?_
      obtain ⟨r35, ZDk, hF⟩ := bind_some hF
      refine ns ?_
      refine e3 ?_
      refine st ?_
      refine cm (Zj.weak (rn []) (ZgY s _ ZDk) rfl (WS.mk (tc Zb) Zc)) ?_
      refine st ?_
      refine nw ?_
      refine Zi hF (fun ZkV hF => ?_) (fun ZkV hF => ?_)
      ·refine AWP.seq ?_
       refine ns ?_
       obtain rfl := Zg hF
       refine ns ?_
       refine Exists.intro [] ?_
       refine st ?_
       exact wx (WS.mk (tc Zb) Zc)
      ·refine nw ?_
       refine AWP.seq ?_
       refine AWP.seq ?_
       obtain ⟨r37, ZCi, hF⟩ := bind_some hF
       refine ns ?_
       refine e3 ?_
       refine st ?_
       refine cm (Zj.weak (rn []) (Zkn s _ ZCi) rfl (WS.mk (tc Zb) Zc)) ?_
       refine st ?_
       refine AWP.seq ?_
       refine ns ?_
       refine nw ?_
       refine Zi hF (fun Zkv hF => ?_) (fun Zkv hF => ?_)
       ·refine AWP.seq ?_
        refine ns ?_
        obtain rfl := Zg hF
        refine ns ?_
        refine Exists.intro [] ?_
        refine st ?_
        exact wx (WS.mk (tc Zb) Zc)
       ·refine nw ?_
        refine AWP.seq ?_
        refine ns ?_
        obtain rfl := Zg hF
        refine ns ?_
        refine Exists.intro [] ?_
        refine st ?_
        exact wx (WS.mk (tc Zb) Zc)

def ZS (Zyq : Bool) : Option (Bool) :=
 if Zyq = true then
 some true
 else
 some false
def ZS.M (Zyq : Bool) (r : Bool) : Prop :=
 AWP Tryz.prog 28 (Code.sub (Zq Tryz.f87) [1, 0, 1, 0, 1, 1, 1]) (Code.cont Tryz.prog 28 (Zq Tryz.f87) [1, 0, 1, 0, 1, 1, 1] (ZbW tab Tryz.f87.results (ZbY (.c none (.v (.bool r))) []))) ⟨[(16, .c none (.v (.bool Zyq)))], []⟩
theorem Zag (Zyq : Bool) (r : Bool) (hF : ZS Zyq = some r) : ZS.M Zyq r := by
 unfold ZS at hF
 unfold ZS.M
 refine nw ?_
 refine Zi hF (fun Ztk hF => ?_) (fun Ztk hF => ?_)
 ·refine AWP.seq ?_
  refine ns ?_
  obtain rfl := Zg hF
  refine ns ?_
  refine Exists.intro [] ?_
  refine st ?_
  exact wx (WS.mk (tc Zb) Zc)
 ·refine nw ?_
  refine AWP.seq ?_
  refine ns ?_
  obtain rfl := Zg hF
  refine ns ?_
  refine Exists.intro [] ?_
  refine st ?_
  exact wx (WS.mk (tc Zb) Zc)

def ZP (s : ByteArray) (x_4 : Bool) : Option (Bool) :=
 if x_4 = true then
 some true
 else
 if (s.toList == (ByteArray.mk #[105, 110, 102, 105, 120]).toList) = true then
 ZS (s.toList == (ByteArray.mk #[105, 110, 102, 105, 120]).toList)
 else
 if (s.toList == (ByteArray.mk #[105, 110, 102, 105, 120, 108]).toList) = true then
 ZS (s.toList == (ByteArray.mk #[105, 110, 102, 105, 120, 108]).toList)
 else
 if (s.toList == (ByteArray.mk #[105, 110, 102, 105, 120, 114]).toList) = true then
 ZS (s.toList == (ByteArray.mk #[105, 110, 102, 105, 120, 114]).toList)
 else
 if (s.toList == (ByteArray.mk #[105, 110, 115, 116, 97, 110, 99, 101]).toList) = true then
 ZS (s.toList == (ByteArray.mk #[105, 110, 115, 116, 97, 110, 99, 101]).toList)
 else
 if (s.toList == (ByteArray.mk #[108, 101, 116]).toList) = true then
 ZS (s.toList == (ByteArray.mk #[108, 101, 116]).toList)
 else
 if (s.toList == (ByteArray.mk #[109, 111, 100, 117, 108, 101]).toList) = true then
 ZS (s.toList == (ByteArray.mk #[109, 111, 100, 117, 108, 101]).toList)
 else
 if (s.toList == (ByteArray.mk #[111, 102]).toList) = true then
 ZS (s.toList == (ByteArray.mk #[111, 102]).toList)
 else
 if (s.toList == (ByteArray.mk #[113, 117, 97, 108, 105, 102, 105, 101, 100]).toList) = true then
 ZS (s.toList == (ByteArray.mk #[113, 117, 97, 108, 105, 102, 105, 101, 100]).toList)
 else
 if (s.toList == (ByteArray.mk #[116, 104, 101, 110]).toList) = true then
 ZS (s.toList == (ByteArray.mk #[116, 104, 101, 110]).toList)
 else
 if (s.toList == (ByteArray.mk #[119, 104, 101, 114, 101]).toList) = true then
 ZS (s.toList == (ByteArray.mk #[119, 104, 101, 114, 101]).toList)
 else
 ZS (s.toList == (ByteArray.mk #[95]).toList)
def ZP.M (s : ByteArray) (x_4 : Bool) (r : Bool) : Prop :=
 AWP Tryz.prog 28 (Code.sub (Zq Tryz.f87) [1, 0, 1, 0, 1]) (Code.cont Tryz.prog 28 (Zq Tryz.f87) [1, 0, 1, 0, 1] (ZbW tab Tryz.f87.results (ZbY (.c none (.v (.bool r))) []))) ⟨[(3, .c none (.v (.string s))), (4, .c none (.v (.bool x_4)))], []⟩
theorem Zai (s : ByteArray) (x_4 : Bool) (r : Bool) (hF : ZP s x_4 = some r) : ZP.M s x_4 r := by
 unfold ZP at hF
 unfold ZP.M
 refine nw ?_
 refine Zi hF (fun ZcS hF => ?_) (fun ZcS hF => ?_)
 ·refine AWP.seq ?_
  refine ns ?_
  obtain rfl := Zg hF
  refine ns ?_
  refine Exists.intro [] ?_
  refine st ?_
  exact wx (WS.mk (tc Zb) Zc)
 ·refine AWP.seq ?_
  refine AWP.seq ?_
  refine ns ?_
  refine nw ?_
  refine Zi hF (fun ZC8 hF => ?_) (fun ZC8 hF => ?_)
  ·refine nw ?_
   refine AWP.weak (rn []) ?_ (Zag (s.toList == (ByteArray.mk #[105, 110, 102, 105, 120]).toList) _ hF)
   exact (WS.mk (tc Zb) Zc)
  ·refine AWP.seq ?_
   refine ns ?_
   refine nw ?_
   refine Zi hF (fun Zyy hF => ?_) (fun Zyy hF => ?_)
   ·refine nw ?_
    refine AWP.weak (rn []) ?_ (Zag (s.toList == (ByteArray.mk #[105, 110, 102, 105, 120, 108]).toList) _ hF)
    exact (WS.mk (tc Zb) Zc)
   ·refine AWP.seq ?_
    refine ns ?_
    refine nw ?_
    refine Zi hF (fun ZjV hF => ?_) (fun ZjV hF => ?_)
    ·refine nw ?_
     refine AWP.weak (rn []) ?_ (Zag (s.toList == (ByteArray.mk #[105, 110, 102, 105, 120, 114]).toList) _ hF)
     exact (WS.mk (tc Zb) Zc)
    ·refine AWP.seq ?_
     refine ns ?_
     refine nw ?_
     refine Zi hF (fun ZlJ hF => ?_) (fun ZlJ hF => ?_)
     ·refine nw ?_
      refine AWP.weak (rn []) ?_ (Zag (s.toList == (ByteArray.mk #[105, 110, 115, 116, 97, 110, 99, 101]).toList) _ hF)
      exact (WS.mk (tc Zb) Zc)
     ·refine AWP.seq ?_
      refine ns ?_
      refine nw ?_
      refine Zi hF (fun ZtV hF => ?_) (fun ZtV hF => ?_)
      ·refine nw ?_
       refine AWP.weak (rn []) ?_ (Zag (s.toList == (ByteArray.mk #[108, 101, 116]).toList) _ hF)
       exact (WS.mk (tc Zb) Zc)
      ·refine AWP.seq ?_
       refine ns ?_
       refine nw ?_
       refine Zi hF (fun ZAa hF => ?_) (fun ZAa hF => ?_)
       ·refine nw ?_
        refine AWP.weak (rn []) ?_ (Zag (s.toList == (ByteArray.mk #[109, 111, 100, 117, 108, 101]).toList) _ hF)
        exact (WS.mk (tc Zb) Zc)
       ·refine AWP.seq ?_
        refine ns ?_
        refine nw ?_
        refine Zi hF (fun ZoB hF => ?_) (fun ZoB hF => ?_)
        ·refine nw ?_
         refine AWP.weak (rn []) ?_ (Zag (s.toList == (ByteArray.mk #[111, 102]).toList) _ hF)
         exact (WS.mk (tc Zb) Zc)
        ·refine AWP.seq ?_
         refine ns ?_
         refine nw ?_
         refine Zi hF (fun Zpf hF => ?_) (fun Zpf hF => ?_)
         ·refine nw ?_
          refine AWP.weak (rn []) ?_ (Zag (s.toList == (ByteArray.mk #[113, 117, 97, 108, 105, 102, 105, 101, 100]).toList) _ hF)
          exact (WS.mk (tc Zb) Zc)
         ·refine AWP.seq ?_
          refine ns ?_
          refine nw ?_
          refine Zi hF (fun Zzf hF => ?_) (fun Zzf hF => ?_)
          ·refine nw ?_
           refine AWP.weak (rn []) ?_ (Zag (s.toList == (ByteArray.mk #[116, 104, 101, 110]).toList) _ hF)
           exact (WS.mk (tc Zb) Zc)
          ·refine AWP.seq ?_
           refine ns ?_
           refine nw ?_
           refine Zi hF (fun ZnQ hF => ?_) (fun ZnQ hF => ?_)
           ·refine nw ?_
            refine AWP.weak (rn []) ?_ (Zag (s.toList == (ByteArray.mk #[119, 104, 101, 114, 101]).toList) _ hF)
            exact (WS.mk (tc Zb) Zc)
           ·refine ns ?_
            refine AWP.weak (rn []) ?_ (Zag (s.toList == (ByteArray.mk #[95]).toList) _ hF)
            exact (WS.mk (tc Zb) Zc)

def Zcy (s : ByteArray) : Option (Bool) :=
 if (s.toList == (ByteArray.mk #[97, 115]).toList) = true then
 ZP s (s.toList == (ByteArray.mk #[97, 115]).toList)
 else
 if (s.toList == (ByteArray.mk #[99, 97, 115, 101]).toList) = true then
 ZP s (s.toList == (ByteArray.mk #[99, 97, 115, 101]).toList)
 else
 if (s.toList == (ByteArray.mk #[99, 108, 97, 115, 115]).toList) = true then
 ZP s (s.toList == (ByteArray.mk #[99, 108, 97, 115, 115]).toList)
 else
 if (s.toList == (ByteArray.mk #[100, 97, 116, 97]).toList) = true then
 ZP s (s.toList == (ByteArray.mk #[100, 97, 116, 97]).toList)
 else
 if (s.toList == (ByteArray.mk #[100, 101, 114, 105, 118, 105, 110, 103]).toList) = true then
 ZP s (s.toList == (ByteArray.mk #[100, 101, 114, 105, 118, 105, 110, 103]).toList)
 else
 if (s.toList == (ByteArray.mk #[100, 111]).toList) = true then
 ZP s (s.toList == (ByteArray.mk #[100, 111]).toList)
 else
 if (s.toList == (ByteArray.mk #[101, 108, 115, 101]).toList) = true then
 ZP s (s.toList == (ByteArray.mk #[101, 108, 115, 101]).toList)
 else
 if (s.toList == (ByteArray.mk #[104, 105, 100, 105, 110, 103]).toList) = true then
 ZP s (s.toList == (ByteArray.mk #[104, 105, 100, 105, 110, 103]).toList)
 else
 if (s.toList == (ByteArray.mk #[105, 102]).toList) = true then
 ZP s (s.toList == (ByteArray.mk #[105, 102]).toList)
 else
 if (s.toList == (ByteArray.mk #[105, 109, 112, 111, 114, 116]).toList) = true then
 ZP s (s.toList == (ByteArray.mk #[105, 109, 112, 111, 114, 116]).toList)
 else
 ZP s (s.toList == (ByteArray.mk #[105, 110]).toList)
def Zcy.M (s : ByteArray) (r : Bool) : Prop :=
 Zj Tryz.prog 87 [.c none (.v (.string s))] [] (fun d b => d = .c none (.v (.bool r)) ∧ b = [])
theorem Zlc (s : ByteArray) (r : Bool) (hF : Zcy s = some r) : Zcy.M s r := by
 unfold Zcy at hF
 unfold Zcy.M
 refine en Tryz.func87 ?_
 refine AWP.seq ?_
 refine ns ?_
 refine AWP.seq ?_
 refine AWP.seq ?_
 refine ns ?_
 refine AWP.block ?_
 refine AWP.seq ?_
 refine AWP.seq ?_
 refine ns ?_
 refine nw ?_
 refine Zi hF (fun Zpk hF => ?_) (fun Zpk hF => ?_)
 ·refine nw ?_
  refine AWP.weak (rn []) ?_ (Zai s (s.toList == (ByteArray.mk #[97, 115]).toList) _ hF)
  exact (WS.mk (tc (tc Zb)) Zc)
 ·refine AWP.seq ?_
  refine ns ?_
  refine nw ?_
  refine Zi hF (fun ZAj hF => ?_) (fun ZAj hF => ?_)
  ·refine nw ?_
   refine AWP.weak (rn []) ?_ (Zai s (s.toList == (ByteArray.mk #[99, 97, 115, 101]).toList) _ hF)
   exact (WS.mk (tc (tc Zb)) Zc)
  ·refine AWP.seq ?_
   refine ns ?_
   refine nw ?_
   refine Zi hF (fun ZnC hF => ?_) (fun ZnC hF => ?_)
   ·refine nw ?_
    refine AWP.weak (rn []) ?_ (Zai s (s.toList == (ByteArray.mk #[99, 108, 97, 115, 115]).toList) _ hF)
    exact (WS.mk (tc (tc Zb)) Zc)
   ·refine AWP.seq ?_
    refine ns ?_
    refine nw ?_
    refine Zi hF (fun ZkV hF => ?_) (fun ZkV hF => ?_)
    ·refine nw ?_
     refine AWP.weak (rn []) ?_ (Zai s (s.toList == (ByteArray.mk #[100, 97, 116, 97]).toList) _ hF)
     exact (WS.mk (tc (tc Zb)) Zc)
    ·refine AWP.seq ?_
     refine ns ?_
     refine nw ?_
     refine Zi hF (fun Zpr hF => ?_) (fun Zpr hF => ?_)
     ·refine nw ?_
      refine AWP.weak (rn []) ?_ (Zai s (s.toList == (ByteArray.mk #[100, 101, 114, 105, 118, 105, 110, 103]).toList) _ hF)
      exact (WS.mk (tc (tc Zb)) Zc)
     ·refine AWP.seq ?_
      refine ns ?_
      refine nw ?_
      refine Zi hF (fun Zkv hF => ?_) (fun Zkv hF => ?_)
      ·refine nw ?_
       refine AWP.weak (rn []) ?_ (Zai s (s.toList == (ByteArray.mk #[100, 111]).toList) _ hF)
       exact (WS.mk (tc (tc Zb)) Zc)
      ·refine AWP.seq ?_
       refine ns ?_
       refine nw ?_
       refine Zi hF (fun ZhU hF => ?_) (fun ZhU hF => ?_)
       ·refine nw ?_
        refine AWP.weak (rn []) ?_ (Zai s (s.toList == (ByteArray.mk #[101, 108, 115, 101]).toList) _ hF)
        exact (WS.mk (tc (tc Zb)) Zc)
       ·refine AWP.seq ?_
        refine ns ?_
        refine nw ?_
        refine Zi hF (fun Zn0 hF => ?_) (fun Zn0 hF => ?_)
        ·refine nw ?_
         refine AWP.weak (rn []) ?_ (Zai s (s.toList == (ByteArray.mk #[104, 105, 100, 105, 110, 103]).toList) _ hF)
         exact (WS.mk (tc (tc Zb)) Zc)
        ·refine AWP.seq ?_
         refine ns ?_
         refine nw ?_
         refine Zi hF (fun Zwc hF => ?_) (fun Zwc hF => ?_)
         ·refine nw ?_
          refine AWP.weak (rn []) ?_ (Zai s (s.toList == (ByteArray.mk #[105, 102]).toList) _ hF)
          exact (WS.mk (tc (tc Zb)) Zc)
         ·refine AWP.seq ?_
          refine ns ?_
          refine nw ?_
          refine Zi hF (fun Zv8 hF => ?_) (fun Zv8 hF => ?_)
          ·refine nw ?_
           refine AWP.weak (rn []) ?_ (Zai s (s.toList == (ByteArray.mk #[105, 109, 112, 111, 114, 116]).toList) _ hF)
           exact (WS.mk (tc (tc Zb)) Zc)
          ·refine ns ?_
           refine AWP.weak (rn []) ?_ (Zai s (s.toList == (ByteArray.mk #[105, 110]).toList) _ hF)
           exact (WS.mk (tc (tc Zb)) Zc)

def ZC (x_4 : Bool) : Option (Bool) :=
 if x_4 = true then
 some true
 else
 some false
def ZC.M (x_4 : Bool) (r : Bool) : Prop :=
 AWP Tryz.prog 15 (Code.sub (Zq Tryz.f90) [1, 0, 1, 0, 1]) (Code.cont Tryz.prog 15 (Zq Tryz.f90) [1, 0, 1, 0, 1] (ZbW tab Tryz.f90.results (ZbY (.c none (.v (.bool r))) []))) ⟨[(4, .c none (.v (.bool x_4)))], []⟩
theorem Z1 (x_4 : Bool) (r : Bool) (hF : ZC x_4 = some r) : ZC.M x_4 r := by
 unfold ZC at hF
 unfold ZC.M
 refine nw ?_
 refine Zi hF (fun Zdt hF => ?_) (fun Zdt hF => ?_)
 ·refine AWP.seq ?_
  refine ns ?_
  obtain rfl := Zg hF
  refine ns ?_
  refine Exists.intro [] ?_
  refine st ?_
  exact wx (WS.mk (tc Zb) Zc)
 ·refine nw ?_
  refine AWP.seq ?_
  refine ns ?_
  obtain rfl := Zg hF
  refine ns ?_
  refine Exists.intro [] ?_
  refine st ?_
  exact wx (WS.mk (tc Zb) Zc)

def Zbb (s : ByteArray) : Option (Bool) :=
 if (s.toList == (ByteArray.mk #[46, 46]).toList) = true then
 ZC (s.toList == (ByteArray.mk #[46, 46]).toList)
 else
 if (s.toList == (ByteArray.mk #[58, 58]).toList) = true then
 ZC (s.toList == (ByteArray.mk #[58, 58]).toList)
 else
 if (s.toList == (ByteArray.mk #[61]).toList) = true then
 ZC (s.toList == (ByteArray.mk #[61]).toList)
 else
 if (s.toList == (ByteArray.mk #[92]).toList) = true then
 ZC (s.toList == (ByteArray.mk #[92]).toList)
 else
 if (s.toList == (ByteArray.mk #[124]).toList) = true then
 ZC (s.toList == (ByteArray.mk #[124]).toList)
 else
 if (s.toList == (ByteArray.mk #[60, 45]).toList) = true then
 ZC (s.toList == (ByteArray.mk #[60, 45]).toList)
 else
 if (s.toList == (ByteArray.mk #[45, 62]).toList) = true then
 ZC (s.toList == (ByteArray.mk #[45, 62]).toList)
 else
 if (s.toList == (ByteArray.mk #[64]).toList) = true then
 ZC (s.toList == (ByteArray.mk #[64]).toList)
 else
 if (s.toList == (ByteArray.mk #[126]).toList) = true then
 ZC (s.toList == (ByteArray.mk #[126]).toList)
 else
 ZC (s.toList == (ByteArray.mk #[61, 62]).toList)
def Zbb.M (s : ByteArray) (r : Bool) : Prop :=
 Zj Tryz.prog 90 [.c none (.v (.string s))] [] (fun d b => d = .c none (.v (.bool r)) ∧ b = [])
theorem ZiP (s : ByteArray) (r : Bool) (hF : Zbb s = some r) : Zbb.M s r := by
 unfold Zbb at hF
 unfold Zbb.M
 refine en Tryz.func90 ?_
 refine AWP.seq ?_
 refine ns ?_
 refine AWP.seq ?_
 refine AWP.seq ?_
 refine ns ?_
 refine AWP.block ?_
 refine AWP.seq ?_
 refine AWP.seq ?_
 refine ns ?_
 refine nw ?_
 refine Zi hF (fun ZcS hF => ?_) (fun ZcS hF => ?_)
 ·refine nw ?_
  refine AWP.weak (rn []) ?_ (Z1 (s.toList == (ByteArray.mk #[46, 46]).toList) _ hF)
  exact (WS.mk (tc Zb) Zc)
 ·refine AWP.seq ?_
  refine ns ?_
  refine nw ?_
  refine Zi hF (fun ZcJ hF => ?_) (fun ZcJ hF => ?_)
  ·refine nw ?_
   refine AWP.weak (rn []) ?_ (Z1 (s.toList == (ByteArray.mk #[58, 58]).toList) _ hF)
   exact (WS.mk (tc Zb) Zc)
  ·refine AWP.seq ?_
   refine ns ?_
   refine nw ?_
   refine Zi hF (fun ZbE hF => ?_) (fun ZbE hF => ?_)
   ·refine nw ?_
    refine AWP.weak (rn []) ?_ (Z1 (s.toList == (ByteArray.mk #[61]).toList) _ hF)
    exact (WS.mk (tc Zb) Zc)
   ·refine AWP.seq ?_
    refine ns ?_
    refine nw ?_
    refine Zi hF (fun Zdl hF => ?_) (fun Zdl hF => ?_)
    ·refine nw ?_
     refine AWP.weak (rn []) ?_ (Z1 (s.toList == (ByteArray.mk #[92]).toList) _ hF)
     exact (WS.mk (tc Zb) Zc)
    ·refine AWP.seq ?_
     refine ns ?_
     refine nw ?_
     refine Zi hF (fun Zfg hF => ?_) (fun Zfg hF => ?_)
     ·refine nw ?_
      refine AWP.weak (rn []) ?_ (Z1 (s.toList == (ByteArray.mk #[124]).toList) _ hF)
      exact (WS.mk (tc Zb) Zc)
     ·refine AWP.seq ?_
      refine ns ?_
      refine nw ?_
      refine Zi hF (fun Zgs hF => ?_) (fun Zgs hF => ?_)
      ·refine nw ?_
       refine AWP.weak (rn []) ?_ (Z1 (s.toList == (ByteArray.mk #[60, 45]).toList) _ hF)
       exact (WS.mk (tc Zb) Zc)
      ·refine AWP.seq ?_
       refine ns ?_
       refine nw ?_
       refine Zi hF (fun ZiR hF => ?_) (fun ZiR hF => ?_)
       ·refine nw ?_
        refine AWP.weak (rn []) ?_ (Z1 (s.toList == (ByteArray.mk #[45, 62]).toList) _ hF)
        exact (WS.mk (tc Zb) Zc)
       ·refine AWP.seq ?_
        refine ns ?_
        refine nw ?_
        refine Zi hF (fun ZtI hF => ?_) (fun ZtI hF => ?_)
        ·refine nw ?_
         refine AWP.weak (rn []) ?_ (Z1 (s.toList == (ByteArray.mk #[64]).toList) _ hF)
         exact (WS.mk (tc Zb) Zc)
        ·refine AWP.seq ?_
         refine ns ?_
         refine nw ?_
         refine Zi hF (fun ZtA hF => ?_) (fun ZtA hF => ?_)
         ·refine nw ?_
          refine AWP.weak (rn []) ?_ (Z1 (s.toList == (ByteArray.mk #[126]).toList) _ hF)
          exact (WS.mk (tc Zb) Zc)
         ·refine ns ?_
          refine AWP.weak (rn []) ?_ (Z1 (s.toList == (ByteArray.mk #[61, 62]).toList) _ hF)
          exact (WS.mk (tc Zb) Zc)

def Zaa (c : Int) (i_4 : Nat) : Option (Bool) :=
 if (decide (((i_4 : Nat) : Int) < (((ByteArray.mk #[33, 35, 36, 37, 38, 42, 43, 46, 47, 60, 61, 62, 63, 64, 92, 94, 124, 45, 126, 58]).size : Nat) : Int))) = true then
 (btI (ByteArray.mk #[33, 35, 36, 37, 38, 42, 43, 46, 47, 60, 61, 62, 63, 64, 92, 94, 124, 45, 126, 58]) ((i_4 : Nat) : Int)) >>= fun y12 =>
 if (((y12.toNat : Nat) : Int) == c) = true then
 some true
 else
 Z5 (i_4 + 1 ≤ 9223372036854775807) >>= fun _ =>
 Zaa c (i_4 + 1)
 else
 some false
 partial_fixpoint
def Zaa.M (c : Int) (i_4 : Nat) (r : Bool) : Prop :=
 AWL Tryz.prog 16 (Code.sub (Zq Tryz.f112) [1, 1, 0, 1, 0, 0]) (Code.cont Tryz.prog 16 (Zq Tryz.f112) [1, 1, 0, 1, 0] (ZbW tab Tryz.f112.results (ZbY (.c none (.v (.bool r))) []))) ⟨[(0, .c none (.v (.int .u8 c))), (3, .c none (.v (.string (ByteArray.mk #[33, 35, 36, 37, 38, 42, 43, 46, 47, 60, 61, 62, 63, 64, 92, 94, 124, 45, 126, 58])))), (4, .c none (.v (.int .i64 ((i_4 : Nat) : Int))))], []⟩
theorem Zj5 (c : Int) (i_4 : Nat) : ∀ r, Zaa c i_4 = some r → Zaa.M c i_4 r := by
 refine Zaa.partial_correctness c (fun i_4 r => Zaa.M c i_4 r) ?_ i_4
 intro lazycref01_Symbolic_l1' ZfU i_4 r hF
 have Zj0 := fun (_c : Int) (i_4 : Nat) => ZfU i_4
 clear ZfU
 unfold Zaa.M
 refine AWL.step ?_
 refine AWP.seq ?_
 refine AWP.seq ?_
 refine ns ?_
 refine nw ?_
 refine Zi hF (fun ZcS hF => ?_) (fun ZcS hF => ?_)
 ·refine nw ?_
  refine AWP.seq ?_
  refine AWP.block ?_
  refine AWP.seq ?_
  obtain ⟨y12, ZFj, ZEl, hF⟩ := Zc4 hF
  refine nn ?_
  refine sr ZEl ?_
  refine st ?_
  refine nw ?_
  refine Zi hF (fun ZbE hF => ?_) (fun ZbE hF => ?_)
  ·refine AWP.seq ?_
   refine ns ?_
   obtain rfl := Zg hF
   refine ns ?_
   refine Exists.intro [] ?_
   refine st ?_
   exact wx (WS.mk (tc Zb) Zc)
  ·refine nw ?_
   obtain ⟨ZIm, hF⟩ := Zy hF
   refine ns ?_
   refine AWL.weak (rn []) ?_ (Zj0 c (i_4 + 1) _ hF)
   exact (WS.mk (tc (tc (Zd (Zr (Zdf (Zdu ZIm))) Zb))) Zc)
 ·refine nw ?_
  refine AWP.seq ?_
  refine ns ?_
  obtain rfl := Zg hF
  refine ns ?_
  refine Exists.intro [] ?_
  refine st ?_
  exact wx (WS.mk (tc Zb) Zc)

def ZcA (c : Int) : Option (Bool) :=
 Zaa c 0
def ZcA.M (c : Int) (r : Bool) : Prop :=
 Zj Tryz.prog 112 [.c none (.v (.int .u8 c))] [] (fun d b => d = .c none (.v (.bool r)) ∧ b = [])
theorem Zly (c : Int) (r : Bool) (hF : ZcA c = some r) : ZcA.M c r := by
 unfold ZcA at hF
 unfold ZcA.M
 refine en Tryz.func112 ?_
 refine AWP.seq ?_
 refine ns ?_
 refine AWP.seq ?_
 refine ns ?_
 refine AWP.seq ?_
 refine AWP.seq ?_
 refine ns ?_
 refine AWP.block ?_
 refine AWP.loop ?_
 refine AWL.weak (rn []) ?_ (Zj5 c 0 _ hF)
 exact (WS.mk (tc (tc (tc Zb))) Zc)

def ZaN (s : ByteArray) (ZbG : Nat) (i_4 : Nat) : Option (Bool) :=
 if (decide (((i_4 : Nat) : Int) < ((s.size : Nat) : Int))) = true then
 (btI s ((i_4 : Nat) : Int)) >>= fun y68 =>
 ZcA ((y68.toNat : Nat) : Int) >>= fun r69 =>
 if (!r69) = true then
 some false
 else
 (btI s ((i_4 : Nat) : Int)) >>= fun y71 =>
 if (((y71.toNat : Nat) : Int) == 45) = true then
 Z5 (ZbG + 1 ≤ 9223372036854775807) >>= fun _ =>
 Z5 (i_4 + 1 ≤ 9223372036854775807) >>= fun _ =>
 ZaN s (ZbG + 1) (i_4 + 1)
 else
 Z5 (i_4 + 1 ≤ 9223372036854775807) >>= fun _ =>
 ZaN s ZbG (i_4 + 1)
 else
 some ((decide (((ZbG : Nat) : Int) < ((s.size : Nat) : Int))) || (((s.size : Nat) : Int) == 1))
 partial_fixpoint
def ZaN.M (s : ByteArray) (ZbG : Nat) (i_4 : Nat) (r : Bool) : Prop :=
 AWL Tryz.prog 39 (Code.sub (Zq Tryz.f89) [1, 1, 1, 0, 1, 0, 0]) (Code.cont Tryz.prog 39 (Zq Tryz.f89) [1, 1, 1, 0, 1, 0] (ZbW tab Tryz.f89.results (ZbY (.c none (.v (.bool r))) []))) ⟨[(0, .c none (.v (.string s))), (3, .c none (.v (.int .i64 ((ZbG : Nat) : Int)))), (4, .c none (.v (.int .i64 ((i_4 : Nat) : Int))))], []⟩
theorem ZkK (s : ByteArray) (ZbG : Nat) (i_4 : Nat) : ∀ r, ZaN s ZbG i_4 = some r → ZaN.M s ZbG i_4 r := by
 refine ZaN.partial_correctness s (fun ZbG i_4 r => ZaN.M s ZbG i_4 r) ?_ ZbG i_4
 intro lazycref01_symbol_l1' ZgG ZbG i_4 r hF
 have Zg9 := fun (_s : ByteArray) (ZbG : Nat) (i_4 : Nat) => ZgG ZbG i_4
 clear ZgG
 unfold ZaN.M
 refine AWL.step ?_
 refine AWP.seq ?_
 refine AWP.seq ?_
 refine ns ?_
 refine nw ?_
 refine Zi hF (fun ZrF hF => ?_) (fun ZrF hF => ?_)
 ·refine nw ?_
  refine AWP.seq ?_
  refine AWP.block ?_
  refine AWP.seq ?_
  refine AWP.seq ?_
  obtain ⟨y68, hy680, ZH3, hF⟩ := Zc4 hF
  obtain ⟨r69, ZD6, hF⟩ := bind_some hF
  refine nn ?_
  refine sr ZH3 ?_
  refine st ?_
  refine e3 ?_
  refine st ?_
  refine cm (Zj.weak (rn []) (Zly ((y68.toNat : Nat) : Int) _ ZD6) rfl (WS.mk (tc Zb) Zc)) ?_
  refine st ?_
  refine nw ?_
  refine Zi hF (fun ZIx hF => ?_) (fun ZIx hF => ?_)
  ·refine AWP.seq ?_
   refine ns ?_
   obtain rfl := Zg hF
   refine ns ?_
   refine Exists.intro [] ?_
   refine st ?_
   exact wx (WS.mk (tc Zb) Zc)
  ·refine nw ?_
   refine AWP.seq ?_
   obtain ⟨y71, hy710, ZHt, hF⟩ := Zc4 hF
   refine nn ?_
   refine sr ZHt ?_
   refine st ?_
   refine nw ?_
   refine Zi hF (fun ZGY hF => ?_) (fun ZGY hF => ?_)
   ·obtain ⟨ZIh, hF⟩ := Zy hF
    refine ns ?_
    obtain ⟨ZC2, hF⟩ := Zy hF
    refine ns ?_
    refine AWL.weak (rn []) ?_ (Zg9 s (ZbG + 1) (i_4 + 1) _ hF)
    exact (WS.mk (tc (Zd (Zr (Zdf (Zdu ZIh))) (Zd (Zr (Zdf (Zdu ZC2))) Zb))) Zc)
   ·refine nw ?_
    obtain ⟨ZDs, hF⟩ := Zy hF
    refine ns ?_
    refine AWL.weak (rn []) ?_ (Zg9 s ZbG (i_4 + 1) _ hF)
    exact (WS.mk (tc (tc (Zd (Zr (Zdf (Zdu ZDs))) Zb))) Zc)
 ·refine nw ?_
  refine AWP.seq ?_
  refine AWP.cutN (fun T => ∃ r, WS r T ⟨[(2, .c none (.v (.bool ((decide (((ZbG : Nat) : Int) < ((s.size : Nat) : Int))) || (((s.size : Nat) : Int) == 1)))))], []⟩) ?_ (fun T hw => ?_)
  ·refine ns ?_
   refine Zm false (fun ZzX => ?_) (fun ZzX => ?_)
   ·(conv => whnf)
    refine st ?_
    exact wx (WS.mk (Zd (Zr (web ZzX)) Zb) Zc)
   ·(conv => whnf)
    refine st ?_
    exact wx (WS.mk (Zd (Zr (web ZzX)) Zb) Zc)
  obtain ⟨r0, hw⟩ := hw
  (conv => whnf)
  refine AWP.weak r0 hw ?_
  obtain rfl := Zg hF
  refine ns ?_
  refine Exists.intro [] ?_
  refine st ?_
  exact wx (WS.mk (tc Zb) Zc)

def Zdd (s : ByteArray) : Option (Bool) :=
 if ((decide (((s.size : Nat) : Int) < 1)) || (decide (((s.size : Nat) : Int) > 64))) = true then
 some false
 else
 ZaN s 0 0
def Zdd.M (s : ByteArray) (r : Bool) : Prop :=
 Zj Tryz.prog 89 [.c none (.v (.string s))] [] (fun d b => d = .c none (.v (.bool r)) ∧ b = [])
theorem ZmQ (s : ByteArray) (r : Bool) (hF : Zdd s = some r) : Zdd.M s r := by
 unfold Zdd at hF
 unfold Zdd.M
 refine en Tryz.func89 ?_
 refine AWP.seq ?_
 refine ns ?_
 refine AWP.seq ?_
 refine AWP.seq ?_
 refine AWP.cutN (fun T => ∃ r, WS r T ⟨[(0, .c none (.v (.string s))), (12, .c none (.v (.bool ((decide (((s.size : Nat) : Int) < 1)) || (decide (((s.size : Nat) : Int) > 64))))))], []⟩) ?_ (fun T hw => ?_)
 ·refine ns ?_
  refine Zm false (fun hc2 => ?_) (fun hc2 => ?_)
  ·(conv => whnf)
   refine st ?_
   exact wx (WS.mk (tc (Zd (Zr (web hc2)) Zb)) Zc)
  ·(conv => whnf)
   refine st ?_
   exact wx (WS.mk (tc (Zd (Zr (web hc2)) Zb)) Zc)
 obtain ⟨r0, hw⟩ := hw
 (conv => whnf)
 refine AWP.weak r0 hw ?_
 refine nw ?_
 refine Zi hF (fun hc3 hF => ?_) (fun hc3 hF => ?_)
 ·refine AWP.seq ?_
  refine ns ?_
  obtain rfl := Zg hF
  refine ns ?_
  refine Exists.intro [] ?_
  refine st ?_
  exact wx (WS.mk (tc Zb) Zc)
 ·refine nw ?_
  refine AWP.seq ?_
  refine ns ?_
  refine AWP.seq ?_
  refine AWP.seq ?_
  refine ns ?_
  refine AWP.block ?_
  refine AWP.loop ?_
  refine AWL.weak (rn []) ?_ (ZkK s 0 0 _ hF)
  exact (WS.mk (tc (tc (tc Zb))) Zc)

def Zcx (c : Int) : Option (Bool) :=
 some ((decide (c ≥ 65)) && (decide (c ≤ 90)))
def Zcx.M (c : Int) (r : Bool) : Prop :=
 Zj Tryz.prog 88 [.c none (.v (.int .u8 c))] [] (fun d b => d = .c none (.v (.bool r)) ∧ b = [])
theorem ZgA (c : Int) (r : Bool) (hF : Zcx c = some r) : Zcx.M c r := by
 unfold Zcx at hF
 unfold Zcx.M
 refine en Tryz.func88 ?_
 refine AWP.seq ?_
 refine ns ?_
 refine AWP.seq ?_
 refine AWP.cutN (fun T => ∃ r, WS r T ⟨[(2, .c none (.v (.bool ((decide (c ≥ 65)) && (decide (c ≤ 90))))))], []⟩) ?_ (fun T hw => ?_)
 ·refine ns ?_
  refine Zm true (fun hc1 => ?_) (fun hc1 => ?_)
  ·(conv => whnf)
   refine st ?_
   exact wx (WS.mk (Zd (Zr (web hc1)) Zb) Zc)
  ·(conv => whnf)
   refine st ?_
   exact wx (WS.mk (Zd (Zr (web hc1)) Zb) Zc)
 obtain ⟨r0, hw⟩ := hw
 (conv => whnf)
 refine AWP.weak r0 hw ?_
 obtain rfl := Zg hF
 refine ns ?_
 refine Exists.intro [] ?_
 refine st ?_
 exact wx (WS.mk (tc Zb) Zc)

def Zc1 (c : Int) : Option (Bool) :=
 some (((decide (c ≥ 97)) && (decide (c ≤ 122))) || (c == 95))
def Zc1.M (c : Int) (r : Bool) : Prop :=
 Zj Tryz.prog 111 [.c none (.v (.int .u8 c))] [] (fun d b => d = .c none (.v (.bool r)) ∧ b = [])
theorem ZiY (c : Int) (r : Bool) (hF : Zc1 c = some r) : Zc1.M c r := by
 unfold Zc1 at hF
 unfold Zc1.M
 refine en Tryz.func111 ?_
 refine AWP.seq ?_
 refine ns ?_
 refine AWP.seq ?_
 refine AWP.cutN (fun T => ∃ r, WS r T ⟨[(2, .c none (.v (.bool (((decide (c ≥ 97)) && (decide (c ≤ 122))) || (c == 95)))))], []⟩) ?_ (fun T hw => ?_)
 ·refine ns ?_
  refine Zm true (fun hc1 => ?_) (fun hc1 => ?_)
  ·(conv => whnf)
   refine st ?_
   refine Zm false (fun hc2 => ?_) (fun hc2 => ?_)
   ·(conv => whnf)
    refine st ?_
    exact wx (WS.mk (Zd (Zr (web (And.intro hc1 hc2))) Zb) Zc)
   ·(conv => whnf)
    refine st ?_
    exact wx (WS.mk (Zd (Zr (web (And.intro hc1 hc2))) Zb) Zc)
  ·(conv => whnf)
   refine st ?_
   exact wx (WS.mk (Zd (Zr (web hc1)) Zb) Zc)
 obtain ⟨r0, hw⟩ := hw
 (conv => whnf)
 refine AWP.weak r0 hw ?_
 obtain rfl := Zg hF
 refine ns ?_
 refine Exists.intro [] ?_
 refine st ?_
 exact wx (WS.mk (tc Zb) Zc)

def ZcZ (c : Int) : Option (Bool) :=
 some ((decide (c ≥ 48)) && (decide (c ≤ 57)))
def ZcZ.M (c : Int) (r : Bool) : Prop :=
 Zj Tryz.prog 110 [.c none (.v (.int .u8 c))] [] (fun d b => d = .c none (.v (.bool r)) ∧ b = [])
theorem Zi1 (c : Int) (r : Bool) (hF : ZcZ c = some r) : ZcZ.M c r := by
 unfold ZcZ at hF
 unfold ZcZ.M
 refine en Tryz.func110 ?_
 refine AWP.seq ?_
 refine ns ?_
 refine AWP.seq ?_
 refine AWP.cutN (fun T => ∃ r, WS r T ⟨[(2, .c none (.v (.bool ((decide (c ≥ 48)) && (decide (c ≤ 57))))))], []⟩) ?_ (fun T hw => ?_)
 ·refine ns ?_
  refine Zm true (fun hc1 => ?_) (fun hc1 => ?_)
  ·(conv => whnf)
   refine st ?_
   exact wx (WS.mk (Zd (Zr (web hc1)) Zb) Zc)
  ·(conv => whnf)
   refine st ?_
   exact wx (WS.mk (Zd (Zr (web hc1)) Zb) Zc)
 obtain ⟨r0, hw⟩ := hw
 (conv => whnf)
 refine AWP.weak r0 hw ?_
 obtain rfl := Zg hF
 refine ns ?_
 refine Exists.intro [] ?_
 refine st ?_
 exact wx (WS.mk (tc Zb) Zc)

def ZbD (s : ByteArray) (i_3 : Nat) : Option (Bool) :=
 if (decide (((i_3 : Nat) : Int) < ((s.size : Nat) : Int))) = true then
 (btI s ((i_3 : Nat) : Int)) >>= fun y47 =>
 Zc1 ((y47.toNat : Nat) : Int) >>= fun r48 =>
 (if (!r48) = true then (btI s ((i_3 : Nat) : Int)) >>= fun y49 =>
 Zcx ((y49.toNat : Nat) : Int) >>= fun r50 =>
 some (!r50) else some false) >>= fun c51 =>
 (if c51 = true then (btI s ((i_3 : Nat) : Int)) >>= fun y52 =>
 ZcZ ((y52.toNat : Nat) : Int) >>= fun r53 =>
 some (!r53) else some false) >>= fun c54 =>
 (if c54 = true then (btI s ((i_3 : Nat) : Int)) >>= fun y55 =>
 some (((y55.toNat : Nat) : Int) != 39) else some false) >>= fun c56 =>
 if c56 = true then
 some false
 else
 Z5 (i_3 + 1 ≤ 9223372036854775807) >>= fun _ =>
 ZbD s (i_3 + 1)
 else
 some true
 partial_fixpoint
def ZbD.M (s : ByteArray) (i_3 : Nat) (r : Bool) : Prop :=
 AWL Tryz.prog 55 (Code.sub (Zq Tryz.f86) [1, 1, 0, 1, 0, 0]) (Code.cont Tryz.prog 55 (Zq Tryz.f86) [1, 1, 0, 1, 0] (ZbW tab Tryz.f86.results (ZbY (.c none (.v (.bool r))) []))) ⟨[(0, .c none (.v (.string s))), (3, .c none (.v (.int .i64 ((i_3 : Nat) : Int))))], []⟩
theorem Zmh (s : ByteArray) (i_3 : Nat) : ∀ r, ZbD s i_3 = some r → ZbD.M s i_3 r := by
 refine ZbD.partial_correctness s (fun i_3 r => ZbD.M s i_3 r) ?_ i_3
 intro lazycref01_word_l1' ZhB i_3 r hF
 have Zmi := fun (_s : ByteArray) (i_3 : Nat) => ZhB i_3
 clear ZhB
 unfold ZbD.M
 refine AWL.step ?_
 refine AWP.seq ?_
 refine AWP.seq ?_
 refine ns ?_
 refine nw ?_
 refine Zi hF (fun ZIF hF => ?_) (fun ZIF hF => ?_)
 ·refine nw ?_
  refine AWP.seq ?_
  refine AWP.block ?_
  refine AWP.seq ?_
  obtain ⟨y47, hy470, ZHo, hF⟩ := Zc4 hF
  obtain ⟨r48, ZHd, hF⟩ := bind_some hF
  obtain ⟨c51, ZpC, hF⟩ := bind_some hF
  obtain ⟨c54, ZiE, hF⟩ := bind_some hF
  obtain ⟨c56, ZkE, hF⟩ := bind_some hF
  refine AWP.cutN (fun T => ∃ r, WS r T ⟨[(0, .c none (.v (.string s))), (3, .c none (.v (.int .i64 ((i_3 : Nat) : Int)))), (54, .c none (.v (.bool c56)))], []⟩) ?_ (fun T hw => ?_)
  ·refine nn ?_
   refine sr ZHo ?_
   refine st ?_
   refine e3 ?_
   refine st ?_
   refine cm (Zj.weak (rn []) (ZiY ((y47.toNat : Nat) : Int) _ ZHd) rfl (WS.mk (tc Zb) Zc)) ?_
   refine st ?_
   refine Zm true (fun Zh6 => ?_) (fun Zh6 => ?_)
   ·have ZpC := ift Zh6 ZpC
    obtain ⟨y49, hy490, ZHq, ZpC⟩ := Zc4 ZpC
    obtain ⟨r50, ZG7, ZpC⟩ := bind_some ZpC
    (conv => whnf)
    refine sr ZHq ?_
    refine st ?_
    refine e3 ?_
    refine st ?_
    refine cm (Zj.weak (rn []) (ZgA ((y49.toNat : Nat) : Int) _ ZG7) rfl (WS.mk (tc Zb) Zc)) ?_
    refine st ?_
    obtain rfl := Zg ZpC
    refine st ?_
    refine Zm true (fun Zm6 => ?_) (fun Zm6 => ?_)
    ·have ZiE := ift (And.intro Zh6 Zm6) ZiE
     obtain ⟨y52, hy520, ZHW, ZiE⟩ := Zc4 ZiE
     obtain ⟨r53, ZzV, ZiE⟩ := bind_some ZiE
     (conv => whnf)
     refine sr ZHW ?_
     refine st ?_
     refine e3 ?_
     refine st ?_
     refine cm (Zj.weak (rn []) (Zi1 ((y52.toNat : Nat) : Int) _ ZzV) rfl (WS.mk (tc Zb) Zc)) ?_
     refine st ?_
     obtain rfl := Zg ZiE
     refine st ?_
     refine Zm true (fun Zvz => ?_) (fun Zvz => ?_)
     ·have ZkE := ift (And.intro Zh6 (And.intro Zm6 Zvz)) ZkE
      obtain ⟨y55, hy550, ZIN, ZkE⟩ := Zc4 ZkE
      (conv => whnf)
      refine sr ZIN ?_
      obtain rfl := Zg ZkE
      refine st ?_
      exact wx (WS.mk (tc (tc (Zd (Zr (web (And.intro Zh6 (And.intro Zm6 Zvz)))) Zb))) Zc)
     ·have ZkE := ife (And.intro Zh6 (And.intro Zm6 Zvz)) ZkE
      (conv => whnf)
      obtain rfl := Zg ZkE
      refine st ?_
      exact wx (WS.mk (tc (tc (Zd (Zr (web (And.intro Zh6 (And.intro Zm6 Zvz)))) Zb))) Zc)
    ·have ZiE := ife (And.intro Zh6 Zm6) ZiE
     (conv => whnf)
     obtain rfl := Zg ZiE
     have ZkE := ife (And.intro Zh6 Zm6) ZkE
     obtain rfl := Zg ZkE
     refine st ?_
     exact wx (WS.mk (tc (tc (Zd (Zr (web (And.intro Zh6 Zm6))) Zb))) Zc)
   ·have ZpC := ife Zh6 ZpC
    (conv => whnf)
    obtain rfl := Zg ZpC
    have ZiE := ife Zh6 ZiE
    obtain rfl := Zg ZiE
    have ZkE := ife Zh6 ZkE
    obtain rfl := Zg ZkE
    refine st ?_
    exact wx (WS.mk (tc (tc (Zd (Zr (web Zh6)) Zb))) Zc)
  obtain ⟨r0, hw⟩ := hw
  (conv => whnf)
  refine AWP.weak r0 hw ?_
  refine nw ?_
  refine Zi hF (fun ZHi hF => ?_) (fun ZHi hF => ?_)
  ·refine AWP.seq ?_
   refine ns ?_
   obtain rfl := Zg hF
   refine ns ?_
   refine Exists.intro [] ?_
   refine st ?_
   exact wx (WS.mk (tc Zb) Zc)
  ·refine nw ?_
   obtain ⟨ZIy, hF⟩ := Zy hF
   refine ns ?_
   refine AWL.weak (rn []) ?_ (Zmi s (i_3 + 1) _ hF)
   exact (WS.mk (tc (Zd (Zr (Zdf (Zdu ZIy))) Zb)) Zc)
 ·refine nw ?_
  refine AWP.seq ?_
  refine ns ?_
  obtain rfl := Zg hF
  refine ns ?_
  refine Exists.intro [] ?_
  refine st ?_
  exact wx (WS.mk (tc Zb) Zc)

def ZdK (s : ByteArray) : Option (Bool) :=
 (if ((decide (((s.size : Nat) : Int) < 1)) || (decide (((s.size : Nat) : Int) > 64))) = true then some true else (btI s 0) >>= fun y8 =>
 Zc1 ((y8.toNat : Nat) : Int) >>= fun r9 =>
 (if (!r9) = true then (btI s 0) >>= fun y10 =>
 Zcx ((y10.toNat : Nat) : Int) >>= fun r11 =>
 some (!r11) else some false) >>= fun c12 =>
 some c12) >>= fun c13 =>
 if c13 = true then
 some false
 else
 ZbD s 0
def ZdK.M (s : ByteArray) (r : Bool) : Prop :=
 Zj Tryz.prog 86 [.c none (.v (.string s))] [] (fun d b => d = .c none (.v (.bool r)) ∧ b = [])
theorem Zn1 (s : ByteArray) (r : Bool) (hF : ZdK s = some r) : ZdK.M s r := by
 unfold ZdK at hF
 unfold ZdK.M
 refine en Tryz.func86 ?_
 refine AWP.seq ?_
 refine ns ?_
 refine AWP.seq ?_
 refine AWP.seq ?_
 obtain ⟨c13, ZbE, hF⟩ := bind_some hF
 refine AWP.cutN (fun T => ∃ r, WS r T ⟨[(0, .c none (.v (.string s))), (23, .c none (.v (.bool c13)))], []⟩) ?_ (fun T hw => ?_)
 ·refine ns ?_
  refine Zm false (fun Zdl => ?_) (fun Zdl => ?_)
  ·(conv => whnf)
   have ZbE := ift Zdl ZbE
   obtain rfl := Zg ZbE
   refine st ?_
   exact wx (WS.mk (tc (Zd (Zr (web Zdl)) Zb)) Zc)
  ·(conv => whnf)
   refine st ?_
   refine Zm false (fun Zfg => ?_) (fun Zfg => ?_)
   ·have ZbE := ift (And.intro Zdl Zfg) ZbE
    (conv => whnf)
    obtain rfl := Zg ZbE
    refine st ?_
    exact wx (WS.mk (tc (Zd (Zr (web (And.intro Zdl Zfg))) Zb)) Zc)
   ·have ZbE := ife (And.intro Zdl Zfg) ZbE
    obtain ⟨y8, hy80, hy8, ZbE⟩ := Zc4 ZbE
    obtain ⟨r9, hr9, ZbE⟩ := bind_some ZbE
    obtain ⟨c12, ZcJ, ZbE⟩ := bind_some ZbE
    (conv => whnf)
    refine sr hy8 ?_
    refine st ?_
    refine e3 ?_
    refine st ?_
    refine cm (Zj.weak (rn []) (ZiY ((y8.toNat : Nat) : Int) _ hr9) rfl (WS.mk (tc Zb) Zc)) ?_
    refine st ?_
    refine Zm true (fun Zgs => ?_) (fun Zgs => ?_)
    ·have ZcJ := ift (And.intro Zdl (And.intro Zfg Zgs)) ZcJ
     obtain ⟨y10, ZGs, ZCU, ZcJ⟩ := Zc4 ZcJ
     obtain ⟨r11, ZvJ, ZcJ⟩ := bind_some ZcJ
     (conv => whnf)
     refine sr ZCU ?_
     refine st ?_
     refine e3 ?_
     refine st ?_
     refine cm (Zj.weak (rn []) (ZgA ((y10.toNat : Nat) : Int) _ ZvJ) rfl (WS.mk (tc Zb) Zc)) ?_
     refine st ?_
     obtain rfl := Zg ZcJ
     obtain rfl := Zg ZbE
     refine st ?_
     exact wx (WS.mk (tc (Zd (Zr (web (And.intro Zdl (And.intro Zfg Zgs)))) Zb)) Zc)
    ·have ZcJ := ife (And.intro Zdl (And.intro Zfg Zgs)) ZcJ
     (conv => whnf)
     obtain rfl := Zg ZcJ
     obtain rfl := Zg ZbE
     refine st ?_
     exact wx (WS.mk (tc (Zd (Zr (web (And.intro Zdl (And.intro Zfg Zgs)))) Zb)) Zc)
 obtain ⟨r0, hw⟩ := hw
 (conv => whnf)
 refine AWP.weak r0 hw ?_
 refine nw ?_
 refine Zi hF (fun ZiR hF => ?_) (fun ZiR hF => ?_)
 ·refine AWP.seq ?_
  refine ns ?_
  obtain rfl := Zg hF
  refine ns ?_
  refine Exists.intro [] ?_
  refine st ?_
  exact wx (WS.mk (tc Zb) Zc)
 ·refine nw ?_
  refine AWP.seq ?_
  refine AWP.seq ?_
  refine ns ?_
  refine AWP.block ?_
  refine AWP.loop ?_
  refine AWL.weak (rn []) ?_ (Zmh s 0 _ hF)
  exact (WS.mk (tc (tc Zb)) Zc)

def Zbv (s : ByteArray) : Option (Int) :=
 ZdK s >>= fun r10 =>
 if r10 = true then
 Zcy s >>= fun r14 =>
 if r14 = true then
 some 5
 else
 (btI s 0) >>= fun y16 =>
 Zcx ((y16.toNat : Nat) : Int) >>= fun r17 =>
 if r17 = true then
 some 2
 else
 some 1
 else
 Zdd s >>= fun r19 =>
 if r19 = true then
 Zbb s >>= fun r23 =>
 if r23 = true then
 some 6
 else
 (btI s 0) >>= fun y25 =>
 if (((y25.toNat : Nat) : Int) == 58) = true then
 some 4
 else
 some 3
 else
 some 0
def Zbv.M (s : ByteArray) (r : Int) : Prop :=
 Zj Tryz.prog 59 [.c none (.v (.string s))] [] (fun d b => d = .c none (.v (.int .i64 r)) ∧ b = [])
theorem ZdX (s : ByteArray) (r : Int) (hF : Zbv s = some r) : Zbv.M s r := by
 unfold Zbv at hF
 unfold Zbv.M
 refine en Tryz.func59 ?_
 refine AWP.seq ?_
 refine ns ?_
 refine AWP.seq ?_
 refine AWP.seq ?_
 obtain ⟨r10, ZzF, hF⟩ := bind_some hF
 refine ns ?_
 refine e3 ?_
 refine st ?_
 refine cm (Zj.weak (rn []) (Zn1 s _ ZzF) rfl (WS.mk (tc Zb) Zc)) ?_
 refine st ?_
 refine nw ?_
 refine Zi hF (fun ZcS hF => ?_) (fun ZcS hF => ?_)
 ·refine AWP.seq ?_
  refine AWP.seq ?_
  obtain ⟨r14, ZqH, hF⟩ := bind_some hF
  refine ns ?_
  refine e3 ?_
  refine st ?_
  refine cm (Zj.weak (rn []) (Zlc s _ ZqH) rfl (WS.mk (tc Zb) Zc)) ?_
  refine st ?_
  refine nw ?_
  refine Zi hF (fun Zfg hF => ?_) (fun Zfg hF => ?_)
  ·refine AWP.seq ?_
   refine ns ?_
   obtain rfl := Zg hF
   refine ns ?_
   refine Exists.intro [] ?_
   refine st ?_
   exact wx (WS.mk (tc Zb) Zc)
  ·refine nw ?_
   refine AWP.seq ?_
   refine AWP.seq ?_
   obtain ⟨y16, hy160, ZG5, hF⟩ := Zc4 hF
   obtain ⟨r17, ZIz, hF⟩ := bind_some hF
   refine nn ?_
   refine sr ZG5 ?_
   refine st ?_
   refine e3 ?_
   refine st ?_
   refine cm (Zj.weak (rn []) (ZgA ((y16.toNat : Nat) : Int) _ ZIz) rfl (WS.mk (tc Zb) Zc)) ?_
   refine st ?_
   refine nw ?_
   refine Zi hF (fun ZtI hF => ?_) (fun ZtI hF => ?_)
   ·refine AWP.seq ?_
    refine ns ?_
    obtain rfl := Zg hF
    refine ns ?_
    refine Exists.intro [] ?_
    refine st ?_
    exact wx (WS.mk (tc Zb) Zc)
   ·refine nw ?_
    refine AWP.seq ?_
    refine ns ?_
    obtain rfl := Zg hF
    refine ns ?_
    refine Exists.intro [] ?_
    refine st ?_
    exact wx (WS.mk (tc Zb) Zc)
 ·refine nw ?_
  refine AWP.seq ?_
  refine AWP.seq ?_
  obtain ⟨r19, Ztl, hF⟩ := bind_some hF
  refine ns ?_
  refine e3 ?_
  refine st ?_
  refine cm (Zj.weak (rn []) (ZmQ s _ Ztl) rfl (WS.mk (tc Zb) Zc)) ?_
  refine st ?_
  refine nw ?_
  refine Zi hF (fun ZDW hF => ?_) (fun ZDW hF => ?_)
  ·refine AWP.seq ?_
   refine AWP.seq ?_
   obtain ⟨r23, Zz1, hF⟩ := bind_some hF
   refine ns ?_
   refine e3 ?_
   refine st ?_
   refine cm (Zj.weak (rn []) (ZiP s _ Zz1) rfl (WS.mk (tc Zb) Zc)) ?_
   refine st ?_
   refine nw ?_
   refine Zi hF (fun Zyy hF => ?_) (fun Zyy hF => ?_)
   ·refine AWP.seq ?_
    refine ns ?_
    obtain rfl := Zg hF
    refine ns ?_
    refine Exists.intro [] ?_
    refine st ?_
    exact wx (WS.mk (tc Zb) Zc)
   ·refine nw ?_
    refine AWP.seq ?_
    refine AWP.seq ?_
    obtain ⟨y25, hy250, ZHR, hF⟩ := Zc4 hF
    refine nn ?_
    refine sr ZHR ?_
    refine st ?_
    refine nw ?_
    refine Zi hF (fun ZlJ hF => ?_) (fun ZlJ hF => ?_)
    ·refine AWP.seq ?_
     refine ns ?_
     obtain rfl := Zg hF
     refine ns ?_
     refine Exists.intro [] ?_
     refine st ?_
     exact wx (WS.mk (tc Zb) Zc)
    ·refine nw ?_
     refine AWP.seq ?_
     refine ns ?_
     obtain rfl := Zg hF
     refine ns ?_
     refine Exists.intro [] ?_
     refine st ?_
     exact wx (WS.mk (tc Zb) Zc)
  ·refine nw ?_
   refine AWP.seq ?_
   refine ns ?_
   obtain rfl := Zg hF
   refine ns ?_
   refine Exists.intro [] ?_
   refine st ?_
   exact wx (WS.mk (tc Zb) Zc)

def Zc2 (s : ByteArray) : Option (Bool) :=
 Zbv s >>= fun r1 =>
 some ((((r1 == 1) || (r1 == 2)) || (r1 == 3)) || (r1 == 4))
def Zc2.M (s : ByteArray) (r : Bool) : Prop :=
 Zj Tryz.prog 109 [.c none (.v (.string s))] [] (fun d b => d = .c none (.v (.bool r)) ∧ b = [])
theorem Zi0 (s : ByteArray) (r : Bool) (hF : Zc2 s = some r) : Zc2.M s r := by
 unfold Zc2 at hF
 unfold Zc2.M
 refine en Tryz.func109 ?_
 refine AWP.seq ?_
 refine ns ?_
 refine AWP.seq ?_
 obtain ⟨r1, hr1, hF⟩ := bind_some hF
 refine ns ?_
 refine e3 ?_
 refine st ?_
 refine cm (Zj.weak (rn []) (ZdX s _ hr1) rfl (WS.mk (tc Zb) Zc)) ?_
 refine st ?_
 refine AWP.seq ?_
 refine AWP.cutN (fun T => ∃ r, WS r T ⟨[(2, .c none (.v (.bool ((((r1 == 1) || (r1 == 2)) || (r1 == 3)) || (r1 == 4)))))], []⟩) ?_ (fun T hw => ?_)
 ·refine ns ?_
  refine Zm false (fun hc2 => ?_) (fun hc2 => ?_)
  ·(conv => whnf)
   refine st ?_
   exact wx (WS.mk (Zd (Zr (web hc2)) Zb) Zc)
  ·(conv => whnf)
   refine st ?_
   refine Zm false (fun hc3 => ?_) (fun hc3 => ?_)
   ·(conv => whnf)
    refine st ?_
    exact wx (WS.mk (Zd (Zr (web (And.intro hc2 hc3))) Zb) Zc)
   ·(conv => whnf)
    refine st ?_
    refine Zm false (fun hc4 => ?_) (fun hc4 => ?_)
    ·(conv => whnf)
     refine st ?_
     exact wx (WS.mk (Zd (Zr (web (And.intro hc2 (And.intro hc3 hc4)))) Zb) Zc)
    ·(conv => whnf)
     refine st ?_
     exact wx (WS.mk (Zd (Zr (web (And.intro hc2 (And.intro hc3 hc4)))) Zb) Zc)
 obtain ⟨r0, hw⟩ := hw
 (conv => whnf)
 refine AWP.weak r0 hw ?_
 obtain rfl := Zg hF
 refine ns ?_
 refine Exists.intro [] ?_
 refine st ?_
 exact wx (WS.mk (tc Zb) Zc)

def ZdJ (module : ByteArray) (name_ : ByteArray) : Option (ByteArray) :=
 Zbv module >>= fun r5 =>
 (if (r5 != 2) = true then some true else Zc2 name_ >>= fun r6 =>
 some (!r6)) >>= fun c7 =>
 if c7 = true then
 some (ByteArray.mk #[])
 else
 Z5 (((module.size + (ByteArray.mk #[46]).size : Nat) : Int) ≤ IntKind.i64.max) >>= fun _ =>
 Z5 ((((module ++ (ByteArray.mk #[46])).size + name_.size : Nat) : Int) ≤ IntKind.i64.max) >>= fun _ =>
 some ((module ++ (ByteArray.mk #[46])) ++ name_)
def ZdJ.M (module : ByteArray) (name_ : ByteArray) (r : ByteArray) : Prop :=
 Zj Tryz.prog 129 [.c none (.v (.string module)), .c none (.v (.string name_))] [] (fun d b => d = .c none (.v (.string r)) ∧ b = [])
theorem Zoj (module : ByteArray) (name_ : ByteArray) (r : ByteArray) (hF : ZdJ module name_ = some r) : ZdJ.M module name_ r := by
 unfold ZdJ at hF
 unfold ZdJ.M
 refine en Tryz.func129 ?_
 refine AWP.seq ?_
 refine ns ?_
 refine AWP.seq ?_
 refine AWP.seq ?_
 obtain ⟨r5, hr5, hF⟩ := bind_some hF
 obtain ⟨c7, hc7, hF⟩ := bind_some hF
 refine AWP.cutN (fun T => ∃ r, WS r T ⟨[(0, .c none (.v (.string module))), (1, .c none (.v (.string name_))), (12, .c none (.v (.bool c7)))], []⟩) ?_ (fun T hw => ?_)
 ·refine ns ?_
  refine e3 ?_
  refine st ?_
  refine cm (Zj.weak (rn []) (ZdX module _ hr5) rfl (WS.mk (tc Zb) Zc)) ?_
  refine st ?_
  refine Zm false (fun hc8 => ?_) (fun hc8 => ?_)
  ·have hc7 := ift hc8 hc7
   (conv => whnf)
   obtain rfl := Zg hc7
   refine st ?_
   exact wx (WS.mk (tc (tc (Zd (Zr (web hc8)) Zb))) Zc)
  ·have hc7 := ife hc8 hc7
   obtain ⟨r6, hr6, hc7⟩ := bind_some hc7
   (conv => whnf)
   refine st ?_
   refine e3 ?_
   refine st ?_
   refine cm (Zj.weak (rn []) (Zi0 name_ _ hr6) rfl (WS.mk (tc Zb) Zc)) ?_
   refine st ?_
   obtain rfl := Zg hc7
   refine st ?_
   exact wx (WS.mk (tc (tc (Zd (Zr (web hc8)) Zb))) Zc)
 obtain ⟨r0, hw⟩ := hw
 (conv => whnf)
 refine AWP.weak r0 hw ?_
 refine nw ?_
 refine Zi hF (fun hc9 hF => ?_) (fun hc9 hF => ?_)
 ·refine AWP.seq ?_
  refine ns ?_
  obtain rfl := Zg hF
  refine ns ?_
  refine Exists.intro [] ?_
  refine st ?_
  exact wx (WS.mk (tc Zb) Zc)
 ·refine nw ?_
  refine AWP.seq ?_
  obtain ⟨ZAw, hF⟩ := Zy hF
  obtain ⟨ZC0, hF⟩ := Zy hF
  refine ns ?_
  refine And.intro ZAw ?_
  refine st ?_
  refine And.intro ZC0 ?_
  refine st ?_
  obtain rfl := Zg hF
  refine ns ?_
  refine Exists.intro [] ?_
  refine st ?_
  exact wx (WS.mk (tc Zb) Zc)

def Zbg (s : ByteArray) (i_5 : Nat) : Option (ByteArray × ByteArray × Bool) :=
 if (decide (((i_5 : Nat) : Int) < ((s.size : Nat) : Int))) = true then
 (btI s ((i_5 : Nat) : Int)) >>= fun y60 =>
 if (((y60.toNat : Nat) : Int) != 46) = true then
 Z5 (i_5 + 1 ≤ 9223372036854775807) >>= fun _ =>
 Zbg s (i_5 + 1)
 else
 (slS s ((0 : Nat) : Int) ((i_5 : Nat) : Int)) >>= fun z76 =>
 Z5 (i_5 + 1 ≤ 9223372036854775807) >>= fun _ =>
 (slS s (IntKind.i64.wrap (((i_5 : Nat) : Int) + 1)) ((s.size : Nat) : Int)) >>= fun z78 =>
 ZdJ z76 z78 >>= fun r79 =>
 if (r79.toList == (ByteArray.mk #[]).toList) = true then
 some ((ByteArray.mk #[]), (ByteArray.mk #[]), false)
 else
 (slS s ((0 : Nat) : Int) ((i_5 : Nat) : Int)) >>= fun z84 =>
 Z5 (i_5 + 1 ≤ 9223372036854775807) >>= fun _ =>
 (slS s (IntKind.i64.wrap (((i_5 : Nat) : Int) + 1)) ((s.size : Nat) : Int)) >>= fun z86 =>
 some (z84, z86, true)
 else
 some ((ByteArray.mk #[]), (ByteArray.mk #[]), false)
 partial_fixpoint
def Zbg.M (s : ByteArray) (i_5 : Nat) (r : ByteArray × ByteArray × Bool) : Prop :=
 AWL Tryz.prog 32 (Code.sub (Zq Tryz.f108) [1, 0, 1, 0, 0]) (Code.cont Tryz.prog 32 (Zq Tryz.f108) [1, 0, 1, 0] (ZbW tab Tryz.f108.results (ZbY (.tup [.c (.v (.string r.1)), .c (.v (.string r.2.1)), .c (.v (.bool r.2.2))]) []))) ⟨[(0, .c none (.v (.string s))), (5, .c none (.v (.int .i64 ((i_5 : Nat) : Int))))], []⟩
theorem ZlD (s : ByteArray) (i_5 : Nat) : ∀ r, Zbg s i_5 = some r → Zbg.M s i_5 r := by
 refine Zbg.partial_correctness s (fun i_5 r => Zbg.M s i_5 r) ?_ i_5
 intro lazycref01_Split_l1' Zhh i_5 r hF
 have Zll := fun (_s : ByteArray) (i_5 : Nat) => Zhh i_5
 clear Zhh
 unfold Zbg.M
 refine AWL.step ?_
 refine AWP.seq ?_
 refine AWP.seq ?_
 refine ns ?_
 refine nw ?_
 refine Zi hF (fun Zh6 hF => ?_) (fun Zh6 hF => ?_)
 ·refine nw ?_
  refine AWP.seq ?_
  refine AWP.block ?_
  refine AWP.seq ?_
  refine AWP.seq ?_
  obtain ⟨y60, hy600, ZHU, hF⟩ := Zc4 hF
  refine nn ?_
  refine sr ZHU ?_
  refine st ?_
  refine nw ?_
  refine Zi hF (fun ZH7 hF => ?_) (fun ZH7 hF => ?_)
  ·refine nw ?_
   obtain ⟨ZHT, hF⟩ := Zy hF
   refine ns ?_
   refine AWL.weak (rn []) ?_ (Zll s (i_5 + 1) _ hF)
   exact (WS.mk (tc (Zd (Zr (Zdf (Zdu ZHT))) Zb)) Zc)
  ·refine nw ?_
   refine AWP.seq ?_
   refine AWP.seq ?_
   obtain ⟨z76, ZEM, ZE7, ZFJ, ZHg, hF⟩ := ZfS hF
   obtain ⟨hg77, hF⟩ := Zy hF
   obtain ⟨z78, ZEt, ZE3, ZEC, ZHB, hF⟩ := ZfS hF
   obtain ⟨r79, ZCS, hF⟩ := bind_some hF
   refine nn ?_
   refine Or.inl (Exists.intro 7 (Exists.intro [[], [], [], [], [], [], []] (Exists.intro [([16, 17, 18, 19, 20, 21, 22], [], []), ([16, 17, 18, 19, 20, 21, 22], [], []), ([18, 19, 20, 21, 22], [], []), ([16, 17, 18, 19, 20, 21, 22], [], []), ([16, 17, 18, 19, 20, 21, 22], [], []), ([16, 17, 18, 19, 21, 22], [], []), ([16, 17, 18, 22], [], [])] (Exists.intro [16, 17, 18, 19, 20, 21, 22] (And.intro (by decide +kernel) ?_)))))
   refine dp ?_
   refine dp ?_
   (refine st ?_; apply Exists.intro; apply Exists.intro; apply And.intro; (focus ((repeat (first | (rw [← ZHg]) | ((conv => whnf); (with_reducible refine And.intro ?_ ?_); (focus (first | exact Eq.refl _ | exact trivial | (with_reducible assumption) | (with_reducible exact Int.natCast_nonneg _) | exact Nat.le_of_ble_eq_true (Eq.refl true) | exact Zd9 (Eq.refl _) (Eq.refl _) (Eq.refl _) | decide))) | ((with_reducible refine And.intro ?_ ?_); (focus (first | exact ZEM | exact ZE7 | exact ZFJ))))) <;> (exact rfl))); apply And.intro; (focus exact rfl); (conv => whnf))
   refine dp ?_
   refine dp ?_
   refine dp ?_
   (refine st ?_; apply Exists.intro; apply Exists.intro; apply And.intro; (focus ((repeat (first | (rw [← ZHB]) | ((conv => whnf); (with_reducible refine And.intro ?_ ?_); (focus (first | exact Eq.refl _ | exact trivial | (with_reducible assumption) | (with_reducible exact Int.natCast_nonneg _) | exact Nat.le_of_ble_eq_true (Eq.refl true) | exact Zd9 (Eq.refl _) (Eq.refl _) (Eq.refl _) | decide))) | ((with_reducible refine And.intro ?_ ?_); (focus (first | exact ZEt | exact ZE3 | exact ZEC))))) <;> (exact rfl))); apply And.intro; (focus exact rfl); (conv => whnf))
   refine st ?_
   refine e3 ?_
   refine st ?_
   refine cm (Zj.weak (rn []) (Zoj z76 z78 _ ZCS) rfl (WS.mk (tc (tc Zb)) Zc)) ?_
   refine st ?_
   refine nw ?_
   refine Zi hF (fun Zr9 hF => ?_) (fun Zr9 hF => ?_)
   ·refine AWP.seq ?_
    refine ns ?_
    obtain rfl := Zg hF
    refine ns ?_
    refine Exists.intro [] ?_
    refine st ?_
    exact wx (WS.mk (Zd (Zc9 (ZcG (WE.refl _) (ZcG (WE.refl _) (ZcG (WE.refl _) Zc7)))) Zb) Zc)
   ·refine nw ?_
    refine AWP.seq ?_
    obtain ⟨z84, ZGF, ZFX, ZGJ, ZHX, hF⟩ := ZfS hF
    obtain ⟨hg85, hF⟩ := Zy hF
    obtain ⟨z86, ZEG, ZGG, ZGa, ZIQ, hF⟩ := ZfS hF
    refine nn ?_
    refine Or.inl (Exists.intro 8 (Exists.intro [[], [], [], [], [], [], [], []] (Exists.intro [([25, 26, 27, 28, 29, 30, 31, 2], [], []), ([25, 26, 27, 28, 29, 30, 31, 2], [], []), ([27, 28, 29, 30, 31, 2], [], []), ([25, 26, 27, 28, 29, 30, 31, 2], [], []), ([25, 26, 27, 28, 29, 30, 31, 2], [], []), ([25, 26, 27, 28, 30, 31, 2], [], []), ([25, 26, 27, 31, 2], [], []), ([28, 29, 30, 31, 2], [], [])] (Exists.intro [25, 26, 27, 28, 29, 30, 31, 2] (And.intro (by decide +kernel) ?_)))))
    refine dp ?_
    refine dp ?_
    (refine st ?_; apply Exists.intro; apply Exists.intro; apply And.intro; (focus ((repeat (first | (rw [← ZHX]) | ((conv => whnf); (with_reducible refine And.intro ?_ ?_); (focus (first | exact Eq.refl _ | exact trivial | (with_reducible assumption) | (with_reducible exact Int.natCast_nonneg _) | exact Nat.le_of_ble_eq_true (Eq.refl true) | exact Zd9 (Eq.refl _) (Eq.refl _) (Eq.refl _) | decide))) | ((with_reducible refine And.intro ?_ ?_); (focus (first | exact ZGF | exact ZFX | exact ZGJ))))) <;> (exact rfl))); apply And.intro; (focus exact rfl); (conv => whnf))
    refine dp ?_
    refine dp ?_
    refine dp ?_
    (refine st ?_; apply Exists.intro; apply Exists.intro; apply And.intro; (focus ((repeat (first | (rw [← ZIQ]) | ((conv => whnf); (with_reducible refine And.intro ?_ ?_); (focus (first | exact Eq.refl _ | exact trivial | (with_reducible assumption) | (with_reducible exact Int.natCast_nonneg _) | exact Nat.le_of_ble_eq_true (Eq.refl true) | exact Zd9 (Eq.refl _) (Eq.refl _) (Eq.refl _) | decide))) | ((with_reducible refine And.intro ?_ ?_); (focus (first | exact ZEG | exact ZGG | exact ZGa))))) <;> (exact rfl))); apply And.intro; (focus exact rfl); (conv => whnf))
    refine dp ?_
    refine st ?_
    obtain rfl := Zg hF
    refine ns ?_
    refine Exists.intro [] ?_
    refine st ?_
    exact wx (WS.mk (Zd (Zc9 (ZcG (WE.refl _) (ZcG (WE.refl _) (ZcG (WE.refl _) Zc7)))) Zb) Zc)
 ·refine nw ?_
  refine AWP.seq ?_
  refine ns ?_
  obtain rfl := Zg hF
  refine ns ?_
  refine Exists.intro [] ?_
  refine st ?_
  exact wx (WS.mk (Zd (Zc9 (ZcG (WE.refl _) (ZcG (WE.refl _) (ZcG (WE.refl _) Zc7)))) Zb) Zc)

def ZcY (s : ByteArray) : Option (ByteArray × ByteArray × Bool) :=
 Zbg s 0
def ZcY.M (s : ByteArray) (r : ByteArray × ByteArray × Bool) : Prop :=
 Zj Tryz.prog 108 [.c none (.v (.string s))] [] (fun d b => d = .tup [.c (.v (.string r.1)), .c (.v (.string r.2.1)), .c (.v (.bool r.2.2))] ∧ b = [])
theorem Zi5 (s : ByteArray) (r : ByteArray × ByteArray × Bool) (hF : ZcY s = some r) : ZcY.M s r := by
 unfold ZcY at hF
 unfold ZcY.M
 refine en Tryz.func108 ?_
 refine AWP.seq ?_
 refine ns ?_
 refine AWP.seq ?_
 refine AWP.seq ?_
 refine ns ?_
 refine AWP.block ?_
 refine AWP.loop ?_
 refine AWL.weak (rn []) ?_ (ZlD s 0 _ hF)
 exact (WS.mk (tc (tc Zb)) Zc)

def ZcV (s : ByteArray) : Option (Bool) :=
 ZcY s >>= fun r1 =>
 (if r1.2.2 = true then some true else Zc2 s >>= fun r2 =>
 some r2) >>= fun c3 =>
 some c3
def ZcV.M (s : ByteArray) (r : Bool) : Prop :=
 Zj Tryz.prog 84 [.c none (.v (.string s))] [] (fun d b => d = .c none (.v (.bool r)) ∧ b = [])
theorem ZjE (s : ByteArray) (r : Bool) (hF : ZcV s = some r) : ZcV.M s r := by
 unfold ZcV at hF
 unfold ZcV.M
 refine en Tryz.func84 ?_
 refine AWP.seq ?_
 refine ns ?_
 refine AWP.seq ?_
 obtain ⟨r1, hr1, hF⟩ := bind_some hF
 refine ns ?_
 refine e3 ?_
 refine st ?_
 refine cm (Zj.weak (rn []) (Zi5 s _ hr1) rfl (WS.mk (tc Zb) Zc)) ?_
 refine st ?_
 refine AWP.seq ?_
 obtain ⟨c3, hc3, hF⟩ := bind_some hF
 refine AWP.cutN (fun T => ∃ r, WS r T ⟨[(2, .c none (.v (.bool c3)))], []⟩) ?_ (fun T hw => ?_)
 ·refine ns ?_
  refine Zm false (fun hc4 => ?_) (fun hc4 => ?_)
  ·have hc3 := ift hc4 hc3
   (conv => whnf)
   obtain rfl := Zg hc3
   refine st ?_
   exact wx (WS.mk (Zd (Zr (web hc4)) Zb) Zc)
  ·have hc3 := ife hc4 hc3
   obtain ⟨r2, hr2, hc3⟩ := bind_some hc3
   (conv => whnf)
   refine st ?_
   refine e3 ?_
   refine st ?_
   refine cm (Zj.weak (rn []) (Zi0 s _ hr2) rfl (WS.mk (tc Zb) Zc)) ?_
   refine st ?_
   obtain rfl := Zg hc3
   refine st ?_
   exact wx (WS.mk (Zd (Zr (web hc4)) Zb) Zc)
 obtain ⟨r0, hw⟩ := hw
 (conv => whnf)
 refine AWP.weak r0 hw ?_
 obtain rfl := Zg hF
 refine ns ?_
 refine Exists.intro [] ?_
 refine st ?_
 exact wx (WS.mk (tc Zb) Zc)

def ZaX (s : ByteArray) (n_4 : Int) (i_5 : Nat) : Option (Int × Bool) :=
 if (decide (((i_5 : Nat) : Int) < ((s.size : Nat) : Int))) = true then
 (btI s ((i_5 : Nat) : Int)) >>= fun y37 =>
 ZcZ ((y37.toNat : Nat) : Int) >>= fun r38 =>
 if (!r38) = true then
 some (0, false)
 else
 (btI s ((i_5 : Nat) : Int)) >>= fun y40 =>
 if (decide (n_4 > (IntKind.i64.wrap (Int.tdiv (IntKind.i64.wrap (9223372036854775807 - (IntKind.i64.wrap (IntKind.u8.wrap (((y40.toNat : Nat) : Int) - 48))))) 10)))) = true then
 some (0, false)
 else
 Z5 (i_5 + 1 ≤ 9223372036854775807) >>= fun _ =>
 ZaX s (IntKind.i64.wrap ((IntKind.i64.wrap (10 * n_4)) + (IntKind.i64.wrap (IntKind.u8.wrap (((y40.toNat : Nat) : Int) - 48))))) (i_5 + 1)
 else
 some (n_4, true)
 partial_fixpoint
def ZaX.M (s : ByteArray) (n_4 : Int) (i_5 : Nat) (r : Int × Bool) : Prop :=
 AWL Tryz.prog 45 (Code.sub (Zq Tryz.f85) [1, 1, 1, 0, 1, 0, 0]) (Code.cont Tryz.prog 45 (Zq Tryz.f85) [1, 1, 1, 0, 1, 0] (ZbW tab Tryz.f85.results (ZbY (.tup [.c (.v (.int .i64 r.1)), .c (.v (.bool r.2))]) []))) ⟨[(0, .c none (.v (.string s))), (4, .c none (.v (.int .i64 n_4))), (5, .c none (.v (.int .i64 ((i_5 : Nat) : Int))))], []⟩
theorem ZkH (s : ByteArray) (n_4 : Int) (i_5 : Nat) : ∀ r, ZaX s n_4 i_5 = some r → ZaX.M s n_4 i_5 r := by
 refine ZaX.partial_correctness s (fun n_4 i_5 r => ZaX.M s n_4 i_5 r) ?_ n_4 i_5
 intro lazycref01_number_l1' ZgR n_4 i_5 r hF
 have Zk1 := fun (_s : ByteArray) (n_4 : Int) (i_5 : Nat) => ZgR n_4 i_5
 clear ZgR
 unfold ZaX.M
 refine AWL.step ?_
 refine AWP.seq ?_
 refine AWP.seq ?_
 refine ns ?_
 refine nw ?_
 refine Zi hF (fun Zpk hF => ?_) (fun Zpk hF => ?_)
 ·refine nw ?_
  refine AWP.seq ?_
  refine AWP.block ?_
  refine AWP.seq ?_
  refine AWP.seq ?_
  obtain ⟨y37, hy370, ZHE, hF⟩ := Zc4 hF
  obtain ⟨r38, ZAm, hF⟩ := bind_some hF
  refine nn ?_
  refine sr ZHE ?_
  refine st ?_
  refine e3 ?_
  refine st ?_
  refine cm (Zj.weak (rn []) (Zi1 ((y37.toNat : Nat) : Int) _ ZAm) rfl (WS.mk (tc Zb) Zc)) ?_
  refine st ?_
  refine nw ?_
  refine Zi hF (fun ZhU hF => ?_) (fun ZhU hF => ?_)
  ·refine AWP.seq ?_
   refine ns ?_
   obtain rfl := Zg hF
   refine ns ?_
   refine Exists.intro [] ?_
   refine st ?_
   exact wx (WS.mk (Zd (Zc9 (ZcG (WE.refl _) (ZcG (WE.refl _) Zc7))) Zb) Zc)
  ·refine nw ?_
   refine AWP.seq ?_
   obtain ⟨y40, hy400, ZGu, hF⟩ := Zc4 hF
   refine nn ?_
   refine sr ZGu ?_
   refine st ?_
   refine AWP.seq ?_
   refine AWP.seq ?_
   refine ns ?_
   refine nw ?_
   refine Zi hF (fun Zv8 hF => ?_) (fun Zv8 hF => ?_)
   ·refine AWP.seq ?_
    refine ns ?_
    obtain rfl := Zg hF
    refine ns ?_
    refine Exists.intro [] ?_
    refine st ?_
    exact wx (WS.mk (Zd (Zc9 (ZcG (WE.refl _) (ZcG (WE.refl _) Zc7))) Zb) Zc)
   ·refine nw ?_
    refine ns ?_
    obtain ⟨ZIJ, hF⟩ := Zy hF
    refine ns ?_
    refine AWL.weak (rn []) ?_ (Zk1 s (IntKind.i64.wrap ((IntKind.i64.wrap (10 * n_4)) + (IntKind.i64.wrap (IntKind.u8.wrap (((y40.toNat : Nat) : Int) - 48))))) (i_5 + 1) _ hF)
    exact (WS.mk (tc (tc (Zd (Zr (Zdf (Zdu ZIJ))) Zb))) Zc)
 ·refine nw ?_
  refine AWP.seq ?_
  refine ns ?_
  obtain rfl := Zg hF
  refine ns ?_
  refine Exists.intro [] ?_
  refine st ?_
  exact wx (WS.mk (Zd (Zc9 (ZcG (WE.refl _) (ZcG (WE.refl _) Zc7))) Zb) Zc)

def ZcH (s : ByteArray) : Option (Int × Bool) :=
 (if (s.toList == (ByteArray.mk #[]).toList) = true then some true else (btI s 0) >>= fun y4 =>
 some ((((y4.toNat : Nat) : Int) == 48) && (decide (((s.size : Nat) : Int) > 1)))) >>= fun c5 =>
 if c5 = true then
 some (0, false)
 else
 ZaX s 0 0
def ZcH.M (s : ByteArray) (r : Int × Bool) : Prop :=
 Zj Tryz.prog 85 [.c none (.v (.string s))] [] (fun d b => d = .tup [.c (.v (.int .i64 r.1)), .c (.v (.bool r.2))] ∧ b = [])
theorem ZmI (s : ByteArray) (r : Int × Bool) (hF : ZcH s = some r) : ZcH.M s r := by
 unfold ZcH at hF
 unfold ZcH.M
 refine en Tryz.func85 ?_
 refine AWP.seq ?_
 refine ns ?_
 refine AWP.seq ?_
 refine AWP.seq ?_
 obtain ⟨c5, hc5, hF⟩ := bind_some hF
 refine AWP.cutN (fun T => ∃ r, WS r T ⟨[(0, .c none (.v (.string s))), (18, .c none (.v (.bool c5)))], []⟩) ?_ (fun T hw => ?_)
 ·refine ns ?_
  refine Zm false (fun hc6 => ?_) (fun hc6 => ?_)
  ·have hc5 := ift hc6 hc5
   (conv => whnf)
   obtain rfl := Zg hc5
   refine st ?_
   exact wx (WS.mk (tc (Zd (Zr (web hc6)) Zb)) Zc)
  ·have hc5 := ife hc6 hc5
   obtain ⟨y4, ZGu, hy4, hc5⟩ := Zc4 hc5
   (conv => whnf)
   refine sr hy4 ?_
   refine st ?_
   refine Zm true (fun hc7 => ?_) (fun hc7 => ?_)
   ·(conv => whnf)
    obtain rfl := Zg hc5
    refine st ?_
    exact wx (WS.mk (tc (Zd (Zr (web (And.intro hc6 hc7))) Zb)) Zc)
   ·(conv => whnf)
    obtain rfl := Zg hc5
    refine st ?_
    exact wx (WS.mk (tc (Zd (Zr (web (And.intro hc6 hc7))) Zb)) Zc)
 obtain ⟨r0, hw⟩ := hw
 (conv => whnf)
 refine AWP.weak r0 hw ?_
 refine nw ?_
 refine Zi hF (fun hc8 hF => ?_) (fun hc8 hF => ?_)
 ·refine AWP.seq ?_
  refine ns ?_
  obtain rfl := Zg hF
  refine ns ?_
  refine Exists.intro [] ?_
  refine st ?_
  exact wx (WS.mk (Zd (Zc9 (ZcG (WE.refl _) (ZcG (WE.refl _) Zc7))) Zb) Zc)
 ·refine nw ?_
  refine AWP.seq ?_
  refine ns ?_
  refine AWP.seq ?_
  refine AWP.seq ?_
  refine ns ?_
  refine AWP.block ?_
  refine AWP.loop ?_
  refine AWL.weak (rn []) ?_ (ZkH s 0 0 _ hF)
  exact (WS.mk (tc (tc (tc Zb))) Zc)

def Za5 (s : ByteArray) (ZhV : Int) (i_6 : Nat) : Option (ByteArray × Int × Bool) :=
 if (decide (((i_6 : Nat) : Int) < ((s.size : Nat) : Int))) = true then
 (btI s ((i_6 : Nat) : Int)) >>= fun y29 =>
 if (((y29.toNat : Nat) : Int) == 36) = true then
 Z5 (i_6 + 1 ≤ 9223372036854775807) >>= fun _ =>
 Za5 s ((i_6 : Nat) : Int) (i_6 + 1)
 else
 Z5 (i_6 + 1 ≤ 9223372036854775807) >>= fun _ =>
 Za5 s ZhV (i_6 + 1)
 else
 (if (decide (ZhV < 0)) = true then some true else (slS s ((0 : Nat) : Int) ZhV) >>= fun z37 =>
 ZcV z37 >>= fun r38 =>
 some (!r38)) >>= fun c39 =>
 if c39 = true then
 some ((ByteArray.mk #[]), 0, false)
 else
 (slS s (IntKind.i64.wrap (ZhV + 1)) ((s.size : Nat) : Int)) >>= fun z42 =>
 ZcH z42 >>= fun r43 =>
 if (!r43.2) = true then
 some ((ByteArray.mk #[]), 0, false)
 else
 (slS s ((0 : Nat) : Int) ZhV) >>= fun z46 =>
 some (z46, r43.1, true)
 partial_fixpoint
def Za5.M (s : ByteArray) (ZhV : Int) (i_6 : Nat) (r : ByteArray × Int × Bool) : Prop :=
 AWL Tryz.prog 43 (Code.sub (Zq Tryz.f58) [1, 1, 0, 1, 0, 0]) (Code.cont Tryz.prog 43 (Zq Tryz.f58) [1, 1, 0, 1, 0] (ZbW tab Tryz.f58.results (ZbY (.tup [.c (.v (.string r.1)), .c (.v (.int .i64 r.2.1)), .c (.v (.bool r.2.2))]) []))) ⟨[(0, .c none (.v (.string s))), (5, .c none (.v (.int .i64 ZhV))), (6, .c none (.v (.int .i64 ((i_6 : Nat) : Int))))], []⟩
theorem Zme (s : ByteArray) (ZhV : Int) (i_6 : Nat) : ∀ r, Za5 s ZhV i_6 = some r → Za5.M s ZhV i_6 r := by
 refine Za5.partial_correctness s (fun ZhV i_6 r => Za5.M s ZhV i_6 r) ?_ ZhV i_6
 intro lazycref01_Base_l1' Zhr ZhV i_6 r hF
 have Zh2 := fun (_s : ByteArray) (ZhV : Int) (i_6 : Nat) => Zhr ZhV i_6
 clear Zhr
 unfold Za5.M
 refine AWL.step ?_
 refine AWP.seq ?_
 refine AWP.seq ?_
 refine ns ?_
 refine nw ?_
 refine Zi hF (fun ZAa hF => ?_) (fun ZAa hF => ?_)
 ·refine nw ?_
  refine AWP.seq ?_
  refine AWP.block ?_
  refine AWP.seq ?_
  obtain ⟨y29, hy290, ZHJ, hF⟩ := Zc4 hF
  refine nn ?_
  refine sr ZHJ ?_
  refine st ?_
  refine nw ?_
  refine Zi hF (fun Zpf hF => ?_) (fun Zpf hF => ?_)
  ·refine ns ?_
   obtain ⟨ZH8, hF⟩ := Zy hF
   refine ns ?_
   refine AWL.weak (rn []) ?_ (Zh2 s ((i_6 : Nat) : Int) (i_6 + 1) _ hF)
   exact (WS.mk (tc (tc (Zd (Zr (Zdf (Zdu ZH8))) Zb))) Zc)
  ·refine nw ?_
   obtain ⟨ZDu, hF⟩ := Zy hF
   refine ns ?_
   refine AWL.weak (rn []) ?_ (Zh2 s ZhV (i_6 + 1) _ hF)
   exact (WS.mk (tc (tc (Zd (Zr (Zdf (Zdu ZDu))) Zb))) Zc)
 ·refine nw ?_
  refine AWP.seq ?_
  refine AWP.seq ?_
  obtain ⟨c39, ZhU, hF⟩ := bind_some hF
  refine AWP.cutN (fun T => ∃ r, WS r T ⟨[(0, .c none (.v (.string s))), (5, .c none (.v (.int .i64 ZhV))), (28, .c none (.v (.bool c39)))], []⟩) ?_ (fun T hw => ?_)
  ·refine ns ?_
   refine Zm false (fun Zn0 => ?_) (fun Zn0 => ?_)
   ·have ZhU := ift Zn0 ZhU
    (conv => whnf)
    obtain rfl := Zg ZhU
    refine st ?_
    exact wx (WS.mk (tc (tc (Zd (Zr (web Zn0)) Zb))) Zc)
   ·have ZhU := ife Zn0 ZhU
    obtain ⟨z37, ZFD, ZFQ, ZFe, ZHx, ZhU⟩ := ZfS ZhU
    obtain ⟨r38, ZAm, ZhU⟩ := bind_some ZhU
    (conv => whnf)
    refine s3 ZFD ZFQ ZFe ?_
    rw [← ZHx]
    refine st ?_
    refine e3 ?_
    refine st ?_
    refine cm (Zj.weak (rn []) (ZjE z37 _ ZAm) rfl (WS.mk (tc Zb) Zc)) ?_
    refine st ?_
    obtain rfl := Zg ZhU
    refine st ?_
    exact wx (WS.mk (tc (tc (Zd (Zr (web Zn0)) Zb))) Zc)
  obtain ⟨r0, hw⟩ := hw
  (conv => whnf)
  refine AWP.weak r0 hw ?_
  refine nw ?_
  refine Zi hF (fun Zwc hF => ?_) (fun Zwc hF => ?_)
  ·refine AWP.seq ?_
   refine ns ?_
   obtain rfl := Zg hF
   refine ns ?_
   refine Exists.intro [] ?_
   refine st ?_
   exact wx (WS.mk (Zd (Zc9 (ZcG (WE.refl _) (ZcG (WE.refl _) (ZcG (WE.refl _) Zc7)))) Zb) Zc)
  ·refine nw ?_
   refine AWP.seq ?_
   obtain ⟨z42, ZEB, ZFv, ZE1, ZCu, hF⟩ := ZfS hF
   obtain ⟨r43, ZDH, hF⟩ := bind_some hF
   refine nn ?_
   refine s3 ZEB ZFv ZE1 ?_
   rw [← ZCu]
   refine st ?_
   refine e3 ?_
   refine st ?_
   refine cm (Zj.weak (rn []) (ZmI z42 _ ZDH) rfl (WS.mk (tc Zb) Zc)) ?_
   refine st ?_
   refine AWP.seq ?_
   refine AWP.seq ?_
   refine ns ?_
   refine nw ?_
   refine Zi hF (fun ZEe hF => ?_) (fun ZEe hF => ?_)
   ·refine AWP.seq ?_
    refine ns ?_
    obtain rfl := Zg hF
    refine ns ?_
    refine Exists.intro [] ?_
    refine st ?_
    exact wx (WS.mk (Zd (Zc9 (ZcG (WE.refl _) (ZcG (WE.refl _) (ZcG (WE.refl _) Zc7)))) Zb) Zc)
   ·refine nw ?_
    refine AWP.seq ?_
    obtain ⟨z46, ZGg, ZGh, ZEV, ZIb, hF⟩ := ZfS hF
    refine nn ?_
    refine s3 ZGg ZGh ZEV ?_
    rw [← ZIb]
    refine st ?_
    obtain rfl := Zg hF
    refine ns ?_
    refine Exists.intro [] ?_
    refine st ?_
    exact wx (WS.mk (Zd (Zc9 (ZcG (WE.refl _) (ZcG (WE.refl _) (ZcG (WE.refl _) Zc7)))) Zb) Zc)

def ZcW (s : ByteArray) : Option (ByteArray × Int × Bool) :=
 Za5 s (-1) 0
def ZcW.M (s : ByteArray) (r : ByteArray × Int × Bool) : Prop :=
 Zj Tryz.prog 58 [.c none (.v (.string s))] [] (fun d b => d = .tup [.c (.v (.string r.1)), .c (.v (.int .i64 r.2.1)), .c (.v (.bool r.2.2))] ∧ b = [])
theorem Zg2 (s : ByteArray) (r : ByteArray × Int × Bool) (hF : ZcW s = some r) : ZcW.M s r := by
 unfold ZcW at hF
 unfold ZcW.M
 refine en Tryz.func58 ?_
 refine AWP.seq ?_
 refine ns ?_
 refine AWP.seq ?_
 refine ns ?_
 refine AWP.seq ?_
 refine AWP.seq ?_
 refine ns ?_
 refine AWP.block ?_
 refine AWP.loop ?_
 refine AWL.weak (rn []) ?_ (Zme s (-1) 0 _ hF)
 exact (WS.mk (tc (tc (tc Zb))) Zc)

def Zds (base : ByteArray) (n : Int) : Option (ByteArray) :=
 ZcV base >>= fun r3 =>
 if ((!r3) || (decide (n < 0))) = true then
 some (ByteArray.mk #[])
 else
 Z5 (((base.size + (ByteArray.mk #[36]).size : Nat) : Int) ≤ IntKind.i64.max) >>= fun _ =>
 strconv_Itoa n >>= fun r7 =>
 Z5 ((((base ++ (ByteArray.mk #[36])).size + r7.size : Nat) : Int) ≤ IntKind.i64.max) >>= fun _ =>
 some ((base ++ (ByteArray.mk #[36])) ++ r7)
def Zds.M (base : ByteArray) (n : Int) (r : ByteArray) : Prop :=
 Zj Tryz.prog 91 [.c none (.v (.string base)), .c none (.v (.int .i64 n))] [] (fun d b => d = .c none (.v (.string r)) ∧ b = [])
theorem ZjQ (base : ByteArray) (n : Int) (r : ByteArray) (hF : Zds base n = some r) : Zds.M base n r := by
 unfold Zds at hF
 unfold Zds.M
 refine en Tryz.func91 ?_
 refine AWP.seq ?_
 refine ns ?_
 refine AWP.seq ?_
 refine AWP.seq ?_
 obtain ⟨r3, hr3, hF⟩ := bind_some hF
 refine AWP.cutN (fun T => ∃ r, WS r T ⟨[(0, .c none (.v (.string base))), (1, .c none (.v (.int .i64 n))), (11, .c none (.v (.bool ((!r3) || (decide (n < 0))))))], []⟩) ?_ (fun T hw => ?_)
 ·refine ns ?_
  refine e3 ?_
  refine st ?_
  refine cm (Zj.weak (rn []) (ZjE base _ hr3) rfl (WS.mk (tc Zb) Zc)) ?_
  refine st ?_
  refine Zm false (fun hc4 => ?_) (fun hc4 => ?_)
  ·(conv => whnf)
   refine st ?_
   exact wx (WS.mk (tc (tc (Zd (Zr (web hc4)) Zb))) Zc)
  ·(conv => whnf)
   refine st ?_
   exact wx (WS.mk (tc (tc (Zd (Zr (web hc4)) Zb))) Zc)
 obtain ⟨r0, hw⟩ := hw
 (conv => whnf)
 refine AWP.weak r0 hw ?_
 refine nw ?_
 refine Zi hF (fun hc5 hF => ?_) (fun hc5 hF => ?_)
 ·refine AWP.seq ?_
  refine ns ?_
  obtain rfl := Zg hF
  refine ns ?_
  refine Exists.intro [] ?_
  refine st ?_
  exact wx (WS.mk (tc Zb) Zc)
 ·refine nw ?_
  refine AWP.seq ?_
  obtain ⟨hg6, hF⟩ := Zy hF
  obtain ⟨r7, hr7, hF⟩ := bind_some hF
  obtain ⟨hg8, hF⟩ := Zy hF
  refine ns ?_
  refine And.intro hg6 ?_
  refine st ?_
  refine e3 ?_
  refine st ?_
  refine cm (Zj.weak (rn []) (ZlS n _ hr7) rfl (WS.mk (tc Zb) Zc)) ?_
  refine st ?_
  refine And.intro hg8 ?_
  refine st ?_
  obtain rfl := Zg hF
  refine ns ?_
  refine Exists.intro [] ?_
  refine st ?_
  exact wx (WS.mk (tc Zb) Zc)

mutual
def Zcg (t : Za) : Option (Int) :=
 Zcr 0 t 0 t.fKids
 partial_fixpoint
def Zcr (n_3 : Int) (t : Za) (x_9 : Nat) (ZaW : (List Za)) : Option (Int) :=
 (match ZaW with
 | x11 :: Zlo =>
 Zcg x11 >>= fun r14 =>
 Zcr (if r14 > n_3 then r14 else n_3) t (x_9 + 1) Zlo
 | [] =>
 some (IntKind.i64.wrap (n_3 + 1)))
 partial_fixpoint
end
def Zcg.M (t : Za) (r : Int) : Prop :=
 Zj Tryz.prog 77 [.agg [.v (.int .i64 t.fOp), .v (.string t.fName), .sl (t.fBound.fArgs.map Zk.cells), .sl (t.fKids.map Za.cells)]] [] (fun d b => d = .c none (.v (.int .i64 r)) ∧ b = [])
def Zcr.M (n_3 : Int) (t : Za) (x_9 : Nat) (ZaW : (List Za)) (r : Int) : Prop :=
 ∀ Zdw : List Za, t.fKids = Zdw ++ ZaW → x_9 = Zdw.length → t.fKids.length ≤ maxLen → AWL Tryz.prog 20 (Code.sub (Zq Tryz.f77) [1, 1, 0, 1, 0, 0]) (Code.cont Tryz.prog 20 (Zq Tryz.f77) [1, 1, 0, 1, 0] (ZbW tab Tryz.f77.results (ZbY (.c none (.v (.int .i64 r))) []))) ⟨[(3, .c none (.v (.int .i64 n_3))), (7, .c none (.sl (t.fKids.map Za.cells))), (8, .c none (.v (.int .i64 ((t.fKids.length : Nat) : Int)))), (9, .c none (.v (.int .i64 ((x_9 : Nat) : Int))))], []⟩
theorem ZlW : (∀ (t : Za), ∀ r, Zcg t = some r → Zcg.M t r) ∧ (∀ (n_3 : Int) (t : Za) (x_9 : Nat) (ZaW : (List Za)), ∀ r, Zcr n_3 t x_9 ZaW = some r → Zcr.M n_3 t x_9 ZaW r) := by
 refine Zcg.mutual_partial_correctness Zcg.M Zcr.M ?_ ?_
 ·intro types_Depth_l1' Zhp t r hF
  unfold Zcg.M
  refine en Tryz.func77 ?_
  refine AWP.seq ?_
  refine ns ?_
  refine AWP.seq ?_
  refine ns ?_
  refine AWP.seq ?_
  refine AWP.seq ?_
  refine ns ?_
  intro hlen1
  (try rw [List.length_map] at hlen1)
  (try rw [List.length_map])
  refine st ?_
  refine AWP.block ?_
  refine AWP.loop ?_
  refine AWL.weak (rn []) ?_ (Zhp 0 t 0 t.fKids _ hF ([]) rfl rfl hlen1)
  exact (WS.mk (tc (tc (tc (tc Zb)))) Zc)
 ·intro types_Depth' types_Depth_l1' Zq9 Zhp n_3 t x_9 ZaW r hF
  unfold Zcr.M
  intro Zdw ZhD ZhE hlen1
  refine AWL.step ?_
  refine AWP.seq ?_
  refine ns ?_
  refine AWP.seq ?_
  refine nw ?_
  refine ZN ZhD ZhE (fun x11 Zlo Zlz ZtP ZtL => ?_) (fun Zlz => ?_)
  ·subst Zlz
   refine nw ?_
   refine AWP.seq ?_
   refine AWP.block ?_
   refine AWP.seq ?_
   refine nn ?_
   refine sr (Zab (f := Za.cells) (Za.cells_eq x11) ZtP) ?_
   refine st ?_
   obtain ⟨r14, ZqH, hF⟩ := bind_some hF
   refine ns ?_
   refine e3 ?_
   refine st ?_
   refine cm (Zj.weak (rn []) (Zq9 x11 _ ZqH) rfl (WS.mk (Zd (Zt (lc (lc (lc (lc Zo))))) Zb) Zc)) ?_
   refine st ?_
   refine ns ?_
   refine AWL.weak (rn []) ?_ (Zhp (if r14 > n_3 then r14 else n_3) t (x_9 + 1) Zlo _ hF (Zdw ++ [x11]) (by rw [ZhD]; simp) (by rw [ZhE]; simp) hlen1)
   exact (WS.mk (tc (tc (tc (Zd (Zr (Zdf (ZV hlen1 ZtL))) Zb)))) Zc)
  ·subst Zlz
   refine nw ?_
   refine AWP.seq ?_
   refine ns ?_
   obtain rfl := Zg hF
   refine ns ?_
   refine Exists.intro [] ?_
   refine st ?_
   exact wx (WS.mk (tc Zb) Zc)
theorem Zmv : ∀ (t : Za), ∀ r, Zcg t = some r → Zcg.M t r := ZlW.1
theorem types_Depth_l1_ok : ∀ (n_3 : Int) (t : Za) (x_9 : Nat) (ZaW : (List Za)), ∀ r, Zcr n_3 t x_9 ZaW = some r → Zcr.M n_3 t x_9 ZaW r := ZlW.2

mutual
def ZcF (t : Za) : Option (Int) :=
 ZcU 1 t 0 t.fKids
 partial_fixpoint
def ZcU (n_3 : Int) (t : Za) (x_9 : Nat) (ZaW : (List Za)) : Option (Int) :=
 (match ZaW with
 | x11 :: Zlo =>
 ZcF x11 >>= fun r14 =>
 ZcU (IntKind.i64.wrap (n_3 + r14)) t (x_9 + 1) Zlo
 | [] =>
 some n_3)
 partial_fixpoint
end
def ZcF.M (t : Za) (r : Int) : Prop :=
 Zj Tryz.prog 74 [.agg [.v (.int .i64 t.fOp), .v (.string t.fName), .sl (t.fBound.fArgs.map Zk.cells), .sl (t.fKids.map Za.cells)]] [] (fun d b => d = .c none (.v (.int .i64 r)) ∧ b = [])
def ZcU.M (n_3 : Int) (t : Za) (x_9 : Nat) (ZaW : (List Za)) (r : Int) : Prop :=
 ∀ Zdw : List Za, t.fKids = Zdw ++ ZaW → x_9 = Zdw.length → t.fKids.length ≤ maxLen → AWL Tryz.prog 19 (Code.sub (Zq Tryz.f74) [1, 1, 0, 1, 0, 0]) (Code.cont Tryz.prog 19 (Zq Tryz.f74) [1, 1, 0, 1, 0] (ZbW tab Tryz.f74.results (ZbY (.c none (.v (.int .i64 r))) []))) ⟨[(3, .c none (.v (.int .i64 n_3))), (7, .c none (.sl (t.fKids.map Za.cells))), (8, .c none (.v (.int .i64 ((t.fKids.length : Nat) : Int)))), (9, .c none (.v (.int .i64 ((x_9 : Nat) : Int))))], []⟩
theorem ZmA : (∀ (t : Za), ∀ r, ZcF t = some r → ZcF.M t r) ∧ (∀ (n_3 : Int) (t : Za) (x_9 : Nat) (ZaW : (List Za)), ∀ r, ZcU n_3 t x_9 ZaW = some r → ZcU.M n_3 t x_9 ZaW r) := by
 refine ZcF.mutual_partial_correctness ZcF.M ZcU.M ?_ ?_
 ·intro types_Size_l1' Zh9 t r hF
  unfold ZcF.M
  refine en Tryz.func74 ?_
  refine AWP.seq ?_
  refine ns ?_
  refine AWP.seq ?_
  refine ns ?_
  refine AWP.seq ?_
  refine AWP.seq ?_
  refine ns ?_
  intro hlen1
  (try rw [List.length_map] at hlen1)
  (try rw [List.length_map])
  refine st ?_
  refine AWP.block ?_
  refine AWP.loop ?_
  refine AWL.weak (rn []) ?_ (Zh9 1 t 0 t.fKids _ hF ([]) rfl rfl hlen1)
  exact (WS.mk (tc (tc (tc (tc Zb)))) Zc)
 ·intro types_Size' types_Size_l1' Zsd Zh9 n_3 t x_9 ZaW r hF
  unfold ZcU.M
  intro Zdw ZhD ZhE hlen1
  refine AWL.step ?_
  refine AWP.seq ?_
  refine ns ?_
  refine AWP.seq ?_
  refine nw ?_
  refine ZN ZhD ZhE (fun x11 Zlo Zlz ZtP ZtL => ?_) (fun Zlz => ?_)
  ·subst Zlz
   refine nw ?_
   refine AWP.seq ?_
   refine AWP.block ?_
   refine AWP.seq ?_
   refine nn ?_
   refine sr (Zab (f := Za.cells) (Za.cells_eq x11) ZtP) ?_
   refine st ?_
   obtain ⟨r14, ZqH, hF⟩ := bind_some hF
   refine ns ?_
   refine e3 ?_
   refine st ?_
   refine cm (Zj.weak (rn []) (Zsd x11 _ ZqH) rfl (WS.mk (Zd (Zt (lc (lc (lc (lc Zo))))) Zb) Zc)) ?_
   refine st ?_
   refine ns ?_
   refine AWL.weak (rn []) ?_ (Zh9 (IntKind.i64.wrap (n_3 + r14)) t (x_9 + 1) Zlo _ hF (Zdw ++ [x11]) (by rw [ZhD]; simp) (by rw [ZhE]; simp) hlen1)
   exact (WS.mk (tc (tc (tc (Zd (Zr (Zdf (ZV hlen1 ZtL))) Zb)))) Zc)
  ·subst Zlz
   refine nw ?_
   refine AWP.seq ?_
   refine ns ?_
   obtain rfl := Zg hF
   refine ns ?_
   refine Exists.intro [] ?_
   refine st ?_
   exact wx (WS.mk (tc Zb) Zc)
theorem ZnV : ∀ (t : Za), ∀ r, ZcF t = some r → ZcF.M t r := ZmA.1
theorem types_Size_l1_ok : ∀ (n_3 : Int) (t : Za) (x_9 : Nat) (ZaW : (List Za)), ∀ r, ZcU n_3 t x_9 ZaW = some r → ZcU.M n_3 t x_9 ZaW r := ZmA.2

def Zcb (z18 : ByteArray) (Zf0 : Nat) : Option (Bool) :=
 if (decide (Zf0 < z18.size)) = true then
 if ((((Utf8.decode z18 Zf0).1 : Nat) : Int) != 44) = true then
 some false
 else
 Zcb z18 (Zf0 + (Utf8.decode z18 Zf0).2)
 else
 some true
 partial_fixpoint
def Zcb.M (z18 : ByteArray) (Zf0 : Nat) (r : Bool) : Prop :=
 AWL Tryz.prog 46 (Code.sub (Zq Tryz.f102) [1, 1, 1, 1, 0, 1, 0, 0]) (Code.cont Tryz.prog 46 (Zq Tryz.f102) [1, 1, 1, 1, 0, 1, 0] (ZbW tab Tryz.f102.results (ZbY (.c none (.v (.bool r))) []))) ⟨[(40, .ptr 40 0)], [(40, [(none, ZsL z18 ((Zf0 : Nat) : Int))])]⟩
theorem ZnF (z18 : ByteArray) (Zf0 : Nat) : ∀ r, Zcb z18 Zf0 = some r → Zcb.M z18 Zf0 r := by
 refine Zcb.partial_correctness z18 (fun Zf0 r => Zcb.M z18 Zf0 r) ?_ Zf0
 intro types_builtin_l1' ZiF Zf0 r hF
 have Znz := fun (_z18 : ByteArray) (Zf0 : Nat) => ZiF Zf0
 clear ZiF
 unfold Zcb.M
 refine AWL.step ?_
 refine AWP.seq ?_
 refine nn ?_
 (repeat ((conv => whnf); (with_reducible refine And.intro ?_ ?_); (focus (first | (with_reducible exact ZAD) | exact Eq.refl _ | exact Nat.le_of_ble_eq_true (Eq.refl true) | decide)))); (conv => whnf)
 refine Zi hF (fun ZCO hF => ?_) (fun ZCO hF => ?_)
 ·refine st ?_
  refine AWP.seq ?_
  refine nw ?_
  refine nw ?_
  refine AWP.block ?_
  refine AWP.seq ?_
  refine ns ?_
  refine AWP.seq ?_
  refine ns ?_
  refine nw ?_
  refine Zi hF (fun Ztk hF => ?_) (fun Ztk hF => ?_)
  ·refine AWP.seq ?_
   refine ns ?_
   obtain rfl := Zg hF
   refine ns ?_
   refine Exists.intro [] ?_
   refine st ?_
   exact wx (WS.mk (tc Zb) Zc)
  ·refine nw ?_
   refine AWL.weak (rn []) ?_ (Znz z18 (Zf0 + (Utf8.decode z18 Zf0).2) _ hF)
   exact (WS.mk (tp Zb) (Zf rfl (cc Zh) Zc))
 ·refine st ?_
  refine AWP.seq ?_
  refine nw ?_
  refine nw ?_
  refine AWP.seq ?_
  refine ns ?_
  obtain rfl := Zg hF
  refine ns ?_
  refine Exists.intro [] ?_
  refine st ?_
  exact wx (WS.mk (tc Zb) Zc)

def Zem (s : ByteArray) : Option (Bool) :=
 if (((s.toList == (ByteArray.mk #[45, 62]).toList) || (s.toList == (ByteArray.mk #[91, 93]).toList)) || (s.toList == (ByteArray.mk #[40, 41]).toList)) = true then
 some true
 else
 (if ((decide (((s.size : Nat) : Int) < 3)) || (decide (((s.size : Nat) : Int) > 8))) = true then some true else (btI s 0) >>= fun y10 =>
 some (((y10.toNat : Nat) : Int) != 40)) >>= fun c11 =>
 (if c11 = true then some true else (btI s (IntKind.i64.wrap (((s.size : Nat) : Int) - 1))) >>= fun y12 =>
 some (((y12.toNat : Nat) : Int) != 41)) >>= fun c13 =>
 if c13 = true then
 some false
 else
 (slS s 1 (IntKind.i64.wrap (((s.size : Nat) : Int) - 1))) >>= fun z18 =>
 Zcb z18 0
def Zem.M (s : ByteArray) (r : Bool) : Prop :=
 Zj Tryz.prog 102 [.c none (.v (.string s))] [] (fun d b => d = .c none (.v (.bool r)) ∧ b = [])
theorem ZpL (s : ByteArray) (r : Bool) (hF : Zem s = some r) : Zem.M s r := by
 unfold Zem at hF
 unfold Zem.M
 refine en Tryz.func102 ?_
 refine AWP.seq ?_
 refine ns ?_
 refine AWP.seq ?_
 refine AWP.seq ?_
 refine AWP.cutN (fun T => ∃ r, WS r T ⟨[(0, .c none (.v (.string s))), (15, .c none (.v (.bool (((s.toList == (ByteArray.mk #[45, 62]).toList) || (s.toList == (ByteArray.mk #[91, 93]).toList)) || (s.toList == (ByteArray.mk #[40, 41]).toList)))))], []⟩) ?_ (fun T hw => ?_)
 ·refine ns ?_
  refine Zm false (fun hc2 => ?_) (fun hc2 => ?_)
  ·(conv => whnf)
   refine st ?_
   exact wx (WS.mk (tc (Zd (Zr (web hc2)) Zb)) Zc)
  ·(conv => whnf)
   refine st ?_
   refine Zm false (fun hc3 => ?_) (fun hc3 => ?_)
   ·(conv => whnf)
    refine st ?_
    exact wx (WS.mk (tc (Zd (Zr (web (And.intro hc2 hc3))) Zb)) Zc)
   ·(conv => whnf)
    refine st ?_
    exact wx (WS.mk (tc (Zd (Zr (web (And.intro hc2 hc3))) Zb)) Zc)
 obtain ⟨r0, hw⟩ := hw
 (conv => whnf)
 refine AWP.weak r0 hw ?_
 refine nw ?_
 refine Zi hF (fun hc4 hF => ?_) (fun hc4 hF => ?_)
 ·refine AWP.seq ?_
  refine ns ?_
  obtain rfl := Zg hF
  refine ns ?_
  refine Exists.intro [] ?_
  refine st ?_
  exact wx (WS.mk (tc Zb) Zc)
 ·refine nw ?_
  refine AWP.seq ?_
  refine ns ?_
  refine AWP.seq ?_
  refine AWP.seq ?_
  obtain ⟨c11, ZcS, hF⟩ := bind_some hF
  obtain ⟨c13, ZbE, hF⟩ := bind_some hF
  refine AWP.cutN (fun T => ∃ r, WS r T ⟨[(0, .c none (.v (.string s))), (3, .c none (.v (.int .i64 ((s.size : Nat) : Int)))), (35, .c none (.v (.bool c13)))], []⟩) ?_ (fun T hw => ?_)
  ·refine ns ?_
   refine Zm false (fun Zdl => ?_) (fun Zdl => ?_)
   ·(conv => whnf)
    have ZcS := ift Zdl ZcS
    obtain rfl := Zg ZcS
    have ZbE := ift Zdl ZbE
    obtain rfl := Zg ZbE
    refine st ?_
    exact wx (WS.mk (tc (tc (Zd (Zr (web Zdl)) Zb))) Zc)
   ·(conv => whnf)
    refine st ?_
    refine Zm false (fun Zfg => ?_) (fun Zfg => ?_)
    ·have ZcS := ift (And.intro Zdl Zfg) ZcS
     (conv => whnf)
     obtain rfl := Zg ZcS
     have ZbE := ift (And.intro Zdl Zfg) ZbE
     obtain rfl := Zg ZbE
     refine st ?_
     exact wx (WS.mk (tc (tc (Zd (Zr (web (And.intro Zdl Zfg))) Zb))) Zc)
    ·have ZcS := ife (And.intro Zdl Zfg) ZcS
     obtain ⟨y10, ZGs, ZCU, ZcS⟩ := Zc4 ZcS
     (conv => whnf)
     refine sr ZCU ?_
     obtain rfl := Zg ZcS
     refine st ?_
     refine Zm false (fun Zgs => ?_) (fun Zgs => ?_)
     ·have ZbE := ift (And.intro Zdl (And.intro Zfg Zgs)) ZbE
      (conv => whnf)
      obtain rfl := Zg ZbE
      refine st ?_
      exact wx (WS.mk (tc (tc (Zd (Zr (web (And.intro Zdl (And.intro Zfg Zgs)))) Zb))) Zc)
     ·have ZbE := ife (And.intro Zdl (And.intro Zfg Zgs)) ZbE
      obtain ⟨y12, ZFj, ZEl, ZbE⟩ := Zc4 ZbE
      (conv => whnf)
      refine sr ZEl ?_
      obtain rfl := Zg ZbE
      refine st ?_
      exact wx (WS.mk (tc (tc (Zd (Zr (web (And.intro Zdl (And.intro Zfg Zgs)))) Zb))) Zc)
  obtain ⟨r0, hw⟩ := hw
  (conv => whnf)
  refine AWP.weak r0 hw ?_
  refine nw ?_
  refine Zi hF (fun ZiR hF => ?_) (fun ZiR hF => ?_)
  ·refine AWP.seq ?_
   refine ns ?_
   obtain rfl := Zg hF
   refine ns ?_
   refine Exists.intro [] ?_
   refine st ?_
   exact wx (WS.mk (tc Zb) Zc)
  ·refine nw ?_
   refine AWP.seq ?_
   refine AWP.seq ?_
   obtain ⟨z18, ZF0, ZFs, ZEA, ZIr, hF⟩ := ZfS hF
   refine nn ?_
   refine s3 ZF0 ZFs ZEA ?_
   rw [← ZIr]
   (repeat ((conv => whnf); (with_reducible refine And.intro ?_ ?_); (focus (first | (with_reducible exact ZAD) | exact Eq.refl _ | exact Nat.le_of_ble_eq_true (Eq.refl true) | decide)))); (conv => whnf)
   refine st ?_
   refine AWP.block ?_
   refine AWP.loop ?_
   refine AWL.weak (rn []) ?_ (ZnF z18 0 _ hF)
   exact (WS.mk (tp Zb) (Zf rfl (cc Zh) Zc))

def Zc3 (s_0 : ByteArray) : Option (Bool) :=
 Zdn s_0 >>= fun r5 =>
 some ((r5 == 2) || (r5 == 4))
def Zc3.M (s_0 : ByteArray) (r : Bool) : Prop :=
 AWP Tryz.prog 34 (Code.sub (Zq Tryz.f103) [1, 1, 1]) (Code.cont Tryz.prog 34 (Zq Tryz.f103) [1, 1, 1] (ZbW tab Tryz.f103.results (ZbY (.c none (.v (.bool r))) []))) ⟨[(0, .c none (.v (.string s_0)))], []⟩
theorem ZiS (s_0 : ByteArray) (r : Bool) (hF : Zc3 s_0 = some r) : Zc3.M s_0 r := by
 unfold Zc3 at hF
 unfold Zc3.M
 refine AWP.seq ?_
 obtain ⟨r5, hr5, hF⟩ := bind_some hF
 refine ns ?_
 refine e3 ?_
 refine st ?_
 refine cm (Zj.weak (rn []) (ZhK s_0 _ hr5) rfl (WS.mk (tc Zb) Zc)) ?_
 refine st ?_
 refine AWP.seq ?_
 refine AWP.cutN (fun T => ∃ r, WS r T ⟨[(2, .c none (.v (.bool ((r5 == 2) || (r5 == 4)))))], []⟩) ?_ (fun T hw => ?_)
 ·refine ns ?_
  refine Zm false (fun hc6 => ?_) (fun hc6 => ?_)
  ·(conv => whnf)
   refine st ?_
   exact wx (WS.mk (Zd (Zr (web hc6)) Zb) Zc)
  ·(conv => whnf)
   refine st ?_
   exact wx (WS.mk (Zd (Zr (web hc6)) Zb) Zc)
 obtain ⟨r0, hw⟩ := hw
 (conv => whnf)
 refine AWP.weak r0 hw ?_
 obtain rfl := Zg hF
 refine ns ?_
 refine Exists.intro [] ?_
 refine st ?_
 exact wx (WS.mk (tc Zb) Zc)

def ZcX (s_0 : ByteArray) : Option (Bool) :=
 ZeV s_0 >>= fun r7 =>
 if r7.2.2 = true then
 Zc3 r7.2.1
 else
 Zc3 s_0
def ZcX.M (s_0 : ByteArray) (r : Bool) : Prop :=
 AWP Tryz.prog 34 (Code.sub (Zq Tryz.f103) [1, 1]) (Code.cont Tryz.prog 34 (Zq Tryz.f103) [1, 1] (ZbW tab Tryz.f103.results (ZbY (.c none (.v (.bool r))) []))) ⟨[(0, .c none (.v (.string s_0)))], []⟩
theorem ZiU (s_0 : ByteArray) (r : Bool) (hF : ZcX s_0 = some r) : ZcX.M s_0 r := by
 unfold ZcX at hF
 unfold ZcX.M
 refine AWP.seq ?_
 refine AWP.seq ?_
 obtain ⟨r7, hr7, hF⟩ := bind_some hF
 refine ns ?_
 refine e3 ?_
 refine st ?_
 refine cm (Zj.weak (rn []) (Zmp s_0 _ hr7) rfl (WS.mk (tc Zb) Zc)) ?_
 refine st ?_
 refine AWP.seq ?_
 refine ns ?_
 refine nw ?_
 refine Zi hF (fun hc8 hF => ?_) (fun hc8 hF => ?_)
 ·refine ns ?_
  refine AWP.weak (rn []) ?_ (ZiS r7.2.1 _ hF)
  exact (WS.mk (tc Zb) Zc)
 ·refine nw ?_
  refine AWP.weak (rn []) ?_ (ZiS s_0 _ hF)
  exact (WS.mk (tc Zb) Zc)

def Zeo (s : ByteArray) : Option (Bool) :=
 Ze1 s >>= fun r9 =>
 if r9.2.2 = true then
 ZcX r9.1
 else
 ZcX s
def Zeo.M (s : ByteArray) (r : Bool) : Prop :=
 Zj Tryz.prog 103 [.c none (.v (.string s))] [] (fun d b => d = .c none (.v (.bool r)) ∧ b = [])
theorem ZpJ (s : ByteArray) (r : Bool) (hF : Zeo s = some r) : Zeo.M s r := by
 unfold Zeo at hF
 unfold Zeo.M
 refine en Tryz.func103 ?_
 refine AWP.seq ?_
 refine ns ?_
 refine AWP.seq ?_
 refine AWP.seq ?_
 obtain ⟨r9, hr9, hF⟩ := bind_some hF
 refine ns ?_
 refine e3 ?_
 refine st ?_
 refine cm (Zj.weak (rn []) (Zkn s _ hr9) rfl (WS.mk (tc Zb) Zc)) ?_
 refine st ?_
 refine AWP.seq ?_
 refine ns ?_
 refine nw ?_
 refine Zi hF (fun Zdt hF => ?_) (fun Zdt hF => ?_)
 ·refine ns ?_
  refine AWP.weak (rn []) ?_ (ZiU r9.1 _ hF)
  exact (WS.mk (tc Zb) Zc)
 ·refine nw ?_
  refine AWP.weak (rn []) ?_ (ZiU s _ hF)
  exact (WS.mk (tc Zb) Zc)

def Za9 (s : ByteArray) : Option (Bool) :=
 Ze1 s >>= fun r4 =>
 if r4.2.2 = true then
 Zdn r4.1 >>= fun r6 =>
 some (r6 == 1)
 else
 Zdn s >>= fun r7 =>
 some ((r7 == 1) && (!(s.toList == (ByteArray.mk #[102, 111, 114, 97, 108, 108]).toList)))
def Za9.M (s : ByteArray) (r : Bool) : Prop :=
 Zj Tryz.prog 68 [.c none (.v (.string s))] [] (fun d b => d = .c none (.v (.bool r)) ∧ b = [])
theorem ZfD (s : ByteArray) (r : Bool) (hF : Za9 s = some r) : Za9.M s r := by
 unfold Za9 at hF
 unfold Za9.M
 refine en Tryz.func68 ?_
 refine AWP.seq ?_
 refine ns ?_
 refine AWP.seq ?_
 refine AWP.seq ?_
 obtain ⟨r4, hr4, hF⟩ := bind_some hF
 refine ns ?_
 refine e3 ?_
 refine st ?_
 refine cm (Zj.weak (rn []) (Zkn s _ hr4) rfl (WS.mk (tc Zb) Zc)) ?_
 refine st ?_
 refine AWP.seq ?_
 refine ns ?_
 refine nw ?_
 refine Zi hF (fun hc5 hF => ?_) (fun hc5 hF => ?_)
 ·refine AWP.seq ?_
  obtain ⟨r6, hr6, hF⟩ := bind_some hF
  refine ns ?_
  refine e3 ?_
  refine st ?_
  refine cm (Zj.weak (rn []) (ZhK r4.1 _ hr6) rfl (WS.mk (tc Zb) Zc)) ?_
  refine st ?_
  obtain rfl := Zg hF
  refine ns ?_
  refine Exists.intro [] ?_
  refine st ?_
  exact wx (WS.mk (tc Zb) Zc)
 ·refine nw ?_
  refine AWP.seq ?_
  obtain ⟨r7, hr7, hF⟩ := bind_some hF
  refine AWP.cutN (fun T => ∃ r, WS r T ⟨[(2, .c none (.v (.bool ((r7 == 1) && (!(s.toList == (ByteArray.mk #[102, 111, 114, 97, 108, 108]).toList))))))], []⟩) ?_ (fun T hw => ?_)
  ·refine ns ?_
   refine e3 ?_
   refine st ?_
   refine cm (Zj.weak (rn []) (ZhK s _ hr7) rfl (WS.mk (tc Zb) Zc)) ?_
   refine st ?_
   refine Zm true (fun hc8 => ?_) (fun hc8 => ?_)
   ·(conv => whnf)
    refine st ?_
    exact wx (WS.mk (Zd (Zr (web hc8)) Zb) Zc)
   ·(conv => whnf)
    refine st ?_
    exact wx (WS.mk (Zd (Zr (web hc8)) Zb) Zc)
  obtain ⟨r0, hw⟩ := hw
  (conv => whnf)
  refine AWP.weak r0 hw ?_
  obtain rfl := Zg hF
  refine ns ?_
  refine Exists.intro [] ?_
  refine st ?_
  exact wx (WS.mk (tc Zb) Zc)

def ZdL (t : Za) (Zlj : Bool) : Option (Bool) :=
 if Zlj = true then
 Za9 t.fName >>= fun r21 =>
 some r21
 else
 if (t.fOp == 2) = true then
 Zem t.fName >>= fun r23 =>
 (if r23 = true then some true else Zeo t.fName >>= fun r24 =>
 some r24) >>= fun c25 =>
 some c25
 else
 some (t.fOp == 3)
def ZdL.M (t : Za) (Zlj : Bool) (r : Bool) : Prop :=
 AWP Tryz.prog 60 (Code.sub (Zq Tryz.f73) [1, 1, 1, 1, 0, 1, 0, 1]) (Code.cont Tryz.prog 60 (Zq Tryz.f73) [1, 1, 1, 1, 0, 1, 0, 1] (ZbW tab Tryz.f73.results (ZbY (.c none (.v (.bool r))) []))) ⟨[(1, .ptr 1 0), (40, .c none (.v (.int .i64 t.fOp))), (41, .c none (.v (.bool Zlj)))], [(1, [(none, .v (.int .i64 t.fOp)), (none, .v (.string t.fName)), (none, .sl (t.fBound.fArgs.map Zk.cells)), (none, .sl (t.fKids.map Za.cells))])]⟩
theorem Zjs (t : Za) (Zlj : Bool) (r : Bool) (hF : ZdL t Zlj = some r) : ZdL.M t Zlj r := by
 unfold ZdL at hF
 unfold ZdL.M
 refine nw ?_
 refine Zi hF (fun ZDW hF => ?_) (fun ZDW hF => ?_)
 ·refine AWP.seq ?_
  obtain ⟨r21, ZCZ, hF⟩ := bind_some hF
  refine ns ?_
  refine e3 ?_
  refine st ?_
  refine cm (Zj.weak (rn []) (ZfD t.fName _ ZCZ) rfl (WS.mk (tc Zb) Zc)) ?_
  refine st ?_
  obtain rfl := Zg hF
  refine ns ?_
  refine Exists.intro [] ?_
  refine st ?_
  exact wx (WS.mk (tc Zb) Zc)
 ·refine AWP.seq ?_
  refine ns ?_
  refine nw ?_
  refine Zi hF (fun Ztk hF => ?_) (fun Ztk hF => ?_)
  ·refine AWP.seq ?_
   obtain ⟨r23, Zz1, hF⟩ := bind_some hF
   obtain ⟨c25, ZjV, hF⟩ := bind_some hF
   refine AWP.cutN (fun T => ∃ r, WS r T ⟨[(2, .c none (.v (.bool c25)))], []⟩) ?_ (fun T hw => ?_)
   ·refine ns ?_
    refine e3 ?_
    refine st ?_
    refine cm (Zj.weak (rn []) (ZpL t.fName _ Zz1) rfl (WS.mk (tc Zb) Zc)) ?_
    refine st ?_
    refine Zm false (fun ZlJ => ?_) (fun ZlJ => ?_)
    ·have ZjV := ift ZlJ ZjV
     (conv => whnf)
     obtain rfl := Zg ZjV
     refine st ?_
     exact wx (WS.mk (Zd (Zr (web ZlJ)) Zb) Zc)
    ·have ZjV := ife ZlJ ZjV
     obtain ⟨r24, ZDl, ZjV⟩ := bind_some ZjV
     (conv => whnf)
     refine st ?_
     refine e3 ?_
     refine st ?_
     refine cm (Zj.weak (rn []) (ZpJ t.fName _ ZDl) rfl (WS.mk (tc Zb) Zc)) ?_
     refine st ?_
     obtain rfl := Zg ZjV
     refine st ?_
     exact wx (WS.mk (Zd (Zr (web ZlJ)) Zb) Zc)
   obtain ⟨r0, hw⟩ := hw
   (conv => whnf)
   refine AWP.weak r0 hw ?_
   obtain rfl := Zg hF
   refine ns ?_
   refine Exists.intro [] ?_
   refine st ?_
   exact wx (WS.mk (tc Zb) Zc)
  ·refine nw ?_
   refine AWP.seq ?_
   refine ns ?_
   obtain rfl := Zg hF
   refine ns ?_
   refine Exists.intro [] ?_
   refine st ?_
   exact wx (WS.mk (tc Zb) Zc)

mutual
def Zb2 (t : Za) : Option (Bool) :=
 if (((t.fOp != 4) && (decide (((t.fBound.fArgs.length : Nat) : Int) > 0))) || ((t.fOp == 3) && (!(t.fName.toList == (ByteArray.mk #[]).toList)))) = true then
 some false
 else
 ZeS (ZhW (ZhW ([] : List (Int × Int)) 3 2) 4 1) 0 t.fOp >>= fun r9 =>
 (if (((t.fKids.length : Nat) : Int) != r9.1) = true then some true else ZF t.fKids >>= fun r15 =>
 some r15) >>= fun c16 =>
 if c16 = true then
 some false
 else
 if (t.fOp == 1) = true then
 ZdL t (t.fOp == 1)
 else
 ZdL t (t.fOp == 4)
 partial_fixpoint
def ZF (s : (List Za)) : Option (Bool) :=
 ZX s >>= fun r1 =>
 some (decide (r1 ≥ 0))
 partial_fixpoint
def ZX (s : (List Za)) : Option (Int) :=
 Zz s 0 s
 partial_fixpoint
def Zz (s : (List Za)) (x_8 : Nat) (Zbz : (List Za)) : Option (Int) :=
 (match Zbz with
 | x13 :: Zrp =>
 Zdj x13 >>= fun r16 =>
 if r16 = true then
 some ((x_8 : Nat) : Int)
 else
 Zz s (x_8 + 1) Zrp
 | [] =>
 some (-1))
 partial_fixpoint
def Zdj (k : Za) : Option (Bool) :=
 Zb2 k >>= fun r1 =>
 some (!r1)
 partial_fixpoint
end
def Zb2.M (t : Za) (r : Bool) : Prop :=
 Zj Tryz.prog 73 [.agg [.v (.int .i64 t.fOp), .v (.string t.fName), .sl (t.fBound.fArgs.map Zk.cells), .sl (t.fKids.map Za.cells)]] [] (fun d b => d = .c none (.v (.bool r)) ∧ b = [])
def ZF.M (s : (List Za)) (r : Bool) : Prop :=
 Zj Tryz.prog 79 [.c none (.sl (s.map Za.cells)), .c none (.v (.func (.func 101) #[] #[]))] [] (fun d b => d = .c none (.v (.bool r)) ∧ b = [])
def ZX.M (s : (List Za)) (r : Int) : Prop :=
 Zj Tryz.prog 104 [.c none (.sl (s.map Za.cells)), .c none (.v (.func (.func 101) #[] #[]))] [] (fun d b => d = .c none (.v (.int .i64 r)) ∧ b = [])
def Zz.M (s : (List Za)) (x_8 : Nat) (Zbz : (List Za)) (r : Int) : Prop :=
 ∀ Zej : List Za, s = Zej ++ Zbz → x_8 = Zej.length → s.length ≤ maxLen → AWL Tryz.prog 19 (Code.sub (Zq Tryz.f104) [1, 0, 1, 0, 0]) (Code.cont Tryz.prog 19 (Zq Tryz.f104) [1, 0, 1, 0] (ZbW tab Tryz.f104.results (ZbY (.c none (.v (.int .i64 r))) []))) ⟨[(0, .c none (.sl (s.map Za.cells))), (1, .c none (.v (.func (.func 101) #[] #[]))), (7, .c none (.v (.int .i64 ((s.length : Nat) : Int)))), (8, .c none (.v (.int .i64 ((x_8 : Nat) : Int))))], []⟩
def Zdj.M (k : Za) (r : Bool) : Prop :=
 Zj Tryz.prog 101 [.agg [.v (.int .i64 k.fOp), .v (.string k.fName), .sl (k.fBound.fArgs.map Zk.cells), .sl (k.fKids.map Za.cells)]] [] (fun d b => d = .c none (.v (.bool r)) ∧ b = [])
theorem Zfc : (∀ (t : Za), ∀ r, Zb2 t = some r → Zb2.M t r) ∧ (∀ (s : (List Za)), ∀ r, ZF s = some r → ZF.M s r) ∧ (∀ (s : (List Za)), ∀ r, ZX s = some r → ZX.M s r) ∧ (∀ (s : (List Za)) (x_8 : Nat) (Zbz : (List Za)), ∀ r, Zz s x_8 Zbz = some r → Zz.M s x_8 Zbz r) ∧ (∀ (k : Za), ∀ r, Zdj k = some r → Zdj.M k r) := by
 refine Zb2.mutual_partial_correctness Zb2.M ZF.M ZX.M Zz.M Zdj.M ?_ ?_ ?_ ?_ ?_
 ·intro slices_ContainsFunc_Type_types_formed_1' Zfu t r hF
  unfold Zb2.M
  refine en Tryz.func73 ?_
  refine AWP.seq ?_
  refine ns ?_
  refine AWP.seq ?_
  refine AWP.seq ?_
  refine AWP.cutN (fun T => ∃ r, WS r T ⟨[(1, .ptr 1 0), (23, .c none (.v (.bool (((t.fOp != 4) && (decide (((t.fBound.fArgs.length : Nat) : Int) > 0))) || ((t.fOp == 3) && (!(t.fName.toList == (ByteArray.mk #[]).toList)))))))], [(1, [(none, .v (.int .i64 t.fOp)), (none, .v (.string t.fName)), (none, .sl (t.fBound.fArgs.map Zk.cells)), (none, .sl (t.fKids.map Za.cells))])]⟩) ?_ (fun T hw => ?_)
  ·refine ns ?_
   refine Zm true (fun hc4 => ?_) (fun hc4 => ?_)
   ·(conv => whnf)
    refine st ?_
    intro hlen3
    (try rw [List.length_map] at hlen3)
    (try rw [List.length_map])
    refine st ?_
    refine Zm false (fun hc5 => ?_) (fun hc5 => ?_)
    ·(conv => whnf)
     refine st ?_
     exact wx (WS.mk (tp (Zd (Zr (web (And.intro hc4 hc5))) Zb)) (Zf rfl (cc (cc (cc (cc Zh)))) Zc))
    ·(conv => whnf)
     refine st ?_
     refine Zm true (fun hc6 => ?_) (fun hc6 => ?_)
     ·(conv => whnf)
      refine st ?_
      exact wx (WS.mk (tp (Zd (Zr (web (And.intro hc4 (And.intro hc5 hc6)))) Zb)) (Zf rfl (cc (cc (cc (cc Zh)))) Zc))
     ·(conv => whnf)
      refine st ?_
      exact wx (WS.mk (tp (Zd (Zr (web (And.intro hc4 (And.intro hc5 hc6)))) Zb)) (Zf rfl (cc (cc (cc (cc Zh)))) Zc))
   ·(conv => whnf)
    refine st ?_
    refine Zm true (fun hc7 => ?_) (fun hc7 => ?_)
    ·(conv => whnf)
     refine st ?_
     exact wx (WS.mk (tp (Zd (Zr (web (And.intro hc4 hc7))) Zb)) (Zf rfl (cc (cc (cc (cc Zh)))) Zc))
    ·(conv => whnf)
     refine st ?_
     exact wx (WS.mk (tp (Zd (Zr (web (And.intro hc4 hc7))) Zb)) (Zf rfl (cc (cc (cc (cc Zh)))) Zc))
  obtain ⟨r0, hw⟩ := hw
  (conv => whnf)
  refine AWP.weak r0 hw ?_
  refine nw ?_
  refine Zi hF (fun hc8 hF => ?_) (fun hc8 hF => ?_)
  ·refine AWP.seq ?_
   refine ns ?_
   obtain rfl := Zg hF
   refine ns ?_
   refine Exists.intro [] ?_
   refine st ?_
   exact wx (WS.mk (tc Zb) Zc)
  ·refine nw ?_
   refine AWP.seq ?_
   obtain ⟨r9, hr9, hF⟩ := bind_some hF
   refine ns ?_
   refine Zo3 (m := ([] : List (Int × Int))) (k := 3) (v := 2) Zm2 (ev := Zcv) (lc Zo) ?_
   refine st ?_
   refine Zo3 (m := (ZhW ([] : List (Int × Int)) 3 2)) (k := 4) (v := 1) Zm2 (ev := Zcv) (lc Zo) ?_
   refine st ?_
   refine ZhG (m := (ZhW (ZhW ([] : List (Int × Int)) 3 2) 4 1)) (k := t.fOp) Zm2 (ev := Zcv) hr9 rfl (fun x => Zne x) rfl rfl (lc Zo) ?_
   refine st ?_
   refine AWP.seq ?_
   refine AWP.seq ?_
   obtain ⟨c16, Zgs, hF⟩ := bind_some hF
   refine AWP.cutN (fun T => ∃ r, WS r T ⟨[(1, .ptr 1 0), (38, .c none (.v (.bool c16)))], [(1, [(none, .v (.int .i64 t.fOp)), (none, .v (.string t.fName)), (none, .sl (t.fBound.fArgs.map Zk.cells)), (none, .sl (t.fKids.map Za.cells))])]⟩) ?_ (fun T hw => ?_)
   ·refine ns ?_
    intro hlen14
    (try rw [List.length_map] at hlen14)
    (try rw [List.length_map])
    refine st ?_
    refine Zm false (fun ZiR => ?_) (fun ZiR => ?_)
    ·have Zgs := ift ZiR Zgs
     (conv => whnf)
     obtain rfl := Zg Zgs
     refine st ?_
     exact wx (WS.mk (tp (Zd (Zr (web ZiR)) Zb)) (Zf rfl (cc (cc (cc (cc Zh)))) Zc))
    ·have Zgs := ife ZiR Zgs
     obtain ⟨r15, Zv2, Zgs⟩ := bind_some Zgs
     (conv => whnf)
     refine st ?_
     refine e3 ?_
     refine st ?_
     refine cm (Zj.weak (rn []) (Zfu t.fKids _ Zv2) rfl (WS.mk (tc (tc Zb)) Zc)) ?_
     refine st ?_
     obtain rfl := Zg Zgs
     refine st ?_
     exact wx (WS.mk (tp (Zd (Zr (web ZiR)) Zb)) (Zf rfl (cc (cc (cc (cc Zh)))) Zc))
   obtain ⟨r0, hw⟩ := hw
   (conv => whnf)
   refine AWP.weak r0 hw ?_
   refine nw ?_
   refine Zi hF (fun ZtI hF => ?_) (fun ZtI hF => ?_)
   ·refine AWP.seq ?_
    refine ns ?_
    obtain rfl := Zg hF
    refine ns ?_
    refine Exists.intro [] ?_
    refine st ?_
    exact wx (WS.mk (tc Zb) Zc)
   ·refine nw ?_
    refine AWP.seq ?_
    refine AWP.seq ?_
    refine ns ?_
    refine AWP.block ?_
    refine AWP.seq ?_
    refine AWP.seq ?_
    refine ns ?_
    refine nw ?_
    refine Zi hF (fun ZtV hF => ?_) (fun ZtV hF => ?_)
    ·refine nw ?_
     refine AWP.weak (rn []) ?_ (Zjs t (t.fOp == 1) _ hF)
     exact (WS.mk (tp (tc (tc Zb))) (Zf rfl (cc (cc (cc (cc Zh)))) Zc))
    ·refine ns ?_
     refine AWP.weak (rn []) ?_ (Zjs t (t.fOp == 4) _ hF)
     exact (WS.mk (tp (tc (tc Zb))) (Zf rfl (cc (cc (cc (cc Zh)))) Zc))
 ·intro slices_IndexFunc_Type_types_formed_1' ZfQ s r hF
  unfold ZF.M
  refine en Tryz.func79 ?_
  refine AWP.seq ?_
  refine ns ?_
  refine AWP.seq ?_
  obtain ⟨r1, hr1, hF⟩ := bind_some hF
  refine ns ?_
  refine e3 ?_
  refine st ?_
  refine cm (Zj.weak (rn []) (ZfQ s _ hr1) rfl (WS.mk (tc (tc Zb)) Zc)) ?_
  refine st ?_
  obtain rfl := Zg hF
  refine ns ?_
  refine Exists.intro [] ?_
  refine st ?_
  exact wx (WS.mk (tc Zb) Zc)
 ·intro slices_IndexFunc_Type_types_formed_1_l1' Zco s r hF
  unfold ZX.M
  refine en Tryz.func104 ?_
  refine AWP.seq ?_
  refine ns ?_
  refine AWP.seq ?_
  refine AWP.seq ?_
  refine ns ?_
  intro hlen1
  (try rw [List.length_map] at hlen1)
  (try rw [List.length_map])
  refine st ?_
  refine AWP.block ?_
  refine AWP.loop ?_
  refine AWL.weak (rn []) ?_ (Zco s 0 s _ hF ([]) rfl rfl hlen1)
  exact (WS.mk (tc (tc (tc (tc Zb)))) Zc)
 ·intro slices_IndexFunc_Type_types_formed_1_l1' types_formed_1' Zco Zo0 s x_8 Zbz r hF
  unfold Zz.M
  intro Zej Zjw ZjT hlen1
  refine AWL.step ?_
  refine AWP.seq ?_
  refine ns ?_
  refine AWP.seq ?_
  refine nw ?_
  refine ZN Zjw ZjT (fun x13 Zrp ZqD Zym ZAK => ?_) (fun ZqD => ?_)
  ·subst ZqD
   refine nw ?_
   refine AWP.seq ?_
   refine AWP.block ?_
   refine AWP.seq ?_
   refine ns ?_
   refine AWP.seq ?_
   obtain ⟨r16, Zwl, hF⟩ := bind_some hF
   refine nn ?_
   refine sr (Zab (f := Za.cells) (Za.cells_eq x13) Zym) ?_
   refine st ?_
   refine e3 ?_
   refine st ?_
   refine cm (Zj.weak (rn []) (Zo0 x13 _ Zwl) rfl (WS.mk (Zd (Zt (lc (lc (lc (lc Zo))))) Zb) Zc)) ?_
   refine st ?_
   refine nw ?_
   refine Zi hF (fun ZiR hF => ?_) (fun ZiR hF => ?_)
   ·refine AWP.seq ?_
    refine ns ?_
    obtain rfl := Zg hF
    refine ns ?_
    refine Exists.intro [] ?_
    refine st ?_
    exact wx (WS.mk (tc Zb) Zc)
   ·refine nw ?_
    refine ns ?_
    refine AWL.weak (rn []) ?_ (Zco s (x_8 + 1) Zrp _ hF (Zej ++ [x13]) (by rw [Zjw]; simp) (by rw [ZjT]; simp) hlen1)
    exact (WS.mk (tc (tc (tc (Zd (Zr (Zdf (ZV hlen1 ZAK))) Zb)))) Zc)
  ·subst ZqD
   refine nw ?_
   refine AWP.seq ?_
   refine ns ?_
   obtain rfl := Zg hF
   refine ns ?_
   refine Exists.intro [] ?_
   refine st ?_
   exact wx (WS.mk (tc Zb) Zc)
 ·intro types_formed' Zp8 k r hF
  unfold Zdj.M
  refine en Tryz.func101 ?_
  refine AWP.seq ?_
  refine ns ?_
  refine AWP.seq ?_
  obtain ⟨r1, hr1, hF⟩ := bind_some hF
  refine ns ?_
  refine e3 ?_
  refine st ?_
  refine cm (Zj.weak (rn []) (Zp8 k _ hr1) rfl (WS.mk (Zd (Zt (lc (lc (lc (lc Zo))))) Zb) Zc)) ?_
  refine st ?_
  obtain rfl := Zg hF
  refine ns ?_
  refine Exists.intro [] ?_
  refine st ?_
  exact wx (WS.mk (tc Zb) Zc)
theorem Zp6 : ∀ (t : Za), ∀ r, Zb2 t = some r → Zb2.M t r := Zfc.1
theorem slices_ContainsFunc_Type_types_formed_1_ok : ∀ (s : (List Za)), ∀ r, ZF s = some r → ZF.M s r := Zfc.2.1
theorem slices_IndexFunc_Type_types_formed_1_ok : ∀ (s : (List Za)), ∀ r, ZX s = some r → ZX.M s r := Zfc.2.2.1
theorem slices_IndexFunc_Type_types_formed_1_l1_ok : ∀ (s : (List Za)) (x_8 : Nat) (Zbz : (List Za)), ∀ r, Zz s x_8 Zbz = some r → Zz.M s x_8 Zbz r := Zfc.2.2.2.1
theorem types_formed_1_ok : ∀ (k : Za), ∀ r, Zdj k = some r → Zdj.M k r := Zfc.2.2.2.2

mutual
def Zbu (k : Zk) : Option (Int) :=
 Za7 0 k 0 k.fArgs
 partial_fixpoint
def Za7 (n_3 : Int) (k : Zk) (x_9 : Nat) (ZaW : (List Zk)) : Option (Int) :=
 (match ZaW with
 | x11 :: Zlo =>
 Zbu x11 >>= fun r14 =>
 Za7 (if r14 > n_3 then r14 else n_3) k (x_9 + 1) Zlo
 | [] =>
 some (IntKind.i64.wrap (n_3 + 1)))
 partial_fixpoint
end
def Zbu.M (k : Zk) (r : Int) : Prop :=
 Zj Tryz.prog 78 [.agg [.sl (k.fArgs.map Zk.cells)]] [] (fun d b => d = .c none (.v (.int .i64 r)) ∧ b = [])
def Za7.M (n_3 : Int) (k : Zk) (x_9 : Nat) (ZaW : (List Zk)) (r : Int) : Prop :=
 ∀ Zdw : List Zk, k.fArgs = Zdw ++ ZaW → x_9 = Zdw.length → k.fArgs.length ≤ maxLen → AWL Tryz.prog 20 (Code.sub (Zq Tryz.f78) [1, 1, 0, 1, 0, 0]) (Code.cont Tryz.prog 20 (Zq Tryz.f78) [1, 1, 0, 1, 0] (ZbW tab Tryz.f78.results (ZbY (.c none (.v (.int .i64 r))) []))) ⟨[(3, .c none (.v (.int .i64 n_3))), (7, .c none (.sl (k.fArgs.map Zk.cells))), (8, .c none (.v (.int .i64 ((k.fArgs.length : Nat) : Int)))), (9, .c none (.v (.int .i64 ((x_9 : Nat) : Int))))], []⟩
theorem ZiZ : (∀ (k : Zk), ∀ r, Zbu k = some r → Zbu.M k r) ∧ (∀ (n_3 : Int) (k : Zk) (x_9 : Nat) (ZaW : (List Zk)), ∀ r, Za7 n_3 k x_9 ZaW = some r → Za7.M n_3 k x_9 ZaW r) := by
 refine Zbu.mutual_partial_correctness Zbu.M Za7.M ?_ ?_
 ·intro types_kindDepth_l1' ZfC k r hF
  unfold Zbu.M
  refine en Tryz.func78 ?_
  refine AWP.seq ?_
  refine ns ?_
  refine AWP.seq ?_
  refine ns ?_
  refine AWP.seq ?_
  refine AWP.seq ?_
  refine ns ?_
  intro hlen1
  (try rw [List.length_map] at hlen1)
  (try rw [List.length_map])
  refine st ?_
  refine AWP.block ?_
  refine AWP.loop ?_
  refine AWL.weak (rn []) ?_ (ZfC 0 k 0 k.fArgs _ hF ([]) rfl rfl hlen1)
  exact (WS.mk (tc (tc (tc (tc Zb)))) Zc)
 ·intro types_kindDepth' types_kindDepth_l1' Zoc ZfC n_3 k x_9 ZaW r hF
  unfold Za7.M
  intro Zdw ZhD ZhE hlen1
  refine AWL.step ?_
  refine AWP.seq ?_
  refine ns ?_
  refine AWP.seq ?_
  refine nw ?_
  refine ZN ZhD ZhE (fun x11 Zlo Zlz ZtP ZtL => ?_) (fun Zlz => ?_)
  ·subst Zlz
   refine nw ?_
   refine AWP.seq ?_
   refine AWP.block ?_
   refine AWP.seq ?_
   refine nn ?_
   refine sr (Zab (f := Zk.cells) (Zk.cells_eq x11) ZtP) ?_
   refine st ?_
   obtain ⟨r14, ZqH, hF⟩ := bind_some hF
   refine ns ?_
   refine e3 ?_
   refine st ?_
   refine cm (Zj.weak (rn []) (Zoc x11 _ ZqH) rfl (WS.mk (Zd (Zt (lc Zo)) Zb) Zc)) ?_
   refine st ?_
   refine ns ?_
   refine AWL.weak (rn []) ?_ (ZfC (if r14 > n_3 then r14 else n_3) k (x_9 + 1) Zlo _ hF (Zdw ++ [x11]) (by rw [ZhD]; simp) (by rw [ZhE]; simp) hlen1)
   exact (WS.mk (tc (tc (tc (Zd (Zr (Zdf (ZV hlen1 ZtL))) Zb)))) Zc)
  ·subst Zlz
   refine nw ?_
   refine AWP.seq ?_
   refine ns ?_
   obtain rfl := Zg hF
   refine ns ?_
   refine Exists.intro [] ?_
   refine st ?_
   exact wx (WS.mk (tc Zb) Zc)
theorem Zoi : ∀ (k : Zk), ∀ r, Zbu k = some r → Zbu.M k r := ZiZ.1
theorem types_kindDepth_l1_ok : ∀ (n_3 : Int) (k : Zk) (x_9 : Nat) (ZaW : (List Zk)), ∀ r, Za7 n_3 k x_9 ZaW = some r → Za7.M n_3 k x_9 ZaW r := ZiZ.2

mutual
def ZE (t : Za) : Option (Int) :=
 Zbu t.fBound >>= fun r1 =>
 ZI r1 t 0 t.fKids
 partial_fixpoint
def ZI (n_5 : Int) (t : Za) (Zfx : Nat) (Zce : (List Za)) : Option (Int) :=
 (match Zce with
 | x12 :: ZvN =>
 ZE x12 >>= fun r15 =>
 ZI (if r15 > n_5 then r15 else n_5) t (Zfx + 1) ZvN
 | [] =>
 some n_5)
 partial_fixpoint
end
def ZE.M (t : Za) (r : Int) : Prop :=
 Zj Tryz.prog 75 [.agg [.v (.int .i64 t.fOp), .v (.string t.fName), .sl (t.fBound.fArgs.map Zk.cells), .sl (t.fKids.map Za.cells)], .c none (.v (.func (.func 78) #[] #[]))] [] (fun d b => d = .c none (.v (.int .i64 r)) ∧ b = [])
def ZI.M (n_5 : Int) (t : Za) (Zfx : Nat) (Zce : (List Za)) (r : Int) : Prop :=
 ∀ ZeT : List Za, t.fKids = ZeT ++ Zce → Zfx = ZeT.length → t.fKids.length ≤ maxLen → AWL Tryz.prog 26 (Code.sub (Zq Tryz.f75) [1, 1, 0, 1, 0, 0]) (Code.cont Tryz.prog 26 (Zq Tryz.f75) [1, 1, 0, 1, 0] (ZbW tab Tryz.f75.results (ZbY (.c none (.v (.int .i64 r))) []))) ⟨[(1, .c none (.v (.func (.func 78) #[] #[]))), (5, .c none (.v (.int .i64 n_5))), (13, .c none (.sl (t.fKids.map Za.cells))), (14, .c none (.v (.int .i64 ((t.fKids.length : Nat) : Int)))), (15, .c none (.v (.int .i64 ((Zfx : Nat) : Int))))], []⟩
theorem Zew : (∀ (t : Za), ∀ r, ZE t = some r → ZE.M t r) ∧ (∀ (n_5 : Int) (t : Za) (Zfx : Nat) (Zce : (List Za)), ∀ r, ZI n_5 t Zfx Zce = some r → ZI.M n_5 t Zfx Zce r) := by
 refine ZE.mutual_partial_correctness ZE.M ZI.M ?_ ?_
 ·intro types_greatest_types_kindDepth_l1' Zdb t r hF
  unfold ZE.M
  refine en Tryz.func75 ?_
  refine AWP.seq ?_
  refine ns ?_
  refine AWP.seq ?_
  obtain ⟨r1, hr1, hF⟩ := bind_some hF
  refine ns ?_
  refine e3 ?_
  refine st ?_
  refine cm (Zj.weak (rn []) (Zoi t.fBound _ hr1) rfl (WS.mk (Zd (Zt (lc Zo)) Zb) Zc)) ?_
  refine st ?_
  refine AWP.seq ?_
  refine AWP.seq ?_
  refine ns ?_
  intro hlen2
  (try rw [List.length_map] at hlen2)
  (try rw [List.length_map])
  refine st ?_
  refine AWP.block ?_
  refine AWP.loop ?_
  refine AWL.weak (rn []) ?_ (Zdb r1 t 0 t.fKids _ hF ([]) rfl rfl hlen2)
  exact (WS.mk (tc (tc (tc (tc (tc Zb))))) Zc)
 ·intro types_greatest_types_kindDepth' types_greatest_types_kindDepth_l1' Zhl Zdb n_5 t Zfx Zce r hF
  unfold ZI.M
  intro ZeT Zj9 Zkd hlen2
  refine AWL.step ?_
  refine AWP.seq ?_
  refine ns ?_
  refine AWP.seq ?_
  refine nw ?_
  refine ZN Zj9 Zkd (fun x12 ZvN Zvv ZCa ZCp => ?_) (fun Zvv => ?_)
  ·subst Zvv
   refine nw ?_
   refine AWP.seq ?_
   refine AWP.block ?_
   refine AWP.seq ?_
   refine nn ?_
   refine sr (Zab (f := Za.cells) (Za.cells_eq x12) ZCa) ?_
   refine st ?_
   obtain ⟨r15, Zv2, hF⟩ := bind_some hF
   refine ns ?_
   refine e3 ?_
   refine st ?_
   refine cm (Zj.weak (rn []) (Zhl x12 _ Zv2) rfl (WS.mk (Zd (Zt (lc (lc (lc (lc Zo))))) (tc Zb)) Zc)) ?_
   refine st ?_
   refine ns ?_
   refine AWL.weak (rn []) ?_ (Zdb (if r15 > n_5 then r15 else n_5) t (Zfx + 1) ZvN _ hF (ZeT ++ [x12]) (by rw [Zj9]; simp) (by rw [Zkd]; simp) hlen2)
   exact (WS.mk (tc (tc (tc (tc (Zd (Zr (Zdf (ZV hlen2 ZCp))) Zb))))) Zc)
  ·subst Zvv
   refine nw ?_
   refine AWP.seq ?_
   refine ns ?_
   obtain rfl := Zg hF
   refine ns ?_
   refine Exists.intro [] ?_
   refine st ?_
   exact wx (WS.mk (tc Zb) Zc)
theorem Zhk : ∀ (t : Za), ∀ r, ZE t = some r → ZE.M t r := Zew.1
theorem types_greatest_types_kindDepth_l1_ok : ∀ (n_5 : Int) (t : Za) (Zfx : Nat) (Zce : (List Za)), ∀ r, ZI n_5 t Zfx Zce = some r → ZI.M n_5 t Zfx Zce r := Zew.2

mutual
def ZbS (k : Zk) : Option (Int) :=
 Zbs 1 k 0 k.fArgs
 partial_fixpoint
def Zbs (n_3 : Int) (k : Zk) (x_9 : Nat) (ZaW : (List Zk)) : Option (Int) :=
 (match ZaW with
 | x11 :: Zlo =>
 ZbS x11 >>= fun r14 =>
 Zbs (IntKind.i64.wrap (n_3 + r14)) k (x_9 + 1) Zlo
 | [] =>
 some n_3)
 partial_fixpoint
end
def ZbS.M (k : Zk) (r : Int) : Prop :=
 Zj Tryz.prog 76 [.agg [.sl (k.fArgs.map Zk.cells)]] [] (fun d b => d = .c none (.v (.int .i64 r)) ∧ b = [])
def Zbs.M (n_3 : Int) (k : Zk) (x_9 : Nat) (ZaW : (List Zk)) (r : Int) : Prop :=
 ∀ Zdw : List Zk, k.fArgs = Zdw ++ ZaW → x_9 = Zdw.length → k.fArgs.length ≤ maxLen → AWL Tryz.prog 19 (Code.sub (Zq Tryz.f76) [1, 1, 0, 1, 0, 0]) (Code.cont Tryz.prog 19 (Zq Tryz.f76) [1, 1, 0, 1, 0] (ZbW tab Tryz.f76.results (ZbY (.c none (.v (.int .i64 r))) []))) ⟨[(3, .c none (.v (.int .i64 n_3))), (7, .c none (.sl (k.fArgs.map Zk.cells))), (8, .c none (.v (.int .i64 ((k.fArgs.length : Nat) : Int)))), (9, .c none (.v (.int .i64 ((x_9 : Nat) : Int))))], []⟩
theorem ZjN : (∀ (k : Zk), ∀ r, ZbS k = some r → ZbS.M k r) ∧ (∀ (n_3 : Int) (k : Zk) (x_9 : Nat) (ZaW : (List Zk)), ∀ r, Zbs n_3 k x_9 ZaW = some r → Zbs.M n_3 k x_9 ZaW r) := by
 refine ZbS.mutual_partial_correctness ZbS.M Zbs.M ?_ ?_
 ·intro types_kindSize_l1' ZfY k r hF
  unfold ZbS.M
  refine en Tryz.func76 ?_
  refine AWP.seq ?_
  refine ns ?_
  refine AWP.seq ?_
  refine ns ?_
  refine AWP.seq ?_
  refine AWP.seq ?_
  refine ns ?_
  intro hlen1
  (try rw [List.length_map] at hlen1)
  (try rw [List.length_map])
  refine st ?_
  refine AWP.block ?_
  refine AWP.loop ?_
  refine AWL.weak (rn []) ?_ (ZfY 1 k 0 k.fArgs _ hF ([]) rfl rfl hlen1)
  exact (WS.mk (tc (tc (tc (tc Zb)))) Zc)
 ·intro types_kindSize' types_kindSize_l1' ZoS ZfY n_3 k x_9 ZaW r hF
  unfold Zbs.M
  intro Zdw ZhD ZhE hlen1
  refine AWL.step ?_
  refine AWP.seq ?_
  refine ns ?_
  refine AWP.seq ?_
  refine nw ?_
  refine ZN ZhD ZhE (fun x11 Zlo Zlz ZtP ZtL => ?_) (fun Zlz => ?_)
  ·subst Zlz
   refine nw ?_
   refine AWP.seq ?_
   refine AWP.block ?_
   refine AWP.seq ?_
   refine nn ?_
   refine sr (Zab (f := Zk.cells) (Zk.cells_eq x11) ZtP) ?_
   refine st ?_
   obtain ⟨r14, ZqH, hF⟩ := bind_some hF
   refine ns ?_
   refine e3 ?_
   refine st ?_
   refine cm (Zj.weak (rn []) (ZoS x11 _ ZqH) rfl (WS.mk (Zd (Zt (lc Zo)) Zb) Zc)) ?_
   refine st ?_
   refine ns ?_
   refine AWL.weak (rn []) ?_ (ZfY (IntKind.i64.wrap (n_3 + r14)) k (x_9 + 1) Zlo _ hF (Zdw ++ [x11]) (by rw [ZhD]; simp) (by rw [ZhE]; simp) hlen1)
   exact (WS.mk (tc (tc (tc (Zd (Zr (Zdf (ZV hlen1 ZtL))) Zb)))) Zc)
  ·subst Zlz
   refine nw ?_
   refine AWP.seq ?_
   refine ns ?_
   obtain rfl := Zg hF
   refine ns ?_
   refine Exists.intro [] ?_
   refine st ?_
   exact wx (WS.mk (tc Zb) Zc)
theorem ZoU : ∀ (k : Zk), ∀ r, ZbS k = some r → ZbS.M k r := ZjN.1
theorem types_kindSize_l1_ok : ∀ (n_3 : Int) (k : Zk) (x_9 : Nat) (ZaW : (List Zk)), ∀ r, Zbs n_3 k x_9 ZaW = some r → Zbs.M n_3 k x_9 ZaW r := ZjN.2

mutual
def ZH (t : Za) : Option (Int) :=
 ZbS t.fBound >>= fun r1 =>
 ZM r1 t 0 t.fKids
 partial_fixpoint
def ZM (n_5 : Int) (t : Za) (Zfx : Nat) (Zce : (List Za)) : Option (Int) :=
 (match Zce with
 | x12 :: ZvN =>
 ZH x12 >>= fun r15 =>
 ZM (if r15 > n_5 then r15 else n_5) t (Zfx + 1) ZvN
 | [] =>
 some n_5)
 partial_fixpoint
end
def ZH.M (t : Za) (r : Int) : Prop :=
 Zj Tryz.prog 75 [.agg [.v (.int .i64 t.fOp), .v (.string t.fName), .sl (t.fBound.fArgs.map Zk.cells), .sl (t.fKids.map Za.cells)], .c none (.v (.func (.func 76) #[] #[]))] [] (fun d b => d = .c none (.v (.int .i64 r)) ∧ b = [])
def ZM.M (n_5 : Int) (t : Za) (Zfx : Nat) (Zce : (List Za)) (r : Int) : Prop :=
 ∀ ZeT : List Za, t.fKids = ZeT ++ Zce → Zfx = ZeT.length → t.fKids.length ≤ maxLen → AWL Tryz.prog 26 (Code.sub (Zq Tryz.f75) [1, 1, 0, 1, 0, 0]) (Code.cont Tryz.prog 26 (Zq Tryz.f75) [1, 1, 0, 1, 0] (ZbW tab Tryz.f75.results (ZbY (.c none (.v (.int .i64 r))) []))) ⟨[(1, .c none (.v (.func (.func 76) #[] #[]))), (5, .c none (.v (.int .i64 n_5))), (13, .c none (.sl (t.fKids.map Za.cells))), (14, .c none (.v (.int .i64 ((t.fKids.length : Nat) : Int)))), (15, .c none (.v (.int .i64 ((Zfx : Nat) : Int))))], []⟩
theorem ZeG : (∀ (t : Za), ∀ r, ZH t = some r → ZH.M t r) ∧ (∀ (n_5 : Int) (t : Za) (Zfx : Nat) (Zce : (List Za)), ∀ r, ZM n_5 t Zfx Zce = some r → ZM.M n_5 t Zfx Zce r) := by
 refine ZH.mutual_partial_correctness ZH.M ZM.M ?_ ?_
 ·intro types_greatest_types_kindSize_l1' Zdo t r hF
  unfold ZH.M
  refine en Tryz.func75 ?_
  refine AWP.seq ?_
  refine ns ?_
  refine AWP.seq ?_
  obtain ⟨r1, hr1, hF⟩ := bind_some hF
  refine ns ?_
  refine e3 ?_
  refine st ?_
  refine cm (Zj.weak (rn []) (ZoU t.fBound _ hr1) rfl (WS.mk (Zd (Zt (lc Zo)) Zb) Zc)) ?_
  refine st ?_
  refine AWP.seq ?_
  refine AWP.seq ?_
  refine ns ?_
  intro hlen2
  (try rw [List.length_map] at hlen2)
  (try rw [List.length_map])
  refine st ?_
  refine AWP.block ?_
  refine AWP.loop ?_
  refine AWL.weak (rn []) ?_ (Zdo r1 t 0 t.fKids _ hF ([]) rfl rfl hlen2)
  exact (WS.mk (tc (tc (tc (tc (tc Zb))))) Zc)
 ·intro types_greatest_types_kindSize' types_greatest_types_kindSize_l1' Zhx Zdo n_5 t Zfx Zce r hF
  unfold ZM.M
  intro ZeT Zj9 Zkd hlen2
  refine AWL.step ?_
  refine AWP.seq ?_
  refine ns ?_
  refine AWP.seq ?_
  refine nw ?_
  refine ZN Zj9 Zkd (fun x12 ZvN Zvv ZCa ZCp => ?_) (fun Zvv => ?_)
  ·subst Zvv
   refine nw ?_
   refine AWP.seq ?_
   refine AWP.block ?_
   refine AWP.seq ?_
   refine nn ?_
   refine sr (Zab (f := Za.cells) (Za.cells_eq x12) ZCa) ?_
   refine st ?_
   obtain ⟨r15, Zv2, hF⟩ := bind_some hF
   refine ns ?_
   refine e3 ?_
   refine st ?_
   refine cm (Zj.weak (rn []) (Zhx x12 _ Zv2) rfl (WS.mk (Zd (Zt (lc (lc (lc (lc Zo))))) (tc Zb)) Zc)) ?_
   refine st ?_
   refine ns ?_
   refine AWL.weak (rn []) ?_ (Zdo (if r15 > n_5 then r15 else n_5) t (Zfx + 1) ZvN _ hF (ZeT ++ [x12]) (by rw [Zj9]; simp) (by rw [Zkd]; simp) hlen2)
   exact (WS.mk (tc (tc (tc (tc (Zd (Zr (Zdf (ZV hlen2 ZCp))) Zb))))) Zc)
  ·subst Zvv
   refine nw ?_
   refine AWP.seq ?_
   refine ns ?_
   obtain rfl := Zg hF
   refine ns ?_
   refine Exists.intro [] ?_
   refine st ?_
   exact wx (WS.mk (tc Zb) Zc)
theorem ZhM : ∀ (t : Za), ∀ r, ZH t = some r → ZH.M t r := ZeG.1
theorem types_greatest_types_kindSize_l1_ok : ∀ (n_5 : Int) (t : Za) (Zfx : Nat) (Zce : (List Za)), ∀ r, ZM n_5 t Zfx Zce = some r → ZM.M n_5 t Zfx Zce r := ZeG.2

def Zcj (t : Za) : Option (Int) :=
 Zb2 t >>= fun r1 =>
 if (!r1) = true then
 some 1
 else
 ZcF t >>= fun r3 =>
 (if (decide (r3 > 20000)) = true then some true else ZH t >>= fun r4 =>
 some (decide (r4 > 20000))) >>= fun c5 =>
 if c5 = true then
 some 3
 else
 Zcg t >>= fun r8 =>
 (if (decide (r8 > 100)) = true then some true else ZE t >>= fun r9 =>
 some (decide (r9 > 100))) >>= fun c10 =>
 if c10 = true then
 some 4
 else
 some 0
def Zcj.M (t : Za) (r : Int) : Prop :=
 Zj Tryz.prog 50 [.agg [.v (.int .i64 t.fOp), .v (.string t.fName), .sl (t.fBound.fArgs.map Zk.cells), .sl (t.fKids.map Za.cells)]] [] (fun d b => d = .c none (.v (.int .i64 r)) ∧ b = [])
theorem Zfe (t : Za) (r : Int) (hF : Zcj t = some r) : Zcj.M t r := by
 unfold Zcj at hF
 unfold Zcj.M
 refine en Tryz.func50 ?_
 refine AWP.seq ?_
 refine ns ?_
 refine AWP.seq ?_
 refine AWP.block ?_
 refine AWP.seq ?_
 obtain ⟨r1, hr1, hF⟩ := bind_some hF
 refine ns ?_
 refine e3 ?_
 refine st ?_
 refine cm (Zj.weak (rn []) (Zp6 t _ hr1) rfl (WS.mk (Zd (Zt (lc (lc (lc (lc Zo))))) Zb) Zc)) ?_
 refine st ?_
 refine nw ?_
 refine Zi hF (fun hc2 hF => ?_) (fun hc2 hF => ?_)
 ·refine AWP.seq ?_
  refine ns ?_
  obtain rfl := Zg hF
  refine ns ?_
  refine Exists.intro [] ?_
  refine st ?_
  exact wx (WS.mk (tc Zb) Zc)
 ·refine AWP.seq ?_
  obtain ⟨r3, hr3, hF⟩ := bind_some hF
  obtain ⟨c5, hc5, hF⟩ := bind_some hF
  refine AWP.cutN (fun T => ∃ r, WS r T ⟨[(1, .ptr 1 0), (7, .c none (.v (.bool c5)))], [(1, [(none, .v (.int .i64 t.fOp)), (none, .v (.string t.fName)), (none, .sl (t.fBound.fArgs.map Zk.cells)), (none, .sl (t.fKids.map Za.cells))])]⟩) ?_ (fun T hw => ?_)
  ·refine ns ?_
   refine e3 ?_
   refine st ?_
   refine cm (Zj.weak (rn []) (ZnV t _ hr3) rfl (WS.mk (Zd (Zt (lc (lc (lc (lc Zo))))) Zb) Zc)) ?_
   refine st ?_
   refine Zm false (fun hc6 => ?_) (fun hc6 => ?_)
   ·have hc5 := ift hc6 hc5
    (conv => whnf)
    obtain rfl := Zg hc5
    refine st ?_
    exact wx (WS.mk (tp (Zd (Zr (web hc6)) Zb)) (Zf rfl (cc (cc (cc (cc Zh)))) Zc))
   ·have hc5 := ife hc6 hc5
    obtain ⟨r4, hr4, hc5⟩ := bind_some hc5
    (conv => whnf)
    refine st ?_
    refine e3 ?_
    refine st ?_
    refine cm (Zj.weak (rn []) (ZhM t _ hr4) rfl (WS.mk (Zd (Zt (lc (lc (lc (lc Zo))))) (tc Zb)) Zc)) ?_
    refine st ?_
    obtain rfl := Zg hc5
    refine st ?_
    exact wx (WS.mk (tp (Zd (Zr (web hc6)) Zb)) (Zf rfl (cc (cc (cc (cc Zh)))) Zc))
  obtain ⟨r0, hw⟩ := hw
  (conv => whnf)
  refine AWP.weak r0 hw ?_
  refine nw ?_
  refine Zi hF (fun hc7 hF => ?_) (fun hc7 hF => ?_)
  ·refine AWP.seq ?_
   refine ns ?_
   obtain rfl := Zg hF
   refine ns ?_
   refine Exists.intro [] ?_
   refine st ?_
   exact wx (WS.mk (tc Zb) Zc)
  ·refine AWP.seq ?_
   obtain ⟨r8, hr8, hF⟩ := bind_some hF
   obtain ⟨c10, Zdt, hF⟩ := bind_some hF
   refine AWP.cutN (fun T => ∃ r, WS r T ⟨[(16, .c none (.v (.bool c10)))], []⟩) ?_ (fun T hw => ?_)
   ·refine ns ?_
    refine e3 ?_
    refine st ?_
    refine cm (Zj.weak (rn []) (Zmv t _ hr8) rfl (WS.mk (Zd (Zt (lc (lc (lc (lc Zo))))) Zb) Zc)) ?_
    refine st ?_
    refine Zm false (fun ZcS => ?_) (fun ZcS => ?_)
    ·have Zdt := ift ZcS Zdt
     (conv => whnf)
     obtain rfl := Zg Zdt
     refine st ?_
     exact wx (WS.mk (Zd (Zr (web ZcS)) Zb) Zc)
    ·have Zdt := ife ZcS Zdt
     obtain ⟨r9, hr9, Zdt⟩ := bind_some Zdt
     (conv => whnf)
     refine st ?_
     refine e3 ?_
     refine st ?_
     refine cm (Zj.weak (rn []) (Zhk t _ hr9) rfl (WS.mk (Zd (Zt (lc (lc (lc (lc Zo))))) (tc Zb)) Zc)) ?_
     refine st ?_
     obtain rfl := Zg Zdt
     refine st ?_
     exact wx (WS.mk (Zd (Zr (web ZcS)) Zb) Zc)
   obtain ⟨r0, hw⟩ := hw
   (conv => whnf)
   refine AWP.weak r0 hw ?_
   refine nw ?_
   refine Zi hF (fun ZcJ hF => ?_) (fun ZcJ hF => ?_)
   ·refine AWP.seq ?_
    refine ns ?_
    obtain rfl := Zg hF
    refine ns ?_
    refine Exists.intro [] ?_
    refine st ?_
    exact wx (WS.mk (tc Zb) Zc)
   ·refine nw ?_
    refine AWP.seq ?_
    refine ns ?_
    obtain rfl := Zg hF
    refine ns ?_
    refine Exists.intro [] ?_
    refine st ?_
    exact wx (WS.mk (tc Zb) Zc)

mutual
def ZaG (t : Za) : Option (Int) :=
 ZaU 0 0 t t.fKids
 partial_fixpoint
def ZaU (n_3 : Int) (i_4 : Nat) (t : Za) (ZaO : (List Za)) : Option (Int) :=
 (match ZaO with
 | x16 :: ZjO =>
 ZaG x16 >>= fun r19 =>
 ZaU (if r19 > n_3 then r19 else n_3) (i_4 + 1) t ZjO
 | [] =>
 some (IntKind.i64.wrap (n_3 + 1)))
 partial_fixpoint
end
def ZaG.M (t : Za) (r : Int) : Prop :=
 Zj Tryz.prog 29 [.agg [.v (.int .i64 t.fOp), .v (.string t.fName), .sl (t.fBound.fArgs.map Zk.cells), .sl (t.fKids.map Za.cells)]] [] (fun d b => d = .c none (.v (.int .i64 r)) ∧ b = [])
def ZaU.M (n_3 : Int) (i_4 : Nat) (t : Za) (ZaO : (List Za)) (r : Int) : Prop :=
 ∀ Zdy : List Za, t.fKids = Zdy ++ ZaO → i_4 = Zdy.length → AWL Tryz.prog 22 (Code.sub (Zq Tryz.f29) [1, 1, 0, 1, 0, 0]) (Code.cont Tryz.prog 22 (Zq Tryz.f29) [1, 1, 0, 1, 0] (ZbW tab Tryz.f29.results (ZbY (.c none (.v (.int .i64 r))) []))) ⟨[(1, .ptr 1 0), (3, .c none (.v (.int .i64 n_3))), (4, .c none (.v (.int .i64 ((i_4 : Nat) : Int))))], [(1, [(none, .v (.int .i64 t.fOp)), (none, .v (.string t.fName)), (none, .sl (t.fBound.fArgs.map Zk.cells)), (none, .sl (t.fKids.map Za.cells))])]⟩
theorem ZiD : (∀ (t : Za), ∀ r, ZaG t = some r → ZaG.M t r) ∧ (∀ (n_3 : Int) (i_4 : Nat) (t : Za) (ZaO : (List Za)), ∀ r, ZaU n_3 i_4 t ZaO = some r → ZaU.M n_3 i_4 t ZaO r) := by
 refine ZaG.mutual_partial_correctness ZaG.M ZaU.M ?_ ?_
 ·intro lazycref04_Depth_l1' Zfl t r hF
  unfold ZaG.M
  refine en Tryz.func29 ?_
  refine AWP.seq ?_
  refine ns ?_
  refine AWP.seq ?_
  refine ns ?_
  refine AWP.seq ?_
  refine AWP.seq ?_
  refine ns ?_
  refine AWP.block ?_
  refine AWP.loop ?_
  refine AWL.weak (rn []) ?_ (Zfl 0 0 t t.fKids _ hF ([]) rfl rfl)
  exact (WS.mk (tp (tc (tc Zb))) (Zf rfl (cc (cc (cc (cc Zh)))) Zc))
 ·intro lazycref04_Depth' lazycref04_Depth_l1' ZnB Zfl n_3 i_4 t ZaO r hF
  unfold ZaU.M
  intro Zdy ZhJ Zhz
  refine AWL.step ?_
  refine AWP.seq ?_
  refine AWP.seq ?_
  refine ns ?_
  intro hlen15
  (try rw [List.length_map] at hlen15)
  (try rw [List.length_map])
  refine st ?_
  refine nw ?_
  refine ZN ZhJ Zhz (fun x16 ZjO ZjP Zrd ZqM => ?_) (fun ZjP => ?_)
  ·subst ZjP
   refine nw ?_
   refine AWP.seq ?_
   refine AWP.block ?_
   obtain ⟨r19, Ztl, hF⟩ := bind_some hF
   refine nn ?_
   refine sr (Zab (f := Za.cells) (Za.cells_eq x16) Zrd) ?_
   refine st ?_
   refine e3 ?_
   refine st ?_
   refine cm (Zj.weak (rn []) (ZnB x16 _ Ztl) rfl (WS.mk (Zd (Zt (lc (lc (lc (lc Zo))))) Zb) Zc)) ?_
   refine st ?_
   refine ns ?_
   refine AWL.weak (rn []) ?_ (Zfl (if r19 > n_3 then r19 else n_3) (i_4 + 1) t ZjO _ hF (Zdy ++ [x16]) (by rw [ZhJ]; simp) (by rw [Zhz]; simp))
   exact (WS.mk (tp (tc (Zd (Zr (Zdf (ZV hlen15 ZqM))) Zb))) (Zf rfl (cc (cc (cc (cc Zh)))) Zc))
  ·subst ZjP
   refine nw ?_
   refine AWP.seq ?_
   refine ns ?_
   obtain rfl := Zg hF
   refine ns ?_
   refine Exists.intro [] ?_
   refine st ?_
   exact wx (WS.mk (tc Zb) Zc)
theorem Zgt : ∀ (t : Za), ∀ r, ZaG t = some r → ZaG.M t r := ZiD.1
theorem lazycref04_Depth_l1_ok : ∀ (n_3 : Int) (i_4 : Nat) (t : Za) (ZaO : (List Za)), ∀ r, ZaU n_3 i_4 t ZaO = some r → ZaU.M n_3 i_4 t ZaO r := ZiD.2

mutual
def ZaL (t : Za) : Option (Int) :=
 Za4 1 0 t t.fKids
 partial_fixpoint
def Za4 (n_3 : Int) (i_4 : Nat) (t : Za) (ZaO : (List Za)) : Option (Int) :=
 (match ZaO with
 | x16 :: ZjO =>
 ZaL x16 >>= fun r19 =>
 Za4 (IntKind.i64.wrap (n_3 + r19)) (i_4 + 1) t ZjO
 | [] =>
 some n_3)
 partial_fixpoint
end
def ZaL.M (t : Za) (r : Int) : Prop :=
 Zj Tryz.prog 28 [.agg [.v (.int .i64 t.fOp), .v (.string t.fName), .sl (t.fBound.fArgs.map Zk.cells), .sl (t.fKids.map Za.cells)]] [] (fun d b => d = .c none (.v (.int .i64 r)) ∧ b = [])
def Za4.M (n_3 : Int) (i_4 : Nat) (t : Za) (ZaO : (List Za)) (r : Int) : Prop :=
 ∀ Zdy : List Za, t.fKids = Zdy ++ ZaO → i_4 = Zdy.length → AWL Tryz.prog 21 (Code.sub (Zq Tryz.f28) [1, 1, 0, 1, 0, 0]) (Code.cont Tryz.prog 21 (Zq Tryz.f28) [1, 1, 0, 1, 0] (ZbW tab Tryz.f28.results (ZbY (.c none (.v (.int .i64 r))) []))) ⟨[(1, .ptr 1 0), (3, .c none (.v (.int .i64 n_3))), (4, .c none (.v (.int .i64 ((i_4 : Nat) : Int))))], [(1, [(none, .v (.int .i64 t.fOp)), (none, .v (.string t.fName)), (none, .sl (t.fBound.fArgs.map Zk.cells)), (none, .sl (t.fKids.map Za.cells))])]⟩
theorem Zi4 : (∀ (t : Za), ∀ r, ZaL t = some r → ZaL.M t r) ∧ (∀ (n_3 : Int) (i_4 : Nat) (t : Za) (ZaO : (List Za)), ∀ r, Za4 n_3 i_4 t ZaO = some r → Za4.M n_3 i_4 t ZaO r) := by
 refine ZaL.mutual_partial_correctness ZaL.M Za4.M ?_ ?_
 ·intro lazycref04_Size_l1' ZfE t r hF
  unfold ZaL.M
  refine en Tryz.func28 ?_
  refine AWP.seq ?_
  refine ns ?_
  refine AWP.seq ?_
  refine ns ?_
  refine AWP.seq ?_
  refine AWP.seq ?_
  refine ns ?_
  refine AWP.block ?_
  refine AWP.loop ?_
  refine AWL.weak (rn []) ?_ (ZfE 1 0 t t.fKids _ hF ([]) rfl rfl)
  exact (WS.mk (tp (tc (tc Zb))) (Zf rfl (cc (cc (cc (cc Zh)))) Zc))
 ·intro lazycref04_Size' lazycref04_Size_l1' Zn7 ZfE n_3 i_4 t ZaO r hF
  unfold Za4.M
  intro Zdy ZhJ Zhz
  refine AWL.step ?_
  refine AWP.seq ?_
  refine AWP.seq ?_
  refine ns ?_
  intro hlen15
  (try rw [List.length_map] at hlen15)
  (try rw [List.length_map])
  refine st ?_
  refine nw ?_
  refine ZN ZhJ Zhz (fun x16 ZjO ZjP Zrd ZqM => ?_) (fun ZjP => ?_)
  ·subst ZjP
   refine nw ?_
   refine AWP.seq ?_
   refine AWP.block ?_
   obtain ⟨r19, Ztl, hF⟩ := bind_some hF
   refine nn ?_
   refine sr (Zab (f := Za.cells) (Za.cells_eq x16) Zrd) ?_
   refine st ?_
   refine e3 ?_
   refine st ?_
   refine cm (Zj.weak (rn []) (Zn7 x16 _ Ztl) rfl (WS.mk (Zd (Zt (lc (lc (lc (lc Zo))))) Zb) Zc)) ?_
   refine st ?_
   refine ns ?_
   refine AWL.weak (rn []) ?_ (ZfE (IntKind.i64.wrap (n_3 + r19)) (i_4 + 1) t ZjO _ hF (Zdy ++ [x16]) (by rw [ZhJ]; simp) (by rw [Zhz]; simp))
   exact (WS.mk (tp (tc (Zd (Zr (Zdf (ZV hlen15 ZqM))) Zb))) (Zf rfl (cc (cc (cc (cc Zh)))) Zc))
  ·subst ZjP
   refine nw ?_
   refine AWP.seq ?_
   refine ns ?_
   obtain rfl := Zg hF
   refine ns ?_
   refine Exists.intro [] ?_
   refine st ?_
   exact wx (WS.mk (tc Zb) Zc)
theorem Zg1 : ∀ (t : Za), ∀ r, ZaL t = some r → ZaL.M t r := Zi4.1
theorem lazycref04_Size_l1_ok : ∀ (n_3 : Int) (i_4 : Nat) (t : Za) (ZaO : (List Za)), ∀ r, Za4 n_3 i_4 t ZaO = some r → Za4.M n_3 i_4 t ZaO r := Zi4.2

def Zaw (n : Int) (s_3 : ByteArray) (i_4 : Nat) : Option (ByteArray) :=
 if (decide (((i_4 : Nat) : Int) < n)) = true then
 Z5 (((s_3.size + (ByteArray.mk #[44]).size : Nat) : Int) ≤ IntKind.i64.max) >>= fun _ =>
 Z5 (i_4 + 1 ≤ 9223372036854775807) >>= fun _ =>
 Zaw n (s_3 ++ (ByteArray.mk #[44])) (i_4 + 1)
 else
 Z5 (((s_3.size + (ByteArray.mk #[41]).size : Nat) : Int) ≤ IntKind.i64.max) >>= fun _ =>
 some (s_3 ++ (ByteArray.mk #[41]))
 partial_fixpoint
def Zaw.M (n : Int) (s_3 : ByteArray) (i_4 : Nat) (r : ByteArray) : Prop :=
 AWL Tryz.prog 14 (Code.sub (Zq Tryz.f128) [1, 1, 0, 1, 0, 0]) (Code.cont Tryz.prog 14 (Zq Tryz.f128) [1, 1, 0, 1, 0] (ZbW tab Tryz.f128.results (ZbY (.c none (.v (.string r))) []))) ⟨[(0, .c none (.v (.int .i64 n))), (3, .c none (.v (.string s_3))), (4, .c none (.v (.int .i64 ((i_4 : Nat) : Int))))], []⟩
theorem Zjy (n : Int) (s_3 : ByteArray) (i_4 : Nat) : ∀ r, Zaw n s_3 i_4 = some r → Zaw.M n s_3 i_4 r := by
 refine Zaw.partial_correctness n (fun s_3 i_4 r => Zaw.M n s_3 i_4 r) ?_ s_3 i_4
 intro lazycref04_TupleName_l1' ZfJ s_3 i_4 r hF
 have Zju := fun (_n : Int) (s_3 : ByteArray) (i_4 : Nat) => ZfJ s_3 i_4
 clear ZfJ
 unfold Zaw.M
 refine AWL.step ?_
 refine AWP.seq ?_
 refine AWP.seq ?_
 refine ns ?_
 refine nw ?_
 refine Zi hF (fun hc9 hF => ?_) (fun hc9 hF => ?_)
 ·refine nw ?_
  refine AWP.seq ?_
  refine AWP.block ?_
  obtain ⟨ZAw, hF⟩ := Zy hF
  refine ns ?_
  refine And.intro ZAw ?_
  refine st ?_
  obtain ⟨ZC0, hF⟩ := Zy hF
  refine ns ?_
  refine AWL.weak (rn []) ?_ (Zju n (s_3 ++ (ByteArray.mk #[44])) (i_4 + 1) _ hF)
  exact (WS.mk (tc (tc (Zd (Zr (Zdf (Zdu ZC0))) Zb))) Zc)
 ·refine nw ?_
  refine AWP.seq ?_
  obtain ⟨ZCy, hF⟩ := Zy hF
  refine ns ?_
  refine And.intro ZCy ?_
  refine st ?_
  obtain rfl := Zg hF
  refine ns ?_
  refine Exists.intro [] ?_
  refine st ?_
  exact wx (WS.mk (tc Zb) Zc)

def Zci (n : Int) : Option (ByteArray) :=
 Zaw n (ByteArray.mk #[40]) 1
def Zci.M (n : Int) (r : ByteArray) : Prop :=
 Zj Tryz.prog 128 [.c none (.v (.int .i64 n))] [] (fun d b => d = .c none (.v (.string r)) ∧ b = [])
theorem Zk0 (n : Int) (r : ByteArray) (hF : Zci n = some r) : Zci.M n r := by
 unfold Zci at hF
 unfold Zci.M
 refine en Tryz.func128 ?_
 refine AWP.seq ?_
 refine ns ?_
 refine AWP.seq ?_
 refine ns ?_
 refine AWP.seq ?_
 refine AWP.seq ?_
 refine ns ?_
 refine AWP.block ?_
 refine AWP.loop ?_
 refine AWL.weak (rn []) ?_ (Zjy n (ByteArray.mk #[40]) 1 _ hF)
 exact (WS.mk (tc (tc (tc Zb))) Zc)

def Zbf (s : ByteArray) (n_3 : Nat) : Option (Int) :=
 if (decide (((n_3 : Nat) : Int) ≤ 7)) = true then
 Zci ((n_3 : Nat) : Int) >>= fun r10 =>
 if (s.toList == r10.toList) = true then
 some ((n_3 : Nat) : Int)
 else
 Z5 (n_3 + 1 ≤ 9223372036854775807) >>= fun _ =>
 Zbf s (n_3 + 1)
 else
 some 0
 partial_fixpoint
def Zbf.M (s : ByteArray) (n_3 : Nat) (r : Int) : Prop :=
 AWL Tryz.prog 13 (Code.sub (Zq Tryz.f107) [1, 0, 1, 0, 0]) (Code.cont Tryz.prog 13 (Zq Tryz.f107) [1, 0, 1, 0] (ZbW tab Tryz.f107.results (ZbY (.c none (.v (.int .i64 r))) []))) ⟨[(0, .c none (.v (.string s))), (3, .c none (.v (.int .i64 ((n_3 : Nat) : Int))))], []⟩
theorem Zlx (s : ByteArray) (n_3 : Nat) : ∀ r, Zbf s n_3 = some r → Zbf.M s n_3 r := by
 refine Zbf.partial_correctness s (fun n_3 r => Zbf.M s n_3 r) ?_ n_3
 intro lazycref04_Arity_l1' Zhe n_3 r hF
 have ZlP := fun (_s : ByteArray) (n_3 : Nat) => Zhe n_3
 clear Zhe
 unfold Zbf.M
 refine AWL.step ?_
 refine AWP.seq ?_
 refine AWP.seq ?_
 refine ns ?_
 refine nw ?_
 refine Zi hF (fun hc9 hF => ?_) (fun hc9 hF => ?_)
 ·refine nw ?_
  refine AWP.seq ?_
  refine AWP.block ?_
  refine AWP.seq ?_
  obtain ⟨r10, ZzF, hF⟩ := bind_some hF
  refine ns ?_
  refine e3 ?_
  refine st ?_
  refine cm (Zj.weak (rn []) (Zk0 ((n_3 : Nat) : Int) _ ZzF) rfl (WS.mk (tc Zb) Zc)) ?_
  refine st ?_
  refine nw ?_
  refine Zi hF (fun ZcS hF => ?_) (fun ZcS hF => ?_)
  ·refine AWP.seq ?_
   refine ns ?_
   obtain rfl := Zg hF
   refine ns ?_
   refine Exists.intro [] ?_
   refine st ?_
   exact wx (WS.mk (tc Zb) Zc)
  ·refine nw ?_
   obtain ⟨ZCy, hF⟩ := Zy hF
   refine ns ?_
   refine AWL.weak (rn []) ?_ (ZlP s (n_3 + 1) _ hF)
   exact (WS.mk (tc (Zd (Zr (Zdf (Zdu ZCy))) Zb)) Zc)
 ·refine nw ?_
  refine AWP.seq ?_
  refine ns ?_
  obtain rfl := Zg hF
  refine ns ?_
  refine Exists.intro [] ?_
  refine st ?_
  exact wx (WS.mk (tc Zb) Zc)

def ZdS (s : ByteArray) : Option (Int) :=
 Zbf s 2
def ZdS.M (s : ByteArray) (r : Int) : Prop :=
 Zj Tryz.prog 107 [.c none (.v (.string s))] [] (fun d b => d = .c none (.v (.int .i64 r)) ∧ b = [])
theorem ZnS (s : ByteArray) (r : Int) (hF : ZdS s = some r) : ZdS.M s r := by
 unfold ZdS at hF
 unfold ZdS.M
 refine en Tryz.func107 ?_
 refine AWP.seq ?_
 refine ns ?_
 refine AWP.seq ?_
 refine AWP.seq ?_
 refine ns ?_
 refine AWP.block ?_
 refine AWP.loop ?_
 refine AWL.weak (rn []) ?_ (Zlx s 2 _ hF)
 exact (WS.mk (tc (tc Zb)) Zc)

def Zbk (b_3 : ByteArray) : Option (Bool) :=
 Zbv b_3 >>= fun r5 =>
 some ((r5 == 2) || (r5 == 4))
def Zbk.M (b_3 : ByteArray) (r : Bool) : Prop :=
 AWP Tryz.prog 34 (Code.sub (Zq Tryz.f106) [1, 1, 1, 1, 1]) (Code.cont Tryz.prog 34 (Zq Tryz.f106) [1, 1, 1, 1, 1] (ZbW tab Tryz.f106.results (ZbY (.c none (.v (.bool r))) []))) ⟨[(3, .c none (.v (.string b_3)))], []⟩
theorem Zgq (b_3 : ByteArray) (r : Bool) (hF : Zbk b_3 = some r) : Zbk.M b_3 r := by
 unfold Zbk at hF
 unfold Zbk.M
 refine AWP.seq ?_
 obtain ⟨r5, hr5, hF⟩ := bind_some hF
 refine ns ?_
 refine e3 ?_
 refine st ?_
 refine cm (Zj.weak (rn []) (ZdX b_3 _ hr5) rfl (WS.mk (tc Zb) Zc)) ?_
 refine st ?_
 refine AWP.seq ?_
 refine AWP.cutN (fun T => ∃ r, WS r T ⟨[(2, .c none (.v (.bool ((r5 == 2) || (r5 == 4)))))], []⟩) ?_ (fun T hw => ?_)
 ·refine ns ?_
  refine Zm false (fun hc6 => ?_) (fun hc6 => ?_)
  ·(conv => whnf)
   refine st ?_
   exact wx (WS.mk (Zd (Zr (web hc6)) Zb) Zc)
  ·(conv => whnf)
   refine st ?_
   exact wx (WS.mk (Zd (Zr (web hc6)) Zb) Zc)
 obtain ⟨r0, hw⟩ := hw
 (conv => whnf)
 refine AWP.weak r0 hw ?_
 obtain rfl := Zg hF
 refine ns ?_
 refine Exists.intro [] ?_
 refine st ?_
 exact wx (WS.mk (tc Zb) Zc)

def Zbj (b_3 : ByteArray) : Option (Bool) :=
 ZcY b_3 >>= fun r3 =>
 if r3.2.2 = true then
 Zbk r3.2.1
 else
 Zbk b_3
def Zbj.M (b_3 : ByteArray) (r : Bool) : Prop :=
 AWP Tryz.prog 34 (Code.sub (Zq Tryz.f106) [1, 1, 1]) (Code.cont Tryz.prog 34 (Zq Tryz.f106) [1, 1, 1] (ZbW tab Tryz.f106.results (ZbY (.c none (.v (.bool r))) []))) ⟨[(3, .c none (.v (.string b_3)))], []⟩
theorem Zgm (b_3 : ByteArray) (r : Bool) (hF : Zbj b_3 = some r) : Zbj.M b_3 r := by
 unfold Zbj at hF
 unfold Zbj.M
 refine AWP.seq ?_
 obtain ⟨r3, hr3, hF⟩ := bind_some hF
 refine ns ?_
 refine e3 ?_
 refine st ?_
 refine cm (Zj.weak (rn []) (Zi5 b_3 _ hr3) rfl (WS.mk (tc Zb) Zc)) ?_
 refine st ?_
 refine AWP.seq ?_
 refine AWP.seq ?_
 refine ns ?_
 refine nw ?_
 refine Zi hF (fun hc7 hF => ?_) (fun hc7 hF => ?_)
 ·refine ns ?_
  refine AWP.weak (rn []) ?_ (Zgq r3.2.1 _ hF)
  exact (WS.mk (tc Zb) Zc)
 ·refine nw ?_
  refine AWP.weak (rn []) ?_ (Zgq b_3 _ hF)
  exact (WS.mk (tc Zb) Zc)

def ZcD (s : ByteArray) : Option (Bool) :=
 ZcW s >>= fun r1 =>
 if (!r1.2.2) = true then
 Zbj s
 else
 Zbj r1.1
def ZcD.M (s : ByteArray) (r : Bool) : Prop :=
 Zj Tryz.prog 106 [.c none (.v (.string s))] [] (fun d b => d = .c none (.v (.bool r)) ∧ b = [])
theorem Zlt (s : ByteArray) (r : Bool) (hF : ZcD s = some r) : ZcD.M s r := by
 unfold ZcD at hF
 unfold ZcD.M
 refine en Tryz.func106 ?_
 refine AWP.seq ?_
 refine ns ?_
 refine AWP.seq ?_
 obtain ⟨r1, hr1, hF⟩ := bind_some hF
 refine ns ?_
 refine e3 ?_
 refine st ?_
 refine cm (Zj.weak (rn []) (Zg2 s _ hr1) rfl (WS.mk (tc Zb) Zc)) ?_
 refine st ?_
 refine AWP.seq ?_
 refine AWP.seq ?_
 refine ns ?_
 refine nw ?_
 refine Zi hF (fun hc8 hF => ?_) (fun hc8 hF => ?_)
 ·refine ns ?_
  refine AWP.weak (rn []) ?_ (Zgm s _ hF)
  exact (WS.mk (tc Zb) Zc)
 ·refine nw ?_
  refine AWP.weak (rn []) ?_ (Zgm r1.1 _ hF)
  exact (WS.mk (tc Zb) Zc)

def ZcP (s : ByteArray) : Option (Bool) :=
 ZcD s >>= fun r1 =>
 (if (((r1 || (s.toList == (ByteArray.mk #[45, 62]).toList)) || (s.toList == (ByteArray.mk #[91, 93]).toList)) || (s.toList == (ByteArray.mk #[40, 41]).toList)) = true then some true else ZdS s >>= fun r2 =>
 some (decide (r2 > 0))) >>= fun c3 =>
 some c3
def ZcP.M (s : ByteArray) (r : Bool) : Prop :=
 Zj Tryz.prog 81 [.c none (.v (.string s))] [] (fun d b => d = .c none (.v (.bool r)) ∧ b = [])
theorem Zml (s : ByteArray) (r : Bool) (hF : ZcP s = some r) : ZcP.M s r := by
 unfold ZcP at hF
 unfold ZcP.M
 refine en Tryz.func81 ?_
 refine AWP.seq ?_
 refine ns ?_
 refine AWP.seq ?_
 obtain ⟨r1, hr1, hF⟩ := bind_some hF
 obtain ⟨c3, hc3, hF⟩ := bind_some hF
 refine AWP.cutN (fun T => ∃ r, WS r T ⟨[(2, .c none (.v (.bool c3)))], []⟩) ?_ (fun T hw => ?_)
 ·refine ns ?_
  refine e3 ?_
  refine st ?_
  refine cm (Zj.weak (rn []) (Zlt s _ hr1) rfl (WS.mk (tc Zb) Zc)) ?_
  refine st ?_
  refine Zm false (fun hc4 => ?_) (fun hc4 => ?_)
  ·(conv => whnf)
   have hc3 := ift hc4 hc3
   obtain rfl := Zg hc3
   refine st ?_
   exact wx (WS.mk (Zd (Zr (web hc4)) Zb) Zc)
  ·(conv => whnf)
   refine st ?_
   refine Zm false (fun hc5 => ?_) (fun hc5 => ?_)
   ·(conv => whnf)
    have hc3 := ift (And.intro hc4 hc5) hc3
    obtain rfl := Zg hc3
    refine st ?_
    exact wx (WS.mk (Zd (Zr (web (And.intro hc4 hc5))) Zb) Zc)
   ·(conv => whnf)
    refine st ?_
    refine Zm false (fun hc6 => ?_) (fun hc6 => ?_)
    ·(conv => whnf)
     have hc3 := ift (And.intro hc4 (And.intro hc5 hc6)) hc3
     obtain rfl := Zg hc3
     refine st ?_
     exact wx (WS.mk (Zd (Zr (web (And.intro hc4 (And.intro hc5 hc6)))) Zb) Zc)
    ·(conv => whnf)
     refine st ?_
     refine Zm false (fun hc7 => ?_) (fun hc7 => ?_)
     ·have hc3 := ift (And.intro hc4 (And.intro hc5 (And.intro hc6 hc7))) hc3
      (conv => whnf)
      obtain rfl := Zg hc3
      refine st ?_
      exact wx (WS.mk (Zd (Zr (web (And.intro hc4 (And.intro hc5 (And.intro hc6 hc7))))) Zb) Zc)
     ·have hc3 := ife (And.intro hc4 (And.intro hc5 (And.intro hc6 hc7))) hc3
      obtain ⟨r2, hr2, hc3⟩ := bind_some hc3
      (conv => whnf)
      refine st ?_
      refine e3 ?_
      refine st ?_
      refine cm (Zj.weak (rn []) (ZnS s _ hr2) rfl (WS.mk (tc Zb) Zc)) ?_
      refine st ?_
      obtain rfl := Zg hc3
      refine st ?_
      exact wx (WS.mk (Zd (Zr (web (And.intro hc4 (And.intro hc5 (And.intro hc6 hc7))))) Zb) Zc)
 obtain ⟨r0, hw⟩ := hw
 (conv => whnf)
 refine AWP.weak r0 hw ?_
 obtain rfl := Zg hF
 refine ns ?_
 refine Exists.intro [] ?_
 refine st ?_
 exact wx (WS.mk (tc Zb) Zc)

def ZbB (s : ByteArray) : Option (Bool) :=
 ZcW s >>= fun r1 =>
 if r1.2.2 = true then
 Zbv r1.1 >>= fun r5 =>
 some (r5 == 1)
 else
 Zbv s >>= fun r6 =>
 some ((r6 == 1) && (!(s.toList == (ByteArray.mk #[102, 111, 114, 97, 108, 108]).toList)))
def ZbB.M (s : ByteArray) (r : Bool) : Prop :=
 Zj Tryz.prog 37 [.c none (.v (.string s))] [] (fun d b => d = .c none (.v (.bool r)) ∧ b = [])
theorem ZfF (s : ByteArray) (r : Bool) (hF : ZbB s = some r) : ZbB.M s r := by
 unfold ZbB at hF
 unfold ZbB.M
 refine en Tryz.func37 ?_
 refine AWP.seq ?_
 refine ns ?_
 refine AWP.seq ?_
 obtain ⟨r1, hr1, hF⟩ := bind_some hF
 refine ns ?_
 refine e3 ?_
 refine st ?_
 refine cm (Zj.weak (rn []) (Zg2 s _ hr1) rfl (WS.mk (tc Zb) Zc)) ?_
 refine st ?_
 refine AWP.seq ?_
 refine AWP.seq ?_
 refine ns ?_
 refine nw ?_
 refine Zi hF (fun hc4 hF => ?_) (fun hc4 hF => ?_)
 ·refine AWP.seq ?_
  obtain ⟨r5, hr5, hF⟩ := bind_some hF
  refine ns ?_
  refine e3 ?_
  refine st ?_
  refine cm (Zj.weak (rn []) (ZdX r1.1 _ hr5) rfl (WS.mk (tc Zb) Zc)) ?_
  refine st ?_
  obtain rfl := Zg hF
  refine ns ?_
  refine Exists.intro [] ?_
  refine st ?_
  exact wx (WS.mk (tc Zb) Zc)
 ·refine nw ?_
  refine AWP.seq ?_
  obtain ⟨r6, hr6, hF⟩ := bind_some hF
  refine AWP.cutN (fun T => ∃ r, WS r T ⟨[(2, .c none (.v (.bool ((r6 == 1) && (!(s.toList == (ByteArray.mk #[102, 111, 114, 97, 108, 108]).toList))))))], []⟩) ?_ (fun T hw => ?_)
  ·refine ns ?_
   refine e3 ?_
   refine st ?_
   refine cm (Zj.weak (rn []) (ZdX s _ hr6) rfl (WS.mk (tc Zb) Zc)) ?_
   refine st ?_
   refine Zm true (fun hc7 => ?_) (fun hc7 => ?_)
   ·(conv => whnf)
    refine st ?_
    exact wx (WS.mk (Zd (Zr (web hc7)) Zb) Zc)
   ·(conv => whnf)
    refine st ?_
    exact wx (WS.mk (Zd (Zr (web hc7)) Zb) Zc)
  obtain ⟨r0, hw⟩ := hw
  (conv => whnf)
  refine AWP.weak r0 hw ?_
  obtain rfl := Zg hF
  refine ns ?_
  refine Exists.intro [] ?_
  refine st ?_
  exact wx (WS.mk (tc Zb) Zc)

mutual
def ZaQ (t : Za) : Option (Bool) :=
 ZaM 0 t t.fKids
 partial_fixpoint
def ZaM (i_3 : Nat) (t : Za) (ZeZ : (List Za)) : Option (Bool) :=
 (match ZeZ with
 | x39 :: Zwt =>
 ZaQ x39 >>= fun r42 =>
 if (!r42) = true then
 some false
 else
 ZaM (i_3 + 1) t Zwt
 | [] =>
 if (t.fOp == 1) = true then
 ZbB t.fName >>= fun r46 =>
 some ((r46 && (((t.fBound.fArgs.length : Nat) : Int) == 0)) && (((t.fKids.length : Nat) : Int) == 0))
 else
 if (t.fOp == 2) = true then
 ZcP t.fName >>= fun r51 =>
 some ((r51 && (((t.fBound.fArgs.length : Nat) : Int) == 0)) && (((t.fKids.length : Nat) : Int) == 0))
 else
 if (t.fOp == 3) = true then
 some (((t.fName.toList == (ByteArray.mk #[]).toList) && (((t.fBound.fArgs.length : Nat) : Int) == 0)) && (((t.fKids.length : Nat) : Int) == 2))
 else
 if (t.fOp == 4) = true then
 ZbB t.fName >>= fun r60 =>
 some (r60 && (((t.fKids.length : Nat) : Int) == 1))
 else
 some false)
 partial_fixpoint
end
def ZaQ.M (t : Za) (r : Bool) : Prop :=
 Zj Tryz.prog 56 [.agg [.v (.int .i64 t.fOp), .v (.string t.fName), .sl (t.fBound.fArgs.map Zk.cells), .sl (t.fKids.map Za.cells)]] [] (fun d b => d = .c none (.v (.bool r)) ∧ b = [])
def ZaM.M (i_3 : Nat) (t : Za) (ZeZ : (List Za)) (r : Bool) : Prop :=
 ∀ Zjg : List Za, t.fKids = Zjg ++ ZeZ → i_3 = Zjg.length → AWL Tryz.prog 79 (Code.sub (Zq Tryz.f56) [1, 0, 1, 0, 0]) (Code.cont Tryz.prog 79 (Zq Tryz.f56) [1, 0, 1, 0] (ZbW tab Tryz.f56.results (ZbY (.c none (.v (.bool r))) []))) ⟨[(1, .ptr 1 0), (3, .c none (.v (.int .i64 ((i_3 : Nat) : Int))))], [(1, [(none, .v (.int .i64 t.fOp)), (none, .v (.string t.fName)), (none, .sl (t.fBound.fArgs.map Zk.cells)), (none, .sl (t.fKids.map Za.cells))])]⟩
theorem Zh3 : (∀ (t : Za), ∀ r, ZaQ t = some r → ZaQ.M t r) ∧ (∀ (i_3 : Nat) (t : Za) (ZeZ : (List Za)), ∀ r, ZaM i_3 t ZeZ = some r → ZaM.M i_3 t ZeZ r) := by
 refine ZaQ.mutual_partial_correctness ZaQ.M ZaM.M ?_ ?_
 ·intro lazycref04_formed_l1' Ze9 t r hF
  unfold ZaQ.M
  refine en Tryz.func56 ?_
  refine AWP.seq ?_
  refine ns ?_
  refine AWP.seq ?_
  refine AWP.seq ?_
  refine ns ?_
  refine AWP.block ?_
  refine AWP.loop ?_
  refine AWL.weak (rn []) ?_ (Ze9 0 t t.fKids _ hF ([]) rfl rfl)
  exact (WS.mk (tp (tc Zb)) (Zf rfl (cc (cc (cc (cc Zh)))) Zc))
 ·intro lazycref04_formed' lazycref04_formed_l1' ZmN Ze9 i_3 t ZeZ r hF
  unfold ZaM.M
  intro Zjg Zr5 Zrk
  refine AWL.step ?_
  refine AWP.seq ?_
  refine AWP.seq ?_
  refine ns ?_
  intro hlen38
  (try rw [List.length_map] at hlen38)
  (try rw [List.length_map])
  refine st ?_
  refine nw ?_
  refine ZN Zr5 Zrk (fun x39 Zwt Zv5 ZBn ZEr => ?_) (fun Zv5 => ?_)
  ·subst Zv5
   refine nw ?_
   refine AWP.seq ?_
   refine AWP.block ?_
   refine AWP.seq ?_
   obtain ⟨r42, ZIH, hF⟩ := bind_some hF
   refine nn ?_
   refine sr (Zab (f := Za.cells) (Za.cells_eq x39) ZBn) ?_
   refine st ?_
   refine e3 ?_
   refine st ?_
   refine cm (Zj.weak (rn []) (ZmN x39 _ ZIH) rfl (WS.mk (Zd (Zt (lc (lc (lc (lc Zo))))) Zb) Zc)) ?_
   refine st ?_
   refine nw ?_
   refine Zi hF (fun ZCj hF => ?_) (fun ZCj hF => ?_)
   ·refine AWP.seq ?_
    refine ns ?_
    obtain rfl := Zg hF
    refine ns ?_
    refine Exists.intro [] ?_
    refine st ?_
    exact wx (WS.mk (tc Zb) Zc)
   ·refine nw ?_
    refine ns ?_
    refine AWL.weak (rn []) ?_ (Ze9 (i_3 + 1) t Zwt _ hF (Zjg ++ [x39]) (by rw [Zr5]; simp) (by rw [Zrk]; simp))
    exact (WS.mk (tp (Zd (Zr (Zdf (ZV hlen38 ZEr))) Zb)) (Zf rfl (cc (cc (cc (cc Zh)))) Zc))
  ·subst Zv5
   refine nw ?_
   refine AWP.seq ?_
   refine ns ?_
   intro hlen44
   (try rw [List.length_map] at hlen44)
   (try rw [List.length_map])
   refine st ?_
   refine AWP.seq ?_
   refine AWP.seq ?_
   refine ns ?_
   refine AWP.block ?_
   refine AWP.seq ?_
   refine ns ?_
   refine nw ?_
   refine Zi hF (fun ZEe hF => ?_) (fun ZEe hF => ?_)
   ·refine AWP.seq ?_
    obtain ⟨r46, ZGO, hF⟩ := bind_some hF
    refine AWP.cutN (fun T => ∃ r, WS r T ⟨[(2, .c none (.v (.bool ((r46 && (((t.fBound.fArgs.length : Nat) : Int) == 0)) && (((t.fKids.length : Nat) : Int) == 0)))))], []⟩) ?_ (fun T hw => ?_)
    ·refine ns ?_
     refine e3 ?_
     refine st ?_
     refine cm (Zj.weak (rn []) (ZfF t.fName _ ZGO) rfl (WS.mk (tc Zb) Zc)) ?_
     refine st ?_
     refine Zm true (fun ZBp => ?_) (fun ZBp => ?_)
     ·(conv => whnf)
      refine st ?_
      refine Zm true (fun ZCB => ?_) (fun ZCB => ?_)
      ·(conv => whnf)
       refine st ?_
       intro hlen47
       (try rw [List.length_map] at hlen47)
       (try rw [List.length_map])
       refine st ?_
       exact wx (WS.mk (Zd (Zr (web (And.intro ZBp ZCB))) Zb) Zc)
      ·(conv => whnf)
       refine st ?_
       exact wx (WS.mk (Zd (Zr (web (And.intro ZBp ZCB))) Zb) Zc)
     ·(conv => whnf)
      refine st ?_
      exact wx (WS.mk (Zd (Zr (web ZBp)) Zb) Zc)
    obtain ⟨r0, hw⟩ := hw
    (conv => whnf)
    refine AWP.weak r0 hw ?_
    obtain rfl := Zg hF
    refine ns ?_
    refine Exists.intro [] ?_
    refine st ?_
    exact wx (WS.mk (tc Zb) Zc)
   ·refine AWP.seq ?_
    refine ns ?_
    refine nw ?_
    refine Zi hF (fun ZCz hF => ?_) (fun ZCz hF => ?_)
    ·refine AWP.seq ?_
     obtain ⟨r51, ZGS, hF⟩ := bind_some hF
     refine AWP.cutN (fun T => ∃ r, WS r T ⟨[(2, .c none (.v (.bool ((r51 && (((t.fBound.fArgs.length : Nat) : Int) == 0)) && (((t.fKids.length : Nat) : Int) == 0)))))], []⟩) ?_ (fun T hw => ?_)
     ·refine ns ?_
      refine e3 ?_
      refine st ?_
      refine cm (Zj.weak (rn []) (Zml t.fName _ ZGS) rfl (WS.mk (tc Zb) Zc)) ?_
      refine st ?_
      refine Zm true (fun ZBO => ?_) (fun ZBO => ?_)
      ·(conv => whnf)
       refine st ?_
       refine Zm true (fun ZiE => ?_) (fun ZiE => ?_)
       ·(conv => whnf)
        refine st ?_
        intro hlen52
        (try rw [List.length_map] at hlen52)
        (try rw [List.length_map])
        refine st ?_
        exact wx (WS.mk (Zd (Zr (web (And.intro ZBO ZiE))) Zb) Zc)
       ·(conv => whnf)
        refine st ?_
        exact wx (WS.mk (Zd (Zr (web (And.intro ZBO ZiE))) Zb) Zc)
      ·(conv => whnf)
       refine st ?_
       exact wx (WS.mk (Zd (Zr (web ZBO)) Zb) Zc)
     obtain ⟨r0, hw⟩ := hw
     (conv => whnf)
     refine AWP.weak r0 hw ?_
     obtain rfl := Zg hF
     refine ns ?_
     refine Exists.intro [] ?_
     refine st ?_
     exact wx (WS.mk (tc Zb) Zc)
    ·refine AWP.seq ?_
     refine ns ?_
     refine nw ?_
     refine Zi hF (fun Zto hF => ?_) (fun Zto hF => ?_)
     ·refine AWP.seq ?_
      refine AWP.cutN (fun T => ∃ r, WS r T ⟨[(2, .c none (.v (.bool (((t.fName.toList == (ByteArray.mk #[]).toList) && (((t.fBound.fArgs.length : Nat) : Int) == 0)) && (((t.fKids.length : Nat) : Int) == 2)))))], []⟩) ?_ (fun T hw => ?_)
      ·refine ns ?_
       refine Zm true (fun Zh6 => ?_) (fun Zh6 => ?_)
       ·(conv => whnf)
        refine st ?_
        refine Zm true (fun Zm6 => ?_) (fun Zm6 => ?_)
        ·(conv => whnf)
         refine st ?_
         intro hlen56
         (try rw [List.length_map] at hlen56)
         (try rw [List.length_map])
         refine st ?_
         exact wx (WS.mk (Zd (Zr (web (And.intro Zh6 Zm6))) Zb) Zc)
        ·(conv => whnf)
         refine st ?_
         exact wx (WS.mk (Zd (Zr (web (And.intro Zh6 Zm6))) Zb) Zc)
       ·(conv => whnf)
        refine st ?_
        exact wx (WS.mk (Zd (Zr (web Zh6)) Zb) Zc)
      obtain ⟨r0, hw⟩ := hw
      (conv => whnf)
      refine AWP.weak r0 hw ?_
      obtain rfl := Zg hF
      refine ns ?_
      refine Exists.intro [] ?_
      refine st ?_
      exact wx (WS.mk (tc Zb) Zc)
     ·refine AWP.seq ?_
      refine ns ?_
      refine nw ?_
      refine Zi hF (fun Zvz hF => ?_) (fun Zvz hF => ?_)
      ·refine AWP.seq ?_
       obtain ⟨r60, ZCF, hF⟩ := bind_some hF
       refine AWP.cutN (fun T => ∃ r, WS r T ⟨[(2, .c none (.v (.bool (r60 && (((t.fKids.length : Nat) : Int) == 1)))))], []⟩) ?_ (fun T hw => ?_)
       ·refine ns ?_
        refine e3 ?_
        refine st ?_
        refine cm (Zj.weak (rn []) (ZfF t.fName _ ZCF) rfl (WS.mk (tc Zb) Zc)) ?_
        refine st ?_
        refine Zm true (fun Zvo => ?_) (fun Zvo => ?_)
        ·(conv => whnf)
         refine st ?_
         intro hlen61
         (try rw [List.length_map] at hlen61)
         (try rw [List.length_map])
         refine st ?_
         exact wx (WS.mk (Zd (Zr (web Zvo)) Zb) Zc)
        ·(conv => whnf)
         refine st ?_
         exact wx (WS.mk (Zd (Zr (web Zvo)) Zb) Zc)
       obtain ⟨r0, hw⟩ := hw
       (conv => whnf)
       refine AWP.weak r0 hw ?_
       obtain rfl := Zg hF
       refine ns ?_
       refine Exists.intro [] ?_
       refine st ?_
       exact wx (WS.mk (tc Zb) Zc)
      ·refine nw ?_
       refine AWP.seq ?_
       refine ns ?_
       obtain rfl := Zg hF
       refine ns ?_
       refine Exists.intro [] ?_
       refine st ?_
       exact wx (WS.mk (tc Zb) Zc)
theorem Zm5 : ∀ (t : Za), ∀ r, ZaQ t = some r → ZaQ.M t r := Zh3.1
theorem lazycref04_formed_l1_ok : ∀ (i_3 : Nat) (t : Za) (ZeZ : (List Za)), ∀ r, ZaM i_3 t ZeZ = some r → ZaM.M i_3 t ZeZ r := Zh3.2

mutual
def Zan (k : Zk) : Option (Int) :=
 Zaj 0 0 k k.fArgs
 partial_fixpoint
def Zaj (n_3 : Int) (i_4 : Nat) (k : Zk) (ZaO : (List Zk)) : Option (Int) :=
 (match ZaO with
 | x16 :: ZjO =>
 Zan x16 >>= fun r19 =>
 Zaj (if r19 > n_3 then r19 else n_3) (i_4 + 1) k ZjO
 | [] =>
 some (IntKind.i64.wrap (n_3 + 1)))
 partial_fixpoint
end
def Zan.M (k : Zk) (r : Int) : Prop :=
 Zj Tryz.prog 83 [.agg [.sl (k.fArgs.map Zk.cells)]] [] (fun d b => d = .c none (.v (.int .i64 r)) ∧ b = [])
def Zaj.M (n_3 : Int) (i_4 : Nat) (k : Zk) (ZaO : (List Zk)) (r : Int) : Prop :=
 ∀ Zdy : List Zk, k.fArgs = Zdy ++ ZaO → i_4 = Zdy.length → AWL Tryz.prog 22 (Code.sub (Zq Tryz.f83) [1, 1, 0, 1, 0, 0]) (Code.cont Tryz.prog 22 (Zq Tryz.f83) [1, 1, 0, 1, 0] (ZbW tab Tryz.f83.results (ZbY (.c none (.v (.int .i64 r))) []))) ⟨[(1, .ptr 1 0), (3, .c none (.v (.int .i64 n_3))), (4, .c none (.v (.int .i64 ((i_4 : Nat) : Int))))], [(1, [(none, .sl (k.fArgs.map Zk.cells))])]⟩
theorem ZgF : (∀ (k : Zk), ∀ r, Zan k = some r → Zan.M k r) ∧ (∀ (n_3 : Int) (i_4 : Nat) (k : Zk) (ZaO : (List Zk)), ∀ r, Zaj n_3 i_4 k ZaO = some r → Zaj.M n_3 i_4 k ZaO r) := by
 refine Zan.mutual_partial_correctness Zan.M Zaj.M ?_ ?_
 ·intro lazycref04_KindDepth_l1' Zex k r hF
  unfold Zan.M
  refine en Tryz.func83 ?_
  refine AWP.seq ?_
  refine ns ?_
  refine AWP.seq ?_
  refine ns ?_
  refine AWP.seq ?_
  refine AWP.seq ?_
  refine ns ?_
  refine AWP.block ?_
  refine AWP.loop ?_
  refine AWL.weak (rn []) ?_ (Zex 0 0 k k.fArgs _ hF ([]) rfl rfl)
  exact (WS.mk (tp (tc (tc Zb))) (Zf rfl (cc Zh) Zc))
 ·intro lazycref04_KindDepth' lazycref04_KindDepth_l1' Zk5 Zex n_3 i_4 k ZaO r hF
  unfold Zaj.M
  intro Zdy ZhJ Zhz
  refine AWL.step ?_
  refine AWP.seq ?_
  refine AWP.seq ?_
  refine ns ?_
  intro hlen15
  (try rw [List.length_map] at hlen15)
  (try rw [List.length_map])
  refine st ?_
  refine nw ?_
  refine ZN ZhJ Zhz (fun x16 ZjO ZjP Zrd ZqM => ?_) (fun ZjP => ?_)
  ·subst ZjP
   refine nw ?_
   refine AWP.seq ?_
   refine AWP.block ?_
   obtain ⟨r19, Ztl, hF⟩ := bind_some hF
   refine nn ?_
   refine sr (Zab (f := Zk.cells) (Zk.cells_eq x16) Zrd) ?_
   refine st ?_
   refine e3 ?_
   refine st ?_
   refine cm (Zj.weak (rn []) (Zk5 x16 _ Ztl) rfl (WS.mk (Zd (Zt (lc Zo)) Zb) Zc)) ?_
   refine st ?_
   refine ns ?_
   refine AWL.weak (rn []) ?_ (Zex (if r19 > n_3 then r19 else n_3) (i_4 + 1) k ZjO _ hF (Zdy ++ [x16]) (by rw [ZhJ]; simp) (by rw [Zhz]; simp))
   exact (WS.mk (tp (tc (Zd (Zr (Zdf (ZV hlen15 ZqM))) Zb))) (Zf rfl (cc Zh) Zc))
  ·subst ZjP
   refine nw ?_
   refine AWP.seq ?_
   refine ns ?_
   obtain rfl := Zg hF
   refine ns ?_
   refine Exists.intro [] ?_
   refine st ?_
   exact wx (WS.mk (tc Zb) Zc)
theorem ZkT : ∀ (k : Zk), ∀ r, Zan k = some r → Zan.M k r := ZgF.1
theorem lazycref04_KindDepth_l1_ok : ∀ (n_3 : Int) (i_4 : Nat) (k : Zk) (ZaO : (List Zk)), ∀ r, Zaj n_3 i_4 k ZaO = some r → Zaj.M n_3 i_4 k ZaO r := ZgF.2

mutual
def Zav (k : Zk) : Option (Int) :=
 Zat 1 0 k k.fArgs
 partial_fixpoint
def Zat (n_3 : Int) (i_4 : Nat) (k : Zk) (ZaO : (List Zk)) : Option (Int) :=
 (match ZaO with
 | x16 :: ZjO =>
 Zav x16 >>= fun r19 =>
 Zat (IntKind.i64.wrap (n_3 + r19)) (i_4 + 1) k ZjO
 | [] =>
 some n_3)
 partial_fixpoint
end
def Zav.M (k : Zk) (r : Int) : Prop :=
 Zj Tryz.prog 82 [.agg [.sl (k.fArgs.map Zk.cells)]] [] (fun d b => d = .c none (.v (.int .i64 r)) ∧ b = [])
def Zat.M (n_3 : Int) (i_4 : Nat) (k : Zk) (ZaO : (List Zk)) (r : Int) : Prop :=
 ∀ Zdy : List Zk, k.fArgs = Zdy ++ ZaO → i_4 = Zdy.length → AWL Tryz.prog 21 (Code.sub (Zq Tryz.f82) [1, 1, 0, 1, 0, 0]) (Code.cont Tryz.prog 21 (Zq Tryz.f82) [1, 1, 0, 1, 0] (ZbW tab Tryz.f82.results (ZbY (.c none (.v (.int .i64 r))) []))) ⟨[(1, .ptr 1 0), (3, .c none (.v (.int .i64 n_3))), (4, .c none (.v (.int .i64 ((i_4 : Nat) : Int))))], [(1, [(none, .sl (k.fArgs.map Zk.cells))])]⟩
theorem Zhd : (∀ (k : Zk), ∀ r, Zav k = some r → Zav.M k r) ∧ (∀ (n_3 : Int) (i_4 : Nat) (k : Zk) (ZaO : (List Zk)), ∀ r, Zat n_3 i_4 k ZaO = some r → Zat.M n_3 i_4 k ZaO r) := by
 refine Zav.mutual_partial_correctness Zav.M Zat.M ?_ ?_
 ·intro lazycref04_KindSize_l1' ZeJ k r hF
  unfold Zav.M
  refine en Tryz.func82 ?_
  refine AWP.seq ?_
  refine ns ?_
  refine AWP.seq ?_
  refine ns ?_
  refine AWP.seq ?_
  refine AWP.seq ?_
  refine ns ?_
  refine AWP.block ?_
  refine AWP.loop ?_
  refine AWL.weak (rn []) ?_ (ZeJ 1 0 k k.fArgs _ hF ([]) rfl rfl)
  exact (WS.mk (tp (tc (tc Zb))) (Zf rfl (cc Zh) Zc))
 ·intro lazycref04_KindSize' lazycref04_KindSize_l1' ZlQ ZeJ n_3 i_4 k ZaO r hF
  unfold Zat.M
  intro Zdy ZhJ Zhz
  refine AWL.step ?_
  refine AWP.seq ?_
  refine AWP.seq ?_
  refine ns ?_
  intro hlen15
  (try rw [List.length_map] at hlen15)
  (try rw [List.length_map])
  refine st ?_
  refine nw ?_
  refine ZN ZhJ Zhz (fun x16 ZjO ZjP Zrd ZqM => ?_) (fun ZjP => ?_)
  ·subst ZjP
   refine nw ?_
   refine AWP.seq ?_
   refine AWP.block ?_
   obtain ⟨r19, Ztl, hF⟩ := bind_some hF
   refine nn ?_
   refine sr (Zab (f := Zk.cells) (Zk.cells_eq x16) Zrd) ?_
   refine st ?_
   refine e3 ?_
   refine st ?_
   refine cm (Zj.weak (rn []) (ZlQ x16 _ Ztl) rfl (WS.mk (Zd (Zt (lc Zo)) Zb) Zc)) ?_
   refine st ?_
   refine ns ?_
   refine AWL.weak (rn []) ?_ (ZeJ (IntKind.i64.wrap (n_3 + r19)) (i_4 + 1) k ZjO _ hF (Zdy ++ [x16]) (by rw [ZhJ]; simp) (by rw [Zhz]; simp))
   exact (WS.mk (tp (tc (Zd (Zr (Zdf (ZV hlen15 ZqM))) Zb))) (Zf rfl (cc Zh) Zc))
  ·subst ZjP
   refine nw ?_
   refine AWP.seq ?_
   refine ns ?_
   obtain rfl := Zg hF
   refine ns ?_
   refine Exists.intro [] ?_
   refine st ?_
   exact wx (WS.mk (tc Zb) Zc)
theorem Zle : ∀ (k : Zk), ∀ r, Zav k = some r → Zav.M k r := Zhd.1
theorem lazycref04_KindSize_l1_ok : ∀ (n_3 : Int) (i_4 : Nat) (k : Zk) (ZaO : (List Zk)), ∀ r, Zat n_3 i_4 k ZaO = some r → Zat.M n_3 i_4 k ZaO r := Zhd.2

mutual
def Za3 (t : Za) : Option (Int × Int) :=
 Zav t.fBound >>= fun r3 =>
 Zan t.fBound >>= fun r4 =>
 ZaV r3 r4 0 t t.fKids
 partial_fixpoint
def ZaV (ZcM : Int) (ZbH : Int) (i_6 : Nat) (t : Za) (Zer : (List Za)) : Option (Int × Int) :=
 (match Zer with
 | x20 :: ZD7 =>
 Za3 x20 >>= fun r23 =>
 ZaV (if r23.1 > ZcM then r23.1 else ZcM) (if r23.2 > ZbH then r23.2 else ZbH) (i_6 + 1) t ZD7
 | [] =>
 some (ZcM, ZbH))
 partial_fixpoint
end
def Za3.M (t : Za) (r : Int × Int) : Prop :=
 Zj Tryz.prog 57 [.agg [.v (.int .i64 t.fOp), .v (.string t.fName), .sl (t.fBound.fArgs.map Zk.cells), .sl (t.fKids.map Za.cells)]] [] (fun d b => d = .tup [.c (.v (.int .i64 r.1)), .c (.v (.int .i64 r.2))] ∧ b = [])
def ZaV.M (ZcM : Int) (ZbH : Int) (i_6 : Nat) (t : Za) (Zer : (List Za)) (r : Int × Int) : Prop :=
 ∀ Zjb : List Za, t.fKids = Zjb ++ Zer → i_6 = Zjb.length → AWL Tryz.prog 39 (Code.sub (Zq Tryz.f57) [1, 1, 0, 1, 0, 0]) (Code.cont Tryz.prog 39 (Zq Tryz.f57) [1, 1, 0, 1, 0] (ZbW tab Tryz.f57.results (ZbY (.tup [.c (.v (.int .i64 r.1)), .c (.v (.int .i64 r.2))]) []))) ⟨[(1, .ptr 1 0), (4, .c none (.v (.int .i64 ZcM))), (5, .c none (.v (.int .i64 ZbH))), (6, .c none (.v (.int .i64 ((i_6 : Nat) : Int))))], [(1, [(none, .v (.int .i64 t.fOp)), (none, .v (.string t.fName)), (none, .sl (t.fBound.fArgs.map Zk.cells)), (none, .sl (t.fKids.map Za.cells))])]⟩
theorem ZiG : (∀ (t : Za), ∀ r, Za3 t = some r → Za3.M t r) ∧ (∀ (ZcM : Int) (ZbH : Int) (i_6 : Nat) (t : Za) (Zer : (List Za)), ∀ r, ZaV ZcM ZbH i_6 t Zer = some r → ZaV.M ZcM ZbH i_6 t Zer r) := by
 refine Za3.mutual_partial_correctness Za3.M ZaV.M ?_ ?_
 ·intro lazycref04_kinds_l1' Zfq t r hF
  unfold Za3.M
  refine en Tryz.func57 ?_
  refine AWP.seq ?_
  refine ns ?_
  refine AWP.seq ?_
  obtain ⟨r3, hr3, hF⟩ := bind_some hF
  obtain ⟨r4, hr4, hF⟩ := bind_some hF
  refine nn ?_
  refine Or.inr (Exists.intro [3, 4] (Exists.intro [[12, 13], [13]] (Exists.intro [1] (Exists.intro [1, 12, 13] (Exists.intro [12, 13] (Exists.intro [0, 1, 2, 5, 6, 7] (And.intro (by decide +kernel) ?_)))))))
  refine dp ?_
  refine dp ?_
  refine st ?_
  refine e3 ?_
  refine st ?_
  refine cm (Zj.weak (rn []) (Zle t.fBound _ hr3) rfl (WS.mk (Zd (Zt (lc Zo)) Zb) Zc)) ?_
  refine st ?_
  refine e3 ?_
  refine st ?_
  refine cm (Zj.weak (rn []) (ZkT t.fBound _ hr4) rfl (WS.mk (Zd (Zt (lc Zo)) Zb) Zc)) ?_
  refine st ?_
  refine AWP.seq ?_
  refine AWP.seq ?_
  refine ns ?_
  refine AWP.block ?_
  refine AWP.loop ?_
  refine AWL.weak (rn []) ?_ (Zfq r3 r4 0 t t.fKids _ hF ([]) rfl rfl)
  exact (WS.mk (tp (tc (tc (tc Zb)))) (Zf rfl (cc (cc (cc (cc Zh)))) Zc))
 ·intro lazycref04_kinds' lazycref04_kinds_l1' ZnE Zfq ZcM ZbH i_6 t Zer r hF
  unfold ZaV.M
  intro Zjb ZrB ZqT
  refine AWL.step ?_
  refine AWP.seq ?_
  refine AWP.seq ?_
  refine ns ?_
  intro hlen19
  (try rw [List.length_map] at hlen19)
  (try rw [List.length_map])
  refine st ?_
  refine nw ?_
  refine ZN ZrB ZqT (fun x20 ZD7 ZDY ZIu ZG9 => ?_) (fun ZDY => ?_)
  ·subst ZDY
   refine nw ?_
   refine AWP.seq ?_
   refine AWP.block ?_
   refine AWP.seq ?_
   obtain ⟨r23, Zz1, hF⟩ := bind_some hF
   refine nn ?_
   refine sr (Zab (f := Za.cells) (Za.cells_eq x20) ZIu) ?_
   refine st ?_
   refine e3 ?_
   refine st ?_
   refine cm (Zj.weak (rn []) (ZnE x20 _ Zz1) rfl (WS.mk (Zd (Zt (lc (lc (lc (lc Zo))))) Zb) Zc)) ?_
   refine st ?_
   refine AWP.seq ?_
   refine ns ?_
   refine ns ?_
   refine ns ?_
   refine AWL.weak (rn []) ?_ (Zfq (if r23.1 > ZcM then r23.1 else ZcM) (if r23.2 > ZbH then r23.2 else ZbH) (i_6 + 1) t ZD7 _ hF (Zjb ++ [x20]) (by rw [ZrB]; simp) (by rw [ZqT]; simp))
   exact (WS.mk (tp (tc (tc (Zd (Zr (Zdf (ZV hlen19 ZG9))) Zb)))) (Zf rfl (cc (cc (cc (cc Zh)))) Zc))
  ·subst ZDY
   refine nw ?_
   refine AWP.seq ?_
   refine ns ?_
   obtain rfl := Zg hF
   refine ns ?_
   refine Exists.intro [] ?_
   refine st ?_
   exact wx (WS.mk (Zd (Zc9 (ZcG (WE.refl _) (ZcG (WE.refl _) Zc7))) Zb) Zc)
theorem ZnA : ∀ (t : Za), ∀ r, Za3 t = some r → Za3.M t r := ZiG.1
theorem lazycref04_kinds_l1_ok : ∀ (ZcM : Int) (ZbH : Int) (i_6 : Nat) (t : Za) (Zer : (List Za)), ∀ r, ZaV ZcM ZbH i_6 t Zer = some r → ZaV.M ZcM ZbH i_6 t Zer r := ZiG.2

def ZaH (t : Za) : Option (Int) :=
 ZaQ t >>= fun r3 =>
 if (!r3) = true then
 some 1
 else
 Za3 t >>= fun r5 =>
 ZaL t >>= fun r8 =>
 if ((decide (r8 > 20000)) || (decide (r5.1 > 20000))) = true then
 some 3
 else
 ZaG t >>= fun r11 =>
 if ((decide (r11 > 100)) || (decide (r5.2 > 100))) = true then
 some 4
 else
 some 0
def ZaH.M (t : Za) (r : Int) : Prop :=
 Zj Tryz.prog 36 [.agg [.v (.int .i64 t.fOp), .v (.string t.fName), .sl (t.fBound.fArgs.map Zk.cells), .sl (t.fKids.map Za.cells)]] [] (fun d b => d = .c none (.v (.int .i64 r)) ∧ b = [])
theorem ZdI (t : Za) (r : Int) (hF : ZaH t = some r) : ZaH.M t r := by
 unfold ZaH at hF
 unfold ZaH.M
 refine en Tryz.func36 ?_
 refine AWP.seq ?_
 refine ns ?_
 refine AWP.seq ?_
 refine AWP.seq ?_
 obtain ⟨r3, hr3, hF⟩ := bind_some hF
 refine ns ?_
 refine e3 ?_
 refine st ?_
 refine cm (Zj.weak (rn []) (Zm5 t _ hr3) rfl (WS.mk (Zd (Zt (lc (lc (lc (lc Zo))))) Zb) Zc)) ?_
 refine st ?_
 refine nw ?_
 refine Zi hF (fun hc4 hF => ?_) (fun hc4 hF => ?_)
 ·refine AWP.seq ?_
  refine ns ?_
  obtain rfl := Zg hF
  refine ns ?_
  refine Exists.intro [] ?_
  refine st ?_
  exact wx (WS.mk (tc Zb) Zc)
 ·refine nw ?_
  refine AWP.seq ?_
  obtain ⟨r5, hr5, hF⟩ := bind_some hF
  refine ns ?_
  refine e3 ?_
  refine st ?_
  refine cm (Zj.weak (rn []) (ZnA t _ hr5) rfl (WS.mk (Zd (Zt (lc (lc (lc (lc Zo))))) Zb) Zc)) ?_
  refine st ?_
  refine AWP.seq ?_
  refine AWP.seq ?_
  obtain ⟨r8, hr8, hF⟩ := bind_some hF
  refine AWP.cutN (fun T => ∃ r, WS r T ⟨[(1, .ptr 1 0), (4, .c none (.v (.int .i64 r5.2))), (19, .c none (.v (.bool ((decide (r8 > 20000)) || (decide (r5.1 > 20000))))))], [(1, [(none, .v (.int .i64 t.fOp)), (none, .v (.string t.fName)), (none, .sl (t.fBound.fArgs.map Zk.cells)), (none, .sl (t.fKids.map Za.cells))])]⟩) ?_ (fun T hw => ?_)
  ·refine ns ?_
   refine e3 ?_
   refine st ?_
   refine cm (Zj.weak (rn []) (Zg1 t _ hr8) rfl (WS.mk (Zd (Zt (lc (lc (lc (lc Zo))))) Zb) Zc)) ?_
   refine st ?_
   refine Zm false (fun hc9 => ?_) (fun hc9 => ?_)
   ·(conv => whnf)
    refine st ?_
    exact wx (WS.mk (tp (tc (Zd (Zr (web hc9)) Zb))) (Zf rfl (cc (cc (cc (cc Zh)))) Zc))
   ·(conv => whnf)
    refine st ?_
    exact wx (WS.mk (tp (tc (Zd (Zr (web hc9)) Zb))) (Zf rfl (cc (cc (cc (cc Zh)))) Zc))
  obtain ⟨r0, hw⟩ := hw
  (conv => whnf)
  refine AWP.weak r0 hw ?_
  refine nw ?_
  refine Zi hF (fun Zdt hF => ?_) (fun Zdt hF => ?_)
  ·refine AWP.seq ?_
   refine ns ?_
   obtain rfl := Zg hF
   refine ns ?_
   refine Exists.intro [] ?_
   refine st ?_
   exact wx (WS.mk (tc Zb) Zc)
  ·refine nw ?_
   refine AWP.seq ?_
   refine AWP.seq ?_
   obtain ⟨r11, ZvJ, hF⟩ := bind_some hF
   refine AWP.cutN (fun T => ∃ r, WS r T ⟨[(26, .c none (.v (.bool ((decide (r11 > 100)) || (decide (r5.2 > 100))))))], []⟩) ?_ (fun T hw => ?_)
   ·refine ns ?_
    refine e3 ?_
    refine st ?_
    refine cm (Zj.weak (rn []) (Zgt t _ ZvJ) rfl (WS.mk (Zd (Zt (lc (lc (lc (lc Zo))))) Zb) Zc)) ?_
    refine st ?_
    refine Zm false (fun ZcJ => ?_) (fun ZcJ => ?_)
    ·(conv => whnf)
     refine st ?_
     exact wx (WS.mk (Zd (Zr (web ZcJ)) Zb) Zc)
    ·(conv => whnf)
     refine st ?_
     exact wx (WS.mk (Zd (Zr (web ZcJ)) Zb) Zc)
   obtain ⟨r0, hw⟩ := hw
   (conv => whnf)
   refine AWP.weak r0 hw ?_
   refine nw ?_
   refine Zi hF (fun ZbE hF => ?_) (fun ZbE hF => ?_)
   ·refine AWP.seq ?_
    refine ns ?_
    obtain rfl := Zg hF
    refine ns ?_
    refine Exists.intro [] ?_
    refine st ?_
    exact wx (WS.mk (tc Zb) Zc)
   ·refine nw ?_
    refine AWP.seq ?_
    refine ns ?_
    obtain rfl := Zg hF
    refine ns ?_
    refine Exists.intro [] ?_
    refine st ?_
    exact wx (WS.mk (tc Zb) Zc)

mutual
def Za1 (t : Za) : Option (Bool) :=
 (if (t.fOp == 4) = true then some true else ZL t.fKids >>= fun r1 =>
 some r1) >>= fun c2 =>
 some c2
 partial_fixpoint
def ZL (s : (List Za)) : Option (Bool) :=
 ZQ s >>= fun r1 =>
 some (decide (r1 ≥ 0))
 partial_fixpoint
def ZQ (s : (List Za)) : Option (Int) :=
 Zw s 0 s
 partial_fixpoint
def Zw (s : (List Za)) (x_8 : Nat) (Zbz : (List Za)) : Option (Int) :=
 (match Zbz with
 | x13 :: Zrp =>
 Za1 x13 >>= fun r16 =>
 if r16 = true then
 some ((x_8 : Nat) : Int)
 else
 Zw s (x_8 + 1) Zrp
 | [] =>
 some (-1))
 partial_fixpoint
end
def Za1.M (t : Za) (r : Bool) : Prop :=
 Zj Tryz.prog 51 [.agg [.v (.int .i64 t.fOp), .v (.string t.fName), .sl (t.fBound.fArgs.map Zk.cells), .sl (t.fKids.map Za.cells)]] [] (fun d b => d = .c none (.v (.bool r)) ∧ b = [])
def ZL.M (s : (List Za)) (r : Bool) : Prop :=
 Zj Tryz.prog 79 [.c none (.sl (s.map Za.cells)), .c none (.v (.func (.func 51) #[] #[]))] [] (fun d b => d = .c none (.v (.bool r)) ∧ b = [])
def ZQ.M (s : (List Za)) (r : Int) : Prop :=
 Zj Tryz.prog 104 [.c none (.sl (s.map Za.cells)), .c none (.v (.func (.func 51) #[] #[]))] [] (fun d b => d = .c none (.v (.int .i64 r)) ∧ b = [])
def Zw.M (s : (List Za)) (x_8 : Nat) (Zbz : (List Za)) (r : Int) : Prop :=
 ∀ Zej : List Za, s = Zej ++ Zbz → x_8 = Zej.length → s.length ≤ maxLen → AWL Tryz.prog 19 (Code.sub (Zq Tryz.f104) [1, 0, 1, 0, 0]) (Code.cont Tryz.prog 19 (Zq Tryz.f104) [1, 0, 1, 0] (ZbW tab Tryz.f104.results (ZbY (.c none (.v (.int .i64 r))) []))) ⟨[(0, .c none (.sl (s.map Za.cells))), (1, .c none (.v (.func (.func 51) #[] #[]))), (7, .c none (.v (.int .i64 ((s.length : Nat) : Int)))), (8, .c none (.v (.int .i64 ((x_8 : Nat) : Int))))], []⟩
theorem ZeN : (∀ (t : Za), ∀ r, Za1 t = some r → Za1.M t r) ∧ (∀ (s : (List Za)), ∀ r, ZL s = some r → ZL.M s r) ∧ (∀ (s : (List Za)), ∀ r, ZQ s = some r → ZQ.M s r) ∧ (∀ (s : (List Za)) (x_8 : Nat) (Zbz : (List Za)), ∀ r, Zw s x_8 Zbz = some r → Zw.M s x_8 Zbz r) := by
 refine Za1.mutual_partial_correctness Za1.M ZL.M ZQ.M Zw.M ?_ ?_ ?_ ?_
 ·intro slices_ContainsFunc_Type_unify_quantified' Zff t r hF
  unfold Za1.M
  refine en Tryz.func51 ?_
  refine AWP.seq ?_
  refine ns ?_
  refine AWP.seq ?_
  obtain ⟨c2, hc2, hF⟩ := bind_some hF
  refine AWP.cutN (fun T => ∃ r, WS r T ⟨[(2, .c none (.v (.bool c2)))], []⟩) ?_ (fun T hw => ?_)
  ·refine ns ?_
   refine Zm false (fun hc3 => ?_) (fun hc3 => ?_)
   ·have hc2 := ift hc3 hc2
    (conv => whnf)
    obtain rfl := Zg hc2
    refine st ?_
    exact wx (WS.mk (Zd (Zr (web hc3)) Zb) Zc)
   ·have hc2 := ife hc3 hc2
    obtain ⟨r1, hr1, hc2⟩ := bind_some hc2
    (conv => whnf)
    refine st ?_
    refine e3 ?_
    refine st ?_
    refine cm (Zj.weak (rn []) (Zff t.fKids _ hr1) rfl (WS.mk (tc (tc Zb)) Zc)) ?_
    refine st ?_
    obtain rfl := Zg hc2
    refine st ?_
    exact wx (WS.mk (Zd (Zr (web hc3)) Zb) Zc)
  obtain ⟨r0, hw⟩ := hw
  (conv => whnf)
  refine AWP.weak r0 hw ?_
  obtain rfl := Zg hF
  refine ns ?_
  refine Exists.intro [] ?_
  refine st ?_
  exact wx (WS.mk (tc Zb) Zc)
 ·intro slices_IndexFunc_Type_unify_quantified' Zfw s r hF
  unfold ZL.M
  refine en Tryz.func79 ?_
  refine AWP.seq ?_
  refine ns ?_
  refine AWP.seq ?_
  obtain ⟨r1, hr1, hF⟩ := bind_some hF
  refine ns ?_
  refine e3 ?_
  refine st ?_
  refine cm (Zj.weak (rn []) (Zfw s _ hr1) rfl (WS.mk (tc (tc Zb)) Zc)) ?_
  refine st ?_
  obtain rfl := Zg hF
  refine ns ?_
  refine Exists.intro [] ?_
  refine st ?_
  exact wx (WS.mk (tc Zb) Zc)
 ·intro slices_IndexFunc_Type_unify_quantified_l1' Zb8 s r hF
  unfold ZQ.M
  refine en Tryz.func104 ?_
  refine AWP.seq ?_
  refine ns ?_
  refine AWP.seq ?_
  refine AWP.seq ?_
  refine ns ?_
  intro hlen1
  (try rw [List.length_map] at hlen1)
  (try rw [List.length_map])
  refine st ?_
  refine AWP.block ?_
  refine AWP.loop ?_
  refine AWL.weak (rn []) ?_ (Zb8 s 0 s _ hF ([]) rfl rfl hlen1)
  exact (WS.mk (tc (tc (tc (tc Zb)))) Zc)
 ·intro unify_quantified' slices_IndexFunc_Type_unify_quantified_l1' ZnN Zb8 s x_8 Zbz r hF
  unfold Zw.M
  intro Zej Zjw ZjT hlen1
  refine AWL.step ?_
  refine AWP.seq ?_
  refine ns ?_
  refine AWP.seq ?_
  refine nw ?_
  refine ZN Zjw ZjT (fun x13 Zrp ZqD Zym ZAK => ?_) (fun ZqD => ?_)
  ·subst ZqD
   refine nw ?_
   refine AWP.seq ?_
   refine AWP.block ?_
   refine AWP.seq ?_
   refine ns ?_
   refine AWP.seq ?_
   obtain ⟨r16, Zwl, hF⟩ := bind_some hF
   refine nn ?_
   refine sr (Zab (f := Za.cells) (Za.cells_eq x13) Zym) ?_
   refine st ?_
   refine e3 ?_
   refine st ?_
   refine cm (Zj.weak (rn []) (ZnN x13 _ Zwl) rfl (WS.mk (Zd (Zt (lc (lc (lc (lc Zo))))) Zb) Zc)) ?_
   refine st ?_
   refine nw ?_
   refine Zi hF (fun ZiR hF => ?_) (fun ZiR hF => ?_)
   ·refine AWP.seq ?_
    refine ns ?_
    obtain rfl := Zg hF
    refine ns ?_
    refine Exists.intro [] ?_
    refine st ?_
    exact wx (WS.mk (tc Zb) Zc)
   ·refine nw ?_
    refine ns ?_
    refine AWL.weak (rn []) ?_ (Zb8 s (x_8 + 1) Zrp _ hF (Zej ++ [x13]) (by rw [Zjw]; simp) (by rw [ZjT]; simp) hlen1)
    exact (WS.mk (tc (tc (tc (Zd (Zr (Zdf (ZV hlen1 ZAK))) Zb)))) Zc)
  ·subst ZqD
   refine nw ?_
   refine AWP.seq ?_
   refine ns ?_
   obtain rfl := Zg hF
   refine ns ?_
   refine Exists.intro [] ?_
   refine st ?_
   exact wx (WS.mk (tc Zb) Zc)
theorem ZnD : ∀ (t : Za), ∀ r, Za1 t = some r → Za1.M t r := ZeN.1
theorem slices_ContainsFunc_Type_unify_quantified_ok : ∀ (s : (List Za)), ∀ r, ZL s = some r → ZL.M s r := ZeN.2.1
theorem slices_IndexFunc_Type_unify_quantified_ok : ∀ (s : (List Za)), ∀ r, ZQ s = some r → ZQ.M s r := ZeN.2.2.1
theorem slices_IndexFunc_Type_unify_quantified_l1_ok : ∀ (s : (List Za)) (x_8 : Nat) (Zbz : (List Za)), ∀ r, Zw s x_8 Zbz = some r → Zw.M s x_8 Zbz r := ZeN.2.2.2

def ZdW (t : Za) : Option (Bool) :=
 Zcj t >>= fun r1 =>
 (if (r1 == 0) = true then Za1 t >>= fun r2 =>
 some (!r2) else some false) >>= fun c3 =>
 some c3
def ZdW.M (t : Za) (r : Bool) : Prop :=
 Zj Tryz.prog 31 [.agg [.v (.int .i64 t.fOp), .v (.string t.fName), .sl (t.fBound.fArgs.map Zk.cells), .sl (t.fKids.map Za.cells)]] [] (fun d b => d = .c none (.v (.bool r)) ∧ b = [])
theorem ZlY (t : Za) (r : Bool) (hF : ZdW t = some r) : ZdW.M t r := by
 unfold ZdW at hF
 unfold ZdW.M
 refine en Tryz.func31 ?_
 refine AWP.seq ?_
 refine ns ?_
 refine AWP.seq ?_
 obtain ⟨r1, hr1, hF⟩ := bind_some hF
 obtain ⟨c3, hc3, hF⟩ := bind_some hF
 refine AWP.cutN (fun T => ∃ r, WS r T ⟨[(2, .c none (.v (.bool c3)))], []⟩) ?_ (fun T hw => ?_)
 ·refine ns ?_
  refine e3 ?_
  refine st ?_
  refine cm (Zj.weak (rn []) (Zfe t _ hr1) rfl (WS.mk (Zd (Zt (lc (lc (lc (lc Zo))))) Zb) Zc)) ?_
  refine st ?_
  refine Zm true (fun hc4 => ?_) (fun hc4 => ?_)
  ·have hc3 := ift hc4 hc3
   obtain ⟨r2, hr2, hc3⟩ := bind_some hc3
   (conv => whnf)
   refine st ?_
   refine e3 ?_
   refine st ?_
   refine cm (Zj.weak (rn []) (ZnD t _ hr2) rfl (WS.mk (Zd (Zt (lc (lc (lc (lc Zo))))) Zb) Zc)) ?_
   refine st ?_
   obtain rfl := Zg hc3
   refine st ?_
   exact wx (WS.mk (Zd (Zr (web hc4)) Zb) Zc)
  ·have hc3 := ife hc4 hc3
   (conv => whnf)
   obtain rfl := Zg hc3
   refine st ?_
   exact wx (WS.mk (Zd (Zr (web hc4)) Zb) Zc)
 obtain ⟨r0, hw⟩ := hw
 (conv => whnf)
 refine AWP.weak r0 hw ?_
 obtain rfl := Zg hF
 refine ns ?_
 refine Exists.intro [] ?_
 refine st ?_
 exact wx (WS.mk (tc Zb) Zc)

mutual
def Zae (t : Za) : Option (Bool) :=
 Zad 0 t t.fKids
 partial_fixpoint
def Zad (i_3 : Nat) (t : Za) (ZeZ : (List Za)) : Option (Bool) :=
 (match ZeZ with
 | x18 :: ZCk =>
 Zae x18 >>= fun r21 =>
 if r21 = true then
 some true
 else
 Zad (i_3 + 1) t ZCk
 | [] =>
 some (t.fOp == 4))
 partial_fixpoint
end
def Zae.M (t : Za) (r : Bool) : Prop :=
 Zj Tryz.prog 42 [.agg [.v (.int .i64 t.fOp), .v (.string t.fName), .sl (t.fBound.fArgs.map Zk.cells), .sl (t.fKids.map Za.cells)]] [] (fun d b => d = .c none (.v (.bool r)) ∧ b = [])
def Zad.M (i_3 : Nat) (t : Za) (ZeZ : (List Za)) (r : Bool) : Prop :=
 ∀ Zjg : List Za, t.fKids = Zjg ++ ZeZ → i_3 = Zjg.length → AWL Tryz.prog 20 (Code.sub (Zq Tryz.f42) [1, 0, 1, 0, 0]) (Code.cont Tryz.prog 20 (Zq Tryz.f42) [1, 0, 1, 0] (ZbW tab Tryz.f42.results (ZbY (.c none (.v (.bool r))) []))) ⟨[(1, .ptr 1 0), (3, .c none (.v (.int .i64 ((i_3 : Nat) : Int))))], [(1, [(none, .v (.int .i64 t.fOp)), (none, .v (.string t.fName)), (none, .sl (t.fBound.fArgs.map Zk.cells)), (none, .sl (t.fKids.map Za.cells))])]⟩
theorem Zgl : (∀ (t : Za), ∀ r, Zae t = some r → Zae.M t r) ∧ (∀ (i_3 : Nat) (t : Za) (ZeZ : (List Za)), ∀ r, Zad i_3 t ZeZ = some r → Zad.M i_3 t ZeZ r) := by
 refine Zae.mutual_partial_correctness Zae.M Zad.M ?_ ?_
 ·intro lazycref18_quantified_l1' Zee t r hF
  unfold Zae.M
  refine en Tryz.func42 ?_
  refine AWP.seq ?_
  refine ns ?_
  refine AWP.seq ?_
  refine AWP.seq ?_
  refine ns ?_
  refine AWP.block ?_
  refine AWP.loop ?_
  refine AWL.weak (rn []) ?_ (Zee 0 t t.fKids _ hF ([]) rfl rfl)
  exact (WS.mk (tp (tc Zb)) (Zf rfl (cc (cc (cc (cc Zh)))) Zc))
 ·intro lazycref18_quantified' lazycref18_quantified_l1' Zkt Zee i_3 t ZeZ r hF
  unfold Zad.M
  intro Zjg Zr5 Zrk
  refine AWL.step ?_
  refine AWP.seq ?_
  refine AWP.seq ?_
  refine ns ?_
  intro hlen17
  (try rw [List.length_map] at hlen17)
  (try rw [List.length_map])
  refine st ?_
  refine nw ?_
  refine ZN Zr5 Zrk (fun x18 ZCk ZD0 ZGX ZGQ => ?_) (fun ZD0 => ?_)
  ·subst ZD0
   refine nw ?_
   refine AWP.seq ?_
   refine AWP.block ?_
   refine AWP.seq ?_
   obtain ⟨r21, ZCZ, hF⟩ := bind_some hF
   refine nn ?_
   refine sr (Zab (f := Za.cells) (Za.cells_eq x18) ZGX) ?_
   refine st ?_
   refine e3 ?_
   refine st ?_
   refine cm (Zj.weak (rn []) (Zkt x18 _ ZCZ) rfl (WS.mk (Zd (Zt (lc (lc (lc (lc Zo))))) Zb) Zc)) ?_
   refine st ?_
   refine nw ?_
   refine Zi hF (fun Ztk hF => ?_) (fun Ztk hF => ?_)
   ·refine AWP.seq ?_
    refine ns ?_
    obtain rfl := Zg hF
    refine ns ?_
    refine Exists.intro [] ?_
    refine st ?_
    exact wx (WS.mk (tc Zb) Zc)
   ·refine nw ?_
    refine ns ?_
    refine AWL.weak (rn []) ?_ (Zee (i_3 + 1) t ZCk _ hF (Zjg ++ [x18]) (by rw [Zr5]; simp) (by rw [Zrk]; simp))
    exact (WS.mk (tp (Zd (Zr (Zdf (ZV hlen17 ZGQ))) Zb)) (Zf rfl (cc (cc (cc (cc Zh)))) Zc))
  ·subst ZD0
   refine nw ?_
   refine AWP.seq ?_
   refine ns ?_
   obtain rfl := Zg hF
   refine ns ?_
   refine Exists.intro [] ?_
   refine st ?_
   exact wx (WS.mk (tc Zb) Zc)
theorem Zkr : ∀ (t : Za), ∀ r, Zae t = some r → Zae.M t r := Zgl.1
theorem lazycref18_quantified_l1_ok : ∀ (i_3 : Nat) (t : Za) (ZeZ : (List Za)), ∀ r, Zad i_3 t ZeZ = some r → Zad.M i_3 t ZeZ r := Zgl.2

def Zcf (t : Za) : Option (Bool) :=
 ZaH t >>= fun r1 =>
 (if (r1 == 0) = true then Zae t >>= fun r2 =>
 some (!r2) else some false) >>= fun c3 =>
 some c3
def Zcf.M (t : Za) (r : Bool) : Prop :=
 Zj Tryz.prog 21 [.agg [.v (.int .i64 t.fOp), .v (.string t.fName), .sl (t.fBound.fArgs.map Zk.cells), .sl (t.fKids.map Za.cells)]] [] (fun d b => d = .c none (.v (.bool r)) ∧ b = [])
theorem Ziy (t : Za) (r : Bool) (hF : Zcf t = some r) : Zcf.M t r := by
 unfold Zcf at hF
 unfold Zcf.M
 refine en Tryz.func21 ?_
 refine AWP.seq ?_
 refine ns ?_
 refine AWP.seq ?_
 obtain ⟨r1, hr1, hF⟩ := bind_some hF
 obtain ⟨c3, hc3, hF⟩ := bind_some hF
 refine AWP.cutN (fun T => ∃ r, WS r T ⟨[(2, .c none (.v (.bool c3)))], []⟩) ?_ (fun T hw => ?_)
 ·refine ns ?_
  refine e3 ?_
  refine st ?_
  refine cm (Zj.weak (rn []) (ZdI t _ hr1) rfl (WS.mk (Zd (Zt (lc (lc (lc (lc Zo))))) Zb) Zc)) ?_
  refine st ?_
  refine Zm true (fun hc4 => ?_) (fun hc4 => ?_)
  ·have hc3 := ift hc4 hc3
   obtain ⟨r2, hr2, hc3⟩ := bind_some hc3
   (conv => whnf)
   refine st ?_
   refine e3 ?_
   refine st ?_
   refine cm (Zj.weak (rn []) (Zkr t _ hr2) rfl (WS.mk (Zd (Zt (lc (lc (lc (lc Zo))))) Zb) Zc)) ?_
   refine st ?_
   obtain rfl := Zg hc3
   refine st ?_
   exact wx (WS.mk (Zd (Zr (web hc4)) Zb) Zc)
  ·have hc3 := ife hc4 hc3
   (conv => whnf)
   obtain rfl := Zg hc3
   refine st ?_
   exact wx (WS.mk (Zd (Zr (web hc4)) Zb) Zc)
 obtain ⟨r0, hw⟩ := hw
 (conv => whnf)
 refine AWP.weak r0 hw ?_
 obtain rfl := Zg hF
 refine ns ?_
 refine Exists.intro [] ?_
 refine st ?_
 exact wx (WS.mk (tc Zb) Zc)

mutual
def Zcm (t : Za) : Option (Za) :=
 ZaK t 0 ([]) t.fKids
 partial_fixpoint
def ZaK (t : Za) (Zqg : Nat) (Ze7 : (List Za)) (Zit : (List Za)) : Option (Za) :=
 (match Zit with
 | x59 :: Zwm =>
 Zcm x59 >>= fun r68 =>
 Z5 ((Ze7.length + ([r68]).length) * 72 ≤ 140737488355328) >>= fun _ =>
 ZaK t (Zqg + 1) (Ze7 ++ ([r68])) Zwm
 | [] =>
 some (Za.mk t.fOp t.fName t.fBound Ze7))
 partial_fixpoint
end
def Zcm.M (t : Za) (r : Za) : Prop :=
 Zj Tryz.prog 54 [.agg [.v (.int .i64 t.fOp), .v (.string t.fName), .sl (t.fBound.fArgs.map Zk.cells), .sl (t.fKids.map Za.cells)]] [] (fun d b => d = .agg [.v (.int .i64 r.fOp), .v (.string r.fName), .sl (r.fBound.fArgs.map Zk.cells), .sl (r.fKids.map Za.cells)] ∧ b = [])
def ZaK.M (t : Za) (Zqg : Nat) (Ze7 : (List Za)) (Zit : (List Za)) (r : Za) : Prop :=
 ∀ Zo8 : List Za, t.fKids = Zo8 ++ Zit → Zqg = Zo8.length → t.fKids.length ≤ maxLen → AWL Tryz.prog 24 (Code.sub (Zq Tryz.f54) [1, 1, 1, 0, 1, 0, 0]) (Code.cont Tryz.prog 24 (Zq Tryz.f54) [1, 1, 1, 0, 1, 0] (ZbW tab Tryz.f54.results (ZbY (.agg [.v (.int .i64 r.fOp), .v (.string r.fName), .sl (r.fBound.fArgs.map Zk.cells), .sl (r.fKids.map Za.cells)]) []))) ⟨[(1, .ptr 1 0), (2, .ptr 2 0), (9, .c none (.sl (t.fKids.map Za.cells))), (10, .c none (.v (.int .i64 ((t.fKids.length : Nat) : Int)))), (11, .c none (.v (.int .i64 ((Zqg : Nat) : Int))))], [(1, [(none, .v (.int .i64 t.fOp)), (none, .v (.string t.fName)), (none, .sl (t.fBound.fArgs.map Zk.cells)), ((some (4053, 28)), .sl (Ze7.map Za.cells))]), (2, [(none, .v (.int .i64 0)), (none, .v (.string (ByteArray.mk #[]))), (none, .nils), (none, .nils)])]⟩
theorem Zk4 : (∀ (t : Za), ∀ r, Zcm t = some r → Zcm.M t r) ∧ (∀ (t : Za) (Zqg : Nat) (Ze7 : (List Za)) (Zit : (List Za)), ∀ r, ZaK t Zqg Ze7 Zit = some r → ZaK.M t Zqg Ze7 Zit r) := by
 refine Zcm.mutual_partial_correctness Zcm.M ZaK.M ?_ ?_
 ·intro unify_copied_l1' Zg4 t r hF
  unfold Zcm.M
  refine en Tryz.func54 ?_
  refine AWP.seq ?_
  refine ns ?_
  refine AWP.seq ?_
  refine ns ?_
  refine AWP.seq ?_
  refine ns ?_
  refine AWP.seq ?_
  refine AWP.seq ?_
  refine ns ?_
  intro hlen35
  (try rw [List.length_map] at hlen35)
  (try rw [List.length_map])
  refine st ?_
  refine AWP.block ?_
  refine AWP.loop ?_
  refine AWL.weak (rn []) ?_ (Zg4 t 0 ([]) t.fKids _ hF ([]) rfl rfl hlen35)
  exact (WS.mk (tp (tp (tc (tc (tc Zb))))) (Zf rfl (cc (cc (cc (Znm Zh)))) (Zf rfl (cc (cc (cc (cc Zh)))) Zc)))
 ·intro unify_copied' unify_copied_l1' Zp7 Zg4 t Zqg Ze7 Zit r hF
  unfold ZaK.M
  intro Zo8 Zww Zxy hlen35
  refine AWL.step ?_
  refine AWP.seq ?_
  refine ns ?_
  refine AWP.seq ?_
  refine nw ?_
  refine ZN Zww Zxy (fun x59 Zwm ZvB ZCW ZCI => ?_) (fun ZvB => ?_)
  ·subst ZvB
   refine nw ?_
   refine AWP.seq ?_
   refine AWP.block ?_
   refine AWP.seq ?_
   refine nn ?_
   refine sr (Zab (f := Za.cells) (Za.cells_eq x59) ZCW) ?_
   refine st ?_
   obtain ⟨r68, ZDd, hF⟩ := bind_some hF
   obtain ⟨ZDp, hF⟩ := Zy hF
   refine nn ?_
   refine Or.inl (Exists.intro 5 (Exists.intro [[], [], [], [], []] (Exists.intro [([15, 16, 17, 18, 19], [], []), ([16, 17, 18, 19], [], []), ([15, 16, 17, 18, 19], [], []), ([15, 16, 18, 19], [], []), ([15, 16, 19], [], [])] (Exists.intro [15, 16, 17, 18, 19] (And.intro (by decide +kernel) ?_)))))
   refine dp ?_
   refine dp ?_
   refine dp ?_
   (refine st ?_; apply Exists.intro; apply Exists.intro; apply And.intro; (focus ((conv => whnf); refine Exists.intro [] ?_; (conv => whnf); refine And.intro rfl ?_; (conv => whnf); refine Zj.mono (Zj.weak (rn []) (Zp7 x59 _ ZDd) rfl (WS.mk (Zd (Zt (lc (lc (lc (lc Zo))))) Zb) Zc)) ?_; rintro d b ⟨rfl, rfl⟩; exact And.intro rfl (And.intro rfl rfl))); apply And.intro; (focus exact rfl); (conv => whnf))
   refine de (Zbt (f := Za.cells) (ZdA (Za.cells_eq r68) (lc (lc (lc (lc Zo))))) (ZY (f := Za.cells))) ?_
   refine sa (fun l => ZbU l (fun x => Za.cells_len x)) ZDp ?_
   refine Exists.intro _ (And.intro (WE.refl _) ?_)
   rw [← List.map_append]
   refine st ?_
   refine ns ?_
   refine AWL.weak (rn [(20, 4053)]) ?_ (Zg4 t (Zqg + 1) (Ze7 ++ ([r68])) Zwm _ hF (Zo8 ++ [x59]) (by rw [Zww]; simp) (by rw [Zxy]; simp) hlen35)
   exact (WS.mk (tp (tp (tc (tc (Zd (Zr (Zdf (ZV hlen35 ZCI))) Zb))))) (Zf rfl (cc (cc (cc (Zth rfl (WE.refl _) Zh)))) (Zf rfl (cc (cc (cc (cc Zh)))) Zc)))
  ·subst ZvB
   refine nw ?_
   refine AWP.seq ?_
   refine ns ?_
   obtain rfl := Zg hF
   refine ns ?_
   refine Exists.intro [] ?_
   refine st ?_
   exact wx (WS.mk (Zd (Zt (lc (lc (lc (lc Zo))))) Zb) Zc)
theorem Zqi : ∀ (t : Za), ∀ r, Zcm t = some r → Zcm.M t r := Zk4.1
theorem unify_copied_l1_ok : ∀ (t : Za) (Zqg : Nat) (Ze7 : (List Za)) (Zit : (List Za)), ∀ r, ZaK t Zqg Ze7 Zit = some r → ZaK.M t Zqg Ze7 Zit r := Zk4.2

mutual
def ZaT (k : Zk) : Option (Zk) :=
 Zbi k 0 ([]) k.fArgs
 partial_fixpoint
def Zbi (k : Zk) (x_9 : Nat) (Zgf : (List Zk)) (ZaW : (List Zk)) : Option (Zk) :=
 (match ZaW with
 | x59 :: Zwm =>
 ZaT x59 >>= fun r68 =>
 Z5 ((Zgf.length + ([r68]).length) * 24 ≤ 140737488355328) >>= fun _ =>
 Zbi k (x_9 + 1) (Zgf ++ ([r68])) Zwm
 | [] =>
 some (Zk.mk Zgf))
 partial_fixpoint
end
def ZaT.M (k : Zk) (r : Zk) : Prop :=
 Zj Tryz.prog 99 [.agg [.sl (k.fArgs.map Zk.cells)]] [] (fun d b => d = .agg [.sl (r.fArgs.map Zk.cells)] ∧ b = [])
def Zbi.M (k : Zk) (x_9 : Nat) (Zgf : (List Zk)) (ZaW : (List Zk)) (r : Zk) : Prop :=
 ∀ Zdw : List Zk, k.fArgs = Zdw ++ ZaW → x_9 = Zdw.length → k.fArgs.length ≤ maxLen → AWL Tryz.prog 22 (Code.sub (Zq Tryz.f99) [1, 1, 0, 1, 0, 0]) (Code.cont Tryz.prog 22 (Zq Tryz.f99) [1, 1, 0, 1, 0] (ZbW tab Tryz.f99.results (ZbY (.agg [.sl (r.fArgs.map Zk.cells)]) []))) ⟨[(2, .ptr 2 0), (3, .ptr 3 0), (7, .c none (.sl (k.fArgs.map Zk.cells))), (8, .c none (.v (.int .i64 ((k.fArgs.length : Nat) : Int)))), (9, .c none (.v (.int .i64 ((x_9 : Nat) : Int))))], [(2, [(none, .nils)]), (3, [((some (4150, 25)), .sl (Zgf.map Zk.cells))])]⟩
theorem ZiI : (∀ (k : Zk), ∀ r, ZaT k = some r → ZaT.M k r) ∧ (∀ (k : Zk) (x_9 : Nat) (Zgf : (List Zk)) (ZaW : (List Zk)), ∀ r, Zbi k x_9 Zgf ZaW = some r → Zbi.M k x_9 Zgf ZaW r) := by
 refine ZaT.mutual_partial_correctness ZaT.M Zbi.M ?_ ?_
 ·intro types_copiedKind_l1' Zfn k r hF
  unfold ZaT.M
  refine en Tryz.func99 ?_
  refine AWP.seq ?_
  refine ns ?_
  refine AWP.seq ?_
  refine ns ?_
  refine AWP.seq ?_
  refine AWP.seq ?_
  refine ns ?_
  intro hlen35
  (try rw [List.length_map] at hlen35)
  (try rw [List.length_map])
  refine st ?_
  refine AWP.block ?_
  refine AWP.loop ?_
  refine AWL.weak (rn []) ?_ (Zfn k 0 ([]) k.fArgs _ hF ([]) rfl rfl hlen35)
  exact (WS.mk (tp (tp (tc (tc (tc Zb))))) (Zf rfl (cc Zh) (Zf rfl (Znm Zh) Zc)))
 ·intro types_copiedKind' types_copiedKind_l1' ZnR Zfn k x_9 Zgf ZaW r hF
  unfold Zbi.M
  intro Zdw ZhD ZhE hlen35
  refine AWL.step ?_
  refine AWP.seq ?_
  refine ns ?_
  refine AWP.seq ?_
  refine nw ?_
  refine ZN ZhD ZhE (fun x59 Zwm ZvB ZCW ZCI => ?_) (fun ZvB => ?_)
  ·subst ZvB
   refine nw ?_
   refine AWP.seq ?_
   refine AWP.block ?_
   refine AWP.seq ?_
   refine nn ?_
   refine sr (Zab (f := Zk.cells) (Zk.cells_eq x59) ZCW) ?_
   refine st ?_
   obtain ⟨r68, ZDd, hF⟩ := bind_some hF
   obtain ⟨ZDp, hF⟩ := Zy hF
   refine nn ?_
   refine Or.inl (Exists.intro 5 (Exists.intro [[], [], [], [], []] (Exists.intro [([13, 14, 15, 16, 17], [], []), ([14, 15, 16, 17], [], []), ([13, 14, 15, 16, 17], [], []), ([13, 14, 16, 17], [], []), ([13, 14, 17], [], [])] (Exists.intro [13, 14, 15, 16, 17] (And.intro (by decide +kernel) ?_)))))
   refine dp ?_
   refine dp ?_
   refine dp ?_
   (refine st ?_; apply Exists.intro; apply Exists.intro; apply And.intro; (focus ((conv => whnf); refine Exists.intro [] ?_; (conv => whnf); refine And.intro rfl ?_; (conv => whnf); refine Zj.mono (Zj.weak (rn []) (ZnR x59 _ ZDd) rfl (WS.mk (Zd (Zt (lc Zo)) Zb) Zc)) ?_; rintro d b ⟨rfl, rfl⟩; exact And.intro rfl (And.intro rfl rfl))); apply And.intro; (focus exact rfl); (conv => whnf))
   refine de (Zbt (f := Zk.cells) (ZdA (Zk.cells_eq r68) (lc Zo)) (ZY (f := Zk.cells))) ?_
   refine sa (fun l => ZbU l (fun x => Zk.cells_len x)) ZDp ?_
   refine Exists.intro _ (And.intro (WE.refl _) ?_)
   rw [← List.map_append]
   refine st ?_
   refine ns ?_
   refine AWL.weak (rn [(18, 4150)]) ?_ (Zfn k (x_9 + 1) (Zgf ++ ([r68])) Zwm _ hF (Zdw ++ [x59]) (by rw [ZhD]; simp) (by rw [ZhE]; simp) hlen35)
   exact (WS.mk (tp (tp (tc (tc (Zd (Zr (Zdf (ZV hlen35 ZCI))) Zb))))) (Zf rfl (cc Zh) (Zf rfl (Zth rfl (WE.refl _) Zh) Zc)))
  ·subst ZvB
   refine nw ?_
   refine AWP.seq ?_
   refine ns ?_
   obtain rfl := Zg hF
   refine ns ?_
   refine Exists.intro [] ?_
   refine st ?_
   exact wx (WS.mk (Zd (Zt (lc Zo)) Zb) Zc)
theorem ZnG : ∀ (k : Zk), ∀ r, ZaT k = some r → ZaT.M k r := ZiI.1
theorem types_copiedKind_l1_ok : ∀ (k : Zk) (x_9 : Nat) (Zgf : (List Zk)) (ZaW : (List Zk)), ∀ r, Zbi k x_9 Zgf ZaW = some r → Zbi.M k x_9 Zgf ZaW r := ZiI.2

end Go.Proofs.YtgbglhbdjambbaaGreatDoor
