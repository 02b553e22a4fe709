/- Part 5 of the proof: the program's functions as Lean functions with their walks, and the plain law. It holds for every input, without conditions. -/
import Derived.Test.YtgbglhbdjambbaaGreatDoorProg
import Derived.Lib.AppendIntMem
import Derived.Test.YtgbglhbdjambbaaGreatDoorUqA
import Derived.Test.YtgbglhbdjambbaaGreatDoorUqB
import Derived.Test.YtgbglhbdjambbaaGreatDoorUqC
import Derived.Test.YtgbglhbdjambbaaGreatDoorUqD
set_option linter.unusedVariables false
namespace Go.Proofs.YtgbglhbdjambbaaGreatDoor
open Go Go.Am
def Zxr (o : Option Value) : Prop := ∃ m, o = some (.int .i64 m)
def Znl (o : Option Value) : Prop := ∃ ev, o = some ev ∧ (ev = .nilIface ∨ ∃ te pe, ev = .iface te pe)
def Ztp (i : Nat) (o : Option Value) : Prop := o = some (.int .u64 ((10 ^ i : Nat) : Int))
def ZqH (o : Option Value) : Prop := o = none
def Zpc : List (Nat × Nat × (Option Value → Prop)) := (3, 20, ZqH) :: (List.range 20).map fun i => (3, i, Ztp i)
def Zd4 : List (Nat × Nat × (Option Value → Prop)) := [(0, 0, Zxr), (1, 0, Znl), (2, 0, Znl)]
instance : Gl Tryz.prog := ⟨Zpc ++ Zd4⟩

def tab : Tab := [
 (2, ⟨(.int .i64), 1, 8, some [.v (.int .i64 0)], true⟩),
 (3, ⟨(.int .i64), 1, 8, some [.v (.int .i64 0)], true⟩),
 (4, ⟨.bool, 1, 1, some [.v (.bool false)], true⟩),
 (5, ⟨(.int .u8), 1, 1, some [.v (.int .u8 0)], true⟩),
 (9, ⟨.string, 1, 16, some [.v (.string ⟨#[]⟩)], true⟩),
 (12, ⟨(.int .u64), 1, 8, some [.v (.int .u64 0)], true⟩),
 (13, ⟨(.struct [(9, 0), (12, 1)]), 2, 24, some [.v (.string ⟨#[]⟩), .v (.int .u64 0)], false⟩),
 (21, ⟨(.int .i32), 1, 4, some [.v (.int .i32 0)], true⟩),
 (22, ⟨(.int .i64), 1, 8, some [.v (.int .i64 0)], true⟩),
 (23, ⟨(.slice 25), 1, 24, some [.nils], true⟩),
 (24, ⟨(.struct [(23, 0)]), 1, 24, some [.nils], true⟩),
 (25, ⟨(.struct [(23, 0)]), 1, 24, some [.nils], true⟩),
 (26, ⟨(.slice 28), 1, 24, some [.nils], true⟩),
 (27, ⟨(.struct [(22, 0), (9, 1), (25, 2), (26, 3)]), 4, 72, some [.v (.int .i64 0), .v (.string ⟨#[]⟩), .nils, .nils], true⟩),
 (28, ⟨(.struct [(22, 0), (9, 1), (25, 2), (26, 3)]), 4, 72, some [.v (.int .i64 0), .v (.string ⟨#[]⟩), .nils, .nils], true⟩),
 (31, ⟨(.slice 45), 1, 24, some [.nils], true⟩),
 (32, ⟨(.int .i64), 1, 8, some [.v (.int .i64 0)], true⟩),
 (37, ⟨(.slice 38), 1, 24, some [.nils], true⟩),
 (38, ⟨(.array 2 28), 8, 144, some [.v (.int .i64 0), .v (.string ⟨#[]⟩), .nils, .nils, .v (.int .i64 0), .v (.string ⟨#[]⟩), .nils, .nils], true⟩),
 (42, ⟨(.slice 9), 1, 24, some [.nils], true⟩),
 (44, ⟨(.struct [(9, 0), (28, 1)]), 5, 88, some [.v (.string ⟨#[]⟩), .v (.int .i64 0), .v (.string ⟨#[]⟩), .nils, .nils], true⟩),
 (45, ⟨(.struct [(9, 0), (28, 1)]), 5, 88, some [.v (.string ⟨#[]⟩), .v (.int .i64 0), .v (.string ⟨#[]⟩), .nils, .nils], true⟩),
 (53, ⟨(.ptr 56), 1, 8, some [.v (.pointer none)], true⟩),
 (54, ⟨(.map 9 3), 1, 8, some [.v (.map none)], true⟩),
 (55, ⟨(.struct [(31, 0), (54, 1)]), 2, 32, some [.nils, .v (.map none)], true⟩),
 (56, ⟨(.struct [(31, 0), (54, 1)]), 2, 32, some [.nils, .v (.map none)], true⟩),
 (67, ⟨(.map 9 4), 1, 8, some [.v (.map none)], true⟩),
 (69, ⟨(.ptr 70), 1, 8, some [.v (.pointer none)], true⟩),
 (70, ⟨(.struct [(31, 0), (54, 1)]), 2, 32, some [.nils, .v (.map none)], true⟩),
 (74, ⟨(.map 9 9), 1, 8, some [.v (.map none)], true⟩),
 (81, ⟨(.int .i64), 1, 8, some [.v (.int .i64 0)], true⟩),
 (91, ⟨(.map 9 28), 1, 8, some [.v (.map none)], true⟩),
 (106, ⟨(.map 22 3), 1, 8, some [.v (.map none)], true⟩),
 (114, ⟨.iface, 1, 16, some [.v .nilIface], false⟩),
 (118, ⟨(.slice 123), 1, 24, some [.nils], true⟩),
 (122, ⟨(.struct [(9, 0), (9, 1)]), 2, 32, some [.v (.string ⟨#[]⟩), .v (.string ⟨#[]⟩)], true⟩),
 (123, ⟨(.struct [(9, 0), (9, 1)]), 2, 32, some [.v (.string ⟨#[]⟩), .v (.string ⟨#[]⟩)], true⟩),
 (131, ⟨(.int .i64), 1, 8, some [.v (.int .i64 0)], true⟩),
 (132, ⟨(.slice 5), 1, 24, some [.nils], true⟩),
 (139, ⟨(.int .u64), 1, 8, some [.v (.int .u64 0)], true⟩),
 (146, ⟨(.int .u64), 1, 8, some [.v (.int .u64 0)], true⟩),
 (148, ⟨(.struct [(9, 0), (9, 1), (114, 2)]), 3, 48, some [.v (.string ⟨#[]⟩), .v (.string ⟨#[]⟩), .v .nilIface], false⟩),
 (155, ⟨(.int .u32), 1, 4, some [.v (.int .u32 0)], true⟩),
 (160, ⟨(.ptr 5), 1, 8, some [.v (.pointer none)], true⟩),
 (162, ⟨(.struct [(9, 0)]), 1, 16, some [.v (.string ⟨#[]⟩)], true⟩)]
set_option maxRecDepth 100000
theorem tabOk : TOk Tryz.prog tab := by unfold TOk; kernel_rfl
theorem follows : Tryz.prog.follows .mixedOrders = true := by kernel_rfl
theorem ZEV (nt : Nat) (h : nt ≤ EXT) : Zn4 Tryz.prog tab nt (@Zs2) := ZAn tabOk h follows

set_option linter.unusedSimpArgs false
set_option maxHeartbeats 4000000
set_option synthInstance.maxHeartbeats 1000000
set_option synthInstance.maxSize 1000
theorem nd {nt : Nat} (h : decide (nt ≤ EXT) = true) (c : Code) (Q : Exit → AS → Prop) (S : AS) (hk : Am.node (@Zs2) Tryz.prog tab nt c Q S) : AWP Tryz.prog nt c Q S :=
 AWP.node tabOk (of_decide_eq_true h) (ZEV nt (of_decide_eq_true h)) c Q S hk
theorem ZyM : (Tryz.prog.underlying 1000000).isNone = true := by kernel_rfl
theorem nn {nt : Nat} {c : Code} {Q : Exit → AS → Prop} {S : AS} (hk : Am.node (@Zs2) Tryz.prog tab nt c Q S) (h : decide (nt ≤ EXT) = true := by decide) : AWP Tryz.prog nt c Q S := nd h c Q S hk
theorem nw {nt : Nat} {c : Code} {Q : Exit → AS → Prop} {S : AS} {G' : Prop} (hk : G') (s : Zey (Am.node (@Zs2) Tryz.prog tab nt c Q S) G' := by (conv => (arg 1; whnf)); exact Zey.done) (h : decide (nt ≤ EXT) = true := by decide) : AWP Tryz.prog nt c Q S := nd h c Q S (s hk)
theorem ns {nt : Nat} {c : Code} {Q : Exit → AS → Prop} {S : AS} {G' : Prop} (hk : G') (s : Zey (Am.node (@Zs2) Tryz.prog tab nt c Q S) G' := by
  (repeat (first | ((conv => (arg 1; whnf)); (with_reducible apply Zey.side); (focus (first | exact Eq.refl _ | exact trivial | (with_reducible assumption) | (with_reducible exact Int.natCast_nonneg _) | exact Nat.le_of_ble_eq_true (Eq.refl true) | exact Zd8 (Eq.refl _) (Eq.refl _) (Eq.refl _) | decide)))))
  (conv => (arg 1; whnf))
  exact Zey.done) (h : decide (nt ≤ EXT) = true := by decide) : AWP Tryz.prog nt c Q S := nd h c Q S (s hk)
theorem en {f : FuncId} {fn : Func} (hf : Tryz.prog.funcs[f]? = some fn) {args : List D} {bx bx' : ZbK} {d' : D} (hk : AWP Tryz.prog fn.ntmps (Zq fn) (ZbW tab fn.results (ZbY d' bx')) ⟨ZdY 0 args, bx⟩)
  (hb : fn.body.isSome = true := by exact rfl) (hname : (fn.name == "runtime.NumGoroutine") = false := by decide) (hargs : args.length ≤ fn.ntmps := by exact Nat.le_of_ble_eq_true rfl) : Zj Tryz.prog f args bx fun d b => d = d' ∧ b = bx' :=
 enter tabOk hf hb hname hargs hk
mutual
inductive Zk where
 | mk (fArgs : (List Zk))
end
def Zk.fArgs : Zk → (List Zk) | .mk x => x
mutual
def Zk.cells : Zk → List E
 | .mk x0 => [.sl (Zk.encs x0)]
def Zk.encs : List Zk → List (List E)
 | [] => []
 | x :: xs => Zk.cells x :: Zk.encs xs
end
theorem Zk.encs_map : ∀ l : List Zk, Zk.encs l = l.map Zk.cells
 | [] => by simp [Zk.encs]
 | x :: xs => by simp [Zk.encs, Zk.encs_map xs]
theorem Zk.cells_eq (v : Zk) : v.cells = [.sl (v.fArgs.map Zk.cells)] := by
 cases v
 simp only [Zk.cells, List.cons_append, List.nil_append, Zk.encs_map]
 rfl
theorem Zk.cells_len (v : Zk) : v.cells.length = 1 := by rw [Zk.cells_eq]; rfl
theorem Zk.ind {M : Zk → Prop} (h : ∀ v : Zk, (∀ k ∈ v.fArgs, M k) → M v) : ∀ v, M v := by
 intro v
 exact Zk.rec (motive_1 := M) (motive_2 := fun l => ∀ k ∈ l, M k) (fun x0 ih => h _ ih) (fun k hk => by simp at hk) (fun v l hv hl k hk => by
  rcases List.mem_cons.1 hk with rfl | hk
  ·exact hv
  ·exact hl k hk) v
mutual
inductive Za where
 | mk (fOp : Int) (fName : ByteArray) (fBound : Zk) (fKids : (List Za))
end
def Za.fOp : Za → Int | .mk x _ _ _ => x
def Za.fName : Za → ByteArray | .mk _ x _ _ => x
def Za.fBound : Za → Zk | .mk _ _ x _ => x
def Za.fKids : Za → (List Za) | .mk _ _ _ x => x
mutual
def Za.cells : Za → List E
 | .mk x0 x1 x2 x3 => [.v (.int .i64 x0)] ++ [.v (.string x1)] ++ [.sl (x2.fArgs.map Zk.cells)] ++ [.sl (Za.encs x3)]
def Za.encs : List Za → List (List E)
 | [] => []
 | x :: xs => Za.cells x :: Za.encs xs
end
theorem Za.encs_map : ∀ l : List Za, Za.encs l = l.map Za.cells
 | [] => by simp [Za.encs]
 | x :: xs => by simp [Za.encs, Za.encs_map xs]
theorem Za.cells_eq (v : Za) : v.cells = [.v (.int .i64 v.fOp), .v (.string v.fName), .sl (v.fBound.fArgs.map Zk.cells), .sl (v.fKids.map Za.cells)] := by
 cases v
 simp only [Za.cells, List.cons_append, List.nil_append, Za.encs_map]
 rfl
theorem Za.cells_len (v : Za) : v.cells.length = 4 := by rw [Za.cells_eq]; rfl
theorem Za.ind {M : Za → Prop} (h : ∀ v : Za, (∀ k ∈ v.fKids, M k) → M v) : ∀ v, M v := by
 intro v
 exact Za.rec (motive_1 := M) (motive_2 := fun l => ∀ k ∈ l, M k) (fun x0 x1 x2 x3 ih => h _ ih) (fun k hk => by simp at hk) (fun v l hv hl k hk => by
  rcases List.mem_cons.1 hk with rfl | hk
  ·exact hv
  ·exact hl k hk) v
structure Ze where
 fName : ByteArray
 fType : Za
def Ze.cells (v : Ze) : List E := [.v (.string v.fName), .v (.int .i64 v.fType.fOp), .v (.string v.fType.fName), .sl (v.fType.fBound.fArgs.map Zk.cells), .sl (v.fType.fKids.map Za.cells)]
theorem Ze.cells_eq (v : Ze) : v.cells = [.v (.string v.fName), .v (.int .i64 v.fType.fOp), .v (.string v.fType.fName), .sl (v.fType.fBound.fArgs.map Zk.cells), .sl (v.fType.fKids.map Za.cells)] := rfl
theorem Ze.cells_len (v : Ze) : v.cells.length = 5 := rfl
def c_S (x : ByteArray) : List E := [.v (.string x)]
theorem ZfK (x : ByteArray) : (c_S x).length = 1 := rfl
def Zcv (x : Int) : List E := [.v (.int .i64 x)]
theorem ZmL (x : Int) : (Zcv x).length = 1 := rfl
structure Zu where
 flist : (List Ze)
 fat : (List (ByteArray × Int))
structure Zl where
 e0 : Za
 e1 : Za
def Zl.cells (v : Zl) : List E := [.v (.int .i64 v.e0.fOp), .v (.string v.e0.fName), .sl (v.e0.fBound.fArgs.map Zk.cells), .sl (v.e0.fKids.map Za.cells), .v (.int .i64 v.e1.fOp), .v (.string v.e1.fName), .sl (v.e1.fBound.fArgs.map Zk.cells), .sl (v.e1.fKids.map Za.cells)]
theorem Zl.cells_eq (v : Zl) : v.cells = [.v (.int .i64 v.e0.fOp), .v (.string v.e0.fName), .sl (v.e0.fBound.fArgs.map Zk.cells), .sl (v.e0.fKids.map Za.cells), .v (.int .i64 v.e1.fOp), .v (.string v.e1.fName), .sl (v.e1.fBound.fArgs.map Zk.cells), .sl (v.e1.fKids.map Za.cells)] := rfl
theorem Zl.cells_len (v : Zl) : v.cells.length = 8 := rfl
theorem ZhN : Zko c_S := ZvS
theorem Zm7 : Zko Zcv := ZBJ

def strings_Cut.M (s : ByteArray) (sep : ByteArray) (r : ByteArray × ByteArray × Bool) : Prop :=
 Zj Tryz.prog 140 [.c none (.v (.string s)), .c none (.v (.string sep))] [] (fun d b => d = .tup [.c (.v (.string r.1)), .c (.v (.string r.2.1)), .c (.v (.bool r.2.2))] ∧ b = [])
def strings_IndexByte.M (s : ByteArray) (c : Int) (r : Int) : Prop :=
 Zj Tryz.prog 149 [.c none (.v (.string s)), .c none (.v (.int .u8 c))] [] (fun d b => d = .c none (.v (.int .i64 r)) ∧ b = [])
def Zft.M (s : ByteArray) (r : Int × Bool) : Prop :=
 Zj Tryz.prog 115 [.c none (.v (.string s))] [] (fun d b => d = .tup [.c (.v (.int .i64 r.1)), .c (.ifc r.2)] ∧ b = [])
def strconv_Itoa.M (i : Int) (r : ByteArray) : Prop :=
 Zj Tryz.prog 113 [.c none (.v (.int .i64 i))] [] (fun d b => d = .c none (.v (.string r)) ∧ b = [])
def ZdH.M (s : (List ByteArray)) (r : (List ByteArray)) : Prop :=
 Zj Tryz.prog 122 [.c none (.sl (s.map c_S))] [] (fun d b => d = .c (some (0, 9)) (.sl (r.map c_S)) ∧ b = [])

open Go Go.Am Go.RowKit
theorem Znm {P : Program} [Gl P] {f : FuncId} {args : List D} {d0 : D} (h : CallsA P f args fun d => d = d0) : Zj P f args [] fun d b => d = d0 ∧ b = [] :=
 ⟨h.1, fun w S0 M0 ZbZ ρ hv hr => (h.2 w S0 M0 ZbZ ρ hv hr).mono fun e w' ⟨v, r, bx', St', ρ', h1, h2, h3, h4⟩ =>
  ⟨v, r, [], St', ρ', h1, ⟨h2, rfl⟩, h3, h4.less ⟨fun i => .inr (.inl rfl), fun n cs hb => by cases hb⟩⟩⟩
theorem ZGk {α : Type} {ZbZ : Array α} (h : ZbZ.size = 1) : ∃ a, ZbZ = #[a] := by
 obtain ⟨l⟩ := ZbZ
 match l, h with
 | [a], _ => exact ⟨a, rfl⟩
theorem ZFH {α : Type} {ZbZ : Array α} (h : ZbZ.size = 2) : ∃ a b, ZbZ = #[a, b] := by
 obtain ⟨l⟩ := ZbZ
 match l, h with
 | [a, b], _ => exact ⟨a, b, rfl⟩
theorem ZeI {w : World} {St : Zar} {s : Value} {x : Value} (h : ZcK w St (.v s) x) : x = s := by
 cases h; rfl
def ZoU (i : Int) : ByteArray := ⟨(Lib.itoa i).toArray⟩
def strconv_Itoa (i : Int) : Option ByteArray := Z4 (-9223372036854775808 ≤ i ∧ i ≤ 9223372036854775807) >>= fun _ => some (ZoU i)
theorem ZCe (w : World) (St : Zar) (hG : ZkU Tryz.prog w St) : Lib.TabIs Tryz.prog w "internal/strconv.uint64pow10" .u64 Lib.pow10Tab := by
 have h0 : ZqH (w.cell? ⟨3, 20, none⟩) := (hG (3, 20, ZqH) (List.mem_append_left _ (List.mem_cons_self ..))).2
 have h1 : ∀ i, i < 20 → w.cell? ⟨3, i, none⟩ = some (.int .u64 ((10 ^ i : Nat) : Int)) := fun i hi =>
  (hG (3, i, Ztp i) (List.mem_append_left _ (List.mem_cons_of_mem _ (List.mem_map.2 ⟨i, List.mem_range.2 hi, rfl⟩)))).2
 have hg : Tryz.prog.globalNamed "internal/strconv.uint64pow10" = some 3 := by kernel_rfl
 unfold Lib.TabIs World.var?
 rw [hg]
 have h2 := h1 0 (by decide)
 unfold ZqH at h0
 unfold World.cell? at h0 h1 h2
 simp only [Option.bind_some]
 split at h2
 case h_2 => cases h2
 rename_i c t f hc
 simp only [hc, Option.isSome_none, Bool.false_eq_true, if_false] at h0 h1 ⊢
 congr 1
 apply Array.ext_getElem?
 intro i
 have e0 : ((Lib.pow10Tab.map fun z => Value.int .u64 z).toArray)[i]? = (Lib.pow10Tab.map fun z => Value.int .u64 z)[i]? := List.getElem?_toArray
 rw [e0, Lib.pow10Tab, List.getElem?_map, List.getElem?_map]
 by_cases hi : i < 20
 ·rw [h1 i hi, List.getElem?_range hi]; rfl
 ·have : c.size ≤ 20 := by
   rcases Nat.lt_or_ge 20 c.size with h | h
   ·rw [Array.getElem?_eq_getElem h] at h0; cases h0
   ·exact h
  rw [Array.getElem?_eq_none (by omega), List.getElem?_eq_none (by simp; omega)]; rfl
theorem Zwg (w : World) (os : Array Obj) (k : Nat) : Below w.heap.size w (Sort.grow (w.drewN k) os) := Lib.below_grow _ w (Nat.le_refl _) k os
theorem Zl1 (i : Int) (r : ByteArray) (h : strconv_Itoa i = some r) : strconv_Itoa.M i r := by
 unfold strconv_Itoa at h
 obtain ⟨hc, h⟩ := Zy h
 obtain rfl := Zg h
 refine Znm (CallsA.of_calls ⟨_, Tryz.func113, by decide, rfl⟩ fun w St ρ ZbZ hv hr hlt hG => ?_)
 obtain ⟨a, rfl⟩ := ZGk hv
 obtain rfl := ZeI (show ZcK w St (.v (.int .i64 i)) a from (hr 0).val)
 refine (Tryz.strconv_Itoa i hc.1 hc.2 w (ZCe w St hG)).mono ?_
 rintro e w' ⟨rfl, k, os, rfl⟩
 exact ⟨_, rfl, rfl, rfl, Zwg w os k⟩
def ZsX (s : ByteArray) : Int × Bool :=
 match Lib.atoiAll s.data.toList with
 | .ok v => (v, false)
 | .range => (Lib.atoiSat s.data.toList, true)
 | _ => (0, true)
def Zft (s : ByteArray) : Option (Int × Bool) := Z4 (s.size ≤ 281474976710656) >>= fun _ => some (ZsX s)
theorem ZDG (w : World) (St : Zar) (hG : ZkU Tryz.prog w St) : Znl (w.cell? ⟨1, 0, none⟩) ∧ Znl (w.cell? ⟨2, 0, none⟩) :=
 ⟨(hG (1, 0, Znl) (by first | exact List.mem_append_right _ (by simp [Zd4]) | (show _ ∈ Zd4; simp [Zd4]))).2, (hG (2, 0, Znl) (by first | exact List.mem_append_right _ (by simp [Zd4]) | (show _ ∈ Zd4; simp [Zd4]))).2⟩
theorem ZEs {w : World} {St : Zar} {ρ : Nat → Nat} {n : Int} {b : Bool} {v : Value} (hv : (b = false ∧ v = .nilIface) ∨ (b = true ∧ ∃ t u, v = .iface t u)) : ZdM w St ρ (.tup [.c (.v (.int .i64 n)), .c (.ifc b)]) (.tuple #[.int .i64 n, v]) := by
 refine ⟨[.int .i64 n, v], rfl, rfl, fun k x hk => ?_⟩
 match k, hk with
 | 0, hk => simp only [List.getElem?_cons_zero, Option.some.injEq] at hk; subst hk; exact ⟨_, rfl, .e _ _ (.v _ rfl)⟩
 | 1, hk => simp only [List.getElem?_cons_succ, List.getElem?_cons_zero, Option.some.injEq] at hk; subst hk; exact ⟨_, rfl, .e _ _ (.ifc b v hv)⟩
 | k + 2, hk => simp at hk
theorem Zvc {w w' : World} (h : w' = w ∨ ∃ t, w' = Lib.bytesWorld w 5 t) : Below w.heap.size w w' := by
 rcases h with rfl | ⟨t, rfl⟩
 ·exact Below.refl _ _
 ·exact Lib.bytesWorld_below w 5 t
theorem strconv_Atoi_ok (s : ByteArray) (r : Int × Bool) (h : Zft s = some r) : Zft.M s r := by
 unfold Zft at h
 obtain ⟨hc, h⟩ := Zy h
 obtain rfl := Zg h
 refine Znm (CallsA.of_callsD ⟨_, Tryz.func115, by decide, rfl⟩ fun w St ρ ZbZ hv hr hlt hG => ?_)
 obtain ⟨a, rfl⟩ := ZGk hv
 obtain rfl := ZeI (show ZcK w St (.v (.string s)) a from (hr 0).val)
 obtain ⟨⟨e3, h3, i3⟩, e4, h4, i4⟩ := ZDG w St hG
 unfold ZsX
 cases hn : Lib.atoiAll s.data.toList
 ·rename_i v
  refine (Tryz.strconv_Atoi_ok s (by omega) v hn w).mono ?_
  rintro e w' ⟨rfl, hw⟩
  exact ⟨_, _, rfl, ZEs (.inl ⟨rfl, rfl⟩), rfl, rfl, Zvc hw⟩
 ·refine (Tryz.strconv_Atoi_syntax s hc (by rw [hn]; rfl) e3 w h3 i3).mono ?_
  rintro e w' ⟨N, rfl, _, _, hw⟩
  exact ⟨_, _, rfl, ZEs (.inr ⟨rfl, _, _, rfl⟩), rfl, rfl, hw⟩
 ·refine (Tryz.strconv_Atoi_range s hc hn e4 w h4 i4).mono ?_
  rintro e w' ⟨N, rfl, _, _, hw⟩
  exact ⟨_, _, rfl, ZEs (.inr ⟨rfl, _, _, rfl⟩), rfl, rfl, hw⟩
def strings_IndexByte (s : ByteArray) (c : Int) : Option Int := some (Lib.indexByte s.data.toList c.toNat.toUInt8)
theorem Zmq (s : ByteArray) (c r : Int) (h : strings_IndexByte s c = some r) : strings_IndexByte.M s c r := by
 injection h with h; subst h
 refine Znm (CallsA.of_calls ⟨_, Tryz.func149, by decide, rfl⟩ fun w St ρ ZbZ hv hr hlt hG => ?_)
 obtain ⟨a, b, rfl⟩ := ZFH hv
 obtain rfl := ZeI (show ZcK w St (.v (.string s)) a from (hr 0).val)
 obtain rfl := ZeI (show ZcK w St (.v (.int .u8 c)) b from (hr 1).val)
 refine (Tryz.strings_IndexByte s c w).mono ?_
 rintro e w' ⟨rfl, rfl⟩
 exact ⟨_, rfl, rfl, rfl, Below.refl _ _⟩
def ZCx (s sep : ByteArray) : ByteArray × ByteArray × Bool := (⟨(Lib.cut s.data.toList sep.data.toList).1.toArray⟩, ⟨(Lib.cut s.data.toList sep.data.toList).2.1.toArray⟩, (Lib.cut s.data.toList sep.data.toList).2.2)
def strings_Cut (s sep : ByteArray) : Option (ByteArray × ByteArray × Bool) := Z4 (s.size < 4294967281) >>= fun _ => some (ZCx s sep)
theorem ZGW {w : World} {St : Zar} {ρ : Nat → Nat} {a b c : Value} (ha : a.oneCell' = true) (hb : b.oneCell' = true) (hc : c.oneCell' = true) : ZdM w St ρ (.tup [.c (.v a), .c (.v b), .c (.v c)]) (.tuple #[a, b, c]) := by
 refine ⟨[a, b, c], rfl, rfl, fun k x hk => ?_⟩
 match k, hk with
 | 0, hk => simp only [List.getElem?_cons_zero, Option.some.injEq] at hk; subst hk; exact ⟨_, rfl, .e _ _ (.v _ ha)⟩
 | 1, hk => simp only [List.getElem?_cons_succ, List.getElem?_cons_zero, Option.some.injEq] at hk; subst hk; exact ⟨_, rfl, .e _ _ (.v _ hb)⟩
 | 2, hk => simp only [List.getElem?_cons_succ, List.getElem?_cons_zero, Option.some.injEq] at hk; subst hk; exact ⟨_, rfl, .e _ _ (.v _ hc)⟩
 | k + 3, hk => simp at hk
theorem Zv0 (w : World) (n : Nat) : Below w.heap.size w (w.drewN n) := ⟨rfl, rfl, rfl, Nat.le_refl _, fun _ _ => rfl⟩
theorem Zrb (s sep : ByteArray) (r : ByteArray × ByteArray × Bool) (h : strings_Cut s sep = some r) : strings_Cut.M s sep r := by
 unfold strings_Cut at h
 obtain ⟨hc, h⟩ := Zy h
 obtain rfl := Zg h
 refine Znm (CallsA.of_callsD ⟨_, Tryz.func140, by decide, rfl⟩ fun w St ρ ZbZ hv hr hlt hG => ?_)
 obtain ⟨a, b, rfl⟩ := ZFH hv
 obtain rfl := ZeI (show ZcK w St (.v (.string s)) a from (hr 0).val)
 obtain rfl := ZeI (show ZcK w St (.v (.string sep)) b from (hr 1).val)
 obtain ⟨m, hm⟩ := (hG (0, 0, Zxr) (by first | exact List.mem_append_right _ (by simp [Zd4]) | (show _ ∈ Zd4; simp [Zd4]))).2
 refine (Tryz.strings_Cut s sep m w hc hm).mono ?_
 rintro e w' ⟨rfl, n, rfl⟩
 exact ⟨_, _, rfl, ZGW rfl rfl rfl, rfl, rfl, Zv0 w n⟩

def ZdH (s : List ByteArray) : Option (List ByteArray) := Z4 ((0 + s.length) * 16 ≤ 140737488355328) >>= fun _ => some s
theorem ZlP (s r : List ByteArray) (hF : ZdH s = some r) : ZdH.M s r := by
 unfold ZdH at hF
 obtain ⟨hg, hF⟩ := Zy hF
 obtain rfl := Zg hF
 unfold ZdH.M
 refine enter tabOk Tryz.func122 rfl (by decide) (Nat.le_of_ble_eq_true rfl) ?_
 refine AWP.seq ?_
 refine ns ?_
 refine AWP.seq ?_
 refine AWP.seq ?_
 refine ns ?_
 refine And.intro (fun hnil => ?_) ?_
 ·obtain rfl : s = [] := by simpa using hnil
  refine st ?_
  refine nw ?_
  refine AWP.seq ?_
  refine ns ?_
  refine ns ?_
  refine Exists.intro [] ?_
  refine st ?_
  exact Exists.intro (rn []) (WS.mk (Zd ZjT Zb) Zc)
 ·refine st ?_
  refine nw ?_
  refine nw ?_
  refine AWP.seq ?_
  refine ns ?_
  refine Exists.intro [] (And.intro (WE.refl _) ?_)
  refine st ?_
  refine And.intro (ZbO _ (fun x => ZfK x)) (And.intro (by have h := hg; simp only [List.length_map, List.length_append, List.length_cons, List.length_nil, Nat.zero_add] at h ⊢; first | exact h | (unfold maxLen; omega) | omega) (And.intro (by have h := hg; simp only [List.length_map, List.length_append, List.length_cons, List.length_nil, Nat.zero_add] at h ⊢; first | exact h | (unfold maxLen; omega) | omega) (Exists.intro _ (And.intro (WE.refl _) ?_))))
  refine st ?_
  refine ns ?_
  refine Exists.intro [] ?_
  refine st ?_
  exact Exists.intro (rn [(7, 0)]) (WS.mk (Zd (Zal rfl (WE.refl _)) Zb) Zc)

def ZT (x_4 : Bool) : Option (Bool) :=
 if x_4 = true then
 some true
 else
 some false
def ZT.M (x_4 : Bool) (r : Bool) : Prop :=
 AWP Tryz.prog 15 (Code.sub (Zq Tryz.f118) [1, 0, 1, 0, 1]) (Code.cont Tryz.prog 15 (Zq Tryz.f118) [1, 0, 1, 0, 1] (ZbW tab Tryz.f118.results (ZbY (.c none (.v (.bool r))) []))) ⟨[(4, .c none (.v (.bool x_4)))], []⟩
theorem Zaq (x_4 : Bool) (r : Bool) (hF : ZT x_4 = some r) : ZT.M x_4 r := by
 unfold ZT at hF
 unfold ZT.M
 refine nw ?_
 refine Zi hF (fun Zdt hF => ?_) (fun Zdt hF => ?_)
 ·refine AWP.seq ?_
  refine ns ?_
  obtain rfl := Zg hF
  refine ns ?_
  refine Exists.intro [] ?_
  refine st ?_
  exact wx (WS.mk (tc Zb) Zc)
 ·refine nw ?_
  refine AWP.seq ?_
  refine ns ?_
  obtain rfl := Zg hF
  refine ns ?_
  refine Exists.intro [] ?_
  refine st ?_
  exact wx (WS.mk (tc Zb) Zc)

def ZbQ (s : ByteArray) : Option (Bool) :=
 if (s.toList == (ByteArray.mk #[46, 46]).toList) = true then
 ZT (s.toList == (ByteArray.mk #[46, 46]).toList)
 else
 if (s.toList == (ByteArray.mk #[58, 58]).toList) = true then
 ZT (s.toList == (ByteArray.mk #[58, 58]).toList)
 else
 if (s.toList == (ByteArray.mk #[61]).toList) = true then
 ZT (s.toList == (ByteArray.mk #[61]).toList)
 else
 if (s.toList == (ByteArray.mk #[92]).toList) = true then
 ZT (s.toList == (ByteArray.mk #[92]).toList)
 else
 if (s.toList == (ByteArray.mk #[124]).toList) = true then
 ZT (s.toList == (ByteArray.mk #[124]).toList)
 else
 if (s.toList == (ByteArray.mk #[60, 45]).toList) = true then
 ZT (s.toList == (ByteArray.mk #[60, 45]).toList)
 else
 if (s.toList == (ByteArray.mk #[45, 62]).toList) = true then
 ZT (s.toList == (ByteArray.mk #[45, 62]).toList)
 else
 if (s.toList == (ByteArray.mk #[64]).toList) = true then
 ZT (s.toList == (ByteArray.mk #[64]).toList)
 else
 if (s.toList == (ByteArray.mk #[126]).toList) = true then
 ZT (s.toList == (ByteArray.mk #[126]).toList)
 else
 ZT (s.toList == (ByteArray.mk #[61, 62]).toList)
def ZbQ.M (s : ByteArray) (r : Bool) : Prop :=
 Zj Tryz.prog 118 [.c none (.v (.string s))] [] (fun d b => d = .c none (.v (.bool r)) ∧ b = [])
theorem Ze9 (s : ByteArray) (r : Bool) (hF : ZbQ s = some r) : ZbQ.M s r := by
 unfold ZbQ at hF
 unfold ZbQ.M
 refine en Tryz.func118 ?_
 refine AWP.seq ?_
 refine ns ?_
 refine AWP.seq ?_
 refine AWP.seq ?_
 refine ns ?_
 refine AWP.block ?_
 refine AWP.seq ?_
 refine AWP.seq ?_
 refine ns ?_
 refine nw ?_
 refine Zi hF (fun ZcP hF => ?_) (fun ZcP hF => ?_)
 ·refine nw ?_
  refine AWP.weak (rn []) ?_ (Zaq (s.toList == (ByteArray.mk #[46, 46]).toList) _ hF)
  exact (WS.mk (tc Zb) Zc)
 ·refine AWP.seq ?_
  refine ns ?_
  refine nw ?_
  refine Zi hF (fun ZcJ hF => ?_) (fun ZcJ hF => ?_)
  ·refine nw ?_
   refine AWP.weak (rn []) ?_ (Zaq (s.toList == (ByteArray.mk #[58, 58]).toList) _ hF)
   exact (WS.mk (tc Zb) Zc)
  ·refine AWP.seq ?_
   refine ns ?_
   refine nw ?_
   refine Zi hF (fun ZbB hF => ?_) (fun ZbB hF => ?_)
   ·refine nw ?_
    refine AWP.weak (rn []) ?_ (Zaq (s.toList == (ByteArray.mk #[61]).toList) _ hF)
    exact (WS.mk (tc Zb) Zc)
   ·refine AWP.seq ?_
    refine ns ?_
    refine nw ?_
    refine Zi hF (fun Zdk hF => ?_) (fun Zdk hF => ?_)
    ·refine nw ?_
     refine AWP.weak (rn []) ?_ (Zaq (s.toList == (ByteArray.mk #[92]).toList) _ hF)
     exact (WS.mk (tc Zb) Zc)
    ·refine AWP.seq ?_
     refine ns ?_
     refine nw ?_
     refine Zi hF (fun Zfg hF => ?_) (fun Zfg hF => ?_)
     ·refine nw ?_
      refine AWP.weak (rn []) ?_ (Zaq (s.toList == (ByteArray.mk #[124]).toList) _ hF)
      exact (WS.mk (tc Zb) Zc)
     ·refine AWP.seq ?_
      refine ns ?_
      refine nw ?_
      refine Zi hF (fun Zgv hF => ?_) (fun Zgv hF => ?_)
      ·refine nw ?_
       refine AWP.weak (rn []) ?_ (Zaq (s.toList == (ByteArray.mk #[60, 45]).toList) _ hF)
       exact (WS.mk (tc Zb) Zc)
      ·refine AWP.seq ?_
       refine ns ?_
       refine nw ?_
       refine Zi hF (fun ZiP hF => ?_) (fun ZiP hF => ?_)
       ·refine nw ?_
        refine AWP.weak (rn []) ?_ (Zaq (s.toList == (ByteArray.mk #[45, 62]).toList) _ hF)
        exact (WS.mk (tc Zb) Zc)
       ·refine AWP.seq ?_
        refine ns ?_
        refine nw ?_
        refine Zi hF (fun Zt7 hF => ?_) (fun Zt7 hF => ?_)
        ·refine nw ?_
         refine AWP.weak (rn []) ?_ (Zaq (s.toList == (ByteArray.mk #[64]).toList) _ hF)
         exact (WS.mk (tc Zb) Zc)
        ·refine AWP.seq ?_
         refine ns ?_
         refine nw ?_
         refine Zi hF (fun Zt4 hF => ?_) (fun Zt4 hF => ?_)
         ·refine nw ?_
          refine AWP.weak (rn []) ?_ (Zaq (s.toList == (ByteArray.mk #[126]).toList) _ hF)
          exact (WS.mk (tc Zb) Zc)
         ·refine ns ?_
          refine AWP.weak (rn []) ?_ (Zaq (s.toList == (ByteArray.mk #[61, 62]).toList) _ hF)
          exact (WS.mk (tc Zb) Zc)

def Zv (x_4 : Bool) : Option (Bool) :=
 if x_4 = true then
 some true
 else
 some false
def Zv.M (x_4 : Bool) (r : Bool) : Prop :=
 AWP Tryz.prog 27 (Code.sub (Zq Tryz.f117) [1, 0, 1, 0, 1]) (Code.cont Tryz.prog 27 (Zq Tryz.f117) [1, 0, 1, 0, 1] (ZbW tab Tryz.f117.results (ZbY (.c none (.v (.bool r))) []))) ⟨[(4, .c none (.v (.bool x_4)))], []⟩
theorem Zx (x_4 : Bool) (r : Bool) (hF : Zv x_4 = some r) : Zv.M x_4 r := by
 unfold Zv at hF
 unfold Zv.M
 refine nw ?_
 refine Zi hF (fun Zta hF => ?_) (fun Zta hF => ?_)
 ·refine AWP.seq ?_
  refine ns ?_
  obtain rfl := Zg hF
  refine ns ?_
  refine Exists.intro [] ?_
  refine st ?_
  exact wx (WS.mk (tc Zb) Zc)
 ·refine nw ?_
  refine AWP.seq ?_
  refine ns ?_
  obtain rfl := Zg hF
  refine ns ?_
  refine Exists.intro [] ?_
  refine st ?_
  exact wx (WS.mk (tc Zb) Zc)

def Zcm (s : ByteArray) : Option (Bool) :=
 if (s.toList == (ByteArray.mk #[97, 115]).toList) = true then
 Zv (s.toList == (ByteArray.mk #[97, 115]).toList)
 else
 if (s.toList == (ByteArray.mk #[99, 97, 115, 101]).toList) = true then
 Zv (s.toList == (ByteArray.mk #[99, 97, 115, 101]).toList)
 else
 if (s.toList == (ByteArray.mk #[99, 108, 97, 115, 115]).toList) = true then
 Zv (s.toList == (ByteArray.mk #[99, 108, 97, 115, 115]).toList)
 else
 if (s.toList == (ByteArray.mk #[100, 97, 116, 97]).toList) = true then
 Zv (s.toList == (ByteArray.mk #[100, 97, 116, 97]).toList)
 else
 if (s.toList == (ByteArray.mk #[100, 101, 114, 105, 118, 105, 110, 103]).toList) = true then
 Zv (s.toList == (ByteArray.mk #[100, 101, 114, 105, 118, 105, 110, 103]).toList)
 else
 if (s.toList == (ByteArray.mk #[100, 111]).toList) = true then
 Zv (s.toList == (ByteArray.mk #[100, 111]).toList)
 else
 if (s.toList == (ByteArray.mk #[101, 108, 115, 101]).toList) = true then
 Zv (s.toList == (ByteArray.mk #[101, 108, 115, 101]).toList)
 else
 if (s.toList == (ByteArray.mk #[104, 105, 100, 105, 110, 103]).toList) = true then
 Zv (s.toList == (ByteArray.mk #[104, 105, 100, 105, 110, 103]).toList)
 else
 if (s.toList == (ByteArray.mk #[105, 102]).toList) = true then
 Zv (s.toList == (ByteArray.mk #[105, 102]).toList)
 else
 if (s.toList == (ByteArray.mk #[105, 109, 112, 111, 114, 116]).toList) = true then
 Zv (s.toList == (ByteArray.mk #[105, 109, 112, 111, 114, 116]).toList)
 else
 if (s.toList == (ByteArray.mk #[105, 110]).toList) = true then
 Zv (s.toList == (ByteArray.mk #[105, 110]).toList)
 else
 if (s.toList == (ByteArray.mk #[105, 110, 102, 105, 120]).toList) = true then
 Zv (s.toList == (ByteArray.mk #[105, 110, 102, 105, 120]).toList)
 else
 if (s.toList == (ByteArray.mk #[105, 110, 102, 105, 120, 108]).toList) = true then
 Zv (s.toList == (ByteArray.mk #[105, 110, 102, 105, 120, 108]).toList)
 else
 if (s.toList == (ByteArray.mk #[105, 110, 102, 105, 120, 114]).toList) = true then
 Zv (s.toList == (ByteArray.mk #[105, 110, 102, 105, 120, 114]).toList)
 else
 if (s.toList == (ByteArray.mk #[105, 110, 115, 116, 97, 110, 99, 101]).toList) = true then
 Zv (s.toList == (ByteArray.mk #[105, 110, 115, 116, 97, 110, 99, 101]).toList)
 else
 if (s.toList == (ByteArray.mk #[108, 101, 116]).toList) = true then
 Zv (s.toList == (ByteArray.mk #[108, 101, 116]).toList)
 else
 if (s.toList == (ByteArray.mk #[109, 111, 100, 117, 108, 101]).toList) = true then
 Zv (s.toList == (ByteArray.mk #[109, 111, 100, 117, 108, 101]).toList)
 else
 if (s.toList == (ByteArray.mk #[111, 102]).toList) = true then
 Zv (s.toList == (ByteArray.mk #[111, 102]).toList)
 else
 if (s.toList == (ByteArray.mk #[113, 117, 97, 108, 105, 102, 105, 101, 100]).toList) = true then
 Zv (s.toList == (ByteArray.mk #[113, 117, 97, 108, 105, 102, 105, 101, 100]).toList)
 else
 if (s.toList == (ByteArray.mk #[116, 104, 101, 110]).toList) = true then
 Zv (s.toList == (ByteArray.mk #[116, 104, 101, 110]).toList)
 else
 if (s.toList == (ByteArray.mk #[119, 104, 101, 114, 101]).toList) = true then
 Zv (s.toList == (ByteArray.mk #[119, 104, 101, 114, 101]).toList)
 else
 Zv (s.toList == (ByteArray.mk #[95]).toList)
def Zcm.M (s : ByteArray) (r : Bool) : Prop :=
 Zj Tryz.prog 117 [.c none (.v (.string s))] [] (fun d b => d = .c none (.v (.bool r)) ∧ b = [])
theorem Zh2 (s : ByteArray) (r : Bool) (hF : Zcm s = some r) : Zcm.M s r := by
 unfold Zcm at hF
 unfold Zcm.M
 refine en Tryz.func117 ?_
 refine AWP.seq ?_
 refine ns ?_
 refine AWP.seq ?_
 refine AWP.seq ?_
 refine ns ?_
 refine AWP.block ?_
 refine AWP.seq ?_
 refine AWP.seq ?_
 refine ns ?_
 refine nw ?_
 refine Zi hF (fun ZEc hF => ?_) (fun ZEc hF => ?_)
 ·refine nw ?_
  refine AWP.weak (rn []) ?_ (Zx (s.toList == (ByteArray.mk #[97, 115]).toList) _ hF)
  exact (WS.mk (tc Zb) Zc)
 ·refine AWP.seq ?_
  refine ns ?_
  refine nw ?_
  refine Zi hF (fun Zzf hF => ?_) (fun Zzf hF => ?_)
  ·refine nw ?_
   refine AWP.weak (rn []) ?_ (Zx (s.toList == (ByteArray.mk #[99, 97, 115, 101]).toList) _ hF)
   exact (WS.mk (tc Zb) Zc)
  ·refine AWP.seq ?_
   refine ns ?_
   refine nw ?_
   refine Zi hF (fun Zjs hF => ?_) (fun Zjs hF => ?_)
   ·refine nw ?_
    refine AWP.weak (rn []) ?_ (Zx (s.toList == (ByteArray.mk #[99, 108, 97, 115, 115]).toList) _ hF)
    exact (WS.mk (tc Zb) Zc)
   ·refine AWP.seq ?_
    refine ns ?_
    refine nw ?_
    refine Zi hF (fun ZlI hF => ?_) (fun ZlI hF => ?_)
    ·refine nw ?_
     refine AWP.weak (rn []) ?_ (Zx (s.toList == (ByteArray.mk #[100, 97, 116, 97]).toList) _ hF)
     exact (WS.mk (tc Zb) Zc)
    ·refine AWP.seq ?_
     refine ns ?_
     refine nw ?_
     refine Zi hF (fun Zto hF => ?_) (fun Zto hF => ?_)
     ·refine nw ?_
      refine AWP.weak (rn []) ?_ (Zx (s.toList == (ByteArray.mk #[100, 101, 114, 105, 118, 105, 110, 103]).toList) _ hF)
      exact (WS.mk (tc Zb) Zc)
     ·refine AWP.seq ?_
      refine ns ?_
      refine nw ?_
      refine Zi hF (fun ZAG hF => ?_) (fun ZAG hF => ?_)
      ·refine nw ?_
       refine AWP.weak (rn []) ?_ (Zx (s.toList == (ByteArray.mk #[100, 111]).toList) _ hF)
       exact (WS.mk (tc Zb) Zc)
      ·refine AWP.seq ?_
       refine ns ?_
       refine nw ?_
       refine Zi hF (fun Zox hF => ?_) (fun Zox hF => ?_)
       ·refine nw ?_
        refine AWP.weak (rn []) ?_ (Zx (s.toList == (ByteArray.mk #[101, 108, 115, 101]).toList) _ hF)
        exact (WS.mk (tc Zb) Zc)
       ·refine AWP.seq ?_
        refine ns ?_
        refine nw ?_
        refine Zi hF (fun Zpx hF => ?_) (fun Zpx hF => ?_)
        ·refine nw ?_
         refine AWP.weak (rn []) ?_ (Zx (s.toList == (ByteArray.mk #[104, 105, 100, 105, 110, 103]).toList) _ hF)
         exact (WS.mk (tc Zb) Zc)
        ·refine AWP.seq ?_
         refine ns ?_
         refine nw ?_
         refine Zi hF (fun ZyL hF => ?_) (fun ZyL hF => ?_)
         ·refine nw ?_
          refine AWP.weak (rn []) ?_ (Zx (s.toList == (ByteArray.mk #[105, 102]).toList) _ hF)
          exact (WS.mk (tc Zb) Zc)
         ·refine AWP.seq ?_
          refine ns ?_
          refine nw ?_
          refine Zi hF (fun ZnN hF => ?_) (fun ZnN hF => ?_)
          ·refine nw ?_
           refine AWP.weak (rn []) ?_ (Zx (s.toList == (ByteArray.mk #[105, 109, 112, 111, 114, 116]).toList) _ hF)
           exact (WS.mk (tc Zb) Zc)
          ·refine AWP.seq ?_
           refine ns ?_
           refine nw ?_
           refine Zi hF (fun ZpF hF => ?_) (fun ZpF hF => ?_)
           ·refine nw ?_
            refine AWP.weak (rn []) ?_ (Zx (s.toList == (ByteArray.mk #[105, 110]).toList) _ hF)
            exact (WS.mk (tc Zb) Zc)
           ·refine AWP.seq ?_
            refine ns ?_
            refine nw ?_
            refine Zi hF (fun ZyZ hF => ?_) (fun ZyZ hF => ?_)
            ·refine nw ?_
             refine AWP.weak (rn []) ?_ (Zx (s.toList == (ByteArray.mk #[105, 110, 102, 105, 120]).toList) _ hF)
             exact (WS.mk (tc Zb) Zc)
            ·refine AWP.seq ?_
             refine ns ?_
             refine nw ?_
             refine Zi hF (fun Znz hF => ?_) (fun Znz hF => ?_)
             ·refine nw ?_
              refine AWP.weak (rn []) ?_ (Zx (s.toList == (ByteArray.mk #[105, 110, 102, 105, 120, 108]).toList) _ hF)
              exact (WS.mk (tc Zb) Zc)
             ·refine AWP.seq ?_
              refine ns ?_
              refine nw ?_
              refine Zi hF (fun ZkF hF => ?_) (fun ZkF hF => ?_)
              ·refine nw ?_
               refine AWP.weak (rn []) ?_ (Zx (s.toList == (ByteArray.mk #[105, 110, 102, 105, 120, 114]).toList) _ hF)
               exact (WS.mk (tc Zb) Zc)
              ·refine AWP.seq ?_
               refine ns ?_
               refine nw ?_
               refine Zi hF (fun ZpN hF => ?_) (fun ZpN hF => ?_)
               ·refine nw ?_
                refine AWP.weak (rn []) ?_ (Zx (s.toList == (ByteArray.mk #[105, 110, 115, 116, 97, 110, 99, 101]).toList) _ hF)
                exact (WS.mk (tc Zb) Zc)
               ·refine AWP.seq ?_
                refine ns ?_
                refine nw ?_
                refine Zi hF (fun Zkp hF => ?_) (fun Zkp hF => ?_)
                ·refine nw ?_
                 refine AWP.weak (rn []) ?_ (Zx (s.toList == (ByteArray.mk #[108, 101, 116]).toList) _ hF)
                 exact (WS.mk (tc Zb) Zc)
                ·refine AWP.seq ?_
                 refine ns ?_
                 refine nw ?_
                 refine Zi hF (fun ZhU hF => ?_) (fun ZhU hF => ?_)
                 ·refine nw ?_
                  refine AWP.weak (rn []) ?_ (Zx (s.toList == (ByteArray.mk #[109, 111, 100, 117, 108, 101]).toList) _ hF)
                  exact (WS.mk (tc Zb) Zc)
                 ·refine AWP.seq ?_
                  refine ns ?_
                  refine nw ?_
                  refine Zi hF (fun Zoj hF => ?_) (fun Zoj hF => ?_)
                  ·refine nw ?_
                   refine AWP.weak (rn []) ?_ (Zx (s.toList == (ByteArray.mk #[111, 102]).toList) _ hF)
                   exact (WS.mk (tc Zb) Zc)
                  ·refine AWP.seq ?_
                   refine ns ?_
                   refine nw ?_
                   refine Zi hF (fun Zv9 hF => ?_) (fun Zv9 hF => ?_)
                   ·refine nw ?_
                    refine AWP.weak (rn []) ?_ (Zx (s.toList == (ByteArray.mk #[113, 117, 97, 108, 105, 102, 105, 101, 100]).toList) _ hF)
                    exact (WS.mk (tc Zb) Zc)
                   ·refine AWP.seq ?_
                    refine ns ?_
                    refine nw ?_
                    refine Zi hF (fun ZvB hF => ?_) (fun ZvB hF => ?_)
                    ·refine nw ?_
                     refine AWP.weak (rn []) ?_ (Zx (s.toList == (ByteArray.mk #[116, 104, 101, 110]).toList) _ hF)
                     exact (WS.mk (tc Zb) Zc)
                    ·refine AWP.seq ?_
                     refine ns ?_
                     refine nw ?_
                     refine Zi hF (fun ZCC hF => ?_) (fun ZCC hF => ?_)
                     ·refine nw ?_
                      refine AWP.weak (rn []) ?_ (Zx (s.toList == (ByteArray.mk #[119, 104, 101, 114, 101]).toList) _ hF)
                      exact (WS.mk (tc Zb) Zc)
                     ·refine ns ?_
                      refine AWP.weak (rn []) ?_ (Zx (s.toList == (ByteArray.mk #[95]).toList) _ hF)
                      exact (WS.mk (tc Zb) Zc)

def ZdZ (c : Int) : Option (Bool) :=
 strings_IndexByte (ByteArray.mk #[33, 35, 36, 37, 38, 42, 43, 46, 47, 60, 61, 62, 63, 64, 92, 94, 124, 45, 126, 58]) c >>= fun r1 =>
 some (decide (r1 ≥ 0))
def ZdZ.M (c : Int) (r : Bool) : Prop :=
 Zj Tryz.prog 137 [.c none (.v (.int .u8 c))] [] (fun d b => d = .c none (.v (.bool r)) ∧ b = [])
theorem ZoF (c : Int) (r : Bool) (hF : ZdZ c = some r) : ZdZ.M c r := by
 unfold ZdZ at hF
 unfold ZdZ.M
 refine en Tryz.func137 ?_
 refine AWP.seq ?_
 refine ns ?_
 refine AWP.seq ?_
 obtain ⟨r1, hr1, hF⟩ := bind_some hF
 refine ns ?_
 refine e3 ?_
 refine st ?_
 refine cm (Zj.weak (rn []) (Zmq (ByteArray.mk #[33, 35, 36, 37, 38, 42, 43, 46, 47, 60, 61, 62, 63, 64, 92, 94, 124, 45, 126, 58]) c _ hr1) rfl (WS.mk (tc (tc Zb)) Zc)) ?_
 refine st ?_
 obtain rfl := Zg hF
 refine ns ?_
 refine Exists.intro [] ?_
 refine st ?_
 exact wx (WS.mk (tc Zb) Zc)

def Zb4 (s : ByteArray) (ZbH : Nat) (i_4 : Nat) : Option (Bool) :=
 if (((i_4 : Nat) : Int) == ((s.size : Nat) : Int)) = true then
 some ((((s.size : Nat) : Int) == 1) || (decide (((ZbH : Nat) : Int) < ((s.size : Nat) : Int))))
 else
 (btI s ((i_4 : Nat) : Int)) >>= fun y69 =>
 ZdZ ((y69.toNat : Nat) : Int) >>= fun r70 =>
 if (!r70) = true then
 some false
 else
 (btI s ((i_4 : Nat) : Int)) >>= fun y72 =>
 if (((y72.toNat : Nat) : Int) == 45) = true then
 Z4 (ZbH + 1 ≤ 9223372036854775807) >>= fun _ =>
 Z4 (i_4 + 1 ≤ 9223372036854775807) >>= fun _ =>
 Zb4 s (ZbH + 1) (i_4 + 1)
 else
 Z4 (i_4 + 1 ≤ 9223372036854775807) >>= fun _ =>
 Zb4 s ZbH (i_4 + 1)
 partial_fixpoint
def Zb4.M (s : ByteArray) (ZbH : Nat) (i_4 : Nat) (r : Bool) : Prop :=
 AWL Tryz.prog 38 (Code.sub (Zq Tryz.f121) [1, 0, 1, 1, 1, 0, 1, 0, 0]) (Code.cont Tryz.prog 38 (Zq Tryz.f121) [1, 0, 1, 1, 1, 0, 1, 0] (ZbW tab Tryz.f121.results (ZbY (.c none (.v (.bool r))) []))) ⟨[(0, .c none (.v (.string s))), (3, .c none (.v (.int .i64 ((ZbH : Nat) : Int)))), (4, .c none (.v (.int .i64 ((i_4 : Nat) : Int))))], []⟩
theorem Zob (s : ByteArray) (ZbH : Nat) (i_4 : Nat) : ∀ r, Zb4 s ZbH i_4 = some r → Zb4.M s ZbH i_4 r := by
 refine Zb4.partial_correctness s (fun ZbH i_4 r => Zb4.M s ZbH i_4 r) ?_ ZbH i_4
 intro names_symbol_l1' ZiX ZbH i_4 r hF
 have Zju := fun (_s : ByteArray) (ZbH : Nat) (i_4 : Nat) => ZiX ZbH i_4
 clear ZiX
 unfold Zb4.M
 refine AWL.step ?_
 refine AWP.seq ?_
 refine AWP.block ?_
 refine AWP.seq ?_
 refine AWP.seq ?_
 refine ns ?_
 refine nw ?_
 refine Zi hF (fun ZrI hF => ?_) (fun ZrI hF => ?_)
 ·refine nw ?_
  refine AWP.seq ?_
  refine AWP.cutN (fun T => ∃ r, WS r T ⟨[(2, .c none (.v (.bool ((((s.size : Nat) : Int) == 1) || (decide (((ZbH : Nat) : Int) < ((s.size : Nat) : Int)))))))], []⟩) ?_ (fun T hw => ?_)
  ·refine ns ?_
   refine Zm false (fun ZAr => ?_) (fun ZAr => ?_)
   ·(conv => whnf)
    refine st ?_
    exact wx (WS.mk (Zd (Zr (web ZAr)) Zb) Zc)
   ·(conv => whnf)
    refine st ?_
    exact wx (WS.mk (Zd (Zr (web ZAr)) Zb) Zc)
  obtain ⟨r0, hw⟩ := hw
  (conv => whnf)
  refine AWP.weak r0 hw ?_
  obtain rfl := Zg hF
  refine ns ?_
  refine Exists.intro [] ?_
  refine st ?_
  exact wx (WS.mk (tc Zb) Zc)
 ·refine nw ?_
  refine AWP.seq ?_
  refine AWP.seq ?_
  obtain ⟨y69, hy690, ZHc, hF⟩ := ZcX hF
  obtain ⟨r70, ZCL, hF⟩ := bind_some hF
  refine nn ?_
  refine sr ZHc ?_
  refine st ?_
  refine e3 ?_
  refine st ?_
  refine cm (Zj.weak (rn []) (ZoF ((y69.toNat : Nat) : Int) _ ZCL) rfl (WS.mk (tc Zb) Zc)) ?_
  refine st ?_
  refine nw ?_
  refine Zi hF (fun ZIv hF => ?_) (fun ZIv hF => ?_)
  ·refine AWP.seq ?_
   refine ns ?_
   obtain rfl := Zg hF
   refine ns ?_
   refine Exists.intro [] ?_
   refine st ?_
   exact wx (WS.mk (tc Zb) Zc)
  ·refine nw ?_
   refine AWP.seq ?_
   obtain ⟨y72, hy720, ZHH, hF⟩ := ZcX hF
   refine nn ?_
   refine sr ZHH ?_
   refine st ?_
   refine nw ?_
   refine Zi hF (fun Zsf hF => ?_) (fun Zsf hF => ?_)
   ·obtain ⟨ZCM, hF⟩ := Zy hF
    refine ns ?_
    obtain ⟨ZDU, hF⟩ := Zy hF
    refine ns ?_
    refine AWL.weak (rn []) ?_ (Zju s (ZbH + 1) (i_4 + 1) _ hF)
    exact (WS.mk (tc (Zd (Zr (Zdf (Zdv ZCM))) (Zd (Zr (Zdf (Zdv ZDU))) Zb))) Zc)
   ·refine nw ?_
    obtain ⟨ZHD, hF⟩ := Zy hF
    refine ns ?_
    refine AWL.weak (rn []) ?_ (Zju s ZbH (i_4 + 1) _ hF)
    exact (WS.mk (tc (tc (Zd (Zr (Zdf (Zdv ZHD))) Zb))) Zc)

def ZdW (s : ByteArray) : Option (Bool) :=
 if ((s.toList == (ByteArray.mk #[]).toList) || (decide (((s.size : Nat) : Int) > 64))) = true then
 some false
 else
 Zb4 s 0 0
def ZdW.M (s : ByteArray) (r : Bool) : Prop :=
 Zj Tryz.prog 121 [.c none (.v (.string s))] [] (fun d b => d = .c none (.v (.bool r)) ∧ b = [])
theorem ZgU (s : ByteArray) (r : Bool) (hF : ZdW s = some r) : ZdW.M s r := by
 unfold ZdW at hF
 unfold ZdW.M
 refine en Tryz.func121 ?_
 refine AWP.seq ?_
 refine ns ?_
 refine AWP.scope ?_
 refine AWP.seq ?_
 refine AWP.seq ?_
 refine AWP.cutN (fun T => ∃ r, WS r T ⟨[(0, .c none (.v (.string s))), (11, .c none (.v (.bool ((s.toList == (ByteArray.mk #[]).toList) || (decide (((s.size : Nat) : Int) > 64))))))], []⟩) ?_ (fun T hw => ?_)
 ·refine ns ?_
  refine Zm false (fun hc2 => ?_) (fun hc2 => ?_)
  ·(conv => whnf)
   refine st ?_
   exact wx (WS.mk (tc (Zd (Zr (web hc2)) Zb)) Zc)
  ·(conv => whnf)
   refine st ?_
   exact wx (WS.mk (tc (Zd (Zr (web hc2)) Zb)) Zc)
 obtain ⟨r0, hw⟩ := hw
 (conv => whnf)
 refine AWP.weak r0 hw ?_
 refine nw ?_
 refine Zi hF (fun hc3 hF => ?_) (fun hc3 hF => ?_)
 ·refine AWP.seq ?_
  refine ns ?_
  obtain rfl := Zg hF
  refine ns ?_
  refine Exists.intro [] ?_
  refine st ?_
  exact wx (WS.mk (tc Zb) Zc)
 ·refine nw ?_
  refine AWP.seq ?_
  refine ns ?_
  refine AWP.seq ?_
  refine nw ?_
  refine AWP.seq ?_
  refine AWP.seq ?_
  refine ns ?_
  refine AWP.block ?_
  refine AWP.loop ?_
  refine AWL.weak (rn []) ?_ (Zob s 0 0 _ hF)
  exact (WS.mk (tc (tc (tc Zb))) Zc)

def Zen (c : Int) : Option (Bool) :=
 some ((decide (c ≥ 65)) && (decide (c ≤ 90)))
def Zen.M (c : Int) (r : Bool) : Prop :=
 Zj Tryz.prog 120 [.c none (.v (.int .u8 c))] [] (fun d b => d = .c none (.v (.bool r)) ∧ b = [])
theorem ZjA (c : Int) (r : Bool) (hF : Zen c = some r) : Zen.M c r := by
 unfold Zen at hF
 unfold Zen.M
 refine en Tryz.func120 ?_
 refine AWP.seq ?_
 refine ns ?_
 refine AWP.seq ?_
 refine AWP.cutN (fun T => ∃ r, WS r T ⟨[(2, .c none (.v (.bool ((decide (c ≥ 65)) && (decide (c ≤ 90))))))], []⟩) ?_ (fun T hw => ?_)
 ·refine ns ?_
  refine Zm true (fun hc1 => ?_) (fun hc1 => ?_)
  ·(conv => whnf)
   refine st ?_
   exact wx (WS.mk (Zd (Zr (web hc1)) Zb) Zc)
  ·(conv => whnf)
   refine st ?_
   exact wx (WS.mk (Zd (Zr (web hc1)) Zb) Zc)
 obtain ⟨r0, hw⟩ := hw
 (conv => whnf)
 refine AWP.weak r0 hw ?_
 obtain rfl := Zg hF
 refine ns ?_
 refine Exists.intro [] ?_
 refine st ?_
 exact wx (WS.mk (tc Zb) Zc)

def Zei (c : Int) : Option (Bool) :=
 Zen c >>= fun r1 =>
 some (r1 || ((decide (c ≥ 97)) && (decide (c ≤ 122))))
def Zei.M (c : Int) (r : Bool) : Prop :=
 Zj Tryz.prog 135 [.c none (.v (.int .u8 c))] [] (fun d b => d = .c none (.v (.bool r)) ∧ b = [])
theorem ZlZ (c : Int) (r : Bool) (hF : Zei c = some r) : Zei.M c r := by
 unfold Zei at hF
 unfold Zei.M
 refine en Tryz.func135 ?_
 refine AWP.seq ?_
 refine ns ?_
 refine AWP.seq ?_
 obtain ⟨r1, hr1, hF⟩ := bind_some hF
 refine AWP.cutN (fun T => ∃ r, WS r T ⟨[(2, .c none (.v (.bool (r1 || ((decide (c ≥ 97)) && (decide (c ≤ 122)))))))], []⟩) ?_ (fun T hw => ?_)
 ·refine ns ?_
  refine e3 ?_
  refine st ?_
  refine cm (Zj.weak (rn []) (ZjA c _ hr1) rfl (WS.mk (tc Zb) Zc)) ?_
  refine st ?_
  refine Zm false (fun hc2 => ?_) (fun hc2 => ?_)
  ·(conv => whnf)
   refine st ?_
   exact wx (WS.mk (Zd (Zr (web hc2)) Zb) Zc)
  ·(conv => whnf)
   refine st ?_
   refine Zm true (fun hc3 => ?_) (fun hc3 => ?_)
   ·(conv => whnf)
    refine st ?_
    exact wx (WS.mk (Zd (Zr (web (And.intro hc2 hc3))) Zb) Zc)
   ·(conv => whnf)
    refine st ?_
    exact wx (WS.mk (Zd (Zr (web (And.intro hc2 hc3))) Zb) Zc)
 obtain ⟨r0, hw⟩ := hw
 (conv => whnf)
 refine AWP.weak r0 hw ?_
 obtain rfl := Zg hF
 refine ns ?_
 refine Exists.intro [] ?_
 refine st ?_
 exact wx (WS.mk (tc Zb) Zc)

def Zfh (c : Int) : Option (Bool) :=
 some ((decide (c ≥ 48)) && (decide (c ≤ 57)))
def Zfh.M (c : Int) (r : Bool) : Prop :=
 Zj Tryz.prog 136 [.c none (.v (.int .u8 c))] [] (fun d b => d = .c none (.v (.bool r)) ∧ b = [])
theorem Zr5 (c : Int) (r : Bool) (hF : Zfh c = some r) : Zfh.M c r := by
 unfold Zfh at hF
 unfold Zfh.M
 refine en Tryz.func136 ?_
 refine AWP.seq ?_
 refine ns ?_
 refine AWP.seq ?_
 refine AWP.cutN (fun T => ∃ r, WS r T ⟨[(2, .c none (.v (.bool ((decide (c ≥ 48)) && (decide (c ≤ 57))))))], []⟩) ?_ (fun T hw => ?_)
 ·refine ns ?_
  refine Zm true (fun hc1 => ?_) (fun hc1 => ?_)
  ·(conv => whnf)
   refine st ?_
   exact wx (WS.mk (Zd (Zr (web hc1)) Zb) Zc)
  ·(conv => whnf)
   refine st ?_
   exact wx (WS.mk (Zd (Zr (web hc1)) Zb) Zc)
 obtain ⟨r0, hw⟩ := hw
 (conv => whnf)
 refine AWP.weak r0 hw ?_
 obtain rfl := Zg hF
 refine ns ?_
 refine Exists.intro [] ?_
 refine st ?_
 exact wx (WS.mk (tc Zb) Zc)

def Zdo (s : ByteArray) (i_3 : Nat) : Option (Bool) :=
 if (decide (((i_3 : Nat) : Int) < ((s.size : Nat) : Int))) = true then
 (btI s ((i_3 : Nat) : Int)) >>= fun y33 =>
 Zei ((y33.toNat : Nat) : Int) >>= fun r34 =>
 (if (!r34) = true then Zfh ((y33.toNat : Nat) : Int) >>= fun r35 =>
 some (!r35) else some false) >>= fun c36 =>
 if ((c36 && (((y33.toNat : Nat) : Int) != 95)) && (((y33.toNat : Nat) : Int) != 39)) = true then
 some false
 else
 Z4 (i_3 + 1 ≤ 9223372036854775807) >>= fun _ =>
 Zdo s (i_3 + 1)
 else
 some true
 partial_fixpoint
def Zdo.M (s : ByteArray) (i_3 : Nat) (r : Bool) : Prop :=
 AWL Tryz.prog 48 (Code.sub (Zq Tryz.f119) [1, 1, 0, 1, 0, 0]) (Code.cont Tryz.prog 48 (Zq Tryz.f119) [1, 1, 0, 1, 0] (ZbW tab Tryz.f119.results (ZbY (.c none (.v (.bool r))) []))) ⟨[(0, .c none (.v (.string s))), (3, .c none (.v (.int .i64 ((i_3 : Nat) : Int))))], []⟩
theorem Zps (s : ByteArray) (i_3 : Nat) : ∀ r, Zdo s i_3 = some r → Zdo.M s i_3 r := by
 refine Zdo.partial_correctness s (fun i_3 r => Zdo.M s i_3 r) ?_ i_3
 intro names_word_l1' Zkl i_3 r hF
 have Zpp := fun (_s : ByteArray) (i_3 : Nat) => Zkl i_3
 clear Zkl
 unfold Zdo.M
 refine AWL.step ?_
 refine AWP.seq ?_
 refine AWP.seq ?_
 refine ns ?_
 refine nw ?_
 refine Zi hF (fun ZnN hF => ?_) (fun ZnN hF => ?_)
 ·refine nw ?_
  refine AWP.seq ?_
  refine AWP.block ?_
  refine AWP.seq ?_
  obtain ⟨y33, hy330, ZIx, hF⟩ := ZcX hF
  refine nn ?_
  refine sr ZIx ?_
  refine st ?_
  refine AWP.seq ?_
  obtain ⟨r34, ZDj, hF⟩ := bind_some hF
  obtain ⟨c36, ZkF, hF⟩ := bind_some hF
  refine AWP.cutN (fun T => ∃ r, WS r T ⟨[(0, .c none (.v (.string s))), (3, .c none (.v (.int .i64 ((i_3 : Nat) : Int)))), (47, .c none (.v (.bool ((c36 && (((y33.toNat : Nat) : Int) != 95)) && (((y33.toNat : Nat) : Int) != 39)))))], []⟩) ?_ (fun T hw => ?_)
  ·refine ns ?_
   refine e3 ?_
   refine st ?_
   refine cm (Zj.weak (rn []) (ZlZ ((y33.toNat : Nat) : Int) _ ZDj) rfl (WS.mk (tc Zb) Zc)) ?_
   refine st ?_
   refine Zm true (fun ZpN => ?_) (fun ZpN => ?_)
   ·have ZkF := ift ZpN ZkF
    obtain ⟨r35, ZC7, ZkF⟩ := bind_some ZkF
    (conv => whnf)
    refine st ?_
    refine e3 ?_
    refine st ?_
    refine cm (Zj.weak (rn []) (Zr5 ((y33.toNat : Nat) : Int) _ ZC7) rfl (WS.mk (tc Zb) Zc)) ?_
    refine st ?_
    obtain rfl := Zg ZkF
    refine st ?_
    refine Zm true (fun Zkp => ?_) (fun Zkp => ?_)
    ·(conv => whnf)
     refine st ?_
     refine Zm true (fun ZhU => ?_) (fun ZhU => ?_)
     ·(conv => whnf)
      refine st ?_
      exact wx (WS.mk (tc (tc (Zd (Zr (web (And.intro ZpN (And.intro Zkp ZhU)))) Zb))) Zc)
     ·(conv => whnf)
      refine st ?_
      exact wx (WS.mk (tc (tc (Zd (Zr (web (And.intro ZpN (And.intro Zkp ZhU)))) Zb))) Zc)
    ·(conv => whnf)
     refine st ?_
     exact wx (WS.mk (tc (tc (Zd (Zr (web (And.intro ZpN Zkp))) Zb))) Zc)
   ·have ZkF := ife ZpN ZkF
    (conv => whnf)
    obtain rfl := Zg ZkF
    refine st ?_
    exact wx (WS.mk (tc (tc (Zd (Zr (web ZpN)) Zb))) Zc)
  obtain ⟨r0, hw⟩ := hw
  (conv => whnf)
  refine AWP.weak r0 hw ?_
  refine nw ?_
  refine Zi hF (fun Zoj hF => ?_) (fun Zoj hF => ?_)
  ·refine AWP.seq ?_
   refine ns ?_
   obtain rfl := Zg hF
   refine ns ?_
   refine Exists.intro [] ?_
   refine st ?_
   exact wx (WS.mk (tc Zb) Zc)
  ·refine nw ?_
   obtain ⟨ZHb, hF⟩ := Zy hF
   refine ns ?_
   refine AWL.weak (rn []) ?_ (Zpp s (i_3 + 1) _ hF)
   exact (WS.mk (tc (Zd (Zr (Zdf (Zdv ZHb))) Zb)) Zc)
 ·refine nw ?_
  refine AWP.seq ?_
  refine ns ?_
  obtain rfl := Zg hF
  refine ns ?_
  refine Exists.intro [] ?_
  refine st ?_
  exact wx (WS.mk (tc Zb) Zc)

def ZeB (s : ByteArray) : Option (Bool) :=
 (if ((s.toList == (ByteArray.mk #[]).toList) || (decide (((s.size : Nat) : Int) > 64))) = true then some true else (btI s 0) >>= fun y7 =>
 Zei ((y7.toNat : Nat) : Int) >>= fun r8 =>
 (if (!r8) = true then (btI s 0) >>= fun y9 =>
 some (((y9.toNat : Nat) : Int) != 95) else some false) >>= fun c10 =>
 some c10) >>= fun c11 =>
 if c11 = true then
 some false
 else
 Zdo s 0
def ZeB.M (s : ByteArray) (r : Bool) : Prop :=
 Zj Tryz.prog 119 [.c none (.v (.string s))] [] (fun d b => d = .c none (.v (.bool r)) ∧ b = [])
theorem Zip (s : ByteArray) (r : Bool) (hF : ZeB s = some r) : ZeB.M s r := by
 unfold ZeB at hF
 unfold ZeB.M
 refine en Tryz.func119 ?_
 refine AWP.seq ?_
 refine ns ?_
 refine AWP.seq ?_
 refine AWP.seq ?_
 obtain ⟨c11, ZcP, hF⟩ := bind_some hF
 refine AWP.cutN (fun T => ∃ r, WS r T ⟨[(0, .c none (.v (.string s))), (22, .c none (.v (.bool c11)))], []⟩) ?_ (fun T hw => ?_)
 ·refine ns ?_
  refine Zm false (fun ZcJ => ?_) (fun ZcJ => ?_)
  ·(conv => whnf)
   have ZcP := ift ZcJ ZcP
   obtain rfl := Zg ZcP
   refine st ?_
   exact wx (WS.mk (tc (Zd (Zr (web ZcJ)) Zb)) Zc)
  ·(conv => whnf)
   refine st ?_
   refine Zm false (fun ZbB => ?_) (fun ZbB => ?_)
   ·have ZcP := ift (And.intro ZcJ ZbB) ZcP
    (conv => whnf)
    obtain rfl := Zg ZcP
    refine st ?_
    exact wx (WS.mk (tc (Zd (Zr (web (And.intro ZcJ ZbB))) Zb)) Zc)
   ·have ZcP := ife (And.intro ZcJ ZbB) ZcP
    obtain ⟨y7, hy70, hy7, ZcP⟩ := ZcX ZcP
    obtain ⟨r8, hr8, ZcP⟩ := bind_some ZcP
    obtain ⟨c10, Zdt, ZcP⟩ := bind_some ZcP
    (conv => whnf)
    refine sr hy7 ?_
    refine st ?_
    refine e3 ?_
    refine st ?_
    refine cm (Zj.weak (rn []) (ZlZ ((y7.toNat : Nat) : Int) _ hr8) rfl (WS.mk (tc Zb) Zc)) ?_
    refine st ?_
    refine Zm true (fun Zdk => ?_) (fun Zdk => ?_)
    ·have Zdt := ift (And.intro ZcJ (And.intro ZbB Zdk)) Zdt
     obtain ⟨y9, ZH2, hy9, Zdt⟩ := ZcX Zdt
     (conv => whnf)
     refine sr hy9 ?_
     obtain rfl := Zg Zdt
     obtain rfl := Zg ZcP
     refine st ?_
     exact wx (WS.mk (tc (Zd (Zr (web (And.intro ZcJ (And.intro ZbB Zdk)))) Zb)) Zc)
    ·have Zdt := ife (And.intro ZcJ (And.intro ZbB Zdk)) Zdt
     (conv => whnf)
     obtain rfl := Zg Zdt
     obtain rfl := Zg ZcP
     refine st ?_
     exact wx (WS.mk (tc (Zd (Zr (web (And.intro ZcJ (And.intro ZbB Zdk)))) Zb)) Zc)
 obtain ⟨r0, hw⟩ := hw
 (conv => whnf)
 refine AWP.weak r0 hw ?_
 refine nw ?_
 refine Zi hF (fun Zfg hF => ?_) (fun Zfg hF => ?_)
 ·refine AWP.seq ?_
  refine ns ?_
  obtain rfl := Zg hF
  refine ns ?_
  refine Exists.intro [] ?_
  refine st ?_
  exact wx (WS.mk (tc Zb) Zc)
 ·refine nw ?_
  refine AWP.seq ?_
  refine AWP.seq ?_
  refine ns ?_
  refine AWP.block ?_
  refine AWP.loop ?_
  refine AWL.weak (rn []) ?_ (Zps s 0 _ hF)
  exact (WS.mk (tc (tc Zb)) Zc)

def Zee (s : ByteArray) : Option (Bool) :=
 ZeB s >>= fun r1 =>
 (if r1 = true then Zcm s >>= fun r2 =>
 some (!r2) else some false) >>= fun c3 =>
 (if c3 = true then some true else ZdW s >>= fun r4 =>
 (if r4 = true then ZbQ s >>= fun r5 =>
 some (!r5) else some false) >>= fun c6 =>
 some c6) >>= fun c7 =>
 some c7
def Zee.M (s : ByteArray) (r : Bool) : Prop :=
 Zj Tryz.prog 148 [.c none (.v (.string s))] [] (fun d b => d = .c none (.v (.bool r)) ∧ b = [])
theorem ZlW (s : ByteArray) (r : Bool) (hF : Zee s = some r) : Zee.M s r := by
 unfold Zee at hF
 unfold Zee.M
 refine en Tryz.func148 ?_
 refine AWP.seq ?_
 refine ns ?_
 refine AWP.seq ?_
 obtain ⟨r1, hr1, hF⟩ := bind_some hF
 obtain ⟨c3, hc3, hF⟩ := bind_some hF
 obtain ⟨c7, hc7, hF⟩ := bind_some hF
 refine AWP.cutN (fun T => ∃ r, WS r T ⟨[(2, .c none (.v (.bool c7)))], []⟩) ?_ (fun T hw => ?_)
 ·refine ns ?_
  refine e3 ?_
  refine st ?_
  refine cm (Zj.weak (rn []) (Zip s _ hr1) rfl (WS.mk (tc Zb) Zc)) ?_
  refine st ?_
  refine Zm true (fun hc8 => ?_) (fun hc8 => ?_)
  ·have hc3 := ift hc8 hc3
   obtain ⟨r2, hr2, hc3⟩ := bind_some hc3
   (conv => whnf)
   refine st ?_
   refine e3 ?_
   refine st ?_
   refine cm (Zj.weak (rn []) (Zh2 s _ hr2) rfl (WS.mk (tc Zb) Zc)) ?_
   refine st ?_
   obtain rfl := Zg hc3
   refine st ?_
   refine Zm false (fun hc9 => ?_) (fun hc9 => ?_)
   ·have hc7 := ift (And.intro hc8 hc9) hc7
    (conv => whnf)
    obtain rfl := Zg hc7
    refine st ?_
    exact wx (WS.mk (Zd (Zr (web (And.intro hc8 hc9))) Zb) Zc)
   ·have hc7 := ife (And.intro hc8 hc9) hc7
    obtain ⟨r4, hr4, hc7⟩ := bind_some hc7
    obtain ⟨c6, hc6, hc7⟩ := bind_some hc7
    (conv => whnf)
    refine st ?_
    refine e3 ?_
    refine st ?_
    refine cm (Zj.weak (rn []) (ZgU s _ hr4) rfl (WS.mk (tc Zb) Zc)) ?_
    refine st ?_
    refine Zm true (fun Zdt => ?_) (fun Zdt => ?_)
    ·have hc6 := ift (And.intro hc8 (And.intro hc9 Zdt)) hc6
     obtain ⟨r5, hr5, hc6⟩ := bind_some hc6
     (conv => whnf)
     refine st ?_
     refine e3 ?_
     refine st ?_
     refine cm (Zj.weak (rn []) (Ze9 s _ hr5) rfl (WS.mk (tc Zb) Zc)) ?_
     refine st ?_
     obtain rfl := Zg hc6
     obtain rfl := Zg hc7
     refine st ?_
     exact wx (WS.mk (Zd (Zr (web (And.intro hc8 (And.intro hc9 Zdt)))) Zb) Zc)
    ·have hc6 := ife (And.intro hc8 (And.intro hc9 Zdt)) hc6
     (conv => whnf)
     obtain rfl := Zg hc6
     obtain rfl := Zg hc7
     refine st ?_
     exact wx (WS.mk (Zd (Zr (web (And.intro hc8 (And.intro hc9 Zdt)))) Zb) Zc)
  ·have hc3 := ife hc8 hc3
   (conv => whnf)
   obtain rfl := Zg hc3
   have hc7 := ife hc8 hc7
   obtain ⟨r4, hr4, hc7⟩ := bind_some hc7
   obtain ⟨c6, hc6, hc7⟩ := bind_some hc7
   refine st ?_
   refine e3 ?_
   refine st ?_
   refine cm (Zj.weak (rn []) (ZgU s _ hr4) rfl (WS.mk (tc Zb) Zc)) ?_
   refine st ?_
   refine Zm true (fun ZcP => ?_) (fun ZcP => ?_)
   ·have hc6 := ift (And.intro hc8 ZcP) hc6
    obtain ⟨r5, hr5, hc6⟩ := bind_some hc6
    (conv => whnf)
    refine st ?_
    refine e3 ?_
    refine st ?_
    refine cm (Zj.weak (rn []) (Ze9 s _ hr5) rfl (WS.mk (tc Zb) Zc)) ?_
    refine st ?_
    obtain rfl := Zg hc6
    obtain rfl := Zg hc7
    refine st ?_
    exact wx (WS.mk (Zd (Zr (web (And.intro hc8 ZcP))) Zb) Zc)
   ·have hc6 := ife (And.intro hc8 ZcP) hc6
    (conv => whnf)
    obtain rfl := Zg hc6
    obtain rfl := Zg hc7
    refine st ?_
    exact wx (WS.mk (Zd (Zr (web (And.intro hc8 ZcP))) Zb) Zc)
 obtain ⟨r0, hw⟩ := hw
 (conv => whnf)
 refine AWP.weak r0 hw ?_
 obtain rfl := Zg hF
 refine ns ?_
 refine Exists.intro [] ?_
 refine st ?_
 exact wx (WS.mk (tc Zb) Zc)

def ZfV (module : ByteArray) (name_ : ByteArray) : Option (ByteArray) :=
 ZeB module >>= fun r8 =>
 (if (!r8) = true then some true else (btI module 0) >>= fun y9 =>
 Zen ((y9.toNat : Nat) : Int) >>= fun r10 =>
 some (!r10)) >>= fun c11 =>
 (if c11 = true then some true else Zee name_ >>= fun r12 =>
 some (!r12)) >>= fun c13 =>
 if c13 = true then
 some (ByteArray.mk #[])
 else
 Z4 (((module.size + (ByteArray.mk #[46]).size : Nat) : Int) ≤ IntKind.i64.max) >>= fun _ =>
 Z4 ((((module ++ (ByteArray.mk #[46])).size + name_.size : Nat) : Int) ≤ IntKind.i64.max) >>= fun _ =>
 some ((module ++ (ByteArray.mk #[46])) ++ name_)
def ZfV.M (module : ByteArray) (name_ : ByteArray) (r : ByteArray) : Prop :=
 Zj Tryz.prog 141 [.c none (.v (.string module)), .c none (.v (.string name_))] [] (fun d b => d = .c none (.v (.string r)) ∧ b = [])
theorem Zsi (module : ByteArray) (name_ : ByteArray) (r : ByteArray) (hF : ZfV module name_ = some r) : ZfV.M module name_ r := by
 unfold ZfV at hF
 unfold ZfV.M
 refine en Tryz.func141 ?_
 refine AWP.seq ?_
 refine ns ?_
 refine AWP.seq ?_
 refine AWP.seq ?_
 obtain ⟨r8, hr8, hF⟩ := bind_some hF
 obtain ⟨c11, ZcP, hF⟩ := bind_some hF
 obtain ⟨c13, ZbB, hF⟩ := bind_some hF
 refine AWP.cutN (fun T => ∃ r, WS r T ⟨[(0, .c none (.v (.string module))), (1, .c none (.v (.string name_))), (18, .c none (.v (.bool c13)))], []⟩) ?_ (fun T hw => ?_)
 ·refine ns ?_
  refine e3 ?_
  refine st ?_
  refine cm (Zj.weak (rn []) (Zip module _ hr8) rfl (WS.mk (tc Zb) Zc)) ?_
  refine st ?_
  refine Zm false (fun Zdk => ?_) (fun Zdk => ?_)
  ·have ZcP := ift Zdk ZcP
   (conv => whnf)
   obtain rfl := Zg ZcP
   have ZbB := ift Zdk ZbB
   obtain rfl := Zg ZbB
   refine st ?_
   exact wx (WS.mk (tc (tc (Zd (Zr (web Zdk)) Zb))) Zc)
  ·have ZcP := ife Zdk ZcP
   obtain ⟨y9, ZH2, hy9, ZcP⟩ := ZcX ZcP
   obtain ⟨r10, ZAs, ZcP⟩ := bind_some ZcP
   (conv => whnf)
   refine sr hy9 ?_
   refine st ?_
   refine e3 ?_
   refine st ?_
   refine cm (Zj.weak (rn []) (ZjA ((y9.toNat : Nat) : Int) _ ZAs) rfl (WS.mk (tc Zb) Zc)) ?_
   refine st ?_
   obtain rfl := Zg ZcP
   refine st ?_
   refine Zm false (fun Zfg => ?_) (fun Zfg => ?_)
   ·have ZbB := ift (And.intro Zdk Zfg) ZbB
    (conv => whnf)
    obtain rfl := Zg ZbB
    refine st ?_
    exact wx (WS.mk (tc (tc (Zd (Zr (web (And.intro Zdk Zfg))) Zb))) Zc)
   ·have ZbB := ife (And.intro Zdk Zfg) ZbB
    obtain ⟨r12, ZyA, ZbB⟩ := bind_some ZbB
    (conv => whnf)
    refine st ?_
    refine e3 ?_
    refine st ?_
    refine cm (Zj.weak (rn []) (ZlW name_ _ ZyA) rfl (WS.mk (tc Zb) Zc)) ?_
    refine st ?_
    obtain rfl := Zg ZbB
    refine st ?_
    exact wx (WS.mk (tc (tc (Zd (Zr (web (And.intro Zdk Zfg))) Zb))) Zc)
 obtain ⟨r0, hw⟩ := hw
 (conv => whnf)
 refine AWP.weak r0 hw ?_
 refine nw ?_
 refine Zi hF (fun Zgv hF => ?_) (fun Zgv hF => ?_)
 ·refine AWP.seq ?_
  refine ns ?_
  obtain rfl := Zg hF
  refine ns ?_
  refine Exists.intro [] ?_
  refine st ?_
  exact wx (WS.mk (tc Zb) Zc)
 ·refine nw ?_
  refine AWP.seq ?_
  obtain ⟨ZCu, hF⟩ := Zy hF
  obtain ⟨ZHQ, hF⟩ := Zy hF
  refine ns ?_
  refine And.intro ZCu ?_
  refine st ?_
  refine And.intro ZHQ ?_
  refine st ?_
  obtain rfl := Zg hF
  refine ns ?_
  refine Exists.intro [] ?_
  refine st ?_
  exact wx (WS.mk (tc Zb) Zc)

def ZeN (s : ByteArray) : Option (ByteArray × ByteArray × Bool) :=
 strings_Cut s (ByteArray.mk #[46]) >>= fun r1 =>
 (if (!r1.2.2) = true then some true else ZfV r1.1 r1.2.1 >>= fun r5 =>
 some (r5.toList == (ByteArray.mk #[]).toList)) >>= fun c6 =>
 if c6 = true then
 some ((ByteArray.mk #[]), (ByteArray.mk #[]), false)
 else
 some (r1.1, r1.2.1, true)
def ZeN.M (s : ByteArray) (r : ByteArray × ByteArray × Bool) : Prop :=
 Zj Tryz.prog 127 [.c none (.v (.string s))] [] (fun d b => d = .tup [.c (.v (.string r.1)), .c (.v (.string r.2.1)), .c (.v (.bool r.2.2))] ∧ b = [])
theorem Zne (s : ByteArray) (r : ByteArray × ByteArray × Bool) (hF : ZeN s = some r) : ZeN.M s r := by
 unfold ZeN at hF
 unfold ZeN.M
 refine en Tryz.func127 ?_
 refine AWP.seq ?_
 refine ns ?_
 refine AWP.seq ?_
 obtain ⟨r1, hr1, hF⟩ := bind_some hF
 refine ns ?_
 refine e3 ?_
 refine st ?_
 refine cm (Zj.weak (rn []) (Zrb s (ByteArray.mk #[46]) _ hr1) rfl (WS.mk (tc (tc Zb)) Zc)) ?_
 refine st ?_
 refine AWP.seq ?_
 refine AWP.seq ?_
 obtain ⟨c6, hc6, hF⟩ := bind_some hF
 refine AWP.cutN (fun T => ∃ r, WS r T ⟨[(5, .c none (.v (.string r1.1))), (6, .c none (.v (.string r1.2.1))), (21, .c none (.v (.bool c6)))], []⟩) ?_ (fun T hw => ?_)
 ·refine ns ?_
  refine Zm false (fun hc7 => ?_) (fun hc7 => ?_)
  ·have hc6 := ift hc7 hc6
   (conv => whnf)
   obtain rfl := Zg hc6
   refine st ?_
   exact wx (WS.mk (tc (tc (Zd (Zr (web hc7)) Zb))) Zc)
  ·have hc6 := ife hc7 hc6
   obtain ⟨r5, hr5, hc6⟩ := bind_some hc6
   (conv => whnf)
   refine st ?_
   refine e3 ?_
   refine st ?_
   refine cm (Zj.weak (rn []) (Zsi r1.1 r1.2.1 _ hr5) rfl (WS.mk (tc (tc Zb)) Zc)) ?_
   refine st ?_
   obtain rfl := Zg hc6
   refine st ?_
   exact wx (WS.mk (tc (tc (Zd (Zr (web hc7)) Zb))) Zc)
 obtain ⟨r0, hw⟩ := hw
 (conv => whnf)
 refine AWP.weak r0 hw ?_
 refine nw ?_
 refine Zi hF (fun hc8 hF => ?_) (fun hc8 hF => ?_)
 ·refine AWP.seq ?_
  refine ns ?_
  obtain rfl := Zg hF
  refine ns ?_
  refine Exists.intro [] ?_
  refine st ?_
  exact wx (WS.mk (Zd (Zc9 (ZcG (WE.refl _) (ZcG (WE.refl _) (ZcG (WE.refl _) Zda)))) Zb) Zc)
 ·refine nw ?_
  refine AWP.seq ?_
  refine ns ?_
  obtain rfl := Zg hF
  refine ns ?_
  refine Exists.intro [] ?_
  refine st ?_
  exact wx (WS.mk (Zd (Zc9 (ZcG (WE.refl _) (ZcG (WE.refl _) (ZcG (WE.refl _) Zda)))) Zb) Zc)

def ZeS (s : ByteArray) : Option (Bool) :=
 ZeN s >>= fun r1 =>
 (if r1.2.2 = true then some true else Zee s >>= fun r2 =>
 some r2) >>= fun c3 =>
 some c3
def ZeS.M (s : ByteArray) (r : Bool) : Prop :=
 Zj Tryz.prog 134 [.c none (.v (.string s))] [] (fun d b => d = .c none (.v (.bool r)) ∧ b = [])
theorem Zqg (s : ByteArray) (r : Bool) (hF : ZeS s = some r) : ZeS.M s r := by
 unfold ZeS at hF
 unfold ZeS.M
 refine en Tryz.func134 ?_
 refine AWP.seq ?_
 refine ns ?_
 refine AWP.seq ?_
 obtain ⟨r1, hr1, hF⟩ := bind_some hF
 refine ns ?_
 refine e3 ?_
 refine st ?_
 refine cm (Zj.weak (rn []) (Zne s _ hr1) rfl (WS.mk (tc Zb) Zc)) ?_
 refine st ?_
 refine AWP.seq ?_
 obtain ⟨c3, hc3, hF⟩ := bind_some hF
 refine AWP.cutN (fun T => ∃ r, WS r T ⟨[(2, .c none (.v (.bool c3)))], []⟩) ?_ (fun T hw => ?_)
 ·refine ns ?_
  refine Zm false (fun hc4 => ?_) (fun hc4 => ?_)
  ·have hc3 := ift hc4 hc3
   (conv => whnf)
   obtain rfl := Zg hc3
   refine st ?_
   exact wx (WS.mk (Zd (Zr (web hc4)) Zb) Zc)
  ·have hc3 := ife hc4 hc3
   obtain ⟨r2, hr2, hc3⟩ := bind_some hc3
   (conv => whnf)
   refine st ?_
   refine e3 ?_
   refine st ?_
   refine cm (Zj.weak (rn []) (ZlW s _ hr2) rfl (WS.mk (tc Zb) Zc)) ?_
   refine st ?_
   obtain rfl := Zg hc3
   refine st ?_
   exact wx (WS.mk (Zd (Zr (web hc4)) Zb) Zc)
 obtain ⟨r0, hw⟩ := hw
 (conv => whnf)
 refine AWP.weak r0 hw ?_
 obtain rfl := Zg hF
 refine ns ?_
 refine Exists.intro [] ?_
 refine st ?_
 exact wx (WS.mk (tc Zb) Zc)

def Zf5 (base : ByteArray) (n : Int) : Option (ByteArray) :=
 (if (decide (n < 0)) = true then some true else ZeS base >>= fun r4 =>
 some (!r4)) >>= fun c5 =>
 if c5 = true then
 some (ByteArray.mk #[])
 else
 Z4 (((base.size + (ByteArray.mk #[36]).size : Nat) : Int) ≤ IntKind.i64.max) >>= fun _ =>
 strconv_Itoa n >>= fun r9 =>
 Z4 ((((base ++ (ByteArray.mk #[36])).size + r9.size : Nat) : Int) ≤ IntKind.i64.max) >>= fun _ =>
 some ((base ++ (ByteArray.mk #[36])) ++ r9)
def Zf5.M (base : ByteArray) (n : Int) (r : ByteArray) : Prop :=
 Zj Tryz.prog 116 [.c none (.v (.string base)), .c none (.v (.int .i64 n))] [] (fun d b => d = .c none (.v (.string r)) ∧ b = [])
theorem Zsg (base : ByteArray) (n : Int) (r : ByteArray) (hF : Zf5 base n = some r) : Zf5.M base n r := by
 unfold Zf5 at hF
 unfold Zf5.M
 refine en Tryz.func116 ?_
 refine AWP.seq ?_
 refine ns ?_
 refine AWP.seq ?_
 refine AWP.seq ?_
 obtain ⟨c5, hc5, hF⟩ := bind_some hF
 refine AWP.cutN (fun T => ∃ r, WS r T ⟨[(0, .c none (.v (.string base))), (1, .c none (.v (.int .i64 n))), (11, .c none (.v (.bool c5)))], []⟩) ?_ (fun T hw => ?_)
 ·refine ns ?_
  refine Zm false (fun hc6 => ?_) (fun hc6 => ?_)
  ·have hc5 := ift hc6 hc5
   (conv => whnf)
   obtain rfl := Zg hc5
   refine st ?_
   exact wx (WS.mk (tc (tc (Zd (Zr (web hc6)) Zb))) Zc)
  ·have hc5 := ife hc6 hc5
   obtain ⟨r4, hr4, hc5⟩ := bind_some hc5
   (conv => whnf)
   refine st ?_
   refine e3 ?_
   refine st ?_
   refine cm (Zj.weak (rn []) (Zqg base _ hr4) rfl (WS.mk (tc Zb) Zc)) ?_
   refine st ?_
   obtain rfl := Zg hc5
   refine st ?_
   exact wx (WS.mk (tc (tc (Zd (Zr (web hc6)) Zb))) Zc)
 obtain ⟨r0, hw⟩ := hw
 (conv => whnf)
 refine AWP.weak r0 hw ?_
 refine nw ?_
 refine Zi hF (fun hc7 hF => ?_) (fun hc7 hF => ?_)
 ·refine AWP.seq ?_
  refine ns ?_
  obtain rfl := Zg hF
  refine ns ?_
  refine Exists.intro [] ?_
  refine st ?_
  exact wx (WS.mk (tc Zb) Zc)
 ·refine nw ?_
  refine AWP.seq ?_
  obtain ⟨hg8, hF⟩ := Zy hF
  obtain ⟨r9, hr9, hF⟩ := bind_some hF
  obtain ⟨ZzF, hF⟩ := Zy hF
  refine ns ?_
  refine And.intro hg8 ?_
  refine st ?_
  refine e3 ?_
  refine st ?_
  refine cm (Zj.weak (rn []) (Zl1 n _ hr9) rfl (WS.mk (tc Zb) Zc)) ?_
  refine st ?_
  refine And.intro ZzF ?_
  refine st ?_
  obtain rfl := Zg hF
  refine ns ?_
  refine Exists.intro [] ?_
  refine st ?_
  exact wx (WS.mk (tc Zb) Zc)

def ZR (s : ByteArray) (c : Int) (i_5 : Int) : Option (Int) :=
 if (decide (i_5 ≥ 0)) = true then
 (btI s i_5) >>= fun y11 =>
 if (((y11.toNat : Nat) : Int) == c) = true then
 some i_5
 else
 ZR s c (IntKind.i64.wrap (i_5 - 1))
 else
 some (-1)
 partial_fixpoint
def ZR.M (s : ByteArray) (c : Int) (i_5 : Int) (r : Int) : Prop :=
 AWL Tryz.prog 19 (Code.sub (Zq Tryz.f131) [1, 0, 1, 0, 0]) (Code.cont Tryz.prog 19 (Zq Tryz.f131) [1, 0, 1, 0] (ZbW tab Tryz.f131.results (ZbY (.c none (.v (.int .i64 r))) []))) ⟨[(0, .c none (.v (.string s))), (1, .c none (.v (.int .u8 c))), (5, .c none (.v (.int .i64 i_5)))], []⟩
theorem ZgJ (s : ByteArray) (c : Int) (i_5 : Int) : ∀ r, ZR s c i_5 = some r → ZR.M s c i_5 r := by
 refine ZR.partial_correctness s c (fun i_5 r => ZR.M s c i_5 r) ?_ i_5
 intro i_bytealg_LastIndexByteString_l1' Zec i_5 r hF
 have ZgI := fun (_s : ByteArray) (_c : Int) (i_5 : Int) => Zec i_5
 clear Zec
 unfold ZR.M
 refine AWL.step ?_
 refine AWP.seq ?_
 refine AWP.seq ?_
 refine ns ?_
 refine nw ?_
 refine Zi hF (fun Zdt hF => ?_) (fun Zdt hF => ?_)
 ·refine nw ?_
  refine AWP.seq ?_
  refine AWP.block ?_
  refine AWP.seq ?_
  obtain ⟨y11, hy110, ZHh, hF⟩ := ZcX hF
  refine nn ?_
  refine sr ZHh ?_
  refine st ?_
  refine nw ?_
  refine Zi hF (fun ZcJ hF => ?_) (fun ZcJ hF => ?_)
  ·refine AWP.seq ?_
   refine ns ?_
   obtain rfl := Zg hF
   refine ns ?_
   refine Exists.intro [] ?_
   refine st ?_
   exact wx (WS.mk (tc Zb) Zc)
  ·refine nw ?_
   refine ns ?_
   refine AWL.weak (rn []) ?_ (ZgI s c (IntKind.i64.wrap (i_5 - 1)) _ hF)
   exact (WS.mk (tc (tc (tc Zb))) Zc)
 ·refine nw ?_
  refine AWP.seq ?_
  refine ns ?_
  obtain rfl := Zg hF
  refine ns ?_
  refine Exists.intro [] ?_
  refine st ?_
  exact wx (WS.mk (tc Zb) Zc)

def Za0 (s : ByteArray) (c : Int) : Option (Int) :=
 ZR s c (IntKind.i64.wrap (((s.size : Nat) : Int) - 1))
def Za0.M (s : ByteArray) (c : Int) (r : Int) : Prop :=
 Zj Tryz.prog 131 [.c none (.v (.string s)), .c none (.v (.int .u8 c))] [] (fun d b => d = .c none (.v (.int .i64 r)) ∧ b = [])
theorem Zht (s : ByteArray) (c : Int) (r : Int) (hF : Za0 s c = some r) : Za0.M s c r := by
 unfold Za0 at hF
 unfold Za0.M
 refine en Tryz.func131 ?_
 refine AWP.seq ?_
 refine ns ?_
 refine AWP.seq ?_
 refine AWP.seq ?_
 refine ns ?_
 refine AWP.block ?_
 refine AWP.loop ?_
 refine AWL.weak (rn []) ?_ (ZgJ s c (IntKind.i64.wrap (((s.size : Nat) : Int) - 1)) _ hF)
 exact (WS.mk (tc (tc (tc Zb))) Zc)

def Zb0 (s : ByteArray) (c : Int) : Option (Int) :=
 Za0 s c >>= fun r1 =>
 some r1
def Zb0.M (s : ByteArray) (c : Int) (r : Int) : Prop :=
 Zj Tryz.prog 114 [.c none (.v (.string s)), .c none (.v (.int .u8 c))] [] (fun d b => d = .c none (.v (.int .i64 r)) ∧ b = [])
theorem Zkt (s : ByteArray) (c : Int) (r : Int) (hF : Zb0 s c = some r) : Zb0.M s c r := by
 unfold Zb0 at hF
 unfold Zb0.M
 refine en Tryz.func114 ?_
 refine AWP.seq ?_
 refine ns ?_
 refine AWP.seq ?_
 obtain ⟨r1, hr1, hF⟩ := bind_some hF
 refine ns ?_
 refine e3 ?_
 refine st ?_
 refine cm (Zj.weak (rn []) (Zht s c _ hr1) rfl (WS.mk (tc (tc Zb)) Zc)) ?_
 refine st ?_
 obtain rfl := Zg hF
 refine ns ?_
 refine Exists.intro [] ?_
 refine st ?_
 exact wx (WS.mk (tc Zb) Zc)

def ZeZ (s : ByteArray) : Option (ByteArray × Int × Bool) :=
 Zb0 s 36 >>= fun r1 =>
 if (decide (r1 < 0)) = true then
 some ((ByteArray.mk #[]), 0, false)
 else
 (slS s (IntKind.i64.wrap (r1 + 1)) ((s.size : Nat) : Int)) >>= fun z4 =>
 Zft z4 >>= fun r5 =>
 (if r5.2 = true then some true else (slS s ((0 : Nat) : Int) r1) >>= fun z10 =>
 Zf5 z10 r5.1 >>= fun r11 =>
 some (!(r11.toList == s.toList))) >>= fun c12 =>
 if c12 = true then
 some ((ByteArray.mk #[]), 0, false)
 else
 (slS s ((0 : Nat) : Int) r1) >>= fun z15 =>
 some (z15, r5.1, true)
def ZeZ.M (s : ByteArray) (r : ByteArray × Int × Bool) : Prop :=
 Zj Tryz.prog 92 [.c none (.v (.string s))] [] (fun d b => d = .tup [.c (.v (.string r.1)), .c (.v (.int .i64 r.2.1)), .c (.v (.bool r.2.2))] ∧ b = [])
theorem Zkn (s : ByteArray) (r : ByteArray × Int × Bool) (hF : ZeZ s = some r) : ZeZ.M s r := by
 unfold ZeZ at hF
 unfold ZeZ.M
 refine en Tryz.func92 ?_
 refine AWP.seq ?_
 refine ns ?_
 refine AWP.seq ?_
 obtain ⟨r1, hr1, hF⟩ := bind_some hF
 refine ns ?_
 refine e3 ?_
 refine st ?_
 refine cm (Zj.weak (rn []) (Zkt s 36 _ hr1) rfl (WS.mk (tc (tc Zb)) Zc)) ?_
 refine st ?_
 refine AWP.seq ?_
 refine AWP.seq ?_
 refine ns ?_
 refine nw ?_
 refine Zi hF (fun hc3 hF => ?_) (fun hc3 hF => ?_)
 ·refine AWP.seq ?_
  refine ns ?_
  obtain rfl := Zg hF
  refine ns ?_
  refine Exists.intro [] ?_
  refine st ?_
  exact wx (WS.mk (Zd (Zc9 (ZcG (WE.refl _) (ZcG (WE.refl _) (ZcG (WE.refl _) Zda)))) Zb) Zc)
 ·refine nw ?_
  refine AWP.seq ?_
  obtain ⟨z4, ZHz, ZEp, ZHO, hz4, hF⟩ := ZfT hF
  obtain ⟨r5, hr5, hF⟩ := bind_some hF
  refine nn ?_
  refine s3 ZHz ZEp ZHO ?_
  rw [← hz4]
  refine st ?_
  refine e3 ?_
  refine st ?_
  refine cm (Zj.weak (rn []) (strconv_Atoi_ok z4 _ hr5) rfl (WS.mk (tc Zb) Zc)) ?_
  refine st ?_
  refine AWP.seq ?_
  refine AWP.seq ?_
  obtain ⟨c12, ZcJ, hF⟩ := bind_some hF
  refine AWP.cutN (fun T => ∃ r, WS r T ⟨[(0, .c none (.v (.string s))), (3, .c none (.v (.int .i64 r5.1))), (5, .c none (.v (.int .i64 r1))), (29, .c none (.v (.bool c12)))], []⟩) ?_ (fun T hw => ?_)
  ·refine ns ?_
   refine Zm false (fun ZbB => ?_) (fun ZbB => ?_)
   ·have ZcJ := ift ZbB ZcJ
    (conv => whnf)
    obtain rfl := Zg ZcJ
    refine st ?_
    exact wx (WS.mk (tc (tc (tc (Zd (Zr (web ZbB)) Zb)))) Zc)
   ·have ZcJ := ife ZbB ZcJ
    obtain ⟨z10, ZGl, ZFB, ZEL, ZIM, ZcJ⟩ := ZfT ZcJ
    obtain ⟨r11, Zvt, ZcJ⟩ := bind_some ZcJ
    (conv => whnf)
    refine s3 ZGl ZFB ZEL ?_
    rw [← ZIM]
    refine st ?_
    refine e3 ?_
    refine st ?_
    refine cm (Zj.weak (rn []) (Zsg z10 r5.1 _ Zvt) rfl (WS.mk (tc (tc Zb)) Zc)) ?_
    refine st ?_
    obtain rfl := Zg ZcJ
    refine st ?_
    exact wx (WS.mk (tc (tc (tc (Zd (Zr (web ZbB)) Zb)))) Zc)
  obtain ⟨r0, hw⟩ := hw
  (conv => whnf)
  refine AWP.weak r0 hw ?_
  refine nw ?_
  refine Zi hF (fun Zdk hF => ?_) (fun Zdk hF => ?_)
  ·refine AWP.seq ?_
   refine ns ?_
   obtain rfl := Zg hF
   refine ns ?_
   refine Exists.intro [] ?_
   refine st ?_
   exact wx (WS.mk (Zd (Zc9 (ZcG (WE.refl _) (ZcG (WE.refl _) (ZcG (WE.refl _) Zda)))) Zb) Zc)
  ·refine nw ?_
   refine AWP.seq ?_
   obtain ⟨z15, ZEW, ZFa, ZFr, ZH3, hF⟩ := ZfT hF
   refine nn ?_
   refine s3 ZEW ZFa ZFr ?_
   rw [← ZH3]
   refine st ?_
   obtain rfl := Zg hF
   refine ns ?_
   refine Exists.intro [] ?_
   refine st ?_
   exact wx (WS.mk (Zd (Zc9 (ZcG (WE.refl _) (ZcG (WE.refl _) (ZcG (WE.refl _) Zda)))) Zb) Zc)

def Zdm (s : ByteArray) : Option (Int) :=
 Zcm s >>= fun r18 =>
 if r18 = true then
 some 5
 else
 ZbQ s >>= fun r20 =>
 if r20 = true then
 some 6
 else
 ZeB s >>= fun r22 =>
 (if r22 = true then (btI s 0) >>= fun y23 =>
 Zen ((y23.toNat : Nat) : Int) >>= fun r24 =>
 some r24 else some false) >>= fun c25 =>
 if c25 = true then
 some 2
 else
 ZeB s >>= fun r28 =>
 if r28 = true then
 some 1
 else
 ZdW s >>= fun r30 =>
 (if r30 = true then (btI s 0) >>= fun y31 =>
 some (((y31.toNat : Nat) : Int) == 58) else some false) >>= fun c32 =>
 if c32 = true then
 some 4
 else
 ZdW s >>= fun r35 =>
 if r35 = true then
 some 3
 else
 ZeZ s >>= fun r37 =>
 if r37.2.2 = true then
 some 7
 else
 some 0
def Zdm.M (s : ByteArray) (r : Int) : Prop :=
 Zj Tryz.prog 93 [.c none (.v (.string s))] [] (fun d b => d = .c none (.v (.int .i64 r)) ∧ b = [])
theorem Zhu (s : ByteArray) (r : Int) (hF : Zdm s = some r) : Zdm.M s r := by
 unfold Zdm at hF
 unfold Zdm.M
 refine en Tryz.func93 ?_
 refine AWP.seq ?_
 refine ns ?_
 refine AWP.seq ?_
 refine AWP.block ?_
 refine AWP.seq ?_
 obtain ⟨r18, ZDh, hF⟩ := bind_some hF
 refine ns ?_
 refine e3 ?_
 refine st ?_
 refine cm (Zj.weak (rn []) (Zh2 s _ ZDh) rfl (WS.mk (tc Zb) Zc)) ?_
 refine st ?_
 refine nw ?_
 refine Zi hF (fun Zt4 hF => ?_) (fun Zt4 hF => ?_)
 ·refine AWP.seq ?_
  refine ns ?_
  obtain rfl := Zg hF
  refine ns ?_
  refine Exists.intro [] ?_
  refine st ?_
  exact wx (WS.mk (tc Zb) Zc)
 ·refine AWP.seq ?_
  obtain ⟨r20, ZIR, hF⟩ := bind_some hF
  refine ns ?_
  refine e3 ?_
  refine st ?_
  refine cm (Zj.weak (rn []) (Ze9 s _ ZIR) rfl (WS.mk (tc Zb) Zc)) ?_
  refine st ?_
  refine nw ?_
  refine Zi hF (fun ZB9 hF => ?_) (fun ZB9 hF => ?_)
  ·refine AWP.seq ?_
   refine ns ?_
   obtain rfl := Zg hF
   refine ns ?_
   refine Exists.intro [] ?_
   refine st ?_
   exact wx (WS.mk (tc Zb) Zc)
  ·refine AWP.seq ?_
   obtain ⟨r22, ZH6, hF⟩ := bind_some hF
   obtain ⟨c25, Zjs, hF⟩ := bind_some hF
   refine AWP.cutN (fun T => ∃ r, WS r T ⟨[(0, .c none (.v (.string s))), (12, .c none (.v (.bool c25)))], []⟩) ?_ (fun T hw => ?_)
   ·refine ns ?_
    refine e3 ?_
    refine st ?_
    refine cm (Zj.weak (rn []) (Zip s _ ZH6) rfl (WS.mk (tc Zb) Zc)) ?_
    refine st ?_
    refine Zm true (fun ZlI => ?_) (fun ZlI => ?_)
    ·have Zjs := ift ZlI Zjs
     obtain ⟨y23, hy230, ZGT, Zjs⟩ := ZcX Zjs
     obtain ⟨r24, ZDy, Zjs⟩ := bind_some Zjs
     (conv => whnf)
     refine sr ZGT ?_
     refine st ?_
     refine e3 ?_
     refine st ?_
     refine cm (Zj.weak (rn []) (ZjA ((y23.toNat : Nat) : Int) _ ZDy) rfl (WS.mk (tc Zb) Zc)) ?_
     refine st ?_
     obtain rfl := Zg Zjs
     refine st ?_
     exact wx (WS.mk (tc (Zd (Zr (web ZlI)) Zb)) Zc)
    ·have Zjs := ife ZlI Zjs
     (conv => whnf)
     obtain rfl := Zg Zjs
     refine st ?_
     exact wx (WS.mk (tc (Zd (Zr (web ZlI)) Zb)) Zc)
   obtain ⟨r0, hw⟩ := hw
   (conv => whnf)
   refine AWP.weak r0 hw ?_
   refine nw ?_
   refine Zi hF (fun Zto hF => ?_) (fun Zto hF => ?_)
   ·refine AWP.seq ?_
    refine ns ?_
    obtain rfl := Zg hF
    refine ns ?_
    refine Exists.intro [] ?_
    refine st ?_
    exact wx (WS.mk (tc Zb) Zc)
   ·refine AWP.seq ?_
    obtain ⟨r28, ZCt, hF⟩ := bind_some hF
    refine ns ?_
    refine e3 ?_
    refine st ?_
    refine cm (Zj.weak (rn []) (Zip s _ ZCt) rfl (WS.mk (tc Zb) Zc)) ?_
    refine st ?_
    refine nw ?_
    refine Zi hF (fun Zox hF => ?_) (fun Zox hF => ?_)
    ·refine AWP.seq ?_
     refine ns ?_
     obtain rfl := Zg hF
     refine ns ?_
     refine Exists.intro [] ?_
     refine st ?_
     exact wx (WS.mk (tc Zb) Zc)
    ·refine AWP.seq ?_
     obtain ⟨r30, ZHR, hF⟩ := bind_some hF
     obtain ⟨c32, ZnN, hF⟩ := bind_some hF
     refine AWP.cutN (fun T => ∃ r, WS r T ⟨[(0, .c none (.v (.string s))), (23, .c none (.v (.bool c32)))], []⟩) ?_ (fun T hw => ?_)
     ·refine ns ?_
      refine e3 ?_
      refine st ?_
      refine cm (Zj.weak (rn []) (ZgU s _ ZHR) rfl (WS.mk (tc Zb) Zc)) ?_
      refine st ?_
      refine Zm true (fun ZpF => ?_) (fun ZpF => ?_)
      ·have ZnN := ift ZpF ZnN
       obtain ⟨y31, hy310, ZG3, ZnN⟩ := ZcX ZnN
       (conv => whnf)
       refine sr ZG3 ?_
       obtain rfl := Zg ZnN
       refine st ?_
       exact wx (WS.mk (tc (Zd (Zr (web ZpF)) Zb)) Zc)
      ·have ZnN := ife ZpF ZnN
       (conv => whnf)
       obtain rfl := Zg ZnN
       refine st ?_
       exact wx (WS.mk (tc (Zd (Zr (web ZpF)) Zb)) Zc)
     obtain ⟨r0, hw⟩ := hw
     (conv => whnf)
     refine AWP.weak r0 hw ?_
     refine nw ?_
     refine Zi hF (fun ZyZ hF => ?_) (fun ZyZ hF => ?_)
     ·refine AWP.seq ?_
      refine ns ?_
      obtain rfl := Zg hF
      refine ns ?_
      refine Exists.intro [] ?_
      refine st ?_
      exact wx (WS.mk (tc Zb) Zc)
     ·refine AWP.seq ?_
      obtain ⟨r35, ZC7, hF⟩ := bind_some hF
      refine ns ?_
      refine e3 ?_
      refine st ?_
      refine cm (Zj.weak (rn []) (ZgU s _ ZC7) rfl (WS.mk (tc Zb) Zc)) ?_
      refine st ?_
      refine nw ?_
      refine Zi hF (fun ZkF hF => ?_) (fun ZkF hF => ?_)
      ·refine AWP.seq ?_
       refine ns ?_
       obtain rfl := Zg hF
       refine ns ?_
       refine Exists.intro [] ?_
       refine st ?_
       exact wx (WS.mk (tc Zb) Zc)
      ·refine nw ?_
       refine AWP.seq ?_
       refine AWP.seq ?_
       obtain ⟨r37, ZDL, hF⟩ := bind_some hF
       refine ns ?_
       refine e3 ?_
       refine st ?_
       refine cm (Zj.weak (rn []) (Zkn s _ ZDL) rfl (WS.mk (tc Zb) Zc)) ?_
       refine st ?_
       refine AWP.seq ?_
       refine ns ?_
       refine nw ?_
       refine Zi hF (fun Zkp hF => ?_) (fun Zkp hF => ?_)
       ·refine AWP.seq ?_
        refine ns ?_
        obtain rfl := Zg hF
        refine ns ?_
        refine Exists.intro [] ?_
        refine st ?_
        exact wx (WS.mk (tc Zb) Zc)
       ·refine nw ?_
        refine AWP.seq ?_
        refine ns ?_
        obtain rfl := Zg hF
        refine ns ?_
        refine Exists.intro [] ?_
        refine st ?_
        exact wx (WS.mk (tc Zb) Zc)

def ZQ (Zyb : Bool) : Option (Bool) :=
 if Zyb = true then
 some true
 else
 some false
def ZQ.M (Zyb : Bool) (r : Bool) : Prop :=
 AWP Tryz.prog 28 (Code.sub (Zq Tryz.f87) [1, 0, 1, 0, 1, 1, 1]) (Code.cont Tryz.prog 28 (Zq Tryz.f87) [1, 0, 1, 0, 1, 1, 1] (ZbW tab Tryz.f87.results (ZbY (.c none (.v (.bool r))) []))) ⟨[(16, .c none (.v (.bool Zyb)))], []⟩
theorem Zai (Zyb : Bool) (r : Bool) (hF : ZQ Zyb = some r) : ZQ.M Zyb r := by
 unfold ZQ at hF
 unfold ZQ.M
 refine nw ?_
 refine Zi hF (fun Zta hF => ?_) (fun Zta hF => ?_)
 ·refine AWP.seq ?_
  refine ns ?_
  obtain rfl := Zg hF
  refine ns ?_
  refine Exists.intro [] ?_
  refine st ?_
  exact wx (WS.mk (tc Zb) Zc)
 ·refine nw ?_
  refine AWP.seq ?_
  refine ns ?_
  obtain rfl := Zg hF
  refine ns ?_
  refine Exists.intro [] ?_
  refine st ?_
  exact wx (WS.mk (tc Zb) Zc)

def ZP (s : ByteArray) (x_4 : Bool) : Option (Bool) :=
 if x_4 = true then
 some true
 else
 if (s.toList == (ByteArray.mk #[105, 110, 102, 105, 120]).toList) = true then
 ZQ (s.toList == (ByteArray.mk #[105, 110, 102, 105, 120]).toList)
 else
 if (s.toList == (ByteArray.mk #[105, 110, 102, 105, 120, 108]).toList) = true then
 ZQ (s.toList == (ByteArray.mk #[105, 110, 102, 105, 120, 108]).toList)
 else
 if (s.toList == (ByteArray.mk #[105, 110, 102, 105, 120, 114]).toList) = true then
 ZQ (s.toList == (ByteArray.mk #[105, 110, 102, 105, 120, 114]).toList)
 else
 if (s.toList == (ByteArray.mk #[105, 110, 115, 116, 97, 110, 99, 101]).toList) = true then
 ZQ (s.toList == (ByteArray.mk #[105, 110, 115, 116, 97, 110, 99, 101]).toList)
 else
 if (s.toList == (ByteArray.mk #[108, 101, 116]).toList) = true then
 ZQ (s.toList == (ByteArray.mk #[108, 101, 116]).toList)
 else
 if (s.toList == (ByteArray.mk #[109, 111, 100, 117, 108, 101]).toList) = true then
 ZQ (s.toList == (ByteArray.mk #[109, 111, 100, 117, 108, 101]).toList)
 else
 if (s.toList == (ByteArray.mk #[111, 102]).toList) = true then
 ZQ (s.toList == (ByteArray.mk #[111, 102]).toList)
 else
 if (s.toList == (ByteArray.mk #[113, 117, 97, 108, 105, 102, 105, 101, 100]).toList) = true then
 ZQ (s.toList == (ByteArray.mk #[113, 117, 97, 108, 105, 102, 105, 101, 100]).toList)
 else
 if (s.toList == (ByteArray.mk #[116, 104, 101, 110]).toList) = true then
 ZQ (s.toList == (ByteArray.mk #[116, 104, 101, 110]).toList)
 else
 if (s.toList == (ByteArray.mk #[119, 104, 101, 114, 101]).toList) = true then
 ZQ (s.toList == (ByteArray.mk #[119, 104, 101, 114, 101]).toList)
 else
 ZQ (s.toList == (ByteArray.mk #[95]).toList)
def ZP.M (s : ByteArray) (x_4 : Bool) (r : Bool) : Prop :=
 AWP Tryz.prog 28 (Code.sub (Zq Tryz.f87) [1, 0, 1, 0, 1]) (Code.cont Tryz.prog 28 (Zq Tryz.f87) [1, 0, 1, 0, 1] (ZbW tab Tryz.f87.results (ZbY (.c none (.v (.bool r))) []))) ⟨[(3, .c none (.v (.string s))), (4, .c none (.v (.bool x_4)))], []⟩
theorem Zag (s : ByteArray) (x_4 : Bool) (r : Bool) (hF : ZP s x_4 = some r) : ZP.M s x_4 r := by
 unfold ZP at hF
 unfold ZP.M
 refine nw ?_
 refine Zi hF (fun ZcP hF => ?_) (fun ZcP hF => ?_)
 ·refine AWP.seq ?_
  refine ns ?_
  obtain rfl := Zg hF
  refine ns ?_
  refine Exists.intro [] ?_
  refine st ?_
  exact wx (WS.mk (tc Zb) Zc)
 ·refine AWP.seq ?_
  refine AWP.seq ?_
  refine ns ?_
  refine nw ?_
  refine Zi hF (fun ZEc hF => ?_) (fun ZEc hF => ?_)
  ·refine nw ?_
   refine AWP.weak (rn []) ?_ (Zai (s.toList == (ByteArray.mk #[105, 110, 102, 105, 120]).toList) _ hF)
   exact (WS.mk (tc Zb) Zc)
  ·refine AWP.seq ?_
   refine ns ?_
   refine nw ?_
   refine Zi hF (fun Zzf hF => ?_) (fun Zzf hF => ?_)
   ·refine nw ?_
    refine AWP.weak (rn []) ?_ (Zai (s.toList == (ByteArray.mk #[105, 110, 102, 105, 120, 108]).toList) _ hF)
    exact (WS.mk (tc Zb) Zc)
   ·refine AWP.seq ?_
    refine ns ?_
    refine nw ?_
    refine Zi hF (fun Zjs hF => ?_) (fun Zjs hF => ?_)
    ·refine nw ?_
     refine AWP.weak (rn []) ?_ (Zai (s.toList == (ByteArray.mk #[105, 110, 102, 105, 120, 114]).toList) _ hF)
     exact (WS.mk (tc Zb) Zc)
    ·refine AWP.seq ?_
     refine ns ?_
     refine nw ?_
     refine Zi hF (fun ZlI hF => ?_) (fun ZlI hF => ?_)
     ·refine nw ?_
      refine AWP.weak (rn []) ?_ (Zai (s.toList == (ByteArray.mk #[105, 110, 115, 116, 97, 110, 99, 101]).toList) _ hF)
      exact (WS.mk (tc Zb) Zc)
     ·refine AWP.seq ?_
      refine ns ?_
      refine nw ?_
      refine Zi hF (fun Zto hF => ?_) (fun Zto hF => ?_)
      ·refine nw ?_
       refine AWP.weak (rn []) ?_ (Zai (s.toList == (ByteArray.mk #[108, 101, 116]).toList) _ hF)
       exact (WS.mk (tc Zb) Zc)
      ·refine AWP.seq ?_
       refine ns ?_
       refine nw ?_
       refine Zi hF (fun ZAG hF => ?_) (fun ZAG hF => ?_)
       ·refine nw ?_
        refine AWP.weak (rn []) ?_ (Zai (s.toList == (ByteArray.mk #[109, 111, 100, 117, 108, 101]).toList) _ hF)
        exact (WS.mk (tc Zb) Zc)
       ·refine AWP.seq ?_
        refine ns ?_
        refine nw ?_
        refine Zi hF (fun Zox hF => ?_) (fun Zox hF => ?_)
        ·refine nw ?_
         refine AWP.weak (rn []) ?_ (Zai (s.toList == (ByteArray.mk #[111, 102]).toList) _ hF)
         exact (WS.mk (tc Zb) Zc)
        ·refine AWP.seq ?_
         refine ns ?_
         refine nw ?_
         refine Zi hF (fun Zpx hF => ?_) (fun Zpx hF => ?_)
         ·refine nw ?_
          refine AWP.weak (rn []) ?_ (Zai (s.toList == (ByteArray.mk #[113, 117, 97, 108, 105, 102, 105, 101, 100]).toList) _ hF)
          exact (WS.mk (tc Zb) Zc)
         ·refine AWP.seq ?_
          refine ns ?_
          refine nw ?_
          refine Zi hF (fun ZyL hF => ?_) (fun ZyL hF => ?_)
          ·refine nw ?_
           refine AWP.weak (rn []) ?_ (Zai (s.toList == (ByteArray.mk #[116, 104, 101, 110]).toList) _ hF)
           exact (WS.mk (tc Zb) Zc)
          ·refine AWP.seq ?_
           refine ns ?_
           refine nw ?_
           refine Zi hF (fun ZnN hF => ?_) (fun ZnN hF => ?_)
           ·refine nw ?_
            refine AWP.weak (rn []) ?_ (Zai (s.toList == (ByteArray.mk #[119, 104, 101, 114, 101]).toList) _ hF)
            exact (WS.mk (tc Zb) Zc)
           ·refine ns ?_
            refine AWP.weak (rn []) ?_ (Zai (s.toList == (ByteArray.mk #[95]).toList) _ hF)
            exact (WS.mk (tc Zb) Zc)

def Zcz (s : ByteArray) : Option (Bool) :=
 if (s.toList == (ByteArray.mk #[97, 115]).toList) = true then
 ZP s (s.toList == (ByteArray.mk #[97, 115]).toList)
 else
 if (s.toList == (ByteArray.mk #[99, 97, 115, 101]).toList) = true then
 ZP s (s.toList == (ByteArray.mk #[99, 97, 115, 101]).toList)
 else
 if (s.toList == (ByteArray.mk #[99, 108, 97, 115, 115]).toList) = true then
 ZP s (s.toList == (ByteArray.mk #[99, 108, 97, 115, 115]).toList)
 else
 if (s.toList == (ByteArray.mk #[100, 97, 116, 97]).toList) = true then
 ZP s (s.toList == (ByteArray.mk #[100, 97, 116, 97]).toList)
 else
 if (s.toList == (ByteArray.mk #[100, 101, 114, 105, 118, 105, 110, 103]).toList) = true then
 ZP s (s.toList == (ByteArray.mk #[100, 101, 114, 105, 118, 105, 110, 103]).toList)
 else
 if (s.toList == (ByteArray.mk #[100, 111]).toList) = true then
 ZP s (s.toList == (ByteArray.mk #[100, 111]).toList)
 else
 if (s.toList == (ByteArray.mk #[101, 108, 115, 101]).toList) = true then
 ZP s (s.toList == (ByteArray.mk #[101, 108, 115, 101]).toList)
 else
 if (s.toList == (ByteArray.mk #[104, 105, 100, 105, 110, 103]).toList) = true then
 ZP s (s.toList == (ByteArray.mk #[104, 105, 100, 105, 110, 103]).toList)
 else
 if (s.toList == (ByteArray.mk #[105, 102]).toList) = true then
 ZP s (s.toList == (ByteArray.mk #[105, 102]).toList)
 else
 if (s.toList == (ByteArray.mk #[105, 109, 112, 111, 114, 116]).toList) = true then
 ZP s (s.toList == (ByteArray.mk #[105, 109, 112, 111, 114, 116]).toList)
 else
 ZP s (s.toList == (ByteArray.mk #[105, 110]).toList)
def Zcz.M (s : ByteArray) (r : Bool) : Prop :=
 Zj Tryz.prog 87 [.c none (.v (.string s))] [] (fun d b => d = .c none (.v (.bool r)) ∧ b = [])
theorem Zls (s : ByteArray) (r : Bool) (hF : Zcz s = some r) : Zcz.M s r := by
 unfold Zcz at hF
 unfold Zcz.M
 refine en Tryz.func87 ?_
 refine AWP.seq ?_
 refine ns ?_
 refine AWP.seq ?_
 refine AWP.seq ?_
 refine ns ?_
 refine AWP.block ?_
 refine AWP.seq ?_
 refine AWP.seq ?_
 refine ns ?_
 refine nw ?_
 refine Zi hF (fun ZpF hF => ?_) (fun ZpF hF => ?_)
 ·refine nw ?_
  refine AWP.weak (rn []) ?_ (Zag s (s.toList == (ByteArray.mk #[97, 115]).toList) _ hF)
  exact (WS.mk (tc (tc Zb)) Zc)
 ·refine AWP.seq ?_
  refine ns ?_
  refine nw ?_
  refine Zi hF (fun ZyZ hF => ?_) (fun ZyZ hF => ?_)
  ·refine nw ?_
   refine AWP.weak (rn []) ?_ (Zag s (s.toList == (ByteArray.mk #[99, 97, 115, 101]).toList) _ hF)
   exact (WS.mk (tc (tc Zb)) Zc)
  ·refine AWP.seq ?_
   refine ns ?_
   refine nw ?_
   refine Zi hF (fun Znz hF => ?_) (fun Znz hF => ?_)
   ·refine nw ?_
    refine AWP.weak (rn []) ?_ (Zag s (s.toList == (ByteArray.mk #[99, 108, 97, 115, 115]).toList) _ hF)
    exact (WS.mk (tc (tc Zb)) Zc)
   ·refine AWP.seq ?_
    refine ns ?_
    refine nw ?_
    refine Zi hF (fun ZkF hF => ?_) (fun ZkF hF => ?_)
    ·refine nw ?_
     refine AWP.weak (rn []) ?_ (Zag s (s.toList == (ByteArray.mk #[100, 97, 116, 97]).toList) _ hF)
     exact (WS.mk (tc (tc Zb)) Zc)
    ·refine AWP.seq ?_
     refine ns ?_
     refine nw ?_
     refine Zi hF (fun ZpN hF => ?_) (fun ZpN hF => ?_)
     ·refine nw ?_
      refine AWP.weak (rn []) ?_ (Zag s (s.toList == (ByteArray.mk #[100, 101, 114, 105, 118, 105, 110, 103]).toList) _ hF)
      exact (WS.mk (tc (tc Zb)) Zc)
     ·refine AWP.seq ?_
      refine ns ?_
      refine nw ?_
      refine Zi hF (fun Zkp hF => ?_) (fun Zkp hF => ?_)
      ·refine nw ?_
       refine AWP.weak (rn []) ?_ (Zag s (s.toList == (ByteArray.mk #[100, 111]).toList) _ hF)
       exact (WS.mk (tc (tc Zb)) Zc)
      ·refine AWP.seq ?_
       refine ns ?_
       refine nw ?_
       refine Zi hF (fun ZhU hF => ?_) (fun ZhU hF => ?_)
       ·refine nw ?_
        refine AWP.weak (rn []) ?_ (Zag s (s.toList == (ByteArray.mk #[101, 108, 115, 101]).toList) _ hF)
        exact (WS.mk (tc (tc Zb)) Zc)
       ·refine AWP.seq ?_
        refine ns ?_
        refine nw ?_
        refine Zi hF (fun Zoj hF => ?_) (fun Zoj hF => ?_)
        ·refine nw ?_
         refine AWP.weak (rn []) ?_ (Zag s (s.toList == (ByteArray.mk #[104, 105, 100, 105, 110, 103]).toList) _ hF)
         exact (WS.mk (tc (tc Zb)) Zc)
        ·refine AWP.seq ?_
         refine ns ?_
         refine nw ?_
         refine Zi hF (fun Zv9 hF => ?_) (fun Zv9 hF => ?_)
         ·refine nw ?_
          refine AWP.weak (rn []) ?_ (Zag s (s.toList == (ByteArray.mk #[105, 102]).toList) _ hF)
          exact (WS.mk (tc (tc Zb)) Zc)
         ·refine AWP.seq ?_
          refine ns ?_
          refine nw ?_
          refine Zi hF (fun ZvB hF => ?_) (fun ZvB hF => ?_)
          ·refine nw ?_
           refine AWP.weak (rn []) ?_ (Zag s (s.toList == (ByteArray.mk #[105, 109, 112, 111, 114, 116]).toList) _ hF)
           exact (WS.mk (tc (tc Zb)) Zc)
          ·refine ns ?_
           refine AWP.weak (rn []) ?_ (Zag s (s.toList == (ByteArray.mk #[105, 110]).toList) _ hF)
           exact (WS.mk (tc (tc Zb)) Zc)

def ZC (x_4 : Bool) : Option (Bool) :=
 if x_4 = true then
 some true
 else
 some false
def ZC.M (x_4 : Bool) (r : Bool) : Prop :=
 AWP Tryz.prog 15 (Code.sub (Zq Tryz.f90) [1, 0, 1, 0, 1]) (Code.cont Tryz.prog 15 (Zq Tryz.f90) [1, 0, 1, 0, 1] (ZbW tab Tryz.f90.results (ZbY (.c none (.v (.bool r))) []))) ⟨[(4, .c none (.v (.bool x_4)))], []⟩
theorem Z1 (x_4 : Bool) (r : Bool) (hF : ZC x_4 = some r) : ZC.M x_4 r := by
 unfold ZC at hF
 unfold ZC.M
 refine nw ?_
 refine Zi hF (fun Zdt hF => ?_) (fun Zdt hF => ?_)
 ·refine AWP.seq ?_
  refine ns ?_
  obtain rfl := Zg hF
  refine ns ?_
  refine Exists.intro [] ?_
  refine st ?_
  exact wx (WS.mk (tc Zb) Zc)
 ·refine nw ?_
  refine AWP.seq ?_
  refine ns ?_
  obtain rfl := Zg hF
  refine ns ?_
  refine Exists.intro [] ?_
  refine st ?_
  exact wx (WS.mk (tc Zb) Zc)

def Zba (s : ByteArray) : Option (Bool) :=
 if (s.toList == (ByteArray.mk #[46, 46]).toList) = true then
 ZC (s.toList == (ByteArray.mk #[46, 46]).toList)
 else
 if (s.toList == (ByteArray.mk #[58, 58]).toList) = true then
 ZC (s.toList == (ByteArray.mk #[58, 58]).toList)
 else
 if (s.toList == (ByteArray.mk #[61]).toList) = true then
 ZC (s.toList == (ByteArray.mk #[61]).toList)
 else
 if (s.toList == (ByteArray.mk #[92]).toList) = true then
 ZC (s.toList == (ByteArray.mk #[92]).toList)
 else
 if (s.toList == (ByteArray.mk #[124]).toList) = true then
 ZC (s.toList == (ByteArray.mk #[124]).toList)
 else
 if (s.toList == (ByteArray.mk #[60, 45]).toList) = true then
 ZC (s.toList == (ByteArray.mk #[60, 45]).toList)
 else
 if (s.toList == (ByteArray.mk #[45, 62]).toList) = true then
 ZC (s.toList == (ByteArray.mk #[45, 62]).toList)
 else
 if (s.toList == (ByteArray.mk #[64]).toList) = true then
 ZC (s.toList == (ByteArray.mk #[64]).toList)
 else
 if (s.toList == (ByteArray.mk #[126]).toList) = true then
 ZC (s.toList == (ByteArray.mk #[126]).toList)
 else
 ZC (s.toList == (ByteArray.mk #[61, 62]).toList)
def Zba.M (s : ByteArray) (r : Bool) : Prop :=
 Zj Tryz.prog 90 [.c none (.v (.string s))] [] (fun d b => d = .c none (.v (.bool r)) ∧ b = [])
theorem ZiR (s : ByteArray) (r : Bool) (hF : Zba s = some r) : Zba.M s r := by
 unfold Zba at hF
 unfold Zba.M
 refine en Tryz.func90 ?_
 refine AWP.seq ?_
 refine ns ?_
 refine AWP.seq ?_
 refine AWP.seq ?_
 refine ns ?_
 refine AWP.block ?_
 refine AWP.seq ?_
 refine AWP.seq ?_
 refine ns ?_
 refine nw ?_
 refine Zi hF (fun ZcP hF => ?_) (fun ZcP hF => ?_)
 ·refine nw ?_
  refine AWP.weak (rn []) ?_ (Z1 (s.toList == (ByteArray.mk #[46, 46]).toList) _ hF)
  exact (WS.mk (tc Zb) Zc)
 ·refine AWP.seq ?_
  refine ns ?_
  refine nw ?_
  refine Zi hF (fun ZcJ hF => ?_) (fun ZcJ hF => ?_)
  ·refine nw ?_
   refine AWP.weak (rn []) ?_ (Z1 (s.toList == (ByteArray.mk #[58, 58]).toList) _ hF)
   exact (WS.mk (tc Zb) Zc)
  ·refine AWP.seq ?_
   refine ns ?_
   refine nw ?_
   refine Zi hF (fun ZbB hF => ?_) (fun ZbB hF => ?_)
   ·refine nw ?_
    refine AWP.weak (rn []) ?_ (Z1 (s.toList == (ByteArray.mk #[61]).toList) _ hF)
    exact (WS.mk (tc Zb) Zc)
   ·refine AWP.seq ?_
    refine ns ?_
    refine nw ?_
    refine Zi hF (fun Zdk hF => ?_) (fun Zdk hF => ?_)
    ·refine nw ?_
     refine AWP.weak (rn []) ?_ (Z1 (s.toList == (ByteArray.mk #[92]).toList) _ hF)
     exact (WS.mk (tc Zb) Zc)
    ·refine AWP.seq ?_
     refine ns ?_
     refine nw ?_
     refine Zi hF (fun Zfg hF => ?_) (fun Zfg hF => ?_)
     ·refine nw ?_
      refine AWP.weak (rn []) ?_ (Z1 (s.toList == (ByteArray.mk #[124]).toList) _ hF)
      exact (WS.mk (tc Zb) Zc)
     ·refine AWP.seq ?_
      refine ns ?_
      refine nw ?_
      refine Zi hF (fun Zgv hF => ?_) (fun Zgv hF => ?_)
      ·refine nw ?_
       refine AWP.weak (rn []) ?_ (Z1 (s.toList == (ByteArray.mk #[60, 45]).toList) _ hF)
       exact (WS.mk (tc Zb) Zc)
      ·refine AWP.seq ?_
       refine ns ?_
       refine nw ?_
       refine Zi hF (fun ZiP hF => ?_) (fun ZiP hF => ?_)
       ·refine nw ?_
        refine AWP.weak (rn []) ?_ (Z1 (s.toList == (ByteArray.mk #[45, 62]).toList) _ hF)
        exact (WS.mk (tc Zb) Zc)
       ·refine AWP.seq ?_
        refine ns ?_
        refine nw ?_
        refine Zi hF (fun Zt7 hF => ?_) (fun Zt7 hF => ?_)
        ·refine nw ?_
         refine AWP.weak (rn []) ?_ (Z1 (s.toList == (ByteArray.mk #[64]).toList) _ hF)
         exact (WS.mk (tc Zb) Zc)
        ·refine AWP.seq ?_
         refine ns ?_
         refine nw ?_
         refine Zi hF (fun Zt4 hF => ?_) (fun Zt4 hF => ?_)
         ·refine nw ?_
          refine AWP.weak (rn []) ?_ (Z1 (s.toList == (ByteArray.mk #[126]).toList) _ hF)
          exact (WS.mk (tc Zb) Zc)
         ·refine ns ?_
          refine AWP.weak (rn []) ?_ (Z1 (s.toList == (ByteArray.mk #[61, 62]).toList) _ hF)
          exact (WS.mk (tc Zb) Zc)

def Zaa (c : Int) (i_4 : Nat) : Option (Bool) :=
 if (decide (((i_4 : Nat) : Int) < (((ByteArray.mk #[33, 35, 36, 37, 38, 42, 43, 46, 47, 60, 61, 62, 63, 64, 92, 94, 124, 45, 126, 58]).size : Nat) : Int))) = true then
 (btI (ByteArray.mk #[33, 35, 36, 37, 38, 42, 43, 46, 47, 60, 61, 62, 63, 64, 92, 94, 124, 45, 126, 58]) ((i_4 : Nat) : Int)) >>= fun y12 =>
 if (((y12.toNat : Nat) : Int) == c) = true then
 some true
 else
 Z4 (i_4 + 1 ≤ 9223372036854775807) >>= fun _ =>
 Zaa c (i_4 + 1)
 else
 some false
 partial_fixpoint
def Zaa.M (c : Int) (i_4 : Nat) (r : Bool) : Prop :=
 AWL Tryz.prog 16 (Code.sub (Zq Tryz.f112) [1, 1, 0, 1, 0, 0]) (Code.cont Tryz.prog 16 (Zq Tryz.f112) [1, 1, 0, 1, 0] (ZbW tab Tryz.f112.results (ZbY (.c none (.v (.bool r))) []))) ⟨[(0, .c none (.v (.int .u8 c))), (3, .c none (.v (.string (ByteArray.mk #[33, 35, 36, 37, 38, 42, 43, 46, 47, 60, 61, 62, 63, 64, 92, 94, 124, 45, 126, 58])))), (4, .c none (.v (.int .i64 ((i_4 : Nat) : Int))))], []⟩
theorem Zj1 (c : Int) (i_4 : Nat) : ∀ r, Zaa c i_4 = some r → Zaa.M c i_4 r := by
 refine Zaa.partial_correctness c (fun i_4 r => Zaa.M c i_4 r) ?_ i_4
 intro lazycref01_Symbolic_l1' ZfY i_4 r hF
 have Zj6 := fun (_c : Int) (i_4 : Nat) => ZfY i_4
 clear ZfY
 unfold Zaa.M
 refine AWL.step ?_
 refine AWP.seq ?_
 refine AWP.seq ?_
 refine ns ?_
 refine nw ?_
 refine Zi hF (fun ZcP hF => ?_) (fun ZcP hF => ?_)
 ·refine nw ?_
  refine AWP.seq ?_
  refine AWP.block ?_
  refine AWP.seq ?_
  obtain ⟨y12, ZGd, ZC1, hF⟩ := ZcX hF
  refine nn ?_
  refine sr ZC1 ?_
  refine st ?_
  refine nw ?_
  refine Zi hF (fun ZbB hF => ?_) (fun ZbB hF => ?_)
  ·refine AWP.seq ?_
   refine ns ?_
   obtain rfl := Zg hF
   refine ns ?_
   refine Exists.intro [] ?_
   refine st ?_
   exact wx (WS.mk (tc Zb) Zc)
  ·refine nw ?_
   obtain ⟨ZGY, hF⟩ := Zy hF
   refine ns ?_
   refine AWL.weak (rn []) ?_ (Zj6 c (i_4 + 1) _ hF)
   exact (WS.mk (tc (tc (Zd (Zr (Zdf (Zdv ZGY))) Zb))) Zc)
 ·refine nw ?_
  refine AWP.seq ?_
  refine ns ?_
  obtain rfl := Zg hF
  refine ns ?_
  refine Exists.intro [] ?_
  refine st ?_
  exact wx (WS.mk (tc Zb) Zc)

def ZcB (c : Int) : Option (Bool) :=
 Zaa c 0
def ZcB.M (c : Int) (r : Bool) : Prop :=
 Zj Tryz.prog 112 [.c none (.v (.int .u8 c))] [] (fun d b => d = .c none (.v (.bool r)) ∧ b = [])
theorem ZlF (c : Int) (r : Bool) (hF : ZcB c = some r) : ZcB.M c r := by
 unfold ZcB at hF
 unfold ZcB.M
 refine en Tryz.func112 ?_
 refine AWP.seq ?_
 refine ns ?_
 refine AWP.seq ?_
 refine ns ?_
 refine AWP.seq ?_
 refine AWP.seq ?_
 refine ns ?_
 refine AWP.block ?_
 refine AWP.loop ?_
 refine AWL.weak (rn []) ?_ (Zj1 c 0 _ hF)
 exact (WS.mk (tc (tc (tc Zb))) Zc)

def ZaN (s : ByteArray) (ZbH : Nat) (i_4 : Nat) : Option (Bool) :=
 if (decide (((i_4 : Nat) : Int) < ((s.size : Nat) : Int))) = true then
 (btI s ((i_4 : Nat) : Int)) >>= fun y68 =>
 ZcB ((y68.toNat : Nat) : Int) >>= fun r69 =>
 if (!r69) = true then
 some false
 else
 (btI s ((i_4 : Nat) : Int)) >>= fun y71 =>
 if (((y71.toNat : Nat) : Int) == 45) = true then
 Z4 (ZbH + 1 ≤ 9223372036854775807) >>= fun _ =>
 Z4 (i_4 + 1 ≤ 9223372036854775807) >>= fun _ =>
 ZaN s (ZbH + 1) (i_4 + 1)
 else
 Z4 (i_4 + 1 ≤ 9223372036854775807) >>= fun _ =>
 ZaN s ZbH (i_4 + 1)
 else
 some ((decide (((ZbH : Nat) : Int) < ((s.size : Nat) : Int))) || (((s.size : Nat) : Int) == 1))
 partial_fixpoint
def ZaN.M (s : ByteArray) (ZbH : Nat) (i_4 : Nat) (r : Bool) : Prop :=
 AWL Tryz.prog 39 (Code.sub (Zq Tryz.f89) [1, 1, 1, 0, 1, 0, 0]) (Code.cont Tryz.prog 39 (Zq Tryz.f89) [1, 1, 1, 0, 1, 0] (ZbW tab Tryz.f89.results (ZbY (.c none (.v (.bool r))) []))) ⟨[(0, .c none (.v (.string s))), (3, .c none (.v (.int .i64 ((ZbH : Nat) : Int)))), (4, .c none (.v (.int .i64 ((i_4 : Nat) : Int))))], []⟩
theorem Zk1 (s : ByteArray) (ZbH : Nat) (i_4 : Nat) : ∀ r, ZaN s ZbH i_4 = some r → ZaN.M s ZbH i_4 r := by
 refine ZaN.partial_correctness s (fun ZbH i_4 r => ZaN.M s ZbH i_4 r) ?_ ZbH i_4
 intro lazycref01_symbol_l1' ZgP ZbH i_4 r hF
 have Zhf := fun (_s : ByteArray) (ZbH : Nat) (i_4 : Nat) => ZgP ZbH i_4
 clear ZgP
 unfold ZaN.M
 refine AWL.step ?_
 refine AWP.seq ?_
 refine AWP.seq ?_
 refine ns ?_
 refine nw ?_
 refine Zi hF (fun ZrI hF => ?_) (fun ZrI hF => ?_)
 ·refine nw ?_
  refine AWP.seq ?_
  refine AWP.block ?_
  refine AWP.seq ?_
  refine AWP.seq ?_
  obtain ⟨y68, hy680, ZHo, hF⟩ := ZcX hF
  obtain ⟨r69, ZDp, hF⟩ := bind_some hF
  refine nn ?_
  refine sr ZHo ?_
  refine st ?_
  refine e3 ?_
  refine st ?_
  refine cm (Zj.weak (rn []) (ZlF ((y68.toNat : Nat) : Int) _ ZDp) rfl (WS.mk (tc Zb) Zc)) ?_
  refine st ?_
  refine nw ?_
  refine Zi hF (fun ZHC hF => ?_) (fun ZHC hF => ?_)
  ·refine AWP.seq ?_
   refine ns ?_
   obtain rfl := Zg hF
   refine ns ?_
   refine Exists.intro [] ?_
   refine st ?_
   exact wx (WS.mk (tc Zb) Zc)
  ·refine nw ?_
   refine AWP.seq ?_
   obtain ⟨y71, hy710, ZHp, hF⟩ := ZcX hF
   refine nn ?_
   refine sr ZHp ?_
   refine st ?_
   refine nw ?_
   refine Zi hF (fun ZIP hF => ?_) (fun ZIP hF => ?_)
   ·obtain ⟨ZIH, hF⟩ := Zy hF
    refine ns ?_
    obtain ⟨ZCM, hF⟩ := Zy hF
    refine ns ?_
    refine AWL.weak (rn []) ?_ (Zhf s (ZbH + 1) (i_4 + 1) _ hF)
    exact (WS.mk (tc (Zd (Zr (Zdf (Zdv ZIH))) (Zd (Zr (Zdf (Zdv ZCM))) Zb))) Zc)
   ·refine nw ?_
    obtain ⟨ZDU, hF⟩ := Zy hF
    refine ns ?_
    refine AWL.weak (rn []) ?_ (Zhf s ZbH (i_4 + 1) _ hF)
    exact (WS.mk (tc (tc (Zd (Zr (Zdf (Zdv ZDU))) Zb))) Zc)
 ·refine nw ?_
  refine AWP.seq ?_
  refine AWP.cutN (fun T => ∃ r, WS r T ⟨[(2, .c none (.v (.bool ((decide (((ZbH : Nat) : Int) < ((s.size : Nat) : Int))) || (((s.size : Nat) : Int) == 1)))))], []⟩) ?_ (fun T hw => ?_)
  ·refine ns ?_
   refine Zm false (fun ZyU => ?_) (fun ZyU => ?_)
   ·(conv => whnf)
    refine st ?_
    exact wx (WS.mk (Zd (Zr (web ZyU)) Zb) Zc)
   ·(conv => whnf)
    refine st ?_
    exact wx (WS.mk (Zd (Zr (web ZyU)) Zb) Zc)
  obtain ⟨r0, hw⟩ := hw
  (conv => whnf)
  refine AWP.weak r0 hw ?_
  obtain rfl := Zg hF
  refine ns ?_
  refine Exists.intro [] ?_
  refine st ?_
  exact wx (WS.mk (tc Zb) Zc)

def Zdd (s : ByteArray) : Option (Bool) :=
 if ((decide (((s.size : Nat) : Int) < 1)) || (decide (((s.size : Nat) : Int) > 64))) = true then
 some false
 else
 ZaN s 0 0
def Zdd.M (s : ByteArray) (r : Bool) : Prop :=
 Zj Tryz.prog 89 [.c none (.v (.string s))] [] (fun d b => d = .c none (.v (.bool r)) ∧ b = [])
theorem ZmA (s : ByteArray) (r : Bool) (hF : Zdd s = some r) : Zdd.M s r := by
 unfold Zdd at hF
 unfold Zdd.M
 refine en Tryz.func89 ?_
 refine AWP.seq ?_
 refine ns ?_
 refine AWP.seq ?_
 refine AWP.seq ?_
 refine AWP.cutN (fun T => ∃ r, WS r T ⟨[(0, .c none (.v (.string s))), (12, .c none (.v (.bool ((decide (((s.size : Nat) : Int) < 1)) || (decide (((s.size : Nat) : Int) > 64))))))], []⟩) ?_ (fun T hw => ?_)
 ·refine ns ?_
  refine Zm false (fun hc2 => ?_) (fun hc2 => ?_)
  ·(conv => whnf)
   refine st ?_
   exact wx (WS.mk (tc (Zd (Zr (web hc2)) Zb)) Zc)
  ·(conv => whnf)
   refine st ?_
   exact wx (WS.mk (tc (Zd (Zr (web hc2)) Zb)) Zc)
 obtain ⟨r0, hw⟩ := hw
 (conv => whnf)
 refine AWP.weak r0 hw ?_
 refine nw ?_
 refine Zi hF (fun hc3 hF => ?_) (fun hc3 hF => ?_)
 ·refine AWP.seq ?_
  refine ns ?_
  obtain rfl := Zg hF
  refine ns ?_
  refine Exists.intro [] ?_
  refine st ?_
  exact wx (WS.mk (tc Zb) Zc)
 ·refine nw ?_
  refine AWP.seq ?_
  refine ns ?_
  refine AWP.seq ?_
  refine AWP.seq ?_
  refine ns ?_
  refine AWP.block ?_
  refine AWP.loop ?_
  refine AWL.weak (rn []) ?_ (Zk1 s 0 0 _ hF)
  exact (WS.mk (tc (tc (tc Zb))) Zc)

def Zcw (c : Int) : Option (Bool) :=
 some ((decide (c ≥ 65)) && (decide (c ≤ 90)))
def Zcw.M (c : Int) (r : Bool) : Prop :=
 Zj Tryz.prog 88 [.c none (.v (.int .u8 c))] [] (fun d b => d = .c none (.v (.bool r)) ∧ b = [])
theorem Zgw (c : Int) (r : Bool) (hF : Zcw c = some r) : Zcw.M c r := by
 unfold Zcw at hF
 unfold Zcw.M
 refine en Tryz.func88 ?_
 refine AWP.seq ?_
 refine ns ?_
 refine AWP.seq ?_
 refine AWP.cutN (fun T => ∃ r, WS r T ⟨[(2, .c none (.v (.bool ((decide (c ≥ 65)) && (decide (c ≤ 90))))))], []⟩) ?_ (fun T hw => ?_)
 ·refine ns ?_
  refine Zm true (fun hc1 => ?_) (fun hc1 => ?_)
  ·(conv => whnf)
   refine st ?_
   exact wx (WS.mk (Zd (Zr (web hc1)) Zb) Zc)
  ·(conv => whnf)
   refine st ?_
   exact wx (WS.mk (Zd (Zr (web hc1)) Zb) Zc)
 obtain ⟨r0, hw⟩ := hw
 (conv => whnf)
 refine AWP.weak r0 hw ?_
 obtain rfl := Zg hF
 refine ns ?_
 refine Exists.intro [] ?_
 refine st ?_
 exact wx (WS.mk (tc Zb) Zc)

def ZcY (c : Int) : Option (Bool) :=
 some (((decide (c ≥ 97)) && (decide (c ≤ 122))) || (c == 95))
def ZcY.M (c : Int) (r : Bool) : Prop :=
 Zj Tryz.prog 111 [.c none (.v (.int .u8 c))] [] (fun d b => d = .c none (.v (.bool r)) ∧ b = [])
theorem Zi0 (c : Int) (r : Bool) (hF : ZcY c = some r) : ZcY.M c r := by
 unfold ZcY at hF
 unfold ZcY.M
 refine en Tryz.func111 ?_
 refine AWP.seq ?_
 refine ns ?_
 refine AWP.seq ?_
 refine AWP.cutN (fun T => ∃ r, WS r T ⟨[(2, .c none (.v (.bool (((decide (c ≥ 97)) && (decide (c ≤ 122))) || (c == 95)))))], []⟩) ?_ (fun T hw => ?_)
 ·refine ns ?_
  refine Zm true (fun hc1 => ?_) (fun hc1 => ?_)
  ·(conv => whnf)
   refine st ?_
   refine Zm false (fun hc2 => ?_) (fun hc2 => ?_)
   ·(conv => whnf)
    refine st ?_
    exact wx (WS.mk (Zd (Zr (web (And.intro hc1 hc2))) Zb) Zc)
   ·(conv => whnf)
    refine st ?_
    exact wx (WS.mk (Zd (Zr (web (And.intro hc1 hc2))) Zb) Zc)
  ·(conv => whnf)
   refine st ?_
   exact wx (WS.mk (Zd (Zr (web hc1)) Zb) Zc)
 obtain ⟨r0, hw⟩ := hw
 (conv => whnf)
 refine AWP.weak r0 hw ?_
 obtain rfl := Zg hF
 refine ns ?_
 refine Exists.intro [] ?_
 refine st ?_
 exact wx (WS.mk (tc Zb) Zc)

def ZcZ (c : Int) : Option (Bool) :=
 some ((decide (c ≥ 48)) && (decide (c ≤ 57)))
def ZcZ.M (c : Int) (r : Bool) : Prop :=
 Zj Tryz.prog 110 [.c none (.v (.int .u8 c))] [] (fun d b => d = .c none (.v (.bool r)) ∧ b = [])
theorem ZiU (c : Int) (r : Bool) (hF : ZcZ c = some r) : ZcZ.M c r := by
 unfold ZcZ at hF
 unfold ZcZ.M
 refine en Tryz.func110 ?_
 refine AWP.seq ?_
 refine ns ?_
 refine AWP.seq ?_
 refine AWP.cutN (fun T => ∃ r, WS r T ⟨[(2, .c none (.v (.bool ((decide (c ≥ 48)) && (decide (c ≤ 57))))))], []⟩) ?_ (fun T hw => ?_)
 ·refine ns ?_
  refine Zm true (fun hc1 => ?_) (fun hc1 => ?_)
  ·(conv => whnf)
   refine st ?_
   exact wx (WS.mk (Zd (Zr (web hc1)) Zb) Zc)
  ·(conv => whnf)
   refine st ?_
   exact wx (WS.mk (Zd (Zr (web hc1)) Zb) Zc)
 obtain ⟨r0, hw⟩ := hw
 (conv => whnf)
 refine AWP.weak r0 hw ?_
 obtain rfl := Zg hF
 refine ns ?_
 refine Exists.intro [] ?_
 refine st ?_
 exact wx (WS.mk (tc Zb) Zc)

def ZbF (s : ByteArray) (i_3 : Nat) : Option (Bool) :=
 if (decide (((i_3 : Nat) : Int) < ((s.size : Nat) : Int))) = true then
 (btI s ((i_3 : Nat) : Int)) >>= fun y47 =>
 ZcY ((y47.toNat : Nat) : Int) >>= fun r48 =>
 (if (!r48) = true then (btI s ((i_3 : Nat) : Int)) >>= fun y49 =>
 Zcw ((y49.toNat : Nat) : Int) >>= fun r50 =>
 some (!r50) else some false) >>= fun c51 =>
 (if c51 = true then (btI s ((i_3 : Nat) : Int)) >>= fun y52 =>
 ZcZ ((y52.toNat : Nat) : Int) >>= fun r53 =>
 some (!r53) else some false) >>= fun c54 =>
 (if c54 = true then (btI s ((i_3 : Nat) : Int)) >>= fun y55 =>
 some (((y55.toNat : Nat) : Int) != 39) else some false) >>= fun c56 =>
 if c56 = true then
 some false
 else
 Z4 (i_3 + 1 ≤ 9223372036854775807) >>= fun _ =>
 ZbF s (i_3 + 1)
 else
 some true
 partial_fixpoint
def ZbF.M (s : ByteArray) (i_3 : Nat) (r : Bool) : Prop :=
 AWL Tryz.prog 55 (Code.sub (Zq Tryz.f86) [1, 1, 0, 1, 0, 0]) (Code.cont Tryz.prog 55 (Zq Tryz.f86) [1, 1, 0, 1, 0] (ZbW tab Tryz.f86.results (ZbY (.c none (.v (.bool r))) []))) ⟨[(0, .c none (.v (.string s))), (3, .c none (.v (.int .i64 ((i_3 : Nat) : Int))))], []⟩
theorem Zmh (s : ByteArray) (i_3 : Nat) : ∀ r, ZbF s i_3 = some r → ZbF.M s i_3 r := by
 refine ZbF.partial_correctness s (fun i_3 r => ZbF.M s i_3 r) ?_ i_3
 intro lazycref01_word_l1' Zho i_3 r hF
 have Zmn := fun (_s : ByteArray) (i_3 : Nat) => Zho i_3
 clear Zho
 unfold ZbF.M
 refine AWL.step ?_
 refine AWP.seq ?_
 refine AWP.seq ?_
 refine ns ?_
 refine nw ?_
 refine Zi hF (fun ZHm hF => ?_) (fun ZHm hF => ?_)
 ·refine nw ?_
  refine AWP.seq ?_
  refine AWP.block ?_
  refine AWP.seq ?_
  obtain ⟨y47, hy470, ZIo, hF⟩ := ZcX hF
  obtain ⟨r48, ZG7, hF⟩ := bind_some hF
  obtain ⟨c51, Zpr, hF⟩ := bind_some hF
  obtain ⟨c54, ZiH, hF⟩ := bind_some hF
  obtain ⟨c56, ZkZ, hF⟩ := bind_some hF
  refine AWP.cutN (fun T => ∃ r, WS r T ⟨[(0, .c none (.v (.string s))), (3, .c none (.v (.int .i64 ((i_3 : Nat) : Int)))), (54, .c none (.v (.bool c56)))], []⟩) ?_ (fun T hw => ?_)
  ·refine nn ?_
   refine sr ZIo ?_
   refine st ?_
   refine e3 ?_
   refine st ?_
   refine cm (Zj.weak (rn []) (Zi0 ((y47.toNat : Nat) : Int) _ ZG7) rfl (WS.mk (tc Zb) Zc)) ?_
   refine st ?_
   refine Zm true (fun Zig => ?_) (fun Zig => ?_)
   ·have Zpr := ift Zig Zpr
    obtain ⟨y49, hy490, ZHs, Zpr⟩ := ZcX Zpr
    obtain ⟨r50, ZIk, Zpr⟩ := bind_some Zpr
    (conv => whnf)
    refine sr ZHs ?_
    refine st ?_
    refine e3 ?_
    refine st ?_
    refine cm (Zj.weak (rn []) (Zgw ((y49.toNat : Nat) : Int) _ ZIk) rfl (WS.mk (tc Zb) Zc)) ?_
    refine st ?_
    obtain rfl := Zg Zpr
    refine st ?_
    refine Zm true (fun Zm4 => ?_) (fun Zm4 => ?_)
    ·have ZiH := ift (And.intro Zig Zm4) ZiH
     obtain ⟨y52, hy520, ZG0, ZiH⟩ := ZcX ZiH
     obtain ⟨r53, Zzu, ZiH⟩ := bind_some ZiH
     (conv => whnf)
     refine sr ZG0 ?_
     refine st ?_
     refine e3 ?_
     refine st ?_
     refine cm (Zj.weak (rn []) (ZiU ((y52.toNat : Nat) : Int) _ Zzu) rfl (WS.mk (tc Zb) Zc)) ?_
     refine st ?_
     obtain rfl := Zg ZiH
     refine st ?_
     refine Zm true (fun Zwe => ?_) (fun Zwe => ?_)
     ·have ZkZ := ift (And.intro Zig (And.intro Zm4 Zwe)) ZkZ
      obtain ⟨y55, hy550, ZIg, ZkZ⟩ := ZcX ZkZ
      (conv => whnf)
      refine sr ZIg ?_
      obtain rfl := Zg ZkZ
      refine st ?_
      exact wx (WS.mk (tc (tc (Zd (Zr (web (And.intro Zig (And.intro Zm4 Zwe)))) Zb))) Zc)
     ·have ZkZ := ife (And.intro Zig (And.intro Zm4 Zwe)) ZkZ
      (conv => whnf)
      obtain rfl := Zg ZkZ
      refine st ?_
      exact wx (WS.mk (tc (tc (Zd (Zr (web (And.intro Zig (And.intro Zm4 Zwe)))) Zb))) Zc)
    ·have ZiH := ife (And.intro Zig Zm4) ZiH
     (conv => whnf)
     obtain rfl := Zg ZiH
     have ZkZ := ife (And.intro Zig Zm4) ZkZ
     obtain rfl := Zg ZkZ
     refine st ?_
     exact wx (WS.mk (tc (tc (Zd (Zr (web (And.intro Zig Zm4))) Zb))) Zc)
   ·have Zpr := ife Zig Zpr
    (conv => whnf)
    obtain rfl := Zg Zpr
    have ZiH := ife Zig ZiH
    obtain rfl := Zg ZiH
    have ZkZ := ife Zig ZkZ
    obtain rfl := Zg ZkZ
    refine st ?_
    exact wx (WS.mk (tc (tc (Zd (Zr (web Zig)) Zb))) Zc)
  obtain ⟨r0, hw⟩ := hw
  (conv => whnf)
  refine AWP.weak r0 hw ?_
  refine nw ?_
  refine Zi hF (fun ZIp hF => ?_) (fun ZIp hF => ?_)
  ·refine AWP.seq ?_
   refine ns ?_
   obtain rfl := Zg hF
   refine ns ?_
   refine Exists.intro [] ?_
   refine st ?_
   exact wx (WS.mk (tc Zb) Zc)
  ·refine nw ?_
   obtain ⟨ZGQ, hF⟩ := Zy hF
   refine ns ?_
   refine AWL.weak (rn []) ?_ (Zmn s (i_3 + 1) _ hF)
   exact (WS.mk (tc (Zd (Zr (Zdf (Zdv ZGQ))) Zb)) Zc)
 ·refine nw ?_
  refine AWP.seq ?_
  refine ns ?_
  obtain rfl := Zg hF
  refine ns ?_
  refine Exists.intro [] ?_
  refine st ?_
  exact wx (WS.mk (tc Zb) Zc)

def ZdK (s : ByteArray) : Option (Bool) :=
 (if ((decide (((s.size : Nat) : Int) < 1)) || (decide (((s.size : Nat) : Int) > 64))) = true then some true else (btI s 0) >>= fun y8 =>
 ZcY ((y8.toNat : Nat) : Int) >>= fun r9 =>
 (if (!r9) = true then (btI s 0) >>= fun y10 =>
 Zcw ((y10.toNat : Nat) : Int) >>= fun r11 =>
 some (!r11) else some false) >>= fun c12 =>
 some c12) >>= fun c13 =>
 if c13 = true then
 some false
 else
 ZbF s 0
def ZdK.M (s : ByteArray) (r : Bool) : Prop :=
 Zj Tryz.prog 86 [.c none (.v (.string s))] [] (fun d b => d = .c none (.v (.bool r)) ∧ b = [])
theorem ZnZ (s : ByteArray) (r : Bool) (hF : ZdK s = some r) : ZdK.M s r := by
 unfold ZdK at hF
 unfold ZdK.M
 refine en Tryz.func86 ?_
 refine AWP.seq ?_
 refine ns ?_
 refine AWP.seq ?_
 refine AWP.seq ?_
 obtain ⟨c13, ZbB, hF⟩ := bind_some hF
 refine AWP.cutN (fun T => ∃ r, WS r T ⟨[(0, .c none (.v (.string s))), (23, .c none (.v (.bool c13)))], []⟩) ?_ (fun T hw => ?_)
 ·refine ns ?_
  refine Zm false (fun Zdk => ?_) (fun Zdk => ?_)
  ·(conv => whnf)
   have ZbB := ift Zdk ZbB
   obtain rfl := Zg ZbB
   refine st ?_
   exact wx (WS.mk (tc (Zd (Zr (web Zdk)) Zb)) Zc)
  ·(conv => whnf)
   refine st ?_
   refine Zm false (fun Zfg => ?_) (fun Zfg => ?_)
   ·have ZbB := ift (And.intro Zdk Zfg) ZbB
    (conv => whnf)
    obtain rfl := Zg ZbB
    refine st ?_
    exact wx (WS.mk (tc (Zd (Zr (web (And.intro Zdk Zfg))) Zb)) Zc)
   ·have ZbB := ife (And.intro Zdk Zfg) ZbB
    obtain ⟨y8, hy80, hy8, ZbB⟩ := ZcX ZbB
    obtain ⟨r9, hr9, ZbB⟩ := bind_some ZbB
    obtain ⟨c12, ZcJ, ZbB⟩ := bind_some ZbB
    (conv => whnf)
    refine sr hy8 ?_
    refine st ?_
    refine e3 ?_
    refine st ?_
    refine cm (Zj.weak (rn []) (Zi0 ((y8.toNat : Nat) : Int) _ hr9) rfl (WS.mk (tc Zb) Zc)) ?_
    refine st ?_
    refine Zm true (fun Zgv => ?_) (fun Zgv => ?_)
    ·have ZcJ := ift (And.intro Zdk (And.intro Zfg Zgv)) ZcJ
     obtain ⟨y10, ZEF, ZDX, ZcJ⟩ := ZcX ZcJ
     obtain ⟨r11, Zvt, ZcJ⟩ := bind_some ZcJ
     (conv => whnf)
     refine sr ZDX ?_
     refine st ?_
     refine e3 ?_
     refine st ?_
     refine cm (Zj.weak (rn []) (Zgw ((y10.toNat : Nat) : Int) _ Zvt) rfl (WS.mk (tc Zb) Zc)) ?_
     refine st ?_
     obtain rfl := Zg ZcJ
     obtain rfl := Zg ZbB
     refine st ?_
     exact wx (WS.mk (tc (Zd (Zr (web (And.intro Zdk (And.intro Zfg Zgv)))) Zb)) Zc)
    ·have ZcJ := ife (And.intro Zdk (And.intro Zfg Zgv)) ZcJ
     (conv => whnf)
     obtain rfl := Zg ZcJ
     obtain rfl := Zg ZbB
     refine st ?_
     exact wx (WS.mk (tc (Zd (Zr (web (And.intro Zdk (And.intro Zfg Zgv)))) Zb)) Zc)
 obtain ⟨r0, hw⟩ := hw
 (conv => whnf)
 refine AWP.weak r0 hw ?_
 refine nw ?_
 refine Zi hF (fun ZiP hF => ?_) (fun ZiP hF => ?_)
 ·refine AWP.seq ?_
  refine ns ?_
  obtain rfl := Zg hF
  refine ns ?_
  refine Exists.intro [] ?_
  refine st ?_
  exact wx (WS.mk (tc Zb) Zc)
 ·refine nw ?_
  refine AWP.seq ?_
  refine AWP.seq ?_
  refine ns ?_
  refine AWP.block ?_
  refine AWP.loop ?_
  refine AWL.weak (rn []) ?_ (Zmh s 0 _ hF)
  exact (WS.mk (tc (tc Zb)) Zc)

def Zbu (s : ByteArray) : Option (Int) :=
 ZdK s >>= fun r10 =>
 if r10 = true then
 Zcz s >>= fun r14 =>
 if r14 = true then
 some 5
 else
 (btI s 0) >>= fun y16 =>
 Zcw ((y16.toNat : Nat) : Int) >>= fun r17 =>
 if r17 = true then
 some 2
 else
 some 1
 else
 Zdd s >>= fun r19 =>
 if r19 = true then
 Zba s >>= fun r23 =>
 if r23 = true then
 some 6
 else
 (btI s 0) >>= fun y25 =>
 if (((y25.toNat : Nat) : Int) == 58) = true then
 some 4
 else
 some 3
 else
 some 0
def Zbu.M (s : ByteArray) (r : Int) : Prop :=
 Zj Tryz.prog 59 [.c none (.v (.string s))] [] (fun d b => d = .c none (.v (.int .i64 r)) ∧ b = [])
theorem Zd1 (s : ByteArray) (r : Int) (hF : Zbu s = some r) : Zbu.M s r := by
 unfold Zbu at hF
 unfold Zbu.M
 refine en Tryz.func59 ?_
 refine AWP.seq ?_
 refine ns ?_
 refine AWP.seq ?_
 refine AWP.seq ?_
 obtain ⟨r10, ZAs, hF⟩ := bind_some hF
 refine ns ?_
 refine e3 ?_
 refine st ?_
 refine cm (Zj.weak (rn []) (ZnZ s _ ZAs) rfl (WS.mk (tc Zb) Zc)) ?_
 refine st ?_
 refine nw ?_
 refine Zi hF (fun ZcP hF => ?_) (fun ZcP hF => ?_)
 ·refine AWP.seq ?_
  refine AWP.seq ?_
  obtain ⟨r14, ZrV, hF⟩ := bind_some hF
  refine ns ?_
  refine e3 ?_
  refine st ?_
  refine cm (Zj.weak (rn []) (Zls s _ ZrV) rfl (WS.mk (tc Zb) Zc)) ?_
  refine st ?_
  refine nw ?_
  refine Zi hF (fun Zfg hF => ?_) (fun Zfg hF => ?_)
  ·refine AWP.seq ?_
   refine ns ?_
   obtain rfl := Zg hF
   refine ns ?_
   refine Exists.intro [] ?_
   refine st ?_
   exact wx (WS.mk (tc Zb) Zc)
  ·refine nw ?_
   refine AWP.seq ?_
   refine AWP.seq ?_
   obtain ⟨y16, hy160, ZIu, hF⟩ := ZcX hF
   obtain ⟨r17, ZIB, hF⟩ := bind_some hF
   refine nn ?_
   refine sr ZIu ?_
   refine st ?_
   refine e3 ?_
   refine st ?_
   refine cm (Zj.weak (rn []) (Zgw ((y16.toNat : Nat) : Int) _ ZIB) rfl (WS.mk (tc Zb) Zc)) ?_
   refine st ?_
   refine nw ?_
   refine Zi hF (fun Zt7 hF => ?_) (fun Zt7 hF => ?_)
   ·refine AWP.seq ?_
    refine ns ?_
    obtain rfl := Zg hF
    refine ns ?_
    refine Exists.intro [] ?_
    refine st ?_
    exact wx (WS.mk (tc Zb) Zc)
   ·refine nw ?_
    refine AWP.seq ?_
    refine ns ?_
    obtain rfl := Zg hF
    refine ns ?_
    refine Exists.intro [] ?_
    refine st ?_
    exact wx (WS.mk (tc Zb) Zc)
 ·refine nw ?_
  refine AWP.seq ?_
  refine AWP.seq ?_
  obtain ⟨r19, Ztt, hF⟩ := bind_some hF
  refine ns ?_
  refine e3 ?_
  refine st ?_
  refine cm (Zj.weak (rn []) (ZmA s _ Ztt) rfl (WS.mk (tc Zb) Zc)) ?_
  refine st ?_
  refine nw ?_
  refine Zi hF (fun ZDJ hF => ?_) (fun ZDJ hF => ?_)
  ·refine AWP.seq ?_
   refine AWP.seq ?_
   obtain ⟨r23, ZAa, hF⟩ := bind_some hF
   refine ns ?_
   refine e3 ?_
   refine st ?_
   refine cm (Zj.weak (rn []) (ZiR s _ ZAa) rfl (WS.mk (tc Zb) Zc)) ?_
   refine st ?_
   refine nw ?_
   refine Zi hF (fun Zzf hF => ?_) (fun Zzf hF => ?_)
   ·refine AWP.seq ?_
    refine ns ?_
    obtain rfl := Zg hF
    refine ns ?_
    refine Exists.intro [] ?_
    refine st ?_
    exact wx (WS.mk (tc Zb) Zc)
   ·refine nw ?_
    refine AWP.seq ?_
    refine AWP.seq ?_
    obtain ⟨y25, hy250, ZGX, hF⟩ := ZcX hF
    refine nn ?_
    refine sr ZGX ?_
    refine st ?_
    refine nw ?_
    refine Zi hF (fun ZlI hF => ?_) (fun ZlI hF => ?_)
    ·refine AWP.seq ?_
     refine ns ?_
     obtain rfl := Zg hF
     refine ns ?_
     refine Exists.intro [] ?_
     refine st ?_
     exact wx (WS.mk (tc Zb) Zc)
    ·refine nw ?_
     refine AWP.seq ?_
     refine ns ?_
     obtain rfl := Zg hF
     refine ns ?_
     refine Exists.intro [] ?_
     refine st ?_
     exact wx (WS.mk (tc Zb) Zc)
  ·refine nw ?_
   refine AWP.seq ?_
   refine ns ?_
   obtain rfl := Zg hF
   refine ns ?_
   refine Exists.intro [] ?_
   refine st ?_
   exact wx (WS.mk (tc Zb) Zc)

def Zc0 (s : ByteArray) : Option (Bool) :=
 Zbu s >>= fun r1 =>
 some ((((r1 == 1) || (r1 == 2)) || (r1 == 3)) || (r1 == 4))
def Zc0.M (s : ByteArray) (r : Bool) : Prop :=
 Zj Tryz.prog 109 [.c none (.v (.string s))] [] (fun d b => d = .c none (.v (.bool r)) ∧ b = [])
theorem Zi5 (s : ByteArray) (r : Bool) (hF : Zc0 s = some r) : Zc0.M s r := by
 unfold Zc0 at hF
 unfold Zc0.M
 refine en Tryz.func109 ?_
 refine AWP.seq ?_
 refine ns ?_
 refine AWP.seq ?_
 obtain ⟨r1, hr1, hF⟩ := bind_some hF
 refine ns ?_
 refine e3 ?_
 refine st ?_
 refine cm (Zj.weak (rn []) (Zd1 s _ hr1) rfl (WS.mk (tc Zb) Zc)) ?_
 refine st ?_
 refine AWP.seq ?_
 refine AWP.cutN (fun T => ∃ r, WS r T ⟨[(2, .c none (.v (.bool ((((r1 == 1) || (r1 == 2)) || (r1 == 3)) || (r1 == 4)))))], []⟩) ?_ (fun T hw => ?_)
 ·refine ns ?_
  refine Zm false (fun hc2 => ?_) (fun hc2 => ?_)
  ·(conv => whnf)
   refine st ?_
   exact wx (WS.mk (Zd (Zr (web hc2)) Zb) Zc)
  ·(conv => whnf)
   refine st ?_
   refine Zm false (fun hc3 => ?_) (fun hc3 => ?_)
   ·(conv => whnf)
    refine st ?_
    exact wx (WS.mk (Zd (Zr (web (And.intro hc2 hc3))) Zb) Zc)
   ·(conv => whnf)
    refine st ?_
    refine Zm false (fun hc4 => ?_) (fun hc4 => ?_)
    ·(conv => whnf)
     refine st ?_
     exact wx (WS.mk (Zd (Zr (web (And.intro hc2 (And.intro hc3 hc4)))) Zb) Zc)
    ·(conv => whnf)
     refine st ?_
     exact wx (WS.mk (Zd (Zr (web (And.intro hc2 (And.intro hc3 hc4)))) Zb) Zc)
 obtain ⟨r0, hw⟩ := hw
 (conv => whnf)
 refine AWP.weak r0 hw ?_
 obtain rfl := Zg hF
 refine ns ?_
 refine Exists.intro [] ?_
 refine st ?_
 exact wx (WS.mk (tc Zb) Zc)

def ZdL (module : ByteArray) (name_ : ByteArray) : Option (ByteArray) :=
 Zbu module >>= fun r5 =>
 (if (r5 != 2) = true then some true else Zc0 name_ >>= fun r6 =>
 some (!r6)) >>= fun c7 =>
 if c7 = true then
 some (ByteArray.mk #[])
 else
 Z4 (((module.size + (ByteArray.mk #[46]).size : Nat) : Int) ≤ IntKind.i64.max) >>= fun _ =>
 Z4 ((((module ++ (ByteArray.mk #[46])).size + name_.size : Nat) : Int) ≤ IntKind.i64.max) >>= fun _ =>
 some ((module ++ (ByteArray.mk #[46])) ++ name_)
def ZdL.M (module : ByteArray) (name_ : ByteArray) (r : ByteArray) : Prop :=
 Zj Tryz.prog 129 [.c none (.v (.string module)), .c none (.v (.string name_))] [] (fun d b => d = .c none (.v (.string r)) ∧ b = [])
theorem Zoi (module : ByteArray) (name_ : ByteArray) (r : ByteArray) (hF : ZdL module name_ = some r) : ZdL.M module name_ r := by
 unfold ZdL at hF
 unfold ZdL.M
 refine en Tryz.func129 ?_
 refine AWP.seq ?_
 refine ns ?_
 refine AWP.seq ?_
 refine AWP.seq ?_
 obtain ⟨r5, hr5, hF⟩ := bind_some hF
 obtain ⟨c7, hc7, hF⟩ := bind_some hF
 refine AWP.cutN (fun T => ∃ r, WS r T ⟨[(0, .c none (.v (.string module))), (1, .c none (.v (.string name_))), (12, .c none (.v (.bool c7)))], []⟩) ?_ (fun T hw => ?_)
 ·refine ns ?_
  refine e3 ?_
  refine st ?_
  refine cm (Zj.weak (rn []) (Zd1 module _ hr5) rfl (WS.mk (tc Zb) Zc)) ?_
  refine st ?_
  refine Zm false (fun hc8 => ?_) (fun hc8 => ?_)
  ·have hc7 := ift hc8 hc7
   (conv => whnf)
   obtain rfl := Zg hc7
   refine st ?_
   exact wx (WS.mk (tc (tc (Zd (Zr (web hc8)) Zb))) Zc)
  ·have hc7 := ife hc8 hc7
   obtain ⟨r6, hr6, hc7⟩ := bind_some hc7
   (conv => whnf)
   refine st ?_
   refine e3 ?_
   refine st ?_
   refine cm (Zj.weak (rn []) (Zi5 name_ _ hr6) rfl (WS.mk (tc Zb) Zc)) ?_
   refine st ?_
   obtain rfl := Zg hc7
   refine st ?_
   exact wx (WS.mk (tc (tc (Zd (Zr (web hc8)) Zb))) Zc)
 obtain ⟨r0, hw⟩ := hw
 (conv => whnf)
 refine AWP.weak r0 hw ?_
 refine nw ?_
 refine Zi hF (fun hc9 hF => ?_) (fun hc9 hF => ?_)
 ·refine AWP.seq ?_
  refine ns ?_
  obtain rfl := Zg hF
  refine ns ?_
  refine Exists.intro [] ?_
  refine st ?_
  exact wx (WS.mk (tc Zb) Zc)
 ·refine nw ?_
  refine AWP.seq ?_
  obtain ⟨ZzF, hF⟩ := Zy hF
  obtain ⟨ZDi, hF⟩ := Zy hF
  refine ns ?_
  refine And.intro ZzF ?_
  refine st ?_
  refine And.intro ZDi ?_
  refine st ?_
  obtain rfl := Zg hF
  refine ns ?_
  refine Exists.intro [] ?_
  refine st ?_
  exact wx (WS.mk (tc Zb) Zc)

def Zbg (s : ByteArray) (i_5 : Nat) : Option (ByteArray × ByteArray × Bool) :=
 if (decide (((i_5 : Nat) : Int) < ((s.size : Nat) : Int))) = true then
 (btI s ((i_5 : Nat) : Int)) >>= fun y60 =>
 if (((y60.toNat : Nat) : Int) != 46) = true then
 Z4 (i_5 + 1 ≤ 9223372036854775807) >>= fun _ =>
 Zbg s (i_5 + 1)
 else
 (slS s ((0 : Nat) : Int) ((i_5 : Nat) : Int)) >>= fun z76 =>
 Z4 (i_5 + 1 ≤ 9223372036854775807) >>= fun _ =>
 (slS s (IntKind.i64.wrap (((i_5 : Nat) : Int) + 1)) ((s.size : Nat) : Int)) >>= fun z78 =>
 ZdL z76 z78 >>= fun r79 =>
 if (r79.toList == (ByteArray.mk #[]).toList) = true then
 some ((ByteArray.mk #[]), (ByteArray.mk #[]), false)
 else
 (slS s ((0 : Nat) : Int) ((i_5 : Nat) : Int)) >>= fun z84 =>
 Z4 (i_5 + 1 ≤ 9223372036854775807) >>= fun _ =>
 (slS s (IntKind.i64.wrap (((i_5 : Nat) : Int) + 1)) ((s.size : Nat) : Int)) >>= fun z86 =>
 some (z84, z86, true)
 else
 some ((ByteArray.mk #[]), (ByteArray.mk #[]), false)
 partial_fixpoint
def Zbg.M (s : ByteArray) (i_5 : Nat) (r : ByteArray × ByteArray × Bool) : Prop :=
 AWL Tryz.prog 32 (Code.sub (Zq Tryz.f108) [1, 0, 1, 0, 0]) (Code.cont Tryz.prog 32 (Zq Tryz.f108) [1, 0, 1, 0] (ZbW tab Tryz.f108.results (ZbY (.tup [.c (.v (.string r.1)), .c (.v (.string r.2.1)), .c (.v (.bool r.2.2))]) []))) ⟨[(0, .c none (.v (.string s))), (5, .c none (.v (.int .i64 ((i_5 : Nat) : Int))))], []⟩
theorem ZlQ (s : ByteArray) (i_5 : Nat) : ∀ r, Zbg s i_5 = some r → Zbg.M s i_5 r := by
 refine Zbg.partial_correctness s (fun i_5 r => Zbg.M s i_5 r) ?_ i_5
 intro lazycref01_Split_l1' Zg9 i_5 r hF
 have Zli := fun (_s : ByteArray) (i_5 : Nat) => Zg9 i_5
 clear Zg9
 unfold Zbg.M
 refine AWL.step ?_
 refine AWP.seq ?_
 refine AWP.seq ?_
 refine ns ?_
 refine nw ?_
 refine Zi hF (fun Zig hF => ?_) (fun Zig hF => ?_)
 ·refine nw ?_
  refine AWP.seq ?_
  refine AWP.block ?_
  refine AWP.seq ?_
  refine AWP.seq ?_
  obtain ⟨y60, hy600, ZHI, hF⟩ := ZcX hF
  refine nn ?_
  refine sr ZHI ?_
  refine st ?_
  refine nw ?_
  refine Zi hF (fun ZHE hF => ?_) (fun ZHE hF => ?_)
  ·refine nw ?_
   obtain ⟨ZHx, hF⟩ := Zy hF
   refine ns ?_
   refine AWL.weak (rn []) ?_ (Zli s (i_5 + 1) _ hF)
   exact (WS.mk (tc (Zd (Zr (Zdf (Zdv ZHx))) Zb)) Zc)
  ·refine nw ?_
   refine AWP.seq ?_
   refine AWP.seq ?_
   obtain ⟨z76, ZEz, ZFD, ZFb, ZHk, hF⟩ := ZfT hF
   obtain ⟨hg77, hF⟩ := Zy hF
   obtain ⟨z78, ZGo, ZFA, ZGh, ZG8, hF⟩ := ZfT hF
   obtain ⟨r79, ZEl, hF⟩ := bind_some hF
   refine nn ?_
   refine Or.inl (Exists.intro 7 (Exists.intro [[], [], [], [], [], [], []] (Exists.intro [([16, 17, 18, 19, 20, 21, 22], [], []), ([16, 17, 18, 19, 20, 21, 22], [], []), ([18, 19, 20, 21, 22], [], []), ([16, 17, 18, 19, 20, 21, 22], [], []), ([16, 17, 18, 19, 20, 21, 22], [], []), ([16, 17, 18, 19, 21, 22], [], []), ([16, 17, 18, 22], [], [])] (Exists.intro [16, 17, 18, 19, 20, 21, 22] (And.intro (by decide +kernel) ?_)))))
   refine dp ?_
   refine dp ?_
   (refine st ?_; apply Exists.intro; apply Exists.intro; apply And.intro; (focus ((repeat (first | (rw [← ZHk]) | ((conv => whnf); (with_reducible refine And.intro ?_ ?_); (focus (first | exact Eq.refl _ | exact trivial | (with_reducible assumption) | (with_reducible exact Int.natCast_nonneg _) | exact Nat.le_of_ble_eq_true (Eq.refl true) | exact Zd8 (Eq.refl _) (Eq.refl _) (Eq.refl _) | decide))) | ((with_reducible refine And.intro ?_ ?_); (focus (first | exact ZEz | exact ZFD | exact ZFb))))) <;> (exact rfl))); apply And.intro; (focus exact rfl); (conv => whnf))
   refine dp ?_
   refine dp ?_
   refine dp ?_
   (refine st ?_; apply Exists.intro; apply Exists.intro; apply And.intro; (focus ((repeat (first | (rw [← ZG8]) | ((conv => whnf); (with_reducible refine And.intro ?_ ?_); (focus (first | exact Eq.refl _ | exact trivial | (with_reducible assumption) | (with_reducible exact Int.natCast_nonneg _) | exact Nat.le_of_ble_eq_true (Eq.refl true) | exact Zd8 (Eq.refl _) (Eq.refl _) (Eq.refl _) | decide))) | ((with_reducible refine And.intro ?_ ?_); (focus (first | exact ZGo | exact ZFA | exact ZGh))))) <;> (exact rfl))); apply And.intro; (focus exact rfl); (conv => whnf))
   refine st ?_
   refine e3 ?_
   refine st ?_
   refine cm (Zj.weak (rn []) (Zoi z76 z78 _ ZEl) rfl (WS.mk (tc (tc Zb)) Zc)) ?_
   refine st ?_
   refine nw ?_
   refine Zi hF (fun Zr8 hF => ?_) (fun Zr8 hF => ?_)
   ·refine AWP.seq ?_
    refine ns ?_
    obtain rfl := Zg hF
    refine ns ?_
    refine Exists.intro [] ?_
    refine st ?_
    exact wx (WS.mk (Zd (Zc9 (ZcG (WE.refl _) (ZcG (WE.refl _) (ZcG (WE.refl _) Zda)))) Zb) Zc)
   ·refine nw ?_
    refine AWP.seq ?_
    obtain ⟨z84, ZGq, ZEK, ZFW, ZHf, hF⟩ := ZfT hF
    obtain ⟨hg85, hF⟩ := Zy hF
    obtain ⟨z86, ZFo, ZFv, ZEu, ZIm, hF⟩ := ZfT hF
    refine nn ?_
    refine Or.inl (Exists.intro 8 (Exists.intro [[], [], [], [], [], [], [], []] (Exists.intro [([25, 26, 27, 28, 29, 30, 31, 2], [], []), ([25, 26, 27, 28, 29, 30, 31, 2], [], []), ([27, 28, 29, 30, 31, 2], [], []), ([25, 26, 27, 28, 29, 30, 31, 2], [], []), ([25, 26, 27, 28, 29, 30, 31, 2], [], []), ([25, 26, 27, 28, 30, 31, 2], [], []), ([25, 26, 27, 31, 2], [], []), ([28, 29, 30, 31, 2], [], [])] (Exists.intro [25, 26, 27, 28, 29, 30, 31, 2] (And.intro (by decide +kernel) ?_)))))
    refine dp ?_
    refine dp ?_
    (refine st ?_; apply Exists.intro; apply Exists.intro; apply And.intro; (focus ((repeat (first | (rw [← ZHf]) | ((conv => whnf); (with_reducible refine And.intro ?_ ?_); (focus (first | exact Eq.refl _ | exact trivial | (with_reducible assumption) | (with_reducible exact Int.natCast_nonneg _) | exact Nat.le_of_ble_eq_true (Eq.refl true) | exact Zd8 (Eq.refl _) (Eq.refl _) (Eq.refl _) | decide))) | ((with_reducible refine And.intro ?_ ?_); (focus (first | exact ZGq | exact ZEK | exact ZFW))))) <;> (exact rfl))); apply And.intro; (focus exact rfl); (conv => whnf))
    refine dp ?_
    refine dp ?_
    refine dp ?_
    (refine st ?_; apply Exists.intro; apply Exists.intro; apply And.intro; (focus ((repeat (first | (rw [← ZIm]) | ((conv => whnf); (with_reducible refine And.intro ?_ ?_); (focus (first | exact Eq.refl _ | exact trivial | (with_reducible assumption) | (with_reducible exact Int.natCast_nonneg _) | exact Nat.le_of_ble_eq_true (Eq.refl true) | exact Zd8 (Eq.refl _) (Eq.refl _) (Eq.refl _) | decide))) | ((with_reducible refine And.intro ?_ ?_); (focus (first | exact ZFo | exact ZFv | exact ZEu))))) <;> (exact rfl))); apply And.intro; (focus exact rfl); (conv => whnf))
    refine dp ?_
    refine st ?_
    obtain rfl := Zg hF
    refine ns ?_
    refine Exists.intro [] ?_
    refine st ?_
    exact wx (WS.mk (Zd (Zc9 (ZcG (WE.refl _) (ZcG (WE.refl _) (ZcG (WE.refl _) Zda)))) Zb) Zc)
 ·refine nw ?_
  refine AWP.seq ?_
  refine ns ?_
  obtain rfl := Zg hF
  refine ns ?_
  refine Exists.intro [] ?_
  refine st ?_
  exact wx (WS.mk (Zd (Zc9 (ZcG (WE.refl _) (ZcG (WE.refl _) (ZcG (WE.refl _) Zda)))) Zb) Zc)

def Zc4 (s : ByteArray) : Option (ByteArray × ByteArray × Bool) :=
 Zbg s 0
def Zc4.M (s : ByteArray) (r : ByteArray × ByteArray × Bool) : Prop :=
 Zj Tryz.prog 108 [.c none (.v (.string s))] [] (fun d b => d = .tup [.c (.v (.string r.1)), .c (.v (.string r.2.1)), .c (.v (.bool r.2.2))] ∧ b = [])
theorem Zi1 (s : ByteArray) (r : ByteArray × ByteArray × Bool) (hF : Zc4 s = some r) : Zc4.M s r := by
 unfold Zc4 at hF
 unfold Zc4.M
 refine en Tryz.func108 ?_
 refine AWP.seq ?_
 refine ns ?_
 refine AWP.seq ?_
 refine AWP.seq ?_
 refine ns ?_
 refine AWP.block ?_
 refine AWP.loop ?_
 refine AWL.weak (rn []) ?_ (ZlQ s 0 _ hF)
 exact (WS.mk (tc (tc Zb)) Zc)

def ZcW (s : ByteArray) : Option (Bool) :=
 Zc4 s >>= fun r1 =>
 (if r1.2.2 = true then some true else Zc0 s >>= fun r2 =>
 some r2) >>= fun c3 =>
 some c3
def ZcW.M (s : ByteArray) (r : Bool) : Prop :=
 Zj Tryz.prog 84 [.c none (.v (.string s))] [] (fun d b => d = .c none (.v (.bool r)) ∧ b = [])
theorem ZjF (s : ByteArray) (r : Bool) (hF : ZcW s = some r) : ZcW.M s r := by
 unfold ZcW at hF
 unfold ZcW.M
 refine en Tryz.func84 ?_
 refine AWP.seq ?_
 refine ns ?_
 refine AWP.seq ?_
 obtain ⟨r1, hr1, hF⟩ := bind_some hF
 refine ns ?_
 refine e3 ?_
 refine st ?_
 refine cm (Zj.weak (rn []) (Zi1 s _ hr1) rfl (WS.mk (tc Zb) Zc)) ?_
 refine st ?_
 refine AWP.seq ?_
 obtain ⟨c3, hc3, hF⟩ := bind_some hF
 refine AWP.cutN (fun T => ∃ r, WS r T ⟨[(2, .c none (.v (.bool c3)))], []⟩) ?_ (fun T hw => ?_)
 ·refine ns ?_
  refine Zm false (fun hc4 => ?_) (fun hc4 => ?_)
  ·have hc3 := ift hc4 hc3
   (conv => whnf)
   obtain rfl := Zg hc3
   refine st ?_
   exact wx (WS.mk (Zd (Zr (web hc4)) Zb) Zc)
  ·have hc3 := ife hc4 hc3
   obtain ⟨r2, hr2, hc3⟩ := bind_some hc3
   (conv => whnf)
   refine st ?_
   refine e3 ?_
   refine st ?_
   refine cm (Zj.weak (rn []) (Zi5 s _ hr2) rfl (WS.mk (tc Zb) Zc)) ?_
   refine st ?_
   obtain rfl := Zg hc3
   refine st ?_
   exact wx (WS.mk (Zd (Zr (web hc4)) Zb) Zc)
 obtain ⟨r0, hw⟩ := hw
 (conv => whnf)
 refine AWP.weak r0 hw ?_
 obtain rfl := Zg hF
 refine ns ?_
 refine Exists.intro [] ?_
 refine st ?_
 exact wx (WS.mk (tc Zb) Zc)

def ZaX (s : ByteArray) (n_4 : Int) (i_5 : Nat) : Option (Int × Bool) :=
 if (decide (((i_5 : Nat) : Int) < ((s.size : Nat) : Int))) = true then
 (btI s ((i_5 : Nat) : Int)) >>= fun y37 =>
 ZcZ ((y37.toNat : Nat) : Int) >>= fun r38 =>
 if (!r38) = true then
 some (0, false)
 else
 (btI s ((i_5 : Nat) : Int)) >>= fun y40 =>
 if (decide (n_4 > (IntKind.i64.wrap (Int.tdiv (IntKind.i64.wrap (9223372036854775807 - (IntKind.i64.wrap (IntKind.u8.wrap (((y40.toNat : Nat) : Int) - 48))))) 10)))) = true then
 some (0, false)
 else
 Z4 (i_5 + 1 ≤ 9223372036854775807) >>= fun _ =>
 ZaX s (IntKind.i64.wrap ((IntKind.i64.wrap (10 * n_4)) + (IntKind.i64.wrap (IntKind.u8.wrap (((y40.toNat : Nat) : Int) - 48))))) (i_5 + 1)
 else
 some (n_4, true)
 partial_fixpoint
def ZaX.M (s : ByteArray) (n_4 : Int) (i_5 : Nat) (r : Int × Bool) : Prop :=
 AWL Tryz.prog 45 (Code.sub (Zq Tryz.f85) [1, 1, 1, 0, 1, 0, 0]) (Code.cont Tryz.prog 45 (Zq Tryz.f85) [1, 1, 1, 0, 1, 0] (ZbW tab Tryz.f85.results (ZbY (.tup [.c (.v (.int .i64 r.1)), .c (.v (.bool r.2))]) []))) ⟨[(0, .c none (.v (.string s))), (4, .c none (.v (.int .i64 n_4))), (5, .c none (.v (.int .i64 ((i_5 : Nat) : Int))))], []⟩
theorem ZkN (s : ByteArray) (n_4 : Int) (i_5 : Nat) : ∀ r, ZaX s n_4 i_5 = some r → ZaX.M s n_4 i_5 r := by
 refine ZaX.partial_correctness s (fun n_4 i_5 r => ZaX.M s n_4 i_5 r) ?_ n_4 i_5
 intro lazycref01_number_l1' ZgE n_4 i_5 r hF
 have ZkG := fun (_s : ByteArray) (n_4 : Int) (i_5 : Nat) => ZgE n_4 i_5
 clear ZgE
 unfold ZaX.M
 refine AWL.step ?_
 refine AWP.seq ?_
 refine AWP.seq ?_
 refine ns ?_
 refine nw ?_
 refine Zi hF (fun ZpF hF => ?_) (fun ZpF hF => ?_)
 ·refine nw ?_
  refine AWP.seq ?_
  refine AWP.block ?_
  refine AWP.seq ?_
  refine AWP.seq ?_
  obtain ⟨y37, hy370, ZIG, hF⟩ := ZcX hF
  obtain ⟨r38, ZAW, hF⟩ := bind_some hF
  refine nn ?_
  refine sr ZIG ?_
  refine st ?_
  refine e3 ?_
  refine st ?_
  refine cm (Zj.weak (rn []) (ZiU ((y37.toNat : Nat) : Int) _ ZAW) rfl (WS.mk (tc Zb) Zc)) ?_
  refine st ?_
  refine nw ?_
  refine Zi hF (fun ZhU hF => ?_) (fun ZhU hF => ?_)
  ·refine AWP.seq ?_
   refine ns ?_
   obtain rfl := Zg hF
   refine ns ?_
   refine Exists.intro [] ?_
   refine st ?_
   exact wx (WS.mk (Zd (Zc9 (ZcG (WE.refl _) (ZcG (WE.refl _) Zda))) Zb) Zc)
  ·refine nw ?_
   refine AWP.seq ?_
   obtain ⟨y40, hy400, ZGg, hF⟩ := ZcX hF
   refine nn ?_
   refine sr ZGg ?_
   refine st ?_
   refine AWP.seq ?_
   refine AWP.seq ?_
   refine ns ?_
   refine nw ?_
   refine Zi hF (fun ZvB hF => ?_) (fun ZvB hF => ?_)
   ·refine AWP.seq ?_
    refine ns ?_
    obtain rfl := Zg hF
    refine ns ?_
    refine Exists.intro [] ?_
    refine st ?_
    exact wx (WS.mk (Zd (Zc9 (ZcG (WE.refl _) (ZcG (WE.refl _) Zda))) Zb) Zc)
   ·refine nw ?_
    refine ns ?_
    obtain ⟨ZIh, hF⟩ := Zy hF
    refine ns ?_
    refine AWL.weak (rn []) ?_ (ZkG s (IntKind.i64.wrap ((IntKind.i64.wrap (10 * n_4)) + (IntKind.i64.wrap (IntKind.u8.wrap (((y40.toNat : Nat) : Int) - 48))))) (i_5 + 1) _ hF)
    exact (WS.mk (tc (tc (Zd (Zr (Zdf (Zdv ZIh))) Zb))) Zc)
 ·refine nw ?_
  refine AWP.seq ?_
  refine ns ?_
  obtain rfl := Zg hF
  refine ns ?_
  refine Exists.intro [] ?_
  refine st ?_
  exact wx (WS.mk (Zd (Zc9 (ZcG (WE.refl _) (ZcG (WE.refl _) Zda))) Zb) Zc)

def ZcH (s : ByteArray) : Option (Int × Bool) :=
 (if (s.toList == (ByteArray.mk #[]).toList) = true then some true else (btI s 0) >>= fun y4 =>
 some ((((y4.toNat : Nat) : Int) == 48) && (decide (((s.size : Nat) : Int) > 1)))) >>= fun c5 =>
 if c5 = true then
 some (0, false)
 else
 ZaX s 0 0
def ZcH.M (s : ByteArray) (r : Int × Bool) : Prop :=
 Zj Tryz.prog 85 [.c none (.v (.string s))] [] (fun d b => d = .tup [.c (.v (.int .i64 r.1)), .c (.v (.bool r.2))] ∧ b = [])
theorem ZmB (s : ByteArray) (r : Int × Bool) (hF : ZcH s = some r) : ZcH.M s r := by
 unfold ZcH at hF
 unfold ZcH.M
 refine en Tryz.func85 ?_
 refine AWP.seq ?_
 refine ns ?_
 refine AWP.seq ?_
 refine AWP.seq ?_
 obtain ⟨c5, hc5, hF⟩ := bind_some hF
 refine AWP.cutN (fun T => ∃ r, WS r T ⟨[(0, .c none (.v (.string s))), (18, .c none (.v (.bool c5)))], []⟩) ?_ (fun T hw => ?_)
 ·refine ns ?_
  refine Zm false (fun hc6 => ?_) (fun hc6 => ?_)
  ·have hc5 := ift hc6 hc5
   (conv => whnf)
   obtain rfl := Zg hc5
   refine st ?_
   exact wx (WS.mk (tc (Zd (Zr (web hc6)) Zb)) Zc)
  ·have hc5 := ife hc6 hc5
   obtain ⟨y4, ZGg, hy4, hc5⟩ := ZcX hc5
   (conv => whnf)
   refine sr hy4 ?_
   refine st ?_
   refine Zm true (fun hc7 => ?_) (fun hc7 => ?_)
   ·(conv => whnf)
    obtain rfl := Zg hc5
    refine st ?_
    exact wx (WS.mk (tc (Zd (Zr (web (And.intro hc6 hc7))) Zb)) Zc)
   ·(conv => whnf)
    obtain rfl := Zg hc5
    refine st ?_
    exact wx (WS.mk (tc (Zd (Zr (web (And.intro hc6 hc7))) Zb)) Zc)
 obtain ⟨r0, hw⟩ := hw
 (conv => whnf)
 refine AWP.weak r0 hw ?_
 refine nw ?_
 refine Zi hF (fun hc8 hF => ?_) (fun hc8 hF => ?_)
 ·refine AWP.seq ?_
  refine ns ?_
  obtain rfl := Zg hF
  refine ns ?_
  refine Exists.intro [] ?_
  refine st ?_
  exact wx (WS.mk (Zd (Zc9 (ZcG (WE.refl _) (ZcG (WE.refl _) Zda))) Zb) Zc)
 ·refine nw ?_
  refine AWP.seq ?_
  refine ns ?_
  refine AWP.seq ?_
  refine AWP.seq ?_
  refine ns ?_
  refine AWP.block ?_
  refine AWP.loop ?_
  refine AWL.weak (rn []) ?_ (ZkN s 0 0 _ hF)
  exact (WS.mk (tc (tc (tc Zb))) Zc)

def Za6 (s : ByteArray) (ZhV : Int) (i_6 : Nat) : Option (ByteArray × Int × Bool) :=
 if (decide (((i_6 : Nat) : Int) < ((s.size : Nat) : Int))) = true then
 (btI s ((i_6 : Nat) : Int)) >>= fun y29 =>
 if (((y29.toNat : Nat) : Int) == 36) = true then
 Z4 (i_6 + 1 ≤ 9223372036854775807) >>= fun _ =>
 Za6 s ((i_6 : Nat) : Int) (i_6 + 1)
 else
 Z4 (i_6 + 1 ≤ 9223372036854775807) >>= fun _ =>
 Za6 s ZhV (i_6 + 1)
 else
 (if (decide (ZhV < 0)) = true then some true else (slS s ((0 : Nat) : Int) ZhV) >>= fun z37 =>
 ZcW z37 >>= fun r38 =>
 some (!r38)) >>= fun c39 =>
 if c39 = true then
 some ((ByteArray.mk #[]), 0, false)
 else
 (slS s (IntKind.i64.wrap (ZhV + 1)) ((s.size : Nat) : Int)) >>= fun z42 =>
 ZcH z42 >>= fun r43 =>
 if (!r43.2) = true then
 some ((ByteArray.mk #[]), 0, false)
 else
 (slS s ((0 : Nat) : Int) ZhV) >>= fun z46 =>
 some (z46, r43.1, true)
 partial_fixpoint
def Za6.M (s : ByteArray) (ZhV : Int) (i_6 : Nat) (r : ByteArray × Int × Bool) : Prop :=
 AWL Tryz.prog 43 (Code.sub (Zq Tryz.f58) [1, 1, 0, 1, 0, 0]) (Code.cont Tryz.prog 43 (Zq Tryz.f58) [1, 1, 0, 1, 0] (ZbW tab Tryz.f58.results (ZbY (.tup [.c (.v (.string r.1)), .c (.v (.int .i64 r.2.1)), .c (.v (.bool r.2.2))]) []))) ⟨[(0, .c none (.v (.string s))), (5, .c none (.v (.int .i64 ZhV))), (6, .c none (.v (.int .i64 ((i_6 : Nat) : Int))))], []⟩
theorem Zmm (s : ByteArray) (ZhV : Int) (i_6 : Nat) : ∀ r, Za6 s ZhV i_6 = some r → Za6.M s ZhV i_6 r := by
 refine Za6.partial_correctness s (fun ZhV i_6 r => Za6.M s ZhV i_6 r) ?_ ZhV i_6
 intro lazycref01_Base_l1' ZhQ ZhV i_6 r hF
 have ZhZ := fun (_s : ByteArray) (ZhV : Int) (i_6 : Nat) => ZhQ ZhV i_6
 clear ZhQ
 unfold Za6.M
 refine AWL.step ?_
 refine AWP.seq ?_
 refine AWP.seq ?_
 refine ns ?_
 refine nw ?_
 refine Zi hF (fun ZAG hF => ?_) (fun ZAG hF => ?_)
 ·refine nw ?_
  refine AWP.seq ?_
  refine AWP.block ?_
  refine AWP.seq ?_
  obtain ⟨y29, hy290, ZHd, hF⟩ := ZcX hF
  refine nn ?_
  refine sr ZHd ?_
  refine st ?_
  refine nw ?_
  refine Zi hF (fun Zpx hF => ?_) (fun Zpx hF => ?_)
  ·refine ns ?_
   obtain ⟨ZIy, hF⟩ := Zy hF
   refine ns ?_
   refine AWL.weak (rn []) ?_ (ZhZ s ((i_6 : Nat) : Int) (i_6 + 1) _ hF)
   exact (WS.mk (tc (tc (Zd (Zr (Zdf (Zdv ZIy))) Zb))) Zc)
  ·refine nw ?_
   obtain ⟨ZD8, hF⟩ := Zy hF
   refine ns ?_
   refine AWL.weak (rn []) ?_ (ZhZ s ZhV (i_6 + 1) _ hF)
   exact (WS.mk (tc (tc (Zd (Zr (Zdf (Zdv ZD8))) Zb))) Zc)
 ·refine nw ?_
  refine AWP.seq ?_
  refine AWP.seq ?_
  obtain ⟨c39, ZhU, hF⟩ := bind_some hF
  refine AWP.cutN (fun T => ∃ r, WS r T ⟨[(0, .c none (.v (.string s))), (5, .c none (.v (.int .i64 ZhV))), (28, .c none (.v (.bool c39)))], []⟩) ?_ (fun T hw => ?_)
  ·refine ns ?_
   refine Zm false (fun Zoj => ?_) (fun Zoj => ?_)
   ·have ZhU := ift Zoj ZhU
    (conv => whnf)
    obtain rfl := Zg ZhU
    refine st ?_
    exact wx (WS.mk (tc (tc (Zd (Zr (web Zoj)) Zb))) Zc)
   ·have ZhU := ife Zoj ZhU
    obtain ⟨z37, ZF3, ZEB, ZGI, ZIj, ZhU⟩ := ZfT ZhU
    obtain ⟨r38, ZAW, ZhU⟩ := bind_some ZhU
    (conv => whnf)
    refine s3 ZF3 ZEB ZGI ?_
    rw [← ZIj]
    refine st ?_
    refine e3 ?_
    refine st ?_
    refine cm (Zj.weak (rn []) (ZjF z37 _ ZAW) rfl (WS.mk (tc Zb) Zc)) ?_
    refine st ?_
    obtain rfl := Zg ZhU
    refine st ?_
    exact wx (WS.mk (tc (tc (Zd (Zr (web Zoj)) Zb))) Zc)
  obtain ⟨r0, hw⟩ := hw
  (conv => whnf)
  refine AWP.weak r0 hw ?_
  refine nw ?_
  refine Zi hF (fun Zv9 hF => ?_) (fun Zv9 hF => ?_)
  ·refine AWP.seq ?_
   refine ns ?_
   obtain rfl := Zg hF
   refine ns ?_
   refine Exists.intro [] ?_
   refine st ?_
   exact wx (WS.mk (Zd (Zc9 (ZcG (WE.refl _) (ZcG (WE.refl _) (ZcG (WE.refl _) Zda)))) Zb) Zc)
  ·refine nw ?_
   refine AWP.seq ?_
   obtain ⟨z42, ZGC, ZEA, ZGs, ZEp, hF⟩ := ZfT hF
   obtain ⟨r43, ZCp, hF⟩ := bind_some hF
   refine nn ?_
   refine s3 ZGC ZEA ZGs ?_
   rw [← ZEp]
   refine st ?_
   refine e3 ?_
   refine st ?_
   refine cm (Zj.weak (rn []) (ZmB z42 _ ZCp) rfl (WS.mk (tc Zb) Zc)) ?_
   refine st ?_
   refine AWP.seq ?_
   refine AWP.seq ?_
   refine ns ?_
   refine nw ?_
   refine Zi hF (fun ZDt hF => ?_) (fun ZDt hF => ?_)
   ·refine AWP.seq ?_
    refine ns ?_
    obtain rfl := Zg hF
    refine ns ?_
    refine Exists.intro [] ?_
    refine st ?_
    exact wx (WS.mk (Zd (Zc9 (ZcG (WE.refl _) (ZcG (WE.refl _) (ZcG (WE.refl _) Zda)))) Zb) Zc)
   ·refine nw ?_
    refine AWP.seq ?_
    obtain ⟨z46, ZFR, ZEt, ZFg, ZH9, hF⟩ := ZfT hF
    refine nn ?_
    refine s3 ZFR ZEt ZFg ?_
    rw [← ZH9]
    refine st ?_
    obtain rfl := Zg hF
    refine ns ?_
    refine Exists.intro [] ?_
    refine st ?_
    exact wx (WS.mk (Zd (Zc9 (ZcG (WE.refl _) (ZcG (WE.refl _) (ZcG (WE.refl _) Zda)))) Zb) Zc)

def ZcV (s : ByteArray) : Option (ByteArray × Int × Bool) :=
 Za6 s (-1) 0
def ZcV.M (s : ByteArray) (r : ByteArray × Int × Bool) : Prop :=
 Zj Tryz.prog 58 [.c none (.v (.string s))] [] (fun d b => d = .tup [.c (.v (.string r.1)), .c (.v (.int .i64 r.2.1)), .c (.v (.bool r.2.2))] ∧ b = [])
theorem Zg4 (s : ByteArray) (r : ByteArray × Int × Bool) (hF : ZcV s = some r) : ZcV.M s r := by
 unfold ZcV at hF
 unfold ZcV.M
 refine en Tryz.func58 ?_
 refine AWP.seq ?_
 refine ns ?_
 refine AWP.seq ?_
 refine ns ?_
 refine AWP.seq ?_
 refine AWP.seq ?_
 refine ns ?_
 refine AWP.block ?_
 refine AWP.loop ?_
 refine AWL.weak (rn []) ?_ (Zmm s (-1) 0 _ hF)
 exact (WS.mk (tc (tc (tc Zb))) Zc)

def Zdq (base : ByteArray) (n : Int) : Option (ByteArray) :=
 ZcW base >>= fun r3 =>
 if ((!r3) || (decide (n < 0))) = true then
 some (ByteArray.mk #[])
 else
 Z4 (((base.size + (ByteArray.mk #[36]).size : Nat) : Int) ≤ IntKind.i64.max) >>= fun _ =>
 strconv_Itoa n >>= fun r7 =>
 Z4 ((((base ++ (ByteArray.mk #[36])).size + r7.size : Nat) : Int) ≤ IntKind.i64.max) >>= fun _ =>
 some ((base ++ (ByteArray.mk #[36])) ++ r7)
def Zdq.M (base : ByteArray) (n : Int) (r : ByteArray) : Prop :=
 Zj Tryz.prog 91 [.c none (.v (.string base)), .c none (.v (.int .i64 n))] [] (fun d b => d = .c none (.v (.string r)) ∧ b = [])
theorem ZjJ (base : ByteArray) (n : Int) (r : ByteArray) (hF : Zdq base n = some r) : Zdq.M base n r := by
 unfold Zdq at hF
 unfold Zdq.M
 refine en Tryz.func91 ?_
 refine AWP.seq ?_
 refine ns ?_
 refine AWP.seq ?_
 refine AWP.seq ?_
 obtain ⟨r3, hr3, hF⟩ := bind_some hF
 refine AWP.cutN (fun T => ∃ r, WS r T ⟨[(0, .c none (.v (.string base))), (1, .c none (.v (.int .i64 n))), (11, .c none (.v (.bool ((!r3) || (decide (n < 0))))))], []⟩) ?_ (fun T hw => ?_)
 ·refine ns ?_
  refine e3 ?_
  refine st ?_
  refine cm (Zj.weak (rn []) (ZjF base _ hr3) rfl (WS.mk (tc Zb) Zc)) ?_
  refine st ?_
  refine Zm false (fun hc4 => ?_) (fun hc4 => ?_)
  ·(conv => whnf)
   refine st ?_
   exact wx (WS.mk (tc (tc (Zd (Zr (web hc4)) Zb))) Zc)
  ·(conv => whnf)
   refine st ?_
   exact wx (WS.mk (tc (tc (Zd (Zr (web hc4)) Zb))) Zc)
 obtain ⟨r0, hw⟩ := hw
 (conv => whnf)
 refine AWP.weak r0 hw ?_
 refine nw ?_
 refine Zi hF (fun hc5 hF => ?_) (fun hc5 hF => ?_)
 ·refine AWP.seq ?_
  refine ns ?_
  obtain rfl := Zg hF
  refine ns ?_
  refine Exists.intro [] ?_
  refine st ?_
  exact wx (WS.mk (tc Zb) Zc)
 ·refine nw ?_
  refine AWP.seq ?_
  obtain ⟨hg6, hF⟩ := Zy hF
  obtain ⟨r7, hr7, hF⟩ := bind_some hF
  obtain ⟨hg8, hF⟩ := Zy hF
  refine ns ?_
  refine And.intro hg6 ?_
  refine st ?_
  refine e3 ?_
  refine st ?_
  refine cm (Zj.weak (rn []) (Zl1 n _ hr7) rfl (WS.mk (tc Zb) Zc)) ?_
  refine st ?_
  refine And.intro hg8 ?_
  refine st ?_
  obtain rfl := Zg hF
  refine ns ?_
  refine Exists.intro [] ?_
  refine st ?_
  exact wx (WS.mk (tc Zb) Zc)

mutual
def Zcg (t : Za) : Option (Int) :=
 Zcu 0 t 0 t.fKids
 partial_fixpoint
def Zcu (n_3 : Int) (t : Za) (x_9 : Nat) (ZaW : (List Za)) : Option (Int) :=
 (match ZaW with
 | x11 :: Zlp =>
 Zcg x11 >>= fun r14 =>
 Zcu (if r14 > n_3 then r14 else n_3) t (x_9 + 1) Zlp
 | [] =>
 some (IntKind.i64.wrap (n_3 + 1)))
 partial_fixpoint
end
def Zcg.M (t : Za) (r : Int) : Prop :=
 Zj Tryz.prog 77 [.agg [.v (.int .i64 t.fOp), .v (.string t.fName), .sl (t.fBound.fArgs.map Zk.cells), .sl (t.fKids.map Za.cells)]] [] (fun d b => d = .c none (.v (.int .i64 r)) ∧ b = [])
def Zcu.M (n_3 : Int) (t : Za) (x_9 : Nat) (ZaW : (List Za)) (r : Int) : Prop :=
 ∀ Zdx : List Za, t.fKids = Zdx ++ ZaW → x_9 = Zdx.length → t.fKids.length ≤ maxLen → AWL Tryz.prog 20 (Code.sub (Zq Tryz.f77) [1, 1, 0, 1, 0, 0]) (Code.cont Tryz.prog 20 (Zq Tryz.f77) [1, 1, 0, 1, 0] (ZbW tab Tryz.f77.results (ZbY (.c none (.v (.int .i64 r))) []))) ⟨[(3, .c none (.v (.int .i64 n_3))), (7, .c none (.sl (t.fKids.map Za.cells))), (8, .c none (.v (.int .i64 ((t.fKids.length : Nat) : Int)))), (9, .c none (.v (.int .i64 ((x_9 : Nat) : Int))))], []⟩
theorem Zl3 : (∀ (t : Za), ∀ r, Zcg t = some r → Zcg.M t r) ∧ (∀ (n_3 : Int) (t : Za) (x_9 : Nat) (ZaW : (List Za)), ∀ r, Zcu n_3 t x_9 ZaW = some r → Zcu.M n_3 t x_9 ZaW r) := by
 refine Zcg.mutual_partial_correctness Zcg.M Zcu.M ?_ ?_
 ·intro types_Depth_l1' ZhB t r hF
  unfold Zcg.M
  refine en Tryz.func77 ?_
  refine AWP.seq ?_
  refine ns ?_
  refine AWP.seq ?_
  refine ns ?_
  refine AWP.seq ?_
  refine AWP.seq ?_
  refine ns ?_
  intro hlen1
  (try rw [List.length_map] at hlen1)
  (try rw [List.length_map])
  refine st ?_
  refine AWP.block ?_
  refine AWP.loop ?_
  refine AWL.weak (rn []) ?_ (ZhB 0 t 0 t.fKids _ hF ([]) rfl rfl hlen1)
  exact (WS.mk (tc (tc (tc (tc Zb)))) Zc)
 ·intro types_Depth' types_Depth_l1' ZrZ ZhB n_3 t x_9 ZaW r hF
  unfold Zcu.M
  intro Zdx ZhP ZhI hlen1
  refine AWL.step ?_
  refine AWP.seq ?_
  refine ns ?_
  refine AWP.seq ?_
  refine nw ?_
  refine ZN ZhP ZhI (fun x11 Zlp Zlf ZtV Zty => ?_) (fun Zlf => ?_)
  ·subst Zlf
   refine nw ?_
   refine AWP.seq ?_
   refine AWP.block ?_
   refine AWP.seq ?_
   refine nn ?_
   refine sr (Zab (f := Za.cells) (Za.cells_eq x11) ZtV) ?_
   refine st ?_
   obtain ⟨r14, ZrV, hF⟩ := bind_some hF
   refine ns ?_
   refine e3 ?_
   refine st ?_
   refine cm (Zj.weak (rn []) (ZrZ x11 _ ZrV) rfl (WS.mk (Zd (Zt (lc (lc (lc (lc Zo))))) Zb) Zc)) ?_
   refine st ?_
   refine ns ?_
   refine AWL.weak (rn []) ?_ (ZhB (if r14 > n_3 then r14 else n_3) t (x_9 + 1) Zlp _ hF (Zdx ++ [x11]) (by rw [ZhP]; simp) (by rw [ZhI]; simp) hlen1)
   exact (WS.mk (tc (tc (tc (Zd (Zr (Zdf (ZV hlen1 Zty))) Zb)))) Zc)
  ·subst Zlf
   refine nw ?_
   refine AWP.seq ?_
   refine ns ?_
   obtain rfl := Zg hF
   refine ns ?_
   refine Exists.intro [] ?_
   refine st ?_
   exact wx (WS.mk (tc Zb) Zc)
theorem Zm8 : ∀ (t : Za), ∀ r, Zcg t = some r → Zcg.M t r := Zl3.1
theorem types_Depth_l1_ok : ∀ (n_3 : Int) (t : Za) (x_9 : Nat) (ZaW : (List Za)), ∀ r, Zcu n_3 t x_9 ZaW = some r → Zcu.M n_3 t x_9 ZaW r := Zl3.2

mutual
def ZcE (t : Za) : Option (Int) :=
 ZcU 1 t 0 t.fKids
 partial_fixpoint
def ZcU (n_3 : Int) (t : Za) (x_9 : Nat) (ZaW : (List Za)) : Option (Int) :=
 (match ZaW with
 | x11 :: Zlp =>
 ZcE x11 >>= fun r14 =>
 ZcU (IntKind.i64.wrap (n_3 + r14)) t (x_9 + 1) Zlp
 | [] =>
 some n_3)
 partial_fixpoint
end
def ZcE.M (t : Za) (r : Int) : Prop :=
 Zj Tryz.prog 74 [.agg [.v (.int .i64 t.fOp), .v (.string t.fName), .sl (t.fBound.fArgs.map Zk.cells), .sl (t.fKids.map Za.cells)]] [] (fun d b => d = .c none (.v (.int .i64 r)) ∧ b = [])
def ZcU.M (n_3 : Int) (t : Za) (x_9 : Nat) (ZaW : (List Za)) (r : Int) : Prop :=
 ∀ Zdx : List Za, t.fKids = Zdx ++ ZaW → x_9 = Zdx.length → t.fKids.length ≤ maxLen → AWL Tryz.prog 19 (Code.sub (Zq Tryz.f74) [1, 1, 0, 1, 0, 0]) (Code.cont Tryz.prog 19 (Zq Tryz.f74) [1, 1, 0, 1, 0] (ZbW tab Tryz.f74.results (ZbY (.c none (.v (.int .i64 r))) []))) ⟨[(3, .c none (.v (.int .i64 n_3))), (7, .c none (.sl (t.fKids.map Za.cells))), (8, .c none (.v (.int .i64 ((t.fKids.length : Nat) : Int)))), (9, .c none (.v (.int .i64 ((x_9 : Nat) : Int))))], []⟩
theorem Zm2 : (∀ (t : Za), ∀ r, ZcE t = some r → ZcE.M t r) ∧ (∀ (n_3 : Int) (t : Za) (x_9 : Nat) (ZaW : (List Za)), ∀ r, ZcU n_3 t x_9 ZaW = some r → ZcU.M n_3 t x_9 ZaW r) := by
 refine ZcE.mutual_partial_correctness ZcE.M ZcU.M ?_ ?_
 ·intro types_Size_l1' Zia t r hF
  unfold ZcE.M
  refine en Tryz.func74 ?_
  refine AWP.seq ?_
  refine ns ?_
  refine AWP.seq ?_
  refine ns ?_
  refine AWP.seq ?_
  refine AWP.seq ?_
  refine ns ?_
  intro hlen1
  (try rw [List.length_map] at hlen1)
  (try rw [List.length_map])
  refine st ?_
  refine AWP.block ?_
  refine AWP.loop ?_
  refine AWL.weak (rn []) ?_ (Zia 1 t 0 t.fKids _ hF ([]) rfl rfl hlen1)
  exact (WS.mk (tc (tc (tc (tc Zb)))) Zc)
 ·intro types_Size' types_Size_l1' Zr7 Zia n_3 t x_9 ZaW r hF
  unfold ZcU.M
  intro Zdx ZhP ZhI hlen1
  refine AWL.step ?_
  refine AWP.seq ?_
  refine ns ?_
  refine AWP.seq ?_
  refine nw ?_
  refine ZN ZhP ZhI (fun x11 Zlp Zlf ZtV Zty => ?_) (fun Zlf => ?_)
  ·subst Zlf
   refine nw ?_
   refine AWP.seq ?_
   refine AWP.block ?_
   refine AWP.seq ?_
   refine nn ?_
   refine sr (Zab (f := Za.cells) (Za.cells_eq x11) ZtV) ?_
   refine st ?_
   obtain ⟨r14, ZrV, hF⟩ := bind_some hF
   refine ns ?_
   refine e3 ?_
   refine st ?_
   refine cm (Zj.weak (rn []) (Zr7 x11 _ ZrV) rfl (WS.mk (Zd (Zt (lc (lc (lc (lc Zo))))) Zb) Zc)) ?_
   refine st ?_
   refine ns ?_
   refine AWL.weak (rn []) ?_ (Zia (IntKind.i64.wrap (n_3 + r14)) t (x_9 + 1) Zlp _ hF (Zdx ++ [x11]) (by rw [ZhP]; simp) (by rw [ZhI]; simp) hlen1)
   exact (WS.mk (tc (tc (tc (Zd (Zr (Zdf (ZV hlen1 Zty))) Zb)))) Zc)
  ·subst Zlf
   refine nw ?_
   refine AWP.seq ?_
   refine ns ?_
   obtain rfl := Zg hF
   refine ns ?_
   refine Exists.intro [] ?_
   refine st ?_
   exact wx (WS.mk (tc Zb) Zc)
theorem ZnV : ∀ (t : Za), ∀ r, ZcE t = some r → ZcE.M t r := Zm2.1
theorem types_Size_l1_ok : ∀ (n_3 : Int) (t : Za) (x_9 : Nat) (ZaW : (List Za)), ∀ r, ZcU n_3 t x_9 ZaW = some r → ZcU.M n_3 t x_9 ZaW r := Zm2.2

def Zb9 (z18 : ByteArray) (Zf4 : Nat) : Option (Bool) :=
 if (decide (Zf4 < z18.size)) = true then
 if ((((Utf8.decode z18 Zf4).1 : Nat) : Int) != 44) = true then
 some false
 else
 Zb9 z18 (Zf4 + (Utf8.decode z18 Zf4).2)
 else
 some true
 partial_fixpoint
def Zb9.M (z18 : ByteArray) (Zf4 : Nat) (r : Bool) : Prop :=
 AWL Tryz.prog 46 (Code.sub (Zq Tryz.f102) [1, 1, 1, 1, 0, 1, 0, 0]) (Code.cont Tryz.prog 46 (Zq Tryz.f102) [1, 1, 1, 1, 0, 1, 0] (ZbW tab Tryz.f102.results (ZbY (.c none (.v (.bool r))) []))) ⟨[(40, .ptr 40 0)], [(40, [(none, Zsy z18 ((Zf4 : Nat) : Int))])]⟩
theorem ZnA (z18 : ByteArray) (Zf4 : Nat) : ∀ r, Zb9 z18 Zf4 = some r → Zb9.M z18 Zf4 r := by
 refine Zb9.partial_correctness z18 (fun Zf4 r => Zb9.M z18 Zf4 r) ?_ Zf4
 intro types_builtin_l1' ZiC Zf4 r hF
 have ZnS := fun (_z18 : ByteArray) (Zf4 : Nat) => ZiC Zf4
 clear ZiC
 unfold Zb9.M
 refine AWL.step ?_
 refine AWP.seq ?_
 refine nn ?_
 (repeat ((conv => whnf); (with_reducible refine And.intro ?_ ?_); (focus (first | (with_reducible exact ZyM) | exact Eq.refl _ | exact Nat.le_of_ble_eq_true (Eq.refl true) | decide)))); (conv => whnf)
 refine Zi hF (fun ZB9 hF => ?_) (fun ZB9 hF => ?_)
 ·refine st ?_
  refine AWP.seq ?_
  refine nw ?_
  refine nw ?_
  refine AWP.block ?_
  refine AWP.seq ?_
  refine ns ?_
  refine AWP.seq ?_
  refine ns ?_
  refine nw ?_
  refine Zi hF (fun Zta hF => ?_) (fun Zta hF => ?_)
  ·refine AWP.seq ?_
   refine ns ?_
   obtain rfl := Zg hF
   refine ns ?_
   refine Exists.intro [] ?_
   refine st ?_
   exact wx (WS.mk (tc Zb) Zc)
  ·refine nw ?_
   refine AWL.weak (rn []) ?_ (ZnS z18 (Zf4 + (Utf8.decode z18 Zf4).2) _ hF)
   exact (WS.mk (tp Zb) (Zf rfl (cc Zh) Zc))
 ·refine st ?_
  refine AWP.seq ?_
  refine nw ?_
  refine nw ?_
  refine AWP.seq ?_
  refine ns ?_
  obtain rfl := Zg hF
  refine ns ?_
  refine Exists.intro [] ?_
  refine st ?_
  exact wx (WS.mk (tc Zb) Zc)

def Zeo (s : ByteArray) : Option (Bool) :=
 if (((s.toList == (ByteArray.mk #[45, 62]).toList) || (s.toList == (ByteArray.mk #[91, 93]).toList)) || (s.toList == (ByteArray.mk #[40, 41]).toList)) = true then
 some true
 else
 (if ((decide (((s.size : Nat) : Int) < 3)) || (decide (((s.size : Nat) : Int) > 8))) = true then some true else (btI s 0) >>= fun y10 =>
 some (((y10.toNat : Nat) : Int) != 40)) >>= fun c11 =>
 (if c11 = true then some true else (btI s (IntKind.i64.wrap (((s.size : Nat) : Int) - 1))) >>= fun y12 =>
 some (((y12.toNat : Nat) : Int) != 41)) >>= fun c13 =>
 if c13 = true then
 some false
 else
 (slS s 1 (IntKind.i64.wrap (((s.size : Nat) : Int) - 1))) >>= fun z18 =>
 Zb9 z18 0
def Zeo.M (s : ByteArray) (r : Bool) : Prop :=
 Zj Tryz.prog 102 [.c none (.v (.string s))] [] (fun d b => d = .c none (.v (.bool r)) ∧ b = [])
theorem ZpC (s : ByteArray) (r : Bool) (hF : Zeo s = some r) : Zeo.M s r := by
 unfold Zeo at hF
 unfold Zeo.M
 refine en Tryz.func102 ?_
 refine AWP.seq ?_
 refine ns ?_
 refine AWP.seq ?_
 refine AWP.seq ?_
 refine AWP.cutN (fun T => ∃ r, WS r T ⟨[(0, .c none (.v (.string s))), (15, .c none (.v (.bool (((s.toList == (ByteArray.mk #[45, 62]).toList) || (s.toList == (ByteArray.mk #[91, 93]).toList)) || (s.toList == (ByteArray.mk #[40, 41]).toList)))))], []⟩) ?_ (fun T hw => ?_)
 ·refine ns ?_
  refine Zm false (fun hc2 => ?_) (fun hc2 => ?_)
  ·(conv => whnf)
   refine st ?_
   exact wx (WS.mk (tc (Zd (Zr (web hc2)) Zb)) Zc)
  ·(conv => whnf)
   refine st ?_
   refine Zm false (fun hc3 => ?_) (fun hc3 => ?_)
   ·(conv => whnf)
    refine st ?_
    exact wx (WS.mk (tc (Zd (Zr (web (And.intro hc2 hc3))) Zb)) Zc)
   ·(conv => whnf)
    refine st ?_
    exact wx (WS.mk (tc (Zd (Zr (web (And.intro hc2 hc3))) Zb)) Zc)
 obtain ⟨r0, hw⟩ := hw
 (conv => whnf)
 refine AWP.weak r0 hw ?_
 refine nw ?_
 refine Zi hF (fun hc4 hF => ?_) (fun hc4 hF => ?_)
 ·refine AWP.seq ?_
  refine ns ?_
  obtain rfl := Zg hF
  refine ns ?_
  refine Exists.intro [] ?_
  refine st ?_
  exact wx (WS.mk (tc Zb) Zc)
 ·refine nw ?_
  refine AWP.seq ?_
  refine ns ?_
  refine AWP.seq ?_
  refine AWP.seq ?_
  obtain ⟨c11, ZcP, hF⟩ := bind_some hF
  obtain ⟨c13, ZbB, hF⟩ := bind_some hF
  refine AWP.cutN (fun T => ∃ r, WS r T ⟨[(0, .c none (.v (.string s))), (3, .c none (.v (.int .i64 ((s.size : Nat) : Int)))), (35, .c none (.v (.bool c13)))], []⟩) ?_ (fun T hw => ?_)
  ·refine ns ?_
   refine Zm false (fun Zdk => ?_) (fun Zdk => ?_)
   ·(conv => whnf)
    have ZcP := ift Zdk ZcP
    obtain rfl := Zg ZcP
    have ZbB := ift Zdk ZbB
    obtain rfl := Zg ZbB
    refine st ?_
    exact wx (WS.mk (tc (tc (Zd (Zr (web Zdk)) Zb))) Zc)
   ·(conv => whnf)
    refine st ?_
    refine Zm false (fun Zfg => ?_) (fun Zfg => ?_)
    ·have ZcP := ift (And.intro Zdk Zfg) ZcP
     (conv => whnf)
     obtain rfl := Zg ZcP
     have ZbB := ift (And.intro Zdk Zfg) ZbB
     obtain rfl := Zg ZbB
     refine st ?_
     exact wx (WS.mk (tc (tc (Zd (Zr (web (And.intro Zdk Zfg))) Zb))) Zc)
    ·have ZcP := ife (And.intro Zdk Zfg) ZcP
     obtain ⟨y10, ZEF, ZDX, ZcP⟩ := ZcX ZcP
     (conv => whnf)
     refine sr ZDX ?_
     obtain rfl := Zg ZcP
     refine st ?_
     refine Zm false (fun Zgv => ?_) (fun Zgv => ?_)
     ·have ZbB := ift (And.intro Zdk (And.intro Zfg Zgv)) ZbB
      (conv => whnf)
      obtain rfl := Zg ZbB
      refine st ?_
      exact wx (WS.mk (tc (tc (Zd (Zr (web (And.intro Zdk (And.intro Zfg Zgv)))) Zb))) Zc)
     ·have ZbB := ife (And.intro Zdk (And.intro Zfg Zgv)) ZbB
      obtain ⟨y12, ZGd, ZC1, ZbB⟩ := ZcX ZbB
      (conv => whnf)
      refine sr ZC1 ?_
      obtain rfl := Zg ZbB
      refine st ?_
      exact wx (WS.mk (tc (tc (Zd (Zr (web (And.intro Zdk (And.intro Zfg Zgv)))) Zb))) Zc)
  obtain ⟨r0, hw⟩ := hw
  (conv => whnf)
  refine AWP.weak r0 hw ?_
  refine nw ?_
  refine Zi hF (fun ZiP hF => ?_) (fun ZiP hF => ?_)
  ·refine AWP.seq ?_
   refine ns ?_
   obtain rfl := Zg hF
   refine ns ?_
   refine Exists.intro [] ?_
   refine st ?_
   exact wx (WS.mk (tc Zb) Zc)
  ·refine nw ?_
   refine AWP.seq ?_
   refine AWP.seq ?_
   obtain ⟨z18, ZGM, ZGm, ZFy, ZH4, hF⟩ := ZfT hF
   refine nn ?_
   refine s3 ZGM ZGm ZFy ?_
   rw [← ZH4]
   (repeat ((conv => whnf); (with_reducible refine And.intro ?_ ?_); (focus (first | (with_reducible exact ZyM) | exact Eq.refl _ | exact Nat.le_of_ble_eq_true (Eq.refl true) | decide)))); (conv => whnf)
   refine st ?_
   refine AWP.block ?_
   refine AWP.loop ?_
   refine AWL.weak (rn []) ?_ (ZnA z18 0 _ hF)
   exact (WS.mk (tp Zb) (Zf rfl (cc Zh) Zc))

def Zc2 (s_0 : ByteArray) : Option (Bool) :=
 Zdm s_0 >>= fun r5 =>
 some ((r5 == 2) || (r5 == 4))
def Zc2.M (s_0 : ByteArray) (r : Bool) : Prop :=
 AWP Tryz.prog 34 (Code.sub (Zq Tryz.f103) [1, 1, 1]) (Code.cont Tryz.prog 34 (Zq Tryz.f103) [1, 1, 1] (ZbW tab Tryz.f103.results (ZbY (.c none (.v (.bool r))) []))) ⟨[(0, .c none (.v (.string s_0)))], []⟩
theorem Zi2 (s_0 : ByteArray) (r : Bool) (hF : Zc2 s_0 = some r) : Zc2.M s_0 r := by
 unfold Zc2 at hF
 unfold Zc2.M
 refine AWP.seq ?_
 obtain ⟨r5, hr5, hF⟩ := bind_some hF
 refine ns ?_
 refine e3 ?_
 refine st ?_
 refine cm (Zj.weak (rn []) (Zhu s_0 _ hr5) rfl (WS.mk (tc Zb) Zc)) ?_
 refine st ?_
 refine AWP.seq ?_
 refine AWP.cutN (fun T => ∃ r, WS r T ⟨[(2, .c none (.v (.bool ((r5 == 2) || (r5 == 4)))))], []⟩) ?_ (fun T hw => ?_)
 ·refine ns ?_
  refine Zm false (fun hc6 => ?_) (fun hc6 => ?_)
  ·(conv => whnf)
   refine st ?_
   exact wx (WS.mk (Zd (Zr (web hc6)) Zb) Zc)
  ·(conv => whnf)
   refine st ?_
   exact wx (WS.mk (Zd (Zr (web hc6)) Zb) Zc)
 obtain ⟨r0, hw⟩ := hw
 (conv => whnf)
 refine AWP.weak r0 hw ?_
 obtain rfl := Zg hF
 refine ns ?_
 refine Exists.intro [] ?_
 refine st ?_
 exact wx (WS.mk (tc Zb) Zc)

def Zc1 (s_0 : ByteArray) : Option (Bool) :=
 ZeN s_0 >>= fun r7 =>
 if r7.2.2 = true then
 Zc2 r7.2.1
 else
 Zc2 s_0
def Zc1.M (s_0 : ByteArray) (r : Bool) : Prop :=
 AWP Tryz.prog 34 (Code.sub (Zq Tryz.f103) [1, 1]) (Code.cont Tryz.prog 34 (Zq Tryz.f103) [1, 1] (ZbW tab Tryz.f103.results (ZbY (.c none (.v (.bool r))) []))) ⟨[(0, .c none (.v (.string s_0)))], []⟩
theorem ZiS (s_0 : ByteArray) (r : Bool) (hF : Zc1 s_0 = some r) : Zc1.M s_0 r := by
 unfold Zc1 at hF
 unfold Zc1.M
 refine AWP.seq ?_
 refine AWP.seq ?_
 obtain ⟨r7, hr7, hF⟩ := bind_some hF
 refine ns ?_
 refine e3 ?_
 refine st ?_
 refine cm (Zj.weak (rn []) (Zne s_0 _ hr7) rfl (WS.mk (tc Zb) Zc)) ?_
 refine st ?_
 refine AWP.seq ?_
 refine ns ?_
 refine nw ?_
 refine Zi hF (fun hc8 hF => ?_) (fun hc8 hF => ?_)
 ·refine ns ?_
  refine AWP.weak (rn []) ?_ (Zi2 r7.2.1 _ hF)
  exact (WS.mk (tc Zb) Zc)
 ·refine nw ?_
  refine AWP.weak (rn []) ?_ (Zi2 s_0 _ hF)
  exact (WS.mk (tc Zb) Zc)

def Zem (s : ByteArray) : Option (Bool) :=
 ZeZ s >>= fun r9 =>
 if r9.2.2 = true then
 Zc1 r9.1
 else
 Zc1 s
def Zem.M (s : ByteArray) (r : Bool) : Prop :=
 Zj Tryz.prog 103 [.c none (.v (.string s))] [] (fun d b => d = .c none (.v (.bool r)) ∧ b = [])
theorem ZpM (s : ByteArray) (r : Bool) (hF : Zem s = some r) : Zem.M s r := by
 unfold Zem at hF
 unfold Zem.M
 refine en Tryz.func103 ?_
 refine AWP.seq ?_
 refine ns ?_
 refine AWP.seq ?_
 refine AWP.seq ?_
 obtain ⟨r9, hr9, hF⟩ := bind_some hF
 refine ns ?_
 refine e3 ?_
 refine st ?_
 refine cm (Zj.weak (rn []) (Zkn s _ hr9) rfl (WS.mk (tc Zb) Zc)) ?_
 refine st ?_
 refine AWP.seq ?_
 refine ns ?_
 refine nw ?_
 refine Zi hF (fun Zdt hF => ?_) (fun Zdt hF => ?_)
 ·refine ns ?_
  refine AWP.weak (rn []) ?_ (ZiS r9.1 _ hF)
  exact (WS.mk (tc Zb) Zc)
 ·refine nw ?_
  refine AWP.weak (rn []) ?_ (ZiS s _ hF)
  exact (WS.mk (tc Zb) Zc)

def Za7 (s : ByteArray) : Option (Bool) :=
 ZeZ s >>= fun r4 =>
 if r4.2.2 = true then
 Zdm r4.1 >>= fun r6 =>
 some (r6 == 1)
 else
 Zdm s >>= fun r7 =>
 some ((r7 == 1) && (!(s.toList == (ByteArray.mk #[102, 111, 114, 97, 108, 108]).toList)))
def Za7.M (s : ByteArray) (r : Bool) : Prop :=
 Zj Tryz.prog 68 [.c none (.v (.string s))] [] (fun d b => d = .c none (.v (.bool r)) ∧ b = [])
theorem ZfD (s : ByteArray) (r : Bool) (hF : Za7 s = some r) : Za7.M s r := by
 unfold Za7 at hF
 unfold Za7.M
 refine en Tryz.func68 ?_
 refine AWP.seq ?_
 refine ns ?_
 refine AWP.seq ?_
 refine AWP.seq ?_
 obtain ⟨r4, hr4, hF⟩ := bind_some hF
 refine ns ?_
 refine e3 ?_
 refine st ?_
 refine cm (Zj.weak (rn []) (Zkn s _ hr4) rfl (WS.mk (tc Zb) Zc)) ?_
 refine st ?_
 refine AWP.seq ?_
 refine ns ?_
 refine nw ?_
 refine Zi hF (fun hc5 hF => ?_) (fun hc5 hF => ?_)
 ·refine AWP.seq ?_
  obtain ⟨r6, hr6, hF⟩ := bind_some hF
  refine ns ?_
  refine e3 ?_
  refine st ?_
  refine cm (Zj.weak (rn []) (Zhu r4.1 _ hr6) rfl (WS.mk (tc Zb) Zc)) ?_
  refine st ?_
  obtain rfl := Zg hF
  refine ns ?_
  refine Exists.intro [] ?_
  refine st ?_
  exact wx (WS.mk (tc Zb) Zc)
 ·refine nw ?_
  refine AWP.seq ?_
  obtain ⟨r7, hr7, hF⟩ := bind_some hF
  refine AWP.cutN (fun T => ∃ r, WS r T ⟨[(2, .c none (.v (.bool ((r7 == 1) && (!(s.toList == (ByteArray.mk #[102, 111, 114, 97, 108, 108]).toList))))))], []⟩) ?_ (fun T hw => ?_)
  ·refine ns ?_
   refine e3 ?_
   refine st ?_
   refine cm (Zj.weak (rn []) (Zhu s _ hr7) rfl (WS.mk (tc Zb) Zc)) ?_
   refine st ?_
   refine Zm true (fun hc8 => ?_) (fun hc8 => ?_)
   ·(conv => whnf)
    refine st ?_
    exact wx (WS.mk (Zd (Zr (web hc8)) Zb) Zc)
   ·(conv => whnf)
    refine st ?_
    exact wx (WS.mk (Zd (Zr (web hc8)) Zb) Zc)
  obtain ⟨r0, hw⟩ := hw
  (conv => whnf)
  refine AWP.weak r0 hw ?_
  obtain rfl := Zg hF
  refine ns ?_
  refine Exists.intro [] ?_
  refine st ?_
  exact wx (WS.mk (tc Zb) Zc)

def ZdJ (t : Za) (ZlB : Bool) : Option (Bool) :=
 if ZlB = true then
 Za7 t.fName >>= fun r21 =>
 some r21
 else
 if (t.fOp == 2) = true then
 Zeo t.fName >>= fun r23 =>
 (if r23 = true then some true else Zem t.fName >>= fun r24 =>
 some r24) >>= fun c25 =>
 some c25
 else
 some (t.fOp == 3)
def ZdJ.M (t : Za) (ZlB : Bool) (r : Bool) : Prop :=
 AWP Tryz.prog 60 (Code.sub (Zq Tryz.f73) [1, 1, 1, 1, 0, 1, 0, 1]) (Code.cont Tryz.prog 60 (Zq Tryz.f73) [1, 1, 1, 1, 0, 1, 0, 1] (ZbW tab Tryz.f73.results (ZbY (.c none (.v (.bool r))) []))) ⟨[(1, .ptr 1 0), (40, .c none (.v (.int .i64 t.fOp))), (41, .c none (.v (.bool ZlB)))], [(1, [(none, .v (.int .i64 t.fOp)), (none, .v (.string t.fName)), (none, .sl (t.fBound.fArgs.map Zk.cells)), (none, .sl (t.fKids.map Za.cells))])]⟩
theorem Zjt (t : Za) (ZlB : Bool) (r : Bool) (hF : ZdJ t ZlB = some r) : ZdJ.M t ZlB r := by
 unfold ZdJ at hF
 unfold ZdJ.M
 refine nw ?_
 refine Zi hF (fun ZDJ hF => ?_) (fun ZDJ hF => ?_)
 ·refine AWP.seq ?_
  obtain ⟨r21, ZDA, hF⟩ := bind_some hF
  refine ns ?_
  refine e3 ?_
  refine st ?_
  refine cm (Zj.weak (rn []) (ZfD t.fName _ ZDA) rfl (WS.mk (tc Zb) Zc)) ?_
  refine st ?_
  obtain rfl := Zg hF
  refine ns ?_
  refine Exists.intro [] ?_
  refine st ?_
  exact wx (WS.mk (tc Zb) Zc)
 ·refine AWP.seq ?_
  refine ns ?_
  refine nw ?_
  refine Zi hF (fun Zta hF => ?_) (fun Zta hF => ?_)
  ·refine AWP.seq ?_
   obtain ⟨r23, ZAa, hF⟩ := bind_some hF
   obtain ⟨c25, Zjs, hF⟩ := bind_some hF
   refine AWP.cutN (fun T => ∃ r, WS r T ⟨[(2, .c none (.v (.bool c25)))], []⟩) ?_ (fun T hw => ?_)
   ·refine ns ?_
    refine e3 ?_
    refine st ?_
    refine cm (Zj.weak (rn []) (ZpC t.fName _ ZAa) rfl (WS.mk (tc Zb) Zc)) ?_
    refine st ?_
    refine Zm false (fun ZlI => ?_) (fun ZlI => ?_)
    ·have Zjs := ift ZlI Zjs
     (conv => whnf)
     obtain rfl := Zg Zjs
     refine st ?_
     exact wx (WS.mk (Zd (Zr (web ZlI)) Zb) Zc)
    ·have Zjs := ife ZlI Zjs
     obtain ⟨r24, ZDy, Zjs⟩ := bind_some Zjs
     (conv => whnf)
     refine st ?_
     refine e3 ?_
     refine st ?_
     refine cm (Zj.weak (rn []) (ZpM t.fName _ ZDy) rfl (WS.mk (tc Zb) Zc)) ?_
     refine st ?_
     obtain rfl := Zg Zjs
     refine st ?_
     exact wx (WS.mk (Zd (Zr (web ZlI)) Zb) Zc)
   obtain ⟨r0, hw⟩ := hw
   (conv => whnf)
   refine AWP.weak r0 hw ?_
   obtain rfl := Zg hF
   refine ns ?_
   refine Exists.intro [] ?_
   refine st ?_
   exact wx (WS.mk (tc Zb) Zc)
  ·refine nw ?_
   refine AWP.seq ?_
   refine ns ?_
   obtain rfl := Zg hF
   refine ns ?_
   refine Exists.intro [] ?_
   refine st ?_
   exact wx (WS.mk (tc Zb) Zc)

mutual
def Zb2 (t : Za) : Option (Bool) :=
 if (((t.fOp != 4) && (decide (((t.fBound.fArgs.length : Nat) : Int) > 0))) || ((t.fOp == 3) && (!(t.fName.toList == (ByteArray.mk #[]).toList)))) = true then
 some false
 else
 ZeP (ZhW (ZhW ([] : List (Int × Int)) 3 2) 4 1) 0 t.fOp >>= fun r9 =>
 (if (((t.fKids.length : Nat) : Int) != r9.1) = true then some true else ZF t.fKids >>= fun r15 =>
 some r15) >>= fun c16 =>
 if c16 = true then
 some false
 else
 if (t.fOp == 1) = true then
 ZdJ t (t.fOp == 1)
 else
 ZdJ t (t.fOp == 4)
 partial_fixpoint
def ZF (s : (List Za)) : Option (Bool) :=
 ZX s >>= fun r1 =>
 some (decide (r1 ≥ 0))
 partial_fixpoint
def ZX (s : (List Za)) : Option (Int) :=
 Zz s 0 s
 partial_fixpoint
def Zz (s : (List Za)) (x_8 : Nat) (Zbz : (List Za)) : Option (Int) :=
 (match Zbz with
 | x13 :: Zrs =>
 Zdi x13 >>= fun r16 =>
 if r16 = true then
 some ((x_8 : Nat) : Int)
 else
 Zz s (x_8 + 1) Zrs
 | [] =>
 some (-1))
 partial_fixpoint
def Zdi (k : Za) : Option (Bool) :=
 Zb2 k >>= fun r1 =>
 some (!r1)
 partial_fixpoint
end
def Zb2.M (t : Za) (r : Bool) : Prop :=
 Zj Tryz.prog 73 [.agg [.v (.int .i64 t.fOp), .v (.string t.fName), .sl (t.fBound.fArgs.map Zk.cells), .sl (t.fKids.map Za.cells)]] [] (fun d b => d = .c none (.v (.bool r)) ∧ b = [])
def ZF.M (s : (List Za)) (r : Bool) : Prop :=
 Zj Tryz.prog 79 [.c none (.sl (s.map Za.cells)), .c none (.v (.func (.func 101) #[] #[]))] [] (fun d b => d = .c none (.v (.bool r)) ∧ b = [])
def ZX.M (s : (List Za)) (r : Int) : Prop :=
 Zj Tryz.prog 104 [.c none (.sl (s.map Za.cells)), .c none (.v (.func (.func 101) #[] #[]))] [] (fun d b => d = .c none (.v (.int .i64 r)) ∧ b = [])
def Zz.M (s : (List Za)) (x_8 : Nat) (Zbz : (List Za)) (r : Int) : Prop :=
 ∀ Zej : List Za, s = Zej ++ Zbz → x_8 = Zej.length → s.length ≤ maxLen → AWL Tryz.prog 19 (Code.sub (Zq Tryz.f104) [1, 0, 1, 0, 0]) (Code.cont Tryz.prog 19 (Zq Tryz.f104) [1, 0, 1, 0] (ZbW tab Tryz.f104.results (ZbY (.c none (.v (.int .i64 r))) []))) ⟨[(0, .c none (.sl (s.map Za.cells))), (1, .c none (.v (.func (.func 101) #[] #[]))), (7, .c none (.v (.int .i64 ((s.length : Nat) : Int)))), (8, .c none (.v (.int .i64 ((x_8 : Nat) : Int))))], []⟩
def Zdi.M (k : Za) (r : Bool) : Prop :=
 Zj Tryz.prog 101 [.agg [.v (.int .i64 k.fOp), .v (.string k.fName), .sl (k.fBound.fArgs.map Zk.cells), .sl (k.fKids.map Za.cells)]] [] (fun d b => d = .c none (.v (.bool r)) ∧ b = [])
theorem Zfd : (∀ (t : Za), ∀ r, Zb2 t = some r → Zb2.M t r) ∧ (∀ (s : (List Za)), ∀ r, ZF s = some r → ZF.M s r) ∧ (∀ (s : (List Za)), ∀ r, ZX s = some r → ZX.M s r) ∧ (∀ (s : (List Za)) (x_8 : Nat) (Zbz : (List Za)), ∀ r, Zz s x_8 Zbz = some r → Zz.M s x_8 Zbz r) ∧ (∀ (k : Za), ∀ r, Zdi k = some r → Zdi.M k r) := by
 refine Zb2.mutual_partial_correctness Zb2.M ZF.M ZX.M Zz.M Zdi.M ?_ ?_ ?_ ?_ ?_
 ·intro slices_ContainsFunc_Type_types_formed_1' Zfo t r hF
  unfold Zb2.M
  refine en Tryz.func73 ?_
  refine AWP.seq ?_
  refine ns ?_
  refine AWP.seq ?_
  refine AWP.seq ?_
  refine AWP.cutN (fun T => ∃ r, WS r T ⟨[(1, .ptr 1 0), (23, .c none (.v (.bool (((t.fOp != 4) && (decide (((t.fBound.fArgs.length : Nat) : Int) > 0))) || ((t.fOp == 3) && (!(t.fName.toList == (ByteArray.mk #[]).toList)))))))], [(1, [(none, .v (.int .i64 t.fOp)), (none, .v (.string t.fName)), (none, .sl (t.fBound.fArgs.map Zk.cells)), (none, .sl (t.fKids.map Za.cells))])]⟩) ?_ (fun T hw => ?_)
  ·refine ns ?_
   refine Zm true (fun hc4 => ?_) (fun hc4 => ?_)
   ·(conv => whnf)
    refine st ?_
    intro hlen3
    (try rw [List.length_map] at hlen3)
    (try rw [List.length_map])
    refine st ?_
    refine Zm false (fun hc5 => ?_) (fun hc5 => ?_)
    ·(conv => whnf)
     refine st ?_
     exact wx (WS.mk (tp (Zd (Zr (web (And.intro hc4 hc5))) Zb)) (Zf rfl (cc (cc (cc (cc Zh)))) Zc))
    ·(conv => whnf)
     refine st ?_
     refine Zm true (fun hc6 => ?_) (fun hc6 => ?_)
     ·(conv => whnf)
      refine st ?_
      exact wx (WS.mk (tp (Zd (Zr (web (And.intro hc4 (And.intro hc5 hc6)))) Zb)) (Zf rfl (cc (cc (cc (cc Zh)))) Zc))
     ·(conv => whnf)
      refine st ?_
      exact wx (WS.mk (tp (Zd (Zr (web (And.intro hc4 (And.intro hc5 hc6)))) Zb)) (Zf rfl (cc (cc (cc (cc Zh)))) Zc))
   ·(conv => whnf)
    refine st ?_
    refine Zm true (fun hc7 => ?_) (fun hc7 => ?_)
    ·(conv => whnf)
     refine st ?_
     exact wx (WS.mk (tp (Zd (Zr (web (And.intro hc4 hc7))) Zb)) (Zf rfl (cc (cc (cc (cc Zh)))) Zc))
    ·(conv => whnf)
     refine st ?_
     exact wx (WS.mk (tp (Zd (Zr (web (And.intro hc4 hc7))) Zb)) (Zf rfl (cc (cc (cc (cc Zh)))) Zc))
  obtain ⟨r0, hw⟩ := hw
  (conv => whnf)
  refine AWP.weak r0 hw ?_
  refine nw ?_
  refine Zi hF (fun hc8 hF => ?_) (fun hc8 hF => ?_)
  ·refine AWP.seq ?_
   refine ns ?_
   obtain rfl := Zg hF
   refine ns ?_
   refine Exists.intro [] ?_
   refine st ?_
   exact wx (WS.mk (tc Zb) Zc)
  ·refine nw ?_
   refine AWP.seq ?_
   obtain ⟨r9, hr9, hF⟩ := bind_some hF
   refine ns ?_
   refine ZoK (m := ([] : List (Int × Int))) (k := 3) (v := 2) Zm7 (ev := Zcv) (lc Zo) ?_
   refine st ?_
   refine ZoK (m := (ZhW ([] : List (Int × Int)) 3 2)) (k := 4) (v := 1) Zm7 (ev := Zcv) (lc Zo) ?_
   refine st ?_
   refine ZhE (m := (ZhW (ZhW ([] : List (Int × Int)) 3 2) 4 1)) (k := t.fOp) Zm7 (ev := Zcv) hr9 rfl (fun x => ZmL x) rfl rfl (lc Zo) ?_
   refine st ?_
   refine AWP.seq ?_
   refine AWP.seq ?_
   obtain ⟨c16, Zgv, hF⟩ := bind_some hF
   refine AWP.cutN (fun T => ∃ r, WS r T ⟨[(1, .ptr 1 0), (38, .c none (.v (.bool c16)))], [(1, [(none, .v (.int .i64 t.fOp)), (none, .v (.string t.fName)), (none, .sl (t.fBound.fArgs.map Zk.cells)), (none, .sl (t.fKids.map Za.cells))])]⟩) ?_ (fun T hw => ?_)
   ·refine ns ?_
    intro hlen14
    (try rw [List.length_map] at hlen14)
    (try rw [List.length_map])
    refine st ?_
    refine Zm false (fun ZiP => ?_) (fun ZiP => ?_)
    ·have Zgv := ift ZiP Zgv
     (conv => whnf)
     obtain rfl := Zg Zgv
     refine st ?_
     exact wx (WS.mk (tp (Zd (Zr (web ZiP)) Zb)) (Zf rfl (cc (cc (cc (cc Zh)))) Zc))
    ·have Zgv := ife ZiP Zgv
     obtain ⟨r15, Zwq, Zgv⟩ := bind_some Zgv
     (conv => whnf)
     refine st ?_
     refine e3 ?_
     refine st ?_
     refine cm (Zj.weak (rn []) (Zfo t.fKids _ Zwq) rfl (WS.mk (tc (tc Zb)) Zc)) ?_
     refine st ?_
     obtain rfl := Zg Zgv
     refine st ?_
     exact wx (WS.mk (tp (Zd (Zr (web ZiP)) Zb)) (Zf rfl (cc (cc (cc (cc Zh)))) Zc))
   obtain ⟨r0, hw⟩ := hw
   (conv => whnf)
   refine AWP.weak r0 hw ?_
   refine nw ?_
   refine Zi hF (fun Zt7 hF => ?_) (fun Zt7 hF => ?_)
   ·refine AWP.seq ?_
    refine ns ?_
    obtain rfl := Zg hF
    refine ns ?_
    refine Exists.intro [] ?_
    refine st ?_
    exact wx (WS.mk (tc Zb) Zc)
   ·refine nw ?_
    refine AWP.seq ?_
    refine AWP.seq ?_
    refine ns ?_
    refine AWP.block ?_
    refine AWP.seq ?_
    refine AWP.seq ?_
    refine ns ?_
    refine nw ?_
    refine Zi hF (fun Zto hF => ?_) (fun Zto hF => ?_)
    ·refine nw ?_
     refine AWP.weak (rn []) ?_ (Zjt t (t.fOp == 1) _ hF)
     exact (WS.mk (tp (tc (tc Zb))) (Zf rfl (cc (cc (cc (cc Zh)))) Zc))
    ·refine ns ?_
     refine AWP.weak (rn []) ?_ (Zjt t (t.fOp == 4) _ hF)
     exact (WS.mk (tp (tc (tc Zb))) (Zf rfl (cc (cc (cc (cc Zh)))) Zc))
 ·intro slices_IndexFunc_Type_types_formed_1' ZfP s r hF
  unfold ZF.M
  refine en Tryz.func79 ?_
  refine AWP.seq ?_
  refine ns ?_
  refine AWP.seq ?_
  obtain ⟨r1, hr1, hF⟩ := bind_some hF
  refine ns ?_
  refine e3 ?_
  refine st ?_
  refine cm (Zj.weak (rn []) (ZfP s _ hr1) rfl (WS.mk (tc (tc Zb)) Zc)) ?_
  refine st ?_
  obtain rfl := Zg hF
  refine ns ?_
  refine Exists.intro [] ?_
  refine st ?_
  exact wx (WS.mk (tc Zb) Zc)
 ·intro slices_IndexFunc_Type_types_formed_1_l1' Zcp s r hF
  unfold ZX.M
  refine en Tryz.func104 ?_
  refine AWP.seq ?_
  refine ns ?_
  refine AWP.seq ?_
  refine AWP.seq ?_
  refine ns ?_
  intro hlen1
  (try rw [List.length_map] at hlen1)
  (try rw [List.length_map])
  refine st ?_
  refine AWP.block ?_
  refine AWP.loop ?_
  refine AWL.weak (rn []) ?_ (Zcp s 0 s _ hF ([]) rfl rfl hlen1)
  exact (WS.mk (tc (tc (tc (tc Zb)))) Zc)
 ·intro slices_IndexFunc_Type_types_formed_1_l1' types_formed_1' Zcp Zpe s x_8 Zbz r hF
  unfold Zz.M
  intro Zej ZjM ZjU hlen1
  refine AWL.step ?_
  refine AWP.seq ?_
  refine ns ?_
  refine AWP.seq ?_
  refine nw ?_
  refine ZN ZjM ZjU (fun x13 Zrs Zrn Zye Zz5 => ?_) (fun Zrn => ?_)
  ·subst Zrn
   refine nw ?_
   refine AWP.seq ?_
   refine AWP.block ?_
   refine AWP.seq ?_
   refine ns ?_
   refine AWP.seq ?_
   obtain ⟨r16, Zwk, hF⟩ := bind_some hF
   refine nn ?_
   refine sr (Zab (f := Za.cells) (Za.cells_eq x13) Zye) ?_
   refine st ?_
   refine e3 ?_
   refine st ?_
   refine cm (Zj.weak (rn []) (Zpe x13 _ Zwk) rfl (WS.mk (Zd (Zt (lc (lc (lc (lc Zo))))) Zb) Zc)) ?_
   refine st ?_
   refine nw ?_
   refine Zi hF (fun ZiP hF => ?_) (fun ZiP hF => ?_)
   ·refine AWP.seq ?_
    refine ns ?_
    obtain rfl := Zg hF
    refine ns ?_
    refine Exists.intro [] ?_
    refine st ?_
    exact wx (WS.mk (tc Zb) Zc)
   ·refine nw ?_
    refine ns ?_
    refine AWL.weak (rn []) ?_ (Zcp s (x_8 + 1) Zrs _ hF (Zej ++ [x13]) (by rw [ZjM]; simp) (by rw [ZjU]; simp) hlen1)
    exact (WS.mk (tc (tc (tc (Zd (Zr (Zdf (ZV hlen1 Zz5))) Zb)))) Zc)
  ·subst Zrn
   refine nw ?_
   refine AWP.seq ?_
   refine ns ?_
   obtain rfl := Zg hF
   refine ns ?_
   refine Exists.intro [] ?_
   refine st ?_
   exact wx (WS.mk (tc Zb) Zc)
 ·intro types_formed' Zqb k r hF
  unfold Zdi.M
  refine en Tryz.func101 ?_
  refine AWP.seq ?_
  refine ns ?_
  refine AWP.seq ?_
  obtain ⟨r1, hr1, hF⟩ := bind_some hF
  refine ns ?_
  refine e3 ?_
  refine st ?_
  refine cm (Zj.weak (rn []) (Zqb k _ hr1) rfl (WS.mk (Zd (Zt (lc (lc (lc (lc Zo))))) Zb) Zc)) ?_
  refine st ?_
  obtain rfl := Zg hF
  refine ns ?_
  refine Exists.intro [] ?_
  refine st ?_
  exact wx (WS.mk (tc Zb) Zc)
theorem Zqn : ∀ (t : Za), ∀ r, Zb2 t = some r → Zb2.M t r := Zfd.1
theorem slices_ContainsFunc_Type_types_formed_1_ok : ∀ (s : (List Za)), ∀ r, ZF s = some r → ZF.M s r := Zfd.2.1
theorem slices_IndexFunc_Type_types_formed_1_ok : ∀ (s : (List Za)), ∀ r, ZX s = some r → ZX.M s r := Zfd.2.2.1
theorem slices_IndexFunc_Type_types_formed_1_l1_ok : ∀ (s : (List Za)) (x_8 : Nat) (Zbz : (List Za)), ∀ r, Zz s x_8 Zbz = some r → Zz.M s x_8 Zbz r := Zfd.2.2.2.1
theorem types_formed_1_ok : ∀ (k : Za), ∀ r, Zdi k = some r → Zdi.M k r := Zfd.2.2.2.2

mutual
def Zbt (k : Zk) : Option (Int) :=
 Za5 0 k 0 k.fArgs
 partial_fixpoint
def Za5 (n_3 : Int) (k : Zk) (x_9 : Nat) (ZaW : (List Zk)) : Option (Int) :=
 (match ZaW with
 | x11 :: Zlp =>
 Zbt x11 >>= fun r14 =>
 Za5 (if r14 > n_3 then r14 else n_3) k (x_9 + 1) Zlp
 | [] =>
 some (IntKind.i64.wrap (n_3 + 1)))
 partial_fixpoint
end
def Zbt.M (k : Zk) (r : Int) : Prop :=
 Zj Tryz.prog 78 [.agg [.sl (k.fArgs.map Zk.cells)]] [] (fun d b => d = .c none (.v (.int .i64 r)) ∧ b = [])
def Za5.M (n_3 : Int) (k : Zk) (x_9 : Nat) (ZaW : (List Zk)) (r : Int) : Prop :=
 ∀ Zdx : List Zk, k.fArgs = Zdx ++ ZaW → x_9 = Zdx.length → k.fArgs.length ≤ maxLen → AWL Tryz.prog 20 (Code.sub (Zq Tryz.f78) [1, 1, 0, 1, 0, 0]) (Code.cont Tryz.prog 20 (Zq Tryz.f78) [1, 1, 0, 1, 0] (ZbW tab Tryz.f78.results (ZbY (.c none (.v (.int .i64 r))) []))) ⟨[(3, .c none (.v (.int .i64 n_3))), (7, .c none (.sl (k.fArgs.map Zk.cells))), (8, .c none (.v (.int .i64 ((k.fArgs.length : Nat) : Int)))), (9, .c none (.v (.int .i64 ((x_9 : Nat) : Int))))], []⟩
theorem ZiW : (∀ (k : Zk), ∀ r, Zbt k = some r → Zbt.M k r) ∧ (∀ (n_3 : Int) (k : Zk) (x_9 : Nat) (ZaW : (List Zk)), ∀ r, Za5 n_3 k x_9 ZaW = some r → Za5.M n_3 k x_9 ZaW r) := by
 refine Zbt.mutual_partial_correctness Zbt.M Za5.M ?_ ?_
 ·intro types_kindDepth_l1' ZfE k r hF
  unfold Zbt.M
  refine en Tryz.func78 ?_
  refine AWP.seq ?_
  refine ns ?_
  refine AWP.seq ?_
  refine ns ?_
  refine AWP.seq ?_
  refine AWP.seq ?_
  refine ns ?_
  intro hlen1
  (try rw [List.length_map] at hlen1)
  (try rw [List.length_map])
  refine st ?_
  refine AWP.block ?_
  refine AWP.loop ?_
  refine AWL.weak (rn []) ?_ (ZfE 0 k 0 k.fArgs _ hF ([]) rfl rfl hlen1)
  exact (WS.mk (tc (tc (tc (tc Zb)))) Zc)
 ·intro types_kindDepth' types_kindDepth_l1' Zn8 ZfE n_3 k x_9 ZaW r hF
  unfold Za5.M
  intro Zdx ZhP ZhI hlen1
  refine AWL.step ?_
  refine AWP.seq ?_
  refine ns ?_
  refine AWP.seq ?_
  refine nw ?_
  refine ZN ZhP ZhI (fun x11 Zlp Zlf ZtV Zty => ?_) (fun Zlf => ?_)
  ·subst Zlf
   refine nw ?_
   refine AWP.seq ?_
   refine AWP.block ?_
   refine AWP.seq ?_
   refine nn ?_
   refine sr (Zab (f := Zk.cells) (Zk.cells_eq x11) ZtV) ?_
   refine st ?_
   obtain ⟨r14, ZrV, hF⟩ := bind_some hF
   refine ns ?_
   refine e3 ?_
   refine st ?_
   refine cm (Zj.weak (rn []) (Zn8 x11 _ ZrV) rfl (WS.mk (Zd (Zt (lc Zo)) Zb) Zc)) ?_
   refine st ?_
   refine ns ?_
   refine AWL.weak (rn []) ?_ (ZfE (if r14 > n_3 then r14 else n_3) k (x_9 + 1) Zlp _ hF (Zdx ++ [x11]) (by rw [ZhP]; simp) (by rw [ZhI]; simp) hlen1)
   exact (WS.mk (tc (tc (tc (Zd (Zr (Zdf (ZV hlen1 Zty))) Zb)))) Zc)
  ·subst Zlf
   refine nw ?_
   refine AWP.seq ?_
   refine ns ?_
   obtain rfl := Zg hF
   refine ns ?_
   refine Exists.intro [] ?_
   refine st ?_
   exact wx (WS.mk (tc Zb) Zc)
theorem Zod : ∀ (k : Zk), ∀ r, Zbt k = some r → Zbt.M k r := ZiW.1
theorem types_kindDepth_l1_ok : ∀ (n_3 : Int) (k : Zk) (x_9 : Nat) (ZaW : (List Zk)), ∀ r, Za5 n_3 k x_9 ZaW = some r → Za5.M n_3 k x_9 ZaW r := ZiW.2

mutual
def ZE (t : Za) : Option (Int) :=
 Zbt t.fBound >>= fun r1 =>
 ZI r1 t 0 t.fKids
 partial_fixpoint
def ZI (n_5 : Int) (t : Za) (Zfx : Nat) (Zcf : (List Za)) : Option (Int) :=
 (match Zcf with
 | x12 :: Zwo =>
 ZE x12 >>= fun r15 =>
 ZI (if r15 > n_5 then r15 else n_5) t (Zfx + 1) Zwo
 | [] =>
 some n_5)
 partial_fixpoint
end
def ZE.M (t : Za) (r : Int) : Prop :=
 Zj Tryz.prog 75 [.agg [.v (.int .i64 t.fOp), .v (.string t.fName), .sl (t.fBound.fArgs.map Zk.cells), .sl (t.fKids.map Za.cells)], .c none (.v (.func (.func 78) #[] #[]))] [] (fun d b => d = .c none (.v (.int .i64 r)) ∧ b = [])
def ZI.M (n_5 : Int) (t : Za) (Zfx : Nat) (Zcf : (List Za)) (r : Int) : Prop :=
 ∀ ZeQ : List Za, t.fKids = ZeQ ++ Zcf → Zfx = ZeQ.length → t.fKids.length ≤ maxLen → AWL Tryz.prog 26 (Code.sub (Zq Tryz.f75) [1, 1, 0, 1, 0, 0]) (Code.cont Tryz.prog 26 (Zq Tryz.f75) [1, 1, 0, 1, 0] (ZbW tab Tryz.f75.results (ZbY (.c none (.v (.int .i64 r))) []))) ⟨[(1, .c none (.v (.func (.func 78) #[] #[]))), (5, .c none (.v (.int .i64 n_5))), (13, .c none (.sl (t.fKids.map Za.cells))), (14, .c none (.v (.int .i64 ((t.fKids.length : Nat) : Int)))), (15, .c none (.v (.int .i64 ((Zfx : Nat) : Int))))], []⟩
theorem ZeA : (∀ (t : Za), ∀ r, ZE t = some r → ZE.M t r) ∧ (∀ (n_5 : Int) (t : Za) (Zfx : Nat) (Zcf : (List Za)), ∀ r, ZI n_5 t Zfx Zcf = some r → ZI.M n_5 t Zfx Zcf r) := by
 refine ZE.mutual_partial_correctness ZE.M ZI.M ?_ ?_
 ·intro types_greatest_types_kindDepth_l1' Zdc t r hF
  unfold ZE.M
  refine en Tryz.func75 ?_
  refine AWP.seq ?_
  refine ns ?_
  refine AWP.seq ?_
  obtain ⟨r1, hr1, hF⟩ := bind_some hF
  refine ns ?_
  refine e3 ?_
  refine st ?_
  refine cm (Zj.weak (rn []) (Zod t.fBound _ hr1) rfl (WS.mk (Zd (Zt (lc Zo)) Zb) Zc)) ?_
  refine st ?_
  refine AWP.seq ?_
  refine AWP.seq ?_
  refine ns ?_
  intro hlen2
  (try rw [List.length_map] at hlen2)
  (try rw [List.length_map])
  refine st ?_
  refine AWP.block ?_
  refine AWP.loop ?_
  refine AWL.weak (rn []) ?_ (Zdc r1 t 0 t.fKids _ hF ([]) rfl rfl hlen2)
  exact (WS.mk (tc (tc (tc (tc (tc Zb))))) Zc)
 ·intro types_greatest_types_kindDepth' types_greatest_types_kindDepth_l1' Zhj Zdc n_5 t Zfx Zcf r hF
  unfold ZI.M
  intro ZeQ Zkh Zkf hlen2
  refine AWL.step ?_
  refine AWP.seq ?_
  refine ns ?_
  refine AWP.seq ?_
  refine nw ?_
  refine ZN Zkh Zkf (fun x12 Zwo ZvD ZEi ZDr => ?_) (fun ZvD => ?_)
  ·subst ZvD
   refine nw ?_
   refine AWP.seq ?_
   refine AWP.block ?_
   refine AWP.seq ?_
   refine nn ?_
   refine sr (Zab (f := Za.cells) (Za.cells_eq x12) ZEi) ?_
   refine st ?_
   obtain ⟨r15, Zwq, hF⟩ := bind_some hF
   refine ns ?_
   refine e3 ?_
   refine st ?_
   refine cm (Zj.weak (rn []) (Zhj x12 _ Zwq) rfl (WS.mk (Zd (Zt (lc (lc (lc (lc Zo))))) (tc Zb)) Zc)) ?_
   refine st ?_
   refine ns ?_
   refine AWL.weak (rn []) ?_ (Zdc (if r15 > n_5 then r15 else n_5) t (Zfx + 1) Zwo _ hF (ZeQ ++ [x12]) (by rw [Zkh]; simp) (by rw [Zkf]; simp) hlen2)
   exact (WS.mk (tc (tc (tc (tc (Zd (Zr (Zdf (ZV hlen2 ZDr))) Zb))))) Zc)
  ·subst ZvD
   refine nw ?_
   refine AWP.seq ?_
   refine ns ?_
   obtain rfl := Zg hF
   refine ns ?_
   refine Exists.intro [] ?_
   refine st ?_
   exact wx (WS.mk (tc Zb) Zc)
theorem Zhn : ∀ (t : Za), ∀ r, ZE t = some r → ZE.M t r := ZeA.1
theorem types_greatest_types_kindDepth_l1_ok : ∀ (n_5 : Int) (t : Za) (Zfx : Nat) (Zcf : (List Za)), ∀ r, ZI n_5 t Zfx Zcf = some r → ZI.M n_5 t Zfx Zcf r := ZeA.2

mutual
def ZbP (k : Zk) : Option (Int) :=
 Zbv 1 k 0 k.fArgs
 partial_fixpoint
def Zbv (n_3 : Int) (k : Zk) (x_9 : Nat) (ZaW : (List Zk)) : Option (Int) :=
 (match ZaW with
 | x11 :: Zlp =>
 ZbP x11 >>= fun r14 =>
 Zbv (IntKind.i64.wrap (n_3 + r14)) k (x_9 + 1) Zlp
 | [] =>
 some n_3)
 partial_fixpoint
end
def ZbP.M (k : Zk) (r : Int) : Prop :=
 Zj Tryz.prog 76 [.agg [.sl (k.fArgs.map Zk.cells)]] [] (fun d b => d = .c none (.v (.int .i64 r)) ∧ b = [])
def Zbv.M (n_3 : Int) (k : Zk) (x_9 : Nat) (ZaW : (List Zk)) (r : Int) : Prop :=
 ∀ Zdx : List Zk, k.fArgs = Zdx ++ ZaW → x_9 = Zdx.length → k.fArgs.length ≤ maxLen → AWL Tryz.prog 19 (Code.sub (Zq Tryz.f76) [1, 1, 0, 1, 0, 0]) (Code.cont Tryz.prog 19 (Zq Tryz.f76) [1, 1, 0, 1, 0] (ZbW tab Tryz.f76.results (ZbY (.c none (.v (.int .i64 r))) []))) ⟨[(3, .c none (.v (.int .i64 n_3))), (7, .c none (.sl (k.fArgs.map Zk.cells))), (8, .c none (.v (.int .i64 ((k.fArgs.length : Nat) : Int)))), (9, .c none (.v (.int .i64 ((x_9 : Nat) : Int))))], []⟩
theorem Zjy : (∀ (k : Zk), ∀ r, ZbP k = some r → ZbP.M k r) ∧ (∀ (n_3 : Int) (k : Zk) (x_9 : Nat) (ZaW : (List Zk)), ∀ r, Zbv n_3 k x_9 ZaW = some r → Zbv.M n_3 k x_9 ZaW r) := by
 refine ZbP.mutual_partial_correctness ZbP.M Zbv.M ?_ ?_
 ·intro types_kindSize_l1' Zga k r hF
  unfold ZbP.M
  refine en Tryz.func76 ?_
  refine AWP.seq ?_
  refine ns ?_
  refine AWP.seq ?_
  refine ns ?_
  refine AWP.seq ?_
  refine AWP.seq ?_
  refine ns ?_
  intro hlen1
  (try rw [List.length_map] at hlen1)
  (try rw [List.length_map])
  refine st ?_
  refine AWP.block ?_
  refine AWP.loop ?_
  refine AWL.weak (rn []) ?_ (Zga 1 k 0 k.fArgs _ hF ([]) rfl rfl hlen1)
  exact (WS.mk (tc (tc (tc (tc Zb)))) Zc)
 ·intro types_kindSize' types_kindSize_l1' Zo6 Zga n_3 k x_9 ZaW r hF
  unfold Zbv.M
  intro Zdx ZhP ZhI hlen1
  refine AWL.step ?_
  refine AWP.seq ?_
  refine ns ?_
  refine AWP.seq ?_
  refine nw ?_
  refine ZN ZhP ZhI (fun x11 Zlp Zlf ZtV Zty => ?_) (fun Zlf => ?_)
  ·subst Zlf
   refine nw ?_
   refine AWP.seq ?_
   refine AWP.block ?_
   refine AWP.seq ?_
   refine nn ?_
   refine sr (Zab (f := Zk.cells) (Zk.cells_eq x11) ZtV) ?_
   refine st ?_
   obtain ⟨r14, ZrV, hF⟩ := bind_some hF
   refine ns ?_
   refine e3 ?_
   refine st ?_
   refine cm (Zj.weak (rn []) (Zo6 x11 _ ZrV) rfl (WS.mk (Zd (Zt (lc Zo)) Zb) Zc)) ?_
   refine st ?_
   refine ns ?_
   refine AWL.weak (rn []) ?_ (Zga (IntKind.i64.wrap (n_3 + r14)) k (x_9 + 1) Zlp _ hF (Zdx ++ [x11]) (by rw [ZhP]; simp) (by rw [ZhI]; simp) hlen1)
   exact (WS.mk (tc (tc (tc (Zd (Zr (Zdf (ZV hlen1 Zty))) Zb)))) Zc)
  ·subst Zlf
   refine nw ?_
   refine AWP.seq ?_
   refine ns ?_
   obtain rfl := Zg hF
   refine ns ?_
   refine Exists.intro [] ?_
   refine st ?_
   exact wx (WS.mk (tc Zb) Zc)
theorem ZoJ : ∀ (k : Zk), ∀ r, ZbP k = some r → ZbP.M k r := Zjy.1
theorem types_kindSize_l1_ok : ∀ (n_3 : Int) (k : Zk) (x_9 : Nat) (ZaW : (List Zk)), ∀ r, Zbv n_3 k x_9 ZaW = some r → Zbv.M n_3 k x_9 ZaW r := Zjy.2

mutual
def ZH (t : Za) : Option (Int) :=
 ZbP t.fBound >>= fun r1 =>
 ZL r1 t 0 t.fKids
 partial_fixpoint
def ZL (n_5 : Int) (t : Za) (Zfx : Nat) (Zcf : (List Za)) : Option (Int) :=
 (match Zcf with
 | x12 :: Zwo =>
 ZH x12 >>= fun r15 =>
 ZL (if r15 > n_5 then r15 else n_5) t (Zfx + 1) Zwo
 | [] =>
 some n_5)
 partial_fixpoint
end
def ZH.M (t : Za) (r : Int) : Prop :=
 Zj Tryz.prog 75 [.agg [.v (.int .i64 t.fOp), .v (.string t.fName), .sl (t.fBound.fArgs.map Zk.cells), .sl (t.fKids.map Za.cells)], .c none (.v (.func (.func 76) #[] #[]))] [] (fun d b => d = .c none (.v (.int .i64 r)) ∧ b = [])
def ZL.M (n_5 : Int) (t : Za) (Zfx : Nat) (Zcf : (List Za)) (r : Int) : Prop :=
 ∀ ZeQ : List Za, t.fKids = ZeQ ++ Zcf → Zfx = ZeQ.length → t.fKids.length ≤ maxLen → AWL Tryz.prog 26 (Code.sub (Zq Tryz.f75) [1, 1, 0, 1, 0, 0]) (Code.cont Tryz.prog 26 (Zq Tryz.f75) [1, 1, 0, 1, 0] (ZbW tab Tryz.f75.results (ZbY (.c none (.v (.int .i64 r))) []))) ⟨[(1, .c none (.v (.func (.func 76) #[] #[]))), (5, .c none (.v (.int .i64 n_5))), (13, .c none (.sl (t.fKids.map Za.cells))), (14, .c none (.v (.int .i64 ((t.fKids.length : Nat) : Int)))), (15, .c none (.v (.int .i64 ((Zfx : Nat) : Int))))], []⟩
theorem ZeG : (∀ (t : Za), ∀ r, ZH t = some r → ZH.M t r) ∧ (∀ (n_5 : Int) (t : Za) (Zfx : Nat) (Zcf : (List Za)), ∀ r, ZL n_5 t Zfx Zcf = some r → ZL.M n_5 t Zfx Zcf r) := by
 refine ZH.mutual_partial_correctness ZH.M ZL.M ?_ ?_
 ·intro types_greatest_types_kindSize_l1' Zdl t r hF
  unfold ZH.M
  refine en Tryz.func75 ?_
  refine AWP.seq ?_
  refine ns ?_
  refine AWP.seq ?_
  obtain ⟨r1, hr1, hF⟩ := bind_some hF
  refine ns ?_
  refine e3 ?_
  refine st ?_
  refine cm (Zj.weak (rn []) (ZoJ t.fBound _ hr1) rfl (WS.mk (Zd (Zt (lc Zo)) Zb) Zc)) ?_
  refine st ?_
  refine AWP.seq ?_
  refine AWP.seq ?_
  refine ns ?_
  intro hlen2
  (try rw [List.length_map] at hlen2)
  (try rw [List.length_map])
  refine st ?_
  refine AWP.block ?_
  refine AWP.loop ?_
  refine AWL.weak (rn []) ?_ (Zdl r1 t 0 t.fKids _ hF ([]) rfl rfl hlen2)
  exact (WS.mk (tc (tc (tc (tc (tc Zb))))) Zc)
 ·intro types_greatest_types_kindSize' types_greatest_types_kindSize_l1' Zhq Zdl n_5 t Zfx Zcf r hF
  unfold ZL.M
  intro ZeQ Zkh Zkf hlen2
  refine AWL.step ?_
  refine AWP.seq ?_
  refine ns ?_
  refine AWP.seq ?_
  refine nw ?_
  refine ZN Zkh Zkf (fun x12 Zwo ZvD ZEi ZDr => ?_) (fun ZvD => ?_)
  ·subst ZvD
   refine nw ?_
   refine AWP.seq ?_
   refine AWP.block ?_
   refine AWP.seq ?_
   refine nn ?_
   refine sr (Zab (f := Za.cells) (Za.cells_eq x12) ZEi) ?_
   refine st ?_
   obtain ⟨r15, Zwq, hF⟩ := bind_some hF
   refine ns ?_
   refine e3 ?_
   refine st ?_
   refine cm (Zj.weak (rn []) (Zhq x12 _ Zwq) rfl (WS.mk (Zd (Zt (lc (lc (lc (lc Zo))))) (tc Zb)) Zc)) ?_
   refine st ?_
   refine ns ?_
   refine AWL.weak (rn []) ?_ (Zdl (if r15 > n_5 then r15 else n_5) t (Zfx + 1) Zwo _ hF (ZeQ ++ [x12]) (by rw [Zkh]; simp) (by rw [Zkf]; simp) hlen2)
   exact (WS.mk (tc (tc (tc (tc (Zd (Zr (Zdf (ZV hlen2 ZDr))) Zb))))) Zc)
  ·subst ZvD
   refine nw ?_
   refine AWP.seq ?_
   refine ns ?_
   obtain rfl := Zg hF
   refine ns ?_
   refine Exists.intro [] ?_
   refine st ?_
   exact wx (WS.mk (tc Zb) Zc)
theorem Zhv : ∀ (t : Za), ∀ r, ZH t = some r → ZH.M t r := ZeG.1
theorem types_greatest_types_kindSize_l1_ok : ∀ (n_5 : Int) (t : Za) (Zfx : Nat) (Zcf : (List Za)), ∀ r, ZL n_5 t Zfx Zcf = some r → ZL.M n_5 t Zfx Zcf r := ZeG.2

def Zci (t : Za) : Option (Int) :=
 Zb2 t >>= fun r1 =>
 if (!r1) = true then
 some 1
 else
 ZcE t >>= fun r3 =>
 (if (decide (r3 > 20000)) = true then some true else ZH t >>= fun r4 =>
 some (decide (r4 > 20000))) >>= fun c5 =>
 if c5 = true then
 some 3
 else
 Zcg t >>= fun r8 =>
 (if (decide (r8 > 100)) = true then some true else ZE t >>= fun r9 =>
 some (decide (r9 > 100))) >>= fun c10 =>
 if c10 = true then
 some 4
 else
 some 0
def Zci.M (t : Za) (r : Int) : Prop :=
 Zj Tryz.prog 50 [.agg [.v (.int .i64 t.fOp), .v (.string t.fName), .sl (t.fBound.fArgs.map Zk.cells), .sl (t.fKids.map Za.cells)]] [] (fun d b => d = .c none (.v (.int .i64 r)) ∧ b = [])
theorem Zff (t : Za) (r : Int) (hF : Zci t = some r) : Zci.M t r := by
 unfold Zci at hF
 unfold Zci.M
 refine en Tryz.func50 ?_
 refine AWP.seq ?_
 refine ns ?_
 refine AWP.seq ?_
 refine AWP.block ?_
 refine AWP.seq ?_
 obtain ⟨r1, hr1, hF⟩ := bind_some hF
 refine ns ?_
 refine e3 ?_
 refine st ?_
 refine cm (Zj.weak (rn []) (Zqn t _ hr1) rfl (WS.mk (Zd (Zt (lc (lc (lc (lc Zo))))) Zb) Zc)) ?_
 refine st ?_
 refine nw ?_
 refine Zi hF (fun hc2 hF => ?_) (fun hc2 hF => ?_)
 ·refine AWP.seq ?_
  refine ns ?_
  obtain rfl := Zg hF
  refine ns ?_
  refine Exists.intro [] ?_
  refine st ?_
  exact wx (WS.mk (tc Zb) Zc)
 ·refine AWP.seq ?_
  obtain ⟨r3, hr3, hF⟩ := bind_some hF
  obtain ⟨c5, hc5, hF⟩ := bind_some hF
  refine AWP.cutN (fun T => ∃ r, WS r T ⟨[(1, .ptr 1 0), (7, .c none (.v (.bool c5)))], [(1, [(none, .v (.int .i64 t.fOp)), (none, .v (.string t.fName)), (none, .sl (t.fBound.fArgs.map Zk.cells)), (none, .sl (t.fKids.map Za.cells))])]⟩) ?_ (fun T hw => ?_)
  ·refine ns ?_
   refine e3 ?_
   refine st ?_
   refine cm (Zj.weak (rn []) (ZnV t _ hr3) rfl (WS.mk (Zd (Zt (lc (lc (lc (lc Zo))))) Zb) Zc)) ?_
   refine st ?_
   refine Zm false (fun hc6 => ?_) (fun hc6 => ?_)
   ·have hc5 := ift hc6 hc5
    (conv => whnf)
    obtain rfl := Zg hc5
    refine st ?_
    exact wx (WS.mk (tp (Zd (Zr (web hc6)) Zb)) (Zf rfl (cc (cc (cc (cc Zh)))) Zc))
   ·have hc5 := ife hc6 hc5
    obtain ⟨r4, hr4, hc5⟩ := bind_some hc5
    (conv => whnf)
    refine st ?_
    refine e3 ?_
    refine st ?_
    refine cm (Zj.weak (rn []) (Zhv t _ hr4) rfl (WS.mk (Zd (Zt (lc (lc (lc (lc Zo))))) (tc Zb)) Zc)) ?_
    refine st ?_
    obtain rfl := Zg hc5
    refine st ?_
    exact wx (WS.mk (tp (Zd (Zr (web hc6)) Zb)) (Zf rfl (cc (cc (cc (cc Zh)))) Zc))
  obtain ⟨r0, hw⟩ := hw
  (conv => whnf)
  refine AWP.weak r0 hw ?_
  refine nw ?_
  refine Zi hF (fun hc7 hF => ?_) (fun hc7 hF => ?_)
  ·refine AWP.seq ?_
   refine ns ?_
   obtain rfl := Zg hF
   refine ns ?_
   refine Exists.intro [] ?_
   refine st ?_
   exact wx (WS.mk (tc Zb) Zc)
  ·refine AWP.seq ?_
   obtain ⟨r8, hr8, hF⟩ := bind_some hF
   obtain ⟨c10, Zdt, hF⟩ := bind_some hF
   refine AWP.cutN (fun T => ∃ r, WS r T ⟨[(16, .c none (.v (.bool c10)))], []⟩) ?_ (fun T hw => ?_)
   ·refine ns ?_
    refine e3 ?_
    refine st ?_
    refine cm (Zj.weak (rn []) (Zm8 t _ hr8) rfl (WS.mk (Zd (Zt (lc (lc (lc (lc Zo))))) Zb) Zc)) ?_
    refine st ?_
    refine Zm false (fun ZcP => ?_) (fun ZcP => ?_)
    ·have Zdt := ift ZcP Zdt
     (conv => whnf)
     obtain rfl := Zg Zdt
     refine st ?_
     exact wx (WS.mk (Zd (Zr (web ZcP)) Zb) Zc)
    ·have Zdt := ife ZcP Zdt
     obtain ⟨r9, hr9, Zdt⟩ := bind_some Zdt
     (conv => whnf)
     refine st ?_
     refine e3 ?_
     refine st ?_
     refine cm (Zj.weak (rn []) (Zhn t _ hr9) rfl (WS.mk (Zd (Zt (lc (lc (lc (lc Zo))))) (tc Zb)) Zc)) ?_
     refine st ?_
     obtain rfl := Zg Zdt
     refine st ?_
     exact wx (WS.mk (Zd (Zr (web ZcP)) Zb) Zc)
   obtain ⟨r0, hw⟩ := hw
   (conv => whnf)
   refine AWP.weak r0 hw ?_
   refine nw ?_
   refine Zi hF (fun ZcJ hF => ?_) (fun ZcJ hF => ?_)
   ·refine AWP.seq ?_
    refine ns ?_
    obtain rfl := Zg hF
    refine ns ?_
    refine Exists.intro [] ?_
    refine st ?_
    exact wx (WS.mk (tc Zb) Zc)
   ·refine nw ?_
    refine AWP.seq ?_
    refine ns ?_
    obtain rfl := Zg hF
    refine ns ?_
    refine Exists.intro [] ?_
    refine st ?_
    exact wx (WS.mk (tc Zb) Zc)

mutual
def ZaH (t : Za) : Option (Int) :=
 ZaU 0 0 t t.fKids
 partial_fixpoint
def ZaU (n_3 : Int) (i_4 : Nat) (t : Za) (ZaO : (List Za)) : Option (Int) :=
 (match ZaO with
 | x16 :: ZjV =>
 ZaH x16 >>= fun r19 =>
 ZaU (if r19 > n_3 then r19 else n_3) (i_4 + 1) t ZjV
 | [] =>
 some (IntKind.i64.wrap (n_3 + 1)))
 partial_fixpoint
end
def ZaH.M (t : Za) (r : Int) : Prop :=
 Zj Tryz.prog 29 [.agg [.v (.int .i64 t.fOp), .v (.string t.fName), .sl (t.fBound.fArgs.map Zk.cells), .sl (t.fKids.map Za.cells)]] [] (fun d b => d = .c none (.v (.int .i64 r)) ∧ b = [])
def ZaU.M (n_3 : Int) (i_4 : Nat) (t : Za) (ZaO : (List Za)) (r : Int) : Prop :=
 ∀ Zdw : List Za, t.fKids = Zdw ++ ZaO → i_4 = Zdw.length → AWL Tryz.prog 22 (Code.sub (Zq Tryz.f29) [1, 1, 0, 1, 0, 0]) (Code.cont Tryz.prog 22 (Zq Tryz.f29) [1, 1, 0, 1, 0] (ZbW tab Tryz.f29.results (ZbY (.c none (.v (.int .i64 r))) []))) ⟨[(1, .ptr 1 0), (3, .c none (.v (.int .i64 n_3))), (4, .c none (.v (.int .i64 ((i_4 : Nat) : Int))))], [(1, [(none, .v (.int .i64 t.fOp)), (none, .v (.string t.fName)), (none, .sl (t.fBound.fArgs.map Zk.cells)), (none, .sl (t.fKids.map Za.cells))])]⟩
theorem ZiI : (∀ (t : Za), ∀ r, ZaH t = some r → ZaH.M t r) ∧ (∀ (n_3 : Int) (i_4 : Nat) (t : Za) (ZaO : (List Za)), ∀ r, ZaU n_3 i_4 t ZaO = some r → ZaU.M n_3 i_4 t ZaO r) := by
 refine ZaH.mutual_partial_correctness ZaH.M ZaU.M ?_ ?_
 ·intro lazycref04_Depth_l1' Zfn t r hF
  unfold ZaH.M
  refine en Tryz.func29 ?_
  refine AWP.seq ?_
  refine ns ?_
  refine AWP.seq ?_
  refine ns ?_
  refine AWP.seq ?_
  refine AWP.seq ?_
  refine ns ?_
  refine AWP.block ?_
  refine AWP.loop ?_
  refine AWL.weak (rn []) ?_ (Zfn 0 0 t t.fKids _ hF ([]) rfl rfl)
  exact (WS.mk (tp (tc (tc Zb))) (Zf rfl (cc (cc (cc (cc Zh)))) Zc))
 ·intro lazycref04_Depth' lazycref04_Depth_l1' ZnF Zfn n_3 i_4 t ZaO r hF
  unfold ZaU.M
  intro Zdw ZhS Zhw
  refine AWL.step ?_
  refine AWP.seq ?_
  refine AWP.seq ?_
  refine ns ?_
  intro hlen15
  (try rw [List.length_map] at hlen15)
  (try rw [List.length_map])
  refine st ?_
  refine nw ?_
  refine ZN ZhS Zhw (fun x16 ZjV ZjR Zrh ZqC => ?_) (fun ZjR => ?_)
  ·subst ZjR
   refine nw ?_
   refine AWP.seq ?_
   refine AWP.block ?_
   obtain ⟨r19, Ztt, hF⟩ := bind_some hF
   refine nn ?_
   refine sr (Zab (f := Za.cells) (Za.cells_eq x16) Zrh) ?_
   refine st ?_
   refine e3 ?_
   refine st ?_
   refine cm (Zj.weak (rn []) (ZnF x16 _ Ztt) rfl (WS.mk (Zd (Zt (lc (lc (lc (lc Zo))))) Zb) Zc)) ?_
   refine st ?_
   refine ns ?_
   refine AWL.weak (rn []) ?_ (Zfn (if r19 > n_3 then r19 else n_3) (i_4 + 1) t ZjV _ hF (Zdw ++ [x16]) (by rw [ZhS]; simp) (by rw [Zhw]; simp))
   exact (WS.mk (tp (tc (Zd (Zr (Zdf (ZV hlen15 ZqC))) Zb))) (Zf rfl (cc (cc (cc (cc Zh)))) Zc))
  ·subst ZjR
   refine nw ?_
   refine AWP.seq ?_
   refine ns ?_
   obtain rfl := Zg hF
   refine ns ?_
   refine Exists.intro [] ?_
   refine st ?_
   exact wx (WS.mk (tc Zb) Zc)
theorem Zgt : ∀ (t : Za), ∀ r, ZaH t = some r → ZaH.M t r := ZiI.1
theorem lazycref04_Depth_l1_ok : ∀ (n_3 : Int) (i_4 : Nat) (t : Za) (ZaO : (List Za)), ∀ r, ZaU n_3 i_4 t ZaO = some r → ZaU.M n_3 i_4 t ZaO r := ZiI.2

mutual
def ZaK (t : Za) : Option (Int) :=
 Za9 1 0 t t.fKids
 partial_fixpoint
def Za9 (n_3 : Int) (i_4 : Nat) (t : Za) (ZaO : (List Za)) : Option (Int) :=
 (match ZaO with
 | x16 :: ZjV =>
 ZaK x16 >>= fun r19 =>
 Za9 (IntKind.i64.wrap (n_3 + r19)) (i_4 + 1) t ZjV
 | [] =>
 some n_3)
 partial_fixpoint
end
def ZaK.M (t : Za) (r : Int) : Prop :=
 Zj Tryz.prog 28 [.agg [.v (.int .i64 t.fOp), .v (.string t.fName), .sl (t.fBound.fArgs.map Zk.cells), .sl (t.fKids.map Za.cells)]] [] (fun d b => d = .c none (.v (.int .i64 r)) ∧ b = [])
def Za9.M (n_3 : Int) (i_4 : Nat) (t : Za) (ZaO : (List Za)) (r : Int) : Prop :=
 ∀ Zdw : List Za, t.fKids = Zdw ++ ZaO → i_4 = Zdw.length → AWL Tryz.prog 21 (Code.sub (Zq Tryz.f28) [1, 1, 0, 1, 0, 0]) (Code.cont Tryz.prog 21 (Zq Tryz.f28) [1, 1, 0, 1, 0] (ZbW tab Tryz.f28.results (ZbY (.c none (.v (.int .i64 r))) []))) ⟨[(1, .ptr 1 0), (3, .c none (.v (.int .i64 n_3))), (4, .c none (.v (.int .i64 ((i_4 : Nat) : Int))))], [(1, [(none, .v (.int .i64 t.fOp)), (none, .v (.string t.fName)), (none, .sl (t.fBound.fArgs.map Zk.cells)), (none, .sl (t.fKids.map Za.cells))])]⟩
theorem ZiT : (∀ (t : Za), ∀ r, ZaK t = some r → ZaK.M t r) ∧ (∀ (n_3 : Int) (i_4 : Nat) (t : Za) (ZaO : (List Za)), ∀ r, Za9 n_3 i_4 t ZaO = some r → Za9.M n_3 i_4 t ZaO r) := by
 refine ZaK.mutual_partial_correctness ZaK.M Za9.M ?_ ?_
 ·intro lazycref04_Size_l1' ZfG t r hF
  unfold ZaK.M
  refine en Tryz.func28 ?_
  refine AWP.seq ?_
  refine ns ?_
  refine AWP.seq ?_
  refine ns ?_
  refine AWP.seq ?_
  refine AWP.seq ?_
  refine ns ?_
  refine AWP.block ?_
  refine AWP.loop ?_
  refine AWL.weak (rn []) ?_ (ZfG 1 0 t t.fKids _ hF ([]) rfl rfl)
  exact (WS.mk (tp (tc (tc Zb))) (Zf rfl (cc (cc (cc (cc Zh)))) Zc))
 ·intro lazycref04_Size' lazycref04_Size_l1' Zn2 ZfG n_3 i_4 t ZaO r hF
  unfold Za9.M
  intro Zdw ZhS Zhw
  refine AWL.step ?_
  refine AWP.seq ?_
  refine AWP.seq ?_
  refine ns ?_
  intro hlen15
  (try rw [List.length_map] at hlen15)
  (try rw [List.length_map])
  refine st ?_
  refine nw ?_
  refine ZN ZhS Zhw (fun x16 ZjV ZjR Zrh ZqC => ?_) (fun ZjR => ?_)
  ·subst ZjR
   refine nw ?_
   refine AWP.seq ?_
   refine AWP.block ?_
   obtain ⟨r19, Ztt, hF⟩ := bind_some hF
   refine nn ?_
   refine sr (Zab (f := Za.cells) (Za.cells_eq x16) Zrh) ?_
   refine st ?_
   refine e3 ?_
   refine st ?_
   refine cm (Zj.weak (rn []) (Zn2 x16 _ Ztt) rfl (WS.mk (Zd (Zt (lc (lc (lc (lc Zo))))) Zb) Zc)) ?_
   refine st ?_
   refine ns ?_
   refine AWL.weak (rn []) ?_ (ZfG (IntKind.i64.wrap (n_3 + r19)) (i_4 + 1) t ZjV _ hF (Zdw ++ [x16]) (by rw [ZhS]; simp) (by rw [Zhw]; simp))
   exact (WS.mk (tp (tc (Zd (Zr (Zdf (ZV hlen15 ZqC))) Zb))) (Zf rfl (cc (cc (cc (cc Zh)))) Zc))
  ·subst ZjR
   refine nw ?_
   refine AWP.seq ?_
   refine ns ?_
   obtain rfl := Zg hF
   refine ns ?_
   refine Exists.intro [] ?_
   refine st ?_
   exact wx (WS.mk (tc Zb) Zc)
theorem ZgZ : ∀ (t : Za), ∀ r, ZaK t = some r → ZaK.M t r := ZiT.1
theorem lazycref04_Size_l1_ok : ∀ (n_3 : Int) (i_4 : Nat) (t : Za) (ZaO : (List Za)), ∀ r, Za9 n_3 i_4 t ZaO = some r → Za9.M n_3 i_4 t ZaO r := ZiT.2

def Zax (n : Int) (s_3 : ByteArray) (i_4 : Nat) : Option (ByteArray) :=
 if (decide (((i_4 : Nat) : Int) < n)) = true then
 Z4 (((s_3.size + (ByteArray.mk #[44]).size : Nat) : Int) ≤ IntKind.i64.max) >>= fun _ =>
 Z4 (i_4 + 1 ≤ 9223372036854775807) >>= fun _ =>
 Zax n (s_3 ++ (ByteArray.mk #[44])) (i_4 + 1)
 else
 Z4 (((s_3.size + (ByteArray.mk #[41]).size : Nat) : Int) ≤ IntKind.i64.max) >>= fun _ =>
 some (s_3 ++ (ByteArray.mk #[41]))
 partial_fixpoint
def Zax.M (n : Int) (s_3 : ByteArray) (i_4 : Nat) (r : ByteArray) : Prop :=
 AWL Tryz.prog 14 (Code.sub (Zq Tryz.f128) [1, 1, 0, 1, 0, 0]) (Code.cont Tryz.prog 14 (Zq Tryz.f128) [1, 1, 0, 1, 0] (ZbW tab Tryz.f128.results (ZbY (.c none (.v (.string r))) []))) ⟨[(0, .c none (.v (.int .i64 n))), (3, .c none (.v (.string s_3))), (4, .c none (.v (.int .i64 ((i_4 : Nat) : Int))))], []⟩
theorem ZjC (n : Int) (s_3 : ByteArray) (i_4 : Nat) : ∀ r, Zax n s_3 i_4 = some r → Zax.M n s_3 i_4 r := by
 refine Zax.partial_correctness n (fun s_3 i_4 r => Zax.M n s_3 i_4 r) ?_ s_3 i_4
 intro lazycref04_TupleName_l1' ZfN s_3 i_4 r hF
 have Zjz := fun (_n : Int) (s_3 : ByteArray) (i_4 : Nat) => ZfN s_3 i_4
 clear ZfN
 unfold Zax.M
 refine AWL.step ?_
 refine AWP.seq ?_
 refine AWP.seq ?_
 refine ns ?_
 refine nw ?_
 refine Zi hF (fun hc9 hF => ?_) (fun hc9 hF => ?_)
 ·refine nw ?_
  refine AWP.seq ?_
  refine AWP.block ?_
  obtain ⟨ZzF, hF⟩ := Zy hF
  refine ns ?_
  refine And.intro ZzF ?_
  refine st ?_
  obtain ⟨ZDi, hF⟩ := Zy hF
  refine ns ?_
  refine AWL.weak (rn []) ?_ (Zjz n (s_3 ++ (ByteArray.mk #[44])) (i_4 + 1) _ hF)
  exact (WS.mk (tc (tc (Zd (Zr (Zdf (Zdv ZDi))) Zb))) Zc)
 ·refine nw ?_
  refine AWP.seq ?_
  obtain ⟨ZCs, hF⟩ := Zy hF
  refine ns ?_
  refine And.intro ZCs ?_
  refine st ?_
  obtain rfl := Zg hF
  refine ns ?_
  refine Exists.intro [] ?_
  refine st ?_
  exact wx (WS.mk (tc Zb) Zc)

def Zcj (n : Int) : Option (ByteArray) :=
 Zax n (ByteArray.mk #[40]) 1
def Zcj.M (n : Int) (r : ByteArray) : Prop :=
 Zj Tryz.prog 128 [.c none (.v (.int .i64 n))] [] (fun d b => d = .c none (.v (.string r)) ∧ b = [])
theorem ZkC (n : Int) (r : ByteArray) (hF : Zcj n = some r) : Zcj.M n r := by
 unfold Zcj at hF
 unfold Zcj.M
 refine en Tryz.func128 ?_
 refine AWP.seq ?_
 refine ns ?_
 refine AWP.seq ?_
 refine ns ?_
 refine AWP.seq ?_
 refine AWP.seq ?_
 refine ns ?_
 refine AWP.block ?_
 refine AWP.loop ?_
 refine AWL.weak (rn []) ?_ (ZjC n (ByteArray.mk #[40]) 1 _ hF)
 exact (WS.mk (tc (tc (tc Zb))) Zc)

def Zbh (s : ByteArray) (n_3 : Nat) : Option (Int) :=
 if (decide (((n_3 : Nat) : Int) ≤ 7)) = true then
 Zcj ((n_3 : Nat) : Int) >>= fun r10 =>
 if (s.toList == r10.toList) = true then
 some ((n_3 : Nat) : Int)
 else
 Z4 (n_3 + 1 ≤ 9223372036854775807) >>= fun _ =>
 Zbh s (n_3 + 1)
 else
 some 0
 partial_fixpoint
def Zbh.M (s : ByteArray) (n_3 : Nat) (r : Int) : Prop :=
 AWL Tryz.prog 13 (Code.sub (Zq Tryz.f107) [1, 0, 1, 0, 0]) (Code.cont Tryz.prog 13 (Zq Tryz.f107) [1, 0, 1, 0] (ZbW tab Tryz.f107.results (ZbY (.c none (.v (.int .i64 r))) []))) ⟨[(0, .c none (.v (.string s))), (3, .c none (.v (.int .i64 ((n_3 : Nat) : Int))))], []⟩
theorem Zly (s : ByteArray) (n_3 : Nat) : ∀ r, Zbh s n_3 = some r → Zbh.M s n_3 r := by
 refine Zbh.partial_correctness s (fun n_3 r => Zbh.M s n_3 r) ?_ n_3
 intro lazycref04_Arity_l1' Zhc n_3 r hF
 have Zlh := fun (_s : ByteArray) (n_3 : Nat) => Zhc n_3
 clear Zhc
 unfold Zbh.M
 refine AWL.step ?_
 refine AWP.seq ?_
 refine AWP.seq ?_
 refine ns ?_
 refine nw ?_
 refine Zi hF (fun hc9 hF => ?_) (fun hc9 hF => ?_)
 ·refine nw ?_
  refine AWP.seq ?_
  refine AWP.block ?_
  refine AWP.seq ?_
  obtain ⟨r10, ZAs, hF⟩ := bind_some hF
  refine ns ?_
  refine e3 ?_
  refine st ?_
  refine cm (Zj.weak (rn []) (ZkC ((n_3 : Nat) : Int) _ ZAs) rfl (WS.mk (tc Zb) Zc)) ?_
  refine st ?_
  refine nw ?_
  refine Zi hF (fun ZcP hF => ?_) (fun ZcP hF => ?_)
  ·refine AWP.seq ?_
   refine ns ?_
   obtain rfl := Zg hF
   refine ns ?_
   refine Exists.intro [] ?_
   refine st ?_
   exact wx (WS.mk (tc Zb) Zc)
  ·refine nw ?_
   obtain ⟨ZCs, hF⟩ := Zy hF
   refine ns ?_
   refine AWL.weak (rn []) ?_ (Zlh s (n_3 + 1) _ hF)
   exact (WS.mk (tc (Zd (Zr (Zdf (Zdv ZCs))) Zb)) Zc)
 ·refine nw ?_
  refine AWP.seq ?_
  refine ns ?_
  obtain rfl := Zg hF
  refine ns ?_
  refine Exists.intro [] ?_
  refine st ?_
  exact wx (WS.mk (tc Zb) Zc)

def ZdS (s : ByteArray) : Option (Int) :=
 Zbh s 2
def ZdS.M (s : ByteArray) (r : Int) : Prop :=
 Zj Tryz.prog 107 [.c none (.v (.string s))] [] (fun d b => d = .c none (.v (.int .i64 r)) ∧ b = [])
theorem ZnE (s : ByteArray) (r : Int) (hF : ZdS s = some r) : ZdS.M s r := by
 unfold ZdS at hF
 unfold ZdS.M
 refine en Tryz.func107 ?_
 refine AWP.seq ?_
 refine ns ?_
 refine AWP.seq ?_
 refine AWP.seq ?_
 refine ns ?_
 refine AWP.block ?_
 refine AWP.loop ?_
 refine AWL.weak (rn []) ?_ (Zly s 2 _ hF)
 exact (WS.mk (tc (tc Zb)) Zc)

def Zbl (b_3 : ByteArray) : Option (Bool) :=
 Zbu b_3 >>= fun r5 =>
 some ((r5 == 2) || (r5 == 4))
def Zbl.M (b_3 : ByteArray) (r : Bool) : Prop :=
 AWP Tryz.prog 34 (Code.sub (Zq Tryz.f106) [1, 1, 1, 1, 1]) (Code.cont Tryz.prog 34 (Zq Tryz.f106) [1, 1, 1, 1, 1] (ZbW tab Tryz.f106.results (ZbY (.c none (.v (.bool r))) []))) ⟨[(3, .c none (.v (.string b_3)))], []⟩
theorem Zgo (b_3 : ByteArray) (r : Bool) (hF : Zbl b_3 = some r) : Zbl.M b_3 r := by
 unfold Zbl at hF
 unfold Zbl.M
 refine AWP.seq ?_
 obtain ⟨r5, hr5, hF⟩ := bind_some hF
 refine ns ?_
 refine e3 ?_
 refine st ?_
 refine cm (Zj.weak (rn []) (Zd1 b_3 _ hr5) rfl (WS.mk (tc Zb) Zc)) ?_
 refine st ?_
 refine AWP.seq ?_
 refine AWP.cutN (fun T => ∃ r, WS r T ⟨[(2, .c none (.v (.bool ((r5 == 2) || (r5 == 4)))))], []⟩) ?_ (fun T hw => ?_)
 ·refine ns ?_
  refine Zm false (fun hc6 => ?_) (fun hc6 => ?_)
  ·(conv => whnf)
   refine st ?_
   exact wx (WS.mk (Zd (Zr (web hc6)) Zb) Zc)
  ·(conv => whnf)
   refine st ?_
   exact wx (WS.mk (Zd (Zr (web hc6)) Zb) Zc)
 obtain ⟨r0, hw⟩ := hw
 (conv => whnf)
 refine AWP.weak r0 hw ?_
 obtain rfl := Zg hF
 refine ns ?_
 refine Exists.intro [] ?_
 refine st ?_
 exact wx (WS.mk (tc Zb) Zc)

def Zbk (b_3 : ByteArray) : Option (Bool) :=
 Zc4 b_3 >>= fun r3 =>
 if r3.2.2 = true then
 Zbl r3.2.1
 else
 Zbl b_3
def Zbk.M (b_3 : ByteArray) (r : Bool) : Prop :=
 AWP Tryz.prog 34 (Code.sub (Zq Tryz.f106) [1, 1, 1]) (Code.cont Tryz.prog 34 (Zq Tryz.f106) [1, 1, 1] (ZbW tab Tryz.f106.results (ZbY (.c none (.v (.bool r))) []))) ⟨[(3, .c none (.v (.string b_3)))], []⟩
theorem Zgp (b_3 : ByteArray) (r : Bool) (hF : Zbk b_3 = some r) : Zbk.M b_3 r := by
 unfold Zbk at hF
 unfold Zbk.M
 refine AWP.seq ?_
 obtain ⟨r3, hr3, hF⟩ := bind_some hF
 refine ns ?_
 refine e3 ?_
 refine st ?_
 refine cm (Zj.weak (rn []) (Zi1 b_3 _ hr3) rfl (WS.mk (tc Zb) Zc)) ?_
 refine st ?_
 refine AWP.seq ?_
 refine AWP.seq ?_
 refine ns ?_
 refine nw ?_
 refine Zi hF (fun hc7 hF => ?_) (fun hc7 hF => ?_)
 ·refine ns ?_
  refine AWP.weak (rn []) ?_ (Zgo r3.2.1 _ hF)
  exact (WS.mk (tc Zb) Zc)
 ·refine nw ?_
  refine AWP.weak (rn []) ?_ (Zgo b_3 _ hF)
  exact (WS.mk (tc Zb) Zc)

def ZcC (s : ByteArray) : Option (Bool) :=
 ZcV s >>= fun r1 =>
 if (!r1.2.2) = true then
 Zbk s
 else
 Zbk r1.1
def ZcC.M (s : ByteArray) (r : Bool) : Prop :=
 Zj Tryz.prog 106 [.c none (.v (.string s))] [] (fun d b => d = .c none (.v (.bool r)) ∧ b = [])
theorem Zlu (s : ByteArray) (r : Bool) (hF : ZcC s = some r) : ZcC.M s r := by
 unfold ZcC at hF
 unfold ZcC.M
 refine en Tryz.func106 ?_
 refine AWP.seq ?_
 refine ns ?_
 refine AWP.seq ?_
 obtain ⟨r1, hr1, hF⟩ := bind_some hF
 refine ns ?_
 refine e3 ?_
 refine st ?_
 refine cm (Zj.weak (rn []) (Zg4 s _ hr1) rfl (WS.mk (tc Zb) Zc)) ?_
 refine st ?_
 refine AWP.seq ?_
 refine AWP.seq ?_
 refine ns ?_
 refine nw ?_
 refine Zi hF (fun hc8 hF => ?_) (fun hc8 hF => ?_)
 ·refine ns ?_
  refine AWP.weak (rn []) ?_ (Zgp s _ hF)
  exact (WS.mk (tc Zb) Zc)
 ·refine nw ?_
  refine AWP.weak (rn []) ?_ (Zgp r1.1 _ hF)
  exact (WS.mk (tc Zb) Zc)

def ZcR (s : ByteArray) : Option (Bool) :=
 ZcC s >>= fun r1 =>
 (if (((r1 || (s.toList == (ByteArray.mk #[45, 62]).toList)) || (s.toList == (ByteArray.mk #[91, 93]).toList)) || (s.toList == (ByteArray.mk #[40, 41]).toList)) = true then some true else ZdS s >>= fun r2 =>
 some (decide (r2 > 0))) >>= fun c3 =>
 some c3
def ZcR.M (s : ByteArray) (r : Bool) : Prop :=
 Zj Tryz.prog 81 [.c none (.v (.string s))] [] (fun d b => d = .c none (.v (.bool r)) ∧ b = [])
theorem Zmg (s : ByteArray) (r : Bool) (hF : ZcR s = some r) : ZcR.M s r := by
 unfold ZcR at hF
 unfold ZcR.M
 refine en Tryz.func81 ?_
 refine AWP.seq ?_
 refine ns ?_
 refine AWP.seq ?_
 obtain ⟨r1, hr1, hF⟩ := bind_some hF
 obtain ⟨c3, hc3, hF⟩ := bind_some hF
 refine AWP.cutN (fun T => ∃ r, WS r T ⟨[(2, .c none (.v (.bool c3)))], []⟩) ?_ (fun T hw => ?_)
 ·refine ns ?_
  refine e3 ?_
  refine st ?_
  refine cm (Zj.weak (rn []) (Zlu s _ hr1) rfl (WS.mk (tc Zb) Zc)) ?_
  refine st ?_
  refine Zm false (fun hc4 => ?_) (fun hc4 => ?_)
  ·(conv => whnf)
   have hc3 := ift hc4 hc3
   obtain rfl := Zg hc3
   refine st ?_
   exact wx (WS.mk (Zd (Zr (web hc4)) Zb) Zc)
  ·(conv => whnf)
   refine st ?_
   refine Zm false (fun hc5 => ?_) (fun hc5 => ?_)
   ·(conv => whnf)
    have hc3 := ift (And.intro hc4 hc5) hc3
    obtain rfl := Zg hc3
    refine st ?_
    exact wx (WS.mk (Zd (Zr (web (And.intro hc4 hc5))) Zb) Zc)
   ·(conv => whnf)
    refine st ?_
    refine Zm false (fun hc6 => ?_) (fun hc6 => ?_)
    ·(conv => whnf)
     have hc3 := ift (And.intro hc4 (And.intro hc5 hc6)) hc3
     obtain rfl := Zg hc3
     refine st ?_
     exact wx (WS.mk (Zd (Zr (web (And.intro hc4 (And.intro hc5 hc6)))) Zb) Zc)
    ·(conv => whnf)
     refine st ?_
     refine Zm false (fun hc7 => ?_) (fun hc7 => ?_)
     ·have hc3 := ift (And.intro hc4 (And.intro hc5 (And.intro hc6 hc7))) hc3
      (conv => whnf)
      obtain rfl := Zg hc3
      refine st ?_
      exact wx (WS.mk (Zd (Zr (web (And.intro hc4 (And.intro hc5 (And.intro hc6 hc7))))) Zb) Zc)
     ·have hc3 := ife (And.intro hc4 (And.intro hc5 (And.intro hc6 hc7))) hc3
      obtain ⟨r2, hr2, hc3⟩ := bind_some hc3
      (conv => whnf)
      refine st ?_
      refine e3 ?_
      refine st ?_
      refine cm (Zj.weak (rn []) (ZnE s _ hr2) rfl (WS.mk (tc Zb) Zc)) ?_
      refine st ?_
      obtain rfl := Zg hc3
      refine st ?_
      exact wx (WS.mk (Zd (Zr (web (And.intro hc4 (And.intro hc5 (And.intro hc6 hc7))))) Zb) Zc)
 obtain ⟨r0, hw⟩ := hw
 (conv => whnf)
 refine AWP.weak r0 hw ?_
 obtain rfl := Zg hF
 refine ns ?_
 refine Exists.intro [] ?_
 refine st ?_
 exact wx (WS.mk (tc Zb) Zc)

def ZbE (s : ByteArray) : Option (Bool) :=
 ZcV s >>= fun r1 =>
 if r1.2.2 = true then
 Zbu r1.1 >>= fun r5 =>
 some (r5 == 1)
 else
 Zbu s >>= fun r6 =>
 some ((r6 == 1) && (!(s.toList == (ByteArray.mk #[102, 111, 114, 97, 108, 108]).toList)))
def ZbE.M (s : ByteArray) (r : Bool) : Prop :=
 Zj Tryz.prog 37 [.c none (.v (.string s))] [] (fun d b => d = .c none (.v (.bool r)) ∧ b = [])
theorem ZfF (s : ByteArray) (r : Bool) (hF : ZbE s = some r) : ZbE.M s r := by
 unfold ZbE at hF
 unfold ZbE.M
 refine en Tryz.func37 ?_
 refine AWP.seq ?_
 refine ns ?_
 refine AWP.seq ?_
 obtain ⟨r1, hr1, hF⟩ := bind_some hF
 refine ns ?_
 refine e3 ?_
 refine st ?_
 refine cm (Zj.weak (rn []) (Zg4 s _ hr1) rfl (WS.mk (tc Zb) Zc)) ?_
 refine st ?_
 refine AWP.seq ?_
 refine AWP.seq ?_
 refine ns ?_
 refine nw ?_
 refine Zi hF (fun hc4 hF => ?_) (fun hc4 hF => ?_)
 ·refine AWP.seq ?_
  obtain ⟨r5, hr5, hF⟩ := bind_some hF
  refine ns ?_
  refine e3 ?_
  refine st ?_
  refine cm (Zj.weak (rn []) (Zd1 r1.1 _ hr5) rfl (WS.mk (tc Zb) Zc)) ?_
  refine st ?_
  obtain rfl := Zg hF
  refine ns ?_
  refine Exists.intro [] ?_
  refine st ?_
  exact wx (WS.mk (tc Zb) Zc)
 ·refine nw ?_
  refine AWP.seq ?_
  obtain ⟨r6, hr6, hF⟩ := bind_some hF
  refine AWP.cutN (fun T => ∃ r, WS r T ⟨[(2, .c none (.v (.bool ((r6 == 1) && (!(s.toList == (ByteArray.mk #[102, 111, 114, 97, 108, 108]).toList))))))], []⟩) ?_ (fun T hw => ?_)
  ·refine ns ?_
   refine e3 ?_
   refine st ?_
   refine cm (Zj.weak (rn []) (Zd1 s _ hr6) rfl (WS.mk (tc Zb) Zc)) ?_
   refine st ?_
   refine Zm true (fun hc7 => ?_) (fun hc7 => ?_)
   ·(conv => whnf)
    refine st ?_
    exact wx (WS.mk (Zd (Zr (web hc7)) Zb) Zc)
   ·(conv => whnf)
    refine st ?_
    exact wx (WS.mk (Zd (Zr (web hc7)) Zb) Zc)
  obtain ⟨r0, hw⟩ := hw
  (conv => whnf)
  refine AWP.weak r0 hw ?_
  obtain rfl := Zg hF
  refine ns ?_
  refine Exists.intro [] ?_
  refine st ?_
  exact wx (WS.mk (tc Zb) Zc)

mutual
def ZaQ (t : Za) : Option (Bool) :=
 ZaL 0 t t.fKids
 partial_fixpoint
def ZaL (i_3 : Nat) (t : Za) (ZeY : (List Za)) : Option (Bool) :=
 (match ZeY with
 | x39 :: ZvH =>
 ZaQ x39 >>= fun r42 =>
 if (!r42) = true then
 some false
 else
 ZaL (i_3 + 1) t ZvH
 | [] =>
 if (t.fOp == 1) = true then
 ZbE t.fName >>= fun r46 =>
 some ((r46 && (((t.fBound.fArgs.length : Nat) : Int) == 0)) && (((t.fKids.length : Nat) : Int) == 0))
 else
 if (t.fOp == 2) = true then
 ZcR t.fName >>= fun r51 =>
 some ((r51 && (((t.fBound.fArgs.length : Nat) : Int) == 0)) && (((t.fKids.length : Nat) : Int) == 0))
 else
 if (t.fOp == 3) = true then
 some (((t.fName.toList == (ByteArray.mk #[]).toList) && (((t.fBound.fArgs.length : Nat) : Int) == 0)) && (((t.fKids.length : Nat) : Int) == 2))
 else
 if (t.fOp == 4) = true then
 ZbE t.fName >>= fun r60 =>
 some (r60 && (((t.fKids.length : Nat) : Int) == 1))
 else
 some false)
 partial_fixpoint
end
def ZaQ.M (t : Za) (r : Bool) : Prop :=
 Zj Tryz.prog 56 [.agg [.v (.int .i64 t.fOp), .v (.string t.fName), .sl (t.fBound.fArgs.map Zk.cells), .sl (t.fKids.map Za.cells)]] [] (fun d b => d = .c none (.v (.bool r)) ∧ b = [])
def ZaL.M (i_3 : Nat) (t : Za) (ZeY : (List Za)) (r : Bool) : Prop :=
 ∀ Zjc : List Za, t.fKids = Zjc ++ ZeY → i_3 = Zjc.length → AWL Tryz.prog 79 (Code.sub (Zq Tryz.f56) [1, 0, 1, 0, 0]) (Code.cont Tryz.prog 79 (Zq Tryz.f56) [1, 0, 1, 0] (ZbW tab Tryz.f56.results (ZbY (.c none (.v (.bool r))) []))) ⟨[(1, .ptr 1 0), (3, .c none (.v (.int .i64 ((i_3 : Nat) : Int))))], [(1, [(none, .v (.int .i64 t.fOp)), (none, .v (.string t.fName)), (none, .sl (t.fBound.fArgs.map Zk.cells)), (none, .sl (t.fKids.map Za.cells))])]⟩
theorem Zh5 : (∀ (t : Za), ∀ r, ZaQ t = some r → ZaQ.M t r) ∧ (∀ (i_3 : Nat) (t : Za) (ZeY : (List Za)), ∀ r, ZaL i_3 t ZeY = some r → ZaL.M i_3 t ZeY r) := by
 refine ZaQ.mutual_partial_correctness ZaQ.M ZaL.M ?_ ?_
 ·intro lazycref04_formed_l1' Zfa t r hF
  unfold ZaQ.M
  refine en Tryz.func56 ?_
  refine AWP.seq ?_
  refine ns ?_
  refine AWP.seq ?_
  refine AWP.seq ?_
  refine ns ?_
  refine AWP.block ?_
  refine AWP.loop ?_
  refine AWL.weak (rn []) ?_ (Zfa 0 t t.fKids _ hF ([]) rfl rfl)
  exact (WS.mk (tp (tc Zb)) (Zf rfl (cc (cc (cc (cc Zh)))) Zc))
 ·intro lazycref04_formed' lazycref04_formed_l1' Znd Zfa i_3 t ZeY r hF
  unfold ZaL.M
  intro Zjc Zq0 Zrl
  refine AWL.step ?_
  refine AWP.seq ?_
  refine AWP.seq ?_
  refine ns ?_
  intro hlen38
  (try rw [List.length_map] at hlen38)
  (try rw [List.length_map])
  refine st ?_
  refine nw ?_
  refine ZN Zq0 Zrl (fun x39 ZvH ZvM ZBz ZCP => ?_) (fun ZvM => ?_)
  ·subst ZvM
   refine nw ?_
   refine AWP.seq ?_
   refine AWP.block ?_
   refine AWP.seq ?_
   obtain ⟨r42, ZHX, hF⟩ := bind_some hF
   refine nn ?_
   refine sr (Zab (f := Za.cells) (Za.cells_eq x39) ZBz) ?_
   refine st ?_
   refine e3 ?_
   refine st ?_
   refine cm (Zj.weak (rn []) (Znd x39 _ ZHX) rfl (WS.mk (Zd (Zt (lc (lc (lc (lc Zo))))) Zb) Zc)) ?_
   refine st ?_
   refine nw ?_
   refine Zi hF (fun ZCC hF => ?_) (fun ZCC hF => ?_)
   ·refine AWP.seq ?_
    refine ns ?_
    obtain rfl := Zg hF
    refine ns ?_
    refine Exists.intro [] ?_
    refine st ?_
    exact wx (WS.mk (tc Zb) Zc)
   ·refine nw ?_
    refine ns ?_
    refine AWL.weak (rn []) ?_ (Zfa (i_3 + 1) t ZvH _ hF (Zjc ++ [x39]) (by rw [Zq0]; simp) (by rw [Zrl]; simp))
    exact (WS.mk (tp (Zd (Zr (Zdf (ZV hlen38 ZCP))) Zb)) (Zf rfl (cc (cc (cc (cc Zh)))) Zc))
  ·subst ZvM
   refine nw ?_
   refine AWP.seq ?_
   refine ns ?_
   intro hlen44
   (try rw [List.length_map] at hlen44)
   (try rw [List.length_map])
   refine st ?_
   refine AWP.seq ?_
   refine AWP.seq ?_
   refine ns ?_
   refine AWP.block ?_
   refine AWP.seq ?_
   refine ns ?_
   refine nw ?_
   refine Zi hF (fun ZDt hF => ?_) (fun ZDt hF => ?_)
   ·refine AWP.seq ?_
    obtain ⟨r46, ZG2, hF⟩ := bind_some hF
    refine AWP.cutN (fun T => ∃ r, WS r T ⟨[(2, .c none (.v (.bool ((r46 && (((t.fBound.fArgs.length : Nat) : Int) == 0)) && (((t.fKids.length : Nat) : Int) == 0)))))], []⟩) ?_ (fun T hw => ?_)
    ·refine ns ?_
     refine e3 ?_
     refine st ?_
     refine cm (Zj.weak (rn []) (ZfF t.fName _ ZG2) rfl (WS.mk (tc Zb) Zc)) ?_
     refine st ?_
     refine Zm true (fun ZBj => ?_) (fun ZBj => ?_)
     ·(conv => whnf)
      refine st ?_
      refine Zm true (fun ZCa => ?_) (fun ZCa => ?_)
      ·(conv => whnf)
       refine st ?_
       intro hlen47
       (try rw [List.length_map] at hlen47)
       (try rw [List.length_map])
       refine st ?_
       exact wx (WS.mk (Zd (Zr (web (And.intro ZBj ZCa))) Zb) Zc)
      ·(conv => whnf)
       refine st ?_
       exact wx (WS.mk (Zd (Zr (web (And.intro ZBj ZCa))) Zb) Zc)
     ·(conv => whnf)
      refine st ?_
      exact wx (WS.mk (Zd (Zr (web ZBj)) Zb) Zc)
    obtain ⟨r0, hw⟩ := hw
    (conv => whnf)
    refine AWP.weak r0 hw ?_
    obtain rfl := Zg hF
    refine ns ?_
    refine Exists.intro [] ?_
    refine st ?_
    exact wx (WS.mk (tc Zb) Zc)
   ·refine AWP.seq ?_
    refine ns ?_
    refine nw ?_
    refine Zi hF (fun ZC5 hF => ?_) (fun ZC5 hF => ?_)
    ·refine AWP.seq ?_
     obtain ⟨r51, ZIA, hF⟩ := bind_some hF
     refine AWP.cutN (fun T => ∃ r, WS r T ⟨[(2, .c none (.v (.bool ((r51 && (((t.fBound.fArgs.length : Nat) : Int) == 0)) && (((t.fKids.length : Nat) : Int) == 0)))))], []⟩) ?_ (fun T hw => ?_)
     ·refine ns ?_
      refine e3 ?_
      refine st ?_
      refine cm (Zj.weak (rn []) (Zmg t.fName _ ZIA) rfl (WS.mk (tc Zb) Zc)) ?_
      refine st ?_
      refine Zm true (fun ZBE => ?_) (fun ZBE => ?_)
      ·(conv => whnf)
       refine st ?_
       refine Zm true (fun ZiH => ?_) (fun ZiH => ?_)
       ·(conv => whnf)
        refine st ?_
        intro hlen52
        (try rw [List.length_map] at hlen52)
        (try rw [List.length_map])
        refine st ?_
        exact wx (WS.mk (Zd (Zr (web (And.intro ZBE ZiH))) Zb) Zc)
       ·(conv => whnf)
        refine st ?_
        exact wx (WS.mk (Zd (Zr (web (And.intro ZBE ZiH))) Zb) Zc)
      ·(conv => whnf)
       refine st ?_
       exact wx (WS.mk (Zd (Zr (web ZBE)) Zb) Zc)
     obtain ⟨r0, hw⟩ := hw
     (conv => whnf)
     refine AWP.weak r0 hw ?_
     obtain rfl := Zg hF
     refine ns ?_
     refine Exists.intro [] ?_
     refine st ?_
     exact wx (WS.mk (tc Zb) Zc)
    ·refine AWP.seq ?_
     refine ns ?_
     refine nw ?_
     refine Zi hF (fun Ztb hF => ?_) (fun Ztb hF => ?_)
     ·refine AWP.seq ?_
      refine AWP.cutN (fun T => ∃ r, WS r T ⟨[(2, .c none (.v (.bool (((t.fName.toList == (ByteArray.mk #[]).toList) && (((t.fBound.fArgs.length : Nat) : Int) == 0)) && (((t.fKids.length : Nat) : Int) == 2)))))], []⟩) ?_ (fun T hw => ?_)
      ·refine ns ?_
       refine Zm true (fun Zig => ?_) (fun Zig => ?_)
       ·(conv => whnf)
        refine st ?_
        refine Zm true (fun Zm4 => ?_) (fun Zm4 => ?_)
        ·(conv => whnf)
         refine st ?_
         intro hlen56
         (try rw [List.length_map] at hlen56)
         (try rw [List.length_map])
         refine st ?_
         exact wx (WS.mk (Zd (Zr (web (And.intro Zig Zm4))) Zb) Zc)
        ·(conv => whnf)
         refine st ?_
         exact wx (WS.mk (Zd (Zr (web (And.intro Zig Zm4))) Zb) Zc)
       ·(conv => whnf)
        refine st ?_
        exact wx (WS.mk (Zd (Zr (web Zig)) Zb) Zc)
      obtain ⟨r0, hw⟩ := hw
      (conv => whnf)
      refine AWP.weak r0 hw ?_
      obtain rfl := Zg hF
      refine ns ?_
      refine Exists.intro [] ?_
      refine st ?_
      exact wx (WS.mk (tc Zb) Zc)
     ·refine AWP.seq ?_
      refine ns ?_
      refine nw ?_
      refine Zi hF (fun Zwe hF => ?_) (fun Zwe hF => ?_)
      ·refine AWP.seq ?_
       obtain ⟨r60, ZD5, hF⟩ := bind_some hF
       refine AWP.cutN (fun T => ∃ r, WS r T ⟨[(2, .c none (.v (.bool (r60 && (((t.fKids.length : Nat) : Int) == 1)))))], []⟩) ?_ (fun T hw => ?_)
       ·refine ns ?_
        refine e3 ?_
        refine st ?_
        refine cm (Zj.weak (rn []) (ZfF t.fName _ ZD5) rfl (WS.mk (tc Zb) Zc)) ?_
        refine st ?_
        refine Zm true (fun Zu3 => ?_) (fun Zu3 => ?_)
        ·(conv => whnf)
         refine st ?_
         intro hlen61
         (try rw [List.length_map] at hlen61)
         (try rw [List.length_map])
         refine st ?_
         exact wx (WS.mk (Zd (Zr (web Zu3)) Zb) Zc)
        ·(conv => whnf)
         refine st ?_
         exact wx (WS.mk (Zd (Zr (web Zu3)) Zb) Zc)
       obtain ⟨r0, hw⟩ := hw
       (conv => whnf)
       refine AWP.weak r0 hw ?_
       obtain rfl := Zg hF
       refine ns ?_
       refine Exists.intro [] ?_
       refine st ?_
       exact wx (WS.mk (tc Zb) Zc)
      ·refine nw ?_
       refine AWP.seq ?_
       refine ns ?_
       obtain rfl := Zg hF
       refine ns ?_
       refine Exists.intro [] ?_
       refine st ?_
       exact wx (WS.mk (tc Zb) Zc)
theorem Zm5 : ∀ (t : Za), ∀ r, ZaQ t = some r → ZaQ.M t r := Zh5.1
theorem lazycref04_formed_l1_ok : ∀ (i_3 : Nat) (t : Za) (ZeY : (List Za)), ∀ r, ZaL i_3 t ZeY = some r → ZaL.M i_3 t ZeY r := Zh5.2

mutual
def Zan (k : Zk) : Option (Int) :=
 Zaj 0 0 k k.fArgs
 partial_fixpoint
def Zaj (n_3 : Int) (i_4 : Nat) (k : Zk) (ZaO : (List Zk)) : Option (Int) :=
 (match ZaO with
 | x16 :: ZjV =>
 Zan x16 >>= fun r19 =>
 Zaj (if r19 > n_3 then r19 else n_3) (i_4 + 1) k ZjV
 | [] =>
 some (IntKind.i64.wrap (n_3 + 1)))
 partial_fixpoint
end
def Zan.M (k : Zk) (r : Int) : Prop :=
 Zj Tryz.prog 83 [.agg [.sl (k.fArgs.map Zk.cells)]] [] (fun d b => d = .c none (.v (.int .i64 r)) ∧ b = [])
def Zaj.M (n_3 : Int) (i_4 : Nat) (k : Zk) (ZaO : (List Zk)) (r : Int) : Prop :=
 ∀ Zdw : List Zk, k.fArgs = Zdw ++ ZaO → i_4 = Zdw.length → AWL Tryz.prog 22 (Code.sub (Zq Tryz.f83) [1, 1, 0, 1, 0, 0]) (Code.cont Tryz.prog 22 (Zq Tryz.f83) [1, 1, 0, 1, 0] (ZbW tab Tryz.f83.results (ZbY (.c none (.v (.int .i64 r))) []))) ⟨[(1, .ptr 1 0), (3, .c none (.v (.int .i64 n_3))), (4, .c none (.v (.int .i64 ((i_4 : Nat) : Int))))], [(1, [(none, .sl (k.fArgs.map Zk.cells))])]⟩
theorem ZgO : (∀ (k : Zk), ∀ r, Zan k = some r → Zan.M k r) ∧ (∀ (n_3 : Int) (i_4 : Nat) (k : Zk) (ZaO : (List Zk)), ∀ r, Zaj n_3 i_4 k ZaO = some r → Zaj.M n_3 i_4 k ZaO r) := by
 refine Zan.mutual_partial_correctness Zan.M Zaj.M ?_ ?_
 ·intro lazycref04_KindDepth_l1' Zev k r hF
  unfold Zan.M
  refine en Tryz.func83 ?_
  refine AWP.seq ?_
  refine ns ?_
  refine AWP.seq ?_
  refine ns ?_
  refine AWP.seq ?_
  refine AWP.seq ?_
  refine ns ?_
  refine AWP.block ?_
  refine AWP.loop ?_
  refine AWL.weak (rn []) ?_ (Zev 0 0 k k.fArgs _ hF ([]) rfl rfl)
  exact (WS.mk (tp (tc (tc Zb))) (Zf rfl (cc Zh) Zc))
 ·intro lazycref04_KindDepth' lazycref04_KindDepth_l1' ZkK Zev n_3 i_4 k ZaO r hF
  unfold Zaj.M
  intro Zdw ZhS Zhw
  refine AWL.step ?_
  refine AWP.seq ?_
  refine AWP.seq ?_
  refine ns ?_
  intro hlen15
  (try rw [List.length_map] at hlen15)
  (try rw [List.length_map])
  refine st ?_
  refine nw ?_
  refine ZN ZhS Zhw (fun x16 ZjV ZjR Zrh ZqC => ?_) (fun ZjR => ?_)
  ·subst ZjR
   refine nw ?_
   refine AWP.seq ?_
   refine AWP.block ?_
   obtain ⟨r19, Ztt, hF⟩ := bind_some hF
   refine nn ?_
   refine sr (Zab (f := Zk.cells) (Zk.cells_eq x16) Zrh) ?_
   refine st ?_
   refine e3 ?_
   refine st ?_
   refine cm (Zj.weak (rn []) (ZkK x16 _ Ztt) rfl (WS.mk (Zd (Zt (lc Zo)) Zb) Zc)) ?_
   refine st ?_
   refine ns ?_
   refine AWL.weak (rn []) ?_ (Zev (if r19 > n_3 then r19 else n_3) (i_4 + 1) k ZjV _ hF (Zdw ++ [x16]) (by rw [ZhS]; simp) (by rw [Zhw]; simp))
   exact (WS.mk (tp (tc (Zd (Zr (Zdf (ZV hlen15 ZqC))) Zb))) (Zf rfl (cc Zh) Zc))
  ·subst ZjR
   refine nw ?_
   refine AWP.seq ?_
   refine ns ?_
   obtain rfl := Zg hF
   refine ns ?_
   refine Exists.intro [] ?_
   refine st ?_
   exact wx (WS.mk (tc Zb) Zc)
theorem ZkH : ∀ (k : Zk), ∀ r, Zan k = some r → Zan.M k r := ZgO.1
theorem lazycref04_KindDepth_l1_ok : ∀ (n_3 : Int) (i_4 : Nat) (k : Zk) (ZaO : (List Zk)), ∀ r, Zaj n_3 i_4 k ZaO = some r → Zaj.M n_3 i_4 k ZaO r := ZgO.2

mutual
def Zav (k : Zk) : Option (Int) :=
 Zas 1 0 k k.fArgs
 partial_fixpoint
def Zas (n_3 : Int) (i_4 : Nat) (k : Zk) (ZaO : (List Zk)) : Option (Int) :=
 (match ZaO with
 | x16 :: ZjV =>
 Zav x16 >>= fun r19 =>
 Zas (IntKind.i64.wrap (n_3 + r19)) (i_4 + 1) k ZjV
 | [] =>
 some n_3)
 partial_fixpoint
end
def Zav.M (k : Zk) (r : Int) : Prop :=
 Zj Tryz.prog 82 [.agg [.sl (k.fArgs.map Zk.cells)]] [] (fun d b => d = .c none (.v (.int .i64 r)) ∧ b = [])
def Zas.M (n_3 : Int) (i_4 : Nat) (k : Zk) (ZaO : (List Zk)) (r : Int) : Prop :=
 ∀ Zdw : List Zk, k.fArgs = Zdw ++ ZaO → i_4 = Zdw.length → AWL Tryz.prog 21 (Code.sub (Zq Tryz.f82) [1, 1, 0, 1, 0, 0]) (Code.cont Tryz.prog 21 (Zq Tryz.f82) [1, 1, 0, 1, 0] (ZbW tab Tryz.f82.results (ZbY (.c none (.v (.int .i64 r))) []))) ⟨[(1, .ptr 1 0), (3, .c none (.v (.int .i64 n_3))), (4, .c none (.v (.int .i64 ((i_4 : Nat) : Int))))], [(1, [(none, .sl (k.fArgs.map Zk.cells))])]⟩
theorem Zg5 : (∀ (k : Zk), ∀ r, Zav k = some r → Zav.M k r) ∧ (∀ (n_3 : Int) (i_4 : Nat) (k : Zk) (ZaO : (List Zk)), ∀ r, Zas n_3 i_4 k ZaO = some r → Zas.M n_3 i_4 k ZaO r) := by
 refine Zav.mutual_partial_correctness Zav.M Zas.M ?_ ?_
 ·intro lazycref04_KindSize_l1' ZeL k r hF
  unfold Zav.M
  refine en Tryz.func82 ?_
  refine AWP.seq ?_
  refine ns ?_
  refine AWP.seq ?_
  refine ns ?_
  refine AWP.seq ?_
  refine AWP.seq ?_
  refine ns ?_
  refine AWP.block ?_
  refine AWP.loop ?_
  refine AWL.weak (rn []) ?_ (ZeL 1 0 k k.fArgs _ hF ([]) rfl rfl)
  exact (WS.mk (tp (tc (tc Zb))) (Zf rfl (cc Zh) Zc))
 ·intro lazycref04_KindSize' lazycref04_KindSize_l1' ZlN ZeL n_3 i_4 k ZaO r hF
  unfold Zas.M
  intro Zdw ZhS Zhw
  refine AWL.step ?_
  refine AWP.seq ?_
  refine AWP.seq ?_
  refine ns ?_
  intro hlen15
  (try rw [List.length_map] at hlen15)
  (try rw [List.length_map])
  refine st ?_
  refine nw ?_
  refine ZN ZhS Zhw (fun x16 ZjV ZjR Zrh ZqC => ?_) (fun ZjR => ?_)
  ·subst ZjR
   refine nw ?_
   refine AWP.seq ?_
   refine AWP.block ?_
   obtain ⟨r19, Ztt, hF⟩ := bind_some hF
   refine nn ?_
   refine sr (Zab (f := Zk.cells) (Zk.cells_eq x16) Zrh) ?_
   refine st ?_
   refine e3 ?_
   refine st ?_
   refine cm (Zj.weak (rn []) (ZlN x16 _ Ztt) rfl (WS.mk (Zd (Zt (lc Zo)) Zb) Zc)) ?_
   refine st ?_
   refine ns ?_
   refine AWL.weak (rn []) ?_ (ZeL (IntKind.i64.wrap (n_3 + r19)) (i_4 + 1) k ZjV _ hF (Zdw ++ [x16]) (by rw [ZhS]; simp) (by rw [Zhw]; simp))
   exact (WS.mk (tp (tc (Zd (Zr (Zdf (ZV hlen15 ZqC))) Zb))) (Zf rfl (cc Zh) Zc))
  ·subst ZjR
   refine nw ?_
   refine AWP.seq ?_
   refine ns ?_
   obtain rfl := Zg hF
   refine ns ?_
   refine Exists.intro [] ?_
   refine st ?_
   exact wx (WS.mk (tc Zb) Zc)
theorem Zlx : ∀ (k : Zk), ∀ r, Zav k = some r → Zav.M k r := Zg5.1
theorem lazycref04_KindSize_l1_ok : ∀ (n_3 : Int) (i_4 : Nat) (k : Zk) (ZaO : (List Zk)), ∀ r, Zas n_3 i_4 k ZaO = some r → Zas.M n_3 i_4 k ZaO r := Zg5.2

mutual
def Za1 (t : Za) : Option (Int × Int) :=
 Zav t.fBound >>= fun r3 =>
 Zan t.fBound >>= fun r4 =>
 ZaV r3 r4 0 t t.fKids
 partial_fixpoint
def ZaV (ZcO : Int) (ZbG : Int) (i_6 : Nat) (t : Za) (Zer : (List Za)) : Option (Int × Int) :=
 (match Zer with
 | x20 :: ZDz =>
 Za1 x20 >>= fun r23 =>
 ZaV (if r23.1 > ZcO then r23.1 else ZcO) (if r23.2 > ZbG then r23.2 else ZbG) (i_6 + 1) t ZDz
 | [] =>
 some (ZcO, ZbG))
 partial_fixpoint
end
def Za1.M (t : Za) (r : Int × Int) : Prop :=
 Zj Tryz.prog 57 [.agg [.v (.int .i64 t.fOp), .v (.string t.fName), .sl (t.fBound.fArgs.map Zk.cells), .sl (t.fKids.map Za.cells)]] [] (fun d b => d = .tup [.c (.v (.int .i64 r.1)), .c (.v (.int .i64 r.2))] ∧ b = [])
def ZaV.M (ZcO : Int) (ZbG : Int) (i_6 : Nat) (t : Za) (Zer : (List Za)) (r : Int × Int) : Prop :=
 ∀ Zjb : List Za, t.fKids = Zjb ++ Zer → i_6 = Zjb.length → AWL Tryz.prog 39 (Code.sub (Zq Tryz.f57) [1, 1, 0, 1, 0, 0]) (Code.cont Tryz.prog 39 (Zq Tryz.f57) [1, 1, 0, 1, 0] (ZbW tab Tryz.f57.results (ZbY (.tup [.c (.v (.int .i64 r.1)), .c (.v (.int .i64 r.2))]) []))) ⟨[(1, .ptr 1 0), (4, .c none (.v (.int .i64 ZcO))), (5, .c none (.v (.int .i64 ZbG))), (6, .c none (.v (.int .i64 ((i_6 : Nat) : Int))))], [(1, [(none, .v (.int .i64 t.fOp)), (none, .v (.string t.fName)), (none, .sl (t.fBound.fArgs.map Zk.cells)), (none, .sl (t.fKids.map Za.cells))])]⟩
theorem Zix : (∀ (t : Za), ∀ r, Za1 t = some r → Za1.M t r) ∧ (∀ (ZcO : Int) (ZbG : Int) (i_6 : Nat) (t : Za) (Zer : (List Za)), ∀ r, ZaV ZcO ZbG i_6 t Zer = some r → ZaV.M ZcO ZbG i_6 t Zer r) := by
 refine Za1.mutual_partial_correctness Za1.M ZaV.M ?_ ?_
 ·intro lazycref04_kinds_l1' Zfm t r hF
  unfold Za1.M
  refine en Tryz.func57 ?_
  refine AWP.seq ?_
  refine ns ?_
  refine AWP.seq ?_
  obtain ⟨r3, hr3, hF⟩ := bind_some hF
  obtain ⟨r4, hr4, hF⟩ := bind_some hF
  refine nn ?_
  refine Or.inr (Exists.intro [3, 4] (Exists.intro [[12, 13], [13]] (Exists.intro [1] (Exists.intro [1, 12, 13] (Exists.intro [12, 13] (Exists.intro [0, 1, 2, 5, 6, 7] (And.intro (by decide +kernel) ?_)))))))
  refine dp ?_
  refine dp ?_
  refine st ?_
  refine e3 ?_
  refine st ?_
  refine cm (Zj.weak (rn []) (Zlx t.fBound _ hr3) rfl (WS.mk (Zd (Zt (lc Zo)) Zb) Zc)) ?_
  refine st ?_
  refine e3 ?_
  refine st ?_
  refine cm (Zj.weak (rn []) (ZkH t.fBound _ hr4) rfl (WS.mk (Zd (Zt (lc Zo)) Zb) Zc)) ?_
  refine st ?_
  refine AWP.seq ?_
  refine AWP.seq ?_
  refine ns ?_
  refine AWP.block ?_
  refine AWP.loop ?_
  refine AWL.weak (rn []) ?_ (Zfm r3 r4 0 t t.fKids _ hF ([]) rfl rfl)
  exact (WS.mk (tp (tc (tc (tc Zb)))) (Zf rfl (cc (cc (cc (cc Zh)))) Zc))
 ·intro lazycref04_kinds' lazycref04_kinds_l1' ZnB Zfm ZcO ZbG i_6 t Zer r hF
  unfold ZaV.M
  intro Zjb ZrM Zrt
  refine AWL.step ?_
  refine AWP.seq ?_
  refine AWP.seq ?_
  refine ns ?_
  intro hlen19
  (try rw [List.length_map] at hlen19)
  (try rw [List.length_map])
  refine st ?_
  refine nw ?_
  refine ZN ZrM Zrt (fun x20 ZDz ZD0 ZIK ZHn => ?_) (fun ZD0 => ?_)
  ·subst ZD0
   refine nw ?_
   refine AWP.seq ?_
   refine AWP.block ?_
   refine AWP.seq ?_
   obtain ⟨r23, ZAa, hF⟩ := bind_some hF
   refine nn ?_
   refine sr (Zab (f := Za.cells) (Za.cells_eq x20) ZIK) ?_
   refine st ?_
   refine e3 ?_
   refine st ?_
   refine cm (Zj.weak (rn []) (ZnB x20 _ ZAa) rfl (WS.mk (Zd (Zt (lc (lc (lc (lc Zo))))) Zb) Zc)) ?_
   refine st ?_
   refine AWP.seq ?_
   refine ns ?_
   refine ns ?_
   refine ns ?_
   refine AWL.weak (rn []) ?_ (Zfm (if r23.1 > ZcO then r23.1 else ZcO) (if r23.2 > ZbG then r23.2 else ZbG) (i_6 + 1) t ZDz _ hF (Zjb ++ [x20]) (by rw [ZrM]; simp) (by rw [Zrt]; simp))
   exact (WS.mk (tp (tc (tc (Zd (Zr (Zdf (ZV hlen19 ZHn))) Zb)))) (Zf rfl (cc (cc (cc (cc Zh)))) Zc))
  ·subst ZD0
   refine nw ?_
   refine AWP.seq ?_
   refine ns ?_
   obtain rfl := Zg hF
   refine ns ?_
   refine Exists.intro [] ?_
   refine st ?_
   exact wx (WS.mk (Zd (Zc9 (ZcG (WE.refl _) (ZcG (WE.refl _) Zda))) Zb) Zc)
theorem ZnI : ∀ (t : Za), ∀ r, Za1 t = some r → Za1.M t r := Zix.1
theorem lazycref04_kinds_l1_ok : ∀ (ZcO : Int) (ZbG : Int) (i_6 : Nat) (t : Za) (Zer : (List Za)), ∀ r, ZaV ZcO ZbG i_6 t Zer = some r → ZaV.M ZcO ZbG i_6 t Zer r := Zix.2

def ZaG (t : Za) : Option (Int) :=
 ZaQ t >>= fun r3 =>
 if (!r3) = true then
 some 1
 else
 Za1 t >>= fun r5 =>
 ZaK t >>= fun r8 =>
 if ((decide (r8 > 20000)) || (decide (r5.1 > 20000))) = true then
 some 3
 else
 ZaH t >>= fun r11 =>
 if ((decide (r11 > 100)) || (decide (r5.2 > 100))) = true then
 some 4
 else
 some 0
def ZaG.M (t : Za) (r : Int) : Prop :=
 Zj Tryz.prog 36 [.agg [.v (.int .i64 t.fOp), .v (.string t.fName), .sl (t.fBound.fArgs.map Zk.cells), .sl (t.fKids.map Za.cells)]] [] (fun d b => d = .c none (.v (.int .i64 r)) ∧ b = [])
theorem ZdI (t : Za) (r : Int) (hF : ZaG t = some r) : ZaG.M t r := by
 unfold ZaG at hF
 unfold ZaG.M
 refine en Tryz.func36 ?_
 refine AWP.seq ?_
 refine ns ?_
 refine AWP.seq ?_
 refine AWP.seq ?_
 obtain ⟨r3, hr3, hF⟩ := bind_some hF
 refine ns ?_
 refine e3 ?_
 refine st ?_
 refine cm (Zj.weak (rn []) (Zm5 t _ hr3) rfl (WS.mk (Zd (Zt (lc (lc (lc (lc Zo))))) Zb) Zc)) ?_
 refine st ?_
 refine nw ?_
 refine Zi hF (fun hc4 hF => ?_) (fun hc4 hF => ?_)
 ·refine AWP.seq ?_
  refine ns ?_
  obtain rfl := Zg hF
  refine ns ?_
  refine Exists.intro [] ?_
  refine st ?_
  exact wx (WS.mk (tc Zb) Zc)
 ·refine nw ?_
  refine AWP.seq ?_
  obtain ⟨r5, hr5, hF⟩ := bind_some hF
  refine ns ?_
  refine e3 ?_
  refine st ?_
  refine cm (Zj.weak (rn []) (ZnI t _ hr5) rfl (WS.mk (Zd (Zt (lc (lc (lc (lc Zo))))) Zb) Zc)) ?_
  refine st ?_
  refine AWP.seq ?_
  refine AWP.seq ?_
  obtain ⟨r8, hr8, hF⟩ := bind_some hF
  refine AWP.cutN (fun T => ∃ r, WS r T ⟨[(1, .ptr 1 0), (4, .c none (.v (.int .i64 r5.2))), (19, .c none (.v (.bool ((decide (r8 > 20000)) || (decide (r5.1 > 20000))))))], [(1, [(none, .v (.int .i64 t.fOp)), (none, .v (.string t.fName)), (none, .sl (t.fBound.fArgs.map Zk.cells)), (none, .sl (t.fKids.map Za.cells))])]⟩) ?_ (fun T hw => ?_)
  ·refine ns ?_
   refine e3 ?_
   refine st ?_
   refine cm (Zj.weak (rn []) (ZgZ t _ hr8) rfl (WS.mk (Zd (Zt (lc (lc (lc (lc Zo))))) Zb) Zc)) ?_
   refine st ?_
   refine Zm false (fun hc9 => ?_) (fun hc9 => ?_)
   ·(conv => whnf)
    refine st ?_
    exact wx (WS.mk (tp (tc (Zd (Zr (web hc9)) Zb))) (Zf rfl (cc (cc (cc (cc Zh)))) Zc))
   ·(conv => whnf)
    refine st ?_
    exact wx (WS.mk (tp (tc (Zd (Zr (web hc9)) Zb))) (Zf rfl (cc (cc (cc (cc Zh)))) Zc))
  obtain ⟨r0, hw⟩ := hw
  (conv => whnf)
  refine AWP.weak r0 hw ?_
  refine nw ?_
  refine Zi hF (fun Zdt hF => ?_) (fun Zdt hF => ?_)
  ·refine AWP.seq ?_
   refine ns ?_
   obtain rfl := Zg hF
   refine ns ?_
   refine Exists.intro [] ?_
   refine st ?_
   exact wx (WS.mk (tc Zb) Zc)
  ·refine nw ?_
   refine AWP.seq ?_
   refine AWP.seq ?_
   obtain ⟨r11, Zvt, hF⟩ := bind_some hF
   refine AWP.cutN (fun T => ∃ r, WS r T ⟨[(26, .c none (.v (.bool ((decide (r11 > 100)) || (decide (r5.2 > 100))))))], []⟩) ?_ (fun T hw => ?_)
   ·refine ns ?_
    refine e3 ?_
    refine st ?_
    refine cm (Zj.weak (rn []) (Zgt t _ Zvt) rfl (WS.mk (Zd (Zt (lc (lc (lc (lc Zo))))) Zb) Zc)) ?_
    refine st ?_
    refine Zm false (fun ZcJ => ?_) (fun ZcJ => ?_)
    ·(conv => whnf)
     refine st ?_
     exact wx (WS.mk (Zd (Zr (web ZcJ)) Zb) Zc)
    ·(conv => whnf)
     refine st ?_
     exact wx (WS.mk (Zd (Zr (web ZcJ)) Zb) Zc)
   obtain ⟨r0, hw⟩ := hw
   (conv => whnf)
   refine AWP.weak r0 hw ?_
   refine nw ?_
   refine Zi hF (fun ZbB hF => ?_) (fun ZbB hF => ?_)
   ·refine AWP.seq ?_
    refine ns ?_
    obtain rfl := Zg hF
    refine ns ?_
    refine Exists.intro [] ?_
    refine st ?_
    exact wx (WS.mk (tc Zb) Zc)
   ·refine nw ?_
    refine AWP.seq ?_
    refine ns ?_
    obtain rfl := Zg hF
    refine ns ?_
    refine Exists.intro [] ?_
    refine st ?_
    exact wx (WS.mk (tc Zb) Zc)

mutual
def Za2 (t : Za) : Option (Bool) :=
 (if (t.fOp == 4) = true then some true else ZM t.fKids >>= fun r1 =>
 some r1) >>= fun c2 =>
 some c2
 partial_fixpoint
def ZM (s : (List Za)) : Option (Bool) :=
 ZS s >>= fun r1 =>
 some (decide (r1 ≥ 0))
 partial_fixpoint
def ZS (s : (List Za)) : Option (Int) :=
 Zw s 0 s
 partial_fixpoint
def Zw (s : (List Za)) (x_8 : Nat) (Zbz : (List Za)) : Option (Int) :=
 (match Zbz with
 | x13 :: Zrs =>
 Za2 x13 >>= fun r16 =>
 if r16 = true then
 some ((x_8 : Nat) : Int)
 else
 Zw s (x_8 + 1) Zrs
 | [] =>
 some (-1))
 partial_fixpoint
end
def Za2.M (t : Za) (r : Bool) : Prop :=
 Zj Tryz.prog 51 [.agg [.v (.int .i64 t.fOp), .v (.string t.fName), .sl (t.fBound.fArgs.map Zk.cells), .sl (t.fKids.map Za.cells)]] [] (fun d b => d = .c none (.v (.bool r)) ∧ b = [])
def ZM.M (s : (List Za)) (r : Bool) : Prop :=
 Zj Tryz.prog 79 [.c none (.sl (s.map Za.cells)), .c none (.v (.func (.func 51) #[] #[]))] [] (fun d b => d = .c none (.v (.bool r)) ∧ b = [])
def ZS.M (s : (List Za)) (r : Int) : Prop :=
 Zj Tryz.prog 104 [.c none (.sl (s.map Za.cells)), .c none (.v (.func (.func 51) #[] #[]))] [] (fun d b => d = .c none (.v (.int .i64 r)) ∧ b = [])
def Zw.M (s : (List Za)) (x_8 : Nat) (Zbz : (List Za)) (r : Int) : Prop :=
 ∀ Zej : List Za, s = Zej ++ Zbz → x_8 = Zej.length → s.length ≤ maxLen → AWL Tryz.prog 19 (Code.sub (Zq Tryz.f104) [1, 0, 1, 0, 0]) (Code.cont Tryz.prog 19 (Zq Tryz.f104) [1, 0, 1, 0] (ZbW tab Tryz.f104.results (ZbY (.c none (.v (.int .i64 r))) []))) ⟨[(0, .c none (.sl (s.map Za.cells))), (1, .c none (.v (.func (.func 51) #[] #[]))), (7, .c none (.v (.int .i64 ((s.length : Nat) : Int)))), (8, .c none (.v (.int .i64 ((x_8 : Nat) : Int))))], []⟩
theorem ZeU : (∀ (t : Za), ∀ r, Za2 t = some r → Za2.M t r) ∧ (∀ (s : (List Za)), ∀ r, ZM s = some r → ZM.M s r) ∧ (∀ (s : (List Za)), ∀ r, ZS s = some r → ZS.M s r) ∧ (∀ (s : (List Za)) (x_8 : Nat) (Zbz : (List Za)), ∀ r, Zw s x_8 Zbz = some r → Zw.M s x_8 Zbz r) := by
 refine Za2.mutual_partial_correctness Za2.M ZM.M ZS.M Zw.M ?_ ?_ ?_ ?_
 ·intro slices_ContainsFunc_Type_unify_quantified' Ze6 t r hF
  unfold Za2.M
  refine en Tryz.func51 ?_
  refine AWP.seq ?_
  refine ns ?_
  refine AWP.seq ?_
  obtain ⟨c2, hc2, hF⟩ := bind_some hF
  refine AWP.cutN (fun T => ∃ r, WS r T ⟨[(2, .c none (.v (.bool c2)))], []⟩) ?_ (fun T hw => ?_)
  ·refine ns ?_
   refine Zm false (fun hc3 => ?_) (fun hc3 => ?_)
   ·have hc2 := ift hc3 hc2
    (conv => whnf)
    obtain rfl := Zg hc2
    refine st ?_
    exact wx (WS.mk (Zd (Zr (web hc3)) Zb) Zc)
   ·have hc2 := ife hc3 hc2
    obtain ⟨r1, hr1, hc2⟩ := bind_some hc2
    (conv => whnf)
    refine st ?_
    refine e3 ?_
    refine st ?_
    refine cm (Zj.weak (rn []) (Ze6 t.fKids _ hr1) rfl (WS.mk (tc (tc Zb)) Zc)) ?_
    refine st ?_
    obtain rfl := Zg hc2
    refine st ?_
    exact wx (WS.mk (Zd (Zr (web hc3)) Zb) Zc)
  obtain ⟨r0, hw⟩ := hw
  (conv => whnf)
  refine AWP.weak r0 hw ?_
  obtain rfl := Zg hF
  refine ns ?_
  refine Exists.intro [] ?_
  refine st ?_
  exact wx (WS.mk (tc Zb) Zc)
 ·intro slices_IndexFunc_Type_unify_quantified' Zfz s r hF
  unfold ZM.M
  refine en Tryz.func79 ?_
  refine AWP.seq ?_
  refine ns ?_
  refine AWP.seq ?_
  obtain ⟨r1, hr1, hF⟩ := bind_some hF
  refine ns ?_
  refine e3 ?_
  refine st ?_
  refine cm (Zj.weak (rn []) (Zfz s _ hr1) rfl (WS.mk (tc (tc Zb)) Zc)) ?_
  refine st ?_
  obtain rfl := Zg hF
  refine ns ?_
  refine Exists.intro [] ?_
  refine st ?_
  exact wx (WS.mk (tc Zb) Zc)
 ·intro slices_IndexFunc_Type_unify_quantified_l1' Zcd s r hF
  unfold ZS.M
  refine en Tryz.func104 ?_
  refine AWP.seq ?_
  refine ns ?_
  refine AWP.seq ?_
  refine AWP.seq ?_
  refine ns ?_
  intro hlen1
  (try rw [List.length_map] at hlen1)
  (try rw [List.length_map])
  refine st ?_
  refine AWP.block ?_
  refine AWP.loop ?_
  refine AWL.weak (rn []) ?_ (Zcd s 0 s _ hF ([]) rfl rfl hlen1)
  exact (WS.mk (tc (tc (tc (tc Zb)))) Zc)
 ·intro unify_quantified' slices_IndexFunc_Type_unify_quantified_l1' ZnJ Zcd s x_8 Zbz r hF
  unfold Zw.M
  intro Zej ZjM ZjU hlen1
  refine AWL.step ?_
  refine AWP.seq ?_
  refine ns ?_
  refine AWP.seq ?_
  refine nw ?_
  refine ZN ZjM ZjU (fun x13 Zrs Zrn Zye Zz5 => ?_) (fun Zrn => ?_)
  ·subst Zrn
   refine nw ?_
   refine AWP.seq ?_
   refine AWP.block ?_
   refine AWP.seq ?_
   refine ns ?_
   refine AWP.seq ?_
   obtain ⟨r16, Zwk, hF⟩ := bind_some hF
   refine nn ?_
   refine sr (Zab (f := Za.cells) (Za.cells_eq x13) Zye) ?_
   refine st ?_
   refine e3 ?_
   refine st ?_
   refine cm (Zj.weak (rn []) (ZnJ x13 _ Zwk) rfl (WS.mk (Zd (Zt (lc (lc (lc (lc Zo))))) Zb) Zc)) ?_
   refine st ?_
   refine nw ?_
   refine Zi hF (fun ZiP hF => ?_) (fun ZiP hF => ?_)
   ·refine AWP.seq ?_
    refine ns ?_
    obtain rfl := Zg hF
    refine ns ?_
    refine Exists.intro [] ?_
    refine st ?_
    exact wx (WS.mk (tc Zb) Zc)
   ·refine nw ?_
    refine ns ?_
    refine AWL.weak (rn []) ?_ (Zcd s (x_8 + 1) Zrs _ hF (Zej ++ [x13]) (by rw [ZjM]; simp) (by rw [ZjU]; simp) hlen1)
    exact (WS.mk (tc (tc (tc (Zd (Zr (Zdf (ZV hlen1 Zz5))) Zb)))) Zc)
  ·subst Zrn
   refine nw ?_
   refine AWP.seq ?_
   refine ns ?_
   obtain rfl := Zg hF
   refine ns ?_
   refine Exists.intro [] ?_
   refine st ?_
   exact wx (WS.mk (tc Zb) Zc)
theorem ZnK : ∀ (t : Za), ∀ r, Za2 t = some r → Za2.M t r := ZeU.1
theorem slices_ContainsFunc_Type_unify_quantified_ok : ∀ (s : (List Za)), ∀ r, ZM s = some r → ZM.M s r := ZeU.2.1
theorem slices_IndexFunc_Type_unify_quantified_ok : ∀ (s : (List Za)), ∀ r, ZS s = some r → ZS.M s r := ZeU.2.2.1
theorem slices_IndexFunc_Type_unify_quantified_l1_ok : ∀ (s : (List Za)) (x_8 : Nat) (Zbz : (List Za)), ∀ r, Zw s x_8 Zbz = some r → Zw.M s x_8 Zbz r := ZeU.2.2.2

def ZdV (t : Za) : Option (Bool) :=
 Zci t >>= fun r1 =>
 (if (r1 == 0) = true then Za2 t >>= fun r2 =>
 some (!r2) else some false) >>= fun c3 =>
 some c3
def ZdV.M (t : Za) (r : Bool) : Prop :=
 Zj Tryz.prog 31 [.agg [.v (.int .i64 t.fOp), .v (.string t.fName), .sl (t.fBound.fArgs.map Zk.cells), .sl (t.fKids.map Za.cells)]] [] (fun d b => d = .c none (.v (.bool r)) ∧ b = [])
theorem Zl2 (t : Za) (r : Bool) (hF : ZdV t = some r) : ZdV.M t r := by
 unfold ZdV at hF
 unfold ZdV.M
 refine en Tryz.func31 ?_
 refine AWP.seq ?_
 refine ns ?_
 refine AWP.seq ?_
 obtain ⟨r1, hr1, hF⟩ := bind_some hF
 obtain ⟨c3, hc3, hF⟩ := bind_some hF
 refine AWP.cutN (fun T => ∃ r, WS r T ⟨[(2, .c none (.v (.bool c3)))], []⟩) ?_ (fun T hw => ?_)
 ·refine ns ?_
  refine e3 ?_
  refine st ?_
  refine cm (Zj.weak (rn []) (Zff t _ hr1) rfl (WS.mk (Zd (Zt (lc (lc (lc (lc Zo))))) Zb) Zc)) ?_
  refine st ?_
  refine Zm true (fun hc4 => ?_) (fun hc4 => ?_)
  ·have hc3 := ift hc4 hc3
   obtain ⟨r2, hr2, hc3⟩ := bind_some hc3
   (conv => whnf)
   refine st ?_
   refine e3 ?_
   refine st ?_
   refine cm (Zj.weak (rn []) (ZnK t _ hr2) rfl (WS.mk (Zd (Zt (lc (lc (lc (lc Zo))))) Zb) Zc)) ?_
   refine st ?_
   obtain rfl := Zg hc3
   refine st ?_
   exact wx (WS.mk (Zd (Zr (web hc4)) Zb) Zc)
  ·have hc3 := ife hc4 hc3
   (conv => whnf)
   obtain rfl := Zg hc3
   refine st ?_
   exact wx (WS.mk (Zd (Zr (web hc4)) Zb) Zc)
 obtain ⟨r0, hw⟩ := hw
 (conv => whnf)
 refine AWP.weak r0 hw ?_
 obtain rfl := Zg hF
 refine ns ?_
 refine Exists.intro [] ?_
 refine st ?_
 exact wx (WS.mk (tc Zb) Zc)

mutual
def Zae (t : Za) : Option (Bool) :=
 Zad 0 t t.fKids
 partial_fixpoint
def Zad (i_3 : Nat) (t : Za) (ZeY : (List Za)) : Option (Bool) :=
 (match ZeY with
 | x18 :: ZCU =>
 Zae x18 >>= fun r21 =>
 if r21 = true then
 some true
 else
 Zad (i_3 + 1) t ZCU
 | [] =>
 some (t.fOp == 4))
 partial_fixpoint
end
def Zae.M (t : Za) (r : Bool) : Prop :=
 Zj Tryz.prog 42 [.agg [.v (.int .i64 t.fOp), .v (.string t.fName), .sl (t.fBound.fArgs.map Zk.cells), .sl (t.fKids.map Za.cells)]] [] (fun d b => d = .c none (.v (.bool r)) ∧ b = [])
def Zad.M (i_3 : Nat) (t : Za) (ZeY : (List Za)) (r : Bool) : Prop :=
 ∀ Zjc : List Za, t.fKids = Zjc ++ ZeY → i_3 = Zjc.length → AWL Tryz.prog 20 (Code.sub (Zq Tryz.f42) [1, 0, 1, 0, 0]) (Code.cont Tryz.prog 20 (Zq Tryz.f42) [1, 0, 1, 0] (ZbW tab Tryz.f42.results (ZbY (.c none (.v (.bool r))) []))) ⟨[(1, .ptr 1 0), (3, .c none (.v (.int .i64 ((i_3 : Nat) : Int))))], [(1, [(none, .v (.int .i64 t.fOp)), (none, .v (.string t.fName)), (none, .sl (t.fBound.fArgs.map Zk.cells)), (none, .sl (t.fKids.map Za.cells))])]⟩
theorem Zgk : (∀ (t : Za), ∀ r, Zae t = some r → Zae.M t r) ∧ (∀ (i_3 : Nat) (t : Za) (ZeY : (List Za)), ∀ r, Zad i_3 t ZeY = some r → Zad.M i_3 t ZeY r) := by
 refine Zae.mutual_partial_correctness Zae.M Zad.M ?_ ?_
 ·intro lazycref18_quantified_l1' Zef t r hF
  unfold Zae.M
  refine en Tryz.func42 ?_
  refine AWP.seq ?_
  refine ns ?_
  refine AWP.seq ?_
  refine AWP.seq ?_
  refine ns ?_
  refine AWP.block ?_
  refine AWP.loop ?_
  refine AWL.weak (rn []) ?_ (Zef 0 t t.fKids _ hF ([]) rfl rfl)
  exact (WS.mk (tp (tc Zb)) (Zf rfl (cc (cc (cc (cc Zh)))) Zc))
 ·intro lazycref18_quantified' lazycref18_quantified_l1' Zkv Zef i_3 t ZeY r hF
  unfold Zad.M
  intro Zjc Zq0 Zrl
  refine AWL.step ?_
  refine AWP.seq ?_
  refine AWP.seq ?_
  refine ns ?_
  intro hlen17
  (try rw [List.length_map] at hlen17)
  (try rw [List.length_map])
  refine st ?_
  refine nw ?_
  refine ZN Zq0 Zrl (fun x18 ZCU ZDR ZG9 ZHB => ?_) (fun ZDR => ?_)
  ·subst ZDR
   refine nw ?_
   refine AWP.seq ?_
   refine AWP.block ?_
   refine AWP.seq ?_
   obtain ⟨r21, ZDA, hF⟩ := bind_some hF
   refine nn ?_
   refine sr (Zab (f := Za.cells) (Za.cells_eq x18) ZG9) ?_
   refine st ?_
   refine e3 ?_
   refine st ?_
   refine cm (Zj.weak (rn []) (Zkv x18 _ ZDA) rfl (WS.mk (Zd (Zt (lc (lc (lc (lc Zo))))) Zb) Zc)) ?_
   refine st ?_
   refine nw ?_
   refine Zi hF (fun Zta hF => ?_) (fun Zta hF => ?_)
   ·refine AWP.seq ?_
    refine ns ?_
    obtain rfl := Zg hF
    refine ns ?_
    refine Exists.intro [] ?_
    refine st ?_
    exact wx (WS.mk (tc Zb) Zc)
   ·refine nw ?_
    refine ns ?_
    refine AWL.weak (rn []) ?_ (Zef (i_3 + 1) t ZCU _ hF (Zjc ++ [x18]) (by rw [Zq0]; simp) (by rw [Zrl]; simp))
    exact (WS.mk (tp (Zd (Zr (Zdf (ZV hlen17 ZHB))) Zb)) (Zf rfl (cc (cc (cc (cc Zh)))) Zc))
  ·subst ZDR
   refine nw ?_
   refine AWP.seq ?_
   refine ns ?_
   obtain rfl := Zg hF
   refine ns ?_
   refine Exists.intro [] ?_
   refine st ?_
   exact wx (WS.mk (tc Zb) Zc)
theorem Zkq : ∀ (t : Za), ∀ r, Zae t = some r → Zae.M t r := Zgk.1
theorem lazycref18_quantified_l1_ok : ∀ (i_3 : Nat) (t : Za) (ZeY : (List Za)), ∀ r, Zad i_3 t ZeY = some r → Zad.M i_3 t ZeY r := Zgk.2

def Zce (t : Za) : Option (Bool) :=
 ZaG t >>= fun r1 =>
 (if (r1 == 0) = true then Zae t >>= fun r2 =>
 some (!r2) else some false) >>= fun c3 =>
 some c3
def Zce.M (t : Za) (r : Bool) : Prop :=
 Zj Tryz.prog 21 [.agg [.v (.int .i64 t.fOp), .v (.string t.fName), .sl (t.fBound.fArgs.map Zk.cells), .sl (t.fKids.map Za.cells)]] [] (fun d b => d = .c none (.v (.bool r)) ∧ b = [])
theorem ZiD (t : Za) (r : Bool) (hF : Zce t = some r) : Zce.M t r := by
 unfold Zce at hF
 unfold Zce.M
 refine en Tryz.func21 ?_
 refine AWP.seq ?_
 refine ns ?_
 refine AWP.seq ?_
 obtain ⟨r1, hr1, hF⟩ := bind_some hF
 obtain ⟨c3, hc3, hF⟩ := bind_some hF
 refine AWP.cutN (fun T => ∃ r, WS r T ⟨[(2, .c none (.v (.bool c3)))], []⟩) ?_ (fun T hw => ?_)
 ·refine ns ?_
  refine e3 ?_
  refine st ?_
  refine cm (Zj.weak (rn []) (ZdI t _ hr1) rfl (WS.mk (Zd (Zt (lc (lc (lc (lc Zo))))) Zb) Zc)) ?_
  refine st ?_
  refine Zm true (fun hc4 => ?_) (fun hc4 => ?_)
  ·have hc3 := ift hc4 hc3
   obtain ⟨r2, hr2, hc3⟩ := bind_some hc3
   (conv => whnf)
   refine st ?_
   refine e3 ?_
   refine st ?_
   refine cm (Zj.weak (rn []) (Zkq t _ hr2) rfl (WS.mk (Zd (Zt (lc (lc (lc (lc Zo))))) Zb) Zc)) ?_
   refine st ?_
   obtain rfl := Zg hc3
   refine st ?_
   exact wx (WS.mk (Zd (Zr (web hc4)) Zb) Zc)
  ·have hc3 := ife hc4 hc3
   (conv => whnf)
   obtain rfl := Zg hc3
   refine st ?_
   exact wx (WS.mk (Zd (Zr (web hc4)) Zb) Zc)
 obtain ⟨r0, hw⟩ := hw
 (conv => whnf)
 refine AWP.weak r0 hw ?_
 obtain rfl := Zg hF
 refine ns ?_
 refine Exists.intro [] ?_
 refine st ?_
 exact wx (WS.mk (tc Zb) Zc)

mutual
def Zcn (t : Za) : Option (Za) :=
 ZaJ t 0 ([]) t.fKids
 partial_fixpoint
def ZaJ (t : Za) (Zqi : Nat) (Zfb : (List Za)) (Ziq : (List Za)) : Option (Za) :=
 (match Ziq with
 | x59 :: Zwh =>
 Zcn x59 >>= fun r68 =>
 Z4 ((Zfb.length + ([r68]).length) * 72 ≤ 140737488355328) >>= fun _ =>
 ZaJ t (Zqi + 1) (Zfb ++ ([r68])) Zwh
 | [] =>
 some (Za.mk t.fOp t.fName t.fBound Zfb))
 partial_fixpoint
end
def Zcn.M (t : Za) (r : Za) : Prop :=
 Zj Tryz.prog 54 [.agg [.v (.int .i64 t.fOp), .v (.string t.fName), .sl (t.fBound.fArgs.map Zk.cells), .sl (t.fKids.map Za.cells)]] [] (fun d b => d = .agg [.v (.int .i64 r.fOp), .v (.string r.fName), .sl (r.fBound.fArgs.map Zk.cells), .sl (r.fKids.map Za.cells)] ∧ b = [])
def ZaJ.M (t : Za) (Zqi : Nat) (Zfb : (List Za)) (Ziq : (List Za)) (r : Za) : Prop :=
 ∀ Zow : List Za, t.fKids = Zow ++ Ziq → Zqi = Zow.length → t.fKids.length ≤ maxLen → AWL Tryz.prog 24 (Code.sub (Zq Tryz.f54) [1, 1, 1, 0, 1, 0, 0]) (Code.cont Tryz.prog 24 (Zq Tryz.f54) [1, 1, 1, 0, 1, 0] (ZbW tab Tryz.f54.results (ZbY (.agg [.v (.int .i64 r.fOp), .v (.string r.fName), .sl (r.fBound.fArgs.map Zk.cells), .sl (r.fKids.map Za.cells)]) []))) ⟨[(1, .ptr 1 0), (2, .ptr 2 0), (9, .c none (.sl (t.fKids.map Za.cells))), (10, .c none (.v (.int .i64 ((t.fKids.length : Nat) : Int)))), (11, .c none (.v (.int .i64 ((Zqi : Nat) : Int))))], [(1, [(none, .v (.int .i64 t.fOp)), (none, .v (.string t.fName)), (none, .sl (t.fBound.fArgs.map Zk.cells)), ((some (4053, 28)), .sl (Zfb.map Za.cells))]), (2, [(none, .v (.int .i64 0)), (none, .v (.string (ByteArray.mk #[]))), (none, .nils), (none, .nils)])]⟩
theorem Zk2 : (∀ (t : Za), ∀ r, Zcn t = some r → Zcn.M t r) ∧ (∀ (t : Za) (Zqi : Nat) (Zfb : (List Za)) (Ziq : (List Za)), ∀ r, ZaJ t Zqi Zfb Ziq = some r → ZaJ.M t Zqi Zfb Ziq r) := by
 refine Zcn.mutual_partial_correctness Zcn.M ZaJ.M ?_ ?_
 ·intro unify_copied_l1' Zg1 t r hF
  unfold Zcn.M
  refine en Tryz.func54 ?_
  refine AWP.seq ?_
  refine ns ?_
  refine AWP.seq ?_
  refine ns ?_
  refine AWP.seq ?_
  refine ns ?_
  refine AWP.seq ?_
  refine AWP.seq ?_
  refine ns ?_
  intro hlen35
  (try rw [List.length_map] at hlen35)
  (try rw [List.length_map])
  refine st ?_
  refine AWP.block ?_
  refine AWP.loop ?_
  refine AWL.weak (rn []) ?_ (Zg1 t 0 ([]) t.fKids _ hF ([]) rfl rfl hlen35)
  exact (WS.mk (tp (tp (tc (tc (tc Zb))))) (Zf rfl (cc (cc (cc (Zno Zh)))) (Zf rfl (cc (cc (cc (cc Zh)))) Zc)))
 ·intro unify_copied' unify_copied_l1' Zp6 Zg1 t Zqi Zfb Ziq r hF
  unfold ZaJ.M
  intro Zow ZwB Zxh hlen35
  refine AWL.step ?_
  refine AWP.seq ?_
  refine ns ?_
  refine AWP.seq ?_
  refine nw ?_
  refine ZN ZwB Zxh (fun x59 Zwh ZvI ZDu ZDS => ?_) (fun ZvI => ?_)
  ·subst ZvI
   refine nw ?_
   refine AWP.seq ?_
   refine AWP.block ?_
   refine AWP.seq ?_
   refine nn ?_
   refine sr (Zab (f := Za.cells) (Za.cells_eq x59) ZDu) ?_
   refine st ?_
   obtain ⟨r68, ZCg, hF⟩ := bind_some hF
   obtain ⟨ZCb, hF⟩ := Zy hF
   refine nn ?_
   refine Or.inl (Exists.intro 5 (Exists.intro [[], [], [], [], []] (Exists.intro [([15, 16, 17, 18, 19], [], []), ([16, 17, 18, 19], [], []), ([15, 16, 17, 18, 19], [], []), ([15, 16, 18, 19], [], []), ([15, 16, 19], [], [])] (Exists.intro [15, 16, 17, 18, 19] (And.intro (by decide +kernel) ?_)))))
   refine dp ?_
   refine dp ?_
   refine dp ?_
   (refine st ?_; apply Exists.intro; apply Exists.intro; apply And.intro; (focus ((conv => whnf); refine Exists.intro [] ?_; (conv => whnf); refine And.intro rfl ?_; (conv => whnf); refine Zj.mono (Zj.weak (rn []) (Zp6 x59 _ ZCg) rfl (WS.mk (Zd (Zt (lc (lc (lc (lc Zo))))) Zb) Zc)) ?_; rintro d b ⟨rfl, rfl⟩; exact And.intro rfl (And.intro rfl rfl))); apply And.intro; (focus exact rfl); (conv => whnf))
   refine de (Zbs (f := Za.cells) (ZdA (Za.cells_eq r68) (lc (lc (lc (lc Zo))))) (ZY (f := Za.cells))) ?_
   refine sa (fun l => ZbO l (fun x => Za.cells_len x)) ZCb ?_
   refine Exists.intro _ (And.intro (WE.refl _) ?_)
   rw [← List.map_append]
   refine st ?_
   refine ns ?_
   refine AWL.weak (rn [(20, 4053)]) ?_ (Zg1 t (Zqi + 1) (Zfb ++ ([r68])) Zwh _ hF (Zow ++ [x59]) (by rw [ZwB]; simp) (by rw [Zxh]; simp) hlen35)
   exact (WS.mk (tp (tp (tc (tc (Zd (Zr (Zdf (ZV hlen35 ZDS))) Zb))))) (Zf rfl (cc (cc (cc (ZtE rfl (WE.refl _) Zh)))) (Zf rfl (cc (cc (cc (cc Zh)))) Zc)))
  ·subst ZvI
   refine nw ?_
   refine AWP.seq ?_
   refine ns ?_
   obtain rfl := Zg hF
   refine ns ?_
   refine Exists.intro [] ?_
   refine st ?_
   exact wx (WS.mk (Zd (Zt (lc (lc (lc (lc Zo))))) Zb) Zc)
theorem Zqm : ∀ (t : Za), ∀ r, Zcn t = some r → Zcn.M t r := Zk2.1
theorem unify_copied_l1_ok : ∀ (t : Za) (Zqi : Nat) (Zfb : (List Za)) (Ziq : (List Za)), ∀ r, ZaJ t Zqi Zfb Ziq = some r → ZaJ.M t Zqi Zfb Ziq r := Zk2.2

mutual
def ZaT (k : Zk) : Option (Zk) :=
 Zbe k 0 ([]) k.fArgs
 partial_fixpoint
def Zbe (k : Zk) (x_9 : Nat) (Zgi : (List Zk)) (ZaW : (List Zk)) : Option (Zk) :=
 (match ZaW with
 | x59 :: Zwh =>
 ZaT x59 >>= fun r68 =>
 Z4 ((Zgi.length + ([r68]).length) * 24 ≤ 140737488355328) >>= fun _ =>
 Zbe k (x_9 + 1) (Zgi ++ ([r68])) Zwh
 | [] =>
 some (Zk.mk Zgi))
 partial_fixpoint
end
def ZaT.M (k : Zk) (r : Zk) : Prop :=
 Zj Tryz.prog 99 [.agg [.sl (k.fArgs.map Zk.cells)]] [] (fun d b => d = .agg [.sl (r.fArgs.map Zk.cells)] ∧ b = [])
def Zbe.M (k : Zk) (x_9 : Nat) (Zgi : (List Zk)) (ZaW : (List Zk)) (r : Zk) : Prop :=
 ∀ Zdx : List Zk, k.fArgs = Zdx ++ ZaW → x_9 = Zdx.length → k.fArgs.length ≤ maxLen → AWL Tryz.prog 22 (Code.sub (Zq Tryz.f99) [1, 1, 0, 1, 0, 0]) (Code.cont Tryz.prog 22 (Zq Tryz.f99) [1, 1, 0, 1, 0] (ZbW tab Tryz.f99.results (ZbY (.agg [.sl (r.fArgs.map Zk.cells)]) []))) ⟨[(2, .ptr 2 0), (3, .ptr 3 0), (7, .c none (.sl (k.fArgs.map Zk.cells))), (8, .c none (.v (.int .i64 ((k.fArgs.length : Nat) : Int)))), (9, .c none (.v (.int .i64 ((x_9 : Nat) : Int))))], [(2, [(none, .nils)]), (3, [((some (4150, 25)), .sl (Zgi.map Zk.cells))])]⟩
theorem Ziw : (∀ (k : Zk), ∀ r, ZaT k = some r → ZaT.M k r) ∧ (∀ (k : Zk) (x_9 : Nat) (Zgi : (List Zk)) (ZaW : (List Zk)), ∀ r, Zbe k x_9 Zgi ZaW = some r → Zbe.M k x_9 Zgi ZaW r) := by
 refine ZaT.mutual_partial_correctness ZaT.M Zbe.M ?_ ?_
 ·intro types_copiedKind_l1' Zfq k r hF
  unfold ZaT.M
  refine en Tryz.func99 ?_
  refine AWP.seq ?_
  refine ns ?_
  refine AWP.seq ?_
  refine ns ?_
  refine AWP.seq ?_
  refine AWP.seq ?_
  refine ns ?_
  intro hlen35
  (try rw [List.length_map] at hlen35)
  (try rw [List.length_map])
  refine st ?_
  refine AWP.block ?_
  refine AWP.loop ?_
  refine AWL.weak (rn []) ?_ (Zfq k 0 ([]) k.fArgs _ hF ([]) rfl rfl hlen35)
  exact (WS.mk (tp (tp (tc (tc (tc Zb))))) (Zf rfl (cc Zh) (Zf rfl (Zno Zh) Zc)))
 ·intro types_copiedKind' types_copiedKind_l1' ZnH Zfq k x_9 Zgi ZaW r hF
  unfold Zbe.M
  intro Zdx ZhP ZhI hlen35
  refine AWL.step ?_
  refine AWP.seq ?_
  refine ns ?_
  refine AWP.seq ?_
  refine nw ?_
  refine ZN ZhP ZhI (fun x59 Zwh ZvI ZDu ZDS => ?_) (fun ZvI => ?_)
  ·subst ZvI
   refine nw ?_
   refine AWP.seq ?_
   refine AWP.block ?_
   refine AWP.seq ?_
   refine nn ?_
   refine sr (Zab (f := Zk.cells) (Zk.cells_eq x59) ZDu) ?_
   refine st ?_
   obtain ⟨r68, ZCg, hF⟩ := bind_some hF
   obtain ⟨ZCb, hF⟩ := Zy hF
   refine nn ?_
   refine Or.inl (Exists.intro 5 (Exists.intro [[], [], [], [], []] (Exists.intro [([13, 14, 15, 16, 17], [], []), ([14, 15, 16, 17], [], []), ([13, 14, 15, 16, 17], [], []), ([13, 14, 16, 17], [], []), ([13, 14, 17], [], [])] (Exists.intro [13, 14, 15, 16, 17] (And.intro (by decide +kernel) ?_)))))
   refine dp ?_
   refine dp ?_
   refine dp ?_
   (refine st ?_; apply Exists.intro; apply Exists.intro; apply And.intro; (focus ((conv => whnf); refine Exists.intro [] ?_; (conv => whnf); refine And.intro rfl ?_; (conv => whnf); refine Zj.mono (Zj.weak (rn []) (ZnH x59 _ ZCg) rfl (WS.mk (Zd (Zt (lc Zo)) Zb) Zc)) ?_; rintro d b ⟨rfl, rfl⟩; exact And.intro rfl (And.intro rfl rfl))); apply And.intro; (focus exact rfl); (conv => whnf))
   refine de (Zbs (f := Zk.cells) (ZdA (Zk.cells_eq r68) (lc Zo)) (ZY (f := Zk.cells))) ?_
   refine sa (fun l => ZbO l (fun x => Zk.cells_len x)) ZCb ?_
   refine Exists.intro _ (And.intro (WE.refl _) ?_)
   rw [← List.map_append]
   refine st ?_
   refine ns ?_
   refine AWL.weak (rn [(18, 4150)]) ?_ (Zfq k (x_9 + 1) (Zgi ++ ([r68])) Zwh _ hF (Zdx ++ [x59]) (by rw [ZhP]; simp) (by rw [ZhI]; simp) hlen35)
   exact (WS.mk (tp (tp (tc (tc (Zd (Zr (Zdf (ZV hlen35 ZDS))) Zb))))) (Zf rfl (cc Zh) (Zf rfl (ZtE rfl (WE.refl _) Zh) Zc)))
  ·subst ZvI
   refine nw ?_
   refine AWP.seq ?_
   refine ns ?_
   obtain rfl := Zg hF
   refine ns ?_
   refine Exists.intro [] ?_
   refine st ?_
   exact wx (WS.mk (Zd (Zt (lc Zo)) Zb) Zc)
theorem ZnC : ∀ (k : Zk), ∀ r, ZaT k = some r → ZaT.M k r := Ziw.1
theorem types_copiedKind_l1_ok : ∀ (k : Zk) (x_9 : Nat) (Zgi : (List Zk)) (ZaW : (List Zk)), ∀ r, Zbe k x_9 Zgi ZaW = some r → Zbe.M k x_9 Zgi ZaW r := Ziw.2

end Go.Proofs.YtgbglhbdjambbaaGreatDoor
